/- Walks written by program: each Go function that the law reaches comes to the plain function beside it. -/
import Derived.Test.YtndfnaehpdkaiaaPAx0
import Derived.Test.YtndfnaehpdkaiaaPAx1
import Derived.Test.YtndfnaehpdkaiaaPAx4
import Derived.Test.YtndfnaehpdkaiaaPAx6
import Derived.Test.YtndfnaehpdkaiaaPAx8
import Derived.Test.YtndfnaehpdkaiaaPAx13
namespace Go.Proofs.Ytndfnaehpdkaiaa.PA
open Go.RowKit Go.Proofs.YtndfnaehpdkaiaaW.PrintWords Go.Proofs.YtndfnaehpdkaiaaW.PrintLast Go.Proofs.YtndfnaehpdkaiaaW.PrintMore
attribute [local go_sem] max2_int min2_int max_two min_two max_three min_three max_four min_four   -- for this text's walks alone
set_option linter.unusedVariables false
set_option linter.unusedSimpArgs false

attribute [local go_sem high] eqA31
/-! ### spec_l04Mats: function 126 -/
def spec_l04Mats.l0 : Nat → Int → List (S33) → Int → Option ((List (S33)))
 | 0, _, _, _ => none
 | k + 1, x0, x3, x4 => if x4 < 81 then ((spec_l04Keeps.f x0 (wrap64 ((wrap64 (Int.tdiv x4 27)) - 1)) (wrap64 ((Int.tmod (wrap64 (Int.tdiv x4 9)) 3) - 1)) (wrap64 ((Int.tmod (wrap64 (Int.tdiv x4 3)) 3) - 1)) (wrap64 ((Int.tmod x4 3) - 1))).bind fun t374 => (if t374 = true then (if x3.length < 4398046511104 then (spec_l04Mats.l0 k x0 (x3 ++ [(⟨wrap64 ((wrap64 (Int.tdiv x4 27)) - 1), wrap64 ((Int.tmod (wrap64 (Int.tdiv x4 9)) 3) - 1), wrap64 ((Int.tmod (wrap64 (Int.tdiv x4 3)) 3) - 1), wrap64 ((Int.tmod x4 3) - 1)⟩ : S33)]) (wrap64 (x4 + 1))) else (none)) else (spec_l04Mats.l0 k x0 x3 (wrap64 (x4 + 1))))) else (some x3)
def spec_l04Mats.f (k : Nat) (a0 : Int) : Option ((List (S33))) := spec_l04Mats.l0 k a0 (([] : List (S33))) 0
set_option maxHeartbeats 8000000 in
set_option maxRecDepth 100000 in
theorem spec_l04Mats.calls (k : Nat) (a0 : Int) (r : List (S33)) (w : World) (h : spec_l04Mats.f k a0 = some r) :
  Calls Try.prog 126 #[.int .i64 a0] w fun e w' => ∃ v0_ : Value, e = .returned (v0_) ∧ Kd.R k33 33 w' w.heap.size (fun _ => True) v0_ r ∧ Below w.heap.size w w' := by
 have hu33 := Try.underlying33
 have HB := Aside0.mk (Below.refl w.heap.size w)
 have H : (spec_l04Mats.l0 k a0 (([] : List (S33))) 0) = some r := h
 clear h
 obtain ⟨y370, hy370⟩ : ∃ y_ : List (S33), y_ = (([] : List (S33))) := ⟨_, rfl⟩
 replace H : (spec_l04Mats.l0 k a0 y370 0) = some r := by first | (rw [hy370]; with_reducible exact H) | (have H2_ := (Option.bind_some _ _).symm.trans H; rw [hy370]; with_reducible exact H2_) | (have H2_ := (Option.bind_some _ _).symm.trans H; with_reducible exact H2_) | with_reducible exact H | (rw [hy370]; exact H) | exact H
 have Ny370 := Aside0.mk hy370
 clear hy370
 have H' := Aside0.mk H
 clear H
 go_enter Try.func126, Try.ntmps126
 go_wp2_with (first | ((with_reducible refine gate_dst (N := 6) rfl ?_); refine Kd.R_lit k33 _ 33 ?hg (N := 6) ?hd (xs := ([] : List (S33))) (inner := []) (ok := fun _ => True) (okp := fun _ => True) ?hr ?hp (fun _ hk => hk) trivial (Below.refl _ _) (Nat.le_refl _) (by simp) ?_; (case hd => rfl); (case hg => rfl); (case hr => first | (go_simp; done) | (go_simp; rfl)); (case hp => exact (Reps.none _ _)); intro v371 w2 ho3 hb hg_ hnew_; clear hg_ hnew_; (first | rw [← Ny370.out] at ho3 | (simp only [Int.reduceToNat] at ho3; rw [← Ny370.out] at ho3)); have n0_ := Aside0.mk (Kd.R_lower ho3 (bsz0 HB)); have n1_ := Aside0.mk (bst0 HB hb); clear HB; have HO372 := n0_; have HB := n1_; clear n0_ n1_; clear hb ho3))
 go_loopg [3, 4] k (fun kq v3 v4 w' => ∃ (x3_1 : List (S33)) (x4_1 : Int), v4 = .int .i64 x4_1 ∧ Aside0 (spec_l04Mats.l0 kq a0 x3_1 x4_1 = some r) ∧ Aside0 (kq ≤ k) ∧ Aside0 (Kd.R k33 33 w' w.heap.size (fun _ => True) v3 x3_1) ∧ Aside0 (Below w.heap.size w w'))
 case atStart => exact ⟨(y370), (0), (by first | rfl | (simp; done) | (simp [*]; done)), H', ⟨Nat.le_refl _⟩, ⟨by (with_reducible repeat (first | apply Kd.R_alloc | apply Kd.R_drewN | apply Kd.R_drew)); exact HO372.out⟩, ⟨bbw0 HB⟩⟩
 case round =>
  clear H'
  try clear c1
  try clear p2
  obtain ⟨x3_1, x4_1, rfl, HA, HK1, HO_3, HB⟩ := hrel
  cases gk with
  | zero => exact absurd HA.out (by simp [spec_l04Mats.l0])
  | succ k1 =>
   have H := HA.out
   clear HA
   simp only [spec_l04Mats.l0] at H
   by_cases c4 : x4_1 < 81
   ·rw [if_pos c4] at H
    have c4b0 : decide (x4_1 < 81) = true := decide_eq_true c4
    clear c4
    replace H := Option.bind_eq_some_iff.mp H
    obtain ⟨t374, A50, H⟩ := H
    replace H : (if t374 = true then (if x3_1.length < 4398046511104 then (spec_l04Mats.l0 k1 a0 (x3_1 ++ [(⟨wrap64 ((wrap64 (Int.tdiv x4_1 27)) - 1), wrap64 ((Int.tmod (wrap64 (Int.tdiv x4_1 9)) 3) - 1), wrap64 ((Int.tmod (wrap64 (Int.tdiv x4_1 3)) 3) - 1), wrap64 ((Int.tmod x4_1 3) - 1)⟩ : S33)]) (wrap64 (x4_1 + 1))) else (none)) else (spec_l04Mats.l0 k1 a0 x3_1 (wrap64 (x4_1 + 1)))) = some r := H
    have A5 := Aside0.mk A50
    clear A50
    by_cases c6 : t374 = true
    ·subst c6
     have H1 : (if x3_1.length < 4398046511104 then (spec_l04Mats.l0 k1 a0 (x3_1 ++ [(⟨wrap64 ((wrap64 (Int.tdiv x4_1 27)) - 1), wrap64 ((Int.tmod (wrap64 (Int.tdiv x4_1 9)) 3) - 1), wrap64 ((Int.tmod (wrap64 (Int.tdiv x4_1 3)) 3) - 1), wrap64 ((Int.tmod x4_1 3) - 1)⟩ : S33)]) (wrap64 (x4_1 + 1))) else (none)) = some r := by rw [if_pos rfl] at H; first | done | exact H
     clear H
     have H := H1
     clear H1
     by_cases c7 : x3_1.length < 4398046511104
     ·rw [if_pos c7] at H
      have LMc7 := Aside0.mk c7
      clear c7
      obtain ⟨y375, hy375⟩ : ∃ y_ : List (S33), y_ = (x3_1 ++ [(⟨wrap64 ((wrap64 (Int.tdiv x4_1 27)) - 1), wrap64 ((Int.tmod (wrap64 (Int.tdiv x4_1 9)) 3) - 1), wrap64 ((Int.tmod (wrap64 (Int.tdiv x4_1 3)) 3) - 1), wrap64 ((Int.tmod x4_1 3) - 1)⟩ : S33)]) := ⟨_, rfl⟩
      replace H : (spec_l04Mats.l0 k1 a0 y375 (wrap64 (x4_1 + 1))) = some r := by first | (rw [hy375]; with_reducible exact H) | (have H2_ := (Option.bind_some _ _).symm.trans H; rw [hy375]; with_reducible exact H2_) | (have H2_ := (Option.bind_some _ _).symm.trans H; with_reducible exact H2_) | with_reducible exact H | (rw [hy375]; exact H) | exact H
      have Ny375 := Aside0.mk hy375
      clear hy375
      have H' := Aside0.mk H
      clear H
      go_wp2_with (first | ((with_reducible refine gate_dst (N := 5) rfl ?_); refine box_event ?hg (N := 5) ?hd (cs := #[.int .i64 0, .int .i64 0, .int .i64 0, .int .i64 0]) (t := 33) ?hr ?_; (case hd => rfl); (case hg => rfl); (case hr => first | (go_simp; done) | (go_simp; rfl)); intro gb373 hg w8 hbox hb; have n0_ := Aside0.mk (Kd.R_below (Kd.R_elderB (by (with_reducible repeat (first | apply Kd.R_alloc | apply Kd.R_drewN | apply Kd.R_drew)); exact HO_3.out) gb373 (Nat.le_of_eq hg.symm)) hb); have n1_ := Aside0.mk (bst0 HB hb); have n2_ := Aside0.mk (hbox); have n3_ := ngw0 hg HB; have n4_ := n3_; clear HO_3; clear HB; have HO_3 := n0_; have HB := n1_; have BK373 := n2_; have GW373 := n3_; have GE373 := n4_; clear n0_ n1_ n2_ n3_ n4_; clear hb hbox hg; have hcz9_0 : w8.cell? ⟨gb373, 0, none⟩ = some (.int .i64 0) := bcl BK373 0; have hcz9_1 : w8.cell? ⟨gb373, 1, none⟩ = some (.int .i64 0) := bcl BK373 1; have hcz9_2 : w8.cell? ⟨gb373, 2, none⟩ = some (.int .i64 0) := bcl BK373 2; have hcz9_3 : w8.cell? ⟨gb373, 3, none⟩ = some (.int .i64 0) := bcl BK373 3; have hfz9_0 := blk_frozen BK373.out 0; have hfz9_1 := blk_frozen BK373.out 1; have hfz9_2 := blk_frozen BK373.out 2; have hfz9_3 := blk_frozen BK373.out 3) | ((with_reducible refine gate_callee (f := 75) rfl ?_); refine goesL_ (some 28) rfl rfl Try.func75 (by kernel_rfl) rfl #[.int .i64 a0, .agg #[.int .i64 (wrap64 ((wrap64 (Int.tdiv x4_1 27)) - 1)), .int .i64 (wrap64 ((Int.tmod (wrap64 (Int.tdiv x4_1 9)) 3) - 1)), .int .i64 (wrap64 ((Int.tmod (wrap64 (Int.tdiv x4_1 3)) 3) - 1)), .int .i64 (wrap64 ((Int.tmod x4_1 3) - 1))]] rfl (by (try simp only [List.map_toArray, List.map_cons, List.map_nil]); first | done | rfl | (simp only [List.length_drop, List.length_take]; rfl)) ?_; (with_reducible refine (spec_l04Keeps.calls a0 (wrap64 ((wrap64 (Int.tdiv x4_1 27)) - 1)) (wrap64 ((Int.tmod (wrap64 (Int.tdiv x4_1 9)) 3) - 1)) (wrap64 ((Int.tmod (wrap64 (Int.tdiv x4_1 3)) 3) - 1)) (wrap64 ((Int.tmod x4_1 3) - 1)) true _ A5.out).mono ?_); rintro e w10 ⟨rfl, hb⟩; refine ⟨_, rfl, ?_⟩; have n0_ := Aside0.mk (Kd.R_below (by (with_reducible repeat (first | apply Kd.R_alloc | apply Kd.R_drewN | apply Kd.R_drew)); exact (Kd.R_mono (Kd.R_far (p := ⟨gb373, 3, none⟩) (Kd.R_far (p := ⟨gb373, 2, none⟩) (Kd.R_far (p := ⟨gb373, 1, none⟩) (Kd.R_far (p := ⟨gb373, 0, none⟩) (Kd.R_mono HO_3.out (fun k_ hk => (⟨hk, hk.2⟩ : _ ∧ k_ ≠ gb373))) (fun _ hk => hk.2) (.int .i64 (wrap64 ((wrap64 (Int.tdiv x4_1 27)) - 1)))) (fun _ hk => hk.2) (.int .i64 (wrap64 ((Int.tmod (wrap64 (Int.tdiv x4_1 9)) 3) - 1)))) (fun _ hk => hk.2) (.int .i64 (wrap64 ((Int.tmod (wrap64 (Int.tdiv x4_1 3)) 3) - 1)))) (fun _ hk => hk.2) (.int .i64 (wrap64 ((Int.tmod x4_1 3) - 1)))) (fun _ h_ => h_.1))) hb); have n1_ := Aside0.mk (blk_below (g := gb373) (o := .cells #[.int .i64 (wrap64 ((wrap64 (Int.tdiv x4_1 27)) - 1)), .int .i64 (wrap64 ((Int.tmod (wrap64 (Int.tdiv x4_1 9)) 3) - 1)), .int .i64 (wrap64 ((Int.tmod (wrap64 (Int.tdiv x4_1 3)) 3) - 1)), .int .i64 (wrap64 ((Int.tmod x4_1 3) - 1))] 33 (0, 0)) (by (with_reducible repeat (first | refine blk_drewN ?_ _ | refine blk_drew ?_ | refine blk_alloc ?_ _)); refine blk_put (cs := #[.int .i64 (wrap64 ((wrap64 (Int.tdiv x4_1 27)) - 1)), .int .i64 (wrap64 ((Int.tmod (wrap64 (Int.tdiv x4_1 9)) 3) - 1)), .int .i64 (wrap64 ((Int.tmod (wrap64 (Int.tdiv x4_1 3)) 3) - 1)), .int .i64 0]) ?_ 3 _ rfl; (with_reducible repeat (first | refine blk_drewN ?_ _ | refine blk_drew ?_ | refine blk_alloc ?_ _)); refine blk_put (cs := #[.int .i64 (wrap64 ((wrap64 (Int.tdiv x4_1 27)) - 1)), .int .i64 (wrap64 ((Int.tmod (wrap64 (Int.tdiv x4_1 9)) 3) - 1)), .int .i64 0, .int .i64 0]) ?_ 2 _ rfl; (with_reducible repeat (first | refine blk_drewN ?_ _ | refine blk_drew ?_ | refine blk_alloc ?_ _)); refine blk_put (cs := #[.int .i64 (wrap64 ((wrap64 (Int.tdiv x4_1 27)) - 1)), .int .i64 0, .int .i64 0, .int .i64 0]) ?_ 1 _ rfl; (with_reducible repeat (first | refine blk_drewN ?_ _ | refine blk_drew ?_ | refine blk_alloc ?_ _)); refine blk_put (cs := #[.int .i64 0, .int .i64 0, .int .i64 0, .int .i64 0]) ?_ 0 _ rfl; (with_reducible repeat (first | refine blk_drewN ?_ _ | refine blk_drew ?_ | refine blk_alloc ?_ _)); exact BK373.out) hb); have n2_ := Aside0.mk (bst1 HB GE373 hb); clear HO_3; clear BK373; clear HB; have HO_3 := n0_; have BK373 := n1_; have HB := n2_; clear n0_ n1_ n2_; (try clear hb); (try clear hb2); (try clear hk); (try clear hi); have hcz11_0 : w10.cell? ⟨gb373, 0, none⟩ = some (.int .i64 (wrap64 ((wrap64 (Int.tdiv x4_1 27)) - 1))) := bcl BK373 0; have hcz11_1 : w10.cell? ⟨gb373, 1, none⟩ = some (.int .i64 (wrap64 ((Int.tmod (wrap64 (Int.tdiv x4_1 9)) 3) - 1))) := bcl BK373 1; have hcz11_2 : w10.cell? ⟨gb373, 2, none⟩ = some (.int .i64 (wrap64 ((Int.tmod (wrap64 (Int.tdiv x4_1 3)) 3) - 1))) := bcl BK373 2; have hcz11_3 : w10.cell? ⟨gb373, 3, none⟩ = some (.int .i64 (wrap64 ((Int.tmod x4_1 3) - 1))) := bcl BK373 3; have hfz11_0 := blk_frozen BK373.out 0; have hfz11_1 := blk_frozen BK373.out 1; have hfz11_2 := blk_frozen BK373.out 2; have hfz11_3 := blk_frozen BK373.out 3) | ((with_reducible refine gate_builtin (b := .append) (xs := #[.tmp 29, .tmp 31]) rfl ?_); at_builtin; refine Kd.R_append k33 (w0 := w) w.heap.size rfl (.tmp 29) (.tmp 31) 99 33 (.agg #[(.int .i64 0), (.int .i64 0), (.int .i64 0), (.int .i64 0)]) 32 rfl Try.underlying99 info33 rfl (by decide) (by omega) u3 x3_1 (⟨wrap64 ((wrap64 (Int.tdiv x4_1 27)) - 1), wrap64 ((Int.tmod (wrap64 (Int.tdiv x4_1 9)) 3) - 1), wrap64 ((Int.tmod (wrap64 (Int.tdiv x4_1 3)) 3) - 1), wrap64 ((Int.tmod x4_1 3) - 1)⟩ : S33) [.int .i64 (wrap64 ((wrap64 (Int.tdiv x4_1 27)) - 1)), .int .i64 (wrap64 ((Int.tmod (wrap64 (Int.tdiv x4_1 9)) 3) - 1)), .int .i64 (wrap64 ((Int.tmod (wrap64 (Int.tdiv x4_1 3)) 3) - 1)), .int .i64 (wrap64 ((Int.tmod x4_1 3) - 1))] (fun k_ => k_ ≠ gb373) (fun _ => False) rfl rfl ?aP (fun _ hk => hk.elim) ?aF ?aO ?aB ?aS ?aL ?_; (case aP => exact k33_mkM _ _ _ (⟨wrap64 ((wrap64 (Int.tdiv x4_1 27)) - 1), wrap64 ((Int.tmod (wrap64 (Int.tdiv x4_1 9)) 3) - 1), wrap64 ((Int.tmod (wrap64 (Int.tdiv x4_1 3)) 3) - 1), wrap64 ((Int.tmod x4_1 3) - 1)⟩ : S33)); (case aB => exact (bbw1 HB GE373)); (case aF => exact (fun k_ hk => Kd.freshB (g := gb373) (o := .cells #[.int .i64 (wrap64 ((wrap64 (Int.tdiv x4_1 27)) - 1)), .int .i64 (wrap64 ((Int.tmod (wrap64 (Int.tdiv x4_1 9)) 3) - 1)), .int .i64 (wrap64 ((Int.tmod (wrap64 (Int.tdiv x4_1 3)) 3) - 1)), .int .i64 (wrap64 ((Int.tmod x4_1 3) - 1))] 33 (0, 0)) (bkp BK373) k_ hk)); (case aO => exact (by (with_reducible repeat (first | apply Kd.R_alloc | apply Kd.R_drewN | apply Kd.R_drew)); exact Kd.R_mono HO_3.out (fun _ hk => hk.2))); (case aS => exact (bsz1 HB GE373)); (case aL => have := LMc7.out; omega); intro v376 w12 ho hb hg hat; rw [← Ny375.out] at ho; have n0_ := Aside0.mk (blk_grown (g := gb373) (o := .cells #[.int .i64 (wrap64 ((wrap64 (Int.tdiv x4_1 27)) - 1)), .int .i64 (wrap64 ((Int.tmod (wrap64 (Int.tdiv x4_1 9)) 3) - 1)), .int .i64 (wrap64 ((Int.tmod (wrap64 (Int.tdiv x4_1 3)) 3) - 1)), .int .i64 (wrap64 ((Int.tmod x4_1 3) - 1))] 33 (0, 0)) (bkp BK373) hg (Kd.R_away HO_3.out (fun _ hk => hk.2))); have n1_ := Aside0.mk (hb); have n2_ := Aside0.mk (ho); clear BK373; clear HB; clear HO_3; have BK373 := n0_; have HB := n1_; have HO377 := n2_; clear n0_ n1_ n2_; clear ho hb hg hat))
      go_roundg k1
      case measure => have := HK1.out; omega
      case rel => exact ⟨(y375), (wrap64 (x4_1 + 1)), (by first | rfl | (simp; done) | (simp [*]; done)), H', ⟨by have := HK1.out; omega⟩, ⟨by (with_reducible repeat (first | apply Kd.R_alloc | apply Kd.R_drewN | apply Kd.R_drew)); exact Kd.R_mono HO377.out (fun _ hk => trivial)⟩, ⟨bbw1 HB GE373⟩⟩
     ·rw [if_neg c7] at H
      exact absurd H (by simp)
    ·replace c6 := Bool.eq_false_iff.mpr c6
     subst c6
     have H1 : (spec_l04Mats.l0 k1 a0 x3_1 (wrap64 (x4_1 + 1))) = some r := by rw [if_neg (show ¬ (false = true) by decide)] at H; first | done | exact H
     clear H
     have H := H1
     clear H1
     have H' := Aside0.mk H
     clear H
     go_wp2_with (first | ((with_reducible refine gate_dst (N := 5) rfl ?_); refine box_event ?hg (N := 5) ?hd (cs := #[.int .i64 0, .int .i64 0, .int .i64 0, .int .i64 0]) (t := 33) ?hr ?_; (case hd => rfl); (case hg => rfl); (case hr => first | (go_simp; done) | (go_simp; rfl)); intro gb373 hg w13 hbox hb; have n0_ := Aside0.mk (Kd.R_below (Kd.R_elderB (by (with_reducible repeat (first | apply Kd.R_alloc | apply Kd.R_drewN | apply Kd.R_drew)); exact HO_3.out) gb373 (Nat.le_of_eq hg.symm)) hb); have n1_ := Aside0.mk (bst0 HB hb); have n2_ := Aside0.mk (hbox); have n3_ := ngw0 hg HB; have n4_ := n3_; clear HO_3; clear HB; have HO_3 := n0_; have HB := n1_; have BK373 := n2_; have GW373 := n3_; have GE373 := n4_; clear n0_ n1_ n2_ n3_ n4_; clear hb hbox hg; have hcz14_0 : w13.cell? ⟨gb373, 0, none⟩ = some (.int .i64 0) := bcl BK373 0; have hcz14_1 : w13.cell? ⟨gb373, 1, none⟩ = some (.int .i64 0) := bcl BK373 1; have hcz14_2 : w13.cell? ⟨gb373, 2, none⟩ = some (.int .i64 0) := bcl BK373 2; have hcz14_3 : w13.cell? ⟨gb373, 3, none⟩ = some (.int .i64 0) := bcl BK373 3; have hfz14_0 := blk_frozen BK373.out 0; have hfz14_1 := blk_frozen BK373.out 1; have hfz14_2 := blk_frozen BK373.out 2; have hfz14_3 := blk_frozen BK373.out 3) | ((with_reducible refine gate_callee (f := 75) rfl ?_); refine goesL_ (some 28) rfl rfl Try.func75 (by kernel_rfl) rfl #[.int .i64 a0, .agg #[.int .i64 (wrap64 ((wrap64 (Int.tdiv x4_1 27)) - 1)), .int .i64 (wrap64 ((Int.tmod (wrap64 (Int.tdiv x4_1 9)) 3) - 1)), .int .i64 (wrap64 ((Int.tmod (wrap64 (Int.tdiv x4_1 3)) 3) - 1)), .int .i64 (wrap64 ((Int.tmod x4_1 3) - 1))]] rfl (by (try simp only [List.map_toArray, List.map_cons, List.map_nil]); first | done | rfl | (simp only [List.length_drop, List.length_take]; rfl)) ?_; (with_reducible refine (spec_l04Keeps.calls a0 (wrap64 ((wrap64 (Int.tdiv x4_1 27)) - 1)) (wrap64 ((Int.tmod (wrap64 (Int.tdiv x4_1 9)) 3) - 1)) (wrap64 ((Int.tmod (wrap64 (Int.tdiv x4_1 3)) 3) - 1)) (wrap64 ((Int.tmod x4_1 3) - 1)) false _ A5.out).mono ?_); rintro e w15 ⟨rfl, hb⟩; refine ⟨_, rfl, ?_⟩; have n0_ := Aside0.mk (Kd.R_below (by (with_reducible repeat (first | apply Kd.R_alloc | apply Kd.R_drewN | apply Kd.R_drew)); exact (Kd.R_mono (Kd.R_far (p := ⟨gb373, 3, none⟩) (Kd.R_far (p := ⟨gb373, 2, none⟩) (Kd.R_far (p := ⟨gb373, 1, none⟩) (Kd.R_far (p := ⟨gb373, 0, none⟩) (Kd.R_mono HO_3.out (fun k_ hk => (⟨hk, hk.2⟩ : _ ∧ k_ ≠ gb373))) (fun _ hk => hk.2) (.int .i64 (wrap64 ((wrap64 (Int.tdiv x4_1 27)) - 1)))) (fun _ hk => hk.2) (.int .i64 (wrap64 ((Int.tmod (wrap64 (Int.tdiv x4_1 9)) 3) - 1)))) (fun _ hk => hk.2) (.int .i64 (wrap64 ((Int.tmod (wrap64 (Int.tdiv x4_1 3)) 3) - 1)))) (fun _ hk => hk.2) (.int .i64 (wrap64 ((Int.tmod x4_1 3) - 1)))) (fun _ h_ => h_.1))) hb); have n1_ := Aside0.mk (blk_below (g := gb373) (o := .cells #[.int .i64 (wrap64 ((wrap64 (Int.tdiv x4_1 27)) - 1)), .int .i64 (wrap64 ((Int.tmod (wrap64 (Int.tdiv x4_1 9)) 3) - 1)), .int .i64 (wrap64 ((Int.tmod (wrap64 (Int.tdiv x4_1 3)) 3) - 1)), .int .i64 (wrap64 ((Int.tmod x4_1 3) - 1))] 33 (0, 0)) (by (with_reducible repeat (first | refine blk_drewN ?_ _ | refine blk_drew ?_ | refine blk_alloc ?_ _)); refine blk_put (cs := #[.int .i64 (wrap64 ((wrap64 (Int.tdiv x4_1 27)) - 1)), .int .i64 (wrap64 ((Int.tmod (wrap64 (Int.tdiv x4_1 9)) 3) - 1)), .int .i64 (wrap64 ((Int.tmod (wrap64 (Int.tdiv x4_1 3)) 3) - 1)), .int .i64 0]) ?_ 3 _ rfl; (with_reducible repeat (first | refine blk_drewN ?_ _ | refine blk_drew ?_ | refine blk_alloc ?_ _)); refine blk_put (cs := #[.int .i64 (wrap64 ((wrap64 (Int.tdiv x4_1 27)) - 1)), .int .i64 (wrap64 ((Int.tmod (wrap64 (Int.tdiv x4_1 9)) 3) - 1)), .int .i64 0, .int .i64 0]) ?_ 2 _ rfl; (with_reducible repeat (first | refine blk_drewN ?_ _ | refine blk_drew ?_ | refine blk_alloc ?_ _)); refine blk_put (cs := #[.int .i64 (wrap64 ((wrap64 (Int.tdiv x4_1 27)) - 1)), .int .i64 0, .int .i64 0, .int .i64 0]) ?_ 1 _ rfl; (with_reducible repeat (first | refine blk_drewN ?_ _ | refine blk_drew ?_ | refine blk_alloc ?_ _)); refine blk_put (cs := #[.int .i64 0, .int .i64 0, .int .i64 0, .int .i64 0]) ?_ 0 _ rfl; (with_reducible repeat (first | refine blk_drewN ?_ _ | refine blk_drew ?_ | refine blk_alloc ?_ _)); exact BK373.out) hb); have n2_ := Aside0.mk (bst1 HB GE373 hb); clear HO_3; clear BK373; clear HB; have HO_3 := n0_; have BK373 := n1_; have HB := n2_; clear n0_ n1_ n2_; (try clear hb); (try clear hb2); (try clear hk); (try clear hi)))
     go_roundg k1
     case measure => have := HK1.out; omega
     case rel => exact ⟨(x3_1), (wrap64 (x4_1 + 1)), (by first | rfl | (simp; done) | (simp [*]; done)), H', ⟨by have := HK1.out; omega⟩, ⟨by (with_reducible repeat (first | apply Kd.R_alloc | apply Kd.R_drewN | apply Kd.R_drew)); exact Kd.R_mono HO_3.out (fun _ hk => trivial)⟩, ⟨bbw1 HB GE373⟩⟩
   ·rw [if_neg c4] at H
    have c4b0 : decide (x4_1 < 81) = false := decide_eq_false c4
    clear c4
    obtain rfl := Option.some.inj H
    go_wp2
    go_ret
    exact ⟨_, by first | rfl | (simp [errW_none, errW_some] <;> rfl) | (simp [*, errW_none, errW_some] <;> rfl), by (with_reducible repeat (first | apply Kd.R_alloc | apply Kd.R_drewN | apply Kd.R_drew)); exact HO_3.out, bbw0 HB⟩

/-! ### spec_l04Stable: function 86 -/
def spec_l04Stable.l0 : Nat → List (S33) → List (S33) → Int → Int → Int → Int → Option ((List (S33)))
 | 0, _, _, _, _, _, _ => none
 | k + 1, x5, x6, x7, x379000, x379001, x379002 => if x7 < (x5.length : Int) then (if 0 ≤ x7 then ((spec_l04Image.f k ((rd_T33 x5 x7).f0) ((rd_T33 x5 x7).f1) ((rd_T33 x5 x7).f2) ((rd_T33 x5 x7).f3) x379000 x379001 x379002).bind fun bt386 => (if (bt386.1 == x379000 && (bt386.2.1 == x379001 && (bt386.2.2 == x379002))) = true then (if x6.length < 4398046511104 then (spec_l04Stable.l0 k x5 (x6 ++ [(⟨(rd_T33 x5 x7).f0, (rd_T33 x5 x7).f1, (rd_T33 x5 x7).f2, (rd_T33 x5 x7).f3⟩ : S33)]) (wrap64 (x7 + 1)) x379000 x379001 x379002) else (none)) else (spec_l04Stable.l0 k x5 x6 (wrap64 (x7 + 1)) x379000 x379001 x379002))) else (none)) else (some x6)
def spec_l04Stable.f (k : Nat) (a0 : Int) (a1_0 : Int) (a1_1 : Int) (a1_2 : Int) : Option ((List (S33))) := (spec_l04Mats.f k a0).bind fun t379 => (spec_l04Stable.l0 k t379 (([] : List (S33))) 0 a1_0 a1_1 a1_2)
def spec_l04Stable.T6 : Bool × List (List Nat × List Nat) := (true, [([], []), ([], []), ([0, 1], [0, 1]), ([2], [2]), ([], []), ([3, 4], [3, 4]), ([], []), ([5, 6], [5, 6])])
def spec_l04Stable.B6 : List Nat := [0, 0, 3, 7, 0, 31, 0, 127]
theorem spec_l04Stable.tab6 : rtab .any (opsOf Try.f86 6) = spec_l04Stable.T6 := by kernel_rfl
theorem spec_l04Stable.bits6 : waitsOk spec_l04Stable.T6.2 spec_l04Stable.B6 = true := by kernel_rfl
set_option maxHeartbeats 8000000 in
set_option maxRecDepth 100000 in
theorem spec_l04Stable.calls (k : Nat) (a0 : Int) (a1_0 : Int) (a1_1 : Int) (a1_2 : Int) (r : List (S33)) (w : World) (h : spec_l04Stable.f k a0 a1_0 a1_1 a1_2 = some r) :
  Calls Try.prog 86 #[.int .i64 a0, .agg #[.int .i64 a1_0, .int .i64 a1_1, .int .i64 a1_2]] w fun e w' => ∃ v0_ : Value, e = .returned (v0_) ∧ Kd.R k33 33 w' w.heap.size (fun _ => True) v0_ r ∧ Below w.heap.size w w' := by
 have hu31 := Try.underlying31
 have hu33 := Try.underlying33
 have HB := Aside0.mk (Below.refl w.heap.size w)
 have H : ((spec_l04Mats.f k a0).bind fun t379 => (spec_l04Stable.l0 k t379 (([] : List (S33))) 0 a1_0 a1_1 a1_2)) = some r := h
 clear h
 replace H := Option.bind_eq_some_iff.mp H
 obtain ⟨t379, A30, H⟩ := H
 replace H : (spec_l04Stable.l0 k t379 (([] : List (S33))) 0 a1_0 a1_1 a1_2) = some r := H
 have A3 := Aside0.mk A30
 clear A30
 obtain ⟨y382, hy382⟩ : ∃ y_ : List (S33), y_ = (([] : List (S33))) := ⟨_, rfl⟩
 replace H : (spec_l04Stable.l0 k t379 y382 0 a1_0 a1_1 a1_2) = some r := by first | (rw [hy382]; with_reducible exact H) | (have H2_ := (Option.bind_some _ _).symm.trans H; rw [hy382]; with_reducible exact H2_) | (have H2_ := (Option.bind_some _ _).symm.trans H; with_reducible exact H2_) | with_reducible exact H | (rw [hy382]; exact H) | exact H
 have Ny382 := Aside0.mk hy382
 clear hy382
 have H' := Aside0.mk H
 clear H
 go_enter Try.func86, Try.ntmps86
 go_wp2_with (first | ((with_reducible refine gate_dst (N := 3) rfl ?_); refine box_event ?hg (N := 3) ?hd (cs := #[.int .i64 a1_0, .int .i64 a1_1, .int .i64 a1_2]) (t := 31) ?hr ?_; (case hd => rfl); (case hg => rfl); (case hr => first | (go_simp; done) | (go_simp; rfl)); intro gb378 hg w4 hbox hb; have n0_ := Aside0.mk (bst0 HB hb); have n1_ := Aside0.mk (hbox); have n2_ := ngw0 hg HB; have n3_ := n2_; clear HB; have HB := n0_; have BK378 := n1_; have GW378 := n2_; have GE378 := n3_; clear n0_ n1_ n2_ n3_; clear hb hbox hg) | ((with_reducible refine gate_callee (f := 126) rfl ?_); refine goesL_ (some 9) rfl rfl Try.func126 (by kernel_rfl) rfl #[.int .i64 a0] rfl (by (try simp only [List.map_toArray, List.map_cons, List.map_nil]); first | done | rfl | (simp only [List.length_drop, List.length_take]; rfl)) ?_; (with_reducible refine (spec_l04Mats.calls k a0 t379 _ A3.out).mono ?_); rintro e w5 ⟨v380, rfl, ho0, hb⟩; refine ⟨_, rfl, ?_⟩; have n0_ := Aside0.mk (Kd.R_lower ho0 (bsz1 HB GE378)); have n1_ := Aside0.mk (bbl BK378 hb); have n2_ := Aside0.mk (bst1 HB GE378 hb); clear BK378; clear HB; have HO381 := n0_; have BK378 := n1_; have HB := n2_; clear n0_ n1_ n2_; (try clear hb); (try clear hb2); (try clear hk); (try clear hi); (try clear ho0)) | ((with_reducible refine gate_dst (N := 10) rfl ?_); refine Kd.R_lit k33 _ 33 ?hg (N := 10) ?hd (xs := ([] : List (S33))) (inner := []) (ok := fun _ => True) (okp := fun _ => True) ?hr ?hp (fun _ hk => hk) trivial (Below.refl _ _) (Nat.le_refl _) (by simp) ?_; (case hd => rfl); (case hg => rfl); (case hr => first | (go_simp; done) | (go_simp; rfl)); (case hp => exact (Reps.none _ _)); intro v383 w6 ho7 hb hg_ hnew_; clear hg_ hnew_; (first | rw [← Ny382.out] at ho7 | (simp only [Int.reduceToNat] at ho7; rw [← Ny382.out] at ho7)); have n0_ := Aside0.mk (Kd.R_elder' (by (with_reducible repeat (first | apply Kd.R_alloc | apply Kd.R_drewN | apply Kd.R_drew)); exact HO381.out) (Kd.R_base ho7) hb); have n1_ := Aside0.mk (Kd.R_lower (Kd.R_new' ho7 (Kd.R_lt (by (with_reducible repeat (first | apply Kd.R_alloc | apply Kd.R_drewN | apply Kd.R_drew)); exact HO381.out))) (bsz1 HB GE378)); have n2_ := Aside0.mk (bbl BK378 hb); have n3_ := Aside0.mk (bst1 HB GE378 hb); clear HO381; clear BK378; clear HB; have HO381 := n0_; have HO384 := n1_; have BK378 := n2_; have HB := n3_; clear n0_ n1_ n2_ n3_; clear hb ho7))
 go_loopg [6, 7] k (fun kq v6 v7 w' => ∃ (x6_1 : List (S33)) (x7_1 : Int), v7 = .int .i64 x7_1 ∧ Aside0 (spec_l04Stable.l0 kq t379 x6_1 x7_1 a1_0 a1_1 a1_2 = some r) ∧ Aside0 (kq ≤ k) ∧ Aside0 (Kd.R k33 33 w' w.heap.size (fun k_ => some k_ ≠ (v6 : Value).ownBlock) v380 t379) ∧ Aside0 (Kd.R k33 33 w' w.heap.size (fun k_ => some k_ ≠ (v380 : Value).ownBlock) v6 x6_1) ∧ Aside0 (w'.heap[gb378]? = some (.cells #[.int .i64 a1_0, .int .i64 a1_1, .int .i64 a1_2] 31 (0, 0))) ∧ Aside0 (Below w.heap.size w w'))
 case atStart => exact ⟨(y382), (0), (by first | rfl | (simp; done) | (simp [*]; done)), H', ⟨Nat.le_refl _⟩, ⟨by (with_reducible repeat (first | apply Kd.R_alloc | apply Kd.R_drewN | apply Kd.R_drew)); exact Kd.R_mono HO381.out (fun _ hk => hk.2)⟩, ⟨by (with_reducible repeat (first | apply Kd.R_alloc | apply Kd.R_drewN | apply Kd.R_drew)); exact Kd.R_mono HO384.out (fun _ hk => hk.2)⟩, ⟨bkp BK378⟩, ⟨bbw1 HB GE378⟩⟩
 case round =>
  clear H'
  try clear c1
  try clear p2
  obtain ⟨x6_1, x7_1, rfl, HA, HK1, HO_5, HO_6, BK378, HB⟩ := hrel
  cases gk with
  | zero => exact absurd HA.out (by simp [spec_l04Stable.l0])
  | succ k1 =>
   have H := HA.out
   clear HA
   simp only [spec_l04Stable.l0] at H
   by_cases c8 : x7_1 < (t379.length : Int)
   ·rw [if_pos c8] at H
    have c8b0 : decide (x7_1 < (t379.length : Int)) = true := decide_eq_true c8
    clear c8
    by_cases c9 : 0 ≤ x7_1
    ·rw [if_pos c9] at H
     have c9b0 : decide (0 ≤ x7_1) = true := decide_eq_true c9
     clear c9
     replace H := Option.bind_eq_some_iff.mp H
     obtain ⟨⟨t386, t387, t388⟩, A100, H⟩ := H
     replace H : (if (t386 == a1_0 && (t387 == a1_1 && (t388 == a1_2))) = true then (if x6_1.length < 4398046511104 then (spec_l04Stable.l0 k1 t379 (x6_1 ++ [(⟨(rd_T33 t379 x7_1).f0, (rd_T33 t379 x7_1).f1, (rd_T33 t379 x7_1).f2, (rd_T33 t379 x7_1).f3⟩ : S33)]) (wrap64 (x7_1 + 1)) a1_0 a1_1 a1_2) else (none)) else (spec_l04Stable.l0 k1 t379 x6_1 (wrap64 (x7_1 + 1)) a1_0 a1_1 a1_2)) = some r := H
     have A10 := Aside0.mk A100
     clear A100
     by_cases c11 : (t386 == a1_0 && (t387 == a1_1 && (t388 == a1_2))) = true
     ·rw [if_pos c11] at H
      have c11b0 : (t386 == a1_0 && (t387 == a1_1 && (t388 == a1_2))) = true := c11
      (try (have c11b1 : decide (t386 = a1_0 && (t387 == a1_1 && (t388 == a1_2))) = true := by simpa using c11))
      (try (have c11b2 : (t386 == a1_0 && (t387 == a1_1 && (t388 == a1_2))) = true := by simpa using c11))
      clear c11
      by_cases c12 : x6_1.length < 4398046511104
      ·rw [if_pos c12] at H
       have LMc12 := Aside0.mk c12
       clear c12
       obtain ⟨y390, hy390⟩ : ∃ y_ : List (S33), y_ = (x6_1 ++ [(⟨(rd_T33 t379 x7_1).f0, (rd_T33 t379 x7_1).f1, (rd_T33 t379 x7_1).f2, (rd_T33 t379 x7_1).f3⟩ : S33)]) := ⟨_, rfl⟩
       replace H : (spec_l04Stable.l0 k1 t379 y390 (wrap64 (x7_1 + 1)) a1_0 a1_1 a1_2) = some r := by first | (rw [hy390]; with_reducible exact H) | (have H2_ := (Option.bind_some _ _).symm.trans H; rw [hy390]; with_reducible exact H2_) | (have H2_ := (Option.bind_some _ _).symm.trans H; with_reducible exact H2_) | with_reducible exact H | (rw [hy390]; exact H) | exact H
       have Ny390 := Aside0.mk hy390
       clear hy390
       have H' := Aside0.mk H
       clear H
       obtain ⟨Ao13, co13, eo13⟩ := Kd.R_slice HO_5.out
       subst eo13
       try go_wp2
       have n0_ := Aside0.mk (Kd.R_drew HO_5.out)
       have n1_ := Aside0.mk (Kd.R_drew HO_6.out)
       have n2_ := Aside0.mk (blk_drew BK378.out)
       have n3_ := Aside0.mk (below_drew1 HB.out)
       clear HO_5
       clear HO_6
       clear BK378
       clear HB
       have HO_5 := n0_
       have HO_6 := n1_
       have BK378 := n2_
       have HB := n3_
       clear n0_ n1_ n2_ n3_
       have p385 : 0 ≤ (x7_1 : Int) := of_decide_eq_true (by first | (with_reducible assumption) | assumption)
       have q385 : x7_1 < (t379.length : Int) := of_decide_eq_true (by first | (with_reducible assumption) | assumption)
       obtain ⟨ad385, e385, hx385_0, hx385_1, hx385_2, hx385_3⟩ := at_T33 (Kd.R_reads' HO_5.out).2.2 x7_1 p385 q385
       cases e385
       replace p385 := eq_true p385
       replace q385 := eq_true q385
       refine start_ (n := 8) (S := fun w' => w'.cell? ⟨gb378, 0, none⟩ = some (.int .i64 a1_0) ∧ w'.cell? ⟨gb378, 1, none⟩ = some (.int .i64 a1_1) ∧ w'.cell? ⟨gb378, 2, none⟩ = some (.int .i64 a1_2) ∧ w'.cell? (ad385.add ((x7_1).toNat * 4)) = some (.int .i64 ((rd_T33 t379 x7_1).f0)) ∧ w'.cell? ⟨(ad385.add ((x7_1).toNat * 4)).block, (ad385.add ((x7_1).toNat * 4)).off + 1, none⟩ = some (.int .i64 ((rd_T33 t379 x7_1).f1)) ∧ w'.cell? ⟨(ad385.add ((x7_1).toNat * 4)).block, (ad385.add ((x7_1).toNat * 4)).off + 2, none⟩ = some (.int .i64 ((rd_T33 t379 x7_1).f2)) ∧ w'.cell? ⟨(ad385.add ((x7_1).toNat * 4)).block, (ad385.add ((x7_1).toNat * 4)).off + 3, none⟩ = some (.int .i64 ((rd_T33 t379 x7_1).f3))) (ds := []) #[false, false, false, false, false, false, false, false] (by kernel_rfl) rfl rfl ⟨bcl BK378 0, bcl BK378 1, bcl BK378 2, hx385_0, hx385_1, hx385_2, hx385_3⟩ (fun hHeld => ?_); refine with_tabW spec_l04Stable.tab6 spec_l04Stable.bits6 (fun HT_ HW_ => ?_)
       generalize wr.drew = w14 at HO_5 HO_6 BK378 HB hx385_0 hx385_1 hx385_2 hx385_3 hHeld ⊢
       refine pure_ (i := 0) (N := some 17) (v := ?_) (a' := ?_) #[true, false, false, false, false, false, false, false] rfl rfl (any_of HT_.out (by kernel_rfl)) (fun _ _ _ h => h) (Or.inl ⟨by rfl, ?_⟩) ?_ ?_
       rotate_left
       ·intro w'
        go_simp
        with_reducible rfl
       rotate_left
       ·simp only [Act.put, sA, sB, sC, i64_w, i32_w]
        rfl
       refine pure_ (i := 1) (N := some 18) (v := ?_) (a' := ?_) #[true, true, false, false, false, false, false, false] rfl rfl (any_of HT_.out (by kernel_rfl)) (fun _ _ _ h => h) (Or.inl ⟨by rfl, ?_⟩) ?_ ?_
       rotate_left
       ·intro w'
        go_simp
        with_reducible rfl
       rotate_left
       ·simp only [Act.put, sA, sB, sC, i64_w, i32_w]
        rfl
       refine pure_ (i := 2) (N := some 19) (v := ?_) (a' := ?_) #[true, true, true, false, false, false, false, false] rfl rfl (any_of HT_.out (by kernel_rfl)) (fun _ _ _ h => h) (Or.inl ⟨by rfl, ?_⟩) ?_ ?_
       rotate_left
       ·intro w'
        go_simp
        with_reducible rfl
       rotate_left
       ·simp only [Act.put, sA, sB, sC, i64_w, i32_w]
        rfl
       refine take_ (i := 3) (N := some 20) (v := ?_) (a' := ?_) #[true, true, true, true, false, false, false, false] rfl rfl (take_ofW HT_.out HW_.out (by kernel_rfl)) (fun _ _ _ h => h) (Or.inl ⟨by rfl, ?_⟩) hHeld ?_ ?_
       rotate_left
       ·rintro w' ⟨s0, s1, s2, s3, s4, s5, s6⟩
        go_simp
        with_reducible rfl
       rotate_left
       ·simp only [Act.put, sA, sB, sC, i64_w, i32_w]
        rfl
       refine take_ (i := 4) (N := some 21) (v := ?_) (a' := ?_) #[true, true, true, true, true, false, false, false] rfl rfl (take_ofW HT_.out HW_.out (by kernel_rfl)) (fun _ _ _ h => h) (Or.inl ⟨by rfl, ?_⟩) hHeld ?_ ?_
       rotate_left
       ·rintro w' ⟨s0, s1, s2, s3, s4, s5, s6⟩
        go_simp
        with_reducible rfl
       rotate_left
       ·simp only [Act.put, sA, sB, sC, i64_w, i32_w]
        rfl
       refine take_ (i := 6) (N := some 23) (v := ?_) (a' := ?_) #[true, true, true, true, true, false, true, false] rfl rfl (take_ofW HT_.out HW_.out (by kernel_rfl)) (fun _ _ _ h => h) (Or.inl ⟨by rfl, ?_⟩) hHeld ?_ ?_
       rotate_left
       ·rintro w' ⟨s0, s1, s2, s3, s4, s5, s6⟩
        go_simp
        with_reducible rfl
       rotate_left
       ·simp only [Act.put, sA, sB, sC, i64_w, i32_w]
        rfl
       refine one_ (i := 5) (N := some 22) #[true, true, true, true, true, true, true, false] rfl rfl (one_of HT_.out (by kernel_rfl)) (by decide) (fun K hK => ?_)
       refine goes_ Try.func40 (by kernel_rfl) rfl #[.agg #[.int .i64 ((rd_T33 t379 x7_1).f0), .int .i64 ((rd_T33 t379 x7_1).f1), .int .i64 ((rd_T33 t379 x7_1).f2), .int .i64 ((rd_T33 t379 x7_1).f3)], .agg #[.int .i64 a1_0, .int .i64 a1_1, .int .i64 a1_2]] (by rfl) rfl rfl (by (try simp only [List.map_toArray, List.map_cons, List.map_nil]); first | done | rfl | (simp only [List.length_drop, List.length_take]; rfl)) ?_
       with_reducible refine (spec_l04Image.calls k1 ((rd_T33 t379 x7_1).f0) ((rd_T33 t379 x7_1).f1) ((rd_T33 t379 x7_1).f2) ((rd_T33 t379 x7_1).f3) a1_0 a1_1 a1_2 t386 t387 t388 _ A10.out).mono ?_
       rintro e w15 ⟨rfl, hb⟩
       have HS3_ := (hb.cell (World.block_lt_of_cell? _ _ (hHeld.2.2.2.1))).trans (hHeld.2.2.2.1)
       have HS4_ := (hb.cell (World.block_lt_of_cell? _ _ (hHeld.2.2.2.2.1))).trans (hHeld.2.2.2.2.1)
       have HS5_ := (hb.cell (World.block_lt_of_cell? _ _ (hHeld.2.2.2.2.2.1))).trans (hHeld.2.2.2.2.2.1)
       have HS6_ := (hb.cell (World.block_lt_of_cell? _ _ (hHeld.2.2.2.2.2.2))).trans (hHeld.2.2.2.2.2.2)
       refine ⟨_, rfl, ?_⟩
       have n0_ := Aside0.mk (Kd.R_below (by (with_reducible repeat (first | apply Kd.R_alloc | apply Kd.R_drewN | apply Kd.R_drew)); exact HO_5.out) hb)
       have n1_ := Aside0.mk (Kd.R_below (by (with_reducible repeat (first | apply Kd.R_alloc | apply Kd.R_drewN | apply Kd.R_drew)); exact HO_6.out) hb)
       have n2_ := Aside0.mk (bbl BK378 hb)
       have n3_ := Aside0.mk (bst1 HB GE378 hb)
       clear HO_5
       clear HO_6
       clear BK378
       clear HB
       have HO_5 := n0_
       have HO_6 := n1_
       have BK378 := n2_
       have HB := n3_
       clear n0_ n1_ n2_ n3_
       (try clear hb)
       (try clear hb2)
       (try clear hk)
       (try clear hi)
       refine hK.out _ _ ⟨bcl BK378 0, bcl BK378 1, bcl BK378 2, HS3_, HS4_, HS5_, HS6_⟩ (fun hHeld => ?_)
       clear hK K
       refine norm_ (a' := ?_) ?_ ?_
       rotate_left
       ·show Act.put _ (some 22) _ = _
        simp only [Act.put, sA, sB, sC, i64_w, i32_w]
        rfl
       refine pure_ (i := 7) (N := some 24) (v := ?_) (a' := ?_) #[true, true, true, true, true, true, true, true] rfl rfl (any_of HT_.out (by kernel_rfl)) (fun _ _ _ h => h) (Or.inl ⟨by rfl, ?_⟩) ?_ ?_
       rotate_left
       ·intro w'
        go_simp
        with_reducible rfl
       rotate_left
       ·simp only [Act.put, sA, sB, sC, i64_w, i32_w]
        rfl
       refine done_ (done_of HT_.out (by kernel_rfl)) ?_
       have p389 : 0 ≤ (x7_1 : Int) := of_decide_eq_true (by first | (with_reducible assumption) | assumption)
       have q389 : x7_1 < (t379.length : Int) := of_decide_eq_true (by first | (with_reducible assumption) | assumption)
       obtain ⟨ad389, e389, hx389_0, hx389_1, hx389_2, hx389_3⟩ := at_T33 (Kd.R_reads' HO_5.out).2.2 x7_1 p389 q389
       obtain rfl : ad385 = ad389 := (by injection e389)
       replace p389 := eq_true p389
       replace q389 := eq_true q389
       try go_wp2_with (first | ((with_reducible refine gate_builtin (b := .append) (xs := #[.tmp 25, .tmp 30]) rfl ?_); at_builtin; refine Kd.R_append k33 (w0 := w) w.heap.size rfl (.tmp 25) (.tmp 30) 99 33 (.agg #[(.int .i64 0), (.int .i64 0), (.int .i64 0), (.int .i64 0)]) 32 rfl Try.underlying99 info33 rfl (by decide) (by omega) u6 x6_1 (⟨(rd_T33 t379 x7_1).f0, (rd_T33 t379 x7_1).f1, (rd_T33 t379 x7_1).f2, (rd_T33 t379 x7_1).f3⟩ : S33) [.int .i64 ((rd_T33 t379 x7_1).f0), .int .i64 ((rd_T33 t379 x7_1).f1), .int .i64 ((rd_T33 t379 x7_1).f2), .int .i64 ((rd_T33 t379 x7_1).f3)] (fun k_ => some k_ ≠ (.slice (some ad385) t379.length co13 : Value).ownBlock) (fun _ => False) rfl rfl ?aP (fun _ hk => hk.elim) ?aF ?aO ?aB ?aS ?aL ?_; (case aP => exact k33_mkM _ _ _ (⟨(rd_T33 t379 x7_1).f0, (rd_T33 t379 x7_1).f1, (rd_T33 t379 x7_1).f2, (rd_T33 t379 x7_1).f3⟩ : S33)); (case aB => exact (bbw1 HB GE378)); (case aF => exact (fun k_ hk => Kd.fresh' (Kd.R_lt (by (with_reducible repeat (first | apply Kd.R_alloc | apply Kd.R_drewN | apply Kd.R_drew)); exact HO_5.out)) k_ hk)); (case aO => exact (by (with_reducible repeat (first | apply Kd.R_alloc | apply Kd.R_drewN | apply Kd.R_drew)); exact HO_6.out)); (case aS => exact (bsz1 HB GE378)); (case aL => have := LMc12.out; omega); intro v391 w16 ho hb hg hat; rw [← Ny390.out] at ho; have n0_ := Aside0.mk (Kd.R_after (ok := (fun _ => True)) (by (with_reducible repeat (first | apply Kd.R_alloc | apply Kd.R_drewN | apply Kd.R_drew)); exact Kd.R_mono HO_5.out (fun _ hk => ⟨trivial, hk⟩)) hg hat); have n1_ := Aside0.mk (blk_grown (g := gb378) (o := .cells #[.int .i64 a1_0, .int .i64 a1_1, .int .i64 a1_2] 31 (0, 0)) (bkp BK378) hg (Kd.R_ne HO_6.out BK378.out (by decide))); have n2_ := Aside0.mk (hb); have n3_ := Aside0.mk (ho); clear HO_5; clear BK378; clear HB; clear HO_6; have HO_5 := n0_; have BK378 := n1_; have HB := n2_; have HO392 := n3_; clear n0_ n1_ n2_ n3_; clear ho hb hg hat))
       go_roundg k1
       case measure => have := HK1.out; omega
       case rel => exact ⟨(y390), (wrap64 (x7_1 + 1)), (by first | rfl | (simp; done) | (simp [*]; done)), H', ⟨by have := HK1.out; omega⟩, ⟨by (with_reducible repeat (first | apply Kd.R_alloc | apply Kd.R_drewN | apply Kd.R_drew)); exact Kd.R_mono HO_5.out (fun _ hk => hk.2)⟩, ⟨by (with_reducible repeat (first | apply Kd.R_alloc | apply Kd.R_drewN | apply Kd.R_drew)); exact HO392.out⟩, ⟨bkp BK378⟩, ⟨bbw1 HB GE378⟩⟩
      ·rw [if_neg c12] at H
       exact absurd H (by simp)
     ·rw [if_neg c11] at H
      have c11b0 : (t386 == a1_0 && (t387 == a1_1 && (t388 == a1_2))) = false := by simpa using c11
      (try (have c11b1 : decide (t386 = a1_0 && (t387 == a1_1 && (t388 == a1_2))) = false := by simpa using c11))
      (try (have c11b2 : (t386 == a1_0 && (t387 == a1_1 && (t388 == a1_2))) = false := by simpa using c11))
      (try (have c11b3 : ¬ (t386 = a1_0 && (t387 == a1_1 && (t388 == a1_2))) := by simpa using c11))
      clear c11
      have H' := Aside0.mk H
      clear H
      obtain ⟨Ao17, co17, eo17⟩ := Kd.R_slice HO_5.out
      subst eo17
      try go_wp2
      have n0_ := Aside0.mk (Kd.R_drew HO_5.out)
      have n1_ := Aside0.mk (Kd.R_drew HO_6.out)
      have n2_ := Aside0.mk (blk_drew BK378.out)
      have n3_ := Aside0.mk (below_drew1 HB.out)
      clear HO_5
      clear HO_6
      clear BK378
      clear HB
      have HO_5 := n0_
      have HO_6 := n1_
      have BK378 := n2_
      have HB := n3_
      clear n0_ n1_ n2_ n3_
      have p385 : 0 ≤ (x7_1 : Int) := of_decide_eq_true (by first | (with_reducible assumption) | assumption)
      have q385 : x7_1 < (t379.length : Int) := of_decide_eq_true (by first | (with_reducible assumption) | assumption)
      obtain ⟨ad385, e385, hx385_0, hx385_1, hx385_2, hx385_3⟩ := at_T33 (Kd.R_reads' HO_5.out).2.2 x7_1 p385 q385
      cases e385
      replace p385 := eq_true p385
      replace q385 := eq_true q385
      refine start_ (n := 8) (S := fun w' => w'.cell? ⟨gb378, 0, none⟩ = some (.int .i64 a1_0) ∧ w'.cell? ⟨gb378, 1, none⟩ = some (.int .i64 a1_1) ∧ w'.cell? ⟨gb378, 2, none⟩ = some (.int .i64 a1_2) ∧ w'.cell? (ad385.add ((x7_1).toNat * 4)) = some (.int .i64 ((rd_T33 t379 x7_1).f0)) ∧ w'.cell? ⟨(ad385.add ((x7_1).toNat * 4)).block, (ad385.add ((x7_1).toNat * 4)).off + 1, none⟩ = some (.int .i64 ((rd_T33 t379 x7_1).f1)) ∧ w'.cell? ⟨(ad385.add ((x7_1).toNat * 4)).block, (ad385.add ((x7_1).toNat * 4)).off + 2, none⟩ = some (.int .i64 ((rd_T33 t379 x7_1).f2)) ∧ w'.cell? ⟨(ad385.add ((x7_1).toNat * 4)).block, (ad385.add ((x7_1).toNat * 4)).off + 3, none⟩ = some (.int .i64 ((rd_T33 t379 x7_1).f3))) (ds := []) #[false, false, false, false, false, false, false, false] (by kernel_rfl) rfl rfl ⟨bcl BK378 0, bcl BK378 1, bcl BK378 2, hx385_0, hx385_1, hx385_2, hx385_3⟩ (fun hHeld => ?_); refine with_tabW spec_l04Stable.tab6 spec_l04Stable.bits6 (fun HT_ HW_ => ?_)
      generalize wr.drew = w18 at HO_5 HO_6 BK378 HB hx385_0 hx385_1 hx385_2 hx385_3 hHeld ⊢
      refine pure_ (i := 0) (N := some 17) (v := ?_) (a' := ?_) #[true, false, false, false, false, false, false, false] rfl rfl (any_of HT_.out (by kernel_rfl)) (fun _ _ _ h => h) (Or.inl ⟨by rfl, ?_⟩) ?_ ?_
      rotate_left
      ·intro w'
       go_simp
       with_reducible rfl
      rotate_left
      ·simp only [Act.put, sA, sB, sC, i64_w, i32_w]
       rfl
      refine pure_ (i := 1) (N := some 18) (v := ?_) (a' := ?_) #[true, true, false, false, false, false, false, false] rfl rfl (any_of HT_.out (by kernel_rfl)) (fun _ _ _ h => h) (Or.inl ⟨by rfl, ?_⟩) ?_ ?_
      rotate_left
      ·intro w'
       go_simp
       with_reducible rfl
      rotate_left
      ·simp only [Act.put, sA, sB, sC, i64_w, i32_w]
       rfl
      refine pure_ (i := 2) (N := some 19) (v := ?_) (a' := ?_) #[true, true, true, false, false, false, false, false] rfl rfl (any_of HT_.out (by kernel_rfl)) (fun _ _ _ h => h) (Or.inl ⟨by rfl, ?_⟩) ?_ ?_
      rotate_left
      ·intro w'
       go_simp
       with_reducible rfl
      rotate_left
      ·simp only [Act.put, sA, sB, sC, i64_w, i32_w]
       rfl
      refine take_ (i := 3) (N := some 20) (v := ?_) (a' := ?_) #[true, true, true, true, false, false, false, false] rfl rfl (take_ofW HT_.out HW_.out (by kernel_rfl)) (fun _ _ _ h => h) (Or.inl ⟨by rfl, ?_⟩) hHeld ?_ ?_
      rotate_left
      ·rintro w' ⟨s0, s1, s2, s3, s4, s5, s6⟩
       go_simp
       with_reducible rfl
      rotate_left
      ·simp only [Act.put, sA, sB, sC, i64_w, i32_w]
       rfl
      refine take_ (i := 4) (N := some 21) (v := ?_) (a' := ?_) #[true, true, true, true, true, false, false, false] rfl rfl (take_ofW HT_.out HW_.out (by kernel_rfl)) (fun _ _ _ h => h) (Or.inl ⟨by rfl, ?_⟩) hHeld ?_ ?_
      rotate_left
      ·rintro w' ⟨s0, s1, s2, s3, s4, s5, s6⟩
       go_simp
       with_reducible rfl
      rotate_left
      ·simp only [Act.put, sA, sB, sC, i64_w, i32_w]
       rfl
      refine take_ (i := 6) (N := some 23) (v := ?_) (a' := ?_) #[true, true, true, true, true, false, true, false] rfl rfl (take_ofW HT_.out HW_.out (by kernel_rfl)) (fun _ _ _ h => h) (Or.inl ⟨by rfl, ?_⟩) hHeld ?_ ?_
      rotate_left
      ·rintro w' ⟨s0, s1, s2, s3, s4, s5, s6⟩
       go_simp
       with_reducible rfl
      rotate_left
      ·simp only [Act.put, sA, sB, sC, i64_w, i32_w]
       rfl
      refine one_ (i := 5) (N := some 22) #[true, true, true, true, true, true, true, false] rfl rfl (one_of HT_.out (by kernel_rfl)) (by decide) (fun K hK => ?_)
      refine goes_ Try.func40 (by kernel_rfl) rfl #[.agg #[.int .i64 ((rd_T33 t379 x7_1).f0), .int .i64 ((rd_T33 t379 x7_1).f1), .int .i64 ((rd_T33 t379 x7_1).f2), .int .i64 ((rd_T33 t379 x7_1).f3)], .agg #[.int .i64 a1_0, .int .i64 a1_1, .int .i64 a1_2]] (by rfl) rfl rfl (by (try simp only [List.map_toArray, List.map_cons, List.map_nil]); first | done | rfl | (simp only [List.length_drop, List.length_take]; rfl)) ?_
      with_reducible refine (spec_l04Image.calls k1 ((rd_T33 t379 x7_1).f0) ((rd_T33 t379 x7_1).f1) ((rd_T33 t379 x7_1).f2) ((rd_T33 t379 x7_1).f3) a1_0 a1_1 a1_2 t386 t387 t388 _ A10.out).mono ?_
      rintro e w19 ⟨rfl, hb⟩
      have HS3_ := (hb.cell (World.block_lt_of_cell? _ _ (hHeld.2.2.2.1))).trans (hHeld.2.2.2.1)
      have HS4_ := (hb.cell (World.block_lt_of_cell? _ _ (hHeld.2.2.2.2.1))).trans (hHeld.2.2.2.2.1)
      have HS5_ := (hb.cell (World.block_lt_of_cell? _ _ (hHeld.2.2.2.2.2.1))).trans (hHeld.2.2.2.2.2.1)
      have HS6_ := (hb.cell (World.block_lt_of_cell? _ _ (hHeld.2.2.2.2.2.2))).trans (hHeld.2.2.2.2.2.2)
      refine ⟨_, rfl, ?_⟩
      have n0_ := Aside0.mk (Kd.R_below (by (with_reducible repeat (first | apply Kd.R_alloc | apply Kd.R_drewN | apply Kd.R_drew)); exact HO_5.out) hb)
      have n1_ := Aside0.mk (Kd.R_below (by (with_reducible repeat (first | apply Kd.R_alloc | apply Kd.R_drewN | apply Kd.R_drew)); exact HO_6.out) hb)
      have n2_ := Aside0.mk (bbl BK378 hb)
      have n3_ := Aside0.mk (bst1 HB GE378 hb)
      clear HO_5
      clear HO_6
      clear BK378
      clear HB
      have HO_5 := n0_
      have HO_6 := n1_
      have BK378 := n2_
      have HB := n3_
      clear n0_ n1_ n2_ n3_
      (try clear hb)
      (try clear hb2)
      (try clear hk)
      (try clear hi)
      refine hK.out _ _ ⟨bcl BK378 0, bcl BK378 1, bcl BK378 2, HS3_, HS4_, HS5_, HS6_⟩ (fun hHeld => ?_)
      clear hK K
      refine norm_ (a' := ?_) ?_ ?_
      rotate_left
      ·show Act.put _ (some 22) _ = _
       simp only [Act.put, sA, sB, sC, i64_w, i32_w]
       rfl
      refine pure_ (i := 7) (N := some 24) (v := ?_) (a' := ?_) #[true, true, true, true, true, true, true, true] rfl rfl (any_of HT_.out (by kernel_rfl)) (fun _ _ _ h => h) (Or.inl ⟨by rfl, ?_⟩) ?_ ?_
      rotate_left
      ·intro w'
       go_simp
       with_reducible rfl
      rotate_left
      ·simp only [Act.put, sA, sB, sC, i64_w, i32_w]
       rfl
      refine done_ (done_of HT_.out (by kernel_rfl)) ?_
      try go_wp2
      go_roundg k1
      case measure => have := HK1.out; omega
      case rel => exact ⟨(x6_1), (wrap64 (x7_1 + 1)), (by first | rfl | (simp; done) | (simp [*]; done)), H', ⟨by have := HK1.out; omega⟩, ⟨by (with_reducible repeat (first | apply Kd.R_alloc | apply Kd.R_drewN | apply Kd.R_drew)); exact HO_5.out⟩, ⟨by (with_reducible repeat (first | apply Kd.R_alloc | apply Kd.R_drewN | apply Kd.R_drew)); exact HO_6.out⟩, ⟨bkp BK378⟩, ⟨bbw1 HB GE378⟩⟩
    ·rw [if_neg c9] at H
     exact absurd H (by simp)
   ·rw [if_neg c8] at H
    have c8b0 : decide (x7_1 < (t379.length : Int)) = false := decide_eq_false c8
    clear c8
    obtain rfl := Option.some.inj H
    obtain ⟨Ao20, co20, eo20⟩ := Kd.R_slice HO_5.out
    subst eo20
    go_wp2
    go_ret
    exact ⟨_, by first | rfl | (simp [errW_none, errW_some] <;> rfl) | (simp [*, errW_none, errW_some] <;> rfl), by (with_reducible repeat (first | apply Kd.R_alloc | apply Kd.R_drewN | apply Kd.R_drew)); exact Kd.R_mono HO_6.out (fun _ hk => trivial), bbw1 HB GE378⟩

/-! ### spec_l03Cells: function 87 -/
mutual
def spec_l03Cells.l0 : Nat → List (S34) → Int → Int → Int → Int → Option ((List (S34)))
 | 0, _, _, _, _, _ => none
 | k + 1, x3, x4, x394000, x394001, x394002 => if x4 < x394000 then (spec_l03Cells.l1 k x3 x4 0 x394000 x394001 x394002) else (some x3)
def spec_l03Cells.l1 : Nat → List (S34) → Int → Int → Int → Int → Int → Option ((List (S34)))
 | 0, _, _, _, _, _, _ => none
 | k + 1, x3, x4, x5, x394000, x394001, x394002 => if x5 < x394002 then (if x3.length < 8796093022208 then (spec_l03Cells.l1 k (x3 ++ [(⟨x4, x5⟩ : S34)]) x4 (wrap64 (x5 + 1)) x394000 x394001 x394002) else (none)) else (spec_l03Cells.l0 k x3 (wrap64 (x4 + 1)) x394000 x394001 x394002)
end
def spec_l03Cells.f (k : Nat) (a0_0 : Int) (a0_1 : Int) (a0_2 : Int) : Option ((List (S34))) := spec_l03Cells.l0 k (([] : List (S34))) 0 a0_0 a0_1 a0_2
set_option maxHeartbeats 8000000 in
set_option maxRecDepth 100000 in
theorem spec_l03Cells.calls (k : Nat) (a0_0 : Int) (a0_1 : Int) (a0_2 : Int) (r : List (S34)) (w : World) (h : spec_l03Cells.f k a0_0 a0_1 a0_2 = some r) :
  Calls Try.prog 87 #[.agg #[.int .i64 a0_0, .int .i64 a0_1, .int .i64 a0_2]] w fun e w' => ∃ v0_ : Value, e = .returned (v0_) ∧ Kd.R k34 34 w' w.heap.size (fun _ => True) v0_ r ∧ Below w.heap.size w w' := by
 have hu31 := Try.underlying31
 have hu34 := Try.underlying34
 have HB := Aside0.mk (Below.refl w.heap.size w)
 have H : (spec_l03Cells.l0 k (([] : List (S34))) 0 a0_0 a0_1 a0_2) = some r := h
 clear h
 obtain ⟨y394, hy394⟩ : ∃ y_ : List (S34), y_ = (([] : List (S34))) := ⟨_, rfl⟩
 replace H : (spec_l03Cells.l0 k y394 0 a0_0 a0_1 a0_2) = some r := by first | (rw [hy394]; with_reducible exact H) | (have H2_ := (Option.bind_some _ _).symm.trans H; rw [hy394]; with_reducible exact H2_) | (have H2_ := (Option.bind_some _ _).symm.trans H; with_reducible exact H2_) | with_reducible exact H | (rw [hy394]; exact H) | exact H
 have Ny394 := Aside0.mk hy394
 clear hy394
 have H' := Aside0.mk H
 clear H
 go_enter Try.func87, Try.ntmps87
 go_wp2_with (first | ((with_reducible refine gate_dst (N := 1) rfl ?_); refine box_event ?hg (N := 1) ?hd (cs := #[.int .i64 a0_0, .int .i64 a0_1, .int .i64 a0_2]) (t := 31) ?hr ?_; (case hd => rfl); (case hg => rfl); (case hr => first | (go_simp; done) | (go_simp; rfl)); intro gb393 hg w2 hbox hb; have n0_ := Aside0.mk (bst0 HB hb); have n1_ := Aside0.mk (hbox); have n2_ := ngw0 hg HB; have n3_ := n2_; clear HB; have HB := n0_; have BK393 := n1_; have GW393 := n2_; have GE393 := n3_; clear n0_ n1_ n2_ n3_; clear hb hbox hg) | ((with_reducible refine gate_dst (N := 6) rfl ?_); refine Kd.R_lit k34 _ 34 ?hg (N := 6) ?hd (xs := ([] : List (S34))) (inner := []) (ok := fun _ => True) (okp := fun _ => True) ?hr ?hp (fun _ hk => hk) trivial (Below.refl _ _) (Nat.le_refl _) (by simp) ?_; (case hd => rfl); (case hg => rfl); (case hr => first | (go_simp; done) | (go_simp; rfl)); (case hp => exact (Reps.none _ _)); intro v395 w3 ho4 hb hg_ hnew_; clear hg_ hnew_; (first | rw [← Ny394.out] at ho4 | (simp only [Int.reduceToNat] at ho4; rw [← Ny394.out] at ho4)); have n0_ := Aside0.mk (Kd.R_lower ho4 (bsz1 HB GE393)); have n1_ := Aside0.mk (bbl BK393 hb); have n2_ := Aside0.mk (bst1 HB GE393 hb); clear BK393; clear HB; have HO396 := n0_; have BK393 := n1_; have HB := n2_; clear n0_ n1_ n2_; clear hb ho4))
 go_loopg [3, 4] k (fun kq v3 v4 w' => ∃ (x3_1 : List (S34)) (x4_1 : Int), v4 = .int .i64 x4_1 ∧ Aside0 (spec_l03Cells.l0 kq x3_1 x4_1 a0_0 a0_1 a0_2 = some r) ∧ Aside0 (kq ≤ k) ∧ Aside0 (Kd.R k34 34 w' w.heap.size (fun _ => True) v3 x3_1) ∧ Aside0 (w'.heap[gb393]? = some (.cells #[.int .i64 a0_0, .int .i64 a0_1, .int .i64 a0_2] 31 (0, 0))) ∧ Aside0 (Below w.heap.size w w'))
 case atStart => exact ⟨(y394), (0), (by first | rfl | (simp; done) | (simp [*]; done)), H', ⟨Nat.le_refl _⟩, ⟨by (with_reducible repeat (first | apply Kd.R_alloc | apply Kd.R_drewN | apply Kd.R_drew)); exact HO396.out⟩, ⟨bkp BK393⟩, ⟨bbw1 HB GE393⟩⟩
 case round =>
  clear H'
  try clear p2
  obtain ⟨x3_1, x4_1, rfl, HA, HK1, HO_3, BK393, HB⟩ := hrel
  cases gk with
  | zero => exact absurd HA.out (by simp [spec_l03Cells.l0])
  | succ k1 =>
   have H := HA.out
   clear HA
   simp only [spec_l03Cells.l0] at H
   by_cases c5 : x4_1 < a0_0
   ·rw [if_pos c5] at H
    have c5b0 : decide (x4_1 < a0_0) = true := decide_eq_true c5
    clear c5
    have H' := Aside0.mk H
    clear H
    have hcz6_0 : wr.cell? ⟨gb393, 0, none⟩ = some (.int .i64 a0_0) := bcl BK393 0
    have hcz6_1 : wr.cell? ⟨gb393, 1, none⟩ = some (.int .i64 a0_1) := bcl BK393 1
    have hcz6_2 : wr.cell? ⟨gb393, 2, none⟩ = some (.int .i64 a0_2) := bcl BK393 2
    have hfz6_0 := blk_frozen BK393.out 0
    have hfz6_1 := blk_frozen BK393.out 1
    have hfz6_2 := blk_frozen BK393.out 2
    go_wp2
    go_loopg [3, 5] k1 (fun kq v3 v5 w' => ∃ (x3_2 : List (S34)) (x5_2 : Int), v5 = .int .i64 x5_2 ∧ Aside0 (spec_l03Cells.l1 kq x3_2 x4_1 x5_2 a0_0 a0_1 a0_2 = some r) ∧ Aside0 (kq ≤ k1) ∧ Aside0 (Kd.R k34 34 w' w.heap.size (fun _ => True) v3 x3_2) ∧ Aside0 (w'.heap[gb393]? = some (.cells #[.int .i64 a0_0, .int .i64 a0_1, .int .i64 a0_2] 31 (0, 0))) ∧ Aside0 (Below w.heap.size w w'))
    case atStart => exact ⟨(x3_1), (0), (by first | rfl | (simp; done) | (simp [*]; done)), H', ⟨Nat.le_refl _⟩, ⟨by (with_reducible repeat (first | apply Kd.R_alloc | apply Kd.R_drewN | apply Kd.R_drew)); exact HO_3.out⟩, ⟨bkp BK393⟩, ⟨bbw1 HB GE393⟩⟩
    case round =>
     clear H'
     try clear p2
     try clear c5
     try clear c5b0
     try clear hcz6_0
     try clear hcz6_1
     try clear hcz6_2
     try clear hfz6_0
     try clear hfz6_1
     try clear hfz6_2
     try clear p2
     obtain ⟨x3_2, x5_2, rfl, HA, HK2, HO_3, BK393, HB⟩ := hrel
     cases gk with
     | zero => exact absurd HA.out (by simp [spec_l03Cells.l1])
     | succ k2 =>
      have H := HA.out
      clear HA
      simp only [spec_l03Cells.l1] at H
      by_cases c7 : x5_2 < a0_2
      ·rw [if_pos c7] at H
       have c7b0 : decide (x5_2 < a0_2) = true := decide_eq_true c7
       clear c7
       by_cases c8 : x3_2.length < 8796093022208
       ·rw [if_pos c8] at H
        have LMc8 := Aside0.mk c8
        clear c8
        obtain ⟨y397, hy397⟩ : ∃ y_ : List (S34), y_ = (x3_2 ++ [(⟨x4_1, x5_2⟩ : S34)]) := ⟨_, rfl⟩
        replace H : (spec_l03Cells.l1 k2 y397 x4_1 (wrap64 (x5_2 + 1)) a0_0 a0_1 a0_2) = some r := by first | (rw [hy397]; with_reducible exact H) | (have H2_ := (Option.bind_some _ _).symm.trans H; rw [hy397]; with_reducible exact H2_) | (have H2_ := (Option.bind_some _ _).symm.trans H; with_reducible exact H2_) | with_reducible exact H | (rw [hy397]; exact H) | exact H
        have Ny397 := Aside0.mk hy397
        clear hy397
        have H' := Aside0.mk H
        clear H
        have hcz9_0 : wr.cell? ⟨gb393, 0, none⟩ = some (.int .i64 a0_0) := bcl BK393 0
        have hcz9_1 : wr.cell? ⟨gb393, 1, none⟩ = some (.int .i64 a0_1) := bcl BK393 1
        have hcz9_2 : wr.cell? ⟨gb393, 2, none⟩ = some (.int .i64 a0_2) := bcl BK393 2
        have hfz9_0 := blk_frozen BK393.out 0
        have hfz9_1 := blk_frozen BK393.out 1
        have hfz9_2 := blk_frozen BK393.out 2
        go_wp2_with (first | ((with_reducible refine gate_builtin (b := .append) (xs := #[.tmp 19, .tmp 23]) rfl ?_); at_builtin; refine Kd.R_append k34 (w0 := w) w.heap.size rfl (.tmp 19) (.tmp 23) 94 34 (.agg #[(.int .i64 0), (.int .i64 0)]) 16 rfl Try.underlying94 info34 rfl (by decide) (by omega) u3 x3_2 (⟨x4_1, x5_2⟩ : S34) [.int .i64 x4_1, .int .i64 x5_2] (fun _ => True) (fun _ => False) rfl rfl ?aP (fun _ hk => hk.elim) ?aF ?aO ?aB ?aS ?aL ?_; (case aP => exact k34_mkM _ _ _ (⟨x4_1, x5_2⟩ : S34)); (case aB => exact (bbw1 HB GE393)); (case aF => exact (fun _ _ => trivial)); (case aO => exact (by (with_reducible repeat (first | apply Kd.R_alloc | apply Kd.R_drewN | apply Kd.R_drew)); exact HO_3.out)); (case aS => exact (bsz1 HB GE393)); (case aL => have := LMc8.out; omega); intro v398 w10 ho hb hg hat; rw [← Ny397.out] at ho; have n0_ := Aside0.mk (blk_grown (g := gb393) (o := .cells #[.int .i64 a0_0, .int .i64 a0_1, .int .i64 a0_2] 31 (0, 0)) (bkp BK393) hg (Kd.R_ne HO_3.out BK393.out (by decide))); have n1_ := Aside0.mk (hb); have n2_ := Aside0.mk (ho); clear BK393; clear HB; clear HO_3; have BK393 := n0_; have HB := n1_; have HO399 := n2_; clear n0_ n1_ n2_; clear ho hb hg hat))
        go_roundg k2
        case measure => have := HK1.out; have := HK2.out; omega
        case rel => exact ⟨(y397), (wrap64 (x5_2 + 1)), (by first | rfl | (simp; done) | (simp [*]; done)), H', ⟨by have := HK1.out; have := HK2.out; omega⟩, ⟨by (with_reducible repeat (first | apply Kd.R_alloc | apply Kd.R_drewN | apply Kd.R_drew)); exact HO399.out⟩, ⟨bkp BK393⟩, ⟨bbw1 HB GE393⟩⟩
       ·rw [if_neg c8] at H
        exact absurd H (by simp)
      ·rw [if_neg c7] at H
       have c7b0 : decide (x5_2 < a0_2) = false := decide_eq_false c7
       clear c7
       have H' := Aside0.mk H
       clear H
       have hcz11_0 : wr.cell? ⟨gb393, 0, none⟩ = some (.int .i64 a0_0) := bcl BK393 0
       have hcz11_1 : wr.cell? ⟨gb393, 1, none⟩ = some (.int .i64 a0_1) := bcl BK393 1
       have hcz11_2 : wr.cell? ⟨gb393, 2, none⟩ = some (.int .i64 a0_2) := bcl BK393 2
       have hfz11_0 := blk_frozen BK393.out 0
       have hfz11_1 := blk_frozen BK393.out 1
       have hfz11_2 := blk_frozen BK393.out 2
       go_wp2
       go_roundg k2
       case measure => have := HK1.out; have := HK2.out; omega
       case rel => exact ⟨(x3_2), (wrap64 (x4_1 + 1)), (by first | rfl | (simp; done) | (simp [*]; done)), H', ⟨by have := HK1.out; have := HK2.out; omega⟩, ⟨by (with_reducible repeat (first | apply Kd.R_alloc | apply Kd.R_drewN | apply Kd.R_drew)); exact HO_3.out⟩, ⟨bkp BK393⟩, ⟨bbw1 HB GE393⟩⟩
   ·rw [if_neg c5] at H
    have c5b0 : decide (x4_1 < a0_0) = false := decide_eq_false c5
    clear c5
    obtain rfl := Option.some.inj H
    have hcz12_0 : wr.cell? ⟨gb393, 0, none⟩ = some (.int .i64 a0_0) := bcl BK393 0
    have hcz12_1 : wr.cell? ⟨gb393, 1, none⟩ = some (.int .i64 a0_1) := bcl BK393 1
    have hcz12_2 : wr.cell? ⟨gb393, 2, none⟩ = some (.int .i64 a0_2) := bcl BK393 2
    have hfz12_0 := blk_frozen BK393.out 0
    have hfz12_1 := blk_frozen BK393.out 1
    have hfz12_2 := blk_frozen BK393.out 2
    go_wp2
    go_ret
    exact ⟨_, by first | rfl | (simp [errW_none, errW_some] <;> rfl) | (simp [*, errW_none, errW_some] <;> rfl), by (with_reducible repeat (first | apply Kd.R_alloc | apply Kd.R_drewN | apply Kd.R_drew)); exact HO_3.out, bbw1 HB GE393⟩

/-! ### spec_l16All: function 49 -/
mutual
def spec_l16All.l0 : Nat → List (S33) → List (S34) → List (S36) → Int → Option ((List (S36)))
 | 0, _, _, _, _ => none
 | k + 1, x5, x6, x7, x8 => if x8 < (x5.length : Int) then (spec_l16All.l1 k x5 x6 x7 x8 0) else (some x7)
def spec_l16All.l1 : Nat → List (S33) → List (S34) → List (S36) → Int → Int → Option ((List (S36)))
 | 0, _, _, _, _, _ => none
 | k + 1, x5, x6, x7, x8, x9 => if x9 < (x6.length : Int) then (if 0 ≤ x8 then (if x8 < (x5.length : Int) then (if 0 ≤ x9 then (if x7.length < 2932031007402 then (spec_l16All.l1 k x5 x6 (x7 ++ [(⟨(⟨(rd_T33 x5 x8).f0, (rd_T33 x5 x8).f1, (rd_T33 x5 x8).f2, (rd_T33 x5 x8).f3⟩ : S33), (⟨(rd_T34 x6 x9).f0, (rd_T34 x6 x9).f1⟩ : S34)⟩ : S36)]) x8 (wrap64 (x9 + 1))) else (none)) else (none)) else (none)) else (none)) else (spec_l16All.l0 k x5 x6 x7 (wrap64 (x8 + 1)))
end
def spec_l16All.f (k : Nat) (a0 : Int) (a1_0 : Int) (a1_1 : Int) (a1_2 : Int) : Option ((List (S36))) := (spec_l04Stable.f k a0 a1_0 a1_1 a1_2).bind fun t401 => ((spec_l03Cells.f k a1_0 a1_1 a1_2).bind fun t404 => (spec_l16All.l0 k t401 t404 (([] : List (S36))) 0))
def spec_l16All.T9 : Bool × List (List Nat × List Nat) := (true, [([], []), ([], []), ([], []), ([1, 2], [1, 2]), ([3], [3]), ([], []), ([], []), ([5, 6], [5, 6]), ([7], [7]), ([4, 8], [4, 8]), ([9], [9]), ([0, 10], [0, 10]), ([11, 11, 0, 1, 2, 3, 4, 5, 6, 7, 8, 9, 10, 11], [0, 11])])
def spec_l16All.B9 : List Nat := [0, 0, 0, 6, 14, 0, 0, 96, 224, 510, 1022, 2047, 4095]
theorem spec_l16All.tab9 : rtab .any (opsOf Try.f49 9) = spec_l16All.T9 := by kernel_rfl
theorem spec_l16All.bits9 : waitsOk spec_l16All.T9.2 spec_l16All.B9 = true := by kernel_rfl
set_option maxHeartbeats 8000000 in
set_option maxRecDepth 100000 in
theorem spec_l16All.calls (k : Nat) (a0 : Int) (a1_0 : Int) (a1_1 : Int) (a1_2 : Int) (r : List (S36)) (w : World) (h : spec_l16All.f k a0 a1_0 a1_1 a1_2 = some r) :
  Calls Try.prog 49 #[.int .i64 a0, .agg #[.int .i64 a1_0, .int .i64 a1_1, .int .i64 a1_2]] w fun e w' => ∃ v0_ : Value, e = .returned (v0_) ∧ Kd.R k36 36 w' w.heap.size (fun _ => True) v0_ r ∧ Below w.heap.size w w' := by
 have hu31 := Try.underlying31
 have hu33 := Try.underlying33
 have hu34 := Try.underlying34
 have hu36 := Try.underlying36
 have HB := Aside0.mk (Below.refl w.heap.size w)
 have H : ((spec_l04Stable.f k a0 a1_0 a1_1 a1_2).bind fun t401 => ((spec_l03Cells.f k a1_0 a1_1 a1_2).bind fun t404 => (spec_l16All.l0 k t401 t404 (([] : List (S36))) 0))) = some r := h
 clear h
 replace H := Option.bind_eq_some_iff.mp H
 obtain ⟨t401, A30, H⟩ := H
 replace H : ((spec_l03Cells.f k a1_0 a1_1 a1_2).bind fun t404 => (spec_l16All.l0 k t401 t404 (([] : List (S36))) 0)) = some r := H
 have A3 := Aside0.mk A30
 clear A30
 replace H := Option.bind_eq_some_iff.mp H
 obtain ⟨t404, A40, H⟩ := H
 replace H : (spec_l16All.l0 k t401 t404 (([] : List (S36))) 0) = some r := H
 have A4 := Aside0.mk A40
 clear A40
 obtain ⟨y407, hy407⟩ : ∃ y_ : List (S36), y_ = (([] : List (S36))) := ⟨_, rfl⟩
 replace H : (spec_l16All.l0 k t401 t404 y407 0) = some r := by first | (rw [hy407]; with_reducible exact H) | (have H2_ := (Option.bind_some _ _).symm.trans H; rw [hy407]; with_reducible exact H2_) | (have H2_ := (Option.bind_some _ _).symm.trans H; with_reducible exact H2_) | with_reducible exact H | (rw [hy407]; exact H) | exact H
 have Ny407 := Aside0.mk hy407
 clear hy407
 have H' := Aside0.mk H
 clear H
 go_enter Try.func49, Try.ntmps49
 try go_wp2_with (first | ((with_reducible refine gate_dst (N := 3) rfl ?_); refine box_event ?hg (N := 3) ?hd (cs := #[.int .i64 a1_0, .int .i64 a1_1, .int .i64 a1_2]) (t := 31) ?hr ?_; (case hd => rfl); (case hg => rfl); (case hr => first | (go_simp; done) | (go_simp; rfl)); intro gb400 hg w5 hbox hb; have n0_ := Aside0.mk (bst0 HB hb); have n1_ := Aside0.mk (hbox); have n2_ := ngw0 hg HB; have n3_ := n2_; clear HB; have HB := n0_; have BK400 := n1_; have GW400 := n2_; have GE400 := n3_; clear n0_ n1_ n2_ n3_; clear hb hbox hg))
 have n0_ := Aside0.mk (blk_drew BK400.out)
 have n1_ := Aside0.mk (below_drew1 HB.out)
 clear BK400
 clear HB
 have BK400 := n0_
 have HB := n1_
 clear n0_ n1_
 refine start_ (n := 7) (S := fun w' => w'.cell? ⟨gb400, 0, none⟩ = some (.int .i64 a1_0) ∧ w'.cell? ⟨gb400, 1, none⟩ = some (.int .i64 a1_1) ∧ w'.cell? ⟨gb400, 2, none⟩ = some (.int .i64 a1_2)) (ds := []) #[false, false, false, false, false, false, false] (by kernel_rfl) rfl rfl ⟨bcl BK400 0, bcl BK400 1, bcl BK400 2⟩ (fun hHeld => ?_)
 generalize w5.drew = w6 at BK400 HB hHeld ⊢
 refine pure_ (i := 0) (N := some 10) (v := ?_) (a' := ?_) #[true, false, false, false, false, false, false] rfl rfl (by kernel_rfl) (fun _ _ _ h => h) (Or.inl ⟨by rfl, ?_⟩) ?_ ?_
 rotate_left
 ·intro w'
  go_simp
  with_reducible rfl
 rotate_left
 ·simp only [Act.put, sA, sB, sC, i64_w, i32_w]
  rfl
 refine take_ (i := 1) (N := some 11) (v := ?_) (a' := ?_) #[true, true, false, false, false, false, false] rfl rfl (by kernel_rfl) (fun _ _ _ h => h) (Or.inl ⟨by rfl, ?_⟩) hHeld ?_ ?_
 rotate_left
 ·rintro w' ⟨s0, s1, s2⟩
  go_simp
  with_reducible rfl
 rotate_left
 ·simp only [Act.put, sA, sB, sC, i64_w, i32_w]
  rfl
 refine take_ (i := 3) (N := some 13) (v := ?_) (a' := ?_) #[true, true, false, true, false, false, false] rfl rfl (by kernel_rfl) (fun _ _ _ h => h) (Or.inl ⟨by rfl, ?_⟩) hHeld ?_ ?_
 rotate_left
 ·rintro w' ⟨s0, s1, s2⟩
  go_simp
  with_reducible rfl
 rotate_left
 ·simp only [Act.put, sA, sB, sC, i64_w, i32_w]
  rfl
 refine one_ (i := 2) (N := some 12) #[true, true, true, true, false, false, false] rfl rfl (by kernel_rfl) (by decide) (fun K hK => ?_)
 refine goes_ Try.func86 (by kernel_rfl) rfl #[.int .i64 a0, .agg #[.int .i64 a1_0, .int .i64 a1_1, .int .i64 a1_2]] (by rfl) rfl rfl (by (try simp only [List.map_toArray, List.map_cons, List.map_nil]); first | done | rfl | (simp only [List.length_drop, List.length_take]; rfl)) ?_
 with_reducible refine (spec_l04Stable.calls k a0 a1_0 a1_1 a1_2 t401 _ A3.out).mono ?_
 rintro e w7 ⟨v402, rfl, ho0, hb⟩
 refine ⟨_, rfl, ?_⟩
 have n0_ := Aside0.mk (Kd.R_lower ho0 (bsz1 HB GE400))
 have n1_ := Aside0.mk (bbl BK400 hb)
 have n2_ := Aside0.mk (bst1 HB GE400 hb)
 clear BK400
 clear HB
 have HO403 := n0_
 have BK400 := n1_
 have HB := n2_
 clear n0_ n1_ n2_
 (try clear hb)
 (try clear hb2)
 (try clear hk)
 (try clear hi)
 (try clear ho0)
 refine hK.out _ _ ⟨bcl BK400 0, bcl BK400 1, bcl BK400 2⟩ (fun hHeld => ?_)
 clear hK K
 refine norm_ (a' := ?_) ?_ ?_
 rotate_left
 ·show Act.put _ (some 12) _ = _
  simp only [Act.put, sA, sB, sC, i64_w, i32_w]
  rfl
 refine one_ (i := 4) (N := some 14) #[true, true, true, true, true, false, false] rfl rfl (by kernel_rfl) (by decide) (fun K hK => ?_)
 refine goes_ Try.func87 (by kernel_rfl) rfl #[.agg #[.int .i64 a1_0, .int .i64 a1_1, .int .i64 a1_2]] (by rfl) rfl rfl (by (try simp only [List.map_toArray, List.map_cons, List.map_nil]); first | done | rfl | (simp only [List.length_drop, List.length_take]; rfl)) ?_
 with_reducible refine (spec_l03Cells.calls k a1_0 a1_1 a1_2 t404 _ A4.out).mono ?_
 rintro e w8 ⟨v405, rfl, ho0, hb⟩
 refine ⟨_, rfl, ?_⟩
 have n0_ := Aside0.mk (Kd.R_below (by (with_reducible repeat (first | apply Kd.R_alloc | apply Kd.R_drewN | apply Kd.R_drew)); exact HO403.out) hb)
 have n1_ := Aside0.mk (Kd.R_lower ho0 (bsz1 HB GE400))
 have n2_ := Aside0.mk (bbl BK400 hb)
 have n3_ := Aside0.mk (bst1 HB GE400 hb)
 clear HO403
 clear BK400
 clear HB
 have HO403 := n0_
 have HO406 := n1_
 have BK400 := n2_
 have HB := n3_
 clear n0_ n1_ n2_ n3_
 (try clear hb)
 (try clear hb2)
 (try clear hk)
 (try clear hi)
 (try clear ho0)
 refine hK.out _ _ ⟨bcl BK400 0, bcl BK400 1, bcl BK400 2⟩ (fun hHeld => ?_)
 clear hK K
 refine norm_ (a' := ?_) ?_ ?_
 rotate_left
 ·show Act.put _ (some 14) _ = _
  simp only [Act.put, sA, sB, sC, i64_w, i32_w]
  rfl
 refine pure_ (i := 5) (N := some 5) (v := ?_) (a' := ?_) #[true, true, true, true, true, true, false] rfl rfl (by kernel_rfl) (fun _ _ _ h => h) (Or.inl ⟨by rfl, ?_⟩) ?_ ?_
 rotate_left
 ·intro w'
  go_simp
  with_reducible rfl
 rotate_left
 ·simp only [Act.put, sA, sB, sC, i64_w, i32_w]
  rfl
 refine pure_ (i := 6) (N := some 6) (v := ?_) (a' := ?_) #[true, true, true, true, true, true, true] rfl rfl (by kernel_rfl) (fun _ _ _ h => h) (Or.inl ⟨by rfl, ?_⟩) ?_ ?_
 rotate_left
 ·intro w'
  go_simp
  with_reducible rfl
 rotate_left
 ·simp only [Act.put, sA, sB, sC, i64_w, i32_w]
  rfl
 refine done_ (by kernel_rfl) ?_
 try go_wp2_with (first | ((with_reducible refine gate_dst (N := 15) rfl ?_); refine Kd.R_lit k36 _ 36 ?hg (N := 15) ?hd (xs := ([] : List (S36))) (inner := []) (ok := fun _ => True) (okp := fun _ => True) ?hr ?hp (fun _ hk => hk) trivial (Below.refl _ _) (Nat.le_refl _) (by simp) ?_; (case hd => rfl); (case hg => rfl); (case hr => first | (go_simp; done) | (go_simp; rfl)); (case hp => exact (Reps.none _ _)); intro v408 w9 ho10 hb hg_ hnew_; clear hg_ hnew_; (first | rw [← Ny407.out] at ho10 | (simp only [Int.reduceToNat] at ho10; rw [← Ny407.out] at ho10)); have n0_ := Aside0.mk (Kd.R_below (by (with_reducible repeat (first | apply Kd.R_alloc | apply Kd.R_drewN | apply Kd.R_drew)); exact HO403.out) hb); have n1_ := Aside0.mk (Kd.R_below (by (with_reducible repeat (first | apply Kd.R_alloc | apply Kd.R_drewN | apply Kd.R_drew)); exact HO406.out) hb); have n2_ := Aside0.mk (Kd.R_lower ho10 (bsz1 HB GE400)); have n3_ := Aside0.mk (bbl BK400 hb); have n4_ := Aside0.mk (bst1 HB GE400 hb); clear HO403; clear HO406; clear BK400; clear HB; have HO403 := n0_; have HO406 := n1_; have HO409 := n2_; have BK400 := n3_; have HB := n4_; clear n0_ n1_ n2_ n3_ n4_; clear hb ho10))
 go_loopg [7, 8] k (fun kq v7 v8 w' => ∃ (x7_1 : List (S36)) (x8_1 : Int), v8 = .int .i64 x8_1 ∧ Aside0 (spec_l16All.l0 kq t401 t404 x7_1 x8_1 = some r) ∧ Aside0 (kq ≤ k) ∧ Aside0 (Kd.R k33 33 w' w.heap.size (fun _ => True) v402 t401) ∧ Aside0 (Kd.R k34 34 w' w.heap.size (fun _ => True) v405 t404) ∧ Aside0 (Kd.R k36 36 w' w.heap.size (fun _ => True) v7 x7_1) ∧ Aside0 (w'.heap[gb400]? = some (.cells #[.int .i64 a1_0, .int .i64 a1_1, .int .i64 a1_2] 31 (0, 0))) ∧ Aside0 (Below w.heap.size w w'))
 case atStart => exact ⟨(y407), (0), (by first | rfl | (simp; done) | (simp [*]; done)), H', ⟨Nat.le_refl _⟩, ⟨by (with_reducible repeat (first | apply Kd.R_alloc | apply Kd.R_drewN | apply Kd.R_drew)); exact HO403.out⟩, ⟨by (with_reducible repeat (first | apply Kd.R_alloc | apply Kd.R_drewN | apply Kd.R_drew)); exact HO406.out⟩, ⟨by (with_reducible repeat (first | apply Kd.R_alloc | apply Kd.R_drewN | apply Kd.R_drew)); exact HO409.out⟩, ⟨bkp BK400⟩, ⟨bbw1 HB GE400⟩⟩
 case round =>
  clear H'
  try clear p2
  try clear c4
  try clear c8
  obtain ⟨x7_1, x8_1, rfl, HA, HK1, HO_5, HO_6, HO_7, BK400, HB⟩ := hrel
  cases gk with
  | zero => exact absurd HA.out (by simp [spec_l16All.l0])
  | succ k1 =>
   have H := HA.out
   clear HA
   simp only [spec_l16All.l0] at H
   by_cases c11 : x8_1 < (t401.length : Int)
   ·rw [if_pos c11] at H
    have c11b0 : decide (x8_1 < (t401.length : Int)) = true := decide_eq_true c11
    clear c11
    have H' := Aside0.mk H
    clear H
    obtain ⟨Ao12, co12, eo12⟩ := Kd.R_slice HO_5.out
    subst eo12
    go_wp2
    go_loopg [7, 9] k1 (fun kq v7 v9 w' => ∃ (x7_2 : List (S36)) (x9_2 : Int), v9 = .int .i64 x9_2 ∧ Aside0 (spec_l16All.l1 kq t401 t404 x7_2 x8_1 x9_2 = some r) ∧ Aside0 (kq ≤ k1) ∧ Aside0 (Kd.R k33 33 w' w.heap.size (fun _ => True) (.slice Ao12 t401.length co12) t401) ∧ Aside0 (Kd.R k34 34 w' w.heap.size (fun _ => True) v405 t404) ∧ Aside0 (Kd.R k36 36 w' w.heap.size (fun _ => True) v7 x7_2) ∧ Aside0 (w'.heap[gb400]? = some (.cells #[.int .i64 a1_0, .int .i64 a1_1, .int .i64 a1_2] 31 (0, 0))) ∧ Aside0 (Below w.heap.size w w'))
    case atStart => exact ⟨(x7_1), (0), (by first | rfl | (simp; done) | (simp [*]; done)), H', ⟨Nat.le_refl _⟩, ⟨by (with_reducible repeat (first | apply Kd.R_alloc | apply Kd.R_drewN | apply Kd.R_drew)); exact HO_5.out⟩, ⟨by (with_reducible repeat (first | apply Kd.R_alloc | apply Kd.R_drewN | apply Kd.R_drew)); exact HO_6.out⟩, ⟨by (with_reducible repeat (first | apply Kd.R_alloc | apply Kd.R_drewN | apply Kd.R_drew)); exact HO_7.out⟩, ⟨bkp BK400⟩, ⟨bbw1 HB GE400⟩⟩
    case round =>
     clear H'
     try clear c1
     try clear p2
     try clear c4
     try clear c8
     try clear c11
     try clear c11b0
     try clear p2
     obtain ⟨x7_2, x9_2, rfl, HA, HK2, HO_5, HO_6, HO_7, BK400, HB⟩ := hrel
     cases gk with
     | zero => exact absurd HA.out (by simp [spec_l16All.l1])
     | succ k2 =>
      have H := HA.out
      clear HA
      simp only [spec_l16All.l1] at H
      by_cases c13 : x9_2 < (t404.length : Int)
      ·rw [if_pos c13] at H
       have c13b0 : decide (x9_2 < (t404.length : Int)) = true := decide_eq_true c13
       clear c13
       by_cases c14 : 0 ≤ x8_1
       ·rw [if_pos c14] at H
        have c14b0 : decide (0 ≤ x8_1) = true := decide_eq_true c14
        clear c14
        by_cases c15 : x8_1 < (t401.length : Int)
        ·rw [if_pos c15] at H
         have c15b0 : decide (x8_1 < (t401.length : Int)) = true := decide_eq_true c15
         clear c15
         by_cases c16 : 0 ≤ x9_2
         ·rw [if_pos c16] at H
          have c16b0 : decide (0 ≤ x9_2) = true := decide_eq_true c16
          clear c16
          by_cases c17 : x7_2.length < 2932031007402
          ·rw [if_pos c17] at H
           have LMc17 := Aside0.mk c17
           clear c17
           obtain ⟨y412, hy412⟩ : ∃ y_ : List (S36), y_ = (x7_2 ++ [(⟨(⟨(rd_T33 t401 x8_1).f0, (rd_T33 t401 x8_1).f1, (rd_T33 t401 x8_1).f2, (rd_T33 t401 x8_1).f3⟩ : S33), (⟨(rd_T34 t404 x9_2).f0, (rd_T34 t404 x9_2).f1⟩ : S34)⟩ : S36)]) := ⟨_, rfl⟩
           replace H : (spec_l16All.l1 k2 t401 t404 y412 x8_1 (wrap64 (x9_2 + 1))) = some r := by first | (rw [hy412]; with_reducible exact H) | (have H2_ := (Option.bind_some _ _).symm.trans H; rw [hy412]; with_reducible exact H2_) | (have H2_ := (Option.bind_some _ _).symm.trans H; with_reducible exact H2_) | with_reducible exact H | (rw [hy412]; exact H) | exact H
           have Ny412 := Aside0.mk hy412
           clear hy412
           have H' := Aside0.mk H
           clear H
           obtain ⟨Ao18, co18, eo18⟩ := Kd.R_slice HO_6.out
           subst eo18
           try go_wp2
           have n0_ := Aside0.mk (Kd.R_drew HO_5.out)
           have n1_ := Aside0.mk (Kd.R_drew HO_6.out)
           have n2_ := Aside0.mk (Kd.R_drew HO_7.out)
           have n3_ := Aside0.mk (blk_drew BK400.out)
           have n4_ := Aside0.mk (below_drew1 HB.out)
           clear HO_5
           clear HO_6
           clear HO_7
           clear BK400
           clear HB
           have HO_5 := n0_
           have HO_6 := n1_
           have HO_7 := n2_
           have BK400 := n3_
           have HB := n4_
           clear n0_ n1_ n2_ n3_ n4_
           have p410 : 0 ≤ (x8_1 : Int) := of_decide_eq_true (by first | (with_reducible assumption) | assumption)
           have q410 : x8_1 < (t401.length : Int) := of_decide_eq_true (by first | (with_reducible assumption) | assumption)
           obtain ⟨ad410, e410, hx410_0, hx410_1, hx410_2, hx410_3⟩ := at_T33 (Kd.R_reads' HO_5.out).2.2 x8_1 p410 q410
           cases e410
           replace p410 := eq_true p410
           replace q410 := eq_true q410
           have p411 : 0 ≤ (x9_2 : Int) := of_decide_eq_true (by first | (with_reducible assumption) | assumption)
           have q411 : x9_2 < (t404.length : Int) := of_decide_eq_true (by first | (with_reducible assumption) | assumption)
           obtain ⟨ad411, e411, hx411_0, hx411_1⟩ := at_T34 (Kd.R_reads' HO_6.out).2.2 x9_2 p411 q411
           cases e411
           replace p411 := eq_true p411
           replace q411 := eq_true q411
           refine start_ (n := 13) (S := fun w' => w'.cell? (ad410.add ((x8_1).toNat * 4)) = some (.int .i64 ((rd_T33 t401 x8_1).f0)) ∧ w'.cell? ⟨(ad410.add ((x8_1).toNat * 4)).block, (ad410.add ((x8_1).toNat * 4)).off + 1, none⟩ = some (.int .i64 ((rd_T33 t401 x8_1).f1)) ∧ w'.cell? ⟨(ad410.add ((x8_1).toNat * 4)).block, (ad410.add ((x8_1).toNat * 4)).off + 2, none⟩ = some (.int .i64 ((rd_T33 t401 x8_1).f2)) ∧ w'.cell? ⟨(ad410.add ((x8_1).toNat * 4)).block, (ad410.add ((x8_1).toNat * 4)).off + 3, none⟩ = some (.int .i64 ((rd_T33 t401 x8_1).f3)) ∧ w'.cell? (ad411.add ((x9_2).toNat * 2)) = some (.int .i64 ((rd_T34 t404 x9_2).f0)) ∧ w'.cell? ⟨(ad411.add ((x9_2).toNat * 2)).block, (ad411.add ((x9_2).toNat * 2)).off + 1, none⟩ = some (.int .i64 ((rd_T34 t404 x9_2).f1))) (ds := [10, 11]) #[false, false, false, false, false, false, false, false, false, false, false, false, false] (by kernel_rfl) rfl rfl ⟨hx410_0, hx410_1, hx410_2, hx410_3, hx411_0, hx411_1⟩ (fun hHeld => ?_); refine with_tabW spec_l16All.tab9 spec_l16All.bits9 (fun HT_ HW_ => ?_)
           generalize wr.drew = w19 at HO_5 HO_6 HO_7 BK400 HB hx410_0 hx410_1 hx410_2 hx410_3 hx411_0 hx411_1 hHeld ⊢
           refine pure_ (i := 0) (N := some 28) (v := ?_) (a' := ?_) #[true, false, false, false, false, false, false, false, false, false, false, false, false] rfl rfl (any_of HT_.out (by kernel_rfl)) (fun _ _ _ h => h) (Or.inl ⟨by rfl, ?_⟩) ?_ ?_
           rotate_left
           ·intro w'
            go_simp
            with_reducible rfl
           rotate_left
           ·simp only [Act.put, sA, sB, sC, i64_w, i32_w]
            rfl
           refine pure_ (i := 1) (N := some 29) (v := ?_) (a' := ?_) #[true, true, false, false, false, false, false, false, false, false, false, false, false] rfl rfl (any_of HT_.out (by kernel_rfl)) (fun _ _ _ h => h) (Or.inl ⟨by rfl, ?_⟩) ?_ ?_
           rotate_left
           ·intro w'
            go_simp
            with_reducible rfl
           rotate_left
           ·simp only [Act.put, sA, sB, sC, i64_w, i32_w]
            rfl
           refine pure_ (i := 2) (N := some 30) (v := ?_) (a' := ?_) #[true, true, true, false, false, false, false, false, false, false, false, false, false] rfl rfl (any_of HT_.out (by kernel_rfl)) (fun _ _ _ h => h) (Or.inl ⟨by rfl, ?_⟩) ?_ ?_
           rotate_left
           ·intro w'
            go_simp
            with_reducible rfl
           rotate_left
           ·simp only [Act.put, sA, sB, sC, i64_w, i32_w]
            rfl
           refine pure_ (i := 3) (N := some 31) (v := ?_) (a' := ?_) #[true, true, true, true, false, false, false, false, false, false, false, false, false] rfl rfl (any_of HT_.out (by kernel_rfl)) (fun _ _ _ h => h) (Or.inl ⟨by rfl, ?_⟩) ?_ ?_
           rotate_left
           ·intro w'
            go_simp
            with_reducible rfl
           rotate_left
           ·simp only [Act.put, sA, sB, sC, i64_w, i32_w]
            rfl
           refine pure_ (i := 5) (N := some 33) (v := ?_) (a' := ?_) #[true, true, true, true, false, true, false, false, false, false, false, false, false] rfl rfl (any_of HT_.out (by kernel_rfl)) (fun _ _ _ h => h) (Or.inl ⟨by rfl, ?_⟩) ?_ ?_
           rotate_left
           ·intro w'
            go_simp
            with_reducible rfl
           rotate_left
           ·simp only [Act.put, sA, sB, sC, i64_w, i32_w]
            rfl
           refine pure_ (i := 6) (N := some 34) (v := ?_) (a' := ?_) #[true, true, true, true, false, true, true, false, false, false, false, false, false] rfl rfl (any_of HT_.out (by kernel_rfl)) (fun _ _ _ h => h) (Or.inl ⟨by rfl, ?_⟩) ?_ ?_
           rotate_left
           ·intro w'
            go_simp
            with_reducible rfl
           rotate_left
           ·simp only [Act.put, sA, sB, sC, i64_w, i32_w]
            rfl
           refine pure_ (i := 7) (N := some 35) (v := ?_) (a' := ?_) #[true, true, true, true, false, true, true, true, false, false, false, false, false] rfl rfl (any_of HT_.out (by kernel_rfl)) (fun _ _ _ h => h) (Or.inl ⟨by rfl, ?_⟩) ?_ ?_
           rotate_left
           ·intro w'
            go_simp
            with_reducible rfl
           rotate_left
           ·simp only [Act.put, sA, sB, sC, i64_w, i32_w]
            rfl
           refine take_ (i := 4) (N := some 32) (v := ?_) (a' := ?_) #[true, true, true, true, true, true, true, true, false, false, false, false, false] rfl rfl (take_ofW HT_.out HW_.out (by kernel_rfl)) (fun _ _ _ h => h) (Or.inl ⟨by rfl, ?_⟩) hHeld ?_ ?_
           rotate_left
           ·rintro w' ⟨s0, s1, s2, s3, s4, s5⟩
            go_simp
            with_reducible rfl
           rotate_left
           ·simp only [Act.put, sA, sB, sC, i64_w, i32_w]
            rfl
           refine take_ (i := 8) (N := some 36) (v := ?_) (a' := ?_) #[true, true, true, true, true, true, true, true, true, false, false, false, false] rfl rfl (take_ofW HT_.out HW_.out (by kernel_rfl)) (fun _ _ _ h => h) (Or.inl ⟨by rfl, ?_⟩) hHeld ?_ ?_
           rotate_left
           ·rintro w' ⟨s0, s1, s2, s3, s4, s5⟩
            go_simp
            with_reducible rfl
           rotate_left
           ·simp only [Act.put, sA, sB, sC, i64_w, i32_w]
            rfl
           refine pure_ (i := 9) (N := some 37) (v := ?_) (a' := ?_) #[true, true, true, true, true, true, true, true, true, true, false, false, false] rfl rfl (any_of HT_.out (by kernel_rfl)) (fun _ _ _ h => h) (Or.inl ⟨by rfl, ?_⟩) ?_ ?_
           rotate_left
           ·intro w'
            go_simp
            with_reducible rfl
           rotate_left
           ·simp only [Act.put, sA, sB, sC, i64_w, i32_w]
            rfl
           refine last_ (i := 10) (N := some 38) #[true, true, true, true, true, true, true, true, true, true, true, false, false] rfl rfl (one_of HT_.out (by kernel_rfl)) (by decide) (fun K hK => ?_)
           refine value_ (w1 := ?_) (v := ?_) (by rfl) rfl ?_ ?_
           rotate_left 2
           ·go_simp
            constructor
            ·rfl
            ·rfl
           refine hK.out _ _ ?_
           clear hK K
           refine norm_ (a' := ?_) ?_ ?_
           rotate_left
           ·show Act.put _ (some 38) _ = _
            simp only [Act.put, sA, sB, sC, i64_w, i32_w]
            rfl
           refine last_ (i := 11) (N := some 39) #[true, true, true, true, true, true, true, true, true, true, true, true, false] rfl rfl (one_of HT_.out (by kernel_rfl)) (by decide) (fun K hK => ?_)
           refine Kd.R_append_step k36 (w0 := w) w.heap.size (by rfl) (.tmp 28) (.tmp 38) 42 36 (.agg #[(.int .i64 0), (.int .i64 0), (.int .i64 0), (.int .i64 0), (.int .i64 0), (.int .i64 0)]) 48 rfl Try.underlying42 info36 rfl (by decide) (by omega) u7 x7_2 (⟨(⟨(rd_T33 t401 x8_1).f0, (rd_T33 t401 x8_1).f1, (rd_T33 t401 x8_1).f2, (rd_T33 t401 x8_1).f3⟩ : S33), (⟨(rd_T34 t404 x9_2).f0, (rd_T34 t404 x9_2).f1⟩ : S34)⟩ : S36) [.int .i64 ((rd_T33 t401 x8_1).f0), .int .i64 ((rd_T33 t401 x8_1).f1), .int .i64 ((rd_T33 t401 x8_1).f2), .int .i64 ((rd_T33 t401 x8_1).f3), .int .i64 ((rd_T34 t404 x9_2).f0), .int .i64 ((rd_T34 t404 x9_2).f1)] (fun _ => True) (fun _ => False) rfl rfl ?aP (fun _ hk => hk.elim) ?aF ?aO ?aB ?aS ?aL ?_
           (case aP => exact k36_mkM _ _ _ (⟨(⟨(rd_T33 t401 x8_1).f0, (rd_T33 t401 x8_1).f1, (rd_T33 t401 x8_1).f2, (rd_T33 t401 x8_1).f3⟩ : S33), (⟨(rd_T34 t404 x9_2).f0, (rd_T34 t404 x9_2).f1⟩ : S34)⟩ : S36))
           (case aB => exact (bbw1 HB GE400))
           (case aF => exact (fun _ _ => trivial))
           (case aO => exact (by (with_reducible repeat (first | apply Kd.R_alloc | apply Kd.R_drewN | apply Kd.R_drew)); exact HO_7.out))
           (case aS => exact (bsz1 HB GE400))
           (case aL => have := LMc17.out; omega)
           intro v413 w20 ho hb hg hat
           rw [← Ny412.out] at ho
           have n0_ := Aside0.mk (Kd.R_over' (by (with_reducible repeat (first | apply Kd.R_alloc | apply Kd.R_drewN | apply Kd.R_drew)); exact HO_5.out) (Kd.R_typed (by (with_reducible repeat (first | apply Kd.R_alloc | apply Kd.R_drewN | apply Kd.R_drew)); exact HO_7.out)) (by decide) hg)
           have n1_ := Aside0.mk (Kd.R_over' (by (with_reducible repeat (first | apply Kd.R_alloc | apply Kd.R_drewN | apply Kd.R_drew)); exact HO_6.out) (Kd.R_typed (by (with_reducible repeat (first | apply Kd.R_alloc | apply Kd.R_drewN | apply Kd.R_drew)); exact HO_7.out)) (by decide) hg)
           have n2_ := Aside0.mk (blk_grown (g := gb400) (o := .cells #[.int .i64 a1_0, .int .i64 a1_1, .int .i64 a1_2] 31 (0, 0)) (bkp BK400) hg (Kd.R_ne HO_7.out BK400.out (by decide)))
           have n3_ := Aside0.mk (hb)
           have n4_ := Aside0.mk (ho)
           clear HO_5
           clear HO_6
           clear BK400
           clear HB
           clear HO_7
           have HO_5 := n0_
           have HO_6 := n1_
           have BK400 := n2_
           have HB := n3_
           have HO414 := n4_
           clear n0_ n1_ n2_ n3_ n4_
           clear ho hb hg hat
           refine hK.out _ _ ?_
           clear hK K
           refine norm_ (a' := ?_) ?_ ?_
           rotate_left
           ·show Act.put _ (some 39) _ = _
            simp only [Act.put, sA, sB, sC, i64_w, i32_w]
            rfl
           refine pure_ (i := 12) (N := some 7) (v := ?_) (a' := ?_) #[true, true, true, true, true, true, true, true, true, true, true, true, true] rfl rfl (any_of HT_.out (by kernel_rfl)) (fun _ _ _ h => h) (Or.inl ⟨by rfl, ?_⟩) ?_ ?_
           rotate_left
           ·intro w'
            go_simp
            with_reducible rfl
           rotate_left
           ·simp only [Act.put, sA, sB, sC, i64_w, i32_w]
            rfl
           refine done_ (done_of HT_.out (by kernel_rfl)) ?_
           try go_wp2
           go_roundg k2
           case measure => have := HK1.out; have := HK2.out; omega
           case rel => exact ⟨(y412), (wrap64 (x9_2 + 1)), (by first | rfl | (simp; done) | (simp [*]; done)), H', ⟨by have := HK1.out; have := HK2.out; omega⟩, ⟨by (with_reducible repeat (first | apply Kd.R_alloc | apply Kd.R_drewN | apply Kd.R_drew)); exact HO_5.out⟩, ⟨by (with_reducible repeat (first | apply Kd.R_alloc | apply Kd.R_drewN | apply Kd.R_drew)); exact HO_6.out⟩, ⟨by (with_reducible repeat (first | apply Kd.R_alloc | apply Kd.R_drewN | apply Kd.R_drew)); exact HO414.out⟩, ⟨bkp BK400⟩, ⟨bbw1 HB GE400⟩⟩
          ·rw [if_neg c17] at H
           exact absurd H (by simp)
         ·rw [if_neg c16] at H
          exact absurd H (by simp)
        ·rw [if_neg c15] at H
         exact absurd H (by simp)
       ·rw [if_neg c14] at H
        exact absurd H (by simp)
      ·rw [if_neg c13] at H
       have c13b0 : decide (x9_2 < (t404.length : Int)) = false := decide_eq_false c13
       clear c13
       have H' := Aside0.mk H
       clear H
       obtain ⟨Ao21, co21, eo21⟩ := Kd.R_slice HO_6.out
       subst eo21
       go_wp2
       go_roundg k2
       case measure => have := HK1.out; have := HK2.out; omega
       case rel => exact ⟨(x7_2), (wrap64 (x8_1 + 1)), (by first | rfl | (simp; done) | (simp [*]; done)), H', ⟨by have := HK1.out; have := HK2.out; omega⟩, ⟨by (with_reducible repeat (first | apply Kd.R_alloc | apply Kd.R_drewN | apply Kd.R_drew)); exact HO_5.out⟩, ⟨by (with_reducible repeat (first | apply Kd.R_alloc | apply Kd.R_drewN | apply Kd.R_drew)); exact HO_6.out⟩, ⟨by (with_reducible repeat (first | apply Kd.R_alloc | apply Kd.R_drewN | apply Kd.R_drew)); exact HO_7.out⟩, ⟨bkp BK400⟩, ⟨bbw1 HB GE400⟩⟩
   ·rw [if_neg c11] at H
    have c11b0 : decide (x8_1 < (t401.length : Int)) = false := decide_eq_false c11
    clear c11
    obtain rfl := Option.some.inj H
    obtain ⟨Ao22, co22, eo22⟩ := Kd.R_slice HO_5.out
    subst eo22
    go_wp2
    go_ret
    exact ⟨_, by first | rfl | (simp [errW_none, errW_some] <;> rfl) | (simp [*, errW_none, errW_some] <;> rfl), by (with_reducible repeat (first | apply Kd.R_alloc | apply Kd.R_drewN | apply Kd.R_drew)); exact HO_7.out, bbw1 HB GE400⟩

/-! ### spec_AllMotions: function 18 -/
def spec_AllMotions.f (k : Nat) (a0 : Int) (a1_0 : Int) (a1_1 : Int) (a1_2 : Int) : Option ((List (S36)) × Int) := (spec_l04Code.f a0 a1_0 a1_1 a1_2).bind fun t416 => (if t416 = 0 then ((spec_l16All.f k a0 a1_0 a1_1 a1_2).bind fun t417 => (some (t417, 0))) else (some (([] : List (S36)), t416)))
set_option maxHeartbeats 8000000 in
set_option maxRecDepth 100000 in
theorem spec_AllMotions.calls (k : Nat) (a0 : Int) (a1_0 : Int) (a1_1 : Int) (a1_2 : Int) (r1 : List (S36)) (r2 : Int) (w : World) (h : spec_AllMotions.f k a0 a1_0 a1_1 a1_2 = some (r1, r2)) :
  Calls Try.prog 18 #[.int .i64 a0, .agg #[.int .i64 a1_0, .int .i64 a1_1, .int .i64 a1_2]] w fun e w' => ∃ v0_ : Value, e = .returned (.tuple #[v0_, .int .i64 r2]) ∧ Kd.R k36 36 w' w.heap.size (fun _ => True) v0_ r1 ∧ Below w.heap.size w w' := by
 have hu31 := Try.underlying31
 have HB := Aside0.mk (Below.refl w.heap.size w)
 have H : ((spec_l04Code.f a0 a1_0 a1_1 a1_2).bind fun t416 => (if t416 = 0 then ((spec_l16All.f k a0 a1_0 a1_1 a1_2).bind fun t417 => (some (t417, 0))) else (some (([] : List (S36)), t416)))) = some (r1, r2) := h
 clear h
 replace H := Option.bind_eq_some_iff.mp H
 obtain ⟨t416, A30, H⟩ := H
 replace H : (if t416 = 0 then ((spec_l16All.f k a0 a1_0 a1_1 a1_2).bind fun t417 => (some (t417, 0))) else (some (([] : List (S36)), t416))) = some (r1, r2) := H
 have A3 := Aside0.mk A30
 clear A30
 by_cases c4 : t416 = 0
 ·rw [if_pos c4] at H
  have c4b0 : (t416 == 0) = true := beq_iff_eq.mpr c4
  have c4b1 : (t416 != 0) = false := bne_eq_false_iff_eq.mpr c4
  clear c4
  replace H := Option.bind_eq_some_iff.mp H
  obtain ⟨t417, A50, H⟩ := H
  replace H : (some (t417, 0)) = some (r1, r2) := H
  have A5 := Aside0.mk A50
  clear A50
  simp only [Option.some.injEq, Prod.mk.injEq] at H
  obtain ⟨rfl, rfl⟩ := H
  go_enter Try.func18, Try.ntmps18
  go_wp2_with (first | ((with_reducible refine gate_dst (N := 3) rfl ?_); refine box_event ?hg (N := 3) ?hd (cs := #[.int .i64 a1_0, .int .i64 a1_1, .int .i64 a1_2]) (t := 31) ?hr ?_; (case hd => rfl); (case hg => rfl); (case hr => first | (go_simp; done) | (go_simp; rfl)); intro gb415 hg w6 hbox hb; have n0_ := Aside0.mk (bst0 HB hb); have n1_ := Aside0.mk (hbox); have n2_ := ngw0 hg HB; have n3_ := n2_; clear HB; have HB := n0_; have BK415 := n1_; have GW415 := n2_; have GE415 := n3_; clear n0_ n1_ n2_ n3_; clear hb hbox hg; have hcz7_0 : w6.cell? ⟨gb415, 0, none⟩ = some (.int .i64 a1_0) := bcl BK415 0; have hcz7_1 : w6.cell? ⟨gb415, 1, none⟩ = some (.int .i64 a1_1) := bcl BK415 1; have hcz7_2 : w6.cell? ⟨gb415, 2, none⟩ = some (.int .i64 a1_2) := bcl BK415 2; have hfz7_0 := blk_frozen BK415.out 0; have hfz7_1 := blk_frozen BK415.out 1; have hfz7_2 := blk_frozen BK415.out 2) | ((with_reducible refine gate_callee (f := 38) rfl ?_); refine goesL_ (some 9) rfl rfl Try.func38 (by kernel_rfl) rfl #[.int .i64 a0, .agg #[.int .i64 a1_0, .int .i64 a1_1, .int .i64 a1_2]] rfl (by (try simp only [List.map_toArray, List.map_cons, List.map_nil]); first | done | rfl | (simp only [List.length_drop, List.length_take]; rfl)) ?_; (with_reducible refine (spec_l04Code.calls a0 a1_0 a1_1 a1_2 t416 _ A3.out).mono ?_); rintro e w8 ⟨rfl, hb⟩; refine ⟨_, rfl, ?_⟩; have n0_ := Aside0.mk (bbl BK415 hb); have n1_ := Aside0.mk (bst1 HB GE415 hb); clear BK415; clear HB; have BK415 := n0_; have HB := n1_; clear n0_ n1_; (try clear hb); (try clear hb2); (try clear hk); (try clear hi); have hcz9_0 : w8.cell? ⟨gb415, 0, none⟩ = some (.int .i64 a1_0) := bcl BK415 0; have hcz9_1 : w8.cell? ⟨gb415, 1, none⟩ = some (.int .i64 a1_1) := bcl BK415 1; have hcz9_2 : w8.cell? ⟨gb415, 2, none⟩ = some (.int .i64 a1_2) := bcl BK415 2; have hfz9_0 := blk_frozen BK415.out 0; have hfz9_1 := blk_frozen BK415.out 1; have hfz9_2 := blk_frozen BK415.out 2) | ((with_reducible refine gate_callee (f := 49) rfl ?_); refine goesL_ (some 15) rfl rfl Try.func49 (by kernel_rfl) rfl #[.int .i64 a0, .agg #[.int .i64 a1_0, .int .i64 a1_1, .int .i64 a1_2]] rfl (by (try simp only [List.map_toArray, List.map_cons, List.map_nil]); first | done | rfl | (simp only [List.length_drop, List.length_take]; rfl)) ?_; (with_reducible refine (spec_l16All.calls k a0 a1_0 a1_1 a1_2 t417 _ A5.out).mono ?_); rintro e w10 ⟨v418, rfl, ho0, hb⟩; refine ⟨_, rfl, ?_⟩; have n0_ := Aside0.mk (Kd.R_lower ho0 (bsz1 HB GE415)); have n1_ := Aside0.mk (bbl BK415 hb); have n2_ := Aside0.mk (bst1 HB GE415 hb); clear BK415; clear HB; have HO419 := n0_; have BK415 := n1_; have HB := n2_; clear n0_ n1_ n2_; (try clear hb); (try clear hb2); (try clear hk); (try clear hi); (try clear ho0)))
  go_ret2
  exact ⟨_, by first | rfl | (simp [errW_none, errW_some] <;> rfl) | (simp [*, errW_none, errW_some] <;> rfl), by (with_reducible repeat (first | apply Kd.R_alloc | apply Kd.R_drewN | apply Kd.R_drew)); exact HO419.out, bbw1 HB GE415⟩
 ·rw [if_neg c4] at H
  have c4b0 : (t416 == 0) = false := beq_eq_false_iff_ne.mpr c4
  have c4b1 : (t416 != 0) = true := bne_iff_ne.mpr c4
  simp only [Option.some.injEq, Prod.mk.injEq] at H
  obtain ⟨rfl, rfl⟩ := H
  go_enter Try.func18, Try.ntmps18
  go_wp2_with (first | ((with_reducible refine gate_dst (N := 3) rfl ?_); refine box_event ?hg (N := 3) ?hd (cs := #[.int .i64 a1_0, .int .i64 a1_1, .int .i64 a1_2]) (t := 31) ?hr ?_; (case hd => rfl); (case hg => rfl); (case hr => first | (go_simp; done) | (go_simp; rfl)); intro gb415 hg w11 hbox hb; have n0_ := Aside0.mk (bst0 HB hb); have n1_ := Aside0.mk (hbox); have n2_ := ngw0 hg HB; have n3_ := n2_; clear HB; have HB := n0_; have BK415 := n1_; have GW415 := n2_; have GE415 := n3_; clear n0_ n1_ n2_ n3_; clear hb hbox hg; have hcz12_0 : w11.cell? ⟨gb415, 0, none⟩ = some (.int .i64 a1_0) := bcl BK415 0; have hcz12_1 : w11.cell? ⟨gb415, 1, none⟩ = some (.int .i64 a1_1) := bcl BK415 1; have hcz12_2 : w11.cell? ⟨gb415, 2, none⟩ = some (.int .i64 a1_2) := bcl BK415 2; have hfz12_0 := blk_frozen BK415.out 0; have hfz12_1 := blk_frozen BK415.out 1; have hfz12_2 := blk_frozen BK415.out 2) | ((with_reducible refine gate_callee (f := 38) rfl ?_); refine goesL_ (some 9) rfl rfl Try.func38 (by kernel_rfl) rfl #[.int .i64 a0, .agg #[.int .i64 a1_0, .int .i64 a1_1, .int .i64 a1_2]] rfl (by (try simp only [List.map_toArray, List.map_cons, List.map_nil]); first | done | rfl | (simp only [List.length_drop, List.length_take]; rfl)) ?_; (with_reducible refine (spec_l04Code.calls a0 a1_0 a1_1 a1_2 t416 _ A3.out).mono ?_); rintro e w13 ⟨rfl, hb⟩; refine ⟨_, rfl, ?_⟩; have n0_ := Aside0.mk (bbl BK415 hb); have n1_ := Aside0.mk (bst1 HB GE415 hb); clear BK415; clear HB; have BK415 := n0_; have HB := n1_; clear n0_ n1_; (try clear hb); (try clear hb2); (try clear hk); (try clear hi)))
  go_ret2
  exact ⟨_, by first | rfl | (simp [errW_none, errW_some] <;> rfl) | (simp [*, errW_none, errW_some] <;> rfl), by first | exact Kd.R_nil _ _ _ _ _ | exact Kd.N_nil _ _ _ _ _ | exact Kd.V_nil _ _ _ _ _ | exact Kd.Q_nil _ _ _ _ _ | exact Kd.S_nil _ _ _ _ _, bbw1 HB GE415⟩

/-! ### impl_Lattice_cells: function 88 -/
mutual
def impl_Lattice_cells.l0 : Nat → List (S34) → Int → Int → Int → Int → Int → Option ((List (S34)))
 | 0, _, _, _, _, _, _ => none
 | k + 1, x3, x8, x9, x421000, x421001, x421002 => if x9 < x8 then (impl_Lattice_cells.l1 k x3 x9 x8 x9 x421002 0 x421000 x421001 x421002) else (some x3)
def impl_Lattice_cells.l1 : Nat → List (S34) → Int → Int → Int → Int → Int → Int → Int → Int → Option ((List (S34)))
 | 0, _, _, _, _, _, _, _, _, _ => none
 | k + 1, x3, x4, x8, x9, x13, x14, x421000, x421001, x421002 => if x14 < x13 then (if x3.length < 8796093022208 then (impl_Lattice_cells.l1 k (x3 ++ [(⟨x4, x14⟩ : S34)]) x4 x8 x9 x13 (wrap64 (x14 + 1)) x421000 x421001 x421002) else (none)) else (impl_Lattice_cells.l0 k x3 x8 (wrap64 (x9 + 1)) x421000 x421001 x421002)
end
def impl_Lattice_cells.f (k : Nat) (a0_0 : Int) (a0_1 : Int) (a0_2 : Int) : Option ((List (S34))) := impl_Lattice_cells.l0 k (([] : List (S34))) a0_0 0 a0_0 a0_1 a0_2
set_option maxHeartbeats 8000000 in
set_option maxRecDepth 100000 in
theorem impl_Lattice_cells.calls (k : Nat) (a0_0 : Int) (a0_1 : Int) (a0_2 : Int) (r : List (S34)) (w : World) (h : impl_Lattice_cells.f k a0_0 a0_1 a0_2 = some r) :
  Calls Try.prog 88 #[.agg #[.int .i64 a0_0, .int .i64 a0_1, .int .i64 a0_2]] w fun e w' => ∃ v0_ : Value, e = .returned (v0_) ∧ Kd.R k34 34 w' w.heap.size (fun _ => True) v0_ r ∧ Below w.heap.size w w' := by
 have hu31 := Try.underlying31
 have hu34 := Try.underlying34
 have HB := Aside0.mk (Below.refl w.heap.size w)
 have H : (impl_Lattice_cells.l0 k (([] : List (S34))) a0_0 0 a0_0 a0_1 a0_2) = some r := h
 clear h
 obtain ⟨y421, hy421⟩ : ∃ y_ : List (S34), y_ = (([] : List (S34))) := ⟨_, rfl⟩
 replace H : (impl_Lattice_cells.l0 k y421 a0_0 0 a0_0 a0_1 a0_2) = some r := by first | (rw [hy421]; with_reducible exact H) | (have H2_ := (Option.bind_some _ _).symm.trans H; rw [hy421]; with_reducible exact H2_) | (have H2_ := (Option.bind_some _ _).symm.trans H; with_reducible exact H2_) | with_reducible exact H | (rw [hy421]; exact H) | exact H
 have Ny421 := Aside0.mk hy421
 clear hy421
 have H' := Aside0.mk H
 clear H
 go_enter Try.func88, Try.ntmps88
 go_wp2_with (first | ((with_reducible refine gate_dst (N := 1) rfl ?_); refine box_event ?hg (N := 1) ?hd (cs := #[.int .i64 a0_0, .int .i64 a0_1, .int .i64 a0_2]) (t := 31) ?hr ?_; (case hd => rfl); (case hg => rfl); (case hr => first | (go_simp; done) | (go_simp; rfl)); intro gb420 hg w2 hbox hb; have n0_ := Aside0.mk (bst0 HB hb); have n1_ := Aside0.mk (hbox); have n2_ := ngw0 hg HB; have n3_ := n2_; clear HB; have HB := n0_; have BK420 := n1_; have GW420 := n2_; have GE420 := n3_; clear n0_ n1_ n2_ n3_; clear hb hbox hg) | ((with_reducible refine gate_dst (N := 6) rfl ?_); refine Kd.R_lit k34 _ 34 ?hg (N := 6) ?hd (xs := ([] : List (S34))) (inner := []) (ok := fun _ => True) (okp := fun _ => True) ?hr ?hp (fun _ hk => hk) trivial (Below.refl _ _) (Nat.le_refl _) (by simp) ?_; (case hd => rfl); (case hg => rfl); (case hr => first | (go_simp; done) | (go_simp; rfl)); (case hp => exact (Reps.none _ _)); intro v422 w3 ho4 hb hg_ hnew_; clear hg_ hnew_; (first | rw [← Ny421.out] at ho4 | (simp only [Int.reduceToNat] at ho4; rw [← Ny421.out] at ho4)); have n0_ := Aside0.mk (Kd.R_lower ho4 (bsz1 HB GE420)); have n1_ := Aside0.mk (bbl BK420 hb); have n2_ := Aside0.mk (bst1 HB GE420 hb); clear BK420; clear HB; have HO423 := n0_; have BK420 := n1_; have HB := n2_; clear n0_ n1_ n2_; clear hb ho4; have hcz5_0 : w3.cell? ⟨gb420, 0, none⟩ = some (.int .i64 a0_0) := bcl BK420 0; have hcz5_1 : w3.cell? ⟨gb420, 1, none⟩ = some (.int .i64 a0_1) := bcl BK420 1; have hcz5_2 : w3.cell? ⟨gb420, 2, none⟩ = some (.int .i64 a0_2) := bcl BK420 2; have hfz5_0 := blk_frozen BK420.out 0; have hfz5_1 := blk_frozen BK420.out 1; have hfz5_2 := blk_frozen BK420.out 2))
 go_loopg [3, 9] k (fun kq v3 v9 w' => ∃ (x3_1 : List (S34)) (x9_1 : Int), v9 = .int .i64 x9_1 ∧ Aside0 (impl_Lattice_cells.l0 kq x3_1 a0_0 x9_1 a0_0 a0_1 a0_2 = some r) ∧ Aside0 (kq ≤ k) ∧ Aside0 (Kd.R k34 34 w' w.heap.size (fun _ => True) v3 x3_1) ∧ Aside0 (w'.heap[gb420]? = some (.cells #[.int .i64 a0_0, .int .i64 a0_1, .int .i64 a0_2] 31 (0, 0))) ∧ Aside0 (Below w.heap.size w w'))
 case atStart => exact ⟨(y421), (0), (by first | rfl | (simp; done) | (simp [*]; done)), H', ⟨Nat.le_refl _⟩, ⟨by (with_reducible repeat (first | apply Kd.R_alloc | apply Kd.R_drewN | apply Kd.R_drew)); exact HO423.out⟩, ⟨bkp BK420⟩, ⟨bbw1 HB GE420⟩⟩
 case round =>
  clear H'
  try clear p2
  try clear hcz5_0
  try clear hcz5_1
  try clear hcz5_2
  try clear hfz5_0
  try clear hfz5_1
  try clear hfz5_2
  obtain ⟨x3_1, x9_1, rfl, HA, HK1, HO_3, BK420, HB⟩ := hrel
  cases gk with
  | zero => exact absurd HA.out (by simp [impl_Lattice_cells.l0])
  | succ k1 =>
   have H := HA.out
   clear HA
   simp only [impl_Lattice_cells.l0] at H
   by_cases c6 : x9_1 < a0_0
   ·rw [if_pos c6] at H
    have c6b0 : decide (x9_1 < a0_0) = true := decide_eq_true c6
    clear c6
    have H' := Aside0.mk H
    clear H
    have hcz7_0 : wr.cell? ⟨gb420, 0, none⟩ = some (.int .i64 a0_0) := bcl BK420 0
    have hcz7_1 : wr.cell? ⟨gb420, 1, none⟩ = some (.int .i64 a0_1) := bcl BK420 1
    have hcz7_2 : wr.cell? ⟨gb420, 2, none⟩ = some (.int .i64 a0_2) := bcl BK420 2
    have hfz7_0 := blk_frozen BK420.out 0
    have hfz7_1 := blk_frozen BK420.out 1
    have hfz7_2 := blk_frozen BK420.out 2
    go_wp2
    go_loopg [3, 14] k1 (fun kq v3 v14 w' => ∃ (x3_2 : List (S34)) (x14_2 : Int), v14 = .int .i64 x14_2 ∧ Aside0 (impl_Lattice_cells.l1 kq x3_2 x9_1 a0_0 x9_1 a0_2 x14_2 a0_0 a0_1 a0_2 = some r) ∧ Aside0 (kq ≤ k1) ∧ Aside0 (Kd.R k34 34 w' w.heap.size (fun _ => True) v3 x3_2) ∧ Aside0 (w'.heap[gb420]? = some (.cells #[.int .i64 a0_0, .int .i64 a0_1, .int .i64 a0_2] 31 (0, 0))) ∧ Aside0 (Below w.heap.size w w'))
    case atStart => exact ⟨(x3_1), (0), (by first | rfl | (simp; done) | (simp [*]; done)), H', ⟨Nat.le_refl _⟩, ⟨by (with_reducible repeat (first | apply Kd.R_alloc | apply Kd.R_drewN | apply Kd.R_drew)); exact HO_3.out⟩, ⟨bkp BK420⟩, ⟨bbw1 HB GE420⟩⟩
    case round =>
     clear H'
     try clear p2
     try clear c6
     try clear c6b0
     try clear hcz5_0
     try clear hcz5_1
     try clear hcz5_2
     try clear hcz7_0
     try clear hcz7_1
     try clear hcz7_2
     try clear hfz5_0
     try clear hfz5_1
     try clear hfz5_2
     try clear hfz7_0
     try clear hfz7_1
     try clear hfz7_2
     try clear p2
     obtain ⟨x3_2, x14_2, rfl, HA, HK2, HO_3, BK420, HB⟩ := hrel
     cases gk with
     | zero => exact absurd HA.out (by simp [impl_Lattice_cells.l1])
     | succ k2 =>
      have H := HA.out
      clear HA
      simp only [impl_Lattice_cells.l1] at H
      by_cases c8 : x14_2 < a0_2
      ·rw [if_pos c8] at H
       have c8b0 : decide (x14_2 < a0_2) = true := decide_eq_true c8
       clear c8
       by_cases c9 : x3_2.length < 8796093022208
       ·rw [if_pos c9] at H
        have LMc9 := Aside0.mk c9
        clear c9
        obtain ⟨y424, hy424⟩ : ∃ y_ : List (S34), y_ = (x3_2 ++ [(⟨x9_1, x14_2⟩ : S34)]) := ⟨_, rfl⟩
        replace H : (impl_Lattice_cells.l1 k2 y424 x9_1 a0_0 x9_1 a0_2 (wrap64 (x14_2 + 1)) a0_0 a0_1 a0_2) = some r := by first | (rw [hy424]; with_reducible exact H) | (have H2_ := (Option.bind_some _ _).symm.trans H; rw [hy424]; with_reducible exact H2_) | (have H2_ := (Option.bind_some _ _).symm.trans H; with_reducible exact H2_) | with_reducible exact H | (rw [hy424]; exact H) | exact H
        have Ny424 := Aside0.mk hy424
        clear hy424
        have H' := Aside0.mk H
        clear H
        go_wp2_with (first | ((with_reducible refine gate_builtin (b := .append) (xs := #[.tmp 17, .tmp 21]) rfl ?_); at_builtin; refine Kd.R_append k34 (w0 := w) w.heap.size rfl (.tmp 17) (.tmp 21) 94 34 (.agg #[(.int .i64 0), (.int .i64 0)]) 16 rfl Try.underlying94 info34 rfl (by decide) (by omega) u3 x3_2 (⟨x9_1, x14_2⟩ : S34) [.int .i64 x9_1, .int .i64 x14_2] (fun _ => True) (fun _ => False) rfl rfl ?aP (fun _ hk => hk.elim) ?aF ?aO ?aB ?aS ?aL ?_; (case aP => exact k34_mkM _ _ _ (⟨x9_1, x14_2⟩ : S34)); (case aB => exact (bbw1 HB GE420)); (case aF => exact (fun _ _ => trivial)); (case aO => exact (by (with_reducible repeat (first | apply Kd.R_alloc | apply Kd.R_drewN | apply Kd.R_drew)); exact HO_3.out)); (case aS => exact (bsz1 HB GE420)); (case aL => have := LMc9.out; omega); intro v425 w10 ho hb hg hat; rw [← Ny424.out] at ho; have n0_ := Aside0.mk (blk_grown (g := gb420) (o := .cells #[.int .i64 a0_0, .int .i64 a0_1, .int .i64 a0_2] 31 (0, 0)) (bkp BK420) hg (Kd.R_ne HO_3.out BK420.out (by decide))); have n1_ := Aside0.mk (hb); have n2_ := Aside0.mk (ho); clear BK420; clear HB; clear HO_3; have BK420 := n0_; have HB := n1_; have HO426 := n2_; clear n0_ n1_ n2_; clear ho hb hg hat))
        go_roundg k2
        case measure => have := HK1.out; have := HK2.out; omega
        case rel => exact ⟨(y424), (wrap64 (x14_2 + 1)), (by first | rfl | (simp; done) | (simp [*]; done)), H', ⟨by have := HK1.out; have := HK2.out; omega⟩, ⟨by (with_reducible repeat (first | apply Kd.R_alloc | apply Kd.R_drewN | apply Kd.R_drew)); exact HO426.out⟩, ⟨bkp BK420⟩, ⟨bbw1 HB GE420⟩⟩
       ·rw [if_neg c9] at H
        exact absurd H (by simp)
      ·rw [if_neg c8] at H
       have c8b0 : decide (x14_2 < a0_2) = false := decide_eq_false c8
       clear c8
       have H' := Aside0.mk H
       clear H
       go_wp2
       go_roundg k2
       case measure => have := HK1.out; have := HK2.out; omega
       case rel => exact ⟨(x3_2), (wrap64 (x9_1 + 1)), (by first | rfl | (simp; done) | (simp [*]; done)), H', ⟨by have := HK1.out; have := HK2.out; omega⟩, ⟨by (with_reducible repeat (first | apply Kd.R_alloc | apply Kd.R_drewN | apply Kd.R_drew)); exact HO_3.out⟩, ⟨bkp BK420⟩, ⟨bbw1 HB GE420⟩⟩
   ·rw [if_neg c6] at H
    have c6b0 : decide (x9_1 < a0_0) = false := decide_eq_false c6
    clear c6
    obtain rfl := Option.some.inj H
    go_wp2
    go_ret
    exact ⟨_, by first | rfl | (simp [errW_none, errW_some] <;> rfl) | (simp [*, errW_none, errW_some] <;> rfl), by (with_reducible repeat (first | apply Kd.R_alloc | apply Kd.R_drewN | apply Kd.R_drew)); exact HO_3.out, bbw1 HB GE420⟩

/-! ### impl_allMotions: function 50 -/
mutual
def impl_allMotions.l0 : Nat → List (S36) → List (S33) → Int → Int → Int → Int → Int → Option ((List (S36)))
 | 0, _, _, _, _, _, _, _ => none
 | k + 1, x5, x13, x14, x15, x428000, x428001, x428002 => if x15 < x14 then (if 0 ≤ x15 then (if x15 < (x13.length : Int) then ((impl_Lattice_cells.f k x428000 x428001 x428002).bind fun t436 => (impl_allMotions.l1 k x5 x13 x14 x15 t436 (t436.length : Int) 0 x428000 x428001 x428002 ((rd_T33 x13 x15).f0) ((rd_T33 x13 x15).f1) ((rd_T33 x13 x15).f2) ((rd_T33 x13 x15).f3))) else (none)) else (none)) else (some x5)
def impl_allMotions.l1 : Nat → List (S36) → List (S33) → Int → Int → List (S34) → Int → Int → Int → Int → Int → Int → Int → Int → Int → Option ((List (S36)))
 | 0, _, _, _, _, _, _, _, _, _, _, _, _, _, _ => none
 | k + 1, x5, x13, x14, x15, x20, x21, x22, x428000, x428001, x428002, x436000, x436001, x436002, x436003 => if x22 < x21 then (if 0 ≤ x22 then (if x22 < (x20.length : Int) then (if x5.length < 2932031007402 then (impl_allMotions.l1 k (x5 ++ [(⟨(⟨x436000, x436001, x436002, x436003⟩ : S33), (⟨(rd_T34 x20 x22).f0, (rd_T34 x20 x22).f1⟩ : S34)⟩ : S36)]) x13 x14 x15 x20 x21 (wrap64 (x22 + 1)) x428000 x428001 x428002 x436000 x436001 x436002 x436003) else (none)) else (none)) else (none)) else (impl_allMotions.l0 k x5 x13 x14 (wrap64 (x15 + 1)) x428000 x428001 x428002)
end
def impl_allMotions.f (k : Nat) (a0 : Int) (a1_0 : Int) (a1_1 : Int) (a1_2 : Int) : Option ((List (S36))) := (impl_latticeMats.f k a0 a1_0 a1_1 a1_2).bind fun t431 => (impl_allMotions.l0 k (([] : List (S36))) t431 (t431.length : Int) 0 a1_0 a1_1 a1_2)
set_option maxHeartbeats 8000000 in
set_option maxRecDepth 100000 in
theorem impl_allMotions.calls (k : Nat) (a0 : Int) (a1_0 : Int) (a1_1 : Int) (a1_2 : Int) (r : List (S36)) (w : World) (h : impl_allMotions.f k a0 a1_0 a1_1 a1_2 = some r) :
  Calls Try.prog 50 #[.int .i64 a0, .agg #[.int .i64 a1_0, .int .i64 a1_1, .int .i64 a1_2]] w fun e w' => ∃ v0_ : Value, e = .returned (v0_) ∧ Kd.R k36 36 w' w.heap.size (fun _ => True) v0_ r ∧ Below w.heap.size w w' := by
 have hu31 := Try.underlying31
 have hu33 := Try.underlying33
 have hu34 := Try.underlying34
 have hu36 := Try.underlying36
 have HB := Aside0.mk (Below.refl w.heap.size w)
 have H : ((impl_latticeMats.f k a0 a1_0 a1_1 a1_2).bind fun t431 => (impl_allMotions.l0 k (([] : List (S36))) t431 (t431.length : Int) 0 a1_0 a1_1 a1_2)) = some r := h
 clear h
 obtain ⟨y428, hy428⟩ : ∃ y_ : List (S36), y_ = (([] : List (S36))) := ⟨_, rfl⟩
 replace H : ((impl_latticeMats.f k a0 a1_0 a1_1 a1_2).bind fun t431 => (impl_allMotions.l0 k y428 t431 (t431.length : Int) 0 a1_0 a1_1 a1_2)) = some r := by first | (rw [hy428]; with_reducible exact H) | (have H2_ := (Option.bind_some _ _).symm.trans H; rw [hy428]; with_reducible exact H2_) | (have H2_ := (Option.bind_some _ _).symm.trans H; with_reducible exact H2_) | with_reducible exact H | (rw [hy428]; exact H) | exact H
 have Ny428 := Aside0.mk hy428
 clear hy428
 replace H := Option.bind_eq_some_iff.mp H
 obtain ⟨t431, A30, H⟩ := H
 replace H : (impl_allMotions.l0 k y428 t431 (t431.length : Int) 0 a1_0 a1_1 a1_2) = some r := H
 have A3 := Aside0.mk A30
 clear A30
 have H' := Aside0.mk H
 clear H
 go_enter Try.func50, Try.ntmps50
 go_wp2_with (first | ((with_reducible refine gate_dst (N := 3) rfl ?_); refine box_event ?hg (N := 3) ?hd (cs := #[.int .i64 a1_0, .int .i64 a1_1, .int .i64 a1_2]) (t := 31) ?hr ?_; (case hd => rfl); (case hg => rfl); (case hr => first | (go_simp; done) | (go_simp; rfl)); intro gb427 hg w4 hbox hb; have n0_ := Aside0.mk (bst0 HB hb); have n1_ := Aside0.mk (hbox); have n2_ := ngw0 hg HB; have n3_ := n2_; clear HB; have HB := n0_; have BK427 := n1_; have GW427 := n2_; have GE427 := n3_; clear n0_ n1_ n2_ n3_; clear hb hbox hg) | ((with_reducible refine gate_dst (N := 10) rfl ?_); refine Kd.R_lit k36 _ 36 ?hg (N := 10) ?hd (xs := ([] : List (S36))) (inner := []) (ok := fun _ => True) (okp := fun _ => True) ?hr ?hp (fun _ hk => hk) trivial (Below.refl _ _) (Nat.le_refl _) (by simp) ?_; (case hd => rfl); (case hg => rfl); (case hr => first | (go_simp; done) | (go_simp; rfl)); (case hp => exact (Reps.none _ _)); intro v429 w5 ho6 hb hg_ hnew_; clear hg_ hnew_; (first | rw [← Ny428.out] at ho6 | (simp only [Int.reduceToNat] at ho6; rw [← Ny428.out] at ho6)); have n0_ := Aside0.mk (Kd.R_lower ho6 (bsz1 HB GE427)); have n1_ := Aside0.mk (bbl BK427 hb); have n2_ := Aside0.mk (bst1 HB GE427 hb); clear BK427; clear HB; have HO430 := n0_; have BK427 := n1_; have HB := n2_; clear n0_ n1_ n2_; clear hb ho6; have hcz7_0 : w5.cell? ⟨gb427, 0, none⟩ = some (.int .i64 a1_0) := bcl BK427 0; have hcz7_1 : w5.cell? ⟨gb427, 1, none⟩ = some (.int .i64 a1_1) := bcl BK427 1; have hcz7_2 : w5.cell? ⟨gb427, 2, none⟩ = some (.int .i64 a1_2) := bcl BK427 2; have hfz7_0 := blk_frozen BK427.out 0; have hfz7_1 := blk_frozen BK427.out 1; have hfz7_2 := blk_frozen BK427.out 2) | ((with_reducible refine gate_callee (f := 83) rfl ?_); refine goesL_ (some 13) rfl rfl Try.func83 (by kernel_rfl) rfl #[.int .i64 a0, .agg #[.int .i64 a1_0, .int .i64 a1_1, .int .i64 a1_2]] rfl (by (try simp only [List.map_toArray, List.map_cons, List.map_nil]); first | done | rfl | (simp only [List.length_drop, List.length_take]; rfl)) ?_; (with_reducible refine (impl_latticeMats.calls k a0 a1_0 a1_1 a1_2 t431 _ A3.out).mono ?_); rintro e w8 ⟨v432, rfl, ho0, hb⟩; refine ⟨_, rfl, ?_⟩; have n0_ := Aside0.mk (Kd.R_below (by (with_reducible repeat (first | apply Kd.R_alloc | apply Kd.R_drewN | apply Kd.R_drew)); exact HO430.out) hb); have n1_ := Aside0.mk (Kd.R_lower ho0 (bsz1 HB GE427)); have n2_ := Aside0.mk (bbl BK427 hb); have n3_ := Aside0.mk (bst1 HB GE427 hb); clear HO430; clear BK427; clear HB; have HO430 := n0_; have HO433 := n1_; have BK427 := n2_; have HB := n3_; clear n0_ n1_ n2_ n3_; (try clear hb); (try clear hb2); (try clear hk); (try clear hi); (try clear ho0); obtain ⟨Ao9, co9, eo9⟩ := Kd.R_slice HO433.out; subst eo9))
 go_loopg [5, 15] k (fun kq v5 v15 w' => ∃ (x5_1 : List (S36)) (x15_1 : Int), v15 = .int .i64 x15_1 ∧ Aside0 (impl_allMotions.l0 kq x5_1 t431 (t431.length : Int) x15_1 a1_0 a1_1 a1_2 = some r) ∧ Aside0 (kq ≤ k) ∧ Aside0 (Kd.R k36 36 w' w.heap.size (fun _ => True) v5 x5_1) ∧ Aside0 (Kd.R k33 33 w' w.heap.size (fun _ => True) (.slice Ao9 t431.length co9) t431) ∧ Aside0 (w'.heap[gb427]? = some (.cells #[.int .i64 a1_0, .int .i64 a1_1, .int .i64 a1_2] 31 (0, 0))) ∧ Aside0 (Below w.heap.size w w'))
 case atStart => exact ⟨(y428), (0), (by first | rfl | (simp; done) | (simp [*]; done)), H', ⟨Nat.le_refl _⟩, ⟨by (with_reducible repeat (first | apply Kd.R_alloc | apply Kd.R_drewN | apply Kd.R_drew)); exact HO430.out⟩, ⟨by (with_reducible repeat (first | apply Kd.R_alloc | apply Kd.R_drewN | apply Kd.R_drew)); exact HO433.out⟩, ⟨bkp BK427⟩, ⟨bbw1 HB GE427⟩⟩
 case round =>
  clear H'
  try clear p2
  try clear c5
  try clear c8
  try clear hcz7_0
  try clear hcz7_1
  try clear hcz7_2
  try clear hfz7_0
  try clear hfz7_1
  try clear hfz7_2
  obtain ⟨x5_1, x15_1, rfl, HA, HK1, HO_5, HO_13, BK427, HB⟩ := hrel
  cases gk with
  | zero => exact absurd HA.out (by simp [impl_allMotions.l0])
  | succ k1 =>
   have H := HA.out
   clear HA
   simp only [impl_allMotions.l0] at H
   by_cases c10 : x15_1 < (t431.length : Int)
   ·rw [if_pos c10] at H
    have c10b0 : decide (x15_1 < (t431.length : Int)) = true := decide_eq_true c10
    clear c10
    by_cases c11 : 0 ≤ x15_1
    ·rw [if_pos c11] at H
     have c11b0 : decide (0 ≤ x15_1) = true := decide_eq_true c11
     clear c11
     by_cases c12 : x15_1 < (t431.length : Int)
     ·rw [if_pos c12] at H
      have c12b0 : decide (x15_1 < (t431.length : Int)) = true := decide_eq_true c12
      clear c12
      replace H := Option.bind_eq_some_iff.mp H
      obtain ⟨t436, A130, H⟩ := H
      replace H : (impl_allMotions.l1 k1 x5_1 t431 (t431.length : Int) x15_1 t436 (t436.length : Int) 0 a1_0 a1_1 a1_2 ((rd_T33 t431 x15_1).f0) ((rd_T33 t431 x15_1).f1) ((rd_T33 t431 x15_1).f2) ((rd_T33 t431 x15_1).f3)) = some r := H
      have A13 := Aside0.mk A130
      clear A130
      have H' := Aside0.mk H
      clear H
      have p434 : 0 ≤ (x15_1 : Int) := of_decide_eq_true (by first | (with_reducible assumption) | assumption)
      have q434 : x15_1 < (t431.length : Int) := of_decide_eq_true (by first | (with_reducible assumption) | assumption)
      obtain ⟨ad434, e434, hx434_0, hx434_1, hx434_2, hx434_3⟩ := at_T33 (Kd.R_reads' HO_13.out).2.2 x15_1 p434 q434
      cases e434
      replace p434 := eq_true p434
      replace q434 := eq_true q434
      go_wp2_with (first | ((with_reducible refine gate_dst (N := 7) rfl ?_); refine box_event ?hg (N := 7) ?hd (cs := #[.int .i64 0, .int .i64 0, .int .i64 0, .int .i64 0]) (t := 33) ?hr ?_; (case hd => rfl); (case hg => rfl); (case hr => first | (go_simp; done) | (go_simp; rfl)); intro gb435 hg w14 hbox hb; have n0_ := Aside0.mk (Kd.R_below (by (with_reducible repeat (first | apply Kd.R_alloc | apply Kd.R_drewN | apply Kd.R_drew)); exact HO_5.out) hb); have n1_ := Aside0.mk (Kd.R_below (Kd.R_elderB (by (with_reducible repeat (first | apply Kd.R_alloc | apply Kd.R_drewN | apply Kd.R_drew)); exact HO_13.out) gb435 (Nat.le_of_eq hg.symm)) hb); have n2_ := Aside0.mk (bbl BK427 hb); have n3_ := Aside0.mk (bst1 HB GE427 hb); have n4_ := Aside0.mk (hbox); have n5_ := ngw1 hg HB GE427; have n6_ := n5_; have n7_ := nlt hg BK427; have n8_ := nsy (nlt hg BK427); clear HO_5; clear HO_13; clear BK427; clear HB; have HO_5 := n0_; have HO_13 := n1_; have BK427 := n2_; have HB := n3_; have BK435 := n4_; have GW435 := n5_; have GE435 := n6_; have NB427_435 := n7_; have NB435_427 := n8_; clear n0_ n1_ n2_ n3_ n4_ n5_ n6_ n7_ n8_; clear hb hbox hg; have hnb15 := NB435_427.out; have hnc15 := NB427_435.out; have hcz16_0 : w14.cell? ⟨gb435, 0, none⟩ = some (.int .i64 0) := bcl BK435 0; have hcz16_1 : w14.cell? ⟨gb435, 1, none⟩ = some (.int .i64 0) := bcl BK435 1; have hcz16_2 : w14.cell? ⟨gb435, 2, none⟩ = some (.int .i64 0) := bcl BK435 2; have hcz16_3 : w14.cell? ⟨gb435, 3, none⟩ = some (.int .i64 0) := bcl BK435 3; have hfz16_0 := blk_frozen BK435.out 0; have hfz16_1 := blk_frozen BK435.out 1; have hfz16_2 := blk_frozen BK435.out 2; have hfz16_3 := blk_frozen BK435.out 3; have hcz17_0 : w14.cell? ⟨gb427, 0, none⟩ = some (.int .i64 a1_0) := bcl BK427 0; have hcz17_1 : w14.cell? ⟨gb427, 1, none⟩ = some (.int .i64 a1_1) := bcl BK427 1; have hcz17_2 : w14.cell? ⟨gb427, 2, none⟩ = some (.int .i64 a1_2) := bcl BK427 2; have hfz17_0 := blk_frozen BK427.out 0; have hfz17_1 := blk_frozen BK427.out 1; have hfz17_2 := blk_frozen BK427.out 2) | ((with_reducible refine gate_callee (f := 88) rfl ?_); refine goesL_ (some 20) rfl rfl Try.func88 (by kernel_rfl) rfl #[.agg #[.int .i64 a1_0, .int .i64 a1_1, .int .i64 a1_2]] rfl (by (try simp only [List.map_toArray, List.map_cons, List.map_nil]); first | done | rfl | (simp only [List.length_drop, List.length_take]; rfl)) ?_; (with_reducible refine (impl_Lattice_cells.calls k1 a1_0 a1_1 a1_2 t436 _ A13.out).mono ?_); rintro e w18 ⟨v437, rfl, ho0, hb⟩; refine ⟨_, rfl, ?_⟩; have n0_ := Aside0.mk (Kd.R_below (by (with_reducible repeat (first | apply Kd.R_alloc | apply Kd.R_drewN | apply Kd.R_drew)); exact (Kd.R_mono (Kd.R_far (p := ⟨gb435, 3, none⟩) (Kd.R_far (p := ⟨gb435, 2, none⟩) (Kd.R_far (p := ⟨gb435, 1, none⟩) (Kd.R_far (p := ⟨gb435, 0, none⟩) (Kd.R_types HO_5.out BK435.out (by decide)) (fun _ hk => hk.2) (.int .i64 ((rd_T33 t431 x15_1).f0))) (fun _ hk => hk.2) (.int .i64 ((rd_T33 t431 x15_1).f1))) (fun _ hk => hk.2) (.int .i64 ((rd_T33 t431 x15_1).f2))) (fun _ hk => hk.2) (.int .i64 ((rd_T33 t431 x15_1).f3))) (fun _ h_ => h_.1))) hb); have n1_ := Aside0.mk (Kd.R_below (by (with_reducible repeat (first | apply Kd.R_alloc | apply Kd.R_drewN | apply Kd.R_drew)); exact (Kd.R_mono (Kd.R_far (p := ⟨gb435, 3, none⟩) (Kd.R_far (p := ⟨gb435, 2, none⟩) (Kd.R_far (p := ⟨gb435, 1, none⟩) (Kd.R_far (p := ⟨gb435, 0, none⟩) (Kd.R_mono HO_13.out (fun k_ hk => (⟨hk, hk.2⟩ : _ ∧ k_ ≠ gb435))) (fun _ hk => hk.2) (.int .i64 ((rd_T33 t431 x15_1).f0))) (fun _ hk => hk.2) (.int .i64 ((rd_T33 t431 x15_1).f1))) (fun _ hk => hk.2) (.int .i64 ((rd_T33 t431 x15_1).f2))) (fun _ hk => hk.2) (.int .i64 ((rd_T33 t431 x15_1).f3))) (fun _ h_ => h_.1))) hb); have n2_ := Aside0.mk (Kd.R_lower ho0 (bsz2 HB GE427 GE435)); have n3_ := Aside0.mk (blk_below (g := gb427) (o := .cells #[.int .i64 a1_0, .int .i64 a1_1, .int .i64 a1_2] 31 (0, 0)) (by (with_reducible repeat (first | refine blk_drewN ?_ _ | refine blk_drew ?_ | refine blk_alloc ?_ _)); refine blk_far ?_ NB427_435.out _; (with_reducible repeat (first | refine blk_drewN ?_ _ | refine blk_drew ?_ | refine blk_alloc ?_ _)); refine blk_far ?_ NB427_435.out _; (with_reducible repeat (first | refine blk_drewN ?_ _ | refine blk_drew ?_ | refine blk_alloc ?_ _)); refine blk_far ?_ NB427_435.out _; (with_reducible repeat (first | refine blk_drewN ?_ _ | refine blk_drew ?_ | refine blk_alloc ?_ _)); refine blk_far ?_ NB427_435.out _; (with_reducible repeat (first | refine blk_drewN ?_ _ | refine blk_drew ?_ | refine blk_alloc ?_ _)); exact BK427.out) hb); have n4_ := Aside0.mk (blk_below (g := gb435) (o := .cells #[.int .i64 ((rd_T33 t431 x15_1).f0), .int .i64 ((rd_T33 t431 x15_1).f1), .int .i64 ((rd_T33 t431 x15_1).f2), .int .i64 ((rd_T33 t431 x15_1).f3)] 33 (0, 0)) (by (with_reducible repeat (first | refine blk_drewN ?_ _ | refine blk_drew ?_ | refine blk_alloc ?_ _)); refine blk_put (cs := #[.int .i64 ((rd_T33 t431 x15_1).f0), .int .i64 ((rd_T33 t431 x15_1).f1), .int .i64 ((rd_T33 t431 x15_1).f2), .int .i64 0]) ?_ 3 _ rfl; (with_reducible repeat (first | refine blk_drewN ?_ _ | refine blk_drew ?_ | refine blk_alloc ?_ _)); refine blk_put (cs := #[.int .i64 ((rd_T33 t431 x15_1).f0), .int .i64 ((rd_T33 t431 x15_1).f1), .int .i64 0, .int .i64 0]) ?_ 2 _ rfl; (with_reducible repeat (first | refine blk_drewN ?_ _ | refine blk_drew ?_ | refine blk_alloc ?_ _)); refine blk_put (cs := #[.int .i64 ((rd_T33 t431 x15_1).f0), .int .i64 0, .int .i64 0, .int .i64 0]) ?_ 1 _ rfl; (with_reducible repeat (first | refine blk_drewN ?_ _ | refine blk_drew ?_ | refine blk_alloc ?_ _)); refine blk_put (cs := #[.int .i64 0, .int .i64 0, .int .i64 0, .int .i64 0]) ?_ 0 _ rfl; (with_reducible repeat (first | refine blk_drewN ?_ _ | refine blk_drew ?_ | refine blk_alloc ?_ _)); exact BK435.out) hb); have n5_ := Aside0.mk (bst2 HB GE427 GE435 hb); clear HO_5; clear HO_13; clear BK427; clear BK435; clear HB; have HO_5 := n0_; have HO_13 := n1_; have HO438 := n2_; have BK427 := n3_; have BK435 := n4_; have HB := n5_; clear n0_ n1_ n2_ n3_ n4_ n5_; (try clear hb); (try clear hb2); (try clear hk); (try clear hi); (try clear ho0); obtain ⟨Ao19, co19, eo19⟩ := Kd.R_slice HO438.out; subst eo19))
      go_loopg [5, 22] k1 (fun kq v5 v22 w' => ∃ (x5_2 : List (S36)) (x22_2 : Int), v22 = .int .i64 x22_2 ∧ Aside0 (impl_allMotions.l1 kq x5_2 t431 (t431.length : Int) x15_1 t436 (t436.length : Int) x22_2 a1_0 a1_1 a1_2 ((rd_T33 t431 x15_1).f0) ((rd_T33 t431 x15_1).f1) ((rd_T33 t431 x15_1).f2) ((rd_T33 t431 x15_1).f3) = some r) ∧ Aside0 (kq ≤ k1) ∧ Aside0 (Kd.R k36 36 w' w.heap.size (fun _ => True) v5 x5_2) ∧ Aside0 (Kd.R k33 33 w' w.heap.size (fun k_ => k_ ≠ gb435) (.slice (some ad434) t431.length co9) t431) ∧ Aside0 (Kd.R k34 34 w' w.heap.size (fun _ => True) (.slice Ao19 t436.length co19) t436) ∧ Aside0 (w'.heap[gb427]? = some (.cells #[.int .i64 a1_0, .int .i64 a1_1, .int .i64 a1_2] 31 (0, 0))) ∧ Aside0 (w'.heap[gb435]? = some (.cells #[.int .i64 ((rd_T33 t431 x15_1).f0), .int .i64 ((rd_T33 t431 x15_1).f1), .int .i64 ((rd_T33 t431 x15_1).f2), .int .i64 ((rd_T33 t431 x15_1).f3)] 33 (0, 0))) ∧ Aside0 (Below w.heap.size w w'))
      case atStart => exact ⟨(x5_1), (0), (by first | rfl | (simp; done) | (simp [*]; done)), H', ⟨Nat.le_refl _⟩, ⟨by (with_reducible repeat (first | apply Kd.R_alloc | apply Kd.R_drewN | apply Kd.R_drew)); exact HO_5.out⟩, ⟨by (with_reducible repeat (first | apply Kd.R_alloc | apply Kd.R_drewN | apply Kd.R_drew)); exact Kd.R_mono HO_13.out (fun _ hk => hk.2)⟩, ⟨by (with_reducible repeat (first | apply Kd.R_alloc | apply Kd.R_drewN | apply Kd.R_drew)); exact HO438.out⟩, ⟨bkp BK427⟩, ⟨bkp BK435⟩, ⟨bbw2 HB GE427 GE435⟩⟩
      case round =>
       clear H'
       try clear c1
       try clear p2
       try clear p4
       try clear q4
       try clear hx4
       try clear c5
       try clear c8
       try clear c10
       try clear c10b0
       try clear c11
       try clear c11b0
       try clear c12
       try clear c12b0
       try clear c15
       try clear hcz16_0
       try clear hcz16_1
       try clear hcz16_2
       try clear hcz16_3
       try clear hcz17_0
       try clear hcz17_1
       try clear hcz17_2
       try clear hcz7_0
       try clear hcz7_1
       try clear hcz7_2
       try clear hfz16_0
       try clear hfz16_1
       try clear hfz16_2
       try clear hfz16_3
       try clear hfz17_0
       try clear hfz17_1
       try clear hfz17_2
       try clear hfz7_0
       try clear hfz7_1
       try clear hfz7_2
       try clear hx434_0
       try clear hx434_1
       try clear hx434_2
       try clear hx434_3
       try clear p2
       try clear p434
       try clear q434
       obtain ⟨x5_2, x22_2, rfl, HA, HK2, HO_5, HO_13, HO_20, BK427, BK435, HB⟩ := hrel
       cases gk with
       | zero => exact absurd HA.out (by simp [impl_allMotions.l1])
       | succ k2 =>
        have H := HA.out
        clear HA
        simp only [impl_allMotions.l1] at H
        by_cases c20 : x22_2 < (t436.length : Int)
        ·rw [if_pos c20] at H
         have c20b0 : decide (x22_2 < (t436.length : Int)) = true := decide_eq_true c20
         clear c20
         by_cases c21 : 0 ≤ x22_2
         ·rw [if_pos c21] at H
          have c21b0 : decide (0 ≤ x22_2) = true := decide_eq_true c21
          clear c21
          by_cases c22 : x22_2 < (t436.length : Int)
          ·rw [if_pos c22] at H
           have c22b0 : decide (x22_2 < (t436.length : Int)) = true := decide_eq_true c22
           clear c22
           by_cases c23 : x5_2.length < 2932031007402
           ·rw [if_pos c23] at H
            have LMc23 := Aside0.mk c23
            clear c23
            obtain ⟨y441, hy441⟩ : ∃ y_ : List (S36), y_ = (x5_2 ++ [(⟨(⟨((rd_T33 t431 x15_1).f0), ((rd_T33 t431 x15_1).f1), ((rd_T33 t431 x15_1).f2), ((rd_T33 t431 x15_1).f3)⟩ : S33), (⟨(rd_T34 t436 x22_2).f0, (rd_T34 t436 x22_2).f1⟩ : S34)⟩ : S36)]) := ⟨_, rfl⟩
            replace H : (impl_allMotions.l1 k2 y441 t431 (t431.length : Int) x15_1 t436 (t436.length : Int) (wrap64 (x22_2 + 1)) a1_0 a1_1 a1_2 ((rd_T33 t431 x15_1).f0) ((rd_T33 t431 x15_1).f1) ((rd_T33 t431 x15_1).f2) ((rd_T33 t431 x15_1).f3)) = some r := by first | (rw [hy441]; with_reducible exact H) | (have H2_ := (Option.bind_some _ _).symm.trans H; rw [hy441]; with_reducible exact H2_) | (have H2_ := (Option.bind_some _ _).symm.trans H; with_reducible exact H2_) | with_reducible exact H | (rw [hy441]; exact H) | exact H
            have Ny441 := Aside0.mk hy441
            clear hy441
            have H' := Aside0.mk H
            clear H
            have p439 : 0 ≤ (x22_2 : Int) := of_decide_eq_true (by first | (with_reducible assumption) | assumption)
            have q439 : x22_2 < (t436.length : Int) := of_decide_eq_true (by first | (with_reducible assumption) | assumption)
            obtain ⟨ad439, e439, hx439_0, hx439_1⟩ := at_T34 (Kd.R_reads' HO_20.out).2.2 x22_2 p439 q439
            cases e439
            replace p439 := eq_true p439
            replace q439 := eq_true q439
            go_wp2_with (first | ((with_reducible refine gate_dst (N := 9) rfl ?_); refine box_event ?hg (N := 9) ?hd (cs := #[.int .i64 0, .int .i64 0]) (t := 34) ?hr ?_; (case hd => rfl); (case hg => rfl); (case hr => first | (go_simp; done) | (go_simp; rfl)); intro gb440 hg w24 hbox hb; have n0_ := Aside0.mk (Kd.R_below (by (with_reducible repeat (first | apply Kd.R_alloc | apply Kd.R_drewN | apply Kd.R_drew)); exact HO_5.out) hb); have n1_ := Aside0.mk (Kd.R_below (by (with_reducible repeat (first | apply Kd.R_alloc | apply Kd.R_drewN | apply Kd.R_drew)); exact HO_13.out) hb); have n2_ := Aside0.mk (Kd.R_below (Kd.R_elderB (by (with_reducible repeat (first | apply Kd.R_alloc | apply Kd.R_drewN | apply Kd.R_drew)); exact HO_20.out) gb440 (Nat.le_of_eq hg.symm)) hb); have n3_ := Aside0.mk (bbl BK427 hb); have n4_ := Aside0.mk (bbl BK435 hb); have n5_ := Aside0.mk (bst2 HB GE427 GE435 hb); have n6_ := Aside0.mk (hbox); have n7_ := ngw2 hg HB GE427 GE435; have n8_ := n7_; have n9_ := nlt hg BK427; have n10_ := nsy (nlt hg BK427); have n11_ := nlt hg BK435; have n12_ := nsy (nlt hg BK435); clear HO_5; clear HO_13; clear HO_20; clear BK427; clear BK435; clear HB; have HO_5 := n0_; have HO_13 := n1_; have HO_20 := n2_; have BK427 := n3_; have BK435 := n4_; have HB := n5_; have BK440 := n6_; have GW440 := n7_; have GE440 := n8_; have NB427_440 := n9_; have NB440_427 := n10_; have NB435_440 := n11_; have NB440_435 := n12_; clear n0_ n1_ n2_ n3_ n4_ n5_ n6_ n7_ n8_ n9_ n10_ n11_ n12_; clear hb hbox hg; have hnb25 := NB440_427.out; have hnc25 := NB427_440.out; have hnb26 := NB440_435.out; have hnc26 := NB435_440.out; have hcz27_0 : w24.cell? ⟨gb440, 0, none⟩ = some (.int .i64 0) := bcl BK440 0; have hcz27_1 : w24.cell? ⟨gb440, 1, none⟩ = some (.int .i64 0) := bcl BK440 1; have hfz27_0 := blk_frozen BK440.out 0; have hfz27_1 := blk_frozen BK440.out 1; have hnb28 := NB435_427.out; have hnc28 := NB427_435.out; have hcz29_0 : w24.cell? ⟨gb435, 0, none⟩ = some (.int .i64 ((rd_T33 t431 x15_1).f0)) := bcl BK435 0; have hcz29_1 : w24.cell? ⟨gb435, 1, none⟩ = some (.int .i64 ((rd_T33 t431 x15_1).f1)) := bcl BK435 1; have hcz29_2 : w24.cell? ⟨gb435, 2, none⟩ = some (.int .i64 ((rd_T33 t431 x15_1).f2)) := bcl BK435 2; have hcz29_3 : w24.cell? ⟨gb435, 3, none⟩ = some (.int .i64 ((rd_T33 t431 x15_1).f3)) := bcl BK435 3; have hfz29_0 := blk_frozen BK435.out 0; have hfz29_1 := blk_frozen BK435.out 1; have hfz29_2 := blk_frozen BK435.out 2; have hfz29_3 := blk_frozen BK435.out 3) | ((with_reducible refine gate_builtin (b := .append) (xs := #[.tmp 26, .tmp 30]) rfl ?_); at_builtin; refine Kd.R_append k36 (w0 := w) w.heap.size rfl (.tmp 26) (.tmp 30) 42 36 (.agg #[(.int .i64 0), (.int .i64 0), (.int .i64 0), (.int .i64 0), (.int .i64 0), (.int .i64 0)]) 48 rfl Try.underlying42 info36 rfl (by decide) (by omega) u5 x5_2 (⟨(⟨((rd_T33 t431 x15_1).f0), ((rd_T33 t431 x15_1).f1), ((rd_T33 t431 x15_1).f2), ((rd_T33 t431 x15_1).f3)⟩ : S33), (⟨(rd_T34 t436 x22_2).f0, (rd_T34 t436 x22_2).f1⟩ : S34)⟩ : S36) [.int .i64 ((rd_T33 t431 x15_1).f0), .int .i64 ((rd_T33 t431 x15_1).f1), .int .i64 ((rd_T33 t431 x15_1).f2), .int .i64 ((rd_T33 t431 x15_1).f3), .int .i64 ((rd_T34 t436 x22_2).f0), .int .i64 ((rd_T34 t436 x22_2).f1)] (fun _ => True) (fun _ => False) rfl (by first | (go_simp; done) | (go_simp; rfl)) ?aP (fun _ hk => hk.elim) ?aF ?aO ?aB ?aS ?aL ?_; (case aP => exact k36_mkM _ _ _ (⟨(⟨((rd_T33 t431 x15_1).f0), ((rd_T33 t431 x15_1).f1), ((rd_T33 t431 x15_1).f2), ((rd_T33 t431 x15_1).f3)⟩ : S33), (⟨(rd_T34 t436 x22_2).f0, (rd_T34 t436 x22_2).f1⟩ : S34)⟩ : S36)); (case aB => exact (bbw3 HB GE427 GE435 GE440)); (case aF => exact (fun _ _ => trivial)); (case aO => exact (by (with_reducible repeat (first | apply Kd.R_alloc | apply Kd.R_drewN | apply Kd.R_drew)); exact Kd.R_mono (Kd.R_far (p := ⟨gb440, 1, none⟩) (Kd.R_far (p := ⟨gb440, 0, none⟩) (Kd.R_types HO_5.out BK440.out (by decide)) (fun _ hk => hk.2) (.int .i64 ((rd_T34 t436 x22_2).f0))) (fun _ hk => hk.2) (.int .i64 ((rd_T34 t436 x22_2).f1))) (fun _ hk => trivial))); (case aS => exact (bsz3 HB GE427 GE435 GE440)); (case aL => have := LMc23.out; omega); intro v442 w30 ho hb hg hat; rw [← Ny441.out] at ho; have n0_ := Aside0.mk (Kd.R_over' (by (with_reducible repeat (first | apply Kd.R_alloc | apply Kd.R_drewN | apply Kd.R_drew)); exact (Kd.R_mono (Kd.R_far (p := ⟨gb440, 1, none⟩) (Kd.R_far (p := ⟨gb440, 0, none⟩) (Kd.R_types HO_13.out BK440.out (by decide)) (fun _ hk => hk.2) (.int .i64 ((rd_T34 t436 x22_2).f0))) (fun _ hk => hk.2) (.int .i64 ((rd_T34 t436 x22_2).f1))) (fun _ h_ => h_.1))) (Kd.R_typed (by (with_reducible repeat (first | apply Kd.R_alloc | apply Kd.R_drewN | apply Kd.R_drew)); exact (Kd.R_mono (Kd.R_far (p := ⟨gb440, 1, none⟩) (Kd.R_far (p := ⟨gb440, 0, none⟩) (Kd.R_types HO_5.out BK440.out (by decide)) (fun _ hk => hk.2) (.int .i64 ((rd_T34 t436 x22_2).f0))) (fun _ hk => hk.2) (.int .i64 ((rd_T34 t436 x22_2).f1))) (fun _ h_ => h_.1)))) (by decide) hg); have n1_ := Aside0.mk (Kd.R_over' (by (with_reducible repeat (first | apply Kd.R_alloc | apply Kd.R_drewN | apply Kd.R_drew)); exact (Kd.R_mono (Kd.R_far (p := ⟨gb440, 1, none⟩) (Kd.R_far (p := ⟨gb440, 0, none⟩) (Kd.R_mono HO_20.out (fun k_ hk => (⟨hk, hk.2⟩ : _ ∧ k_ ≠ gb440))) (fun _ hk => hk.2) (.int .i64 ((rd_T34 t436 x22_2).f0))) (fun _ hk => hk.2) (.int .i64 ((rd_T34 t436 x22_2).f1))) (fun _ h_ => h_.1))) (Kd.R_typed (by (with_reducible repeat (first | apply Kd.R_alloc | apply Kd.R_drewN | apply Kd.R_drew)); exact (Kd.R_mono (Kd.R_far (p := ⟨gb440, 1, none⟩) (Kd.R_far (p := ⟨gb440, 0, none⟩) (Kd.R_types HO_5.out BK440.out (by decide)) (fun _ hk => hk.2) (.int .i64 ((rd_T34 t436 x22_2).f0))) (fun _ hk => hk.2) (.int .i64 ((rd_T34 t436 x22_2).f1))) (fun _ h_ => h_.1)))) (by decide) hg); have n2_ := Aside0.mk (blk_grown (g := gb427) (o := .cells #[.int .i64 a1_0, .int .i64 a1_1, .int .i64 a1_2] 31 (0, 0)) (by (with_reducible repeat (first | refine blk_drewN ?_ _ | refine blk_drew ?_ | refine blk_alloc ?_ _)); refine blk_far ?_ NB427_440.out _; (with_reducible repeat (first | refine blk_drewN ?_ _ | refine blk_drew ?_ | refine blk_alloc ?_ _)); refine blk_far ?_ NB427_440.out _; (with_reducible repeat (first | refine blk_drewN ?_ _ | refine blk_drew ?_ | refine blk_alloc ?_ _)); exact BK427.out) hg (Kd.R_ne HO_5.out BK427.out (by decide))); have n3_ := Aside0.mk (blk_grown (g := gb435) (o := .cells #[.int .i64 ((rd_T33 t431 x15_1).f0), .int .i64 ((rd_T33 t431 x15_1).f1), .int .i64 ((rd_T33 t431 x15_1).f2), .int .i64 ((rd_T33 t431 x15_1).f3)] 33 (0, 0)) (by (with_reducible repeat (first | refine blk_drewN ?_ _ | refine blk_drew ?_ | refine blk_alloc ?_ _)); refine blk_far ?_ NB435_440.out _; (with_reducible repeat (first | refine blk_drewN ?_ _ | refine blk_drew ?_ | refine blk_alloc ?_ _)); refine blk_far ?_ NB435_440.out _; (with_reducible repeat (first | refine blk_drewN ?_ _ | refine blk_drew ?_ | refine blk_alloc ?_ _)); exact BK435.out) hg (Kd.R_ne HO_5.out BK435.out (by decide))); have n4_ := Aside0.mk (blk_grown (g := gb440) (o := .cells #[.int .i64 ((rd_T34 t436 x22_2).f0), .int .i64 ((rd_T34 t436 x22_2).f1)] 34 (0, 0)) (by (with_reducible repeat (first | refine blk_drewN ?_ _ | refine blk_drew ?_ | refine blk_alloc ?_ _)); refine blk_put (cs := #[.int .i64 ((rd_T34 t436 x22_2).f0), .int .i64 0]) ?_ 1 _ rfl; (with_reducible repeat (first | refine blk_drewN ?_ _ | refine blk_drew ?_ | refine blk_alloc ?_ _)); refine blk_put (cs := #[.int .i64 0, .int .i64 0]) ?_ 0 _ rfl; (with_reducible repeat (first | refine blk_drewN ?_ _ | refine blk_drew ?_ | refine blk_alloc ?_ _)); exact BK440.out) hg (Kd.R_ne HO_5.out BK440.out (by decide))); have n5_ := Aside0.mk (hb); have n6_ := Aside0.mk (ho); clear HO_13; clear HO_20; clear BK427; clear BK435; clear BK440; clear HB; clear HO_5; have HO_13 := n0_; have HO_20 := n1_; have BK427 := n2_; have BK435 := n3_; have BK440 := n4_; have HB := n5_; have HO443 := n6_; clear n0_ n1_ n2_ n3_ n4_ n5_ n6_; clear ho hb hg hat))
            go_roundg k2
            case measure => have := HK1.out; have := HK2.out; omega
            case rel => exact ⟨(y441), (wrap64 (x22_2 + 1)), (by first | rfl | (simp; done) | (simp [*]; done)), H', ⟨by have := HK1.out; have := HK2.out; omega⟩, ⟨by (with_reducible repeat (first | apply Kd.R_alloc | apply Kd.R_drewN | apply Kd.R_drew)); exact HO443.out⟩, ⟨by (with_reducible repeat (first | apply Kd.R_alloc | apply Kd.R_drewN | apply Kd.R_drew)); exact HO_13.out⟩, ⟨by (with_reducible repeat (first | apply Kd.R_alloc | apply Kd.R_drewN | apply Kd.R_drew)); exact Kd.R_mono HO_20.out (fun _ hk => trivial)⟩, ⟨bkp BK427⟩, ⟨bkp BK435⟩, ⟨bbw3 HB GE427 GE435 GE440⟩⟩
           ·rw [if_neg c23] at H
            exact absurd H (by simp)
          ·rw [if_neg c22] at H
           exact absurd H (by simp)
         ·rw [if_neg c21] at H
          exact absurd H (by simp)
        ·rw [if_neg c20] at H
         have c20b0 : decide (x22_2 < (t436.length : Int)) = false := decide_eq_false c20
         clear c20
         have H' := Aside0.mk H
         clear H
         go_wp2
         go_roundg k2
         case measure => have := HK1.out; have := HK2.out; omega
         case rel => exact ⟨(x5_2), (wrap64 (x15_1 + 1)), (by first | rfl | (simp; done) | (simp [*]; done)), H', ⟨by have := HK1.out; have := HK2.out; omega⟩, ⟨by (with_reducible repeat (first | apply Kd.R_alloc | apply Kd.R_drewN | apply Kd.R_drew)); exact HO_5.out⟩, ⟨by (with_reducible repeat (first | apply Kd.R_alloc | apply Kd.R_drewN | apply Kd.R_drew)); exact Kd.R_mono HO_13.out (fun _ hk => trivial)⟩, ⟨bkp BK427⟩, ⟨bbw2 HB GE427 GE435⟩⟩
     ·rw [if_neg c12] at H
      exact absurd H (by simp)
    ·rw [if_neg c11] at H
     exact absurd H (by simp)
   ·rw [if_neg c10] at H
    have c10b0 : decide (x15_1 < (t431.length : Int)) = false := decide_eq_false c10
    clear c10
    obtain rfl := Option.some.inj H
    go_wp2
    go_ret
    exact ⟨_, by first | rfl | (simp [errW_none, errW_some] <;> rfl) | (simp [*, errW_none, errW_some] <;> rfl), by (with_reducible repeat (first | apply Kd.R_alloc | apply Kd.R_drewN | apply Kd.R_drew)); exact HO_5.out, bbw1 HB GE427⟩

/-! ### impl_AllMotions: function 19 -/
def impl_AllMotions.f (k : Nat) (a0 : Int) (a1_0 : Int) (a1_1 : Int) (a1_2 : Int) : Option ((List (S36)) × Int) := (impl_frameCode.f a0 a1_0 a1_1 a1_2).bind fun t445 => (if t445 = 0 then ((impl_allMotions.f k a0 a1_0 a1_1 a1_2).bind fun t446 => (some (t446, 0))) else (some (([] : List (S36)), t445)))
set_option maxHeartbeats 8000000 in
set_option maxRecDepth 100000 in
theorem impl_AllMotions.calls (k : Nat) (a0 : Int) (a1_0 : Int) (a1_1 : Int) (a1_2 : Int) (r1 : List (S36)) (r2 : Int) (w : World) (h : impl_AllMotions.f k a0 a1_0 a1_1 a1_2 = some (r1, r2)) :
  Calls Try.prog 19 #[.int .i64 a0, .agg #[.int .i64 a1_0, .int .i64 a1_1, .int .i64 a1_2]] w fun e w' => ∃ v0_ : Value, e = .returned (.tuple #[v0_, .int .i64 r2]) ∧ Kd.R k36 36 w' w.heap.size (fun _ => True) v0_ r1 ∧ Below w.heap.size w w' := by
 have hu31 := Try.underlying31
 have HB := Aside0.mk (Below.refl w.heap.size w)
 have H : ((impl_frameCode.f a0 a1_0 a1_1 a1_2).bind fun t445 => (if t445 = 0 then ((impl_allMotions.f k a0 a1_0 a1_1 a1_2).bind fun t446 => (some (t446, 0))) else (some (([] : List (S36)), t445)))) = some (r1, r2) := h
 clear h
 replace H := Option.bind_eq_some_iff.mp H
 obtain ⟨t445, A30, H⟩ := H
 replace H : (if t445 = 0 then ((impl_allMotions.f k a0 a1_0 a1_1 a1_2).bind fun t446 => (some (t446, 0))) else (some (([] : List (S36)), t445))) = some (r1, r2) := H
 have A3 := Aside0.mk A30
 clear A30
 by_cases c4 : t445 = 0
 ·rw [if_pos c4] at H
  have c4b0 : (t445 == 0) = true := beq_iff_eq.mpr c4
  have c4b1 : (t445 != 0) = false := bne_eq_false_iff_eq.mpr c4
  clear c4
  replace H := Option.bind_eq_some_iff.mp H
  obtain ⟨t446, A50, H⟩ := H
  replace H : (some (t446, 0)) = some (r1, r2) := H
  have A5 := Aside0.mk A50
  clear A50
  simp only [Option.some.injEq, Prod.mk.injEq] at H
  obtain ⟨rfl, rfl⟩ := H
  go_enter Try.func19, Try.ntmps19
  go_wp2_with (first | ((with_reducible refine gate_dst (N := 3) rfl ?_); refine box_event ?hg (N := 3) ?hd (cs := #[.int .i64 a1_0, .int .i64 a1_1, .int .i64 a1_2]) (t := 31) ?hr ?_; (case hd => rfl); (case hg => rfl); (case hr => first | (go_simp; done) | (go_simp; rfl)); intro gb444 hg w6 hbox hb; have n0_ := Aside0.mk (bst0 HB hb); have n1_ := Aside0.mk (hbox); have n2_ := ngw0 hg HB; have n3_ := n2_; clear HB; have HB := n0_; have BK444 := n1_; have GW444 := n2_; have GE444 := n3_; clear n0_ n1_ n2_ n3_; clear hb hbox hg; have hcz7_0 : w6.cell? ⟨gb444, 0, none⟩ = some (.int .i64 a1_0) := bcl BK444 0; have hcz7_1 : w6.cell? ⟨gb444, 1, none⟩ = some (.int .i64 a1_1) := bcl BK444 1; have hcz7_2 : w6.cell? ⟨gb444, 2, none⟩ = some (.int .i64 a1_2) := bcl BK444 2; have hfz7_0 := blk_frozen BK444.out 0; have hfz7_1 := blk_frozen BK444.out 1; have hfz7_2 := blk_frozen BK444.out 2) | ((with_reducible refine gate_callee (f := 43) rfl ?_); refine goesL_ (some 9) rfl rfl Try.func43 (by kernel_rfl) rfl #[.int .i64 a0, .agg #[.int .i64 a1_0, .int .i64 a1_1, .int .i64 a1_2]] rfl (by (try simp only [List.map_toArray, List.map_cons, List.map_nil]); first | done | rfl | (simp only [List.length_drop, List.length_take]; rfl)) ?_; (with_reducible refine (impl_frameCode.calls a0 a1_0 a1_1 a1_2 t445 _ A3.out).mono ?_); rintro e w8 ⟨rfl, hb⟩; refine ⟨_, rfl, ?_⟩; have n0_ := Aside0.mk (bbl BK444 hb); have n1_ := Aside0.mk (bst1 HB GE444 hb); clear BK444; clear HB; have BK444 := n0_; have HB := n1_; clear n0_ n1_; (try clear hb); (try clear hb2); (try clear hk); (try clear hi); have hcz9_0 : w8.cell? ⟨gb444, 0, none⟩ = some (.int .i64 a1_0) := bcl BK444 0; have hcz9_1 : w8.cell? ⟨gb444, 1, none⟩ = some (.int .i64 a1_1) := bcl BK444 1; have hcz9_2 : w8.cell? ⟨gb444, 2, none⟩ = some (.int .i64 a1_2) := bcl BK444 2; have hfz9_0 := blk_frozen BK444.out 0; have hfz9_1 := blk_frozen BK444.out 1; have hfz9_2 := blk_frozen BK444.out 2) | ((with_reducible refine gate_callee (f := 50) rfl ?_); refine goesL_ (some 15) rfl rfl Try.func50 (by kernel_rfl) rfl #[.int .i64 a0, .agg #[.int .i64 a1_0, .int .i64 a1_1, .int .i64 a1_2]] rfl (by (try simp only [List.map_toArray, List.map_cons, List.map_nil]); first | done | rfl | (simp only [List.length_drop, List.length_take]; rfl)) ?_; (with_reducible refine (impl_allMotions.calls k a0 a1_0 a1_1 a1_2 t446 _ A5.out).mono ?_); rintro e w10 ⟨v447, rfl, ho0, hb⟩; refine ⟨_, rfl, ?_⟩; have n0_ := Aside0.mk (Kd.R_lower ho0 (bsz1 HB GE444)); have n1_ := Aside0.mk (bbl BK444 hb); have n2_ := Aside0.mk (bst1 HB GE444 hb); clear BK444; clear HB; have HO448 := n0_; have BK444 := n1_; have HB := n2_; clear n0_ n1_ n2_; (try clear hb); (try clear hb2); (try clear hk); (try clear hi); (try clear ho0)))
  go_ret2
  exact ⟨_, by first | rfl | (simp [errW_none, errW_some] <;> rfl) | (simp [*, errW_none, errW_some] <;> rfl), by (with_reducible repeat (first | apply Kd.R_alloc | apply Kd.R_drewN | apply Kd.R_drew)); exact HO448.out, bbw1 HB GE444⟩
 ·rw [if_neg c4] at H
  have c4b0 : (t445 == 0) = false := beq_eq_false_iff_ne.mpr c4
  have c4b1 : (t445 != 0) = true := bne_iff_ne.mpr c4
  simp only [Option.some.injEq, Prod.mk.injEq] at H
  obtain ⟨rfl, rfl⟩ := H
  go_enter Try.func19, Try.ntmps19
  go_wp2_with (first | ((with_reducible refine gate_dst (N := 3) rfl ?_); refine box_event ?hg (N := 3) ?hd (cs := #[.int .i64 a1_0, .int .i64 a1_1, .int .i64 a1_2]) (t := 31) ?hr ?_; (case hd => rfl); (case hg => rfl); (case hr => first | (go_simp; done) | (go_simp; rfl)); intro gb444 hg w11 hbox hb; have n0_ := Aside0.mk (bst0 HB hb); have n1_ := Aside0.mk (hbox); have n2_ := ngw0 hg HB; have n3_ := n2_; clear HB; have HB := n0_; have BK444 := n1_; have GW444 := n2_; have GE444 := n3_; clear n0_ n1_ n2_ n3_; clear hb hbox hg; have hcz12_0 : w11.cell? ⟨gb444, 0, none⟩ = some (.int .i64 a1_0) := bcl BK444 0; have hcz12_1 : w11.cell? ⟨gb444, 1, none⟩ = some (.int .i64 a1_1) := bcl BK444 1; have hcz12_2 : w11.cell? ⟨gb444, 2, none⟩ = some (.int .i64 a1_2) := bcl BK444 2; have hfz12_0 := blk_frozen BK444.out 0; have hfz12_1 := blk_frozen BK444.out 1; have hfz12_2 := blk_frozen BK444.out 2) | ((with_reducible refine gate_callee (f := 43) rfl ?_); refine goesL_ (some 9) rfl rfl Try.func43 (by kernel_rfl) rfl #[.int .i64 a0, .agg #[.int .i64 a1_0, .int .i64 a1_1, .int .i64 a1_2]] rfl (by (try simp only [List.map_toArray, List.map_cons, List.map_nil]); first | done | rfl | (simp only [List.length_drop, List.length_take]; rfl)) ?_; (with_reducible refine (impl_frameCode.calls a0 a1_0 a1_1 a1_2 t445 _ A3.out).mono ?_); rintro e w13 ⟨rfl, hb⟩; refine ⟨_, rfl, ?_⟩; have n0_ := Aside0.mk (bbl BK444 hb); have n1_ := Aside0.mk (bst1 HB GE444 hb); clear BK444; clear HB; have BK444 := n0_; have HB := n1_; clear n0_ n1_; (try clear hb); (try clear hb2); (try clear hk); (try clear hi)))
  go_ret2
  exact ⟨_, by first | rfl | (simp [errW_none, errW_some] <;> rfl) | (simp [*, errW_none, errW_some] <;> rfl), by first | exact Kd.R_nil _ _ _ _ _ | exact Kd.N_nil _ _ _ _ _ | exact Kd.V_nil _ _ _ _ _ | exact Kd.Q_nil _ _ _ _ _ | exact Kd.S_nil _ _ _ _ _, bbw1 HB GE444⟩

/-! ### laws_eqMotionS: function 20 -/
def laws_eqMotionS.l0 : Nat → List (S36) → List (S36) → Int → Option (Bool)
 | 0, _, _, _ => none
 | k + 1, x0, x1, x5 => if x5 < (x0.length : Int) then (if 0 ≤ x5 then (if x5 < (x1.length : Int) then ((laws_eqMotion.f ((rd_T36 x0 x5).f0.f0) ((rd_T36 x0 x5).f0.f1) ((rd_T36 x0 x5).f0.f2) ((rd_T36 x0 x5).f0.f3) ((rd_T36 x0 x5).f1.f0) ((rd_T36 x0 x5).f1.f1) ((rd_T36 x1 x5).f0.f0) ((rd_T36 x1 x5).f0.f1) ((rd_T36 x1 x5).f0.f2) ((rd_T36 x1 x5).f0.f3) ((rd_T36 x1 x5).f1.f0) ((rd_T36 x1 x5).f1.f1)).bind fun t451 => (if t451 = true then (laws_eqMotionS.l0 k x0 x1 (wrap64 (x5 + 1))) else (some false))) else (none)) else (none)) else (some true)
def laws_eqMotionS.f (k : Nat) (l0 : List (S36)) (l1 : List (S36)) : Option (Bool) := if (l0.length : Int) = (l1.length : Int) then (laws_eqMotionS.l0 k l0 l1 0) else (some false)
def laws_eqMotionS.T6 : Bool × List (List Nat × List Nat) := (true, [([], []), ([], []), ([0, 1], [0, 1]), ([2], [2]), ([], []), ([], []), ([4, 5], [4, 5]), ([6], [6]), ([3, 7], [3, 7]), ([8], [8])])
def laws_eqMotionS.B6 : List Nat := [0, 0, 3, 7, 0, 0, 48, 112, 255, 511]
theorem laws_eqMotionS.tab6 : rtab .any (opsOf Try.f20 6) = laws_eqMotionS.T6 := by kernel_rfl
theorem laws_eqMotionS.bits6 : waitsOk laws_eqMotionS.T6.2 laws_eqMotionS.B6 = true := by kernel_rfl
set_option maxHeartbeats 8000000 in
set_option maxRecDepth 100000 in
theorem laws_eqMotionS.calls (k : Nat) (A0 : Option Addr) (c0 : Nat) (l0 : List (S36)) (A1 : Option Addr) (c1 : Nat) (l1 : List (S36)) (r : Bool) (w : World) (hr0 : Kd.C k36 w A0 l0.length l0) (hc0 : l0.length ≤ c0) (hr1 : Kd.C k36 w A1 l1.length l1) (hc1 : l1.length ≤ c1) (h : laws_eqMotionS.f k l0 l1 = some r) :
  Calls Try.prog 20 #[.slice A0 l0.length c0, .slice A1 l1.length c1] w fun e w' => e = .returned (.bool r) ∧ Below w.heap.size w w' := by
 have hu36 := Try.underlying36
 have HR0 := Aside0.mk hr0
 have HC0 := Aside0.mk hc0
 clear hr0 hc0
 have HR1 := Aside0.mk hr1
 have HC1 := Aside0.mk hc1
 clear hr1 hc1
 have HB := Aside0.mk (Below.refl w.heap.size w)
 have H : (if (l0.length : Int) = (l1.length : Int) then (laws_eqMotionS.l0 k l0 l1 0) else (some false)) = some r := h
 clear h
 by_cases c3 : (l0.length : Int) = (l1.length : Int)
 ·rw [if_pos c3] at H
  have c3b0 : ((l0.length : Int) == (l1.length : Int)) = true := beq_iff_eq.mpr c3
  have c3b1 : ((l0.length : Int) != (l1.length : Int)) = false := bne_eq_false_iff_eq.mpr c3
  have c3b2 : (l0.length == l1.length) = true := by first | simpa using c3 | (simp at c3 ⊢; omega)
  clear c3
  have H' := Aside0.mk H
  clear H
  go_enter Try.func20, Try.ntmps20
  go_wp2
  go_loopg [5] k (fun kq v5 w' => ∃ (x5_1 : Int), v5 = .int .i64 x5_1 ∧ Aside0 (laws_eqMotionS.l0 kq l0 l1 x5_1 = some r) ∧ Aside0 (kq ≤ k) ∧ Aside0 (Below w.heap.size w w'))
  case atStart => exact ⟨(0), (by first | rfl | (simp; done) | (simp [*]; done)), H', ⟨Nat.le_refl _⟩, ⟨bbw0 HB⟩⟩
  case round =>
   clear H'
   try clear c1
   try clear c2
   try clear p2
   try clear c3
   try clear c3b0
   try clear c3b1
   try clear c3b2
   obtain ⟨x5_1, rfl, HA, HK1, HB⟩ := hrel
   cases gk with
   | zero => exact absurd HA.out (by simp [laws_eqMotionS.l0])
   | succ k1 =>
    have H := HA.out
    clear HA
    simp only [laws_eqMotionS.l0] at H
    by_cases c4 : x5_1 < (l0.length : Int)
    ·rw [if_pos c4] at H
     have c4b0 : decide (x5_1 < (l0.length : Int)) = true := decide_eq_true c4
     clear c4
     by_cases c5 : 0 ≤ x5_1
     ·rw [if_pos c5] at H
      have c5b0 : decide (0 ≤ x5_1) = true := decide_eq_true c5
      clear c5
      by_cases c6 : x5_1 < (l1.length : Int)
      ·rw [if_pos c6] at H
       have c6b0 : decide (x5_1 < (l1.length : Int)) = true := decide_eq_true c6
       clear c6
       replace H := Option.bind_eq_some_iff.mp H
       obtain ⟨t451, A70, H⟩ := H
       replace H : (if t451 = true then (laws_eqMotionS.l0 k1 l0 l1 (wrap64 (x5_1 + 1))) else (some false)) = some r := H
       have A7 := Aside0.mk A70
       clear A70
       by_cases c8 : t451 = true
       ·subst c8
        have H1 : (laws_eqMotionS.l0 k1 l0 l1 (wrap64 (x5_1 + 1))) = some r := by rw [if_pos rfl] at H; first | done | exact H
        clear H
        have H := H1
        clear H1
        have H' := Aside0.mk H
        clear H
        try go_wp2
        have n0_ := Aside0.mk (below_drew1 HB.out)
        clear HB
        have HB := n0_
        clear n0_
        have p449 : 0 ≤ (x5_1 : Int) := of_decide_eq_true (by first | (with_reducible assumption) | assumption)
        have q449 : x5_1 < (l0.length : Int) := of_decide_eq_true (by first | (with_reducible assumption) | assumption)
        obtain ⟨ad449, e449, hx449_0, hx449_1, hx449_2, hx449_3, hx449_4, hx449_5⟩ := at_T36 HR0.out x5_1 p449 q449
        have hw449_5 := hx449_5
        have hw449_4 := hx449_4
        have hw449_3 := hx449_3
        have hw449_2 := hx449_2
        have hw449_1 := hx449_1
        have hw449_0 := hx449_0
        cases e449
        replace hx449_0 := (HB.out.cell (World.block_lt_of_cell? w _ hx449_0)).trans hx449_0
        replace hx449_1 := (HB.out.cell (World.block_lt_of_cell? w _ hx449_1)).trans hx449_1
        replace hx449_2 := (HB.out.cell (World.block_lt_of_cell? w _ hx449_2)).trans hx449_2
        replace hx449_3 := (HB.out.cell (World.block_lt_of_cell? w _ hx449_3)).trans hx449_3
        replace hx449_4 := (HB.out.cell (World.block_lt_of_cell? w _ hx449_4)).trans hx449_4
        replace hx449_5 := (HB.out.cell (World.block_lt_of_cell? w _ hx449_5)).trans hx449_5
        replace p449 := eq_true p449
        replace q449 := eq_true q449
        have p450 : 0 ≤ (x5_1 : Int) := of_decide_eq_true (by first | (with_reducible assumption) | assumption)
        have q450 : x5_1 < (l1.length : Int) := of_decide_eq_true (by first | (with_reducible assumption) | assumption)
        obtain ⟨ad450, e450, hx450_0, hx450_1, hx450_2, hx450_3, hx450_4, hx450_5⟩ := at_T36 HR1.out x5_1 p450 q450
        have hw450_5 := hx450_5
        have hw450_4 := hx450_4
        have hw450_3 := hx450_3
        have hw450_2 := hx450_2
        have hw450_1 := hx450_1
        have hw450_0 := hx450_0
        cases e450
        replace hx450_0 := (HB.out.cell (World.block_lt_of_cell? w _ hx450_0)).trans hx450_0
        replace hx450_1 := (HB.out.cell (World.block_lt_of_cell? w _ hx450_1)).trans hx450_1
        replace hx450_2 := (HB.out.cell (World.block_lt_of_cell? w _ hx450_2)).trans hx450_2
        replace hx450_3 := (HB.out.cell (World.block_lt_of_cell? w _ hx450_3)).trans hx450_3
        replace hx450_4 := (HB.out.cell (World.block_lt_of_cell? w _ hx450_4)).trans hx450_4
        replace hx450_5 := (HB.out.cell (World.block_lt_of_cell? w _ hx450_5)).trans hx450_5
        replace p450 := eq_true p450
        replace q450 := eq_true q450
        refine start_ (n := 10) (S := fun w' => w'.cell? (ad449.add ((x5_1).toNat * 6)) = some (.int .i64 ((rd_T36 l0 x5_1).f0.f0)) ∧ w'.cell? ⟨(ad449.add ((x5_1).toNat * 6)).block, (ad449.add ((x5_1).toNat * 6)).off + 1, none⟩ = some (.int .i64 ((rd_T36 l0 x5_1).f0.f1)) ∧ w'.cell? ⟨(ad449.add ((x5_1).toNat * 6)).block, (ad449.add ((x5_1).toNat * 6)).off + 2, none⟩ = some (.int .i64 ((rd_T36 l0 x5_1).f0.f2)) ∧ w'.cell? ⟨(ad449.add ((x5_1).toNat * 6)).block, (ad449.add ((x5_1).toNat * 6)).off + 3, none⟩ = some (.int .i64 ((rd_T36 l0 x5_1).f0.f3)) ∧ w'.cell? ⟨(ad449.add ((x5_1).toNat * 6)).block, (ad449.add ((x5_1).toNat * 6)).off + 4, none⟩ = some (.int .i64 ((rd_T36 l0 x5_1).f1.f0)) ∧ w'.cell? ⟨(ad449.add ((x5_1).toNat * 6)).block, (ad449.add ((x5_1).toNat * 6)).off + 5, none⟩ = some (.int .i64 ((rd_T36 l0 x5_1).f1.f1)) ∧ w'.cell? (ad450.add ((x5_1).toNat * 6)) = some (.int .i64 ((rd_T36 l1 x5_1).f0.f0)) ∧ w'.cell? ⟨(ad450.add ((x5_1).toNat * 6)).block, (ad450.add ((x5_1).toNat * 6)).off + 1, none⟩ = some (.int .i64 ((rd_T36 l1 x5_1).f0.f1)) ∧ w'.cell? ⟨(ad450.add ((x5_1).toNat * 6)).block, (ad450.add ((x5_1).toNat * 6)).off + 2, none⟩ = some (.int .i64 ((rd_T36 l1 x5_1).f0.f2)) ∧ w'.cell? ⟨(ad450.add ((x5_1).toNat * 6)).block, (ad450.add ((x5_1).toNat * 6)).off + 3, none⟩ = some (.int .i64 ((rd_T36 l1 x5_1).f0.f3)) ∧ w'.cell? ⟨(ad450.add ((x5_1).toNat * 6)).block, (ad450.add ((x5_1).toNat * 6)).off + 4, none⟩ = some (.int .i64 ((rd_T36 l1 x5_1).f1.f0)) ∧ w'.cell? ⟨(ad450.add ((x5_1).toNat * 6)).block, (ad450.add ((x5_1).toNat * 6)).off + 5, none⟩ = some (.int .i64 ((rd_T36 l1 x5_1).f1.f1))) (ds := []) #[false, false, false, false, false, false, false, false, false, false] (by kernel_rfl) rfl rfl ⟨((HB.out.cell (World.block_lt_of_cell? w _ hw449_0)).trans hw449_0), ((HB.out.cell (World.block_lt_of_cell? w _ hw449_1)).trans hw449_1), ((HB.out.cell (World.block_lt_of_cell? w _ hw449_2)).trans hw449_2), ((HB.out.cell (World.block_lt_of_cell? w _ hw449_3)).trans hw449_3), ((HB.out.cell (World.block_lt_of_cell? w _ hw449_4)).trans hw449_4), ((HB.out.cell (World.block_lt_of_cell? w _ hw449_5)).trans hw449_5), ((HB.out.cell (World.block_lt_of_cell? w _ hw450_0)).trans hw450_0), ((HB.out.cell (World.block_lt_of_cell? w _ hw450_1)).trans hw450_1), ((HB.out.cell (World.block_lt_of_cell? w _ hw450_2)).trans hw450_2), ((HB.out.cell (World.block_lt_of_cell? w _ hw450_3)).trans hw450_3), ((HB.out.cell (World.block_lt_of_cell? w _ hw450_4)).trans hw450_4), ((HB.out.cell (World.block_lt_of_cell? w _ hw450_5)).trans hw450_5)⟩ (fun hHeld => ?_); refine with_tabW laws_eqMotionS.tab6 laws_eqMotionS.bits6 (fun HT_ HW_ => ?_)
        generalize wr.drew = w9 at HB hx449_0 hx449_1 hx449_2 hx449_3 hx449_4 hx449_5 hx450_0 hx450_1 hx450_2 hx450_3 hx450_4 hx450_5 hHeld ⊢
        refine pure_ (i := 0) (N := some 17) (v := ?_) (a' := ?_) #[true, false, false, false, false, false, false, false, false, false] rfl rfl (any_of HT_.out (by kernel_rfl)) (fun _ _ _ h => h) (Or.inl ⟨by rfl, ?_⟩) ?_ ?_
        rotate_left
        ·intro w'
         go_simp
         with_reducible rfl
        rotate_left
        ·simp only [Act.put, sA, sB, sC, i64_w, i32_w]
         rfl
        refine pure_ (i := 1) (N := some 18) (v := ?_) (a' := ?_) #[true, true, false, false, false, false, false, false, false, false] rfl rfl (any_of HT_.out (by kernel_rfl)) (fun _ _ _ h => h) (Or.inl ⟨by rfl, ?_⟩) ?_ ?_
        rotate_left
        ·intro w'
         go_simp
         with_reducible rfl
        rotate_left
        ·simp only [Act.put, sA, sB, sC, i64_w, i32_w]
         rfl
        refine pure_ (i := 2) (N := some 19) (v := ?_) (a' := ?_) #[true, true, true, false, false, false, false, false, false, false] rfl rfl (any_of HT_.out (by kernel_rfl)) (fun _ _ _ h => h) (Or.inl ⟨by rfl, ?_⟩) ?_ ?_
        rotate_left
        ·intro w'
         go_simp
         with_reducible rfl
        rotate_left
        ·simp only [Act.put, sA, sB, sC, i64_w, i32_w]
         rfl
        refine pure_ (i := 4) (N := some 21) (v := ?_) (a' := ?_) #[true, true, true, false, true, false, false, false, false, false] rfl rfl (any_of HT_.out (by kernel_rfl)) (fun _ _ _ h => h) (Or.inl ⟨by rfl, ?_⟩) ?_ ?_
        rotate_left
        ·intro w'
         go_simp
         with_reducible rfl
        rotate_left
        ·simp only [Act.put, sA, sB, sC, i64_w, i32_w]
         rfl
        refine pure_ (i := 5) (N := some 22) (v := ?_) (a' := ?_) #[true, true, true, false, true, true, false, false, false, false] rfl rfl (any_of HT_.out (by kernel_rfl)) (fun _ _ _ h => h) (Or.inl ⟨by rfl, ?_⟩) ?_ ?_
        rotate_left
        ·intro w'
         go_simp
         with_reducible rfl
        rotate_left
        ·simp only [Act.put, sA, sB, sC, i64_w, i32_w]
         rfl
        refine pure_ (i := 6) (N := some 23) (v := ?_) (a' := ?_) #[true, true, true, false, true, true, true, false, false, false] rfl rfl (any_of HT_.out (by kernel_rfl)) (fun _ _ _ h => h) (Or.inl ⟨by rfl, ?_⟩) ?_ ?_
        rotate_left
        ·intro w'
         go_simp
         with_reducible rfl
        rotate_left
        ·simp only [Act.put, sA, sB, sC, i64_w, i32_w]
         rfl
        refine take_ (i := 3) (N := some 20) (v := ?_) (a' := ?_) #[true, true, true, true, true, true, true, false, false, false] rfl rfl (take_ofW HT_.out HW_.out (by kernel_rfl)) (fun _ _ _ h => h) (Or.inl ⟨by rfl, ?_⟩) hHeld ?_ ?_
        rotate_left
        ·rintro w' ⟨s0, s1, s2, s3, s4, s5, s6, s7, s8, s9, s10, s11⟩
         go_simp
         with_reducible rfl
        rotate_left
        ·simp only [Act.put, sA, sB, sC, i64_w, i32_w]
         rfl
        refine take_ (i := 7) (N := some 24) (v := ?_) (a' := ?_) #[true, true, true, true, true, true, true, true, false, false] rfl rfl (take_ofW HT_.out HW_.out (by kernel_rfl)) (fun _ _ _ h => h) (Or.inl ⟨by rfl, ?_⟩) hHeld ?_ ?_
        rotate_left
        ·rintro w' ⟨s0, s1, s2, s3, s4, s5, s6, s7, s8, s9, s10, s11⟩
         go_simp
         with_reducible rfl
        rotate_left
        ·simp only [Act.put, sA, sB, sC, i64_w, i32_w]
         rfl
        refine one_ (i := 8) (N := some 25) #[true, true, true, true, true, true, true, true, true, false] rfl rfl (one_of HT_.out (by kernel_rfl)) (by decide) (fun K hK => ?_)
        refine goes_ Try.func17 (by kernel_rfl) rfl #[.agg #[.int .i64 ((rd_T36 l0 x5_1).f0.f0), .int .i64 ((rd_T36 l0 x5_1).f0.f1), .int .i64 ((rd_T36 l0 x5_1).f0.f2), .int .i64 ((rd_T36 l0 x5_1).f0.f3), .int .i64 ((rd_T36 l0 x5_1).f1.f0), .int .i64 ((rd_T36 l0 x5_1).f1.f1)], .agg #[.int .i64 ((rd_T36 l1 x5_1).f0.f0), .int .i64 ((rd_T36 l1 x5_1).f0.f1), .int .i64 ((rd_T36 l1 x5_1).f0.f2), .int .i64 ((rd_T36 l1 x5_1).f0.f3), .int .i64 ((rd_T36 l1 x5_1).f1.f0), .int .i64 ((rd_T36 l1 x5_1).f1.f1)]] (by rfl) rfl rfl (by (try simp only [List.map_toArray, List.map_cons, List.map_nil]); first | done | rfl | (simp only [List.length_drop, List.length_take]; rfl)) ?_
        with_reducible refine (laws_eqMotion.calls ((rd_T36 l0 x5_1).f0.f0) ((rd_T36 l0 x5_1).f0.f1) ((rd_T36 l0 x5_1).f0.f2) ((rd_T36 l0 x5_1).f0.f3) ((rd_T36 l0 x5_1).f1.f0) ((rd_T36 l0 x5_1).f1.f1) ((rd_T36 l1 x5_1).f0.f0) ((rd_T36 l1 x5_1).f0.f1) ((rd_T36 l1 x5_1).f0.f2) ((rd_T36 l1 x5_1).f0.f3) ((rd_T36 l1 x5_1).f1.f0) ((rd_T36 l1 x5_1).f1.f1) true _ A7.out).mono ?_
        rintro e w10 ⟨rfl, hb⟩
        refine ⟨_, rfl, ?_⟩
        have n0_ := Aside0.mk (bst0 HB hb)
        clear HB
        have HB := n0_
        clear n0_
        (try clear hb)
        (try clear hb2)
        (try clear hk)
        (try clear hi)
        refine hK.out _ _ ⟨((HB.out.cell (World.block_lt_of_cell? w _ hw449_0)).trans hw449_0), ((HB.out.cell (World.block_lt_of_cell? w _ hw449_1)).trans hw449_1), ((HB.out.cell (World.block_lt_of_cell? w _ hw449_2)).trans hw449_2), ((HB.out.cell (World.block_lt_of_cell? w _ hw449_3)).trans hw449_3), ((HB.out.cell (World.block_lt_of_cell? w _ hw449_4)).trans hw449_4), ((HB.out.cell (World.block_lt_of_cell? w _ hw449_5)).trans hw449_5), ((HB.out.cell (World.block_lt_of_cell? w _ hw450_0)).trans hw450_0), ((HB.out.cell (World.block_lt_of_cell? w _ hw450_1)).trans hw450_1), ((HB.out.cell (World.block_lt_of_cell? w _ hw450_2)).trans hw450_2), ((HB.out.cell (World.block_lt_of_cell? w _ hw450_3)).trans hw450_3), ((HB.out.cell (World.block_lt_of_cell? w _ hw450_4)).trans hw450_4), ((HB.out.cell (World.block_lt_of_cell? w _ hw450_5)).trans hw450_5)⟩ (fun hHeld => ?_)
        clear hK K
        refine norm_ (a' := ?_) ?_ ?_
        rotate_left
        ·show Act.put _ (some 25) _ = _
         simp only [Act.put, sA, sB, sC, i64_w, i32_w]
         rfl
        refine pure_ (i := 9) (N := some 26) (v := ?_) (a' := ?_) #[true, true, true, true, true, true, true, true, true, true] rfl rfl (any_of HT_.out (by kernel_rfl)) (fun _ _ _ h => h) (Or.inl ⟨by rfl, ?_⟩) ?_ ?_
        rotate_left
        ·intro w'
         go_simp
         with_reducible rfl
        rotate_left
        ·simp only [Act.put, sA, sB, sC, i64_w, i32_w]
         rfl
        refine done_ (done_of HT_.out (by kernel_rfl)) ?_
        try go_wp2
        go_roundg k1
        case measure => have := HK1.out; omega
        case rel => exact ⟨(wrap64 (x5_1 + 1)), (by first | rfl | (simp; done) | (simp [*]; done)), H', ⟨by have := HK1.out; omega⟩, ⟨bbw0 HB⟩⟩
       ·replace c8 := Bool.eq_false_iff.mpr c8
        subst c8
        have H1 : (some false) = some r := by rw [if_neg (show ¬ (false = true) by decide)] at H; first | done | exact H
        clear H
        have H := H1
        clear H1
        obtain rfl := Option.some.inj H
        try go_wp2
        have n0_ := Aside0.mk (below_drew1 HB.out)
        clear HB
        have HB := n0_
        clear n0_
        have p449 : 0 ≤ (x5_1 : Int) := of_decide_eq_true (by first | (with_reducible assumption) | assumption)
        have q449 : x5_1 < (l0.length : Int) := of_decide_eq_true (by first | (with_reducible assumption) | assumption)
        obtain ⟨ad449, e449, hx449_0, hx449_1, hx449_2, hx449_3, hx449_4, hx449_5⟩ := at_T36 HR0.out x5_1 p449 q449
        have hw449_5 := hx449_5
        have hw449_4 := hx449_4
        have hw449_3 := hx449_3
        have hw449_2 := hx449_2
        have hw449_1 := hx449_1
        have hw449_0 := hx449_0
        cases e449
        replace hx449_0 := (HB.out.cell (World.block_lt_of_cell? w _ hx449_0)).trans hx449_0
        replace hx449_1 := (HB.out.cell (World.block_lt_of_cell? w _ hx449_1)).trans hx449_1
        replace hx449_2 := (HB.out.cell (World.block_lt_of_cell? w _ hx449_2)).trans hx449_2
        replace hx449_3 := (HB.out.cell (World.block_lt_of_cell? w _ hx449_3)).trans hx449_3
        replace hx449_4 := (HB.out.cell (World.block_lt_of_cell? w _ hx449_4)).trans hx449_4
        replace hx449_5 := (HB.out.cell (World.block_lt_of_cell? w _ hx449_5)).trans hx449_5
        replace p449 := eq_true p449
        replace q449 := eq_true q449
        have p450 : 0 ≤ (x5_1 : Int) := of_decide_eq_true (by first | (with_reducible assumption) | assumption)
        have q450 : x5_1 < (l1.length : Int) := of_decide_eq_true (by first | (with_reducible assumption) | assumption)
        obtain ⟨ad450, e450, hx450_0, hx450_1, hx450_2, hx450_3, hx450_4, hx450_5⟩ := at_T36 HR1.out x5_1 p450 q450
        have hw450_5 := hx450_5
        have hw450_4 := hx450_4
        have hw450_3 := hx450_3
        have hw450_2 := hx450_2
        have hw450_1 := hx450_1
        have hw450_0 := hx450_0
        cases e450
        replace hx450_0 := (HB.out.cell (World.block_lt_of_cell? w _ hx450_0)).trans hx450_0
        replace hx450_1 := (HB.out.cell (World.block_lt_of_cell? w _ hx450_1)).trans hx450_1
        replace hx450_2 := (HB.out.cell (World.block_lt_of_cell? w _ hx450_2)).trans hx450_2
        replace hx450_3 := (HB.out.cell (World.block_lt_of_cell? w _ hx450_3)).trans hx450_3
        replace hx450_4 := (HB.out.cell (World.block_lt_of_cell? w _ hx450_4)).trans hx450_4
        replace hx450_5 := (HB.out.cell (World.block_lt_of_cell? w _ hx450_5)).trans hx450_5
        replace p450 := eq_true p450
        replace q450 := eq_true q450
        refine start_ (n := 10) (S := fun w' => w'.cell? (ad449.add ((x5_1).toNat * 6)) = some (.int .i64 ((rd_T36 l0 x5_1).f0.f0)) ∧ w'.cell? ⟨(ad449.add ((x5_1).toNat * 6)).block, (ad449.add ((x5_1).toNat * 6)).off + 1, none⟩ = some (.int .i64 ((rd_T36 l0 x5_1).f0.f1)) ∧ w'.cell? ⟨(ad449.add ((x5_1).toNat * 6)).block, (ad449.add ((x5_1).toNat * 6)).off + 2, none⟩ = some (.int .i64 ((rd_T36 l0 x5_1).f0.f2)) ∧ w'.cell? ⟨(ad449.add ((x5_1).toNat * 6)).block, (ad449.add ((x5_1).toNat * 6)).off + 3, none⟩ = some (.int .i64 ((rd_T36 l0 x5_1).f0.f3)) ∧ w'.cell? ⟨(ad449.add ((x5_1).toNat * 6)).block, (ad449.add ((x5_1).toNat * 6)).off + 4, none⟩ = some (.int .i64 ((rd_T36 l0 x5_1).f1.f0)) ∧ w'.cell? ⟨(ad449.add ((x5_1).toNat * 6)).block, (ad449.add ((x5_1).toNat * 6)).off + 5, none⟩ = some (.int .i64 ((rd_T36 l0 x5_1).f1.f1)) ∧ w'.cell? (ad450.add ((x5_1).toNat * 6)) = some (.int .i64 ((rd_T36 l1 x5_1).f0.f0)) ∧ w'.cell? ⟨(ad450.add ((x5_1).toNat * 6)).block, (ad450.add ((x5_1).toNat * 6)).off + 1, none⟩ = some (.int .i64 ((rd_T36 l1 x5_1).f0.f1)) ∧ w'.cell? ⟨(ad450.add ((x5_1).toNat * 6)).block, (ad450.add ((x5_1).toNat * 6)).off + 2, none⟩ = some (.int .i64 ((rd_T36 l1 x5_1).f0.f2)) ∧ w'.cell? ⟨(ad450.add ((x5_1).toNat * 6)).block, (ad450.add ((x5_1).toNat * 6)).off + 3, none⟩ = some (.int .i64 ((rd_T36 l1 x5_1).f0.f3)) ∧ w'.cell? ⟨(ad450.add ((x5_1).toNat * 6)).block, (ad450.add ((x5_1).toNat * 6)).off + 4, none⟩ = some (.int .i64 ((rd_T36 l1 x5_1).f1.f0)) ∧ w'.cell? ⟨(ad450.add ((x5_1).toNat * 6)).block, (ad450.add ((x5_1).toNat * 6)).off + 5, none⟩ = some (.int .i64 ((rd_T36 l1 x5_1).f1.f1))) (ds := []) #[false, false, false, false, false, false, false, false, false, false] (by kernel_rfl) rfl rfl ⟨((HB.out.cell (World.block_lt_of_cell? w _ hw449_0)).trans hw449_0), ((HB.out.cell (World.block_lt_of_cell? w _ hw449_1)).trans hw449_1), ((HB.out.cell (World.block_lt_of_cell? w _ hw449_2)).trans hw449_2), ((HB.out.cell (World.block_lt_of_cell? w _ hw449_3)).trans hw449_3), ((HB.out.cell (World.block_lt_of_cell? w _ hw449_4)).trans hw449_4), ((HB.out.cell (World.block_lt_of_cell? w _ hw449_5)).trans hw449_5), ((HB.out.cell (World.block_lt_of_cell? w _ hw450_0)).trans hw450_0), ((HB.out.cell (World.block_lt_of_cell? w _ hw450_1)).trans hw450_1), ((HB.out.cell (World.block_lt_of_cell? w _ hw450_2)).trans hw450_2), ((HB.out.cell (World.block_lt_of_cell? w _ hw450_3)).trans hw450_3), ((HB.out.cell (World.block_lt_of_cell? w _ hw450_4)).trans hw450_4), ((HB.out.cell (World.block_lt_of_cell? w _ hw450_5)).trans hw450_5)⟩ (fun hHeld => ?_); refine with_tabW laws_eqMotionS.tab6 laws_eqMotionS.bits6 (fun HT_ HW_ => ?_)
        generalize wr.drew = w11 at HB hx449_0 hx449_1 hx449_2 hx449_3 hx449_4 hx449_5 hx450_0 hx450_1 hx450_2 hx450_3 hx450_4 hx450_5 hHeld ⊢
        refine pure_ (i := 0) (N := some 17) (v := ?_) (a' := ?_) #[true, false, false, false, false, false, false, false, false, false] rfl rfl (any_of HT_.out (by kernel_rfl)) (fun _ _ _ h => h) (Or.inl ⟨by rfl, ?_⟩) ?_ ?_
        rotate_left
        ·intro w'
         go_simp
         with_reducible rfl
        rotate_left
        ·simp only [Act.put, sA, sB, sC, i64_w, i32_w]
         rfl
        refine pure_ (i := 1) (N := some 18) (v := ?_) (a' := ?_) #[true, true, false, false, false, false, false, false, false, false] rfl rfl (any_of HT_.out (by kernel_rfl)) (fun _ _ _ h => h) (Or.inl ⟨by rfl, ?_⟩) ?_ ?_
        rotate_left
        ·intro w'
         go_simp
         with_reducible rfl
        rotate_left
        ·simp only [Act.put, sA, sB, sC, i64_w, i32_w]
         rfl
        refine pure_ (i := 2) (N := some 19) (v := ?_) (a' := ?_) #[true, true, true, false, false, false, false, false, false, false] rfl rfl (any_of HT_.out (by kernel_rfl)) (fun _ _ _ h => h) (Or.inl ⟨by rfl, ?_⟩) ?_ ?_
        rotate_left
        ·intro w'
         go_simp
         with_reducible rfl
        rotate_left
        ·simp only [Act.put, sA, sB, sC, i64_w, i32_w]
         rfl
        refine pure_ (i := 4) (N := some 21) (v := ?_) (a' := ?_) #[true, true, true, false, true, false, false, false, false, false] rfl rfl (any_of HT_.out (by kernel_rfl)) (fun _ _ _ h => h) (Or.inl ⟨by rfl, ?_⟩) ?_ ?_
        rotate_left
        ·intro w'
         go_simp
         with_reducible rfl
        rotate_left
        ·simp only [Act.put, sA, sB, sC, i64_w, i32_w]
         rfl
        refine pure_ (i := 5) (N := some 22) (v := ?_) (a' := ?_) #[true, true, true, false, true, true, false, false, false, false] rfl rfl (any_of HT_.out (by kernel_rfl)) (fun _ _ _ h => h) (Or.inl ⟨by rfl, ?_⟩) ?_ ?_
        rotate_left
        ·intro w'
         go_simp
         with_reducible rfl
        rotate_left
        ·simp only [Act.put, sA, sB, sC, i64_w, i32_w]
         rfl
        refine pure_ (i := 6) (N := some 23) (v := ?_) (a' := ?_) #[true, true, true, false, true, true, true, false, false, false] rfl rfl (any_of HT_.out (by kernel_rfl)) (fun _ _ _ h => h) (Or.inl ⟨by rfl, ?_⟩) ?_ ?_
        rotate_left
        ·intro w'
         go_simp
         with_reducible rfl
        rotate_left
        ·simp only [Act.put, sA, sB, sC, i64_w, i32_w]
         rfl
        refine take_ (i := 3) (N := some 20) (v := ?_) (a' := ?_) #[true, true, true, true, true, true, true, false, false, false] rfl rfl (take_ofW HT_.out HW_.out (by kernel_rfl)) (fun _ _ _ h => h) (Or.inl ⟨by rfl, ?_⟩) hHeld ?_ ?_
        rotate_left
        ·rintro w' ⟨s0, s1, s2, s3, s4, s5, s6, s7, s8, s9, s10, s11⟩
         go_simp
         with_reducible rfl
        rotate_left
        ·simp only [Act.put, sA, sB, sC, i64_w, i32_w]
         rfl
        refine take_ (i := 7) (N := some 24) (v := ?_) (a' := ?_) #[true, true, true, true, true, true, true, true, false, false] rfl rfl (take_ofW HT_.out HW_.out (by kernel_rfl)) (fun _ _ _ h => h) (Or.inl ⟨by rfl, ?_⟩) hHeld ?_ ?_
        rotate_left
        ·rintro w' ⟨s0, s1, s2, s3, s4, s5, s6, s7, s8, s9, s10, s11⟩
         go_simp
         with_reducible rfl
        rotate_left
        ·simp only [Act.put, sA, sB, sC, i64_w, i32_w]
         rfl
        refine one_ (i := 8) (N := some 25) #[true, true, true, true, true, true, true, true, true, false] rfl rfl (one_of HT_.out (by kernel_rfl)) (by decide) (fun K hK => ?_)
        refine goes_ Try.func17 (by kernel_rfl) rfl #[.agg #[.int .i64 ((rd_T36 l0 x5_1).f0.f0), .int .i64 ((rd_T36 l0 x5_1).f0.f1), .int .i64 ((rd_T36 l0 x5_1).f0.f2), .int .i64 ((rd_T36 l0 x5_1).f0.f3), .int .i64 ((rd_T36 l0 x5_1).f1.f0), .int .i64 ((rd_T36 l0 x5_1).f1.f1)], .agg #[.int .i64 ((rd_T36 l1 x5_1).f0.f0), .int .i64 ((rd_T36 l1 x5_1).f0.f1), .int .i64 ((rd_T36 l1 x5_1).f0.f2), .int .i64 ((rd_T36 l1 x5_1).f0.f3), .int .i64 ((rd_T36 l1 x5_1).f1.f0), .int .i64 ((rd_T36 l1 x5_1).f1.f1)]] (by rfl) rfl rfl (by (try simp only [List.map_toArray, List.map_cons, List.map_nil]); first | done | rfl | (simp only [List.length_drop, List.length_take]; rfl)) ?_
        with_reducible refine (laws_eqMotion.calls ((rd_T36 l0 x5_1).f0.f0) ((rd_T36 l0 x5_1).f0.f1) ((rd_T36 l0 x5_1).f0.f2) ((rd_T36 l0 x5_1).f0.f3) ((rd_T36 l0 x5_1).f1.f0) ((rd_T36 l0 x5_1).f1.f1) ((rd_T36 l1 x5_1).f0.f0) ((rd_T36 l1 x5_1).f0.f1) ((rd_T36 l1 x5_1).f0.f2) ((rd_T36 l1 x5_1).f0.f3) ((rd_T36 l1 x5_1).f1.f0) ((rd_T36 l1 x5_1).f1.f1) false _ A7.out).mono ?_
        rintro e w12 ⟨rfl, hb⟩
        refine ⟨_, rfl, ?_⟩
        have n0_ := Aside0.mk (bst0 HB hb)
        clear HB
        have HB := n0_
        clear n0_
        (try clear hb)
        (try clear hb2)
        (try clear hk)
        (try clear hi)
        refine hK.out _ _ ⟨((HB.out.cell (World.block_lt_of_cell? w _ hw449_0)).trans hw449_0), ((HB.out.cell (World.block_lt_of_cell? w _ hw449_1)).trans hw449_1), ((HB.out.cell (World.block_lt_of_cell? w _ hw449_2)).trans hw449_2), ((HB.out.cell (World.block_lt_of_cell? w _ hw449_3)).trans hw449_3), ((HB.out.cell (World.block_lt_of_cell? w _ hw449_4)).trans hw449_4), ((HB.out.cell (World.block_lt_of_cell? w _ hw449_5)).trans hw449_5), ((HB.out.cell (World.block_lt_of_cell? w _ hw450_0)).trans hw450_0), ((HB.out.cell (World.block_lt_of_cell? w _ hw450_1)).trans hw450_1), ((HB.out.cell (World.block_lt_of_cell? w _ hw450_2)).trans hw450_2), ((HB.out.cell (World.block_lt_of_cell? w _ hw450_3)).trans hw450_3), ((HB.out.cell (World.block_lt_of_cell? w _ hw450_4)).trans hw450_4), ((HB.out.cell (World.block_lt_of_cell? w _ hw450_5)).trans hw450_5)⟩ (fun hHeld => ?_)
        clear hK K
        refine norm_ (a' := ?_) ?_ ?_
        rotate_left
        ·show Act.put _ (some 25) _ = _
         simp only [Act.put, sA, sB, sC, i64_w, i32_w]
         rfl
        refine pure_ (i := 9) (N := some 26) (v := ?_) (a' := ?_) #[true, true, true, true, true, true, true, true, true, true] rfl rfl (any_of HT_.out (by kernel_rfl)) (fun _ _ _ h => h) (Or.inl ⟨by rfl, ?_⟩) ?_ ?_
        rotate_left
        ·intro w'
         go_simp
         with_reducible rfl
        rotate_left
        ·simp only [Act.put, sA, sB, sC, i64_w, i32_w]
         rfl
        refine done_ (done_of HT_.out (by kernel_rfl)) ?_
        try go_wp2
        go_ret
        exact ⟨by first | rfl | (simp [errW_none, errW_some] <;> rfl) | (simp [*, errW_none, errW_some] <;> rfl), bbw0 HB⟩
      ·rw [if_neg c6] at H
       exact absurd H (by simp)
     ·rw [if_neg c5] at H
      exact absurd H (by simp)
    ·rw [if_neg c4] at H
     have c4b0 : decide (x5_1 < (l0.length : Int)) = false := decide_eq_false c4
     clear c4
     obtain rfl := Option.some.inj H
     go_wp2
     go_ret
     exact ⟨by first | rfl | (simp [errW_none, errW_some] <;> rfl) | (simp [*, errW_none, errW_some] <;> rfl), bbw0 HB⟩
 ·rw [if_neg c3] at H
  have c3b0 : ((l0.length : Int) == (l1.length : Int)) = false := beq_eq_false_iff_ne.mpr c3
  have c3b1 : ((l0.length : Int) != (l1.length : Int)) = true := bne_iff_ne.mpr c3
  have c3b2 : (l0.length == l1.length) = false := by first | simpa using c3 | (simp at c3 ⊢; omega)
  obtain rfl := Option.some.inj H
  go_enter Try.func20, Try.ntmps20
  go_wp2
  go_ret
  exact ⟨by first | rfl | (simp [errW_none, errW_some] <;> rfl) | (simp [*, errW_none, errW_some] <;> rfl), bbw0 HB⟩
end Go.Proofs.Ytndfnaehpdkaiaa.PA
