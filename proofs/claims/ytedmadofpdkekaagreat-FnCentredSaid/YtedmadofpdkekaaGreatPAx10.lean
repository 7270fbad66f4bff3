/- Walks written by program: each Go function that the law reaches comes to the plain function beside it. -/
import Derived.Test.YtedmadofpdkekaaGreatPAx0
import Derived.Test.YtedmadofpdkekaaGreatPAx2
import Derived.Test.YtedmadofpdkekaaGreatPAx9
namespace Go.Proofs.YtedmadofpdkekaaGreat.PA
open Go.RowKit Go.Proofs.YtedmadofpdkekaaGreatW.PrintWords Go.Proofs.YtedmadofpdkekaaGreatW.PrintLast Go.Proofs.YtedmadofpdkekaaGreatW.PrintMore
attribute [local go_sem] max2_int min2_int max_two min_two max_three min_three max_four min_four   -- for this text's walks alone
set_option linter.unusedVariables false
set_option linter.unusedSimpArgs false

/-! ### impl_pointMats: function 85 -/
def impl_pointMats.l0 : Nat → Int → List (S27) → Int → Option ((List (S27)))
 | 0, _, _, _ => none
 | k + 1, x0, x3, x10 => if x10 < 81 then ((impl_Mat_apply.f (wrap64 ((wrap64 (Int.tdiv x10 27)) - 1)) (wrap64 ((Int.tmod (wrap64 (Int.tdiv x10 9)) 3) - 1)) (wrap64 ((Int.tmod (wrap64 (Int.tdiv x10 3)) 3) - 1)) (wrap64 ((Int.tmod x10 3) - 1)) 1 0).bind fun bt361 => ((impl_Mat_apply.f (wrap64 ((wrap64 (Int.tdiv x10 27)) - 1)) (wrap64 ((Int.tmod (wrap64 (Int.tdiv x10 9)) 3) - 1)) (wrap64 ((Int.tmod (wrap64 (Int.tdiv x10 3)) 3) - 1)) (wrap64 ((Int.tmod x10 3) - 1)) 0 1).bind fun bt363 => ((impl_Mat_apply.f (wrap64 ((wrap64 (Int.tdiv x10 27)) - 1)) (wrap64 ((Int.tmod (wrap64 (Int.tdiv x10 9)) 3) - 1)) (wrap64 ((Int.tmod (wrap64 (Int.tdiv x10 3)) 3) - 1)) (wrap64 ((Int.tmod x10 3) - 1)) 1 1).bind fun bt365 => ((impl_norm.f x0 bt361.1 bt361.2).bind fun t370 => (if t370 = 1 then ((impl_norm.f x0 bt363.1 bt363.2).bind fun t371 => (if t371 = 1 then ((impl_norm.f x0 bt365.1 bt365.2).bind fun t372 => (if t372 = (wrap64 (2 + x0)) then (if x3.length < 4398046511104 then (impl_pointMats.l0 k x0 (x3 ++ [(⟨wrap64 ((wrap64 (Int.tdiv x10 27)) - 1), wrap64 ((Int.tmod (wrap64 (Int.tdiv x10 9)) 3) - 1), wrap64 ((Int.tmod (wrap64 (Int.tdiv x10 3)) 3) - 1), wrap64 ((Int.tmod x10 3) - 1)⟩ : S27)]) (wrap64 (x10 + 1))) else (none)) else (impl_pointMats.l0 k x0 x3 (wrap64 (x10 + 1))))) else (impl_pointMats.l0 k x0 x3 (wrap64 (x10 + 1))))) else (impl_pointMats.l0 k x0 x3 (wrap64 (x10 + 1)))))))) else (some x3)
def impl_pointMats.f (k : Nat) (a0 : Int) : Option ((List (S27))) := impl_pointMats.l0 k a0 (([] : List (S27))) 0
def impl_pointMats.T6 : Bool × List (List Nat × List Nat) := (true, [([], []), ([], []), ([0, 1], [0, 1]), ([], []), ([], []), ([3, 4, 2], [3, 4]), ([], []), ([], []), ([6, 7, 5], [6, 7]), ([], []), ([], []), ([], []), ([9, 2, 8, 0, 1, 2, 9, 10, 11], [2, 9]), ([10, 5, 12, 0, 1, 2, 3, 4, 5, 9, 10, 11, 12], [5, 10]), ([11, 8, 13, 0, 1, 2, 3, 4, 5, 6, 7, 8, 9, 10, 11, 12, 13], [8, 11])])
def impl_pointMats.B6 : List Nat := [0, 0, 3, 0, 0, 31, 0, 0, 255, 0, 0, 0, 4095, 8191, 16383]
theorem impl_pointMats.tab6 : rtab .any (opsOf Tryz.f85 6) = impl_pointMats.T6 := by kernel_rfl
theorem impl_pointMats.bits6 : waitsOk impl_pointMats.T6.2 impl_pointMats.B6 = true := by kernel_rfl
set_option maxHeartbeats 8000000 in
set_option maxRecDepth 100000 in
theorem impl_pointMats.calls (k : Nat) (a0 : Int) (r : List (S27)) (w : World) (h : impl_pointMats.f k a0 = some r) :
  Calls Tryz.prog 85 #[.int .i64 a0] w fun e w' => ∃ v0_ : Value, e = .returned (v0_) ∧ Kd.R k27 27 w' w.heap.size (fun _ => True) v0_ r ∧ Below w.heap.size w w' := by
 have hu27 := Tryz.underlying27
 have hu31 := Tryz.underlying31
 have HB := asd (Below.refl w.heap.size w)
 have H : (impl_pointMats.l0 k a0 (([] : List (S27))) 0) = some r := h
 clear h
 obtain ⟨y357, hy357⟩ : ∃ y_ : List (S27), y_ = (([] : List (S27))) := ⟨_, rfl⟩
 replace H : (impl_pointMats.l0 k a0 y357 0) = some r := by first | (rw [hy357]; with_reducible exact H) | (have H2_ := (Option.bind_some _ _).symm.trans H; rw [hy357]; with_reducible exact H2_) | (have H2_ := (Option.bind_some _ _).symm.trans H; with_reducible exact H2_) | with_reducible exact H | (rw [hy357]; exact H) | exact H
 have Ny357 := Aside0.mk hy357
 clear hy357
 have H' := Aside0.mk H
 clear H
 go_enter Tryz.func85, Tryz.ntmps85
 go_wp2_with (first | ((with_reducible refine gd 9 rfl ?_); refine Kd.R_lit k27 _ 27 ?hg (N := 9) ?hd (xs := ([] : List (S27))) (inner := []) (ok := fun _ => True) (okp := fun _ => True) ?hr ?hp (fun _ hk => hk) trivial (Below.refl _ _) (Nat.le_refl _) (by simp) ?_; (case hd => rfl); (case hg => rfl); (case hr => first | (go_simp; done) | (go_simp; rfl)); (case hp => exact (Reps.none _ _)); intro v358 w2 ho3 hb hg_ hnew_; clear hg_ hnew_; (first | rw [← Ny357.out] at ho3 | (simp only [Int.reduceToNat] at ho3; rw [← Ny357.out] at ho3)); have HO359 := asd (Kd.R_lower ho3 (bsz0 HB)); replace HB := bS0 HB hb; clear hb ho3))
 go_loopg [3, 10] k (fun kq v3 v10 w' => ∃ (x3_1 : List (S27)) (x10_1 : Int), v10 = .int .i64 x10_1 ∧ Aside0 (impl_pointMats.l0 kq a0 x3_1 x10_1 = some r) ∧ Aside0 (kq ≤ k) ∧ Aside0 (Kd.R k27 27 w' w.heap.size (fun _ => True) v3 x3_1) ∧ Aside0 (Below w.heap.size w w'))
 case atStart => exact ⟨(y357), (0), (by first | rfl | (simp; done) | (simp [*]; done)), H', ⟨Nat.le_refl _⟩, ⟨by (with_reducible repeat (first | apply Kd.R_alloc | apply Kd.R_drewN | apply Kd.R_drew)); exact HO359.out⟩, ⟨bbw0 HB⟩⟩
 case round =>
  clear H'
  try clear p2
  obtain ⟨x3_1, x10_1, rfl, HA, HK1, HO_3, HB⟩ := hrel
  cases gk with
  | zero => exact absurd HA.out (by simp [impl_pointMats.l0])
  | succ k1 =>
   have H := HA.out
   clear HA
   simp only [impl_pointMats.l0] at H
   by_cases c4 : x10_1 < 81
   ·rw [if_pos c4] at H
    have c4b0 := decide_eq_true c4
    clear c4
    obtain ⟨⟨t361, t362⟩, A5, H⟩ := ob H
    try dsimp only at H
    obtain ⟨⟨t363, t364⟩, A6, H⟩ := ob H
    try dsimp only at H
    obtain ⟨⟨t365, t366⟩, A7, H⟩ := ob H
    try dsimp only at H
    have Hq_ := Aside0.mk H
    clear H
    try go_wp2_with (first | ((with_reducible refine gd 5 rfl ?_); refine bx #[.int .i64 0, .int .i64 0, .int .i64 0, .int .i64 0] 27 ?_; intro gb360 hg w15 BK360 hb; replace HO_3 := asd (Kd.R_below (Kd.R_elderB (kr HO_3) gb360 (Nat.le_of_eq hg.symm)) hb); have GE360 := ngw0 hg HB; replace HB := bS0 HB hb; clear hb hg; obtain ⟨hcz16_0, hcz16_1, hcz16_2, hcz16_3, hfz16_0, hfz16_1, hfz16_2, hfz16_3⟩ := bz4 BK360))
    obtain ⟨w17, h_w17⟩ : ∃ w_, ((((w15.setCell ⟨gb360, 0, none⟩ (.int .i64 (wrap64 ((wrap64 (Int.tdiv x10_1 27)) - 1)))).setCell ⟨gb360, 1, none⟩ (.int .i64 (wrap64 ((Int.tmod (wrap64 (Int.tdiv x10_1 9)) 3) - 1)))).setCell ⟨gb360, 2, none⟩ (.int .i64 (wrap64 ((Int.tmod (wrap64 (Int.tdiv x10_1 3)) 3) - 1)))).setCell ⟨gb360, 3, none⟩ (.int .i64 (wrap64 ((Int.tmod x10_1 3) - 1)))) = w_ := ⟨_, rfl⟩
    replace HO_3 : Aside0 (Kd.R k27 27 w17 w.heap.size (fun k_ => k_ ≠ gb360) u3 x3_1) := by rw [← h_w17]; exact ⟨by (with_reducible repeat (first | apply Kd.R_alloc | apply Kd.R_drewN | apply Kd.R_drew)); exact Kd.R_mono (rw4 (Kd.R_mono HO_3.out (fun k_ hk => (⟨hk, hk.2⟩ : _ ∧ k_ ≠ gb360)))) (fun _ hk => hk.1.2)⟩
    replace BK360 : Aside0 (w17.heap[gb360]? = some (.cells #[.int .i64 (wrap64 ((wrap64 (Int.tdiv x10_1 27)) - 1)), .int .i64 (wrap64 ((Int.tmod (wrap64 (Int.tdiv x10_1 9)) 3) - 1)), .int .i64 (wrap64 ((Int.tmod (wrap64 (Int.tdiv x10_1 3)) 3) - 1)), .int .i64 (wrap64 ((Int.tmod x10_1 3) - 1))] 27 (0, 0))) := by rw [← h_w17]; exact ⟨bq0 BK360⟩
    replace HB : Aside0 (Below w.heap.size w w17) := by rw [← h_w17]; exact ⟨bbw1 HB GE360⟩
    (try rw [h_w17]); clear h_w17
    replace HO_3 := asd (Kd.R_drew HO_3.out)
    replace BK360 := asd (blk_drew BK360.out)
    replace HB := asd (below_drew1 HB.out)
    refine start_ (n := 15) (S := fun w' => True) (ds := []) (bT 15 0) (by kernel_rfl) rfl rfl trivial (fun hHeld => ?_); refine with_tabW impl_pointMats.tab6 impl_pointMats.bits6 (fun HT_ HW_ => ?_)
    generalize w17.drew = w18 at HO_3 BK360 HB hHeld ⊢
    refine inv_at [0, 1, 2, 3, 4, 5, 6, 7, 8, 9, 10, 11, 12, 13, 14] (fun a0_ b a w' => ∃ (gb367 : Nat) (gb368 : Nat) (gb369 : Nat) (m9_ : Value) (m10_ : Value) (m11_ : Value), a = putSel a0_ b [(0, 28, .agg #[.int .i64 (wrap64 ((wrap64 (Int.tdiv x10_1 27)) - 1)), .int .i64 (wrap64 ((Int.tmod (wrap64 (Int.tdiv x10_1 9)) 3) - 1)), .int .i64 (wrap64 ((Int.tmod (wrap64 (Int.tdiv x10_1 3)) 3) - 1)), .int .i64 (wrap64 ((Int.tmod x10_1 3) - 1))]), (1, 29, .agg #[.int .i64 1, .int .i64 0]), (2, 30, .agg #[.int .i64 t361, .int .i64 t362]), (3, 31, .agg #[.int .i64 (wrap64 ((wrap64 (Int.tdiv x10_1 27)) - 1)), .int .i64 (wrap64 ((Int.tmod (wrap64 (Int.tdiv x10_1 9)) 3) - 1)), .int .i64 (wrap64 ((Int.tmod (wrap64 (Int.tdiv x10_1 3)) 3) - 1)), .int .i64 (wrap64 ((Int.tmod x10_1 3) - 1))]), (4, 32, .agg #[.int .i64 0, .int .i64 1]), (5, 33, .agg #[.int .i64 t363, .int .i64 t364]), (6, 34, .agg #[.int .i64 (wrap64 ((wrap64 (Int.tdiv x10_1 27)) - 1)), .int .i64 (wrap64 ((Int.tmod (wrap64 (Int.tdiv x10_1 9)) 3) - 1)), .int .i64 (wrap64 ((Int.tmod (wrap64 (Int.tdiv x10_1 3)) 3) - 1)), .int .i64 (wrap64 ((Int.tmod x10_1 3) - 1))]), (7, 35, .agg #[.int .i64 1, .int .i64 1]), (8, 36, .agg #[.int .i64 t365, .int .i64 t366]), (9, 6, m9_), (10, 7, m10_), (11, 8, m11_)] ∧ (Kd.R k27 27 w' w.heap.size (fun k_ => k_ ≠ gb360) u3 x3_1) ∧ (w'.heap[gb360]? = some (.cells #[.int .i64 (wrap64 ((wrap64 (Int.tdiv x10_1 27)) - 1)), .int .i64 (wrap64 ((Int.tmod (wrap64 (Int.tdiv x10_1 9)) 3) - 1)), .int .i64 (wrap64 ((Int.tmod (wrap64 (Int.tdiv x10_1 3)) 3) - 1)), .int .i64 (wrap64 ((Int.tmod x10_1 3) - 1))] 27 (0, 0))) ∧ (Below w.heap.size w w') ∧ (b 9 = true → b 10 = true → gb368 ≠ gb367) ∧ (b 9 = true → b 10 = true → gb367 ≠ gb368) ∧ (b 9 = true → b 11 = true → gb369 ≠ gb367) ∧ (b 9 = true → b 11 = true → gb367 ≠ gb369) ∧ (b 10 = true → b 11 = true → gb369 ≠ gb368) ∧ (b 10 = true → b 11 = true → gb368 ≠ gb369) ∧ (b 9 = true → b 12 = false → w'.heap[gb367]? = some (.cells #[.int .i64 0, .int .i64 0] 31 (0, 0))) ∧ (b 9 = true → w.heap.size ≤ gb367) ∧ (b 9 = true → w.heap.size ≤ gb367) ∧ (b 9 = true → gb360 ≠ gb367) ∧ (b 9 = true → gb367 ≠ gb360) ∧ (b 10 = true → b 13 = false → w'.heap[gb368]? = some (.cells #[.int .i64 0, .int .i64 0] 31 (0, 0))) ∧ (b 10 = true → w.heap.size ≤ gb368) ∧ (b 10 = true → w.heap.size ≤ gb368) ∧ (b 10 = true → gb360 ≠ gb368) ∧ (b 10 = true → gb368 ≠ gb360) ∧ (b 11 = true → b 14 = false → w'.heap[gb369]? = some (.cells #[.int .i64 0, .int .i64 0] 31 (0, 0))) ∧ (b 11 = true → w.heap.size ≤ gb369) ∧ (b 11 = true → w.heap.size ≤ gb369) ∧ (b 11 = true → gb360 ≠ gb369) ∧ (b 11 = true → gb369 ≠ gb360) ∧ (b 12 = true → w'.heap[gb367]? = some (.cells #[.int .i64 t361, .int .i64 t362] 31 (0, 0))) ∧ (b 13 = true → w'.heap[gb368]? = some (.cells #[.int .i64 t363, .int .i64 t364] 31 (0, 0))) ∧ (b 14 = true → w'.heap[gb369]? = some (.cells #[.int .i64 t365, .int .i64 t366] 31 (0, 0))) ∧ (b 9 = true → (m9_ : Value) = .pointer (some ⟨gb367, 0, none⟩)) ∧ (b 10 = true → (m10_ : Value) = .pointer (some ⟨gb368, 0, none⟩)) ∧ (b 11 = true → (m11_ : Value) = .pointer (some ⟨gb369, 0, none⟩))) HT_.out HW_.out (by kernel_rfl) (by kernel_rfl) ?_ ?_ ?_
    ·exact ⟨0, 0, 0, .bool false, .bool false, .bool false, by simp only [putSel, Bool.false_eq_true, if_false], HO_3.out, BK360.out, HB.out, fun h_ => absurd h_ (by decide), fun h_ => absurd h_ (by decide), fun h_ => absurd h_ (by decide), fun h_ => absurd h_ (by decide), fun h_ => absurd h_ (by decide), fun h_ => absurd h_ (by decide), fun h_ => absurd h_ (by decide), fun h_ => absurd h_ (by decide), fun h_ => absurd h_ (by decide), fun h_ => absurd h_ (by decide), fun h_ => absurd h_ (by decide), fun h_ => absurd h_ (by decide), fun h_ => absurd h_ (by decide), fun h_ => absurd h_ (by decide), fun h_ => absurd h_ (by decide), fun h_ => absurd h_ (by decide), fun h_ => absurd h_ (by decide), fun h_ => absurd h_ (by decide), fun h_ => absurd h_ (by decide), fun h_ => absurd h_ (by decide), fun h_ => absurd h_ (by decide), fun h_ => absurd h_ (by decide), fun h_ => absurd h_ (by decide), fun h_ => absurd h_ (by decide), fun h_ => absurd h_ (by decide), fun h_ => absurd h_ (by decide), fun h_ => absurd h_ (by decide)⟩
    ·skip
     clear BK360 HB HO_3
     refine steps_cons ?_ ?_
     ·rintro b a w' ⟨gb367, gb368, gb369, m9_, m10_, m11_, ha, Q_HO_3, Q_BK360, Q_HB, Q_NB368_367, Q_NB367_368, Q_NB369_367, Q_NB367_369, Q_NB369_368, Q_NB368_369, Q_BK367, Q_GW367, Q_GE367, Q_NB360_367, Q_NB367_360, Q_BK368, Q_GW368, Q_GE368, Q_NB360_368, Q_NB368_360, Q_BK369, Q_GW369, Q_GE369, Q_NB360_369, Q_NB369_360, Q_BK367_e12, Q_BK368_e13, Q_BK369_e14, Q_X9_, Q_X10_, Q_X11_⟩ hb_ hon hoff
      refine ⟨_, rfl, fun K hK => ?_⟩
      have e5 : a.tmps[5]? = some (.pointer (some ⟨gb360, 0, none⟩)) := by rw [ha]; exact (putSel_off rfl).trans rfl
      replace ha := Aside0.mk ha
      have HO_3 := Aside0.mk Q_HO_3
      have BK360 := Aside0.mk Q_BK360
      have HB := Aside0.mk Q_HB
      have hc0_ : w'.cell? ⟨gb360, 0, none⟩ = some (.int .i64 (wrap64 ((wrap64 (Int.tdiv x10_1 27)) - 1))) := bcl BK360 0
      have hc1_ : w'.cell? ⟨gb360, 1, none⟩ = some (.int .i64 (wrap64 ((Int.tmod (wrap64 (Int.tdiv x10_1 9)) 3) - 1))) := bcl BK360 1
      have hc2_ : w'.cell? ⟨gb360, 2, none⟩ = some (.int .i64 (wrap64 ((Int.tmod (wrap64 (Int.tdiv x10_1 3)) 3) - 1))) := bcl BK360 2
      have hc3_ : w'.cell? ⟨gb360, 3, none⟩ = some (.int .i64 (wrap64 ((Int.tmod x10_1 3) - 1))) := bcl BK360 3
      refine value_ (w1 := w') (v := .agg #[.int .i64 (wrap64 ((wrap64 (Int.tdiv x10_1 27)) - 1)), .int .i64 (wrap64 ((Int.tmod (wrap64 (Int.tdiv x10_1 9)) 3) - 1)), .int .i64 (wrap64 ((Int.tmod (wrap64 (Int.tdiv x10_1 3)) 3) - 1)), .int .i64 (wrap64 ((Int.tmod x10_1 3) - 1))]) (by rfl) rfl ?_ ?_
      ·go_simp
       (try simp only [i64_w])
       try rfl
      refine hK.out _ _ ⟨gb367, gb368, gb369, m9_, m10_, m11_, (by rw [ha.out]; exact putSel_upk 0 hb_ rfl rfl rfl), Q_HO_3, Q_BK360, Q_HB, Q_NB368_367, Q_NB367_368, Q_NB369_367, Q_NB367_369, Q_NB369_368, Q_NB368_369, Q_BK367, Q_GW367, Q_GE367, Q_NB360_367, Q_NB367_360, Q_BK368, Q_GW368, Q_GE368, Q_NB360_368, Q_NB368_360, Q_BK369, Q_GW369, Q_GE369, Q_NB360_369, Q_NB369_360, fun h0_ => absurd ((hoff 12 (by kernel_rfl)).symm.trans h0_) (by decide), fun h0_ => absurd ((hoff 13 (by kernel_rfl)).symm.trans h0_) (by decide), fun h0_ => absurd ((hoff 14 (by kernel_rfl)).symm.trans h0_) (by decide), Q_X9_, Q_X10_, Q_X11_⟩
     refine steps_cons ?_ ?_
     ·rintro b a w' ⟨gb367, gb368, gb369, m9_, m10_, m11_, ha, Q_HO_3, Q_BK360, Q_HB, Q_NB368_367, Q_NB367_368, Q_NB369_367, Q_NB367_369, Q_NB369_368, Q_NB368_369, Q_BK367, Q_GW367, Q_GE367, Q_NB360_367, Q_NB367_360, Q_BK368, Q_GW368, Q_GE368, Q_NB360_368, Q_NB368_360, Q_BK369, Q_GW369, Q_GE369, Q_NB360_369, Q_NB369_360, Q_BK367_e12, Q_BK368_e13, Q_BK369_e14, Q_X9_, Q_X10_, Q_X11_⟩ hb_ hon hoff
      refine ⟨_, rfl, fun K hK => ?_⟩
      replace ha := Aside0.mk ha
      have HO_3 := Aside0.mk Q_HO_3
      have BK360 := Aside0.mk Q_BK360
      have HB := Aside0.mk Q_HB
      refine value_ (w1 := w') (v := .agg #[.int .i64 1, .int .i64 0]) (by rfl) rfl ?_ ?_
      ·go_simp
       (try simp only [i64_w])
       try rfl
      refine hK.out _ _ ⟨gb367, gb368, gb369, m9_, m10_, m11_, (by rw [ha.out]; exact putSel_upk 1 hb_ rfl rfl rfl), Q_HO_3, Q_BK360, Q_HB, Q_NB368_367, Q_NB367_368, Q_NB369_367, Q_NB367_369, Q_NB369_368, Q_NB368_369, Q_BK367, Q_GW367, Q_GE367, Q_NB360_367, Q_NB367_360, Q_BK368, Q_GW368, Q_GE368, Q_NB360_368, Q_NB368_360, Q_BK369, Q_GW369, Q_GE369, Q_NB360_369, Q_NB369_360, fun h0_ => absurd ((hoff 12 (by kernel_rfl)).symm.trans h0_) (by decide), fun h0_ => absurd ((hoff 13 (by kernel_rfl)).symm.trans h0_) (by decide), fun h0_ => absurd ((hoff 14 (by kernel_rfl)).symm.trans h0_) (by decide), Q_X9_, Q_X10_, Q_X11_⟩
     refine steps_cons ?_ ?_
     ·rintro b a w' ⟨gb367, gb368, gb369, m9_, m10_, m11_, ha, Q_HO_3, Q_BK360, Q_HB, Q_NB368_367, Q_NB367_368, Q_NB369_367, Q_NB367_369, Q_NB369_368, Q_NB368_369, Q_BK367, Q_GW367, Q_GE367, Q_NB360_367, Q_NB367_360, Q_BK368, Q_GW368, Q_GE368, Q_NB360_368, Q_NB368_360, Q_BK369, Q_GW369, Q_GE369, Q_NB360_369, Q_NB369_360, Q_BK367_e12, Q_BK368_e13, Q_BK369_e14, Q_X9_, Q_X10_, Q_X11_⟩ hb_ hon hoff
      refine ⟨_, rfl, fun K hK => ?_⟩
      have e28 : a.tmps[28]? = some (.agg #[.int .i64 (wrap64 ((wrap64 (Int.tdiv x10_1 27)) - 1)), .int .i64 (wrap64 ((Int.tmod (wrap64 (Int.tdiv x10_1 9)) 3) - 1)), .int .i64 (wrap64 ((Int.tmod (wrap64 (Int.tdiv x10_1 3)) 3) - 1)), .int .i64 (wrap64 ((Int.tmod x10_1 3) - 1))]) := by rw [ha]; exact putSel_on (e := (0, 28, .agg #[.int .i64 (wrap64 ((wrap64 (Int.tdiv x10_1 27)) - 1)), .int .i64 (wrap64 ((Int.tmod (wrap64 (Int.tdiv x10_1 9)) 3) - 1)), .int .i64 (wrap64 ((Int.tmod (wrap64 (Int.tdiv x10_1 3)) 3) - 1)), .int .i64 (wrap64 ((Int.tmod x10_1 3) - 1))])) 0 rfl rfl (hon 0 (by kernel_rfl)) rfl
      have e29 : a.tmps[29]? = some (.agg #[.int .i64 1, .int .i64 0]) := by rw [ha]; exact putSel_on (e := (1, 29, .agg #[.int .i64 1, .int .i64 0])) 1 rfl rfl (hon 1 (by kernel_rfl)) rfl
      replace ha := Aside0.mk ha
      have HO_3 := Aside0.mk Q_HO_3
      have BK360 := Aside0.mk Q_BK360
      have HB := Aside0.mk Q_HB
      refine goes_ Tryz.func43 (by kernel_rfl) rfl #[.agg #[.int .i64 (wrap64 ((wrap64 (Int.tdiv x10_1 27)) - 1)), .int .i64 (wrap64 ((Int.tmod (wrap64 (Int.tdiv x10_1 9)) 3) - 1)), .int .i64 (wrap64 ((Int.tmod (wrap64 (Int.tdiv x10_1 3)) 3) - 1)), .int .i64 (wrap64 ((Int.tmod x10_1 3) - 1))], .agg #[.int .i64 1, .int .i64 0]] (by rfl) rfl rfl (by first | (simp only [List.map_toArray, List.map_cons, List.map_nil, Act.eval, Array.getD_eq_getD_getElem?, Option.getD_some, e28, e29]; done) | (simp only [List.map_toArray, List.map_cons, List.map_nil, Act.eval, Array.getD_eq_getD_getElem?, Option.getD_some, e28, e29]; rfl)) ?_
      with_reducible refine (impl_Mat_apply.calls _ _ _ _ _ _ _ _ _ A5.out).mono ?_
      rintro e w19 ⟨rfl, hb⟩
      refine ⟨_, rfl, ?_⟩
      have n0_ := asd (Kd.R_below (kr HO_3) hb)
      have n1_ := bB BK360 hb
      have n2_ := bS1 HB GE360 hb
      have z_BK367 := fun (h0_ : b 9 = true) (h1_ : b 12 = false) => (show w19.heap[gb367]? = some (.cells #[.int .i64 0, .int .i64 0] 31 (0, 0)) from by first | exact (blk_below (g := gb367) (o := .cells #[.int .i64 0, .int .i64 0] 31 (0, 0)) (by (with_reducible repeat (first | refine blk_drewN ?_ _ | refine blk_drew ?_ | refine blk_alloc ?_ _)); exact (Q_BK367 h0_ h1_)) hb))
      have z_BK368 := fun (h0_ : b 10 = true) (h1_ : b 13 = false) => (show w19.heap[gb368]? = some (.cells #[.int .i64 0, .int .i64 0] 31 (0, 0)) from by first | exact (blk_below (g := gb368) (o := .cells #[.int .i64 0, .int .i64 0] 31 (0, 0)) (by (with_reducible repeat (first | refine blk_drewN ?_ _ | refine blk_drew ?_ | refine blk_alloc ?_ _)); exact (Q_BK368 h0_ h1_)) hb))
      have z_BK369 := fun (h0_ : b 11 = true) (h1_ : b 14 = false) => (show w19.heap[gb369]? = some (.cells #[.int .i64 0, .int .i64 0] 31 (0, 0)) from by first | exact (blk_below (g := gb369) (o := .cells #[.int .i64 0, .int .i64 0] 31 (0, 0)) (by (with_reducible repeat (first | refine blk_drewN ?_ _ | refine blk_drew ?_ | refine blk_alloc ?_ _)); exact (Q_BK369 h0_ h1_)) hb))
      clear HO_3
      clear BK360
      clear HB
      have HO_3 := n0_
      have BK360 := n1_
      have HB := n2_
      clear n0_ n1_ n2_
      (try clear hb)
      (try clear hb2)
      (try clear hk)
      (try clear hi)
      refine hK.out _ _ ⟨gb367, gb368, gb369, m9_, m10_, m11_, (by rw [ha.out]; exact putSel_upk 2 hb_ rfl rfl rfl), (kr HO_3), (bkp BK360), (bbw1 HB GE360), Q_NB368_367, Q_NB367_368, Q_NB369_367, Q_NB367_369, Q_NB369_368, Q_NB368_369, z_BK367, Q_GW367, Q_GE367, Q_NB360_367, Q_NB367_360, z_BK368, Q_GW368, Q_GE368, Q_NB360_368, Q_NB368_360, z_BK369, Q_GW369, Q_GE369, Q_NB360_369, Q_NB369_360, fun h0_ => absurd ((hoff 12 (by kernel_rfl)).symm.trans h0_) (by decide), fun h0_ => absurd ((hoff 13 (by kernel_rfl)).symm.trans h0_) (by decide), fun h0_ => absurd ((hoff 14 (by kernel_rfl)).symm.trans h0_) (by decide), Q_X9_, Q_X10_, Q_X11_⟩
     refine steps_cons ?_ ?_
     ·rintro b a w' ⟨gb367, gb368, gb369, m9_, m10_, m11_, ha, Q_HO_3, Q_BK360, Q_HB, Q_NB368_367, Q_NB367_368, Q_NB369_367, Q_NB367_369, Q_NB369_368, Q_NB368_369, Q_BK367, Q_GW367, Q_GE367, Q_NB360_367, Q_NB367_360, Q_BK368, Q_GW368, Q_GE368, Q_NB360_368, Q_NB368_360, Q_BK369, Q_GW369, Q_GE369, Q_NB360_369, Q_NB369_360, Q_BK367_e12, Q_BK368_e13, Q_BK369_e14, Q_X9_, Q_X10_, Q_X11_⟩ hb_ hon hoff
      refine ⟨_, rfl, fun K hK => ?_⟩
      have e5 : a.tmps[5]? = some (.pointer (some ⟨gb360, 0, none⟩)) := by rw [ha]; exact (putSel_off rfl).trans rfl
      replace ha := Aside0.mk ha
      have HO_3 := Aside0.mk Q_HO_3
      have BK360 := Aside0.mk Q_BK360
      have HB := Aside0.mk Q_HB
      have hc0_ : w'.cell? ⟨gb360, 0, none⟩ = some (.int .i64 (wrap64 ((wrap64 (Int.tdiv x10_1 27)) - 1))) := bcl BK360 0
      have hc1_ : w'.cell? ⟨gb360, 1, none⟩ = some (.int .i64 (wrap64 ((Int.tmod (wrap64 (Int.tdiv x10_1 9)) 3) - 1))) := bcl BK360 1
      have hc2_ : w'.cell? ⟨gb360, 2, none⟩ = some (.int .i64 (wrap64 ((Int.tmod (wrap64 (Int.tdiv x10_1 3)) 3) - 1))) := bcl BK360 2
      have hc3_ : w'.cell? ⟨gb360, 3, none⟩ = some (.int .i64 (wrap64 ((Int.tmod x10_1 3) - 1))) := bcl BK360 3
      refine value_ (w1 := w') (v := .agg #[.int .i64 (wrap64 ((wrap64 (Int.tdiv x10_1 27)) - 1)), .int .i64 (wrap64 ((Int.tmod (wrap64 (Int.tdiv x10_1 9)) 3) - 1)), .int .i64 (wrap64 ((Int.tmod (wrap64 (Int.tdiv x10_1 3)) 3) - 1)), .int .i64 (wrap64 ((Int.tmod x10_1 3) - 1))]) (by rfl) rfl ?_ ?_
      ·go_simp
       (try simp only [i64_w])
       try rfl
      refine hK.out _ _ ⟨gb367, gb368, gb369, m9_, m10_, m11_, (by rw [ha.out]; exact putSel_upk 3 hb_ rfl rfl rfl), Q_HO_3, Q_BK360, Q_HB, Q_NB368_367, Q_NB367_368, Q_NB369_367, Q_NB367_369, Q_NB369_368, Q_NB368_369, Q_BK367, Q_GW367, Q_GE367, Q_NB360_367, Q_NB367_360, Q_BK368, Q_GW368, Q_GE368, Q_NB360_368, Q_NB368_360, Q_BK369, Q_GW369, Q_GE369, Q_NB360_369, Q_NB369_360, fun h0_ => absurd ((hoff 12 (by kernel_rfl)).symm.trans h0_) (by decide), fun h0_ => absurd ((hoff 13 (by kernel_rfl)).symm.trans h0_) (by decide), fun h0_ => absurd ((hoff 14 (by kernel_rfl)).symm.trans h0_) (by decide), Q_X9_, Q_X10_, Q_X11_⟩
     refine steps_cons ?_ ?_
     ·rintro b a w' ⟨gb367, gb368, gb369, m9_, m10_, m11_, ha, Q_HO_3, Q_BK360, Q_HB, Q_NB368_367, Q_NB367_368, Q_NB369_367, Q_NB367_369, Q_NB369_368, Q_NB368_369, Q_BK367, Q_GW367, Q_GE367, Q_NB360_367, Q_NB367_360, Q_BK368, Q_GW368, Q_GE368, Q_NB360_368, Q_NB368_360, Q_BK369, Q_GW369, Q_GE369, Q_NB360_369, Q_NB369_360, Q_BK367_e12, Q_BK368_e13, Q_BK369_e14, Q_X9_, Q_X10_, Q_X11_⟩ hb_ hon hoff
      refine ⟨_, rfl, fun K hK => ?_⟩
      replace ha := Aside0.mk ha
      have HO_3 := Aside0.mk Q_HO_3
      have BK360 := Aside0.mk Q_BK360
      have HB := Aside0.mk Q_HB
      refine value_ (w1 := w') (v := .agg #[.int .i64 0, .int .i64 1]) (by rfl) rfl ?_ ?_
      ·go_simp
       (try simp only [i64_w])
       try rfl
      refine hK.out _ _ ⟨gb367, gb368, gb369, m9_, m10_, m11_, (by rw [ha.out]; exact putSel_upk 4 hb_ rfl rfl rfl), Q_HO_3, Q_BK360, Q_HB, Q_NB368_367, Q_NB367_368, Q_NB369_367, Q_NB367_369, Q_NB369_368, Q_NB368_369, Q_BK367, Q_GW367, Q_GE367, Q_NB360_367, Q_NB367_360, Q_BK368, Q_GW368, Q_GE368, Q_NB360_368, Q_NB368_360, Q_BK369, Q_GW369, Q_GE369, Q_NB360_369, Q_NB369_360, fun h0_ => absurd ((hoff 12 (by kernel_rfl)).symm.trans h0_) (by decide), fun h0_ => absurd ((hoff 13 (by kernel_rfl)).symm.trans h0_) (by decide), fun h0_ => absurd ((hoff 14 (by kernel_rfl)).symm.trans h0_) (by decide), Q_X9_, Q_X10_, Q_X11_⟩
     refine steps_cons ?_ ?_
     ·rintro b a w' ⟨gb367, gb368, gb369, m9_, m10_, m11_, ha, Q_HO_3, Q_BK360, Q_HB, Q_NB368_367, Q_NB367_368, Q_NB369_367, Q_NB367_369, Q_NB369_368, Q_NB368_369, Q_BK367, Q_GW367, Q_GE367, Q_NB360_367, Q_NB367_360, Q_BK368, Q_GW368, Q_GE368, Q_NB360_368, Q_NB368_360, Q_BK369, Q_GW369, Q_GE369, Q_NB360_369, Q_NB369_360, Q_BK367_e12, Q_BK368_e13, Q_BK369_e14, Q_X9_, Q_X10_, Q_X11_⟩ hb_ hon hoff
      refine ⟨_, rfl, fun K hK => ?_⟩
      have e31 : a.tmps[31]? = some (.agg #[.int .i64 (wrap64 ((wrap64 (Int.tdiv x10_1 27)) - 1)), .int .i64 (wrap64 ((Int.tmod (wrap64 (Int.tdiv x10_1 9)) 3) - 1)), .int .i64 (wrap64 ((Int.tmod (wrap64 (Int.tdiv x10_1 3)) 3) - 1)), .int .i64 (wrap64 ((Int.tmod x10_1 3) - 1))]) := by rw [ha]; exact putSel_on (e := (3, 31, .agg #[.int .i64 (wrap64 ((wrap64 (Int.tdiv x10_1 27)) - 1)), .int .i64 (wrap64 ((Int.tmod (wrap64 (Int.tdiv x10_1 9)) 3) - 1)), .int .i64 (wrap64 ((Int.tmod (wrap64 (Int.tdiv x10_1 3)) 3) - 1)), .int .i64 (wrap64 ((Int.tmod x10_1 3) - 1))])) 3 rfl rfl (hon 3 (by kernel_rfl)) rfl
      have e32 : a.tmps[32]? = some (.agg #[.int .i64 0, .int .i64 1]) := by rw [ha]; exact putSel_on (e := (4, 32, .agg #[.int .i64 0, .int .i64 1])) 4 rfl rfl (hon 4 (by kernel_rfl)) rfl
      replace ha := Aside0.mk ha
      have HO_3 := Aside0.mk Q_HO_3
      have BK360 := Aside0.mk Q_BK360
      have HB := Aside0.mk Q_HB
      refine goes_ Tryz.func43 (by kernel_rfl) rfl #[.agg #[.int .i64 (wrap64 ((wrap64 (Int.tdiv x10_1 27)) - 1)), .int .i64 (wrap64 ((Int.tmod (wrap64 (Int.tdiv x10_1 9)) 3) - 1)), .int .i64 (wrap64 ((Int.tmod (wrap64 (Int.tdiv x10_1 3)) 3) - 1)), .int .i64 (wrap64 ((Int.tmod x10_1 3) - 1))], .agg #[.int .i64 0, .int .i64 1]] (by rfl) rfl rfl (by first | (simp only [List.map_toArray, List.map_cons, List.map_nil, Act.eval, Array.getD_eq_getD_getElem?, Option.getD_some, e31, e32]; done) | (simp only [List.map_toArray, List.map_cons, List.map_nil, Act.eval, Array.getD_eq_getD_getElem?, Option.getD_some, e31, e32]; rfl)) ?_
      with_reducible refine (impl_Mat_apply.calls _ _ _ _ _ _ _ _ _ A6.out).mono ?_
      rintro e w21 ⟨rfl, hb⟩
      refine ⟨_, rfl, ?_⟩
      have n0_ := asd (Kd.R_below (kr HO_3) hb)
      have n1_ := bB BK360 hb
      have n2_ := bS1 HB GE360 hb
      have z_BK367 := fun (h0_ : b 9 = true) (h1_ : b 12 = false) => (show w21.heap[gb367]? = some (.cells #[.int .i64 0, .int .i64 0] 31 (0, 0)) from by first | exact (blk_below (g := gb367) (o := .cells #[.int .i64 0, .int .i64 0] 31 (0, 0)) (by (with_reducible repeat (first | refine blk_drewN ?_ _ | refine blk_drew ?_ | refine blk_alloc ?_ _)); exact (Q_BK367 h0_ h1_)) hb))
      have z_BK368 := fun (h0_ : b 10 = true) (h1_ : b 13 = false) => (show w21.heap[gb368]? = some (.cells #[.int .i64 0, .int .i64 0] 31 (0, 0)) from by first | exact (blk_below (g := gb368) (o := .cells #[.int .i64 0, .int .i64 0] 31 (0, 0)) (by (with_reducible repeat (first | refine blk_drewN ?_ _ | refine blk_drew ?_ | refine blk_alloc ?_ _)); exact (Q_BK368 h0_ h1_)) hb))
      have z_BK369 := fun (h0_ : b 11 = true) (h1_ : b 14 = false) => (show w21.heap[gb369]? = some (.cells #[.int .i64 0, .int .i64 0] 31 (0, 0)) from by first | exact (blk_below (g := gb369) (o := .cells #[.int .i64 0, .int .i64 0] 31 (0, 0)) (by (with_reducible repeat (first | refine blk_drewN ?_ _ | refine blk_drew ?_ | refine blk_alloc ?_ _)); exact (Q_BK369 h0_ h1_)) hb))
      clear HO_3
      clear BK360
      clear HB
      have HO_3 := n0_
      have BK360 := n1_
      have HB := n2_
      clear n0_ n1_ n2_
      (try clear hb)
      (try clear hb2)
      (try clear hk)
      (try clear hi)
      refine hK.out _ _ ⟨gb367, gb368, gb369, m9_, m10_, m11_, (by rw [ha.out]; exact putSel_upk 5 hb_ rfl rfl rfl), (kr HO_3), (bkp BK360), (bbw1 HB GE360), Q_NB368_367, Q_NB367_368, Q_NB369_367, Q_NB367_369, Q_NB369_368, Q_NB368_369, z_BK367, Q_GW367, Q_GE367, Q_NB360_367, Q_NB367_360, z_BK368, Q_GW368, Q_GE368, Q_NB360_368, Q_NB368_360, z_BK369, Q_GW369, Q_GE369, Q_NB360_369, Q_NB369_360, fun h0_ => absurd ((hoff 12 (by kernel_rfl)).symm.trans h0_) (by decide), fun h0_ => absurd ((hoff 13 (by kernel_rfl)).symm.trans h0_) (by decide), fun h0_ => absurd ((hoff 14 (by kernel_rfl)).symm.trans h0_) (by decide), Q_X9_, Q_X10_, Q_X11_⟩
     refine steps_cons ?_ ?_
     ·rintro b a w' ⟨gb367, gb368, gb369, m9_, m10_, m11_, ha, Q_HO_3, Q_BK360, Q_HB, Q_NB368_367, Q_NB367_368, Q_NB369_367, Q_NB367_369, Q_NB369_368, Q_NB368_369, Q_BK367, Q_GW367, Q_GE367, Q_NB360_367, Q_NB367_360, Q_BK368, Q_GW368, Q_GE368, Q_NB360_368, Q_NB368_360, Q_BK369, Q_GW369, Q_GE369, Q_NB360_369, Q_NB369_360, Q_BK367_e12, Q_BK368_e13, Q_BK369_e14, Q_X9_, Q_X10_, Q_X11_⟩ hb_ hon hoff
      refine ⟨_, rfl, fun K hK => ?_⟩
      have e5 : a.tmps[5]? = some (.pointer (some ⟨gb360, 0, none⟩)) := by rw [ha]; exact (putSel_off rfl).trans rfl
      replace ha := Aside0.mk ha
      have HO_3 := Aside0.mk Q_HO_3
      have BK360 := Aside0.mk Q_BK360
      have HB := Aside0.mk Q_HB
      have hc0_ : w'.cell? ⟨gb360, 0, none⟩ = some (.int .i64 (wrap64 ((wrap64 (Int.tdiv x10_1 27)) - 1))) := bcl BK360 0
      have hc1_ : w'.cell? ⟨gb360, 1, none⟩ = some (.int .i64 (wrap64 ((Int.tmod (wrap64 (Int.tdiv x10_1 9)) 3) - 1))) := bcl BK360 1
      have hc2_ : w'.cell? ⟨gb360, 2, none⟩ = some (.int .i64 (wrap64 ((Int.tmod (wrap64 (Int.tdiv x10_1 3)) 3) - 1))) := bcl BK360 2
      have hc3_ : w'.cell? ⟨gb360, 3, none⟩ = some (.int .i64 (wrap64 ((Int.tmod x10_1 3) - 1))) := bcl BK360 3
      refine value_ (w1 := w') (v := .agg #[.int .i64 (wrap64 ((wrap64 (Int.tdiv x10_1 27)) - 1)), .int .i64 (wrap64 ((Int.tmod (wrap64 (Int.tdiv x10_1 9)) 3) - 1)), .int .i64 (wrap64 ((Int.tmod (wrap64 (Int.tdiv x10_1 3)) 3) - 1)), .int .i64 (wrap64 ((Int.tmod x10_1 3) - 1))]) (by rfl) rfl ?_ ?_
      ·go_simp
       (try simp only [i64_w])
       try rfl
      refine hK.out _ _ ⟨gb367, gb368, gb369, m9_, m10_, m11_, (by rw [ha.out]; exact putSel_upk 6 hb_ rfl rfl rfl), Q_HO_3, Q_BK360, Q_HB, Q_NB368_367, Q_NB367_368, Q_NB369_367, Q_NB367_369, Q_NB369_368, Q_NB368_369, Q_BK367, Q_GW367, Q_GE367, Q_NB360_367, Q_NB367_360, Q_BK368, Q_GW368, Q_GE368, Q_NB360_368, Q_NB368_360, Q_BK369, Q_GW369, Q_GE369, Q_NB360_369, Q_NB369_360, fun h0_ => absurd ((hoff 12 (by kernel_rfl)).symm.trans h0_) (by decide), fun h0_ => absurd ((hoff 13 (by kernel_rfl)).symm.trans h0_) (by decide), fun h0_ => absurd ((hoff 14 (by kernel_rfl)).symm.trans h0_) (by decide), Q_X9_, Q_X10_, Q_X11_⟩
     refine steps_cons ?_ ?_
     ·rintro b a w' ⟨gb367, gb368, gb369, m9_, m10_, m11_, ha, Q_HO_3, Q_BK360, Q_HB, Q_NB368_367, Q_NB367_368, Q_NB369_367, Q_NB367_369, Q_NB369_368, Q_NB368_369, Q_BK367, Q_GW367, Q_GE367, Q_NB360_367, Q_NB367_360, Q_BK368, Q_GW368, Q_GE368, Q_NB360_368, Q_NB368_360, Q_BK369, Q_GW369, Q_GE369, Q_NB360_369, Q_NB369_360, Q_BK367_e12, Q_BK368_e13, Q_BK369_e14, Q_X9_, Q_X10_, Q_X11_⟩ hb_ hon hoff
      refine ⟨_, rfl, fun K hK => ?_⟩
      replace ha := Aside0.mk ha
      have HO_3 := Aside0.mk Q_HO_3
      have BK360 := Aside0.mk Q_BK360
      have HB := Aside0.mk Q_HB
      refine value_ (w1 := w') (v := .agg #[.int .i64 1, .int .i64 1]) (by rfl) rfl ?_ ?_
      ·go_simp
       (try simp only [i64_w])
       try rfl
      refine hK.out _ _ ⟨gb367, gb368, gb369, m9_, m10_, m11_, (by rw [ha.out]; exact putSel_upk 7 hb_ rfl rfl rfl), Q_HO_3, Q_BK360, Q_HB, Q_NB368_367, Q_NB367_368, Q_NB369_367, Q_NB367_369, Q_NB369_368, Q_NB368_369, Q_BK367, Q_GW367, Q_GE367, Q_NB360_367, Q_NB367_360, Q_BK368, Q_GW368, Q_GE368, Q_NB360_368, Q_NB368_360, Q_BK369, Q_GW369, Q_GE369, Q_NB360_369, Q_NB369_360, fun h0_ => absurd ((hoff 12 (by kernel_rfl)).symm.trans h0_) (by decide), fun h0_ => absurd ((hoff 13 (by kernel_rfl)).symm.trans h0_) (by decide), fun h0_ => absurd ((hoff 14 (by kernel_rfl)).symm.trans h0_) (by decide), Q_X9_, Q_X10_, Q_X11_⟩
     refine steps_cons ?_ ?_
     ·rintro b a w' ⟨gb367, gb368, gb369, m9_, m10_, m11_, ha, Q_HO_3, Q_BK360, Q_HB, Q_NB368_367, Q_NB367_368, Q_NB369_367, Q_NB367_369, Q_NB369_368, Q_NB368_369, Q_BK367, Q_GW367, Q_GE367, Q_NB360_367, Q_NB367_360, Q_BK368, Q_GW368, Q_GE368, Q_NB360_368, Q_NB368_360, Q_BK369, Q_GW369, Q_GE369, Q_NB360_369, Q_NB369_360, Q_BK367_e12, Q_BK368_e13, Q_BK369_e14, Q_X9_, Q_X10_, Q_X11_⟩ hb_ hon hoff
      refine ⟨_, rfl, fun K hK => ?_⟩
      have e34 : a.tmps[34]? = some (.agg #[.int .i64 (wrap64 ((wrap64 (Int.tdiv x10_1 27)) - 1)), .int .i64 (wrap64 ((Int.tmod (wrap64 (Int.tdiv x10_1 9)) 3) - 1)), .int .i64 (wrap64 ((Int.tmod (wrap64 (Int.tdiv x10_1 3)) 3) - 1)), .int .i64 (wrap64 ((Int.tmod x10_1 3) - 1))]) := by rw [ha]; exact putSel_on (e := (6, 34, .agg #[.int .i64 (wrap64 ((wrap64 (Int.tdiv x10_1 27)) - 1)), .int .i64 (wrap64 ((Int.tmod (wrap64 (Int.tdiv x10_1 9)) 3) - 1)), .int .i64 (wrap64 ((Int.tmod (wrap64 (Int.tdiv x10_1 3)) 3) - 1)), .int .i64 (wrap64 ((Int.tmod x10_1 3) - 1))])) 6 rfl rfl (hon 6 (by kernel_rfl)) rfl
      have e35 : a.tmps[35]? = some (.agg #[.int .i64 1, .int .i64 1]) := by rw [ha]; exact putSel_on (e := (7, 35, .agg #[.int .i64 1, .int .i64 1])) 7 rfl rfl (hon 7 (by kernel_rfl)) rfl
      replace ha := Aside0.mk ha
      have HO_3 := Aside0.mk Q_HO_3
      have BK360 := Aside0.mk Q_BK360
      have HB := Aside0.mk Q_HB
      refine goes_ Tryz.func43 (by kernel_rfl) rfl #[.agg #[.int .i64 (wrap64 ((wrap64 (Int.tdiv x10_1 27)) - 1)), .int .i64 (wrap64 ((Int.tmod (wrap64 (Int.tdiv x10_1 9)) 3) - 1)), .int .i64 (wrap64 ((Int.tmod (wrap64 (Int.tdiv x10_1 3)) 3) - 1)), .int .i64 (wrap64 ((Int.tmod x10_1 3) - 1))], .agg #[.int .i64 1, .int .i64 1]] (by rfl) rfl rfl (by first | (simp only [List.map_toArray, List.map_cons, List.map_nil, Act.eval, Array.getD_eq_getD_getElem?, Option.getD_some, e34, e35]; done) | (simp only [List.map_toArray, List.map_cons, List.map_nil, Act.eval, Array.getD_eq_getD_getElem?, Option.getD_some, e34, e35]; rfl)) ?_
      with_reducible refine (impl_Mat_apply.calls _ _ _ _ _ _ _ _ _ A7.out).mono ?_
      rintro e w22 ⟨rfl, hb⟩
      refine ⟨_, rfl, ?_⟩
      have n0_ := asd (Kd.R_below (kr HO_3) hb)
      have n1_ := bB BK360 hb
      have n2_ := bS1 HB GE360 hb
      have z_BK367 := fun (h0_ : b 9 = true) (h1_ : b 12 = false) => (show w22.heap[gb367]? = some (.cells #[.int .i64 0, .int .i64 0] 31 (0, 0)) from by first | exact (blk_below (g := gb367) (o := .cells #[.int .i64 0, .int .i64 0] 31 (0, 0)) (by (with_reducible repeat (first | refine blk_drewN ?_ _ | refine blk_drew ?_ | refine blk_alloc ?_ _)); exact (Q_BK367 h0_ h1_)) hb))
      have z_BK368 := fun (h0_ : b 10 = true) (h1_ : b 13 = false) => (show w22.heap[gb368]? = some (.cells #[.int .i64 0, .int .i64 0] 31 (0, 0)) from by first | exact (blk_below (g := gb368) (o := .cells #[.int .i64 0, .int .i64 0] 31 (0, 0)) (by (with_reducible repeat (first | refine blk_drewN ?_ _ | refine blk_drew ?_ | refine blk_alloc ?_ _)); exact (Q_BK368 h0_ h1_)) hb))
      have z_BK369 := fun (h0_ : b 11 = true) (h1_ : b 14 = false) => (show w22.heap[gb369]? = some (.cells #[.int .i64 0, .int .i64 0] 31 (0, 0)) from by first | exact (blk_below (g := gb369) (o := .cells #[.int .i64 0, .int .i64 0] 31 (0, 0)) (by (with_reducible repeat (first | refine blk_drewN ?_ _ | refine blk_drew ?_ | refine blk_alloc ?_ _)); exact (Q_BK369 h0_ h1_)) hb))
      clear HO_3
      clear BK360
      clear HB
      have HO_3 := n0_
      have BK360 := n1_
      have HB := n2_
      clear n0_ n1_ n2_
      (try clear hb)
      (try clear hb2)
      (try clear hk)
      (try clear hi)
      refine hK.out _ _ ⟨gb367, gb368, gb369, m9_, m10_, m11_, (by rw [ha.out]; exact putSel_upk 8 hb_ rfl rfl rfl), (kr HO_3), (bkp BK360), (bbw1 HB GE360), Q_NB368_367, Q_NB367_368, Q_NB369_367, Q_NB367_369, Q_NB369_368, Q_NB368_369, z_BK367, Q_GW367, Q_GE367, Q_NB360_367, Q_NB367_360, z_BK368, Q_GW368, Q_GE368, Q_NB360_368, Q_NB368_360, z_BK369, Q_GW369, Q_GE369, Q_NB360_369, Q_NB369_360, fun h0_ => absurd ((hoff 12 (by kernel_rfl)).symm.trans h0_) (by decide), fun h0_ => absurd ((hoff 13 (by kernel_rfl)).symm.trans h0_) (by decide), fun h0_ => absurd ((hoff 14 (by kernel_rfl)).symm.trans h0_) (by decide), Q_X9_, Q_X10_, Q_X11_⟩
     refine steps_cons ?_ ?_
     ·rintro b a w' ⟨gb367, gb368, gb369, m9_, m10_, m11_, ha, Q_HO_3, Q_BK360, Q_HB, Q_NB368_367, Q_NB367_368, Q_NB369_367, Q_NB367_369, Q_NB369_368, Q_NB368_369, Q_BK367, Q_GW367, Q_GE367, Q_NB360_367, Q_NB367_360, Q_BK368, Q_GW368, Q_GE368, Q_NB360_368, Q_NB368_360, Q_BK369, Q_GW369, Q_GE369, Q_NB360_369, Q_NB369_360, Q_BK367_e12, Q_BK368_e13, Q_BK369_e14, Q_X9_, Q_X10_, Q_X11_⟩ hb_ hon hoff
      refine ⟨_, rfl, fun K hK => ?_⟩
      replace ha := Aside0.mk ha
      have HO_3 := Aside0.mk Q_HO_3
      have BK360 := Aside0.mk Q_BK360
      have HB := Aside0.mk Q_HB
      refine box_step ?hg (N := 6) ?hd (cs := #[.int .i64 0, .int .i64 0]) (t := 31) ?hr ?_; (case hd => rfl); (case hg => rfl); (case hr => first | (go_simp; done) | (go_simp; rfl))
      intro gb367 hg w19 hbox hb
      have n0_ := asd (Kd.R_below (kr HO_3) hb)
      have n1_ := bB BK360 hb
      have n2_ := bS1 HB GE360 hb
      have n3_ := asd (hbox)
      have n4_ := ngw1 hg HB GE360
      have n5_ := ngw1 hg HB GE360
      have n6_ := nlt hg BK360
      have n7_ := nsy (nlt hg BK360)
      have z_NB368_367 := fun (h0_ : up b 9 9 = true) (h1_ : up b 9 10 = true) => (show gb368 ≠ gb367 from ((by rw [hg]; exact Nat.ne_of_lt (by cases hq_ : b 13 with | false => exact blk_lt (g := gb368) (Q_BK368 h1_ hq_) | true => exact blk_lt (g := gb368) (Q_BK368_e13 hq_)) : gb368 ≠ gb367)))
      have z_NB367_368 := fun (h0_ : up b 9 9 = true) (h1_ : up b 9 10 = true) => (show gb367 ≠ gb368 from ((by rw [hg]; exact Nat.ne_of_gt (by cases hq_ : b 13 with | false => exact blk_lt (g := gb368) (Q_BK368 h1_ hq_) | true => exact blk_lt (g := gb368) (Q_BK368_e13 hq_)) : gb367 ≠ gb368)))
      have z_NB369_367 := fun (h0_ : up b 9 9 = true) (h1_ : up b 9 11 = true) => (show gb369 ≠ gb367 from ((by rw [hg]; exact Nat.ne_of_lt (by cases hq_ : b 14 with | false => exact blk_lt (g := gb369) (Q_BK369 h1_ hq_) | true => exact blk_lt (g := gb369) (Q_BK369_e14 hq_)) : gb369 ≠ gb367)))
      have z_NB367_369 := fun (h0_ : up b 9 9 = true) (h1_ : up b 9 11 = true) => (show gb367 ≠ gb369 from ((by rw [hg]; exact Nat.ne_of_gt (by cases hq_ : b 14 with | false => exact blk_lt (g := gb369) (Q_BK369 h1_ hq_) | true => exact blk_lt (g := gb369) (Q_BK369_e14 hq_)) : gb367 ≠ gb369)))
      have z_BK368 := fun (h0_ : b 10 = true) (h1_ : b 13 = false) => (show w19.heap[gb368]? = some (.cells #[.int .i64 0, .int .i64 0] 31 (0, 0)) from by first | exact (blk_below (g := gb368) (o := .cells #[.int .i64 0, .int .i64 0] 31 (0, 0)) (by (with_reducible repeat (first | refine blk_drewN ?_ _ | refine blk_drew ?_ | refine blk_alloc ?_ _)); exact (Q_BK368 h0_ h1_)) hb))
      have z_BK369 := fun (h0_ : b 11 = true) (h1_ : b 14 = false) => (show w19.heap[gb369]? = some (.cells #[.int .i64 0, .int .i64 0] 31 (0, 0)) from by first | exact (blk_below (g := gb369) (o := .cells #[.int .i64 0, .int .i64 0] 31 (0, 0)) (by (with_reducible repeat (first | refine blk_drewN ?_ _ | refine blk_drew ?_ | refine blk_alloc ?_ _)); exact (Q_BK369 h0_ h1_)) hb))
      clear HO_3
      clear BK360
      clear HB
      have HO_3 := n0_
      have BK360 := n1_
      have HB := n2_
      have BK367 := n3_
      have GW367 := n4_
      have GE367 := n5_
      have NB360_367 := n6_
      have NB367_360 := n7_
      clear n0_ n1_ n2_ n3_ n4_ n5_ n6_ n7_
      clear hb hbox hg
      refine hK.out _ _ ⟨gb367, gb368, gb369, (.pointer (some ⟨gb367, 0, none⟩)), m10_, m11_, (by rw [ha.out]; exact putSel_upk 9 hb_ rfl rfl rfl), (kr HO_3), (bkp BK360), (bbw2 HB GE360 GE367), @z_NB368_367, @z_NB367_368, @z_NB369_367, @z_NB367_369, Q_NB369_368, Q_NB368_369, fun _ _ => (bkp BK367), fun _ => GW367.out, fun _ => GE367.out, fun _ => NB360_367.out, fun _ => NB367_360.out, z_BK368, Q_GW368, Q_GE368, Q_NB360_368, Q_NB368_360, z_BK369, Q_GW369, Q_GE369, Q_NB360_369, Q_NB369_360, fun h0_ => absurd ((hoff 12 (by kernel_rfl)).symm.trans h0_) (by decide), fun h0_ => absurd ((hoff 13 (by kernel_rfl)).symm.trans h0_) (by decide), fun h0_ => absurd ((hoff 14 (by kernel_rfl)).symm.trans h0_) (by decide), fun _ => rfl, Q_X10_, Q_X11_⟩
     refine steps_cons ?_ ?_
     ·rintro b a w' ⟨gb367, gb368, gb369, m9_, m10_, m11_, ha, Q_HO_3, Q_BK360, Q_HB, Q_NB368_367, Q_NB367_368, Q_NB369_367, Q_NB367_369, Q_NB369_368, Q_NB368_369, Q_BK367, Q_GW367, Q_GE367, Q_NB360_367, Q_NB367_360, Q_BK368, Q_GW368, Q_GE368, Q_NB360_368, Q_NB368_360, Q_BK369, Q_GW369, Q_GE369, Q_NB360_369, Q_NB369_360, Q_BK367_e12, Q_BK368_e13, Q_BK369_e14, Q_X9_, Q_X10_, Q_X11_⟩ hb_ hon hoff
      refine ⟨_, rfl, fun K hK => ?_⟩
      replace ha := Aside0.mk ha
      have HO_3 := Aside0.mk Q_HO_3
      have BK360 := Aside0.mk Q_BK360
      have HB := Aside0.mk Q_HB
      refine box_step ?hg (N := 7) ?hd (cs := #[.int .i64 0, .int .i64 0]) (t := 31) ?hr ?_; (case hd => rfl); (case hg => rfl); (case hr => first | (go_simp; done) | (go_simp; rfl))
      intro gb368 hg w19 hbox hb
      have n0_ := asd (Kd.R_below (kr HO_3) hb)
      have n1_ := bB BK360 hb
      have n2_ := bS1 HB GE360 hb
      have n3_ := asd (hbox)
      have n4_ := ngw1 hg HB GE360
      have n5_ := ngw1 hg HB GE360
      have n6_ := nlt hg BK360
      have n7_ := nsy (nlt hg BK360)
      have z_NB368_367 := fun (h0_ : up b 10 9 = true) (h1_ : up b 10 10 = true) => (show gb368 ≠ gb367 from ((by rw [hg]; exact Nat.ne_of_gt (by cases hq_ : b 12 with | false => exact blk_lt (g := gb367) (Q_BK367 h0_ hq_) | true => exact blk_lt (g := gb367) (Q_BK367_e12 hq_)) : gb368 ≠ gb367)))
      have z_NB367_368 := fun (h0_ : up b 10 9 = true) (h1_ : up b 10 10 = true) => (show gb367 ≠ gb368 from ((by rw [hg]; exact Nat.ne_of_lt (by cases hq_ : b 12 with | false => exact blk_lt (g := gb367) (Q_BK367 h0_ hq_) | true => exact blk_lt (g := gb367) (Q_BK367_e12 hq_)) : gb367 ≠ gb368)))
      have z_NB369_368 := fun (h0_ : up b 10 10 = true) (h1_ : up b 10 11 = true) => (show gb369 ≠ gb368 from ((by rw [hg]; exact Nat.ne_of_lt (by cases hq_ : b 14 with | false => exact blk_lt (g := gb369) (Q_BK369 h1_ hq_) | true => exact blk_lt (g := gb369) (Q_BK369_e14 hq_)) : gb369 ≠ gb368)))
      have z_NB368_369 := fun (h0_ : up b 10 10 = true) (h1_ : up b 10 11 = true) => (show gb368 ≠ gb369 from ((by rw [hg]; exact Nat.ne_of_gt (by cases hq_ : b 14 with | false => exact blk_lt (g := gb369) (Q_BK369 h1_ hq_) | true => exact blk_lt (g := gb369) (Q_BK369_e14 hq_)) : gb368 ≠ gb369)))
      have z_BK367 := fun (h0_ : b 9 = true) (h1_ : b 12 = false) => (show w19.heap[gb367]? = some (.cells #[.int .i64 0, .int .i64 0] 31 (0, 0)) from by first | exact (blk_below (g := gb367) (o := .cells #[.int .i64 0, .int .i64 0] 31 (0, 0)) (by (with_reducible repeat (first | refine blk_drewN ?_ _ | refine blk_drew ?_ | refine blk_alloc ?_ _)); exact (Q_BK367 h0_ h1_)) hb))
      have z_BK369 := fun (h0_ : b 11 = true) (h1_ : b 14 = false) => (show w19.heap[gb369]? = some (.cells #[.int .i64 0, .int .i64 0] 31 (0, 0)) from by first | exact (blk_below (g := gb369) (o := .cells #[.int .i64 0, .int .i64 0] 31 (0, 0)) (by (with_reducible repeat (first | refine blk_drewN ?_ _ | refine blk_drew ?_ | refine blk_alloc ?_ _)); exact (Q_BK369 h0_ h1_)) hb))
      clear HO_3
      clear BK360
      clear HB
      have HO_3 := n0_
      have BK360 := n1_
      have HB := n2_
      have BK368 := n3_
      have GW368 := n4_
      have GE368 := n5_
      have NB360_368 := n6_
      have NB368_360 := n7_
      clear n0_ n1_ n2_ n3_ n4_ n5_ n6_ n7_
      clear hb hbox hg
      refine hK.out _ _ ⟨gb367, gb368, gb369, m9_, (.pointer (some ⟨gb368, 0, none⟩)), m11_, (by rw [ha.out]; exact putSel_upk 10 hb_ rfl rfl rfl), (kr HO_3), (bkp BK360), (bbw2 HB GE360 GE368), @z_NB368_367, @z_NB367_368, Q_NB369_367, Q_NB367_369, @z_NB369_368, @z_NB368_369, z_BK367, Q_GW367, Q_GE367, Q_NB360_367, Q_NB367_360, fun _ _ => (bkp BK368), fun _ => GW368.out, fun _ => GE368.out, fun _ => NB360_368.out, fun _ => NB368_360.out, z_BK369, Q_GW369, Q_GE369, Q_NB360_369, Q_NB369_360, fun h0_ => absurd ((hoff 12 (by kernel_rfl)).symm.trans h0_) (by decide), fun h0_ => absurd ((hoff 13 (by kernel_rfl)).symm.trans h0_) (by decide), fun h0_ => absurd ((hoff 14 (by kernel_rfl)).symm.trans h0_) (by decide), Q_X9_, fun _ => rfl, Q_X11_⟩
     refine steps_cons ?_ ?_
     ·rintro b a w' ⟨gb367, gb368, gb369, m9_, m10_, m11_, ha, Q_HO_3, Q_BK360, Q_HB, Q_NB368_367, Q_NB367_368, Q_NB369_367, Q_NB367_369, Q_NB369_368, Q_NB368_369, Q_BK367, Q_GW367, Q_GE367, Q_NB360_367, Q_NB367_360, Q_BK368, Q_GW368, Q_GE368, Q_NB360_368, Q_NB368_360, Q_BK369, Q_GW369, Q_GE369, Q_NB360_369, Q_NB369_360, Q_BK367_e12, Q_BK368_e13, Q_BK369_e14, Q_X9_, Q_X10_, Q_X11_⟩ hb_ hon hoff
      refine ⟨_, rfl, fun K hK => ?_⟩
      replace ha := Aside0.mk ha
      have HO_3 := Aside0.mk Q_HO_3
      have BK360 := Aside0.mk Q_BK360
      have HB := Aside0.mk Q_HB
      refine box_step ?hg (N := 8) ?hd (cs := #[.int .i64 0, .int .i64 0]) (t := 31) ?hr ?_; (case hd => rfl); (case hg => rfl); (case hr => first | (go_simp; done) | (go_simp; rfl))
      intro gb369 hg w19 hbox hb
      have n0_ := asd (Kd.R_below (kr HO_3) hb)
      have n1_ := bB BK360 hb
      have n2_ := bS1 HB GE360 hb
      have n3_ := asd (hbox)
      have n4_ := ngw1 hg HB GE360
      have n5_ := ngw1 hg HB GE360
      have n6_ := nlt hg BK360
      have n7_ := nsy (nlt hg BK360)
      have z_NB369_367 := fun (h0_ : up b 11 9 = true) (h1_ : up b 11 11 = true) => (show gb369 ≠ gb367 from ((by rw [hg]; exact Nat.ne_of_gt (by cases hq_ : b 12 with | false => exact blk_lt (g := gb367) (Q_BK367 h0_ hq_) | true => exact blk_lt (g := gb367) (Q_BK367_e12 hq_)) : gb369 ≠ gb367)))
      have z_NB367_369 := fun (h0_ : up b 11 9 = true) (h1_ : up b 11 11 = true) => (show gb367 ≠ gb369 from ((by rw [hg]; exact Nat.ne_of_lt (by cases hq_ : b 12 with | false => exact blk_lt (g := gb367) (Q_BK367 h0_ hq_) | true => exact blk_lt (g := gb367) (Q_BK367_e12 hq_)) : gb367 ≠ gb369)))
      have z_NB369_368 := fun (h0_ : up b 11 10 = true) (h1_ : up b 11 11 = true) => (show gb369 ≠ gb368 from ((by rw [hg]; exact Nat.ne_of_gt (by cases hq_ : b 13 with | false => exact blk_lt (g := gb368) (Q_BK368 h0_ hq_) | true => exact blk_lt (g := gb368) (Q_BK368_e13 hq_)) : gb369 ≠ gb368)))
      have z_NB368_369 := fun (h0_ : up b 11 10 = true) (h1_ : up b 11 11 = true) => (show gb368 ≠ gb369 from ((by rw [hg]; exact Nat.ne_of_lt (by cases hq_ : b 13 with | false => exact blk_lt (g := gb368) (Q_BK368 h0_ hq_) | true => exact blk_lt (g := gb368) (Q_BK368_e13 hq_)) : gb368 ≠ gb369)))
      have z_BK367 := fun (h0_ : b 9 = true) (h1_ : b 12 = false) => (show w19.heap[gb367]? = some (.cells #[.int .i64 0, .int .i64 0] 31 (0, 0)) from by first | exact (blk_below (g := gb367) (o := .cells #[.int .i64 0, .int .i64 0] 31 (0, 0)) (by (with_reducible repeat (first | refine blk_drewN ?_ _ | refine blk_drew ?_ | refine blk_alloc ?_ _)); exact (Q_BK367 h0_ h1_)) hb))
      have z_BK368 := fun (h0_ : b 10 = true) (h1_ : b 13 = false) => (show w19.heap[gb368]? = some (.cells #[.int .i64 0, .int .i64 0] 31 (0, 0)) from by first | exact (blk_below (g := gb368) (o := .cells #[.int .i64 0, .int .i64 0] 31 (0, 0)) (by (with_reducible repeat (first | refine blk_drewN ?_ _ | refine blk_drew ?_ | refine blk_alloc ?_ _)); exact (Q_BK368 h0_ h1_)) hb))
      clear HO_3
      clear BK360
      clear HB
      have HO_3 := n0_
      have BK360 := n1_
      have HB := n2_
      have BK369 := n3_
      have GW369 := n4_
      have GE369 := n5_
      have NB360_369 := n6_
      have NB369_360 := n7_
      clear n0_ n1_ n2_ n3_ n4_ n5_ n6_ n7_
      clear hb hbox hg
      refine hK.out _ _ ⟨gb367, gb368, gb369, m9_, m10_, (.pointer (some ⟨gb369, 0, none⟩)), (by rw [ha.out]; exact putSel_upk 11 hb_ rfl rfl rfl), (kr HO_3), (bkp BK360), (bbw2 HB GE360 GE369), Q_NB368_367, Q_NB367_368, @z_NB369_367, @z_NB367_369, @z_NB369_368, @z_NB368_369, z_BK367, Q_GW367, Q_GE367, Q_NB360_367, Q_NB367_360, z_BK368, Q_GW368, Q_GE368, Q_NB360_368, Q_NB368_360, fun _ _ => (bkp BK369), fun _ => GW369.out, fun _ => GE369.out, fun _ => NB360_369.out, fun _ => NB369_360.out, fun h0_ => absurd ((hoff 12 (by kernel_rfl)).symm.trans h0_) (by decide), fun h0_ => absurd ((hoff 13 (by kernel_rfl)).symm.trans h0_) (by decide), fun h0_ => absurd ((hoff 14 (by kernel_rfl)).symm.trans h0_) (by decide), Q_X9_, Q_X10_, fun _ => rfl⟩
     refine steps_cons ?_ ?_
     ·rintro b a w' ⟨gb367, gb368, gb369, m9_, m10_, m11_, ha, Q_HO_3, Q_BK360, Q_HB, Q_NB368_367, Q_NB367_368, Q_NB369_367, Q_NB367_369, Q_NB369_368, Q_NB368_369, Q_BK367, Q_GW367, Q_GE367, Q_NB360_367, Q_NB367_360, Q_BK368, Q_GW368, Q_GE368, Q_NB360_368, Q_NB368_360, Q_BK369, Q_GW369, Q_GE369, Q_NB360_369, Q_NB369_360, Q_BK367_e12, Q_BK368_e13, Q_BK369_e14, Q_X9_, Q_X10_, Q_X11_⟩ hb_ hon hoff
      refine ⟨_, rfl, fun K hK => ?_⟩
      have e6 : a.tmps[6]? = some (m9_) := by rw [ha]; exact putSel_on (e := (9, 6, m9_)) 9 rfl rfl (hon 9 (by kernel_rfl)) rfl
      rw [Q_X9_ (hon 9 (by kernel_rfl))] at e6
      have e30 : a.tmps[30]? = some (.agg #[.int .i64 t361, .int .i64 t362]) := by rw [ha]; exact putSel_on (e := (2, 30, .agg #[.int .i64 t361, .int .i64 t362])) 2 rfl rfl (hon 2 (by kernel_rfl)) rfl
      replace ha := Aside0.mk ha
      have HO_3 := Aside0.mk Q_HO_3
      have BK360 := Aside0.mk Q_BK360
      have HB := Aside0.mk Q_HB
      have NB368_367 := asd (Q_NB368_367 (hon 9 (by kernel_rfl)) (hon 10 (by kernel_rfl)))
      have NB367_368 := asd (Q_NB367_368 (hon 9 (by kernel_rfl)) (hon 10 (by kernel_rfl)))
      have NB369_367 := asd (Q_NB369_367 (hon 9 (by kernel_rfl)) (hon 11 (by kernel_rfl)))
      have NB367_369 := asd (Q_NB367_369 (hon 9 (by kernel_rfl)) (hon 11 (by kernel_rfl)))
      have NB369_368 := asd (Q_NB369_368 (hon 10 (by kernel_rfl)) (hon 11 (by kernel_rfl)))
      have NB368_369 := asd (Q_NB368_369 (hon 10 (by kernel_rfl)) (hon 11 (by kernel_rfl)))
      have BK367 := asd (Q_BK367 (hon 9 (by kernel_rfl)) hb_)
      have GW367 := asd (Q_GW367 (hon 9 (by kernel_rfl)))
      have GE367 := asd (Q_GE367 (hon 9 (by kernel_rfl)))
      have NB360_367 := asd (Q_NB360_367 (hon 9 (by kernel_rfl)))
      have NB367_360 := asd (Q_NB367_360 (hon 9 (by kernel_rfl)))
      have BK368 := asd (Q_BK368 (hon 10 (by kernel_rfl)) (hoff 13 (by kernel_rfl)))
      have GW368 := asd (Q_GW368 (hon 10 (by kernel_rfl)))
      have GE368 := asd (Q_GE368 (hon 10 (by kernel_rfl)))
      have NB360_368 := asd (Q_NB360_368 (hon 10 (by kernel_rfl)))
      have NB368_360 := asd (Q_NB368_360 (hon 10 (by kernel_rfl)))
      have BK369 := asd (Q_BK369 (hon 11 (by kernel_rfl)) (hoff 14 (by kernel_rfl)))
      have GW369 := asd (Q_GW369 (hon 11 (by kernel_rfl)))
      have GE369 := asd (Q_GE369 (hon 11 (by kernel_rfl)))
      have NB360_369 := asd (Q_NB360_369 (hon 11 (by kernel_rfl)))
      have NB369_360 := asd (Q_NB369_360 (hon 11 (by kernel_rfl)))
      have hs26 : w'.cell? ⟨gb367, 0, none⟩ = some (.int .i64 0) := bcl BK367 0
      have hfs26 := blk_frozen BK367.out 0
      have hns26_0 := NB360_367.out
      have hns26_2 := NB368_367.out
      have hns26_3 := NB369_367.out
      have hms26_0 := NB367_360.out
      have hms26_2 := NB367_368.out
      have hms26_3 := NB367_369.out
      have hs27 : w'.cell? ⟨gb367, 1, none⟩ = some (.int .i64 0) := bcl BK367 1
      have hfs27 := blk_frozen BK367.out 1
      have hns27_0 := NB360_367.out
      have hns27_2 := NB368_367.out
      have hns27_3 := NB369_367.out
      have hms27_0 := NB367_360.out
      have hms27_2 := NB367_368.out
      have hms27_3 := NB367_369.out
      refine skip_ (w1 := ?_) (by rfl) rfl ?_ ?_
      rotate_left
      ·go_simp
       rfl
      refine hK.out _ _ ⟨gb367, gb368, gb369, m9_, m10_, m11_, (by rw [ha.out]; exact putSel_none (v := undef) rfl), (by (with_reducible repeat (first | apply Kd.R_alloc | apply Kd.R_drewN | apply Kd.R_drew)); exact Kd.R_mono (rw2 (Kd.R_types HO_3.out BK367.out (by decide))) (fun _ hk => hk.1)), (bq1 BK360 NB360_367), (bbw4 HB GE360 GE367 GE368 GE369), fun _ _ => NB368_367.out, fun _ _ => NB367_368.out, fun _ _ => NB369_367.out, fun _ _ => NB367_369.out, fun _ _ => NB369_368.out, fun _ _ => NB368_369.out, fun _ h1_ => absurd ((up_self b 12).symm.trans h1_) (by decide), fun _ => GW367.out, fun _ => GE367.out, fun _ => NB360_367.out, fun _ => NB367_360.out, fun _ _ => (bq1 BK368 NB368_367), fun _ => GW368.out, fun _ => GE368.out, fun _ => NB360_368.out, fun _ => NB368_360.out, fun _ _ => (bq1 BK369 NB369_367), fun _ => GW369.out, fun _ => GE369.out, fun _ => NB360_369.out, fun _ => NB369_360.out, fun _ => (bq0 BK367), fun h0_ => absurd ((hoff 13 (by kernel_rfl)).symm.trans h0_) (by decide), fun h0_ => absurd ((hoff 14 (by kernel_rfl)).symm.trans h0_) (by decide), Q_X9_, Q_X10_, Q_X11_⟩
     refine steps_cons ?_ ?_
     ·rintro b a w' ⟨gb367, gb368, gb369, m9_, m10_, m11_, ha, Q_HO_3, Q_BK360, Q_HB, Q_NB368_367, Q_NB367_368, Q_NB369_367, Q_NB367_369, Q_NB369_368, Q_NB368_369, Q_BK367, Q_GW367, Q_GE367, Q_NB360_367, Q_NB367_360, Q_BK368, Q_GW368, Q_GE368, Q_NB360_368, Q_NB368_360, Q_BK369, Q_GW369, Q_GE369, Q_NB360_369, Q_NB369_360, Q_BK367_e12, Q_BK368_e13, Q_BK369_e14, Q_X9_, Q_X10_, Q_X11_⟩ hb_ hon hoff
      refine ⟨_, rfl, fun K hK => ?_⟩
      have e7 : a.tmps[7]? = some (m10_) := by rw [ha]; exact putSel_on (e := (10, 7, m10_)) 10 rfl rfl (hon 10 (by kernel_rfl)) rfl
      rw [Q_X10_ (hon 10 (by kernel_rfl))] at e7
      have e33 : a.tmps[33]? = some (.agg #[.int .i64 t363, .int .i64 t364]) := by rw [ha]; exact putSel_on (e := (5, 33, .agg #[.int .i64 t363, .int .i64 t364])) 5 rfl rfl (hon 5 (by kernel_rfl)) rfl
      replace ha := Aside0.mk ha
      have HO_3 := Aside0.mk Q_HO_3
      have BK360 := Aside0.mk Q_BK360
      have HB := Aside0.mk Q_HB
      have NB368_367 := asd (Q_NB368_367 (hon 9 (by kernel_rfl)) (hon 10 (by kernel_rfl)))
      have NB367_368 := asd (Q_NB367_368 (hon 9 (by kernel_rfl)) (hon 10 (by kernel_rfl)))
      have NB369_367 := asd (Q_NB369_367 (hon 9 (by kernel_rfl)) (hon 11 (by kernel_rfl)))
      have NB367_369 := asd (Q_NB367_369 (hon 9 (by kernel_rfl)) (hon 11 (by kernel_rfl)))
      have NB369_368 := asd (Q_NB369_368 (hon 10 (by kernel_rfl)) (hon 11 (by kernel_rfl)))
      have NB368_369 := asd (Q_NB368_369 (hon 10 (by kernel_rfl)) (hon 11 (by kernel_rfl)))
      have GW367 := asd (Q_GW367 (hon 9 (by kernel_rfl)))
      have GE367 := asd (Q_GE367 (hon 9 (by kernel_rfl)))
      have NB360_367 := asd (Q_NB360_367 (hon 9 (by kernel_rfl)))
      have NB367_360 := asd (Q_NB367_360 (hon 9 (by kernel_rfl)))
      have BK368 := asd (Q_BK368 (hon 10 (by kernel_rfl)) hb_)
      have GW368 := asd (Q_GW368 (hon 10 (by kernel_rfl)))
      have GE368 := asd (Q_GE368 (hon 10 (by kernel_rfl)))
      have NB360_368 := asd (Q_NB360_368 (hon 10 (by kernel_rfl)))
      have NB368_360 := asd (Q_NB368_360 (hon 10 (by kernel_rfl)))
      have BK369 := asd (Q_BK369 (hon 11 (by kernel_rfl)) (hoff 14 (by kernel_rfl)))
      have GW369 := asd (Q_GW369 (hon 11 (by kernel_rfl)))
      have GE369 := asd (Q_GE369 (hon 11 (by kernel_rfl)))
      have NB360_369 := asd (Q_NB360_369 (hon 11 (by kernel_rfl)))
      have NB369_360 := asd (Q_NB369_360 (hon 11 (by kernel_rfl)))
      have BK367 := asd (Q_BK367_e12 (hon 12 (by kernel_rfl)))
      have hs28 : w'.cell? ⟨gb368, 0, none⟩ = some (.int .i64 0) := bcl BK368 0
      have hfs28 := blk_frozen BK368.out 0
      have hns28_0 := NB360_368.out
      have hns28_1 := NB367_368.out
      have hns28_3 := NB369_368.out
      have hms28_0 := NB368_360.out
      have hms28_1 := NB368_367.out
      have hms28_3 := NB368_369.out
      have hs29 : w'.cell? ⟨gb368, 1, none⟩ = some (.int .i64 0) := bcl BK368 1
      have hfs29 := blk_frozen BK368.out 1
      have hns29_0 := NB360_368.out
      have hns29_1 := NB367_368.out
      have hns29_3 := NB369_368.out
      have hms29_0 := NB368_360.out
      have hms29_1 := NB368_367.out
      have hms29_3 := NB368_369.out
      refine skip_ (w1 := ?_) (by rfl) rfl ?_ ?_
      rotate_left
      ·go_simp
       rfl
      refine hK.out _ _ ⟨gb367, gb368, gb369, m9_, m10_, m11_, (by rw [ha.out]; exact putSel_none (v := undef) rfl), (by (with_reducible repeat (first | apply Kd.R_alloc | apply Kd.R_drewN | apply Kd.R_drew)); exact Kd.R_mono (rw2 (Kd.R_types HO_3.out BK368.out (by decide))) (fun _ hk => hk.1)), (bq1 BK360 NB360_368), (bbw4 HB GE360 GE367 GE368 GE369), fun _ _ => NB368_367.out, fun _ _ => NB367_368.out, fun _ _ => NB369_367.out, fun _ _ => NB367_369.out, fun _ _ => NB369_368.out, fun _ _ => NB368_369.out, fun _ h1_ => absurd ((hon 12 (by kernel_rfl)).symm.trans h1_) (by decide), fun _ => GW367.out, fun _ => GE367.out, fun _ => NB360_367.out, fun _ => NB367_360.out, fun _ h1_ => absurd ((up_self b 13).symm.trans h1_) (by decide), fun _ => GW368.out, fun _ => GE368.out, fun _ => NB360_368.out, fun _ => NB368_360.out, fun _ _ => (bq1 BK369 NB369_368), fun _ => GW369.out, fun _ => GE369.out, fun _ => NB360_369.out, fun _ => NB369_360.out, fun _ => (bq1 BK367 NB367_368), fun _ => (bq0 BK368), fun h0_ => absurd ((hoff 14 (by kernel_rfl)).symm.trans h0_) (by decide), Q_X9_, Q_X10_, Q_X11_⟩
     refine steps_cons ?_ ?_
     ·rintro b a w' ⟨gb367, gb368, gb369, m9_, m10_, m11_, ha, Q_HO_3, Q_BK360, Q_HB, Q_NB368_367, Q_NB367_368, Q_NB369_367, Q_NB367_369, Q_NB369_368, Q_NB368_369, Q_BK367, Q_GW367, Q_GE367, Q_NB360_367, Q_NB367_360, Q_BK368, Q_GW368, Q_GE368, Q_NB360_368, Q_NB368_360, Q_BK369, Q_GW369, Q_GE369, Q_NB360_369, Q_NB369_360, Q_BK367_e12, Q_BK368_e13, Q_BK369_e14, Q_X9_, Q_X10_, Q_X11_⟩ hb_ hon hoff
      refine ⟨_, rfl, fun K hK => ?_⟩
      have e8 : a.tmps[8]? = some (m11_) := by rw [ha]; exact putSel_on (e := (11, 8, m11_)) 11 rfl rfl (hon 11 (by kernel_rfl)) rfl
      rw [Q_X11_ (hon 11 (by kernel_rfl))] at e8
      have e36 : a.tmps[36]? = some (.agg #[.int .i64 t365, .int .i64 t366]) := by rw [ha]; exact putSel_on (e := (8, 36, .agg #[.int .i64 t365, .int .i64 t366])) 8 rfl rfl (hon 8 (by kernel_rfl)) rfl
      replace ha := Aside0.mk ha
      have HO_3 := Aside0.mk Q_HO_3
      have BK360 := Aside0.mk Q_BK360
      have HB := Aside0.mk Q_HB
      have NB368_367 := asd (Q_NB368_367 (hon 9 (by kernel_rfl)) (hon 10 (by kernel_rfl)))
      have NB367_368 := asd (Q_NB367_368 (hon 9 (by kernel_rfl)) (hon 10 (by kernel_rfl)))
      have NB369_367 := asd (Q_NB369_367 (hon 9 (by kernel_rfl)) (hon 11 (by kernel_rfl)))
      have NB367_369 := asd (Q_NB367_369 (hon 9 (by kernel_rfl)) (hon 11 (by kernel_rfl)))
      have NB369_368 := asd (Q_NB369_368 (hon 10 (by kernel_rfl)) (hon 11 (by kernel_rfl)))
      have NB368_369 := asd (Q_NB368_369 (hon 10 (by kernel_rfl)) (hon 11 (by kernel_rfl)))
      have GW367 := asd (Q_GW367 (hon 9 (by kernel_rfl)))
      have GE367 := asd (Q_GE367 (hon 9 (by kernel_rfl)))
      have NB360_367 := asd (Q_NB360_367 (hon 9 (by kernel_rfl)))
      have NB367_360 := asd (Q_NB367_360 (hon 9 (by kernel_rfl)))
      have GW368 := asd (Q_GW368 (hon 10 (by kernel_rfl)))
      have GE368 := asd (Q_GE368 (hon 10 (by kernel_rfl)))
      have NB360_368 := asd (Q_NB360_368 (hon 10 (by kernel_rfl)))
      have NB368_360 := asd (Q_NB368_360 (hon 10 (by kernel_rfl)))
      have BK369 := asd (Q_BK369 (hon 11 (by kernel_rfl)) hb_)
      have GW369 := asd (Q_GW369 (hon 11 (by kernel_rfl)))
      have GE369 := asd (Q_GE369 (hon 11 (by kernel_rfl)))
      have NB360_369 := asd (Q_NB360_369 (hon 11 (by kernel_rfl)))
      have NB369_360 := asd (Q_NB369_360 (hon 11 (by kernel_rfl)))
      have BK367 := asd (Q_BK367_e12 (hon 12 (by kernel_rfl)))
      have BK368 := asd (Q_BK368_e13 (hon 13 (by kernel_rfl)))
      have hs30 : w'.cell? ⟨gb369, 0, none⟩ = some (.int .i64 0) := bcl BK369 0
      have hfs30 := blk_frozen BK369.out 0
      have hns30_0 := NB360_369.out
      have hns30_1 := NB367_369.out
      have hns30_2 := NB368_369.out
      have hms30_0 := NB369_360.out
      have hms30_1 := NB369_367.out
      have hms30_2 := NB369_368.out
      have hs31 : w'.cell? ⟨gb369, 1, none⟩ = some (.int .i64 0) := bcl BK369 1
      have hfs31 := blk_frozen BK369.out 1
      have hns31_0 := NB360_369.out
      have hns31_1 := NB367_369.out
      have hns31_2 := NB368_369.out
      have hms31_0 := NB369_360.out
      have hms31_1 := NB369_367.out
      have hms31_2 := NB369_368.out
      refine skip_ (w1 := ?_) (by rfl) rfl ?_ ?_
      rotate_left
      ·go_simp
       rfl
      refine hK.out _ _ ⟨gb367, gb368, gb369, m9_, m10_, m11_, (by rw [ha.out]; exact putSel_none (v := undef) rfl), (by (with_reducible repeat (first | apply Kd.R_alloc | apply Kd.R_drewN | apply Kd.R_drew)); exact Kd.R_mono (rw2 (Kd.R_types HO_3.out BK369.out (by decide))) (fun _ hk => hk.1)), (bq1 BK360 NB360_369), (bbw4 HB GE360 GE367 GE368 GE369), fun _ _ => NB368_367.out, fun _ _ => NB367_368.out, fun _ _ => NB369_367.out, fun _ _ => NB367_369.out, fun _ _ => NB369_368.out, fun _ _ => NB368_369.out, fun _ h1_ => absurd ((hon 12 (by kernel_rfl)).symm.trans h1_) (by decide), fun _ => GW367.out, fun _ => GE367.out, fun _ => NB360_367.out, fun _ => NB367_360.out, fun _ h1_ => absurd ((hon 13 (by kernel_rfl)).symm.trans h1_) (by decide), fun _ => GW368.out, fun _ => GE368.out, fun _ => NB360_368.out, fun _ => NB368_360.out, fun _ h1_ => absurd ((up_self b 14).symm.trans h1_) (by decide), fun _ => GW369.out, fun _ => GE369.out, fun _ => NB360_369.out, fun _ => NB369_360.out, fun _ => (bq1 BK367 NB367_369), fun _ => (bq1 BK368 NB368_369), fun _ => (bq0 BK369), Q_X9_, Q_X10_, Q_X11_⟩
     exact steps_nil
    rintro b a w31 hall ⟨gb367, gb368, gb369, m9_, m10_, m11_, ha, Q_HO_3, Q_BK360, Q_HB, Q_NB368_367, Q_NB367_368, Q_NB369_367, Q_NB367_369, Q_NB369_368, Q_NB368_369, Q_BK367, Q_GW367, Q_GE367, Q_NB360_367, Q_NB367_360, Q_BK368, Q_GW368, Q_GE368, Q_NB360_368, Q_NB368_360, Q_BK369, Q_GW369, Q_GE369, Q_NB360_369, Q_NB369_360, Q_BK367_e12, Q_BK368_e13, Q_BK369_e14, Q_X9_, Q_X10_, Q_X11_⟩
    clear BK360 HB HO_3
    have hb0_ := hall 0 (by kernel_rfl)
    have hb1_ := hall 1 (by kernel_rfl)
    have hb2_ := hall 2 (by kernel_rfl)
    have hb3_ := hall 3 (by kernel_rfl)
    have hb4_ := hall 4 (by kernel_rfl)
    have hb5_ := hall 5 (by kernel_rfl)
    have hb6_ := hall 6 (by kernel_rfl)
    have hb7_ := hall 7 (by kernel_rfl)
    have hb8_ := hall 8 (by kernel_rfl)
    have hb9_ := hall 9 (by kernel_rfl)
    have hb10_ := hall 10 (by kernel_rfl)
    have hb11_ := hall 11 (by kernel_rfl)
    have hb12_ := hall 12 (by kernel_rfl)
    have hb13_ := hall 13 (by kernel_rfl)
    have hb14_ := hall 14 (by kernel_rfl)
    subst ha
    obtain rfl := Q_X9_ hb9_
    obtain rfl := Q_X10_ hb10_
    obtain rfl := Q_X11_ hb11_
    simp only [putSel, hb0_, hb1_, hb2_, hb3_, hb4_, hb5_, hb6_, hb7_, hb8_, hb9_, hb10_, hb11_, hb12_, hb13_, hb14_, if_true, Act.put, sA, sB, sC]
    have HO_3 := Aside0.mk Q_HO_3
    clear Q_HO_3
    have BK360 := Aside0.mk Q_BK360
    clear Q_BK360
    have HB := Aside0.mk Q_HB
    clear Q_HB
    have NB368_367 := asd (Q_NB368_367 hb9_ hb10_)
    clear Q_NB368_367
    have NB367_368 := asd (Q_NB367_368 hb9_ hb10_)
    clear Q_NB367_368
    have NB369_367 := asd (Q_NB369_367 hb9_ hb11_)
    clear Q_NB369_367
    have NB367_369 := asd (Q_NB367_369 hb9_ hb11_)
    clear Q_NB367_369
    have NB369_368 := asd (Q_NB369_368 hb10_ hb11_)
    clear Q_NB369_368
    have NB368_369 := asd (Q_NB368_369 hb10_ hb11_)
    clear Q_NB368_369
    clear Q_BK367
    have GW367 := asd (Q_GW367 hb9_)
    clear Q_GW367
    have GE367 := asd (Q_GE367 hb9_)
    clear Q_GE367
    have NB360_367 := asd (Q_NB360_367 hb9_)
    clear Q_NB360_367
    have NB367_360 := asd (Q_NB367_360 hb9_)
    clear Q_NB367_360
    clear Q_BK368
    have GW368 := asd (Q_GW368 hb10_)
    clear Q_GW368
    have GE368 := asd (Q_GE368 hb10_)
    clear Q_GE368
    have NB360_368 := asd (Q_NB360_368 hb10_)
    clear Q_NB360_368
    have NB368_360 := asd (Q_NB368_360 hb10_)
    clear Q_NB368_360
    clear Q_BK369
    have GW369 := asd (Q_GW369 hb11_)
    clear Q_GW369
    have GE369 := asd (Q_GE369 hb11_)
    clear Q_GE369
    have NB360_369 := asd (Q_NB360_369 hb11_)
    clear Q_NB360_369
    have NB369_360 := asd (Q_NB369_360 hb11_)
    clear Q_NB369_360
    have BK367 := asd (Q_BK367_e12 hb12_)
    clear Q_BK367_e12
    have BK368 := asd (Q_BK368_e13 hb13_)
    clear Q_BK368_e13
    have BK369 := asd (Q_BK369_e14 hb14_)
    clear Q_BK369_e14
    clear hall hb0_ hb1_ hb2_ hb3_ hb4_ hb5_ hb6_ hb7_ hb8_ hb9_ hb10_ hb11_ hb12_ hb13_ hb14_
    have hnb32 := NB367_360.out
    have hnc32 := NB360_367.out
    have hnb33 := NB367_368.out
    have hnc33 := NB368_367.out
    have hnb34 := NB367_369.out
    have hnc34 := NB369_367.out
    obtain ⟨hcz35_0, hcz35_1, hfz35_0, hfz35_1⟩ := bz2 BK367
    have H := Hq_.out
    clear Hq_
    obtain ⟨t370, A8, H⟩ := ob H
    try dsimp only at H
    by_cases c9 : t370 = 1
    rw [if_pos c9] at H
    have c9b0 : (t370 == 1) = true := beq_iff_eq.mpr c9
    have c9b1 : (t370 != 1) = false := bne_eq_false_iff_eq.mpr c9
    clear c9
    obtain ⟨t371, A10, H⟩ := ob H
    try dsimp only at H
    by_cases c11 : t371 = 1
    rw [if_pos c11] at H
    have c11b0 : (t371 == 1) = true := beq_iff_eq.mpr c11
    have c11b1 : (t371 != 1) = false := bne_eq_false_iff_eq.mpr c11
    clear c11
    obtain ⟨t372, A12, H⟩ := ob H
    try dsimp only at H
    by_cases c13 : t372 = (wrap64 (2 + a0))
    rw [if_pos c13] at H
    have c13b0 : (t372 == (wrap64 (2 + a0))) = true := beq_iff_eq.mpr c13
    have c13b1 : (t372 != (wrap64 (2 + a0))) = false := bne_eq_false_iff_eq.mpr c13
    clear c13
    by_cases c14 : x3_1.length < 4398046511104
    rw [if_pos c14] at H
    have LMc14 := Aside0.mk c14
    clear c14
    obtain ⟨y373, hy373⟩ : ∃ y_ : List (S27), y_ = (x3_1 ++ [(⟨wrap64 ((wrap64 (Int.tdiv x10_1 27)) - 1), wrap64 ((Int.tmod (wrap64 (Int.tdiv x10_1 9)) 3) - 1), wrap64 ((Int.tmod (wrap64 (Int.tdiv x10_1 3)) 3) - 1), wrap64 ((Int.tmod x10_1 3) - 1)⟩ : S27)]) := ⟨_, rfl⟩
    replace H : (impl_pointMats.l0 k1 a0 y373 (wrap64 (x10_1 + 1))) = some r := by first | (rw [hy373]; with_reducible exact H) | (have H2_ := (Option.bind_some _ _).symm.trans H; rw [hy373]; with_reducible exact H2_) | (have H2_ := (Option.bind_some _ _).symm.trans H; with_reducible exact H2_) | with_reducible exact H | (rw [hy373]; exact H) | exact H
    have Ny373 := Aside0.mk hy373
    clear hy373
    have H' := Aside0.mk H
    clear H
    rotate_left
    ·rw [if_neg c14] at H
     exact absurd H (by simp)
    rw [if_neg c13] at H
    have c13b0 : (t372 == (wrap64 (2 + a0))) = false := beq_eq_false_iff_ne.mpr c13
    have c13b1 : (t372 != (wrap64 (2 + a0))) = true := bne_iff_ne.mpr c13
    have H' := Aside0.mk H
    clear H
    rotate_left
    rw [if_neg c11] at H
    have c11b0 : (t371 == 1) = false := beq_eq_false_iff_ne.mpr c11
    have c11b1 : (t371 != 1) = true := bne_iff_ne.mpr c11
    have H' := Aside0.mk H
    clear H
    rotate_left
    rw [if_neg c9] at H
    have c9b0 : (t370 == 1) = false := beq_eq_false_iff_ne.mpr c9
    have c9b1 : (t370 != 1) = true := bne_iff_ne.mpr c9
    have H' := Aside0.mk H
    clear H
    rotate_left
    try go_wp2_with (first | ((with_reducible refine gate_callee (f := 107) rfl ?_); refine gl 39 Tryz.func107 #[.int .i64 a0, .agg #[.int .i64 t361, .int .i64 t362]] ?_; (with_reducible refine (impl_norm.calls _ _ _ _ _ A8.out).mono ?_); rintro e w36 ⟨rfl, hb⟩; refine ⟨_, rfl, ?_⟩; replace HO_3 := asd (Kd.R_below (kr HO_3) hb); replace BK360 := bB BK360 hb; replace BK367 := bB BK367 hb; replace BK368 := bB BK368 hb; replace BK369 := bB BK369 hb; replace HB := bS4 HB GE360 GE367 GE368 GE369 hb; (try clear hb); have hnb37 := NB368_360.out; have hnc37 := NB360_368.out; have hnb38 := NB368_369.out; have hnc38 := NB369_368.out; obtain ⟨hcz39_0, hcz39_1, hfz39_0, hfz39_1⟩ := bz2 BK368) | (go_at_call 107; (with_reducible refine (impl_norm.calls _ _ _ _ _ A10.out).mono ?_); rintro e w40 ⟨rfl, hb⟩; replace HO_3 := asd (Kd.R_below (kr HO_3) hb); replace BK360 := bB BK360 hb; replace BK367 := bB BK367 hb; replace BK368 := bB BK368 hb; replace BK369 := bB BK369 hb; replace HB := bS4 HB GE360 GE367 GE368 GE369 hb; (try clear hb); have hnb41 := NB369_360.out; have hnc41 := NB360_369.out; obtain ⟨hcz42_0, hcz42_1, hfz42_0, hfz42_1⟩ := bz2 BK369) | (go_at_call 107; (with_reducible refine (impl_norm.calls _ _ _ _ _ A12.out).mono ?_); rintro e w43 ⟨rfl, hb⟩; replace HO_3 := asd (Kd.R_below (kr HO_3) hb); replace BK360 := bB BK360 hb; replace BK367 := bB BK367 hb; replace BK368 := bB BK368 hb; replace BK369 := bB BK369 hb; replace HB := bS4 HB GE360 GE367 GE368 GE369 hb; (try clear hb); obtain ⟨hcz44_0, hcz44_1, hcz44_2, hcz44_3, hfz44_0, hfz44_1, hfz44_2, hfz44_3⟩ := bz4 BK360) | ((with_reducible refine gate_builtin (b := .append) (xs := #[.tmp 55, .tmp 57]) rfl ?_); at_builtin; refine Kd.R_append k27 (w0 := w) w.heap.size rfl (.tmp 55) (.tmp 57) 77 27 (.agg #[(.int .i64 0), (.int .i64 0), (.int .i64 0), (.int .i64 0)]) 32 rfl Tryz.underlying77 info27 rfl (by decide) (by omega) u3 x3_1 (⟨wrap64 ((wrap64 (Int.tdiv x10_1 27)) - 1), wrap64 ((Int.tmod (wrap64 (Int.tdiv x10_1 9)) 3) - 1), wrap64 ((Int.tmod (wrap64 (Int.tdiv x10_1 3)) 3) - 1), wrap64 ((Int.tmod x10_1 3) - 1)⟩ : S27) [.int .i64 (wrap64 ((wrap64 (Int.tdiv x10_1 27)) - 1)), .int .i64 (wrap64 ((Int.tmod (wrap64 (Int.tdiv x10_1 9)) 3) - 1)), .int .i64 (wrap64 ((Int.tmod (wrap64 (Int.tdiv x10_1 3)) 3) - 1)), .int .i64 (wrap64 ((Int.tmod x10_1 3) - 1))] (fun k_ => k_ ≠ gb360) (fun _ => False) rfl rfl ?aP (fun _ hk => hk.elim) ?aF ?aO ?aB ?aS ?aL ?_; (case aP => exact k27_mkM _ _ _ (⟨wrap64 ((wrap64 (Int.tdiv x10_1 27)) - 1), wrap64 ((Int.tmod (wrap64 (Int.tdiv x10_1 9)) 3) - 1), wrap64 ((Int.tmod (wrap64 (Int.tdiv x10_1 3)) 3) - 1), wrap64 ((Int.tmod x10_1 3) - 1)⟩ : S27)); (case aB => exact (bbw4 HB GE360 GE367 GE368 GE369)); (case aF => exact (fun k_ hk => Kd.freshB (g := gb360) (o := .cells #[.int .i64 (wrap64 ((wrap64 (Int.tdiv x10_1 27)) - 1)), .int .i64 (wrap64 ((Int.tmod (wrap64 (Int.tdiv x10_1 9)) 3) - 1)), .int .i64 (wrap64 ((Int.tmod (wrap64 (Int.tdiv x10_1 3)) 3) - 1)), .int .i64 (wrap64 ((Int.tmod x10_1 3) - 1))] 27 (0, 0)) (bkp BK360) k_ hk)); (case aO => exact (kr HO_3)); (case aS => exact (bsz4 HB GE360 GE367 GE368 GE369)); (case aL => have := LMc14.out; omega); intro v374 w45 ho hb hg hat; rw [← Ny373.out] at ho; have n0_ := asd (blk_grown (g := gb360) (o := .cells #[.int .i64 (wrap64 ((wrap64 (Int.tdiv x10_1 27)) - 1)), .int .i64 (wrap64 ((Int.tmod (wrap64 (Int.tdiv x10_1 9)) 3) - 1)), .int .i64 (wrap64 ((Int.tmod (wrap64 (Int.tdiv x10_1 3)) 3) - 1)), .int .i64 (wrap64 ((Int.tmod x10_1 3) - 1))] 27 (0, 0)) (bkp BK360) hg (Kd.R_away HO_3.out (fun _ hk => hk))); have n1_ := asd (blk_grown (g := gb367) (o := .cells #[.int .i64 t361, .int .i64 t362] 31 (0, 0)) (bkp BK367) hg (Kd.R_ne HO_3.out BK367.out (by decide))); have n2_ := asd (blk_grown (g := gb368) (o := .cells #[.int .i64 t363, .int .i64 t364] 31 (0, 0)) (bkp BK368) hg (Kd.R_ne HO_3.out BK368.out (by decide))); have n3_ := asd (blk_grown (g := gb369) (o := .cells #[.int .i64 t365, .int .i64 t366] 31 (0, 0)) (bkp BK369) hg (Kd.R_ne HO_3.out BK369.out (by decide))); have n4_ := asd (hb); have n5_ := asd (ho); clear BK360; clear BK367; clear BK368; clear BK369; clear HB; clear HO_3; have BK360 := n0_; have BK367 := n1_; have BK368 := n2_; have BK369 := n3_; have HB := n4_; have HO375 := n5_; clear n0_ n1_ n2_ n3_ n4_ n5_; clear ho hb hg hat))
    rotate_left
    try go_wp2_with (first | ((with_reducible refine gate_callee (f := 107) rfl ?_); refine gl 39 Tryz.func107 #[.int .i64 a0, .agg #[.int .i64 t361, .int .i64 t362]] ?_; (with_reducible refine (impl_norm.calls _ _ _ _ _ A8.out).mono ?_); rintro e w67 ⟨rfl, hb⟩; refine ⟨_, rfl, ?_⟩; replace HO_3 := asd (Kd.R_below (kr HO_3) hb); replace BK360 := bB BK360 hb; replace BK367 := bB BK367 hb; replace BK368 := bB BK368 hb; replace BK369 := bB BK369 hb; replace HB := bS4 HB GE360 GE367 GE368 GE369 hb; (try clear hb); have hnb68 := NB368_360.out; have hnc68 := NB360_368.out; have hnb69 := NB368_369.out; have hnc69 := NB369_368.out; obtain ⟨hcz70_0, hcz70_1, hfz70_0, hfz70_1⟩ := bz2 BK368) | (go_at_call 107; (with_reducible refine (impl_norm.calls _ _ _ _ _ A10.out).mono ?_); rintro e w71 ⟨rfl, hb⟩; replace HO_3 := asd (Kd.R_below (kr HO_3) hb); replace BK360 := bB BK360 hb; replace BK367 := bB BK367 hb; replace BK368 := bB BK368 hb; replace BK369 := bB BK369 hb; replace HB := bS4 HB GE360 GE367 GE368 GE369 hb; (try clear hb); have hnb72 := NB369_360.out; have hnc72 := NB360_369.out; obtain ⟨hcz73_0, hcz73_1, hfz73_0, hfz73_1⟩ := bz2 BK369) | (go_at_call 107; (with_reducible refine (impl_norm.calls _ _ _ _ _ A12.out).mono ?_); rintro e w74 ⟨rfl, hb⟩; replace HO_3 := asd (Kd.R_below (kr HO_3) hb); replace BK360 := bB BK360 hb; replace BK367 := bB BK367 hb; replace BK368 := bB BK368 hb; replace BK369 := bB BK369 hb; replace HB := bS4 HB GE360 GE367 GE368 GE369 hb; (try clear hb)))
    rotate_left
    try go_wp2_with (first | ((with_reducible refine gate_callee (f := 107) rfl ?_); refine gl 39 Tryz.func107 #[.int .i64 a0, .agg #[.int .i64 t361, .int .i64 t362]] ?_; (with_reducible refine (impl_norm.calls _ _ _ _ _ A8.out).mono ?_); rintro e w96 ⟨rfl, hb⟩; refine ⟨_, rfl, ?_⟩; replace HO_3 := asd (Kd.R_below (kr HO_3) hb); replace BK360 := bB BK360 hb; replace BK367 := bB BK367 hb; replace BK368 := bB BK368 hb; replace BK369 := bB BK369 hb; replace HB := bS4 HB GE360 GE367 GE368 GE369 hb; (try clear hb); have hnb97 := NB368_360.out; have hnc97 := NB360_368.out; have hnb98 := NB368_369.out; have hnc98 := NB369_368.out; obtain ⟨hcz99_0, hcz99_1, hfz99_0, hfz99_1⟩ := bz2 BK368) | (go_at_call 107; (with_reducible refine (impl_norm.calls _ _ _ _ _ A10.out).mono ?_); rintro e w100 ⟨rfl, hb⟩; replace HO_3 := asd (Kd.R_below (kr HO_3) hb); replace BK360 := bB BK360 hb; replace BK367 := bB BK367 hb; replace BK368 := bB BK368 hb; replace BK369 := bB BK369 hb; replace HB := bS4 HB GE360 GE367 GE368 GE369 hb; (try clear hb)))
    rotate_left
    try go_wp2_with (first | ((with_reducible refine gate_callee (f := 107) rfl ?_); refine gl 39 Tryz.func107 #[.int .i64 a0, .agg #[.int .i64 t361, .int .i64 t362]] ?_; (with_reducible refine (impl_norm.calls _ _ _ _ _ A8.out).mono ?_); rintro e w122 ⟨rfl, hb⟩; refine ⟨_, rfl, ?_⟩; replace HO_3 := asd (Kd.R_below (kr HO_3) hb); replace BK360 := bB BK360 hb; replace BK367 := bB BK367 hb; replace BK368 := bB BK368 hb; replace BK369 := bB BK369 hb; replace HB := bS4 HB GE360 GE367 GE368 GE369 hb; (try clear hb)))
    rotate_left
    all_goals
     go_roundg k1
     case measure => have := HK1.out; omega
    ·case rel => exact ⟨(y373), (wrap64 (x10_1 + 1)), (by first | rfl | (simp; done) | (simp [*]; done)), H', ⟨by have := HK1.out; omega⟩, ⟨by (with_reducible repeat (first | apply Kd.R_alloc | apply Kd.R_drewN | apply Kd.R_drew)); exact Kd.R_mono HO375.out (fun _ hk => trivial)⟩, ⟨bbw4 HB GE360 GE367 GE368 GE369⟩⟩
    rotate_left 3
    all_goals
     case rel => exact ⟨(x3_1), (wrap64 (x10_1 + 1)), (by first | rfl | (simp; done) | (simp [*]; done)), H', ⟨by have := HK1.out; omega⟩, ⟨by (with_reducible repeat (first | apply Kd.R_alloc | apply Kd.R_drewN | apply Kd.R_drew)); exact Kd.R_mono HO_3.out (fun _ hk => trivial)⟩, ⟨bbw4 HB GE360 GE367 GE368 GE369⟩⟩
   ·rw [if_neg c4] at H
    have c4b0 := decide_eq_false c4
    clear c4
    obtain rfl := Option.some.inj H
    go_wp2
    go_ret
    exact ⟨_, by first | rfl | (simp [errW_none, errW_some] <;> rfl) | (simp [*, errW_none, errW_some] <;> rfl), by (with_reducible repeat (first | apply Kd.R_alloc | apply Kd.R_drewN | apply Kd.R_drew)); exact HO_3.out, bbw0 HB⟩
/-! ### impl_latticeMats: function 48 -/
def impl_latticeMats.app (m : S27) (x y : Int) : Int × Int := (impl_Mat_apply.f m.f0 m.f1 m.f2 m.f3 x y).getD (0, 0)
def impl_latticeMats.hasB (a b c : Int) (t : Int × Int) : Bool := (impl_Lattice_has.f a b c t.1 t.2).getD false
/-- Does a matrix map a lattice into itself? -/
def impl_latticeMats.keep (a b c : Int) (m : S27) : Bool := impl_latticeMats.hasB a b c (impl_latticeMats.app m a 0) && impl_latticeMats.hasB a b c (impl_latticeMats.app m b c)
theorem impl_latticeMats.app_eq (m : S27) (x y : Int) : impl_Mat_apply.f m.f0 m.f1 m.f2 m.f3 x y = some ((impl_latticeMats.app m x y).1, (impl_latticeMats.app m x y).2) := rfl
theorem impl_latticeMats.has_eq (a b c : Int) (ha : a ≠ 0) (hc : c ≠ 0) (t : Int × Int) : impl_Lattice_has.f a b c t.1 t.2 = some (impl_latticeMats.hasB a b c t) := by
 have : (impl_Lattice_has.f a b c t.1 t.2).isSome = true := by
  simp [impl_Lattice_has.f, impl_Lattice_reduce.f, impl_mod.f, ha, hc]
 obtain ⟨r, hr⟩ := Option.isSome_iff_exists.1 this
 unfold impl_latticeMats.hasB
 rw [hr]; rfl
def impl_latticeMats.f (k : Nat) (a0 : Int) (a1_0 : Int) (a1_1 : Int) (a1_2 : Int) : Option (List S27) := if a1_0 = 0 then none else (if a1_2 = 0 then none else ((impl_pointMats.f k a0).bind fun l => some (l.filter (impl_latticeMats.keep a1_0 a1_1 a1_2))))
abbrev impl_latticeMats.Held (W : World) (a b c : Int) (L U V B : Nat) (x : S27) (w' : World) : Prop := Below W.heap.size W w' ∧ w'.cell? ⟨L, 0, none⟩ = some (.int .i64 a) ∧ w'.cell? ⟨L, 1, none⟩ = some (.int .i64 b) ∧ w'.cell? ⟨L, 2, none⟩ = some (.int .i64 c) ∧ w'.cell? ⟨U, 0, none⟩ = some (.int .i64 a) ∧ w'.cell? ⟨U, 1, none⟩ = some (.int .i64 0) ∧ w'.cell? ⟨V, 0, none⟩ = some (.int .i64 b) ∧ w'.cell? ⟨V, 1, none⟩ = some (.int .i64 c) ∧ w'.cell? ⟨B, 0, none⟩ = some (.int .i64 x.f0) ∧ w'.cell? ⟨B, 1, none⟩ = some (.int .i64 x.f1) ∧ w'.cell? ⟨B, 2, none⟩ = some (.int .i64 x.f2) ∧ w'.cell? ⟨B, 3, none⟩ = some (.int .i64 x.f3)
theorem impl_latticeMats.held_below {W : World} {a b c : Int} {L U V B : Nat} {x : S27} {w w' : World} (h : impl_latticeMats.Held W a b c L U V B x w) (hb : Below w.heap.size w w') : impl_latticeMats.Held W a b c L U V B x w' := by
 obtain ⟨h0, s0, s1, s2, s3, s4, s5, s6, s7, s8, s9, s10⟩ := h
 exact ⟨below_then h0 h0.size hb, (hb.cell (World.block_lt_of_cell? w _ s0)).trans s0, (hb.cell (World.block_lt_of_cell? w _ s1)).trans s1, (hb.cell (World.block_lt_of_cell? w _ s2)).trans s2, (hb.cell (World.block_lt_of_cell? w _ s3)).trans s3, (hb.cell (World.block_lt_of_cell? w _ s4)).trans s4, (hb.cell (World.block_lt_of_cell? w _ s5)).trans s5, (hb.cell (World.block_lt_of_cell? w _ s6)).trans s6, (hb.cell (World.block_lt_of_cell? w _ s7)).trans s7, (hb.cell (World.block_lt_of_cell? w _ s8)).trans s8, (hb.cell (World.block_lt_of_cell? w _ s9)).trans s9, (hb.cell (World.block_lt_of_cell? w _ s10)).trans s10⟩
theorem impl_latticeMats.held_drew {W : World} {a b c : Int} {L U V B : Nat} {x : S27} {w : World} (h : impl_latticeMats.Held W a b c L U V B x w) : impl_latticeMats.Held W a b c L U V B x w.drew := ⟨below_drew1 h.1, h.2⟩
set_option maxHeartbeats 40000000 in
set_option maxRecDepth 100000 in
theorem impl_latticeMats.pred (a b c : Int) (L U V : Nat) (W : World) (hl0 : W.cell? ⟨L, 0, none⟩ = some (.int .i64 a)) (hl1 : W.cell? ⟨L, 1, none⟩ = some (.int .i64 b)) (hl2 : W.cell? ⟨L, 2, none⟩ = some (.int .i64 c)) (hu0 : W.cell? ⟨U, 0, none⟩ = some (.int .i64 a)) (hu1 : W.cell? ⟨U, 1, none⟩ = some (.int .i64 0)) (hv0 : W.cell? ⟨V, 0, none⟩ = some (.int .i64 b)) (hv1 : W.cell? ⟨V, 1, none⟩ = some (.int .i64 c)) (ha : a ≠ 0) (hc : c ≠ 0) (x : S27) :
  Calls Tryz.prog 86 (#[.agg #[.int .i64 x.f0, .int .i64 x.f1, .int .i64 x.f2, .int .i64 x.f3]] ++ #[.pointer (some ⟨L, 0, none⟩), .pointer (some ⟨U, 0, none⟩), .pointer (some ⟨V, 0, none⟩)]) W fun e w' => e = .returned (.bool (!(impl_latticeMats.keep a b c x))) ∧ Below W.heap.size W w' := by
 show Calls Tryz.prog 86 #[.agg #[.int .i64 x.f0, .int .i64 x.f1, .int .i64 x.f2, .int .i64 x.f3], .pointer (some ⟨L, 0, none⟩), .pointer (some ⟨U, 0, none⟩), .pointer (some ⟨V, 0, none⟩)] W _
 have hu33 := Tryz.underlying27
 have hu34 := Tryz.underlying31
 have hu31 := Tryz.underlying25
 have A1 := asd (impl_latticeMats.app_eq x a 0)
 have A2 := asd (impl_latticeMats.has_eq a b c ha hc (impl_latticeMats.app x a 0))
 have A3 := asd (impl_latticeMats.app_eq x b c)
 have A4 := asd (impl_latticeMats.has_eq a b c ha hc (impl_latticeMats.app x b c))
 unfold impl_latticeMats.keep
 generalize impl_latticeMats.app x a 0 = p1 at A1 A2 ⊢
 generalize impl_latticeMats.app x b c = p2 at A3 A4 ⊢
 generalize impl_latticeMats.hasB a b c p1 = r1 at A2 ⊢
 generalize impl_latticeMats.hasB a b c p2 = r2 at A4 ⊢
 have hb0 := below_alloc (Below.refl W.heap.size W) (.cells #[.int .i64 x.f0, .int .i64 x.f1, .int .i64 x.f2, .int .i64 x.f3] 27)
 have hS0 : impl_latticeMats.Held W a b c L U V W.heap.size x (W.alloc (.cells #[.int .i64 x.f0, .int .i64 x.f1, .int .i64 x.f2, .int .i64 x.f3] 27)) :=
  ⟨hb0, (hb0.cell (World.block_lt_of_cell? W _ hl0)).trans hl0, (hb0.cell (World.block_lt_of_cell? W _ hl1)).trans hl1, (hb0.cell (World.block_lt_of_cell? W _ hl2)).trans hl2, (hb0.cell (World.block_lt_of_cell? W _ hu0)).trans hu0, (hb0.cell (World.block_lt_of_cell? W _ hu1)).trans hu1, (hb0.cell (World.block_lt_of_cell? W _ hv0)).trans hv0, (hb0.cell (World.block_lt_of_cell? W _ hv1)).trans hv1, by simp, by simp, by simp, by simp⟩
 have C1 := asd (fun (w' : World) (h : impl_latticeMats.Held W a b c L U V W.heap.size x w') => (impl_Mat_apply.calls _ _ _ _ _ _ _ _ _ A1.out).mono (fun e w'' (he : _ ∧ _) => (⟨he.1, impl_latticeMats.held_below h he.2⟩ : _ ∧ impl_latticeMats.Held W a b c L U V W.heap.size x w'')))
 have C2 := asd (fun (w' : World) (h : impl_latticeMats.Held W a b c L U V W.heap.size x w') => (impl_Lattice_has.calls _ _ _ _ _ _ _ A2.out).mono (fun e w'' (he : _ ∧ _) => (⟨he.1, impl_latticeMats.held_below h he.2⟩ : _ ∧ impl_latticeMats.Held W a b c L U V W.heap.size x w'')))
 have C3 := asd (fun (w' : World) (h : impl_latticeMats.Held W a b c L U V W.heap.size x w') => (impl_Mat_apply.calls _ _ _ _ _ _ _ _ _ A3.out).mono (fun e w'' (he : _ ∧ _) => (⟨he.1, impl_latticeMats.held_below h he.2⟩ : _ ∧ impl_latticeMats.Held W a b c L U V W.heap.size x w'')))
 have C4 := asd (fun (w' : World) (h : impl_latticeMats.Held W a b c L U V W.heap.size x w') => (impl_Lattice_has.calls _ _ _ _ _ _ _ A4.out).mono (fun e w'' (he : _ ∧ _) => (⟨he.1, impl_latticeMats.held_below h he.2⟩ : _ ∧ impl_latticeMats.Held W a b c L U V W.heap.size x w'')))
 clear hl0 hl1 hl2 hu0 hu1 hv0 hv1 ha hc hb0
 have hS1 := hS0
 obtain ⟨sb, s0, s1, s2, s3, s4, s5, s6, s7, s8, s9, s10⟩ := hS0
 cases r1 with
 | false =>
  go_enter Tryz.func86, Tryz.ntmps86
  go_wp2
  refine wp_region_held_drew (S := (fun w' => Below W.heap.size W w' ∧ w'.cell? ⟨L, 0, none⟩ = some (.int .i64 a) ∧ w'.cell? ⟨L, 1, none⟩ = some (.int .i64 b) ∧ w'.cell? ⟨L, 2, none⟩ = some (.int .i64 c) ∧ w'.cell? ⟨U, 0, none⟩ = some (.int .i64 a) ∧ w'.cell? ⟨U, 1, none⟩ = some (.int .i64 0) ∧ w'.cell? ⟨V, 0, none⟩ = some (.int .i64 b) ∧ w'.cell? ⟨V, 1, none⟩ = some (.int .i64 c) ∧ w'.cell? ⟨W.heap.size, 0, none⟩ = some (.int .i64 x.f0) ∧ w'.cell? ⟨W.heap.size, 1, none⟩ = some (.int .i64 x.f1) ∧ w'.cell? ⟨W.heap.size, 2, none⟩ = some (.int .i64 x.f2) ∧ w'.cell? ⟨W.heap.size, 3, none⟩ = some (.int .i64 x.f3))) (by kernel_rfl) (impl_latticeMats.held_drew hS1) (fun hHeld => ?_)
  refine wpAnyH_take (i := 0) (v := ?_) rfl (by kernel_rfl) (by kernel_rfl) (by kernel_rfl) (fun _ _ _ h => h) (Or.inl ⟨by rfl, ?_⟩) (by assumption) ?_
  rotate_left
  ·intro w' hSw; (try dsimp only at hSw); go_simp; first | done | with_reducible rfl
  rotate_left
  try simp only [Act.put, sA, sB, sC]
  refine wpAnyH_take (i := 1) (v := ?_) rfl (by kernel_rfl) (by kernel_rfl) (by kernel_rfl) (fun _ _ _ h => h) (Or.inl ⟨by rfl, ?_⟩) (by assumption) ?_
  rotate_left
  ·intro w' hSw; (try dsimp only at hSw); go_simp; first | done | with_reducible rfl
  rotate_left
  try simp only [Act.put, sA, sB, sC]
  refine wpAnyH_take (i := 2) (v := ?_) rfl (by kernel_rfl) (by kernel_rfl) (by kernel_rfl) (fun _ _ _ h => h) (Or.inl ⟨by rfl, ?_⟩) (by assumption) ?_
  rotate_left
  ·intro w' hSw; (try dsimp only at hSw); go_simp; first | done | with_reducible rfl
  rotate_left
  try simp only [Act.put, sA, sB, sC]
  refine wpAnyH_ready (rs := [3]) (by kernel_rfl) (by simp) ?_
  refine AllReadyH.cons rfl (fun K hK => ?_) AllReadyH.nil
  go_simp
  go_at_call 43
  (with_reducible refine (C1.out _ ?_).mono ?_)
  (assumption)
  rintro e w' ⟨rfl, hS'⟩
  refine hK.out _ _ (hS') (fun hHeld => ?_)
  clear hK K
  try simp only [Act.put, sA, sB, sC]
  refine wpAnyH_ready (rs := [4]) (by kernel_rfl) (by simp) ?_
  refine AllReadyH.cons rfl (fun K hK => ?_) AllReadyH.nil
  go_simp
  go_at_call 39
  (with_reducible refine (C2.out _ ?_).mono ?_)
  (assumption)
  rintro e w' ⟨rfl, hS'⟩
  refine hK.out _ _ (hS') (fun hHeld => ?_)
  clear hK K
  try simp only [Act.put, sA, sB, sC]
  refine wpAnyH_take (i := 5) (oi := { dst := some 11, op := _, type := _, pos := _, after := _, guard := _ }) (v := ?_) rfl (by kernel_rfl) (by kernel_rfl) (by kernel_rfl) (fun _ _ _ h => h) (Or.inl ⟨by rfl, ?_⟩) (by assumption) ?_
  rotate_left
  ·intro w' hSw; (try dsimp only at hSw); go_simp; first | done | with_reducible rfl
  rotate_left
  try simp only [Act.put, sA, sB, sC]
  refine wpAnyH_take (i := 6) (oi := { dst := some 12, op := _, type := _, pos := _, after := _, guard := _ }) (v := ?_) rfl (by kernel_rfl) (by kernel_rfl) (by kernel_rfl) (fun _ _ _ h => h) (Or.inl ⟨by rfl, ?_⟩) (by assumption) ?_
  rotate_left
  ·intro w' hSw; (try dsimp only at hSw); go_simp; first | done | with_reducible rfl
  rotate_left
  try simp only [Act.put, sA, sB, sC]
  refine wpAnyH_take (i := 7) (oi := { dst := some 13, op := _, type := _, pos := _, after := _, guard := _ }) (v := _) rfl (by kernel_rfl) (by kernel_rfl) (by kernel_rfl) (fun _ _ _ h => h) (Or.inr ⟨by rfl, rfl⟩) (by assumption) ?_
  try simp only [Act.put, sA, sB, sC]
  refine wpAnyH_take (i := 8) (oi := { dst := some 14, op := _, type := _, pos := _, after := _, guard := _ }) (v := _) rfl (by kernel_rfl) (by kernel_rfl) (by kernel_rfl) (fun _ _ _ h => h) (Or.inr ⟨by rfl, rfl⟩) (by assumption) ?_
  try simp only [Act.put, sA, sB, sC]
  refine wpAnyH_take (i := 9) (oi := { dst := some 15, op := _, type := _, pos := _, after := _, guard := _ }) (v := _) rfl (by kernel_rfl) (by kernel_rfl) (by kernel_rfl) (fun _ _ _ h => h) (Or.inr ⟨by rfl, rfl⟩) (by assumption) ?_
  try simp only [Act.put, sA, sB, sC]
  refine wpAnyH_take (i := 10) (oi := { dst := some 16, op := _, type := _, pos := _, after := _, guard := _ }) (v := _) rfl (by kernel_rfl) (by kernel_rfl) (by kernel_rfl) (fun _ _ _ h => h) (Or.inr ⟨by rfl, rfl⟩) (by assumption) ?_
  try simp only [Act.put, sA, sB, sC]
  refine wpAnyH_take (i := 11) (oi := { dst := some 17, op := _, type := _, pos := _, after := _, guard := _ }) (v := _) rfl (by kernel_rfl) (by kernel_rfl) (by kernel_rfl) (fun _ _ _ h => h) (Or.inr ⟨by rfl, rfl⟩) (by assumption) ?_
  try simp only [Act.put, sA, sB, sC]
  refine wpAnyH_take (i := 12) (oi := { dst := some 18, op := Op.unOp UnOp.not _ (Operand.tmp 17), type := _, pos := _, after := _, guard := _ }) (v := _) rfl (by kernel_rfl) (by kernel_rfl) (by kernel_rfl) (fun _ _ _ h => h) (Or.inr ⟨by rfl, rfl⟩) (by assumption) ?_
  try simp only [Act.put, sA, sB, sC]
  refine wpAnyH_take (i := 13) (oi := { dst := some 19, op := Op.pick (Operand.tmp 12) (Operand.const (Value.bool true)) (Operand.tmp 18), type := _, pos := _, after := _, guard := _ }) (v := ?_) rfl (by kernel_rfl) (by kernel_rfl) (by kernel_rfl) (fun _ _ _ h => h) (Or.inl ⟨by rfl, ?_⟩) (by assumption) ?_
  rotate_left
  ·intro w' hSw; (try dsimp only at hSw); go_simp; first | done | with_reducible rfl
  rotate_left
  try simp only [Act.put, sA, sB, sC]
  refine wpAnyH_take (i := 14) (oi := { dst := some 5, op := Op.assign (Operand.tmp 19), type := _, pos := _, after := _, guard := _ }) (v := ?_) rfl (by kernel_rfl) (by kernel_rfl) (by kernel_rfl) (fun _ _ _ h => h) (Or.inl ⟨by rfl, ?_⟩) (by assumption) ?_
  rotate_left
  ·intro w' hSw; (try dsimp only at hSw); go_simp; first | done | with_reducible rfl
  rotate_left
  try simp only [Act.put, sA, sB, sC]
  refine wpAnyH_done (by kernel_rfl) ?_ _
  all_goals go_wp2
  all_goals go_ret
  all_goals exact ⟨by first | rfl | (cases r2 <;> rfl), (show impl_latticeMats.Held W a b c L U V W.heap.size x _ by assumption).1⟩
 | true =>
  go_enter Tryz.func86, Tryz.ntmps86
  go_wp2
  first | (go_region_held3 (fun w' => Below W.heap.size W w' ∧ w'.cell? ⟨L, 0, none⟩ = some (.int .i64 a) ∧ w'.cell? ⟨L, 1, none⟩ = some (.int .i64 b) ∧ w'.cell? ⟨L, 2, none⟩ = some (.int .i64 c) ∧ w'.cell? ⟨U, 0, none⟩ = some (.int .i64 a) ∧ w'.cell? ⟨U, 1, none⟩ = some (.int .i64 0) ∧ w'.cell? ⟨V, 0, none⟩ = some (.int .i64 b) ∧ w'.cell? ⟨V, 1, none⟩ = some (.int .i64 c) ∧ w'.cell? ⟨W.heap.size, 0, none⟩ = some (.int .i64 x.f0) ∧ w'.cell? ⟨W.heap.size, 1, none⟩ = some (.int .i64 x.f1) ∧ w'.cell? ⟨W.heap.size, 2, none⟩ = some (.int .i64 x.f2) ∧ w'.cell? ⟨W.heap.size, 3, none⟩ = some (.int .i64 x.f3)) (first | assumption | exact impl_latticeMats.held_drew hS1 | go_keep)
   (first | (go_at_call 43; (with_reducible refine (C1.out _ ?_).mono ?_); (assumption); rintro e w' ⟨rfl, hS'⟩) | (go_at_call 39; (with_reducible refine (C2.out _ ?_).mono ?_); (assumption); rintro e w' ⟨rfl, hS'⟩) | (go_at_call 43; (with_reducible refine (C3.out _ ?_).mono ?_); (assumption); rintro e w' ⟨rfl, hS'⟩) | (go_at_call 39; (with_reducible refine (C4.out _ ?_).mono ?_); (assumption); rintro e w' ⟨rfl, hS'⟩))) | (fail "held3")
  all_goals go_wp2
  all_goals go_ret
  all_goals exact ⟨by first | rfl | (cases r2 <;> rfl), (show impl_latticeMats.Held W a b c L U V W.heap.size x _ by assumption).1⟩
set_option maxHeartbeats 4000000 in
set_option maxRecDepth 100000 in
theorem impl_latticeMats.calls (k : Nat) (a0 : Int) (a1_0 : Int) (a1_1 : Int) (a1_2 : Int) (r : List S27) (w : World) (h : impl_latticeMats.f k a0 a1_0 a1_1 a1_2 = some r) :
  Calls Tryz.prog 48 #[.int .i64 a0, .agg #[.int .i64 a1_0, .int .i64 a1_1, .int .i64 a1_2]] w fun e w' => ∃ v0_ : Value, e = .returned (v0_) ∧ Kd.R k27 27 w' w.heap.size (fun _ => True) v0_ r ∧ Below w.heap.size w w' := by
 have hu34 := Tryz.underlying31
 have hu31 := Tryz.underlying25
 unfold impl_latticeMats.f at h
 by_cases ha : a1_0 = 0
 ·rw [if_pos ha] at h; cases h
 rw [if_neg ha] at h
 by_cases hc : a1_2 = 0
 ·rw [if_pos hc] at h; cases h
 rw [if_neg hc] at h
 obtain ⟨l, h1, h2⟩ := Option.bind_eq_some_iff.1 h
 have hr := Option.some.inj h2
 subst hr
 have A1 := Aside0.mk h1
 have HA := Aside0.mk ha
 have HC := Aside0.mk hc
 have ABS := asd (show impl_Lattice_basis.f a1_0 a1_1 a1_2 = some (a1_0, 0, a1_1, a1_2) from rfl)
 clear h h1 h2 ha hc
 have eg : ∀ args w, (callFunc 86 args).run Tryz.prog w = .ok (.enter 86 args) w := enters_of Tryz.func86 (by kernel_rfl) rfl
 have EG := Aside0.mk eg
 clear eg
 go_enter Tryz.func48, Tryz.ntmps48
 go_wp2_with (first | (go_at_call 63; (with_reducible refine (impl_Lattice_basis.calls _ _ _ _ _ _ _ _ ABS.out).mono ?_); rintro e w2 ⟨rfl, hb2⟩; have HB2 := asd (below_then (below_alloc (Below.refl w.heap.size w) _) (below_alloc (Below.refl w.heap.size w) _).size hb2); have HL := Aside0.mk hb2; clear hb2) | (go_at_call 85; (with_reducible refine (impl_pointMats.calls _ _ _ _ A1.out).mono ?_); rintro e w3 ⟨v0, rfl, hR, hb3⟩; have HR3 := Aside0.mk hR; have HB3 := Aside0.mk hb3; clear hR hb3))
 obtain ⟨wA, hwA⟩ : ∃ wA, wA = (w2.alloc (.cells #[.int .i64 a1_0, .int .i64 0] 31)).alloc (.cells #[.int .i64 a1_1, .int .i64 a1_2] 31) := ⟨_, rfl⟩
 have hAB : Below w2.heap.size w2 wA := by rw [hwA]; exact below_alloc (below_alloc (Below.refl _ _) _) _
 have hl : ∀ o v, (w.alloc (.cells #[.int .i64 a1_0, .int .i64 a1_1, .int .i64 a1_2] 25)).cell? ⟨w.heap.size, o, none⟩ = some v → wA.cell? ⟨w.heap.size, o, none⟩ = some v := fun o v hv => by
  have h1 : w2.cell? ⟨w.heap.size, o, none⟩ = some v := (HL.out.cell (p := ⟨w.heap.size, o, none⟩) (by simp)).trans hv
  exact (hAB.cell (World.block_lt_of_cell? w2 _ h1)).trans h1
 have hl0 := hl 0 (.int .i64 a1_0) (by simp)
 have hl1 := hl 1 (.int .i64 a1_1) (by simp)
 have hl2 := hl 2 (.int .i64 a1_2) (by simp)
 have hu0 : wA.cell? ⟨w2.heap.size, 0, none⟩ = some (.int .i64 a1_0) := by rw [hwA]; simp
 have hu1 : wA.cell? ⟨w2.heap.size, 1, none⟩ = some (.int .i64 0) := by rw [hwA]; simp
 have hv0 : wA.cell? ⟨w2.heap.size + 1, 0, none⟩ = some (.int .i64 a1_1) := by rw [hwA]; simp
 have hv1 : wA.cell? ⟨w2.heap.size + 1, 1, none⟩ = some (.int .i64 a1_2) := by rw [hwA]; simp
 have hBA : Below w.heap.size w wA := below_then HB2.out HB2.out.size hAB
 have HR4 := HR3.out
 have HB4 := HB3.out
 rw [← hwA] at HR4 HB4
 have up : ∀ (W : World) (p : Addr) (v : Value), Below wA.heap.size wA W → wA.cell? p = some v → W.cell? p = some v := fun W p v hb h => (hb.cell (World.block_lt_of_cell? wA _ h)).trans h
 refine (impl_Mat_84.calls (fun x => !(impl_latticeMats.keep a1_0 a1_1 a1_2 x)) 86 #[.pointer (some ⟨w.heap.size, 0, none⟩), .pointer (some ⟨w2.heap.size, 0, none⟩), .pointer (some ⟨w2.heap.size + 1, 0, none⟩)] EG.out (fun k_ => wA.heap.size ≤ k_) v0 l wA w3 HB4 (Kd.R_mono (Kd.R_bound HR4) (fun k_ hk => hk.2.1)) (fun x W hb _ => impl_latticeMats.pred a1_0 a1_1 a1_2 w.heap.size w2.heap.size (w2.heap.size + 1) W (up W _ _ hb hl0) (up W _ _ hb hl1) (up W _ _ hb hl2) (up W _ _ hb hu0) (up W _ _ hb hu1) (up W _ _ hb hv0) (up W _ _ hb hv1) HA.out HC.out x)).mono ?_
 rintro e w4 ⟨v', rfl, hR4, hb4, _⟩
 have HR5 := Aside0.mk hR4
 have HB5 := Aside0.mk hb4
 have HBA := Aside0.mk hBA
 clear hl hl0 hl1 hl2 hu0 hu1 hv0 hv1 hAB hBA HR4 HB4 up hR4 hb4 hwA
 go_wp2
 go_ret
 refine ⟨_, rfl, ?_, below_then HBA.out HBA.out.size HB5.out⟩
 have hf : (l.filter fun x => !(!(impl_latticeMats.keep a1_0 a1_1 a1_2 x))) = l.filter (impl_latticeMats.keep a1_0 a1_1 a1_2) := by congr 1; funext x; simp
 have := HR5.out
 rw [hf] at this
 exact Kd.R_mono (Kd.R_lower this HBA.out.size) (fun _ _ => trivial)
/-! ### impl_Mat_det: function 75 -/
def impl_Mat_det.f (a0_0 : Int) (a0_1 : Int) (a0_2 : Int) (a0_3 : Int) : Option (Int) := some (wrap64 ((wrap64 (a0_0 * a0_3)) - (wrap64 (a0_1 * a0_2))))
set_option maxHeartbeats 8000000 in
set_option maxRecDepth 100000 in
theorem impl_Mat_det.calls (a0_0 : Int) (a0_1 : Int) (a0_2 : Int) (a0_3 : Int) (r : Int) (w : World) (h : impl_Mat_det.f a0_0 a0_1 a0_2 a0_3 = some r) :
  Calls Tryz.prog 75 #[.agg #[.int .i64 a0_0, .int .i64 a0_1, .int .i64 a0_2, .int .i64 a0_3]] w fun e w' => e = .returned (.int .i64 r) ∧ Below w.heap.size w w' := by
 have hu27 := Tryz.underlying27
 have HB := asd (Below.refl w.heap.size w)
 have H : (some (wrap64 ((wrap64 (a0_0 * a0_3)) - (wrap64 (a0_1 * a0_2))))) = some r := h
 clear h
 obtain rfl := Option.some.inj H
 go_enter Tryz.func75, Tryz.ntmps75
 go_wp2_with (first | ((with_reducible refine gd 1 rfl ?_); refine bx #[.int .i64 a0_0, .int .i64 a0_1, .int .i64 a0_2, .int .i64 a0_3] 27 ?_; intro gb376 hg w2 BK376 hb; have GE376 := ngw0 hg HB; replace HB := bS0 HB hb; clear hb hg; obtain ⟨hcz3_0, hcz3_1, hcz3_2, hcz3_3, hfz3_0, hfz3_1, hfz3_2, hfz3_3⟩ := bz4 BK376))
 go_ret
 exact er (bbw1 HB GE376)
/-! ### impl_unit: function 74 -/
def impl_unit.f  : Option (Int × Int × Int × Int) := some (1, 0, 0, 1)
set_option maxHeartbeats 8000000 in
set_option maxRecDepth 100000 in
theorem impl_unit.calls  (r1 : Int) (r2 : Int) (r3 : Int) (r4 : Int) (w : World) (h : impl_unit.f  = some (r1, r2, r3, r4)) :
  Calls Tryz.prog 74 #[] w fun e w' => e = .returned (.agg #[.int .i64 r1, .int .i64 r2, .int .i64 r3, .int .i64 r4]) ∧ Below w.heap.size w w' := by
 have hu27 := Tryz.underlying27
 have HB := asd (Below.refl w.heap.size w)
 have H : (some (1, 0, 0, 1)) = some (r1, r2, r3, r4) := h
 clear h
 simp only [Option.some.injEq, Prod.mk.injEq] at H
 obtain ⟨rfl, rfl, rfl, rfl⟩ := H
 go_enter Tryz.func74, Tryz.ntmps74
 go_wp2_with (first | ((with_reducible refine gd 0 rfl ?_); refine bx #[.int .i64 0, .int .i64 0, .int .i64 0, .int .i64 0] 27 ?_; intro gb377 hg w1 BK377 hb; have GE377 := ngw0 hg HB; replace HB := bS0 HB hb; clear hb hg; obtain ⟨hcz2_0, hcz2_1, hcz2_2, hcz2_3, hfz2_0, hfz2_1, hfz2_2, hfz2_3⟩ := bz4 BK377))
 refine bodyPost_ret (results_cell_row rfl _ _ gb377 27 #[.int .i64 1, .int .i64 0, .int .i64 0, .int .i64 1] (0, 0) _ rfl (bq0 BK377) Tryz.underlying27 rfl (by kernel_rfl)) rfl ?_
 exact er (bbw1 HB GE377)

attribute [local go_sem high] eqA27
/-! ### impl_Mat_order: function 87 -/
mutual
def impl_Mat_order.j0 : Nat → Int → Bool → Int → Int → Int → Int → Option (Int)
 | 0, _, _, _, _, _, _ => none
 | k + 1, x3, x13, x379000, x379001, x379002, x379003 => if x13 = true then (impl_Mat_order.j1 k x3 x13 x379000 x379001 x379002 x379003) else (impl_Mat_order.j1 k x3 (x379000 == (-1) && (x379001 == 0 && (x379002 == 0 && (x379003 == (-1))))) x379000 x379001 x379002 x379003)
def impl_Mat_order.j1 : Nat → Int → Bool → Int → Int → Int → Int → Option (Int)
 | 0, _, _, _, _, _, _ => none
 | k + 1, x3, x13, x379000, x379001, x379002, x379003 => if x13 = true then (some 2) else ((impl_Mat_det.f x379000 x379001 x379002 x379003).bind fun t384 => (if t384 = 1 then (impl_Mat_order.j2 k x3 (x3 == (-1)) x379000 x379001 x379002 x379003) else (impl_Mat_order.j2 k x3 false x379000 x379001 x379002 x379003)))
def impl_Mat_order.j2 : Nat → Int → Bool → Int → Int → Int → Int → Option (Int)
 | 0, _, _, _, _, _, _ => none
 | k + 1, x3, x24, x379000, x379001, x379002, x379003 => if x24 = true then (some 3) else ((impl_Mat_det.f x379000 x379001 x379002 x379003).bind fun t385 => (if t385 = 1 then (impl_Mat_order.j3 k x3 (x3 == 0) x379000 x379001 x379002 x379003) else (impl_Mat_order.j3 k x3 false x379000 x379001 x379002 x379003)))
def impl_Mat_order.j3 : Nat → Int → Bool → Int → Int → Int → Int → Option (Int)
 | 0, _, _, _, _, _, _ => none
 | k + 1, x3, x32, x379000, x379001, x379002, x379003 => if x32 = true then (some 4) else ((impl_Mat_det.f x379000 x379001 x379002 x379003).bind fun t386 => (if t386 = 1 then (if x3 = 1 then (some 6) else (some 0)) else (some 0)))
end
def impl_Mat_order.f (k : Nat) (a0_0 : Int) (a0_1 : Int) (a0_2 : Int) (a0_3 : Int) : Option (Int) := (impl_unit.f).bind fun bt379 => (if (a0_0 == bt379.1 && (a0_1 == bt379.2.1 && (a0_2 == bt379.2.2.1 && (a0_3 == bt379.2.2.2)))) = true then (some 1) else ((impl_Mat_det.f a0_0 a0_1 a0_2 a0_3).bind fun t383 => (if t383 = (-1) then (impl_Mat_order.j0 k (wrap64 (a0_0 + a0_3)) ((wrap64 (a0_0 + a0_3)) == 0) a0_0 a0_1 a0_2 a0_3) else (impl_Mat_order.j0 k (wrap64 (a0_0 + a0_3)) false a0_0 a0_1 a0_2 a0_3))))
set_option maxHeartbeats 8000000 in
set_option maxRecDepth 100000 in
theorem impl_Mat_order.calls (k : Nat) (a0_0 : Int) (a0_1 : Int) (a0_2 : Int) (a0_3 : Int) (r : Int) (w : World) (h : impl_Mat_order.f k a0_0 a0_1 a0_2 a0_3 = some r) :
  Calls Tryz.prog 87 #[.agg #[.int .i64 a0_0, .int .i64 a0_1, .int .i64 a0_2, .int .i64 a0_3]] w fun e w' => e = .returned (.int .i64 r) ∧ Below w.heap.size w w' := by
 have hu27 := Tryz.underlying27
 have HB := asd (Below.refl w.heap.size w)
 have H : ((impl_unit.f).bind fun bt379 => (if (a0_0 == bt379.1 && (a0_1 == bt379.2.1 && (a0_2 == bt379.2.2.1 && (a0_3 == bt379.2.2.2)))) = true then (some 1) else ((impl_Mat_det.f a0_0 a0_1 a0_2 a0_3).bind fun t383 => (if t383 = (-1) then (impl_Mat_order.j0 k (wrap64 (a0_0 + a0_3)) ((wrap64 (a0_0 + a0_3)) == 0) a0_0 a0_1 a0_2 a0_3) else (impl_Mat_order.j0 k (wrap64 (a0_0 + a0_3)) false a0_0 a0_1 a0_2 a0_3))))) = some r := h
 clear h
 obtain ⟨⟨t379, t380, t381, t382⟩, A2, H⟩ := ob H
 try dsimp only at H
 by_cases c3 : (a0_0 == t379 && (a0_1 == t380 && (a0_2 == t381 && (a0_3 == t382)))) = true
 rw [if_pos c3] at H
 have c3b0 := c3
 (try (have c3b1 : decide (a0_0 = t379 && (a0_1 == t380 && (a0_2 == t381 && (a0_3 == t382)))) = true := by simpa using c3))
 (try (have c3b2 : (a0_0 == t379 && (a0_1 == t380 && (a0_2 == t381 && (a0_3 == t382)))) = true := by simpa using c3))
 clear c3
 obtain rfl := Option.some.inj H
 rotate_left
 rw [if_neg c3] at H
 have c3b0 : (a0_0 == t379 && (a0_1 == t380 && (a0_2 == t381 && (a0_3 == t382)))) = false := by simpa using c3
 (try (have c3b1 : decide (a0_0 = t379 && (a0_1 == t380 && (a0_2 == t381 && (a0_3 == t382)))) = false := by simpa using c3))
 (try (have c3b2 : (a0_0 == t379 && (a0_1 == t380 && (a0_2 == t381 && (a0_3 == t382)))) = false := by simpa using c3))
 (try (have c3b3 : ¬ (a0_0 = t379 && (a0_1 == t380 && (a0_2 == t381 && (a0_3 == t382)))) := by simpa using c3))
 clear c3
 rotate_left
 go_enter Tryz.func87, Tryz.ntmps87
 try go_wp2_with (first | ((with_reducible refine gd 1 rfl ?_); refine bx #[.int .i64 a0_0, .int .i64 a0_1, .int .i64 a0_2, .int .i64 a0_3] 27 ?_; intro gb378 hg w4 BK378 hb; have GE378 := ngw0 hg HB; replace HB := bS0 HB hb; clear hb hg; obtain ⟨hcz5_0, hcz5_1, hcz5_2, hcz5_3, hfz5_0, hfz5_1, hfz5_2, hfz5_3⟩ := bz4 BK378))
 rotate_left
 have HC8 := Aside0.mk H
 clear H
 go_enter Tryz.func87, Tryz.ntmps87
 try go_wp2_with (first | ((with_reducible refine gd 1 rfl ?_); refine bx #[.int .i64 a0_0, .int .i64 a0_1, .int .i64 a0_2, .int .i64 a0_3] 27 ?_; intro gb378 hg w4 BK378 hb; have GE378 := ngw0 hg HB; replace HB := bS0 HB hb; clear hb hg; obtain ⟨hcz10_0, hcz10_1, hcz10_2, hcz10_3, hfz10_0, hfz10_1, hfz10_2, hfz10_3⟩ := bz4 BK378))
 rotate_left
 all_goals
  replace BK378 := asd (blk_drew BK378.out)
  replace HB := asd (below_drew1 HB.out)
  refine sh 4 (eb4 BK378) (fun hHeld => ?_)
  generalize w4.drew = w6 at BK378 HB hHeld ⊢
  refine take_ (i := 0) (N := some 10) (v := ?_) (a' := ?_) (bT 4 1) rfl rfl (by kernel_rfl) (fun _ _ _ h => h) (Or.inl ⟨by rfl, ?_⟩) hHeld ?_ ?_
  rotate_left
  ·rintro w' ⟨s0, s1, s2, s3⟩
   go_simp
   with_reducible rfl
  rotate_left
  ·simp only [Act.put, sA, sB, sC, i64_w, i32_w]
   rfl
  refine one_ (i := 1) (N := some 11) (bT 4 2) rfl rfl (by kernel_rfl) (by decide) (fun K hK => ?_)
  refine gs Tryz.func74 #[] ?_
  with_reducible refine (impl_unit.calls _ _ _ _ _ A2.out).mono ?_
  rintro e w7 ⟨rfl, hb⟩
  refine ⟨_, rfl, ?_⟩
  replace BK378 := bB BK378 hb
  replace HB := bS1 HB GE378 hb
  (try clear hb)
  (try clear hb2)
  (try clear hk)
  (try clear hi)
  refine hK.out _ _ (eb4 BK378).out (fun hHeld => ?_)
  clear hK K
  refine norm_ (a' := ?_) ?_ ?_
  rotate_left
  ·show Act.put _ (some 11) _ = _
   simp only [Act.put, sA, sB, sC, i64_w, i32_w]
   rfl
  refine pure_ (i := 2) (N := some 12) (v := ?_) (a' := ?_) (bT 4 3) rfl rfl (by kernel_rfl) (fun _ _ _ h => h) (Or.inl ⟨by rfl, ?_⟩) ?_ ?_
  rotate_left
  ·intro w'
   go_simp
   with_reducible rfl
  rotate_left
  ·simp only [Act.put, sA, sB, sC, i64_w, i32_w]
   rfl
  refine pure_ (i := 3) (N := some 9) (v := ?_) (a' := ?_) (bT 4 4) rfl rfl (by kernel_rfl) (fun _ _ _ h => h) (Or.inl ⟨by rfl, ?_⟩) ?_ ?_
  rotate_left
  ·intro w'
   go_simp
   with_reducible rfl
  rotate_left
  ·simp only [Act.put, sA, sB, sC, i64_w, i32_w]
   rfl
  refine done_ (by kernel_rfl) ?_
 ·try go_wp2
  go_ret
  exact er (bbw1 HB GE378)
 ·go_upto_region 4 with (fail)
  go_cut [13] (fun v13 wc => ∃ (kq : Nat) (x13_7 : Bool), v13 = .bool x13_7 ∧ Aside0 (impl_Mat_order.j0 kq (wrap64 (a0_0 + a0_3)) x13_7 a0_0 a0_1 a0_2 a0_3 = some r) ∧ Aside0 (kq ≤ k) ∧ Aside0 (wc.heap[gb378]? = some (.cells #[.int .i64 a0_0, .int .i64 a0_1, .int .i64 a0_2, .int .i64 a0_3] 27 (0, 0))) ∧ Aside0 (Below w.heap.size w wc))
  case first =>
   have H := HC8.out
   clear HC8
   obtain ⟨t383, A13, H⟩ := ob H
   try dsimp only at H
   by_cases c14 : t383 = (-1)
   rw [if_pos c14] at H
   have c14b0 : (t383 == (-1)) = true := beq_iff_eq.mpr c14
   have c14b1 : (t383 != (-1)) = false := bne_eq_false_iff_eq.mpr c14
   clear c14
   rotate_left
   rw [if_neg c14] at H
   have c14b0 : (t383 == (-1)) = false := beq_eq_false_iff_ne.mpr c14
   have c14b1 : (t383 != (-1)) = true := bne_iff_ne.mpr c14
   rotate_left
   all_goals
    (first | rw [c14b0] | (simp only [i64_w, i32_w]; rw [c14b0]) | skip)
    have H' := Aside0.mk H
    clear H
   obtain ⟨hcz15_0, hcz15_1, hcz15_2, hcz15_3, hfz15_0, hfz15_1, hfz15_2, hfz15_3⟩ := bz4 BK378
   rotate_left
   obtain ⟨hcz17_0, hcz17_1, hcz17_2, hcz17_3, hfz17_0, hfz17_1, hfz17_2, hfz17_3⟩ := bz4 BK378
   rotate_left
   all_goals
    go_wp2_with (first | ((with_reducible refine gate_callee (f := 75) rfl ?_); refine gl 15 Tryz.func75 #[.agg #[.int .i64 a0_0, .int .i64 a0_1, .int .i64 a0_2, .int .i64 a0_3]] ?_; (with_reducible refine (impl_Mat_det.calls _ _ _ _ _ _ A13.out).mono ?_); rintro e w16 ⟨rfl, hb⟩; refine ⟨_, rfl, ?_⟩; replace BK378 := bB BK378 hb; replace HB := bS1 HB GE378 hb; (try clear hb)))
    go_meet
   ·case rel => exact ⟨_, (((wrap64 (a0_0 + a0_3)) == 0)), (by first | rfl | (simp; done) | (simp [*]; done)), H', ⟨by first | omega | exact Nat.le_refl _⟩, ⟨bkp BK378⟩, ⟨bbw1 HB GE378⟩⟩
   ·case rel => exact ⟨_, (false), (by first | rfl | (simp; done) | (simp [*]; done)), H', ⟨by first | omega | exact Nat.le_refl _⟩, ⟨bkp BK378⟩, ⟨bbw1 HB GE378⟩⟩
  case rest =>
   clear HC8
   try clear c1
   try clear p2
   try clear c3
   try clear c3b0
   try clear c3b1
   try clear c3b2
   try clear p6
   try clear c7
   try clear c8
   try clear c14
   try clear c14b0
   try clear c14b1
   try clear hcz10_0
   try clear hcz10_1
   try clear hcz10_2
   try clear hcz10_3
   try clear hcz15_0
   try clear hcz15_1
   try clear hcz15_2
   try clear hcz15_3
   try clear hcz17_0
   try clear hcz17_1
   try clear hcz17_2
   try clear hcz17_3
   try clear hcz5_0
   try clear hcz5_1
   try clear hcz5_2
   try clear hcz5_3
   try clear hfz10_0
   try clear hfz10_1
   try clear hfz10_2
   try clear hfz10_3
   try clear hfz15_0
   try clear hfz15_1
   try clear hfz15_2
   try clear hfz15_3
   try clear hfz17_0
   try clear hfz17_1
   try clear hfz17_2
   try clear hfz17_3
   try clear hfz5_0
   try clear hfz5_1
   try clear hfz5_2
   try clear hfz5_3
   obtain ⟨kq, x13_7, rfl, HA, HJ7, BK378, HB⟩ := hcut
   cases kq with
   | zero => exact absurd HA.out (by simp [impl_Mat_order.j0])
   | succ kj7 =>
    have H := HA.out
    clear HA
    simp only [impl_Mat_order.j0] at H
    have HC19 := Aside0.mk H
    clear H
    go_upto_if 13 with (fail)
    go_cut [13] (fun v13 wc => ∃ (kq : Nat) (x13_18 : Bool), v13 = .bool x13_18 ∧ Aside0 (impl_Mat_order.j1 kq (wrap64 (a0_0 + a0_3)) x13_18 a0_0 a0_1 a0_2 a0_3 = some r) ∧ Aside0 (kq ≤ kj7) ∧ Aside0 (wc.heap[gb378]? = some (.cells #[.int .i64 a0_0, .int .i64 a0_1, .int .i64 a0_2, .int .i64 a0_3] 27 (0, 0))) ∧ Aside0 (Below w.heap.size w wc))
    case first =>
     have H := HC19.out
     clear HC19
     by_cases c20 : x13_7 = true
     ·subst c20
      replace H := ifT H
      have H' := Aside0.mk H
      clear H
      go_wp2
      go_meet
      case rel => exact ⟨_, (true), (by first | rfl | (simp; done) | (simp [*]; done)), H', ⟨by have := HJ7.out; first | omega | exact Nat.le_refl _⟩, ⟨bkp BK378⟩, ⟨bbw1 HB GE378⟩⟩
     ·replace c20 := Bool.eq_false_iff.mpr c20
      subst c20
      replace H := ifF H
      have H' := Aside0.mk H
      clear H
      obtain ⟨hcz21_0, hcz21_1, hcz21_2, hcz21_3, hfz21_0, hfz21_1, hfz21_2, hfz21_3⟩ := bz4 BK378
      go_wp2
      go_meet
      case rel => exact ⟨_, ((a0_0 == (-1) && (a0_1 == 0 && (a0_2 == 0 && (a0_3 == (-1)))))), (by first | rfl | (simp; done) | (simp [*]; done)), H', ⟨by have := HJ7.out; first | omega | exact Nat.le_refl _⟩, ⟨bkp BK378⟩, ⟨bbw1 HB GE378⟩⟩
    case rest =>
     clear HC19
     try clear c1
     try clear c2
     try clear p2
     try clear c3
     try clear c3b0
     try clear c3b1
     try clear c3b2
     try clear p6
     try clear c7
     try clear c8
     try clear c14
     try clear c14b0
     try clear c14b1
     try clear c20
     try clear hcz10_0
     try clear hcz10_1
     try clear hcz10_2
     try clear hcz10_3
     try clear hcz15_0
     try clear hcz15_1
     try clear hcz15_2
     try clear hcz15_3
     try clear hcz17_0
     try clear hcz17_1
     try clear hcz17_2
     try clear hcz17_3
     try clear hcz21_0
     try clear hcz21_1
     try clear hcz21_2
     try clear hcz21_3
     try clear hcz5_0
     try clear hcz5_1
     try clear hcz5_2
     try clear hcz5_3
     try clear hfz10_0
     try clear hfz10_1
     try clear hfz10_2
     try clear hfz10_3
     try clear hfz15_0
     try clear hfz15_1
     try clear hfz15_2
     try clear hfz15_3
     try clear hfz17_0
     try clear hfz17_1
     try clear hfz17_2
     try clear hfz17_3
     try clear hfz21_0
     try clear hfz21_1
     try clear hfz21_2
     try clear hfz21_3
     try clear hfz5_0
     try clear hfz5_1
     try clear hfz5_2
     try clear hfz5_3
     try clear p2
     try clear p6
     obtain ⟨kq, x13_18, rfl, HA, HJ18, BK378, HB⟩ := hcut
     cases kq with
     | zero => exact absurd HA.out (by simp [impl_Mat_order.j1])
     | succ kj18 =>
      have H := HA.out
      clear HA
      simp only [impl_Mat_order.j1] at H
      by_cases c22 : x13_18 = true
      ·subst c22
       replace H := ifT H
       obtain rfl := Option.some.inj H
       go_wp2
       go_ret
       exact er (bbw1 HB GE378)
      ·replace c22 := Bool.eq_false_iff.mpr c22
       subst c22
       replace H := ifF H
       have HC23 := Aside0.mk H
       clear H
       go_upto_region 7 with (fail)
       go_cut [24] (fun v24 wc => ∃ (kq : Nat) (x24_22 : Bool), v24 = .bool x24_22 ∧ Aside0 (impl_Mat_order.j2 kq (wrap64 (a0_0 + a0_3)) x24_22 a0_0 a0_1 a0_2 a0_3 = some r) ∧ Aside0 (kq ≤ kj18) ∧ Aside0 (wc.heap[gb378]? = some (.cells #[.int .i64 a0_0, .int .i64 a0_1, .int .i64 a0_2, .int .i64 a0_3] 27 (0, 0))) ∧ Aside0 (Below w.heap.size w wc))
       case first =>
        have H := HC23.out
        clear HC23
        obtain ⟨t384, A24, H⟩ := ob H
        try dsimp only at H
        by_cases c25 : t384 = 1
        rw [if_pos c25] at H
        have c25b0 : (t384 == 1) = true := beq_iff_eq.mpr c25
        have c25b1 : (t384 != 1) = false := bne_eq_false_iff_eq.mpr c25
        clear c25
        rotate_left
        rw [if_neg c25] at H
        have c25b0 : (t384 == 1) = false := beq_eq_false_iff_ne.mpr c25
        have c25b1 : (t384 != 1) = true := bne_iff_ne.mpr c25
        rotate_left
        all_goals
         (first | rw [c25b0] | (simp only [i64_w, i32_w]; rw [c25b0]) | skip)
         have H' := Aside0.mk H
         clear H
        obtain ⟨hcz26_0, hcz26_1, hcz26_2, hcz26_3, hfz26_0, hfz26_1, hfz26_2, hfz26_3⟩ := bz4 BK378
        rotate_left
        obtain ⟨hcz28_0, hcz28_1, hcz28_2, hcz28_3, hfz28_0, hfz28_1, hfz28_2, hfz28_3⟩ := bz4 BK378
        rotate_left
        all_goals
         go_wp2_with (first | ((with_reducible refine gate_callee (f := 75) rfl ?_); refine gl 26 Tryz.func75 #[.agg #[.int .i64 a0_0, .int .i64 a0_1, .int .i64 a0_2, .int .i64 a0_3]] ?_; (with_reducible refine (impl_Mat_det.calls _ _ _ _ _ _ A24.out).mono ?_); rintro e w27 ⟨rfl, hb⟩; refine ⟨_, rfl, ?_⟩; replace BK378 := bB BK378 hb; replace HB := bS1 HB GE378 hb; (try clear hb)))
         go_meet
        ·case rel => exact ⟨_, (((wrap64 (a0_0 + a0_3)) == (-1))), (by first | rfl | (simp; done) | (simp [*]; done)), H', ⟨by have := HJ7.out; have := HJ18.out; first | omega | exact Nat.le_refl _⟩, ⟨bkp BK378⟩, ⟨bbw1 HB GE378⟩⟩
        ·case rel => exact ⟨_, (false), (by first | rfl | (simp; done) | (simp [*]; done)), H', ⟨by have := HJ7.out; have := HJ18.out; first | omega | exact Nat.le_refl _⟩, ⟨bkp BK378⟩, ⟨bbw1 HB GE378⟩⟩
       case rest =>
        clear HC23
        try clear c1
        try clear c2
        try clear p2
        try clear c3
        try clear c3b0
        try clear c3b1
        try clear c3b2
        try clear p6
        try clear c7
        try clear c8
        try clear c14
        try clear c14b0
        try clear c14b1
        try clear c20
        try clear c22
        try clear c25
        try clear c25b0
        try clear c25b1
        try clear hcz10_0
        try clear hcz10_1
        try clear hcz10_2
        try clear hcz10_3
        try clear hcz15_0
        try clear hcz15_1
        try clear hcz15_2
        try clear hcz15_3
        try clear hcz17_0
        try clear hcz17_1
        try clear hcz17_2
        try clear hcz17_3
        try clear hcz21_0
        try clear hcz21_1
        try clear hcz21_2
        try clear hcz21_3
        try clear hcz26_0
        try clear hcz26_1
        try clear hcz26_2
        try clear hcz26_3
        try clear hcz28_0
        try clear hcz28_1
        try clear hcz28_2
        try clear hcz28_3
        try clear hcz5_0
        try clear hcz5_1
        try clear hcz5_2
        try clear hcz5_3
        try clear hfz10_0
        try clear hfz10_1
        try clear hfz10_2
        try clear hfz10_3
        try clear hfz15_0
        try clear hfz15_1
        try clear hfz15_2
        try clear hfz15_3
        try clear hfz17_0
        try clear hfz17_1
        try clear hfz17_2
        try clear hfz17_3
        try clear hfz21_0
        try clear hfz21_1
        try clear hfz21_2
        try clear hfz21_3
        try clear hfz26_0
        try clear hfz26_1
        try clear hfz26_2
        try clear hfz26_3
        try clear hfz28_0
        try clear hfz28_1
        try clear hfz28_2
        try clear hfz28_3
        try clear hfz5_0
        try clear hfz5_1
        try clear hfz5_2
        try clear hfz5_3
        try clear p2
        try clear p6
        obtain ⟨kq, x24_22, rfl, HA, HJ22, BK378, HB⟩ := hcut
        cases kq with
        | zero => exact absurd HA.out (by simp [impl_Mat_order.j2])
        | succ kj22 =>
         have H := HA.out
         clear HA
         simp only [impl_Mat_order.j2] at H
         by_cases c30 : x24_22 = true
         ·subst c30
          replace H := ifT H
          obtain rfl := Option.some.inj H
          go_wp2
          go_ret
          exact er (bbw1 HB GE378)
         ·replace c30 := Bool.eq_false_iff.mpr c30
          subst c30
          replace H := ifF H
          have HC31 := Aside0.mk H
          clear H
          go_upto_region 9 with (fail)
          go_cut [32] (fun v32 wc => ∃ (kq : Nat) (x32_30 : Bool), v32 = .bool x32_30 ∧ Aside0 (impl_Mat_order.j3 kq (wrap64 (a0_0 + a0_3)) x32_30 a0_0 a0_1 a0_2 a0_3 = some r) ∧ Aside0 (kq ≤ kj22) ∧ Aside0 (wc.heap[gb378]? = some (.cells #[.int .i64 a0_0, .int .i64 a0_1, .int .i64 a0_2, .int .i64 a0_3] 27 (0, 0))) ∧ Aside0 (Below w.heap.size w wc))
          case first =>
           have H := HC31.out
           clear HC31
           obtain ⟨t385, A32, H⟩ := ob H
           try dsimp only at H
           by_cases c33 : t385 = 1
           rw [if_pos c33] at H
           have c33b0 : (t385 == 1) = true := beq_iff_eq.mpr c33
           have c33b1 : (t385 != 1) = false := bne_eq_false_iff_eq.mpr c33
           clear c33
           rotate_left
           rw [if_neg c33] at H
           have c33b0 : (t385 == 1) = false := beq_eq_false_iff_ne.mpr c33
           have c33b1 : (t385 != 1) = true := bne_iff_ne.mpr c33
           rotate_left
           all_goals
            (first | rw [c33b0] | (simp only [i64_w, i32_w]; rw [c33b0]) | skip)
            have H' := Aside0.mk H
            clear H
           obtain ⟨hcz34_0, hcz34_1, hcz34_2, hcz34_3, hfz34_0, hfz34_1, hfz34_2, hfz34_3⟩ := bz4 BK378
           rotate_left
           obtain ⟨hcz36_0, hcz36_1, hcz36_2, hcz36_3, hfz36_0, hfz36_1, hfz36_2, hfz36_3⟩ := bz4 BK378
           rotate_left
           all_goals
            go_wp2_with (first | ((with_reducible refine gate_callee (f := 75) rfl ?_); refine gl 34 Tryz.func75 #[.agg #[.int .i64 a0_0, .int .i64 a0_1, .int .i64 a0_2, .int .i64 a0_3]] ?_; (with_reducible refine (impl_Mat_det.calls _ _ _ _ _ _ A32.out).mono ?_); rintro e w35 ⟨rfl, hb⟩; refine ⟨_, rfl, ?_⟩; replace BK378 := bB BK378 hb; replace HB := bS1 HB GE378 hb; (try clear hb)))
            go_meet
           ·case rel => exact ⟨_, (((wrap64 (a0_0 + a0_3)) == 0)), (by first | rfl | (simp; done) | (simp [*]; done)), H', ⟨by have := HJ7.out; have := HJ18.out; have := HJ22.out; first | omega | exact Nat.le_refl _⟩, ⟨bkp BK378⟩, ⟨bbw1 HB GE378⟩⟩
           ·case rel => exact ⟨_, (false), (by first | rfl | (simp; done) | (simp [*]; done)), H', ⟨by have := HJ7.out; have := HJ18.out; have := HJ22.out; first | omega | exact Nat.le_refl _⟩, ⟨bkp BK378⟩, ⟨bbw1 HB GE378⟩⟩
          case rest =>
           clear HC31
           try clear c1
           try clear c2
           try clear p2
           try clear c3
           try clear c3b0
           try clear c3b1
           try clear c3b2
           try clear p6
           try clear c7
           try clear c8
           try clear c14
           try clear c14b0
           try clear c14b1
           try clear c20
           try clear c22
           try clear c25
           try clear c25b0
           try clear c25b1
           try clear c30
           try clear c33
           try clear c33b0
           try clear c33b1
           try clear hcz10_0
           try clear hcz10_1
           try clear hcz10_2
           try clear hcz10_3
           try clear hcz15_0
           try clear hcz15_1
           try clear hcz15_2
           try clear hcz15_3
           try clear hcz17_0
           try clear hcz17_1
           try clear hcz17_2
           try clear hcz17_3
           try clear hcz21_0
           try clear hcz21_1
           try clear hcz21_2
           try clear hcz21_3
           try clear hcz26_0
           try clear hcz26_1
           try clear hcz26_2
           try clear hcz26_3
           try clear hcz28_0
           try clear hcz28_1
           try clear hcz28_2
           try clear hcz28_3
           try clear hcz34_0
           try clear hcz34_1
           try clear hcz34_2
           try clear hcz34_3
           try clear hcz36_0
           try clear hcz36_1
           try clear hcz36_2
           try clear hcz36_3
           try clear hcz5_0
           try clear hcz5_1
           try clear hcz5_2
           try clear hcz5_3
           try clear hfz10_0
           try clear hfz10_1
           try clear hfz10_2
           try clear hfz10_3
           try clear hfz15_0
           try clear hfz15_1
           try clear hfz15_2
           try clear hfz15_3
           try clear hfz17_0
           try clear hfz17_1
           try clear hfz17_2
           try clear hfz17_3
           try clear hfz21_0
           try clear hfz21_1
           try clear hfz21_2
           try clear hfz21_3
           try clear hfz26_0
           try clear hfz26_1
           try clear hfz26_2
           try clear hfz26_3
           try clear hfz28_0
           try clear hfz28_1
           try clear hfz28_2
           try clear hfz28_3
           try clear hfz34_0
           try clear hfz34_1
           try clear hfz34_2
           try clear hfz34_3
           try clear hfz36_0
           try clear hfz36_1
           try clear hfz36_2
           try clear hfz36_3
           try clear hfz5_0
           try clear hfz5_1
           try clear hfz5_2
           try clear hfz5_3
           try clear p2
           try clear p6
           obtain ⟨kq, x32_30, rfl, HA, HJ30, BK378, HB⟩ := hcut
           cases kq with
           | zero => exact absurd HA.out (by simp [impl_Mat_order.j3])
           | succ kj30 =>
            have H := HA.out
            clear HA
            simp only [impl_Mat_order.j3] at H
            by_cases c38 : x32_30 = true
            subst c38
            replace H := ifT H
            obtain rfl := Option.some.inj H
            rotate_left
            replace c38 := Bool.eq_false_iff.mpr c38
            subst c38
            replace H := ifF H
            obtain ⟨t386, A39, H⟩ := ob H
            try dsimp only at H
            by_cases c40 : t386 = 1
            rw [if_pos c40] at H
            have c40b0 : (t386 == 1) = true := beq_iff_eq.mpr c40
            have c40b1 : (t386 != 1) = false := bne_eq_false_iff_eq.mpr c40
            clear c40
            by_cases c41 : (wrap64 (a0_0 + a0_3)) = 1
            rw [if_pos c41] at H
            have c41b0 : ((wrap64 (a0_0 + a0_3)) == 1) = true := beq_iff_eq.mpr c41
            have c41b1 : ((wrap64 (a0_0 + a0_3)) != 1) = false := bne_eq_false_iff_eq.mpr c41
            clear c41
            obtain rfl := Option.some.inj H
            rotate_left
            rw [if_neg c41] at H
            have c41b0 : ((wrap64 (a0_0 + a0_3)) == 1) = false := beq_eq_false_iff_ne.mpr c41
            have c41b1 : ((wrap64 (a0_0 + a0_3)) != 1) = true := bne_iff_ne.mpr c41
            obtain rfl := Option.some.inj H
            rotate_left
            rw [if_neg c40] at H
            have c40b0 : (t386 == 1) = false := beq_eq_false_iff_ne.mpr c40
            have c40b1 : (t386 != 1) = true := bne_iff_ne.mpr c40
            obtain rfl := Option.some.inj H
            rotate_left
            ·go_wp2
             go_ret
             exact er (bbw1 HB GE378)
            rotate_left 3
            all_goals
             obtain ⟨hcz42_0, hcz42_1, hcz42_2, hcz42_3, hfz42_0, hfz42_1, hfz42_2, hfz42_3⟩ := bz4 BK378
             go_wp2_with (first | ((with_reducible refine gate_callee (f := 75) rfl ?_); refine gl 42 Tryz.func75 #[.agg #[.int .i64 a0_0, .int .i64 a0_1, .int .i64 a0_2, .int .i64 a0_3]] ?_; (with_reducible refine (impl_Mat_det.calls _ _ _ _ _ _ A39.out).mono ?_); rintro e w43 ⟨rfl, hb⟩; refine ⟨_, rfl, ?_⟩; replace BK378 := bB BK378 hb; replace HB := bS1 HB GE378 hb; (try clear hb)))
             go_ret
             exact er (bbw1 HB GE378)
/-! ### impl_Mat_isReflection: function 49 -/
def impl_Mat_isReflection.f (k : Nat) (a0_0 : Int) (a0_1 : Int) (a0_2 : Int) (a0_3 : Int) : Option (Bool) := (impl_Mat_det.f a0_0 a0_1 a0_2 a0_3).bind fun t388 => (if t388 = (-1) then ((impl_Mat_order.f k a0_0 a0_1 a0_2 a0_3).bind fun t389 => (some (t389 == 2))) else (some false))
set_option maxHeartbeats 8000000 in
set_option maxRecDepth 100000 in
theorem impl_Mat_isReflection.calls (k : Nat) (a0_0 : Int) (a0_1 : Int) (a0_2 : Int) (a0_3 : Int) (r : Bool) (w : World) (h : impl_Mat_isReflection.f k a0_0 a0_1 a0_2 a0_3 = some r) :
  Calls Tryz.prog 49 #[.agg #[.int .i64 a0_0, .int .i64 a0_1, .int .i64 a0_2, .int .i64 a0_3]] w fun e w' => e = .returned (.bool r) ∧ Below w.heap.size w w' := by
 have hu27 := Tryz.underlying27
 have HB := asd (Below.refl w.heap.size w)
 have H : ((impl_Mat_det.f a0_0 a0_1 a0_2 a0_3).bind fun t388 => (if t388 = (-1) then ((impl_Mat_order.f k a0_0 a0_1 a0_2 a0_3).bind fun t389 => (some (t389 == 2))) else (some false))) = some r := h
 clear h
 obtain ⟨t388, A2, H⟩ := ob H
 try dsimp only at H
 by_cases c3 : t388 = (-1)
 ·rw [if_pos c3] at H
  have c3b0 : (t388 == (-1)) = true := beq_iff_eq.mpr c3
  have c3b1 : (t388 != (-1)) = false := bne_eq_false_iff_eq.mpr c3
  clear c3
  obtain ⟨t389, A4, H⟩ := ob H
  try dsimp only at H
  obtain rfl := Option.some.inj H
  go_enter Tryz.func49, Tryz.ntmps49
  go_wp2_with (first | ((with_reducible refine gd 1 rfl ?_); refine bx #[.int .i64 a0_0, .int .i64 a0_1, .int .i64 a0_2, .int .i64 a0_3] 27 ?_; intro gb387 hg w5 BK387 hb; have GE387 := ngw0 hg HB; replace HB := bS0 HB hb; clear hb hg; obtain ⟨hcz6_0, hcz6_1, hcz6_2, hcz6_3, hfz6_0, hfz6_1, hfz6_2, hfz6_3⟩ := bz4 BK387) | ((with_reducible refine gate_callee (f := 75) rfl ?_); refine gl 4 Tryz.func75 #[.agg #[.int .i64 a0_0, .int .i64 a0_1, .int .i64 a0_2, .int .i64 a0_3]] ?_; (with_reducible refine (impl_Mat_det.calls _ _ _ _ _ _ A2.out).mono ?_); rintro e w7 ⟨rfl, hb⟩; refine ⟨_, rfl, ?_⟩; replace BK387 := bB BK387 hb; replace HB := bS1 HB GE387 hb; (try clear hb); obtain ⟨hcz8_0, hcz8_1, hcz8_2, hcz8_3, hfz8_0, hfz8_1, hfz8_2, hfz8_3⟩ := bz4 BK387) | (go_at_call 87; (with_reducible refine (impl_Mat_order.calls _ _ _ _ _ _ _ A4.out).mono ?_); rintro e w9 ⟨rfl, hb⟩; replace BK387 := bB BK387 hb; replace HB := bS1 HB GE387 hb; (try clear hb)))
  go_ret
  exact er (bbw1 HB GE387)
 ·rw [if_neg c3] at H
  have c3b0 : (t388 == (-1)) = false := beq_eq_false_iff_ne.mpr c3
  have c3b1 : (t388 != (-1)) = true := bne_iff_ne.mpr c3
  obtain rfl := Option.some.inj H
  go_enter Tryz.func49, Tryz.ntmps49
  go_wp2_with (first | ((with_reducible refine gd 1 rfl ?_); refine bx #[.int .i64 a0_0, .int .i64 a0_1, .int .i64 a0_2, .int .i64 a0_3] 27 ?_; intro gb387 hg w10 BK387 hb; have GE387 := ngw0 hg HB; replace HB := bS0 HB hb; clear hb hg; obtain ⟨hcz11_0, hcz11_1, hcz11_2, hcz11_3, hfz11_0, hfz11_1, hfz11_2, hfz11_3⟩ := bz4 BK387) | ((with_reducible refine gate_callee (f := 75) rfl ?_); refine gl 4 Tryz.func75 #[.agg #[.int .i64 a0_0, .int .i64 a0_1, .int .i64 a0_2, .int .i64 a0_3]] ?_; (with_reducible refine (impl_Mat_det.calls _ _ _ _ _ _ A2.out).mono ?_); rintro e w12 ⟨rfl, hb⟩; refine ⟨_, rfl, ?_⟩; replace BK387 := bB BK387 hb; replace HB := bS1 HB GE387 hb; (try clear hb)))
  go_ret
  exact er (bbw1 HB GE387)

end Go.Proofs.YtedmadofpdkekaaGreat.PA
