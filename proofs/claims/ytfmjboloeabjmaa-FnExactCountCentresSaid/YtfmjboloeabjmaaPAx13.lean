/- Walks written by program: each Go function that the law reaches comes to the plain function beside it. -/
import Derived.Test.YtfmjboloeabjmaaPAx0
import Derived.Test.YtfmjboloeabjmaaPAx2
import Derived.Test.YtfmjboloeabjmaaPAx3
import Derived.Test.YtfmjboloeabjmaaPAx12
namespace Go.Proofs.Ytfmjboloeabjmaa.PA
open Go.RowKit Go.Proofs.YtfmjboloeabjmaaW.PrintWords Go.Proofs.YtfmjboloeabjmaaW.PrintLast Go.Proofs.YtfmjboloeabjmaaW.PrintMore
attribute [local go_sem] max2_int min2_int max_two min_two max_three min_three max_four min_four   -- for this text's walks alone
set_option linter.unusedVariables false
set_option linter.unusedSimpArgs false

attribute [local go_sem high] eqA42
/-! ### impl_pointMats: function 74 -/
def impl_pointMats.l0 : Nat → Int → List (S40) → Int → Option ((List (S40)))
 | 0, _, _, _ => none
 | k + 1, x0, x3, x10 => if x10 < 81 then ((impl_Mat_apply.f (wrap64 ((wrap64 (Int.tdiv x10 27)) - 1)) (wrap64 ((Int.tmod (wrap64 (Int.tdiv x10 9)) 3) - 1)) (wrap64 ((Int.tmod (wrap64 (Int.tdiv x10 3)) 3) - 1)) (wrap64 ((Int.tmod x10 3) - 1)) 1 0).bind fun bt410 => ((impl_Mat_apply.f (wrap64 ((wrap64 (Int.tdiv x10 27)) - 1)) (wrap64 ((Int.tmod (wrap64 (Int.tdiv x10 9)) 3) - 1)) (wrap64 ((Int.tmod (wrap64 (Int.tdiv x10 3)) 3) - 1)) (wrap64 ((Int.tmod x10 3) - 1)) 0 1).bind fun bt412 => ((impl_Mat_apply.f (wrap64 ((wrap64 (Int.tdiv x10 27)) - 1)) (wrap64 ((Int.tmod (wrap64 (Int.tdiv x10 9)) 3) - 1)) (wrap64 ((Int.tmod (wrap64 (Int.tdiv x10 3)) 3) - 1)) (wrap64 ((Int.tmod x10 3) - 1)) 1 1).bind fun bt414 => ((impl_norm.f x0 bt410.1 bt410.2).bind fun t419 => (if t419 = 1 then ((impl_norm.f x0 bt412.1 bt412.2).bind fun t420 => (if t420 = 1 then ((impl_norm.f x0 bt414.1 bt414.2).bind fun t421 => (if t421 = (wrap64 (2 + x0)) then (if x3.length < 4398046511104 then (impl_pointMats.l0 k x0 (x3 ++ [(⟨wrap64 ((wrap64 (Int.tdiv x10 27)) - 1), wrap64 ((Int.tmod (wrap64 (Int.tdiv x10 9)) 3) - 1), wrap64 ((Int.tmod (wrap64 (Int.tdiv x10 3)) 3) - 1), wrap64 ((Int.tmod x10 3) - 1)⟩ : S40)]) (wrap64 (x10 + 1))) else (none)) else (impl_pointMats.l0 k x0 x3 (wrap64 (x10 + 1))))) else (impl_pointMats.l0 k x0 x3 (wrap64 (x10 + 1))))) else (impl_pointMats.l0 k x0 x3 (wrap64 (x10 + 1)))))))) else (some x3)
def impl_pointMats.f (k : Nat) (a0 : Int) : Option ((List (S40))) := impl_pointMats.l0 k a0 (([] : List (S40))) 0
def impl_pointMats.T6 : Bool × List (List Nat × List Nat) := (true, [([], []), ([], []), ([0, 1], [0, 1]), ([], []), ([], []), ([3, 4, 2], [3, 4]), ([], []), ([], []), ([6, 7, 5], [6, 7]), ([], []), ([], []), ([], []), ([9, 2, 8, 0, 1, 2, 9, 10, 11], [2, 9]), ([10, 5, 12, 0, 1, 2, 3, 4, 5, 9, 10, 11, 12], [5, 10]), ([11, 8, 13, 0, 1, 2, 3, 4, 5, 6, 7, 8, 9, 10, 11, 12, 13], [8, 11])])
def impl_pointMats.B6 : List Nat := [0, 0, 3, 0, 0, 31, 0, 0, 255, 0, 0, 0, 4095, 8191, 16383]
theorem impl_pointMats.tab6 : rtab .any (opsOf Try.f74 6) = impl_pointMats.T6 := by kernel_rfl
theorem impl_pointMats.bits6 : waitsOk impl_pointMats.T6.2 impl_pointMats.B6 = true := by kernel_rfl
set_option maxHeartbeats 8000000 in
set_option maxRecDepth 100000 in
theorem impl_pointMats.calls (k : Nat) (a0 : Int) (r : List (S40)) (w : World) (h : impl_pointMats.f k a0 = some r) :
  Calls Try.prog 74 #[.int .i64 a0] w fun e w' => ∃ v0_ : Value, e = .returned (v0_) ∧ Kd.R k40 40 w' w.heap.size (fun _ => True) v0_ r ∧ Below w.heap.size w w' := by
 have hu40 := Try.underlying40
 have hu42 := Try.underlying42
 have HB := asd (Below.refl w.heap.size w)
 have H : (impl_pointMats.l0 k a0 (([] : List (S40))) 0) = some r := h
 clear h
 obtain ⟨y406, hy406⟩ : ∃ y_ : List (S40), y_ = (([] : List (S40))) := ⟨_, rfl⟩
 replace H : (impl_pointMats.l0 k a0 y406 0) = some r := by first | (rw [hy406]; with_reducible exact H) | (have H2_ := (Option.bind_some _ _).symm.trans H; rw [hy406]; with_reducible exact H2_) | (have H2_ := (Option.bind_some _ _).symm.trans H; with_reducible exact H2_) | with_reducible exact H | (rw [hy406]; exact H) | exact H
 have Ny406 := Aside0.mk hy406
 clear hy406
 have H' := Aside0.mk H
 clear H
 go_enter Try.func74, Try.ntmps74
 go_wp2_with (first | ((with_reducible refine gd 9 rfl ?_); refine Kd.R_lit k40 _ 40 ?hg (N := 9) ?hd (xs := ([] : List (S40))) (inner := []) (ok := fun _ => True) (okp := fun _ => True) ?hr ?hp (fun _ hk => hk) trivial (Below.refl _ _) (Nat.le_refl _) (by simp) ?_; (case hd => rfl); (case hg => rfl); (case hr => first | (go_simp; done) | (go_simp; rfl)); (case hp => exact (Reps.none _ _)); intro v407 w2 ho3 hb hg_ hnew_; clear hg_ hnew_; (first | rw [← Ny406.out] at ho3 | (simp only [Int.reduceToNat] at ho3; rw [← Ny406.out] at ho3)); have HO408 := asd (Kd.R_lower ho3 (bsz0 HB)); replace HB := bS0 HB hb; clear hb ho3))
 go_loopg [3, 10] k (fun kq v3 v10 w' => ∃ (x3_1 : List (S40)) (x10_1 : Int), v10 = .int .i64 x10_1 ∧ Aside0 (impl_pointMats.l0 kq a0 x3_1 x10_1 = some r) ∧ Aside0 (kq ≤ k) ∧ Aside0 (Kd.R k40 40 w' w.heap.size (fun _ => True) v3 x3_1) ∧ Aside0 (Below w.heap.size w w'))
 case atStart => exact ⟨(y406), (0), (by first | rfl | (simp; done) | (simp [*]; done)), H', ⟨Nat.le_refl _⟩, ⟨by (with_reducible repeat (first | apply Kd.R_alloc | apply Kd.R_drewN | apply Kd.R_drew)); exact HO408.out⟩, ⟨bbw0 HB⟩⟩
 case round =>
  clear H'
  try clear p2
  obtain ⟨x3_1, x10_1, rfl, HA, HK1, HO_3, HB⟩ := hrel
  cases gk with
  | zero => exact absurd HA.out (by simp [impl_pointMats.l0])
  | succ k1 =>
   have H := HA.out
   clear HA
   simp only [impl_pointMats.l0] at H
   by_cases c4 : x10_1 < 81
   ·rw [if_pos c4] at H
    have c4b0 := decide_eq_true c4
    clear c4
    obtain ⟨⟨t410, t411⟩, A5, H⟩ := ob H
    try dsimp only at H
    obtain ⟨⟨t412, t413⟩, A6, H⟩ := ob H
    try dsimp only at H
    obtain ⟨⟨t414, t415⟩, A7, H⟩ := ob H
    try dsimp only at H
    have Hq_ := Aside0.mk H
    clear H
    try go_wp2_with (first | ((with_reducible refine gd 5 rfl ?_); refine bx #[.int .i64 0, .int .i64 0, .int .i64 0, .int .i64 0] 40 ?_; intro gb409 hg w15 BK409 hb; replace HO_3 := asd (Kd.R_below (Kd.R_elderB (kr HO_3) gb409 (Nat.le_of_eq hg.symm)) hb); have GE409 := ngw0 hg HB; replace HB := bS0 HB hb; clear hb hg; obtain ⟨hcz16_0, hcz16_1, hcz16_2, hcz16_3, hfz16_0, hfz16_1, hfz16_2, hfz16_3⟩ := bz4 BK409))
    obtain ⟨w17, h_w17⟩ : ∃ w_, ((((w15.setCell ⟨gb409, 0, none⟩ (.int .i64 (wrap64 ((wrap64 (Int.tdiv x10_1 27)) - 1)))).setCell ⟨gb409, 1, none⟩ (.int .i64 (wrap64 ((Int.tmod (wrap64 (Int.tdiv x10_1 9)) 3) - 1)))).setCell ⟨gb409, 2, none⟩ (.int .i64 (wrap64 ((Int.tmod (wrap64 (Int.tdiv x10_1 3)) 3) - 1)))).setCell ⟨gb409, 3, none⟩ (.int .i64 (wrap64 ((Int.tmod x10_1 3) - 1)))) = w_ := ⟨_, rfl⟩
    replace HO_3 : Aside0 (Kd.R k40 40 w17 w.heap.size (fun k_ => k_ ≠ gb409) u3 x3_1) := by rw [← h_w17]; exact ⟨by (with_reducible repeat (first | apply Kd.R_alloc | apply Kd.R_drewN | apply Kd.R_drew)); exact Kd.R_mono (rw4 (Kd.R_mono HO_3.out (fun k_ hk => (⟨hk, hk.2⟩ : _ ∧ k_ ≠ gb409)))) (fun _ hk => hk.1.2)⟩
    replace BK409 : Aside0 (w17.heap[gb409]? = some (.cells #[.int .i64 (wrap64 ((wrap64 (Int.tdiv x10_1 27)) - 1)), .int .i64 (wrap64 ((Int.tmod (wrap64 (Int.tdiv x10_1 9)) 3) - 1)), .int .i64 (wrap64 ((Int.tmod (wrap64 (Int.tdiv x10_1 3)) 3) - 1)), .int .i64 (wrap64 ((Int.tmod x10_1 3) - 1))] 40 (0, 0))) := by rw [← h_w17]; exact ⟨bq0 BK409⟩
    replace HB : Aside0 (Below w.heap.size w w17) := by rw [← h_w17]; exact ⟨bbw1 HB GE409⟩
    (try rw [h_w17]); clear h_w17
    replace HO_3 := asd (Kd.R_drew HO_3.out)
    replace BK409 := asd (blk_drew BK409.out)
    replace HB := asd (below_drew1 HB.out)
    refine start_ (n := 15) (S := fun w' => True) (ds := []) (bT 15 0) (by kernel_rfl) rfl rfl trivial (fun hHeld => ?_); refine with_tabW impl_pointMats.tab6 impl_pointMats.bits6 (fun HT_ HW_ => ?_)
    generalize w17.drew = w18 at HO_3 BK409 HB hHeld ⊢
    refine inv_at [0, 1, 2, 3, 4, 5, 6, 7, 8, 9, 10, 11, 12, 13, 14] (fun a0_ b a w' => ∃ (gb416 : Nat) (gb417 : Nat) (gb418 : Nat) (m9_ : Value) (m10_ : Value) (m11_ : Value), a = putSel a0_ b [(0, 28, .agg #[.int .i64 (wrap64 ((wrap64 (Int.tdiv x10_1 27)) - 1)), .int .i64 (wrap64 ((Int.tmod (wrap64 (Int.tdiv x10_1 9)) 3) - 1)), .int .i64 (wrap64 ((Int.tmod (wrap64 (Int.tdiv x10_1 3)) 3) - 1)), .int .i64 (wrap64 ((Int.tmod x10_1 3) - 1))]), (1, 29, .agg #[.int .i64 1, .int .i64 0]), (2, 30, .agg #[.int .i64 t410, .int .i64 t411]), (3, 31, .agg #[.int .i64 (wrap64 ((wrap64 (Int.tdiv x10_1 27)) - 1)), .int .i64 (wrap64 ((Int.tmod (wrap64 (Int.tdiv x10_1 9)) 3) - 1)), .int .i64 (wrap64 ((Int.tmod (wrap64 (Int.tdiv x10_1 3)) 3) - 1)), .int .i64 (wrap64 ((Int.tmod x10_1 3) - 1))]), (4, 32, .agg #[.int .i64 0, .int .i64 1]), (5, 33, .agg #[.int .i64 t412, .int .i64 t413]), (6, 34, .agg #[.int .i64 (wrap64 ((wrap64 (Int.tdiv x10_1 27)) - 1)), .int .i64 (wrap64 ((Int.tmod (wrap64 (Int.tdiv x10_1 9)) 3) - 1)), .int .i64 (wrap64 ((Int.tmod (wrap64 (Int.tdiv x10_1 3)) 3) - 1)), .int .i64 (wrap64 ((Int.tmod x10_1 3) - 1))]), (7, 35, .agg #[.int .i64 1, .int .i64 1]), (8, 36, .agg #[.int .i64 t414, .int .i64 t415]), (9, 6, m9_), (10, 7, m10_), (11, 8, m11_)] ∧ (Kd.R k40 40 w' w.heap.size (fun k_ => k_ ≠ gb409) u3 x3_1) ∧ (w'.heap[gb409]? = some (.cells #[.int .i64 (wrap64 ((wrap64 (Int.tdiv x10_1 27)) - 1)), .int .i64 (wrap64 ((Int.tmod (wrap64 (Int.tdiv x10_1 9)) 3) - 1)), .int .i64 (wrap64 ((Int.tmod (wrap64 (Int.tdiv x10_1 3)) 3) - 1)), .int .i64 (wrap64 ((Int.tmod x10_1 3) - 1))] 40 (0, 0))) ∧ (Below w.heap.size w w') ∧ (b 9 = true → b 10 = true → gb417 ≠ gb416) ∧ (b 9 = true → b 10 = true → gb416 ≠ gb417) ∧ (b 9 = true → b 11 = true → gb418 ≠ gb416) ∧ (b 9 = true → b 11 = true → gb416 ≠ gb418) ∧ (b 10 = true → b 11 = true → gb418 ≠ gb417) ∧ (b 10 = true → b 11 = true → gb417 ≠ gb418) ∧ (b 9 = true → b 12 = false → w'.heap[gb416]? = some (.cells #[.int .i64 0, .int .i64 0] 42 (0, 0))) ∧ (b 9 = true → w.heap.size ≤ gb416) ∧ (b 9 = true → w.heap.size ≤ gb416) ∧ (b 9 = true → gb409 ≠ gb416) ∧ (b 9 = true → gb416 ≠ gb409) ∧ (b 10 = true → b 13 = false → w'.heap[gb417]? = some (.cells #[.int .i64 0, .int .i64 0] 42 (0, 0))) ∧ (b 10 = true → w.heap.size ≤ gb417) ∧ (b 10 = true → w.heap.size ≤ gb417) ∧ (b 10 = true → gb409 ≠ gb417) ∧ (b 10 = true → gb417 ≠ gb409) ∧ (b 11 = true → b 14 = false → w'.heap[gb418]? = some (.cells #[.int .i64 0, .int .i64 0] 42 (0, 0))) ∧ (b 11 = true → w.heap.size ≤ gb418) ∧ (b 11 = true → w.heap.size ≤ gb418) ∧ (b 11 = true → gb409 ≠ gb418) ∧ (b 11 = true → gb418 ≠ gb409) ∧ (b 12 = true → w'.heap[gb416]? = some (.cells #[.int .i64 t410, .int .i64 t411] 42 (0, 0))) ∧ (b 13 = true → w'.heap[gb417]? = some (.cells #[.int .i64 t412, .int .i64 t413] 42 (0, 0))) ∧ (b 14 = true → w'.heap[gb418]? = some (.cells #[.int .i64 t414, .int .i64 t415] 42 (0, 0))) ∧ (b 9 = true → (m9_ : Value) = .pointer (some ⟨gb416, 0, none⟩)) ∧ (b 10 = true → (m10_ : Value) = .pointer (some ⟨gb417, 0, none⟩)) ∧ (b 11 = true → (m11_ : Value) = .pointer (some ⟨gb418, 0, none⟩))) HT_.out HW_.out (by kernel_rfl) (by kernel_rfl) ?_ ?_ ?_
    ·exact ⟨0, 0, 0, .bool false, .bool false, .bool false, by simp only [putSel, Bool.false_eq_true, if_false], HO_3.out, BK409.out, HB.out, fun h_ => absurd h_ (by decide), fun h_ => absurd h_ (by decide), fun h_ => absurd h_ (by decide), fun h_ => absurd h_ (by decide), fun h_ => absurd h_ (by decide), fun h_ => absurd h_ (by decide), fun h_ => absurd h_ (by decide), fun h_ => absurd h_ (by decide), fun h_ => absurd h_ (by decide), fun h_ => absurd h_ (by decide), fun h_ => absurd h_ (by decide), fun h_ => absurd h_ (by decide), fun h_ => absurd h_ (by decide), fun h_ => absurd h_ (by decide), fun h_ => absurd h_ (by decide), fun h_ => absurd h_ (by decide), fun h_ => absurd h_ (by decide), fun h_ => absurd h_ (by decide), fun h_ => absurd h_ (by decide), fun h_ => absurd h_ (by decide), fun h_ => absurd h_ (by decide), fun h_ => absurd h_ (by decide), fun h_ => absurd h_ (by decide), fun h_ => absurd h_ (by decide), fun h_ => absurd h_ (by decide), fun h_ => absurd h_ (by decide), fun h_ => absurd h_ (by decide)⟩
    ·skip
     clear BK409 HB HO_3
     refine steps_cons ?_ ?_
     ·rintro b a w' ⟨gb416, gb417, gb418, m9_, m10_, m11_, ha, Q_HO_3, Q_BK409, Q_HB, Q_NB417_416, Q_NB416_417, Q_NB418_416, Q_NB416_418, Q_NB418_417, Q_NB417_418, Q_BK416, Q_GW416, Q_GE416, Q_NB409_416, Q_NB416_409, Q_BK417, Q_GW417, Q_GE417, Q_NB409_417, Q_NB417_409, Q_BK418, Q_GW418, Q_GE418, Q_NB409_418, Q_NB418_409, Q_BK416_e12, Q_BK417_e13, Q_BK418_e14, Q_X9_, Q_X10_, Q_X11_⟩ hb_ hon hoff
      refine ⟨_, rfl, fun K hK => ?_⟩
      have e5 : a.tmps[5]? = some (.pointer (some ⟨gb409, 0, none⟩)) := by rw [ha]; exact (putSel_off rfl).trans rfl
      replace ha := Aside0.mk ha
      have HO_3 := Aside0.mk Q_HO_3
      have BK409 := Aside0.mk Q_BK409
      have HB := Aside0.mk Q_HB
      have hc0_ : w'.cell? ⟨gb409, 0, none⟩ = some (.int .i64 (wrap64 ((wrap64 (Int.tdiv x10_1 27)) - 1))) := bcl BK409 0
      have hc1_ : w'.cell? ⟨gb409, 1, none⟩ = some (.int .i64 (wrap64 ((Int.tmod (wrap64 (Int.tdiv x10_1 9)) 3) - 1))) := bcl BK409 1
      have hc2_ : w'.cell? ⟨gb409, 2, none⟩ = some (.int .i64 (wrap64 ((Int.tmod (wrap64 (Int.tdiv x10_1 3)) 3) - 1))) := bcl BK409 2
      have hc3_ : w'.cell? ⟨gb409, 3, none⟩ = some (.int .i64 (wrap64 ((Int.tmod x10_1 3) - 1))) := bcl BK409 3
      refine value_ (w1 := w') (v := .agg #[.int .i64 (wrap64 ((wrap64 (Int.tdiv x10_1 27)) - 1)), .int .i64 (wrap64 ((Int.tmod (wrap64 (Int.tdiv x10_1 9)) 3) - 1)), .int .i64 (wrap64 ((Int.tmod (wrap64 (Int.tdiv x10_1 3)) 3) - 1)), .int .i64 (wrap64 ((Int.tmod x10_1 3) - 1))]) (by rfl) rfl ?_ ?_
      ·go_simp
       (try simp only [i64_w])
       try rfl
      refine hK.out _ _ ⟨gb416, gb417, gb418, m9_, m10_, m11_, (by rw [ha.out]; exact putSel_upk 0 hb_ rfl rfl rfl), Q_HO_3, Q_BK409, Q_HB, Q_NB417_416, Q_NB416_417, Q_NB418_416, Q_NB416_418, Q_NB418_417, Q_NB417_418, Q_BK416, Q_GW416, Q_GE416, Q_NB409_416, Q_NB416_409, Q_BK417, Q_GW417, Q_GE417, Q_NB409_417, Q_NB417_409, Q_BK418, Q_GW418, Q_GE418, Q_NB409_418, Q_NB418_409, fun h0_ => absurd ((hoff 12 (by kernel_rfl)).symm.trans h0_) (by decide), fun h0_ => absurd ((hoff 13 (by kernel_rfl)).symm.trans h0_) (by decide), fun h0_ => absurd ((hoff 14 (by kernel_rfl)).symm.trans h0_) (by decide), Q_X9_, Q_X10_, Q_X11_⟩
     refine steps_cons ?_ ?_
     ·rintro b a w' ⟨gb416, gb417, gb418, m9_, m10_, m11_, ha, Q_HO_3, Q_BK409, Q_HB, Q_NB417_416, Q_NB416_417, Q_NB418_416, Q_NB416_418, Q_NB418_417, Q_NB417_418, Q_BK416, Q_GW416, Q_GE416, Q_NB409_416, Q_NB416_409, Q_BK417, Q_GW417, Q_GE417, Q_NB409_417, Q_NB417_409, Q_BK418, Q_GW418, Q_GE418, Q_NB409_418, Q_NB418_409, Q_BK416_e12, Q_BK417_e13, Q_BK418_e14, Q_X9_, Q_X10_, Q_X11_⟩ hb_ hon hoff
      refine ⟨_, rfl, fun K hK => ?_⟩
      replace ha := Aside0.mk ha
      have HO_3 := Aside0.mk Q_HO_3
      have BK409 := Aside0.mk Q_BK409
      have HB := Aside0.mk Q_HB
      refine value_ (w1 := w') (v := .agg #[.int .i64 1, .int .i64 0]) (by rfl) rfl ?_ ?_
      ·go_simp
       (try simp only [i64_w])
       try rfl
      refine hK.out _ _ ⟨gb416, gb417, gb418, m9_, m10_, m11_, (by rw [ha.out]; exact putSel_upk 1 hb_ rfl rfl rfl), Q_HO_3, Q_BK409, Q_HB, Q_NB417_416, Q_NB416_417, Q_NB418_416, Q_NB416_418, Q_NB418_417, Q_NB417_418, Q_BK416, Q_GW416, Q_GE416, Q_NB409_416, Q_NB416_409, Q_BK417, Q_GW417, Q_GE417, Q_NB409_417, Q_NB417_409, Q_BK418, Q_GW418, Q_GE418, Q_NB409_418, Q_NB418_409, fun h0_ => absurd ((hoff 12 (by kernel_rfl)).symm.trans h0_) (by decide), fun h0_ => absurd ((hoff 13 (by kernel_rfl)).symm.trans h0_) (by decide), fun h0_ => absurd ((hoff 14 (by kernel_rfl)).symm.trans h0_) (by decide), Q_X9_, Q_X10_, Q_X11_⟩
     refine steps_cons ?_ ?_
     ·rintro b a w' ⟨gb416, gb417, gb418, m9_, m10_, m11_, ha, Q_HO_3, Q_BK409, Q_HB, Q_NB417_416, Q_NB416_417, Q_NB418_416, Q_NB416_418, Q_NB418_417, Q_NB417_418, Q_BK416, Q_GW416, Q_GE416, Q_NB409_416, Q_NB416_409, Q_BK417, Q_GW417, Q_GE417, Q_NB409_417, Q_NB417_409, Q_BK418, Q_GW418, Q_GE418, Q_NB409_418, Q_NB418_409, Q_BK416_e12, Q_BK417_e13, Q_BK418_e14, Q_X9_, Q_X10_, Q_X11_⟩ hb_ hon hoff
      refine ⟨_, rfl, fun K hK => ?_⟩
      have e28 : a.tmps[28]? = some (.agg #[.int .i64 (wrap64 ((wrap64 (Int.tdiv x10_1 27)) - 1)), .int .i64 (wrap64 ((Int.tmod (wrap64 (Int.tdiv x10_1 9)) 3) - 1)), .int .i64 (wrap64 ((Int.tmod (wrap64 (Int.tdiv x10_1 3)) 3) - 1)), .int .i64 (wrap64 ((Int.tmod x10_1 3) - 1))]) := by rw [ha]; exact putSel_on (e := (0, 28, .agg #[.int .i64 (wrap64 ((wrap64 (Int.tdiv x10_1 27)) - 1)), .int .i64 (wrap64 ((Int.tmod (wrap64 (Int.tdiv x10_1 9)) 3) - 1)), .int .i64 (wrap64 ((Int.tmod (wrap64 (Int.tdiv x10_1 3)) 3) - 1)), .int .i64 (wrap64 ((Int.tmod x10_1 3) - 1))])) 0 rfl rfl (hon 0 (by kernel_rfl)) rfl
      have e29 : a.tmps[29]? = some (.agg #[.int .i64 1, .int .i64 0]) := by rw [ha]; exact putSel_on (e := (1, 29, .agg #[.int .i64 1, .int .i64 0])) 1 rfl rfl (hon 1 (by kernel_rfl)) rfl
      replace ha := Aside0.mk ha
      have HO_3 := Aside0.mk Q_HO_3
      have BK409 := Aside0.mk Q_BK409
      have HB := Aside0.mk Q_HB
      refine goes_ Try.func77 (by kernel_rfl) rfl #[.agg #[.int .i64 (wrap64 ((wrap64 (Int.tdiv x10_1 27)) - 1)), .int .i64 (wrap64 ((Int.tmod (wrap64 (Int.tdiv x10_1 9)) 3) - 1)), .int .i64 (wrap64 ((Int.tmod (wrap64 (Int.tdiv x10_1 3)) 3) - 1)), .int .i64 (wrap64 ((Int.tmod x10_1 3) - 1))], .agg #[.int .i64 1, .int .i64 0]] (by rfl) rfl rfl (by first | (simp only [List.map_toArray, List.map_cons, List.map_nil, Act.eval, Array.getD_eq_getD_getElem?, Option.getD_some, e28, e29]; done) | (simp only [List.map_toArray, List.map_cons, List.map_nil, Act.eval, Array.getD_eq_getD_getElem?, Option.getD_some, e28, e29]; rfl)) ?_
      with_reducible refine (impl_Mat_apply.calls _ _ _ _ _ _ _ _ _ A5.out).mono ?_
      rintro e w19 ⟨rfl, hb⟩
      refine ⟨_, rfl, ?_⟩
      have n0_ := asd (Kd.R_below (kr HO_3) hb)
      have n1_ := bB BK409 hb
      have n2_ := bS1 HB GE409 hb
      have z_BK416 := fun (h0_ : b 9 = true) (h1_ : b 12 = false) => (show w19.heap[gb416]? = some (.cells #[.int .i64 0, .int .i64 0] 42 (0, 0)) from by first | exact (blk_below (g := gb416) (o := .cells #[.int .i64 0, .int .i64 0] 42 (0, 0)) (by (with_reducible repeat (first | refine blk_drewN ?_ _ | refine blk_drew ?_ | refine blk_alloc ?_ _)); exact (Q_BK416 h0_ h1_)) hb))
      have z_BK417 := fun (h0_ : b 10 = true) (h1_ : b 13 = false) => (show w19.heap[gb417]? = some (.cells #[.int .i64 0, .int .i64 0] 42 (0, 0)) from by first | exact (blk_below (g := gb417) (o := .cells #[.int .i64 0, .int .i64 0] 42 (0, 0)) (by (with_reducible repeat (first | refine blk_drewN ?_ _ | refine blk_drew ?_ | refine blk_alloc ?_ _)); exact (Q_BK417 h0_ h1_)) hb))
      have z_BK418 := fun (h0_ : b 11 = true) (h1_ : b 14 = false) => (show w19.heap[gb418]? = some (.cells #[.int .i64 0, .int .i64 0] 42 (0, 0)) from by first | exact (blk_below (g := gb418) (o := .cells #[.int .i64 0, .int .i64 0] 42 (0, 0)) (by (with_reducible repeat (first | refine blk_drewN ?_ _ | refine blk_drew ?_ | refine blk_alloc ?_ _)); exact (Q_BK418 h0_ h1_)) hb))
      clear HO_3
      clear BK409
      clear HB
      have HO_3 := n0_
      have BK409 := n1_
      have HB := n2_
      clear n0_ n1_ n2_
      (try clear hb)
      (try clear hb2)
      (try clear hk)
      (try clear hi)
      refine hK.out _ _ ⟨gb416, gb417, gb418, m9_, m10_, m11_, (by rw [ha.out]; exact putSel_upk 2 hb_ rfl rfl rfl), (kr HO_3), (bkp BK409), (bbw1 HB GE409), Q_NB417_416, Q_NB416_417, Q_NB418_416, Q_NB416_418, Q_NB418_417, Q_NB417_418, z_BK416, Q_GW416, Q_GE416, Q_NB409_416, Q_NB416_409, z_BK417, Q_GW417, Q_GE417, Q_NB409_417, Q_NB417_409, z_BK418, Q_GW418, Q_GE418, Q_NB409_418, Q_NB418_409, fun h0_ => absurd ((hoff 12 (by kernel_rfl)).symm.trans h0_) (by decide), fun h0_ => absurd ((hoff 13 (by kernel_rfl)).symm.trans h0_) (by decide), fun h0_ => absurd ((hoff 14 (by kernel_rfl)).symm.trans h0_) (by decide), Q_X9_, Q_X10_, Q_X11_⟩
     refine steps_cons ?_ ?_
     ·rintro b a w' ⟨gb416, gb417, gb418, m9_, m10_, m11_, ha, Q_HO_3, Q_BK409, Q_HB, Q_NB417_416, Q_NB416_417, Q_NB418_416, Q_NB416_418, Q_NB418_417, Q_NB417_418, Q_BK416, Q_GW416, Q_GE416, Q_NB409_416, Q_NB416_409, Q_BK417, Q_GW417, Q_GE417, Q_NB409_417, Q_NB417_409, Q_BK418, Q_GW418, Q_GE418, Q_NB409_418, Q_NB418_409, Q_BK416_e12, Q_BK417_e13, Q_BK418_e14, Q_X9_, Q_X10_, Q_X11_⟩ hb_ hon hoff
      refine ⟨_, rfl, fun K hK => ?_⟩
      have e5 : a.tmps[5]? = some (.pointer (some ⟨gb409, 0, none⟩)) := by rw [ha]; exact (putSel_off rfl).trans rfl
      replace ha := Aside0.mk ha
      have HO_3 := Aside0.mk Q_HO_3
      have BK409 := Aside0.mk Q_BK409
      have HB := Aside0.mk Q_HB
      have hc0_ : w'.cell? ⟨gb409, 0, none⟩ = some (.int .i64 (wrap64 ((wrap64 (Int.tdiv x10_1 27)) - 1))) := bcl BK409 0
      have hc1_ : w'.cell? ⟨gb409, 1, none⟩ = some (.int .i64 (wrap64 ((Int.tmod (wrap64 (Int.tdiv x10_1 9)) 3) - 1))) := bcl BK409 1
      have hc2_ : w'.cell? ⟨gb409, 2, none⟩ = some (.int .i64 (wrap64 ((Int.tmod (wrap64 (Int.tdiv x10_1 3)) 3) - 1))) := bcl BK409 2
      have hc3_ : w'.cell? ⟨gb409, 3, none⟩ = some (.int .i64 (wrap64 ((Int.tmod x10_1 3) - 1))) := bcl BK409 3
      refine value_ (w1 := w') (v := .agg #[.int .i64 (wrap64 ((wrap64 (Int.tdiv x10_1 27)) - 1)), .int .i64 (wrap64 ((Int.tmod (wrap64 (Int.tdiv x10_1 9)) 3) - 1)), .int .i64 (wrap64 ((Int.tmod (wrap64 (Int.tdiv x10_1 3)) 3) - 1)), .int .i64 (wrap64 ((Int.tmod x10_1 3) - 1))]) (by rfl) rfl ?_ ?_
      ·go_simp
       (try simp only [i64_w])
       try rfl
      refine hK.out _ _ ⟨gb416, gb417, gb418, m9_, m10_, m11_, (by rw [ha.out]; exact putSel_upk 3 hb_ rfl rfl rfl), Q_HO_3, Q_BK409, Q_HB, Q_NB417_416, Q_NB416_417, Q_NB418_416, Q_NB416_418, Q_NB418_417, Q_NB417_418, Q_BK416, Q_GW416, Q_GE416, Q_NB409_416, Q_NB416_409, Q_BK417, Q_GW417, Q_GE417, Q_NB409_417, Q_NB417_409, Q_BK418, Q_GW418, Q_GE418, Q_NB409_418, Q_NB418_409, fun h0_ => absurd ((hoff 12 (by kernel_rfl)).symm.trans h0_) (by decide), fun h0_ => absurd ((hoff 13 (by kernel_rfl)).symm.trans h0_) (by decide), fun h0_ => absurd ((hoff 14 (by kernel_rfl)).symm.trans h0_) (by decide), Q_X9_, Q_X10_, Q_X11_⟩
     refine steps_cons ?_ ?_
     ·rintro b a w' ⟨gb416, gb417, gb418, m9_, m10_, m11_, ha, Q_HO_3, Q_BK409, Q_HB, Q_NB417_416, Q_NB416_417, Q_NB418_416, Q_NB416_418, Q_NB418_417, Q_NB417_418, Q_BK416, Q_GW416, Q_GE416, Q_NB409_416, Q_NB416_409, Q_BK417, Q_GW417, Q_GE417, Q_NB409_417, Q_NB417_409, Q_BK418, Q_GW418, Q_GE418, Q_NB409_418, Q_NB418_409, Q_BK416_e12, Q_BK417_e13, Q_BK418_e14, Q_X9_, Q_X10_, Q_X11_⟩ hb_ hon hoff
      refine ⟨_, rfl, fun K hK => ?_⟩
      replace ha := Aside0.mk ha
      have HO_3 := Aside0.mk Q_HO_3
      have BK409 := Aside0.mk Q_BK409
      have HB := Aside0.mk Q_HB
      refine value_ (w1 := w') (v := .agg #[.int .i64 0, .int .i64 1]) (by rfl) rfl ?_ ?_
      ·go_simp
       (try simp only [i64_w])
       try rfl
      refine hK.out _ _ ⟨gb416, gb417, gb418, m9_, m10_, m11_, (by rw [ha.out]; exact putSel_upk 4 hb_ rfl rfl rfl), Q_HO_3, Q_BK409, Q_HB, Q_NB417_416, Q_NB416_417, Q_NB418_416, Q_NB416_418, Q_NB418_417, Q_NB417_418, Q_BK416, Q_GW416, Q_GE416, Q_NB409_416, Q_NB416_409, Q_BK417, Q_GW417, Q_GE417, Q_NB409_417, Q_NB417_409, Q_BK418, Q_GW418, Q_GE418, Q_NB409_418, Q_NB418_409, fun h0_ => absurd ((hoff 12 (by kernel_rfl)).symm.trans h0_) (by decide), fun h0_ => absurd ((hoff 13 (by kernel_rfl)).symm.trans h0_) (by decide), fun h0_ => absurd ((hoff 14 (by kernel_rfl)).symm.trans h0_) (by decide), Q_X9_, Q_X10_, Q_X11_⟩
     refine steps_cons ?_ ?_
     ·rintro b a w' ⟨gb416, gb417, gb418, m9_, m10_, m11_, ha, Q_HO_3, Q_BK409, Q_HB, Q_NB417_416, Q_NB416_417, Q_NB418_416, Q_NB416_418, Q_NB418_417, Q_NB417_418, Q_BK416, Q_GW416, Q_GE416, Q_NB409_416, Q_NB416_409, Q_BK417, Q_GW417, Q_GE417, Q_NB409_417, Q_NB417_409, Q_BK418, Q_GW418, Q_GE418, Q_NB409_418, Q_NB418_409, Q_BK416_e12, Q_BK417_e13, Q_BK418_e14, Q_X9_, Q_X10_, Q_X11_⟩ hb_ hon hoff
      refine ⟨_, rfl, fun K hK => ?_⟩
      have e31 : a.tmps[31]? = some (.agg #[.int .i64 (wrap64 ((wrap64 (Int.tdiv x10_1 27)) - 1)), .int .i64 (wrap64 ((Int.tmod (wrap64 (Int.tdiv x10_1 9)) 3) - 1)), .int .i64 (wrap64 ((Int.tmod (wrap64 (Int.tdiv x10_1 3)) 3) - 1)), .int .i64 (wrap64 ((Int.tmod x10_1 3) - 1))]) := by rw [ha]; exact putSel_on (e := (3, 31, .agg #[.int .i64 (wrap64 ((wrap64 (Int.tdiv x10_1 27)) - 1)), .int .i64 (wrap64 ((Int.tmod (wrap64 (Int.tdiv x10_1 9)) 3) - 1)), .int .i64 (wrap64 ((Int.tmod (wrap64 (Int.tdiv x10_1 3)) 3) - 1)), .int .i64 (wrap64 ((Int.tmod x10_1 3) - 1))])) 3 rfl rfl (hon 3 (by kernel_rfl)) rfl
      have e32 : a.tmps[32]? = some (.agg #[.int .i64 0, .int .i64 1]) := by rw [ha]; exact putSel_on (e := (4, 32, .agg #[.int .i64 0, .int .i64 1])) 4 rfl rfl (hon 4 (by kernel_rfl)) rfl
      replace ha := Aside0.mk ha
      have HO_3 := Aside0.mk Q_HO_3
      have BK409 := Aside0.mk Q_BK409
      have HB := Aside0.mk Q_HB
      refine goes_ Try.func77 (by kernel_rfl) rfl #[.agg #[.int .i64 (wrap64 ((wrap64 (Int.tdiv x10_1 27)) - 1)), .int .i64 (wrap64 ((Int.tmod (wrap64 (Int.tdiv x10_1 9)) 3) - 1)), .int .i64 (wrap64 ((Int.tmod (wrap64 (Int.tdiv x10_1 3)) 3) - 1)), .int .i64 (wrap64 ((Int.tmod x10_1 3) - 1))], .agg #[.int .i64 0, .int .i64 1]] (by rfl) rfl rfl (by first | (simp only [List.map_toArray, List.map_cons, List.map_nil, Act.eval, Array.getD_eq_getD_getElem?, Option.getD_some, e31, e32]; done) | (simp only [List.map_toArray, List.map_cons, List.map_nil, Act.eval, Array.getD_eq_getD_getElem?, Option.getD_some, e31, e32]; rfl)) ?_
      with_reducible refine (impl_Mat_apply.calls _ _ _ _ _ _ _ _ _ A6.out).mono ?_
      rintro e w21 ⟨rfl, hb⟩
      refine ⟨_, rfl, ?_⟩
      have n0_ := asd (Kd.R_below (kr HO_3) hb)
      have n1_ := bB BK409 hb
      have n2_ := bS1 HB GE409 hb
      have z_BK416 := fun (h0_ : b 9 = true) (h1_ : b 12 = false) => (show w21.heap[gb416]? = some (.cells #[.int .i64 0, .int .i64 0] 42 (0, 0)) from by first | exact (blk_below (g := gb416) (o := .cells #[.int .i64 0, .int .i64 0] 42 (0, 0)) (by (with_reducible repeat (first | refine blk_drewN ?_ _ | refine blk_drew ?_ | refine blk_alloc ?_ _)); exact (Q_BK416 h0_ h1_)) hb))
      have z_BK417 := fun (h0_ : b 10 = true) (h1_ : b 13 = false) => (show w21.heap[gb417]? = some (.cells #[.int .i64 0, .int .i64 0] 42 (0, 0)) from by first | exact (blk_below (g := gb417) (o := .cells #[.int .i64 0, .int .i64 0] 42 (0, 0)) (by (with_reducible repeat (first | refine blk_drewN ?_ _ | refine blk_drew ?_ | refine blk_alloc ?_ _)); exact (Q_BK417 h0_ h1_)) hb))
      have z_BK418 := fun (h0_ : b 11 = true) (h1_ : b 14 = false) => (show w21.heap[gb418]? = some (.cells #[.int .i64 0, .int .i64 0] 42 (0, 0)) from by first | exact (blk_below (g := gb418) (o := .cells #[.int .i64 0, .int .i64 0] 42 (0, 0)) (by (with_reducible repeat (first | refine blk_drewN ?_ _ | refine blk_drew ?_ | refine blk_alloc ?_ _)); exact (Q_BK418 h0_ h1_)) hb))
      clear HO_3
      clear BK409
      clear HB
      have HO_3 := n0_
      have BK409 := n1_
      have HB := n2_
      clear n0_ n1_ n2_
      (try clear hb)
      (try clear hb2)
      (try clear hk)
      (try clear hi)
      refine hK.out _ _ ⟨gb416, gb417, gb418, m9_, m10_, m11_, (by rw [ha.out]; exact putSel_upk 5 hb_ rfl rfl rfl), (kr HO_3), (bkp BK409), (bbw1 HB GE409), Q_NB417_416, Q_NB416_417, Q_NB418_416, Q_NB416_418, Q_NB418_417, Q_NB417_418, z_BK416, Q_GW416, Q_GE416, Q_NB409_416, Q_NB416_409, z_BK417, Q_GW417, Q_GE417, Q_NB409_417, Q_NB417_409, z_BK418, Q_GW418, Q_GE418, Q_NB409_418, Q_NB418_409, fun h0_ => absurd ((hoff 12 (by kernel_rfl)).symm.trans h0_) (by decide), fun h0_ => absurd ((hoff 13 (by kernel_rfl)).symm.trans h0_) (by decide), fun h0_ => absurd ((hoff 14 (by kernel_rfl)).symm.trans h0_) (by decide), Q_X9_, Q_X10_, Q_X11_⟩
     refine steps_cons ?_ ?_
     ·rintro b a w' ⟨gb416, gb417, gb418, m9_, m10_, m11_, ha, Q_HO_3, Q_BK409, Q_HB, Q_NB417_416, Q_NB416_417, Q_NB418_416, Q_NB416_418, Q_NB418_417, Q_NB417_418, Q_BK416, Q_GW416, Q_GE416, Q_NB409_416, Q_NB416_409, Q_BK417, Q_GW417, Q_GE417, Q_NB409_417, Q_NB417_409, Q_BK418, Q_GW418, Q_GE418, Q_NB409_418, Q_NB418_409, Q_BK416_e12, Q_BK417_e13, Q_BK418_e14, Q_X9_, Q_X10_, Q_X11_⟩ hb_ hon hoff
      refine ⟨_, rfl, fun K hK => ?_⟩
      have e5 : a.tmps[5]? = some (.pointer (some ⟨gb409, 0, none⟩)) := by rw [ha]; exact (putSel_off rfl).trans rfl
      replace ha := Aside0.mk ha
      have HO_3 := Aside0.mk Q_HO_3
      have BK409 := Aside0.mk Q_BK409
      have HB := Aside0.mk Q_HB
      have hc0_ : w'.cell? ⟨gb409, 0, none⟩ = some (.int .i64 (wrap64 ((wrap64 (Int.tdiv x10_1 27)) - 1))) := bcl BK409 0
      have hc1_ : w'.cell? ⟨gb409, 1, none⟩ = some (.int .i64 (wrap64 ((Int.tmod (wrap64 (Int.tdiv x10_1 9)) 3) - 1))) := bcl BK409 1
      have hc2_ : w'.cell? ⟨gb409, 2, none⟩ = some (.int .i64 (wrap64 ((Int.tmod (wrap64 (Int.tdiv x10_1 3)) 3) - 1))) := bcl BK409 2
      have hc3_ : w'.cell? ⟨gb409, 3, none⟩ = some (.int .i64 (wrap64 ((Int.tmod x10_1 3) - 1))) := bcl BK409 3
      refine value_ (w1 := w') (v := .agg #[.int .i64 (wrap64 ((wrap64 (Int.tdiv x10_1 27)) - 1)), .int .i64 (wrap64 ((Int.tmod (wrap64 (Int.tdiv x10_1 9)) 3) - 1)), .int .i64 (wrap64 ((Int.tmod (wrap64 (Int.tdiv x10_1 3)) 3) - 1)), .int .i64 (wrap64 ((Int.tmod x10_1 3) - 1))]) (by rfl) rfl ?_ ?_
      ·go_simp
       (try simp only [i64_w])
       try rfl
      refine hK.out _ _ ⟨gb416, gb417, gb418, m9_, m10_, m11_, (by rw [ha.out]; exact putSel_upk 6 hb_ rfl rfl rfl), Q_HO_3, Q_BK409, Q_HB, Q_NB417_416, Q_NB416_417, Q_NB418_416, Q_NB416_418, Q_NB418_417, Q_NB417_418, Q_BK416, Q_GW416, Q_GE416, Q_NB409_416, Q_NB416_409, Q_BK417, Q_GW417, Q_GE417, Q_NB409_417, Q_NB417_409, Q_BK418, Q_GW418, Q_GE418, Q_NB409_418, Q_NB418_409, fun h0_ => absurd ((hoff 12 (by kernel_rfl)).symm.trans h0_) (by decide), fun h0_ => absurd ((hoff 13 (by kernel_rfl)).symm.trans h0_) (by decide), fun h0_ => absurd ((hoff 14 (by kernel_rfl)).symm.trans h0_) (by decide), Q_X9_, Q_X10_, Q_X11_⟩
     refine steps_cons ?_ ?_
     ·rintro b a w' ⟨gb416, gb417, gb418, m9_, m10_, m11_, ha, Q_HO_3, Q_BK409, Q_HB, Q_NB417_416, Q_NB416_417, Q_NB418_416, Q_NB416_418, Q_NB418_417, Q_NB417_418, Q_BK416, Q_GW416, Q_GE416, Q_NB409_416, Q_NB416_409, Q_BK417, Q_GW417, Q_GE417, Q_NB409_417, Q_NB417_409, Q_BK418, Q_GW418, Q_GE418, Q_NB409_418, Q_NB418_409, Q_BK416_e12, Q_BK417_e13, Q_BK418_e14, Q_X9_, Q_X10_, Q_X11_⟩ hb_ hon hoff
      refine ⟨_, rfl, fun K hK => ?_⟩
      replace ha := Aside0.mk ha
      have HO_3 := Aside0.mk Q_HO_3
      have BK409 := Aside0.mk Q_BK409
      have HB := Aside0.mk Q_HB
      refine value_ (w1 := w') (v := .agg #[.int .i64 1, .int .i64 1]) (by rfl) rfl ?_ ?_
      ·go_simp
       (try simp only [i64_w])
       try rfl
      refine hK.out _ _ ⟨gb416, gb417, gb418, m9_, m10_, m11_, (by rw [ha.out]; exact putSel_upk 7 hb_ rfl rfl rfl), Q_HO_3, Q_BK409, Q_HB, Q_NB417_416, Q_NB416_417, Q_NB418_416, Q_NB416_418, Q_NB418_417, Q_NB417_418, Q_BK416, Q_GW416, Q_GE416, Q_NB409_416, Q_NB416_409, Q_BK417, Q_GW417, Q_GE417, Q_NB409_417, Q_NB417_409, Q_BK418, Q_GW418, Q_GE418, Q_NB409_418, Q_NB418_409, fun h0_ => absurd ((hoff 12 (by kernel_rfl)).symm.trans h0_) (by decide), fun h0_ => absurd ((hoff 13 (by kernel_rfl)).symm.trans h0_) (by decide), fun h0_ => absurd ((hoff 14 (by kernel_rfl)).symm.trans h0_) (by decide), Q_X9_, Q_X10_, Q_X11_⟩
     refine steps_cons ?_ ?_
     ·rintro b a w' ⟨gb416, gb417, gb418, m9_, m10_, m11_, ha, Q_HO_3, Q_BK409, Q_HB, Q_NB417_416, Q_NB416_417, Q_NB418_416, Q_NB416_418, Q_NB418_417, Q_NB417_418, Q_BK416, Q_GW416, Q_GE416, Q_NB409_416, Q_NB416_409, Q_BK417, Q_GW417, Q_GE417, Q_NB409_417, Q_NB417_409, Q_BK418, Q_GW418, Q_GE418, Q_NB409_418, Q_NB418_409, Q_BK416_e12, Q_BK417_e13, Q_BK418_e14, Q_X9_, Q_X10_, Q_X11_⟩ hb_ hon hoff
      refine ⟨_, rfl, fun K hK => ?_⟩
      have e34 : a.tmps[34]? = some (.agg #[.int .i64 (wrap64 ((wrap64 (Int.tdiv x10_1 27)) - 1)), .int .i64 (wrap64 ((Int.tmod (wrap64 (Int.tdiv x10_1 9)) 3) - 1)), .int .i64 (wrap64 ((Int.tmod (wrap64 (Int.tdiv x10_1 3)) 3) - 1)), .int .i64 (wrap64 ((Int.tmod x10_1 3) - 1))]) := by rw [ha]; exact putSel_on (e := (6, 34, .agg #[.int .i64 (wrap64 ((wrap64 (Int.tdiv x10_1 27)) - 1)), .int .i64 (wrap64 ((Int.tmod (wrap64 (Int.tdiv x10_1 9)) 3) - 1)), .int .i64 (wrap64 ((Int.tmod (wrap64 (Int.tdiv x10_1 3)) 3) - 1)), .int .i64 (wrap64 ((Int.tmod x10_1 3) - 1))])) 6 rfl rfl (hon 6 (by kernel_rfl)) rfl
      have e35 : a.tmps[35]? = some (.agg #[.int .i64 1, .int .i64 1]) := by rw [ha]; exact putSel_on (e := (7, 35, .agg #[.int .i64 1, .int .i64 1])) 7 rfl rfl (hon 7 (by kernel_rfl)) rfl
      replace ha := Aside0.mk ha
      have HO_3 := Aside0.mk Q_HO_3
      have BK409 := Aside0.mk Q_BK409
      have HB := Aside0.mk Q_HB
      refine goes_ Try.func77 (by kernel_rfl) rfl #[.agg #[.int .i64 (wrap64 ((wrap64 (Int.tdiv x10_1 27)) - 1)), .int .i64 (wrap64 ((Int.tmod (wrap64 (Int.tdiv x10_1 9)) 3) - 1)), .int .i64 (wrap64 ((Int.tmod (wrap64 (Int.tdiv x10_1 3)) 3) - 1)), .int .i64 (wrap64 ((Int.tmod x10_1 3) - 1))], .agg #[.int .i64 1, .int .i64 1]] (by rfl) rfl rfl (by first | (simp only [List.map_toArray, List.map_cons, List.map_nil, Act.eval, Array.getD_eq_getD_getElem?, Option.getD_some, e34, e35]; done) | (simp only [List.map_toArray, List.map_cons, List.map_nil, Act.eval, Array.getD_eq_getD_getElem?, Option.getD_some, e34, e35]; rfl)) ?_
      with_reducible refine (impl_Mat_apply.calls _ _ _ _ _ _ _ _ _ A7.out).mono ?_
      rintro e w22 ⟨rfl, hb⟩
      refine ⟨_, rfl, ?_⟩
      have n0_ := asd (Kd.R_below (kr HO_3) hb)
      have n1_ := bB BK409 hb
      have n2_ := bS1 HB GE409 hb
      have z_BK416 := fun (h0_ : b 9 = true) (h1_ : b 12 = false) => (show w22.heap[gb416]? = some (.cells #[.int .i64 0, .int .i64 0] 42 (0, 0)) from by first | exact (blk_below (g := gb416) (o := .cells #[.int .i64 0, .int .i64 0] 42 (0, 0)) (by (with_reducible repeat (first | refine blk_drewN ?_ _ | refine blk_drew ?_ | refine blk_alloc ?_ _)); exact (Q_BK416 h0_ h1_)) hb))
      have z_BK417 := fun (h0_ : b 10 = true) (h1_ : b 13 = false) => (show w22.heap[gb417]? = some (.cells #[.int .i64 0, .int .i64 0] 42 (0, 0)) from by first | exact (blk_below (g := gb417) (o := .cells #[.int .i64 0, .int .i64 0] 42 (0, 0)) (by (with_reducible repeat (first | refine blk_drewN ?_ _ | refine blk_drew ?_ | refine blk_alloc ?_ _)); exact (Q_BK417 h0_ h1_)) hb))
      have z_BK418 := fun (h0_ : b 11 = true) (h1_ : b 14 = false) => (show w22.heap[gb418]? = some (.cells #[.int .i64 0, .int .i64 0] 42 (0, 0)) from by first | exact (blk_below (g := gb418) (o := .cells #[.int .i64 0, .int .i64 0] 42 (0, 0)) (by (with_reducible repeat (first | refine blk_drewN ?_ _ | refine blk_drew ?_ | refine blk_alloc ?_ _)); exact (Q_BK418 h0_ h1_)) hb))
      clear HO_3
      clear BK409
      clear HB
      have HO_3 := n0_
      have BK409 := n1_
      have HB := n2_
      clear n0_ n1_ n2_
      (try clear hb)
      (try clear hb2)
      (try clear hk)
      (try clear hi)
      refine hK.out _ _ ⟨gb416, gb417, gb418, m9_, m10_, m11_, (by rw [ha.out]; exact putSel_upk 8 hb_ rfl rfl rfl), (kr HO_3), (bkp BK409), (bbw1 HB GE409), Q_NB417_416, Q_NB416_417, Q_NB418_416, Q_NB416_418, Q_NB418_417, Q_NB417_418, z_BK416, Q_GW416, Q_GE416, Q_NB409_416, Q_NB416_409, z_BK417, Q_GW417, Q_GE417, Q_NB409_417, Q_NB417_409, z_BK418, Q_GW418, Q_GE418, Q_NB409_418, Q_NB418_409, fun h0_ => absurd ((hoff 12 (by kernel_rfl)).symm.trans h0_) (by decide), fun h0_ => absurd ((hoff 13 (by kernel_rfl)).symm.trans h0_) (by decide), fun h0_ => absurd ((hoff 14 (by kernel_rfl)).symm.trans h0_) (by decide), Q_X9_, Q_X10_, Q_X11_⟩
     refine steps_cons ?_ ?_
     ·rintro b a w' ⟨gb416, gb417, gb418, m9_, m10_, m11_, ha, Q_HO_3, Q_BK409, Q_HB, Q_NB417_416, Q_NB416_417, Q_NB418_416, Q_NB416_418, Q_NB418_417, Q_NB417_418, Q_BK416, Q_GW416, Q_GE416, Q_NB409_416, Q_NB416_409, Q_BK417, Q_GW417, Q_GE417, Q_NB409_417, Q_NB417_409, Q_BK418, Q_GW418, Q_GE418, Q_NB409_418, Q_NB418_409, Q_BK416_e12, Q_BK417_e13, Q_BK418_e14, Q_X9_, Q_X10_, Q_X11_⟩ hb_ hon hoff
      refine ⟨_, rfl, fun K hK => ?_⟩
      replace ha := Aside0.mk ha
      have HO_3 := Aside0.mk Q_HO_3
      have BK409 := Aside0.mk Q_BK409
      have HB := Aside0.mk Q_HB
      refine box_step ?hg (N := 6) ?hd (cs := #[.int .i64 0, .int .i64 0]) (t := 42) ?hr ?_; (case hd => rfl); (case hg => rfl); (case hr => first | (go_simp; done) | (go_simp; rfl))
      intro gb416 hg w19 hbox hb
      have n0_ := asd (Kd.R_below (kr HO_3) hb)
      have n1_ := bB BK409 hb
      have n2_ := bS1 HB GE409 hb
      have n3_ := asd (hbox)
      have n4_ := ngw1 hg HB GE409
      have n5_ := ngw1 hg HB GE409
      have n6_ := nlt hg BK409
      have n7_ := nsy (nlt hg BK409)
      have z_NB417_416 := fun (h0_ : up b 9 9 = true) (h1_ : up b 9 10 = true) => (show gb417 ≠ gb416 from ((by rw [hg]; exact Nat.ne_of_lt (by cases hq_ : b 13 with | false => exact blk_lt (g := gb417) (Q_BK417 h1_ hq_) | true => exact blk_lt (g := gb417) (Q_BK417_e13 hq_)) : gb417 ≠ gb416)))
      have z_NB416_417 := fun (h0_ : up b 9 9 = true) (h1_ : up b 9 10 = true) => (show gb416 ≠ gb417 from ((by rw [hg]; exact Nat.ne_of_gt (by cases hq_ : b 13 with | false => exact blk_lt (g := gb417) (Q_BK417 h1_ hq_) | true => exact blk_lt (g := gb417) (Q_BK417_e13 hq_)) : gb416 ≠ gb417)))
      have z_NB418_416 := fun (h0_ : up b 9 9 = true) (h1_ : up b 9 11 = true) => (show gb418 ≠ gb416 from ((by rw [hg]; exact Nat.ne_of_lt (by cases hq_ : b 14 with | false => exact blk_lt (g := gb418) (Q_BK418 h1_ hq_) | true => exact blk_lt (g := gb418) (Q_BK418_e14 hq_)) : gb418 ≠ gb416)))
      have z_NB416_418 := fun (h0_ : up b 9 9 = true) (h1_ : up b 9 11 = true) => (show gb416 ≠ gb418 from ((by rw [hg]; exact Nat.ne_of_gt (by cases hq_ : b 14 with | false => exact blk_lt (g := gb418) (Q_BK418 h1_ hq_) | true => exact blk_lt (g := gb418) (Q_BK418_e14 hq_)) : gb416 ≠ gb418)))
      have z_BK417 := fun (h0_ : b 10 = true) (h1_ : b 13 = false) => (show w19.heap[gb417]? = some (.cells #[.int .i64 0, .int .i64 0] 42 (0, 0)) from by first | exact (blk_below (g := gb417) (o := .cells #[.int .i64 0, .int .i64 0] 42 (0, 0)) (by (with_reducible repeat (first | refine blk_drewN ?_ _ | refine blk_drew ?_ | refine blk_alloc ?_ _)); exact (Q_BK417 h0_ h1_)) hb))
      have z_BK418 := fun (h0_ : b 11 = true) (h1_ : b 14 = false) => (show w19.heap[gb418]? = some (.cells #[.int .i64 0, .int .i64 0] 42 (0, 0)) from by first | exact (blk_below (g := gb418) (o := .cells #[.int .i64 0, .int .i64 0] 42 (0, 0)) (by (with_reducible repeat (first | refine blk_drewN ?_ _ | refine blk_drew ?_ | refine blk_alloc ?_ _)); exact (Q_BK418 h0_ h1_)) hb))
      clear HO_3
      clear BK409
      clear HB
      have HO_3 := n0_
      have BK409 := n1_
      have HB := n2_
      have BK416 := n3_
      have GW416 := n4_
      have GE416 := n5_
      have NB409_416 := n6_
      have NB416_409 := n7_
      clear n0_ n1_ n2_ n3_ n4_ n5_ n6_ n7_
      clear hb hbox hg
      refine hK.out _ _ ⟨gb416, gb417, gb418, (.pointer (some ⟨gb416, 0, none⟩)), m10_, m11_, (by rw [ha.out]; exact putSel_upk 9 hb_ rfl rfl rfl), (kr HO_3), (bkp BK409), (bbw2 HB GE409 GE416), @z_NB417_416, @z_NB416_417, @z_NB418_416, @z_NB416_418, Q_NB418_417, Q_NB417_418, fun _ _ => (bkp BK416), fun _ => GW416.out, fun _ => GE416.out, fun _ => NB409_416.out, fun _ => NB416_409.out, z_BK417, Q_GW417, Q_GE417, Q_NB409_417, Q_NB417_409, z_BK418, Q_GW418, Q_GE418, Q_NB409_418, Q_NB418_409, fun h0_ => absurd ((hoff 12 (by kernel_rfl)).symm.trans h0_) (by decide), fun h0_ => absurd ((hoff 13 (by kernel_rfl)).symm.trans h0_) (by decide), fun h0_ => absurd ((hoff 14 (by kernel_rfl)).symm.trans h0_) (by decide), fun _ => rfl, Q_X10_, Q_X11_⟩
     refine steps_cons ?_ ?_
     ·rintro b a w' ⟨gb416, gb417, gb418, m9_, m10_, m11_, ha, Q_HO_3, Q_BK409, Q_HB, Q_NB417_416, Q_NB416_417, Q_NB418_416, Q_NB416_418, Q_NB418_417, Q_NB417_418, Q_BK416, Q_GW416, Q_GE416, Q_NB409_416, Q_NB416_409, Q_BK417, Q_GW417, Q_GE417, Q_NB409_417, Q_NB417_409, Q_BK418, Q_GW418, Q_GE418, Q_NB409_418, Q_NB418_409, Q_BK416_e12, Q_BK417_e13, Q_BK418_e14, Q_X9_, Q_X10_, Q_X11_⟩ hb_ hon hoff
      refine ⟨_, rfl, fun K hK => ?_⟩
      replace ha := Aside0.mk ha
      have HO_3 := Aside0.mk Q_HO_3
      have BK409 := Aside0.mk Q_BK409
      have HB := Aside0.mk Q_HB
      refine box_step ?hg (N := 7) ?hd (cs := #[.int .i64 0, .int .i64 0]) (t := 42) ?hr ?_; (case hd => rfl); (case hg => rfl); (case hr => first | (go_simp; done) | (go_simp; rfl))
      intro gb417 hg w19 hbox hb
      have n0_ := asd (Kd.R_below (kr HO_3) hb)
      have n1_ := bB BK409 hb
      have n2_ := bS1 HB GE409 hb
      have n3_ := asd (hbox)
      have n4_ := ngw1 hg HB GE409
      have n5_ := ngw1 hg HB GE409
      have n6_ := nlt hg BK409
      have n7_ := nsy (nlt hg BK409)
      have z_NB417_416 := fun (h0_ : up b 10 9 = true) (h1_ : up b 10 10 = true) => (show gb417 ≠ gb416 from ((by rw [hg]; exact Nat.ne_of_gt (by cases hq_ : b 12 with | false => exact blk_lt (g := gb416) (Q_BK416 h0_ hq_) | true => exact blk_lt (g := gb416) (Q_BK416_e12 hq_)) : gb417 ≠ gb416)))
      have z_NB416_417 := fun (h0_ : up b 10 9 = true) (h1_ : up b 10 10 = true) => (show gb416 ≠ gb417 from ((by rw [hg]; exact Nat.ne_of_lt (by cases hq_ : b 12 with | false => exact blk_lt (g := gb416) (Q_BK416 h0_ hq_) | true => exact blk_lt (g := gb416) (Q_BK416_e12 hq_)) : gb416 ≠ gb417)))
      have z_NB418_417 := fun (h0_ : up b 10 10 = true) (h1_ : up b 10 11 = true) => (show gb418 ≠ gb417 from ((by rw [hg]; exact Nat.ne_of_lt (by cases hq_ : b 14 with | false => exact blk_lt (g := gb418) (Q_BK418 h1_ hq_) | true => exact blk_lt (g := gb418) (Q_BK418_e14 hq_)) : gb418 ≠ gb417)))
      have z_NB417_418 := fun (h0_ : up b 10 10 = true) (h1_ : up b 10 11 = true) => (show gb417 ≠ gb418 from ((by rw [hg]; exact Nat.ne_of_gt (by cases hq_ : b 14 with | false => exact blk_lt (g := gb418) (Q_BK418 h1_ hq_) | true => exact blk_lt (g := gb418) (Q_BK418_e14 hq_)) : gb417 ≠ gb418)))
      have z_BK416 := fun (h0_ : b 9 = true) (h1_ : b 12 = false) => (show w19.heap[gb416]? = some (.cells #[.int .i64 0, .int .i64 0] 42 (0, 0)) from by first | exact (blk_below (g := gb416) (o := .cells #[.int .i64 0, .int .i64 0] 42 (0, 0)) (by (with_reducible repeat (first | refine blk_drewN ?_ _ | refine blk_drew ?_ | refine blk_alloc ?_ _)); exact (Q_BK416 h0_ h1_)) hb))
      have z_BK418 := fun (h0_ : b 11 = true) (h1_ : b 14 = false) => (show w19.heap[gb418]? = some (.cells #[.int .i64 0, .int .i64 0] 42 (0, 0)) from by first | exact (blk_below (g := gb418) (o := .cells #[.int .i64 0, .int .i64 0] 42 (0, 0)) (by (with_reducible repeat (first | refine blk_drewN ?_ _ | refine blk_drew ?_ | refine blk_alloc ?_ _)); exact (Q_BK418 h0_ h1_)) hb))
      clear HO_3
      clear BK409
      clear HB
      have HO_3 := n0_
      have BK409 := n1_
      have HB := n2_
      have BK417 := n3_
      have GW417 := n4_
      have GE417 := n5_
      have NB409_417 := n6_
      have NB417_409 := n7_
      clear n0_ n1_ n2_ n3_ n4_ n5_ n6_ n7_
      clear hb hbox hg
      refine hK.out _ _ ⟨gb416, gb417, gb418, m9_, (.pointer (some ⟨gb417, 0, none⟩)), m11_, (by rw [ha.out]; exact putSel_upk 10 hb_ rfl rfl rfl), (kr HO_3), (bkp BK409), (bbw2 HB GE409 GE417), @z_NB417_416, @z_NB416_417, Q_NB418_416, Q_NB416_418, @z_NB418_417, @z_NB417_418, z_BK416, Q_GW416, Q_GE416, Q_NB409_416, Q_NB416_409, fun _ _ => (bkp BK417), fun _ => GW417.out, fun _ => GE417.out, fun _ => NB409_417.out, fun _ => NB417_409.out, z_BK418, Q_GW418, Q_GE418, Q_NB409_418, Q_NB418_409, fun h0_ => absurd ((hoff 12 (by kernel_rfl)).symm.trans h0_) (by decide), fun h0_ => absurd ((hoff 13 (by kernel_rfl)).symm.trans h0_) (by decide), fun h0_ => absurd ((hoff 14 (by kernel_rfl)).symm.trans h0_) (by decide), Q_X9_, fun _ => rfl, Q_X11_⟩
     refine steps_cons ?_ ?_
     ·rintro b a w' ⟨gb416, gb417, gb418, m9_, m10_, m11_, ha, Q_HO_3, Q_BK409, Q_HB, Q_NB417_416, Q_NB416_417, Q_NB418_416, Q_NB416_418, Q_NB418_417, Q_NB417_418, Q_BK416, Q_GW416, Q_GE416, Q_NB409_416, Q_NB416_409, Q_BK417, Q_GW417, Q_GE417, Q_NB409_417, Q_NB417_409, Q_BK418, Q_GW418, Q_GE418, Q_NB409_418, Q_NB418_409, Q_BK416_e12, Q_BK417_e13, Q_BK418_e14, Q_X9_, Q_X10_, Q_X11_⟩ hb_ hon hoff
      refine ⟨_, rfl, fun K hK => ?_⟩
      replace ha := Aside0.mk ha
      have HO_3 := Aside0.mk Q_HO_3
      have BK409 := Aside0.mk Q_BK409
      have HB := Aside0.mk Q_HB
      refine box_step ?hg (N := 8) ?hd (cs := #[.int .i64 0, .int .i64 0]) (t := 42) ?hr ?_; (case hd => rfl); (case hg => rfl); (case hr => first | (go_simp; done) | (go_simp; rfl))
      intro gb418 hg w19 hbox hb
      have n0_ := asd (Kd.R_below (kr HO_3) hb)
      have n1_ := bB BK409 hb
      have n2_ := bS1 HB GE409 hb
      have n3_ := asd (hbox)
      have n4_ := ngw1 hg HB GE409
      have n5_ := ngw1 hg HB GE409
      have n6_ := nlt hg BK409
      have n7_ := nsy (nlt hg BK409)
      have z_NB418_416 := fun (h0_ : up b 11 9 = true) (h1_ : up b 11 11 = true) => (show gb418 ≠ gb416 from ((by rw [hg]; exact Nat.ne_of_gt (by cases hq_ : b 12 with | false => exact blk_lt (g := gb416) (Q_BK416 h0_ hq_) | true => exact blk_lt (g := gb416) (Q_BK416_e12 hq_)) : gb418 ≠ gb416)))
      have z_NB416_418 := fun (h0_ : up b 11 9 = true) (h1_ : up b 11 11 = true) => (show gb416 ≠ gb418 from ((by rw [hg]; exact Nat.ne_of_lt (by cases hq_ : b 12 with | false => exact blk_lt (g := gb416) (Q_BK416 h0_ hq_) | true => exact blk_lt (g := gb416) (Q_BK416_e12 hq_)) : gb416 ≠ gb418)))
      have z_NB418_417 := fun (h0_ : up b 11 10 = true) (h1_ : up b 11 11 = true) => (show gb418 ≠ gb417 from ((by rw [hg]; exact Nat.ne_of_gt (by cases hq_ : b 13 with | false => exact blk_lt (g := gb417) (Q_BK417 h0_ hq_) | true => exact blk_lt (g := gb417) (Q_BK417_e13 hq_)) : gb418 ≠ gb417)))
      have z_NB417_418 := fun (h0_ : up b 11 10 = true) (h1_ : up b 11 11 = true) => (show gb417 ≠ gb418 from ((by rw [hg]; exact Nat.ne_of_lt (by cases hq_ : b 13 with | false => exact blk_lt (g := gb417) (Q_BK417 h0_ hq_) | true => exact blk_lt (g := gb417) (Q_BK417_e13 hq_)) : gb417 ≠ gb418)))
      have z_BK416 := fun (h0_ : b 9 = true) (h1_ : b 12 = false) => (show w19.heap[gb416]? = some (.cells #[.int .i64 0, .int .i64 0] 42 (0, 0)) from by first | exact (blk_below (g := gb416) (o := .cells #[.int .i64 0, .int .i64 0] 42 (0, 0)) (by (with_reducible repeat (first | refine blk_drewN ?_ _ | refine blk_drew ?_ | refine blk_alloc ?_ _)); exact (Q_BK416 h0_ h1_)) hb))
      have z_BK417 := fun (h0_ : b 10 = true) (h1_ : b 13 = false) => (show w19.heap[gb417]? = some (.cells #[.int .i64 0, .int .i64 0] 42 (0, 0)) from by first | exact (blk_below (g := gb417) (o := .cells #[.int .i64 0, .int .i64 0] 42 (0, 0)) (by (with_reducible repeat (first | refine blk_drewN ?_ _ | refine blk_drew ?_ | refine blk_alloc ?_ _)); exact (Q_BK417 h0_ h1_)) hb))
      clear HO_3
      clear BK409
      clear HB
      have HO_3 := n0_
      have BK409 := n1_
      have HB := n2_
      have BK418 := n3_
      have GW418 := n4_
      have GE418 := n5_
      have NB409_418 := n6_
      have NB418_409 := n7_
      clear n0_ n1_ n2_ n3_ n4_ n5_ n6_ n7_
      clear hb hbox hg
      refine hK.out _ _ ⟨gb416, gb417, gb418, m9_, m10_, (.pointer (some ⟨gb418, 0, none⟩)), (by rw [ha.out]; exact putSel_upk 11 hb_ rfl rfl rfl), (kr HO_3), (bkp BK409), (bbw2 HB GE409 GE418), Q_NB417_416, Q_NB416_417, @z_NB418_416, @z_NB416_418, @z_NB418_417, @z_NB417_418, z_BK416, Q_GW416, Q_GE416, Q_NB409_416, Q_NB416_409, z_BK417, Q_GW417, Q_GE417, Q_NB409_417, Q_NB417_409, fun _ _ => (bkp BK418), fun _ => GW418.out, fun _ => GE418.out, fun _ => NB409_418.out, fun _ => NB418_409.out, fun h0_ => absurd ((hoff 12 (by kernel_rfl)).symm.trans h0_) (by decide), fun h0_ => absurd ((hoff 13 (by kernel_rfl)).symm.trans h0_) (by decide), fun h0_ => absurd ((hoff 14 (by kernel_rfl)).symm.trans h0_) (by decide), Q_X9_, Q_X10_, fun _ => rfl⟩
     refine steps_cons ?_ ?_
     ·rintro b a w' ⟨gb416, gb417, gb418, m9_, m10_, m11_, ha, Q_HO_3, Q_BK409, Q_HB, Q_NB417_416, Q_NB416_417, Q_NB418_416, Q_NB416_418, Q_NB418_417, Q_NB417_418, Q_BK416, Q_GW416, Q_GE416, Q_NB409_416, Q_NB416_409, Q_BK417, Q_GW417, Q_GE417, Q_NB409_417, Q_NB417_409, Q_BK418, Q_GW418, Q_GE418, Q_NB409_418, Q_NB418_409, Q_BK416_e12, Q_BK417_e13, Q_BK418_e14, Q_X9_, Q_X10_, Q_X11_⟩ hb_ hon hoff
      refine ⟨_, rfl, fun K hK => ?_⟩
      have e6 : a.tmps[6]? = some (m9_) := by rw [ha]; exact putSel_on (e := (9, 6, m9_)) 9 rfl rfl (hon 9 (by kernel_rfl)) rfl
      rw [Q_X9_ (hon 9 (by kernel_rfl))] at e6
      have e30 : a.tmps[30]? = some (.agg #[.int .i64 t410, .int .i64 t411]) := by rw [ha]; exact putSel_on (e := (2, 30, .agg #[.int .i64 t410, .int .i64 t411])) 2 rfl rfl (hon 2 (by kernel_rfl)) rfl
      replace ha := Aside0.mk ha
      have HO_3 := Aside0.mk Q_HO_3
      have BK409 := Aside0.mk Q_BK409
      have HB := Aside0.mk Q_HB
      have NB417_416 := asd (Q_NB417_416 (hon 9 (by kernel_rfl)) (hon 10 (by kernel_rfl)))
      have NB416_417 := asd (Q_NB416_417 (hon 9 (by kernel_rfl)) (hon 10 (by kernel_rfl)))
      have NB418_416 := asd (Q_NB418_416 (hon 9 (by kernel_rfl)) (hon 11 (by kernel_rfl)))
      have NB416_418 := asd (Q_NB416_418 (hon 9 (by kernel_rfl)) (hon 11 (by kernel_rfl)))
      have NB418_417 := asd (Q_NB418_417 (hon 10 (by kernel_rfl)) (hon 11 (by kernel_rfl)))
      have NB417_418 := asd (Q_NB417_418 (hon 10 (by kernel_rfl)) (hon 11 (by kernel_rfl)))
      have BK416 := asd (Q_BK416 (hon 9 (by kernel_rfl)) hb_)
      have GW416 := asd (Q_GW416 (hon 9 (by kernel_rfl)))
      have GE416 := asd (Q_GE416 (hon 9 (by kernel_rfl)))
      have NB409_416 := asd (Q_NB409_416 (hon 9 (by kernel_rfl)))
      have NB416_409 := asd (Q_NB416_409 (hon 9 (by kernel_rfl)))
      have BK417 := asd (Q_BK417 (hon 10 (by kernel_rfl)) (hoff 13 (by kernel_rfl)))
      have GW417 := asd (Q_GW417 (hon 10 (by kernel_rfl)))
      have GE417 := asd (Q_GE417 (hon 10 (by kernel_rfl)))
      have NB409_417 := asd (Q_NB409_417 (hon 10 (by kernel_rfl)))
      have NB417_409 := asd (Q_NB417_409 (hon 10 (by kernel_rfl)))
      have BK418 := asd (Q_BK418 (hon 11 (by kernel_rfl)) (hoff 14 (by kernel_rfl)))
      have GW418 := asd (Q_GW418 (hon 11 (by kernel_rfl)))
      have GE418 := asd (Q_GE418 (hon 11 (by kernel_rfl)))
      have NB409_418 := asd (Q_NB409_418 (hon 11 (by kernel_rfl)))
      have NB418_409 := asd (Q_NB418_409 (hon 11 (by kernel_rfl)))
      have hs26 : w'.cell? ⟨gb416, 0, none⟩ = some (.int .i64 0) := bcl BK416 0
      have hfs26 := blk_frozen BK416.out 0
      have hns26_0 := NB409_416.out
      have hns26_2 := NB417_416.out
      have hns26_3 := NB418_416.out
      have hms26_0 := NB416_409.out
      have hms26_2 := NB416_417.out
      have hms26_3 := NB416_418.out
      have hs27 : w'.cell? ⟨gb416, 1, none⟩ = some (.int .i64 0) := bcl BK416 1
      have hfs27 := blk_frozen BK416.out 1
      have hns27_0 := NB409_416.out
      have hns27_2 := NB417_416.out
      have hns27_3 := NB418_416.out
      have hms27_0 := NB416_409.out
      have hms27_2 := NB416_417.out
      have hms27_3 := NB416_418.out
      refine skip_ (w1 := ?_) (by rfl) rfl ?_ ?_
      rotate_left
      ·go_simp
       rfl
      refine hK.out _ _ ⟨gb416, gb417, gb418, m9_, m10_, m11_, (by rw [ha.out]; exact putSel_none (v := undef) rfl), (by (with_reducible repeat (first | apply Kd.R_alloc | apply Kd.R_drewN | apply Kd.R_drew)); exact Kd.R_mono (rw2 (Kd.R_types HO_3.out BK416.out (by decide))) (fun _ hk => hk.1)), (bq1 BK409 NB409_416), (bbw4 HB GE409 GE416 GE417 GE418), fun _ _ => NB417_416.out, fun _ _ => NB416_417.out, fun _ _ => NB418_416.out, fun _ _ => NB416_418.out, fun _ _ => NB418_417.out, fun _ _ => NB417_418.out, fun _ h1_ => absurd ((up_self b 12).symm.trans h1_) (by decide), fun _ => GW416.out, fun _ => GE416.out, fun _ => NB409_416.out, fun _ => NB416_409.out, fun _ _ => (bq1 BK417 NB417_416), fun _ => GW417.out, fun _ => GE417.out, fun _ => NB409_417.out, fun _ => NB417_409.out, fun _ _ => (bq1 BK418 NB418_416), fun _ => GW418.out, fun _ => GE418.out, fun _ => NB409_418.out, fun _ => NB418_409.out, fun _ => (bq0 BK416), fun h0_ => absurd ((hoff 13 (by kernel_rfl)).symm.trans h0_) (by decide), fun h0_ => absurd ((hoff 14 (by kernel_rfl)).symm.trans h0_) (by decide), Q_X9_, Q_X10_, Q_X11_⟩
     refine steps_cons ?_ ?_
     ·rintro b a w' ⟨gb416, gb417, gb418, m9_, m10_, m11_, ha, Q_HO_3, Q_BK409, Q_HB, Q_NB417_416, Q_NB416_417, Q_NB418_416, Q_NB416_418, Q_NB418_417, Q_NB417_418, Q_BK416, Q_GW416, Q_GE416, Q_NB409_416, Q_NB416_409, Q_BK417, Q_GW417, Q_GE417, Q_NB409_417, Q_NB417_409, Q_BK418, Q_GW418, Q_GE418, Q_NB409_418, Q_NB418_409, Q_BK416_e12, Q_BK417_e13, Q_BK418_e14, Q_X9_, Q_X10_, Q_X11_⟩ hb_ hon hoff
      refine ⟨_, rfl, fun K hK => ?_⟩
      have e7 : a.tmps[7]? = some (m10_) := by rw [ha]; exact putSel_on (e := (10, 7, m10_)) 10 rfl rfl (hon 10 (by kernel_rfl)) rfl
      rw [Q_X10_ (hon 10 (by kernel_rfl))] at e7
      have e33 : a.tmps[33]? = some (.agg #[.int .i64 t412, .int .i64 t413]) := by rw [ha]; exact putSel_on (e := (5, 33, .agg #[.int .i64 t412, .int .i64 t413])) 5 rfl rfl (hon 5 (by kernel_rfl)) rfl
      replace ha := Aside0.mk ha
      have HO_3 := Aside0.mk Q_HO_3
      have BK409 := Aside0.mk Q_BK409
      have HB := Aside0.mk Q_HB
      have NB417_416 := asd (Q_NB417_416 (hon 9 (by kernel_rfl)) (hon 10 (by kernel_rfl)))
      have NB416_417 := asd (Q_NB416_417 (hon 9 (by kernel_rfl)) (hon 10 (by kernel_rfl)))
      have NB418_416 := asd (Q_NB418_416 (hon 9 (by kernel_rfl)) (hon 11 (by kernel_rfl)))
      have NB416_418 := asd (Q_NB416_418 (hon 9 (by kernel_rfl)) (hon 11 (by kernel_rfl)))
      have NB418_417 := asd (Q_NB418_417 (hon 10 (by kernel_rfl)) (hon 11 (by kernel_rfl)))
      have NB417_418 := asd (Q_NB417_418 (hon 10 (by kernel_rfl)) (hon 11 (by kernel_rfl)))
      have GW416 := asd (Q_GW416 (hon 9 (by kernel_rfl)))
      have GE416 := asd (Q_GE416 (hon 9 (by kernel_rfl)))
      have NB409_416 := asd (Q_NB409_416 (hon 9 (by kernel_rfl)))
      have NB416_409 := asd (Q_NB416_409 (hon 9 (by kernel_rfl)))
      have BK417 := asd (Q_BK417 (hon 10 (by kernel_rfl)) hb_)
      have GW417 := asd (Q_GW417 (hon 10 (by kernel_rfl)))
      have GE417 := asd (Q_GE417 (hon 10 (by kernel_rfl)))
      have NB409_417 := asd (Q_NB409_417 (hon 10 (by kernel_rfl)))
      have NB417_409 := asd (Q_NB417_409 (hon 10 (by kernel_rfl)))
      have BK418 := asd (Q_BK418 (hon 11 (by kernel_rfl)) (hoff 14 (by kernel_rfl)))
      have GW418 := asd (Q_GW418 (hon 11 (by kernel_rfl)))
      have GE418 := asd (Q_GE418 (hon 11 (by kernel_rfl)))
      have NB409_418 := asd (Q_NB409_418 (hon 11 (by kernel_rfl)))
      have NB418_409 := asd (Q_NB418_409 (hon 11 (by kernel_rfl)))
      have BK416 := asd (Q_BK416_e12 (hon 12 (by kernel_rfl)))
      have hs28 : w'.cell? ⟨gb417, 0, none⟩ = some (.int .i64 0) := bcl BK417 0
      have hfs28 := blk_frozen BK417.out 0
      have hns28_0 := NB409_417.out
      have hns28_1 := NB416_417.out
      have hns28_3 := NB418_417.out
      have hms28_0 := NB417_409.out
      have hms28_1 := NB417_416.out
      have hms28_3 := NB417_418.out
      have hs29 : w'.cell? ⟨gb417, 1, none⟩ = some (.int .i64 0) := bcl BK417 1
      have hfs29 := blk_frozen BK417.out 1
      have hns29_0 := NB409_417.out
      have hns29_1 := NB416_417.out
      have hns29_3 := NB418_417.out
      have hms29_0 := NB417_409.out
      have hms29_1 := NB417_416.out
      have hms29_3 := NB417_418.out
      refine skip_ (w1 := ?_) (by rfl) rfl ?_ ?_
      rotate_left
      ·go_simp
       rfl
      refine hK.out _ _ ⟨gb416, gb417, gb418, m9_, m10_, m11_, (by rw [ha.out]; exact putSel_none (v := undef) rfl), (by (with_reducible repeat (first | apply Kd.R_alloc | apply Kd.R_drewN | apply Kd.R_drew)); exact Kd.R_mono (rw2 (Kd.R_types HO_3.out BK417.out (by decide))) (fun _ hk => hk.1)), (bq1 BK409 NB409_417), (bbw4 HB GE409 GE416 GE417 GE418), fun _ _ => NB417_416.out, fun _ _ => NB416_417.out, fun _ _ => NB418_416.out, fun _ _ => NB416_418.out, fun _ _ => NB418_417.out, fun _ _ => NB417_418.out, fun _ h1_ => absurd ((hon 12 (by kernel_rfl)).symm.trans h1_) (by decide), fun _ => GW416.out, fun _ => GE416.out, fun _ => NB409_416.out, fun _ => NB416_409.out, fun _ h1_ => absurd ((up_self b 13).symm.trans h1_) (by decide), fun _ => GW417.out, fun _ => GE417.out, fun _ => NB409_417.out, fun _ => NB417_409.out, fun _ _ => (bq1 BK418 NB418_417), fun _ => GW418.out, fun _ => GE418.out, fun _ => NB409_418.out, fun _ => NB418_409.out, fun _ => (bq1 BK416 NB416_417), fun _ => (bq0 BK417), fun h0_ => absurd ((hoff 14 (by kernel_rfl)).symm.trans h0_) (by decide), Q_X9_, Q_X10_, Q_X11_⟩
     refine steps_cons ?_ ?_
     ·rintro b a w' ⟨gb416, gb417, gb418, m9_, m10_, m11_, ha, Q_HO_3, Q_BK409, Q_HB, Q_NB417_416, Q_NB416_417, Q_NB418_416, Q_NB416_418, Q_NB418_417, Q_NB417_418, Q_BK416, Q_GW416, Q_GE416, Q_NB409_416, Q_NB416_409, Q_BK417, Q_GW417, Q_GE417, Q_NB409_417, Q_NB417_409, Q_BK418, Q_GW418, Q_GE418, Q_NB409_418, Q_NB418_409, Q_BK416_e12, Q_BK417_e13, Q_BK418_e14, Q_X9_, Q_X10_, Q_X11_⟩ hb_ hon hoff
      refine ⟨_, rfl, fun K hK => ?_⟩
      have e8 : a.tmps[8]? = some (m11_) := by rw [ha]; exact putSel_on (e := (11, 8, m11_)) 11 rfl rfl (hon 11 (by kernel_rfl)) rfl
      rw [Q_X11_ (hon 11 (by kernel_rfl))] at e8
      have e36 : a.tmps[36]? = some (.agg #[.int .i64 t414, .int .i64 t415]) := by rw [ha]; exact putSel_on (e := (8, 36, .agg #[.int .i64 t414, .int .i64 t415])) 8 rfl rfl (hon 8 (by kernel_rfl)) rfl
      replace ha := Aside0.mk ha
      have HO_3 := Aside0.mk Q_HO_3
      have BK409 := Aside0.mk Q_BK409
      have HB := Aside0.mk Q_HB
      have NB417_416 := asd (Q_NB417_416 (hon 9 (by kernel_rfl)) (hon 10 (by kernel_rfl)))
      have NB416_417 := asd (Q_NB416_417 (hon 9 (by kernel_rfl)) (hon 10 (by kernel_rfl)))
      have NB418_416 := asd (Q_NB418_416 (hon 9 (by kernel_rfl)) (hon 11 (by kernel_rfl)))
      have NB416_418 := asd (Q_NB416_418 (hon 9 (by kernel_rfl)) (hon 11 (by kernel_rfl)))
      have NB418_417 := asd (Q_NB418_417 (hon 10 (by kernel_rfl)) (hon 11 (by kernel_rfl)))
      have NB417_418 := asd (Q_NB417_418 (hon 10 (by kernel_rfl)) (hon 11 (by kernel_rfl)))
      have GW416 := asd (Q_GW416 (hon 9 (by kernel_rfl)))
      have GE416 := asd (Q_GE416 (hon 9 (by kernel_rfl)))
      have NB409_416 := asd (Q_NB409_416 (hon 9 (by kernel_rfl)))
      have NB416_409 := asd (Q_NB416_409 (hon 9 (by kernel_rfl)))
      have GW417 := asd (Q_GW417 (hon 10 (by kernel_rfl)))
      have GE417 := asd (Q_GE417 (hon 10 (by kernel_rfl)))
      have NB409_417 := asd (Q_NB409_417 (hon 10 (by kernel_rfl)))
      have NB417_409 := asd (Q_NB417_409 (hon 10 (by kernel_rfl)))
      have BK418 := asd (Q_BK418 (hon 11 (by kernel_rfl)) hb_)
      have GW418 := asd (Q_GW418 (hon 11 (by kernel_rfl)))
      have GE418 := asd (Q_GE418 (hon 11 (by kernel_rfl)))
      have NB409_418 := asd (Q_NB409_418 (hon 11 (by kernel_rfl)))
      have NB418_409 := asd (Q_NB418_409 (hon 11 (by kernel_rfl)))
      have BK416 := asd (Q_BK416_e12 (hon 12 (by kernel_rfl)))
      have BK417 := asd (Q_BK417_e13 (hon 13 (by kernel_rfl)))
      have hs30 : w'.cell? ⟨gb418, 0, none⟩ = some (.int .i64 0) := bcl BK418 0
      have hfs30 := blk_frozen BK418.out 0
      have hns30_0 := NB409_418.out
      have hns30_1 := NB416_418.out
      have hns30_2 := NB417_418.out
      have hms30_0 := NB418_409.out
      have hms30_1 := NB418_416.out
      have hms30_2 := NB418_417.out
      have hs31 : w'.cell? ⟨gb418, 1, none⟩ = some (.int .i64 0) := bcl BK418 1
      have hfs31 := blk_frozen BK418.out 1
      have hns31_0 := NB409_418.out
      have hns31_1 := NB416_418.out
      have hns31_2 := NB417_418.out
      have hms31_0 := NB418_409.out
      have hms31_1 := NB418_416.out
      have hms31_2 := NB418_417.out
      refine skip_ (w1 := ?_) (by rfl) rfl ?_ ?_
      rotate_left
      ·go_simp
       rfl
      refine hK.out _ _ ⟨gb416, gb417, gb418, m9_, m10_, m11_, (by rw [ha.out]; exact putSel_none (v := undef) rfl), (by (with_reducible repeat (first | apply Kd.R_alloc | apply Kd.R_drewN | apply Kd.R_drew)); exact Kd.R_mono (rw2 (Kd.R_types HO_3.out BK418.out (by decide))) (fun _ hk => hk.1)), (bq1 BK409 NB409_418), (bbw4 HB GE409 GE416 GE417 GE418), fun _ _ => NB417_416.out, fun _ _ => NB416_417.out, fun _ _ => NB418_416.out, fun _ _ => NB416_418.out, fun _ _ => NB418_417.out, fun _ _ => NB417_418.out, fun _ h1_ => absurd ((hon 12 (by kernel_rfl)).symm.trans h1_) (by decide), fun _ => GW416.out, fun _ => GE416.out, fun _ => NB409_416.out, fun _ => NB416_409.out, fun _ h1_ => absurd ((hon 13 (by kernel_rfl)).symm.trans h1_) (by decide), fun _ => GW417.out, fun _ => GE417.out, fun _ => NB409_417.out, fun _ => NB417_409.out, fun _ h1_ => absurd ((up_self b 14).symm.trans h1_) (by decide), fun _ => GW418.out, fun _ => GE418.out, fun _ => NB409_418.out, fun _ => NB418_409.out, fun _ => (bq1 BK416 NB416_418), fun _ => (bq1 BK417 NB417_418), fun _ => (bq0 BK418), Q_X9_, Q_X10_, Q_X11_⟩
     exact steps_nil
    rintro b a w31 hall ⟨gb416, gb417, gb418, m9_, m10_, m11_, ha, Q_HO_3, Q_BK409, Q_HB, Q_NB417_416, Q_NB416_417, Q_NB418_416, Q_NB416_418, Q_NB418_417, Q_NB417_418, Q_BK416, Q_GW416, Q_GE416, Q_NB409_416, Q_NB416_409, Q_BK417, Q_GW417, Q_GE417, Q_NB409_417, Q_NB417_409, Q_BK418, Q_GW418, Q_GE418, Q_NB409_418, Q_NB418_409, Q_BK416_e12, Q_BK417_e13, Q_BK418_e14, Q_X9_, Q_X10_, Q_X11_⟩
    clear BK409 HB HO_3
    have hb0_ := hall 0 (by kernel_rfl)
    have hb1_ := hall 1 (by kernel_rfl)
    have hb2_ := hall 2 (by kernel_rfl)
    have hb3_ := hall 3 (by kernel_rfl)
    have hb4_ := hall 4 (by kernel_rfl)
    have hb5_ := hall 5 (by kernel_rfl)
    have hb6_ := hall 6 (by kernel_rfl)
    have hb7_ := hall 7 (by kernel_rfl)
    have hb8_ := hall 8 (by kernel_rfl)
    have hb9_ := hall 9 (by kernel_rfl)
    have hb10_ := hall 10 (by kernel_rfl)
    have hb11_ := hall 11 (by kernel_rfl)
    have hb12_ := hall 12 (by kernel_rfl)
    have hb13_ := hall 13 (by kernel_rfl)
    have hb14_ := hall 14 (by kernel_rfl)
    subst ha
    obtain rfl := Q_X9_ hb9_
    obtain rfl := Q_X10_ hb10_
    obtain rfl := Q_X11_ hb11_
    simp only [putSel, hb0_, hb1_, hb2_, hb3_, hb4_, hb5_, hb6_, hb7_, hb8_, hb9_, hb10_, hb11_, hb12_, hb13_, hb14_, if_true, Act.put, sA, sB, sC]
    have HO_3 := Aside0.mk Q_HO_3
    clear Q_HO_3
    have BK409 := Aside0.mk Q_BK409
    clear Q_BK409
    have HB := Aside0.mk Q_HB
    clear Q_HB
    have NB417_416 := asd (Q_NB417_416 hb9_ hb10_)
    clear Q_NB417_416
    have NB416_417 := asd (Q_NB416_417 hb9_ hb10_)
    clear Q_NB416_417
    have NB418_416 := asd (Q_NB418_416 hb9_ hb11_)
    clear Q_NB418_416
    have NB416_418 := asd (Q_NB416_418 hb9_ hb11_)
    clear Q_NB416_418
    have NB418_417 := asd (Q_NB418_417 hb10_ hb11_)
    clear Q_NB418_417
    have NB417_418 := asd (Q_NB417_418 hb10_ hb11_)
    clear Q_NB417_418
    clear Q_BK416
    have GW416 := asd (Q_GW416 hb9_)
    clear Q_GW416
    have GE416 := asd (Q_GE416 hb9_)
    clear Q_GE416
    have NB409_416 := asd (Q_NB409_416 hb9_)
    clear Q_NB409_416
    have NB416_409 := asd (Q_NB416_409 hb9_)
    clear Q_NB416_409
    clear Q_BK417
    have GW417 := asd (Q_GW417 hb10_)
    clear Q_GW417
    have GE417 := asd (Q_GE417 hb10_)
    clear Q_GE417
    have NB409_417 := asd (Q_NB409_417 hb10_)
    clear Q_NB409_417
    have NB417_409 := asd (Q_NB417_409 hb10_)
    clear Q_NB417_409
    clear Q_BK418
    have GW418 := asd (Q_GW418 hb11_)
    clear Q_GW418
    have GE418 := asd (Q_GE418 hb11_)
    clear Q_GE418
    have NB409_418 := asd (Q_NB409_418 hb11_)
    clear Q_NB409_418
    have NB418_409 := asd (Q_NB418_409 hb11_)
    clear Q_NB418_409
    have BK416 := asd (Q_BK416_e12 hb12_)
    clear Q_BK416_e12
    have BK417 := asd (Q_BK417_e13 hb13_)
    clear Q_BK417_e13
    have BK418 := asd (Q_BK418_e14 hb14_)
    clear Q_BK418_e14
    clear hall hb0_ hb1_ hb2_ hb3_ hb4_ hb5_ hb6_ hb7_ hb8_ hb9_ hb10_ hb11_ hb12_ hb13_ hb14_
    have hnb32 := NB416_409.out
    have hnc32 := NB409_416.out
    have hnb33 := NB416_417.out
    have hnc33 := NB417_416.out
    have hnb34 := NB416_418.out
    have hnc34 := NB418_416.out
    obtain ⟨hcz35_0, hcz35_1, hfz35_0, hfz35_1⟩ := bz2 BK416
    have H := Hq_.out
    clear Hq_
    obtain ⟨t419, A8, H⟩ := ob H
    try dsimp only at H
    by_cases c9 : t419 = 1
    rw [if_pos c9] at H
    have c9b0 : (t419 == 1) = true := beq_iff_eq.mpr c9
    have c9b1 : (t419 != 1) = false := bne_eq_false_iff_eq.mpr c9
    clear c9
    obtain ⟨t420, A10, H⟩ := ob H
    try dsimp only at H
    by_cases c11 : t420 = 1
    rw [if_pos c11] at H
    have c11b0 : (t420 == 1) = true := beq_iff_eq.mpr c11
    have c11b1 : (t420 != 1) = false := bne_eq_false_iff_eq.mpr c11
    clear c11
    obtain ⟨t421, A12, H⟩ := ob H
    try dsimp only at H
    by_cases c13 : t421 = (wrap64 (2 + a0))
    rw [if_pos c13] at H
    have c13b0 : (t421 == (wrap64 (2 + a0))) = true := beq_iff_eq.mpr c13
    have c13b1 : (t421 != (wrap64 (2 + a0))) = false := bne_eq_false_iff_eq.mpr c13
    clear c13
    by_cases c14 : x3_1.length < 4398046511104
    rw [if_pos c14] at H
    have LMc14 := Aside0.mk c14
    clear c14
    obtain ⟨y422, hy422⟩ : ∃ y_ : List (S40), y_ = (x3_1 ++ [(⟨wrap64 ((wrap64 (Int.tdiv x10_1 27)) - 1), wrap64 ((Int.tmod (wrap64 (Int.tdiv x10_1 9)) 3) - 1), wrap64 ((Int.tmod (wrap64 (Int.tdiv x10_1 3)) 3) - 1), wrap64 ((Int.tmod x10_1 3) - 1)⟩ : S40)]) := ⟨_, rfl⟩
    replace H : (impl_pointMats.l0 k1 a0 y422 (wrap64 (x10_1 + 1))) = some r := by first | (rw [hy422]; with_reducible exact H) | (have H2_ := (Option.bind_some _ _).symm.trans H; rw [hy422]; with_reducible exact H2_) | (have H2_ := (Option.bind_some _ _).symm.trans H; with_reducible exact H2_) | with_reducible exact H | (rw [hy422]; exact H) | exact H
    have Ny422 := Aside0.mk hy422
    clear hy422
    have H' := Aside0.mk H
    clear H
    rotate_left
    ·rw [if_neg c14] at H
     exact absurd H (by simp)
    rw [if_neg c13] at H
    have c13b0 : (t421 == (wrap64 (2 + a0))) = false := beq_eq_false_iff_ne.mpr c13
    have c13b1 : (t421 != (wrap64 (2 + a0))) = true := bne_iff_ne.mpr c13
    have H' := Aside0.mk H
    clear H
    rotate_left
    rw [if_neg c11] at H
    have c11b0 : (t420 == 1) = false := beq_eq_false_iff_ne.mpr c11
    have c11b1 : (t420 != 1) = true := bne_iff_ne.mpr c11
    have H' := Aside0.mk H
    clear H
    rotate_left
    rw [if_neg c9] at H
    have c9b0 : (t419 == 1) = false := beq_eq_false_iff_ne.mpr c9
    have c9b1 : (t419 != 1) = true := bne_iff_ne.mpr c9
    have H' := Aside0.mk H
    clear H
    rotate_left
    try go_wp2_with (first | ((with_reducible refine gate_callee (f := 89) rfl ?_); refine gl 39 Try.func89 #[.int .i64 a0, .agg #[.int .i64 t410, .int .i64 t411]] ?_; (with_reducible refine (impl_norm.calls _ _ _ _ _ A8.out).mono ?_); rintro e w36 ⟨rfl, hb⟩; refine ⟨_, rfl, ?_⟩; replace HO_3 := asd (Kd.R_below (kr HO_3) hb); replace BK409 := bB BK409 hb; replace BK416 := bB BK416 hb; replace BK417 := bB BK417 hb; replace BK418 := bB BK418 hb; replace HB := bS4 HB GE409 GE416 GE417 GE418 hb; (try clear hb); have hnb37 := NB417_409.out; have hnc37 := NB409_417.out; have hnb38 := NB417_418.out; have hnc38 := NB418_417.out; obtain ⟨hcz39_0, hcz39_1, hfz39_0, hfz39_1⟩ := bz2 BK417) | (go_at_call 89; (with_reducible refine (impl_norm.calls _ _ _ _ _ A10.out).mono ?_); rintro e w40 ⟨rfl, hb⟩; replace HO_3 := asd (Kd.R_below (kr HO_3) hb); replace BK409 := bB BK409 hb; replace BK416 := bB BK416 hb; replace BK417 := bB BK417 hb; replace BK418 := bB BK418 hb; replace HB := bS4 HB GE409 GE416 GE417 GE418 hb; (try clear hb); have hnb41 := NB418_409.out; have hnc41 := NB409_418.out; obtain ⟨hcz42_0, hcz42_1, hfz42_0, hfz42_1⟩ := bz2 BK418) | (go_at_call 89; (with_reducible refine (impl_norm.calls _ _ _ _ _ A12.out).mono ?_); rintro e w43 ⟨rfl, hb⟩; replace HO_3 := asd (Kd.R_below (kr HO_3) hb); replace BK409 := bB BK409 hb; replace BK416 := bB BK416 hb; replace BK417 := bB BK417 hb; replace BK418 := bB BK418 hb; replace HB := bS4 HB GE409 GE416 GE417 GE418 hb; (try clear hb); obtain ⟨hcz44_0, hcz44_1, hcz44_2, hcz44_3, hfz44_0, hfz44_1, hfz44_2, hfz44_3⟩ := bz4 BK409) | ((with_reducible refine gate_builtin (b := .append) (xs := #[.tmp 55, .tmp 57]) rfl ?_); at_builtin; refine Kd.R_append k40 (w0 := w) w.heap.size rfl (.tmp 55) (.tmp 57) 86 40 (.agg #[(.int .i64 0), (.int .i64 0), (.int .i64 0), (.int .i64 0)]) 32 rfl Try.underlying86 info40 rfl (by decide) (by omega) u3 x3_1 (⟨wrap64 ((wrap64 (Int.tdiv x10_1 27)) - 1), wrap64 ((Int.tmod (wrap64 (Int.tdiv x10_1 9)) 3) - 1), wrap64 ((Int.tmod (wrap64 (Int.tdiv x10_1 3)) 3) - 1), wrap64 ((Int.tmod x10_1 3) - 1)⟩ : S40) [.int .i64 (wrap64 ((wrap64 (Int.tdiv x10_1 27)) - 1)), .int .i64 (wrap64 ((Int.tmod (wrap64 (Int.tdiv x10_1 9)) 3) - 1)), .int .i64 (wrap64 ((Int.tmod (wrap64 (Int.tdiv x10_1 3)) 3) - 1)), .int .i64 (wrap64 ((Int.tmod x10_1 3) - 1))] (fun k_ => k_ ≠ gb409) (fun _ => False) rfl rfl ?aP (fun _ hk => hk.elim) ?aF ?aO ?aB ?aS ?aL ?_; (case aP => exact k40_mkM _ _ _ (⟨wrap64 ((wrap64 (Int.tdiv x10_1 27)) - 1), wrap64 ((Int.tmod (wrap64 (Int.tdiv x10_1 9)) 3) - 1), wrap64 ((Int.tmod (wrap64 (Int.tdiv x10_1 3)) 3) - 1), wrap64 ((Int.tmod x10_1 3) - 1)⟩ : S40)); (case aB => exact (bbw4 HB GE409 GE416 GE417 GE418)); (case aF => exact (fun k_ hk => Kd.freshB (g := gb409) (o := .cells #[.int .i64 (wrap64 ((wrap64 (Int.tdiv x10_1 27)) - 1)), .int .i64 (wrap64 ((Int.tmod (wrap64 (Int.tdiv x10_1 9)) 3) - 1)), .int .i64 (wrap64 ((Int.tmod (wrap64 (Int.tdiv x10_1 3)) 3) - 1)), .int .i64 (wrap64 ((Int.tmod x10_1 3) - 1))] 40 (0, 0)) (bkp BK409) k_ hk)); (case aO => exact (kr HO_3)); (case aS => exact (bsz4 HB GE409 GE416 GE417 GE418)); (case aL => have := LMc14.out; omega); intro v423 w45 ho hb hg hat; rw [← Ny422.out] at ho; have n0_ := asd (blk_grown (g := gb409) (o := .cells #[.int .i64 (wrap64 ((wrap64 (Int.tdiv x10_1 27)) - 1)), .int .i64 (wrap64 ((Int.tmod (wrap64 (Int.tdiv x10_1 9)) 3) - 1)), .int .i64 (wrap64 ((Int.tmod (wrap64 (Int.tdiv x10_1 3)) 3) - 1)), .int .i64 (wrap64 ((Int.tmod x10_1 3) - 1))] 40 (0, 0)) (bkp BK409) hg (Kd.R_away HO_3.out (fun _ hk => hk))); have n1_ := asd (blk_grown (g := gb416) (o := .cells #[.int .i64 t410, .int .i64 t411] 42 (0, 0)) (bkp BK416) hg (Kd.R_ne HO_3.out BK416.out (by decide))); have n2_ := asd (blk_grown (g := gb417) (o := .cells #[.int .i64 t412, .int .i64 t413] 42 (0, 0)) (bkp BK417) hg (Kd.R_ne HO_3.out BK417.out (by decide))); have n3_ := asd (blk_grown (g := gb418) (o := .cells #[.int .i64 t414, .int .i64 t415] 42 (0, 0)) (bkp BK418) hg (Kd.R_ne HO_3.out BK418.out (by decide))); have n4_ := asd (hb); have n5_ := asd (ho); clear BK409; clear BK416; clear BK417; clear BK418; clear HB; clear HO_3; have BK409 := n0_; have BK416 := n1_; have BK417 := n2_; have BK418 := n3_; have HB := n4_; have HO424 := n5_; clear n0_ n1_ n2_ n3_ n4_ n5_; clear ho hb hg hat))
    rotate_left
    try go_wp2_with (first | ((with_reducible refine gate_callee (f := 89) rfl ?_); refine gl 39 Try.func89 #[.int .i64 a0, .agg #[.int .i64 t410, .int .i64 t411]] ?_; (with_reducible refine (impl_norm.calls _ _ _ _ _ A8.out).mono ?_); rintro e w67 ⟨rfl, hb⟩; refine ⟨_, rfl, ?_⟩; replace HO_3 := asd (Kd.R_below (kr HO_3) hb); replace BK409 := bB BK409 hb; replace BK416 := bB BK416 hb; replace BK417 := bB BK417 hb; replace BK418 := bB BK418 hb; replace HB := bS4 HB GE409 GE416 GE417 GE418 hb; (try clear hb); have hnb68 := NB417_409.out; have hnc68 := NB409_417.out; have hnb69 := NB417_418.out; have hnc69 := NB418_417.out; obtain ⟨hcz70_0, hcz70_1, hfz70_0, hfz70_1⟩ := bz2 BK417) | (go_at_call 89; (with_reducible refine (impl_norm.calls _ _ _ _ _ A10.out).mono ?_); rintro e w71 ⟨rfl, hb⟩; replace HO_3 := asd (Kd.R_below (kr HO_3) hb); replace BK409 := bB BK409 hb; replace BK416 := bB BK416 hb; replace BK417 := bB BK417 hb; replace BK418 := bB BK418 hb; replace HB := bS4 HB GE409 GE416 GE417 GE418 hb; (try clear hb); have hnb72 := NB418_409.out; have hnc72 := NB409_418.out; obtain ⟨hcz73_0, hcz73_1, hfz73_0, hfz73_1⟩ := bz2 BK418) | (go_at_call 89; (with_reducible refine (impl_norm.calls _ _ _ _ _ A12.out).mono ?_); rintro e w74 ⟨rfl, hb⟩; replace HO_3 := asd (Kd.R_below (kr HO_3) hb); replace BK409 := bB BK409 hb; replace BK416 := bB BK416 hb; replace BK417 := bB BK417 hb; replace BK418 := bB BK418 hb; replace HB := bS4 HB GE409 GE416 GE417 GE418 hb; (try clear hb)))
    rotate_left
    try go_wp2_with (first | ((with_reducible refine gate_callee (f := 89) rfl ?_); refine gl 39 Try.func89 #[.int .i64 a0, .agg #[.int .i64 t410, .int .i64 t411]] ?_; (with_reducible refine (impl_norm.calls _ _ _ _ _ A8.out).mono ?_); rintro e w96 ⟨rfl, hb⟩; refine ⟨_, rfl, ?_⟩; replace HO_3 := asd (Kd.R_below (kr HO_3) hb); replace BK409 := bB BK409 hb; replace BK416 := bB BK416 hb; replace BK417 := bB BK417 hb; replace BK418 := bB BK418 hb; replace HB := bS4 HB GE409 GE416 GE417 GE418 hb; (try clear hb); have hnb97 := NB417_409.out; have hnc97 := NB409_417.out; have hnb98 := NB417_418.out; have hnc98 := NB418_417.out; obtain ⟨hcz99_0, hcz99_1, hfz99_0, hfz99_1⟩ := bz2 BK417) | (go_at_call 89; (with_reducible refine (impl_norm.calls _ _ _ _ _ A10.out).mono ?_); rintro e w100 ⟨rfl, hb⟩; replace HO_3 := asd (Kd.R_below (kr HO_3) hb); replace BK409 := bB BK409 hb; replace BK416 := bB BK416 hb; replace BK417 := bB BK417 hb; replace BK418 := bB BK418 hb; replace HB := bS4 HB GE409 GE416 GE417 GE418 hb; (try clear hb)))
    rotate_left
    try go_wp2_with (first | ((with_reducible refine gate_callee (f := 89) rfl ?_); refine gl 39 Try.func89 #[.int .i64 a0, .agg #[.int .i64 t410, .int .i64 t411]] ?_; (with_reducible refine (impl_norm.calls _ _ _ _ _ A8.out).mono ?_); rintro e w122 ⟨rfl, hb⟩; refine ⟨_, rfl, ?_⟩; replace HO_3 := asd (Kd.R_below (kr HO_3) hb); replace BK409 := bB BK409 hb; replace BK416 := bB BK416 hb; replace BK417 := bB BK417 hb; replace BK418 := bB BK418 hb; replace HB := bS4 HB GE409 GE416 GE417 GE418 hb; (try clear hb)))
    rotate_left
    all_goals
     go_roundg k1
     case measure => have := HK1.out; omega
    ·case rel => exact ⟨(y422), (wrap64 (x10_1 + 1)), (by first | rfl | (simp; done) | (simp [*]; done)), H', ⟨by have := HK1.out; omega⟩, ⟨by (with_reducible repeat (first | apply Kd.R_alloc | apply Kd.R_drewN | apply Kd.R_drew)); exact Kd.R_mono HO424.out (fun _ hk => trivial)⟩, ⟨bbw4 HB GE409 GE416 GE417 GE418⟩⟩
    rotate_left 3
    all_goals
     case rel => exact ⟨(x3_1), (wrap64 (x10_1 + 1)), (by first | rfl | (simp; done) | (simp [*]; done)), H', ⟨by have := HK1.out; omega⟩, ⟨by (with_reducible repeat (first | apply Kd.R_alloc | apply Kd.R_drewN | apply Kd.R_drew)); exact Kd.R_mono HO_3.out (fun _ hk => trivial)⟩, ⟨bbw4 HB GE409 GE416 GE417 GE418⟩⟩
   ·rw [if_neg c4] at H
    have c4b0 := decide_eq_false c4
    clear c4
    obtain rfl := Option.some.inj H
    go_wp2
    go_ret
    exact ⟨_, by first | rfl | (simp [errW_none, errW_some] <;> rfl) | (simp [*, errW_none, errW_some] <;> rfl), by (with_reducible repeat (first | apply Kd.R_alloc | apply Kd.R_drewN | apply Kd.R_drew)); exact HO_3.out, bbw0 HB⟩
/-! ### impl_Lattice_has: function 76 -/
def impl_Lattice_has.f (a0_0 : Int) (a0_1 : Int) (a0_2 : Int) (a1_0 : Int) (a1_1 : Int) : Option (Bool) := (impl_Lattice_reduce.f a0_0 a0_1 a0_2 a1_0 a1_1).bind fun bt427 => (some (bt427.1 == 0 && (bt427.2 == 0)))
set_option maxHeartbeats 8000000 in
set_option maxRecDepth 100000 in
theorem impl_Lattice_has.calls (a0_0 : Int) (a0_1 : Int) (a0_2 : Int) (a1_0 : Int) (a1_1 : Int) (r : Bool) (w : World) (h : impl_Lattice_has.f a0_0 a0_1 a0_2 a1_0 a1_1 = some r) :
  Calls Try.prog 76 #[.agg #[.int .i64 a0_0, .int .i64 a0_1, .int .i64 a0_2], .agg #[.int .i64 a1_0, .int .i64 a1_1]] w fun e w' => e = .returned (.bool r) ∧ Below w.heap.size w w' := by
 have hu28 := Try.underlying28
 have hu42 := Try.underlying42
 have HB := asd (Below.refl w.heap.size w)
 have H : ((impl_Lattice_reduce.f a0_0 a0_1 a0_2 a1_0 a1_1).bind fun bt427 => (some (bt427.1 == 0 && (bt427.2 == 0)))) = some r := h
 clear h
 obtain ⟨⟨t427, t428⟩, A3, H⟩ := ob H
 try dsimp only at H
 obtain rfl := Option.some.inj H
 go_enter Try.func76, Try.ntmps76
 go_wp2_with (first | ((with_reducible refine gd 2 rfl ?_); refine bx #[.int .i64 a0_0, .int .i64 a0_1, .int .i64 a0_2] 28 ?_; intro gb425 hg w4 BK425 hb; have GE425 := ngw0 hg HB; replace HB := bS0 HB hb; clear hb hg) | ((with_reducible refine gd 3 rfl ?_); refine bx #[.int .i64 a1_0, .int .i64 a1_1] 42 ?_; intro gb426 hg w5 BK426 hb; have GE426 := ngw1 hg HB GE425; replace HB := bS1 HB GE425 hb; have NB425_426 := nlt hg BK425; have NB426_425 := nsy (nlt hg BK425); replace BK425 := bB BK425 hb; clear hb hg; have hnb6 := NB425_426.out; have hnc6 := NB426_425.out; obtain ⟨hcz7_0, hcz7_1, hcz7_2, hfz7_0, hfz7_1, hfz7_2⟩ := bz3 BK425; obtain ⟨hcz8_0, hcz8_1, hfz8_0, hfz8_1⟩ := bz2 BK426) | ((with_reducible refine gate_callee (f := 21) rfl ?_); refine gl 7 Try.func21 #[.agg #[.int .i64 a0_0, .int .i64 a0_1, .int .i64 a0_2], .agg #[.int .i64 a1_0, .int .i64 a1_1]] ?_; (with_reducible refine (impl_Lattice_reduce.calls _ _ _ _ _ _ _ _ A3.out).mono ?_); rintro e w9 ⟨rfl, hb⟩; refine ⟨_, rfl, ?_⟩; replace BK425 := bB BK425 hb; replace BK426 := bB BK426 hb; replace HB := bS2 HB GE425 GE426 hb; (try clear hb)))
 go_ret
 exact er (bbw2 HB GE425 GE426)

attribute [local go_sem high] eqA40
/-! ### impl_latticeMats: function 56 -/
def impl_latticeMats.app (m : S40) (x y : Int) : Int × Int := (impl_Mat_apply.f m.f0 m.f1 m.f2 m.f3 x y).getD (0, 0)
def impl_latticeMats.hasB (a b c : Int) (t : Int × Int) : Bool := (impl_Lattice_has.f a b c t.1 t.2).getD false
/-- Does a matrix map a lattice into itself? -/
def impl_latticeMats.keep (a b c : Int) (m : S40) : Bool := impl_latticeMats.hasB a b c (impl_latticeMats.app m a 0) && impl_latticeMats.hasB a b c (impl_latticeMats.app m b c)
theorem impl_latticeMats.app_eq (m : S40) (x y : Int) : impl_Mat_apply.f m.f0 m.f1 m.f2 m.f3 x y = some ((impl_latticeMats.app m x y).1, (impl_latticeMats.app m x y).2) := rfl
theorem impl_latticeMats.has_eq (a b c : Int) (ha : a ≠ 0) (hc : c ≠ 0) (t : Int × Int) : impl_Lattice_has.f a b c t.1 t.2 = some (impl_latticeMats.hasB a b c t) := by
 have : (impl_Lattice_has.f a b c t.1 t.2).isSome = true := by
  simp [impl_Lattice_has.f, impl_Lattice_reduce.f, impl_mod.f, ha, hc]
 obtain ⟨r, hr⟩ := Option.isSome_iff_exists.1 this
 unfold impl_latticeMats.hasB
 rw [hr]; rfl
def impl_latticeMats.f (k : Nat) (a0 : Int) (a1_0 : Int) (a1_1 : Int) (a1_2 : Int) : Option (List S40) := if a1_0 = 0 then none else (if a1_2 = 0 then none else ((impl_pointMats.f k a0).bind fun l => some (l.filter (impl_latticeMats.keep a1_0 a1_1 a1_2))))
abbrev impl_latticeMats.Held (W : World) (a b c : Int) (L U V B : Nat) (x : S40) (w' : World) : Prop := Below W.heap.size W w' ∧ w'.cell? ⟨L, 0, none⟩ = some (.int .i64 a) ∧ w'.cell? ⟨L, 1, none⟩ = some (.int .i64 b) ∧ w'.cell? ⟨L, 2, none⟩ = some (.int .i64 c) ∧ w'.cell? ⟨U, 0, none⟩ = some (.int .i64 a) ∧ w'.cell? ⟨U, 1, none⟩ = some (.int .i64 0) ∧ w'.cell? ⟨V, 0, none⟩ = some (.int .i64 b) ∧ w'.cell? ⟨V, 1, none⟩ = some (.int .i64 c) ∧ w'.cell? ⟨B, 0, none⟩ = some (.int .i64 x.f0) ∧ w'.cell? ⟨B, 1, none⟩ = some (.int .i64 x.f1) ∧ w'.cell? ⟨B, 2, none⟩ = some (.int .i64 x.f2) ∧ w'.cell? ⟨B, 3, none⟩ = some (.int .i64 x.f3)
theorem impl_latticeMats.held_below {W : World} {a b c : Int} {L U V B : Nat} {x : S40} {w w' : World} (h : impl_latticeMats.Held W a b c L U V B x w) (hb : Below w.heap.size w w') : impl_latticeMats.Held W a b c L U V B x w' := by
 obtain ⟨h0, s0, s1, s2, s3, s4, s5, s6, s7, s8, s9, s10⟩ := h
 exact ⟨below_then h0 h0.size hb, (hb.cell (World.block_lt_of_cell? w _ s0)).trans s0, (hb.cell (World.block_lt_of_cell? w _ s1)).trans s1, (hb.cell (World.block_lt_of_cell? w _ s2)).trans s2, (hb.cell (World.block_lt_of_cell? w _ s3)).trans s3, (hb.cell (World.block_lt_of_cell? w _ s4)).trans s4, (hb.cell (World.block_lt_of_cell? w _ s5)).trans s5, (hb.cell (World.block_lt_of_cell? w _ s6)).trans s6, (hb.cell (World.block_lt_of_cell? w _ s7)).trans s7, (hb.cell (World.block_lt_of_cell? w _ s8)).trans s8, (hb.cell (World.block_lt_of_cell? w _ s9)).trans s9, (hb.cell (World.block_lt_of_cell? w _ s10)).trans s10⟩
theorem impl_latticeMats.held_drew {W : World} {a b c : Int} {L U V B : Nat} {x : S40} {w : World} (h : impl_latticeMats.Held W a b c L U V B x w) : impl_latticeMats.Held W a b c L U V B x w.drew := ⟨below_drew1 h.1, h.2⟩
set_option maxHeartbeats 40000000 in
set_option maxRecDepth 100000 in
theorem impl_latticeMats.pred (a b c : Int) (L U V : Nat) (W : World) (hl0 : W.cell? ⟨L, 0, none⟩ = some (.int .i64 a)) (hl1 : W.cell? ⟨L, 1, none⟩ = some (.int .i64 b)) (hl2 : W.cell? ⟨L, 2, none⟩ = some (.int .i64 c)) (hu0 : W.cell? ⟨U, 0, none⟩ = some (.int .i64 a)) (hu1 : W.cell? ⟨U, 1, none⟩ = some (.int .i64 0)) (hv0 : W.cell? ⟨V, 0, none⟩ = some (.int .i64 b)) (hv1 : W.cell? ⟨V, 1, none⟩ = some (.int .i64 c)) (ha : a ≠ 0) (hc : c ≠ 0) (x : S40) :
  Calls Try.prog 75 (#[.agg #[.int .i64 x.f0, .int .i64 x.f1, .int .i64 x.f2, .int .i64 x.f3]] ++ #[.pointer (some ⟨L, 0, none⟩), .pointer (some ⟨U, 0, none⟩), .pointer (some ⟨V, 0, none⟩)]) W fun e w' => e = .returned (.bool (!(impl_latticeMats.keep a b c x))) ∧ Below W.heap.size W w' := by
 show Calls Try.prog 75 #[.agg #[.int .i64 x.f0, .int .i64 x.f1, .int .i64 x.f2, .int .i64 x.f3], .pointer (some ⟨L, 0, none⟩), .pointer (some ⟨U, 0, none⟩), .pointer (some ⟨V, 0, none⟩)] W _
 have hu33 := Try.underlying40
 have hu34 := Try.underlying42
 have hu31 := Try.underlying28
 have A1 := asd (impl_latticeMats.app_eq x a 0)
 have A2 := asd (impl_latticeMats.has_eq a b c ha hc (impl_latticeMats.app x a 0))
 have A3 := asd (impl_latticeMats.app_eq x b c)
 have A4 := asd (impl_latticeMats.has_eq a b c ha hc (impl_latticeMats.app x b c))
 unfold impl_latticeMats.keep
 generalize impl_latticeMats.app x a 0 = p1 at A1 A2 ⊢
 generalize impl_latticeMats.app x b c = p2 at A3 A4 ⊢
 generalize impl_latticeMats.hasB a b c p1 = r1 at A2 ⊢
 generalize impl_latticeMats.hasB a b c p2 = r2 at A4 ⊢
 have hb0 := below_alloc (Below.refl W.heap.size W) (.cells #[.int .i64 x.f0, .int .i64 x.f1, .int .i64 x.f2, .int .i64 x.f3] 40)
 have hS0 : impl_latticeMats.Held W a b c L U V W.heap.size x (W.alloc (.cells #[.int .i64 x.f0, .int .i64 x.f1, .int .i64 x.f2, .int .i64 x.f3] 40)) :=
  ⟨hb0, (hb0.cell (World.block_lt_of_cell? W _ hl0)).trans hl0, (hb0.cell (World.block_lt_of_cell? W _ hl1)).trans hl1, (hb0.cell (World.block_lt_of_cell? W _ hl2)).trans hl2, (hb0.cell (World.block_lt_of_cell? W _ hu0)).trans hu0, (hb0.cell (World.block_lt_of_cell? W _ hu1)).trans hu1, (hb0.cell (World.block_lt_of_cell? W _ hv0)).trans hv0, (hb0.cell (World.block_lt_of_cell? W _ hv1)).trans hv1, by simp, by simp, by simp, by simp⟩
 have C1 := asd (fun (w' : World) (h : impl_latticeMats.Held W a b c L U V W.heap.size x w') => (impl_Mat_apply.calls _ _ _ _ _ _ _ _ _ A1.out).mono (fun e w'' (he : _ ∧ _) => (⟨he.1, impl_latticeMats.held_below h he.2⟩ : _ ∧ impl_latticeMats.Held W a b c L U V W.heap.size x w'')))
 have C2 := asd (fun (w' : World) (h : impl_latticeMats.Held W a b c L U V W.heap.size x w') => (impl_Lattice_has.calls _ _ _ _ _ _ _ A2.out).mono (fun e w'' (he : _ ∧ _) => (⟨he.1, impl_latticeMats.held_below h he.2⟩ : _ ∧ impl_latticeMats.Held W a b c L U V W.heap.size x w'')))
 have C3 := asd (fun (w' : World) (h : impl_latticeMats.Held W a b c L U V W.heap.size x w') => (impl_Mat_apply.calls _ _ _ _ _ _ _ _ _ A3.out).mono (fun e w'' (he : _ ∧ _) => (⟨he.1, impl_latticeMats.held_below h he.2⟩ : _ ∧ impl_latticeMats.Held W a b c L U V W.heap.size x w'')))
 have C4 := asd (fun (w' : World) (h : impl_latticeMats.Held W a b c L U V W.heap.size x w') => (impl_Lattice_has.calls _ _ _ _ _ _ _ A4.out).mono (fun e w'' (he : _ ∧ _) => (⟨he.1, impl_latticeMats.held_below h he.2⟩ : _ ∧ impl_latticeMats.Held W a b c L U V W.heap.size x w'')))
 clear hl0 hl1 hl2 hu0 hu1 hv0 hv1 ha hc hb0
 have hS1 := hS0
 obtain ⟨sb, s0, s1, s2, s3, s4, s5, s6, s7, s8, s9, s10⟩ := hS0
 cases r1 with
 | false =>
  go_enter Try.func75, Try.ntmps75
  go_wp2
  refine wp_region_held_drew (S := (fun w' => Below W.heap.size W w' ∧ w'.cell? ⟨L, 0, none⟩ = some (.int .i64 a) ∧ w'.cell? ⟨L, 1, none⟩ = some (.int .i64 b) ∧ w'.cell? ⟨L, 2, none⟩ = some (.int .i64 c) ∧ w'.cell? ⟨U, 0, none⟩ = some (.int .i64 a) ∧ w'.cell? ⟨U, 1, none⟩ = some (.int .i64 0) ∧ w'.cell? ⟨V, 0, none⟩ = some (.int .i64 b) ∧ w'.cell? ⟨V, 1, none⟩ = some (.int .i64 c) ∧ w'.cell? ⟨W.heap.size, 0, none⟩ = some (.int .i64 x.f0) ∧ w'.cell? ⟨W.heap.size, 1, none⟩ = some (.int .i64 x.f1) ∧ w'.cell? ⟨W.heap.size, 2, none⟩ = some (.int .i64 x.f2) ∧ w'.cell? ⟨W.heap.size, 3, none⟩ = some (.int .i64 x.f3))) (by kernel_rfl) (impl_latticeMats.held_drew hS1) (fun hHeld => ?_)
  refine wpAnyH_take (i := 0) (v := ?_) rfl (by kernel_rfl) (by kernel_rfl) (by kernel_rfl) (fun _ _ _ h => h) (Or.inl ⟨by rfl, ?_⟩) (by assumption) ?_
  rotate_left
  ·intro w' hSw; (try dsimp only at hSw); go_simp; first | done | with_reducible rfl
  rotate_left
  try simp only [Act.put, sA, sB, sC]
  refine wpAnyH_take (i := 1) (v := ?_) rfl (by kernel_rfl) (by kernel_rfl) (by kernel_rfl) (fun _ _ _ h => h) (Or.inl ⟨by rfl, ?_⟩) (by assumption) ?_
  rotate_left
  ·intro w' hSw; (try dsimp only at hSw); go_simp; first | done | with_reducible rfl
  rotate_left
  try simp only [Act.put, sA, sB, sC]
  refine wpAnyH_take (i := 2) (v := ?_) rfl (by kernel_rfl) (by kernel_rfl) (by kernel_rfl) (fun _ _ _ h => h) (Or.inl ⟨by rfl, ?_⟩) (by assumption) ?_
  rotate_left
  ·intro w' hSw; (try dsimp only at hSw); go_simp; first | done | with_reducible rfl
  rotate_left
  try simp only [Act.put, sA, sB, sC]
  refine wpAnyH_ready (rs := [3]) (by kernel_rfl) (by simp) ?_
  refine AllReadyH.cons rfl (fun K hK => ?_) AllReadyH.nil
  go_simp
  go_at_call 77
  (with_reducible refine (C1.out _ ?_).mono ?_)
  (assumption)
  rintro e w' ⟨rfl, hS'⟩
  refine hK.out _ _ (hS') (fun hHeld => ?_)
  clear hK K
  try simp only [Act.put, sA, sB, sC]
  refine wpAnyH_ready (rs := [4]) (by kernel_rfl) (by simp) ?_
  refine AllReadyH.cons rfl (fun K hK => ?_) AllReadyH.nil
  go_simp
  go_at_call 76
  (with_reducible refine (C2.out _ ?_).mono ?_)
  (assumption)
  rintro e w' ⟨rfl, hS'⟩
  refine hK.out _ _ (hS') (fun hHeld => ?_)
  clear hK K
  try simp only [Act.put, sA, sB, sC]
  refine wpAnyH_take (i := 5) (oi := { dst := some 11, op := _, type := _, pos := _, after := _, guard := _ }) (v := ?_) rfl (by kernel_rfl) (by kernel_rfl) (by kernel_rfl) (fun _ _ _ h => h) (Or.inl ⟨by rfl, ?_⟩) (by assumption) ?_
  rotate_left
  ·intro w' hSw; (try dsimp only at hSw); go_simp; first | done | with_reducible rfl
  rotate_left
  try simp only [Act.put, sA, sB, sC]
  refine wpAnyH_take (i := 6) (oi := { dst := some 12, op := _, type := _, pos := _, after := _, guard := _ }) (v := ?_) rfl (by kernel_rfl) (by kernel_rfl) (by kernel_rfl) (fun _ _ _ h => h) (Or.inl ⟨by rfl, ?_⟩) (by assumption) ?_
  rotate_left
  ·intro w' hSw; (try dsimp only at hSw); go_simp; first | done | with_reducible rfl
  rotate_left
  try simp only [Act.put, sA, sB, sC]
  refine wpAnyH_take (i := 7) (oi := { dst := some 13, op := _, type := _, pos := _, after := _, guard := _ }) (v := _) rfl (by kernel_rfl) (by kernel_rfl) (by kernel_rfl) (fun _ _ _ h => h) (Or.inr ⟨by rfl, rfl⟩) (by assumption) ?_
  try simp only [Act.put, sA, sB, sC]
  refine wpAnyH_take (i := 8) (oi := { dst := some 14, op := _, type := _, pos := _, after := _, guard := _ }) (v := _) rfl (by kernel_rfl) (by kernel_rfl) (by kernel_rfl) (fun _ _ _ h => h) (Or.inr ⟨by rfl, rfl⟩) (by assumption) ?_
  try simp only [Act.put, sA, sB, sC]
  refine wpAnyH_take (i := 9) (oi := { dst := some 15, op := _, type := _, pos := _, after := _, guard := _ }) (v := _) rfl (by kernel_rfl) (by kernel_rfl) (by kernel_rfl) (fun _ _ _ h => h) (Or.inr ⟨by rfl, rfl⟩) (by assumption) ?_
  try simp only [Act.put, sA, sB, sC]
  refine wpAnyH_take (i := 10) (oi := { dst := some 16, op := _, type := _, pos := _, after := _, guard := _ }) (v := _) rfl (by kernel_rfl) (by kernel_rfl) (by kernel_rfl) (fun _ _ _ h => h) (Or.inr ⟨by rfl, rfl⟩) (by assumption) ?_
  try simp only [Act.put, sA, sB, sC]
  refine wpAnyH_take (i := 11) (oi := { dst := some 17, op := _, type := _, pos := _, after := _, guard := _ }) (v := _) rfl (by kernel_rfl) (by kernel_rfl) (by kernel_rfl) (fun _ _ _ h => h) (Or.inr ⟨by rfl, rfl⟩) (by assumption) ?_
  try simp only [Act.put, sA, sB, sC]
  refine wpAnyH_take (i := 12) (oi := { dst := some 18, op := Op.unOp UnOp.not _ (Operand.tmp 17), type := _, pos := _, after := _, guard := _ }) (v := _) rfl (by kernel_rfl) (by kernel_rfl) (by kernel_rfl) (fun _ _ _ h => h) (Or.inr ⟨by rfl, rfl⟩) (by assumption) ?_
  try simp only [Act.put, sA, sB, sC]
  refine wpAnyH_take (i := 13) (oi := { dst := some 19, op := Op.pick (Operand.tmp 12) (Operand.const (Value.bool true)) (Operand.tmp 18), type := _, pos := _, after := _, guard := _ }) (v := ?_) rfl (by kernel_rfl) (by kernel_rfl) (by kernel_rfl) (fun _ _ _ h => h) (Or.inl ⟨by rfl, ?_⟩) (by assumption) ?_
  rotate_left
  ·intro w' hSw; (try dsimp only at hSw); go_simp; first | done | with_reducible rfl
  rotate_left
  try simp only [Act.put, sA, sB, sC]
  refine wpAnyH_take (i := 14) (oi := { dst := some 5, op := Op.assign (Operand.tmp 19), type := _, pos := _, after := _, guard := _ }) (v := ?_) rfl (by kernel_rfl) (by kernel_rfl) (by kernel_rfl) (fun _ _ _ h => h) (Or.inl ⟨by rfl, ?_⟩) (by assumption) ?_
  rotate_left
  ·intro w' hSw; (try dsimp only at hSw); go_simp; first | done | with_reducible rfl
  rotate_left
  try simp only [Act.put, sA, sB, sC]
  refine wpAnyH_done (by kernel_rfl) ?_ _
  all_goals go_wp2
  all_goals go_ret
  all_goals exact ⟨by first | rfl | (cases r2 <;> rfl), (show impl_latticeMats.Held W a b c L U V W.heap.size x _ by assumption).1⟩
 | true =>
  go_enter Try.func75, Try.ntmps75
  go_wp2
  first | (go_region_held3 (fun w' => Below W.heap.size W w' ∧ w'.cell? ⟨L, 0, none⟩ = some (.int .i64 a) ∧ w'.cell? ⟨L, 1, none⟩ = some (.int .i64 b) ∧ w'.cell? ⟨L, 2, none⟩ = some (.int .i64 c) ∧ w'.cell? ⟨U, 0, none⟩ = some (.int .i64 a) ∧ w'.cell? ⟨U, 1, none⟩ = some (.int .i64 0) ∧ w'.cell? ⟨V, 0, none⟩ = some (.int .i64 b) ∧ w'.cell? ⟨V, 1, none⟩ = some (.int .i64 c) ∧ w'.cell? ⟨W.heap.size, 0, none⟩ = some (.int .i64 x.f0) ∧ w'.cell? ⟨W.heap.size, 1, none⟩ = some (.int .i64 x.f1) ∧ w'.cell? ⟨W.heap.size, 2, none⟩ = some (.int .i64 x.f2) ∧ w'.cell? ⟨W.heap.size, 3, none⟩ = some (.int .i64 x.f3)) (first | assumption | exact impl_latticeMats.held_drew hS1 | go_keep)
   (first | (go_at_call 77; (with_reducible refine (C1.out _ ?_).mono ?_); (assumption); rintro e w' ⟨rfl, hS'⟩) | (go_at_call 76; (with_reducible refine (C2.out _ ?_).mono ?_); (assumption); rintro e w' ⟨rfl, hS'⟩) | (go_at_call 77; (with_reducible refine (C3.out _ ?_).mono ?_); (assumption); rintro e w' ⟨rfl, hS'⟩) | (go_at_call 76; (with_reducible refine (C4.out _ ?_).mono ?_); (assumption); rintro e w' ⟨rfl, hS'⟩))) | (fail "held3")
  all_goals go_wp2
  all_goals go_ret
  all_goals exact ⟨by first | rfl | (cases r2 <;> rfl), (show impl_latticeMats.Held W a b c L U V W.heap.size x _ by assumption).1⟩
set_option maxHeartbeats 4000000 in
set_option maxRecDepth 100000 in
theorem impl_latticeMats.calls (k : Nat) (a0 : Int) (a1_0 : Int) (a1_1 : Int) (a1_2 : Int) (r : List S40) (w : World) (h : impl_latticeMats.f k a0 a1_0 a1_1 a1_2 = some r) :
  Calls Try.prog 56 #[.int .i64 a0, .agg #[.int .i64 a1_0, .int .i64 a1_1, .int .i64 a1_2]] w fun e w' => ∃ v0_ : Value, e = .returned (v0_) ∧ Kd.R k40 40 w' w.heap.size (fun _ => True) v0_ r ∧ Below w.heap.size w w' := by
 have hu34 := Try.underlying42
 have hu31 := Try.underlying28
 unfold impl_latticeMats.f at h
 by_cases ha : a1_0 = 0
 ·rw [if_pos ha] at h; cases h
 rw [if_neg ha] at h
 by_cases hc : a1_2 = 0
 ·rw [if_pos hc] at h; cases h
 rw [if_neg hc] at h
 obtain ⟨l, h1, h2⟩ := Option.bind_eq_some_iff.1 h
 have hr := Option.some.inj h2
 subst hr
 have A1 := Aside0.mk h1
 have HA := Aside0.mk ha
 have HC := Aside0.mk hc
 have ABS := asd (show impl_Lattice_basis.f a1_0 a1_1 a1_2 = some (a1_0, 0, a1_1, a1_2) from rfl)
 clear h h1 h2 ha hc
 have eg : ∀ args w, (callFunc 75 args).run Try.prog w = .ok (.enter 75 args) w := enters_of Try.func75 (by kernel_rfl) rfl
 have EG := Aside0.mk eg
 clear eg
 go_enter Try.func56, Try.ntmps56
 go_wp2_with (first | (go_at_call 15; (with_reducible refine (impl_Lattice_basis.calls _ _ _ _ _ _ _ _ ABS.out).mono ?_); rintro e w2 ⟨rfl, hb2⟩; have HB2 := asd (below_then (below_alloc (Below.refl w.heap.size w) _) (below_alloc (Below.refl w.heap.size w) _).size hb2); have HL := Aside0.mk hb2; clear hb2) | (go_at_call 74; (with_reducible refine (impl_pointMats.calls _ _ _ _ A1.out).mono ?_); rintro e w3 ⟨v0, rfl, hR, hb3⟩; have HR3 := Aside0.mk hR; have HB3 := Aside0.mk hb3; clear hR hb3))
 obtain ⟨wA, hwA⟩ : ∃ wA, wA = (w2.alloc (.cells #[.int .i64 a1_0, .int .i64 0] 42)).alloc (.cells #[.int .i64 a1_1, .int .i64 a1_2] 42) := ⟨_, rfl⟩
 have hAB : Below w2.heap.size w2 wA := by rw [hwA]; exact below_alloc (below_alloc (Below.refl _ _) _) _
 have hl : ∀ o v, (w.alloc (.cells #[.int .i64 a1_0, .int .i64 a1_1, .int .i64 a1_2] 28)).cell? ⟨w.heap.size, o, none⟩ = some v → wA.cell? ⟨w.heap.size, o, none⟩ = some v := fun o v hv => by
  have h1 : w2.cell? ⟨w.heap.size, o, none⟩ = some v := (HL.out.cell (p := ⟨w.heap.size, o, none⟩) (by simp)).trans hv
  exact (hAB.cell (World.block_lt_of_cell? w2 _ h1)).trans h1
 have hl0 := hl 0 (.int .i64 a1_0) (by simp)
 have hl1 := hl 1 (.int .i64 a1_1) (by simp)
 have hl2 := hl 2 (.int .i64 a1_2) (by simp)
 have hu0 : wA.cell? ⟨w2.heap.size, 0, none⟩ = some (.int .i64 a1_0) := by rw [hwA]; simp
 have hu1 : wA.cell? ⟨w2.heap.size, 1, none⟩ = some (.int .i64 0) := by rw [hwA]; simp
 have hv0 : wA.cell? ⟨w2.heap.size + 1, 0, none⟩ = some (.int .i64 a1_1) := by rw [hwA]; simp
 have hv1 : wA.cell? ⟨w2.heap.size + 1, 1, none⟩ = some (.int .i64 a1_2) := by rw [hwA]; simp
 have hBA : Below w.heap.size w wA := below_then HB2.out HB2.out.size hAB
 have HR4 := HR3.out
 have HB4 := HB3.out
 rw [← hwA] at HR4 HB4
 have up : ∀ (W : World) (p : Addr) (v : Value), Below wA.heap.size wA W → wA.cell? p = some v → W.cell? p = some v := fun W p v hb h => (hb.cell (World.block_lt_of_cell? wA _ h)).trans h
 refine (impl_Mat_73.calls (fun x => !(impl_latticeMats.keep a1_0 a1_1 a1_2 x)) 75 #[.pointer (some ⟨w.heap.size, 0, none⟩), .pointer (some ⟨w2.heap.size, 0, none⟩), .pointer (some ⟨w2.heap.size + 1, 0, none⟩)] EG.out (fun k_ => wA.heap.size ≤ k_) v0 l wA w3 HB4 (Kd.R_mono (Kd.R_bound HR4) (fun k_ hk => hk.2.1)) (fun x W hb _ => impl_latticeMats.pred a1_0 a1_1 a1_2 w.heap.size w2.heap.size (w2.heap.size + 1) W (up W _ _ hb hl0) (up W _ _ hb hl1) (up W _ _ hb hl2) (up W _ _ hb hu0) (up W _ _ hb hu1) (up W _ _ hb hv0) (up W _ _ hb hv1) HA.out HC.out x)).mono ?_
 rintro e w4 ⟨v', rfl, hR4, hb4, _⟩
 have HR5 := Aside0.mk hR4
 have HB5 := Aside0.mk hb4
 have HBA := Aside0.mk hBA
 clear hl hl0 hl1 hl2 hu0 hu1 hv0 hv1 hAB hBA HR4 HB4 up hR4 hb4 hwA
 go_wp2
 go_ret
 refine ⟨_, rfl, ?_, below_then HBA.out HBA.out.size HB5.out⟩
 have hf : (l.filter fun x => !(!(impl_latticeMats.keep a1_0 a1_1 a1_2 x))) = l.filter (impl_latticeMats.keep a1_0 a1_1 a1_2) := by congr 1; funext x; simp
 have := HR5.out
 rw [hf] at this
 exact Kd.R_mono (Kd.R_lower this HBA.out.size) (fun _ _ => trivial)
/-! ### impl_Mat_78: function 78 -/
def impl_Mat_78.l0 : Nat → List (S40) → Int → Int → Int → Int → Int → Int → Option (Int)
 | 0, _, _, _, _, _, _, _ => none
 | k + 1, x0, x7, x8, x430000, x430001, x430002, x430003 => if x8 < x7 then (if 0 ≤ x8 then (if x8 < (x0.length : Int) then (if (x430000 == ((rd_T40 x0 x8).f0) && (x430001 == ((rd_T40 x0 x8).f1) && (x430002 == ((rd_T40 x0 x8).f2) && (x430003 == ((rd_T40 x0 x8).f3))))) = true then (some x8) else (impl_Mat_78.l0 k x0 x7 (wrap64 (x8 + 1)) x430000 x430001 x430002 x430003)) else (none)) else (none)) else (some (-1))
def impl_Mat_78.f (k : Nat) (l0 : List (S40)) (a1_0 : Int) (a1_1 : Int) (a1_2 : Int) (a1_3 : Int) : Option (Int) := impl_Mat_78.l0 k l0 (l0.length : Int) 0 a1_0 a1_1 a1_2 a1_3
set_option maxHeartbeats 8000000 in
set_option maxRecDepth 100000 in
theorem impl_Mat_78.calls (k : Nat) (A0 : Option Addr) (c0 : Nat) (l0 : List (S40)) (a1_0 : Int) (a1_1 : Int) (a1_2 : Int) (a1_3 : Int) (r : Int) (w : World) (hr0 : Kd.C k40 w A0 l0.length l0) (hc0 : l0.length ≤ c0) (h : impl_Mat_78.f k l0 a1_0 a1_1 a1_2 a1_3 = some r) :
  Calls Try.prog 78 #[.slice A0 l0.length c0, .agg #[.int .i64 a1_0, .int .i64 a1_1, .int .i64 a1_2, .int .i64 a1_3]] w fun e w' => e = .returned (.int .i64 r) ∧ Below w.heap.size w w' := by
 have hu40 := Try.underlying40
 have HR0 := Aside0.mk hr0
 have HC0 := Aside0.mk hc0
 clear hr0 hc0
 have HB := asd (Below.refl w.heap.size w)
 have H : (impl_Mat_78.l0 k l0 (l0.length : Int) 0 a1_0 a1_1 a1_2 a1_3) = some r := h
 clear h
 have H' := Aside0.mk H
 clear H
 go_enter Try.func78, Try.ntmps78
 go_wp2_with (first | ((with_reducible refine gd 3 rfl ?_); refine bx #[.int .i64 a1_0, .int .i64 a1_1, .int .i64 a1_2, .int .i64 a1_3] 40 ?_; intro gb429 hg w3 BK429 hb; have GE429 := ngw0 hg HB; replace HB := bS0 HB hb; clear hb hg))
 repeat (go_quiet (first | ((with_reducible refine gd 3 rfl ?_); refine bx #[.int .i64 a1_0, .int .i64 a1_1, .int .i64 a1_2, .int .i64 a1_3] 40 ?_; intro gb429 hg w3 BK429 hb; have GE429 := ngw0 hg HB; replace HB := bS0 HB hb; clear hb hg)); try go_wp2_with (first | ((with_reducible refine gd 3 rfl ?_); refine bx #[.int .i64 a1_0, .int .i64 a1_1, .int .i64 a1_2, .int .i64 a1_3] 40 ?_; intro gb429 hg w3 BK429 hb; have GE429 := ngw0 hg HB; replace HB := bS0 HB hb; clear hb hg)))
 go_loopg [8] k (fun kq v8 w' => ∃ (x8_1 : Int), v8 = .int .i64 x8_1 ∧ Aside0 (impl_Mat_78.l0 kq l0 (l0.length : Int) x8_1 a1_0 a1_1 a1_2 a1_3 = some r) ∧ Aside0 (kq ≤ k) ∧ Aside0 (w'.heap[gb429]? = some (.cells #[.int .i64 a1_0, .int .i64 a1_1, .int .i64 a1_2, .int .i64 a1_3] 40 (0, 0))) ∧ Aside0 (Below w.heap.size w w'))
 case atStart => exact ⟨(0), (by first | rfl | (simp; done) | (simp [*]; done)), H', ⟨Nat.le_refl _⟩, ⟨bkp BK429⟩, ⟨bbw1 HB GE429⟩⟩
 case round =>
  clear H'
  try clear p2
  obtain ⟨x8_1, rfl, HA, HK1, BK429, HB⟩ := hrel
  cases gk with
  | zero => exact absurd HA.out (by simp [impl_Mat_78.l0])
  | succ k1 =>
   have H := HA.out
   clear HA
   simp only [impl_Mat_78.l0] at H
   by_cases c4 : x8_1 < (l0.length : Int)
   rw [if_pos c4] at H
   have c4b0 := decide_eq_true c4
   clear c4
   by_cases c5 : 0 ≤ x8_1
   rw [if_pos c5] at H
   have c5b0 := decide_eq_true c5
   clear c5
   by_cases c6 : x8_1 < (l0.length : Int)
   rw [if_pos c6] at H
   have c6b0 := decide_eq_true c6
   clear c6
   by_cases c7 : (a1_0 == ((rd_T40 l0 x8_1).f0) && (a1_1 == ((rd_T40 l0 x8_1).f1) && (a1_2 == ((rd_T40 l0 x8_1).f2) && (a1_3 == ((rd_T40 l0 x8_1).f3))))) = true
   rw [if_pos c7] at H
   have c7b0 := c7
   (try (have c7b1 : decide (a1_0 = ((rd_T40 l0 x8_1).f0) && (a1_1 == ((rd_T40 l0 x8_1).f1) && (a1_2 == ((rd_T40 l0 x8_1).f2) && (a1_3 == ((rd_T40 l0 x8_1).f3))))) = true := by simpa using c7))
   (try (have c7b2 : (a1_0 == ((rd_T40 l0 x8_1).f0) && (a1_1 == ((rd_T40 l0 x8_1).f1) && (a1_2 == ((rd_T40 l0 x8_1).f2) && (a1_3 == ((rd_T40 l0 x8_1).f3))))) = true := by simpa using c7))
   clear c7
   obtain rfl := Option.some.inj H
   rotate_left
   rw [if_neg c7] at H
   have c7b0 : (a1_0 == ((rd_T40 l0 x8_1).f0) && (a1_1 == ((rd_T40 l0 x8_1).f1) && (a1_2 == ((rd_T40 l0 x8_1).f2) && (a1_3 == ((rd_T40 l0 x8_1).f3))))) = false := by simpa using c7
   (try (have c7b1 : decide (a1_0 = ((rd_T40 l0 x8_1).f0) && (a1_1 == ((rd_T40 l0 x8_1).f1) && (a1_2 == ((rd_T40 l0 x8_1).f2) && (a1_3 == ((rd_T40 l0 x8_1).f3))))) = false := by simpa using c7))
   (try (have c7b2 : (a1_0 == ((rd_T40 l0 x8_1).f0) && (a1_1 == ((rd_T40 l0 x8_1).f1) && (a1_2 == ((rd_T40 l0 x8_1).f2) && (a1_3 == ((rd_T40 l0 x8_1).f3))))) = false := by simpa using c7))
   (try (have c7b3 : ¬ (a1_0 = ((rd_T40 l0 x8_1).f0) && (a1_1 == ((rd_T40 l0 x8_1).f1) && (a1_2 == ((rd_T40 l0 x8_1).f2) && (a1_3 == ((rd_T40 l0 x8_1).f3))))) := by simpa using c7))
   clear c7
   have H' := Aside0.mk H
   clear H
   rotate_left
   ·rw [if_neg c6] at H
    exact absurd H (by simp)
   ·rw [if_neg c5] at H
    exact absurd H (by simp)
   rw [if_neg c4] at H
   have c4b0 := decide_eq_false c4
   clear c4
   obtain rfl := Option.some.inj H
   rotate_left
   rotate_left 2
   ·go_wp2
    repeat (go_quiet (fail); try go_wp2)
    go_ret
    exact er (bbw1 HB GE429)
   all_goals
    obtain ⟨hcz8_0, hcz8_1, hcz8_2, hcz8_3, hfz8_0, hfz8_1, hfz8_2, hfz8_3⟩ := bz4 BK429
    obtain ⟨p430, q430, ad430, e430, hx430_0, hx430_1, hx430_2, hx430_3⟩ := at_T40x HR0.out HB x8_1
    cases e430
    go_wp2
    repeat (go_quiet (fail); try go_wp2)
   ·go_ret
    exact er (bbw1 HB GE429)
   ·go_roundg k1
    case measure => have := HK1.out; omega
    case rel => exact ⟨(wrap64 (x8_1 + 1)), (by first | rfl | (simp; done) | (simp [*]; done)), H', ⟨by have := HK1.out; omega⟩, ⟨bkp BK429⟩, ⟨bbw1 HB GE429⟩⟩
/-! ### impl_Mat_57: function 57 -/
def impl_Mat_57.f (k : Nat) (l0 : List (S40)) (a1_0 : Int) (a1_1 : Int) (a1_2 : Int) (a1_3 : Int) : Option (Bool) := (impl_Mat_78.f k l0 a1_0 a1_1 a1_2 a1_3).bind fun t432 => (some (decide (t432 ≥ 0)))
set_option maxHeartbeats 8000000 in
set_option maxRecDepth 100000 in
theorem impl_Mat_57.calls (k : Nat) (A0 : Option Addr) (c0 : Nat) (l0 : List (S40)) (a1_0 : Int) (a1_1 : Int) (a1_2 : Int) (a1_3 : Int) (r : Bool) (w : World) (hr0 : Kd.C k40 w A0 l0.length l0) (hc0 : l0.length ≤ c0) (h : impl_Mat_57.f k l0 a1_0 a1_1 a1_2 a1_3 = some r) :
  Calls Try.prog 57 #[.slice A0 l0.length c0, .agg #[.int .i64 a1_0, .int .i64 a1_1, .int .i64 a1_2, .int .i64 a1_3]] w fun e w' => e = .returned (.bool r) ∧ Below w.heap.size w w' := by
 have hu40 := Try.underlying40
 have HR0 := Aside0.mk hr0
 have HC0 := Aside0.mk hc0
 clear hr0 hc0
 have HB := asd (Below.refl w.heap.size w)
 have H : ((impl_Mat_78.f k l0 a1_0 a1_1 a1_2 a1_3).bind fun t432 => (some (decide (t432 ≥ 0)))) = some r := h
 clear h
 obtain ⟨t432, A3, H⟩ := ob H
 try dsimp only at H
 obtain rfl := Option.some.inj H
 go_enter Try.func57, Try.ntmps57
 go_wp2_with (first | ((with_reducible refine gd 3 rfl ?_); refine bx #[.int .i64 a1_0, .int .i64 a1_1, .int .i64 a1_2, .int .i64 a1_3] 40 ?_; intro gb431 hg w4 BK431 hb; have GE431 := ngw0 hg HB; replace HB := bS0 HB hb; clear hb hg; obtain ⟨hcz5_0, hcz5_1, hcz5_2, hcz5_3, hfz5_0, hfz5_1, hfz5_2, hfz5_3⟩ := bz4 BK431) | ((with_reducible refine gate_callee (f := 78) rfl ?_); refine gl 7 Try.func78 #[.slice A0 l0.length c0, .agg #[.int .i64 a1_0, .int .i64 a1_1, .int .i64 a1_2, .int .i64 a1_3]] ?_; (with_reducible refine (impl_Mat_78.calls _ _ _ _ _ _ _ _ _ _ ?side1 ?side2 A3.out).mono ?_); (case side1 => exact ks (Kd.C_below HR0.out HB.out)); (case side2 => exact HC0.out); rintro e w6 ⟨rfl, hb⟩; refine ⟨_, rfl, ?_⟩; replace BK431 := bB BK431 hb; replace HB := bS1 HB GE431 hb; (try clear hb)))
 go_ret
 exact er (bbw1 HB GE431)
/-! ### impl_compareNumbers: function 90 -/
def impl_compareNumbers.l0 : Nat → List Int → List Int → Int → Int → Option (Int)
 | 0, _, _, _, _ => none
 | k + 1, x0, x1, x7, x8 => if x8 < x7 then (if 0 ≤ x8 then (if x8 < (x0.length : Int) then (if x8 < (x1.length : Int) then (if (rd x0 x8) = (rd x1 x8) then (impl_compareNumbers.l0 k x0 x1 x7 (wrap64 (x8 + 1))) else (if (rd x0 x8) < (rd x1 x8) then (some (-1)) else (some 1))) else (none)) else (none)) else (none)) else (some 0)
def impl_compareNumbers.f (k : Nat) (l0 : List Int) (l1 : List Int) : Option (Int) := impl_compareNumbers.l0 k l0 l1 (l0.length : Int) 0
set_option maxHeartbeats 8000000 in
set_option maxRecDepth 100000 in
theorem impl_compareNumbers.calls (k : Nat) (A0 : Option Addr) (c0 : Nat) (l0 : List Int) (A1 : Option Addr) (c1 : Nat) (l1 : List Int) (r : Int) (w : World) (hr0 : Kd.C (Kd.int .i64) w A0 l0.length l0) (hc0 : l0.length ≤ c0) (hr1 : Kd.C (Kd.int .i64) w A1 l1.length l1) (hc1 : l1.length ≤ c1) (h : impl_compareNumbers.f k l0 l1 = some r) :
  Calls Try.prog 90 #[.slice A0 l0.length c0, .slice A1 l1.length c1] w fun e w' => e = .returned (.int .i64 r) ∧ Drawn0 w w' := by
 have HR0 := Aside0.mk hr0
 have HC0 := Aside0.mk hc0
 clear hr0 hc0
 have HR1 := Aside0.mk hr1
 have HC1 := Aside0.mk hc1
 clear hr1 hc1
 have H : (impl_compareNumbers.l0 k l0 l1 (l0.length : Int) 0) = some r := h
 clear h
 have H' := Aside0.mk H
 clear H
 go_enter Try.func90, Try.ntmps90
 go_wp2
 repeat (go_quiet (fail); try go_wp2)
 go_loopg [8] k (fun kq v8 w' => ∃ (x8_1 : Int), v8 = .int .i64 x8_1 ∧ Aside0 (impl_compareNumbers.l0 kq l0 l1 (l0.length : Int) x8_1 = some r) ∧ Aside0 (kq ≤ k) ∧ Drawn0 w w')
 case atStart => exact ⟨(0), (by first | rfl | (simp; done) | (simp [*]; done)), H', ⟨Nat.le_refl _⟩, by repeat (first | exact Drawn0.refl _ | apply Drawn0.step)⟩
 case round =>
  clear H'
  try clear c1
  try clear p2
  obtain ⟨x8_1, rfl, HA, HK1, ⟨m1, rfl⟩⟩ := hrel
  cases gk with
  | zero => exact absurd HA.out (by simp [impl_compareNumbers.l0])
  | succ k1 =>
   have H := HA.out
   clear HA
   simp only [impl_compareNumbers.l0] at H
   by_cases c3 : x8_1 < (l0.length : Int)
   rw [if_pos c3] at H
   have c3b0 := decide_eq_true c3
   clear c3
   by_cases c4 : 0 ≤ x8_1
   rw [if_pos c4] at H
   have c4b0 := decide_eq_true c4
   clear c4
   by_cases c5 : x8_1 < (l0.length : Int)
   rw [if_pos c5] at H
   have c5b0 := decide_eq_true c5
   clear c5
   by_cases c6 : x8_1 < (l1.length : Int)
   rw [if_pos c6] at H
   have c6b0 := decide_eq_true c6
   clear c6
   by_cases c7 : (rd l0 x8_1) = (rd l1 x8_1)
   rw [if_pos c7] at H
   have c7b0 : ((rd l0 x8_1) == (rd l1 x8_1)) = true := beq_iff_eq.mpr c7
   have c7b1 : ((rd l0 x8_1) != (rd l1 x8_1)) = false := bne_eq_false_iff_eq.mpr c7
   clear c7
   have H' := Aside0.mk H
   clear H
   rotate_left
   rw [if_neg c7] at H
   have c7b0 : ((rd l0 x8_1) == (rd l1 x8_1)) = false := beq_eq_false_iff_ne.mpr c7
   have c7b1 : ((rd l0 x8_1) != (rd l1 x8_1)) = true := bne_iff_ne.mpr c7
   by_cases c8 : (rd l0 x8_1) < (rd l1 x8_1)
   rw [if_pos c8] at H
   have c8b0 := decide_eq_true c8
   clear c8
   obtain rfl := Option.some.inj H
   rotate_left
   rw [if_neg c8] at H
   have c8b0 := decide_eq_false c8
   clear c8
   obtain rfl := Option.some.inj H
   rotate_left
   ·rw [if_neg c6] at H
    exact absurd H (by simp)
   ·rw [if_neg c5] at H
    exact absurd H (by simp)
   ·rw [if_neg c4] at H
    exact absurd H (by simp)
   rw [if_neg c3] at H
   have c3b0 := decide_eq_false c3
   clear c3
   obtain rfl := Option.some.inj H
   rotate_left
   rotate_left 3
   ·go_wp2
    repeat (go_quiet (fail); try go_wp2)
    go_ret
    exact ⟨by first | rfl | (simp; done) | (simp [*]; done), by repeat (first | exact Drawn0.refl _ | apply Drawn0.step)⟩
   all_goals
    have p433 : 0 ≤ (x8_1 : Int) := od
    have q433 : x8_1 < (l0.length : Int) := od
    obtain ⟨ad433, e433, hx433_0⟩ := Kd.at_int HR0.out x8_1 p433 q433
    cases e433
    replace p433 := eq_true p433
    replace q433 := eq_true q433
    have p434 : 0 ≤ (x8_1 : Int) := od
    have q434 : x8_1 < (l1.length : Int) := od
    obtain ⟨ad434, e434, hx434_0⟩ := Kd.at_int HR1.out x8_1 p434 q434
    cases e434
    replace p434 := eq_true p434
    replace q434 := eq_true q434
   ·go_wp2
    repeat (go_quiet (fail); try go_wp2)
    go_roundg k1
    case measure => have := HK1.out; omega
    case rel => exact ⟨(wrap64 (x8_1 + 1)), (by first | rfl | (simp; done) | (simp [*]; done)), H', ⟨by have := HK1.out; omega⟩, by repeat (first | exact Drawn0.refl _ | apply Drawn0.step)⟩
   rotate_left 2
   all_goals
    have p435 : 0 ≤ (x8_1 : Int) := od
    have q435 : x8_1 < (l0.length : Int) := od
    obtain ⟨ad435, e435, hx435_0⟩ := Kd.at_int HR0.out x8_1 p435 q435
    obtain rfl : ad433 = ad435 := (by injection e435)
    replace p435 := eq_true p435
    replace q435 := eq_true q435
    have p436 : 0 ≤ (x8_1 : Int) := od
    have q436 : x8_1 < (l1.length : Int) := od
    obtain ⟨ad436, e436, hx436_0⟩ := Kd.at_int HR1.out x8_1 p436 q436
    obtain rfl : ad434 = ad436 := (by injection e436)
    replace p436 := eq_true p436
    replace q436 := eq_true q436
    go_wp2
    repeat (go_quiet (fail); try go_wp2)
    go_ret
    exact ⟨by first | rfl | (simp; done) | (simp [*]; done), by repeat (first | exact Drawn0.refl _ | apply Drawn0.step)⟩
/-! ### impl_compareMats: function 79 -/
def impl_compareMats.f (k : Nat) (a0_0 : Int) (a0_1 : Int) (a0_2 : Int) (a0_3 : Int) (a1_0 : Int) (a1_1 : Int) (a1_2 : Int) (a1_3 : Int) : Option (Int) := (impl_compareNumbers.f k (([a0_0, a0_1, a0_2, a0_3] : List Int)) (([a1_0, a1_1, a1_2, a1_3] : List Int))).bind fun t445 => (some t445)
set_option maxHeartbeats 8000000 in
set_option maxRecDepth 100000 in
theorem impl_compareMats.calls (k : Nat) (a0_0 : Int) (a0_1 : Int) (a0_2 : Int) (a0_3 : Int) (a1_0 : Int) (a1_1 : Int) (a1_2 : Int) (a1_3 : Int) (r : Int) (w : World) (h : impl_compareMats.f k a0_0 a0_1 a0_2 a0_3 a1_0 a1_1 a1_2 a1_3 = some r) :
  Calls Try.prog 79 #[.agg #[.int .i64 a0_0, .int .i64 a0_1, .int .i64 a0_2, .int .i64 a0_3], .agg #[.int .i64 a1_0, .int .i64 a1_1, .int .i64 a1_2, .int .i64 a1_3]] w fun e w' => e = .returned (.int .i64 r) ∧ Below w.heap.size w w' := by
 have hu40 := Try.underlying40
 have HB := asd (Below.refl w.heap.size w)
 have H : ((impl_compareNumbers.f k (([a0_0, a0_1, a0_2, a0_3] : List Int)) (([a1_0, a1_1, a1_2, a1_3] : List Int))).bind fun t445 => (some t445)) = some r := h
 clear h
 obtain ⟨y439, hy439⟩ : ∃ y_ : List Int, y_ = (([a0_0, a0_1, a0_2, a0_3] : List Int)) := ⟨_, rfl⟩
 replace H : ((impl_compareNumbers.f k y439 (([a1_0, a1_1, a1_2, a1_3] : List Int))).bind fun t445 => (some t445)) = some r := by first | (rw [hy439]; with_reducible exact H) | (have H2_ := (Option.bind_some _ _).symm.trans H; rw [hy439]; with_reducible exact H2_) | (have H2_ := (Option.bind_some _ _).symm.trans H; with_reducible exact H2_) | with_reducible exact H | (rw [hy439]; exact H) | exact H
 have Ny439 := Aside0.mk hy439
 clear hy439
 obtain ⟨y442, hy442⟩ : ∃ y_ : List Int, y_ = (([a1_0, a1_1, a1_2, a1_3] : List Int)) := ⟨_, rfl⟩
 replace H : ((impl_compareNumbers.f k y439 y442).bind fun t445 => (some t445)) = some r := by first | (rw [hy442]; with_reducible exact H) | (have H2_ := (Option.bind_some _ _).symm.trans H; rw [hy442]; with_reducible exact H2_) | (have H2_ := (Option.bind_some _ _).symm.trans H; with_reducible exact H2_) | with_reducible exact H | (rw [hy442]; exact H) | exact H
 have Ny442 := Aside0.mk hy442
 clear hy442
 obtain ⟨t445, A3, H⟩ := ob H
 try dsimp only at H
 obtain rfl := Option.some.inj H
 go_enter Try.func79, Try.ntmps79
 go_wp2_with (first | ((with_reducible refine gd 2 rfl ?_); refine bx #[.int .i64 a0_0, .int .i64 a0_1, .int .i64 a0_2, .int .i64 a0_3] 40 ?_; intro gb437 hg w4 BK437 hb; have GE437 := ngw0 hg HB; replace HB := bS0 HB hb; clear hb hg) | ((with_reducible refine gd 3 rfl ?_); refine bx #[.int .i64 a1_0, .int .i64 a1_1, .int .i64 a1_2, .int .i64 a1_3] 40 ?_; intro gb438 hg w5 BK438 hb; have GE438 := ngw1 hg HB GE437; replace HB := bS1 HB GE437 hb; have NB437_438 := nlt hg BK437; have NB438_437 := nsy (nlt hg BK437); replace BK437 := bB BK437 hb; clear hb hg; have hnb6 := NB437_438.out; have hnc6 := NB438_437.out; obtain ⟨hcz7_0, hcz7_1, hcz7_2, hcz7_3, hfz7_0, hfz7_1, hfz7_2, hfz7_3⟩ := bz4 BK437) | ((with_reducible refine gd 13 rfl ?_); refine Kd.R_lit (Kd.int .i64) _ 2 ?hg (N := 13) ?hd (xs := ([a0_0, a0_1, a0_2, a0_3] : List Int)) (inner := [.int .i64 a0_0, .int .i64 a0_1, .int .i64 a0_2, .int .i64 a0_3]) (ok := fun _ => True) (okp := fun _ => True) ?hr ?hp (fun _ hk => hk) trivial (Below.refl _ _) (Nat.le_refl _) (by simp) ?_; (case hd => rfl); (case hg => rfl); (case hr => first | (go_simp; done) | (go_simp; rfl)); (case hp => exact (Reps.one (show Kd.M (Kd.int .i64) _ _ _ a0_0 [.int .i64 a0_0] from rfl) (Reps.one (show Kd.M (Kd.int .i64) _ _ _ a0_1 [.int .i64 a0_1] from rfl) (Reps.one (show Kd.M (Kd.int .i64) _ _ _ a0_2 [.int .i64 a0_2] from rfl) (Reps.one (show Kd.M (Kd.int .i64) _ _ _ a0_3 [.int .i64 a0_3] from rfl) (Reps.none _ _)))))); intro v440 w8 ho9 hb hg_ hnew_; clear hg_ hnew_; (first | rw [← Ny439.out] at ho9 | (simp only [Int.reduceToNat] at ho9; rw [← Ny439.out] at ho9)); have HO441 := asd (Kd.R_lower ho9 (bsz2 HB GE437 GE438)); replace BK437 := bB BK437 hb; replace BK438 := bB BK438 hb; replace HB := bS2 HB GE437 GE438 hb; clear hb ho9; obtain ⟨hcz10_0, hcz10_1, hcz10_2, hcz10_3, hfz10_0, hfz10_1, hfz10_2, hfz10_3⟩ := bz4 BK438) | ((with_reducible refine gd 22 rfl ?_); refine Kd.R_lit (Kd.int .i64) _ 2 ?hg (N := 22) ?hd (xs := ([a1_0, a1_1, a1_2, a1_3] : List Int)) (inner := [.int .i64 a1_0, .int .i64 a1_1, .int .i64 a1_2, .int .i64 a1_3]) (ok := fun _ => True) (okp := fun _ => True) ?hr ?hp (fun _ hk => hk) trivial (Below.refl _ _) (Nat.le_refl _) (by simp) ?_; (case hd => rfl); (case hg => rfl); (case hr => first | (go_simp; done) | (go_simp; rfl)); (case hp => exact (Reps.one (show Kd.M (Kd.int .i64) _ _ _ a1_0 [.int .i64 a1_0] from rfl) (Reps.one (show Kd.M (Kd.int .i64) _ _ _ a1_1 [.int .i64 a1_1] from rfl) (Reps.one (show Kd.M (Kd.int .i64) _ _ _ a1_2 [.int .i64 a1_2] from rfl) (Reps.one (show Kd.M (Kd.int .i64) _ _ _ a1_3 [.int .i64 a1_3] from rfl) (Reps.none _ _)))))); intro v443 w11 ho12 hb hg_ hnew_; clear hg_ hnew_; (first | rw [← Ny442.out] at ho12 | (simp only [Int.reduceToNat] at ho12; rw [← Ny442.out] at ho12)); have HO444 := asd (Kd.R_lower (Kd.R_new' ho12 (Kd.R_lt (kr HO441))) (bsz2 HB GE437 GE438)); replace HO441 := asd (Kd.R_elder' (kr HO441) (Kd.R_base ho12) hb); replace BK437 := bB BK437 hb; replace BK438 := bB BK438 hb; replace HB := bS2 HB GE437 GE438 hb; clear hb ho12; obtain ⟨Ao13, co13, eo13⟩ := Kd.R_slice HO441.out; subst eo13; obtain ⟨Ao14, co14, eo14⟩ := Kd.R_slice HO444.out; subst eo14) | ((with_reducible refine gate_callee (f := 90) rfl ?_); refine gl 23 Try.func90 #[.slice Ao13 y439.length co13, .slice Ao14 y442.length co14] ?_; (with_reducible refine (impl_compareNumbers.calls _ _ _ _ _ _ _ _ _ ?side1 ?side2 ?side3 ?side4 A3.out).mono ?_); (case side1 => exact ks (Kd.R_reads' HO441.out).2.2); (case side2 => exact (Kd.R_reads' HO441.out).2.1); (case side3 => exact ks (Kd.R_reads' HO444.out).2.2); (case side4 => exact (Kd.R_reads' HO444.out).2.1); rintro e w' ⟨rfl, ⟨nd, rfl⟩⟩; refine ⟨_, rfl, ?_⟩))
 go_ret
 exact er (bbw2 HB GE437 GE438)
/-! ### impl_compareVecs: function 80 -/
def impl_compareVecs.f (k : Nat) (a0_0 : Int) (a0_1 : Int) (a1_0 : Int) (a1_1 : Int) : Option (Int) := (impl_compareNumbers.f k (([a0_0, a0_1] : List Int)) (([a1_0, a1_1] : List Int))).bind fun t454 => (some t454)
set_option maxHeartbeats 8000000 in
set_option maxRecDepth 100000 in
theorem impl_compareVecs.calls (k : Nat) (a0_0 : Int) (a0_1 : Int) (a1_0 : Int) (a1_1 : Int) (r : Int) (w : World) (h : impl_compareVecs.f k a0_0 a0_1 a1_0 a1_1 = some r) :
  Calls Try.prog 80 #[.agg #[.int .i64 a0_0, .int .i64 a0_1], .agg #[.int .i64 a1_0, .int .i64 a1_1]] w fun e w' => e = .returned (.int .i64 r) ∧ Below w.heap.size w w' := by
 have hu42 := Try.underlying42
 have HB := asd (Below.refl w.heap.size w)
 have H : ((impl_compareNumbers.f k (([a0_0, a0_1] : List Int)) (([a1_0, a1_1] : List Int))).bind fun t454 => (some t454)) = some r := h
 clear h
 obtain ⟨y448, hy448⟩ : ∃ y_ : List Int, y_ = (([a0_0, a0_1] : List Int)) := ⟨_, rfl⟩
 replace H : ((impl_compareNumbers.f k y448 (([a1_0, a1_1] : List Int))).bind fun t454 => (some t454)) = some r := by first | (rw [hy448]; with_reducible exact H) | (have H2_ := (Option.bind_some _ _).symm.trans H; rw [hy448]; with_reducible exact H2_) | (have H2_ := (Option.bind_some _ _).symm.trans H; with_reducible exact H2_) | with_reducible exact H | (rw [hy448]; exact H) | exact H
 have Ny448 := Aside0.mk hy448
 clear hy448
 obtain ⟨y451, hy451⟩ : ∃ y_ : List Int, y_ = (([a1_0, a1_1] : List Int)) := ⟨_, rfl⟩
 replace H : ((impl_compareNumbers.f k y448 y451).bind fun t454 => (some t454)) = some r := by first | (rw [hy451]; with_reducible exact H) | (have H2_ := (Option.bind_some _ _).symm.trans H; rw [hy451]; with_reducible exact H2_) | (have H2_ := (Option.bind_some _ _).symm.trans H; with_reducible exact H2_) | with_reducible exact H | (rw [hy451]; exact H) | exact H
 have Ny451 := Aside0.mk hy451
 clear hy451
 obtain ⟨t454, A3, H⟩ := ob H
 try dsimp only at H
 obtain rfl := Option.some.inj H
 go_enter Try.func80, Try.ntmps80
 go_wp2_with (first | ((with_reducible refine gd 2 rfl ?_); refine bx #[.int .i64 a0_0, .int .i64 a0_1] 42 ?_; intro gb446 hg w4 BK446 hb; have GE446 := ngw0 hg HB; replace HB := bS0 HB hb; clear hb hg) | ((with_reducible refine gd 3 rfl ?_); refine bx #[.int .i64 a1_0, .int .i64 a1_1] 42 ?_; intro gb447 hg w5 BK447 hb; have GE447 := ngw1 hg HB GE446; replace HB := bS1 HB GE446 hb; have NB446_447 := nlt hg BK446; have NB447_446 := nsy (nlt hg BK446); replace BK446 := bB BK446 hb; clear hb hg; have hnb6 := NB446_447.out; have hnc6 := NB447_446.out; obtain ⟨hcz7_0, hcz7_1, hfz7_0, hfz7_1⟩ := bz2 BK446) | ((with_reducible refine gd 9 rfl ?_); refine Kd.R_lit (Kd.int .i64) _ 2 ?hg (N := 9) ?hd (xs := ([a0_0, a0_1] : List Int)) (inner := [.int .i64 a0_0, .int .i64 a0_1]) (ok := fun _ => True) (okp := fun _ => True) ?hr ?hp (fun _ hk => hk) trivial (Below.refl _ _) (Nat.le_refl _) (by simp) ?_; (case hd => rfl); (case hg => rfl); (case hr => first | (go_simp; done) | (go_simp; rfl)); (case hp => exact (Reps.one (show Kd.M (Kd.int .i64) _ _ _ a0_0 [.int .i64 a0_0] from rfl) (Reps.one (show Kd.M (Kd.int .i64) _ _ _ a0_1 [.int .i64 a0_1] from rfl) (Reps.none _ _)))); intro v449 w8 ho9 hb hg_ hnew_; clear hg_ hnew_; (first | rw [← Ny448.out] at ho9 | (simp only [Int.reduceToNat] at ho9; rw [← Ny448.out] at ho9)); have HO450 := asd (Kd.R_lower ho9 (bsz2 HB GE446 GE447)); replace BK446 := bB BK446 hb; replace BK447 := bB BK447 hb; replace HB := bS2 HB GE446 GE447 hb; clear hb ho9; obtain ⟨hcz10_0, hcz10_1, hfz10_0, hfz10_1⟩ := bz2 BK447) | ((with_reducible refine gd 14 rfl ?_); refine Kd.R_lit (Kd.int .i64) _ 2 ?hg (N := 14) ?hd (xs := ([a1_0, a1_1] : List Int)) (inner := [.int .i64 a1_0, .int .i64 a1_1]) (ok := fun _ => True) (okp := fun _ => True) ?hr ?hp (fun _ hk => hk) trivial (Below.refl _ _) (Nat.le_refl _) (by simp) ?_; (case hd => rfl); (case hg => rfl); (case hr => first | (go_simp; done) | (go_simp; rfl)); (case hp => exact (Reps.one (show Kd.M (Kd.int .i64) _ _ _ a1_0 [.int .i64 a1_0] from rfl) (Reps.one (show Kd.M (Kd.int .i64) _ _ _ a1_1 [.int .i64 a1_1] from rfl) (Reps.none _ _)))); intro v452 w11 ho12 hb hg_ hnew_; clear hg_ hnew_; (first | rw [← Ny451.out] at ho12 | (simp only [Int.reduceToNat] at ho12; rw [← Ny451.out] at ho12)); have HO453 := asd (Kd.R_lower (Kd.R_new' ho12 (Kd.R_lt (kr HO450))) (bsz2 HB GE446 GE447)); replace HO450 := asd (Kd.R_elder' (kr HO450) (Kd.R_base ho12) hb); replace BK446 := bB BK446 hb; replace BK447 := bB BK447 hb; replace HB := bS2 HB GE446 GE447 hb; clear hb ho12; obtain ⟨Ao13, co13, eo13⟩ := Kd.R_slice HO450.out; subst eo13; obtain ⟨Ao14, co14, eo14⟩ := Kd.R_slice HO453.out; subst eo14) | ((with_reducible refine gate_callee (f := 90) rfl ?_); refine gl 15 Try.func90 #[.slice Ao13 y448.length co13, .slice Ao14 y451.length co14] ?_; (with_reducible refine (impl_compareNumbers.calls _ _ _ _ _ _ _ _ _ ?side1 ?side2 ?side3 ?side4 A3.out).mono ?_); (case side1 => exact ks (Kd.R_reads' HO450.out).2.2); (case side2 => exact (Kd.R_reads' HO450.out).2.1); (case side3 => exact ks (Kd.R_reads' HO453.out).2.2); (case side4 => exact (Kd.R_reads' HO453.out).2.1); rintro e w' ⟨rfl, ⟨nd, rfl⟩⟩; refine ⟨_, rfl, ?_⟩))
 go_ret
 exact er (bbw2 HB GE446 GE447)

end Go.Proofs.Ytfmjboloeabjmaa.PA
