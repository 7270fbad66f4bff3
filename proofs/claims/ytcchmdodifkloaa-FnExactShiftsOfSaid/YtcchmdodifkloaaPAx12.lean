/- Walks written by program: each Go function that the law reaches comes to the plain function beside it. -/
import Derived.Test.YtcchmdodifkloaaPAx0
import Derived.Test.YtcchmdodifkloaaPAx2
import Derived.Test.YtcchmdodifkloaaPAx3
import Derived.Test.YtcchmdodifkloaaPAx10
namespace Go.Proofs.Ytcchmdodifkloaa.PA
open Go.RowKit Go.Proofs.YtcchmdodifkloaaW.PrintWords Go.Proofs.YtcchmdodifkloaaW.PrintLast Go.Proofs.YtcchmdodifkloaaW.PrintMore
attribute [local go_sem] max2_int min2_int max_two min_two max_three min_three max_four min_four   -- for this text's walks alone
set_option linter.unusedVariables false
set_option linter.unusedSimpArgs false

attribute [local go_sem high] eqA53
/-! ### impl_pointMats: function 112 -/
def impl_pointMats.l0 : Nat → Int → List (S51) → Int → Option ((List (S51)))
 | 0, _, _, _ => none
 | k + 1, x0, x3, x10 => if x10 < 81 then ((impl_Mat_apply.f (wrap64 ((wrap64 (Int.tdiv x10 27)) - 1)) (wrap64 ((Int.tmod (wrap64 (Int.tdiv x10 9)) 3) - 1)) (wrap64 ((Int.tmod (wrap64 (Int.tdiv x10 3)) 3) - 1)) (wrap64 ((Int.tmod x10 3) - 1)) 1 0).bind fun bt394 => ((impl_Mat_apply.f (wrap64 ((wrap64 (Int.tdiv x10 27)) - 1)) (wrap64 ((Int.tmod (wrap64 (Int.tdiv x10 9)) 3) - 1)) (wrap64 ((Int.tmod (wrap64 (Int.tdiv x10 3)) 3) - 1)) (wrap64 ((Int.tmod x10 3) - 1)) 0 1).bind fun bt396 => ((impl_Mat_apply.f (wrap64 ((wrap64 (Int.tdiv x10 27)) - 1)) (wrap64 ((Int.tmod (wrap64 (Int.tdiv x10 9)) 3) - 1)) (wrap64 ((Int.tmod (wrap64 (Int.tdiv x10 3)) 3) - 1)) (wrap64 ((Int.tmod x10 3) - 1)) 1 1).bind fun bt398 => ((impl_norm.f x0 bt394.1 bt394.2).bind fun t403 => (if t403 = 1 then ((impl_norm.f x0 bt396.1 bt396.2).bind fun t404 => (if t404 = 1 then ((impl_norm.f x0 bt398.1 bt398.2).bind fun t405 => (if t405 = (wrap64 (2 + x0)) then (if x3.length < 4398046511104 then (impl_pointMats.l0 k x0 (x3 ++ [(⟨wrap64 ((wrap64 (Int.tdiv x10 27)) - 1), wrap64 ((Int.tmod (wrap64 (Int.tdiv x10 9)) 3) - 1), wrap64 ((Int.tmod (wrap64 (Int.tdiv x10 3)) 3) - 1), wrap64 ((Int.tmod x10 3) - 1)⟩ : S51)]) (wrap64 (x10 + 1))) else (none)) else (impl_pointMats.l0 k x0 x3 (wrap64 (x10 + 1))))) else (impl_pointMats.l0 k x0 x3 (wrap64 (x10 + 1))))) else (impl_pointMats.l0 k x0 x3 (wrap64 (x10 + 1)))))))) else (some x3)
def impl_pointMats.f (k : Nat) (a0 : Int) : Option ((List (S51))) := impl_pointMats.l0 k a0 (([] : List (S51))) 0
def impl_pointMats.T6 : Bool × List (List Nat × List Nat) := (true, [([], []), ([], []), ([0, 1], [0, 1]), ([], []), ([], []), ([3, 4, 2], [3, 4]), ([], []), ([], []), ([6, 7, 5], [6, 7]), ([], []), ([], []), ([], []), ([9, 2, 8, 0, 1, 2, 9, 10, 11], [2, 9]), ([10, 5, 12, 0, 1, 2, 3, 4, 5, 9, 10, 11, 12], [5, 10]), ([11, 8, 13, 0, 1, 2, 3, 4, 5, 6, 7, 8, 9, 10, 11, 12, 13], [8, 11])])
def impl_pointMats.B6 : List Nat := [0, 0, 3, 0, 0, 31, 0, 0, 255, 0, 0, 0, 4095, 8191, 16383]
theorem impl_pointMats.tab6 : rtab .any (opsOf Try.f112 6) = impl_pointMats.T6 := by kernel_rfl
theorem impl_pointMats.bits6 : waitsOk impl_pointMats.T6.2 impl_pointMats.B6 = true := by kernel_rfl
set_option maxHeartbeats 8000000 in
set_option maxRecDepth 100000 in
theorem impl_pointMats.calls (k : Nat) (a0 : Int) (r : List (S51)) (w : World) (h : impl_pointMats.f k a0 = some r) :
  Calls Try.prog 112 #[.int .i64 a0] w fun e w' => ∃ v0_ : Value, e = .returned (v0_) ∧ Kd.R k51 51 w' w.heap.size (fun _ => True) v0_ r ∧ Below w.heap.size w w' := by
 have hu51 := Try.underlying51
 have hu53 := Try.underlying53
 have HB := asd (Below.refl w.heap.size w)
 have H : (impl_pointMats.l0 k a0 (([] : List (S51))) 0) = some r := h
 clear h
 obtain ⟨y390, hy390⟩ : ∃ y_ : List (S51), y_ = (([] : List (S51))) := ⟨_, rfl⟩
 replace H : (impl_pointMats.l0 k a0 y390 0) = some r := by first | (rw [hy390]; with_reducible exact H) | (have H2_ := (Option.bind_some _ _).symm.trans H; rw [hy390]; with_reducible exact H2_) | (have H2_ := (Option.bind_some _ _).symm.trans H; with_reducible exact H2_) | with_reducible exact H | (rw [hy390]; exact H) | exact H
 have Ny390 := Aside0.mk hy390
 clear hy390
 have H' := Aside0.mk H
 clear H
 go_enter Try.func112, Try.ntmps112
 go_wp2_with (first | ((with_reducible refine gd 9 rfl ?_); refine Kd.R_lit k51 _ 51 ?hg (N := 9) ?hd (xs := ([] : List (S51))) (inner := []) (ok := fun _ => True) (okp := fun _ => True) ?hr ?hp (fun _ hk => hk) trivial (Below.refl _ _) (Nat.le_refl _) (by simp) ?_; (case hd => rfl); (case hg => rfl); (case hr => first | (go_simp; done) | (go_simp; rfl)); (case hp => exact (Reps.none _ _)); intro v391 w2 ho3 hb hg_ hnew_; clear hg_ hnew_; (first | rw [← Ny390.out] at ho3 | (simp only [Int.reduceToNat] at ho3; rw [← Ny390.out] at ho3)); have HO392 := asd (Kd.R_lower ho3 (bsz0 HB)); replace HB := bS0 HB hb; clear hb ho3))
 go_loopg [3, 10] k (fun kq v3 v10 w' => ∃ (x3_1 : List (S51)) (x10_1 : Int), v10 = .int .i64 x10_1 ∧ Aside0 (impl_pointMats.l0 kq a0 x3_1 x10_1 = some r) ∧ Aside0 (kq ≤ k) ∧ Aside0 (Kd.R k51 51 w' w.heap.size (fun _ => True) v3 x3_1) ∧ Aside0 (Below w.heap.size w w'))
 case atStart => exact ⟨(y390), (0), (by first | rfl | (simp; done) | (simp [*]; done)), H', ⟨Nat.le_refl _⟩, ⟨by (with_reducible repeat (first | apply Kd.R_alloc | apply Kd.R_drewN | apply Kd.R_drew)); exact HO392.out⟩, ⟨bbw0 HB⟩⟩
 case round =>
  clear H'
  try clear c1
  try clear p2
  obtain ⟨x3_1, x10_1, rfl, HA, HK1, HO_3, HB⟩ := hrel
  cases gk with
  | zero => exact absurd HA.out (by simp [impl_pointMats.l0])
  | succ k1 =>
   have H := HA.out
   clear HA
   simp only [impl_pointMats.l0] at H
   by_cases c4 : x10_1 < 81
   ·rw [if_pos c4] at H
    have c4b0 : decide (x10_1 < 81) = true := decide_eq_true c4
    clear c4
    obtain ⟨⟨t394, t395⟩, A5, H⟩ := ob H
    replace H : ((impl_Mat_apply.f (wrap64 ((wrap64 (Int.tdiv x10_1 27)) - 1)) (wrap64 ((Int.tmod (wrap64 (Int.tdiv x10_1 9)) 3) - 1)) (wrap64 ((Int.tmod (wrap64 (Int.tdiv x10_1 3)) 3) - 1)) (wrap64 ((Int.tmod x10_1 3) - 1)) 0 1).bind fun bt396 => ((impl_Mat_apply.f (wrap64 ((wrap64 (Int.tdiv x10_1 27)) - 1)) (wrap64 ((Int.tmod (wrap64 (Int.tdiv x10_1 9)) 3) - 1)) (wrap64 ((Int.tmod (wrap64 (Int.tdiv x10_1 3)) 3) - 1)) (wrap64 ((Int.tmod x10_1 3) - 1)) 1 1).bind fun bt398 => ((impl_norm.f a0 t394 t395).bind fun t403 => (if t403 = 1 then ((impl_norm.f a0 bt396.1 bt396.2).bind fun t404 => (if t404 = 1 then ((impl_norm.f a0 bt398.1 bt398.2).bind fun t405 => (if t405 = (wrap64 (2 + a0)) then (if x3_1.length < 4398046511104 then (impl_pointMats.l0 k1 a0 (x3_1 ++ [(⟨wrap64 ((wrap64 (Int.tdiv x10_1 27)) - 1), wrap64 ((Int.tmod (wrap64 (Int.tdiv x10_1 9)) 3) - 1), wrap64 ((Int.tmod (wrap64 (Int.tdiv x10_1 3)) 3) - 1), wrap64 ((Int.tmod x10_1 3) - 1)⟩ : S51)]) (wrap64 (x10_1 + 1))) else (none)) else (impl_pointMats.l0 k1 a0 x3_1 (wrap64 (x10_1 + 1))))) else (impl_pointMats.l0 k1 a0 x3_1 (wrap64 (x10_1 + 1))))) else (impl_pointMats.l0 k1 a0 x3_1 (wrap64 (x10_1 + 1))))))) = some r := H
    obtain ⟨⟨t396, t397⟩, A6, H⟩ := ob H
    replace H : ((impl_Mat_apply.f (wrap64 ((wrap64 (Int.tdiv x10_1 27)) - 1)) (wrap64 ((Int.tmod (wrap64 (Int.tdiv x10_1 9)) 3) - 1)) (wrap64 ((Int.tmod (wrap64 (Int.tdiv x10_1 3)) 3) - 1)) (wrap64 ((Int.tmod x10_1 3) - 1)) 1 1).bind fun bt398 => ((impl_norm.f a0 t394 t395).bind fun t403 => (if t403 = 1 then ((impl_norm.f a0 t396 t397).bind fun t404 => (if t404 = 1 then ((impl_norm.f a0 bt398.1 bt398.2).bind fun t405 => (if t405 = (wrap64 (2 + a0)) then (if x3_1.length < 4398046511104 then (impl_pointMats.l0 k1 a0 (x3_1 ++ [(⟨wrap64 ((wrap64 (Int.tdiv x10_1 27)) - 1), wrap64 ((Int.tmod (wrap64 (Int.tdiv x10_1 9)) 3) - 1), wrap64 ((Int.tmod (wrap64 (Int.tdiv x10_1 3)) 3) - 1), wrap64 ((Int.tmod x10_1 3) - 1)⟩ : S51)]) (wrap64 (x10_1 + 1))) else (none)) else (impl_pointMats.l0 k1 a0 x3_1 (wrap64 (x10_1 + 1))))) else (impl_pointMats.l0 k1 a0 x3_1 (wrap64 (x10_1 + 1))))) else (impl_pointMats.l0 k1 a0 x3_1 (wrap64 (x10_1 + 1)))))) = some r := H
    obtain ⟨⟨t398, t399⟩, A7, H⟩ := ob H
    replace H : ((impl_norm.f a0 t394 t395).bind fun t403 => (if t403 = 1 then ((impl_norm.f a0 t396 t397).bind fun t404 => (if t404 = 1 then ((impl_norm.f a0 t398 t399).bind fun t405 => (if t405 = (wrap64 (2 + a0)) then (if x3_1.length < 4398046511104 then (impl_pointMats.l0 k1 a0 (x3_1 ++ [(⟨wrap64 ((wrap64 (Int.tdiv x10_1 27)) - 1), wrap64 ((Int.tmod (wrap64 (Int.tdiv x10_1 9)) 3) - 1), wrap64 ((Int.tmod (wrap64 (Int.tdiv x10_1 3)) 3) - 1), wrap64 ((Int.tmod x10_1 3) - 1)⟩ : S51)]) (wrap64 (x10_1 + 1))) else (none)) else (impl_pointMats.l0 k1 a0 x3_1 (wrap64 (x10_1 + 1))))) else (impl_pointMats.l0 k1 a0 x3_1 (wrap64 (x10_1 + 1))))) else (impl_pointMats.l0 k1 a0 x3_1 (wrap64 (x10_1 + 1))))) = some r := H
    have Hq_ := Aside0.mk H
    clear H
    try go_wp2_with (first | ((with_reducible refine gd 5 rfl ?_); refine bx #[.int .i64 0, .int .i64 0, .int .i64 0, .int .i64 0] 51 ?_; intro gb393 hg w15 BK393 hb; replace HO_3 := asd (Kd.R_below (Kd.R_elderB (kr HO_3) gb393 (Nat.le_of_eq hg.symm)) hb); have GE393 := ngw0 hg HB; replace HB := bS0 HB hb; clear hb hg; obtain ⟨hcz16_0, hcz16_1, hcz16_2, hcz16_3, hfz16_0, hfz16_1, hfz16_2, hfz16_3⟩ := bz4 BK393))
    obtain ⟨w17, h_w17⟩ : ∃ w_, ((((w15.setCell ⟨gb393, 0, none⟩ (.int .i64 (wrap64 ((wrap64 (Int.tdiv x10_1 27)) - 1)))).setCell ⟨gb393, 1, none⟩ (.int .i64 (wrap64 ((Int.tmod (wrap64 (Int.tdiv x10_1 9)) 3) - 1)))).setCell ⟨gb393, 2, none⟩ (.int .i64 (wrap64 ((Int.tmod (wrap64 (Int.tdiv x10_1 3)) 3) - 1)))).setCell ⟨gb393, 3, none⟩ (.int .i64 (wrap64 ((Int.tmod x10_1 3) - 1)))) = w_ := ⟨_, rfl⟩
    replace HO_3 : Aside0 (Kd.R k51 51 w17 w.heap.size (fun k_ => k_ ≠ gb393) u3 x3_1) := by rw [← h_w17]; exact ⟨by (with_reducible repeat (first | apply Kd.R_alloc | apply Kd.R_drewN | apply Kd.R_drew)); exact Kd.R_mono (rw4 (Kd.R_mono HO_3.out (fun k_ hk => (⟨hk, hk.2⟩ : _ ∧ k_ ≠ gb393)))) (fun _ hk => hk.1.2)⟩
    replace BK393 : Aside0 (w17.heap[gb393]? = some (.cells #[.int .i64 (wrap64 ((wrap64 (Int.tdiv x10_1 27)) - 1)), .int .i64 (wrap64 ((Int.tmod (wrap64 (Int.tdiv x10_1 9)) 3) - 1)), .int .i64 (wrap64 ((Int.tmod (wrap64 (Int.tdiv x10_1 3)) 3) - 1)), .int .i64 (wrap64 ((Int.tmod x10_1 3) - 1))] 51 (0, 0))) := by rw [← h_w17]; exact ⟨bq0 BK393⟩
    replace HB : Aside0 (Below w.heap.size w w17) := by rw [← h_w17]; exact ⟨bbw1 HB GE393⟩
    (try rw [h_w17]); clear h_w17
    replace HO_3 := asd (Kd.R_drew HO_3.out)
    replace BK393 := asd (blk_drew BK393.out)
    replace HB := asd (below_drew1 HB.out)
    refine start_ (n := 15) (S := fun w' => True) (ds := []) (bt 15 0) (by kernel_rfl) rfl rfl trivial (fun hHeld => ?_); refine with_tabW impl_pointMats.tab6 impl_pointMats.bits6 (fun HT_ HW_ => ?_)
    generalize w17.drew = w18 at HO_3 BK393 HB hHeld ⊢
    refine inv_at [0, 1, 2, 3, 4, 5, 6, 7, 8, 9, 10, 11, 12, 13, 14] (fun a0_ b a w' => ∃ (gb400 : Nat) (gb401 : Nat) (gb402 : Nat) (m9_ : Value) (m10_ : Value) (m11_ : Value), a = putSel a0_ b [(0, 28, .agg #[.int .i64 (wrap64 ((wrap64 (Int.tdiv x10_1 27)) - 1)), .int .i64 (wrap64 ((Int.tmod (wrap64 (Int.tdiv x10_1 9)) 3) - 1)), .int .i64 (wrap64 ((Int.tmod (wrap64 (Int.tdiv x10_1 3)) 3) - 1)), .int .i64 (wrap64 ((Int.tmod x10_1 3) - 1))]), (1, 29, .agg #[.int .i64 1, .int .i64 0]), (2, 30, .agg #[.int .i64 t394, .int .i64 t395]), (3, 31, .agg #[.int .i64 (wrap64 ((wrap64 (Int.tdiv x10_1 27)) - 1)), .int .i64 (wrap64 ((Int.tmod (wrap64 (Int.tdiv x10_1 9)) 3) - 1)), .int .i64 (wrap64 ((Int.tmod (wrap64 (Int.tdiv x10_1 3)) 3) - 1)), .int .i64 (wrap64 ((Int.tmod x10_1 3) - 1))]), (4, 32, .agg #[.int .i64 0, .int .i64 1]), (5, 33, .agg #[.int .i64 t396, .int .i64 t397]), (6, 34, .agg #[.int .i64 (wrap64 ((wrap64 (Int.tdiv x10_1 27)) - 1)), .int .i64 (wrap64 ((Int.tmod (wrap64 (Int.tdiv x10_1 9)) 3) - 1)), .int .i64 (wrap64 ((Int.tmod (wrap64 (Int.tdiv x10_1 3)) 3) - 1)), .int .i64 (wrap64 ((Int.tmod x10_1 3) - 1))]), (7, 35, .agg #[.int .i64 1, .int .i64 1]), (8, 36, .agg #[.int .i64 t398, .int .i64 t399]), (9, 6, m9_), (10, 7, m10_), (11, 8, m11_)] ∧ (Kd.R k51 51 w' w.heap.size (fun k_ => k_ ≠ gb393) u3 x3_1) ∧ (w'.heap[gb393]? = some (.cells #[.int .i64 (wrap64 ((wrap64 (Int.tdiv x10_1 27)) - 1)), .int .i64 (wrap64 ((Int.tmod (wrap64 (Int.tdiv x10_1 9)) 3) - 1)), .int .i64 (wrap64 ((Int.tmod (wrap64 (Int.tdiv x10_1 3)) 3) - 1)), .int .i64 (wrap64 ((Int.tmod x10_1 3) - 1))] 51 (0, 0))) ∧ (Below w.heap.size w w') ∧ (b 9 = true → b 10 = true → gb401 ≠ gb400) ∧ (b 9 = true → b 10 = true → gb400 ≠ gb401) ∧ (b 9 = true → b 11 = true → gb402 ≠ gb400) ∧ (b 9 = true → b 11 = true → gb400 ≠ gb402) ∧ (b 10 = true → b 11 = true → gb402 ≠ gb401) ∧ (b 10 = true → b 11 = true → gb401 ≠ gb402) ∧ (b 9 = true → b 12 = false → w'.heap[gb400]? = some (.cells #[.int .i64 0, .int .i64 0] 53 (0, 0))) ∧ (b 9 = true → w.heap.size ≤ gb400) ∧ (b 9 = true → w.heap.size ≤ gb400) ∧ (b 9 = true → gb393 ≠ gb400) ∧ (b 9 = true → gb400 ≠ gb393) ∧ (b 10 = true → b 13 = false → w'.heap[gb401]? = some (.cells #[.int .i64 0, .int .i64 0] 53 (0, 0))) ∧ (b 10 = true → w.heap.size ≤ gb401) ∧ (b 10 = true → w.heap.size ≤ gb401) ∧ (b 10 = true → gb393 ≠ gb401) ∧ (b 10 = true → gb401 ≠ gb393) ∧ (b 11 = true → b 14 = false → w'.heap[gb402]? = some (.cells #[.int .i64 0, .int .i64 0] 53 (0, 0))) ∧ (b 11 = true → w.heap.size ≤ gb402) ∧ (b 11 = true → w.heap.size ≤ gb402) ∧ (b 11 = true → gb393 ≠ gb402) ∧ (b 11 = true → gb402 ≠ gb393) ∧ (b 12 = true → w'.heap[gb400]? = some (.cells #[.int .i64 t394, .int .i64 t395] 53 (0, 0))) ∧ (b 13 = true → w'.heap[gb401]? = some (.cells #[.int .i64 t396, .int .i64 t397] 53 (0, 0))) ∧ (b 14 = true → w'.heap[gb402]? = some (.cells #[.int .i64 t398, .int .i64 t399] 53 (0, 0))) ∧ (b 9 = true → (m9_ : Value) = .pointer (some ⟨gb400, 0, none⟩)) ∧ (b 10 = true → (m10_ : Value) = .pointer (some ⟨gb401, 0, none⟩)) ∧ (b 11 = true → (m11_ : Value) = .pointer (some ⟨gb402, 0, none⟩))) HT_.out HW_.out (by kernel_rfl) (by kernel_rfl) ?_ ?_ ?_
    ·exact ⟨0, 0, 0, .bool false, .bool false, .bool false, by simp only [putSel, Bool.false_eq_true, if_false], HO_3.out, BK393.out, HB.out, fun h_ => absurd h_ (by decide), fun h_ => absurd h_ (by decide), fun h_ => absurd h_ (by decide), fun h_ => absurd h_ (by decide), fun h_ => absurd h_ (by decide), fun h_ => absurd h_ (by decide), fun h_ => absurd h_ (by decide), fun h_ => absurd h_ (by decide), fun h_ => absurd h_ (by decide), fun h_ => absurd h_ (by decide), fun h_ => absurd h_ (by decide), fun h_ => absurd h_ (by decide), fun h_ => absurd h_ (by decide), fun h_ => absurd h_ (by decide), fun h_ => absurd h_ (by decide), fun h_ => absurd h_ (by decide), fun h_ => absurd h_ (by decide), fun h_ => absurd h_ (by decide), fun h_ => absurd h_ (by decide), fun h_ => absurd h_ (by decide), fun h_ => absurd h_ (by decide), fun h_ => absurd h_ (by decide), fun h_ => absurd h_ (by decide), fun h_ => absurd h_ (by decide), fun h_ => absurd h_ (by decide), fun h_ => absurd h_ (by decide), fun h_ => absurd h_ (by decide)⟩
    ·skip
     clear BK393 HB HO_3
     refine steps_cons ?_ ?_
     ·rintro b a w' ⟨gb400, gb401, gb402, m9_, m10_, m11_, ha, Q_HO_3, Q_BK393, Q_HB, Q_NB401_400, Q_NB400_401, Q_NB402_400, Q_NB400_402, Q_NB402_401, Q_NB401_402, Q_BK400, Q_GW400, Q_GE400, Q_NB393_400, Q_NB400_393, Q_BK401, Q_GW401, Q_GE401, Q_NB393_401, Q_NB401_393, Q_BK402, Q_GW402, Q_GE402, Q_NB393_402, Q_NB402_393, Q_BK400_e12, Q_BK401_e13, Q_BK402_e14, Q_X9_, Q_X10_, Q_X11_⟩ hb_ hon hoff
      refine ⟨_, rfl, fun K hK => ?_⟩
      have e5 : a.tmps[5]? = some (.pointer (some ⟨gb393, 0, none⟩)) := by rw [ha]; exact (putSel_off rfl).trans rfl
      replace ha := Aside0.mk ha
      have HO_3 := Aside0.mk Q_HO_3
      have BK393 := Aside0.mk Q_BK393
      have HB := Aside0.mk Q_HB
      have hc0_ : w'.cell? ⟨gb393, 0, none⟩ = some (.int .i64 (wrap64 ((wrap64 (Int.tdiv x10_1 27)) - 1))) := bcl BK393 0
      have hc1_ : w'.cell? ⟨gb393, 1, none⟩ = some (.int .i64 (wrap64 ((Int.tmod (wrap64 (Int.tdiv x10_1 9)) 3) - 1))) := bcl BK393 1
      have hc2_ : w'.cell? ⟨gb393, 2, none⟩ = some (.int .i64 (wrap64 ((Int.tmod (wrap64 (Int.tdiv x10_1 3)) 3) - 1))) := bcl BK393 2
      have hc3_ : w'.cell? ⟨gb393, 3, none⟩ = some (.int .i64 (wrap64 ((Int.tmod x10_1 3) - 1))) := bcl BK393 3
      refine value_ (w1 := w') (v := .agg #[.int .i64 (wrap64 ((wrap64 (Int.tdiv x10_1 27)) - 1)), .int .i64 (wrap64 ((Int.tmod (wrap64 (Int.tdiv x10_1 9)) 3) - 1)), .int .i64 (wrap64 ((Int.tmod (wrap64 (Int.tdiv x10_1 3)) 3) - 1)), .int .i64 (wrap64 ((Int.tmod x10_1 3) - 1))]) (by rfl) rfl ?_ ?_
      ·go_simp
       (try simp only [i64_w])
       try rfl
      refine hK.out _ _ ⟨gb400, gb401, gb402, m9_, m10_, m11_, (by rw [ha.out]; exact putSel_upk 0 hb_ rfl rfl rfl), Q_HO_3, Q_BK393, Q_HB, Q_NB401_400, Q_NB400_401, Q_NB402_400, Q_NB400_402, Q_NB402_401, Q_NB401_402, Q_BK400, Q_GW400, Q_GE400, Q_NB393_400, Q_NB400_393, Q_BK401, Q_GW401, Q_GE401, Q_NB393_401, Q_NB401_393, Q_BK402, Q_GW402, Q_GE402, Q_NB393_402, Q_NB402_393, fun h0_ => absurd ((hoff 12 (by kernel_rfl)).symm.trans h0_) (by decide), fun h0_ => absurd ((hoff 13 (by kernel_rfl)).symm.trans h0_) (by decide), fun h0_ => absurd ((hoff 14 (by kernel_rfl)).symm.trans h0_) (by decide), Q_X9_, Q_X10_, Q_X11_⟩
     refine steps_cons ?_ ?_
     ·rintro b a w' ⟨gb400, gb401, gb402, m9_, m10_, m11_, ha, Q_HO_3, Q_BK393, Q_HB, Q_NB401_400, Q_NB400_401, Q_NB402_400, Q_NB400_402, Q_NB402_401, Q_NB401_402, Q_BK400, Q_GW400, Q_GE400, Q_NB393_400, Q_NB400_393, Q_BK401, Q_GW401, Q_GE401, Q_NB393_401, Q_NB401_393, Q_BK402, Q_GW402, Q_GE402, Q_NB393_402, Q_NB402_393, Q_BK400_e12, Q_BK401_e13, Q_BK402_e14, Q_X9_, Q_X10_, Q_X11_⟩ hb_ hon hoff
      refine ⟨_, rfl, fun K hK => ?_⟩
      replace ha := Aside0.mk ha
      have HO_3 := Aside0.mk Q_HO_3
      have BK393 := Aside0.mk Q_BK393
      have HB := Aside0.mk Q_HB
      refine value_ (w1 := w') (v := .agg #[.int .i64 1, .int .i64 0]) (by rfl) rfl ?_ ?_
      ·go_simp
       (try simp only [i64_w])
       try rfl
      refine hK.out _ _ ⟨gb400, gb401, gb402, m9_, m10_, m11_, (by rw [ha.out]; exact putSel_upk 1 hb_ rfl rfl rfl), Q_HO_3, Q_BK393, Q_HB, Q_NB401_400, Q_NB400_401, Q_NB402_400, Q_NB400_402, Q_NB402_401, Q_NB401_402, Q_BK400, Q_GW400, Q_GE400, Q_NB393_400, Q_NB400_393, Q_BK401, Q_GW401, Q_GE401, Q_NB393_401, Q_NB401_393, Q_BK402, Q_GW402, Q_GE402, Q_NB393_402, Q_NB402_393, fun h0_ => absurd ((hoff 12 (by kernel_rfl)).symm.trans h0_) (by decide), fun h0_ => absurd ((hoff 13 (by kernel_rfl)).symm.trans h0_) (by decide), fun h0_ => absurd ((hoff 14 (by kernel_rfl)).symm.trans h0_) (by decide), Q_X9_, Q_X10_, Q_X11_⟩
     refine steps_cons ?_ ?_
     ·rintro b a w' ⟨gb400, gb401, gb402, m9_, m10_, m11_, ha, Q_HO_3, Q_BK393, Q_HB, Q_NB401_400, Q_NB400_401, Q_NB402_400, Q_NB400_402, Q_NB402_401, Q_NB401_402, Q_BK400, Q_GW400, Q_GE400, Q_NB393_400, Q_NB400_393, Q_BK401, Q_GW401, Q_GE401, Q_NB393_401, Q_NB401_393, Q_BK402, Q_GW402, Q_GE402, Q_NB393_402, Q_NB402_393, Q_BK400_e12, Q_BK401_e13, Q_BK402_e14, Q_X9_, Q_X10_, Q_X11_⟩ hb_ hon hoff
      refine ⟨_, rfl, fun K hK => ?_⟩
      have e28 : a.tmps[28]? = some (.agg #[.int .i64 (wrap64 ((wrap64 (Int.tdiv x10_1 27)) - 1)), .int .i64 (wrap64 ((Int.tmod (wrap64 (Int.tdiv x10_1 9)) 3) - 1)), .int .i64 (wrap64 ((Int.tmod (wrap64 (Int.tdiv x10_1 3)) 3) - 1)), .int .i64 (wrap64 ((Int.tmod x10_1 3) - 1))]) := by rw [ha]; exact putSel_on (e := (0, 28, .agg #[.int .i64 (wrap64 ((wrap64 (Int.tdiv x10_1 27)) - 1)), .int .i64 (wrap64 ((Int.tmod (wrap64 (Int.tdiv x10_1 9)) 3) - 1)), .int .i64 (wrap64 ((Int.tmod (wrap64 (Int.tdiv x10_1 3)) 3) - 1)), .int .i64 (wrap64 ((Int.tmod x10_1 3) - 1))])) 0 rfl rfl (hon 0 (by kernel_rfl)) rfl
      have e29 : a.tmps[29]? = some (.agg #[.int .i64 1, .int .i64 0]) := by rw [ha]; exact putSel_on (e := (1, 29, .agg #[.int .i64 1, .int .i64 0])) 1 rfl rfl (hon 1 (by kernel_rfl)) rfl
      replace ha := Aside0.mk ha
      have HO_3 := Aside0.mk Q_HO_3
      have BK393 := Aside0.mk Q_BK393
      have HB := Aside0.mk Q_HB
      refine goes_ Try.func81 (by kernel_rfl) rfl #[.agg #[.int .i64 (wrap64 ((wrap64 (Int.tdiv x10_1 27)) - 1)), .int .i64 (wrap64 ((Int.tmod (wrap64 (Int.tdiv x10_1 9)) 3) - 1)), .int .i64 (wrap64 ((Int.tmod (wrap64 (Int.tdiv x10_1 3)) 3) - 1)), .int .i64 (wrap64 ((Int.tmod x10_1 3) - 1))], .agg #[.int .i64 1, .int .i64 0]] (by rfl) rfl rfl (by first | (simp only [List.map_toArray, List.map_cons, List.map_nil, Act.eval, Array.getD_eq_getD_getElem?, Option.getD_some, e28, e29]; done) | (simp only [List.map_toArray, List.map_cons, List.map_nil, Act.eval, Array.getD_eq_getD_getElem?, Option.getD_some, e28, e29]; rfl)) ?_
      with_reducible refine (impl_Mat_apply.calls _ _ _ _ _ _ _ _ _ A5.out).mono ?_
      rintro e w19 ⟨rfl, hb⟩
      refine ⟨_, rfl, ?_⟩
      have n0_ := asd (Kd.R_below (kr HO_3) hb)
      have n1_ := bB BK393 hb
      have n2_ := bS1 HB GE393 hb
      have z_BK400 := fun (h0_ : b 9 = true) (h1_ : b 12 = false) => (show w19.heap[gb400]? = some (.cells #[.int .i64 0, .int .i64 0] 53 (0, 0)) from by first | exact (blk_below (g := gb400) (o := .cells #[.int .i64 0, .int .i64 0] 53 (0, 0)) (by (with_reducible repeat (first | refine blk_drewN ?_ _ | refine blk_drew ?_ | refine blk_alloc ?_ _)); exact (Q_BK400 h0_ h1_)) hb))
      have z_BK401 := fun (h0_ : b 10 = true) (h1_ : b 13 = false) => (show w19.heap[gb401]? = some (.cells #[.int .i64 0, .int .i64 0] 53 (0, 0)) from by first | exact (blk_below (g := gb401) (o := .cells #[.int .i64 0, .int .i64 0] 53 (0, 0)) (by (with_reducible repeat (first | refine blk_drewN ?_ _ | refine blk_drew ?_ | refine blk_alloc ?_ _)); exact (Q_BK401 h0_ h1_)) hb))
      have z_BK402 := fun (h0_ : b 11 = true) (h1_ : b 14 = false) => (show w19.heap[gb402]? = some (.cells #[.int .i64 0, .int .i64 0] 53 (0, 0)) from by first | exact (blk_below (g := gb402) (o := .cells #[.int .i64 0, .int .i64 0] 53 (0, 0)) (by (with_reducible repeat (first | refine blk_drewN ?_ _ | refine blk_drew ?_ | refine blk_alloc ?_ _)); exact (Q_BK402 h0_ h1_)) hb))
      clear HO_3
      clear BK393
      clear HB
      have HO_3 := n0_
      have BK393 := n1_
      have HB := n2_
      clear n0_ n1_ n2_
      (try clear hb)
      (try clear hb2)
      (try clear hk)
      (try clear hi)
      refine hK.out _ _ ⟨gb400, gb401, gb402, m9_, m10_, m11_, (by rw [ha.out]; exact putSel_upk 2 hb_ rfl rfl rfl), (kr HO_3), (bkp BK393), (bbw1 HB GE393), Q_NB401_400, Q_NB400_401, Q_NB402_400, Q_NB400_402, Q_NB402_401, Q_NB401_402, z_BK400, Q_GW400, Q_GE400, Q_NB393_400, Q_NB400_393, z_BK401, Q_GW401, Q_GE401, Q_NB393_401, Q_NB401_393, z_BK402, Q_GW402, Q_GE402, Q_NB393_402, Q_NB402_393, fun h0_ => absurd ((hoff 12 (by kernel_rfl)).symm.trans h0_) (by decide), fun h0_ => absurd ((hoff 13 (by kernel_rfl)).symm.trans h0_) (by decide), fun h0_ => absurd ((hoff 14 (by kernel_rfl)).symm.trans h0_) (by decide), Q_X9_, Q_X10_, Q_X11_⟩
     refine steps_cons ?_ ?_
     ·rintro b a w' ⟨gb400, gb401, gb402, m9_, m10_, m11_, ha, Q_HO_3, Q_BK393, Q_HB, Q_NB401_400, Q_NB400_401, Q_NB402_400, Q_NB400_402, Q_NB402_401, Q_NB401_402, Q_BK400, Q_GW400, Q_GE400, Q_NB393_400, Q_NB400_393, Q_BK401, Q_GW401, Q_GE401, Q_NB393_401, Q_NB401_393, Q_BK402, Q_GW402, Q_GE402, Q_NB393_402, Q_NB402_393, Q_BK400_e12, Q_BK401_e13, Q_BK402_e14, Q_X9_, Q_X10_, Q_X11_⟩ hb_ hon hoff
      refine ⟨_, rfl, fun K hK => ?_⟩
      have e5 : a.tmps[5]? = some (.pointer (some ⟨gb393, 0, none⟩)) := by rw [ha]; exact (putSel_off rfl).trans rfl
      replace ha := Aside0.mk ha
      have HO_3 := Aside0.mk Q_HO_3
      have BK393 := Aside0.mk Q_BK393
      have HB := Aside0.mk Q_HB
      have hc0_ : w'.cell? ⟨gb393, 0, none⟩ = some (.int .i64 (wrap64 ((wrap64 (Int.tdiv x10_1 27)) - 1))) := bcl BK393 0
      have hc1_ : w'.cell? ⟨gb393, 1, none⟩ = some (.int .i64 (wrap64 ((Int.tmod (wrap64 (Int.tdiv x10_1 9)) 3) - 1))) := bcl BK393 1
      have hc2_ : w'.cell? ⟨gb393, 2, none⟩ = some (.int .i64 (wrap64 ((Int.tmod (wrap64 (Int.tdiv x10_1 3)) 3) - 1))) := bcl BK393 2
      have hc3_ : w'.cell? ⟨gb393, 3, none⟩ = some (.int .i64 (wrap64 ((Int.tmod x10_1 3) - 1))) := bcl BK393 3
      refine value_ (w1 := w') (v := .agg #[.int .i64 (wrap64 ((wrap64 (Int.tdiv x10_1 27)) - 1)), .int .i64 (wrap64 ((Int.tmod (wrap64 (Int.tdiv x10_1 9)) 3) - 1)), .int .i64 (wrap64 ((Int.tmod (wrap64 (Int.tdiv x10_1 3)) 3) - 1)), .int .i64 (wrap64 ((Int.tmod x10_1 3) - 1))]) (by rfl) rfl ?_ ?_
      ·go_simp
       (try simp only [i64_w])
       try rfl
      refine hK.out _ _ ⟨gb400, gb401, gb402, m9_, m10_, m11_, (by rw [ha.out]; exact putSel_upk 3 hb_ rfl rfl rfl), Q_HO_3, Q_BK393, Q_HB, Q_NB401_400, Q_NB400_401, Q_NB402_400, Q_NB400_402, Q_NB402_401, Q_NB401_402, Q_BK400, Q_GW400, Q_GE400, Q_NB393_400, Q_NB400_393, Q_BK401, Q_GW401, Q_GE401, Q_NB393_401, Q_NB401_393, Q_BK402, Q_GW402, Q_GE402, Q_NB393_402, Q_NB402_393, fun h0_ => absurd ((hoff 12 (by kernel_rfl)).symm.trans h0_) (by decide), fun h0_ => absurd ((hoff 13 (by kernel_rfl)).symm.trans h0_) (by decide), fun h0_ => absurd ((hoff 14 (by kernel_rfl)).symm.trans h0_) (by decide), Q_X9_, Q_X10_, Q_X11_⟩
     refine steps_cons ?_ ?_
     ·rintro b a w' ⟨gb400, gb401, gb402, m9_, m10_, m11_, ha, Q_HO_3, Q_BK393, Q_HB, Q_NB401_400, Q_NB400_401, Q_NB402_400, Q_NB400_402, Q_NB402_401, Q_NB401_402, Q_BK400, Q_GW400, Q_GE400, Q_NB393_400, Q_NB400_393, Q_BK401, Q_GW401, Q_GE401, Q_NB393_401, Q_NB401_393, Q_BK402, Q_GW402, Q_GE402, Q_NB393_402, Q_NB402_393, Q_BK400_e12, Q_BK401_e13, Q_BK402_e14, Q_X9_, Q_X10_, Q_X11_⟩ hb_ hon hoff
      refine ⟨_, rfl, fun K hK => ?_⟩
      replace ha := Aside0.mk ha
      have HO_3 := Aside0.mk Q_HO_3
      have BK393 := Aside0.mk Q_BK393
      have HB := Aside0.mk Q_HB
      refine value_ (w1 := w') (v := .agg #[.int .i64 0, .int .i64 1]) (by rfl) rfl ?_ ?_
      ·go_simp
       (try simp only [i64_w])
       try rfl
      refine hK.out _ _ ⟨gb400, gb401, gb402, m9_, m10_, m11_, (by rw [ha.out]; exact putSel_upk 4 hb_ rfl rfl rfl), Q_HO_3, Q_BK393, Q_HB, Q_NB401_400, Q_NB400_401, Q_NB402_400, Q_NB400_402, Q_NB402_401, Q_NB401_402, Q_BK400, Q_GW400, Q_GE400, Q_NB393_400, Q_NB400_393, Q_BK401, Q_GW401, Q_GE401, Q_NB393_401, Q_NB401_393, Q_BK402, Q_GW402, Q_GE402, Q_NB393_402, Q_NB402_393, fun h0_ => absurd ((hoff 12 (by kernel_rfl)).symm.trans h0_) (by decide), fun h0_ => absurd ((hoff 13 (by kernel_rfl)).symm.trans h0_) (by decide), fun h0_ => absurd ((hoff 14 (by kernel_rfl)).symm.trans h0_) (by decide), Q_X9_, Q_X10_, Q_X11_⟩
     refine steps_cons ?_ ?_
     ·rintro b a w' ⟨gb400, gb401, gb402, m9_, m10_, m11_, ha, Q_HO_3, Q_BK393, Q_HB, Q_NB401_400, Q_NB400_401, Q_NB402_400, Q_NB400_402, Q_NB402_401, Q_NB401_402, Q_BK400, Q_GW400, Q_GE400, Q_NB393_400, Q_NB400_393, Q_BK401, Q_GW401, Q_GE401, Q_NB393_401, Q_NB401_393, Q_BK402, Q_GW402, Q_GE402, Q_NB393_402, Q_NB402_393, Q_BK400_e12, Q_BK401_e13, Q_BK402_e14, Q_X9_, Q_X10_, Q_X11_⟩ hb_ hon hoff
      refine ⟨_, rfl, fun K hK => ?_⟩
      have e31 : a.tmps[31]? = some (.agg #[.int .i64 (wrap64 ((wrap64 (Int.tdiv x10_1 27)) - 1)), .int .i64 (wrap64 ((Int.tmod (wrap64 (Int.tdiv x10_1 9)) 3) - 1)), .int .i64 (wrap64 ((Int.tmod (wrap64 (Int.tdiv x10_1 3)) 3) - 1)), .int .i64 (wrap64 ((Int.tmod x10_1 3) - 1))]) := by rw [ha]; exact putSel_on (e := (3, 31, .agg #[.int .i64 (wrap64 ((wrap64 (Int.tdiv x10_1 27)) - 1)), .int .i64 (wrap64 ((Int.tmod (wrap64 (Int.tdiv x10_1 9)) 3) - 1)), .int .i64 (wrap64 ((Int.tmod (wrap64 (Int.tdiv x10_1 3)) 3) - 1)), .int .i64 (wrap64 ((Int.tmod x10_1 3) - 1))])) 3 rfl rfl (hon 3 (by kernel_rfl)) rfl
      have e32 : a.tmps[32]? = some (.agg #[.int .i64 0, .int .i64 1]) := by rw [ha]; exact putSel_on (e := (4, 32, .agg #[.int .i64 0, .int .i64 1])) 4 rfl rfl (hon 4 (by kernel_rfl)) rfl
      replace ha := Aside0.mk ha
      have HO_3 := Aside0.mk Q_HO_3
      have BK393 := Aside0.mk Q_BK393
      have HB := Aside0.mk Q_HB
      refine goes_ Try.func81 (by kernel_rfl) rfl #[.agg #[.int .i64 (wrap64 ((wrap64 (Int.tdiv x10_1 27)) - 1)), .int .i64 (wrap64 ((Int.tmod (wrap64 (Int.tdiv x10_1 9)) 3) - 1)), .int .i64 (wrap64 ((Int.tmod (wrap64 (Int.tdiv x10_1 3)) 3) - 1)), .int .i64 (wrap64 ((Int.tmod x10_1 3) - 1))], .agg #[.int .i64 0, .int .i64 1]] (by rfl) rfl rfl (by first | (simp only [List.map_toArray, List.map_cons, List.map_nil, Act.eval, Array.getD_eq_getD_getElem?, Option.getD_some, e31, e32]; done) | (simp only [List.map_toArray, List.map_cons, List.map_nil, Act.eval, Array.getD_eq_getD_getElem?, Option.getD_some, e31, e32]; rfl)) ?_
      with_reducible refine (impl_Mat_apply.calls _ _ _ _ _ _ _ _ _ A6.out).mono ?_
      rintro e w21 ⟨rfl, hb⟩
      refine ⟨_, rfl, ?_⟩
      have n0_ := asd (Kd.R_below (kr HO_3) hb)
      have n1_ := bB BK393 hb
      have n2_ := bS1 HB GE393 hb
      have z_BK400 := fun (h0_ : b 9 = true) (h1_ : b 12 = false) => (show w21.heap[gb400]? = some (.cells #[.int .i64 0, .int .i64 0] 53 (0, 0)) from by first | exact (blk_below (g := gb400) (o := .cells #[.int .i64 0, .int .i64 0] 53 (0, 0)) (by (with_reducible repeat (first | refine blk_drewN ?_ _ | refine blk_drew ?_ | refine blk_alloc ?_ _)); exact (Q_BK400 h0_ h1_)) hb))
      have z_BK401 := fun (h0_ : b 10 = true) (h1_ : b 13 = false) => (show w21.heap[gb401]? = some (.cells #[.int .i64 0, .int .i64 0] 53 (0, 0)) from by first | exact (blk_below (g := gb401) (o := .cells #[.int .i64 0, .int .i64 0] 53 (0, 0)) (by (with_reducible repeat (first | refine blk_drewN ?_ _ | refine blk_drew ?_ | refine blk_alloc ?_ _)); exact (Q_BK401 h0_ h1_)) hb))
      have z_BK402 := fun (h0_ : b 11 = true) (h1_ : b 14 = false) => (show w21.heap[gb402]? = some (.cells #[.int .i64 0, .int .i64 0] 53 (0, 0)) from by first | exact (blk_below (g := gb402) (o := .cells #[.int .i64 0, .int .i64 0] 53 (0, 0)) (by (with_reducible repeat (first | refine blk_drewN ?_ _ | refine blk_drew ?_ | refine blk_alloc ?_ _)); exact (Q_BK402 h0_ h1_)) hb))
      clear HO_3
      clear BK393
      clear HB
      have HO_3 := n0_
      have BK393 := n1_
      have HB := n2_
      clear n0_ n1_ n2_
      (try clear hb)
      (try clear hb2)
      (try clear hk)
      (try clear hi)
      refine hK.out _ _ ⟨gb400, gb401, gb402, m9_, m10_, m11_, (by rw [ha.out]; exact putSel_upk 5 hb_ rfl rfl rfl), (kr HO_3), (bkp BK393), (bbw1 HB GE393), Q_NB401_400, Q_NB400_401, Q_NB402_400, Q_NB400_402, Q_NB402_401, Q_NB401_402, z_BK400, Q_GW400, Q_GE400, Q_NB393_400, Q_NB400_393, z_BK401, Q_GW401, Q_GE401, Q_NB393_401, Q_NB401_393, z_BK402, Q_GW402, Q_GE402, Q_NB393_402, Q_NB402_393, fun h0_ => absurd ((hoff 12 (by kernel_rfl)).symm.trans h0_) (by decide), fun h0_ => absurd ((hoff 13 (by kernel_rfl)).symm.trans h0_) (by decide), fun h0_ => absurd ((hoff 14 (by kernel_rfl)).symm.trans h0_) (by decide), Q_X9_, Q_X10_, Q_X11_⟩
     refine steps_cons ?_ ?_
     ·rintro b a w' ⟨gb400, gb401, gb402, m9_, m10_, m11_, ha, Q_HO_3, Q_BK393, Q_HB, Q_NB401_400, Q_NB400_401, Q_NB402_400, Q_NB400_402, Q_NB402_401, Q_NB401_402, Q_BK400, Q_GW400, Q_GE400, Q_NB393_400, Q_NB400_393, Q_BK401, Q_GW401, Q_GE401, Q_NB393_401, Q_NB401_393, Q_BK402, Q_GW402, Q_GE402, Q_NB393_402, Q_NB402_393, Q_BK400_e12, Q_BK401_e13, Q_BK402_e14, Q_X9_, Q_X10_, Q_X11_⟩ hb_ hon hoff
      refine ⟨_, rfl, fun K hK => ?_⟩
      have e5 : a.tmps[5]? = some (.pointer (some ⟨gb393, 0, none⟩)) := by rw [ha]; exact (putSel_off rfl).trans rfl
      replace ha := Aside0.mk ha
      have HO_3 := Aside0.mk Q_HO_3
      have BK393 := Aside0.mk Q_BK393
      have HB := Aside0.mk Q_HB
      have hc0_ : w'.cell? ⟨gb393, 0, none⟩ = some (.int .i64 (wrap64 ((wrap64 (Int.tdiv x10_1 27)) - 1))) := bcl BK393 0
      have hc1_ : w'.cell? ⟨gb393, 1, none⟩ = some (.int .i64 (wrap64 ((Int.tmod (wrap64 (Int.tdiv x10_1 9)) 3) - 1))) := bcl BK393 1
      have hc2_ : w'.cell? ⟨gb393, 2, none⟩ = some (.int .i64 (wrap64 ((Int.tmod (wrap64 (Int.tdiv x10_1 3)) 3) - 1))) := bcl BK393 2
      have hc3_ : w'.cell? ⟨gb393, 3, none⟩ = some (.int .i64 (wrap64 ((Int.tmod x10_1 3) - 1))) := bcl BK393 3
      refine value_ (w1 := w') (v := .agg #[.int .i64 (wrap64 ((wrap64 (Int.tdiv x10_1 27)) - 1)), .int .i64 (wrap64 ((Int.tmod (wrap64 (Int.tdiv x10_1 9)) 3) - 1)), .int .i64 (wrap64 ((Int.tmod (wrap64 (Int.tdiv x10_1 3)) 3) - 1)), .int .i64 (wrap64 ((Int.tmod x10_1 3) - 1))]) (by rfl) rfl ?_ ?_
      ·go_simp
       (try simp only [i64_w])
       try rfl
      refine hK.out _ _ ⟨gb400, gb401, gb402, m9_, m10_, m11_, (by rw [ha.out]; exact putSel_upk 6 hb_ rfl rfl rfl), Q_HO_3, Q_BK393, Q_HB, Q_NB401_400, Q_NB400_401, Q_NB402_400, Q_NB400_402, Q_NB402_401, Q_NB401_402, Q_BK400, Q_GW400, Q_GE400, Q_NB393_400, Q_NB400_393, Q_BK401, Q_GW401, Q_GE401, Q_NB393_401, Q_NB401_393, Q_BK402, Q_GW402, Q_GE402, Q_NB393_402, Q_NB402_393, fun h0_ => absurd ((hoff 12 (by kernel_rfl)).symm.trans h0_) (by decide), fun h0_ => absurd ((hoff 13 (by kernel_rfl)).symm.trans h0_) (by decide), fun h0_ => absurd ((hoff 14 (by kernel_rfl)).symm.trans h0_) (by decide), Q_X9_, Q_X10_, Q_X11_⟩
     refine steps_cons ?_ ?_
     ·rintro b a w' ⟨gb400, gb401, gb402, m9_, m10_, m11_, ha, Q_HO_3, Q_BK393, Q_HB, Q_NB401_400, Q_NB400_401, Q_NB402_400, Q_NB400_402, Q_NB402_401, Q_NB401_402, Q_BK400, Q_GW400, Q_GE400, Q_NB393_400, Q_NB400_393, Q_BK401, Q_GW401, Q_GE401, Q_NB393_401, Q_NB401_393, Q_BK402, Q_GW402, Q_GE402, Q_NB393_402, Q_NB402_393, Q_BK400_e12, Q_BK401_e13, Q_BK402_e14, Q_X9_, Q_X10_, Q_X11_⟩ hb_ hon hoff
      refine ⟨_, rfl, fun K hK => ?_⟩
      replace ha := Aside0.mk ha
      have HO_3 := Aside0.mk Q_HO_3
      have BK393 := Aside0.mk Q_BK393
      have HB := Aside0.mk Q_HB
      refine value_ (w1 := w') (v := .agg #[.int .i64 1, .int .i64 1]) (by rfl) rfl ?_ ?_
      ·go_simp
       (try simp only [i64_w])
       try rfl
      refine hK.out _ _ ⟨gb400, gb401, gb402, m9_, m10_, m11_, (by rw [ha.out]; exact putSel_upk 7 hb_ rfl rfl rfl), Q_HO_3, Q_BK393, Q_HB, Q_NB401_400, Q_NB400_401, Q_NB402_400, Q_NB400_402, Q_NB402_401, Q_NB401_402, Q_BK400, Q_GW400, Q_GE400, Q_NB393_400, Q_NB400_393, Q_BK401, Q_GW401, Q_GE401, Q_NB393_401, Q_NB401_393, Q_BK402, Q_GW402, Q_GE402, Q_NB393_402, Q_NB402_393, fun h0_ => absurd ((hoff 12 (by kernel_rfl)).symm.trans h0_) (by decide), fun h0_ => absurd ((hoff 13 (by kernel_rfl)).symm.trans h0_) (by decide), fun h0_ => absurd ((hoff 14 (by kernel_rfl)).symm.trans h0_) (by decide), Q_X9_, Q_X10_, Q_X11_⟩
     refine steps_cons ?_ ?_
     ·rintro b a w' ⟨gb400, gb401, gb402, m9_, m10_, m11_, ha, Q_HO_3, Q_BK393, Q_HB, Q_NB401_400, Q_NB400_401, Q_NB402_400, Q_NB400_402, Q_NB402_401, Q_NB401_402, Q_BK400, Q_GW400, Q_GE400, Q_NB393_400, Q_NB400_393, Q_BK401, Q_GW401, Q_GE401, Q_NB393_401, Q_NB401_393, Q_BK402, Q_GW402, Q_GE402, Q_NB393_402, Q_NB402_393, Q_BK400_e12, Q_BK401_e13, Q_BK402_e14, Q_X9_, Q_X10_, Q_X11_⟩ hb_ hon hoff
      refine ⟨_, rfl, fun K hK => ?_⟩
      have e34 : a.tmps[34]? = some (.agg #[.int .i64 (wrap64 ((wrap64 (Int.tdiv x10_1 27)) - 1)), .int .i64 (wrap64 ((Int.tmod (wrap64 (Int.tdiv x10_1 9)) 3) - 1)), .int .i64 (wrap64 ((Int.tmod (wrap64 (Int.tdiv x10_1 3)) 3) - 1)), .int .i64 (wrap64 ((Int.tmod x10_1 3) - 1))]) := by rw [ha]; exact putSel_on (e := (6, 34, .agg #[.int .i64 (wrap64 ((wrap64 (Int.tdiv x10_1 27)) - 1)), .int .i64 (wrap64 ((Int.tmod (wrap64 (Int.tdiv x10_1 9)) 3) - 1)), .int .i64 (wrap64 ((Int.tmod (wrap64 (Int.tdiv x10_1 3)) 3) - 1)), .int .i64 (wrap64 ((Int.tmod x10_1 3) - 1))])) 6 rfl rfl (hon 6 (by kernel_rfl)) rfl
      have e35 : a.tmps[35]? = some (.agg #[.int .i64 1, .int .i64 1]) := by rw [ha]; exact putSel_on (e := (7, 35, .agg #[.int .i64 1, .int .i64 1])) 7 rfl rfl (hon 7 (by kernel_rfl)) rfl
      replace ha := Aside0.mk ha
      have HO_3 := Aside0.mk Q_HO_3
      have BK393 := Aside0.mk Q_BK393
      have HB := Aside0.mk Q_HB
      refine goes_ Try.func81 (by kernel_rfl) rfl #[.agg #[.int .i64 (wrap64 ((wrap64 (Int.tdiv x10_1 27)) - 1)), .int .i64 (wrap64 ((Int.tmod (wrap64 (Int.tdiv x10_1 9)) 3) - 1)), .int .i64 (wrap64 ((Int.tmod (wrap64 (Int.tdiv x10_1 3)) 3) - 1)), .int .i64 (wrap64 ((Int.tmod x10_1 3) - 1))], .agg #[.int .i64 1, .int .i64 1]] (by rfl) rfl rfl (by first | (simp only [List.map_toArray, List.map_cons, List.map_nil, Act.eval, Array.getD_eq_getD_getElem?, Option.getD_some, e34, e35]; done) | (simp only [List.map_toArray, List.map_cons, List.map_nil, Act.eval, Array.getD_eq_getD_getElem?, Option.getD_some, e34, e35]; rfl)) ?_
      with_reducible refine (impl_Mat_apply.calls _ _ _ _ _ _ _ _ _ A7.out).mono ?_
      rintro e w22 ⟨rfl, hb⟩
      refine ⟨_, rfl, ?_⟩
      have n0_ := asd (Kd.R_below (kr HO_3) hb)
      have n1_ := bB BK393 hb
      have n2_ := bS1 HB GE393 hb
      have z_BK400 := fun (h0_ : b 9 = true) (h1_ : b 12 = false) => (show w22.heap[gb400]? = some (.cells #[.int .i64 0, .int .i64 0] 53 (0, 0)) from by first | exact (blk_below (g := gb400) (o := .cells #[.int .i64 0, .int .i64 0] 53 (0, 0)) (by (with_reducible repeat (first | refine blk_drewN ?_ _ | refine blk_drew ?_ | refine blk_alloc ?_ _)); exact (Q_BK400 h0_ h1_)) hb))
      have z_BK401 := fun (h0_ : b 10 = true) (h1_ : b 13 = false) => (show w22.heap[gb401]? = some (.cells #[.int .i64 0, .int .i64 0] 53 (0, 0)) from by first | exact (blk_below (g := gb401) (o := .cells #[.int .i64 0, .int .i64 0] 53 (0, 0)) (by (with_reducible repeat (first | refine blk_drewN ?_ _ | refine blk_drew ?_ | refine blk_alloc ?_ _)); exact (Q_BK401 h0_ h1_)) hb))
      have z_BK402 := fun (h0_ : b 11 = true) (h1_ : b 14 = false) => (show w22.heap[gb402]? = some (.cells #[.int .i64 0, .int .i64 0] 53 (0, 0)) from by first | exact (blk_below (g := gb402) (o := .cells #[.int .i64 0, .int .i64 0] 53 (0, 0)) (by (with_reducible repeat (first | refine blk_drewN ?_ _ | refine blk_drew ?_ | refine blk_alloc ?_ _)); exact (Q_BK402 h0_ h1_)) hb))
      clear HO_3
      clear BK393
      clear HB
      have HO_3 := n0_
      have BK393 := n1_
      have HB := n2_
      clear n0_ n1_ n2_
      (try clear hb)
      (try clear hb2)
      (try clear hk)
      (try clear hi)
      refine hK.out _ _ ⟨gb400, gb401, gb402, m9_, m10_, m11_, (by rw [ha.out]; exact putSel_upk 8 hb_ rfl rfl rfl), (kr HO_3), (bkp BK393), (bbw1 HB GE393), Q_NB401_400, Q_NB400_401, Q_NB402_400, Q_NB400_402, Q_NB402_401, Q_NB401_402, z_BK400, Q_GW400, Q_GE400, Q_NB393_400, Q_NB400_393, z_BK401, Q_GW401, Q_GE401, Q_NB393_401, Q_NB401_393, z_BK402, Q_GW402, Q_GE402, Q_NB393_402, Q_NB402_393, fun h0_ => absurd ((hoff 12 (by kernel_rfl)).symm.trans h0_) (by decide), fun h0_ => absurd ((hoff 13 (by kernel_rfl)).symm.trans h0_) (by decide), fun h0_ => absurd ((hoff 14 (by kernel_rfl)).symm.trans h0_) (by decide), Q_X9_, Q_X10_, Q_X11_⟩
     refine steps_cons ?_ ?_
     ·rintro b a w' ⟨gb400, gb401, gb402, m9_, m10_, m11_, ha, Q_HO_3, Q_BK393, Q_HB, Q_NB401_400, Q_NB400_401, Q_NB402_400, Q_NB400_402, Q_NB402_401, Q_NB401_402, Q_BK400, Q_GW400, Q_GE400, Q_NB393_400, Q_NB400_393, Q_BK401, Q_GW401, Q_GE401, Q_NB393_401, Q_NB401_393, Q_BK402, Q_GW402, Q_GE402, Q_NB393_402, Q_NB402_393, Q_BK400_e12, Q_BK401_e13, Q_BK402_e14, Q_X9_, Q_X10_, Q_X11_⟩ hb_ hon hoff
      refine ⟨_, rfl, fun K hK => ?_⟩
      replace ha := Aside0.mk ha
      have HO_3 := Aside0.mk Q_HO_3
      have BK393 := Aside0.mk Q_BK393
      have HB := Aside0.mk Q_HB
      refine box_step ?hg (N := 6) ?hd (cs := #[.int .i64 0, .int .i64 0]) (t := 53) ?hr ?_; (case hd => rfl); (case hg => rfl); (case hr => first | (go_simp; done) | (go_simp; rfl))
      intro gb400 hg w19 hbox hb
      have n0_ := asd (Kd.R_below (kr HO_3) hb)
      have n1_ := bB BK393 hb
      have n2_ := bS1 HB GE393 hb
      have n3_ := asd (hbox)
      have n4_ := ngw1 hg HB GE393
      have n5_ := ngw1 hg HB GE393
      have n6_ := nlt hg BK393
      have n7_ := nsy (nlt hg BK393)
      have z_NB401_400 := fun (h0_ : up b 9 9 = true) (h1_ : up b 9 10 = true) => (show gb401 ≠ gb400 from ((by rw [hg]; exact Nat.ne_of_lt (by cases hq_ : b 13 with | false => exact blk_lt (g := gb401) (Q_BK401 h1_ hq_) | true => exact blk_lt (g := gb401) (Q_BK401_e13 hq_)) : gb401 ≠ gb400)))
      have z_NB400_401 := fun (h0_ : up b 9 9 = true) (h1_ : up b 9 10 = true) => (show gb400 ≠ gb401 from ((by rw [hg]; exact Nat.ne_of_gt (by cases hq_ : b 13 with | false => exact blk_lt (g := gb401) (Q_BK401 h1_ hq_) | true => exact blk_lt (g := gb401) (Q_BK401_e13 hq_)) : gb400 ≠ gb401)))
      have z_NB402_400 := fun (h0_ : up b 9 9 = true) (h1_ : up b 9 11 = true) => (show gb402 ≠ gb400 from ((by rw [hg]; exact Nat.ne_of_lt (by cases hq_ : b 14 with | false => exact blk_lt (g := gb402) (Q_BK402 h1_ hq_) | true => exact blk_lt (g := gb402) (Q_BK402_e14 hq_)) : gb402 ≠ gb400)))
      have z_NB400_402 := fun (h0_ : up b 9 9 = true) (h1_ : up b 9 11 = true) => (show gb400 ≠ gb402 from ((by rw [hg]; exact Nat.ne_of_gt (by cases hq_ : b 14 with | false => exact blk_lt (g := gb402) (Q_BK402 h1_ hq_) | true => exact blk_lt (g := gb402) (Q_BK402_e14 hq_)) : gb400 ≠ gb402)))
      have z_BK401 := fun (h0_ : b 10 = true) (h1_ : b 13 = false) => (show w19.heap[gb401]? = some (.cells #[.int .i64 0, .int .i64 0] 53 (0, 0)) from by first | exact (blk_below (g := gb401) (o := .cells #[.int .i64 0, .int .i64 0] 53 (0, 0)) (by (with_reducible repeat (first | refine blk_drewN ?_ _ | refine blk_drew ?_ | refine blk_alloc ?_ _)); exact (Q_BK401 h0_ h1_)) hb))
      have z_BK402 := fun (h0_ : b 11 = true) (h1_ : b 14 = false) => (show w19.heap[gb402]? = some (.cells #[.int .i64 0, .int .i64 0] 53 (0, 0)) from by first | exact (blk_below (g := gb402) (o := .cells #[.int .i64 0, .int .i64 0] 53 (0, 0)) (by (with_reducible repeat (first | refine blk_drewN ?_ _ | refine blk_drew ?_ | refine blk_alloc ?_ _)); exact (Q_BK402 h0_ h1_)) hb))
      clear HO_3
      clear BK393
      clear HB
      have HO_3 := n0_
      have BK393 := n1_
      have HB := n2_
      have BK400 := n3_
      have GW400 := n4_
      have GE400 := n5_
      have NB393_400 := n6_
      have NB400_393 := n7_
      clear n0_ n1_ n2_ n3_ n4_ n5_ n6_ n7_
      clear hb hbox hg
      refine hK.out _ _ ⟨gb400, gb401, gb402, (.pointer (some ⟨gb400, 0, none⟩)), m10_, m11_, (by rw [ha.out]; exact putSel_upk 9 hb_ rfl rfl rfl), (kr HO_3), (bkp BK393), (bbw2 HB GE393 GE400), @z_NB401_400, @z_NB400_401, @z_NB402_400, @z_NB400_402, Q_NB402_401, Q_NB401_402, fun _ _ => (bkp BK400), fun _ => GW400.out, fun _ => GE400.out, fun _ => NB393_400.out, fun _ => NB400_393.out, z_BK401, Q_GW401, Q_GE401, Q_NB393_401, Q_NB401_393, z_BK402, Q_GW402, Q_GE402, Q_NB393_402, Q_NB402_393, fun h0_ => absurd ((hoff 12 (by kernel_rfl)).symm.trans h0_) (by decide), fun h0_ => absurd ((hoff 13 (by kernel_rfl)).symm.trans h0_) (by decide), fun h0_ => absurd ((hoff 14 (by kernel_rfl)).symm.trans h0_) (by decide), fun _ => rfl, Q_X10_, Q_X11_⟩
     refine steps_cons ?_ ?_
     ·rintro b a w' ⟨gb400, gb401, gb402, m9_, m10_, m11_, ha, Q_HO_3, Q_BK393, Q_HB, Q_NB401_400, Q_NB400_401, Q_NB402_400, Q_NB400_402, Q_NB402_401, Q_NB401_402, Q_BK400, Q_GW400, Q_GE400, Q_NB393_400, Q_NB400_393, Q_BK401, Q_GW401, Q_GE401, Q_NB393_401, Q_NB401_393, Q_BK402, Q_GW402, Q_GE402, Q_NB393_402, Q_NB402_393, Q_BK400_e12, Q_BK401_e13, Q_BK402_e14, Q_X9_, Q_X10_, Q_X11_⟩ hb_ hon hoff
      refine ⟨_, rfl, fun K hK => ?_⟩
      replace ha := Aside0.mk ha
      have HO_3 := Aside0.mk Q_HO_3
      have BK393 := Aside0.mk Q_BK393
      have HB := Aside0.mk Q_HB
      refine box_step ?hg (N := 7) ?hd (cs := #[.int .i64 0, .int .i64 0]) (t := 53) ?hr ?_; (case hd => rfl); (case hg => rfl); (case hr => first | (go_simp; done) | (go_simp; rfl))
      intro gb401 hg w19 hbox hb
      have n0_ := asd (Kd.R_below (kr HO_3) hb)
      have n1_ := bB BK393 hb
      have n2_ := bS1 HB GE393 hb
      have n3_ := asd (hbox)
      have n4_ := ngw1 hg HB GE393
      have n5_ := ngw1 hg HB GE393
      have n6_ := nlt hg BK393
      have n7_ := nsy (nlt hg BK393)
      have z_NB401_400 := fun (h0_ : up b 10 9 = true) (h1_ : up b 10 10 = true) => (show gb401 ≠ gb400 from ((by rw [hg]; exact Nat.ne_of_gt (by cases hq_ : b 12 with | false => exact blk_lt (g := gb400) (Q_BK400 h0_ hq_) | true => exact blk_lt (g := gb400) (Q_BK400_e12 hq_)) : gb401 ≠ gb400)))
      have z_NB400_401 := fun (h0_ : up b 10 9 = true) (h1_ : up b 10 10 = true) => (show gb400 ≠ gb401 from ((by rw [hg]; exact Nat.ne_of_lt (by cases hq_ : b 12 with | false => exact blk_lt (g := gb400) (Q_BK400 h0_ hq_) | true => exact blk_lt (g := gb400) (Q_BK400_e12 hq_)) : gb400 ≠ gb401)))
      have z_NB402_401 := fun (h0_ : up b 10 10 = true) (h1_ : up b 10 11 = true) => (show gb402 ≠ gb401 from ((by rw [hg]; exact Nat.ne_of_lt (by cases hq_ : b 14 with | false => exact blk_lt (g := gb402) (Q_BK402 h1_ hq_) | true => exact blk_lt (g := gb402) (Q_BK402_e14 hq_)) : gb402 ≠ gb401)))
      have z_NB401_402 := fun (h0_ : up b 10 10 = true) (h1_ : up b 10 11 = true) => (show gb401 ≠ gb402 from ((by rw [hg]; exact Nat.ne_of_gt (by cases hq_ : b 14 with | false => exact blk_lt (g := gb402) (Q_BK402 h1_ hq_) | true => exact blk_lt (g := gb402) (Q_BK402_e14 hq_)) : gb401 ≠ gb402)))
      have z_BK400 := fun (h0_ : b 9 = true) (h1_ : b 12 = false) => (show w19.heap[gb400]? = some (.cells #[.int .i64 0, .int .i64 0] 53 (0, 0)) from by first | exact (blk_below (g := gb400) (o := .cells #[.int .i64 0, .int .i64 0] 53 (0, 0)) (by (with_reducible repeat (first | refine blk_drewN ?_ _ | refine blk_drew ?_ | refine blk_alloc ?_ _)); exact (Q_BK400 h0_ h1_)) hb))
      have z_BK402 := fun (h0_ : b 11 = true) (h1_ : b 14 = false) => (show w19.heap[gb402]? = some (.cells #[.int .i64 0, .int .i64 0] 53 (0, 0)) from by first | exact (blk_below (g := gb402) (o := .cells #[.int .i64 0, .int .i64 0] 53 (0, 0)) (by (with_reducible repeat (first | refine blk_drewN ?_ _ | refine blk_drew ?_ | refine blk_alloc ?_ _)); exact (Q_BK402 h0_ h1_)) hb))
      clear HO_3
      clear BK393
      clear HB
      have HO_3 := n0_
      have BK393 := n1_
      have HB := n2_
      have BK401 := n3_
      have GW401 := n4_
      have GE401 := n5_
      have NB393_401 := n6_
      have NB401_393 := n7_
      clear n0_ n1_ n2_ n3_ n4_ n5_ n6_ n7_
      clear hb hbox hg
      refine hK.out _ _ ⟨gb400, gb401, gb402, m9_, (.pointer (some ⟨gb401, 0, none⟩)), m11_, (by rw [ha.out]; exact putSel_upk 10 hb_ rfl rfl rfl), (kr HO_3), (bkp BK393), (bbw2 HB GE393 GE401), @z_NB401_400, @z_NB400_401, Q_NB402_400, Q_NB400_402, @z_NB402_401, @z_NB401_402, z_BK400, Q_GW400, Q_GE400, Q_NB393_400, Q_NB400_393, fun _ _ => (bkp BK401), fun _ => GW401.out, fun _ => GE401.out, fun _ => NB393_401.out, fun _ => NB401_393.out, z_BK402, Q_GW402, Q_GE402, Q_NB393_402, Q_NB402_393, fun h0_ => absurd ((hoff 12 (by kernel_rfl)).symm.trans h0_) (by decide), fun h0_ => absurd ((hoff 13 (by kernel_rfl)).symm.trans h0_) (by decide), fun h0_ => absurd ((hoff 14 (by kernel_rfl)).symm.trans h0_) (by decide), Q_X9_, fun _ => rfl, Q_X11_⟩
     refine steps_cons ?_ ?_
     ·rintro b a w' ⟨gb400, gb401, gb402, m9_, m10_, m11_, ha, Q_HO_3, Q_BK393, Q_HB, Q_NB401_400, Q_NB400_401, Q_NB402_400, Q_NB400_402, Q_NB402_401, Q_NB401_402, Q_BK400, Q_GW400, Q_GE400, Q_NB393_400, Q_NB400_393, Q_BK401, Q_GW401, Q_GE401, Q_NB393_401, Q_NB401_393, Q_BK402, Q_GW402, Q_GE402, Q_NB393_402, Q_NB402_393, Q_BK400_e12, Q_BK401_e13, Q_BK402_e14, Q_X9_, Q_X10_, Q_X11_⟩ hb_ hon hoff
      refine ⟨_, rfl, fun K hK => ?_⟩
      replace ha := Aside0.mk ha
      have HO_3 := Aside0.mk Q_HO_3
      have BK393 := Aside0.mk Q_BK393
      have HB := Aside0.mk Q_HB
      refine box_step ?hg (N := 8) ?hd (cs := #[.int .i64 0, .int .i64 0]) (t := 53) ?hr ?_; (case hd => rfl); (case hg => rfl); (case hr => first | (go_simp; done) | (go_simp; rfl))
      intro gb402 hg w19 hbox hb
      have n0_ := asd (Kd.R_below (kr HO_3) hb)
      have n1_ := bB BK393 hb
      have n2_ := bS1 HB GE393 hb
      have n3_ := asd (hbox)
      have n4_ := ngw1 hg HB GE393
      have n5_ := ngw1 hg HB GE393
      have n6_ := nlt hg BK393
      have n7_ := nsy (nlt hg BK393)
      have z_NB402_400 := fun (h0_ : up b 11 9 = true) (h1_ : up b 11 11 = true) => (show gb402 ≠ gb400 from ((by rw [hg]; exact Nat.ne_of_gt (by cases hq_ : b 12 with | false => exact blk_lt (g := gb400) (Q_BK400 h0_ hq_) | true => exact blk_lt (g := gb400) (Q_BK400_e12 hq_)) : gb402 ≠ gb400)))
      have z_NB400_402 := fun (h0_ : up b 11 9 = true) (h1_ : up b 11 11 = true) => (show gb400 ≠ gb402 from ((by rw [hg]; exact Nat.ne_of_lt (by cases hq_ : b 12 with | false => exact blk_lt (g := gb400) (Q_BK400 h0_ hq_) | true => exact blk_lt (g := gb400) (Q_BK400_e12 hq_)) : gb400 ≠ gb402)))
      have z_NB402_401 := fun (h0_ : up b 11 10 = true) (h1_ : up b 11 11 = true) => (show gb402 ≠ gb401 from ((by rw [hg]; exact Nat.ne_of_gt (by cases hq_ : b 13 with | false => exact blk_lt (g := gb401) (Q_BK401 h0_ hq_) | true => exact blk_lt (g := gb401) (Q_BK401_e13 hq_)) : gb402 ≠ gb401)))
      have z_NB401_402 := fun (h0_ : up b 11 10 = true) (h1_ : up b 11 11 = true) => (show gb401 ≠ gb402 from ((by rw [hg]; exact Nat.ne_of_lt (by cases hq_ : b 13 with | false => exact blk_lt (g := gb401) (Q_BK401 h0_ hq_) | true => exact blk_lt (g := gb401) (Q_BK401_e13 hq_)) : gb401 ≠ gb402)))
      have z_BK400 := fun (h0_ : b 9 = true) (h1_ : b 12 = false) => (show w19.heap[gb400]? = some (.cells #[.int .i64 0, .int .i64 0] 53 (0, 0)) from by first | exact (blk_below (g := gb400) (o := .cells #[.int .i64 0, .int .i64 0] 53 (0, 0)) (by (with_reducible repeat (first | refine blk_drewN ?_ _ | refine blk_drew ?_ | refine blk_alloc ?_ _)); exact (Q_BK400 h0_ h1_)) hb))
      have z_BK401 := fun (h0_ : b 10 = true) (h1_ : b 13 = false) => (show w19.heap[gb401]? = some (.cells #[.int .i64 0, .int .i64 0] 53 (0, 0)) from by first | exact (blk_below (g := gb401) (o := .cells #[.int .i64 0, .int .i64 0] 53 (0, 0)) (by (with_reducible repeat (first | refine blk_drewN ?_ _ | refine blk_drew ?_ | refine blk_alloc ?_ _)); exact (Q_BK401 h0_ h1_)) hb))
      clear HO_3
      clear BK393
      clear HB
      have HO_3 := n0_
      have BK393 := n1_
      have HB := n2_
      have BK402 := n3_
      have GW402 := n4_
      have GE402 := n5_
      have NB393_402 := n6_
      have NB402_393 := n7_
      clear n0_ n1_ n2_ n3_ n4_ n5_ n6_ n7_
      clear hb hbox hg
      refine hK.out _ _ ⟨gb400, gb401, gb402, m9_, m10_, (.pointer (some ⟨gb402, 0, none⟩)), (by rw [ha.out]; exact putSel_upk 11 hb_ rfl rfl rfl), (kr HO_3), (bkp BK393), (bbw2 HB GE393 GE402), Q_NB401_400, Q_NB400_401, @z_NB402_400, @z_NB400_402, @z_NB402_401, @z_NB401_402, z_BK400, Q_GW400, Q_GE400, Q_NB393_400, Q_NB400_393, z_BK401, Q_GW401, Q_GE401, Q_NB393_401, Q_NB401_393, fun _ _ => (bkp BK402), fun _ => GW402.out, fun _ => GE402.out, fun _ => NB393_402.out, fun _ => NB402_393.out, fun h0_ => absurd ((hoff 12 (by kernel_rfl)).symm.trans h0_) (by decide), fun h0_ => absurd ((hoff 13 (by kernel_rfl)).symm.trans h0_) (by decide), fun h0_ => absurd ((hoff 14 (by kernel_rfl)).symm.trans h0_) (by decide), Q_X9_, Q_X10_, fun _ => rfl⟩
     refine steps_cons ?_ ?_
     ·rintro b a w' ⟨gb400, gb401, gb402, m9_, m10_, m11_, ha, Q_HO_3, Q_BK393, Q_HB, Q_NB401_400, Q_NB400_401, Q_NB402_400, Q_NB400_402, Q_NB402_401, Q_NB401_402, Q_BK400, Q_GW400, Q_GE400, Q_NB393_400, Q_NB400_393, Q_BK401, Q_GW401, Q_GE401, Q_NB393_401, Q_NB401_393, Q_BK402, Q_GW402, Q_GE402, Q_NB393_402, Q_NB402_393, Q_BK400_e12, Q_BK401_e13, Q_BK402_e14, Q_X9_, Q_X10_, Q_X11_⟩ hb_ hon hoff
      refine ⟨_, rfl, fun K hK => ?_⟩
      have e6 : a.tmps[6]? = some (m9_) := by rw [ha]; exact putSel_on (e := (9, 6, m9_)) 9 rfl rfl (hon 9 (by kernel_rfl)) rfl
      rw [Q_X9_ (hon 9 (by kernel_rfl))] at e6
      have e30 : a.tmps[30]? = some (.agg #[.int .i64 t394, .int .i64 t395]) := by rw [ha]; exact putSel_on (e := (2, 30, .agg #[.int .i64 t394, .int .i64 t395])) 2 rfl rfl (hon 2 (by kernel_rfl)) rfl
      replace ha := Aside0.mk ha
      have HO_3 := Aside0.mk Q_HO_3
      have BK393 := Aside0.mk Q_BK393
      have HB := Aside0.mk Q_HB
      have NB401_400 := asd (Q_NB401_400 (hon 9 (by kernel_rfl)) (hon 10 (by kernel_rfl)))
      have NB400_401 := asd (Q_NB400_401 (hon 9 (by kernel_rfl)) (hon 10 (by kernel_rfl)))
      have NB402_400 := asd (Q_NB402_400 (hon 9 (by kernel_rfl)) (hon 11 (by kernel_rfl)))
      have NB400_402 := asd (Q_NB400_402 (hon 9 (by kernel_rfl)) (hon 11 (by kernel_rfl)))
      have NB402_401 := asd (Q_NB402_401 (hon 10 (by kernel_rfl)) (hon 11 (by kernel_rfl)))
      have NB401_402 := asd (Q_NB401_402 (hon 10 (by kernel_rfl)) (hon 11 (by kernel_rfl)))
      have BK400 := asd (Q_BK400 (hon 9 (by kernel_rfl)) hb_)
      have GW400 := asd (Q_GW400 (hon 9 (by kernel_rfl)))
      have GE400 := asd (Q_GE400 (hon 9 (by kernel_rfl)))
      have NB393_400 := asd (Q_NB393_400 (hon 9 (by kernel_rfl)))
      have NB400_393 := asd (Q_NB400_393 (hon 9 (by kernel_rfl)))
      have BK401 := asd (Q_BK401 (hon 10 (by kernel_rfl)) (hoff 13 (by kernel_rfl)))
      have GW401 := asd (Q_GW401 (hon 10 (by kernel_rfl)))
      have GE401 := asd (Q_GE401 (hon 10 (by kernel_rfl)))
      have NB393_401 := asd (Q_NB393_401 (hon 10 (by kernel_rfl)))
      have NB401_393 := asd (Q_NB401_393 (hon 10 (by kernel_rfl)))
      have BK402 := asd (Q_BK402 (hon 11 (by kernel_rfl)) (hoff 14 (by kernel_rfl)))
      have GW402 := asd (Q_GW402 (hon 11 (by kernel_rfl)))
      have GE402 := asd (Q_GE402 (hon 11 (by kernel_rfl)))
      have NB393_402 := asd (Q_NB393_402 (hon 11 (by kernel_rfl)))
      have NB402_393 := asd (Q_NB402_393 (hon 11 (by kernel_rfl)))
      have hs26 : w'.cell? ⟨gb400, 0, none⟩ = some (.int .i64 0) := bcl BK400 0
      have hfs26 := blk_frozen BK400.out 0
      have hns26_0 := NB393_400.out
      have hns26_2 := NB401_400.out
      have hns26_3 := NB402_400.out
      have hms26_0 := NB400_393.out
      have hms26_2 := NB400_401.out
      have hms26_3 := NB400_402.out
      have hs27 : w'.cell? ⟨gb400, 1, none⟩ = some (.int .i64 0) := bcl BK400 1
      have hfs27 := blk_frozen BK400.out 1
      have hns27_0 := NB393_400.out
      have hns27_2 := NB401_400.out
      have hns27_3 := NB402_400.out
      have hms27_0 := NB400_393.out
      have hms27_2 := NB400_401.out
      have hms27_3 := NB400_402.out
      refine skip_ (w1 := ?_) (by rfl) rfl ?_ ?_
      rotate_left
      ·go_simp
       rfl
      refine hK.out _ _ ⟨gb400, gb401, gb402, m9_, m10_, m11_, (by rw [ha.out]; exact putSel_none (v := undef) rfl), (by (with_reducible repeat (first | apply Kd.R_alloc | apply Kd.R_drewN | apply Kd.R_drew)); exact Kd.R_mono (rw2 (Kd.R_types HO_3.out BK400.out (by decide))) (fun _ hk => hk.1)), (bq1 BK393 NB393_400), (bbw4 HB GE393 GE400 GE401 GE402), fun _ _ => NB401_400.out, fun _ _ => NB400_401.out, fun _ _ => NB402_400.out, fun _ _ => NB400_402.out, fun _ _ => NB402_401.out, fun _ _ => NB401_402.out, fun _ h1_ => absurd ((up_self b 12).symm.trans h1_) (by decide), fun _ => GW400.out, fun _ => GE400.out, fun _ => NB393_400.out, fun _ => NB400_393.out, fun _ _ => (bq1 BK401 NB401_400), fun _ => GW401.out, fun _ => GE401.out, fun _ => NB393_401.out, fun _ => NB401_393.out, fun _ _ => (bq1 BK402 NB402_400), fun _ => GW402.out, fun _ => GE402.out, fun _ => NB393_402.out, fun _ => NB402_393.out, fun _ => (bq0 BK400), fun h0_ => absurd ((hoff 13 (by kernel_rfl)).symm.trans h0_) (by decide), fun h0_ => absurd ((hoff 14 (by kernel_rfl)).symm.trans h0_) (by decide), Q_X9_, Q_X10_, Q_X11_⟩
     refine steps_cons ?_ ?_
     ·rintro b a w' ⟨gb400, gb401, gb402, m9_, m10_, m11_, ha, Q_HO_3, Q_BK393, Q_HB, Q_NB401_400, Q_NB400_401, Q_NB402_400, Q_NB400_402, Q_NB402_401, Q_NB401_402, Q_BK400, Q_GW400, Q_GE400, Q_NB393_400, Q_NB400_393, Q_BK401, Q_GW401, Q_GE401, Q_NB393_401, Q_NB401_393, Q_BK402, Q_GW402, Q_GE402, Q_NB393_402, Q_NB402_393, Q_BK400_e12, Q_BK401_e13, Q_BK402_e14, Q_X9_, Q_X10_, Q_X11_⟩ hb_ hon hoff
      refine ⟨_, rfl, fun K hK => ?_⟩
      have e7 : a.tmps[7]? = some (m10_) := by rw [ha]; exact putSel_on (e := (10, 7, m10_)) 10 rfl rfl (hon 10 (by kernel_rfl)) rfl
      rw [Q_X10_ (hon 10 (by kernel_rfl))] at e7
      have e33 : a.tmps[33]? = some (.agg #[.int .i64 t396, .int .i64 t397]) := by rw [ha]; exact putSel_on (e := (5, 33, .agg #[.int .i64 t396, .int .i64 t397])) 5 rfl rfl (hon 5 (by kernel_rfl)) rfl
      replace ha := Aside0.mk ha
      have HO_3 := Aside0.mk Q_HO_3
      have BK393 := Aside0.mk Q_BK393
      have HB := Aside0.mk Q_HB
      have NB401_400 := asd (Q_NB401_400 (hon 9 (by kernel_rfl)) (hon 10 (by kernel_rfl)))
      have NB400_401 := asd (Q_NB400_401 (hon 9 (by kernel_rfl)) (hon 10 (by kernel_rfl)))
      have NB402_400 := asd (Q_NB402_400 (hon 9 (by kernel_rfl)) (hon 11 (by kernel_rfl)))
      have NB400_402 := asd (Q_NB400_402 (hon 9 (by kernel_rfl)) (hon 11 (by kernel_rfl)))
      have NB402_401 := asd (Q_NB402_401 (hon 10 (by kernel_rfl)) (hon 11 (by kernel_rfl)))
      have NB401_402 := asd (Q_NB401_402 (hon 10 (by kernel_rfl)) (hon 11 (by kernel_rfl)))
      have GW400 := asd (Q_GW400 (hon 9 (by kernel_rfl)))
      have GE400 := asd (Q_GE400 (hon 9 (by kernel_rfl)))
      have NB393_400 := asd (Q_NB393_400 (hon 9 (by kernel_rfl)))
      have NB400_393 := asd (Q_NB400_393 (hon 9 (by kernel_rfl)))
      have BK401 := asd (Q_BK401 (hon 10 (by kernel_rfl)) hb_)
      have GW401 := asd (Q_GW401 (hon 10 (by kernel_rfl)))
      have GE401 := asd (Q_GE401 (hon 10 (by kernel_rfl)))
      have NB393_401 := asd (Q_NB393_401 (hon 10 (by kernel_rfl)))
      have NB401_393 := asd (Q_NB401_393 (hon 10 (by kernel_rfl)))
      have BK402 := asd (Q_BK402 (hon 11 (by kernel_rfl)) (hoff 14 (by kernel_rfl)))
      have GW402 := asd (Q_GW402 (hon 11 (by kernel_rfl)))
      have GE402 := asd (Q_GE402 (hon 11 (by kernel_rfl)))
      have NB393_402 := asd (Q_NB393_402 (hon 11 (by kernel_rfl)))
      have NB402_393 := asd (Q_NB402_393 (hon 11 (by kernel_rfl)))
      have BK400 := asd (Q_BK400_e12 (hon 12 (by kernel_rfl)))
      have hs28 : w'.cell? ⟨gb401, 0, none⟩ = some (.int .i64 0) := bcl BK401 0
      have hfs28 := blk_frozen BK401.out 0
      have hns28_0 := NB393_401.out
      have hns28_1 := NB400_401.out
      have hns28_3 := NB402_401.out
      have hms28_0 := NB401_393.out
      have hms28_1 := NB401_400.out
      have hms28_3 := NB401_402.out
      have hs29 : w'.cell? ⟨gb401, 1, none⟩ = some (.int .i64 0) := bcl BK401 1
      have hfs29 := blk_frozen BK401.out 1
      have hns29_0 := NB393_401.out
      have hns29_1 := NB400_401.out
      have hns29_3 := NB402_401.out
      have hms29_0 := NB401_393.out
      have hms29_1 := NB401_400.out
      have hms29_3 := NB401_402.out
      refine skip_ (w1 := ?_) (by rfl) rfl ?_ ?_
      rotate_left
      ·go_simp
       rfl
      refine hK.out _ _ ⟨gb400, gb401, gb402, m9_, m10_, m11_, (by rw [ha.out]; exact putSel_none (v := undef) rfl), (by (with_reducible repeat (first | apply Kd.R_alloc | apply Kd.R_drewN | apply Kd.R_drew)); exact Kd.R_mono (rw2 (Kd.R_types HO_3.out BK401.out (by decide))) (fun _ hk => hk.1)), (bq1 BK393 NB393_401), (bbw4 HB GE393 GE400 GE401 GE402), fun _ _ => NB401_400.out, fun _ _ => NB400_401.out, fun _ _ => NB402_400.out, fun _ _ => NB400_402.out, fun _ _ => NB402_401.out, fun _ _ => NB401_402.out, fun _ h1_ => absurd ((hon 12 (by kernel_rfl)).symm.trans h1_) (by decide), fun _ => GW400.out, fun _ => GE400.out, fun _ => NB393_400.out, fun _ => NB400_393.out, fun _ h1_ => absurd ((up_self b 13).symm.trans h1_) (by decide), fun _ => GW401.out, fun _ => GE401.out, fun _ => NB393_401.out, fun _ => NB401_393.out, fun _ _ => (bq1 BK402 NB402_401), fun _ => GW402.out, fun _ => GE402.out, fun _ => NB393_402.out, fun _ => NB402_393.out, fun _ => (bq1 BK400 NB400_401), fun _ => (bq0 BK401), fun h0_ => absurd ((hoff 14 (by kernel_rfl)).symm.trans h0_) (by decide), Q_X9_, Q_X10_, Q_X11_⟩
     refine steps_cons ?_ ?_
     ·rintro b a w' ⟨gb400, gb401, gb402, m9_, m10_, m11_, ha, Q_HO_3, Q_BK393, Q_HB, Q_NB401_400, Q_NB400_401, Q_NB402_400, Q_NB400_402, Q_NB402_401, Q_NB401_402, Q_BK400, Q_GW400, Q_GE400, Q_NB393_400, Q_NB400_393, Q_BK401, Q_GW401, Q_GE401, Q_NB393_401, Q_NB401_393, Q_BK402, Q_GW402, Q_GE402, Q_NB393_402, Q_NB402_393, Q_BK400_e12, Q_BK401_e13, Q_BK402_e14, Q_X9_, Q_X10_, Q_X11_⟩ hb_ hon hoff
      refine ⟨_, rfl, fun K hK => ?_⟩
      have e8 : a.tmps[8]? = some (m11_) := by rw [ha]; exact putSel_on (e := (11, 8, m11_)) 11 rfl rfl (hon 11 (by kernel_rfl)) rfl
      rw [Q_X11_ (hon 11 (by kernel_rfl))] at e8
      have e36 : a.tmps[36]? = some (.agg #[.int .i64 t398, .int .i64 t399]) := by rw [ha]; exact putSel_on (e := (8, 36, .agg #[.int .i64 t398, .int .i64 t399])) 8 rfl rfl (hon 8 (by kernel_rfl)) rfl
      replace ha := Aside0.mk ha
      have HO_3 := Aside0.mk Q_HO_3
      have BK393 := Aside0.mk Q_BK393
      have HB := Aside0.mk Q_HB
      have NB401_400 := asd (Q_NB401_400 (hon 9 (by kernel_rfl)) (hon 10 (by kernel_rfl)))
      have NB400_401 := asd (Q_NB400_401 (hon 9 (by kernel_rfl)) (hon 10 (by kernel_rfl)))
      have NB402_400 := asd (Q_NB402_400 (hon 9 (by kernel_rfl)) (hon 11 (by kernel_rfl)))
      have NB400_402 := asd (Q_NB400_402 (hon 9 (by kernel_rfl)) (hon 11 (by kernel_rfl)))
      have NB402_401 := asd (Q_NB402_401 (hon 10 (by kernel_rfl)) (hon 11 (by kernel_rfl)))
      have NB401_402 := asd (Q_NB401_402 (hon 10 (by kernel_rfl)) (hon 11 (by kernel_rfl)))
      have GW400 := asd (Q_GW400 (hon 9 (by kernel_rfl)))
      have GE400 := asd (Q_GE400 (hon 9 (by kernel_rfl)))
      have NB393_400 := asd (Q_NB393_400 (hon 9 (by kernel_rfl)))
      have NB400_393 := asd (Q_NB400_393 (hon 9 (by kernel_rfl)))
      have GW401 := asd (Q_GW401 (hon 10 (by kernel_rfl)))
      have GE401 := asd (Q_GE401 (hon 10 (by kernel_rfl)))
      have NB393_401 := asd (Q_NB393_401 (hon 10 (by kernel_rfl)))
      have NB401_393 := asd (Q_NB401_393 (hon 10 (by kernel_rfl)))
      have BK402 := asd (Q_BK402 (hon 11 (by kernel_rfl)) hb_)
      have GW402 := asd (Q_GW402 (hon 11 (by kernel_rfl)))
      have GE402 := asd (Q_GE402 (hon 11 (by kernel_rfl)))
      have NB393_402 := asd (Q_NB393_402 (hon 11 (by kernel_rfl)))
      have NB402_393 := asd (Q_NB402_393 (hon 11 (by kernel_rfl)))
      have BK400 := asd (Q_BK400_e12 (hon 12 (by kernel_rfl)))
      have BK401 := asd (Q_BK401_e13 (hon 13 (by kernel_rfl)))
      have hs30 : w'.cell? ⟨gb402, 0, none⟩ = some (.int .i64 0) := bcl BK402 0
      have hfs30 := blk_frozen BK402.out 0
      have hns30_0 := NB393_402.out
      have hns30_1 := NB400_402.out
      have hns30_2 := NB401_402.out
      have hms30_0 := NB402_393.out
      have hms30_1 := NB402_400.out
      have hms30_2 := NB402_401.out
      have hs31 : w'.cell? ⟨gb402, 1, none⟩ = some (.int .i64 0) := bcl BK402 1
      have hfs31 := blk_frozen BK402.out 1
      have hns31_0 := NB393_402.out
      have hns31_1 := NB400_402.out
      have hns31_2 := NB401_402.out
      have hms31_0 := NB402_393.out
      have hms31_1 := NB402_400.out
      have hms31_2 := NB402_401.out
      refine skip_ (w1 := ?_) (by rfl) rfl ?_ ?_
      rotate_left
      ·go_simp
       rfl
      refine hK.out _ _ ⟨gb400, gb401, gb402, m9_, m10_, m11_, (by rw [ha.out]; exact putSel_none (v := undef) rfl), (by (with_reducible repeat (first | apply Kd.R_alloc | apply Kd.R_drewN | apply Kd.R_drew)); exact Kd.R_mono (rw2 (Kd.R_types HO_3.out BK402.out (by decide))) (fun _ hk => hk.1)), (bq1 BK393 NB393_402), (bbw4 HB GE393 GE400 GE401 GE402), fun _ _ => NB401_400.out, fun _ _ => NB400_401.out, fun _ _ => NB402_400.out, fun _ _ => NB400_402.out, fun _ _ => NB402_401.out, fun _ _ => NB401_402.out, fun _ h1_ => absurd ((hon 12 (by kernel_rfl)).symm.trans h1_) (by decide), fun _ => GW400.out, fun _ => GE400.out, fun _ => NB393_400.out, fun _ => NB400_393.out, fun _ h1_ => absurd ((hon 13 (by kernel_rfl)).symm.trans h1_) (by decide), fun _ => GW401.out, fun _ => GE401.out, fun _ => NB393_401.out, fun _ => NB401_393.out, fun _ h1_ => absurd ((up_self b 14).symm.trans h1_) (by decide), fun _ => GW402.out, fun _ => GE402.out, fun _ => NB393_402.out, fun _ => NB402_393.out, fun _ => (bq1 BK400 NB400_402), fun _ => (bq1 BK401 NB401_402), fun _ => (bq0 BK402), Q_X9_, Q_X10_, Q_X11_⟩
     exact steps_nil
    rintro b a w31 hall ⟨gb400, gb401, gb402, m9_, m10_, m11_, ha, Q_HO_3, Q_BK393, Q_HB, Q_NB401_400, Q_NB400_401, Q_NB402_400, Q_NB400_402, Q_NB402_401, Q_NB401_402, Q_BK400, Q_GW400, Q_GE400, Q_NB393_400, Q_NB400_393, Q_BK401, Q_GW401, Q_GE401, Q_NB393_401, Q_NB401_393, Q_BK402, Q_GW402, Q_GE402, Q_NB393_402, Q_NB402_393, Q_BK400_e12, Q_BK401_e13, Q_BK402_e14, Q_X9_, Q_X10_, Q_X11_⟩
    clear BK393 HB HO_3
    have hb0_ := hall 0 (by kernel_rfl)
    have hb1_ := hall 1 (by kernel_rfl)
    have hb2_ := hall 2 (by kernel_rfl)
    have hb3_ := hall 3 (by kernel_rfl)
    have hb4_ := hall 4 (by kernel_rfl)
    have hb5_ := hall 5 (by kernel_rfl)
    have hb6_ := hall 6 (by kernel_rfl)
    have hb7_ := hall 7 (by kernel_rfl)
    have hb8_ := hall 8 (by kernel_rfl)
    have hb9_ := hall 9 (by kernel_rfl)
    have hb10_ := hall 10 (by kernel_rfl)
    have hb11_ := hall 11 (by kernel_rfl)
    have hb12_ := hall 12 (by kernel_rfl)
    have hb13_ := hall 13 (by kernel_rfl)
    have hb14_ := hall 14 (by kernel_rfl)
    subst ha
    obtain rfl := Q_X9_ hb9_
    obtain rfl := Q_X10_ hb10_
    obtain rfl := Q_X11_ hb11_
    simp only [putSel, hb0_, hb1_, hb2_, hb3_, hb4_, hb5_, hb6_, hb7_, hb8_, hb9_, hb10_, hb11_, hb12_, hb13_, hb14_, if_true, Act.put, sA, sB, sC]
    have HO_3 := Aside0.mk Q_HO_3
    clear Q_HO_3
    have BK393 := Aside0.mk Q_BK393
    clear Q_BK393
    have HB := Aside0.mk Q_HB
    clear Q_HB
    have NB401_400 := asd (Q_NB401_400 hb9_ hb10_)
    clear Q_NB401_400
    have NB400_401 := asd (Q_NB400_401 hb9_ hb10_)
    clear Q_NB400_401
    have NB402_400 := asd (Q_NB402_400 hb9_ hb11_)
    clear Q_NB402_400
    have NB400_402 := asd (Q_NB400_402 hb9_ hb11_)
    clear Q_NB400_402
    have NB402_401 := asd (Q_NB402_401 hb10_ hb11_)
    clear Q_NB402_401
    have NB401_402 := asd (Q_NB401_402 hb10_ hb11_)
    clear Q_NB401_402
    clear Q_BK400
    have GW400 := asd (Q_GW400 hb9_)
    clear Q_GW400
    have GE400 := asd (Q_GE400 hb9_)
    clear Q_GE400
    have NB393_400 := asd (Q_NB393_400 hb9_)
    clear Q_NB393_400
    have NB400_393 := asd (Q_NB400_393 hb9_)
    clear Q_NB400_393
    clear Q_BK401
    have GW401 := asd (Q_GW401 hb10_)
    clear Q_GW401
    have GE401 := asd (Q_GE401 hb10_)
    clear Q_GE401
    have NB393_401 := asd (Q_NB393_401 hb10_)
    clear Q_NB393_401
    have NB401_393 := asd (Q_NB401_393 hb10_)
    clear Q_NB401_393
    clear Q_BK402
    have GW402 := asd (Q_GW402 hb11_)
    clear Q_GW402
    have GE402 := asd (Q_GE402 hb11_)
    clear Q_GE402
    have NB393_402 := asd (Q_NB393_402 hb11_)
    clear Q_NB393_402
    have NB402_393 := asd (Q_NB402_393 hb11_)
    clear Q_NB402_393
    have BK400 := asd (Q_BK400_e12 hb12_)
    clear Q_BK400_e12
    have BK401 := asd (Q_BK401_e13 hb13_)
    clear Q_BK401_e13
    have BK402 := asd (Q_BK402_e14 hb14_)
    clear Q_BK402_e14
    clear hall hb0_ hb1_ hb2_ hb3_ hb4_ hb5_ hb6_ hb7_ hb8_ hb9_ hb10_ hb11_ hb12_ hb13_ hb14_
    have hnb32 := NB400_393.out
    have hnc32 := NB393_400.out
    have hnb33 := NB400_401.out
    have hnc33 := NB401_400.out
    have hnb34 := NB400_402.out
    have hnc34 := NB402_400.out
    obtain ⟨hcz35_0, hcz35_1, hfz35_0, hfz35_1⟩ := bz2 BK400
    have H := Hq_.out
    clear Hq_
    obtain ⟨t403, A8, H⟩ := ob H
    replace H : (if t403 = 1 then ((impl_norm.f a0 t396 t397).bind fun t404 => (if t404 = 1 then ((impl_norm.f a0 t398 t399).bind fun t405 => (if t405 = (wrap64 (2 + a0)) then (if x3_1.length < 4398046511104 then (impl_pointMats.l0 k1 a0 (x3_1 ++ [(⟨wrap64 ((wrap64 (Int.tdiv x10_1 27)) - 1), wrap64 ((Int.tmod (wrap64 (Int.tdiv x10_1 9)) 3) - 1), wrap64 ((Int.tmod (wrap64 (Int.tdiv x10_1 3)) 3) - 1), wrap64 ((Int.tmod x10_1 3) - 1)⟩ : S51)]) (wrap64 (x10_1 + 1))) else (none)) else (impl_pointMats.l0 k1 a0 x3_1 (wrap64 (x10_1 + 1))))) else (impl_pointMats.l0 k1 a0 x3_1 (wrap64 (x10_1 + 1))))) else (impl_pointMats.l0 k1 a0 x3_1 (wrap64 (x10_1 + 1)))) = some r := H
    by_cases c9 : t403 = 1
    ·rw [if_pos c9] at H
     have c9b0 : (t403 == 1) = true := beq_iff_eq.mpr c9
     have c9b1 : (t403 != 1) = false := bne_eq_false_iff_eq.mpr c9
     clear c9
     obtain ⟨t404, A10, H⟩ := ob H
     replace H : (if t404 = 1 then ((impl_norm.f a0 t398 t399).bind fun t405 => (if t405 = (wrap64 (2 + a0)) then (if x3_1.length < 4398046511104 then (impl_pointMats.l0 k1 a0 (x3_1 ++ [(⟨wrap64 ((wrap64 (Int.tdiv x10_1 27)) - 1), wrap64 ((Int.tmod (wrap64 (Int.tdiv x10_1 9)) 3) - 1), wrap64 ((Int.tmod (wrap64 (Int.tdiv x10_1 3)) 3) - 1), wrap64 ((Int.tmod x10_1 3) - 1)⟩ : S51)]) (wrap64 (x10_1 + 1))) else (none)) else (impl_pointMats.l0 k1 a0 x3_1 (wrap64 (x10_1 + 1))))) else (impl_pointMats.l0 k1 a0 x3_1 (wrap64 (x10_1 + 1)))) = some r := H
     by_cases c11 : t404 = 1
     ·rw [if_pos c11] at H
      have c11b0 : (t404 == 1) = true := beq_iff_eq.mpr c11
      have c11b1 : (t404 != 1) = false := bne_eq_false_iff_eq.mpr c11
      clear c11
      obtain ⟨t405, A12, H⟩ := ob H
      replace H : (if t405 = (wrap64 (2 + a0)) then (if x3_1.length < 4398046511104 then (impl_pointMats.l0 k1 a0 (x3_1 ++ [(⟨wrap64 ((wrap64 (Int.tdiv x10_1 27)) - 1), wrap64 ((Int.tmod (wrap64 (Int.tdiv x10_1 9)) 3) - 1), wrap64 ((Int.tmod (wrap64 (Int.tdiv x10_1 3)) 3) - 1), wrap64 ((Int.tmod x10_1 3) - 1)⟩ : S51)]) (wrap64 (x10_1 + 1))) else (none)) else (impl_pointMats.l0 k1 a0 x3_1 (wrap64 (x10_1 + 1)))) = some r := H
      by_cases c13 : t405 = (wrap64 (2 + a0))
      ·rw [if_pos c13] at H
       have c13b0 : (t405 == (wrap64 (2 + a0))) = true := beq_iff_eq.mpr c13
       have c13b1 : (t405 != (wrap64 (2 + a0))) = false := bne_eq_false_iff_eq.mpr c13
       clear c13
       by_cases c14 : x3_1.length < 4398046511104
       ·rw [if_pos c14] at H
        have LMc14 := Aside0.mk c14
        clear c14
        obtain ⟨y406, hy406⟩ : ∃ y_ : List (S51), y_ = (x3_1 ++ [(⟨wrap64 ((wrap64 (Int.tdiv x10_1 27)) - 1), wrap64 ((Int.tmod (wrap64 (Int.tdiv x10_1 9)) 3) - 1), wrap64 ((Int.tmod (wrap64 (Int.tdiv x10_1 3)) 3) - 1), wrap64 ((Int.tmod x10_1 3) - 1)⟩ : S51)]) := ⟨_, rfl⟩
        replace H : (impl_pointMats.l0 k1 a0 y406 (wrap64 (x10_1 + 1))) = some r := by first | (rw [hy406]; with_reducible exact H) | (have H2_ := (Option.bind_some _ _).symm.trans H; rw [hy406]; with_reducible exact H2_) | (have H2_ := (Option.bind_some _ _).symm.trans H; with_reducible exact H2_) | with_reducible exact H | (rw [hy406]; exact H) | exact H
        have Ny406 := Aside0.mk hy406
        clear hy406
        have H' := Aside0.mk H
        clear H
        try go_wp2_with (first | ((with_reducible refine gate_callee (f := 122) rfl ?_); refine gl 39 Try.func122 #[.int .i64 a0, .agg #[.int .i64 t394, .int .i64 t395]] ?_; (with_reducible refine (impl_norm.calls _ _ _ _ _ A8.out).mono ?_); rintro e w36 ⟨rfl, hb⟩; refine ⟨_, rfl, ?_⟩; replace HO_3 := asd (Kd.R_below (kr HO_3) hb); replace BK393 := bB BK393 hb; replace BK400 := bB BK400 hb; replace BK401 := bB BK401 hb; replace BK402 := bB BK402 hb; replace HB := bS4 HB GE393 GE400 GE401 GE402 hb; (try clear hb); have hnb37 := NB401_393.out; have hnc37 := NB393_401.out; have hnb38 := NB401_402.out; have hnc38 := NB402_401.out; obtain ⟨hcz39_0, hcz39_1, hfz39_0, hfz39_1⟩ := bz2 BK401) | (go_at_call 122; (with_reducible refine (impl_norm.calls _ _ _ _ _ A10.out).mono ?_); rintro e w40 ⟨rfl, hb⟩; replace HO_3 := asd (Kd.R_below (kr HO_3) hb); replace BK393 := bB BK393 hb; replace BK400 := bB BK400 hb; replace BK401 := bB BK401 hb; replace BK402 := bB BK402 hb; replace HB := bS4 HB GE393 GE400 GE401 GE402 hb; (try clear hb); have hnb41 := NB402_393.out; have hnc41 := NB393_402.out; obtain ⟨hcz42_0, hcz42_1, hfz42_0, hfz42_1⟩ := bz2 BK402) | (go_at_call 122; (with_reducible refine (impl_norm.calls _ _ _ _ _ A12.out).mono ?_); rintro e w43 ⟨rfl, hb⟩; replace HO_3 := asd (Kd.R_below (kr HO_3) hb); replace BK393 := bB BK393 hb; replace BK400 := bB BK400 hb; replace BK401 := bB BK401 hb; replace BK402 := bB BK402 hb; replace HB := bS4 HB GE393 GE400 GE401 GE402 hb; (try clear hb); obtain ⟨hcz44_0, hcz44_1, hcz44_2, hcz44_3, hfz44_0, hfz44_1, hfz44_2, hfz44_3⟩ := bz4 BK393) | ((with_reducible refine gate_builtin (b := .append) (xs := #[.tmp 55, .tmp 57]) rfl ?_); at_builtin; refine Kd.R_append k51 (w0 := w) w.heap.size rfl (.tmp 55) (.tmp 57) 44 51 (.agg #[(.int .i64 0), (.int .i64 0), (.int .i64 0), (.int .i64 0)]) 32 rfl Try.underlying44 info51 rfl (by decide) (by omega) u3 x3_1 (⟨wrap64 ((wrap64 (Int.tdiv x10_1 27)) - 1), wrap64 ((Int.tmod (wrap64 (Int.tdiv x10_1 9)) 3) - 1), wrap64 ((Int.tmod (wrap64 (Int.tdiv x10_1 3)) 3) - 1), wrap64 ((Int.tmod x10_1 3) - 1)⟩ : S51) [.int .i64 (wrap64 ((wrap64 (Int.tdiv x10_1 27)) - 1)), .int .i64 (wrap64 ((Int.tmod (wrap64 (Int.tdiv x10_1 9)) 3) - 1)), .int .i64 (wrap64 ((Int.tmod (wrap64 (Int.tdiv x10_1 3)) 3) - 1)), .int .i64 (wrap64 ((Int.tmod x10_1 3) - 1))] (fun k_ => k_ ≠ gb393) (fun _ => False) rfl rfl ?aP (fun _ hk => hk.elim) ?aF ?aO ?aB ?aS ?aL ?_; (case aP => exact k51_mkM _ _ _ (⟨wrap64 ((wrap64 (Int.tdiv x10_1 27)) - 1), wrap64 ((Int.tmod (wrap64 (Int.tdiv x10_1 9)) 3) - 1), wrap64 ((Int.tmod (wrap64 (Int.tdiv x10_1 3)) 3) - 1), wrap64 ((Int.tmod x10_1 3) - 1)⟩ : S51)); (case aB => exact (bbw4 HB GE393 GE400 GE401 GE402)); (case aF => exact (fun k_ hk => Kd.freshB (g := gb393) (o := .cells #[.int .i64 (wrap64 ((wrap64 (Int.tdiv x10_1 27)) - 1)), .int .i64 (wrap64 ((Int.tmod (wrap64 (Int.tdiv x10_1 9)) 3) - 1)), .int .i64 (wrap64 ((Int.tmod (wrap64 (Int.tdiv x10_1 3)) 3) - 1)), .int .i64 (wrap64 ((Int.tmod x10_1 3) - 1))] 51 (0, 0)) (bkp BK393) k_ hk)); (case aO => exact (kr HO_3)); (case aS => exact (bsz4 HB GE393 GE400 GE401 GE402)); (case aL => have := LMc14.out; omega); intro v407 w45 ho hb hg hat; rw [← Ny406.out] at ho; have n0_ := asd (blk_grown (g := gb393) (o := .cells #[.int .i64 (wrap64 ((wrap64 (Int.tdiv x10_1 27)) - 1)), .int .i64 (wrap64 ((Int.tmod (wrap64 (Int.tdiv x10_1 9)) 3) - 1)), .int .i64 (wrap64 ((Int.tmod (wrap64 (Int.tdiv x10_1 3)) 3) - 1)), .int .i64 (wrap64 ((Int.tmod x10_1 3) - 1))] 51 (0, 0)) (bkp BK393) hg (Kd.R_away HO_3.out (fun _ hk => hk))); have n1_ := asd (blk_grown (g := gb400) (o := .cells #[.int .i64 t394, .int .i64 t395] 53 (0, 0)) (bkp BK400) hg (Kd.R_ne HO_3.out BK400.out (by decide))); have n2_ := asd (blk_grown (g := gb401) (o := .cells #[.int .i64 t396, .int .i64 t397] 53 (0, 0)) (bkp BK401) hg (Kd.R_ne HO_3.out BK401.out (by decide))); have n3_ := asd (blk_grown (g := gb402) (o := .cells #[.int .i64 t398, .int .i64 t399] 53 (0, 0)) (bkp BK402) hg (Kd.R_ne HO_3.out BK402.out (by decide))); have n4_ := asd (hb); have n5_ := asd (ho); clear BK393; clear BK400; clear BK401; clear BK402; clear HB; clear HO_3; have BK393 := n0_; have BK400 := n1_; have BK401 := n2_; have BK402 := n3_; have HB := n4_; have HO408 := n5_; clear n0_ n1_ n2_ n3_ n4_ n5_; clear ho hb hg hat))
        go_roundg k1
        case measure => have := HK1.out; omega
        case rel => exact ⟨(y406), (wrap64 (x10_1 + 1)), (by first | rfl | (simp; done) | (simp [*]; done)), H', ⟨by have := HK1.out; omega⟩, ⟨by (with_reducible repeat (first | apply Kd.R_alloc | apply Kd.R_drewN | apply Kd.R_drew)); exact Kd.R_mono HO408.out (fun _ hk => trivial)⟩, ⟨bbw4 HB GE393 GE400 GE401 GE402⟩⟩
       ·rw [if_neg c14] at H
        exact absurd H (by simp)
      ·rw [if_neg c13] at H
       have c13b0 : (t405 == (wrap64 (2 + a0))) = false := beq_eq_false_iff_ne.mpr c13
       have c13b1 : (t405 != (wrap64 (2 + a0))) = true := bne_iff_ne.mpr c13
       have H' := Aside0.mk H
       clear H
       try go_wp2_with (first | ((with_reducible refine gate_callee (f := 122) rfl ?_); refine gl 39 Try.func122 #[.int .i64 a0, .agg #[.int .i64 t394, .int .i64 t395]] ?_; (with_reducible refine (impl_norm.calls _ _ _ _ _ A8.out).mono ?_); rintro e w67 ⟨rfl, hb⟩; refine ⟨_, rfl, ?_⟩; replace HO_3 := asd (Kd.R_below (kr HO_3) hb); replace BK393 := bB BK393 hb; replace BK400 := bB BK400 hb; replace BK401 := bB BK401 hb; replace BK402 := bB BK402 hb; replace HB := bS4 HB GE393 GE400 GE401 GE402 hb; (try clear hb); have hnb68 := NB401_393.out; have hnc68 := NB393_401.out; have hnb69 := NB401_402.out; have hnc69 := NB402_401.out; obtain ⟨hcz70_0, hcz70_1, hfz70_0, hfz70_1⟩ := bz2 BK401) | (go_at_call 122; (with_reducible refine (impl_norm.calls _ _ _ _ _ A10.out).mono ?_); rintro e w71 ⟨rfl, hb⟩; replace HO_3 := asd (Kd.R_below (kr HO_3) hb); replace BK393 := bB BK393 hb; replace BK400 := bB BK400 hb; replace BK401 := bB BK401 hb; replace BK402 := bB BK402 hb; replace HB := bS4 HB GE393 GE400 GE401 GE402 hb; (try clear hb); have hnb72 := NB402_393.out; have hnc72 := NB393_402.out; obtain ⟨hcz73_0, hcz73_1, hfz73_0, hfz73_1⟩ := bz2 BK402) | (go_at_call 122; (with_reducible refine (impl_norm.calls _ _ _ _ _ A12.out).mono ?_); rintro e w74 ⟨rfl, hb⟩; replace HO_3 := asd (Kd.R_below (kr HO_3) hb); replace BK393 := bB BK393 hb; replace BK400 := bB BK400 hb; replace BK401 := bB BK401 hb; replace BK402 := bB BK402 hb; replace HB := bS4 HB GE393 GE400 GE401 GE402 hb; (try clear hb)))
       go_roundg k1
       case measure => have := HK1.out; omega
       case rel => exact ⟨(x3_1), (wrap64 (x10_1 + 1)), (by first | rfl | (simp; done) | (simp [*]; done)), H', ⟨by have := HK1.out; omega⟩, ⟨by (with_reducible repeat (first | apply Kd.R_alloc | apply Kd.R_drewN | apply Kd.R_drew)); exact Kd.R_mono HO_3.out (fun _ hk => trivial)⟩, ⟨bbw4 HB GE393 GE400 GE401 GE402⟩⟩
     ·rw [if_neg c11] at H
      have c11b0 : (t404 == 1) = false := beq_eq_false_iff_ne.mpr c11
      have c11b1 : (t404 != 1) = true := bne_iff_ne.mpr c11
      have H' := Aside0.mk H
      clear H
      try go_wp2_with (first | ((with_reducible refine gate_callee (f := 122) rfl ?_); refine gl 39 Try.func122 #[.int .i64 a0, .agg #[.int .i64 t394, .int .i64 t395]] ?_; (with_reducible refine (impl_norm.calls _ _ _ _ _ A8.out).mono ?_); rintro e w96 ⟨rfl, hb⟩; refine ⟨_, rfl, ?_⟩; replace HO_3 := asd (Kd.R_below (kr HO_3) hb); replace BK393 := bB BK393 hb; replace BK400 := bB BK400 hb; replace BK401 := bB BK401 hb; replace BK402 := bB BK402 hb; replace HB := bS4 HB GE393 GE400 GE401 GE402 hb; (try clear hb); have hnb97 := NB401_393.out; have hnc97 := NB393_401.out; have hnb98 := NB401_402.out; have hnc98 := NB402_401.out; obtain ⟨hcz99_0, hcz99_1, hfz99_0, hfz99_1⟩ := bz2 BK401) | (go_at_call 122; (with_reducible refine (impl_norm.calls _ _ _ _ _ A10.out).mono ?_); rintro e w100 ⟨rfl, hb⟩; replace HO_3 := asd (Kd.R_below (kr HO_3) hb); replace BK393 := bB BK393 hb; replace BK400 := bB BK400 hb; replace BK401 := bB BK401 hb; replace BK402 := bB BK402 hb; replace HB := bS4 HB GE393 GE400 GE401 GE402 hb; (try clear hb)))
      go_roundg k1
      case measure => have := HK1.out; omega
      case rel => exact ⟨(x3_1), (wrap64 (x10_1 + 1)), (by first | rfl | (simp; done) | (simp [*]; done)), H', ⟨by have := HK1.out; omega⟩, ⟨by (with_reducible repeat (first | apply Kd.R_alloc | apply Kd.R_drewN | apply Kd.R_drew)); exact Kd.R_mono HO_3.out (fun _ hk => trivial)⟩, ⟨bbw4 HB GE393 GE400 GE401 GE402⟩⟩
    ·rw [if_neg c9] at H
     have c9b0 : (t403 == 1) = false := beq_eq_false_iff_ne.mpr c9
     have c9b1 : (t403 != 1) = true := bne_iff_ne.mpr c9
     have H' := Aside0.mk H
     clear H
     try go_wp2_with (first | ((with_reducible refine gate_callee (f := 122) rfl ?_); refine gl 39 Try.func122 #[.int .i64 a0, .agg #[.int .i64 t394, .int .i64 t395]] ?_; (with_reducible refine (impl_norm.calls _ _ _ _ _ A8.out).mono ?_); rintro e w122 ⟨rfl, hb⟩; refine ⟨_, rfl, ?_⟩; replace HO_3 := asd (Kd.R_below (kr HO_3) hb); replace BK393 := bB BK393 hb; replace BK400 := bB BK400 hb; replace BK401 := bB BK401 hb; replace BK402 := bB BK402 hb; replace HB := bS4 HB GE393 GE400 GE401 GE402 hb; (try clear hb)))
     go_roundg k1
     case measure => have := HK1.out; omega
     case rel => exact ⟨(x3_1), (wrap64 (x10_1 + 1)), (by first | rfl | (simp; done) | (simp [*]; done)), H', ⟨by have := HK1.out; omega⟩, ⟨by (with_reducible repeat (first | apply Kd.R_alloc | apply Kd.R_drewN | apply Kd.R_drew)); exact Kd.R_mono HO_3.out (fun _ hk => trivial)⟩, ⟨bbw4 HB GE393 GE400 GE401 GE402⟩⟩
   ·rw [if_neg c4] at H
    have c4b0 : decide (x10_1 < 81) = false := decide_eq_false c4
    clear c4
    obtain rfl := Option.some.inj H
    go_wp2
    go_ret
    exact ⟨_, by first | rfl | (simp [errW_none, errW_some] <;> rfl) | (simp [*, errW_none, errW_some] <;> rfl), by (with_reducible repeat (first | apply Kd.R_alloc | apply Kd.R_drewN | apply Kd.R_drew)); exact HO_3.out, bbw0 HB⟩

/-! ### impl_Lattice_has: function 114 -/
def impl_Lattice_has.f (a0_0 : Int) (a0_1 : Int) (a0_2 : Int) (a1_0 : Int) (a1_1 : Int) : Option (Bool) := (impl_Lattice_reduce.f a0_0 a0_1 a0_2 a1_0 a1_1).bind fun bt411 => (some (bt411.1 == 0 && (bt411.2 == 0)))
set_option maxHeartbeats 8000000 in
set_option maxRecDepth 100000 in
theorem impl_Lattice_has.calls (a0_0 : Int) (a0_1 : Int) (a0_2 : Int) (a1_0 : Int) (a1_1 : Int) (r : Bool) (w : World) (h : impl_Lattice_has.f a0_0 a0_1 a0_2 a1_0 a1_1 = some r) :
  Calls Try.prog 114 #[.agg #[.int .i64 a0_0, .int .i64 a0_1, .int .i64 a0_2], .agg #[.int .i64 a1_0, .int .i64 a1_1]] w fun e w' => e = .returned (.bool r) ∧ Below w.heap.size w w' := by
 have hu27 := Try.underlying27
 have hu53 := Try.underlying53
 have HB := asd (Below.refl w.heap.size w)
 have H : ((impl_Lattice_reduce.f a0_0 a0_1 a0_2 a1_0 a1_1).bind fun bt411 => (some (bt411.1 == 0 && (bt411.2 == 0)))) = some r := h
 clear h
 obtain ⟨⟨t411, t412⟩, A3, H⟩ := ob H
 replace H : (some (t411 == 0 && (t412 == 0))) = some r := H
 obtain rfl := Option.some.inj H
 go_enter Try.func114, Try.ntmps114
 go_wp2_with (first | ((with_reducible refine gd 2 rfl ?_); refine bx #[.int .i64 a0_0, .int .i64 a0_1, .int .i64 a0_2] 27 ?_; intro gb409 hg w4 BK409 hb; have GE409 := ngw0 hg HB; replace HB := bS0 HB hb; clear hb hg) | ((with_reducible refine gd 3 rfl ?_); refine bx #[.int .i64 a1_0, .int .i64 a1_1] 53 ?_; intro gb410 hg w5 BK410 hb; have GE410 := ngw1 hg HB GE409; replace HB := bS1 HB GE409 hb; have NB409_410 := nlt hg BK409; have NB410_409 := nsy (nlt hg BK409); replace BK409 := bB BK409 hb; clear hb hg; have hnb6 := NB409_410.out; have hnc6 := NB410_409.out; obtain ⟨hcz7_0, hcz7_1, hcz7_2, hfz7_0, hfz7_1, hfz7_2⟩ := bz3 BK409; obtain ⟨hcz8_0, hcz8_1, hfz8_0, hfz8_1⟩ := bz2 BK410) | ((with_reducible refine gate_callee (f := 97) rfl ?_); refine gl 7 Try.func97 #[.agg #[.int .i64 a0_0, .int .i64 a0_1, .int .i64 a0_2], .agg #[.int .i64 a1_0, .int .i64 a1_1]] ?_; (with_reducible refine (impl_Lattice_reduce.calls _ _ _ _ _ _ _ _ A3.out).mono ?_); rintro e w9 ⟨rfl, hb⟩; refine ⟨_, rfl, ?_⟩; replace BK409 := bB BK409 hb; replace BK410 := bB BK410 hb; replace HB := bS2 HB GE409 GE410 hb; (try clear hb)))
 go_ret
 exact er (bbw2 HB GE409 GE410)

attribute [local go_sem high] eqA51
/-! ### impl_latticeMats: function 95 -/
def impl_latticeMats.app (m : S51) (x y : Int) : Int × Int := (impl_Mat_apply.f m.f0 m.f1 m.f2 m.f3 x y).getD (0, 0)
def impl_latticeMats.hasB (a b c : Int) (t : Int × Int) : Bool := (impl_Lattice_has.f a b c t.1 t.2).getD false
/-- Does a matrix map a lattice into itself? -/
def impl_latticeMats.keep (a b c : Int) (m : S51) : Bool := impl_latticeMats.hasB a b c (impl_latticeMats.app m a 0) && impl_latticeMats.hasB a b c (impl_latticeMats.app m b c)
theorem impl_latticeMats.app_eq (m : S51) (x y : Int) : impl_Mat_apply.f m.f0 m.f1 m.f2 m.f3 x y = some ((impl_latticeMats.app m x y).1, (impl_latticeMats.app m x y).2) := rfl
theorem impl_latticeMats.has_eq (a b c : Int) (ha : a ≠ 0) (hc : c ≠ 0) (t : Int × Int) : impl_Lattice_has.f a b c t.1 t.2 = some (impl_latticeMats.hasB a b c t) := by
 have : (impl_Lattice_has.f a b c t.1 t.2).isSome = true := by
  simp [impl_Lattice_has.f, impl_Lattice_reduce.f, impl_mod.f, ha, hc]
 obtain ⟨r, hr⟩ := Option.isSome_iff_exists.1 this
 unfold impl_latticeMats.hasB
 rw [hr]; rfl
def impl_latticeMats.f (k : Nat) (a0 : Int) (a1_0 : Int) (a1_1 : Int) (a1_2 : Int) : Option (List S51) := if a1_0 = 0 then none else (if a1_2 = 0 then none else ((impl_pointMats.f k a0).bind fun l => some (l.filter (impl_latticeMats.keep a1_0 a1_1 a1_2))))
abbrev impl_latticeMats.Held (W : World) (a b c : Int) (L U V B : Nat) (x : S51) (w' : World) : Prop := Below W.heap.size W w' ∧ w'.cell? ⟨L, 0, none⟩ = some (.int .i64 a) ∧ w'.cell? ⟨L, 1, none⟩ = some (.int .i64 b) ∧ w'.cell? ⟨L, 2, none⟩ = some (.int .i64 c) ∧ w'.cell? ⟨U, 0, none⟩ = some (.int .i64 a) ∧ w'.cell? ⟨U, 1, none⟩ = some (.int .i64 0) ∧ w'.cell? ⟨V, 0, none⟩ = some (.int .i64 b) ∧ w'.cell? ⟨V, 1, none⟩ = some (.int .i64 c) ∧ w'.cell? ⟨B, 0, none⟩ = some (.int .i64 x.f0) ∧ w'.cell? ⟨B, 1, none⟩ = some (.int .i64 x.f1) ∧ w'.cell? ⟨B, 2, none⟩ = some (.int .i64 x.f2) ∧ w'.cell? ⟨B, 3, none⟩ = some (.int .i64 x.f3)
theorem impl_latticeMats.held_below {W : World} {a b c : Int} {L U V B : Nat} {x : S51} {w w' : World} (h : impl_latticeMats.Held W a b c L U V B x w) (hb : Below w.heap.size w w') : impl_latticeMats.Held W a b c L U V B x w' := by
 obtain ⟨h0, s0, s1, s2, s3, s4, s5, s6, s7, s8, s9, s10⟩ := h
 exact ⟨below_then h0 h0.size hb, (hb.cell (World.block_lt_of_cell? w _ s0)).trans s0, (hb.cell (World.block_lt_of_cell? w _ s1)).trans s1, (hb.cell (World.block_lt_of_cell? w _ s2)).trans s2, (hb.cell (World.block_lt_of_cell? w _ s3)).trans s3, (hb.cell (World.block_lt_of_cell? w _ s4)).trans s4, (hb.cell (World.block_lt_of_cell? w _ s5)).trans s5, (hb.cell (World.block_lt_of_cell? w _ s6)).trans s6, (hb.cell (World.block_lt_of_cell? w _ s7)).trans s7, (hb.cell (World.block_lt_of_cell? w _ s8)).trans s8, (hb.cell (World.block_lt_of_cell? w _ s9)).trans s9, (hb.cell (World.block_lt_of_cell? w _ s10)).trans s10⟩
theorem impl_latticeMats.held_drew {W : World} {a b c : Int} {L U V B : Nat} {x : S51} {w : World} (h : impl_latticeMats.Held W a b c L U V B x w) : impl_latticeMats.Held W a b c L U V B x w.drew := ⟨below_drew1 h.1, h.2⟩
set_option maxHeartbeats 40000000 in
set_option maxRecDepth 100000 in
theorem impl_latticeMats.pred (a b c : Int) (L U V : Nat) (W : World) (hl0 : W.cell? ⟨L, 0, none⟩ = some (.int .i64 a)) (hl1 : W.cell? ⟨L, 1, none⟩ = some (.int .i64 b)) (hl2 : W.cell? ⟨L, 2, none⟩ = some (.int .i64 c)) (hu0 : W.cell? ⟨U, 0, none⟩ = some (.int .i64 a)) (hu1 : W.cell? ⟨U, 1, none⟩ = some (.int .i64 0)) (hv0 : W.cell? ⟨V, 0, none⟩ = some (.int .i64 b)) (hv1 : W.cell? ⟨V, 1, none⟩ = some (.int .i64 c)) (ha : a ≠ 0) (hc : c ≠ 0) (x : S51) :
  Calls Try.prog 113 (#[.agg #[.int .i64 x.f0, .int .i64 x.f1, .int .i64 x.f2, .int .i64 x.f3]] ++ #[.pointer (some ⟨L, 0, none⟩), .pointer (some ⟨U, 0, none⟩), .pointer (some ⟨V, 0, none⟩)]) W fun e w' => e = .returned (.bool (!(impl_latticeMats.keep a b c x))) ∧ Below W.heap.size W w' := by
 show Calls Try.prog 113 #[.agg #[.int .i64 x.f0, .int .i64 x.f1, .int .i64 x.f2, .int .i64 x.f3], .pointer (some ⟨L, 0, none⟩), .pointer (some ⟨U, 0, none⟩), .pointer (some ⟨V, 0, none⟩)] W _
 have hu33 := Try.underlying51
 have hu34 := Try.underlying53
 have hu31 := Try.underlying27
 have A1 := asd (impl_latticeMats.app_eq x a 0)
 have A2 := asd (impl_latticeMats.has_eq a b c ha hc (impl_latticeMats.app x a 0))
 have A3 := asd (impl_latticeMats.app_eq x b c)
 have A4 := asd (impl_latticeMats.has_eq a b c ha hc (impl_latticeMats.app x b c))
 unfold impl_latticeMats.keep
 generalize impl_latticeMats.app x a 0 = p1 at A1 A2 ⊢
 generalize impl_latticeMats.app x b c = p2 at A3 A4 ⊢
 generalize impl_latticeMats.hasB a b c p1 = r1 at A2 ⊢
 generalize impl_latticeMats.hasB a b c p2 = r2 at A4 ⊢
 have hb0 := below_alloc (Below.refl W.heap.size W) (.cells #[.int .i64 x.f0, .int .i64 x.f1, .int .i64 x.f2, .int .i64 x.f3] 51)
 have hS0 : impl_latticeMats.Held W a b c L U V W.heap.size x (W.alloc (.cells #[.int .i64 x.f0, .int .i64 x.f1, .int .i64 x.f2, .int .i64 x.f3] 51)) :=
  ⟨hb0, (hb0.cell (World.block_lt_of_cell? W _ hl0)).trans hl0, (hb0.cell (World.block_lt_of_cell? W _ hl1)).trans hl1, (hb0.cell (World.block_lt_of_cell? W _ hl2)).trans hl2, (hb0.cell (World.block_lt_of_cell? W _ hu0)).trans hu0, (hb0.cell (World.block_lt_of_cell? W _ hu1)).trans hu1, (hb0.cell (World.block_lt_of_cell? W _ hv0)).trans hv0, (hb0.cell (World.block_lt_of_cell? W _ hv1)).trans hv1, by simp, by simp, by simp, by simp⟩
 have C1 := asd (fun (w' : World) (h : impl_latticeMats.Held W a b c L U V W.heap.size x w') => (impl_Mat_apply.calls _ _ _ _ _ _ _ _ _ A1.out).mono (fun e w'' (he : _ ∧ _) => (⟨he.1, impl_latticeMats.held_below h he.2⟩ : _ ∧ impl_latticeMats.Held W a b c L U V W.heap.size x w'')))
 have C2 := asd (fun (w' : World) (h : impl_latticeMats.Held W a b c L U V W.heap.size x w') => (impl_Lattice_has.calls _ _ _ _ _ _ _ A2.out).mono (fun e w'' (he : _ ∧ _) => (⟨he.1, impl_latticeMats.held_below h he.2⟩ : _ ∧ impl_latticeMats.Held W a b c L U V W.heap.size x w'')))
 have C3 := asd (fun (w' : World) (h : impl_latticeMats.Held W a b c L U V W.heap.size x w') => (impl_Mat_apply.calls _ _ _ _ _ _ _ _ _ A3.out).mono (fun e w'' (he : _ ∧ _) => (⟨he.1, impl_latticeMats.held_below h he.2⟩ : _ ∧ impl_latticeMats.Held W a b c L U V W.heap.size x w'')))
 have C4 := asd (fun (w' : World) (h : impl_latticeMats.Held W a b c L U V W.heap.size x w') => (impl_Lattice_has.calls _ _ _ _ _ _ _ A4.out).mono (fun e w'' (he : _ ∧ _) => (⟨he.1, impl_latticeMats.held_below h he.2⟩ : _ ∧ impl_latticeMats.Held W a b c L U V W.heap.size x w'')))
 clear hl0 hl1 hl2 hu0 hu1 hv0 hv1 ha hc hb0
 have hS1 := hS0
 obtain ⟨sb, s0, s1, s2, s3, s4, s5, s6, s7, s8, s9, s10⟩ := hS0
 cases r1 with
 | false =>
  go_enter Try.func113, Try.ntmps113
  go_wp2
  refine wp_region_held_drew (S := (fun w' => Below W.heap.size W w' ∧ w'.cell? ⟨L, 0, none⟩ = some (.int .i64 a) ∧ w'.cell? ⟨L, 1, none⟩ = some (.int .i64 b) ∧ w'.cell? ⟨L, 2, none⟩ = some (.int .i64 c) ∧ w'.cell? ⟨U, 0, none⟩ = some (.int .i64 a) ∧ w'.cell? ⟨U, 1, none⟩ = some (.int .i64 0) ∧ w'.cell? ⟨V, 0, none⟩ = some (.int .i64 b) ∧ w'.cell? ⟨V, 1, none⟩ = some (.int .i64 c) ∧ w'.cell? ⟨W.heap.size, 0, none⟩ = some (.int .i64 x.f0) ∧ w'.cell? ⟨W.heap.size, 1, none⟩ = some (.int .i64 x.f1) ∧ w'.cell? ⟨W.heap.size, 2, none⟩ = some (.int .i64 x.f2) ∧ w'.cell? ⟨W.heap.size, 3, none⟩ = some (.int .i64 x.f3))) (by kernel_rfl) (impl_latticeMats.held_drew hS1) (fun hHeld => ?_)
  refine wpAnyH_take (i := 0) (v := ?_) rfl (by kernel_rfl) (by kernel_rfl) (by kernel_rfl) (fun _ _ _ h => h) (Or.inl ⟨by rfl, ?_⟩) (by assumption) ?_
  rotate_left
  ·intro w' hSw; (try dsimp only at hSw); go_simp; first | done | with_reducible rfl
  rotate_left
  try simp only [Act.put, sA, sB, sC]
  refine wpAnyH_take (i := 1) (v := ?_) rfl (by kernel_rfl) (by kernel_rfl) (by kernel_rfl) (fun _ _ _ h => h) (Or.inl ⟨by rfl, ?_⟩) (by assumption) ?_
  rotate_left
  ·intro w' hSw; (try dsimp only at hSw); go_simp; first | done | with_reducible rfl
  rotate_left
  try simp only [Act.put, sA, sB, sC]
  refine wpAnyH_take (i := 2) (v := ?_) rfl (by kernel_rfl) (by kernel_rfl) (by kernel_rfl) (fun _ _ _ h => h) (Or.inl ⟨by rfl, ?_⟩) (by assumption) ?_
  rotate_left
  ·intro w' hSw; (try dsimp only at hSw); go_simp; first | done | with_reducible rfl
  rotate_left
  try simp only [Act.put, sA, sB, sC]
  refine wpAnyH_ready (rs := [3]) (by kernel_rfl) (by simp) ?_
  refine AllReadyH.cons rfl (fun K hK => ?_) AllReadyH.nil
  go_simp
  go_at_call 81
  (with_reducible refine (C1.out _ ?_).mono ?_)
  (assumption)
  rintro e w' ⟨rfl, hS'⟩
  refine hK.out _ _ (hS') (fun hHeld => ?_)
  clear hK K
  try simp only [Act.put, sA, sB, sC]
  refine wpAnyH_ready (rs := [4]) (by kernel_rfl) (by simp) ?_
  refine AllReadyH.cons rfl (fun K hK => ?_) AllReadyH.nil
  go_simp
  go_at_call 114
  (with_reducible refine (C2.out _ ?_).mono ?_)
  (assumption)
  rintro e w' ⟨rfl, hS'⟩
  refine hK.out _ _ (hS') (fun hHeld => ?_)
  clear hK K
  try simp only [Act.put, sA, sB, sC]
  refine wpAnyH_take (i := 5) (oi := { dst := some 11, op := _, type := _, pos := _, after := _, guard := _ }) (v := ?_) rfl (by kernel_rfl) (by kernel_rfl) (by kernel_rfl) (fun _ _ _ h => h) (Or.inl ⟨by rfl, ?_⟩) (by assumption) ?_
  rotate_left
  ·intro w' hSw; (try dsimp only at hSw); go_simp; first | done | with_reducible rfl
  rotate_left
  try simp only [Act.put, sA, sB, sC]
  refine wpAnyH_take (i := 6) (oi := { dst := some 12, op := _, type := _, pos := _, after := _, guard := _ }) (v := ?_) rfl (by kernel_rfl) (by kernel_rfl) (by kernel_rfl) (fun _ _ _ h => h) (Or.inl ⟨by rfl, ?_⟩) (by assumption) ?_
  rotate_left
  ·intro w' hSw; (try dsimp only at hSw); go_simp; first | done | with_reducible rfl
  rotate_left
  try simp only [Act.put, sA, sB, sC]
  refine wpAnyH_take (i := 7) (oi := { dst := some 13, op := _, type := _, pos := _, after := _, guard := _ }) (v := _) rfl (by kernel_rfl) (by kernel_rfl) (by kernel_rfl) (fun _ _ _ h => h) (Or.inr ⟨by rfl, rfl⟩) (by assumption) ?_
  try simp only [Act.put, sA, sB, sC]
  refine wpAnyH_take (i := 8) (oi := { dst := some 14, op := _, type := _, pos := _, after := _, guard := _ }) (v := _) rfl (by kernel_rfl) (by kernel_rfl) (by kernel_rfl) (fun _ _ _ h => h) (Or.inr ⟨by rfl, rfl⟩) (by assumption) ?_
  try simp only [Act.put, sA, sB, sC]
  refine wpAnyH_take (i := 9) (oi := { dst := some 15, op := _, type := _, pos := _, after := _, guard := _ }) (v := _) rfl (by kernel_rfl) (by kernel_rfl) (by kernel_rfl) (fun _ _ _ h => h) (Or.inr ⟨by rfl, rfl⟩) (by assumption) ?_
  try simp only [Act.put, sA, sB, sC]
  refine wpAnyH_take (i := 10) (oi := { dst := some 16, op := _, type := _, pos := _, after := _, guard := _ }) (v := _) rfl (by kernel_rfl) (by kernel_rfl) (by kernel_rfl) (fun _ _ _ h => h) (Or.inr ⟨by rfl, rfl⟩) (by assumption) ?_
  try simp only [Act.put, sA, sB, sC]
  refine wpAnyH_take (i := 11) (oi := { dst := some 17, op := _, type := _, pos := _, after := _, guard := _ }) (v := _) rfl (by kernel_rfl) (by kernel_rfl) (by kernel_rfl) (fun _ _ _ h => h) (Or.inr ⟨by rfl, rfl⟩) (by assumption) ?_
  try simp only [Act.put, sA, sB, sC]
  refine wpAnyH_take (i := 12) (oi := { dst := some 18, op := Op.unOp UnOp.not _ (Operand.tmp 17), type := _, pos := _, after := _, guard := _ }) (v := _) rfl (by kernel_rfl) (by kernel_rfl) (by kernel_rfl) (fun _ _ _ h => h) (Or.inr ⟨by rfl, rfl⟩) (by assumption) ?_
  try simp only [Act.put, sA, sB, sC]
  refine wpAnyH_take (i := 13) (oi := { dst := some 19, op := Op.pick (Operand.tmp 12) (Operand.const (Value.bool true)) (Operand.tmp 18), type := _, pos := _, after := _, guard := _ }) (v := ?_) rfl (by kernel_rfl) (by kernel_rfl) (by kernel_rfl) (fun _ _ _ h => h) (Or.inl ⟨by rfl, ?_⟩) (by assumption) ?_
  rotate_left
  ·intro w' hSw; (try dsimp only at hSw); go_simp; first | done | with_reducible rfl
  rotate_left
  try simp only [Act.put, sA, sB, sC]
  refine wpAnyH_take (i := 14) (oi := { dst := some 5, op := Op.assign (Operand.tmp 19), type := _, pos := _, after := _, guard := _ }) (v := ?_) rfl (by kernel_rfl) (by kernel_rfl) (by kernel_rfl) (fun _ _ _ h => h) (Or.inl ⟨by rfl, ?_⟩) (by assumption) ?_
  rotate_left
  ·intro w' hSw; (try dsimp only at hSw); go_simp; first | done | with_reducible rfl
  rotate_left
  try simp only [Act.put, sA, sB, sC]
  refine wpAnyH_done (by kernel_rfl) ?_ _
  all_goals go_wp2
  all_goals go_ret
  all_goals exact ⟨by first | rfl | (cases r2 <;> rfl), (show impl_latticeMats.Held W a b c L U V W.heap.size x _ by assumption).1⟩
 | true =>
  go_enter Try.func113, Try.ntmps113
  go_wp2
  first | (go_region_held3 (fun w' => Below W.heap.size W w' ∧ w'.cell? ⟨L, 0, none⟩ = some (.int .i64 a) ∧ w'.cell? ⟨L, 1, none⟩ = some (.int .i64 b) ∧ w'.cell? ⟨L, 2, none⟩ = some (.int .i64 c) ∧ w'.cell? ⟨U, 0, none⟩ = some (.int .i64 a) ∧ w'.cell? ⟨U, 1, none⟩ = some (.int .i64 0) ∧ w'.cell? ⟨V, 0, none⟩ = some (.int .i64 b) ∧ w'.cell? ⟨V, 1, none⟩ = some (.int .i64 c) ∧ w'.cell? ⟨W.heap.size, 0, none⟩ = some (.int .i64 x.f0) ∧ w'.cell? ⟨W.heap.size, 1, none⟩ = some (.int .i64 x.f1) ∧ w'.cell? ⟨W.heap.size, 2, none⟩ = some (.int .i64 x.f2) ∧ w'.cell? ⟨W.heap.size, 3, none⟩ = some (.int .i64 x.f3)) (first | assumption | exact impl_latticeMats.held_drew hS1 | go_keep)
   (first | (go_at_call 81; (with_reducible refine (C1.out _ ?_).mono ?_); (assumption); rintro e w' ⟨rfl, hS'⟩) | (go_at_call 114; (with_reducible refine (C2.out _ ?_).mono ?_); (assumption); rintro e w' ⟨rfl, hS'⟩) | (go_at_call 81; (with_reducible refine (C3.out _ ?_).mono ?_); (assumption); rintro e w' ⟨rfl, hS'⟩) | (go_at_call 114; (with_reducible refine (C4.out _ ?_).mono ?_); (assumption); rintro e w' ⟨rfl, hS'⟩))) | (fail "held3")
  all_goals go_wp2
  all_goals go_ret
  all_goals exact ⟨by first | rfl | (cases r2 <;> rfl), (show impl_latticeMats.Held W a b c L U V W.heap.size x _ by assumption).1⟩
set_option maxHeartbeats 4000000 in
set_option maxRecDepth 100000 in
theorem impl_latticeMats.calls (k : Nat) (a0 : Int) (a1_0 : Int) (a1_1 : Int) (a1_2 : Int) (r : List S51) (w : World) (h : impl_latticeMats.f k a0 a1_0 a1_1 a1_2 = some r) :
  Calls Try.prog 95 #[.int .i64 a0, .agg #[.int .i64 a1_0, .int .i64 a1_1, .int .i64 a1_2]] w fun e w' => ∃ v0_ : Value, e = .returned (v0_) ∧ Kd.R k51 51 w' w.heap.size (fun _ => True) v0_ r ∧ Below w.heap.size w w' := by
 have hu34 := Try.underlying53
 have hu31 := Try.underlying27
 unfold impl_latticeMats.f at h
 by_cases ha : a1_0 = 0
 ·rw [if_pos ha] at h; cases h
 rw [if_neg ha] at h
 by_cases hc : a1_2 = 0
 ·rw [if_pos hc] at h; cases h
 rw [if_neg hc] at h
 obtain ⟨l, h1, h2⟩ := Option.bind_eq_some_iff.1 h
 have hr := Option.some.inj h2
 subst hr
 have A1 := Aside0.mk h1
 have HA := Aside0.mk ha
 have HC := Aside0.mk hc
 have ABS := asd (show impl_Lattice_basis.f a1_0 a1_1 a1_2 = some (a1_0, 0, a1_1, a1_2) from rfl)
 clear h h1 h2 ha hc
 have eg : ∀ args w, (callFunc 113 args).run Try.prog w = .ok (.enter 113 args) w := enters_of Try.func113 (by kernel_rfl) rfl
 have EG := Aside0.mk eg
 clear eg
 go_enter Try.func95, Try.ntmps95
 go_wp2_with (first | (go_at_call 110; (with_reducible refine (impl_Lattice_basis.calls _ _ _ _ _ _ _ _ ABS.out).mono ?_); rintro e w2 ⟨rfl, hb2⟩; have HB2 := asd (below_then (below_alloc (Below.refl w.heap.size w) _) (below_alloc (Below.refl w.heap.size w) _).size hb2); have HL := Aside0.mk hb2; clear hb2) | (go_at_call 112; (with_reducible refine (impl_pointMats.calls _ _ _ _ A1.out).mono ?_); rintro e w3 ⟨v0, rfl, hR, hb3⟩; have HR3 := Aside0.mk hR; have HB3 := Aside0.mk hb3; clear hR hb3))
 obtain ⟨wA, hwA⟩ : ∃ wA, wA = (w2.alloc (.cells #[.int .i64 a1_0, .int .i64 0] 53)).alloc (.cells #[.int .i64 a1_1, .int .i64 a1_2] 53) := ⟨_, rfl⟩
 have hAB : Below w2.heap.size w2 wA := by rw [hwA]; exact below_alloc (below_alloc (Below.refl _ _) _) _
 have hl : ∀ o v, (w.alloc (.cells #[.int .i64 a1_0, .int .i64 a1_1, .int .i64 a1_2] 27)).cell? ⟨w.heap.size, o, none⟩ = some v → wA.cell? ⟨w.heap.size, o, none⟩ = some v := fun o v hv => by
  have h1 : w2.cell? ⟨w.heap.size, o, none⟩ = some v := (HL.out.cell (p := ⟨w.heap.size, o, none⟩) (by simp)).trans hv
  exact (hAB.cell (World.block_lt_of_cell? w2 _ h1)).trans h1
 have hl0 := hl 0 (.int .i64 a1_0) (by simp)
 have hl1 := hl 1 (.int .i64 a1_1) (by simp)
 have hl2 := hl 2 (.int .i64 a1_2) (by simp)
 have hu0 : wA.cell? ⟨w2.heap.size, 0, none⟩ = some (.int .i64 a1_0) := by rw [hwA]; simp
 have hu1 : wA.cell? ⟨w2.heap.size, 1, none⟩ = some (.int .i64 0) := by rw [hwA]; simp
 have hv0 : wA.cell? ⟨w2.heap.size + 1, 0, none⟩ = some (.int .i64 a1_1) := by rw [hwA]; simp
 have hv1 : wA.cell? ⟨w2.heap.size + 1, 1, none⟩ = some (.int .i64 a1_2) := by rw [hwA]; simp
 have hBA : Below w.heap.size w wA := below_then HB2.out HB2.out.size hAB
 have HR4 := HR3.out
 have HB4 := HB3.out
 rw [← hwA] at HR4 HB4
 have up : ∀ (W : World) (p : Addr) (v : Value), Below wA.heap.size wA W → wA.cell? p = some v → W.cell? p = some v := fun W p v hb h => (hb.cell (World.block_lt_of_cell? wA _ h)).trans h
 refine (impl_Mat_111.calls (fun x => !(impl_latticeMats.keep a1_0 a1_1 a1_2 x)) 113 #[.pointer (some ⟨w.heap.size, 0, none⟩), .pointer (some ⟨w2.heap.size, 0, none⟩), .pointer (some ⟨w2.heap.size + 1, 0, none⟩)] EG.out (fun k_ => wA.heap.size ≤ k_) v0 l wA w3 HB4 (Kd.R_mono (Kd.R_bound HR4) (fun k_ hk => hk.2.1)) (fun x W hb _ => impl_latticeMats.pred a1_0 a1_1 a1_2 w.heap.size w2.heap.size (w2.heap.size + 1) W (up W _ _ hb hl0) (up W _ _ hb hl1) (up W _ _ hb hl2) (up W _ _ hb hu0) (up W _ _ hb hu1) (up W _ _ hb hv0) (up W _ _ hb hv1) HA.out HC.out x)).mono ?_
 rintro e w4 ⟨v', rfl, hR4, hb4, _⟩
 have HR5 := Aside0.mk hR4
 have HB5 := Aside0.mk hb4
 have HBA := Aside0.mk hBA
 clear hl hl0 hl1 hl2 hu0 hu1 hv0 hv1 hAB hBA HR4 HB4 up hR4 hb4 hwA
 go_wp2
 go_ret
 refine ⟨_, rfl, ?_, below_then HBA.out HBA.out.size HB5.out⟩
 have hf : (l.filter fun x => !(!(impl_latticeMats.keep a1_0 a1_1 a1_2 x))) = l.filter (impl_latticeMats.keep a1_0 a1_1 a1_2) := by congr 1; funext x; simp
 have := HR5.out
 rw [hf] at this
 exact Kd.R_mono (Kd.R_lower this HBA.out.size) (fun _ _ => trivial)

/-! ### impl_Mat_115: function 115 -/
def impl_Mat_115.l0 : Nat → List (S51) → Int → Int → Int → Int → Int → Int → Option (Int)
 | 0, _, _, _, _, _, _, _ => none
 | k + 1, x0, x7, x8, x414000, x414001, x414002, x414003 => if x8 < x7 then (if 0 ≤ x8 then (if x8 < (x0.length : Int) then (if (x414000 == ((rd_T51 x0 x8).f0) && (x414001 == ((rd_T51 x0 x8).f1) && (x414002 == ((rd_T51 x0 x8).f2) && (x414003 == ((rd_T51 x0 x8).f3))))) = true then (some x8) else (impl_Mat_115.l0 k x0 x7 (wrap64 (x8 + 1)) x414000 x414001 x414002 x414003)) else (none)) else (none)) else (some (-1))
def impl_Mat_115.f (k : Nat) (l0 : List (S51)) (a1_0 : Int) (a1_1 : Int) (a1_2 : Int) (a1_3 : Int) : Option (Int) := impl_Mat_115.l0 k l0 (l0.length : Int) 0 a1_0 a1_1 a1_2 a1_3
set_option maxHeartbeats 8000000 in
set_option maxRecDepth 100000 in
theorem impl_Mat_115.calls (k : Nat) (A0 : Option Addr) (c0 : Nat) (l0 : List (S51)) (a1_0 : Int) (a1_1 : Int) (a1_2 : Int) (a1_3 : Int) (r : Int) (w : World) (hr0 : Kd.C k51 w A0 l0.length l0) (hc0 : l0.length ≤ c0) (h : impl_Mat_115.f k l0 a1_0 a1_1 a1_2 a1_3 = some r) :
  Calls Try.prog 115 #[.slice A0 l0.length c0, .agg #[.int .i64 a1_0, .int .i64 a1_1, .int .i64 a1_2, .int .i64 a1_3]] w fun e w' => e = .returned (.int .i64 r) ∧ Below w.heap.size w w' := by
 have hu51 := Try.underlying51
 have HR0 := Aside0.mk hr0
 have HC0 := Aside0.mk hc0
 clear hr0 hc0
 have HB := asd (Below.refl w.heap.size w)
 have H : (impl_Mat_115.l0 k l0 (l0.length : Int) 0 a1_0 a1_1 a1_2 a1_3) = some r := h
 clear h
 have H' := Aside0.mk H
 clear H
 go_enter Try.func115, Try.ntmps115
 go_wp2_with (first | ((with_reducible refine gd 3 rfl ?_); refine bx #[.int .i64 a1_0, .int .i64 a1_1, .int .i64 a1_2, .int .i64 a1_3] 51 ?_; intro gb413 hg w3 BK413 hb; have GE413 := ngw0 hg HB; replace HB := bS0 HB hb; clear hb hg))
 repeat (go_quiet (first | ((with_reducible refine gd 3 rfl ?_); refine bx #[.int .i64 a1_0, .int .i64 a1_1, .int .i64 a1_2, .int .i64 a1_3] 51 ?_; intro gb413 hg w3 BK413 hb; have GE413 := ngw0 hg HB; replace HB := bS0 HB hb; clear hb hg)); try go_wp2_with (first | ((with_reducible refine gd 3 rfl ?_); refine bx #[.int .i64 a1_0, .int .i64 a1_1, .int .i64 a1_2, .int .i64 a1_3] 51 ?_; intro gb413 hg w3 BK413 hb; have GE413 := ngw0 hg HB; replace HB := bS0 HB hb; clear hb hg)))
 go_loopg [8] k (fun kq v8 w' => ∃ (x8_1 : Int), v8 = .int .i64 x8_1 ∧ Aside0 (impl_Mat_115.l0 kq l0 (l0.length : Int) x8_1 a1_0 a1_1 a1_2 a1_3 = some r) ∧ Aside0 (kq ≤ k) ∧ Aside0 (w'.heap[gb413]? = some (.cells #[.int .i64 a1_0, .int .i64 a1_1, .int .i64 a1_2, .int .i64 a1_3] 51 (0, 0))) ∧ Aside0 (Below w.heap.size w w'))
 case atStart => exact ⟨(0), (by first | rfl | (simp; done) | (simp [*]; done)), H', ⟨Nat.le_refl _⟩, ⟨bkp BK413⟩, ⟨bbw1 HB GE413⟩⟩
 case round =>
  clear H'
  try clear c1
  try clear p2
  obtain ⟨x8_1, rfl, HA, HK1, BK413, HB⟩ := hrel
  cases gk with
  | zero => exact absurd HA.out (by simp [impl_Mat_115.l0])
  | succ k1 =>
   have H := HA.out
   clear HA
   simp only [impl_Mat_115.l0] at H
   by_cases c4 : x8_1 < (l0.length : Int)
   ·rw [if_pos c4] at H
    have c4b0 : decide (x8_1 < (l0.length : Int)) = true := decide_eq_true c4
    clear c4
    by_cases c5 : 0 ≤ x8_1
    ·rw [if_pos c5] at H
     have c5b0 : decide (0 ≤ x8_1) = true := decide_eq_true c5
     clear c5
     by_cases c6 : x8_1 < (l0.length : Int)
     ·rw [if_pos c6] at H
      have c6b0 : decide (x8_1 < (l0.length : Int)) = true := decide_eq_true c6
      clear c6
      by_cases c7 : (a1_0 == ((rd_T51 l0 x8_1).f0) && (a1_1 == ((rd_T51 l0 x8_1).f1) && (a1_2 == ((rd_T51 l0 x8_1).f2) && (a1_3 == ((rd_T51 l0 x8_1).f3))))) = true
      ·rw [if_pos c7] at H
       have c7b0 : (a1_0 == ((rd_T51 l0 x8_1).f0) && (a1_1 == ((rd_T51 l0 x8_1).f1) && (a1_2 == ((rd_T51 l0 x8_1).f2) && (a1_3 == ((rd_T51 l0 x8_1).f3))))) = true := c7
       (try (have c7b1 : decide (a1_0 = ((rd_T51 l0 x8_1).f0) && (a1_1 == ((rd_T51 l0 x8_1).f1) && (a1_2 == ((rd_T51 l0 x8_1).f2) && (a1_3 == ((rd_T51 l0 x8_1).f3))))) = true := by simpa using c7))
       (try (have c7b2 : (a1_0 == ((rd_T51 l0 x8_1).f0) && (a1_1 == ((rd_T51 l0 x8_1).f1) && (a1_2 == ((rd_T51 l0 x8_1).f2) && (a1_3 == ((rd_T51 l0 x8_1).f3))))) = true := by simpa using c7))
       clear c7
       obtain rfl := Option.some.inj H
       obtain ⟨hcz8_0, hcz8_1, hcz8_2, hcz8_3, hfz8_0, hfz8_1, hfz8_2, hfz8_3⟩ := bz4 BK413
       obtain ⟨p414, q414, ad414, e414, hx414_0, hx414_1, hx414_2, hx414_3⟩ := at_T51x HR0.out HB x8_1
       cases e414
       go_wp2
       repeat (go_quiet (fail); try go_wp2)
       go_ret
       exact er (bbw1 HB GE413)
      ·rw [if_neg c7] at H
       have c7b0 : (a1_0 == ((rd_T51 l0 x8_1).f0) && (a1_1 == ((rd_T51 l0 x8_1).f1) && (a1_2 == ((rd_T51 l0 x8_1).f2) && (a1_3 == ((rd_T51 l0 x8_1).f3))))) = false := by simpa using c7
       (try (have c7b1 : decide (a1_0 = ((rd_T51 l0 x8_1).f0) && (a1_1 == ((rd_T51 l0 x8_1).f1) && (a1_2 == ((rd_T51 l0 x8_1).f2) && (a1_3 == ((rd_T51 l0 x8_1).f3))))) = false := by simpa using c7))
       (try (have c7b2 : (a1_0 == ((rd_T51 l0 x8_1).f0) && (a1_1 == ((rd_T51 l0 x8_1).f1) && (a1_2 == ((rd_T51 l0 x8_1).f2) && (a1_3 == ((rd_T51 l0 x8_1).f3))))) = false := by simpa using c7))
       (try (have c7b3 : ¬ (a1_0 = ((rd_T51 l0 x8_1).f0) && (a1_1 == ((rd_T51 l0 x8_1).f1) && (a1_2 == ((rd_T51 l0 x8_1).f2) && (a1_3 == ((rd_T51 l0 x8_1).f3))))) := by simpa using c7))
       clear c7
       have H' := Aside0.mk H
       clear H
       obtain ⟨hcz9_0, hcz9_1, hcz9_2, hcz9_3, hfz9_0, hfz9_1, hfz9_2, hfz9_3⟩ := bz4 BK413
       obtain ⟨p414, q414, ad414, e414, hx414_0, hx414_1, hx414_2, hx414_3⟩ := at_T51x HR0.out HB x8_1
       cases e414
       go_wp2
       repeat (go_quiet (fail); try go_wp2)
       go_roundg k1
       case measure => have := HK1.out; omega
       case rel => exact ⟨(wrap64 (x8_1 + 1)), (by first | rfl | (simp; done) | (simp [*]; done)), H', ⟨by have := HK1.out; omega⟩, ⟨bkp BK413⟩, ⟨bbw1 HB GE413⟩⟩
     ·rw [if_neg c6] at H
      exact absurd H (by simp)
    ·rw [if_neg c5] at H
     exact absurd H (by simp)
   ·rw [if_neg c4] at H
    have c4b0 : decide (x8_1 < (l0.length : Int)) = false := decide_eq_false c4
    clear c4
    obtain rfl := Option.some.inj H
    go_wp2
    repeat (go_quiet (fail); try go_wp2)
    go_ret
    exact er (bbw1 HB GE413)

/-! ### impl_Mat_96: function 96 -/
def impl_Mat_96.f (k : Nat) (l0 : List (S51)) (a1_0 : Int) (a1_1 : Int) (a1_2 : Int) (a1_3 : Int) : Option (Bool) := (impl_Mat_115.f k l0 a1_0 a1_1 a1_2 a1_3).bind fun t416 => (some (decide (t416 ≥ 0)))
set_option maxHeartbeats 8000000 in
set_option maxRecDepth 100000 in
theorem impl_Mat_96.calls (k : Nat) (A0 : Option Addr) (c0 : Nat) (l0 : List (S51)) (a1_0 : Int) (a1_1 : Int) (a1_2 : Int) (a1_3 : Int) (r : Bool) (w : World) (hr0 : Kd.C k51 w A0 l0.length l0) (hc0 : l0.length ≤ c0) (h : impl_Mat_96.f k l0 a1_0 a1_1 a1_2 a1_3 = some r) :
  Calls Try.prog 96 #[.slice A0 l0.length c0, .agg #[.int .i64 a1_0, .int .i64 a1_1, .int .i64 a1_2, .int .i64 a1_3]] w fun e w' => e = .returned (.bool r) ∧ Below w.heap.size w w' := by
 have hu51 := Try.underlying51
 have HR0 := Aside0.mk hr0
 have HC0 := Aside0.mk hc0
 clear hr0 hc0
 have HB := asd (Below.refl w.heap.size w)
 have H : ((impl_Mat_115.f k l0 a1_0 a1_1 a1_2 a1_3).bind fun t416 => (some (decide (t416 ≥ 0)))) = some r := h
 clear h
 obtain ⟨t416, A3, H⟩ := ob H
 replace H : (some (decide (t416 ≥ 0))) = some r := H
 obtain rfl := Option.some.inj H
 go_enter Try.func96, Try.ntmps96
 go_wp2_with (first | ((with_reducible refine gd 3 rfl ?_); refine bx #[.int .i64 a1_0, .int .i64 a1_1, .int .i64 a1_2, .int .i64 a1_3] 51 ?_; intro gb415 hg w4 BK415 hb; have GE415 := ngw0 hg HB; replace HB := bS0 HB hb; clear hb hg; obtain ⟨hcz5_0, hcz5_1, hcz5_2, hcz5_3, hfz5_0, hfz5_1, hfz5_2, hfz5_3⟩ := bz4 BK415) | ((with_reducible refine gate_callee (f := 115) rfl ?_); refine gl 7 Try.func115 #[.slice A0 l0.length c0, .agg #[.int .i64 a1_0, .int .i64 a1_1, .int .i64 a1_2, .int .i64 a1_3]] ?_; (with_reducible refine (impl_Mat_115.calls _ _ _ _ _ _ _ _ _ _ ?side1 ?side2 A3.out).mono ?_); (case side1 => exact ks (Kd.C_below HR0.out HB.out)); (case side2 => exact HC0.out); rintro e w6 ⟨rfl, hb⟩; refine ⟨_, rfl, ?_⟩; replace BK415 := bB BK415 hb; replace HB := bS1 HB GE415 hb; (try clear hb)))
 go_ret
 exact er (bbw1 HB GE415)

/-! ### impl_compareNumbers: function 123 -/
def impl_compareNumbers.l0 : Nat → List Int → List Int → Int → Int → Option (Int)
 | 0, _, _, _, _ => none
 | k + 1, x0, x1, x7, x8 => if x8 < x7 then (if 0 ≤ x8 then (if x8 < (x0.length : Int) then (if x8 < (x1.length : Int) then (if (rd x0 x8) = (rd x1 x8) then (impl_compareNumbers.l0 k x0 x1 x7 (wrap64 (x8 + 1))) else (if (rd x0 x8) < (rd x1 x8) then (some (-1)) else (some 1))) else (none)) else (none)) else (none)) else (some 0)
def impl_compareNumbers.f (k : Nat) (l0 : List Int) (l1 : List Int) : Option (Int) := impl_compareNumbers.l0 k l0 l1 (l0.length : Int) 0
set_option maxHeartbeats 8000000 in
set_option maxRecDepth 100000 in
theorem impl_compareNumbers.calls (k : Nat) (A0 : Option Addr) (c0 : Nat) (l0 : List Int) (A1 : Option Addr) (c1 : Nat) (l1 : List Int) (r : Int) (w : World) (hr0 : Kd.C (Kd.int .i64) w A0 l0.length l0) (hc0 : l0.length ≤ c0) (hr1 : Kd.C (Kd.int .i64) w A1 l1.length l1) (hc1 : l1.length ≤ c1) (h : impl_compareNumbers.f k l0 l1 = some r) :
  Calls Try.prog 123 #[.slice A0 l0.length c0, .slice A1 l1.length c1] w fun e w' => e = .returned (.int .i64 r) ∧ Drawn0 w w' := by
 have HR0 := Aside0.mk hr0
 have HC0 := Aside0.mk hc0
 clear hr0 hc0
 have HR1 := Aside0.mk hr1
 have HC1 := Aside0.mk hc1
 clear hr1 hc1
 have H : (impl_compareNumbers.l0 k l0 l1 (l0.length : Int) 0) = some r := h
 clear h
 have H' := Aside0.mk H
 clear H
 go_enter Try.func123, Try.ntmps123
 go_wp2
 repeat (go_quiet (fail); try go_wp2)
 go_loopg [8] k (fun kq v8 w' => ∃ (x8_1 : Int), v8 = .int .i64 x8_1 ∧ Aside0 (impl_compareNumbers.l0 kq l0 l1 (l0.length : Int) x8_1 = some r) ∧ Aside0 (kq ≤ k) ∧ Drawn0 w w')
 case atStart => exact ⟨(0), (by first | rfl | (simp; done) | (simp [*]; done)), H', ⟨Nat.le_refl _⟩, by repeat (first | exact Drawn0.refl _ | apply Drawn0.step)⟩
 case round =>
  clear H'
  try clear c1
  try clear p2
  obtain ⟨x8_1, rfl, HA, HK1, ⟨m1, rfl⟩⟩ := hrel
  cases gk with
  | zero => exact absurd HA.out (by simp [impl_compareNumbers.l0])
  | succ k1 =>
   have H := HA.out
   clear HA
   simp only [impl_compareNumbers.l0] at H
   by_cases c3 : x8_1 < (l0.length : Int)
   ·rw [if_pos c3] at H
    have c3b0 : decide (x8_1 < (l0.length : Int)) = true := decide_eq_true c3
    clear c3
    by_cases c4 : 0 ≤ x8_1
    ·rw [if_pos c4] at H
     have c4b0 : decide (0 ≤ x8_1) = true := decide_eq_true c4
     clear c4
     by_cases c5 : x8_1 < (l0.length : Int)
     ·rw [if_pos c5] at H
      have c5b0 : decide (x8_1 < (l0.length : Int)) = true := decide_eq_true c5
      clear c5
      by_cases c6 : x8_1 < (l1.length : Int)
      ·rw [if_pos c6] at H
       have c6b0 : decide (x8_1 < (l1.length : Int)) = true := decide_eq_true c6
       clear c6
       by_cases c7 : (rd l0 x8_1) = (rd l1 x8_1)
       ·rw [if_pos c7] at H
        have c7b0 : ((rd l0 x8_1) == (rd l1 x8_1)) = true := beq_iff_eq.mpr c7
        have c7b1 : ((rd l0 x8_1) != (rd l1 x8_1)) = false := bne_eq_false_iff_eq.mpr c7
        clear c7
        have H' := Aside0.mk H
        clear H
        have p417 : 0 ≤ (x8_1 : Int) := od
        have q417 : x8_1 < (l0.length : Int) := od
        obtain ⟨ad417, e417, hx417_0⟩ := Kd.at_int HR0.out x8_1 p417 q417
        cases e417
        replace p417 := eq_true p417
        replace q417 := eq_true q417
        have p418 : 0 ≤ (x8_1 : Int) := od
        have q418 : x8_1 < (l1.length : Int) := od
        obtain ⟨ad418, e418, hx418_0⟩ := Kd.at_int HR1.out x8_1 p418 q418
        cases e418
        replace p418 := eq_true p418
        replace q418 := eq_true q418
        go_wp2
        repeat (go_quiet (fail); try go_wp2)
        go_roundg k1
        case measure => have := HK1.out; omega
        case rel => exact ⟨(wrap64 (x8_1 + 1)), (by first | rfl | (simp; done) | (simp [*]; done)), H', ⟨by have := HK1.out; omega⟩, by repeat (first | exact Drawn0.refl _ | apply Drawn0.step)⟩
       ·rw [if_neg c7] at H
        have c7b0 : ((rd l0 x8_1) == (rd l1 x8_1)) = false := beq_eq_false_iff_ne.mpr c7
        have c7b1 : ((rd l0 x8_1) != (rd l1 x8_1)) = true := bne_iff_ne.mpr c7
        by_cases c8 : (rd l0 x8_1) < (rd l1 x8_1)
        ·rw [if_pos c8] at H
         have c8b0 : decide ((rd l0 x8_1) < (rd l1 x8_1)) = true := decide_eq_true c8
         clear c8
         obtain rfl := Option.some.inj H
         have p417 : 0 ≤ (x8_1 : Int) := od
         have q417 : x8_1 < (l0.length : Int) := od
         obtain ⟨ad417, e417, hx417_0⟩ := Kd.at_int HR0.out x8_1 p417 q417
         cases e417
         replace p417 := eq_true p417
         replace q417 := eq_true q417
         have p418 : 0 ≤ (x8_1 : Int) := od
         have q418 : x8_1 < (l1.length : Int) := od
         obtain ⟨ad418, e418, hx418_0⟩ := Kd.at_int HR1.out x8_1 p418 q418
         cases e418
         replace p418 := eq_true p418
         replace q418 := eq_true q418
         have p419 : 0 ≤ (x8_1 : Int) := od
         have q419 : x8_1 < (l0.length : Int) := od
         obtain ⟨ad419, e419, hx419_0⟩ := Kd.at_int HR0.out x8_1 p419 q419
         obtain rfl : ad417 = ad419 := (by injection e419)
         replace p419 := eq_true p419
         replace q419 := eq_true q419
         have p420 : 0 ≤ (x8_1 : Int) := od
         have q420 : x8_1 < (l1.length : Int) := od
         obtain ⟨ad420, e420, hx420_0⟩ := Kd.at_int HR1.out x8_1 p420 q420
         obtain rfl : ad418 = ad420 := (by injection e420)
         replace p420 := eq_true p420
         replace q420 := eq_true q420
         go_wp2
         repeat (go_quiet (fail); try go_wp2)
         go_ret
         exact ⟨by first | rfl | (simp; done) | (simp [*]; done), by repeat (first | exact Drawn0.refl _ | apply Drawn0.step)⟩
        ·rw [if_neg c8] at H
         have c8b0 : decide ((rd l0 x8_1) < (rd l1 x8_1)) = false := decide_eq_false c8
         clear c8
         obtain rfl := Option.some.inj H
         have p417 : 0 ≤ (x8_1 : Int) := od
         have q417 : x8_1 < (l0.length : Int) := od
         obtain ⟨ad417, e417, hx417_0⟩ := Kd.at_int HR0.out x8_1 p417 q417
         cases e417
         replace p417 := eq_true p417
         replace q417 := eq_true q417
         have p418 : 0 ≤ (x8_1 : Int) := od
         have q418 : x8_1 < (l1.length : Int) := od
         obtain ⟨ad418, e418, hx418_0⟩ := Kd.at_int HR1.out x8_1 p418 q418
         cases e418
         replace p418 := eq_true p418
         replace q418 := eq_true q418
         have p419 : 0 ≤ (x8_1 : Int) := od
         have q419 : x8_1 < (l0.length : Int) := od
         obtain ⟨ad419, e419, hx419_0⟩ := Kd.at_int HR0.out x8_1 p419 q419
         obtain rfl : ad417 = ad419 := (by injection e419)
         replace p419 := eq_true p419
         replace q419 := eq_true q419
         have p420 : 0 ≤ (x8_1 : Int) := od
         have q420 : x8_1 < (l1.length : Int) := od
         obtain ⟨ad420, e420, hx420_0⟩ := Kd.at_int HR1.out x8_1 p420 q420
         obtain rfl : ad418 = ad420 := (by injection e420)
         replace p420 := eq_true p420
         replace q420 := eq_true q420
         go_wp2
         repeat (go_quiet (fail); try go_wp2)
         go_ret
         exact ⟨by first | rfl | (simp; done) | (simp [*]; done), by repeat (first | exact Drawn0.refl _ | apply Drawn0.step)⟩
      ·rw [if_neg c6] at H
       exact absurd H (by simp)
     ·rw [if_neg c5] at H
      exact absurd H (by simp)
    ·rw [if_neg c4] at H
     exact absurd H (by simp)
   ·rw [if_neg c3] at H
    have c3b0 : decide (x8_1 < (l0.length : Int)) = false := decide_eq_false c3
    clear c3
    obtain rfl := Option.some.inj H
    go_wp2
    repeat (go_quiet (fail); try go_wp2)
    go_ret
    exact ⟨by first | rfl | (simp; done) | (simp [*]; done), by repeat (first | exact Drawn0.refl _ | apply Drawn0.step)⟩

/-! ### impl_compareMats: function 117 -/
def impl_compareMats.f (k : Nat) (a0_0 : Int) (a0_1 : Int) (a0_2 : Int) (a0_3 : Int) (a1_0 : Int) (a1_1 : Int) (a1_2 : Int) (a1_3 : Int) : Option (Int) := (impl_compareNumbers.f k (([a0_0, a0_1, a0_2, a0_3] : List Int)) (([a1_0, a1_1, a1_2, a1_3] : List Int))).bind fun t429 => (some t429)
set_option maxHeartbeats 8000000 in
set_option maxRecDepth 100000 in
theorem impl_compareMats.calls (k : Nat) (a0_0 : Int) (a0_1 : Int) (a0_2 : Int) (a0_3 : Int) (a1_0 : Int) (a1_1 : Int) (a1_2 : Int) (a1_3 : Int) (r : Int) (w : World) (h : impl_compareMats.f k a0_0 a0_1 a0_2 a0_3 a1_0 a1_1 a1_2 a1_3 = some r) :
  Calls Try.prog 117 #[.agg #[.int .i64 a0_0, .int .i64 a0_1, .int .i64 a0_2, .int .i64 a0_3], .agg #[.int .i64 a1_0, .int .i64 a1_1, .int .i64 a1_2, .int .i64 a1_3]] w fun e w' => e = .returned (.int .i64 r) ∧ Below w.heap.size w w' := by
 have hu51 := Try.underlying51
 have HB := asd (Below.refl w.heap.size w)
 have H : ((impl_compareNumbers.f k (([a0_0, a0_1, a0_2, a0_3] : List Int)) (([a1_0, a1_1, a1_2, a1_3] : List Int))).bind fun t429 => (some t429)) = some r := h
 clear h
 obtain ⟨y423, hy423⟩ : ∃ y_ : List Int, y_ = (([a0_0, a0_1, a0_2, a0_3] : List Int)) := ⟨_, rfl⟩
 replace H : ((impl_compareNumbers.f k y423 (([a1_0, a1_1, a1_2, a1_3] : List Int))).bind fun t429 => (some t429)) = some r := by first | (rw [hy423]; with_reducible exact H) | (have H2_ := (Option.bind_some _ _).symm.trans H; rw [hy423]; with_reducible exact H2_) | (have H2_ := (Option.bind_some _ _).symm.trans H; with_reducible exact H2_) | with_reducible exact H | (rw [hy423]; exact H) | exact H
 have Ny423 := Aside0.mk hy423
 clear hy423
 obtain ⟨y426, hy426⟩ : ∃ y_ : List Int, y_ = (([a1_0, a1_1, a1_2, a1_3] : List Int)) := ⟨_, rfl⟩
 replace H : ((impl_compareNumbers.f k y423 y426).bind fun t429 => (some t429)) = some r := by first | (rw [hy426]; with_reducible exact H) | (have H2_ := (Option.bind_some _ _).symm.trans H; rw [hy426]; with_reducible exact H2_) | (have H2_ := (Option.bind_some _ _).symm.trans H; with_reducible exact H2_) | with_reducible exact H | (rw [hy426]; exact H) | exact H
 have Ny426 := Aside0.mk hy426
 clear hy426
 obtain ⟨t429, A3, H⟩ := ob H
 replace H : (some t429) = some r := H
 obtain rfl := Option.some.inj H
 go_enter Try.func117, Try.ntmps117
 go_wp2_with (first | ((with_reducible refine gd 2 rfl ?_); refine bx #[.int .i64 a0_0, .int .i64 a0_1, .int .i64 a0_2, .int .i64 a0_3] 51 ?_; intro gb421 hg w4 BK421 hb; have GE421 := ngw0 hg HB; replace HB := bS0 HB hb; clear hb hg) | ((with_reducible refine gd 3 rfl ?_); refine bx #[.int .i64 a1_0, .int .i64 a1_1, .int .i64 a1_2, .int .i64 a1_3] 51 ?_; intro gb422 hg w5 BK422 hb; have GE422 := ngw1 hg HB GE421; replace HB := bS1 HB GE421 hb; have NB421_422 := nlt hg BK421; have NB422_421 := nsy (nlt hg BK421); replace BK421 := bB BK421 hb; clear hb hg; have hnb6 := NB421_422.out; have hnc6 := NB422_421.out; obtain ⟨hcz7_0, hcz7_1, hcz7_2, hcz7_3, hfz7_0, hfz7_1, hfz7_2, hfz7_3⟩ := bz4 BK421) | ((with_reducible refine gd 13 rfl ?_); refine Kd.R_lit (Kd.int .i64) _ 2 ?hg (N := 13) ?hd (xs := ([a0_0, a0_1, a0_2, a0_3] : List Int)) (inner := [.int .i64 a0_0, .int .i64 a0_1, .int .i64 a0_2, .int .i64 a0_3]) (ok := fun _ => True) (okp := fun _ => True) ?hr ?hp (fun _ hk => hk) trivial (Below.refl _ _) (Nat.le_refl _) (by simp) ?_; (case hd => rfl); (case hg => rfl); (case hr => first | (go_simp; done) | (go_simp; rfl)); (case hp => exact (Reps.one (show Kd.M (Kd.int .i64) _ _ _ a0_0 [.int .i64 a0_0] from rfl) (Reps.one (show Kd.M (Kd.int .i64) _ _ _ a0_1 [.int .i64 a0_1] from rfl) (Reps.one (show Kd.M (Kd.int .i64) _ _ _ a0_2 [.int .i64 a0_2] from rfl) (Reps.one (show Kd.M (Kd.int .i64) _ _ _ a0_3 [.int .i64 a0_3] from rfl) (Reps.none _ _)))))); intro v424 w8 ho9 hb hg_ hnew_; clear hg_ hnew_; (first | rw [← Ny423.out] at ho9 | (simp only [Int.reduceToNat] at ho9; rw [← Ny423.out] at ho9)); have HO425 := asd (Kd.R_lower ho9 (bsz2 HB GE421 GE422)); replace BK421 := bB BK421 hb; replace BK422 := bB BK422 hb; replace HB := bS2 HB GE421 GE422 hb; clear hb ho9; obtain ⟨hcz10_0, hcz10_1, hcz10_2, hcz10_3, hfz10_0, hfz10_1, hfz10_2, hfz10_3⟩ := bz4 BK422) | ((with_reducible refine gd 22 rfl ?_); refine Kd.R_lit (Kd.int .i64) _ 2 ?hg (N := 22) ?hd (xs := ([a1_0, a1_1, a1_2, a1_3] : List Int)) (inner := [.int .i64 a1_0, .int .i64 a1_1, .int .i64 a1_2, .int .i64 a1_3]) (ok := fun _ => True) (okp := fun _ => True) ?hr ?hp (fun _ hk => hk) trivial (Below.refl _ _) (Nat.le_refl _) (by simp) ?_; (case hd => rfl); (case hg => rfl); (case hr => first | (go_simp; done) | (go_simp; rfl)); (case hp => exact (Reps.one (show Kd.M (Kd.int .i64) _ _ _ a1_0 [.int .i64 a1_0] from rfl) (Reps.one (show Kd.M (Kd.int .i64) _ _ _ a1_1 [.int .i64 a1_1] from rfl) (Reps.one (show Kd.M (Kd.int .i64) _ _ _ a1_2 [.int .i64 a1_2] from rfl) (Reps.one (show Kd.M (Kd.int .i64) _ _ _ a1_3 [.int .i64 a1_3] from rfl) (Reps.none _ _)))))); intro v427 w11 ho12 hb hg_ hnew_; clear hg_ hnew_; (first | rw [← Ny426.out] at ho12 | (simp only [Int.reduceToNat] at ho12; rw [← Ny426.out] at ho12)); have HO428 := asd (Kd.R_lower (Kd.R_new' ho12 (Kd.R_lt (kr HO425))) (bsz2 HB GE421 GE422)); replace HO425 := asd (Kd.R_elder' (kr HO425) (Kd.R_base ho12) hb); replace BK421 := bB BK421 hb; replace BK422 := bB BK422 hb; replace HB := bS2 HB GE421 GE422 hb; clear hb ho12; obtain ⟨Ao13, co13, eo13⟩ := Kd.R_slice HO425.out; subst eo13; obtain ⟨Ao14, co14, eo14⟩ := Kd.R_slice HO428.out; subst eo14) | ((with_reducible refine gate_callee (f := 123) rfl ?_); refine gl 23 Try.func123 #[.slice Ao13 y423.length co13, .slice Ao14 y426.length co14] ?_; (with_reducible refine (impl_compareNumbers.calls _ _ _ _ _ _ _ _ _ ?side1 ?side2 ?side3 ?side4 A3.out).mono ?_); (case side1 => exact ks (Kd.R_reads' HO425.out).2.2); (case side2 => exact (Kd.R_reads' HO425.out).2.1); (case side3 => exact ks (Kd.R_reads' HO428.out).2.2); (case side4 => exact (Kd.R_reads' HO428.out).2.1); rintro e w' ⟨rfl, ⟨nd, rfl⟩⟩; refine ⟨_, rfl, ?_⟩))
 go_ret
 exact er (bbw2 HB GE421 GE422)

/-! ### impl_compareVecs: function 118 -/
def impl_compareVecs.f (k : Nat) (a0_0 : Int) (a0_1 : Int) (a1_0 : Int) (a1_1 : Int) : Option (Int) := (impl_compareNumbers.f k (([a0_0, a0_1] : List Int)) (([a1_0, a1_1] : List Int))).bind fun t438 => (some t438)
set_option maxHeartbeats 8000000 in
set_option maxRecDepth 100000 in
theorem impl_compareVecs.calls (k : Nat) (a0_0 : Int) (a0_1 : Int) (a1_0 : Int) (a1_1 : Int) (r : Int) (w : World) (h : impl_compareVecs.f k a0_0 a0_1 a1_0 a1_1 = some r) :
  Calls Try.prog 118 #[.agg #[.int .i64 a0_0, .int .i64 a0_1], .agg #[.int .i64 a1_0, .int .i64 a1_1]] w fun e w' => e = .returned (.int .i64 r) ∧ Below w.heap.size w w' := by
 have hu53 := Try.underlying53
 have HB := asd (Below.refl w.heap.size w)
 have H : ((impl_compareNumbers.f k (([a0_0, a0_1] : List Int)) (([a1_0, a1_1] : List Int))).bind fun t438 => (some t438)) = some r := h
 clear h
 obtain ⟨y432, hy432⟩ : ∃ y_ : List Int, y_ = (([a0_0, a0_1] : List Int)) := ⟨_, rfl⟩
 replace H : ((impl_compareNumbers.f k y432 (([a1_0, a1_1] : List Int))).bind fun t438 => (some t438)) = some r := by first | (rw [hy432]; with_reducible exact H) | (have H2_ := (Option.bind_some _ _).symm.trans H; rw [hy432]; with_reducible exact H2_) | (have H2_ := (Option.bind_some _ _).symm.trans H; with_reducible exact H2_) | with_reducible exact H | (rw [hy432]; exact H) | exact H
 have Ny432 := Aside0.mk hy432
 clear hy432
 obtain ⟨y435, hy435⟩ : ∃ y_ : List Int, y_ = (([a1_0, a1_1] : List Int)) := ⟨_, rfl⟩
 replace H : ((impl_compareNumbers.f k y432 y435).bind fun t438 => (some t438)) = some r := by first | (rw [hy435]; with_reducible exact H) | (have H2_ := (Option.bind_some _ _).symm.trans H; rw [hy435]; with_reducible exact H2_) | (have H2_ := (Option.bind_some _ _).symm.trans H; with_reducible exact H2_) | with_reducible exact H | (rw [hy435]; exact H) | exact H
 have Ny435 := Aside0.mk hy435
 clear hy435
 obtain ⟨t438, A3, H⟩ := ob H
 replace H : (some t438) = some r := H
 obtain rfl := Option.some.inj H
 go_enter Try.func118, Try.ntmps118
 go_wp2_with (first | ((with_reducible refine gd 2 rfl ?_); refine bx #[.int .i64 a0_0, .int .i64 a0_1] 53 ?_; intro gb430 hg w4 BK430 hb; have GE430 := ngw0 hg HB; replace HB := bS0 HB hb; clear hb hg) | ((with_reducible refine gd 3 rfl ?_); refine bx #[.int .i64 a1_0, .int .i64 a1_1] 53 ?_; intro gb431 hg w5 BK431 hb; have GE431 := ngw1 hg HB GE430; replace HB := bS1 HB GE430 hb; have NB430_431 := nlt hg BK430; have NB431_430 := nsy (nlt hg BK430); replace BK430 := bB BK430 hb; clear hb hg; have hnb6 := NB430_431.out; have hnc6 := NB431_430.out; obtain ⟨hcz7_0, hcz7_1, hfz7_0, hfz7_1⟩ := bz2 BK430) | ((with_reducible refine gd 9 rfl ?_); refine Kd.R_lit (Kd.int .i64) _ 2 ?hg (N := 9) ?hd (xs := ([a0_0, a0_1] : List Int)) (inner := [.int .i64 a0_0, .int .i64 a0_1]) (ok := fun _ => True) (okp := fun _ => True) ?hr ?hp (fun _ hk => hk) trivial (Below.refl _ _) (Nat.le_refl _) (by simp) ?_; (case hd => rfl); (case hg => rfl); (case hr => first | (go_simp; done) | (go_simp; rfl)); (case hp => exact (Reps.one (show Kd.M (Kd.int .i64) _ _ _ a0_0 [.int .i64 a0_0] from rfl) (Reps.one (show Kd.M (Kd.int .i64) _ _ _ a0_1 [.int .i64 a0_1] from rfl) (Reps.none _ _)))); intro v433 w8 ho9 hb hg_ hnew_; clear hg_ hnew_; (first | rw [← Ny432.out] at ho9 | (simp only [Int.reduceToNat] at ho9; rw [← Ny432.out] at ho9)); have HO434 := asd (Kd.R_lower ho9 (bsz2 HB GE430 GE431)); replace BK430 := bB BK430 hb; replace BK431 := bB BK431 hb; replace HB := bS2 HB GE430 GE431 hb; clear hb ho9; obtain ⟨hcz10_0, hcz10_1, hfz10_0, hfz10_1⟩ := bz2 BK431) | ((with_reducible refine gd 14 rfl ?_); refine Kd.R_lit (Kd.int .i64) _ 2 ?hg (N := 14) ?hd (xs := ([a1_0, a1_1] : List Int)) (inner := [.int .i64 a1_0, .int .i64 a1_1]) (ok := fun _ => True) (okp := fun _ => True) ?hr ?hp (fun _ hk => hk) trivial (Below.refl _ _) (Nat.le_refl _) (by simp) ?_; (case hd => rfl); (case hg => rfl); (case hr => first | (go_simp; done) | (go_simp; rfl)); (case hp => exact (Reps.one (show Kd.M (Kd.int .i64) _ _ _ a1_0 [.int .i64 a1_0] from rfl) (Reps.one (show Kd.M (Kd.int .i64) _ _ _ a1_1 [.int .i64 a1_1] from rfl) (Reps.none _ _)))); intro v436 w11 ho12 hb hg_ hnew_; clear hg_ hnew_; (first | rw [← Ny435.out] at ho12 | (simp only [Int.reduceToNat] at ho12; rw [← Ny435.out] at ho12)); have HO437 := asd (Kd.R_lower (Kd.R_new' ho12 (Kd.R_lt (kr HO434))) (bsz2 HB GE430 GE431)); replace HO434 := asd (Kd.R_elder' (kr HO434) (Kd.R_base ho12) hb); replace BK430 := bB BK430 hb; replace BK431 := bB BK431 hb; replace HB := bS2 HB GE430 GE431 hb; clear hb ho12; obtain ⟨Ao13, co13, eo13⟩ := Kd.R_slice HO434.out; subst eo13; obtain ⟨Ao14, co14, eo14⟩ := Kd.R_slice HO437.out; subst eo14) | ((with_reducible refine gate_callee (f := 123) rfl ?_); refine gl 15 Try.func123 #[.slice Ao13 y432.length co13, .slice Ao14 y435.length co14] ?_; (with_reducible refine (impl_compareNumbers.calls _ _ _ _ _ _ _ _ _ ?side1 ?side2 ?side3 ?side4 A3.out).mono ?_); (case side1 => exact ks (Kd.R_reads' HO434.out).2.2); (case side2 => exact (Kd.R_reads' HO434.out).2.1); (case side3 => exact ks (Kd.R_reads' HO437.out).2.2); (case side4 => exact (Kd.R_reads' HO437.out).2.1); rintro e w' ⟨rfl, ⟨nd, rfl⟩⟩; refine ⟨_, rfl, ?_⟩))
 go_ret
 exact er (bbw2 HB GE430 GE431)
end Go.Proofs.Ytcchmdodifkloaa.PA
