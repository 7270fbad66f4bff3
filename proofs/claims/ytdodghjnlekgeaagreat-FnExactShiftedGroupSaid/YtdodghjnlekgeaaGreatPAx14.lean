/- Walks written by program: each Go function that the law reaches comes to the plain function beside it. -/
import Derived.Test.YtdodghjnlekgeaaGreatPAx0
import Derived.Test.YtdodghjnlekgeaaGreatPAx2
import Derived.Test.YtdodghjnlekgeaaGreatPAx13
namespace Go.Proofs.YtdodghjnlekgeaaGreat.PA
open Go.RowKit Go.Proofs.YtdodghjnlekgeaaGreatW.PrintWords Go.Proofs.YtdodghjnlekgeaaGreatW.PrintLast Go.Proofs.YtdodghjnlekgeaaGreatW.PrintMore
attribute [local go_sem] max2_int min2_int max_two min_two max_three min_three max_four min_four   -- for this text's walks alone
set_option linter.unusedVariables false
set_option linter.unusedSimpArgs false

/-! ### impl_pointMats: function 104 -/
def impl_pointMats.l0 : Nat → Int → List (S46) → Int → Option ((List (S46)))
 | 0, _, _, _ => none
 | k + 1, x0, x3, x10 => if x10 < 81 then ((impl_Mat_apply.f (wrap64 ((wrap64 (Int.tdiv x10 27)) - 1)) (wrap64 ((Int.tmod (wrap64 (Int.tdiv x10 9)) 3) - 1)) (wrap64 ((Int.tmod (wrap64 (Int.tdiv x10 3)) 3) - 1)) (wrap64 ((Int.tmod x10 3) - 1)) 1 0).bind fun bt387 => ((impl_Mat_apply.f (wrap64 ((wrap64 (Int.tdiv x10 27)) - 1)) (wrap64 ((Int.tmod (wrap64 (Int.tdiv x10 9)) 3) - 1)) (wrap64 ((Int.tmod (wrap64 (Int.tdiv x10 3)) 3) - 1)) (wrap64 ((Int.tmod x10 3) - 1)) 0 1).bind fun bt389 => ((impl_Mat_apply.f (wrap64 ((wrap64 (Int.tdiv x10 27)) - 1)) (wrap64 ((Int.tmod (wrap64 (Int.tdiv x10 9)) 3) - 1)) (wrap64 ((Int.tmod (wrap64 (Int.tdiv x10 3)) 3) - 1)) (wrap64 ((Int.tmod x10 3) - 1)) 1 1).bind fun bt391 => ((impl_norm.f x0 bt387.1 bt387.2).bind fun t396 => (if t396 = 1 then ((impl_norm.f x0 bt389.1 bt389.2).bind fun t397 => (if t397 = 1 then ((impl_norm.f x0 bt391.1 bt391.2).bind fun t398 => (if t398 = (wrap64 (2 + x0)) then (if x3.length < 4398046511104 then (impl_pointMats.l0 k x0 (x3 ++ [(⟨wrap64 ((wrap64 (Int.tdiv x10 27)) - 1), wrap64 ((Int.tmod (wrap64 (Int.tdiv x10 9)) 3) - 1), wrap64 ((Int.tmod (wrap64 (Int.tdiv x10 3)) 3) - 1), wrap64 ((Int.tmod x10 3) - 1)⟩ : S46)]) (wrap64 (x10 + 1))) else (none)) else (impl_pointMats.l0 k x0 x3 (wrap64 (x10 + 1))))) else (impl_pointMats.l0 k x0 x3 (wrap64 (x10 + 1))))) else (impl_pointMats.l0 k x0 x3 (wrap64 (x10 + 1)))))))) else (some x3)
def impl_pointMats.f (k : Nat) (a0 : Int) : Option ((List (S46))) := impl_pointMats.l0 k a0 (([] : List (S46))) 0
def impl_pointMats.T6 : Bool × List (List Nat × List Nat) := (true, [([], []), ([], []), ([0, 1], [0, 1]), ([], []), ([], []), ([3, 4, 2], [3, 4]), ([], []), ([], []), ([6, 7, 5], [6, 7]), ([], []), ([], []), ([], []), ([9, 2, 8, 0, 1, 2, 9, 10, 11], [2, 9]), ([10, 5, 12, 0, 1, 2, 3, 4, 5, 9, 10, 11, 12], [5, 10]), ([11, 8, 13, 0, 1, 2, 3, 4, 5, 6, 7, 8, 9, 10, 11, 12, 13], [8, 11])])
def impl_pointMats.B6 : List Nat := [0, 0, 3, 0, 0, 31, 0, 0, 255, 0, 0, 0, 4095, 8191, 16383]
theorem impl_pointMats.tab6 : rtab .any (opsOf Tryz.f104 6) = impl_pointMats.T6 := by kernel_rfl
theorem impl_pointMats.bits6 : waitsOk impl_pointMats.T6.2 impl_pointMats.B6 = true := by kernel_rfl
set_option maxHeartbeats 8000000 in
set_option maxRecDepth 100000 in
theorem impl_pointMats.calls (k : Nat) (a0 : Int) (r : List (S46)) (w : World) (h : impl_pointMats.f k a0 = some r) :
  Calls Tryz.prog 104 #[.int .i64 a0] w fun e w' => ∃ v0_ : Value, e = .returned (v0_) ∧ Kd.R k46 46 w' w.heap.size (fun _ => True) v0_ r ∧ Below w.heap.size w w' := by
 have hu46 := Tryz.underlying46
 have hu38 := Tryz.underlying38
 have HB := asd (Below.refl w.heap.size w)
 have H : (impl_pointMats.l0 k a0 (([] : List (S46))) 0) = some r := h
 clear h
 obtain ⟨y383, hy383⟩ : ∃ y_ : List (S46), y_ = (([] : List (S46))) := ⟨_, rfl⟩
 replace H : (impl_pointMats.l0 k a0 y383 0) = some r := by first | (rw [hy383]; with_reducible exact H) | (have H2_ := (Option.bind_some _ _).symm.trans H; rw [hy383]; with_reducible exact H2_) | (have H2_ := (Option.bind_some _ _).symm.trans H; with_reducible exact H2_) | with_reducible exact H | (rw [hy383]; exact H) | exact H
 have Ny383 := Aside0.mk hy383
 clear hy383
 have H' := Aside0.mk H
 clear H
 go_enter Tryz.func104, Tryz.ntmps104
 go_wp2_with (first | ((with_reducible refine gd 9 rfl ?_); refine Kd.R_lit k46 _ 46 ?hg (N := 9) ?hd (xs := ([] : List (S46))) (inner := []) (ok := fun _ => True) (okp := fun _ => True) ?hr ?hp (fun _ hk => hk) trivial (Below.refl _ _) (Nat.le_refl _) (by simp) ?_; (case hd => rfl); (case hg => rfl); (case hr => first | (go_simp; done) | (go_simp; rfl)); (case hp => exact (Reps.none _ _)); intro v384 w2 ho3 hb hg_ hnew_; clear hg_ hnew_; (first | rw [← Ny383.out] at ho3 | (simp only [Int.reduceToNat] at ho3; rw [← Ny383.out] at ho3)); have HO385 := asd (Kd.R_lower ho3 (bsz0 HB)); replace HB := bS0 HB hb; clear hb ho3))
 go_loopg [3, 10] k (fun kq v3 v10 w' => ∃ (x3_1 : List (S46)) (x10_1 : Int), v10 = .int .i64 x10_1 ∧ Aside0 (impl_pointMats.l0 kq a0 x3_1 x10_1 = some r) ∧ Aside0 (kq ≤ k) ∧ Aside0 (Kd.R k46 46 w' w.heap.size (fun _ => True) v3 x3_1) ∧ Aside0 (Below w.heap.size w w'))
 case atStart => exact ⟨(y383), (0), (by first | rfl | (simp; done) | (simp [*]; done)), H', ⟨Nat.le_refl _⟩, ⟨by (with_reducible repeat (first | apply Kd.R_alloc | apply Kd.R_drewN | apply Kd.R_drew)); exact HO385.out⟩, ⟨bbw0 HB⟩⟩
 case round =>
  clear H'
  try clear c1
  try clear p2
  obtain ⟨x3_1, x10_1, rfl, HA, HK1, HO_3, HB⟩ := hrel
  cases gk with
  | zero => exact absurd HA.out (by simp [impl_pointMats.l0])
  | succ k1 =>
   have H := HA.out
   clear HA
   simp only [impl_pointMats.l0] at H
   by_cases c4 : x10_1 < 81
   ·rw [if_pos c4] at H
    have c4b0 := decide_eq_true c4
    clear c4
    obtain ⟨⟨t387, t388⟩, A5, H⟩ := ob H
    try dsimp only at H
    obtain ⟨⟨t389, t390⟩, A6, H⟩ := ob H
    try dsimp only at H
    obtain ⟨⟨t391, t392⟩, A7, H⟩ := ob H
    try dsimp only at H
    have Hq_ := Aside0.mk H
    clear H
    try go_wp2_with (first | ((with_reducible refine gd 5 rfl ?_); refine bx #[.int .i64 0, .int .i64 0, .int .i64 0, .int .i64 0] 46 ?_; intro gb386 hg w15 BK386 hb; replace HO_3 := asd (Kd.R_below (Kd.R_elderB (kr HO_3) gb386 (Nat.le_of_eq hg.symm)) hb); have GE386 := ngw0 hg HB; replace HB := bS0 HB hb; clear hb hg; obtain ⟨hcz16_0, hcz16_1, hcz16_2, hcz16_3, hfz16_0, hfz16_1, hfz16_2, hfz16_3⟩ := bz4 BK386))
    obtain ⟨w17, h_w17⟩ : ∃ w_, ((((w15.setCell ⟨gb386, 0, none⟩ (.int .i64 (wrap64 ((wrap64 (Int.tdiv x10_1 27)) - 1)))).setCell ⟨gb386, 1, none⟩ (.int .i64 (wrap64 ((Int.tmod (wrap64 (Int.tdiv x10_1 9)) 3) - 1)))).setCell ⟨gb386, 2, none⟩ (.int .i64 (wrap64 ((Int.tmod (wrap64 (Int.tdiv x10_1 3)) 3) - 1)))).setCell ⟨gb386, 3, none⟩ (.int .i64 (wrap64 ((Int.tmod x10_1 3) - 1)))) = w_ := ⟨_, rfl⟩
    replace HO_3 : Aside0 (Kd.R k46 46 w17 w.heap.size (fun k_ => k_ ≠ gb386) u3 x3_1) := by rw [← h_w17]; exact ⟨by (with_reducible repeat (first | apply Kd.R_alloc | apply Kd.R_drewN | apply Kd.R_drew)); exact Kd.R_mono (rw4 (Kd.R_mono HO_3.out (fun k_ hk => (⟨hk, hk.2⟩ : _ ∧ k_ ≠ gb386)))) (fun _ hk => hk.1.2)⟩
    replace BK386 : Aside0 (w17.heap[gb386]? = some (.cells #[.int .i64 (wrap64 ((wrap64 (Int.tdiv x10_1 27)) - 1)), .int .i64 (wrap64 ((Int.tmod (wrap64 (Int.tdiv x10_1 9)) 3) - 1)), .int .i64 (wrap64 ((Int.tmod (wrap64 (Int.tdiv x10_1 3)) 3) - 1)), .int .i64 (wrap64 ((Int.tmod x10_1 3) - 1))] 46 (0, 0))) := by rw [← h_w17]; exact ⟨bq0 BK386⟩
    replace HB : Aside0 (Below w.heap.size w w17) := by rw [← h_w17]; exact ⟨bbw1 HB GE386⟩
    (try rw [h_w17]); clear h_w17
    replace HO_3 := asd (Kd.R_drew HO_3.out)
    replace BK386 := asd (blk_drew BK386.out)
    replace HB := asd (below_drew1 HB.out)
    refine start_ (n := 15) (S := fun w' => True) (ds := []) (bT 15 0) (by kernel_rfl) rfl rfl trivial (fun hHeld => ?_); refine with_tabW impl_pointMats.tab6 impl_pointMats.bits6 (fun HT_ HW_ => ?_)
    generalize w17.drew = w18 at HO_3 BK386 HB hHeld ⊢
    refine inv_at [0, 1, 2, 3, 4, 5, 6, 7, 8, 9, 10, 11, 12, 13, 14] (fun a0_ b a w' => ∃ (gb393 : Nat) (gb394 : Nat) (gb395 : Nat) (m9_ : Value) (m10_ : Value) (m11_ : Value), a = putSel a0_ b [(0, 28, .agg #[.int .i64 (wrap64 ((wrap64 (Int.tdiv x10_1 27)) - 1)), .int .i64 (wrap64 ((Int.tmod (wrap64 (Int.tdiv x10_1 9)) 3) - 1)), .int .i64 (wrap64 ((Int.tmod (wrap64 (Int.tdiv x10_1 3)) 3) - 1)), .int .i64 (wrap64 ((Int.tmod x10_1 3) - 1))]), (1, 29, .agg #[.int .i64 1, .int .i64 0]), (2, 30, .agg #[.int .i64 t387, .int .i64 t388]), (3, 31, .agg #[.int .i64 (wrap64 ((wrap64 (Int.tdiv x10_1 27)) - 1)), .int .i64 (wrap64 ((Int.tmod (wrap64 (Int.tdiv x10_1 9)) 3) - 1)), .int .i64 (wrap64 ((Int.tmod (wrap64 (Int.tdiv x10_1 3)) 3) - 1)), .int .i64 (wrap64 ((Int.tmod x10_1 3) - 1))]), (4, 32, .agg #[.int .i64 0, .int .i64 1]), (5, 33, .agg #[.int .i64 t389, .int .i64 t390]), (6, 34, .agg #[.int .i64 (wrap64 ((wrap64 (Int.tdiv x10_1 27)) - 1)), .int .i64 (wrap64 ((Int.tmod (wrap64 (Int.tdiv x10_1 9)) 3) - 1)), .int .i64 (wrap64 ((Int.tmod (wrap64 (Int.tdiv x10_1 3)) 3) - 1)), .int .i64 (wrap64 ((Int.tmod x10_1 3) - 1))]), (7, 35, .agg #[.int .i64 1, .int .i64 1]), (8, 36, .agg #[.int .i64 t391, .int .i64 t392]), (9, 6, m9_), (10, 7, m10_), (11, 8, m11_)] ∧ (Kd.R k46 46 w' w.heap.size (fun k_ => k_ ≠ gb386) u3 x3_1) ∧ (w'.heap[gb386]? = some (.cells #[.int .i64 (wrap64 ((wrap64 (Int.tdiv x10_1 27)) - 1)), .int .i64 (wrap64 ((Int.tmod (wrap64 (Int.tdiv x10_1 9)) 3) - 1)), .int .i64 (wrap64 ((Int.tmod (wrap64 (Int.tdiv x10_1 3)) 3) - 1)), .int .i64 (wrap64 ((Int.tmod x10_1 3) - 1))] 46 (0, 0))) ∧ (Below w.heap.size w w') ∧ (b 9 = true → b 10 = true → gb394 ≠ gb393) ∧ (b 9 = true → b 10 = true → gb393 ≠ gb394) ∧ (b 9 = true → b 11 = true → gb395 ≠ gb393) ∧ (b 9 = true → b 11 = true → gb393 ≠ gb395) ∧ (b 10 = true → b 11 = true → gb395 ≠ gb394) ∧ (b 10 = true → b 11 = true → gb394 ≠ gb395) ∧ (b 9 = true → b 12 = false → w'.heap[gb393]? = some (.cells #[.int .i64 0, .int .i64 0] 38 (0, 0))) ∧ (b 9 = true → w.heap.size ≤ gb393) ∧ (b 9 = true → w.heap.size ≤ gb393) ∧ (b 9 = true → gb386 ≠ gb393) ∧ (b 9 = true → gb393 ≠ gb386) ∧ (b 10 = true → b 13 = false → w'.heap[gb394]? = some (.cells #[.int .i64 0, .int .i64 0] 38 (0, 0))) ∧ (b 10 = true → w.heap.size ≤ gb394) ∧ (b 10 = true → w.heap.size ≤ gb394) ∧ (b 10 = true → gb386 ≠ gb394) ∧ (b 10 = true → gb394 ≠ gb386) ∧ (b 11 = true → b 14 = false → w'.heap[gb395]? = some (.cells #[.int .i64 0, .int .i64 0] 38 (0, 0))) ∧ (b 11 = true → w.heap.size ≤ gb395) ∧ (b 11 = true → w.heap.size ≤ gb395) ∧ (b 11 = true → gb386 ≠ gb395) ∧ (b 11 = true → gb395 ≠ gb386) ∧ (b 12 = true → w'.heap[gb393]? = some (.cells #[.int .i64 t387, .int .i64 t388] 38 (0, 0))) ∧ (b 13 = true → w'.heap[gb394]? = some (.cells #[.int .i64 t389, .int .i64 t390] 38 (0, 0))) ∧ (b 14 = true → w'.heap[gb395]? = some (.cells #[.int .i64 t391, .int .i64 t392] 38 (0, 0))) ∧ (b 9 = true → (m9_ : Value) = .pointer (some ⟨gb393, 0, none⟩)) ∧ (b 10 = true → (m10_ : Value) = .pointer (some ⟨gb394, 0, none⟩)) ∧ (b 11 = true → (m11_ : Value) = .pointer (some ⟨gb395, 0, none⟩))) HT_.out HW_.out (by kernel_rfl) (by kernel_rfl) ?_ ?_ ?_
    ·exact ⟨0, 0, 0, .bool false, .bool false, .bool false, by simp only [putSel, Bool.false_eq_true, if_false], HO_3.out, BK386.out, HB.out, fun h_ => absurd h_ (by decide), fun h_ => absurd h_ (by decide), fun h_ => absurd h_ (by decide), fun h_ => absurd h_ (by decide), fun h_ => absurd h_ (by decide), fun h_ => absurd h_ (by decide), fun h_ => absurd h_ (by decide), fun h_ => absurd h_ (by decide), fun h_ => absurd h_ (by decide), fun h_ => absurd h_ (by decide), fun h_ => absurd h_ (by decide), fun h_ => absurd h_ (by decide), fun h_ => absurd h_ (by decide), fun h_ => absurd h_ (by decide), fun h_ => absurd h_ (by decide), fun h_ => absurd h_ (by decide), fun h_ => absurd h_ (by decide), fun h_ => absurd h_ (by decide), fun h_ => absurd h_ (by decide), fun h_ => absurd h_ (by decide), fun h_ => absurd h_ (by decide), fun h_ => absurd h_ (by decide), fun h_ => absurd h_ (by decide), fun h_ => absurd h_ (by decide), fun h_ => absurd h_ (by decide), fun h_ => absurd h_ (by decide), fun h_ => absurd h_ (by decide)⟩
    ·skip
     clear BK386 HB HO_3
     refine steps_cons ?_ ?_
     ·rintro b a w' ⟨gb393, gb394, gb395, m9_, m10_, m11_, ha, Q_HO_3, Q_BK386, Q_HB, Q_NB394_393, Q_NB393_394, Q_NB395_393, Q_NB393_395, Q_NB395_394, Q_NB394_395, Q_BK393, Q_GW393, Q_GE393, Q_NB386_393, Q_NB393_386, Q_BK394, Q_GW394, Q_GE394, Q_NB386_394, Q_NB394_386, Q_BK395, Q_GW395, Q_GE395, Q_NB386_395, Q_NB395_386, Q_BK393_e12, Q_BK394_e13, Q_BK395_e14, Q_X9_, Q_X10_, Q_X11_⟩ hb_ hon hoff
      refine ⟨_, rfl, fun K hK => ?_⟩
      have e5 : a.tmps[5]? = some (.pointer (some ⟨gb386, 0, none⟩)) := by rw [ha]; exact (putSel_off rfl).trans rfl
      replace ha := Aside0.mk ha
      have HO_3 := Aside0.mk Q_HO_3
      have BK386 := Aside0.mk Q_BK386
      have HB := Aside0.mk Q_HB
      have hc0_ : w'.cell? ⟨gb386, 0, none⟩ = some (.int .i64 (wrap64 ((wrap64 (Int.tdiv x10_1 27)) - 1))) := bcl BK386 0
      have hc1_ : w'.cell? ⟨gb386, 1, none⟩ = some (.int .i64 (wrap64 ((Int.tmod (wrap64 (Int.tdiv x10_1 9)) 3) - 1))) := bcl BK386 1
      have hc2_ : w'.cell? ⟨gb386, 2, none⟩ = some (.int .i64 (wrap64 ((Int.tmod (wrap64 (Int.tdiv x10_1 3)) 3) - 1))) := bcl BK386 2
      have hc3_ : w'.cell? ⟨gb386, 3, none⟩ = some (.int .i64 (wrap64 ((Int.tmod x10_1 3) - 1))) := bcl BK386 3
      refine value_ (w1 := w') (v := .agg #[.int .i64 (wrap64 ((wrap64 (Int.tdiv x10_1 27)) - 1)), .int .i64 (wrap64 ((Int.tmod (wrap64 (Int.tdiv x10_1 9)) 3) - 1)), .int .i64 (wrap64 ((Int.tmod (wrap64 (Int.tdiv x10_1 3)) 3) - 1)), .int .i64 (wrap64 ((Int.tmod x10_1 3) - 1))]) (by rfl) rfl ?_ ?_
      ·go_simp
       (try simp only [i64_w])
       try rfl
      refine hK.out _ _ ⟨gb393, gb394, gb395, m9_, m10_, m11_, (by rw [ha.out]; exact putSel_upk 0 hb_ rfl rfl rfl), Q_HO_3, Q_BK386, Q_HB, Q_NB394_393, Q_NB393_394, Q_NB395_393, Q_NB393_395, Q_NB395_394, Q_NB394_395, Q_BK393, Q_GW393, Q_GE393, Q_NB386_393, Q_NB393_386, Q_BK394, Q_GW394, Q_GE394, Q_NB386_394, Q_NB394_386, Q_BK395, Q_GW395, Q_GE395, Q_NB386_395, Q_NB395_386, fun h0_ => absurd ((hoff 12 (by kernel_rfl)).symm.trans h0_) (by decide), fun h0_ => absurd ((hoff 13 (by kernel_rfl)).symm.trans h0_) (by decide), fun h0_ => absurd ((hoff 14 (by kernel_rfl)).symm.trans h0_) (by decide), Q_X9_, Q_X10_, Q_X11_⟩
     refine steps_cons ?_ ?_
     ·rintro b a w' ⟨gb393, gb394, gb395, m9_, m10_, m11_, ha, Q_HO_3, Q_BK386, Q_HB, Q_NB394_393, Q_NB393_394, Q_NB395_393, Q_NB393_395, Q_NB395_394, Q_NB394_395, Q_BK393, Q_GW393, Q_GE393, Q_NB386_393, Q_NB393_386, Q_BK394, Q_GW394, Q_GE394, Q_NB386_394, Q_NB394_386, Q_BK395, Q_GW395, Q_GE395, Q_NB386_395, Q_NB395_386, Q_BK393_e12, Q_BK394_e13, Q_BK395_e14, Q_X9_, Q_X10_, Q_X11_⟩ hb_ hon hoff
      refine ⟨_, rfl, fun K hK => ?_⟩
      replace ha := Aside0.mk ha
      have HO_3 := Aside0.mk Q_HO_3
      have BK386 := Aside0.mk Q_BK386
      have HB := Aside0.mk Q_HB
      refine value_ (w1 := w') (v := .agg #[.int .i64 1, .int .i64 0]) (by rfl) rfl ?_ ?_
      ·go_simp
       (try simp only [i64_w])
       try rfl
      refine hK.out _ _ ⟨gb393, gb394, gb395, m9_, m10_, m11_, (by rw [ha.out]; exact putSel_upk 1 hb_ rfl rfl rfl), Q_HO_3, Q_BK386, Q_HB, Q_NB394_393, Q_NB393_394, Q_NB395_393, Q_NB393_395, Q_NB395_394, Q_NB394_395, Q_BK393, Q_GW393, Q_GE393, Q_NB386_393, Q_NB393_386, Q_BK394, Q_GW394, Q_GE394, Q_NB386_394, Q_NB394_386, Q_BK395, Q_GW395, Q_GE395, Q_NB386_395, Q_NB395_386, fun h0_ => absurd ((hoff 12 (by kernel_rfl)).symm.trans h0_) (by decide), fun h0_ => absurd ((hoff 13 (by kernel_rfl)).symm.trans h0_) (by decide), fun h0_ => absurd ((hoff 14 (by kernel_rfl)).symm.trans h0_) (by decide), Q_X9_, Q_X10_, Q_X11_⟩
     refine steps_cons ?_ ?_
     ·rintro b a w' ⟨gb393, gb394, gb395, m9_, m10_, m11_, ha, Q_HO_3, Q_BK386, Q_HB, Q_NB394_393, Q_NB393_394, Q_NB395_393, Q_NB393_395, Q_NB395_394, Q_NB394_395, Q_BK393, Q_GW393, Q_GE393, Q_NB386_393, Q_NB393_386, Q_BK394, Q_GW394, Q_GE394, Q_NB386_394, Q_NB394_386, Q_BK395, Q_GW395, Q_GE395, Q_NB386_395, Q_NB395_386, Q_BK393_e12, Q_BK394_e13, Q_BK395_e14, Q_X9_, Q_X10_, Q_X11_⟩ hb_ hon hoff
      refine ⟨_, rfl, fun K hK => ?_⟩
      have e28 : a.tmps[28]? = some (.agg #[.int .i64 (wrap64 ((wrap64 (Int.tdiv x10_1 27)) - 1)), .int .i64 (wrap64 ((Int.tmod (wrap64 (Int.tdiv x10_1 9)) 3) - 1)), .int .i64 (wrap64 ((Int.tmod (wrap64 (Int.tdiv x10_1 3)) 3) - 1)), .int .i64 (wrap64 ((Int.tmod x10_1 3) - 1))]) := by rw [ha]; exact putSel_on (e := (0, 28, .agg #[.int .i64 (wrap64 ((wrap64 (Int.tdiv x10_1 27)) - 1)), .int .i64 (wrap64 ((Int.tmod (wrap64 (Int.tdiv x10_1 9)) 3) - 1)), .int .i64 (wrap64 ((Int.tmod (wrap64 (Int.tdiv x10_1 3)) 3) - 1)), .int .i64 (wrap64 ((Int.tmod x10_1 3) - 1))])) 0 rfl rfl (hon 0 (by kernel_rfl)) rfl
      have e29 : a.tmps[29]? = some (.agg #[.int .i64 1, .int .i64 0]) := by rw [ha]; exact putSel_on (e := (1, 29, .agg #[.int .i64 1, .int .i64 0])) 1 rfl rfl (hon 1 (by kernel_rfl)) rfl
      replace ha := Aside0.mk ha
      have HO_3 := Aside0.mk Q_HO_3
      have BK386 := Aside0.mk Q_BK386
      have HB := Aside0.mk Q_HB
      refine goes_ Tryz.func84 (by kernel_rfl) rfl #[.agg #[.int .i64 (wrap64 ((wrap64 (Int.tdiv x10_1 27)) - 1)), .int .i64 (wrap64 ((Int.tmod (wrap64 (Int.tdiv x10_1 9)) 3) - 1)), .int .i64 (wrap64 ((Int.tmod (wrap64 (Int.tdiv x10_1 3)) 3) - 1)), .int .i64 (wrap64 ((Int.tmod x10_1 3) - 1))], .agg #[.int .i64 1, .int .i64 0]] (by rfl) rfl rfl (by first | (simp only [List.map_toArray, List.map_cons, List.map_nil, Act.eval, Array.getD_eq_getD_getElem?, Option.getD_some, e28, e29]; done) | (simp only [List.map_toArray, List.map_cons, List.map_nil, Act.eval, Array.getD_eq_getD_getElem?, Option.getD_some, e28, e29]; rfl)) ?_
      with_reducible refine (impl_Mat_apply.calls _ _ _ _ _ _ _ _ _ A5.out).mono ?_
      rintro e w19 ⟨rfl, hb⟩
      refine ⟨_, rfl, ?_⟩
      have n0_ := asd (Kd.R_below (kr HO_3) hb)
      have n1_ := bB BK386 hb
      have n2_ := bS1 HB GE386 hb
      have z_BK393 := fun (h0_ : b 9 = true) (h1_ : b 12 = false) => (show w19.heap[gb393]? = some (.cells #[.int .i64 0, .int .i64 0] 38 (0, 0)) from by first | exact (blk_below (g := gb393) (o := .cells #[.int .i64 0, .int .i64 0] 38 (0, 0)) (by (with_reducible repeat (first | refine blk_drewN ?_ _ | refine blk_drew ?_ | refine blk_alloc ?_ _)); exact (Q_BK393 h0_ h1_)) hb))
      have z_BK394 := fun (h0_ : b 10 = true) (h1_ : b 13 = false) => (show w19.heap[gb394]? = some (.cells #[.int .i64 0, .int .i64 0] 38 (0, 0)) from by first | exact (blk_below (g := gb394) (o := .cells #[.int .i64 0, .int .i64 0] 38 (0, 0)) (by (with_reducible repeat (first | refine blk_drewN ?_ _ | refine blk_drew ?_ | refine blk_alloc ?_ _)); exact (Q_BK394 h0_ h1_)) hb))
      have z_BK395 := fun (h0_ : b 11 = true) (h1_ : b 14 = false) => (show w19.heap[gb395]? = some (.cells #[.int .i64 0, .int .i64 0] 38 (0, 0)) from by first | exact (blk_below (g := gb395) (o := .cells #[.int .i64 0, .int .i64 0] 38 (0, 0)) (by (with_reducible repeat (first | refine blk_drewN ?_ _ | refine blk_drew ?_ | refine blk_alloc ?_ _)); exact (Q_BK395 h0_ h1_)) hb))
      clear HO_3
      clear BK386
      clear HB
      have HO_3 := n0_
      have BK386 := n1_
      have HB := n2_
      clear n0_ n1_ n2_
      (try clear hb)
      (try clear hb2)
      (try clear hk)
      (try clear hi)
      refine hK.out _ _ ⟨gb393, gb394, gb395, m9_, m10_, m11_, (by rw [ha.out]; exact putSel_upk 2 hb_ rfl rfl rfl), (kr HO_3), (bkp BK386), (bbw1 HB GE386), Q_NB394_393, Q_NB393_394, Q_NB395_393, Q_NB393_395, Q_NB395_394, Q_NB394_395, z_BK393, Q_GW393, Q_GE393, Q_NB386_393, Q_NB393_386, z_BK394, Q_GW394, Q_GE394, Q_NB386_394, Q_NB394_386, z_BK395, Q_GW395, Q_GE395, Q_NB386_395, Q_NB395_386, fun h0_ => absurd ((hoff 12 (by kernel_rfl)).symm.trans h0_) (by decide), fun h0_ => absurd ((hoff 13 (by kernel_rfl)).symm.trans h0_) (by decide), fun h0_ => absurd ((hoff 14 (by kernel_rfl)).symm.trans h0_) (by decide), Q_X9_, Q_X10_, Q_X11_⟩
     refine steps_cons ?_ ?_
     ·rintro b a w' ⟨gb393, gb394, gb395, m9_, m10_, m11_, ha, Q_HO_3, Q_BK386, Q_HB, Q_NB394_393, Q_NB393_394, Q_NB395_393, Q_NB393_395, Q_NB395_394, Q_NB394_395, Q_BK393, Q_GW393, Q_GE393, Q_NB386_393, Q_NB393_386, Q_BK394, Q_GW394, Q_GE394, Q_NB386_394, Q_NB394_386, Q_BK395, Q_GW395, Q_GE395, Q_NB386_395, Q_NB395_386, Q_BK393_e12, Q_BK394_e13, Q_BK395_e14, Q_X9_, Q_X10_, Q_X11_⟩ hb_ hon hoff
      refine ⟨_, rfl, fun K hK => ?_⟩
      have e5 : a.tmps[5]? = some (.pointer (some ⟨gb386, 0, none⟩)) := by rw [ha]; exact (putSel_off rfl).trans rfl
      replace ha := Aside0.mk ha
      have HO_3 := Aside0.mk Q_HO_3
      have BK386 := Aside0.mk Q_BK386
      have HB := Aside0.mk Q_HB
      have hc0_ : w'.cell? ⟨gb386, 0, none⟩ = some (.int .i64 (wrap64 ((wrap64 (Int.tdiv x10_1 27)) - 1))) := bcl BK386 0
      have hc1_ : w'.cell? ⟨gb386, 1, none⟩ = some (.int .i64 (wrap64 ((Int.tmod (wrap64 (Int.tdiv x10_1 9)) 3) - 1))) := bcl BK386 1
      have hc2_ : w'.cell? ⟨gb386, 2, none⟩ = some (.int .i64 (wrap64 ((Int.tmod (wrap64 (Int.tdiv x10_1 3)) 3) - 1))) := bcl BK386 2
      have hc3_ : w'.cell? ⟨gb386, 3, none⟩ = some (.int .i64 (wrap64 ((Int.tmod x10_1 3) - 1))) := bcl BK386 3
      refine value_ (w1 := w') (v := .agg #[.int .i64 (wrap64 ((wrap64 (Int.tdiv x10_1 27)) - 1)), .int .i64 (wrap64 ((Int.tmod (wrap64 (Int.tdiv x10_1 9)) 3) - 1)), .int .i64 (wrap64 ((Int.tmod (wrap64 (Int.tdiv x10_1 3)) 3) - 1)), .int .i64 (wrap64 ((Int.tmod x10_1 3) - 1))]) (by rfl) rfl ?_ ?_
      ·go_simp
       (try simp only [i64_w])
       try rfl
      refine hK.out _ _ ⟨gb393, gb394, gb395, m9_, m10_, m11_, (by rw [ha.out]; exact putSel_upk 3 hb_ rfl rfl rfl), Q_HO_3, Q_BK386, Q_HB, Q_NB394_393, Q_NB393_394, Q_NB395_393, Q_NB393_395, Q_NB395_394, Q_NB394_395, Q_BK393, Q_GW393, Q_GE393, Q_NB386_393, Q_NB393_386, Q_BK394, Q_GW394, Q_GE394, Q_NB386_394, Q_NB394_386, Q_BK395, Q_GW395, Q_GE395, Q_NB386_395, Q_NB395_386, fun h0_ => absurd ((hoff 12 (by kernel_rfl)).symm.trans h0_) (by decide), fun h0_ => absurd ((hoff 13 (by kernel_rfl)).symm.trans h0_) (by decide), fun h0_ => absurd ((hoff 14 (by kernel_rfl)).symm.trans h0_) (by decide), Q_X9_, Q_X10_, Q_X11_⟩
     refine steps_cons ?_ ?_
     ·rintro b a w' ⟨gb393, gb394, gb395, m9_, m10_, m11_, ha, Q_HO_3, Q_BK386, Q_HB, Q_NB394_393, Q_NB393_394, Q_NB395_393, Q_NB393_395, Q_NB395_394, Q_NB394_395, Q_BK393, Q_GW393, Q_GE393, Q_NB386_393, Q_NB393_386, Q_BK394, Q_GW394, Q_GE394, Q_NB386_394, Q_NB394_386, Q_BK395, Q_GW395, Q_GE395, Q_NB386_395, Q_NB395_386, Q_BK393_e12, Q_BK394_e13, Q_BK395_e14, Q_X9_, Q_X10_, Q_X11_⟩ hb_ hon hoff
      refine ⟨_, rfl, fun K hK => ?_⟩
      replace ha := Aside0.mk ha
      have HO_3 := Aside0.mk Q_HO_3
      have BK386 := Aside0.mk Q_BK386
      have HB := Aside0.mk Q_HB
      refine value_ (w1 := w') (v := .agg #[.int .i64 0, .int .i64 1]) (by rfl) rfl ?_ ?_
      ·go_simp
       (try simp only [i64_w])
       try rfl
      refine hK.out _ _ ⟨gb393, gb394, gb395, m9_, m10_, m11_, (by rw [ha.out]; exact putSel_upk 4 hb_ rfl rfl rfl), Q_HO_3, Q_BK386, Q_HB, Q_NB394_393, Q_NB393_394, Q_NB395_393, Q_NB393_395, Q_NB395_394, Q_NB394_395, Q_BK393, Q_GW393, Q_GE393, Q_NB386_393, Q_NB393_386, Q_BK394, Q_GW394, Q_GE394, Q_NB386_394, Q_NB394_386, Q_BK395, Q_GW395, Q_GE395, Q_NB386_395, Q_NB395_386, fun h0_ => absurd ((hoff 12 (by kernel_rfl)).symm.trans h0_) (by decide), fun h0_ => absurd ((hoff 13 (by kernel_rfl)).symm.trans h0_) (by decide), fun h0_ => absurd ((hoff 14 (by kernel_rfl)).symm.trans h0_) (by decide), Q_X9_, Q_X10_, Q_X11_⟩
     refine steps_cons ?_ ?_
     ·rintro b a w' ⟨gb393, gb394, gb395, m9_, m10_, m11_, ha, Q_HO_3, Q_BK386, Q_HB, Q_NB394_393, Q_NB393_394, Q_NB395_393, Q_NB393_395, Q_NB395_394, Q_NB394_395, Q_BK393, Q_GW393, Q_GE393, Q_NB386_393, Q_NB393_386, Q_BK394, Q_GW394, Q_GE394, Q_NB386_394, Q_NB394_386, Q_BK395, Q_GW395, Q_GE395, Q_NB386_395, Q_NB395_386, Q_BK393_e12, Q_BK394_e13, Q_BK395_e14, Q_X9_, Q_X10_, Q_X11_⟩ hb_ hon hoff
      refine ⟨_, rfl, fun K hK => ?_⟩
      have e31 : a.tmps[31]? = some (.agg #[.int .i64 (wrap64 ((wrap64 (Int.tdiv x10_1 27)) - 1)), .int .i64 (wrap64 ((Int.tmod (wrap64 (Int.tdiv x10_1 9)) 3) - 1)), .int .i64 (wrap64 ((Int.tmod (wrap64 (Int.tdiv x10_1 3)) 3) - 1)), .int .i64 (wrap64 ((Int.tmod x10_1 3) - 1))]) := by rw [ha]; exact putSel_on (e := (3, 31, .agg #[.int .i64 (wrap64 ((wrap64 (Int.tdiv x10_1 27)) - 1)), .int .i64 (wrap64 ((Int.tmod (wrap64 (Int.tdiv x10_1 9)) 3) - 1)), .int .i64 (wrap64 ((Int.tmod (wrap64 (Int.tdiv x10_1 3)) 3) - 1)), .int .i64 (wrap64 ((Int.tmod x10_1 3) - 1))])) 3 rfl rfl (hon 3 (by kernel_rfl)) rfl
      have e32 : a.tmps[32]? = some (.agg #[.int .i64 0, .int .i64 1]) := by rw [ha]; exact putSel_on (e := (4, 32, .agg #[.int .i64 0, .int .i64 1])) 4 rfl rfl (hon 4 (by kernel_rfl)) rfl
      replace ha := Aside0.mk ha
      have HO_3 := Aside0.mk Q_HO_3
      have BK386 := Aside0.mk Q_BK386
      have HB := Aside0.mk Q_HB
      refine goes_ Tryz.func84 (by kernel_rfl) rfl #[.agg #[.int .i64 (wrap64 ((wrap64 (Int.tdiv x10_1 27)) - 1)), .int .i64 (wrap64 ((Int.tmod (wrap64 (Int.tdiv x10_1 9)) 3) - 1)), .int .i64 (wrap64 ((Int.tmod (wrap64 (Int.tdiv x10_1 3)) 3) - 1)), .int .i64 (wrap64 ((Int.tmod x10_1 3) - 1))], .agg #[.int .i64 0, .int .i64 1]] (by rfl) rfl rfl (by first | (simp only [List.map_toArray, List.map_cons, List.map_nil, Act.eval, Array.getD_eq_getD_getElem?, Option.getD_some, e31, e32]; done) | (simp only [List.map_toArray, List.map_cons, List.map_nil, Act.eval, Array.getD_eq_getD_getElem?, Option.getD_some, e31, e32]; rfl)) ?_
      with_reducible refine (impl_Mat_apply.calls _ _ _ _ _ _ _ _ _ A6.out).mono ?_
      rintro e w21 ⟨rfl, hb⟩
      refine ⟨_, rfl, ?_⟩
      have n0_ := asd (Kd.R_below (kr HO_3) hb)
      have n1_ := bB BK386 hb
      have n2_ := bS1 HB GE386 hb
      have z_BK393 := fun (h0_ : b 9 = true) (h1_ : b 12 = false) => (show w21.heap[gb393]? = some (.cells #[.int .i64 0, .int .i64 0] 38 (0, 0)) from by first | exact (blk_below (g := gb393) (o := .cells #[.int .i64 0, .int .i64 0] 38 (0, 0)) (by (with_reducible repeat (first | refine blk_drewN ?_ _ | refine blk_drew ?_ | refine blk_alloc ?_ _)); exact (Q_BK393 h0_ h1_)) hb))
      have z_BK394 := fun (h0_ : b 10 = true) (h1_ : b 13 = false) => (show w21.heap[gb394]? = some (.cells #[.int .i64 0, .int .i64 0] 38 (0, 0)) from by first | exact (blk_below (g := gb394) (o := .cells #[.int .i64 0, .int .i64 0] 38 (0, 0)) (by (with_reducible repeat (first | refine blk_drewN ?_ _ | refine blk_drew ?_ | refine blk_alloc ?_ _)); exact (Q_BK394 h0_ h1_)) hb))
      have z_BK395 := fun (h0_ : b 11 = true) (h1_ : b 14 = false) => (show w21.heap[gb395]? = some (.cells #[.int .i64 0, .int .i64 0] 38 (0, 0)) from by first | exact (blk_below (g := gb395) (o := .cells #[.int .i64 0, .int .i64 0] 38 (0, 0)) (by (with_reducible repeat (first | refine blk_drewN ?_ _ | refine blk_drew ?_ | refine blk_alloc ?_ _)); exact (Q_BK395 h0_ h1_)) hb))
      clear HO_3
      clear BK386
      clear HB
      have HO_3 := n0_
      have BK386 := n1_
      have HB := n2_
      clear n0_ n1_ n2_
      (try clear hb)
      (try clear hb2)
      (try clear hk)
      (try clear hi)
      refine hK.out _ _ ⟨gb393, gb394, gb395, m9_, m10_, m11_, (by rw [ha.out]; exact putSel_upk 5 hb_ rfl rfl rfl), (kr HO_3), (bkp BK386), (bbw1 HB GE386), Q_NB394_393, Q_NB393_394, Q_NB395_393, Q_NB393_395, Q_NB395_394, Q_NB394_395, z_BK393, Q_GW393, Q_GE393, Q_NB386_393, Q_NB393_386, z_BK394, Q_GW394, Q_GE394, Q_NB386_394, Q_NB394_386, z_BK395, Q_GW395, Q_GE395, Q_NB386_395, Q_NB395_386, fun h0_ => absurd ((hoff 12 (by kernel_rfl)).symm.trans h0_) (by decide), fun h0_ => absurd ((hoff 13 (by kernel_rfl)).symm.trans h0_) (by decide), fun h0_ => absurd ((hoff 14 (by kernel_rfl)).symm.trans h0_) (by decide), Q_X9_, Q_X10_, Q_X11_⟩
     refine steps_cons ?_ ?_
     ·rintro b a w' ⟨gb393, gb394, gb395, m9_, m10_, m11_, ha, Q_HO_3, Q_BK386, Q_HB, Q_NB394_393, Q_NB393_394, Q_NB395_393, Q_NB393_395, Q_NB395_394, Q_NB394_395, Q_BK393, Q_GW393, Q_GE393, Q_NB386_393, Q_NB393_386, Q_BK394, Q_GW394, Q_GE394, Q_NB386_394, Q_NB394_386, Q_BK395, Q_GW395, Q_GE395, Q_NB386_395, Q_NB395_386, Q_BK393_e12, Q_BK394_e13, Q_BK395_e14, Q_X9_, Q_X10_, Q_X11_⟩ hb_ hon hoff
      refine ⟨_, rfl, fun K hK => ?_⟩
      have e5 : a.tmps[5]? = some (.pointer (some ⟨gb386, 0, none⟩)) := by rw [ha]; exact (putSel_off rfl).trans rfl
      replace ha := Aside0.mk ha
      have HO_3 := Aside0.mk Q_HO_3
      have BK386 := Aside0.mk Q_BK386
      have HB := Aside0.mk Q_HB
      have hc0_ : w'.cell? ⟨gb386, 0, none⟩ = some (.int .i64 (wrap64 ((wrap64 (Int.tdiv x10_1 27)) - 1))) := bcl BK386 0
      have hc1_ : w'.cell? ⟨gb386, 1, none⟩ = some (.int .i64 (wrap64 ((Int.tmod (wrap64 (Int.tdiv x10_1 9)) 3) - 1))) := bcl BK386 1
      have hc2_ : w'.cell? ⟨gb386, 2, none⟩ = some (.int .i64 (wrap64 ((Int.tmod (wrap64 (Int.tdiv x10_1 3)) 3) - 1))) := bcl BK386 2
      have hc3_ : w'.cell? ⟨gb386, 3, none⟩ = some (.int .i64 (wrap64 ((Int.tmod x10_1 3) - 1))) := bcl BK386 3
      refine value_ (w1 := w') (v := .agg #[.int .i64 (wrap64 ((wrap64 (Int.tdiv x10_1 27)) - 1)), .int .i64 (wrap64 ((Int.tmod (wrap64 (Int.tdiv x10_1 9)) 3) - 1)), .int .i64 (wrap64 ((Int.tmod (wrap64 (Int.tdiv x10_1 3)) 3) - 1)), .int .i64 (wrap64 ((Int.tmod x10_1 3) - 1))]) (by rfl) rfl ?_ ?_
      ·go_simp
       (try simp only [i64_w])
       try rfl
      refine hK.out _ _ ⟨gb393, gb394, gb395, m9_, m10_, m11_, (by rw [ha.out]; exact putSel_upk 6 hb_ rfl rfl rfl), Q_HO_3, Q_BK386, Q_HB, Q_NB394_393, Q_NB393_394, Q_NB395_393, Q_NB393_395, Q_NB395_394, Q_NB394_395, Q_BK393, Q_GW393, Q_GE393, Q_NB386_393, Q_NB393_386, Q_BK394, Q_GW394, Q_GE394, Q_NB386_394, Q_NB394_386, Q_BK395, Q_GW395, Q_GE395, Q_NB386_395, Q_NB395_386, fun h0_ => absurd ((hoff 12 (by kernel_rfl)).symm.trans h0_) (by decide), fun h0_ => absurd ((hoff 13 (by kernel_rfl)).symm.trans h0_) (by decide), fun h0_ => absurd ((hoff 14 (by kernel_rfl)).symm.trans h0_) (by decide), Q_X9_, Q_X10_, Q_X11_⟩
     refine steps_cons ?_ ?_
     ·rintro b a w' ⟨gb393, gb394, gb395, m9_, m10_, m11_, ha, Q_HO_3, Q_BK386, Q_HB, Q_NB394_393, Q_NB393_394, Q_NB395_393, Q_NB393_395, Q_NB395_394, Q_NB394_395, Q_BK393, Q_GW393, Q_GE393, Q_NB386_393, Q_NB393_386, Q_BK394, Q_GW394, Q_GE394, Q_NB386_394, Q_NB394_386, Q_BK395, Q_GW395, Q_GE395, Q_NB386_395, Q_NB395_386, Q_BK393_e12, Q_BK394_e13, Q_BK395_e14, Q_X9_, Q_X10_, Q_X11_⟩ hb_ hon hoff
      refine ⟨_, rfl, fun K hK => ?_⟩
      replace ha := Aside0.mk ha
      have HO_3 := Aside0.mk Q_HO_3
      have BK386 := Aside0.mk Q_BK386
      have HB := Aside0.mk Q_HB
      refine value_ (w1 := w') (v := .agg #[.int .i64 1, .int .i64 1]) (by rfl) rfl ?_ ?_
      ·go_simp
       (try simp only [i64_w])
       try rfl
      refine hK.out _ _ ⟨gb393, gb394, gb395, m9_, m10_, m11_, (by rw [ha.out]; exact putSel_upk 7 hb_ rfl rfl rfl), Q_HO_3, Q_BK386, Q_HB, Q_NB394_393, Q_NB393_394, Q_NB395_393, Q_NB393_395, Q_NB395_394, Q_NB394_395, Q_BK393, Q_GW393, Q_GE393, Q_NB386_393, Q_NB393_386, Q_BK394, Q_GW394, Q_GE394, Q_NB386_394, Q_NB394_386, Q_BK395, Q_GW395, Q_GE395, Q_NB386_395, Q_NB395_386, fun h0_ => absurd ((hoff 12 (by kernel_rfl)).symm.trans h0_) (by decide), fun h0_ => absurd ((hoff 13 (by kernel_rfl)).symm.trans h0_) (by decide), fun h0_ => absurd ((hoff 14 (by kernel_rfl)).symm.trans h0_) (by decide), Q_X9_, Q_X10_, Q_X11_⟩
     refine steps_cons ?_ ?_
     ·rintro b a w' ⟨gb393, gb394, gb395, m9_, m10_, m11_, ha, Q_HO_3, Q_BK386, Q_HB, Q_NB394_393, Q_NB393_394, Q_NB395_393, Q_NB393_395, Q_NB395_394, Q_NB394_395, Q_BK393, Q_GW393, Q_GE393, Q_NB386_393, Q_NB393_386, Q_BK394, Q_GW394, Q_GE394, Q_NB386_394, Q_NB394_386, Q_BK395, Q_GW395, Q_GE395, Q_NB386_395, Q_NB395_386, Q_BK393_e12, Q_BK394_e13, Q_BK395_e14, Q_X9_, Q_X10_, Q_X11_⟩ hb_ hon hoff
      refine ⟨_, rfl, fun K hK => ?_⟩
      have e34 : a.tmps[34]? = some (.agg #[.int .i64 (wrap64 ((wrap64 (Int.tdiv x10_1 27)) - 1)), .int .i64 (wrap64 ((Int.tmod (wrap64 (Int.tdiv x10_1 9)) 3) - 1)), .int .i64 (wrap64 ((Int.tmod (wrap64 (Int.tdiv x10_1 3)) 3) - 1)), .int .i64 (wrap64 ((Int.tmod x10_1 3) - 1))]) := by rw [ha]; exact putSel_on (e := (6, 34, .agg #[.int .i64 (wrap64 ((wrap64 (Int.tdiv x10_1 27)) - 1)), .int .i64 (wrap64 ((Int.tmod (wrap64 (Int.tdiv x10_1 9)) 3) - 1)), .int .i64 (wrap64 ((Int.tmod (wrap64 (Int.tdiv x10_1 3)) 3) - 1)), .int .i64 (wrap64 ((Int.tmod x10_1 3) - 1))])) 6 rfl rfl (hon 6 (by kernel_rfl)) rfl
      have e35 : a.tmps[35]? = some (.agg #[.int .i64 1, .int .i64 1]) := by rw [ha]; exact putSel_on (e := (7, 35, .agg #[.int .i64 1, .int .i64 1])) 7 rfl rfl (hon 7 (by kernel_rfl)) rfl
      replace ha := Aside0.mk ha
      have HO_3 := Aside0.mk Q_HO_3
      have BK386 := Aside0.mk Q_BK386
      have HB := Aside0.mk Q_HB
      refine goes_ Tryz.func84 (by kernel_rfl) rfl #[.agg #[.int .i64 (wrap64 ((wrap64 (Int.tdiv x10_1 27)) - 1)), .int .i64 (wrap64 ((Int.tmod (wrap64 (Int.tdiv x10_1 9)) 3) - 1)), .int .i64 (wrap64 ((Int.tmod (wrap64 (Int.tdiv x10_1 3)) 3) - 1)), .int .i64 (wrap64 ((Int.tmod x10_1 3) - 1))], .agg #[.int .i64 1, .int .i64 1]] (by rfl) rfl rfl (by first | (simp only [List.map_toArray, List.map_cons, List.map_nil, Act.eval, Array.getD_eq_getD_getElem?, Option.getD_some, e34, e35]; done) | (simp only [List.map_toArray, List.map_cons, List.map_nil, Act.eval, Array.getD_eq_getD_getElem?, Option.getD_some, e34, e35]; rfl)) ?_
      with_reducible refine (impl_Mat_apply.calls _ _ _ _ _ _ _ _ _ A7.out).mono ?_
      rintro e w22 ⟨rfl, hb⟩
      refine ⟨_, rfl, ?_⟩
      have n0_ := asd (Kd.R_below (kr HO_3) hb)
      have n1_ := bB BK386 hb
      have n2_ := bS1 HB GE386 hb
      have z_BK393 := fun (h0_ : b 9 = true) (h1_ : b 12 = false) => (show w22.heap[gb393]? = some (.cells #[.int .i64 0, .int .i64 0] 38 (0, 0)) from by first | exact (blk_below (g := gb393) (o := .cells #[.int .i64 0, .int .i64 0] 38 (0, 0)) (by (with_reducible repeat (first | refine blk_drewN ?_ _ | refine blk_drew ?_ | refine blk_alloc ?_ _)); exact (Q_BK393 h0_ h1_)) hb))
      have z_BK394 := fun (h0_ : b 10 = true) (h1_ : b 13 = false) => (show w22.heap[gb394]? = some (.cells #[.int .i64 0, .int .i64 0] 38 (0, 0)) from by first | exact (blk_below (g := gb394) (o := .cells #[.int .i64 0, .int .i64 0] 38 (0, 0)) (by (with_reducible repeat (first | refine blk_drewN ?_ _ | refine blk_drew ?_ | refine blk_alloc ?_ _)); exact (Q_BK394 h0_ h1_)) hb))
      have z_BK395 := fun (h0_ : b 11 = true) (h1_ : b 14 = false) => (show w22.heap[gb395]? = some (.cells #[.int .i64 0, .int .i64 0] 38 (0, 0)) from by first | exact (blk_below (g := gb395) (o := .cells #[.int .i64 0, .int .i64 0] 38 (0, 0)) (by (with_reducible repeat (first | refine blk_drewN ?_ _ | refine blk_drew ?_ | refine blk_alloc ?_ _)); exact (Q_BK395 h0_ h1_)) hb))
      clear HO_3
      clear BK386
      clear HB
      have HO_3 := n0_
      have BK386 := n1_
      have HB := n2_
      clear n0_ n1_ n2_
      (try clear hb)
      (try clear hb2)
      (try clear hk)
      (try clear hi)
      refine hK.out _ _ ⟨gb393, gb394, gb395, m9_, m10_, m11_, (by rw [ha.out]; exact putSel_upk 8 hb_ rfl rfl rfl), (kr HO_3), (bkp BK386), (bbw1 HB GE386), Q_NB394_393, Q_NB393_394, Q_NB395_393, Q_NB393_395, Q_NB395_394, Q_NB394_395, z_BK393, Q_GW393, Q_GE393, Q_NB386_393, Q_NB393_386, z_BK394, Q_GW394, Q_GE394, Q_NB386_394, Q_NB394_386, z_BK395, Q_GW395, Q_GE395, Q_NB386_395, Q_NB395_386, fun h0_ => absurd ((hoff 12 (by kernel_rfl)).symm.trans h0_) (by decide), fun h0_ => absurd ((hoff 13 (by kernel_rfl)).symm.trans h0_) (by decide), fun h0_ => absurd ((hoff 14 (by kernel_rfl)).symm.trans h0_) (by decide), Q_X9_, Q_X10_, Q_X11_⟩
     refine steps_cons ?_ ?_
     ·rintro b a w' ⟨gb393, gb394, gb395, m9_, m10_, m11_, ha, Q_HO_3, Q_BK386, Q_HB, Q_NB394_393, Q_NB393_394, Q_NB395_393, Q_NB393_395, Q_NB395_394, Q_NB394_395, Q_BK393, Q_GW393, Q_GE393, Q_NB386_393, Q_NB393_386, Q_BK394, Q_GW394, Q_GE394, Q_NB386_394, Q_NB394_386, Q_BK395, Q_GW395, Q_GE395, Q_NB386_395, Q_NB395_386, Q_BK393_e12, Q_BK394_e13, Q_BK395_e14, Q_X9_, Q_X10_, Q_X11_⟩ hb_ hon hoff
      refine ⟨_, rfl, fun K hK => ?_⟩
      replace ha := Aside0.mk ha
      have HO_3 := Aside0.mk Q_HO_3
      have BK386 := Aside0.mk Q_BK386
      have HB := Aside0.mk Q_HB
      refine box_step ?hg (N := 6) ?hd (cs := #[.int .i64 0, .int .i64 0]) (t := 38) ?hr ?_; (case hd => rfl); (case hg => rfl); (case hr => first | (go_simp; done) | (go_simp; rfl))
      intro gb393 hg w19 hbox hb
      have n0_ := asd (Kd.R_below (kr HO_3) hb)
      have n1_ := bB BK386 hb
      have n2_ := bS1 HB GE386 hb
      have n3_ := asd (hbox)
      have n4_ := ngw1 hg HB GE386
      have n5_ := ngw1 hg HB GE386
      have n6_ := nlt hg BK386
      have n7_ := nsy (nlt hg BK386)
      have z_NB394_393 := fun (h0_ : up b 9 9 = true) (h1_ : up b 9 10 = true) => (show gb394 ≠ gb393 from ((by rw [hg]; exact Nat.ne_of_lt (by cases hq_ : b 13 with | false => exact blk_lt (g := gb394) (Q_BK394 h1_ hq_) | true => exact blk_lt (g := gb394) (Q_BK394_e13 hq_)) : gb394 ≠ gb393)))
      have z_NB393_394 := fun (h0_ : up b 9 9 = true) (h1_ : up b 9 10 = true) => (show gb393 ≠ gb394 from ((by rw [hg]; exact Nat.ne_of_gt (by cases hq_ : b 13 with | false => exact blk_lt (g := gb394) (Q_BK394 h1_ hq_) | true => exact blk_lt (g := gb394) (Q_BK394_e13 hq_)) : gb393 ≠ gb394)))
      have z_NB395_393 := fun (h0_ : up b 9 9 = true) (h1_ : up b 9 11 = true) => (show gb395 ≠ gb393 from ((by rw [hg]; exact Nat.ne_of_lt (by cases hq_ : b 14 with | false => exact blk_lt (g := gb395) (Q_BK395 h1_ hq_) | true => exact blk_lt (g := gb395) (Q_BK395_e14 hq_)) : gb395 ≠ gb393)))
      have z_NB393_395 := fun (h0_ : up b 9 9 = true) (h1_ : up b 9 11 = true) => (show gb393 ≠ gb395 from ((by rw [hg]; exact Nat.ne_of_gt (by cases hq_ : b 14 with | false => exact blk_lt (g := gb395) (Q_BK395 h1_ hq_) | true => exact blk_lt (g := gb395) (Q_BK395_e14 hq_)) : gb393 ≠ gb395)))
      have z_BK394 := fun (h0_ : b 10 = true) (h1_ : b 13 = false) => (show w19.heap[gb394]? = some (.cells #[.int .i64 0, .int .i64 0] 38 (0, 0)) from by first | exact (blk_below (g := gb394) (o := .cells #[.int .i64 0, .int .i64 0] 38 (0, 0)) (by (with_reducible repeat (first | refine blk_drewN ?_ _ | refine blk_drew ?_ | refine blk_alloc ?_ _)); exact (Q_BK394 h0_ h1_)) hb))
      have z_BK395 := fun (h0_ : b 11 = true) (h1_ : b 14 = false) => (show w19.heap[gb395]? = some (.cells #[.int .i64 0, .int .i64 0] 38 (0, 0)) from by first | exact (blk_below (g := gb395) (o := .cells #[.int .i64 0, .int .i64 0] 38 (0, 0)) (by (with_reducible repeat (first | refine blk_drewN ?_ _ | refine blk_drew ?_ | refine blk_alloc ?_ _)); exact (Q_BK395 h0_ h1_)) hb))
      clear HO_3
      clear BK386
      clear HB
      have HO_3 := n0_
      have BK386 := n1_
      have HB := n2_
      have BK393 := n3_
      have GW393 := n4_
      have GE393 := n5_
      have NB386_393 := n6_
      have NB393_386 := n7_
      clear n0_ n1_ n2_ n3_ n4_ n5_ n6_ n7_
      clear hb hbox hg
      refine hK.out _ _ ⟨gb393, gb394, gb395, (.pointer (some ⟨gb393, 0, none⟩)), m10_, m11_, (by rw [ha.out]; exact putSel_upk 9 hb_ rfl rfl rfl), (kr HO_3), (bkp BK386), (bbw2 HB GE386 GE393), @z_NB394_393, @z_NB393_394, @z_NB395_393, @z_NB393_395, Q_NB395_394, Q_NB394_395, fun _ _ => (bkp BK393), fun _ => GW393.out, fun _ => GE393.out, fun _ => NB386_393.out, fun _ => NB393_386.out, z_BK394, Q_GW394, Q_GE394, Q_NB386_394, Q_NB394_386, z_BK395, Q_GW395, Q_GE395, Q_NB386_395, Q_NB395_386, fun h0_ => absurd ((hoff 12 (by kernel_rfl)).symm.trans h0_) (by decide), fun h0_ => absurd ((hoff 13 (by kernel_rfl)).symm.trans h0_) (by decide), fun h0_ => absurd ((hoff 14 (by kernel_rfl)).symm.trans h0_) (by decide), fun _ => rfl, Q_X10_, Q_X11_⟩
     refine steps_cons ?_ ?_
     ·rintro b a w' ⟨gb393, gb394, gb395, m9_, m10_, m11_, ha, Q_HO_3, Q_BK386, Q_HB, Q_NB394_393, Q_NB393_394, Q_NB395_393, Q_NB393_395, Q_NB395_394, Q_NB394_395, Q_BK393, Q_GW393, Q_GE393, Q_NB386_393, Q_NB393_386, Q_BK394, Q_GW394, Q_GE394, Q_NB386_394, Q_NB394_386, Q_BK395, Q_GW395, Q_GE395, Q_NB386_395, Q_NB395_386, Q_BK393_e12, Q_BK394_e13, Q_BK395_e14, Q_X9_, Q_X10_, Q_X11_⟩ hb_ hon hoff
      refine ⟨_, rfl, fun K hK => ?_⟩
      replace ha := Aside0.mk ha
      have HO_3 := Aside0.mk Q_HO_3
      have BK386 := Aside0.mk Q_BK386
      have HB := Aside0.mk Q_HB
      refine box_step ?hg (N := 7) ?hd (cs := #[.int .i64 0, .int .i64 0]) (t := 38) ?hr ?_; (case hd => rfl); (case hg => rfl); (case hr => first | (go_simp; done) | (go_simp; rfl))
      intro gb394 hg w19 hbox hb
      have n0_ := asd (Kd.R_below (kr HO_3) hb)
      have n1_ := bB BK386 hb
      have n2_ := bS1 HB GE386 hb
      have n3_ := asd (hbox)
      have n4_ := ngw1 hg HB GE386
      have n5_ := ngw1 hg HB GE386
      have n6_ := nlt hg BK386
      have n7_ := nsy (nlt hg BK386)
      have z_NB394_393 := fun (h0_ : up b 10 9 = true) (h1_ : up b 10 10 = true) => (show gb394 ≠ gb393 from ((by rw [hg]; exact Nat.ne_of_gt (by cases hq_ : b 12 with | false => exact blk_lt (g := gb393) (Q_BK393 h0_ hq_) | true => exact blk_lt (g := gb393) (Q_BK393_e12 hq_)) : gb394 ≠ gb393)))
      have z_NB393_394 := fun (h0_ : up b 10 9 = true) (h1_ : up b 10 10 = true) => (show gb393 ≠ gb394 from ((by rw [hg]; exact Nat.ne_of_lt (by cases hq_ : b 12 with | false => exact blk_lt (g := gb393) (Q_BK393 h0_ hq_) | true => exact blk_lt (g := gb393) (Q_BK393_e12 hq_)) : gb393 ≠ gb394)))
      have z_NB395_394 := fun (h0_ : up b 10 10 = true) (h1_ : up b 10 11 = true) => (show gb395 ≠ gb394 from ((by rw [hg]; exact Nat.ne_of_lt (by cases hq_ : b 14 with | false => exact blk_lt (g := gb395) (Q_BK395 h1_ hq_) | true => exact blk_lt (g := gb395) (Q_BK395_e14 hq_)) : gb395 ≠ gb394)))
      have z_NB394_395 := fun (h0_ : up b 10 10 = true) (h1_ : up b 10 11 = true) => (show gb394 ≠ gb395 from ((by rw [hg]; exact Nat.ne_of_gt (by cases hq_ : b 14 with | false => exact blk_lt (g := gb395) (Q_BK395 h1_ hq_) | true => exact blk_lt (g := gb395) (Q_BK395_e14 hq_)) : gb394 ≠ gb395)))
      have z_BK393 := fun (h0_ : b 9 = true) (h1_ : b 12 = false) => (show w19.heap[gb393]? = some (.cells #[.int .i64 0, .int .i64 0] 38 (0, 0)) from by first | exact (blk_below (g := gb393) (o := .cells #[.int .i64 0, .int .i64 0] 38 (0, 0)) (by (with_reducible repeat (first | refine blk_drewN ?_ _ | refine blk_drew ?_ | refine blk_alloc ?_ _)); exact (Q_BK393 h0_ h1_)) hb))
      have z_BK395 := fun (h0_ : b 11 = true) (h1_ : b 14 = false) => (show w19.heap[gb395]? = some (.cells #[.int .i64 0, .int .i64 0] 38 (0, 0)) from by first | exact (blk_below (g := gb395) (o := .cells #[.int .i64 0, .int .i64 0] 38 (0, 0)) (by (with_reducible repeat (first | refine blk_drewN ?_ _ | refine blk_drew ?_ | refine blk_alloc ?_ _)); exact (Q_BK395 h0_ h1_)) hb))
      clear HO_3
      clear BK386
      clear HB
      have HO_3 := n0_
      have BK386 := n1_
      have HB := n2_
      have BK394 := n3_
      have GW394 := n4_
      have GE394 := n5_
      have NB386_394 := n6_
      have NB394_386 := n7_
      clear n0_ n1_ n2_ n3_ n4_ n5_ n6_ n7_
      clear hb hbox hg
      refine hK.out _ _ ⟨gb393, gb394, gb395, m9_, (.pointer (some ⟨gb394, 0, none⟩)), m11_, (by rw [ha.out]; exact putSel_upk 10 hb_ rfl rfl rfl), (kr HO_3), (bkp BK386), (bbw2 HB GE386 GE394), @z_NB394_393, @z_NB393_394, Q_NB395_393, Q_NB393_395, @z_NB395_394, @z_NB394_395, z_BK393, Q_GW393, Q_GE393, Q_NB386_393, Q_NB393_386, fun _ _ => (bkp BK394), fun _ => GW394.out, fun _ => GE394.out, fun _ => NB386_394.out, fun _ => NB394_386.out, z_BK395, Q_GW395, Q_GE395, Q_NB386_395, Q_NB395_386, fun h0_ => absurd ((hoff 12 (by kernel_rfl)).symm.trans h0_) (by decide), fun h0_ => absurd ((hoff 13 (by kernel_rfl)).symm.trans h0_) (by decide), fun h0_ => absurd ((hoff 14 (by kernel_rfl)).symm.trans h0_) (by decide), Q_X9_, fun _ => rfl, Q_X11_⟩
     refine steps_cons ?_ ?_
     ·rintro b a w' ⟨gb393, gb394, gb395, m9_, m10_, m11_, ha, Q_HO_3, Q_BK386, Q_HB, Q_NB394_393, Q_NB393_394, Q_NB395_393, Q_NB393_395, Q_NB395_394, Q_NB394_395, Q_BK393, Q_GW393, Q_GE393, Q_NB386_393, Q_NB393_386, Q_BK394, Q_GW394, Q_GE394, Q_NB386_394, Q_NB394_386, Q_BK395, Q_GW395, Q_GE395, Q_NB386_395, Q_NB395_386, Q_BK393_e12, Q_BK394_e13, Q_BK395_e14, Q_X9_, Q_X10_, Q_X11_⟩ hb_ hon hoff
      refine ⟨_, rfl, fun K hK => ?_⟩
      replace ha := Aside0.mk ha
      have HO_3 := Aside0.mk Q_HO_3
      have BK386 := Aside0.mk Q_BK386
      have HB := Aside0.mk Q_HB
      refine box_step ?hg (N := 8) ?hd (cs := #[.int .i64 0, .int .i64 0]) (t := 38) ?hr ?_; (case hd => rfl); (case hg => rfl); (case hr => first | (go_simp; done) | (go_simp; rfl))
      intro gb395 hg w19 hbox hb
      have n0_ := asd (Kd.R_below (kr HO_3) hb)
      have n1_ := bB BK386 hb
      have n2_ := bS1 HB GE386 hb
      have n3_ := asd (hbox)
      have n4_ := ngw1 hg HB GE386
      have n5_ := ngw1 hg HB GE386
      have n6_ := nlt hg BK386
      have n7_ := nsy (nlt hg BK386)
      have z_NB395_393 := fun (h0_ : up b 11 9 = true) (h1_ : up b 11 11 = true) => (show gb395 ≠ gb393 from ((by rw [hg]; exact Nat.ne_of_gt (by cases hq_ : b 12 with | false => exact blk_lt (g := gb393) (Q_BK393 h0_ hq_) | true => exact blk_lt (g := gb393) (Q_BK393_e12 hq_)) : gb395 ≠ gb393)))
      have z_NB393_395 := fun (h0_ : up b 11 9 = true) (h1_ : up b 11 11 = true) => (show gb393 ≠ gb395 from ((by rw [hg]; exact Nat.ne_of_lt (by cases hq_ : b 12 with | false => exact blk_lt (g := gb393) (Q_BK393 h0_ hq_) | true => exact blk_lt (g := gb393) (Q_BK393_e12 hq_)) : gb393 ≠ gb395)))
      have z_NB395_394 := fun (h0_ : up b 11 10 = true) (h1_ : up b 11 11 = true) => (show gb395 ≠ gb394 from ((by rw [hg]; exact Nat.ne_of_gt (by cases hq_ : b 13 with | false => exact blk_lt (g := gb394) (Q_BK394 h0_ hq_) | true => exact blk_lt (g := gb394) (Q_BK394_e13 hq_)) : gb395 ≠ gb394)))
      have z_NB394_395 := fun (h0_ : up b 11 10 = true) (h1_ : up b 11 11 = true) => (show gb394 ≠ gb395 from ((by rw [hg]; exact Nat.ne_of_lt (by cases hq_ : b 13 with | false => exact blk_lt (g := gb394) (Q_BK394 h0_ hq_) | true => exact blk_lt (g := gb394) (Q_BK394_e13 hq_)) : gb394 ≠ gb395)))
      have z_BK393 := fun (h0_ : b 9 = true) (h1_ : b 12 = false) => (show w19.heap[gb393]? = some (.cells #[.int .i64 0, .int .i64 0] 38 (0, 0)) from by first | exact (blk_below (g := gb393) (o := .cells #[.int .i64 0, .int .i64 0] 38 (0, 0)) (by (with_reducible repeat (first | refine blk_drewN ?_ _ | refine blk_drew ?_ | refine blk_alloc ?_ _)); exact (Q_BK393 h0_ h1_)) hb))
      have z_BK394 := fun (h0_ : b 10 = true) (h1_ : b 13 = false) => (show w19.heap[gb394]? = some (.cells #[.int .i64 0, .int .i64 0] 38 (0, 0)) from by first | exact (blk_below (g := gb394) (o := .cells #[.int .i64 0, .int .i64 0] 38 (0, 0)) (by (with_reducible repeat (first | refine blk_drewN ?_ _ | refine blk_drew ?_ | refine blk_alloc ?_ _)); exact (Q_BK394 h0_ h1_)) hb))
      clear HO_3
      clear BK386
      clear HB
      have HO_3 := n0_
      have BK386 := n1_
      have HB := n2_
      have BK395 := n3_
      have GW395 := n4_
      have GE395 := n5_
      have NB386_395 := n6_
      have NB395_386 := n7_
      clear n0_ n1_ n2_ n3_ n4_ n5_ n6_ n7_
      clear hb hbox hg
      refine hK.out _ _ ⟨gb393, gb394, gb395, m9_, m10_, (.pointer (some ⟨gb395, 0, none⟩)), (by rw [ha.out]; exact putSel_upk 11 hb_ rfl rfl rfl), (kr HO_3), (bkp BK386), (bbw2 HB GE386 GE395), Q_NB394_393, Q_NB393_394, @z_NB395_393, @z_NB393_395, @z_NB395_394, @z_NB394_395, z_BK393, Q_GW393, Q_GE393, Q_NB386_393, Q_NB393_386, z_BK394, Q_GW394, Q_GE394, Q_NB386_394, Q_NB394_386, fun _ _ => (bkp BK395), fun _ => GW395.out, fun _ => GE395.out, fun _ => NB386_395.out, fun _ => NB395_386.out, fun h0_ => absurd ((hoff 12 (by kernel_rfl)).symm.trans h0_) (by decide), fun h0_ => absurd ((hoff 13 (by kernel_rfl)).symm.trans h0_) (by decide), fun h0_ => absurd ((hoff 14 (by kernel_rfl)).symm.trans h0_) (by decide), Q_X9_, Q_X10_, fun _ => rfl⟩
     refine steps_cons ?_ ?_
     ·rintro b a w' ⟨gb393, gb394, gb395, m9_, m10_, m11_, ha, Q_HO_3, Q_BK386, Q_HB, Q_NB394_393, Q_NB393_394, Q_NB395_393, Q_NB393_395, Q_NB395_394, Q_NB394_395, Q_BK393, Q_GW393, Q_GE393, Q_NB386_393, Q_NB393_386, Q_BK394, Q_GW394, Q_GE394, Q_NB386_394, Q_NB394_386, Q_BK395, Q_GW395, Q_GE395, Q_NB386_395, Q_NB395_386, Q_BK393_e12, Q_BK394_e13, Q_BK395_e14, Q_X9_, Q_X10_, Q_X11_⟩ hb_ hon hoff
      refine ⟨_, rfl, fun K hK => ?_⟩
      have e6 : a.tmps[6]? = some (m9_) := by rw [ha]; exact putSel_on (e := (9, 6, m9_)) 9 rfl rfl (hon 9 (by kernel_rfl)) rfl
      rw [Q_X9_ (hon 9 (by kernel_rfl))] at e6
      have e30 : a.tmps[30]? = some (.agg #[.int .i64 t387, .int .i64 t388]) := by rw [ha]; exact putSel_on (e := (2, 30, .agg #[.int .i64 t387, .int .i64 t388])) 2 rfl rfl (hon 2 (by kernel_rfl)) rfl
      replace ha := Aside0.mk ha
      have HO_3 := Aside0.mk Q_HO_3
      have BK386 := Aside0.mk Q_BK386
      have HB := Aside0.mk Q_HB
      have NB394_393 := asd (Q_NB394_393 (hon 9 (by kernel_rfl)) (hon 10 (by kernel_rfl)))
      have NB393_394 := asd (Q_NB393_394 (hon 9 (by kernel_rfl)) (hon 10 (by kernel_rfl)))
      have NB395_393 := asd (Q_NB395_393 (hon 9 (by kernel_rfl)) (hon 11 (by kernel_rfl)))
      have NB393_395 := asd (Q_NB393_395 (hon 9 (by kernel_rfl)) (hon 11 (by kernel_rfl)))
      have NB395_394 := asd (Q_NB395_394 (hon 10 (by kernel_rfl)) (hon 11 (by kernel_rfl)))
      have NB394_395 := asd (Q_NB394_395 (hon 10 (by kernel_rfl)) (hon 11 (by kernel_rfl)))
      have BK393 := asd (Q_BK393 (hon 9 (by kernel_rfl)) hb_)
      have GW393 := asd (Q_GW393 (hon 9 (by kernel_rfl)))
      have GE393 := asd (Q_GE393 (hon 9 (by kernel_rfl)))
      have NB386_393 := asd (Q_NB386_393 (hon 9 (by kernel_rfl)))
      have NB393_386 := asd (Q_NB393_386 (hon 9 (by kernel_rfl)))
      have BK394 := asd (Q_BK394 (hon 10 (by kernel_rfl)) (hoff 13 (by kernel_rfl)))
      have GW394 := asd (Q_GW394 (hon 10 (by kernel_rfl)))
      have GE394 := asd (Q_GE394 (hon 10 (by kernel_rfl)))
      have NB386_394 := asd (Q_NB386_394 (hon 10 (by kernel_rfl)))
      have NB394_386 := asd (Q_NB394_386 (hon 10 (by kernel_rfl)))
      have BK395 := asd (Q_BK395 (hon 11 (by kernel_rfl)) (hoff 14 (by kernel_rfl)))
      have GW395 := asd (Q_GW395 (hon 11 (by kernel_rfl)))
      have GE395 := asd (Q_GE395 (hon 11 (by kernel_rfl)))
      have NB386_395 := asd (Q_NB386_395 (hon 11 (by kernel_rfl)))
      have NB395_386 := asd (Q_NB395_386 (hon 11 (by kernel_rfl)))
      have hs26 : w'.cell? ⟨gb393, 0, none⟩ = some (.int .i64 0) := bcl BK393 0
      have hfs26 := blk_frozen BK393.out 0
      have hns26_0 := NB386_393.out
      have hns26_2 := NB394_393.out
      have hns26_3 := NB395_393.out
      have hms26_0 := NB393_386.out
      have hms26_2 := NB393_394.out
      have hms26_3 := NB393_395.out
      have hs27 : w'.cell? ⟨gb393, 1, none⟩ = some (.int .i64 0) := bcl BK393 1
      have hfs27 := blk_frozen BK393.out 1
      have hns27_0 := NB386_393.out
      have hns27_2 := NB394_393.out
      have hns27_3 := NB395_393.out
      have hms27_0 := NB393_386.out
      have hms27_2 := NB393_394.out
      have hms27_3 := NB393_395.out
      refine skip_ (w1 := ?_) (by rfl) rfl ?_ ?_
      rotate_left
      ·go_simp
       rfl
      refine hK.out _ _ ⟨gb393, gb394, gb395, m9_, m10_, m11_, (by rw [ha.out]; exact putSel_none (v := undef) rfl), (by (with_reducible repeat (first | apply Kd.R_alloc | apply Kd.R_drewN | apply Kd.R_drew)); exact Kd.R_mono (rw2 (Kd.R_types HO_3.out BK393.out (by decide))) (fun _ hk => hk.1)), (bq1 BK386 NB386_393), (bbw4 HB GE386 GE393 GE394 GE395), fun _ _ => NB394_393.out, fun _ _ => NB393_394.out, fun _ _ => NB395_393.out, fun _ _ => NB393_395.out, fun _ _ => NB395_394.out, fun _ _ => NB394_395.out, fun _ h1_ => absurd ((up_self b 12).symm.trans h1_) (by decide), fun _ => GW393.out, fun _ => GE393.out, fun _ => NB386_393.out, fun _ => NB393_386.out, fun _ _ => (bq1 BK394 NB394_393), fun _ => GW394.out, fun _ => GE394.out, fun _ => NB386_394.out, fun _ => NB394_386.out, fun _ _ => (bq1 BK395 NB395_393), fun _ => GW395.out, fun _ => GE395.out, fun _ => NB386_395.out, fun _ => NB395_386.out, fun _ => (bq0 BK393), fun h0_ => absurd ((hoff 13 (by kernel_rfl)).symm.trans h0_) (by decide), fun h0_ => absurd ((hoff 14 (by kernel_rfl)).symm.trans h0_) (by decide), Q_X9_, Q_X10_, Q_X11_⟩
     refine steps_cons ?_ ?_
     ·rintro b a w' ⟨gb393, gb394, gb395, m9_, m10_, m11_, ha, Q_HO_3, Q_BK386, Q_HB, Q_NB394_393, Q_NB393_394, Q_NB395_393, Q_NB393_395, Q_NB395_394, Q_NB394_395, Q_BK393, Q_GW393, Q_GE393, Q_NB386_393, Q_NB393_386, Q_BK394, Q_GW394, Q_GE394, Q_NB386_394, Q_NB394_386, Q_BK395, Q_GW395, Q_GE395, Q_NB386_395, Q_NB395_386, Q_BK393_e12, Q_BK394_e13, Q_BK395_e14, Q_X9_, Q_X10_, Q_X11_⟩ hb_ hon hoff
      refine ⟨_, rfl, fun K hK => ?_⟩
      have e7 : a.tmps[7]? = some (m10_) := by rw [ha]; exact putSel_on (e := (10, 7, m10_)) 10 rfl rfl (hon 10 (by kernel_rfl)) rfl
      rw [Q_X10_ (hon 10 (by kernel_rfl))] at e7
      have e33 : a.tmps[33]? = some (.agg #[.int .i64 t389, .int .i64 t390]) := by rw [ha]; exact putSel_on (e := (5, 33, .agg #[.int .i64 t389, .int .i64 t390])) 5 rfl rfl (hon 5 (by kernel_rfl)) rfl
      replace ha := Aside0.mk ha
      have HO_3 := Aside0.mk Q_HO_3
      have BK386 := Aside0.mk Q_BK386
      have HB := Aside0.mk Q_HB
      have NB394_393 := asd (Q_NB394_393 (hon 9 (by kernel_rfl)) (hon 10 (by kernel_rfl)))
      have NB393_394 := asd (Q_NB393_394 (hon 9 (by kernel_rfl)) (hon 10 (by kernel_rfl)))
      have NB395_393 := asd (Q_NB395_393 (hon 9 (by kernel_rfl)) (hon 11 (by kernel_rfl)))
      have NB393_395 := asd (Q_NB393_395 (hon 9 (by kernel_rfl)) (hon 11 (by kernel_rfl)))
      have NB395_394 := asd (Q_NB395_394 (hon 10 (by kernel_rfl)) (hon 11 (by kernel_rfl)))
      have NB394_395 := asd (Q_NB394_395 (hon 10 (by kernel_rfl)) (hon 11 (by kernel_rfl)))
      have GW393 := asd (Q_GW393 (hon 9 (by kernel_rfl)))
      have GE393 := asd (Q_GE393 (hon 9 (by kernel_rfl)))
      have NB386_393 := asd (Q_NB386_393 (hon 9 (by kernel_rfl)))
      have NB393_386 := asd (Q_NB393_386 (hon 9 (by kernel_rfl)))
      have BK394 := asd (Q_BK394 (hon 10 (by kernel_rfl)) hb_)
      have GW394 := asd (Q_GW394 (hon 10 (by kernel_rfl)))
      have GE394 := asd (Q_GE394 (hon 10 (by kernel_rfl)))
      have NB386_394 := asd (Q_NB386_394 (hon 10 (by kernel_rfl)))
      have NB394_386 := asd (Q_NB394_386 (hon 10 (by kernel_rfl)))
      have BK395 := asd (Q_BK395 (hon 11 (by kernel_rfl)) (hoff 14 (by kernel_rfl)))
      have GW395 := asd (Q_GW395 (hon 11 (by kernel_rfl)))
      have GE395 := asd (Q_GE395 (hon 11 (by kernel_rfl)))
      have NB386_395 := asd (Q_NB386_395 (hon 11 (by kernel_rfl)))
      have NB395_386 := asd (Q_NB395_386 (hon 11 (by kernel_rfl)))
      have BK393 := asd (Q_BK393_e12 (hon 12 (by kernel_rfl)))
      have hs28 : w'.cell? ⟨gb394, 0, none⟩ = some (.int .i64 0) := bcl BK394 0
      have hfs28 := blk_frozen BK394.out 0
      have hns28_0 := NB386_394.out
      have hns28_1 := NB393_394.out
      have hns28_3 := NB395_394.out
      have hms28_0 := NB394_386.out
      have hms28_1 := NB394_393.out
      have hms28_3 := NB394_395.out
      have hs29 : w'.cell? ⟨gb394, 1, none⟩ = some (.int .i64 0) := bcl BK394 1
      have hfs29 := blk_frozen BK394.out 1
      have hns29_0 := NB386_394.out
      have hns29_1 := NB393_394.out
      have hns29_3 := NB395_394.out
      have hms29_0 := NB394_386.out
      have hms29_1 := NB394_393.out
      have hms29_3 := NB394_395.out
      refine skip_ (w1 := ?_) (by rfl) rfl ?_ ?_
      rotate_left
      ·go_simp
       rfl
      refine hK.out _ _ ⟨gb393, gb394, gb395, m9_, m10_, m11_, (by rw [ha.out]; exact putSel_none (v := undef) rfl), (by (with_reducible repeat (first | apply Kd.R_alloc | apply Kd.R_drewN | apply Kd.R_drew)); exact Kd.R_mono (rw2 (Kd.R_types HO_3.out BK394.out (by decide))) (fun _ hk => hk.1)), (bq1 BK386 NB386_394), (bbw4 HB GE386 GE393 GE394 GE395), fun _ _ => NB394_393.out, fun _ _ => NB393_394.out, fun _ _ => NB395_393.out, fun _ _ => NB393_395.out, fun _ _ => NB395_394.out, fun _ _ => NB394_395.out, fun _ h1_ => absurd ((hon 12 (by kernel_rfl)).symm.trans h1_) (by decide), fun _ => GW393.out, fun _ => GE393.out, fun _ => NB386_393.out, fun _ => NB393_386.out, fun _ h1_ => absurd ((up_self b 13).symm.trans h1_) (by decide), fun _ => GW394.out, fun _ => GE394.out, fun _ => NB386_394.out, fun _ => NB394_386.out, fun _ _ => (bq1 BK395 NB395_394), fun _ => GW395.out, fun _ => GE395.out, fun _ => NB386_395.out, fun _ => NB395_386.out, fun _ => (bq1 BK393 NB393_394), fun _ => (bq0 BK394), fun h0_ => absurd ((hoff 14 (by kernel_rfl)).symm.trans h0_) (by decide), Q_X9_, Q_X10_, Q_X11_⟩
     refine steps_cons ?_ ?_
     ·rintro b a w' ⟨gb393, gb394, gb395, m9_, m10_, m11_, ha, Q_HO_3, Q_BK386, Q_HB, Q_NB394_393, Q_NB393_394, Q_NB395_393, Q_NB393_395, Q_NB395_394, Q_NB394_395, Q_BK393, Q_GW393, Q_GE393, Q_NB386_393, Q_NB393_386, Q_BK394, Q_GW394, Q_GE394, Q_NB386_394, Q_NB394_386, Q_BK395, Q_GW395, Q_GE395, Q_NB386_395, Q_NB395_386, Q_BK393_e12, Q_BK394_e13, Q_BK395_e14, Q_X9_, Q_X10_, Q_X11_⟩ hb_ hon hoff
      refine ⟨_, rfl, fun K hK => ?_⟩
      have e8 : a.tmps[8]? = some (m11_) := by rw [ha]; exact putSel_on (e := (11, 8, m11_)) 11 rfl rfl (hon 11 (by kernel_rfl)) rfl
      rw [Q_X11_ (hon 11 (by kernel_rfl))] at e8
      have e36 : a.tmps[36]? = some (.agg #[.int .i64 t391, .int .i64 t392]) := by rw [ha]; exact putSel_on (e := (8, 36, .agg #[.int .i64 t391, .int .i64 t392])) 8 rfl rfl (hon 8 (by kernel_rfl)) rfl
      replace ha := Aside0.mk ha
      have HO_3 := Aside0.mk Q_HO_3
      have BK386 := Aside0.mk Q_BK386
      have HB := Aside0.mk Q_HB
      have NB394_393 := asd (Q_NB394_393 (hon 9 (by kernel_rfl)) (hon 10 (by kernel_rfl)))
      have NB393_394 := asd (Q_NB393_394 (hon 9 (by kernel_rfl)) (hon 10 (by kernel_rfl)))
      have NB395_393 := asd (Q_NB395_393 (hon 9 (by kernel_rfl)) (hon 11 (by kernel_rfl)))
      have NB393_395 := asd (Q_NB393_395 (hon 9 (by kernel_rfl)) (hon 11 (by kernel_rfl)))
      have NB395_394 := asd (Q_NB395_394 (hon 10 (by kernel_rfl)) (hon 11 (by kernel_rfl)))
      have NB394_395 := asd (Q_NB394_395 (hon 10 (by kernel_rfl)) (hon 11 (by kernel_rfl)))
      have GW393 := asd (Q_GW393 (hon 9 (by kernel_rfl)))
      have GE393 := asd (Q_GE393 (hon 9 (by kernel_rfl)))
      have NB386_393 := asd (Q_NB386_393 (hon 9 (by kernel_rfl)))
      have NB393_386 := asd (Q_NB393_386 (hon 9 (by kernel_rfl)))
      have GW394 := asd (Q_GW394 (hon 10 (by kernel_rfl)))
      have GE394 := asd (Q_GE394 (hon 10 (by kernel_rfl)))
      have NB386_394 := asd (Q_NB386_394 (hon 10 (by kernel_rfl)))
      have NB394_386 := asd (Q_NB394_386 (hon 10 (by kernel_rfl)))
      have BK395 := asd (Q_BK395 (hon 11 (by kernel_rfl)) hb_)
      have GW395 := asd (Q_GW395 (hon 11 (by kernel_rfl)))
      have GE395 := asd (Q_GE395 (hon 11 (by kernel_rfl)))
      have NB386_395 := asd (Q_NB386_395 (hon 11 (by kernel_rfl)))
      have NB395_386 := asd (Q_NB395_386 (hon 11 (by kernel_rfl)))
      have BK393 := asd (Q_BK393_e12 (hon 12 (by kernel_rfl)))
      have BK394 := asd (Q_BK394_e13 (hon 13 (by kernel_rfl)))
      have hs30 : w'.cell? ⟨gb395, 0, none⟩ = some (.int .i64 0) := bcl BK395 0
      have hfs30 := blk_frozen BK395.out 0
      have hns30_0 := NB386_395.out
      have hns30_1 := NB393_395.out
      have hns30_2 := NB394_395.out
      have hms30_0 := NB395_386.out
      have hms30_1 := NB395_393.out
      have hms30_2 := NB395_394.out
      have hs31 : w'.cell? ⟨gb395, 1, none⟩ = some (.int .i64 0) := bcl BK395 1
      have hfs31 := blk_frozen BK395.out 1
      have hns31_0 := NB386_395.out
      have hns31_1 := NB393_395.out
      have hns31_2 := NB394_395.out
      have hms31_0 := NB395_386.out
      have hms31_1 := NB395_393.out
      have hms31_2 := NB395_394.out
      refine skip_ (w1 := ?_) (by rfl) rfl ?_ ?_
      rotate_left
      ·go_simp
       rfl
      refine hK.out _ _ ⟨gb393, gb394, gb395, m9_, m10_, m11_, (by rw [ha.out]; exact putSel_none (v := undef) rfl), (by (with_reducible repeat (first | apply Kd.R_alloc | apply Kd.R_drewN | apply Kd.R_drew)); exact Kd.R_mono (rw2 (Kd.R_types HO_3.out BK395.out (by decide))) (fun _ hk => hk.1)), (bq1 BK386 NB386_395), (bbw4 HB GE386 GE393 GE394 GE395), fun _ _ => NB394_393.out, fun _ _ => NB393_394.out, fun _ _ => NB395_393.out, fun _ _ => NB393_395.out, fun _ _ => NB395_394.out, fun _ _ => NB394_395.out, fun _ h1_ => absurd ((hon 12 (by kernel_rfl)).symm.trans h1_) (by decide), fun _ => GW393.out, fun _ => GE393.out, fun _ => NB386_393.out, fun _ => NB393_386.out, fun _ h1_ => absurd ((hon 13 (by kernel_rfl)).symm.trans h1_) (by decide), fun _ => GW394.out, fun _ => GE394.out, fun _ => NB386_394.out, fun _ => NB394_386.out, fun _ h1_ => absurd ((up_self b 14).symm.trans h1_) (by decide), fun _ => GW395.out, fun _ => GE395.out, fun _ => NB386_395.out, fun _ => NB395_386.out, fun _ => (bq1 BK393 NB393_395), fun _ => (bq1 BK394 NB394_395), fun _ => (bq0 BK395), Q_X9_, Q_X10_, Q_X11_⟩
     exact steps_nil
    rintro b a w31 hall ⟨gb393, gb394, gb395, m9_, m10_, m11_, ha, Q_HO_3, Q_BK386, Q_HB, Q_NB394_393, Q_NB393_394, Q_NB395_393, Q_NB393_395, Q_NB395_394, Q_NB394_395, Q_BK393, Q_GW393, Q_GE393, Q_NB386_393, Q_NB393_386, Q_BK394, Q_GW394, Q_GE394, Q_NB386_394, Q_NB394_386, Q_BK395, Q_GW395, Q_GE395, Q_NB386_395, Q_NB395_386, Q_BK393_e12, Q_BK394_e13, Q_BK395_e14, Q_X9_, Q_X10_, Q_X11_⟩
    clear BK386 HB HO_3
    have hb0_ := hall 0 (by kernel_rfl)
    have hb1_ := hall 1 (by kernel_rfl)
    have hb2_ := hall 2 (by kernel_rfl)
    have hb3_ := hall 3 (by kernel_rfl)
    have hb4_ := hall 4 (by kernel_rfl)
    have hb5_ := hall 5 (by kernel_rfl)
    have hb6_ := hall 6 (by kernel_rfl)
    have hb7_ := hall 7 (by kernel_rfl)
    have hb8_ := hall 8 (by kernel_rfl)
    have hb9_ := hall 9 (by kernel_rfl)
    have hb10_ := hall 10 (by kernel_rfl)
    have hb11_ := hall 11 (by kernel_rfl)
    have hb12_ := hall 12 (by kernel_rfl)
    have hb13_ := hall 13 (by kernel_rfl)
    have hb14_ := hall 14 (by kernel_rfl)
    subst ha
    obtain rfl := Q_X9_ hb9_
    obtain rfl := Q_X10_ hb10_
    obtain rfl := Q_X11_ hb11_
    simp only [putSel, hb0_, hb1_, hb2_, hb3_, hb4_, hb5_, hb6_, hb7_, hb8_, hb9_, hb10_, hb11_, hb12_, hb13_, hb14_, if_true, Act.put, sA, sB, sC]
    have HO_3 := Aside0.mk Q_HO_3
    clear Q_HO_3
    have BK386 := Aside0.mk Q_BK386
    clear Q_BK386
    have HB := Aside0.mk Q_HB
    clear Q_HB
    have NB394_393 := asd (Q_NB394_393 hb9_ hb10_)
    clear Q_NB394_393
    have NB393_394 := asd (Q_NB393_394 hb9_ hb10_)
    clear Q_NB393_394
    have NB395_393 := asd (Q_NB395_393 hb9_ hb11_)
    clear Q_NB395_393
    have NB393_395 := asd (Q_NB393_395 hb9_ hb11_)
    clear Q_NB393_395
    have NB395_394 := asd (Q_NB395_394 hb10_ hb11_)
    clear Q_NB395_394
    have NB394_395 := asd (Q_NB394_395 hb10_ hb11_)
    clear Q_NB394_395
    clear Q_BK393
    have GW393 := asd (Q_GW393 hb9_)
    clear Q_GW393
    have GE393 := asd (Q_GE393 hb9_)
    clear Q_GE393
    have NB386_393 := asd (Q_NB386_393 hb9_)
    clear Q_NB386_393
    have NB393_386 := asd (Q_NB393_386 hb9_)
    clear Q_NB393_386
    clear Q_BK394
    have GW394 := asd (Q_GW394 hb10_)
    clear Q_GW394
    have GE394 := asd (Q_GE394 hb10_)
    clear Q_GE394
    have NB386_394 := asd (Q_NB386_394 hb10_)
    clear Q_NB386_394
    have NB394_386 := asd (Q_NB394_386 hb10_)
    clear Q_NB394_386
    clear Q_BK395
    have GW395 := asd (Q_GW395 hb11_)
    clear Q_GW395
    have GE395 := asd (Q_GE395 hb11_)
    clear Q_GE395
    have NB386_395 := asd (Q_NB386_395 hb11_)
    clear Q_NB386_395
    have NB395_386 := asd (Q_NB395_386 hb11_)
    clear Q_NB395_386
    have BK393 := asd (Q_BK393_e12 hb12_)
    clear Q_BK393_e12
    have BK394 := asd (Q_BK394_e13 hb13_)
    clear Q_BK394_e13
    have BK395 := asd (Q_BK395_e14 hb14_)
    clear Q_BK395_e14
    clear hall hb0_ hb1_ hb2_ hb3_ hb4_ hb5_ hb6_ hb7_ hb8_ hb9_ hb10_ hb11_ hb12_ hb13_ hb14_
    have hnb32 := NB393_386.out
    have hnc32 := NB386_393.out
    have hnb33 := NB393_394.out
    have hnc33 := NB394_393.out
    have hnb34 := NB393_395.out
    have hnc34 := NB395_393.out
    obtain ⟨hcz35_0, hcz35_1, hfz35_0, hfz35_1⟩ := bz2 BK393
    have H := Hq_.out
    clear Hq_
    obtain ⟨t396, A8, H⟩ := ob H
    try dsimp only at H
    by_cases c9 : t396 = 1
    rw [if_pos c9] at H
    have c9b0 : (t396 == 1) = true := beq_iff_eq.mpr c9
    have c9b1 : (t396 != 1) = false := bne_eq_false_iff_eq.mpr c9
    clear c9
    obtain ⟨t397, A10, H⟩ := ob H
    try dsimp only at H
    by_cases c11 : t397 = 1
    rw [if_pos c11] at H
    have c11b0 : (t397 == 1) = true := beq_iff_eq.mpr c11
    have c11b1 : (t397 != 1) = false := bne_eq_false_iff_eq.mpr c11
    clear c11
    obtain ⟨t398, A12, H⟩ := ob H
    try dsimp only at H
    by_cases c13 : t398 = (wrap64 (2 + a0))
    rw [if_pos c13] at H
    have c13b0 : (t398 == (wrap64 (2 + a0))) = true := beq_iff_eq.mpr c13
    have c13b1 : (t398 != (wrap64 (2 + a0))) = false := bne_eq_false_iff_eq.mpr c13
    clear c13
    by_cases c14 : x3_1.length < 4398046511104
    rw [if_pos c14] at H
    have LMc14 := Aside0.mk c14
    clear c14
    obtain ⟨y399, hy399⟩ : ∃ y_ : List (S46), y_ = (x3_1 ++ [(⟨wrap64 ((wrap64 (Int.tdiv x10_1 27)) - 1), wrap64 ((Int.tmod (wrap64 (Int.tdiv x10_1 9)) 3) - 1), wrap64 ((Int.tmod (wrap64 (Int.tdiv x10_1 3)) 3) - 1), wrap64 ((Int.tmod x10_1 3) - 1)⟩ : S46)]) := ⟨_, rfl⟩
    replace H : (impl_pointMats.l0 k1 a0 y399 (wrap64 (x10_1 + 1))) = some r := by first | (rw [hy399]; with_reducible exact H) | (have H2_ := (Option.bind_some _ _).symm.trans H; rw [hy399]; with_reducible exact H2_) | (have H2_ := (Option.bind_some _ _).symm.trans H; with_reducible exact H2_) | with_reducible exact H | (rw [hy399]; exact H) | exact H
    have Ny399 := Aside0.mk hy399
    clear hy399
    have H' := Aside0.mk H
    clear H
    rotate_left
    ·rw [if_neg c14] at H
     exact absurd H (by simp)
    rw [if_neg c13] at H
    have c13b0 : (t398 == (wrap64 (2 + a0))) = false := beq_eq_false_iff_ne.mpr c13
    have c13b1 : (t398 != (wrap64 (2 + a0))) = true := bne_iff_ne.mpr c13
    have H' := Aside0.mk H
    clear H
    rotate_left
    rw [if_neg c11] at H
    have c11b0 : (t397 == 1) = false := beq_eq_false_iff_ne.mpr c11
    have c11b1 : (t397 != 1) = true := bne_iff_ne.mpr c11
    have H' := Aside0.mk H
    clear H
    rotate_left
    rw [if_neg c9] at H
    have c9b0 : (t396 == 1) = false := beq_eq_false_iff_ne.mpr c9
    have c9b1 : (t396 != 1) = true := bne_iff_ne.mpr c9
    have H' := Aside0.mk H
    clear H
    rotate_left
    try go_wp2_with (first | ((with_reducible refine gate_callee (f := 121) rfl ?_); refine gl 39 Tryz.func121 #[.int .i64 a0, .agg #[.int .i64 t387, .int .i64 t388]] ?_; (with_reducible refine (impl_norm.calls _ _ _ _ _ A8.out).mono ?_); rintro e w36 ⟨rfl, hb⟩; refine ⟨_, rfl, ?_⟩; replace HO_3 := asd (Kd.R_below (kr HO_3) hb); replace BK386 := bB BK386 hb; replace BK393 := bB BK393 hb; replace BK394 := bB BK394 hb; replace BK395 := bB BK395 hb; replace HB := bS4 HB GE386 GE393 GE394 GE395 hb; (try clear hb); have hnb37 := NB394_386.out; have hnc37 := NB386_394.out; have hnb38 := NB394_395.out; have hnc38 := NB395_394.out; obtain ⟨hcz39_0, hcz39_1, hfz39_0, hfz39_1⟩ := bz2 BK394) | (go_at_call 121; (with_reducible refine (impl_norm.calls _ _ _ _ _ A10.out).mono ?_); rintro e w40 ⟨rfl, hb⟩; replace HO_3 := asd (Kd.R_below (kr HO_3) hb); replace BK386 := bB BK386 hb; replace BK393 := bB BK393 hb; replace BK394 := bB BK394 hb; replace BK395 := bB BK395 hb; replace HB := bS4 HB GE386 GE393 GE394 GE395 hb; (try clear hb); have hnb41 := NB395_386.out; have hnc41 := NB386_395.out; obtain ⟨hcz42_0, hcz42_1, hfz42_0, hfz42_1⟩ := bz2 BK395) | (go_at_call 121; (with_reducible refine (impl_norm.calls _ _ _ _ _ A12.out).mono ?_); rintro e w43 ⟨rfl, hb⟩; replace HO_3 := asd (Kd.R_below (kr HO_3) hb); replace BK386 := bB BK386 hb; replace BK393 := bB BK393 hb; replace BK394 := bB BK394 hb; replace BK395 := bB BK395 hb; replace HB := bS4 HB GE386 GE393 GE394 GE395 hb; (try clear hb); obtain ⟨hcz44_0, hcz44_1, hcz44_2, hcz44_3, hfz44_0, hfz44_1, hfz44_2, hfz44_3⟩ := bz4 BK386) | ((with_reducible refine gate_builtin (b := .append) (xs := #[.tmp 55, .tmp 57]) rfl ?_); at_builtin; refine Kd.R_append k46 (w0 := w) w.heap.size rfl (.tmp 55) (.tmp 57) 90 46 (.agg #[(.int .i64 0), (.int .i64 0), (.int .i64 0), (.int .i64 0)]) 32 rfl Tryz.underlying90 info46 rfl (by decide) (by omega) u3 x3_1 (⟨wrap64 ((wrap64 (Int.tdiv x10_1 27)) - 1), wrap64 ((Int.tmod (wrap64 (Int.tdiv x10_1 9)) 3) - 1), wrap64 ((Int.tmod (wrap64 (Int.tdiv x10_1 3)) 3) - 1), wrap64 ((Int.tmod x10_1 3) - 1)⟩ : S46) [.int .i64 (wrap64 ((wrap64 (Int.tdiv x10_1 27)) - 1)), .int .i64 (wrap64 ((Int.tmod (wrap64 (Int.tdiv x10_1 9)) 3) - 1)), .int .i64 (wrap64 ((Int.tmod (wrap64 (Int.tdiv x10_1 3)) 3) - 1)), .int .i64 (wrap64 ((Int.tmod x10_1 3) - 1))] (fun k_ => k_ ≠ gb386) (fun _ => False) rfl rfl ?aP (fun _ hk => hk.elim) ?aF ?aO ?aB ?aS ?aL ?_; (case aP => exact k46_mkM _ _ _ (⟨wrap64 ((wrap64 (Int.tdiv x10_1 27)) - 1), wrap64 ((Int.tmod (wrap64 (Int.tdiv x10_1 9)) 3) - 1), wrap64 ((Int.tmod (wrap64 (Int.tdiv x10_1 3)) 3) - 1), wrap64 ((Int.tmod x10_1 3) - 1)⟩ : S46)); (case aB => exact (bbw4 HB GE386 GE393 GE394 GE395)); (case aF => exact (fun k_ hk => Kd.freshB (g := gb386) (o := .cells #[.int .i64 (wrap64 ((wrap64 (Int.tdiv x10_1 27)) - 1)), .int .i64 (wrap64 ((Int.tmod (wrap64 (Int.tdiv x10_1 9)) 3) - 1)), .int .i64 (wrap64 ((Int.tmod (wrap64 (Int.tdiv x10_1 3)) 3) - 1)), .int .i64 (wrap64 ((Int.tmod x10_1 3) - 1))] 46 (0, 0)) (bkp BK386) k_ hk)); (case aO => exact (kr HO_3)); (case aS => exact (bsz4 HB GE386 GE393 GE394 GE395)); (case aL => have := LMc14.out; omega); intro v400 w45 ho hb hg hat; rw [← Ny399.out] at ho; have n0_ := asd (blk_grown (g := gb386) (o := .cells #[.int .i64 (wrap64 ((wrap64 (Int.tdiv x10_1 27)) - 1)), .int .i64 (wrap64 ((Int.tmod (wrap64 (Int.tdiv x10_1 9)) 3) - 1)), .int .i64 (wrap64 ((Int.tmod (wrap64 (Int.tdiv x10_1 3)) 3) - 1)), .int .i64 (wrap64 ((Int.tmod x10_1 3) - 1))] 46 (0, 0)) (bkp BK386) hg (Kd.R_away HO_3.out (fun _ hk => hk))); have n1_ := asd (blk_grown (g := gb393) (o := .cells #[.int .i64 t387, .int .i64 t388] 38 (0, 0)) (bkp BK393) hg (Kd.R_ne HO_3.out BK393.out (by decide))); have n2_ := asd (blk_grown (g := gb394) (o := .cells #[.int .i64 t389, .int .i64 t390] 38 (0, 0)) (bkp BK394) hg (Kd.R_ne HO_3.out BK394.out (by decide))); have n3_ := asd (blk_grown (g := gb395) (o := .cells #[.int .i64 t391, .int .i64 t392] 38 (0, 0)) (bkp BK395) hg (Kd.R_ne HO_3.out BK395.out (by decide))); have n4_ := asd (hb); have n5_ := asd (ho); clear BK386; clear BK393; clear BK394; clear BK395; clear HB; clear HO_3; have BK386 := n0_; have BK393 := n1_; have BK394 := n2_; have BK395 := n3_; have HB := n4_; have HO401 := n5_; clear n0_ n1_ n2_ n3_ n4_ n5_; clear ho hb hg hat))
    rotate_left
    try go_wp2_with (first | ((with_reducible refine gate_callee (f := 121) rfl ?_); refine gl 39 Tryz.func121 #[.int .i64 a0, .agg #[.int .i64 t387, .int .i64 t388]] ?_; (with_reducible refine (impl_norm.calls _ _ _ _ _ A8.out).mono ?_); rintro e w67 ⟨rfl, hb⟩; refine ⟨_, rfl, ?_⟩; replace HO_3 := asd (Kd.R_below (kr HO_3) hb); replace BK386 := bB BK386 hb; replace BK393 := bB BK393 hb; replace BK394 := bB BK394 hb; replace BK395 := bB BK395 hb; replace HB := bS4 HB GE386 GE393 GE394 GE395 hb; (try clear hb); have hnb68 := NB394_386.out; have hnc68 := NB386_394.out; have hnb69 := NB394_395.out; have hnc69 := NB395_394.out; obtain ⟨hcz70_0, hcz70_1, hfz70_0, hfz70_1⟩ := bz2 BK394) | (go_at_call 121; (with_reducible refine (impl_norm.calls _ _ _ _ _ A10.out).mono ?_); rintro e w71 ⟨rfl, hb⟩; replace HO_3 := asd (Kd.R_below (kr HO_3) hb); replace BK386 := bB BK386 hb; replace BK393 := bB BK393 hb; replace BK394 := bB BK394 hb; replace BK395 := bB BK395 hb; replace HB := bS4 HB GE386 GE393 GE394 GE395 hb; (try clear hb); have hnb72 := NB395_386.out; have hnc72 := NB386_395.out; obtain ⟨hcz73_0, hcz73_1, hfz73_0, hfz73_1⟩ := bz2 BK395) | (go_at_call 121; (with_reducible refine (impl_norm.calls _ _ _ _ _ A12.out).mono ?_); rintro e w74 ⟨rfl, hb⟩; replace HO_3 := asd (Kd.R_below (kr HO_3) hb); replace BK386 := bB BK386 hb; replace BK393 := bB BK393 hb; replace BK394 := bB BK394 hb; replace BK395 := bB BK395 hb; replace HB := bS4 HB GE386 GE393 GE394 GE395 hb; (try clear hb)))
    rotate_left
    try go_wp2_with (first | ((with_reducible refine gate_callee (f := 121) rfl ?_); refine gl 39 Tryz.func121 #[.int .i64 a0, .agg #[.int .i64 t387, .int .i64 t388]] ?_; (with_reducible refine (impl_norm.calls _ _ _ _ _ A8.out).mono ?_); rintro e w96 ⟨rfl, hb⟩; refine ⟨_, rfl, ?_⟩; replace HO_3 := asd (Kd.R_below (kr HO_3) hb); replace BK386 := bB BK386 hb; replace BK393 := bB BK393 hb; replace BK394 := bB BK394 hb; replace BK395 := bB BK395 hb; replace HB := bS4 HB GE386 GE393 GE394 GE395 hb; (try clear hb); have hnb97 := NB394_386.out; have hnc97 := NB386_394.out; have hnb98 := NB394_395.out; have hnc98 := NB395_394.out; obtain ⟨hcz99_0, hcz99_1, hfz99_0, hfz99_1⟩ := bz2 BK394) | (go_at_call 121; (with_reducible refine (impl_norm.calls _ _ _ _ _ A10.out).mono ?_); rintro e w100 ⟨rfl, hb⟩; replace HO_3 := asd (Kd.R_below (kr HO_3) hb); replace BK386 := bB BK386 hb; replace BK393 := bB BK393 hb; replace BK394 := bB BK394 hb; replace BK395 := bB BK395 hb; replace HB := bS4 HB GE386 GE393 GE394 GE395 hb; (try clear hb)))
    rotate_left
    try go_wp2_with (first | ((with_reducible refine gate_callee (f := 121) rfl ?_); refine gl 39 Tryz.func121 #[.int .i64 a0, .agg #[.int .i64 t387, .int .i64 t388]] ?_; (with_reducible refine (impl_norm.calls _ _ _ _ _ A8.out).mono ?_); rintro e w122 ⟨rfl, hb⟩; refine ⟨_, rfl, ?_⟩; replace HO_3 := asd (Kd.R_below (kr HO_3) hb); replace BK386 := bB BK386 hb; replace BK393 := bB BK393 hb; replace BK394 := bB BK394 hb; replace BK395 := bB BK395 hb; replace HB := bS4 HB GE386 GE393 GE394 GE395 hb; (try clear hb)))
    rotate_left
    all_goals
     go_roundg k1
     case measure => have := HK1.out; omega
    ·case rel => exact ⟨(y399), (wrap64 (x10_1 + 1)), (by first | rfl | (simp; done) | (simp [*]; done)), H', ⟨by have := HK1.out; omega⟩, ⟨by (with_reducible repeat (first | apply Kd.R_alloc | apply Kd.R_drewN | apply Kd.R_drew)); exact Kd.R_mono HO401.out (fun _ hk => trivial)⟩, ⟨bbw4 HB GE386 GE393 GE394 GE395⟩⟩
    rotate_left 3
    all_goals
     case rel => exact ⟨(x3_1), (wrap64 (x10_1 + 1)), (by first | rfl | (simp; done) | (simp [*]; done)), H', ⟨by have := HK1.out; omega⟩, ⟨by (with_reducible repeat (first | apply Kd.R_alloc | apply Kd.R_drewN | apply Kd.R_drew)); exact Kd.R_mono HO_3.out (fun _ hk => trivial)⟩, ⟨bbw4 HB GE386 GE393 GE394 GE395⟩⟩
   ·rw [if_neg c4] at H
    have c4b0 := decide_eq_false c4
    clear c4
    obtain rfl := Option.some.inj H
    go_wp2
    go_ret
    exact ⟨_, by first | rfl | (simp [errW_none, errW_some] <;> rfl) | (simp [*, errW_none, errW_some] <;> rfl), by (with_reducible repeat (first | apply Kd.R_alloc | apply Kd.R_drewN | apply Kd.R_drew)); exact HO_3.out, bbw0 HB⟩
/-! ### impl_mod: function 122 -/
def impl_mod.f (a0 : Int) (a1 : Int) : Option (Int) := if a1 = 0 then (none) else (some (Int.tmod (wrap64 ((Int.tmod a0 a1) + a1)) a1))
set_option maxHeartbeats 8000000 in
set_option maxRecDepth 100000 in
theorem impl_mod.calls (a0 : Int) (a1 : Int) (r : Int) (w : World) (h : impl_mod.f a0 a1 = some r) :
  Calls Tryz.prog 122 #[.int .i64 a0, .int .i64 a1] w fun e w' => e = .returned (.int .i64 r) ∧ Drawn0 w w' := by
 have H : (if a1 = 0 then (none) else (some (Int.tmod (wrap64 ((Int.tmod a0 a1) + a1)) a1))) = some r := h
 clear h
 by_cases c3 : a1 = 0
 ·rw [if_pos c3] at H
  exact absurd H (by simp)
 ·rw [if_neg c3] at H
  have c3b0 : (a1 == 0) = false := beq_eq_false_iff_ne.mpr c3
  have c3b1 : (a1 != 0) = true := bne_iff_ne.mpr c3
  obtain rfl := Option.some.inj H
  go_enter Tryz.func122, Tryz.ntmps122
  go_wp2
  go_ret
  exact ⟨by first | rfl | (simp; done) | (simp [*]; done), by repeat (first | exact Drawn0.refl _ | apply Drawn0.step)⟩

attribute [local go_sem high] eqA38
/-! ### impl_Lattice_reduce: function 107 -/
def impl_Lattice_reduce.f (a0_0 : Int) (a0_1 : Int) (a0_2 : Int) (a1_0 : Int) (a1_1 : Int) : Option (Int × Int) := (impl_mod.f a1_1 a0_2).bind fun t405 => (if a0_2 = 0 then (none) else ((impl_mod.f (wrap64 (a1_0 - (wrap64 ((wrap64 (Int.tdiv (wrap64 (a1_1 - t405)) a0_2)) * a0_1)))) a0_0).bind fun t406 => (some (t406, t405))))
def impl_Lattice_reduce.T2 : Bool × List (List Nat × List Nat) := (true, [([], []), ([0], [0]), ([], []), ([2], [2]), ([], []), ([3, 4], [3, 4]), ([], []), ([6], [6]), ([5, 7], [5, 7]), ([], []), ([9], [9]), ([8, 10], [8, 10]), ([1, 11], [1, 11]), ([], []), ([13], [13]), ([12, 14], [12, 14]), ([], []), ([15, 16], [15, 16]), ([17, 15, 0, 1, 2, 3, 4, 5, 6, 7, 8, 9, 10, 11, 12, 13, 14, 15, 16, 17], [17])])
def impl_Lattice_reduce.B2 : List Nat := [0, 1, 0, 4, 0, 28, 0, 64, 252, 0, 512, 2044, 4095, 0, 8192, 32767, 0, 131071, 262143]
theorem impl_Lattice_reduce.tab2 : rtab .any (opsOf Tryz.f107 2) = impl_Lattice_reduce.T2 := by kernel_rfl
theorem impl_Lattice_reduce.bits2 : waitsOk impl_Lattice_reduce.T2.2 impl_Lattice_reduce.B2 = true := by kernel_rfl
set_option maxHeartbeats 8000000 in
set_option maxRecDepth 100000 in
theorem impl_Lattice_reduce.calls (a0_0 : Int) (a0_1 : Int) (a0_2 : Int) (a1_0 : Int) (a1_1 : Int) (r1 : Int) (r2 : Int) (w : World) (h : impl_Lattice_reduce.f a0_0 a0_1 a0_2 a1_0 a1_1 = some (r1, r2)) :
  Calls Tryz.prog 107 #[.agg #[.int .i64 a0_0, .int .i64 a0_1, .int .i64 a0_2], .agg #[.int .i64 a1_0, .int .i64 a1_1]] w fun e w' => e = .returned (.agg #[.int .i64 r1, .int .i64 r2]) ∧ Below w.heap.size w w' := by
 have hu29 := Tryz.underlying29
 have hu38 := Tryz.underlying38
 have HB := asd (Below.refl w.heap.size w)
 have H : ((impl_mod.f a1_1 a0_2).bind fun t405 => (if a0_2 = 0 then (none) else ((impl_mod.f (wrap64 (a1_0 - (wrap64 ((wrap64 (Int.tdiv (wrap64 (a1_1 - t405)) a0_2)) * a0_1)))) a0_0).bind fun t406 => (some (t406, t405))))) = some (r1, r2) := h
 clear h
 obtain ⟨t405, A3, H⟩ := ob H
 try dsimp only at H
 by_cases c4 : a0_2 = 0
 ·rw [if_pos c4] at H
  exact absurd H (by simp)
 ·rw [if_neg c4] at H
  have c4b0 : (a0_2 == 0) = false := beq_eq_false_iff_ne.mpr c4
  have c4b1 : (a0_2 != 0) = true := bne_iff_ne.mpr c4
  obtain ⟨t406, A5, H⟩ := ob H
  try dsimp only at H
  simp only [Option.some.injEq, Prod.mk.injEq] at H
  obtain ⟨rfl, rfl⟩ := H
  go_enter Tryz.func107, Tryz.ntmps107
  try go_wp2_with (first | ((with_reducible refine gd 2 rfl ?_); refine bx #[.int .i64 a0_0, .int .i64 a0_1, .int .i64 a0_2] 29 ?_; intro gb402 hg w6 BK402 hb; have GE402 := ngw0 hg HB; replace HB := bS0 HB hb; clear hb hg) | ((with_reducible refine gd 3 rfl ?_); refine bx #[.int .i64 a1_0, .int .i64 a1_1] 38 ?_; intro gb403 hg w7 BK403 hb; have GE403 := ngw1 hg HB GE402; replace HB := bS1 HB GE402 hb; have NB402_403 := nlt hg BK402; have NB403_402 := nsy (nlt hg BK402); replace BK402 := bB BK402 hb; clear hb hg) | ((with_reducible refine gd 4 rfl ?_); refine bx #[.int .i64 0, .int .i64 0] 38 ?_; intro gb404 hg w8 BK404 hb; have GE404 := ngw2 hg HB GE402 GE403; replace HB := bS2 HB GE402 GE403 hb; have NB402_404 := nlt hg BK402; have NB404_402 := nsy (nlt hg BK402); replace BK402 := bB BK402 hb; have NB403_404 := nlt hg BK403; have NB404_403 := nsy (nlt hg BK403); replace BK403 := bB BK403 hb; clear hb hg; have hnb9 := NB403_402.out; have hnc9 := NB402_403.out; have hnb10 := NB403_404.out; have hnc10 := NB404_403.out; obtain ⟨hcz11_0, hcz11_1, hfz11_0, hfz11_1⟩ := bz2 BK403; have hnb12 := NB402_404.out; have hnc12 := NB404_402.out; obtain ⟨hcz13_0, hcz13_1, hcz13_2, hfz13_0, hfz13_1, hfz13_2⟩ := bz3 BK402) | ((with_reducible refine gate_callee (f := 122) rfl ?_); refine gl 10 Tryz.func122 #[.int .i64 a1_1, .int .i64 a0_2] ?_; (with_reducible refine (impl_mod.calls _ _ _ _ A3.out).mono ?_); rintro e w' ⟨rfl, ⟨nd, rfl⟩⟩; refine ⟨_, rfl, ?_⟩; (try (rw [drewN_self w8]; generalize hq_ : World.drewN w8 _ = w8; have n0_ : Aside0 (w8.heap[gb402]? = some (.cells #[.int .i64 a0_0, .int .i64 a0_1, .int .i64 a0_2] 29 (0, 0))) := ⟨by rw [← hq_]; exact (bkp BK402)⟩; have n1_ : Aside0 (w8.heap[gb403]? = some (.cells #[.int .i64 a1_0, .int .i64 a1_1] 38 (0, 0))) := ⟨by rw [← hq_]; exact (bkp BK403)⟩; have n2_ : Aside0 (w8.heap[gb404]? = some (.cells #[.int .i64 0, .int .i64 0] 38 (0, 0))) := ⟨by rw [← hq_]; exact (bkp BK404)⟩; have n3_ : Aside0 (Below w.heap.size w w8) := ⟨by rw [← hq_]; exact (bbw3 HB GE402 GE403 GE404)⟩; clear BK402 BK403 BK404 HB hq_; have BK402 := n0_; have BK403 := n1_; have BK404 := n2_; have HB := n3_; clear n0_ n1_ n2_ n3_))))
  replace BK402 := asd (blk_drew BK402.out)
  replace BK403 := asd (blk_drew BK403.out)
  replace BK404 := asd (blk_drew BK404.out)
  replace HB := asd (below_drew1 HB.out)
  refine sh 19 (cb2 BK403 (eb3 BK402)) (fun hHeld => ?_); refine with_tabW impl_Lattice_reduce.tab2 impl_Lattice_reduce.bits2 (fun HT_ HW_ => ?_)
  generalize w8.drew = w14 at BK402 BK403 BK404 HB hHeld ⊢
  refine pu 0 (some 11) (bT 19 1) HT_ ?_
  refine pu 2 (some 13) (bs 19 5) HT_ ?_
  refine pu 4 (some 15) (bs 19 21) HT_ ?_
  refine pu 6 (some 17) (bs 19 85) HT_ ?_
  refine pu 9 (some 20) (bs 19 597) HT_ ?_
  refine pu 13 (some 24) (bs 19 8789) HT_ ?_
  refine pu 16 (some 27) (bs 19 74325) HT_ ?_
  refine ta 1 (some 12) (bs 19 74327) HT_ HW_ hHeld ?_
  refine ta 3 (some 14) (bs 19 74335) HT_ HW_ hHeld ?_
  refine pu 5 (some 16) (bs 19 74367) HT_ ?_
  refine ta 7 (some 18) (bs 19 74495) HT_ HW_ hHeld ?_
  refine pu 8 (some 19) (bs 19 74751) HT_ ?_
  refine ta 10 (some 21) (bs 19 75775) HT_ HW_ hHeld ?_
  refine pu 11 (some 22) (bs 19 77823) HT_ ?_
  refine pu 12 (some 23) (bs 19 81919) HT_ ?_
  refine ta 14 (some 25) (bs 19 98303) HT_ HW_ hHeld ?_
  refine ro 15 (some 26) (bT 19 17) HT_ (fun K hK => ?_)
  refine gs Tryz.func122 #[.int .i64 (wrap64 (a1_0 - (wrap64 ((wrap64 (Int.tdiv (wrap64 (a1_1 - t405)) a0_2)) * a0_1)))), .int .i64 a0_0] ?_
  with_reducible refine (impl_mod.calls _ _ _ _ A5.out).mono ?_
  rintro e w' ⟨rfl, ⟨nd, rfl⟩⟩
  refine ⟨_, rfl, ?_⟩
  refine hK.out _ _ (cb2 BK403 (eb3 BK402)).out (fun hHeld => ?_)
  clear hK K
  refine norm_ (a' := ?_) ?_ ?_
  rotate_left
  ·show Act.put _ (some 26) _ = _
   simp only [Act.put, sA, sB, sC, i64_w, i32_w]
   rfl
  refine pu 17 (some 28) (bT 19 18) HT_ ?_
  refine ro 18 (none) (bT 19 19) HT_ (fun K hK => ?_)
  have hs15 : w14.cell? ⟨gb404, 0, none⟩ = some (.int .i64 0) := bcl BK404 0
  have hfs15 := blk_frozen BK404.out 0
  have hns15_0 := NB402_404.out
  have hns15_1 := NB403_404.out
  have hms15_0 := NB404_402.out
  have hms15_1 := NB404_403.out
  have hs16 : w14.cell? ⟨gb404, 1, none⟩ = some (.int .i64 0) := bcl BK404 1
  have hfs16 := blk_frozen BK404.out 1
  have hns16_0 := NB402_404.out
  have hns16_1 := NB403_404.out
  have hms16_0 := NB404_402.out
  have hms16_1 := NB404_403.out
  refine skip_ (w1 := ?_) (by rfl) rfl ?_ ?_
  rotate_left
  ·go_simp
   rfl
  refine hK.out _ _ ⟨(cf NB403_404 ((cf NB403_404 (hHeld.1)))), (cf NB403_404 ((cf NB403_404 (hHeld.2.1)))), (cf NB402_404 ((cf NB402_404 (hHeld.2.2.1)))), (cf NB402_404 ((cf NB402_404 (hHeld.2.2.2.1)))), (cf NB402_404 ((cf NB402_404 (hHeld.2.2.2.2))))⟩ (fun hHeld => ?_)
  clear hK K
  refine done_ (done_of HT_.out (by kernel_rfl)) ?_
  try go_wp2
  refine bodyPost_ret (results_cell_row rfl _ _ gb404 38 #[.int .i64 t406, .int .i64 t405] (0, 0) _ rfl (bq0 BK404) Tryz.underlying38 rfl (by kernel_rfl)) rfl ?_
  exact er (bbw3 HB GE402 GE403 GE404)
/-! ### impl_Lattice_has: function 106 -/
def impl_Lattice_has.f (a0_0 : Int) (a0_1 : Int) (a0_2 : Int) (a1_0 : Int) (a1_1 : Int) : Option (Bool) := (impl_Lattice_reduce.f a0_0 a0_1 a0_2 a1_0 a1_1).bind fun bt409 => (some (bt409.1 == 0 && (bt409.2 == 0)))
set_option maxHeartbeats 8000000 in
set_option maxRecDepth 100000 in
theorem impl_Lattice_has.calls (a0_0 : Int) (a0_1 : Int) (a0_2 : Int) (a1_0 : Int) (a1_1 : Int) (r : Bool) (w : World) (h : impl_Lattice_has.f a0_0 a0_1 a0_2 a1_0 a1_1 = some r) :
  Calls Tryz.prog 106 #[.agg #[.int .i64 a0_0, .int .i64 a0_1, .int .i64 a0_2], .agg #[.int .i64 a1_0, .int .i64 a1_1]] w fun e w' => e = .returned (.bool r) ∧ Below w.heap.size w w' := by
 have hu29 := Tryz.underlying29
 have hu38 := Tryz.underlying38
 have HB := asd (Below.refl w.heap.size w)
 have H : ((impl_Lattice_reduce.f a0_0 a0_1 a0_2 a1_0 a1_1).bind fun bt409 => (some (bt409.1 == 0 && (bt409.2 == 0)))) = some r := h
 clear h
 obtain ⟨⟨t409, t410⟩, A3, H⟩ := ob H
 try dsimp only at H
 obtain rfl := Option.some.inj H
 go_enter Tryz.func106, Tryz.ntmps106
 go_wp2_with (first | ((with_reducible refine gd 2 rfl ?_); refine bx #[.int .i64 a0_0, .int .i64 a0_1, .int .i64 a0_2] 29 ?_; intro gb407 hg w4 BK407 hb; have GE407 := ngw0 hg HB; replace HB := bS0 HB hb; clear hb hg) | ((with_reducible refine gd 3 rfl ?_); refine bx #[.int .i64 a1_0, .int .i64 a1_1] 38 ?_; intro gb408 hg w5 BK408 hb; have GE408 := ngw1 hg HB GE407; replace HB := bS1 HB GE407 hb; have NB407_408 := nlt hg BK407; have NB408_407 := nsy (nlt hg BK407); replace BK407 := bB BK407 hb; clear hb hg; have hnb6 := NB407_408.out; have hnc6 := NB408_407.out; obtain ⟨hcz7_0, hcz7_1, hcz7_2, hfz7_0, hfz7_1, hfz7_2⟩ := bz3 BK407; obtain ⟨hcz8_0, hcz8_1, hfz8_0, hfz8_1⟩ := bz2 BK408) | ((with_reducible refine gate_callee (f := 107) rfl ?_); refine gl 7 Tryz.func107 #[.agg #[.int .i64 a0_0, .int .i64 a0_1, .int .i64 a0_2], .agg #[.int .i64 a1_0, .int .i64 a1_1]] ?_; (with_reducible refine (impl_Lattice_reduce.calls _ _ _ _ _ _ _ _ A3.out).mono ?_); rintro e w9 ⟨rfl, hb⟩; refine ⟨_, rfl, ?_⟩; replace BK407 := bB BK407 hb; replace BK408 := bB BK408 hb; replace HB := bS2 HB GE407 GE408 hb; (try clear hb)))
 go_ret
 exact er (bbw2 HB GE407 GE408)
/-! ### impl_latticeMats: function 70 -/
def impl_latticeMats.app (m : S46) (x y : Int) : Int × Int := (impl_Mat_apply.f m.f0 m.f1 m.f2 m.f3 x y).getD (0, 0)
def impl_latticeMats.hasB (a b c : Int) (t : Int × Int) : Bool := (impl_Lattice_has.f a b c t.1 t.2).getD false
/-- Does a matrix map a lattice into itself? -/
def impl_latticeMats.keep (a b c : Int) (m : S46) : Bool := impl_latticeMats.hasB a b c (impl_latticeMats.app m a 0) && impl_latticeMats.hasB a b c (impl_latticeMats.app m b c)
theorem impl_latticeMats.app_eq (m : S46) (x y : Int) : impl_Mat_apply.f m.f0 m.f1 m.f2 m.f3 x y = some ((impl_latticeMats.app m x y).1, (impl_latticeMats.app m x y).2) := rfl
theorem impl_latticeMats.has_eq (a b c : Int) (ha : a ≠ 0) (hc : c ≠ 0) (t : Int × Int) : impl_Lattice_has.f a b c t.1 t.2 = some (impl_latticeMats.hasB a b c t) := by
 have : (impl_Lattice_has.f a b c t.1 t.2).isSome = true := by
  simp [impl_Lattice_has.f, impl_Lattice_reduce.f, impl_mod.f, ha, hc]
 obtain ⟨r, hr⟩ := Option.isSome_iff_exists.1 this
 unfold impl_latticeMats.hasB
 rw [hr]; rfl
def impl_latticeMats.f (k : Nat) (a0 : Int) (a1_0 : Int) (a1_1 : Int) (a1_2 : Int) : Option (List S46) := if a1_0 = 0 then none else (if a1_2 = 0 then none else ((impl_pointMats.f k a0).bind fun l => some (l.filter (impl_latticeMats.keep a1_0 a1_1 a1_2))))
abbrev impl_latticeMats.Held (W : World) (a b c : Int) (L U V B : Nat) (x : S46) (w' : World) : Prop := Below W.heap.size W w' ∧ w'.cell? ⟨L, 0, none⟩ = some (.int .i64 a) ∧ w'.cell? ⟨L, 1, none⟩ = some (.int .i64 b) ∧ w'.cell? ⟨L, 2, none⟩ = some (.int .i64 c) ∧ w'.cell? ⟨U, 0, none⟩ = some (.int .i64 a) ∧ w'.cell? ⟨U, 1, none⟩ = some (.int .i64 0) ∧ w'.cell? ⟨V, 0, none⟩ = some (.int .i64 b) ∧ w'.cell? ⟨V, 1, none⟩ = some (.int .i64 c) ∧ w'.cell? ⟨B, 0, none⟩ = some (.int .i64 x.f0) ∧ w'.cell? ⟨B, 1, none⟩ = some (.int .i64 x.f1) ∧ w'.cell? ⟨B, 2, none⟩ = some (.int .i64 x.f2) ∧ w'.cell? ⟨B, 3, none⟩ = some (.int .i64 x.f3)
theorem impl_latticeMats.held_below {W : World} {a b c : Int} {L U V B : Nat} {x : S46} {w w' : World} (h : impl_latticeMats.Held W a b c L U V B x w) (hb : Below w.heap.size w w') : impl_latticeMats.Held W a b c L U V B x w' := by
 obtain ⟨h0, s0, s1, s2, s3, s4, s5, s6, s7, s8, s9, s10⟩ := h
 exact ⟨below_then h0 h0.size hb, (hb.cell (World.block_lt_of_cell? w _ s0)).trans s0, (hb.cell (World.block_lt_of_cell? w _ s1)).trans s1, (hb.cell (World.block_lt_of_cell? w _ s2)).trans s2, (hb.cell (World.block_lt_of_cell? w _ s3)).trans s3, (hb.cell (World.block_lt_of_cell? w _ s4)).trans s4, (hb.cell (World.block_lt_of_cell? w _ s5)).trans s5, (hb.cell (World.block_lt_of_cell? w _ s6)).trans s6, (hb.cell (World.block_lt_of_cell? w _ s7)).trans s7, (hb.cell (World.block_lt_of_cell? w _ s8)).trans s8, (hb.cell (World.block_lt_of_cell? w _ s9)).trans s9, (hb.cell (World.block_lt_of_cell? w _ s10)).trans s10⟩
theorem impl_latticeMats.held_drew {W : World} {a b c : Int} {L U V B : Nat} {x : S46} {w : World} (h : impl_latticeMats.Held W a b c L U V B x w) : impl_latticeMats.Held W a b c L U V B x w.drew := ⟨below_drew1 h.1, h.2⟩
set_option maxHeartbeats 40000000 in
set_option maxRecDepth 100000 in
theorem impl_latticeMats.pred (a b c : Int) (L U V : Nat) (W : World) (hl0 : W.cell? ⟨L, 0, none⟩ = some (.int .i64 a)) (hl1 : W.cell? ⟨L, 1, none⟩ = some (.int .i64 b)) (hl2 : W.cell? ⟨L, 2, none⟩ = some (.int .i64 c)) (hu0 : W.cell? ⟨U, 0, none⟩ = some (.int .i64 a)) (hu1 : W.cell? ⟨U, 1, none⟩ = some (.int .i64 0)) (hv0 : W.cell? ⟨V, 0, none⟩ = some (.int .i64 b)) (hv1 : W.cell? ⟨V, 1, none⟩ = some (.int .i64 c)) (ha : a ≠ 0) (hc : c ≠ 0) (x : S46) :
  Calls Tryz.prog 105 (#[.agg #[.int .i64 x.f0, .int .i64 x.f1, .int .i64 x.f2, .int .i64 x.f3]] ++ #[.pointer (some ⟨L, 0, none⟩), .pointer (some ⟨U, 0, none⟩), .pointer (some ⟨V, 0, none⟩)]) W fun e w' => e = .returned (.bool (!(impl_latticeMats.keep a b c x))) ∧ Below W.heap.size W w' := by
 show Calls Tryz.prog 105 #[.agg #[.int .i64 x.f0, .int .i64 x.f1, .int .i64 x.f2, .int .i64 x.f3], .pointer (some ⟨L, 0, none⟩), .pointer (some ⟨U, 0, none⟩), .pointer (some ⟨V, 0, none⟩)] W _
 have hu33 := Tryz.underlying46
 have hu34 := Tryz.underlying38
 have hu31 := Tryz.underlying29
 have A1 := asd (impl_latticeMats.app_eq x a 0)
 have A2 := asd (impl_latticeMats.has_eq a b c ha hc (impl_latticeMats.app x a 0))
 have A3 := asd (impl_latticeMats.app_eq x b c)
 have A4 := asd (impl_latticeMats.has_eq a b c ha hc (impl_latticeMats.app x b c))
 unfold impl_latticeMats.keep
 generalize impl_latticeMats.app x a 0 = p1 at A1 A2 ⊢
 generalize impl_latticeMats.app x b c = p2 at A3 A4 ⊢
 generalize impl_latticeMats.hasB a b c p1 = r1 at A2 ⊢
 generalize impl_latticeMats.hasB a b c p2 = r2 at A4 ⊢
 have hb0 := below_alloc (Below.refl W.heap.size W) (.cells #[.int .i64 x.f0, .int .i64 x.f1, .int .i64 x.f2, .int .i64 x.f3] 46)
 have hS0 : impl_latticeMats.Held W a b c L U V W.heap.size x (W.alloc (.cells #[.int .i64 x.f0, .int .i64 x.f1, .int .i64 x.f2, .int .i64 x.f3] 46)) :=
  ⟨hb0, (hb0.cell (World.block_lt_of_cell? W _ hl0)).trans hl0, (hb0.cell (World.block_lt_of_cell? W _ hl1)).trans hl1, (hb0.cell (World.block_lt_of_cell? W _ hl2)).trans hl2, (hb0.cell (World.block_lt_of_cell? W _ hu0)).trans hu0, (hb0.cell (World.block_lt_of_cell? W _ hu1)).trans hu1, (hb0.cell (World.block_lt_of_cell? W _ hv0)).trans hv0, (hb0.cell (World.block_lt_of_cell? W _ hv1)).trans hv1, by simp, by simp, by simp, by simp⟩
 have C1 := asd (fun (w' : World) (h : impl_latticeMats.Held W a b c L U V W.heap.size x w') => (impl_Mat_apply.calls _ _ _ _ _ _ _ _ _ A1.out).mono (fun e w'' (he : _ ∧ _) => (⟨he.1, impl_latticeMats.held_below h he.2⟩ : _ ∧ impl_latticeMats.Held W a b c L U V W.heap.size x w'')))
 have C2 := asd (fun (w' : World) (h : impl_latticeMats.Held W a b c L U V W.heap.size x w') => (impl_Lattice_has.calls _ _ _ _ _ _ _ A2.out).mono (fun e w'' (he : _ ∧ _) => (⟨he.1, impl_latticeMats.held_below h he.2⟩ : _ ∧ impl_latticeMats.Held W a b c L U V W.heap.size x w'')))
 have C3 := asd (fun (w' : World) (h : impl_latticeMats.Held W a b c L U V W.heap.size x w') => (impl_Mat_apply.calls _ _ _ _ _ _ _ _ _ A3.out).mono (fun e w'' (he : _ ∧ _) => (⟨he.1, impl_latticeMats.held_below h he.2⟩ : _ ∧ impl_latticeMats.Held W a b c L U V W.heap.size x w'')))
 have C4 := asd (fun (w' : World) (h : impl_latticeMats.Held W a b c L U V W.heap.size x w') => (impl_Lattice_has.calls _ _ _ _ _ _ _ A4.out).mono (fun e w'' (he : _ ∧ _) => (⟨he.1, impl_latticeMats.held_below h he.2⟩ : _ ∧ impl_latticeMats.Held W a b c L U V W.heap.size x w'')))
 clear hl0 hl1 hl2 hu0 hu1 hv0 hv1 ha hc hb0
 have hS1 := hS0
 obtain ⟨sb, s0, s1, s2, s3, s4, s5, s6, s7, s8, s9, s10⟩ := hS0
 cases r1 with
 | false =>
  go_enter Tryz.func105, Tryz.ntmps105
  go_wp2
  refine wp_region_held_drew (S := (fun w' => Below W.heap.size W w' ∧ w'.cell? ⟨L, 0, none⟩ = some (.int .i64 a) ∧ w'.cell? ⟨L, 1, none⟩ = some (.int .i64 b) ∧ w'.cell? ⟨L, 2, none⟩ = some (.int .i64 c) ∧ w'.cell? ⟨U, 0, none⟩ = some (.int .i64 a) ∧ w'.cell? ⟨U, 1, none⟩ = some (.int .i64 0) ∧ w'.cell? ⟨V, 0, none⟩ = some (.int .i64 b) ∧ w'.cell? ⟨V, 1, none⟩ = some (.int .i64 c) ∧ w'.cell? ⟨W.heap.size, 0, none⟩ = some (.int .i64 x.f0) ∧ w'.cell? ⟨W.heap.size, 1, none⟩ = some (.int .i64 x.f1) ∧ w'.cell? ⟨W.heap.size, 2, none⟩ = some (.int .i64 x.f2) ∧ w'.cell? ⟨W.heap.size, 3, none⟩ = some (.int .i64 x.f3))) (by kernel_rfl) (impl_latticeMats.held_drew hS1) (fun hHeld => ?_)
  refine wpAnyH_take (i := 0) (v := ?_) rfl (by kernel_rfl) (by kernel_rfl) (by kernel_rfl) (fun _ _ _ h => h) (Or.inl ⟨by rfl, ?_⟩) (by assumption) ?_
  rotate_left
  ·intro w' hSw; (try dsimp only at hSw); go_simp; first | done | with_reducible rfl
  rotate_left
  try simp only [Act.put, sA, sB, sC]
  refine wpAnyH_take (i := 1) (v := ?_) rfl (by kernel_rfl) (by kernel_rfl) (by kernel_rfl) (fun _ _ _ h => h) (Or.inl ⟨by rfl, ?_⟩) (by assumption) ?_
  rotate_left
  ·intro w' hSw; (try dsimp only at hSw); go_simp; first | done | with_reducible rfl
  rotate_left
  try simp only [Act.put, sA, sB, sC]
  refine wpAnyH_take (i := 2) (v := ?_) rfl (by kernel_rfl) (by kernel_rfl) (by kernel_rfl) (fun _ _ _ h => h) (Or.inl ⟨by rfl, ?_⟩) (by assumption) ?_
  rotate_left
  ·intro w' hSw; (try dsimp only at hSw); go_simp; first | done | with_reducible rfl
  rotate_left
  try simp only [Act.put, sA, sB, sC]
  refine wpAnyH_ready (rs := [3]) (by kernel_rfl) (by simp) ?_
  refine AllReadyH.cons rfl (fun K hK => ?_) AllReadyH.nil
  go_simp
  go_at_call 84
  (with_reducible refine (C1.out _ ?_).mono ?_)
  (assumption)
  rintro e w' ⟨rfl, hS'⟩
  refine hK.out _ _ (hS') (fun hHeld => ?_)
  clear hK K
  try simp only [Act.put, sA, sB, sC]
  refine wpAnyH_ready (rs := [4]) (by kernel_rfl) (by simp) ?_
  refine AllReadyH.cons rfl (fun K hK => ?_) AllReadyH.nil
  go_simp
  go_at_call 106
  (with_reducible refine (C2.out _ ?_).mono ?_)
  (assumption)
  rintro e w' ⟨rfl, hS'⟩
  refine hK.out _ _ (hS') (fun hHeld => ?_)
  clear hK K
  try simp only [Act.put, sA, sB, sC]
  refine wpAnyH_take (i := 5) (oi := { dst := some 11, op := _, type := _, pos := _, after := _, guard := _ }) (v := ?_) rfl (by kernel_rfl) (by kernel_rfl) (by kernel_rfl) (fun _ _ _ h => h) (Or.inl ⟨by rfl, ?_⟩) (by assumption) ?_
  rotate_left
  ·intro w' hSw; (try dsimp only at hSw); go_simp; first | done | with_reducible rfl
  rotate_left
  try simp only [Act.put, sA, sB, sC]
  refine wpAnyH_take (i := 6) (oi := { dst := some 12, op := _, type := _, pos := _, after := _, guard := _ }) (v := ?_) rfl (by kernel_rfl) (by kernel_rfl) (by kernel_rfl) (fun _ _ _ h => h) (Or.inl ⟨by rfl, ?_⟩) (by assumption) ?_
  rotate_left
  ·intro w' hSw; (try dsimp only at hSw); go_simp; first | done | with_reducible rfl
  rotate_left
  try simp only [Act.put, sA, sB, sC]
  refine wpAnyH_take (i := 7) (oi := { dst := some 13, op := _, type := _, pos := _, after := _, guard := _ }) (v := _) rfl (by kernel_rfl) (by kernel_rfl) (by kernel_rfl) (fun _ _ _ h => h) (Or.inr ⟨by rfl, rfl⟩) (by assumption) ?_
  try simp only [Act.put, sA, sB, sC]
  refine wpAnyH_take (i := 8) (oi := { dst := some 14, op := _, type := _, pos := _, after := _, guard := _ }) (v := _) rfl (by kernel_rfl) (by kernel_rfl) (by kernel_rfl) (fun _ _ _ h => h) (Or.inr ⟨by rfl, rfl⟩) (by assumption) ?_
  try simp only [Act.put, sA, sB, sC]
  refine wpAnyH_take (i := 9) (oi := { dst := some 15, op := _, type := _, pos := _, after := _, guard := _ }) (v := _) rfl (by kernel_rfl) (by kernel_rfl) (by kernel_rfl) (fun _ _ _ h => h) (Or.inr ⟨by rfl, rfl⟩) (by assumption) ?_
  try simp only [Act.put, sA, sB, sC]
  refine wpAnyH_take (i := 10) (oi := { dst := some 16, op := _, type := _, pos := _, after := _, guard := _ }) (v := _) rfl (by kernel_rfl) (by kernel_rfl) (by kernel_rfl) (fun _ _ _ h => h) (Or.inr ⟨by rfl, rfl⟩) (by assumption) ?_
  try simp only [Act.put, sA, sB, sC]
  refine wpAnyH_take (i := 11) (oi := { dst := some 17, op := _, type := _, pos := _, after := _, guard := _ }) (v := _) rfl (by kernel_rfl) (by kernel_rfl) (by kernel_rfl) (fun _ _ _ h => h) (Or.inr ⟨by rfl, rfl⟩) (by assumption) ?_
  try simp only [Act.put, sA, sB, sC]
  refine wpAnyH_take (i := 12) (oi := { dst := some 18, op := Op.unOp UnOp.not _ (Operand.tmp 17), type := _, pos := _, after := _, guard := _ }) (v := _) rfl (by kernel_rfl) (by kernel_rfl) (by kernel_rfl) (fun _ _ _ h => h) (Or.inr ⟨by rfl, rfl⟩) (by assumption) ?_
  try simp only [Act.put, sA, sB, sC]
  refine wpAnyH_take (i := 13) (oi := { dst := some 19, op := Op.pick (Operand.tmp 12) (Operand.const (Value.bool true)) (Operand.tmp 18), type := _, pos := _, after := _, guard := _ }) (v := ?_) rfl (by kernel_rfl) (by kernel_rfl) (by kernel_rfl) (fun _ _ _ h => h) (Or.inl ⟨by rfl, ?_⟩) (by assumption) ?_
  rotate_left
  ·intro w' hSw; (try dsimp only at hSw); go_simp; first | done | with_reducible rfl
  rotate_left
  try simp only [Act.put, sA, sB, sC]
  refine wpAnyH_take (i := 14) (oi := { dst := some 5, op := Op.assign (Operand.tmp 19), type := _, pos := _, after := _, guard := _ }) (v := ?_) rfl (by kernel_rfl) (by kernel_rfl) (by kernel_rfl) (fun _ _ _ h => h) (Or.inl ⟨by rfl, ?_⟩) (by assumption) ?_
  rotate_left
  ·intro w' hSw; (try dsimp only at hSw); go_simp; first | done | with_reducible rfl
  rotate_left
  try simp only [Act.put, sA, sB, sC]
  refine wpAnyH_done (by kernel_rfl) ?_ _
  all_goals go_wp2
  all_goals go_ret
  all_goals exact ⟨by first | rfl | (cases r2 <;> rfl), (show impl_latticeMats.Held W a b c L U V W.heap.size x _ by assumption).1⟩
 | true =>
  go_enter Tryz.func105, Tryz.ntmps105
  go_wp2
  first | (go_region_held3 (fun w' => Below W.heap.size W w' ∧ w'.cell? ⟨L, 0, none⟩ = some (.int .i64 a) ∧ w'.cell? ⟨L, 1, none⟩ = some (.int .i64 b) ∧ w'.cell? ⟨L, 2, none⟩ = some (.int .i64 c) ∧ w'.cell? ⟨U, 0, none⟩ = some (.int .i64 a) ∧ w'.cell? ⟨U, 1, none⟩ = some (.int .i64 0) ∧ w'.cell? ⟨V, 0, none⟩ = some (.int .i64 b) ∧ w'.cell? ⟨V, 1, none⟩ = some (.int .i64 c) ∧ w'.cell? ⟨W.heap.size, 0, none⟩ = some (.int .i64 x.f0) ∧ w'.cell? ⟨W.heap.size, 1, none⟩ = some (.int .i64 x.f1) ∧ w'.cell? ⟨W.heap.size, 2, none⟩ = some (.int .i64 x.f2) ∧ w'.cell? ⟨W.heap.size, 3, none⟩ = some (.int .i64 x.f3)) (first | assumption | exact impl_latticeMats.held_drew hS1 | go_keep)
   (first | (go_at_call 84; (with_reducible refine (C1.out _ ?_).mono ?_); (assumption); rintro e w' ⟨rfl, hS'⟩) | (go_at_call 106; (with_reducible refine (C2.out _ ?_).mono ?_); (assumption); rintro e w' ⟨rfl, hS'⟩) | (go_at_call 84; (with_reducible refine (C3.out _ ?_).mono ?_); (assumption); rintro e w' ⟨rfl, hS'⟩) | (go_at_call 106; (with_reducible refine (C4.out _ ?_).mono ?_); (assumption); rintro e w' ⟨rfl, hS'⟩))) | (fail "held3")
  all_goals go_wp2
  all_goals go_ret
  all_goals exact ⟨by first | rfl | (cases r2 <;> rfl), (show impl_latticeMats.Held W a b c L U V W.heap.size x _ by assumption).1⟩
set_option maxHeartbeats 4000000 in
set_option maxRecDepth 100000 in
theorem impl_latticeMats.calls (k : Nat) (a0 : Int) (a1_0 : Int) (a1_1 : Int) (a1_2 : Int) (r : List S46) (w : World) (h : impl_latticeMats.f k a0 a1_0 a1_1 a1_2 = some r) :
  Calls Tryz.prog 70 #[.int .i64 a0, .agg #[.int .i64 a1_0, .int .i64 a1_1, .int .i64 a1_2]] w fun e w' => ∃ v0_ : Value, e = .returned (v0_) ∧ Kd.R k46 46 w' w.heap.size (fun _ => True) v0_ r ∧ Below w.heap.size w w' := by
 have hu34 := Tryz.underlying38
 have hu31 := Tryz.underlying29
 unfold impl_latticeMats.f at h
 by_cases ha : a1_0 = 0
 ·rw [if_pos ha] at h; cases h
 rw [if_neg ha] at h
 by_cases hc : a1_2 = 0
 ·rw [if_pos hc] at h; cases h
 rw [if_neg hc] at h
 obtain ⟨l, h1, h2⟩ := Option.bind_eq_some_iff.1 h
 have hr := Option.some.inj h2
 subst hr
 have A1 := Aside0.mk h1
 have HA := Aside0.mk ha
 have HC := Aside0.mk hc
 have ABS := asd (show impl_Lattice_basis.f a1_0 a1_1 a1_2 = some (a1_0, 0, a1_1, a1_2) from rfl)
 clear h h1 h2 ha hc
 have eg : ∀ args w, (callFunc 105 args).run Tryz.prog w = .ok (.enter 105 args) w := enters_of Tryz.func105 (by kernel_rfl) rfl
 have EG := Aside0.mk eg
 clear eg
 go_enter Tryz.func70, Tryz.ntmps70
 go_wp2_with (first | (go_at_call 102; (with_reducible refine (impl_Lattice_basis.calls _ _ _ _ _ _ _ _ ABS.out).mono ?_); rintro e w2 ⟨rfl, hb2⟩; have HB2 := asd (below_then (below_alloc (Below.refl w.heap.size w) _) (below_alloc (Below.refl w.heap.size w) _).size hb2); have HL := Aside0.mk hb2; clear hb2) | (go_at_call 104; (with_reducible refine (impl_pointMats.calls _ _ _ _ A1.out).mono ?_); rintro e w3 ⟨v0, rfl, hR, hb3⟩; have HR3 := Aside0.mk hR; have HB3 := Aside0.mk hb3; clear hR hb3))
 obtain ⟨wA, hwA⟩ : ∃ wA, wA = (w2.alloc (.cells #[.int .i64 a1_0, .int .i64 0] 38)).alloc (.cells #[.int .i64 a1_1, .int .i64 a1_2] 38) := ⟨_, rfl⟩
 have hAB : Below w2.heap.size w2 wA := by rw [hwA]; exact below_alloc (below_alloc (Below.refl _ _) _) _
 have hl : ∀ o v, (w.alloc (.cells #[.int .i64 a1_0, .int .i64 a1_1, .int .i64 a1_2] 29)).cell? ⟨w.heap.size, o, none⟩ = some v → wA.cell? ⟨w.heap.size, o, none⟩ = some v := fun o v hv => by
  have h1 : w2.cell? ⟨w.heap.size, o, none⟩ = some v := (HL.out.cell (p := ⟨w.heap.size, o, none⟩) (by simp)).trans hv
  exact (hAB.cell (World.block_lt_of_cell? w2 _ h1)).trans h1
 have hl0 := hl 0 (.int .i64 a1_0) (by simp)
 have hl1 := hl 1 (.int .i64 a1_1) (by simp)
 have hl2 := hl 2 (.int .i64 a1_2) (by simp)
 have hu0 : wA.cell? ⟨w2.heap.size, 0, none⟩ = some (.int .i64 a1_0) := by rw [hwA]; simp
 have hu1 : wA.cell? ⟨w2.heap.size, 1, none⟩ = some (.int .i64 0) := by rw [hwA]; simp
 have hv0 : wA.cell? ⟨w2.heap.size + 1, 0, none⟩ = some (.int .i64 a1_1) := by rw [hwA]; simp
 have hv1 : wA.cell? ⟨w2.heap.size + 1, 1, none⟩ = some (.int .i64 a1_2) := by rw [hwA]; simp
 have hBA : Below w.heap.size w wA := below_then HB2.out HB2.out.size hAB
 have HR4 := HR3.out
 have HB4 := HB3.out
 rw [← hwA] at HR4 HB4
 have up : ∀ (W : World) (p : Addr) (v : Value), Below wA.heap.size wA W → wA.cell? p = some v → W.cell? p = some v := fun W p v hb h => (hb.cell (World.block_lt_of_cell? wA _ h)).trans h
 refine (impl_Mat_103.calls (fun x => !(impl_latticeMats.keep a1_0 a1_1 a1_2 x)) 105 #[.pointer (some ⟨w.heap.size, 0, none⟩), .pointer (some ⟨w2.heap.size, 0, none⟩), .pointer (some ⟨w2.heap.size + 1, 0, none⟩)] EG.out (fun k_ => wA.heap.size ≤ k_) v0 l wA w3 HB4 (Kd.R_mono (Kd.R_bound HR4) (fun k_ hk => hk.2.1)) (fun x W hb _ => impl_latticeMats.pred a1_0 a1_1 a1_2 w.heap.size w2.heap.size (w2.heap.size + 1) W (up W _ _ hb hl0) (up W _ _ hb hl1) (up W _ _ hb hl2) (up W _ _ hb hu0) (up W _ _ hb hu1) (up W _ _ hb hv0) (up W _ _ hb hv1) HA.out HC.out x)).mono ?_
 rintro e w4 ⟨v', rfl, hR4, hb4, _⟩
 have HR5 := Aside0.mk hR4
 have HB5 := Aside0.mk hb4
 have HBA := Aside0.mk hBA
 clear hl hl0 hl1 hl2 hu0 hu1 hv0 hv1 hAB hBA HR4 HB4 up hR4 hb4 hwA
 go_wp2
 go_ret
 refine ⟨_, rfl, ?_, below_then HBA.out HBA.out.size HB5.out⟩
 have hf : (l.filter fun x => !(!(impl_latticeMats.keep a1_0 a1_1 a1_2 x))) = l.filter (impl_latticeMats.keep a1_0 a1_1 a1_2) := by congr 1; funext x; simp
 have := HR5.out
 rw [hf] at this
 exact Kd.R_mono (Kd.R_lower this HBA.out.size) (fun _ _ => trivial)
/-! ### impl_unit: function 71 -/
def impl_unit.f  : Option (Int × Int × Int × Int) := some (1, 0, 0, 1)
set_option maxHeartbeats 8000000 in
set_option maxRecDepth 100000 in
theorem impl_unit.calls  (r1 : Int) (r2 : Int) (r3 : Int) (r4 : Int) (w : World) (h : impl_unit.f  = some (r1, r2, r3, r4)) :
  Calls Tryz.prog 71 #[] w fun e w' => e = .returned (.agg #[.int .i64 r1, .int .i64 r2, .int .i64 r3, .int .i64 r4]) ∧ Below w.heap.size w w' := by
 have hu46 := Tryz.underlying46
 have HB := asd (Below.refl w.heap.size w)
 have H : (some (1, 0, 0, 1)) = some (r1, r2, r3, r4) := h
 clear h
 simp only [Option.some.injEq, Prod.mk.injEq] at H
 obtain ⟨rfl, rfl, rfl, rfl⟩ := H
 go_enter Tryz.func71, Tryz.ntmps71
 go_wp2_with (first | ((with_reducible refine gd 0 rfl ?_); refine bx #[.int .i64 0, .int .i64 0, .int .i64 0, .int .i64 0] 46 ?_; intro gb411 hg w1 BK411 hb; have GE411 := ngw0 hg HB; replace HB := bS0 HB hb; clear hb hg; obtain ⟨hcz2_0, hcz2_1, hcz2_2, hcz2_3, hfz2_0, hfz2_1, hfz2_2, hfz2_3⟩ := bz4 BK411))
 refine bodyPost_ret (results_cell_row rfl _ _ gb411 46 #[.int .i64 1, .int .i64 0, .int .i64 0, .int .i64 1] (0, 0) _ rfl (bq0 BK411) Tryz.underlying46 rfl (by kernel_rfl)) rfl ?_
 exact er (bbw1 HB GE411)
/-! ### impl_Lattice_reduceMotion: function 72 -/
def impl_Lattice_reduceMotion.f (a0_0 : Int) (a0_1 : Int) (a0_2 : Int) (a1_0 : Int) (a1_1 : Int) (a1_2 : Int) (a1_3 : Int) (a1_4 : Int) (a1_5 : Int) : Option (Int × Int × Int × Int × Int × Int) := (impl_Lattice_reduce.f a0_0 a0_1 a0_2 a1_4 a1_5).bind fun bt415 => (some (a1_0, a1_1, a1_2, a1_3, bt415.1, bt415.2))
def impl_Lattice_reduceMotion.T1 : Bool × List (List Nat × List Nat) := (true, [([], []), ([0], [0]), ([], []), ([], []), ([3], [3]), ([2, 4], [2, 4]), ([1, 5], [1, 5]), ([6, 5, 0, 1, 2, 3, 4, 5, 6], [6])])
def impl_Lattice_reduceMotion.B1 : List Nat := [0, 1, 0, 0, 8, 28, 63, 127]
theorem impl_Lattice_reduceMotion.tab1 : rtab .any (opsOf Tryz.f72 1) = impl_Lattice_reduceMotion.T1 := by kernel_rfl
theorem impl_Lattice_reduceMotion.bits1 : waitsOk impl_Lattice_reduceMotion.T1.2 impl_Lattice_reduceMotion.B1 = true := by kernel_rfl
set_option maxHeartbeats 8000000 in
set_option maxRecDepth 100000 in
theorem impl_Lattice_reduceMotion.calls (a0_0 : Int) (a0_1 : Int) (a0_2 : Int) (a1_0 : Int) (a1_1 : Int) (a1_2 : Int) (a1_3 : Int) (a1_4 : Int) (a1_5 : Int) (r1 : Int) (r2 : Int) (r3 : Int) (r4 : Int) (r5 : Int) (r6 : Int) (w : World) (h : impl_Lattice_reduceMotion.f a0_0 a0_1 a0_2 a1_0 a1_1 a1_2 a1_3 a1_4 a1_5 = some (r1, r2, r3, r4, r5, r6)) :
  Calls Tryz.prog 72 #[.agg #[.int .i64 a0_0, .int .i64 a0_1, .int .i64 a0_2], .agg #[.int .i64 a1_0, .int .i64 a1_1, .int .i64 a1_2, .int .i64 a1_3, .int .i64 a1_4, .int .i64 a1_5]] w fun e w' => e = .returned (.agg #[.int .i64 r1, .int .i64 r2, .int .i64 r3, .int .i64 r4, .int .i64 r5, .int .i64 r6]) ∧ Below w.heap.size w w' := by
 have hu29 := Tryz.underlying29
 have hu48 := Tryz.underlying48
 have hu46 := Tryz.underlying46
 have hu38 := Tryz.underlying38
 have HB := asd (Below.refl w.heap.size w)
 have H : ((impl_Lattice_reduce.f a0_0 a0_1 a0_2 a1_4 a1_5).bind fun bt415 => (some (a1_0, a1_1, a1_2, a1_3, bt415.1, bt415.2))) = some (r1, r2, r3, r4, r5, r6) := h
 clear h
 obtain ⟨⟨t415, t416⟩, A3, H⟩ := ob H
 try dsimp only at H
 simp only [Option.some.injEq, Prod.mk.injEq] at H
 obtain ⟨rfl, rfl, rfl, rfl, rfl, rfl⟩ := H
 go_enter Tryz.func72, Tryz.ntmps72
 try go_wp2_with (first | ((with_reducible refine gd 2 rfl ?_); refine bx #[.int .i64 a0_0, .int .i64 a0_1, .int .i64 a0_2] 29 ?_; intro gb412 hg w4 BK412 hb; have GE412 := ngw0 hg HB; replace HB := bS0 HB hb; clear hb hg) | ((with_reducible refine gd 3 rfl ?_); refine bx #[.int .i64 a1_0, .int .i64 a1_1, .int .i64 a1_2, .int .i64 a1_3, .int .i64 a1_4, .int .i64 a1_5] 48 ?_; intro gb413 hg w5 BK413 hb; have GE413 := ngw1 hg HB GE412; replace HB := bS1 HB GE412 hb; have NB412_413 := nlt hg BK412; have NB413_412 := nsy (nlt hg BK412); replace BK412 := bB BK412 hb; clear hb hg) | ((with_reducible refine gd 4 rfl ?_); refine bx #[.int .i64 0, .int .i64 0, .int .i64 0, .int .i64 0, .int .i64 0, .int .i64 0] 48 ?_; intro gb414 hg w6 BK414 hb; have GE414 := ngw2 hg HB GE412 GE413; replace HB := bS2 HB GE412 GE413 hb; have NB412_414 := nlt hg BK412; have NB414_412 := nsy (nlt hg BK412); replace BK412 := bB BK412 hb; have NB413_414 := nlt hg BK413; have NB414_413 := nsy (nlt hg BK413); replace BK413 := bB BK413 hb; clear hb hg))
 replace BK412 := asd (blk_drew BK412.out)
 replace BK413 := asd (blk_drew BK413.out)
 replace BK414 := asd (blk_drew BK414.out)
 replace HB := asd (below_drew1 HB.out)
 refine sh 8 (cb6 BK413 (eb3 BK412)) (fun hHeld => ?_); refine with_tabW impl_Lattice_reduceMotion.tab1 impl_Lattice_reduceMotion.bits1 (fun HT_ HW_ => ?_)
 generalize w6.drew = w7 at BK412 BK413 BK414 HB hHeld ⊢
 refine pu 0 (some 5) (bT 8 1) HT_ ?_
 refine pu 3 (some 8) (bs 8 9) HT_ ?_
 refine ta 1 (some 6) (bs 8 11) HT_ HW_ hHeld ?_
 refine ta 2 (some 7) (bT 8 4) HT_ HW_ hHeld ?_
 refine ta 4 (some 9) (bT 8 5) HT_ HW_ hHeld ?_
 refine ro 5 (some 10) (bT 8 6) HT_ (fun K hK => ?_)
 refine gs Tryz.func107 #[.agg #[.int .i64 a0_0, .int .i64 a0_1, .int .i64 a0_2], .agg #[.int .i64 a1_4, .int .i64 a1_5]] ?_
 with_reducible refine (impl_Lattice_reduce.calls _ _ _ _ _ _ _ _ A3.out).mono ?_
 rintro e w8 ⟨rfl, hb⟩
 refine ⟨_, rfl, ?_⟩
 replace BK412 := bB BK412 hb
 replace BK413 := bB BK413 hb
 replace BK414 := bB BK414 hb
 replace HB := bS3 HB GE412 GE413 GE414 hb
 (try clear hb)
 (try clear hb2)
 (try clear hk)
 (try clear hi)
 refine hK.out _ _ (cb6 BK413 (eb3 BK412)).out (fun hHeld => ?_)
 clear hK K
 refine norm_ (a' := ?_) ?_ ?_
 rotate_left
 ·show Act.put _ (some 10) _ = _
  simp only [Act.put, sA, sB, sC, i64_w, i32_w]
  rfl
 refine pu 6 (some 11) (bT 8 7) HT_ ?_
 refine ro 7 (none) (bT 8 8) HT_ (fun K hK => ?_)
 have hs9 : w8.cell? ⟨gb414, 0, none⟩ = some (.int .i64 0) := bcl BK414 0
 have hfs9 := blk_frozen BK414.out 0
 have hns9_0 := NB412_414.out
 have hns9_1 := NB413_414.out
 have hms9_0 := NB414_412.out
 have hms9_1 := NB414_413.out
 have hs10 : w8.cell? ⟨gb414, 1, none⟩ = some (.int .i64 0) := bcl BK414 1
 have hfs10 := blk_frozen BK414.out 1
 have hns10_0 := NB412_414.out
 have hns10_1 := NB413_414.out
 have hms10_0 := NB414_412.out
 have hms10_1 := NB414_413.out
 have hs11 : w8.cell? ⟨gb414, 2, none⟩ = some (.int .i64 0) := bcl BK414 2
 have hfs11 := blk_frozen BK414.out 2
 have hns11_0 := NB412_414.out
 have hns11_1 := NB413_414.out
 have hms11_0 := NB414_412.out
 have hms11_1 := NB414_413.out
 have hs12 : w8.cell? ⟨gb414, 3, none⟩ = some (.int .i64 0) := bcl BK414 3
 have hfs12 := blk_frozen BK414.out 3
 have hns12_0 := NB412_414.out
 have hns12_1 := NB413_414.out
 have hms12_0 := NB414_412.out
 have hms12_1 := NB414_413.out
 have hs13 : w8.cell? ⟨gb414, 4, none⟩ = some (.int .i64 0) := bcl BK414 4
 have hfs13 := blk_frozen BK414.out 4
 have hns13_0 := NB412_414.out
 have hns13_1 := NB413_414.out
 have hms13_0 := NB414_412.out
 have hms13_1 := NB414_413.out
 have hs14 : w8.cell? ⟨gb414, 5, none⟩ = some (.int .i64 0) := bcl BK414 5
 have hfs14 := blk_frozen BK414.out 5
 have hns14_0 := NB412_414.out
 have hns14_1 := NB413_414.out
 have hms14_0 := NB414_412.out
 have hms14_1 := NB414_413.out
 refine skip_ (w1 := ?_) (by rfl) rfl ?_ ?_
 rotate_left
 ·go_simp
  rfl
 refine hK.out _ _ ⟨(cf NB413_414 ((cf NB413_414 ((cf NB413_414 ((cf NB413_414 ((cf NB413_414 ((cf NB413_414 (hHeld.1)))))))))))), (cf NB413_414 ((cf NB413_414 ((cf NB413_414 ((cf NB413_414 ((cf NB413_414 ((cf NB413_414 (hHeld.2.1)))))))))))), (cf NB413_414 ((cf NB413_414 ((cf NB413_414 ((cf NB413_414 ((cf NB413_414 ((cf NB413_414 (hHeld.2.2.1)))))))))))), (cf NB413_414 ((cf NB413_414 ((cf NB413_414 ((cf NB413_414 ((cf NB413_414 ((cf NB413_414 (hHeld.2.2.2.1)))))))))))), (cf NB413_414 ((cf NB413_414 ((cf NB413_414 ((cf NB413_414 ((cf NB413_414 ((cf NB413_414 (hHeld.2.2.2.2.1)))))))))))), (cf NB413_414 ((cf NB413_414 ((cf NB413_414 ((cf NB413_414 ((cf NB413_414 ((cf NB413_414 (hHeld.2.2.2.2.2.1)))))))))))), (cf NB412_414 ((cf NB412_414 ((cf NB412_414 ((cf NB412_414 ((cf NB412_414 ((cf NB412_414 (hHeld.2.2.2.2.2.2.1)))))))))))), (cf NB412_414 ((cf NB412_414 ((cf NB412_414 ((cf NB412_414 ((cf NB412_414 ((cf NB412_414 (hHeld.2.2.2.2.2.2.2.1)))))))))))), (cf NB412_414 ((cf NB412_414 ((cf NB412_414 ((cf NB412_414 ((cf NB412_414 ((cf NB412_414 (hHeld.2.2.2.2.2.2.2.2))))))))))))⟩ (fun hHeld => ?_)
 clear hK K
 refine done_ (done_of HT_.out (by kernel_rfl)) ?_
 try go_wp2
 refine bodyPost_ret (results_cell_row rfl _ _ gb414 48 #[.int .i64 a1_0, .int .i64 a1_1, .int .i64 a1_2, .int .i64 a1_3, .int .i64 t415, .int .i64 t416] (0, 0) _ rfl (bq0 BK414) Tryz.underlying48 rfl (by kernel_rfl)) rfl ?_
 exact er (bbw3 HB GE412 GE413 GE414)
/-! ### impl_Vec_add: function 83 -/
def impl_Vec_add.f (a0_0 : Int) (a0_1 : Int) (a1_0 : Int) (a1_1 : Int) : Option (Int × Int) := some (wrap64 (a0_0 + a1_0), wrap64 (a0_1 + a1_1))
set_option maxHeartbeats 8000000 in
set_option maxRecDepth 100000 in
theorem impl_Vec_add.calls (a0_0 : Int) (a0_1 : Int) (a1_0 : Int) (a1_1 : Int) (r1 : Int) (r2 : Int) (w : World) (h : impl_Vec_add.f a0_0 a0_1 a1_0 a1_1 = some (r1, r2)) :
  Calls Tryz.prog 83 #[.agg #[.int .i64 a0_0, .int .i64 a0_1], .agg #[.int .i64 a1_0, .int .i64 a1_1]] w fun e w' => e = .returned (.agg #[.int .i64 r1, .int .i64 r2]) ∧ Below w.heap.size w w' := by
 have hu38 := Tryz.underlying38
 have HB := asd (Below.refl w.heap.size w)
 have H : (some (wrap64 (a0_0 + a1_0), wrap64 (a0_1 + a1_1))) = some (r1, r2) := h
 clear h
 simp only [Option.some.injEq, Prod.mk.injEq] at H
 obtain ⟨rfl, rfl⟩ := H
 go_enter Tryz.func83, Tryz.ntmps83
 go_wp2_with (first | ((with_reducible refine gd 2 rfl ?_); refine bx #[.int .i64 a0_0, .int .i64 a0_1] 38 ?_; intro gb417 hg w3 BK417 hb; have GE417 := ngw0 hg HB; replace HB := bS0 HB hb; clear hb hg) | ((with_reducible refine gd 3 rfl ?_); refine bx #[.int .i64 a1_0, .int .i64 a1_1] 38 ?_; intro gb418 hg w4 BK418 hb; have GE418 := ngw1 hg HB GE417; replace HB := bS1 HB GE417 hb; have NB417_418 := nlt hg BK417; have NB418_417 := nsy (nlt hg BK417); replace BK417 := bB BK417 hb; clear hb hg) | ((with_reducible refine gd 4 rfl ?_); refine bx #[.int .i64 0, .int .i64 0] 38 ?_; intro gb419 hg w5 BK419 hb; have GE419 := ngw2 hg HB GE417 GE418; replace HB := bS2 HB GE417 GE418 hb; have NB417_419 := nlt hg BK417; have NB419_417 := nsy (nlt hg BK417); replace BK417 := bB BK417 hb; have NB418_419 := nlt hg BK418; have NB419_418 := nsy (nlt hg BK418); replace BK418 := bB BK418 hb; clear hb hg; have hnb6 := NB417_418.out; have hnc6 := NB418_417.out; have hnb7 := NB417_419.out; have hnc7 := NB419_417.out; obtain ⟨hcz8_0, hcz8_1, hfz8_0, hfz8_1⟩ := bz2 BK417; have hnb9 := NB418_419.out; have hnc9 := NB419_418.out; obtain ⟨hcz10_0, hcz10_1, hfz10_0, hfz10_1⟩ := bz2 BK418; obtain ⟨hcz11_0, hcz11_1, hfz11_0, hfz11_1⟩ := bz2 BK419))
 refine bodyPost_ret (results_cell_row rfl _ _ gb419 38 #[.int .i64 (wrap64 (a0_0 + a1_0)), .int .i64 (wrap64 (a0_1 + a1_1))] (0, 0) _ rfl (bq0 BK419) Tryz.underlying38 rfl (by kernel_rfl)) rfl ?_
 exact er (bbw3 HB GE417 GE418 GE419)
/-! ### impl_Mat_times: function 108 -/
def impl_Mat_times.f (a0_0 : Int) (a0_1 : Int) (a0_2 : Int) (a0_3 : Int) (a1_0 : Int) (a1_1 : Int) (a1_2 : Int) (a1_3 : Int) : Option (Int × Int × Int × Int) := some (wrap64 ((wrap64 (a0_0 * a1_0)) + (wrap64 (a0_1 * a1_2))), wrap64 ((wrap64 (a0_0 * a1_1)) + (wrap64 (a0_1 * a1_3))), wrap64 ((wrap64 (a0_2 * a1_0)) + (wrap64 (a0_3 * a1_2))), wrap64 ((wrap64 (a0_2 * a1_1)) + (wrap64 (a0_3 * a1_3))))
set_option maxHeartbeats 8000000 in
set_option maxRecDepth 100000 in
theorem impl_Mat_times.calls (a0_0 : Int) (a0_1 : Int) (a0_2 : Int) (a0_3 : Int) (a1_0 : Int) (a1_1 : Int) (a1_2 : Int) (a1_3 : Int) (r1 : Int) (r2 : Int) (r3 : Int) (r4 : Int) (w : World) (h : impl_Mat_times.f a0_0 a0_1 a0_2 a0_3 a1_0 a1_1 a1_2 a1_3 = some (r1, r2, r3, r4)) :
  Calls Tryz.prog 108 #[.agg #[.int .i64 a0_0, .int .i64 a0_1, .int .i64 a0_2, .int .i64 a0_3], .agg #[.int .i64 a1_0, .int .i64 a1_1, .int .i64 a1_2, .int .i64 a1_3]] w fun e w' => e = .returned (.agg #[.int .i64 r1, .int .i64 r2, .int .i64 r3, .int .i64 r4]) ∧ Below w.heap.size w w' := by
 have hu46 := Tryz.underlying46
 have HB := asd (Below.refl w.heap.size w)
 have H : (some (wrap64 ((wrap64 (a0_0 * a1_0)) + (wrap64 (a0_1 * a1_2))), wrap64 ((wrap64 (a0_0 * a1_1)) + (wrap64 (a0_1 * a1_3))), wrap64 ((wrap64 (a0_2 * a1_0)) + (wrap64 (a0_3 * a1_2))), wrap64 ((wrap64 (a0_2 * a1_1)) + (wrap64 (a0_3 * a1_3))))) = some (r1, r2, r3, r4) := h
 clear h
 simp only [Option.some.injEq, Prod.mk.injEq] at H
 obtain ⟨rfl, rfl, rfl, rfl⟩ := H
 go_enter Tryz.func108, Tryz.ntmps108
 go_wp2_with (first | ((with_reducible refine gd 2 rfl ?_); refine bx #[.int .i64 a0_0, .int .i64 a0_1, .int .i64 a0_2, .int .i64 a0_3] 46 ?_; intro gb420 hg w3 BK420 hb; have GE420 := ngw0 hg HB; replace HB := bS0 HB hb; clear hb hg) | ((with_reducible refine gd 3 rfl ?_); refine bx #[.int .i64 a1_0, .int .i64 a1_1, .int .i64 a1_2, .int .i64 a1_3] 46 ?_; intro gb421 hg w4 BK421 hb; have GE421 := ngw1 hg HB GE420; replace HB := bS1 HB GE420 hb; have NB420_421 := nlt hg BK420; have NB421_420 := nsy (nlt hg BK420); replace BK420 := bB BK420 hb; clear hb hg) | ((with_reducible refine gd 4 rfl ?_); refine bx #[.int .i64 0, .int .i64 0, .int .i64 0, .int .i64 0] 46 ?_; intro gb422 hg w5 BK422 hb; have GE422 := ngw2 hg HB GE420 GE421; replace HB := bS2 HB GE420 GE421 hb; have NB420_422 := nlt hg BK420; have NB422_420 := nsy (nlt hg BK420); replace BK420 := bB BK420 hb; have NB421_422 := nlt hg BK421; have NB422_421 := nsy (nlt hg BK421); replace BK421 := bB BK421 hb; clear hb hg; have hnb6 := NB420_421.out; have hnc6 := NB421_420.out; have hnb7 := NB420_422.out; have hnc7 := NB422_420.out; obtain ⟨hcz8_0, hcz8_1, hcz8_2, hcz8_3, hfz8_0, hfz8_1, hfz8_2, hfz8_3⟩ := bz4 BK420; have hnb9 := NB421_422.out; have hnc9 := NB422_421.out; obtain ⟨hcz10_0, hcz10_1, hcz10_2, hcz10_3, hfz10_0, hfz10_1, hfz10_2, hfz10_3⟩ := bz4 BK421; obtain ⟨hcz11_0, hcz11_1, hcz11_2, hcz11_3, hfz11_0, hfz11_1, hfz11_2, hfz11_3⟩ := bz4 BK422))
 refine bodyPost_ret (results_cell_row rfl _ _ gb422 46 #[.int .i64 (wrap64 ((wrap64 (a0_0 * a1_0)) + (wrap64 (a0_1 * a1_2)))), .int .i64 (wrap64 ((wrap64 (a0_0 * a1_1)) + (wrap64 (a0_1 * a1_3)))), .int .i64 (wrap64 ((wrap64 (a0_2 * a1_0)) + (wrap64 (a0_3 * a1_2)))), .int .i64 (wrap64 ((wrap64 (a0_2 * a1_1)) + (wrap64 (a0_3 * a1_3))))] (0, 0) _ rfl (bq0 BK422) Tryz.underlying46 rfl (by kernel_rfl)) rfl ?_
 exact er (bbw3 HB GE420 GE421 GE422)

end Go.Proofs.YtdodghjnlekgeaaGreat.PA
