/- Walks written by program: each Go function that the law reaches comes to the plain function beside it. -/
import Derived.Test.YtdodghjnlekgeaaPAx0
import Derived.Test.YtdodghjnlekgeaaPAx8
import Derived.Test.YtdodghjnlekgeaaPAx9
import Derived.Test.YtdodghjnlekgeaaPAx10
namespace Go.Proofs.Ytdodghjnlekgeaa.PA
open Go.RowKit Go.Proofs.YtdodghjnlekgeaaW.PrintWords Go.Proofs.YtdodghjnlekgeaaW.PrintLast Go.Proofs.YtdodghjnlekgeaaW.PrintMore
attribute [local go_sem] max2_int min2_int max_two min_two max_three min_three max_four min_four   -- for this text's walks alone
set_option linter.unusedVariables false
set_option linter.unusedSimpArgs false

/-! ### impl_StandardGroup: function 5 -/
def impl_StandardGroup.f (k : Nat) (a0 : ByteArray) (a1 : Int) : Option (Int × Int × Int × Int × (List (S41)) × Int) := (impl_standardMotions.f a0 a1).bind fun bt429 => (if bt429.2.2 = true then ((impl_within.f a1 1 4).bind fun t434 => (if t434 = true then ((impl_closeGroup.f k (wrap64 (2 * a1)) 0 (wrap64 (2 * a1)) bt429.2.1).bind fun t436 => (some (bt429.1, wrap64 (2 * a1), 0, wrap64 (2 * a1), t436, 0))) else (some (0, 0, 0, 0, ([] : List (S41)), 2)))) else (some (0, 0, 0, 0, ([] : List (S41)), 4)))
def impl_StandardGroup.T7 : Bool × List (List Nat × List Nat) := (true, [([], []), ([], []), ([], []), ([], []), ([2, 3], [2, 3]), ([0, 4, 0], [0]), ([1, 5, 0, 1, 5], [1]), ([4, 6, 0, 1, 2, 3, 4, 5, 6], [4]), ([7, 0, 1, 2, 3, 4, 5, 6, 7], [])])
def impl_StandardGroup.B7 : List Nat := [0, 0, 0, 0, 12, 29, 63, 127, 255]
theorem impl_StandardGroup.tab7 : rtab .any (opsOf Try.f5 7) = impl_StandardGroup.T7 := by kernel_rfl
theorem impl_StandardGroup.bits7 : waitsOk impl_StandardGroup.T7.2 impl_StandardGroup.B7 = true := by kernel_rfl
set_option maxHeartbeats 8000000 in
set_option maxRecDepth 100000 in
theorem impl_StandardGroup.calls (k : Nat) (a0 : ByteArray) (a1 : Int) (r1 : Int) (r2 : Int) (r3 : Int) (r4 : Int) (r5 : List (S41)) (r6 : Int) (w : World) (h : impl_StandardGroup.f k a0 a1 = some (r1, r2, r3, r4, r5, r6)) :
  Calls Try.prog 5 #[.string a0, .int .i64 a1] w fun e w' => ∃ v4_ : Value, e = .returned (.tuple #[.int .i64 r1, .agg #[.int .i64 r2, .int .i64 r3, .int .i64 r4], v4_, .int .i64 r6]) ∧ Kd.R k41 41 w' w.heap.size (fun _ => True) v4_ r5 ∧ Below w.heap.size w w' := by
 have hu23 := Try.underlying23
 have HB := asd (Below.refl w.heap.size w)
 have H : ((impl_standardMotions.f a0 a1).bind fun bt429 => (if bt429.2.2 = true then ((impl_within.f a1 1 4).bind fun t434 => (if t434 = true then ((impl_closeGroup.f k (wrap64 (2 * a1)) 0 (wrap64 (2 * a1)) bt429.2.1).bind fun t436 => (some (bt429.1, wrap64 (2 * a1), 0, wrap64 (2 * a1), t436, 0))) else (some (0, 0, 0, 0, ([] : List (S41)), 2)))) else (some (0, 0, 0, 0, ([] : List (S41)), 4)))) = some (r1, r2, r3, r4, r5, r6) := h
 clear h
 obtain ⟨⟨t429, t430, t431⟩, A3, H⟩ := ob H
 try dsimp only at H
 by_cases c4 : t431 = true
 ·subst c4
  replace H := ifT H
  obtain ⟨t434, A5, H⟩ := ob H
  try dsimp only at H
  by_cases c6 : t434 = true
  ·subst c6
   replace H := ifT H
   obtain ⟨t436, A7, H⟩ := ob H
   try dsimp only at H
   simp only [Option.some.injEq, Prod.mk.injEq] at H
   obtain ⟨rfl, rfl, rfl, rfl, rfl, rfl⟩ := H
   go_enter Try.func5, Try.ntmps5
   try go_wp2_with (first | ((with_reducible refine gd 5 rfl ?_); refine bx #[.int .i64 0, .int .i64 0, .int .i64 0] 23 ?_; intro gb428 hg w8 BK428 hb; have GE428 := ngw0 hg HB; replace HB := bS0 HB hb; clear hb hg) | ((with_reducible refine gate_callee (f := 13) rfl ?_); refine gl 15 Try.func13 #[.string a0, .int .i64 a1] ?_; (with_reducible refine (impl_standardMotions.calls _ _ _ _ _ _ A3.out).mono ?_); rintro e w9 ⟨v432, rfl, ho0, hb⟩; refine ⟨_, rfl, ?_⟩; have HO433 := asd (Kd.R_lower ho0 (bsz1 HB GE428)); replace BK428 := bB BK428 hb; replace HB := bS1 HB GE428 hb; (try clear hb); (try clear hb2); (try clear hk); (try clear hi); (try clear ho0)) | ((with_reducible refine gate_callee (f := 14) rfl ?_); refine gl 23 Try.func14 #[.int .i64 a1, .int .i64 1, .int .i64 4] ?_; (with_reducible refine (impl_within.calls _ _ _ _ _ A5.out).mono ?_); rintro e w' ⟨rfl, ⟨nd, rfl⟩⟩; refine ⟨_, rfl, ?_⟩; (try (rw [drewN_self w9]; generalize hq_ : World.drewN w9 _ = w9; have n0_ : Aside0 (Kd.R k41 41 w9 w.heap.size (fun _ => True) v432 t430) := ⟨by rw [← hq_]; exact (kr HO433)⟩; have n1_ : Aside0 (w9.heap[gb428]? = some (.cells #[.int .i64 0, .int .i64 0, .int .i64 0] 23 (0, 0))) := ⟨by rw [← hq_]; exact (bkp BK428)⟩; have n2_ : Aside0 (Below w.heap.size w w9) := ⟨by rw [← hq_]; exact (bbw1 HB GE428)⟩; clear HO433 BK428 HB hq_; have HO433 := n0_; have BK428 := n1_; have HB := n2_; clear n0_ n1_ n2_))) | ((with_reducible refine gd 11 rfl ?_); refine bx #[.int .i64 0, .int .i64 0, .int .i64 0] 23 ?_; intro gb435 hg w10 BK435 hb; replace HO433 := asd (Kd.R_below (kr HO433) hb); have GE435 := ngw1 hg HB GE428; replace HB := bS1 HB GE428 hb; have NB428_435 := nlt hg BK428; have NB435_428 := nsy (nlt hg BK428); replace BK428 := bB BK428 hb; clear hb hg; have hnb11 := NB435_428.out; have hnc11 := NB428_435.out; obtain ⟨hcz12_0, hcz12_1, hcz12_2, hfz12_0, hfz12_1, hfz12_2⟩ := bz3 BK435))
   obtain ⟨w13, h_w13⟩ : ∃ w_, (((w10.setCell ⟨gb435, 0, none⟩ (.int .i64 (wrap64 (2 * a1)))).setCell ⟨gb435, 1, none⟩ (.int .i64 0)).setCell ⟨gb435, 2, none⟩ (.int .i64 (wrap64 (2 * a1)))) = w_ := ⟨_, rfl⟩
   replace HO433 : Aside0 (Kd.R k41 41 w13 w.heap.size (fun _ => True) v432 t430) := by rw [← h_w13]; exact ⟨by (with_reducible repeat (first | apply Kd.R_alloc | apply Kd.R_drewN | apply Kd.R_drew)); exact Kd.R_mono (rw3 (Kd.R_types HO433.out BK435.out (by decide))) (fun _ hk => trivial)⟩
   replace BK428 : Aside0 (w13.heap[gb428]? = some (.cells #[.int .i64 0, .int .i64 0, .int .i64 0] 23 (0, 0))) := by rw [← h_w13]; exact ⟨bq1 BK428 NB428_435⟩
   replace BK435 : Aside0 (w13.heap[gb435]? = some (.cells #[.int .i64 (wrap64 (2 * a1)), .int .i64 0, .int .i64 (wrap64 (2 * a1))] 23 (0, 0))) := by rw [← h_w13]; exact ⟨bq0 BK435⟩
   replace HB : Aside0 (Below w.heap.size w w13) := by rw [← h_w13]; exact ⟨bbw2 HB GE428 GE435⟩
   (try rw [h_w13]); clear h_w13
   replace HO433 := asd (Kd.R_drew HO433.out)
   replace BK428 := asd (blk_drew BK428.out)
   replace BK435 := asd (blk_drew BK435.out)
   replace HB := asd (below_drew1 HB.out)
   obtain ⟨Ao15, co15, eo15⟩ := Kd.R_slice HO433.out
   (first | subst eo15 | (injection eo15 with f1_ f2_ f3_; have f4_ := f1_.symm; have f5_ := f3_.symm; clear f1_ f2_ f3_; subst f4_; subst f5_))
   refine sh 9 (eb3 BK435) (fun hHeld => ?_); refine with_tabW impl_StandardGroup.tab7 impl_StandardGroup.bits7 (fun HT_ HW_ => ?_)
   generalize w13.drew = w14 at HO433 BK428 BK435 HB hHeld ⊢
   refine pu 0 (some 31) (bT 9 1) HT_ ?_
   refine pu 3 (some 34) (bs 9 9) HT_ ?_
   refine ta 1 (some 32) (bs 9 11) HT_ HW_ hHeld ?_
   refine ta 2 (some 33) (bT 9 4) HT_ HW_ hHeld ?_
   refine ro 4 (some 35) (bT 9 5) HT_ (fun K hK => ?_)
   refine gs Try.func15 #[.agg #[.int .i64 (wrap64 (2 * a1)), .int .i64 0, .int .i64 (wrap64 (2 * a1))], .slice Ao15 t430.length co15] ?_
   with_reducible refine (impl_closeGroup.calls _ _ _ _ _ _ _ _ _ ?side1 ?side2 A7.out).mono ?_
   (case side1 => exact ks (Kd.R_reads' HO433.out).2.2)
   (case side2 => exact (Kd.R_reads' HO433.out).2.1)
   rintro e w16 ⟨v437, rfl, ho0, hb⟩
   refine ⟨_, rfl, ?_⟩
   have HO438 := asd (Kd.R_lower (Kd.R_new' ho0 (Kd.R_lt (kr HO433))) (bsz2 HB GE428 GE435))
   replace HO433 := asd (Kd.R_elder' (kr HO433) (Kd.R_base ho0) hb)
   replace BK428 := bB BK428 hb
   replace BK435 := bB BK435 hb
   replace HB := bS2 HB GE428 GE435 hb
   (try clear hb)
   (try clear hb2)
   (try clear hk)
   (try clear hi)
   (try clear ho0)
   refine hK.out _ _ (eb3 BK435).out (fun hHeld => ?_)
   clear hK K
   refine norm_ (a' := ?_) ?_ ?_
   rotate_left
   ·show Act.put _ (some 35) _ = _
    simp only [Act.put, sA, sB, sC, i64_w, i32_w]
    rfl
   refine pu 5 (some 4) (bT 9 6) HT_ ?_
   refine ro 6 (none) (bT 9 7) HT_ (fun K hK => ?_)
   have hs17 : w16.cell? ⟨gb428, 0, none⟩ = some (.int .i64 0) := bcl BK428 0
   have hfs17 := blk_frozen BK428.out 0
   have hns17_1 := NB435_428.out
   have hms17_1 := NB428_435.out
   have hs18 : w16.cell? ⟨gb428, 1, none⟩ = some (.int .i64 0) := bcl BK428 1
   have hfs18 := blk_frozen BK428.out 1
   have hns18_1 := NB435_428.out
   have hms18_1 := NB428_435.out
   have hs19 : w16.cell? ⟨gb428, 2, none⟩ = some (.int .i64 0) := bcl BK428 2
   have hfs19 := blk_frozen BK428.out 2
   have hns19_1 := NB435_428.out
   have hms19_1 := NB428_435.out
   refine skip_ (w1 := ?_) (by rfl) rfl ?_ ?_
   rotate_left
   ·go_simp
    rfl
   refine hK.out _ _ ⟨(cf NB435_428 ((cf NB435_428 ((cf NB435_428 (hHeld.1)))))), (cf NB435_428 ((cf NB435_428 ((cf NB435_428 (hHeld.2.1)))))), (cf NB435_428 ((cf NB435_428 ((cf NB435_428 (hHeld.2.2))))))⟩ (fun hHeld => ?_)
   clear hK K
   refine pu 7 (some 6) (bT 9 8) HT_ ?_
   refine pu 8 (some 7) (bT 9 9) HT_ ?_
   refine done_ (done_of HT_.out (by kernel_rfl)) ?_
   try go_wp2
   refine bodyPost_ret (results_list (rs := [.tmp 4, .cell 5 23, .tmp 6, .tmp 7]) rfl (by simp) (.tmp (.cell gb428 23 #[.int .i64 (wrap64 (2 * a1)), .int .i64 0, .int .i64 (wrap64 (2 * a1))] (0, 0) _ rfl (bq0 BK428) Try.underlying23 rfl (by kernel_rfl) (.tmp (.tmp .nil))))) rfl ?_
   exact ⟨_, by first | rfl | (simp [errW_none, errW_some] <;> rfl) | (simp [*, errW_none, errW_some] <;> rfl), by (with_reducible repeat (first | apply Kd.R_alloc | apply Kd.R_drewN | apply Kd.R_drew)); exact Kd.R_mono (rw3 (Kd.R_types HO438.out BK428.out (by decide))) (fun _ hk => trivial), bbw2 HB GE428 GE435⟩
  ·replace c6 := Bool.eq_false_iff.mpr c6
   subst c6
   replace H := ifF H
   simp only [Option.some.injEq, Prod.mk.injEq] at H
   obtain ⟨rfl, rfl, rfl, rfl, rfl, rfl⟩ := H
   go_enter Try.func5, Try.ntmps5
   go_wp2_with (first | ((with_reducible refine gd 5 rfl ?_); refine bx #[.int .i64 0, .int .i64 0, .int .i64 0] 23 ?_; intro gb428 hg w20 BK428 hb; have GE428 := ngw0 hg HB; replace HB := bS0 HB hb; clear hb hg) | ((with_reducible refine gate_callee (f := 13) rfl ?_); refine gl 15 Try.func13 #[.string a0, .int .i64 a1] ?_; (with_reducible refine (impl_standardMotions.calls _ _ _ _ _ _ A3.out).mono ?_); rintro e w21 ⟨v432, rfl, ho0, hb⟩; refine ⟨_, rfl, ?_⟩; have HO433 := asd (Kd.R_lower ho0 (bsz1 HB GE428)); replace BK428 := bB BK428 hb; replace HB := bS1 HB GE428 hb; (try clear hb); (try clear hb2); (try clear hk); (try clear hi); (try clear ho0)) | ((with_reducible refine gate_callee (f := 14) rfl ?_); refine gl 23 Try.func14 #[.int .i64 a1, .int .i64 1, .int .i64 4] ?_; (with_reducible refine (impl_within.calls _ _ _ _ _ A5.out).mono ?_); rintro e w' ⟨rfl, ⟨nd, rfl⟩⟩; refine ⟨_, rfl, ?_⟩; (try (rw [drewN_self w21]; generalize hq_ : World.drewN w21 _ = w21; have n0_ : Aside0 (Kd.R k41 41 w21 w.heap.size (fun _ => True) v432 t430) := ⟨by rw [← hq_]; exact (kr HO433)⟩; have n1_ : Aside0 (w21.heap[gb428]? = some (.cells #[.int .i64 0, .int .i64 0, .int .i64 0] 23 (0, 0))) := ⟨by rw [← hq_]; exact (bkp BK428)⟩; have n2_ : Aside0 (Below w.heap.size w w21) := ⟨by rw [← hq_]; exact (bbw1 HB GE428)⟩; clear HO433 BK428 HB hq_; have HO433 := n0_; have BK428 := n1_; have HB := n2_; clear n0_ n1_ n2_)); have hcz22_0 : w21.cell? ⟨gb428, 0, none⟩ = some (.int .i64 0) := bcl BK428 0; have hcz22_1 : w21.cell? ⟨gb428, 1, none⟩ = some (.int .i64 0) := bcl BK428 1; have hcz22_2 : w21.cell? ⟨gb428, 2, none⟩ = some (.int .i64 0) := bcl BK428 2; have hfz22_0 := blk_frozen BK428.out 0; have hfz22_1 := blk_frozen BK428.out 1; have hfz22_2 := blk_frozen BK428.out 2))
   refine bodyPost_ret (results_list (rs := [.tmp 4, .cell 5 23, .tmp 6, .tmp 7]) rfl (by simp) (.tmp (.cell gb428 23 #[.int .i64 0, .int .i64 0, .int .i64 0] (0, 0) _ rfl (bq0 BK428) Try.underlying23 rfl (by kernel_rfl) (.tmp (.tmp .nil))))) rfl ?_
   exact ⟨_, by first | rfl | (simp [errW_none, errW_some] <;> rfl) | (simp [*, errW_none, errW_some] <;> rfl), by first | exact Kd.R_nil _ _ _ _ _ | exact Kd.N_nil _ _ _ _ _ | exact Kd.V_nil _ _ _ _ _ | exact Kd.Q_nil _ _ _ _ _ | exact Kd.S_nil _ _ _ _ _, bbw1 HB GE428⟩
 ·replace c4 := Bool.eq_false_iff.mpr c4
  subst c4
  replace H := ifF H
  simp only [Option.some.injEq, Prod.mk.injEq] at H
  obtain ⟨rfl, rfl, rfl, rfl, rfl, rfl⟩ := H
  go_enter Try.func5, Try.ntmps5
  go_wp2_with (first | ((with_reducible refine gd 5 rfl ?_); refine bx #[.int .i64 0, .int .i64 0, .int .i64 0] 23 ?_; intro gb428 hg w23 BK428 hb; have GE428 := ngw0 hg HB; replace HB := bS0 HB hb; clear hb hg) | ((with_reducible refine gate_callee (f := 13) rfl ?_); refine gl 15 Try.func13 #[.string a0, .int .i64 a1] ?_; (with_reducible refine (impl_standardMotions.calls _ _ _ _ _ _ A3.out).mono ?_); rintro e w24 ⟨v432, rfl, ho0, hb⟩; refine ⟨_, rfl, ?_⟩; have HO433 := asd (Kd.R_lower ho0 (bsz1 HB GE428)); replace BK428 := bB BK428 hb; replace HB := bS1 HB GE428 hb; (try clear hb); (try clear hb2); (try clear hk); (try clear hi); (try clear ho0); obtain ⟨hcz25_0, hcz25_1, hcz25_2, hfz25_0, hfz25_1, hfz25_2⟩ := bz3 BK428))
  refine bodyPost_ret (results_list (rs := [.tmp 4, .cell 5 23, .tmp 6, .tmp 7]) rfl (by simp) (.tmp (.cell gb428 23 #[.int .i64 0, .int .i64 0, .int .i64 0] (0, 0) _ rfl (bq0 BK428) Try.underlying23 rfl (by kernel_rfl) (.tmp (.tmp .nil))))) rfl ?_
  exact ⟨_, by first | rfl | (simp [errW_none, errW_some] <;> rfl) | (simp [*, errW_none, errW_some] <;> rfl), by first | exact Kd.R_nil _ _ _ _ _ | exact Kd.N_nil _ _ _ _ _ | exact Kd.V_nil _ _ _ _ _ | exact Kd.Q_nil _ _ _ _ _ | exact Kd.S_nil _ _ _ _ _, bbw1 HB GE428⟩

/-! ### laws_eqLattice: function 6 -/
def laws_eqLattice.f (a0_0 : Int) (a0_1 : Int) (a0_2 : Int) (a1_0 : Int) (a1_1 : Int) (a1_2 : Int) : Option (Bool) := if a0_0 = a1_0 then (if a0_1 = a1_1 then (if a0_2 = a1_2 then (some true) else (some false)) else (some false)) else (some false)
set_option maxHeartbeats 8000000 in
set_option maxRecDepth 100000 in
theorem laws_eqLattice.calls (a0_0 : Int) (a0_1 : Int) (a0_2 : Int) (a1_0 : Int) (a1_1 : Int) (a1_2 : Int) (r : Bool) (w : World) (h : laws_eqLattice.f a0_0 a0_1 a0_2 a1_0 a1_1 a1_2 = some r) :
  Calls Try.prog 6 #[.agg #[.int .i64 a0_0, .int .i64 a0_1, .int .i64 a0_2], .agg #[.int .i64 a1_0, .int .i64 a1_1, .int .i64 a1_2]] w fun e w' => e = .returned (.bool r) ∧ Below w.heap.size w w' := by
 have hu23 := Try.underlying23
 have HB := asd (Below.refl w.heap.size w)
 have H : (if a0_0 = a1_0 then (if a0_1 = a1_1 then (if a0_2 = a1_2 then (some true) else (some false)) else (some false)) else (some false)) = some r := h
 clear h
 by_cases c3 : a0_0 = a1_0
 rw [if_pos c3] at H
 have c3b0 : (a0_0 == a1_0) = true := beq_iff_eq.mpr c3
 have c3b1 : (a0_0 != a1_0) = false := bne_eq_false_iff_eq.mpr c3
 clear c3
 by_cases c4 : a0_1 = a1_1
 rw [if_pos c4] at H
 have c4b0 : (a0_1 == a1_1) = true := beq_iff_eq.mpr c4
 have c4b1 : (a0_1 != a1_1) = false := bne_eq_false_iff_eq.mpr c4
 clear c4
 by_cases c5 : a0_2 = a1_2
 rw [if_pos c5] at H
 have c5b0 : (a0_2 == a1_2) = true := beq_iff_eq.mpr c5
 have c5b1 : (a0_2 != a1_2) = false := bne_eq_false_iff_eq.mpr c5
 clear c5
 obtain rfl := Option.some.inj H
 rotate_left
 rw [if_neg c5] at H
 have c5b0 : (a0_2 == a1_2) = false := beq_eq_false_iff_ne.mpr c5
 have c5b1 : (a0_2 != a1_2) = true := bne_iff_ne.mpr c5
 obtain rfl := Option.some.inj H
 rotate_left
 rw [if_neg c4] at H
 have c4b0 : (a0_1 == a1_1) = false := beq_eq_false_iff_ne.mpr c4
 have c4b1 : (a0_1 != a1_1) = true := bne_iff_ne.mpr c4
 obtain rfl := Option.some.inj H
 rotate_left
 rw [if_neg c3] at H
 have c3b0 : (a0_0 == a1_0) = false := beq_eq_false_iff_ne.mpr c3
 have c3b1 : (a0_0 != a1_0) = true := bne_iff_ne.mpr c3
 obtain rfl := Option.some.inj H
 rotate_left
 all_goals
  go_enter Try.func6, Try.ntmps6
  go_wp2_with (first | ((with_reducible refine gd 2 rfl ?_); refine bx #[.int .i64 a0_0, .int .i64 a0_1, .int .i64 a0_2] 23 ?_; intro gb439 hg w6 BK439 hb; have GE439 := ngw0 hg HB; replace HB := bS0 HB hb; clear hb hg) | ((with_reducible refine gd 3 rfl ?_); refine bx #[.int .i64 a1_0, .int .i64 a1_1, .int .i64 a1_2] 23 ?_; intro gb440 hg w7 BK440 hb; have GE440 := ngw1 hg HB GE439; replace HB := bS1 HB GE439 hb; have NB439_440 := nlt hg BK439; have NB440_439 := nsy (nlt hg BK439); replace BK439 := bB BK439 hb; clear hb hg; have hnb8 := NB439_440.out; have hnc8 := NB440_439.out; obtain ⟨hcz9_0, hcz9_1, hcz9_2, hfz9_0, hfz9_1, hfz9_2⟩ := bz3 BK439; obtain ⟨hcz10_0, hcz10_1, hcz10_2, hfz10_0, hfz10_1, hfz10_2⟩ := bz3 BK440))
  go_ret
  exact er (bbw2 HB GE439 GE440)
/-! ### laws_eqMat: function 27 -/
def laws_eqMat.f (a0_0 : Int) (a0_1 : Int) (a0_2 : Int) (a0_3 : Int) (a1_0 : Int) (a1_1 : Int) (a1_2 : Int) (a1_3 : Int) : Option (Bool) := if a0_0 = a1_0 then (if a0_1 = a1_1 then (if a0_2 = a1_2 then (if a0_3 = a1_3 then (some true) else (some false)) else (some false)) else (some false)) else (some false)
set_option maxHeartbeats 8000000 in
set_option maxRecDepth 100000 in
theorem laws_eqMat.calls (a0_0 : Int) (a0_1 : Int) (a0_2 : Int) (a0_3 : Int) (a1_0 : Int) (a1_1 : Int) (a1_2 : Int) (a1_3 : Int) (r : Bool) (w : World) (h : laws_eqMat.f a0_0 a0_1 a0_2 a0_3 a1_0 a1_1 a1_2 a1_3 = some r) :
  Calls Try.prog 27 #[.agg #[.int .i64 a0_0, .int .i64 a0_1, .int .i64 a0_2, .int .i64 a0_3], .agg #[.int .i64 a1_0, .int .i64 a1_1, .int .i64 a1_2, .int .i64 a1_3]] w fun e w' => e = .returned (.bool r) ∧ Below w.heap.size w w' := by
 have hu37 := Try.underlying37
 have HB := asd (Below.refl w.heap.size w)
 have H : (if a0_0 = a1_0 then (if a0_1 = a1_1 then (if a0_2 = a1_2 then (if a0_3 = a1_3 then (some true) else (some false)) else (some false)) else (some false)) else (some false)) = some r := h
 clear h
 by_cases c3 : a0_0 = a1_0
 rw [if_pos c3] at H
 have c3b0 : (a0_0 == a1_0) = true := beq_iff_eq.mpr c3
 have c3b1 : (a0_0 != a1_0) = false := bne_eq_false_iff_eq.mpr c3
 clear c3
 by_cases c4 : a0_1 = a1_1
 rw [if_pos c4] at H
 have c4b0 : (a0_1 == a1_1) = true := beq_iff_eq.mpr c4
 have c4b1 : (a0_1 != a1_1) = false := bne_eq_false_iff_eq.mpr c4
 clear c4
 by_cases c5 : a0_2 = a1_2
 rw [if_pos c5] at H
 have c5b0 : (a0_2 == a1_2) = true := beq_iff_eq.mpr c5
 have c5b1 : (a0_2 != a1_2) = false := bne_eq_false_iff_eq.mpr c5
 clear c5
 by_cases c6 : a0_3 = a1_3
 rw [if_pos c6] at H
 have c6b0 : (a0_3 == a1_3) = true := beq_iff_eq.mpr c6
 have c6b1 : (a0_3 != a1_3) = false := bne_eq_false_iff_eq.mpr c6
 clear c6
 obtain rfl := Option.some.inj H
 rotate_left
 rw [if_neg c6] at H
 have c6b0 : (a0_3 == a1_3) = false := beq_eq_false_iff_ne.mpr c6
 have c6b1 : (a0_3 != a1_3) = true := bne_iff_ne.mpr c6
 obtain rfl := Option.some.inj H
 rotate_left
 rw [if_neg c5] at H
 have c5b0 : (a0_2 == a1_2) = false := beq_eq_false_iff_ne.mpr c5
 have c5b1 : (a0_2 != a1_2) = true := bne_iff_ne.mpr c5
 obtain rfl := Option.some.inj H
 rotate_left
 rw [if_neg c4] at H
 have c4b0 : (a0_1 == a1_1) = false := beq_eq_false_iff_ne.mpr c4
 have c4b1 : (a0_1 != a1_1) = true := bne_iff_ne.mpr c4
 obtain rfl := Option.some.inj H
 rotate_left
 rw [if_neg c3] at H
 have c3b0 : (a0_0 == a1_0) = false := beq_eq_false_iff_ne.mpr c3
 have c3b1 : (a0_0 != a1_0) = true := bne_iff_ne.mpr c3
 obtain rfl := Option.some.inj H
 rotate_left
 all_goals
  go_enter Try.func27, Try.ntmps27
  go_wp2_with (first | ((with_reducible refine gd 2 rfl ?_); refine bx #[.int .i64 a0_0, .int .i64 a0_1, .int .i64 a0_2, .int .i64 a0_3] 37 ?_; intro gb441 hg w7 BK441 hb; have GE441 := ngw0 hg HB; replace HB := bS0 HB hb; clear hb hg) | ((with_reducible refine gd 3 rfl ?_); refine bx #[.int .i64 a1_0, .int .i64 a1_1, .int .i64 a1_2, .int .i64 a1_3] 37 ?_; intro gb442 hg w8 BK442 hb; have GE442 := ngw1 hg HB GE441; replace HB := bS1 HB GE441 hb; have NB441_442 := nlt hg BK441; have NB442_441 := nsy (nlt hg BK441); replace BK441 := bB BK441 hb; clear hb hg; have hnb9 := NB441_442.out; have hnc9 := NB442_441.out; obtain ⟨hcz10_0, hcz10_1, hcz10_2, hcz10_3, hfz10_0, hfz10_1, hfz10_2, hfz10_3⟩ := bz4 BK441; obtain ⟨hcz11_0, hcz11_1, hcz11_2, hcz11_3, hfz11_0, hfz11_1, hfz11_2, hfz11_3⟩ := bz4 BK442))
  go_ret
  exact er (bbw2 HB GE441 GE442)
/-! ### laws_eqVec: function 28 -/
def laws_eqVec.f (a0_0 : Int) (a0_1 : Int) (a1_0 : Int) (a1_1 : Int) : Option (Bool) := if a0_0 = a1_0 then (if a0_1 = a1_1 then (some true) else (some false)) else (some false)
set_option maxHeartbeats 8000000 in
set_option maxRecDepth 100000 in
theorem laws_eqVec.calls (a0_0 : Int) (a0_1 : Int) (a1_0 : Int) (a1_1 : Int) (r : Bool) (w : World) (h : laws_eqVec.f a0_0 a0_1 a1_0 a1_1 = some r) :
  Calls Try.prog 28 #[.agg #[.int .i64 a0_0, .int .i64 a0_1], .agg #[.int .i64 a1_0, .int .i64 a1_1]] w fun e w' => e = .returned (.bool r) ∧ Below w.heap.size w w' := by
 have hu39 := Try.underlying39
 have HB := asd (Below.refl w.heap.size w)
 have H : (if a0_0 = a1_0 then (if a0_1 = a1_1 then (some true) else (some false)) else (some false)) = some r := h
 clear h
 by_cases c3 : a0_0 = a1_0
 rw [if_pos c3] at H
 have c3b0 : (a0_0 == a1_0) = true := beq_iff_eq.mpr c3
 have c3b1 : (a0_0 != a1_0) = false := bne_eq_false_iff_eq.mpr c3
 clear c3
 by_cases c4 : a0_1 = a1_1
 rw [if_pos c4] at H
 have c4b0 : (a0_1 == a1_1) = true := beq_iff_eq.mpr c4
 have c4b1 : (a0_1 != a1_1) = false := bne_eq_false_iff_eq.mpr c4
 clear c4
 obtain rfl := Option.some.inj H
 rotate_left
 rw [if_neg c4] at H
 have c4b0 : (a0_1 == a1_1) = false := beq_eq_false_iff_ne.mpr c4
 have c4b1 : (a0_1 != a1_1) = true := bne_iff_ne.mpr c4
 obtain rfl := Option.some.inj H
 rotate_left
 rw [if_neg c3] at H
 have c3b0 : (a0_0 == a1_0) = false := beq_eq_false_iff_ne.mpr c3
 have c3b1 : (a0_0 != a1_0) = true := bne_iff_ne.mpr c3
 obtain rfl := Option.some.inj H
 rotate_left
 all_goals
  go_enter Try.func28, Try.ntmps28
  go_wp2_with (first | ((with_reducible refine gd 2 rfl ?_); refine bx #[.int .i64 a0_0, .int .i64 a0_1] 39 ?_; intro gb443 hg w5 BK443 hb; have GE443 := ngw0 hg HB; replace HB := bS0 HB hb; clear hb hg) | ((with_reducible refine gd 3 rfl ?_); refine bx #[.int .i64 a1_0, .int .i64 a1_1] 39 ?_; intro gb444 hg w6 BK444 hb; have GE444 := ngw1 hg HB GE443; replace HB := bS1 HB GE443 hb; have NB443_444 := nlt hg BK443; have NB444_443 := nsy (nlt hg BK443); replace BK443 := bB BK443 hb; clear hb hg; have hnb7 := NB443_444.out; have hnc7 := NB444_443.out; obtain ⟨hcz8_0, hcz8_1, hfz8_0, hfz8_1⟩ := bz2 BK443; obtain ⟨hcz9_0, hcz9_1, hfz9_0, hfz9_1⟩ := bz2 BK444))
  go_ret
  exact er (bbw2 HB GE443 GE444)
/-! ### laws_eqMotion: function 16 -/
def laws_eqMotion.f (a0_0 : Int) (a0_1 : Int) (a0_2 : Int) (a0_3 : Int) (a0_4 : Int) (a0_5 : Int) (a1_0 : Int) (a1_1 : Int) (a1_2 : Int) (a1_3 : Int) (a1_4 : Int) (a1_5 : Int) : Option (Bool) := (laws_eqMat.f a0_0 a0_1 a0_2 a0_3 a1_0 a1_1 a1_2 a1_3).bind fun t447 => (if t447 = true then ((laws_eqVec.f a0_4 a0_5 a1_4 a1_5).bind fun t448 => (if t448 = true then (some true) else (some false))) else (some false))
set_option maxHeartbeats 8000000 in
set_option maxRecDepth 100000 in
theorem laws_eqMotion.calls (a0_0 : Int) (a0_1 : Int) (a0_2 : Int) (a0_3 : Int) (a0_4 : Int) (a0_5 : Int) (a1_0 : Int) (a1_1 : Int) (a1_2 : Int) (a1_3 : Int) (a1_4 : Int) (a1_5 : Int) (r : Bool) (w : World) (h : laws_eqMotion.f a0_0 a0_1 a0_2 a0_3 a0_4 a0_5 a1_0 a1_1 a1_2 a1_3 a1_4 a1_5 = some r) :
  Calls Try.prog 16 #[.agg #[.int .i64 a0_0, .int .i64 a0_1, .int .i64 a0_2, .int .i64 a0_3, .int .i64 a0_4, .int .i64 a0_5], .agg #[.int .i64 a1_0, .int .i64 a1_1, .int .i64 a1_2, .int .i64 a1_3, .int .i64 a1_4, .int .i64 a1_5]] w fun e w' => e = .returned (.bool r) ∧ Below w.heap.size w w' := by
 have hu41 := Try.underlying41
 have hu37 := Try.underlying37
 have hu39 := Try.underlying39
 have HB := asd (Below.refl w.heap.size w)
 have H : ((laws_eqMat.f a0_0 a0_1 a0_2 a0_3 a1_0 a1_1 a1_2 a1_3).bind fun t447 => (if t447 = true then ((laws_eqVec.f a0_4 a0_5 a1_4 a1_5).bind fun t448 => (if t448 = true then (some true) else (some false))) else (some false))) = some r := h
 clear h
 obtain ⟨t447, A3, H⟩ := ob H
 try dsimp only at H
 by_cases c4 : t447 = true
 subst c4
 replace H := ifT H
 obtain ⟨t448, A5, H⟩ := ob H
 try dsimp only at H
 by_cases c6 : t448 = true
 subst c6
 replace H := ifT H
 obtain rfl := Option.some.inj H
 rotate_left
 replace c6 := Bool.eq_false_iff.mpr c6
 subst c6
 replace H := ifF H
 obtain rfl := Option.some.inj H
 rotate_left
 replace c4 := Bool.eq_false_iff.mpr c4
 subst c4
 replace H := ifF H
 obtain rfl := Option.some.inj H
 rotate_left
 all_goals
  go_enter Try.func16, Try.ntmps16
 rotate_left 2
 ·go_wp2_with (first | ((with_reducible refine gd 2 rfl ?_); refine bx #[.int .i64 a0_0, .int .i64 a0_1, .int .i64 a0_2, .int .i64 a0_3, .int .i64 a0_4, .int .i64 a0_5] 41 ?_; intro gb445 hg w25 BK445 hb; have GE445 := ngw0 hg HB; replace HB := bS0 HB hb; clear hb hg) | ((with_reducible refine gd 3 rfl ?_); refine bx #[.int .i64 a1_0, .int .i64 a1_1, .int .i64 a1_2, .int .i64 a1_3, .int .i64 a1_4, .int .i64 a1_5] 41 ?_; intro gb446 hg w26 BK446 hb; have GE446 := ngw1 hg HB GE445; replace HB := bS1 HB GE445 hb; have NB445_446 := nlt hg BK445; have NB446_445 := nsy (nlt hg BK445); replace BK445 := bB BK445 hb; clear hb hg; have hnb27 := NB445_446.out; have hnc27 := NB446_445.out; obtain ⟨hcz28_0, hcz28_1, hcz28_2, hcz28_3, hcz28_4, hcz28_5, hfz28_0, hfz28_1, hfz28_2, hfz28_3, hfz28_4, hfz28_5⟩ := bz6 BK445; obtain ⟨hcz29_0, hcz29_1, hcz29_2, hcz29_3, hcz29_4, hcz29_5, hfz29_0, hfz29_1, hfz29_2, hfz29_3, hfz29_4, hfz29_5⟩ := bz6 BK446) | ((with_reducible refine gate_callee (f := 27) rfl ?_); refine gl 9 Try.func27 #[.agg #[.int .i64 a0_0, .int .i64 a0_1, .int .i64 a0_2, .int .i64 a0_3], .agg #[.int .i64 a1_0, .int .i64 a1_1, .int .i64 a1_2, .int .i64 a1_3]] ?_; (with_reducible refine (laws_eqMat.calls _ _ _ _ _ _ _ _ _ _ A3.out).mono ?_); rintro e w30 ⟨rfl, hb⟩; refine ⟨_, rfl, ?_⟩; replace BK445 := bB BK445 hb; replace BK446 := bB BK446 hb; replace HB := bS2 HB GE445 GE446 hb; (try clear hb)))
  go_ret
  exact er (bbw2 HB GE445 GE446)
 all_goals
  go_wp2_with (first | ((with_reducible refine gd 2 rfl ?_); refine bx #[.int .i64 a0_0, .int .i64 a0_1, .int .i64 a0_2, .int .i64 a0_3, .int .i64 a0_4, .int .i64 a0_5] 41 ?_; intro gb445 hg w7 BK445 hb; have GE445 := ngw0 hg HB; replace HB := bS0 HB hb; clear hb hg) | ((with_reducible refine gd 3 rfl ?_); refine bx #[.int .i64 a1_0, .int .i64 a1_1, .int .i64 a1_2, .int .i64 a1_3, .int .i64 a1_4, .int .i64 a1_5] 41 ?_; intro gb446 hg w8 BK446 hb; have GE446 := ngw1 hg HB GE445; replace HB := bS1 HB GE445 hb; have NB445_446 := nlt hg BK445; have NB446_445 := nsy (nlt hg BK445); replace BK445 := bB BK445 hb; clear hb hg; have hnb9 := NB445_446.out; have hnc9 := NB446_445.out; obtain ⟨hcz10_0, hcz10_1, hcz10_2, hcz10_3, hcz10_4, hcz10_5, hfz10_0, hfz10_1, hfz10_2, hfz10_3, hfz10_4, hfz10_5⟩ := bz6 BK445; obtain ⟨hcz11_0, hcz11_1, hcz11_2, hcz11_3, hcz11_4, hcz11_5, hfz11_0, hfz11_1, hfz11_2, hfz11_3, hfz11_4, hfz11_5⟩ := bz6 BK446) | ((with_reducible refine gate_callee (f := 27) rfl ?_); refine gl 9 Try.func27 #[.agg #[.int .i64 a0_0, .int .i64 a0_1, .int .i64 a0_2, .int .i64 a0_3], .agg #[.int .i64 a1_0, .int .i64 a1_1, .int .i64 a1_2, .int .i64 a1_3]] ?_; (with_reducible refine (laws_eqMat.calls _ _ _ _ _ _ _ _ _ _ A3.out).mono ?_); rintro e w12 ⟨rfl, hb⟩; refine ⟨_, rfl, ?_⟩; replace BK445 := bB BK445 hb; replace BK446 := bB BK446 hb; replace HB := bS2 HB GE445 GE446 hb; (try clear hb); obtain ⟨hcz13_0, hcz13_1, hcz13_2, hcz13_3, hcz13_4, hcz13_5, hfz13_0, hfz13_1, hfz13_2, hfz13_3, hfz13_4, hfz13_5⟩ := bz6 BK445; obtain ⟨hcz14_0, hcz14_1, hcz14_2, hcz14_3, hcz14_4, hcz14_5, hfz14_0, hfz14_1, hfz14_2, hfz14_3, hfz14_4, hfz14_5⟩ := bz6 BK446) | ((with_reducible refine gate_callee (f := 28) rfl ?_); refine gl 15 Try.func28 #[.agg #[.int .i64 a0_4, .int .i64 a0_5], .agg #[.int .i64 a1_4, .int .i64 a1_5]] ?_; (with_reducible refine (laws_eqVec.calls _ _ _ _ _ _ A5.out).mono ?_); rintro e w15 ⟨rfl, hb⟩; refine ⟨_, rfl, ?_⟩; replace BK445 := bB BK445 hb; replace BK446 := bB BK446 hb; replace HB := bS2 HB GE445 GE446 hb; (try clear hb)))
  go_ret
  exact er (bbw2 HB GE445 GE446)
/-! ### laws_eqMotionS: function 7 -/
def laws_eqMotionS.l0 : Nat → List (S41) → List (S41) → Int → Option (Bool)
 | 0, _, _, _ => none
 | k + 1, x0, x1, x5 => if x5 < (x0.length : Int) then (if 0 ≤ x5 then (if x5 < (x1.length : Int) then ((laws_eqMotion.f ((rd_T41 x0 x5).f0.f0) ((rd_T41 x0 x5).f0.f1) ((rd_T41 x0 x5).f0.f2) ((rd_T41 x0 x5).f0.f3) ((rd_T41 x0 x5).f1.f0) ((rd_T41 x0 x5).f1.f1) ((rd_T41 x1 x5).f0.f0) ((rd_T41 x1 x5).f0.f1) ((rd_T41 x1 x5).f0.f2) ((rd_T41 x1 x5).f0.f3) ((rd_T41 x1 x5).f1.f0) ((rd_T41 x1 x5).f1.f1)).bind fun t451 => (if t451 = true then (laws_eqMotionS.l0 k x0 x1 (wrap64 (x5 + 1))) else (some false))) else (none)) else (none)) else (some true)
def laws_eqMotionS.f (k : Nat) (l0 : List (S41)) (l1 : List (S41)) : Option (Bool) := if (l0.length : Int) = (l1.length : Int) then (laws_eqMotionS.l0 k l0 l1 0) else (some false)
def laws_eqMotionS.T6 : Bool × List (List Nat × List Nat) := (true, [([], []), ([], []), ([0, 1], [0, 1]), ([2], [2]), ([], []), ([], []), ([4, 5], [4, 5]), ([6], [6]), ([3, 7], [3, 7]), ([8], [8])])
def laws_eqMotionS.B6 : List Nat := [0, 0, 3, 7, 0, 0, 48, 112, 255, 511]
theorem laws_eqMotionS.tab6 : rtab .any (opsOf Try.f7 6) = laws_eqMotionS.T6 := by kernel_rfl
theorem laws_eqMotionS.bits6 : waitsOk laws_eqMotionS.T6.2 laws_eqMotionS.B6 = true := by kernel_rfl
set_option maxHeartbeats 8000000 in
set_option maxRecDepth 100000 in
theorem laws_eqMotionS.calls (k : Nat) (A0 : Option Addr) (c0 : Nat) (l0 : List (S41)) (A1 : Option Addr) (c1 : Nat) (l1 : List (S41)) (r : Bool) (w : World) (hr0 : Kd.C k41 w A0 l0.length l0) (hc0 : l0.length ≤ c0) (hr1 : Kd.C k41 w A1 l1.length l1) (hc1 : l1.length ≤ c1) (h : laws_eqMotionS.f k l0 l1 = some r) :
  Calls Try.prog 7 #[.slice A0 l0.length c0, .slice A1 l1.length c1] w fun e w' => e = .returned (.bool r) ∧ Below w.heap.size w w' := by
 have hu41 := Try.underlying41
 have HR0 := Aside0.mk hr0
 have HC0 := Aside0.mk hc0
 clear hr0 hc0
 have HR1 := Aside0.mk hr1
 have HC1 := Aside0.mk hc1
 clear hr1 hc1
 have HB := asd (Below.refl w.heap.size w)
 have H : (if (l0.length : Int) = (l1.length : Int) then (laws_eqMotionS.l0 k l0 l1 0) else (some false)) = some r := h
 clear h
 by_cases c3 : (l0.length : Int) = (l1.length : Int)
 ·rw [if_pos c3] at H
  have c3b0 : ((l0.length : Int) == (l1.length : Int)) = true := beq_iff_eq.mpr c3
  have c3b1 : ((l0.length : Int) != (l1.length : Int)) = false := bne_eq_false_iff_eq.mpr c3
  have c3b2 : (l0.length == l1.length) = true := by first | simpa using c3 | (simp at c3 ⊢; omega)
  clear c3
  have H' := Aside0.mk H
  clear H
  go_enter Try.func7, Try.ntmps7
  go_wp2
  go_loopg [5] k (fun kq v5 w' => ∃ (x5_1 : Int), v5 = .int .i64 x5_1 ∧ Aside0 (laws_eqMotionS.l0 kq l0 l1 x5_1 = some r) ∧ Aside0 (kq ≤ k) ∧ Aside0 (Below w.heap.size w w'))
  case atStart => exact ⟨(0), (by first | rfl | (simp; done) | (simp [*]; done)), H', ⟨Nat.le_refl _⟩, ⟨bbw0 HB⟩⟩
  case round =>
   clear H'
   try clear c1
   try clear p2
   try clear c3
   try clear c3b0
   try clear c3b1
   try clear c3b2
   obtain ⟨x5_1, rfl, HA, HK1, HB⟩ := hrel
   cases gk with
   | zero => exact absurd HA.out (by simp [laws_eqMotionS.l0])
   | succ k1 =>
    have H := HA.out
    clear HA
    simp only [laws_eqMotionS.l0] at H
    by_cases c4 : x5_1 < (l0.length : Int)
    rw [if_pos c4] at H
    have c4b0 := decide_eq_true c4
    clear c4
    by_cases c5 : 0 ≤ x5_1
    rw [if_pos c5] at H
    have c5b0 := decide_eq_true c5
    clear c5
    by_cases c6 : x5_1 < (l1.length : Int)
    rw [if_pos c6] at H
    have c6b0 := decide_eq_true c6
    clear c6
    obtain ⟨t451, A7, H⟩ := ob H
    try dsimp only at H
    by_cases c8 : t451 = true
    subst c8
    replace H := ifT H
    have H' := Aside0.mk H
    clear H
    rotate_left
    replace c8 := Bool.eq_false_iff.mpr c8
    subst c8
    replace H := ifF H
    obtain rfl := Option.some.inj H
    rotate_left
    ·rw [if_neg c6] at H
     exact absurd H (by simp)
    ·rw [if_neg c5] at H
     exact absurd H (by simp)
    rw [if_neg c4] at H
    have c4b0 := decide_eq_false c4
    clear c4
    obtain rfl := Option.some.inj H
    rotate_left
    rotate_left 2
    ·go_wp2
     go_ret
     exact er (bbw0 HB)
    all_goals
     try go_wp2
     replace HB := asd (below_drew1 HB.out)
     obtain ⟨p449, q449, ad449, e449, hw449_0, hw449_1, hw449_2, hw449_3, hw449_4, hw449_5, hx449_0, hx449_1, hx449_2, hx449_3, hx449_4, hx449_5⟩ := at_T41w HR0.out HB x5_1
     cases e449
     obtain ⟨p450, q450, ad450, e450, hw450_0, hw450_1, hw450_2, hw450_3, hw450_4, hw450_5, hx450_0, hx450_1, hx450_2, hx450_3, hx450_4, hx450_5⟩ := at_T41w HR1.out HB x5_1
     cases e450
     refine sh 10 (cx6 HB hw449_0 hw449_1 hw449_2 hw449_3 hw449_4 hw449_5 (ex6 HB hw450_0 hw450_1 hw450_2 hw450_3 hw450_4 hw450_5)) (fun hHeld => ?_); refine with_tabW laws_eqMotionS.tab6 laws_eqMotionS.bits6 (fun HT_ HW_ => ?_)
     generalize wr.drew = w9 at HB hx449_0 hx449_1 hx449_2 hx449_3 hx449_4 hx449_5 hx450_0 hx450_1 hx450_2 hx450_3 hx450_4 hx450_5 hHeld ⊢
     refine pu 0 (some 17) (bT 10 1) HT_ ?_
     refine pu 1 (some 18) (bT 10 2) HT_ ?_
     refine pu 2 (some 19) (bT 10 3) HT_ ?_
     refine pu 4 (some 21) (bs 10 23) HT_ ?_
     refine pu 5 (some 22) (bs 10 55) HT_ ?_
     refine pu 6 (some 23) (bs 10 119) HT_ ?_
     refine ta 3 (some 20) (bT 10 7) HT_ HW_ hHeld ?_
     refine ta 7 (some 24) (bT 10 8) HT_ HW_ hHeld ?_
     refine ro 8 (some 25) (bT 10 9) HT_ (fun K hK => ?_)
     refine gs Try.func16 #[.agg #[.int .i64 ((rd_T41 l0 x5_1).f0.f0), .int .i64 ((rd_T41 l0 x5_1).f0.f1), .int .i64 ((rd_T41 l0 x5_1).f0.f2), .int .i64 ((rd_T41 l0 x5_1).f0.f3), .int .i64 ((rd_T41 l0 x5_1).f1.f0), .int .i64 ((rd_T41 l0 x5_1).f1.f1)], .agg #[.int .i64 ((rd_T41 l1 x5_1).f0.f0), .int .i64 ((rd_T41 l1 x5_1).f0.f1), .int .i64 ((rd_T41 l1 x5_1).f0.f2), .int .i64 ((rd_T41 l1 x5_1).f0.f3), .int .i64 ((rd_T41 l1 x5_1).f1.f0), .int .i64 ((rd_T41 l1 x5_1).f1.f1)]] ?_
     with_reducible refine (laws_eqMotion.calls _ _ _ _ _ _ _ _ _ _ _ _ _ _ A7.out).mono ?_
     rintro e w10 ⟨rfl, hb⟩
     refine ⟨_, rfl, ?_⟩
     replace HB := bS0 HB hb
     (try clear hb)
     (try clear hb2)
     (try clear hk)
     (try clear hi)
     refine hK.out _ _ (cx6 HB hw449_0 hw449_1 hw449_2 hw449_3 hw449_4 hw449_5 (ex6 HB hw450_0 hw450_1 hw450_2 hw450_3 hw450_4 hw450_5)).out (fun hHeld => ?_)
     clear hK K
     refine norm_ (a' := ?_) ?_ ?_
     rotate_left
     ·show Act.put _ (some 25) _ = _
      simp only [Act.put, sA, sB, sC, i64_w, i32_w]
      rfl
     refine pu 9 (some 26) (bT 10 10) HT_ ?_
     refine done_ (done_of HT_.out (by kernel_rfl)) ?_
     try go_wp2
    ·go_roundg k1
     case measure => have := HK1.out; omega
     case rel => exact ⟨(wrap64 (x5_1 + 1)), (by first | rfl | (simp; done) | (simp [*]; done)), H', ⟨by have := HK1.out; omega⟩, ⟨bbw0 HB⟩⟩
    ·go_ret
     exact er (bbw0 HB)
 ·rw [if_neg c3] at H
  have c3b0 : ((l0.length : Int) == (l1.length : Int)) = false := beq_eq_false_iff_ne.mpr c3
  have c3b1 : ((l0.length : Int) != (l1.length : Int)) = true := bne_iff_ne.mpr c3
  have c3b2 : (l0.length == l1.length) = false := by first | simpa using c3 | (simp at c3 ⊢; omega)
  obtain rfl := Option.some.inj H
  go_enter Try.func7, Try.ntmps7
  go_wp2
  go_ret
  exact er (bbw0 HB)
/-! ### laws_markMotionS: function 8 -/
def laws_markMotionS.l0 : Nat → List (S41) → Int → Int → Option (Int × (List (S41)))
 | 0, _, _, _ => none
 | k + 1, x0, x1, x5 => if x5 < (x0.length : Int) then (if 0 ≤ x5 then ((some (x0.set (x5 : Int).toNat (⟨(⟨x1, (rd_T41 x0 x5).f0.f1, (rd_T41 x0 x5).f0.f2, (rd_T41 x0 x5).f0.f3⟩ : S37), (⟨(rd_T41 x0 x5).f1.f0, (rd_T41 x0 x5).f1.f1⟩ : S39)⟩ : S41) : List (S41))).bind fun y452 => ((some (y452.set (x5 : Int).toNat (⟨(⟨(rd_T41 y452 x5).f0.f0, wrap64 (x1 + 1), (rd_T41 y452 x5).f0.f2, (rd_T41 y452 x5).f0.f3⟩ : S37), (⟨(rd_T41 y452 x5).f1.f0, (rd_T41 y452 x5).f1.f1⟩ : S39)⟩ : S41) : List (S41))).bind fun y453 => ((some (y453.set (x5 : Int).toNat (⟨(⟨(rd_T41 y453 x5).f0.f0, (rd_T41 y453 x5).f0.f1, wrap64 ((wrap64 (x1 + 1)) + 1), (rd_T41 y453 x5).f0.f3⟩ : S37), (⟨(rd_T41 y453 x5).f1.f0, (rd_T41 y453 x5).f1.f1⟩ : S39)⟩ : S41) : List (S41))).bind fun y454 => ((some (y454.set (x5 : Int).toNat (⟨(⟨(rd_T41 y454 x5).f0.f0, (rd_T41 y454 x5).f0.f1, (rd_T41 y454 x5).f0.f2, wrap64 ((wrap64 ((wrap64 (x1 + 1)) + 1)) + 1)⟩ : S37), (⟨(rd_T41 y454 x5).f1.f0, (rd_T41 y454 x5).f1.f1⟩ : S39)⟩ : S41) : List (S41))).bind fun y455 => ((some (y455.set (x5 : Int).toNat (⟨(⟨(rd_T41 y455 x5).f0.f0, (rd_T41 y455 x5).f0.f1, (rd_T41 y455 x5).f0.f2, (rd_T41 y455 x5).f0.f3⟩ : S37), (⟨wrap64 ((wrap64 ((wrap64 ((wrap64 (x1 + 1)) + 1)) + 1)) + 1), (rd_T41 y455 x5).f1.f1⟩ : S39)⟩ : S41) : List (S41))).bind fun y456 => (laws_markMotionS.l0 k (y456.set (x5 : Int).toNat (⟨(⟨(rd_T41 y456 x5).f0.f0, (rd_T41 y456 x5).f0.f1, (rd_T41 y456 x5).f0.f2, (rd_T41 y456 x5).f0.f3⟩ : S37), (⟨(rd_T41 y456 x5).f1.f0, wrap64 ((wrap64 ((wrap64 ((wrap64 ((wrap64 (x1 + 1)) + 1)) + 1)) + 1)) + 1)⟩ : S39)⟩ : S41)) (wrap64 ((wrap64 ((wrap64 ((wrap64 ((wrap64 ((wrap64 (x1 + 1)) + 1)) + 1)) + 1)) + 1)) + 1)) (wrap64 (x5 + 1)))))))) else (none)) else (some (x1, x0))
def laws_markMotionS.f (k : Nat) (l0 : List (S41)) (a1 : Int) : Option (Int × (List (S41))) := laws_markMotionS.l0 k l0 a1 0
set_option maxHeartbeats 8000000 in
set_option maxRecDepth 100000 in
theorem laws_markMotionS.calls (k : Nat) (P0_ : Nat → Prop) (u9000_ : Value) (l0 : List (S41)) (a1 : Int) (r1 : Int) (r2 : List (S41)) (w0 w : World) (hB : Below w0.heap.size w0 w) (ho0 : Kd.R k41 41 w w0.heap.size P0_ u9000_ l0) (h : laws_markMotionS.f k l0 a1 = some (r1, r2)) :
  Calls Try.prog 8 #[u9000_, .int .i64 a1] w fun e w' => e = .returned (.int .i64 r1) ∧ Kd.R k41 41 w' w0.heap.size (fun k_ => (P0_ k_ ∨ w.heap.size ≤ k_)) u9000_ r2 ∧ Below w0.heap.size w0 w' ∧ Kept w w' (fun k_ => P0_ k_) := by
 have HO0 := asd (show Kd.R k41 41 w w0.heap.size (fun k_ => (P0_ k_ ∨ w.heap.size ≤ k_)) u9000_ l0 from Kd.R_mono ho0 (fun k_ hk => (.inl hk)))
 have HK := asd (Kept.refl w (fun k_ => P0_ k_))
 have HW0 := Aside0.mk hB.size
 have HB := Aside0.mk hB
 clear hB
 have H : (laws_markMotionS.l0 k l0 a1 0) = some (r1, r2) := h
 clear h
 have H' := Aside0.mk H
 clear H
 go_enter Try.func8, Try.ntmps8
 go_wp2
 go_loopg [1, 5] k (fun kq v1 v5 w' => ∃ (x0_1 : List (S41)) (x1_1 : Int) (x5_1 : Int), v1 = .int .i64 x1_1 ∧ v5 = .int .i64 x5_1 ∧ Aside0 (laws_markMotionS.l0 kq x0_1 x1_1 x5_1 = some (r1, r2)) ∧ Aside0 (kq ≤ k) ∧ Aside0 (Kd.R k41 41 w' w0.heap.size (fun k_ => (P0_ k_ ∨ w.heap.size ≤ k_)) u9000_ x0_1) ∧ Aside0 (Kept w w' (fun k_ => P0_ k_)) ∧ Aside0 (Below w0.heap.size w0 w'))
 case atStart => exact ⟨(l0), (a1), (0), (by first | rfl | (simp; done) | (simp [*]; done)), (by first | rfl | (simp; done) | (simp [*]; done)), H', ⟨Nat.le_refl _⟩, ⟨by (with_reducible repeat (first | apply Kd.R_alloc | apply Kd.R_drewN | apply Kd.R_drew)); exact HO0.out⟩, ⟨by repeat (first | (with_reducible first | exact HK.out | apply Kept.alloc | apply Kept.drewN | apply Kept.drew) | exact HK.out)⟩, ⟨bbw0 HB⟩⟩
 case round =>
  clear H'
  try clear p2
  obtain ⟨x0_1, x1_1, x5_1, rfl, rfl, HA, HK1, HO_0, HK, HB⟩ := hrel
  cases gk with
  | zero => exact absurd HA.out (by simp [laws_markMotionS.l0])
  | succ k1 =>
   have H := HA.out
   clear HA
   simp only [laws_markMotionS.l0] at H
   by_cases c3 : x5_1 < (x0_1.length : Int)
   ·rw [if_pos c3] at H
    have c3b0 := decide_eq_true c3
    clear c3
    by_cases c4 : 0 ≤ x5_1
    ·rw [if_pos c4] at H
     have c4b0 := decide_eq_true c4
     clear c4
     obtain ⟨y452, hy452⟩ : ∃ y_ : List (S41), y_ = (x0_1.set (x5_1 : Int).toNat (⟨(⟨x1_1, (rd_T41 x0_1 x5_1).f0.f1, (rd_T41 x0_1 x5_1).f0.f2, (rd_T41 x0_1 x5_1).f0.f3⟩ : S37), (⟨(rd_T41 x0_1 x5_1).f1.f0, (rd_T41 x0_1 x5_1).f1.f1⟩ : S39)⟩ : S41)) := ⟨_, rfl⟩
     replace H : ((some (y452.set (x5_1 : Int).toNat (⟨(⟨(rd_T41 y452 x5_1).f0.f0, wrap64 (x1_1 + 1), (rd_T41 y452 x5_1).f0.f2, (rd_T41 y452 x5_1).f0.f3⟩ : S37), (⟨(rd_T41 y452 x5_1).f1.f0, (rd_T41 y452 x5_1).f1.f1⟩ : S39)⟩ : S41) : List (S41))).bind fun y453 => ((some (y453.set (x5_1 : Int).toNat (⟨(⟨(rd_T41 y453 x5_1).f0.f0, (rd_T41 y453 x5_1).f0.f1, wrap64 ((wrap64 (x1_1 + 1)) + 1), (rd_T41 y453 x5_1).f0.f3⟩ : S37), (⟨(rd_T41 y453 x5_1).f1.f0, (rd_T41 y453 x5_1).f1.f1⟩ : S39)⟩ : S41) : List (S41))).bind fun y454 => ((some (y454.set (x5_1 : Int).toNat (⟨(⟨(rd_T41 y454 x5_1).f0.f0, (rd_T41 y454 x5_1).f0.f1, (rd_T41 y454 x5_1).f0.f2, wrap64 ((wrap64 ((wrap64 (x1_1 + 1)) + 1)) + 1)⟩ : S37), (⟨(rd_T41 y454 x5_1).f1.f0, (rd_T41 y454 x5_1).f1.f1⟩ : S39)⟩ : S41) : List (S41))).bind fun y455 => ((some (y455.set (x5_1 : Int).toNat (⟨(⟨(rd_T41 y455 x5_1).f0.f0, (rd_T41 y455 x5_1).f0.f1, (rd_T41 y455 x5_1).f0.f2, (rd_T41 y455 x5_1).f0.f3⟩ : S37), (⟨wrap64 ((wrap64 ((wrap64 ((wrap64 (x1_1 + 1)) + 1)) + 1)) + 1), (rd_T41 y455 x5_1).f1.f1⟩ : S39)⟩ : S41) : List (S41))).bind fun y456 => (laws_markMotionS.l0 k1 (y456.set (x5_1 : Int).toNat (⟨(⟨(rd_T41 y456 x5_1).f0.f0, (rd_T41 y456 x5_1).f0.f1, (rd_T41 y456 x5_1).f0.f2, (rd_T41 y456 x5_1).f0.f3⟩ : S37), (⟨(rd_T41 y456 x5_1).f1.f0, wrap64 ((wrap64 ((wrap64 ((wrap64 ((wrap64 (x1_1 + 1)) + 1)) + 1)) + 1)) + 1)⟩ : S39)⟩ : S41)) (wrap64 ((wrap64 ((wrap64 ((wrap64 ((wrap64 ((wrap64 (x1_1 + 1)) + 1)) + 1)) + 1)) + 1)) + 1)) (wrap64 (x5_1 + 1))))))) = some (r1, r2) := by first | (rw [hy452]; with_reducible exact H) | (have H2_ := (Option.bind_some _ _).symm.trans H; rw [hy452]; with_reducible exact H2_) | (have H2_ := (Option.bind_some _ _).symm.trans H; with_reducible exact H2_) | with_reducible exact H | (rw [hy452]; exact H) | exact H
     have Ny452 := Aside0.mk hy452
     clear hy452
     obtain ⟨y453, hy453⟩ : ∃ y_ : List (S41), y_ = (y452.set (x5_1 : Int).toNat (⟨(⟨(rd_T41 y452 x5_1).f0.f0, wrap64 (x1_1 + 1), (rd_T41 y452 x5_1).f0.f2, (rd_T41 y452 x5_1).f0.f3⟩ : S37), (⟨(rd_T41 y452 x5_1).f1.f0, (rd_T41 y452 x5_1).f1.f1⟩ : S39)⟩ : S41)) := ⟨_, rfl⟩
     replace H : ((some (y453.set (x5_1 : Int).toNat (⟨(⟨(rd_T41 y453 x5_1).f0.f0, (rd_T41 y453 x5_1).f0.f1, wrap64 ((wrap64 (x1_1 + 1)) + 1), (rd_T41 y453 x5_1).f0.f3⟩ : S37), (⟨(rd_T41 y453 x5_1).f1.f0, (rd_T41 y453 x5_1).f1.f1⟩ : S39)⟩ : S41) : List (S41))).bind fun y454 => ((some (y454.set (x5_1 : Int).toNat (⟨(⟨(rd_T41 y454 x5_1).f0.f0, (rd_T41 y454 x5_1).f0.f1, (rd_T41 y454 x5_1).f0.f2, wrap64 ((wrap64 ((wrap64 (x1_1 + 1)) + 1)) + 1)⟩ : S37), (⟨(rd_T41 y454 x5_1).f1.f0, (rd_T41 y454 x5_1).f1.f1⟩ : S39)⟩ : S41) : List (S41))).bind fun y455 => ((some (y455.set (x5_1 : Int).toNat (⟨(⟨(rd_T41 y455 x5_1).f0.f0, (rd_T41 y455 x5_1).f0.f1, (rd_T41 y455 x5_1).f0.f2, (rd_T41 y455 x5_1).f0.f3⟩ : S37), (⟨wrap64 ((wrap64 ((wrap64 ((wrap64 (x1_1 + 1)) + 1)) + 1)) + 1), (rd_T41 y455 x5_1).f1.f1⟩ : S39)⟩ : S41) : List (S41))).bind fun y456 => (laws_markMotionS.l0 k1 (y456.set (x5_1 : Int).toNat (⟨(⟨(rd_T41 y456 x5_1).f0.f0, (rd_T41 y456 x5_1).f0.f1, (rd_T41 y456 x5_1).f0.f2, (rd_T41 y456 x5_1).f0.f3⟩ : S37), (⟨(rd_T41 y456 x5_1).f1.f0, wrap64 ((wrap64 ((wrap64 ((wrap64 ((wrap64 (x1_1 + 1)) + 1)) + 1)) + 1)) + 1)⟩ : S39)⟩ : S41)) (wrap64 ((wrap64 ((wrap64 ((wrap64 ((wrap64 ((wrap64 (x1_1 + 1)) + 1)) + 1)) + 1)) + 1)) + 1)) (wrap64 (x5_1 + 1)))))) = some (r1, r2) := by first | (rw [hy453]; with_reducible exact H) | (have H2_ := (Option.bind_some _ _).symm.trans H; rw [hy453]; with_reducible exact H2_) | (have H2_ := (Option.bind_some _ _).symm.trans H; with_reducible exact H2_) | with_reducible exact H | (rw [hy453]; exact H) | exact H
     have Ny453 := Aside0.mk hy453
     clear hy453
     obtain ⟨y454, hy454⟩ : ∃ y_ : List (S41), y_ = (y453.set (x5_1 : Int).toNat (⟨(⟨(rd_T41 y453 x5_1).f0.f0, (rd_T41 y453 x5_1).f0.f1, wrap64 ((wrap64 (x1_1 + 1)) + 1), (rd_T41 y453 x5_1).f0.f3⟩ : S37), (⟨(rd_T41 y453 x5_1).f1.f0, (rd_T41 y453 x5_1).f1.f1⟩ : S39)⟩ : S41)) := ⟨_, rfl⟩
     replace H : ((some (y454.set (x5_1 : Int).toNat (⟨(⟨(rd_T41 y454 x5_1).f0.f0, (rd_T41 y454 x5_1).f0.f1, (rd_T41 y454 x5_1).f0.f2, wrap64 ((wrap64 ((wrap64 (x1_1 + 1)) + 1)) + 1)⟩ : S37), (⟨(rd_T41 y454 x5_1).f1.f0, (rd_T41 y454 x5_1).f1.f1⟩ : S39)⟩ : S41) : List (S41))).bind fun y455 => ((some (y455.set (x5_1 : Int).toNat (⟨(⟨(rd_T41 y455 x5_1).f0.f0, (rd_T41 y455 x5_1).f0.f1, (rd_T41 y455 x5_1).f0.f2, (rd_T41 y455 x5_1).f0.f3⟩ : S37), (⟨wrap64 ((wrap64 ((wrap64 ((wrap64 (x1_1 + 1)) + 1)) + 1)) + 1), (rd_T41 y455 x5_1).f1.f1⟩ : S39)⟩ : S41) : List (S41))).bind fun y456 => (laws_markMotionS.l0 k1 (y456.set (x5_1 : Int).toNat (⟨(⟨(rd_T41 y456 x5_1).f0.f0, (rd_T41 y456 x5_1).f0.f1, (rd_T41 y456 x5_1).f0.f2, (rd_T41 y456 x5_1).f0.f3⟩ : S37), (⟨(rd_T41 y456 x5_1).f1.f0, wrap64 ((wrap64 ((wrap64 ((wrap64 ((wrap64 (x1_1 + 1)) + 1)) + 1)) + 1)) + 1)⟩ : S39)⟩ : S41)) (wrap64 ((wrap64 ((wrap64 ((wrap64 ((wrap64 ((wrap64 (x1_1 + 1)) + 1)) + 1)) + 1)) + 1)) + 1)) (wrap64 (x5_1 + 1))))) = some (r1, r2) := by first | (rw [hy454]; with_reducible exact H) | (have H2_ := (Option.bind_some _ _).symm.trans H; rw [hy454]; with_reducible exact H2_) | (have H2_ := (Option.bind_some _ _).symm.trans H; with_reducible exact H2_) | with_reducible exact H | (rw [hy454]; exact H) | exact H
     have Ny454 := Aside0.mk hy454
     clear hy454
     obtain ⟨y455, hy455⟩ : ∃ y_ : List (S41), y_ = (y454.set (x5_1 : Int).toNat (⟨(⟨(rd_T41 y454 x5_1).f0.f0, (rd_T41 y454 x5_1).f0.f1, (rd_T41 y454 x5_1).f0.f2, wrap64 ((wrap64 ((wrap64 (x1_1 + 1)) + 1)) + 1)⟩ : S37), (⟨(rd_T41 y454 x5_1).f1.f0, (rd_T41 y454 x5_1).f1.f1⟩ : S39)⟩ : S41)) := ⟨_, rfl⟩
     replace H : ((some (y455.set (x5_1 : Int).toNat (⟨(⟨(rd_T41 y455 x5_1).f0.f0, (rd_T41 y455 x5_1).f0.f1, (rd_T41 y455 x5_1).f0.f2, (rd_T41 y455 x5_1).f0.f3⟩ : S37), (⟨wrap64 ((wrap64 ((wrap64 ((wrap64 (x1_1 + 1)) + 1)) + 1)) + 1), (rd_T41 y455 x5_1).f1.f1⟩ : S39)⟩ : S41) : List (S41))).bind fun y456 => (laws_markMotionS.l0 k1 (y456.set (x5_1 : Int).toNat (⟨(⟨(rd_T41 y456 x5_1).f0.f0, (rd_T41 y456 x5_1).f0.f1, (rd_T41 y456 x5_1).f0.f2, (rd_T41 y456 x5_1).f0.f3⟩ : S37), (⟨(rd_T41 y456 x5_1).f1.f0, wrap64 ((wrap64 ((wrap64 ((wrap64 ((wrap64 (x1_1 + 1)) + 1)) + 1)) + 1)) + 1)⟩ : S39)⟩ : S41)) (wrap64 ((wrap64 ((wrap64 ((wrap64 ((wrap64 ((wrap64 (x1_1 + 1)) + 1)) + 1)) + 1)) + 1)) + 1)) (wrap64 (x5_1 + 1)))) = some (r1, r2) := by first | (rw [hy455]; with_reducible exact H) | (have H2_ := (Option.bind_some _ _).symm.trans H; rw [hy455]; with_reducible exact H2_) | (have H2_ := (Option.bind_some _ _).symm.trans H; with_reducible exact H2_) | with_reducible exact H | (rw [hy455]; exact H) | exact H
     have Ny455 := Aside0.mk hy455
     clear hy455
     obtain ⟨y456, hy456⟩ : ∃ y_ : List (S41), y_ = (y455.set (x5_1 : Int).toNat (⟨(⟨(rd_T41 y455 x5_1).f0.f0, (rd_T41 y455 x5_1).f0.f1, (rd_T41 y455 x5_1).f0.f2, (rd_T41 y455 x5_1).f0.f3⟩ : S37), (⟨wrap64 ((wrap64 ((wrap64 ((wrap64 (x1_1 + 1)) + 1)) + 1)) + 1), (rd_T41 y455 x5_1).f1.f1⟩ : S39)⟩ : S41)) := ⟨_, rfl⟩
     replace H : (laws_markMotionS.l0 k1 (y456.set (x5_1 : Int).toNat (⟨(⟨(rd_T41 y456 x5_1).f0.f0, (rd_T41 y456 x5_1).f0.f1, (rd_T41 y456 x5_1).f0.f2, (rd_T41 y456 x5_1).f0.f3⟩ : S37), (⟨(rd_T41 y456 x5_1).f1.f0, wrap64 ((wrap64 ((wrap64 ((wrap64 ((wrap64 (x1_1 + 1)) + 1)) + 1)) + 1)) + 1)⟩ : S39)⟩ : S41)) (wrap64 ((wrap64 ((wrap64 ((wrap64 ((wrap64 ((wrap64 (x1_1 + 1)) + 1)) + 1)) + 1)) + 1)) + 1)) (wrap64 (x5_1 + 1))) = some (r1, r2) := by first | (rw [hy456]; with_reducible exact H) | (have H2_ := (Option.bind_some _ _).symm.trans H; rw [hy456]; with_reducible exact H2_) | (have H2_ := (Option.bind_some _ _).symm.trans H; with_reducible exact H2_) | with_reducible exact H | (rw [hy456]; exact H) | exact H
     have Ny456 := Aside0.mk hy456
     clear hy456
     obtain ⟨y457, hy457⟩ : ∃ y_ : List (S41), y_ = (y456.set (x5_1 : Int).toNat (⟨(⟨(rd_T41 y456 x5_1).f0.f0, (rd_T41 y456 x5_1).f0.f1, (rd_T41 y456 x5_1).f0.f2, (rd_T41 y456 x5_1).f0.f3⟩ : S37), (⟨(rd_T41 y456 x5_1).f1.f0, wrap64 ((wrap64 ((wrap64 ((wrap64 ((wrap64 (x1_1 + 1)) + 1)) + 1)) + 1)) + 1)⟩ : S39)⟩ : S41)) := ⟨_, rfl⟩
     replace H : (laws_markMotionS.l0 k1 y457 (wrap64 ((wrap64 ((wrap64 ((wrap64 ((wrap64 ((wrap64 (x1_1 + 1)) + 1)) + 1)) + 1)) + 1)) + 1)) (wrap64 (x5_1 + 1))) = some (r1, r2) := by first | (rw [hy457]; with_reducible exact H) | (have H2_ := (Option.bind_some _ _).symm.trans H; rw [hy457]; with_reducible exact H2_) | (have H2_ := (Option.bind_some _ _).symm.trans H; with_reducible exact H2_) | with_reducible exact H | (rw [hy457]; exact H) | exact H
     have Ny457 := Aside0.mk hy457
     clear hy457
     have H' := Aside0.mk H
     clear H
     obtain ⟨Ao11, co11, eo11⟩ := Kd.R_slice HO_0.out
     subst eo11
     have p5 : 0 ≤ (x5_1 : Int) := od
     have q5 : (x5_1 : Int) < ((x0_1.length : Int) : Int) := od
     obtain ⟨go5, co5, eo5, gb5, gl5, cl5, HG5⟩ := Kd.R_form HO_0.out (by omega)
     (first | cases eo5 | (injection eo5 with ea_ en_ ec_; (first | subst ea_ | (injection ea_ with ea_; subst ea_)); subst ec_; clear en_))
     have GB5 := Aside0.mk gb5
     have GG5 := Aside0.mk HG5
     clear gb5 gl5 HG5
     have HMgo5 := asd (show (P0_ go5 ∨ w.heap.size ≤ go5) from (HO_0.out.1 _ rfl))
     obtain ⟨ce5, hcl5, hM5, hcc5, hfr5⟩ := Kd.R_elem HO_0.out z41 (x5_1 : Int) p5 q5
     obtain rfl := k41_openM hM5
     have hx5_0 : wr.cell? ⟨go5, (x5_1 : Int).toNat * 6, none⟩ = some (.int .i64 ((rd_T41 x0_1 x5_1).f0.f0)) := hcc5 0 _ rfl
     have hx5_1 : wr.cell? ⟨go5, (x5_1 : Int).toNat * 6 + 1, none⟩ = some (.int .i64 ((rd_T41 x0_1 x5_1).f0.f1)) := hcc5 1 _ rfl
     have hx5_2 : wr.cell? ⟨go5, (x5_1 : Int).toNat * 6 + 2, none⟩ = some (.int .i64 ((rd_T41 x0_1 x5_1).f0.f2)) := hcc5 2 _ rfl
     have hx5_3 : wr.cell? ⟨go5, (x5_1 : Int).toNat * 6 + 3, none⟩ = some (.int .i64 ((rd_T41 x0_1 x5_1).f0.f3)) := hcc5 3 _ rfl
     have hx5_4 : wr.cell? ⟨go5, (x5_1 : Int).toNat * 6 + 4, none⟩ = some (.int .i64 ((rd_T41 x0_1 x5_1).f1.f0)) := hcc5 4 _ rfl
     have hx5_5 : wr.cell? ⟨go5, (x5_1 : Int).toNat * 6 + 5, none⟩ = some (.int .i64 ((rd_T41 x0_1 x5_1).f1.f1)) := hcc5 5 _ rfl
     have hf5_0 : wr.frozen? ⟨go5, (x5_1 : Int).toNat * 6, none⟩ = false := hfr5 0
     have hf5_1 : wr.frozen? ⟨go5, (x5_1 : Int).toNat * 6 + 1, none⟩ = false := hfr5 1
     have hf5_2 : wr.frozen? ⟨go5, (x5_1 : Int).toNat * 6 + 2, none⟩ = false := hfr5 2
     have hf5_3 : wr.frozen? ⟨go5, (x5_1 : Int).toNat * 6 + 3, none⟩ = false := hfr5 3
     have hf5_4 : wr.frozen? ⟨go5, (x5_1 : Int).toNat * 6 + 4, none⟩ = false := hfr5 4
     have hf5_5 : wr.frozen? ⟨go5, (x5_1 : Int).toNat * 6 + 5, none⟩ = false := hfr5 5
     clear hcl5 hcc5 hfr5 hM5
     replace p5 := eq_true p5
     replace q5 := eq_true q5
     have HX12 := asd (show Kd.R k41 41 wr w0.heap.size (fun k_ => (P0_ k_ ∨ w.heap.size ≤ k_)) (.slice (some ⟨go5, 0, none⟩) x0_1.length co11) x0_1 from (kr HO_0))
     obtain ⟨ce12, hcl12, hM12, hcc12, hfr12⟩ := Kd.R_elem HX12.out z41 (x5_1 : Int) (od) (by have h_ : (x5_1 : Int) < ((x0_1.length : Int) : Int) := od; first | exact h_ | (have e_ := (Kd.R_reads' HO_0.out).1; omega) | simpa using h_)
     obtain rfl := k41_openM hM12
     have HP12 := Kd.R_seg HX12.out (x5_1 : Int) (od) (by have h_ : (x5_1 : Int) < ((x0_1.length : Int) : Int) := od; first | exact h_ | (have e_ := (Kd.R_reads' HO_0.out).1; omega) | simpa using h_) (seg := [.int .i64 x1_1]) (j := 0) hcl12 hcc12 (show 1 ≤ 6 from by decide) (x' := (⟨(⟨x1_1, (rd_T41 x0_1 x5_1).f0.f1, (rd_T41 x0_1 x5_1).f0.f2, (rd_T41 x0_1 x5_1).f0.f3⟩ : S37), (⟨(rd_T41 x0_1 x5_1).f1.f0, (rd_T41 x0_1 x5_1).f1.f1⟩ : S39)⟩ : S41)) (k41_mkM _ _ _ (⟨(⟨x1_1, (rd_T41 x0_1 x5_1).f0.f1, (rd_T41 x0_1 x5_1).f0.f2, (rd_T41 x0_1 x5_1).f0.f3⟩ : S37), (⟨(rd_T41 x0_1 x5_1).f1.f0, (rd_T41 x0_1 x5_1).f1.f1⟩ : S39)⟩ : S41) ) (fun _ hk => hk)
     have hx12_0 := hcc12 0 _ rfl
     (try simp only [show (k41).sz = 6 from rfl, Nat.mul_one, Nat.add_zero] at hx12_0)
     have hf12_0 := hfr12 0
     (try simp only [show (k41).sz = 6 from rfl, Nat.mul_one, Nat.add_zero] at hf12_0)
     clear hcl12 hcc12 hfr12 hM12
     go_wp2_with (first | ((with_reducible refine gate_store (t := 2) (p := 17) rfl ?_); refine store_event (t := 2) (p := 17) (v := ?vo_w13) (w1 := (wr.setCell ⟨go5, (x5_1 : Int).toNat * 6, none⟩ (.int .i64 x1_1))) ?hg ?ho ?hn ?hr ?_; (case ho => rfl); (case hg => rfl); (case hn => rfl); (case hr => first | (go_simp; done) | (go_simp; rfl)); intro w13 hw; have hg : wr.grownBy w13 (some go5) := (by rw [hw]; exact HP12.2); have hp_ : Kd.R k41 41 w13 w0.heap.size (fun k_ => (P0_ k_ ∨ w.heap.size ≤ k_)) (.slice (some ⟨go5, 0, none⟩) x0_1.length co11) y452 := (by rw [hw, Ny452.out]; exact HP12.1); clear HP12; replace HB := asd ((by rw [hw]; exact below_set (HB.out) GB5.out : Below w0.heap.size w0 w13)); replace HK := asd (Kept.of_grown (S := (fun k_ => P0_ k_)) hg (by repeat (first | (with_reducible first | exact HK.out | apply Kept.alloc | apply Kept.drewN | apply Kept.drew) | exact HK.out)) (fun k_ e_ => (HO_0.out.1 k_ e_))); replace HO_0 := asd (hp_); clear hg hw hp_; have p6 : 0 ≤ (x5_1 : Int) := od; have q6 : (x5_1 : Int) < ((x0_1.length : Int) : Int) := od; obtain ⟨ce6, hcl6, hM6, hcc6, hfr6⟩ := Kd.R_elem HO_0.out z41 (x5_1 : Int) p6 q6; obtain rfl := k41_openM hM6; have hx6_0 : w13.cell? ⟨go5, (x5_1 : Int).toNat * 6, none⟩ = some (.int .i64 ((rd_T41 y452 x5_1).f0.f0)) := hcc6 0 _ rfl; have hx6_1 : w13.cell? ⟨go5, (x5_1 : Int).toNat * 6 + 1, none⟩ = some (.int .i64 ((rd_T41 y452 x5_1).f0.f1)) := hcc6 1 _ rfl; have hx6_2 : w13.cell? ⟨go5, (x5_1 : Int).toNat * 6 + 2, none⟩ = some (.int .i64 ((rd_T41 y452 x5_1).f0.f2)) := hcc6 2 _ rfl; have hx6_3 : w13.cell? ⟨go5, (x5_1 : Int).toNat * 6 + 3, none⟩ = some (.int .i64 ((rd_T41 y452 x5_1).f0.f3)) := hcc6 3 _ rfl; have hx6_4 : w13.cell? ⟨go5, (x5_1 : Int).toNat * 6 + 4, none⟩ = some (.int .i64 ((rd_T41 y452 x5_1).f1.f0)) := hcc6 4 _ rfl; have hx6_5 : w13.cell? ⟨go5, (x5_1 : Int).toNat * 6 + 5, none⟩ = some (.int .i64 ((rd_T41 y452 x5_1).f1.f1)) := hcc6 5 _ rfl; have hf6_0 : w13.frozen? ⟨go5, (x5_1 : Int).toNat * 6, none⟩ = false := hfr6 0; have hf6_1 : w13.frozen? ⟨go5, (x5_1 : Int).toNat * 6 + 1, none⟩ = false := hfr6 1; have hf6_2 : w13.frozen? ⟨go5, (x5_1 : Int).toNat * 6 + 2, none⟩ = false := hfr6 2; have hf6_3 : w13.frozen? ⟨go5, (x5_1 : Int).toNat * 6 + 3, none⟩ = false := hfr6 3; have hf6_4 : w13.frozen? ⟨go5, (x5_1 : Int).toNat * 6 + 4, none⟩ = false := hfr6 4; have hf6_5 : w13.frozen? ⟨go5, (x5_1 : Int).toNat * 6 + 5, none⟩ = false := hfr6 5; clear hcl6 hcc6 hfr6 hM6; replace p6 := eq_true p6; replace q6 := eq_true q6; have HX14 := asd (show Kd.R k41 41 w13 w0.heap.size (fun k_ => (P0_ k_ ∨ w.heap.size ≤ k_)) (.slice (some ⟨go5, 0, none⟩) x0_1.length co11) y452 from (kr HO_0)); obtain ⟨ce14, hcl14, hM14, hcc14, hfr14⟩ := Kd.R_elem HX14.out z41 (x5_1 : Int) (od) (by have h_ : (x5_1 : Int) < ((x0_1.length : Int) : Int) := od; first | exact h_ | (have e_ := (Kd.R_reads' HO_0.out).1; omega) | simpa using h_); obtain rfl := k41_openM hM14; have HP14 := Kd.R_seg HX14.out (x5_1 : Int) (od) (by have h_ : (x5_1 : Int) < ((x0_1.length : Int) : Int) := od; first | exact h_ | (have e_ := (Kd.R_reads' HO_0.out).1; omega) | simpa using h_) (seg := [.int .i64 (wrap64 (x1_1 + 1))]) (j := 1) hcl14 hcc14 (show 2 ≤ 6 from by decide) (x' := (⟨(⟨(rd_T41 y452 x5_1).f0.f0, wrap64 (x1_1 + 1), (rd_T41 y452 x5_1).f0.f2, (rd_T41 y452 x5_1).f0.f3⟩ : S37), (⟨(rd_T41 y452 x5_1).f1.f0, (rd_T41 y452 x5_1).f1.f1⟩ : S39)⟩ : S41)) (k41_mkM _ _ _ (⟨(⟨(rd_T41 y452 x5_1).f0.f0, wrap64 (x1_1 + 1), (rd_T41 y452 x5_1).f0.f2, (rd_T41 y452 x5_1).f0.f3⟩ : S37), (⟨(rd_T41 y452 x5_1).f1.f0, (rd_T41 y452 x5_1).f1.f1⟩ : S39)⟩ : S41) ) (fun _ hk => hk); have hx14_1 := hcc14 1 _ rfl; (try simp only [show (k41).sz = 6 from rfl, Nat.mul_one, Nat.add_zero] at hx14_1); have hf14_1 := hfr14 1; (try simp only [show (k41).sz = 6 from rfl, Nat.mul_one, Nat.add_zero] at hf14_1); clear hcl14 hcc14 hfr14 hM14) | ((with_reducible refine gate_store (t := 2) (p := 25) rfl ?_); refine store_event (t := 2) (p := 25) (v := ?vo_w15) (w1 := (w13.setCell ⟨go5, (x5_1 : Int).toNat * 6 + 1, none⟩ (.int .i64 (wrap64 (x1_1 + 1))))) ?hg ?ho ?hn ?hr ?_; (case ho => rfl); (case hg => rfl); (case hn => rfl); (case hr => first | (go_simp; done) | (go_simp; rfl)); intro w15 hw; have hg : w13.grownBy w15 (some go5) := (by rw [hw]; exact HP14.2); have hp_ : Kd.R k41 41 w15 w0.heap.size (fun k_ => (P0_ k_ ∨ w.heap.size ≤ k_)) (.slice (some ⟨go5, 0, none⟩) x0_1.length co11) y453 := (by rw [hw, Ny453.out]; exact HP14.1); clear HP14; replace HB := asd ((by rw [hw]; exact below_set (HB.out) GB5.out : Below w0.heap.size w0 w15)); replace HK := asd (Kept.of_grown (S := (fun k_ => P0_ k_)) hg (by repeat (first | (with_reducible first | exact HK.out | apply Kept.alloc | apply Kept.drewN | apply Kept.drew) | exact HK.out)) (fun k_ e_ => (HO_0.out.1 k_ e_))); replace HO_0 := asd (hp_); clear hg hw hp_; have p7 : 0 ≤ (x5_1 : Int) := od; have q7 : (x5_1 : Int) < ((x0_1.length : Int) : Int) := od; obtain ⟨ce7, hcl7, hM7, hcc7, hfr7⟩ := Kd.R_elem HO_0.out z41 (x5_1 : Int) p7 q7; obtain rfl := k41_openM hM7; have hx7_0 : w15.cell? ⟨go5, (x5_1 : Int).toNat * 6, none⟩ = some (.int .i64 ((rd_T41 y453 x5_1).f0.f0)) := hcc7 0 _ rfl; have hx7_1 : w15.cell? ⟨go5, (x5_1 : Int).toNat * 6 + 1, none⟩ = some (.int .i64 ((rd_T41 y453 x5_1).f0.f1)) := hcc7 1 _ rfl; have hx7_2 : w15.cell? ⟨go5, (x5_1 : Int).toNat * 6 + 2, none⟩ = some (.int .i64 ((rd_T41 y453 x5_1).f0.f2)) := hcc7 2 _ rfl; have hx7_3 : w15.cell? ⟨go5, (x5_1 : Int).toNat * 6 + 3, none⟩ = some (.int .i64 ((rd_T41 y453 x5_1).f0.f3)) := hcc7 3 _ rfl; have hx7_4 : w15.cell? ⟨go5, (x5_1 : Int).toNat * 6 + 4, none⟩ = some (.int .i64 ((rd_T41 y453 x5_1).f1.f0)) := hcc7 4 _ rfl; have hx7_5 : w15.cell? ⟨go5, (x5_1 : Int).toNat * 6 + 5, none⟩ = some (.int .i64 ((rd_T41 y453 x5_1).f1.f1)) := hcc7 5 _ rfl; have hf7_0 : w15.frozen? ⟨go5, (x5_1 : Int).toNat * 6, none⟩ = false := hfr7 0; have hf7_1 : w15.frozen? ⟨go5, (x5_1 : Int).toNat * 6 + 1, none⟩ = false := hfr7 1; have hf7_2 : w15.frozen? ⟨go5, (x5_1 : Int).toNat * 6 + 2, none⟩ = false := hfr7 2; have hf7_3 : w15.frozen? ⟨go5, (x5_1 : Int).toNat * 6 + 3, none⟩ = false := hfr7 3; have hf7_4 : w15.frozen? ⟨go5, (x5_1 : Int).toNat * 6 + 4, none⟩ = false := hfr7 4; have hf7_5 : w15.frozen? ⟨go5, (x5_1 : Int).toNat * 6 + 5, none⟩ = false := hfr7 5; clear hcl7 hcc7 hfr7 hM7; replace p7 := eq_true p7; replace q7 := eq_true q7; have HX16 := asd (show Kd.R k41 41 w15 w0.heap.size (fun k_ => (P0_ k_ ∨ w.heap.size ≤ k_)) (.slice (some ⟨go5, 0, none⟩) x0_1.length co11) y453 from (kr HO_0)); obtain ⟨ce16, hcl16, hM16, hcc16, hfr16⟩ := Kd.R_elem HX16.out z41 (x5_1 : Int) (od) (by have h_ : (x5_1 : Int) < ((x0_1.length : Int) : Int) := od; first | exact h_ | (have e_ := (Kd.R_reads' HO_0.out).1; omega) | simpa using h_); obtain rfl := k41_openM hM16; have HP16 := Kd.R_seg HX16.out (x5_1 : Int) (od) (by have h_ : (x5_1 : Int) < ((x0_1.length : Int) : Int) := od; first | exact h_ | (have e_ := (Kd.R_reads' HO_0.out).1; omega) | simpa using h_) (seg := [.int .i64 (wrap64 ((wrap64 (x1_1 + 1)) + 1))]) (j := 2) hcl16 hcc16 (show 3 ≤ 6 from by decide) (x' := (⟨(⟨(rd_T41 y453 x5_1).f0.f0, (rd_T41 y453 x5_1).f0.f1, wrap64 ((wrap64 (x1_1 + 1)) + 1), (rd_T41 y453 x5_1).f0.f3⟩ : S37), (⟨(rd_T41 y453 x5_1).f1.f0, (rd_T41 y453 x5_1).f1.f1⟩ : S39)⟩ : S41)) (k41_mkM _ _ _ (⟨(⟨(rd_T41 y453 x5_1).f0.f0, (rd_T41 y453 x5_1).f0.f1, wrap64 ((wrap64 (x1_1 + 1)) + 1), (rd_T41 y453 x5_1).f0.f3⟩ : S37), (⟨(rd_T41 y453 x5_1).f1.f0, (rd_T41 y453 x5_1).f1.f1⟩ : S39)⟩ : S41) ) (fun _ hk => hk); have hx16_2 := hcc16 2 _ rfl; (try simp only [show (k41).sz = 6 from rfl, Nat.mul_one, Nat.add_zero] at hx16_2); have hf16_2 := hfr16 2; (try simp only [show (k41).sz = 6 from rfl, Nat.mul_one, Nat.add_zero] at hf16_2); clear hcl16 hcc16 hfr16 hM16) | ((with_reducible refine gate_store (t := 2) (p := 33) rfl ?_); refine store_event (t := 2) (p := 33) (v := ?vo_w17) (w1 := (w15.setCell ⟨go5, (x5_1 : Int).toNat * 6 + 2, none⟩ (.int .i64 (wrap64 ((wrap64 (x1_1 + 1)) + 1))))) ?hg ?ho ?hn ?hr ?_; (case ho => rfl); (case hg => rfl); (case hn => rfl); (case hr => first | (go_simp; done) | (go_simp; rfl)); intro w17 hw; have hg : w15.grownBy w17 (some go5) := (by rw [hw]; exact HP16.2); have hp_ : Kd.R k41 41 w17 w0.heap.size (fun k_ => (P0_ k_ ∨ w.heap.size ≤ k_)) (.slice (some ⟨go5, 0, none⟩) x0_1.length co11) y454 := (by rw [hw, Ny454.out]; exact HP16.1); clear HP16; replace HB := asd ((by rw [hw]; exact below_set (HB.out) GB5.out : Below w0.heap.size w0 w17)); replace HK := asd (Kept.of_grown (S := (fun k_ => P0_ k_)) hg (by repeat (first | (with_reducible first | exact HK.out | apply Kept.alloc | apply Kept.drewN | apply Kept.drew) | exact HK.out)) (fun k_ e_ => (HO_0.out.1 k_ e_))); replace HO_0 := asd (hp_); clear hg hw hp_; have p8 : 0 ≤ (x5_1 : Int) := od; have q8 : (x5_1 : Int) < ((x0_1.length : Int) : Int) := od; obtain ⟨ce8, hcl8, hM8, hcc8, hfr8⟩ := Kd.R_elem HO_0.out z41 (x5_1 : Int) p8 q8; obtain rfl := k41_openM hM8; have hx8_0 : w17.cell? ⟨go5, (x5_1 : Int).toNat * 6, none⟩ = some (.int .i64 ((rd_T41 y454 x5_1).f0.f0)) := hcc8 0 _ rfl; have hx8_1 : w17.cell? ⟨go5, (x5_1 : Int).toNat * 6 + 1, none⟩ = some (.int .i64 ((rd_T41 y454 x5_1).f0.f1)) := hcc8 1 _ rfl; have hx8_2 : w17.cell? ⟨go5, (x5_1 : Int).toNat * 6 + 2, none⟩ = some (.int .i64 ((rd_T41 y454 x5_1).f0.f2)) := hcc8 2 _ rfl; have hx8_3 : w17.cell? ⟨go5, (x5_1 : Int).toNat * 6 + 3, none⟩ = some (.int .i64 ((rd_T41 y454 x5_1).f0.f3)) := hcc8 3 _ rfl; have hx8_4 : w17.cell? ⟨go5, (x5_1 : Int).toNat * 6 + 4, none⟩ = some (.int .i64 ((rd_T41 y454 x5_1).f1.f0)) := hcc8 4 _ rfl; have hx8_5 : w17.cell? ⟨go5, (x5_1 : Int).toNat * 6 + 5, none⟩ = some (.int .i64 ((rd_T41 y454 x5_1).f1.f1)) := hcc8 5 _ rfl; have hf8_0 : w17.frozen? ⟨go5, (x5_1 : Int).toNat * 6, none⟩ = false := hfr8 0; have hf8_1 : w17.frozen? ⟨go5, (x5_1 : Int).toNat * 6 + 1, none⟩ = false := hfr8 1; have hf8_2 : w17.frozen? ⟨go5, (x5_1 : Int).toNat * 6 + 2, none⟩ = false := hfr8 2; have hf8_3 : w17.frozen? ⟨go5, (x5_1 : Int).toNat * 6 + 3, none⟩ = false := hfr8 3; have hf8_4 : w17.frozen? ⟨go5, (x5_1 : Int).toNat * 6 + 4, none⟩ = false := hfr8 4; have hf8_5 : w17.frozen? ⟨go5, (x5_1 : Int).toNat * 6 + 5, none⟩ = false := hfr8 5; clear hcl8 hcc8 hfr8 hM8; replace p8 := eq_true p8; replace q8 := eq_true q8; have HX18 := asd (show Kd.R k41 41 w17 w0.heap.size (fun k_ => (P0_ k_ ∨ w.heap.size ≤ k_)) (.slice (some ⟨go5, 0, none⟩) x0_1.length co11) y454 from (kr HO_0)); obtain ⟨ce18, hcl18, hM18, hcc18, hfr18⟩ := Kd.R_elem HX18.out z41 (x5_1 : Int) (od) (by have h_ : (x5_1 : Int) < ((x0_1.length : Int) : Int) := od; first | exact h_ | (have e_ := (Kd.R_reads' HO_0.out).1; omega) | simpa using h_); obtain rfl := k41_openM hM18; have HP18 := Kd.R_seg HX18.out (x5_1 : Int) (od) (by have h_ : (x5_1 : Int) < ((x0_1.length : Int) : Int) := od; first | exact h_ | (have e_ := (Kd.R_reads' HO_0.out).1; omega) | simpa using h_) (seg := [.int .i64 (wrap64 ((wrap64 ((wrap64 (x1_1 + 1)) + 1)) + 1))]) (j := 3) hcl18 hcc18 (show 4 ≤ 6 from by decide) (x' := (⟨(⟨(rd_T41 y454 x5_1).f0.f0, (rd_T41 y454 x5_1).f0.f1, (rd_T41 y454 x5_1).f0.f2, wrap64 ((wrap64 ((wrap64 (x1_1 + 1)) + 1)) + 1)⟩ : S37), (⟨(rd_T41 y454 x5_1).f1.f0, (rd_T41 y454 x5_1).f1.f1⟩ : S39)⟩ : S41)) (k41_mkM _ _ _ (⟨(⟨(rd_T41 y454 x5_1).f0.f0, (rd_T41 y454 x5_1).f0.f1, (rd_T41 y454 x5_1).f0.f2, wrap64 ((wrap64 ((wrap64 (x1_1 + 1)) + 1)) + 1)⟩ : S37), (⟨(rd_T41 y454 x5_1).f1.f0, (rd_T41 y454 x5_1).f1.f1⟩ : S39)⟩ : S41) ) (fun _ hk => hk); have hx18_3 := hcc18 3 _ rfl; (try simp only [show (k41).sz = 6 from rfl, Nat.mul_one, Nat.add_zero] at hx18_3); have hf18_3 := hfr18 3; (try simp only [show (k41).sz = 6 from rfl, Nat.mul_one, Nat.add_zero] at hf18_3); clear hcl18 hcc18 hfr18 hM18) | ((with_reducible refine gate_store (t := 2) (p := 41) rfl ?_); refine store_event (t := 2) (p := 41) (v := ?vo_w19) (w1 := (w17.setCell ⟨go5, (x5_1 : Int).toNat * 6 + 3, none⟩ (.int .i64 (wrap64 ((wrap64 ((wrap64 (x1_1 + 1)) + 1)) + 1))))) ?hg ?ho ?hn ?hr ?_; (case ho => rfl); (case hg => rfl); (case hn => rfl); (case hr => first | (go_simp; done) | (go_simp; rfl)); intro w19 hw; have hg : w17.grownBy w19 (some go5) := (by rw [hw]; exact HP18.2); have hp_ : Kd.R k41 41 w19 w0.heap.size (fun k_ => (P0_ k_ ∨ w.heap.size ≤ k_)) (.slice (some ⟨go5, 0, none⟩) x0_1.length co11) y455 := (by rw [hw, Ny455.out]; exact HP18.1); clear HP18; replace HB := asd ((by rw [hw]; exact below_set (HB.out) GB5.out : Below w0.heap.size w0 w19)); replace HK := asd (Kept.of_grown (S := (fun k_ => P0_ k_)) hg (by repeat (first | (with_reducible first | exact HK.out | apply Kept.alloc | apply Kept.drewN | apply Kept.drew) | exact HK.out)) (fun k_ e_ => (HO_0.out.1 k_ e_))); replace HO_0 := asd (hp_); clear hg hw hp_; have p9 : 0 ≤ (x5_1 : Int) := od; have q9 : (x5_1 : Int) < ((x0_1.length : Int) : Int) := od; obtain ⟨ce9, hcl9, hM9, hcc9, hfr9⟩ := Kd.R_elem HO_0.out z41 (x5_1 : Int) p9 q9; obtain rfl := k41_openM hM9; have hx9_0 : w19.cell? ⟨go5, (x5_1 : Int).toNat * 6, none⟩ = some (.int .i64 ((rd_T41 y455 x5_1).f0.f0)) := hcc9 0 _ rfl; have hx9_1 : w19.cell? ⟨go5, (x5_1 : Int).toNat * 6 + 1, none⟩ = some (.int .i64 ((rd_T41 y455 x5_1).f0.f1)) := hcc9 1 _ rfl; have hx9_2 : w19.cell? ⟨go5, (x5_1 : Int).toNat * 6 + 2, none⟩ = some (.int .i64 ((rd_T41 y455 x5_1).f0.f2)) := hcc9 2 _ rfl; have hx9_3 : w19.cell? ⟨go5, (x5_1 : Int).toNat * 6 + 3, none⟩ = some (.int .i64 ((rd_T41 y455 x5_1).f0.f3)) := hcc9 3 _ rfl; have hx9_4 : w19.cell? ⟨go5, (x5_1 : Int).toNat * 6 + 4, none⟩ = some (.int .i64 ((rd_T41 y455 x5_1).f1.f0)) := hcc9 4 _ rfl; have hx9_5 : w19.cell? ⟨go5, (x5_1 : Int).toNat * 6 + 5, none⟩ = some (.int .i64 ((rd_T41 y455 x5_1).f1.f1)) := hcc9 5 _ rfl; have hf9_0 : w19.frozen? ⟨go5, (x5_1 : Int).toNat * 6, none⟩ = false := hfr9 0; have hf9_1 : w19.frozen? ⟨go5, (x5_1 : Int).toNat * 6 + 1, none⟩ = false := hfr9 1; have hf9_2 : w19.frozen? ⟨go5, (x5_1 : Int).toNat * 6 + 2, none⟩ = false := hfr9 2; have hf9_3 : w19.frozen? ⟨go5, (x5_1 : Int).toNat * 6 + 3, none⟩ = false := hfr9 3; have hf9_4 : w19.frozen? ⟨go5, (x5_1 : Int).toNat * 6 + 4, none⟩ = false := hfr9 4; have hf9_5 : w19.frozen? ⟨go5, (x5_1 : Int).toNat * 6 + 5, none⟩ = false := hfr9 5; clear hcl9 hcc9 hfr9 hM9; replace p9 := eq_true p9; replace q9 := eq_true q9; have HX20 := asd (show Kd.R k41 41 w19 w0.heap.size (fun k_ => (P0_ k_ ∨ w.heap.size ≤ k_)) (.slice (some ⟨go5, 0, none⟩) x0_1.length co11) y455 from (kr HO_0)); obtain ⟨ce20, hcl20, hM20, hcc20, hfr20⟩ := Kd.R_elem HX20.out z41 (x5_1 : Int) (od) (by have h_ : (x5_1 : Int) < ((x0_1.length : Int) : Int) := od; first | exact h_ | (have e_ := (Kd.R_reads' HO_0.out).1; omega) | simpa using h_); obtain rfl := k41_openM hM20; have HP20 := Kd.R_seg HX20.out (x5_1 : Int) (od) (by have h_ : (x5_1 : Int) < ((x0_1.length : Int) : Int) := od; first | exact h_ | (have e_ := (Kd.R_reads' HO_0.out).1; omega) | simpa using h_) (seg := [.int .i64 (wrap64 ((wrap64 ((wrap64 ((wrap64 (x1_1 + 1)) + 1)) + 1)) + 1))]) (j := 4) hcl20 hcc20 (show 5 ≤ 6 from by decide) (x' := (⟨(⟨(rd_T41 y455 x5_1).f0.f0, (rd_T41 y455 x5_1).f0.f1, (rd_T41 y455 x5_1).f0.f2, (rd_T41 y455 x5_1).f0.f3⟩ : S37), (⟨wrap64 ((wrap64 ((wrap64 ((wrap64 (x1_1 + 1)) + 1)) + 1)) + 1), (rd_T41 y455 x5_1).f1.f1⟩ : S39)⟩ : S41)) (k41_mkM _ _ _ (⟨(⟨(rd_T41 y455 x5_1).f0.f0, (rd_T41 y455 x5_1).f0.f1, (rd_T41 y455 x5_1).f0.f2, (rd_T41 y455 x5_1).f0.f3⟩ : S37), (⟨wrap64 ((wrap64 ((wrap64 ((wrap64 (x1_1 + 1)) + 1)) + 1)) + 1), (rd_T41 y455 x5_1).f1.f1⟩ : S39)⟩ : S41) ) (fun _ hk => hk); have hx20_4 := hcc20 4 _ rfl; (try simp only [show (k41).sz = 6 from rfl, Nat.mul_one, Nat.add_zero] at hx20_4); have hf20_4 := hfr20 4; (try simp only [show (k41).sz = 6 from rfl, Nat.mul_one, Nat.add_zero] at hf20_4); clear hcl20 hcc20 hfr20 hM20) | ((with_reducible refine gate_store (t := 2) (p := 49) rfl ?_); refine store_event (t := 2) (p := 49) (v := ?vo_w21) (w1 := (w19.setCell ⟨go5, (x5_1 : Int).toNat * 6 + 4, none⟩ (.int .i64 (wrap64 ((wrap64 ((wrap64 ((wrap64 (x1_1 + 1)) + 1)) + 1)) + 1))))) ?hg ?ho ?hn ?hr ?_; (case ho => rfl); (case hg => rfl); (case hn => rfl); (case hr => first | (go_simp; done) | (go_simp; rfl)); intro w21 hw; have hg : w19.grownBy w21 (some go5) := (by rw [hw]; exact HP20.2); have hp_ : Kd.R k41 41 w21 w0.heap.size (fun k_ => (P0_ k_ ∨ w.heap.size ≤ k_)) (.slice (some ⟨go5, 0, none⟩) x0_1.length co11) y456 := (by rw [hw, Ny456.out]; exact HP20.1); clear HP20; replace HB := asd ((by rw [hw]; exact below_set (HB.out) GB5.out : Below w0.heap.size w0 w21)); replace HK := asd (Kept.of_grown (S := (fun k_ => P0_ k_)) hg (by repeat (first | (with_reducible first | exact HK.out | apply Kept.alloc | apply Kept.drewN | apply Kept.drew) | exact HK.out)) (fun k_ e_ => (HO_0.out.1 k_ e_))); replace HO_0 := asd (hp_); clear hg hw hp_; have p10 : 0 ≤ (x5_1 : Int) := od; have q10 : (x5_1 : Int) < ((x0_1.length : Int) : Int) := od; obtain ⟨ce10, hcl10, hM10, hcc10, hfr10⟩ := Kd.R_elem HO_0.out z41 (x5_1 : Int) p10 q10; obtain rfl := k41_openM hM10; have hx10_0 : w21.cell? ⟨go5, (x5_1 : Int).toNat * 6, none⟩ = some (.int .i64 ((rd_T41 y456 x5_1).f0.f0)) := hcc10 0 _ rfl; have hx10_1 : w21.cell? ⟨go5, (x5_1 : Int).toNat * 6 + 1, none⟩ = some (.int .i64 ((rd_T41 y456 x5_1).f0.f1)) := hcc10 1 _ rfl; have hx10_2 : w21.cell? ⟨go5, (x5_1 : Int).toNat * 6 + 2, none⟩ = some (.int .i64 ((rd_T41 y456 x5_1).f0.f2)) := hcc10 2 _ rfl; have hx10_3 : w21.cell? ⟨go5, (x5_1 : Int).toNat * 6 + 3, none⟩ = some (.int .i64 ((rd_T41 y456 x5_1).f0.f3)) := hcc10 3 _ rfl; have hx10_4 : w21.cell? ⟨go5, (x5_1 : Int).toNat * 6 + 4, none⟩ = some (.int .i64 ((rd_T41 y456 x5_1).f1.f0)) := hcc10 4 _ rfl; have hx10_5 : w21.cell? ⟨go5, (x5_1 : Int).toNat * 6 + 5, none⟩ = some (.int .i64 ((rd_T41 y456 x5_1).f1.f1)) := hcc10 5 _ rfl; have hf10_0 : w21.frozen? ⟨go5, (x5_1 : Int).toNat * 6, none⟩ = false := hfr10 0; have hf10_1 : w21.frozen? ⟨go5, (x5_1 : Int).toNat * 6 + 1, none⟩ = false := hfr10 1; have hf10_2 : w21.frozen? ⟨go5, (x5_1 : Int).toNat * 6 + 2, none⟩ = false := hfr10 2; have hf10_3 : w21.frozen? ⟨go5, (x5_1 : Int).toNat * 6 + 3, none⟩ = false := hfr10 3; have hf10_4 : w21.frozen? ⟨go5, (x5_1 : Int).toNat * 6 + 4, none⟩ = false := hfr10 4; have hf10_5 : w21.frozen? ⟨go5, (x5_1 : Int).toNat * 6 + 5, none⟩ = false := hfr10 5; clear hcl10 hcc10 hfr10 hM10; replace p10 := eq_true p10; replace q10 := eq_true q10; have HX22 := asd (show Kd.R k41 41 w21 w0.heap.size (fun k_ => (P0_ k_ ∨ w.heap.size ≤ k_)) (.slice (some ⟨go5, 0, none⟩) x0_1.length co11) y456 from (kr HO_0)); obtain ⟨ce22, hcl22, hM22, hcc22, hfr22⟩ := Kd.R_elem HX22.out z41 (x5_1 : Int) (od) (by have h_ : (x5_1 : Int) < ((x0_1.length : Int) : Int) := od; first | exact h_ | (have e_ := (Kd.R_reads' HO_0.out).1; omega) | simpa using h_); obtain rfl := k41_openM hM22; have HP22 := Kd.R_seg HX22.out (x5_1 : Int) (od) (by have h_ : (x5_1 : Int) < ((x0_1.length : Int) : Int) := od; first | exact h_ | (have e_ := (Kd.R_reads' HO_0.out).1; omega) | simpa using h_) (seg := [.int .i64 (wrap64 ((wrap64 ((wrap64 ((wrap64 ((wrap64 (x1_1 + 1)) + 1)) + 1)) + 1)) + 1))]) (j := 5) hcl22 hcc22 (show 6 ≤ 6 from by decide) (x' := (⟨(⟨(rd_T41 y456 x5_1).f0.f0, (rd_T41 y456 x5_1).f0.f1, (rd_T41 y456 x5_1).f0.f2, (rd_T41 y456 x5_1).f0.f3⟩ : S37), (⟨(rd_T41 y456 x5_1).f1.f0, wrap64 ((wrap64 ((wrap64 ((wrap64 ((wrap64 (x1_1 + 1)) + 1)) + 1)) + 1)) + 1)⟩ : S39)⟩ : S41)) (k41_mkM _ _ _ (⟨(⟨(rd_T41 y456 x5_1).f0.f0, (rd_T41 y456 x5_1).f0.f1, (rd_T41 y456 x5_1).f0.f2, (rd_T41 y456 x5_1).f0.f3⟩ : S37), (⟨(rd_T41 y456 x5_1).f1.f0, wrap64 ((wrap64 ((wrap64 ((wrap64 ((wrap64 (x1_1 + 1)) + 1)) + 1)) + 1)) + 1)⟩ : S39)⟩ : S41) ) (fun _ hk => hk); have hx22_5 := hcc22 5 _ rfl; (try simp only [show (k41).sz = 6 from rfl, Nat.mul_one, Nat.add_zero] at hx22_5); have hf22_5 := hfr22 5; (try simp only [show (k41).sz = 6 from rfl, Nat.mul_one, Nat.add_zero] at hf22_5); clear hcl22 hcc22 hfr22 hM22) | ((with_reducible refine gate_store (t := 2) (p := 57) rfl ?_); refine store_event (t := 2) (p := 57) (v := ?vo_w23) (w1 := (w21.setCell ⟨go5, (x5_1 : Int).toNat * 6 + 5, none⟩ (.int .i64 (wrap64 ((wrap64 ((wrap64 ((wrap64 ((wrap64 (x1_1 + 1)) + 1)) + 1)) + 1)) + 1))))) ?hg ?ho ?hn ?hr ?_; (case ho => rfl); (case hg => rfl); (case hn => rfl); (case hr => first | (go_simp; done) | (go_simp; rfl)); intro w23 hw; have hg : w21.grownBy w23 (some go5) := (by rw [hw]; exact HP22.2); have hp_ : Kd.R k41 41 w23 w0.heap.size (fun k_ => (P0_ k_ ∨ w.heap.size ≤ k_)) (.slice (some ⟨go5, 0, none⟩) x0_1.length co11) y457 := (by rw [hw, Ny457.out]; exact HP22.1); clear HP22; replace HB := asd ((by rw [hw]; exact below_set (HB.out) GB5.out : Below w0.heap.size w0 w23)); replace HK := asd (Kept.of_grown (S := (fun k_ => P0_ k_)) hg (by repeat (first | (with_reducible first | exact HK.out | apply Kept.alloc | apply Kept.drewN | apply Kept.drew) | exact HK.out)) (fun k_ e_ => (HO_0.out.1 k_ e_))); replace HO_0 := asd (hp_); clear hg hw hp_))
     go_roundg k1
     case measure => have := HK1.out; omega
     case rel => exact ⟨(y457), (wrap64 ((wrap64 ((wrap64 ((wrap64 ((wrap64 ((wrap64 (x1_1 + 1)) + 1)) + 1)) + 1)) + 1)) + 1)), (wrap64 (x5_1 + 1)), (by first | rfl | (simp; done) | (simp [*]; done)), (by first | rfl | (simp; done) | (simp [*]; done)), H', ⟨by have := HK1.out; omega⟩, ⟨by (with_reducible repeat (first | apply Kd.R_alloc | apply Kd.R_drewN | apply Kd.R_drew)); exact HO_0.out⟩, ⟨by repeat (first | (with_reducible first | exact HK.out | apply Kept.alloc | apply Kept.drewN | apply Kept.drew) | exact HK.out)⟩, ⟨bbw0 HB⟩⟩
    ·rw [if_neg c4] at H
     exact absurd H (by simp)
   ·rw [if_neg c3] at H
    have c3b0 := decide_eq_false c3
    clear c3
    simp only [Option.some.injEq, Prod.mk.injEq] at H
    obtain ⟨rfl, rfl⟩ := H
    obtain ⟨Ao24, co24, eo24⟩ := Kd.R_slice HO_0.out
    subst eo24
    go_wp2
    go_ret
    exact ⟨by first | rfl | (simp [errW_none, errW_some] <;> rfl) | (simp [*, errW_none, errW_some] <;> rfl), by (with_reducible repeat (first | apply Kd.R_alloc | apply Kd.R_drewN | apply Kd.R_drew)); exact HO_0.out, by repeat (first | (with_reducible first | exact HB.out | apply below_alloc | apply pw_below_drewN | apply below_drew1) | exact HB.out), by repeat (first | (with_reducible first | exact HK.out | apply Kept.alloc | apply Kept.drewN | apply Kept.drew) | exact HK.out)⟩

end Go.Proofs.Ytdodghjnlekgeaa.PA
