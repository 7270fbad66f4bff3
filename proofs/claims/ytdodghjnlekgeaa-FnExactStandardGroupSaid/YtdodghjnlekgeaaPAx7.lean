/- Walks written by program: each Go function that the law reaches comes to the plain function beside it. -/
import Derived.Test.YtdodghjnlekgeaaPAx0
import Derived.Test.YtdodghjnlekgeaaPAx3
import Derived.Test.YtdodghjnlekgeaaPAx4
import Derived.Test.YtdodghjnlekgeaaPAx6
namespace Go.Proofs.Ytdodghjnlekgeaa.PA
open Go.RowKit Go.Proofs.YtdodghjnlekgeaaW.PrintWords Go.Proofs.YtdodghjnlekgeaaW.PrintLast Go.Proofs.YtdodghjnlekgeaaW.PrintMore
attribute [local go_sem] max2_int min2_int max_two min_two max_three min_three max_four min_four   -- for this text's walks alone
set_option linter.unusedVariables false
set_option linter.unusedSimpArgs false

/-! ### spec_StandardGroup: function 4 -/
def spec_StandardGroup.f (k : Nat) (a0 : ByteArray) (a1 : Int) : Option (Int × Int × Int × Int × (List (S41)) × Int) := (spec_l13Motions.f a0 a1).bind fun bt264 => (if bt264.2.2 = true then ((spec_l01In.f a1 1 4).bind fun t269 => (if t269 = true then ((spec_l06Close.f k (wrap64 (2 * a1)) 0 (wrap64 (2 * a1)) bt264.2.1).bind fun t271 => (some (bt264.1, wrap64 (2 * a1), 0, wrap64 (2 * a1), t271, 0))) else (some (0, 0, 0, 0, ([] : List (S41)), 2)))) else (some (0, 0, 0, 0, ([] : List (S41)), 4)))
def spec_StandardGroup.T7 : Bool × List (List Nat × List Nat) := (true, [([], []), ([], []), ([], []), ([], []), ([2, 3], [2, 3]), ([0, 4, 0], [0]), ([1, 5, 0, 1, 5], [1]), ([4, 6, 0, 1, 2, 3, 4, 5, 6], [4]), ([7, 0, 1, 2, 3, 4, 5, 6, 7], [])])
def spec_StandardGroup.B7 : List Nat := [0, 0, 0, 0, 12, 29, 63, 127, 255]
theorem spec_StandardGroup.tab7 : rtab .any (opsOf Try.f4 7) = spec_StandardGroup.T7 := by kernel_rfl
theorem spec_StandardGroup.bits7 : waitsOk spec_StandardGroup.T7.2 spec_StandardGroup.B7 = true := by kernel_rfl
set_option maxHeartbeats 8000000 in
set_option maxRecDepth 100000 in
theorem spec_StandardGroup.calls (k : Nat) (a0 : ByteArray) (a1 : Int) (r1 : Int) (r2 : Int) (r3 : Int) (r4 : Int) (r5 : List (S41)) (r6 : Int) (w : World) (h : spec_StandardGroup.f k a0 a1 = some (r1, r2, r3, r4, r5, r6)) :
  Calls Try.prog 4 #[.string a0, .int .i64 a1] w fun e w' => ∃ v4_ : Value, e = .returned (.tuple #[.int .i64 r1, .agg #[.int .i64 r2, .int .i64 r3, .int .i64 r4], v4_, .int .i64 r6]) ∧ Kd.R k41 41 w' w.heap.size (fun _ => True) v4_ r5 ∧ Below w.heap.size w w' := by
 have hu23 := Try.underlying23
 have HB := asd (Below.refl w.heap.size w)
 have H : ((spec_l13Motions.f a0 a1).bind fun bt264 => (if bt264.2.2 = true then ((spec_l01In.f a1 1 4).bind fun t269 => (if t269 = true then ((spec_l06Close.f k (wrap64 (2 * a1)) 0 (wrap64 (2 * a1)) bt264.2.1).bind fun t271 => (some (bt264.1, wrap64 (2 * a1), 0, wrap64 (2 * a1), t271, 0))) else (some (0, 0, 0, 0, ([] : List (S41)), 2)))) else (some (0, 0, 0, 0, ([] : List (S41)), 4)))) = some (r1, r2, r3, r4, r5, r6) := h
 clear h
 obtain ⟨⟨t264, t265, t266⟩, A3, H⟩ := ob H
 try dsimp only at H
 by_cases c4 : t266 = true
 ·subst c4
  replace H := ifT H
  obtain ⟨t269, A5, H⟩ := ob H
  try dsimp only at H
  by_cases c6 : t269 = true
  ·subst c6
   replace H := ifT H
   obtain ⟨t271, A7, H⟩ := ob H
   try dsimp only at H
   simp only [Option.some.injEq, Prod.mk.injEq] at H
   obtain ⟨rfl, rfl, rfl, rfl, rfl, rfl⟩ := H
   go_enter Try.func4, Try.ntmps4
   try go_wp2_with (first | ((with_reducible refine gd 5 rfl ?_); refine bx #[.int .i64 0, .int .i64 0, .int .i64 0] 23 ?_; intro gb263 hg w8 BK263 hb; have GE263 := ngw0 hg HB; replace HB := bS0 HB hb; clear hb hg) | ((with_reducible refine gate_callee (f := 10) rfl ?_); refine gl 15 Try.func10 #[.string a0, .int .i64 a1] ?_; (with_reducible refine (spec_l13Motions.calls _ _ _ _ _ _ A3.out).mono ?_); rintro e w9 ⟨v267, rfl, ho0, hb⟩; refine ⟨_, rfl, ?_⟩; have HO268 := asd (Kd.R_lower ho0 (bsz1 HB GE263)); replace BK263 := bB BK263 hb; replace HB := bS1 HB GE263 hb; (try clear hb); (try clear hb2); (try clear hk); (try clear hi); (try clear ho0)) | ((with_reducible refine gate_callee (f := 11) rfl ?_); refine gl 25 Try.func11 #[.int .i64 a1, .int .i64 1, .int .i64 4] ?_; (with_reducible refine (spec_l01In.calls _ _ _ _ _ A5.out).mono ?_); rintro e w' ⟨rfl, ⟨nd, rfl⟩⟩; refine ⟨_, rfl, ?_⟩; (try (rw [drewN_self w9]; generalize hq_ : World.drewN w9 _ = w9; have n0_ : Aside0 (Kd.R k41 41 w9 w.heap.size (fun _ => True) v267 t265) := ⟨by rw [← hq_]; exact (kr HO268)⟩; have n1_ : Aside0 (w9.heap[gb263]? = some (.cells #[.int .i64 0, .int .i64 0, .int .i64 0] 23 (0, 0))) := ⟨by rw [← hq_]; exact (bkp BK263)⟩; have n2_ : Aside0 (Below w.heap.size w w9) := ⟨by rw [← hq_]; exact (bbw1 HB GE263)⟩; clear HO268 BK263 HB hq_; have HO268 := n0_; have BK263 := n1_; have HB := n2_; clear n0_ n1_ n2_))) | ((with_reducible refine gd 11 rfl ?_); refine bx #[.int .i64 0, .int .i64 0, .int .i64 0] 23 ?_; intro gb270 hg w10 BK270 hb; replace HO268 := asd (Kd.R_below (kr HO268) hb); have GE270 := ngw1 hg HB GE263; replace HB := bS1 HB GE263 hb; have NB263_270 := nlt hg BK263; have NB270_263 := nsy (nlt hg BK263); replace BK263 := bB BK263 hb; clear hb hg; have hnb11 := NB270_263.out; have hnc11 := NB263_270.out; obtain ⟨hcz12_0, hcz12_1, hcz12_2, hfz12_0, hfz12_1, hfz12_2⟩ := bz3 BK270))
   obtain ⟨w13, h_w13⟩ : ∃ w_, (((w10.setCell ⟨gb270, 0, none⟩ (.int .i64 (wrap64 (2 * a1)))).setCell ⟨gb270, 1, none⟩ (.int .i64 0)).setCell ⟨gb270, 2, none⟩ (.int .i64 (wrap64 (2 * a1)))) = w_ := ⟨_, rfl⟩
   replace HO268 : Aside0 (Kd.R k41 41 w13 w.heap.size (fun _ => True) v267 t265) := by rw [← h_w13]; exact ⟨by (with_reducible repeat (first | apply Kd.R_alloc | apply Kd.R_drewN | apply Kd.R_drew)); exact Kd.R_mono (rw3 (Kd.R_types HO268.out BK270.out (by decide))) (fun _ hk => trivial)⟩
   replace BK263 : Aside0 (w13.heap[gb263]? = some (.cells #[.int .i64 0, .int .i64 0, .int .i64 0] 23 (0, 0))) := by rw [← h_w13]; exact ⟨bq1 BK263 NB263_270⟩
   replace BK270 : Aside0 (w13.heap[gb270]? = some (.cells #[.int .i64 (wrap64 (2 * a1)), .int .i64 0, .int .i64 (wrap64 (2 * a1))] 23 (0, 0))) := by rw [← h_w13]; exact ⟨bq0 BK270⟩
   replace HB : Aside0 (Below w.heap.size w w13) := by rw [← h_w13]; exact ⟨bbw2 HB GE263 GE270⟩
   (try rw [h_w13]); clear h_w13
   replace HO268 := asd (Kd.R_drew HO268.out)
   replace BK263 := asd (blk_drew BK263.out)
   replace BK270 := asd (blk_drew BK270.out)
   replace HB := asd (below_drew1 HB.out)
   obtain ⟨Ao15, co15, eo15⟩ := Kd.R_slice HO268.out
   (first | subst eo15 | (injection eo15 with f1_ f2_ f3_; have f4_ := f1_.symm; have f5_ := f3_.symm; clear f1_ f2_ f3_; subst f4_; subst f5_))
   refine sh 9 (eb3 BK270) (fun hHeld => ?_); refine with_tabW spec_StandardGroup.tab7 spec_StandardGroup.bits7 (fun HT_ HW_ => ?_)
   generalize w13.drew = w14 at HO268 BK263 BK270 HB hHeld ⊢
   refine pu 0 (some 33) (bT 9 1) HT_ ?_
   refine pu 3 (some 36) (bs 9 9) HT_ ?_
   refine ta 1 (some 34) (bs 9 11) HT_ HW_ hHeld ?_
   refine ta 2 (some 35) (bT 9 4) HT_ HW_ hHeld ?_
   refine ro 4 (some 37) (bT 9 5) HT_ (fun K hK => ?_)
   refine gs Try.func12 #[.agg #[.int .i64 (wrap64 (2 * a1)), .int .i64 0, .int .i64 (wrap64 (2 * a1))], .slice Ao15 t265.length co15] ?_
   with_reducible refine (spec_l06Close.calls _ _ _ _ _ _ _ _ _ ?side1 ?side2 A7.out).mono ?_
   (case side1 => exact ks (Kd.R_reads' HO268.out).2.2)
   (case side2 => exact (Kd.R_reads' HO268.out).2.1)
   rintro e w16 ⟨v272, rfl, ho0, hb⟩
   refine ⟨_, rfl, ?_⟩
   have HO273 := asd (Kd.R_lower (Kd.R_new' ho0 (Kd.R_lt (kr HO268))) (bsz2 HB GE263 GE270))
   replace HO268 := asd (Kd.R_elder' (kr HO268) (Kd.R_base ho0) hb)
   replace BK263 := bB BK263 hb
   replace BK270 := bB BK270 hb
   replace HB := bS2 HB GE263 GE270 hb
   (try clear hb)
   (try clear hb2)
   (try clear hk)
   (try clear hi)
   (try clear ho0)
   refine hK.out _ _ (eb3 BK270).out (fun hHeld => ?_)
   clear hK K
   refine norm_ (a' := ?_) ?_ ?_
   rotate_left
   ·show Act.put _ (some 37) _ = _
    simp only [Act.put, sA, sB, sC, i64_w, i32_w]
    rfl
   refine pu 5 (some 4) (bT 9 6) HT_ ?_
   refine ro 6 (none) (bT 9 7) HT_ (fun K hK => ?_)
   have hs17 : w16.cell? ⟨gb263, 0, none⟩ = some (.int .i64 0) := bcl BK263 0
   have hfs17 := blk_frozen BK263.out 0
   have hns17_1 := NB270_263.out
   have hms17_1 := NB263_270.out
   have hs18 : w16.cell? ⟨gb263, 1, none⟩ = some (.int .i64 0) := bcl BK263 1
   have hfs18 := blk_frozen BK263.out 1
   have hns18_1 := NB270_263.out
   have hms18_1 := NB263_270.out
   have hs19 : w16.cell? ⟨gb263, 2, none⟩ = some (.int .i64 0) := bcl BK263 2
   have hfs19 := blk_frozen BK263.out 2
   have hns19_1 := NB270_263.out
   have hms19_1 := NB263_270.out
   refine skip_ (w1 := ?_) (by rfl) rfl ?_ ?_
   rotate_left
   ·go_simp
    rfl
   refine hK.out _ _ ⟨(cf NB270_263 ((cf NB270_263 ((cf NB270_263 (hHeld.1)))))), (cf NB270_263 ((cf NB270_263 ((cf NB270_263 (hHeld.2.1)))))), (cf NB270_263 ((cf NB270_263 ((cf NB270_263 (hHeld.2.2))))))⟩ (fun hHeld => ?_)
   clear hK K
   refine pu 7 (some 6) (bT 9 8) HT_ ?_
   refine pu 8 (some 7) (bT 9 9) HT_ ?_
   refine done_ (done_of HT_.out (by kernel_rfl)) ?_
   try go_wp2
   refine bodyPost_ret (results_list (rs := [.tmp 4, .cell 5 23, .tmp 6, .tmp 7]) rfl (by simp) (.tmp (.cell gb263 23 #[.int .i64 (wrap64 (2 * a1)), .int .i64 0, .int .i64 (wrap64 (2 * a1))] (0, 0) _ rfl (bq0 BK263) Try.underlying23 rfl (by kernel_rfl) (.tmp (.tmp .nil))))) rfl ?_
   exact ⟨_, by first | rfl | (simp [errW_none, errW_some] <;> rfl) | (simp [*, errW_none, errW_some] <;> rfl), by (with_reducible repeat (first | apply Kd.R_alloc | apply Kd.R_drewN | apply Kd.R_drew)); exact Kd.R_mono (rw3 (Kd.R_types HO273.out BK263.out (by decide))) (fun _ hk => trivial), bbw2 HB GE263 GE270⟩
  ·replace c6 := Bool.eq_false_iff.mpr c6
   subst c6
   replace H := ifF H
   simp only [Option.some.injEq, Prod.mk.injEq] at H
   obtain ⟨rfl, rfl, rfl, rfl, rfl, rfl⟩ := H
   go_enter Try.func4, Try.ntmps4
   go_wp2_with (first | ((with_reducible refine gd 5 rfl ?_); refine bx #[.int .i64 0, .int .i64 0, .int .i64 0] 23 ?_; intro gb263 hg w20 BK263 hb; have GE263 := ngw0 hg HB; replace HB := bS0 HB hb; clear hb hg) | ((with_reducible refine gate_callee (f := 10) rfl ?_); refine gl 15 Try.func10 #[.string a0, .int .i64 a1] ?_; (with_reducible refine (spec_l13Motions.calls _ _ _ _ _ _ A3.out).mono ?_); rintro e w21 ⟨v267, rfl, ho0, hb⟩; refine ⟨_, rfl, ?_⟩; have HO268 := asd (Kd.R_lower ho0 (bsz1 HB GE263)); replace BK263 := bB BK263 hb; replace HB := bS1 HB GE263 hb; (try clear hb); (try clear hb2); (try clear hk); (try clear hi); (try clear ho0)) | ((with_reducible refine gate_callee (f := 11) rfl ?_); refine gl 25 Try.func11 #[.int .i64 a1, .int .i64 1, .int .i64 4] ?_; (with_reducible refine (spec_l01In.calls _ _ _ _ _ A5.out).mono ?_); rintro e w' ⟨rfl, ⟨nd, rfl⟩⟩; refine ⟨_, rfl, ?_⟩; (try (rw [drewN_self w21]; generalize hq_ : World.drewN w21 _ = w21; have n0_ : Aside0 (Kd.R k41 41 w21 w.heap.size (fun _ => True) v267 t265) := ⟨by rw [← hq_]; exact (kr HO268)⟩; have n1_ : Aside0 (w21.heap[gb263]? = some (.cells #[.int .i64 0, .int .i64 0, .int .i64 0] 23 (0, 0))) := ⟨by rw [← hq_]; exact (bkp BK263)⟩; have n2_ : Aside0 (Below w.heap.size w w21) := ⟨by rw [← hq_]; exact (bbw1 HB GE263)⟩; clear HO268 BK263 HB hq_; have HO268 := n0_; have BK263 := n1_; have HB := n2_; clear n0_ n1_ n2_)); have hcz22_0 : w21.cell? ⟨gb263, 0, none⟩ = some (.int .i64 0) := bcl BK263 0; have hcz22_1 : w21.cell? ⟨gb263, 1, none⟩ = some (.int .i64 0) := bcl BK263 1; have hcz22_2 : w21.cell? ⟨gb263, 2, none⟩ = some (.int .i64 0) := bcl BK263 2; have hfz22_0 := blk_frozen BK263.out 0; have hfz22_1 := blk_frozen BK263.out 1; have hfz22_2 := blk_frozen BK263.out 2))
   refine bodyPost_ret (results_list (rs := [.tmp 4, .cell 5 23, .tmp 6, .tmp 7]) rfl (by simp) (.tmp (.cell gb263 23 #[.int .i64 0, .int .i64 0, .int .i64 0] (0, 0) _ rfl (bq0 BK263) Try.underlying23 rfl (by kernel_rfl) (.tmp (.tmp .nil))))) rfl ?_
   exact ⟨_, by first | rfl | (simp [errW_none, errW_some] <;> rfl) | (simp [*, errW_none, errW_some] <;> rfl), by first | exact Kd.R_nil _ _ _ _ _ | exact Kd.N_nil _ _ _ _ _ | exact Kd.V_nil _ _ _ _ _ | exact Kd.Q_nil _ _ _ _ _ | exact Kd.S_nil _ _ _ _ _, bbw1 HB GE263⟩
 ·replace c4 := Bool.eq_false_iff.mpr c4
  subst c4
  replace H := ifF H
  simp only [Option.some.injEq, Prod.mk.injEq] at H
  obtain ⟨rfl, rfl, rfl, rfl, rfl, rfl⟩ := H
  go_enter Try.func4, Try.ntmps4
  go_wp2_with (first | ((with_reducible refine gd 5 rfl ?_); refine bx #[.int .i64 0, .int .i64 0, .int .i64 0] 23 ?_; intro gb263 hg w23 BK263 hb; have GE263 := ngw0 hg HB; replace HB := bS0 HB hb; clear hb hg) | ((with_reducible refine gate_callee (f := 10) rfl ?_); refine gl 15 Try.func10 #[.string a0, .int .i64 a1] ?_; (with_reducible refine (spec_l13Motions.calls _ _ _ _ _ _ A3.out).mono ?_); rintro e w24 ⟨v267, rfl, ho0, hb⟩; refine ⟨_, rfl, ?_⟩; have HO268 := asd (Kd.R_lower ho0 (bsz1 HB GE263)); replace BK263 := bB BK263 hb; replace HB := bS1 HB GE263 hb; (try clear hb); (try clear hb2); (try clear hk); (try clear hi); (try clear ho0); obtain ⟨hcz25_0, hcz25_1, hcz25_2, hfz25_0, hfz25_1, hfz25_2⟩ := bz3 BK263))
  refine bodyPost_ret (results_list (rs := [.tmp 4, .cell 5 23, .tmp 6, .tmp 7]) rfl (by simp) (.tmp (.cell gb263 23 #[.int .i64 0, .int .i64 0, .int .i64 0] (0, 0) _ rfl (bq0 BK263) Try.underlying23 rfl (by kernel_rfl) (.tmp (.tmp .nil))))) rfl ?_
  exact ⟨_, by first | rfl | (simp [errW_none, errW_some] <;> rfl) | (simp [*, errW_none, errW_some] <;> rfl), by first | exact Kd.R_nil _ _ _ _ _ | exact Kd.N_nil _ _ _ _ _ | exact Kd.V_nil _ _ _ _ _ | exact Kd.Q_nil _ _ _ _ _ | exact Kd.S_nil _ _ _ _ _, bbw1 HB GE263⟩
end Go.Proofs.Ytdodghjnlekgeaa.PA
