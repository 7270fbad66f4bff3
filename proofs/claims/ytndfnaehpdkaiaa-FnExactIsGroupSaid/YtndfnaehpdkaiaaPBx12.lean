/- Walks written by program: each Go function that the law reaches comes to the plain function beside it. -/
import Derived.Test.YtndfnaehpdkaiaaPBx0
import Derived.Test.YtndfnaehpdkaiaaPBx3
import Derived.Test.YtndfnaehpdkaiaaPBx10
import Derived.Test.YtndfnaehpdkaiaaPBx11
namespace Go.Proofs.Ytndfnaehpdkaiaa.PB
open Go.RowKit Go.Proofs.YtndfnaehpdkaiaaW.PrintWords Go.Proofs.YtndfnaehpdkaiaaW.PrintLast Go.Proofs.YtndfnaehpdkaiaaW.PrintMore
attribute [local go_sem] max2_int min2_int max_two min_two max_three min_three max_four min_four   -- for this text's walks alone
set_option linter.unusedVariables false
set_option linter.unusedSimpArgs false

/-! ### impl_Motion_times: function 114 -/
def impl_Motion_times.f (a0_0 : Int) (a0_1 : Int) (a0_2 : Int) (a0_3 : Int) (a0_4 : Int) (a0_5 : Int) (a1_0 : Int) (a1_1 : Int) (a1_2 : Int) (a1_3 : Int) (a1_4 : Int) (a1_5 : Int) : Option (Int × Int × Int × Int × Int × Int) := (impl_Mat_times.f a0_0 a0_1 a0_2 a0_3 a1_0 a1_1 a1_2 a1_3).bind fun bt408 => ((impl_Mat_apply.f a0_0 a0_1 a0_2 a0_3 a1_4 a1_5).bind fun bt412 => ((impl_Vec_add.f bt412.1 bt412.2 a0_4 a0_5).bind fun bt414 => (some (bt408.1, bt408.2.1, bt408.2.2.1, bt408.2.2.2, bt414.1, bt414.2))))
def impl_Motion_times.T1 : Bool × List (List Nat × List Nat) := (true, [([], []), ([0], [0]), ([], []), ([2], [2]), ([1, 3], [1, 3]), ([], []), ([5], [5]), ([], []), ([7], [7]), ([6, 8, 4], [6, 8]), ([], []), ([10], [10]), ([9, 11, 9], [9, 11]), ([4, 12], [4, 12]), ([13, 12, 0, 1, 2, 3, 4, 5, 6, 7, 8, 9, 10, 11, 12, 13], [13])])
def impl_Motion_times.B1 : List Nat := [0, 1, 0, 4, 15, 0, 32, 0, 128, 511, 0, 1024, 4095, 8191, 16383]
theorem impl_Motion_times.tab1 : rtab .any (opsOf Try.f114 1) = impl_Motion_times.T1 := by kernel_rfl
theorem impl_Motion_times.bits1 : waitsOk impl_Motion_times.T1.2 impl_Motion_times.B1 = true := by kernel_rfl
set_option maxHeartbeats 8000000 in
set_option maxRecDepth 100000 in
theorem impl_Motion_times.calls (a0_0 : Int) (a0_1 : Int) (a0_2 : Int) (a0_3 : Int) (a0_4 : Int) (a0_5 : Int) (a1_0 : Int) (a1_1 : Int) (a1_2 : Int) (a1_3 : Int) (a1_4 : Int) (a1_5 : Int) (r1 : Int) (r2 : Int) (r3 : Int) (r4 : Int) (r5 : Int) (r6 : Int) (w : World) (h : impl_Motion_times.f a0_0 a0_1 a0_2 a0_3 a0_4 a0_5 a1_0 a1_1 a1_2 a1_3 a1_4 a1_5 = some (r1, r2, r3, r4, r5, r6)) :
  Calls Try.prog 114 #[.agg #[.int .i64 a0_0, .int .i64 a0_1, .int .i64 a0_2, .int .i64 a0_3, .int .i64 a0_4, .int .i64 a0_5], .agg #[.int .i64 a1_0, .int .i64 a1_1, .int .i64 a1_2, .int .i64 a1_3, .int .i64 a1_4, .int .i64 a1_5]] w fun e w' => e = .returned (.agg #[.int .i64 r1, .int .i64 r2, .int .i64 r3, .int .i64 r4, .int .i64 r5, .int .i64 r6]) ∧ Below w.heap.size w w' := by
 have hu36 := Try.underlying36
 have hu33 := Try.underlying33
 have hu34 := Try.underlying34
 have HB := Aside0.mk (Below.refl w.heap.size w)
 have H : ((impl_Mat_times.f a0_0 a0_1 a0_2 a0_3 a1_0 a1_1 a1_2 a1_3).bind fun bt408 => ((impl_Mat_apply.f a0_0 a0_1 a0_2 a0_3 a1_4 a1_5).bind fun bt412 => ((impl_Vec_add.f bt412.1 bt412.2 a0_4 a0_5).bind fun bt414 => (some (bt408.1, bt408.2.1, bt408.2.2.1, bt408.2.2.2, bt414.1, bt414.2))))) = some (r1, r2, r3, r4, r5, r6) := h
 clear h
 replace H := Option.bind_eq_some_iff.mp H
 obtain ⟨⟨t408, t409, t410, t411⟩, A30, H⟩ := H
 replace H : ((impl_Mat_apply.f a0_0 a0_1 a0_2 a0_3 a1_4 a1_5).bind fun bt412 => ((impl_Vec_add.f bt412.1 bt412.2 a0_4 a0_5).bind fun bt414 => (some (t408, t409, t410, t411, bt414.1, bt414.2)))) = some (r1, r2, r3, r4, r5, r6) := H
 have A3 := Aside0.mk A30
 clear A30
 replace H := Option.bind_eq_some_iff.mp H
 obtain ⟨⟨t412, t413⟩, A40, H⟩ := H
 replace H : ((impl_Vec_add.f t412 t413 a0_4 a0_5).bind fun bt414 => (some (t408, t409, t410, t411, bt414.1, bt414.2))) = some (r1, r2, r3, r4, r5, r6) := H
 have A4 := Aside0.mk A40
 clear A40
 replace H := Option.bind_eq_some_iff.mp H
 obtain ⟨⟨t414, t415⟩, A50, H⟩ := H
 replace H : (some (t408, t409, t410, t411, t414, t415)) = some (r1, r2, r3, r4, r5, r6) := H
 have A5 := Aside0.mk A50
 clear A50
 simp only [Option.some.injEq, Prod.mk.injEq] at H
 obtain ⟨rfl, rfl, rfl, rfl, rfl, rfl⟩ := H
 go_enter Try.func114, Try.ntmps114
 try go_wp2_with (first | ((with_reducible refine gate_dst (N := 2) rfl ?_); refine box_event ?hg (N := 2) ?hd (cs := #[.int .i64 a0_0, .int .i64 a0_1, .int .i64 a0_2, .int .i64 a0_3, .int .i64 a0_4, .int .i64 a0_5]) (t := 36) ?hr ?_; (case hd => rfl); (case hg => rfl); (case hr => first | (go_simp; done) | (go_simp; rfl)); intro gb405 hg w6 hbox hb; have BK405 := Aside0.mk (hbox); have GW405 := ngw0 hg HB; have GE405 := ngw0 hg HB; replace HB := Aside0.mk (bst0 HB hb); clear hb hbox hg) | ((with_reducible refine gate_dst (N := 3) rfl ?_); refine box_event ?hg (N := 3) ?hd (cs := #[.int .i64 a1_0, .int .i64 a1_1, .int .i64 a1_2, .int .i64 a1_3, .int .i64 a1_4, .int .i64 a1_5]) (t := 36) ?hr ?_; (case hd => rfl); (case hg => rfl); (case hr => first | (go_simp; done) | (go_simp; rfl)); intro gb406 hg w7 hbox hb; have BK406 := Aside0.mk (hbox); have GW406 := ngw1 hg HB GE405; have GE406 := ngw1 hg HB GE405; replace HB := Aside0.mk (bst1 HB GE405 hb); have NB405_406 := nlt hg BK405; have NB406_405 := nsy (nlt hg BK405); replace BK405 := Aside0.mk (bbl BK405 hb); clear hb hbox hg) | ((with_reducible refine gate_dst (N := 4) rfl ?_); refine box_event ?hg (N := 4) ?hd (cs := #[.int .i64 0, .int .i64 0, .int .i64 0, .int .i64 0, .int .i64 0, .int .i64 0]) (t := 36) ?hr ?_; (case hd => rfl); (case hg => rfl); (case hr => first | (go_simp; done) | (go_simp; rfl)); intro gb407 hg w8 hbox hb; have BK407 := Aside0.mk (hbox); have GW407 := ngw2 hg HB GE405 GE406; have GE407 := ngw2 hg HB GE405 GE406; replace HB := Aside0.mk (bst2 HB GE405 GE406 hb); have NB405_407 := nlt hg BK405; have NB407_405 := nsy (nlt hg BK405); replace BK405 := Aside0.mk (bbl BK405 hb); have NB406_407 := nlt hg BK406; have NB407_406 := nsy (nlt hg BK406); replace BK406 := Aside0.mk (bbl BK406 hb); clear hb hbox hg))
 replace BK405 := Aside0.mk (blk_drew BK405.out)
 replace BK406 := Aside0.mk (blk_drew BK406.out)
 replace BK407 := Aside0.mk (blk_drew BK407.out)
 replace HB := Aside0.mk (below_drew1 HB.out)
 refine start_ (n := 15) (S := fun w' => w'.cell? ⟨gb405, 0, none⟩ = some (.int .i64 a0_0) ∧ w'.cell? ⟨gb405, 1, none⟩ = some (.int .i64 a0_1) ∧ w'.cell? ⟨gb405, 2, none⟩ = some (.int .i64 a0_2) ∧ w'.cell? ⟨gb405, 3, none⟩ = some (.int .i64 a0_3) ∧ w'.cell? ⟨gb405, 4, none⟩ = some (.int .i64 a0_4) ∧ w'.cell? ⟨gb405, 5, none⟩ = some (.int .i64 a0_5) ∧ w'.cell? ⟨gb406, 0, none⟩ = some (.int .i64 a1_0) ∧ w'.cell? ⟨gb406, 1, none⟩ = some (.int .i64 a1_1) ∧ w'.cell? ⟨gb406, 2, none⟩ = some (.int .i64 a1_2) ∧ w'.cell? ⟨gb406, 3, none⟩ = some (.int .i64 a1_3) ∧ w'.cell? ⟨gb406, 4, none⟩ = some (.int .i64 a1_4) ∧ w'.cell? ⟨gb406, 5, none⟩ = some (.int .i64 a1_5)) (ds := []) (bt 15 0) (by kernel_rfl) rfl rfl ⟨bcl BK405 0, bcl BK405 1, bcl BK405 2, bcl BK405 3, bcl BK405 4, bcl BK405 5, bcl BK406 0, bcl BK406 1, bcl BK406 2, bcl BK406 3, bcl BK406 4, bcl BK406 5⟩ (fun hHeld => ?_); refine with_tabW impl_Motion_times.tab1 impl_Motion_times.bits1 (fun HT_ HW_ => ?_)
 generalize w8.drew = w9 at BK405 BK406 BK407 HB hHeld ⊢
 refine pu 0 (some 5) (bt 15 1) HT_ ?_
 refine pu 2 (some 7) #[true, false, true, false, false, false, false, false, false, false, false, false, false, false, false] HT_ ?_
 refine pu 5 (some 10) #[true, false, true, false, false, true, false, false, false, false, false, false, false, false, false] HT_ ?_
 refine pu 7 (some 12) #[true, false, true, false, false, true, false, true, false, false, false, false, false, false, false] HT_ ?_
 refine pu 10 (some 15) #[true, false, true, false, false, true, false, true, false, false, true, false, false, false, false] HT_ ?_
 refine ta 1 (some 6) #[true, true, true, false, false, true, false, true, false, false, true, false, false, false, false] HT_ HW_ hHeld ?_
 refine ta 3 (some 8) #[true, true, true, true, false, true, false, true, false, false, true, false, false, false, false] HT_ HW_ hHeld ?_
 refine ta 6 (some 11) #[true, true, true, true, false, true, true, true, false, false, true, false, false, false, false] HT_ HW_ hHeld ?_
 refine ta 8 (some 13) #[true, true, true, true, false, true, true, true, true, false, true, false, false, false, false] HT_ HW_ hHeld ?_
 refine ta 11 (some 16) #[true, true, true, true, false, true, true, true, true, false, true, true, false, false, false] HT_ HW_ hHeld ?_
 refine one_ (i := 4) (N := some 9) #[true, true, true, true, true, true, true, true, true, false, true, true, false, false, false] rfl rfl (one_of HT_.out (by kernel_rfl)) (by decide) (fun K hK => ?_)
 refine goes_ Try.func136 (by kernel_rfl) rfl #[.agg #[.int .i64 a0_0, .int .i64 a0_1, .int .i64 a0_2, .int .i64 a0_3], .agg #[.int .i64 a1_0, .int .i64 a1_1, .int .i64 a1_2, .int .i64 a1_3]] (by rfl) rfl rfl (by (try simp only [List.map_toArray, List.map_cons, List.map_nil]); first | done | rfl | (simp only [List.length_drop, List.length_take]; rfl)) ?_
 with_reducible refine (impl_Mat_times.calls a0_0 a0_1 a0_2 a0_3 a1_0 a1_1 a1_2 a1_3 t408 t409 t410 t411 _ A3.out).mono ?_
 rintro e w10 ⟨rfl, hb⟩
 refine ⟨_, rfl, ?_⟩
 replace BK405 := Aside0.mk (bbl BK405 hb)
 replace BK406 := Aside0.mk (bbl BK406 hb)
 replace BK407 := Aside0.mk (bbl BK407 hb)
 replace HB := Aside0.mk (bst3 HB GE405 GE406 GE407 hb)
 (try clear hb)
 (try clear hb2)
 (try clear hk)
 (try clear hi)
 refine hK.out _ _ ⟨bcl BK405 0, bcl BK405 1, bcl BK405 2, bcl BK405 3, bcl BK405 4, bcl BK405 5, bcl BK406 0, bcl BK406 1, bcl BK406 2, bcl BK406 3, bcl BK406 4, bcl BK406 5⟩ (fun hHeld => ?_)
 clear hK K
 refine norm_ (a' := ?_) ?_ ?_
 rotate_left
 ·show Act.put _ (some 9) _ = _
  simp only [Act.put, sA, sB, sC, i64_w, i32_w]
  rfl
 refine one_ (i := 9) (N := some 14) (bt 15 12) rfl rfl (one_of HT_.out (by kernel_rfl)) (by decide) (fun K hK => ?_)
 refine goes_ Try.func124 (by kernel_rfl) rfl #[.agg #[.int .i64 a0_0, .int .i64 a0_1, .int .i64 a0_2, .int .i64 a0_3], .agg #[.int .i64 a1_4, .int .i64 a1_5]] (by rfl) rfl rfl (by (try simp only [List.map_toArray, List.map_cons, List.map_nil]); first | done | rfl | (simp only [List.length_drop, List.length_take]; rfl)) ?_
 with_reducible refine (impl_Mat_apply.calls a0_0 a0_1 a0_2 a0_3 a1_4 a1_5 t412 t413 _ A4.out).mono ?_
 rintro e w11 ⟨rfl, hb⟩
 refine ⟨_, rfl, ?_⟩
 replace BK405 := Aside0.mk (bbl BK405 hb)
 replace BK406 := Aside0.mk (bbl BK406 hb)
 replace BK407 := Aside0.mk (bbl BK407 hb)
 replace HB := Aside0.mk (bst3 HB GE405 GE406 GE407 hb)
 (try clear hb)
 (try clear hb2)
 (try clear hk)
 (try clear hi)
 refine hK.out _ _ ⟨bcl BK405 0, bcl BK405 1, bcl BK405 2, bcl BK405 3, bcl BK405 4, bcl BK405 5, bcl BK406 0, bcl BK406 1, bcl BK406 2, bcl BK406 3, bcl BK406 4, bcl BK406 5⟩ (fun hHeld => ?_)
 clear hK K
 refine norm_ (a' := ?_) ?_ ?_
 rotate_left
 ·show Act.put _ (some 14) _ = _
  simp only [Act.put, sA, sB, sC, i64_w, i32_w]
  rfl
 refine one_ (i := 12) (N := some 17) (bt 15 13) rfl rfl (one_of HT_.out (by kernel_rfl)) (by decide) (fun K hK => ?_)
 refine goes_ Try.func94 (by kernel_rfl) rfl #[.agg #[.int .i64 t412, .int .i64 t413], .agg #[.int .i64 a0_4, .int .i64 a0_5]] (by rfl) rfl rfl (by (try simp only [List.map_toArray, List.map_cons, List.map_nil]); first | done | rfl | (simp only [List.length_drop, List.length_take]; rfl)) ?_
 with_reducible refine (impl_Vec_add.calls t412 t413 a0_4 a0_5 t414 t415 _ A5.out).mono ?_
 rintro e w12 ⟨rfl, hb⟩
 refine ⟨_, rfl, ?_⟩
 replace BK405 := Aside0.mk (bbl BK405 hb)
 replace BK406 := Aside0.mk (bbl BK406 hb)
 replace BK407 := Aside0.mk (bbl BK407 hb)
 replace HB := Aside0.mk (bst3 HB GE405 GE406 GE407 hb)
 (try clear hb)
 (try clear hb2)
 (try clear hk)
 (try clear hi)
 refine hK.out _ _ ⟨bcl BK405 0, bcl BK405 1, bcl BK405 2, bcl BK405 3, bcl BK405 4, bcl BK405 5, bcl BK406 0, bcl BK406 1, bcl BK406 2, bcl BK406 3, bcl BK406 4, bcl BK406 5⟩ (fun hHeld => ?_)
 clear hK K
 refine norm_ (a' := ?_) ?_ ?_
 rotate_left
 ·show Act.put _ (some 17) _ = _
  simp only [Act.put, sA, sB, sC, i64_w, i32_w]
  rfl
 refine pu 13 (some 18) (bt 15 14) HT_ ?_
 refine one_ (i := 14) (N := none) (bt 15 15) rfl rfl (one_of HT_.out (by kernel_rfl)) (by decide) (fun K hK => ?_)
 have hs13 : w12.cell? ⟨gb407, 0, none⟩ = some (.int .i64 0) := bcl BK407 0
 have hfs13 := blk_frozen BK407.out 0
 have hns13_0 := NB405_407.out
 have hns13_1 := NB406_407.out
 have hms13_0 := NB407_405.out
 have hms13_1 := NB407_406.out
 have hs14 : w12.cell? ⟨gb407, 1, none⟩ = some (.int .i64 0) := bcl BK407 1
 have hfs14 := blk_frozen BK407.out 1
 have hns14_0 := NB405_407.out
 have hns14_1 := NB406_407.out
 have hms14_0 := NB407_405.out
 have hms14_1 := NB407_406.out
 have hs15 : w12.cell? ⟨gb407, 2, none⟩ = some (.int .i64 0) := bcl BK407 2
 have hfs15 := blk_frozen BK407.out 2
 have hns15_0 := NB405_407.out
 have hns15_1 := NB406_407.out
 have hms15_0 := NB407_405.out
 have hms15_1 := NB407_406.out
 have hs16 : w12.cell? ⟨gb407, 3, none⟩ = some (.int .i64 0) := bcl BK407 3
 have hfs16 := blk_frozen BK407.out 3
 have hns16_0 := NB405_407.out
 have hns16_1 := NB406_407.out
 have hms16_0 := NB407_405.out
 have hms16_1 := NB407_406.out
 have hs17 : w12.cell? ⟨gb407, 4, none⟩ = some (.int .i64 0) := bcl BK407 4
 have hfs17 := blk_frozen BK407.out 4
 have hns17_0 := NB405_407.out
 have hns17_1 := NB406_407.out
 have hms17_0 := NB407_405.out
 have hms17_1 := NB407_406.out
 have hs18 : w12.cell? ⟨gb407, 5, none⟩ = some (.int .i64 0) := bcl BK407 5
 have hfs18 := blk_frozen BK407.out 5
 have hns18_0 := NB405_407.out
 have hns18_1 := NB406_407.out
 have hms18_0 := NB407_405.out
 have hms18_1 := NB407_406.out
 refine skip_ (w1 := ?_) (by rfl) rfl ?_ ?_
 rotate_left
 ·go_simp
  rfl
 refine hK.out _ _ ⟨((cell_far (p := ⟨gb407, _, none⟩) NB405_407.out _).trans (((cell_far (p := ⟨gb407, _, none⟩) NB405_407.out _).trans (((cell_far (p := ⟨gb407, _, none⟩) NB405_407.out _).trans (((cell_far (p := ⟨gb407, _, none⟩) NB405_407.out _).trans (((cell_far (p := ⟨gb407, _, none⟩) NB405_407.out _).trans (((cell_far (p := ⟨gb407, _, none⟩) NB405_407.out _).trans (hHeld.1)))))))))))), ((cell_far (p := ⟨gb407, _, none⟩) NB405_407.out _).trans (((cell_far (p := ⟨gb407, _, none⟩) NB405_407.out _).trans (((cell_far (p := ⟨gb407, _, none⟩) NB405_407.out _).trans (((cell_far (p := ⟨gb407, _, none⟩) NB405_407.out _).trans (((cell_far (p := ⟨gb407, _, none⟩) NB405_407.out _).trans (((cell_far (p := ⟨gb407, _, none⟩) NB405_407.out _).trans (hHeld.2.1)))))))))))), ((cell_far (p := ⟨gb407, _, none⟩) NB405_407.out _).trans (((cell_far (p := ⟨gb407, _, none⟩) NB405_407.out _).trans (((cell_far (p := ⟨gb407, _, none⟩) NB405_407.out _).trans (((cell_far (p := ⟨gb407, _, none⟩) NB405_407.out _).trans (((cell_far (p := ⟨gb407, _, none⟩) NB405_407.out _).trans (((cell_far (p := ⟨gb407, _, none⟩) NB405_407.out _).trans (hHeld.2.2.1)))))))))))), ((cell_far (p := ⟨gb407, _, none⟩) NB405_407.out _).trans (((cell_far (p := ⟨gb407, _, none⟩) NB405_407.out _).trans (((cell_far (p := ⟨gb407, _, none⟩) NB405_407.out _).trans (((cell_far (p := ⟨gb407, _, none⟩) NB405_407.out _).trans (((cell_far (p := ⟨gb407, _, none⟩) NB405_407.out _).trans (((cell_far (p := ⟨gb407, _, none⟩) NB405_407.out _).trans (hHeld.2.2.2.1)))))))))))), ((cell_far (p := ⟨gb407, _, none⟩) NB405_407.out _).trans (((cell_far (p := ⟨gb407, _, none⟩) NB405_407.out _).trans (((cell_far (p := ⟨gb407, _, none⟩) NB405_407.out _).trans (((cell_far (p := ⟨gb407, _, none⟩) NB405_407.out _).trans (((cell_far (p := ⟨gb407, _, none⟩) NB405_407.out _).trans (((cell_far (p := ⟨gb407, _, none⟩) NB405_407.out _).trans (hHeld.2.2.2.2.1)))))))))))), ((cell_far (p := ⟨gb407, _, none⟩) NB405_407.out _).trans (((cell_far (p := ⟨gb407, _, none⟩) NB405_407.out _).trans (((cell_far (p := ⟨gb407, _, none⟩) NB405_407.out _).trans (((cell_far (p := ⟨gb407, _, none⟩) NB405_407.out _).trans (((cell_far (p := ⟨gb407, _, none⟩) NB405_407.out _).trans (((cell_far (p := ⟨gb407, _, none⟩) NB405_407.out _).trans (hHeld.2.2.2.2.2.1)))))))))))), ((cell_far (p := ⟨gb407, _, none⟩) NB406_407.out _).trans (((cell_far (p := ⟨gb407, _, none⟩) NB406_407.out _).trans (((cell_far (p := ⟨gb407, _, none⟩) NB406_407.out _).trans (((cell_far (p := ⟨gb407, _, none⟩) NB406_407.out _).trans (((cell_far (p := ⟨gb407, _, none⟩) NB406_407.out _).trans (((cell_far (p := ⟨gb407, _, none⟩) NB406_407.out _).trans (hHeld.2.2.2.2.2.2.1)))))))))))), ((cell_far (p := ⟨gb407, _, none⟩) NB406_407.out _).trans (((cell_far (p := ⟨gb407, _, none⟩) NB406_407.out _).trans (((cell_far (p := ⟨gb407, _, none⟩) NB406_407.out _).trans (((cell_far (p := ⟨gb407, _, none⟩) NB406_407.out _).trans (((cell_far (p := ⟨gb407, _, none⟩) NB406_407.out _).trans (((cell_far (p := ⟨gb407, _, none⟩) NB406_407.out _).trans (hHeld.2.2.2.2.2.2.2.1)))))))))))), ((cell_far (p := ⟨gb407, _, none⟩) NB406_407.out _).trans (((cell_far (p := ⟨gb407, _, none⟩) NB406_407.out _).trans (((cell_far (p := ⟨gb407, _, none⟩) NB406_407.out _).trans (((cell_far (p := ⟨gb407, _, none⟩) NB406_407.out _).trans (((cell_far (p := ⟨gb407, _, none⟩) NB406_407.out _).trans (((cell_far (p := ⟨gb407, _, none⟩) NB406_407.out _).trans (hHeld.2.2.2.2.2.2.2.2.1)))))))))))), ((cell_far (p := ⟨gb407, _, none⟩) NB406_407.out _).trans (((cell_far (p := ⟨gb407, _, none⟩) NB406_407.out _).trans (((cell_far (p := ⟨gb407, _, none⟩) NB406_407.out _).trans (((cell_far (p := ⟨gb407, _, none⟩) NB406_407.out _).trans (((cell_far (p := ⟨gb407, _, none⟩) NB406_407.out _).trans (((cell_far (p := ⟨gb407, _, none⟩) NB406_407.out _).trans (hHeld.2.2.2.2.2.2.2.2.2.1)))))))))))), ((cell_far (p := ⟨gb407, _, none⟩) NB406_407.out _).trans (((cell_far (p := ⟨gb407, _, none⟩) NB406_407.out _).trans (((cell_far (p := ⟨gb407, _, none⟩) NB406_407.out _).trans (((cell_far (p := ⟨gb407, _, none⟩) NB406_407.out _).trans (((cell_far (p := ⟨gb407, _, none⟩) NB406_407.out _).trans (((cell_far (p := ⟨gb407, _, none⟩) NB406_407.out _).trans (hHeld.2.2.2.2.2.2.2.2.2.2.1)))))))))))), ((cell_far (p := ⟨gb407, _, none⟩) NB406_407.out _).trans (((cell_far (p := ⟨gb407, _, none⟩) NB406_407.out _).trans (((cell_far (p := ⟨gb407, _, none⟩) NB406_407.out _).trans (((cell_far (p := ⟨gb407, _, none⟩) NB406_407.out _).trans (((cell_far (p := ⟨gb407, _, none⟩) NB406_407.out _).trans (((cell_far (p := ⟨gb407, _, none⟩) NB406_407.out _).trans (hHeld.2.2.2.2.2.2.2.2.2.2.2))))))))))))⟩ (fun hHeld => ?_)
 clear hK K
 refine done_ (done_of HT_.out (by kernel_rfl)) ?_
 try go_wp2
 refine bodyPost_ret (results_cell_row rfl _ _ gb407 36 #[.int .i64 t408, .int .i64 t409, .int .i64 t410, .int .i64 t411, .int .i64 t414, .int .i64 t415] (0, 0) _ rfl (by (with_reducible repeat (first | refine blk_drewN ?_ _ | refine blk_drew ?_ | refine blk_alloc ?_ _)); refine blk_put (cs := #[.int .i64 t408, .int .i64 t409, .int .i64 t410, .int .i64 t411, .int .i64 t414, .int .i64 0]) ?_ 5 _ rfl; (with_reducible repeat (first | refine blk_drewN ?_ _ | refine blk_drew ?_ | refine blk_alloc ?_ _)); refine blk_put (cs := #[.int .i64 t408, .int .i64 t409, .int .i64 t410, .int .i64 t411, .int .i64 0, .int .i64 0]) ?_ 4 _ rfl; (with_reducible repeat (first | refine blk_drewN ?_ _ | refine blk_drew ?_ | refine blk_alloc ?_ _)); refine blk_put (cs := #[.int .i64 t408, .int .i64 t409, .int .i64 t410, .int .i64 0, .int .i64 0, .int .i64 0]) ?_ 3 _ rfl; (with_reducible repeat (first | refine blk_drewN ?_ _ | refine blk_drew ?_ | refine blk_alloc ?_ _)); refine blk_put (cs := #[.int .i64 t408, .int .i64 t409, .int .i64 0, .int .i64 0, .int .i64 0, .int .i64 0]) ?_ 2 _ rfl; (with_reducible repeat (first | refine blk_drewN ?_ _ | refine blk_drew ?_ | refine blk_alloc ?_ _)); refine blk_put (cs := #[.int .i64 t408, .int .i64 0, .int .i64 0, .int .i64 0, .int .i64 0, .int .i64 0]) ?_ 1 _ rfl; (with_reducible repeat (first | refine blk_drewN ?_ _ | refine blk_drew ?_ | refine blk_alloc ?_ _)); refine blk_put (cs := #[.int .i64 0, .int .i64 0, .int .i64 0, .int .i64 0, .int .i64 0, .int .i64 0]) ?_ 0 _ rfl; (with_reducible repeat (first | refine blk_drewN ?_ _ | refine blk_drew ?_ | refine blk_alloc ?_ _)); exact BK407.out) Try.underlying36 rfl (by kernel_rfl)) rfl ?_
 exact ⟨by first | rfl | (simp [errW_none, errW_some] <;> rfl) | (simp [*, errW_none, errW_some] <;> rfl), bbw3 HB GE405 GE406 GE407⟩

attribute [local go_sem high] eqA34
/-! ### mapMo: function 99999 -/
theorem mapMo.wide : (match Try.prog.underlying 36 with | some (.array _ _) | some (.struct _) => true | _ => false) = true := by rw [Try.underlying36]
set_option maxRecDepth 100000 in
theorem mapMo.law : Go.Maps.Keyed Try.prog 36 := Go.Maps.Keyed.of_law (deep_law_laid (P := Try.prog) (by kernel_rfl) (m := 3) (by omega) (of_decide_eq_true (by kernel_rfl)) (by kernel_rfl) mapMo.wide)
def mapMo.enc (x : S36) : Value := .agg #[.int .i64 x.f0.f0, .int .i64 x.f0.f1, .int .i64 x.f0.f2, .int .i64 x.f0.f3, .int .i64 x.f1.f0, .int .i64 x.f1.f1]
def mapMo.lits (x : S36) : List Lit := [.int .i64 x.f0.f0, .int .i64 x.f0.f1, .int .i64 x.f0.f2, .int .i64 x.f0.f3, .int .i64 x.f1.f0, .int .i64 x.f1.f1]
/-- Do a motion's numbers fit? -/
def mapMo.wf (x : S36) : Bool := (mapMo.lits x).all Lit.wf
def mapMo.kl (x : S36) : Lit := .string (keyBytes (mapMo.lits x))
theorem mapMo.hkey (x : S36) (h : mapMo.wf x = true) : keyOf Try.prog 36 (mapMo.enc x) = some (mapMo.kl x) := by
 simp only [mapMo.wf, mapMo.lits, List.all_cons, List.all_nil, Bool.and_true, Bool.and_eq_true] at h
 obtain ⟨h0, h1, h2, h3, h4, h5⟩ := h
 have k2 : ∀ (d : Nat) (n : Int), (Lit.int .i64 n).wf = true → Try.prog.keyLits (d + 1) 2 [.int .i64 n] = some [.int .i64 n] := fun d n hn => by
  simp [Program.keyLits, Try.underlying2, hn]
 have k34 : ∀ (d : Nat) (a b : Int), (Lit.int .i64 a).wf = true → (Lit.int .i64 b).wf = true → Try.prog.keyLits (d + 2) 34 [.int .i64 a, .int .i64 b] = some [.int .i64 a, .int .i64 b] := fun d a b ha hb => by
  unfold Program.keyLits
  rw [Try.underlying34]
  have c : Try.prog.cellsOf 34 = 2 := by kernel_rfl
  have c2 : Try.prog.cellsOf 2 = 1 := by kernel_rfl
  simp [c, c2, k2, ha, hb]
 have k33 : ∀ (d : Nat) (a b c e : Int), (Lit.int .i64 a).wf = true → (Lit.int .i64 b).wf = true → (Lit.int .i64 c).wf = true → (Lit.int .i64 e).wf = true → Try.prog.keyLits (d + 2) 33 [.int .i64 a, .int .i64 b, .int .i64 c, .int .i64 e] = some [.int .i64 a, .int .i64 b, .int .i64 c, .int .i64 e] := fun d a b c e ha hb hc he => by
  unfold Program.keyLits
  rw [Try.underlying33]
  have c' : Try.prog.cellsOf 33 = 4 := by kernel_rfl
  have c2 : Try.prog.cellsOf 2 = 1 := by kernel_rfl
  simp [c', c2, k2, ha, hb, hc, he]
 have hf : (mapMo.enc x).formed Try.prog 36 = true := by
  simp [Value.formed, mapMo.enc, Try.underlying36, show Try.prog.cellsOf 36 = 6 by kernel_rfl]
 have hk : Try.prog.keyType 36 = true := by kernel_rfl
 have hs : ∃ m, Try.prog.types.size = m + 2 := ⟨Try.prog.types.size - 2, by have : (2 : Nat) ≤ Try.prog.types.size := of_decide_eq_true (by kernel_rfl); omega⟩
 obtain ⟨m, hm⟩ := hs
 unfold keyOf
 rw [Try.underlying36, hm]
 dsimp only
 rw [hk, hf]
 unfold Program.keyLits
 rw [Try.underlying36]
 have c : Try.prog.cellsOf 36 = 6 := by kernel_rfl
 have c33 : Try.prog.cellsOf 33 = 4 := by kernel_rfl
 have c34 : Try.prog.cellsOf 34 = 2 := by kernel_rfl
 simp [mapMo.enc, Value.cells, c, c33, c34, k33, k34, h0, h1, h2, h3, h4, h5, mapMo.kl, mapMo.lits]
/-- Are two motions the same? -/
def mapMo.eqB (x y : S36) : Bool := x.f0.f0 == y.f0.f0 && (x.f0.f1 == y.f0.f1 && (x.f0.f2 == y.f0.f2 && (x.f0.f3 == y.f0.f3 && (x.f1.f0 == y.f1.f0 && x.f1.f1 == y.f1.f1))))
theorem mapMo.eqB_iff (x y : S36) : mapMo.eqB x y = true ↔ x = y := by
 obtain ⟨⟨a, b, c, d⟩, e, f⟩ := x
 obtain ⟨⟨a', b', c', d'⟩, e', f'⟩ := y
 simp only [mapMo.eqB, Bool.and_eq_true, beq_iff_eq]
 constructor
 ·rintro ⟨rfl, rfl, rfl, rfl, rfl, rfl⟩; rfl
 ·intro h; cases h; exact ⟨rfl, rfl, rfl, rfl, rfl, rfl⟩
theorem mapMo.enc_inj {x y : S36} (h : mapMo.enc x = mapMo.enc y) : x = y := by
 obtain ⟨⟨a, b, c, d⟩, e, f⟩ := x
 obtain ⟨⟨a', b', c', d'⟩, e', f'⟩ := y
 simp only [mapMo.enc, Value.agg.injEq, Array.mk.injEq, List.cons.injEq, Value.int.injEq, true_and, and_true] at h
 obtain ⟨rfl, rfl, rfl, rfl, rfl, rfl⟩ := h
 rfl
theorem mapMo.kl_inj {x y : S36} (hx : mapMo.wf x = true) (hy : mapMo.wf y = true) (h : mapMo.kl x = mapMo.kl y) : x = y := by
 have e1 := mapMo.hkey x hx
 have e2 := mapMo.hkey y hy
 rw [← h] at e2
 exact mapMo.enc_inj (mapMo.law.inj e1 e2)
/-- What the map reads as. -/
def mapMo.setD (xs : List S36) (D : DataW Unit) : DataW Unit := xs.foldl (fun D x => D.put (mapMo.kl x) (.lit (.bool true))) D
theorem mapMo.setD_at (y : S36) (hy : mapMo.wf y = true) : ∀ (xs : List S36) (D : DataW Unit) (b : Bool), (∀ x ∈ xs, mapMo.wf x = true) → Go.Maps.IsMap D → D.atKey (mapMo.kl y) (.lit (.bool false)) = .lit (.bool b) →
  (mapMo.setD xs D).atKey (mapMo.kl y) (.lit (.bool false)) = .lit (.bool (b || xs.any fun x => mapMo.eqB x y))
 | [], D, b, _, _, h => by simpa [mapMo.setD] using h
 | x :: xs, D, b, hw, hD, h => by
  have hx := hw x (List.mem_cons_self)
  have ih := mapMo.setD_at y hy xs (D.put (mapMo.kl x) (.lit (.bool true))) (b || mapMo.eqB x y) (fun z hz => hw z (List.mem_cons_of_mem _ hz)) (hD.put _ _) (by
   by_cases e : x = y
   ·subst e
    rw [Go.Maps.atKey_put_same hD (mapMo.law.key (mapMo.hkey x hx))]
    rw [(mapMo.eqB_iff x x).2 rfl, Bool.or_true]
   ·rw [Go.Maps.atKey_put_other (fun g => e (mapMo.kl_inj hx hy g.symm)), h]
    have : mapMo.eqB x y = false := Bool.eq_false_iff.2 (fun g => e ((mapMo.eqB_iff x y).1 g))
    rw [this, Bool.or_false])
  rw [List.any_cons, ← Bool.or_assoc]
  exact ih
/-- Block B is a map of the call's own whose keys are the motions of a list. -/
def mapMo.MS (w : World) (B : Nat) (xs : List S36) : Prop := (∀ x ∈ xs, mapMo.wf x = true) ∧ w.ownsMap Try.prog 36 (plainElem (H := Unit) Try.prog 4) B xs.length (mapMo.setD xs (.map []))
set_option maxRecDepth 100000 in
theorem mapMo.plain_inv {v : Value} {b : Bool} {ps : List MemPlace} (h : plainElem (H := Unit) Try.prog 4 v = some (.lit (.bool b), ps)) : v = .bool b := by
 unfold plainElem at h
 rw [Try.underlying4] at h
 cases v <;> simp at h
 rw [h.1]
theorem mapMo.MS_run {w : World} {B : Nat} {xs : List S36} (h : mapMo.MS w B xs) (y : S36) (hy : mapMo.wf y = true) :
  (Instr.lookup 119 (.map (some B)) (mapMo.enc y) false).run Try.prog w = .ok (.bool (xs.any fun x => mapMo.eqB x y)) w := by
 obtain ⟨v, ps, hrun, hv⟩ := h.2.lookup (e := 4) mapMo.law Try.underlying119 (z := .bool false) (by kernel_rfl) (plainElem_bool Try.underlying4 false) (mapMo.hkey y hy)
 rw [mapMo.setD_at y hy xs (.map []) false h.1 Go.Maps.isMap_empty rfl, Bool.false_or] at hv
 rw [hrun, mapMo.plain_inv hv]
theorem mapMo.MS_ne {w : World} {B : Nat} {xs : List S36} (h : mapMo.MS w B xs) {g : Nat} {cs : Array Value} {t : TypeId} {p : Nat × Nat} (b : w.heap[g]? = some (.cells cs t p)) : B ≠ g := by
 obtain ⟨-, es, clock, hb, -⟩ := h
 rintro rfl
 rw [hb] at b
 cases b
theorem mapMo.MS_move {w w1 : World} {B : Nat} {xs : List S36} (h : mapMo.MS w B xs) (hm : w1.heap[B]? = w.heap[B]?) : mapMo.MS w1 B xs := by
 obtain ⟨h0, es, clock, hb, r⟩ := h
 exact ⟨h0, es, clock, hm.trans hb, r⟩
theorem mapMo.MS_below {w w1 : World} {B : Nat} {xs : List S36} (h : mapMo.MS w B xs) (hb : Below w.heap.size w w1) : mapMo.MS w1 B xs := mapMo.MS_move h (hb.block B h.2.lt)
theorem mapMo.MS_alloc {w : World} {B : Nat} {xs : List S36} (h : mapMo.MS w B xs) (o : Obj) : mapMo.MS (w.alloc o) B xs := mapMo.MS_below h (below_alloc (Below.refl _ _) _)
theorem mapMo.MS_drewN {w : World} {B : Nat} {xs : List S36} (h : mapMo.MS w B xs) (n : Nat) : mapMo.MS (w.drewN n) B xs := h
theorem mapMo.MS_drew {w : World} {B : Nat} {xs : List S36} (h : mapMo.MS w B xs) : mapMo.MS w.drew B xs := h
theorem mapMo.MS_set {w : World} {B : Nat} {xs : List S36} {g j : Nat} {v : Value} (h : mapMo.MS w B xs) (hne : B ≠ g) : mapMo.MS (w.setCell ⟨g, j, none⟩ v) B xs := mapMo.MS_move h (Below.heap_setCell w _ v B hne)
theorem mapMo.R_map {α : Type} {d : Kd α} {e : Nat} {w w1 : World} {base : Nat} {ok : Nat → Prop} {v : Value} {l : List α} (h : d.R e w base ok v l) {B : Nat} {xs : List S36} (hM : mapMo.MS w B xs) (hg : w.grownBy w1 (some B)) : d.R e w1 base ok v l :=
 Kd.R_mono (Kd.R_move (Kd.R_bound h) (fun k hk => by
  obtain ⟨_, _, hlt, _, _, cs, hc⟩ := hk
  exact hg.block k hlt (fun e => (mapMo.MS_ne hM hc) (Option.some.inj e).symm))) (fun _ hk => hk.1)
/-- Is a motion among the map's keys? (Its numbers must fit.) -/
def mapMo.has (_ : Nat) (xs : List S36) (y0 y1 y2 y3 y4 y5 : Int) : Option Bool := if mapMo.wf ⟨⟨y0, y1, y2, y3⟩, ⟨y4, y5⟩⟩ = true then some (xs.any fun x => mapMo.eqB x ⟨⟨y0, y1, y2, y3⟩, ⟨y4, y5⟩⟩) else none
theorem mapMo.has_mono : ∀ (xs : List S36) (y0 y1 y2 y3 y4 y5 : Int) (k : Nat), LeO (mapMo.has k xs y0 y1 y2 y3 y4 y5) (mapMo.has (k + 1) xs y0 y1 y2 y3 y4 y5) := fun _ _ _ _ _ _ _ _ => LeO.refl _
theorem mapMo.has_inv {k : Nat} {xs : List S36} {y0 y1 y2 y3 y4 y5 : Int} {r : Bool} (A : mapMo.has k xs y0 y1 y2 y3 y4 y5 = some r) : mapMo.wf ⟨⟨y0, y1, y2, y3⟩, ⟨y4, y5⟩⟩ = true ∧ (xs.any fun x => mapMo.eqB x ⟨⟨y0, y1, y2, y3⟩, ⟨y4, y5⟩⟩) = r := by
 unfold mapMo.has at A
 by_cases h : mapMo.wf ⟨⟨y0, y1, y2, y3⟩, ⟨y4, y5⟩⟩ = true
 ·rw [if_pos h] at A; exact ⟨h, Option.some.inj A⟩
 ·rw [if_neg h] at A; cases A
theorem mapMo.blk_put {w w1 : World} {g : Nat} {cs : Array Value} {t : TypeId} (h : w.heap[g]? = some (.cells cs t (0, 0))) {B : Nat} {xs : List S36} (hM : mapMo.MS w B xs) (hg : w.grownBy w1 (some B)) : w1.heap[g]? = some (.cells cs t (0, 0)) :=
 (hg.block g (blk_lt h) (fun e => mapMo.MS_ne hM h (Option.some.inj e).symm)).trans h
theorem mapMo.below_put {w W w1 : World} {g : Nat} (h : Below w.heap.size w W) (hB : w.heap.size ≤ g) (hg : W.grownBy w1 (some g)) : Below w.heap.size w w1 :=
 h.trans ⟨hg.os, hg.tape, hg.output, hg.size, fun i hi => hg.block i (Nat.lt_of_lt_of_le hi h.size) (fun e => by have := Option.some.inj e; omega)⟩
section
variable {ops : Array Oper} {rest : List Oper} {o : Oper} {a : Act} {Q : Exit → Act → World → Prop} {Kc : Act → World → Prop} {W : World}
theorem mapMo.make_event (hgd : o.guard = none) {N : Tmp} (_hd : o.dst = some N) (hrun : (execOp a.eval o).run Try.prog W = .ok (.value (.map (some W.heap.size))) (W.alloc (.map #[] 0)))
  (h : ∀ g, g = W.heap.size → ∀ w1, mapMo.MS w1 g [] → Below W.heap.size W w1 → wpList Try.prog ops Q rest (a.put o.dst (.map (some g))) w1) : wpList Try.prog ops Q (o :: rest) a W :=
 Kd.event_run hgd hrun (h _ rfl _ ⟨fun _ hx => absurd hx (by simp), World.ownsMap_made W _ _ _⟩ (below_alloc (Below.refl _ _) _))
theorem mapMo.put_event (hgd : o.guard = none) (m x v : Operand) (hop : o.op = Op.mapUpdate 119 m x v) {B : Nat} {xs : List S36} (hm : a.eval m = .map (some B)) (hM : mapMo.MS W B xs) (y : S36) (hx : a.eval x = mapMo.enc y) (hv : a.eval v = .bool true) (hy : mapMo.wf y = true) (hn : xs.length < 2932031007402)
  (h : ∀ w1, mapMo.MS w1 B (xs ++ [y]) → W.grownBy w1 (some B) → wpList Try.prog ops Q rest (a.put o.dst undef) w1) : wpList Try.prog ops Q (o :: rest) a W :=
 wpList_mapUpdate_own W hgd m x v 119 hop 36 4 mapMo.law Try.underlying119 (plainElem (H := Unit) Try.prog 4) B xs.length _ hm hM.2 (by unfold maxLen; omega) _ _ _ hx hv (mapMo.hkey y hy) _ [] (plainElem_bool Try.underlying4 true)
  (fun w' h1 h2 => h w' ⟨fun z hz => by
   rcases List.mem_append.1 hz with hz | hz
   ·exact hM.1 z hz
   ·rw [List.mem_singleton.1 hz]; exact hy, by
   rw [List.length_append]
   unfold mapMo.setD at h1 ⊢
   rw [List.foldl_append]
   exact h1⟩ h2)
theorem mapMo.get_has {k : Nat} {xs : List S36} {y0 y1 y2 y3 y4 y5 : Int} {r : Bool} (A : mapMo.has k xs y0 y1 y2 y3 y4 y5 = some r) (hgd : o.guard = none) (m x : Operand) (hop : o.op = Op.lookup 119 m x false) {B : Nat} (hm : a.eval m = .map (some B)) (hM : mapMo.MS W B xs) (hx : a.eval x = mapMo.enc ⟨⟨y0, y1, y2, y3⟩, ⟨y4, y5⟩⟩)
  (h : wpList Try.prog ops Q rest (a.put o.dst (.bool r)) W) : wpList Try.prog ops Q (o :: rest) a W := by
 obtain ⟨hy, hr⟩ := mapMo.has_inv A
 subst hr
 exact Kd.event_run hgd (by simp [execOp, hop, hm, hx, mapMo.MS_run hM _ hy, Result.andThen]) h
theorem mapMo.get_step {k : Nat} {xs : List S36} {y0 y1 y2 y3 y4 y5 : Int} {r : Bool} (A : mapMo.has k xs y0 y1 y2 y3 y4 y5 = some r) (hw : Region.wanted o (yielded ops a.tmps) = true) {N : Option Tmp} (hN : o.dst = N) (m x : Operand) (hop : o.op = Op.lookup 119 m x false) {B : Nat} (hm : a.eval m = .map (some B)) (hM : mapMo.MS W B xs) (hx : a.eval x = mapMo.enc ⟨⟨y0, y1, y2, y3⟩, ⟨y4, y5⟩⟩)
  (h : Kc (a.put N (.bool r)) W) : if Region.wanted o (yielded ops a.tmps) = true then Oper.wp Try.prog o a W Kc Q else Kc (a.put N undef) W := by
 obtain ⟨hy, hr⟩ := mapMo.has_inv A
 subst hr
 subst hN
 exact event_step hw (by simp [execOp, hop, hm, hx, mapMo.MS_run hM _ hy, Result.andThen]) h
end
end Go.Proofs.Ytndfnaehpdkaiaa.PB
