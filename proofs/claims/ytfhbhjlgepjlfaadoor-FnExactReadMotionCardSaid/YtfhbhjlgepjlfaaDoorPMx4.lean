/- Walks written by program: each Go function that the law reaches comes to the plain function beside it. -/
import Derived.Test.YtfhbhjlgepjlfaaDoorPMx0
import Derived.Test.YtfhbhjlgepjlfaaDoorPMx1
import Derived.Test.YtfhbhjlgepjlfaaDoorPMx2
import Derived.Test.YtfhbhjlgepjlfaaDoorPMx3
namespace Go.Proofs.YtfhbhjlgepjlfaaDoor.PM
open Go.RowKit Go.Proofs.YtfhbhjlgepjlfaaDoorW.PrintWords Go.Proofs.YtfhbhjlgepjlfaaDoorW.PrintLast Go.Proofs.YtfhbhjlgepjlfaaDoorW.PrintMore
attribute [local go_sem] max2_int min2_int max_two min_two max_three min_three max_four min_four   -- for this text's walks alone
set_option linter.unusedVariables false
set_option linter.unusedSimpArgs false

attribute [local go_sem high] eqA31
/-! ### spec_ReadMotion: function 11 -/
def spec_ReadMotion.f (k : Nat) (a0 : ByteArray) : Option (Int × Int × Int × Int × Int × Int × Bool) := (spec_l01Split.f k a0 59).bind fun t197 => (if (t197.length : Int) = 2 then (if 0 < (t197.length : Int) then ((spec_ReadMat.f k (rdOf ByteArray.empty t197 0)).bind fun bt201 => (if 1 < (t197.length : Int) then ((spec_ReadVec.f k (rdOf ByteArray.empty t197 1)).bind fun bt208 => (if bt201.2.2.2.2 = true then (if bt208.2.2 = true then ((spec_IsMotion.f k bt201.1 bt201.2.1 bt201.2.2.1 bt201.2.2.2.1 bt208.1 bt208.2.1).bind fun t213 => (if t213 = true then (some (bt201.1, bt201.2.1, bt201.2.2.1, bt201.2.2.2.1, bt208.1, bt208.2.1, true)) else (some (0, 0, 0, 0, 0, 0, false)))) else (some (0, 0, 0, 0, 0, 0, false))) else (some (0, 0, 0, 0, 0, 0, false)))) else (none))) else (none)) else (some (0, 0, 0, 0, 0, 0, false)))
set_option maxHeartbeats 8000000 in
set_option maxRecDepth 100000 in
theorem spec_ReadMotion.calls (k : Nat) (a0 : ByteArray) (r1 : Int) (r2 : Int) (r3 : Int) (r4 : Int) (r5 : Int) (r6 : Int) (r7 : Bool) (w : World) (h : spec_ReadMotion.f k a0 = some (r1, r2, r3, r4, r5, r6, r7)) :
  Calls Tryd.prog 11 #[.string a0] w fun e w' => e = .returned (.tuple #[.agg #[.int .i64 r1, .int .i64 r2, .int .i64 r3, .int .i64 r4, .int .i64 r5, .int .i64 r6], .bool r7]) ∧ Below w.heap.size w w' := by
 have hu35 := Tryd.underlying35
 have hu31 := Tryd.underlying31
 have hu33 := Tryd.underlying33
 have HB := asd (Below.refl w.heap.size w)
 have H : ((spec_l01Split.f k a0 59).bind fun t197 => (if (t197.length : Int) = 2 then (if 0 < (t197.length : Int) then ((spec_ReadMat.f k (rdOf ByteArray.empty t197 0)).bind fun bt201 => (if 1 < (t197.length : Int) then ((spec_ReadVec.f k (rdOf ByteArray.empty t197 1)).bind fun bt208 => (if bt201.2.2.2.2 = true then (if bt208.2.2 = true then ((spec_IsMotion.f k bt201.1 bt201.2.1 bt201.2.2.1 bt201.2.2.2.1 bt208.1 bt208.2.1).bind fun t213 => (if t213 = true then (some (bt201.1, bt201.2.1, bt201.2.2.1, bt201.2.2.2.1, bt208.1, bt208.2.1, true)) else (some (0, 0, 0, 0, 0, 0, false)))) else (some (0, 0, 0, 0, 0, 0, false))) else (some (0, 0, 0, 0, 0, 0, false)))) else (none))) else (none)) else (some (0, 0, 0, 0, 0, 0, false)))) = some (r1, r2, r3, r4, r5, r6, r7) := h
 clear h
 obtain ⟨t197, A2, H⟩ := ob H
 try dsimp only at H
 by_cases c3 : (t197.length : Int) = 2
 rw [if_pos c3] at H
 have c3b0 : ((t197.length : Int) == 2) = true := beq_iff_eq.mpr c3
 have c3b1 : ((t197.length : Int) != 2) = false := bne_eq_false_iff_eq.mpr c3
 clear c3
 by_cases c4 : 0 < (t197.length : Int)
 rw [if_pos c4] at H
 have c4b0 := decide_eq_true c4
 have c4b1 : decide (0 < t197.length) = true := decide_eq_true (by omega)
 clear c4
 obtain ⟨⟨t201, t202, t203, t204, t205⟩, A5, H⟩ := ob H
 try dsimp only at H
 by_cases c6 : 1 < (t197.length : Int)
 rw [if_pos c6] at H
 have c6b0 := decide_eq_true c6
 have c6b1 : decide (1 < t197.length) = true := decide_eq_true (by omega)
 clear c6
 obtain ⟨⟨t208, t209, t210⟩, A7, H⟩ := ob H
 try dsimp only at H
 by_cases c8 : t205 = true
 subst c8
 replace H := ifT H
 by_cases c9 : t210 = true
 subst c9
 replace H := ifT H
 obtain ⟨t213, A10, H⟩ := ob H
 try dsimp only at H
 by_cases c11 : t213 = true
 subst c11
 replace H := ifT H
 rotate_left
 replace c11 := Bool.eq_false_iff.mpr c11
 subst c11
 replace H := ifF H
 rotate_left
 replace c9 := Bool.eq_false_iff.mpr c9
 subst c9
 replace H := ifF H
 rotate_left
 replace c8 := Bool.eq_false_iff.mpr c8
 subst c8
 replace H := ifF H
 rotate_left
 ·rw [if_neg c6] at H
  exact absurd H (by simp)
 ·rw [if_neg c4] at H
  exact absurd H (by simp)
 rw [if_neg c3] at H
 have c3b0 : ((t197.length : Int) == 2) = false := beq_eq_false_iff_ne.mpr c3
 have c3b1 : ((t197.length : Int) != 2) = true := bne_iff_ne.mpr c3
 rotate_left
 all_goals
  simp only [Option.some.injEq, Prod.mk.injEq] at H
  obtain ⟨rfl, rfl, rfl, rfl, rfl, rfl, rfl⟩ := H
  go_enter Tryd.func11, Tryd.ntmps11
 ·go_wp2_with (first | ((with_reducible refine gd 2 rfl ?_); refine bx #[.int .i64 0, .int .i64 0, .int .i64 0, .int .i64 0, .int .i64 0, .int .i64 0] 35 ?_; intro gb196 hg w12 BK196 hb; have GE196 := ngw0 hg HB; replace HB := bS0 HB hb; clear hb hg) | ((with_reducible refine gate_callee (f := 19) rfl ?_); refine gl 11 Tryd.func19 #[.string a0, .int .u8 59] ?_; (with_reducible refine (spec_l01Split.calls _ _ _ _ _ A2.out).mono ?_); rintro e w13 ⟨v198, rfl, ho0, hb⟩; refine ⟨_, rfl, ?_⟩; have HO199 := asd (Kd.R_lower ho0 (bsz1 HB GE196)); replace BK196 := bB BK196 hb; replace HB := bS1 HB GE196 hb; (try clear hb); (try clear hb2); (try clear hk); (try clear hi); (try clear ho0); obtain ⟨Ao14, co14, eo14⟩ := Kd.R_slice HO199.out; subst eo14; have p200 : 0 ≤ (0 : Int) := (by omega); have q200 : 0 < (t197.length : Int) := od; obtain ⟨ad200, e200, hx200_0⟩ := Kd.at_string (Kd.R_reads' HO199.out).2.2 0 p200 q200; cases e200; have qi200 : (0 < t197.length) = True := eq_true (by omega); (try rw [show ((0 : Int)).toNat = 0 from rfl] at hx200_0); (try rw [Addr.add_zero'] at hx200_0); replace p200 := eq_true p200; replace q200 := eq_true q200) | ((with_reducible refine gate_callee (f := 27) rfl ?_); refine gl 20 Tryd.func27 #[.string (rdOf ByteArray.empty t197 0)] ?_; (with_reducible refine (spec_ReadMat.calls _ _ _ _ _ _ _ _ A5.out).mono ?_); rintro e w15 ⟨rfl, hb⟩; refine ⟨_, rfl, ?_⟩; replace HO199 := asd (Kd.R_below (kr HO199) hb); replace BK196 := bB BK196 hb; replace HB := bS1 HB GE196 hb; (try clear hb)) | ((with_reducible refine gd 5 rfl ?_); refine bx #[.int .i64 0, .int .i64 0, .int .i64 0, .int .i64 0] 31 ?_; intro gb206 hg w16 BK206 hb; replace HO199 := asd (Kd.R_below (kr HO199) hb); have GE206 := ngw1 hg HB GE196; replace HB := bS1 HB GE196 hb; have NB196_206 := nlt hg BK196; have NB206_196 := nsy (nlt hg BK196); replace BK196 := bB BK196 hb; clear hb hg; have hnb17 := NB206_196.out; have hnc17 := NB196_206.out; obtain ⟨hcz18_0, hcz18_1, hcz18_2, hcz18_3, hfz18_0, hfz18_1, hfz18_2, hfz18_3⟩ := bz4 BK206; have p207 : 0 ≤ (1 : Int) := (by omega); have q207 : 1 < (t197.length : Int) := od; obtain ⟨ad207, e207, hx207_0⟩ := Kd.at_string (Kd.R_reads' HO199.out).2.2 1 p207 q207; obtain rfl : ad200 = ad207 := (by injection e207); (try simp only [show (1 : Int).toNat = 1 from rfl, Nat.reduceMul, Nat.reduceEqDiff, Go.Addr.add, ↓reduceIte] at hx207_0); have qi207 : (1 < t197.length) = True := eq_true (by omega); (try rw [show ((1 : Int)).toNat = 1 from rfl] at hx207_0); have hn207_0 : ad200.block ≠ gb206 := Kd.own_blk (Kd.R_ne HO199.out BK206.out (by decide)); have hn207_1 : ad200.block ≠ gb206 := Kd.own_blk (Kd.R_ne HO199.out BK206.out (by decide)); have hn207_2 : ad200.block ≠ gb206 := Kd.own_blk (Kd.R_ne HO199.out BK206.out (by decide)); have hn207_3 : ad200.block ≠ gb206 := Kd.own_blk (Kd.R_ne HO199.out BK206.out (by decide)); replace hx207_0 := cw4 (.int .i64 t201) (.int .i64 t202) (.int .i64 t203) (.int .i64 t204) hn207_0 hx207_0; clear hn207_0; clear hn207_1; clear hn207_2; clear hn207_3; replace p207 := eq_true p207; replace q207 := eq_true q207) | ((with_reducible refine gate_callee (f := 28) rfl ?_); refine gl 27 Tryd.func28 #[.string (rdOf ByteArray.empty t197 1)] ?_; (with_reducible refine (spec_ReadVec.calls _ _ _ _ _ _ A7.out).mono ?_); rintro e w19 ⟨rfl, hb⟩; refine ⟨_, rfl, ?_⟩; replace HO199 := asd (Kd.R_below (by (with_reducible repeat (first | apply Kd.R_alloc | apply Kd.R_drewN | apply Kd.R_drew)); exact (Kd.R_mono (rw4 (Kd.R_types HO199.out BK206.out (by decide))) (fun _ h_ => h_.1))) hb); replace BK196 := asd (blk_below (g := gb196) (o := .cells #[.int .i64 0, .int .i64 0, .int .i64 0, .int .i64 0, .int .i64 0, .int .i64 0] 35 (0, 0)) (bq1 BK196 NB196_206) hb); replace BK206 := asd (blk_below (g := gb206) (o := .cells #[.int .i64 t201, .int .i64 t202, .int .i64 t203, .int .i64 t204] 31 (0, 0)) (bq0 BK206) hb); replace HB := bS2 HB GE196 GE206 hb; (try clear hb)) | ((with_reducible refine gd 7 rfl ?_); refine bx #[.int .i64 0, .int .i64 0] 33 ?_; intro gb211 hg w20 BK211 hb; replace HO199 := asd (Kd.R_below (kr HO199) hb); have GE211 := ngw2 hg HB GE196 GE206; replace HB := bS2 HB GE196 GE206 hb; have NB196_211 := nlt hg BK196; have NB211_196 := nsy (nlt hg BK196); replace BK196 := bB BK196 hb; have NB206_211 := nlt hg BK206; have NB211_206 := nsy (nlt hg BK206); replace BK206 := bB BK206 hb; clear hb hg; have hnb21 := NB211_196.out; have hnc21 := NB196_211.out; have hnb22 := NB211_206.out; have hnc22 := NB206_211.out; obtain ⟨hcz23_0, hcz23_1, hfz23_0, hfz23_1⟩ := bz2 BK211; obtain ⟨hcz24_0, hcz24_1, hcz24_2, hcz24_3, hfz24_0, hfz24_1, hfz24_2, hfz24_3⟩ := bz4 BK206) | ((with_reducible refine gd 9 rfl ?_); refine bx #[.int .i64 0, .int .i64 0, .int .i64 0, .int .i64 0, .int .i64 0, .int .i64 0] 35 ?_; intro gb212 hg w25 BK212 hb; replace HO199 := asd (Kd.R_below (by (with_reducible repeat (first | apply Kd.R_alloc | apply Kd.R_drewN | apply Kd.R_drew)); exact (Kd.R_mono (rw2 (Kd.R_types HO199.out BK211.out (by decide))) (fun _ h_ => h_.1))) hb); have GE212 := ngw3 hg HB GE196 GE206 GE211; replace HB := bS3 HB GE196 GE206 GE211 hb; have NB196_212 := asd ((by rw [hg]; exact Nat.ne_of_lt (blk_lt (g := gb196) (o := .cells #[.int .i64 0, .int .i64 0, .int .i64 0, .int .i64 0, .int .i64 0, .int .i64 0] 35 (0, 0)) (bq1 BK196 NB196_211)) : gb196 ≠ gb212)); have NB212_196 := asd ((by rw [hg]; exact Nat.ne_of_gt (blk_lt (g := gb196) (o := .cells #[.int .i64 0, .int .i64 0, .int .i64 0, .int .i64 0, .int .i64 0, .int .i64 0] 35 (0, 0)) (bq1 BK196 NB196_211)) : gb212 ≠ gb196)); replace BK196 := asd (blk_below (g := gb196) (o := .cells #[.int .i64 0, .int .i64 0, .int .i64 0, .int .i64 0, .int .i64 0, .int .i64 0] 35 (0, 0)) (bq1 BK196 NB196_211) hb); have NB206_212 := asd ((by rw [hg]; exact Nat.ne_of_lt (blk_lt (g := gb206) (o := .cells #[.int .i64 t201, .int .i64 t202, .int .i64 t203, .int .i64 t204] 31 (0, 0)) (bq1 BK206 NB206_211)) : gb206 ≠ gb212)); have NB212_206 := asd ((by rw [hg]; exact Nat.ne_of_gt (blk_lt (g := gb206) (o := .cells #[.int .i64 t201, .int .i64 t202, .int .i64 t203, .int .i64 t204] 31 (0, 0)) (bq1 BK206 NB206_211)) : gb212 ≠ gb206)); replace BK206 := asd (blk_below (g := gb206) (o := .cells #[.int .i64 t201, .int .i64 t202, .int .i64 t203, .int .i64 t204] 31 (0, 0)) (bq1 BK206 NB206_211) hb); have NB211_212 := asd ((by rw [hg]; exact Nat.ne_of_lt (blk_lt (g := gb211) (o := .cells #[.int .i64 t208, .int .i64 t209] 33 (0, 0)) (bq0 BK211)) : gb211 ≠ gb212)); have NB212_211 := asd ((by rw [hg]; exact Nat.ne_of_gt (blk_lt (g := gb211) (o := .cells #[.int .i64 t208, .int .i64 t209] 33 (0, 0)) (bq0 BK211)) : gb212 ≠ gb211)); replace BK211 := asd (blk_below (g := gb211) (o := .cells #[.int .i64 t208, .int .i64 t209] 33 (0, 0)) (bq0 BK211) hb); clear hb hg; have hnb26 := NB212_196.out; have hnc26 := NB196_212.out; have hnb27 := NB212_206.out; have hnc27 := NB206_212.out; have hnb28 := NB212_211.out; have hnc28 := NB211_212.out; obtain ⟨hcz29_0, hcz29_1, hcz29_2, hcz29_3, hcz29_4, hcz29_5, hfz29_0, hfz29_1, hfz29_2, hfz29_3, hfz29_4, hfz29_5⟩ := bz6 BK212) | (go_at_call 29; (with_reducible refine (spec_IsMotion.calls _ _ _ _ _ _ _ _ _ A10.out).mono ?_); rintro e w30 ⟨rfl, hb⟩; replace HO199 := asd (Kd.R_below (by (with_reducible repeat (first | apply Kd.R_alloc | apply Kd.R_drewN | apply Kd.R_drew)); exact (Kd.R_mono (rw6 (Kd.R_types HO199.out BK212.out (by decide))) (fun _ h_ => h_.1))) hb); replace BK196 := asd (blk_below (g := gb196) (o := .cells #[.int .i64 0, .int .i64 0, .int .i64 0, .int .i64 0, .int .i64 0, .int .i64 0] 35 (0, 0)) (bq1 BK196 NB196_212) hb); replace BK206 := asd (blk_below (g := gb206) (o := .cells #[.int .i64 t201, .int .i64 t202, .int .i64 t203, .int .i64 t204] 31 (0, 0)) (bq1 BK206 NB206_212) hb); replace BK211 := asd (blk_below (g := gb211) (o := .cells #[.int .i64 t208, .int .i64 t209] 33 (0, 0)) (bq1 BK211 NB211_212) hb); replace BK212 := asd (blk_below (g := gb212) (o := .cells #[.int .i64 t201, .int .i64 t202, .int .i64 t203, .int .i64 t204, .int .i64 t208, .int .i64 t209] 35 (0, 0)) (bq0 BK212) hb); replace HB := bS4 HB GE196 GE206 GE211 GE212 hb; (try clear hb); obtain ⟨hcz31_0, hcz31_1, hcz31_2, hcz31_3, hcz31_4, hcz31_5, hfz31_0, hfz31_1, hfz31_2, hfz31_3, hfz31_4, hfz31_5⟩ := bz6 BK212; obtain ⟨hcz32_0, hcz32_1, hcz32_2, hcz32_3, hcz32_4, hcz32_5, hfz32_0, hfz32_1, hfz32_2, hfz32_3, hfz32_4, hfz32_5⟩ := bz6 BK196))
  refine bodyPost_ret (results_ct rfl _ _ gb196 35 #[.int .i64 t201, .int .i64 t202, .int .i64 t203, .int .i64 t204, .int .i64 t208, .int .i64 t209] (0, 0) _ rfl (bq0 BK196) Tryd.underlying35 rfl (by kernel_rfl)) rfl ?_
  exact er (bbw4 HB GE196 GE206 GE211 GE212)
 ·go_wp2_with (first | ((with_reducible refine gd 2 rfl ?_); refine bx #[.int .i64 0, .int .i64 0, .int .i64 0, .int .i64 0, .int .i64 0, .int .i64 0] 35 ?_; intro gb196 hg w33 BK196 hb; have GE196 := ngw0 hg HB; replace HB := bS0 HB hb; clear hb hg) | ((with_reducible refine gate_callee (f := 19) rfl ?_); refine gl 11 Tryd.func19 #[.string a0, .int .u8 59] ?_; (with_reducible refine (spec_l01Split.calls _ _ _ _ _ A2.out).mono ?_); rintro e w34 ⟨v198, rfl, ho0, hb⟩; refine ⟨_, rfl, ?_⟩; have HO199 := asd (Kd.R_lower ho0 (bsz1 HB GE196)); replace BK196 := bB BK196 hb; replace HB := bS1 HB GE196 hb; (try clear hb); (try clear hb2); (try clear hk); (try clear hi); (try clear ho0); obtain ⟨Ao35, co35, eo35⟩ := Kd.R_slice HO199.out; subst eo35; have p200 : 0 ≤ (0 : Int) := (by omega); have q200 : 0 < (t197.length : Int) := od; obtain ⟨ad200, e200, hx200_0⟩ := Kd.at_string (Kd.R_reads' HO199.out).2.2 0 p200 q200; cases e200; have qi200 : (0 < t197.length) = True := eq_true (by omega); (try rw [show ((0 : Int)).toNat = 0 from rfl] at hx200_0); (try rw [Addr.add_zero'] at hx200_0); replace p200 := eq_true p200; replace q200 := eq_true q200) | ((with_reducible refine gate_callee (f := 27) rfl ?_); refine gl 20 Tryd.func27 #[.string (rdOf ByteArray.empty t197 0)] ?_; (with_reducible refine (spec_ReadMat.calls _ _ _ _ _ _ _ _ A5.out).mono ?_); rintro e w36 ⟨rfl, hb⟩; refine ⟨_, rfl, ?_⟩; replace HO199 := asd (Kd.R_below (kr HO199) hb); replace BK196 := bB BK196 hb; replace HB := bS1 HB GE196 hb; (try clear hb)) | ((with_reducible refine gd 5 rfl ?_); refine bx #[.int .i64 0, .int .i64 0, .int .i64 0, .int .i64 0] 31 ?_; intro gb206 hg w37 BK206 hb; replace HO199 := asd (Kd.R_below (kr HO199) hb); have GE206 := ngw1 hg HB GE196; replace HB := bS1 HB GE196 hb; have NB196_206 := nlt hg BK196; have NB206_196 := nsy (nlt hg BK196); replace BK196 := bB BK196 hb; clear hb hg; have hnb38 := NB206_196.out; have hnc38 := NB196_206.out; obtain ⟨hcz39_0, hcz39_1, hcz39_2, hcz39_3, hfz39_0, hfz39_1, hfz39_2, hfz39_3⟩ := bz4 BK206; have p207 : 0 ≤ (1 : Int) := (by omega); have q207 : 1 < (t197.length : Int) := od; obtain ⟨ad207, e207, hx207_0⟩ := Kd.at_string (Kd.R_reads' HO199.out).2.2 1 p207 q207; obtain rfl : ad200 = ad207 := (by injection e207); (try simp only [show (1 : Int).toNat = 1 from rfl, Nat.reduceMul, Nat.reduceEqDiff, Go.Addr.add, ↓reduceIte] at hx207_0); have qi207 : (1 < t197.length) = True := eq_true (by omega); (try rw [show ((1 : Int)).toNat = 1 from rfl] at hx207_0); have hn207_0 : ad200.block ≠ gb206 := Kd.own_blk (Kd.R_ne HO199.out BK206.out (by decide)); have hn207_1 : ad200.block ≠ gb206 := Kd.own_blk (Kd.R_ne HO199.out BK206.out (by decide)); have hn207_2 : ad200.block ≠ gb206 := Kd.own_blk (Kd.R_ne HO199.out BK206.out (by decide)); have hn207_3 : ad200.block ≠ gb206 := Kd.own_blk (Kd.R_ne HO199.out BK206.out (by decide)); replace hx207_0 := cw4 (.int .i64 t201) (.int .i64 t202) (.int .i64 t203) (.int .i64 t204) hn207_0 hx207_0; clear hn207_0; clear hn207_1; clear hn207_2; clear hn207_3; replace p207 := eq_true p207; replace q207 := eq_true q207) | ((with_reducible refine gate_callee (f := 28) rfl ?_); refine gl 27 Tryd.func28 #[.string (rdOf ByteArray.empty t197 1)] ?_; (with_reducible refine (spec_ReadVec.calls _ _ _ _ _ _ A7.out).mono ?_); rintro e w40 ⟨rfl, hb⟩; refine ⟨_, rfl, ?_⟩; replace HO199 := asd (Kd.R_below (by (with_reducible repeat (first | apply Kd.R_alloc | apply Kd.R_drewN | apply Kd.R_drew)); exact (Kd.R_mono (rw4 (Kd.R_types HO199.out BK206.out (by decide))) (fun _ h_ => h_.1))) hb); replace BK196 := asd (blk_below (g := gb196) (o := .cells #[.int .i64 0, .int .i64 0, .int .i64 0, .int .i64 0, .int .i64 0, .int .i64 0] 35 (0, 0)) (bq1 BK196 NB196_206) hb); replace BK206 := asd (blk_below (g := gb206) (o := .cells #[.int .i64 t201, .int .i64 t202, .int .i64 t203, .int .i64 t204] 31 (0, 0)) (bq0 BK206) hb); replace HB := bS2 HB GE196 GE206 hb; (try clear hb)) | ((with_reducible refine gd 7 rfl ?_); refine bx #[.int .i64 0, .int .i64 0] 33 ?_; intro gb211 hg w41 BK211 hb; replace HO199 := asd (Kd.R_below (kr HO199) hb); have GE211 := ngw2 hg HB GE196 GE206; replace HB := bS2 HB GE196 GE206 hb; have NB196_211 := nlt hg BK196; have NB211_196 := nsy (nlt hg BK196); replace BK196 := bB BK196 hb; have NB206_211 := nlt hg BK206; have NB211_206 := nsy (nlt hg BK206); replace BK206 := bB BK206 hb; clear hb hg; have hnb42 := NB211_196.out; have hnc42 := NB196_211.out; have hnb43 := NB211_206.out; have hnc43 := NB206_211.out; obtain ⟨hcz44_0, hcz44_1, hfz44_0, hfz44_1⟩ := bz2 BK211; obtain ⟨hcz45_0, hcz45_1, hcz45_2, hcz45_3, hfz45_0, hfz45_1, hfz45_2, hfz45_3⟩ := bz4 BK206) | ((with_reducible refine gd 9 rfl ?_); refine bx #[.int .i64 0, .int .i64 0, .int .i64 0, .int .i64 0, .int .i64 0, .int .i64 0] 35 ?_; intro gb212 hg w46 BK212 hb; replace HO199 := asd (Kd.R_below (by (with_reducible repeat (first | apply Kd.R_alloc | apply Kd.R_drewN | apply Kd.R_drew)); exact (Kd.R_mono (rw2 (Kd.R_types HO199.out BK211.out (by decide))) (fun _ h_ => h_.1))) hb); have GE212 := ngw3 hg HB GE196 GE206 GE211; replace HB := bS3 HB GE196 GE206 GE211 hb; have NB196_212 := asd ((by rw [hg]; exact Nat.ne_of_lt (blk_lt (g := gb196) (o := .cells #[.int .i64 0, .int .i64 0, .int .i64 0, .int .i64 0, .int .i64 0, .int .i64 0] 35 (0, 0)) (bq1 BK196 NB196_211)) : gb196 ≠ gb212)); have NB212_196 := asd ((by rw [hg]; exact Nat.ne_of_gt (blk_lt (g := gb196) (o := .cells #[.int .i64 0, .int .i64 0, .int .i64 0, .int .i64 0, .int .i64 0, .int .i64 0] 35 (0, 0)) (bq1 BK196 NB196_211)) : gb212 ≠ gb196)); replace BK196 := asd (blk_below (g := gb196) (o := .cells #[.int .i64 0, .int .i64 0, .int .i64 0, .int .i64 0, .int .i64 0, .int .i64 0] 35 (0, 0)) (bq1 BK196 NB196_211) hb); have NB206_212 := asd ((by rw [hg]; exact Nat.ne_of_lt (blk_lt (g := gb206) (o := .cells #[.int .i64 t201, .int .i64 t202, .int .i64 t203, .int .i64 t204] 31 (0, 0)) (bq1 BK206 NB206_211)) : gb206 ≠ gb212)); have NB212_206 := asd ((by rw [hg]; exact Nat.ne_of_gt (blk_lt (g := gb206) (o := .cells #[.int .i64 t201, .int .i64 t202, .int .i64 t203, .int .i64 t204] 31 (0, 0)) (bq1 BK206 NB206_211)) : gb212 ≠ gb206)); replace BK206 := asd (blk_below (g := gb206) (o := .cells #[.int .i64 t201, .int .i64 t202, .int .i64 t203, .int .i64 t204] 31 (0, 0)) (bq1 BK206 NB206_211) hb); have NB211_212 := asd ((by rw [hg]; exact Nat.ne_of_lt (blk_lt (g := gb211) (o := .cells #[.int .i64 t208, .int .i64 t209] 33 (0, 0)) (bq0 BK211)) : gb211 ≠ gb212)); have NB212_211 := asd ((by rw [hg]; exact Nat.ne_of_gt (blk_lt (g := gb211) (o := .cells #[.int .i64 t208, .int .i64 t209] 33 (0, 0)) (bq0 BK211)) : gb212 ≠ gb211)); replace BK211 := asd (blk_below (g := gb211) (o := .cells #[.int .i64 t208, .int .i64 t209] 33 (0, 0)) (bq0 BK211) hb); clear hb hg; have hnb47 := NB212_196.out; have hnc47 := NB196_212.out; have hnb48 := NB212_206.out; have hnc48 := NB206_212.out; have hnb49 := NB212_211.out; have hnc49 := NB211_212.out; obtain ⟨hcz50_0, hcz50_1, hcz50_2, hcz50_3, hcz50_4, hcz50_5, hfz50_0, hfz50_1, hfz50_2, hfz50_3, hfz50_4, hfz50_5⟩ := bz6 BK212) | (go_at_call 29; (with_reducible refine (spec_IsMotion.calls _ _ _ _ _ _ _ _ _ A10.out).mono ?_); rintro e w51 ⟨rfl, hb⟩; replace HO199 := asd (Kd.R_below (by (with_reducible repeat (first | apply Kd.R_alloc | apply Kd.R_drewN | apply Kd.R_drew)); exact (Kd.R_mono (rw6 (Kd.R_types HO199.out BK212.out (by decide))) (fun _ h_ => h_.1))) hb); replace BK196 := asd (blk_below (g := gb196) (o := .cells #[.int .i64 0, .int .i64 0, .int .i64 0, .int .i64 0, .int .i64 0, .int .i64 0] 35 (0, 0)) (bq1 BK196 NB196_212) hb); replace BK206 := asd (blk_below (g := gb206) (o := .cells #[.int .i64 t201, .int .i64 t202, .int .i64 t203, .int .i64 t204] 31 (0, 0)) (bq1 BK206 NB206_212) hb); replace BK211 := asd (blk_below (g := gb211) (o := .cells #[.int .i64 t208, .int .i64 t209] 33 (0, 0)) (bq1 BK211 NB211_212) hb); replace BK212 := asd (blk_below (g := gb212) (o := .cells #[.int .i64 t201, .int .i64 t202, .int .i64 t203, .int .i64 t204, .int .i64 t208, .int .i64 t209] 35 (0, 0)) (bq0 BK212) hb); replace HB := bS4 HB GE196 GE206 GE211 GE212 hb; (try clear hb); obtain ⟨hcz52_0, hcz52_1, hcz52_2, hcz52_3, hcz52_4, hcz52_5, hfz52_0, hfz52_1, hfz52_2, hfz52_3, hfz52_4, hfz52_5⟩ := bz6 BK196))
  refine bodyPost_ret (results_ct rfl _ _ gb196 35 #[.int .i64 0, .int .i64 0, .int .i64 0, .int .i64 0, .int .i64 0, .int .i64 0] (0, 0) _ rfl (bq0 BK196) Tryd.underlying35 rfl (by kernel_rfl)) rfl ?_
  exact er (bbw4 HB GE196 GE206 GE211 GE212)
 rotate_left 2
 ·go_wp2_with (first | ((with_reducible refine gd 2 rfl ?_); refine bx #[.int .i64 0, .int .i64 0, .int .i64 0, .int .i64 0, .int .i64 0, .int .i64 0] 35 ?_; intro gb196 hg w91 BK196 hb; have GE196 := ngw0 hg HB; replace HB := bS0 HB hb; clear hb hg) | ((with_reducible refine gate_callee (f := 19) rfl ?_); refine gl 11 Tryd.func19 #[.string a0, .int .u8 59] ?_; (with_reducible refine (spec_l01Split.calls _ _ _ _ _ A2.out).mono ?_); rintro e w92 ⟨v198, rfl, ho0, hb⟩; refine ⟨_, rfl, ?_⟩; have HO199 := asd (Kd.R_lower ho0 (bsz1 HB GE196)); replace BK196 := bB BK196 hb; replace HB := bS1 HB GE196 hb; (try clear hb); (try clear hb2); (try clear hk); (try clear hi); (try clear ho0); obtain ⟨Ao93, co93, eo93⟩ := Kd.R_slice HO199.out; subst eo93; obtain ⟨hcz94_0, hcz94_1, hcz94_2, hcz94_3, hcz94_4, hcz94_5, hfz94_0, hfz94_1, hfz94_2, hfz94_3, hfz94_4, hfz94_5⟩ := bz6 BK196))
  refine bodyPost_ret (results_ct rfl _ _ gb196 35 #[.int .i64 0, .int .i64 0, .int .i64 0, .int .i64 0, .int .i64 0, .int .i64 0] (0, 0) _ rfl (bq0 BK196) Tryd.underlying35 rfl (by kernel_rfl)) rfl ?_
  exact er (bbw1 HB GE196)
 all_goals
  go_wp2_with (first | ((with_reducible refine gd 2 rfl ?_); refine bx #[.int .i64 0, .int .i64 0, .int .i64 0, .int .i64 0, .int .i64 0, .int .i64 0] 35 ?_; intro gb196 hg w53 BK196 hb; have GE196 := ngw0 hg HB; replace HB := bS0 HB hb; clear hb hg) | ((with_reducible refine gate_callee (f := 19) rfl ?_); refine gl 11 Tryd.func19 #[.string a0, .int .u8 59] ?_; (with_reducible refine (spec_l01Split.calls _ _ _ _ _ A2.out).mono ?_); rintro e w54 ⟨v198, rfl, ho0, hb⟩; refine ⟨_, rfl, ?_⟩; have HO199 := asd (Kd.R_lower ho0 (bsz1 HB GE196)); replace BK196 := bB BK196 hb; replace HB := bS1 HB GE196 hb; (try clear hb); (try clear hb2); (try clear hk); (try clear hi); (try clear ho0); obtain ⟨Ao55, co55, eo55⟩ := Kd.R_slice HO199.out; subst eo55; have p200 : 0 ≤ (0 : Int) := (by omega); have q200 : 0 < (t197.length : Int) := od; obtain ⟨ad200, e200, hx200_0⟩ := Kd.at_string (Kd.R_reads' HO199.out).2.2 0 p200 q200; cases e200; have qi200 : (0 < t197.length) = True := eq_true (by omega); (try rw [show ((0 : Int)).toNat = 0 from rfl] at hx200_0); (try rw [Addr.add_zero'] at hx200_0); replace p200 := eq_true p200; replace q200 := eq_true q200) | ((with_reducible refine gate_callee (f := 27) rfl ?_); refine gl 20 Tryd.func27 #[.string (rdOf ByteArray.empty t197 0)] ?_; (with_reducible refine (spec_ReadMat.calls _ _ _ _ _ _ _ _ A5.out).mono ?_); rintro e w56 ⟨rfl, hb⟩; refine ⟨_, rfl, ?_⟩; replace HO199 := asd (Kd.R_below (kr HO199) hb); replace BK196 := bB BK196 hb; replace HB := bS1 HB GE196 hb; (try clear hb)) | ((with_reducible refine gd 5 rfl ?_); refine bx #[.int .i64 0, .int .i64 0, .int .i64 0, .int .i64 0] 31 ?_; intro gb206 hg w57 BK206 hb; replace HO199 := asd (Kd.R_below (kr HO199) hb); have GE206 := ngw1 hg HB GE196; replace HB := bS1 HB GE196 hb; have NB196_206 := nlt hg BK196; have NB206_196 := nsy (nlt hg BK196); replace BK196 := bB BK196 hb; clear hb hg; have hnb58 := NB206_196.out; have hnc58 := NB196_206.out; obtain ⟨hcz59_0, hcz59_1, hcz59_2, hcz59_3, hfz59_0, hfz59_1, hfz59_2, hfz59_3⟩ := bz4 BK206; have p207 : 0 ≤ (1 : Int) := (by omega); have q207 : 1 < (t197.length : Int) := od; obtain ⟨ad207, e207, hx207_0⟩ := Kd.at_string (Kd.R_reads' HO199.out).2.2 1 p207 q207; obtain rfl : ad200 = ad207 := (by injection e207); (try simp only [show (1 : Int).toNat = 1 from rfl, Nat.reduceMul, Nat.reduceEqDiff, Go.Addr.add, ↓reduceIte] at hx207_0); have qi207 : (1 < t197.length) = True := eq_true (by omega); (try rw [show ((1 : Int)).toNat = 1 from rfl] at hx207_0); have hn207_0 : ad200.block ≠ gb206 := Kd.own_blk (Kd.R_ne HO199.out BK206.out (by decide)); have hn207_1 : ad200.block ≠ gb206 := Kd.own_blk (Kd.R_ne HO199.out BK206.out (by decide)); have hn207_2 : ad200.block ≠ gb206 := Kd.own_blk (Kd.R_ne HO199.out BK206.out (by decide)); have hn207_3 : ad200.block ≠ gb206 := Kd.own_blk (Kd.R_ne HO199.out BK206.out (by decide)); replace hx207_0 := cw4 (.int .i64 t201) (.int .i64 t202) (.int .i64 t203) (.int .i64 t204) hn207_0 hx207_0; clear hn207_0; clear hn207_1; clear hn207_2; clear hn207_3; replace p207 := eq_true p207; replace q207 := eq_true q207) | ((with_reducible refine gate_callee (f := 28) rfl ?_); refine gl 27 Tryd.func28 #[.string (rdOf ByteArray.empty t197 1)] ?_; (with_reducible refine (spec_ReadVec.calls _ _ _ _ _ _ A7.out).mono ?_); rintro e w60 ⟨rfl, hb⟩; refine ⟨_, rfl, ?_⟩; replace HO199 := asd (Kd.R_below (by (with_reducible repeat (first | apply Kd.R_alloc | apply Kd.R_drewN | apply Kd.R_drew)); exact (Kd.R_mono (rw4 (Kd.R_types HO199.out BK206.out (by decide))) (fun _ h_ => h_.1))) hb); replace BK196 := asd (blk_below (g := gb196) (o := .cells #[.int .i64 0, .int .i64 0, .int .i64 0, .int .i64 0, .int .i64 0, .int .i64 0] 35 (0, 0)) (bq1 BK196 NB196_206) hb); replace BK206 := asd (blk_below (g := gb206) (o := .cells #[.int .i64 t201, .int .i64 t202, .int .i64 t203, .int .i64 t204] 31 (0, 0)) (bq0 BK206) hb); replace HB := bS2 HB GE196 GE206 hb; (try clear hb)) | ((with_reducible refine gd 7 rfl ?_); refine bx #[.int .i64 0, .int .i64 0] 33 ?_; intro gb211 hg w61 BK211 hb; replace HO199 := asd (Kd.R_below (kr HO199) hb); have GE211 := ngw2 hg HB GE196 GE206; replace HB := bS2 HB GE196 GE206 hb; have NB196_211 := nlt hg BK196; have NB211_196 := nsy (nlt hg BK196); replace BK196 := bB BK196 hb; have NB206_211 := nlt hg BK206; have NB211_206 := nsy (nlt hg BK206); replace BK206 := bB BK206 hb; clear hb hg; have hnb62 := NB211_196.out; have hnc62 := NB196_211.out; have hnb63 := NB211_206.out; have hnc63 := NB206_211.out; obtain ⟨hcz64_0, hcz64_1, hfz64_0, hfz64_1⟩ := bz2 BK211; obtain ⟨hcz65_0, hcz65_1, hcz65_2, hcz65_3, hfz65_0, hfz65_1, hfz65_2, hfz65_3⟩ := bz4 BK206) | ((with_reducible refine gd 9 rfl ?_); refine bx #[.int .i64 0, .int .i64 0, .int .i64 0, .int .i64 0, .int .i64 0, .int .i64 0] 35 ?_; intro gb212 hg w66 BK212 hb; replace HO199 := asd (Kd.R_below (by (with_reducible repeat (first | apply Kd.R_alloc | apply Kd.R_drewN | apply Kd.R_drew)); exact (Kd.R_mono (rw2 (Kd.R_types HO199.out BK211.out (by decide))) (fun _ h_ => h_.1))) hb); have GE212 := ngw3 hg HB GE196 GE206 GE211; replace HB := bS3 HB GE196 GE206 GE211 hb; have NB196_212 := asd ((by rw [hg]; exact Nat.ne_of_lt (blk_lt (g := gb196) (o := .cells #[.int .i64 0, .int .i64 0, .int .i64 0, .int .i64 0, .int .i64 0, .int .i64 0] 35 (0, 0)) (bq1 BK196 NB196_211)) : gb196 ≠ gb212)); have NB212_196 := asd ((by rw [hg]; exact Nat.ne_of_gt (blk_lt (g := gb196) (o := .cells #[.int .i64 0, .int .i64 0, .int .i64 0, .int .i64 0, .int .i64 0, .int .i64 0] 35 (0, 0)) (bq1 BK196 NB196_211)) : gb212 ≠ gb196)); replace BK196 := asd (blk_below (g := gb196) (o := .cells #[.int .i64 0, .int .i64 0, .int .i64 0, .int .i64 0, .int .i64 0, .int .i64 0] 35 (0, 0)) (bq1 BK196 NB196_211) hb); have NB206_212 := asd ((by rw [hg]; exact Nat.ne_of_lt (blk_lt (g := gb206) (o := .cells #[.int .i64 t201, .int .i64 t202, .int .i64 t203, .int .i64 t204] 31 (0, 0)) (bq1 BK206 NB206_211)) : gb206 ≠ gb212)); have NB212_206 := asd ((by rw [hg]; exact Nat.ne_of_gt (blk_lt (g := gb206) (o := .cells #[.int .i64 t201, .int .i64 t202, .int .i64 t203, .int .i64 t204] 31 (0, 0)) (bq1 BK206 NB206_211)) : gb212 ≠ gb206)); replace BK206 := asd (blk_below (g := gb206) (o := .cells #[.int .i64 t201, .int .i64 t202, .int .i64 t203, .int .i64 t204] 31 (0, 0)) (bq1 BK206 NB206_211) hb); have NB211_212 := asd ((by rw [hg]; exact Nat.ne_of_lt (blk_lt (g := gb211) (o := .cells #[.int .i64 t208, .int .i64 t209] 33 (0, 0)) (bq0 BK211)) : gb211 ≠ gb212)); have NB212_211 := asd ((by rw [hg]; exact Nat.ne_of_gt (blk_lt (g := gb211) (o := .cells #[.int .i64 t208, .int .i64 t209] 33 (0, 0)) (bq0 BK211)) : gb212 ≠ gb211)); replace BK211 := asd (blk_below (g := gb211) (o := .cells #[.int .i64 t208, .int .i64 t209] 33 (0, 0)) (bq0 BK211) hb); clear hb hg; have hnb67 := NB212_196.out; have hnc67 := NB196_212.out; have hnb68 := NB212_206.out; have hnc68 := NB206_212.out; have hnb69 := NB212_211.out; have hnc69 := NB211_212.out; obtain ⟨hcz70_0, hcz70_1, hcz70_2, hcz70_3, hcz70_4, hcz70_5, hfz70_0, hfz70_1, hfz70_2, hfz70_3, hfz70_4, hfz70_5⟩ := bz6 BK212; obtain ⟨hcz71_0, hcz71_1, hcz71_2, hcz71_3, hcz71_4, hcz71_5, hfz71_0, hfz71_1, hfz71_2, hfz71_3, hfz71_4, hfz71_5⟩ := bz6 BK196))
  refine bodyPost_ret (results_ct rfl _ _ gb196 35 #[.int .i64 0, .int .i64 0, .int .i64 0, .int .i64 0, .int .i64 0, .int .i64 0] (0, 0) _ rfl (bq1 BK196 NB196_212) Tryd.underlying35 rfl (by kernel_rfl)) rfl ?_
  exact er (bbw4 HB GE196 GE206 GE211 GE212)
/-! ### texts: function 99998 -/
/-- What the package-level variables that the library reads hold. -/
structure texts.Tab (w : World) : Prop where
 pow10 : Lib.TabIs Tryd.prog w "internal/strconv.uint64pow10" .u64 Lib.pow10Tab
 maxlen : ∃ m, w.cell? ⟨0, 0, none⟩ = some (.int .i64 m)
 errsyntax : ∃ ev, w.cell? ⟨3, 0, none⟩ = some ev ∧ (ev = .nilIface ∨ ∃ te pe, ev = .iface te pe)
 errrange : ∃ ev, w.cell? ⟨4, 0, none⟩ = some ev ∧ (ev = .nilIface ∨ ∃ te pe, ev = .iface te pe)
theorem texts.cell {w w' : World} {p : Addr} {v : Value} (hb : Below w.heap.size w w') (h : w.cell? p = some v) : w'.cell? p = w.cell? p := hb.cell (World.block_lt_of_cell? w _ h)
theorem texts.tabB {w w' : World} (h : texts.Tab w) (hb : Below w.heap.size w w') : texts.Tab w' :=
 ⟨Go.Joins.tab_stays (show Tryd.prog.globalNamed "internal/strconv.uint64pow10" = some 5 by kernel_rfl) h.pow10 hb (Nat.le_refl _), (let ⟨m, hm⟩ := h.maxlen; ⟨m, (texts.cell hb hm).trans hm⟩), (let ⟨m, hm, he⟩ := h.errsyntax; ⟨m, (texts.cell hb hm).trans hm, he⟩), (let ⟨m, hm, he⟩ := h.errrange; ⟨m, (texts.cell hb hm).trans hm, he⟩)⟩

/-! ### strings_Cut: function 30 -/
/-- A text cut at the first separator. -/
def strings_Cut.f (a0 a1 : ByteArray) : Option (ByteArray × ByteArray × Bool) := if a0.size < 4294967281 then some (⟨(Lib.cut a0.data.toList a1.data.toList).1.toArray⟩, ⟨(Lib.cut a0.data.toList a1.data.toList).2.1.toArray⟩, (Lib.cut a0.data.toList a1.data.toList).2.2) else none
theorem strings_Cut.calls (a0 a1 : ByteArray) (r1 r2 : ByteArray) (r3 : Bool) (w : World) (htab : texts.Tab w) (h : strings_Cut.f a0 a1 = some (r1, r2, r3)) : Calls Tryd.prog 30 #[.string a0, .string a1] w fun e w' => e = .returned (.tuple #[.string r1, .string r2, .bool r3]) ∧ Below w.heap.size w w' := by
 unfold strings_Cut.f at h
 by_cases hc : a0.size < 4294967281
 ·rw [if_pos hc] at h
  obtain ⟨m, hm⟩ := htab.maxlen
  injection h with h; injection h with h1 h2; injection h2 with h2 h3
  subst h1 h2 h3
  refine (Tryd.strings_Cut a0 a1 m w hc hm).mono ?_
  rintro e w' ⟨rfl, n, rfl⟩
  exact ⟨rfl, pw_below_drewN (Below.refl _ _) n⟩
 ·rw [if_neg hc] at h; cases h
/-! ### strings_Split: function 38 -/
/-- A text's pieces between a separator that is not empty. -/
def strings_Split.f (a0 a1 : ByteArray) : Option (List ByteArray) := if a0.size < 4294967281 ∧ 1 ≤ a1.size then some (Lib.splitB a1 0 (Lib.countB a0 a1) a0) else none
theorem strings_Split.made (w : World) (rs : List ByteArray) (n : Nat) (hn : n = rs.length) (hm : rs.length ≤ maxLen) : Kd.R Kd.string 9 (w.alloc (.cells (rs.map Value.string).toArray 9)) w.heap.size (fun _ => True) (.slice (some ⟨w.heap.size, 0, none⟩) n n) rs := by
 subst hn
 refine ⟨fun _ _ => trivial, rs.map Value.string, ?_, ?_⟩
 ·have := World.ownsRow_lit (base := w.heap.size) (e := 9) (size := Kd.string.sz) w (rs.map Value.string).toArray rs.length (Nat.le_refl _) hm (by show (rs.map Value.string).toArray.size = rs.length * 1; simp)
  simpa using this
 ·refine ⟨by simp [Kd.string, Kd.scalar], fun j p hp => ?_⟩
  show _ = [Value.string p]
  have hj : j < rs.length := (List.getElem?_eq_some_iff.1 hp).1
  have e : (rs.map Value.string)[j]? = some (Value.string p) := by rw [List.getElem?_map, hp]; rfl
  show ((rs.map Value.string).drop (j * 1)).take 1 = [Value.string p]
  rw [Nat.mul_one, List.drop_eq_getElem_cons (by simpa using hj), List.take_succ_cons, List.take_zero]
  congr 1
  have := List.getElem?_eq_some_iff.1 e
  exact this.2
theorem strings_Split.calls (a0 a1 : ByteArray) (r : List ByteArray) (w : World) (htab : texts.Tab w) (h : strings_Split.f a0 a1 = some r) : Calls Tryd.prog 38 #[.string a0, .string a1] w fun e w' => ∃ v0_ : Value, e = .returned (v0_) ∧ Kd.R Kd.string 9 w' w.heap.size (fun _ => True) v0_ r ∧ Below w.heap.size w w' := by
 unfold strings_Split.f at h
 by_cases hc : a0.size < 4294967281 ∧ 1 ≤ a1.size
 ·rw [if_pos hc] at h
  obtain rfl := Option.some.inj h
  obtain ⟨m, hm⟩ := htab.maxlen
  refine (Tryd.strings_Split a0 a1 m w hc.1 hm hc.2).mono ?_
  rintro e w' ⟨rfl, rfl⟩
  have hl := Lib.splitB_all a1 hc.2 0 _ a0 rfl
  have hle := Lib.countB_le a1 hc.2 a0.size a0 (Nat.le_refl _)
  exact ⟨_, rfl, strings_Split.made w _ _ hl.symm (by unfold maxLen; omega), below_alloc (Below.refl _ _) _⟩
 ·rw [if_neg hc] at h; cases h
/-! ### strconv_FormatInt: function 108 -/
/-- A number's text in decimal. -/
def strconv_FormatInt.f (a0 a1 : Int) : Option ByteArray := if (-9223372036854775808 ≤ a0 ∧ a0 ≤ 9223372036854775807) ∧ a1 = 10 then some ⟨(Lib.itoa a0).toArray⟩ else none
theorem strconv_FormatInt.calls (a0 a1 : Int) (r : ByteArray) (w : World) (htab : texts.Tab w) (h : strconv_FormatInt.f a0 a1 = some r) : Calls Tryd.prog 108 #[.int .i64 a0, .int .i64 a1] w fun e w' => e = .returned (.string r) ∧ Below w.heap.size w w' := by
 unfold strconv_FormatInt.f at h
 by_cases hc : (-9223372036854775808 ≤ a0 ∧ a0 ≤ 9223372036854775807) ∧ a1 = 10
 ·rw [if_pos hc] at h
  obtain ⟨⟨h0, h1⟩, rfl⟩ := hc
  obtain rfl := Option.some.inj h
  refine (Tryd.strconv_FormatInt_10 a0 h0 h1 w htab.pow10).mono ?_
  rintro e w' ⟨he, k, os, rfl⟩
  exact ⟨he, rfl, rfl, rfl, by show w.heap.size ≤ (w.heap ++ os).size; rw [Array.size_append]; omega, fun j hj => by show (w.heap ++ os)[j]? = w.heap[j]?; exact Array.getElem?_append_left hj⟩
 ·rw [if_neg hc] at h; cases h
/-! ### impl_text: function 97 -/
def impl_text.f (a0 : Int) : Option (ByteArray) := (strconv_FormatInt.f a0 10).bind fun t214 => (some t214)
set_option maxHeartbeats 8000000 in
set_option maxRecDepth 100000 in
theorem impl_text.calls (a0 : Int) (r : ByteArray) (w : World) (htab : texts.Tab w) (h : impl_text.f a0 = some r) :
  Calls Tryd.prog 97 #[.int .i64 a0] w fun e w' => e = .returned (.string r) ∧ Below w.heap.size w w' := by
 have HTAB := Aside0.mk htab
 clear htab
 have HB := asd (Below.refl w.heap.size w)
 have H : ((strconv_FormatInt.f a0 10).bind fun t214 => (some t214)) = some r := h
 clear h
 obtain ⟨t214, A2, H⟩ := ob H
 try dsimp only at H
 obtain rfl := Option.some.inj H
 go_enter Tryd.func97, Tryd.ntmps97
 go_wp2_with (first | ((with_reducible refine gate_callee (f := 108) rfl ?_); refine gl 4 Tryd.func108 #[.int .i64 a0, .int .i64 10] ?_; (with_reducible refine (strconv_FormatInt.calls _ _ _ _ (texts.tabB HTAB.out (by repeat (first | (with_reducible first | exact HB.out | exact Below.refl _ _ | apply below_alloc | apply pw_below_drewN | apply below_drew1) | exact HB.out))) A2.out).mono ?_); rintro e w3 ⟨rfl, hb⟩; refine ⟨_, rfl, ?_⟩; replace HB := bS0 HB hb; (try clear hb)))
 go_ret
 exact er (bbw0 HB)
/-! ### impl_number: function 77 -/
/-- The number with a text, and whether there is one. -/
def impl_number.f (a0 : ByteArray) : Option (Int × Bool) := if a0.size ≤ 281474976710656 then (match Lib.parseIntB 64 a0.data.toList with
 | .ok v => some (v, (⟨(Lib.itoa v).toArray⟩ : ByteArray).toList == a0.toList)
 | .range => some (Lib.intSat 64 a0.data.toList, false)
 | .«syntax» => some (0, false)) else none
theorem impl_number.rng {l : List UInt8} {v : Int} (h : Lib.parseIntB 64 l = .ok v) : -9223372036854775808 ≤ v ∧ v ≤ 9223372036854775807 := by
 cases l with
 | nil => cases h
 | cons c r =>
  simp only [Lib.parseIntB] at h
  generalize Lib.parseUintB 64 (if c.toNat = 43 ∨ c.toNat = 45 then r else c :: r) = q at h
  cases q with
  | «syntax» => cases h
  | range => cases h
  | ok u =>
   simp only at h
   by_cases c1 : ¬ c.toNat = 45 ∧ 2 ^ (64 - 1) ≤ u
   ·rw [if_pos c1] at h; cases h
   ·rw [if_neg c1] at h
    by_cases c2 : c.toNat = 45 ∧ 2 ^ (64 - 1) < u
    ·rw [if_pos c2] at h; cases h
    ·rw [if_neg c2] at h
     injection h with h
     subst h
     by_cases c3 : c.toNat = 45
     ·rw [if_pos c3]; omega
     ·rw [if_neg c3]; omega
set_option maxHeartbeats 8000000 in
set_option maxRecDepth 100000 in
theorem impl_number.calls (a0 : ByteArray) (r1 : Int) (r2 : Bool) (w : World) (htab : texts.Tab w) (h : impl_number.f a0 = some (r1, r2)) : Calls Tryd.prog 77 #[.string a0] w fun e w' => e = .returned (.tuple #[.int .i64 r1, .bool r2]) ∧ Below w.heap.size w w' := by
 unfold impl_number.f at h
 by_cases hc : a0.size ≤ 281474976710656
 ·rw [if_pos hc] at h
  cases hp : Lib.parseIntB 64 a0.data.toList with
  | ok v =>
   rw [hp] at h
   injection h with h; injection h with h1 h2
   subst h1 h2
   obtain ⟨q0, q1⟩ := impl_number.rng hp
   have ht : impl_text.f v = some ⟨(Lib.itoa v).toArray⟩ := by
    unfold impl_text.f strconv_FormatInt.f
    rw [if_pos ⟨⟨q0, q1⟩, rfl⟩]; rfl
   have hcall := Tryd.strconv_ParseInt_10_at64_ok a0 (by omega) v hp w
   have htext := fun (w1 : World) (hb : Below w.heap.size w w1) => impl_text.calls v _ w1 (texts.tabB htab hb) ht
   go_enter Tryd.func77, Tryd.ntmps77
   go_wp2_with (first | ((with_reducible refine gate_callee (f := 96) rfl ?_); refine goesL_ (some 8) rfl rfl Tryd.func96 (by kernel_rfl) rfl #[.string a0, .int .i64 10, .int .i64 64] rfl (by (try simp only [List.map_toArray, List.map_cons, List.map_nil]); first | done | rfl) ?_; refine hcall.mono ?_; rintro e w1 ⟨rfl, hw⟩; have hb1 : Below w.heap.size w w1 := (by rcases hw with rfl | ⟨t, rfl⟩; exact Below.refl _ _; exact Go.Joins.below_bytesWorld _ _ _ _ (Nat.le_refl _)); clear hw; refine ⟨_, rfl, ?_⟩) | (go_at_call 97; refine (htext _ (by repeat (first | exact hb1 | apply pw_below_drewN | apply below_drew1))).mono ?_; rintro e w2 ⟨rfl, hb⟩; have hb2 := Below.trans hb1 (Below.mono hb hb1.size)))
   go_ret2
   exact ⟨by first | rfl | (simp; done), by repeat (first | exact hb2 | apply pw_below_drewN | apply below_drew1)⟩
  | range =>
   rw [hp] at h
   injection h with h; injection h with h1 h2
   subst h1 h2
   obtain ⟨ev, hv, hev⟩ := htab.errrange
   have hcall := Tryd.strconv_ParseInt_10_at64_range a0 hc hp ev w hv hev
   go_enter Tryd.func77, Tryd.ntmps77
   go_wp2_with (first | ((with_reducible refine gate_callee (f := 96) rfl ?_); refine goesL_ (some 8) rfl rfl Tryd.func96 (by kernel_rfl) rfl #[.string a0, .int .i64 10, .int .i64 64] rfl (by (try simp only [List.map_toArray, List.map_cons, List.map_nil]); first | done | rfl) ?_; refine hcall.mono ?_; rintro e w1 ⟨N, rfl, hN, hcell, hb1⟩; refine ⟨_, rfl, ?_⟩))
   go_ret2
   exact ⟨by first | rfl | (simp; done), by repeat (first | exact hb1 | apply pw_below_drewN | apply below_drew1)⟩
  | «syntax» =>
   rw [hp] at h
   injection h with h; injection h with h1 h2
   subst h1 h2
   obtain ⟨ev, hv, hev⟩ := htab.errsyntax
   have hcall := Tryd.strconv_ParseInt_10_at64_syntax a0 hc hp ev w hv hev
   go_enter Tryd.func77, Tryd.ntmps77
   go_wp2_with (first | ((with_reducible refine gate_callee (f := 96) rfl ?_); refine goesL_ (some 8) rfl rfl Tryd.func96 (by kernel_rfl) rfl #[.string a0, .int .i64 10, .int .i64 64] rfl (by (try simp only [List.map_toArray, List.map_cons, List.map_nil]); first | done | rfl) ?_; refine hcall.mono ?_; rintro e w1 ⟨N, rfl, hN, hcell, hb1⟩; refine ⟨_, rfl, ?_⟩))
   go_ret2
   exact ⟨by first | rfl | (simp; done), by repeat (first | exact hb1 | apply pw_below_drewN | apply below_drew1)⟩
 ·rw [if_neg hc] at h; cases h
/-! ### impl_parted: function 55 -/
def impl_parted.l0 : Nat → List Int → List ByteArray → Int → Int → Option (List Int × Bool)
 | 0, _, _, _, _ => none
 | k + 1, x9, x22, x23, x24 => if x24 < x23 then (if 0 ≤ x24 then (if x24 < (x22.length : Int) then ((impl_number.f (rdOf ByteArray.empty x22 x24)).bind fun bt222 => (if bt222.2 = true then (if x9.length < 17592186044416 then (impl_parted.l0 k (x9 ++ [bt222.1]) x22 x23 (wrap64 (x24 + 1))) else (none)) else (some (([] : List Int), false)))) else (none)) else (none)) else (some (x9, true))
def impl_parted.f (k : Nat) (a0 : ByteArray) (a1 : ByteArray) (a2 : Int) : Option (List Int × Bool) := (strings_Split.f a0 a1).bind fun t215 => (if (t215.length : Int) = a2 then (impl_parted.l0 k (([] : List Int)) t215 (t215.length : Int) 0) else (some (([] : List Int), false)))
set_option maxHeartbeats 8000000 in
set_option maxRecDepth 100000 in
theorem impl_parted.calls (k : Nat) (a0 : ByteArray) (a1 : ByteArray) (a2 : Int) (r1 : List Int) (r2 : Bool) (w : World) (htab : texts.Tab w) (h : impl_parted.f k a0 a1 a2 = some (r1, r2)) :
  Calls Tryd.prog 55 #[.string a0, .string a1, .int .i64 a2] w fun e w' => ∃ v0_ : Value, e = .returned (.tuple #[v0_, .bool r2]) ∧ Kd.R (Kd.int .i64) 2 w' w.heap.size (fun _ => True) v0_ r1 ∧ Below w.heap.size w w' := by
 have HTAB := Aside0.mk htab
 clear htab
 have HB := asd (Below.refl w.heap.size w)
 have H : ((strings_Split.f a0 a1).bind fun t215 => (if (t215.length : Int) = a2 then (impl_parted.l0 k (([] : List Int)) t215 (t215.length : Int) 0) else (some (([] : List Int), false)))) = some (r1, r2) := h
 clear h
 obtain ⟨t215, A4, H⟩ := ob H
 try dsimp only at H
 by_cases c5 : (t215.length : Int) = a2
 rw [if_pos c5] at H
 have c5b0 : ((t215.length : Int) == a2) = true := beq_iff_eq.mpr c5
 have c5b1 : ((t215.length : Int) != a2) = false := bne_eq_false_iff_eq.mpr c5
 clear c5
 obtain ⟨y218, hy218⟩ : ∃ y_ : List Int, y_ = (([] : List Int)) := ⟨_, rfl⟩
 replace H : (impl_parted.l0 k y218 t215 (t215.length : Int) 0) = some (r1, r2) := by first | (rw [hy218]; with_reducible exact H) | (have H2_ := (Option.bind_some _ _).symm.trans H; rw [hy218]; with_reducible exact H2_) | (have H2_ := (Option.bind_some _ _).symm.trans H; with_reducible exact H2_) | with_reducible exact H | (rw [hy218]; exact H) | exact H
 have Ny218 := Aside0.mk hy218
 clear hy218
 have H' := Aside0.mk H
 clear H
 rotate_left
 rw [if_neg c5] at H
 have c5b0 : ((t215.length : Int) == a2) = false := beq_eq_false_iff_ne.mpr c5
 have c5b1 : ((t215.length : Int) != a2) = true := bne_iff_ne.mpr c5
 rotate_left
 rotate_left
 simp only [Option.some.injEq, Prod.mk.injEq] at H
 obtain ⟨rfl, rfl⟩ := H
 rotate_left
 all_goals
  go_enter Tryd.func55, Tryd.ntmps55
  go_wp2_with (first | ((with_reducible refine gate_callee (f := 38) rfl ?_); refine gl 16 Tryd.func38 #[.string a0, .string a1] ?_; (with_reducible refine (strings_Split.calls _ _ _ _ (texts.tabB HTAB.out (by repeat (first | (with_reducible first | exact HB.out | exact Below.refl _ _ | apply below_alloc | apply pw_below_drewN | apply below_drew1) | exact HB.out))) A4.out).mono ?_); rintro e w6 ⟨v216, rfl, ho0, hb⟩; refine ⟨_, rfl, ?_⟩; have HO217 := asd (Kd.R_lower ho0 (bsz0 HB)); replace HB := bS0 HB hb; (try clear hb); (try clear hb2); (try clear hk); (try clear hi); (try clear ho0); obtain ⟨Ao7, co7, eo7⟩ := Kd.R_slice HO217.out; subst eo7) | ((with_reducible refine gd 21 rfl ?_); refine Kd.R_lit (Kd.int .i64) _ 2 ?hg (N := 21) ?hd (xs := ([] : List Int)) (inner := []) (ok := fun _ => True) (okp := fun _ => True) ?hr ?hp (fun _ hk => hk) trivial (Below.refl _ _) (Nat.le_refl _) (by simp) ?_; (case hd => rfl); (case hg => rfl); (case hr => first | (go_simp; done) | (go_simp; rfl)); (case hp => exact (Reps.none _ _)); intro v219 w8 ho9 hb hg_ hnew_; clear hg_ hnew_; (first | rw [← Ny218.out] at ho9 | (simp only [Int.reduceToNat] at ho9; rw [← Ny218.out] at ho9)); replace HO217 := asd (Kd.R_below (kr HO217) hb); have HO220 := asd (Kd.R_lower ho9 (bsz0 HB)); replace HB := bS0 HB hb; clear hb ho9))
 ·go_loopg [9, 24] k (fun kq v9 v24 w' => ∃ (x9_1 : List Int) (x24_1 : Int), v24 = .int .i64 x24_1 ∧ Aside0 (impl_parted.l0 kq x9_1 t215 (t215.length : Int) x24_1 = some (r1, r2)) ∧ Aside0 (kq ≤ k) ∧ Aside0 (Kd.R (Kd.int .i64) 2 w' w.heap.size (fun _ => True) v9 x9_1) ∧ Aside0 (Kd.R Kd.string 9 w' w.heap.size (fun _ => True) (.slice Ao7 t215.length co7) t215) ∧ Aside0 (Below w.heap.size w w'))
  case atStart => exact ⟨(y218), (0), (by first | rfl | (simp; done) | (simp [*]; done)), H', ⟨Nat.le_refl _⟩, ⟨by (with_reducible repeat (first | apply Kd.R_alloc | apply Kd.R_drewN | apply Kd.R_drew)); exact HO220.out⟩, ⟨by (with_reducible repeat (first | apply Kd.R_alloc | apply Kd.R_drewN | apply Kd.R_drew)); exact HO217.out⟩, ⟨bbw0 HB⟩⟩
  case round =>
   clear H'
   try clear p2
   try clear c3
   try clear c5
   try clear c5b0
   try clear c5b1
   obtain ⟨x9_1, x24_1, rfl, HA, HK1, HO_9, HO_22, HB⟩ := hrel
   cases gk with
   | zero => exact absurd HA.out (by simp [impl_parted.l0])
   | succ k1 =>
    have H := HA.out
    clear HA
    simp only [impl_parted.l0] at H
    by_cases c10 : x24_1 < (t215.length : Int)
    rw [if_pos c10] at H
    have c10b0 := decide_eq_true c10
    clear c10
    by_cases c11 : 0 ≤ x24_1
    rw [if_pos c11] at H
    have c11b0 := decide_eq_true c11
    clear c11
    by_cases c12 : x24_1 < (t215.length : Int)
    rw [if_pos c12] at H
    have c12b0 := decide_eq_true c12
    clear c12
    obtain ⟨⟨t222, t223⟩, A13, H⟩ := ob H
    try dsimp only at H
    by_cases c14 : t223 = true
    subst c14
    replace H := ifT H
    by_cases c15 : x9_1.length < 17592186044416
    rw [if_pos c15] at H
    have LMc15 := Aside0.mk c15
    clear c15
    obtain ⟨y224, hy224⟩ : ∃ y_ : List Int, y_ = (x9_1 ++ [t222]) := ⟨_, rfl⟩
    replace H : (impl_parted.l0 k1 y224 t215 (t215.length : Int) (wrap64 (x24_1 + 1))) = some (r1, r2) := by first | (rw [hy224]; with_reducible exact H) | (have H2_ := (Option.bind_some _ _).symm.trans H; rw [hy224]; with_reducible exact H2_) | (have H2_ := (Option.bind_some _ _).symm.trans H; with_reducible exact H2_) | with_reducible exact H | (rw [hy224]; exact H) | exact H
    have Ny224 := Aside0.mk hy224
    clear hy224
    have H' := Aside0.mk H
    clear H
    rotate_left
    ·rw [if_neg c15] at H
     exact absurd H (by simp)
    replace c14 := Bool.eq_false_iff.mpr c14
    subst c14
    replace H := ifF H
    rotate_left
    ·rw [if_neg c12] at H
     exact absurd H (by simp)
    ·rw [if_neg c11] at H
     exact absurd H (by simp)
    rw [if_neg c10] at H
    have c10b0 := decide_eq_false c10
    clear c10
    rotate_left
    rotate_left
    simp only [Option.some.injEq, Prod.mk.injEq] at H
    obtain ⟨rfl, rfl⟩ := H
    rotate_left
    ·simp only [Option.some.injEq, Prod.mk.injEq] at H
     obtain ⟨rfl, rfl⟩ := H
     go_wp2
     go_ret2
     exact ⟨_, by first | rfl | (simp [errW_none, errW_some] <;> rfl) | (simp [*, errW_none, errW_some] <;> rfl), by (with_reducible repeat (first | apply Kd.R_alloc | apply Kd.R_drewN | apply Kd.R_drew)); exact HO_9.out, bbw0 HB⟩
    all_goals
     have p221 : 0 ≤ (x24_1 : Int) := od
     have q221 : x24_1 < (t215.length : Int) := od
     obtain ⟨ad221, e221, hx221_0⟩ := Kd.at_string (Kd.R_reads' HO_22.out).2.2 x24_1 p221 q221
     cases e221
     replace p221 := eq_true p221
     replace q221 := eq_true q221
     go_wp2_with (first | ((with_reducible refine gate_callee (f := 77) rfl ?_); refine gl 30 Tryd.func77 #[.string (rdOf ByteArray.empty t215 x24_1)] ?_; (with_reducible refine (impl_number.calls _ _ _ _ (texts.tabB HTAB.out (by repeat (first | (with_reducible first | exact HB.out | exact Below.refl _ _ | apply below_alloc | apply pw_below_drewN | apply below_drew1) | exact HB.out))) A13.out).mono ?_); rintro e w16 ⟨rfl, hb⟩; refine ⟨_, rfl, ?_⟩; replace HO_9 := asd (Kd.R_below (kr HO_9) hb); replace HO_22 := asd (Kd.R_below (kr HO_22) hb); replace HB := bS0 HB hb; (try clear hb)) | ((with_reducible refine gate_builtin (b := .append) (xs := #[.tmp 35, .tmp 37]) rfl ?_); at_builtin; refine Kd.R_append (Kd.int .i64) (w0 := w) w.heap.size rfl (.tmp 35) (.tmp 37) 22 2 (.int .i64 0) 8 rfl Tryd.underlying22 info2 rfl (by decide) (by omega) u9 x9_1 t222 [.int .i64 t222] (fun _ => True) (fun _ => False) rfl rfl ?aP (fun _ hk => hk.elim) ?aF ?aO ?aB ?aS ?aL ?_; (case aP => exact rfl); (case aB => exact (bbw0 HB)); (case aF => exact (fun _ _ => trivial)); (case aO => exact (kr HO_9)); (case aS => exact (bsz0 HB)); (case aL => have := LMc15.out; omega); intro v225 w17 ho hb hg hat; rw [← Ny224.out] at ho; have n0_ := asd (Kd.R_over' (kr HO_22) (Kd.R_typed (kr HO_9)) (by decide) hg); have n1_ := asd (hb); have n2_ := asd (ho); clear HO_22; clear HB; clear HO_9; have HO_22 := n0_; have HB := n1_; have HO226 := n2_; clear n0_ n1_ n2_; clear ho hb hg hat))
    ·go_roundg k1
     case measure => have := HK1.out; omega
     case rel => exact ⟨(y224), (wrap64 (x24_1 + 1)), (by first | rfl | (simp; done) | (simp [*]; done)), H', ⟨by have := HK1.out; omega⟩, ⟨by (with_reducible repeat (first | apply Kd.R_alloc | apply Kd.R_drewN | apply Kd.R_drew)); exact HO226.out⟩, ⟨by (with_reducible repeat (first | apply Kd.R_alloc | apply Kd.R_drewN | apply Kd.R_drew)); exact HO_22.out⟩, ⟨bbw0 HB⟩⟩
    ·go_ret2
     exact ⟨_, by first | rfl | (simp [errW_none, errW_some] <;> rfl) | (simp [*, errW_none, errW_some] <;> rfl), by first | exact Kd.R_nil _ _ _ _ _ | exact Kd.N_nil _ _ _ _ _ | exact Kd.V_nil _ _ _ _ _ | exact Kd.Q_nil _ _ _ _ _ | exact Kd.S_nil _ _ _ _ _, bbw0 HB⟩
 ·go_ret2
  exact ⟨_, by first | rfl | (simp [errW_none, errW_some] <;> rfl) | (simp [*, errW_none, errW_some] <;> rfl), by first | exact Kd.R_nil _ _ _ _ _ | exact Kd.N_nil _ _ _ _ _ | exact Kd.V_nil _ _ _ _ _ | exact Kd.Q_nil _ _ _ _ _ | exact Kd.S_nil _ _ _ _ _, bbw0 HB⟩
/-! ### impl_within: function 48 -/
def impl_within.f (a0 : Int) (a1 : Int) (a2 : Int) : Option (Bool) := if a0 ≥ a1 then (some (decide (a0 ≤ a2))) else (some false)
set_option maxHeartbeats 8000000 in
set_option maxRecDepth 100000 in
theorem impl_within.calls (a0 : Int) (a1 : Int) (a2 : Int) (r : Bool) (w : World) (h : impl_within.f a0 a1 a2 = some r) :
  Calls Tryd.prog 48 #[.int .i64 a0, .int .i64 a1, .int .i64 a2] w fun e w' => e = .returned (.bool r) ∧ Drawn0 w w' := by
 have H : (if a0 ≥ a1 then (some (decide (a0 ≤ a2))) else (some false)) = some r := h
 clear h
 by_cases c4 : a0 ≥ a1
 ·rw [if_pos c4] at H
  have c4b0 : decide (a1 ≤ a0) = true := decide_eq_true c4
  clear c4
  obtain rfl := Option.some.inj H
  go_enter Tryd.func48, Tryd.ntmps48
  go_wp2
  go_ret
  exact ⟨by first | rfl | (simp; done) | (simp [*]; done), by repeat (first | exact Drawn0.refl _ | apply Drawn0.step)⟩
 ·rw [if_neg c4] at H
  have c4b0 : decide (a1 ≤ a0) = false := decide_eq_false c4
  clear c4
  obtain rfl := Option.some.inj H
  go_enter Tryd.func48, Tryd.ntmps48
  go_wp2
  go_ret
  exact ⟨by first | rfl | (simp; done) | (simp [*]; done), by repeat (first | exact Drawn0.refl _ | apply Drawn0.step)⟩
/-! ### impl_isCoordinate: function 80 -/
def impl_isCoordinate.f (a0 : Int) : Option (Bool) := (impl_within.f a0 (-1000) 1000).bind fun t227 => (some t227)
set_option maxHeartbeats 8000000 in
set_option maxRecDepth 100000 in
theorem impl_isCoordinate.calls (a0 : Int) (r : Bool) (w : World) (h : impl_isCoordinate.f a0 = some r) :
  Calls Tryd.prog 80 #[.int .i64 a0] w fun e w' => e = .returned (.bool r) ∧ Drawn0 w w' := by
 have H : ((impl_within.f a0 (-1000) 1000).bind fun t227 => (some t227)) = some r := h
 clear h
 obtain ⟨t227, A2, H⟩ := ob H
 try dsimp only at H
 obtain rfl := Option.some.inj H
 go_enter Tryd.func80, Tryd.ntmps80
 go_wp2_with (first | ((with_reducible refine gate_callee (f := 48) rfl ?_); refine gl 4 Tryd.func48 #[.int .i64 a0, .int .i64 (-1000), .int .i64 1000] ?_; (with_reducible refine (impl_within.calls _ _ _ _ _ A2.out).mono ?_); rintro e w' ⟨rfl, ⟨nd, rfl⟩⟩; refine ⟨_, rfl, ?_⟩))
 go_ret
 exact ⟨by first | rfl | (simp; done) | (simp [*]; done), by repeat (first | exact Drawn0.refl _ | apply Drawn0.step)⟩
/-! ### impl_Mat_isSmall: function 78 -/
def impl_Mat_isSmall.f (a0_0 : Int) (a0_1 : Int) (a0_2 : Int) (a0_3 : Int) : Option (Bool) := (impl_isCoordinate.f a0_0).bind fun t229 => (if t229 = true then ((impl_isCoordinate.f a0_1).bind fun t230 => (if t230 = true then ((impl_isCoordinate.f a0_2).bind fun t231 => (if t231 = true then ((impl_isCoordinate.f a0_3).bind fun t232 => (some t232)) else (some false))) else (some false))) else (some false))
set_option maxHeartbeats 8000000 in
set_option maxRecDepth 100000 in
theorem impl_Mat_isSmall.calls (a0_0 : Int) (a0_1 : Int) (a0_2 : Int) (a0_3 : Int) (r : Bool) (w : World) (h : impl_Mat_isSmall.f a0_0 a0_1 a0_2 a0_3 = some r) :
  Calls Tryd.prog 78 #[.agg #[.int .i64 a0_0, .int .i64 a0_1, .int .i64 a0_2, .int .i64 a0_3]] w fun e w' => e = .returned (.bool r) ∧ Below w.heap.size w w' := by
 have hu31 := Tryd.underlying31
 have HB := asd (Below.refl w.heap.size w)
 have H : ((impl_isCoordinate.f a0_0).bind fun t229 => (if t229 = true then ((impl_isCoordinate.f a0_1).bind fun t230 => (if t230 = true then ((impl_isCoordinate.f a0_2).bind fun t231 => (if t231 = true then ((impl_isCoordinate.f a0_3).bind fun t232 => (some t232)) else (some false))) else (some false))) else (some false))) = some r := h
 clear h
 obtain ⟨t229, A2, H⟩ := ob H
 try dsimp only at H
 by_cases c3 : t229 = true
 subst c3
 replace H := ifT H
 obtain ⟨t230, A4, H⟩ := ob H
 try dsimp only at H
 by_cases c5 : t230 = true
 subst c5
 replace H := ifT H
 obtain ⟨t231, A6, H⟩ := ob H
 try dsimp only at H
 by_cases c7 : t231 = true
 subst c7
 replace H := ifT H
 obtain ⟨t232, A8, H⟩ := ob H
 try dsimp only at H
 obtain rfl := Option.some.inj H
 rotate_left
 replace c7 := Bool.eq_false_iff.mpr c7
 subst c7
 replace H := ifF H
 obtain rfl := Option.some.inj H
 rotate_left
 replace c5 := Bool.eq_false_iff.mpr c5
 subst c5
 replace H := ifF H
 obtain rfl := Option.some.inj H
 rotate_left
 replace c3 := Bool.eq_false_iff.mpr c3
 subst c3
 replace H := ifF H
 obtain rfl := Option.some.inj H
 rotate_left
 all_goals
  go_enter Tryd.func78, Tryd.ntmps78
  go_wp2_with (first | ((with_reducible refine gd 1 rfl ?_); refine bx #[.int .i64 a0_0, .int .i64 a0_1, .int .i64 a0_2, .int .i64 a0_3] 31 ?_; intro gb228 hg w9 BK228 hb; have GE228 := ngw0 hg HB; replace HB := bS0 HB hb; clear hb hg; obtain ⟨hcz10_0, hcz10_1, hcz10_2, hcz10_3, hfz10_0, hfz10_1, hfz10_2, hfz10_3⟩ := bz4 BK228) | ((with_reducible refine gate_callee (f := 80) rfl ?_); refine gl 5 Tryd.func80 #[.int .i64 a0_0] ?_; (with_reducible refine (impl_isCoordinate.calls _ _ _ A2.out).mono ?_); rintro e w' ⟨rfl, ⟨nd, rfl⟩⟩; refine ⟨_, rfl, ?_⟩) | (go_at_call 80; (with_reducible refine (impl_isCoordinate.calls _ _ _ A4.out).mono ?_); rintro e w' ⟨rfl, ⟨nd, rfl⟩⟩) | (go_at_call 80; (with_reducible refine (impl_isCoordinate.calls _ _ _ A6.out).mono ?_); rintro e w' ⟨rfl, ⟨nd, rfl⟩⟩) | (go_at_call 80; (with_reducible refine (impl_isCoordinate.calls _ _ _ A8.out).mono ?_); rintro e w' ⟨rfl, ⟨nd, rfl⟩⟩))
  go_ret
  exact er (bbw1 HB GE228)
/-! ### impl_Mat_det: function 79 -/
def impl_Mat_det.f (a0_0 : Int) (a0_1 : Int) (a0_2 : Int) (a0_3 : Int) : Option (Int) := some (wrap64 ((wrap64 (a0_0 * a0_3)) - (wrap64 (a0_1 * a0_2))))
set_option maxHeartbeats 8000000 in
set_option maxRecDepth 100000 in
theorem impl_Mat_det.calls (a0_0 : Int) (a0_1 : Int) (a0_2 : Int) (a0_3 : Int) (r : Int) (w : World) (h : impl_Mat_det.f a0_0 a0_1 a0_2 a0_3 = some r) :
  Calls Tryd.prog 79 #[.agg #[.int .i64 a0_0, .int .i64 a0_1, .int .i64 a0_2, .int .i64 a0_3]] w fun e w' => e = .returned (.int .i64 r) ∧ Below w.heap.size w w' := by
 have hu31 := Tryd.underlying31
 have HB := asd (Below.refl w.heap.size w)
 have H : (some (wrap64 ((wrap64 (a0_0 * a0_3)) - (wrap64 (a0_1 * a0_2))))) = some r := h
 clear h
 obtain rfl := Option.some.inj H
 go_enter Tryd.func79, Tryd.ntmps79
 go_wp2_with (first | ((with_reducible refine gd 1 rfl ?_); refine bx #[.int .i64 a0_0, .int .i64 a0_1, .int .i64 a0_2, .int .i64 a0_3] 31 ?_; intro gb233 hg w2 BK233 hb; have GE233 := ngw0 hg HB; replace HB := bS0 HB hb; clear hb hg; obtain ⟨hcz3_0, hcz3_1, hcz3_2, hcz3_3, hfz3_0, hfz3_1, hfz3_2, hfz3_3⟩ := bz4 BK233))
 go_ret
 exact er (bbw1 HB GE233)
/-! ### impl_IsMat: function 56 -/
def impl_IsMat.f (a0_0 : Int) (a0_1 : Int) (a0_2 : Int) (a0_3 : Int) : Option (Bool) := (impl_Mat_isSmall.f a0_0 a0_1 a0_2 a0_3).bind fun t235 => (if t235 = true then ((impl_Mat_det.f a0_0 a0_1 a0_2 a0_3).bind fun t236 => (if t236 = 1 then (some true) else ((impl_Mat_det.f a0_0 a0_1 a0_2 a0_3).bind fun t237 => (some (t237 == (-1)))))) else (some false))
set_option maxHeartbeats 8000000 in
set_option maxRecDepth 100000 in
theorem impl_IsMat.calls (a0_0 : Int) (a0_1 : Int) (a0_2 : Int) (a0_3 : Int) (r : Bool) (w : World) (h : impl_IsMat.f a0_0 a0_1 a0_2 a0_3 = some r) :
  Calls Tryd.prog 56 #[.agg #[.int .i64 a0_0, .int .i64 a0_1, .int .i64 a0_2, .int .i64 a0_3]] w fun e w' => e = .returned (.bool r) ∧ Below w.heap.size w w' := by
 have hu31 := Tryd.underlying31
 have HB := asd (Below.refl w.heap.size w)
 have H : ((impl_Mat_isSmall.f a0_0 a0_1 a0_2 a0_3).bind fun t235 => (if t235 = true then ((impl_Mat_det.f a0_0 a0_1 a0_2 a0_3).bind fun t236 => (if t236 = 1 then (some true) else ((impl_Mat_det.f a0_0 a0_1 a0_2 a0_3).bind fun t237 => (some (t237 == (-1)))))) else (some false))) = some r := h
 clear h
 obtain ⟨t235, A2, H⟩ := ob H
 try dsimp only at H
 by_cases c3 : t235 = true
 ·subst c3
  replace H := ifT H
  obtain ⟨t236, A4, H⟩ := ob H
  try dsimp only at H
  by_cases c5 : t236 = 1
  ·rw [if_pos c5] at H
   have c5b0 : (t236 == 1) = true := beq_iff_eq.mpr c5
   have c5b1 : (t236 != 1) = false := bne_eq_false_iff_eq.mpr c5
   clear c5
   obtain rfl := Option.some.inj H
   go_enter Tryd.func56, Tryd.ntmps56
   go_wp2_with (first | ((with_reducible refine gd 1 rfl ?_); refine bx #[.int .i64 a0_0, .int .i64 a0_1, .int .i64 a0_2, .int .i64 a0_3] 31 ?_; intro gb234 hg w6 BK234 hb; have GE234 := ngw0 hg HB; replace HB := bS0 HB hb; clear hb hg; obtain ⟨hcz7_0, hcz7_1, hcz7_2, hcz7_3, hfz7_0, hfz7_1, hfz7_2, hfz7_3⟩ := bz4 BK234) | ((with_reducible refine gate_callee (f := 78) rfl ?_); refine gl 4 Tryd.func78 #[.agg #[.int .i64 a0_0, .int .i64 a0_1, .int .i64 a0_2, .int .i64 a0_3]] ?_; (with_reducible refine (impl_Mat_isSmall.calls _ _ _ _ _ _ A2.out).mono ?_); rintro e w8 ⟨rfl, hb⟩; refine ⟨_, rfl, ?_⟩; replace BK234 := bB BK234 hb; replace HB := bS1 HB GE234 hb; (try clear hb); obtain ⟨hcz9_0, hcz9_1, hcz9_2, hcz9_3, hfz9_0, hfz9_1, hfz9_2, hfz9_3⟩ := bz4 BK234) | (go_at_call 79; (with_reducible refine (impl_Mat_det.calls _ _ _ _ _ _ A4.out).mono ?_); rintro e w10 ⟨rfl, hb⟩; replace BK234 := bB BK234 hb; replace HB := bS1 HB GE234 hb; (try clear hb)))
   go_ret
   exact er (bbw1 HB GE234)
  ·rw [if_neg c5] at H
   have c5b0 : (t236 == 1) = false := beq_eq_false_iff_ne.mpr c5
   have c5b1 : (t236 != 1) = true := bne_iff_ne.mpr c5
   obtain ⟨t237, A11, H⟩ := ob H
   try dsimp only at H
   have e_ : t236 = t237 := Option.some.inj (A4.out.symm.trans A11.out)
   subst e_
   obtain rfl := Option.some.inj H
   go_enter Tryd.func56, Tryd.ntmps56
   go_wp2_with (first | ((with_reducible refine gd 1 rfl ?_); refine bx #[.int .i64 a0_0, .int .i64 a0_1, .int .i64 a0_2, .int .i64 a0_3] 31 ?_; intro gb234 hg w12 BK234 hb; have GE234 := ngw0 hg HB; replace HB := bS0 HB hb; clear hb hg; obtain ⟨hcz13_0, hcz13_1, hcz13_2, hcz13_3, hfz13_0, hfz13_1, hfz13_2, hfz13_3⟩ := bz4 BK234) | ((with_reducible refine gate_callee (f := 78) rfl ?_); refine gl 4 Tryd.func78 #[.agg #[.int .i64 a0_0, .int .i64 a0_1, .int .i64 a0_2, .int .i64 a0_3]] ?_; (with_reducible refine (impl_Mat_isSmall.calls _ _ _ _ _ _ A2.out).mono ?_); rintro e w14 ⟨rfl, hb⟩; refine ⟨_, rfl, ?_⟩; replace BK234 := bB BK234 hb; replace HB := bS1 HB GE234 hb; (try clear hb); obtain ⟨hcz15_0, hcz15_1, hcz15_2, hcz15_3, hfz15_0, hfz15_1, hfz15_2, hfz15_3⟩ := bz4 BK234) | (go_at_call 79; (with_reducible refine (impl_Mat_det.calls _ _ _ _ _ _ A4.out).mono ?_); rintro e w16 ⟨rfl, hb⟩; replace BK234 := bB BK234 hb; replace HB := bS1 HB GE234 hb; (try clear hb); obtain ⟨hcz17_0, hcz17_1, hcz17_2, hcz17_3, hfz17_0, hfz17_1, hfz17_2, hfz17_3⟩ := bz4 BK234) | (go_at_call 79; (with_reducible refine (impl_Mat_det.calls _ _ _ _ _ _ A11.out).mono ?_); rintro e w18 ⟨rfl, hb⟩; replace BK234 := bB BK234 hb; replace HB := bS1 HB GE234 hb; (try clear hb)))
   go_ret
   exact er (bbw1 HB GE234)
 ·replace c3 := Bool.eq_false_iff.mpr c3
  subst c3
  replace H := ifF H
  obtain rfl := Option.some.inj H
  go_enter Tryd.func56, Tryd.ntmps56
  go_wp2_with (first | ((with_reducible refine gd 1 rfl ?_); refine bx #[.int .i64 a0_0, .int .i64 a0_1, .int .i64 a0_2, .int .i64 a0_3] 31 ?_; intro gb234 hg w19 BK234 hb; have GE234 := ngw0 hg HB; replace HB := bS0 HB hb; clear hb hg; obtain ⟨hcz20_0, hcz20_1, hcz20_2, hcz20_3, hfz20_0, hfz20_1, hfz20_2, hfz20_3⟩ := bz4 BK234) | ((with_reducible refine gate_callee (f := 78) rfl ?_); refine gl 4 Tryd.func78 #[.agg #[.int .i64 a0_0, .int .i64 a0_1, .int .i64 a0_2, .int .i64 a0_3]] ?_; (with_reducible refine (impl_Mat_isSmall.calls _ _ _ _ _ _ A2.out).mono ?_); rintro e w21 ⟨rfl, hb⟩; refine ⟨_, rfl, ?_⟩; replace BK234 := bB BK234 hb; replace HB := bS1 HB GE234 hb; (try clear hb)))
  go_ret
  exact er (bbw1 HB GE234)

end Go.Proofs.YtfhbhjlgepjlfaaDoor.PM
