/- Walks written by program: each Go function that the law reaches comes to the plain function beside it. -/
import Derived.Test.YtedmadofpdkekaaGreatPAx0
import Derived.Test.YtedmadofpdkekaaGreatPAx8
import Derived.Test.YtedmadofpdkekaaGreatPAx9
import Derived.Test.YtedmadofpdkekaaGreatPAx10
namespace Go.Proofs.YtedmadofpdkekaaGreat.PA
open Go.RowKit Go.Proofs.YtedmadofpdkekaaGreatW.PrintWords Go.Proofs.YtedmadofpdkekaaGreatW.PrintLast Go.Proofs.YtedmadofpdkekaaGreatW.PrintMore
attribute [local go_sem] max2_int min2_int max_two min_two max_three min_three max_four min_four   -- for this text's walks alone
set_option linter.unusedVariables false
set_option linter.unusedSimpArgs false

/-! ### impl_mirrorCode: function 20 -/
def impl_mirrorCode.f (k : Nat) (a0 : Int) (a1_0 : Int) (a1_1 : Int) (a1_2 : Int) (a2_0 : Int) (a2_1 : Int) (a2_2 : Int) (a2_3 : Int) : Option (Int) := (impl_frameCode.f a0 a1_0 a1_1 a1_2).bind fun t392 => (if t392 = 0 then ((impl_latticeMats.f k a0 a1_0 a1_1 a1_2).bind fun t393 => ((impl_Mat_47.f k t393 a2_0 a2_1 a2_2 a2_3).bind fun t396 => (if t396 = true then ((impl_Mat_isReflection.f k a2_0 a2_1 a2_2 a2_3).bind fun t397 => (if t397 = true then (some 0) else (some 2))) else (some 2)))) else (some t392))
def impl_mirrorCode.T4 : Bool × List (List Nat × List Nat) := (true, [([], []), ([], []), ([0, 1], [0, 1]), ([], []), ([2, 3, 2], [2, 3]), ([4], [4]), ([5, 4], [5]), ([6], [6]), ([7, 6, 6], [6, 7]), ([8, 6], [6, 8]), ([6, 9], [6, 9])])
def impl_mirrorCode.B4 : List Nat := [0, 0, 3, 0, 15, 31, 63, 127, 255, 511, 1023]
theorem impl_mirrorCode.tab4 : rtab .any (opsOf Tryz.f20 4) = impl_mirrorCode.T4 := by kernel_rfl
theorem impl_mirrorCode.bits4 : waitsOk impl_mirrorCode.T4.2 impl_mirrorCode.B4 = true := by kernel_rfl
set_option maxHeartbeats 8000000 in
set_option maxRecDepth 100000 in
theorem impl_mirrorCode.calls (k : Nat) (a0 : Int) (a1_0 : Int) (a1_1 : Int) (a1_2 : Int) (a2_0 : Int) (a2_1 : Int) (a2_2 : Int) (a2_3 : Int) (r : Int) (w : World) (h : impl_mirrorCode.f k a0 a1_0 a1_1 a1_2 a2_0 a2_1 a2_2 a2_3 = some r) :
  Calls Tryz.prog 20 #[.int .i64 a0, .agg #[.int .i64 a1_0, .int .i64 a1_1, .int .i64 a1_2], .agg #[.int .i64 a2_0, .int .i64 a2_1, .int .i64 a2_2, .int .i64 a2_3]] w fun e w' => e = .returned (.int .i64 r) ∧ Below w.heap.size w w' := by
 have hu25 := Tryz.underlying25
 have hu27 := Tryz.underlying27
 have HB := asd (Below.refl w.heap.size w)
 have H : ((impl_frameCode.f a0 a1_0 a1_1 a1_2).bind fun t392 => (if t392 = 0 then ((impl_latticeMats.f k a0 a1_0 a1_1 a1_2).bind fun t393 => ((impl_Mat_47.f k t393 a2_0 a2_1 a2_2 a2_3).bind fun t396 => (if t396 = true then ((impl_Mat_isReflection.f k a2_0 a2_1 a2_2 a2_3).bind fun t397 => (if t397 = true then (some 0) else (some 2))) else (some 2)))) else (some t392))) = some r := h
 clear h
 obtain ⟨t392, A4, H⟩ := ob H
 try dsimp only at H
 by_cases c5 : t392 = 0
 rw [if_pos c5] at H
 have c5b0 : (t392 == 0) = true := beq_iff_eq.mpr c5
 have c5b1 : (t392 != 0) = false := bne_eq_false_iff_eq.mpr c5
 clear c5
 obtain ⟨t393, A6, H⟩ := ob H
 try dsimp only at H
 obtain ⟨t396, A7, H⟩ := ob H
 try dsimp only at H
 by_cases c8 : t396 = true
 subst c8
 replace H := ifT H
 obtain ⟨t397, A9, H⟩ := ob H
 try dsimp only at H
 by_cases c10 : t397 = true
 subst c10
 replace H := ifT H
 obtain rfl := Option.some.inj H
 rotate_left
 replace c10 := Bool.eq_false_iff.mpr c10
 subst c10
 replace H := ifF H
 obtain rfl := Option.some.inj H
 rotate_left
 replace c8 := Bool.eq_false_iff.mpr c8
 subst c8
 replace H := ifF H
 obtain rfl := Option.some.inj H
 rotate_left
 rw [if_neg c5] at H
 have c5b0 : (t392 == 0) = false := beq_eq_false_iff_ne.mpr c5
 have c5b1 : (t392 != 0) = true := bne_iff_ne.mpr c5
 obtain rfl := Option.some.inj H
 rotate_left
 all_goals
  go_enter Tryz.func20, Tryz.ntmps20
 rotate_left 3
 ·go_wp2_with (first | ((with_reducible refine gd 4 rfl ?_); refine bx #[.int .i64 a1_0, .int .i64 a1_1, .int .i64 a1_2] 25 ?_; intro gb390 hg w40 BK390 hb; have GE390 := ngw0 hg HB; replace HB := bS0 HB hb; clear hb hg) | ((with_reducible refine gd 5 rfl ?_); refine bx #[.int .i64 a2_0, .int .i64 a2_1, .int .i64 a2_2, .int .i64 a2_3] 27 ?_; intro gb391 hg w41 BK391 hb; have GE391 := ngw1 hg HB GE390; replace HB := bS1 HB GE390 hb; have NB390_391 := nlt hg BK390; have NB391_390 := nsy (nlt hg BK390); replace BK390 := bB BK390 hb; clear hb hg; have hnb42 := NB390_391.out; have hnc42 := NB391_390.out; obtain ⟨hcz43_0, hcz43_1, hcz43_2, hfz43_0, hfz43_1, hfz43_2⟩ := bz3 BK390) | ((with_reducible refine gate_callee (f := 29) rfl ?_); refine gl 10 Tryz.func29 #[.int .i64 a0, .agg #[.int .i64 a1_0, .int .i64 a1_1, .int .i64 a1_2]] ?_; (with_reducible refine (impl_frameCode.calls _ _ _ _ _ _ A4.out).mono ?_); rintro e w44 ⟨rfl, hb⟩; refine ⟨_, rfl, ?_⟩; replace BK390 := bB BK390 hb; replace BK391 := bB BK391 hb; replace HB := bS2 HB GE390 GE391 hb; (try clear hb)))
  go_ret
  exact er (bbw2 HB GE390 GE391)
 all_goals
  try go_wp2_with (first | ((with_reducible refine gd 4 rfl ?_); refine bx #[.int .i64 a1_0, .int .i64 a1_1, .int .i64 a1_2] 25 ?_; intro gb390 hg w11 BK390 hb; have GE390 := ngw0 hg HB; replace HB := bS0 HB hb; clear hb hg) | ((with_reducible refine gd 5 rfl ?_); refine bx #[.int .i64 a2_0, .int .i64 a2_1, .int .i64 a2_2, .int .i64 a2_3] 27 ?_; intro gb391 hg w12 BK391 hb; have GE391 := ngw1 hg HB GE390; replace HB := bS1 HB GE390 hb; have NB390_391 := nlt hg BK390; have NB391_390 := nsy (nlt hg BK390); replace BK390 := bB BK390 hb; clear hb hg; have hnb13 := NB390_391.out; have hnc13 := NB391_390.out; obtain ⟨hcz14_0, hcz14_1, hcz14_2, hfz14_0, hfz14_1, hfz14_2⟩ := bz3 BK390) | ((with_reducible refine gate_callee (f := 29) rfl ?_); refine gl 10 Tryz.func29 #[.int .i64 a0, .agg #[.int .i64 a1_0, .int .i64 a1_1, .int .i64 a1_2]] ?_; (with_reducible refine (impl_frameCode.calls _ _ _ _ _ _ A4.out).mono ?_); rintro e w15 ⟨rfl, hb⟩; refine ⟨_, rfl, ?_⟩; replace BK390 := bB BK390 hb; replace BK391 := bB BK391 hb; replace HB := bS2 HB GE390 GE391 hb; (try clear hb)))
  replace BK390 := asd (blk_drew BK390.out)
  replace BK391 := asd (blk_drew BK391.out)
  replace HB := asd (below_drew1 HB.out)
  refine sh 11 (cb3 BK390 (eb4 BK391)) (fun hHeld => ?_); refine with_tabW impl_mirrorCode.tab4 impl_mirrorCode.bits4 (fun HT_ HW_ => ?_)
  generalize w15.drew = w16 at BK390 BK391 HB hHeld ⊢
  refine pu 0 (some 14) (bT 11 1) HT_ ?_
  refine ta 1 (some 15) (bT 11 2) HT_ HW_ hHeld ?_
  refine ta 3 (some 17) (bs 11 11) HT_ HW_ hHeld ?_
  refine ro 2 (some 16) (bT 11 4) HT_ (fun K hK => ?_)
  refine gs Tryz.func48 #[.int .i64 a0, .agg #[.int .i64 a1_0, .int .i64 a1_1, .int .i64 a1_2]] ?_
  with_reducible refine (impl_latticeMats.calls _ _ _ _ _ _ _ A6.out).mono ?_
  rintro e w17 ⟨v394, rfl, ho0, hb⟩
  refine ⟨_, rfl, ?_⟩
  have HO395 := asd (Kd.R_lower (Kd.R_newB ho0 (g := gb391) (o := .cells #[.int .i64 a2_0, .int .i64 a2_1, .int .i64 a2_2, .int .i64 a2_3] 27 (0, 0)) (bkp BK391)) (bsz2 HB GE390 GE391))
  replace BK390 := bB BK390 hb
  replace BK391 := bB BK391 hb
  replace HB := bS2 HB GE390 GE391 hb
  (try clear hb)
  (try clear hb2)
  (try clear hk)
  (try clear hi)
  (try clear ho0)
  obtain ⟨Ao18, co18, eo18⟩ := Kd.R_slice HO395.out
  (first | subst eo18 | (injection eo18 with f1_ f2_ f3_; have f4_ := f1_.symm; have f5_ := f3_.symm; clear f1_ f2_ f3_; subst f4_; subst f5_))
  refine hK.out _ _ (cb3 BK390 (eb4 BK391)).out (fun hHeld => ?_)
  clear hK K
  refine norm_ (a' := ?_) ?_ ?_
  rotate_left
  ·show Act.put _ (some 16) _ = _
   simp only [Act.put, sA, sB, sC, i64_w, i32_w]
   rfl
  refine ro 4 (some 18) (bT 11 5) HT_ (fun K hK => ?_)
  refine gs Tryz.func47 #[.slice Ao18 t393.length co18, .agg #[.int .i64 a2_0, .int .i64 a2_1, .int .i64 a2_2, .int .i64 a2_3]] ?_
  with_reducible refine (impl_Mat_47.calls _ _ _ _ _ _ _ _ _ _ ?side1 ?side2 A7.out).mono ?_
  (case side1 => exact ks (Kd.R_reads' HO395.out).2.2)
  (case side2 => exact (Kd.R_reads' HO395.out).2.1)
  rintro e w19 ⟨rfl, hb⟩
  refine ⟨_, rfl, ?_⟩
  replace HO395 := asd (Kd.R_below (kr HO395) hb)
  replace BK390 := bB BK390 hb
  replace BK391 := bB BK391 hb
  replace HB := bS2 HB GE390 GE391 hb
  (try clear hb)
  (try clear hb2)
  (try clear hk)
  (try clear hi)
  refine hK.out _ _ (cb3 BK390 (eb4 BK391)).out (fun hHeld => ?_)
  clear hK K
  refine norm_ (a' := ?_) ?_ ?_
  rotate_left
  ·show Act.put _ (some 18) _ = _
   simp only [Act.put, sA, sB, sC, i64_w, i32_w]
   rfl
  refine pu 5 (some 19) (bT 11 6) HT_ ?_
  refine pu 6 (some 20) (bT 11 7) HT_ ?_
 rotate_left 2
 ·refine pf 7 (some 21) (bT 11 8) HT_ ?_
  refine pf 8 (some 22) (bT 11 9) HT_ ?_
  refine pf 9 (some 23) (bT 11 10) HT_ ?_
  refine pu 10 (some 24) (bT 11 11) HT_ ?_
  refine done_ (done_of HT_.out (by kernel_rfl)) ?_
  try go_wp2
  go_ret
  exact er (bbw2 HB GE390 GE391)
 all_goals
  refine ta 7 (some 21) (bT 11 8) HT_ HW_ hHeld ?_
  refine ro 8 (some 22) (bT 11 9) HT_ (fun K hK => ?_)
  refine gs Tryz.func49 #[.agg #[.int .i64 a2_0, .int .i64 a2_1, .int .i64 a2_2, .int .i64 a2_3]] ?_
  with_reducible refine (impl_Mat_isReflection.calls _ _ _ _ _ _ _ A9.out).mono ?_
  rintro e w20 ⟨rfl, hb⟩
  refine ⟨_, rfl, ?_⟩
  replace HO395 := asd (Kd.R_below (kr HO395) hb)
  replace BK390 := bB BK390 hb
  replace BK391 := bB BK391 hb
  replace HB := bS2 HB GE390 GE391 hb
  (try clear hb)
  (try clear hb2)
  (try clear hk)
  (try clear hi)
  refine hK.out _ _ (cb3 BK390 (eb4 BK391)).out (fun hHeld => ?_)
  clear hK K
  refine norm_ (a' := ?_) ?_ ?_
  rotate_left
  ·show Act.put _ (some 22) _ = _
   simp only [Act.put, sA, sB, sC, i64_w, i32_w]
   rfl
  refine pu 9 (some 23) (bT 11 10) HT_ ?_
  refine pu 10 (some 24) (bT 11 11) HT_ ?_
  refine done_ (done_of HT_.out (by kernel_rfl)) ?_
  try go_wp2
  go_ret
  exact er (bbw2 HB GE390 GE391)
/-! ### impl_Vec_add: function 50 -/
def impl_Vec_add.f (a0_0 : Int) (a0_1 : Int) (a1_0 : Int) (a1_1 : Int) : Option (Int × Int) := some (wrap64 (a0_0 + a1_0), wrap64 (a0_1 + a1_1))
set_option maxHeartbeats 8000000 in
set_option maxRecDepth 100000 in
theorem impl_Vec_add.calls (a0_0 : Int) (a0_1 : Int) (a1_0 : Int) (a1_1 : Int) (r1 : Int) (r2 : Int) (w : World) (h : impl_Vec_add.f a0_0 a0_1 a1_0 a1_1 = some (r1, r2)) :
  Calls Tryz.prog 50 #[.agg #[.int .i64 a0_0, .int .i64 a0_1], .agg #[.int .i64 a1_0, .int .i64 a1_1]] w fun e w' => e = .returned (.agg #[.int .i64 r1, .int .i64 r2]) ∧ Below w.heap.size w w' := by
 have hu31 := Tryz.underlying31
 have HB := asd (Below.refl w.heap.size w)
 have H : (some (wrap64 (a0_0 + a1_0), wrap64 (a0_1 + a1_1))) = some (r1, r2) := h
 clear h
 simp only [Option.some.injEq, Prod.mk.injEq] at H
 obtain ⟨rfl, rfl⟩ := H
 go_enter Tryz.func50, Tryz.ntmps50
 go_wp2_with (first | ((with_reducible refine gd 2 rfl ?_); refine bx #[.int .i64 a0_0, .int .i64 a0_1] 31 ?_; intro gb398 hg w3 BK398 hb; have GE398 := ngw0 hg HB; replace HB := bS0 HB hb; clear hb hg) | ((with_reducible refine gd 3 rfl ?_); refine bx #[.int .i64 a1_0, .int .i64 a1_1] 31 ?_; intro gb399 hg w4 BK399 hb; have GE399 := ngw1 hg HB GE398; replace HB := bS1 HB GE398 hb; have NB398_399 := nlt hg BK398; have NB399_398 := nsy (nlt hg BK398); replace BK398 := bB BK398 hb; clear hb hg) | ((with_reducible refine gd 4 rfl ?_); refine bx #[.int .i64 0, .int .i64 0] 31 ?_; intro gb400 hg w5 BK400 hb; have GE400 := ngw2 hg HB GE398 GE399; replace HB := bS2 HB GE398 GE399 hb; have NB398_400 := nlt hg BK398; have NB400_398 := nsy (nlt hg BK398); replace BK398 := bB BK398 hb; have NB399_400 := nlt hg BK399; have NB400_399 := nsy (nlt hg BK399); replace BK399 := bB BK399 hb; clear hb hg; have hnb6 := NB398_399.out; have hnc6 := NB399_398.out; have hnb7 := NB398_400.out; have hnc7 := NB400_398.out; obtain ⟨hcz8_0, hcz8_1, hfz8_0, hfz8_1⟩ := bz2 BK398; have hnb9 := NB399_400.out; have hnc9 := NB400_399.out; obtain ⟨hcz10_0, hcz10_1, hfz10_0, hfz10_1⟩ := bz2 BK399; obtain ⟨hcz11_0, hcz11_1, hfz11_0, hfz11_1⟩ := bz2 BK400))
 refine bodyPost_ret (results_cell_row rfl _ _ gb400 31 #[.int .i64 (wrap64 (a0_0 + a1_0)), .int .i64 (wrap64 (a0_1 + a1_1))] (0, 0) _ rfl (bq0 BK400) Tryz.underlying31 rfl (by kernel_rfl)) rfl ?_
 exact er (bbw3 HB GE398 GE399 GE400)
/-! ### impl_Lattice_multipleIn: function 21 -/
def impl_Lattice_multipleIn.l0 : Nat → Int → Int → Int → Int → Int → Int → Int → Option (Int × Int)
 | 0, _, _, _, _, _, _, _ => none
 | k + 1, x402000, x402001, x402002, x403000, x403001, x405000, x405001 => (impl_Lattice_has.f x402000 x402001 x402002 x405000 x405001).bind fun t405 => (if t405 = true then (some (x405000, x405001)) else ((impl_Vec_add.f x405000 x405001 x403000 x403001).bind fun bt406 => (impl_Lattice_multipleIn.l0 k x402000 x402001 x402002 x403000 x403001 bt406.1 bt406.2)))
def impl_Lattice_multipleIn.f (k : Nat) (a0_0 : Int) (a0_1 : Int) (a0_2 : Int) (a1_0 : Int) (a1_1 : Int) : Option (Int × Int) := impl_Lattice_multipleIn.l0 k a0_0 a0_1 a0_2 a1_0 a1_1 a1_0 a1_1
set_option maxHeartbeats 8000000 in
set_option maxRecDepth 100000 in
theorem impl_Lattice_multipleIn.calls (k : Nat) (a0_0 : Int) (a0_1 : Int) (a0_2 : Int) (a1_0 : Int) (a1_1 : Int) (r1 : Int) (r2 : Int) (w : World) (h : impl_Lattice_multipleIn.f k a0_0 a0_1 a0_2 a1_0 a1_1 = some (r1, r2)) :
  Calls Tryz.prog 21 #[.agg #[.int .i64 a0_0, .int .i64 a0_1, .int .i64 a0_2], .agg #[.int .i64 a1_0, .int .i64 a1_1]] w fun e w' => e = .returned (.agg #[.int .i64 r1, .int .i64 r2]) ∧ Below w.heap.size w w' := by
 have hu25 := Tryz.underlying25
 have hu31 := Tryz.underlying31
 have HB := asd (Below.refl w.heap.size w)
 have H : (impl_Lattice_multipleIn.l0 k a0_0 a0_1 a0_2 a1_0 a1_1 a1_0 a1_1) = some (r1, r2) := h
 clear h
 have H' := Aside0.mk H
 clear H
 go_enter Tryz.func21, Tryz.ntmps21
 go_wp2_with (first | ((with_reducible refine gd 2 rfl ?_); refine bx #[.int .i64 a0_0, .int .i64 a0_1, .int .i64 a0_2] 25 ?_; intro gb401 hg w3 BK401 hb; have GE401 := ngw0 hg HB; replace HB := bS0 HB hb; clear hb hg) | ((with_reducible refine gd 3 rfl ?_); refine bx #[.int .i64 a1_0, .int .i64 a1_1] 31 ?_; intro gb402 hg w4 BK402 hb; have GE402 := ngw1 hg HB GE401; replace HB := bS1 HB GE401 hb; have NB401_402 := nlt hg BK401; have NB402_401 := nsy (nlt hg BK401); replace BK401 := bB BK401 hb; clear hb hg) | ((with_reducible refine gd 4 rfl ?_); refine bx #[.int .i64 0, .int .i64 0] 31 ?_; intro gb403 hg w5 BK403 hb; have GE403 := ngw2 hg HB GE401 GE402; replace HB := bS2 HB GE401 GE402 hb; have NB401_403 := nlt hg BK401; have NB403_401 := nsy (nlt hg BK401); replace BK401 := bB BK401 hb; have NB402_403 := nlt hg BK402; have NB403_402 := nsy (nlt hg BK402); replace BK402 := bB BK402 hb; clear hb hg; have hnb6 := NB402_401.out; have hnc6 := NB401_402.out; have hnb7 := NB402_403.out; have hnc7 := NB403_402.out; obtain ⟨hcz8_0, hcz8_1, hfz8_0, hfz8_1⟩ := bz2 BK402) | ((with_reducible refine gd 5 rfl ?_); refine bx #[.int .i64 0, .int .i64 0] 31 ?_; intro gb404 hg w9 BK404 hb; have GE404 := ngw3 hg HB GE401 GE402 GE403; replace HB := bS3 HB GE401 GE402 GE403 hb; have NB401_404 := nlt hg BK401; have NB404_401 := nsy (nlt hg BK401); replace BK401 := bB BK401 hb; have NB402_404 := nlt hg BK402; have NB404_402 := nsy (nlt hg BK402); replace BK402 := bB BK402 hb; have NB403_404 := nlt hg BK403; have NB404_403 := nsy (nlt hg BK403); replace BK403 := bB BK403 hb; clear hb hg; have hnb10 := NB404_401.out; have hnc10 := NB401_404.out; have hnb11 := NB404_402.out; have hnc11 := NB402_404.out; have hnb12 := NB404_403.out; have hnc12 := NB403_404.out; obtain ⟨hcz13_0, hcz13_1, hfz13_0, hfz13_1⟩ := bz2 BK404))
 go_loopg [] k (fun kq w' => ∃ (x405000_1 : Int) (x405001_1 : Int), Aside0 (impl_Lattice_multipleIn.l0 kq a0_0 a0_1 a0_2 a1_0 a1_1 x405000_1 x405001_1 = some (r1, r2)) ∧ Aside0 (kq ≤ k) ∧ Aside0 (w'.heap[gb401]? = some (.cells #[.int .i64 a0_0, .int .i64 a0_1, .int .i64 a0_2] 25 (0, 0))) ∧ Aside0 (w'.heap[gb402]? = some (.cells #[.int .i64 a1_0, .int .i64 a1_1] 31 (0, 0))) ∧ Aside0 (w'.heap[gb403]? = some (.cells #[.int .i64 0, .int .i64 0] 31 (0, 0))) ∧ Aside0 (w'.heap[gb404]? = some (.cells #[.int .i64 x405000_1, .int .i64 x405001_1] 31 (0, 0))) ∧ Aside0 (Below w.heap.size w w'))
 case atStart => exact ⟨(a1_0), (a1_1), H', ⟨Nat.le_refl _⟩, ⟨bq1 BK401 NB401_404⟩, ⟨bq1 BK402 NB402_404⟩, ⟨bq1 BK403 NB403_404⟩, ⟨bq0 BK404⟩, ⟨bbw4 HB GE401 GE402 GE403 GE404⟩⟩
 case round =>
  clear H'
  try clear c1
  try clear c2
  try clear p2
  try clear c6
  try clear c7
  try clear c10
  try clear c11
  try clear c12
  try clear hcz13_0
  try clear hcz13_1
  try clear hcz8_0
  try clear hcz8_1
  try clear hfz13_0
  try clear hfz13_1
  try clear hfz8_0
  try clear hfz8_1
  obtain ⟨x405000_1, x405001_1, HA, HK1, BK401, BK402, BK403, BK404, HB⟩ := hrel
  cases gk with
  | zero => exact absurd HA.out (by simp [impl_Lattice_multipleIn.l0])
  | succ k1 =>
   have H := HA.out
   clear HA
   simp only [impl_Lattice_multipleIn.l0] at H
   obtain ⟨t405, A14, H⟩ := ob H
   try dsimp only at H
   by_cases c15 : t405 = true
   subst c15
   replace H := ifT H
   rotate_left
   replace c15 := Bool.eq_false_iff.mpr c15
   subst c15
   replace H := ifF H
   obtain ⟨⟨t406, t407⟩, A27, H⟩ := ob H
   try dsimp only at H
   have H' := Aside0.mk H
   clear H
   rotate_left
   simp only [Option.some.injEq, Prod.mk.injEq] at H
   obtain ⟨rfl, rfl⟩ := H
   rotate_left 2
   all_goals
    have hnb16 := NB401_402.out
    have hnc16 := NB402_401.out
    have hnb17 := NB401_403.out
    have hnc17 := NB403_401.out
    have hnb18 := NB401_404.out
    have hnc18 := NB404_401.out
    obtain ⟨hcz19_0, hcz19_1, hcz19_2, hfz19_0, hfz19_1, hfz19_2⟩ := bz3 BK401
    have hnb20 := NB404_402.out
    have hnc20 := NB402_404.out
    have hnb21 := NB404_403.out
    have hnc21 := NB403_404.out
    obtain ⟨hcz22_0, hcz22_1, hfz22_0, hfz22_1⟩ := bz2 BK404
   ·go_wp2_with (first | ((with_reducible refine gate_callee (f := 39) rfl ?_); refine gl 9 Tryz.func39 #[.agg #[.int .i64 a0_0, .int .i64 a0_1, .int .i64 a0_2], .agg #[.int .i64 x405000_1, .int .i64 x405001_1]] ?_; (with_reducible refine (impl_Lattice_has.calls _ _ _ _ _ _ _ A14.out).mono ?_); rintro e w23 ⟨rfl, hb⟩; refine ⟨_, rfl, ?_⟩; replace BK401 := bB BK401 hb; replace BK402 := bB BK402 hb; replace BK403 := bB BK403 hb; replace BK404 := bB BK404 hb; replace HB := bS4 HB GE401 GE402 GE403 GE404 hb; (try clear hb); obtain ⟨hcz24_0, hcz24_1, hfz24_0, hfz24_1⟩ := bz2 BK404; have hnb25 := NB403_402.out; have hnc25 := NB402_403.out; obtain ⟨hcz26_0, hcz26_1, hfz26_0, hfz26_1⟩ := bz2 BK403))
    refine bodyPost_ret (results_cell_row rfl _ _ gb403 31 #[.int .i64 x405000_1, .int .i64 x405001_1] (0, 0) _ rfl (bq0 BK403) Tryz.underlying31 rfl (by kernel_rfl)) rfl ?_
    exact er (bbw4 HB GE401 GE402 GE403 GE404)
   ·go_wp2_with (first | ((with_reducible refine gate_callee (f := 39) rfl ?_); refine gl 9 Tryz.func39 #[.agg #[.int .i64 a0_0, .int .i64 a0_1, .int .i64 a0_2], .agg #[.int .i64 x405000_1, .int .i64 x405001_1]] ?_; (with_reducible refine (impl_Lattice_has.calls _ _ _ _ _ _ _ A14.out).mono ?_); rintro e w35 ⟨rfl, hb⟩; refine ⟨_, rfl, ?_⟩; replace BK401 := bB BK401 hb; replace BK402 := bB BK402 hb; replace BK403 := bB BK403 hb; replace BK404 := bB BK404 hb; replace HB := bS4 HB GE401 GE402 GE403 GE404 hb; (try clear hb); obtain ⟨hcz36_0, hcz36_1, hfz36_0, hfz36_1⟩ := bz2 BK404; have hnb37 := NB402_403.out; have hnc37 := NB403_402.out; obtain ⟨hcz38_0, hcz38_1, hfz38_0, hfz38_1⟩ := bz2 BK402) | ((with_reducible refine gate_callee (f := 50) rfl ?_); refine gl 13 Tryz.func50 #[.agg #[.int .i64 x405000_1, .int .i64 x405001_1], .agg #[.int .i64 a1_0, .int .i64 a1_1]] ?_; (with_reducible refine (impl_Vec_add.calls _ _ _ _ _ _ _ A27.out).mono ?_); rintro e w39 ⟨rfl, hb⟩; refine ⟨_, rfl, ?_⟩; replace BK401 := bB BK401 hb; replace BK402 := bB BK402 hb; replace BK403 := bB BK403 hb; replace BK404 := bB BK404 hb; replace HB := bS4 HB GE401 GE402 GE403 GE404 hb; (try clear hb); obtain ⟨hcz40_0, hcz40_1, hfz40_0, hfz40_1⟩ := bz2 BK404))
    go_roundg k1
    case measure => have := HK1.out; omega
    case rel => exact ⟨(t406), (t407), H', ⟨by have := HK1.out; omega⟩, ⟨bq1 BK401 NB401_404⟩, ⟨bq1 BK402 NB402_404⟩, ⟨bq1 BK403 NB403_404⟩, ⟨bq0 BK404⟩, ⟨bbw4 HB GE401 GE402 GE403 GE404⟩⟩
/-! ### impl_isCoordinate: function 78 -/
def impl_isCoordinate.f (a0 : Int) : Option (Bool) := (impl_within.f a0 (-1000) 1000).bind fun t408 => (some t408)
set_option maxHeartbeats 8000000 in
set_option maxRecDepth 100000 in
theorem impl_isCoordinate.calls (a0 : Int) (r : Bool) (w : World) (h : impl_isCoordinate.f a0 = some r) :
  Calls Tryz.prog 78 #[.int .i64 a0] w fun e w' => e = .returned (.bool r) ∧ Drawn0 w w' := by
 have H : ((impl_within.f a0 (-1000) 1000).bind fun t408 => (some t408)) = some r := h
 clear h
 obtain ⟨t408, A2, H⟩ := ob H
 try dsimp only at H
 obtain rfl := Option.some.inj H
 go_enter Tryz.func78, Tryz.ntmps78
 go_wp2_with (first | ((with_reducible refine gate_callee (f := 94) rfl ?_); refine gl 4 Tryz.func94 #[.int .i64 a0, .int .i64 (-1000), .int .i64 1000] ?_; (with_reducible refine (impl_within.calls _ _ _ _ _ A2.out).mono ?_); rintro e w' ⟨rfl, ⟨nd, rfl⟩⟩; refine ⟨_, rfl, ?_⟩))
 go_ret
 exact ⟨by first | rfl | (simp; done) | (simp [*]; done), by repeat (first | exact Drawn0.refl _ | apply Drawn0.step)⟩
/-! ### impl_Mat_isSmall: function 77 -/
def impl_Mat_isSmall.f (a0_0 : Int) (a0_1 : Int) (a0_2 : Int) (a0_3 : Int) : Option (Bool) := (impl_isCoordinate.f a0_0).bind fun t410 => (if t410 = true then ((impl_isCoordinate.f a0_1).bind fun t411 => (if t411 = true then ((impl_isCoordinate.f a0_2).bind fun t412 => (if t412 = true then ((impl_isCoordinate.f a0_3).bind fun t413 => (some t413)) else (some false))) else (some false))) else (some false))
set_option maxHeartbeats 8000000 in
set_option maxRecDepth 100000 in
theorem impl_Mat_isSmall.calls (a0_0 : Int) (a0_1 : Int) (a0_2 : Int) (a0_3 : Int) (r : Bool) (w : World) (h : impl_Mat_isSmall.f a0_0 a0_1 a0_2 a0_3 = some r) :
  Calls Tryz.prog 77 #[.agg #[.int .i64 a0_0, .int .i64 a0_1, .int .i64 a0_2, .int .i64 a0_3]] w fun e w' => e = .returned (.bool r) ∧ Below w.heap.size w w' := by
 have hu27 := Tryz.underlying27
 have HB := asd (Below.refl w.heap.size w)
 have H : ((impl_isCoordinate.f a0_0).bind fun t410 => (if t410 = true then ((impl_isCoordinate.f a0_1).bind fun t411 => (if t411 = true then ((impl_isCoordinate.f a0_2).bind fun t412 => (if t412 = true then ((impl_isCoordinate.f a0_3).bind fun t413 => (some t413)) else (some false))) else (some false))) else (some false))) = some r := h
 clear h
 obtain ⟨t410, A2, H⟩ := ob H
 try dsimp only at H
 by_cases c3 : t410 = true
 subst c3
 replace H := ifT H
 obtain ⟨t411, A4, H⟩ := ob H
 try dsimp only at H
 by_cases c5 : t411 = true
 subst c5
 replace H := ifT H
 obtain ⟨t412, A6, H⟩ := ob H
 try dsimp only at H
 by_cases c7 : t412 = true
 subst c7
 replace H := ifT H
 obtain ⟨t413, A8, H⟩ := ob H
 try dsimp only at H
 obtain rfl := Option.some.inj H
 rotate_left
 replace c7 := Bool.eq_false_iff.mpr c7
 subst c7
 replace H := ifF H
 obtain rfl := Option.some.inj H
 rotate_left
 replace c5 := Bool.eq_false_iff.mpr c5
 subst c5
 replace H := ifF H
 obtain rfl := Option.some.inj H
 rotate_left
 replace c3 := Bool.eq_false_iff.mpr c3
 subst c3
 replace H := ifF H
 obtain rfl := Option.some.inj H
 rotate_left
 all_goals
  go_enter Tryz.func77, Tryz.ntmps77
  go_wp2_with (first | ((with_reducible refine gd 1 rfl ?_); refine bx #[.int .i64 a0_0, .int .i64 a0_1, .int .i64 a0_2, .int .i64 a0_3] 27 ?_; intro gb409 hg w9 BK409 hb; have GE409 := ngw0 hg HB; replace HB := bS0 HB hb; clear hb hg; obtain ⟨hcz10_0, hcz10_1, hcz10_2, hcz10_3, hfz10_0, hfz10_1, hfz10_2, hfz10_3⟩ := bz4 BK409) | ((with_reducible refine gate_callee (f := 78) rfl ?_); refine gl 5 Tryz.func78 #[.int .i64 a0_0] ?_; (with_reducible refine (impl_isCoordinate.calls _ _ _ A2.out).mono ?_); rintro e w' ⟨rfl, ⟨nd, rfl⟩⟩; refine ⟨_, rfl, ?_⟩) | (go_at_call 78; (with_reducible refine (impl_isCoordinate.calls _ _ _ A4.out).mono ?_); rintro e w' ⟨rfl, ⟨nd, rfl⟩⟩) | (go_at_call 78; (with_reducible refine (impl_isCoordinate.calls _ _ _ A6.out).mono ?_); rintro e w' ⟨rfl, ⟨nd, rfl⟩⟩) | (go_at_call 78; (with_reducible refine (impl_isCoordinate.calls _ _ _ A8.out).mono ?_); rintro e w' ⟨rfl, ⟨nd, rfl⟩⟩))
  go_ret
  exact er (bbw1 HB GE409)
/-! ### impl_IsMat: function 40 -/
def impl_IsMat.f (a0_0 : Int) (a0_1 : Int) (a0_2 : Int) (a0_3 : Int) : Option (Bool) := (impl_Mat_isSmall.f a0_0 a0_1 a0_2 a0_3).bind fun t415 => (if t415 = true then ((impl_Mat_det.f a0_0 a0_1 a0_2 a0_3).bind fun t416 => (if t416 = 1 then (some true) else ((impl_Mat_det.f a0_0 a0_1 a0_2 a0_3).bind fun t417 => (some (t417 == (-1)))))) else (some false))
set_option maxHeartbeats 8000000 in
set_option maxRecDepth 100000 in
theorem impl_IsMat.calls (a0_0 : Int) (a0_1 : Int) (a0_2 : Int) (a0_3 : Int) (r : Bool) (w : World) (h : impl_IsMat.f a0_0 a0_1 a0_2 a0_3 = some r) :
  Calls Tryz.prog 40 #[.agg #[.int .i64 a0_0, .int .i64 a0_1, .int .i64 a0_2, .int .i64 a0_3]] w fun e w' => e = .returned (.bool r) ∧ Below w.heap.size w w' := by
 have hu27 := Tryz.underlying27
 have HB := asd (Below.refl w.heap.size w)
 have H : ((impl_Mat_isSmall.f a0_0 a0_1 a0_2 a0_3).bind fun t415 => (if t415 = true then ((impl_Mat_det.f a0_0 a0_1 a0_2 a0_3).bind fun t416 => (if t416 = 1 then (some true) else ((impl_Mat_det.f a0_0 a0_1 a0_2 a0_3).bind fun t417 => (some (t417 == (-1)))))) else (some false))) = some r := h
 clear h
 obtain ⟨t415, A2, H⟩ := ob H
 try dsimp only at H
 by_cases c3 : t415 = true
 ·subst c3
  replace H := ifT H
  obtain ⟨t416, A4, H⟩ := ob H
  try dsimp only at H
  by_cases c5 : t416 = 1
  ·rw [if_pos c5] at H
   have c5b0 : (t416 == 1) = true := beq_iff_eq.mpr c5
   have c5b1 : (t416 != 1) = false := bne_eq_false_iff_eq.mpr c5
   clear c5
   obtain rfl := Option.some.inj H
   go_enter Tryz.func40, Tryz.ntmps40
   go_wp2_with (first | ((with_reducible refine gd 1 rfl ?_); refine bx #[.int .i64 a0_0, .int .i64 a0_1, .int .i64 a0_2, .int .i64 a0_3] 27 ?_; intro gb414 hg w6 BK414 hb; have GE414 := ngw0 hg HB; replace HB := bS0 HB hb; clear hb hg; obtain ⟨hcz7_0, hcz7_1, hcz7_2, hcz7_3, hfz7_0, hfz7_1, hfz7_2, hfz7_3⟩ := bz4 BK414) | ((with_reducible refine gate_callee (f := 77) rfl ?_); refine gl 4 Tryz.func77 #[.agg #[.int .i64 a0_0, .int .i64 a0_1, .int .i64 a0_2, .int .i64 a0_3]] ?_; (with_reducible refine (impl_Mat_isSmall.calls _ _ _ _ _ _ A2.out).mono ?_); rintro e w8 ⟨rfl, hb⟩; refine ⟨_, rfl, ?_⟩; replace BK414 := bB BK414 hb; replace HB := bS1 HB GE414 hb; (try clear hb); obtain ⟨hcz9_0, hcz9_1, hcz9_2, hcz9_3, hfz9_0, hfz9_1, hfz9_2, hfz9_3⟩ := bz4 BK414) | (go_at_call 75; (with_reducible refine (impl_Mat_det.calls _ _ _ _ _ _ A4.out).mono ?_); rintro e w10 ⟨rfl, hb⟩; replace BK414 := bB BK414 hb; replace HB := bS1 HB GE414 hb; (try clear hb)))
   go_ret
   exact er (bbw1 HB GE414)
  ·rw [if_neg c5] at H
   have c5b0 : (t416 == 1) = false := beq_eq_false_iff_ne.mpr c5
   have c5b1 : (t416 != 1) = true := bne_iff_ne.mpr c5
   obtain ⟨t417, A11, H⟩ := ob H
   try dsimp only at H
   have e_ : t416 = t417 := Option.some.inj (A4.out.symm.trans A11.out)
   subst e_
   obtain rfl := Option.some.inj H
   go_enter Tryz.func40, Tryz.ntmps40
   go_wp2_with (first | ((with_reducible refine gd 1 rfl ?_); refine bx #[.int .i64 a0_0, .int .i64 a0_1, .int .i64 a0_2, .int .i64 a0_3] 27 ?_; intro gb414 hg w12 BK414 hb; have GE414 := ngw0 hg HB; replace HB := bS0 HB hb; clear hb hg; obtain ⟨hcz13_0, hcz13_1, hcz13_2, hcz13_3, hfz13_0, hfz13_1, hfz13_2, hfz13_3⟩ := bz4 BK414) | ((with_reducible refine gate_callee (f := 77) rfl ?_); refine gl 4 Tryz.func77 #[.agg #[.int .i64 a0_0, .int .i64 a0_1, .int .i64 a0_2, .int .i64 a0_3]] ?_; (with_reducible refine (impl_Mat_isSmall.calls _ _ _ _ _ _ A2.out).mono ?_); rintro e w14 ⟨rfl, hb⟩; refine ⟨_, rfl, ?_⟩; replace BK414 := bB BK414 hb; replace HB := bS1 HB GE414 hb; (try clear hb); obtain ⟨hcz15_0, hcz15_1, hcz15_2, hcz15_3, hfz15_0, hfz15_1, hfz15_2, hfz15_3⟩ := bz4 BK414) | (go_at_call 75; (with_reducible refine (impl_Mat_det.calls _ _ _ _ _ _ A4.out).mono ?_); rintro e w16 ⟨rfl, hb⟩; replace BK414 := bB BK414 hb; replace HB := bS1 HB GE414 hb; (try clear hb); obtain ⟨hcz17_0, hcz17_1, hcz17_2, hcz17_3, hfz17_0, hfz17_1, hfz17_2, hfz17_3⟩ := bz4 BK414) | (go_at_call 75; (with_reducible refine (impl_Mat_det.calls _ _ _ _ _ _ A11.out).mono ?_); rintro e w18 ⟨rfl, hb⟩; replace BK414 := bB BK414 hb; replace HB := bS1 HB GE414 hb; (try clear hb)))
   go_ret
   exact er (bbw1 HB GE414)
 ·replace c3 := Bool.eq_false_iff.mpr c3
  subst c3
  replace H := ifF H
  obtain rfl := Option.some.inj H
  go_enter Tryz.func40, Tryz.ntmps40
  go_wp2_with (first | ((with_reducible refine gd 1 rfl ?_); refine bx #[.int .i64 a0_0, .int .i64 a0_1, .int .i64 a0_2, .int .i64 a0_3] 27 ?_; intro gb414 hg w19 BK414 hb; have GE414 := ngw0 hg HB; replace HB := bS0 HB hb; clear hb hg; obtain ⟨hcz20_0, hcz20_1, hcz20_2, hcz20_3, hfz20_0, hfz20_1, hfz20_2, hfz20_3⟩ := bz4 BK414) | ((with_reducible refine gate_callee (f := 77) rfl ?_); refine gl 4 Tryz.func77 #[.agg #[.int .i64 a0_0, .int .i64 a0_1, .int .i64 a0_2, .int .i64 a0_3]] ?_; (with_reducible refine (impl_Mat_isSmall.calls _ _ _ _ _ _ A2.out).mono ?_); rintro e w21 ⟨rfl, hb⟩; refine ⟨_, rfl, ?_⟩; replace BK414 := bB BK414 hb; replace HB := bS1 HB GE414 hb; (try clear hb)))
  go_ret
  exact er (bbw1 HB GE414)
/-! ### impl_IsVec: function 41 -/
def impl_IsVec.f (a0_0 : Int) (a0_1 : Int) : Option (Bool) := (impl_isCoordinate.f a0_0).bind fun t419 => (if t419 = true then ((impl_isCoordinate.f a0_1).bind fun t420 => (some t420)) else (some false))
set_option maxHeartbeats 8000000 in
set_option maxRecDepth 100000 in
theorem impl_IsVec.calls (a0_0 : Int) (a0_1 : Int) (r : Bool) (w : World) (h : impl_IsVec.f a0_0 a0_1 = some r) :
  Calls Tryz.prog 41 #[.agg #[.int .i64 a0_0, .int .i64 a0_1]] w fun e w' => e = .returned (.bool r) ∧ Below w.heap.size w w' := by
 have hu31 := Tryz.underlying31
 have HB := asd (Below.refl w.heap.size w)
 have H : ((impl_isCoordinate.f a0_0).bind fun t419 => (if t419 = true then ((impl_isCoordinate.f a0_1).bind fun t420 => (some t420)) else (some false))) = some r := h
 clear h
 obtain ⟨t419, A2, H⟩ := ob H
 try dsimp only at H
 by_cases c3 : t419 = true
 subst c3
 replace H := ifT H
 obtain ⟨t420, A4, H⟩ := ob H
 try dsimp only at H
 obtain rfl := Option.some.inj H
 rotate_left
 replace c3 := Bool.eq_false_iff.mpr c3
 subst c3
 replace H := ifF H
 obtain rfl := Option.some.inj H
 rotate_left
 all_goals
  go_enter Tryz.func41, Tryz.ntmps41
  go_wp2_with (first | ((with_reducible refine gd 1 rfl ?_); refine bx #[.int .i64 a0_0, .int .i64 a0_1] 31 ?_; intro gb418 hg w5 BK418 hb; have GE418 := ngw0 hg HB; replace HB := bS0 HB hb; clear hb hg; obtain ⟨hcz6_0, hcz6_1, hfz6_0, hfz6_1⟩ := bz2 BK418) | ((with_reducible refine gate_callee (f := 78) rfl ?_); refine gl 5 Tryz.func78 #[.int .i64 a0_0] ?_; (with_reducible refine (impl_isCoordinate.calls _ _ _ A2.out).mono ?_); rintro e w' ⟨rfl, ⟨nd, rfl⟩⟩; refine ⟨_, rfl, ?_⟩) | (go_at_call 78; (with_reducible refine (impl_isCoordinate.calls _ _ _ A4.out).mono ?_); rintro e w' ⟨rfl, ⟨nd, rfl⟩⟩))
  go_ret
  exact er (bbw1 HB GE418)
/-! ### impl_limited: function 42 -/
def impl_limited.f (a0_0 : Int) (a0_1 : Int) : Option (Int × Int × Int) := (impl_IsVec.f a0_0 a0_1).bind fun t423 => (if t423 = true then (some (a0_0, a0_1, 0)) else (some (0, 0, 3)))
set_option maxHeartbeats 8000000 in
set_option maxRecDepth 100000 in
theorem impl_limited.calls (a0_0 : Int) (a0_1 : Int) (r1 : Int) (r2 : Int) (r3 : Int) (w : World) (h : impl_limited.f a0_0 a0_1 = some (r1, r2, r3)) :
  Calls Tryz.prog 42 #[.agg #[.int .i64 a0_0, .int .i64 a0_1]] w fun e w' => e = .returned (.tuple #[.agg #[.int .i64 r1, .int .i64 r2], .int .i64 r3]) ∧ Below w.heap.size w w' := by
 have hu31 := Tryz.underlying31
 have HB := asd (Below.refl w.heap.size w)
 have H : ((impl_IsVec.f a0_0 a0_1).bind fun t423 => (if t423 = true then (some (a0_0, a0_1, 0)) else (some (0, 0, 3)))) = some (r1, r2, r3) := h
 clear h
 obtain ⟨t423, A2, H⟩ := ob H
 try dsimp only at H
 by_cases c3 : t423 = true
 ·subst c3
  replace H := ifT H
  simp only [Option.some.injEq, Prod.mk.injEq] at H
  obtain ⟨rfl, rfl, rfl⟩ := H
  go_enter Tryz.func42, Tryz.ntmps42
  go_wp2_with (first | ((with_reducible refine gd 1 rfl ?_); refine bx #[.int .i64 a0_0, .int .i64 a0_1] 31 ?_; intro gb421 hg w4 BK421 hb; have GE421 := ngw0 hg HB; replace HB := bS0 HB hb; clear hb hg) | ((with_reducible refine gd 2 rfl ?_); refine bx #[.int .i64 0, .int .i64 0] 31 ?_; intro gb422 hg w5 BK422 hb; have GE422 := ngw1 hg HB GE421; replace HB := bS1 HB GE421 hb; have NB421_422 := nlt hg BK421; have NB422_421 := nsy (nlt hg BK421); replace BK421 := bB BK421 hb; clear hb hg; have hnb6 := NB421_422.out; have hnc6 := NB422_421.out; obtain ⟨hcz7_0, hcz7_1, hfz7_0, hfz7_1⟩ := bz2 BK421) | ((with_reducible refine gate_callee (f := 41) rfl ?_); refine gl 5 Tryz.func41 #[.agg #[.int .i64 a0_0, .int .i64 a0_1]] ?_; (with_reducible refine (impl_IsVec.calls _ _ _ _ A2.out).mono ?_); rintro e w8 ⟨rfl, hb⟩; refine ⟨_, rfl, ?_⟩; replace BK421 := bB BK421 hb; replace BK422 := bB BK422 hb; replace HB := bS2 HB GE421 GE422 hb; (try clear hb); obtain ⟨hcz9_0, hcz9_1, hfz9_0, hfz9_1⟩ := bz2 BK421; obtain ⟨hcz10_0, hcz10_1, hfz10_0, hfz10_1⟩ := bz2 BK422))
  refine bodyPost_ret (results_ct rfl _ _ gb422 31 #[.int .i64 a0_0, .int .i64 a0_1] (0, 0) _ rfl (bq0 BK422) Tryz.underlying31 rfl (by kernel_rfl)) rfl ?_
  exact er (bbw2 HB GE421 GE422)
 ·replace c3 := Bool.eq_false_iff.mpr c3
  subst c3
  replace H := ifF H
  simp only [Option.some.injEq, Prod.mk.injEq] at H
  obtain ⟨rfl, rfl, rfl⟩ := H
  go_enter Tryz.func42, Tryz.ntmps42
  go_wp2_with (first | ((with_reducible refine gd 1 rfl ?_); refine bx #[.int .i64 a0_0, .int .i64 a0_1] 31 ?_; intro gb421 hg w11 BK421 hb; have GE421 := ngw0 hg HB; replace HB := bS0 HB hb; clear hb hg) | ((with_reducible refine gd 2 rfl ?_); refine bx #[.int .i64 0, .int .i64 0] 31 ?_; intro gb422 hg w12 BK422 hb; have GE422 := ngw1 hg HB GE421; replace HB := bS1 HB GE421 hb; have NB421_422 := nlt hg BK421; have NB422_421 := nsy (nlt hg BK421); replace BK421 := bB BK421 hb; clear hb hg; have hnb13 := NB421_422.out; have hnc13 := NB422_421.out; obtain ⟨hcz14_0, hcz14_1, hfz14_0, hfz14_1⟩ := bz2 BK421) | ((with_reducible refine gate_callee (f := 41) rfl ?_); refine gl 5 Tryz.func41 #[.agg #[.int .i64 a0_0, .int .i64 a0_1]] ?_; (with_reducible refine (impl_IsVec.calls _ _ _ _ A2.out).mono ?_); rintro e w15 ⟨rfl, hb⟩; refine ⟨_, rfl, ?_⟩; replace BK421 := bB BK421 hb; replace BK422 := bB BK422 hb; replace HB := bS2 HB GE421 GE422 hb; (try clear hb); obtain ⟨hcz16_0, hcz16_1, hfz16_0, hfz16_1⟩ := bz2 BK422))
  refine bodyPost_ret (results_ct rfl _ _ gb422 31 #[.int .i64 0, .int .i64 0] (0, 0) _ rfl (bq0 BK422) Tryz.underlying31 rfl (by kernel_rfl)) rfl ?_
  exact er (bbw2 HB GE421 GE422)
/-! ### impl_gcd: function 65 -/
def impl_gcd.l0 : Nat → Int → Int → Option (Int)
 | 0, _, _ => none
 | k + 1, x0, x1 => if x1 = 0 then (some (mx x0 (wrap64 (-x0)))) else (impl_gcd.l0 k x1 (Int.tmod x0 x1))
def impl_gcd.f (k : Nat) (a0 : Int) (a1 : Int) : Option (Int) := impl_gcd.l0 k a0 a1
set_option maxHeartbeats 8000000 in
set_option maxRecDepth 100000 in
theorem impl_gcd.calls (k : Nat) (a0 : Int) (a1 : Int) (r : Int) (w : World) (h : impl_gcd.f k a0 a1 = some r) :
  Calls Tryz.prog 65 #[.int .i64 a0, .int .i64 a1] w fun e w' => e = .returned (.int .i64 r) ∧ Below w.heap.size w w' := by
 have HB := asd (Below.refl w.heap.size w)
 have H : (impl_gcd.l0 k a0 a1) = some r := h
 clear h
 have H' := Aside0.mk H
 clear H
 go_enter Tryz.func65, Tryz.ntmps65
 go_wp2
 repeat (go_quiet (fail); try go_wp2)
 go_loopg [0, 1] k (fun kq v0 v1 w' => ∃ (x0_1 : Int) (x1_1 : Int), v0 = .int .i64 x0_1 ∧ v1 = .int .i64 x1_1 ∧ Aside0 (impl_gcd.l0 kq x0_1 x1_1 = some r) ∧ Aside0 (kq ≤ k) ∧ Aside0 (Below w.heap.size w w'))
 case atStart => exact ⟨(a0), (a1), (by first | rfl | (simp; done) | (simp [*]; done)), (by first | rfl | (simp; done) | (simp [*]; done)), H', ⟨Nat.le_refl _⟩, ⟨bbw0 HB⟩⟩
 case round =>
  clear H'
  try clear p2
  obtain ⟨x0_1, x1_1, rfl, rfl, HA, HK1, HB⟩ := hrel
  cases gk with
  | zero => exact absurd HA.out (by simp [impl_gcd.l0])
  | succ k1 =>
   have H := HA.out
   clear HA
   simp only [impl_gcd.l0] at H
   by_cases c3 : x1_1 = 0
   ·rw [if_pos c3] at H
    have c3b0 : (x1_1 == 0) = true := beq_iff_eq.mpr c3
    have c3b1 : (x1_1 != 0) = false := bne_eq_false_iff_eq.mpr c3
    clear c3
    obtain ⟨ji4, hji4⟩ : ∃ j_ : Int, (mx x0_1 (wrap64 (-x0_1))) = j_ := ⟨_, rfl⟩
    replace H : (some ji4) = some r := by first | (rw [hji4] at H; first | done | exact H) | (simp only [hji4] at H ⊢; exact H)
    have hji4_ : (if x0_1 < (wrap64 (-x0_1)) then (wrap64 (-x0_1)) else x0_1) = ji4 := hji4
    obtain rfl := Option.some.inj H
    go_wp2
    repeat (go_quiet (fail); try go_wp2)
    go_ret
    exact ⟨by first | rfl | (simp [errW_none, errW_some] <;> rfl) | (simp only [← hji4]; first | rfl | (simp [errW_none, errW_some] <;> rfl)) | (simp [*, errW_none, errW_some] <;> rfl), bbw0 HB⟩
   ·rw [if_neg c3] at H
    have c3b0 : (x1_1 == 0) = false := beq_eq_false_iff_ne.mpr c3
    have c3b1 : (x1_1 != 0) = true := bne_iff_ne.mpr c3
    have H' := Aside0.mk H
    clear H
    go_wp2
    repeat (go_quiet (fail); try go_wp2)
    go_roundg k1
    case measure => have := HK1.out; omega
    case rel => exact ⟨(x1_1), (Int.tmod x0_1 x1_1), (by first | rfl | (simp; done) | (simp [*]; done)), (by first | rfl | (simp; done) | (simp [*]; done)), H', ⟨by have := HK1.out; omega⟩, ⟨bbw0 HB⟩⟩
/-! ### impl_compareNumbers: function 108 -/
def impl_compareNumbers.l0 : Nat → List Int → List Int → Int → Int → Option (Int)
 | 0, _, _, _, _ => none
 | k + 1, x0, x1, x7, x8 => if x8 < x7 then (if 0 ≤ x8 then (if x8 < (x0.length : Int) then (if x8 < (x1.length : Int) then (if (rd x0 x8) = (rd x1 x8) then (impl_compareNumbers.l0 k x0 x1 x7 (wrap64 (x8 + 1))) else (if (rd x0 x8) < (rd x1 x8) then (some (-1)) else (some 1))) else (none)) else (none)) else (none)) else (some 0)
def impl_compareNumbers.f (k : Nat) (l0 : List Int) (l1 : List Int) : Option (Int) := impl_compareNumbers.l0 k l0 l1 (l0.length : Int) 0
set_option maxHeartbeats 8000000 in
set_option maxRecDepth 100000 in
theorem impl_compareNumbers.calls (k : Nat) (A0 : Option Addr) (c0 : Nat) (l0 : List Int) (A1 : Option Addr) (c1 : Nat) (l1 : List Int) (r : Int) (w : World) (hr0 : Kd.C (Kd.int .i64) w A0 l0.length l0) (hc0 : l0.length ≤ c0) (hr1 : Kd.C (Kd.int .i64) w A1 l1.length l1) (hc1 : l1.length ≤ c1) (h : impl_compareNumbers.f k l0 l1 = some r) :
  Calls Tryz.prog 108 #[.slice A0 l0.length c0, .slice A1 l1.length c1] w fun e w' => e = .returned (.int .i64 r) ∧ Drawn0 w w' := by
 have HR0 := Aside0.mk hr0
 have HC0 := Aside0.mk hc0
 clear hr0 hc0
 have HR1 := Aside0.mk hr1
 have HC1 := Aside0.mk hc1
 clear hr1 hc1
 have H : (impl_compareNumbers.l0 k l0 l1 (l0.length : Int) 0) = some r := h
 clear h
 have H' := Aside0.mk H
 clear H
 go_enter Tryz.func108, Tryz.ntmps108
 go_wp2
 repeat (go_quiet (fail); try go_wp2)
 go_loopg [8] k (fun kq v8 w' => ∃ (x8_1 : Int), v8 = .int .i64 x8_1 ∧ Aside0 (impl_compareNumbers.l0 kq l0 l1 (l0.length : Int) x8_1 = some r) ∧ Aside0 (kq ≤ k) ∧ Drawn0 w w')
 case atStart => exact ⟨(0), (by first | rfl | (simp; done) | (simp [*]; done)), H', ⟨Nat.le_refl _⟩, by repeat (first | exact Drawn0.refl _ | apply Drawn0.step)⟩
 case round =>
  clear H'
  try clear c1
  try clear p2
  obtain ⟨x8_1, rfl, HA, HK1, ⟨m1, rfl⟩⟩ := hrel
  cases gk with
  | zero => exact absurd HA.out (by simp [impl_compareNumbers.l0])
  | succ k1 =>
   have H := HA.out
   clear HA
   simp only [impl_compareNumbers.l0] at H
   by_cases c3 : x8_1 < (l0.length : Int)
   rw [if_pos c3] at H
   have c3b0 := decide_eq_true c3
   clear c3
   by_cases c4 : 0 ≤ x8_1
   rw [if_pos c4] at H
   have c4b0 := decide_eq_true c4
   clear c4
   by_cases c5 : x8_1 < (l0.length : Int)
   rw [if_pos c5] at H
   have c5b0 := decide_eq_true c5
   clear c5
   by_cases c6 : x8_1 < (l1.length : Int)
   rw [if_pos c6] at H
   have c6b0 := decide_eq_true c6
   clear c6
   by_cases c7 : (rd l0 x8_1) = (rd l1 x8_1)
   rw [if_pos c7] at H
   have c7b0 : ((rd l0 x8_1) == (rd l1 x8_1)) = true := beq_iff_eq.mpr c7
   have c7b1 : ((rd l0 x8_1) != (rd l1 x8_1)) = false := bne_eq_false_iff_eq.mpr c7
   clear c7
   have H' := Aside0.mk H
   clear H
   rotate_left
   rw [if_neg c7] at H
   have c7b0 : ((rd l0 x8_1) == (rd l1 x8_1)) = false := beq_eq_false_iff_ne.mpr c7
   have c7b1 : ((rd l0 x8_1) != (rd l1 x8_1)) = true := bne_iff_ne.mpr c7
   by_cases c8 : (rd l0 x8_1) < (rd l1 x8_1)
   rw [if_pos c8] at H
   have c8b0 := decide_eq_true c8
   clear c8
   obtain rfl := Option.some.inj H
   rotate_left
   rw [if_neg c8] at H
   have c8b0 := decide_eq_false c8
   clear c8
   obtain rfl := Option.some.inj H
   rotate_left
   ·rw [if_neg c6] at H
    exact absurd H (by simp)
   ·rw [if_neg c5] at H
    exact absurd H (by simp)
   ·rw [if_neg c4] at H
    exact absurd H (by simp)
   rw [if_neg c3] at H
   have c3b0 := decide_eq_false c3
   clear c3
   obtain rfl := Option.some.inj H
   rotate_left
   rotate_left 3
   ·go_wp2
    repeat (go_quiet (fail); try go_wp2)
    go_ret
    exact ⟨by first | rfl | (simp; done) | (simp [*]; done), by repeat (first | exact Drawn0.refl _ | apply Drawn0.step)⟩
   all_goals
    have p424 : 0 ≤ (x8_1 : Int) := od
    have q424 : x8_1 < (l0.length : Int) := od
    obtain ⟨ad424, e424, hx424_0⟩ := Kd.at_int HR0.out x8_1 p424 q424
    cases e424
    replace p424 := eq_true p424
    replace q424 := eq_true q424
    have p425 : 0 ≤ (x8_1 : Int) := od
    have q425 : x8_1 < (l1.length : Int) := od
    obtain ⟨ad425, e425, hx425_0⟩ := Kd.at_int HR1.out x8_1 p425 q425
    cases e425
    replace p425 := eq_true p425
    replace q425 := eq_true q425
   ·go_wp2
    repeat (go_quiet (fail); try go_wp2)
    go_roundg k1
    case measure => have := HK1.out; omega
    case rel => exact ⟨(wrap64 (x8_1 + 1)), (by first | rfl | (simp; done) | (simp [*]; done)), H', ⟨by have := HK1.out; omega⟩, by repeat (first | exact Drawn0.refl _ | apply Drawn0.step)⟩
   rotate_left 2
   all_goals
    have p426 : 0 ≤ (x8_1 : Int) := od
    have q426 : x8_1 < (l0.length : Int) := od
    obtain ⟨ad426, e426, hx426_0⟩ := Kd.at_int HR0.out x8_1 p426 q426
    obtain rfl : ad424 = ad426 := (by injection e426)
    replace p426 := eq_true p426
    replace q426 := eq_true q426
    have p427 : 0 ≤ (x8_1 : Int) := od
    have q427 : x8_1 < (l1.length : Int) := od
    obtain ⟨ad427, e427, hx427_0⟩ := Kd.at_int HR1.out x8_1 p427 q427
    obtain rfl : ad425 = ad427 := (by injection e427)
    replace p427 := eq_true p427
    replace q427 := eq_true q427
    go_wp2
    repeat (go_quiet (fail); try go_wp2)
    go_ret
    exact ⟨by first | rfl | (simp; done) | (simp [*]; done), by repeat (first | exact Drawn0.refl _ | apply Drawn0.step)⟩
/-! ### impl_compareVecs: function 88 -/
def impl_compareVecs.f (k : Nat) (a0_0 : Int) (a0_1 : Int) (a1_0 : Int) (a1_1 : Int) : Option (Int) := (impl_compareNumbers.f k (([a0_0, a0_1] : List Int)) (([a1_0, a1_1] : List Int))).bind fun t436 => (some t436)
set_option maxHeartbeats 8000000 in
set_option maxRecDepth 100000 in
theorem impl_compareVecs.calls (k : Nat) (a0_0 : Int) (a0_1 : Int) (a1_0 : Int) (a1_1 : Int) (r : Int) (w : World) (h : impl_compareVecs.f k a0_0 a0_1 a1_0 a1_1 = some r) :
  Calls Tryz.prog 88 #[.agg #[.int .i64 a0_0, .int .i64 a0_1], .agg #[.int .i64 a1_0, .int .i64 a1_1]] w fun e w' => e = .returned (.int .i64 r) ∧ Below w.heap.size w w' := by
 have hu31 := Tryz.underlying31
 have HB := asd (Below.refl w.heap.size w)
 have H : ((impl_compareNumbers.f k (([a0_0, a0_1] : List Int)) (([a1_0, a1_1] : List Int))).bind fun t436 => (some t436)) = some r := h
 clear h
 obtain ⟨y430, hy430⟩ : ∃ y_ : List Int, y_ = (([a0_0, a0_1] : List Int)) := ⟨_, rfl⟩
 replace H : ((impl_compareNumbers.f k y430 (([a1_0, a1_1] : List Int))).bind fun t436 => (some t436)) = some r := by first | (rw [hy430]; with_reducible exact H) | (have H2_ := (Option.bind_some _ _).symm.trans H; rw [hy430]; with_reducible exact H2_) | (have H2_ := (Option.bind_some _ _).symm.trans H; with_reducible exact H2_) | with_reducible exact H | (rw [hy430]; exact H) | exact H
 have Ny430 := Aside0.mk hy430
 clear hy430
 obtain ⟨y433, hy433⟩ : ∃ y_ : List Int, y_ = (([a1_0, a1_1] : List Int)) := ⟨_, rfl⟩
 replace H : ((impl_compareNumbers.f k y430 y433).bind fun t436 => (some t436)) = some r := by first | (rw [hy433]; with_reducible exact H) | (have H2_ := (Option.bind_some _ _).symm.trans H; rw [hy433]; with_reducible exact H2_) | (have H2_ := (Option.bind_some _ _).symm.trans H; with_reducible exact H2_) | with_reducible exact H | (rw [hy433]; exact H) | exact H
 have Ny433 := Aside0.mk hy433
 clear hy433
 obtain ⟨t436, A3, H⟩ := ob H
 try dsimp only at H
 obtain rfl := Option.some.inj H
 go_enter Tryz.func88, Tryz.ntmps88
 go_wp2_with (first | ((with_reducible refine gd 2 rfl ?_); refine bx #[.int .i64 a0_0, .int .i64 a0_1] 31 ?_; intro gb428 hg w4 BK428 hb; have GE428 := ngw0 hg HB; replace HB := bS0 HB hb; clear hb hg) | ((with_reducible refine gd 3 rfl ?_); refine bx #[.int .i64 a1_0, .int .i64 a1_1] 31 ?_; intro gb429 hg w5 BK429 hb; have GE429 := ngw1 hg HB GE428; replace HB := bS1 HB GE428 hb; have NB428_429 := nlt hg BK428; have NB429_428 := nsy (nlt hg BK428); replace BK428 := bB BK428 hb; clear hb hg; have hnb6 := NB428_429.out; have hnc6 := NB429_428.out; obtain ⟨hcz7_0, hcz7_1, hfz7_0, hfz7_1⟩ := bz2 BK428) | ((with_reducible refine gd 9 rfl ?_); refine Kd.R_lit (Kd.int .i64) _ 2 ?hg (N := 9) ?hd (xs := ([a0_0, a0_1] : List Int)) (inner := [.int .i64 a0_0, .int .i64 a0_1]) (ok := fun _ => True) (okp := fun _ => True) ?hr ?hp (fun _ hk => hk) trivial (Below.refl _ _) (Nat.le_refl _) (by simp) ?_; (case hd => rfl); (case hg => rfl); (case hr => first | (go_simp; done) | (go_simp; rfl)); (case hp => exact (Reps.one (show Kd.M (Kd.int .i64) _ _ _ a0_0 [.int .i64 a0_0] from rfl) (Reps.one (show Kd.M (Kd.int .i64) _ _ _ a0_1 [.int .i64 a0_1] from rfl) (Reps.none _ _)))); intro v431 w8 ho9 hb hg_ hnew_; clear hg_ hnew_; (first | rw [← Ny430.out] at ho9 | (simp only [Int.reduceToNat] at ho9; rw [← Ny430.out] at ho9)); have HO432 := asd (Kd.R_lower ho9 (bsz2 HB GE428 GE429)); replace BK428 := bB BK428 hb; replace BK429 := bB BK429 hb; replace HB := bS2 HB GE428 GE429 hb; clear hb ho9; obtain ⟨hcz10_0, hcz10_1, hfz10_0, hfz10_1⟩ := bz2 BK429) | ((with_reducible refine gd 14 rfl ?_); refine Kd.R_lit (Kd.int .i64) _ 2 ?hg (N := 14) ?hd (xs := ([a1_0, a1_1] : List Int)) (inner := [.int .i64 a1_0, .int .i64 a1_1]) (ok := fun _ => True) (okp := fun _ => True) ?hr ?hp (fun _ hk => hk) trivial (Below.refl _ _) (Nat.le_refl _) (by simp) ?_; (case hd => rfl); (case hg => rfl); (case hr => first | (go_simp; done) | (go_simp; rfl)); (case hp => exact (Reps.one (show Kd.M (Kd.int .i64) _ _ _ a1_0 [.int .i64 a1_0] from rfl) (Reps.one (show Kd.M (Kd.int .i64) _ _ _ a1_1 [.int .i64 a1_1] from rfl) (Reps.none _ _)))); intro v434 w11 ho12 hb hg_ hnew_; clear hg_ hnew_; (first | rw [← Ny433.out] at ho12 | (simp only [Int.reduceToNat] at ho12; rw [← Ny433.out] at ho12)); have HO435 := asd (Kd.R_lower (Kd.R_new' ho12 (Kd.R_lt (kr HO432))) (bsz2 HB GE428 GE429)); replace HO432 := asd (Kd.R_elder' (kr HO432) (Kd.R_base ho12) hb); replace BK428 := bB BK428 hb; replace BK429 := bB BK429 hb; replace HB := bS2 HB GE428 GE429 hb; clear hb ho12; obtain ⟨Ao13, co13, eo13⟩ := Kd.R_slice HO432.out; subst eo13; obtain ⟨Ao14, co14, eo14⟩ := Kd.R_slice HO435.out; subst eo14) | ((with_reducible refine gate_callee (f := 108) rfl ?_); refine gl 15 Tryz.func108 #[.slice Ao13 y430.length co13, .slice Ao14 y433.length co14] ?_; (with_reducible refine (impl_compareNumbers.calls _ _ _ _ _ _ _ _ _ ?side1 ?side2 ?side3 ?side4 A3.out).mono ?_); (case side1 => exact ks (Kd.R_reads' HO432.out).2.2); (case side2 => exact (Kd.R_reads' HO432.out).2.1); (case side3 => exact ks (Kd.R_reads' HO435.out).2.2); (case side4 => exact (Kd.R_reads' HO435.out).2.1); rintro e w' ⟨rfl, ⟨nd, rfl⟩⟩; refine ⟨_, rfl, ?_⟩))
 go_ret
 exact er (bbw2 HB GE428 GE429)
/-! ### impl_Vec_times: function 89 -/
def impl_Vec_times.f (a0_0 : Int) (a0_1 : Int) (a1 : Int) : Option (Int × Int) := some (wrap64 (a1 * a0_0), wrap64 (a1 * a0_1))
set_option maxHeartbeats 8000000 in
set_option maxRecDepth 100000 in
theorem impl_Vec_times.calls (a0_0 : Int) (a0_1 : Int) (a1 : Int) (r1 : Int) (r2 : Int) (w : World) (h : impl_Vec_times.f a0_0 a0_1 a1 = some (r1, r2)) :
  Calls Tryz.prog 89 #[.agg #[.int .i64 a0_0, .int .i64 a0_1], .int .i64 a1] w fun e w' => e = .returned (.agg #[.int .i64 r1, .int .i64 r2]) ∧ Below w.heap.size w w' := by
 have hu31 := Tryz.underlying31
 have HB := asd (Below.refl w.heap.size w)
 have H : (some (wrap64 (a1 * a0_0), wrap64 (a1 * a0_1))) = some (r1, r2) := h
 clear h
 simp only [Option.some.injEq, Prod.mk.injEq] at H
 obtain ⟨rfl, rfl⟩ := H
 go_enter Tryz.func89, Tryz.ntmps89
 go_wp2_with (first | ((with_reducible refine gd 2 rfl ?_); refine bx #[.int .i64 a0_0, .int .i64 a0_1] 31 ?_; intro gb437 hg w3 BK437 hb; have GE437 := ngw0 hg HB; replace HB := bS0 HB hb; clear hb hg) | ((with_reducible refine gd 4 rfl ?_); refine bx #[.int .i64 0, .int .i64 0] 31 ?_; intro gb438 hg w4 BK438 hb; have GE438 := ngw1 hg HB GE437; replace HB := bS1 HB GE437 hb; have NB437_438 := nlt hg BK437; have NB438_437 := nsy (nlt hg BK437); replace BK437 := bB BK437 hb; clear hb hg; have hnb5 := NB437_438.out; have hnc5 := NB438_437.out; obtain ⟨hcz6_0, hcz6_1, hfz6_0, hfz6_1⟩ := bz2 BK437; obtain ⟨hcz7_0, hcz7_1, hfz7_0, hfz7_1⟩ := bz2 BK438))
 refine bodyPost_ret (results_cell_row rfl _ _ gb438 31 #[.int .i64 (wrap64 (a1 * a0_0)), .int .i64 (wrap64 (a1 * a0_1))] (0, 0) _ rfl (bq0 BK438) Tryz.underlying31 rfl (by kernel_rfl)) rfl ?_
 exact er (bbw2 HB GE437 GE438)

end Go.Proofs.YtedmadofpdkekaaGreat.PA
