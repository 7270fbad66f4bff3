/- Walks written by program: each Go function that the law reaches comes to the plain function beside it. -/
import Derived.Test.YtcchmdodifkloaaPAx0
import Derived.Test.YtcchmdodifkloaaPAx1
import Derived.Test.YtcchmdodifkloaaPAx5
import Derived.Test.YtcchmdodifkloaaPAx6
namespace Go.Proofs.Ytcchmdodifkloaa.PA
open Go.RowKit Go.Proofs.YtcchmdodifkloaaW.PrintWords Go.Proofs.YtcchmdodifkloaaW.PrintLast Go.Proofs.YtcchmdodifkloaaW.PrintMore
attribute [local go_sem] max2_int min2_int max_two min_two max_three min_three max_four min_four   -- for this text's walks alone
set_option linter.unusedVariables false
set_option linter.unusedSimpArgs false

/-! ### spec_l04Image: function 88 -/
def spec_l04Image.f (k : Nat) (a0_0 : Int) (a0_1 : Int) (a0_2 : Int) (a0_3 : Int) (a1_0 : Int) (a1_1 : Int) (a1_2 : Int) : Option (Int × Int × Int) := (spec_l03Basis.f a1_0 a1_1 a1_2).bind fun t202 => (if 0 < (t202.length : Int) then ((spec_l02Apply.f a0_0 a0_1 a0_2 a0_3 ((rd_T53 t202 0).f0) ((rd_T53 t202 0).f1)).bind fun bt206 => (if 1 < (t202.length : Int) then ((spec_l02Apply.f a0_0 a0_1 a0_2 a0_3 ((rd_T53 t202 1).f0) ((rd_T53 t202 1).f1)).bind fun bt209 => ((spec_l03Hermite.f k (([(⟨bt206.1, bt206.2⟩ : S53), (⟨bt209.1, bt209.2⟩ : S53)] : List (S53)))).bind fun bt214 => (some (bt214.1, bt214.2.1, bt214.2.2)))) else (none))) else (none))
def spec_l04Image.T2 : Bool × List (List Nat × List Nat) := (true, [([], []), ([], []), ([1], [1]), ([2], [2]), ([0, 3], [0, 3]), ([], []), ([], []), ([6], [6]), ([7], [7]), ([5, 8, 4], [5, 8]), ([4, 9], [4, 9]), ([10, 9], [10]), ([11, 11, 0, 1, 2, 3, 4, 5, 6, 7, 8, 9, 10, 11], [11])])
def spec_l04Image.B2 : List Nat := [0, 0, 2, 6, 15, 0, 0, 64, 192, 511, 1023, 2047, 4095]
theorem spec_l04Image.tab2 : rtab .any (opsOf Try.f88 2) = spec_l04Image.T2 := by kernel_rfl
theorem spec_l04Image.bits2 : waitsOk spec_l04Image.T2.2 spec_l04Image.B2 = true := by kernel_rfl
set_option maxHeartbeats 8000000 in
set_option maxRecDepth 100000 in
theorem spec_l04Image.calls (k : Nat) (a0_0 : Int) (a0_1 : Int) (a0_2 : Int) (a0_3 : Int) (a1_0 : Int) (a1_1 : Int) (a1_2 : Int) (r1 : Int) (r2 : Int) (r3 : Int) (w : World) (h : spec_l04Image.f k a0_0 a0_1 a0_2 a0_3 a1_0 a1_1 a1_2 = some (r1, r2, r3)) :
  Calls Try.prog 88 #[.agg #[.int .i64 a0_0, .int .i64 a0_1, .int .i64 a0_2, .int .i64 a0_3], .agg #[.int .i64 a1_0, .int .i64 a1_1, .int .i64 a1_2]] w fun e w' => e = .returned (.agg #[.int .i64 r1, .int .i64 r2, .int .i64 r3]) ∧ Below w.heap.size w w' := by
 have hu51 := Try.underlying51
 have hu27 := Try.underlying27
 have hu53 := Try.underlying53
 have HB := asd (Below.refl w.heap.size w)
 have H : ((spec_l03Basis.f a1_0 a1_1 a1_2).bind fun t202 => (if 0 < (t202.length : Int) then ((spec_l02Apply.f a0_0 a0_1 a0_2 a0_3 ((rd_T53 t202 0).f0) ((rd_T53 t202 0).f1)).bind fun bt206 => (if 1 < (t202.length : Int) then ((spec_l02Apply.f a0_0 a0_1 a0_2 a0_3 ((rd_T53 t202 1).f0) ((rd_T53 t202 1).f1)).bind fun bt209 => ((spec_l03Hermite.f k (([(⟨bt206.1, bt206.2⟩ : S53), (⟨bt209.1, bt209.2⟩ : S53)] : List (S53)))).bind fun bt214 => (some (bt214.1, bt214.2.1, bt214.2.2)))) else (none))) else (none))) = some (r1, r2, r3) := h
 clear h
 obtain ⟨t202, A3, H⟩ := ob H
 try dsimp only at H
 by_cases c4 : 0 < (t202.length : Int)
 ·rw [if_pos c4] at H
  have c4b0 := decide_eq_true c4
  have c4b1 : decide (0 < t202.length) = true := decide_eq_true (by omega)
  clear c4
  obtain ⟨⟨t206, t207⟩, A5, H⟩ := ob H
  try dsimp only at H
  by_cases c6 : 1 < (t202.length : Int)
  ·rw [if_pos c6] at H
   have c6b0 := decide_eq_true c6
   have c6b1 : decide (1 < t202.length) = true := decide_eq_true (by omega)
   clear c6
   obtain ⟨⟨t209, t210⟩, A7, H⟩ := ob H
   try dsimp only at H
   obtain ⟨y211, hy211⟩ : ∃ y_ : List (S53), y_ = (([(⟨t206, t207⟩ : S53), (⟨t209, t210⟩ : S53)] : List (S53))) := ⟨_, rfl⟩
   replace H : ((spec_l03Hermite.f k y211).bind fun bt214 => (some (bt214.1, bt214.2.1, bt214.2.2))) = some (r1, r2, r3) := by first | (rw [hy211]; with_reducible exact H) | (have H2_ := (Option.bind_some _ _).symm.trans H; rw [hy211]; with_reducible exact H2_) | (have H2_ := (Option.bind_some _ _).symm.trans H; with_reducible exact H2_) | with_reducible exact H | (rw [hy211]; exact H) | exact H
   have Ny211 := Aside0.mk hy211
   clear hy211
   obtain ⟨⟨t214, t215, t216⟩, A8, H⟩ := ob H
   try dsimp only at H
   simp only [Option.some.injEq, Prod.mk.injEq] at H
   obtain ⟨rfl, rfl, rfl⟩ := H
   go_enter Try.func88, Try.ntmps88
   try go_wp2_with (first | ((with_reducible refine gd 2 rfl ?_); refine bx #[.int .i64 a0_0, .int .i64 a0_1, .int .i64 a0_2, .int .i64 a0_3] 51 ?_; intro gb199 hg w9 BK199 hb; have GE199 := ngw0 hg HB; replace HB := bS0 HB hb; clear hb hg) | ((with_reducible refine gd 3 rfl ?_); refine bx #[.int .i64 a1_0, .int .i64 a1_1, .int .i64 a1_2] 27 ?_; intro gb200 hg w10 BK200 hb; have GE200 := ngw1 hg HB GE199; replace HB := bS1 HB GE199 hb; have NB199_200 := nlt hg BK199; have NB200_199 := nsy (nlt hg BK199); replace BK199 := bB BK199 hb; clear hb hg) | ((with_reducible refine gd 4 rfl ?_); refine bx #[.int .i64 0, .int .i64 0, .int .i64 0] 27 ?_; intro gb201 hg w11 BK201 hb; have GE201 := ngw2 hg HB GE199 GE200; replace HB := bS2 HB GE199 GE200 hb; have NB199_201 := nlt hg BK199; have NB201_199 := nsy (nlt hg BK199); replace BK199 := bB BK199 hb; have NB200_201 := nlt hg BK200; have NB201_200 := nsy (nlt hg BK200); replace BK200 := bB BK200 hb; clear hb hg; have hnb12 := NB200_199.out; have hnc12 := NB199_200.out; have hnb13 := NB200_201.out; have hnc13 := NB201_200.out; obtain ⟨hcz14_0, hcz14_1, hcz14_2, hfz14_0, hfz14_1, hfz14_2⟩ := bz3 BK200) | ((with_reducible refine gate_callee (f := 103) rfl ?_); refine gl 7 Try.func103 #[.agg #[.int .i64 a1_0, .int .i64 a1_1, .int .i64 a1_2]] ?_; (with_reducible refine (spec_l03Basis.calls _ _ _ _ _ A3.out).mono ?_); rintro e w15 ⟨v203, rfl, ho0, hb⟩; refine ⟨_, rfl, ?_⟩; have HO204 := asd (Kd.R_lower ho0 (bsz3 HB GE199 GE200 GE201)); replace BK199 := bB BK199 hb; replace BK200 := bB BK200 hb; replace BK201 := bB BK201 hb; replace HB := bS3 HB GE199 GE200 GE201 hb; (try clear hb); (try clear hb2); (try clear hk); (try clear hi); (try clear ho0)))
   replace HO204 := asd (Kd.R_drew HO204.out)
   replace BK199 := asd (blk_drew BK199.out)
   replace BK200 := asd (blk_drew BK200.out)
   replace BK201 := asd (blk_drew BK201.out)
   replace HB := asd (below_drew1 HB.out)
   obtain ⟨Ao17, co17, eo17⟩ := Kd.R_slice HO204.out
   (first | subst eo17 | (injection eo17 with f1_ f2_ f3_; have f4_ := f1_.symm; have f5_ := f3_.symm; clear f1_ f2_ f3_; subst f4_; subst f5_))
   have p205 : 0 ≤ (0 : Int) := (by omega)
   have q205 : 0 < (t202.length : Int) := od
   obtain ⟨ad205, e205, hx205_0, hx205_1⟩ := at_T53 (Kd.R_reads' HO204.out).2.2 0 p205 q205
   cases e205
   have qi205 : (0 < t202.length) = True := eq_true (by omega)
   (try rw [show ((0 : Int)).toNat = 0 from rfl] at hx205_0)
   (try rw [show 0 * 2 = 0 from rfl] at hx205_0)
   (try rw [Addr.add_zero'] at hx205_0)
   (try rw [show ((0 : Int)).toNat = 0 from rfl] at hx205_1)
   (try rw [show 0 * 2 = 0 from rfl] at hx205_1)
   (try rw [Addr.add_zero'] at hx205_1)
   replace p205 := eq_true p205
   replace q205 := eq_true q205
   have p208 : 0 ≤ (1 : Int) := (by omega)
   have q208 : 1 < (t202.length : Int) := od
   obtain ⟨ad208, e208, hx208_0, hx208_1⟩ := at_T53 (Kd.R_reads' HO204.out).2.2 1 p208 q208
   obtain rfl : ad205 = ad208 := (by injection e208)
   (try simp only [show (1 : Int).toNat = 1 from rfl, Nat.reduceMul, Nat.reduceEqDiff, Go.Addr.add, ↓reduceIte] at hx208_0)
   (try simp only [show (1 : Int).toNat = 1 from rfl, Nat.reduceMul, Nat.reduceEqDiff, Go.Addr.add, ↓reduceIte] at hx208_1)
   have qi208 : (1 < t202.length) = True := eq_true (by omega)
   (try rw [show ((1 : Int)).toNat = 1 from rfl] at hx208_0)
   (try rw [show 1 * 2 = 2 from rfl] at hx208_0)
   (try rw [show ((1 : Int)).toNat = 1 from rfl] at hx208_1)
   (try rw [show 1 * 2 = 2 from rfl] at hx208_1)
   replace p208 := eq_true p208
   replace q208 := eq_true q208
   refine sh 13 (cb4 BK199 (c1 hx205_0 (c1 hx205_1 (c1 hx208_0 (e1 hx208_1))))) (fun hHeld => ?_); refine with_tabW spec_l04Image.tab2 spec_l04Image.bits2 (fun HT_ HW_ => ?_)
   generalize w15.drew = w16 at HO204 BK199 BK200 BK201 HB hx205_0 hx205_1 hx208_0 hx208_1 hHeld ⊢
   refine pu 1 (some 9) (bs 13 2) HT_ ?_
   refine pu 2 (some 10) (bs 13 6) HT_ ?_
   refine pu 6 (some 14) (bs 13 70) HT_ ?_
   refine pu 7 (some 15) (bs 13 198) HT_ ?_
   refine ta 0 (some 8) (bs 13 199) HT_ HW_ hHeld ?_
   refine ta 3 (some 11) (bs 13 207) HT_ HW_ hHeld ?_
   refine ta 5 (some 13) (bs 13 239) HT_ HW_ hHeld ?_
   refine ta 8 (some 16) (bs 13 495) HT_ HW_ hHeld ?_
   refine ro 4 (some 12) (bt 13 9) HT_ (fun K hK => ?_)
   refine gs Try.func75 #[.agg #[.int .i64 a0_0, .int .i64 a0_1, .int .i64 a0_2, .int .i64 a0_3], .agg #[.int .i64 ((rd_T53 t202 0).f0), .int .i64 ((rd_T53 t202 0).f1)]] ?_
   with_reducible refine (spec_l02Apply.calls _ _ _ _ _ _ _ _ _ A5.out).mono ?_
   rintro e w18 ⟨rfl, hb⟩
   have HS4_ := (hb.cell (World.block_lt_of_cell? _ _ (hHeld.2.2.2.2.1))).trans (hHeld.2.2.2.2.1)
   have HS5_ := (hb.cell (World.block_lt_of_cell? _ _ (hHeld.2.2.2.2.2.1))).trans (hHeld.2.2.2.2.2.1)
   have HS6_ := (hb.cell (World.block_lt_of_cell? _ _ (hHeld.2.2.2.2.2.2.1))).trans (hHeld.2.2.2.2.2.2.1)
   have HS7_ := (hb.cell (World.block_lt_of_cell? _ _ (hHeld.2.2.2.2.2.2.2))).trans (hHeld.2.2.2.2.2.2.2)
   refine ⟨_, rfl, ?_⟩
   replace HO204 := asd (Kd.R_below (kr HO204) hb)
   replace BK199 := bB BK199 hb
   replace BK200 := bB BK200 hb
   replace BK201 := bB BK201 hb
   replace HB := bS3 HB GE199 GE200 GE201 hb
   (try clear hb)
   (try clear hb2)
   (try clear hk)
   (try clear hi)
   refine hK.out _ _ ⟨bcl BK199 0, bcl BK199 1, bcl BK199 2, bcl BK199 3, HS4_, HS5_, HS6_, HS7_⟩ (fun hHeld => ?_)
   clear hK K
   refine norm_ (a' := ?_) ?_ ?_
   rotate_left
   ·show Act.put _ (some 12) _ = _
    simp only [Act.put, sA, sB, sC, i64_w, i32_w]
    rfl
   refine ro 9 (some 17) (bt 13 10) HT_ (fun K hK => ?_)
   refine gs Try.func75 #[.agg #[.int .i64 a0_0, .int .i64 a0_1, .int .i64 a0_2, .int .i64 a0_3], .agg #[.int .i64 ((rd_T53 t202 1).f0), .int .i64 ((rd_T53 t202 1).f1)]] ?_
   with_reducible refine (spec_l02Apply.calls _ _ _ _ _ _ _ _ _ A7.out).mono ?_
   rintro e w19 ⟨rfl, hb⟩
   have HS4_ := (hb.cell (World.block_lt_of_cell? _ _ (hHeld.2.2.2.2.1))).trans (hHeld.2.2.2.2.1)
   have HS5_ := (hb.cell (World.block_lt_of_cell? _ _ (hHeld.2.2.2.2.2.1))).trans (hHeld.2.2.2.2.2.1)
   have HS6_ := (hb.cell (World.block_lt_of_cell? _ _ (hHeld.2.2.2.2.2.2.1))).trans (hHeld.2.2.2.2.2.2.1)
   have HS7_ := (hb.cell (World.block_lt_of_cell? _ _ (hHeld.2.2.2.2.2.2.2))).trans (hHeld.2.2.2.2.2.2.2)
   refine ⟨_, rfl, ?_⟩
   replace HO204 := asd (Kd.R_below (kr HO204) hb)
   replace BK199 := bB BK199 hb
   replace BK200 := bB BK200 hb
   replace BK201 := bB BK201 hb
   replace HB := bS3 HB GE199 GE200 GE201 hb
   (try clear hb)
   (try clear hb2)
   (try clear hk)
   (try clear hi)
   refine hK.out _ _ ⟨bcl BK199 0, bcl BK199 1, bcl BK199 2, bcl BK199 3, HS4_, HS5_, HS6_, HS7_⟩ (fun hHeld => ?_)
   clear hK K
   refine norm_ (a' := ?_) ?_ ?_
   rotate_left
   ·show Act.put _ (some 17) _ = _
    simp only [Act.put, sA, sB, sC, i64_w, i32_w]
    rfl
   refine ro 10 (some 18) (bt 13 11) HT_ (fun K hK => ?_)
   refine Kd.R_lit_step k53 _ 53 ?hg (N := 18) ?hd (xs := ([(⟨t206, t207⟩ : S53), (⟨t209, t210⟩ : S53)] : List (S53))) (inner := [.int .i64 t206, .int .i64 t207, .int .i64 t209, .int .i64 t210]) (ok := fun _ => True) (okp := fun _ => True) ?hr ?hp (fun _ hk => hk) trivial (Below.refl _ _) (Nat.le_refl _) (by simp) ?_; (case hd => rfl); (case hg => rfl); (case hr => first | (go_simp; done) | (go_simp; rfl)); (case hp => exact (Reps.c2 (show Kd.M k53 _ _ _ (⟨t206, t207⟩ : S53) [.int .i64 t206, .int .i64 t207] from (k53_mkM _ _ _ (⟨t206, t207⟩ : S53) )) (Reps.c2 (show Kd.M k53 _ _ _ (⟨t209, t210⟩ : S53) [.int .i64 t209, .int .i64 t210] from (k53_mkM _ _ _ (⟨t209, t210⟩ : S53) )) (Reps.none _ _))))
   intro v212 w20 ho21 hb hg_ hnew_
   have HS4_ := (hb.cell (World.block_lt_of_cell? _ _ (hHeld.2.2.2.2.1))).trans (hHeld.2.2.2.2.1)
   have HS5_ := (hb.cell (World.block_lt_of_cell? _ _ (hHeld.2.2.2.2.2.1))).trans (hHeld.2.2.2.2.2.1)
   have HS6_ := (hb.cell (World.block_lt_of_cell? _ _ (hHeld.2.2.2.2.2.2.1))).trans (hHeld.2.2.2.2.2.2.1)
   have HS7_ := (hb.cell (World.block_lt_of_cell? _ _ (hHeld.2.2.2.2.2.2.2))).trans (hHeld.2.2.2.2.2.2.2)
   clear hg_ hnew_
   (first | rw [← Ny211.out] at ho21 | (simp only [Int.reduceToNat] at ho21; rw [← Ny211.out] at ho21))
   have HO213 := asd (Kd.R_lower (Kd.R_new' ho21 (Kd.R_lt (kr HO204))) (bsz3 HB GE199 GE200 GE201))
   replace HO204 := asd (Kd.R_elder' (kr HO204) (Kd.R_base ho21) hb)
   replace BK199 := bB BK199 hb
   replace BK200 := bB BK200 hb
   replace BK201 := bB BK201 hb
   replace HB := bS3 HB GE199 GE200 GE201 hb
   clear hb ho21
   obtain ⟨Ao22, co22, eo22⟩ := Kd.R_slice HO213.out
   (first | subst eo22 | (injection eo22 with f1_ f2_ f3_; have f4_ := f1_.symm; have f5_ := f3_.symm; clear f1_ f2_ f3_; subst f4_; subst f5_))
   refine hK.out _ _ ⟨bcl BK199 0, bcl BK199 1, bcl BK199 2, bcl BK199 3, HS4_, HS5_, HS6_, HS7_⟩ (fun hHeld => ?_)
   clear hK K
   refine norm_ (a' := ?_) ?_ ?_
   rotate_left
   ·show Act.put _ (some 18) _ = _
    simp only [Act.put, sA, sB, sC, i64_w, i32_w]
    rfl
   refine ro 11 (some 19) (bt 13 12) HT_ (fun K hK => ?_)
   refine gs Try.func104 #[.slice Ao22 y211.length co22] ?_
   with_reducible refine (spec_l03Hermite.calls _ _ _ _ _ _ _ _ ?side1 ?side2 A8.out).mono ?_
   (case side1 => exact ks (Kd.R_reads' HO213.out).2.2)
   (case side2 => exact (Kd.R_reads' HO213.out).2.1)
   rintro e w23 ⟨rfl, hb⟩
   have HS4_ := (hb.cell (World.block_lt_of_cell? _ _ (hHeld.2.2.2.2.1))).trans (hHeld.2.2.2.2.1)
   have HS5_ := (hb.cell (World.block_lt_of_cell? _ _ (hHeld.2.2.2.2.2.1))).trans (hHeld.2.2.2.2.2.1)
   have HS6_ := (hb.cell (World.block_lt_of_cell? _ _ (hHeld.2.2.2.2.2.2.1))).trans (hHeld.2.2.2.2.2.2.1)
   have HS7_ := (hb.cell (World.block_lt_of_cell? _ _ (hHeld.2.2.2.2.2.2.2))).trans (hHeld.2.2.2.2.2.2.2)
   refine ⟨_, rfl, ?_⟩
   replace HO204 := asd (Kd.R_below (kr HO204) hb)
   replace HO213 := asd (Kd.R_below (kr HO213) hb)
   replace BK199 := bB BK199 hb
   replace BK200 := bB BK200 hb
   replace BK201 := bB BK201 hb
   replace HB := bS3 HB GE199 GE200 GE201 hb
   (try clear hb)
   (try clear hb2)
   (try clear hk)
   (try clear hi)
   refine hK.out _ _ ⟨bcl BK199 0, bcl BK199 1, bcl BK199 2, bcl BK199 3, HS4_, HS5_, HS6_, HS7_⟩ (fun hHeld => ?_)
   clear hK K
   refine norm_ (a' := ?_) ?_ ?_
   rotate_left
   ·show Act.put _ (some 19) _ = _
    simp only [Act.put, sA, sB, sC, i64_w, i32_w]
    rfl
   refine ro 12 (none) (bt 13 13) HT_ (fun K hK => ?_)
   have hs24 : w23.cell? ⟨gb201, 0, none⟩ = some (.int .i64 0) := bcl BK201 0
   have hfs24 := blk_frozen BK201.out 0
   have hns24_0 := NB199_201.out
   have hns24_1 := NB200_201.out
   have hms24_0 := NB201_199.out
   have hms24_1 := NB201_200.out
   have hs25 : w23.cell? ⟨gb201, 1, none⟩ = some (.int .i64 0) := bcl BK201 1
   have hfs25 := blk_frozen BK201.out 1
   have hns25_0 := NB199_201.out
   have hns25_1 := NB200_201.out
   have hms25_0 := NB201_199.out
   have hms25_1 := NB201_200.out
   have hs26 : w23.cell? ⟨gb201, 2, none⟩ = some (.int .i64 0) := bcl BK201 2
   have hfs26 := blk_frozen BK201.out 2
   have hns26_0 := NB199_201.out
   have hns26_1 := NB200_201.out
   have hms26_0 := NB201_199.out
   have hms26_1 := NB201_200.out
   refine skip_ (w1 := ?_) (by rfl) rfl ?_ ?_
   rotate_left
   ·go_simp
    rfl
   refine hK.out _ _ ⟨(cf NB199_201 ((cf NB199_201 ((cf NB199_201 (hHeld.1)))))), (cf NB199_201 ((cf NB199_201 ((cf NB199_201 (hHeld.2.1)))))), (cf NB199_201 ((cf NB199_201 ((cf NB199_201 (hHeld.2.2.1)))))), (cf NB199_201 ((cf NB199_201 ((cf NB199_201 (hHeld.2.2.2.1)))))), ((cell_far (p := ⟨gb201, _, none⟩) (by first | exact Kd.own_blk (Kd.R_ne HO204.out BK201.out (by decide)) | (rw [add_block]; exact Kd.own_blk (Kd.R_ne HO204.out BK201.out (by decide))) | (show (Addr.add _ _).block ≠ _; rw [add_block]; exact Kd.own_blk (Kd.R_ne HO204.out BK201.out (by decide))) | (dsimp only; exact Kd.own_blk (Kd.R_ne HO204.out BK201.out (by decide)))) _).trans (((cell_far (p := ⟨gb201, _, none⟩) (by first | exact Kd.own_blk (Kd.R_ne HO204.out BK201.out (by decide)) | (rw [add_block]; exact Kd.own_blk (Kd.R_ne HO204.out BK201.out (by decide))) | (show (Addr.add _ _).block ≠ _; rw [add_block]; exact Kd.own_blk (Kd.R_ne HO204.out BK201.out (by decide))) | (dsimp only; exact Kd.own_blk (Kd.R_ne HO204.out BK201.out (by decide)))) _).trans (((cell_far (p := ⟨gb201, _, none⟩) (by first | exact Kd.own_blk (Kd.R_ne HO204.out BK201.out (by decide)) | (rw [add_block]; exact Kd.own_blk (Kd.R_ne HO204.out BK201.out (by decide))) | (show (Addr.add _ _).block ≠ _; rw [add_block]; exact Kd.own_blk (Kd.R_ne HO204.out BK201.out (by decide))) | (dsimp only; exact Kd.own_blk (Kd.R_ne HO204.out BK201.out (by decide)))) _).trans (hHeld.2.2.2.2.1)))))), ((cell_far (p := ⟨gb201, _, none⟩) (by first | exact Kd.own_blk (Kd.R_ne HO204.out BK201.out (by decide)) | (rw [add_block]; exact Kd.own_blk (Kd.R_ne HO204.out BK201.out (by decide))) | (show (Addr.add _ _).block ≠ _; rw [add_block]; exact Kd.own_blk (Kd.R_ne HO204.out BK201.out (by decide))) | (dsimp only; exact Kd.own_blk (Kd.R_ne HO204.out BK201.out (by decide)))) _).trans (((cell_far (p := ⟨gb201, _, none⟩) (by first | exact Kd.own_blk (Kd.R_ne HO204.out BK201.out (by decide)) | (rw [add_block]; exact Kd.own_blk (Kd.R_ne HO204.out BK201.out (by decide))) | (show (Addr.add _ _).block ≠ _; rw [add_block]; exact Kd.own_blk (Kd.R_ne HO204.out BK201.out (by decide))) | (dsimp only; exact Kd.own_blk (Kd.R_ne HO204.out BK201.out (by decide)))) _).trans (((cell_far (p := ⟨gb201, _, none⟩) (by first | exact Kd.own_blk (Kd.R_ne HO204.out BK201.out (by decide)) | (rw [add_block]; exact Kd.own_blk (Kd.R_ne HO204.out BK201.out (by decide))) | (show (Addr.add _ _).block ≠ _; rw [add_block]; exact Kd.own_blk (Kd.R_ne HO204.out BK201.out (by decide))) | (dsimp only; exact Kd.own_blk (Kd.R_ne HO204.out BK201.out (by decide)))) _).trans (hHeld.2.2.2.2.2.1)))))), ((cell_far (p := ⟨gb201, _, none⟩) (by first | exact Kd.own_blk (Kd.R_ne HO204.out BK201.out (by decide)) | (rw [add_block]; exact Kd.own_blk (Kd.R_ne HO204.out BK201.out (by decide))) | (show (Addr.add _ _).block ≠ _; rw [add_block]; exact Kd.own_blk (Kd.R_ne HO204.out BK201.out (by decide))) | (dsimp only; exact Kd.own_blk (Kd.R_ne HO204.out BK201.out (by decide)))) _).trans (((cell_far (p := ⟨gb201, _, none⟩) (by first | exact Kd.own_blk (Kd.R_ne HO204.out BK201.out (by decide)) | (rw [add_block]; exact Kd.own_blk (Kd.R_ne HO204.out BK201.out (by decide))) | (show (Addr.add _ _).block ≠ _; rw [add_block]; exact Kd.own_blk (Kd.R_ne HO204.out BK201.out (by decide))) | (dsimp only; exact Kd.own_blk (Kd.R_ne HO204.out BK201.out (by decide)))) _).trans (((cell_far (p := ⟨gb201, _, none⟩) (by first | exact Kd.own_blk (Kd.R_ne HO204.out BK201.out (by decide)) | (rw [add_block]; exact Kd.own_blk (Kd.R_ne HO204.out BK201.out (by decide))) | (show (Addr.add _ _).block ≠ _; rw [add_block]; exact Kd.own_blk (Kd.R_ne HO204.out BK201.out (by decide))) | (dsimp only; exact Kd.own_blk (Kd.R_ne HO204.out BK201.out (by decide)))) _).trans (hHeld.2.2.2.2.2.2.1)))))), ((cell_far (p := ⟨gb201, _, none⟩) (by first | exact Kd.own_blk (Kd.R_ne HO204.out BK201.out (by decide)) | (rw [add_block]; exact Kd.own_blk (Kd.R_ne HO204.out BK201.out (by decide))) | (show (Addr.add _ _).block ≠ _; rw [add_block]; exact Kd.own_blk (Kd.R_ne HO204.out BK201.out (by decide))) | (dsimp only; exact Kd.own_blk (Kd.R_ne HO204.out BK201.out (by decide)))) _).trans (((cell_far (p := ⟨gb201, _, none⟩) (by first | exact Kd.own_blk (Kd.R_ne HO204.out BK201.out (by decide)) | (rw [add_block]; exact Kd.own_blk (Kd.R_ne HO204.out BK201.out (by decide))) | (show (Addr.add _ _).block ≠ _; rw [add_block]; exact Kd.own_blk (Kd.R_ne HO204.out BK201.out (by decide))) | (dsimp only; exact Kd.own_blk (Kd.R_ne HO204.out BK201.out (by decide)))) _).trans (((cell_far (p := ⟨gb201, _, none⟩) (by first | exact Kd.own_blk (Kd.R_ne HO204.out BK201.out (by decide)) | (rw [add_block]; exact Kd.own_blk (Kd.R_ne HO204.out BK201.out (by decide))) | (show (Addr.add _ _).block ≠ _; rw [add_block]; exact Kd.own_blk (Kd.R_ne HO204.out BK201.out (by decide))) | (dsimp only; exact Kd.own_blk (Kd.R_ne HO204.out BK201.out (by decide)))) _).trans (hHeld.2.2.2.2.2.2.2))))))⟩ (fun hHeld => ?_)
   clear hK K
   refine done_ (done_of HT_.out (by kernel_rfl)) ?_
   try go_wp2
   refine bodyPost_ret (results_cell_row rfl _ _ gb201 27 #[.int .i64 t214, .int .i64 t215, .int .i64 t216] (0, 0) _ rfl (bq0 BK201) Try.underlying27 rfl (by kernel_rfl)) rfl ?_
   exact er (bbw3 HB GE199 GE200 GE201)
  ·rw [if_neg c6] at H
   exact absurd H (by simp)
 ·rw [if_neg c4] at H
  exact absurd H (by simp)

attribute [local go_sem high] eqA27
/-! ### spec_IsSuitable: function 57 -/
def spec_IsSuitable.f (k : Nat) (a0 : Int) (a1_0 : Int) (a1_1 : Int) (a1_2 : Int) (a2_0 : Int) (a2_1 : Int) (a2_2 : Int) (a2_3 : Int) (a2_4 : Int) (a2_5 : Int) : Option (Bool) := (spec_l04Code.f a0 a1_0 a1_1 a1_2).bind fun t219 => (if t219 = 0 then ((spec_IsPointMat.f a0 a2_0 a2_1 a2_2 a2_3).bind fun t220 => (if t220 = true then ((spec_l04Image.f k a2_0 a2_1 a2_2 a2_3 a1_0 a1_1 a1_2).bind fun bt221 => (if (bt221.1 == a1_0 && (bt221.2.1 == a1_1 && (bt221.2.2 == a1_2))) = true then ((spec_IsVec.f a2_4 a2_5).bind fun t224 => (some t224)) else (some false))) else (some false))) else (some false))
def spec_IsSuitable.T1 : Bool × List (List Nat × List Nat) := (true, [([], []), ([], []), ([0, 1], [0, 1]), ([2], [2]), ([3, 2], [3]), ([4], [4]), ([4], [4]), ([6, 4], [4, 6]), ([5, 7, 4, 4], [4, 5, 7]), ([4, 8], [4, 8]), ([9, 8], [9]), ([10], [10]), ([11, 10], [10, 11]), ([10], [10]), ([12, 13, 10, 10], [10, 12, 13]), ([10], [10]), ([14, 15, 10], [10, 14, 15]), ([10, 16], [10, 16]), ([17, 14], [17]), ([18], [18]), ([19, 18], [18, 19]), ([20, 18, 18], [18, 20]), ([18, 21], [18, 21]), ([22, 21, 0, 1, 2, 3, 4, 5, 6, 7, 8, 9, 10, 11, 12, 13, 14, 15, 16, 17, 18, 19, 20, 21, 22], [22])])
def spec_IsSuitable.B1 : List Nat := [0, 0, 3, 7, 15, 31, 31, 95, 255, 511, 1023, 2047, 4095, 2047, 16383, 2047, 65535, 131071, 262143, 524287, 1048575, 2097151, 4194303, 8388607]
theorem spec_IsSuitable.tab1 : rtab .any (opsOf Try.f57 1) = spec_IsSuitable.T1 := by kernel_rfl
theorem spec_IsSuitable.bits1 : waitsOk spec_IsSuitable.T1.2 spec_IsSuitable.B1 = true := by kernel_rfl
set_option maxHeartbeats 8000000 in
set_option maxRecDepth 100000 in
theorem spec_IsSuitable.calls (k : Nat) (a0 : Int) (a1_0 : Int) (a1_1 : Int) (a1_2 : Int) (a2_0 : Int) (a2_1 : Int) (a2_2 : Int) (a2_3 : Int) (a2_4 : Int) (a2_5 : Int) (r : Bool) (w : World) (h : spec_IsSuitable.f k a0 a1_0 a1_1 a1_2 a2_0 a2_1 a2_2 a2_3 a2_4 a2_5 = some r) :
  Calls Try.prog 57 #[.int .i64 a0, .agg #[.int .i64 a1_0, .int .i64 a1_1, .int .i64 a1_2], .agg #[.int .i64 a2_0, .int .i64 a2_1, .int .i64 a2_2, .int .i64 a2_3, .int .i64 a2_4, .int .i64 a2_5]] w fun e w' => e = .returned (.bool r) ∧ Below w.heap.size w w' := by
 have hu27 := Try.underlying27
 have hu55 := Try.underlying55
 have hu51 := Try.underlying51
 have hu53 := Try.underlying53
 have HB := asd (Below.refl w.heap.size w)
 have H : ((spec_l04Code.f a0 a1_0 a1_1 a1_2).bind fun t219 => (if t219 = 0 then ((spec_IsPointMat.f a0 a2_0 a2_1 a2_2 a2_3).bind fun t220 => (if t220 = true then ((spec_l04Image.f k a2_0 a2_1 a2_2 a2_3 a1_0 a1_1 a1_2).bind fun bt221 => (if (bt221.1 == a1_0 && (bt221.2.1 == a1_1 && (bt221.2.2 == a1_2))) = true then ((spec_IsVec.f a2_4 a2_5).bind fun t224 => (some t224)) else (some false))) else (some false))) else (some false))) = some r := h
 clear h
 obtain ⟨t219, A4, H⟩ := ob H
 try dsimp only at H
 by_cases c5 : t219 = 0
 rw [if_pos c5] at H
 have c5b0 : (t219 == 0) = true := beq_iff_eq.mpr c5
 have c5b1 : (t219 != 0) = false := bne_eq_false_iff_eq.mpr c5
 clear c5
 obtain ⟨t220, A6, H⟩ := ob H
 try dsimp only at H
 by_cases c7 : t220 = true
 subst c7
 replace H := ifT H
 obtain ⟨⟨t221, t222, t223⟩, A8, H⟩ := ob H
 try dsimp only at H
 by_cases c9 : (t221 == a1_0 && (t222 == a1_1 && (t223 == a1_2))) = true
 rw [if_pos c9] at H
 have c9b0 := c9
 (try (have c9b1 : decide (t221 = a1_0 && (t222 == a1_1 && (t223 == a1_2))) = true := by simpa using c9))
 (try (have c9b2 : (t221 == a1_0 && (t222 == a1_1 && (t223 == a1_2))) = true := by simpa using c9))
 clear c9
 obtain ⟨t224, A10, H⟩ := ob H
 try dsimp only at H
 obtain rfl := Option.some.inj H
 rotate_left
 rw [if_neg c9] at H
 have c9b0 : (t221 == a1_0 && (t222 == a1_1 && (t223 == a1_2))) = false := by simpa using c9
 (try (have c9b1 : decide (t221 = a1_0 && (t222 == a1_1 && (t223 == a1_2))) = false := by simpa using c9))
 (try (have c9b2 : (t221 == a1_0 && (t222 == a1_1 && (t223 == a1_2))) = false := by simpa using c9))
 (try (have c9b3 : ¬ (t221 = a1_0 && (t222 == a1_1 && (t223 == a1_2))) := by simpa using c9))
 clear c9
 obtain rfl := Option.some.inj H
 rotate_left
 replace c7 := Bool.eq_false_iff.mpr c7
 subst c7
 replace H := ifF H
 obtain rfl := Option.some.inj H
 rotate_left
 rw [if_neg c5] at H
 have c5b0 : (t219 == 0) = false := beq_eq_false_iff_ne.mpr c5
 have c5b1 : (t219 != 0) = true := bne_iff_ne.mpr c5
 obtain rfl := Option.some.inj H
 rotate_left
 all_goals
  go_enter Try.func57, Try.ntmps57
  try go_wp2_with (first | ((with_reducible refine gd 4 rfl ?_); refine bx #[.int .i64 a1_0, .int .i64 a1_1, .int .i64 a1_2] 27 ?_; intro gb217 hg w11 BK217 hb; have GE217 := ngw0 hg HB; replace HB := bS0 HB hb; clear hb hg) | ((with_reducible refine gd 5 rfl ?_); refine bx #[.int .i64 a2_0, .int .i64 a2_1, .int .i64 a2_2, .int .i64 a2_3, .int .i64 a2_4, .int .i64 a2_5] 55 ?_; intro gb218 hg w12 BK218 hb; have GE218 := ngw1 hg HB GE217; replace HB := bS1 HB GE217 hb; have NB217_218 := nlt hg BK217; have NB218_217 := nsy (nlt hg BK217); replace BK217 := bB BK217 hb; clear hb hg))
  replace BK217 := asd (blk_drew BK217.out)
  replace BK218 := asd (blk_drew BK218.out)
  replace HB := asd (below_drew1 HB.out)
 refine sh 24 (cb3 BK217 (eb6 BK218)) (fun hHeld => ?_); refine with_tabW spec_IsSuitable.tab1 spec_IsSuitable.bits1 (fun HT_ HW_ => ?_)
 rotate_left
 refine sh 24 (cb3 BK217 (eb6 BK218)) (fun hHeld => ?_); refine with_tabW spec_IsSuitable.tab1 spec_IsSuitable.bits1 (fun HT_ HW_ => ?_)
 rotate_left
 refine sh 24 (cb3 BK217 (eb6 BK218)) (fun hHeld => ?_); refine with_tabW spec_IsSuitable.tab1 spec_IsSuitable.bits1 (fun HT_ HW_ => ?_)
 rotate_left
 refine sh 24 (eb3 BK217) (fun hHeld => ?_); refine with_tabW spec_IsSuitable.tab1 spec_IsSuitable.bits1 (fun HT_ HW_ => ?_)
 rotate_left
 all_goals
  generalize w12.drew = w13 at BK217 BK218 HB hHeld ⊢
  refine pu 0 (some 7) (bt 24 1) HT_ ?_
  refine ta 1 (some 8) (bt 24 2) HT_ HW_ hHeld ?_
  refine ro 2 (some 9) (bt 24 3) HT_ (fun K hK => ?_)
  refine gs Try.func56 #[.int .i64 a0, .agg #[.int .i64 a1_0, .int .i64 a1_1, .int .i64 a1_2]] ?_
  with_reducible refine (spec_l04Code.calls _ _ _ _ _ _ A4.out).mono ?_
  rintro e w14 ⟨rfl, hb⟩
  refine ⟨_, rfl, ?_⟩
  replace BK217 := bB BK217 hb
  replace BK218 := bB BK218 hb
  replace HB := bS2 HB GE217 GE218 hb
  (try clear hb)
  (try clear hb2)
  (try clear hk)
  (try clear hi)
 rotate_left 3
 ·refine hK.out _ _ (eb3 BK217).out (fun hHeld => ?_)
  clear hK K
  refine norm_ (a' := ?_) ?_ ?_
  rotate_left
  ·show Act.put _ (some 9) _ = _
   simp only [Act.put, sA, sB, sC, i64_w, i32_w]
   rfl
  refine pu 3 (some 10) (bt 24 4) HT_ ?_
  refine pu 4 (some 11) (bt 24 5) HT_ ?_
  refine pf 5 (some 12) (bt 24 6) HT_ ?_
  refine pf 6 (some 13) (bt 24 7) HT_ ?_
  refine pf 7 (some 14) (bt 24 8) HT_ ?_
  refine pf 8 (some 15) (bt 24 9) HT_ ?_
  refine pu 9 (some 16) (bt 24 10) HT_ ?_
  refine pu 10 (some 17) (bt 24 11) HT_ ?_
  refine pf 11 (some 18) (bt 24 12) HT_ ?_
  refine pf 12 (some 19) (bt 24 13) HT_ ?_
  refine pf 13 (some 20) (bt 24 14) HT_ ?_
  refine pf 14 (some 21) (bt 24 15) HT_ ?_
  refine pf 15 (some 22) (bt 24 16) HT_ ?_
  refine pf 16 (some 23) (bt 24 17) HT_ ?_
  refine pu 17 (some 24) (bt 24 18) HT_ ?_
  refine pu 18 (some 25) (bt 24 19) HT_ ?_
  refine pf 19 (some 26) (bt 24 20) HT_ ?_
  refine pf 20 (some 27) (bt 24 21) HT_ ?_
  refine pf 21 (some 28) (bt 24 22) HT_ ?_
  refine pu 22 (some 29) (bt 24 23) HT_ ?_
  refine pu 23 (some 6) (bt 24 24) HT_ ?_
  refine done_ (done_of HT_.out (by kernel_rfl)) ?_
  try go_wp2
  go_ret
  exact er (bbw2 HB GE217 GE218)
 all_goals
  refine hK.out _ _ (cb3 BK217 (eb6 BK218)).out (fun hHeld => ?_)
  clear hK K
  refine norm_ (a' := ?_) ?_ ?_
  rotate_left
  ·show Act.put _ (some 9) _ = _
   simp only [Act.put, sA, sB, sC, i64_w, i32_w]
   rfl
  refine pu 3 (some 10) (bt 24 4) HT_ ?_
  refine pu 4 (some 11) (bt 24 5) HT_ ?_
  refine pu 5 (some 12) (bt 24 6) HT_ ?_
  refine pu 6 (some 13) (bt 24 7) HT_ ?_
  refine ta 7 (some 14) (bt 24 8) HT_ HW_ hHeld ?_
  refine ro 8 (some 15) (bt 24 9) HT_ (fun K hK => ?_)
  refine gs Try.func87 #[.int .i64 a0, .agg #[.int .i64 a2_0, .int .i64 a2_1, .int .i64 a2_2, .int .i64 a2_3]] ?_
  with_reducible refine (spec_IsPointMat.calls _ _ _ _ _ _ _ A6.out).mono ?_
  rintro e w15 ⟨rfl, hb⟩
  refine ⟨_, rfl, ?_⟩
  replace BK217 := bB BK217 hb
  replace BK218 := bB BK218 hb
  replace HB := bS2 HB GE217 GE218 hb
  (try clear hb)
  (try clear hb2)
  (try clear hk)
  (try clear hi)
  refine hK.out _ _ (cb3 BK217 (eb6 BK218)).out (fun hHeld => ?_)
  clear hK K
  refine norm_ (a' := ?_) ?_ ?_
  rotate_left
  ·show Act.put _ (some 15) _ = _
   simp only [Act.put, sA, sB, sC, i64_w, i32_w]
   rfl
  refine pu 9 (some 16) (bt 24 10) HT_ ?_
  refine pu 10 (some 17) (bt 24 11) HT_ ?_
 rotate_left 2
 ·refine pf 11 (some 18) (bt 24 12) HT_ ?_
  refine pf 12 (some 19) (bt 24 13) HT_ ?_
  refine pf 13 (some 20) (bt 24 14) HT_ ?_
  refine pf 14 (some 21) (bt 24 15) HT_ ?_
  refine pf 15 (some 22) (bt 24 16) HT_ ?_
  refine pf 16 (some 23) (bt 24 17) HT_ ?_
  refine pu 17 (some 24) (bt 24 18) HT_ ?_
  refine pu 18 (some 25) (bt 24 19) HT_ ?_
  refine pf 19 (some 26) (bt 24 20) HT_ ?_
  refine pf 20 (some 27) (bt 24 21) HT_ ?_
  refine pf 21 (some 28) (bt 24 22) HT_ ?_
  refine pu 22 (some 29) (bt 24 23) HT_ ?_
  refine pu 23 (some 6) (bt 24 24) HT_ ?_
  refine done_ (done_of HT_.out (by kernel_rfl)) ?_
  try go_wp2
  go_ret
  exact er (bbw2 HB GE217 GE218)
 all_goals
  refine pu 11 (some 18) (bt 24 12) HT_ ?_
  refine ta 12 (some 19) (bt 24 13) HT_ HW_ hHeld ?_
  refine ta 13 (some 20) (bt 24 14) HT_ HW_ hHeld ?_
  refine ta 15 (some 22) (bs 24 49151) HT_ HW_ hHeld ?_
  refine ro 14 (some 21) (bt 24 16) HT_ (fun K hK => ?_)
  refine gs Try.func88 #[.agg #[.int .i64 a2_0, .int .i64 a2_1, .int .i64 a2_2, .int .i64 a2_3], .agg #[.int .i64 a1_0, .int .i64 a1_1, .int .i64 a1_2]] ?_
  with_reducible refine (spec_l04Image.calls _ _ _ _ _ _ _ _ _ _ _ _ A8.out).mono ?_
  rintro e w16 ⟨rfl, hb⟩
  refine ⟨_, rfl, ?_⟩
  replace BK217 := bB BK217 hb
  replace BK218 := bB BK218 hb
  replace HB := bS2 HB GE217 GE218 hb
  (try clear hb)
  (try clear hb2)
  (try clear hk)
  (try clear hi)
  refine hK.out _ _ (cb3 BK217 (eb6 BK218)).out (fun hHeld => ?_)
  clear hK K
  refine norm_ (a' := ?_) ?_ ?_
  rotate_left
  ·show Act.put _ (some 21) _ = _
   simp only [Act.put, sA, sB, sC, i64_w, i32_w]
   rfl
  refine pu 16 (some 23) (bt 24 17) HT_ ?_
  refine pu 17 (some 24) (bt 24 18) HT_ ?_
  refine pu 18 (some 25) (bt 24 19) HT_ ?_
 focus
  refine pu 19 (some 26) (bt 24 20) HT_ ?_
  refine ta 20 (some 27) (bt 24 21) HT_ HW_ hHeld ?_
  refine ro 21 (some 28) (bt 24 22) HT_ (fun K hK => ?_)
  refine gs Try.func89 #[.agg #[.int .i64 a2_4, .int .i64 a2_5]] ?_
  with_reducible refine (spec_IsVec.calls _ _ _ _ A10.out).mono ?_
  rintro e w17 ⟨rfl, hb⟩
  refine ⟨_, rfl, ?_⟩
  replace BK217 := bB BK217 hb
  replace BK218 := bB BK218 hb
  replace HB := bS2 HB GE217 GE218 hb
  (try clear hb)
  (try clear hb2)
  (try clear hk)
  (try clear hi)
  refine hK.out _ _ (cb3 BK217 (eb6 BK218)).out (fun hHeld => ?_)
  clear hK K
  refine norm_ (a' := ?_) ?_ ?_
  rotate_left
  ·show Act.put _ (some 28) _ = _
   simp only [Act.put, sA, sB, sC, i64_w, i32_w]
   rfl
  refine pu 22 (some 29) (bt 24 23) HT_ ?_
 rotate_left
 refine pf 19 (some 26) (bt 24 20) HT_ ?_
 refine pf 20 (some 27) (bt 24 21) HT_ ?_
 refine pf 21 (some 28) (bt 24 22) HT_ ?_
 refine pu 22 (some 29) (bt 24 23) HT_ ?_
 rotate_left
 all_goals
  refine pu 23 (some 6) (bt 24 24) HT_ ?_
  refine done_ (done_of HT_.out (by kernel_rfl)) ?_
  try go_wp2
  go_ret
  exact er (bbw2 HB GE217 GE218)
/-! ### spec_l03Reduce: function 90 -/
def spec_l03Reduce.f (a0_0 : Int) (a0_1 : Int) (a0_2 : Int) (a1_0 : Int) (a1_1 : Int) : Option (Int × Int) := (spec_l01Mod.f a1_1 a0_2).bind fun t228 => (if a0_2 = 0 then (none) else ((spec_l01Mod.f (wrap64 (a1_0 - (wrap64 ((wrap64 (Int.tdiv (wrap64 (a1_1 - t228)) a0_2)) * a0_1)))) a0_0).bind fun t229 => (some (t229, t228))))
set_option maxHeartbeats 8000000 in
set_option maxRecDepth 100000 in
theorem spec_l03Reduce.calls (a0_0 : Int) (a0_1 : Int) (a0_2 : Int) (a1_0 : Int) (a1_1 : Int) (r1 : Int) (r2 : Int) (w : World) (h : spec_l03Reduce.f a0_0 a0_1 a0_2 a1_0 a1_1 = some (r1, r2)) :
  Calls Try.prog 90 #[.agg #[.int .i64 a0_0, .int .i64 a0_1, .int .i64 a0_2], .agg #[.int .i64 a1_0, .int .i64 a1_1]] w fun e w' => e = .returned (.agg #[.int .i64 r1, .int .i64 r2]) ∧ Below w.heap.size w w' := by
 have hu27 := Try.underlying27
 have hu53 := Try.underlying53
 have HB := asd (Below.refl w.heap.size w)
 have H : ((spec_l01Mod.f a1_1 a0_2).bind fun t228 => (if a0_2 = 0 then (none) else ((spec_l01Mod.f (wrap64 (a1_0 - (wrap64 ((wrap64 (Int.tdiv (wrap64 (a1_1 - t228)) a0_2)) * a0_1)))) a0_0).bind fun t229 => (some (t229, t228))))) = some (r1, r2) := h
 clear h
 obtain ⟨t228, A3, H⟩ := ob H
 try dsimp only at H
 by_cases c4 : a0_2 = 0
 ·rw [if_pos c4] at H
  exact absurd H (by simp)
 ·rw [if_neg c4] at H
  have c4b0 : (a0_2 == 0) = false := beq_eq_false_iff_ne.mpr c4
  have c4b1 : (a0_2 != 0) = true := bne_iff_ne.mpr c4
  obtain ⟨t229, A5, H⟩ := ob H
  try dsimp only at H
  simp only [Option.some.injEq, Prod.mk.injEq] at H
  obtain ⟨rfl, rfl⟩ := H
  go_enter Try.func90, Try.ntmps90
  go_wp2_with (first | ((with_reducible refine gd 2 rfl ?_); refine bx #[.int .i64 a0_0, .int .i64 a0_1, .int .i64 a0_2] 27 ?_; intro gb225 hg w6 BK225 hb; have GE225 := ngw0 hg HB; replace HB := bS0 HB hb; clear hb hg) | ((with_reducible refine gd 3 rfl ?_); refine bx #[.int .i64 a1_0, .int .i64 a1_1] 53 ?_; intro gb226 hg w7 BK226 hb; have GE226 := ngw1 hg HB GE225; replace HB := bS1 HB GE225 hb; have NB225_226 := nlt hg BK225; have NB226_225 := nsy (nlt hg BK225); replace BK225 := bB BK225 hb; clear hb hg) | ((with_reducible refine gd 4 rfl ?_); refine bx #[.int .i64 0, .int .i64 0] 53 ?_; intro gb227 hg w8 BK227 hb; have GE227 := ngw2 hg HB GE225 GE226; replace HB := bS2 HB GE225 GE226 hb; have NB225_227 := nlt hg BK225; have NB227_225 := nsy (nlt hg BK225); replace BK225 := bB BK225 hb; have NB226_227 := nlt hg BK226; have NB227_226 := nsy (nlt hg BK226); replace BK226 := bB BK226 hb; clear hb hg; have hnb9 := NB226_225.out; have hnc9 := NB225_226.out; have hnb10 := NB226_227.out; have hnc10 := NB227_226.out; obtain ⟨hcz11_0, hcz11_1, hfz11_0, hfz11_1⟩ := bz2 BK226; have hnb12 := NB225_227.out; have hnc12 := NB227_225.out; obtain ⟨hcz13_0, hcz13_1, hcz13_2, hfz13_0, hfz13_1, hfz13_2⟩ := bz3 BK225) | ((with_reducible refine gate_callee (f := 105) rfl ?_); refine gl 11 Try.func105 #[.int .i64 a1_1, .int .i64 a0_2] ?_; (with_reducible refine (spec_l01Mod.calls _ _ _ _ A3.out).mono ?_); rintro e w' ⟨rfl, ⟨nd, rfl⟩⟩; refine ⟨_, rfl, ?_⟩; (try (rw [drewN_self w8]; generalize hq_ : World.drewN w8 _ = w8; have n0_ : Aside0 (w8.heap[gb225]? = some (.cells #[.int .i64 a0_0, .int .i64 a0_1, .int .i64 a0_2] 27 (0, 0))) := ⟨by rw [← hq_]; exact (bkp BK225)⟩; have n1_ : Aside0 (w8.heap[gb226]? = some (.cells #[.int .i64 a1_0, .int .i64 a1_1] 53 (0, 0))) := ⟨by rw [← hq_]; exact (bkp BK226)⟩; have n2_ : Aside0 (w8.heap[gb227]? = some (.cells #[.int .i64 0, .int .i64 0] 53 (0, 0))) := ⟨by rw [← hq_]; exact (bkp BK227)⟩; have n3_ : Aside0 (Below w.heap.size w w8) := ⟨by rw [← hq_]; exact (bbw3 HB GE225 GE226 GE227)⟩; clear BK225 BK226 BK227 HB hq_; have BK225 := n0_; have BK226 := n1_; have BK227 := n2_; have HB := n3_; clear n0_ n1_ n2_ n3_)); have hcz14_0 : w8.cell? ⟨gb226, 0, none⟩ = some (.int .i64 a1_0) := bcl BK226 0; have hcz14_1 : w8.cell? ⟨gb226, 1, none⟩ = some (.int .i64 a1_1) := bcl BK226 1; have hfz14_0 := blk_frozen BK226.out 0; have hfz14_1 := blk_frozen BK226.out 1; have hcz15_0 : w8.cell? ⟨gb225, 0, none⟩ = some (.int .i64 a0_0) := bcl BK225 0; have hcz15_1 : w8.cell? ⟨gb225, 1, none⟩ = some (.int .i64 a0_1) := bcl BK225 1; have hcz15_2 : w8.cell? ⟨gb225, 2, none⟩ = some (.int .i64 a0_2) := bcl BK225 2; have hfz15_0 := blk_frozen BK225.out 0; have hfz15_1 := blk_frozen BK225.out 1; have hfz15_2 := blk_frozen BK225.out 2) | ((with_reducible refine gate_callee (f := 105) rfl ?_); refine gl 28 Try.func105 #[.int .i64 (wrap64 (a1_0 - (wrap64 ((wrap64 (Int.tdiv (wrap64 (a1_1 - t228)) a0_2)) * a0_1)))), .int .i64 a0_0] ?_; (with_reducible refine (spec_l01Mod.calls _ _ _ _ A5.out).mono ?_); rintro e w' ⟨rfl, ⟨nd, rfl⟩⟩; refine ⟨_, rfl, ?_⟩; (try (rw [drewN_self w8]; generalize hq_ : World.drewN w8 _ = w8; have n0_ : Aside0 (w8.heap[gb225]? = some (.cells #[.int .i64 a0_0, .int .i64 a0_1, .int .i64 a0_2] 27 (0, 0))) := ⟨by rw [← hq_]; exact (bkp BK225)⟩; have n1_ : Aside0 (w8.heap[gb226]? = some (.cells #[.int .i64 a1_0, .int .i64 a1_1] 53 (0, 0))) := ⟨by rw [← hq_]; exact (bkp BK226)⟩; have n2_ : Aside0 (w8.heap[gb227]? = some (.cells #[.int .i64 0, .int .i64 0] 53 (0, 0))) := ⟨by rw [← hq_]; exact (bkp BK227)⟩; have n3_ : Aside0 (Below w.heap.size w w8) := ⟨by rw [← hq_]; exact (bbw3 HB GE225 GE226 GE227)⟩; clear BK225 BK226 BK227 HB hq_; have BK225 := n0_; have BK226 := n1_; have BK227 := n2_; have HB := n3_; clear n0_ n1_ n2_ n3_)); have hcz16_0 : w8.cell? ⟨gb227, 0, none⟩ = some (.int .i64 0) := bcl BK227 0; have hcz16_1 : w8.cell? ⟨gb227, 1, none⟩ = some (.int .i64 0) := bcl BK227 1; have hfz16_0 := blk_frozen BK227.out 0; have hfz16_1 := blk_frozen BK227.out 1))
  refine bodyPost_ret (results_cell_row rfl _ _ gb227 53 #[.int .i64 t229, .int .i64 t228] (0, 0) _ rfl (bq0 BK227) Try.underlying53 rfl (by kernel_rfl)) rfl ?_
  exact er (bbw3 HB GE225 GE226 GE227)
/-! ### spec_l06Reduce: function 58 -/
def spec_l06Reduce.f (a0_0 : Int) (a0_1 : Int) (a0_2 : Int) (a1_0 : Int) (a1_1 : Int) (a1_2 : Int) (a1_3 : Int) (a1_4 : Int) (a1_5 : Int) : Option (Int × Int × Int × Int × Int × Int) := (spec_l03Reduce.f a0_0 a0_1 a0_2 a1_4 a1_5).bind fun bt233 => (some (a1_0, a1_1, a1_2, a1_3, bt233.1, bt233.2))
def spec_l06Reduce.T1 : Bool × List (List Nat × List Nat) := (true, [([], []), ([0], [0]), ([], []), ([], []), ([3], [3]), ([2, 4], [2, 4]), ([1, 5], [1, 5]), ([6, 5, 0, 1, 2, 3, 4, 5, 6], [6])])
def spec_l06Reduce.B1 : List Nat := [0, 1, 0, 0, 8, 28, 63, 127]
theorem spec_l06Reduce.tab1 : rtab .any (opsOf Try.f58 1) = spec_l06Reduce.T1 := by kernel_rfl
theorem spec_l06Reduce.bits1 : waitsOk spec_l06Reduce.T1.2 spec_l06Reduce.B1 = true := by kernel_rfl
set_option maxHeartbeats 8000000 in
set_option maxRecDepth 100000 in
theorem spec_l06Reduce.calls (a0_0 : Int) (a0_1 : Int) (a0_2 : Int) (a1_0 : Int) (a1_1 : Int) (a1_2 : Int) (a1_3 : Int) (a1_4 : Int) (a1_5 : Int) (r1 : Int) (r2 : Int) (r3 : Int) (r4 : Int) (r5 : Int) (r6 : Int) (w : World) (h : spec_l06Reduce.f a0_0 a0_1 a0_2 a1_0 a1_1 a1_2 a1_3 a1_4 a1_5 = some (r1, r2, r3, r4, r5, r6)) :
  Calls Try.prog 58 #[.agg #[.int .i64 a0_0, .int .i64 a0_1, .int .i64 a0_2], .agg #[.int .i64 a1_0, .int .i64 a1_1, .int .i64 a1_2, .int .i64 a1_3, .int .i64 a1_4, .int .i64 a1_5]] w fun e w' => e = .returned (.agg #[.int .i64 r1, .int .i64 r2, .int .i64 r3, .int .i64 r4, .int .i64 r5, .int .i64 r6]) ∧ Below w.heap.size w w' := by
 have hu27 := Try.underlying27
 have hu55 := Try.underlying55
 have hu51 := Try.underlying51
 have hu53 := Try.underlying53
 have HB := asd (Below.refl w.heap.size w)
 have H : ((spec_l03Reduce.f a0_0 a0_1 a0_2 a1_4 a1_5).bind fun bt233 => (some (a1_0, a1_1, a1_2, a1_3, bt233.1, bt233.2))) = some (r1, r2, r3, r4, r5, r6) := h
 clear h
 obtain ⟨⟨t233, t234⟩, A3, H⟩ := ob H
 try dsimp only at H
 simp only [Option.some.injEq, Prod.mk.injEq] at H
 obtain ⟨rfl, rfl, rfl, rfl, rfl, rfl⟩ := H
 go_enter Try.func58, Try.ntmps58
 try go_wp2_with (first | ((with_reducible refine gd 2 rfl ?_); refine bx #[.int .i64 a0_0, .int .i64 a0_1, .int .i64 a0_2] 27 ?_; intro gb230 hg w4 BK230 hb; have GE230 := ngw0 hg HB; replace HB := bS0 HB hb; clear hb hg) | ((with_reducible refine gd 3 rfl ?_); refine bx #[.int .i64 a1_0, .int .i64 a1_1, .int .i64 a1_2, .int .i64 a1_3, .int .i64 a1_4, .int .i64 a1_5] 55 ?_; intro gb231 hg w5 BK231 hb; have GE231 := ngw1 hg HB GE230; replace HB := bS1 HB GE230 hb; have NB230_231 := nlt hg BK230; have NB231_230 := nsy (nlt hg BK230); replace BK230 := bB BK230 hb; clear hb hg) | ((with_reducible refine gd 4 rfl ?_); refine bx #[.int .i64 0, .int .i64 0, .int .i64 0, .int .i64 0, .int .i64 0, .int .i64 0] 55 ?_; intro gb232 hg w6 BK232 hb; have GE232 := ngw2 hg HB GE230 GE231; replace HB := bS2 HB GE230 GE231 hb; have NB230_232 := nlt hg BK230; have NB232_230 := nsy (nlt hg BK230); replace BK230 := bB BK230 hb; have NB231_232 := nlt hg BK231; have NB232_231 := nsy (nlt hg BK231); replace BK231 := bB BK231 hb; clear hb hg))
 replace BK230 := asd (blk_drew BK230.out)
 replace BK231 := asd (blk_drew BK231.out)
 replace BK232 := asd (blk_drew BK232.out)
 replace HB := asd (below_drew1 HB.out)
 refine sh 8 (cb6 BK231 (eb3 BK230)) (fun hHeld => ?_); refine with_tabW spec_l06Reduce.tab1 spec_l06Reduce.bits1 (fun HT_ HW_ => ?_)
 generalize w6.drew = w7 at BK230 BK231 BK232 HB hHeld ⊢
 refine pu 0 (some 5) (bt 8 1) HT_ ?_
 refine pu 3 (some 8) (bs 8 9) HT_ ?_
 refine ta 1 (some 6) (bs 8 11) HT_ HW_ hHeld ?_
 refine ta 2 (some 7) (bt 8 4) HT_ HW_ hHeld ?_
 refine ta 4 (some 9) (bt 8 5) HT_ HW_ hHeld ?_
 refine ro 5 (some 10) (bt 8 6) HT_ (fun K hK => ?_)
 refine gs Try.func90 #[.agg #[.int .i64 a0_0, .int .i64 a0_1, .int .i64 a0_2], .agg #[.int .i64 a1_4, .int .i64 a1_5]] ?_
 with_reducible refine (spec_l03Reduce.calls _ _ _ _ _ _ _ _ A3.out).mono ?_
 rintro e w8 ⟨rfl, hb⟩
 refine ⟨_, rfl, ?_⟩
 replace BK230 := bB BK230 hb
 replace BK231 := bB BK231 hb
 replace BK232 := bB BK232 hb
 replace HB := bS3 HB GE230 GE231 GE232 hb
 (try clear hb)
 (try clear hb2)
 (try clear hk)
 (try clear hi)
 refine hK.out _ _ (cb6 BK231 (eb3 BK230)).out (fun hHeld => ?_)
 clear hK K
 refine norm_ (a' := ?_) ?_ ?_
 rotate_left
 ·show Act.put _ (some 10) _ = _
  simp only [Act.put, sA, sB, sC, i64_w, i32_w]
  rfl
 refine pu 6 (some 11) (bt 8 7) HT_ ?_
 refine ro 7 (none) (bt 8 8) HT_ (fun K hK => ?_)
 have hs9 : w8.cell? ⟨gb232, 0, none⟩ = some (.int .i64 0) := bcl BK232 0
 have hfs9 := blk_frozen BK232.out 0
 have hns9_0 := NB230_232.out
 have hns9_1 := NB231_232.out
 have hms9_0 := NB232_230.out
 have hms9_1 := NB232_231.out
 have hs10 : w8.cell? ⟨gb232, 1, none⟩ = some (.int .i64 0) := bcl BK232 1
 have hfs10 := blk_frozen BK232.out 1
 have hns10_0 := NB230_232.out
 have hns10_1 := NB231_232.out
 have hms10_0 := NB232_230.out
 have hms10_1 := NB232_231.out
 have hs11 : w8.cell? ⟨gb232, 2, none⟩ = some (.int .i64 0) := bcl BK232 2
 have hfs11 := blk_frozen BK232.out 2
 have hns11_0 := NB230_232.out
 have hns11_1 := NB231_232.out
 have hms11_0 := NB232_230.out
 have hms11_1 := NB232_231.out
 have hs12 : w8.cell? ⟨gb232, 3, none⟩ = some (.int .i64 0) := bcl BK232 3
 have hfs12 := blk_frozen BK232.out 3
 have hns12_0 := NB230_232.out
 have hns12_1 := NB231_232.out
 have hms12_0 := NB232_230.out
 have hms12_1 := NB232_231.out
 have hs13 : w8.cell? ⟨gb232, 4, none⟩ = some (.int .i64 0) := bcl BK232 4
 have hfs13 := blk_frozen BK232.out 4
 have hns13_0 := NB230_232.out
 have hns13_1 := NB231_232.out
 have hms13_0 := NB232_230.out
 have hms13_1 := NB232_231.out
 have hs14 : w8.cell? ⟨gb232, 5, none⟩ = some (.int .i64 0) := bcl BK232 5
 have hfs14 := blk_frozen BK232.out 5
 have hns14_0 := NB230_232.out
 have hns14_1 := NB231_232.out
 have hms14_0 := NB232_230.out
 have hms14_1 := NB232_231.out
 refine skip_ (w1 := ?_) (by rfl) rfl ?_ ?_
 rotate_left
 ·go_simp
  rfl
 refine hK.out _ _ ⟨(cf NB231_232 ((cf NB231_232 ((cf NB231_232 ((cf NB231_232 ((cf NB231_232 ((cf NB231_232 (hHeld.1)))))))))))), (cf NB231_232 ((cf NB231_232 ((cf NB231_232 ((cf NB231_232 ((cf NB231_232 ((cf NB231_232 (hHeld.2.1)))))))))))), (cf NB231_232 ((cf NB231_232 ((cf NB231_232 ((cf NB231_232 ((cf NB231_232 ((cf NB231_232 (hHeld.2.2.1)))))))))))), (cf NB231_232 ((cf NB231_232 ((cf NB231_232 ((cf NB231_232 ((cf NB231_232 ((cf NB231_232 (hHeld.2.2.2.1)))))))))))), (cf NB231_232 ((cf NB231_232 ((cf NB231_232 ((cf NB231_232 ((cf NB231_232 ((cf NB231_232 (hHeld.2.2.2.2.1)))))))))))), (cf NB231_232 ((cf NB231_232 ((cf NB231_232 ((cf NB231_232 ((cf NB231_232 ((cf NB231_232 (hHeld.2.2.2.2.2.1)))))))))))), (cf NB230_232 ((cf NB230_232 ((cf NB230_232 ((cf NB230_232 ((cf NB230_232 ((cf NB230_232 (hHeld.2.2.2.2.2.2.1)))))))))))), (cf NB230_232 ((cf NB230_232 ((cf NB230_232 ((cf NB230_232 ((cf NB230_232 ((cf NB230_232 (hHeld.2.2.2.2.2.2.2.1)))))))))))), (cf NB230_232 ((cf NB230_232 ((cf NB230_232 ((cf NB230_232 ((cf NB230_232 ((cf NB230_232 (hHeld.2.2.2.2.2.2.2.2))))))))))))⟩ (fun hHeld => ?_)
 clear hK K
 refine done_ (done_of HT_.out (by kernel_rfl)) ?_
 try go_wp2
 refine bodyPost_ret (results_cell_row rfl _ _ gb232 55 #[.int .i64 a1_0, .int .i64 a1_1, .int .i64 a1_2, .int .i64 a1_3, .int .i64 t233, .int .i64 t234] (0, 0) _ rfl (bq0 BK232) Try.underlying55 rfl (by kernel_rfl)) rfl ?_
 exact er (bbw3 HB GE230 GE231 GE232)
/-! ### spec_l02Unit: function 67 -/
def spec_l02Unit.f  : Option (Int × Int × Int × Int) := some (1, 0, 0, 1)
set_option maxHeartbeats 8000000 in
set_option maxRecDepth 100000 in
theorem spec_l02Unit.calls  (r1 : Int) (r2 : Int) (r3 : Int) (r4 : Int) (w : World) (h : spec_l02Unit.f  = some (r1, r2, r3, r4)) :
  Calls Try.prog 67 #[] w fun e w' => e = .returned (.agg #[.int .i64 r1, .int .i64 r2, .int .i64 r3, .int .i64 r4]) ∧ Below w.heap.size w w' := by
 have hu51 := Try.underlying51
 have HB := asd (Below.refl w.heap.size w)
 have H : (some (1, 0, 0, 1)) = some (r1, r2, r3, r4) := h
 clear h
 simp only [Option.some.injEq, Prod.mk.injEq] at H
 obtain ⟨rfl, rfl, rfl, rfl⟩ := H
 go_enter Try.func67, Try.ntmps67
 go_wp2_with (first | ((with_reducible refine gd 0 rfl ?_); refine bx #[.int .i64 0, .int .i64 0, .int .i64 0, .int .i64 0] 51 ?_; intro gb235 hg w1 BK235 hb; have GE235 := ngw0 hg HB; replace HB := bS0 HB hb; clear hb hg; obtain ⟨hcz2_0, hcz2_1, hcz2_2, hcz2_3, hfz2_0, hfz2_1, hfz2_2, hfz2_3⟩ := bz4 BK235))
 refine bodyPost_ret (results_cell_row rfl _ _ gb235 51 #[.int .i64 1, .int .i64 0, .int .i64 0, .int .i64 1] (0, 0) _ rfl (bq0 BK235) Try.underlying51 rfl (by kernel_rfl)) rfl ?_
 exact er (bbw1 HB GE235)
/-! ### spec_l06Unit: function 60 -/
def spec_l06Unit.f  : Option (Int × Int × Int × Int × Int × Int) := (spec_l02Unit.f).bind fun bt237 => (some (bt237.1, bt237.2.1, bt237.2.2.1, bt237.2.2.2, 0, 0))
set_option maxHeartbeats 8000000 in
set_option maxRecDepth 100000 in
theorem spec_l06Unit.calls  (r1 : Int) (r2 : Int) (r3 : Int) (r4 : Int) (r5 : Int) (r6 : Int) (w : World) (h : spec_l06Unit.f  = some (r1, r2, r3, r4, r5, r6)) :
  Calls Try.prog 60 #[] w fun e w' => e = .returned (.agg #[.int .i64 r1, .int .i64 r2, .int .i64 r3, .int .i64 r4, .int .i64 r5, .int .i64 r6]) ∧ Below w.heap.size w w' := by
 have hu55 := Try.underlying55
 have HB := asd (Below.refl w.heap.size w)
 have H : ((spec_l02Unit.f).bind fun bt237 => (some (bt237.1, bt237.2.1, bt237.2.2.1, bt237.2.2.2, 0, 0))) = some (r1, r2, r3, r4, r5, r6) := h
 clear h
 obtain ⟨⟨t237, t238, t239, t240⟩, A1, H⟩ := ob H
 try dsimp only at H
 simp only [Option.some.injEq, Prod.mk.injEq] at H
 obtain ⟨rfl, rfl, rfl, rfl, rfl, rfl⟩ := H
 go_enter Try.func60, Try.ntmps60
 go_wp2_with (first | ((with_reducible refine gd 0 rfl ?_); refine bx #[.int .i64 0, .int .i64 0, .int .i64 0, .int .i64 0, .int .i64 0, .int .i64 0] 55 ?_; intro gb236 hg w2 BK236 hb; have GE236 := ngw0 hg HB; replace HB := bS0 HB hb; clear hb hg) | ((with_reducible refine gate_callee (f := 67) rfl ?_); refine gl 1 Try.func67 #[] ?_; (with_reducible refine (spec_l02Unit.calls _ _ _ _ _ A1.out).mono ?_); rintro e w3 ⟨rfl, hb⟩; refine ⟨_, rfl, ?_⟩; replace BK236 := bB BK236 hb; replace HB := bS1 HB GE236 hb; (try clear hb); obtain ⟨hcz4_0, hcz4_1, hcz4_2, hcz4_3, hcz4_4, hcz4_5, hfz4_0, hfz4_1, hfz4_2, hfz4_3, hfz4_4, hfz4_5⟩ := bz6 BK236))
 refine bodyPost_ret (results_cell_row rfl _ _ gb236 55 #[.int .i64 t237, .int .i64 t238, .int .i64 t239, .int .i64 t240, .int .i64 0, .int .i64 0] (0, 0) _ rfl (bq0 BK236) Try.underlying55 rfl (by kernel_rfl)) rfl ?_
 exact er (bbw1 HB GE236)

end Go.Proofs.Ytcchmdodifkloaa.PA
