/- Walks written by program: each Go function that the law reaches comes to the plain function beside it. -/
import Derived.Test.YtilbokbfcmeleaaPAx0
import Derived.Test.YtilbokbfcmeleaaPAx1
import Derived.Test.YtilbokbfcmeleaaPAx5
import Derived.Test.YtilbokbfcmeleaaPAx6
namespace Go.Proofs.Ytilbokbfcmeleaa.PA
open Go.RowKit Go.Proofs.YtilbokbfcmeleaaW.PrintWords Go.Proofs.YtilbokbfcmeleaaW.PrintLast Go.Proofs.YtilbokbfcmeleaaW.PrintMore
attribute [local go_sem] max2_int min2_int max_two min_two max_three min_three max_four min_four   -- for this text's walks alone
set_option linter.unusedVariables false
set_option linter.unusedSimpArgs false

/-! ### spec_l04Image: function 72 -/
def spec_l04Image.f (k : Nat) (a0_0 : Int) (a0_1 : Int) (a0_2 : Int) (a0_3 : Int) (a1_0 : Int) (a1_1 : Int) (a1_2 : Int) : Option (Int × Int × Int) := (spec_l03Basis.f a1_0 a1_1 a1_2).bind fun t190 => (if 0 < (t190.length : Int) then ((spec_l02Apply.f a0_0 a0_1 a0_2 a0_3 ((rd_T46 t190 0).f0) ((rd_T46 t190 0).f1)).bind fun bt194 => (if 1 < (t190.length : Int) then ((spec_l02Apply.f a0_0 a0_1 a0_2 a0_3 ((rd_T46 t190 1).f0) ((rd_T46 t190 1).f1)).bind fun bt197 => ((spec_l03Hermite.f k (([(⟨bt194.1, bt194.2⟩ : S46), (⟨bt197.1, bt197.2⟩ : S46)] : List (S46)))).bind fun bt202 => (some (bt202.1, bt202.2.1, bt202.2.2)))) else (none))) else (none))
def spec_l04Image.T2 : Bool × List (List Nat × List Nat) := (true, [([], []), ([], []), ([1], [1]), ([2], [2]), ([0, 3], [0, 3]), ([], []), ([], []), ([6], [6]), ([7], [7]), ([5, 8, 4], [5, 8]), ([4, 9], [4, 9]), ([10, 9], [10]), ([11, 11, 0, 1, 2, 3, 4, 5, 6, 7, 8, 9, 10, 11], [11])])
def spec_l04Image.B2 : List Nat := [0, 0, 2, 6, 15, 0, 0, 64, 192, 511, 1023, 2047, 4095]
theorem spec_l04Image.tab2 : rtab .any (opsOf Try.f72 2) = spec_l04Image.T2 := by kernel_rfl
theorem spec_l04Image.bits2 : waitsOk spec_l04Image.T2.2 spec_l04Image.B2 = true := by kernel_rfl
set_option maxHeartbeats 8000000 in
set_option maxRecDepth 100000 in
theorem spec_l04Image.calls (k : Nat) (a0_0 : Int) (a0_1 : Int) (a0_2 : Int) (a0_3 : Int) (a1_0 : Int) (a1_1 : Int) (a1_2 : Int) (r1 : Int) (r2 : Int) (r3 : Int) (w : World) (h : spec_l04Image.f k a0_0 a0_1 a0_2 a0_3 a1_0 a1_1 a1_2 = some (r1, r2, r3)) :
  Calls Try.prog 72 #[.agg #[.int .i64 a0_0, .int .i64 a0_1, .int .i64 a0_2, .int .i64 a0_3], .agg #[.int .i64 a1_0, .int .i64 a1_1, .int .i64 a1_2]] w fun e w' => e = .returned (.agg #[.int .i64 r1, .int .i64 r2, .int .i64 r3]) ∧ Below w.heap.size w w' := by
 have hu44 := Try.underlying44
 have hu29 := Try.underlying29
 have hu46 := Try.underlying46
 have HB := asd (Below.refl w.heap.size w)
 have H : ((spec_l03Basis.f a1_0 a1_1 a1_2).bind fun t190 => (if 0 < (t190.length : Int) then ((spec_l02Apply.f a0_0 a0_1 a0_2 a0_3 ((rd_T46 t190 0).f0) ((rd_T46 t190 0).f1)).bind fun bt194 => (if 1 < (t190.length : Int) then ((spec_l02Apply.f a0_0 a0_1 a0_2 a0_3 ((rd_T46 t190 1).f0) ((rd_T46 t190 1).f1)).bind fun bt197 => ((spec_l03Hermite.f k (([(⟨bt194.1, bt194.2⟩ : S46), (⟨bt197.1, bt197.2⟩ : S46)] : List (S46)))).bind fun bt202 => (some (bt202.1, bt202.2.1, bt202.2.2)))) else (none))) else (none))) = some (r1, r2, r3) := h
 clear h
 obtain ⟨t190, A3, H⟩ := ob H
 try dsimp only at H
 by_cases c4 : 0 < (t190.length : Int)
 ·rw [if_pos c4] at H
  have c4b0 := decide_eq_true c4
  have c4b1 : decide (0 < t190.length) = true := decide_eq_true (by omega)
  clear c4
  obtain ⟨⟨t194, t195⟩, A5, H⟩ := ob H
  try dsimp only at H
  by_cases c6 : 1 < (t190.length : Int)
  ·rw [if_pos c6] at H
   have c6b0 := decide_eq_true c6
   have c6b1 : decide (1 < t190.length) = true := decide_eq_true (by omega)
   clear c6
   obtain ⟨⟨t197, t198⟩, A7, H⟩ := ob H
   try dsimp only at H
   obtain ⟨y199, hy199⟩ : ∃ y_ : List (S46), y_ = (([(⟨t194, t195⟩ : S46), (⟨t197, t198⟩ : S46)] : List (S46))) := ⟨_, rfl⟩
   replace H : ((spec_l03Hermite.f k y199).bind fun bt202 => (some (bt202.1, bt202.2.1, bt202.2.2))) = some (r1, r2, r3) := by first | (rw [hy199]; with_reducible exact H) | (have H2_ := (Option.bind_some _ _).symm.trans H; rw [hy199]; with_reducible exact H2_) | (have H2_ := (Option.bind_some _ _).symm.trans H; with_reducible exact H2_) | with_reducible exact H | (rw [hy199]; exact H) | exact H
   have Ny199 := Aside0.mk hy199
   clear hy199
   obtain ⟨⟨t202, t203, t204⟩, A8, H⟩ := ob H
   try dsimp only at H
   simp only [Option.some.injEq, Prod.mk.injEq] at H
   obtain ⟨rfl, rfl, rfl⟩ := H
   go_enter Try.func72, Try.ntmps72
   try go_wp2_with (first | ((with_reducible refine gd 2 rfl ?_); refine bx #[.int .i64 a0_0, .int .i64 a0_1, .int .i64 a0_2, .int .i64 a0_3] 44 ?_; intro gb187 hg w9 BK187 hb; have GE187 := ngw0 hg HB; replace HB := bS0 HB hb; clear hb hg) | ((with_reducible refine gd 3 rfl ?_); refine bx #[.int .i64 a1_0, .int .i64 a1_1, .int .i64 a1_2] 29 ?_; intro gb188 hg w10 BK188 hb; have GE188 := ngw1 hg HB GE187; replace HB := bS1 HB GE187 hb; have NB187_188 := nlt hg BK187; have NB188_187 := nsy (nlt hg BK187); replace BK187 := bB BK187 hb; clear hb hg) | ((with_reducible refine gd 4 rfl ?_); refine bx #[.int .i64 0, .int .i64 0, .int .i64 0] 29 ?_; intro gb189 hg w11 BK189 hb; have GE189 := ngw2 hg HB GE187 GE188; replace HB := bS2 HB GE187 GE188 hb; have NB187_189 := nlt hg BK187; have NB189_187 := nsy (nlt hg BK187); replace BK187 := bB BK187 hb; have NB188_189 := nlt hg BK188; have NB189_188 := nsy (nlt hg BK188); replace BK188 := bB BK188 hb; clear hb hg; have hnb12 := NB188_187.out; have hnc12 := NB187_188.out; have hnb13 := NB188_189.out; have hnc13 := NB189_188.out; obtain ⟨hcz14_0, hcz14_1, hcz14_2, hfz14_0, hfz14_1, hfz14_2⟩ := bz3 BK188) | ((with_reducible refine gate_callee (f := 59) rfl ?_); refine gl 7 Try.func59 #[.agg #[.int .i64 a1_0, .int .i64 a1_1, .int .i64 a1_2]] ?_; (with_reducible refine (spec_l03Basis.calls _ _ _ _ _ A3.out).mono ?_); rintro e w15 ⟨v191, rfl, ho0, hb⟩; refine ⟨_, rfl, ?_⟩; have HO192 := asd (Kd.R_lower ho0 (bsz3 HB GE187 GE188 GE189)); replace BK187 := bB BK187 hb; replace BK188 := bB BK188 hb; replace BK189 := bB BK189 hb; replace HB := bS3 HB GE187 GE188 GE189 hb; (try clear hb); (try clear hb2); (try clear hk); (try clear hi); (try clear ho0)))
   replace HO192 := asd (Kd.R_drew HO192.out)
   replace BK187 := asd (blk_drew BK187.out)
   replace BK188 := asd (blk_drew BK188.out)
   replace BK189 := asd (blk_drew BK189.out)
   replace HB := asd (below_drew1 HB.out)
   obtain ⟨Ao17, co17, eo17⟩ := Kd.R_slice HO192.out
   (first | subst eo17 | (injection eo17 with f1_ f2_ f3_; have f4_ := f1_.symm; have f5_ := f3_.symm; clear f1_ f2_ f3_; subst f4_; subst f5_))
   have p193 : 0 ≤ (0 : Int) := (by omega)
   have q193 : 0 < (t190.length : Int) := od
   obtain ⟨ad193, e193, hx193_0, hx193_1⟩ := at_T46 (Kd.R_reads' HO192.out).2.2 0 p193 q193
   cases e193
   have qi193 : (0 < t190.length) = True := eq_true (by omega)
   (try rw [show ((0 : Int)).toNat = 0 from rfl] at hx193_0)
   (try rw [show 0 * 2 = 0 from rfl] at hx193_0)
   (try rw [Addr.add_zero'] at hx193_0)
   (try rw [show ((0 : Int)).toNat = 0 from rfl] at hx193_1)
   (try rw [show 0 * 2 = 0 from rfl] at hx193_1)
   (try rw [Addr.add_zero'] at hx193_1)
   replace p193 := eq_true p193
   replace q193 := eq_true q193
   have p196 : 0 ≤ (1 : Int) := (by omega)
   have q196 : 1 < (t190.length : Int) := od
   obtain ⟨ad196, e196, hx196_0, hx196_1⟩ := at_T46 (Kd.R_reads' HO192.out).2.2 1 p196 q196
   obtain rfl : ad193 = ad196 := (by injection e196)
   (try simp only [show (1 : Int).toNat = 1 from rfl, Nat.reduceMul, Nat.reduceEqDiff, Go.Addr.add, ↓reduceIte] at hx196_0)
   (try simp only [show (1 : Int).toNat = 1 from rfl, Nat.reduceMul, Nat.reduceEqDiff, Go.Addr.add, ↓reduceIte] at hx196_1)
   have qi196 : (1 < t190.length) = True := eq_true (by omega)
   (try rw [show ((1 : Int)).toNat = 1 from rfl] at hx196_0)
   (try rw [show 1 * 2 = 2 from rfl] at hx196_0)
   (try rw [show ((1 : Int)).toNat = 1 from rfl] at hx196_1)
   (try rw [show 1 * 2 = 2 from rfl] at hx196_1)
   replace p196 := eq_true p196
   replace q196 := eq_true q196
   refine sh 13 (cb4 BK187 (c1 hx193_0 (c1 hx193_1 (c1 hx196_0 (e1 hx196_1))))) (fun hHeld => ?_); refine with_tabW spec_l04Image.tab2 spec_l04Image.bits2 (fun HT_ HW_ => ?_)
   generalize w15.drew = w16 at HO192 BK187 BK188 BK189 HB hx193_0 hx193_1 hx196_0 hx196_1 hHeld ⊢
   refine pu 1 (some 9) (bs 13 2) HT_ ?_
   refine pu 2 (some 10) (bs 13 6) HT_ ?_
   refine pu 6 (some 14) (bs 13 70) HT_ ?_
   refine pu 7 (some 15) (bs 13 198) HT_ ?_
   refine ta 0 (some 8) (bs 13 199) HT_ HW_ hHeld ?_
   refine ta 3 (some 11) (bs 13 207) HT_ HW_ hHeld ?_
   refine ta 5 (some 13) (bs 13 239) HT_ HW_ hHeld ?_
   refine ta 8 (some 16) (bs 13 495) HT_ HW_ hHeld ?_
   refine ro 4 (some 12) (bt 13 9) HT_ (fun K hK => ?_)
   refine gs Try.func79 #[.agg #[.int .i64 a0_0, .int .i64 a0_1, .int .i64 a0_2, .int .i64 a0_3], .agg #[.int .i64 ((rd_T46 t190 0).f0), .int .i64 ((rd_T46 t190 0).f1)]] ?_
   with_reducible refine (spec_l02Apply.calls _ _ _ _ _ _ _ _ _ A5.out).mono ?_
   rintro e w18 ⟨rfl, hb⟩
   have HS4_ := (hb.cell (World.block_lt_of_cell? _ _ (hHeld.2.2.2.2.1))).trans (hHeld.2.2.2.2.1)
   have HS5_ := (hb.cell (World.block_lt_of_cell? _ _ (hHeld.2.2.2.2.2.1))).trans (hHeld.2.2.2.2.2.1)
   have HS6_ := (hb.cell (World.block_lt_of_cell? _ _ (hHeld.2.2.2.2.2.2.1))).trans (hHeld.2.2.2.2.2.2.1)
   have HS7_ := (hb.cell (World.block_lt_of_cell? _ _ (hHeld.2.2.2.2.2.2.2))).trans (hHeld.2.2.2.2.2.2.2)
   refine ⟨_, rfl, ?_⟩
   replace HO192 := asd (Kd.R_below (kr HO192) hb)
   replace BK187 := bB BK187 hb
   replace BK188 := bB BK188 hb
   replace BK189 := bB BK189 hb
   replace HB := bS3 HB GE187 GE188 GE189 hb
   (try clear hb)
   (try clear hb2)
   (try clear hk)
   (try clear hi)
   refine hK.out _ _ ⟨bcl BK187 0, bcl BK187 1, bcl BK187 2, bcl BK187 3, HS4_, HS5_, HS6_, HS7_⟩ (fun hHeld => ?_)
   clear hK K
   refine norm_ (a' := ?_) ?_ ?_
   rotate_left
   ·show Act.put _ (some 12) _ = _
    simp only [Act.put, sA, sB, sC, i64_w, i32_w]
    rfl
   refine ro 9 (some 17) (bt 13 10) HT_ (fun K hK => ?_)
   refine gs Try.func79 #[.agg #[.int .i64 a0_0, .int .i64 a0_1, .int .i64 a0_2, .int .i64 a0_3], .agg #[.int .i64 ((rd_T46 t190 1).f0), .int .i64 ((rd_T46 t190 1).f1)]] ?_
   with_reducible refine (spec_l02Apply.calls _ _ _ _ _ _ _ _ _ A7.out).mono ?_
   rintro e w19 ⟨rfl, hb⟩
   have HS4_ := (hb.cell (World.block_lt_of_cell? _ _ (hHeld.2.2.2.2.1))).trans (hHeld.2.2.2.2.1)
   have HS5_ := (hb.cell (World.block_lt_of_cell? _ _ (hHeld.2.2.2.2.2.1))).trans (hHeld.2.2.2.2.2.1)
   have HS6_ := (hb.cell (World.block_lt_of_cell? _ _ (hHeld.2.2.2.2.2.2.1))).trans (hHeld.2.2.2.2.2.2.1)
   have HS7_ := (hb.cell (World.block_lt_of_cell? _ _ (hHeld.2.2.2.2.2.2.2))).trans (hHeld.2.2.2.2.2.2.2)
   refine ⟨_, rfl, ?_⟩
   replace HO192 := asd (Kd.R_below (kr HO192) hb)
   replace BK187 := bB BK187 hb
   replace BK188 := bB BK188 hb
   replace BK189 := bB BK189 hb
   replace HB := bS3 HB GE187 GE188 GE189 hb
   (try clear hb)
   (try clear hb2)
   (try clear hk)
   (try clear hi)
   refine hK.out _ _ ⟨bcl BK187 0, bcl BK187 1, bcl BK187 2, bcl BK187 3, HS4_, HS5_, HS6_, HS7_⟩ (fun hHeld => ?_)
   clear hK K
   refine norm_ (a' := ?_) ?_ ?_
   rotate_left
   ·show Act.put _ (some 17) _ = _
    simp only [Act.put, sA, sB, sC, i64_w, i32_w]
    rfl
   refine ro 10 (some 18) (bt 13 11) HT_ (fun K hK => ?_)
   refine Kd.R_lit_step k46 _ 46 ?hg (N := 18) ?hd (xs := ([(⟨t194, t195⟩ : S46), (⟨t197, t198⟩ : S46)] : List (S46))) (inner := [.int .i64 t194, .int .i64 t195, .int .i64 t197, .int .i64 t198]) (ok := fun _ => True) (okp := fun _ => True) ?hr ?hp (fun _ hk => hk) trivial (Below.refl _ _) (Nat.le_refl _) (by simp) ?_; (case hd => rfl); (case hg => rfl); (case hr => first | (go_simp; done) | (go_simp; rfl)); (case hp => exact (Reps.c2 (show Kd.M k46 _ _ _ (⟨t194, t195⟩ : S46) [.int .i64 t194, .int .i64 t195] from (k46_mkM _ _ _ (⟨t194, t195⟩ : S46) )) (Reps.c2 (show Kd.M k46 _ _ _ (⟨t197, t198⟩ : S46) [.int .i64 t197, .int .i64 t198] from (k46_mkM _ _ _ (⟨t197, t198⟩ : S46) )) (Reps.none _ _))))
   intro v200 w20 ho21 hb hg_ hnew_
   have HS4_ := (hb.cell (World.block_lt_of_cell? _ _ (hHeld.2.2.2.2.1))).trans (hHeld.2.2.2.2.1)
   have HS5_ := (hb.cell (World.block_lt_of_cell? _ _ (hHeld.2.2.2.2.2.1))).trans (hHeld.2.2.2.2.2.1)
   have HS6_ := (hb.cell (World.block_lt_of_cell? _ _ (hHeld.2.2.2.2.2.2.1))).trans (hHeld.2.2.2.2.2.2.1)
   have HS7_ := (hb.cell (World.block_lt_of_cell? _ _ (hHeld.2.2.2.2.2.2.2))).trans (hHeld.2.2.2.2.2.2.2)
   clear hg_ hnew_
   (first | rw [← Ny199.out] at ho21 | (simp only [Int.reduceToNat] at ho21; rw [← Ny199.out] at ho21))
   have HO201 := asd (Kd.R_lower (Kd.R_new' ho21 (Kd.R_lt (kr HO192))) (bsz3 HB GE187 GE188 GE189))
   replace HO192 := asd (Kd.R_elder' (kr HO192) (Kd.R_base ho21) hb)
   replace BK187 := bB BK187 hb
   replace BK188 := bB BK188 hb
   replace BK189 := bB BK189 hb
   replace HB := bS3 HB GE187 GE188 GE189 hb
   clear hb ho21
   obtain ⟨Ao22, co22, eo22⟩ := Kd.R_slice HO201.out
   (first | subst eo22 | (injection eo22 with f1_ f2_ f3_; have f4_ := f1_.symm; have f5_ := f3_.symm; clear f1_ f2_ f3_; subst f4_; subst f5_))
   refine hK.out _ _ ⟨bcl BK187 0, bcl BK187 1, bcl BK187 2, bcl BK187 3, HS4_, HS5_, HS6_, HS7_⟩ (fun hHeld => ?_)
   clear hK K
   refine norm_ (a' := ?_) ?_ ?_
   rotate_left
   ·show Act.put _ (some 18) _ = _
    simp only [Act.put, sA, sB, sC, i64_w, i32_w]
    rfl
   refine ro 11 (some 19) (bt 13 12) HT_ (fun K hK => ?_)
   refine gs Try.func94 #[.slice Ao22 y199.length co22] ?_
   with_reducible refine (spec_l03Hermite.calls _ _ _ _ _ _ _ _ ?side1 ?side2 A8.out).mono ?_
   (case side1 => exact ks (Kd.R_reads' HO201.out).2.2)
   (case side2 => exact (Kd.R_reads' HO201.out).2.1)
   rintro e w23 ⟨rfl, hb⟩
   have HS4_ := (hb.cell (World.block_lt_of_cell? _ _ (hHeld.2.2.2.2.1))).trans (hHeld.2.2.2.2.1)
   have HS5_ := (hb.cell (World.block_lt_of_cell? _ _ (hHeld.2.2.2.2.2.1))).trans (hHeld.2.2.2.2.2.1)
   have HS6_ := (hb.cell (World.block_lt_of_cell? _ _ (hHeld.2.2.2.2.2.2.1))).trans (hHeld.2.2.2.2.2.2.1)
   have HS7_ := (hb.cell (World.block_lt_of_cell? _ _ (hHeld.2.2.2.2.2.2.2))).trans (hHeld.2.2.2.2.2.2.2)
   refine ⟨_, rfl, ?_⟩
   replace HO192 := asd (Kd.R_below (kr HO192) hb)
   replace HO201 := asd (Kd.R_below (kr HO201) hb)
   replace BK187 := bB BK187 hb
   replace BK188 := bB BK188 hb
   replace BK189 := bB BK189 hb
   replace HB := bS3 HB GE187 GE188 GE189 hb
   (try clear hb)
   (try clear hb2)
   (try clear hk)
   (try clear hi)
   refine hK.out _ _ ⟨bcl BK187 0, bcl BK187 1, bcl BK187 2, bcl BK187 3, HS4_, HS5_, HS6_, HS7_⟩ (fun hHeld => ?_)
   clear hK K
   refine norm_ (a' := ?_) ?_ ?_
   rotate_left
   ·show Act.put _ (some 19) _ = _
    simp only [Act.put, sA, sB, sC, i64_w, i32_w]
    rfl
   refine ro 12 (none) (bt 13 13) HT_ (fun K hK => ?_)
   have hs24 : w23.cell? ⟨gb189, 0, none⟩ = some (.int .i64 0) := bcl BK189 0
   have hfs24 := blk_frozen BK189.out 0
   have hns24_0 := NB187_189.out
   have hns24_1 := NB188_189.out
   have hms24_0 := NB189_187.out
   have hms24_1 := NB189_188.out
   have hs25 : w23.cell? ⟨gb189, 1, none⟩ = some (.int .i64 0) := bcl BK189 1
   have hfs25 := blk_frozen BK189.out 1
   have hns25_0 := NB187_189.out
   have hns25_1 := NB188_189.out
   have hms25_0 := NB189_187.out
   have hms25_1 := NB189_188.out
   have hs26 : w23.cell? ⟨gb189, 2, none⟩ = some (.int .i64 0) := bcl BK189 2
   have hfs26 := blk_frozen BK189.out 2
   have hns26_0 := NB187_189.out
   have hns26_1 := NB188_189.out
   have hms26_0 := NB189_187.out
   have hms26_1 := NB189_188.out
   refine skip_ (w1 := ?_) (by rfl) rfl ?_ ?_
   rotate_left
   ·go_simp
    rfl
   refine hK.out _ _ ⟨(cf NB187_189 ((cf NB187_189 ((cf NB187_189 (hHeld.1)))))), (cf NB187_189 ((cf NB187_189 ((cf NB187_189 (hHeld.2.1)))))), (cf NB187_189 ((cf NB187_189 ((cf NB187_189 (hHeld.2.2.1)))))), (cf NB187_189 ((cf NB187_189 ((cf NB187_189 (hHeld.2.2.2.1)))))), ((cell_far (p := ⟨gb189, _, none⟩) (by first | exact Kd.own_blk (Kd.R_ne HO192.out BK189.out (by decide)) | (rw [add_block]; exact Kd.own_blk (Kd.R_ne HO192.out BK189.out (by decide))) | (show (Addr.add _ _).block ≠ _; rw [add_block]; exact Kd.own_blk (Kd.R_ne HO192.out BK189.out (by decide))) | (dsimp only; exact Kd.own_blk (Kd.R_ne HO192.out BK189.out (by decide)))) _).trans (((cell_far (p := ⟨gb189, _, none⟩) (by first | exact Kd.own_blk (Kd.R_ne HO192.out BK189.out (by decide)) | (rw [add_block]; exact Kd.own_blk (Kd.R_ne HO192.out BK189.out (by decide))) | (show (Addr.add _ _).block ≠ _; rw [add_block]; exact Kd.own_blk (Kd.R_ne HO192.out BK189.out (by decide))) | (dsimp only; exact Kd.own_blk (Kd.R_ne HO192.out BK189.out (by decide)))) _).trans (((cell_far (p := ⟨gb189, _, none⟩) (by first | exact Kd.own_blk (Kd.R_ne HO192.out BK189.out (by decide)) | (rw [add_block]; exact Kd.own_blk (Kd.R_ne HO192.out BK189.out (by decide))) | (show (Addr.add _ _).block ≠ _; rw [add_block]; exact Kd.own_blk (Kd.R_ne HO192.out BK189.out (by decide))) | (dsimp only; exact Kd.own_blk (Kd.R_ne HO192.out BK189.out (by decide)))) _).trans (hHeld.2.2.2.2.1)))))), ((cell_far (p := ⟨gb189, _, none⟩) (by first | exact Kd.own_blk (Kd.R_ne HO192.out BK189.out (by decide)) | (rw [add_block]; exact Kd.own_blk (Kd.R_ne HO192.out BK189.out (by decide))) | (show (Addr.add _ _).block ≠ _; rw [add_block]; exact Kd.own_blk (Kd.R_ne HO192.out BK189.out (by decide))) | (dsimp only; exact Kd.own_blk (Kd.R_ne HO192.out BK189.out (by decide)))) _).trans (((cell_far (p := ⟨gb189, _, none⟩) (by first | exact Kd.own_blk (Kd.R_ne HO192.out BK189.out (by decide)) | (rw [add_block]; exact Kd.own_blk (Kd.R_ne HO192.out BK189.out (by decide))) | (show (Addr.add _ _).block ≠ _; rw [add_block]; exact Kd.own_blk (Kd.R_ne HO192.out BK189.out (by decide))) | (dsimp only; exact Kd.own_blk (Kd.R_ne HO192.out BK189.out (by decide)))) _).trans (((cell_far (p := ⟨gb189, _, none⟩) (by first | exact Kd.own_blk (Kd.R_ne HO192.out BK189.out (by decide)) | (rw [add_block]; exact Kd.own_blk (Kd.R_ne HO192.out BK189.out (by decide))) | (show (Addr.add _ _).block ≠ _; rw [add_block]; exact Kd.own_blk (Kd.R_ne HO192.out BK189.out (by decide))) | (dsimp only; exact Kd.own_blk (Kd.R_ne HO192.out BK189.out (by decide)))) _).trans (hHeld.2.2.2.2.2.1)))))), ((cell_far (p := ⟨gb189, _, none⟩) (by first | exact Kd.own_blk (Kd.R_ne HO192.out BK189.out (by decide)) | (rw [add_block]; exact Kd.own_blk (Kd.R_ne HO192.out BK189.out (by decide))) | (show (Addr.add _ _).block ≠ _; rw [add_block]; exact Kd.own_blk (Kd.R_ne HO192.out BK189.out (by decide))) | (dsimp only; exact Kd.own_blk (Kd.R_ne HO192.out BK189.out (by decide)))) _).trans (((cell_far (p := ⟨gb189, _, none⟩) (by first | exact Kd.own_blk (Kd.R_ne HO192.out BK189.out (by decide)) | (rw [add_block]; exact Kd.own_blk (Kd.R_ne HO192.out BK189.out (by decide))) | (show (Addr.add _ _).block ≠ _; rw [add_block]; exact Kd.own_blk (Kd.R_ne HO192.out BK189.out (by decide))) | (dsimp only; exact Kd.own_blk (Kd.R_ne HO192.out BK189.out (by decide)))) _).trans (((cell_far (p := ⟨gb189, _, none⟩) (by first | exact Kd.own_blk (Kd.R_ne HO192.out BK189.out (by decide)) | (rw [add_block]; exact Kd.own_blk (Kd.R_ne HO192.out BK189.out (by decide))) | (show (Addr.add _ _).block ≠ _; rw [add_block]; exact Kd.own_blk (Kd.R_ne HO192.out BK189.out (by decide))) | (dsimp only; exact Kd.own_blk (Kd.R_ne HO192.out BK189.out (by decide)))) _).trans (hHeld.2.2.2.2.2.2.1)))))), ((cell_far (p := ⟨gb189, _, none⟩) (by first | exact Kd.own_blk (Kd.R_ne HO192.out BK189.out (by decide)) | (rw [add_block]; exact Kd.own_blk (Kd.R_ne HO192.out BK189.out (by decide))) | (show (Addr.add _ _).block ≠ _; rw [add_block]; exact Kd.own_blk (Kd.R_ne HO192.out BK189.out (by decide))) | (dsimp only; exact Kd.own_blk (Kd.R_ne HO192.out BK189.out (by decide)))) _).trans (((cell_far (p := ⟨gb189, _, none⟩) (by first | exact Kd.own_blk (Kd.R_ne HO192.out BK189.out (by decide)) | (rw [add_block]; exact Kd.own_blk (Kd.R_ne HO192.out BK189.out (by decide))) | (show (Addr.add _ _).block ≠ _; rw [add_block]; exact Kd.own_blk (Kd.R_ne HO192.out BK189.out (by decide))) | (dsimp only; exact Kd.own_blk (Kd.R_ne HO192.out BK189.out (by decide)))) _).trans (((cell_far (p := ⟨gb189, _, none⟩) (by first | exact Kd.own_blk (Kd.R_ne HO192.out BK189.out (by decide)) | (rw [add_block]; exact Kd.own_blk (Kd.R_ne HO192.out BK189.out (by decide))) | (show (Addr.add _ _).block ≠ _; rw [add_block]; exact Kd.own_blk (Kd.R_ne HO192.out BK189.out (by decide))) | (dsimp only; exact Kd.own_blk (Kd.R_ne HO192.out BK189.out (by decide)))) _).trans (hHeld.2.2.2.2.2.2.2))))))⟩ (fun hHeld => ?_)
   clear hK K
   refine done_ (done_of HT_.out (by kernel_rfl)) ?_
   try go_wp2
   refine bodyPost_ret (results_cell_row rfl _ _ gb189 29 #[.int .i64 t202, .int .i64 t203, .int .i64 t204] (0, 0) _ rfl (bq0 BK189) Try.underlying29 rfl (by kernel_rfl)) rfl ?_
   exact er (bbw3 HB GE187 GE188 GE189)
  ·rw [if_neg c6] at H
   exact absurd H (by simp)
 ·rw [if_neg c4] at H
  exact absurd H (by simp)

attribute [local go_sem high] eqA29
/-! ### spec_IsSuitable: function 42 -/
def spec_IsSuitable.f (k : Nat) (a0 : Int) (a1_0 : Int) (a1_1 : Int) (a1_2 : Int) (a2_0 : Int) (a2_1 : Int) (a2_2 : Int) (a2_3 : Int) (a2_4 : Int) (a2_5 : Int) : Option (Bool) := (spec_l04Code.f a0 a1_0 a1_1 a1_2).bind fun t207 => (if t207 = 0 then ((spec_IsPointMat.f a0 a2_0 a2_1 a2_2 a2_3).bind fun t208 => (if t208 = true then ((spec_l04Image.f k a2_0 a2_1 a2_2 a2_3 a1_0 a1_1 a1_2).bind fun bt209 => (if (bt209.1 == a1_0 && (bt209.2.1 == a1_1 && (bt209.2.2 == a1_2))) = true then ((spec_IsVec.f a2_4 a2_5).bind fun t212 => (some t212)) else (some false))) else (some false))) else (some false))
def spec_IsSuitable.T1 : Bool × List (List Nat × List Nat) := (true, [([], []), ([], []), ([0, 1], [0, 1]), ([2], [2]), ([3, 2], [3]), ([4], [4]), ([4], [4]), ([6, 4], [4, 6]), ([5, 7, 4, 4], [4, 5, 7]), ([4, 8], [4, 8]), ([9, 8], [9]), ([10], [10]), ([11, 10], [10, 11]), ([10], [10]), ([12, 13, 10, 10], [10, 12, 13]), ([10], [10]), ([14, 15, 10], [10, 14, 15]), ([10, 16], [10, 16]), ([17, 14], [17]), ([18], [18]), ([19, 18], [18, 19]), ([20, 18, 18], [18, 20]), ([18, 21], [18, 21]), ([22, 21, 0, 1, 2, 3, 4, 5, 6, 7, 8, 9, 10, 11, 12, 13, 14, 15, 16, 17, 18, 19, 20, 21, 22], [22])])
def spec_IsSuitable.B1 : List Nat := [0, 0, 3, 7, 15, 31, 31, 95, 255, 511, 1023, 2047, 4095, 2047, 16383, 2047, 65535, 131071, 262143, 524287, 1048575, 2097151, 4194303, 8388607]
theorem spec_IsSuitable.tab1 : rtab .any (opsOf Try.f42 1) = spec_IsSuitable.T1 := by kernel_rfl
theorem spec_IsSuitable.bits1 : waitsOk spec_IsSuitable.T1.2 spec_IsSuitable.B1 = true := by kernel_rfl
set_option maxHeartbeats 8000000 in
set_option maxRecDepth 100000 in
theorem spec_IsSuitable.calls (k : Nat) (a0 : Int) (a1_0 : Int) (a1_1 : Int) (a1_2 : Int) (a2_0 : Int) (a2_1 : Int) (a2_2 : Int) (a2_3 : Int) (a2_4 : Int) (a2_5 : Int) (r : Bool) (w : World) (h : spec_IsSuitable.f k a0 a1_0 a1_1 a1_2 a2_0 a2_1 a2_2 a2_3 a2_4 a2_5 = some r) :
  Calls Try.prog 42 #[.int .i64 a0, .agg #[.int .i64 a1_0, .int .i64 a1_1, .int .i64 a1_2], .agg #[.int .i64 a2_0, .int .i64 a2_1, .int .i64 a2_2, .int .i64 a2_3, .int .i64 a2_4, .int .i64 a2_5]] w fun e w' => e = .returned (.bool r) ∧ Below w.heap.size w w' := by
 have hu29 := Try.underlying29
 have hu48 := Try.underlying48
 have hu44 := Try.underlying44
 have hu46 := Try.underlying46
 have HB := asd (Below.refl w.heap.size w)
 have H : ((spec_l04Code.f a0 a1_0 a1_1 a1_2).bind fun t207 => (if t207 = 0 then ((spec_IsPointMat.f a0 a2_0 a2_1 a2_2 a2_3).bind fun t208 => (if t208 = true then ((spec_l04Image.f k a2_0 a2_1 a2_2 a2_3 a1_0 a1_1 a1_2).bind fun bt209 => (if (bt209.1 == a1_0 && (bt209.2.1 == a1_1 && (bt209.2.2 == a1_2))) = true then ((spec_IsVec.f a2_4 a2_5).bind fun t212 => (some t212)) else (some false))) else (some false))) else (some false))) = some r := h
 clear h
 obtain ⟨t207, A4, H⟩ := ob H
 try dsimp only at H
 by_cases c5 : t207 = 0
 rw [if_pos c5] at H
 have c5b0 : (t207 == 0) = true := beq_iff_eq.mpr c5
 have c5b1 : (t207 != 0) = false := bne_eq_false_iff_eq.mpr c5
 clear c5
 obtain ⟨t208, A6, H⟩ := ob H
 try dsimp only at H
 by_cases c7 : t208 = true
 subst c7
 replace H := ifT H
 obtain ⟨⟨t209, t210, t211⟩, A8, H⟩ := ob H
 try dsimp only at H
 by_cases c9 : (t209 == a1_0 && (t210 == a1_1 && (t211 == a1_2))) = true
 rw [if_pos c9] at H
 have c9b0 := c9
 (try (have c9b1 : decide (t209 = a1_0 && (t210 == a1_1 && (t211 == a1_2))) = true := by simpa using c9))
 (try (have c9b2 : (t209 == a1_0 && (t210 == a1_1 && (t211 == a1_2))) = true := by simpa using c9))
 clear c9
 obtain ⟨t212, A10, H⟩ := ob H
 try dsimp only at H
 obtain rfl := Option.some.inj H
 rotate_left
 rw [if_neg c9] at H
 have c9b0 : (t209 == a1_0 && (t210 == a1_1 && (t211 == a1_2))) = false := by simpa using c9
 (try (have c9b1 : decide (t209 = a1_0 && (t210 == a1_1 && (t211 == a1_2))) = false := by simpa using c9))
 (try (have c9b2 : (t209 == a1_0 && (t210 == a1_1 && (t211 == a1_2))) = false := by simpa using c9))
 (try (have c9b3 : ¬ (t209 = a1_0 && (t210 == a1_1 && (t211 == a1_2))) := by simpa using c9))
 clear c9
 obtain rfl := Option.some.inj H
 rotate_left
 replace c7 := Bool.eq_false_iff.mpr c7
 subst c7
 replace H := ifF H
 obtain rfl := Option.some.inj H
 rotate_left
 rw [if_neg c5] at H
 have c5b0 : (t207 == 0) = false := beq_eq_false_iff_ne.mpr c5
 have c5b1 : (t207 != 0) = true := bne_iff_ne.mpr c5
 obtain rfl := Option.some.inj H
 rotate_left
 all_goals
  go_enter Try.func42, Try.ntmps42
  try go_wp2_with (first | ((with_reducible refine gd 4 rfl ?_); refine bx #[.int .i64 a1_0, .int .i64 a1_1, .int .i64 a1_2] 29 ?_; intro gb205 hg w11 BK205 hb; have GE205 := ngw0 hg HB; replace HB := bS0 HB hb; clear hb hg) | ((with_reducible refine gd 5 rfl ?_); refine bx #[.int .i64 a2_0, .int .i64 a2_1, .int .i64 a2_2, .int .i64 a2_3, .int .i64 a2_4, .int .i64 a2_5] 48 ?_; intro gb206 hg w12 BK206 hb; have GE206 := ngw1 hg HB GE205; replace HB := bS1 HB GE205 hb; have NB205_206 := nlt hg BK205; have NB206_205 := nsy (nlt hg BK205); replace BK205 := bB BK205 hb; clear hb hg))
  replace BK205 := asd (blk_drew BK205.out)
  replace BK206 := asd (blk_drew BK206.out)
  replace HB := asd (below_drew1 HB.out)
 refine sh 24 (cb3 BK205 (eb6 BK206)) (fun hHeld => ?_); refine with_tabW spec_IsSuitable.tab1 spec_IsSuitable.bits1 (fun HT_ HW_ => ?_)
 rotate_left
 refine sh 24 (cb3 BK205 (eb6 BK206)) (fun hHeld => ?_); refine with_tabW spec_IsSuitable.tab1 spec_IsSuitable.bits1 (fun HT_ HW_ => ?_)
 rotate_left
 refine sh 24 (cb3 BK205 (eb6 BK206)) (fun hHeld => ?_); refine with_tabW spec_IsSuitable.tab1 spec_IsSuitable.bits1 (fun HT_ HW_ => ?_)
 rotate_left
 refine sh 24 (eb3 BK205) (fun hHeld => ?_); refine with_tabW spec_IsSuitable.tab1 spec_IsSuitable.bits1 (fun HT_ HW_ => ?_)
 rotate_left
 all_goals
  generalize w12.drew = w13 at BK205 BK206 HB hHeld ⊢
  refine pu 0 (some 7) (bt 24 1) HT_ ?_
  refine ta 1 (some 8) (bt 24 2) HT_ HW_ hHeld ?_
  refine ro 2 (some 9) (bt 24 3) HT_ (fun K hK => ?_)
  refine gs Try.func41 #[.int .i64 a0, .agg #[.int .i64 a1_0, .int .i64 a1_1, .int .i64 a1_2]] ?_
  with_reducible refine (spec_l04Code.calls _ _ _ _ _ _ A4.out).mono ?_
  rintro e w14 ⟨rfl, hb⟩
  refine ⟨_, rfl, ?_⟩
  replace BK205 := bB BK205 hb
  replace BK206 := bB BK206 hb
  replace HB := bS2 HB GE205 GE206 hb
  (try clear hb)
  (try clear hb2)
  (try clear hk)
  (try clear hi)
 rotate_left 3
 ·refine hK.out _ _ (eb3 BK205).out (fun hHeld => ?_)
  clear hK K
  refine norm_ (a' := ?_) ?_ ?_
  rotate_left
  ·show Act.put _ (some 9) _ = _
   simp only [Act.put, sA, sB, sC, i64_w, i32_w]
   rfl
  refine pu 3 (some 10) (bt 24 4) HT_ ?_
  refine pu 4 (some 11) (bt 24 5) HT_ ?_
  refine pf 5 (some 12) (bt 24 6) HT_ ?_
  refine pf 6 (some 13) (bt 24 7) HT_ ?_
  refine pf 7 (some 14) (bt 24 8) HT_ ?_
  refine pf 8 (some 15) (bt 24 9) HT_ ?_
  refine pu 9 (some 16) (bt 24 10) HT_ ?_
  refine pu 10 (some 17) (bt 24 11) HT_ ?_
  refine pf 11 (some 18) (bt 24 12) HT_ ?_
  refine pf 12 (some 19) (bt 24 13) HT_ ?_
  refine pf 13 (some 20) (bt 24 14) HT_ ?_
  refine pf 14 (some 21) (bt 24 15) HT_ ?_
  refine pf 15 (some 22) (bt 24 16) HT_ ?_
  refine pf 16 (some 23) (bt 24 17) HT_ ?_
  refine pu 17 (some 24) (bt 24 18) HT_ ?_
  refine pu 18 (some 25) (bt 24 19) HT_ ?_
  refine pf 19 (some 26) (bt 24 20) HT_ ?_
  refine pf 20 (some 27) (bt 24 21) HT_ ?_
  refine pf 21 (some 28) (bt 24 22) HT_ ?_
  refine pu 22 (some 29) (bt 24 23) HT_ ?_
  refine pu 23 (some 6) (bt 24 24) HT_ ?_
  refine done_ (done_of HT_.out (by kernel_rfl)) ?_
  try go_wp2
  go_ret
  exact er (bbw2 HB GE205 GE206)
 all_goals
  refine hK.out _ _ (cb3 BK205 (eb6 BK206)).out (fun hHeld => ?_)
  clear hK K
  refine norm_ (a' := ?_) ?_ ?_
  rotate_left
  ·show Act.put _ (some 9) _ = _
   simp only [Act.put, sA, sB, sC, i64_w, i32_w]
   rfl
  refine pu 3 (some 10) (bt 24 4) HT_ ?_
  refine pu 4 (some 11) (bt 24 5) HT_ ?_
  refine pu 5 (some 12) (bt 24 6) HT_ ?_
  refine pu 6 (some 13) (bt 24 7) HT_ ?_
  refine ta 7 (some 14) (bt 24 8) HT_ HW_ hHeld ?_
  refine ro 8 (some 15) (bt 24 9) HT_ (fun K hK => ?_)
  refine gs Try.func71 #[.int .i64 a0, .agg #[.int .i64 a2_0, .int .i64 a2_1, .int .i64 a2_2, .int .i64 a2_3]] ?_
  with_reducible refine (spec_IsPointMat.calls _ _ _ _ _ _ _ A6.out).mono ?_
  rintro e w15 ⟨rfl, hb⟩
  refine ⟨_, rfl, ?_⟩
  replace BK205 := bB BK205 hb
  replace BK206 := bB BK206 hb
  replace HB := bS2 HB GE205 GE206 hb
  (try clear hb)
  (try clear hb2)
  (try clear hk)
  (try clear hi)
  refine hK.out _ _ (cb3 BK205 (eb6 BK206)).out (fun hHeld => ?_)
  clear hK K
  refine norm_ (a' := ?_) ?_ ?_
  rotate_left
  ·show Act.put _ (some 15) _ = _
   simp only [Act.put, sA, sB, sC, i64_w, i32_w]
   rfl
  refine pu 9 (some 16) (bt 24 10) HT_ ?_
  refine pu 10 (some 17) (bt 24 11) HT_ ?_
 rotate_left 2
 ·refine pf 11 (some 18) (bt 24 12) HT_ ?_
  refine pf 12 (some 19) (bt 24 13) HT_ ?_
  refine pf 13 (some 20) (bt 24 14) HT_ ?_
  refine pf 14 (some 21) (bt 24 15) HT_ ?_
  refine pf 15 (some 22) (bt 24 16) HT_ ?_
  refine pf 16 (some 23) (bt 24 17) HT_ ?_
  refine pu 17 (some 24) (bt 24 18) HT_ ?_
  refine pu 18 (some 25) (bt 24 19) HT_ ?_
  refine pf 19 (some 26) (bt 24 20) HT_ ?_
  refine pf 20 (some 27) (bt 24 21) HT_ ?_
  refine pf 21 (some 28) (bt 24 22) HT_ ?_
  refine pu 22 (some 29) (bt 24 23) HT_ ?_
  refine pu 23 (some 6) (bt 24 24) HT_ ?_
  refine done_ (done_of HT_.out (by kernel_rfl)) ?_
  try go_wp2
  go_ret
  exact er (bbw2 HB GE205 GE206)
 all_goals
  refine pu 11 (some 18) (bt 24 12) HT_ ?_
  refine ta 12 (some 19) (bt 24 13) HT_ HW_ hHeld ?_
  refine ta 13 (some 20) (bt 24 14) HT_ HW_ hHeld ?_
  refine ta 15 (some 22) (bs 24 49151) HT_ HW_ hHeld ?_
  refine ro 14 (some 21) (bt 24 16) HT_ (fun K hK => ?_)
  refine gs Try.func72 #[.agg #[.int .i64 a2_0, .int .i64 a2_1, .int .i64 a2_2, .int .i64 a2_3], .agg #[.int .i64 a1_0, .int .i64 a1_1, .int .i64 a1_2]] ?_
  with_reducible refine (spec_l04Image.calls _ _ _ _ _ _ _ _ _ _ _ _ A8.out).mono ?_
  rintro e w16 ⟨rfl, hb⟩
  refine ⟨_, rfl, ?_⟩
  replace BK205 := bB BK205 hb
  replace BK206 := bB BK206 hb
  replace HB := bS2 HB GE205 GE206 hb
  (try clear hb)
  (try clear hb2)
  (try clear hk)
  (try clear hi)
  refine hK.out _ _ (cb3 BK205 (eb6 BK206)).out (fun hHeld => ?_)
  clear hK K
  refine norm_ (a' := ?_) ?_ ?_
  rotate_left
  ·show Act.put _ (some 21) _ = _
   simp only [Act.put, sA, sB, sC, i64_w, i32_w]
   rfl
  refine pu 16 (some 23) (bt 24 17) HT_ ?_
  refine pu 17 (some 24) (bt 24 18) HT_ ?_
  refine pu 18 (some 25) (bt 24 19) HT_ ?_
 focus
  refine pu 19 (some 26) (bt 24 20) HT_ ?_
  refine ta 20 (some 27) (bt 24 21) HT_ HW_ hHeld ?_
  refine ro 21 (some 28) (bt 24 22) HT_ (fun K hK => ?_)
  refine gs Try.func73 #[.agg #[.int .i64 a2_4, .int .i64 a2_5]] ?_
  with_reducible refine (spec_IsVec.calls _ _ _ _ A10.out).mono ?_
  rintro e w17 ⟨rfl, hb⟩
  refine ⟨_, rfl, ?_⟩
  replace BK205 := bB BK205 hb
  replace BK206 := bB BK206 hb
  replace HB := bS2 HB GE205 GE206 hb
  (try clear hb)
  (try clear hb2)
  (try clear hk)
  (try clear hi)
  refine hK.out _ _ (cb3 BK205 (eb6 BK206)).out (fun hHeld => ?_)
  clear hK K
  refine norm_ (a' := ?_) ?_ ?_
  rotate_left
  ·show Act.put _ (some 28) _ = _
   simp only [Act.put, sA, sB, sC, i64_w, i32_w]
   rfl
  refine pu 22 (some 29) (bt 24 23) HT_ ?_
 rotate_left
 refine pf 19 (some 26) (bt 24 20) HT_ ?_
 refine pf 20 (some 27) (bt 24 21) HT_ ?_
 refine pf 21 (some 28) (bt 24 22) HT_ ?_
 refine pu 22 (some 29) (bt 24 23) HT_ ?_
 rotate_left
 all_goals
  refine pu 23 (some 6) (bt 24 24) HT_ ?_
  refine done_ (done_of HT_.out (by kernel_rfl)) ?_
  try go_wp2
  go_ret
  exact er (bbw2 HB GE205 GE206)
/-! ### spec_l03Reduce: function 74 -/
def spec_l03Reduce.f (a0_0 : Int) (a0_1 : Int) (a0_2 : Int) (a1_0 : Int) (a1_1 : Int) : Option (Int × Int) := (spec_l01Mod.f a1_1 a0_2).bind fun t216 => (if a0_2 = 0 then (none) else ((spec_l01Mod.f (wrap64 (a1_0 - (wrap64 ((wrap64 (Int.tdiv (wrap64 (a1_1 - t216)) a0_2)) * a0_1)))) a0_0).bind fun t217 => (some (t217, t216))))
set_option maxHeartbeats 8000000 in
set_option maxRecDepth 100000 in
theorem spec_l03Reduce.calls (a0_0 : Int) (a0_1 : Int) (a0_2 : Int) (a1_0 : Int) (a1_1 : Int) (r1 : Int) (r2 : Int) (w : World) (h : spec_l03Reduce.f a0_0 a0_1 a0_2 a1_0 a1_1 = some (r1, r2)) :
  Calls Try.prog 74 #[.agg #[.int .i64 a0_0, .int .i64 a0_1, .int .i64 a0_2], .agg #[.int .i64 a1_0, .int .i64 a1_1]] w fun e w' => e = .returned (.agg #[.int .i64 r1, .int .i64 r2]) ∧ Below w.heap.size w w' := by
 have hu29 := Try.underlying29
 have hu46 := Try.underlying46
 have HB := asd (Below.refl w.heap.size w)
 have H : ((spec_l01Mod.f a1_1 a0_2).bind fun t216 => (if a0_2 = 0 then (none) else ((spec_l01Mod.f (wrap64 (a1_0 - (wrap64 ((wrap64 (Int.tdiv (wrap64 (a1_1 - t216)) a0_2)) * a0_1)))) a0_0).bind fun t217 => (some (t217, t216))))) = some (r1, r2) := h
 clear h
 obtain ⟨t216, A3, H⟩ := ob H
 try dsimp only at H
 by_cases c4 : a0_2 = 0
 ·rw [if_pos c4] at H
  exact absurd H (by simp)
 ·rw [if_neg c4] at H
  have c4b0 : (a0_2 == 0) = false := beq_eq_false_iff_ne.mpr c4
  have c4b1 : (a0_2 != 0) = true := bne_iff_ne.mpr c4
  obtain ⟨t217, A5, H⟩ := ob H
  try dsimp only at H
  simp only [Option.some.injEq, Prod.mk.injEq] at H
  obtain ⟨rfl, rfl⟩ := H
  go_enter Try.func74, Try.ntmps74
  go_wp2_with (first | ((with_reducible refine gd 2 rfl ?_); refine bx #[.int .i64 a0_0, .int .i64 a0_1, .int .i64 a0_2] 29 ?_; intro gb213 hg w6 BK213 hb; have GE213 := ngw0 hg HB; replace HB := bS0 HB hb; clear hb hg) | ((with_reducible refine gd 3 rfl ?_); refine bx #[.int .i64 a1_0, .int .i64 a1_1] 46 ?_; intro gb214 hg w7 BK214 hb; have GE214 := ngw1 hg HB GE213; replace HB := bS1 HB GE213 hb; have NB213_214 := nlt hg BK213; have NB214_213 := nsy (nlt hg BK213); replace BK213 := bB BK213 hb; clear hb hg) | ((with_reducible refine gd 4 rfl ?_); refine bx #[.int .i64 0, .int .i64 0] 46 ?_; intro gb215 hg w8 BK215 hb; have GE215 := ngw2 hg HB GE213 GE214; replace HB := bS2 HB GE213 GE214 hb; have NB213_215 := nlt hg BK213; have NB215_213 := nsy (nlt hg BK213); replace BK213 := bB BK213 hb; have NB214_215 := nlt hg BK214; have NB215_214 := nsy (nlt hg BK214); replace BK214 := bB BK214 hb; clear hb hg; have hnb9 := NB214_213.out; have hnc9 := NB213_214.out; have hnb10 := NB214_215.out; have hnc10 := NB215_214.out; obtain ⟨hcz11_0, hcz11_1, hfz11_0, hfz11_1⟩ := bz2 BK214; have hnb12 := NB213_215.out; have hnc12 := NB215_213.out; obtain ⟨hcz13_0, hcz13_1, hcz13_2, hfz13_0, hfz13_1, hfz13_2⟩ := bz3 BK213) | ((with_reducible refine gate_callee (f := 90) rfl ?_); refine gl 11 Try.func90 #[.int .i64 a1_1, .int .i64 a0_2] ?_; (with_reducible refine (spec_l01Mod.calls _ _ _ _ A3.out).mono ?_); rintro e w' ⟨rfl, ⟨nd, rfl⟩⟩; refine ⟨_, rfl, ?_⟩; (try (rw [drewN_self w8]; generalize hq_ : World.drewN w8 _ = w8; have n0_ : Aside0 (w8.heap[gb213]? = some (.cells #[.int .i64 a0_0, .int .i64 a0_1, .int .i64 a0_2] 29 (0, 0))) := ⟨by rw [← hq_]; exact (bkp BK213)⟩; have n1_ : Aside0 (w8.heap[gb214]? = some (.cells #[.int .i64 a1_0, .int .i64 a1_1] 46 (0, 0))) := ⟨by rw [← hq_]; exact (bkp BK214)⟩; have n2_ : Aside0 (w8.heap[gb215]? = some (.cells #[.int .i64 0, .int .i64 0] 46 (0, 0))) := ⟨by rw [← hq_]; exact (bkp BK215)⟩; have n3_ : Aside0 (Below w.heap.size w w8) := ⟨by rw [← hq_]; exact (bbw3 HB GE213 GE214 GE215)⟩; clear BK213 BK214 BK215 HB hq_; have BK213 := n0_; have BK214 := n1_; have BK215 := n2_; have HB := n3_; clear n0_ n1_ n2_ n3_)); have hcz14_0 : w8.cell? ⟨gb214, 0, none⟩ = some (.int .i64 a1_0) := bcl BK214 0; have hcz14_1 : w8.cell? ⟨gb214, 1, none⟩ = some (.int .i64 a1_1) := bcl BK214 1; have hfz14_0 := blk_frozen BK214.out 0; have hfz14_1 := blk_frozen BK214.out 1; have hcz15_0 : w8.cell? ⟨gb213, 0, none⟩ = some (.int .i64 a0_0) := bcl BK213 0; have hcz15_1 : w8.cell? ⟨gb213, 1, none⟩ = some (.int .i64 a0_1) := bcl BK213 1; have hcz15_2 : w8.cell? ⟨gb213, 2, none⟩ = some (.int .i64 a0_2) := bcl BK213 2; have hfz15_0 := blk_frozen BK213.out 0; have hfz15_1 := blk_frozen BK213.out 1; have hfz15_2 := blk_frozen BK213.out 2) | ((with_reducible refine gate_callee (f := 90) rfl ?_); refine gl 28 Try.func90 #[.int .i64 (wrap64 (a1_0 - (wrap64 ((wrap64 (Int.tdiv (wrap64 (a1_1 - t216)) a0_2)) * a0_1)))), .int .i64 a0_0] ?_; (with_reducible refine (spec_l01Mod.calls _ _ _ _ A5.out).mono ?_); rintro e w' ⟨rfl, ⟨nd, rfl⟩⟩; refine ⟨_, rfl, ?_⟩; (try (rw [drewN_self w8]; generalize hq_ : World.drewN w8 _ = w8; have n0_ : Aside0 (w8.heap[gb213]? = some (.cells #[.int .i64 a0_0, .int .i64 a0_1, .int .i64 a0_2] 29 (0, 0))) := ⟨by rw [← hq_]; exact (bkp BK213)⟩; have n1_ : Aside0 (w8.heap[gb214]? = some (.cells #[.int .i64 a1_0, .int .i64 a1_1] 46 (0, 0))) := ⟨by rw [← hq_]; exact (bkp BK214)⟩; have n2_ : Aside0 (w8.heap[gb215]? = some (.cells #[.int .i64 0, .int .i64 0] 46 (0, 0))) := ⟨by rw [← hq_]; exact (bkp BK215)⟩; have n3_ : Aside0 (Below w.heap.size w w8) := ⟨by rw [← hq_]; exact (bbw3 HB GE213 GE214 GE215)⟩; clear BK213 BK214 BK215 HB hq_; have BK213 := n0_; have BK214 := n1_; have BK215 := n2_; have HB := n3_; clear n0_ n1_ n2_ n3_)); have hcz16_0 : w8.cell? ⟨gb215, 0, none⟩ = some (.int .i64 0) := bcl BK215 0; have hcz16_1 : w8.cell? ⟨gb215, 1, none⟩ = some (.int .i64 0) := bcl BK215 1; have hfz16_0 := blk_frozen BK215.out 0; have hfz16_1 := blk_frozen BK215.out 1))
  refine bodyPost_ret (results_cell_row rfl _ _ gb215 46 #[.int .i64 t217, .int .i64 t216] (0, 0) _ rfl (bq0 BK215) Try.underlying46 rfl (by kernel_rfl)) rfl ?_
  exact er (bbw3 HB GE213 GE214 GE215)
/-! ### spec_l06Reduce: function 43 -/
def spec_l06Reduce.f (a0_0 : Int) (a0_1 : Int) (a0_2 : Int) (a1_0 : Int) (a1_1 : Int) (a1_2 : Int) (a1_3 : Int) (a1_4 : Int) (a1_5 : Int) : Option (Int × Int × Int × Int × Int × Int) := (spec_l03Reduce.f a0_0 a0_1 a0_2 a1_4 a1_5).bind fun bt221 => (some (a1_0, a1_1, a1_2, a1_3, bt221.1, bt221.2))
def spec_l06Reduce.T1 : Bool × List (List Nat × List Nat) := (true, [([], []), ([0], [0]), ([], []), ([], []), ([3], [3]), ([2, 4], [2, 4]), ([1, 5], [1, 5]), ([6, 5, 0, 1, 2, 3, 4, 5, 6], [6])])
def spec_l06Reduce.B1 : List Nat := [0, 1, 0, 0, 8, 28, 63, 127]
theorem spec_l06Reduce.tab1 : rtab .any (opsOf Try.f43 1) = spec_l06Reduce.T1 := by kernel_rfl
theorem spec_l06Reduce.bits1 : waitsOk spec_l06Reduce.T1.2 spec_l06Reduce.B1 = true := by kernel_rfl
set_option maxHeartbeats 8000000 in
set_option maxRecDepth 100000 in
theorem spec_l06Reduce.calls (a0_0 : Int) (a0_1 : Int) (a0_2 : Int) (a1_0 : Int) (a1_1 : Int) (a1_2 : Int) (a1_3 : Int) (a1_4 : Int) (a1_5 : Int) (r1 : Int) (r2 : Int) (r3 : Int) (r4 : Int) (r5 : Int) (r6 : Int) (w : World) (h : spec_l06Reduce.f a0_0 a0_1 a0_2 a1_0 a1_1 a1_2 a1_3 a1_4 a1_5 = some (r1, r2, r3, r4, r5, r6)) :
  Calls Try.prog 43 #[.agg #[.int .i64 a0_0, .int .i64 a0_1, .int .i64 a0_2], .agg #[.int .i64 a1_0, .int .i64 a1_1, .int .i64 a1_2, .int .i64 a1_3, .int .i64 a1_4, .int .i64 a1_5]] w fun e w' => e = .returned (.agg #[.int .i64 r1, .int .i64 r2, .int .i64 r3, .int .i64 r4, .int .i64 r5, .int .i64 r6]) ∧ Below w.heap.size w w' := by
 have hu29 := Try.underlying29
 have hu48 := Try.underlying48
 have hu44 := Try.underlying44
 have hu46 := Try.underlying46
 have HB := asd (Below.refl w.heap.size w)
 have H : ((spec_l03Reduce.f a0_0 a0_1 a0_2 a1_4 a1_5).bind fun bt221 => (some (a1_0, a1_1, a1_2, a1_3, bt221.1, bt221.2))) = some (r1, r2, r3, r4, r5, r6) := h
 clear h
 obtain ⟨⟨t221, t222⟩, A3, H⟩ := ob H
 try dsimp only at H
 simp only [Option.some.injEq, Prod.mk.injEq] at H
 obtain ⟨rfl, rfl, rfl, rfl, rfl, rfl⟩ := H
 go_enter Try.func43, Try.ntmps43
 try go_wp2_with (first | ((with_reducible refine gd 2 rfl ?_); refine bx #[.int .i64 a0_0, .int .i64 a0_1, .int .i64 a0_2] 29 ?_; intro gb218 hg w4 BK218 hb; have GE218 := ngw0 hg HB; replace HB := bS0 HB hb; clear hb hg) | ((with_reducible refine gd 3 rfl ?_); refine bx #[.int .i64 a1_0, .int .i64 a1_1, .int .i64 a1_2, .int .i64 a1_3, .int .i64 a1_4, .int .i64 a1_5] 48 ?_; intro gb219 hg w5 BK219 hb; have GE219 := ngw1 hg HB GE218; replace HB := bS1 HB GE218 hb; have NB218_219 := nlt hg BK218; have NB219_218 := nsy (nlt hg BK218); replace BK218 := bB BK218 hb; clear hb hg) | ((with_reducible refine gd 4 rfl ?_); refine bx #[.int .i64 0, .int .i64 0, .int .i64 0, .int .i64 0, .int .i64 0, .int .i64 0] 48 ?_; intro gb220 hg w6 BK220 hb; have GE220 := ngw2 hg HB GE218 GE219; replace HB := bS2 HB GE218 GE219 hb; have NB218_220 := nlt hg BK218; have NB220_218 := nsy (nlt hg BK218); replace BK218 := bB BK218 hb; have NB219_220 := nlt hg BK219; have NB220_219 := nsy (nlt hg BK219); replace BK219 := bB BK219 hb; clear hb hg))
 replace BK218 := asd (blk_drew BK218.out)
 replace BK219 := asd (blk_drew BK219.out)
 replace BK220 := asd (blk_drew BK220.out)
 replace HB := asd (below_drew1 HB.out)
 refine sh 8 (cb6 BK219 (eb3 BK218)) (fun hHeld => ?_); refine with_tabW spec_l06Reduce.tab1 spec_l06Reduce.bits1 (fun HT_ HW_ => ?_)
 generalize w6.drew = w7 at BK218 BK219 BK220 HB hHeld ⊢
 refine pu 0 (some 5) (bt 8 1) HT_ ?_
 refine pu 3 (some 8) (bs 8 9) HT_ ?_
 refine ta 1 (some 6) (bs 8 11) HT_ HW_ hHeld ?_
 refine ta 2 (some 7) (bt 8 4) HT_ HW_ hHeld ?_
 refine ta 4 (some 9) (bt 8 5) HT_ HW_ hHeld ?_
 refine ro 5 (some 10) (bt 8 6) HT_ (fun K hK => ?_)
 refine gs Try.func74 #[.agg #[.int .i64 a0_0, .int .i64 a0_1, .int .i64 a0_2], .agg #[.int .i64 a1_4, .int .i64 a1_5]] ?_
 with_reducible refine (spec_l03Reduce.calls _ _ _ _ _ _ _ _ A3.out).mono ?_
 rintro e w8 ⟨rfl, hb⟩
 refine ⟨_, rfl, ?_⟩
 replace BK218 := bB BK218 hb
 replace BK219 := bB BK219 hb
 replace BK220 := bB BK220 hb
 replace HB := bS3 HB GE218 GE219 GE220 hb
 (try clear hb)
 (try clear hb2)
 (try clear hk)
 (try clear hi)
 refine hK.out _ _ (cb6 BK219 (eb3 BK218)).out (fun hHeld => ?_)
 clear hK K
 refine norm_ (a' := ?_) ?_ ?_
 rotate_left
 ·show Act.put _ (some 10) _ = _
  simp only [Act.put, sA, sB, sC, i64_w, i32_w]
  rfl
 refine pu 6 (some 11) (bt 8 7) HT_ ?_
 refine ro 7 (none) (bt 8 8) HT_ (fun K hK => ?_)
 have hs9 : w8.cell? ⟨gb220, 0, none⟩ = some (.int .i64 0) := bcl BK220 0
 have hfs9 := blk_frozen BK220.out 0
 have hns9_0 := NB218_220.out
 have hns9_1 := NB219_220.out
 have hms9_0 := NB220_218.out
 have hms9_1 := NB220_219.out
 have hs10 : w8.cell? ⟨gb220, 1, none⟩ = some (.int .i64 0) := bcl BK220 1
 have hfs10 := blk_frozen BK220.out 1
 have hns10_0 := NB218_220.out
 have hns10_1 := NB219_220.out
 have hms10_0 := NB220_218.out
 have hms10_1 := NB220_219.out
 have hs11 : w8.cell? ⟨gb220, 2, none⟩ = some (.int .i64 0) := bcl BK220 2
 have hfs11 := blk_frozen BK220.out 2
 have hns11_0 := NB218_220.out
 have hns11_1 := NB219_220.out
 have hms11_0 := NB220_218.out
 have hms11_1 := NB220_219.out
 have hs12 : w8.cell? ⟨gb220, 3, none⟩ = some (.int .i64 0) := bcl BK220 3
 have hfs12 := blk_frozen BK220.out 3
 have hns12_0 := NB218_220.out
 have hns12_1 := NB219_220.out
 have hms12_0 := NB220_218.out
 have hms12_1 := NB220_219.out
 have hs13 : w8.cell? ⟨gb220, 4, none⟩ = some (.int .i64 0) := bcl BK220 4
 have hfs13 := blk_frozen BK220.out 4
 have hns13_0 := NB218_220.out
 have hns13_1 := NB219_220.out
 have hms13_0 := NB220_218.out
 have hms13_1 := NB220_219.out
 have hs14 : w8.cell? ⟨gb220, 5, none⟩ = some (.int .i64 0) := bcl BK220 5
 have hfs14 := blk_frozen BK220.out 5
 have hns14_0 := NB218_220.out
 have hns14_1 := NB219_220.out
 have hms14_0 := NB220_218.out
 have hms14_1 := NB220_219.out
 refine skip_ (w1 := ?_) (by rfl) rfl ?_ ?_
 rotate_left
 ·go_simp
  rfl
 refine hK.out _ _ ⟨(cf NB219_220 ((cf NB219_220 ((cf NB219_220 ((cf NB219_220 ((cf NB219_220 ((cf NB219_220 (hHeld.1)))))))))))), (cf NB219_220 ((cf NB219_220 ((cf NB219_220 ((cf NB219_220 ((cf NB219_220 ((cf NB219_220 (hHeld.2.1)))))))))))), (cf NB219_220 ((cf NB219_220 ((cf NB219_220 ((cf NB219_220 ((cf NB219_220 ((cf NB219_220 (hHeld.2.2.1)))))))))))), (cf NB219_220 ((cf NB219_220 ((cf NB219_220 ((cf NB219_220 ((cf NB219_220 ((cf NB219_220 (hHeld.2.2.2.1)))))))))))), (cf NB219_220 ((cf NB219_220 ((cf NB219_220 ((cf NB219_220 ((cf NB219_220 ((cf NB219_220 (hHeld.2.2.2.2.1)))))))))))), (cf NB219_220 ((cf NB219_220 ((cf NB219_220 ((cf NB219_220 ((cf NB219_220 ((cf NB219_220 (hHeld.2.2.2.2.2.1)))))))))))), (cf NB218_220 ((cf NB218_220 ((cf NB218_220 ((cf NB218_220 ((cf NB218_220 ((cf NB218_220 (hHeld.2.2.2.2.2.2.1)))))))))))), (cf NB218_220 ((cf NB218_220 ((cf NB218_220 ((cf NB218_220 ((cf NB218_220 ((cf NB218_220 (hHeld.2.2.2.2.2.2.2.1)))))))))))), (cf NB218_220 ((cf NB218_220 ((cf NB218_220 ((cf NB218_220 ((cf NB218_220 ((cf NB218_220 (hHeld.2.2.2.2.2.2.2.2))))))))))))⟩ (fun hHeld => ?_)
 clear hK K
 refine done_ (done_of HT_.out (by kernel_rfl)) ?_
 try go_wp2
 refine bodyPost_ret (results_cell_row rfl _ _ gb220 48 #[.int .i64 a1_0, .int .i64 a1_1, .int .i64 a1_2, .int .i64 a1_3, .int .i64 t221, .int .i64 t222] (0, 0) _ rfl (bq0 BK220) Try.underlying48 rfl (by kernel_rfl)) rfl ?_
 exact er (bbw3 HB GE218 GE219 GE220)
/-! ### spec_l02Unit: function 77 -/
def spec_l02Unit.f  : Option (Int × Int × Int × Int) := some (1, 0, 0, 1)
set_option maxHeartbeats 8000000 in
set_option maxRecDepth 100000 in
theorem spec_l02Unit.calls  (r1 : Int) (r2 : Int) (r3 : Int) (r4 : Int) (w : World) (h : spec_l02Unit.f  = some (r1, r2, r3, r4)) :
  Calls Try.prog 77 #[] w fun e w' => e = .returned (.agg #[.int .i64 r1, .int .i64 r2, .int .i64 r3, .int .i64 r4]) ∧ Below w.heap.size w w' := by
 have hu44 := Try.underlying44
 have HB := asd (Below.refl w.heap.size w)
 have H : (some (1, 0, 0, 1)) = some (r1, r2, r3, r4) := h
 clear h
 simp only [Option.some.injEq, Prod.mk.injEq] at H
 obtain ⟨rfl, rfl, rfl, rfl⟩ := H
 go_enter Try.func77, Try.ntmps77
 go_wp2_with (first | ((with_reducible refine gd 0 rfl ?_); refine bx #[.int .i64 0, .int .i64 0, .int .i64 0, .int .i64 0] 44 ?_; intro gb223 hg w1 BK223 hb; have GE223 := ngw0 hg HB; replace HB := bS0 HB hb; clear hb hg; obtain ⟨hcz2_0, hcz2_1, hcz2_2, hcz2_3, hfz2_0, hfz2_1, hfz2_2, hfz2_3⟩ := bz4 BK223))
 refine bodyPost_ret (results_cell_row rfl _ _ gb223 44 #[.int .i64 1, .int .i64 0, .int .i64 0, .int .i64 1] (0, 0) _ rfl (bq0 BK223) Try.underlying44 rfl (by kernel_rfl)) rfl ?_
 exact er (bbw1 HB GE223)
/-! ### spec_l06Unit: function 45 -/
def spec_l06Unit.f  : Option (Int × Int × Int × Int × Int × Int) := (spec_l02Unit.f).bind fun bt225 => (some (bt225.1, bt225.2.1, bt225.2.2.1, bt225.2.2.2, 0, 0))
set_option maxHeartbeats 8000000 in
set_option maxRecDepth 100000 in
theorem spec_l06Unit.calls  (r1 : Int) (r2 : Int) (r3 : Int) (r4 : Int) (r5 : Int) (r6 : Int) (w : World) (h : spec_l06Unit.f  = some (r1, r2, r3, r4, r5, r6)) :
  Calls Try.prog 45 #[] w fun e w' => e = .returned (.agg #[.int .i64 r1, .int .i64 r2, .int .i64 r3, .int .i64 r4, .int .i64 r5, .int .i64 r6]) ∧ Below w.heap.size w w' := by
 have hu48 := Try.underlying48
 have HB := asd (Below.refl w.heap.size w)
 have H : ((spec_l02Unit.f).bind fun bt225 => (some (bt225.1, bt225.2.1, bt225.2.2.1, bt225.2.2.2, 0, 0))) = some (r1, r2, r3, r4, r5, r6) := h
 clear h
 obtain ⟨⟨t225, t226, t227, t228⟩, A1, H⟩ := ob H
 try dsimp only at H
 simp only [Option.some.injEq, Prod.mk.injEq] at H
 obtain ⟨rfl, rfl, rfl, rfl, rfl, rfl⟩ := H
 go_enter Try.func45, Try.ntmps45
 go_wp2_with (first | ((with_reducible refine gd 0 rfl ?_); refine bx #[.int .i64 0, .int .i64 0, .int .i64 0, .int .i64 0, .int .i64 0, .int .i64 0] 48 ?_; intro gb224 hg w2 BK224 hb; have GE224 := ngw0 hg HB; replace HB := bS0 HB hb; clear hb hg) | ((with_reducible refine gate_callee (f := 77) rfl ?_); refine gl 1 Try.func77 #[] ?_; (with_reducible refine (spec_l02Unit.calls _ _ _ _ _ A1.out).mono ?_); rintro e w3 ⟨rfl, hb⟩; refine ⟨_, rfl, ?_⟩; replace BK224 := bB BK224 hb; replace HB := bS1 HB GE224 hb; (try clear hb); obtain ⟨hcz4_0, hcz4_1, hcz4_2, hcz4_3, hcz4_4, hcz4_5, hfz4_0, hfz4_1, hfz4_2, hfz4_3, hfz4_4, hfz4_5⟩ := bz6 BK224))
 refine bodyPost_ret (results_cell_row rfl _ _ gb224 48 #[.int .i64 t225, .int .i64 t226, .int .i64 t227, .int .i64 t228, .int .i64 0, .int .i64 0] (0, 0) _ rfl (bq0 BK224) Try.underlying48 rfl (by kernel_rfl)) rfl ?_
 exact er (bbw1 HB GE224)
/-! ### spec_l02Multiply: function 78 -/
def spec_l02Multiply.f (a0_0 : Int) (a0_1 : Int) (a0_2 : Int) (a0_3 : Int) (a1_0 : Int) (a1_1 : Int) (a1_2 : Int) (a1_3 : Int) : Option (Int × Int × Int × Int) := some (wrap64 ((wrap64 (a0_0 * a1_0)) + (wrap64 (a0_1 * a1_2))), wrap64 ((wrap64 (a0_0 * a1_1)) + (wrap64 (a0_1 * a1_3))), wrap64 ((wrap64 (a0_2 * a1_0)) + (wrap64 (a0_3 * a1_2))), wrap64 ((wrap64 (a0_2 * a1_1)) + (wrap64 (a0_3 * a1_3))))
set_option maxHeartbeats 8000000 in
set_option maxRecDepth 100000 in
theorem spec_l02Multiply.calls (a0_0 : Int) (a0_1 : Int) (a0_2 : Int) (a0_3 : Int) (a1_0 : Int) (a1_1 : Int) (a1_2 : Int) (a1_3 : Int) (r1 : Int) (r2 : Int) (r3 : Int) (r4 : Int) (w : World) (h : spec_l02Multiply.f a0_0 a0_1 a0_2 a0_3 a1_0 a1_1 a1_2 a1_3 = some (r1, r2, r3, r4)) :
  Calls Try.prog 78 #[.agg #[.int .i64 a0_0, .int .i64 a0_1, .int .i64 a0_2, .int .i64 a0_3], .agg #[.int .i64 a1_0, .int .i64 a1_1, .int .i64 a1_2, .int .i64 a1_3]] w fun e w' => e = .returned (.agg #[.int .i64 r1, .int .i64 r2, .int .i64 r3, .int .i64 r4]) ∧ Below w.heap.size w w' := by
 have hu44 := Try.underlying44
 have HB := asd (Below.refl w.heap.size w)
 have H : (some (wrap64 ((wrap64 (a0_0 * a1_0)) + (wrap64 (a0_1 * a1_2))), wrap64 ((wrap64 (a0_0 * a1_1)) + (wrap64 (a0_1 * a1_3))), wrap64 ((wrap64 (a0_2 * a1_0)) + (wrap64 (a0_3 * a1_2))), wrap64 ((wrap64 (a0_2 * a1_1)) + (wrap64 (a0_3 * a1_3))))) = some (r1, r2, r3, r4) := h
 clear h
 simp only [Option.some.injEq, Prod.mk.injEq] at H
 obtain ⟨rfl, rfl, rfl, rfl⟩ := H
 go_enter Try.func78, Try.ntmps78
 go_wp2_with (first | ((with_reducible refine gd 2 rfl ?_); refine bx #[.int .i64 a0_0, .int .i64 a0_1, .int .i64 a0_2, .int .i64 a0_3] 44 ?_; intro gb229 hg w3 BK229 hb; have GE229 := ngw0 hg HB; replace HB := bS0 HB hb; clear hb hg) | ((with_reducible refine gd 3 rfl ?_); refine bx #[.int .i64 a1_0, .int .i64 a1_1, .int .i64 a1_2, .int .i64 a1_3] 44 ?_; intro gb230 hg w4 BK230 hb; have GE230 := ngw1 hg HB GE229; replace HB := bS1 HB GE229 hb; have NB229_230 := nlt hg BK229; have NB230_229 := nsy (nlt hg BK229); replace BK229 := bB BK229 hb; clear hb hg) | ((with_reducible refine gd 4 rfl ?_); refine bx #[.int .i64 0, .int .i64 0, .int .i64 0, .int .i64 0] 44 ?_; intro gb231 hg w5 BK231 hb; have GE231 := ngw2 hg HB GE229 GE230; replace HB := bS2 HB GE229 GE230 hb; have NB229_231 := nlt hg BK229; have NB231_229 := nsy (nlt hg BK229); replace BK229 := bB BK229 hb; have NB230_231 := nlt hg BK230; have NB231_230 := nsy (nlt hg BK230); replace BK230 := bB BK230 hb; clear hb hg; have hnb6 := NB229_230.out; have hnc6 := NB230_229.out; have hnb7 := NB229_231.out; have hnc7 := NB231_229.out; obtain ⟨hcz8_0, hcz8_1, hcz8_2, hcz8_3, hfz8_0, hfz8_1, hfz8_2, hfz8_3⟩ := bz4 BK229; have hnb9 := NB230_231.out; have hnc9 := NB231_230.out; obtain ⟨hcz10_0, hcz10_1, hcz10_2, hcz10_3, hfz10_0, hfz10_1, hfz10_2, hfz10_3⟩ := bz4 BK230; obtain ⟨hcz11_0, hcz11_1, hcz11_2, hcz11_3, hfz11_0, hfz11_1, hfz11_2, hfz11_3⟩ := bz4 BK231))
 refine bodyPost_ret (results_cell_row rfl _ _ gb231 44 #[.int .i64 (wrap64 ((wrap64 (a0_0 * a1_0)) + (wrap64 (a0_1 * a1_2)))), .int .i64 (wrap64 ((wrap64 (a0_0 * a1_1)) + (wrap64 (a0_1 * a1_3)))), .int .i64 (wrap64 ((wrap64 (a0_2 * a1_0)) + (wrap64 (a0_3 * a1_2)))), .int .i64 (wrap64 ((wrap64 (a0_2 * a1_1)) + (wrap64 (a0_3 * a1_3))))] (0, 0) _ rfl (bq0 BK231) Try.underlying44 rfl (by kernel_rfl)) rfl ?_
 exact er (bbw3 HB GE229 GE230 GE231)

end Go.Proofs.Ytilbokbfcmeleaa.PA
