/- Walks written by program: each Go function that the law reaches comes to the plain function beside it. -/
import Derived.Test.YtilbokbfcmeleaaPAx0
import Derived.Test.YtilbokbfcmeleaaPAx1
import Derived.Test.YtilbokbfcmeleaaPAx6
import Derived.Test.YtilbokbfcmeleaaPAx7
namespace Go.Proofs.Ytilbokbfcmeleaa.PA
open Go.RowKit Go.Proofs.YtilbokbfcmeleaaW.PrintWords Go.Proofs.YtilbokbfcmeleaaW.PrintLast Go.Proofs.YtilbokbfcmeleaaW.PrintMore
attribute [local go_sem] max2_int min2_int max_two min_two max_three min_three max_four min_four   -- for this text's walks alone
set_option linter.unusedVariables false
set_option linter.unusedSimpArgs false

/-! ### spec_l04Image: function 72 -/
def spec_l04Image.f (k : Nat) (a0_0 : Int) (a0_1 : Int) (a0_2 : Int) (a0_3 : Int) (a1_0 : Int) (a1_1 : Int) (a1_2 : Int) : Option (Int × Int × Int) := (spec_l03Basis.f a1_0 a1_1 a1_2).bind fun t246 => (if 0 < (t246.length : Int) then ((spec_l02Apply.f a0_0 a0_1 a0_2 a0_3 ((rd_T46 t246 0).f0) ((rd_T46 t246 0).f1)).bind fun bt250 => (if 1 < (t246.length : Int) then ((spec_l02Apply.f a0_0 a0_1 a0_2 a0_3 ((rd_T46 t246 1).f0) ((rd_T46 t246 1).f1)).bind fun bt253 => ((spec_l03Hermite.f k (([(⟨bt250.1, bt250.2⟩ : S46), (⟨bt253.1, bt253.2⟩ : S46)] : List (S46)))).bind fun bt258 => (some (bt258.1, bt258.2.1, bt258.2.2)))) else (none))) else (none))
def spec_l04Image.T2 : Bool × List (List Nat × List Nat) := (true, [([], []), ([], []), ([1], [1]), ([2], [2]), ([0, 3], [0, 3]), ([], []), ([], []), ([6], [6]), ([7], [7]), ([5, 8, 4], [5, 8]), ([4, 9], [4, 9]), ([10, 9], [10]), ([11, 11, 0, 1, 2, 3, 4, 5, 6, 7, 8, 9, 10, 11], [11])])
def spec_l04Image.B2 : List Nat := [0, 0, 2, 6, 15, 0, 0, 64, 192, 511, 1023, 2047, 4095]
theorem spec_l04Image.tab2 : rtab .any (opsOf Try.f72 2) = spec_l04Image.T2 := by kernel_rfl
theorem spec_l04Image.bits2 : waitsOk spec_l04Image.T2.2 spec_l04Image.B2 = true := by kernel_rfl
set_option maxHeartbeats 8000000 in
set_option maxRecDepth 100000 in
theorem spec_l04Image.calls (k : Nat) (a0_0 : Int) (a0_1 : Int) (a0_2 : Int) (a0_3 : Int) (a1_0 : Int) (a1_1 : Int) (a1_2 : Int) (r1 : Int) (r2 : Int) (r3 : Int) (w : World) (h : spec_l04Image.f k a0_0 a0_1 a0_2 a0_3 a1_0 a1_1 a1_2 = some (r1, r2, r3)) :
  Calls Try.prog 72 #[.agg #[.int .i64 a0_0, .int .i64 a0_1, .int .i64 a0_2, .int .i64 a0_3], .agg #[.int .i64 a1_0, .int .i64 a1_1, .int .i64 a1_2]] w fun e w' => e = .returned (.agg #[.int .i64 r1, .int .i64 r2, .int .i64 r3]) ∧ Below w.heap.size w w' := by
 have hu44 := Try.underlying44
 have hu29 := Try.underlying29
 have hu46 := Try.underlying46
 have HB := asd (Below.refl w.heap.size w)
 have H : ((spec_l03Basis.f a1_0 a1_1 a1_2).bind fun t246 => (if 0 < (t246.length : Int) then ((spec_l02Apply.f a0_0 a0_1 a0_2 a0_3 ((rd_T46 t246 0).f0) ((rd_T46 t246 0).f1)).bind fun bt250 => (if 1 < (t246.length : Int) then ((spec_l02Apply.f a0_0 a0_1 a0_2 a0_3 ((rd_T46 t246 1).f0) ((rd_T46 t246 1).f1)).bind fun bt253 => ((spec_l03Hermite.f k (([(⟨bt250.1, bt250.2⟩ : S46), (⟨bt253.1, bt253.2⟩ : S46)] : List (S46)))).bind fun bt258 => (some (bt258.1, bt258.2.1, bt258.2.2)))) else (none))) else (none))) = some (r1, r2, r3) := h
 clear h
 obtain ⟨t246, A3, H⟩ := ob H
 try dsimp only at H
 by_cases c4 : 0 < (t246.length : Int)
 ·rw [if_pos c4] at H
  have c4b0 := decide_eq_true c4
  have c4b1 : decide (0 < t246.length) = true := decide_eq_true (by omega)
  clear c4
  obtain ⟨⟨t250, t251⟩, A5, H⟩ := ob H
  try dsimp only at H
  by_cases c6 : 1 < (t246.length : Int)
  ·rw [if_pos c6] at H
   have c6b0 := decide_eq_true c6
   have c6b1 : decide (1 < t246.length) = true := decide_eq_true (by omega)
   clear c6
   obtain ⟨⟨t253, t254⟩, A7, H⟩ := ob H
   try dsimp only at H
   obtain ⟨y255, hy255⟩ : ∃ y_ : List (S46), y_ = (([(⟨t250, t251⟩ : S46), (⟨t253, t254⟩ : S46)] : List (S46))) := ⟨_, rfl⟩
   replace H : ((spec_l03Hermite.f k y255).bind fun bt258 => (some (bt258.1, bt258.2.1, bt258.2.2))) = some (r1, r2, r3) := by first | (rw [hy255]; with_reducible exact H) | (have H2_ := (Option.bind_some _ _).symm.trans H; rw [hy255]; with_reducible exact H2_) | (have H2_ := (Option.bind_some _ _).symm.trans H; with_reducible exact H2_) | with_reducible exact H | (rw [hy255]; exact H) | exact H
   have Ny255 := Aside0.mk hy255
   clear hy255
   obtain ⟨⟨t258, t259, t260⟩, A8, H⟩ := ob H
   try dsimp only at H
   simp only [Option.some.injEq, Prod.mk.injEq] at H
   obtain ⟨rfl, rfl, rfl⟩ := H
   go_enter Try.func72, Try.ntmps72
   try go_wp2_with (first | ((with_reducible refine gd 2 rfl ?_); refine bx #[.int .i64 a0_0, .int .i64 a0_1, .int .i64 a0_2, .int .i64 a0_3] 44 ?_; intro gb243 hg w9 BK243 hb; have GE243 := ngw0 hg HB; replace HB := bS0 HB hb; clear hb hg) | ((with_reducible refine gd 3 rfl ?_); refine bx #[.int .i64 a1_0, .int .i64 a1_1, .int .i64 a1_2] 29 ?_; intro gb244 hg w10 BK244 hb; have GE244 := ngw1 hg HB GE243; replace HB := bS1 HB GE243 hb; have NB243_244 := nlt hg BK243; have NB244_243 := nsy (nlt hg BK243); replace BK243 := bB BK243 hb; clear hb hg) | ((with_reducible refine gd 4 rfl ?_); refine bx #[.int .i64 0, .int .i64 0, .int .i64 0] 29 ?_; intro gb245 hg w11 BK245 hb; have GE245 := ngw2 hg HB GE243 GE244; replace HB := bS2 HB GE243 GE244 hb; have NB243_245 := nlt hg BK243; have NB245_243 := nsy (nlt hg BK243); replace BK243 := bB BK243 hb; have NB244_245 := nlt hg BK244; have NB245_244 := nsy (nlt hg BK244); replace BK244 := bB BK244 hb; clear hb hg; have hnb12 := NB244_243.out; have hnc12 := NB243_244.out; have hnb13 := NB244_245.out; have hnc13 := NB245_244.out; obtain ⟨hcz14_0, hcz14_1, hcz14_2, hfz14_0, hfz14_1, hfz14_2⟩ := bz3 BK244) | ((with_reducible refine gate_callee (f := 59) rfl ?_); refine gl 7 Try.func59 #[.agg #[.int .i64 a1_0, .int .i64 a1_1, .int .i64 a1_2]] ?_; (with_reducible refine (spec_l03Basis.calls _ _ _ _ _ A3.out).mono ?_); rintro e w15 ⟨v247, rfl, ho0, hb⟩; refine ⟨_, rfl, ?_⟩; have HO248 := asd (Kd.R_lower ho0 (bsz3 HB GE243 GE244 GE245)); replace BK243 := bB BK243 hb; replace BK244 := bB BK244 hb; replace BK245 := bB BK245 hb; replace HB := bS3 HB GE243 GE244 GE245 hb; (try clear hb); (try clear hb2); (try clear hk); (try clear hi); (try clear ho0)))
   replace HO248 := asd (Kd.R_drew HO248.out)
   replace BK243 := asd (blk_drew BK243.out)
   replace BK244 := asd (blk_drew BK244.out)
   replace BK245 := asd (blk_drew BK245.out)
   replace HB := asd (below_drew1 HB.out)
   obtain ⟨Ao17, co17, eo17⟩ := Kd.R_slice HO248.out
   (first | subst eo17 | (injection eo17 with f1_ f2_ f3_; have f4_ := f1_.symm; have f5_ := f3_.symm; clear f1_ f2_ f3_; subst f4_; subst f5_))
   have p249 : 0 ≤ (0 : Int) := (by omega)
   have q249 : 0 < (t246.length : Int) := od
   obtain ⟨ad249, e249, hx249_0, hx249_1⟩ := at_T46 (Kd.R_reads' HO248.out).2.2 0 p249 q249
   cases e249
   have qi249 : (0 < t246.length) = True := eq_true (by omega)
   (try rw [show ((0 : Int)).toNat = 0 from rfl] at hx249_0)
   (try rw [show 0 * 2 = 0 from rfl] at hx249_0)
   (try rw [Addr.add_zero'] at hx249_0)
   (try rw [show ((0 : Int)).toNat = 0 from rfl] at hx249_1)
   (try rw [show 0 * 2 = 0 from rfl] at hx249_1)
   (try rw [Addr.add_zero'] at hx249_1)
   replace p249 := eq_true p249
   replace q249 := eq_true q249
   have p252 : 0 ≤ (1 : Int) := (by omega)
   have q252 : 1 < (t246.length : Int) := od
   obtain ⟨ad252, e252, hx252_0, hx252_1⟩ := at_T46 (Kd.R_reads' HO248.out).2.2 1 p252 q252
   obtain rfl : ad249 = ad252 := (by injection e252)
   (try simp only [show (1 : Int).toNat = 1 from rfl, Nat.reduceMul, Nat.reduceEqDiff, Go.Addr.add, ↓reduceIte] at hx252_0)
   (try simp only [show (1 : Int).toNat = 1 from rfl, Nat.reduceMul, Nat.reduceEqDiff, Go.Addr.add, ↓reduceIte] at hx252_1)
   have qi252 : (1 < t246.length) = True := eq_true (by omega)
   (try rw [show ((1 : Int)).toNat = 1 from rfl] at hx252_0)
   (try rw [show 1 * 2 = 2 from rfl] at hx252_0)
   (try rw [show ((1 : Int)).toNat = 1 from rfl] at hx252_1)
   (try rw [show 1 * 2 = 2 from rfl] at hx252_1)
   replace p252 := eq_true p252
   replace q252 := eq_true q252
   refine sh 13 (cb4 BK243 (c1 hx249_0 (c1 hx249_1 (c1 hx252_0 (e1 hx252_1))))) (fun hHeld => ?_); refine with_tabW spec_l04Image.tab2 spec_l04Image.bits2 (fun HT_ HW_ => ?_)
   generalize w15.drew = w16 at HO248 BK243 BK244 BK245 HB hx249_0 hx249_1 hx252_0 hx252_1 hHeld ⊢
   refine pu 1 (some 9) (bs 13 2) HT_ ?_
   refine pu 2 (some 10) (bs 13 6) HT_ ?_
   refine pu 6 (some 14) (bs 13 70) HT_ ?_
   refine pu 7 (some 15) (bs 13 198) HT_ ?_
   refine ta 0 (some 8) (bs 13 199) HT_ HW_ hHeld ?_
   refine ta 3 (some 11) (bs 13 207) HT_ HW_ hHeld ?_
   refine ta 5 (some 13) (bs 13 239) HT_ HW_ hHeld ?_
   refine ta 8 (some 16) (bs 13 495) HT_ HW_ hHeld ?_
   refine ro 4 (some 12) (bT 13 9) HT_ (fun K hK => ?_)
   refine gs Try.func79 #[.agg #[.int .i64 a0_0, .int .i64 a0_1, .int .i64 a0_2, .int .i64 a0_3], .agg #[.int .i64 ((rd_T46 t246 0).f0), .int .i64 ((rd_T46 t246 0).f1)]] ?_
   with_reducible refine (spec_l02Apply.calls _ _ _ _ _ _ _ _ _ A5.out).mono ?_
   rintro e w18 ⟨rfl, hb⟩
   have HS4_ := hbc hb (hHeld.2.2.2.2.1)
   have HS5_ := hbc hb (hHeld.2.2.2.2.2.1)
   have HS6_ := hbc hb (hHeld.2.2.2.2.2.2.1)
   have HS7_ := hbc hb (hHeld.2.2.2.2.2.2.2)
   refine ⟨_, rfl, ?_⟩
   replace HO248 := asd (Kd.R_below (kr HO248) hb)
   replace BK243 := bB BK243 hb
   replace BK244 := bB BK244 hb
   replace BK245 := bB BK245 hb
   replace HB := bS3 HB GE243 GE244 GE245 hb
   (try clear hb)
   (try clear hb2)
   (try clear hk)
   (try clear hi)
   refine hK.out _ _ ⟨bcl BK243 0, bcl BK243 1, bcl BK243 2, bcl BK243 3, HS4_, HS5_, HS6_, HS7_⟩ (fun hHeld => ?_)
   clear hK K
   refine norm_ (a' := ?_) ?_ ?_
   rotate_left
   ·show Act.put _ (some 12) _ = _
    simp only [Act.put, sA, sB, sC, i64_w, i32_w]
    rfl
   refine ro 9 (some 17) (bT 13 10) HT_ (fun K hK => ?_)
   refine gs Try.func79 #[.agg #[.int .i64 a0_0, .int .i64 a0_1, .int .i64 a0_2, .int .i64 a0_3], .agg #[.int .i64 ((rd_T46 t246 1).f0), .int .i64 ((rd_T46 t246 1).f1)]] ?_
   with_reducible refine (spec_l02Apply.calls _ _ _ _ _ _ _ _ _ A7.out).mono ?_
   rintro e w19 ⟨rfl, hb⟩
   have HS4_ := hbc hb (hHeld.2.2.2.2.1)
   have HS5_ := hbc hb (hHeld.2.2.2.2.2.1)
   have HS6_ := hbc hb (hHeld.2.2.2.2.2.2.1)
   have HS7_ := hbc hb (hHeld.2.2.2.2.2.2.2)
   refine ⟨_, rfl, ?_⟩
   replace HO248 := asd (Kd.R_below (kr HO248) hb)
   replace BK243 := bB BK243 hb
   replace BK244 := bB BK244 hb
   replace BK245 := bB BK245 hb
   replace HB := bS3 HB GE243 GE244 GE245 hb
   (try clear hb)
   (try clear hb2)
   (try clear hk)
   (try clear hi)
   refine hK.out _ _ ⟨bcl BK243 0, bcl BK243 1, bcl BK243 2, bcl BK243 3, HS4_, HS5_, HS6_, HS7_⟩ (fun hHeld => ?_)
   clear hK K
   refine norm_ (a' := ?_) ?_ ?_
   rotate_left
   ·show Act.put _ (some 17) _ = _
    simp only [Act.put, sA, sB, sC, i64_w, i32_w]
    rfl
   refine ro 10 (some 18) (bT 13 11) HT_ (fun K hK => ?_)
   refine Kd.R_lit_step k46 _ 46 ?hg (N := 18) ?hd (xs := ([(⟨t250, t251⟩ : S46), (⟨t253, t254⟩ : S46)] : List (S46))) (inner := [.int .i64 t250, .int .i64 t251, .int .i64 t253, .int .i64 t254]) (ok := fun _ => True) (okp := fun _ => True) ?hr ?hp (fun _ hk => hk) trivial (Below.refl _ _) (Nat.le_refl _) (by simp) ?_; (case hd => rfl); (case hg => rfl); (case hr => first | (go_simp; done) | (go_simp; rfl)); (case hp => exact (Reps.c2 (show Kd.M k46 _ _ _ (⟨t250, t251⟩ : S46) [.int .i64 t250, .int .i64 t251] from (k46_mkM _ _ _ (⟨t250, t251⟩ : S46) )) (Reps.c2 (show Kd.M k46 _ _ _ (⟨t253, t254⟩ : S46) [.int .i64 t253, .int .i64 t254] from (k46_mkM _ _ _ (⟨t253, t254⟩ : S46) )) (Reps.none _ _))))
   intro v256 w20 ho21 hb hg_ hnew_
   have HS4_ := hbc hb (hHeld.2.2.2.2.1)
   have HS5_ := hbc hb (hHeld.2.2.2.2.2.1)
   have HS6_ := hbc hb (hHeld.2.2.2.2.2.2.1)
   have HS7_ := hbc hb (hHeld.2.2.2.2.2.2.2)
   clear hg_ hnew_
   (first | rw [← Ny255.out] at ho21 | (simp only [Int.reduceToNat] at ho21; rw [← Ny255.out] at ho21))
   have HO257 := asd (Kd.R_lower (Kd.R_new' ho21 (Kd.R_lt (kr HO248))) (bsz3 HB GE243 GE244 GE245))
   replace HO248 := asd (Kd.R_elder' (kr HO248) (Kd.R_base ho21) hb)
   replace BK243 := bB BK243 hb
   replace BK244 := bB BK244 hb
   replace BK245 := bB BK245 hb
   replace HB := bS3 HB GE243 GE244 GE245 hb
   clear hb ho21
   obtain ⟨Ao22, co22, eo22⟩ := Kd.R_slice HO257.out
   (first | subst eo22 | (injection eo22 with f1_ f2_ f3_; have f4_ := f1_.symm; have f5_ := f3_.symm; clear f1_ f2_ f3_; subst f4_; subst f5_))
   refine hK.out _ _ ⟨bcl BK243 0, bcl BK243 1, bcl BK243 2, bcl BK243 3, HS4_, HS5_, HS6_, HS7_⟩ (fun hHeld => ?_)
   clear hK K
   refine norm_ (a' := ?_) ?_ ?_
   rotate_left
   ·show Act.put _ (some 18) _ = _
    simp only [Act.put, sA, sB, sC, i64_w, i32_w]
    rfl
   refine ro 11 (some 19) (bT 13 12) HT_ (fun K hK => ?_)
   refine gs Try.func94 #[.slice Ao22 y255.length co22] ?_
   with_reducible refine (spec_l03Hermite.calls _ _ _ _ _ _ _ _ ?side1 ?side2 A8.out).mono ?_
   (case side1 => exact ks (Kd.R_reads' HO257.out).2.2)
   (case side2 => exact (Kd.R_reads' HO257.out).2.1)
   rintro e w23 ⟨rfl, hb⟩
   have HS4_ := hbc hb (hHeld.2.2.2.2.1)
   have HS5_ := hbc hb (hHeld.2.2.2.2.2.1)
   have HS6_ := hbc hb (hHeld.2.2.2.2.2.2.1)
   have HS7_ := hbc hb (hHeld.2.2.2.2.2.2.2)
   refine ⟨_, rfl, ?_⟩
   replace HO248 := asd (Kd.R_below (kr HO248) hb)
   replace HO257 := asd (Kd.R_below (kr HO257) hb)
   replace BK243 := bB BK243 hb
   replace BK244 := bB BK244 hb
   replace BK245 := bB BK245 hb
   replace HB := bS3 HB GE243 GE244 GE245 hb
   (try clear hb)
   (try clear hb2)
   (try clear hk)
   (try clear hi)
   refine hK.out _ _ ⟨bcl BK243 0, bcl BK243 1, bcl BK243 2, bcl BK243 3, HS4_, HS5_, HS6_, HS7_⟩ (fun hHeld => ?_)
   clear hK K
   refine norm_ (a' := ?_) ?_ ?_
   rotate_left
   ·show Act.put _ (some 19) _ = _
    simp only [Act.put, sA, sB, sC, i64_w, i32_w]
    rfl
   refine ro 12 (none) (bT 13 13) HT_ (fun K hK => ?_)
   have hs24 : w23.cell? ⟨gb245, 0, none⟩ = some (.int .i64 0) := bcl BK245 0
   have hfs24 := blk_frozen BK245.out 0
   have hns24_0 := NB243_245.out
   have hns24_1 := NB244_245.out
   have hms24_0 := NB245_243.out
   have hms24_1 := NB245_244.out
   have hs25 : w23.cell? ⟨gb245, 1, none⟩ = some (.int .i64 0) := bcl BK245 1
   have hfs25 := blk_frozen BK245.out 1
   have hns25_0 := NB243_245.out
   have hns25_1 := NB244_245.out
   have hms25_0 := NB245_243.out
   have hms25_1 := NB245_244.out
   have hs26 : w23.cell? ⟨gb245, 2, none⟩ = some (.int .i64 0) := bcl BK245 2
   have hfs26 := blk_frozen BK245.out 2
   have hns26_0 := NB243_245.out
   have hns26_1 := NB244_245.out
   have hms26_0 := NB245_243.out
   have hms26_1 := NB245_244.out
   refine skip_ (w1 := ?_) (by rfl) rfl ?_ ?_
   rotate_left
   ·go_simp
    rfl
   refine hK.out _ _ ⟨(cf3 NB243_245 (hHeld.1)), (cf3 NB243_245 (hHeld.2.1)), (cf3 NB243_245 (hHeld.2.2.1)), (cf3 NB243_245 (hHeld.2.2.2.1)), (fx3 (Kd.own_blk (Kd.R_ne HO248.out BK245.out (by decide))) (hHeld.2.2.2.2.1)), (fx3 (Kd.own_blk (Kd.R_ne HO248.out BK245.out (by decide))) (hHeld.2.2.2.2.2.1)), (fx3 (Kd.own_blk (Kd.R_ne HO248.out BK245.out (by decide))) (hHeld.2.2.2.2.2.2.1)), (fx3 (Kd.own_blk (Kd.R_ne HO248.out BK245.out (by decide))) (hHeld.2.2.2.2.2.2.2))⟩ (fun hHeld => ?_)
   clear hK K
   refine done_ (done_of HT_.out (by kernel_rfl)) ?_
   try go_wp2
   refine bodyPost_ret (results_cell_row rfl _ _ gb245 29 #[.int .i64 t258, .int .i64 t259, .int .i64 t260] (0, 0) _ rfl (bq0 BK245) Try.underlying29 rfl (by kernel_rfl)) rfl ?_
   exact er (bbw3 HB GE243 GE244 GE245)
  ·rw [if_neg c6] at H
   exact absurd H (by simp)
 ·rw [if_neg c4] at H
  exact absurd H (by simp)

attribute [local go_sem high] eqA29
/-! ### spec_IsSuitable: function 42 -/
def spec_IsSuitable.f (k : Nat) (a0 : Int) (a1_0 : Int) (a1_1 : Int) (a1_2 : Int) (a2_0 : Int) (a2_1 : Int) (a2_2 : Int) (a2_3 : Int) (a2_4 : Int) (a2_5 : Int) : Option (Bool) := (spec_l04Code.f a0 a1_0 a1_1 a1_2).bind fun t263 => (if t263 = 0 then ((spec_IsPointMat.f a0 a2_0 a2_1 a2_2 a2_3).bind fun t264 => (if t264 = true then ((spec_l04Image.f k a2_0 a2_1 a2_2 a2_3 a1_0 a1_1 a1_2).bind fun bt265 => (if (bt265.1 == a1_0 && (bt265.2.1 == a1_1 && (bt265.2.2 == a1_2))) = true then ((spec_IsVec.f a2_4 a2_5).bind fun t268 => (some t268)) else (some false))) else (some false))) else (some false))
def spec_IsSuitable.T1 : Bool × List (List Nat × List Nat) := (true, [([], []), ([], []), ([0, 1], [0, 1]), ([2], [2]), ([3, 2], [3]), ([4], [4]), ([4], [4]), ([6, 4], [4, 6]), ([5, 7, 4, 4], [4, 5, 7]), ([4, 8], [4, 8]), ([9, 8], [9]), ([10], [10]), ([11, 10], [10, 11]), ([10], [10]), ([12, 13, 10, 10], [10, 12, 13]), ([10], [10]), ([14, 15, 10], [10, 14, 15]), ([10, 16], [10, 16]), ([17, 14], [17]), ([18], [18]), ([19, 18], [18, 19]), ([20, 18, 18], [18, 20]), ([18, 21], [18, 21]), ([22, 21, 0, 1, 2, 3, 4, 5, 6, 7, 8, 9, 10, 11, 12, 13, 14, 15, 16, 17, 18, 19, 20, 21, 22], [22])])
def spec_IsSuitable.B1 : List Nat := [0, 0, 3, 7, 15, 31, 31, 95, 255, 511, 1023, 2047, 4095, 2047, 16383, 2047, 65535, 131071, 262143, 524287, 1048575, 2097151, 4194303, 8388607]
theorem spec_IsSuitable.tab1 : rtab .any (opsOf Try.f42 1) = spec_IsSuitable.T1 := by kernel_rfl
theorem spec_IsSuitable.bits1 : waitsOk spec_IsSuitable.T1.2 spec_IsSuitable.B1 = true := by kernel_rfl
set_option maxHeartbeats 8000000 in
set_option maxRecDepth 100000 in
theorem spec_IsSuitable.calls (k : Nat) (a0 : Int) (a1_0 : Int) (a1_1 : Int) (a1_2 : Int) (a2_0 : Int) (a2_1 : Int) (a2_2 : Int) (a2_3 : Int) (a2_4 : Int) (a2_5 : Int) (r : Bool) (w : World) (h : spec_IsSuitable.f k a0 a1_0 a1_1 a1_2 a2_0 a2_1 a2_2 a2_3 a2_4 a2_5 = some r) :
  Calls Try.prog 42 #[.int .i64 a0, .agg #[.int .i64 a1_0, .int .i64 a1_1, .int .i64 a1_2], .agg #[.int .i64 a2_0, .int .i64 a2_1, .int .i64 a2_2, .int .i64 a2_3, .int .i64 a2_4, .int .i64 a2_5]] w fun e w' => e = .returned (.bool r) ∧ Below w.heap.size w w' := by
 have hu29 := Try.underlying29
 have hu48 := Try.underlying48
 have hu44 := Try.underlying44
 have hu46 := Try.underlying46
 have HB := asd (Below.refl w.heap.size w)
 have H : ((spec_l04Code.f a0 a1_0 a1_1 a1_2).bind fun t263 => (if t263 = 0 then ((spec_IsPointMat.f a0 a2_0 a2_1 a2_2 a2_3).bind fun t264 => (if t264 = true then ((spec_l04Image.f k a2_0 a2_1 a2_2 a2_3 a1_0 a1_1 a1_2).bind fun bt265 => (if (bt265.1 == a1_0 && (bt265.2.1 == a1_1 && (bt265.2.2 == a1_2))) = true then ((spec_IsVec.f a2_4 a2_5).bind fun t268 => (some t268)) else (some false))) else (some false))) else (some false))) = some r := h
 clear h
 obtain ⟨t263, A4, H⟩ := ob H
 try dsimp only at H
 by_cases c5 : t263 = 0
 rw [if_pos c5] at H
 have c5b0 : (t263 == 0) = true := beq_iff_eq.mpr c5
 have c5b1 : (t263 != 0) = false := bne_eq_false_iff_eq.mpr c5
 clear c5
 obtain ⟨t264, A6, H⟩ := ob H
 try dsimp only at H
 by_cases c7 : t264 = true
 subst c7
 replace H := ifT H
 obtain ⟨⟨t265, t266, t267⟩, A8, H⟩ := ob H
 try dsimp only at H
 by_cases c9 : (t265 == a1_0 && (t266 == a1_1 && (t267 == a1_2))) = true
 rw [if_pos c9] at H
 have c9b0 := c9
 (try (have c9b1 : decide (t265 = a1_0 && (t266 == a1_1 && (t267 == a1_2))) = true := by simpa using c9))
 (try (have c9b2 : (t265 == a1_0 && (t266 == a1_1 && (t267 == a1_2))) = true := by simpa using c9))
 clear c9
 obtain ⟨t268, A10, H⟩ := ob H
 try dsimp only at H
 obtain rfl := Option.some.inj H
 rotate_left
 rw [if_neg c9] at H
 have c9b0 : (t265 == a1_0 && (t266 == a1_1 && (t267 == a1_2))) = false := by simpa using c9
 (try (have c9b1 : decide (t265 = a1_0 && (t266 == a1_1 && (t267 == a1_2))) = false := by simpa using c9))
 (try (have c9b2 : (t265 == a1_0 && (t266 == a1_1 && (t267 == a1_2))) = false := by simpa using c9))
 (try (have c9b3 : ¬ (t265 = a1_0 && (t266 == a1_1 && (t267 == a1_2))) := by simpa using c9))
 clear c9
 obtain rfl := Option.some.inj H
 rotate_left
 replace c7 := Bool.eq_false_iff.mpr c7
 subst c7
 replace H := ifF H
 obtain rfl := Option.some.inj H
 rotate_left
 rw [if_neg c5] at H
 have c5b0 : (t263 == 0) = false := beq_eq_false_iff_ne.mpr c5
 have c5b1 : (t263 != 0) = true := bne_iff_ne.mpr c5
 obtain rfl := Option.some.inj H
 rotate_left
 all_goals
  go_enter Try.func42, Try.ntmps42
  try go_wp2_with (first | ((with_reducible refine gd 4 rfl ?_); refine bx #[.int .i64 a1_0, .int .i64 a1_1, .int .i64 a1_2] 29 ?_; intro gb261 hg w11 BK261 hb; have GE261 := ngw0 hg HB; replace HB := bS0 HB hb; clear hb hg) | ((with_reducible refine gd 5 rfl ?_); refine bx #[.int .i64 a2_0, .int .i64 a2_1, .int .i64 a2_2, .int .i64 a2_3, .int .i64 a2_4, .int .i64 a2_5] 48 ?_; intro gb262 hg w12 BK262 hb; have GE262 := ngw1 hg HB GE261; replace HB := bS1 HB GE261 hb; have NB261_262 := nlt hg BK261; have NB262_261 := nsy (nlt hg BK261); replace BK261 := bB BK261 hb; clear hb hg))
  replace BK261 := asd (blk_drew BK261.out)
  replace BK262 := asd (blk_drew BK262.out)
  replace HB := asd (below_drew1 HB.out)
 refine sh 24 (cb3 BK261 (eb6 BK262)) (fun hHeld => ?_); refine with_tabW spec_IsSuitable.tab1 spec_IsSuitable.bits1 (fun HT_ HW_ => ?_)
 rotate_left
 refine sh 24 (cb3 BK261 (eb6 BK262)) (fun hHeld => ?_); refine with_tabW spec_IsSuitable.tab1 spec_IsSuitable.bits1 (fun HT_ HW_ => ?_)
 rotate_left
 refine sh 24 (cb3 BK261 (eb6 BK262)) (fun hHeld => ?_); refine with_tabW spec_IsSuitable.tab1 spec_IsSuitable.bits1 (fun HT_ HW_ => ?_)
 rotate_left
 refine sh 24 (eb3 BK261) (fun hHeld => ?_); refine with_tabW spec_IsSuitable.tab1 spec_IsSuitable.bits1 (fun HT_ HW_ => ?_)
 rotate_left
 all_goals
  generalize w12.drew = w13 at BK261 BK262 HB hHeld ⊢
  refine pu 0 (some 7) (bT 24 1) HT_ ?_
  refine ta 1 (some 8) (bT 24 2) HT_ HW_ hHeld ?_
  refine ro 2 (some 9) (bT 24 3) HT_ (fun K hK => ?_)
  refine gs Try.func41 #[.int .i64 a0, .agg #[.int .i64 a1_0, .int .i64 a1_1, .int .i64 a1_2]] ?_
  with_reducible refine (spec_l04Code.calls _ _ _ _ _ _ A4.out).mono ?_
  rintro e w14 ⟨rfl, hb⟩
  refine ⟨_, rfl, ?_⟩
  replace BK261 := bB BK261 hb
  replace BK262 := bB BK262 hb
  replace HB := bS2 HB GE261 GE262 hb
  (try clear hb)
  (try clear hb2)
  (try clear hk)
  (try clear hi)
 rotate_left 3
 ·refine hK.out _ _ (eb3 BK261).out (fun hHeld => ?_)
  clear hK K
  refine norm_ (a' := ?_) ?_ ?_
  rotate_left
  ·show Act.put _ (some 9) _ = _
   simp only [Act.put, sA, sB, sC, i64_w, i32_w]
   rfl
  refine pu 3 (some 10) (bT 24 4) HT_ ?_
  refine pu 4 (some 11) (bT 24 5) HT_ ?_
  refine pf 5 (some 12) (bT 24 6) HT_ ?_
  refine pf 6 (some 13) (bT 24 7) HT_ ?_
  refine pf 7 (some 14) (bT 24 8) HT_ ?_
  refine pf 8 (some 15) (bT 24 9) HT_ ?_
  refine pu 9 (some 16) (bT 24 10) HT_ ?_
  refine pu 10 (some 17) (bT 24 11) HT_ ?_
  refine pf 11 (some 18) (bT 24 12) HT_ ?_
  refine pf 12 (some 19) (bT 24 13) HT_ ?_
  refine pf 13 (some 20) (bT 24 14) HT_ ?_
  refine pf 14 (some 21) (bT 24 15) HT_ ?_
  refine pf 15 (some 22) (bT 24 16) HT_ ?_
  refine pf 16 (some 23) (bT 24 17) HT_ ?_
  refine pu 17 (some 24) (bT 24 18) HT_ ?_
  refine pu 18 (some 25) (bT 24 19) HT_ ?_
  refine pf 19 (some 26) (bT 24 20) HT_ ?_
  refine pf 20 (some 27) (bT 24 21) HT_ ?_
  refine pf 21 (some 28) (bT 24 22) HT_ ?_
  refine pu 22 (some 29) (bT 24 23) HT_ ?_
  refine pu 23 (some 6) (bT 24 24) HT_ ?_
  refine done_ (done_of HT_.out (by kernel_rfl)) ?_
  try go_wp2
  go_ret
  exact er (bbw2 HB GE261 GE262)
 all_goals
  refine hK.out _ _ (cb3 BK261 (eb6 BK262)).out (fun hHeld => ?_)
  clear hK K
  refine norm_ (a' := ?_) ?_ ?_
  rotate_left
  ·show Act.put _ (some 9) _ = _
   simp only [Act.put, sA, sB, sC, i64_w, i32_w]
   rfl
  refine pu 3 (some 10) (bT 24 4) HT_ ?_
  refine pu 4 (some 11) (bT 24 5) HT_ ?_
  refine pu 5 (some 12) (bT 24 6) HT_ ?_
  refine pu 6 (some 13) (bT 24 7) HT_ ?_
  refine ta 7 (some 14) (bT 24 8) HT_ HW_ hHeld ?_
  refine ro 8 (some 15) (bT 24 9) HT_ (fun K hK => ?_)
  refine gs Try.func71 #[.int .i64 a0, .agg #[.int .i64 a2_0, .int .i64 a2_1, .int .i64 a2_2, .int .i64 a2_3]] ?_
  with_reducible refine (spec_IsPointMat.calls _ _ _ _ _ _ _ A6.out).mono ?_
  rintro e w15 ⟨rfl, hb⟩
  refine ⟨_, rfl, ?_⟩
  replace BK261 := bB BK261 hb
  replace BK262 := bB BK262 hb
  replace HB := bS2 HB GE261 GE262 hb
  (try clear hb)
  (try clear hb2)
  (try clear hk)
  (try clear hi)
  refine hK.out _ _ (cb3 BK261 (eb6 BK262)).out (fun hHeld => ?_)
  clear hK K
  refine norm_ (a' := ?_) ?_ ?_
  rotate_left
  ·show Act.put _ (some 15) _ = _
   simp only [Act.put, sA, sB, sC, i64_w, i32_w]
   rfl
  refine pu 9 (some 16) (bT 24 10) HT_ ?_
  refine pu 10 (some 17) (bT 24 11) HT_ ?_
 rotate_left 2
 ·refine pf 11 (some 18) (bT 24 12) HT_ ?_
  refine pf 12 (some 19) (bT 24 13) HT_ ?_
  refine pf 13 (some 20) (bT 24 14) HT_ ?_
  refine pf 14 (some 21) (bT 24 15) HT_ ?_
  refine pf 15 (some 22) (bT 24 16) HT_ ?_
  refine pf 16 (some 23) (bT 24 17) HT_ ?_
  refine pu 17 (some 24) (bT 24 18) HT_ ?_
  refine pu 18 (some 25) (bT 24 19) HT_ ?_
  refine pf 19 (some 26) (bT 24 20) HT_ ?_
  refine pf 20 (some 27) (bT 24 21) HT_ ?_
  refine pf 21 (some 28) (bT 24 22) HT_ ?_
  refine pu 22 (some 29) (bT 24 23) HT_ ?_
  refine pu 23 (some 6) (bT 24 24) HT_ ?_
  refine done_ (done_of HT_.out (by kernel_rfl)) ?_
  try go_wp2
  go_ret
  exact er (bbw2 HB GE261 GE262)
 all_goals
  refine pu 11 (some 18) (bT 24 12) HT_ ?_
  refine ta 12 (some 19) (bT 24 13) HT_ HW_ hHeld ?_
  refine ta 13 (some 20) (bT 24 14) HT_ HW_ hHeld ?_
  refine ta 15 (some 22) (bs 24 49151) HT_ HW_ hHeld ?_
  refine ro 14 (some 21) (bT 24 16) HT_ (fun K hK => ?_)
  refine gs Try.func72 #[.agg #[.int .i64 a2_0, .int .i64 a2_1, .int .i64 a2_2, .int .i64 a2_3], .agg #[.int .i64 a1_0, .int .i64 a1_1, .int .i64 a1_2]] ?_
  with_reducible refine (spec_l04Image.calls _ _ _ _ _ _ _ _ _ _ _ _ A8.out).mono ?_
  rintro e w16 ⟨rfl, hb⟩
  refine ⟨_, rfl, ?_⟩
  replace BK261 := bB BK261 hb
  replace BK262 := bB BK262 hb
  replace HB := bS2 HB GE261 GE262 hb
  (try clear hb)
  (try clear hb2)
  (try clear hk)
  (try clear hi)
  refine hK.out _ _ (cb3 BK261 (eb6 BK262)).out (fun hHeld => ?_)
  clear hK K
  refine norm_ (a' := ?_) ?_ ?_
  rotate_left
  ·show Act.put _ (some 21) _ = _
   simp only [Act.put, sA, sB, sC, i64_w, i32_w]
   rfl
  refine pu 16 (some 23) (bT 24 17) HT_ ?_
  refine pu 17 (some 24) (bT 24 18) HT_ ?_
  refine pu 18 (some 25) (bT 24 19) HT_ ?_
 focus
  refine pu 19 (some 26) (bT 24 20) HT_ ?_
  refine ta 20 (some 27) (bT 24 21) HT_ HW_ hHeld ?_
  refine ro 21 (some 28) (bT 24 22) HT_ (fun K hK => ?_)
  refine gs Try.func73 #[.agg #[.int .i64 a2_4, .int .i64 a2_5]] ?_
  with_reducible refine (spec_IsVec.calls _ _ _ _ A10.out).mono ?_
  rintro e w17 ⟨rfl, hb⟩
  refine ⟨_, rfl, ?_⟩
  replace BK261 := bB BK261 hb
  replace BK262 := bB BK262 hb
  replace HB := bS2 HB GE261 GE262 hb
  (try clear hb)
  (try clear hb2)
  (try clear hk)
  (try clear hi)
  refine hK.out _ _ (cb3 BK261 (eb6 BK262)).out (fun hHeld => ?_)
  clear hK K
  refine norm_ (a' := ?_) ?_ ?_
  rotate_left
  ·show Act.put _ (some 28) _ = _
   simp only [Act.put, sA, sB, sC, i64_w, i32_w]
   rfl
  refine pu 22 (some 29) (bT 24 23) HT_ ?_
 rotate_left
 refine pf 19 (some 26) (bT 24 20) HT_ ?_
 refine pf 20 (some 27) (bT 24 21) HT_ ?_
 refine pf 21 (some 28) (bT 24 22) HT_ ?_
 refine pu 22 (some 29) (bT 24 23) HT_ ?_
 rotate_left
 all_goals
  refine pu 23 (some 6) (bT 24 24) HT_ ?_
  refine done_ (done_of HT_.out (by kernel_rfl)) ?_
  try go_wp2
  go_ret
  exact er (bbw2 HB GE261 GE262)
/-! ### spec_l03Reduce: function 74 -/
def spec_l03Reduce.f (a0_0 : Int) (a0_1 : Int) (a0_2 : Int) (a1_0 : Int) (a1_1 : Int) : Option (Int × Int) := (spec_l01Mod.f a1_1 a0_2).bind fun t272 => (if a0_2 = 0 then (none) else ((spec_l01Mod.f (wrap64 (a1_0 - (wrap64 ((wrap64 (Int.tdiv (wrap64 (a1_1 - t272)) a0_2)) * a0_1)))) a0_0).bind fun t273 => (some (t273, t272))))
set_option maxHeartbeats 8000000 in
set_option maxRecDepth 100000 in
theorem spec_l03Reduce.calls (a0_0 : Int) (a0_1 : Int) (a0_2 : Int) (a1_0 : Int) (a1_1 : Int) (r1 : Int) (r2 : Int) (w : World) (h : spec_l03Reduce.f a0_0 a0_1 a0_2 a1_0 a1_1 = some (r1, r2)) :
  Calls Try.prog 74 #[.agg #[.int .i64 a0_0, .int .i64 a0_1, .int .i64 a0_2], .agg #[.int .i64 a1_0, .int .i64 a1_1]] w fun e w' => e = .returned (.agg #[.int .i64 r1, .int .i64 r2]) ∧ Below w.heap.size w w' := by
 have hu29 := Try.underlying29
 have hu46 := Try.underlying46
 have HB := asd (Below.refl w.heap.size w)
 have H : ((spec_l01Mod.f a1_1 a0_2).bind fun t272 => (if a0_2 = 0 then (none) else ((spec_l01Mod.f (wrap64 (a1_0 - (wrap64 ((wrap64 (Int.tdiv (wrap64 (a1_1 - t272)) a0_2)) * a0_1)))) a0_0).bind fun t273 => (some (t273, t272))))) = some (r1, r2) := h
 clear h
 obtain ⟨t272, A3, H⟩ := ob H
 try dsimp only at H
 by_cases c4 : a0_2 = 0
 ·rw [if_pos c4] at H
  exact absurd H (by simp)
 ·rw [if_neg c4] at H
  have c4b0 : (a0_2 == 0) = false := beq_eq_false_iff_ne.mpr c4
  have c4b1 : (a0_2 != 0) = true := bne_iff_ne.mpr c4
  obtain ⟨t273, A5, H⟩ := ob H
  try dsimp only at H
  simp only [Option.some.injEq, Prod.mk.injEq] at H
  obtain ⟨rfl, rfl⟩ := H
  go_enter Try.func74, Try.ntmps74
  go_wp2_with (first | ((with_reducible refine gd 2 rfl ?_); refine bx #[.int .i64 a0_0, .int .i64 a0_1, .int .i64 a0_2] 29 ?_; intro gb269 hg w6 BK269 hb; have GE269 := ngw0 hg HB; replace HB := bS0 HB hb; clear hb hg) | ((with_reducible refine gd 3 rfl ?_); refine bx #[.int .i64 a1_0, .int .i64 a1_1] 46 ?_; intro gb270 hg w7 BK270 hb; have GE270 := ngw1 hg HB GE269; replace HB := bS1 HB GE269 hb; have NB269_270 := nlt hg BK269; have NB270_269 := nsy (nlt hg BK269); replace BK269 := bB BK269 hb; clear hb hg) | ((with_reducible refine gd 4 rfl ?_); refine bx #[.int .i64 0, .int .i64 0] 46 ?_; intro gb271 hg w8 BK271 hb; have GE271 := ngw2 hg HB GE269 GE270; replace HB := bS2 HB GE269 GE270 hb; have NB269_271 := nlt hg BK269; have NB271_269 := nsy (nlt hg BK269); replace BK269 := bB BK269 hb; have NB270_271 := nlt hg BK270; have NB271_270 := nsy (nlt hg BK270); replace BK270 := bB BK270 hb; clear hb hg; have hnb9 := NB270_269.out; have hnc9 := NB269_270.out; have hnb10 := NB270_271.out; have hnc10 := NB271_270.out; obtain ⟨hcz11_0, hcz11_1, hfz11_0, hfz11_1⟩ := bz2 BK270; have hnb12 := NB269_271.out; have hnc12 := NB271_269.out; obtain ⟨hcz13_0, hcz13_1, hcz13_2, hfz13_0, hfz13_1, hfz13_2⟩ := bz3 BK269) | ((with_reducible refine gate_callee (f := 90) rfl ?_); refine gl 11 Try.func90 #[.int .i64 a1_1, .int .i64 a0_2] ?_; (with_reducible refine (spec_l01Mod.calls _ _ _ _ A3.out).mono ?_); rintro e w' ⟨rfl, ⟨nd, rfl⟩⟩; refine ⟨_, rfl, ?_⟩; (try (rw [drewN_self w8]; generalize hq_ : World.drewN w8 _ = w8; have n0_ : Aside0 (w8.heap[gb269]? = some (.cells #[.int .i64 a0_0, .int .i64 a0_1, .int .i64 a0_2] 29 (0, 0))) := ⟨by rw [← hq_]; exact (bkp BK269)⟩; have n1_ : Aside0 (w8.heap[gb270]? = some (.cells #[.int .i64 a1_0, .int .i64 a1_1] 46 (0, 0))) := ⟨by rw [← hq_]; exact (bkp BK270)⟩; have n2_ : Aside0 (w8.heap[gb271]? = some (.cells #[.int .i64 0, .int .i64 0] 46 (0, 0))) := ⟨by rw [← hq_]; exact (bkp BK271)⟩; have n3_ : Aside0 (Below w.heap.size w w8) := ⟨by rw [← hq_]; exact (bbw3 HB GE269 GE270 GE271)⟩; clear BK269 BK270 BK271 HB hq_; have BK269 := n0_; have BK270 := n1_; have BK271 := n2_; have HB := n3_; clear n0_ n1_ n2_ n3_)); have hcz14_0 : w8.cell? ⟨gb270, 0, none⟩ = some (.int .i64 a1_0) := bcl BK270 0; have hcz14_1 : w8.cell? ⟨gb270, 1, none⟩ = some (.int .i64 a1_1) := bcl BK270 1; have hfz14_0 := blk_frozen BK270.out 0; have hfz14_1 := blk_frozen BK270.out 1; have hcz15_0 : w8.cell? ⟨gb269, 0, none⟩ = some (.int .i64 a0_0) := bcl BK269 0; have hcz15_1 : w8.cell? ⟨gb269, 1, none⟩ = some (.int .i64 a0_1) := bcl BK269 1; have hcz15_2 : w8.cell? ⟨gb269, 2, none⟩ = some (.int .i64 a0_2) := bcl BK269 2; have hfz15_0 := blk_frozen BK269.out 0; have hfz15_1 := blk_frozen BK269.out 1; have hfz15_2 := blk_frozen BK269.out 2) | ((with_reducible refine gate_callee (f := 90) rfl ?_); refine gl 28 Try.func90 #[.int .i64 (wrap64 (a1_0 - (wrap64 ((wrap64 (Int.tdiv (wrap64 (a1_1 - t272)) a0_2)) * a0_1)))), .int .i64 a0_0] ?_; (with_reducible refine (spec_l01Mod.calls _ _ _ _ A5.out).mono ?_); rintro e w' ⟨rfl, ⟨nd, rfl⟩⟩; refine ⟨_, rfl, ?_⟩; (try (rw [drewN_self w8]; generalize hq_ : World.drewN w8 _ = w8; have n0_ : Aside0 (w8.heap[gb269]? = some (.cells #[.int .i64 a0_0, .int .i64 a0_1, .int .i64 a0_2] 29 (0, 0))) := ⟨by rw [← hq_]; exact (bkp BK269)⟩; have n1_ : Aside0 (w8.heap[gb270]? = some (.cells #[.int .i64 a1_0, .int .i64 a1_1] 46 (0, 0))) := ⟨by rw [← hq_]; exact (bkp BK270)⟩; have n2_ : Aside0 (w8.heap[gb271]? = some (.cells #[.int .i64 0, .int .i64 0] 46 (0, 0))) := ⟨by rw [← hq_]; exact (bkp BK271)⟩; have n3_ : Aside0 (Below w.heap.size w w8) := ⟨by rw [← hq_]; exact (bbw3 HB GE269 GE270 GE271)⟩; clear BK269 BK270 BK271 HB hq_; have BK269 := n0_; have BK270 := n1_; have BK271 := n2_; have HB := n3_; clear n0_ n1_ n2_ n3_)); have hcz16_0 : w8.cell? ⟨gb271, 0, none⟩ = some (.int .i64 0) := bcl BK271 0; have hcz16_1 : w8.cell? ⟨gb271, 1, none⟩ = some (.int .i64 0) := bcl BK271 1; have hfz16_0 := blk_frozen BK271.out 0; have hfz16_1 := blk_frozen BK271.out 1))
  refine bodyPost_ret (results_cell_row rfl _ _ gb271 46 #[.int .i64 t273, .int .i64 t272] (0, 0) _ rfl (bq0 BK271) Try.underlying46 rfl (by kernel_rfl)) rfl ?_
  exact er (bbw3 HB GE269 GE270 GE271)
/-! ### spec_l06Reduce: function 43 -/
def spec_l06Reduce.f (a0_0 : Int) (a0_1 : Int) (a0_2 : Int) (a1_0 : Int) (a1_1 : Int) (a1_2 : Int) (a1_3 : Int) (a1_4 : Int) (a1_5 : Int) : Option (Int × Int × Int × Int × Int × Int) := (spec_l03Reduce.f a0_0 a0_1 a0_2 a1_4 a1_5).bind fun bt277 => (some (a1_0, a1_1, a1_2, a1_3, bt277.1, bt277.2))
def spec_l06Reduce.T1 : Bool × List (List Nat × List Nat) := (true, [([], []), ([0], [0]), ([], []), ([], []), ([3], [3]), ([2, 4], [2, 4]), ([1, 5], [1, 5]), ([6, 5, 0, 1, 2, 3, 4, 5, 6], [6])])
def spec_l06Reduce.B1 : List Nat := [0, 1, 0, 0, 8, 28, 63, 127]
theorem spec_l06Reduce.tab1 : rtab .any (opsOf Try.f43 1) = spec_l06Reduce.T1 := by kernel_rfl
theorem spec_l06Reduce.bits1 : waitsOk spec_l06Reduce.T1.2 spec_l06Reduce.B1 = true := by kernel_rfl
set_option maxHeartbeats 8000000 in
set_option maxRecDepth 100000 in
theorem spec_l06Reduce.calls (a0_0 : Int) (a0_1 : Int) (a0_2 : Int) (a1_0 : Int) (a1_1 : Int) (a1_2 : Int) (a1_3 : Int) (a1_4 : Int) (a1_5 : Int) (r1 : Int) (r2 : Int) (r3 : Int) (r4 : Int) (r5 : Int) (r6 : Int) (w : World) (h : spec_l06Reduce.f a0_0 a0_1 a0_2 a1_0 a1_1 a1_2 a1_3 a1_4 a1_5 = some (r1, r2, r3, r4, r5, r6)) :
  Calls Try.prog 43 #[.agg #[.int .i64 a0_0, .int .i64 a0_1, .int .i64 a0_2], .agg #[.int .i64 a1_0, .int .i64 a1_1, .int .i64 a1_2, .int .i64 a1_3, .int .i64 a1_4, .int .i64 a1_5]] w fun e w' => e = .returned (.agg #[.int .i64 r1, .int .i64 r2, .int .i64 r3, .int .i64 r4, .int .i64 r5, .int .i64 r6]) ∧ Below w.heap.size w w' := by
 have hu29 := Try.underlying29
 have hu48 := Try.underlying48
 have hu44 := Try.underlying44
 have hu46 := Try.underlying46
 have HB := asd (Below.refl w.heap.size w)
 have H : ((spec_l03Reduce.f a0_0 a0_1 a0_2 a1_4 a1_5).bind fun bt277 => (some (a1_0, a1_1, a1_2, a1_3, bt277.1, bt277.2))) = some (r1, r2, r3, r4, r5, r6) := h
 clear h
 obtain ⟨⟨t277, t278⟩, A3, H⟩ := ob H
 try dsimp only at H
 simp only [Option.some.injEq, Prod.mk.injEq] at H
 obtain ⟨rfl, rfl, rfl, rfl, rfl, rfl⟩ := H
 go_enter Try.func43, Try.ntmps43
 try go_wp2_with (first | ((with_reducible refine gd 2 rfl ?_); refine bx #[.int .i64 a0_0, .int .i64 a0_1, .int .i64 a0_2] 29 ?_; intro gb274 hg w4 BK274 hb; have GE274 := ngw0 hg HB; replace HB := bS0 HB hb; clear hb hg) | ((with_reducible refine gd 3 rfl ?_); refine bx #[.int .i64 a1_0, .int .i64 a1_1, .int .i64 a1_2, .int .i64 a1_3, .int .i64 a1_4, .int .i64 a1_5] 48 ?_; intro gb275 hg w5 BK275 hb; have GE275 := ngw1 hg HB GE274; replace HB := bS1 HB GE274 hb; have NB274_275 := nlt hg BK274; have NB275_274 := nsy (nlt hg BK274); replace BK274 := bB BK274 hb; clear hb hg) | ((with_reducible refine gd 4 rfl ?_); refine bx #[.int .i64 0, .int .i64 0, .int .i64 0, .int .i64 0, .int .i64 0, .int .i64 0] 48 ?_; intro gb276 hg w6 BK276 hb; have GE276 := ngw2 hg HB GE274 GE275; replace HB := bS2 HB GE274 GE275 hb; have NB274_276 := nlt hg BK274; have NB276_274 := nsy (nlt hg BK274); replace BK274 := bB BK274 hb; have NB275_276 := nlt hg BK275; have NB276_275 := nsy (nlt hg BK275); replace BK275 := bB BK275 hb; clear hb hg))
 replace BK274 := asd (blk_drew BK274.out)
 replace BK275 := asd (blk_drew BK275.out)
 replace BK276 := asd (blk_drew BK276.out)
 replace HB := asd (below_drew1 HB.out)
 refine sh 8 (cb6 BK275 (eb3 BK274)) (fun hHeld => ?_); refine with_tabW spec_l06Reduce.tab1 spec_l06Reduce.bits1 (fun HT_ HW_ => ?_)
 generalize w6.drew = w7 at BK274 BK275 BK276 HB hHeld ⊢
 refine pu 0 (some 5) (bT 8 1) HT_ ?_
 refine pu 3 (some 8) (bs 8 9) HT_ ?_
 refine ta 1 (some 6) (bs 8 11) HT_ HW_ hHeld ?_
 refine ta 2 (some 7) (bT 8 4) HT_ HW_ hHeld ?_
 refine ta 4 (some 9) (bT 8 5) HT_ HW_ hHeld ?_
 refine ro 5 (some 10) (bT 8 6) HT_ (fun K hK => ?_)
 refine gs Try.func74 #[.agg #[.int .i64 a0_0, .int .i64 a0_1, .int .i64 a0_2], .agg #[.int .i64 a1_4, .int .i64 a1_5]] ?_
 with_reducible refine (spec_l03Reduce.calls _ _ _ _ _ _ _ _ A3.out).mono ?_
 rintro e w8 ⟨rfl, hb⟩
 refine ⟨_, rfl, ?_⟩
 replace BK274 := bB BK274 hb
 replace BK275 := bB BK275 hb
 replace BK276 := bB BK276 hb
 replace HB := bS3 HB GE274 GE275 GE276 hb
 (try clear hb)
 (try clear hb2)
 (try clear hk)
 (try clear hi)
 refine hK.out _ _ (cb6 BK275 (eb3 BK274)).out (fun hHeld => ?_)
 clear hK K
 refine norm_ (a' := ?_) ?_ ?_
 rotate_left
 ·show Act.put _ (some 10) _ = _
  simp only [Act.put, sA, sB, sC, i64_w, i32_w]
  rfl
 refine pu 6 (some 11) (bT 8 7) HT_ ?_
 refine ro 7 (none) (bT 8 8) HT_ (fun K hK => ?_)
 have hs9 : w8.cell? ⟨gb276, 0, none⟩ = some (.int .i64 0) := bcl BK276 0
 have hfs9 := blk_frozen BK276.out 0
 have hns9_0 := NB274_276.out
 have hns9_1 := NB275_276.out
 have hms9_0 := NB276_274.out
 have hms9_1 := NB276_275.out
 have hs10 : w8.cell? ⟨gb276, 1, none⟩ = some (.int .i64 0) := bcl BK276 1
 have hfs10 := blk_frozen BK276.out 1
 have hns10_0 := NB274_276.out
 have hns10_1 := NB275_276.out
 have hms10_0 := NB276_274.out
 have hms10_1 := NB276_275.out
 have hs11 : w8.cell? ⟨gb276, 2, none⟩ = some (.int .i64 0) := bcl BK276 2
 have hfs11 := blk_frozen BK276.out 2
 have hns11_0 := NB274_276.out
 have hns11_1 := NB275_276.out
 have hms11_0 := NB276_274.out
 have hms11_1 := NB276_275.out
 have hs12 : w8.cell? ⟨gb276, 3, none⟩ = some (.int .i64 0) := bcl BK276 3
 have hfs12 := blk_frozen BK276.out 3
 have hns12_0 := NB274_276.out
 have hns12_1 := NB275_276.out
 have hms12_0 := NB276_274.out
 have hms12_1 := NB276_275.out
 have hs13 : w8.cell? ⟨gb276, 4, none⟩ = some (.int .i64 0) := bcl BK276 4
 have hfs13 := blk_frozen BK276.out 4
 have hns13_0 := NB274_276.out
 have hns13_1 := NB275_276.out
 have hms13_0 := NB276_274.out
 have hms13_1 := NB276_275.out
 have hs14 : w8.cell? ⟨gb276, 5, none⟩ = some (.int .i64 0) := bcl BK276 5
 have hfs14 := blk_frozen BK276.out 5
 have hns14_0 := NB274_276.out
 have hns14_1 := NB275_276.out
 have hms14_0 := NB276_274.out
 have hms14_1 := NB276_275.out
 refine skip_ (w1 := ?_) (by rfl) rfl ?_ ?_
 rotate_left
 ·go_simp
  rfl
 refine hK.out _ _ ⟨(cf6 NB275_276 (hHeld.1)), (cf6 NB275_276 (hHeld.2.1)), (cf6 NB275_276 (hHeld.2.2.1)), (cf6 NB275_276 (hHeld.2.2.2.1)), (cf6 NB275_276 (hHeld.2.2.2.2.1)), (cf6 NB275_276 (hHeld.2.2.2.2.2.1)), (cf6 NB274_276 (hHeld.2.2.2.2.2.2.1)), (cf6 NB274_276 (hHeld.2.2.2.2.2.2.2.1)), (cf6 NB274_276 (hHeld.2.2.2.2.2.2.2.2))⟩ (fun hHeld => ?_)
 clear hK K
 refine done_ (done_of HT_.out (by kernel_rfl)) ?_
 try go_wp2
 refine bodyPost_ret (results_cell_row rfl _ _ gb276 48 #[.int .i64 a1_0, .int .i64 a1_1, .int .i64 a1_2, .int .i64 a1_3, .int .i64 t277, .int .i64 t278] (0, 0) _ rfl (bq0 BK276) Try.underlying48 rfl (by kernel_rfl)) rfl ?_
 exact er (bbw3 HB GE274 GE275 GE276)
/-! ### spec_l02Multiply: function 78 -/
def spec_l02Multiply.f (a0_0 : Int) (a0_1 : Int) (a0_2 : Int) (a0_3 : Int) (a1_0 : Int) (a1_1 : Int) (a1_2 : Int) (a1_3 : Int) : Option (Int × Int × Int × Int) := some (wrap64 ((wrap64 (a0_0 * a1_0)) + (wrap64 (a0_1 * a1_2))), wrap64 ((wrap64 (a0_0 * a1_1)) + (wrap64 (a0_1 * a1_3))), wrap64 ((wrap64 (a0_2 * a1_0)) + (wrap64 (a0_3 * a1_2))), wrap64 ((wrap64 (a0_2 * a1_1)) + (wrap64 (a0_3 * a1_3))))
set_option maxHeartbeats 8000000 in
set_option maxRecDepth 100000 in
theorem spec_l02Multiply.calls (a0_0 : Int) (a0_1 : Int) (a0_2 : Int) (a0_3 : Int) (a1_0 : Int) (a1_1 : Int) (a1_2 : Int) (a1_3 : Int) (r1 : Int) (r2 : Int) (r3 : Int) (r4 : Int) (w : World) (h : spec_l02Multiply.f a0_0 a0_1 a0_2 a0_3 a1_0 a1_1 a1_2 a1_3 = some (r1, r2, r3, r4)) :
  Calls Try.prog 78 #[.agg #[.int .i64 a0_0, .int .i64 a0_1, .int .i64 a0_2, .int .i64 a0_3], .agg #[.int .i64 a1_0, .int .i64 a1_1, .int .i64 a1_2, .int .i64 a1_3]] w fun e w' => e = .returned (.agg #[.int .i64 r1, .int .i64 r2, .int .i64 r3, .int .i64 r4]) ∧ Below w.heap.size w w' := by
 have hu44 := Try.underlying44
 have HB := asd (Below.refl w.heap.size w)
 have H : (some (wrap64 ((wrap64 (a0_0 * a1_0)) + (wrap64 (a0_1 * a1_2))), wrap64 ((wrap64 (a0_0 * a1_1)) + (wrap64 (a0_1 * a1_3))), wrap64 ((wrap64 (a0_2 * a1_0)) + (wrap64 (a0_3 * a1_2))), wrap64 ((wrap64 (a0_2 * a1_1)) + (wrap64 (a0_3 * a1_3))))) = some (r1, r2, r3, r4) := h
 clear h
 simp only [Option.some.injEq, Prod.mk.injEq] at H
 obtain ⟨rfl, rfl, rfl, rfl⟩ := H
 go_enter Try.func78, Try.ntmps78
 go_wp2_with (first | ((with_reducible refine gd 2 rfl ?_); refine bx #[.int .i64 a0_0, .int .i64 a0_1, .int .i64 a0_2, .int .i64 a0_3] 44 ?_; intro gb279 hg w3 BK279 hb; have GE279 := ngw0 hg HB; replace HB := bS0 HB hb; clear hb hg) | ((with_reducible refine gd 3 rfl ?_); refine bx #[.int .i64 a1_0, .int .i64 a1_1, .int .i64 a1_2, .int .i64 a1_3] 44 ?_; intro gb280 hg w4 BK280 hb; have GE280 := ngw1 hg HB GE279; replace HB := bS1 HB GE279 hb; have NB279_280 := nlt hg BK279; have NB280_279 := nsy (nlt hg BK279); replace BK279 := bB BK279 hb; clear hb hg) | ((with_reducible refine gd 4 rfl ?_); refine bx #[.int .i64 0, .int .i64 0, .int .i64 0, .int .i64 0] 44 ?_; intro gb281 hg w5 BK281 hb; have GE281 := ngw2 hg HB GE279 GE280; replace HB := bS2 HB GE279 GE280 hb; have NB279_281 := nlt hg BK279; have NB281_279 := nsy (nlt hg BK279); replace BK279 := bB BK279 hb; have NB280_281 := nlt hg BK280; have NB281_280 := nsy (nlt hg BK280); replace BK280 := bB BK280 hb; clear hb hg; have hnb6 := NB279_280.out; have hnc6 := NB280_279.out; have hnb7 := NB279_281.out; have hnc7 := NB281_279.out; obtain ⟨hcz8_0, hcz8_1, hcz8_2, hcz8_3, hfz8_0, hfz8_1, hfz8_2, hfz8_3⟩ := bz4 BK279; have hnb9 := NB280_281.out; have hnc9 := NB281_280.out; obtain ⟨hcz10_0, hcz10_1, hcz10_2, hcz10_3, hfz10_0, hfz10_1, hfz10_2, hfz10_3⟩ := bz4 BK280; obtain ⟨hcz11_0, hcz11_1, hcz11_2, hcz11_3, hfz11_0, hfz11_1, hfz11_2, hfz11_3⟩ := bz4 BK281))
 refine bodyPost_ret (results_cell_row rfl _ _ gb281 44 #[.int .i64 (wrap64 ((wrap64 (a0_0 * a1_0)) + (wrap64 (a0_1 * a1_2)))), .int .i64 (wrap64 ((wrap64 (a0_0 * a1_1)) + (wrap64 (a0_1 * a1_3)))), .int .i64 (wrap64 ((wrap64 (a0_2 * a1_0)) + (wrap64 (a0_3 * a1_2)))), .int .i64 (wrap64 ((wrap64 (a0_2 * a1_1)) + (wrap64 (a0_3 * a1_3))))] (0, 0) _ rfl (bq0 BK281) Try.underlying44 rfl (by kernel_rfl)) rfl ?_
 exact er (bbw3 HB GE279 GE280 GE281)
/-! ### spec_l05Compose: function 46 -/
def spec_l05Compose.f (a0_0 : Int) (a0_1 : Int) (a0_2 : Int) (a0_3 : Int) (a0_4 : Int) (a0_5 : Int) (a1_0 : Int) (a1_1 : Int) (a1_2 : Int) (a1_3 : Int) (a1_4 : Int) (a1_5 : Int) : Option (Int × Int × Int × Int × Int × Int) := (spec_l02Multiply.f a0_0 a0_1 a0_2 a0_3 a1_0 a1_1 a1_2 a1_3).bind fun bt285 => ((spec_l02Apply.f a0_0 a0_1 a0_2 a0_3 a1_4 a1_5).bind fun bt289 => ((spec_l01Add.f bt289.1 bt289.2 a0_4 a0_5).bind fun bt291 => (some (bt285.1, bt285.2.1, bt285.2.2.1, bt285.2.2.2, bt291.1, bt291.2))))
def spec_l05Compose.T1 : Bool × List (List Nat × List Nat) := (true, [([], []), ([0], [0]), ([], []), ([2], [2]), ([1, 3], [1, 3]), ([], []), ([5], [5]), ([], []), ([7], [7]), ([6, 8, 4], [6, 8]), ([], []), ([10], [10]), ([9, 11, 9], [9, 11]), ([4, 12], [4, 12]), ([13, 12, 0, 1, 2, 3, 4, 5, 6, 7, 8, 9, 10, 11, 12, 13], [13])])
def spec_l05Compose.B1 : List Nat := [0, 1, 0, 4, 15, 0, 32, 0, 128, 511, 0, 1024, 4095, 8191, 16383]
theorem spec_l05Compose.tab1 : rtab .any (opsOf Try.f46 1) = spec_l05Compose.T1 := by kernel_rfl
theorem spec_l05Compose.bits1 : waitsOk spec_l05Compose.T1.2 spec_l05Compose.B1 = true := by kernel_rfl
set_option maxHeartbeats 8000000 in
set_option maxRecDepth 100000 in
theorem spec_l05Compose.calls (a0_0 : Int) (a0_1 : Int) (a0_2 : Int) (a0_3 : Int) (a0_4 : Int) (a0_5 : Int) (a1_0 : Int) (a1_1 : Int) (a1_2 : Int) (a1_3 : Int) (a1_4 : Int) (a1_5 : Int) (r1 : Int) (r2 : Int) (r3 : Int) (r4 : Int) (r5 : Int) (r6 : Int) (w : World) (h : spec_l05Compose.f a0_0 a0_1 a0_2 a0_3 a0_4 a0_5 a1_0 a1_1 a1_2 a1_3 a1_4 a1_5 = some (r1, r2, r3, r4, r5, r6)) :
  Calls Try.prog 46 #[.agg #[.int .i64 a0_0, .int .i64 a0_1, .int .i64 a0_2, .int .i64 a0_3, .int .i64 a0_4, .int .i64 a0_5], .agg #[.int .i64 a1_0, .int .i64 a1_1, .int .i64 a1_2, .int .i64 a1_3, .int .i64 a1_4, .int .i64 a1_5]] w fun e w' => e = .returned (.agg #[.int .i64 r1, .int .i64 r2, .int .i64 r3, .int .i64 r4, .int .i64 r5, .int .i64 r6]) ∧ Below w.heap.size w w' := by
 have hu48 := Try.underlying48
 have hu44 := Try.underlying44
 have hu46 := Try.underlying46
 have HB := asd (Below.refl w.heap.size w)
 have H : ((spec_l02Multiply.f a0_0 a0_1 a0_2 a0_3 a1_0 a1_1 a1_2 a1_3).bind fun bt285 => ((spec_l02Apply.f a0_0 a0_1 a0_2 a0_3 a1_4 a1_5).bind fun bt289 => ((spec_l01Add.f bt289.1 bt289.2 a0_4 a0_5).bind fun bt291 => (some (bt285.1, bt285.2.1, bt285.2.2.1, bt285.2.2.2, bt291.1, bt291.2))))) = some (r1, r2, r3, r4, r5, r6) := h
 clear h
 obtain ⟨⟨t285, t286, t287, t288⟩, A3, H⟩ := ob H
 try dsimp only at H
 obtain ⟨⟨t289, t290⟩, A4, H⟩ := ob H
 try dsimp only at H
 obtain ⟨⟨t291, t292⟩, A5, H⟩ := ob H
 try dsimp only at H
 simp only [Option.some.injEq, Prod.mk.injEq] at H
 obtain ⟨rfl, rfl, rfl, rfl, rfl, rfl⟩ := H
 go_enter Try.func46, Try.ntmps46
 try go_wp2_with (first | ((with_reducible refine gd 2 rfl ?_); refine bx #[.int .i64 a0_0, .int .i64 a0_1, .int .i64 a0_2, .int .i64 a0_3, .int .i64 a0_4, .int .i64 a0_5] 48 ?_; intro gb282 hg w6 BK282 hb; have GE282 := ngw0 hg HB; replace HB := bS0 HB hb; clear hb hg) | ((with_reducible refine gd 3 rfl ?_); refine bx #[.int .i64 a1_0, .int .i64 a1_1, .int .i64 a1_2, .int .i64 a1_3, .int .i64 a1_4, .int .i64 a1_5] 48 ?_; intro gb283 hg w7 BK283 hb; have GE283 := ngw1 hg HB GE282; replace HB := bS1 HB GE282 hb; have NB282_283 := nlt hg BK282; have NB283_282 := nsy (nlt hg BK282); replace BK282 := bB BK282 hb; clear hb hg) | ((with_reducible refine gd 4 rfl ?_); refine bx #[.int .i64 0, .int .i64 0, .int .i64 0, .int .i64 0, .int .i64 0, .int .i64 0] 48 ?_; intro gb284 hg w8 BK284 hb; have GE284 := ngw2 hg HB GE282 GE283; replace HB := bS2 HB GE282 GE283 hb; have NB282_284 := nlt hg BK282; have NB284_282 := nsy (nlt hg BK282); replace BK282 := bB BK282 hb; have NB283_284 := nlt hg BK283; have NB284_283 := nsy (nlt hg BK283); replace BK283 := bB BK283 hb; clear hb hg))
 replace BK282 := asd (blk_drew BK282.out)
 replace BK283 := asd (blk_drew BK283.out)
 replace BK284 := asd (blk_drew BK284.out)
 replace HB := asd (below_drew1 HB.out)
 refine sh 15 (cb6 BK282 (eb6 BK283)) (fun hHeld => ?_); refine with_tabW spec_l05Compose.tab1 spec_l05Compose.bits1 (fun HT_ HW_ => ?_)
 generalize w8.drew = w9 at BK282 BK283 BK284 HB hHeld ⊢
 refine pu 0 (some 5) (bT 15 1) HT_ ?_
 refine pu 2 (some 7) (bs 15 5) HT_ ?_
 refine pu 5 (some 10) (bs 15 37) HT_ ?_
 refine pu 7 (some 12) (bs 15 165) HT_ ?_
 refine pu 10 (some 15) (bs 15 1189) HT_ ?_
 refine ta 1 (some 6) (bs 15 1191) HT_ HW_ hHeld ?_
 refine ta 3 (some 8) (bs 15 1199) HT_ HW_ hHeld ?_
 refine ta 6 (some 11) (bs 15 1263) HT_ HW_ hHeld ?_
 refine ta 8 (some 13) (bs 15 1519) HT_ HW_ hHeld ?_
 refine ta 11 (some 16) (bs 15 3567) HT_ HW_ hHeld ?_
 refine ro 4 (some 9) (bs 15 3583) HT_ (fun K hK => ?_)
 refine gs Try.func78 #[.agg #[.int .i64 a0_0, .int .i64 a0_1, .int .i64 a0_2, .int .i64 a0_3], .agg #[.int .i64 a1_0, .int .i64 a1_1, .int .i64 a1_2, .int .i64 a1_3]] ?_
 with_reducible refine (spec_l02Multiply.calls _ _ _ _ _ _ _ _ _ _ _ _ _ A3.out).mono ?_
 rintro e w10 ⟨rfl, hb⟩
 refine ⟨_, rfl, ?_⟩
 replace BK282 := bB BK282 hb
 replace BK283 := bB BK283 hb
 replace BK284 := bB BK284 hb
 replace HB := bS3 HB GE282 GE283 GE284 hb
 (try clear hb)
 (try clear hb2)
 (try clear hk)
 (try clear hi)
 refine hK.out _ _ (cb6 BK282 (eb6 BK283)).out (fun hHeld => ?_)
 clear hK K
 refine norm_ (a' := ?_) ?_ ?_
 rotate_left
 ·show Act.put _ (some 9) _ = _
  simp only [Act.put, sA, sB, sC, i64_w, i32_w]
  rfl
 refine ro 9 (some 14) (bT 15 12) HT_ (fun K hK => ?_)
 refine gs Try.func79 #[.agg #[.int .i64 a0_0, .int .i64 a0_1, .int .i64 a0_2, .int .i64 a0_3], .agg #[.int .i64 a1_4, .int .i64 a1_5]] ?_
 with_reducible refine (spec_l02Apply.calls _ _ _ _ _ _ _ _ _ A4.out).mono ?_
 rintro e w11 ⟨rfl, hb⟩
 refine ⟨_, rfl, ?_⟩
 replace BK282 := bB BK282 hb
 replace BK283 := bB BK283 hb
 replace BK284 := bB BK284 hb
 replace HB := bS3 HB GE282 GE283 GE284 hb
 (try clear hb)
 (try clear hb2)
 (try clear hk)
 (try clear hi)
 refine hK.out _ _ (cb6 BK282 (eb6 BK283)).out (fun hHeld => ?_)
 clear hK K
 refine norm_ (a' := ?_) ?_ ?_
 rotate_left
 ·show Act.put _ (some 14) _ = _
  simp only [Act.put, sA, sB, sC, i64_w, i32_w]
  rfl
 refine ro 12 (some 17) (bT 15 13) HT_ (fun K hK => ?_)
 refine gs Try.func62 #[.agg #[.int .i64 t289, .int .i64 t290], .agg #[.int .i64 a0_4, .int .i64 a0_5]] ?_
 with_reducible refine (spec_l01Add.calls _ _ _ _ _ _ _ A5.out).mono ?_
 rintro e w12 ⟨rfl, hb⟩
 refine ⟨_, rfl, ?_⟩
 replace BK282 := bB BK282 hb
 replace BK283 := bB BK283 hb
 replace BK284 := bB BK284 hb
 replace HB := bS3 HB GE282 GE283 GE284 hb
 (try clear hb)
 (try clear hb2)
 (try clear hk)
 (try clear hi)
 refine hK.out _ _ (cb6 BK282 (eb6 BK283)).out (fun hHeld => ?_)
 clear hK K
 refine norm_ (a' := ?_) ?_ ?_
 rotate_left
 ·show Act.put _ (some 17) _ = _
  simp only [Act.put, sA, sB, sC, i64_w, i32_w]
  rfl
 refine pu 13 (some 18) (bT 15 14) HT_ ?_
 refine ro 14 (none) (bT 15 15) HT_ (fun K hK => ?_)
 have hs13 : w12.cell? ⟨gb284, 0, none⟩ = some (.int .i64 0) := bcl BK284 0
 have hfs13 := blk_frozen BK284.out 0
 have hns13_0 := NB282_284.out
 have hns13_1 := NB283_284.out
 have hms13_0 := NB284_282.out
 have hms13_1 := NB284_283.out
 have hs14 : w12.cell? ⟨gb284, 1, none⟩ = some (.int .i64 0) := bcl BK284 1
 have hfs14 := blk_frozen BK284.out 1
 have hns14_0 := NB282_284.out
 have hns14_1 := NB283_284.out
 have hms14_0 := NB284_282.out
 have hms14_1 := NB284_283.out
 have hs15 : w12.cell? ⟨gb284, 2, none⟩ = some (.int .i64 0) := bcl BK284 2
 have hfs15 := blk_frozen BK284.out 2
 have hns15_0 := NB282_284.out
 have hns15_1 := NB283_284.out
 have hms15_0 := NB284_282.out
 have hms15_1 := NB284_283.out
 have hs16 : w12.cell? ⟨gb284, 3, none⟩ = some (.int .i64 0) := bcl BK284 3
 have hfs16 := blk_frozen BK284.out 3
 have hns16_0 := NB282_284.out
 have hns16_1 := NB283_284.out
 have hms16_0 := NB284_282.out
 have hms16_1 := NB284_283.out
 have hs17 : w12.cell? ⟨gb284, 4, none⟩ = some (.int .i64 0) := bcl BK284 4
 have hfs17 := blk_frozen BK284.out 4
 have hns17_0 := NB282_284.out
 have hns17_1 := NB283_284.out
 have hms17_0 := NB284_282.out
 have hms17_1 := NB284_283.out
 have hs18 : w12.cell? ⟨gb284, 5, none⟩ = some (.int .i64 0) := bcl BK284 5
 have hfs18 := blk_frozen BK284.out 5
 have hns18_0 := NB282_284.out
 have hns18_1 := NB283_284.out
 have hms18_0 := NB284_282.out
 have hms18_1 := NB284_283.out
 refine skip_ (w1 := ?_) (by rfl) rfl ?_ ?_
 rotate_left
 ·go_simp
  rfl
 refine hK.out _ _ ⟨(cf6 NB282_284 (hHeld.1)), (cf6 NB282_284 (hHeld.2.1)), (cf6 NB282_284 (hHeld.2.2.1)), (cf6 NB282_284 (hHeld.2.2.2.1)), (cf6 NB282_284 (hHeld.2.2.2.2.1)), (cf6 NB282_284 (hHeld.2.2.2.2.2.1)), (cf6 NB283_284 (hHeld.2.2.2.2.2.2.1)), (cf6 NB283_284 (hHeld.2.2.2.2.2.2.2.1)), (cf6 NB283_284 (hHeld.2.2.2.2.2.2.2.2.1)), (cf6 NB283_284 (hHeld.2.2.2.2.2.2.2.2.2.1)), (cf6 NB283_284 (hHeld.2.2.2.2.2.2.2.2.2.2.1)), (cf6 NB283_284 (hHeld.2.2.2.2.2.2.2.2.2.2.2))⟩ (fun hHeld => ?_)
 clear hK K
 refine done_ (done_of HT_.out (by kernel_rfl)) ?_
 try go_wp2
 refine bodyPost_ret (results_cell_row rfl _ _ gb284 48 #[.int .i64 t285, .int .i64 t286, .int .i64 t287, .int .i64 t288, .int .i64 t291, .int .i64 t292] (0, 0) _ rfl (bq0 BK284) Try.underlying48 rfl (by kernel_rfl)) rfl ?_
 exact er (bbw3 HB GE282 GE283 GE284)

end Go.Proofs.Ytilbokbfcmeleaa.PA
