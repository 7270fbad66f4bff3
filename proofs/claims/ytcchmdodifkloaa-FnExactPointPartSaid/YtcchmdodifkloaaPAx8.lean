/- Walks written by program: each Go function that the law reaches comes to the plain function beside it. -/
import Derived.Test.YtcchmdodifkloaaPAx0
import Derived.Test.YtcchmdodifkloaaPAx1
import Derived.Test.YtcchmdodifkloaaPAx6
import Derived.Test.YtcchmdodifkloaaPAx7
namespace Go.Proofs.Ytcchmdodifkloaa.PA
open Go.RowKit Go.Proofs.YtcchmdodifkloaaW.PrintWords Go.Proofs.YtcchmdodifkloaaW.PrintLast Go.Proofs.YtcchmdodifkloaaW.PrintMore
attribute [local go_sem] max2_int min2_int max_two min_two max_three min_three max_four min_four   -- for this text's walks alone
set_option linter.unusedVariables false
set_option linter.unusedSimpArgs false

/-! ### spec_l04Image: function 88 -/
def spec_l04Image.f (k : Nat) (a0_0 : Int) (a0_1 : Int) (a0_2 : Int) (a0_3 : Int) (a1_0 : Int) (a1_1 : Int) (a1_2 : Int) : Option (Int × Int × Int) := (spec_l03Basis.f a1_0 a1_1 a1_2).bind fun t248 => (if 0 < (t248.length : Int) then ((spec_l02Apply.f a0_0 a0_1 a0_2 a0_3 ((rd_T53 t248 0).f0) ((rd_T53 t248 0).f1)).bind fun bt252 => (if 1 < (t248.length : Int) then ((spec_l02Apply.f a0_0 a0_1 a0_2 a0_3 ((rd_T53 t248 1).f0) ((rd_T53 t248 1).f1)).bind fun bt255 => ((spec_l03Hermite.f k (([(⟨bt252.1, bt252.2⟩ : S53), (⟨bt255.1, bt255.2⟩ : S53)] : List (S53)))).bind fun bt260 => (some (bt260.1, bt260.2.1, bt260.2.2)))) else (none))) else (none))
def spec_l04Image.T2 : Bool × List (List Nat × List Nat) := (true, [([], []), ([], []), ([1], [1]), ([2], [2]), ([0, 3], [0, 3]), ([], []), ([], []), ([6], [6]), ([7], [7]), ([5, 8, 4], [5, 8]), ([4, 9], [4, 9]), ([10, 9], [10]), ([11, 11, 0, 1, 2, 3, 4, 5, 6, 7, 8, 9, 10, 11], [11])])
def spec_l04Image.B2 : List Nat := [0, 0, 2, 6, 15, 0, 0, 64, 192, 511, 1023, 2047, 4095]
theorem spec_l04Image.tab2 : rtab .any (opsOf Try.f88 2) = spec_l04Image.T2 := by kernel_rfl
theorem spec_l04Image.bits2 : waitsOk spec_l04Image.T2.2 spec_l04Image.B2 = true := by kernel_rfl
set_option maxHeartbeats 8000000 in
set_option maxRecDepth 100000 in
theorem spec_l04Image.calls (k : Nat) (a0_0 : Int) (a0_1 : Int) (a0_2 : Int) (a0_3 : Int) (a1_0 : Int) (a1_1 : Int) (a1_2 : Int) (r1 : Int) (r2 : Int) (r3 : Int) (w : World) (h : spec_l04Image.f k a0_0 a0_1 a0_2 a0_3 a1_0 a1_1 a1_2 = some (r1, r2, r3)) :
  Calls Try.prog 88 #[.agg #[.int .i64 a0_0, .int .i64 a0_1, .int .i64 a0_2, .int .i64 a0_3], .agg #[.int .i64 a1_0, .int .i64 a1_1, .int .i64 a1_2]] w fun e w' => e = .returned (.agg #[.int .i64 r1, .int .i64 r2, .int .i64 r3]) ∧ Below w.heap.size w w' := by
 have hu51 := Try.underlying51
 have hu27 := Try.underlying27
 have hu53 := Try.underlying53
 have HB := asd (Below.refl w.heap.size w)
 have H : ((spec_l03Basis.f a1_0 a1_1 a1_2).bind fun t248 => (if 0 < (t248.length : Int) then ((spec_l02Apply.f a0_0 a0_1 a0_2 a0_3 ((rd_T53 t248 0).f0) ((rd_T53 t248 0).f1)).bind fun bt252 => (if 1 < (t248.length : Int) then ((spec_l02Apply.f a0_0 a0_1 a0_2 a0_3 ((rd_T53 t248 1).f0) ((rd_T53 t248 1).f1)).bind fun bt255 => ((spec_l03Hermite.f k (([(⟨bt252.1, bt252.2⟩ : S53), (⟨bt255.1, bt255.2⟩ : S53)] : List (S53)))).bind fun bt260 => (some (bt260.1, bt260.2.1, bt260.2.2)))) else (none))) else (none))) = some (r1, r2, r3) := h
 clear h
 obtain ⟨t248, A3, H⟩ := ob H
 replace H : (if 0 < (t248.length : Int) then ((spec_l02Apply.f a0_0 a0_1 a0_2 a0_3 ((rd_T53 t248 0).f0) ((rd_T53 t248 0).f1)).bind fun bt252 => (if 1 < (t248.length : Int) then ((spec_l02Apply.f a0_0 a0_1 a0_2 a0_3 ((rd_T53 t248 1).f0) ((rd_T53 t248 1).f1)).bind fun bt255 => ((spec_l03Hermite.f k (([(⟨bt252.1, bt252.2⟩ : S53), (⟨bt255.1, bt255.2⟩ : S53)] : List (S53)))).bind fun bt260 => (some (bt260.1, bt260.2.1, bt260.2.2)))) else (none))) else (none)) = some (r1, r2, r3) := H
 by_cases c4 : 0 < (t248.length : Int)
 ·rw [if_pos c4] at H
  have c4b0 : decide (0 < (t248.length : Int)) = true := decide_eq_true c4
  have c4b1 : decide (0 < t248.length) = true := decide_eq_true (by omega)
  clear c4
  obtain ⟨⟨t252, t253⟩, A5, H⟩ := ob H
  replace H : (if 1 < (t248.length : Int) then ((spec_l02Apply.f a0_0 a0_1 a0_2 a0_3 ((rd_T53 t248 1).f0) ((rd_T53 t248 1).f1)).bind fun bt255 => ((spec_l03Hermite.f k (([(⟨t252, t253⟩ : S53), (⟨bt255.1, bt255.2⟩ : S53)] : List (S53)))).bind fun bt260 => (some (bt260.1, bt260.2.1, bt260.2.2)))) else (none)) = some (r1, r2, r3) := H
  by_cases c6 : 1 < (t248.length : Int)
  ·rw [if_pos c6] at H
   have c6b0 : decide (1 < (t248.length : Int)) = true := decide_eq_true c6
   have c6b1 : decide (1 < t248.length) = true := decide_eq_true (by omega)
   clear c6
   obtain ⟨⟨t255, t256⟩, A7, H⟩ := ob H
   replace H : ((spec_l03Hermite.f k (([(⟨t252, t253⟩ : S53), (⟨t255, t256⟩ : S53)] : List (S53)))).bind fun bt260 => (some (bt260.1, bt260.2.1, bt260.2.2))) = some (r1, r2, r3) := H
   obtain ⟨y257, hy257⟩ : ∃ y_ : List (S53), y_ = (([(⟨t252, t253⟩ : S53), (⟨t255, t256⟩ : S53)] : List (S53))) := ⟨_, rfl⟩
   replace H : ((spec_l03Hermite.f k y257).bind fun bt260 => (some (bt260.1, bt260.2.1, bt260.2.2))) = some (r1, r2, r3) := by first | (rw [hy257]; with_reducible exact H) | (have H2_ := (Option.bind_some _ _).symm.trans H; rw [hy257]; with_reducible exact H2_) | (have H2_ := (Option.bind_some _ _).symm.trans H; with_reducible exact H2_) | with_reducible exact H | (rw [hy257]; exact H) | exact H
   have Ny257 := Aside0.mk hy257
   clear hy257
   obtain ⟨⟨t260, t261, t262⟩, A8, H⟩ := ob H
   replace H : (some (t260, t261, t262)) = some (r1, r2, r3) := H
   simp only [Option.some.injEq, Prod.mk.injEq] at H
   obtain ⟨rfl, rfl, rfl⟩ := H
   go_enter Try.func88, Try.ntmps88
   try go_wp2_with (first | ((with_reducible refine gd 2 rfl ?_); refine bx #[.int .i64 a0_0, .int .i64 a0_1, .int .i64 a0_2, .int .i64 a0_3] 51 ?_; intro gb245 hg w9 BK245 hb; have GE245 := ngw0 hg HB; replace HB := bS0 HB hb; clear hb hg) | ((with_reducible refine gd 3 rfl ?_); refine bx #[.int .i64 a1_0, .int .i64 a1_1, .int .i64 a1_2] 27 ?_; intro gb246 hg w10 BK246 hb; have GE246 := ngw1 hg HB GE245; replace HB := bS1 HB GE245 hb; have NB245_246 := nlt hg BK245; have NB246_245 := nsy (nlt hg BK245); replace BK245 := bB BK245 hb; clear hb hg) | ((with_reducible refine gd 4 rfl ?_); refine bx #[.int .i64 0, .int .i64 0, .int .i64 0] 27 ?_; intro gb247 hg w11 BK247 hb; have GE247 := ngw2 hg HB GE245 GE246; replace HB := bS2 HB GE245 GE246 hb; have NB245_247 := nlt hg BK245; have NB247_245 := nsy (nlt hg BK245); replace BK245 := bB BK245 hb; have NB246_247 := nlt hg BK246; have NB247_246 := nsy (nlt hg BK246); replace BK246 := bB BK246 hb; clear hb hg; have hnb12 := NB246_245.out; have hnc12 := NB245_246.out; have hnb13 := NB246_247.out; have hnc13 := NB247_246.out; obtain ⟨hcz14_0, hcz14_1, hcz14_2, hfz14_0, hfz14_1, hfz14_2⟩ := bz3 BK246) | ((with_reducible refine gate_callee (f := 103) rfl ?_); refine gl 7 Try.func103 #[.agg #[.int .i64 a1_0, .int .i64 a1_1, .int .i64 a1_2]] ?_; (with_reducible refine (spec_l03Basis.calls _ _ _ _ _ A3.out).mono ?_); rintro e w15 ⟨v249, rfl, ho0, hb⟩; refine ⟨_, rfl, ?_⟩; have HO250 := asd (Kd.R_lower ho0 (bsz3 HB GE245 GE246 GE247)); replace BK245 := bB BK245 hb; replace BK246 := bB BK246 hb; replace BK247 := bB BK247 hb; replace HB := bS3 HB GE245 GE246 GE247 hb; (try clear hb); (try clear hb2); (try clear hk); (try clear hi); (try clear ho0)))
   replace HO250 := asd (Kd.R_drew HO250.out)
   replace BK245 := asd (blk_drew BK245.out)
   replace BK246 := asd (blk_drew BK246.out)
   replace BK247 := asd (blk_drew BK247.out)
   replace HB := asd (below_drew1 HB.out)
   obtain ⟨Ao17, co17, eo17⟩ := Kd.R_slice HO250.out
   (first | subst eo17 | (injection eo17 with f1_ f2_ f3_; have f4_ := f1_.symm; have f5_ := f3_.symm; clear f1_ f2_ f3_; subst f4_; subst f5_))
   have p251 : 0 ≤ (0 : Int) := (by omega)
   have q251 : 0 < (t248.length : Int) := od
   obtain ⟨ad251, e251, hx251_0, hx251_1⟩ := at_T53 (Kd.R_reads' HO250.out).2.2 0 p251 q251
   cases e251
   have qi251 : (0 < t248.length) = True := eq_true (by omega)
   (try rw [show ((0 : Int)).toNat = 0 from rfl] at hx251_0)
   (try rw [show 0 * 2 = 0 from rfl] at hx251_0)
   (try rw [Addr.add_zero'] at hx251_0)
   (try rw [show ((0 : Int)).toNat = 0 from rfl] at hx251_1)
   (try rw [show 0 * 2 = 0 from rfl] at hx251_1)
   (try rw [Addr.add_zero'] at hx251_1)
   replace p251 := eq_true p251
   replace q251 := eq_true q251
   have p254 : 0 ≤ (1 : Int) := (by omega)
   have q254 : 1 < (t248.length : Int) := od
   obtain ⟨ad254, e254, hx254_0, hx254_1⟩ := at_T53 (Kd.R_reads' HO250.out).2.2 1 p254 q254
   obtain rfl : ad251 = ad254 := (by injection e254)
   (try simp only [show (1 : Int).toNat = 1 from rfl, Nat.reduceMul, Nat.reduceEqDiff, Go.Addr.add, ↓reduceIte] at hx254_0)
   (try simp only [show (1 : Int).toNat = 1 from rfl, Nat.reduceMul, Nat.reduceEqDiff, Go.Addr.add, ↓reduceIte] at hx254_1)
   have qi254 : (1 < t248.length) = True := eq_true (by omega)
   (try rw [show ((1 : Int)).toNat = 1 from rfl] at hx254_0)
   (try rw [show 1 * 2 = 2 from rfl] at hx254_0)
   (try rw [show ((1 : Int)).toNat = 1 from rfl] at hx254_1)
   (try rw [show 1 * 2 = 2 from rfl] at hx254_1)
   replace p254 := eq_true p254
   replace q254 := eq_true q254
   refine start_ (n := 13) (S := fun w' => w'.cell? ⟨gb245, 0, none⟩ = some (.int .i64 a0_0) ∧ w'.cell? ⟨gb245, 1, none⟩ = some (.int .i64 a0_1) ∧ w'.cell? ⟨gb245, 2, none⟩ = some (.int .i64 a0_2) ∧ w'.cell? ⟨gb245, 3, none⟩ = some (.int .i64 a0_3) ∧ w'.cell? ad251 = some (.int .i64 ((rd_T53 t248 0).f0)) ∧ w'.cell? ⟨ad251.block, ad251.off + 1, none⟩ = some (.int .i64 ((rd_T53 t248 0).f1)) ∧ w'.cell? ⟨ad251.block, ad251.off + 2, none⟩ = some (.int .i64 ((rd_T53 t248 1).f0)) ∧ w'.cell? ⟨ad251.block, ad251.off + 2 + 1, none⟩ = some (.int .i64 ((rd_T53 t248 1).f1))) (ds := []) (bt 13 0) (by kernel_rfl) rfl rfl ⟨bcl BK245 0, bcl BK245 1, bcl BK245 2, bcl BK245 3, hx251_0, hx251_1, hx254_0, hx254_1⟩ (fun hHeld => ?_); refine with_tabW spec_l04Image.tab2 spec_l04Image.bits2 (fun HT_ HW_ => ?_)
   generalize w15.drew = w16 at HO250 BK245 BK246 BK247 HB hx251_0 hx251_1 hx254_0 hx254_1 hHeld ⊢
   refine pu 1 (some 9) (bs 13 2) HT_ ?_
   refine pu 2 (some 10) (bs 13 6) HT_ ?_
   refine pu 6 (some 14) (bs 13 70) HT_ ?_
   refine pu 7 (some 15) (bs 13 198) HT_ ?_
   refine ta 0 (some 8) (bs 13 199) HT_ HW_ hHeld ?_
   refine ta 3 (some 11) (bs 13 207) HT_ HW_ hHeld ?_
   refine ta 5 (some 13) (bs 13 239) HT_ HW_ hHeld ?_
   refine ta 8 (some 16) (bs 13 495) HT_ HW_ hHeld ?_
   refine ro 4 (some 12) (bt 13 9) HT_ (fun K hK => ?_)
   refine gs Try.func75 #[.agg #[.int .i64 a0_0, .int .i64 a0_1, .int .i64 a0_2, .int .i64 a0_3], .agg #[.int .i64 ((rd_T53 t248 0).f0), .int .i64 ((rd_T53 t248 0).f1)]] ?_
   with_reducible refine (spec_l02Apply.calls _ _ _ _ _ _ _ _ _ A5.out).mono ?_
   rintro e w18 ⟨rfl, hb⟩
   have HS4_ := (hb.cell (World.block_lt_of_cell? _ _ (hHeld.2.2.2.2.1))).trans (hHeld.2.2.2.2.1)
   have HS5_ := (hb.cell (World.block_lt_of_cell? _ _ (hHeld.2.2.2.2.2.1))).trans (hHeld.2.2.2.2.2.1)
   have HS6_ := (hb.cell (World.block_lt_of_cell? _ _ (hHeld.2.2.2.2.2.2.1))).trans (hHeld.2.2.2.2.2.2.1)
   have HS7_ := (hb.cell (World.block_lt_of_cell? _ _ (hHeld.2.2.2.2.2.2.2))).trans (hHeld.2.2.2.2.2.2.2)
   refine ⟨_, rfl, ?_⟩
   replace HO250 := asd (Kd.R_below (kr HO250) hb)
   replace BK245 := bB BK245 hb
   replace BK246 := bB BK246 hb
   replace BK247 := bB BK247 hb
   replace HB := bS3 HB GE245 GE246 GE247 hb
   (try clear hb)
   (try clear hb2)
   (try clear hk)
   (try clear hi)
   refine hK.out _ _ ⟨bcl BK245 0, bcl BK245 1, bcl BK245 2, bcl BK245 3, HS4_, HS5_, HS6_, HS7_⟩ (fun hHeld => ?_)
   clear hK K
   refine norm_ (a' := ?_) ?_ ?_
   rotate_left
   ·show Act.put _ (some 12) _ = _
    simp only [Act.put, sA, sB, sC, i64_w, i32_w]
    rfl
   refine ro 9 (some 17) (bt 13 10) HT_ (fun K hK => ?_)
   refine gs Try.func75 #[.agg #[.int .i64 a0_0, .int .i64 a0_1, .int .i64 a0_2, .int .i64 a0_3], .agg #[.int .i64 ((rd_T53 t248 1).f0), .int .i64 ((rd_T53 t248 1).f1)]] ?_
   with_reducible refine (spec_l02Apply.calls _ _ _ _ _ _ _ _ _ A7.out).mono ?_
   rintro e w19 ⟨rfl, hb⟩
   have HS4_ := (hb.cell (World.block_lt_of_cell? _ _ (hHeld.2.2.2.2.1))).trans (hHeld.2.2.2.2.1)
   have HS5_ := (hb.cell (World.block_lt_of_cell? _ _ (hHeld.2.2.2.2.2.1))).trans (hHeld.2.2.2.2.2.1)
   have HS6_ := (hb.cell (World.block_lt_of_cell? _ _ (hHeld.2.2.2.2.2.2.1))).trans (hHeld.2.2.2.2.2.2.1)
   have HS7_ := (hb.cell (World.block_lt_of_cell? _ _ (hHeld.2.2.2.2.2.2.2))).trans (hHeld.2.2.2.2.2.2.2)
   refine ⟨_, rfl, ?_⟩
   replace HO250 := asd (Kd.R_below (kr HO250) hb)
   replace BK245 := bB BK245 hb
   replace BK246 := bB BK246 hb
   replace BK247 := bB BK247 hb
   replace HB := bS3 HB GE245 GE246 GE247 hb
   (try clear hb)
   (try clear hb2)
   (try clear hk)
   (try clear hi)
   refine hK.out _ _ ⟨bcl BK245 0, bcl BK245 1, bcl BK245 2, bcl BK245 3, HS4_, HS5_, HS6_, HS7_⟩ (fun hHeld => ?_)
   clear hK K
   refine norm_ (a' := ?_) ?_ ?_
   rotate_left
   ·show Act.put _ (some 17) _ = _
    simp only [Act.put, sA, sB, sC, i64_w, i32_w]
    rfl
   refine ro 10 (some 18) (bt 13 11) HT_ (fun K hK => ?_)
   refine Kd.R_lit_step k53 _ 53 ?hg (N := 18) ?hd (xs := ([(⟨t252, t253⟩ : S53), (⟨t255, t256⟩ : S53)] : List (S53))) (inner := [.int .i64 t252, .int .i64 t253, .int .i64 t255, .int .i64 t256]) (ok := fun _ => True) (okp := fun _ => True) ?hr ?hp (fun _ hk => hk) trivial (Below.refl _ _) (Nat.le_refl _) (by simp) ?_; (case hd => rfl); (case hg => rfl); (case hr => first | (go_simp; done) | (go_simp; rfl)); (case hp => exact (Reps.c2 (show Kd.M k53 _ _ _ (⟨t252, t253⟩ : S53) [.int .i64 t252, .int .i64 t253] from (k53_mkM _ _ _ (⟨t252, t253⟩ : S53) )) (Reps.c2 (show Kd.M k53 _ _ _ (⟨t255, t256⟩ : S53) [.int .i64 t255, .int .i64 t256] from (k53_mkM _ _ _ (⟨t255, t256⟩ : S53) )) (Reps.none _ _))))
   intro v258 w20 ho21 hb hg_ hnew_
   have HS4_ := (hb.cell (World.block_lt_of_cell? _ _ (hHeld.2.2.2.2.1))).trans (hHeld.2.2.2.2.1)
   have HS5_ := (hb.cell (World.block_lt_of_cell? _ _ (hHeld.2.2.2.2.2.1))).trans (hHeld.2.2.2.2.2.1)
   have HS6_ := (hb.cell (World.block_lt_of_cell? _ _ (hHeld.2.2.2.2.2.2.1))).trans (hHeld.2.2.2.2.2.2.1)
   have HS7_ := (hb.cell (World.block_lt_of_cell? _ _ (hHeld.2.2.2.2.2.2.2))).trans (hHeld.2.2.2.2.2.2.2)
   clear hg_ hnew_
   (first | rw [← Ny257.out] at ho21 | (simp only [Int.reduceToNat] at ho21; rw [← Ny257.out] at ho21))
   have HO259 := asd (Kd.R_lower (Kd.R_new' ho21 (Kd.R_lt (kr HO250))) (bsz3 HB GE245 GE246 GE247))
   replace HO250 := asd (Kd.R_elder' (kr HO250) (Kd.R_base ho21) hb)
   replace BK245 := bB BK245 hb
   replace BK246 := bB BK246 hb
   replace BK247 := bB BK247 hb
   replace HB := bS3 HB GE245 GE246 GE247 hb
   clear hb ho21
   obtain ⟨Ao22, co22, eo22⟩ := Kd.R_slice HO259.out
   (first | subst eo22 | (injection eo22 with f1_ f2_ f3_; have f4_ := f1_.symm; have f5_ := f3_.symm; clear f1_ f2_ f3_; subst f4_; subst f5_))
   refine hK.out _ _ ⟨bcl BK245 0, bcl BK245 1, bcl BK245 2, bcl BK245 3, HS4_, HS5_, HS6_, HS7_⟩ (fun hHeld => ?_)
   clear hK K
   refine norm_ (a' := ?_) ?_ ?_
   rotate_left
   ·show Act.put _ (some 18) _ = _
    simp only [Act.put, sA, sB, sC, i64_w, i32_w]
    rfl
   refine ro 11 (some 19) (bt 13 12) HT_ (fun K hK => ?_)
   refine gs Try.func104 #[.slice Ao22 y257.length co22] ?_
   with_reducible refine (spec_l03Hermite.calls _ _ _ _ _ _ _ _ ?side1 ?side2 A8.out).mono ?_
   (case side1 => exact ks (Kd.R_reads' HO259.out).2.2)
   (case side2 => exact (Kd.R_reads' HO259.out).2.1)
   rintro e w23 ⟨rfl, hb⟩
   have HS4_ := (hb.cell (World.block_lt_of_cell? _ _ (hHeld.2.2.2.2.1))).trans (hHeld.2.2.2.2.1)
   have HS5_ := (hb.cell (World.block_lt_of_cell? _ _ (hHeld.2.2.2.2.2.1))).trans (hHeld.2.2.2.2.2.1)
   have HS6_ := (hb.cell (World.block_lt_of_cell? _ _ (hHeld.2.2.2.2.2.2.1))).trans (hHeld.2.2.2.2.2.2.1)
   have HS7_ := (hb.cell (World.block_lt_of_cell? _ _ (hHeld.2.2.2.2.2.2.2))).trans (hHeld.2.2.2.2.2.2.2)
   refine ⟨_, rfl, ?_⟩
   replace HO250 := asd (Kd.R_below (kr HO250) hb)
   replace HO259 := asd (Kd.R_below (kr HO259) hb)
   replace BK245 := bB BK245 hb
   replace BK246 := bB BK246 hb
   replace BK247 := bB BK247 hb
   replace HB := bS3 HB GE245 GE246 GE247 hb
   (try clear hb)
   (try clear hb2)
   (try clear hk)
   (try clear hi)
   refine hK.out _ _ ⟨bcl BK245 0, bcl BK245 1, bcl BK245 2, bcl BK245 3, HS4_, HS5_, HS6_, HS7_⟩ (fun hHeld => ?_)
   clear hK K
   refine norm_ (a' := ?_) ?_ ?_
   rotate_left
   ·show Act.put _ (some 19) _ = _
    simp only [Act.put, sA, sB, sC, i64_w, i32_w]
    rfl
   refine ro 12 (none) (bt 13 13) HT_ (fun K hK => ?_)
   have hs24 : w23.cell? ⟨gb247, 0, none⟩ = some (.int .i64 0) := bcl BK247 0
   have hfs24 := blk_frozen BK247.out 0
   have hns24_0 := NB245_247.out
   have hns24_1 := NB246_247.out
   have hms24_0 := NB247_245.out
   have hms24_1 := NB247_246.out
   have hs25 : w23.cell? ⟨gb247, 1, none⟩ = some (.int .i64 0) := bcl BK247 1
   have hfs25 := blk_frozen BK247.out 1
   have hns25_0 := NB245_247.out
   have hns25_1 := NB246_247.out
   have hms25_0 := NB247_245.out
   have hms25_1 := NB247_246.out
   have hs26 : w23.cell? ⟨gb247, 2, none⟩ = some (.int .i64 0) := bcl BK247 2
   have hfs26 := blk_frozen BK247.out 2
   have hns26_0 := NB245_247.out
   have hns26_1 := NB246_247.out
   have hms26_0 := NB247_245.out
   have hms26_1 := NB247_246.out
   refine skip_ (w1 := ?_) (by rfl) rfl ?_ ?_
   rotate_left
   ·go_simp
    rfl
   refine hK.out _ _ ⟨(cf NB245_247 ((cf NB245_247 ((cf NB245_247 (hHeld.1)))))), (cf NB245_247 ((cf NB245_247 ((cf NB245_247 (hHeld.2.1)))))), (cf NB245_247 ((cf NB245_247 ((cf NB245_247 (hHeld.2.2.1)))))), (cf NB245_247 ((cf NB245_247 ((cf NB245_247 (hHeld.2.2.2.1)))))), ((cell_far (p := ⟨gb247, _, none⟩) (by first | exact Kd.own_blk (Kd.R_ne HO250.out BK247.out (by decide)) | (rw [add_block]; exact Kd.own_blk (Kd.R_ne HO250.out BK247.out (by decide))) | (show (Addr.add _ _).block ≠ _; rw [add_block]; exact Kd.own_blk (Kd.R_ne HO250.out BK247.out (by decide))) | (dsimp only; exact Kd.own_blk (Kd.R_ne HO250.out BK247.out (by decide)))) _).trans (((cell_far (p := ⟨gb247, _, none⟩) (by first | exact Kd.own_blk (Kd.R_ne HO250.out BK247.out (by decide)) | (rw [add_block]; exact Kd.own_blk (Kd.R_ne HO250.out BK247.out (by decide))) | (show (Addr.add _ _).block ≠ _; rw [add_block]; exact Kd.own_blk (Kd.R_ne HO250.out BK247.out (by decide))) | (dsimp only; exact Kd.own_blk (Kd.R_ne HO250.out BK247.out (by decide)))) _).trans (((cell_far (p := ⟨gb247, _, none⟩) (by first | exact Kd.own_blk (Kd.R_ne HO250.out BK247.out (by decide)) | (rw [add_block]; exact Kd.own_blk (Kd.R_ne HO250.out BK247.out (by decide))) | (show (Addr.add _ _).block ≠ _; rw [add_block]; exact Kd.own_blk (Kd.R_ne HO250.out BK247.out (by decide))) | (dsimp only; exact Kd.own_blk (Kd.R_ne HO250.out BK247.out (by decide)))) _).trans (hHeld.2.2.2.2.1)))))), ((cell_far (p := ⟨gb247, _, none⟩) (by first | exact Kd.own_blk (Kd.R_ne HO250.out BK247.out (by decide)) | (rw [add_block]; exact Kd.own_blk (Kd.R_ne HO250.out BK247.out (by decide))) | (show (Addr.add _ _).block ≠ _; rw [add_block]; exact Kd.own_blk (Kd.R_ne HO250.out BK247.out (by decide))) | (dsimp only; exact Kd.own_blk (Kd.R_ne HO250.out BK247.out (by decide)))) _).trans (((cell_far (p := ⟨gb247, _, none⟩) (by first | exact Kd.own_blk (Kd.R_ne HO250.out BK247.out (by decide)) | (rw [add_block]; exact Kd.own_blk (Kd.R_ne HO250.out BK247.out (by decide))) | (show (Addr.add _ _).block ≠ _; rw [add_block]; exact Kd.own_blk (Kd.R_ne HO250.out BK247.out (by decide))) | (dsimp only; exact Kd.own_blk (Kd.R_ne HO250.out BK247.out (by decide)))) _).trans (((cell_far (p := ⟨gb247, _, none⟩) (by first | exact Kd.own_blk (Kd.R_ne HO250.out BK247.out (by decide)) | (rw [add_block]; exact Kd.own_blk (Kd.R_ne HO250.out BK247.out (by decide))) | (show (Addr.add _ _).block ≠ _; rw [add_block]; exact Kd.own_blk (Kd.R_ne HO250.out BK247.out (by decide))) | (dsimp only; exact Kd.own_blk (Kd.R_ne HO250.out BK247.out (by decide)))) _).trans (hHeld.2.2.2.2.2.1)))))), ((cell_far (p := ⟨gb247, _, none⟩) (by first | exact Kd.own_blk (Kd.R_ne HO250.out BK247.out (by decide)) | (rw [add_block]; exact Kd.own_blk (Kd.R_ne HO250.out BK247.out (by decide))) | (show (Addr.add _ _).block ≠ _; rw [add_block]; exact Kd.own_blk (Kd.R_ne HO250.out BK247.out (by decide))) | (dsimp only; exact Kd.own_blk (Kd.R_ne HO250.out BK247.out (by decide)))) _).trans (((cell_far (p := ⟨gb247, _, none⟩) (by first | exact Kd.own_blk (Kd.R_ne HO250.out BK247.out (by decide)) | (rw [add_block]; exact Kd.own_blk (Kd.R_ne HO250.out BK247.out (by decide))) | (show (Addr.add _ _).block ≠ _; rw [add_block]; exact Kd.own_blk (Kd.R_ne HO250.out BK247.out (by decide))) | (dsimp only; exact Kd.own_blk (Kd.R_ne HO250.out BK247.out (by decide)))) _).trans (((cell_far (p := ⟨gb247, _, none⟩) (by first | exact Kd.own_blk (Kd.R_ne HO250.out BK247.out (by decide)) | (rw [add_block]; exact Kd.own_blk (Kd.R_ne HO250.out BK247.out (by decide))) | (show (Addr.add _ _).block ≠ _; rw [add_block]; exact Kd.own_blk (Kd.R_ne HO250.out BK247.out (by decide))) | (dsimp only; exact Kd.own_blk (Kd.R_ne HO250.out BK247.out (by decide)))) _).trans (hHeld.2.2.2.2.2.2.1)))))), ((cell_far (p := ⟨gb247, _, none⟩) (by first | exact Kd.own_blk (Kd.R_ne HO250.out BK247.out (by decide)) | (rw [add_block]; exact Kd.own_blk (Kd.R_ne HO250.out BK247.out (by decide))) | (show (Addr.add _ _).block ≠ _; rw [add_block]; exact Kd.own_blk (Kd.R_ne HO250.out BK247.out (by decide))) | (dsimp only; exact Kd.own_blk (Kd.R_ne HO250.out BK247.out (by decide)))) _).trans (((cell_far (p := ⟨gb247, _, none⟩) (by first | exact Kd.own_blk (Kd.R_ne HO250.out BK247.out (by decide)) | (rw [add_block]; exact Kd.own_blk (Kd.R_ne HO250.out BK247.out (by decide))) | (show (Addr.add _ _).block ≠ _; rw [add_block]; exact Kd.own_blk (Kd.R_ne HO250.out BK247.out (by decide))) | (dsimp only; exact Kd.own_blk (Kd.R_ne HO250.out BK247.out (by decide)))) _).trans (((cell_far (p := ⟨gb247, _, none⟩) (by first | exact Kd.own_blk (Kd.R_ne HO250.out BK247.out (by decide)) | (rw [add_block]; exact Kd.own_blk (Kd.R_ne HO250.out BK247.out (by decide))) | (show (Addr.add _ _).block ≠ _; rw [add_block]; exact Kd.own_blk (Kd.R_ne HO250.out BK247.out (by decide))) | (dsimp only; exact Kd.own_blk (Kd.R_ne HO250.out BK247.out (by decide)))) _).trans (hHeld.2.2.2.2.2.2.2))))))⟩ (fun hHeld => ?_)
   clear hK K
   refine done_ (done_of HT_.out (by kernel_rfl)) ?_
   try go_wp2
   refine bodyPost_ret (results_cell_row rfl _ _ gb247 27 #[.int .i64 t260, .int .i64 t261, .int .i64 t262] (0, 0) _ rfl (bq0 BK247) Try.underlying27 rfl (by kernel_rfl)) rfl ?_
   exact er (bbw3 HB GE245 GE246 GE247)
  ·rw [if_neg c6] at H
   exact absurd H (by simp)
 ·rw [if_neg c4] at H
  exact absurd H (by simp)

attribute [local go_sem high] eqA27
/-! ### spec_IsSuitable: function 57 -/
def spec_IsSuitable.f (k : Nat) (a0 : Int) (a1_0 : Int) (a1_1 : Int) (a1_2 : Int) (a2_0 : Int) (a2_1 : Int) (a2_2 : Int) (a2_3 : Int) (a2_4 : Int) (a2_5 : Int) : Option (Bool) := (spec_l04Code.f a0 a1_0 a1_1 a1_2).bind fun t265 => (if t265 = 0 then ((spec_IsPointMat.f a0 a2_0 a2_1 a2_2 a2_3).bind fun t266 => (if t266 = true then ((spec_l04Image.f k a2_0 a2_1 a2_2 a2_3 a1_0 a1_1 a1_2).bind fun bt267 => (if (bt267.1 == a1_0 && (bt267.2.1 == a1_1 && (bt267.2.2 == a1_2))) = true then ((spec_IsVec.f a2_4 a2_5).bind fun t270 => (some t270)) else (some false))) else (some false))) else (some false))
def spec_IsSuitable.T1 : Bool × List (List Nat × List Nat) := (true, [([], []), ([], []), ([0, 1], [0, 1]), ([2], [2]), ([3, 2], [3]), ([4], [4]), ([4], [4]), ([6, 4], [4, 6]), ([5, 7, 4, 4], [4, 5, 7]), ([4, 8], [4, 8]), ([9, 8], [9]), ([10], [10]), ([11, 10], [10, 11]), ([10], [10]), ([12, 13, 10, 10], [10, 12, 13]), ([10], [10]), ([14, 15, 10], [10, 14, 15]), ([10, 16], [10, 16]), ([17, 14], [17]), ([18], [18]), ([19, 18], [18, 19]), ([20, 18, 18], [18, 20]), ([18, 21], [18, 21]), ([22, 21, 0, 1, 2, 3, 4, 5, 6, 7, 8, 9, 10, 11, 12, 13, 14, 15, 16, 17, 18, 19, 20, 21, 22], [22])])
def spec_IsSuitable.B1 : List Nat := [0, 0, 3, 7, 15, 31, 31, 95, 255, 511, 1023, 2047, 4095, 2047, 16383, 2047, 65535, 131071, 262143, 524287, 1048575, 2097151, 4194303, 8388607]
theorem spec_IsSuitable.tab1 : rtab .any (opsOf Try.f57 1) = spec_IsSuitable.T1 := by kernel_rfl
theorem spec_IsSuitable.bits1 : waitsOk spec_IsSuitable.T1.2 spec_IsSuitable.B1 = true := by kernel_rfl
set_option maxHeartbeats 8000000 in
set_option maxRecDepth 100000 in
theorem spec_IsSuitable.calls (k : Nat) (a0 : Int) (a1_0 : Int) (a1_1 : Int) (a1_2 : Int) (a2_0 : Int) (a2_1 : Int) (a2_2 : Int) (a2_3 : Int) (a2_4 : Int) (a2_5 : Int) (r : Bool) (w : World) (h : spec_IsSuitable.f k a0 a1_0 a1_1 a1_2 a2_0 a2_1 a2_2 a2_3 a2_4 a2_5 = some r) :
  Calls Try.prog 57 #[.int .i64 a0, .agg #[.int .i64 a1_0, .int .i64 a1_1, .int .i64 a1_2], .agg #[.int .i64 a2_0, .int .i64 a2_1, .int .i64 a2_2, .int .i64 a2_3, .int .i64 a2_4, .int .i64 a2_5]] w fun e w' => e = .returned (.bool r) ∧ Below w.heap.size w w' := by
 have hu27 := Try.underlying27
 have hu55 := Try.underlying55
 have hu51 := Try.underlying51
 have hu53 := Try.underlying53
 have HB := asd (Below.refl w.heap.size w)
 have H : ((spec_l04Code.f a0 a1_0 a1_1 a1_2).bind fun t265 => (if t265 = 0 then ((spec_IsPointMat.f a0 a2_0 a2_1 a2_2 a2_3).bind fun t266 => (if t266 = true then ((spec_l04Image.f k a2_0 a2_1 a2_2 a2_3 a1_0 a1_1 a1_2).bind fun bt267 => (if (bt267.1 == a1_0 && (bt267.2.1 == a1_1 && (bt267.2.2 == a1_2))) = true then ((spec_IsVec.f a2_4 a2_5).bind fun t270 => (some t270)) else (some false))) else (some false))) else (some false))) = some r := h
 clear h
 obtain ⟨t265, A4, H⟩ := ob H
 replace H : (if t265 = 0 then ((spec_IsPointMat.f a0 a2_0 a2_1 a2_2 a2_3).bind fun t266 => (if t266 = true then ((spec_l04Image.f k a2_0 a2_1 a2_2 a2_3 a1_0 a1_1 a1_2).bind fun bt267 => (if (bt267.1 == a1_0 && (bt267.2.1 == a1_1 && (bt267.2.2 == a1_2))) = true then ((spec_IsVec.f a2_4 a2_5).bind fun t270 => (some t270)) else (some false))) else (some false))) else (some false)) = some r := H
 by_cases c5 : t265 = 0
 ·rw [if_pos c5] at H
  have c5b0 : (t265 == 0) = true := beq_iff_eq.mpr c5
  have c5b1 : (t265 != 0) = false := bne_eq_false_iff_eq.mpr c5
  clear c5
  obtain ⟨t266, A6, H⟩ := ob H
  replace H : (if t266 = true then ((spec_l04Image.f k a2_0 a2_1 a2_2 a2_3 a1_0 a1_1 a1_2).bind fun bt267 => (if (bt267.1 == a1_0 && (bt267.2.1 == a1_1 && (bt267.2.2 == a1_2))) = true then ((spec_IsVec.f a2_4 a2_5).bind fun t270 => (some t270)) else (some false))) else (some false)) = some r := H
  by_cases c7 : t266 = true
  ·subst c7
   have H1 : ((spec_l04Image.f k a2_0 a2_1 a2_2 a2_3 a1_0 a1_1 a1_2).bind fun bt267 => (if (bt267.1 == a1_0 && (bt267.2.1 == a1_1 && (bt267.2.2 == a1_2))) = true then ((spec_IsVec.f a2_4 a2_5).bind fun t270 => (some t270)) else (some false))) = some r := by rw [if_pos rfl] at H; first | done | exact H
   clear H
   have H := H1
   clear H1
   obtain ⟨⟨t267, t268, t269⟩, A8, H⟩ := ob H
   replace H : (if (t267 == a1_0 && (t268 == a1_1 && (t269 == a1_2))) = true then ((spec_IsVec.f a2_4 a2_5).bind fun t270 => (some t270)) else (some false)) = some r := H
   by_cases c9 : (t267 == a1_0 && (t268 == a1_1 && (t269 == a1_2))) = true
   ·rw [if_pos c9] at H
    have c9b0 : (t267 == a1_0 && (t268 == a1_1 && (t269 == a1_2))) = true := c9
    (try (have c9b1 : decide (t267 = a1_0 && (t268 == a1_1 && (t269 == a1_2))) = true := by simpa using c9))
    (try (have c9b2 : (t267 == a1_0 && (t268 == a1_1 && (t269 == a1_2))) = true := by simpa using c9))
    clear c9
    obtain ⟨t270, A10, H⟩ := ob H
    replace H : (some t270) = some r := H
    obtain rfl := Option.some.inj H
    go_enter Try.func57, Try.ntmps57
    try go_wp2_with (first | ((with_reducible refine gd 4 rfl ?_); refine bx #[.int .i64 a1_0, .int .i64 a1_1, .int .i64 a1_2] 27 ?_; intro gb263 hg w11 BK263 hb; have GE263 := ngw0 hg HB; replace HB := bS0 HB hb; clear hb hg) | ((with_reducible refine gd 5 rfl ?_); refine bx #[.int .i64 a2_0, .int .i64 a2_1, .int .i64 a2_2, .int .i64 a2_3, .int .i64 a2_4, .int .i64 a2_5] 55 ?_; intro gb264 hg w12 BK264 hb; have GE264 := ngw1 hg HB GE263; replace HB := bS1 HB GE263 hb; have NB263_264 := nlt hg BK263; have NB264_263 := nsy (nlt hg BK263); replace BK263 := bB BK263 hb; clear hb hg))
    replace BK263 := asd (blk_drew BK263.out)
    replace BK264 := asd (blk_drew BK264.out)
    replace HB := asd (below_drew1 HB.out)
    refine start_ (n := 24) (S := fun w' => w'.cell? ⟨gb263, 0, none⟩ = some (.int .i64 a1_0) ∧ w'.cell? ⟨gb263, 1, none⟩ = some (.int .i64 a1_1) ∧ w'.cell? ⟨gb263, 2, none⟩ = some (.int .i64 a1_2) ∧ w'.cell? ⟨gb264, 0, none⟩ = some (.int .i64 a2_0) ∧ w'.cell? ⟨gb264, 1, none⟩ = some (.int .i64 a2_1) ∧ w'.cell? ⟨gb264, 2, none⟩ = some (.int .i64 a2_2) ∧ w'.cell? ⟨gb264, 3, none⟩ = some (.int .i64 a2_3) ∧ w'.cell? ⟨gb264, 4, none⟩ = some (.int .i64 a2_4) ∧ w'.cell? ⟨gb264, 5, none⟩ = some (.int .i64 a2_5)) (ds := []) (bt 24 0) (by kernel_rfl) rfl rfl ⟨bcl BK263 0, bcl BK263 1, bcl BK263 2, bcl BK264 0, bcl BK264 1, bcl BK264 2, bcl BK264 3, bcl BK264 4, bcl BK264 5⟩ (fun hHeld => ?_); refine with_tabW spec_IsSuitable.tab1 spec_IsSuitable.bits1 (fun HT_ HW_ => ?_)
    generalize w12.drew = w13 at BK263 BK264 HB hHeld ⊢
    refine pu 0 (some 7) (bt 24 1) HT_ ?_
    refine ta 1 (some 8) (bt 24 2) HT_ HW_ hHeld ?_
    refine ro 2 (some 9) (bt 24 3) HT_ (fun K hK => ?_)
    refine gs Try.func56 #[.int .i64 a0, .agg #[.int .i64 a1_0, .int .i64 a1_1, .int .i64 a1_2]] ?_
    with_reducible refine (spec_l04Code.calls _ _ _ _ _ _ A4.out).mono ?_
    rintro e w14 ⟨rfl, hb⟩
    refine ⟨_, rfl, ?_⟩
    replace BK263 := bB BK263 hb
    replace BK264 := bB BK264 hb
    replace HB := bS2 HB GE263 GE264 hb
    (try clear hb)
    (try clear hb2)
    (try clear hk)
    (try clear hi)
    refine hK.out _ _ ⟨bcl BK263 0, bcl BK263 1, bcl BK263 2, bcl BK264 0, bcl BK264 1, bcl BK264 2, bcl BK264 3, bcl BK264 4, bcl BK264 5⟩ (fun hHeld => ?_)
    clear hK K
    refine norm_ (a' := ?_) ?_ ?_
    rotate_left
    ·show Act.put _ (some 9) _ = _
     simp only [Act.put, sA, sB, sC, i64_w, i32_w]
     rfl
    refine pu 3 (some 10) (bt 24 4) HT_ ?_
    refine pu 4 (some 11) (bt 24 5) HT_ ?_
    refine pu 5 (some 12) (bt 24 6) HT_ ?_
    refine pu 6 (some 13) (bt 24 7) HT_ ?_
    refine ta 7 (some 14) (bt 24 8) HT_ HW_ hHeld ?_
    refine ro 8 (some 15) (bt 24 9) HT_ (fun K hK => ?_)
    refine gs Try.func87 #[.int .i64 a0, .agg #[.int .i64 a2_0, .int .i64 a2_1, .int .i64 a2_2, .int .i64 a2_3]] ?_
    with_reducible refine (spec_IsPointMat.calls _ _ _ _ _ _ _ A6.out).mono ?_
    rintro e w15 ⟨rfl, hb⟩
    refine ⟨_, rfl, ?_⟩
    replace BK263 := bB BK263 hb
    replace BK264 := bB BK264 hb
    replace HB := bS2 HB GE263 GE264 hb
    (try clear hb)
    (try clear hb2)
    (try clear hk)
    (try clear hi)
    refine hK.out _ _ ⟨bcl BK263 0, bcl BK263 1, bcl BK263 2, bcl BK264 0, bcl BK264 1, bcl BK264 2, bcl BK264 3, bcl BK264 4, bcl BK264 5⟩ (fun hHeld => ?_)
    clear hK K
    refine norm_ (a' := ?_) ?_ ?_
    rotate_left
    ·show Act.put _ (some 15) _ = _
     simp only [Act.put, sA, sB, sC, i64_w, i32_w]
     rfl
    refine pu 9 (some 16) (bt 24 10) HT_ ?_
    refine pu 10 (some 17) (bt 24 11) HT_ ?_
    refine pu 11 (some 18) (bt 24 12) HT_ ?_
    refine ta 12 (some 19) (bt 24 13) HT_ HW_ hHeld ?_
    refine ta 13 (some 20) (bt 24 14) HT_ HW_ hHeld ?_
    refine ta 15 (some 22) (bs 24 49151) HT_ HW_ hHeld ?_
    refine ro 14 (some 21) (bt 24 16) HT_ (fun K hK => ?_)
    refine gs Try.func88 #[.agg #[.int .i64 a2_0, .int .i64 a2_1, .int .i64 a2_2, .int .i64 a2_3], .agg #[.int .i64 a1_0, .int .i64 a1_1, .int .i64 a1_2]] ?_
    with_reducible refine (spec_l04Image.calls _ _ _ _ _ _ _ _ _ _ _ _ A8.out).mono ?_
    rintro e w16 ⟨rfl, hb⟩
    refine ⟨_, rfl, ?_⟩
    replace BK263 := bB BK263 hb
    replace BK264 := bB BK264 hb
    replace HB := bS2 HB GE263 GE264 hb
    (try clear hb)
    (try clear hb2)
    (try clear hk)
    (try clear hi)
    refine hK.out _ _ ⟨bcl BK263 0, bcl BK263 1, bcl BK263 2, bcl BK264 0, bcl BK264 1, bcl BK264 2, bcl BK264 3, bcl BK264 4, bcl BK264 5⟩ (fun hHeld => ?_)
    clear hK K
    refine norm_ (a' := ?_) ?_ ?_
    rotate_left
    ·show Act.put _ (some 21) _ = _
     simp only [Act.put, sA, sB, sC, i64_w, i32_w]
     rfl
    refine pu 16 (some 23) (bt 24 17) HT_ ?_
    refine pu 17 (some 24) (bt 24 18) HT_ ?_
    refine pu 18 (some 25) (bt 24 19) HT_ ?_
    refine pu 19 (some 26) (bt 24 20) HT_ ?_
    refine ta 20 (some 27) (bt 24 21) HT_ HW_ hHeld ?_
    refine ro 21 (some 28) (bt 24 22) HT_ (fun K hK => ?_)
    refine gs Try.func89 #[.agg #[.int .i64 a2_4, .int .i64 a2_5]] ?_
    with_reducible refine (spec_IsVec.calls _ _ _ _ A10.out).mono ?_
    rintro e w17 ⟨rfl, hb⟩
    refine ⟨_, rfl, ?_⟩
    replace BK263 := bB BK263 hb
    replace BK264 := bB BK264 hb
    replace HB := bS2 HB GE263 GE264 hb
    (try clear hb)
    (try clear hb2)
    (try clear hk)
    (try clear hi)
    refine hK.out _ _ ⟨bcl BK263 0, bcl BK263 1, bcl BK263 2, bcl BK264 0, bcl BK264 1, bcl BK264 2, bcl BK264 3, bcl BK264 4, bcl BK264 5⟩ (fun hHeld => ?_)
    clear hK K
    refine norm_ (a' := ?_) ?_ ?_
    rotate_left
    ·show Act.put _ (some 28) _ = _
     simp only [Act.put, sA, sB, sC, i64_w, i32_w]
     rfl
    refine pu 22 (some 29) (bt 24 23) HT_ ?_
    refine pu 23 (some 6) (bt 24 24) HT_ ?_
    refine done_ (done_of HT_.out (by kernel_rfl)) ?_
    try go_wp2
    go_ret
    exact er (bbw2 HB GE263 GE264)
   ·rw [if_neg c9] at H
    have c9b0 : (t267 == a1_0 && (t268 == a1_1 && (t269 == a1_2))) = false := by simpa using c9
    (try (have c9b1 : decide (t267 = a1_0 && (t268 == a1_1 && (t269 == a1_2))) = false := by simpa using c9))
    (try (have c9b2 : (t267 == a1_0 && (t268 == a1_1 && (t269 == a1_2))) = false := by simpa using c9))
    (try (have c9b3 : ¬ (t267 = a1_0 && (t268 == a1_1 && (t269 == a1_2))) := by simpa using c9))
    clear c9
    obtain rfl := Option.some.inj H
    go_enter Try.func57, Try.ntmps57
    try go_wp2_with (first | ((with_reducible refine gd 4 rfl ?_); refine bx #[.int .i64 a1_0, .int .i64 a1_1, .int .i64 a1_2] 27 ?_; intro gb263 hg w18 BK263 hb; have GE263 := ngw0 hg HB; replace HB := bS0 HB hb; clear hb hg) | ((with_reducible refine gd 5 rfl ?_); refine bx #[.int .i64 a2_0, .int .i64 a2_1, .int .i64 a2_2, .int .i64 a2_3, .int .i64 a2_4, .int .i64 a2_5] 55 ?_; intro gb264 hg w19 BK264 hb; have GE264 := ngw1 hg HB GE263; replace HB := bS1 HB GE263 hb; have NB263_264 := nlt hg BK263; have NB264_263 := nsy (nlt hg BK263); replace BK263 := bB BK263 hb; clear hb hg))
    replace BK263 := asd (blk_drew BK263.out)
    replace BK264 := asd (blk_drew BK264.out)
    replace HB := asd (below_drew1 HB.out)
    refine start_ (n := 24) (S := fun w' => w'.cell? ⟨gb263, 0, none⟩ = some (.int .i64 a1_0) ∧ w'.cell? ⟨gb263, 1, none⟩ = some (.int .i64 a1_1) ∧ w'.cell? ⟨gb263, 2, none⟩ = some (.int .i64 a1_2) ∧ w'.cell? ⟨gb264, 0, none⟩ = some (.int .i64 a2_0) ∧ w'.cell? ⟨gb264, 1, none⟩ = some (.int .i64 a2_1) ∧ w'.cell? ⟨gb264, 2, none⟩ = some (.int .i64 a2_2) ∧ w'.cell? ⟨gb264, 3, none⟩ = some (.int .i64 a2_3) ∧ w'.cell? ⟨gb264, 4, none⟩ = some (.int .i64 a2_4) ∧ w'.cell? ⟨gb264, 5, none⟩ = some (.int .i64 a2_5)) (ds := []) (bt 24 0) (by kernel_rfl) rfl rfl ⟨bcl BK263 0, bcl BK263 1, bcl BK263 2, bcl BK264 0, bcl BK264 1, bcl BK264 2, bcl BK264 3, bcl BK264 4, bcl BK264 5⟩ (fun hHeld => ?_); refine with_tabW spec_IsSuitable.tab1 spec_IsSuitable.bits1 (fun HT_ HW_ => ?_)
    generalize w19.drew = w20 at BK263 BK264 HB hHeld ⊢
    refine pu 0 (some 7) (bt 24 1) HT_ ?_
    refine ta 1 (some 8) (bt 24 2) HT_ HW_ hHeld ?_
    refine ro 2 (some 9) (bt 24 3) HT_ (fun K hK => ?_)
    refine gs Try.func56 #[.int .i64 a0, .agg #[.int .i64 a1_0, .int .i64 a1_1, .int .i64 a1_2]] ?_
    with_reducible refine (spec_l04Code.calls _ _ _ _ _ _ A4.out).mono ?_
    rintro e w21 ⟨rfl, hb⟩
    refine ⟨_, rfl, ?_⟩
    replace BK263 := bB BK263 hb
    replace BK264 := bB BK264 hb
    replace HB := bS2 HB GE263 GE264 hb
    (try clear hb)
    (try clear hb2)
    (try clear hk)
    (try clear hi)
    refine hK.out _ _ ⟨bcl BK263 0, bcl BK263 1, bcl BK263 2, bcl BK264 0, bcl BK264 1, bcl BK264 2, bcl BK264 3, bcl BK264 4, bcl BK264 5⟩ (fun hHeld => ?_)
    clear hK K
    refine norm_ (a' := ?_) ?_ ?_
    rotate_left
    ·show Act.put _ (some 9) _ = _
     simp only [Act.put, sA, sB, sC, i64_w, i32_w]
     rfl
    refine pu 3 (some 10) (bt 24 4) HT_ ?_
    refine pu 4 (some 11) (bt 24 5) HT_ ?_
    refine pu 5 (some 12) (bt 24 6) HT_ ?_
    refine pu 6 (some 13) (bt 24 7) HT_ ?_
    refine ta 7 (some 14) (bt 24 8) HT_ HW_ hHeld ?_
    refine ro 8 (some 15) (bt 24 9) HT_ (fun K hK => ?_)
    refine gs Try.func87 #[.int .i64 a0, .agg #[.int .i64 a2_0, .int .i64 a2_1, .int .i64 a2_2, .int .i64 a2_3]] ?_
    with_reducible refine (spec_IsPointMat.calls _ _ _ _ _ _ _ A6.out).mono ?_
    rintro e w22 ⟨rfl, hb⟩
    refine ⟨_, rfl, ?_⟩
    replace BK263 := bB BK263 hb
    replace BK264 := bB BK264 hb
    replace HB := bS2 HB GE263 GE264 hb
    (try clear hb)
    (try clear hb2)
    (try clear hk)
    (try clear hi)
    refine hK.out _ _ ⟨bcl BK263 0, bcl BK263 1, bcl BK263 2, bcl BK264 0, bcl BK264 1, bcl BK264 2, bcl BK264 3, bcl BK264 4, bcl BK264 5⟩ (fun hHeld => ?_)
    clear hK K
    refine norm_ (a' := ?_) ?_ ?_
    rotate_left
    ·show Act.put _ (some 15) _ = _
     simp only [Act.put, sA, sB, sC, i64_w, i32_w]
     rfl
    refine pu 9 (some 16) (bt 24 10) HT_ ?_
    refine pu 10 (some 17) (bt 24 11) HT_ ?_
    refine pu 11 (some 18) (bt 24 12) HT_ ?_
    refine ta 12 (some 19) (bt 24 13) HT_ HW_ hHeld ?_
    refine ta 13 (some 20) (bt 24 14) HT_ HW_ hHeld ?_
    refine ta 15 (some 22) (bs 24 49151) HT_ HW_ hHeld ?_
    refine ro 14 (some 21) (bt 24 16) HT_ (fun K hK => ?_)
    refine gs Try.func88 #[.agg #[.int .i64 a2_0, .int .i64 a2_1, .int .i64 a2_2, .int .i64 a2_3], .agg #[.int .i64 a1_0, .int .i64 a1_1, .int .i64 a1_2]] ?_
    with_reducible refine (spec_l04Image.calls _ _ _ _ _ _ _ _ _ _ _ _ A8.out).mono ?_
    rintro e w23 ⟨rfl, hb⟩
    refine ⟨_, rfl, ?_⟩
    replace BK263 := bB BK263 hb
    replace BK264 := bB BK264 hb
    replace HB := bS2 HB GE263 GE264 hb
    (try clear hb)
    (try clear hb2)
    (try clear hk)
    (try clear hi)
    refine hK.out _ _ ⟨bcl BK263 0, bcl BK263 1, bcl BK263 2, bcl BK264 0, bcl BK264 1, bcl BK264 2, bcl BK264 3, bcl BK264 4, bcl BK264 5⟩ (fun hHeld => ?_)
    clear hK K
    refine norm_ (a' := ?_) ?_ ?_
    rotate_left
    ·show Act.put _ (some 21) _ = _
     simp only [Act.put, sA, sB, sC, i64_w, i32_w]
     rfl
    refine pu 16 (some 23) (bt 24 17) HT_ ?_
    refine pu 17 (some 24) (bt 24 18) HT_ ?_
    refine pu 18 (some 25) (bt 24 19) HT_ ?_
    refine pf 19 (some 26) (bt 24 20) HT_ ?_
    refine pf 20 (some 27) (bt 24 21) HT_ ?_
    refine pf 21 (some 28) (bt 24 22) HT_ ?_
    refine pu 22 (some 29) (bt 24 23) HT_ ?_
    refine pu 23 (some 6) (bt 24 24) HT_ ?_
    refine done_ (done_of HT_.out (by kernel_rfl)) ?_
    try go_wp2
    go_ret
    exact er (bbw2 HB GE263 GE264)
  ·replace c7 := Bool.eq_false_iff.mpr c7
   subst c7
   have H1 : (some false) = some r := by rw [if_neg (show ¬ (false = true) by decide)] at H; first | done | exact H
   clear H
   have H := H1
   clear H1
   obtain rfl := Option.some.inj H
   go_enter Try.func57, Try.ntmps57
   try go_wp2_with (first | ((with_reducible refine gd 4 rfl ?_); refine bx #[.int .i64 a1_0, .int .i64 a1_1, .int .i64 a1_2] 27 ?_; intro gb263 hg w24 BK263 hb; have GE263 := ngw0 hg HB; replace HB := bS0 HB hb; clear hb hg) | ((with_reducible refine gd 5 rfl ?_); refine bx #[.int .i64 a2_0, .int .i64 a2_1, .int .i64 a2_2, .int .i64 a2_3, .int .i64 a2_4, .int .i64 a2_5] 55 ?_; intro gb264 hg w25 BK264 hb; have GE264 := ngw1 hg HB GE263; replace HB := bS1 HB GE263 hb; have NB263_264 := nlt hg BK263; have NB264_263 := nsy (nlt hg BK263); replace BK263 := bB BK263 hb; clear hb hg))
   replace BK263 := asd (blk_drew BK263.out)
   replace BK264 := asd (blk_drew BK264.out)
   replace HB := asd (below_drew1 HB.out)
   refine start_ (n := 24) (S := fun w' => w'.cell? ⟨gb263, 0, none⟩ = some (.int .i64 a1_0) ∧ w'.cell? ⟨gb263, 1, none⟩ = some (.int .i64 a1_1) ∧ w'.cell? ⟨gb263, 2, none⟩ = some (.int .i64 a1_2) ∧ w'.cell? ⟨gb264, 0, none⟩ = some (.int .i64 a2_0) ∧ w'.cell? ⟨gb264, 1, none⟩ = some (.int .i64 a2_1) ∧ w'.cell? ⟨gb264, 2, none⟩ = some (.int .i64 a2_2) ∧ w'.cell? ⟨gb264, 3, none⟩ = some (.int .i64 a2_3) ∧ w'.cell? ⟨gb264, 4, none⟩ = some (.int .i64 a2_4) ∧ w'.cell? ⟨gb264, 5, none⟩ = some (.int .i64 a2_5)) (ds := []) (bt 24 0) (by kernel_rfl) rfl rfl ⟨bcl BK263 0, bcl BK263 1, bcl BK263 2, bcl BK264 0, bcl BK264 1, bcl BK264 2, bcl BK264 3, bcl BK264 4, bcl BK264 5⟩ (fun hHeld => ?_); refine with_tabW spec_IsSuitable.tab1 spec_IsSuitable.bits1 (fun HT_ HW_ => ?_)
   generalize w25.drew = w26 at BK263 BK264 HB hHeld ⊢
   refine pu 0 (some 7) (bt 24 1) HT_ ?_
   refine ta 1 (some 8) (bt 24 2) HT_ HW_ hHeld ?_
   refine ro 2 (some 9) (bt 24 3) HT_ (fun K hK => ?_)
   refine gs Try.func56 #[.int .i64 a0, .agg #[.int .i64 a1_0, .int .i64 a1_1, .int .i64 a1_2]] ?_
   with_reducible refine (spec_l04Code.calls _ _ _ _ _ _ A4.out).mono ?_
   rintro e w27 ⟨rfl, hb⟩
   refine ⟨_, rfl, ?_⟩
   replace BK263 := bB BK263 hb
   replace BK264 := bB BK264 hb
   replace HB := bS2 HB GE263 GE264 hb
   (try clear hb)
   (try clear hb2)
   (try clear hk)
   (try clear hi)
   refine hK.out _ _ ⟨bcl BK263 0, bcl BK263 1, bcl BK263 2, bcl BK264 0, bcl BK264 1, bcl BK264 2, bcl BK264 3, bcl BK264 4, bcl BK264 5⟩ (fun hHeld => ?_)
   clear hK K
   refine norm_ (a' := ?_) ?_ ?_
   rotate_left
   ·show Act.put _ (some 9) _ = _
    simp only [Act.put, sA, sB, sC, i64_w, i32_w]
    rfl
   refine pu 3 (some 10) (bt 24 4) HT_ ?_
   refine pu 4 (some 11) (bt 24 5) HT_ ?_
   refine pu 5 (some 12) (bt 24 6) HT_ ?_
   refine pu 6 (some 13) (bt 24 7) HT_ ?_
   refine ta 7 (some 14) (bt 24 8) HT_ HW_ hHeld ?_
   refine ro 8 (some 15) (bt 24 9) HT_ (fun K hK => ?_)
   refine gs Try.func87 #[.int .i64 a0, .agg #[.int .i64 a2_0, .int .i64 a2_1, .int .i64 a2_2, .int .i64 a2_3]] ?_
   with_reducible refine (spec_IsPointMat.calls _ _ _ _ _ _ _ A6.out).mono ?_
   rintro e w28 ⟨rfl, hb⟩
   refine ⟨_, rfl, ?_⟩
   replace BK263 := bB BK263 hb
   replace BK264 := bB BK264 hb
   replace HB := bS2 HB GE263 GE264 hb
   (try clear hb)
   (try clear hb2)
   (try clear hk)
   (try clear hi)
   refine hK.out _ _ ⟨bcl BK263 0, bcl BK263 1, bcl BK263 2, bcl BK264 0, bcl BK264 1, bcl BK264 2, bcl BK264 3, bcl BK264 4, bcl BK264 5⟩ (fun hHeld => ?_)
   clear hK K
   refine norm_ (a' := ?_) ?_ ?_
   rotate_left
   ·show Act.put _ (some 15) _ = _
    simp only [Act.put, sA, sB, sC, i64_w, i32_w]
    rfl
   refine pu 9 (some 16) (bt 24 10) HT_ ?_
   refine pu 10 (some 17) (bt 24 11) HT_ ?_
   refine pf 11 (some 18) (bt 24 12) HT_ ?_
   refine pf 12 (some 19) (bt 24 13) HT_ ?_
   refine pf 13 (some 20) (bt 24 14) HT_ ?_
   refine pf 14 (some 21) (bt 24 15) HT_ ?_
   refine pf 15 (some 22) (bt 24 16) HT_ ?_
   refine pf 16 (some 23) (bt 24 17) HT_ ?_
   refine pu 17 (some 24) (bt 24 18) HT_ ?_
   refine pu 18 (some 25) (bt 24 19) HT_ ?_
   refine pf 19 (some 26) (bt 24 20) HT_ ?_
   refine pf 20 (some 27) (bt 24 21) HT_ ?_
   refine pf 21 (some 28) (bt 24 22) HT_ ?_
   refine pu 22 (some 29) (bt 24 23) HT_ ?_
   refine pu 23 (some 6) (bt 24 24) HT_ ?_
   refine done_ (done_of HT_.out (by kernel_rfl)) ?_
   try go_wp2
   go_ret
   exact er (bbw2 HB GE263 GE264)
 ·rw [if_neg c5] at H
  have c5b0 : (t265 == 0) = false := beq_eq_false_iff_ne.mpr c5
  have c5b1 : (t265 != 0) = true := bne_iff_ne.mpr c5
  obtain rfl := Option.some.inj H
  go_enter Try.func57, Try.ntmps57
  try go_wp2_with (first | ((with_reducible refine gd 4 rfl ?_); refine bx #[.int .i64 a1_0, .int .i64 a1_1, .int .i64 a1_2] 27 ?_; intro gb263 hg w29 BK263 hb; have GE263 := ngw0 hg HB; replace HB := bS0 HB hb; clear hb hg) | ((with_reducible refine gd 5 rfl ?_); refine bx #[.int .i64 a2_0, .int .i64 a2_1, .int .i64 a2_2, .int .i64 a2_3, .int .i64 a2_4, .int .i64 a2_5] 55 ?_; intro gb264 hg w30 BK264 hb; have GE264 := ngw1 hg HB GE263; replace HB := bS1 HB GE263 hb; have NB263_264 := nlt hg BK263; have NB264_263 := nsy (nlt hg BK263); replace BK263 := bB BK263 hb; clear hb hg))
  replace BK263 := asd (blk_drew BK263.out)
  replace BK264 := asd (blk_drew BK264.out)
  replace HB := asd (below_drew1 HB.out)
  refine start_ (n := 24) (S := fun w' => w'.cell? ⟨gb263, 0, none⟩ = some (.int .i64 a1_0) ∧ w'.cell? ⟨gb263, 1, none⟩ = some (.int .i64 a1_1) ∧ w'.cell? ⟨gb263, 2, none⟩ = some (.int .i64 a1_2)) (ds := []) (bt 24 0) (by kernel_rfl) rfl rfl ⟨bcl BK263 0, bcl BK263 1, bcl BK263 2⟩ (fun hHeld => ?_); refine with_tabW spec_IsSuitable.tab1 spec_IsSuitable.bits1 (fun HT_ HW_ => ?_)
  generalize w30.drew = w31 at BK263 BK264 HB hHeld ⊢
  refine pu 0 (some 7) (bt 24 1) HT_ ?_
  refine ta 1 (some 8) (bt 24 2) HT_ HW_ hHeld ?_
  refine ro 2 (some 9) (bt 24 3) HT_ (fun K hK => ?_)
  refine gs Try.func56 #[.int .i64 a0, .agg #[.int .i64 a1_0, .int .i64 a1_1, .int .i64 a1_2]] ?_
  with_reducible refine (spec_l04Code.calls _ _ _ _ _ _ A4.out).mono ?_
  rintro e w32 ⟨rfl, hb⟩
  refine ⟨_, rfl, ?_⟩
  replace BK263 := bB BK263 hb
  replace BK264 := bB BK264 hb
  replace HB := bS2 HB GE263 GE264 hb
  (try clear hb)
  (try clear hb2)
  (try clear hk)
  (try clear hi)
  refine hK.out _ _ ⟨bcl BK263 0, bcl BK263 1, bcl BK263 2⟩ (fun hHeld => ?_)
  clear hK K
  refine norm_ (a' := ?_) ?_ ?_
  rotate_left
  ·show Act.put _ (some 9) _ = _
   simp only [Act.put, sA, sB, sC, i64_w, i32_w]
   rfl
  refine pu 3 (some 10) (bt 24 4) HT_ ?_
  refine pu 4 (some 11) (bt 24 5) HT_ ?_
  refine pf 5 (some 12) (bt 24 6) HT_ ?_
  refine pf 6 (some 13) (bt 24 7) HT_ ?_
  refine pf 7 (some 14) (bt 24 8) HT_ ?_
  refine pf 8 (some 15) (bt 24 9) HT_ ?_
  refine pu 9 (some 16) (bt 24 10) HT_ ?_
  refine pu 10 (some 17) (bt 24 11) HT_ ?_
  refine pf 11 (some 18) (bt 24 12) HT_ ?_
  refine pf 12 (some 19) (bt 24 13) HT_ ?_
  refine pf 13 (some 20) (bt 24 14) HT_ ?_
  refine pf 14 (some 21) (bt 24 15) HT_ ?_
  refine pf 15 (some 22) (bt 24 16) HT_ ?_
  refine pf 16 (some 23) (bt 24 17) HT_ ?_
  refine pu 17 (some 24) (bt 24 18) HT_ ?_
  refine pu 18 (some 25) (bt 24 19) HT_ ?_
  refine pf 19 (some 26) (bt 24 20) HT_ ?_
  refine pf 20 (some 27) (bt 24 21) HT_ ?_
  refine pf 21 (some 28) (bt 24 22) HT_ ?_
  refine pu 22 (some 29) (bt 24 23) HT_ ?_
  refine pu 23 (some 6) (bt 24 24) HT_ ?_
  refine done_ (done_of HT_.out (by kernel_rfl)) ?_
  try go_wp2
  go_ret
  exact er (bbw2 HB GE263 GE264)

/-! ### spec_l03Reduce: function 90 -/
def spec_l03Reduce.f (a0_0 : Int) (a0_1 : Int) (a0_2 : Int) (a1_0 : Int) (a1_1 : Int) : Option (Int × Int) := (spec_l01Mod.f a1_1 a0_2).bind fun t274 => (if a0_2 = 0 then (none) else ((spec_l01Mod.f (wrap64 (a1_0 - (wrap64 ((wrap64 (Int.tdiv (wrap64 (a1_1 - t274)) a0_2)) * a0_1)))) a0_0).bind fun t275 => (some (t275, t274))))
set_option maxHeartbeats 8000000 in
set_option maxRecDepth 100000 in
theorem spec_l03Reduce.calls (a0_0 : Int) (a0_1 : Int) (a0_2 : Int) (a1_0 : Int) (a1_1 : Int) (r1 : Int) (r2 : Int) (w : World) (h : spec_l03Reduce.f a0_0 a0_1 a0_2 a1_0 a1_1 = some (r1, r2)) :
  Calls Try.prog 90 #[.agg #[.int .i64 a0_0, .int .i64 a0_1, .int .i64 a0_2], .agg #[.int .i64 a1_0, .int .i64 a1_1]] w fun e w' => e = .returned (.agg #[.int .i64 r1, .int .i64 r2]) ∧ Below w.heap.size w w' := by
 have hu27 := Try.underlying27
 have hu53 := Try.underlying53
 have HB := asd (Below.refl w.heap.size w)
 have H : ((spec_l01Mod.f a1_1 a0_2).bind fun t274 => (if a0_2 = 0 then (none) else ((spec_l01Mod.f (wrap64 (a1_0 - (wrap64 ((wrap64 (Int.tdiv (wrap64 (a1_1 - t274)) a0_2)) * a0_1)))) a0_0).bind fun t275 => (some (t275, t274))))) = some (r1, r2) := h
 clear h
 obtain ⟨t274, A3, H⟩ := ob H
 replace H : (if a0_2 = 0 then (none) else ((spec_l01Mod.f (wrap64 (a1_0 - (wrap64 ((wrap64 (Int.tdiv (wrap64 (a1_1 - t274)) a0_2)) * a0_1)))) a0_0).bind fun t275 => (some (t275, t274)))) = some (r1, r2) := H
 by_cases c4 : a0_2 = 0
 ·rw [if_pos c4] at H
  exact absurd H (by simp)
 ·rw [if_neg c4] at H
  have c4b0 : (a0_2 == 0) = false := beq_eq_false_iff_ne.mpr c4
  have c4b1 : (a0_2 != 0) = true := bne_iff_ne.mpr c4
  obtain ⟨t275, A5, H⟩ := ob H
  replace H : (some (t275, t274)) = some (r1, r2) := H
  simp only [Option.some.injEq, Prod.mk.injEq] at H
  obtain ⟨rfl, rfl⟩ := H
  go_enter Try.func90, Try.ntmps90
  go_wp2_with (first | ((with_reducible refine gd 2 rfl ?_); refine bx #[.int .i64 a0_0, .int .i64 a0_1, .int .i64 a0_2] 27 ?_; intro gb271 hg w6 BK271 hb; have GE271 := ngw0 hg HB; replace HB := bS0 HB hb; clear hb hg) | ((with_reducible refine gd 3 rfl ?_); refine bx #[.int .i64 a1_0, .int .i64 a1_1] 53 ?_; intro gb272 hg w7 BK272 hb; have GE272 := ngw1 hg HB GE271; replace HB := bS1 HB GE271 hb; have NB271_272 := nlt hg BK271; have NB272_271 := nsy (nlt hg BK271); replace BK271 := bB BK271 hb; clear hb hg) | ((with_reducible refine gd 4 rfl ?_); refine bx #[.int .i64 0, .int .i64 0] 53 ?_; intro gb273 hg w8 BK273 hb; have GE273 := ngw2 hg HB GE271 GE272; replace HB := bS2 HB GE271 GE272 hb; have NB271_273 := nlt hg BK271; have NB273_271 := nsy (nlt hg BK271); replace BK271 := bB BK271 hb; have NB272_273 := nlt hg BK272; have NB273_272 := nsy (nlt hg BK272); replace BK272 := bB BK272 hb; clear hb hg; have hnb9 := NB272_271.out; have hnc9 := NB271_272.out; have hnb10 := NB272_273.out; have hnc10 := NB273_272.out; obtain ⟨hcz11_0, hcz11_1, hfz11_0, hfz11_1⟩ := bz2 BK272; have hnb12 := NB271_273.out; have hnc12 := NB273_271.out; obtain ⟨hcz13_0, hcz13_1, hcz13_2, hfz13_0, hfz13_1, hfz13_2⟩ := bz3 BK271) | ((with_reducible refine gate_callee (f := 105) rfl ?_); refine gl 11 Try.func105 #[.int .i64 a1_1, .int .i64 a0_2] ?_; (with_reducible refine (spec_l01Mod.calls _ _ _ _ A3.out).mono ?_); rintro e w' ⟨rfl, ⟨nd, rfl⟩⟩; refine ⟨_, rfl, ?_⟩; (try (rw [drewN_self w8]; generalize hq_ : World.drewN w8 _ = w8; have n0_ : Aside0 (w8.heap[gb271]? = some (.cells #[.int .i64 a0_0, .int .i64 a0_1, .int .i64 a0_2] 27 (0, 0))) := ⟨by rw [← hq_]; exact (bkp BK271)⟩; have n1_ : Aside0 (w8.heap[gb272]? = some (.cells #[.int .i64 a1_0, .int .i64 a1_1] 53 (0, 0))) := ⟨by rw [← hq_]; exact (bkp BK272)⟩; have n2_ : Aside0 (w8.heap[gb273]? = some (.cells #[.int .i64 0, .int .i64 0] 53 (0, 0))) := ⟨by rw [← hq_]; exact (bkp BK273)⟩; have n3_ : Aside0 (Below w.heap.size w w8) := ⟨by rw [← hq_]; exact (bbw3 HB GE271 GE272 GE273)⟩; clear BK271 BK272 BK273 HB hq_; have BK271 := n0_; have BK272 := n1_; have BK273 := n2_; have HB := n3_; clear n0_ n1_ n2_ n3_)); have hcz14_0 : w8.cell? ⟨gb272, 0, none⟩ = some (.int .i64 a1_0) := bcl BK272 0; have hcz14_1 : w8.cell? ⟨gb272, 1, none⟩ = some (.int .i64 a1_1) := bcl BK272 1; have hfz14_0 := blk_frozen BK272.out 0; have hfz14_1 := blk_frozen BK272.out 1; have hcz15_0 : w8.cell? ⟨gb271, 0, none⟩ = some (.int .i64 a0_0) := bcl BK271 0; have hcz15_1 : w8.cell? ⟨gb271, 1, none⟩ = some (.int .i64 a0_1) := bcl BK271 1; have hcz15_2 : w8.cell? ⟨gb271, 2, none⟩ = some (.int .i64 a0_2) := bcl BK271 2; have hfz15_0 := blk_frozen BK271.out 0; have hfz15_1 := blk_frozen BK271.out 1; have hfz15_2 := blk_frozen BK271.out 2) | ((with_reducible refine gate_callee (f := 105) rfl ?_); refine gl 28 Try.func105 #[.int .i64 (wrap64 (a1_0 - (wrap64 ((wrap64 (Int.tdiv (wrap64 (a1_1 - t274)) a0_2)) * a0_1)))), .int .i64 a0_0] ?_; (with_reducible refine (spec_l01Mod.calls _ _ _ _ A5.out).mono ?_); rintro e w' ⟨rfl, ⟨nd, rfl⟩⟩; refine ⟨_, rfl, ?_⟩; (try (rw [drewN_self w8]; generalize hq_ : World.drewN w8 _ = w8; have n0_ : Aside0 (w8.heap[gb271]? = some (.cells #[.int .i64 a0_0, .int .i64 a0_1, .int .i64 a0_2] 27 (0, 0))) := ⟨by rw [← hq_]; exact (bkp BK271)⟩; have n1_ : Aside0 (w8.heap[gb272]? = some (.cells #[.int .i64 a1_0, .int .i64 a1_1] 53 (0, 0))) := ⟨by rw [← hq_]; exact (bkp BK272)⟩; have n2_ : Aside0 (w8.heap[gb273]? = some (.cells #[.int .i64 0, .int .i64 0] 53 (0, 0))) := ⟨by rw [← hq_]; exact (bkp BK273)⟩; have n3_ : Aside0 (Below w.heap.size w w8) := ⟨by rw [← hq_]; exact (bbw3 HB GE271 GE272 GE273)⟩; clear BK271 BK272 BK273 HB hq_; have BK271 := n0_; have BK272 := n1_; have BK273 := n2_; have HB := n3_; clear n0_ n1_ n2_ n3_)); have hcz16_0 : w8.cell? ⟨gb273, 0, none⟩ = some (.int .i64 0) := bcl BK273 0; have hcz16_1 : w8.cell? ⟨gb273, 1, none⟩ = some (.int .i64 0) := bcl BK273 1; have hfz16_0 := blk_frozen BK273.out 0; have hfz16_1 := blk_frozen BK273.out 1))
  refine bodyPost_ret (results_cell_row rfl _ _ gb273 53 #[.int .i64 t275, .int .i64 t274] (0, 0) _ rfl (bq0 BK273) Try.underlying53 rfl (by kernel_rfl)) rfl ?_
  exact er (bbw3 HB GE271 GE272 GE273)

/-! ### spec_l06Reduce: function 58 -/
def spec_l06Reduce.f (a0_0 : Int) (a0_1 : Int) (a0_2 : Int) (a1_0 : Int) (a1_1 : Int) (a1_2 : Int) (a1_3 : Int) (a1_4 : Int) (a1_5 : Int) : Option (Int × Int × Int × Int × Int × Int) := (spec_l03Reduce.f a0_0 a0_1 a0_2 a1_4 a1_5).bind fun bt279 => (some (a1_0, a1_1, a1_2, a1_3, bt279.1, bt279.2))
def spec_l06Reduce.T1 : Bool × List (List Nat × List Nat) := (true, [([], []), ([0], [0]), ([], []), ([], []), ([3], [3]), ([2, 4], [2, 4]), ([1, 5], [1, 5]), ([6, 5, 0, 1, 2, 3, 4, 5, 6], [6])])
def spec_l06Reduce.B1 : List Nat := [0, 1, 0, 0, 8, 28, 63, 127]
theorem spec_l06Reduce.tab1 : rtab .any (opsOf Try.f58 1) = spec_l06Reduce.T1 := by kernel_rfl
theorem spec_l06Reduce.bits1 : waitsOk spec_l06Reduce.T1.2 spec_l06Reduce.B1 = true := by kernel_rfl
set_option maxHeartbeats 8000000 in
set_option maxRecDepth 100000 in
theorem spec_l06Reduce.calls (a0_0 : Int) (a0_1 : Int) (a0_2 : Int) (a1_0 : Int) (a1_1 : Int) (a1_2 : Int) (a1_3 : Int) (a1_4 : Int) (a1_5 : Int) (r1 : Int) (r2 : Int) (r3 : Int) (r4 : Int) (r5 : Int) (r6 : Int) (w : World) (h : spec_l06Reduce.f a0_0 a0_1 a0_2 a1_0 a1_1 a1_2 a1_3 a1_4 a1_5 = some (r1, r2, r3, r4, r5, r6)) :
  Calls Try.prog 58 #[.agg #[.int .i64 a0_0, .int .i64 a0_1, .int .i64 a0_2], .agg #[.int .i64 a1_0, .int .i64 a1_1, .int .i64 a1_2, .int .i64 a1_3, .int .i64 a1_4, .int .i64 a1_5]] w fun e w' => e = .returned (.agg #[.int .i64 r1, .int .i64 r2, .int .i64 r3, .int .i64 r4, .int .i64 r5, .int .i64 r6]) ∧ Below w.heap.size w w' := by
 have hu27 := Try.underlying27
 have hu55 := Try.underlying55
 have hu51 := Try.underlying51
 have hu53 := Try.underlying53
 have HB := asd (Below.refl w.heap.size w)
 have H : ((spec_l03Reduce.f a0_0 a0_1 a0_2 a1_4 a1_5).bind fun bt279 => (some (a1_0, a1_1, a1_2, a1_3, bt279.1, bt279.2))) = some (r1, r2, r3, r4, r5, r6) := h
 clear h
 obtain ⟨⟨t279, t280⟩, A3, H⟩ := ob H
 replace H : (some (a1_0, a1_1, a1_2, a1_3, t279, t280)) = some (r1, r2, r3, r4, r5, r6) := H
 simp only [Option.some.injEq, Prod.mk.injEq] at H
 obtain ⟨rfl, rfl, rfl, rfl, rfl, rfl⟩ := H
 go_enter Try.func58, Try.ntmps58
 try go_wp2_with (first | ((with_reducible refine gd 2 rfl ?_); refine bx #[.int .i64 a0_0, .int .i64 a0_1, .int .i64 a0_2] 27 ?_; intro gb276 hg w4 BK276 hb; have GE276 := ngw0 hg HB; replace HB := bS0 HB hb; clear hb hg) | ((with_reducible refine gd 3 rfl ?_); refine bx #[.int .i64 a1_0, .int .i64 a1_1, .int .i64 a1_2, .int .i64 a1_3, .int .i64 a1_4, .int .i64 a1_5] 55 ?_; intro gb277 hg w5 BK277 hb; have GE277 := ngw1 hg HB GE276; replace HB := bS1 HB GE276 hb; have NB276_277 := nlt hg BK276; have NB277_276 := nsy (nlt hg BK276); replace BK276 := bB BK276 hb; clear hb hg) | ((with_reducible refine gd 4 rfl ?_); refine bx #[.int .i64 0, .int .i64 0, .int .i64 0, .int .i64 0, .int .i64 0, .int .i64 0] 55 ?_; intro gb278 hg w6 BK278 hb; have GE278 := ngw2 hg HB GE276 GE277; replace HB := bS2 HB GE276 GE277 hb; have NB276_278 := nlt hg BK276; have NB278_276 := nsy (nlt hg BK276); replace BK276 := bB BK276 hb; have NB277_278 := nlt hg BK277; have NB278_277 := nsy (nlt hg BK277); replace BK277 := bB BK277 hb; clear hb hg))
 replace BK276 := asd (blk_drew BK276.out)
 replace BK277 := asd (blk_drew BK277.out)
 replace BK278 := asd (blk_drew BK278.out)
 replace HB := asd (below_drew1 HB.out)
 refine start_ (n := 8) (S := fun w' => w'.cell? ⟨gb277, 0, none⟩ = some (.int .i64 a1_0) ∧ w'.cell? ⟨gb277, 1, none⟩ = some (.int .i64 a1_1) ∧ w'.cell? ⟨gb277, 2, none⟩ = some (.int .i64 a1_2) ∧ w'.cell? ⟨gb277, 3, none⟩ = some (.int .i64 a1_3) ∧ w'.cell? ⟨gb277, 4, none⟩ = some (.int .i64 a1_4) ∧ w'.cell? ⟨gb277, 5, none⟩ = some (.int .i64 a1_5) ∧ w'.cell? ⟨gb276, 0, none⟩ = some (.int .i64 a0_0) ∧ w'.cell? ⟨gb276, 1, none⟩ = some (.int .i64 a0_1) ∧ w'.cell? ⟨gb276, 2, none⟩ = some (.int .i64 a0_2)) (ds := []) (bt 8 0) (by kernel_rfl) rfl rfl ⟨bcl BK277 0, bcl BK277 1, bcl BK277 2, bcl BK277 3, bcl BK277 4, bcl BK277 5, bcl BK276 0, bcl BK276 1, bcl BK276 2⟩ (fun hHeld => ?_); refine with_tabW spec_l06Reduce.tab1 spec_l06Reduce.bits1 (fun HT_ HW_ => ?_)
 generalize w6.drew = w7 at BK276 BK277 BK278 HB hHeld ⊢
 refine pu 0 (some 5) (bt 8 1) HT_ ?_
 refine pu 3 (some 8) (bs 8 9) HT_ ?_
 refine ta 1 (some 6) (bs 8 11) HT_ HW_ hHeld ?_
 refine ta 2 (some 7) (bt 8 4) HT_ HW_ hHeld ?_
 refine ta 4 (some 9) (bt 8 5) HT_ HW_ hHeld ?_
 refine ro 5 (some 10) (bt 8 6) HT_ (fun K hK => ?_)
 refine gs Try.func90 #[.agg #[.int .i64 a0_0, .int .i64 a0_1, .int .i64 a0_2], .agg #[.int .i64 a1_4, .int .i64 a1_5]] ?_
 with_reducible refine (spec_l03Reduce.calls _ _ _ _ _ _ _ _ A3.out).mono ?_
 rintro e w8 ⟨rfl, hb⟩
 refine ⟨_, rfl, ?_⟩
 replace BK276 := bB BK276 hb
 replace BK277 := bB BK277 hb
 replace BK278 := bB BK278 hb
 replace HB := bS3 HB GE276 GE277 GE278 hb
 (try clear hb)
 (try clear hb2)
 (try clear hk)
 (try clear hi)
 refine hK.out _ _ ⟨bcl BK277 0, bcl BK277 1, bcl BK277 2, bcl BK277 3, bcl BK277 4, bcl BK277 5, bcl BK276 0, bcl BK276 1, bcl BK276 2⟩ (fun hHeld => ?_)
 clear hK K
 refine norm_ (a' := ?_) ?_ ?_
 rotate_left
 ·show Act.put _ (some 10) _ = _
  simp only [Act.put, sA, sB, sC, i64_w, i32_w]
  rfl
 refine pu 6 (some 11) (bt 8 7) HT_ ?_
 refine ro 7 (none) (bt 8 8) HT_ (fun K hK => ?_)
 have hs9 : w8.cell? ⟨gb278, 0, none⟩ = some (.int .i64 0) := bcl BK278 0
 have hfs9 := blk_frozen BK278.out 0
 have hns9_0 := NB276_278.out
 have hns9_1 := NB277_278.out
 have hms9_0 := NB278_276.out
 have hms9_1 := NB278_277.out
 have hs10 : w8.cell? ⟨gb278, 1, none⟩ = some (.int .i64 0) := bcl BK278 1
 have hfs10 := blk_frozen BK278.out 1
 have hns10_0 := NB276_278.out
 have hns10_1 := NB277_278.out
 have hms10_0 := NB278_276.out
 have hms10_1 := NB278_277.out
 have hs11 : w8.cell? ⟨gb278, 2, none⟩ = some (.int .i64 0) := bcl BK278 2
 have hfs11 := blk_frozen BK278.out 2
 have hns11_0 := NB276_278.out
 have hns11_1 := NB277_278.out
 have hms11_0 := NB278_276.out
 have hms11_1 := NB278_277.out
 have hs12 : w8.cell? ⟨gb278, 3, none⟩ = some (.int .i64 0) := bcl BK278 3
 have hfs12 := blk_frozen BK278.out 3
 have hns12_0 := NB276_278.out
 have hns12_1 := NB277_278.out
 have hms12_0 := NB278_276.out
 have hms12_1 := NB278_277.out
 have hs13 : w8.cell? ⟨gb278, 4, none⟩ = some (.int .i64 0) := bcl BK278 4
 have hfs13 := blk_frozen BK278.out 4
 have hns13_0 := NB276_278.out
 have hns13_1 := NB277_278.out
 have hms13_0 := NB278_276.out
 have hms13_1 := NB278_277.out
 have hs14 : w8.cell? ⟨gb278, 5, none⟩ = some (.int .i64 0) := bcl BK278 5
 have hfs14 := blk_frozen BK278.out 5
 have hns14_0 := NB276_278.out
 have hns14_1 := NB277_278.out
 have hms14_0 := NB278_276.out
 have hms14_1 := NB278_277.out
 refine skip_ (w1 := ?_) (by rfl) rfl ?_ ?_
 rotate_left
 ·go_simp
  rfl
 refine hK.out _ _ ⟨(cf NB277_278 ((cf NB277_278 ((cf NB277_278 ((cf NB277_278 ((cf NB277_278 ((cf NB277_278 (hHeld.1)))))))))))), (cf NB277_278 ((cf NB277_278 ((cf NB277_278 ((cf NB277_278 ((cf NB277_278 ((cf NB277_278 (hHeld.2.1)))))))))))), (cf NB277_278 ((cf NB277_278 ((cf NB277_278 ((cf NB277_278 ((cf NB277_278 ((cf NB277_278 (hHeld.2.2.1)))))))))))), (cf NB277_278 ((cf NB277_278 ((cf NB277_278 ((cf NB277_278 ((cf NB277_278 ((cf NB277_278 (hHeld.2.2.2.1)))))))))))), (cf NB277_278 ((cf NB277_278 ((cf NB277_278 ((cf NB277_278 ((cf NB277_278 ((cf NB277_278 (hHeld.2.2.2.2.1)))))))))))), (cf NB277_278 ((cf NB277_278 ((cf NB277_278 ((cf NB277_278 ((cf NB277_278 ((cf NB277_278 (hHeld.2.2.2.2.2.1)))))))))))), (cf NB276_278 ((cf NB276_278 ((cf NB276_278 ((cf NB276_278 ((cf NB276_278 ((cf NB276_278 (hHeld.2.2.2.2.2.2.1)))))))))))), (cf NB276_278 ((cf NB276_278 ((cf NB276_278 ((cf NB276_278 ((cf NB276_278 ((cf NB276_278 (hHeld.2.2.2.2.2.2.2.1)))))))))))), (cf NB276_278 ((cf NB276_278 ((cf NB276_278 ((cf NB276_278 ((cf NB276_278 ((cf NB276_278 (hHeld.2.2.2.2.2.2.2.2))))))))))))⟩ (fun hHeld => ?_)
 clear hK K
 refine done_ (done_of HT_.out (by kernel_rfl)) ?_
 try go_wp2
 refine bodyPost_ret (results_cell_row rfl _ _ gb278 55 #[.int .i64 a1_0, .int .i64 a1_1, .int .i64 a1_2, .int .i64 a1_3, .int .i64 t279, .int .i64 t280] (0, 0) _ rfl (bq0 BK278) Try.underlying55 rfl (by kernel_rfl)) rfl ?_
 exact er (bbw3 HB GE276 GE277 GE278)

/-! ### spec_l02Unit: function 67 -/
def spec_l02Unit.f  : Option (Int × Int × Int × Int) := some (1, 0, 0, 1)
set_option maxHeartbeats 8000000 in
set_option maxRecDepth 100000 in
theorem spec_l02Unit.calls  (r1 : Int) (r2 : Int) (r3 : Int) (r4 : Int) (w : World) (h : spec_l02Unit.f  = some (r1, r2, r3, r4)) :
  Calls Try.prog 67 #[] w fun e w' => e = .returned (.agg #[.int .i64 r1, .int .i64 r2, .int .i64 r3, .int .i64 r4]) ∧ Below w.heap.size w w' := by
 have hu51 := Try.underlying51
 have HB := asd (Below.refl w.heap.size w)
 have H : (some (1, 0, 0, 1)) = some (r1, r2, r3, r4) := h
 clear h
 simp only [Option.some.injEq, Prod.mk.injEq] at H
 obtain ⟨rfl, rfl, rfl, rfl⟩ := H
 go_enter Try.func67, Try.ntmps67
 go_wp2_with (first | ((with_reducible refine gd 0 rfl ?_); refine bx #[.int .i64 0, .int .i64 0, .int .i64 0, .int .i64 0] 51 ?_; intro gb281 hg w1 BK281 hb; have GE281 := ngw0 hg HB; replace HB := bS0 HB hb; clear hb hg; obtain ⟨hcz2_0, hcz2_1, hcz2_2, hcz2_3, hfz2_0, hfz2_1, hfz2_2, hfz2_3⟩ := bz4 BK281))
 refine bodyPost_ret (results_cell_row rfl _ _ gb281 51 #[.int .i64 1, .int .i64 0, .int .i64 0, .int .i64 1] (0, 0) _ rfl (bq0 BK281) Try.underlying51 rfl (by kernel_rfl)) rfl ?_
 exact er (bbw1 HB GE281)

/-! ### spec_l06Unit: function 60 -/
def spec_l06Unit.f  : Option (Int × Int × Int × Int × Int × Int) := (spec_l02Unit.f).bind fun bt283 => (some (bt283.1, bt283.2.1, bt283.2.2.1, bt283.2.2.2, 0, 0))
set_option maxHeartbeats 8000000 in
set_option maxRecDepth 100000 in
theorem spec_l06Unit.calls  (r1 : Int) (r2 : Int) (r3 : Int) (r4 : Int) (r5 : Int) (r6 : Int) (w : World) (h : spec_l06Unit.f  = some (r1, r2, r3, r4, r5, r6)) :
  Calls Try.prog 60 #[] w fun e w' => e = .returned (.agg #[.int .i64 r1, .int .i64 r2, .int .i64 r3, .int .i64 r4, .int .i64 r5, .int .i64 r6]) ∧ Below w.heap.size w w' := by
 have hu55 := Try.underlying55
 have HB := asd (Below.refl w.heap.size w)
 have H : ((spec_l02Unit.f).bind fun bt283 => (some (bt283.1, bt283.2.1, bt283.2.2.1, bt283.2.2.2, 0, 0))) = some (r1, r2, r3, r4, r5, r6) := h
 clear h
 obtain ⟨⟨t283, t284, t285, t286⟩, A1, H⟩ := ob H
 replace H : (some (t283, t284, t285, t286, 0, 0)) = some (r1, r2, r3, r4, r5, r6) := H
 simp only [Option.some.injEq, Prod.mk.injEq] at H
 obtain ⟨rfl, rfl, rfl, rfl, rfl, rfl⟩ := H
 go_enter Try.func60, Try.ntmps60
 go_wp2_with (first | ((with_reducible refine gd 0 rfl ?_); refine bx #[.int .i64 0, .int .i64 0, .int .i64 0, .int .i64 0, .int .i64 0, .int .i64 0] 55 ?_; intro gb282 hg w2 BK282 hb; have GE282 := ngw0 hg HB; replace HB := bS0 HB hb; clear hb hg) | ((with_reducible refine gate_callee (f := 67) rfl ?_); refine gl 1 Try.func67 #[] ?_; (with_reducible refine (spec_l02Unit.calls _ _ _ _ _ A1.out).mono ?_); rintro e w3 ⟨rfl, hb⟩; refine ⟨_, rfl, ?_⟩; replace BK282 := bB BK282 hb; replace HB := bS1 HB GE282 hb; (try clear hb); obtain ⟨hcz4_0, hcz4_1, hcz4_2, hcz4_3, hcz4_4, hcz4_5, hfz4_0, hfz4_1, hfz4_2, hfz4_3, hfz4_4, hfz4_5⟩ := bz6 BK282))
 refine bodyPost_ret (results_cell_row rfl _ _ gb282 55 #[.int .i64 t283, .int .i64 t284, .int .i64 t285, .int .i64 t286, .int .i64 0, .int .i64 0] (0, 0) _ rfl (bq0 BK282) Try.underlying55 rfl (by kernel_rfl)) rfl ?_
 exact er (bbw1 HB GE282)
end Go.Proofs.Ytcchmdodifkloaa.PA
