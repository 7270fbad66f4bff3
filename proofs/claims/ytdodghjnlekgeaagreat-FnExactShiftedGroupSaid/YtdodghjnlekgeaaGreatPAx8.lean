/- Walks written by program: each Go function that the law reaches comes to the plain function beside it. -/
import Derived.Test.YtdodghjnlekgeaaGreatPAx0
import Derived.Test.YtdodghjnlekgeaaGreatPAx1
import Derived.Test.YtdodghjnlekgeaaGreatPAx3
import Derived.Test.YtdodghjnlekgeaaGreatPAx4
import Derived.Test.YtdodghjnlekgeaaGreatPAx6
import Derived.Test.YtdodghjnlekgeaaGreatPAx7
namespace Go.Proofs.YtdodghjnlekgeaaGreat.PA
open Go.RowKit Go.Proofs.YtdodghjnlekgeaaGreatW.PrintWords Go.Proofs.YtdodghjnlekgeaaGreatW.PrintLast Go.Proofs.YtdodghjnlekgeaaGreatW.PrintMore
attribute [local go_sem] max2_int min2_int max_two min_two max_three min_three max_four min_four   -- for this text's walks alone
set_option linter.unusedVariables false
set_option linter.unusedSimpArgs false

/-! ### spec_l04Image: function 62 -/
def spec_l04Image.f (k : Nat) (a0_0 : Int) (a0_1 : Int) (a0_2 : Int) (a0_3 : Int) (a1_0 : Int) (a1_1 : Int) (a1_2 : Int) : Option (Int × Int × Int) := (spec_l03Basis.f a1_0 a1_1 a1_2).bind fun t223 => (if 0 < (t223.length : Int) then ((spec_l02Apply.f a0_0 a0_1 a0_2 a0_3 ((rd_T38 t223 0).f0) ((rd_T38 t223 0).f1)).bind fun bt227 => (if 1 < (t223.length : Int) then ((spec_l02Apply.f a0_0 a0_1 a0_2 a0_3 ((rd_T38 t223 1).f0) ((rd_T38 t223 1).f1)).bind fun bt230 => ((spec_l03Hermite.f k (([(⟨bt227.1, bt227.2⟩ : S38), (⟨bt230.1, bt230.2⟩ : S38)] : List (S38)))).bind fun bt235 => (some (bt235.1, bt235.2.1, bt235.2.2)))) else (none))) else (none))
def spec_l04Image.T2 : Bool × List (List Nat × List Nat) := (true, [([], []), ([], []), ([1], [1]), ([2], [2]), ([0, 3], [0, 3]), ([], []), ([], []), ([6], [6]), ([7], [7]), ([5, 8, 4], [5, 8]), ([4, 9], [4, 9]), ([10, 9], [10]), ([11, 11, 0, 1, 2, 3, 4, 5, 6, 7, 8, 9, 10, 11], [11])])
def spec_l04Image.B2 : List Nat := [0, 0, 2, 6, 15, 0, 0, 64, 192, 511, 1023, 2047, 4095]
theorem spec_l04Image.tab2 : rtab .any (opsOf Tryz.f62 2) = spec_l04Image.T2 := by kernel_rfl
theorem spec_l04Image.bits2 : waitsOk spec_l04Image.T2.2 spec_l04Image.B2 = true := by kernel_rfl
set_option maxHeartbeats 8000000 in
set_option maxRecDepth 100000 in
theorem spec_l04Image.calls (k : Nat) (a0_0 : Int) (a0_1 : Int) (a0_2 : Int) (a0_3 : Int) (a1_0 : Int) (a1_1 : Int) (a1_2 : Int) (r1 : Int) (r2 : Int) (r3 : Int) (w : World) (h : spec_l04Image.f k a0_0 a0_1 a0_2 a0_3 a1_0 a1_1 a1_2 = some (r1, r2, r3)) :
  Calls Tryz.prog 62 #[.agg #[.int .i64 a0_0, .int .i64 a0_1, .int .i64 a0_2, .int .i64 a0_3], .agg #[.int .i64 a1_0, .int .i64 a1_1, .int .i64 a1_2]] w fun e w' => e = .returned (.agg #[.int .i64 r1, .int .i64 r2, .int .i64 r3]) ∧ Below w.heap.size w w' := by
 have hu46 := Tryz.underlying46
 have hu29 := Tryz.underlying29
 have hu38 := Tryz.underlying38
 have HB := asd (Below.refl w.heap.size w)
 have H : ((spec_l03Basis.f a1_0 a1_1 a1_2).bind fun t223 => (if 0 < (t223.length : Int) then ((spec_l02Apply.f a0_0 a0_1 a0_2 a0_3 ((rd_T38 t223 0).f0) ((rd_T38 t223 0).f1)).bind fun bt227 => (if 1 < (t223.length : Int) then ((spec_l02Apply.f a0_0 a0_1 a0_2 a0_3 ((rd_T38 t223 1).f0) ((rd_T38 t223 1).f1)).bind fun bt230 => ((spec_l03Hermite.f k (([(⟨bt227.1, bt227.2⟩ : S38), (⟨bt230.1, bt230.2⟩ : S38)] : List (S38)))).bind fun bt235 => (some (bt235.1, bt235.2.1, bt235.2.2)))) else (none))) else (none))) = some (r1, r2, r3) := h
 clear h
 obtain ⟨t223, A3, H⟩ := ob H
 try dsimp only at H
 by_cases c4 : 0 < (t223.length : Int)
 ·rw [if_pos c4] at H
  have c4b0 := decide_eq_true c4
  have c4b1 : decide (0 < t223.length) = true := decide_eq_true (by omega)
  clear c4
  obtain ⟨⟨t227, t228⟩, A5, H⟩ := ob H
  try dsimp only at H
  by_cases c6 : 1 < (t223.length : Int)
  ·rw [if_pos c6] at H
   have c6b0 := decide_eq_true c6
   have c6b1 : decide (1 < t223.length) = true := decide_eq_true (by omega)
   clear c6
   obtain ⟨⟨t230, t231⟩, A7, H⟩ := ob H
   try dsimp only at H
   obtain ⟨y232, hy232⟩ : ∃ y_ : List (S38), y_ = (([(⟨t227, t228⟩ : S38), (⟨t230, t231⟩ : S38)] : List (S38))) := ⟨_, rfl⟩
   replace H : ((spec_l03Hermite.f k y232).bind fun bt235 => (some (bt235.1, bt235.2.1, bt235.2.2))) = some (r1, r2, r3) := by first | (rw [hy232]; with_reducible exact H) | (have H2_ := (Option.bind_some _ _).symm.trans H; rw [hy232]; with_reducible exact H2_) | (have H2_ := (Option.bind_some _ _).symm.trans H; with_reducible exact H2_) | with_reducible exact H | (rw [hy232]; exact H) | exact H
   have Ny232 := Aside0.mk hy232
   clear hy232
   obtain ⟨⟨t235, t236, t237⟩, A8, H⟩ := ob H
   try dsimp only at H
   simp only [Option.some.injEq, Prod.mk.injEq] at H
   obtain ⟨rfl, rfl, rfl⟩ := H
   go_enter Tryz.func62, Tryz.ntmps62
   try go_wp2_with (first | ((with_reducible refine gd 2 rfl ?_); refine bx #[.int .i64 a0_0, .int .i64 a0_1, .int .i64 a0_2, .int .i64 a0_3] 46 ?_; intro gb220 hg w9 BK220 hb; have GE220 := ngw0 hg HB; replace HB := bS0 HB hb; clear hb hg) | ((with_reducible refine gd 3 rfl ?_); refine bx #[.int .i64 a1_0, .int .i64 a1_1, .int .i64 a1_2] 29 ?_; intro gb221 hg w10 BK221 hb; have GE221 := ngw1 hg HB GE220; replace HB := bS1 HB GE220 hb; have NB220_221 := nlt hg BK220; have NB221_220 := nsy (nlt hg BK220); replace BK220 := bB BK220 hb; clear hb hg) | ((with_reducible refine gd 4 rfl ?_); refine bx #[.int .i64 0, .int .i64 0, .int .i64 0] 29 ?_; intro gb222 hg w11 BK222 hb; have GE222 := ngw2 hg HB GE220 GE221; replace HB := bS2 HB GE220 GE221 hb; have NB220_222 := nlt hg BK220; have NB222_220 := nsy (nlt hg BK220); replace BK220 := bB BK220 hb; have NB221_222 := nlt hg BK221; have NB222_221 := nsy (nlt hg BK221); replace BK221 := bB BK221 hb; clear hb hg; have hnb12 := NB221_220.out; have hnc12 := NB220_221.out; have hnb13 := NB221_222.out; have hnc13 := NB222_221.out; obtain ⟨hcz14_0, hcz14_1, hcz14_2, hfz14_0, hfz14_1, hfz14_2⟩ := bz3 BK221) | ((with_reducible refine gate_callee (f := 94) rfl ?_); refine gl 7 Tryz.func94 #[.agg #[.int .i64 a1_0, .int .i64 a1_1, .int .i64 a1_2]] ?_; (with_reducible refine (spec_l03Basis.calls _ _ _ _ _ A3.out).mono ?_); rintro e w15 ⟨v224, rfl, ho0, hb⟩; refine ⟨_, rfl, ?_⟩; have HO225 := asd (Kd.R_lower ho0 (bsz3 HB GE220 GE221 GE222)); replace BK220 := bB BK220 hb; replace BK221 := bB BK221 hb; replace BK222 := bB BK222 hb; replace HB := bS3 HB GE220 GE221 GE222 hb; (try clear hb); (try clear hb2); (try clear hk); (try clear hi); (try clear ho0)))
   replace HO225 := asd (Kd.R_drew HO225.out)
   replace BK220 := asd (blk_drew BK220.out)
   replace BK221 := asd (blk_drew BK221.out)
   replace BK222 := asd (blk_drew BK222.out)
   replace HB := asd (below_drew1 HB.out)
   obtain ⟨Ao17, co17, eo17⟩ := Kd.R_slice HO225.out
   (first | subst eo17 | (injection eo17 with f1_ f2_ f3_; have f4_ := f1_.symm; have f5_ := f3_.symm; clear f1_ f2_ f3_; subst f4_; subst f5_))
   have p226 : 0 ≤ (0 : Int) := (by omega)
   have q226 : 0 < (t223.length : Int) := od
   obtain ⟨ad226, e226, hx226_0, hx226_1⟩ := at_T38 (Kd.R_reads' HO225.out).2.2 0 p226 q226
   cases e226
   have qi226 : (0 < t223.length) = True := eq_true (by omega)
   (try rw [show ((0 : Int)).toNat = 0 from rfl] at hx226_0)
   (try rw [show 0 * 2 = 0 from rfl] at hx226_0)
   (try rw [Addr.add_zero'] at hx226_0)
   (try rw [show ((0 : Int)).toNat = 0 from rfl] at hx226_1)
   (try rw [show 0 * 2 = 0 from rfl] at hx226_1)
   (try rw [Addr.add_zero'] at hx226_1)
   replace p226 := eq_true p226
   replace q226 := eq_true q226
   have p229 : 0 ≤ (1 : Int) := (by omega)
   have q229 : 1 < (t223.length : Int) := od
   obtain ⟨ad229, e229, hx229_0, hx229_1⟩ := at_T38 (Kd.R_reads' HO225.out).2.2 1 p229 q229
   obtain rfl : ad226 = ad229 := (by injection e229)
   (try simp only [show (1 : Int).toNat = 1 from rfl, Nat.reduceMul, Nat.reduceEqDiff, Go.Addr.add, ↓reduceIte] at hx229_0)
   (try simp only [show (1 : Int).toNat = 1 from rfl, Nat.reduceMul, Nat.reduceEqDiff, Go.Addr.add, ↓reduceIte] at hx229_1)
   have qi229 : (1 < t223.length) = True := eq_true (by omega)
   (try rw [show ((1 : Int)).toNat = 1 from rfl] at hx229_0)
   (try rw [show 1 * 2 = 2 from rfl] at hx229_0)
   (try rw [show ((1 : Int)).toNat = 1 from rfl] at hx229_1)
   (try rw [show 1 * 2 = 2 from rfl] at hx229_1)
   replace p229 := eq_true p229
   replace q229 := eq_true q229
   refine sh 13 (cb4 BK220 (c1 hx226_0 (c1 hx226_1 (c1 hx229_0 (e1 hx229_1))))) (fun hHeld => ?_); refine with_tabW spec_l04Image.tab2 spec_l04Image.bits2 (fun HT_ HW_ => ?_)
   generalize w15.drew = w16 at HO225 BK220 BK221 BK222 HB hx226_0 hx226_1 hx229_0 hx229_1 hHeld ⊢
   refine pu 1 (some 9) (bs 13 2) HT_ ?_
   refine pu 2 (some 10) (bs 13 6) HT_ ?_
   refine pu 6 (some 14) (bs 13 70) HT_ ?_
   refine pu 7 (some 15) (bs 13 198) HT_ ?_
   refine ta 0 (some 8) (bs 13 199) HT_ HW_ hHeld ?_
   refine ta 3 (some 11) (bs 13 207) HT_ HW_ hHeld ?_
   refine ta 5 (some 13) (bs 13 239) HT_ HW_ hHeld ?_
   refine ta 8 (some 16) (bs 13 495) HT_ HW_ hHeld ?_
   refine ro 4 (some 12) (bT 13 9) HT_ (fun K hK => ?_)
   refine gs Tryz.func43 #[.agg #[.int .i64 a0_0, .int .i64 a0_1, .int .i64 a0_2, .int .i64 a0_3], .agg #[.int .i64 ((rd_T38 t223 0).f0), .int .i64 ((rd_T38 t223 0).f1)]] ?_
   with_reducible refine (spec_l02Apply.calls _ _ _ _ _ _ _ _ _ A5.out).mono ?_
   rintro e w18 ⟨rfl, hb⟩
   have HS4_ := (hb.cell (World.block_lt_of_cell? _ _ (hHeld.2.2.2.2.1))).trans (hHeld.2.2.2.2.1)
   have HS5_ := (hb.cell (World.block_lt_of_cell? _ _ (hHeld.2.2.2.2.2.1))).trans (hHeld.2.2.2.2.2.1)
   have HS6_ := (hb.cell (World.block_lt_of_cell? _ _ (hHeld.2.2.2.2.2.2.1))).trans (hHeld.2.2.2.2.2.2.1)
   have HS7_ := (hb.cell (World.block_lt_of_cell? _ _ (hHeld.2.2.2.2.2.2.2))).trans (hHeld.2.2.2.2.2.2.2)
   refine ⟨_, rfl, ?_⟩
   replace HO225 := asd (Kd.R_below (kr HO225) hb)
   replace BK220 := bB BK220 hb
   replace BK221 := bB BK221 hb
   replace BK222 := bB BK222 hb
   replace HB := bS3 HB GE220 GE221 GE222 hb
   (try clear hb)
   (try clear hb2)
   (try clear hk)
   (try clear hi)
   refine hK.out _ _ ⟨bcl BK220 0, bcl BK220 1, bcl BK220 2, bcl BK220 3, HS4_, HS5_, HS6_, HS7_⟩ (fun hHeld => ?_)
   clear hK K
   refine norm_ (a' := ?_) ?_ ?_
   rotate_left
   ·show Act.put _ (some 12) _ = _
    simp only [Act.put, sA, sB, sC, i64_w, i32_w]
    rfl
   refine ro 9 (some 17) (bT 13 10) HT_ (fun K hK => ?_)
   refine gs Tryz.func43 #[.agg #[.int .i64 a0_0, .int .i64 a0_1, .int .i64 a0_2, .int .i64 a0_3], .agg #[.int .i64 ((rd_T38 t223 1).f0), .int .i64 ((rd_T38 t223 1).f1)]] ?_
   with_reducible refine (spec_l02Apply.calls _ _ _ _ _ _ _ _ _ A7.out).mono ?_
   rintro e w19 ⟨rfl, hb⟩
   have HS4_ := (hb.cell (World.block_lt_of_cell? _ _ (hHeld.2.2.2.2.1))).trans (hHeld.2.2.2.2.1)
   have HS5_ := (hb.cell (World.block_lt_of_cell? _ _ (hHeld.2.2.2.2.2.1))).trans (hHeld.2.2.2.2.2.1)
   have HS6_ := (hb.cell (World.block_lt_of_cell? _ _ (hHeld.2.2.2.2.2.2.1))).trans (hHeld.2.2.2.2.2.2.1)
   have HS7_ := (hb.cell (World.block_lt_of_cell? _ _ (hHeld.2.2.2.2.2.2.2))).trans (hHeld.2.2.2.2.2.2.2)
   refine ⟨_, rfl, ?_⟩
   replace HO225 := asd (Kd.R_below (kr HO225) hb)
   replace BK220 := bB BK220 hb
   replace BK221 := bB BK221 hb
   replace BK222 := bB BK222 hb
   replace HB := bS3 HB GE220 GE221 GE222 hb
   (try clear hb)
   (try clear hb2)
   (try clear hk)
   (try clear hi)
   refine hK.out _ _ ⟨bcl BK220 0, bcl BK220 1, bcl BK220 2, bcl BK220 3, HS4_, HS5_, HS6_, HS7_⟩ (fun hHeld => ?_)
   clear hK K
   refine norm_ (a' := ?_) ?_ ?_
   rotate_left
   ·show Act.put _ (some 17) _ = _
    simp only [Act.put, sA, sB, sC, i64_w, i32_w]
    rfl
   refine ro 10 (some 18) (bT 13 11) HT_ (fun K hK => ?_)
   refine Kd.R_lit_step k38 _ 38 ?hg (N := 18) ?hd (xs := ([(⟨t227, t228⟩ : S38), (⟨t230, t231⟩ : S38)] : List (S38))) (inner := [.int .i64 t227, .int .i64 t228, .int .i64 t230, .int .i64 t231]) (ok := fun _ => True) (okp := fun _ => True) ?hr ?hp (fun _ hk => hk) trivial (Below.refl _ _) (Nat.le_refl _) (by simp) ?_; (case hd => rfl); (case hg => rfl); (case hr => first | (go_simp; done) | (go_simp; rfl)); (case hp => exact (Reps.c2 (show Kd.M k38 _ _ _ (⟨t227, t228⟩ : S38) [.int .i64 t227, .int .i64 t228] from (k38_mkM _ _ _ (⟨t227, t228⟩ : S38) )) (Reps.c2 (show Kd.M k38 _ _ _ (⟨t230, t231⟩ : S38) [.int .i64 t230, .int .i64 t231] from (k38_mkM _ _ _ (⟨t230, t231⟩ : S38) )) (Reps.none _ _))))
   intro v233 w20 ho21 hb hg_ hnew_
   have HS4_ := (hb.cell (World.block_lt_of_cell? _ _ (hHeld.2.2.2.2.1))).trans (hHeld.2.2.2.2.1)
   have HS5_ := (hb.cell (World.block_lt_of_cell? _ _ (hHeld.2.2.2.2.2.1))).trans (hHeld.2.2.2.2.2.1)
   have HS6_ := (hb.cell (World.block_lt_of_cell? _ _ (hHeld.2.2.2.2.2.2.1))).trans (hHeld.2.2.2.2.2.2.1)
   have HS7_ := (hb.cell (World.block_lt_of_cell? _ _ (hHeld.2.2.2.2.2.2.2))).trans (hHeld.2.2.2.2.2.2.2)
   clear hg_ hnew_
   (first | rw [← Ny232.out] at ho21 | (simp only [Int.reduceToNat] at ho21; rw [← Ny232.out] at ho21))
   have HO234 := asd (Kd.R_lower (Kd.R_new' ho21 (Kd.R_lt (kr HO225))) (bsz3 HB GE220 GE221 GE222))
   replace HO225 := asd (Kd.R_elder' (kr HO225) (Kd.R_base ho21) hb)
   replace BK220 := bB BK220 hb
   replace BK221 := bB BK221 hb
   replace BK222 := bB BK222 hb
   replace HB := bS3 HB GE220 GE221 GE222 hb
   clear hb ho21
   obtain ⟨Ao22, co22, eo22⟩ := Kd.R_slice HO234.out
   (first | subst eo22 | (injection eo22 with f1_ f2_ f3_; have f4_ := f1_.symm; have f5_ := f3_.symm; clear f1_ f2_ f3_; subst f4_; subst f5_))
   refine hK.out _ _ ⟨bcl BK220 0, bcl BK220 1, bcl BK220 2, bcl BK220 3, HS4_, HS5_, HS6_, HS7_⟩ (fun hHeld => ?_)
   clear hK K
   refine norm_ (a' := ?_) ?_ ?_
   rotate_left
   ·show Act.put _ (some 18) _ = _
    simp only [Act.put, sA, sB, sC, i64_w, i32_w]
    rfl
   refine ro 11 (some 19) (bT 13 12) HT_ (fun K hK => ?_)
   refine gs Tryz.func95 #[.slice Ao22 y232.length co22] ?_
   with_reducible refine (spec_l03Hermite.calls _ _ _ _ _ _ _ _ ?side1 ?side2 A8.out).mono ?_
   (case side1 => exact ks (Kd.R_reads' HO234.out).2.2)
   (case side2 => exact (Kd.R_reads' HO234.out).2.1)
   rintro e w23 ⟨rfl, hb⟩
   have HS4_ := (hb.cell (World.block_lt_of_cell? _ _ (hHeld.2.2.2.2.1))).trans (hHeld.2.2.2.2.1)
   have HS5_ := (hb.cell (World.block_lt_of_cell? _ _ (hHeld.2.2.2.2.2.1))).trans (hHeld.2.2.2.2.2.1)
   have HS6_ := (hb.cell (World.block_lt_of_cell? _ _ (hHeld.2.2.2.2.2.2.1))).trans (hHeld.2.2.2.2.2.2.1)
   have HS7_ := (hb.cell (World.block_lt_of_cell? _ _ (hHeld.2.2.2.2.2.2.2))).trans (hHeld.2.2.2.2.2.2.2)
   refine ⟨_, rfl, ?_⟩
   replace HO225 := asd (Kd.R_below (kr HO225) hb)
   replace HO234 := asd (Kd.R_below (kr HO234) hb)
   replace BK220 := bB BK220 hb
   replace BK221 := bB BK221 hb
   replace BK222 := bB BK222 hb
   replace HB := bS3 HB GE220 GE221 GE222 hb
   (try clear hb)
   (try clear hb2)
   (try clear hk)
   (try clear hi)
   refine hK.out _ _ ⟨bcl BK220 0, bcl BK220 1, bcl BK220 2, bcl BK220 3, HS4_, HS5_, HS6_, HS7_⟩ (fun hHeld => ?_)
   clear hK K
   refine norm_ (a' := ?_) ?_ ?_
   rotate_left
   ·show Act.put _ (some 19) _ = _
    simp only [Act.put, sA, sB, sC, i64_w, i32_w]
    rfl
   refine ro 12 (none) (bT 13 13) HT_ (fun K hK => ?_)
   have hs24 : w23.cell? ⟨gb222, 0, none⟩ = some (.int .i64 0) := bcl BK222 0
   have hfs24 := blk_frozen BK222.out 0
   have hns24_0 := NB220_222.out
   have hns24_1 := NB221_222.out
   have hms24_0 := NB222_220.out
   have hms24_1 := NB222_221.out
   have hs25 : w23.cell? ⟨gb222, 1, none⟩ = some (.int .i64 0) := bcl BK222 1
   have hfs25 := blk_frozen BK222.out 1
   have hns25_0 := NB220_222.out
   have hns25_1 := NB221_222.out
   have hms25_0 := NB222_220.out
   have hms25_1 := NB222_221.out
   have hs26 : w23.cell? ⟨gb222, 2, none⟩ = some (.int .i64 0) := bcl BK222 2
   have hfs26 := blk_frozen BK222.out 2
   have hns26_0 := NB220_222.out
   have hns26_1 := NB221_222.out
   have hms26_0 := NB222_220.out
   have hms26_1 := NB222_221.out
   refine skip_ (w1 := ?_) (by rfl) rfl ?_ ?_
   rotate_left
   ·go_simp
    rfl
   refine hK.out _ _ ⟨(cf NB220_222 ((cf NB220_222 ((cf NB220_222 (hHeld.1)))))), (cf NB220_222 ((cf NB220_222 ((cf NB220_222 (hHeld.2.1)))))), (cf NB220_222 ((cf NB220_222 ((cf NB220_222 (hHeld.2.2.1)))))), (cf NB220_222 ((cf NB220_222 ((cf NB220_222 (hHeld.2.2.2.1)))))), ((cell_far (p := ⟨gb222, _, none⟩) (by first | exact Kd.own_blk (Kd.R_ne HO225.out BK222.out (by decide)) | (rw [add_block]; exact Kd.own_blk (Kd.R_ne HO225.out BK222.out (by decide))) | (show (Addr.add _ _).block ≠ _; rw [add_block]; exact Kd.own_blk (Kd.R_ne HO225.out BK222.out (by decide))) | (dsimp only; exact Kd.own_blk (Kd.R_ne HO225.out BK222.out (by decide)))) _).trans (((cell_far (p := ⟨gb222, _, none⟩) (by first | exact Kd.own_blk (Kd.R_ne HO225.out BK222.out (by decide)) | (rw [add_block]; exact Kd.own_blk (Kd.R_ne HO225.out BK222.out (by decide))) | (show (Addr.add _ _).block ≠ _; rw [add_block]; exact Kd.own_blk (Kd.R_ne HO225.out BK222.out (by decide))) | (dsimp only; exact Kd.own_blk (Kd.R_ne HO225.out BK222.out (by decide)))) _).trans (((cell_far (p := ⟨gb222, _, none⟩) (by first | exact Kd.own_blk (Kd.R_ne HO225.out BK222.out (by decide)) | (rw [add_block]; exact Kd.own_blk (Kd.R_ne HO225.out BK222.out (by decide))) | (show (Addr.add _ _).block ≠ _; rw [add_block]; exact Kd.own_blk (Kd.R_ne HO225.out BK222.out (by decide))) | (dsimp only; exact Kd.own_blk (Kd.R_ne HO225.out BK222.out (by decide)))) _).trans (hHeld.2.2.2.2.1)))))), ((cell_far (p := ⟨gb222, _, none⟩) (by first | exact Kd.own_blk (Kd.R_ne HO225.out BK222.out (by decide)) | (rw [add_block]; exact Kd.own_blk (Kd.R_ne HO225.out BK222.out (by decide))) | (show (Addr.add _ _).block ≠ _; rw [add_block]; exact Kd.own_blk (Kd.R_ne HO225.out BK222.out (by decide))) | (dsimp only; exact Kd.own_blk (Kd.R_ne HO225.out BK222.out (by decide)))) _).trans (((cell_far (p := ⟨gb222, _, none⟩) (by first | exact Kd.own_blk (Kd.R_ne HO225.out BK222.out (by decide)) | (rw [add_block]; exact Kd.own_blk (Kd.R_ne HO225.out BK222.out (by decide))) | (show (Addr.add _ _).block ≠ _; rw [add_block]; exact Kd.own_blk (Kd.R_ne HO225.out BK222.out (by decide))) | (dsimp only; exact Kd.own_blk (Kd.R_ne HO225.out BK222.out (by decide)))) _).trans (((cell_far (p := ⟨gb222, _, none⟩) (by first | exact Kd.own_blk (Kd.R_ne HO225.out BK222.out (by decide)) | (rw [add_block]; exact Kd.own_blk (Kd.R_ne HO225.out BK222.out (by decide))) | (show (Addr.add _ _).block ≠ _; rw [add_block]; exact Kd.own_blk (Kd.R_ne HO225.out BK222.out (by decide))) | (dsimp only; exact Kd.own_blk (Kd.R_ne HO225.out BK222.out (by decide)))) _).trans (hHeld.2.2.2.2.2.1)))))), ((cell_far (p := ⟨gb222, _, none⟩) (by first | exact Kd.own_blk (Kd.R_ne HO225.out BK222.out (by decide)) | (rw [add_block]; exact Kd.own_blk (Kd.R_ne HO225.out BK222.out (by decide))) | (show (Addr.add _ _).block ≠ _; rw [add_block]; exact Kd.own_blk (Kd.R_ne HO225.out BK222.out (by decide))) | (dsimp only; exact Kd.own_blk (Kd.R_ne HO225.out BK222.out (by decide)))) _).trans (((cell_far (p := ⟨gb222, _, none⟩) (by first | exact Kd.own_blk (Kd.R_ne HO225.out BK222.out (by decide)) | (rw [add_block]; exact Kd.own_blk (Kd.R_ne HO225.out BK222.out (by decide))) | (show (Addr.add _ _).block ≠ _; rw [add_block]; exact Kd.own_blk (Kd.R_ne HO225.out BK222.out (by decide))) | (dsimp only; exact Kd.own_blk (Kd.R_ne HO225.out BK222.out (by decide)))) _).trans (((cell_far (p := ⟨gb222, _, none⟩) (by first | exact Kd.own_blk (Kd.R_ne HO225.out BK222.out (by decide)) | (rw [add_block]; exact Kd.own_blk (Kd.R_ne HO225.out BK222.out (by decide))) | (show (Addr.add _ _).block ≠ _; rw [add_block]; exact Kd.own_blk (Kd.R_ne HO225.out BK222.out (by decide))) | (dsimp only; exact Kd.own_blk (Kd.R_ne HO225.out BK222.out (by decide)))) _).trans (hHeld.2.2.2.2.2.2.1)))))), ((cell_far (p := ⟨gb222, _, none⟩) (by first | exact Kd.own_blk (Kd.R_ne HO225.out BK222.out (by decide)) | (rw [add_block]; exact Kd.own_blk (Kd.R_ne HO225.out BK222.out (by decide))) | (show (Addr.add _ _).block ≠ _; rw [add_block]; exact Kd.own_blk (Kd.R_ne HO225.out BK222.out (by decide))) | (dsimp only; exact Kd.own_blk (Kd.R_ne HO225.out BK222.out (by decide)))) _).trans (((cell_far (p := ⟨gb222, _, none⟩) (by first | exact Kd.own_blk (Kd.R_ne HO225.out BK222.out (by decide)) | (rw [add_block]; exact Kd.own_blk (Kd.R_ne HO225.out BK222.out (by decide))) | (show (Addr.add _ _).block ≠ _; rw [add_block]; exact Kd.own_blk (Kd.R_ne HO225.out BK222.out (by decide))) | (dsimp only; exact Kd.own_blk (Kd.R_ne HO225.out BK222.out (by decide)))) _).trans (((cell_far (p := ⟨gb222, _, none⟩) (by first | exact Kd.own_blk (Kd.R_ne HO225.out BK222.out (by decide)) | (rw [add_block]; exact Kd.own_blk (Kd.R_ne HO225.out BK222.out (by decide))) | (show (Addr.add _ _).block ≠ _; rw [add_block]; exact Kd.own_blk (Kd.R_ne HO225.out BK222.out (by decide))) | (dsimp only; exact Kd.own_blk (Kd.R_ne HO225.out BK222.out (by decide)))) _).trans (hHeld.2.2.2.2.2.2.2))))))⟩ (fun hHeld => ?_)
   clear hK K
   refine done_ (done_of HT_.out (by kernel_rfl)) ?_
   try go_wp2
   refine bodyPost_ret (results_cell_row rfl _ _ gb222 29 #[.int .i64 t235, .int .i64 t236, .int .i64 t237] (0, 0) _ rfl (bq0 BK222) Tryz.underlying29 rfl (by kernel_rfl)) rfl ?_
   exact er (bbw3 HB GE220 GE221 GE222)
  ·rw [if_neg c6] at H
   exact absurd H (by simp)
 ·rw [if_neg c4] at H
  exact absurd H (by simp)

attribute [local go_sem high] eqA29
/-! ### spec_IsSuitable: function 29 -/
def spec_IsSuitable.f (k : Nat) (a0 : Int) (a1_0 : Int) (a1_1 : Int) (a1_2 : Int) (a2_0 : Int) (a2_1 : Int) (a2_2 : Int) (a2_3 : Int) (a2_4 : Int) (a2_5 : Int) : Option (Bool) := (spec_l04Code.f a0 a1_0 a1_1 a1_2).bind fun t240 => (if t240 = 0 then ((spec_IsPointMat.f a0 a2_0 a2_1 a2_2 a2_3).bind fun t241 => (if t241 = true then ((spec_l04Image.f k a2_0 a2_1 a2_2 a2_3 a1_0 a1_1 a1_2).bind fun bt242 => (if (bt242.1 == a1_0 && (bt242.2.1 == a1_1 && (bt242.2.2 == a1_2))) = true then ((spec_IsVec.f a2_4 a2_5).bind fun t245 => (some t245)) else (some false))) else (some false))) else (some false))
def spec_IsSuitable.T1 : Bool × List (List Nat × List Nat) := (true, [([], []), ([], []), ([0, 1], [0, 1]), ([2], [2]), ([3, 2], [3]), ([4], [4]), ([4], [4]), ([6, 4], [4, 6]), ([5, 7, 4, 4], [4, 5, 7]), ([4, 8], [4, 8]), ([9, 8], [9]), ([10], [10]), ([11, 10], [10, 11]), ([10], [10]), ([12, 13, 10, 10], [10, 12, 13]), ([10], [10]), ([14, 15, 10], [10, 14, 15]), ([10, 16], [10, 16]), ([17, 14], [17]), ([18], [18]), ([19, 18], [18, 19]), ([20, 18, 18], [18, 20]), ([18, 21], [18, 21]), ([22, 21, 0, 1, 2, 3, 4, 5, 6, 7, 8, 9, 10, 11, 12, 13, 14, 15, 16, 17, 18, 19, 20, 21, 22], [22])])
def spec_IsSuitable.B1 : List Nat := [0, 0, 3, 7, 15, 31, 31, 95, 255, 511, 1023, 2047, 4095, 2047, 16383, 2047, 65535, 131071, 262143, 524287, 1048575, 2097151, 4194303, 8388607]
theorem spec_IsSuitable.tab1 : rtab .any (opsOf Tryz.f29 1) = spec_IsSuitable.T1 := by kernel_rfl
theorem spec_IsSuitable.bits1 : waitsOk spec_IsSuitable.T1.2 spec_IsSuitable.B1 = true := by kernel_rfl
set_option maxHeartbeats 8000000 in
set_option maxRecDepth 100000 in
theorem spec_IsSuitable.calls (k : Nat) (a0 : Int) (a1_0 : Int) (a1_1 : Int) (a1_2 : Int) (a2_0 : Int) (a2_1 : Int) (a2_2 : Int) (a2_3 : Int) (a2_4 : Int) (a2_5 : Int) (r : Bool) (w : World) (h : spec_IsSuitable.f k a0 a1_0 a1_1 a1_2 a2_0 a2_1 a2_2 a2_3 a2_4 a2_5 = some r) :
  Calls Tryz.prog 29 #[.int .i64 a0, .agg #[.int .i64 a1_0, .int .i64 a1_1, .int .i64 a1_2], .agg #[.int .i64 a2_0, .int .i64 a2_1, .int .i64 a2_2, .int .i64 a2_3, .int .i64 a2_4, .int .i64 a2_5]] w fun e w' => e = .returned (.bool r) ∧ Below w.heap.size w w' := by
 have hu29 := Tryz.underlying29
 have hu48 := Tryz.underlying48
 have hu46 := Tryz.underlying46
 have hu38 := Tryz.underlying38
 have HB := asd (Below.refl w.heap.size w)
 have H : ((spec_l04Code.f a0 a1_0 a1_1 a1_2).bind fun t240 => (if t240 = 0 then ((spec_IsPointMat.f a0 a2_0 a2_1 a2_2 a2_3).bind fun t241 => (if t241 = true then ((spec_l04Image.f k a2_0 a2_1 a2_2 a2_3 a1_0 a1_1 a1_2).bind fun bt242 => (if (bt242.1 == a1_0 && (bt242.2.1 == a1_1 && (bt242.2.2 == a1_2))) = true then ((spec_IsVec.f a2_4 a2_5).bind fun t245 => (some t245)) else (some false))) else (some false))) else (some false))) = some r := h
 clear h
 obtain ⟨t240, A4, H⟩ := ob H
 try dsimp only at H
 by_cases c5 : t240 = 0
 rw [if_pos c5] at H
 have c5b0 : (t240 == 0) = true := beq_iff_eq.mpr c5
 have c5b1 : (t240 != 0) = false := bne_eq_false_iff_eq.mpr c5
 clear c5
 obtain ⟨t241, A6, H⟩ := ob H
 try dsimp only at H
 by_cases c7 : t241 = true
 subst c7
 replace H := ifT H
 obtain ⟨⟨t242, t243, t244⟩, A8, H⟩ := ob H
 try dsimp only at H
 by_cases c9 : (t242 == a1_0 && (t243 == a1_1 && (t244 == a1_2))) = true
 rw [if_pos c9] at H
 have c9b0 := c9
 (try (have c9b1 : decide (t242 = a1_0 && (t243 == a1_1 && (t244 == a1_2))) = true := by simpa using c9))
 (try (have c9b2 : (t242 == a1_0 && (t243 == a1_1 && (t244 == a1_2))) = true := by simpa using c9))
 clear c9
 obtain ⟨t245, A10, H⟩ := ob H
 try dsimp only at H
 obtain rfl := Option.some.inj H
 rotate_left
 rw [if_neg c9] at H
 have c9b0 : (t242 == a1_0 && (t243 == a1_1 && (t244 == a1_2))) = false := by simpa using c9
 (try (have c9b1 : decide (t242 = a1_0 && (t243 == a1_1 && (t244 == a1_2))) = false := by simpa using c9))
 (try (have c9b2 : (t242 == a1_0 && (t243 == a1_1 && (t244 == a1_2))) = false := by simpa using c9))
 (try (have c9b3 : ¬ (t242 = a1_0 && (t243 == a1_1 && (t244 == a1_2))) := by simpa using c9))
 clear c9
 obtain rfl := Option.some.inj H
 rotate_left
 replace c7 := Bool.eq_false_iff.mpr c7
 subst c7
 replace H := ifF H
 obtain rfl := Option.some.inj H
 rotate_left
 rw [if_neg c5] at H
 have c5b0 : (t240 == 0) = false := beq_eq_false_iff_ne.mpr c5
 have c5b1 : (t240 != 0) = true := bne_iff_ne.mpr c5
 obtain rfl := Option.some.inj H
 rotate_left
 all_goals
  go_enter Tryz.func29, Tryz.ntmps29
  try go_wp2_with (first | ((with_reducible refine gd 4 rfl ?_); refine bx #[.int .i64 a1_0, .int .i64 a1_1, .int .i64 a1_2] 29 ?_; intro gb238 hg w11 BK238 hb; have GE238 := ngw0 hg HB; replace HB := bS0 HB hb; clear hb hg) | ((with_reducible refine gd 5 rfl ?_); refine bx #[.int .i64 a2_0, .int .i64 a2_1, .int .i64 a2_2, .int .i64 a2_3, .int .i64 a2_4, .int .i64 a2_5] 48 ?_; intro gb239 hg w12 BK239 hb; have GE239 := ngw1 hg HB GE238; replace HB := bS1 HB GE238 hb; have NB238_239 := nlt hg BK238; have NB239_238 := nsy (nlt hg BK238); replace BK238 := bB BK238 hb; clear hb hg))
  replace BK238 := asd (blk_drew BK238.out)
  replace BK239 := asd (blk_drew BK239.out)
  replace HB := asd (below_drew1 HB.out)
 refine sh 24 (cb3 BK238 (eb6 BK239)) (fun hHeld => ?_); refine with_tabW spec_IsSuitable.tab1 spec_IsSuitable.bits1 (fun HT_ HW_ => ?_)
 rotate_left
 refine sh 24 (cb3 BK238 (eb6 BK239)) (fun hHeld => ?_); refine with_tabW spec_IsSuitable.tab1 spec_IsSuitable.bits1 (fun HT_ HW_ => ?_)
 rotate_left
 refine sh 24 (cb3 BK238 (eb6 BK239)) (fun hHeld => ?_); refine with_tabW spec_IsSuitable.tab1 spec_IsSuitable.bits1 (fun HT_ HW_ => ?_)
 rotate_left
 refine sh 24 (eb3 BK238) (fun hHeld => ?_); refine with_tabW spec_IsSuitable.tab1 spec_IsSuitable.bits1 (fun HT_ HW_ => ?_)
 rotate_left
 all_goals
  generalize w12.drew = w13 at BK238 BK239 HB hHeld ⊢
  refine pu 0 (some 7) (bT 24 1) HT_ ?_
  refine ta 1 (some 8) (bT 24 2) HT_ HW_ hHeld ?_
  refine ro 2 (some 9) (bT 24 3) HT_ (fun K hK => ?_)
  refine gs Tryz.func60 #[.int .i64 a0, .agg #[.int .i64 a1_0, .int .i64 a1_1, .int .i64 a1_2]] ?_
  with_reducible refine (spec_l04Code.calls _ _ _ _ _ _ A4.out).mono ?_
  rintro e w14 ⟨rfl, hb⟩
  refine ⟨_, rfl, ?_⟩
  replace BK238 := bB BK238 hb
  replace BK239 := bB BK239 hb
  replace HB := bS2 HB GE238 GE239 hb
  (try clear hb)
  (try clear hb2)
  (try clear hk)
  (try clear hi)
 rotate_left 3
 ·refine hK.out _ _ (eb3 BK238).out (fun hHeld => ?_)
  clear hK K
  refine norm_ (a' := ?_) ?_ ?_
  rotate_left
  ·show Act.put _ (some 9) _ = _
   simp only [Act.put, sA, sB, sC, i64_w, i32_w]
   rfl
  refine pu 3 (some 10) (bT 24 4) HT_ ?_
  refine pu 4 (some 11) (bT 24 5) HT_ ?_
  refine pf 5 (some 12) (bT 24 6) HT_ ?_
  refine pf 6 (some 13) (bT 24 7) HT_ ?_
  refine pf 7 (some 14) (bT 24 8) HT_ ?_
  refine pf 8 (some 15) (bT 24 9) HT_ ?_
  refine pu 9 (some 16) (bT 24 10) HT_ ?_
  refine pu 10 (some 17) (bT 24 11) HT_ ?_
  refine pf 11 (some 18) (bT 24 12) HT_ ?_
  refine pf 12 (some 19) (bT 24 13) HT_ ?_
  refine pf 13 (some 20) (bT 24 14) HT_ ?_
  refine pf 14 (some 21) (bT 24 15) HT_ ?_
  refine pf 15 (some 22) (bT 24 16) HT_ ?_
  refine pf 16 (some 23) (bT 24 17) HT_ ?_
  refine pu 17 (some 24) (bT 24 18) HT_ ?_
  refine pu 18 (some 25) (bT 24 19) HT_ ?_
  refine pf 19 (some 26) (bT 24 20) HT_ ?_
  refine pf 20 (some 27) (bT 24 21) HT_ ?_
  refine pf 21 (some 28) (bT 24 22) HT_ ?_
  refine pu 22 (some 29) (bT 24 23) HT_ ?_
  refine pu 23 (some 6) (bT 24 24) HT_ ?_
  refine done_ (done_of HT_.out (by kernel_rfl)) ?_
  try go_wp2
  go_ret
  exact er (bbw2 HB GE238 GE239)
 all_goals
  refine hK.out _ _ (cb3 BK238 (eb6 BK239)).out (fun hHeld => ?_)
  clear hK K
  refine norm_ (a' := ?_) ?_ ?_
  rotate_left
  ·show Act.put _ (some 9) _ = _
   simp only [Act.put, sA, sB, sC, i64_w, i32_w]
   rfl
  refine pu 3 (some 10) (bT 24 4) HT_ ?_
  refine pu 4 (some 11) (bT 24 5) HT_ ?_
  refine pu 5 (some 12) (bT 24 6) HT_ ?_
  refine pu 6 (some 13) (bT 24 7) HT_ ?_
  refine ta 7 (some 14) (bT 24 8) HT_ HW_ hHeld ?_
  refine ro 8 (some 15) (bT 24 9) HT_ (fun K hK => ?_)
  refine gs Tryz.func61 #[.int .i64 a0, .agg #[.int .i64 a2_0, .int .i64 a2_1, .int .i64 a2_2, .int .i64 a2_3]] ?_
  with_reducible refine (spec_IsPointMat.calls _ _ _ _ _ _ _ A6.out).mono ?_
  rintro e w15 ⟨rfl, hb⟩
  refine ⟨_, rfl, ?_⟩
  replace BK238 := bB BK238 hb
  replace BK239 := bB BK239 hb
  replace HB := bS2 HB GE238 GE239 hb
  (try clear hb)
  (try clear hb2)
  (try clear hk)
  (try clear hi)
  refine hK.out _ _ (cb3 BK238 (eb6 BK239)).out (fun hHeld => ?_)
  clear hK K
  refine norm_ (a' := ?_) ?_ ?_
  rotate_left
  ·show Act.put _ (some 15) _ = _
   simp only [Act.put, sA, sB, sC, i64_w, i32_w]
   rfl
  refine pu 9 (some 16) (bT 24 10) HT_ ?_
  refine pu 10 (some 17) (bT 24 11) HT_ ?_
 rotate_left 2
 ·refine pf 11 (some 18) (bT 24 12) HT_ ?_
  refine pf 12 (some 19) (bT 24 13) HT_ ?_
  refine pf 13 (some 20) (bT 24 14) HT_ ?_
  refine pf 14 (some 21) (bT 24 15) HT_ ?_
  refine pf 15 (some 22) (bT 24 16) HT_ ?_
  refine pf 16 (some 23) (bT 24 17) HT_ ?_
  refine pu 17 (some 24) (bT 24 18) HT_ ?_
  refine pu 18 (some 25) (bT 24 19) HT_ ?_
  refine pf 19 (some 26) (bT 24 20) HT_ ?_
  refine pf 20 (some 27) (bT 24 21) HT_ ?_
  refine pf 21 (some 28) (bT 24 22) HT_ ?_
  refine pu 22 (some 29) (bT 24 23) HT_ ?_
  refine pu 23 (some 6) (bT 24 24) HT_ ?_
  refine done_ (done_of HT_.out (by kernel_rfl)) ?_
  try go_wp2
  go_ret
  exact er (bbw2 HB GE238 GE239)
 all_goals
  refine pu 11 (some 18) (bT 24 12) HT_ ?_
  refine ta 12 (some 19) (bT 24 13) HT_ HW_ hHeld ?_
  refine ta 13 (some 20) (bT 24 14) HT_ HW_ hHeld ?_
  refine ta 15 (some 22) (bs 24 49151) HT_ HW_ hHeld ?_
  refine ro 14 (some 21) (bT 24 16) HT_ (fun K hK => ?_)
  refine gs Tryz.func62 #[.agg #[.int .i64 a2_0, .int .i64 a2_1, .int .i64 a2_2, .int .i64 a2_3], .agg #[.int .i64 a1_0, .int .i64 a1_1, .int .i64 a1_2]] ?_
  with_reducible refine (spec_l04Image.calls _ _ _ _ _ _ _ _ _ _ _ _ A8.out).mono ?_
  rintro e w16 ⟨rfl, hb⟩
  refine ⟨_, rfl, ?_⟩
  replace BK238 := bB BK238 hb
  replace BK239 := bB BK239 hb
  replace HB := bS2 HB GE238 GE239 hb
  (try clear hb)
  (try clear hb2)
  (try clear hk)
  (try clear hi)
  refine hK.out _ _ (cb3 BK238 (eb6 BK239)).out (fun hHeld => ?_)
  clear hK K
  refine norm_ (a' := ?_) ?_ ?_
  rotate_left
  ·show Act.put _ (some 21) _ = _
   simp only [Act.put, sA, sB, sC, i64_w, i32_w]
   rfl
  refine pu 16 (some 23) (bT 24 17) HT_ ?_
  refine pu 17 (some 24) (bT 24 18) HT_ ?_
  refine pu 18 (some 25) (bT 24 19) HT_ ?_
 focus
  refine pu 19 (some 26) (bT 24 20) HT_ ?_
  refine ta 20 (some 27) (bT 24 21) HT_ HW_ hHeld ?_
  refine ro 21 (some 28) (bT 24 22) HT_ (fun K hK => ?_)
  refine gs Tryz.func40 #[.agg #[.int .i64 a2_4, .int .i64 a2_5]] ?_
  with_reducible refine (spec_IsVec.calls _ _ _ _ A10.out).mono ?_
  rintro e w17 ⟨rfl, hb⟩
  refine ⟨_, rfl, ?_⟩
  replace BK238 := bB BK238 hb
  replace BK239 := bB BK239 hb
  replace HB := bS2 HB GE238 GE239 hb
  (try clear hb)
  (try clear hb2)
  (try clear hk)
  (try clear hi)
  refine hK.out _ _ (cb3 BK238 (eb6 BK239)).out (fun hHeld => ?_)
  clear hK K
  refine norm_ (a' := ?_) ?_ ?_
  rotate_left
  ·show Act.put _ (some 28) _ = _
   simp only [Act.put, sA, sB, sC, i64_w, i32_w]
   rfl
  refine pu 22 (some 29) (bT 24 23) HT_ ?_
 rotate_left
 refine pf 19 (some 26) (bT 24 20) HT_ ?_
 refine pf 20 (some 27) (bT 24 21) HT_ ?_
 refine pf 21 (some 28) (bT 24 22) HT_ ?_
 refine pu 22 (some 29) (bT 24 23) HT_ ?_
 rotate_left
 all_goals
  refine pu 23 (some 6) (bT 24 24) HT_ ?_
  refine done_ (done_of HT_.out (by kernel_rfl)) ?_
  try go_wp2
  go_ret
  exact er (bbw2 HB GE238 GE239)

attribute [local go_sem high] eqA46 eqA48
/-! ### spec_l01LessList: function 134 -/
mutual
def spec_l01LessList.l0 : Nat → List Int → List Int → Int → Option (Bool)
 | 0, _, _, _ => none
 | k + 1, x0, x1, x5 => if x5 < (x0.length : Int) then (spec_l01LessList.j1 k x0 x1 x5 (decide (x5 < (x1.length : Int)))) else (spec_l01LessList.j1 k x0 x1 x5 false)
def spec_l01LessList.j1 : Nat → List Int → List Int → Int → Bool → Option (Bool)
 | 0, _, _, _, _ => none
 | k + 1, x0, x1, x5, x15 => if x15 = true then (if 0 ≤ x5 then (if x5 < (x0.length : Int) then (if x5 < (x1.length : Int) then (if (rd x0 x5) = (rd x1 x5) then (spec_l01LessList.l0 k x0 x1 (wrap64 (x5 + 1))) else (some (decide ((rd x0 x5) < (rd x1 x5))))) else (none)) else (none)) else (none)) else (some (decide ((x0.length : Int) < (x1.length : Int))))
end
def spec_l01LessList.f (k : Nat) (l0 : List Int) (l1 : List Int) : Option (Bool) := spec_l01LessList.l0 k l0 l1 0
theorem spec_l01LessList.mono_l : ∀ k, (∀ y0 y1 y2, LeO (spec_l01LessList.l0 k y0 y1 y2) (spec_l01LessList.l0 (k + 1) y0 y1 y2)) ∧ (∀ y0 y1 y2 y3, LeO (spec_l01LessList.j1 k y0 y1 y2 y3) (spec_l01LessList.j1 (k + 1) y0 y1 y2 y3))
 | 0 => ⟨fun _ _ _ r h => by simp [spec_l01LessList.l0] at h, fun _ _ _ _ r h => by simp [spec_l01LessList.j1] at h⟩
 | k + 1 => by
  obtain ⟨ih0, ih1⟩ := spec_l01LessList.mono_l k
  refine ⟨?_, ?_⟩
  ·intro y0 y1 y2
   unfold spec_l01LessList.l0
   repeat' first
   | (with_reducible exact ih0 _ _ _)
   | (with_reducible exact ih1 _ _ _ _)
   | (with_reducible exact LeO.refl _)
   | (with_reducible exact LeO.none _)
   | (with_reducible refine LeO.ite ?_ ?_)
   | (with_reducible refine LeO.bind ?_ (fun _ => ?_))
   | exact ih0 _ _ _
   | exact ih1 _ _ _ _
   | exact LeO.none _
   | refine LeO.ite ?_ ?_
   | refine LeO.bind ?_ (fun _ => ?_)
  ·intro y0 y1 y2 y3
   unfold spec_l01LessList.j1
   repeat' first
   | (with_reducible exact ih0 _ _ _)
   | (with_reducible exact ih1 _ _ _ _)
   | (with_reducible exact LeO.refl _)
   | (with_reducible exact LeO.none _)
   | (with_reducible refine LeO.ite ?_ ?_)
   | (with_reducible refine LeO.bind ?_ (fun _ => ?_))
   | exact ih0 _ _ _
   | exact ih1 _ _ _ _
   | exact LeO.none _
   | refine LeO.ite ?_ ?_
   | refine LeO.bind ?_ (fun _ => ?_)
theorem spec_l01LessList.mono : ∀ a0 a1 k, LeO (spec_l01LessList.f k a0 a1) (spec_l01LessList.f (k + 1) a0 a1) := by
 intro a0 a1 k
 obtain ⟨ih0, ih1⟩ := spec_l01LessList.mono_l k
 unfold spec_l01LessList.f
 repeat' first
   | (with_reducible exact ih0 _ _ _)
   | (with_reducible exact ih1 _ _ _ _)
   | (with_reducible exact LeO.refl _)
   | (with_reducible exact LeO.none _)
   | (with_reducible refine LeO.ite ?_ ?_)
   | (with_reducible refine LeO.bind ?_ (fun _ => ?_))
   | exact ih0 _ _ _
   | exact ih1 _ _ _ _
   | exact LeO.none _
   | refine LeO.ite ?_ ?_
   | refine LeO.bind ?_ (fun _ => ?_)
set_option maxHeartbeats 8000000 in
set_option maxRecDepth 100000 in
theorem spec_l01LessList.calls (k : Nat) (A0 : Option Addr) (c0 : Nat) (l0 : List Int) (A1 : Option Addr) (c1 : Nat) (l1 : List Int) (r : Bool) (w : World) (hr0 : Kd.C (Kd.int .i64) w A0 l0.length l0) (hc0 : l0.length ≤ c0) (hr1 : Kd.C (Kd.int .i64) w A1 l1.length l1) (hc1 : l1.length ≤ c1) (h : spec_l01LessList.f k l0 l1 = some r) :
  Calls Tryz.prog 134 #[.slice A0 l0.length c0, .slice A1 l1.length c1] w fun e w' => e = .returned (.bool r) ∧ Drawn0 w w' := by
 have HR0 := Aside0.mk hr0
 have HC0 := Aside0.mk hc0
 clear hr0 hc0
 have HR1 := Aside0.mk hr1
 have HC1 := Aside0.mk hc1
 clear hr1 hc1
 have H : (spec_l01LessList.l0 k l0 l1 0) = some r := h
 clear h
 have H' := Aside0.mk H
 clear H
 go_enter Tryz.func134, Tryz.ntmps134
 go_wp2
 repeat (go_quiet (fail); try go_wp2)
 go_loopg [5] k (fun kq v5 w' => ∃ (x5_1 : Int), v5 = .int .i64 x5_1 ∧ Aside0 (spec_l01LessList.l0 kq l0 l1 x5_1 = some r) ∧ Aside0 (kq ≤ k) ∧ Drawn0 w w')
 case atStart => exact ⟨(0), (by first | rfl | (simp; done) | (simp [*]; done)), H', ⟨Nat.le_refl _⟩, by repeat (first | exact Drawn0.refl _ | apply Drawn0.step)⟩
 case round =>
  clear H'
  try clear c1
  try clear p2
  obtain ⟨x5_1, rfl, HA, HK1, ⟨m1, rfl⟩⟩ := hrel
  cases gk with
  | zero => exact absurd HA.out (by simp [spec_l01LessList.l0])
  | succ k1 =>
   have H := HA.out
   clear HA
   simp only [spec_l01LessList.l0] at H
   have HC3 := Aside0.mk H
   clear H
   go_upto_region 2 with (fail)
   repeat (go_quiet (fail); go_upto_region 2 with (fail))
   go_cut [15] (fun v15 wc => ∃ (kq : Nat) (x15_2 : Bool), v15 = .bool x15_2 ∧ Aside0 (spec_l01LessList.j1 kq l0 l1 x5_1 x15_2 = some r) ∧ Aside0 (kq ≤ k1) ∧ Drawn0 w wc)
   case first =>
    have H := HC3.out
    clear HC3
    by_cases c4 : x5_1 < (l0.length : Int)
    ·rw [if_pos c4] at H
     have c4b0 := decide_eq_true c4
     clear c4
     (first | rw [c4b0] | (simp only [i64_w, i32_w]; rw [c4b0]) | skip)
     have H' := Aside0.mk H
     clear H
     go_wp2
     repeat (go_quiet (fail); try go_wp2)
     go_meet
     case rel => exact ⟨_, (decide (x5_1 < (l1.length : Int))), (by first | rfl | (simp; done) | (simp [*]; done)), H', ⟨by have := HK1.out; first | omega | exact Nat.le_refl _⟩, by repeat (first | exact Drawn0.refl _ | apply Drawn0.step)⟩
    ·rw [if_neg c4] at H
     have c4b0 := decide_eq_false c4
     clear c4
     (first | rw [c4b0] | (simp only [i64_w, i32_w]; rw [c4b0]) | skip)
     have H' := Aside0.mk H
     clear H
     go_wp2
     repeat (go_quiet (fail); try go_wp2)
     go_meet
     case rel => exact ⟨_, (false), (by first | rfl | (simp; done) | (simp [*]; done)), H', ⟨by have := HK1.out; first | omega | exact Nat.le_refl _⟩, by repeat (first | exact Drawn0.refl _ | apply Drawn0.step)⟩
   case rest =>
    clear HC3
    try clear c1
    try clear p2
    try clear c4
    try clear c4b0
    try clear p2
    obtain ⟨kq, x15_2, rfl, HA, HJ2, ⟨mc2, rfl⟩⟩ := hcut
    cases kq with
    | zero => exact absurd HA.out (by simp [spec_l01LessList.j1])
    | succ kj2 =>
     have H := HA.out
     clear HA
     simp only [spec_l01LessList.j1] at H
     by_cases c5 : x15_2 = true
     subst c5
     replace H := ifT H
     by_cases c6 : 0 ≤ x5_1
     rw [if_pos c6] at H
     have c6b0 := decide_eq_true c6
     clear c6
     by_cases c7 : x5_1 < (l0.length : Int)
     rw [if_pos c7] at H
     have c7b0 := decide_eq_true c7
     clear c7
     by_cases c8 : x5_1 < (l1.length : Int)
     rw [if_pos c8] at H
     have c8b0 := decide_eq_true c8
     clear c8
     by_cases c9 : (rd l0 x5_1) = (rd l1 x5_1)
     rw [if_pos c9] at H
     have c9b0 : ((rd l0 x5_1) == (rd l1 x5_1)) = true := beq_iff_eq.mpr c9
     have c9b1 : ((rd l0 x5_1) != (rd l1 x5_1)) = false := bne_eq_false_iff_eq.mpr c9
     clear c9
     have H' := Aside0.mk H
     clear H
     rotate_left
     rw [if_neg c9] at H
     have c9b0 : ((rd l0 x5_1) == (rd l1 x5_1)) = false := beq_eq_false_iff_ne.mpr c9
     have c9b1 : ((rd l0 x5_1) != (rd l1 x5_1)) = true := bne_iff_ne.mpr c9
     obtain rfl := Option.some.inj H
     rotate_left
     ·rw [if_neg c8] at H
      exact absurd H (by simp)
     ·rw [if_neg c7] at H
      exact absurd H (by simp)
     ·rw [if_neg c6] at H
      exact absurd H (by simp)
     replace c5 := Bool.eq_false_iff.mpr c5
     subst c5
     replace H := ifF H
     obtain rfl := Option.some.inj H
     rotate_left
     rotate_left 2
     ·go_wp2
      repeat (go_quiet (fail); try go_wp2)
      go_ret
      exact ⟨by first | rfl | (simp; done) | (simp [*]; done), by repeat (first | exact Drawn0.refl _ | apply Drawn0.step)⟩
     all_goals
      have p246 : 0 ≤ (x5_1 : Int) := od
      have q246 : x5_1 < (l0.length : Int) := od
      obtain ⟨ad246, e246, hx246_0⟩ := Kd.at_int HR0.out x5_1 p246 q246
      cases e246
      replace p246 := eq_true p246
      replace q246 := eq_true q246
      have p247 : 0 ≤ (x5_1 : Int) := od
      have q247 : x5_1 < (l1.length : Int) := od
      obtain ⟨ad247, e247, hx247_0⟩ := Kd.at_int HR1.out x5_1 p247 q247
      cases e247
      replace p247 := eq_true p247
      replace q247 := eq_true q247
     ·go_wp2
      repeat (go_quiet (fail); try go_wp2)
      go_roundg kj2
      case measure => have := HK1.out; have := HJ2.out; omega
      case rel => exact ⟨(wrap64 (x5_1 + 1)), (by first | rfl | (simp; done) | (simp [*]; done)), H', ⟨by have := HK1.out; have := HJ2.out; omega⟩, by repeat (first | exact Drawn0.refl _ | apply Drawn0.step)⟩
     ·have p248 : 0 ≤ (x5_1 : Int) := od
      have q248 : x5_1 < (l0.length : Int) := od
      obtain ⟨ad248, e248, hx248_0⟩ := Kd.at_int HR0.out x5_1 p248 q248
      obtain rfl : ad246 = ad248 := (by injection e248)
      replace p248 := eq_true p248
      replace q248 := eq_true q248
      have p249 : 0 ≤ (x5_1 : Int) := od
      have q249 : x5_1 < (l1.length : Int) := od
      obtain ⟨ad249, e249, hx249_0⟩ := Kd.at_int HR1.out x5_1 p249 q249
      obtain rfl : ad247 = ad249 := (by injection e249)
      replace p249 := eq_true p249
      replace q249 := eq_true q249
      go_wp2
      repeat (go_quiet (fail); try go_wp2)
      go_ret
      exact ⟨by first | rfl | (simp; done) | (simp [*]; done), by repeat (first | exact Drawn0.refl _ | apply Drawn0.step)⟩
/-! ### spec_l02Numbers: function 135 -/
def spec_l02Numbers.f (a0_0 : Int) (a0_1 : Int) (a0_2 : Int) (a0_3 : Int) : Option (List Int) := some (([a0_0, a0_1, a0_2, a0_3] : List Int))
set_option maxHeartbeats 8000000 in
set_option maxRecDepth 100000 in
theorem spec_l02Numbers.calls (a0_0 : Int) (a0_1 : Int) (a0_2 : Int) (a0_3 : Int) (r : List Int) (w : World) (h : spec_l02Numbers.f a0_0 a0_1 a0_2 a0_3 = some r) :
  Calls Tryz.prog 135 #[.agg #[.int .i64 a0_0, .int .i64 a0_1, .int .i64 a0_2, .int .i64 a0_3]] w fun e w' => ∃ v0_ : Value, e = .returned (v0_) ∧ Kd.R (Kd.int .i64) 2 w' w.heap.size (fun _ => True) v0_ r ∧ Below w.heap.size w w' := by
 have hu46 := Tryz.underlying46
 have HB := asd (Below.refl w.heap.size w)
 have H : (some (([a0_0, a0_1, a0_2, a0_3] : List Int))) = some r := h
 clear h
 obtain ⟨y251, hy251⟩ : ∃ y_ : List Int, y_ = (([a0_0, a0_1, a0_2, a0_3] : List Int)) := ⟨_, rfl⟩
 replace H : (some y251) = some r := by first | (rw [hy251]; with_reducible exact H) | (have H2_ := (Option.bind_some _ _).symm.trans H; rw [hy251]; with_reducible exact H2_) | (have H2_ := (Option.bind_some _ _).symm.trans H; with_reducible exact H2_) | with_reducible exact H | (rw [hy251]; exact H) | exact H
 have Ny251 := Aside0.mk hy251
 clear hy251
 obtain rfl := Option.some.inj H
 go_enter Tryz.func135, Tryz.ntmps135
 go_wp2_with (first | ((with_reducible refine gd 1 rfl ?_); refine bx #[.int .i64 a0_0, .int .i64 a0_1, .int .i64 a0_2, .int .i64 a0_3] 46 ?_; intro gb250 hg w2 BK250 hb; have GE250 := ngw0 hg HB; replace HB := bS0 HB hb; clear hb hg; obtain ⟨hcz3_0, hcz3_1, hcz3_2, hcz3_3, hfz3_0, hfz3_1, hfz3_2, hfz3_3⟩ := bz4 BK250) | ((with_reducible refine gd 11 rfl ?_); refine Kd.R_lit (Kd.int .i64) _ 2 ?hg (N := 11) ?hd (xs := ([a0_0, a0_1, a0_2, a0_3] : List Int)) (inner := [.int .i64 a0_0, .int .i64 a0_1, .int .i64 a0_2, .int .i64 a0_3]) (ok := fun _ => True) (okp := fun _ => True) ?hr ?hp (fun _ hk => hk) trivial (Below.refl _ _) (Nat.le_refl _) (by simp) ?_; (case hd => rfl); (case hg => rfl); (case hr => first | (go_simp; done) | (go_simp; rfl)); (case hp => exact (Reps.one (show Kd.M (Kd.int .i64) _ _ _ a0_0 [.int .i64 a0_0] from rfl) (Reps.one (show Kd.M (Kd.int .i64) _ _ _ a0_1 [.int .i64 a0_1] from rfl) (Reps.one (show Kd.M (Kd.int .i64) _ _ _ a0_2 [.int .i64 a0_2] from rfl) (Reps.one (show Kd.M (Kd.int .i64) _ _ _ a0_3 [.int .i64 a0_3] from rfl) (Reps.none _ _)))))); intro v252 w4 ho5 hb hg_ hnew_; clear hg_ hnew_; (first | rw [← Ny251.out] at ho5 | (simp only [Int.reduceToNat] at ho5; rw [← Ny251.out] at ho5)); have HO253 := asd (Kd.R_lower ho5 (bsz1 HB GE250)); replace BK250 := bB BK250 hb; replace HB := bS1 HB GE250 hb; clear hb ho5))
 go_ret
 exact ⟨_, by first | rfl | (simp [errW_none, errW_some] <;> rfl) | (simp [*, errW_none, errW_some] <;> rfl), by (with_reducible repeat (first | apply Kd.R_alloc | apply Kd.R_drewN | apply Kd.R_drew)); exact HO253.out, bbw1 HB GE250⟩
/-! ### spec_l02Less: function 113 -/
def spec_l02Less.f (k : Nat) (a0_0 : Int) (a0_1 : Int) (a0_2 : Int) (a0_3 : Int) (a1_0 : Int) (a1_1 : Int) (a1_2 : Int) (a1_3 : Int) : Option (Bool) := (spec_l02Numbers.f a0_0 a0_1 a0_2 a0_3).bind fun t256 => ((spec_l02Numbers.f a1_0 a1_1 a1_2 a1_3).bind fun t259 => ((spec_l01LessList.f k t256 t259).bind fun t262 => (some t262)))
theorem spec_l02Less.mono : ∀ a0 a1 a2 a3 a4 a5 a6 a7 k, LeO (spec_l02Less.f k a0 a1 a2 a3 a4 a5 a6 a7) (spec_l02Less.f (k + 1) a0 a1 a2 a3 a4 a5 a6 a7) := by
 intro a0 a1 a2 a3 a4 a5 a6 a7 k
 unfold spec_l02Less.f
 repeat' first
   | (with_reducible exact spec_l01LessList.mono _ _ _)
   | (with_reducible exact LeO.refl _)
   | (with_reducible exact LeO.none _)
   | (with_reducible refine LeO.ite ?_ ?_)
   | (with_reducible refine LeO.bind ?_ (fun _ => ?_))
   | exact spec_l01LessList.mono _ _ _
   | exact LeO.none _
   | refine LeO.ite ?_ ?_
   | refine LeO.bind ?_ (fun _ => ?_)
set_option maxHeartbeats 8000000 in
set_option maxRecDepth 100000 in
theorem spec_l02Less.calls (k : Nat) (a0_0 : Int) (a0_1 : Int) (a0_2 : Int) (a0_3 : Int) (a1_0 : Int) (a1_1 : Int) (a1_2 : Int) (a1_3 : Int) (r : Bool) (w : World) (h : spec_l02Less.f k a0_0 a0_1 a0_2 a0_3 a1_0 a1_1 a1_2 a1_3 = some r) :
  Calls Tryz.prog 113 #[.agg #[.int .i64 a0_0, .int .i64 a0_1, .int .i64 a0_2, .int .i64 a0_3], .agg #[.int .i64 a1_0, .int .i64 a1_1, .int .i64 a1_2, .int .i64 a1_3]] w fun e w' => e = .returned (.bool r) ∧ Below w.heap.size w w' := by
 have hu46 := Tryz.underlying46
 have HB := asd (Below.refl w.heap.size w)
 have H : ((spec_l02Numbers.f a0_0 a0_1 a0_2 a0_3).bind fun t256 => ((spec_l02Numbers.f a1_0 a1_1 a1_2 a1_3).bind fun t259 => ((spec_l01LessList.f k t256 t259).bind fun t262 => (some t262)))) = some r := h
 clear h
 obtain ⟨t256, A3, H⟩ := ob H
 try dsimp only at H
 obtain ⟨t259, A4, H⟩ := ob H
 try dsimp only at H
 obtain ⟨t262, A5, H⟩ := ob H
 try dsimp only at H
 obtain rfl := Option.some.inj H
 go_enter Tryz.func113, Tryz.ntmps113
 try go_wp2_with (first | ((with_reducible refine gd 2 rfl ?_); refine bx #[.int .i64 a0_0, .int .i64 a0_1, .int .i64 a0_2, .int .i64 a0_3] 46 ?_; intro gb254 hg w6 BK254 hb; have GE254 := ngw0 hg HB; replace HB := bS0 HB hb; clear hb hg) | ((with_reducible refine gd 3 rfl ?_); refine bx #[.int .i64 a1_0, .int .i64 a1_1, .int .i64 a1_2, .int .i64 a1_3] 46 ?_; intro gb255 hg w7 BK255 hb; have GE255 := ngw1 hg HB GE254; replace HB := bS1 HB GE254 hb; have NB254_255 := nlt hg BK254; have NB255_254 := nsy (nlt hg BK254); replace BK254 := bB BK254 hb; clear hb hg))
 replace BK254 := asd (blk_drew BK254.out)
 replace BK255 := asd (blk_drew BK255.out)
 replace HB := asd (below_drew1 HB.out)
 refine sh 6 (cb4 BK254 (eb4 BK255)) (fun hHeld => ?_)
 generalize w7.drew = w8 at BK254 BK255 HB hHeld ⊢
 refine take_ (i := 0) (N := some 5) (v := ?_) (a' := ?_) (bT 6 1) rfl rfl (by kernel_rfl) (fun _ _ _ h => h) (Or.inl ⟨by rfl, ?_⟩) hHeld ?_ ?_
 rotate_left
 ·rintro w' ⟨s0, s1, s2, s3, s4, s5, s6, s7⟩
  go_simp
  with_reducible rfl
 rotate_left
 ·simp only [Act.put, sA, sB, sC, i64_w, i32_w]
  rfl
 refine take_ (i := 2) (N := some 7) (v := ?_) (a' := ?_) (bs 6 5) rfl rfl (by kernel_rfl) (fun _ _ _ h => h) (Or.inl ⟨by rfl, ?_⟩) hHeld ?_ ?_
 rotate_left
 ·rintro w' ⟨s0, s1, s2, s3, s4, s5, s6, s7⟩
  go_simp
  with_reducible rfl
 rotate_left
 ·simp only [Act.put, sA, sB, sC, i64_w, i32_w]
  rfl
 refine one_ (i := 1) (N := some 6) (bT 6 3) rfl rfl (by kernel_rfl) (by decide) (fun K hK => ?_)
 refine gs Tryz.func135 #[.agg #[.int .i64 a0_0, .int .i64 a0_1, .int .i64 a0_2, .int .i64 a0_3]] ?_
 with_reducible refine (spec_l02Numbers.calls _ _ _ _ _ _ A3.out).mono ?_
 rintro e w9 ⟨v257, rfl, ho0, hb⟩
 refine ⟨_, rfl, ?_⟩
 have HO258 := asd (Kd.R_lower ho0 (bsz2 HB GE254 GE255))
 replace BK254 := bB BK254 hb
 replace BK255 := bB BK255 hb
 replace HB := bS2 HB GE254 GE255 hb
 (try clear hb)
 (try clear hb2)
 (try clear hk)
 (try clear hi)
 (try clear ho0)
 refine hK.out _ _ (cb4 BK254 (eb4 BK255)).out (fun hHeld => ?_)
 clear hK K
 refine norm_ (a' := ?_) ?_ ?_
 rotate_left
 ·show Act.put _ (some 6) _ = _
  simp only [Act.put, sA, sB, sC, i64_w, i32_w]
  rfl
 refine one_ (i := 3) (N := some 8) (bT 6 4) rfl rfl (by kernel_rfl) (by decide) (fun K hK => ?_)
 refine gs Tryz.func135 #[.agg #[.int .i64 a1_0, .int .i64 a1_1, .int .i64 a1_2, .int .i64 a1_3]] ?_
 with_reducible refine (spec_l02Numbers.calls _ _ _ _ _ _ A4.out).mono ?_
 rintro e w10 ⟨v260, rfl, ho0, hb⟩
 refine ⟨_, rfl, ?_⟩
 have HO261 := asd (Kd.R_lower (Kd.R_new' ho0 (Kd.R_lt (kr HO258))) (bsz2 HB GE254 GE255))
 replace HO258 := asd (Kd.R_elder' (kr HO258) (Kd.R_base ho0) hb)
 replace BK254 := bB BK254 hb
 replace BK255 := bB BK255 hb
 replace HB := bS2 HB GE254 GE255 hb
 (try clear hb)
 (try clear hb2)
 (try clear hk)
 (try clear hi)
 (try clear ho0)
 obtain ⟨Ao11, co11, eo11⟩ := Kd.R_slice HO258.out
 (first | subst eo11 | (injection eo11 with f1_ f2_ f3_; have f4_ := f1_.symm; have f5_ := f3_.symm; clear f1_ f2_ f3_; subst f4_; subst f5_))
 obtain ⟨Ao12, co12, eo12⟩ := Kd.R_slice HO261.out
 (first | subst eo12 | (injection eo12 with f1_ f2_ f3_; have f4_ := f1_.symm; have f5_ := f3_.symm; clear f1_ f2_ f3_; subst f4_; subst f5_))
 refine hK.out _ _ (cb4 BK254 (eb4 BK255)).out (fun hHeld => ?_)
 clear hK K
 refine norm_ (a' := ?_) ?_ ?_
 rotate_left
 ·show Act.put _ (some 8) _ = _
  simp only [Act.put, sA, sB, sC, i64_w, i32_w]
  rfl
 refine one_ (i := 4) (N := some 9) (bT 6 5) rfl rfl (by kernel_rfl) (by decide) (fun K hK => ?_)
 refine gs Tryz.func134 #[.slice Ao11 t256.length co11, .slice Ao12 t259.length co12] ?_
 with_reducible refine (spec_l01LessList.calls _ _ _ _ _ _ _ _ _ ?side1 ?side2 ?side3 ?side4 A5.out).mono ?_
 (case side1 => exact ks (Kd.R_reads' HO258.out).2.2)
 (case side2 => exact (Kd.R_reads' HO258.out).2.1)
 (case side3 => exact ks (Kd.R_reads' HO261.out).2.2)
 (case side4 => exact (Kd.R_reads' HO261.out).2.1)
 rintro e w' ⟨rfl, ⟨nd, rfl⟩⟩
 refine ⟨_, rfl, ?_⟩
 refine hK.out _ _ (cb4 BK254 (eb4 BK255)).out (fun hHeld => ?_)
 clear hK K
 refine norm_ (a' := ?_) ?_ ?_
 rotate_left
 ·show Act.put _ (some 9) _ = _
  simp only [Act.put, sA, sB, sC, i64_w, i32_w]
  rfl
 refine pure_ (i := 5) (N := some 4) (v := ?_) (a' := ?_) (bT 6 6) rfl rfl (by kernel_rfl) (fun _ _ _ h => h) (Or.inl ⟨by rfl, ?_⟩) ?_ ?_
 rotate_left
 ·intro w'
  go_simp
  with_reducible rfl
 rotate_left
 ·simp only [Act.put, sA, sB, sC, i64_w, i32_w]
  rfl
 refine done_ (by kernel_rfl) ?_
 try go_wp2
 go_ret
 exact er (bbw2 HB GE254 GE255)
/-! ### spec_l01Less: function 114 -/
def spec_l01Less.f (a0_0 : Int) (a0_1 : Int) (a1_0 : Int) (a1_1 : Int) : Option (Bool) := if a0_0 < a1_0 then (some true) else (if a0_0 = a1_0 then (some (decide (a0_1 < a1_1))) else (some false))
set_option maxHeartbeats 8000000 in
set_option maxRecDepth 100000 in
theorem spec_l01Less.calls (a0_0 : Int) (a0_1 : Int) (a1_0 : Int) (a1_1 : Int) (r : Bool) (w : World) (h : spec_l01Less.f a0_0 a0_1 a1_0 a1_1 = some r) :
  Calls Tryz.prog 114 #[.agg #[.int .i64 a0_0, .int .i64 a0_1], .agg #[.int .i64 a1_0, .int .i64 a1_1]] w fun e w' => e = .returned (.bool r) ∧ Below w.heap.size w w' := by
 have hu38 := Tryz.underlying38
 have HB := asd (Below.refl w.heap.size w)
 have H : (if a0_0 < a1_0 then (some true) else (if a0_0 = a1_0 then (some (decide (a0_1 < a1_1))) else (some false))) = some r := h
 clear h
 by_cases c3 : a0_0 < a1_0
 rw [if_pos c3] at H
 have c3b0 := decide_eq_true c3
 clear c3
 obtain rfl := Option.some.inj H
 rotate_left
 rw [if_neg c3] at H
 have c3b0 := decide_eq_false c3
 clear c3
 by_cases c9 : a0_0 = a1_0
 rw [if_pos c9] at H
 have c9b0 : (a0_0 == a1_0) = true := beq_iff_eq.mpr c9
 have c9b1 : (a0_0 != a1_0) = false := bne_eq_false_iff_eq.mpr c9
 clear c9
 obtain rfl := Option.some.inj H
 rotate_left
 rw [if_neg c9] at H
 have c9b0 : (a0_0 == a1_0) = false := beq_eq_false_iff_ne.mpr c9
 have c9b1 : (a0_0 != a1_0) = true := bne_iff_ne.mpr c9
 obtain rfl := Option.some.inj H
 rotate_left
 all_goals
  go_enter Tryz.func114, Tryz.ntmps114
  go_wp2_with (first | ((with_reducible refine gd 2 rfl ?_); refine bx #[.int .i64 a0_0, .int .i64 a0_1] 38 ?_; intro gb263 hg w4 BK263 hb; have GE263 := ngw0 hg HB; replace HB := bS0 HB hb; clear hb hg) | ((with_reducible refine gd 3 rfl ?_); refine bx #[.int .i64 a1_0, .int .i64 a1_1] 38 ?_; intro gb264 hg w5 BK264 hb; have GE264 := ngw1 hg HB GE263; replace HB := bS1 HB GE263 hb; have NB263_264 := nlt hg BK263; have NB264_263 := nsy (nlt hg BK263); replace BK263 := bB BK263 hb; clear hb hg; have hnb6 := NB263_264.out; have hnc6 := NB264_263.out; obtain ⟨hcz7_0, hcz7_1, hfz7_0, hfz7_1⟩ := bz2 BK263; obtain ⟨hcz8_0, hcz8_1, hfz8_0, hfz8_1⟩ := bz2 BK264))
  go_ret
  exact er (bbw2 HB GE263 GE264)
/-! ### spec_l05Less: function 78 -/
def spec_l05Less.f (k : Nat) (a0_0 : Int) (a0_1 : Int) (a0_2 : Int) (a0_3 : Int) (a0_4 : Int) (a0_5 : Int) (a1_0 : Int) (a1_1 : Int) (a1_2 : Int) (a1_3 : Int) (a1_4 : Int) (a1_5 : Int) : Option (Bool) := if (!(a0_0 == a1_0) || (!(a0_1 == a1_1) || (!(a0_2 == a1_2) || (!(a0_3 == a1_3))))) = true then ((spec_l02Less.f k a0_0 a0_1 a0_2 a0_3 a1_0 a1_1 a1_2 a1_3).bind fun t267 => (some t267)) else ((spec_l01Less.f a0_4 a0_5 a1_4 a1_5).bind fun t268 => (some t268))
theorem spec_l05Less.mono : ∀ a0 a1 a2 a3 a4 a5 a6 a7 a8 a9 a10 a11 k, LeO (spec_l05Less.f k a0 a1 a2 a3 a4 a5 a6 a7 a8 a9 a10 a11) (spec_l05Less.f (k + 1) a0 a1 a2 a3 a4 a5 a6 a7 a8 a9 a10 a11) := by
 intro a0 a1 a2 a3 a4 a5 a6 a7 a8 a9 a10 a11 k
 unfold spec_l05Less.f
 repeat' first
   | (with_reducible exact spec_l02Less.mono _ _ _ _ _ _ _ _ _)
   | (with_reducible exact LeO.refl _)
   | (with_reducible exact LeO.none _)
   | (with_reducible refine LeO.ite ?_ ?_)
   | (with_reducible refine LeO.bind ?_ (fun _ => ?_))
   | exact spec_l02Less.mono _ _ _ _ _ _ _ _ _
   | exact LeO.none _
   | refine LeO.ite ?_ ?_
   | refine LeO.bind ?_ (fun _ => ?_)
set_option maxHeartbeats 8000000 in
set_option maxRecDepth 100000 in
theorem spec_l05Less.calls (k : Nat) (a0_0 : Int) (a0_1 : Int) (a0_2 : Int) (a0_3 : Int) (a0_4 : Int) (a0_5 : Int) (a1_0 : Int) (a1_1 : Int) (a1_2 : Int) (a1_3 : Int) (a1_4 : Int) (a1_5 : Int) (r : Bool) (w : World) (h : spec_l05Less.f k a0_0 a0_1 a0_2 a0_3 a0_4 a0_5 a1_0 a1_1 a1_2 a1_3 a1_4 a1_5 = some r) :
  Calls Tryz.prog 78 #[.agg #[.int .i64 a0_0, .int .i64 a0_1, .int .i64 a0_2, .int .i64 a0_3, .int .i64 a0_4, .int .i64 a0_5], .agg #[.int .i64 a1_0, .int .i64 a1_1, .int .i64 a1_2, .int .i64 a1_3, .int .i64 a1_4, .int .i64 a1_5]] w fun e w' => e = .returned (.bool r) ∧ Below w.heap.size w w' := by
 have hu48 := Tryz.underlying48
 have hu46 := Tryz.underlying46
 have hu38 := Tryz.underlying38
 have HB := asd (Below.refl w.heap.size w)
 have H : (if (!(a0_0 == a1_0) || (!(a0_1 == a1_1) || (!(a0_2 == a1_2) || (!(a0_3 == a1_3))))) = true then ((spec_l02Less.f k a0_0 a0_1 a0_2 a0_3 a1_0 a1_1 a1_2 a1_3).bind fun t267 => (some t267)) else ((spec_l01Less.f a0_4 a0_5 a1_4 a1_5).bind fun t268 => (some t268))) = some r := h
 clear h
 by_cases c3 : (!(a0_0 == a1_0) || (!(a0_1 == a1_1) || (!(a0_2 == a1_2) || (!(a0_3 == a1_3))))) = true
 rw [if_pos c3] at H
 have c3b0 := c3
 clear c3
 obtain ⟨t267, A4, H⟩ := ob H
 try dsimp only at H
 obtain rfl := Option.some.inj H
 rotate_left
 rw [if_neg c3] at H
 have c3b0 : (!(a0_0 == a1_0) || (!(a0_1 == a1_1) || (!(a0_2 == a1_2) || (!(a0_3 == a1_3))))) = false := by simpa using c3
 clear c3
 obtain ⟨t268, A11, H⟩ := ob H
 try dsimp only at H
 obtain rfl := Option.some.inj H
 rotate_left
 all_goals
  go_enter Tryz.func78, Tryz.ntmps78
  go_wp2_with (first | ((with_reducible refine gd 2 rfl ?_); refine bx #[.int .i64 a0_0, .int .i64 a0_1, .int .i64 a0_2, .int .i64 a0_3, .int .i64 a0_4, .int .i64 a0_5] 48 ?_; intro gb265 hg w5 BK265 hb; have GE265 := ngw0 hg HB; replace HB := bS0 HB hb; clear hb hg) | ((with_reducible refine gd 3 rfl ?_); refine bx #[.int .i64 a1_0, .int .i64 a1_1, .int .i64 a1_2, .int .i64 a1_3, .int .i64 a1_4, .int .i64 a1_5] 48 ?_; intro gb266 hg w6 BK266 hb; have GE266 := ngw1 hg HB GE265; replace HB := bS1 HB GE265 hb; have NB265_266 := nlt hg BK265; have NB266_265 := nsy (nlt hg BK265); replace BK265 := bB BK265 hb; clear hb hg; have hnb7 := NB265_266.out; have hnc7 := NB266_265.out; obtain ⟨hcz8_0, hcz8_1, hcz8_2, hcz8_3, hcz8_4, hcz8_5, hfz8_0, hfz8_1, hfz8_2, hfz8_3, hfz8_4, hfz8_5⟩ := bz6 BK265; obtain ⟨hcz9_0, hcz9_1, hcz9_2, hcz9_3, hcz9_4, hcz9_5, hfz9_0, hfz9_1, hfz9_2, hfz9_3, hfz9_4, hfz9_5⟩ := bz6 BK266) | ((with_reducible refine gate_callee (f := 113) rfl ?_); refine gl 14 Tryz.func113 #[.agg #[.int .i64 a0_0, .int .i64 a0_1, .int .i64 a0_2, .int .i64 a0_3], .agg #[.int .i64 a1_0, .int .i64 a1_1, .int .i64 a1_2, .int .i64 a1_3]] ?_; (with_reducible refine (spec_l02Less.calls _ _ _ _ _ _ _ _ _ _ _ A4.out).mono ?_); rintro e w10 ⟨rfl, hb⟩; refine ⟨_, rfl, ?_⟩; replace BK265 := bB BK265 hb; replace BK266 := bB BK266 hb; replace HB := bS2 HB GE265 GE266 hb; (try clear hb)) | ((with_reducible refine gate_callee (f := 114) rfl ?_); refine gl 19 Tryz.func114 #[.agg #[.int .i64 a0_4, .int .i64 a0_5], .agg #[.int .i64 a1_4, .int .i64 a1_5]] ?_; (with_reducible refine (spec_l01Less.calls _ _ _ _ _ _ A11.out).mono ?_); rintro e w17 ⟨rfl, hb⟩; refine ⟨_, rfl, ?_⟩; replace BK265 := bB BK265 hb; replace BK266 := bB BK266 hb; replace HB := bS2 HB GE265 GE266 hb; (try clear hb)))
  go_ret
  exact er (bbw2 HB GE265 GE266)

end Go.Proofs.YtdodghjnlekgeaaGreat.PA
