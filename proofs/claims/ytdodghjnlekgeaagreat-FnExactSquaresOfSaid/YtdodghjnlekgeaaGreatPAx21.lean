import Derived.Test.YtdodghjnlekgeaaGreatPAx0
import Derived.Test.YtdodghjnlekgeaaGreatPAx6
import Derived.Test.YtdodghjnlekgeaaGreatPAx7
import Derived.Test.YtdodghjnlekgeaaGreatPAx8
import Derived.Test.YtdodghjnlekgeaaGreatPAx12
import Derived.Test.YtdodghjnlekgeaaGreatPAx14
import Derived.Test.YtdodghjnlekgeaaGreatPAx15
import Derived.Test.YtdodghjnlekgeaaGreatPAx19
namespace Go.Proofs.YtdodghjnlekgeaaGreat.PA
open Go.RowKit Go.Proofs.YtdodghjnlekgeaaGreatW.PrintWords Go.Proofs.YtdodghjnlekgeaaGreatW.PrintLast Go.Proofs.YtdodghjnlekgeaaGreatW.PrintMore
attribute [local go_sem] max2_int min2_int max_two min_two max_three min_three max_four min_four   -- for this text's walks alone
set_option linter.unusedVariables false
set_option maxHeartbeats 8000000
set_option maxRecDepth 100000
set_option linter.unusedSimpArgs false
def spec_l15Product.f (a0_0 : Int) (a0_1 : Int) (a0_2 : Int) (a1_0 : Int) (a1_1 : Int) (a1_2 : Int) (a1_3 : Int) (a1_4 : Int) (a1_5 : Int) (a2_0 : Int) (a2_1 : Int) (a2_2 : Int) (a2_3 : Int) (a2_4 : Int) (a2_5 : Int) : Option (Int × Int × Int × Int × Int × Int) := (spec_l05Compose.f a1_0 a1_1 a1_2 a1_3 a1_4 a1_5 a2_0 a2_1 a2_2 a2_3 a2_4 a2_5).bind fun bt677 => ((spec_l06Reduce.f a0_0 a0_1 a0_2 bt677.1 bt677.2.1 bt677.2.2.1 bt677.2.2.2.1 bt677.2.2.2.2.1 bt677.2.2.2.2.2).bind fun bt683 => (some (bt683.1, bt683.2.1, bt683.2.2.1, bt683.2.2.2.1, bt683.2.2.2.2.1, bt683.2.2.2.2.2)))
theorem spec_l15Product.calls (a0_0 : Int) (a0_1 : Int) (a0_2 : Int) (a1_0 : Int) (a1_1 : Int) (a1_2 : Int) (a1_3 : Int) (a1_4 : Int) (a1_5 : Int) (a2_0 : Int) (a2_1 : Int) (a2_2 : Int) (a2_3 : Int) (a2_4 : Int) (a2_5 : Int) (r1 : Int) (r2 : Int) (r3 : Int) (r4 : Int) (r5 : Int) (r6 : Int) (w : World) (h : spec_l15Product.f a0_0 a0_1 a0_2 a1_0 a1_1 a1_2 a1_3 a1_4 a1_5 a2_0 a2_1 a2_2 a2_3 a2_4 a2_5 = some (r1, r2, r3, r4, r5, r6)) :
  Calls Tryz.prog 57 #[.agg #[.int .i64 a0_0, .int .i64 a0_1, .int .i64 a0_2], .agg #[.int .i64 a1_0, .int .i64 a1_1, .int .i64 a1_2, .int .i64 a1_3, .int .i64 a1_4, .int .i64 a1_5], .agg #[.int .i64 a2_0, .int .i64 a2_1, .int .i64 a2_2, .int .i64 a2_3, .int .i64 a2_4, .int .i64 a2_5]] w fun e w' => e = .returned (.agg #[.int .i64 r1, .int .i64 r2, .int .i64 r3, .int .i64 r4, .int .i64 r5, .int .i64 r6]) ∧ Below w.heap.size w w' := by
 have hu29 := Tryz.underlying29
 have hu48 := Tryz.underlying48
 have HB := asd (Below.refl w.heap.size w)
 have H : ((spec_l05Compose.f a1_0 a1_1 a1_2 a1_3 a1_4 a1_5 a2_0 a2_1 a2_2 a2_3 a2_4 a2_5).bind fun bt677 => ((spec_l06Reduce.f a0_0 a0_1 a0_2 bt677.1 bt677.2.1 bt677.2.2.1 bt677.2.2.2.1 bt677.2.2.2.2.1 bt677.2.2.2.2.2).bind fun bt683 => (some (bt683.1, bt683.2.1, bt683.2.2.1, bt683.2.2.2.1, bt683.2.2.2.2.1, bt683.2.2.2.2.2)))) = some (r1, r2, r3, r4, r5, r6) := h
 clear h
 obtain ⟨⟨t677, t678, t679, t680, t681, t682⟩, A4, H⟩ := ob H
 try dsimp only at H
 obtain ⟨⟨t683, t684, t685, t686, t687, t688⟩, A5, H⟩ := ob H
 try dsimp only at H
 simp only [Option.some.injEq, Prod.mk.injEq] at H
 obtain ⟨rfl, rfl, rfl, rfl, rfl, rfl⟩ := H
 go_enter Tryz.func57, Tryz.ntmps57
 try go_wp2_with (first | ((with_reducible refine gd 3 rfl ?_); refine bx #[.int .i64 a0_0, .int .i64 a0_1, .int .i64 a0_2] 29 ?_; intro gb673 hg w6 BK673 hb; have GE673 := ngw0 hg HB; replace HB := bS0 HB hb; clear hb hg) | ((with_reducible refine gd 4 rfl ?_); refine bx #[.int .i64 a1_0, .int .i64 a1_1, .int .i64 a1_2, .int .i64 a1_3, .int .i64 a1_4, .int .i64 a1_5] 48 ?_; intro gb674 hg w7 BK674 hb; have GE674 := ngw1 hg HB GE673; replace HB := bS1 HB GE673 hb; have NB673_674 := nlt hg BK673; have NB674_673 := nsy (nlt hg BK673); replace BK673 := bB BK673 hb; clear hb hg) | ((with_reducible refine gd 5 rfl ?_); refine bx #[.int .i64 a2_0, .int .i64 a2_1, .int .i64 a2_2, .int .i64 a2_3, .int .i64 a2_4, .int .i64 a2_5] 48 ?_; intro gb675 hg w8 BK675 hb; have GE675 := ngw2 hg HB GE673 GE674; replace HB := bS2 HB GE673 GE674 hb; have NB673_675 := nlt hg BK673; have NB675_673 := nsy (nlt hg BK673); replace BK673 := bB BK673 hb; have NB674_675 := nlt hg BK674; have NB675_674 := nsy (nlt hg BK674); replace BK674 := bB BK674 hb; clear hb hg) | ((with_reducible refine gd 6 rfl ?_); refine bx #[.int .i64 0, .int .i64 0, .int .i64 0, .int .i64 0, .int .i64 0, .int .i64 0] 48 ?_; intro gb676 hg w9 BK676 hb; have GE676 := ngw3 hg HB GE673 GE674 GE675; replace HB := bS3 HB GE673 GE674 GE675 hb; have NB673_676 := nlt hg BK673; have NB676_673 := nsy (nlt hg BK673); replace BK673 := bB BK673 hb; have NB674_676 := nlt hg BK674; have NB676_674 := nsy (nlt hg BK674); replace BK674 := bB BK674 hb; have NB675_676 := nlt hg BK675; have NB676_675 := nsy (nlt hg BK675); replace BK675 := bB BK675 hb; clear hb hg))
 replace BK673 := asd (blk_drew BK673.out)
 replace BK674 := asd (blk_drew BK674.out)
 replace BK675 := asd (blk_drew BK675.out)
 replace BK676 := asd (blk_drew BK676.out)
 replace HB := asd (below_drew1 HB.out)
 refine sh 6 (cb3 BK673 (cb6 BK674 (eb6 BK675))) (fun hHeld => ?_)
 generalize w9.drew = w10 at BK673 BK674 BK675 BK676 HB hHeld ⊢
 refine take_ (i := 0) (N := some 7) (v := ?_) (a' := ?_) (bT 6 1) rfl rfl (by kernel_rfl) (fun _ _ _ h => h) (Or.inl ⟨by rfl, ?_⟩) hHeld ?_ ?_
 rotate_left
 ·rintro w' ⟨s0, s1, s2, s3, s4, s5, s6, s7, s8, s9, s10, s11, s12, s13, s14⟩
  go_simp
  with_reducible rfl
 rotate_left
 ·simp only [Act.put, sA, sB, sC, i64_w, i32_w]
  rfl
 refine take_ (i := 1) (N := some 8) (v := ?_) (a' := ?_) (bT 6 2) rfl rfl (by kernel_rfl) (fun _ _ _ h => h) (Or.inl ⟨by rfl, ?_⟩) hHeld ?_ ?_
 rotate_left
 ·rintro w' ⟨s0, s1, s2, s3, s4, s5, s6, s7, s8, s9, s10, s11, s12, s13, s14⟩
  go_simp
  with_reducible rfl
 rotate_left
 ·simp only [Act.put, sA, sB, sC, i64_w, i32_w]
  rfl
 refine take_ (i := 2) (N := some 9) (v := ?_) (a' := ?_) (bT 6 3) rfl rfl (by kernel_rfl) (fun _ _ _ h => h) (Or.inl ⟨by rfl, ?_⟩) hHeld ?_ ?_
 rotate_left
 ·rintro w' ⟨s0, s1, s2, s3, s4, s5, s6, s7, s8, s9, s10, s11, s12, s13, s14⟩
  go_simp
  with_reducible rfl
 rotate_left
 ·simp only [Act.put, sA, sB, sC, i64_w, i32_w]
  rfl
 refine one_ (i := 3) (N := some 10) (bT 6 4) rfl rfl (by kernel_rfl) (by decide) (fun K hK => ?_)
 refine gs Tryz.func65 #[.agg #[.int .i64 a1_0, .int .i64 a1_1, .int .i64 a1_2, .int .i64 a1_3, .int .i64 a1_4, .int .i64 a1_5], .agg #[.int .i64 a2_0, .int .i64 a2_1, .int .i64 a2_2, .int .i64 a2_3, .int .i64 a2_4, .int .i64 a2_5]] ?_
 with_reducible refine (spec_l05Compose.calls _ _ _ _ _ _ _ _ _ _ _ _ _ _ _ _ _ _ _ A4.out).mono ?_
 rintro e w11 ⟨rfl, hb⟩
 refine ⟨_, rfl, ?_⟩
 replace BK673 := bB BK673 hb
 replace BK674 := bB BK674 hb
 replace BK675 := bB BK675 hb
 replace BK676 := bB BK676 hb
 replace HB := bS4 HB GE673 GE674 GE675 GE676 hb
 (try clear hb)
 (try clear hb2)
 (try clear hk)
 (try clear hi)
 refine hK.out _ _ (cb3 BK673 (cb6 BK674 (eb6 BK675))).out (fun hHeld => ?_)
 clear hK K
 refine norm_ (a' := ?_) ?_ ?_
 rotate_left
 ·show Act.put _ (some 10) _ = _
  simp only [Act.put, sA, sB, sC, i64_w, i32_w]
  rfl
 refine one_ (i := 4) (N := some 11) (bT 6 5) rfl rfl (by kernel_rfl) (by decide) (fun K hK => ?_)
 refine gs Tryz.func30 #[.agg #[.int .i64 a0_0, .int .i64 a0_1, .int .i64 a0_2], .agg #[.int .i64 t677, .int .i64 t678, .int .i64 t679, .int .i64 t680, .int .i64 t681, .int .i64 t682]] ?_
 with_reducible refine (spec_l06Reduce.calls _ _ _ _ _ _ _ _ _ _ _ _ _ _ _ _ A5.out).mono ?_
 rintro e w12 ⟨rfl, hb⟩
 refine ⟨_, rfl, ?_⟩
 replace BK673 := bB BK673 hb
 replace BK674 := bB BK674 hb
 replace BK675 := bB BK675 hb
 replace BK676 := bB BK676 hb
 replace HB := bS4 HB GE673 GE674 GE675 GE676 hb
 (try clear hb)
 (try clear hb2)
 (try clear hk)
 (try clear hi)
 refine hK.out _ _ (cb3 BK673 (cb6 BK674 (eb6 BK675))).out (fun hHeld => ?_)
 clear hK K
 refine norm_ (a' := ?_) ?_ ?_
 rotate_left
 ·show Act.put _ (some 11) _ = _
  simp only [Act.put, sA, sB, sC, i64_w, i32_w]
  rfl
 refine one_ (i := 5) (N := none) (bT 6 6) rfl rfl (by kernel_rfl) (by decide) (fun K hK => ?_)
 have hs13 : w12.cell? ⟨gb676, 0, none⟩ = some (.int .i64 0) := bcl BK676 0
 have hfs13 := blk_frozen BK676.out 0
 have hns13_0 := NB673_676.out
 have hns13_1 := NB674_676.out
 have hns13_2 := NB675_676.out
 have hms13_0 := NB676_673.out
 have hms13_1 := NB676_674.out
 have hms13_2 := NB676_675.out
 have hs14 : w12.cell? ⟨gb676, 1, none⟩ = some (.int .i64 0) := bcl BK676 1
 have hfs14 := blk_frozen BK676.out 1
 have hns14_0 := NB673_676.out
 have hns14_1 := NB674_676.out
 have hns14_2 := NB675_676.out
 have hms14_0 := NB676_673.out
 have hms14_1 := NB676_674.out
 have hms14_2 := NB676_675.out
 have hs15 : w12.cell? ⟨gb676, 2, none⟩ = some (.int .i64 0) := bcl BK676 2
 have hfs15 := blk_frozen BK676.out 2
 have hns15_0 := NB673_676.out
 have hns15_1 := NB674_676.out
 have hns15_2 := NB675_676.out
 have hms15_0 := NB676_673.out
 have hms15_1 := NB676_674.out
 have hms15_2 := NB676_675.out
 have hs16 : w12.cell? ⟨gb676, 3, none⟩ = some (.int .i64 0) := bcl BK676 3
 have hfs16 := blk_frozen BK676.out 3
 have hns16_0 := NB673_676.out
 have hns16_1 := NB674_676.out
 have hns16_2 := NB675_676.out
 have hms16_0 := NB676_673.out
 have hms16_1 := NB676_674.out
 have hms16_2 := NB676_675.out
 have hs17 : w12.cell? ⟨gb676, 4, none⟩ = some (.int .i64 0) := bcl BK676 4
 have hfs17 := blk_frozen BK676.out 4
 have hns17_0 := NB673_676.out
 have hns17_1 := NB674_676.out
 have hns17_2 := NB675_676.out
 have hms17_0 := NB676_673.out
 have hms17_1 := NB676_674.out
 have hms17_2 := NB676_675.out
 have hs18 : w12.cell? ⟨gb676, 5, none⟩ = some (.int .i64 0) := bcl BK676 5
 have hfs18 := blk_frozen BK676.out 5
 have hns18_0 := NB673_676.out
 have hns18_1 := NB674_676.out
 have hns18_2 := NB675_676.out
 have hms18_0 := NB676_673.out
 have hms18_1 := NB676_674.out
 have hms18_2 := NB676_675.out
 refine skip_ (w1 := ?_) (by rfl) rfl ?_ ?_
 rotate_left
 ·go_simp
  rfl
 refine hK.out _ _ ⟨(cf6 NB673_676 (hHeld.1)), (cf6 NB673_676 (hHeld.2.1)), (cf6 NB673_676 (hHeld.2.2.1)), (cf6 NB674_676 (hHeld.2.2.2.1)), (cf6 NB674_676 (hHeld.2.2.2.2.1)), (cf6 NB674_676 (hHeld.2.2.2.2.2.1)), (cf6 NB674_676 (hHeld.2.2.2.2.2.2.1)), (cf6 NB674_676 (hHeld.2.2.2.2.2.2.2.1)), (cf6 NB674_676 (hHeld.2.2.2.2.2.2.2.2.1)), (cf6 NB675_676 (hHeld.2.2.2.2.2.2.2.2.2.1)), (cf6 NB675_676 (hHeld.2.2.2.2.2.2.2.2.2.2.1)), (cf6 NB675_676 (hHeld.2.2.2.2.2.2.2.2.2.2.2.1)), (cf6 NB675_676 (hHeld.2.2.2.2.2.2.2.2.2.2.2.2.1)), (cf6 NB675_676 (hHeld.2.2.2.2.2.2.2.2.2.2.2.2.2.1)), (cf6 NB675_676 (hHeld.2.2.2.2.2.2.2.2.2.2.2.2.2.2))⟩ (fun hHeld => ?_)
 clear hK K
 refine done_ (by kernel_rfl) ?_
 try go_wp2
 refine bodyPost_ret (results_cell_row rfl _ _ gb676 48 #[.int .i64 t683, .int .i64 t684, .int .i64 t685, .int .i64 t686, .int .i64 t687, .int .i64 t688] (0, 0) _ rfl (bq0 BK676) Tryz.underlying48 rfl (by kernel_rfl)) rfl ?_
 exact er (bbw4 HB GE673 GE674 GE675 GE676)
def spec_l15Squares.l0 : Nat → List (S48) → List (S48) → Int → Int → Int → Int → Option ((List (S48)))
 | 0, _, _, _, _, _, _ => none
 | k + 1, x1, x5, x6, x690000, x690001, x690002 => if x6 < (x1.length : Int) then (if 0 ≤ x6 then ((spec_l15Product.f x690000 x690001 x690002 ((rd_T48 x1 x6).f0.f0) ((rd_T48 x1 x6).f0.f1) ((rd_T48 x1 x6).f0.f2) ((rd_T48 x1 x6).f0.f3) ((rd_T48 x1 x6).f1.f0) ((rd_T48 x1 x6).f1.f1) ((rd_T48 x1 x6).f0.f0) ((rd_T48 x1 x6).f0.f1) ((rd_T48 x1 x6).f0.f2) ((rd_T48 x1 x6).f0.f3) ((rd_T48 x1 x6).f1.f0) ((rd_T48 x1 x6).f1.f1)).bind fun bt695 => (if (x5.length < 2932031007402 ∧ spec_l06Insert.ok x5 (⟨(⟨bt695.1, bt695.2.1, bt695.2.2.1, bt695.2.2.2.1⟩ : S46), (⟨bt695.2.2.2.2.1, bt695.2.2.2.2.2⟩ : S38)⟩ : S48) = true) then (spec_l15Squares.l0 k x1 (spec_l06Insert.ins x5 (⟨(⟨bt695.1, bt695.2.1, bt695.2.2.1, bt695.2.2.2.1⟩ : S46), (⟨bt695.2.2.2.2.1, bt695.2.2.2.2.2⟩ : S38)⟩ : S48)) (wrap64 (x6 + 1)) x690000 x690001 x690002) else (none))) else (none)) else ((spec_l06Close.f k x690000 x690001 x690002 x5).bind fun t704 => (some t704))
def spec_l15Squares.f (k : Nat) (a0_0 : Int) (a0_1 : Int) (a0_2 : Int) (l1 : List (S48)) : Option ((List (S48))) := spec_l15Squares.l0 k l1 (([] : List (S48))) 0 a0_0 a0_1 a0_2
def spec_l15Squares.T5 : Bool × List (List Nat × List Nat) := (true, [([], []), ([], []), ([], []), ([], []), ([2, 3], [2, 3]), ([4], [4]), ([], []), ([], []), ([6, 7], [6, 7]), ([8], [8]), ([1, 5, 9], [1, 5, 9]), ([0, 10, 10], [0, 10]), ([11, 11, 0, 1, 2, 3, 4, 5, 6, 7, 8, 9, 10, 11], [0, 11])])
def spec_l15Squares.B5 : List Nat := [0, 0, 0, 0, 12, 28, 0, 0, 192, 448, 1022, 2047, 4095]
theorem spec_l15Squares.tab5 : rtab .any (opsOf Tryz.f54 5) = spec_l15Squares.T5 := by kernel_rfl
theorem spec_l15Squares.bits5 : waitsOk spec_l15Squares.T5.2 spec_l15Squares.B5 = true := by kernel_rfl
theorem spec_l15Squares.calls (k : Nat) (a0_0 : Int) (a0_1 : Int) (a0_2 : Int) (A1 : Option Addr) (c1 : Nat) (l1 : List (S48)) (r : List (S48)) (w : World) (hr1 : Kd.C k48 w A1 l1.length l1) (hc1 : l1.length ≤ c1) (h : spec_l15Squares.f k a0_0 a0_1 a0_2 l1 = some r) :
  Calls Tryz.prog 54 #[.agg #[.int .i64 a0_0, .int .i64 a0_1, .int .i64 a0_2], .slice A1 l1.length c1] w fun e w' => ∃ v0_ : Value, e = .returned (v0_) ∧ Kd.R k48 48 w' w.heap.size (fun _ => True) v0_ r ∧ Below w.heap.size w w' := by
 have hu29 := Tryz.underlying29
 have hu48 := Tryz.underlying48
 have HR1 := Aside0.mk hr1
 have HC1 := Aside0.mk hc1
 clear hr1 hc1
 have HB := asd (Below.refl w.heap.size w)
 have H : (spec_l15Squares.l0 k l1 (([] : List (S48))) 0 a0_0 a0_1 a0_2) = some r := h
 clear h
 obtain ⟨y690, hy690⟩ : ∃ y_ : List (S48), y_ = (([] : List (S48))) := ⟨_, rfl⟩
 replace H : (spec_l15Squares.l0 k l1 y690 0 a0_0 a0_1 a0_2) = some r := by first | (rw [hy690]; with_reducible exact H) | (have H2_ := (Option.bind_some _ _).symm.trans H; rw [hy690]; with_reducible exact H2_) | (have H2_ := (Option.bind_some _ _).symm.trans H; with_reducible exact H2_) | with_reducible exact H | (rw [hy690]; exact H) | exact H
 have Ny690 := Aside0.mk hy690
 clear hy690
 have H' := Aside0.mk H
 clear H
 go_enter Tryz.func54, Tryz.ntmps54
 go_wp2_with (first | ((with_reducible refine gd 2 rfl ?_); refine bx #[.int .i64 a0_0, .int .i64 a0_1, .int .i64 a0_2] 29 ?_; intro gb689 hg w3 BK689 hb; have GE689 := ngw0 hg HB; replace HB := bS0 HB hb; clear hb hg) | ((with_reducible refine gd 7 rfl ?_); refine Kd.R_lit k48 _ 48 ?hg (N := 7) ?hd (xs := ([] : List (S48))) (inner := []) (ok := fun _ => True) (okp := fun _ => True) ?hr ?hp (fun _ hk => hk) trivial (Below.refl _ _) (Nat.le_refl _) (by simp) ?_; (case hd => rfl); (case hg => rfl); (case hr => first | (go_simp; done) | (go_simp; rfl)); (case hp => exact (Reps.none _ _)); intro v691 w4 ho5 hb hg_ hnew_; clear hg_ hnew_; (first | rw [← Ny690.out] at ho5 | (simp only [Int.reduceToNat] at ho5; rw [← Ny690.out] at ho5)); have HO692 := asd (Kd.R_lower ho5 (bsz1 HB GE689)); replace BK689 := bB BK689 hb; replace HB := bS1 HB GE689 hb; clear hb ho5))
 go_loopg [5, 6] k (fun kq v5 v6 w' => ∃ (x5_1 : List (S48)) (x6_1 : Int), v6 = .int .i64 x6_1 ∧ Aside0 (spec_l15Squares.l0 kq l1 x5_1 x6_1 a0_0 a0_1 a0_2 = some r) ∧ Aside0 (kq ≤ k) ∧ Aside0 (Kd.R k48 48 w' w.heap.size (fun _ => True) v5 x5_1) ∧ Aside0 (w'.heap[gb689]? = some (.cells #[.int .i64 a0_0, .int .i64 a0_1, .int .i64 a0_2] 29 (0, 0))) ∧ Aside0 (Below w.heap.size w w'))
 case atStart => exact ⟨(y690), (0), (by first | rfl | (simp; done) | (simp [*]; done)), H', ⟨Nat.le_refl _⟩, ⟨by (with_reducible repeat (first | apply Kd.R_alloc | apply Kd.R_drewN | apply Kd.R_drew)); exact HO692.out⟩, ⟨bkp BK689⟩, ⟨bbw1 HB GE689⟩⟩
 case round =>
  clear H'
  try clear c1
  try clear p2
  try clear c5
  obtain ⟨x5_1, x6_1, rfl, HA, HK1, HO_5, BK689, HB⟩ := hrel
  cases gk with
  | zero => exact absurd HA.out (by simp [spec_l15Squares.l0])
  | succ k1 =>
   have H := HA.out
   clear HA
   simp only [spec_l15Squares.l0] at H
   by_cases c6 : x6_1 < (l1.length : Int)
   rw [if_pos c6] at H
   have c6b0 := decide_eq_true c6
   clear c6
   by_cases c7 : 0 ≤ x6_1
   rw [if_pos c7] at H
   have c7b0 := decide_eq_true c7
   clear c7
   obtain ⟨⟨t695, t696, t697, t698, t699, t700⟩, A8, H⟩ := ob H
   try dsimp only at H
   by_cases c9 : (x5_1.length < 2932031007402 ∧ spec_l06Insert.ok x5_1 (⟨(⟨t695, t696, t697, t698⟩ : S46), (⟨t699, t700⟩ : S38)⟩ : S48) = true)
   rw [if_pos c9] at H
   have LMc9 := Aside0.mk c9
   clear c9
   obtain ⟨y701, hy701⟩ : ∃ y_ : List (S48), y_ = (spec_l06Insert.ins x5_1 (⟨(⟨t695, t696, t697, t698⟩ : S46), (⟨t699, t700⟩ : S38)⟩ : S48)) := ⟨_, rfl⟩
   replace H : (spec_l15Squares.l0 k1 l1 y701 (wrap64 (x6_1 + 1)) a0_0 a0_1 a0_2) = some r := by first | (rw [hy701]; with_reducible exact H) | (have H2_ := (Option.bind_some _ _).symm.trans H; rw [hy701]; with_reducible exact H2_) | (have H2_ := (Option.bind_some _ _).symm.trans H; with_reducible exact H2_) | with_reducible exact H | (rw [hy701]; exact H) | exact H
   have Ny701 := Aside0.mk hy701
   clear hy701
   have H' := Aside0.mk H
   clear H
   rotate_left
   ·rw [if_neg c9] at H
    exact absurd H (by simp)
   ·rw [if_neg c7] at H
    exact absurd H (by simp)
   rw [if_neg c6] at H
   have c6b0 := decide_eq_false c6
   clear c6
   obtain ⟨t704, A13, H⟩ := ob H
   try dsimp only at H
   obtain rfl := Option.some.inj H
   rotate_left
   ·try go_wp2
    replace HO_5 := asd (Kd.R_drew HO_5.out)
    replace BK689 := asd (blk_drew BK689.out)
    replace HB := asd (below_drew1 HB.out)
    obtain ⟨p693, q693, ad693, e693, hw693_0, hw693_1, hw693_2, hw693_3, hw693_4, hw693_5, hx693_0, hx693_1, hx693_2, hx693_3, hx693_4, hx693_5⟩ := at_T48w HR1.out HB x6_1
    cases e693
    obtain ⟨p694, q694, ad694, e694, hw694_0, hw694_1, hw694_2, hw694_3, hw694_4, hw694_5, hx694_0, hx694_1, hx694_2, hx694_3, hx694_4, hx694_5⟩ := at_T48w HR1.out HB x6_1
    obtain rfl : ad693 = ad694 := (by injection e694)
    refine sh 13 (cb3 BK689 (cx6 HB hw693_0 hw693_1 hw693_2 hw693_3 hw693_4 hw693_5 (ex6 HB hw694_0 hw694_1 hw694_2 hw694_3 hw694_4 hw694_5))) (fun hHeld => ?_); refine with_tabW spec_l15Squares.tab5 spec_l15Squares.bits5 (fun HT_ HW_ => ?_)
    generalize wr.drew = w10 at HO_5 BK689 HB hx693_0 hx693_1 hx693_2 hx693_3 hx693_4 hx693_5 hx694_0 hx694_1 hx694_2 hx694_3 hx694_4 hx694_5 hHeld ⊢
    refine pu 0 (some 14) (bT 13 1) HT_ ?_
    refine pu 2 (some 16) (bs 13 5) HT_ ?_
    refine pu 3 (some 17) (bs 13 13) HT_ ?_
    refine pu 4 (some 18) (bs 13 29) HT_ ?_
    refine pu 6 (some 20) (bs 13 93) HT_ ?_
    refine pu 7 (some 21) (bs 13 221) HT_ ?_
    refine pu 8 (some 22) (bs 13 477) HT_ ?_
    refine ta 1 (some 15) (bs 13 479) HT_ HW_ hHeld ?_
    refine ta 5 (some 19) (bT 13 9) HT_ HW_ hHeld ?_
    refine ta 9 (some 23) (bT 13 10) HT_ HW_ hHeld ?_
    refine ro 10 (some 24) (bT 13 11) HT_ (fun K hK => ?_)
    refine gs Tryz.func57 #[.agg #[.int .i64 a0_0, .int .i64 a0_1, .int .i64 a0_2], .agg #[.int .i64 ((rd_T48 l1 x6_1).f0.f0), .int .i64 ((rd_T48 l1 x6_1).f0.f1), .int .i64 ((rd_T48 l1 x6_1).f0.f2), .int .i64 ((rd_T48 l1 x6_1).f0.f3), .int .i64 ((rd_T48 l1 x6_1).f1.f0), .int .i64 ((rd_T48 l1 x6_1).f1.f1)], .agg #[.int .i64 ((rd_T48 l1 x6_1).f0.f0), .int .i64 ((rd_T48 l1 x6_1).f0.f1), .int .i64 ((rd_T48 l1 x6_1).f0.f2), .int .i64 ((rd_T48 l1 x6_1).f0.f3), .int .i64 ((rd_T48 l1 x6_1).f1.f0), .int .i64 ((rd_T48 l1 x6_1).f1.f1)]] ?_
    with_reducible refine (spec_l15Product.calls _ _ _ _ _ _ _ _ _ _ _ _ _ _ _ _ _ _ _ _ _ _ A8.out).mono ?_
    rintro e w11 ⟨rfl, hb⟩
    refine ⟨_, rfl, ?_⟩
    replace HO_5 := asd (Kd.R_below (kr HO_5) hb)
    replace BK689 := bB BK689 hb
    replace HB := bS1 HB GE689 hb
    (try clear hb)
    (try clear hb2)
    (try clear hk)
    (try clear hi)
    refine hK.out _ _ (cb3 BK689 (cx6 HB hw693_0 hw693_1 hw693_2 hw693_3 hw693_4 hw693_5 (ex6 HB hw694_0 hw694_1 hw694_2 hw694_3 hw694_4 hw694_5))).out (fun hHeld => ?_)
    clear hK K
    refine norm_ (a' := ?_) ?_ ?_
    rotate_left
    ·show Act.put _ (some 24) _ = _
     simp only [Act.put, sA, sB, sC, i64_w, i32_w]
     rfl
    refine ro 11 (some 25) (bT 13 12) HT_ (fun K hK => ?_)
    refine spec_l06Insert.step (w0 := w) w.heap.size (by rfl) (.tmp 14) (.tmp 24) rfl u5 x5_1 (⟨(⟨t695, t696, t697, t698⟩ : S46), (⟨t699, t700⟩ : S38)⟩ : S48) (fun _ => True) rfl rfl ?aF ?aO ?aB ?aS ?aL ?_
    (case aB => exact (bbw1 HB GE689))
    (case aF => exact (fun _ _ => trivial))
    (case aO => exact (kr HO_5))
    (case aS => exact (bsz1 HB GE689))
    (case aL => exact LMc9.out)
    intro v702 w12 ho hb hg hat
    rw [← Ny701.out] at ho
    have n0_ := asd (blk_grown (g := gb689) (o := .cells #[.int .i64 a0_0, .int .i64 a0_1, .int .i64 a0_2] 29 (0, 0)) (bkp BK689) hg (Kd.R_ne HO_5.out BK689.out (by decide)))
    have n1_ := asd (hb)
    have n2_ := asd (ho)
    clear BK689
    clear HB
    clear HO_5
    have BK689 := n0_
    have HB := n1_
    have HO703 := n2_
    clear n0_ n1_ n2_
    clear ho hb hg hat
    refine hK.out _ _ (cb3 BK689 (cx6 HB hw693_0 hw693_1 hw693_2 hw693_3 hw693_4 hw693_5 (ex6 HB hw694_0 hw694_1 hw694_2 hw694_3 hw694_4 hw694_5))).out (fun hHeld => ?_)
    clear hK K
    refine norm_ (a' := ?_) ?_ ?_
    rotate_left
    ·show Act.put _ (some 25) _ = _
     simp only [Act.put, sA, sB, sC, i64_w, i32_w]
     rfl
    refine pu 12 (some 5) (bT 13 13) HT_ ?_
    refine done_ (done_of HT_.out (by kernel_rfl)) ?_
    try go_wp2
    go_roundg k1
    case measure => have := HK1.out; omega
    case rel => exact ⟨(y701), (wrap64 (x6_1 + 1)), (by first | rfl | (simp; done) | (simp [*]; done)), H', ⟨by have := HK1.out; omega⟩, ⟨by (with_reducible repeat (first | apply Kd.R_alloc | apply Kd.R_drewN | apply Kd.R_drew)); exact HO703.out⟩, ⟨bkp BK689⟩, ⟨bbw1 HB GE689⟩⟩
   ·obtain ⟨hcz14_0, hcz14_1, hcz14_2, hfz14_0, hfz14_1, hfz14_2⟩ := bz3 BK689
    obtain ⟨Ao15, co15, eo15⟩ := Kd.R_slice HO_5.out
    subst eo15
    go_wp2_with (first | ((with_reducible refine gate_callee (f := 32) rfl ?_); refine gl 28 Tryz.func32 #[.agg #[.int .i64 a0_0, .int .i64 a0_1, .int .i64 a0_2], .slice Ao15 x5_1.length co15] ?_; (with_reducible refine (spec_l06Close.calls _ _ _ _ _ _ _ _ _ ?side1 ?side2 A13.out).mono ?_); (case side1 => exact ks (Kd.R_reads' HO_5.out).2.2); (case side2 => exact (Kd.R_reads' HO_5.out).2.1); rintro e w16 ⟨v705, rfl, ho0, hb⟩; refine ⟨_, rfl, ?_⟩; have HO706 := asd (Kd.R_lower (Kd.R_new' ho0 (Kd.R_lt (kr HO_5))) (bsz1 HB GE689)); replace HO_5 := asd (Kd.R_elder' (kr HO_5) (Kd.R_base ho0) hb); replace BK689 := bB BK689 hb; replace HB := bS1 HB GE689 hb; (try clear hb); (try clear hb2); (try clear hk); (try clear hi); (try clear ho0)))
    go_ret
    exact ⟨_, by first | rfl | (simp [errW_none, errW_some] <;> rfl) | (simp [*, errW_none, errW_some] <;> rfl), by (with_reducible repeat (first | apply Kd.R_alloc | apply Kd.R_drewN | apply Kd.R_drew)); exact Kd.R_mono HO706.out (fun _ hk => trivial), bbw1 HB GE689⟩
def spec_SquaresOf.f (k : Nat) (a0 : Int) (a1_0 : Int) (a1_1 : Int) (a1_2 : Int) (l2 : List (S48)) : Option ((List (S48)) × Int) := (spec_l15One.f k a0 a1_0 a1_1 a1_2 l2).bind fun t708 => (if t708 = 0 then ((spec_l15Squares.f k a1_0 a1_1 a1_2 l2).bind fun t709 => (some (t709, 0))) else (some (([] : List (S48)), t708)))
theorem spec_SquaresOf.calls (k : Nat) (a0 : Int) (a1_0 : Int) (a1_1 : Int) (a1_2 : Int) (A2 : Option Addr) (c2 : Nat) (l2 : List (S48)) (r1 : List (S48)) (r2 : Int) (w : World) (hr2 : Kd.C k48 w A2 l2.length l2) (hc2 : l2.length ≤ c2) (h : spec_SquaresOf.f k a0 a1_0 a1_1 a1_2 l2 = some (r1, r2)) :
  Calls Tryz.prog 22 #[.int .i64 a0, .agg #[.int .i64 a1_0, .int .i64 a1_1, .int .i64 a1_2], .slice A2 l2.length c2] w fun e w' => ∃ v0_ : Value, e = .returned (.tuple #[v0_, .int .i64 r2]) ∧ Kd.R k48 48 w' w.heap.size (fun _ => True) v0_ r1 ∧ Below w.heap.size w w' := by
 have hu29 := Tryz.underlying29
 have HR2 := Aside0.mk hr2
 have HC2 := Aside0.mk hc2
 clear hr2 hc2
 have HB := asd (Below.refl w.heap.size w)
 have H : ((spec_l15One.f k a0 a1_0 a1_1 a1_2 l2).bind fun t708 => (if t708 = 0 then ((spec_l15Squares.f k a1_0 a1_1 a1_2 l2).bind fun t709 => (some (t709, 0))) else (some (([] : List (S48)), t708)))) = some (r1, r2) := h
 clear h
 obtain ⟨t708, A4, H⟩ := ob H
 try dsimp only at H
 by_cases c5 : t708 = 0
 ·rw [if_pos c5] at H
  have c5b0 : (t708 == 0) = true := beq_iff_eq.mpr c5
  have c5b1 : (t708 != 0) = false := bne_eq_false_iff_eq.mpr c5
  clear c5
  obtain ⟨t709, A6, H⟩ := ob H
  try dsimp only at H
  simp only [Option.some.injEq, Prod.mk.injEq] at H
  obtain ⟨rfl, rfl⟩ := H
  go_enter Tryz.func22, Tryz.ntmps22
  go_wp2_with (first | ((with_reducible refine gd 4 rfl ?_); refine bx #[.int .i64 a1_0, .int .i64 a1_1, .int .i64 a1_2] 29 ?_; intro gb707 hg w7 BK707 hb; have GE707 := ngw0 hg HB; replace HB := bS0 HB hb; clear hb hg; obtain ⟨hcz8_0, hcz8_1, hcz8_2, hfz8_0, hfz8_1, hfz8_2⟩ := bz3 BK707) | ((with_reducible refine gate_callee (f := 50) rfl ?_); refine gl 12 Tryz.func50 #[.int .i64 a0, .agg #[.int .i64 a1_0, .int .i64 a1_1, .int .i64 a1_2], .slice A2 l2.length c2] ?_; (with_reducible refine (spec_l15One.calls _ _ _ _ _ _ _ _ _ _ ?side1 ?side2 A4.out).mono ?_); (case side1 => exact ks (Kd.C_below HR2.out HB.out)); (case side2 => exact HC2.out); rintro e w9 ⟨rfl, hb⟩; refine ⟨_, rfl, ?_⟩; replace BK707 := bB BK707 hb; replace HB := bS1 HB GE707 hb; (try clear hb); obtain ⟨hcz10_0, hcz10_1, hcz10_2, hfz10_0, hfz10_1, hfz10_2⟩ := bz3 BK707) | ((with_reducible refine gate_callee (f := 54) rfl ?_); refine gl 18 Tryz.func54 #[.agg #[.int .i64 a1_0, .int .i64 a1_1, .int .i64 a1_2], .slice A2 l2.length c2] ?_; (with_reducible refine (spec_l15Squares.calls _ _ _ _ _ _ _ _ _ ?side1 ?side2 A6.out).mono ?_); (case side1 => exact ks (Kd.C_below HR2.out HB.out)); (case side2 => exact HC2.out); rintro e w11 ⟨v710, rfl, ho0, hb⟩; refine ⟨_, rfl, ?_⟩; have HO711 := asd (Kd.R_lower ho0 (bsz1 HB GE707)); replace BK707 := bB BK707 hb; replace HB := bS1 HB GE707 hb; (try clear hb); (try clear hb2); (try clear hk); (try clear hi); (try clear ho0)))
  go_ret2
  exact ⟨_, by first | rfl | (simp [errW_none, errW_some] <;> rfl) | (simp [*, errW_none, errW_some] <;> rfl), by (with_reducible repeat (first | apply Kd.R_alloc | apply Kd.R_drewN | apply Kd.R_drew)); exact HO711.out, bbw1 HB GE707⟩
 ·rw [if_neg c5] at H
  have c5b0 : (t708 == 0) = false := beq_eq_false_iff_ne.mpr c5
  have c5b1 : (t708 != 0) = true := bne_iff_ne.mpr c5
  simp only [Option.some.injEq, Prod.mk.injEq] at H
  obtain ⟨rfl, rfl⟩ := H
  go_enter Tryz.func22, Tryz.ntmps22
  go_wp2_with (first | ((with_reducible refine gd 4 rfl ?_); refine bx #[.int .i64 a1_0, .int .i64 a1_1, .int .i64 a1_2] 29 ?_; intro gb707 hg w12 BK707 hb; have GE707 := ngw0 hg HB; replace HB := bS0 HB hb; clear hb hg; obtain ⟨hcz13_0, hcz13_1, hcz13_2, hfz13_0, hfz13_1, hfz13_2⟩ := bz3 BK707) | ((with_reducible refine gate_callee (f := 50) rfl ?_); refine gl 12 Tryz.func50 #[.int .i64 a0, .agg #[.int .i64 a1_0, .int .i64 a1_1, .int .i64 a1_2], .slice A2 l2.length c2] ?_; (with_reducible refine (spec_l15One.calls _ _ _ _ _ _ _ _ _ _ ?side1 ?side2 A4.out).mono ?_); (case side1 => exact ks (Kd.C_below HR2.out HB.out)); (case side2 => exact HC2.out); rintro e w14 ⟨rfl, hb⟩; refine ⟨_, rfl, ?_⟩; replace BK707 := bB BK707 hb; replace HB := bS1 HB GE707 hb; (try clear hb)))
  go_ret2
  exact ⟨_, by first | rfl | (simp [errW_none, errW_some] <;> rfl) | (simp [*, errW_none, errW_some] <;> rfl), by first | exact Kd.R_nil _ _ _ _ _ | exact Kd.N_nil _ _ _ _ _ | exact Kd.V_nil _ _ _ _ _ | exact Kd.Q_nil _ _ _ _ _ | exact Kd.S_nil _ _ _ _ _, bbw1 HB GE707⟩
def impl_Lattice_compose.f (a0_0 : Int) (a0_1 : Int) (a0_2 : Int) (a1_0 : Int) (a1_1 : Int) (a1_2 : Int) (a1_3 : Int) (a1_4 : Int) (a1_5 : Int) (a2_0 : Int) (a2_1 : Int) (a2_2 : Int) (a2_3 : Int) (a2_4 : Int) (a2_5 : Int) : Option (Int × Int × Int × Int × Int × Int) := (impl_Motion_times.f a1_0 a1_1 a1_2 a1_3 a1_4 a1_5 a2_0 a2_1 a2_2 a2_3 a2_4 a2_5).bind fun bt716 => ((impl_Lattice_reduceMotion.f a0_0 a0_1 a0_2 bt716.1 bt716.2.1 bt716.2.2.1 bt716.2.2.2.1 bt716.2.2.2.2.1 bt716.2.2.2.2.2).bind fun bt722 => (some (bt722.1, bt722.2.1, bt722.2.2.1, bt722.2.2.2.1, bt722.2.2.2.2.1, bt722.2.2.2.2.2)))
theorem impl_Lattice_compose.calls (a0_0 : Int) (a0_1 : Int) (a0_2 : Int) (a1_0 : Int) (a1_1 : Int) (a1_2 : Int) (a1_3 : Int) (a1_4 : Int) (a1_5 : Int) (a2_0 : Int) (a2_1 : Int) (a2_2 : Int) (a2_3 : Int) (a2_4 : Int) (a2_5 : Int) (r1 : Int) (r2 : Int) (r3 : Int) (r4 : Int) (r5 : Int) (r6 : Int) (w : World) (h : impl_Lattice_compose.f a0_0 a0_1 a0_2 a1_0 a1_1 a1_2 a1_3 a1_4 a1_5 a2_0 a2_1 a2_2 a2_3 a2_4 a2_5 = some (r1, r2, r3, r4, r5, r6)) :
  Calls Tryz.prog 87 #[.agg #[.int .i64 a0_0, .int .i64 a0_1, .int .i64 a0_2], .agg #[.int .i64 a1_0, .int .i64 a1_1, .int .i64 a1_2, .int .i64 a1_3, .int .i64 a1_4, .int .i64 a1_5], .agg #[.int .i64 a2_0, .int .i64 a2_1, .int .i64 a2_2, .int .i64 a2_3, .int .i64 a2_4, .int .i64 a2_5]] w fun e w' => e = .returned (.agg #[.int .i64 r1, .int .i64 r2, .int .i64 r3, .int .i64 r4, .int .i64 r5, .int .i64 r6]) ∧ Below w.heap.size w w' := by
 have hu29 := Tryz.underlying29
 have hu48 := Tryz.underlying48
 have HB := asd (Below.refl w.heap.size w)
 have H : ((impl_Motion_times.f a1_0 a1_1 a1_2 a1_3 a1_4 a1_5 a2_0 a2_1 a2_2 a2_3 a2_4 a2_5).bind fun bt716 => ((impl_Lattice_reduceMotion.f a0_0 a0_1 a0_2 bt716.1 bt716.2.1 bt716.2.2.1 bt716.2.2.2.1 bt716.2.2.2.2.1 bt716.2.2.2.2.2).bind fun bt722 => (some (bt722.1, bt722.2.1, bt722.2.2.1, bt722.2.2.2.1, bt722.2.2.2.2.1, bt722.2.2.2.2.2)))) = some (r1, r2, r3, r4, r5, r6) := h
 clear h
 obtain ⟨⟨t716, t717, t718, t719, t720, t721⟩, A4, H⟩ := ob H
 try dsimp only at H
 obtain ⟨⟨t722, t723, t724, t725, t726, t727⟩, A5, H⟩ := ob H
 try dsimp only at H
 simp only [Option.some.injEq, Prod.mk.injEq] at H
 obtain ⟨rfl, rfl, rfl, rfl, rfl, rfl⟩ := H
 go_enter Tryz.func87, Tryz.ntmps87
 try go_wp2_with (first | ((with_reducible refine gd 3 rfl ?_); refine bx #[.int .i64 a0_0, .int .i64 a0_1, .int .i64 a0_2] 29 ?_; intro gb712 hg w6 BK712 hb; have GE712 := ngw0 hg HB; replace HB := bS0 HB hb; clear hb hg) | ((with_reducible refine gd 4 rfl ?_); refine bx #[.int .i64 a1_0, .int .i64 a1_1, .int .i64 a1_2, .int .i64 a1_3, .int .i64 a1_4, .int .i64 a1_5] 48 ?_; intro gb713 hg w7 BK713 hb; have GE713 := ngw1 hg HB GE712; replace HB := bS1 HB GE712 hb; have NB712_713 := nlt hg BK712; have NB713_712 := nsy (nlt hg BK712); replace BK712 := bB BK712 hb; clear hb hg) | ((with_reducible refine gd 5 rfl ?_); refine bx #[.int .i64 a2_0, .int .i64 a2_1, .int .i64 a2_2, .int .i64 a2_3, .int .i64 a2_4, .int .i64 a2_5] 48 ?_; intro gb714 hg w8 BK714 hb; have GE714 := ngw2 hg HB GE712 GE713; replace HB := bS2 HB GE712 GE713 hb; have NB712_714 := nlt hg BK712; have NB714_712 := nsy (nlt hg BK712); replace BK712 := bB BK712 hb; have NB713_714 := nlt hg BK713; have NB714_713 := nsy (nlt hg BK713); replace BK713 := bB BK713 hb; clear hb hg) | ((with_reducible refine gd 6 rfl ?_); refine bx #[.int .i64 0, .int .i64 0, .int .i64 0, .int .i64 0, .int .i64 0, .int .i64 0] 48 ?_; intro gb715 hg w9 BK715 hb; have GE715 := ngw3 hg HB GE712 GE713 GE714; replace HB := bS3 HB GE712 GE713 GE714 hb; have NB712_715 := nlt hg BK712; have NB715_712 := nsy (nlt hg BK712); replace BK712 := bB BK712 hb; have NB713_715 := nlt hg BK713; have NB715_713 := nsy (nlt hg BK713); replace BK713 := bB BK713 hb; have NB714_715 := nlt hg BK714; have NB715_714 := nsy (nlt hg BK714); replace BK714 := bB BK714 hb; clear hb hg))
 replace BK712 := asd (blk_drew BK712.out)
 replace BK713 := asd (blk_drew BK713.out)
 replace BK714 := asd (blk_drew BK714.out)
 replace BK715 := asd (blk_drew BK715.out)
 replace HB := asd (below_drew1 HB.out)
 refine sh 6 (cb3 BK712 (cb6 BK713 (eb6 BK714))) (fun hHeld => ?_)
 generalize w9.drew = w10 at BK712 BK713 BK714 BK715 HB hHeld ⊢
 refine take_ (i := 0) (N := some 7) (v := ?_) (a' := ?_) (bT 6 1) rfl rfl (by kernel_rfl) (fun _ _ _ h => h) (Or.inl ⟨by rfl, ?_⟩) hHeld ?_ ?_
 rotate_left
 ·rintro w' ⟨s0, s1, s2, s3, s4, s5, s6, s7, s8, s9, s10, s11, s12, s13, s14⟩
  go_simp
  with_reducible rfl
 rotate_left
 ·simp only [Act.put, sA, sB, sC, i64_w, i32_w]
  rfl
 refine take_ (i := 1) (N := some 8) (v := ?_) (a' := ?_) (bT 6 2) rfl rfl (by kernel_rfl) (fun _ _ _ h => h) (Or.inl ⟨by rfl, ?_⟩) hHeld ?_ ?_
 rotate_left
 ·rintro w' ⟨s0, s1, s2, s3, s4, s5, s6, s7, s8, s9, s10, s11, s12, s13, s14⟩
  go_simp
  with_reducible rfl
 rotate_left
 ·simp only [Act.put, sA, sB, sC, i64_w, i32_w]
  rfl
 refine take_ (i := 2) (N := some 9) (v := ?_) (a' := ?_) (bT 6 3) rfl rfl (by kernel_rfl) (fun _ _ _ h => h) (Or.inl ⟨by rfl, ?_⟩) hHeld ?_ ?_
 rotate_left
 ·rintro w' ⟨s0, s1, s2, s3, s4, s5, s6, s7, s8, s9, s10, s11, s12, s13, s14⟩
  go_simp
  with_reducible rfl
 rotate_left
 ·simp only [Act.put, sA, sB, sC, i64_w, i32_w]
  rfl
 refine one_ (i := 3) (N := some 10) (bT 6 4) rfl rfl (by kernel_rfl) (by decide) (fun K hK => ?_)
 refine gs Tryz.func73 #[.agg #[.int .i64 a1_0, .int .i64 a1_1, .int .i64 a1_2, .int .i64 a1_3, .int .i64 a1_4, .int .i64 a1_5], .agg #[.int .i64 a2_0, .int .i64 a2_1, .int .i64 a2_2, .int .i64 a2_3, .int .i64 a2_4, .int .i64 a2_5]] ?_
 with_reducible refine (impl_Motion_times.calls _ _ _ _ _ _ _ _ _ _ _ _ _ _ _ _ _ _ _ A4.out).mono ?_
 rintro e w11 ⟨rfl, hb⟩
 refine ⟨_, rfl, ?_⟩
 replace BK712 := bB BK712 hb
 replace BK713 := bB BK713 hb
 replace BK714 := bB BK714 hb
 replace BK715 := bB BK715 hb
 replace HB := bS4 HB GE712 GE713 GE714 GE715 hb
 (try clear hb)
 (try clear hb2)
 (try clear hk)
 (try clear hi)
 refine hK.out _ _ (cb3 BK712 (cb6 BK713 (eb6 BK714))).out (fun hHeld => ?_)
 clear hK K
 refine norm_ (a' := ?_) ?_ ?_
 rotate_left
 ·show Act.put _ (some 10) _ = _
  simp only [Act.put, sA, sB, sC, i64_w, i32_w]
  rfl
 refine one_ (i := 4) (N := some 11) (bT 6 5) rfl rfl (by kernel_rfl) (by decide) (fun K hK => ?_)
 refine gs Tryz.func72 #[.agg #[.int .i64 a0_0, .int .i64 a0_1, .int .i64 a0_2], .agg #[.int .i64 t716, .int .i64 t717, .int .i64 t718, .int .i64 t719, .int .i64 t720, .int .i64 t721]] ?_
 with_reducible refine (impl_Lattice_reduceMotion.calls _ _ _ _ _ _ _ _ _ _ _ _ _ _ _ _ A5.out).mono ?_
 rintro e w12 ⟨rfl, hb⟩
 refine ⟨_, rfl, ?_⟩
 replace BK712 := bB BK712 hb
 replace BK713 := bB BK713 hb
 replace BK714 := bB BK714 hb
 replace BK715 := bB BK715 hb
 replace HB := bS4 HB GE712 GE713 GE714 GE715 hb
 (try clear hb)
 (try clear hb2)
 (try clear hk)
 (try clear hi)
 refine hK.out _ _ (cb3 BK712 (cb6 BK713 (eb6 BK714))).out (fun hHeld => ?_)
 clear hK K
 refine norm_ (a' := ?_) ?_ ?_
 rotate_left
 ·show Act.put _ (some 11) _ = _
  simp only [Act.put, sA, sB, sC, i64_w, i32_w]
  rfl
 refine one_ (i := 5) (N := none) (bT 6 6) rfl rfl (by kernel_rfl) (by decide) (fun K hK => ?_)
 have hs13 : w12.cell? ⟨gb715, 0, none⟩ = some (.int .i64 0) := bcl BK715 0
 have hfs13 := blk_frozen BK715.out 0
 have hns13_0 := NB712_715.out
 have hns13_1 := NB713_715.out
 have hns13_2 := NB714_715.out
 have hms13_0 := NB715_712.out
 have hms13_1 := NB715_713.out
 have hms13_2 := NB715_714.out
 have hs14 : w12.cell? ⟨gb715, 1, none⟩ = some (.int .i64 0) := bcl BK715 1
 have hfs14 := blk_frozen BK715.out 1
 have hns14_0 := NB712_715.out
 have hns14_1 := NB713_715.out
 have hns14_2 := NB714_715.out
 have hms14_0 := NB715_712.out
 have hms14_1 := NB715_713.out
 have hms14_2 := NB715_714.out
 have hs15 : w12.cell? ⟨gb715, 2, none⟩ = some (.int .i64 0) := bcl BK715 2
 have hfs15 := blk_frozen BK715.out 2
 have hns15_0 := NB712_715.out
 have hns15_1 := NB713_715.out
 have hns15_2 := NB714_715.out
 have hms15_0 := NB715_712.out
 have hms15_1 := NB715_713.out
 have hms15_2 := NB715_714.out
 have hs16 : w12.cell? ⟨gb715, 3, none⟩ = some (.int .i64 0) := bcl BK715 3
 have hfs16 := blk_frozen BK715.out 3
 have hns16_0 := NB712_715.out
 have hns16_1 := NB713_715.out
 have hns16_2 := NB714_715.out
 have hms16_0 := NB715_712.out
 have hms16_1 := NB715_713.out
 have hms16_2 := NB715_714.out
 have hs17 : w12.cell? ⟨gb715, 4, none⟩ = some (.int .i64 0) := bcl BK715 4
 have hfs17 := blk_frozen BK715.out 4
 have hns17_0 := NB712_715.out
 have hns17_1 := NB713_715.out
 have hns17_2 := NB714_715.out
 have hms17_0 := NB715_712.out
 have hms17_1 := NB715_713.out
 have hms17_2 := NB715_714.out
 have hs18 : w12.cell? ⟨gb715, 5, none⟩ = some (.int .i64 0) := bcl BK715 5
 have hfs18 := blk_frozen BK715.out 5
 have hns18_0 := NB712_715.out
 have hns18_1 := NB713_715.out
 have hns18_2 := NB714_715.out
 have hms18_0 := NB715_712.out
 have hms18_1 := NB715_713.out
 have hms18_2 := NB715_714.out
 refine skip_ (w1 := ?_) (by rfl) rfl ?_ ?_
 rotate_left
 ·go_simp
  rfl
 refine hK.out _ _ ⟨(cf6 NB712_715 (hHeld.1)), (cf6 NB712_715 (hHeld.2.1)), (cf6 NB712_715 (hHeld.2.2.1)), (cf6 NB713_715 (hHeld.2.2.2.1)), (cf6 NB713_715 (hHeld.2.2.2.2.1)), (cf6 NB713_715 (hHeld.2.2.2.2.2.1)), (cf6 NB713_715 (hHeld.2.2.2.2.2.2.1)), (cf6 NB713_715 (hHeld.2.2.2.2.2.2.2.1)), (cf6 NB713_715 (hHeld.2.2.2.2.2.2.2.2.1)), (cf6 NB714_715 (hHeld.2.2.2.2.2.2.2.2.2.1)), (cf6 NB714_715 (hHeld.2.2.2.2.2.2.2.2.2.2.1)), (cf6 NB714_715 (hHeld.2.2.2.2.2.2.2.2.2.2.2.1)), (cf6 NB714_715 (hHeld.2.2.2.2.2.2.2.2.2.2.2.2.1)), (cf6 NB714_715 (hHeld.2.2.2.2.2.2.2.2.2.2.2.2.2.1)), (cf6 NB714_715 (hHeld.2.2.2.2.2.2.2.2.2.2.2.2.2.2))⟩ (fun hHeld => ?_)
 clear hK K
 refine done_ (by kernel_rfl) ?_
 try go_wp2
 refine bodyPost_ret (results_cell_row rfl _ _ gb715 48 #[.int .i64 t722, .int .i64 t723, .int .i64 t724, .int .i64 t725, .int .i64 t726, .int .i64 t727] (0, 0) _ rfl (bq0 BK715) Tryz.underlying48 rfl (by kernel_rfl)) rfl ?_
 exact er (bbw4 HB GE712 GE713 GE714 GE715)
def impl_squaresOf.l0 : Nat → List (S48) → List (S48) → Int → Int → Int → Int → Int → Option ((List (S48)))
 | 0, _, _, _, _, _, _, _ => none
 | k + 1, x5, x9, x10, x11, x729000, x729001, x729002 => if x11 < x10 then (if 0 ≤ x11 then (if x11 < (x9.length : Int) then ((impl_Lattice_compose.f x729000 x729001 x729002 ((rd_T48 x9 x11).f0.f0) ((rd_T48 x9 x11).f0.f1) ((rd_T48 x9 x11).f0.f2) ((rd_T48 x9 x11).f0.f3) ((rd_T48 x9 x11).f1.f0) ((rd_T48 x9 x11).f1.f1) ((rd_T48 x9 x11).f0.f0) ((rd_T48 x9 x11).f0.f1) ((rd_T48 x9 x11).f0.f2) ((rd_T48 x9 x11).f0.f3) ((rd_T48 x9 x11).f1.f0) ((rd_T48 x9 x11).f1.f1)).bind fun bt734 => (if x5.length < 2932031007402 then (impl_squaresOf.l0 k (x5 ++ [(⟨(⟨bt734.1, bt734.2.1, bt734.2.2.1, bt734.2.2.2.1⟩ : S46), (⟨bt734.2.2.2.2.1, bt734.2.2.2.2.2⟩ : S38)⟩ : S48)]) x9 x10 (wrap64 (x11 + 1)) x729000 x729001 x729002) else (none))) else (none)) else (none)) else ((impl_closeGroup.f k x729000 x729001 x729002 x5).bind fun t743 => (some t743))
def impl_squaresOf.f (k : Nat) (a0_0 : Int) (a0_1 : Int) (a0_2 : Int) (l1 : List (S48)) : Option ((List (S48))) := impl_squaresOf.l0 k (([] : List (S48))) l1 (l1.length : Int) 0 a0_0 a0_1 a0_2
theorem impl_squaresOf.calls (k : Nat) (a0_0 : Int) (a0_1 : Int) (a0_2 : Int) (A1 : Option Addr) (c1 : Nat) (l1 : List (S48)) (r : List (S48)) (w : World) (hr1 : Kd.C k48 w A1 l1.length l1) (hc1 : l1.length ≤ c1) (h : impl_squaresOf.f k a0_0 a0_1 a0_2 l1 = some r) :
  Calls Tryz.prog 55 #[.agg #[.int .i64 a0_0, .int .i64 a0_1, .int .i64 a0_2], .slice A1 l1.length c1] w fun e w' => ∃ v0_ : Value, e = .returned (v0_) ∧ Kd.R k48 48 w' w.heap.size (fun _ => True) v0_ r ∧ Below w.heap.size w w' := by
 have hu29 := Tryz.underlying29
 have hu48 := Tryz.underlying48
 have HR1 := Aside0.mk hr1
 have HC1 := Aside0.mk hc1
 clear hr1 hc1
 have HB := asd (Below.refl w.heap.size w)
 have H : (impl_squaresOf.l0 k (([] : List (S48))) l1 (l1.length : Int) 0 a0_0 a0_1 a0_2) = some r := h
 clear h
 obtain ⟨y729, hy729⟩ : ∃ y_ : List (S48), y_ = (([] : List (S48))) := ⟨_, rfl⟩
 replace H : (impl_squaresOf.l0 k y729 l1 (l1.length : Int) 0 a0_0 a0_1 a0_2) = some r := by first | (rw [hy729]; with_reducible exact H) | (have H2_ := (Option.bind_some _ _).symm.trans H; rw [hy729]; with_reducible exact H2_) | (have H2_ := (Option.bind_some _ _).symm.trans H; with_reducible exact H2_) | with_reducible exact H | (rw [hy729]; exact H) | exact H
 have Ny729 := Aside0.mk hy729
 clear hy729
 have H' := Aside0.mk H
 clear H
 go_enter Tryz.func55, Tryz.ntmps55
 go_wp2_with (first | ((with_reducible refine gd 2 rfl ?_); refine bx #[.int .i64 a0_0, .int .i64 a0_1, .int .i64 a0_2] 29 ?_; intro gb728 hg w3 BK728 hb; have GE728 := ngw0 hg HB; replace HB := bS0 HB hb; clear hb hg) | ((with_reducible refine gd 8 rfl ?_); refine Kd.R_lit k48 _ 48 ?hg (N := 8) ?hd (xs := ([] : List (S48))) (inner := []) (ok := fun _ => True) (okp := fun _ => True) ?hr ?hp (fun _ hk => hk) trivial (Below.refl _ _) (Nat.le_refl _) (by simp) ?_; (case hd => rfl); (case hg => rfl); (case hr => first | (go_simp; done) | (go_simp; rfl)); (case hp => exact (Reps.none _ _)); intro v730 w4 ho5 hb hg_ hnew_; clear hg_ hnew_; (first | rw [← Ny729.out] at ho5 | (simp only [Int.reduceToNat] at ho5; rw [← Ny729.out] at ho5)); have HO731 := asd (Kd.R_lower ho5 (bsz1 HB GE728)); replace BK728 := bB BK728 hb; replace HB := bS1 HB GE728 hb; clear hb ho5))
 go_loopg [5, 11] k (fun kq v5 v11 w' => ∃ (x5_1 : List (S48)) (x11_1 : Int), v11 = .int .i64 x11_1 ∧ Aside0 (impl_squaresOf.l0 kq x5_1 l1 (l1.length : Int) x11_1 a0_0 a0_1 a0_2 = some r) ∧ Aside0 (kq ≤ k) ∧ Aside0 (Kd.R k48 48 w' w.heap.size (fun _ => True) v5 x5_1) ∧ Aside0 (w'.heap[gb728]? = some (.cells #[.int .i64 a0_0, .int .i64 a0_1, .int .i64 a0_2] 29 (0, 0))) ∧ Aside0 (Below w.heap.size w w'))
 case atStart => exact ⟨(y729), (0), (by first | rfl | (simp; done) | (simp [*]; done)), H', ⟨Nat.le_refl _⟩, ⟨by (with_reducible repeat (first | apply Kd.R_alloc | apply Kd.R_drewN | apply Kd.R_drew)); exact HO731.out⟩, ⟨bkp BK728⟩, ⟨bbw1 HB GE728⟩⟩
 case round =>
  clear H'
  try clear c1
  try clear p2
  try clear c5
  obtain ⟨x5_1, x11_1, rfl, HA, HK1, HO_5, BK728, HB⟩ := hrel
  cases gk with
  | zero => exact absurd HA.out (by simp [impl_squaresOf.l0])
  | succ k1 =>
   have H := HA.out
   clear HA
   simp only [impl_squaresOf.l0] at H
   by_cases c6 : x11_1 < (l1.length : Int)
   ·rw [if_pos c6] at H
    have c6b0 := decide_eq_true c6
    clear c6
    by_cases c7 : 0 ≤ x11_1
    ·rw [if_pos c7] at H
     have c7b0 := decide_eq_true c7
     clear c7
     by_cases c8 : x11_1 < (l1.length : Int)
     ·rw [if_pos c8] at H
      have c8b0 := decide_eq_true c8
      clear c8
      obtain ⟨⟨t734, t735, t736, t737, t738, t739⟩, A9, H⟩ := ob H
      try dsimp only at H
      by_cases c10 : x5_1.length < 2932031007402
      ·rw [if_pos c10] at H
       have LMc10 := Aside0.mk c10
       clear c10
       obtain ⟨y740, hy740⟩ : ∃ y_ : List (S48), y_ = (x5_1 ++ [(⟨(⟨t734, t735, t736, t737⟩ : S46), (⟨t738, t739⟩ : S38)⟩ : S48)]) := ⟨_, rfl⟩
       replace H : (impl_squaresOf.l0 k1 y740 l1 (l1.length : Int) (wrap64 (x11_1 + 1)) a0_0 a0_1 a0_2) = some r := by first | (rw [hy740]; with_reducible exact H) | (have H2_ := (Option.bind_some _ _).symm.trans H; rw [hy740]; with_reducible exact H2_) | (have H2_ := (Option.bind_some _ _).symm.trans H; with_reducible exact H2_) | with_reducible exact H | (rw [hy740]; exact H) | exact H
       have Ny740 := Aside0.mk hy740
       clear hy740
       have H' := Aside0.mk H
       clear H
       obtain ⟨p732, q732, ad732, e732, hx732_0, hx732_1, hx732_2, hx732_3, hx732_4, hx732_5⟩ := at_T48x HR1.out HB x11_1
       cases e732
       go_wp2_with (first | ((with_reducible refine gd 7 rfl ?_); refine bx #[.int .i64 0, .int .i64 0, .int .i64 0, .int .i64 0, .int .i64 0, .int .i64 0] 48 ?_; intro gb733 hg w11 BK733 hb; replace HO_5 := asd (Kd.R_below (Kd.R_elderB (kr HO_5) gb733 (Nat.le_of_eq hg.symm)) hb); have GE733 := ngw1 hg HB GE728; replace HB := bS1 HB GE728 hb; have NB728_733 := nlt hg BK728; have NB733_728 := nsy (nlt hg BK728); replace BK728 := bB BK728 hb; clear hb hg; have hnb12 := NB733_728.out; have hnc12 := NB728_733.out; obtain ⟨hcz13_0, hcz13_1, hcz13_2, hcz13_3, hcz13_4, hcz13_5, hfz13_0, hfz13_1, hfz13_2, hfz13_3, hfz13_4, hfz13_5⟩ := bz6 BK733; obtain ⟨hcz14_0, hcz14_1, hcz14_2, hfz14_0, hfz14_1, hfz14_2⟩ := bz3 BK728) | ((with_reducible refine gate_callee (f := 87) rfl ?_); refine gl 19 Tryz.func87 #[.agg #[.int .i64 a0_0, .int .i64 a0_1, .int .i64 a0_2], .agg #[.int .i64 ((rd_T48 l1 x11_1).f0.f0), .int .i64 ((rd_T48 l1 x11_1).f0.f1), .int .i64 ((rd_T48 l1 x11_1).f0.f2), .int .i64 ((rd_T48 l1 x11_1).f0.f3), .int .i64 ((rd_T48 l1 x11_1).f1.f0), .int .i64 ((rd_T48 l1 x11_1).f1.f1)], .agg #[.int .i64 ((rd_T48 l1 x11_1).f0.f0), .int .i64 ((rd_T48 l1 x11_1).f0.f1), .int .i64 ((rd_T48 l1 x11_1).f0.f2), .int .i64 ((rd_T48 l1 x11_1).f0.f3), .int .i64 ((rd_T48 l1 x11_1).f1.f0), .int .i64 ((rd_T48 l1 x11_1).f1.f1)]] ?_; (with_reducible refine (impl_Lattice_compose.calls _ _ _ _ _ _ _ _ _ _ _ _ _ _ _ _ _ _ _ _ _ _ A9.out).mono ?_); rintro e w15 ⟨rfl, hb⟩; refine ⟨_, rfl, ?_⟩; replace HO_5 := asd (Kd.R_below (by (with_reducible repeat (first | apply Kd.R_alloc | apply Kd.R_drewN | apply Kd.R_drew)); exact (Kd.R_mono (rw6 (Kd.R_mono HO_5.out (fun k_ hk => (⟨hk, hk.2⟩ : _ ∧ k_ ≠ gb733)))) (fun _ h_ => h_.1))) hb); replace BK728 := asd (blk_below (g := gb728) (o := .cells #[.int .i64 a0_0, .int .i64 a0_1, .int .i64 a0_2] 29 (0, 0)) (bq1 BK728 NB728_733) hb); replace BK733 := asd (blk_below (g := gb733) (o := .cells #[.int .i64 ((rd_T48 l1 x11_1).f0.f0), .int .i64 ((rd_T48 l1 x11_1).f0.f1), .int .i64 ((rd_T48 l1 x11_1).f0.f2), .int .i64 ((rd_T48 l1 x11_1).f0.f3), .int .i64 ((rd_T48 l1 x11_1).f1.f0), .int .i64 ((rd_T48 l1 x11_1).f1.f1)] 48 (0, 0)) (bq0 BK733) hb); replace HB := bS2 HB GE728 GE733 hb; (try clear hb)) | ((with_reducible refine gate_builtin (b := .append) (xs := #[.tmp 15, .tmp 20]) rfl ?_); at_builtin; refine Kd.R_append k48 (w0 := w) w.heap.size rfl (.tmp 15) (.tmp 20) 26 48 (.agg #[(.int .i64 0), (.int .i64 0), (.int .i64 0), (.int .i64 0), (.int .i64 0), (.int .i64 0)]) 48 rfl Tryz.underlying26 info48 rfl (by decide) (by omega) u5 x5_1 (⟨(⟨t734, t735, t736, t737⟩ : S46), (⟨t738, t739⟩ : S38)⟩ : S48) [.int .i64 t734, .int .i64 t735, .int .i64 t736, .int .i64 t737, .int .i64 t738, .int .i64 t739] (fun k_ => k_ ≠ gb733) (fun _ => False) rfl rfl ?aP (fun _ hk => hk.elim) ?aF ?aO ?aB ?aS ?aL ?_; (case aP => exact k48_mkM _ _ _ (⟨(⟨t734, t735, t736, t737⟩ : S46), (⟨t738, t739⟩ : S38)⟩ : S48)); (case aB => exact (bbw2 HB GE728 GE733)); (case aF => exact (fun k_ hk => Kd.freshB (g := gb733) (o := .cells #[.int .i64 ((rd_T48 l1 x11_1).f0.f0), .int .i64 ((rd_T48 l1 x11_1).f0.f1), .int .i64 ((rd_T48 l1 x11_1).f0.f2), .int .i64 ((rd_T48 l1 x11_1).f0.f3), .int .i64 ((rd_T48 l1 x11_1).f1.f0), .int .i64 ((rd_T48 l1 x11_1).f1.f1)] 48 (0, 0)) (bkp BK733) k_ hk)); (case aO => exact (by (with_reducible repeat (first | apply Kd.R_alloc | apply Kd.R_drewN | apply Kd.R_drew)); exact Kd.R_mono HO_5.out (fun _ hk => hk.2))); (case aS => exact (bsz2 HB GE728 GE733)); (case aL => have := LMc10.out; omega); intro v741 w16 ho hb hg hat; rw [← Ny740.out] at ho; have n0_ := asd (blk_grown (g := gb728) (o := .cells #[.int .i64 a0_0, .int .i64 a0_1, .int .i64 a0_2] 29 (0, 0)) (bkp BK728) hg (Kd.R_ne HO_5.out BK728.out (by decide))); have n1_ := asd (blk_grown (g := gb733) (o := .cells #[.int .i64 ((rd_T48 l1 x11_1).f0.f0), .int .i64 ((rd_T48 l1 x11_1).f0.f1), .int .i64 ((rd_T48 l1 x11_1).f0.f2), .int .i64 ((rd_T48 l1 x11_1).f0.f3), .int .i64 ((rd_T48 l1 x11_1).f1.f0), .int .i64 ((rd_T48 l1 x11_1).f1.f1)] 48 (0, 0)) (bkp BK733) hg (Kd.R_away HO_5.out (fun _ hk => hk.2))); have n2_ := asd (hb); have n3_ := asd (ho); clear BK728; clear BK733; clear HB; clear HO_5; have BK728 := n0_; have BK733 := n1_; have HB := n2_; have HO742 := n3_; clear n0_ n1_ n2_ n3_; clear ho hb hg hat))
       go_roundg k1
       case measure => have := HK1.out; omega
       case rel => exact ⟨(y740), (wrap64 (x11_1 + 1)), (by first | rfl | (simp; done) | (simp [*]; done)), H', ⟨by have := HK1.out; omega⟩, ⟨by (with_reducible repeat (first | apply Kd.R_alloc | apply Kd.R_drewN | apply Kd.R_drew)); exact Kd.R_mono HO742.out (fun _ hk => trivial)⟩, ⟨bkp BK728⟩, ⟨bbw2 HB GE728 GE733⟩⟩
      ·rw [if_neg c10] at H
       exact absurd H (by simp)
     ·rw [if_neg c8] at H
      exact absurd H (by simp)
    ·rw [if_neg c7] at H
     exact absurd H (by simp)
   ·rw [if_neg c6] at H
    have c6b0 := decide_eq_false c6
    clear c6
    obtain ⟨t743, A17, H⟩ := ob H
    try dsimp only at H
    obtain rfl := Option.some.inj H
    obtain ⟨hcz18_0, hcz18_1, hcz18_2, hfz18_0, hfz18_1, hfz18_2⟩ := bz3 BK728
    obtain ⟨Ao19, co19, eo19⟩ := Kd.R_slice HO_5.out
    subst eo19
    go_wp2_with (first | ((with_reducible refine gate_callee (f := 37) rfl ?_); refine gl 25 Tryz.func37 #[.agg #[.int .i64 a0_0, .int .i64 a0_1, .int .i64 a0_2], .slice Ao19 x5_1.length co19] ?_; (with_reducible refine (impl_closeGroup.calls _ _ _ _ _ _ _ _ _ ?side1 ?side2 A17.out).mono ?_); (case side1 => exact ks (Kd.R_reads' HO_5.out).2.2); (case side2 => exact (Kd.R_reads' HO_5.out).2.1); rintro e w20 ⟨v744, rfl, ho0, hb⟩; refine ⟨_, rfl, ?_⟩; have HO745 := asd (Kd.R_lower (Kd.R_new' ho0 (Kd.R_lt (kr HO_5))) (bsz1 HB GE728)); replace HO_5 := asd (Kd.R_elder' (kr HO_5) (Kd.R_base ho0) hb); replace BK728 := bB BK728 hb; replace HB := bS1 HB GE728 hb; (try clear hb); (try clear hb2); (try clear hk); (try clear hi); (try clear ho0)))
    go_ret
    exact ⟨_, by first | rfl | (simp [errW_none, errW_some] <;> rfl) | (simp [*, errW_none, errW_some] <;> rfl), by (with_reducible repeat (first | apply Kd.R_alloc | apply Kd.R_drewN | apply Kd.R_drew)); exact Kd.R_mono HO745.out (fun _ hk => trivial), bbw1 HB GE728⟩
def impl_SquaresOf.f (k : Nat) (a0 : Int) (a1_0 : Int) (a1_1 : Int) (a1_2 : Int) (l2 : List (S48)) : Option ((List (S48)) × Int) := (impl_smallCode.f k a0 a1_0 a1_1 a1_2 l2).bind fun t747 => (if t747 = 0 then ((impl_squaresOf.f k a1_0 a1_1 a1_2 l2).bind fun t748 => (some (t748, 0))) else (some (([] : List (S48)), t747)))
theorem impl_SquaresOf.calls (k : Nat) (a0 : Int) (a1_0 : Int) (a1_1 : Int) (a1_2 : Int) (A2 : Option Addr) (c2 : Nat) (l2 : List (S48)) (r1 : List (S48)) (r2 : Int) (w : World) (hr2 : Kd.C k48 w A2 l2.length l2) (hc2 : l2.length ≤ c2) (h : impl_SquaresOf.f k a0 a1_0 a1_1 a1_2 l2 = some (r1, r2)) :
  Calls Tryz.prog 23 #[.int .i64 a0, .agg #[.int .i64 a1_0, .int .i64 a1_1, .int .i64 a1_2], .slice A2 l2.length c2] w fun e w' => ∃ v0_ : Value, e = .returned (.tuple #[v0_, .int .i64 r2]) ∧ Kd.R k48 48 w' w.heap.size (fun _ => True) v0_ r1 ∧ Below w.heap.size w w' := by
 have hu29 := Tryz.underlying29
 have HR2 := Aside0.mk hr2
 have HC2 := Aside0.mk hc2
 clear hr2 hc2
 have HB := asd (Below.refl w.heap.size w)
 have H : ((impl_smallCode.f k a0 a1_0 a1_1 a1_2 l2).bind fun t747 => (if t747 = 0 then ((impl_squaresOf.f k a1_0 a1_1 a1_2 l2).bind fun t748 => (some (t748, 0))) else (some (([] : List (S48)), t747)))) = some (r1, r2) := h
 clear h
 obtain ⟨t747, A4, H⟩ := ob H
 try dsimp only at H
 by_cases c5 : t747 = 0
 ·rw [if_pos c5] at H
  have c5b0 : (t747 == 0) = true := beq_iff_eq.mpr c5
  have c5b1 : (t747 != 0) = false := bne_eq_false_iff_eq.mpr c5
  clear c5
  obtain ⟨t748, A6, H⟩ := ob H
  try dsimp only at H
  simp only [Option.some.injEq, Prod.mk.injEq] at H
  obtain ⟨rfl, rfl⟩ := H
  go_enter Tryz.func23, Tryz.ntmps23
  go_wp2_with (first | ((with_reducible refine gd 4 rfl ?_); refine bx #[.int .i64 a1_0, .int .i64 a1_1, .int .i64 a1_2] 29 ?_; intro gb746 hg w7 BK746 hb; have GE746 := ngw0 hg HB; replace HB := bS0 HB hb; clear hb hg; obtain ⟨hcz8_0, hcz8_1, hcz8_2, hfz8_0, hfz8_1, hfz8_2⟩ := bz3 BK746) | ((with_reducible refine gate_callee (f := 52) rfl ?_); refine gl 12 Tryz.func52 #[.int .i64 a0, .agg #[.int .i64 a1_0, .int .i64 a1_1, .int .i64 a1_2], .slice A2 l2.length c2] ?_; (with_reducible refine (impl_smallCode.calls _ _ _ _ _ (fun k_ => k_ < w.heap.size) _ _ _ _ _ ?side1 A4.out).mono ?_); (case side1 => exact Kd.V_mk HC2.out (Kd.F_below (Kd.C_F k48_heap HR2.out) (bbw1 HB GE746))); rintro e w9 ⟨rfl, hb⟩; refine ⟨_, rfl, ?_⟩; replace BK746 := bB BK746 hb; replace HB := bS1 HB GE746 hb; (try clear hb); obtain ⟨hcz10_0, hcz10_1, hcz10_2, hfz10_0, hfz10_1, hfz10_2⟩ := bz3 BK746) | ((with_reducible refine gate_callee (f := 55) rfl ?_); refine gl 18 Tryz.func55 #[.agg #[.int .i64 a1_0, .int .i64 a1_1, .int .i64 a1_2], .slice A2 l2.length c2] ?_; (with_reducible refine (impl_squaresOf.calls _ _ _ _ _ _ _ _ _ ?side1 ?side2 A6.out).mono ?_); (case side1 => exact ks (Kd.C_below HR2.out HB.out)); (case side2 => exact HC2.out); rintro e w11 ⟨v749, rfl, ho0, hb⟩; refine ⟨_, rfl, ?_⟩; have HO750 := asd (Kd.R_lower ho0 (bsz1 HB GE746)); replace BK746 := bB BK746 hb; replace HB := bS1 HB GE746 hb; (try clear hb); (try clear hb2); (try clear hk); (try clear hi); (try clear ho0)))
  go_ret2
  exact ⟨_, by first | rfl | (simp [errW_none, errW_some] <;> rfl) | (simp [*, errW_none, errW_some] <;> rfl), by (with_reducible repeat (first | apply Kd.R_alloc | apply Kd.R_drewN | apply Kd.R_drew)); exact HO750.out, bbw1 HB GE746⟩
 ·rw [if_neg c5] at H
  have c5b0 : (t747 == 0) = false := beq_eq_false_iff_ne.mpr c5
  have c5b1 : (t747 != 0) = true := bne_iff_ne.mpr c5
  simp only [Option.some.injEq, Prod.mk.injEq] at H
  obtain ⟨rfl, rfl⟩ := H
  go_enter Tryz.func23, Tryz.ntmps23
  go_wp2_with (first | ((with_reducible refine gd 4 rfl ?_); refine bx #[.int .i64 a1_0, .int .i64 a1_1, .int .i64 a1_2] 29 ?_; intro gb746 hg w12 BK746 hb; have GE746 := ngw0 hg HB; replace HB := bS0 HB hb; clear hb hg; obtain ⟨hcz13_0, hcz13_1, hcz13_2, hfz13_0, hfz13_1, hfz13_2⟩ := bz3 BK746) | ((with_reducible refine gate_callee (f := 52) rfl ?_); refine gl 12 Tryz.func52 #[.int .i64 a0, .agg #[.int .i64 a1_0, .int .i64 a1_1, .int .i64 a1_2], .slice A2 l2.length c2] ?_; (with_reducible refine (impl_smallCode.calls _ _ _ _ _ (fun k_ => k_ < w.heap.size) _ _ _ _ _ ?side1 A4.out).mono ?_); (case side1 => exact Kd.V_mk HC2.out (Kd.F_below (Kd.C_F k48_heap HR2.out) (bbw1 HB GE746))); rintro e w14 ⟨rfl, hb⟩; refine ⟨_, rfl, ?_⟩; replace BK746 := bB BK746 hb; replace HB := bS1 HB GE746 hb; (try clear hb)))
  go_ret2
  exact ⟨_, by first | rfl | (simp [errW_none, errW_some] <;> rfl) | (simp [*, errW_none, errW_some] <;> rfl), by first | exact Kd.R_nil _ _ _ _ _ | exact Kd.N_nil _ _ _ _ _ | exact Kd.V_nil _ _ _ _ _ | exact Kd.Q_nil _ _ _ _ _ | exact Kd.S_nil _ _ _ _ _, bbw1 HB GE746⟩
end Go.Proofs.YtdodghjnlekgeaaGreat.PA
