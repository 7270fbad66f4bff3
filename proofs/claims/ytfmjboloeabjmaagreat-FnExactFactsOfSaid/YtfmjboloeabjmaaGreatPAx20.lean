import Derived.Test.YtfmjboloeabjmaaGreatPAx0
import Derived.Test.YtfmjboloeabjmaaGreatPAx17
import Derived.Test.YtfmjboloeabjmaaGreatPAx18
import Derived.Test.YtfmjboloeabjmaaGreatPAx19
namespace Go.Proofs.YtfmjboloeabjmaaGreat.PA
open Go.RowKit Go.Proofs.YtfmjboloeabjmaaGreatW.PrintWords Go.Proofs.YtfmjboloeabjmaaGreatW.PrintLast Go.Proofs.YtfmjboloeabjmaaGreatW.PrintMore
attribute [local go_sem] max2_int min2_int max_two min_two max_three min_three max_four min_four   -- for this text's walks alone
set_option linter.unusedVariables false
set_option maxHeartbeats 8000000
set_option maxRecDepth 100000
set_option linter.unusedSimpArgs false
mutual
def impl_factsOf.l0 : Nat → Int → List (S46) → Int → Int → Int → Int → Int → Int → Int → Int → Int → Bool → Option (Int × Int × Int × Int × Bool)
 | 0, _, _, _, _, _, _, _, _, _, _, _, _ => none
 | k + 1, x0, A6, Bv, A5, AK, AL, AM, AV, AS, AW, AX, A0 => if A5 < Bv then (if 0 ≤ A5 then (if A5 < (A6.length : Int) then ((impl_Mat_det.f ((rd_T46 A6 A5).f0.f0) ((rd_T46 A6 A5).f0.f1) ((rd_T46 A6 A5).f0.f2) ((rd_T46 A6 A5).f0.f3)).bind fun Bj => (if Bj = 1 then (impl_factsOf.l0 k x0 A6 Bv (wrap64 (A5 + 1)) AK AL AM AV AS AW AX A0) else (if AS = 0 then ((impl_Mat_axis.f k ((rd_T46 A6 A5).f0.f0) ((rd_T46 A6 A5).f0.f1) ((rd_T46 A6 A5).f0.f2) ((rd_T46 A6 A5).f0.f3)).bind fun Cf => ((impl_Lattice_multipleIn.f k AK AL AM Cf.1 Cf.2).bind fun Bk => ((impl_shortestVecs.f k x0 AK AL AM).bind fun A7 => ((impl_Vec_37.f k A7 Bk.1 Bk.2).bind fun Ck => (if Ck = true then (impl_factsOf.j1 k x0 A6 Bv A5 AK AL AM AV AS AW AX true ((rd_T46 A6 A5).f0.f0) ((rd_T46 A6 A5).f0.f1) ((rd_T46 A6 A5).f0.f2) ((rd_T46 A6 A5).f0.f3) ((rd_T46 A6 A5).f1.f0) ((rd_T46 A6 A5).f1.f1)) else ((impl_Vec_times.f Bk.1 Bk.2 (-1)).bind fun Cg => ((impl_Vec_37.f k A7 Cg.1 Cg.2).bind fun Cl => (impl_factsOf.j1 k x0 A6 Bv A5 AK AL AM AV AS AW AX Cl ((rd_T46 A6 A5).f0.f0) ((rd_T46 A6 A5).f0.f1) ((rd_T46 A6 A5).f0.f2) ((rd_T46 A6 A5).f0.f3) ((rd_T46 A6 A5).f1.f0) ((rd_T46 A6 A5).f1.f1))))))))) else (impl_factsOf.j1 k x0 A6 Bv A5 AK AL AM AV AS AW AX A0 ((rd_T46 A6 A5).f0.f0) ((rd_T46 A6 A5).f0.f1) ((rd_T46 A6 A5).f0.f2) ((rd_T46 A6 A5).f0.f3) ((rd_T46 A6 A5).f1.f0) ((rd_T46 A6 A5).f1.f1))))) else (none)) else (none)) else (some (AV, AS, AW, AX, A0))
def impl_factsOf.j1 : Nat → Int → List (S46) → Int → Int → Int → Int → Int → Int → Int → Int → Int → Bool → Int → Int → Int → Int → Int → Int → Option (Int × Int × Int × Int × Bool)
 | 0, _, _, _, _, _, _, _, _, _, _, _, _, _, _, _, _, _, _ => none
 | k + 1, x0, A6, Bv, A5, AK, AL, AM, AV, AS, AW, AX, A0, Ba, Bb, Bc, Bd, Bw, Bx => (impl_Lattice_mayReflect.f k AK AL AM Ba Bb Bc Bd Bw Bx).bind fun Cm => (if Cm = true then ((impl_Lattice_isCentred.f k AK AL AM Ba Bb Bc Bd).bind fun Cn => (if Cn = true then (impl_factsOf.l0 k x0 A6 Bv (wrap64 (A5 + 1)) AK AL AM AV (wrap64 (AS + 1)) (wrap64 (AW + 1)) (wrap64 (AX + 1)) A0) else (impl_factsOf.l0 k x0 A6 Bv (wrap64 (A5 + 1)) AK AL AM AV (wrap64 (AS + 1)) (wrap64 (AW + 1)) AX A0))) else ((impl_Lattice_isCentred.f k AK AL AM Ba Bb Bc Bd).bind fun Co => (if Co = true then (impl_factsOf.l0 k x0 A6 Bv (wrap64 (A5 + 1)) AK AL AM AV (wrap64 (AS + 1)) AW (wrap64 (AX + 1)) A0) else (impl_factsOf.l0 k x0 A6 Bv (wrap64 (A5 + 1)) AK AL AM AV (wrap64 (AS + 1)) AW AX A0))))
end
def impl_factsOf.f (k : Nat) (a0 : Int) (AF : Int) (AG : Int) (AH : Int) (l2 : List (S46)) : Option (Int × Int × Int × Int × Bool) := (impl_rotationOrder.f k l2).bind fun AZ => (impl_factsOf.l0 k a0 l2 (l2.length : Int) 0 AF AG AH AZ 0 0 0 false)
def impl_factsOf.T7 : Bool × List (List Nat × List Nat) := (true, [([], []), ([], []), ([1], [1]), ([2], [2]), ([0, 3, 3], [0, 3]), ([], []), ([], []), ([5, 6, 4], [5, 6]), ([], []), ([8, 4, 7, 0, 1, 2, 3, 4, 8], [4, 8]), ([7, 9, 0, 1, 2, 3, 4, 5, 6, 7, 8, 9], [7])])
def impl_factsOf.B7 : List Nat := [0, 0, 2, 6, 15, 0, 0, 127, 0, 511, 1023]
theorem impl_factsOf.tab7 : rtab .any (opsOf Tryz.f16 7) = impl_factsOf.T7 := by kernel_rfl
theorem impl_factsOf.bits7 : waitsOk impl_factsOf.T7.2 impl_factsOf.B7 = true := by kernel_rfl
theorem impl_factsOf.calls (k : Nat) (a0 : Int) (AF : Int) (AG : Int) (AH : Int) (A2 : Option Addr) (c2 : Nat) (l2 : List (S46)) (r1 : Int) (r2 : Int) (r3 : Int) (r4 : Int) (r5 : Bool) (w : World) (hr2 : Kd.C k46 w A2 l2.length l2) (hc2 : l2.length ≤ c2) (h : impl_factsOf.f k a0 AF AG AH l2 = some (r1, r2, r3, r4, r5)) :
  Calls Tryz.prog 16 #[.int .i64 a0, .agg #[.int .i64 AF, .int .i64 AG, .int .i64 AH], .slice A2 l2.length c2] w fun e w' => e = .returned (.agg #[.int .i64 r1, .int .i64 r2, .int .i64 r3, .int .i64 r4, .bool r5]) ∧ Below w.heap.size w w' := by
 have hu30 := Tryz.underlying30
 have hu27 := Tryz.underlying27
 have hu46 := Tryz.underlying46
 have hu42 := Tryz.underlying42
 have hu44 := Tryz.underlying44
 have HR2 := Aside0.mk hr2
 have JX := Aside0.mk hc2
 clear hr2 hc2
 have HB := asd (Below.refl w.heap.size w)
 have H : ((impl_rotationOrder.f k l2).bind fun AZ => (impl_factsOf.l0 k a0 l2 (l2.length : Int) 0 AF AG AH AZ 0 0 0 false)) = some (r1, r2, r3, r4, r5) := h
 clear h
 obtain ⟨AZ, A4, H⟩ := ob H
 try dsimp only at H
 have H' := Aside0.mk H
 clear H
 go_enter Tryz.func16, Tryz.ntmps16
 go_wp2_with (first | ((with_reducible refine gd 4 rfl ?_); refine bx #[.int .i64 AF, .int .i64 AG, .int .i64 AH] 30 ?_; intro AD hg w5 Ab hb; have Ag := ngw0 hg HB; replace HB := bS0 HB hb; clear hb hg) | ((with_reducible refine gd 6 rfl ?_); refine bx #[.int .i64 0, .int .i64 0, .int .i64 0, .int .i64 0, .bool false] 27 ?_; intro AJ hg w6 Ae hb; have Ah := ngw1 hg HB Ag; replace HB := bS1 HB Ag hb; have A1 := nlt hg Ab; have A3 := nsy (nlt hg Ab); replace Ab := bB Ab hb; clear hb hg) | ((with_reducible refine gate_callee (f := 32) rfl ?_); refine gl 13 Tryz.func32 #[.slice A2 l2.length c2] ?_; (with_reducible refine (impl_rotationOrder.calls _ _ _ _ _ _ ?side1 ?side2 A4.out).mono ?_); (case side1 => exact ks (Kd.C_below HR2.out HB.out)); (case side2 => exact JX.out); rintro e w7 ⟨rfl, hb⟩; refine ⟨_, rfl, ?_⟩; replace Ab := bB Ab hb; replace Ae := bB Ae hb; replace HB := bS2 HB Ag Ah hb; (try clear hb)) | ((with_reducible refine gd 7 rfl ?_); refine bx #[.int .i64 0, .int .i64 0, .int .i64 0, .int .i64 0, .bool false] 27 ?_; intro AN hg w8 Ad hb; have Aj := ngw2 hg HB Ag Ah; replace HB := bS2 HB Ag Ah hb; have Ax := nlt hg Ab; have AO := nsy (nlt hg Ab); replace Ab := bB Ab hb; have Ay := nlt hg Ae; have AP := nsy (nlt hg Ae); replace Ae := bB Ae hb; clear hb hg; have JY := AO.out; have JZ := Ax.out; have IT := AP.out; have IU := Ay.out; obtain ⟨By, Bz, BA, BB, BC, BD, BE, BF, BG, BH⟩ := bz5 Ad))
 go_loopg [17] k (fun kq v17 w' => ∃ (Aa : Int) (Al : Int) (Ao : Int) (Ap : Int) (AE : Bool), v17 = .int .i64 Aa ∧ Aside0 (impl_factsOf.l0 kq a0 l2 (l2.length : Int) Aa AF AG AH AZ Al Ao Ap AE = some (r1, r2, r3, r4, r5)) ∧ Aside0 (kq ≤ k) ∧ Aside0 (w'.heap[AD]? = some (.cells #[.int .i64 AF, .int .i64 AG, .int .i64 AH] 30 (0, 0))) ∧ Aside0 (w'.heap[AJ]? = some (.cells #[.int .i64 0, .int .i64 0, .int .i64 0, .int .i64 0, .bool false] 27 (0, 0))) ∧ Aside0 (w'.heap[AN]? = some (.cells #[.int .i64 AZ, .int .i64 Al, .int .i64 Ao, .int .i64 Ap, .bool AE] 27 (0, 0))) ∧ Aside0 (Below w.heap.size w w'))
 case atStart => exact ⟨(0), (0), (0), (0), (false), (by first | rfl | (simp; done) | (simp [*]; done)), H', ⟨Nat.le_refl _⟩, ⟨bq1 Ab Ax⟩, ⟨bq1 Ae Ay⟩, ⟨bq0 Ad⟩, ⟨bbw3 HB Ag Ah Aj⟩⟩
 case round =>
  clear H'
  try clear c2
  try clear By
  try clear Bz
  try clear BA
  try clear BB
  try clear BC
  try clear BD
  try clear BE
  try clear BF
  try clear BG
  try clear BH
  obtain ⟨Aa, Al, Ao, Ap, AE, rfl, HA, Bl, Ab, Ae, Ad, HB⟩ := hrel
  cases gk with
  | zero => exact absurd HA.out (by simp [impl_factsOf.l0])
  | succ k1 =>
   have H := HA.out
   clear HA
   simp only [impl_factsOf.l0] at H
   by_cases Cr : Aa < (l2.length : Int)
   ·rw [if_pos Cr] at H
    have Ct := decide_eq_true Cr
    clear Cr
    by_cases FN : 0 ≤ Aa
    ·rw [if_pos FN] at H
     have IV := decide_eq_true FN
     clear FN
     by_cases FO : Aa < (l2.length : Int)
     ·rw [if_pos FO] at H
      have IW := decide_eq_true FO
      clear FO
      obtain ⟨Bj, IX, H⟩ := ob H
      try dsimp only at H
      by_cases Cp : Bj = 1
      ·rw [if_pos Cp] at H
       have Cu : (Bj == 1) = true := beq_iff_eq.mpr Cp
       have Cv : (Bj != 1) = false := bne_eq_false_iff_eq.mpr Cp
       clear Cp
       have H' := Aside0.mk H
       clear H
       obtain ⟨p753, q753, ad753, e753, BI, BJ, BK, BL, BM, BN⟩ := at_T46x HR2.out HB Aa
       cases e753
       go_wp2_with (first | ((with_reducible refine gd 9 rfl ?_); refine bx #[.int .i64 0, .int .i64 0, .int .i64 0, .int .i64 0, .int .i64 0, .int .i64 0] 46 ?_; intro Az hg Kc Ac hb; have Ak := ngw3 hg HB Ag Ah Aj; replace HB := bS3 HB Ag Ah Aj hb; have AQ := nlt hg Ab; have AT := nsy (nlt hg Ab); replace Ab := bB Ab hb; have AR := nlt hg Ae; have AU := nsy (nlt hg Ae); replace Ae := bB Ae hb; have AI := nlt hg Ad; have AA := nsy (nlt hg Ad); replace Ad := bB Ad hb; clear hb hg; have IY := AT.out; have IZ := AQ.out; have I0 := AU.out; have I1 := AR.out; have I2 := AA.out; have I3 := AI.out; obtain ⟨FP, FQ, FR, FS, FT, FU, FV, FW, FX, FY, FZ, F0⟩ := bz6 Ac) | ((with_reducible refine gate_callee (f := 33) rfl ?_); refine gl 23 Tryz.func33 #[.agg #[.int .i64 ((rd_T46 l2 Aa).f0.f0), .int .i64 ((rd_T46 l2 Aa).f0.f1), .int .i64 ((rd_T46 l2 Aa).f0.f2), .int .i64 ((rd_T46 l2 Aa).f0.f3)]] ?_; (with_reducible refine (impl_Mat_det.calls _ _ _ _ _ _ IX.out).mono ?_); rintro e Ke ⟨rfl, hb⟩; refine ⟨_, rfl, ?_⟩; replace Ab := asd (blk_below (g := AD) (o := .cells #[.int .i64 AF, .int .i64 AG, .int .i64 AH] 30 (0, 0)) (bq1 Ab AQ) hb); replace Ae := asd (blk_below (g := AJ) (o := .cells #[.int .i64 0, .int .i64 0, .int .i64 0, .int .i64 0, .bool false] 27 (0, 0)) (bq1 Ae AR) hb); replace Ad := asd (blk_below (g := AN) (o := .cells #[.int .i64 AZ, .int .i64 Al, .int .i64 Ao, .int .i64 Ap, .bool AE] 27 (0, 0)) (bq1 Ad AI) hb); replace Ac := asd (blk_below (g := Az) (o := .cells #[.int .i64 ((rd_T46 l2 Aa).f0.f0), .int .i64 ((rd_T46 l2 Aa).f0.f1), .int .i64 ((rd_T46 l2 Aa).f0.f2), .int .i64 ((rd_T46 l2 Aa).f0.f3), .int .i64 ((rd_T46 l2 Aa).f1.f0), .int .i64 ((rd_T46 l2 Aa).f1.f1)] 46 (0, 0)) (bq0 Ac) hb); replace HB := bS4 HB Ag Ah Aj Ak hb; (try clear hb)))
       go_roundg k1
       case measure => have := Bl.out; omega
       case rel => exact ⟨(wrap64 (Aa + 1)), (Al), (Ao), (Ap), (AE), (by first | rfl | (simp; done) | (simp [*]; done)), H', ⟨by have := Bl.out; omega⟩, ⟨bkp Ab⟩, ⟨bkp Ae⟩, ⟨bkp Ad⟩, ⟨bbw4 HB Ag Ah Aj Ak⟩⟩
      ·rw [if_neg Cp] at H
       have Cu : (Bj == 1) = false := beq_eq_false_iff_ne.mpr Cp
       have Cv : (Bj != 1) = true := bne_iff_ne.mpr Cp
       have Cq := Aside0.mk H
       clear H
       obtain ⟨p753, q753, ad753, e753, BI, BJ, BK, BL, BM, BN⟩ := at_T46x HR2.out HB Aa
       cases e753
       go_upto_if 27 with (first | ((with_reducible refine gd 9 rfl ?_); refine bx #[.int .i64 0, .int .i64 0, .int .i64 0, .int .i64 0, .int .i64 0, .int .i64 0] 46 ?_; intro Az hg Kf Ac hb; have Ak := ngw3 hg HB Ag Ah Aj; replace HB := bS3 HB Ag Ah Aj hb; have AQ := nlt hg Ab; have AT := nsy (nlt hg Ab); replace Ab := bB Ab hb; have AR := nlt hg Ae; have AU := nsy (nlt hg Ae); replace Ae := bB Ae hb; have AI := nlt hg Ad; have AA := nsy (nlt hg Ad); replace Ad := bB Ad hb; clear hb hg; have I4 := AT.out; have I5 := AQ.out; have I6 := AU.out; have I7 := AR.out; have I8 := AA.out; have I9 := AI.out; obtain ⟨F1, F2, F3, F4, F5, F6, F7, F8, F9, Ga, Gb, Gc⟩ := bz6 Ac) | ((with_reducible refine gate_callee (f := 33) rfl ?_); refine gl 23 Tryz.func33 #[.agg #[.int .i64 ((rd_T46 l2 Aa).f0.f0), .int .i64 ((rd_T46 l2 Aa).f0.f1), .int .i64 ((rd_T46 l2 Aa).f0.f2), .int .i64 ((rd_T46 l2 Aa).f0.f3)]] ?_; (with_reducible refine (impl_Mat_det.calls _ _ _ _ _ _ IX.out).mono ?_); rintro e Ja ⟨rfl, hb⟩; refine ⟨_, rfl, ?_⟩; replace Ab := asd (blk_below (g := AD) (o := .cells #[.int .i64 AF, .int .i64 AG, .int .i64 AH] 30 (0, 0)) (bq1 Ab AQ) hb); replace Ae := asd (blk_below (g := AJ) (o := .cells #[.int .i64 0, .int .i64 0, .int .i64 0, .int .i64 0, .bool false] 27 (0, 0)) (bq1 Ae AR) hb); replace Ad := asd (blk_below (g := AN) (o := .cells #[.int .i64 AZ, .int .i64 Al, .int .i64 Ao, .int .i64 Ap, .bool AE] 27 (0, 0)) (bq1 Ad AI) hb); replace Ac := asd (blk_below (g := Az) (o := .cells #[.int .i64 ((rd_T46 l2 Aa).f0.f0), .int .i64 ((rd_T46 l2 Aa).f0.f1), .int .i64 ((rd_T46 l2 Aa).f0.f2), .int .i64 ((rd_T46 l2 Aa).f0.f3), .int .i64 ((rd_T46 l2 Aa).f1.f0), .int .i64 ((rd_T46 l2 Aa).f1.f1)] 46 (0, 0)) (bq0 Ac) hb); replace HB := bS4 HB Ag Ah Aj Ak hb; (try clear hb); have Jb := AO.out; have Jc := Ax.out; have Jd := AP.out; have Je := Ay.out; obtain ⟨Gd, Ge, Gf, Gg, Gh, Gi, Gj, Gk, Gl, Gm⟩ := bz5 Ad))
       (try simp only [Act.put, sA, sB, sC])
       go_cut [] (fun wc => ∃ (kq : Nat) (AC : Bool), Aside0 (impl_factsOf.j1 kq a0 l2 (l2.length : Int) Aa AF AG AH AZ Al Ao Ap AC ((rd_T46 l2 Aa).f0.f0) ((rd_T46 l2 Aa).f0.f1) ((rd_T46 l2 Aa).f0.f2) ((rd_T46 l2 Aa).f0.f3) ((rd_T46 l2 Aa).f1.f0) ((rd_T46 l2 Aa).f1.f1) = some (r1, r2, r3, r4, r5)) ∧ Aside0 (kq ≤ k1) ∧ Aside0 (wc.heap[AD]? = some (.cells #[.int .i64 AF, .int .i64 AG, .int .i64 AH] 30 (0, 0))) ∧ Aside0 (wc.heap[AJ]? = some (.cells #[.int .i64 0, .int .i64 0, .int .i64 0, .int .i64 0, .bool false] 27 (0, 0))) ∧ Aside0 (wc.heap[AN]? = some (.cells #[.int .i64 AZ, .int .i64 Al, .int .i64 Ao, .int .i64 Ap, .bool AC] 27 (0, 0))) ∧ Aside0 (wc.heap[Az]? = some (.cells #[.int .i64 ((rd_T46 l2 Aa).f0.f0), .int .i64 ((rd_T46 l2 Aa).f0.f1), .int .i64 ((rd_T46 l2 Aa).f0.f2), .int .i64 ((rd_T46 l2 Aa).f0.f3), .int .i64 ((rd_T46 l2 Aa).f1.f0), .int .i64 ((rd_T46 l2 Aa).f1.f1)] 46 (0, 0))) ∧ Aside0 (Below w.heap.size w wc))
       case first =>
        have H := Cq.out
        clear Cq
        by_cases Ch : Al = 0
        ·rw [if_pos Ch] at H
         have A9 : (Al == 0) = true := beq_iff_eq.mpr Ch
         have Ci : (Al != 0) = false := bne_eq_false_iff_eq.mpr Ch
         clear Ch
         (first | rw [A9] | (simp only [i64_w, i32_w]; rw [A9]) | skip)
         obtain ⟨⟨Bg, Bh⟩, Gn, H⟩ := ob H
         try dsimp only at H
         obtain ⟨⟨Bm, Bn⟩, Cs, H⟩ := ob H
         try dsimp only at H
         obtain ⟨A7, Cj, H⟩ := ob H
         try dsimp only at H
         obtain ⟨Ck, Jf, H⟩ := ob H
         try dsimp only at H
         by_cases Gp : Ck = true
         ·subst Gp
          replace H := ifT H
          have H' := Aside0.mk H
          clear H
          try go_wp2
          replace Ab := asd (blk_drew Ab.out)
          replace Ae := asd (blk_drew Ae.out)
          replace Ad := asd (blk_drew Ad.out)
          replace Ac := asd (blk_drew Ac.out)
          replace HB := asd (below_drew1 HB.out)
          refine sh 11 (cb3 Ab (eb6 Ac)) (fun hHeld => ?_); refine with_tabW impl_factsOf.tab7 impl_factsOf.bits7 (fun HT_ HW_ => ?_)
          generalize Ja.drew = Kg at Ab Ae Ad Ac HB hHeld ⊢
          refine pu 1 (some 29) (bs 11 2) HT_ ?_
          refine pu 5 (some 33) (bs 11 34) HT_ ?_
          refine ta 0 (some 28) (bs 11 35) HT_ HW_ hHeld ?_
          refine ta 2 (some 30) (bs 11 39) HT_ HW_ hHeld ?_
          refine ta 6 (some 34) (bs 11 103) HT_ HW_ hHeld ?_
          refine join_ (σ := Value × Nat) 2 (bT 11 9) (fun s_ => [(31, .agg #[.int .i64 Bg, .int .i64 Bh]), (32, .agg #[.int .i64 Bm, .int .i64 Bn]), (35, s_.1), (10, .pointer (some ⟨s_.2, 0, none⟩))]) (fun s_ w' => (w'.cell? ⟨AD, 0, none⟩ = some (.int .i64 AF) ∧ w'.cell? ⟨AD, 1, none⟩ = some (.int .i64 AG) ∧ w'.cell? ⟨AD, 2, none⟩ = some (.int .i64 AH) ∧ w'.cell? ⟨Az, 0, none⟩ = some (.int .i64 ((rd_T46 l2 Aa).f0.f0)) ∧ w'.cell? ⟨Az, 1, none⟩ = some (.int .i64 ((rd_T46 l2 Aa).f0.f1)) ∧ w'.cell? ⟨Az, 2, none⟩ = some (.int .i64 ((rd_T46 l2 Aa).f0.f2)) ∧ w'.cell? ⟨Az, 3, none⟩ = some (.int .i64 ((rd_T46 l2 Aa).f0.f3)) ∧ w'.cell? ⟨Az, 4, none⟩ = some (.int .i64 ((rd_T46 l2 Aa).f1.f0)) ∧ w'.cell? ⟨Az, 5, none⟩ = some (.int .i64 ((rd_T46 l2 Aa).f1.f1))) ∧ (Kd.R k44 44 w' w.heap.size (fun k_ => k_ ≠ s_.2) s_.1 A7) ∧ (w'.heap[AD]? = some (.cells #[.int .i64 AF, .int .i64 AG, .int .i64 AH] 30 (0, 0))) ∧ (w'.heap[AJ]? = some (.cells #[.int .i64 0, .int .i64 0, .int .i64 0, .int .i64 0, .bool false] 27 (0, 0))) ∧ (w'.heap[AN]? = some (.cells #[.int .i64 AZ, .int .i64 Al, .int .i64 Ao, .int .i64 Ap, .bool AE] 27 (0, 0))) ∧ (w'.heap[Az]? = some (.cells #[.int .i64 ((rd_T46 l2 Aa).f0.f0), .int .i64 ((rd_T46 l2 Aa).f0.f1), .int .i64 ((rd_T46 l2 Aa).f0.f2), .int .i64 ((rd_T46 l2 Aa).f0.f3), .int .i64 ((rd_T46 l2 Aa).f1.f0), .int .i64 ((rd_T46 l2 Aa).f1.f1)] 46 (0, 0))) ∧ (w'.heap[s_.2]? = some (.cells #[.int .i64 0, .int .i64 0] 44 (0, 0))) ∧ (w.heap.size ≤ s_.2) ∧ (w.heap.size ≤ s_.2) ∧ (AD ≠ s_.2) ∧ (s_.2 ≠ AD) ∧ (AJ ≠ s_.2) ∧ (s_.2 ≠ AJ) ∧ (AN ≠ s_.2) ∧ (s_.2 ≠ AN) ∧ (Az ≠ s_.2) ∧ (s_.2 ≠ Az) ∧ (Below w.heap.size w w')) ?_ ?_
          rotate_left
          ·intro hCont
           refine two_ (i := 3) (j := 8) (Ni := some 31) (Nj := some 10) (bs 11 111) #[true, true, true, false, false, true, true, false, true, false, false] rfl rfl rfl rfl (two_of HT_.out (by kernel_rfl)) (by decide) (by decide) (fun K hK => ?_) (fun K hK => ?_)
           ·skip
            refine gs Tryz.func35 #[.agg #[.int .i64 ((rd_T46 l2 Aa).f0.f0), .int .i64 ((rd_T46 l2 Aa).f0.f1), .int .i64 ((rd_T46 l2 Aa).f0.f2), .int .i64 ((rd_T46 l2 Aa).f0.f3)]] ?_
            with_reducible refine (impl_Mat_axis.calls _ _ _ _ _ _ _ _ Gn.out).mono ?_
            rintro e J0 ⟨rfl, hb⟩
            refine ⟨_, rfl, ?_⟩
            replace Ab := bB Ab hb
            replace Ae := bB Ae hb
            replace Ad := bB Ad hb
            replace Ac := bB Ac hb
            replace HB := bS4 HB Ag Ah Aj Ak hb
            (try clear hb)
            (try clear hb2)
            (try clear hk)
            (try clear hi)
            refine hK.out _ _ (cb3 Ab (eb6 Ac)).out (fun hHeld => ?_)
            clear hK K
            refine norm_ (a' := ?_) ?_ ?_
            rotate_left
            ·show Act.put _ (some 31) _ = _
             simp only [Act.put, sA, sB, sC, i64_w, i32_w]
             rfl
            refine two_ (i := 4) (j := 8) (Ni := some 32) (Nj := some 10) (bT 11 7) (bs 11 367) rfl rfl rfl rfl (two_of HT_.out (by kernel_rfl)) (by decide) (by decide) (fun K hK => ?_) (fun K hK => ?_)
            ·skip
             refine gs Tryz.func34 #[.agg #[.int .i64 AF, .int .i64 AG, .int .i64 AH], .agg #[.int .i64 Bg, .int .i64 Bh]] ?_
             with_reducible refine (impl_Lattice_multipleIn.calls _ _ _ _ _ _ _ _ _ Cs.out).mono ?_
             rintro e Jg ⟨rfl, hb⟩
             refine ⟨_, rfl, ?_⟩
             replace Ab := bB Ab hb
             replace Ae := bB Ae hb
             replace Ad := bB Ad hb
             replace Ac := bB Ac hb
             replace HB := bS4 HB Ag Ah Aj Ak hb
             (try clear hb)
             (try clear hb2)
             (try clear hk)
             (try clear hi)
             refine hK.out _ _ (cb3 Ab (eb6 Ac)).out (fun hHeld => ?_)
             clear hK K
             refine norm_ (a' := ?_) ?_ ?_
             rotate_left
             ·show Act.put _ (some 32) _ = _
              simp only [Act.put, sA, sB, sC, i64_w, i32_w]
              rfl
             refine two_ (i := 7) (j := 8) (Ni := some 35) (Nj := some 10) (bT 11 8) (bs 11 383) rfl rfl rfl rfl (two_of HT_.out (by kernel_rfl)) (by decide) (by decide) (fun K hK => ?_) (fun K hK => ?_)
             ·skip
              refine gs Tryz.func36 #[.int .i64 a0, .agg #[.int .i64 AF, .int .i64 AG, .int .i64 AH]] ?_
              with_reducible refine (impl_shortestVecs.calls _ _ _ _ _ _ _ Cj.out).mono ?_
              rintro e Ia ⟨v761, rfl, A8, hb⟩
              refine ⟨_, rfl, ?_⟩
              have AB := asd (Kd.R_lower A8 (bsz4 HB Ag Ah Aj Ak))
              replace Ab := bB Ab hb
              replace Ae := bB Ae hb
              replace Ad := bB Ad hb
              replace Ac := bB Ac hb
              replace HB := bS4 HB Ag Ah Aj Ak hb
              (try clear hb)
              (try clear hb2)
              (try clear hk)
              (try clear hi)
              (try clear A8)
              refine hK.out _ _ (cb3 Ab (eb6 Ac)).out (fun hHeld => ?_)
              clear hK K
              refine norm_ (a' := ?_) ?_ ?_
              rotate_left
              ·show Act.put _ (some 35) _ = _
               simp only [Act.put, sA, sB, sC, i64_w, i32_w]
               rfl
              refine ro 8 (some 10) (bT 11 9) HT_ (fun K hK => ?_)
              refine box_step ?hg (N := 10) ?hd (cs := #[.int .i64 0, .int .i64 0]) (t := 44) ?hr ?_; (case hd => rfl); (case hg => rfl); (case hr => first | (go_simp; done) | (go_simp; rfl))
              intro An hg Ib hbox hb
              replace AB := asd (Kd.R_below (Kd.R_elderB (kr AB) An (Nat.le_of_eq hg.symm)) hb)
              have Am := asd (hbox)
              have AY := ngw4 hg HB Ag Ah Aj Ak
              have Aw := ngw4 hg HB Ag Ah Aj Ak
              replace HB := bS4 HB Ag Ah Aj Ak hb
              have Ai := nlt hg Ab
              have As := nsy (nlt hg Ab)
              replace Ab := bB Ab hb
              have Aq := nlt hg Ae
              have At := nsy (nlt hg Ae)
              replace Ae := bB Ae hb
              have Ar := nlt hg Ad
              have Au := nsy (nlt hg Ad)
              replace Ad := bB Ad hb
              have Af := nlt hg Ac
              have Av := nsy (nlt hg Ac)
              replace Ac := bB Ac hb
              clear hb hbox hg
              refine hK.out _ _ (cb3 Ab (eb6 Ac)).out (fun hHeld => ?_)
              clear hK K
              refine norm_ (a' := ?_) ?_ ?_
              rotate_left
              ·show Act.put _ (some 10) _ = _
               simp only [Act.put, sA, sB, sC, i64_w, i32_w]
               rfl
              exact norm_ (by simp only [putAll, Act.put, sA, sB, sC]) (hCont (v761, An) _ ⟨hHeld, (by (with_reducible repeat (first | apply Kd.R_alloc | apply Kd.R_drewN | apply Kd.R_drew)); exact Kd.R_mono AB.out (fun _ hk => hk.2)), (bkp Ab), (bkp Ae), (bkp Ad), (bkp Ac), (bkp Am), AY.out, Aw.out, Ai.out, As.out, Aq.out, At.out, Ar.out, Au.out, Af.out, Av.out, (by repeat (first | (with_reducible first | exact HB.out | apply below_alloc | apply pw_below_drewN | apply below_drew1 | refine below_set ?_ Ag.out | refine below_set ?_ Ah.out | refine below_set ?_ Aj.out | refine below_set ?_ Ak.out | refine below_set ?_ Aw.out) | exact HB.out))⟩)
             ·skip
              refine box_step ?hg (N := 10) ?hd (cs := #[.int .i64 0, .int .i64 0]) (t := 44) ?hr ?_; (case hd => rfl); (case hg => rfl); (case hr => first | (go_simp; done) | (go_simp; rfl))
              intro An hg Ia hbox hb
              have Am := asd (hbox)
              have AY := ngw4 hg HB Ag Ah Aj Ak
              have Aw := ngw4 hg HB Ag Ah Aj Ak
              replace HB := bS4 HB Ag Ah Aj Ak hb
              have Ai := nlt hg Ab
              have As := nsy (nlt hg Ab)
              replace Ab := bB Ab hb
              have Aq := nlt hg Ae
              have At := nsy (nlt hg Ae)
              replace Ae := bB Ae hb
              have Ar := nlt hg Ad
              have Au := nsy (nlt hg Ad)
              replace Ad := bB Ad hb
              have Af := nlt hg Ac
              have Av := nsy (nlt hg Ac)
              replace Ac := bB Ac hb
              clear hb hbox hg
              refine hK.out _ _ (cb3 Ab (eb6 Ac)).out (fun hHeld => ?_)
              clear hK K
              refine norm_ (a' := ?_) ?_ ?_
              rotate_left
              ·show Act.put _ (some 10) _ = _
               simp only [Act.put, sA, sB, sC, i64_w, i32_w]
               rfl
              refine ro 7 (some 35) (bT 11 9) HT_ (fun K hK => ?_)
              refine gs Tryz.func36 #[.int .i64 a0, .agg #[.int .i64 AF, .int .i64 AG, .int .i64 AH]] ?_
              with_reducible refine (impl_shortestVecs.calls _ _ _ _ _ _ _ Cj.out).mono ?_
              rintro e Ib ⟨v761, rfl, A8, hb⟩
              refine ⟨_, rfl, ?_⟩
              have AB := asd (Kd.R_lower (Kd.R_newB A8 (g := An) (o := .cells #[.int .i64 0, .int .i64 0] 44 (0, 0)) (bkp Am)) (below_size (by repeat (first | (with_reducible first | exact HB.out | apply below_alloc | apply pw_below_drewN | apply below_drew1 | refine below_set ?_ Ag.out | refine below_set ?_ Ah.out | refine below_set ?_ Aj.out | refine below_set ?_ Ak.out | refine below_set ?_ Aw.out) | exact HB.out))))
              replace Ab := bB Ab hb
              replace Ae := bB Ae hb
              replace Ad := bB Ad hb
              replace Ac := bB Ac hb
              replace Am := bB Am hb
              replace HB := asd (below_step (by repeat (first | (with_reducible first | exact HB.out | apply below_alloc | apply pw_below_drewN | apply below_drew1 | refine below_set ?_ Ag.out | refine below_set ?_ Ah.out | refine below_set ?_ Aj.out | refine below_set ?_ Ak.out | refine below_set ?_ Aw.out) | exact HB.out)) hb)
              (try clear hb)
              (try clear hb2)
              (try clear hk)
              (try clear hi)
              (try clear A8)
              refine hK.out _ _ (cb3 Ab (eb6 Ac)).out (fun hHeld => ?_)
              clear hK K
              refine norm_ (a' := ?_) ?_ ?_
              rotate_left
              ·show Act.put _ (some 35) _ = _
               simp only [Act.put, sA, sB, sC, i64_w, i32_w]
               rfl
              exact norm_ (by simp only [putAll, Act.put, sA, sB, sC]) (hCont (v761, An) _ ⟨hHeld, (by (with_reducible repeat (first | apply Kd.R_alloc | apply Kd.R_drewN | apply Kd.R_drew)); exact Kd.R_mono AB.out (fun _ hk => hk.2)), (bkp Ab), (bkp Ae), (bkp Ad), (bkp Ac), (bkp Am), AY.out, Aw.out, Ai.out, As.out, Aq.out, At.out, Ar.out, Au.out, Af.out, Av.out, (by repeat (first | (with_reducible first | exact HB.out | apply below_alloc | apply pw_below_drewN | apply below_drew1 | refine below_set ?_ Ag.out | refine below_set ?_ Ah.out | refine below_set ?_ Aj.out | refine below_set ?_ Ak.out | refine below_set ?_ Aw.out) | exact HB.out))⟩)
            ·skip
             refine box_step ?hg (N := 10) ?hd (cs := #[.int .i64 0, .int .i64 0]) (t := 44) ?hr ?_; (case hd => rfl); (case hg => rfl); (case hr => first | (go_simp; done) | (go_simp; rfl))
             intro An hg Jg hbox hb
             have Am := asd (hbox)
             have AY := ngw4 hg HB Ag Ah Aj Ak
             have Aw := ngw4 hg HB Ag Ah Aj Ak
             replace HB := bS4 HB Ag Ah Aj Ak hb
             have Ai := nlt hg Ab
             have As := nsy (nlt hg Ab)
             replace Ab := bB Ab hb
             have Aq := nlt hg Ae
             have At := nsy (nlt hg Ae)
             replace Ae := bB Ae hb
             have Ar := nlt hg Ad
             have Au := nsy (nlt hg Ad)
             replace Ad := bB Ad hb
             have Af := nlt hg Ac
             have Av := nsy (nlt hg Ac)
             replace Ac := bB Ac hb
             clear hb hbox hg
             refine hK.out _ _ (cb3 Ab (eb6 Ac)).out (fun hHeld => ?_)
             clear hK K
             refine norm_ (a' := ?_) ?_ ?_
             rotate_left
             ·show Act.put _ (some 10) _ = _
              simp only [Act.put, sA, sB, sC, i64_w, i32_w]
              rfl
             refine ro 4 (some 32) (bs 11 383) HT_ (fun K hK => ?_)
             refine gs Tryz.func34 #[.agg #[.int .i64 AF, .int .i64 AG, .int .i64 AH], .agg #[.int .i64 Bg, .int .i64 Bh]] ?_
             with_reducible refine (impl_Lattice_multipleIn.calls _ _ _ _ _ _ _ _ _ Cs.out).mono ?_
             rintro e Ia ⟨rfl, hb⟩
             refine ⟨_, rfl, ?_⟩
             replace Ab := bB Ab hb
             replace Ae := bB Ae hb
             replace Ad := bB Ad hb
             replace Ac := bB Ac hb
             replace Am := bB Am hb
             replace HB := asd (below_step (by repeat (first | (with_reducible first | exact HB.out | apply below_alloc | apply pw_below_drewN | apply below_drew1 | refine below_set ?_ Ag.out | refine below_set ?_ Ah.out | refine below_set ?_ Aj.out | refine below_set ?_ Ak.out | refine below_set ?_ Aw.out) | exact HB.out)) hb)
             (try clear hb)
             (try clear hb2)
             (try clear hk)
             (try clear hi)
             refine hK.out _ _ (cb3 Ab (eb6 Ac)).out (fun hHeld => ?_)
             clear hK K
             refine norm_ (a' := ?_) ?_ ?_
             rotate_left
             ·show Act.put _ (some 32) _ = _
              simp only [Act.put, sA, sB, sC, i64_w, i32_w]
              rfl
             refine ro 7 (some 35) (bT 11 9) HT_ (fun K hK => ?_)
             refine gs Tryz.func36 #[.int .i64 a0, .agg #[.int .i64 AF, .int .i64 AG, .int .i64 AH]] ?_
             with_reducible refine (impl_shortestVecs.calls _ _ _ _ _ _ _ Cj.out).mono ?_
             rintro e Ib ⟨v761, rfl, A8, hb⟩
             refine ⟨_, rfl, ?_⟩
             have AB := asd (Kd.R_lower (Kd.R_newB A8 (g := An) (o := .cells #[.int .i64 0, .int .i64 0] 44 (0, 0)) (bkp Am)) (below_size (by repeat (first | (with_reducible first | exact HB.out | apply below_alloc | apply pw_below_drewN | apply below_drew1 | refine below_set ?_ Ag.out | refine below_set ?_ Ah.out | refine below_set ?_ Aj.out | refine below_set ?_ Ak.out | refine below_set ?_ Aw.out) | exact HB.out))))
             replace Ab := bB Ab hb
             replace Ae := bB Ae hb
             replace Ad := bB Ad hb
             replace Ac := bB Ac hb
             replace Am := bB Am hb
             replace HB := asd (below_step (by repeat (first | (with_reducible first | exact HB.out | apply below_alloc | apply pw_below_drewN | apply below_drew1 | refine below_set ?_ Ag.out | refine below_set ?_ Ah.out | refine below_set ?_ Aj.out | refine below_set ?_ Ak.out | refine below_set ?_ Aw.out) | exact HB.out)) hb)
             (try clear hb)
             (try clear hb2)
             (try clear hk)
             (try clear hi)
             (try clear A8)
             refine hK.out _ _ (cb3 Ab (eb6 Ac)).out (fun hHeld => ?_)
             clear hK K
             refine norm_ (a' := ?_) ?_ ?_
             rotate_left
             ·show Act.put _ (some 35) _ = _
              simp only [Act.put, sA, sB, sC, i64_w, i32_w]
              rfl
             exact norm_ (by simp only [putAll, Act.put, sA, sB, sC]) (hCont (v761, An) _ ⟨hHeld, (by (with_reducible repeat (first | apply Kd.R_alloc | apply Kd.R_drewN | apply Kd.R_drew)); exact Kd.R_mono AB.out (fun _ hk => hk.2)), (bkp Ab), (bkp Ae), (bkp Ad), (bkp Ac), (bkp Am), AY.out, Aw.out, Ai.out, As.out, Aq.out, At.out, Ar.out, Au.out, Af.out, Av.out, (by repeat (first | (with_reducible first | exact HB.out | apply below_alloc | apply pw_below_drewN | apply below_drew1 | refine below_set ?_ Ag.out | refine below_set ?_ Ah.out | refine below_set ?_ Aj.out | refine below_set ?_ Ak.out | refine below_set ?_ Aw.out) | exact HB.out))⟩)
           ·skip
            refine box_step ?hg (N := 10) ?hd (cs := #[.int .i64 0, .int .i64 0]) (t := 44) ?hr ?_; (case hd => rfl); (case hg => rfl); (case hr => first | (go_simp; done) | (go_simp; rfl))
            intro An hg J0 hbox hb
            have Am := asd (hbox)
            have AY := ngw4 hg HB Ag Ah Aj Ak
            have Aw := ngw4 hg HB Ag Ah Aj Ak
            replace HB := bS4 HB Ag Ah Aj Ak hb
            have Ai := nlt hg Ab
            have As := nsy (nlt hg Ab)
            replace Ab := bB Ab hb
            have Aq := nlt hg Ae
            have At := nsy (nlt hg Ae)
            replace Ae := bB Ae hb
            have Ar := nlt hg Ad
            have Au := nsy (nlt hg Ad)
            replace Ad := bB Ad hb
            have Af := nlt hg Ac
            have Av := nsy (nlt hg Ac)
            replace Ac := bB Ac hb
            clear hb hbox hg
            refine hK.out _ _ (cb3 Ab (eb6 Ac)).out (fun hHeld => ?_)
            clear hK K
            refine norm_ (a' := ?_) ?_ ?_
            rotate_left
            ·show Act.put _ (some 10) _ = _
             simp only [Act.put, sA, sB, sC, i64_w, i32_w]
             rfl
            refine ro 3 (some 31) (bs 11 367) HT_ (fun K hK => ?_)
            refine gs Tryz.func35 #[.agg #[.int .i64 ((rd_T46 l2 Aa).f0.f0), .int .i64 ((rd_T46 l2 Aa).f0.f1), .int .i64 ((rd_T46 l2 Aa).f0.f2), .int .i64 ((rd_T46 l2 Aa).f0.f3)]] ?_
            with_reducible refine (impl_Mat_axis.calls _ _ _ _ _ _ _ _ Gn.out).mono ?_
            rintro e Jg ⟨rfl, hb⟩
            refine ⟨_, rfl, ?_⟩
            replace Ab := bB Ab hb
            replace Ae := bB Ae hb
            replace Ad := bB Ad hb
            replace Ac := bB Ac hb
            replace Am := bB Am hb
            replace HB := asd (below_step (by repeat (first | (with_reducible first | exact HB.out | apply below_alloc | apply pw_below_drewN | apply below_drew1 | refine below_set ?_ Ag.out | refine below_set ?_ Ah.out | refine below_set ?_ Aj.out | refine below_set ?_ Ak.out | refine below_set ?_ Aw.out) | exact HB.out)) hb)
            (try clear hb)
            (try clear hb2)
            (try clear hk)
            (try clear hi)
            refine hK.out _ _ (cb3 Ab (eb6 Ac)).out (fun hHeld => ?_)
            clear hK K
            refine norm_ (a' := ?_) ?_ ?_
            rotate_left
            ·show Act.put _ (some 31) _ = _
             simp only [Act.put, sA, sB, sC, i64_w, i32_w]
             rfl
            refine ro 4 (some 32) (bs 11 383) HT_ (fun K hK => ?_)
            refine gs Tryz.func34 #[.agg #[.int .i64 AF, .int .i64 AG, .int .i64 AH], .agg #[.int .i64 Bg, .int .i64 Bh]] ?_
            with_reducible refine (impl_Lattice_multipleIn.calls _ _ _ _ _ _ _ _ _ Cs.out).mono ?_
            rintro e Ia ⟨rfl, hb⟩
            refine ⟨_, rfl, ?_⟩
            replace Ab := bB Ab hb
            replace Ae := bB Ae hb
            replace Ad := bB Ad hb
            replace Ac := bB Ac hb
            replace Am := bB Am hb
            replace HB := asd (below_step (by repeat (first | (with_reducible first | exact HB.out | apply below_alloc | apply pw_below_drewN | apply below_drew1 | refine below_set ?_ Ag.out | refine below_set ?_ Ah.out | refine below_set ?_ Aj.out | refine below_set ?_ Ak.out | refine below_set ?_ Aw.out) | exact HB.out)) hb)
            (try clear hb)
            (try clear hb2)
            (try clear hk)
            (try clear hi)
            refine hK.out _ _ (cb3 Ab (eb6 Ac)).out (fun hHeld => ?_)
            clear hK K
            refine norm_ (a' := ?_) ?_ ?_
            rotate_left
            ·show Act.put _ (some 32) _ = _
             simp only [Act.put, sA, sB, sC, i64_w, i32_w]
             rfl
            refine ro 7 (some 35) (bT 11 9) HT_ (fun K hK => ?_)
            refine gs Tryz.func36 #[.int .i64 a0, .agg #[.int .i64 AF, .int .i64 AG, .int .i64 AH]] ?_
            with_reducible refine (impl_shortestVecs.calls _ _ _ _ _ _ _ Cj.out).mono ?_
            rintro e Ib ⟨v761, rfl, A8, hb⟩
            refine ⟨_, rfl, ?_⟩
            have AB := asd (Kd.R_lower (Kd.R_newB A8 (g := An) (o := .cells #[.int .i64 0, .int .i64 0] 44 (0, 0)) (bkp Am)) (below_size (by repeat (first | (with_reducible first | exact HB.out | apply below_alloc | apply pw_below_drewN | apply below_drew1 | refine below_set ?_ Ag.out | refine below_set ?_ Ah.out | refine below_set ?_ Aj.out | refine below_set ?_ Ak.out | refine below_set ?_ Aw.out) | exact HB.out))))
            replace Ab := bB Ab hb
            replace Ae := bB Ae hb
            replace Ad := bB Ad hb
            replace Ac := bB Ac hb
            replace Am := bB Am hb
            replace HB := asd (below_step (by repeat (first | (with_reducible first | exact HB.out | apply below_alloc | apply pw_below_drewN | apply below_drew1 | refine below_set ?_ Ag.out | refine below_set ?_ Ah.out | refine below_set ?_ Aj.out | refine below_set ?_ Ak.out | refine below_set ?_ Aw.out) | exact HB.out)) hb)
            (try clear hb)
            (try clear hb2)
            (try clear hk)
            (try clear hi)
            (try clear A8)
            refine hK.out _ _ (cb3 Ab (eb6 Ac)).out (fun hHeld => ?_)
            clear hK K
            refine norm_ (a' := ?_) ?_ ?_
            rotate_left
            ·show Act.put _ (some 35) _ = _
             simp only [Act.put, sA, sB, sC, i64_w, i32_w]
             rfl
            exact norm_ (by simp only [putAll, Act.put, sA, sB, sC]) (hCont (v761, An) _ ⟨hHeld, (by (with_reducible repeat (first | apply Kd.R_alloc | apply Kd.R_drewN | apply Kd.R_drew)); exact Kd.R_mono AB.out (fun _ hk => hk.2)), (bkp Ab), (bkp Ae), (bkp Ad), (bkp Ac), (bkp Am), AY.out, Aw.out, Ai.out, As.out, Aq.out, At.out, Ar.out, Au.out, Af.out, Av.out, (by repeat (first | (with_reducible first | exact HB.out | apply below_alloc | apply pw_below_drewN | apply below_drew1 | refine below_set ?_ Ag.out | refine below_set ?_ Ah.out | refine below_set ?_ Aj.out | refine below_set ?_ Ak.out | refine below_set ?_ Aw.out) | exact HB.out))⟩)
          rintro ⟨v761, An⟩ Be ⟨hS_, h0_, h1_, h2_, h3_, h4_, h5_, h6_, h7_, h8_, h9_, h10_, h11_, h12_, h13_, h14_, h15_, h16_⟩
          have Cw : Aside0 (Kd.R k44 44 Be w.heap.size (fun k_ => k_ ≠ An) v761 A7) := ⟨h0_⟩
          have Cx : Aside0 (Be.heap[AD]? = some (.cells #[.int .i64 AF, .int .i64 AG, .int .i64 AH] 30 (0, 0))) := ⟨h1_⟩
          have Cy : Aside0 (Be.heap[AJ]? = some (.cells #[.int .i64 0, .int .i64 0, .int .i64 0, .int .i64 0, .bool false] 27 (0, 0))) := ⟨h2_⟩
          have Cz : Aside0 (Be.heap[AN]? = some (.cells #[.int .i64 AZ, .int .i64 Al, .int .i64 Ao, .int .i64 Ap, .bool AE] 27 (0, 0))) := ⟨h3_⟩
          have CA : Aside0 (Be.heap[Az]? = some (.cells #[.int .i64 ((rd_T46 l2 Aa).f0.f0), .int .i64 ((rd_T46 l2 Aa).f0.f1), .int .i64 ((rd_T46 l2 Aa).f0.f2), .int .i64 ((rd_T46 l2 Aa).f0.f3), .int .i64 ((rd_T46 l2 Aa).f1.f0), .int .i64 ((rd_T46 l2 Aa).f1.f1)] 46 (0, 0))) := ⟨h4_⟩
          have CB : Aside0 (Be.heap[An]? = some (.cells #[.int .i64 0, .int .i64 0] 44 (0, 0))) := ⟨h5_⟩
          have CC : Aside0 (w.heap.size ≤ An) := ⟨h6_⟩
          have CD : Aside0 (w.heap.size ≤ An) := ⟨h7_⟩
          have CE : Aside0 (AD ≠ An) := ⟨h8_⟩
          have CF : Aside0 (An ≠ AD) := ⟨h9_⟩
          have Bo : Aside0 (AJ ≠ An) := ⟨h10_⟩
          have Bp : Aside0 (An ≠ AJ) := ⟨h11_⟩
          have Bq : Aside0 (AN ≠ An) := ⟨h12_⟩
          have Br : Aside0 (An ≠ AN) := ⟨h13_⟩
          have Bs : Aside0 (Az ≠ An) := ⟨h14_⟩
          have Bt : Aside0 (An ≠ Az) := ⟨h15_⟩
          have Bu : Aside0 (Below w.heap.size w Be) := ⟨h16_⟩
          clear Ab
          clear Ae
          clear Ad
          clear Ac
          clear HB
          clear h0_ h1_ h2_ h3_ h4_ h5_ h6_ h7_ h8_ h9_ h10_ h11_ h12_ h13_ h14_ h15_ h16_
          have AB := Cw
          have Ab := Cx
          have Ae := Cy
          have Ad := Cz
          have Ac := CA
          have Am := CB
          have AY := CC
          have Aw := CD
          have Ai := CE
          have As := CF
          have Aq := Bo
          have At := Bp
          have Ar := Bq
          have Au := Br
          have Af := Bs
          have Av := Bt
          have HB := Bu
          clear Cw Cx Cy Cz CA CB CC CD CE CF Bo Bp Bq Br Bs Bt Bu
          have hHeld : Be.cell? ⟨AD, 0, none⟩ = some (.int .i64 AF) ∧ Be.cell? ⟨AD, 1, none⟩ = some (.int .i64 AG) ∧ Be.cell? ⟨AD, 2, none⟩ = some (.int .i64 AH) ∧ Be.cell? ⟨Az, 0, none⟩ = some (.int .i64 ((rd_T46 l2 Aa).f0.f0)) ∧ Be.cell? ⟨Az, 1, none⟩ = some (.int .i64 ((rd_T46 l2 Aa).f0.f1)) ∧ Be.cell? ⟨Az, 2, none⟩ = some (.int .i64 ((rd_T46 l2 Aa).f0.f2)) ∧ Be.cell? ⟨Az, 3, none⟩ = some (.int .i64 ((rd_T46 l2 Aa).f0.f3)) ∧ Be.cell? ⟨Az, 4, none⟩ = some (.int .i64 ((rd_T46 l2 Aa).f1.f0)) ∧ Be.cell? ⟨Az, 5, none⟩ = some (.int .i64 ((rd_T46 l2 Aa).f1.f1)) := hS_
          refine norm_ (a' := ?_) ?_ ?_
          rotate_left
          ·simp only [putAll, Act.put, sA, sB, sC]
           rfl
          refine ro 9 (none) (bT 11 10) HT_ (fun K hK => ?_)
          have hs45 : Be.cell? ⟨An, 0, none⟩ = some (.int .i64 0) := bcl Am 0
          have hfs45 := blk_frozen Am.out 0
          have Gq := Ai.out
          have Gr := Aq.out
          have Gs := Ar.out
          have Gt := Af.out
          have Gu := As.out
          have Gv := At.out
          have Gw := Au.out
          have Gx := Av.out
          have hs46 : Be.cell? ⟨An, 1, none⟩ = some (.int .i64 0) := bcl Am 1
          have hfs46 := blk_frozen Am.out 1
          have Gy := Ai.out
          have Gz := Aq.out
          have GA := Ar.out
          have GB := Af.out
          have GC := As.out
          have GD := At.out
          have GE := Au.out
          have GF := Av.out
          refine skip_ (w1 := ?_) (by rfl) rfl ?_ ?_
          rotate_left
          ·go_simp
           rfl
          refine hK.out _ _ ⟨(cf Ai ((cf Ai (hHeld.1)))), (cf Ai ((cf Ai (hHeld.2.1)))), (cf Ai ((cf Ai (hHeld.2.2.1)))), (cf Af ((cf Af (hHeld.2.2.2.1)))), (cf Af ((cf Af (hHeld.2.2.2.2.1)))), (cf Af ((cf Af (hHeld.2.2.2.2.2.1)))), (cf Af ((cf Af (hHeld.2.2.2.2.2.2.1)))), (cf Af ((cf Af (hHeld.2.2.2.2.2.2.2.1)))), (cf Af ((cf Af (hHeld.2.2.2.2.2.2.2.2))))⟩ (fun hHeld => ?_)
          clear hK K
          refine pu 10 (some 11) (bT 11 11) HT_ ?_
          refine done_ (done_of HT_.out (by kernel_rfl)) ?_
          have Jh := As.out
          have Ji := Ai.out
          have Jj := At.out
          have Jk := Aq.out
          have Jl := Au.out
          have Jm := Ar.out
          have Jn := Av.out
          have Jo := Af.out
          obtain ⟨GG, GH, GI, GJ⟩ := bz2 Am
          obtain ⟨Ao52, co52, eo52⟩ := Kd.R_slice AB.out
          subst eo52
          try go_wp2_with (first | ((with_reducible refine gate_callee (f := 37) rfl ?_); refine gl 38 Tryz.func37 #[.slice Ao52 A7.length co52, .agg #[.int .i64 Bm, .int .i64 Bn]] ?_; (with_reducible refine (impl_Vec_37.calls _ _ _ _ _ _ _ _ ?side1 ?side2 Jf.out).mono ?_); (case side1 => refine (Kd.R_reads' (e := 44) (base := w.heap.size) (ok := fun k_ => k_ ≠ An) (n := A7.length) (c := co52) ?_).2.2; exact (by (with_reducible repeat (first | apply Kd.R_alloc | apply Kd.R_drewN | apply Kd.R_drew)); exact (Kd.R_mono (rw2 (Kd.R_mono AB.out (fun k_ hk => (⟨hk, hk⟩ : _ ∧ k_ ≠ An)))) (fun _ h_ => h_.1)))); (case side2 => exact (Kd.R_reads' AB.out).2.1); rintro e Kh ⟨rfl, hb⟩; refine ⟨_, rfl, ?_⟩; replace AB := asd (Kd.R_below (by (with_reducible repeat (first | apply Kd.R_alloc | apply Kd.R_drewN | apply Kd.R_drew)); exact (Kd.R_mono (rw2 (Kd.R_mono AB.out (fun k_ hk => (⟨hk, hk⟩ : _ ∧ k_ ≠ An)))) (fun _ h_ => h_.1))) hb); replace Ab := asd (blk_below (g := AD) (o := .cells #[.int .i64 AF, .int .i64 AG, .int .i64 AH] 30 (0, 0)) (bq1 Ab Ai) hb); replace Ae := asd (blk_below (g := AJ) (o := .cells #[.int .i64 0, .int .i64 0, .int .i64 0, .int .i64 0, .bool false] 27 (0, 0)) (bq1 Ae Aq) hb); replace Ad := asd (blk_below (g := AN) (o := .cells #[.int .i64 AZ, .int .i64 Al, .int .i64 Ao, .int .i64 Ap, .bool AE] 27 (0, 0)) (bq1 Ad Ar) hb); replace Ac := asd (blk_below (g := Az) (o := .cells #[.int .i64 ((rd_T46 l2 Aa).f0.f0), .int .i64 ((rd_T46 l2 Aa).f0.f1), .int .i64 ((rd_T46 l2 Aa).f0.f2), .int .i64 ((rd_T46 l2 Aa).f0.f3), .int .i64 ((rd_T46 l2 Aa).f1.f0), .int .i64 ((rd_T46 l2 Aa).f1.f1)] 46 (0, 0)) (bq1 Ac Af) hb); replace Am := asd (blk_below (g := An) (o := .cells #[.int .i64 Bm, .int .i64 Bn] 44 (0, 0)) (bq0 Am) hb); replace HB := asd (below_step (by repeat (first | (with_reducible first | exact HB.out | apply below_alloc | apply pw_below_drewN | apply below_drew1 | refine below_set ?_ Ag.out | refine below_set ?_ Ah.out | refine below_set ?_ Aj.out | refine below_set ?_ Ak.out | refine below_set ?_ Aw.out) | exact HB.out)) hb); (try clear hb); have Jp := AO.out; have Jq := Ax.out; have Jr := AP.out; have Js := Ay.out; have Jt := AI.out; have Ju := AA.out; obtain ⟨GK, GL, GM, GN, GO, GP, GQ, GR, GS, GT⟩ := bz5 Ad))
          go_meet
          case rel => exact ⟨_, (true), H', ⟨by have := Bl.out; first | omega | exact Nat.le_refl _⟩, ⟨bq1 Ab Ax⟩, ⟨bq1 Ae Ay⟩, ⟨bq0 Ad⟩, ⟨bq1 Ac AA⟩, ⟨by repeat (first | (with_reducible first | exact HB.out | apply below_alloc | apply pw_below_drewN | apply below_drew1 | refine below_set ?_ Ag.out | refine below_set ?_ Ah.out | refine below_set ?_ Aj.out | refine below_set ?_ Ak.out | refine below_set ?_ Aw.out) | exact HB.out)⟩⟩
         ·replace Gp := Bool.eq_false_iff.mpr Gp
          subst Gp
          replace H := ifF H
          obtain ⟨⟨J1, J2⟩, J3, H⟩ := ob H
          try dsimp only at H
          obtain ⟨Cl, J4, H⟩ := ob H
          try dsimp only at H
          have H' := Aside0.mk H
          clear H
          try go_wp2
          replace Ab := asd (blk_drew Ab.out)
          replace Ae := asd (blk_drew Ae.out)
          replace Ad := asd (blk_drew Ad.out)
          replace Ac := asd (blk_drew Ac.out)
          replace HB := asd (below_drew1 HB.out)
          refine sh 11 (cb3 Ab (eb6 Ac)) (fun hHeld => ?_); refine with_tabW impl_factsOf.tab7 impl_factsOf.bits7 (fun HT_ HW_ => ?_)
          generalize Ja.drew = Ki at Ab Ae Ad Ac HB hHeld ⊢
          refine pu 1 (some 29) (bs 11 2) HT_ ?_
          refine pu 5 (some 33) (bs 11 34) HT_ ?_
          refine ta 0 (some 28) (bs 11 35) HT_ HW_ hHeld ?_
          refine ta 2 (some 30) (bs 11 39) HT_ HW_ hHeld ?_
          refine ta 6 (some 34) (bs 11 103) HT_ HW_ hHeld ?_
          refine join_ (σ := Value × Nat) 2 (bT 11 9) (fun s_ => [(31, .agg #[.int .i64 Bg, .int .i64 Bh]), (32, .agg #[.int .i64 Bm, .int .i64 Bn]), (35, s_.1), (10, .pointer (some ⟨s_.2, 0, none⟩))]) (fun s_ w' => (w'.cell? ⟨AD, 0, none⟩ = some (.int .i64 AF) ∧ w'.cell? ⟨AD, 1, none⟩ = some (.int .i64 AG) ∧ w'.cell? ⟨AD, 2, none⟩ = some (.int .i64 AH) ∧ w'.cell? ⟨Az, 0, none⟩ = some (.int .i64 ((rd_T46 l2 Aa).f0.f0)) ∧ w'.cell? ⟨Az, 1, none⟩ = some (.int .i64 ((rd_T46 l2 Aa).f0.f1)) ∧ w'.cell? ⟨Az, 2, none⟩ = some (.int .i64 ((rd_T46 l2 Aa).f0.f2)) ∧ w'.cell? ⟨Az, 3, none⟩ = some (.int .i64 ((rd_T46 l2 Aa).f0.f3)) ∧ w'.cell? ⟨Az, 4, none⟩ = some (.int .i64 ((rd_T46 l2 Aa).f1.f0)) ∧ w'.cell? ⟨Az, 5, none⟩ = some (.int .i64 ((rd_T46 l2 Aa).f1.f1))) ∧ (Kd.R k44 44 w' w.heap.size (fun k_ => k_ ≠ s_.2) s_.1 A7) ∧ (w'.heap[AD]? = some (.cells #[.int .i64 AF, .int .i64 AG, .int .i64 AH] 30 (0, 0))) ∧ (w'.heap[AJ]? = some (.cells #[.int .i64 0, .int .i64 0, .int .i64 0, .int .i64 0, .bool false] 27 (0, 0))) ∧ (w'.heap[AN]? = some (.cells #[.int .i64 AZ, .int .i64 Al, .int .i64 Ao, .int .i64 Ap, .bool AE] 27 (0, 0))) ∧ (w'.heap[Az]? = some (.cells #[.int .i64 ((rd_T46 l2 Aa).f0.f0), .int .i64 ((rd_T46 l2 Aa).f0.f1), .int .i64 ((rd_T46 l2 Aa).f0.f2), .int .i64 ((rd_T46 l2 Aa).f0.f3), .int .i64 ((rd_T46 l2 Aa).f1.f0), .int .i64 ((rd_T46 l2 Aa).f1.f1)] 46 (0, 0))) ∧ (w'.heap[s_.2]? = some (.cells #[.int .i64 0, .int .i64 0] 44 (0, 0))) ∧ (w.heap.size ≤ s_.2) ∧ (w.heap.size ≤ s_.2) ∧ (AD ≠ s_.2) ∧ (s_.2 ≠ AD) ∧ (AJ ≠ s_.2) ∧ (s_.2 ≠ AJ) ∧ (AN ≠ s_.2) ∧ (s_.2 ≠ AN) ∧ (Az ≠ s_.2) ∧ (s_.2 ≠ Az) ∧ (Below w.heap.size w w')) ?_ ?_
          rotate_left
          ·intro hCont
           refine two_ (i := 3) (j := 8) (Ni := some 31) (Nj := some 10) (bs 11 111) #[true, true, true, false, false, true, true, false, true, false, false] rfl rfl rfl rfl (two_of HT_.out (by kernel_rfl)) (by decide) (by decide) (fun K hK => ?_) (fun K hK => ?_)
           ·skip
            refine gs Tryz.func35 #[.agg #[.int .i64 ((rd_T46 l2 Aa).f0.f0), .int .i64 ((rd_T46 l2 Aa).f0.f1), .int .i64 ((rd_T46 l2 Aa).f0.f2), .int .i64 ((rd_T46 l2 Aa).f0.f3)]] ?_
            with_reducible refine (impl_Mat_axis.calls _ _ _ _ _ _ _ _ Gn.out).mono ?_
            rintro e J5 ⟨rfl, hb⟩
            refine ⟨_, rfl, ?_⟩
            replace Ab := bB Ab hb
            replace Ae := bB Ae hb
            replace Ad := bB Ad hb
            replace Ac := bB Ac hb
            replace HB := bS4 HB Ag Ah Aj Ak hb
            (try clear hb)
            (try clear hb2)
            (try clear hk)
            (try clear hi)
            refine hK.out _ _ (cb3 Ab (eb6 Ac)).out (fun hHeld => ?_)
            clear hK K
            refine norm_ (a' := ?_) ?_ ?_
            rotate_left
            ·show Act.put _ (some 31) _ = _
             simp only [Act.put, sA, sB, sC, i64_w, i32_w]
             rfl
            refine two_ (i := 4) (j := 8) (Ni := some 32) (Nj := some 10) (bT 11 7) (bs 11 367) rfl rfl rfl rfl (two_of HT_.out (by kernel_rfl)) (by decide) (by decide) (fun K hK => ?_) (fun K hK => ?_)
            ·skip
             refine gs Tryz.func34 #[.agg #[.int .i64 AF, .int .i64 AG, .int .i64 AH], .agg #[.int .i64 Bg, .int .i64 Bh]] ?_
             with_reducible refine (impl_Lattice_multipleIn.calls _ _ _ _ _ _ _ _ _ Cs.out).mono ?_
             rintro e Jv ⟨rfl, hb⟩
             refine ⟨_, rfl, ?_⟩
             replace Ab := bB Ab hb
             replace Ae := bB Ae hb
             replace Ad := bB Ad hb
             replace Ac := bB Ac hb
             replace HB := bS4 HB Ag Ah Aj Ak hb
             (try clear hb)
             (try clear hb2)
             (try clear hk)
             (try clear hi)
             refine hK.out _ _ (cb3 Ab (eb6 Ac)).out (fun hHeld => ?_)
             clear hK K
             refine norm_ (a' := ?_) ?_ ?_
             rotate_left
             ·show Act.put _ (some 32) _ = _
              simp only [Act.put, sA, sB, sC, i64_w, i32_w]
              rfl
             refine two_ (i := 7) (j := 8) (Ni := some 35) (Nj := some 10) (bT 11 8) (bs 11 383) rfl rfl rfl rfl (two_of HT_.out (by kernel_rfl)) (by decide) (by decide) (fun K hK => ?_) (fun K hK => ?_)
             ·skip
              refine gs Tryz.func36 #[.int .i64 a0, .agg #[.int .i64 AF, .int .i64 AG, .int .i64 AH]] ?_
              with_reducible refine (impl_shortestVecs.calls _ _ _ _ _ _ _ Cj.out).mono ?_
              rintro e Ic ⟨v761, rfl, A8, hb⟩
              refine ⟨_, rfl, ?_⟩
              have AB := asd (Kd.R_lower A8 (bsz4 HB Ag Ah Aj Ak))
              replace Ab := bB Ab hb
              replace Ae := bB Ae hb
              replace Ad := bB Ad hb
              replace Ac := bB Ac hb
              replace HB := bS4 HB Ag Ah Aj Ak hb
              (try clear hb)
              (try clear hb2)
              (try clear hk)
              (try clear hi)
              (try clear A8)
              refine hK.out _ _ (cb3 Ab (eb6 Ac)).out (fun hHeld => ?_)
              clear hK K
              refine norm_ (a' := ?_) ?_ ?_
              rotate_left
              ·show Act.put _ (some 35) _ = _
               simp only [Act.put, sA, sB, sC, i64_w, i32_w]
               rfl
              refine ro 8 (some 10) (bT 11 9) HT_ (fun K hK => ?_)
              refine box_step ?hg (N := 10) ?hd (cs := #[.int .i64 0, .int .i64 0]) (t := 44) ?hr ?_; (case hd => rfl); (case hg => rfl); (case hr => first | (go_simp; done) | (go_simp; rfl))
              intro An hg w64 hbox hb
              replace AB := asd (Kd.R_below (Kd.R_elderB (kr AB) An (Nat.le_of_eq hg.symm)) hb)
              have Am := asd (hbox)
              have AY := ngw4 hg HB Ag Ah Aj Ak
              have Aw := ngw4 hg HB Ag Ah Aj Ak
              replace HB := bS4 HB Ag Ah Aj Ak hb
              have Ai := nlt hg Ab
              have As := nsy (nlt hg Ab)
              replace Ab := bB Ab hb
              have Aq := nlt hg Ae
              have At := nsy (nlt hg Ae)
              replace Ae := bB Ae hb
              have Ar := nlt hg Ad
              have Au := nsy (nlt hg Ad)
              replace Ad := bB Ad hb
              have Af := nlt hg Ac
              have Av := nsy (nlt hg Ac)
              replace Ac := bB Ac hb
              clear hb hbox hg
              refine hK.out _ _ (cb3 Ab (eb6 Ac)).out (fun hHeld => ?_)
              clear hK K
              refine norm_ (a' := ?_) ?_ ?_
              rotate_left
              ·show Act.put _ (some 10) _ = _
               simp only [Act.put, sA, sB, sC, i64_w, i32_w]
               rfl
              exact norm_ (by simp only [putAll, Act.put, sA, sB, sC]) (hCont (v761, An) _ ⟨hHeld, (by (with_reducible repeat (first | apply Kd.R_alloc | apply Kd.R_drewN | apply Kd.R_drew)); exact Kd.R_mono AB.out (fun _ hk => hk.2)), (bkp Ab), (bkp Ae), (bkp Ad), (bkp Ac), (bkp Am), AY.out, Aw.out, Ai.out, As.out, Aq.out, At.out, Ar.out, Au.out, Af.out, Av.out, (by repeat (first | (with_reducible first | exact HB.out | apply below_alloc | apply pw_below_drewN | apply below_drew1 | refine below_set ?_ Ag.out | refine below_set ?_ Ah.out | refine below_set ?_ Aj.out | refine below_set ?_ Ak.out | refine below_set ?_ Aw.out) | exact HB.out))⟩)
             ·skip
              refine box_step ?hg (N := 10) ?hd (cs := #[.int .i64 0, .int .i64 0]) (t := 44) ?hr ?_; (case hd => rfl); (case hg => rfl); (case hr => first | (go_simp; done) | (go_simp; rfl))
              intro An hg Ic hbox hb
              have Am := asd (hbox)
              have AY := ngw4 hg HB Ag Ah Aj Ak
              have Aw := ngw4 hg HB Ag Ah Aj Ak
              replace HB := bS4 HB Ag Ah Aj Ak hb
              have Ai := nlt hg Ab
              have As := nsy (nlt hg Ab)
              replace Ab := bB Ab hb
              have Aq := nlt hg Ae
              have At := nsy (nlt hg Ae)
              replace Ae := bB Ae hb
              have Ar := nlt hg Ad
              have Au := nsy (nlt hg Ad)
              replace Ad := bB Ad hb
              have Af := nlt hg Ac
              have Av := nsy (nlt hg Ac)
              replace Ac := bB Ac hb
              clear hb hbox hg
              refine hK.out _ _ (cb3 Ab (eb6 Ac)).out (fun hHeld => ?_)
              clear hK K
              refine norm_ (a' := ?_) ?_ ?_
              rotate_left
              ·show Act.put _ (some 10) _ = _
               simp only [Act.put, sA, sB, sC, i64_w, i32_w]
               rfl
              refine ro 7 (some 35) (bT 11 9) HT_ (fun K hK => ?_)
              refine gs Tryz.func36 #[.int .i64 a0, .agg #[.int .i64 AF, .int .i64 AG, .int .i64 AH]] ?_
              with_reducible refine (impl_shortestVecs.calls _ _ _ _ _ _ _ Cj.out).mono ?_
              rintro e w64 ⟨v761, rfl, A8, hb⟩
              refine ⟨_, rfl, ?_⟩
              have AB := asd (Kd.R_lower (Kd.R_newB A8 (g := An) (o := .cells #[.int .i64 0, .int .i64 0] 44 (0, 0)) (bkp Am)) (below_size (by repeat (first | (with_reducible first | exact HB.out | apply below_alloc | apply pw_below_drewN | apply below_drew1 | refine below_set ?_ Ag.out | refine below_set ?_ Ah.out | refine below_set ?_ Aj.out | refine below_set ?_ Ak.out | refine below_set ?_ Aw.out) | exact HB.out))))
              replace Ab := bB Ab hb
              replace Ae := bB Ae hb
              replace Ad := bB Ad hb
              replace Ac := bB Ac hb
              replace Am := bB Am hb
              replace HB := asd (below_step (by repeat (first | (with_reducible first | exact HB.out | apply below_alloc | apply pw_below_drewN | apply below_drew1 | refine below_set ?_ Ag.out | refine below_set ?_ Ah.out | refine below_set ?_ Aj.out | refine below_set ?_ Ak.out | refine below_set ?_ Aw.out) | exact HB.out)) hb)
              (try clear hb)
              (try clear hb2)
              (try clear hk)
              (try clear hi)
              (try clear A8)
              refine hK.out _ _ (cb3 Ab (eb6 Ac)).out (fun hHeld => ?_)
              clear hK K
              refine norm_ (a' := ?_) ?_ ?_
              rotate_left
              ·show Act.put _ (some 35) _ = _
               simp only [Act.put, sA, sB, sC, i64_w, i32_w]
               rfl
              exact norm_ (by simp only [putAll, Act.put, sA, sB, sC]) (hCont (v761, An) _ ⟨hHeld, (by (with_reducible repeat (first | apply Kd.R_alloc | apply Kd.R_drewN | apply Kd.R_drew)); exact Kd.R_mono AB.out (fun _ hk => hk.2)), (bkp Ab), (bkp Ae), (bkp Ad), (bkp Ac), (bkp Am), AY.out, Aw.out, Ai.out, As.out, Aq.out, At.out, Ar.out, Au.out, Af.out, Av.out, (by repeat (first | (with_reducible first | exact HB.out | apply below_alloc | apply pw_below_drewN | apply below_drew1 | refine below_set ?_ Ag.out | refine below_set ?_ Ah.out | refine below_set ?_ Aj.out | refine below_set ?_ Ak.out | refine below_set ?_ Aw.out) | exact HB.out))⟩)
            ·skip
             refine box_step ?hg (N := 10) ?hd (cs := #[.int .i64 0, .int .i64 0]) (t := 44) ?hr ?_; (case hd => rfl); (case hg => rfl); (case hr => first | (go_simp; done) | (go_simp; rfl))
             intro An hg Jv hbox hb
             have Am := asd (hbox)
             have AY := ngw4 hg HB Ag Ah Aj Ak
             have Aw := ngw4 hg HB Ag Ah Aj Ak
             replace HB := bS4 HB Ag Ah Aj Ak hb
             have Ai := nlt hg Ab
             have As := nsy (nlt hg Ab)
             replace Ab := bB Ab hb
             have Aq := nlt hg Ae
             have At := nsy (nlt hg Ae)
             replace Ae := bB Ae hb
             have Ar := nlt hg Ad
             have Au := nsy (nlt hg Ad)
             replace Ad := bB Ad hb
             have Af := nlt hg Ac
             have Av := nsy (nlt hg Ac)
             replace Ac := bB Ac hb
             clear hb hbox hg
             refine hK.out _ _ (cb3 Ab (eb6 Ac)).out (fun hHeld => ?_)
             clear hK K
             refine norm_ (a' := ?_) ?_ ?_
             rotate_left
             ·show Act.put _ (some 10) _ = _
              simp only [Act.put, sA, sB, sC, i64_w, i32_w]
              rfl
             refine ro 4 (some 32) (bs 11 383) HT_ (fun K hK => ?_)
             refine gs Tryz.func34 #[.agg #[.int .i64 AF, .int .i64 AG, .int .i64 AH], .agg #[.int .i64 Bg, .int .i64 Bh]] ?_
             with_reducible refine (impl_Lattice_multipleIn.calls _ _ _ _ _ _ _ _ _ Cs.out).mono ?_
             rintro e Ic ⟨rfl, hb⟩
             refine ⟨_, rfl, ?_⟩
             replace Ab := bB Ab hb
             replace Ae := bB Ae hb
             replace Ad := bB Ad hb
             replace Ac := bB Ac hb
             replace Am := bB Am hb
             replace HB := asd (below_step (by repeat (first | (with_reducible first | exact HB.out | apply below_alloc | apply pw_below_drewN | apply below_drew1 | refine below_set ?_ Ag.out | refine below_set ?_ Ah.out | refine below_set ?_ Aj.out | refine below_set ?_ Ak.out | refine below_set ?_ Aw.out) | exact HB.out)) hb)
             (try clear hb)
             (try clear hb2)
             (try clear hk)
             (try clear hi)
             refine hK.out _ _ (cb3 Ab (eb6 Ac)).out (fun hHeld => ?_)
             clear hK K
             refine norm_ (a' := ?_) ?_ ?_
             rotate_left
             ·show Act.put _ (some 32) _ = _
              simp only [Act.put, sA, sB, sC, i64_w, i32_w]
              rfl
             refine ro 7 (some 35) (bT 11 9) HT_ (fun K hK => ?_)
             refine gs Tryz.func36 #[.int .i64 a0, .agg #[.int .i64 AF, .int .i64 AG, .int .i64 AH]] ?_
             with_reducible refine (impl_shortestVecs.calls _ _ _ _ _ _ _ Cj.out).mono ?_
             rintro e w64 ⟨v761, rfl, A8, hb⟩
             refine ⟨_, rfl, ?_⟩
             have AB := asd (Kd.R_lower (Kd.R_newB A8 (g := An) (o := .cells #[.int .i64 0, .int .i64 0] 44 (0, 0)) (bkp Am)) (below_size (by repeat (first | (with_reducible first | exact HB.out | apply below_alloc | apply pw_below_drewN | apply below_drew1 | refine below_set ?_ Ag.out | refine below_set ?_ Ah.out | refine below_set ?_ Aj.out | refine below_set ?_ Ak.out | refine below_set ?_ Aw.out) | exact HB.out))))
             replace Ab := bB Ab hb
             replace Ae := bB Ae hb
             replace Ad := bB Ad hb
             replace Ac := bB Ac hb
             replace Am := bB Am hb
             replace HB := asd (below_step (by repeat (first | (with_reducible first | exact HB.out | apply below_alloc | apply pw_below_drewN | apply below_drew1 | refine below_set ?_ Ag.out | refine below_set ?_ Ah.out | refine below_set ?_ Aj.out | refine below_set ?_ Ak.out | refine below_set ?_ Aw.out) | exact HB.out)) hb)
             (try clear hb)
             (try clear hb2)
             (try clear hk)
             (try clear hi)
             (try clear A8)
             refine hK.out _ _ (cb3 Ab (eb6 Ac)).out (fun hHeld => ?_)
             clear hK K
             refine norm_ (a' := ?_) ?_ ?_
             rotate_left
             ·show Act.put _ (some 35) _ = _
              simp only [Act.put, sA, sB, sC, i64_w, i32_w]
              rfl
             exact norm_ (by simp only [putAll, Act.put, sA, sB, sC]) (hCont (v761, An) _ ⟨hHeld, (by (with_reducible repeat (first | apply Kd.R_alloc | apply Kd.R_drewN | apply Kd.R_drew)); exact Kd.R_mono AB.out (fun _ hk => hk.2)), (bkp Ab), (bkp Ae), (bkp Ad), (bkp Ac), (bkp Am), AY.out, Aw.out, Ai.out, As.out, Aq.out, At.out, Ar.out, Au.out, Af.out, Av.out, (by repeat (first | (with_reducible first | exact HB.out | apply below_alloc | apply pw_below_drewN | apply below_drew1 | refine below_set ?_ Ag.out | refine below_set ?_ Ah.out | refine below_set ?_ Aj.out | refine below_set ?_ Ak.out | refine below_set ?_ Aw.out) | exact HB.out))⟩)
           ·skip
            refine box_step ?hg (N := 10) ?hd (cs := #[.int .i64 0, .int .i64 0]) (t := 44) ?hr ?_; (case hd => rfl); (case hg => rfl); (case hr => first | (go_simp; done) | (go_simp; rfl))
            intro An hg J5 hbox hb
            have Am := asd (hbox)
            have AY := ngw4 hg HB Ag Ah Aj Ak
            have Aw := ngw4 hg HB Ag Ah Aj Ak
            replace HB := bS4 HB Ag Ah Aj Ak hb
            have Ai := nlt hg Ab
            have As := nsy (nlt hg Ab)
            replace Ab := bB Ab hb
            have Aq := nlt hg Ae
            have At := nsy (nlt hg Ae)
            replace Ae := bB Ae hb
            have Ar := nlt hg Ad
            have Au := nsy (nlt hg Ad)
            replace Ad := bB Ad hb
            have Af := nlt hg Ac
            have Av := nsy (nlt hg Ac)
            replace Ac := bB Ac hb
            clear hb hbox hg
            refine hK.out _ _ (cb3 Ab (eb6 Ac)).out (fun hHeld => ?_)
            clear hK K
            refine norm_ (a' := ?_) ?_ ?_
            rotate_left
            ·show Act.put _ (some 10) _ = _
             simp only [Act.put, sA, sB, sC, i64_w, i32_w]
             rfl
            refine ro 3 (some 31) (bs 11 367) HT_ (fun K hK => ?_)
            refine gs Tryz.func35 #[.agg #[.int .i64 ((rd_T46 l2 Aa).f0.f0), .int .i64 ((rd_T46 l2 Aa).f0.f1), .int .i64 ((rd_T46 l2 Aa).f0.f2), .int .i64 ((rd_T46 l2 Aa).f0.f3)]] ?_
            with_reducible refine (impl_Mat_axis.calls _ _ _ _ _ _ _ _ Gn.out).mono ?_
            rintro e Jv ⟨rfl, hb⟩
            refine ⟨_, rfl, ?_⟩
            replace Ab := bB Ab hb
            replace Ae := bB Ae hb
            replace Ad := bB Ad hb
            replace Ac := bB Ac hb
            replace Am := bB Am hb
            replace HB := asd (below_step (by repeat (first | (with_reducible first | exact HB.out | apply below_alloc | apply pw_below_drewN | apply below_drew1 | refine below_set ?_ Ag.out | refine below_set ?_ Ah.out | refine below_set ?_ Aj.out | refine below_set ?_ Ak.out | refine below_set ?_ Aw.out) | exact HB.out)) hb)
            (try clear hb)
            (try clear hb2)
            (try clear hk)
            (try clear hi)
            refine hK.out _ _ (cb3 Ab (eb6 Ac)).out (fun hHeld => ?_)
            clear hK K
            refine norm_ (a' := ?_) ?_ ?_
            rotate_left
            ·show Act.put _ (some 31) _ = _
             simp only [Act.put, sA, sB, sC, i64_w, i32_w]
             rfl
            refine ro 4 (some 32) (bs 11 383) HT_ (fun K hK => ?_)
            refine gs Tryz.func34 #[.agg #[.int .i64 AF, .int .i64 AG, .int .i64 AH], .agg #[.int .i64 Bg, .int .i64 Bh]] ?_
            with_reducible refine (impl_Lattice_multipleIn.calls _ _ _ _ _ _ _ _ _ Cs.out).mono ?_
            rintro e Ic ⟨rfl, hb⟩
            refine ⟨_, rfl, ?_⟩
            replace Ab := bB Ab hb
            replace Ae := bB Ae hb
            replace Ad := bB Ad hb
            replace Ac := bB Ac hb
            replace Am := bB Am hb
            replace HB := asd (below_step (by repeat (first | (with_reducible first | exact HB.out | apply below_alloc | apply pw_below_drewN | apply below_drew1 | refine below_set ?_ Ag.out | refine below_set ?_ Ah.out | refine below_set ?_ Aj.out | refine below_set ?_ Ak.out | refine below_set ?_ Aw.out) | exact HB.out)) hb)
            (try clear hb)
            (try clear hb2)
            (try clear hk)
            (try clear hi)
            refine hK.out _ _ (cb3 Ab (eb6 Ac)).out (fun hHeld => ?_)
            clear hK K
            refine norm_ (a' := ?_) ?_ ?_
            rotate_left
            ·show Act.put _ (some 32) _ = _
             simp only [Act.put, sA, sB, sC, i64_w, i32_w]
             rfl
            refine ro 7 (some 35) (bT 11 9) HT_ (fun K hK => ?_)
            refine gs Tryz.func36 #[.int .i64 a0, .agg #[.int .i64 AF, .int .i64 AG, .int .i64 AH]] ?_
            with_reducible refine (impl_shortestVecs.calls _ _ _ _ _ _ _ Cj.out).mono ?_
            rintro e w64 ⟨v761, rfl, A8, hb⟩
            refine ⟨_, rfl, ?_⟩
            have AB := asd (Kd.R_lower (Kd.R_newB A8 (g := An) (o := .cells #[.int .i64 0, .int .i64 0] 44 (0, 0)) (bkp Am)) (below_size (by repeat (first | (with_reducible first | exact HB.out | apply below_alloc | apply pw_below_drewN | apply below_drew1 | refine below_set ?_ Ag.out | refine below_set ?_ Ah.out | refine below_set ?_ Aj.out | refine below_set ?_ Ak.out | refine below_set ?_ Aw.out) | exact HB.out))))
            replace Ab := bB Ab hb
            replace Ae := bB Ae hb
            replace Ad := bB Ad hb
            replace Ac := bB Ac hb
            replace Am := bB Am hb
            replace HB := asd (below_step (by repeat (first | (with_reducible first | exact HB.out | apply below_alloc | apply pw_below_drewN | apply below_drew1 | refine below_set ?_ Ag.out | refine below_set ?_ Ah.out | refine below_set ?_ Aj.out | refine below_set ?_ Ak.out | refine below_set ?_ Aw.out) | exact HB.out)) hb)
            (try clear hb)
            (try clear hb2)
            (try clear hk)
            (try clear hi)
            (try clear A8)
            refine hK.out _ _ (cb3 Ab (eb6 Ac)).out (fun hHeld => ?_)
            clear hK K
            refine norm_ (a' := ?_) ?_ ?_
            rotate_left
            ·show Act.put _ (some 35) _ = _
             simp only [Act.put, sA, sB, sC, i64_w, i32_w]
             rfl
            exact norm_ (by simp only [putAll, Act.put, sA, sB, sC]) (hCont (v761, An) _ ⟨hHeld, (by (with_reducible repeat (first | apply Kd.R_alloc | apply Kd.R_drewN | apply Kd.R_drew)); exact Kd.R_mono AB.out (fun _ hk => hk.2)), (bkp Ab), (bkp Ae), (bkp Ad), (bkp Ac), (bkp Am), AY.out, Aw.out, Ai.out, As.out, Aq.out, At.out, Ar.out, Au.out, Af.out, Av.out, (by repeat (first | (with_reducible first | exact HB.out | apply below_alloc | apply pw_below_drewN | apply below_drew1 | refine below_set ?_ Ag.out | refine below_set ?_ Ah.out | refine below_set ?_ Aj.out | refine below_set ?_ Ak.out | refine below_set ?_ Aw.out) | exact HB.out))⟩)
          rintro ⟨v761, An⟩ Bf ⟨hS_, h0_, h1_, h2_, h3_, h4_, h5_, h6_, h7_, h8_, h9_, h10_, h11_, h12_, h13_, h14_, h15_, h16_⟩
          have Cw : Aside0 (Kd.R k44 44 Bf w.heap.size (fun k_ => k_ ≠ An) v761 A7) := ⟨h0_⟩
          have Cx : Aside0 (Bf.heap[AD]? = some (.cells #[.int .i64 AF, .int .i64 AG, .int .i64 AH] 30 (0, 0))) := ⟨h1_⟩
          have Cy : Aside0 (Bf.heap[AJ]? = some (.cells #[.int .i64 0, .int .i64 0, .int .i64 0, .int .i64 0, .bool false] 27 (0, 0))) := ⟨h2_⟩
          have Cz : Aside0 (Bf.heap[AN]? = some (.cells #[.int .i64 AZ, .int .i64 Al, .int .i64 Ao, .int .i64 Ap, .bool AE] 27 (0, 0))) := ⟨h3_⟩
          have CA : Aside0 (Bf.heap[Az]? = some (.cells #[.int .i64 ((rd_T46 l2 Aa).f0.f0), .int .i64 ((rd_T46 l2 Aa).f0.f1), .int .i64 ((rd_T46 l2 Aa).f0.f2), .int .i64 ((rd_T46 l2 Aa).f0.f3), .int .i64 ((rd_T46 l2 Aa).f1.f0), .int .i64 ((rd_T46 l2 Aa).f1.f1)] 46 (0, 0))) := ⟨h4_⟩
          have CB : Aside0 (Bf.heap[An]? = some (.cells #[.int .i64 0, .int .i64 0] 44 (0, 0))) := ⟨h5_⟩
          have CC : Aside0 (w.heap.size ≤ An) := ⟨h6_⟩
          have CD : Aside0 (w.heap.size ≤ An) := ⟨h7_⟩
          have CE : Aside0 (AD ≠ An) := ⟨h8_⟩
          have CF : Aside0 (An ≠ AD) := ⟨h9_⟩
          have Bo : Aside0 (AJ ≠ An) := ⟨h10_⟩
          have Bp : Aside0 (An ≠ AJ) := ⟨h11_⟩
          have Bq : Aside0 (AN ≠ An) := ⟨h12_⟩
          have Br : Aside0 (An ≠ AN) := ⟨h13_⟩
          have Bs : Aside0 (Az ≠ An) := ⟨h14_⟩
          have Bt : Aside0 (An ≠ Az) := ⟨h15_⟩
          have Bu : Aside0 (Below w.heap.size w Bf) := ⟨h16_⟩
          clear Ab
          clear Ae
          clear Ad
          clear Ac
          clear HB
          clear h0_ h1_ h2_ h3_ h4_ h5_ h6_ h7_ h8_ h9_ h10_ h11_ h12_ h13_ h14_ h15_ h16_
          have AB := Cw
          have Ab := Cx
          have Ae := Cy
          have Ad := Cz
          have Ac := CA
          have Am := CB
          have AY := CC
          have Aw := CD
          have Ai := CE
          have As := CF
          have Aq := Bo
          have At := Bp
          have Ar := Bq
          have Au := Br
          have Af := Bs
          have Av := Bt
          have HB := Bu
          clear Cw Cx Cy Cz CA CB CC CD CE CF Bo Bp Bq Br Bs Bt Bu
          have hHeld : Bf.cell? ⟨AD, 0, none⟩ = some (.int .i64 AF) ∧ Bf.cell? ⟨AD, 1, none⟩ = some (.int .i64 AG) ∧ Bf.cell? ⟨AD, 2, none⟩ = some (.int .i64 AH) ∧ Bf.cell? ⟨Az, 0, none⟩ = some (.int .i64 ((rd_T46 l2 Aa).f0.f0)) ∧ Bf.cell? ⟨Az, 1, none⟩ = some (.int .i64 ((rd_T46 l2 Aa).f0.f1)) ∧ Bf.cell? ⟨Az, 2, none⟩ = some (.int .i64 ((rd_T46 l2 Aa).f0.f2)) ∧ Bf.cell? ⟨Az, 3, none⟩ = some (.int .i64 ((rd_T46 l2 Aa).f0.f3)) ∧ Bf.cell? ⟨Az, 4, none⟩ = some (.int .i64 ((rd_T46 l2 Aa).f1.f0)) ∧ Bf.cell? ⟨Az, 5, none⟩ = some (.int .i64 ((rd_T46 l2 Aa).f1.f1)) := hS_
          refine norm_ (a' := ?_) ?_ ?_
          rotate_left
          ·simp only [putAll, Act.put, sA, sB, sC]
           rfl
          refine ro 9 (none) (bT 11 10) HT_ (fun K hK => ?_)
          have hs66 : Bf.cell? ⟨An, 0, none⟩ = some (.int .i64 0) := bcl Am 0
          have hfs66 := blk_frozen Am.out 0
          have GU := Ai.out
          have GV := Aq.out
          have GW := Ar.out
          have GX := Af.out
          have GY := As.out
          have GZ := At.out
          have G0 := Au.out
          have G1 := Av.out
          have hs67 : Bf.cell? ⟨An, 1, none⟩ = some (.int .i64 0) := bcl Am 1
          have hfs67 := blk_frozen Am.out 1
          have G2 := Ai.out
          have G3 := Aq.out
          have G4 := Ar.out
          have G5 := Af.out
          have G6 := As.out
          have G7 := At.out
          have G8 := Au.out
          have G9 := Av.out
          refine skip_ (w1 := ?_) (by rfl) rfl ?_ ?_
          rotate_left
          ·go_simp
           rfl
          refine hK.out _ _ ⟨(cf Ai ((cf Ai (hHeld.1)))), (cf Ai ((cf Ai (hHeld.2.1)))), (cf Ai ((cf Ai (hHeld.2.2.1)))), (cf Af ((cf Af (hHeld.2.2.2.1)))), (cf Af ((cf Af (hHeld.2.2.2.2.1)))), (cf Af ((cf Af (hHeld.2.2.2.2.2.1)))), (cf Af ((cf Af (hHeld.2.2.2.2.2.2.1)))), (cf Af ((cf Af (hHeld.2.2.2.2.2.2.2.1)))), (cf Af ((cf Af (hHeld.2.2.2.2.2.2.2.2))))⟩ (fun hHeld => ?_)
          clear hK K
          refine pu 10 (some 11) (bT 11 11) HT_ ?_
          refine done_ (done_of HT_.out (by kernel_rfl)) ?_
          have Jw := As.out
          have Jx := Ai.out
          have Jy := At.out
          have Jz := Aq.out
          have JA := Au.out
          have JB := Ar.out
          have JC := Av.out
          have JD := Af.out
          obtain ⟨BO, BP, BQ, BR⟩ := bz2 Am
          obtain ⟨Ao73, co73, eo73⟩ := Kd.R_slice AB.out
          subst eo73
          try go_wp2_with (first | ((with_reducible refine gate_callee (f := 37) rfl ?_); refine gl 38 Tryz.func37 #[.slice Ao73 A7.length co73, .agg #[.int .i64 Bm, .int .i64 Bn]] ?_; (with_reducible refine (impl_Vec_37.calls _ _ _ _ _ _ _ _ ?side1 ?side2 Jf.out).mono ?_); (case side1 => refine (Kd.R_reads' (e := 44) (base := w.heap.size) (ok := fun k_ => k_ ≠ An) (n := A7.length) (c := co73) ?_).2.2; exact (by (with_reducible repeat (first | apply Kd.R_alloc | apply Kd.R_drewN | apply Kd.R_drew)); exact (Kd.R_mono (rw2 (Kd.R_mono AB.out (fun k_ hk => (⟨hk, hk⟩ : _ ∧ k_ ≠ An)))) (fun _ h_ => h_.1)))); (case side2 => exact (Kd.R_reads' AB.out).2.1); rintro e Kj ⟨rfl, hb⟩; refine ⟨_, rfl, ?_⟩; replace AB := asd (Kd.R_below (by (with_reducible repeat (first | apply Kd.R_alloc | apply Kd.R_drewN | apply Kd.R_drew)); exact (Kd.R_mono (rw2 (Kd.R_mono AB.out (fun k_ hk => (⟨hk, hk⟩ : _ ∧ k_ ≠ An)))) (fun _ h_ => h_.1))) hb); replace Ab := asd (blk_below (g := AD) (o := .cells #[.int .i64 AF, .int .i64 AG, .int .i64 AH] 30 (0, 0)) (bq1 Ab Ai) hb); replace Ae := asd (blk_below (g := AJ) (o := .cells #[.int .i64 0, .int .i64 0, .int .i64 0, .int .i64 0, .bool false] 27 (0, 0)) (bq1 Ae Aq) hb); replace Ad := asd (blk_below (g := AN) (o := .cells #[.int .i64 AZ, .int .i64 Al, .int .i64 Ao, .int .i64 Ap, .bool AE] 27 (0, 0)) (bq1 Ad Ar) hb); replace Ac := asd (blk_below (g := Az) (o := .cells #[.int .i64 ((rd_T46 l2 Aa).f0.f0), .int .i64 ((rd_T46 l2 Aa).f0.f1), .int .i64 ((rd_T46 l2 Aa).f0.f2), .int .i64 ((rd_T46 l2 Aa).f0.f3), .int .i64 ((rd_T46 l2 Aa).f1.f0), .int .i64 ((rd_T46 l2 Aa).f1.f1)] 46 (0, 0)) (bq1 Ac Af) hb); replace Am := asd (blk_below (g := An) (o := .cells #[.int .i64 Bm, .int .i64 Bn] 44 (0, 0)) (bq0 Am) hb); replace HB := asd (below_step (by repeat (first | (with_reducible first | exact HB.out | apply below_alloc | apply pw_below_drewN | apply below_drew1 | refine below_set ?_ Ag.out | refine below_set ?_ Ah.out | refine below_set ?_ Aj.out | refine below_set ?_ Ak.out | refine below_set ?_ Aw.out) | exact HB.out)) hb); (try clear hb); obtain ⟨BS, BT, BU, BV⟩ := bz2 Am) | (go_at_call 38; (with_reducible refine (impl_Vec_times.calls _ _ _ _ _ _ J3.out).mono ?_); rintro e Kk ⟨rfl, hb⟩; replace AB := asd (Kd.R_below (kr AB) hb); replace Ab := bB Ab hb; replace Ae := bB Ae hb; replace Ad := bB Ad hb; replace Ac := bB Ac hb; replace Am := bB Am hb; replace HB := asd (below_step (by repeat (first | (with_reducible first | exact HB.out | apply below_alloc | apply pw_below_drewN | apply below_drew1 | refine below_set ?_ Ag.out | refine below_set ?_ Ah.out | refine below_set ?_ Aj.out | refine below_set ?_ Ak.out | refine below_set ?_ Aw.out) | exact HB.out)) hb); (try clear hb)) | (go_at_call 37; (with_reducible refine (impl_Vec_37.calls _ _ _ _ _ _ _ _ ?side1 ?side2 J4.out).mono ?_); (case side1 => exact ks (Kd.R_reads' AB.out).2.2); (case side2 => exact (Kd.R_reads' AB.out).2.1); rintro e Kl ⟨rfl, hb⟩; replace AB := asd (Kd.R_below (kr AB) hb); replace Ab := bB Ab hb; replace Ae := bB Ae hb; replace Ad := bB Ad hb; replace Ac := bB Ac hb; replace Am := bB Am hb; replace HB := asd (below_step (by repeat (first | (with_reducible first | exact HB.out | apply below_alloc | apply pw_below_drewN | apply below_drew1 | refine below_set ?_ Ag.out | refine below_set ?_ Ah.out | refine below_set ?_ Aj.out | refine below_set ?_ Ak.out | refine below_set ?_ Aw.out) | exact HB.out)) hb); (try clear hb); have JE := AO.out; have JF := Ax.out; have JG := AP.out; have JH := Ay.out; have JI := AI.out; have JJ := AA.out; obtain ⟨BW, BX, BY, BZ, B0, B3, B8, Ca, Cb, Cc⟩ := bz5 Ad))
          go_meet
          case rel => exact ⟨_, (Cl), H', ⟨by have := Bl.out; first | omega | exact Nat.le_refl _⟩, ⟨bq1 Ab Ax⟩, ⟨bq1 Ae Ay⟩, ⟨bq0 Ad⟩, ⟨bq1 Ac AA⟩, ⟨by repeat (first | (with_reducible first | exact HB.out | apply below_alloc | apply pw_below_drewN | apply below_drew1 | refine below_set ?_ Ag.out | refine below_set ?_ Ah.out | refine below_set ?_ Aj.out | refine below_set ?_ Ak.out | refine below_set ?_ Aw.out) | exact HB.out)⟩⟩
        ·rw [if_neg Ch] at H
         have A9 : (Al == 0) = false := beq_eq_false_iff_ne.mpr Ch
         have Ci : (Al != 0) = true := bne_iff_ne.mpr Ch
         (first | rw [A9] | (simp only [i64_w, i32_w]; rw [A9]) | skip)
         have H' := Aside0.mk H
         clear H
         go_wp2
         go_meet
         case rel => exact ⟨_, (AE), H', ⟨by have := Bl.out; first | omega | exact Nat.le_refl _⟩, ⟨bkp Ab⟩, ⟨bkp Ae⟩, ⟨bkp Ad⟩, ⟨bkp Ac⟩, ⟨bbw4 HB Ag Ah Aj Ak⟩⟩
       case rest =>
        clear Cq
        try clear Ch
        try clear A9
        try clear Ci
        try clear BO
        try clear BP
        try clear BS
        try clear BT
        try clear BW
        try clear BX
        try clear BY
        try clear BZ
        try clear B0
        try clear BQ
        try clear BR
        try clear BU
        try clear BV
        try clear B3
        try clear B8
        try clear Ca
        try clear Cb
        try clear Cc
        obtain ⟨kq, AC, HA, Bi, Ab, Ae, Ad, Ac, HB⟩ := hcut
        cases kq with
        | zero => exact absurd HA.out (by simp [impl_factsOf.j1])
        | succ Cd =>
         have H := HA.out
         clear HA
         simp only [impl_factsOf.j1] at H
         obtain ⟨Cm, Ha, H⟩ := ob H
         try dsimp only at H
         by_cases Hb : Cm = true
         ·subst Hb
          replace H := ifT H
          obtain ⟨Cn, JK, H⟩ := ob H
          try dsimp only at H
          by_cases Hc : Cn = true
          ·subst Hc
           replace H := ifT H
           have H' := Aside0.mk H
           clear H
           have JL := AO.out
           have JM := Ax.out
           have JN := AP.out
           have JO := Ay.out
           have JP := AI.out
           have JQ := AA.out
           obtain ⟨He, Hf, Hg, Hh, Hi, Hj, Hk, Hl, Hm, Hn⟩ := bz5 Ad
           have JR := A1.out
           have JS := A3.out
           have JT := AQ.out
           have JU := AT.out
           obtain ⟨Ho, Hp, Hq, Hr, Hs, Ht⟩ := bz3 Ab
           have JV := AU.out
           have JW := AR.out
           obtain ⟨Hu, Hv, Hw, Hx, Hy, Hz, HC, HD, HE, HF, HG, HH⟩ := bz6 Ac
           go_wp2_with (first | ((with_reducible refine gate_callee (f := 39) rfl ?_); refine gl 52 Tryz.func39 #[.agg #[.int .i64 AF, .int .i64 AG, .int .i64 AH], .agg #[.int .i64 ((rd_T46 l2 Aa).f0.f0), .int .i64 ((rd_T46 l2 Aa).f0.f1), .int .i64 ((rd_T46 l2 Aa).f0.f2), .int .i64 ((rd_T46 l2 Aa).f0.f3), .int .i64 ((rd_T46 l2 Aa).f1.f0), .int .i64 ((rd_T46 l2 Aa).f1.f1)]] ?_; (with_reducible refine (impl_Lattice_mayReflect.calls _ _ _ _ _ _ _ _ _ _ _ _ Ha.out).mono ?_); rintro e Km ⟨rfl, hb⟩; refine ⟨_, rfl, ?_⟩; replace Ab := asd (blk_below (g := AD) (o := .cells #[.int .i64 AF, .int .i64 AG, .int .i64 AH] 30 (0, 0)) (bq1 Ab Ax) hb); replace Ae := asd (blk_below (g := AJ) (o := .cells #[.int .i64 0, .int .i64 0, .int .i64 0, .int .i64 0, .bool false] 27 (0, 0)) (bq1 Ae Ay) hb); replace Ad := asd (blk_below (g := AN) (o := .cells #[.int .i64 AZ, .int .i64 (wrap64 (Al + 1)), .int .i64 Ao, .int .i64 Ap, .bool AC] 27 (0, 0)) (bq0 Ad) hb); replace Ac := asd (blk_below (g := Az) (o := .cells #[.int .i64 ((rd_T46 l2 Aa).f0.f0), .int .i64 ((rd_T46 l2 Aa).f0.f1), .int .i64 ((rd_T46 l2 Aa).f0.f2), .int .i64 ((rd_T46 l2 Aa).f0.f3), .int .i64 ((rd_T46 l2 Aa).f1.f0), .int .i64 ((rd_T46 l2 Aa).f1.f1)] 46 (0, 0)) (bq1 Ac AA) hb); replace HB := bS4 HB Ag Ah Aj Ak hb; (try clear hb); obtain ⟨HI, HJ, HK, HL, HM, HN, HO, HP, HQ, HR⟩ := bz5 Ad; obtain ⟨HS, HT, HU, HV, HW, HX⟩ := bz3 Ab; obtain ⟨HY, HZ, H0, H1, H2, H3, H4, H5, H6, H7, H8, H9⟩ := bz6 Ac) | ((with_reducible refine gate_callee (f := 40) rfl ?_); refine gl 60 Tryz.func40 #[.agg #[.int .i64 AF, .int .i64 AG, .int .i64 AH], .agg #[.int .i64 ((rd_T46 l2 Aa).f0.f0), .int .i64 ((rd_T46 l2 Aa).f0.f1), .int .i64 ((rd_T46 l2 Aa).f0.f2), .int .i64 ((rd_T46 l2 Aa).f0.f3)]] ?_; (with_reducible refine (impl_Lattice_isCentred.calls _ _ _ _ _ _ _ _ _ _ JK.out).mono ?_); rintro e Kn ⟨rfl, hb⟩; refine ⟨_, rfl, ?_⟩; replace Ab := asd (blk_below (g := AD) (o := .cells #[.int .i64 AF, .int .i64 AG, .int .i64 AH] 30 (0, 0)) (bq1 Ab Ax) hb); replace Ae := asd (blk_below (g := AJ) (o := .cells #[.int .i64 0, .int .i64 0, .int .i64 0, .int .i64 0, .bool false] 27 (0, 0)) (bq1 Ae Ay) hb); replace Ad := asd (blk_below (g := AN) (o := .cells #[.int .i64 AZ, .int .i64 (wrap64 (Al + 1)), .int .i64 (wrap64 (Ao + 1)), .int .i64 Ap, .bool AC] 27 (0, 0)) (bq0 Ad) hb); replace Ac := asd (blk_below (g := Az) (o := .cells #[.int .i64 ((rd_T46 l2 Aa).f0.f0), .int .i64 ((rd_T46 l2 Aa).f0.f1), .int .i64 ((rd_T46 l2 Aa).f0.f2), .int .i64 ((rd_T46 l2 Aa).f0.f3), .int .i64 ((rd_T46 l2 Aa).f1.f0), .int .i64 ((rd_T46 l2 Aa).f1.f1)] 46 (0, 0)) (bq1 Ac AA) hb); replace HB := bS4 HB Ag Ah Aj Ak hb; (try clear hb); obtain ⟨CG, CH, CI, CJ, CK, CL, CM, CN, CO, CP⟩ := bz5 Ad))
           go_roundg Cd
           case measure => have := Bl.out; have := Bi.out; omega
           case rel => exact ⟨(wrap64 (Aa + 1)), (wrap64 (Al + 1)), (wrap64 (Ao + 1)), (wrap64 (Ap + 1)), (AC), (by first | rfl | (simp; done) | (simp [*]; done)), H', ⟨by have := Bl.out; have := Bi.out; omega⟩, ⟨bq1 Ab Ax⟩, ⟨bq1 Ae Ay⟩, ⟨bq0 Ad⟩, ⟨bbw4 HB Ag Ah Aj Ak⟩⟩
          ·replace Hc := Bool.eq_false_iff.mpr Hc
           subst Hc
           replace H := ifF H
           have H' := Aside0.mk H
           clear H
           have Id := AO.out
           have Ie := Ax.out
           have If := AP.out
           have Ig := Ay.out
           have Ih := AI.out
           have Ii := AA.out
           obtain ⟨CQ, CR, CS, CT, CU, CV, CW, CX, CY, CZ⟩ := bz5 Ad
           have Ij := A1.out
           have Ik := A3.out
           have Il := AQ.out
           have Im := AT.out
           obtain ⟨C0, C1, C2, C3, C4, C5⟩ := bz3 Ab
           have In := AU.out
           have Io := AR.out
           obtain ⟨C6, C7, C8, C9, Da, Db, Dc, Dd, De, Df, Dg, Dh⟩ := bz6 Ac
           go_wp2_with (first | ((with_reducible refine gate_callee (f := 39) rfl ?_); refine gl 52 Tryz.func39 #[.agg #[.int .i64 AF, .int .i64 AG, .int .i64 AH], .agg #[.int .i64 ((rd_T46 l2 Aa).f0.f0), .int .i64 ((rd_T46 l2 Aa).f0.f1), .int .i64 ((rd_T46 l2 Aa).f0.f2), .int .i64 ((rd_T46 l2 Aa).f0.f3), .int .i64 ((rd_T46 l2 Aa).f1.f0), .int .i64 ((rd_T46 l2 Aa).f1.f1)]] ?_; (with_reducible refine (impl_Lattice_mayReflect.calls _ _ _ _ _ _ _ _ _ _ _ _ Ha.out).mono ?_); rintro e J6 ⟨rfl, hb⟩; refine ⟨_, rfl, ?_⟩; replace Ab := asd (blk_below (g := AD) (o := .cells #[.int .i64 AF, .int .i64 AG, .int .i64 AH] 30 (0, 0)) (bq1 Ab Ax) hb); replace Ae := asd (blk_below (g := AJ) (o := .cells #[.int .i64 0, .int .i64 0, .int .i64 0, .int .i64 0, .bool false] 27 (0, 0)) (bq1 Ae Ay) hb); replace Ad := asd (blk_below (g := AN) (o := .cells #[.int .i64 AZ, .int .i64 (wrap64 (Al + 1)), .int .i64 Ao, .int .i64 Ap, .bool AC] 27 (0, 0)) (bq0 Ad) hb); replace Ac := asd (blk_below (g := Az) (o := .cells #[.int .i64 ((rd_T46 l2 Aa).f0.f0), .int .i64 ((rd_T46 l2 Aa).f0.f1), .int .i64 ((rd_T46 l2 Aa).f0.f2), .int .i64 ((rd_T46 l2 Aa).f0.f3), .int .i64 ((rd_T46 l2 Aa).f1.f0), .int .i64 ((rd_T46 l2 Aa).f1.f1)] 46 (0, 0)) (bq1 Ac AA) hb); replace HB := bS4 HB Ag Ah Aj Ak hb; (try clear hb); obtain ⟨Di, Dj, Dk, Dl, Dm, Dn, Do, Dp, Dq, Dr⟩ := bz5 Ad; obtain ⟨Ds, Dt, Du, Dv, Dw, Dx⟩ := bz3 Ab; obtain ⟨Dy, Dz, DA, DB, DC, DD, DE, DF, DG, DH, DI, DJ⟩ := bz6 Ac) | ((with_reducible refine gate_callee (f := 40) rfl ?_); refine gl 60 Tryz.func40 #[.agg #[.int .i64 AF, .int .i64 AG, .int .i64 AH], .agg #[.int .i64 ((rd_T46 l2 Aa).f0.f0), .int .i64 ((rd_T46 l2 Aa).f0.f1), .int .i64 ((rd_T46 l2 Aa).f0.f2), .int .i64 ((rd_T46 l2 Aa).f0.f3)]] ?_; (with_reducible refine (impl_Lattice_isCentred.calls _ _ _ _ _ _ _ _ _ _ JK.out).mono ?_); rintro e J7 ⟨rfl, hb⟩; refine ⟨_, rfl, ?_⟩; replace Ab := asd (blk_below (g := AD) (o := .cells #[.int .i64 AF, .int .i64 AG, .int .i64 AH] 30 (0, 0)) (bq1 Ab Ax) hb); replace Ae := asd (blk_below (g := AJ) (o := .cells #[.int .i64 0, .int .i64 0, .int .i64 0, .int .i64 0, .bool false] 27 (0, 0)) (bq1 Ae Ay) hb); replace Ad := asd (blk_below (g := AN) (o := .cells #[.int .i64 AZ, .int .i64 (wrap64 (Al + 1)), .int .i64 (wrap64 (Ao + 1)), .int .i64 Ap, .bool AC] 27 (0, 0)) (bq0 Ad) hb); replace Ac := asd (blk_below (g := Az) (o := .cells #[.int .i64 ((rd_T46 l2 Aa).f0.f0), .int .i64 ((rd_T46 l2 Aa).f0.f1), .int .i64 ((rd_T46 l2 Aa).f0.f2), .int .i64 ((rd_T46 l2 Aa).f0.f3), .int .i64 ((rd_T46 l2 Aa).f1.f0), .int .i64 ((rd_T46 l2 Aa).f1.f1)] 46 (0, 0)) (bq1 Ac AA) hb); replace HB := bS4 HB Ag Ah Aj Ak hb; (try clear hb)))
           go_roundg Cd
           case measure => have := Bl.out; have := Bi.out; omega
           case rel => exact ⟨(wrap64 (Aa + 1)), (wrap64 (Al + 1)), (wrap64 (Ao + 1)), (Ap), (AC), (by first | rfl | (simp; done) | (simp [*]; done)), H', ⟨by have := Bl.out; have := Bi.out; omega⟩, ⟨bkp Ab⟩, ⟨bkp Ae⟩, ⟨bkp Ad⟩, ⟨bbw4 HB Ag Ah Aj Ak⟩⟩
         ·replace Hb := Bool.eq_false_iff.mpr Hb
          subst Hb
          replace H := ifF H
          obtain ⟨Co, DK, H⟩ := ob H
          try dsimp only at H
          by_cases Ce : Co = true
          ·subst Ce
           replace H := ifT H
           have H' := Aside0.mk H
           clear H
           have Ip := AO.out
           have Iq := Ax.out
           have Ir := AP.out
           have Is := Ay.out
           have It := AI.out
           have Iu := AA.out
           obtain ⟨DL, DM, DN, DO, DP, DQ, DR, DS, DT, DU⟩ := bz5 Ad
           have Iv := A1.out
           have Iw := A3.out
           have Ix := AQ.out
           have Iy := AT.out
           obtain ⟨DV, DW, DX, DY, DZ, D0⟩ := bz3 Ab
           have Iz := AU.out
           have IA := AR.out
           obtain ⟨D1, D2, D3, D4, D5, D6, D7, D8, D9, Ea, Eb, Ec⟩ := bz6 Ac
           go_wp2_with (first | ((with_reducible refine gate_callee (f := 39) rfl ?_); refine gl 52 Tryz.func39 #[.agg #[.int .i64 AF, .int .i64 AG, .int .i64 AH], .agg #[.int .i64 ((rd_T46 l2 Aa).f0.f0), .int .i64 ((rd_T46 l2 Aa).f0.f1), .int .i64 ((rd_T46 l2 Aa).f0.f2), .int .i64 ((rd_T46 l2 Aa).f0.f3), .int .i64 ((rd_T46 l2 Aa).f1.f0), .int .i64 ((rd_T46 l2 Aa).f1.f1)]] ?_; (with_reducible refine (impl_Lattice_mayReflect.calls _ _ _ _ _ _ _ _ _ _ _ _ Ha.out).mono ?_); rintro e J8 ⟨rfl, hb⟩; refine ⟨_, rfl, ?_⟩; replace Ab := asd (blk_below (g := AD) (o := .cells #[.int .i64 AF, .int .i64 AG, .int .i64 AH] 30 (0, 0)) (bq1 Ab Ax) hb); replace Ae := asd (blk_below (g := AJ) (o := .cells #[.int .i64 0, .int .i64 0, .int .i64 0, .int .i64 0, .bool false] 27 (0, 0)) (bq1 Ae Ay) hb); replace Ad := asd (blk_below (g := AN) (o := .cells #[.int .i64 AZ, .int .i64 (wrap64 (Al + 1)), .int .i64 Ao, .int .i64 Ap, .bool AC] 27 (0, 0)) (bq0 Ad) hb); replace Ac := asd (blk_below (g := Az) (o := .cells #[.int .i64 ((rd_T46 l2 Aa).f0.f0), .int .i64 ((rd_T46 l2 Aa).f0.f1), .int .i64 ((rd_T46 l2 Aa).f0.f2), .int .i64 ((rd_T46 l2 Aa).f0.f3), .int .i64 ((rd_T46 l2 Aa).f1.f0), .int .i64 ((rd_T46 l2 Aa).f1.f1)] 46 (0, 0)) (bq1 Ac AA) hb); replace HB := bS4 HB Ag Ah Aj Ak hb; (try clear hb); obtain ⟨Ed, Ee, Ef, Eg, Eh, Ei⟩ := bz3 Ab; obtain ⟨Ej, Ek, El, Em, En, Eo, Ep, Er, Es, Et, Eu, Ew⟩ := bz6 Ac) | ((with_reducible refine gate_callee (f := 40) rfl ?_); refine gl 60 Tryz.func40 #[.agg #[.int .i64 AF, .int .i64 AG, .int .i64 AH], .agg #[.int .i64 ((rd_T46 l2 Aa).f0.f0), .int .i64 ((rd_T46 l2 Aa).f0.f1), .int .i64 ((rd_T46 l2 Aa).f0.f2), .int .i64 ((rd_T46 l2 Aa).f0.f3)]] ?_; (with_reducible refine (impl_Lattice_isCentred.calls _ _ _ _ _ _ _ _ _ _ DK.out).mono ?_); rintro e J9 ⟨rfl, hb⟩; refine ⟨_, rfl, ?_⟩; replace Ab := bB Ab hb; replace Ae := bB Ae hb; replace Ad := bB Ad hb; replace Ac := bB Ac hb; replace HB := bS4 HB Ag Ah Aj Ak hb; (try clear hb); obtain ⟨Ex, Ey, Ez, EA, EB, EC, ED, EE, EF, EG⟩ := bz5 Ad))
           go_roundg Cd
           case measure => have := Bl.out; have := Bi.out; omega
           case rel => exact ⟨(wrap64 (Aa + 1)), (wrap64 (Al + 1)), (Ao), (wrap64 (Ap + 1)), (AC), (by first | rfl | (simp; done) | (simp [*]; done)), H', ⟨by have := Bl.out; have := Bi.out; omega⟩, ⟨bq1 Ab Ax⟩, ⟨bq1 Ae Ay⟩, ⟨bq0 Ad⟩, ⟨bbw4 HB Ag Ah Aj Ak⟩⟩
          ·replace Ce := Bool.eq_false_iff.mpr Ce
           subst Ce
           replace H := ifF H
           have H' := Aside0.mk H
           clear H
           have IB := AO.out
           have IC := Ax.out
           have ID := AP.out
           have IE := Ay.out
           have IF := AI.out
           have IG := AA.out
           obtain ⟨EH, EI, EJ, EK, EL, EM, EN, EO, EP, EQ⟩ := bz5 Ad
           have IH := A1.out
           have II := A3.out
           have IJ := AQ.out
           have IK := AT.out
           obtain ⟨ER, ES, ET, EU, EV, EW⟩ := bz3 Ab
           have IL := AU.out
           have IM := AR.out
           obtain ⟨EX, EY, EZ, E0, E1, E2, E3, E4, E5, E6, E7, E8⟩ := bz6 Ac
           go_wp2_with (first | ((with_reducible refine gate_callee (f := 39) rfl ?_); refine gl 52 Tryz.func39 #[.agg #[.int .i64 AF, .int .i64 AG, .int .i64 AH], .agg #[.int .i64 ((rd_T46 l2 Aa).f0.f0), .int .i64 ((rd_T46 l2 Aa).f0.f1), .int .i64 ((rd_T46 l2 Aa).f0.f2), .int .i64 ((rd_T46 l2 Aa).f0.f3), .int .i64 ((rd_T46 l2 Aa).f1.f0), .int .i64 ((rd_T46 l2 Aa).f1.f1)]] ?_; (with_reducible refine (impl_Lattice_mayReflect.calls _ _ _ _ _ _ _ _ _ _ _ _ Ha.out).mono ?_); rintro e Ka ⟨rfl, hb⟩; refine ⟨_, rfl, ?_⟩; replace Ab := asd (blk_below (g := AD) (o := .cells #[.int .i64 AF, .int .i64 AG, .int .i64 AH] 30 (0, 0)) (bq1 Ab Ax) hb); replace Ae := asd (blk_below (g := AJ) (o := .cells #[.int .i64 0, .int .i64 0, .int .i64 0, .int .i64 0, .bool false] 27 (0, 0)) (bq1 Ae Ay) hb); replace Ad := asd (blk_below (g := AN) (o := .cells #[.int .i64 AZ, .int .i64 (wrap64 (Al + 1)), .int .i64 Ao, .int .i64 Ap, .bool AC] 27 (0, 0)) (bq0 Ad) hb); replace Ac := asd (blk_below (g := Az) (o := .cells #[.int .i64 ((rd_T46 l2 Aa).f0.f0), .int .i64 ((rd_T46 l2 Aa).f0.f1), .int .i64 ((rd_T46 l2 Aa).f0.f2), .int .i64 ((rd_T46 l2 Aa).f0.f3), .int .i64 ((rd_T46 l2 Aa).f1.f0), .int .i64 ((rd_T46 l2 Aa).f1.f1)] 46 (0, 0)) (bq1 Ac AA) hb); replace HB := bS4 HB Ag Ah Aj Ak hb; (try clear hb); obtain ⟨E9, Fa, Fb, Fc, Fd, Fe⟩ := bz3 Ab; obtain ⟨Ff, Fg, Fh, Fi, Fj, Fk, Fl, Fm, Fn, Fo, Fp, Fq⟩ := bz6 Ac) | ((with_reducible refine gate_callee (f := 40) rfl ?_); refine gl 60 Tryz.func40 #[.agg #[.int .i64 AF, .int .i64 AG, .int .i64 AH], .agg #[.int .i64 ((rd_T46 l2 Aa).f0.f0), .int .i64 ((rd_T46 l2 Aa).f0.f1), .int .i64 ((rd_T46 l2 Aa).f0.f2), .int .i64 ((rd_T46 l2 Aa).f0.f3)]] ?_; (with_reducible refine (impl_Lattice_isCentred.calls _ _ _ _ _ _ _ _ _ _ DK.out).mono ?_); rintro e Kb ⟨rfl, hb⟩; refine ⟨_, rfl, ?_⟩; replace Ab := bB Ab hb; replace Ae := bB Ae hb; replace Ad := bB Ad hb; replace Ac := bB Ac hb; replace HB := bS4 HB Ag Ah Aj Ak hb; (try clear hb)))
           go_roundg Cd
           case measure => have := Bl.out; have := Bi.out; omega
           case rel => exact ⟨(wrap64 (Aa + 1)), (wrap64 (Al + 1)), (Ao), (Ap), (AC), (by first | rfl | (simp; done) | (simp [*]; done)), H', ⟨by have := Bl.out; have := Bi.out; omega⟩, ⟨bkp Ab⟩, ⟨bkp Ae⟩, ⟨bkp Ad⟩, ⟨bbw4 HB Ag Ah Aj Ak⟩⟩
     ·rw [if_neg FO] at H
      exact absurd H (by simp)
    ·rw [if_neg FN] at H
     exact absurd H (by simp)
   ·rw [if_neg Cr] at H
    have Ct := decide_eq_false Cr
    clear Cr
    simp only [Option.some.injEq, Prod.mk.injEq] at H
    obtain ⟨rfl, rfl, rfl, rfl, rfl⟩ := H
    have IN := AO.out
    have IO := Ax.out
    have IP := AP.out
    have IQ := Ay.out
    obtain ⟨Fr, Fs, Ft, Fu, Fv, Fw, Fx, Fy, Fz, FA⟩ := bz5 Ad
    have IR := A3.out
    have IS := A1.out
    obtain ⟨FB, FC, FD, FE, FF, FG, FH, FI, FJ, FM⟩ := bz5 Ae
    go_wp2
    refine bodyPost_ret (results_cell_row rfl _ _ AJ 27 #[.int .i64 AZ, .int .i64 Al, .int .i64 Ao, .int .i64 Ap, .bool AE] (0, 0) _ rfl (bq0 Ae) Tryz.underlying27 rfl (by kernel_rfl)) rfl ?_
    exact er (bbw3 HB Ag Ah Aj)
end Go.Proofs.YtfmjboloeabjmaaGreat.PA
