import Derived.Test.YtfmjboloeabjmaaGreatPAx0
import Derived.Test.YtfmjboloeabjmaaGreatPAx4
import Derived.Test.YtfmjboloeabjmaaGreatPAx5
import Derived.Test.YtfmjboloeabjmaaGreatPAx6
import Derived.Test.YtfmjboloeabjmaaGreatPAx7
namespace Go.Proofs.YtfmjboloeabjmaaGreat.PA
open Go.RowKit Go.Proofs.YtfmjboloeabjmaaGreatW.PrintWords Go.Proofs.YtfmjboloeabjmaaGreatW.PrintLast Go.Proofs.YtfmjboloeabjmaaGreatW.PrintMore
attribute [local go_sem] max2_int min2_int max_two min_two max_three min_three max_four min_four   -- for this text's walks alone
set_option linter.unusedVariables false
set_option maxHeartbeats 8000000
set_option maxRecDepth 100000
set_option linter.unusedSimpArgs false
attribute [local go_sem high] eqA46
mutual
def spec_IsGroup.j0 : Nat → Int → List (S46) → Bool → Int → Int → Int → Option (Bool)
 | 0, _, _, _, _, _, _ => none
 | k + 1, x0, x2, Dm, Av, Aw, Ax => if Dm = true then (some false) else (spec_IsGroup.l0 k x0 x2 0 Av Aw Ax)
def spec_IsGroup.l0 : Nat → Int → List (S46) → Int → Int → Int → Int → Option (Bool)
 | 0, _, _, _, _, _, _ => none
 | k + 1, x0, x2, x7, Av, Aw, Ax => if x7 < (x2.length : Int) then (if 0 ≤ x7 then ((spec_IsSuitable.f k x0 Av Aw Ax ((rd_T46 x2 x7).f0.f0) ((rd_T46 x2 x7).f0.f1) ((rd_T46 x2 x7).f0.f2) ((rd_T46 x2 x7).f0.f3) ((rd_T46 x2 x7).f1.f0) ((rd_T46 x2 x7).f1.f1)).bind fun Ci => (if Ci = true then ((spec_l06Reduce.f Av Aw Ax ((rd_T46 x2 x7).f0.f0) ((rd_T46 x2 x7).f0.f1) ((rd_T46 x2 x7).f0.f2) ((rd_T46 x2 x7).f0.f3) ((rd_T46 x2 x7).f1.f0) ((rd_T46 x2 x7).f1.f1)).bind fun Bn => (if ((!(Bn.1 == ((rd_T46 x2 x7).f0.f0)) || (!(Bn.2.1 == ((rd_T46 x2 x7).f0.f1)) || (!(Bn.2.2.1 == ((rd_T46 x2 x7).f0.f2)) || (!(Bn.2.2.2.1 == ((rd_T46 x2 x7).f0.f3)))))) || ((!(Bn.2.2.2.2.1 == ((rd_T46 x2 x7).f1.f0)) || (!(Bn.2.2.2.2.2 == ((rd_T46 x2 x7).f1.f1)))))) = true then (some false) else (if x7 > 0 then (if 0 ≤ (wrap64 (x7 - 1)) then (if (wrap64 (x7 - 1)) < (x2.length : Int) then ((spec_l05Less.f k ((rd_T46 x2 (wrap64 (x7 - 1))).f0.f0) ((rd_T46 x2 (wrap64 (x7 - 1))).f0.f1) ((rd_T46 x2 (wrap64 (x7 - 1))).f0.f2) ((rd_T46 x2 (wrap64 (x7 - 1))).f0.f3) ((rd_T46 x2 (wrap64 (x7 - 1))).f1.f0) ((rd_T46 x2 (wrap64 (x7 - 1))).f1.f1) ((rd_T46 x2 x7).f0.f0) ((rd_T46 x2 x7).f0.f1) ((rd_T46 x2 x7).f0.f2) ((rd_T46 x2 x7).f0.f3) ((rd_T46 x2 x7).f1.f0) ((rd_T46 x2 x7).f1.f1)).bind fun BZ => (if BZ = true then (spec_IsGroup.l0 k x0 x2 (wrap64 (x7 + 1)) Av Aw Ax) else (some false))) else (none)) else (none)) else (spec_IsGroup.l0 k x0 x2 (wrap64 (x7 + 1)) Av Aw Ax)))) else (some false))) else (none)) else ((spec_l06Unit.f).bind fun Bo => ((spec_l06Has.f k x2 Bo.1 Bo.2.1 Bo.2.2.1 Bo.2.2.2.1 Bo.2.2.2.2.1 Bo.2.2.2.2.2).bind fun Cj => (if Cj = true then (spec_IsGroup.l1 k x2 0 Av Aw Ax) else (some false))))
def spec_IsGroup.l1 : Nat → List (S46) → Int → Int → Int → Int → Option (Bool)
 | 0, _, _, _, _, _ => none
 | k + 1, x2, x8, Av, Aw, Ax => if x8 < (x2.length : Int) then (spec_IsGroup.l2 k x2 x8 0 Av Aw Ax) else (some true)
def spec_IsGroup.l2 : Nat → List (S46) → Int → Int → Int → Int → Int → Option (Bool)
 | 0, _, _, _, _, _, _ => none
 | k + 1, x2, x8, x9, Av, Aw, Ax => if x9 < (x2.length : Int) then (if 0 ≤ x8 then (if x8 < (x2.length : Int) then (if 0 ≤ x9 then ((spec_l05Compose.f ((rd_T46 x2 x8).f0.f0) ((rd_T46 x2 x8).f0.f1) ((rd_T46 x2 x8).f0.f2) ((rd_T46 x2 x8).f0.f3) ((rd_T46 x2 x8).f1.f0) ((rd_T46 x2 x8).f1.f1) ((rd_T46 x2 x9).f0.f0) ((rd_T46 x2 x9).f0.f1) ((rd_T46 x2 x9).f0.f2) ((rd_T46 x2 x9).f0.f3) ((rd_T46 x2 x9).f1.f0) ((rd_T46 x2 x9).f1.f1)).bind fun Bp => ((spec_l06Reduce.f Av Aw Ax Bp.1 Bp.2.1 Bp.2.2.1 Bp.2.2.2.1 Bp.2.2.2.2.1 Bp.2.2.2.2.2).bind fun Bq => ((spec_l06Has.f k x2 Bq.1 Bq.2.1 Bq.2.2.1 Bq.2.2.2.1 Bq.2.2.2.2.1 Bq.2.2.2.2.2).bind fun Ck => (if Ck = true then (spec_IsGroup.l2 k x2 x8 (wrap64 (x9 + 1)) Av Aw Ax) else (some false))))) else (none)) else (none)) else (none)) else (spec_IsGroup.l1 k x2 (wrap64 (x8 + 1)) Av Aw Ax)
end
def spec_IsGroup.f (k : Nat) (a0 : Int) (Ay : Int) (Az : Int) (AA : Int) (l2 : List (S46)) : Option (Bool) := (spec_l04Code.f a0 Ay Az AA).bind fun Br => (if Br = 0 then (spec_IsGroup.j0 k a0 l2 (decide ((l2.length : Int) > 768)) Ay Az AA) else (spec_IsGroup.j0 k a0 l2 true Ay Az AA))
def spec_IsGroup.T6 : Bool × List (List Nat × List Nat) := (true, [([], []), ([], []), ([], []), ([], []), ([2, 3], [2, 3]), ([4], [4]), ([0, 1, 5], [0, 1, 5]), ([6], [6]), ([7, 6], [7]), ([8], [8]), ([8], [8]), ([8], [8]), ([10, 11, 8], [8, 10, 11]), ([12, 8], [8, 12]), ([9, 13, 8, 8], [8, 9, 13]), ([8], [8]), ([8], [8]), ([15, 16, 8], [8, 15, 16]), ([17, 8], [8, 17]), ([14, 18, 8], [8, 14, 18]), ([8, 19], [8, 19]), ([20, 14], [20]), ([21], [21]), ([22, 21], [21, 22]), ([23, 21, 21], [21, 23]), ([24], [24]), ([24], [24]), ([26, 24], [24, 26]), ([25, 27, 24], [24, 25, 27]), ([28, 24], [24, 28]), ([24], [24]), ([24], [24]), ([30, 31, 24], [24, 30, 31]), ([32, 24], [24, 32]), ([29, 33, 24, 24], [24, 29, 33]), ([34, 24], [24, 34]), ([24, 35, 21], [21, 24, 35]), ([21, 36], [21, 36])])
def spec_IsGroup.B6 : List Nat := [0, 0, 0, 0, 12, 28, 63, 127, 255, 511, 511, 511, 3583, 7679, 16383, 511, 511, 98815, 229887, 524287, 1048575, 2097151, 4194303, 8388607, 16777215, 33554431, 33554431, 100663295, 268435455, 536870911, 33554431, 33554431, 3254779903, 7549747199, 17179869183, 34359738367, 68719476735, 137438953471]
theorem spec_IsGroup.tab6 : rtab .any (opsOf Tryz.f19 6) = spec_IsGroup.T6 := by kernel_rfl
theorem spec_IsGroup.bits6 : waitsOk spec_IsGroup.T6.2 spec_IsGroup.B6 = true := by kernel_rfl
def spec_IsGroup.T16 : Bool × List (List Nat × List Nat) := (true, [([], []), ([], []), ([], []), ([], []), ([2, 3], [2, 3]), ([4], [4]), ([], []), ([], []), ([6, 7], [6, 7]), ([8], [8]), ([5, 9], [5, 9]), ([1, 10, 10], [1, 10]), ([0, 11, 11], [0, 11]), ([12], [12])])
def spec_IsGroup.B16 : List Nat := [0, 0, 0, 0, 12, 28, 0, 0, 192, 448, 1020, 2046, 4095, 8191]
theorem spec_IsGroup.tab16 : rtab .any (opsOf Tryz.f19 16) = spec_IsGroup.T16 := by kernel_rfl
theorem spec_IsGroup.bits16 : waitsOk spec_IsGroup.T16.2 spec_IsGroup.B16 = true := by kernel_rfl
theorem spec_IsGroup.calls (k : Nat) (a0 : Int) (Ay : Int) (Az : Int) (AA : Int) (A2 : Option Addr) (c2 : Nat) (l2 : List (S46)) (r : Bool) (w : World) (hr2 : Kd.C k46 w A2 l2.length l2) (hc2 : l2.length ≤ c2) (h : spec_IsGroup.f k a0 Ay Az AA l2 = some r) :
  Calls Tryz.prog 19 #[.int .i64 a0, .agg #[.int .i64 Ay, .int .i64 Az, .int .i64 AA], .slice A2 l2.length c2] w fun e w' => e = .returned (.bool r) ∧ Below w.heap.size w w' := by
 have hu30 := Tryz.underlying30
 have hu46 := Tryz.underlying46
 have HR2 := Aside0.mk hr2
 have CX := Aside0.mk hc2
 clear hr2 hc2
 have HB := asd (Below.refl w.heap.size w)
 have H : ((spec_l04Code.f a0 Ay Az AA).bind fun Br => (if Br = 0 then (spec_IsGroup.j0 k a0 l2 (decide ((l2.length : Int) > 768)) Ay Az AA) else (spec_IsGroup.j0 k a0 l2 true Ay Az AA))) = some r := h
 clear h
 have C7 := Aside0.mk H
 clear H
 go_enter Tryz.func19, Tryz.ntmps19
 go_upto_region 1 with (first | ((with_reducible refine gd 4 rfl ?_); (try (refine gate_guard (by rfl) ?_; dsimp only)); refine bx #[.int .i64 Ay, .int .i64 Az, .int .i64 AA] 30 ?_; intro BR hg w5 Aa hb; have Ac := ngw0 hg HB; replace HB := bS0 HB hb; clear hb hg))
 (try simp only [Act.put, sA, sB, sC])
 go_cut [18] (fun v18 wc => ∃ (kq : Nat) (BS : Bool), v18 = .bool BS ∧ Aside0 (spec_IsGroup.j0 kq a0 l2 BS Ay Az AA = some r) ∧ Aside0 (kq ≤ k) ∧ Aside0 (wc.heap[BR]? = some (.cells #[.int .i64 Ay, .int .i64 Az, .int .i64 AA] 30 (0, 0))) ∧ Aside0 (Below w.heap.size w wc))
 case first =>
  have H := C7.out
  clear C7
  obtain ⟨Br, A6, H⟩ := ob H
  try dsimp only at H
  by_cases c7 : Br = 0
  ·rw [if_pos c7] at H
   have BQ : (Br == 0) = true := beq_iff_eq.mpr c7
   have Cl : (Br != 0) = false := bne_eq_false_iff_eq.mpr c7
   clear c7
   (first | rw [BQ] | (simp only [i64_w, i32_w]; rw [BQ]) | skip)
   have H' := Aside0.mk H
   clear H
   obtain ⟨B0, B3, B8, Ca, Cb, Cc⟩ := bz3 Aa
   go_wp2_with (first | ((with_reducible refine gate_callee (f := 43) rfl ?_); refine gl 12 Tryz.func43 #[.int .i64 a0, .agg #[.int .i64 Ay, .int .i64 Az, .int .i64 AA]] ?_; (with_reducible refine (spec_l04Code.calls _ _ _ _ _ _ A6.out).mono ?_); rintro e w9 ⟨rfl, hb⟩; refine ⟨_, rfl, ?_⟩; replace Aa := bB Aa hb; replace HB := bS1 HB Ac hb; (try clear hb)))
   go_meet
   case rel => exact ⟨_, (decide ((l2.length : Int) > 768)), (by first | rfl | (simp; done) | (simp [*]; done)), H', ⟨by first | omega | exact Nat.le_refl _⟩, ⟨bkp Aa⟩, ⟨bbw1 HB Ac⟩⟩
  ·rw [if_neg c7] at H
   have BQ : (Br == 0) = false := beq_eq_false_iff_ne.mpr c7
   have Cl : (Br != 0) = true := bne_iff_ne.mpr c7
   (first | rw [BQ] | (simp only [i64_w, i32_w]; rw [BQ]) | skip)
   have H' := Aside0.mk H
   clear H
   obtain ⟨BT, BU, BV, BW, BX, BY⟩ := bz3 Aa
   go_wp2_with (first | ((with_reducible refine gate_callee (f := 43) rfl ?_); refine gl 12 Tryz.func43 #[.int .i64 a0, .agg #[.int .i64 Ay, .int .i64 Az, .int .i64 AA]] ?_; (with_reducible refine (spec_l04Code.calls _ _ _ _ _ _ A6.out).mono ?_); rintro e Dn ⟨rfl, hb⟩; refine ⟨_, rfl, ?_⟩; replace Aa := bB Aa hb; replace HB := bS1 HB Ac hb; (try clear hb)))
   go_meet
   case rel => exact ⟨_, (true), (by first | rfl | (simp; done) | (simp [*]; done)), H', ⟨by first | omega | exact Nat.le_refl _⟩, ⟨bkp Aa⟩, ⟨bbw1 HB Ac⟩⟩
 case rest =>
  clear C7
  try clear c2
  try clear c7
  try clear BQ
  try clear Cl
  try clear BT
  try clear BU
  try clear BV
  try clear B0
  try clear B3
  try clear B8
  try clear BW
  try clear BX
  try clear BY
  try clear Ca
  try clear Cb
  try clear Cc
  obtain ⟨kq, BS, rfl, HA, Ce, Aa, HB⟩ := hcut
  cases kq with
  | zero => exact absurd HA.out (by simp [spec_IsGroup.j0])
  | succ C9 =>
   have H := HA.out
   clear HA
   simp only [spec_IsGroup.j0] at H
   by_cases Cu : BS = true
   ·subst Cu
    replace H := ifT H
    obtain rfl := Option.some.inj H
    go_wp2
    go_ret
    exact er (bbw1 HB Ac)
   ·replace Cu := Bool.eq_false_iff.mpr Cu
    subst Cu
    replace H := ifF H
    have H' := Aside0.mk H
    clear H
    go_wp2
    go_loopg [7] C9 (fun kq v7 w' => ∃ (Ab : Int), v7 = .int .i64 Ab ∧ Aside0 (spec_IsGroup.l0 kq a0 l2 Ab Ay Az AA = some r) ∧ Aside0 (kq ≤ C9) ∧ Aside0 (w'.heap[BR]? = some (.cells #[.int .i64 Ay, .int .i64 Az, .int .i64 AA] 30 (0, 0))) ∧ Aside0 (Below w.heap.size w w'))
    case atStart => exact ⟨(0), (by first | rfl | (simp; done) | (simp [*]; done)), H', ⟨Nat.le_refl _⟩, ⟨bkp Aa⟩, ⟨bbw1 HB Ac⟩⟩
    case round =>
     clear H'
     try clear c2
     try clear c7
     try clear BQ
     try clear Cl
     try clear Cu
     try clear BT
     try clear BU
     try clear BV
     try clear B0
     try clear B3
     try clear B8
     try clear BW
     try clear BX
     try clear BY
     try clear Ca
     try clear Cb
     try clear Cc
     obtain ⟨Ab, rfl, HA, Cf, Aa, HB⟩ := hrel
     cases gk with
     | zero => exact absurd HA.out (by simp [spec_IsGroup.l0])
     | succ k2 =>
      have H := HA.out
      clear HA
      simp only [spec_IsGroup.l0] at H
      by_cases Cg : Ab < (l2.length : Int)
      ·rw [if_pos Cg] at H
       have Cd := decide_eq_true Cg
       clear Cg
       by_cases Cn : 0 ≤ Ab
       ·rw [if_pos Cn] at H
        have Da := decide_eq_true Cn
        clear Cn
        obtain ⟨Ci, Co, H⟩ := ob H
        try dsimp only at H
        by_cases Cp : Ci = true
        ·subst Cp
         replace H := ifT H
         obtain ⟨⟨Cv, Cw, Cx, Cy, Cz, CA⟩, CB, H⟩ := ob H
         try dsimp only at H
         by_cases Cq : ((!(Cv == ((rd_T46 l2 Ab).f0.f0)) || (!(Cw == ((rd_T46 l2 Ab).f0.f1)) || (!(Cx == ((rd_T46 l2 Ab).f0.f2)) || (!(Cy == ((rd_T46 l2 Ab).f0.f3)))))) || ((!(Cz == ((rd_T46 l2 Ab).f1.f0)) || (!(CA == ((rd_T46 l2 Ab).f1.f1)))))) = true
         ·rw [if_pos Cq] at H
          have CC := Cq
          clear Cq
          obtain rfl := Option.some.inj H
          try go_wp2
          replace Aa := asd (blk_drew Aa.out)
          replace HB := asd (below_drew1 HB.out)
          obtain ⟨p245, q245, ad245, e245, Ad, Ae, Af, Ag, Ah, Ai, AB, AC, AD, AE, AF, AG⟩ := at_T46w HR2.out HB Ab
          cases e245
          obtain ⟨p247, q247, ad247, e247, Aj, Ak, Al, Am, An, Ao, AI, AJ, AK, AL, AM, AN⟩ := at_T46w HR2.out HB Ab
          obtain rfl : ad245 = ad247 := (by injection e247)
          obtain ⟨p254, q254, ad254, e254, Ap, Aq, Ar, As, At, Au, AO, AP, AQ, AR, AS, AT⟩ := at_T46w HR2.out HB Ab
          obtain rfl : ad245 = ad254 := (by injection e254)
          refine sh 38 (cb3 Aa (cx6 HB Ad Ae Af Ag Ah Ai (cx6 HB Aj Ak Al Am An Ao (ex6 HB Ap Aq Ar As At Au)))) (fun hHeld => ?_); refine with_tabW spec_IsGroup.tab6 spec_IsGroup.bits6 (fun HT_ HW_ => ?_)
          generalize wr.drew = Do at Aa HB AB AC AD AE AF AG AI AJ AK AL AM AN AO AP AQ AR AS AT hHeld ⊢
          refine pu 0 (some 25) (bT 38 1) HT_ ?_
          refine pu 2 (some 27) (bs 38 5) HT_ ?_
          refine pu 3 (some 28) (bs 38 13) HT_ ?_
          refine pu 4 (some 29) (bs 38 29) HT_ ?_
          refine ta 1 (some 26) (bT 38 5) HT_ HW_ hHeld ?_
          refine ta 5 (some 30) (bT 38 6) HT_ HW_ hHeld ?_
          refine ro 6 (some 31) (bT 38 7) HT_ (fun K hK => ?_)
          refine gs Tryz.func44 #[.int .i64 a0, .agg #[.int .i64 Ay, .int .i64 Az, .int .i64 AA], .agg #[.int .i64 ((rd_T46 l2 Ab).f0.f0), .int .i64 ((rd_T46 l2 Ab).f0.f1), .int .i64 ((rd_T46 l2 Ab).f0.f2), .int .i64 ((rd_T46 l2 Ab).f0.f3), .int .i64 ((rd_T46 l2 Ab).f1.f0), .int .i64 ((rd_T46 l2 Ab).f1.f1)]] ?_
          with_reducible refine (spec_IsSuitable.calls _ _ _ _ _ _ _ _ _ _ _ _ _ Co.out).mono ?_
          rintro e Dp ⟨rfl, hb⟩
          refine ⟨_, rfl, ?_⟩
          replace Aa := bB Aa hb
          replace HB := bS1 HB Ac hb
          (try clear hb)
          (try clear hb2)
          (try clear hk)
          (try clear hi)
          refine hK.out _ _ (cb3 Aa (cx6 HB Ad Ae Af Ag Ah Ai (cx6 HB Aj Ak Al Am An Ao (ex6 HB Ap Aq Ar As At Au)))).out (fun hHeld => ?_)
          clear hK K
          refine norm_ (a' := ?_) ?_ ?_
          rotate_left
          ·show Act.put _ (some 31) _ = _
           simp only [Act.put, sA, sB, sC, i64_w, i32_w]
           rfl
          refine pu 7 (some 32) (bT 38 8) HT_ ?_
          refine pu 8 (some 33) (bT 38 9) HT_ ?_
          refine pu 10 (some 35) (bs 38 1535) HT_ ?_
          refine pu 11 (some 36) (bs 38 3583) HT_ ?_
          refine pu 12 (some 37) (bs 38 7679) HT_ ?_
          refine pu 15 (some 40) (bs 38 40447) HT_ ?_
          refine pu 16 (some 41) (bs 38 105983) HT_ ?_
          refine pu 17 (some 42) (bs 38 237055) HT_ ?_
          refine ta 9 (some 34) (bs 38 237567) HT_ HW_ hHeld ?_
          refine ta 13 (some 38) (bs 38 245759) HT_ HW_ hHeld ?_
          refine ta 18 (some 43) (bs 38 507903) HT_ HW_ hHeld ?_
          refine ro 14 (some 39) (bT 38 19) HT_ (fun K hK => ?_)
          refine gs Tryz.func45 #[.agg #[.int .i64 Ay, .int .i64 Az, .int .i64 AA], .agg #[.int .i64 ((rd_T46 l2 Ab).f0.f0), .int .i64 ((rd_T46 l2 Ab).f0.f1), .int .i64 ((rd_T46 l2 Ab).f0.f2), .int .i64 ((rd_T46 l2 Ab).f0.f3), .int .i64 ((rd_T46 l2 Ab).f1.f0), .int .i64 ((rd_T46 l2 Ab).f1.f1)]] ?_
          with_reducible refine (spec_l06Reduce.calls _ _ _ _ _ _ _ _ _ _ _ _ _ _ _ _ CB.out).mono ?_
          rintro e Dq ⟨rfl, hb⟩
          refine ⟨_, rfl, ?_⟩
          replace Aa := bB Aa hb
          replace HB := bS1 HB Ac hb
          (try clear hb)
          (try clear hb2)
          (try clear hk)
          (try clear hi)
          refine hK.out _ _ (cb3 Aa (cx6 HB Ad Ae Af Ag Ah Ai (cx6 HB Aj Ak Al Am An Ao (ex6 HB Ap Aq Ar As At Au)))).out (fun hHeld => ?_)
          clear hK K
          refine norm_ (a' := ?_) ?_ ?_
          rotate_left
          ·show Act.put _ (some 39) _ = _
           simp only [Act.put, sA, sB, sC, i64_w, i32_w]
           rfl
          refine pu 19 (some 44) (bT 38 20) HT_ ?_
          refine pu 20 (some 45) (bT 38 21) HT_ ?_
          refine pu 21 (some 46) (bT 38 22) HT_ ?_
          refine pf 22 (some 47) (bT 38 23) HT_ ?_
          refine pf 23 (some 48) (bT 38 24) HT_ ?_
          refine pf 24 (some 49) (bT 38 25) HT_ ?_
          refine pf 25 (some 50) (bT 38 26) HT_ ?_
          refine pf 26 (some 51) (bT 38 27) HT_ ?_
          refine pf 27 (some 52) (bT 38 28) HT_ ?_
          refine pf 28 (some 53) (bT 38 29) HT_ ?_
          refine pf 29 (some 54) (bT 38 30) HT_ ?_
          refine pf 30 (some 55) (bT 38 31) HT_ ?_
          refine pf 31 (some 56) (bT 38 32) HT_ ?_
          refine pf 32 (some 57) (bT 38 33) HT_ ?_
          refine pf 33 (some 58) (bT 38 34) HT_ ?_
          refine pf 34 (some 59) (bT 38 35) HT_ ?_
          refine pf 35 (some 60) (bT 38 36) HT_ ?_
          refine pf 36 (some 61) (bT 38 37) HT_ ?_
          refine pu 37 (some 62) (bT 38 38) HT_ ?_
          refine done_ (done_of HT_.out (by kernel_rfl)) ?_
          try go_wp2
          go_ret
          exact er (bbw1 HB Ac)
         ·rw [if_neg Cq] at H
          have CC : ((!(Cv == ((rd_T46 l2 Ab).f0.f0)) || (!(Cw == ((rd_T46 l2 Ab).f0.f1)) || (!(Cx == ((rd_T46 l2 Ab).f0.f2)) || (!(Cy == ((rd_T46 l2 Ab).f0.f3)))))) || ((!(Cz == ((rd_T46 l2 Ab).f1.f0)) || (!(CA == ((rd_T46 l2 Ab).f1.f1)))))) = false := by simpa using Cq
          clear Cq
          by_cases Cr : Ab > 0
          ·rw [if_pos Cr] at H
           have CD : decide (0 < Ab) = true := decide_eq_true Cr
           clear Cr
           obtain ⟨AH, Bm⟩ : ∃ j_ : Int, (wrap64 (Ab - 1)) = j_ := ⟨_, rfl⟩
           replace H : (if 0 ≤ (AH) then (if (AH) < (l2.length : Int) then ((spec_l05Less.f k2 ((rd_T46 l2 (AH)).f0.f0) ((rd_T46 l2 (AH)).f0.f1) ((rd_T46 l2 (AH)).f0.f2) ((rd_T46 l2 (AH)).f0.f3) ((rd_T46 l2 (AH)).f1.f0) ((rd_T46 l2 (AH)).f1.f1) ((rd_T46 l2 Ab).f0.f0) ((rd_T46 l2 Ab).f0.f1) ((rd_T46 l2 Ab).f0.f2) ((rd_T46 l2 Ab).f0.f3) ((rd_T46 l2 Ab).f1.f0) ((rd_T46 l2 Ab).f1.f1)).bind fun BZ => (if BZ = true then (spec_IsGroup.l0 k2 a0 l2 (wrap64 (Ab + 1)) Ay Az AA) else (some false))) else (none)) else (none)) = some r := by first | (rw [Bm] at H; first | done | exact H) | (simp only [Bm] at H ⊢; exact H)
           (try rw [Bm] at Co)
           (try rw [Bm] at CB)
           have C8 : (IntKind.i64.wrap (Ab - 1)) = AH := (i64_w _).trans Bm
           by_cases CY : 0 ≤ (AH)
           ·rw [if_pos CY] at H
            have Db := decide_eq_true CY
            clear CY
            by_cases CZ : (AH) < (l2.length : Int)
            ·rw [if_pos CZ] at H
             have Dc := decide_eq_true CZ
             clear CZ
             obtain ⟨BZ, Dd, H⟩ := ob H
             try dsimp only at H
             by_cases C0 : BZ = true
             ·subst C0
              replace H := ifT H
              have H' := Aside0.mk H
              clear H
              try go_wp2
              replace Aa := asd (blk_drew Aa.out)
              replace HB := asd (below_drew1 HB.out)
              obtain ⟨p245, q245, ad245, e245, Ad, Ae, Af, Ag, Ah, Ai, AB, AC, AD, AE, AF, AG⟩ := at_T46w HR2.out HB Ab
              cases e245
              obtain ⟨p247, q247, ad247, e247, Aj, Ak, Al, Am, An, Ao, AI, AJ, AK, AL, AM, AN⟩ := at_T46w HR2.out HB Ab
              obtain rfl : ad245 = ad247 := (by injection e247)
              obtain ⟨p254, q254, ad254, e254, Ap, Aq, Ar, As, At, Au, AO, AP, AQ, AR, AS, AT⟩ := at_T46w HR2.out HB Ab
              obtain rfl : ad245 = ad254 := (by injection e254)
              obtain ⟨p255, q255, ad255, e255, AU, AV, AW, AX, AY, AZ, Bs, Bt, Bu, Bv, Bw, Bx⟩ := at_T46w HR2.out HB (AH)
              obtain rfl : ad245 = ad255 := (by injection e255)
              obtain ⟨p256, q256, ad256, e256, A0, A1, A3, A4, A5, A7, By, Bz, BA, BB, BC, BD⟩ := at_T46w HR2.out HB Ab
              obtain rfl : ad245 = ad256 := (by injection e256)
              refine sh 38 (cb3 Aa (cx6 HB Ad Ae Af Ag Ah Ai (cx6 HB Aj Ak Al Am An Ao (cx6 HB Ap Aq Ar As At Au (cx6 HB AU AV AW AX AY AZ (ex6 HB A0 A1 A3 A4 A5 A7)))))) (fun hHeld => ?_); refine with_tabW spec_IsGroup.tab6 spec_IsGroup.bits6 (fun HT_ HW_ => ?_)
              generalize wr.drew = Dr at Aa HB AB AC AD AE AF AG AI AJ AK AL AM AN AO AP AQ AR AS AT Bs Bt Bu Bv Bw Bx By Bz BA BB BC BD hHeld ⊢
              refine pu 0 (some 25) (bT 38 1) HT_ ?_
              refine pu 2 (some 27) (bs 38 5) HT_ ?_
              refine pu 3 (some 28) (bs 38 13) HT_ ?_
              refine pu 4 (some 29) (bs 38 29) HT_ ?_
              refine ta 1 (some 26) (bT 38 5) HT_ HW_ hHeld ?_
              refine ta 5 (some 30) (bT 38 6) HT_ HW_ hHeld ?_
              refine ro 6 (some 31) (bT 38 7) HT_ (fun K hK => ?_)
              refine gs Tryz.func44 #[.int .i64 a0, .agg #[.int .i64 Ay, .int .i64 Az, .int .i64 AA], .agg #[.int .i64 ((rd_T46 l2 Ab).f0.f0), .int .i64 ((rd_T46 l2 Ab).f0.f1), .int .i64 ((rd_T46 l2 Ab).f0.f2), .int .i64 ((rd_T46 l2 Ab).f0.f3), .int .i64 ((rd_T46 l2 Ab).f1.f0), .int .i64 ((rd_T46 l2 Ab).f1.f1)]] ?_
              with_reducible refine (spec_IsSuitable.calls _ _ _ _ _ _ _ _ _ _ _ _ _ Co.out).mono ?_
              rintro e Ds ⟨rfl, hb⟩
              refine ⟨_, rfl, ?_⟩
              replace Aa := bB Aa hb
              replace HB := bS1 HB Ac hb
              (try clear hb)
              (try clear hb2)
              (try clear hk)
              (try clear hi)
              refine hK.out _ _ (cb3 Aa (cx6 HB Ad Ae Af Ag Ah Ai (cx6 HB Aj Ak Al Am An Ao (cx6 HB Ap Aq Ar As At Au (cx6 HB AU AV AW AX AY AZ (ex6 HB A0 A1 A3 A4 A5 A7)))))).out (fun hHeld => ?_)
              clear hK K
              refine norm_ (a' := ?_) ?_ ?_
              rotate_left
              ·show Act.put _ (some 31) _ = _
               simp only [Act.put, sA, sB, sC, i64_w, i32_w]
               rfl
              refine pu 7 (some 32) (bT 38 8) HT_ ?_
              refine pu 8 (some 33) (bT 38 9) HT_ ?_
              refine pu 10 (some 35) (bs 38 1535) HT_ ?_
              refine pu 11 (some 36) (bs 38 3583) HT_ ?_
              refine pu 12 (some 37) (bs 38 7679) HT_ ?_
              refine pu 15 (some 40) (bs 38 40447) HT_ ?_
              refine pu 16 (some 41) (bs 38 105983) HT_ ?_
              refine pu 17 (some 42) (bs 38 237055) HT_ ?_
              refine ta 9 (some 34) (bs 38 237567) HT_ HW_ hHeld ?_
              refine ta 13 (some 38) (bs 38 245759) HT_ HW_ hHeld ?_
              refine ta 18 (some 43) (bs 38 507903) HT_ HW_ hHeld ?_
              refine ro 14 (some 39) (bT 38 19) HT_ (fun K hK => ?_)
              refine gs Tryz.func45 #[.agg #[.int .i64 Ay, .int .i64 Az, .int .i64 AA], .agg #[.int .i64 ((rd_T46 l2 Ab).f0.f0), .int .i64 ((rd_T46 l2 Ab).f0.f1), .int .i64 ((rd_T46 l2 Ab).f0.f2), .int .i64 ((rd_T46 l2 Ab).f0.f3), .int .i64 ((rd_T46 l2 Ab).f1.f0), .int .i64 ((rd_T46 l2 Ab).f1.f1)]] ?_
              with_reducible refine (spec_l06Reduce.calls _ _ _ _ _ _ _ _ _ _ _ _ _ _ _ _ CB.out).mono ?_
              rintro e Dt ⟨rfl, hb⟩
              refine ⟨_, rfl, ?_⟩
              replace Aa := bB Aa hb
              replace HB := bS1 HB Ac hb
              (try clear hb)
              (try clear hb2)
              (try clear hk)
              (try clear hi)
              refine hK.out _ _ (cb3 Aa (cx6 HB Ad Ae Af Ag Ah Ai (cx6 HB Aj Ak Al Am An Ao (cx6 HB Ap Aq Ar As At Au (cx6 HB AU AV AW AX AY AZ (ex6 HB A0 A1 A3 A4 A5 A7)))))).out (fun hHeld => ?_)
              clear hK K
              refine norm_ (a' := ?_) ?_ ?_
              rotate_left
              ·show Act.put _ (some 39) _ = _
               simp only [Act.put, sA, sB, sC, i64_w, i32_w]
               rfl
              refine pu 19 (some 44) (bT 38 20) HT_ ?_
              refine pu 20 (some 45) (bT 38 21) HT_ ?_
              refine pu 21 (some 46) (bT 38 22) HT_ ?_
              refine pu 22 (some 47) (bT 38 23) HT_ ?_
              refine pu 23 (some 48) (bT 38 24) HT_ ?_
              refine pu 24 (some 49) (bT 38 25) HT_ ?_
              refine pu 25 (some 50) (bT 38 26) HT_ ?_
              refine pu 26 (some 51) (bT 38 27) HT_ ?_
              refine pu 27 (some 52) (bT 38 28) HT_ ?_
              refine pu 28 (some 53) (bT 38 29) HT_ ?_
              refine pu 30 (some 55) (bs 38 1610612735) HT_ ?_
              refine pu 31 (some 56) (bs 38 3758096383) HT_ ?_
              refine pu 32 (some 57) (bs 38 8053063679) HT_ ?_
              refine ta 29 (some 54) (bT 38 33) HT_ HW_ hHeld ?_
              refine ta 33 (some 58) (bT 38 34) HT_ HW_ hHeld ?_
              refine ro 34 (some 59) (bT 38 35) HT_ (fun K hK => ?_)
              refine goes_ Tryz.func46 (by kernel_rfl) rfl #[.agg #[.int .i64 ((rd_T46 l2 (AH)).f0.f0), .int .i64 ((rd_T46 l2 (AH)).f0.f1), .int .i64 ((rd_T46 l2 (AH)).f0.f2), .int .i64 ((rd_T46 l2 (AH)).f0.f3), .int .i64 ((rd_T46 l2 (AH)).f1.f0), .int .i64 ((rd_T46 l2 (AH)).f1.f1)], .agg #[.int .i64 ((rd_T46 l2 Ab).f0.f0), .int .i64 ((rd_T46 l2 Ab).f0.f1), .int .i64 ((rd_T46 l2 Ab).f0.f2), .int .i64 ((rd_T46 l2 Ab).f0.f3), .int .i64 ((rd_T46 l2 Ab).f1.f0), .int .i64 ((rd_T46 l2 Ab).f1.f1)]] (by rfl) rfl rfl (by (try simp only [List.map_toArray, List.map_cons, List.map_nil]); first | done | (simp only [Bm]; rfl) | rfl | (simp only [List.length_drop, List.length_take]; rfl)) ?_
              with_reducible refine (spec_l05Less.calls _ _ _ _ _ _ _ _ _ _ _ _ _ _ _ Dd.out).mono ?_
              rintro e Du ⟨rfl, hb⟩
              refine ⟨_, rfl, ?_⟩
              replace Aa := bB Aa hb
              replace HB := bS1 HB Ac hb
              (try clear hb)
              (try clear hb2)
              (try clear hk)
              (try clear hi)
              refine hK.out _ _ (cb3 Aa (cx6 HB Ad Ae Af Ag Ah Ai (cx6 HB Aj Ak Al Am An Ao (cx6 HB Ap Aq Ar As At Au (cx6 HB AU AV AW AX AY AZ (ex6 HB A0 A1 A3 A4 A5 A7)))))).out (fun hHeld => ?_)
              clear hK K
              refine norm_ (a' := ?_) ?_ ?_
              rotate_left
              ·show Act.put _ (some 59) _ = _
               simp only [Act.put, sA, sB, sC, i64_w, i32_w]
               rfl
              refine pu 35 (some 60) (bT 38 36) HT_ ?_
              refine pu 36 (some 61) (bT 38 37) HT_ ?_
              refine pu 37 (some 62) (bT 38 38) HT_ ?_
              refine done_ (done_of HT_.out (by kernel_rfl)) ?_
              try go_wp2
              go_roundg k2
              case measure => have := Ce.out; have := Cf.out; omega
              case rel => exact ⟨(wrap64 (Ab + 1)), (by first | rfl | (simp; done) | (simp [*]; done)), H', ⟨by have := Ce.out; have := Cf.out; omega⟩, ⟨bkp Aa⟩, ⟨bbw1 HB Ac⟩⟩
             ·replace C0 := Bool.eq_false_iff.mpr C0
              subst C0
              replace H := ifF H
              obtain rfl := Option.some.inj H
              try go_wp2
              replace Aa := asd (blk_drew Aa.out)
              replace HB := asd (below_drew1 HB.out)
              obtain ⟨p245, q245, ad245, e245, Ad, Ae, Af, Ag, Ah, Ai, AB, AC, AD, AE, AF, AG⟩ := at_T46w HR2.out HB Ab
              cases e245
              obtain ⟨p247, q247, ad247, e247, Aj, Ak, Al, Am, An, Ao, AI, AJ, AK, AL, AM, AN⟩ := at_T46w HR2.out HB Ab
              obtain rfl : ad245 = ad247 := (by injection e247)
              obtain ⟨p254, q254, ad254, e254, Ap, Aq, Ar, As, At, Au, AO, AP, AQ, AR, AS, AT⟩ := at_T46w HR2.out HB Ab
              obtain rfl : ad245 = ad254 := (by injection e254)
              obtain ⟨p255, q255, ad255, e255, AU, AV, AW, AX, AY, AZ, Bs, Bt, Bu, Bv, Bw, Bx⟩ := at_T46w HR2.out HB (AH)
              obtain rfl : ad245 = ad255 := (by injection e255)
              obtain ⟨p256, q256, ad256, e256, A0, A1, A3, A4, A5, A7, By, Bz, BA, BB, BC, BD⟩ := at_T46w HR2.out HB Ab
              obtain rfl : ad245 = ad256 := (by injection e256)
              refine sh 38 (cb3 Aa (cx6 HB Ad Ae Af Ag Ah Ai (cx6 HB Aj Ak Al Am An Ao (cx6 HB Ap Aq Ar As At Au (cx6 HB AU AV AW AX AY AZ (ex6 HB A0 A1 A3 A4 A5 A7)))))) (fun hHeld => ?_); refine with_tabW spec_IsGroup.tab6 spec_IsGroup.bits6 (fun HT_ HW_ => ?_)
              generalize wr.drew = Dv at Aa HB AB AC AD AE AF AG AI AJ AK AL AM AN AO AP AQ AR AS AT Bs Bt Bu Bv Bw Bx By Bz BA BB BC BD hHeld ⊢
              refine pu 0 (some 25) (bT 38 1) HT_ ?_
              refine pu 2 (some 27) (bs 38 5) HT_ ?_
              refine pu 3 (some 28) (bs 38 13) HT_ ?_
              refine pu 4 (some 29) (bs 38 29) HT_ ?_
              refine ta 1 (some 26) (bT 38 5) HT_ HW_ hHeld ?_
              refine ta 5 (some 30) (bT 38 6) HT_ HW_ hHeld ?_
              refine ro 6 (some 31) (bT 38 7) HT_ (fun K hK => ?_)
              refine gs Tryz.func44 #[.int .i64 a0, .agg #[.int .i64 Ay, .int .i64 Az, .int .i64 AA], .agg #[.int .i64 ((rd_T46 l2 Ab).f0.f0), .int .i64 ((rd_T46 l2 Ab).f0.f1), .int .i64 ((rd_T46 l2 Ab).f0.f2), .int .i64 ((rd_T46 l2 Ab).f0.f3), .int .i64 ((rd_T46 l2 Ab).f1.f0), .int .i64 ((rd_T46 l2 Ab).f1.f1)]] ?_
              with_reducible refine (spec_IsSuitable.calls _ _ _ _ _ _ _ _ _ _ _ _ _ Co.out).mono ?_
              rintro e Dw ⟨rfl, hb⟩
              refine ⟨_, rfl, ?_⟩
              replace Aa := bB Aa hb
              replace HB := bS1 HB Ac hb
              (try clear hb)
              (try clear hb2)
              (try clear hk)
              (try clear hi)
              refine hK.out _ _ (cb3 Aa (cx6 HB Ad Ae Af Ag Ah Ai (cx6 HB Aj Ak Al Am An Ao (cx6 HB Ap Aq Ar As At Au (cx6 HB AU AV AW AX AY AZ (ex6 HB A0 A1 A3 A4 A5 A7)))))).out (fun hHeld => ?_)
              clear hK K
              refine norm_ (a' := ?_) ?_ ?_
              rotate_left
              ·show Act.put _ (some 31) _ = _
               simp only [Act.put, sA, sB, sC, i64_w, i32_w]
               rfl
              refine pu 7 (some 32) (bT 38 8) HT_ ?_
              refine pu 8 (some 33) (bT 38 9) HT_ ?_
              refine pu 10 (some 35) (bs 38 1535) HT_ ?_
              refine pu 11 (some 36) (bs 38 3583) HT_ ?_
              refine pu 12 (some 37) (bs 38 7679) HT_ ?_
              refine pu 15 (some 40) (bs 38 40447) HT_ ?_
              refine pu 16 (some 41) (bs 38 105983) HT_ ?_
              refine pu 17 (some 42) (bs 38 237055) HT_ ?_
              refine ta 9 (some 34) (bs 38 237567) HT_ HW_ hHeld ?_
              refine ta 13 (some 38) (bs 38 245759) HT_ HW_ hHeld ?_
              refine ta 18 (some 43) (bs 38 507903) HT_ HW_ hHeld ?_
              refine ro 14 (some 39) (bT 38 19) HT_ (fun K hK => ?_)
              refine gs Tryz.func45 #[.agg #[.int .i64 Ay, .int .i64 Az, .int .i64 AA], .agg #[.int .i64 ((rd_T46 l2 Ab).f0.f0), .int .i64 ((rd_T46 l2 Ab).f0.f1), .int .i64 ((rd_T46 l2 Ab).f0.f2), .int .i64 ((rd_T46 l2 Ab).f0.f3), .int .i64 ((rd_T46 l2 Ab).f1.f0), .int .i64 ((rd_T46 l2 Ab).f1.f1)]] ?_
              with_reducible refine (spec_l06Reduce.calls _ _ _ _ _ _ _ _ _ _ _ _ _ _ _ _ CB.out).mono ?_
              rintro e Dx ⟨rfl, hb⟩
              refine ⟨_, rfl, ?_⟩
              replace Aa := bB Aa hb
              replace HB := bS1 HB Ac hb
              (try clear hb)
              (try clear hb2)
              (try clear hk)
              (try clear hi)
              refine hK.out _ _ (cb3 Aa (cx6 HB Ad Ae Af Ag Ah Ai (cx6 HB Aj Ak Al Am An Ao (cx6 HB Ap Aq Ar As At Au (cx6 HB AU AV AW AX AY AZ (ex6 HB A0 A1 A3 A4 A5 A7)))))).out (fun hHeld => ?_)
              clear hK K
              refine norm_ (a' := ?_) ?_ ?_
              rotate_left
              ·show Act.put _ (some 39) _ = _
               simp only [Act.put, sA, sB, sC, i64_w, i32_w]
               rfl
              refine pu 19 (some 44) (bT 38 20) HT_ ?_
              refine pu 20 (some 45) (bT 38 21) HT_ ?_
              refine pu 21 (some 46) (bT 38 22) HT_ ?_
              refine pu 22 (some 47) (bT 38 23) HT_ ?_
              refine pu 23 (some 48) (bT 38 24) HT_ ?_
              refine pu 24 (some 49) (bT 38 25) HT_ ?_
              refine pu 25 (some 50) (bT 38 26) HT_ ?_
              refine pu 26 (some 51) (bT 38 27) HT_ ?_
              refine pu 27 (some 52) (bT 38 28) HT_ ?_
              refine pu 28 (some 53) (bT 38 29) HT_ ?_
              refine pu 30 (some 55) (bs 38 1610612735) HT_ ?_
              refine pu 31 (some 56) (bs 38 3758096383) HT_ ?_
              refine pu 32 (some 57) (bs 38 8053063679) HT_ ?_
              refine ta 29 (some 54) (bT 38 33) HT_ HW_ hHeld ?_
              refine ta 33 (some 58) (bT 38 34) HT_ HW_ hHeld ?_
              refine ro 34 (some 59) (bT 38 35) HT_ (fun K hK => ?_)
              refine goes_ Tryz.func46 (by kernel_rfl) rfl #[.agg #[.int .i64 ((rd_T46 l2 (AH)).f0.f0), .int .i64 ((rd_T46 l2 (AH)).f0.f1), .int .i64 ((rd_T46 l2 (AH)).f0.f2), .int .i64 ((rd_T46 l2 (AH)).f0.f3), .int .i64 ((rd_T46 l2 (AH)).f1.f0), .int .i64 ((rd_T46 l2 (AH)).f1.f1)], .agg #[.int .i64 ((rd_T46 l2 Ab).f0.f0), .int .i64 ((rd_T46 l2 Ab).f0.f1), .int .i64 ((rd_T46 l2 Ab).f0.f2), .int .i64 ((rd_T46 l2 Ab).f0.f3), .int .i64 ((rd_T46 l2 Ab).f1.f0), .int .i64 ((rd_T46 l2 Ab).f1.f1)]] (by rfl) rfl rfl (by (try simp only [List.map_toArray, List.map_cons, List.map_nil]); first | done | (simp only [Bm]; rfl) | rfl | (simp only [List.length_drop, List.length_take]; rfl)) ?_
              with_reducible refine (spec_l05Less.calls _ _ _ _ _ _ _ _ _ _ _ _ _ _ _ Dd.out).mono ?_
              rintro e Dy ⟨rfl, hb⟩
              refine ⟨_, rfl, ?_⟩
              replace Aa := bB Aa hb
              replace HB := bS1 HB Ac hb
              (try clear hb)
              (try clear hb2)
              (try clear hk)
              (try clear hi)
              refine hK.out _ _ (cb3 Aa (cx6 HB Ad Ae Af Ag Ah Ai (cx6 HB Aj Ak Al Am An Ao (cx6 HB Ap Aq Ar As At Au (cx6 HB AU AV AW AX AY AZ (ex6 HB A0 A1 A3 A4 A5 A7)))))).out (fun hHeld => ?_)
              clear hK K
              refine norm_ (a' := ?_) ?_ ?_
              rotate_left
              ·show Act.put _ (some 59) _ = _
               simp only [Act.put, sA, sB, sC, i64_w, i32_w]
               rfl
              refine pu 35 (some 60) (bT 38 36) HT_ ?_
              refine pu 36 (some 61) (bT 38 37) HT_ ?_
              refine pu 37 (some 62) (bT 38 38) HT_ ?_
              refine done_ (done_of HT_.out (by kernel_rfl)) ?_
              try go_wp2
              go_ret
              exact ⟨by first | rfl | (simp [errW_none, errW_some] <;> rfl) | (simp only [← Bm]; first | rfl | (simp [errW_none, errW_some] <;> rfl)) | (simp [*, errW_none, errW_some] <;> rfl), bbw1 HB Ac⟩
            ·rw [if_neg CZ] at H
             exact absurd H (by simp)
           ·rw [if_neg CY] at H
            exact absurd H (by simp)
          ·rw [if_neg Cr] at H
           have CD : decide (0 < Ab) = false := decide_eq_false Cr
           clear Cr
           have H' := Aside0.mk H
           clear H
           try go_wp2
           replace Aa := asd (blk_drew Aa.out)
           replace HB := asd (below_drew1 HB.out)
           obtain ⟨p245, q245, ad245, e245, Ad, Ae, Af, Ag, Ah, Ai, AB, AC, AD, AE, AF, AG⟩ := at_T46w HR2.out HB Ab
           cases e245
           obtain ⟨p247, q247, ad247, e247, Aj, Ak, Al, Am, An, Ao, AI, AJ, AK, AL, AM, AN⟩ := at_T46w HR2.out HB Ab
           obtain rfl : ad245 = ad247 := (by injection e247)
           obtain ⟨p254, q254, ad254, e254, Ap, Aq, Ar, As, At, Au, AO, AP, AQ, AR, AS, AT⟩ := at_T46w HR2.out HB Ab
           obtain rfl : ad245 = ad254 := (by injection e254)
           refine sh 38 (cb3 Aa (cx6 HB Ad Ae Af Ag Ah Ai (cx6 HB Aj Ak Al Am An Ao (ex6 HB Ap Aq Ar As At Au)))) (fun hHeld => ?_); refine with_tabW spec_IsGroup.tab6 spec_IsGroup.bits6 (fun HT_ HW_ => ?_)
           generalize wr.drew = Dz at Aa HB AB AC AD AE AF AG AI AJ AK AL AM AN AO AP AQ AR AS AT hHeld ⊢
           refine pu 0 (some 25) (bT 38 1) HT_ ?_
           refine pu 2 (some 27) (bs 38 5) HT_ ?_
           refine pu 3 (some 28) (bs 38 13) HT_ ?_
           refine pu 4 (some 29) (bs 38 29) HT_ ?_
           refine ta 1 (some 26) (bT 38 5) HT_ HW_ hHeld ?_
           refine ta 5 (some 30) (bT 38 6) HT_ HW_ hHeld ?_
           refine ro 6 (some 31) (bT 38 7) HT_ (fun K hK => ?_)
           refine gs Tryz.func44 #[.int .i64 a0, .agg #[.int .i64 Ay, .int .i64 Az, .int .i64 AA], .agg #[.int .i64 ((rd_T46 l2 Ab).f0.f0), .int .i64 ((rd_T46 l2 Ab).f0.f1), .int .i64 ((rd_T46 l2 Ab).f0.f2), .int .i64 ((rd_T46 l2 Ab).f0.f3), .int .i64 ((rd_T46 l2 Ab).f1.f0), .int .i64 ((rd_T46 l2 Ab).f1.f1)]] ?_
           with_reducible refine (spec_IsSuitable.calls _ _ _ _ _ _ _ _ _ _ _ _ _ Co.out).mono ?_
           rintro e DA ⟨rfl, hb⟩
           refine ⟨_, rfl, ?_⟩
           replace Aa := bB Aa hb
           replace HB := bS1 HB Ac hb
           (try clear hb)
           (try clear hb2)
           (try clear hk)
           (try clear hi)
           refine hK.out _ _ (cb3 Aa (cx6 HB Ad Ae Af Ag Ah Ai (cx6 HB Aj Ak Al Am An Ao (ex6 HB Ap Aq Ar As At Au)))).out (fun hHeld => ?_)
           clear hK K
           refine norm_ (a' := ?_) ?_ ?_
           rotate_left
           ·show Act.put _ (some 31) _ = _
            simp only [Act.put, sA, sB, sC, i64_w, i32_w]
            rfl
           refine pu 7 (some 32) (bT 38 8) HT_ ?_
           refine pu 8 (some 33) (bT 38 9) HT_ ?_
           refine pu 10 (some 35) (bs 38 1535) HT_ ?_
           refine pu 11 (some 36) (bs 38 3583) HT_ ?_
           refine pu 12 (some 37) (bs 38 7679) HT_ ?_
           refine pu 15 (some 40) (bs 38 40447) HT_ ?_
           refine pu 16 (some 41) (bs 38 105983) HT_ ?_
           refine pu 17 (some 42) (bs 38 237055) HT_ ?_
           refine ta 9 (some 34) (bs 38 237567) HT_ HW_ hHeld ?_
           refine ta 13 (some 38) (bs 38 245759) HT_ HW_ hHeld ?_
           refine ta 18 (some 43) (bs 38 507903) HT_ HW_ hHeld ?_
           refine ro 14 (some 39) (bT 38 19) HT_ (fun K hK => ?_)
           refine gs Tryz.func45 #[.agg #[.int .i64 Ay, .int .i64 Az, .int .i64 AA], .agg #[.int .i64 ((rd_T46 l2 Ab).f0.f0), .int .i64 ((rd_T46 l2 Ab).f0.f1), .int .i64 ((rd_T46 l2 Ab).f0.f2), .int .i64 ((rd_T46 l2 Ab).f0.f3), .int .i64 ((rd_T46 l2 Ab).f1.f0), .int .i64 ((rd_T46 l2 Ab).f1.f1)]] ?_
           with_reducible refine (spec_l06Reduce.calls _ _ _ _ _ _ _ _ _ _ _ _ _ _ _ _ CB.out).mono ?_
           rintro e DB ⟨rfl, hb⟩
           refine ⟨_, rfl, ?_⟩
           replace Aa := bB Aa hb
           replace HB := bS1 HB Ac hb
           (try clear hb)
           (try clear hb2)
           (try clear hk)
           (try clear hi)
           refine hK.out _ _ (cb3 Aa (cx6 HB Ad Ae Af Ag Ah Ai (cx6 HB Aj Ak Al Am An Ao (ex6 HB Ap Aq Ar As At Au)))).out (fun hHeld => ?_)
           clear hK K
           refine norm_ (a' := ?_) ?_ ?_
           rotate_left
           ·show Act.put _ (some 39) _ = _
            simp only [Act.put, sA, sB, sC, i64_w, i32_w]
            rfl
           refine pu 19 (some 44) (bT 38 20) HT_ ?_
           refine pu 20 (some 45) (bT 38 21) HT_ ?_
           refine pu 21 (some 46) (bT 38 22) HT_ ?_
           refine pu 22 (some 47) (bT 38 23) HT_ ?_
           refine pu 23 (some 48) (bT 38 24) HT_ ?_
           refine pu 24 (some 49) (bT 38 25) HT_ ?_
           refine pf 25 (some 50) (bT 38 26) HT_ ?_
           refine pf 26 (some 51) (bT 38 27) HT_ ?_
           refine pf 27 (some 52) (bT 38 28) HT_ ?_
           refine pf 28 (some 53) (bT 38 29) HT_ ?_
           refine pf 29 (some 54) (bT 38 30) HT_ ?_
           refine pf 30 (some 55) (bT 38 31) HT_ ?_
           refine pf 31 (some 56) (bT 38 32) HT_ ?_
           refine pf 32 (some 57) (bT 38 33) HT_ ?_
           refine pf 33 (some 58) (bT 38 34) HT_ ?_
           refine pf 34 (some 59) (bT 38 35) HT_ ?_
           refine pf 35 (some 60) (bT 38 36) HT_ ?_
           refine pu 36 (some 61) (bT 38 37) HT_ ?_
           refine pu 37 (some 62) (bT 38 38) HT_ ?_
           refine done_ (done_of HT_.out (by kernel_rfl)) ?_
           try go_wp2
           go_roundg k2
           case measure => have := Ce.out; have := Cf.out; omega
           case rel => exact ⟨(wrap64 (Ab + 1)), (by first | rfl | (simp; done) | (simp [*]; done)), H', ⟨by have := Ce.out; have := Cf.out; omega⟩, ⟨bkp Aa⟩, ⟨bbw1 HB Ac⟩⟩
        ·replace Cp := Bool.eq_false_iff.mpr Cp
         subst Cp
         replace H := ifF H
         obtain rfl := Option.some.inj H
         try go_wp2
         replace Aa := asd (blk_drew Aa.out)
         replace HB := asd (below_drew1 HB.out)
         obtain ⟨p245, q245, ad245, e245, Ad, Ae, Af, Ag, Ah, Ai, AB, AC, AD, AE, AF, AG⟩ := at_T46w HR2.out HB Ab
         cases e245
         refine sh 38 (cb3 Aa (ex6 HB Ad Ae Af Ag Ah Ai)) (fun hHeld => ?_); refine with_tabW spec_IsGroup.tab6 spec_IsGroup.bits6 (fun HT_ HW_ => ?_)
         generalize wr.drew = DC at Aa HB AB AC AD AE AF AG hHeld ⊢
         refine pu 0 (some 25) (bT 38 1) HT_ ?_
         refine pu 2 (some 27) (bs 38 5) HT_ ?_
         refine pu 3 (some 28) (bs 38 13) HT_ ?_
         refine pu 4 (some 29) (bs 38 29) HT_ ?_
         refine ta 1 (some 26) (bT 38 5) HT_ HW_ hHeld ?_
         refine ta 5 (some 30) (bT 38 6) HT_ HW_ hHeld ?_
         refine ro 6 (some 31) (bT 38 7) HT_ (fun K hK => ?_)
         refine gs Tryz.func44 #[.int .i64 a0, .agg #[.int .i64 Ay, .int .i64 Az, .int .i64 AA], .agg #[.int .i64 ((rd_T46 l2 Ab).f0.f0), .int .i64 ((rd_T46 l2 Ab).f0.f1), .int .i64 ((rd_T46 l2 Ab).f0.f2), .int .i64 ((rd_T46 l2 Ab).f0.f3), .int .i64 ((rd_T46 l2 Ab).f1.f0), .int .i64 ((rd_T46 l2 Ab).f1.f1)]] ?_
         with_reducible refine (spec_IsSuitable.calls _ _ _ _ _ _ _ _ _ _ _ _ _ Co.out).mono ?_
         rintro e DD ⟨rfl, hb⟩
         refine ⟨_, rfl, ?_⟩
         replace Aa := bB Aa hb
         replace HB := bS1 HB Ac hb
         (try clear hb)
         (try clear hb2)
         (try clear hk)
         (try clear hi)
         refine hK.out _ _ (cb3 Aa (ex6 HB Ad Ae Af Ag Ah Ai)).out (fun hHeld => ?_)
         clear hK K
         refine norm_ (a' := ?_) ?_ ?_
         rotate_left
         ·show Act.put _ (some 31) _ = _
          simp only [Act.put, sA, sB, sC, i64_w, i32_w]
          rfl
         refine pu 7 (some 32) (bT 38 8) HT_ ?_
         refine pu 8 (some 33) (bT 38 9) HT_ ?_
         refine pf 9 (some 34) (bT 38 10) HT_ ?_
         refine pf 10 (some 35) (bT 38 11) HT_ ?_
         refine pf 11 (some 36) (bT 38 12) HT_ ?_
         refine pf 12 (some 37) (bT 38 13) HT_ ?_
         refine pf 13 (some 38) (bT 38 14) HT_ ?_
         refine pf 14 (some 39) (bT 38 15) HT_ ?_
         refine pf 15 (some 40) (bT 38 16) HT_ ?_
         refine pf 16 (some 41) (bT 38 17) HT_ ?_
         refine pf 17 (some 42) (bT 38 18) HT_ ?_
         refine pf 18 (some 43) (bT 38 19) HT_ ?_
         refine pf 19 (some 44) (bT 38 20) HT_ ?_
         refine pu 20 (some 45) (bT 38 21) HT_ ?_
         refine pu 21 (some 46) (bT 38 22) HT_ ?_
         refine pf 22 (some 47) (bT 38 23) HT_ ?_
         refine pf 23 (some 48) (bT 38 24) HT_ ?_
         refine pf 24 (some 49) (bT 38 25) HT_ ?_
         refine pf 25 (some 50) (bT 38 26) HT_ ?_
         refine pf 26 (some 51) (bT 38 27) HT_ ?_
         refine pf 27 (some 52) (bT 38 28) HT_ ?_
         refine pf 28 (some 53) (bT 38 29) HT_ ?_
         refine pf 29 (some 54) (bT 38 30) HT_ ?_
         refine pf 30 (some 55) (bT 38 31) HT_ ?_
         refine pf 31 (some 56) (bT 38 32) HT_ ?_
         refine pf 32 (some 57) (bT 38 33) HT_ ?_
         refine pf 33 (some 58) (bT 38 34) HT_ ?_
         refine pf 34 (some 59) (bT 38 35) HT_ ?_
         refine pf 35 (some 60) (bT 38 36) HT_ ?_
         refine pf 36 (some 61) (bT 38 37) HT_ ?_
         refine pu 37 (some 62) (bT 38 38) HT_ ?_
         refine done_ (done_of HT_.out (by kernel_rfl)) ?_
         try go_wp2
         go_ret
         exact er (bbw1 HB Ac)
       ·rw [if_neg Cn] at H
        exact absurd H (by simp)
      ·rw [if_neg Cg] at H
       have Cd := decide_eq_false Cg
       clear Cg
       obtain ⟨⟨CE, CF, CG, CH, CI, CJ⟩, De, H⟩ := ob H
       try dsimp only at H
       obtain ⟨Cj, Df, H⟩ := ob H
       try dsimp only at H
       by_cases Cs : Cj = true
       ·subst Cs
        replace H := ifT H
        have H' := Aside0.mk H
        clear H
        go_wp2_with (first | ((with_reducible refine gate_callee (f := 48) rfl ?_); refine gl 64 Tryz.func48 #[] ?_; (with_reducible refine (spec_l06Unit.calls _ _ _ _ _ _ _ De.out).mono ?_); rintro e DE ⟨rfl, hb⟩; refine ⟨_, rfl, ?_⟩; replace Aa := bB Aa hb; replace HB := bS1 HB Ac hb; (try clear hb)) | ((with_reducible refine gate_callee (f := 47) rfl ?_); refine gl 65 Tryz.func47 #[.slice A2 l2.length c2, .agg #[.int .i64 CE, .int .i64 CF, .int .i64 CG, .int .i64 CH, .int .i64 CI, .int .i64 CJ]] ?_; (with_reducible refine (spec_l06Has.calls _ _ _ _ _ _ _ _ _ _ _ _ ?side1 ?side2 Df.out).mono ?_); (case side1 => exact ks (Kd.C_below HR2.out HB.out)); (case side2 => exact CX.out); rintro e DF ⟨rfl, hb⟩; refine ⟨_, rfl, ?_⟩; replace Aa := bB Aa hb; replace HB := bS1 HB Ac hb; (try clear hb)))
        go_loopg [8] k2 (fun kq v8 w' => ∃ (Bk : Int), v8 = .int .i64 Bk ∧ Aside0 (spec_IsGroup.l1 kq l2 Bk Ay Az AA = some r) ∧ Aside0 (kq ≤ k2) ∧ Aside0 (w'.heap[BR]? = some (.cells #[.int .i64 Ay, .int .i64 Az, .int .i64 AA] 30 (0, 0))) ∧ Aside0 (Below w.heap.size w w'))
        case atStart => exact ⟨(0), (by first | rfl | (simp; done) | (simp [*]; done)), H', ⟨Nat.le_refl _⟩, ⟨bkp Aa⟩, ⟨bbw1 HB Ac⟩⟩
        case round =>
         clear H'
         try clear c2
         try clear Cg
         try clear Cd
         try clear Cn
         try clear Cp
         try clear Cs
         try clear AB
         try clear AC
         try clear AD
         try clear AE
         try clear AF
         try clear AG
         try clear AI
         try clear AJ
         try clear AK
         try clear AL
         try clear AM
         try clear AN
         try clear AO
         try clear AP
         try clear AQ
         try clear AR
         try clear AS
         try clear AT
         try clear p245
         try clear p247
         try clear p254
         try clear q245
         try clear q247
         try clear q254
         obtain ⟨Bk, rfl, HA, C1, Aa, HB⟩ := hrel
         cases gk with
         | zero => exact absurd HA.out (by simp [spec_IsGroup.l1])
         | succ k3 =>
          have H := HA.out
          clear HA
          simp only [spec_IsGroup.l1] at H
          by_cases Cm : Bk < (l2.length : Int)
          ·rw [if_pos Cm] at H
           have Ch := decide_eq_true Cm
           clear Cm
           have H' := Aside0.mk H
           clear H
           go_wp2
           go_loopg [9] k3 (fun kq v9 w' => ∃ (Bl : Int), v9 = .int .i64 Bl ∧ Aside0 (spec_IsGroup.l2 kq l2 Bk Bl Ay Az AA = some r) ∧ Aside0 (kq ≤ k3) ∧ Aside0 (w'.heap[BR]? = some (.cells #[.int .i64 Ay, .int .i64 Az, .int .i64 AA] 30 (0, 0))) ∧ Aside0 (Below w.heap.size w w'))
           case atStart => exact ⟨(0), (by first | rfl | (simp; done) | (simp [*]; done)), H', ⟨Nat.le_refl _⟩, ⟨bkp Aa⟩, ⟨bbw1 HB Ac⟩⟩
           case round =>
            clear H'
            try clear c2
            try clear Cg
            try clear Cd
            try clear Cn
            try clear Cp
            try clear Cs
            try clear Cm
            try clear Ch
            try clear AB
            try clear AC
            try clear AD
            try clear AE
            try clear AF
            try clear AG
            try clear AI
            try clear AJ
            try clear AK
            try clear AL
            try clear AM
            try clear AN
            try clear AO
            try clear AP
            try clear AQ
            try clear AR
            try clear AS
            try clear AT
            try clear p245
            try clear p247
            try clear p254
            try clear q245
            try clear q247
            try clear q254
            obtain ⟨Bl, rfl, HA, C2, Aa, HB⟩ := hrel
            cases gk with
            | zero => exact absurd HA.out (by simp [spec_IsGroup.l2])
            | succ k4 =>
             have H := HA.out
             clear HA
             simp only [spec_IsGroup.l2] at H
             by_cases Ct : Bl < (l2.length : Int)
             ·rw [if_pos Ct] at H
              have CK := decide_eq_true Ct
              clear Ct
              by_cases C3 : 0 ≤ Bk
              ·rw [if_pos C3] at H
               have Dg := decide_eq_true C3
               clear C3
               by_cases C4 : Bk < (l2.length : Int)
               ·rw [if_pos C4] at H
                have Dh := decide_eq_true C4
                clear C4
                by_cases C5 : 0 ≤ Bl
                ·rw [if_pos C5] at H
                 have Di := decide_eq_true C5
                 clear C5
                 obtain ⟨⟨CL, CM, CN, CO, CP, CQ⟩, Dj, H⟩ := ob H
                 try dsimp only at H
                 obtain ⟨⟨CR, CS, CT, CU, CV, CW⟩, Dk, H⟩ := ob H
                 try dsimp only at H
                 obtain ⟨Ck, Dl, H⟩ := ob H
                 try dsimp only at H
                 by_cases C6 : Ck = true
                 ·subst C6
                  replace H := ifT H
                  have H' := Aside0.mk H
                  clear H
                  try go_wp2
                  replace Aa := asd (blk_drew Aa.out)
                  replace HB := asd (below_drew1 HB.out)
                  obtain ⟨p265, q265, ad265, e265, A8, A9, Ba, Bb, Bc, Bd, BE, BF, BG, BH, BI, BJ⟩ := at_T46w HR2.out HB Bk
                  cases e265
                  obtain ⟨p266, q266, ad266, e266, Be, Bf, Bg, Bh, Bi, Bj, BK, BL, BM, BN, BO, BP⟩ := at_T46w HR2.out HB Bl
                  obtain rfl : ad265 = ad266 := (by injection e266)
                  refine sh 14 (cb3 Aa (cx6 HB A8 A9 Ba Bb Bc Bd (ex6 HB Be Bf Bg Bh Bi Bj))) (fun hHeld => ?_); refine with_tabW spec_IsGroup.tab16 spec_IsGroup.bits16 (fun HT_ HW_ => ?_)
                  generalize wr.drew = DG at Aa HB BE BF BG BH BI BJ BK BL BM BN BO BP hHeld ⊢
                  refine pu 0 (some 79) (bT 14 1) HT_ ?_
                  refine pu 2 (some 81) (bs 14 5) HT_ ?_
                  refine pu 3 (some 82) (bs 14 13) HT_ ?_
                  refine pu 4 (some 83) (bs 14 29) HT_ ?_
                  refine pu 6 (some 85) (bs 14 93) HT_ ?_
                  refine pu 7 (some 86) (bs 14 221) HT_ ?_
                  refine pu 8 (some 87) (bs 14 477) HT_ ?_
                  refine ta 1 (some 80) (bs 14 479) HT_ HW_ hHeld ?_
                  refine ta 5 (some 84) (bT 14 9) HT_ HW_ hHeld ?_
                  refine ta 9 (some 88) (bT 14 10) HT_ HW_ hHeld ?_
                  refine ro 10 (some 89) (bT 14 11) HT_ (fun K hK => ?_)
                  refine gs Tryz.func49 #[.agg #[.int .i64 ((rd_T46 l2 Bk).f0.f0), .int .i64 ((rd_T46 l2 Bk).f0.f1), .int .i64 ((rd_T46 l2 Bk).f0.f2), .int .i64 ((rd_T46 l2 Bk).f0.f3), .int .i64 ((rd_T46 l2 Bk).f1.f0), .int .i64 ((rd_T46 l2 Bk).f1.f1)], .agg #[.int .i64 ((rd_T46 l2 Bl).f0.f0), .int .i64 ((rd_T46 l2 Bl).f0.f1), .int .i64 ((rd_T46 l2 Bl).f0.f2), .int .i64 ((rd_T46 l2 Bl).f0.f3), .int .i64 ((rd_T46 l2 Bl).f1.f0), .int .i64 ((rd_T46 l2 Bl).f1.f1)]] ?_
                  with_reducible refine (spec_l05Compose.calls _ _ _ _ _ _ _ _ _ _ _ _ _ _ _ _ _ _ _ Dj.out).mono ?_
                  rintro e DH ⟨rfl, hb⟩
                  refine ⟨_, rfl, ?_⟩
                  replace Aa := bB Aa hb
                  replace HB := bS1 HB Ac hb
                  (try clear hb)
                  (try clear hb2)
                  (try clear hk)
                  (try clear hi)
                  refine hK.out _ _ (cb3 Aa (cx6 HB A8 A9 Ba Bb Bc Bd (ex6 HB Be Bf Bg Bh Bi Bj))).out (fun hHeld => ?_)
                  clear hK K
                  refine norm_ (a' := ?_) ?_ ?_
                  rotate_left
                  ·show Act.put _ (some 89) _ = _
                   simp only [Act.put, sA, sB, sC, i64_w, i32_w]
                   rfl
                  refine ro 11 (some 90) (bT 14 12) HT_ (fun K hK => ?_)
                  refine gs Tryz.func45 #[.agg #[.int .i64 Ay, .int .i64 Az, .int .i64 AA], .agg #[.int .i64 CL, .int .i64 CM, .int .i64 CN, .int .i64 CO, .int .i64 CP, .int .i64 CQ]] ?_
                  with_reducible refine (spec_l06Reduce.calls _ _ _ _ _ _ _ _ _ _ _ _ _ _ _ _ Dk.out).mono ?_
                  rintro e DI ⟨rfl, hb⟩
                  refine ⟨_, rfl, ?_⟩
                  replace Aa := bB Aa hb
                  replace HB := bS1 HB Ac hb
                  (try clear hb)
                  (try clear hb2)
                  (try clear hk)
                  (try clear hi)
                  refine hK.out _ _ (cb3 Aa (cx6 HB A8 A9 Ba Bb Bc Bd (ex6 HB Be Bf Bg Bh Bi Bj))).out (fun hHeld => ?_)
                  clear hK K
                  refine norm_ (a' := ?_) ?_ ?_
                  rotate_left
                  ·show Act.put _ (some 90) _ = _
                   simp only [Act.put, sA, sB, sC, i64_w, i32_w]
                   rfl
                  refine ro 12 (some 91) (bT 14 13) HT_ (fun K hK => ?_)
                  refine gs Tryz.func47 #[.slice (some ad265) l2.length c2, .agg #[.int .i64 CR, .int .i64 CS, .int .i64 CT, .int .i64 CU, .int .i64 CV, .int .i64 CW]] ?_
                  with_reducible refine (spec_l06Has.calls _ _ _ _ _ _ _ _ _ _ _ _ ?side1 ?side2 Dl.out).mono ?_
                  (case side1 => exact ks (Kd.C_below HR2.out HB.out))
                  (case side2 => exact CX.out)
                  rintro e DJ ⟨rfl, hb⟩
                  refine ⟨_, rfl, ?_⟩
                  replace Aa := bB Aa hb
                  replace HB := bS1 HB Ac hb
                  (try clear hb)
                  (try clear hb2)
                  (try clear hk)
                  (try clear hi)
                  refine hK.out _ _ (cb3 Aa (cx6 HB A8 A9 Ba Bb Bc Bd (ex6 HB Be Bf Bg Bh Bi Bj))).out (fun hHeld => ?_)
                  clear hK K
                  refine norm_ (a' := ?_) ?_ ?_
                  rotate_left
                  ·show Act.put _ (some 91) _ = _
                   simp only [Act.put, sA, sB, sC, i64_w, i32_w]
                   rfl
                  refine pu 13 (some 92) (bT 14 14) HT_ ?_
                  refine done_ (done_of HT_.out (by kernel_rfl)) ?_
                  try go_wp2
                  go_roundg k4
                  case measure => have := Ce.out; have := Cf.out; have := C1.out; have := C2.out; omega
                  case rel => exact ⟨(wrap64 (Bl + 1)), (by first | rfl | (simp; done) | (simp [*]; done)), H', ⟨by have := Ce.out; have := Cf.out; have := C1.out; have := C2.out; omega⟩, ⟨bkp Aa⟩, ⟨bbw1 HB Ac⟩⟩
                 ·replace C6 := Bool.eq_false_iff.mpr C6
                  subst C6
                  replace H := ifF H
                  obtain rfl := Option.some.inj H
                  try go_wp2
                  replace Aa := asd (blk_drew Aa.out)
                  replace HB := asd (below_drew1 HB.out)
                  obtain ⟨p265, q265, ad265, e265, A8, A9, Ba, Bb, Bc, Bd, BE, BF, BG, BH, BI, BJ⟩ := at_T46w HR2.out HB Bk
                  cases e265
                  obtain ⟨p266, q266, ad266, e266, Be, Bf, Bg, Bh, Bi, Bj, BK, BL, BM, BN, BO, BP⟩ := at_T46w HR2.out HB Bl
                  obtain rfl : ad265 = ad266 := (by injection e266)
                  refine sh 14 (cb3 Aa (cx6 HB A8 A9 Ba Bb Bc Bd (ex6 HB Be Bf Bg Bh Bi Bj))) (fun hHeld => ?_); refine with_tabW spec_IsGroup.tab16 spec_IsGroup.bits16 (fun HT_ HW_ => ?_)
                  generalize wr.drew = DK at Aa HB BE BF BG BH BI BJ BK BL BM BN BO BP hHeld ⊢
                  refine pu 0 (some 79) (bT 14 1) HT_ ?_
                  refine pu 2 (some 81) (bs 14 5) HT_ ?_
                  refine pu 3 (some 82) (bs 14 13) HT_ ?_
                  refine pu 4 (some 83) (bs 14 29) HT_ ?_
                  refine pu 6 (some 85) (bs 14 93) HT_ ?_
                  refine pu 7 (some 86) (bs 14 221) HT_ ?_
                  refine pu 8 (some 87) (bs 14 477) HT_ ?_
                  refine ta 1 (some 80) (bs 14 479) HT_ HW_ hHeld ?_
                  refine ta 5 (some 84) (bT 14 9) HT_ HW_ hHeld ?_
                  refine ta 9 (some 88) (bT 14 10) HT_ HW_ hHeld ?_
                  refine ro 10 (some 89) (bT 14 11) HT_ (fun K hK => ?_)
                  refine gs Tryz.func49 #[.agg #[.int .i64 ((rd_T46 l2 Bk).f0.f0), .int .i64 ((rd_T46 l2 Bk).f0.f1), .int .i64 ((rd_T46 l2 Bk).f0.f2), .int .i64 ((rd_T46 l2 Bk).f0.f3), .int .i64 ((rd_T46 l2 Bk).f1.f0), .int .i64 ((rd_T46 l2 Bk).f1.f1)], .agg #[.int .i64 ((rd_T46 l2 Bl).f0.f0), .int .i64 ((rd_T46 l2 Bl).f0.f1), .int .i64 ((rd_T46 l2 Bl).f0.f2), .int .i64 ((rd_T46 l2 Bl).f0.f3), .int .i64 ((rd_T46 l2 Bl).f1.f0), .int .i64 ((rd_T46 l2 Bl).f1.f1)]] ?_
                  with_reducible refine (spec_l05Compose.calls _ _ _ _ _ _ _ _ _ _ _ _ _ _ _ _ _ _ _ Dj.out).mono ?_
                  rintro e DL ⟨rfl, hb⟩
                  refine ⟨_, rfl, ?_⟩
                  replace Aa := bB Aa hb
                  replace HB := bS1 HB Ac hb
                  (try clear hb)
                  (try clear hb2)
                  (try clear hk)
                  (try clear hi)
                  refine hK.out _ _ (cb3 Aa (cx6 HB A8 A9 Ba Bb Bc Bd (ex6 HB Be Bf Bg Bh Bi Bj))).out (fun hHeld => ?_)
                  clear hK K
                  refine norm_ (a' := ?_) ?_ ?_
                  rotate_left
                  ·show Act.put _ (some 89) _ = _
                   simp only [Act.put, sA, sB, sC, i64_w, i32_w]
                   rfl
                  refine ro 11 (some 90) (bT 14 12) HT_ (fun K hK => ?_)
                  refine gs Tryz.func45 #[.agg #[.int .i64 Ay, .int .i64 Az, .int .i64 AA], .agg #[.int .i64 CL, .int .i64 CM, .int .i64 CN, .int .i64 CO, .int .i64 CP, .int .i64 CQ]] ?_
                  with_reducible refine (spec_l06Reduce.calls _ _ _ _ _ _ _ _ _ _ _ _ _ _ _ _ Dk.out).mono ?_
                  rintro e DM ⟨rfl, hb⟩
                  refine ⟨_, rfl, ?_⟩
                  replace Aa := bB Aa hb
                  replace HB := bS1 HB Ac hb
                  (try clear hb)
                  (try clear hb2)
                  (try clear hk)
                  (try clear hi)
                  refine hK.out _ _ (cb3 Aa (cx6 HB A8 A9 Ba Bb Bc Bd (ex6 HB Be Bf Bg Bh Bi Bj))).out (fun hHeld => ?_)
                  clear hK K
                  refine norm_ (a' := ?_) ?_ ?_
                  rotate_left
                  ·show Act.put _ (some 90) _ = _
                   simp only [Act.put, sA, sB, sC, i64_w, i32_w]
                   rfl
                  refine ro 12 (some 91) (bT 14 13) HT_ (fun K hK => ?_)
                  refine gs Tryz.func47 #[.slice (some ad265) l2.length c2, .agg #[.int .i64 CR, .int .i64 CS, .int .i64 CT, .int .i64 CU, .int .i64 CV, .int .i64 CW]] ?_
                  with_reducible refine (spec_l06Has.calls _ _ _ _ _ _ _ _ _ _ _ _ ?side1 ?side2 Dl.out).mono ?_
                  (case side1 => exact ks (Kd.C_below HR2.out HB.out))
                  (case side2 => exact CX.out)
                  rintro e DN ⟨rfl, hb⟩
                  refine ⟨_, rfl, ?_⟩
                  replace Aa := bB Aa hb
                  replace HB := bS1 HB Ac hb
                  (try clear hb)
                  (try clear hb2)
                  (try clear hk)
                  (try clear hi)
                  refine hK.out _ _ (cb3 Aa (cx6 HB A8 A9 Ba Bb Bc Bd (ex6 HB Be Bf Bg Bh Bi Bj))).out (fun hHeld => ?_)
                  clear hK K
                  refine norm_ (a' := ?_) ?_ ?_
                  rotate_left
                  ·show Act.put _ (some 91) _ = _
                   simp only [Act.put, sA, sB, sC, i64_w, i32_w]
                   rfl
                  refine pu 13 (some 92) (bT 14 14) HT_ ?_
                  refine done_ (done_of HT_.out (by kernel_rfl)) ?_
                  try go_wp2
                  go_ret
                  exact er (bbw1 HB Ac)
                ·rw [if_neg C5] at H
                 exact absurd H (by simp)
               ·rw [if_neg C4] at H
                exact absurd H (by simp)
              ·rw [if_neg C3] at H
               exact absurd H (by simp)
             ·rw [if_neg Ct] at H
              have CK := decide_eq_false Ct
              clear Ct
              have H' := Aside0.mk H
              clear H
              go_wp2
              go_roundg k4
              case measure => have := Ce.out; have := Cf.out; have := C1.out; have := C2.out; omega
              case rel => exact ⟨(wrap64 (Bk + 1)), (by first | rfl | (simp; done) | (simp [*]; done)), H', ⟨by have := Ce.out; have := Cf.out; have := C1.out; have := C2.out; omega⟩, ⟨bkp Aa⟩, ⟨bbw1 HB Ac⟩⟩
          ·rw [if_neg Cm] at H
           have Ch := decide_eq_false Cm
           clear Cm
           obtain rfl := Option.some.inj H
           go_wp2
           go_ret
           exact er (bbw1 HB Ac)
       ·replace Cs := Bool.eq_false_iff.mpr Cs
        subst Cs
        replace H := ifF H
        obtain rfl := Option.some.inj H
        go_wp2_with (first | ((with_reducible refine gate_callee (f := 48) rfl ?_); refine gl 64 Tryz.func48 #[] ?_; (with_reducible refine (spec_l06Unit.calls _ _ _ _ _ _ _ De.out).mono ?_); rintro e DO ⟨rfl, hb⟩; refine ⟨_, rfl, ?_⟩; replace Aa := bB Aa hb; replace HB := bS1 HB Ac hb; (try clear hb)) | ((with_reducible refine gate_callee (f := 47) rfl ?_); refine gl 65 Tryz.func47 #[.slice A2 l2.length c2, .agg #[.int .i64 CE, .int .i64 CF, .int .i64 CG, .int .i64 CH, .int .i64 CI, .int .i64 CJ]] ?_; (with_reducible refine (spec_l06Has.calls _ _ _ _ _ _ _ _ _ _ _ _ ?side1 ?side2 Df.out).mono ?_); (case side1 => exact ks (Kd.C_below HR2.out HB.out)); (case side2 => exact CX.out); rintro e w64 ⟨rfl, hb⟩; refine ⟨_, rfl, ?_⟩; replace Aa := bB Aa hb; replace HB := bS1 HB Ac hb; (try clear hb)))
        go_ret
        exact er (bbw1 HB Ac)
end Go.Proofs.YtfmjboloeabjmaaGreat.PA
