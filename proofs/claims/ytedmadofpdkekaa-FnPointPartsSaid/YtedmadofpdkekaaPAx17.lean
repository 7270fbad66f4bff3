import Derived.Test.YtedmadofpdkekaaPAx0
import Derived.Test.YtedmadofpdkekaaPAx4
import Derived.Test.YtedmadofpdkekaaPAx5
import Derived.Test.YtedmadofpdkekaaPAx6
import Derived.Test.YtedmadofpdkekaaPAx8
import Derived.Test.YtedmadofpdkekaaPAx9
import Derived.Test.YtedmadofpdkekaaPAx16
namespace Go.Proofs.Ytedmadofpdkekaa.PA
open Go.RowKit Go.Proofs.YtedmadofpdkekaaW.PrintWords Go.Proofs.YtedmadofpdkekaaW.PrintLast Go.Proofs.YtedmadofpdkekaaW.PrintMore
attribute [local go_sem] max2_int min2_int max_two min_two max_three min_three max_four min_four   -- for this text's walks alone
set_option linter.unusedVariables false
set_option maxHeartbeats 8000000
set_option maxRecDepth 100000
set_option linter.unusedSimpArgs false
attribute [local go_sem high] eqA55
mutual
def spec_IsGroup.j0 : Nat → Int → List (S55) → Bool → Int → Int → Int → Option (Bool)
 | 0, _, _, _, _, _, _ => none
 | k + 1, x0, x2, Di, Av, Aw, Ax => if Di = true then (some false) else (spec_IsGroup.l0 k x0 x2 0 Av Aw Ax)
def spec_IsGroup.l0 : Nat → Int → List (S55) → Int → Int → Int → Int → Option (Bool)
 | 0, _, _, _, _, _, _ => none
 | k + 1, x0, x2, x7, Av, Aw, Ax => if x7 < (x2.length : Int) then (if 0 ≤ x7 then ((spec_IsSuitable.f k x0 Av Aw Ax ((qr x2 x7).f0.f0) ((qr x2 x7).f0.f1) ((qr x2 x7).f0.f2) ((qr x2 x7).f0.f3) ((qr x2 x7).f1.f0) ((qr x2 x7).f1.f1)).bind fun Ci => (if Ci = true then ((spec_l06Reduce.f Av Aw Ax ((qr x2 x7).f0.f0) ((qr x2 x7).f0.f1) ((qr x2 x7).f0.f2) ((qr x2 x7).f0.f3) ((qr x2 x7).f1.f0) ((qr x2 x7).f1.f1)).bind fun Bn => (if ((!(Bn.1 == ((qr x2 x7).f0.f0)) || (!(Bn.2.1 == ((qr x2 x7).f0.f1)) || (!(Bn.2.2.1 == ((qr x2 x7).f0.f2)) || (!(Bn.2.2.2.1 == ((qr x2 x7).f0.f3)))))) || ((!(Bn.2.2.2.2.1 == ((qr x2 x7).f1.f0)) || (!(Bn.2.2.2.2.2 == ((qr x2 x7).f1.f1)))))) = true then (some false) else (if x7 > 0 then (if 0 ≤ (wrap64 (x7 - 1)) then (if (wrap64 (x7 - 1)) < (x2.length : Int) then ((spec_l05Less.f k ((qr x2 (wrap64 (x7 - 1))).f0.f0) ((qr x2 (wrap64 (x7 - 1))).f0.f1) ((qr x2 (wrap64 (x7 - 1))).f0.f2) ((qr x2 (wrap64 (x7 - 1))).f0.f3) ((qr x2 (wrap64 (x7 - 1))).f1.f0) ((qr x2 (wrap64 (x7 - 1))).f1.f1) ((qr x2 x7).f0.f0) ((qr x2 x7).f0.f1) ((qr x2 x7).f0.f2) ((qr x2 x7).f0.f3) ((qr x2 x7).f1.f0) ((qr x2 x7).f1.f1)).bind fun BM => (if BM = true then (spec_IsGroup.l0 k x0 x2 (wrap64 (x7 + 1)) Av Aw Ax) else (some false))) else (none)) else (none)) else (spec_IsGroup.l0 k x0 x2 (wrap64 (x7 + 1)) Av Aw Ax)))) else (some false))) else (none)) else ((spec_l06Unit.f).bind fun Bo => ((spec_l06Has.f k x2 Bo.1 Bo.2.1 Bo.2.2.1 Bo.2.2.2.1 Bo.2.2.2.2.1 Bo.2.2.2.2.2).bind fun Cj => (if Cj = true then (spec_IsGroup.l1 k x2 0 Av Aw Ax) else (some false))))
def spec_IsGroup.l1 : Nat → List (S55) → Int → Int → Int → Int → Option (Bool)
 | 0, _, _, _, _, _ => none
 | k + 1, x2, x8, Av, Aw, Ax => if x8 < (x2.length : Int) then (spec_IsGroup.l2 k x2 x8 0 Av Aw Ax) else (some true)
def spec_IsGroup.l2 : Nat → List (S55) → Int → Int → Int → Int → Int → Option (Bool)
 | 0, _, _, _, _, _, _ => none
 | k + 1, x2, x8, x9, Av, Aw, Ax => if x9 < (x2.length : Int) then (if 0 ≤ x8 then (if x8 < (x2.length : Int) then (if 0 ≤ x9 then ((spec_l05Compose.f ((qr x2 x8).f0.f0) ((qr x2 x8).f0.f1) ((qr x2 x8).f0.f2) ((qr x2 x8).f0.f3) ((qr x2 x8).f1.f0) ((qr x2 x8).f1.f1) ((qr x2 x9).f0.f0) ((qr x2 x9).f0.f1) ((qr x2 x9).f0.f2) ((qr x2 x9).f0.f3) ((qr x2 x9).f1.f0) ((qr x2 x9).f1.f1)).bind fun Bp => ((spec_l06Reduce.f Av Aw Ax Bp.1 Bp.2.1 Bp.2.2.1 Bp.2.2.2.1 Bp.2.2.2.2.1 Bp.2.2.2.2.2).bind fun Bq => ((spec_l06Has.f k x2 Bq.1 Bq.2.1 Bq.2.2.1 Bq.2.2.2.1 Bq.2.2.2.2.1 Bq.2.2.2.2.2).bind fun Ck => (if Ck = true then (spec_IsGroup.l2 k x2 x8 (wrap64 (x9 + 1)) Av Aw Ax) else (some false))))) else (none)) else (none)) else (none)) else (spec_IsGroup.l1 k x2 (wrap64 (x8 + 1)) Av Aw Ax)
end
def spec_IsGroup.f (k : Nat) (a0 : Int) (AQ : Int) (AR : Int) (AS : Int) (l2 : List (S55)) : Option (Bool) := (spec_l04Code.f a0 AQ AR AS).bind fun Br => (if Br = 0 then (spec_IsGroup.j0 k a0 l2 (decide ((l2.length : Int) > 768)) AQ AR AS) else (spec_IsGroup.j0 k a0 l2 true AQ AR AS))
def spec_IsGroup.T6 : Bool × List (List Nat × List Nat) := (true, [([], []), ([], []), ([], []), ([], []), ([2, 3], [2, 3]), ([4], [4]), ([0, 1, 5], [0, 1, 5]), ([6], [6]), ([7, 6], [7]), ([8], [8]), ([8], [8]), ([8], [8]), ([10, 11, 8], [8, 10, 11]), ([12, 8], [8, 12]), ([9, 13, 8, 8], [8, 9, 13]), ([8], [8]), ([8], [8]), ([15, 16, 8], [8, 15, 16]), ([17, 8], [8, 17]), ([14, 18, 8], [8, 14, 18]), ([8, 19], [8, 19]), ([20, 14], [20]), ([21], [21]), ([22, 21], [21, 22]), ([23, 21, 21], [21, 23]), ([24], [24]), ([24], [24]), ([26, 24], [24, 26]), ([25, 27, 24], [24, 25, 27]), ([28, 24], [24, 28]), ([24], [24]), ([24], [24]), ([30, 31, 24], [24, 30, 31]), ([32, 24], [24, 32]), ([29, 33, 24, 24], [24, 29, 33]), ([34, 24], [24, 34]), ([24, 35, 21], [21, 24, 35]), ([21, 36], [21, 36])])
def spec_IsGroup.B6 : List Nat := [0, 0, 0, 0, 12, 28, 63, 127, 255, 511, 511, 511, 3583, 7679, 16383, 511, 511, 98815, 229887, 524287, 1048575, 2097151, 4194303, 8388607, 16777215, 33554431, 33554431, 100663295, 268435455, 536870911, 33554431, 33554431, 3254779903, 7549747199, 17179869183, 34359738367, 68719476735, 137438953471]
theorem spec_IsGroup.tab6 : rtab .any (opsOf Try.f19 6) = spec_IsGroup.T6 := by kernel_rfl
theorem spec_IsGroup.bits6 : waitsOk spec_IsGroup.T6.2 spec_IsGroup.B6 = true := by kernel_rfl
def spec_IsGroup.T16 : Bool × List (List Nat × List Nat) := (true, [([], []), ([], []), ([], []), ([], []), ([2, 3], [2, 3]), ([4], [4]), ([], []), ([], []), ([6, 7], [6, 7]), ([8], [8]), ([5, 9], [5, 9]), ([1, 10, 10], [1, 10]), ([0, 11, 11], [0, 11]), ([12], [12])])
def spec_IsGroup.B16 : List Nat := [0, 0, 0, 0, 12, 28, 0, 0, 192, 448, 1020, 2046, 4095, 8191]
theorem spec_IsGroup.tab16 : rtab .any (opsOf Try.f19 16) = spec_IsGroup.T16 := by kernel_rfl
theorem spec_IsGroup.bits16 : waitsOk spec_IsGroup.T16.2 spec_IsGroup.B16 = true := by kernel_rfl
theorem spec_IsGroup.calls (k : Nat) (a0 : Int) (AQ : Int) (AR : Int) (AS : Int) (A2 : Option Addr) (c2 : Nat) (l2 : List (S55)) (r : Bool) (w : World) (hr2 : Kd.C k55 w A2 l2.length l2) (hc2 : l2.length ≤ c2) (h : spec_IsGroup.f k a0 AQ AR AS l2 = some r) :
  Calls Try.prog 19 #[.int .i64 a0, .agg #[.int .i64 AQ, .int .i64 AR, .int .i64 AS], .slice A2 l2.length c2] w fun e w' => e = .returned (.bool r) ∧ Below w.heap.size w w' := by
 have hu25 := Try.underlying25
 have hu55 := Try.underlying55
 have HR2 := Aside0.mk hr2
 have CS := Aside0.mk hc2
 clear hr2 hc2
 have HB := asd (Below.refl w.heap.size w)
 have H : ((spec_l04Code.f a0 AQ AR AS).bind fun Br => (if Br = 0 then (spec_IsGroup.j0 k a0 l2 (decide ((l2.length : Int) > 768)) AQ AR AS) else (spec_IsGroup.j0 k a0 l2 true AQ AR AS))) = some r := h
 clear h
 have CT := Aside0.mk H
 clear H
 go_enter Try.func19, Try.ntmps19
 go_upto_region 1 with (first | ((with_reducible refine gd 4 rfl ?_); (try (refine gate_guard (by rfl) ?_; dsimp only)); refine bx #[.int .i64 AQ, .int .i64 AR, .int .i64 AS] 25 ?_; intro BE hg w5 Aa hb; have Au := ngw0 hg HB; replace HB := bS0 HB hb; clear hb hg))
 (try simp only [Act.put, sA, sB, sC])
 go_cut [18] (fun v18 wc => ∃ (kq : Nat) (BF : Bool), v18 = .bool BF ∧ Aside0 (spec_IsGroup.j0 kq a0 l2 BF AQ AR AS = some r) ∧ Aside0 (kq ≤ k) ∧ Aside0 (wc.heap[BE]? = some (.cells #[.int .i64 AQ, .int .i64 AR, .int .i64 AS] 25 (0, 0))) ∧ Aside0 (Below w.heap.size w wc))
 case first =>
  have H := CT.out;clear CT;obtain ⟨Br, A6, H⟩ := ob H;try dsimp only at H
  by_cases c7 : Br = 0
  rw [if_pos c7] at H;have BN : (Br == 0) = true := beq_iff_eq.mpr c7;have Cl : (Br != 0) = false := bne_eq_false_iff_eq.mpr c7;clear c7;rotate_left;rw [if_neg c7] at H;have BN : (Br == 0) = false := beq_eq_false_iff_ne.mpr c7;have Cl : (Br != 0) = true := bne_iff_ne.mpr c7;rotate_left;all_goals
   (first | rw [BN] | (simp only [i64_w, i32_w]; rw [BN]) | skip)
   have H' := Aside0.mk H;clear H
  obtain ⟨BO, BP, BQ, BR, BS, BT⟩ := bz3 Aa;rotate_left;obtain ⟨BG, BH, BI, BJ, BK, BL⟩ := bz3 Aa;rotate_left;all_goals
   focus go_wp2_with (first | ((with_reducible refine gate_callee (f := 28) rfl ?_); refine gl 12 Try.func28 #[.int .i64 a0, .agg #[.int .i64 AQ, .int .i64 AR, .int .i64 AS]] ?_; (with_reducible refine (spec_l04Code.calls _ _ _ _ _ _ A6.out).mono ?_); rintro e w9 ⟨rfl, hb⟩; refine ⟨_, rfl, ?_⟩; replace Aa := bB Aa hb; replace HB := bS1 HB Au hb; (try clear hb)))
   go_meet
  ·case rel => exact ⟨_, (decide ((l2.length : Int) > 768)), (by first | rfl | (simp; done) | (simp [*]; done)), H', ⟨by first | omega | exact Nat.le_refl _⟩, ⟨bkp Aa⟩, ⟨bbw1 HB Au⟩⟩
  ·case rel => exact ⟨_, (true), (by first | rfl | (simp; done) | (simp [*]; done)), H', ⟨by first | omega | exact Nat.le_refl _⟩, ⟨bkp Aa⟩, ⟨bbw1 HB Au⟩⟩
 case rest =>
  clear CT;try clear c2
  try clear c7
  try clear BN
  try clear Cl
  try clear BG
  try clear BH
  try clear BI
  try clear BO
  try clear BP
  try clear BQ
  try clear BJ
  try clear BK
  try clear BL
  try clear BR
  try clear BS
  try clear BT
  obtain ⟨kq, BF, rfl, HA, Ce, Aa, HB⟩ := hcut;cases kq with
  | zero => exact absurd HA.out (by simp [spec_IsGroup.j0])
  | succ C7 =>
   have H := HA.out;clear HA;simp only [spec_IsGroup.j0] at H;by_cases Ct : BF = true
   ·subst Ct;replace H := ifT H;obtain rfl := Option.some.inj H;focus go_wp2
    go_ret
    exact er (bbw1 HB Au)
   ·replace Ct := Bool.eq_false_iff.mpr Ct;subst Ct;replace H := ifF H;have H' := Aside0.mk H;clear H;focus go_wp2
    go_loopg [7] C7 (fun kq v7 w' => ∃ (Ab : Int), v7 = .int .i64 Ab ∧ Aside0 (spec_IsGroup.l0 kq a0 l2 Ab AQ AR AS = some r) ∧ Aside0 (kq ≤ C7) ∧ Aside0 (w'.heap[BE]? = some (.cells #[.int .i64 AQ, .int .i64 AR, .int .i64 AS] 25 (0, 0))) ∧ Aside0 (Below w.heap.size w w'))
    case atStart => exact ⟨(0), (by first | rfl | (simp; done) | (simp [*]; done)), H', ⟨Nat.le_refl _⟩, ⟨bkp Aa⟩, ⟨bbw1 HB Au⟩⟩
    case round =>
     clear H';(try clear c2);(try clear c7);(try clear BN);(try clear Cl);(try clear Ct);(try clear BG);(try clear BH);(try clear BI);(try clear BO);(try clear BP);(try clear BQ);(try clear BJ);(try clear BK);(try clear BL);(try clear BR);(try clear BS);(try clear BT);obtain ⟨Ab, rfl, HA, Cf, Aa, HB⟩ := hrel;cases gk with
     | zero => exact absurd HA.out (by simp [spec_IsGroup.l0])
     | succ k2 =>
      have H := HA.out;clear HA;simp only [spec_IsGroup.l0] at H;by_cases Cg : Ab < (l2.length : Int)
      rw [if_pos Cg] at H;have BU := qp Cg;clear Cg;by_cases Cn : 0 ≤ Ab
      rw [if_pos Cn] at H;have C8 := qp Cn;clear Cn;obtain ⟨Ci, C9, H⟩ := ob H;(try dsimp only at H);by_cases Co : Ci = true
      subst Co;replace H := ifT H;obtain ⟨⟨Cu, Cv, Cw, Cx, Cy, Cz⟩, Da, H⟩ := ob H;(try dsimp only at H);by_cases Cp : ((!(Cu == ((qr l2 Ab).f0.f0)) || (!(Cv == ((qr l2 Ab).f0.f1)) || (!(Cw == ((qr l2 Ab).f0.f2)) || (!(Cx == ((qr l2 Ab).f0.f3)))))) || ((!(Cy == ((qr l2 Ab).f1.f0)) || (!(Cz == ((qr l2 Ab).f1.f1)))))) = true
      rw [if_pos Cp] at H;have CA := Cp;clear Cp;obtain rfl := Option.some.inj H;rotate_left;rw [if_neg Cp] at H;have CA : ((!(Cu == ((qr l2 Ab).f0.f0)) || (!(Cv == ((qr l2 Ab).f0.f1)) || (!(Cw == ((qr l2 Ab).f0.f2)) || (!(Cx == ((qr l2 Ab).f0.f3)))))) || ((!(Cy == ((qr l2 Ab).f1.f0)) || (!(Cz == ((qr l2 Ab).f1.f1)))))) = false := by simpa using Cp
      clear Cp;by_cases Cq : Ab > 0
      rw [if_pos Cq] at H;have CB : decide (0 < Ab) = true := qp Cq;clear Cq;obtain ⟨A7, Bm⟩ : ∃ j_ : Int, (wrap64 (Ab - 1)) = j_ := ⟨_, rfl⟩;replace H : (if 0 ≤ (A7) then (if (A7) < (l2.length : Int) then ((spec_l05Less.f k2 ((qr l2 (A7)).f0.f0) ((qr l2 (A7)).f0.f1) ((qr l2 (A7)).f0.f2) ((qr l2 (A7)).f0.f3) ((qr l2 (A7)).f1.f0) ((qr l2 (A7)).f1.f1) ((qr l2 Ab).f0.f0) ((qr l2 Ab).f0.f1) ((qr l2 Ab).f0.f2) ((qr l2 Ab).f0.f3) ((qr l2 Ab).f1.f0) ((qr l2 Ab).f1.f1)).bind fun BM => (if BM = true then (spec_IsGroup.l0 k2 a0 l2 (wrap64 (Ab + 1)) AQ AR AS) else (some false))) else (none)) else (none)) = some r := by first | (rw [Bm] at H; first | done | exact H) | (simp only [Bm] at H ⊢; exact H)
      (try rw [Bm] at C9);(try rw [Bm] at Da);have CU : (IntKind.i64.wrap (Ab - 1)) = A7 := (i64_w _).trans Bm;by_cases CJ : 0 ≤ (A7)
      rw [if_pos CJ] at H;have Db := qp CJ;clear CJ;by_cases CK : (A7) < (l2.length : Int)
      rw [if_pos CK] at H;have Dc := qp CK;clear CK;obtain ⟨BM, Dj, H⟩ := ob H;(try dsimp only at H);by_cases CL : BM = true
      subst CL;replace H := ifT H;have H' := Aside0.mk H;clear H;rotate_left;replace CL := Bool.eq_false_iff.mpr CL;subst CL;replace H := ifF H;obtain rfl := Option.some.inj H;rotate_left
      ·rw [if_neg CK] at H;exact absurd H (by simp)
      ·rw [if_neg CJ] at H;exact absurd H (by simp)
      rw [if_neg Cq] at H;have CB : decide (0 < Ab) = false := qq Cq;clear Cq;have H' := Aside0.mk H;clear H;rotate_left;replace Co := Bool.eq_false_iff.mpr Co;subst Co;replace H := ifF H;obtain rfl := Option.some.inj H;rotate_left
      ·rw [if_neg Cn] at H;exact absurd H (by simp)
      rw [if_neg Cg] at H;have BU := qq Cg;clear Cg;obtain ⟨⟨CC, CD, CE, CF, CG, CH⟩, Dd, H⟩ := ob H;(try dsimp only at H);obtain ⟨Cj, De, H⟩ := ob H;(try dsimp only at H);by_cases Cr : Cj = true
      subst Cr;replace H := ifT H;have H' := Aside0.mk H;clear H;rotate_left;replace Cr := Bool.eq_false_iff.mpr Cr;subst Cr;replace H := ifF H;obtain rfl := Option.some.inj H;rotate_left;focus try go_wp2
      replace Aa := asd (blk_drew Aa.out);replace HB := asd (qm HB.out);obtain ⟨p661, q661, ad661, e661, Ac, Ad, Ae, Af, Ag, Ah, Ay, Az, AA, AB, AC, AD⟩ := at_T55w HR2.out HB Ab;cases e661
      obtain ⟨p663, q663, ad663, e663, Ai, Aj, Ak, Al, Am, An, AE, AF, AG, AH, AI, AJ⟩ := at_T55w HR2.out HB Ab;obtain rfl : ad661 = ad663 := (by injection e663);obtain ⟨p670, q670, ad670, e670, Ao, Ap, Aq, Ar, As, At, AK, AL, AM, AN, AO, AP⟩ := at_T55w HR2.out HB Ab;obtain rfl : ad661 = ad670 := (by injection e670);refine sh 38 (cb3 Aa (cx6 HB Ac Ad Ae Af Ag Ah (cx6 HB Ai Aj Ak Al Am An (ex6 HB Ao Ap Aq Ar As At)))) (fun hHeld => ?_); refine with_tabW spec_IsGroup.tab6 spec_IsGroup.bits6 (fun HT_ HW_ => ?_);generalize wr.drew = Dn at Aa HB Ay Az AA AB AC AD AE AF AG AH AI AJ AK AL AM AN AO AP hHeld ⊢;rotate_left;focus try go_wp2
      replace Aa := asd (blk_drew Aa.out);replace HB := asd (qm HB.out);obtain ⟨p661, q661, ad661, e661, Ac, Ad, Ae, Af, Ag, Ah, Ay, Az, AA, AB, AC, AD⟩ := at_T55w HR2.out HB Ab;cases e661
      obtain ⟨p663, q663, ad663, e663, Ai, Aj, Ak, Al, Am, An, AE, AF, AG, AH, AI, AJ⟩ := at_T55w HR2.out HB Ab;obtain rfl : ad661 = ad663 := (by injection e663);obtain ⟨p670, q670, ad670, e670, Ao, Ap, Aq, Ar, As, At, AK, AL, AM, AN, AO, AP⟩ := at_T55w HR2.out HB Ab;obtain rfl : ad661 = ad670 := (by injection e670);obtain ⟨p671, q671, ad671, e671, AT, AU, AV, AW, AX, AY, Bs, Bt, Bu, Bv, Bw, Bx⟩ := at_T55w HR2.out HB (A7);obtain rfl : ad661 = ad671 := (by injection e671);obtain ⟨p672, q672, ad672, e672, AZ, A0, A1, A3, A4, A5, By, Bz, BA, BB, BC, BD⟩ := at_T55w HR2.out HB Ab;obtain rfl : ad661 = ad672 := (by injection e672);refine sh 38 (cb3 Aa (cx6 HB Ac Ad Ae Af Ag Ah (cx6 HB Ai Aj Ak Al Am An (cx6 HB Ao Ap Aq Ar As At (cx6 HB AT AU AV AW AX AY (ex6 HB AZ A0 A1 A3 A4 A5)))))) (fun hHeld => ?_); refine with_tabW spec_IsGroup.tab6 spec_IsGroup.bits6 (fun HT_ HW_ => ?_);generalize wr.drew = Do at Aa HB Ay Az AA AB AC AD AE AF AG AH AI AJ AK AL AM AN AO AP Bs Bt Bu Bv Bw Bx By Bz BA BB BC BD hHeld ⊢;rotate_left;focus try go_wp2
      replace Aa := asd (blk_drew Aa.out);replace HB := asd (qm HB.out);obtain ⟨p661, q661, ad661, e661, Ac, Ad, Ae, Af, Ag, Ah, Ay, Az, AA, AB, AC, AD⟩ := at_T55w HR2.out HB Ab;cases e661
      obtain ⟨p663, q663, ad663, e663, Ai, Aj, Ak, Al, Am, An, AE, AF, AG, AH, AI, AJ⟩ := at_T55w HR2.out HB Ab;obtain rfl : ad661 = ad663 := (by injection e663);obtain ⟨p670, q670, ad670, e670, Ao, Ap, Aq, Ar, As, At, AK, AL, AM, AN, AO, AP⟩ := at_T55w HR2.out HB Ab;obtain rfl : ad661 = ad670 := (by injection e670);obtain ⟨p671, q671, ad671, e671, AT, AU, AV, AW, AX, AY, Bs, Bt, Bu, Bv, Bw, Bx⟩ := at_T55w HR2.out HB (A7);obtain rfl : ad661 = ad671 := (by injection e671);obtain ⟨p672, q672, ad672, e672, AZ, A0, A1, A3, A4, A5, By, Bz, BA, BB, BC, BD⟩ := at_T55w HR2.out HB Ab;obtain rfl : ad661 = ad672 := (by injection e672);refine sh 38 (cb3 Aa (cx6 HB Ac Ad Ae Af Ag Ah (cx6 HB Ai Aj Ak Al Am An (cx6 HB Ao Ap Aq Ar As At (cx6 HB AT AU AV AW AX AY (ex6 HB AZ A0 A1 A3 A4 A5)))))) (fun hHeld => ?_); refine with_tabW spec_IsGroup.tab6 spec_IsGroup.bits6 (fun HT_ HW_ => ?_);generalize wr.drew = Dp at Aa HB Ay Az AA AB AC AD AE AF AG AH AI AJ AK AL AM AN AO AP Bs Bt Bu Bv Bw Bx By Bz BA BB BC BD hHeld ⊢;rotate_left;focus try go_wp2
      replace Aa := asd (blk_drew Aa.out);replace HB := asd (qm HB.out);obtain ⟨p661, q661, ad661, e661, Ac, Ad, Ae, Af, Ag, Ah, Ay, Az, AA, AB, AC, AD⟩ := at_T55w HR2.out HB Ab;cases e661
      obtain ⟨p663, q663, ad663, e663, Ai, Aj, Ak, Al, Am, An, AE, AF, AG, AH, AI, AJ⟩ := at_T55w HR2.out HB Ab;obtain rfl : ad661 = ad663 := (by injection e663);obtain ⟨p670, q670, ad670, e670, Ao, Ap, Aq, Ar, As, At, AK, AL, AM, AN, AO, AP⟩ := at_T55w HR2.out HB Ab;obtain rfl : ad661 = ad670 := (by injection e670);refine sh 38 (cb3 Aa (cx6 HB Ac Ad Ae Af Ag Ah (cx6 HB Ai Aj Ak Al Am An (ex6 HB Ao Ap Aq Ar As At)))) (fun hHeld => ?_); refine with_tabW spec_IsGroup.tab6 spec_IsGroup.bits6 (fun HT_ HW_ => ?_);generalize wr.drew = Dq at Aa HB Ay Az AA AB AC AD AE AF AG AH AI AJ AK AL AM AN AO AP hHeld ⊢;rotate_left;focus try go_wp2
      replace Aa := asd (blk_drew Aa.out);replace HB := asd (qm HB.out);obtain ⟨p661, q661, ad661, e661, Ac, Ad, Ae, Af, Ag, Ah, Ay, Az, AA, AB, AC, AD⟩ := at_T55w HR2.out HB Ab;cases e661
      refine sh 38 (cb3 Aa (ex6 HB Ac Ad Ae Af Ag Ah)) (fun hHeld => ?_); refine with_tabW spec_IsGroup.tab6 spec_IsGroup.bits6 (fun HT_ HW_ => ?_);generalize wr.drew = Dr at Aa HB Ay Az AA AB AC AD hHeld ⊢;rotate_left
      ·focus go_wp2_with (first | ((with_reducible refine gate_callee (f := 38) rfl ?_); refine gl 64 Try.func38 #[] ?_; (with_reducible refine (spec_l06Unit.calls _ _ _ _ _ _ _ Dd.out).mono ?_); rintro e Ds ⟨rfl, hb⟩; refine ⟨_, rfl, ?_⟩; replace Aa := bB Aa hb; replace HB := bS1 HB Au hb; (try clear hb)) | ((with_reducible refine gate_callee (f := 37) rfl ?_); refine gl 65 Try.func37 #[.slice A2 l2.length c2, .agg #[.int .i64 CC, .int .i64 CD, .int .i64 CE, .int .i64 CF, .int .i64 CG, .int .i64 CH]] ?_; (with_reducible refine (spec_l06Has.calls _ _ _ _ _ _ _ _ _ _ _ _ ?side1 ?side2 De.out).mono ?_); (case side1 => exact ks (Kd.C_below HR2.out HB.out)); (case side2 => exact CS.out); rintro e Dt ⟨rfl, hb⟩; refine ⟨_, rfl, ?_⟩; replace Aa := bB Aa hb; replace HB := bS1 HB Au hb; (try clear hb)))
       go_loopg [8] k2 (fun kq v8 w' => ∃ (A8 : Int), v8 = .int .i64 A8 ∧ Aside0 (spec_IsGroup.l1 kq l2 A8 AQ AR AS = some r) ∧ Aside0 (kq ≤ k2) ∧ Aside0 (w'.heap[BE]? = some (.cells #[.int .i64 AQ, .int .i64 AR, .int .i64 AS] 25 (0, 0))) ∧ Aside0 (Below w.heap.size w w'))
       case atStart => exact ⟨(0), (by first | rfl | (simp; done) | (simp [*]; done)), H', ⟨Nat.le_refl _⟩, ⟨bkp Aa⟩, ⟨bbw1 HB Au⟩⟩
       case round =>
        clear H';(try clear c2);(try clear Cg);(try clear BU);(try clear Cn);(try clear Co);(try clear Cr);(try clear Ay);(try clear Az);(try clear AA);(try clear AB);(try clear AC);(try clear AD);(try clear AE);(try clear AF);(try clear AG);(try clear AH);(try clear AI);(try clear AJ);(try clear AK);(try clear AL);(try clear AM);(try clear AN);(try clear AO);(try clear AP);(try clear p661);(try clear p663);(try clear p670);(try clear q661);(try clear q663);(try clear q670);obtain ⟨A8, rfl, HA, CM, Aa, HB⟩ := hrel;cases gk with
        | zero => exact absurd HA.out (by simp [spec_IsGroup.l1])
        | succ k3 =>
         have H := HA.out;clear HA;simp only [spec_IsGroup.l1] at H;by_cases Cm : A8 < (l2.length : Int)
         ·rw [if_pos Cm] at H;have Ch := qp Cm;clear Cm;have H' := Aside0.mk H;clear H;focus go_wp2
          go_loopg [9] k3 (fun kq v9 w' => ∃ (A9 : Int), v9 = .int .i64 A9 ∧ Aside0 (spec_IsGroup.l2 kq l2 A8 A9 AQ AR AS = some r) ∧ Aside0 (kq ≤ k3) ∧ Aside0 (w'.heap[BE]? = some (.cells #[.int .i64 AQ, .int .i64 AR, .int .i64 AS] 25 (0, 0))) ∧ Aside0 (Below w.heap.size w w'))
          case atStart => exact ⟨(0), (by first | rfl | (simp; done) | (simp [*]; done)), H', ⟨Nat.le_refl _⟩, ⟨bkp Aa⟩, ⟨bbw1 HB Au⟩⟩
          case round =>
           clear H';(try clear c2);(try clear Cg);(try clear BU);(try clear Cn);(try clear Co);(try clear Cr);(try clear Cm);(try clear Ch);(try clear Ay);(try clear Az);(try clear AA);(try clear AB);(try clear AC);(try clear AD);(try clear AE);(try clear AF);(try clear AG);(try clear AH);(try clear AI);(try clear AJ);(try clear AK);(try clear AL);(try clear AM);(try clear AN);(try clear AO);(try clear AP);(try clear p661);(try clear p663);(try clear p670);(try clear q661);(try clear q663);(try clear q670);obtain ⟨A9, rfl, HA, CN, Aa, HB⟩ := hrel;cases gk with
           | zero => exact absurd HA.out (by simp [spec_IsGroup.l2])
           | succ k4 =>
            have H := HA.out;clear HA;simp only [spec_IsGroup.l2] at H;by_cases Cs : A9 < (l2.length : Int)
            rw [if_pos Cs] at H;have CI := qp Cs;clear Cs;by_cases CO : 0 ≤ A8
            rw [if_pos CO] at H;have Df := qp CO;clear CO;by_cases CP : A8 < (l2.length : Int)
            rw [if_pos CP] at H;have Dg := qp CP;clear CP;by_cases CQ : 0 ≤ A9
            rw [if_pos CQ] at H;have Dh := qp CQ;clear CQ;obtain ⟨⟨CV, CW, CX, CY, CZ, C0⟩, Dk, H⟩ := ob H;(try dsimp only at H);obtain ⟨⟨C1, C2, C3, C4, C5, C6⟩, Dl, H⟩ := ob H;(try dsimp only at H);obtain ⟨Ck, Dm, H⟩ := ob H;(try dsimp only at H);by_cases CR : Ck = true
            subst CR;replace H := ifT H;have H' := Aside0.mk H;clear H;rotate_left;replace CR := Bool.eq_false_iff.mpr CR;subst CR;replace H := ifF H;obtain rfl := Option.some.inj H;rotate_left
            ·rw [if_neg CQ] at H;exact absurd H (by simp)
            ·rw [if_neg CP] at H;exact absurd H (by simp)
            ·rw [if_neg CO] at H;exact absurd H (by simp)
            rw [if_neg Cs] at H;have CI := qq Cs;clear Cs;have H' := Aside0.mk H;clear H;rotate_left;rotate_left 2
            ·focus go_wp2
             go_roundg k4
             case measure => have := Ce.out; have := Cf.out; have := CM.out; have := CN.out; omega
             case rel => exact ⟨(wrap64 (A8 + 1)), (by first | rfl | (simp; done) | (simp [*]; done)), H', ⟨by have := Ce.out; have := Cf.out; have := CM.out; have := CN.out; omega⟩, ⟨bkp Aa⟩, ⟨bbw1 HB Au⟩⟩
            all_goals
             focus try go_wp2
             replace Aa := asd (blk_drew Aa.out);replace HB := asd (qm HB.out);obtain ⟨p681, q681, ad681, e681, Ba, Bb, Bc, Bd, Be, Bf, BV, BW, BX, BY, BZ, B0⟩ := at_T55w HR2.out HB A8;cases e681
             obtain ⟨p682, q682, ad682, e682, Bg, Bh, Bi, Bj, Bk, Bl, B3, B8, Ca, Cb, Cc, Cd⟩ := at_T55w HR2.out HB A9;obtain rfl : ad681 = ad682 := (by injection e682);refine sh 14 (cb3 Aa (cx6 HB Ba Bb Bc Bd Be Bf (ex6 HB Bg Bh Bi Bj Bk Bl))) (fun hHeld => ?_); refine with_tabW spec_IsGroup.tab16 spec_IsGroup.bits16 (fun HT_ HW_ => ?_);generalize wr.drew = Du at Aa HB BV BW BX BY BZ B0 B3 B8 Ca Cb Cc Cd hHeld ⊢;refine pu 0 (some 79) (bT 14 1) HT_ ?_;refine pu 2 (some 81) (bs 14 5) HT_ ?_;refine pu 3 (some 82) (bs 14 13) HT_ ?_;refine pu 4 (some 83) (bs 14 29) HT_ ?_;refine pu 6 (some 85) (bs 14 93) HT_ ?_;refine pu 7 (some 86) (bs 14 221) HT_ ?_;refine pu 8 (some 87) (bs 14 477) HT_ ?_;refine ta 1 (some 80) (bs 14 479) HT_ HW_ hHeld ?_;refine ta 5 (some 84) (bT 14 9) HT_ HW_ hHeld ?_;refine ta 9 (some 88) (bT 14 10) HT_ HW_ hHeld ?_;refine ro 10 (some 89) (bT 14 11) HT_ (fun K hK => ?_);refine gs Try.func39 #[.agg #[.int .i64 ((qr l2 A8).f0.f0), .int .i64 ((qr l2 A8).f0.f1), .int .i64 ((qr l2 A8).f0.f2), .int .i64 ((qr l2 A8).f0.f3), .int .i64 ((qr l2 A8).f1.f0), .int .i64 ((qr l2 A8).f1.f1)], .agg #[.int .i64 ((qr l2 A9).f0.f0), .int .i64 ((qr l2 A9).f0.f1), .int .i64 ((qr l2 A9).f0.f2), .int .i64 ((qr l2 A9).f0.f3), .int .i64 ((qr l2 A9).f1.f0), .int .i64 ((qr l2 A9).f1.f1)]] ?_;with_reducible refine (spec_l05Compose.calls _ _ _ _ _ _ _ _ _ _ _ _ _ _ _ _ _ _ _ Dk.out).mono ?_
             rintro e Dv ⟨rfl, hb⟩;refine ⟨_, rfl, ?_⟩;replace Aa := bB Aa hb;replace HB := bS1 HB Au hb;(try clear hb);(try clear hb2);(try clear hk);(try clear hi);refine hK.out _ _ (cb3 Aa (cx6 HB Ba Bb Bc Bd Be Bf (ex6 HB Bg Bh Bi Bj Bk Bl))).out (fun hHeld => ?_);clear hK K;refine norm_ (a' := ?_) ?_ ?_;rotate_left
             ·show Act.put _ (some 89) _ = _
              simp only [Act.put, sA, sB, sC, i64_w, i32_w];rfl
             refine ro 11 (some 90) (bT 14 12) HT_ (fun K hK => ?_);refine gs Try.func30 #[.agg #[.int .i64 AQ, .int .i64 AR, .int .i64 AS], .agg #[.int .i64 CV, .int .i64 CW, .int .i64 CX, .int .i64 CY, .int .i64 CZ, .int .i64 C0]] ?_;with_reducible refine (spec_l06Reduce.calls _ _ _ _ _ _ _ _ _ _ _ _ _ _ _ _ Dl.out).mono ?_
             rintro e Dw ⟨rfl, hb⟩;refine ⟨_, rfl, ?_⟩;replace Aa := bB Aa hb;replace HB := bS1 HB Au hb;(try clear hb);(try clear hb2);(try clear hk);(try clear hi);refine hK.out _ _ (cb3 Aa (cx6 HB Ba Bb Bc Bd Be Bf (ex6 HB Bg Bh Bi Bj Bk Bl))).out (fun hHeld => ?_);clear hK K;refine norm_ (a' := ?_) ?_ ?_;rotate_left
             ·show Act.put _ (some 90) _ = _
              simp only [Act.put, sA, sB, sC, i64_w, i32_w];rfl
             refine ro 12 (some 91) (bT 14 13) HT_ (fun K hK => ?_);refine gs Try.func37 #[.slice (some ad681) l2.length c2, .agg #[.int .i64 C1, .int .i64 C2, .int .i64 C3, .int .i64 C4, .int .i64 C5, .int .i64 C6]] ?_;with_reducible refine (spec_l06Has.calls _ _ _ _ _ _ _ _ _ _ _ _ ?side1 ?side2 Dm.out).mono ?_
             (case side1 => exact ks (Kd.C_below HR2.out HB.out))
             (case side2 => exact CS.out)
             rintro e Dx ⟨rfl, hb⟩;refine ⟨_, rfl, ?_⟩;replace Aa := bB Aa hb;replace HB := bS1 HB Au hb;(try clear hb);(try clear hb2);(try clear hk);(try clear hi);refine hK.out _ _ (cb3 Aa (cx6 HB Ba Bb Bc Bd Be Bf (ex6 HB Bg Bh Bi Bj Bk Bl))).out (fun hHeld => ?_);clear hK K;refine norm_ (a' := ?_) ?_ ?_;rotate_left
             ·show Act.put _ (some 91) _ = _
              simp only [Act.put, sA, sB, sC, i64_w, i32_w];rfl
             refine pu 13 (some 92) (bT 14 14) HT_ ?_;refine done_ (done_of HT_.out (by kernel_rfl)) ?_;focus try go_wp2
            ·go_roundg k4
             case measure => have := Ce.out; have := Cf.out; have := CM.out; have := CN.out; omega
             case rel => exact ⟨(wrap64 (A9 + 1)), (by first | rfl | (simp; done) | (simp [*]; done)), H', ⟨by have := Ce.out; have := Cf.out; have := CM.out; have := CN.out; omega⟩, ⟨bkp Aa⟩, ⟨bbw1 HB Au⟩⟩
            ·go_ret
             exact er (bbw1 HB Au)
         ·rw [if_neg Cm] at H;have Ch := qq Cm;clear Cm;obtain rfl := Option.some.inj H;focus go_wp2
          go_ret
          exact er (bbw1 HB Au)
      ·focus go_wp2_with (first | ((with_reducible refine gate_callee (f := 38) rfl ?_); refine gl 64 Try.func38 #[] ?_; (with_reducible refine (spec_l06Unit.calls _ _ _ _ _ _ _ Dd.out).mono ?_); rintro e Dy ⟨rfl, hb⟩; refine ⟨_, rfl, ?_⟩; replace Aa := bB Aa hb; replace HB := bS1 HB Au hb; (try clear hb)) | ((with_reducible refine gate_callee (f := 37) rfl ?_); refine gl 65 Try.func37 #[.slice A2 l2.length c2, .agg #[.int .i64 CC, .int .i64 CD, .int .i64 CE, .int .i64 CF, .int .i64 CG, .int .i64 CH]] ?_; (with_reducible refine (spec_l06Has.calls _ _ _ _ _ _ _ _ _ _ _ _ ?side1 ?side2 De.out).mono ?_); (case side1 => exact ks (Kd.C_below HR2.out HB.out)); (case side2 => exact CS.out); rintro e Dz ⟨rfl, hb⟩; refine ⟨_, rfl, ?_⟩; replace Aa := bB Aa hb; replace HB := bS1 HB Au hb; (try clear hb)))
       go_ret
       exact er (bbw1 HB Au)
      all_goals
       refine pu 0 (some 25) (bT 38 1) HT_ ?_;refine pu 2 (some 27) (bs 38 5) HT_ ?_;refine pu 3 (some 28) (bs 38 13) HT_ ?_;refine pu 4 (some 29) (bs 38 29) HT_ ?_;refine ta 1 (some 26) (bT 38 5) HT_ HW_ hHeld ?_;refine ta 5 (some 30) (bT 38 6) HT_ HW_ hHeld ?_;refine ro 6 (some 31) (bT 38 7) HT_ (fun K hK => ?_);refine gs Try.func35 #[.int .i64 a0, .agg #[.int .i64 AQ, .int .i64 AR, .int .i64 AS], .agg #[.int .i64 ((qr l2 Ab).f0.f0), .int .i64 ((qr l2 Ab).f0.f1), .int .i64 ((qr l2 Ab).f0.f2), .int .i64 ((qr l2 Ab).f0.f3), .int .i64 ((qr l2 Ab).f1.f0), .int .i64 ((qr l2 Ab).f1.f1)]] ?_;with_reducible refine (spec_IsSuitable.calls _ _ _ _ _ _ _ _ _ _ _ _ _ C9.out).mono ?_
       rintro e DA ⟨rfl, hb⟩;refine ⟨_, rfl, ?_⟩;replace Aa := bB Aa hb;replace HB := bS1 HB Au hb;(try clear hb);(try clear hb2);(try clear hk);(try clear hi)
      refine hK.out _ _ (cb3 Aa (cx6 HB Ac Ad Ae Af Ag Ah (cx6 HB Ai Aj Ak Al Am An (ex6 HB Ao Ap Aq Ar As At)))).out (fun hHeld => ?_);rotate_left;refine hK.out _ _ (cb3 Aa (cx6 HB Ac Ad Ae Af Ag Ah (cx6 HB Ai Aj Ak Al Am An (cx6 HB Ao Ap Aq Ar As At (cx6 HB AT AU AV AW AX AY (ex6 HB AZ A0 A1 A3 A4 A5)))))).out (fun hHeld => ?_);rotate_left;refine hK.out _ _ (cb3 Aa (cx6 HB Ac Ad Ae Af Ag Ah (cx6 HB Ai Aj Ak Al Am An (cx6 HB Ao Ap Aq Ar As At (cx6 HB AT AU AV AW AX AY (ex6 HB AZ A0 A1 A3 A4 A5)))))).out (fun hHeld => ?_);rotate_left;refine hK.out _ _ (cb3 Aa (cx6 HB Ac Ad Ae Af Ag Ah (cx6 HB Ai Aj Ak Al Am An (ex6 HB Ao Ap Aq Ar As At)))).out (fun hHeld => ?_);rotate_left
      ·refine hK.out _ _ (cb3 Aa (ex6 HB Ac Ad Ae Af Ag Ah)).out (fun hHeld => ?_);clear hK K;refine norm_ (a' := ?_) ?_ ?_;rotate_left
       ·show Act.put _ (some 31) _ = _
        simp only [Act.put, sA, sB, sC, i64_w, i32_w];rfl
       refine pu 7 (some 32) (bT 38 8) HT_ ?_;refine pu 8 (some 33) (bT 38 9) HT_ ?_;refine pf 9 (some 34) (bT 38 10) HT_ ?_;refine pf 10 (some 35) (bT 38 11) HT_ ?_;refine pf 11 (some 36) (bT 38 12) HT_ ?_;refine pf 12 (some 37) (bT 38 13) HT_ ?_;refine pf 13 (some 38) (bT 38 14) HT_ ?_;refine pf 14 (some 39) (bT 38 15) HT_ ?_;refine pf 15 (some 40) (bT 38 16) HT_ ?_;refine pf 16 (some 41) (bT 38 17) HT_ ?_;refine pf 17 (some 42) (bT 38 18) HT_ ?_;refine pf 18 (some 43) (bT 38 19) HT_ ?_;refine pf 19 (some 44) (bT 38 20) HT_ ?_;refine pu 20 (some 45) (bT 38 21) HT_ ?_;refine pu 21 (some 46) (bT 38 22) HT_ ?_;refine pf 22 (some 47) (bT 38 23) HT_ ?_;refine pf 23 (some 48) (bT 38 24) HT_ ?_;refine pf 24 (some 49) (bT 38 25) HT_ ?_;refine pf 25 (some 50) (bT 38 26) HT_ ?_;refine pf 26 (some 51) (bT 38 27) HT_ ?_;refine pf 27 (some 52) (bT 38 28) HT_ ?_;refine pf 28 (some 53) (bT 38 29) HT_ ?_;refine pf 29 (some 54) (bT 38 30) HT_ ?_;refine pf 30 (some 55) (bT 38 31) HT_ ?_;refine pf 31 (some 56) (bT 38 32) HT_ ?_;refine pf 32 (some 57) (bT 38 33) HT_ ?_;refine pf 33 (some 58) (bT 38 34) HT_ ?_;refine pf 34 (some 59) (bT 38 35) HT_ ?_;refine pf 35 (some 60) (bT 38 36) HT_ ?_;refine pf 36 (some 61) (bT 38 37) HT_ ?_;refine pu 37 (some 62) (bT 38 38) HT_ ?_;refine done_ (done_of HT_.out (by kernel_rfl)) ?_;focus try go_wp2
       go_ret
       exact er (bbw1 HB Au)
      all_goals
       clear hK K;refine norm_ (a' := ?_) ?_ ?_;rotate_left
       ·show Act.put _ (some 31) _ = _
        simp only [Act.put, sA, sB, sC, i64_w, i32_w];rfl
       refine pu 7 (some 32) (bT 38 8) HT_ ?_;refine pu 8 (some 33) (bT 38 9) HT_ ?_;refine pu 10 (some 35) (bs 38 1535) HT_ ?_;refine pu 11 (some 36) (bs 38 3583) HT_ ?_;refine pu 12 (some 37) (bs 38 7679) HT_ ?_;refine pu 15 (some 40) (bs 38 40447) HT_ ?_;refine pu 16 (some 41) (bs 38 105983) HT_ ?_;refine pu 17 (some 42) (bs 38 237055) HT_ ?_;refine ta 9 (some 34) (bs 38 237567) HT_ HW_ hHeld ?_;refine ta 13 (some 38) (bs 38 245759) HT_ HW_ hHeld ?_;refine ta 18 (some 43) (bs 38 507903) HT_ HW_ hHeld ?_;refine ro 14 (some 39) (bT 38 19) HT_ (fun K hK => ?_);refine gs Try.func30 #[.agg #[.int .i64 AQ, .int .i64 AR, .int .i64 AS], .agg #[.int .i64 ((qr l2 Ab).f0.f0), .int .i64 ((qr l2 Ab).f0.f1), .int .i64 ((qr l2 Ab).f0.f2), .int .i64 ((qr l2 Ab).f0.f3), .int .i64 ((qr l2 Ab).f1.f0), .int .i64 ((qr l2 Ab).f1.f1)]] ?_;with_reducible refine (spec_l06Reduce.calls _ _ _ _ _ _ _ _ _ _ _ _ _ _ _ _ Da.out).mono ?_
       rintro e DB ⟨rfl, hb⟩;refine ⟨_, rfl, ?_⟩;replace Aa := bB Aa hb;replace HB := bS1 HB Au hb;(try clear hb);(try clear hb2);(try clear hk);(try clear hi)
      refine hK.out _ _ (cb3 Aa (cx6 HB Ac Ad Ae Af Ag Ah (cx6 HB Ai Aj Ak Al Am An (ex6 HB Ao Ap Aq Ar As At)))).out (fun hHeld => ?_);rotate_left;refine hK.out _ _ (cb3 Aa (cx6 HB Ac Ad Ae Af Ag Ah (cx6 HB Ai Aj Ak Al Am An (cx6 HB Ao Ap Aq Ar As At (cx6 HB AT AU AV AW AX AY (ex6 HB AZ A0 A1 A3 A4 A5)))))).out (fun hHeld => ?_);rotate_left;refine hK.out _ _ (cb3 Aa (cx6 HB Ac Ad Ae Af Ag Ah (cx6 HB Ai Aj Ak Al Am An (cx6 HB Ao Ap Aq Ar As At (cx6 HB AT AU AV AW AX AY (ex6 HB AZ A0 A1 A3 A4 A5)))))).out (fun hHeld => ?_);rotate_left;refine hK.out _ _ (cb3 Aa (cx6 HB Ac Ad Ae Af Ag Ah (cx6 HB Ai Aj Ak Al Am An (ex6 HB Ao Ap Aq Ar As At)))).out (fun hHeld => ?_);rotate_left;all_goals
       clear hK K;refine norm_ (a' := ?_) ?_ ?_;rotate_left
       ·show Act.put _ (some 39) _ = _
        simp only [Act.put, sA, sB, sC, i64_w, i32_w];rfl
       refine pu 19 (some 44) (bT 38 20) HT_ ?_;refine pu 20 (some 45) (bT 38 21) HT_ ?_;refine pu 21 (some 46) (bT 38 22) HT_ ?_
      ·refine pf 22 (some 47) (bT 38 23) HT_ ?_;refine pf 23 (some 48) (bT 38 24) HT_ ?_;refine pf 24 (some 49) (bT 38 25) HT_ ?_;refine pf 25 (some 50) (bT 38 26) HT_ ?_;refine pf 26 (some 51) (bT 38 27) HT_ ?_;refine pf 27 (some 52) (bT 38 28) HT_ ?_;refine pf 28 (some 53) (bT 38 29) HT_ ?_;refine pf 29 (some 54) (bT 38 30) HT_ ?_;refine pf 30 (some 55) (bT 38 31) HT_ ?_;refine pf 31 (some 56) (bT 38 32) HT_ ?_;refine pf 32 (some 57) (bT 38 33) HT_ ?_;refine pf 33 (some 58) (bT 38 34) HT_ ?_;refine pf 34 (some 59) (bT 38 35) HT_ ?_;refine pf 35 (some 60) (bT 38 36) HT_ ?_;refine pf 36 (some 61) (bT 38 37) HT_ ?_;refine pu 37 (some 62) (bT 38 38) HT_ ?_;refine done_ (done_of HT_.out (by kernel_rfl)) ?_;focus try go_wp2
       go_ret
       exact er (bbw1 HB Au)
      rotate_left 3;all_goals
       refine pu 22 (some 47) (bT 38 23) HT_ ?_;refine pu 23 (some 48) (bT 38 24) HT_ ?_;refine pu 24 (some 49) (bT 38 25) HT_ ?_
      rotate_left 2
      ·refine pf 25 (some 50) (bT 38 26) HT_ ?_;refine pf 26 (some 51) (bT 38 27) HT_ ?_;refine pf 27 (some 52) (bT 38 28) HT_ ?_;refine pf 28 (some 53) (bT 38 29) HT_ ?_;refine pf 29 (some 54) (bT 38 30) HT_ ?_;refine pf 30 (some 55) (bT 38 31) HT_ ?_;refine pf 31 (some 56) (bT 38 32) HT_ ?_;refine pf 32 (some 57) (bT 38 33) HT_ ?_;refine pf 33 (some 58) (bT 38 34) HT_ ?_;refine pf 34 (some 59) (bT 38 35) HT_ ?_;refine pf 35 (some 60) (bT 38 36) HT_ ?_;refine pu 36 (some 61) (bT 38 37) HT_ ?_;refine pu 37 (some 62) (bT 38 38) HT_ ?_;refine done_ (done_of HT_.out (by kernel_rfl)) ?_;focus try go_wp2
       go_roundg k2
       case measure => have := Ce.out; have := Cf.out; omega
       case rel => exact ⟨(wrap64 (Ab + 1)), (by first | rfl | (simp; done) | (simp [*]; done)), H', ⟨by have := Ce.out; have := Cf.out; omega⟩, ⟨bkp Aa⟩, ⟨bbw1 HB Au⟩⟩
      all_goals
       refine pu 25 (some 50) (bT 38 26) HT_ ?_;refine pu 26 (some 51) (bT 38 27) HT_ ?_;refine pu 27 (some 52) (bT 38 28) HT_ ?_;refine pu 28 (some 53) (bT 38 29) HT_ ?_;refine pu 30 (some 55) (bs 38 1610612735) HT_ ?_;refine pu 31 (some 56) (bs 38 3758096383) HT_ ?_;refine pu 32 (some 57) (bs 38 8053063679) HT_ ?_;refine ta 29 (some 54) (bT 38 33) HT_ HW_ hHeld ?_;refine ta 33 (some 58) (bT 38 34) HT_ HW_ hHeld ?_;refine ro 34 (some 59) (bT 38 35) HT_ (fun K hK => ?_);refine goes_ Try.func36 (by kernel_rfl) rfl #[.agg #[.int .i64 ((qr l2 (A7)).f0.f0), .int .i64 ((qr l2 (A7)).f0.f1), .int .i64 ((qr l2 (A7)).f0.f2), .int .i64 ((qr l2 (A7)).f0.f3), .int .i64 ((qr l2 (A7)).f1.f0), .int .i64 ((qr l2 (A7)).f1.f1)], .agg #[.int .i64 ((qr l2 Ab).f0.f0), .int .i64 ((qr l2 Ab).f0.f1), .int .i64 ((qr l2 Ab).f0.f2), .int .i64 ((qr l2 Ab).f0.f3), .int .i64 ((qr l2 Ab).f1.f0), .int .i64 ((qr l2 Ab).f1.f1)]] (by rfl) rfl rfl (by (try simp only [List.map_toArray, List.map_cons, List.map_nil]); first | done | (simp only [Bm]; rfl) | rfl | (simp only [List.length_drop, List.length_take]; rfl)) ?_;with_reducible refine (spec_l05Less.calls _ _ _ _ _ _ _ _ _ _ _ _ _ _ _ Dj.out).mono ?_
       rintro e DC ⟨rfl, hb⟩;refine ⟨_, rfl, ?_⟩;replace Aa := bB Aa hb;replace HB := bS1 HB Au hb;(try clear hb);(try clear hb2);(try clear hk);(try clear hi);refine hK.out _ _ (cb3 Aa (cx6 HB Ac Ad Ae Af Ag Ah (cx6 HB Ai Aj Ak Al Am An (cx6 HB Ao Ap Aq Ar As At (cx6 HB AT AU AV AW AX AY (ex6 HB AZ A0 A1 A3 A4 A5)))))).out (fun hHeld => ?_);clear hK K;refine norm_ (a' := ?_) ?_ ?_;rotate_left
       ·show Act.put _ (some 59) _ = _
        simp only [Act.put, sA, sB, sC, i64_w, i32_w];rfl
       refine pu 35 (some 60) (bT 38 36) HT_ ?_;refine pu 36 (some 61) (bT 38 37) HT_ ?_;refine pu 37 (some 62) (bT 38 38) HT_ ?_;refine done_ (done_of HT_.out (by kernel_rfl)) ?_;focus try go_wp2
      ·go_roundg k2
       case measure => have := Ce.out; have := Cf.out; omega
       case rel => exact ⟨(wrap64 (Ab + 1)), (by first | rfl | (simp; done) | (simp [*]; done)), H', ⟨by have := Ce.out; have := Cf.out; omega⟩, ⟨bkp Aa⟩, ⟨bbw1 HB Au⟩⟩
      ·go_ret
       exact ⟨by first | rfl | (simp [errW_none, errW_some] <;> rfl) | (simp only [← Bm]; first | rfl | (simp [errW_none, errW_some] <;> rfl)) | (simp [*, errW_none, errW_some] <;> rfl), bbw1 HB Au⟩
end Go.Proofs.Ytedmadofpdkekaa.PA
