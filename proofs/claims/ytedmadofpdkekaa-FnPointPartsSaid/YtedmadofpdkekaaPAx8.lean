import Derived.Test.YtedmadofpdkekaaPAx0
import Derived.Test.YtedmadofpdkekaaPAx2
import Derived.Test.YtedmadofpdkekaaPAx4
import Derived.Test.YtedmadofpdkekaaPAx5
import Derived.Test.YtedmadofpdkekaaPAx6
import Derived.Test.YtedmadofpdkekaaPAx7
namespace Go.Proofs.Ytedmadofpdkekaa.PA
open Go.RowKit Go.Proofs.YtedmadofpdkekaaW.PrintWords Go.Proofs.YtedmadofpdkekaaW.PrintLast Go.Proofs.YtedmadofpdkekaaW.PrintMore
attribute [local go_sem] max2_int min2_int max_two min_two max_three min_three max_four min_four   -- for this text's walks alone
set_option linter.unusedVariables false
set_option maxHeartbeats 8000000
set_option maxRecDepth 100000
set_option linter.unusedSimpArgs false
def spec_l06DrawMotion.f (k : Nat) (Ao : List Int) (Av : Int) (Aw : Int) (a1 : Int) (AA : Int) (AB : Int) (AC : Int) : Option (Int × Int × Int × Int × Int × Int × Int × Int) := (spec_l02Unit.f).bind fun AF => ((spec_l04Code.f a1 AA AB AC).bind fun AN => (if AN = 0 then ((spec_l04Stable.f k a1 AA AB AC).bind fun Ai => ((spec_l01Next.f Ao Av Aw (Ai.length : Int)).bind fun Aq => (if 0 ≤ Aq.1 then (if Aq.1 < (Ai.length : Int) then ((spec_l01Next.f Ao Aq.2.1 Aq.2.2 9).bind fun AJ => ((spec_l01Next.f Ao AJ.2.1 AJ.2.2 9).bind fun AK => (some ((rd_T51 Ai Aq.1).f0, (rd_T51 Ai Aq.1).f1, (rd_T51 Ai Aq.1).f2, (rd_T51 Ai Aq.1).f3, wrap64 (AJ.1 - 4), wrap64 (AK.1 - 4), AK.2.1, AK.2.2)))) else (none)) else (none)))) else ((spec_l01Next.f Ao Av Aw 9).bind fun AL => ((spec_l01Next.f Ao AL.2.1 AL.2.2 9).bind fun AM => (some (AF.1, AF.2.1, AF.2.2.1, AF.2.2.2, wrap64 (AL.1 - 4), wrap64 (AM.1 - 4), AM.2.1, AM.2.2))))))
def spec_l06DrawMotion.T5 : Bool × List (List Nat × List Nat) := (true, [([], []), ([], []), ([1], [1]), ([2], [2]), ([], []), ([4, 2], [4]), ([5], [5]), ([3, 6], [3, 6]), ([0, 7], [0, 7]), ([8, 5, 0, 1, 2, 3, 4, 5, 6, 7, 8], [8])])
def spec_l06DrawMotion.B5 : List Nat := [0, 0, 2, 6, 0, 22, 54, 126, 255, 511]
theorem spec_l06DrawMotion.tab5 : rtab .any (opsOf Try.f31 5) = spec_l06DrawMotion.T5 := by kernel_rfl
theorem spec_l06DrawMotion.bits5 : waitsOk spec_l06DrawMotion.T5.2 spec_l06DrawMotion.B5 = true := by kernel_rfl
theorem spec_l06DrawMotion.calls (k : Nat) (g : Nat) (Ao : List Int) (Av : Int) (Aw : Int) (a1 : Int) (AA : Int) (AB : Int) (AC : Int) (r1 : Int) (r2 : Int) (r3 : Int) (r4 : Int) (r5 : Int) (r6 : Int) (r7 : Int) (r8 : Int) (w0 w : World) (hI : IsS64 w0 w g Ao Av Aw) (hB : Below w0.heap.size w0 w) (h : spec_l06DrawMotion.f k Ao Av Aw a1 AA AB AC = some (r1, r2, r3, r4, r5, r6, r7, r8)) :
  Calls Try.prog 31 #[.pointer (some ⟨g, 0, none⟩), .int .i64 a1, .agg #[.int .i64 AA, .int .i64 AB, .int .i64 AC]] w fun e w' => e = .returned (.agg #[.int .i64 r1, .int .i64 r2, .int .i64 r3, .int .i64 r4, .int .i64 r5, .int .i64 r6]) ∧ IsS64 w0 w' g Ao r7 r8 ∧ Below w0.heap.size w0 w' ∧ KeepBut w w' g none := by
 have hu25 := Try.underlying25
 have hu55 := Try.underlying55
 have hu51 := Try.underlying51
 have hu53 := Try.underlying53
 have HI0 := Aside0.mk hI
 have HK := asd (KeepBut.refl w g none)
 have HL := Aside0.mk hB.size
 clear hI
 have HW0 := Aside0.mk hB.size
 have HB := Aside0.mk hB
 clear hB
 have H : ((spec_l02Unit.f).bind fun AF => ((spec_l04Code.f a1 AA AB AC).bind fun AN => (if AN = 0 then ((spec_l04Stable.f k a1 AA AB AC).bind fun Ai => ((spec_l01Next.f Ao Av Aw (Ai.length : Int)).bind fun Aq => (if 0 ≤ Aq.1 then (if Aq.1 < (Ai.length : Int) then ((spec_l01Next.f Ao Aq.2.1 Aq.2.2 9).bind fun AJ => ((spec_l01Next.f Ao AJ.2.1 AJ.2.2 9).bind fun AK => (some ((rd_T51 Ai Aq.1).f0, (rd_T51 Ai Aq.1).f1, (rd_T51 Ai Aq.1).f2, (rd_T51 Ai Aq.1).f3, wrap64 (AJ.1 - 4), wrap64 (AK.1 - 4), AK.2.1, AK.2.2)))) else (none)) else (none)))) else ((spec_l01Next.f Ao Av Aw 9).bind fun AL => ((spec_l01Next.f Ao AL.2.1 AL.2.2 9).bind fun AM => (some (AF.1, AF.2.1, AF.2.2.1, AF.2.2.2, wrap64 (AL.1 - 4), wrap64 (AM.1 - 4), AM.2.1, AM.2.2))))))) = some (r1, r2, r3, r4, r5, r6, r7, r8) := h
 clear h
 obtain ⟨⟨AO, AP, AQ, AR⟩, A4, H⟩ := ob H
 try dsimp only at H
 obtain ⟨AN, A5, H⟩ := ob H
 try dsimp only at H
 by_cases c6 : AN = 0
 rw [if_pos c6] at H
 have Cg : (AN == 0) = true := beq_iff_eq.mpr c6
 have Ch : (AN != 0) = false := bne_eq_false_iff_eq.mpr c6
 clear c6
 obtain ⟨Ai, A7, H⟩ := ob H
 try dsimp only at H
 obtain ⟨⟨As, AU, AV⟩, A8, H⟩ := ob H
 try dsimp only at H
 by_cases c9 : 0 ≤ As
 rw [if_pos c9] at H
 have CM := qp c9
 clear c9
 by_cases AW : As < (Ai.length : Int)
 rw [if_pos AW] at H
 have Co := qp AW
 clear AW
 obtain ⟨⟨Ci, Cj, Ck⟩, Cp, H⟩ := ob H
 try dsimp only at H
 obtain ⟨⟨Cl, CN, CO⟩, Cq, H⟩ := ob H
 try dsimp only at H
 rotate_left
 ·rw [if_neg AW] at H;exact absurd H (by simp)
 ·rw [if_neg c9] at H;exact absurd H (by simp)
 rw [if_neg c6] at H
 have Cg : (AN == 0) = false := beq_eq_false_iff_ne.mpr c6
 have Ch : (AN != 0) = true := bne_iff_ne.mpr c6
 obtain ⟨⟨Cm, CP, CQ⟩, Cp, H⟩ := ob H
 try dsimp only at H
 obtain ⟨⟨Cn, CR, CS⟩, Cq, H⟩ := ob H
 try dsimp only at H
 rotate_left
 all_goals
  simp only [Option.some.injEq, Prod.mk.injEq] at H;obtain ⟨rfl, rfl, rfl, rfl, rfl, rfl, rfl, rfl⟩ := H;go_enter Try.func31, Try.ntmps31
 focus try go_wp2_with (first | ((with_reducible refine gd 5 rfl ?_); refine bx #[.int .i64 AA, .int .i64 AB, .int .i64 AC] 25 ?_; intro Ar hg CX Ac hb; replace HB := asd (below_step (by repeat (first | (with_reducible first | exact HB.out | apply qo | apply qn | apply qm | refine ql ?_ (IsS64.ge HI0.out)) | exact HB.out)) hb); have Ak := asd ((by rw [hg]; exact (keep_size (w := w) (g := g) (row := none) (by repeat (first | (with_reducible first | exact HK.out | apply qg | apply qh | apply qj | apply qi) | exact HK.out))) : w.heap.size ≤ Ar)); have Au := asd ((Nat.le_trans HW0.out (by rw [hg]; exact (keep_size (w := w) (g := g) (row := none) (by repeat (first | (with_reducible first | exact HK.out | apply qg | apply qh | apply qj | apply qi) | exact HK.out))) : w.heap.size ≤ Ar) : w0.heap.size ≤ Ar)); replace HK := asd (KeepBut.trans (by repeat (first | (with_reducible first | exact HK.out | apply qg | apply qh | apply qj | apply qi) | exact HK.out)) (KeepBut.of_below hb g none) (.inl rfl)); have Aa := asd ((by rw [hg]; exact Nat.ne_of_lt (IsS64.lt (show IsS64 w0 _ g Ao Av Aw from by repeat (first | (with_reducible first | exact HI0.out | apply qc | apply qb | apply qf | apply qd | apply qe) | exact HI0.out))) : g ≠ Ar)); have AD := asd ((by rw [hg]; exact Nat.ne_of_gt (IsS64.lt (show IsS64 w0 _ g Ao Av Aw from by repeat (first | (with_reducible first | exact HI0.out | apply qc | apply qb | apply qf | apply qd | apply qe) | exact HI0.out))) : Ar ≠ g)); replace HI0 := asd (IsS64.below (by repeat (first | (with_reducible first | exact HI0.out | apply qc | apply qb | apply qf | apply qd | apply qe) | exact HI0.out)) hb); clear hb hg) | ((with_reducible refine gd 6 rfl ?_); refine bx #[.int .i64 0, .int .i64 0, .int .i64 0, .int .i64 0, .int .i64 0, .int .i64 0] 55 ?_; intro Aj hg CY Ab hb; replace HB := asd (below_step (by repeat (first | (with_reducible first | exact HB.out | apply qo | apply qn | apply qm | refine ql ?_ (IsS64.ge HI0.out) | refine ql ?_ Au.out) | exact HB.out)) hb); have Ap := asd ((by rw [hg]; exact (keep_size (w := w) (g := g) (row := none) (by repeat (first | (with_reducible first | exact HK.out | apply qg | apply qh | apply qj | apply qi | refine qk ?_ Ak.out _) | exact HK.out))) : w.heap.size ≤ Aj)); have Ay := asd ((Nat.le_trans HW0.out (by rw [hg]; exact (keep_size (w := w) (g := g) (row := none) (by repeat (first | (with_reducible first | exact HK.out | apply qg | apply qh | apply qj | apply qi | refine qk ?_ Ak.out _) | exact HK.out))) : w.heap.size ≤ Aj) : w0.heap.size ≤ Aj)); replace HK := asd (KeepBut.trans (by repeat (first | (with_reducible first | exact HK.out | apply qg | apply qh | apply qj | apply qi | refine qk ?_ Ak.out _) | exact HK.out)) (KeepBut.of_below hb g none) (.inl rfl)); have Am := nlt hg Ac; have An := nsy (nlt hg Ac); replace Ac := bB Ac hb; have Ad := asd ((by rw [hg]; exact Nat.ne_of_lt (IsS64.lt (show IsS64 w0 _ g Ao Av Aw from by repeat (first | (with_reducible first | exact HI0.out | apply qc | apply qb | apply qf | apply qd | apply qe | refine qa ?_ Aa.out _) | exact HI0.out))) : g ≠ Aj)); have AI := asd ((by rw [hg]; exact Nat.ne_of_gt (IsS64.lt (show IsS64 w0 _ g Ao Av Aw from by repeat (first | (with_reducible first | exact HI0.out | apply qc | apply qb | apply qf | apply qd | apply qe | refine qa ?_ Aa.out _) | exact HI0.out))) : Aj ≠ g)); replace HI0 := asd (IsS64.below (by repeat (first | (with_reducible first | exact HI0.out | apply qc | apply qb | apply qf | apply qd | apply qe | refine qa ?_ Aa.out _) | exact HI0.out)) hb); clear hb hg) | ((with_reducible refine gate_callee (f := 41) rfl ?_); refine gl 9 Try.func41 #[] ?_; (with_reducible refine (spec_l02Unit.calls _ _ _ _ _ A4.out).mono ?_); rintro e CZ ⟨rfl, hb⟩; refine ⟨_, rfl, ?_⟩; replace Ac := bB Ac hb; replace Ab := bB Ab hb; replace HK := asd (KeepBut.trans (by repeat (first | (with_reducible first | exact HK.out | apply qg | apply qh | apply qj | apply qi | refine qk ?_ Ak.out _ | refine qk ?_ Ap.out _) | exact HK.out)) (KeepBut.of_below hb g none) (.inl rfl)); replace HB := asd (below_step (by repeat (first | (with_reducible first | exact HB.out | apply qo | apply qn | apply qm | refine ql ?_ (IsS64.ge HI0.out) | refine ql ?_ Au.out | refine ql ?_ Ay.out) | exact HB.out)) hb); replace HI0 := asd (IsS64.below (by repeat (first | (with_reducible first | exact HI0.out | apply qc | apply qb | apply qf | apply qd | apply qe | refine qa ?_ Aa.out _ | refine qa ?_ Ad.out _) | exact HI0.out)) hb); (try clear hb)) | ((with_reducible refine gd 7 rfl ?_); refine bx #[.int .i64 0, .int .i64 0, .int .i64 0, .int .i64 0] 51 ?_; intro Ae hg CT Ag hb; replace HB := asd (below_step (by repeat (first | (with_reducible first | exact HB.out | apply qo | apply qn | apply qm | refine ql ?_ (IsS64.ge HI0.out) | refine ql ?_ Au.out | refine ql ?_ Ay.out) | exact HB.out)) hb); have AE := asd ((by rw [hg]; exact (keep_size (w := w) (g := g) (row := none) (by repeat (first | (with_reducible first | exact HK.out | apply qg | apply qh | apply qj | apply qi | refine qk ?_ Ak.out _ | refine qk ?_ Ap.out _) | exact HK.out))) : w.heap.size ≤ Ae)); have AG := asd ((Nat.le_trans HW0.out (by rw [hg]; exact (keep_size (w := w) (g := g) (row := none) (by repeat (first | (with_reducible first | exact HK.out | apply qg | apply qh | apply qj | apply qi | refine qk ?_ Ak.out _ | refine qk ?_ Ap.out _) | exact HK.out))) : w.heap.size ≤ Ae) : w0.heap.size ≤ Ae)); replace HK := asd (KeepBut.trans (by repeat (first | (with_reducible first | exact HK.out | apply qg | apply qh | apply qj | apply qi | refine qk ?_ Ak.out _ | refine qk ?_ Ap.out _) | exact HK.out)) (KeepBut.of_below hb g none) (.inl rfl)); have At := nlt hg Ac; have AH := nsy (nlt hg Ac); replace Ac := bB Ac hb; have Ah := nlt hg Ab; have Af := nsy (nlt hg Ab); replace Ab := bB Ab hb; have Al := asd ((by rw [hg]; exact Nat.ne_of_lt (IsS64.lt (show IsS64 w0 _ g Ao Av Aw from by repeat (first | (with_reducible first | exact HI0.out | apply qc | apply qb | apply qf | apply qd | apply qe | refine qa ?_ Aa.out _ | refine qa ?_ Ad.out _) | exact HI0.out))) : g ≠ Ae)); have Ax := asd ((by rw [hg]; exact Nat.ne_of_gt (IsS64.lt (show IsS64 w0 _ g Ao Av Aw from by repeat (first | (with_reducible first | exact HI0.out | apply qc | apply qb | apply qf | apply qd | apply qe | refine qa ?_ Aa.out _ | refine qa ?_ Ad.out _) | exact HI0.out))) : Ae ≠ g)); replace HI0 := asd (IsS64.below (by repeat (first | (with_reducible first | exact HI0.out | apply qc | apply qb | apply qf | apply qd | apply qe | refine qa ?_ Aa.out _ | refine qa ?_ Ad.out _) | exact HI0.out)) hb); clear hb hg; have Cr := AH.out; have Cs := At.out; have Ct := Af.out; have Cu := Ah.out; have Cv := Ax.out; have Cw := Al.out; obtain ⟨AX, AY, AZ, A0, A1, A2, A3, A6⟩ := bz4 Ag; have Cx := Am.out; have Cy := An.out; have Cz := AD.out; have CA := Aa.out; obtain ⟨A9, Ba, Bb, Bc, Bd, Be⟩ := bz3 Ac) | ((with_reducible refine gate_callee (f := 28) rfl ?_); refine gl 12 Try.func28 #[.int .i64 a1, .agg #[.int .i64 AA, .int .i64 AB, .int .i64 AC]] ?_; (with_reducible refine (spec_l04Code.calls _ _ _ _ _ _ A5.out).mono ?_); rintro e C0 ⟨rfl, hb⟩; refine ⟨_, rfl, ?_⟩; replace Ac := asd (blk_below (g := Ar) (o := .cells #[.int .i64 AA, .int .i64 AB, .int .i64 AC] 25 (0, 0)) (bq1 Ac At) hb); replace Ab := asd (blk_below (g := Aj) (o := .cells #[.int .i64 0, .int .i64 0, .int .i64 0, .int .i64 0, .int .i64 0, .int .i64 0] 55 (0, 0)) (bq1 Ab Ah) hb); replace Ag := asd (blk_below (g := Ae) (o := .cells #[.int .i64 AO, .int .i64 AP, .int .i64 AQ, .int .i64 AR] 51 (0, 0)) (bq0 Ag) hb); replace HK := asd (KeepBut.trans (by repeat (first | (with_reducible first | exact HK.out | apply qg | apply qh | apply qj | apply qi | refine qk ?_ Ak.out _ | refine qk ?_ Ap.out _ | refine qk ?_ AE.out _) | exact HK.out)) (KeepBut.of_below hb g none) (.inl rfl)); replace HB := asd (below_step (by repeat (first | (with_reducible first | exact HB.out | apply qo | apply qn | apply qm | refine ql ?_ (IsS64.ge HI0.out) | refine ql ?_ Au.out | refine ql ?_ Ay.out | refine ql ?_ AG.out) | exact HB.out)) hb); replace HI0 := asd (IsS64.below (show IsS64 w0 ((((CT.setCell ⟨Ae, 0, none⟩ (.int .i64 AO)).setCell ⟨Ae, 1, none⟩ (.int .i64 AP)).setCell ⟨Ae, 2, none⟩ (.int .i64 AQ)).setCell ⟨Ae, 3, none⟩ (.int .i64 AR)) g Ao Av Aw from by repeat (first | (with_reducible first | exact HI0.out | apply qc | apply qb | apply qf | apply qd | apply qe | refine qa ?_ Aa.out _ | refine qa ?_ Ad.out _ | refine qa ?_ Al.out _) | exact HI0.out)) hb); (try clear hb); obtain ⟨Bf, Bg, Bh, Bi, Bj, Bk⟩ := bz3 Ac) | ((with_reducible refine gate_callee (f := 51) rfl ?_); refine gl 16 Try.func51 #[.int .i64 a1, .agg #[.int .i64 AA, .int .i64 AB, .int .i64 AC]] ?_; (with_reducible refine (spec_l04Stable.calls _ _ _ _ _ _ _ A7.out).mono ?_); rintro e C1 ⟨v273, rfl, CB, hb⟩; refine ⟨_, rfl, ?_⟩; have Az := asd (Kd.R_lower (Kd.R_newB CB (g := Ae) (o := .cells #[.int .i64 AO, .int .i64 AP, .int .i64 AQ, .int .i64 AR] 51 (0, 0)) (bkp Ag)) (keep_size (w := w) (g := g) (row := none) (by repeat (first | (with_reducible first | exact HK.out | apply qg | apply qh | apply qj | apply qi | refine qk ?_ Ak.out _ | refine qk ?_ Ap.out _ | refine qk ?_ AE.out _) | exact HK.out)))); replace Ac := bB Ac hb; replace Ab := bB Ab hb; replace Ag := bB Ag hb; replace HK := asd (KeepBut.trans (by repeat (first | (with_reducible first | exact HK.out | apply qg | apply qh | apply qj | apply qi | refine qk ?_ Ak.out _ | refine qk ?_ Ap.out _ | refine qk ?_ AE.out _) | exact HK.out)) (KeepBut.of_below hb g none) (.inl rfl)); replace HB := asd (below_step (by repeat (first | (with_reducible first | exact HB.out | apply qo | apply qn | apply qm | refine ql ?_ (IsS64.ge HI0.out) | refine ql ?_ Au.out | refine ql ?_ Ay.out | refine ql ?_ AG.out) | exact HB.out)) hb); replace HI0 := asd (IsS64.below (by repeat (first | (with_reducible first | exact HI0.out | apply qc | apply qb | apply qf | apply qd | apply qe | refine qa ?_ Aa.out _ | refine qa ?_ Ad.out _ | refine qa ?_ Al.out _) | exact HI0.out)) hb); (try clear hb); (try clear hb2); (try clear hk); (try clear hi); (try clear CB); obtain ⟨Ao27, co27, eo27⟩ := Kd.R_slice Az.out; subst eo27) | ((with_reducible refine gate_callee (f := 29) rfl ?_); refine gl 21 Try.func29 #[.pointer (some ⟨g, 0, none⟩), .int .i64 (Ai.length : Int)] ?_; (with_reducible refine (spec_l01Next.calls _ _ _ _ _ _ _ _ w0 _ ?side1 ?side2 A8.out).mono ?_); (case side1 => repeat (first | (with_reducible first | exact HI0.out | apply qc | apply qb | apply qf | apply qd | apply qe | refine qa ?_ Aa.out _ | refine qa ?_ Ad.out _ | refine qa ?_ Al.out _) | exact HI0.out)); (case side2 => repeat (first | (with_reducible first | exact HB.out | apply qo | apply qn | apply qm | refine ql ?_ (IsS64.ge HI0.out) | refine ql ?_ Au.out | refine ql ?_ Ay.out | refine ql ?_ AG.out) | exact HB.out)); rintro e CU ⟨rfl, hi, hb, hk⟩; refine ⟨_, rfl, ?_⟩; replace Ac := asd (KeepBut.blk hk (g' := Ar) (o := .cells #[.int .i64 AA, .int .i64 AB, .int .i64 AC] 25 (0, 0)) (bkp Ac) AD.out (by simp)); replace Ab := asd (KeepBut.blk hk (g' := Aj) (o := .cells #[.int .i64 0, .int .i64 0, .int .i64 0, .int .i64 0, .int .i64 0, .int .i64 0] 55 (0, 0)) (bkp Ab) AI.out (by simp)); replace Ag := asd (KeepBut.blk hk (g' := Ae) (o := .cells #[.int .i64 AO, .int .i64 AP, .int .i64 AQ, .int .i64 AR] 51 (0, 0)) (bkp Ag) Ax.out (by simp)); replace Az := asd (Kd.R_mono (Kd.R_keep (IsS64.apart (show IsS64 w0 _ g Ao Av Aw from by repeat (first | (with_reducible first | exact HI0.out | apply qc | apply qb | apply qf | apply qd | apply qe | refine qa ?_ Aa.out _ | refine qa ?_ Ad.out _ | refine qa ?_ Al.out _) | exact HI0.out)) (kr Az) (by decide)) hk (fun _ h => h.2)) (fun _ h => h.1)); replace HK := asd (KeepBut.trans (by repeat (first | (with_reducible first | exact HK.out | apply qg | apply qh | apply qj | apply qi | refine qk ?_ Ak.out _ | refine qk ?_ Ap.out _ | refine qk ?_ AE.out _) | exact HK.out)) hk (.inl rfl)); replace HB := asd (hb); replace HI0 := asd (hi); (try clear hb); (try clear hb2); (try clear hk); (try clear hi); have p278 : 0 ≤ (As : Int) := od; have q278 : As < (Ai.length : Int) := od; obtain ⟨ad278, e278, Bl, Bm, Bn, Bo⟩ := at_T51 (Kd.R_reads' Az.out).2.2 As p278 q278; cases e278; replace p278 := eq_true p278; replace q278 := eq_true q278; obtain ⟨Bp, Bq, Br, Bs, Bt, Bu, Bv, Bw⟩ := bz4 Ag))
 obtain ⟨AS, h_w30⟩ : ∃ w_, ((((CU.setCell ⟨Ae, 0, none⟩ (.int .i64 ((rd_T51 Ai As).f0))).setCell ⟨Ae, 1, none⟩ (.int .i64 ((rd_T51 Ai As).f1))).setCell ⟨Ae, 2, none⟩ (.int .i64 ((rd_T51 Ai As).f2))).setCell ⟨Ae, 3, none⟩ (.int .i64 ((rd_T51 Ai As).f3))) = w_ := ⟨_, rfl⟩
 replace Az : Aside0 (Kd.R k51 51 AS w.heap.size (fun k_ => k_ ≠ Ae) (.slice (some ad278) Ai.length co27) Ai) := by rw [← h_w30]; exact ⟨by (with_reducible repeat (first | apply Kd.R_alloc | apply Kd.R_drewN | apply Kd.R_drew)); exact Kd.R_mono (rw4 (Kd.R_mono Az.out (fun k_ hk => (⟨hk, hk.2⟩ : _ ∧ k_ ≠ Ae)))) (fun _ hk => hk.1.2)⟩
 replace Ac : Aside0 (AS.heap[Ar]? = some (.cells #[.int .i64 AA, .int .i64 AB, .int .i64 AC] 25 (0, 0))) := by rw [← h_w30]; exact ⟨bq1 Ac At⟩
 replace Ab : Aside0 (AS.heap[Aj]? = some (.cells #[.int .i64 0, .int .i64 0, .int .i64 0, .int .i64 0, .int .i64 0, .int .i64 0] 55 (0, 0))) := by rw [← h_w30]; exact ⟨bq1 Ab Ah⟩
 replace Ag : Aside0 (AS.heap[Ae]? = some (.cells #[.int .i64 ((rd_T51 Ai As).f0), .int .i64 ((rd_T51 Ai As).f1), .int .i64 ((rd_T51 Ai As).f2), .int .i64 ((rd_T51 Ai As).f3)] 51 (0, 0))) := by rw [← h_w30]; exact ⟨bq0 Ag⟩
 replace HK : Aside0 (KeepBut w AS g none) := by rw [← h_w30]; exact ⟨by repeat (first | (with_reducible first | exact HK.out | apply qg | apply qh | apply qj | apply qi | refine qk ?_ Ak.out _ | refine qk ?_ Ap.out _ | refine qk ?_ AE.out _) | exact HK.out)⟩
 replace HB : Aside0 (Below w0.heap.size w0 AS) := by rw [← h_w30]; exact ⟨by repeat (first | (with_reducible first | exact HB.out | apply qo | apply qn | apply qm | refine ql ?_ (IsS64.ge HI0.out) | refine ql ?_ Au.out | refine ql ?_ Ay.out | refine ql ?_ AG.out) | exact HB.out)⟩
 replace HI0 : Aside0 (IsS64 w0 AS g Ao AU AV) := by rw [← h_w30]; exact ⟨by repeat (first | (with_reducible first | exact HI0.out | apply qc | apply qb | apply qf | apply qd | apply qe | refine qa ?_ Aa.out _ | refine qa ?_ Ad.out _ | refine qa ?_ Al.out _) | exact HI0.out)⟩
 (try rw [h_w30]); clear h_w30
 replace Az := asd (Kd.R_drew Az.out)
 rotate_left
 focus try go_wp2_with (first | ((with_reducible refine gd 5 rfl ?_); refine bx #[.int .i64 AA, .int .i64 AB, .int .i64 AC] 25 ?_; intro Ar hg C2 Ac hb; replace HB := asd (below_step (by repeat (first | (with_reducible first | exact HB.out | apply qo | apply qn | apply qm | refine ql ?_ (IsS64.ge HI0.out)) | exact HB.out)) hb); have Ak := asd ((by rw [hg]; exact (keep_size (w := w) (g := g) (row := none) (by repeat (first | (with_reducible first | exact HK.out | apply qg | apply qh | apply qj | apply qi) | exact HK.out))) : w.heap.size ≤ Ar)); have Au := asd ((Nat.le_trans HW0.out (by rw [hg]; exact (keep_size (w := w) (g := g) (row := none) (by repeat (first | (with_reducible first | exact HK.out | apply qg | apply qh | apply qj | apply qi) | exact HK.out))) : w.heap.size ≤ Ar) : w0.heap.size ≤ Ar)); replace HK := asd (KeepBut.trans (by repeat (first | (with_reducible first | exact HK.out | apply qg | apply qh | apply qj | apply qi) | exact HK.out)) (KeepBut.of_below hb g none) (.inl rfl)); have Aa := asd ((by rw [hg]; exact Nat.ne_of_lt (IsS64.lt (show IsS64 w0 _ g Ao Av Aw from by repeat (first | (with_reducible first | exact HI0.out | apply qc | apply qb | apply qf | apply qd | apply qe) | exact HI0.out))) : g ≠ Ar)); have AD := asd ((by rw [hg]; exact Nat.ne_of_gt (IsS64.lt (show IsS64 w0 _ g Ao Av Aw from by repeat (first | (with_reducible first | exact HI0.out | apply qc | apply qb | apply qf | apply qd | apply qe) | exact HI0.out))) : Ar ≠ g)); replace HI0 := asd (IsS64.below (by repeat (first | (with_reducible first | exact HI0.out | apply qc | apply qb | apply qf | apply qd | apply qe) | exact HI0.out)) hb); clear hb hg) | ((with_reducible refine gd 6 rfl ?_); refine bx #[.int .i64 0, .int .i64 0, .int .i64 0, .int .i64 0, .int .i64 0, .int .i64 0] 55 ?_; intro Aj hg C3 Ab hb; replace HB := asd (below_step (by repeat (first | (with_reducible first | exact HB.out | apply qo | apply qn | apply qm | refine ql ?_ (IsS64.ge HI0.out) | refine ql ?_ Au.out) | exact HB.out)) hb); have Ap := asd ((by rw [hg]; exact (keep_size (w := w) (g := g) (row := none) (by repeat (first | (with_reducible first | exact HK.out | apply qg | apply qh | apply qj | apply qi | refine qk ?_ Ak.out _) | exact HK.out))) : w.heap.size ≤ Aj)); have Ay := asd ((Nat.le_trans HW0.out (by rw [hg]; exact (keep_size (w := w) (g := g) (row := none) (by repeat (first | (with_reducible first | exact HK.out | apply qg | apply qh | apply qj | apply qi | refine qk ?_ Ak.out _) | exact HK.out))) : w.heap.size ≤ Aj) : w0.heap.size ≤ Aj)); replace HK := asd (KeepBut.trans (by repeat (first | (with_reducible first | exact HK.out | apply qg | apply qh | apply qj | apply qi | refine qk ?_ Ak.out _) | exact HK.out)) (KeepBut.of_below hb g none) (.inl rfl)); have Am := nlt hg Ac; have An := nsy (nlt hg Ac); replace Ac := bB Ac hb; have Ad := asd ((by rw [hg]; exact Nat.ne_of_lt (IsS64.lt (show IsS64 w0 _ g Ao Av Aw from by repeat (first | (with_reducible first | exact HI0.out | apply qc | apply qb | apply qf | apply qd | apply qe | refine qa ?_ Aa.out _) | exact HI0.out))) : g ≠ Aj)); have AI := asd ((by rw [hg]; exact Nat.ne_of_gt (IsS64.lt (show IsS64 w0 _ g Ao Av Aw from by repeat (first | (with_reducible first | exact HI0.out | apply qc | apply qb | apply qf | apply qd | apply qe | refine qa ?_ Aa.out _) | exact HI0.out))) : Aj ≠ g)); replace HI0 := asd (IsS64.below (by repeat (first | (with_reducible first | exact HI0.out | apply qc | apply qb | apply qf | apply qd | apply qe | refine qa ?_ Aa.out _) | exact HI0.out)) hb); clear hb hg) | ((with_reducible refine gate_callee (f := 41) rfl ?_); refine gl 9 Try.func41 #[] ?_; (with_reducible refine (spec_l02Unit.calls _ _ _ _ _ A4.out).mono ?_); rintro e C4 ⟨rfl, hb⟩; refine ⟨_, rfl, ?_⟩; replace Ac := bB Ac hb; replace Ab := bB Ab hb; replace HK := asd (KeepBut.trans (by repeat (first | (with_reducible first | exact HK.out | apply qg | apply qh | apply qj | apply qi | refine qk ?_ Ak.out _ | refine qk ?_ Ap.out _) | exact HK.out)) (KeepBut.of_below hb g none) (.inl rfl)); replace HB := asd (below_step (by repeat (first | (with_reducible first | exact HB.out | apply qo | apply qn | apply qm | refine ql ?_ (IsS64.ge HI0.out) | refine ql ?_ Au.out | refine ql ?_ Ay.out) | exact HB.out)) hb); replace HI0 := asd (IsS64.below (by repeat (first | (with_reducible first | exact HI0.out | apply qc | apply qb | apply qf | apply qd | apply qe | refine qa ?_ Aa.out _ | refine qa ?_ Ad.out _) | exact HI0.out)) hb); (try clear hb)) | ((with_reducible refine gd 7 rfl ?_); refine bx #[.int .i64 0, .int .i64 0, .int .i64 0, .int .i64 0] 51 ?_; intro Ae hg CV Ag hb; replace HB := asd (below_step (by repeat (first | (with_reducible first | exact HB.out | apply qo | apply qn | apply qm | refine ql ?_ (IsS64.ge HI0.out) | refine ql ?_ Au.out | refine ql ?_ Ay.out) | exact HB.out)) hb); have AE := asd ((by rw [hg]; exact (keep_size (w := w) (g := g) (row := none) (by repeat (first | (with_reducible first | exact HK.out | apply qg | apply qh | apply qj | apply qi | refine qk ?_ Ak.out _ | refine qk ?_ Ap.out _) | exact HK.out))) : w.heap.size ≤ Ae)); have AG := asd ((Nat.le_trans HW0.out (by rw [hg]; exact (keep_size (w := w) (g := g) (row := none) (by repeat (first | (with_reducible first | exact HK.out | apply qg | apply qh | apply qj | apply qi | refine qk ?_ Ak.out _ | refine qk ?_ Ap.out _) | exact HK.out))) : w.heap.size ≤ Ae) : w0.heap.size ≤ Ae)); replace HK := asd (KeepBut.trans (by repeat (first | (with_reducible first | exact HK.out | apply qg | apply qh | apply qj | apply qi | refine qk ?_ Ak.out _ | refine qk ?_ Ap.out _) | exact HK.out)) (KeepBut.of_below hb g none) (.inl rfl)); have At := nlt hg Ac; have AH := nsy (nlt hg Ac); replace Ac := bB Ac hb; have Ah := nlt hg Ab; have Af := nsy (nlt hg Ab); replace Ab := bB Ab hb; have Al := asd ((by rw [hg]; exact Nat.ne_of_lt (IsS64.lt (show IsS64 w0 _ g Ao Av Aw from by repeat (first | (with_reducible first | exact HI0.out | apply qc | apply qb | apply qf | apply qd | apply qe | refine qa ?_ Aa.out _ | refine qa ?_ Ad.out _) | exact HI0.out))) : g ≠ Ae)); have Ax := asd ((by rw [hg]; exact Nat.ne_of_gt (IsS64.lt (show IsS64 w0 _ g Ao Av Aw from by repeat (first | (with_reducible first | exact HI0.out | apply qc | apply qb | apply qf | apply qd | apply qe | refine qa ?_ Aa.out _ | refine qa ?_ Ad.out _) | exact HI0.out))) : Ae ≠ g)); replace HI0 := asd (IsS64.below (by repeat (first | (with_reducible first | exact HI0.out | apply qc | apply qb | apply qf | apply qd | apply qe | refine qa ?_ Aa.out _ | refine qa ?_ Ad.out _) | exact HI0.out)) hb); clear hb hg; have CC := AH.out; have CD := At.out; have CE := Af.out; have CF := Ah.out; have CG := Ax.out; have CH := Al.out; obtain ⟨Bx, By, Bz, BA, BB, BC, BD, BE⟩ := bz4 Ag; have CI := Am.out; have CJ := An.out; have CK := AD.out; have CL := Aa.out; obtain ⟨BF, BG, BH, BI, BJ, BK⟩ := bz3 Ac) | ((with_reducible refine gate_callee (f := 28) rfl ?_); refine gl 12 Try.func28 #[.int .i64 a1, .agg #[.int .i64 AA, .int .i64 AB, .int .i64 AC]] ?_; (with_reducible refine (spec_l04Code.calls _ _ _ _ _ _ A5.out).mono ?_); rintro e CW ⟨rfl, hb⟩; refine ⟨_, rfl, ?_⟩; replace Ac := asd (blk_below (g := Ar) (o := .cells #[.int .i64 AA, .int .i64 AB, .int .i64 AC] 25 (0, 0)) (bq1 Ac At) hb); replace Ab := asd (blk_below (g := Aj) (o := .cells #[.int .i64 0, .int .i64 0, .int .i64 0, .int .i64 0, .int .i64 0, .int .i64 0] 55 (0, 0)) (bq1 Ab Ah) hb); replace Ag := asd (blk_below (g := Ae) (o := .cells #[.int .i64 AO, .int .i64 AP, .int .i64 AQ, .int .i64 AR] 51 (0, 0)) (bq0 Ag) hb); replace HK := asd (KeepBut.trans (by repeat (first | (with_reducible first | exact HK.out | apply qg | apply qh | apply qj | apply qi | refine qk ?_ Ak.out _ | refine qk ?_ Ap.out _ | refine qk ?_ AE.out _) | exact HK.out)) (KeepBut.of_below hb g none) (.inl rfl)); replace HB := asd (below_step (by repeat (first | (with_reducible first | exact HB.out | apply qo | apply qn | apply qm | refine ql ?_ (IsS64.ge HI0.out) | refine ql ?_ Au.out | refine ql ?_ Ay.out | refine ql ?_ AG.out) | exact HB.out)) hb); replace HI0 := asd (IsS64.below (show IsS64 w0 ((((CV.setCell ⟨Ae, 0, none⟩ (.int .i64 AO)).setCell ⟨Ae, 1, none⟩ (.int .i64 AP)).setCell ⟨Ae, 2, none⟩ (.int .i64 AQ)).setCell ⟨Ae, 3, none⟩ (.int .i64 AR)) g Ao Av Aw from by repeat (first | (with_reducible first | exact HI0.out | apply qc | apply qb | apply qf | apply qd | apply qe | refine qa ?_ Aa.out _ | refine qa ?_ Ad.out _ | refine qa ?_ Al.out _) | exact HI0.out)) hb); (try clear hb)))
 rotate_left
 all_goals
  replace Ac := asd (blk_drew Ac.out);replace Ab := asd (blk_drew Ab.out);replace Ag := asd (blk_drew Ag.out);replace HI0 := asd (qf HI0.out);replace HK := asd (qj HK.out);replace HB := asd (qm HB.out);refine sh 10 (eb4 Ag) (fun hHeld => ?_); refine with_tabW spec_l06DrawMotion.tab5 spec_l06DrawMotion.bits5 (fun HT_ HW_ => ?_)
 generalize AS.drew = C5 at Az Ac Ab Ag HI0 HK HB hHeld ⊢
 rotate_left
 generalize CW.drew = C6 at Ac Ab Ag HI0 HK HB hHeld ⊢
 rotate_left
 all_goals
  refine pu 1 (some 25) (bs 10 2) HT_ ?_;refine pu 4 (some 28) (bs 10 18) HT_ ?_;refine ta 0 (some 24) (bs 10 19) HT_ HW_ hHeld ?_;refine ro 2 (some 26) (bs 10 23) HT_ (fun K hK => ?_);refine gs Try.func29 #[.pointer (some ⟨g, 0, none⟩), .int .i64 9] ?_;with_reducible refine (spec_l01Next.calls _ _ _ _ _ _ _ _ w0 _ ?side1 ?side2 Cp.out).mono ?_
  (case side1 => repeat (first | (with_reducible first | exact HI0.out | apply qc | apply qb | apply qf | apply qd | apply qe | refine qa ?_ Aa.out _ | refine qa ?_ Ad.out _ | refine qa ?_ Al.out _) | exact HI0.out))
  (case side2 => repeat (first | (with_reducible first | exact HB.out | apply qo | apply qn | apply qm | refine ql ?_ (IsS64.ge HI0.out) | refine ql ?_ Au.out | refine ql ?_ Ay.out | refine ql ?_ AG.out) | exact HB.out))
  rintro e C7 ⟨rfl, hi, hb, hk⟩;refine ⟨_, rfl, ?_⟩;replace Ac := asd (KeepBut.blk hk (g' := Ar) (o := .cells #[.int .i64 AA, .int .i64 AB, .int .i64 AC] 25 (0, 0)) (bkp Ac) AD.out (by simp));replace Ab := asd (KeepBut.blk hk (g' := Aj) (o := .cells #[.int .i64 0, .int .i64 0, .int .i64 0, .int .i64 0, .int .i64 0, .int .i64 0] 55 (0, 0)) (bkp Ab) AI.out (by simp))
 replace Ag := asd (KeepBut.blk hk (g' := Ae) (o := .cells #[.int .i64 ((rd_T51 Ai As).f0), .int .i64 ((rd_T51 Ai As).f1), .int .i64 ((rd_T51 Ai As).f2), .int .i64 ((rd_T51 Ai As).f3)] 51 (0, 0)) (bkp Ag) Ax.out (by simp))
 replace Az := asd (Kd.R_mono (Kd.R_keep (IsS64.apart (show IsS64 w0 _ g Ao AU AV from by repeat (first | (with_reducible first | exact HI0.out | apply qc | apply qb | apply qf | apply qd | apply qe | refine qa ?_ Aa.out _ | refine qa ?_ Ad.out _ | refine qa ?_ Al.out _) | exact HI0.out)) (kr Az) (by decide)) hk (fun _ h => h.2)) (fun _ h => h.1))
 rotate_left
 replace Ag := asd (KeepBut.blk hk (g' := Ae) (o := .cells #[.int .i64 AO, .int .i64 AP, .int .i64 AQ, .int .i64 AR] 51 (0, 0)) (bkp Ag) Ax.out (by simp))
 rotate_left
 all_goals
  replace HK := asd (KeepBut.trans (by repeat (first | (with_reducible first | exact HK.out | apply qg | apply qh | apply qj | apply qi | refine qk ?_ Ak.out _ | refine qk ?_ Ap.out _ | refine qk ?_ AE.out _) | exact HK.out)) hk (.inl rfl));replace HB := asd (hb);replace HI0 := asd (hi);(try clear hb);(try clear hb2);(try clear hk);(try clear hi);refine hK.out _ _ (eb4 Ag).out (fun hHeld => ?_);clear hK K;refine norm_ (a' := ?_) ?_ ?_;rotate_left
  ·show Act.put _ (some 26) _ = _
   simp only [Act.put, sA, sB, sC, i64_w, i32_w];rfl
  refine pu 3 (some 27) (bT 10 5) HT_ ?_;refine ro 5 (some 29) (bT 10 6) HT_ (fun K hK => ?_);refine gs Try.func29 #[.pointer (some ⟨g, 0, none⟩), .int .i64 9] ?_;with_reducible refine (spec_l01Next.calls _ _ _ _ _ _ _ _ w0 _ ?side1 ?side2 Cq.out).mono ?_
  (case side1 => repeat (first | (with_reducible first | exact HI0.out | apply qc | apply qb | apply qf | apply qd | apply qe | refine qa ?_ Aa.out _ | refine qa ?_ Ad.out _ | refine qa ?_ Al.out _) | exact HI0.out))
  (case side2 => repeat (first | (with_reducible first | exact HB.out | apply qo | apply qn | apply qm | refine ql ?_ (IsS64.ge HI0.out) | refine ql ?_ Au.out | refine ql ?_ Ay.out | refine ql ?_ AG.out) | exact HB.out))
  rintro e AT ⟨rfl, hi, hb, hk⟩;refine ⟨_, rfl, ?_⟩;replace Ac := asd (KeepBut.blk hk (g' := Ar) (o := .cells #[.int .i64 AA, .int .i64 AB, .int .i64 AC] 25 (0, 0)) (bkp Ac) AD.out (by simp));replace Ab := asd (KeepBut.blk hk (g' := Aj) (o := .cells #[.int .i64 0, .int .i64 0, .int .i64 0, .int .i64 0, .int .i64 0, .int .i64 0] 55 (0, 0)) (bkp Ab) AI.out (by simp))
 replace Ag := asd (KeepBut.blk hk (g' := Ae) (o := .cells #[.int .i64 ((rd_T51 Ai As).f0), .int .i64 ((rd_T51 Ai As).f1), .int .i64 ((rd_T51 Ai As).f2), .int .i64 ((rd_T51 Ai As).f3)] 51 (0, 0)) (bkp Ag) Ax.out (by simp))
 replace Az := asd (Kd.R_mono (Kd.R_keep (IsS64.apart (show IsS64 w0 _ g Ao Cj Ck from by repeat (first | (with_reducible first | exact HI0.out | apply qc | apply qb | apply qf | apply qd | apply qe | refine qa ?_ Aa.out _ | refine qa ?_ Ad.out _ | refine qa ?_ Al.out _) | exact HI0.out)) (kr Az) (by decide)) hk (fun _ h => h.2)) (fun _ h => h.1))
 rotate_left
 replace Ag := asd (KeepBut.blk hk (g' := Ae) (o := .cells #[.int .i64 AO, .int .i64 AP, .int .i64 AQ, .int .i64 AR] 51 (0, 0)) (bkp Ag) Ax.out (by simp))
 rotate_left
 all_goals
  replace HK := asd (KeepBut.trans (by repeat (first | (with_reducible first | exact HK.out | apply qg | apply qh | apply qj | apply qi | refine qk ?_ Ak.out _ | refine qk ?_ Ap.out _ | refine qk ?_ AE.out _) | exact HK.out)) hk (.inl rfl));replace HB := asd (hb);replace HI0 := asd (hi);(try clear hb);(try clear hb2);(try clear hk);(try clear hi);refine hK.out _ _ (eb4 Ag).out (fun hHeld => ?_);clear hK K;refine norm_ (a' := ?_) ?_ ?_;rotate_left
  ·show Act.put _ (some 29) _ = _
   simp only [Act.put, sA, sB, sC, i64_w, i32_w];rfl
  refine pu 6 (some 30) (bT 10 7) HT_ ?_;refine pu 7 (some 31) (bT 10 8) HT_ ?_;refine pu 8 (some 32) (bT 10 9) HT_ ?_;refine ro 9 (none) (bT 10 10) HT_ (fun K hK => ?_);have hs34 : AT.cell? ⟨Aj, 0, none⟩ = some (.int .i64 0) := bcl Ab 0;have hfs34 := blk_frozen Ab.out 0;have BL := Am.out;have BM := Af.out;have BN := An.out;have BO := Ah.out;have hs35 : AT.cell? ⟨Aj, 1, none⟩ = some (.int .i64 0) := bcl Ab 1;have hfs35 := blk_frozen Ab.out 1;have BP := Am.out;have BQ := Af.out;have BR := An.out;have BS := Ah.out;have hs36 : AT.cell? ⟨Aj, 2, none⟩ = some (.int .i64 0) := bcl Ab 2;have hfs36 := blk_frozen Ab.out 2;have BT := Am.out;have BU := Af.out;have BV := An.out;have BW := Ah.out;have hs37 : AT.cell? ⟨Aj, 3, none⟩ = some (.int .i64 0) := bcl Ab 3;have hfs37 := blk_frozen Ab.out 3;have BX := Am.out;have BY := Af.out;have BZ := An.out;have B0 := Ah.out;have hs38 : AT.cell? ⟨Aj, 4, none⟩ = some (.int .i64 0) := bcl Ab 4;have hfs38 := blk_frozen Ab.out 4;have B3 := Am.out;have B8 := Af.out;have Ca := An.out;have Cb := Ah.out;have hs39 : AT.cell? ⟨Aj, 5, none⟩ = some (.int .i64 0) := bcl Ab 5;have hfs39 := blk_frozen Ab.out 5;have Cc := Am.out;have Cd := Af.out;have Ce := An.out;have Cf := Ah.out;refine skip_ (w1 := ?_) (by rfl) rfl ?_ ?_;rotate_left
  ·go_simp;rfl
  refine hK.out _ _ ⟨(cf6 Af (hHeld.1)), (cf6 Af (hHeld.2.1)), (cf6 Af (hHeld.2.2.1)), (cf6 Af (hHeld.2.2.2))⟩ (fun hHeld => ?_);clear hK K;refine done_ (done_of HT_.out (by kernel_rfl)) ?_;focus try go_wp2
 refine bodyPost_ret (results_cell_row rfl _ _ Aj 55 #[.int .i64 ((rd_T51 Ai As).f0), .int .i64 ((rd_T51 Ai As).f1), .int .i64 ((rd_T51 Ai As).f2), .int .i64 ((rd_T51 Ai As).f3), .int .i64 (wrap64 (Ci - 4)), .int .i64 (wrap64 (Cl - 4))] (0, 0) _ rfl (bq0 Ab) Try.underlying55 rfl (by kernel_rfl)) rfl ?_
 rotate_left
 refine bodyPost_ret (results_cell_row rfl _ _ Aj 55 #[.int .i64 AO, .int .i64 AP, .int .i64 AQ, .int .i64 AR, .int .i64 (wrap64 (Cm - 4)), .int .i64 (wrap64 (Cn - 4))] (0, 0) _ rfl (bq0 Ab) Try.underlying55 rfl (by kernel_rfl)) rfl ?_
 rotate_left
 all_goals
  exact ⟨by first | rfl | (simp [errW_none, errW_some] <;> rfl) | (simp [*, errW_none, errW_some] <;> rfl), by repeat (first | (with_reducible first | exact HI0.out | apply qc | apply qb | apply qf | apply qd | apply qe | refine qa ?_ Aa.out _ | refine qa ?_ Ad.out _ | refine qa ?_ Al.out _) | exact HI0.out), by repeat (first | (with_reducible first | exact HB.out | apply qo | apply qn | apply qm | refine ql ?_ (IsS64.ge HI0.out) | refine ql ?_ Au.out | refine ql ?_ Ay.out | refine ql ?_ AG.out) | exact HB.out), by repeat (first | (with_reducible first | exact HK.out | apply qg | apply qh | apply qj | apply qi | refine qk ?_ Ak.out _ | refine qk ?_ Ap.out _ | refine qk ?_ AE.out _) | exact HK.out)⟩
mutual
def spec_l01LessList.l0 : Nat → List Int → List Int → Int → Option (Bool)
 | 0, _, _, _ => none
 | k + 1, x0, x1, x5 => if x5 < (x0.length : Int) then (spec_l01LessList.j1 k x0 x1 x5 (decide (x5 < (x1.length : Int)))) else (spec_l01LessList.j1 k x0 x1 x5 false)
def spec_l01LessList.j1 : Nat → List Int → List Int → Int → Bool → Option (Bool)
 | 0, _, _, _, _ => none
 | k + 1, x0, x1, x5, Am => if Am = true then (if 0 ≤ x5 then (if x5 < (x0.length : Int) then (if x5 < (x1.length : Int) then (if (rd x0 x5) = (rd x1 x5) then (spec_l01LessList.l0 k x0 x1 (wrap64 (x5 + 1))) else (some (decide ((rd x0 x5) < (rd x1 x5))))) else (none)) else (none)) else (none)) else (some (decide ((x0.length : Int) < (x1.length : Int))))
end
def spec_l01LessList.f (k : Nat) (l0 : List Int) (l1 : List Int) : Option (Bool) := spec_l01LessList.l0 k l0 l1 0
theorem spec_l01LessList.calls (k : Nat) (A0 : Option Addr) (c0 : Nat) (l0 : List Int) (A1 : Option Addr) (c1 : Nat) (l1 : List Int) (r : Bool) (w : World) (hr0 : Kd.C (Kd.int .i64) w A0 l0.length l0) (hc0 : l0.length ≤ c0) (hr1 : Kd.C (Kd.int .i64) w A1 l1.length l1) (hc1 : l1.length ≤ c1) (h : spec_l01LessList.f k l0 l1 = some r) :
  Calls Try.prog 91 #[.slice A0 l0.length c0, .slice A1 l1.length c1] w fun e w' => e = .returned (.bool r) ∧ Drawn0 w w' := by
 have HR0 := Aside0.mk hr0
 have Ar := Aside0.mk hc0
 clear hr0 hc0
 have HR1 := Aside0.mk hr1
 have As := Aside0.mk hc1
 clear hr1 hc1
 have H : (spec_l01LessList.l0 k l0 l1 0) = some r := h
 clear h
 have H' := Aside0.mk H
 clear H
 go_enter Try.func91, Try.ntmps91
 go_wp2
 repeat (go_quiet (fail); try go_wp2)
 go_loopg [5] k (fun kq v5 w' => ∃ (Aa : Int), v5 = .int .i64 Aa ∧ Aside0 (spec_l01LessList.l0 kq l0 l1 Aa = some r) ∧ Aside0 (kq ≤ k) ∧ Drawn0 w w')
 case atStart => exact ⟨(0), (by first | rfl | (simp; done) | (simp [*]; done)), H', ⟨Nat.le_refl _⟩, by repeat (first | exact Drawn0.refl _ | apply Drawn0.step)⟩
 case round =>
  clear H';try clear c1
  obtain ⟨Aa, rfl, HA, Ad, ⟨m1, rfl⟩⟩ := hrel;cases gk with
  | zero => exact absurd HA.out (by simp [spec_l01LessList.l0])
  | succ k1 =>
   have H := HA.out;clear HA;simp only [spec_l01LessList.l0] at H;have Ai := Aside0.mk H;clear H;go_upto_region 2 with (fail)
   repeat (go_quiet (fail); go_upto_region 2 with (fail))
   go_cut [15] (fun v15 wc => ∃ (kq : Nat) (Ab : Bool), v15 = .bool Ab ∧ Aside0 (spec_l01LessList.j1 kq l0 l1 Aa Ab = some r) ∧ Aside0 (kq ≤ k1) ∧ Drawn0 w wc)
   case first =>
    have H := Ai.out;clear Ai;by_cases c4 : Aa < (l0.length : Int)
    ·rw [if_pos c4] at H;have Ac := qp c4;clear c4;(first | rw [Ac] | (simp only [i64_w, i32_w]; rw [Ac]) | skip)
     have H' := Aside0.mk H;clear H;go_wp2
     repeat (go_quiet (fail); try go_wp2)
     go_meet
     case rel => exact ⟨_, (decide (Aa < (l1.length : Int))), (by first | rfl | (simp; done) | (simp [*]; done)), H', ⟨by have := Ad.out; first | omega | exact Nat.le_refl _⟩, by repeat (first | exact Drawn0.refl _ | apply Drawn0.step)⟩
    ·rw [if_neg c4] at H;have Ac := qq c4;clear c4;(first | rw [Ac] | (simp only [i64_w, i32_w]; rw [Ac]) | skip)
     have H' := Aside0.mk H;clear H;go_wp2
     repeat (go_quiet (fail); try go_wp2)
     go_meet
     case rel => exact ⟨_, (false), (by first | rfl | (simp; done) | (simp [*]; done)), H', ⟨by have := Ad.out; first | omega | exact Nat.le_refl _⟩, by repeat (first | exact Drawn0.refl _ | apply Drawn0.step)⟩
   case rest =>
    clear Ai;(try clear c1);(try clear c4);(try clear Ac);obtain ⟨kq, Ab, rfl, HA, Al, ⟨mc2, rfl⟩⟩ := hcut;cases kq with
    | zero => exact absurd HA.out (by simp [spec_l01LessList.j1])
    | succ An =>
     have H := HA.out;clear HA;simp only [spec_l01LessList.j1] at H;by_cases c5 : Ab = true
     subst c5;replace H := ifT H;by_cases c6 : 0 ≤ Aa
     rw [if_pos c6] at H;have Ao := qp c6;clear c6;by_cases c7 : Aa < (l0.length : Int)
     rw [if_pos c7] at H;have Ap := qp c7;clear c7;by_cases c8 : Aa < (l1.length : Int)
     rw [if_pos c8] at H;have Aq := qp c8;clear c8;by_cases c9 : (rd l0 Aa) = (rd l1 Aa)
     rw [if_pos c9] at H;have Aj : ((rd l0 Aa) == (rd l1 Aa)) = true := beq_iff_eq.mpr c9;have Ak : ((rd l0 Aa) != (rd l1 Aa)) = false := bne_eq_false_iff_eq.mpr c9;clear c9;have H' := Aside0.mk H;clear H;rotate_left;rw [if_neg c9] at H;have Aj : ((rd l0 Aa) == (rd l1 Aa)) = false := beq_eq_false_iff_ne.mpr c9;have Ak : ((rd l0 Aa) != (rd l1 Aa)) = true := bne_iff_ne.mpr c9;obtain rfl := Option.some.inj H;rotate_left
     ·rw [if_neg c8] at H;exact absurd H (by simp)
     ·rw [if_neg c7] at H;exact absurd H (by simp)
     ·rw [if_neg c6] at H;exact absurd H (by simp)
     replace c5 := Bool.eq_false_iff.mpr c5;subst c5;replace H := ifF H;obtain rfl := Option.some.inj H;rotate_left;rotate_left 2
     ·go_wp2
      repeat (go_quiet (fail); try go_wp2)
      go_ret
      exact ⟨by first | rfl | (simp; done) | (simp [*]; done), by repeat (first | exact Drawn0.refl _ | apply Drawn0.step)⟩
     all_goals
      have p291 : 0 ≤ (Aa : Int) := od;have q291 : Aa < (l0.length : Int) := od;obtain ⟨ad291, e291, Ae⟩ := Kd.at_int HR0.out Aa p291 q291;cases e291
      replace p291 := eq_true p291;replace q291 := eq_true q291;have p292 : 0 ≤ (Aa : Int) := od;have q292 : Aa < (l1.length : Int) := od;obtain ⟨ad292, e292, Af⟩ := Kd.at_int HR1.out Aa p292 q292;cases e292
      replace p292 := eq_true p292;replace q292 := eq_true q292
     ·go_wp2
      repeat (go_quiet (fail); try go_wp2)
      go_roundg An
      case measure => have := Ad.out; have := Al.out; omega
      case rel => exact ⟨(wrap64 (Aa + 1)), (by first | rfl | (simp; done) | (simp [*]; done)), H', ⟨by have := Ad.out; have := Al.out; omega⟩, by repeat (first | exact Drawn0.refl _ | apply Drawn0.step)⟩
     ·have p293 : 0 ≤ (Aa : Int) := od;have q293 : Aa < (l0.length : Int) := od;obtain ⟨ad293, e293, Ag⟩ := Kd.at_int HR0.out Aa p293 q293;obtain rfl : ad291 = ad293 := (by injection e293);replace p293 := eq_true p293;replace q293 := eq_true q293;have p294 : 0 ≤ (Aa : Int) := od;have q294 : Aa < (l1.length : Int) := od;obtain ⟨ad294, e294, Ah⟩ := Kd.at_int HR1.out Aa p294 q294;obtain rfl : ad292 = ad294 := (by injection e294);replace p294 := eq_true p294;replace q294 := eq_true q294;go_wp2
      repeat (go_quiet (fail); try go_wp2)
      go_ret
      exact ⟨by first | rfl | (simp; done) | (simp [*]; done), by repeat (first | exact Drawn0.refl _ | apply Drawn0.step)⟩
def spec_l02Numbers.f (Aa : Int) (Ab : Int) (Ac : Int) (Ad : Int) : Option (List Int) := some (([Aa, Ab, Ac, Ad] : List Int))
theorem spec_l02Numbers.calls (Aa : Int) (Ab : Int) (Ac : Int) (Ad : Int) (r : List Int) (w : World) (h : spec_l02Numbers.f Aa Ab Ac Ad = some r) :
  Calls Try.prog 92 #[.agg #[.int .i64 Aa, .int .i64 Ab, .int .i64 Ac, .int .i64 Ad]] w fun e w' => ∃ v0_ : Value, e = .returned (v0_) ∧ Kd.R (Kd.int .i64) 2 w' w.heap.size (fun _ => True) v0_ r ∧ Below w.heap.size w w' := by
 have hu51 := Try.underlying51
 have HB := asd (Below.refl w.heap.size w)
 have H : (some (([Aa, Ab, Ac, Ad] : List Int))) = some r := h
 clear h
 obtain ⟨Ak, Ae⟩ : ∃ y_ : List Int, y_ = (([Aa, Ab, Ac, Ad] : List Int)) := ⟨_, rfl⟩
 replace H : (some Ak) = some r := by first | (rw [Ae]; with_reducible exact H) | (have H2_ := (Option.bind_some _ _).symm.trans H; rw [Ae]; with_reducible exact H2_) | (have H2_ := (Option.bind_some _ _).symm.trans H; with_reducible exact H2_) | with_reducible exact H | (rw [Ae]; exact H) | exact H
 have Ah := Aside0.mk Ae
 clear Ae
 obtain rfl := Option.some.inj H
 go_enter Try.func92, Try.ntmps92
 go_wp2_with (first | ((with_reducible refine gd 1 rfl ?_); refine bx #[.int .i64 Aa, .int .i64 Ab, .int .i64 Ac, .int .i64 Ad] 51 ?_; intro At hg w2 Af hb; have Ag := ngw0 hg HB; replace HB := bS0 HB hb; clear hb hg; obtain ⟨Al, Am, An, Ao, Ap, Aq, Ar, As⟩ := bz4 Af) | ((with_reducible refine gd 11 rfl ?_); refine Kd.R_lit (Kd.int .i64) _ 2 ?hg (N := 11) ?hd (xs := ([Aa, Ab, Ac, Ad] : List Int)) (inner := [.int .i64 Aa, .int .i64 Ab, .int .i64 Ac, .int .i64 Ad]) (ok := fun _ => True) (okp := fun _ => True) ?hr ?hp (fun _ hk => hk) trivial (Below.refl _ _) (Nat.le_refl _) (by simp) ?_; (case hd => rfl); (case hg => rfl); (case hr => first | (go_simp; done) | (go_simp; rfl)); (case hp => exact (Reps.one (show Kd.M (Kd.int .i64) _ _ _ Aa [.int .i64 Aa] from rfl) (Reps.one (show Kd.M (Kd.int .i64) _ _ _ Ab [.int .i64 Ab] from rfl) (Reps.one (show Kd.M (Kd.int .i64) _ _ _ Ac [.int .i64 Ac] from rfl) (Reps.one (show Kd.M (Kd.int .i64) _ _ _ Ad [.int .i64 Ad] from rfl) (Reps.none _ _)))))); intro v297 w4 Ai hb hg_ hnew_; clear hg_ hnew_; (first | rw [← Ah.out] at Ai | (simp only [Int.reduceToNat] at Ai; rw [← Ah.out] at Ai)); have Aj := asd (Kd.R_lower Ai (bsz1 HB Ag)); replace Af := bB Af hb; replace HB := bS1 HB Ag hb; clear hb Ai))
 go_ret
 exact ⟨_, by first | rfl | (simp [errW_none, errW_some] <;> rfl) | (simp [*, errW_none, errW_some] <;> rfl), by (with_reducible repeat (first | apply Kd.R_alloc | apply Kd.R_drewN | apply Kd.R_drew)); exact Aj.out, bbw1 HB Ag⟩
attribute [local go_sem high] eqA51 eqA55
def spec_l02Less.f (k : Nat) (Af : Int) (Ag : Int) (Ah : Int) (Ai : Int) (Aj : Int) (Ak : Int) (Al : Int) (Am : Int) : Option (Bool) := (spec_l02Numbers.f Af Ag Ah Ai).bind fun An => ((spec_l02Numbers.f Aj Ak Al Am).bind fun Ao => ((spec_l01LessList.f k An Ao).bind fun Aq => (some Aq)))
theorem spec_l02Less.calls (k : Nat) (Af : Int) (Ag : Int) (Ah : Int) (Ai : Int) (Aj : Int) (Ak : Int) (Al : Int) (Am : Int) (r : Bool) (w : World) (h : spec_l02Less.f k Af Ag Ah Ai Aj Ak Al Am = some r) :
  Calls Try.prog 64 #[.agg #[.int .i64 Af, .int .i64 Ag, .int .i64 Ah, .int .i64 Ai], .agg #[.int .i64 Aj, .int .i64 Ak, .int .i64 Al, .int .i64 Am]] w fun e w' => e = .returned (.bool r) ∧ Below w.heap.size w w' := by
 have hu51 := Try.underlying51
 have HB := asd (Below.refl w.heap.size w)
 have H : ((spec_l02Numbers.f Af Ag Ah Ai).bind fun An => ((spec_l02Numbers.f Aj Ak Al Am).bind fun Ao => ((spec_l01LessList.f k An Ao).bind fun Aq => (some Aq)))) = some r := h
 clear h
 obtain ⟨An, A3, H⟩ := ob H
 try dsimp only at H
 obtain ⟨Ao, A4, H⟩ := ob H
 try dsimp only at H
 obtain ⟨Aq, A5, H⟩ := ob H
 try dsimp only at H
 obtain rfl := Option.some.inj H
 go_enter Try.func64, Try.ntmps64
 try go_wp2_with (first | ((with_reducible refine gd 2 rfl ?_); refine bx #[.int .i64 Af, .int .i64 Ag, .int .i64 Ah, .int .i64 Ai] 51 ?_; intro Au hg w6 Aa hb; have Ac := ngw0 hg HB; replace HB := bS0 HB hb; clear hb hg) | ((with_reducible refine gd 3 rfl ?_); refine bx #[.int .i64 Aj, .int .i64 Ak, .int .i64 Al, .int .i64 Am] 51 ?_; intro Av hg w7 Ab hb; have Ae := ngw1 hg HB Ac; replace HB := bS1 HB Ac hb; have Ar := nlt hg Aa; have As := nsy (nlt hg Aa); replace Aa := bB Aa hb; clear hb hg))
 replace Aa := asd (blk_drew Aa.out)
 replace Ab := asd (blk_drew Ab.out)
 replace HB := asd (qm HB.out)
 refine sh 6 (cb4 Aa (eb4 Ab)) (fun hHeld => ?_)
 generalize w7.drew = w8 at Aa Ab HB hHeld ⊢
 refine take_ (i := 0) (N := some 5) (v := ?_) (a' := ?_) (bT 6 1) rfl rfl (by kernel_rfl) (fun _ _ _ h => h) (Or.inl ⟨by rfl, ?_⟩) hHeld ?_ ?_
 rotate_left
 ·rintro w' ⟨s0, s1, s2, s3, s4, s5, s6, s7⟩;go_simp;with_reducible rfl
 rotate_left
 ·simp only [Act.put, sA, sB, sC, i64_w, i32_w];rfl
 refine take_ (i := 2) (N := some 7) (v := ?_) (a' := ?_) (bs 6 5) rfl rfl (by kernel_rfl) (fun _ _ _ h => h) (Or.inl ⟨by rfl, ?_⟩) hHeld ?_ ?_
 rotate_left
 ·rintro w' ⟨s0, s1, s2, s3, s4, s5, s6, s7⟩;go_simp;with_reducible rfl
 rotate_left
 ·simp only [Act.put, sA, sB, sC, i64_w, i32_w];rfl
 refine one_ (i := 1) (N := some 6) (bT 6 3) rfl rfl (by kernel_rfl) (by decide) (fun K hK => ?_)
 refine gs Try.func92 #[.agg #[.int .i64 Af, .int .i64 Ag, .int .i64 Ah, .int .i64 Ai]] ?_
 with_reducible refine (spec_l02Numbers.calls _ _ _ _ _ _ A3.out).mono ?_
 rintro e w9 ⟨v302, rfl, At, hb⟩
 refine ⟨_, rfl, ?_⟩
 have Ad := asd (Kd.R_lower At (bsz2 HB Ac Ae))
 replace Aa := bB Aa hb
 replace Ab := bB Ab hb
 replace HB := bS2 HB Ac Ae hb
 (try clear hb)
 (try clear hb2)
 (try clear hk)
 (try clear hi)
 (try clear At)
 refine hK.out _ _ (cb4 Aa (eb4 Ab)).out (fun hHeld => ?_)
 clear hK K
 refine norm_ (a' := ?_) ?_ ?_
 rotate_left
 ·show Act.put _ (some 6) _ = _
  simp only [Act.put, sA, sB, sC, i64_w, i32_w];rfl
 refine one_ (i := 3) (N := some 8) (bT 6 4) rfl rfl (by kernel_rfl) (by decide) (fun K hK => ?_)
 refine gs Try.func92 #[.agg #[.int .i64 Aj, .int .i64 Ak, .int .i64 Al, .int .i64 Am]] ?_
 with_reducible refine (spec_l02Numbers.calls _ _ _ _ _ _ A4.out).mono ?_
 rintro e Aw ⟨v305, rfl, At, hb⟩
 refine ⟨_, rfl, ?_⟩
 have Ap := asd (Kd.R_lower (Kd.R_new' At (Kd.R_lt (kr Ad))) (bsz2 HB Ac Ae))
 replace Ad := asd (Kd.R_elder' (kr Ad) (Kd.R_base At) hb)
 replace Aa := bB Aa hb
 replace Ab := bB Ab hb
 replace HB := bS2 HB Ac Ae hb
 (try clear hb)
 (try clear hb2)
 (try clear hk)
 (try clear hi)
 (try clear At)
 obtain ⟨Ao11, co11, eo11⟩ := Kd.R_slice Ad.out
 (first | subst eo11 | (injection eo11 with f1_ f2_ f3_; have f4_ := f1_.symm; have f5_ := f3_.symm; clear f1_ f2_ f3_; subst f4_; subst f5_))
 obtain ⟨Ao12, co12, eo12⟩ := Kd.R_slice Ap.out
 (first | subst eo12 | (injection eo12 with f1_ f2_ f3_; have f4_ := f1_.symm; have f5_ := f3_.symm; clear f1_ f2_ f3_; subst f4_; subst f5_))
 refine hK.out _ _ (cb4 Aa (eb4 Ab)).out (fun hHeld => ?_)
 clear hK K
 refine norm_ (a' := ?_) ?_ ?_
 rotate_left
 ·show Act.put _ (some 8) _ = _
  simp only [Act.put, sA, sB, sC, i64_w, i32_w];rfl
 refine one_ (i := 4) (N := some 9) (bT 6 5) rfl rfl (by kernel_rfl) (by decide) (fun K hK => ?_)
 refine gs Try.func91 #[.slice Ao11 An.length co11, .slice Ao12 Ao.length co12] ?_
 with_reducible refine (spec_l01LessList.calls _ _ _ _ _ _ _ _ _ ?side1 ?side2 ?side3 ?side4 A5.out).mono ?_
 (case side1 => exact ks (Kd.R_reads' Ad.out).2.2)
 (case side2 => exact (Kd.R_reads' Ad.out).2.1)
 (case side3 => exact ks (Kd.R_reads' Ap.out).2.2)
 (case side4 => exact (Kd.R_reads' Ap.out).2.1)
 rintro e w' ⟨rfl, ⟨nd, rfl⟩⟩
 refine ⟨_, rfl, ?_⟩
 refine hK.out _ _ (cb4 Aa (eb4 Ab)).out (fun hHeld => ?_)
 clear hK K
 refine norm_ (a' := ?_) ?_ ?_
 rotate_left
 ·show Act.put _ (some 9) _ = _
  simp only [Act.put, sA, sB, sC, i64_w, i32_w];rfl
 refine pure_ (i := 5) (N := some 4) (v := ?_) (a' := ?_) (bT 6 6) rfl rfl (by kernel_rfl) (fun _ _ _ h => h) (Or.inl ⟨by rfl, ?_⟩) ?_ ?_
 rotate_left
 ·intro w';go_simp;with_reducible rfl
 rotate_left
 ·simp only [Act.put, sA, sB, sC, i64_w, i32_w];rfl
 refine done_ (by kernel_rfl) ?_
 try go_wp2
 go_ret
 exact er (bbw2 HB Ac Ae)
def spec_l01Less.f (Aa : Int) (Ad : Int) (Ab : Int) (Ae : Int) : Option (Bool) := if Aa < Ab then (some true) else (if Aa = Ab then (some (decide (Ad < Ae))) else (some false))
theorem spec_l01Less.calls (Aa : Int) (Ad : Int) (Ab : Int) (Ae : Int) (r : Bool) (w : World) (h : spec_l01Less.f Aa Ad Ab Ae = some r) :
  Calls Try.prog 65 #[.agg #[.int .i64 Aa, .int .i64 Ad], .agg #[.int .i64 Ab, .int .i64 Ae]] w fun e w' => e = .returned (.bool r) ∧ Below w.heap.size w w' := by
 have hu53 := Try.underlying53
 have HB := asd (Below.refl w.heap.size w)
 have H : (if Aa < Ab then (some true) else (if Aa = Ab then (some (decide (Ad < Ae))) else (some false))) = some r := h
 clear h
 by_cases c3 : Aa < Ab
 rw [if_pos c3] at H
 have Ak := qp c3
 clear c3
 obtain rfl := Option.some.inj H
 rotate_left
 rw [if_neg c3] at H
 have Ak := qq c3
 clear c3
 by_cases c9 : Aa = Ab
 rw [if_pos c9] at H
 have Al : (Aa == Ab) = true := beq_iff_eq.mpr c9
 have Am : (Aa != Ab) = false := bne_eq_false_iff_eq.mpr c9
 clear c9
 obtain rfl := Option.some.inj H
 rotate_left
 rw [if_neg c9] at H
 have Al : (Aa == Ab) = false := beq_eq_false_iff_ne.mpr c9
 have Am : (Aa != Ab) = true := bne_iff_ne.mpr c9
 obtain rfl := Option.some.inj H
 rotate_left
 all_goals
  go_enter Try.func65, Try.ntmps65
  go_wp2_with (first | ((with_reducible refine gd 2 rfl ?_); refine bx #[.int .i64 Aa, .int .i64 Ad] 53 ?_; intro Av hg w4 Ac hb; have Ah := ngw0 hg HB; replace HB := bS0 HB hb; clear hb hg) | ((with_reducible refine gd 3 rfl ?_); refine bx #[.int .i64 Ab, .int .i64 Ae] 53 ?_; intro Aw hg w5 Ai hb; have Aj := ngw1 hg HB Ah; replace HB := bS1 HB Ah hb; have Af := nlt hg Ac; have Ag := nsy (nlt hg Ac); replace Ac := bB Ac hb; clear hb hg; have Ax := Af.out; have Ay := Ag.out; obtain ⟨An, Ao, Ap, Aq⟩ := bz2 Ac; obtain ⟨Ar, As, At, Au⟩ := bz2 Ai));go_ret
  exact er (bbw2 HB Ah Aj)
def spec_l05Less.f (k : Nat) (Ab : Int) (Ac : Int) (Ad : Int) (Ae : Int) (Al : Int) (Am : Int) (Af : Int) (Ag : Int) (Ah : Int) (Ai : Int) (An : Int) (Ao : Int) : Option (Bool) := if (!(Ab == Af) || (!(Ac == Ag) || (!(Ad == Ah) || (!(Ae == Ai))))) = true then ((spec_l02Less.f k Ab Ac Ad Ae Af Ag Ah Ai).bind fun As => (some As)) else ((spec_l01Less.f Al Am An Ao).bind fun At => (some At))
theorem spec_l05Less.calls (k : Nat) (Ab : Int) (Ac : Int) (Ad : Int) (Ae : Int) (Al : Int) (Am : Int) (Af : Int) (Ag : Int) (Ah : Int) (Ai : Int) (An : Int) (Ao : Int) (r : Bool) (w : World) (h : spec_l05Less.f k Ab Ac Ad Ae Al Am Af Ag Ah Ai An Ao = some r) :
  Calls Try.prog 36 #[.agg #[.int .i64 Ab, .int .i64 Ac, .int .i64 Ad, .int .i64 Ae, .int .i64 Al, .int .i64 Am], .agg #[.int .i64 Af, .int .i64 Ag, .int .i64 Ah, .int .i64 Ai, .int .i64 An, .int .i64 Ao]] w fun e w' => e = .returned (.bool r) ∧ Below w.heap.size w w' := by
 have hu55 := Try.underlying55
 have hu51 := Try.underlying51
 have hu53 := Try.underlying53
 have HB := asd (Below.refl w.heap.size w)
 have H : (if (!(Ab == Af) || (!(Ac == Ag) || (!(Ad == Ah) || (!(Ae == Ai))))) = true then ((spec_l02Less.f k Ab Ac Ad Ae Af Ag Ah Ai).bind fun As => (some As)) else ((spec_l01Less.f Al Am An Ao).bind fun At => (some At))) = some r := h
 clear h
 by_cases c3 : (!(Ab == Af) || (!(Ac == Ag) || (!(Ad == Ah) || (!(Ae == Ai))))) = true
 rw [if_pos c3] at H
 have Au := c3
 clear c3
 obtain ⟨As, A4, H⟩ := ob H
 try dsimp only at H
 obtain rfl := Option.some.inj H
 rotate_left
 rw [if_neg c3] at H
 have Au : (!(Ab == Af) || (!(Ac == Ag) || (!(Ad == Ah) || (!(Ae == Ai))))) = false := by simpa using c3
 clear c3
 obtain ⟨At, AV, H⟩ := ob H
 try dsimp only at H
 obtain rfl := Option.some.inj H
 rotate_left
 all_goals
  go_enter Try.func36, Try.ntmps36
  go_wp2_with (first | ((with_reducible refine gd 2 rfl ?_); refine bx #[.int .i64 Ab, .int .i64 Ac, .int .i64 Ad, .int .i64 Ae, .int .i64 Al, .int .i64 Am] 55 ?_; intro AT hg w5 Aa hb; have Aj := ngw0 hg HB; replace HB := bS0 HB hb; clear hb hg) | ((with_reducible refine gd 3 rfl ?_); refine bx #[.int .i64 Af, .int .i64 Ag, .int .i64 Ah, .int .i64 Ai, .int .i64 An, .int .i64 Ao] 55 ?_; intro AU hg w6 Ak hb; have Ar := ngw1 hg HB Aj; replace HB := bS1 HB Aj hb; have Ap := nlt hg Aa; have Aq := nsy (nlt hg Aa); replace Aa := bB Aa hb; clear hb hg; have AW := Ap.out; have AX := Aq.out; obtain ⟨Av, Aw, Ax, Ay, Az, AA, AB, AC, AD, AE, AF, AG⟩ := bz6 Aa; obtain ⟨AH, AI, AJ, AK, AL, AM, AN, AO, AP, AQ, AR, AS⟩ := bz6 Ak) | ((with_reducible refine gate_callee (f := 64) rfl ?_); refine gl 14 Try.func64 #[.agg #[.int .i64 Ab, .int .i64 Ac, .int .i64 Ad, .int .i64 Ae], .agg #[.int .i64 Af, .int .i64 Ag, .int .i64 Ah, .int .i64 Ai]] ?_; (with_reducible refine (spec_l02Less.calls _ _ _ _ _ _ _ _ _ _ _ A4.out).mono ?_); rintro e AY ⟨rfl, hb⟩; refine ⟨_, rfl, ?_⟩; replace Aa := bB Aa hb; replace Ak := bB Ak hb; replace HB := bS2 HB Aj Ar hb; (try clear hb)) | ((with_reducible refine gate_callee (f := 65) rfl ?_); refine gl 19 Try.func65 #[.agg #[.int .i64 Al, .int .i64 Am], .agg #[.int .i64 An, .int .i64 Ao]] ?_; (with_reducible refine (spec_l01Less.calls _ _ _ _ _ _ AV.out).mono ?_); rintro e AZ ⟨rfl, hb⟩; refine ⟨_, rfl, ?_⟩; replace Aa := bB Aa hb; replace Ak := bB Ak hb; replace HB := bS2 HB Aj Ar hb; (try clear hb)));go_ret
  exact er (bbw2 HB Aj Ar)
def spec_l06Place.l0 : Nat → List (S55) → Int → Int → Int → Int → Int → Int → Int → Int → Option (Int)
 | 0, _, _, _, _, _, _, _, _, _ => none
 | k + 1, x0, x5, x6, Ai, Aj, Ak, Al, Am, An => if x5 < x6 then (if 0 ≤ (wrap64 (Int.tdiv (wrap64 (x5 + x6)) 2)) then (if (wrap64 (Int.tdiv (wrap64 (x5 + x6)) 2)) < (x0.length : Int) then ((spec_l05Less.f k ((qr x0 (wrap64 (Int.tdiv (wrap64 (x5 + x6)) 2))).f0.f0) ((qr x0 (wrap64 (Int.tdiv (wrap64 (x5 + x6)) 2))).f0.f1) ((qr x0 (wrap64 (Int.tdiv (wrap64 (x5 + x6)) 2))).f0.f2) ((qr x0 (wrap64 (Int.tdiv (wrap64 (x5 + x6)) 2))).f0.f3) ((qr x0 (wrap64 (Int.tdiv (wrap64 (x5 + x6)) 2))).f1.f0) ((qr x0 (wrap64 (Int.tdiv (wrap64 (x5 + x6)) 2))).f1.f1) Ai Aj Ak Al Am An).bind fun Ay => (if Ay = true then (spec_l06Place.l0 k x0 (wrap64 ((wrap64 (Int.tdiv (wrap64 (x5 + x6)) 2)) + 1)) x6 Ai Aj Ak Al Am An) else (spec_l06Place.l0 k x0 x5 (wrap64 (Int.tdiv (wrap64 (x5 + x6)) 2)) Ai Aj Ak Al Am An))) else (none)) else (none)) else (some x5)
def spec_l06Place.f (k : Nat) (l0 : List (S55)) (Ab : Int) (Ac : Int) (Ad : Int) (Ae : Int) (Af : Int) (Ag : Int) : Option (Int) := spec_l06Place.l0 k l0 0 (l0.length : Int) Ab Ac Ad Ae Af Ag
theorem spec_l06Place.calls (k : Nat) (A0 : Option Addr) (c0 : Nat) (l0 : List (S55)) (Ab : Int) (Ac : Int) (Ad : Int) (Ae : Int) (Af : Int) (Ag : Int) (r : Int) (w : World) (hr0 : Kd.C k55 w A0 l0.length l0) (hc0 : l0.length ≤ c0) (h : spec_l06Place.f k l0 Ab Ac Ad Ae Af Ag = some r) :
  Calls Try.prog 66 #[.slice A0 l0.length c0, .agg #[.int .i64 Ab, .int .i64 Ac, .int .i64 Ad, .int .i64 Ae, .int .i64 Af, .int .i64 Ag]] w fun e w' => e = .returned (.int .i64 r) ∧ Below w.heap.size w w' := by
 have hu55 := Try.underlying55
 have HR0 := Aside0.mk hr0
 have AM := Aside0.mk hc0
 clear hr0 hc0
 have HB := asd (Below.refl w.heap.size w)
 have H : (spec_l06Place.l0 k l0 0 (l0.length : Int) Ab Ac Ad Ae Af Ag) = some r := h
 clear h
 have H' := Aside0.mk H
 clear H
 go_enter Try.func66, Try.ntmps66
 go_wp2_with (first | ((with_reducible refine gd 3 rfl ?_); refine bx #[.int .i64 Ab, .int .i64 Ac, .int .i64 Ad, .int .i64 Ae, .int .i64 Af, .int .i64 Ag] 55 ?_; intro AF hg w3 Aa hb; have Aq := ngw0 hg HB; replace HB := bS0 HB hb; clear hb hg))
 go_loopg [5, 6] k (fun kq v5 v6 w' => ∃ (Ao : Int) (Ap : Int), v5 = .int .i64 Ao ∧ v6 = .int .i64 Ap ∧ Aside0 (spec_l06Place.l0 kq l0 Ao Ap Ab Ac Ad Ae Af Ag = some r) ∧ Aside0 (kq ≤ k) ∧ Aside0 (w'.heap[AF]? = some (.cells #[.int .i64 Ab, .int .i64 Ac, .int .i64 Ad, .int .i64 Ae, .int .i64 Af, .int .i64 Ag] 55 (0, 0))) ∧ Aside0 (Below w.heap.size w w'))
 case atStart => exact ⟨(0), ((l0.length : Int)), (by first | rfl | (simp; done) | (simp [*]; done)), (by first | rfl | (simp; done) | (simp [*]; done)), H', ⟨Nat.le_refl _⟩, ⟨bkp Aa⟩, ⟨bbw1 HB Aq⟩⟩
 case round =>
  clear H';obtain ⟨Ao, Ap, rfl, rfl, HA, AG, Aa, HB⟩ := hrel;cases gk with
  | zero => exact absurd HA.out (by simp [spec_l06Place.l0])
  | succ k1 =>
   have H := HA.out;clear HA;simp only [spec_l06Place.l0] at H;by_cases c4 : Ao < Ap
   rw [if_pos c4] at H;have AH := qp c4;clear c4;obtain ⟨Ah, Ar⟩ : ∃ j_ : Int, (wrap64 (Int.tdiv (wrap64 (Ao + Ap)) 2)) = j_ := ⟨_, rfl⟩;replace H : (if 0 ≤ (Ah) then (if (Ah) < (l0.length : Int) then ((spec_l05Less.f k1 ((qr l0 (Ah)).f0.f0) ((qr l0 (Ah)).f0.f1) ((qr l0 (Ah)).f0.f2) ((qr l0 (Ah)).f0.f3) ((qr l0 (Ah)).f1.f0) ((qr l0 (Ah)).f1.f1) Ab Ac Ad Ae Af Ag).bind fun Ay => (if Ay = true then (spec_l06Place.l0 k1 l0 (wrap64 ((Ah) + 1)) Ap Ab Ac Ad Ae Af Ag) else (spec_l06Place.l0 k1 l0 Ao Ah Ab Ac Ad Ae Af Ag))) else (none)) else (none)) = some r := by first | (rw [Ar] at H; first | done | exact H) | (simp only [Ar] at H ⊢; exact H)
   have AI : (IntKind.i64.wrap (Int.tdiv (wrap64 (Ao + Ap)) 2)) = Ah := (i64_w _).trans Ar;have AJ : (IntKind.i64.wrap (Int.tdiv (IntKind.i64.wrap (Ao + Ap)) 2)) = Ah := by simp only [i64_w]; exact Ar
   by_cases c6 : 0 ≤ (Ah)
   rw [if_pos c6] at H;have AK := qp c6;clear c6;by_cases c7 : (Ah) < (l0.length : Int)
   rw [if_pos c7] at H;have AL := qp c7;clear c7;obtain ⟨Ay, A8, H⟩ := ob H;try dsimp only at H
   by_cases c9 : Ay = true
   subst c9;replace H := ifT H;have H' := Aside0.mk H;clear H;rotate_left;replace c9 := Bool.eq_false_iff.mpr c9;subst c9;replace H := ifF H;have H' := Aside0.mk H;clear H;rotate_left
   ·rw [if_neg c7] at H;exact absurd H (by simp)
   ·rw [if_neg c6] at H;exact absurd H (by simp)
   rw [if_neg c4] at H;have AH := qq c4;clear c4;obtain rfl := Option.some.inj H;rotate_left;rotate_left 2
   ·go_wp2
    go_ret
    exact er (bbw1 HB Aq)
   all_goals
    try go_wp2
    replace Aa := asd (blk_drew Aa.out);replace HB := asd (qm HB.out);obtain ⟨p315, q315, ad315, e315, As, At, Au, Av, Aw, Ax, Az, AA, AB, AC, AD, AE⟩ := at_T55w HR0.out HB (Ah);cases e315
    refine sh 6 (cb6 Aa (ex6 HB As At Au Av Aw Ax)) (fun hHeld => ?_);generalize wr.drew = AN at Aa HB Az AA AB AC AD AE hHeld ⊢;refine pure_ (i := 0) (N := some 17) (v := ?_) (a' := ?_) (bT 6 1) rfl rfl (by kernel_rfl) (fun _ _ _ h => h) (Or.inl ⟨by rfl, ?_⟩) ?_ ?_;rotate_left
    ·intro w';go_simp;with_reducible rfl
    rotate_left
    ·simp only [Act.put, sA, sB, sC, i64_w, i32_w];rfl
    refine pure_ (i := 1) (N := some 18) (v := ?_) (a' := ?_) (bT 6 2) rfl rfl (by kernel_rfl) (fun _ _ _ h => h) (Or.inl ⟨by rfl, ?_⟩) ?_ ?_;rotate_left
    ·intro w';go_simp;with_reducible rfl
    rotate_left
    ·simp only [Act.put, sA, sB, sC, i64_w, i32_w];rfl
    refine pure_ (i := 2) (N := some 19) (v := ?_) (a' := ?_) (bT 6 3) rfl rfl (by kernel_rfl) (fun _ _ _ h => h) (Or.inl ⟨by rfl, ?_⟩) ?_ ?_;rotate_left
    ·intro w';go_simp;with_reducible rfl
    rotate_left
    ·simp only [Act.put, sA, sB, sC, i64_w, i32_w];rfl
    refine take_ (i := 3) (N := some 20) (v := ?_) (a' := ?_) (bT 6 4) rfl rfl (by kernel_rfl) (fun _ _ _ h => h) (Or.inl ⟨by rfl, ?_⟩) hHeld ?_ ?_;rotate_left
    ·rintro w' ⟨s0, s1, s2, s3, s4, s5, s6, s7, s8, s9, s10, s11⟩;go_simp;with_reducible rfl
    rotate_left
    ·simp only [Act.put, sA, sB, sC, i64_w, i32_w];rfl
    refine take_ (i := 4) (N := some 21) (v := ?_) (a' := ?_) (bT 6 5) rfl rfl (by kernel_rfl) (fun _ _ _ h => h) (Or.inl ⟨by rfl, ?_⟩) hHeld ?_ ?_;rotate_left
    ·rintro w' ⟨s0, s1, s2, s3, s4, s5, s6, s7, s8, s9, s10, s11⟩;go_simp;with_reducible rfl
    rotate_left
    ·simp only [Act.put, sA, sB, sC, i64_w, i32_w];rfl
    refine one_ (i := 5) (N := some 22) (bT 6 6) rfl rfl (by kernel_rfl) (by decide) (fun K hK => ?_);refine goes_ Try.func36 (by kernel_rfl) rfl #[.agg #[.int .i64 ((qr l0 (Ah)).f0.f0), .int .i64 ((qr l0 (Ah)).f0.f1), .int .i64 ((qr l0 (Ah)).f0.f2), .int .i64 ((qr l0 (Ah)).f0.f3), .int .i64 ((qr l0 (Ah)).f1.f0), .int .i64 ((qr l0 (Ah)).f1.f1)], .agg #[.int .i64 Ab, .int .i64 Ac, .int .i64 Ad, .int .i64 Ae, .int .i64 Af, .int .i64 Ag]] (by rfl) rfl rfl (by (try simp only [List.map_toArray, List.map_cons, List.map_nil]); first | done | (simp only [Ar]; rfl) | rfl | (simp only [List.length_drop, List.length_take]; rfl)) ?_;with_reducible refine (spec_l05Less.calls _ _ _ _ _ _ _ _ _ _ _ _ _ _ _ A8.out).mono ?_
    rintro e AO ⟨rfl, hb⟩;refine ⟨_, rfl, ?_⟩;replace Aa := bB Aa hb;replace HB := bS1 HB Aq hb;(try clear hb);(try clear hb2);(try clear hk);(try clear hi);refine hK.out _ _ (cb6 Aa (ex6 HB As At Au Av Aw Ax)).out (fun hHeld => ?_);clear hK K;refine norm_ (a' := ?_) ?_ ?_;rotate_left
    ·show Act.put _ (some 22) _ = _
     simp only [Act.put, sA, sB, sC, i64_w, i32_w];rfl
    refine done_ (by kernel_rfl) ?_;try go_wp2
    go_roundg k1
    case measure => have := AG.out; omega
   ·case rel => exact ⟨(wrap64 ((Ah) + 1)), (Ap), (by first | rfl | (simp; done) | (simp only [← Ar] <;> (first | rfl | simp)) | (simp [*]; done)), (by first | rfl | (simp; done) | (simp [*]; done)), H', ⟨by have := AG.out; omega⟩, ⟨bkp Aa⟩, ⟨bbw1 HB Aq⟩⟩
   ·case rel => exact ⟨(Ao), (Ah), (by first | rfl | (simp; done) | (simp [*]; done)), (by first | rfl | (simp; done) | (simp only [← Ar] <;> (first | rfl | simp)) | (simp [*]; done)), H', ⟨by have := AG.out; omega⟩, ⟨bkp Aa⟩, ⟨bbw1 HB Aq⟩⟩
def spec_l06Has.f (k : Nat) (l0 : List (S55)) (Ad : Int) (Ae : Int) (Af : Int) (Ag : Int) (Ah : Int) (Ai : Int) : Option (Bool) := (spec_l06Place.f k l0 Ad Ae Af Ag Ah Ai).bind fun Ab => (if Ab < (l0.length : Int) then (if 0 ≤ Ab then (some ((((qr l0 Ab).f0.f0) == Ad && (((qr l0 Ab).f0.f1) == Ae && (((qr l0 Ab).f0.f2) == Af && (((qr l0 Ab).f0.f3) == Ag)))) && ((((qr l0 Ab).f1.f0) == Ah && (((qr l0 Ab).f1.f1) == Ai))))) else (none)) else (some false))
theorem spec_l06Has.calls (k : Nat) (A0 : Option Addr) (c0 : Nat) (l0 : List (S55)) (Ad : Int) (Ae : Int) (Af : Int) (Ag : Int) (Ah : Int) (Ai : Int) (r : Bool) (w : World) (hr0 : Kd.C k55 w A0 l0.length l0) (hc0 : l0.length ≤ c0) (h : spec_l06Has.f k l0 Ad Ae Af Ag Ah Ai = some r) :
  Calls Try.prog 37 #[.slice A0 l0.length c0, .agg #[.int .i64 Ad, .int .i64 Ae, .int .i64 Af, .int .i64 Ag, .int .i64 Ah, .int .i64 Ai]] w fun e w' => e = .returned (.bool r) ∧ Below w.heap.size w w' := by
 have hu55 := Try.underlying55
 have HR0 := Aside0.mk hr0
 have A1 := Aside0.mk hc0
 clear hr0 hc0
 have HB := asd (Below.refl w.heap.size w)
 have H : ((spec_l06Place.f k l0 Ad Ae Af Ag Ah Ai).bind fun Ab => (if Ab < (l0.length : Int) then (if 0 ≤ Ab then (some ((((qr l0 Ab).f0.f0) == Ad && (((qr l0 Ab).f0.f1) == Ae && (((qr l0 Ab).f0.f2) == Af && (((qr l0 Ab).f0.f3) == Ag)))) && ((((qr l0 Ab).f1.f0) == Ah && (((qr l0 Ab).f1.f1) == Ai))))) else (none)) else (some false))) = some r := h
 clear h
 obtain ⟨Ab, A3, H⟩ := ob H
 try dsimp only at H
 by_cases c4 : Ab < (l0.length : Int)
 ·rw [if_pos c4] at H;have A2 := qp c4;clear c4;by_cases c5 : 0 ≤ Ab
  ·rw [if_pos c5] at H;have A6 := qp c5;clear c5;obtain rfl := Option.some.inj H;go_enter Try.func37, Try.ntmps37
   go_wp2_with (first | ((with_reducible refine gd 3 rfl ?_); refine bx #[.int .i64 Ad, .int .i64 Ae, .int .i64 Af, .int .i64 Ag, .int .i64 Ah, .int .i64 Ai] 55 ?_; intro Aj hg w6 Aa hb; have Ac := ngw0 hg HB; replace HB := bS0 HB hb; clear hb hg; obtain ⟨AC, AD, AE, AF, AG, AH, AI, AJ, AK, AL, AM, AN⟩ := bz6 Aa) | (go_at_call 66; (with_reducible refine (spec_l06Place.calls _ _ _ _ _ _ _ _ _ _ _ _ ?side1 ?side2 A3.out).mono ?_); (case side1 => exact ks (Kd.C_below HR0.out HB.out)); (case side2 => exact A1.out); rintro e w8 ⟨rfl, hb⟩; replace Aa := bB Aa hb; replace HB := bS1 HB Ac hb; (try clear hb); obtain ⟨p319, q319, ad319, e319, Ak, Al, Am, An, Ao, Ap⟩ := at_T55x HR0.out HB Ab; cases e319; obtain ⟨AO, AP, AQ, AR, AS, AT, AU, AV, AW, AX, AY, AZ⟩ := bz6 Aa));repeat (go_quiet (first | ((with_reducible refine gd 3 rfl ?_); refine bx #[.int .i64 Ad, .int .i64 Ae, .int .i64 Af, .int .i64 Ag, .int .i64 Ah, .int .i64 Ai] 55 ?_; intro Aj hg w6 Aa hb; have Ac := ngw0 hg HB; replace HB := bS0 HB hb; clear hb hg; obtain ⟨AC, AD, AE, AF, AG, AH, AI, AJ, AK, AL, AM, AN⟩ := bz6 Aa) | (go_at_call 66; (with_reducible refine (spec_l06Place.calls _ _ _ _ _ _ _ _ _ _ _ _ ?side1 ?side2 A3.out).mono ?_); (case side1 => exact ks (Kd.C_below HR0.out HB.out)); (case side2 => exact A1.out); rintro e w8 ⟨rfl, hb⟩; replace Aa := bB Aa hb; replace HB := bS1 HB Ac hb; (try clear hb); obtain ⟨p319, q319, ad319, e319, Ak, Al, Am, An, Ao, Ap⟩ := at_T55x HR0.out HB Ab; cases e319; obtain ⟨AO, AP, AQ, AR, AS, AT, AU, AV, AW, AX, AY, AZ⟩ := bz6 Aa)); try go_wp2_with (first | ((with_reducible refine gd 3 rfl ?_); refine bx #[.int .i64 Ad, .int .i64 Ae, .int .i64 Af, .int .i64 Ag, .int .i64 Ah, .int .i64 Ai] 55 ?_; intro Aj hg w6 Aa hb; have Ac := ngw0 hg HB; replace HB := bS0 HB hb; clear hb hg; obtain ⟨AC, AD, AE, AF, AG, AH, AI, AJ, AK, AL, AM, AN⟩ := bz6 Aa) | (go_at_call 66; (with_reducible refine (spec_l06Place.calls _ _ _ _ _ _ _ _ _ _ _ _ ?side1 ?side2 A3.out).mono ?_); (case side1 => exact ks (Kd.C_below HR0.out HB.out)); (case side2 => exact A1.out); rintro e w8 ⟨rfl, hb⟩; replace Aa := bB Aa hb; replace HB := bS1 HB Ac hb; (try clear hb); obtain ⟨p319, q319, ad319, e319, Ak, Al, Am, An, Ao, Ap⟩ := at_T55x HR0.out HB Ab; cases e319; obtain ⟨AO, AP, AQ, AR, AS, AT, AU, AV, AW, AX, AY, AZ⟩ := bz6 Aa)))
   go_ret
   exact er (bbw1 HB Ac)
  ·rw [if_neg c5] at H;exact absurd H (by simp)
 ·rw [if_neg c4] at H;have A2 := qq c4;clear c4;obtain rfl := Option.some.inj H;go_enter Try.func37, Try.ntmps37
  go_wp2_with (first | ((with_reducible refine gd 3 rfl ?_); refine bx #[.int .i64 Ad, .int .i64 Ae, .int .i64 Af, .int .i64 Ag, .int .i64 Ah, .int .i64 Ai] 55 ?_; intro Aj hg A4 Aa hb; have Ac := ngw0 hg HB; replace HB := bS0 HB hb; clear hb hg; obtain ⟨Aq, Ar, As, At, Au, Av, Aw, Ax, Ay, Az, AA, AB⟩ := bz6 Aa) | (go_at_call 66; (with_reducible refine (spec_l06Place.calls _ _ _ _ _ _ _ _ _ _ _ _ ?side1 ?side2 A3.out).mono ?_); (case side1 => exact ks (Kd.C_below HR0.out HB.out)); (case side2 => exact A1.out); rintro e A5 ⟨rfl, hb⟩; replace Aa := bB Aa hb; replace HB := bS1 HB Ac hb; (try clear hb)));repeat (go_quiet (first | ((with_reducible refine gd 3 rfl ?_); refine bx #[.int .i64 Ad, .int .i64 Ae, .int .i64 Af, .int .i64 Ag, .int .i64 Ah, .int .i64 Ai] 55 ?_; intro Aj hg A4 Aa hb; have Ac := ngw0 hg HB; replace HB := bS0 HB hb; clear hb hg; obtain ⟨Aq, Ar, As, At, Au, Av, Aw, Ax, Ay, Az, AA, AB⟩ := bz6 Aa) | (go_at_call 66; (with_reducible refine (spec_l06Place.calls _ _ _ _ _ _ _ _ _ _ _ _ ?side1 ?side2 A3.out).mono ?_); (case side1 => exact ks (Kd.C_below HR0.out HB.out)); (case side2 => exact A1.out); rintro e A5 ⟨rfl, hb⟩; replace Aa := bB Aa hb; replace HB := bS1 HB Ac hb; (try clear hb))); try go_wp2_with (first | ((with_reducible refine gd 3 rfl ?_); refine bx #[.int .i64 Ad, .int .i64 Ae, .int .i64 Af, .int .i64 Ag, .int .i64 Ah, .int .i64 Ai] 55 ?_; intro Aj hg A4 Aa hb; have Ac := ngw0 hg HB; replace HB := bS0 HB hb; clear hb hg; obtain ⟨Aq, Ar, As, At, Au, Av, Aw, Ax, Ay, Az, AA, AB⟩ := bz6 Aa) | (go_at_call 66; (with_reducible refine (spec_l06Place.calls _ _ _ _ _ _ _ _ _ _ _ _ ?side1 ?side2 A3.out).mono ?_); (case side1 => exact ks (Kd.C_below HR0.out HB.out)); (case side2 => exact A1.out); rintro e A5 ⟨rfl, hb⟩; replace Aa := bB Aa hb; replace HB := bS1 HB Ac hb; (try clear hb))))
  go_ret
  exact er (bbw1 HB Ac)
def spec_l06Unit.f  : Option (Int × Int × Int × Int × Int × Int) := (spec_l02Unit.f).bind fun Aa => (some (Aa.1, Aa.2.1, Aa.2.2.1, Aa.2.2.2, 0, 0))
theorem spec_l06Unit.calls  (r1 : Int) (r2 : Int) (r3 : Int) (r4 : Int) (r5 : Int) (r6 : Int) (w : World) (h : spec_l06Unit.f  = some (r1, r2, r3, r4, r5, r6)) :
  Calls Try.prog 38 #[] w fun e w' => e = .returned (.agg #[.int .i64 r1, .int .i64 r2, .int .i64 r3, .int .i64 r4, .int .i64 r5, .int .i64 r6]) ∧ Below w.heap.size w w' := by
 have hu55 := Try.underlying55
 have HB := asd (Below.refl w.heap.size w)
 have H : ((spec_l02Unit.f).bind fun Aa => (some (Aa.1, Aa.2.1, Aa.2.2.1, Aa.2.2.2, 0, 0))) = some (r1, r2, r3, r4, r5, r6) := h
 clear h
 obtain ⟨⟨Ae, Af, Ag, Ah⟩, A1, H⟩ := ob H
 try dsimp only at H
 simp only [Option.some.injEq, Prod.mk.injEq] at H
 obtain ⟨rfl, rfl, rfl, rfl, rfl, rfl⟩ := H
 go_enter Try.func38, Try.ntmps38
 go_wp2_with (first | ((with_reducible refine gd 0 rfl ?_); refine bx #[.int .i64 0, .int .i64 0, .int .i64 0, .int .i64 0, .int .i64 0, .int .i64 0] 55 ?_; intro Ad hg w2 Ab hb; have Ac := ngw0 hg HB; replace HB := bS0 HB hb; clear hb hg) | ((with_reducible refine gate_callee (f := 41) rfl ?_); refine gl 1 Try.func41 #[] ?_; (with_reducible refine (spec_l02Unit.calls _ _ _ _ _ A1.out).mono ?_); rintro e w3 ⟨rfl, hb⟩; refine ⟨_, rfl, ?_⟩; replace Ab := bB Ab hb; replace HB := bS1 HB Ac hb; (try clear hb); obtain ⟨Ai, Aj, Ak, Al, Am, An, Ao, Ap, Aq, Ar, As, At⟩ := bz6 Ab))
 refine bodyPost_ret (results_cell_row rfl _ _ Ad 55 #[.int .i64 Ae, .int .i64 Af, .int .i64 Ag, .int .i64 Ah, .int .i64 0, .int .i64 0] (0, 0) _ rfl (bq0 Ab) Try.underlying55 rfl (by kernel_rfl)) rfl ?_
 exact er (bbw1 HB Ac)
end Go.Proofs.Ytedmadofpdkekaa.PA
