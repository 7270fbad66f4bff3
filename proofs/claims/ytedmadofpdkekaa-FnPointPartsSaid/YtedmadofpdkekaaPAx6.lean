import Derived.Test.YtedmadofpdkekaaPAx0
import Derived.Test.YtedmadofpdkekaaPAx5
namespace Go.Proofs.Ytedmadofpdkekaa.PA
open Go.RowKit Go.Proofs.YtedmadofpdkekaaW.PrintWords Go.Proofs.YtedmadofpdkekaaW.PrintLast Go.Proofs.YtedmadofpdkekaaW.PrintMore
attribute [local go_sem] max2_int min2_int max_two min_two max_three min_three max_four min_four   -- for this text's walks alone
set_option linter.unusedVariables false
set_option maxHeartbeats 8000000
set_option maxRecDepth 100000
set_option linter.unusedSimpArgs false
def spec_l03Reduce.f (Ag : Int) (Ah : Int) (Ac : Int) (Ai : Int) (Ae : Int) : Option (Int × Int) := (spec_l01Mod.f Ae Ac).bind fun Aj => (if Ac = 0 then (none) else ((spec_l01Mod.f (wrap64 (Ai - (wrap64 ((wrap64 (Int.tdiv (wrap64 (Ae - Aj)) Ac)) * Ah)))) Ag).bind fun Au => (some (Au, Aj))))
theorem spec_l03Reduce.calls (Ag : Int) (Ah : Int) (Ac : Int) (Ai : Int) (Ae : Int) (r1 : Int) (r2 : Int) (w : World) (h : spec_l03Reduce.f Ag Ah Ac Ai Ae = some (r1, r2)) :
  Calls Try.prog 50 #[.agg #[.int .i64 Ag, .int .i64 Ah, .int .i64 Ac], .agg #[.int .i64 Ai, .int .i64 Ae]] w fun e w' => e = .returned (.agg #[.int .i64 r1, .int .i64 r2]) ∧ Below w.heap.size w w' := by
 have hu25 := Try.underlying25
 have hu53 := Try.underlying53
 have HB := asd (Below.refl w.heap.size w)
 have H : ((spec_l01Mod.f Ae Ac).bind fun Aj => (if Ac = 0 then (none) else ((spec_l01Mod.f (wrap64 (Ai - (wrap64 ((wrap64 (Int.tdiv (wrap64 (Ae - Aj)) Ac)) * Ah)))) Ag).bind fun Au => (some (Au, Aj))))) = some (r1, r2) := h
 clear h
 obtain ⟨Aj, A3, H⟩ := ob H
 try dsimp only at H
 by_cases c4 : Ac = 0
 ·rw [if_pos c4] at H;exact absurd H (by simp)
 ·rw [if_neg c4] at H;have A2 : (Ac == 0) = false := beq_eq_false_iff_ne.mpr c4;have A4 : (Ac != 0) = true := bne_iff_ne.mpr c4;obtain ⟨Au, A5, H⟩ := ob H;try dsimp only at H
  simp only [Option.some.injEq, Prod.mk.injEq] at H;obtain ⟨rfl, rfl⟩ := H;go_enter Try.func50, Try.ntmps50
  go_wp2_with (first | ((with_reducible refine gd 2 rfl ?_); refine bx #[.int .i64 Ag, .int .i64 Ah, .int .i64 Ac] 25 ?_; intro Ak hg w6 Aa hb; have Af := ngw0 hg HB; replace HB := bS0 HB hb; clear hb hg) | ((with_reducible refine gd 3 rfl ?_); refine bx #[.int .i64 Ai, .int .i64 Ae] 53 ?_; intro An hg w7 Ab hb; have Al := ngw1 hg HB Af; replace HB := bS1 HB Af hb; have Ao := nlt hg Aa; have Ap := nsy (nlt hg Aa); replace Aa := bB Aa hb; clear hb hg) | ((with_reducible refine gd 4 rfl ?_); refine bx #[.int .i64 0, .int .i64 0] 53 ?_; intro Am hg w8 Ad hb; have Av := ngw2 hg HB Af Al; replace HB := bS2 HB Af Al hb; have Aq := nlt hg Aa; have Ar := nsy (nlt hg Aa); replace Aa := bB Aa hb; have As := nlt hg Ab; have At := nsy (nlt hg Ab); replace Ab := bB Ab hb; clear hb hg; have A6 := Ap.out; have A7 := Ao.out; have AY := As.out; have AZ := At.out; obtain ⟨AA, AB, AC, AD⟩ := bz2 Ab; have A0 := Aq.out; have A1 := Ar.out; obtain ⟨AE, AF, AG, AH, AI, AJ⟩ := bz3 Aa) | ((with_reducible refine gate_callee (f := 71) rfl ?_); refine gl 11 Try.func71 #[.int .i64 Ae, .int .i64 Ac] ?_; (with_reducible refine (spec_l01Mod.calls _ _ _ _ A3.out).mono ?_); rintro e w' ⟨rfl, ⟨nd, rfl⟩⟩; refine ⟨_, rfl, ?_⟩; (try (rw [drewN_self w8]; generalize hq_ : World.drewN w8 _ = w8; have Aw : Aside0 (w8.heap[Ak]? = some (.cells #[.int .i64 Ag, .int .i64 Ah, .int .i64 Ac] 25 (0, 0))) := ⟨by rw [← hq_]; exact (bkp Aa)⟩; have Ax : Aside0 (w8.heap[An]? = some (.cells #[.int .i64 Ai, .int .i64 Ae] 53 (0, 0))) := ⟨by rw [← hq_]; exact (bkp Ab)⟩; have Ay : Aside0 (w8.heap[Am]? = some (.cells #[.int .i64 0, .int .i64 0] 53 (0, 0))) := ⟨by rw [← hq_]; exact (bkp Ad)⟩; have Az : Aside0 (Below w.heap.size w w8) := ⟨by rw [← hq_]; exact (bbw3 HB Af Al Av)⟩; clear Aa Ab Ad HB hq_; have Aa := Aw; have Ab := Ax; have Ad := Ay; have HB := Az; clear Aw Ax Ay Az)); have AK : w8.cell? ⟨An, 0, none⟩ = some (.int .i64 Ai) := bcl Ab 0; have AL : w8.cell? ⟨An, 1, none⟩ = some (.int .i64 Ae) := bcl Ab 1; have AM := blk_frozen Ab.out 0; have AN := blk_frozen Ab.out 1; have AO : w8.cell? ⟨Ak, 0, none⟩ = some (.int .i64 Ag) := bcl Aa 0; have AP : w8.cell? ⟨Ak, 1, none⟩ = some (.int .i64 Ah) := bcl Aa 1; have AQ : w8.cell? ⟨Ak, 2, none⟩ = some (.int .i64 Ac) := bcl Aa 2; have AR := blk_frozen Aa.out 0; have AS := blk_frozen Aa.out 1; have AT := blk_frozen Aa.out 2) | ((with_reducible refine gate_callee (f := 71) rfl ?_); refine gl 28 Try.func71 #[.int .i64 (wrap64 (Ai - (wrap64 ((wrap64 (Int.tdiv (wrap64 (Ae - Aj)) Ac)) * Ah)))), .int .i64 Ag] ?_; (with_reducible refine (spec_l01Mod.calls _ _ _ _ A5.out).mono ?_); rintro e w' ⟨rfl, ⟨nd, rfl⟩⟩; refine ⟨_, rfl, ?_⟩; (try (rw [drewN_self w8]; generalize hq_ : World.drewN w8 _ = w8; have Aw : Aside0 (w8.heap[Ak]? = some (.cells #[.int .i64 Ag, .int .i64 Ah, .int .i64 Ac] 25 (0, 0))) := ⟨by rw [← hq_]; exact (bkp Aa)⟩; have Ax : Aside0 (w8.heap[An]? = some (.cells #[.int .i64 Ai, .int .i64 Ae] 53 (0, 0))) := ⟨by rw [← hq_]; exact (bkp Ab)⟩; have Ay : Aside0 (w8.heap[Am]? = some (.cells #[.int .i64 0, .int .i64 0] 53 (0, 0))) := ⟨by rw [← hq_]; exact (bkp Ad)⟩; have Az : Aside0 (Below w.heap.size w w8) := ⟨by rw [← hq_]; exact (bbw3 HB Af Al Av)⟩; clear Aa Ab Ad HB hq_; have Aa := Aw; have Ab := Ax; have Ad := Ay; have HB := Az; clear Aw Ax Ay Az)); have AU : w8.cell? ⟨Am, 0, none⟩ = some (.int .i64 0) := bcl Ad 0; have AV : w8.cell? ⟨Am, 1, none⟩ = some (.int .i64 0) := bcl Ad 1; have AW := blk_frozen Ad.out 0; have AX := blk_frozen Ad.out 1));refine bodyPost_ret (results_cell_row rfl _ _ Am 53 #[.int .i64 Au, .int .i64 Aj] (0, 0) _ rfl (bq0 Ad) Try.underlying53 rfl (by kernel_rfl)) rfl ?_;exact er (bbw3 HB Af Al Av)
def spec_l06Reduce.f (Ak : Int) (Al : Int) (Am : Int) (An : Int) (Ao : Int) (Ap : Int) (Aq : Int) (Ar : Int) (As : Int) : Option (Int × Int × Int × Int × Int × Int) := (spec_l03Reduce.f Ak Al Am Ar As).bind fun Aj => (some (An, Ao, Ap, Aq, Aj.1, Aj.2))
def spec_l06Reduce.T1 : Bool × List (List Nat × List Nat) := (true, [([], []), ([0], [0]), ([], []), ([], []), ([3], [3]), ([2, 4], [2, 4]), ([1, 5], [1, 5]), ([6, 5, 0, 1, 2, 3, 4, 5, 6], [6])])
def spec_l06Reduce.B1 : List Nat := [0, 1, 0, 0, 8, 28, 63, 127]
theorem spec_l06Reduce.tab1 : rtab .any (opsOf Try.f30 1) = spec_l06Reduce.T1 := by kernel_rfl
theorem spec_l06Reduce.bits1 : waitsOk spec_l06Reduce.T1.2 spec_l06Reduce.B1 = true := by kernel_rfl
theorem spec_l06Reduce.calls (Ak : Int) (Al : Int) (Am : Int) (An : Int) (Ao : Int) (Ap : Int) (Aq : Int) (Ar : Int) (As : Int) (r1 : Int) (r2 : Int) (r3 : Int) (r4 : Int) (r5 : Int) (r6 : Int) (w : World) (h : spec_l06Reduce.f Ak Al Am An Ao Ap Aq Ar As = some (r1, r2, r3, r4, r5, r6)) :
  Calls Try.prog 30 #[.agg #[.int .i64 Ak, .int .i64 Al, .int .i64 Am], .agg #[.int .i64 An, .int .i64 Ao, .int .i64 Ap, .int .i64 Aq, .int .i64 Ar, .int .i64 As]] w fun e w' => e = .returned (.agg #[.int .i64 r1, .int .i64 r2, .int .i64 r3, .int .i64 r4, .int .i64 r5, .int .i64 r6]) ∧ Below w.heap.size w w' := by
 have hu25 := Try.underlying25
 have hu55 := Try.underlying55
 have hu51 := Try.underlying51
 have hu53 := Try.underlying53
 have HB := asd (Below.refl w.heap.size w)
 have H : ((spec_l03Reduce.f Ak Al Am Ar As).bind fun Aj => (some (An, Ao, Ap, Aq, Aj.1, Aj.2))) = some (r1, r2, r3, r4, r5, r6) := h
 clear h
 obtain ⟨⟨AR, AS⟩, A3, H⟩ := ob H
 try dsimp only at H
 simp only [Option.some.injEq, Prod.mk.injEq] at H
 obtain ⟨rfl, rfl, rfl, rfl, rfl, rfl⟩ := H
 go_enter Try.func30, Try.ntmps30
 try go_wp2_with (first | ((with_reducible refine gd 2 rfl ?_); refine bx #[.int .i64 Ak, .int .i64 Al, .int .i64 Am] 25 ?_; intro AX hg w4 Af hb; have Ai := ngw0 hg HB; replace HB := bS0 HB hb; clear hb hg) | ((with_reducible refine gd 3 rfl ?_); refine bx #[.int .i64 An, .int .i64 Ao, .int .i64 Ap, .int .i64 Aq, .int .i64 Ar, .int .i64 As] 55 ?_; intro AY hg w5 Ag hb; have At := ngw1 hg HB Ai; replace HB := bS1 HB Ai hb; have Av := nlt hg Af; have Aw := nsy (nlt hg Af); replace Af := bB Af hb; clear hb hg) | ((with_reducible refine gd 4 rfl ?_); refine bx #[.int .i64 0, .int .i64 0, .int .i64 0, .int .i64 0, .int .i64 0, .int .i64 0] 55 ?_; intro Ah hg w6 Ac hb; have Au := ngw2 hg HB Ai At; replace HB := bS2 HB Ai At hb; have Ab := nlt hg Af; have Ad := nsy (nlt hg Af); replace Af := bB Af hb; have Aa := nlt hg Ag; have Ae := nsy (nlt hg Ag); replace Ag := bB Ag hb; clear hb hg))
 replace Af := asd (blk_drew Af.out)
 replace Ag := asd (blk_drew Ag.out)
 replace Ac := asd (blk_drew Ac.out)
 replace HB := asd (qm HB.out)
 refine sh 8 (cb6 Ag (eb3 Af)) (fun hHeld => ?_); refine with_tabW spec_l06Reduce.tab1 spec_l06Reduce.bits1 (fun HT_ HW_ => ?_)
 generalize w6.drew = w7 at Af Ag Ac HB hHeld ⊢
 refine pu 0 (some 5) (bT 8 1) HT_ ?_
 refine pu 3 (some 8) (bs 8 9) HT_ ?_
 refine ta 1 (some 6) (bs 8 11) HT_ HW_ hHeld ?_
 refine ta 2 (some 7) (bT 8 4) HT_ HW_ hHeld ?_
 refine ta 4 (some 9) (bT 8 5) HT_ HW_ hHeld ?_
 refine ro 5 (some 10) (bT 8 6) HT_ (fun K hK => ?_)
 refine gs Try.func50 #[.agg #[.int .i64 Ak, .int .i64 Al, .int .i64 Am], .agg #[.int .i64 Ar, .int .i64 As]] ?_
 with_reducible refine (spec_l03Reduce.calls _ _ _ _ _ _ _ _ A3.out).mono ?_
 rintro e w8 ⟨rfl, hb⟩
 refine ⟨_, rfl, ?_⟩
 replace Af := bB Af hb
 replace Ag := bB Ag hb
 replace Ac := bB Ac hb
 replace HB := bS3 HB Ai At Au hb
 (try clear hb)
 (try clear hb2)
 (try clear hk)
 (try clear hi)
 refine hK.out _ _ (cb6 Ag (eb3 Af)).out (fun hHeld => ?_)
 clear hK K
 refine norm_ (a' := ?_) ?_ ?_
 rotate_left
 ·show Act.put _ (some 10) _ = _
  simp only [Act.put, sA, sB, sC, i64_w, i32_w];rfl
 refine pu 6 (some 11) (bT 8 7) HT_ ?_
 refine ro 7 (none) (bT 8 8) HT_ (fun K hK => ?_)
 have hs9 : w8.cell? ⟨Ah, 0, none⟩ = some (.int .i64 0) := bcl Ac 0
 have hfs9 := blk_frozen Ac.out 0
 have AT := Ab.out
 have AU := Aa.out
 have AV := Ad.out
 have AW := Ae.out
 have hs10 : w8.cell? ⟨Ah, 1, none⟩ = some (.int .i64 0) := bcl Ac 1
 have hfs10 := blk_frozen Ac.out 1
 have Ax := Ab.out
 have Ay := Aa.out
 have Az := Ad.out
 have AA := Ae.out
 have hs11 : w8.cell? ⟨Ah, 2, none⟩ = some (.int .i64 0) := bcl Ac 2
 have hfs11 := blk_frozen Ac.out 2
 have AB := Ab.out
 have AC := Aa.out
 have AD := Ad.out
 have AE := Ae.out
 have hs12 : w8.cell? ⟨Ah, 3, none⟩ = some (.int .i64 0) := bcl Ac 3
 have hfs12 := blk_frozen Ac.out 3
 have AF := Ab.out
 have AG := Aa.out
 have AH := Ad.out
 have AI := Ae.out
 have hs13 : w8.cell? ⟨Ah, 4, none⟩ = some (.int .i64 0) := bcl Ac 4
 have hfs13 := blk_frozen Ac.out 4
 have AJ := Ab.out
 have AK := Aa.out
 have AL := Ad.out
 have AM := Ae.out
 have hs14 : w8.cell? ⟨Ah, 5, none⟩ = some (.int .i64 0) := bcl Ac 5
 have hfs14 := blk_frozen Ac.out 5
 have AN := Ab.out
 have AO := Aa.out
 have AP := Ad.out
 have AQ := Ae.out
 refine skip_ (w1 := ?_) (by rfl) rfl ?_ ?_
 rotate_left
 ·go_simp;rfl
 refine hK.out _ _ ⟨(cf6 Aa (hHeld.1)), (cf6 Aa (hHeld.2.1)), (cf6 Aa (hHeld.2.2.1)), (cf6 Aa (hHeld.2.2.2.1)), (cf6 Aa (hHeld.2.2.2.2.1)), (cf6 Aa (hHeld.2.2.2.2.2.1)), (cf6 Ab (hHeld.2.2.2.2.2.2.1)), (cf6 Ab (hHeld.2.2.2.2.2.2.2.1)), (cf6 Ab (hHeld.2.2.2.2.2.2.2.2))⟩ (fun hHeld => ?_)
 clear hK K
 refine done_ (done_of HT_.out (by kernel_rfl)) ?_
 try go_wp2
 refine bodyPost_ret (results_cell_row rfl _ _ Ah 55 #[.int .i64 An, .int .i64 Ao, .int .i64 Ap, .int .i64 Aq, .int .i64 AR, .int .i64 AS] (0, 0) _ rfl (bq0 Ac) Try.underlying55 rfl (by kernel_rfl)) rfl ?_
 exact er (bbw3 HB Ai At Au)
def spec_l02Unit.f  : Option (Int × Int × Int × Int) := some (1, 0, 0, 1)
theorem spec_l02Unit.calls  (r1 : Int) (r2 : Int) (r3 : Int) (r4 : Int) (w : World) (h : spec_l02Unit.f  = some (r1, r2, r3, r4)) :
  Calls Try.prog 41 #[] w fun e w' => e = .returned (.agg #[.int .i64 r1, .int .i64 r2, .int .i64 r3, .int .i64 r4]) ∧ Below w.heap.size w w' := by
 have hu51 := Try.underlying51
 have HB := asd (Below.refl w.heap.size w)
 have H : (some (1, 0, 0, 1)) = some (r1, r2, r3, r4) := h
 clear h
 simp only [Option.some.injEq, Prod.mk.injEq] at H
 obtain ⟨rfl, rfl, rfl, rfl⟩ := H
 go_enter Try.func41, Try.ntmps41
 go_wp2_with (first | ((with_reducible refine gd 0 rfl ?_); refine bx #[.int .i64 0, .int .i64 0, .int .i64 0, .int .i64 0] 51 ?_; intro Ab hg w1 Aa hb; have Ac := ngw0 hg HB; replace HB := bS0 HB hb; clear hb hg; obtain ⟨Ad, Ae, Af, Ag, Ah, Ai, Aj, Ak⟩ := bz4 Aa))
 refine bodyPost_ret (results_cell_row rfl _ _ Ab 51 #[.int .i64 1, .int .i64 0, .int .i64 0, .int .i64 1] (0, 0) _ rfl (bq0 Aa) Try.underlying51 rfl (by kernel_rfl)) rfl ?_
 exact er (bbw1 HB Ac)
def spec_l02Apply.f (Af : Int) (Ag : Int) (Ah : Int) (Ai : Int) (Ab : Int) (Ac : Int) : Option (Int × Int) := some (wrap64 ((wrap64 (Af * Ab)) + (wrap64 (Ag * Ac))), wrap64 ((wrap64 (Ah * Ab)) + (wrap64 (Ai * Ac))))
theorem spec_l02Apply.calls (Af : Int) (Ag : Int) (Ah : Int) (Ai : Int) (Ab : Int) (Ac : Int) (r1 : Int) (r2 : Int) (w : World) (h : spec_l02Apply.f Af Ag Ah Ai Ab Ac = some (r1, r2)) :
  Calls Try.prog 68 #[.agg #[.int .i64 Af, .int .i64 Ag, .int .i64 Ah, .int .i64 Ai], .agg #[.int .i64 Ab, .int .i64 Ac]] w fun e w' => e = .returned (.agg #[.int .i64 r1, .int .i64 r2]) ∧ Below w.heap.size w w' := by
 have hu51 := Try.underlying51
 have hu53 := Try.underlying53
 have HB := asd (Below.refl w.heap.size w)
 have H : (some (wrap64 ((wrap64 (Af * Ab)) + (wrap64 (Ag * Ac))), wrap64 ((wrap64 (Ah * Ab)) + (wrap64 (Ai * Ac))))) = some (r1, r2) := h
 clear h
 simp only [Option.some.injEq, Prod.mk.injEq] at H
 obtain ⟨rfl, rfl⟩ := H
 go_enter Try.func68, Try.ntmps68
 go_wp2_with (first | ((with_reducible refine gd 2 rfl ?_); refine bx #[.int .i64 Af, .int .i64 Ag, .int .i64 Ah, .int .i64 Ai] 51 ?_; intro AJ hg w3 Aa hb; have Ad := ngw0 hg HB; replace HB := bS0 HB hb; clear hb hg) | ((with_reducible refine gd 3 rfl ?_); refine bx #[.int .i64 Ab, .int .i64 Ac] 53 ?_; intro AK hg w4 Ae hb; have Ap := ngw1 hg HB Ad; replace HB := bS1 HB Ad hb; have Aj := nlt hg Aa; have Ak := nsy (nlt hg Aa); replace Aa := bB Aa hb; clear hb hg) | ((with_reducible refine gd 4 rfl ?_); refine bx #[.int .i64 0, .int .i64 0] 53 ?_; intro Ar hg w5 Aq hb; have As := ngw2 hg HB Ad Ap; replace HB := bS2 HB Ad Ap hb; have Al := nlt hg Aa; have Am := nsy (nlt hg Aa); replace Aa := bB Aa hb; have An := nlt hg Ae; have Ao := nsy (nlt hg Ae); replace Ae := bB Ae hb; clear hb hg; have AL := Aj.out; have AM := Ak.out; have AN := Al.out; have AO := Am.out; obtain ⟨AB, AC, AD, AE, AF, AG, AH, AI⟩ := bz4 Aa; have AP := An.out; have AQ := Ao.out; obtain ⟨At, Au, Av, Aw⟩ := bz2 Ae; obtain ⟨Ax, Ay, Az, AA⟩ := bz2 Aq))
 refine bodyPost_ret (results_cell_row rfl _ _ Ar 53 #[.int .i64 (wrap64 ((wrap64 (Af * Ab)) + (wrap64 (Ag * Ac)))), .int .i64 (wrap64 ((wrap64 (Ah * Ab)) + (wrap64 (Ai * Ac))))] (0, 0) _ rfl (bq0 Aq) Try.underlying53 rfl (by kernel_rfl)) rfl ?_
 exact er (bbw3 HB Ad Ap As)
def spec_l03Basis.f (Aa : Int) (Ab : Int) (Ac : Int) : Option ((List (S53))) := some (([(⟨Aa, 0⟩ : S53), (⟨Ab, Ac⟩ : S53)] : List (S53)))
theorem spec_l03Basis.calls (Aa : Int) (Ab : Int) (Ac : Int) (r : List (S53)) (w : World) (h : spec_l03Basis.f Aa Ab Ac = some r) :
  Calls Try.prog 89 #[.agg #[.int .i64 Aa, .int .i64 Ab, .int .i64 Ac]] w fun e w' => ∃ v0_ : Value, e = .returned (v0_) ∧ Kd.R k53 53 w' w.heap.size (fun _ => True) v0_ r ∧ Below w.heap.size w w' := by
 have hu25 := Try.underlying25
 have hu53 := Try.underlying53
 have HB := asd (Below.refl w.heap.size w)
 have H : (some (([(⟨Aa, 0⟩ : S53), (⟨Ab, Ac⟩ : S53)] : List (S53)))) = some r := h
 clear h
 obtain ⟨Aj, Ad⟩ : ∃ y_ : List (S53), y_ = (([(⟨Aa, 0⟩ : S53), (⟨Ab, Ac⟩ : S53)] : List (S53))) := ⟨_, rfl⟩
 replace H : (some Aj) = some r := by first | (rw [Ad]; with_reducible exact H) | (have H2_ := (Option.bind_some _ _).symm.trans H; rw [Ad]; with_reducible exact H2_) | (have H2_ := (Option.bind_some _ _).symm.trans H; with_reducible exact H2_) | with_reducible exact H | (rw [Ad]; exact H) | exact H
 have Ag := Aside0.mk Ad
 clear Ad
 obtain rfl := Option.some.inj H
 go_enter Try.func89, Try.ntmps89
 go_wp2_with (first | ((with_reducible refine gd 1 rfl ?_); refine bx #[.int .i64 Aa, .int .i64 Ab, .int .i64 Ac] 25 ?_; intro Aq hg w2 Ae hb; have Af := ngw0 hg HB; replace HB := bS0 HB hb; clear hb hg; obtain ⟨Ak, Al, Am, An, Ao, Ap⟩ := bz3 Ae) | ((with_reducible refine gd 11 rfl ?_); refine Kd.R_lit k53 _ 53 ?hg (N := 11) ?hd (xs := ([(⟨Aa, 0⟩ : S53), (⟨Ab, Ac⟩ : S53)] : List (S53))) (inner := [.int .i64 Aa, .int .i64 0, .int .i64 Ab, .int .i64 Ac]) (ok := fun _ => True) (okp := fun _ => True) ?hr ?hp (fun _ hk => hk) trivial (Below.refl _ _) (Nat.le_refl _) (by simp) ?_; (case hd => rfl); (case hg => rfl); (case hr => first | (go_simp; done) | (go_simp; rfl)); (case hp => exact (Reps.c2 (show Kd.M k53 _ _ _ (⟨Aa, 0⟩ : S53) [.int .i64 Aa, .int .i64 0] from (k53_mkM _ _ _ (⟨Aa, 0⟩ : S53) )) (Reps.c2 (show Kd.M k53 _ _ _ (⟨Ab, Ac⟩ : S53) [.int .i64 Ab, .int .i64 Ac] from (k53_mkM _ _ _ (⟨Ab, Ac⟩ : S53) )) (Reps.none _ _)))); intro v195 w4 Ah hb hg_ hnew_; clear hg_ hnew_; (first | rw [← Ag.out] at Ah | (simp only [Int.reduceToNat] at Ah; rw [← Ag.out] at Ah)); have Ai := asd (Kd.R_lower Ah (bsz1 HB Af)); replace Ae := bB Ae hb; replace HB := bS1 HB Af hb; clear hb Ah))
 go_ret
 exact ⟨_, by first | rfl | (simp [errW_none, errW_some] <;> rfl) | (simp [*, errW_none, errW_some] <;> rfl), by (with_reducible repeat (first | apply Kd.R_alloc | apply Kd.R_drewN | apply Kd.R_drew)); exact Ai.out, bbw1 HB Af⟩
def spec_l01Divisor.f : Nat → Int → Int → Option (Int)
 | 0, _, _ => none
 | k + 1, a0, a1 => if a1 = 0 then (some (mx a0 (wrap64 (-a0)))) else ((spec_l01Divisor.f k a1 (Int.tmod a0 a1)).bind fun Aa => (some Aa))
theorem spec_l01Divisor.calls (k : Nat) : ∀ (a0 : Int) (a1 : Int) (r : Int) (w : World) (h : spec_l01Divisor.f k a0 a1 = some r),
  Calls Try.prog 97 #[.int .i64 a0, .int .i64 a1] w fun e w' => e = .returned (.int .i64 r) ∧ Below w.heap.size w w' := by
 induction k using Nat.strongRecOn with
 | _ k ih =>
 intro a0 a1 r w h
 cases k with
 | zero => exact absurd h (by simp [spec_l01Divisor.f])
 | succ k =>
 simp only [spec_l01Divisor.f] at h
 have HB := asd (Below.refl w.heap.size w)
 have H : (if a1 = 0 then (some (mx a0 (wrap64 (-a0)))) else ((spec_l01Divisor.f k a1 (Int.tmod a0 a1)).bind fun Aa => (some Aa))) = some r := h
 clear h
 by_cases c3 : a1 = 0
 ·rw [if_pos c3] at H;have Ac : (a1 == 0) = true := beq_iff_eq.mpr c3;have Ad : (a1 != 0) = false := bne_eq_false_iff_eq.mpr c3;clear c3;obtain ⟨Ae, Ab⟩ : ∃ j_ : Int, (mx a0 (wrap64 (-a0))) = j_ := ⟨_, rfl⟩;replace H : (some Ae) = some r := by first | (rw [Ab] at H; first | done | exact H) | (simp only [Ab] at H ⊢; exact H)
  have Af : (if a0 < (wrap64 (-a0)) then (wrap64 (-a0)) else a0) = Ae := Ab;obtain rfl := Option.some.inj H;go_enter Try.func97, Try.ntmps97
  go_wp2
  go_ret
  exact ⟨by first | rfl | (simp [errW_none, errW_some] <;> rfl) | (simp only [← Ab]; first | rfl | (simp [errW_none, errW_some] <;> rfl)) | (simp [*, errW_none, errW_some] <;> rfl), bbw0 HB⟩
 ·rw [if_neg c3] at H;have Ac : (a1 == 0) = false := beq_eq_false_iff_ne.mpr c3;have Ad : (a1 != 0) = true := bne_iff_ne.mpr c3;obtain ⟨Aa, A5, H⟩ := ob H;try dsimp only at H
  obtain rfl := Option.some.inj H;go_enter Try.func97, Try.ntmps97
  go_wp2_with (first | ((with_reducible refine gate_callee (f := 97) rfl ?_); refine gl 15 Try.func97 #[.int .i64 a1, .int .i64 (Int.tmod a0 a1)] ?_; (with_reducible refine (ih k (by omega) a1 (Int.tmod a0 a1) Aa _ A5.out).mono ?_); rintro e w6 ⟨rfl, hb⟩; refine ⟨_, rfl, ?_⟩; replace HB := bS0 HB hb; (try clear hb)));go_ret
  exact er (bbw0 HB)
def spec_l01Scale.f (Ab : Int) (Ac : Int) (a1 : Int) : Option (Int × Int) := some (wrap64 (a1 * Ab), wrap64 (a1 * Ac))
theorem spec_l01Scale.calls (Ab : Int) (Ac : Int) (a1 : Int) (r1 : Int) (r2 : Int) (w : World) (h : spec_l01Scale.f Ab Ac a1 = some (r1, r2)) :
  Calls Try.prog 98 #[.agg #[.int .i64 Ab, .int .i64 Ac], .int .i64 a1] w fun e w' => e = .returned (.agg #[.int .i64 r1, .int .i64 r2]) ∧ Below w.heap.size w w' := by
 have hu53 := Try.underlying53
 have HB := asd (Below.refl w.heap.size w)
 have H : (some (wrap64 (a1 * Ab), wrap64 (a1 * Ac))) = some (r1, r2) := h
 clear h
 simp only [Option.some.injEq, Prod.mk.injEq] at H
 obtain ⟨rfl, rfl⟩ := H
 go_enter Try.func98, Try.ntmps98
 go_wp2_with (first | ((with_reducible refine gd 2 rfl ?_); refine bx #[.int .i64 Ab, .int .i64 Ac] 53 ?_; intro Ar hg w3 Aa hb; have Af := ngw0 hg HB; replace HB := bS0 HB hb; clear hb hg) | ((with_reducible refine gd 4 rfl ?_); refine bx #[.int .i64 0, .int .i64 0] 53 ?_; intro Ah hg w4 Ag hb; have Ai := ngw1 hg HB Af; replace HB := bS1 HB Af hb; have Ad := nlt hg Aa; have Ae := nsy (nlt hg Aa); replace Aa := bB Aa hb; clear hb hg; have As := Ad.out; have At := Ae.out; obtain ⟨Aj, Ak, Al, Am⟩ := bz2 Aa; obtain ⟨An, Ao, Ap, Aq⟩ := bz2 Ag))
 refine bodyPost_ret (results_cell_row rfl _ _ Ah 53 #[.int .i64 (wrap64 (a1 * Ab)), .int .i64 (wrap64 (a1 * Ac))] (0, 0) _ rfl (bq0 Ag) Try.underlying53 rfl (by kernel_rfl)) rfl ?_
 exact er (bbw2 HB Af Ai)
mutual
def spec_l03Hermite.l0 : Nat → List (S53) → Int → Int → Int → Int → Option (Int × Int × Int)
 | 0, _, _, _, _, _ => none
 | k + 1, x0, x4, x5, An, Ak => if x5 < (x0.length : Int) then (if 0 ≤ x5 then (spec_l03Hermite.l1 k x0 x4 x5 An Ak ((rd_T53 x0 x5).f0) ((rd_T53 x0 x5).f1)) else (none)) else (if Ak < 0 then ((spec_l01Scale.f An Ak (-1)).bind fun AE => (if x4 > 0 then ((spec_l01Mod.f AE.1 x4).bind fun AU => (some (x4, AU, AE.2))) else (some (x4, AE.1, AE.2)))) else (if x4 > 0 then ((spec_l01Mod.f An x4).bind fun AV => (some (x4, AV, Ak))) else (some (x4, An, Ak))))
def spec_l03Hermite.l1 : Nat → List (S53) → Int → Int → Int → Int → Int → Int → Option (Int × Int × Int)
 | 0, _, _, _, _, _, _, _ => none
 | k + 1, x0, x4, x5, An, Ak, AD, At => if At = 0 then ((spec_l01Divisor.f k x4 AD).bind fun Ax => (if Ax > 0 then ((spec_l01Mod.f An Ax).bind fun AW => (spec_l03Hermite.l0 k x0 Ax (wrap64 (x5 + 1)) AW Ak)) else (spec_l03Hermite.l0 k x0 Ax (wrap64 (x5 + 1)) An Ak))) else (spec_l03Hermite.l1 k x0 x4 x5 AD At (wrap64 (An - (wrap64 ((wrap64 (Int.tdiv Ak At)) * AD)))) (wrap64 (Ak - (wrap64 ((wrap64 (Int.tdiv Ak At)) * At)))))
end
def spec_l03Hermite.f (k : Nat) (l0 : List (S53)) : Option (Int × Int × Int) := spec_l03Hermite.l0 k l0 0 0 0 0
theorem spec_l03Hermite.calls (k : Nat) (A0 : Option Addr) (c0 : Nat) (l0 : List (S53)) (r1 : Int) (r2 : Int) (r3 : Int) (w : World) (hr0 : Kd.C k53 w A0 l0.length l0) (hc0 : l0.length ≤ c0) (h : spec_l03Hermite.f k l0 = some (r1, r2, r3)) :
  Calls Try.prog 90 #[.slice A0 l0.length c0] w fun e w' => e = .returned (.agg #[.int .i64 r1, .int .i64 r2, .int .i64 r3]) ∧ Below w.heap.size w w' := by
 have hu25 := Try.underlying25
 have hu53 := Try.underlying53
 have HR0 := Aside0.mk hr0
 have C1 := Aside0.mk hc0
 clear hr0 hc0
 have HB := asd (Below.refl w.heap.size w)
 have H : (spec_l03Hermite.l0 k l0 0 0 0 0) = some (r1, r2, r3) := h
 clear h
 have H' := Aside0.mk H
 clear H
 go_enter Try.func90, Try.ntmps90
 focus go_wp2_with (first | ((with_reducible refine gd 2 rfl ?_); refine bx #[.int .i64 0, .int .i64 0, .int .i64 0] 25 ?_; intro Ao hg w2 Aa hb; have Ah := ngw0 hg HB; replace HB := bS0 HB hb; clear hb hg) | ((with_reducible refine gd 3 rfl ?_); refine bx #[.int .i64 0, .int .i64 0] 53 ?_; intro Aw hg w3 Ab hb; have Al := ngw1 hg HB Ah; replace HB := bS1 HB Ah hb; have Ae := nlt hg Aa; have Aq := nsy (nlt hg Aa); replace Aa := bB Aa hb; clear hb hg; have CU := Aq.out; have CV := Ae.out; obtain ⟨AI, AJ, AK, AL⟩ := bz2 Ab))
 go_loopg [4, 5] k (fun kq v4 v5 w' => ∃ (Ap : Int) (Ay : Int) (Af : Int) (Ad : Int), v4 = .int .i64 Ap ∧ v5 = .int .i64 Ay ∧ Aside0 (spec_l03Hermite.l0 kq l0 Ap Ay Af Ad = some (r1, r2, r3)) ∧ Aside0 (kq ≤ k) ∧ Aside0 (w'.heap[Ao]? = some (.cells #[.int .i64 0, .int .i64 0, .int .i64 0] 25 (0, 0))) ∧ Aside0 (w'.heap[Aw]? = some (.cells #[.int .i64 Af, .int .i64 Ad] 53 (0, 0))) ∧ Aside0 (Below w.heap.size w w'))
 case atStart => exact ⟨(0), (0), (0), (0), (by first | rfl | (simp; done) | (simp [*]; done)), (by first | rfl | (simp; done) | (simp [*]; done)), H', ⟨Nat.le_refl _⟩, ⟨bq1 Aa Ae⟩, ⟨bq0 Ab⟩, ⟨bbw2 HB Ah Al⟩⟩
 case round =>
  clear H';try clear AI
  try clear AJ
  try clear AK
  try clear AL
  obtain ⟨Ap, Ay, Af, Ad, rfl, rfl, HA, Bh, Aa, Ab, HB⟩ := hrel;cases gk with
  | zero => exact absurd HA.out (by simp [spec_l03Hermite.l0])
  | succ k1 =>
   have H := HA.out;clear HA;simp only [spec_l03Hermite.l0] at H;by_cases c6 : Ay < (l0.length : Int)
   rw [if_pos c6] at H;have A3 := qp c6;clear c6;by_cases c7 : 0 ≤ Ay
   rw [if_pos c7] at H;have Cw := qp c7;clear c7;have H' := Aside0.mk H;clear H;rotate_left
   ·rw [if_neg c7] at H;exact absurd H (by simp)
   rw [if_neg c6] at H;have A3 := qq c6;clear c6;by_cases AY : Ad < 0
   rw [if_pos AY] at H;have A4 := qp AY;clear AY;obtain ⟨⟨A5, A6⟩, Cy, H⟩ := ob H;try dsimp only at H
   by_cases AZ : Ap > 0
   rw [if_pos AZ] at H;have A7 : decide (0 < Ap) = true := qp AZ;clear AZ;obtain ⟨AU, CW, H⟩ := ob H;try dsimp only at H
   rotate_left;rw [if_neg AZ] at H;have A7 : decide (0 < Ap) = false := qq AZ;clear AZ;rotate_left;rw [if_neg AY] at H;have A4 := qq AY;clear AY;by_cases A1 : Ap > 0
   rw [if_pos A1] at H;have A8 : decide (0 < Ap) = true := qp A1;clear A1;obtain ⟨AV, CX, H⟩ := ob H;try dsimp only at H
   rotate_left;rw [if_neg A1] at H;have A8 : decide (0 < Ap) = false := qq A1;clear A1;rotate_left
   ·obtain ⟨p202, q202, ad202, e202, AM, AN⟩ := at_T53x HR0.out HB Ay;cases e202
    focus go_wp2_with (first | ((with_reducible refine gd 6 rfl ?_); refine bx #[.int .i64 0, .int .i64 0] 53 ?_; intro AT hg w8 Am hb; have Au := ngw2 hg HB Ah Al; replace HB := bS2 HB Ah Al hb; have Ar := nlt hg Aa; have Az := nsy (nlt hg Aa); replace Aa := bB Aa hb; have As := nlt hg Ab; have Av := nsy (nlt hg Ab); replace Ab := bB Ab hb; clear hb hg; have CY := Az.out; have CZ := Ar.out; have Cz := Av.out; have CA := As.out; obtain ⟨AO, AP, AQ, AR⟩ := bz2 Am))
    go_loopg [] k1 (fun kq w' => ∃ (Ai : Int) (Ag : Int) (Aj : Int) (Ac : Int), Aside0 (spec_l03Hermite.l1 kq l0 Ap Ay Ai Ag Aj Ac = some (r1, r2, r3)) ∧ Aside0 (kq ≤ k1) ∧ Aside0 (w'.heap[Ao]? = some (.cells #[.int .i64 0, .int .i64 0, .int .i64 0] 25 (0, 0))) ∧ Aside0 (w'.heap[Aw]? = some (.cells #[.int .i64 Ai, .int .i64 Ag] 53 (0, 0))) ∧ Aside0 (w'.heap[AT]? = some (.cells #[.int .i64 Aj, .int .i64 Ac] 53 (0, 0))) ∧ Aside0 (Below w.heap.size w w'))
    case atStart => exact ⟨(Af), (Ad), ((rd_T53 l0 Ay).f0), ((rd_T53 l0 Ay).f1), H', ⟨Nat.le_refl _⟩, ⟨bq1 Aa Ar⟩, ⟨bq1 Ab As⟩, ⟨bq0 Am⟩, ⟨bbw3 HB Ah Al Au⟩⟩
    case round =>
     clear H';(try clear c6);(try clear A3);(try clear c7);(try clear Cw);(try clear AO);(try clear AP);(try clear AI);(try clear AJ);(try clear AQ);(try clear AR);(try clear AK);(try clear AL);(try clear AM);(try clear AN);(try clear p202);(try clear q202);obtain ⟨Ai, Ag, Aj, Ac, HA, Bi, Aa, Ab, Am, HB⟩ := hrel;cases gk with
     | zero => exact absurd HA.out (by simp [spec_l03Hermite.l1])
     | succ k2 =>
      have H := HA.out;clear HA;simp only [spec_l03Hermite.l1] at H;by_cases AX : Ac = 0
      rw [if_pos AX] at H;have A9 : (Ac == 0) = true := beq_iff_eq.mpr AX;have Ba : (Ac != 0) = false := bne_eq_false_iff_eq.mpr AX;clear AX;obtain ⟨Ax, CB, H⟩ := ob H;(try dsimp only at H);by_cases A2 : Ax > 0
      rw [if_pos A2] at H;have Bb : decide (0 < Ax) = true := qp A2;clear A2;obtain ⟨AW, C0, H⟩ := ob H;(try dsimp only at H);have H' := Aside0.mk H;clear H;rotate_left;rw [if_neg A2] at H;have Bb : decide (0 < Ax) = false := qq A2;clear A2;have H' := Aside0.mk H;clear H;rotate_left;rw [if_neg AX] at H;have A9 : (Ac == 0) = false := beq_eq_false_iff_ne.mpr AX;have Ba : (Ac != 0) = true := bne_iff_ne.mpr AX;have H' := Aside0.mk H;clear H;rotate_left;all_goals
       have CC := Az.out;have CD := Ar.out;have CE := Av.out;have CF := As.out;obtain ⟨Bj, Bk, Bl, Bm⟩ := bz2 Am
      focus go_wp2_with (first | ((with_reducible refine gate_callee (f := 97) rfl ?_); refine gl 48 Try.func97 #[.int .i64 Ap, .int .i64 Aj] ?_; (with_reducible refine (spec_l01Divisor.calls _ _ _ _ _ CB.out).mono ?_); rintro e AS ⟨rfl, hb⟩; refine ⟨_, rfl, ?_⟩; replace Aa := bB Aa hb; replace Ab := bB Ab hb; replace Am := bB Am hb; replace HB := bS3 HB Ah Al Au hb; (try clear hb); have CG := Aq.out; have CH := Ae.out; obtain ⟨Bn, Bo, Bp, Bq⟩ := bz2 Ab) | ((with_reducible refine gate_callee (f := 71) rfl ?_); refine gl 54 Try.func71 #[.int .i64 Ai, .int .i64 Ax] ?_; (with_reducible refine (spec_l01Mod.calls _ _ _ _ C0.out).mono ?_); rintro e w' ⟨rfl, ⟨nd, rfl⟩⟩; refine ⟨_, rfl, ?_⟩; (try (rw [drewN_self AS]; generalize hq_ : World.drewN AS _ = AS; have Bc : Aside0 (AS.heap[Ao]? = some (.cells #[.int .i64 0, .int .i64 0, .int .i64 0] 25 (0, 0))) := ⟨by rw [← hq_]; exact (bkp Aa)⟩; have Bd : Aside0 (AS.heap[Aw]? = some (.cells #[.int .i64 Ai, .int .i64 Ag] 53 (0, 0))) := ⟨by rw [← hq_]; exact (bkp Ab)⟩; have Be : Aside0 (AS.heap[AT]? = some (.cells #[.int .i64 Aj, .int .i64 Ac] 53 (0, 0))) := ⟨by rw [← hq_]; exact (bkp Am)⟩; have CI : Aside0 (Below w.heap.size w AS) := ⟨by rw [← hq_]; exact (bbw3 HB Ah Al Au)⟩; clear Aa Ab Am HB hq_; have Aa := Bc; have Ab := Bd; have Am := Be; have HB := CI; clear Bc Bd Be CI)); have Br : AS.cell? ⟨Aw, 0, none⟩ = some (.int .i64 Ai) := bcl Ab 0; have Bs : AS.cell? ⟨Aw, 1, none⟩ = some (.int .i64 Ag) := bcl Ab 1; have Bt := blk_frozen Ab.out 0; have Bu := blk_frozen Ab.out 1))
      rotate_left;focus go_wp2_with (first | ((with_reducible refine gate_callee (f := 97) rfl ?_); refine gl 48 Try.func97 #[.int .i64 Ap, .int .i64 Aj] ?_; (with_reducible refine (spec_l01Divisor.calls _ _ _ _ _ CB.out).mono ?_); rintro e C2 ⟨rfl, hb⟩; refine ⟨_, rfl, ?_⟩; replace Aa := bB Aa hb; replace Ab := bB Ab hb; replace Am := bB Am hb; replace HB := bS3 HB Ah Al Au hb; (try clear hb)))
      rotate_left;have CJ := Aq.out;have CK := Ae.out;obtain ⟨Bv, Bw, Bx, By⟩ := bz2 Ab;focus go_wp2_with (first | ((with_reducible refine gd 8 rfl ?_); refine bx #[.int .i64 0, .int .i64 0] 53 ?_; intro CL hg C3 Bf hb; have Bg := ngw3 hg HB Ah Al Au; replace HB := bS3 HB Ah Al Au hb; have AA := nlt hg Aa; have AF := nsy (nlt hg Aa); replace Aa := bB Aa hb; have AB := nlt hg Ab; have AG := nsy (nlt hg Ab); replace Ab := bB Ab hb; have AC := nlt hg Am; have AH := nsy (nlt hg Am); replace Am := bB Am hb; clear hb hg; have CM := AF.out; have CN := AA.out; have CO := AG.out; have CP := AB.out; have CQ := AH.out; have CR := AC.out; obtain ⟨Bz, BA, BB, BC⟩ := bz2 Bf; obtain ⟨BD, BE, BF, BG⟩ := bz2 Am; obtain ⟨BH, BI, BJ, BK⟩ := bz2 Ab))
      rotate_left;all_goals
       go_roundg k2
       case measure => have := Bh.out; have := Bi.out; omega
      ·case rel => exact ⟨(Ax), (wrap64 (Ay + 1)), (AW), (Ag), (by first | rfl | (simp; done) | (simp [*]; done)), (by first | rfl | (simp; done) | (simp [*]; done)), H', ⟨by have := Bh.out; have := Bi.out; omega⟩, ⟨bq1 Aa Ae⟩, ⟨bq0 Ab⟩, ⟨bbw3 HB Ah Al Au⟩⟩
      ·case rel => exact ⟨(Ax), (wrap64 (Ay + 1)), (Ai), (Ag), (by first | rfl | (simp; done) | (simp [*]; done)), (by first | rfl | (simp; done) | (simp [*]; done)), H', ⟨by have := Bh.out; have := Bi.out; omega⟩, ⟨bkp Aa⟩, ⟨bkp Ab⟩, ⟨bbw3 HB Ah Al Au⟩⟩
      ·case rel => exact ⟨(Aj), (Ac), (wrap64 (Ai - (wrap64 ((wrap64 (Int.tdiv Ag Ac)) * Aj)))), (wrap64 (Ag - (wrap64 ((wrap64 (Int.tdiv Ag Ac)) * Ac)))), H', ⟨by have := Bh.out; have := Bi.out; omega⟩, ⟨bq3 Aa Ar Ae AA⟩, ⟨bq2 Ab As AB⟩, ⟨bq2 Am Av AC⟩, ⟨bbw4 HB Ah Al Au Bg⟩⟩
   rotate_left 4;all_goals
    simp only [Option.some.injEq, Prod.mk.injEq] at H;obtain ⟨rfl, rfl, rfl⟩ := H;have CS := Aq.out;have CT := Ae.out;obtain ⟨BL, BM, BN, BO⟩ := bz2 Ab
   ·focus go_wp2_with (first | ((with_reducible refine gate_callee (f := 98) rfl ?_); refine gl 60 Try.func98 #[.agg #[.int .i64 Af, .int .i64 Ad], .int .i64 (-1)] ?_; (with_reducible refine (spec_l01Scale.calls _ _ _ _ _ _ Cy.out).mono ?_); rintro e Cx ⟨rfl, hb⟩; refine ⟨_, rfl, ?_⟩; replace Aa := bB Aa hb; replace Ab := bB Ab hb; replace HB := bS2 HB Ah Al hb; (try clear hb); obtain ⟨BP, BQ, BR, BS⟩ := bz2 Ab) | ((with_reducible refine gate_callee (f := 71) rfl ?_); refine gl 66 Try.func71 #[.int .i64 A5, .int .i64 Ap] ?_; (with_reducible refine (spec_l01Mod.calls _ _ _ _ CW.out).mono ?_); rintro e w' ⟨rfl, ⟨nd, rfl⟩⟩; refine ⟨_, rfl, ?_⟩; have BT : Cx.cell? ⟨Ao, 0, none⟩ = some (.int .i64 0) := bcl Aa 0; have BU : Cx.cell? ⟨Ao, 1, none⟩ = some (.int .i64 0) := bcl Aa 1; have BV : Cx.cell? ⟨Ao, 2, none⟩ = some (.int .i64 0) := bcl Aa 2; have BW := blk_frozen Aa.out 0; have BX := blk_frozen Aa.out 1; have BY := blk_frozen Aa.out 2))
    refine bodyPost_ret (results_cell_row rfl _ _ Ao 25 #[.int .i64 Ap, .int .i64 AU, .int .i64 A6] (0, 0) _ rfl (bq1 Aa Ae) Try.underlying25 rfl (by kernel_rfl)) rfl ?_;exact er (bbw2 HB Ah Al)
   ·focus go_wp2_with (first | ((with_reducible refine gate_callee (f := 98) rfl ?_); refine gl 60 Try.func98 #[.agg #[.int .i64 Af, .int .i64 Ad], .int .i64 (-1)] ?_; (with_reducible refine (spec_l01Scale.calls _ _ _ _ _ _ Cy.out).mono ?_); rintro e C4 ⟨rfl, hb⟩; refine ⟨_, rfl, ?_⟩; replace Aa := bB Aa hb; replace Ab := bB Ab hb; replace HB := bS2 HB Ah Al hb; (try clear hb); obtain ⟨BZ, B0, B3, B8⟩ := bz2 Ab; obtain ⟨Ca, Cb, Cc, Cd, Ce, Cf⟩ := bz3 Aa))
    refine bodyPost_ret (results_cell_row rfl _ _ Ao 25 #[.int .i64 Ap, .int .i64 A5, .int .i64 A6] (0, 0) _ rfl (bq1 Aa Ae) Try.underlying25 rfl (by kernel_rfl)) rfl ?_;exact er (bbw2 HB Ah Al)
   ·focus go_wp2_with (first | ((with_reducible refine gate_callee (f := 71) rfl ?_); refine gl 66 Try.func71 #[.int .i64 Af, .int .i64 Ap] ?_; (with_reducible refine (spec_l01Mod.calls _ _ _ _ CX.out).mono ?_); rintro e w' ⟨rfl, ⟨nd, rfl⟩⟩; refine ⟨_, rfl, ?_⟩; (try (rw [drewN_self wr]; generalize hq_ : World.drewN wr _ = wr; have Bc : Aside0 (wr.heap[Ao]? = some (.cells #[.int .i64 0, .int .i64 0, .int .i64 0] 25 (0, 0))) := ⟨by rw [← hq_]; exact (bkp Aa)⟩; have Bd : Aside0 (wr.heap[Aw]? = some (.cells #[.int .i64 Af, .int .i64 Ad] 53 (0, 0))) := ⟨by rw [← hq_]; exact (bkp Ab)⟩; have Be : Aside0 (Below w.heap.size w wr) := ⟨by rw [← hq_]; exact (bbw2 HB Ah Al)⟩; clear Aa Ab HB hq_; have Aa := Bc; have Ab := Bd; have HB := Be; clear Bc Bd Be)); have Cg : wr.cell? ⟨Aw, 0, none⟩ = some (.int .i64 Af) := bcl Ab 0; have Ch : wr.cell? ⟨Aw, 1, none⟩ = some (.int .i64 Ad) := bcl Ab 1; have Ci := blk_frozen Ab.out 0; have Cj := blk_frozen Ab.out 1; have Ck : wr.cell? ⟨Ao, 0, none⟩ = some (.int .i64 0) := bcl Aa 0; have Cl : wr.cell? ⟨Ao, 1, none⟩ = some (.int .i64 0) := bcl Aa 1; have Cm : wr.cell? ⟨Ao, 2, none⟩ = some (.int .i64 0) := bcl Aa 2; have Cn := blk_frozen Aa.out 0; have Co := blk_frozen Aa.out 1; have Cp := blk_frozen Aa.out 2))
    refine bodyPost_ret (results_cell_row rfl _ _ Ao 25 #[.int .i64 Ap, .int .i64 AV, .int .i64 Ad] (0, 0) _ rfl (bq1 Aa Ae) Try.underlying25 rfl (by kernel_rfl)) rfl ?_;exact er (bbw2 HB Ah Al)
   ·obtain ⟨Cq, Cr, Cs, Ct, Cu, Cv⟩ := bz3 Aa;focus go_wp2
    refine bodyPost_ret (results_cell_row rfl _ _ Ao 25 #[.int .i64 Ap, .int .i64 Af, .int .i64 Ad] (0, 0) _ rfl (bq0 Aa) Try.underlying25 rfl (by kernel_rfl)) rfl ?_;exact er (bbw2 HB Ah Al)
def spec_l04Image.f (k : Nat) (Ar : Int) (As : Int) (At : Int) (Au : Int) (Az : Int) (AA : Int) (AB : Int) : Option (Int × Int × Int) := (spec_l03Basis.f Az AA AB).bind fun Af => (if 0 < (Af.length : Int) then ((spec_l02Apply.f Ar As At Au ((rd_T53 Af 0).f0) ((rd_T53 Af 0).f1)).bind fun Av => (if 1 < (Af.length : Int) then ((spec_l02Apply.f Ar As At Au ((rd_T53 Af 1).f0) ((rd_T53 Af 1).f1)).bind fun Aw => ((spec_l03Hermite.f k (([(⟨Av.1, Av.2⟩ : S53), (⟨Aw.1, Aw.2⟩ : S53)] : List (S53)))).bind fun Ah => (some (Ah.1, Ah.2.1, Ah.2.2)))) else (none))) else (none))
def spec_l04Image.T2 : Bool × List (List Nat × List Nat) := (true, [([], []), ([], []), ([1], [1]), ([2], [2]), ([0, 3], [0, 3]), ([], []), ([], []), ([6], [6]), ([7], [7]), ([5, 8, 4], [5, 8]), ([4, 9], [4, 9]), ([10, 9], [10]), ([11, 11, 0, 1, 2, 3, 4, 5, 6, 7, 8, 9, 10, 11], [11])])
def spec_l04Image.B2 : List Nat := [0, 0, 2, 6, 15, 0, 0, 64, 192, 511, 1023, 2047, 4095]
theorem spec_l04Image.tab2 : rtab .any (opsOf Try.f62 2) = spec_l04Image.T2 := by kernel_rfl
theorem spec_l04Image.bits2 : waitsOk spec_l04Image.T2.2 spec_l04Image.B2 = true := by kernel_rfl
theorem spec_l04Image.calls (k : Nat) (Ar : Int) (As : Int) (At : Int) (Au : Int) (Az : Int) (AA : Int) (AB : Int) (r1 : Int) (r2 : Int) (r3 : Int) (w : World) (h : spec_l04Image.f k Ar As At Au Az AA AB = some (r1, r2, r3)) :
  Calls Try.prog 62 #[.agg #[.int .i64 Ar, .int .i64 As, .int .i64 At, .int .i64 Au], .agg #[.int .i64 Az, .int .i64 AA, .int .i64 AB]] w fun e w' => e = .returned (.agg #[.int .i64 r1, .int .i64 r2, .int .i64 r3]) ∧ Below w.heap.size w w' := by
 have hu51 := Try.underlying51
 have hu25 := Try.underlying25
 have hu53 := Try.underlying53
 have HB := asd (Below.refl w.heap.size w)
 have H : ((spec_l03Basis.f Az AA AB).bind fun Af => (if 0 < (Af.length : Int) then ((spec_l02Apply.f Ar As At Au ((rd_T53 Af 0).f0) ((rd_T53 Af 0).f1)).bind fun Av => (if 1 < (Af.length : Int) then ((spec_l02Apply.f Ar As At Au ((rd_T53 Af 1).f0) ((rd_T53 Af 1).f1)).bind fun Aw => ((spec_l03Hermite.f k (([(⟨Av.1, Av.2⟩ : S53), (⟨Aw.1, Aw.2⟩ : S53)] : List (S53)))).bind fun Ah => (some (Ah.1, Ah.2.1, Ah.2.2)))) else (none))) else (none))) = some (r1, r2, r3) := h
 clear h
 obtain ⟨Af, A3, H⟩ := ob H
 try dsimp only at H
 by_cases c4 : 0 < (Af.length : Int)
 ·rw [if_pos c4] at H;have Bj := qp c4;have Bk : decide (0 < Af.length) = true := qp (by omega);clear c4;obtain ⟨⟨AD, AE⟩, A5, H⟩ := ob H;try dsimp only at H
  by_cases c6 : 1 < (Af.length : Int)
  ·rw [if_pos c6] at H;have Bl := qp c6;have Bm : decide (1 < Af.length) = true := qp (by omega);clear c6;obtain ⟨⟨AF, AG⟩, A7, H⟩ := ob H;try dsimp only at H
   obtain ⟨AL, Ax⟩ : ∃ y_ : List (S53), y_ = (([(⟨AD, AE⟩ : S53), (⟨AF, AG⟩ : S53)] : List (S53))) := ⟨_, rfl⟩;replace H : ((spec_l03Hermite.f k AL).bind fun Ah => (some (Ah.1, Ah.2.1, Ah.2.2))) = some (r1, r2, r3) := by first | (rw [Ax]; with_reducible exact H) | (have H2_ := (Option.bind_some _ _).symm.trans H; rw [Ax]; with_reducible exact H2_) | (have H2_ := (Option.bind_some _ _).symm.trans H; with_reducible exact H2_) | with_reducible exact H | (rw [Ax]; exact H) | exact H
   have AK := Aside0.mk Ax;clear Ax;obtain ⟨⟨A6, A9, Ba⟩, A8, H⟩ := ob H;try dsimp only at H
   simp only [Option.some.injEq, Prod.mk.injEq] at H;obtain ⟨rfl, rfl, rfl⟩ := H;go_enter Try.func62, Try.ntmps62
   try go_wp2_with (first | ((with_reducible refine gd 2 rfl ?_); refine bx #[.int .i64 Ar, .int .i64 As, .int .i64 At, .int .i64 Au] 51 ?_; intro Bc hg w9 Aa hb; have Ag := ngw0 hg HB; replace HB := bS0 HB hb; clear hb hg) | ((with_reducible refine gd 3 rfl ?_); refine bx #[.int .i64 Az, .int .i64 AA, .int .i64 AB] 25 ?_; intro Bd hg Bo Ad hb; have Ak := ngw1 hg HB Ag; replace HB := bS1 HB Ag hb; have AH := nlt hg Aa; have AI := nsy (nlt hg Aa); replace Aa := bB Aa hb; clear hb hg) | ((with_reducible refine gd 4 rfl ?_); refine bx #[.int .i64 0, .int .i64 0, .int .i64 0] 25 ?_; intro AC hg Bp Ab hb; have Aq := ngw2 hg HB Ag Ak; replace HB := bS2 HB Ag Ak hb; have Ae := nlt hg Aa; have Ap := nsy (nlt hg Aa); replace Aa := bB Aa hb; have Ai := nlt hg Ad; have Aj := nsy (nlt hg Ad); replace Ad := bB Ad hb; clear hb hg; have Be := AI.out; have Bf := AH.out; have Bg := Ai.out; have Bh := Aj.out; obtain ⟨AM, AN, AO, AP, AQ, AR⟩ := bz3 Ad) | ((with_reducible refine gate_callee (f := 89) rfl ?_); refine gl 7 Try.func89 #[.agg #[.int .i64 Az, .int .i64 AA, .int .i64 AB]] ?_; (with_reducible refine (spec_l03Basis.calls _ _ _ _ _ A3.out).mono ?_); rintro e Bn ⟨v215, rfl, Bi, hb⟩; refine ⟨_, rfl, ?_⟩; have Ac := asd (Kd.R_lower Bi (bsz3 HB Ag Ak Aq)); replace Aa := bB Aa hb; replace Ad := bB Ad hb; replace Ab := bB Ab hb; replace HB := bS3 HB Ag Ak Aq hb; (try clear hb); (try clear hb2); (try clear hk); (try clear hi); (try clear Bi)))
   replace Ac := asd (Kd.R_drew Ac.out);replace Aa := asd (blk_drew Aa.out);replace Ad := asd (blk_drew Ad.out);replace Ab := asd (blk_drew Ab.out);replace HB := asd (qm HB.out);obtain ⟨Ao17, co17, eo17⟩ := Kd.R_slice Ac.out;(first | subst eo17 | (injection eo17 with f1_ f2_ f3_; have f4_ := f1_.symm; have f5_ := f3_.symm; clear f1_ f2_ f3_; subst f4_; subst f5_))
   have p217 : 0 ≤ (0 : Int) := (by omega);have q217 : 0 < (Af.length : Int) := od;obtain ⟨ad217, e217, Al, Am⟩ := at_T53 (Kd.R_reads' Ac.out).2.2 0 p217 q217;cases e217
   have qi217 : (0 < Af.length) = True := eq_true (by omega);(try rw [show ((0 : Int)).toNat = 0 from rfl] at Al);(try rw [show 0 * 2 = 0 from rfl] at Al);(try rw [Addr.add_zero'] at Al);(try rw [show ((0 : Int)).toNat = 0 from rfl] at Am);(try rw [show 0 * 2 = 0 from rfl] at Am);(try rw [Addr.add_zero'] at Am);replace p217 := eq_true p217;replace q217 := eq_true q217;have p220 : 0 ≤ (1 : Int) := (by omega);have q220 : 1 < (Af.length : Int) := od;obtain ⟨ad220, e220, An, Ao⟩ := at_T53 (Kd.R_reads' Ac.out).2.2 1 p220 q220;obtain rfl : ad217 = ad220 := (by injection e220);(try simp only [show (1 : Int).toNat = 1 from rfl, Nat.reduceMul, Nat.reduceEqDiff, Go.Addr.add, ↓reduceIte] at An);(try simp only [show (1 : Int).toNat = 1 from rfl, Nat.reduceMul, Nat.reduceEqDiff, Go.Addr.add, ↓reduceIte] at Ao);have qi220 : (1 < Af.length) = True := eq_true (by omega);(try rw [show ((1 : Int)).toNat = 1 from rfl] at An);(try rw [show 1 * 2 = 2 from rfl] at An);(try rw [show ((1 : Int)).toNat = 1 from rfl] at Ao);(try rw [show 1 * 2 = 2 from rfl] at Ao);replace p220 := eq_true p220;replace q220 := eq_true q220;refine sh 13 (cb4 Aa (c1 Al (c1 Am (c1 An (e1 Ao))))) (fun hHeld => ?_); refine with_tabW spec_l04Image.tab2 spec_l04Image.bits2 (fun HT_ HW_ => ?_);generalize Bn.drew = Bq at Ac Aa Ad Ab HB Al Am An Ao hHeld ⊢;refine pu 1 (some 9) (bs 13 2) HT_ ?_;refine pu 2 (some 10) (bs 13 6) HT_ ?_;refine pu 6 (some 14) (bs 13 70) HT_ ?_;refine pu 7 (some 15) (bs 13 198) HT_ ?_;refine ta 0 (some 8) (bs 13 199) HT_ HW_ hHeld ?_;refine ta 3 (some 11) (bs 13 207) HT_ HW_ hHeld ?_;refine ta 5 (some 13) (bs 13 239) HT_ HW_ hHeld ?_;refine ta 8 (some 16) (bs 13 495) HT_ HW_ hHeld ?_;refine ro 4 (some 12) (bT 13 9) HT_ (fun K hK => ?_);refine gs Try.func68 #[.agg #[.int .i64 Ar, .int .i64 As, .int .i64 At, .int .i64 Au], .agg #[.int .i64 ((rd_T53 Af 0).f0), .int .i64 ((rd_T53 Af 0).f1)]] ?_;with_reducible refine (spec_l02Apply.calls _ _ _ _ _ _ _ _ _ A5.out).mono ?_
   rintro e Br ⟨rfl, hb⟩;have HS4_ := hbc hb (hHeld.2.2.2.2.1);have HS5_ := hbc hb (hHeld.2.2.2.2.2.1);have HS6_ := hbc hb (hHeld.2.2.2.2.2.2.1);have HS7_ := hbc hb (hHeld.2.2.2.2.2.2.2);refine ⟨_, rfl, ?_⟩;replace Ac := asd (Kd.R_below (kr Ac) hb);replace Aa := bB Aa hb;replace Ad := bB Ad hb;replace Ab := bB Ab hb;replace HB := bS3 HB Ag Ak Aq hb;(try clear hb);(try clear hb2);(try clear hk);(try clear hi);refine hK.out _ _ ⟨bcl Aa 0, bcl Aa 1, bcl Aa 2, bcl Aa 3, HS4_, HS5_, HS6_, HS7_⟩ (fun hHeld => ?_);clear hK K;refine norm_ (a' := ?_) ?_ ?_;rotate_left
   ·show Act.put _ (some 12) _ = _
    simp only [Act.put, sA, sB, sC, i64_w, i32_w];rfl
   refine ro 9 (some 17) (bT 13 10) HT_ (fun K hK => ?_);refine gs Try.func68 #[.agg #[.int .i64 Ar, .int .i64 As, .int .i64 At, .int .i64 Au], .agg #[.int .i64 ((rd_T53 Af 1).f0), .int .i64 ((rd_T53 Af 1).f1)]] ?_;with_reducible refine (spec_l02Apply.calls _ _ _ _ _ _ _ _ _ A7.out).mono ?_
   rintro e Bs ⟨rfl, hb⟩;have HS4_ := hbc hb (hHeld.2.2.2.2.1);have HS5_ := hbc hb (hHeld.2.2.2.2.2.1);have HS6_ := hbc hb (hHeld.2.2.2.2.2.2.1);have HS7_ := hbc hb (hHeld.2.2.2.2.2.2.2);refine ⟨_, rfl, ?_⟩;replace Ac := asd (Kd.R_below (kr Ac) hb);replace Aa := bB Aa hb;replace Ad := bB Ad hb;replace Ab := bB Ab hb;replace HB := bS3 HB Ag Ak Aq hb;(try clear hb);(try clear hb2);(try clear hk);(try clear hi);refine hK.out _ _ ⟨bcl Aa 0, bcl Aa 1, bcl Aa 2, bcl Aa 3, HS4_, HS5_, HS6_, HS7_⟩ (fun hHeld => ?_);clear hK K;refine norm_ (a' := ?_) ?_ ?_;rotate_left
   ·show Act.put _ (some 17) _ = _
    simp only [Act.put, sA, sB, sC, i64_w, i32_w];rfl
   refine ro 10 (some 18) (bT 13 11) HT_ (fun K hK => ?_);refine Kd.R_lit_step k53 _ 53 ?hg (N := 18) ?hd (xs := ([(⟨AD, AE⟩ : S53), (⟨AF, AG⟩ : S53)] : List (S53))) (inner := [.int .i64 AD, .int .i64 AE, .int .i64 AF, .int .i64 AG]) (ok := fun _ => True) (okp := fun _ => True) ?hr ?hp (fun _ hk => hk) trivial (Below.refl _ _) (Nat.le_refl _) (by simp) ?_; (case hd => rfl); (case hg => rfl); (case hr => first | (go_simp; done) | (go_simp; rfl)); (case hp => exact (Reps.c2 (show Kd.M k53 _ _ _ (⟨AD, AE⟩ : S53) [.int .i64 AD, .int .i64 AE] from (k53_mkM _ _ _ (⟨AD, AE⟩ : S53) )) (Reps.c2 (show Kd.M k53 _ _ _ (⟨AF, AG⟩ : S53) [.int .i64 AF, .int .i64 AG] from (k53_mkM _ _ _ (⟨AF, AG⟩ : S53) )) (Reps.none _ _))));intro v224 Bt AJ hb hg_ hnew_;have HS4_ := hbc hb (hHeld.2.2.2.2.1);have HS5_ := hbc hb (hHeld.2.2.2.2.2.1);have HS6_ := hbc hb (hHeld.2.2.2.2.2.2.1);have HS7_ := hbc hb (hHeld.2.2.2.2.2.2.2);clear hg_ hnew_;(first | rw [← AK.out] at AJ | (simp only [Int.reduceToNat] at AJ; rw [← AK.out] at AJ))
   have Ay := asd (Kd.R_lower (Kd.R_new' AJ (Kd.R_lt (kr Ac))) (bsz3 HB Ag Ak Aq));replace Ac := asd (Kd.R_elder' (kr Ac) (Kd.R_base AJ) hb);replace Aa := bB Aa hb;replace Ad := bB Ad hb;replace Ab := bB Ab hb;replace HB := bS3 HB Ag Ak Aq hb;clear hb AJ;obtain ⟨Ao22, co22, eo22⟩ := Kd.R_slice Ay.out;(first | subst eo22 | (injection eo22 with f1_ f2_ f3_; have f4_ := f1_.symm; have f5_ := f3_.symm; clear f1_ f2_ f3_; subst f4_; subst f5_))
   refine hK.out _ _ ⟨bcl Aa 0, bcl Aa 1, bcl Aa 2, bcl Aa 3, HS4_, HS5_, HS6_, HS7_⟩ (fun hHeld => ?_);clear hK K;refine norm_ (a' := ?_) ?_ ?_;rotate_left
   ·show Act.put _ (some 18) _ = _
    simp only [Act.put, sA, sB, sC, i64_w, i32_w];rfl
   refine ro 11 (some 19) (bT 13 12) HT_ (fun K hK => ?_);refine gs Try.func90 #[.slice Ao22 AL.length co22] ?_;with_reducible refine (spec_l03Hermite.calls _ _ _ _ _ _ _ _ ?side1 ?side2 A8.out).mono ?_
   (case side1 => exact ks (Kd.R_reads' Ay.out).2.2)
   (case side2 => exact (Kd.R_reads' Ay.out).2.1)
   rintro e Bb ⟨rfl, hb⟩;have HS4_ := hbc hb (hHeld.2.2.2.2.1);have HS5_ := hbc hb (hHeld.2.2.2.2.2.1);have HS6_ := hbc hb (hHeld.2.2.2.2.2.2.1);have HS7_ := hbc hb (hHeld.2.2.2.2.2.2.2);refine ⟨_, rfl, ?_⟩;replace Ac := asd (Kd.R_below (kr Ac) hb);replace Ay := asd (Kd.R_below (kr Ay) hb);replace Aa := bB Aa hb;replace Ad := bB Ad hb;replace Ab := bB Ab hb;replace HB := bS3 HB Ag Ak Aq hb;(try clear hb);(try clear hb2);(try clear hk);(try clear hi);refine hK.out _ _ ⟨bcl Aa 0, bcl Aa 1, bcl Aa 2, bcl Aa 3, HS4_, HS5_, HS6_, HS7_⟩ (fun hHeld => ?_);clear hK K;refine norm_ (a' := ?_) ?_ ?_;rotate_left
   ·show Act.put _ (some 19) _ = _
    simp only [Act.put, sA, sB, sC, i64_w, i32_w];rfl
   refine ro 12 (none) (bT 13 13) HT_ (fun K hK => ?_);have hs24 : Bb.cell? ⟨AC, 0, none⟩ = some (.int .i64 0) := bcl Ab 0;have hfs24 := blk_frozen Ab.out 0;have AS := Ae.out;have AT := Ai.out;have AU := Ap.out;have AV := Aj.out;have hs25 : Bb.cell? ⟨AC, 1, none⟩ = some (.int .i64 0) := bcl Ab 1;have hfs25 := blk_frozen Ab.out 1;have AW := Ae.out;have AX := Ai.out;have AY := Ap.out;have AZ := Aj.out;have hs26 : Bb.cell? ⟨AC, 2, none⟩ = some (.int .i64 0) := bcl Ab 2;have hfs26 := blk_frozen Ab.out 2;have A0 := Ae.out;have A1 := Ai.out;have A2 := Ap.out;have A4 := Aj.out;refine skip_ (w1 := ?_) (by rfl) rfl ?_ ?_;rotate_left
   ·go_simp;rfl
   refine hK.out _ _ ⟨(cf3 Ae (hHeld.1)), (cf3 Ae (hHeld.2.1)), (cf3 Ae (hHeld.2.2.1)), (cf3 Ae (hHeld.2.2.2.1)), (fx3 (Kd.own_blk (Kd.R_ne Ac.out Ab.out (by decide))) (hHeld.2.2.2.2.1)), (fx3 (Kd.own_blk (Kd.R_ne Ac.out Ab.out (by decide))) (hHeld.2.2.2.2.2.1)), (fx3 (Kd.own_blk (Kd.R_ne Ac.out Ab.out (by decide))) (hHeld.2.2.2.2.2.2.1)), (fx3 (Kd.own_blk (Kd.R_ne Ac.out Ab.out (by decide))) (hHeld.2.2.2.2.2.2.2))⟩ (fun hHeld => ?_);clear hK K;refine done_ (done_of HT_.out (by kernel_rfl)) ?_;try go_wp2
   refine bodyPost_ret (results_cell_row rfl _ _ AC 25 #[.int .i64 A6, .int .i64 A9, .int .i64 Ba] (0, 0) _ rfl (bq0 Ab) Try.underlying25 rfl (by kernel_rfl)) rfl ?_;exact er (bbw3 HB Ag Ak Aq)
  ·rw [if_neg c6] at H;exact absurd H (by simp)
 ·rw [if_neg c4] at H;exact absurd H (by simp)
def spec_l01Add.f (Ad : Int) (Ae : Int) (Af : Int) (Ag : Int) : Option (Int × Int) := some (wrap64 (Ad + Af), wrap64 (Ae + Ag))
theorem spec_l01Add.calls (Ad : Int) (Ae : Int) (Af : Int) (Ag : Int) (r1 : Int) (r2 : Int) (w : World) (h : spec_l01Add.f Ad Ae Af Ag = some (r1, r2)) :
  Calls Try.prog 67 #[.agg #[.int .i64 Ad, .int .i64 Ae], .agg #[.int .i64 Af, .int .i64 Ag]] w fun e w' => e = .returned (.agg #[.int .i64 r1, .int .i64 r2]) ∧ Below w.heap.size w w' := by
 have hu53 := Try.underlying53
 have HB := asd (Below.refl w.heap.size w)
 have H : (some (wrap64 (Ad + Af), wrap64 (Ae + Ag))) = some (r1, r2) := h
 clear h
 simp only [Option.some.injEq, Prod.mk.injEq] at H
 obtain ⟨rfl, rfl⟩ := H
 go_enter Try.func67, Try.ntmps67
 go_wp2_with (first | ((with_reducible refine gd 2 rfl ?_); refine bx #[.int .i64 Ad, .int .i64 Ae] 53 ?_; intro AD hg w3 Aa hb; have Ab := ngw0 hg HB; replace HB := bS0 HB hb; clear hb hg) | ((with_reducible refine gd 3 rfl ?_); refine bx #[.int .i64 Af, .int .i64 Ag] 53 ?_; intro AE hg w4 Ac hb; have An := ngw1 hg HB Ab; replace HB := bS1 HB Ab hb; have Ah := nlt hg Aa; have Ai := nsy (nlt hg Aa); replace Aa := bB Aa hb; clear hb hg) | ((with_reducible refine gd 4 rfl ?_); refine bx #[.int .i64 0, .int .i64 0] 53 ?_; intro Ap hg w5 Ao hb; have Aq := ngw2 hg HB Ab An; replace HB := bS2 HB Ab An hb; have Aj := nlt hg Aa; have Ak := nsy (nlt hg Aa); replace Aa := bB Aa hb; have Al := nlt hg Ac; have Am := nsy (nlt hg Ac); replace Ac := bB Ac hb; clear hb hg; have AF := Ah.out; have AG := Ai.out; have AH := Aj.out; have AI := Ak.out; obtain ⟨Az, AA, AB, AC⟩ := bz2 Aa; have AJ := Al.out; have AK := Am.out; obtain ⟨Ar, As, At, Au⟩ := bz2 Ac; obtain ⟨Av, Aw, Ax, Ay⟩ := bz2 Ao))
 refine bodyPost_ret (results_cell_row rfl _ _ Ap 53 #[.int .i64 (wrap64 (Ad + Af)), .int .i64 (wrap64 (Ae + Ag))] (0, 0) _ rfl (bq0 Ao) Try.underlying53 rfl (by kernel_rfl)) rfl ?_
 exact er (bbw3 HB Ab An Aq)
def spec_l04Norm.f (a0 : Int) (Aa : Int) (Ab : Int) : Option (Int) := if a0 = 1 then (some (wrap64 ((wrap64 ((wrap64 (Aa * Aa)) + (wrap64 (Ab * Ab)))) + (wrap64 (Aa * Ab))))) else (some (wrap64 ((wrap64 (Aa * Aa)) + (wrap64 (Ab * Ab)))))
theorem spec_l04Norm.calls (a0 : Int) (Aa : Int) (Ab : Int) (r : Int) (w : World) (h : spec_l04Norm.f a0 Aa Ab = some r) :
  Calls Try.prog 96 #[.int .i64 a0, .agg #[.int .i64 Aa, .int .i64 Ab]] w fun e w' => e = .returned (.int .i64 r) ∧ Below w.heap.size w w' := by
 have hu53 := Try.underlying53
 have HB := asd (Below.refl w.heap.size w)
 have H : (if a0 = 1 then (some (wrap64 ((wrap64 ((wrap64 (Aa * Aa)) + (wrap64 (Ab * Ab)))) + (wrap64 (Aa * Ab))))) else (some (wrap64 ((wrap64 (Aa * Aa)) + (wrap64 (Ab * Ab)))))) = some r := h
 clear h
 by_cases c3 : a0 = 1
 rw [if_pos c3] at H
 have Ae : (a0 == 1) = true := beq_iff_eq.mpr c3
 have Af : (a0 != 1) = false := bne_eq_false_iff_eq.mpr c3
 clear c3
 obtain rfl := Option.some.inj H
 rotate_left
 rw [if_neg c3] at H
 have Ae : (a0 == 1) = false := beq_eq_false_iff_ne.mpr c3
 have Af : (a0 != 1) = true := bne_iff_ne.mpr c3
 obtain rfl := Option.some.inj H
 rotate_left
 all_goals
  go_enter Try.func96, Try.ntmps96
  go_wp2_with (first | ((with_reducible refine gd 3 rfl ?_); refine bx #[.int .i64 Aa, .int .i64 Ab] 53 ?_; intro Ak hg w4 Ac hb; have Ad := ngw0 hg HB; replace HB := bS0 HB hb; clear hb hg; obtain ⟨Ag, Ah, Ai, Aj⟩ := bz2 Ac));go_ret
  exact er (bbw1 HB Ad)
end Go.Proofs.Ytedmadofpdkekaa.PA
