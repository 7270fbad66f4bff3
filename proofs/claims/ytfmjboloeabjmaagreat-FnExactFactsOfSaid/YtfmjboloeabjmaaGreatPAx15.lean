import Derived.Test.YtfmjboloeabjmaaGreatPAx0
import Derived.Test.YtfmjboloeabjmaaGreatPAx2
import Derived.Test.YtfmjboloeabjmaaGreatPAx3
import Derived.Test.YtfmjboloeabjmaaGreatPAx13
namespace Go.Proofs.YtfmjboloeabjmaaGreat.PA
open Go.RowKit Go.Proofs.YtfmjboloeabjmaaGreatW.PrintWords Go.Proofs.YtfmjboloeabjmaaGreatW.PrintLast Go.Proofs.YtfmjboloeabjmaaGreatW.PrintMore
attribute [local go_sem] max2_int min2_int max_two min_two max_three min_three max_four min_four   -- for this text's walks alone
set_option linter.unusedVariables false
set_option maxHeartbeats 8000000
set_option maxRecDepth 100000
set_option linter.unusedSimpArgs false
attribute [local go_sem high] eqA42
def impl_Lattice_reduceMotion.f (Ak : Int) (Al : Int) (Am : Int) (An : Int) (Ao : Int) (Ap : Int) (Aq : Int) (Ar : Int) (As : Int) : Option (Int × Int × Int × Int × Int × Int) := (impl_Lattice_reduce.f Ak Al Am Ar As).bind fun Aj => (some (An, Ao, Ap, Aq, Aj.1, Aj.2))
def impl_Lattice_reduceMotion.T1 : Bool × List (List Nat × List Nat) := (true, [([], []), ([0], [0]), ([], []), ([], []), ([3], [3]), ([2, 4], [2, 4]), ([1, 5], [1, 5]), ([6, 5, 0, 1, 2, 3, 4, 5, 6], [6])])
def impl_Lattice_reduceMotion.B1 : List Nat := [0, 1, 0, 0, 8, 28, 63, 127]
theorem impl_Lattice_reduceMotion.tab1 : rtab .any (opsOf Tryz.f94 1) = impl_Lattice_reduceMotion.T1 := by kernel_rfl
theorem impl_Lattice_reduceMotion.bits1 : waitsOk impl_Lattice_reduceMotion.T1.2 impl_Lattice_reduceMotion.B1 = true := by kernel_rfl
theorem impl_Lattice_reduceMotion.calls (Ak : Int) (Al : Int) (Am : Int) (An : Int) (Ao : Int) (Ap : Int) (Aq : Int) (Ar : Int) (As : Int) (r1 : Int) (r2 : Int) (r3 : Int) (r4 : Int) (r5 : Int) (r6 : Int) (w : World) (h : impl_Lattice_reduceMotion.f Ak Al Am An Ao Ap Aq Ar As = some (r1, r2, r3, r4, r5, r6)) :
  Calls Tryz.prog 94 #[.agg #[.int .i64 Ak, .int .i64 Al, .int .i64 Am], .agg #[.int .i64 An, .int .i64 Ao, .int .i64 Ap, .int .i64 Aq, .int .i64 Ar, .int .i64 As]] w fun e w' => e = .returned (.agg #[.int .i64 r1, .int .i64 r2, .int .i64 r3, .int .i64 r4, .int .i64 r5, .int .i64 r6]) ∧ Below w.heap.size w w' := by
 have hu30 := Tryz.underlying30
 have hu46 := Tryz.underlying46
 have hu42 := Tryz.underlying42
 have hu44 := Tryz.underlying44
 have HB := asd (Below.refl w.heap.size w)
 have H : ((impl_Lattice_reduce.f Ak Al Am Ar As).bind fun Aj => (some (An, Ao, Ap, Aq, Aj.1, Aj.2))) = some (r1, r2, r3, r4, r5, r6) := h
 clear h
 obtain ⟨⟨AR, AS⟩, A3, H⟩ := ob H
 try dsimp only at H
 simp only [Option.some.injEq, Prod.mk.injEq] at H
 obtain ⟨rfl, rfl, rfl, rfl, rfl, rfl⟩ := H
 go_enter Tryz.func94, Tryz.ntmps94
 try go_wp2_with (first | ((with_reducible refine gd 2 rfl ?_); refine bx #[.int .i64 Ak, .int .i64 Al, .int .i64 Am] 30 ?_; intro AX hg w4 Af hb; have Ai := ngw0 hg HB; replace HB := bS0 HB hb; clear hb hg) | ((with_reducible refine gd 3 rfl ?_); refine bx #[.int .i64 An, .int .i64 Ao, .int .i64 Ap, .int .i64 Aq, .int .i64 Ar, .int .i64 As] 46 ?_; intro AY hg w5 Ag hb; have At := ngw1 hg HB Ai; replace HB := bS1 HB Ai hb; have Av := nlt hg Af; have Aw := nsy (nlt hg Af); replace Af := bB Af hb; clear hb hg) | ((with_reducible refine gd 4 rfl ?_); refine bx #[.int .i64 0, .int .i64 0, .int .i64 0, .int .i64 0, .int .i64 0, .int .i64 0] 46 ?_; intro Ah hg w6 Ac hb; have Au := ngw2 hg HB Ai At; replace HB := bS2 HB Ai At hb; have Ab := nlt hg Af; have Ad := nsy (nlt hg Af); replace Af := bB Af hb; have Aa := nlt hg Ag; have Ae := nsy (nlt hg Ag); replace Ag := bB Ag hb; clear hb hg))
 replace Af := asd (blk_drew Af.out)
 replace Ag := asd (blk_drew Ag.out)
 replace Ac := asd (blk_drew Ac.out)
 replace HB := asd (below_drew1 HB.out)
 refine sh 8 (cb6 Ag (eb3 Af)) (fun hHeld => ?_); refine with_tabW impl_Lattice_reduceMotion.tab1 impl_Lattice_reduceMotion.bits1 (fun HT_ HW_ => ?_)
 generalize w6.drew = w7 at Af Ag Ac HB hHeld ⊢
 refine pu 0 (some 5) (bT 8 1) HT_ ?_
 refine pu 3 (some 8) (bs 8 9) HT_ ?_
 refine ta 1 (some 6) (bs 8 11) HT_ HW_ hHeld ?_
 refine ta 2 (some 7) (bT 8 4) HT_ HW_ hHeld ?_
 refine ta 4 (some 9) (bT 8 5) HT_ HW_ hHeld ?_
 refine ro 5 (some 10) (bT 8 6) HT_ (fun K hK => ?_)
 refine gs Tryz.func92 #[.agg #[.int .i64 Ak, .int .i64 Al, .int .i64 Am], .agg #[.int .i64 Ar, .int .i64 As]] ?_
 with_reducible refine (impl_Lattice_reduce.calls _ _ _ _ _ _ _ _ A3.out).mono ?_
 rintro e w8 ⟨rfl, hb⟩
 refine ⟨_, rfl, ?_⟩
 replace Af := bB Af hb
 replace Ag := bB Ag hb
 replace Ac := bB Ac hb
 replace HB := bS3 HB Ai At Au hb
 (try clear hb)
 (try clear hb2)
 (try clear hk)
 (try clear hi)
 refine hK.out _ _ (cb6 Ag (eb3 Af)).out (fun hHeld => ?_)
 clear hK K
 refine norm_ (a' := ?_) ?_ ?_
 rotate_left
 ·show Act.put _ (some 10) _ = _
  simp only [Act.put, sA, sB, sC, i64_w, i32_w]
  rfl
 refine pu 6 (some 11) (bT 8 7) HT_ ?_
 refine ro 7 (none) (bT 8 8) HT_ (fun K hK => ?_)
 have hs9 : w8.cell? ⟨Ah, 0, none⟩ = some (.int .i64 0) := bcl Ac 0
 have hfs9 := blk_frozen Ac.out 0
 have AT := Ab.out
 have AU := Aa.out
 have AV := Ad.out
 have AW := Ae.out
 have hs10 : w8.cell? ⟨Ah, 1, none⟩ = some (.int .i64 0) := bcl Ac 1
 have hfs10 := blk_frozen Ac.out 1
 have Ax := Ab.out
 have Ay := Aa.out
 have Az := Ad.out
 have AA := Ae.out
 have hs11 : w8.cell? ⟨Ah, 2, none⟩ = some (.int .i64 0) := bcl Ac 2
 have hfs11 := blk_frozen Ac.out 2
 have AB := Ab.out
 have AC := Aa.out
 have AD := Ad.out
 have AE := Ae.out
 have hs12 : w8.cell? ⟨Ah, 3, none⟩ = some (.int .i64 0) := bcl Ac 3
 have hfs12 := blk_frozen Ac.out 3
 have AF := Ab.out
 have AG := Aa.out
 have AH := Ad.out
 have AI := Ae.out
 have hs13 : w8.cell? ⟨Ah, 4, none⟩ = some (.int .i64 0) := bcl Ac 4
 have hfs13 := blk_frozen Ac.out 4
 have AJ := Ab.out
 have AK := Aa.out
 have AL := Ad.out
 have AM := Ae.out
 have hs14 : w8.cell? ⟨Ah, 5, none⟩ = some (.int .i64 0) := bcl Ac 5
 have hfs14 := blk_frozen Ac.out 5
 have AN := Ab.out
 have AO := Aa.out
 have AP := Ad.out
 have AQ := Ae.out
 refine skip_ (w1 := ?_) (by rfl) rfl ?_ ?_
 rotate_left
 ·go_simp
  rfl
 refine hK.out _ _ ⟨(cf6 Aa (hHeld.1)), (cf6 Aa (hHeld.2.1)), (cf6 Aa (hHeld.2.2.1)), (cf6 Aa (hHeld.2.2.2.1)), (cf6 Aa (hHeld.2.2.2.2.1)), (cf6 Aa (hHeld.2.2.2.2.2.1)), (cf6 Ab (hHeld.2.2.2.2.2.2.1)), (cf6 Ab (hHeld.2.2.2.2.2.2.2.1)), (cf6 Ab (hHeld.2.2.2.2.2.2.2.2))⟩ (fun hHeld => ?_)
 clear hK K
 refine done_ (done_of HT_.out (by kernel_rfl)) ?_
 try go_wp2
 refine bodyPost_ret (results_cell_row rfl _ _ Ah 46 #[.int .i64 An, .int .i64 Ao, .int .i64 Ap, .int .i64 Aq, .int .i64 AR, .int .i64 AS] (0, 0) _ rfl (bq0 Ac) Tryz.underlying46 rfl (by kernel_rfl)) rfl ?_
 exact er (bbw3 HB Ai At Au)
def impl_Vec_add.f (Ad : Int) (Ae : Int) (Af : Int) (Ag : Int) : Option (Int × Int) := some (wrap64 (Ad + Af), wrap64 (Ae + Ag))
theorem impl_Vec_add.calls (Ad : Int) (Ae : Int) (Af : Int) (Ag : Int) (r1 : Int) (r2 : Int) (w : World) (h : impl_Vec_add.f Ad Ae Af Ag = some (r1, r2)) :
  Calls Tryz.prog 65 #[.agg #[.int .i64 Ad, .int .i64 Ae], .agg #[.int .i64 Af, .int .i64 Ag]] w fun e w' => e = .returned (.agg #[.int .i64 r1, .int .i64 r2]) ∧ Below w.heap.size w w' := by
 have hu44 := Tryz.underlying44
 have HB := asd (Below.refl w.heap.size w)
 have H : (some (wrap64 (Ad + Af), wrap64 (Ae + Ag))) = some (r1, r2) := h
 clear h
 simp only [Option.some.injEq, Prod.mk.injEq] at H
 obtain ⟨rfl, rfl⟩ := H
 go_enter Tryz.func65, Tryz.ntmps65
 go_wp2_with (first | ((with_reducible refine gd 2 rfl ?_); refine bx #[.int .i64 Ad, .int .i64 Ae] 44 ?_; intro AD hg w3 Aa hb; have Ab := ngw0 hg HB; replace HB := bS0 HB hb; clear hb hg) | ((with_reducible refine gd 3 rfl ?_); refine bx #[.int .i64 Af, .int .i64 Ag] 44 ?_; intro AE hg w4 Ac hb; have An := ngw1 hg HB Ab; replace HB := bS1 HB Ab hb; have Ah := nlt hg Aa; have Ai := nsy (nlt hg Aa); replace Aa := bB Aa hb; clear hb hg) | ((with_reducible refine gd 4 rfl ?_); refine bx #[.int .i64 0, .int .i64 0] 44 ?_; intro Ap hg w5 Ao hb; have Aq := ngw2 hg HB Ab An; replace HB := bS2 HB Ab An hb; have Aj := nlt hg Aa; have Ak := nsy (nlt hg Aa); replace Aa := bB Aa hb; have Al := nlt hg Ac; have Am := nsy (nlt hg Ac); replace Ac := bB Ac hb; clear hb hg; have AF := Ah.out; have AG := Ai.out; have AH := Aj.out; have AI := Ak.out; obtain ⟨Az, AA, AB, AC⟩ := bz2 Aa; have AJ := Al.out; have AK := Am.out; obtain ⟨Ar, As, At, Au⟩ := bz2 Ac; obtain ⟨Av, Aw, Ax, Ay⟩ := bz2 Ao))
 refine bodyPost_ret (results_cell_row rfl _ _ Ap 44 #[.int .i64 (wrap64 (Ad + Af)), .int .i64 (wrap64 (Ae + Ag))] (0, 0) _ rfl (bq0 Ao) Tryz.underlying44 rfl (by kernel_rfl)) rfl ?_
 exact er (bbw3 HB Ab An Aq)
def impl_Mat_times.f (Ab : Int) (Ac : Int) (Ad : Int) (Ae : Int) (Af : Int) (Ag : Int) (Ah : Int) (Ai : Int) : Option (Int × Int × Int × Int) := some (wrap64 ((wrap64 (Ab * Af)) + (wrap64 (Ac * Ah))), wrap64 ((wrap64 (Ab * Ag)) + (wrap64 (Ac * Ai))), wrap64 ((wrap64 (Ad * Af)) + (wrap64 (Ae * Ah))), wrap64 ((wrap64 (Ad * Ag)) + (wrap64 (Ae * Ai))))
theorem impl_Mat_times.calls (Ab : Int) (Ac : Int) (Ad : Int) (Ae : Int) (Af : Int) (Ag : Int) (Ah : Int) (Ai : Int) (r1 : Int) (r2 : Int) (r3 : Int) (r4 : Int) (w : World) (h : impl_Mat_times.f Ab Ac Ad Ae Af Ag Ah Ai = some (r1, r2, r3, r4)) :
  Calls Tryz.prog 114 #[.agg #[.int .i64 Ab, .int .i64 Ac, .int .i64 Ad, .int .i64 Ae], .agg #[.int .i64 Af, .int .i64 Ag, .int .i64 Ah, .int .i64 Ai]] w fun e w' => e = .returned (.agg #[.int .i64 r1, .int .i64 r2, .int .i64 r3, .int .i64 r4]) ∧ Below w.heap.size w w' := by
 have hu42 := Tryz.underlying42
 have HB := asd (Below.refl w.heap.size w)
 have H : (some (wrap64 ((wrap64 (Ab * Af)) + (wrap64 (Ac * Ah))), wrap64 ((wrap64 (Ab * Ag)) + (wrap64 (Ac * Ai))), wrap64 ((wrap64 (Ad * Af)) + (wrap64 (Ae * Ah))), wrap64 ((wrap64 (Ad * Ag)) + (wrap64 (Ae * Ai))))) = some (r1, r2, r3, r4) := h
 clear h
 simp only [Option.some.injEq, Prod.mk.injEq] at H
 obtain ⟨rfl, rfl, rfl, rfl⟩ := H
 go_enter Tryz.func114, Tryz.ntmps114
 go_wp2_with (first | ((with_reducible refine gd 2 rfl ?_); refine bx #[.int .i64 Ab, .int .i64 Ac, .int .i64 Ad, .int .i64 Ae] 42 ?_; intro AT hg w3 Aa hb; have Aj := ngw0 hg HB; replace HB := bS0 HB hb; clear hb hg) | ((with_reducible refine gd 3 rfl ?_); refine bx #[.int .i64 Af, .int .i64 Ag, .int .i64 Ah, .int .i64 Ai] 42 ?_; intro AU hg w4 Ak hb; have Ar := ngw1 hg HB Aj; replace HB := bS1 HB Aj hb; have Al := nlt hg Aa; have Am := nsy (nlt hg Aa); replace Aa := bB Aa hb; clear hb hg) | ((with_reducible refine gd 4 rfl ?_); refine bx #[.int .i64 0, .int .i64 0, .int .i64 0, .int .i64 0] 42 ?_; intro At hg w5 As hb; have Au := ngw2 hg HB Aj Ar; replace HB := bS2 HB Aj Ar hb; have An := nlt hg Aa; have Ao := nsy (nlt hg Aa); replace Aa := bB Aa hb; have Ap := nlt hg Ak; have Aq := nsy (nlt hg Ak); replace Ak := bB Ak hb; clear hb hg; have AV := Al.out; have AW := Am.out; have AX := An.out; have AY := Ao.out; obtain ⟨AL, AM, AN, AO, AP, AQ, AR, AS⟩ := bz4 Aa; have AZ := Ap.out; have A0 := Aq.out; obtain ⟨Av, Aw, Ax, Ay, Az, AA, AB, AC⟩ := bz4 Ak; obtain ⟨AD, AE, AF, AG, AH, AI, AJ, AK⟩ := bz4 As))
 refine bodyPost_ret (results_cell_row rfl _ _ At 42 #[.int .i64 (wrap64 ((wrap64 (Ab * Af)) + (wrap64 (Ac * Ah)))), .int .i64 (wrap64 ((wrap64 (Ab * Ag)) + (wrap64 (Ac * Ai)))), .int .i64 (wrap64 ((wrap64 (Ad * Af)) + (wrap64 (Ae * Ah)))), .int .i64 (wrap64 ((wrap64 (Ad * Ag)) + (wrap64 (Ae * Ai))))] (0, 0) _ rfl (bq0 As) Tryz.underlying42 rfl (by kernel_rfl)) rfl ?_
 exact er (bbw3 HB Aj Ar Au)
def impl_Motion_times.f (Ak : Int) (Al : Int) (Am : Int) (An : Int) (Ar : Int) (As : Int) (At : Int) (Au : Int) (Av : Int) (Aw : Int) (Ax : Int) (Ay : Int) : Option (Int × Int × Int × Int × Int × Int) := (impl_Mat_times.f Ak Al Am An At Au Av Aw).bind fun Ah => ((impl_Mat_apply.f Ak Al Am An Ax Ay).bind fun Ap => ((impl_Vec_add.f Ap.1 Ap.2 Ar As).bind fun Aq => (some (Ah.1, Ah.2.1, Ah.2.2.1, Ah.2.2.2, Aq.1, Aq.2))))
def impl_Motion_times.T1 : Bool × List (List Nat × List Nat) := (true, [([], []), ([0], [0]), ([], []), ([2], [2]), ([1, 3], [1, 3]), ([], []), ([5], [5]), ([], []), ([7], [7]), ([6, 8, 4], [6, 8]), ([], []), ([10], [10]), ([9, 11, 9], [9, 11]), ([4, 12], [4, 12]), ([13, 12, 0, 1, 2, 3, 4, 5, 6, 7, 8, 9, 10, 11, 12, 13], [13])])
def impl_Motion_times.B1 : List Nat := [0, 1, 0, 4, 15, 0, 32, 0, 128, 511, 0, 1024, 4095, 8191, 16383]
theorem impl_Motion_times.tab1 : rtab .any (opsOf Tryz.f95 1) = impl_Motion_times.T1 := by kernel_rfl
theorem impl_Motion_times.bits1 : waitsOk impl_Motion_times.T1.2 impl_Motion_times.B1 = true := by kernel_rfl
theorem impl_Motion_times.calls (Ak : Int) (Al : Int) (Am : Int) (An : Int) (Ar : Int) (As : Int) (At : Int) (Au : Int) (Av : Int) (Aw : Int) (Ax : Int) (Ay : Int) (r1 : Int) (r2 : Int) (r3 : Int) (r4 : Int) (r5 : Int) (r6 : Int) (w : World) (h : impl_Motion_times.f Ak Al Am An Ar As At Au Av Aw Ax Ay = some (r1, r2, r3, r4, r5, r6)) :
  Calls Tryz.prog 95 #[.agg #[.int .i64 Ak, .int .i64 Al, .int .i64 Am, .int .i64 An, .int .i64 Ar, .int .i64 As], .agg #[.int .i64 At, .int .i64 Au, .int .i64 Av, .int .i64 Aw, .int .i64 Ax, .int .i64 Ay]] w fun e w' => e = .returned (.agg #[.int .i64 r1, .int .i64 r2, .int .i64 r3, .int .i64 r4, .int .i64 r5, .int .i64 r6]) ∧ Below w.heap.size w w' := by
 have hu46 := Tryz.underlying46
 have hu42 := Tryz.underlying42
 have hu44 := Tryz.underlying44
 have HB := asd (Below.refl w.heap.size w)
 have H : ((impl_Mat_times.f Ak Al Am An At Au Av Aw).bind fun Ah => ((impl_Mat_apply.f Ak Al Am An Ax Ay).bind fun Ap => ((impl_Vec_add.f Ap.1 Ap.2 Ar As).bind fun Aq => (some (Ah.1, Ah.2.1, Ah.2.2.1, Ah.2.2.2, Aq.1, Aq.2))))) = some (r1, r2, r3, r4, r5, r6) := h
 clear h
 obtain ⟨⟨A0, A1, A2, A6⟩, A3, H⟩ := ob H
 try dsimp only at H
 obtain ⟨⟨A7, A8⟩, A4, H⟩ := ob H
 try dsimp only at H
 obtain ⟨⟨A9, Ba⟩, A5, H⟩ := ob H
 try dsimp only at H
 simp only [Option.some.injEq, Prod.mk.injEq] at H
 obtain ⟨rfl, rfl, rfl, rfl, rfl, rfl⟩ := H
 go_enter Tryz.func95, Tryz.ntmps95
 try go_wp2_with (first | ((with_reducible refine gd 2 rfl ?_); refine bx #[.int .i64 Ak, .int .i64 Al, .int .i64 Am, .int .i64 An, .int .i64 Ar, .int .i64 As] 46 ?_; intro Bb hg w6 Ad hb; have Ai := ngw0 hg HB; replace HB := bS0 HB hb; clear hb hg) | ((with_reducible refine gd 3 rfl ?_); refine bx #[.int .i64 At, .int .i64 Au, .int .i64 Av, .int .i64 Aw, .int .i64 Ax, .int .i64 Ay] 46 ?_; intro Bc hg w7 Ae hb; have Ao := ngw1 hg HB Ai; replace HB := bS1 HB Ai hb; have AA := nlt hg Ad; have AB := nsy (nlt hg Ad); replace Ad := bB Ad hb; clear hb hg) | ((with_reducible refine gd 4 rfl ?_); refine bx #[.int .i64 0, .int .i64 0, .int .i64 0, .int .i64 0, .int .i64 0, .int .i64 0] 46 ?_; intro Aj hg w8 Ac hb; have Az := ngw2 hg HB Ai Ao; replace HB := bS2 HB Ai Ao hb; have Aa := nlt hg Ad; have Af := nsy (nlt hg Ad); replace Ad := bB Ad hb; have Ab := nlt hg Ae; have Ag := nsy (nlt hg Ae); replace Ae := bB Ae hb; clear hb hg))
 replace Ad := asd (blk_drew Ad.out)
 replace Ae := asd (blk_drew Ae.out)
 replace Ac := asd (blk_drew Ac.out)
 replace HB := asd (below_drew1 HB.out)
 refine sh 15 (cb6 Ad (eb6 Ae)) (fun hHeld => ?_); refine with_tabW impl_Motion_times.tab1 impl_Motion_times.bits1 (fun HT_ HW_ => ?_)
 generalize w8.drew = w9 at Ad Ae Ac HB hHeld ⊢
 refine pu 0 (some 5) (bT 15 1) HT_ ?_
 refine pu 2 (some 7) (bs 15 5) HT_ ?_
 refine pu 5 (some 10) (bs 15 37) HT_ ?_
 refine pu 7 (some 12) (bs 15 165) HT_ ?_
 refine pu 10 (some 15) (bs 15 1189) HT_ ?_
 refine ta 1 (some 6) (bs 15 1191) HT_ HW_ hHeld ?_
 refine ta 3 (some 8) (bs 15 1199) HT_ HW_ hHeld ?_
 refine ta 6 (some 11) (bs 15 1263) HT_ HW_ hHeld ?_
 refine ta 8 (some 13) (bs 15 1519) HT_ HW_ hHeld ?_
 refine ta 11 (some 16) (bs 15 3567) HT_ HW_ hHeld ?_
 refine ro 4 (some 9) (bs 15 3583) HT_ (fun K hK => ?_)
 refine gs Tryz.func114 #[.agg #[.int .i64 Ak, .int .i64 Al, .int .i64 Am, .int .i64 An], .agg #[.int .i64 At, .int .i64 Au, .int .i64 Av, .int .i64 Aw]] ?_
 with_reducible refine (impl_Mat_times.calls _ _ _ _ _ _ _ _ _ _ _ _ _ A3.out).mono ?_
 rintro e Bd ⟨rfl, hb⟩
 refine ⟨_, rfl, ?_⟩
 replace Ad := bB Ad hb
 replace Ae := bB Ae hb
 replace Ac := bB Ac hb
 replace HB := bS3 HB Ai Ao Az hb
 (try clear hb)
 (try clear hb2)
 (try clear hk)
 (try clear hi)
 refine hK.out _ _ (cb6 Ad (eb6 Ae)).out (fun hHeld => ?_)
 clear hK K
 refine norm_ (a' := ?_) ?_ ?_
 rotate_left
 ·show Act.put _ (some 9) _ = _
  simp only [Act.put, sA, sB, sC, i64_w, i32_w]
  rfl
 refine ro 9 (some 14) (bT 15 12) HT_ (fun K hK => ?_)
 refine gs Tryz.func99 #[.agg #[.int .i64 Ak, .int .i64 Al, .int .i64 Am, .int .i64 An], .agg #[.int .i64 Ax, .int .i64 Ay]] ?_
 with_reducible refine (impl_Mat_apply.calls _ _ _ _ _ _ _ _ _ A4.out).mono ?_
 rintro e Be ⟨rfl, hb⟩
 refine ⟨_, rfl, ?_⟩
 replace Ad := bB Ad hb
 replace Ae := bB Ae hb
 replace Ac := bB Ac hb
 replace HB := bS3 HB Ai Ao Az hb
 (try clear hb)
 (try clear hb2)
 (try clear hk)
 (try clear hi)
 refine hK.out _ _ (cb6 Ad (eb6 Ae)).out (fun hHeld => ?_)
 clear hK K
 refine norm_ (a' := ?_) ?_ ?_
 rotate_left
 ·show Act.put _ (some 14) _ = _
  simp only [Act.put, sA, sB, sC, i64_w, i32_w]
  rfl
 refine ro 12 (some 17) (bT 15 13) HT_ (fun K hK => ?_)
 refine gs Tryz.func65 #[.agg #[.int .i64 A7, .int .i64 A8], .agg #[.int .i64 Ar, .int .i64 As]] ?_
 with_reducible refine (impl_Vec_add.calls _ _ _ _ _ _ _ A5.out).mono ?_
 rintro e w12 ⟨rfl, hb⟩
 refine ⟨_, rfl, ?_⟩
 replace Ad := bB Ad hb
 replace Ae := bB Ae hb
 replace Ac := bB Ac hb
 replace HB := bS3 HB Ai Ao Az hb
 (try clear hb)
 (try clear hb2)
 (try clear hk)
 (try clear hi)
 refine hK.out _ _ (cb6 Ad (eb6 Ae)).out (fun hHeld => ?_)
 clear hK K
 refine norm_ (a' := ?_) ?_ ?_
 rotate_left
 ·show Act.put _ (some 17) _ = _
  simp only [Act.put, sA, sB, sC, i64_w, i32_w]
  rfl
 refine pu 13 (some 18) (bT 15 14) HT_ ?_
 refine ro 14 (none) (bT 15 15) HT_ (fun K hK => ?_)
 have hs13 : w12.cell? ⟨Aj, 0, none⟩ = some (.int .i64 0) := bcl Ac 0
 have hfs13 := blk_frozen Ac.out 0
 have AC := Aa.out
 have AD := Ab.out
 have AE := Af.out
 have AF := Ag.out
 have hs14 : w12.cell? ⟨Aj, 1, none⟩ = some (.int .i64 0) := bcl Ac 1
 have hfs14 := blk_frozen Ac.out 1
 have AG := Aa.out
 have AH := Ab.out
 have AI := Af.out
 have AJ := Ag.out
 have hs15 : w12.cell? ⟨Aj, 2, none⟩ = some (.int .i64 0) := bcl Ac 2
 have hfs15 := blk_frozen Ac.out 2
 have AK := Aa.out
 have AL := Ab.out
 have AM := Af.out
 have AN := Ag.out
 have hs16 : w12.cell? ⟨Aj, 3, none⟩ = some (.int .i64 0) := bcl Ac 3
 have hfs16 := blk_frozen Ac.out 3
 have AO := Aa.out
 have AP := Ab.out
 have AQ := Af.out
 have AR := Ag.out
 have hs17 : w12.cell? ⟨Aj, 4, none⟩ = some (.int .i64 0) := bcl Ac 4
 have hfs17 := blk_frozen Ac.out 4
 have AS := Aa.out
 have AT := Ab.out
 have AU := Af.out
 have AV := Ag.out
 have hs18 : w12.cell? ⟨Aj, 5, none⟩ = some (.int .i64 0) := bcl Ac 5
 have hfs18 := blk_frozen Ac.out 5
 have AW := Aa.out
 have AX := Ab.out
 have AY := Af.out
 have AZ := Ag.out
 refine skip_ (w1 := ?_) (by rfl) rfl ?_ ?_
 rotate_left
 ·go_simp
  rfl
 refine hK.out _ _ ⟨(cf6 Aa (hHeld.1)), (cf6 Aa (hHeld.2.1)), (cf6 Aa (hHeld.2.2.1)), (cf6 Aa (hHeld.2.2.2.1)), (cf6 Aa (hHeld.2.2.2.2.1)), (cf6 Aa (hHeld.2.2.2.2.2.1)), (cf6 Ab (hHeld.2.2.2.2.2.2.1)), (cf6 Ab (hHeld.2.2.2.2.2.2.2.1)), (cf6 Ab (hHeld.2.2.2.2.2.2.2.2.1)), (cf6 Ab (hHeld.2.2.2.2.2.2.2.2.2.1)), (cf6 Ab (hHeld.2.2.2.2.2.2.2.2.2.2.1)), (cf6 Ab (hHeld.2.2.2.2.2.2.2.2.2.2.2))⟩ (fun hHeld => ?_)
 clear hK K
 refine done_ (done_of HT_.out (by kernel_rfl)) ?_
 try go_wp2
 refine bodyPost_ret (results_cell_row rfl _ _ Aj 46 #[.int .i64 A0, .int .i64 A1, .int .i64 A2, .int .i64 A6, .int .i64 A9, .int .i64 Ba] (0, 0) _ rfl (bq0 Ac) Tryz.underlying46 rfl (by kernel_rfl)) rfl ?_
 exact er (bbw3 HB Ai Ao Az)
attribute [local go_sem high] eqA44
theorem mapMo.wide : (match Tryz.prog.underlying 46 with | some (.array _ _) | some (.struct _) => true | _ => false) = true := by rw [Tryz.underlying46]
theorem mapMo.law : Go.Maps.Keyed Tryz.prog 46 := Go.Maps.Keyed.of_law (deep_law_laid (P := Tryz.prog) (by kernel_rfl) (m := 3) (by omega) (of_decide_eq_true (by kernel_rfl)) (by kernel_rfl) mapMo.wide)
def mapMo.enc (x : S46) : Value := .agg #[.int .i64 x.f0.f0, .int .i64 x.f0.f1, .int .i64 x.f0.f2, .int .i64 x.f0.f3, .int .i64 x.f1.f0, .int .i64 x.f1.f1]
def mapMo.lits (x : S46) : List Lit := [.int .i64 x.f0.f0, .int .i64 x.f0.f1, .int .i64 x.f0.f2, .int .i64 x.f0.f3, .int .i64 x.f1.f0, .int .i64 x.f1.f1]
def mapMo.wf (x : S46) : Bool := (mapMo.lits x).all Lit.wf
def mapMo.kl (x : S46) : Lit := .string (keyBytes (mapMo.lits x))
theorem mapMo.hkey (x : S46) (h : mapMo.wf x = true) : keyOf Tryz.prog 46 (mapMo.enc x) = some (mapMo.kl x) := by
 simp only [mapMo.wf, mapMo.lits, List.all_cons, List.all_nil, Bool.and_true, Bool.and_eq_true] at h
 obtain ⟨h0, h1, h2, h3, h4, h5⟩ := h
 have k2 : ∀ (d : Nat) (n : Int), (Lit.int .i64 n).wf = true → Tryz.prog.keyLits (d + 1) 2 [.int .i64 n] = some [.int .i64 n] := fun d n hn => by
  simp [Program.keyLits, Tryz.underlying2, hn]
 have k34 : ∀ (d : Nat) (a b : Int), (Lit.int .i64 a).wf = true → (Lit.int .i64 b).wf = true → Tryz.prog.keyLits (d + 2) 44 [.int .i64 a, .int .i64 b] = some [.int .i64 a, .int .i64 b] := fun d a b ha hb => by
  unfold Program.keyLits
  rw [Tryz.underlying44]
  have c : Tryz.prog.cellsOf 44 = 2 := by kernel_rfl
  have c2 : Tryz.prog.cellsOf 2 = 1 := by kernel_rfl
  simp [c, c2, k2, ha, hb]
 have k33 : ∀ (d : Nat) (a b c e : Int), (Lit.int .i64 a).wf = true → (Lit.int .i64 b).wf = true → (Lit.int .i64 c).wf = true → (Lit.int .i64 e).wf = true → Tryz.prog.keyLits (d + 2) 42 [.int .i64 a, .int .i64 b, .int .i64 c, .int .i64 e] = some [.int .i64 a, .int .i64 b, .int .i64 c, .int .i64 e] := fun d a b c e ha hb hc he => by
  unfold Program.keyLits
  rw [Tryz.underlying42]
  have c' : Tryz.prog.cellsOf 42 = 4 := by kernel_rfl
  have c2 : Tryz.prog.cellsOf 2 = 1 := by kernel_rfl
  simp [c', c2, k2, ha, hb, hc, he]
 have hf : (mapMo.enc x).formed Tryz.prog 46 = true := by
  simp [Value.formed, mapMo.enc, Tryz.underlying46, show Tryz.prog.cellsOf 46 = 6 by kernel_rfl]
 have hk : Tryz.prog.keyType 46 = true := by kernel_rfl
 have hs : ∃ m, Tryz.prog.types.size = m + 2 := ⟨Tryz.prog.types.size - 2, by have : (2 : Nat) ≤ Tryz.prog.types.size := of_decide_eq_true (by kernel_rfl); omega⟩
 obtain ⟨m, hm⟩ := hs
 unfold keyOf
 rw [Tryz.underlying46, hm]
 dsimp only
 rw [hk, hf]
 unfold Program.keyLits
 rw [Tryz.underlying46]
 have c : Tryz.prog.cellsOf 46 = 6 := by kernel_rfl
 have Aa : Tryz.prog.cellsOf 42 = 4 := by kernel_rfl
 have Ab : Tryz.prog.cellsOf 44 = 2 := by kernel_rfl
 simp [mapMo.enc, Value.cells, c, Aa, Ab, k33, k34, h0, h1, h2, h3, h4, h5, mapMo.kl, mapMo.lits]
def mapMo.eqB (x y : S46) : Bool := x.f0.f0 == y.f0.f0 && (x.f0.f1 == y.f0.f1 && (x.f0.f2 == y.f0.f2 && (x.f0.f3 == y.f0.f3 && (x.f1.f0 == y.f1.f0 && x.f1.f1 == y.f1.f1))))
theorem mapMo.eqB_iff (x y : S46) : mapMo.eqB x y = true ↔ x = y := by
 obtain ⟨⟨a, b, c, d⟩, e, f⟩ := x
 obtain ⟨⟨a', b', c', d'⟩, e', f'⟩ := y
 simp only [mapMo.eqB, Bool.and_eq_true, beq_iff_eq]
 constructor
 ·rintro ⟨rfl, rfl, rfl, rfl, rfl, rfl⟩; rfl
 ·intro h; cases h; exact ⟨rfl, rfl, rfl, rfl, rfl, rfl⟩
theorem mapMo.enc_inj {x y : S46} (h : mapMo.enc x = mapMo.enc y) : x = y := by
 obtain ⟨⟨a, b, c, d⟩, e, f⟩ := x
 obtain ⟨⟨a', b', c', d'⟩, e', f'⟩ := y
 simp only [mapMo.enc, Value.agg.injEq, Array.mk.injEq, List.cons.injEq, Value.int.injEq, true_and, and_true] at h
 obtain ⟨rfl, rfl, rfl, rfl, rfl, rfl⟩ := h
 rfl
theorem mapMo.kl_inj {x y : S46} (hx : mapMo.wf x = true) (hy : mapMo.wf y = true) (h : mapMo.kl x = mapMo.kl y) : x = y := by
 have e1 := mapMo.hkey x hx
 have e2 := mapMo.hkey y hy
 rw [← h] at e2
 exact mapMo.enc_inj (mapMo.law.inj e1 e2)
def mapMo.setD (xs : List S46) (D : DataW Unit) : DataW Unit := xs.foldl (fun D x => D.put (mapMo.kl x) (.lit (.bool true))) D
theorem mapMo.setD_at (y : S46) (hy : mapMo.wf y = true) : ∀ (xs : List S46) (D : DataW Unit) (b : Bool), (∀ x ∈ xs, mapMo.wf x = true) → Go.Maps.IsMap D → D.atKey (mapMo.kl y) (.lit (.bool false)) = .lit (.bool b) →
  (mapMo.setD xs D).atKey (mapMo.kl y) (.lit (.bool false)) = .lit (.bool (b || xs.any fun x => mapMo.eqB x y))
 | [], D, b, _, _, h => by simpa [mapMo.setD] using h
 | x :: xs, D, b, hw, hD, h => by
  have hx := hw x (List.mem_cons_self)
  have ih := mapMo.setD_at y hy xs (D.put (mapMo.kl x) (.lit (.bool true))) (b || mapMo.eqB x y) (fun z hz => hw z (List.mem_cons_of_mem _ hz)) (hD.put _ _) (by
   by_cases e : x = y
   ·subst e
    rw [Go.Maps.atKey_put_same hD (mapMo.law.key (mapMo.hkey x hx))]
    rw [(mapMo.eqB_iff x x).2 rfl, Bool.or_true]
   ·rw [Go.Maps.atKey_put_other (fun g => e (mapMo.kl_inj hx hy g.symm)), h]
    have : mapMo.eqB x y = false := Bool.eq_false_iff.2 (fun g => e ((mapMo.eqB_iff x y).1 g))
    rw [this, Bool.or_false])
  rw [List.any_cons, ← Bool.or_assoc]
  exact ih
def mapMo.MS (w : World) (B : Nat) (xs : List S46) : Prop := (∀ x ∈ xs, mapMo.wf x = true) ∧ w.ownsMap Tryz.prog 46 (plainElem (H := Unit) Tryz.prog 4) B xs.length (mapMo.setD xs (.map []))
theorem mapMo.plain_inv {v : Value} {b : Bool} {ps : List MemPlace} (h : plainElem (H := Unit) Tryz.prog 4 v = some (.lit (.bool b), ps)) : v = .bool b := by
 unfold plainElem at h
 rw [Tryz.underlying4] at h
 cases v <;> simp at h
 rw [h.1]
theorem mapMo.MS_run {w : World} {B : Nat} {xs : List S46} (h : mapMo.MS w B xs) (y : S46) (hy : mapMo.wf y = true) :
  (Instr.lookup 110 (.map (some B)) (mapMo.enc y) false).run Tryz.prog w = .ok (.bool (xs.any fun x => mapMo.eqB x y)) w := by
 obtain ⟨v, ps, hrun, hv⟩ := h.2.lookup (e := 4) mapMo.law Tryz.underlying110 (z := .bool false) (by kernel_rfl) (plainElem_bool Tryz.underlying4 false) (mapMo.hkey y hy)
 rw [mapMo.setD_at y hy xs (.map []) false h.1 Go.Maps.isMap_empty rfl, Bool.false_or] at hv
 rw [hrun, mapMo.plain_inv hv]
theorem mapMo.MS_ne {w : World} {B : Nat} {xs : List S46} (h : mapMo.MS w B xs) {g : Nat} {cs : Array Value} {t : TypeId} {p : Nat × Nat} (b : w.heap[g]? = some (.cells cs t p)) : B ≠ g := by
 obtain ⟨-, es, clock, hb, -⟩ := h
 rintro rfl
 rw [hb] at b
 cases b
theorem mapMo.MS_move {w w1 : World} {B : Nat} {xs : List S46} (h : mapMo.MS w B xs) (hm : w1.heap[B]? = w.heap[B]?) : mapMo.MS w1 B xs := by
 obtain ⟨h0, es, clock, hb, r⟩ := h
 exact ⟨h0, es, clock, hm.trans hb, r⟩
theorem mapMo.MS_below {w w1 : World} {B : Nat} {xs : List S46} (h : mapMo.MS w B xs) (hb : Below w.heap.size w w1) : mapMo.MS w1 B xs := mapMo.MS_move h (hb.block B h.2.lt)
theorem mapMo.MS_alloc {w : World} {B : Nat} {xs : List S46} (h : mapMo.MS w B xs) (o : Obj) : mapMo.MS (w.alloc o) B xs := mapMo.MS_below h (below_alloc (Below.refl _ _) _)
theorem mapMo.MS_drewN {w : World} {B : Nat} {xs : List S46} (h : mapMo.MS w B xs) (n : Nat) : mapMo.MS (w.drewN n) B xs := h
theorem mapMo.MS_drew {w : World} {B : Nat} {xs : List S46} (h : mapMo.MS w B xs) : mapMo.MS w.drew B xs := h
theorem mapMo.MS_set {w : World} {B : Nat} {xs : List S46} {g j : Nat} {v : Value} (h : mapMo.MS w B xs) (hne : B ≠ g) : mapMo.MS (w.setCell ⟨g, j, none⟩ v) B xs := mapMo.MS_move h (Below.heap_setCell w _ v B hne)
theorem mapMo.MS_over {w w1 : World} {B : Nat} {xs : List S46} (h : mapMo.MS w B xs) {v : Value} {e' : Nat} (hty : ∀ k, v.ownBlock = some k → ∃ cells, w.heap[k]? = some (.cells cells e' (0, 0))) (hg : w.grownBy w1 v.ownBlock) : mapMo.MS w1 B xs :=
 mapMo.MS_move h (hg.block B h.2.lt (fun e => by obtain ⟨cs, hc⟩ := hty B e.symm; exact mapMo.MS_ne h hc rfl))
theorem mapMo.R_map {α : Type} {d : Kd α} {e : Nat} {w w1 : World} {base : Nat} {ok : Nat → Prop} {v : Value} {l : List α} (h : d.R e w base ok v l) {B : Nat} {xs : List S46} (hM : mapMo.MS w B xs) (hg : w.grownBy w1 (some B)) : d.R e w1 base ok v l :=
 Kd.R_mono (Kd.R_move (Kd.R_bound h) (fun k hk => by
  obtain ⟨_, _, hlt, _, _, cs, hc⟩ := hk
  exact hg.block k hlt (fun e => (mapMo.MS_ne hM hc) (Option.some.inj e).symm))) (fun _ hk => hk.1)
def mapMo.has (_ : Nat) (xs : List S46) (y0 y1 y2 y3 y4 y5 : Int) : Option Bool := if mapMo.wf ⟨⟨y0, y1, y2, y3⟩, ⟨y4, y5⟩⟩ = true then some (xs.any fun x => mapMo.eqB x ⟨⟨y0, y1, y2, y3⟩, ⟨y4, y5⟩⟩) else none
theorem mapMo.has_mono : ∀ (xs : List S46) (y0 y1 y2 y3 y4 y5 : Int) (k : Nat), LeO (mapMo.has k xs y0 y1 y2 y3 y4 y5) (mapMo.has (k + 1) xs y0 y1 y2 y3 y4 y5) := fun _ _ _ _ _ _ _ _ => LeO.refl _
theorem mapMo.has_inv {k : Nat} {xs : List S46} {y0 y1 y2 y3 y4 y5 : Int} {r : Bool} (A : mapMo.has k xs y0 y1 y2 y3 y4 y5 = some r) : mapMo.wf ⟨⟨y0, y1, y2, y3⟩, ⟨y4, y5⟩⟩ = true ∧ (xs.any fun x => mapMo.eqB x ⟨⟨y0, y1, y2, y3⟩, ⟨y4, y5⟩⟩) = r := by
 unfold mapMo.has at A
 by_cases h : mapMo.wf ⟨⟨y0, y1, y2, y3⟩, ⟨y4, y5⟩⟩ = true
 ·rw [if_pos h] at A; exact ⟨h, Option.some.inj A⟩
 ·rw [if_neg h] at A; cases A
theorem mapMo.blk_put {w w1 : World} {g : Nat} {cs : Array Value} {t : TypeId} (h : w.heap[g]? = some (.cells cs t (0, 0))) {B : Nat} {xs : List S46} (hM : mapMo.MS w B xs) (hg : w.grownBy w1 (some B)) : w1.heap[g]? = some (.cells cs t (0, 0)) :=
 (hg.block g (blk_lt h) (fun e => mapMo.MS_ne hM h (Option.some.inj e).symm)).trans h
theorem mapMo.below_put {w W w1 : World} {g : Nat} (h : Below w.heap.size w W) (hB : w.heap.size ≤ g) (hg : W.grownBy w1 (some g)) : Below w.heap.size w w1 :=
 h.trans ⟨hg.os, hg.tape, hg.output, hg.size, fun i hi => hg.block i (Nat.lt_of_lt_of_le hi h.size) (fun e => by have := Option.some.inj e; omega)⟩
section
variable {ops : Array Oper} {rest : List Oper} {o : Oper} {a : Act} {Q : Exit → Act → World → Prop} {Kc : Act → World → Prop} {W : World}
theorem mapMo.make_event (hgd : o.guard = none) {N : Tmp} (_hd : o.dst = some N) (hrun : (execOp a.eval o).run Tryz.prog W = .ok (.value (.map (some W.heap.size))) (W.alloc (.map #[] 0)))
  (h : ∀ g, g = W.heap.size → ∀ w1, mapMo.MS w1 g [] → Below W.heap.size W w1 → wpList Tryz.prog ops Q rest (a.put o.dst (.map (some g))) w1) : wpList Tryz.prog ops Q (o :: rest) a W :=
 Kd.event_run hgd hrun (h _ rfl _ ⟨fun _ hx => absurd hx (by simp), World.ownsMap_made W _ _ _⟩ (below_alloc (Below.refl _ _) _))
theorem mapMo.put_event (hgd : o.guard = none) (m x v : Operand) (hop : o.op = Op.mapUpdate 110 m x v) {B : Nat} {xs : List S46} (hm : a.eval m = .map (some B)) (hM : mapMo.MS W B xs) (y : S46) (hx : a.eval x = mapMo.enc y) (hv : a.eval v = .bool true) (hy : mapMo.wf y = true) (hn : xs.length < 2932031007402)
  (h : ∀ w1, mapMo.MS w1 B (xs ++ [y]) → W.grownBy w1 (some B) → wpList Tryz.prog ops Q rest (a.put o.dst undef) w1) : wpList Tryz.prog ops Q (o :: rest) a W :=
 wpList_mapUpdate_own W hgd m x v 110 hop 46 4 mapMo.law Tryz.underlying110 (plainElem (H := Unit) Tryz.prog 4) B xs.length _ hm hM.2 (by unfold maxLen; omega) _ _ _ hx hv (mapMo.hkey y hy) _ [] (plainElem_bool Tryz.underlying4 true)
  (fun w' h1 h2 => h w' ⟨fun z hz => by
   rcases List.mem_append.1 hz with hz | hz
   ·exact hM.1 z hz
   ·rw [List.mem_singleton.1 hz]; exact hy, by
   rw [List.length_append]
   unfold mapMo.setD at h1 ⊢
   rw [List.foldl_append]
   exact h1⟩ h2)
theorem mapMo.gate_ins {t : TypeId} {m x v : Operand} (_h : o.op = Op.insert t m x v) (h : wpList Tryz.prog ops Q (o :: rest) a W) : wpList Tryz.prog ops Q (o :: rest) a W := h
theorem mapMo.ins_event (hgd : o.guard = none) (m x v : Operand) (hop : o.op = Op.insert 110 m x v) {B : Nat} {xs : List S46} (hm : a.eval m = .map (some B)) (hM : mapMo.MS W B xs) (y : S46) (hx : a.eval x = mapMo.enc y) (hv : a.eval v = .bool true) (hy : mapMo.wf y = true) (hn : xs.length < 2932031007402)
  (h : ∀ w1, mapMo.MS w1 B (xs ++ [y]) → W.grownBy w1 (some B) → wpList Tryz.prog ops Q rest (a.put o.dst undef) w1) : wpList Tryz.prog ops Q (o :: rest) a W := by
 refine wpList_plain hgd fun K' hK' => ?_
 obtain ⟨w', hrun, r1, r2⟩ := hM.2.update mapMo.law Tryz.underlying110 (R := plainElem (H := Unit) Tryz.prog 4) (by unfold maxLen; omega) (mapMo.hkey y hy) (plainElem_bool Tryz.underlying4 true)
 unfold Oper.wp
 simp [execOp, hop, hm, hx, hv, hrun, Result.andThen]
 refine hK' _ _ (h w' ⟨fun z hz => ?_, ?_⟩ r2)
 ·rcases List.mem_append.1 hz with hz | hz
  ·exact hM.1 z hz
  ·rw [List.mem_singleton.1 hz]; exact hy
 ·rw [List.length_append]
  unfold mapMo.setD at r1 ⊢
  rw [List.foldl_append]
  exact r1
theorem mapMo.get_has {k : Nat} {xs : List S46} {y0 y1 y2 y3 y4 y5 : Int} {r : Bool} (A : mapMo.has k xs y0 y1 y2 y3 y4 y5 = some r) (hgd : o.guard = none) (m x : Operand) (hop : o.op = Op.lookup 110 m x false) {B : Nat} (hm : a.eval m = .map (some B)) (hM : mapMo.MS W B xs) (hx : a.eval x = mapMo.enc ⟨⟨y0, y1, y2, y3⟩, ⟨y4, y5⟩⟩)
  (h : wpList Tryz.prog ops Q rest (a.put o.dst (.bool r)) W) : wpList Tryz.prog ops Q (o :: rest) a W := by
 obtain ⟨hy, hr⟩ := mapMo.has_inv A
 subst hr
 exact Kd.event_run hgd (by simp [execOp, hop, hm, hx, mapMo.MS_run hM _ hy, Result.andThen]) h
theorem mapMo.get_call {k : Nat} {xs : List S46} {y0 y1 y2 y3 y4 y5 : Int} {r : Bool} (A : mapMo.has k xs y0 y1 y2 y3 y4 y5 = some r) (hgd : o.guard = none) (m x : Operand) (hop : o.op = Op.lookup 110 m x false) {B : Nat} (hm : a.eval m = .map (some B)) (hM : mapMo.MS W B xs) (hx : a.eval x = mapMo.enc ⟨⟨y0, y1, y2, y3⟩, ⟨y4, y5⟩⟩)
  (h : ∀ w1, Below W.heap.size W w1 → wpList Tryz.prog ops Q rest (a.put o.dst (.bool r)) w1) : wpList Tryz.prog ops Q (o :: rest) a W := mapMo.get_has A hgd m x hop hm hM hx (h W (Below.refl _ _))
theorem mapMo.get_step {k : Nat} {xs : List S46} {y0 y1 y2 y3 y4 y5 : Int} {r : Bool} (A : mapMo.has k xs y0 y1 y2 y3 y4 y5 = some r) (hw : Region.wanted o (yielded ops a.tmps) = true) {N : Option Tmp} (hN : o.dst = N) (m x : Operand) (hop : o.op = Op.lookup 110 m x false) {B : Nat} (hm : a.eval m = .map (some B)) (hM : mapMo.MS W B xs) (hx : a.eval x = mapMo.enc ⟨⟨y0, y1, y2, y3⟩, ⟨y4, y5⟩⟩)
  (h : Kc (a.put N (.bool r)) W) : if Region.wanted o (yielded ops a.tmps) = true then Oper.wp Tryz.prog o a W Kc Q else Kc (a.put N undef) W := by
 obtain ⟨hy, hr⟩ := mapMo.has_inv A
 subst hr
 subst hN
 exact event_step hw (by simp [execOp, hop, hm, hx, mapMo.MS_run hM _ hy, Result.andThen]) h
end
end Go.Proofs.YtfmjboloeabjmaaGreat.PA
