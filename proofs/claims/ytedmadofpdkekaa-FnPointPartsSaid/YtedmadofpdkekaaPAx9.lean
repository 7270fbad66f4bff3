import Derived.Test.YtedmadofpdkekaaPAx0
import Derived.Test.YtedmadofpdkekaaPAx2
import Derived.Test.YtedmadofpdkekaaPAx4
import Derived.Test.YtedmadofpdkekaaPAx6
import Derived.Test.YtedmadofpdkekaaPAx8
namespace Go.Proofs.Ytedmadofpdkekaa.PA
open Go.RowKit Go.Proofs.YtedmadofpdkekaaW.PrintWords Go.Proofs.YtedmadofpdkekaaW.PrintLast Go.Proofs.YtedmadofpdkekaaW.PrintMore
attribute [local go_sem] max2_int min2_int max_two min_two max_three min_three max_four min_four   -- for this text's walks alone
set_option linter.unusedVariables false
set_option maxHeartbeats 8000000
set_option maxRecDepth 100000
set_option linter.unusedSimpArgs false
attribute [local go_sem high] eqA51 eqA55
def spec_l02Multiply.f (Ab : Int) (Ac : Int) (Ad : Int) (Ae : Int) (Af : Int) (Ag : Int) (Ah : Int) (Ai : Int) : Option (Int × Int × Int × Int) := some (wrap64 ((wrap64 (Ab * Af)) + (wrap64 (Ac * Ah))), wrap64 ((wrap64 (Ab * Ag)) + (wrap64 (Ac * Ai))), wrap64 ((wrap64 (Ad * Af)) + (wrap64 (Ae * Ah))), wrap64 ((wrap64 (Ad * Ag)) + (wrap64 (Ae * Ai))))
theorem spec_l02Multiply.calls (Ab : Int) (Ac : Int) (Ad : Int) (Ae : Int) (Af : Int) (Ag : Int) (Ah : Int) (Ai : Int) (r1 : Int) (r2 : Int) (r3 : Int) (r4 : Int) (w : World) (h : spec_l02Multiply.f Ab Ac Ad Ae Af Ag Ah Ai = some (r1, r2, r3, r4)) :
  Calls Try.prog 44 #[.agg #[.int .i64 Ab, .int .i64 Ac, .int .i64 Ad, .int .i64 Ae], .agg #[.int .i64 Af, .int .i64 Ag, .int .i64 Ah, .int .i64 Ai]] w fun e w' => e = .returned (.agg #[.int .i64 r1, .int .i64 r2, .int .i64 r3, .int .i64 r4]) ∧ Below w.heap.size w w' := by
 have hu51 := Try.underlying51
 have HB := asd (Below.refl w.heap.size w)
 have H : (some (wrap64 ((wrap64 (Ab * Af)) + (wrap64 (Ac * Ah))), wrap64 ((wrap64 (Ab * Ag)) + (wrap64 (Ac * Ai))), wrap64 ((wrap64 (Ad * Af)) + (wrap64 (Ae * Ah))), wrap64 ((wrap64 (Ad * Ag)) + (wrap64 (Ae * Ai))))) = some (r1, r2, r3, r4) := h
 clear h
 simp only [Option.some.injEq, Prod.mk.injEq] at H
 obtain ⟨rfl, rfl, rfl, rfl⟩ := H
 go_enter Try.func44, Try.ntmps44
 go_wp2_with (first | ((with_reducible refine gd 2 rfl ?_); refine bx #[.int .i64 Ab, .int .i64 Ac, .int .i64 Ad, .int .i64 Ae] 51 ?_; intro AT hg w3 Aa hb; have Aj := ngw0 hg HB; replace HB := bS0 HB hb; clear hb hg) | ((with_reducible refine gd 3 rfl ?_); refine bx #[.int .i64 Af, .int .i64 Ag, .int .i64 Ah, .int .i64 Ai] 51 ?_; intro AU hg w4 Ak hb; have Ar := ngw1 hg HB Aj; replace HB := bS1 HB Aj hb; have Al := nlt hg Aa; have Am := nsy (nlt hg Aa); replace Aa := bB Aa hb; clear hb hg) | ((with_reducible refine gd 4 rfl ?_); refine bx #[.int .i64 0, .int .i64 0, .int .i64 0, .int .i64 0] 51 ?_; intro At hg w5 As hb; have Au := ngw2 hg HB Aj Ar; replace HB := bS2 HB Aj Ar hb; have An := nlt hg Aa; have Ao := nsy (nlt hg Aa); replace Aa := bB Aa hb; have Ap := nlt hg Ak; have Aq := nsy (nlt hg Ak); replace Ak := bB Ak hb; clear hb hg; have AV := Al.out; have AW := Am.out; have AX := An.out; have AY := Ao.out; obtain ⟨AL, AM, AN, AO, AP, AQ, AR, AS⟩ := bz4 Aa; have AZ := Ap.out; have A0 := Aq.out; obtain ⟨Av, Aw, Ax, Ay, Az, AA, AB, AC⟩ := bz4 Ak; obtain ⟨AD, AE, AF, AG, AH, AI, AJ, AK⟩ := bz4 As))
 refine bodyPost_ret (results_cell_row rfl _ _ At 51 #[.int .i64 (wrap64 ((wrap64 (Ab * Af)) + (wrap64 (Ac * Ah)))), .int .i64 (wrap64 ((wrap64 (Ab * Ag)) + (wrap64 (Ac * Ai)))), .int .i64 (wrap64 ((wrap64 (Ad * Af)) + (wrap64 (Ae * Ah)))), .int .i64 (wrap64 ((wrap64 (Ad * Ag)) + (wrap64 (Ae * Ai))))] (0, 0) _ rfl (bq0 As) Try.underlying51 rfl (by kernel_rfl)) rfl ?_
 exact er (bbw3 HB Aj Ar Au)
def spec_l05Compose.f (Ak : Int) (Al : Int) (Am : Int) (An : Int) (Ar : Int) (As : Int) (At : Int) (Au : Int) (Av : Int) (Aw : Int) (Ax : Int) (Ay : Int) : Option (Int × Int × Int × Int × Int × Int) := (spec_l02Multiply.f Ak Al Am An At Au Av Aw).bind fun Ah => ((spec_l02Apply.f Ak Al Am An Ax Ay).bind fun Ap => ((spec_l01Add.f Ap.1 Ap.2 Ar As).bind fun Aq => (some (Ah.1, Ah.2.1, Ah.2.2.1, Ah.2.2.2, Aq.1, Aq.2))))
def spec_l05Compose.T1 : Bool × List (List Nat × List Nat) := (true, [([], []), ([0], [0]), ([], []), ([2], [2]), ([1, 3], [1, 3]), ([], []), ([5], [5]), ([], []), ([7], [7]), ([6, 8, 4], [6, 8]), ([], []), ([10], [10]), ([9, 11, 9], [9, 11]), ([4, 12], [4, 12]), ([13, 12, 0, 1, 2, 3, 4, 5, 6, 7, 8, 9, 10, 11, 12, 13], [13])])
def spec_l05Compose.B1 : List Nat := [0, 1, 0, 4, 15, 0, 32, 0, 128, 511, 0, 1024, 4095, 8191, 16383]
theorem spec_l05Compose.tab1 : rtab .any (opsOf Try.f39 1) = spec_l05Compose.T1 := by kernel_rfl
theorem spec_l05Compose.bits1 : waitsOk spec_l05Compose.T1.2 spec_l05Compose.B1 = true := by kernel_rfl
theorem spec_l05Compose.calls (Ak : Int) (Al : Int) (Am : Int) (An : Int) (Ar : Int) (As : Int) (At : Int) (Au : Int) (Av : Int) (Aw : Int) (Ax : Int) (Ay : Int) (r1 : Int) (r2 : Int) (r3 : Int) (r4 : Int) (r5 : Int) (r6 : Int) (w : World) (h : spec_l05Compose.f Ak Al Am An Ar As At Au Av Aw Ax Ay = some (r1, r2, r3, r4, r5, r6)) :
  Calls Try.prog 39 #[.agg #[.int .i64 Ak, .int .i64 Al, .int .i64 Am, .int .i64 An, .int .i64 Ar, .int .i64 As], .agg #[.int .i64 At, .int .i64 Au, .int .i64 Av, .int .i64 Aw, .int .i64 Ax, .int .i64 Ay]] w fun e w' => e = .returned (.agg #[.int .i64 r1, .int .i64 r2, .int .i64 r3, .int .i64 r4, .int .i64 r5, .int .i64 r6]) ∧ Below w.heap.size w w' := by
 have hu55 := Try.underlying55
 have hu51 := Try.underlying51
 have hu53 := Try.underlying53
 have HB := asd (Below.refl w.heap.size w)
 have H : ((spec_l02Multiply.f Ak Al Am An At Au Av Aw).bind fun Ah => ((spec_l02Apply.f Ak Al Am An Ax Ay).bind fun Ap => ((spec_l01Add.f Ap.1 Ap.2 Ar As).bind fun Aq => (some (Ah.1, Ah.2.1, Ah.2.2.1, Ah.2.2.2, Aq.1, Aq.2))))) = some (r1, r2, r3, r4, r5, r6) := h
 clear h
 obtain ⟨⟨A1, A2, A6, A7⟩, A3, H⟩ := ob H
 try dsimp only at H
 obtain ⟨⟨A8, A9⟩, A4, H⟩ := ob H
 try dsimp only at H
 obtain ⟨⟨Ba, Bb⟩, A5, H⟩ := ob H
 try dsimp only at H
 simp only [Option.some.injEq, Prod.mk.injEq] at H
 obtain ⟨rfl, rfl, rfl, rfl, rfl, rfl⟩ := H
 go_enter Try.func39, Try.ntmps39
 try go_wp2_with (first | ((with_reducible refine gd 2 rfl ?_); refine bx #[.int .i64 Ak, .int .i64 Al, .int .i64 Am, .int .i64 An, .int .i64 Ar, .int .i64 As] 55 ?_; intro Bc hg w6 Ad hb; have Ai := ngw0 hg HB; replace HB := bS0 HB hb; clear hb hg) | ((with_reducible refine gd 3 rfl ?_); refine bx #[.int .i64 At, .int .i64 Au, .int .i64 Av, .int .i64 Aw, .int .i64 Ax, .int .i64 Ay] 55 ?_; intro Bd hg w7 Ae hb; have Ao := ngw1 hg HB Ai; replace HB := bS1 HB Ai hb; have AA := nlt hg Ad; have AB := nsy (nlt hg Ad); replace Ad := bB Ad hb; clear hb hg) | ((with_reducible refine gd 4 rfl ?_); refine bx #[.int .i64 0, .int .i64 0, .int .i64 0, .int .i64 0, .int .i64 0, .int .i64 0] 55 ?_; intro Aj hg w8 Ac hb; have Az := ngw2 hg HB Ai Ao; replace HB := bS2 HB Ai Ao hb; have Aa := nlt hg Ad; have Af := nsy (nlt hg Ad); replace Ad := bB Ad hb; have Ab := nlt hg Ae; have Ag := nsy (nlt hg Ae); replace Ae := bB Ae hb; clear hb hg))
 replace Ad := asd (blk_drew Ad.out)
 replace Ae := asd (blk_drew Ae.out)
 replace Ac := asd (blk_drew Ac.out)
 replace HB := asd (qm HB.out)
 refine sh 15 (cb6 Ad (eb6 Ae)) (fun hHeld => ?_); refine with_tabW spec_l05Compose.tab1 spec_l05Compose.bits1 (fun HT_ HW_ => ?_)
 generalize w8.drew = w9 at Ad Ae Ac HB hHeld ⊢
 refine pu 0 (some 5) (bT 15 1) HT_ ?_
 refine pu 2 (some 7) (bs 15 5) HT_ ?_
 refine pu 5 (some 10) (bs 15 37) HT_ ?_
 refine pu 7 (some 12) (bs 15 165) HT_ ?_
 refine pu 10 (some 15) (bs 15 1189) HT_ ?_
 refine ta 1 (some 6) (bs 15 1191) HT_ HW_ hHeld ?_
 refine ta 3 (some 8) (bs 15 1199) HT_ HW_ hHeld ?_
 refine ta 6 (some 11) (bs 15 1263) HT_ HW_ hHeld ?_
 refine ta 8 (some 13) (bs 15 1519) HT_ HW_ hHeld ?_
 refine ta 11 (some 16) (bs 15 3567) HT_ HW_ hHeld ?_
 refine ro 4 (some 9) (bs 15 3583) HT_ (fun K hK => ?_)
 refine gs Try.func44 #[.agg #[.int .i64 Ak, .int .i64 Al, .int .i64 Am, .int .i64 An], .agg #[.int .i64 At, .int .i64 Au, .int .i64 Av, .int .i64 Aw]] ?_
 with_reducible refine (spec_l02Multiply.calls _ _ _ _ _ _ _ _ _ _ _ _ _ A3.out).mono ?_
 rintro e Be ⟨rfl, hb⟩
 refine ⟨_, rfl, ?_⟩
 replace Ad := bB Ad hb
 replace Ae := bB Ae hb
 replace Ac := bB Ac hb
 replace HB := bS3 HB Ai Ao Az hb
 (try clear hb)
 (try clear hb2)
 (try clear hk)
 (try clear hi)
 refine hK.out _ _ (cb6 Ad (eb6 Ae)).out (fun hHeld => ?_)
 clear hK K
 refine norm_ (a' := ?_) ?_ ?_
 rotate_left
 ·show Act.put _ (some 9) _ = _
  simp only [Act.put, sA, sB, sC, i64_w, i32_w];rfl
 refine ro 9 (some 14) (bT 15 12) HT_ (fun K hK => ?_)
 refine gs Try.func68 #[.agg #[.int .i64 Ak, .int .i64 Al, .int .i64 Am, .int .i64 An], .agg #[.int .i64 Ax, .int .i64 Ay]] ?_
 with_reducible refine (spec_l02Apply.calls _ _ _ _ _ _ _ _ _ A4.out).mono ?_
 rintro e Bf ⟨rfl, hb⟩
 refine ⟨_, rfl, ?_⟩
 replace Ad := bB Ad hb
 replace Ae := bB Ae hb
 replace Ac := bB Ac hb
 replace HB := bS3 HB Ai Ao Az hb
 (try clear hb)
 (try clear hb2)
 (try clear hk)
 (try clear hi)
 refine hK.out _ _ (cb6 Ad (eb6 Ae)).out (fun hHeld => ?_)
 clear hK K
 refine norm_ (a' := ?_) ?_ ?_
 rotate_left
 ·show Act.put _ (some 14) _ = _
  simp only [Act.put, sA, sB, sC, i64_w, i32_w];rfl
 refine ro 12 (some 17) (bT 15 13) HT_ (fun K hK => ?_)
 refine gs Try.func67 #[.agg #[.int .i64 A8, .int .i64 A9], .agg #[.int .i64 Ar, .int .i64 As]] ?_
 with_reducible refine (spec_l01Add.calls _ _ _ _ _ _ _ A5.out).mono ?_
 rintro e AC ⟨rfl, hb⟩
 refine ⟨_, rfl, ?_⟩
 replace Ad := bB Ad hb
 replace Ae := bB Ae hb
 replace Ac := bB Ac hb
 replace HB := bS3 HB Ai Ao Az hb
 (try clear hb)
 (try clear hb2)
 (try clear hk)
 (try clear hi)
 refine hK.out _ _ (cb6 Ad (eb6 Ae)).out (fun hHeld => ?_)
 clear hK K
 refine norm_ (a' := ?_) ?_ ?_
 rotate_left
 ·show Act.put _ (some 17) _ = _
  simp only [Act.put, sA, sB, sC, i64_w, i32_w];rfl
 refine pu 13 (some 18) (bT 15 14) HT_ ?_
 refine ro 14 (none) (bT 15 15) HT_ (fun K hK => ?_)
 have hs13 : AC.cell? ⟨Aj, 0, none⟩ = some (.int .i64 0) := bcl Ac 0
 have hfs13 := blk_frozen Ac.out 0
 have AD := Aa.out
 have AE := Ab.out
 have AF := Af.out
 have AG := Ag.out
 have hs14 : AC.cell? ⟨Aj, 1, none⟩ = some (.int .i64 0) := bcl Ac 1
 have hfs14 := blk_frozen Ac.out 1
 have AH := Aa.out
 have AI := Ab.out
 have AJ := Af.out
 have AK := Ag.out
 have hs15 : AC.cell? ⟨Aj, 2, none⟩ = some (.int .i64 0) := bcl Ac 2
 have hfs15 := blk_frozen Ac.out 2
 have AL := Aa.out
 have AM := Ab.out
 have AN := Af.out
 have AO := Ag.out
 have hs16 : AC.cell? ⟨Aj, 3, none⟩ = some (.int .i64 0) := bcl Ac 3
 have hfs16 := blk_frozen Ac.out 3
 have AP := Aa.out
 have AQ := Ab.out
 have AR := Af.out
 have AS := Ag.out
 have hs17 : AC.cell? ⟨Aj, 4, none⟩ = some (.int .i64 0) := bcl Ac 4
 have hfs17 := blk_frozen Ac.out 4
 have AT := Aa.out
 have AU := Ab.out
 have AV := Af.out
 have AW := Ag.out
 have hs18 : AC.cell? ⟨Aj, 5, none⟩ = some (.int .i64 0) := bcl Ac 5
 have hfs18 := blk_frozen Ac.out 5
 have AX := Aa.out
 have AY := Ab.out
 have AZ := Af.out
 have A0 := Ag.out
 refine skip_ (w1 := ?_) (by rfl) rfl ?_ ?_
 rotate_left
 ·go_simp;rfl
 refine hK.out _ _ ⟨(cf6 Aa (hHeld.1)), (cf6 Aa (hHeld.2.1)), (cf6 Aa (hHeld.2.2.1)), (cf6 Aa (hHeld.2.2.2.1)), (cf6 Aa (hHeld.2.2.2.2.1)), (cf6 Aa (hHeld.2.2.2.2.2.1)), (cf6 Ab (hHeld.2.2.2.2.2.2.1)), (cf6 Ab (hHeld.2.2.2.2.2.2.2.1)), (cf6 Ab (hHeld.2.2.2.2.2.2.2.2.1)), (cf6 Ab (hHeld.2.2.2.2.2.2.2.2.2.1)), (cf6 Ab (hHeld.2.2.2.2.2.2.2.2.2.2.1)), (cf6 Ab (hHeld.2.2.2.2.2.2.2.2.2.2.2))⟩ (fun hHeld => ?_)
 clear hK K
 refine done_ (done_of HT_.out (by kernel_rfl)) ?_
 try go_wp2
 refine bodyPost_ret (results_cell_row rfl _ _ Aj 55 #[.int .i64 A1, .int .i64 A2, .int .i64 A6, .int .i64 A7, .int .i64 Ba, .int .i64 Bb] (0, 0) _ rfl (bq0 Ac) Try.underlying55 rfl (by kernel_rfl)) rfl ?_
 exact er (bbw3 HB Ai Ao Az)
def spec_l06Insert.T4 : Bool × List (List Nat × List Nat) := (true, [([], []), ([], []), ([], []), ([1, 2], [1, 2]), ([0, 3], [0, 3]), ([], []), ([5], [5]), ([4, 6, 4], [4, 6]), ([], []), ([], []), ([8, 9], [8, 9]), ([7, 10, 7], [7, 10]), ([11, 11, 0, 1, 2, 3, 4, 5, 6, 7, 8, 9, 10, 11], [11])])
def spec_l06Insert.B4 : List Nat := [0, 0, 0, 6, 15, 0, 32, 127, 0, 0, 768, 2047, 4095]
theorem spec_l06Insert.tab4 : rtab .any (opsOf Try.f52 4) = spec_l06Insert.T4 := by kernel_rfl
theorem spec_l06Insert.bits4 : waitsOk spec_l06Insert.T4.2 spec_l06Insert.B4 = true := by kernel_rfl
section
variable {P : Program} {ops : Array Oper} {o : Oper} {a : Act} {Q : Exit → Act → World → Prop} {Kc : Act → World → Prop}
theorem spec_l06Insert.lit1 {W : World} (hw : Region.wanted o (yielded ops a.tmps) = true) {N : Tmp} (_hd : o.dst = some N) {cs : Array Value} {t : TypeId}
  (hrun : (execOp a.eval o).run P W = .ok (.value (.slice (some ⟨W.heap.size, 0, none⟩) 1 1)) (W.alloc (.cells cs t (0, 0))))
  (h : ∀ g, g = W.heap.size → ∀ w1, w1.heap[g]? = some (.cells cs t (0, 0)) → Below W.heap.size W w1 → Kc (a.put o.dst (.slice (some ⟨g, 0, none⟩) 1 1)) w1) : if Region.wanted o (yielded ops a.tmps) = true then Oper.wp P o a W Kc Q else Kc (a.put o.dst undef) W :=
 event_step hw hrun (h _ rfl _ (blk_new W _) (qo (Below.refl _ _) _))
end
theorem spec_l06Insert.row1 {W : World} {g : Nat} {x : S55} {fr : Nat × Nat} (h : W.heap[g]? = some (.cells #[.int .i64 x.f0.f0, .int .i64 x.f0.f1, .int .i64 x.f0.f2, .int .i64 x.f0.f3, .int .i64 x.f1.f0, .int .i64 x.f1.f1] 55 fr)) : ReadsRow (k55.K W) k55.sz W (some ⟨g, 0, none⟩) 1 [x] := by
 refine ⟨rfl, by decide, fun _ => ⟨⟨g, 0, none⟩, rfl, fun j p hp => ?_⟩⟩
 cases j with
 | succ j => simp at hp
 | zero =>
  obtain rfl : x = p := by simpa using hp
  refine ⟨_, rfl, k55_mk W x, fun i u hu => ?_⟩;have e : (⟨g, 0, none⟩ : Addr).add (0 * k55.sz + i) = ⟨g, i, none⟩ := by
   unfold Addr.add;split <;> simp_all
  rw [e, cell_of_row W g i _ 55 fr h];simpa using hu
theorem spec_l06Insert.cutH (A : Option Addr) (n c : Nat) (t : Int) (h0 : 0 ≤ t) (h : t.toNat ≤ c) : ∀ W : World, (Instr.slice 26 (.slice A n c) none (some (.int .i64 t)) none).run Try.prog W = .ok (.slice A t.toNat c) W := by
 intro W
 have hel : Try.prog.elem 26 = 55 := by simp [Program.elem, Try.underlying26]
 have hu : Try.prog.underlying 26 = some (.slice (Try.prog.elem 26)) := by rw [hel]; exact Try.underlying26
 rw [run_slice_h W 26 A n c hu .i64 t h0 (by omega), hel]
 have e : (A.map fun x => x.add 0) = A := by cases A <;> simp [Addr.add]
 simp only [Try.sizeOf55, Result.andThen, sliced, Int.toNat_natCast, Nat.zero_mul, Nat.sub_zero, e]
 split <;> rfl
theorem spec_l06Insert.cutL (A : Option Addr) (n c : Nat) (t : Int) (h0 : 0 ≤ t) (h : t.toNat ≤ n) (hc : n ≤ c) : ∀ W : World, (Instr.slice 26 (.slice A n c) (some (.int .i64 t)) none none).run Try.prog W = .ok (.slice (if c = t.toNat then A else A.map (·.add (t.toNat * 6))) (n - t.toNat) (c - t.toNat)) W := by
 intro W
 have hel : Try.prog.elem 26 = 55 := by simp [Program.elem, Try.underlying26]
 have hu : Try.prog.underlying 26 = some (.slice (Try.prog.elem 26)) := by rw [hel]; exact Try.underlying26
 rw [run_slice_l W 26 A n c hu .i64 t h0 (by omega), hel]
 simp only [Try.sizeOf55, Result.andThen, sliced, Int.toNat_natCast]
def spec_l06Insert.eqB (x y : S55) : Bool := ((x.f0.f0 == y.f0.f0 && (x.f0.f1 == y.f0.f1 && (x.f0.f2 == y.f0.f2 && (x.f0.f3 == y.f0.f3)))) && ((x.f1.f0 == y.f1.f0 && (x.f1.f1 == y.f1.f1))))
def spec_l06Insert.at (l : List S55) (x : S55) (t : Nat) : List S55 := if (decide (t < l.length) && spec_l06Insert.eqB (qr l (t : Int)) x) = true then l else l.take t ++ [x] ++ l.drop t
theorem spec_l06Insert.calls (k : Nat) (l0 : List S55) (Ad Ae Af Ag Ah Ai : Int) (Ab : Int) (h0 : 0 ≤ Ab) (ht : Ab.toNat ≤ l0.length) (hl : l0.length < 2932031007402) (hP : spec_l06Place.f k l0 Ad Ae Af Ag Ah Ai = some Ab) (w : World) (base : Nat) (ok : Nat → Prop) (v : Value) (HR : Kd.R k55 55 w base ok v l0) (hbase : base ≤ w.heap.size) (hfresh : ∀ q, w.heap.size ≤ q → ok q) :
  Calls Try.prog 52 #[v, .agg #[.int .i64 Ad, .int .i64 Ae, .int .i64 Af, .int .i64 Ag, .int .i64 Ah, .int .i64 Ai]] w fun e w' => ∃ v1, e = .returned v1 ∧ Kd.R k55 55 w' base ok v1 (spec_l06Insert.at l0 (⟨(⟨Ad, Ae, Af, Ag⟩ : S51), (⟨Ah, Ai⟩ : S53)⟩ : S55) Ab.toNat) ∧ Below w.heap.size w w' ∧ (v1.ownBlock = v.ownBlock ∨ ∃ b, v1.ownBlock = some b ∧ w.heap.size ≤ b) := by
 have hu55 := Try.underlying55
 obtain ⟨A0, c0, rfl⟩ := Kd.R_slice HR
 obtain ⟨_, hc0, hr0⟩ := Kd.R_reads' HR
 have HR0 := Aside0.mk hr0
 have By := Aside0.mk hc0
 have A3 := Aside0.mk hP
 have HRO := Aside0.mk HR
 have HB := asd (Below.refl w.heap.size w)
 clear HR
 have reads : (∀ W, Below w.heap.size w W → ReadsRow (k55.K W) k55.sz W A0 Ab.toNat (l0.take Ab.toNat)) ∧ (∀ W, Below w.heap.size w W → ReadsRow (k55.K W) k55.sz W (if c0 = Ab.toNat then A0 else A0.map (·.add (Ab.toNat * 6))) (l0.length - Ab.toNat) (l0.drop Ab.toNat)) := by
  refine ⟨fun W hb => ?_, fun W hb => ?_⟩
  ·have := Kd.C_take (Kd.C_below hr0 hb) ht;rwa [show (l0.take Ab.toNat).length = Ab.toNat by rw [List.length_take]; omega] at this
  ·have := Kd.C_drop (Kd.C_below hr0 hb) ht hc0;rwa [show (l0.drop Ab.toNat).length = l0.length - Ab.toNat from List.length_drop] at this
 have cuth := spec_l06Insert.cutH A0 l0.length c0 Ab h0 (by omega)
 have cutl := spec_l06Insert.cutL A0 l0.length c0 Ab h0 ht hc0
 generalize (if c0 = Ab.toNat then A0 else A0.map (·.add (Ab.toNat * 6))) = AD at reads cutl
 have lm : l0.length ≤ 2932031007402 := by omega
 have fin : spec_l06Insert.at l0 (⟨(⟨Ad, Ae, Af, Ag⟩ : S51), (⟨Ah, Ai⟩ : S53)⟩ : S55) Ab.toNat = l0.take Ab.toNat ++ [(⟨(⟨Ad, Ae, Af, Ag⟩ : S51), (⟨Ah, Ai⟩ : S53)⟩ : S55)] ++ l0.drop Ab.toNat → ∀ v1 W, Kd.R k55 55 W w.heap.size (fun q => True) v1 ([] ++ l0.take Ab.toNat ++ [(⟨(⟨Ad, Ae, Af, Ag⟩ : S51), (⟨Ah, Ai⟩ : S53)⟩ : S55)] ++ l0.drop Ab.toNat) → Below w.heap.size w W → ∃ v2, Ending.returned v1 = .returned v2 ∧ Kd.R k55 55 W base ok v2 (spec_l06Insert.at l0 (⟨(⟨Ad, Ae, Af, Ag⟩ : S51), (⟨Ah, Ai⟩ : S53)⟩ : S55) Ab.toNat) ∧ Below w.heap.size w W ∧ (v2.ownBlock = (Value.slice A0 l0.length c0).ownBlock ∨ ∃ b, v2.ownBlock = some b ∧ w.heap.size ≤ b) := by
  intro he v1 W h1 h2;refine ⟨v1, rfl, ?_, h2, ?_⟩
  ·rw [he];exact Kd.R_lower (Kd.R_mono (Kd.R_bound h1) (fun q hq => hfresh q hq.2.1)) hbase
  ·obtain ⟨A1, c1, rfl⟩ := Kd.R_slice h1;cases A1 with
   | none =>
    exfalso
    obtain ⟨_, _, hr⟩ := Kd.R_reads' h1;obtain ⟨ad, e, _⟩ := hr.2.2 (by simp only [List.length_append, List.length_cons]; omega);cases e
   | some ad =>
    right
    refine ⟨ad.block, rfl, ?_⟩;exact ((Kd.R_bound h1).1 ad.block rfl).2.1
 clear hr0 hc0 hP hfresh
 by_cases c4 : Ab < (l0.length : Int)
 ·have BA : decide (Ab < (l0.length : Int)) = true := qp c4;clear c4;have BG : decide (0 ≤ Ab) = true := qp h0;by_cases c6 : ((((qr l0 Ab).f0.f0) == Ad && (((qr l0 Ab).f0.f1) == Ae && (((qr l0 Ab).f0.f2) == Af && (((qr l0 Ab).f0.f3) == Ag)))) && ((((qr l0 Ab).f1.f0) == Ah && (((qr l0 Ab).f1.f1) == Ai)))) = true
  ·have Bz : ((((qr l0 Ab).f0.f0) == Ad && (((qr l0 Ab).f0.f1) == Ae && (((qr l0 Ab).f0.f2) == Af && (((qr l0 Ab).f0.f3) == Ag)))) && ((((qr l0 Ab).f1.f0) == Ah && (((qr l0 Ab).f1.f1) == Ai)))) = true := c6;have he : spec_l06Insert.at l0 (⟨(⟨Ad, Ae, Af, Ag⟩ : S51), (⟨Ah, Ai⟩ : S53)⟩ : S55) Ab.toNat = l0 := by unfold spec_l06Insert.at; rw [Int.toNat_of_nonneg h0, if_pos (by unfold spec_l06Insert.eqB; rw [Bool.and_eq_true]; exact ⟨qp (by have := of_decide_eq_true BA; omega), Bz⟩)]
   clear c6 cuth cutl reads fin lm;rw [he];clear he;go_enter Try.func52, Try.ntmps52
   go_wp2_with (first | ((with_reducible refine gd 3 rfl ?_); refine bx #[.int .i64 Ad, .int .i64 Ae, .int .i64 Af, .int .i64 Ag, .int .i64 Ah, .int .i64 Ai] 55 ?_; intro Ac hg w7 Aa hb; have Ao := ngw0 hg HB; replace HB := bS0 HB hb; clear hb hg; obtain ⟨Bm, Bn, Bo, Bp, Bq, Br, Bs, Bt, Bu, Bv, Bw, Bx⟩ := bz6 Aa) | (go_at_call 66; (with_reducible refine (spec_l06Place.calls _ _ _ _ _ _ _ _ _ _ _ _ ?side1 ?side2 A3.out).mono ?_); (case side1 => exact ks (Kd.C_below HR0.out HB.out)); (case side2 => exact By.out); rintro e w9 ⟨rfl, hb⟩; replace Aa := bB Aa hb; replace HB := bS1 HB Ao hb; (try clear hb); obtain ⟨p334, q334, ad334, e334, Aq, Ar, As, At, Au, Av⟩ := at_T55x HR0.out HB Ab; cases e334; obtain ⟨Aw, Ax, Ay, Az, AA, AB, AC, AE, AF, AG, AH, AI⟩ := bz6 Aa));repeat (go_quiet (first | ((with_reducible refine gd 3 rfl ?_); refine bx #[.int .i64 Ad, .int .i64 Ae, .int .i64 Af, .int .i64 Ag, .int .i64 Ah, .int .i64 Ai] 55 ?_; intro Ac hg w7 Aa hb; have Ao := ngw0 hg HB; replace HB := bS0 HB hb; clear hb hg; obtain ⟨Bm, Bn, Bo, Bp, Bq, Br, Bs, Bt, Bu, Bv, Bw, Bx⟩ := bz6 Aa) | (go_at_call 66; (with_reducible refine (spec_l06Place.calls _ _ _ _ _ _ _ _ _ _ _ _ ?side1 ?side2 A3.out).mono ?_); (case side1 => exact ks (Kd.C_below HR0.out HB.out)); (case side2 => exact By.out); rintro e w9 ⟨rfl, hb⟩; replace Aa := bB Aa hb; replace HB := bS1 HB Ao hb; (try clear hb); obtain ⟨p334, q334, ad334, e334, Aq, Ar, As, At, Au, Av⟩ := at_T55x HR0.out HB Ab; cases e334; obtain ⟨Aw, Ax, Ay, Az, AA, AB, AC, AE, AF, AG, AH, AI⟩ := bz6 Aa)); try go_wp2_with (first | ((with_reducible refine gd 3 rfl ?_); refine bx #[.int .i64 Ad, .int .i64 Ae, .int .i64 Af, .int .i64 Ag, .int .i64 Ah, .int .i64 Ai] 55 ?_; intro Ac hg w7 Aa hb; have Ao := ngw0 hg HB; replace HB := bS0 HB hb; clear hb hg; obtain ⟨Bm, Bn, Bo, Bp, Bq, Br, Bs, Bt, Bu, Bv, Bw, Bx⟩ := bz6 Aa) | (go_at_call 66; (with_reducible refine (spec_l06Place.calls _ _ _ _ _ _ _ _ _ _ _ _ ?side1 ?side2 A3.out).mono ?_); (case side1 => exact ks (Kd.C_below HR0.out HB.out)); (case side2 => exact By.out); rintro e w9 ⟨rfl, hb⟩; replace Aa := bB Aa hb; replace HB := bS1 HB Ao hb; (try clear hb); obtain ⟨p334, q334, ad334, e334, Aq, Ar, As, At, Au, Av⟩ := at_T55x HR0.out HB Ab; cases e334; obtain ⟨Aw, Ax, Ay, Az, AA, AB, AC, AE, AF, AG, AH, AI⟩ := bz6 Aa)))
   go_ret
   exact ⟨_, rfl, Kd.R_below HRO.out (qn HB.out nq), qn HB.out nq, Or.inl rfl⟩
  ·have Bz : ((((qr l0 Ab).f0.f0) == Ad && (((qr l0 Ab).f0.f1) == Ae && (((qr l0 Ab).f0.f2) == Af && (((qr l0 Ab).f0.f3) == Ag)))) && ((((qr l0 Ab).f1.f0) == Ah && (((qr l0 Ab).f1.f1) == Ai)))) = false := by simpa using c6
   have he : spec_l06Insert.at l0 (⟨(⟨Ad, Ae, Af, Ag⟩ : S51), (⟨Ah, Ai⟩ : S53)⟩ : S55) Ab.toNat = l0.take Ab.toNat ++ [(⟨(⟨Ad, Ae, Af, Ag⟩ : S51), (⟨Ah, Ai⟩ : S53)⟩ : S55)] ++ l0.drop Ab.toNat := by unfold spec_l06Insert.at; rw [Int.toNat_of_nonneg h0, if_neg (by unfold spec_l06Insert.eqB; rw [Bool.and_eq_true]; rintro ⟨_, h⟩; exact Bool.noConfusion (Bz.symm.trans h))]
   replace fin := fin he;clear c6 he;go_enter Try.func52, Try.ntmps52
   go_wp2_with (first | ((with_reducible refine gd 3 rfl ?_); refine bx #[.int .i64 Ad, .int .i64 Ae, .int .i64 Af, .int .i64 Ag, .int .i64 Ah, .int .i64 Ai] 55 ?_; intro Ac hg BC Aa hb; have Ao := ngw0 hg HB; replace HB := bS0 HB hb; clear hb hg; obtain ⟨AJ, AK, AL, AM, AN, AO, AP, AQ, AR, AS, AT, AU⟩ := bz6 Aa) | (go_at_call 66; (with_reducible refine (spec_l06Place.calls _ _ _ _ _ _ _ _ _ _ _ _ ?side1 ?side2 A3.out).mono ?_); (case side1 => exact ks (Kd.C_below HR0.out HB.out)); (case side2 => exact By.out); rintro e BD ⟨rfl, hb⟩; replace Aa := bB Aa hb; replace HB := bS1 HB Ao hb; (try clear hb); obtain ⟨p334, q334, ad334, e334, Aq, Ar, As, At, Au, Av⟩ := at_T55x HR0.out HB Ab; cases e334; obtain ⟨AV, AW, AX, AY, AZ, A2, A4, A5, A6, A7, A8, A9⟩ := bz6 Aa));repeat (go_quiet (first | ((with_reducible refine gd 3 rfl ?_); refine bx #[.int .i64 Ad, .int .i64 Ae, .int .i64 Af, .int .i64 Ag, .int .i64 Ah, .int .i64 Ai] 55 ?_; intro Ac hg BC Aa hb; have Ao := ngw0 hg HB; replace HB := bS0 HB hb; clear hb hg; obtain ⟨AJ, AK, AL, AM, AN, AO, AP, AQ, AR, AS, AT, AU⟩ := bz6 Aa) | (go_at_call 66; (with_reducible refine (spec_l06Place.calls _ _ _ _ _ _ _ _ _ _ _ _ ?side1 ?side2 A3.out).mono ?_); (case side1 => exact ks (Kd.C_below HR0.out HB.out)); (case side2 => exact By.out); rintro e BD ⟨rfl, hb⟩; replace Aa := bB Aa hb; replace HB := bS1 HB Ao hb; (try clear hb); obtain ⟨p334, q334, ad334, e334, Aq, Ar, As, At, Au, Av⟩ := at_T55x HR0.out HB Ab; cases e334; obtain ⟨AV, AW, AX, AY, AZ, A2, A4, A5, A6, A7, A8, A9⟩ := bz6 Aa)); try go_wp2_with (first | ((with_reducible refine gd 3 rfl ?_); refine bx #[.int .i64 Ad, .int .i64 Ae, .int .i64 Af, .int .i64 Ag, .int .i64 Ah, .int .i64 Ai] 55 ?_; intro Ac hg BC Aa hb; have Ao := ngw0 hg HB; replace HB := bS0 HB hb; clear hb hg; obtain ⟨AJ, AK, AL, AM, AN, AO, AP, AQ, AR, AS, AT, AU⟩ := bz6 Aa) | (go_at_call 66; (with_reducible refine (spec_l06Place.calls _ _ _ _ _ _ _ _ _ _ _ _ ?side1 ?side2 A3.out).mono ?_); (case side1 => exact ks (Kd.C_below HR0.out HB.out)); (case side2 => exact By.out); rintro e BD ⟨rfl, hb⟩; replace Aa := bB Aa hb; replace HB := bS1 HB Ao hb; (try clear hb); obtain ⟨p334, q334, ad334, e334, Aq, Ar, As, At, Au, Av⟩ := at_T55x HR0.out HB Ab; cases e334; obtain ⟨AV, AW, AX, AY, AZ, A2, A4, A5, A6, A7, A8, A9⟩ := bz6 Aa)))
   obtain ⟨rt, rd_⟩ := reads;refine start_ (n := 13) (S := fun w' => w'.cell? ⟨Ac, 0, none⟩ = some (.int .i64 Ad) ∧ w'.cell? ⟨Ac, 1, none⟩ = some (.int .i64 Ae) ∧ w'.cell? ⟨Ac, 2, none⟩ = some (.int .i64 Af) ∧ w'.cell? ⟨Ac, 3, none⟩ = some (.int .i64 Ag) ∧ w'.cell? ⟨Ac, 4, none⟩ = some (.int .i64 Ah) ∧ w'.cell? ⟨Ac, 5, none⟩ = some (.int .i64 Ai)) (ds := []) (bT 13 0) (by kernel_rfl) rfl rfl ⟨(blk_cell (blk_drew (blk_drewN Aa.out nq)) 0).trans rfl, (blk_cell (blk_drew (blk_drewN Aa.out nq)) 1).trans rfl, (blk_cell (blk_drew (blk_drewN Aa.out nq)) 2).trans rfl, (blk_cell (blk_drew (blk_drewN Aa.out nq)) 3).trans rfl, (blk_cell (blk_drew (blk_drewN Aa.out nq)) 4).trans rfl, (blk_cell (blk_drew (blk_drewN Aa.out nq)) 5).trans rfl⟩ (fun hHeld => ?_);refine with_tabW spec_l06Insert.tab4 spec_l06Insert.bits4 (fun HT_ HW_ => ?_);have Aj := asd (blk_drew (blk_drewN Aa.out nq));have Am := asd (below_drew (qn HB.out nq));clear Aa HB;have Aa := Aj;have HB := Am;clear Aj Am;generalize (World.drewN _ nq).drew = BH at Aa HB hHeld ⊢;refine pure_ (i := 1) (N := some 23) (v := ?_) (a' := ?_) (bs 13 2) rfl rfl (any_of HT_.out (by kernel_rfl)) (fun _ _ _ h => h) (Or.inl ⟨by rfl, ?_⟩) ?_ ?_;rotate_left
   ·intro w';go_simp; with_reducible rfl
   rotate_left
   ·simp only [Act.put, sA, sB, sC, i64_w, i32_w];rfl
   refine pure_ (i := 2) (N := some 24) (v := ?_) (a' := ?_) (bs 13 6) rfl rfl (any_of HT_.out (by kernel_rfl)) (fun _ _ _ h => h) (Or.inl ⟨by rfl, ?_⟩) ?_ ?_;rotate_left
   ·intro w';go_simp; with_reducible rfl
   rotate_left
   ·simp only [Act.put, sA, sB, sC, i64_w, i32_w];rfl
   refine pure_ (i := 3) (N := some 25) (v := ?_) (a' := ?_) (bs 13 14) rfl rfl (any_of HT_.out (by kernel_rfl)) (fun _ _ _ h => h) (Or.inl ⟨by rfl, ?_⟩) ?_ ?_;rotate_left
   ·intro w';go_simp; with_reducible rfl
   rotate_left
   ·simp only [Act.put, sA, sB, sC, i64_w, i32_w];rfl
   refine ta 5 (some 27) (bs 13 46) HT_ HW_ hHeld ?_;refine pure_ (i := 8) (N := some 30) (v := ?_) (a' := ?_) (bs 13 302) rfl rfl (any_of HT_.out (by kernel_rfl)) (fun _ _ _ h => h) (Or.inl ⟨by rfl, ?_⟩) ?_ ?_;rotate_left
   ·intro w';go_simp; with_reducible rfl
   rotate_left
   ·simp only [Act.put, sA, sB, sC, i64_w, i32_w];rfl
   refine pure_ (i := 9) (N := some 31) (v := ?_) (a' := ?_) (bs 13 814) rfl rfl (any_of HT_.out (by kernel_rfl)) (fun _ _ _ h => h) (Or.inl ⟨by rfl, ?_⟩) ?_ ?_;rotate_left
   ·intro w';go_simp; with_reducible rfl
   rotate_left
   ·simp only [Act.put, sA, sB, sC, i64_w, i32_w];rfl
   refine pure_ (i := 10) (N := some 32) (v := ?_) (a' := ?_) (bs 13 1838) rfl rfl (any_of HT_.out (by kernel_rfl)) (fun _ _ _ h => h) (Or.inl ⟨by rfl, ?_⟩) ?_ ?_;rotate_left
   ·intro w';go_simp; with_reducible rfl
   rotate_left
   ·simp only [Act.put, sA, sB, sC, i64_w, i32_w];rfl
   refine two_ (i := 0) (j := 6) (Ni := some 22) (Nj := some 28) (bs 13 1839) #[false, true, true, true, false, true, true, false, true, true, true, false, false] rfl rfl rfl rfl (two_of HT_.out (by kernel_rfl)) (by decide) (by decide) ?_ ?_
   ·intro K hK;refine Kd.R_lit_step k55 (w0 := w) w.heap.size 55 (by rfl) (N := 22) rfl (xs := ([] : List S55)) (inner := []) (ok := (fun k_ => k_ ≠ Ac)) (okp := fun _ => False) (by first | (go_simp; done) | (go_simp; rfl)) ⟨rfl, fun j p hp => by cases hp⟩ (fun _ h => h.elim) (Nat.ne_of_gt (blk_lt Aa.out)) HB.out (below_size HB.out) (by decide) ?_;intro v22 w1 ho hb hg hat;have Aj := asd (blk_grown Aa.out hg (by simp));have Ak := Aside0.mk hb;have An := Aside0.mk ho;clear Aa HB ho hb hg hat;have Aa := Aj;have HB := Ak;have HO := An;clear Aj Ak An;refine hK.out _ _ ⟨bcl Aa 0, bcl Aa 1, bcl Aa 2, bcl Aa 3, bcl Aa 4, bcl Aa 5⟩ (fun hHeld => ?_);clear hK K;refine norm_ (a' := ?_) ?_ ?_;rotate_left
    ·show Act.put _ (some 22) _ = _
     simp only [Act.put, sA, sB, sC, i64_w, i32_w];rfl
    refine two_ (i := 4) (j := 6) (Ni := some 26) (Nj := some 28) (bs 13 1855) #[true, true, true, true, false, true, true, false, true, true, true, false, false] rfl rfl rfl rfl (two_of HT_.out (by kernel_rfl)) (by decide) (by decide) ?_ ?_
    ·intro K hK;refine Kd.R_append_rows_step k55 (Rr := k55.K _) (w0 := w) w.heap.size (by rfl) (.tmp 22) (.tmp 25) 26 55 (.agg #[(.int .i64 0), (.int .i64 0), (.int .i64 0), (.int .i64 0), (.int .i64 0), (.int .i64 0)]) 48 rfl Try.underlying26 info55 rfl (by decide) (by omega) v22 [] (l0.take Ab.toNat) _ _ _ (fun k_ => k_ ≠ Ac) (fun _ => False) rfl rfl HO.out (rt _ HB.out) (fun x cs h => by obtain rfl := k55_open h; exact k55_mkM _ _ _ x) (fun _ hk => hk.elim) (fun k_ hk => (by have := blk_lt Aa.out; omega)) HB.out (below_size HB.out) (by simp only [List.nil_append, List.length_append, List.length_nil, List.length_cons, List.length_take, List.length_drop]; omega) ?_;intro v26 w1 ho hb hg hat;have Aj := asd (blk_grown Aa.out hg (Kd.R_away HO.out (fun _ h => h)));have Ak := Aside0.mk hb;have An := Aside0.mk ho;clear Aa HB ho hb hg hat HO;have Aa := Aj;have HB := Ak;have HO := An;clear Aj Ak An;refine hK.out _ _ ⟨bcl Aa 0, bcl Aa 1, bcl Aa 2, bcl Aa 3, bcl Aa 4, bcl Aa 5⟩ (fun hHeld => ?_);clear hK K;refine norm_ (a' := ?_) ?_ ?_;rotate_left
     ·show Act.put _ (some 26) _ = _
      simp only [Act.put, sA, sB, sC, i64_w, i32_w];rfl
     refine ro 6 (some 28) (bs 13 1919) HT_ (fun K hK => ?_);refine spec_l06Insert.lit1 (by rfl) (N := 28) rfl (cs := #[.int .i64 Ad, .int .i64 Ae, .int .i64 Af, .int .i64 Ag, .int .i64 Ah, .int .i64 Ai]) (t := 55) (by first | (go_simp; done) | (go_simp; rfl)) ?_;intro Ap hg6 w1 hbox hb;have An := asd (Kd.R_below (Kd.R_mono (Kd.R_elderB HO.out Ap (Nat.le_of_eq hg6.symm)) (fun _ h => h) : Kd.R k55 55 _ w.heap.size (fun k_ => k_ ≠ Ac ∧ k_ ≠ Ap) _ _) hb);have Aj := asd (blk_below Aa.out hb);have Am := asd (below_step HB.out hb);have Ak := Aside0.mk hbox;have BB := asd (by have := blk_lt Aa.out; omega : Ac ≠ Ap);clear Aa HB hbox hb hg6 HO;have Aa := Aj;have HB := Am;have Al := Ak;have HO := An;clear An;clear Aj Am Ak;refine hK.out _ _ ⟨bcl Aa 0, bcl Aa 1, bcl Aa 2, bcl Aa 3, bcl Aa 4, bcl Aa 5⟩ (fun hHeld => ?_);clear hK K;refine norm_ (a' := ?_) ?_ ?_;rotate_left
     ·show Act.put _ (some 28) _ = _
      simp only [Act.put, sA, sB, sC, i64_w, i32_w];rfl
     refine ro 7 (some 29) (bT 13 11) HT_ (fun K hK => ?_);refine Kd.R_append_rows_step k55 (Rr := k55.K _) (w0 := w) w.heap.size (by rfl) (.tmp 26) (.tmp 28) 26 55 (.agg #[(.int .i64 0), (.int .i64 0), (.int .i64 0), (.int .i64 0), (.int .i64 0), (.int .i64 0)]) 48 rfl Try.underlying26 info55 rfl (by decide) (by omega) v26 ([] ++ l0.take Ab.toNat) [(⟨(⟨Ad, Ae, Af, Ag⟩ : S51), (⟨Ah, Ai⟩ : S53)⟩ : S55)] _ _ _ (fun k_ => k_ ≠ Ac ∧ k_ ≠ Ap) (fun _ => False) rfl rfl HO.out (spec_l06Insert.row1 Al.out) (fun x cs h => by obtain rfl := k55_open h; exact k55_mkM _ _ _ x) (fun _ hk => hk.elim) (fun k_ hk => ⟨by have := blk_lt Aa.out; omega, by have := blk_lt Al.out; omega⟩) HB.out (below_size HB.out) (by simp only [List.nil_append, List.length_append, List.length_nil, List.length_cons, List.length_take, List.length_drop]; omega) ?_;intro v29 w1 ho hb hg hat;have Aj := asd (blk_grown Aa.out hg (Kd.R_away HO.out (fun _ h => h.1)));have Am := asd (blk_grown Al.out hg (Kd.R_away HO.out (fun _ h => h.2)));have Ak := Aside0.mk hb;have An := Aside0.mk ho;clear Aa HB ho hb hg hat Al HO;have Aa := Aj;have HB := Ak;have HO := An;have Al := Am;clear Am;clear Aj Ak An;refine hK.out _ _ ⟨bcl Aa 0, bcl Aa 1, bcl Aa 2, bcl Aa 3, bcl Aa 4, bcl Aa 5⟩ (fun hHeld => ?_);clear hK K;refine norm_ (a' := ?_) ?_ ?_;rotate_left
     ·show Act.put _ (some 29) _ = _
      simp only [Act.put, sA, sB, sC, i64_w, i32_w];rfl
     refine ro 11 (some 33) (bT 13 12) HT_ (fun K hK => ?_);refine Kd.R_append_rows_step k55 (Rr := k55.K _) (w0 := w) w.heap.size (by rfl) (.tmp 29) (.tmp 32) 26 55 (.agg #[(.int .i64 0), (.int .i64 0), (.int .i64 0), (.int .i64 0), (.int .i64 0), (.int .i64 0)]) 48 rfl Try.underlying26 info55 rfl (by decide) (by omega) v29 ([] ++ l0.take Ab.toNat ++ [(⟨(⟨Ad, Ae, Af, Ag⟩ : S51), (⟨Ah, Ai⟩ : S53)⟩ : S55)]) (l0.drop Ab.toNat) _ _ _ (fun k_ => k_ ≠ Ac ∧ k_ ≠ Ap) (fun _ => False) rfl rfl HO.out (rd_ _ HB.out) (fun x cs h => by obtain rfl := k55_open h; exact k55_mkM _ _ _ x) (fun _ hk => hk.elim) (fun k_ hk => ⟨by have := blk_lt Aa.out; omega, by have := blk_lt Al.out; omega⟩) HB.out (below_size HB.out) (by simp only [List.nil_append, List.length_append, List.length_nil, List.length_cons, List.length_take, List.length_drop]; omega) ?_;intro v33 w1 ho hb hg hat;have Aj := asd (blk_grown Aa.out hg (Kd.R_away HO.out (fun _ h => h.1)));have Am := asd (blk_grown Al.out hg (Kd.R_away HO.out (fun _ h => h.2)));have Ak := Aside0.mk hb;have An := Aside0.mk ho;clear Aa HB ho hb hg hat Al HO;have Aa := Aj;have HB := Ak;have HO := An;have Al := Am;clear Am;clear Aj Ak An;refine hK.out _ _ ⟨bcl Aa 0, bcl Aa 1, bcl Aa 2, bcl Aa 3, bcl Aa 4, bcl Aa 5⟩ (fun hHeld => ?_);clear hK K;refine norm_ (a' := ?_) ?_ ?_;rotate_left
     ·show Act.put _ (some 33) _ = _
      simp only [Act.put, sA, sB, sC, i64_w, i32_w];rfl
     refine pure_ (i := 12) (N := some 4) (v := ?_) (a' := ?_) (bT 13 13) rfl rfl (any_of HT_.out (by kernel_rfl)) (fun _ _ _ h => h) (Or.inl ⟨by rfl, ?_⟩) ?_ ?_;rotate_left
     ·intro w';go_simp; with_reducible rfl
     rotate_left
     ·simp only [Act.put, sA, sB, sC, i64_w, i32_w];rfl
     refine done_ (done_of HT_.out (by kernel_rfl)) ?_;try go_wp2
     all_goals (go_ret; obtain ⟨v2, he2, h2⟩ := fin _ _ (Kd.R_mono HO.out (fun _ _ => trivial)) HB.out; cases he2; exact ⟨_, rfl, h2⟩)
    ·intro K hK;refine spec_l06Insert.lit1 (by rfl) (N := 28) rfl (cs := #[.int .i64 Ad, .int .i64 Ae, .int .i64 Af, .int .i64 Ag, .int .i64 Ah, .int .i64 Ai]) (t := 55) (by first | (go_simp; done) | (go_simp; rfl)) ?_;intro Ap hg6 w1 hbox hb;have An := asd (Kd.R_below (Kd.R_mono (Kd.R_elderB HO.out Ap (Nat.le_of_eq hg6.symm)) (fun _ h => h) : Kd.R k55 55 _ w.heap.size (fun k_ => k_ ≠ Ac ∧ k_ ≠ Ap) _ _) hb);have Aj := asd (blk_below Aa.out hb);have Am := asd (below_step HB.out hb);have Ak := Aside0.mk hbox;have BB := asd (by have := blk_lt Aa.out; omega : Ac ≠ Ap);clear Aa HB hbox hb hg6 HO;have Aa := Aj;have HB := Am;have Al := Ak;have HO := An;clear An;clear Aj Am Ak;refine hK.out _ _ ⟨bcl Aa 0, bcl Aa 1, bcl Aa 2, bcl Aa 3, bcl Aa 4, bcl Aa 5⟩ (fun hHeld => ?_);clear hK K;refine norm_ (a' := ?_) ?_ ?_;rotate_left
     ·show Act.put _ (some 28) _ = _
      simp only [Act.put, sA, sB, sC, i64_w, i32_w];rfl
     refine ro 4 (some 26) (bs 13 1919) HT_ (fun K hK => ?_);refine Kd.R_append_rows_step k55 (Rr := k55.K _) (w0 := w) w.heap.size (by rfl) (.tmp 22) (.tmp 25) 26 55 (.agg #[(.int .i64 0), (.int .i64 0), (.int .i64 0), (.int .i64 0), (.int .i64 0), (.int .i64 0)]) 48 rfl Try.underlying26 info55 rfl (by decide) (by omega) v22 [] (l0.take Ab.toNat) _ _ _ (fun k_ => k_ ≠ Ac ∧ k_ ≠ Ap) (fun _ => False) rfl rfl HO.out (rt _ HB.out) (fun x cs h => by obtain rfl := k55_open h; exact k55_mkM _ _ _ x) (fun _ hk => hk.elim) (fun k_ hk => ⟨by have := blk_lt Aa.out; omega, by have := blk_lt Al.out; omega⟩) HB.out (below_size HB.out) (by simp only [List.nil_append, List.length_append, List.length_nil, List.length_cons, List.length_take, List.length_drop]; omega) ?_;intro v26 w1 ho hb hg hat;have Aj := asd (blk_grown Aa.out hg (Kd.R_away HO.out (fun _ h => h.1)));have Am := asd (blk_grown Al.out hg (Kd.R_away HO.out (fun _ h => h.2)));have Ak := Aside0.mk hb;have An := Aside0.mk ho;clear Aa HB ho hb hg hat Al HO;have Aa := Aj;have HB := Ak;have HO := An;have Al := Am;clear Am;clear Aj Ak An;refine hK.out _ _ ⟨bcl Aa 0, bcl Aa 1, bcl Aa 2, bcl Aa 3, bcl Aa 4, bcl Aa 5⟩ (fun hHeld => ?_);clear hK K;refine norm_ (a' := ?_) ?_ ?_;rotate_left
     ·show Act.put _ (some 26) _ = _
      simp only [Act.put, sA, sB, sC, i64_w, i32_w];rfl
     refine ro 7 (some 29) (bT 13 11) HT_ (fun K hK => ?_);refine Kd.R_append_rows_step k55 (Rr := k55.K _) (w0 := w) w.heap.size (by rfl) (.tmp 26) (.tmp 28) 26 55 (.agg #[(.int .i64 0), (.int .i64 0), (.int .i64 0), (.int .i64 0), (.int .i64 0), (.int .i64 0)]) 48 rfl Try.underlying26 info55 rfl (by decide) (by omega) v26 ([] ++ l0.take Ab.toNat) [(⟨(⟨Ad, Ae, Af, Ag⟩ : S51), (⟨Ah, Ai⟩ : S53)⟩ : S55)] _ _ _ (fun k_ => k_ ≠ Ac ∧ k_ ≠ Ap) (fun _ => False) rfl rfl HO.out (spec_l06Insert.row1 Al.out) (fun x cs h => by obtain rfl := k55_open h; exact k55_mkM _ _ _ x) (fun _ hk => hk.elim) (fun k_ hk => ⟨by have := blk_lt Aa.out; omega, by have := blk_lt Al.out; omega⟩) HB.out (below_size HB.out) (by simp only [List.nil_append, List.length_append, List.length_nil, List.length_cons, List.length_take, List.length_drop]; omega) ?_;intro v29 w1 ho hb hg hat;have Aj := asd (blk_grown Aa.out hg (Kd.R_away HO.out (fun _ h => h.1)));have Am := asd (blk_grown Al.out hg (Kd.R_away HO.out (fun _ h => h.2)));have Ak := Aside0.mk hb;have An := Aside0.mk ho;clear Aa HB ho hb hg hat Al HO;have Aa := Aj;have HB := Ak;have HO := An;have Al := Am;clear Am;clear Aj Ak An;refine hK.out _ _ ⟨bcl Aa 0, bcl Aa 1, bcl Aa 2, bcl Aa 3, bcl Aa 4, bcl Aa 5⟩ (fun hHeld => ?_);clear hK K;refine norm_ (a' := ?_) ?_ ?_;rotate_left
     ·show Act.put _ (some 29) _ = _
      simp only [Act.put, sA, sB, sC, i64_w, i32_w];rfl
     refine ro 11 (some 33) (bT 13 12) HT_ (fun K hK => ?_);refine Kd.R_append_rows_step k55 (Rr := k55.K _) (w0 := w) w.heap.size (by rfl) (.tmp 29) (.tmp 32) 26 55 (.agg #[(.int .i64 0), (.int .i64 0), (.int .i64 0), (.int .i64 0), (.int .i64 0), (.int .i64 0)]) 48 rfl Try.underlying26 info55 rfl (by decide) (by omega) v29 ([] ++ l0.take Ab.toNat ++ [(⟨(⟨Ad, Ae, Af, Ag⟩ : S51), (⟨Ah, Ai⟩ : S53)⟩ : S55)]) (l0.drop Ab.toNat) _ _ _ (fun k_ => k_ ≠ Ac ∧ k_ ≠ Ap) (fun _ => False) rfl rfl HO.out (rd_ _ HB.out) (fun x cs h => by obtain rfl := k55_open h; exact k55_mkM _ _ _ x) (fun _ hk => hk.elim) (fun k_ hk => ⟨by have := blk_lt Aa.out; omega, by have := blk_lt Al.out; omega⟩) HB.out (below_size HB.out) (by simp only [List.nil_append, List.length_append, List.length_nil, List.length_cons, List.length_take, List.length_drop]; omega) ?_;intro v33 w1 ho hb hg hat;have Aj := asd (blk_grown Aa.out hg (Kd.R_away HO.out (fun _ h => h.1)));have Am := asd (blk_grown Al.out hg (Kd.R_away HO.out (fun _ h => h.2)));have Ak := Aside0.mk hb;have An := Aside0.mk ho;clear Aa HB ho hb hg hat Al HO;have Aa := Aj;have HB := Ak;have HO := An;have Al := Am;clear Am;clear Aj Ak An;refine hK.out _ _ ⟨bcl Aa 0, bcl Aa 1, bcl Aa 2, bcl Aa 3, bcl Aa 4, bcl Aa 5⟩ (fun hHeld => ?_);clear hK K;refine norm_ (a' := ?_) ?_ ?_;rotate_left
     ·show Act.put _ (some 33) _ = _
      simp only [Act.put, sA, sB, sC, i64_w, i32_w];rfl
     refine pure_ (i := 12) (N := some 4) (v := ?_) (a' := ?_) (bT 13 13) rfl rfl (any_of HT_.out (by kernel_rfl)) (fun _ _ _ h => h) (Or.inl ⟨by rfl, ?_⟩) ?_ ?_;rotate_left
     ·intro w';go_simp; with_reducible rfl
     rotate_left
     ·simp only [Act.put, sA, sB, sC, i64_w, i32_w];rfl
     refine done_ (done_of HT_.out (by kernel_rfl)) ?_;try go_wp2
     all_goals (go_ret; obtain ⟨v2, he2, h2⟩ := fin _ _ (Kd.R_mono HO.out (fun _ _ => trivial)) HB.out; cases he2; exact ⟨_, rfl, h2⟩)
   ·intro K hK;refine spec_l06Insert.lit1 (by rfl) (N := 28) rfl (cs := #[.int .i64 Ad, .int .i64 Ae, .int .i64 Af, .int .i64 Ag, .int .i64 Ah, .int .i64 Ai]) (t := 55) (by first | (go_simp; done) | (go_simp; rfl)) ?_;intro Ap hg6 w1 hbox hb;have Aj := asd (blk_below Aa.out hb);have Am := asd (below_step HB.out hb);have Ak := Aside0.mk hbox;have BB := asd (by have := blk_lt Aa.out; omega : Ac ≠ Ap);clear Aa HB hbox hb hg6;have Aa := Aj;have HB := Am;have Al := Ak;clear Aj Am Ak;refine hK.out _ _ ⟨bcl Aa 0, bcl Aa 1, bcl Aa 2, bcl Aa 3, bcl Aa 4, bcl Aa 5⟩ (fun hHeld => ?_);clear hK K;refine norm_ (a' := ?_) ?_ ?_;rotate_left
    ·show Act.put _ (some 28) _ = _
     simp only [Act.put, sA, sB, sC, i64_w, i32_w];rfl
    refine ro 0 (some 22) (bs 13 1903) HT_ (fun K hK => ?_);refine Kd.R_lit_step k55 (w0 := w) w.heap.size 55 (by rfl) (N := 22) rfl (xs := ([] : List S55)) (inner := []) (ok := (fun k_ => k_ ≠ Ac ∧ k_ ≠ Ap)) (okp := fun _ => False) (by first | (go_simp; done) | (go_simp; rfl)) ⟨rfl, fun j p hp => by cases hp⟩ (fun _ h => h.elim) (by have h1 := blk_lt Aa.out; have h2 := blk_lt Al.out; exact ⟨Nat.ne_of_gt h1, Nat.ne_of_gt h2⟩) HB.out (below_size HB.out) (by decide) ?_;intro v22 w1 ho hb hg hat;have Aj := asd (blk_grown Aa.out hg (by simp));have Am := asd (blk_grown Al.out hg (by simp));have Ak := Aside0.mk hb;have An := Aside0.mk ho;clear Aa HB ho hb hg hat Al;have Aa := Aj;have HB := Ak;have HO := An;have Al := Am;clear Am;clear Aj Ak An;refine hK.out _ _ ⟨bcl Aa 0, bcl Aa 1, bcl Aa 2, bcl Aa 3, bcl Aa 4, bcl Aa 5⟩ (fun hHeld => ?_);clear hK K;refine norm_ (a' := ?_) ?_ ?_;rotate_left
    ·show Act.put _ (some 22) _ = _
     simp only [Act.put, sA, sB, sC, i64_w, i32_w];rfl
    refine ro 4 (some 26) (bs 13 1919) HT_ (fun K hK => ?_);refine Kd.R_append_rows_step k55 (Rr := k55.K _) (w0 := w) w.heap.size (by rfl) (.tmp 22) (.tmp 25) 26 55 (.agg #[(.int .i64 0), (.int .i64 0), (.int .i64 0), (.int .i64 0), (.int .i64 0), (.int .i64 0)]) 48 rfl Try.underlying26 info55 rfl (by decide) (by omega) v22 [] (l0.take Ab.toNat) _ _ _ (fun k_ => k_ ≠ Ac ∧ k_ ≠ Ap) (fun _ => False) rfl rfl HO.out (rt _ HB.out) (fun x cs h => by obtain rfl := k55_open h; exact k55_mkM _ _ _ x) (fun _ hk => hk.elim) (fun k_ hk => ⟨by have := blk_lt Aa.out; omega, by have := blk_lt Al.out; omega⟩) HB.out (below_size HB.out) (by simp only [List.nil_append, List.length_append, List.length_nil, List.length_cons, List.length_take, List.length_drop]; omega) ?_;intro v26 w1 ho hb hg hat;have Aj := asd (blk_grown Aa.out hg (Kd.R_away HO.out (fun _ h => h.1)));have Am := asd (blk_grown Al.out hg (Kd.R_away HO.out (fun _ h => h.2)));have Ak := Aside0.mk hb;have An := Aside0.mk ho;clear Aa HB ho hb hg hat Al HO;have Aa := Aj;have HB := Ak;have HO := An;have Al := Am;clear Am;clear Aj Ak An;refine hK.out _ _ ⟨bcl Aa 0, bcl Aa 1, bcl Aa 2, bcl Aa 3, bcl Aa 4, bcl Aa 5⟩ (fun hHeld => ?_);clear hK K;refine norm_ (a' := ?_) ?_ ?_;rotate_left
    ·show Act.put _ (some 26) _ = _
     simp only [Act.put, sA, sB, sC, i64_w, i32_w];rfl
    refine ro 7 (some 29) (bT 13 11) HT_ (fun K hK => ?_);refine Kd.R_append_rows_step k55 (Rr := k55.K _) (w0 := w) w.heap.size (by rfl) (.tmp 26) (.tmp 28) 26 55 (.agg #[(.int .i64 0), (.int .i64 0), (.int .i64 0), (.int .i64 0), (.int .i64 0), (.int .i64 0)]) 48 rfl Try.underlying26 info55 rfl (by decide) (by omega) v26 ([] ++ l0.take Ab.toNat) [(⟨(⟨Ad, Ae, Af, Ag⟩ : S51), (⟨Ah, Ai⟩ : S53)⟩ : S55)] _ _ _ (fun k_ => k_ ≠ Ac ∧ k_ ≠ Ap) (fun _ => False) rfl rfl HO.out (spec_l06Insert.row1 Al.out) (fun x cs h => by obtain rfl := k55_open h; exact k55_mkM _ _ _ x) (fun _ hk => hk.elim) (fun k_ hk => ⟨by have := blk_lt Aa.out; omega, by have := blk_lt Al.out; omega⟩) HB.out (below_size HB.out) (by simp only [List.nil_append, List.length_append, List.length_nil, List.length_cons, List.length_take, List.length_drop]; omega) ?_;intro v29 w1 ho hb hg hat;have Aj := asd (blk_grown Aa.out hg (Kd.R_away HO.out (fun _ h => h.1)));have Am := asd (blk_grown Al.out hg (Kd.R_away HO.out (fun _ h => h.2)));have Ak := Aside0.mk hb;have An := Aside0.mk ho;clear Aa HB ho hb hg hat Al HO;have Aa := Aj;have HB := Ak;have HO := An;have Al := Am;clear Am;clear Aj Ak An;refine hK.out _ _ ⟨bcl Aa 0, bcl Aa 1, bcl Aa 2, bcl Aa 3, bcl Aa 4, bcl Aa 5⟩ (fun hHeld => ?_);clear hK K;refine norm_ (a' := ?_) ?_ ?_;rotate_left
    ·show Act.put _ (some 29) _ = _
     simp only [Act.put, sA, sB, sC, i64_w, i32_w];rfl
    refine ro 11 (some 33) (bT 13 12) HT_ (fun K hK => ?_);refine Kd.R_append_rows_step k55 (Rr := k55.K _) (w0 := w) w.heap.size (by rfl) (.tmp 29) (.tmp 32) 26 55 (.agg #[(.int .i64 0), (.int .i64 0), (.int .i64 0), (.int .i64 0), (.int .i64 0), (.int .i64 0)]) 48 rfl Try.underlying26 info55 rfl (by decide) (by omega) v29 ([] ++ l0.take Ab.toNat ++ [(⟨(⟨Ad, Ae, Af, Ag⟩ : S51), (⟨Ah, Ai⟩ : S53)⟩ : S55)]) (l0.drop Ab.toNat) _ _ _ (fun k_ => k_ ≠ Ac ∧ k_ ≠ Ap) (fun _ => False) rfl rfl HO.out (rd_ _ HB.out) (fun x cs h => by obtain rfl := k55_open h; exact k55_mkM _ _ _ x) (fun _ hk => hk.elim) (fun k_ hk => ⟨by have := blk_lt Aa.out; omega, by have := blk_lt Al.out; omega⟩) HB.out (below_size HB.out) (by simp only [List.nil_append, List.length_append, List.length_nil, List.length_cons, List.length_take, List.length_drop]; omega) ?_;intro v33 w1 ho hb hg hat;have Aj := asd (blk_grown Aa.out hg (Kd.R_away HO.out (fun _ h => h.1)));have Am := asd (blk_grown Al.out hg (Kd.R_away HO.out (fun _ h => h.2)));have Ak := Aside0.mk hb;have An := Aside0.mk ho;clear Aa HB ho hb hg hat Al HO;have Aa := Aj;have HB := Ak;have HO := An;have Al := Am;clear Am;clear Aj Ak An;refine hK.out _ _ ⟨bcl Aa 0, bcl Aa 1, bcl Aa 2, bcl Aa 3, bcl Aa 4, bcl Aa 5⟩ (fun hHeld => ?_);clear hK K;refine norm_ (a' := ?_) ?_ ?_;rotate_left
    ·show Act.put _ (some 33) _ = _
     simp only [Act.put, sA, sB, sC, i64_w, i32_w];rfl
    refine pure_ (i := 12) (N := some 4) (v := ?_) (a' := ?_) (bT 13 13) rfl rfl (any_of HT_.out (by kernel_rfl)) (fun _ _ _ h => h) (Or.inl ⟨by rfl, ?_⟩) ?_ ?_;rotate_left
    ·intro w';go_simp; with_reducible rfl
    rotate_left
    ·simp only [Act.put, sA, sB, sC, i64_w, i32_w];rfl
    refine done_ (done_of HT_.out (by kernel_rfl)) ?_;try go_wp2
    all_goals (go_ret; obtain ⟨v2, he2, h2⟩ := fin _ _ (Kd.R_mono HO.out (fun _ _ => trivial)) HB.out; cases he2; exact ⟨_, rfl, h2⟩)
 ·have BA : decide (Ab < (l0.length : Int)) = false := qq c4;have he : spec_l06Insert.at l0 (⟨(⟨Ad, Ae, Af, Ag⟩ : S51), (⟨Ah, Ai⟩ : S53)⟩ : S55) Ab.toNat = l0.take Ab.toNat ++ [(⟨(⟨Ad, Ae, Af, Ag⟩ : S51), (⟨Ah, Ai⟩ : S53)⟩ : S55)] ++ l0.drop Ab.toNat := by unfold spec_l06Insert.at; rw [if_neg (by rw [Bool.and_eq_true]; rintro ⟨h, _⟩; have := of_decide_eq_true h; omega)]
  replace fin := fin he;clear c4 he;go_enter Try.func52, Try.ntmps52
  go_wp2_with (first | ((with_reducible refine gd 3 rfl ?_); refine bx #[.int .i64 Ad, .int .i64 Ae, .int .i64 Af, .int .i64 Ag, .int .i64 Ah, .int .i64 Ai] 55 ?_; intro Ac hg BE Aa hb; have Ao := ngw0 hg HB; replace HB := bS0 HB hb; clear hb hg; obtain ⟨Ba, Bb, Bc, Bd, Be, Bf, Bg, Bh, Bi, Bj, Bk, Bl⟩ := bz6 Aa) | (go_at_call 66; (with_reducible refine (spec_l06Place.calls _ _ _ _ _ _ _ _ _ _ _ _ ?side1 ?side2 A3.out).mono ?_); (case side1 => exact ks (Kd.C_below HR0.out HB.out)); (case side2 => exact By.out); rintro e BF ⟨rfl, hb⟩; replace Aa := bB Aa hb; replace HB := bS1 HB Ao hb; (try clear hb)));repeat (go_quiet (first | ((with_reducible refine gd 3 rfl ?_); refine bx #[.int .i64 Ad, .int .i64 Ae, .int .i64 Af, .int .i64 Ag, .int .i64 Ah, .int .i64 Ai] 55 ?_; intro Ac hg BE Aa hb; have Ao := ngw0 hg HB; replace HB := bS0 HB hb; clear hb hg; obtain ⟨Ba, Bb, Bc, Bd, Be, Bf, Bg, Bh, Bi, Bj, Bk, Bl⟩ := bz6 Aa) | (go_at_call 66; (with_reducible refine (spec_l06Place.calls _ _ _ _ _ _ _ _ _ _ _ _ ?side1 ?side2 A3.out).mono ?_); (case side1 => exact ks (Kd.C_below HR0.out HB.out)); (case side2 => exact By.out); rintro e BF ⟨rfl, hb⟩; replace Aa := bB Aa hb; replace HB := bS1 HB Ao hb; (try clear hb))); try go_wp2_with (first | ((with_reducible refine gd 3 rfl ?_); refine bx #[.int .i64 Ad, .int .i64 Ae, .int .i64 Af, .int .i64 Ag, .int .i64 Ah, .int .i64 Ai] 55 ?_; intro Ac hg BE Aa hb; have Ao := ngw0 hg HB; replace HB := bS0 HB hb; clear hb hg; obtain ⟨Ba, Bb, Bc, Bd, Be, Bf, Bg, Bh, Bi, Bj, Bk, Bl⟩ := bz6 Aa) | (go_at_call 66; (with_reducible refine (spec_l06Place.calls _ _ _ _ _ _ _ _ _ _ _ _ ?side1 ?side2 A3.out).mono ?_); (case side1 => exact ks (Kd.C_below HR0.out HB.out)); (case side2 => exact By.out); rintro e BF ⟨rfl, hb⟩; replace Aa := bB Aa hb; replace HB := bS1 HB Ao hb; (try clear hb))))
  obtain ⟨rt, rd_⟩ := reads;refine start_ (n := 13) (S := fun w' => w'.cell? ⟨Ac, 0, none⟩ = some (.int .i64 Ad) ∧ w'.cell? ⟨Ac, 1, none⟩ = some (.int .i64 Ae) ∧ w'.cell? ⟨Ac, 2, none⟩ = some (.int .i64 Af) ∧ w'.cell? ⟨Ac, 3, none⟩ = some (.int .i64 Ag) ∧ w'.cell? ⟨Ac, 4, none⟩ = some (.int .i64 Ah) ∧ w'.cell? ⟨Ac, 5, none⟩ = some (.int .i64 Ai)) (ds := []) (bT 13 0) (by kernel_rfl) rfl rfl ⟨(blk_cell (blk_drew (blk_drewN Aa.out nq)) 0).trans rfl, (blk_cell (blk_drew (blk_drewN Aa.out nq)) 1).trans rfl, (blk_cell (blk_drew (blk_drewN Aa.out nq)) 2).trans rfl, (blk_cell (blk_drew (blk_drewN Aa.out nq)) 3).trans rfl, (blk_cell (blk_drew (blk_drewN Aa.out nq)) 4).trans rfl, (blk_cell (blk_drew (blk_drewN Aa.out nq)) 5).trans rfl⟩ (fun hHeld => ?_);refine with_tabW spec_l06Insert.tab4 spec_l06Insert.bits4 (fun HT_ HW_ => ?_);have Aj := asd (blk_drew (blk_drewN Aa.out nq));have Am := asd (below_drew (qn HB.out nq));clear Aa HB;have Aa := Aj;have HB := Am;clear Aj Am;generalize (World.drewN _ nq).drew = BH at Aa HB hHeld ⊢;refine pure_ (i := 1) (N := some 23) (v := ?_) (a' := ?_) (bs 13 2) rfl rfl (any_of HT_.out (by kernel_rfl)) (fun _ _ _ h => h) (Or.inl ⟨by rfl, ?_⟩) ?_ ?_;rotate_left
  ·intro w';go_simp; with_reducible rfl
  rotate_left
  ·simp only [Act.put, sA, sB, sC, i64_w, i32_w];rfl
  refine pure_ (i := 2) (N := some 24) (v := ?_) (a' := ?_) (bs 13 6) rfl rfl (any_of HT_.out (by kernel_rfl)) (fun _ _ _ h => h) (Or.inl ⟨by rfl, ?_⟩) ?_ ?_;rotate_left
  ·intro w';go_simp; with_reducible rfl
  rotate_left
  ·simp only [Act.put, sA, sB, sC, i64_w, i32_w];rfl
  refine pure_ (i := 3) (N := some 25) (v := ?_) (a' := ?_) (bs 13 14) rfl rfl (any_of HT_.out (by kernel_rfl)) (fun _ _ _ h => h) (Or.inl ⟨by rfl, ?_⟩) ?_ ?_;rotate_left
  ·intro w';go_simp; with_reducible rfl
  rotate_left
  ·simp only [Act.put, sA, sB, sC, i64_w, i32_w];rfl
  refine ta 5 (some 27) (bs 13 46) HT_ HW_ hHeld ?_;refine pure_ (i := 8) (N := some 30) (v := ?_) (a' := ?_) (bs 13 302) rfl rfl (any_of HT_.out (by kernel_rfl)) (fun _ _ _ h => h) (Or.inl ⟨by rfl, ?_⟩) ?_ ?_;rotate_left
  ·intro w';go_simp; with_reducible rfl
  rotate_left
  ·simp only [Act.put, sA, sB, sC, i64_w, i32_w];rfl
  refine pure_ (i := 9) (N := some 31) (v := ?_) (a' := ?_) (bs 13 814) rfl rfl (any_of HT_.out (by kernel_rfl)) (fun _ _ _ h => h) (Or.inl ⟨by rfl, ?_⟩) ?_ ?_;rotate_left
  ·intro w';go_simp; with_reducible rfl
  rotate_left
  ·simp only [Act.put, sA, sB, sC, i64_w, i32_w];rfl
  refine pure_ (i := 10) (N := some 32) (v := ?_) (a' := ?_) (bs 13 1838) rfl rfl (any_of HT_.out (by kernel_rfl)) (fun _ _ _ h => h) (Or.inl ⟨by rfl, ?_⟩) ?_ ?_;rotate_left
  ·intro w';go_simp; with_reducible rfl
  rotate_left
  ·simp only [Act.put, sA, sB, sC, i64_w, i32_w];rfl
  refine two_ (i := 0) (j := 6) (Ni := some 22) (Nj := some 28) (bs 13 1839) #[false, true, true, true, false, true, true, false, true, true, true, false, false] rfl rfl rfl rfl (two_of HT_.out (by kernel_rfl)) (by decide) (by decide) ?_ ?_
  ·intro K hK;refine Kd.R_lit_step k55 (w0 := w) w.heap.size 55 (by rfl) (N := 22) rfl (xs := ([] : List S55)) (inner := []) (ok := (fun k_ => k_ ≠ Ac)) (okp := fun _ => False) (by first | (go_simp; done) | (go_simp; rfl)) ⟨rfl, fun j p hp => by cases hp⟩ (fun _ h => h.elim) (Nat.ne_of_gt (blk_lt Aa.out)) HB.out (below_size HB.out) (by decide) ?_;intro v22 w1 ho hb hg hat;have Aj := asd (blk_grown Aa.out hg (by simp));have Ak := Aside0.mk hb;have An := Aside0.mk ho;clear Aa HB ho hb hg hat;have Aa := Aj;have HB := Ak;have HO := An;clear Aj Ak An;refine hK.out _ _ ⟨bcl Aa 0, bcl Aa 1, bcl Aa 2, bcl Aa 3, bcl Aa 4, bcl Aa 5⟩ (fun hHeld => ?_);clear hK K;refine norm_ (a' := ?_) ?_ ?_;rotate_left
   ·show Act.put _ (some 22) _ = _
    simp only [Act.put, sA, sB, sC, i64_w, i32_w];rfl
   refine two_ (i := 4) (j := 6) (Ni := some 26) (Nj := some 28) (bs 13 1855) #[true, true, true, true, false, true, true, false, true, true, true, false, false] rfl rfl rfl rfl (two_of HT_.out (by kernel_rfl)) (by decide) (by decide) ?_ ?_
   ·intro K hK;refine Kd.R_append_rows_step k55 (Rr := k55.K _) (w0 := w) w.heap.size (by rfl) (.tmp 22) (.tmp 25) 26 55 (.agg #[(.int .i64 0), (.int .i64 0), (.int .i64 0), (.int .i64 0), (.int .i64 0), (.int .i64 0)]) 48 rfl Try.underlying26 info55 rfl (by decide) (by omega) v22 [] (l0.take Ab.toNat) _ _ _ (fun k_ => k_ ≠ Ac) (fun _ => False) rfl rfl HO.out (rt _ HB.out) (fun x cs h => by obtain rfl := k55_open h; exact k55_mkM _ _ _ x) (fun _ hk => hk.elim) (fun k_ hk => (by have := blk_lt Aa.out; omega)) HB.out (below_size HB.out) (by simp only [List.nil_append, List.length_append, List.length_nil, List.length_cons, List.length_take, List.length_drop]; omega) ?_;intro v26 w1 ho hb hg hat;have Aj := asd (blk_grown Aa.out hg (Kd.R_away HO.out (fun _ h => h)));have Ak := Aside0.mk hb;have An := Aside0.mk ho;clear Aa HB ho hb hg hat HO;have Aa := Aj;have HB := Ak;have HO := An;clear Aj Ak An;refine hK.out _ _ ⟨bcl Aa 0, bcl Aa 1, bcl Aa 2, bcl Aa 3, bcl Aa 4, bcl Aa 5⟩ (fun hHeld => ?_);clear hK K;refine norm_ (a' := ?_) ?_ ?_;rotate_left
    ·show Act.put _ (some 26) _ = _
     simp only [Act.put, sA, sB, sC, i64_w, i32_w];rfl
    refine ro 6 (some 28) (bs 13 1919) HT_ (fun K hK => ?_);refine spec_l06Insert.lit1 (by rfl) (N := 28) rfl (cs := #[.int .i64 Ad, .int .i64 Ae, .int .i64 Af, .int .i64 Ag, .int .i64 Ah, .int .i64 Ai]) (t := 55) (by first | (go_simp; done) | (go_simp; rfl)) ?_;intro Ap hg6 w1 hbox hb;have An := asd (Kd.R_below (Kd.R_mono (Kd.R_elderB HO.out Ap (Nat.le_of_eq hg6.symm)) (fun _ h => h) : Kd.R k55 55 _ w.heap.size (fun k_ => k_ ≠ Ac ∧ k_ ≠ Ap) _ _) hb);have Aj := asd (blk_below Aa.out hb);have Am := asd (below_step HB.out hb);have Ak := Aside0.mk hbox;have BB := asd (by have := blk_lt Aa.out; omega : Ac ≠ Ap);clear Aa HB hbox hb hg6 HO;have Aa := Aj;have HB := Am;have Al := Ak;have HO := An;clear An;clear Aj Am Ak;refine hK.out _ _ ⟨bcl Aa 0, bcl Aa 1, bcl Aa 2, bcl Aa 3, bcl Aa 4, bcl Aa 5⟩ (fun hHeld => ?_);clear hK K;refine norm_ (a' := ?_) ?_ ?_;rotate_left
    ·show Act.put _ (some 28) _ = _
     simp only [Act.put, sA, sB, sC, i64_w, i32_w];rfl
    refine ro 7 (some 29) (bT 13 11) HT_ (fun K hK => ?_);refine Kd.R_append_rows_step k55 (Rr := k55.K _) (w0 := w) w.heap.size (by rfl) (.tmp 26) (.tmp 28) 26 55 (.agg #[(.int .i64 0), (.int .i64 0), (.int .i64 0), (.int .i64 0), (.int .i64 0), (.int .i64 0)]) 48 rfl Try.underlying26 info55 rfl (by decide) (by omega) v26 ([] ++ l0.take Ab.toNat) [(⟨(⟨Ad, Ae, Af, Ag⟩ : S51), (⟨Ah, Ai⟩ : S53)⟩ : S55)] _ _ _ (fun k_ => k_ ≠ Ac ∧ k_ ≠ Ap) (fun _ => False) rfl rfl HO.out (spec_l06Insert.row1 Al.out) (fun x cs h => by obtain rfl := k55_open h; exact k55_mkM _ _ _ x) (fun _ hk => hk.elim) (fun k_ hk => ⟨by have := blk_lt Aa.out; omega, by have := blk_lt Al.out; omega⟩) HB.out (below_size HB.out) (by simp only [List.nil_append, List.length_append, List.length_nil, List.length_cons, List.length_take, List.length_drop]; omega) ?_;intro v29 w1 ho hb hg hat;have Aj := asd (blk_grown Aa.out hg (Kd.R_away HO.out (fun _ h => h.1)));have Am := asd (blk_grown Al.out hg (Kd.R_away HO.out (fun _ h => h.2)));have Ak := Aside0.mk hb;have An := Aside0.mk ho;clear Aa HB ho hb hg hat Al HO;have Aa := Aj;have HB := Ak;have HO := An;have Al := Am;clear Am;clear Aj Ak An;refine hK.out _ _ ⟨bcl Aa 0, bcl Aa 1, bcl Aa 2, bcl Aa 3, bcl Aa 4, bcl Aa 5⟩ (fun hHeld => ?_);clear hK K;refine norm_ (a' := ?_) ?_ ?_;rotate_left
    ·show Act.put _ (some 29) _ = _
     simp only [Act.put, sA, sB, sC, i64_w, i32_w];rfl
    refine ro 11 (some 33) (bT 13 12) HT_ (fun K hK => ?_);refine Kd.R_append_rows_step k55 (Rr := k55.K _) (w0 := w) w.heap.size (by rfl) (.tmp 29) (.tmp 32) 26 55 (.agg #[(.int .i64 0), (.int .i64 0), (.int .i64 0), (.int .i64 0), (.int .i64 0), (.int .i64 0)]) 48 rfl Try.underlying26 info55 rfl (by decide) (by omega) v29 ([] ++ l0.take Ab.toNat ++ [(⟨(⟨Ad, Ae, Af, Ag⟩ : S51), (⟨Ah, Ai⟩ : S53)⟩ : S55)]) (l0.drop Ab.toNat) _ _ _ (fun k_ => k_ ≠ Ac ∧ k_ ≠ Ap) (fun _ => False) rfl rfl HO.out (rd_ _ HB.out) (fun x cs h => by obtain rfl := k55_open h; exact k55_mkM _ _ _ x) (fun _ hk => hk.elim) (fun k_ hk => ⟨by have := blk_lt Aa.out; omega, by have := blk_lt Al.out; omega⟩) HB.out (below_size HB.out) (by simp only [List.nil_append, List.length_append, List.length_nil, List.length_cons, List.length_take, List.length_drop]; omega) ?_;intro v33 w1 ho hb hg hat;have Aj := asd (blk_grown Aa.out hg (Kd.R_away HO.out (fun _ h => h.1)));have Am := asd (blk_grown Al.out hg (Kd.R_away HO.out (fun _ h => h.2)));have Ak := Aside0.mk hb;have An := Aside0.mk ho;clear Aa HB ho hb hg hat Al HO;have Aa := Aj;have HB := Ak;have HO := An;have Al := Am;clear Am;clear Aj Ak An;refine hK.out _ _ ⟨bcl Aa 0, bcl Aa 1, bcl Aa 2, bcl Aa 3, bcl Aa 4, bcl Aa 5⟩ (fun hHeld => ?_);clear hK K;refine norm_ (a' := ?_) ?_ ?_;rotate_left
    ·show Act.put _ (some 33) _ = _
     simp only [Act.put, sA, sB, sC, i64_w, i32_w];rfl
    refine pure_ (i := 12) (N := some 4) (v := ?_) (a' := ?_) (bT 13 13) rfl rfl (any_of HT_.out (by kernel_rfl)) (fun _ _ _ h => h) (Or.inl ⟨by rfl, ?_⟩) ?_ ?_;rotate_left
    ·intro w';go_simp; with_reducible rfl
    rotate_left
    ·simp only [Act.put, sA, sB, sC, i64_w, i32_w];rfl
    refine done_ (done_of HT_.out (by kernel_rfl)) ?_;try go_wp2
    all_goals (go_ret; obtain ⟨v2, he2, h2⟩ := fin _ _ (Kd.R_mono HO.out (fun _ _ => trivial)) HB.out; cases he2; exact ⟨_, rfl, h2⟩)
   ·intro K hK;refine spec_l06Insert.lit1 (by rfl) (N := 28) rfl (cs := #[.int .i64 Ad, .int .i64 Ae, .int .i64 Af, .int .i64 Ag, .int .i64 Ah, .int .i64 Ai]) (t := 55) (by first | (go_simp; done) | (go_simp; rfl)) ?_;intro Ap hg6 w1 hbox hb;have An := asd (Kd.R_below (Kd.R_mono (Kd.R_elderB HO.out Ap (Nat.le_of_eq hg6.symm)) (fun _ h => h) : Kd.R k55 55 _ w.heap.size (fun k_ => k_ ≠ Ac ∧ k_ ≠ Ap) _ _) hb);have Aj := asd (blk_below Aa.out hb);have Am := asd (below_step HB.out hb);have Ak := Aside0.mk hbox;have BB := asd (by have := blk_lt Aa.out; omega : Ac ≠ Ap);clear Aa HB hbox hb hg6 HO;have Aa := Aj;have HB := Am;have Al := Ak;have HO := An;clear An;clear Aj Am Ak;refine hK.out _ _ ⟨bcl Aa 0, bcl Aa 1, bcl Aa 2, bcl Aa 3, bcl Aa 4, bcl Aa 5⟩ (fun hHeld => ?_);clear hK K;refine norm_ (a' := ?_) ?_ ?_;rotate_left
    ·show Act.put _ (some 28) _ = _
     simp only [Act.put, sA, sB, sC, i64_w, i32_w];rfl
    refine ro 4 (some 26) (bs 13 1919) HT_ (fun K hK => ?_);refine Kd.R_append_rows_step k55 (Rr := k55.K _) (w0 := w) w.heap.size (by rfl) (.tmp 22) (.tmp 25) 26 55 (.agg #[(.int .i64 0), (.int .i64 0), (.int .i64 0), (.int .i64 0), (.int .i64 0), (.int .i64 0)]) 48 rfl Try.underlying26 info55 rfl (by decide) (by omega) v22 [] (l0.take Ab.toNat) _ _ _ (fun k_ => k_ ≠ Ac ∧ k_ ≠ Ap) (fun _ => False) rfl rfl HO.out (rt _ HB.out) (fun x cs h => by obtain rfl := k55_open h; exact k55_mkM _ _ _ x) (fun _ hk => hk.elim) (fun k_ hk => ⟨by have := blk_lt Aa.out; omega, by have := blk_lt Al.out; omega⟩) HB.out (below_size HB.out) (by simp only [List.nil_append, List.length_append, List.length_nil, List.length_cons, List.length_take, List.length_drop]; omega) ?_;intro v26 w1 ho hb hg hat;have Aj := asd (blk_grown Aa.out hg (Kd.R_away HO.out (fun _ h => h.1)));have Am := asd (blk_grown Al.out hg (Kd.R_away HO.out (fun _ h => h.2)));have Ak := Aside0.mk hb;have An := Aside0.mk ho;clear Aa HB ho hb hg hat Al HO;have Aa := Aj;have HB := Ak;have HO := An;have Al := Am;clear Am;clear Aj Ak An;refine hK.out _ _ ⟨bcl Aa 0, bcl Aa 1, bcl Aa 2, bcl Aa 3, bcl Aa 4, bcl Aa 5⟩ (fun hHeld => ?_);clear hK K;refine norm_ (a' := ?_) ?_ ?_;rotate_left
    ·show Act.put _ (some 26) _ = _
     simp only [Act.put, sA, sB, sC, i64_w, i32_w];rfl
    refine ro 7 (some 29) (bT 13 11) HT_ (fun K hK => ?_);refine Kd.R_append_rows_step k55 (Rr := k55.K _) (w0 := w) w.heap.size (by rfl) (.tmp 26) (.tmp 28) 26 55 (.agg #[(.int .i64 0), (.int .i64 0), (.int .i64 0), (.int .i64 0), (.int .i64 0), (.int .i64 0)]) 48 rfl Try.underlying26 info55 rfl (by decide) (by omega) v26 ([] ++ l0.take Ab.toNat) [(⟨(⟨Ad, Ae, Af, Ag⟩ : S51), (⟨Ah, Ai⟩ : S53)⟩ : S55)] _ _ _ (fun k_ => k_ ≠ Ac ∧ k_ ≠ Ap) (fun _ => False) rfl rfl HO.out (spec_l06Insert.row1 Al.out) (fun x cs h => by obtain rfl := k55_open h; exact k55_mkM _ _ _ x) (fun _ hk => hk.elim) (fun k_ hk => ⟨by have := blk_lt Aa.out; omega, by have := blk_lt Al.out; omega⟩) HB.out (below_size HB.out) (by simp only [List.nil_append, List.length_append, List.length_nil, List.length_cons, List.length_take, List.length_drop]; omega) ?_;intro v29 w1 ho hb hg hat;have Aj := asd (blk_grown Aa.out hg (Kd.R_away HO.out (fun _ h => h.1)));have Am := asd (blk_grown Al.out hg (Kd.R_away HO.out (fun _ h => h.2)));have Ak := Aside0.mk hb;have An := Aside0.mk ho;clear Aa HB ho hb hg hat Al HO;have Aa := Aj;have HB := Ak;have HO := An;have Al := Am;clear Am;clear Aj Ak An;refine hK.out _ _ ⟨bcl Aa 0, bcl Aa 1, bcl Aa 2, bcl Aa 3, bcl Aa 4, bcl Aa 5⟩ (fun hHeld => ?_);clear hK K;refine norm_ (a' := ?_) ?_ ?_;rotate_left
    ·show Act.put _ (some 29) _ = _
     simp only [Act.put, sA, sB, sC, i64_w, i32_w];rfl
    refine ro 11 (some 33) (bT 13 12) HT_ (fun K hK => ?_);refine Kd.R_append_rows_step k55 (Rr := k55.K _) (w0 := w) w.heap.size (by rfl) (.tmp 29) (.tmp 32) 26 55 (.agg #[(.int .i64 0), (.int .i64 0), (.int .i64 0), (.int .i64 0), (.int .i64 0), (.int .i64 0)]) 48 rfl Try.underlying26 info55 rfl (by decide) (by omega) v29 ([] ++ l0.take Ab.toNat ++ [(⟨(⟨Ad, Ae, Af, Ag⟩ : S51), (⟨Ah, Ai⟩ : S53)⟩ : S55)]) (l0.drop Ab.toNat) _ _ _ (fun k_ => k_ ≠ Ac ∧ k_ ≠ Ap) (fun _ => False) rfl rfl HO.out (rd_ _ HB.out) (fun x cs h => by obtain rfl := k55_open h; exact k55_mkM _ _ _ x) (fun _ hk => hk.elim) (fun k_ hk => ⟨by have := blk_lt Aa.out; omega, by have := blk_lt Al.out; omega⟩) HB.out (below_size HB.out) (by simp only [List.nil_append, List.length_append, List.length_nil, List.length_cons, List.length_take, List.length_drop]; omega) ?_;intro v33 w1 ho hb hg hat;have Aj := asd (blk_grown Aa.out hg (Kd.R_away HO.out (fun _ h => h.1)));have Am := asd (blk_grown Al.out hg (Kd.R_away HO.out (fun _ h => h.2)));have Ak := Aside0.mk hb;have An := Aside0.mk ho;clear Aa HB ho hb hg hat Al HO;have Aa := Aj;have HB := Ak;have HO := An;have Al := Am;clear Am;clear Aj Ak An;refine hK.out _ _ ⟨bcl Aa 0, bcl Aa 1, bcl Aa 2, bcl Aa 3, bcl Aa 4, bcl Aa 5⟩ (fun hHeld => ?_);clear hK K;refine norm_ (a' := ?_) ?_ ?_;rotate_left
    ·show Act.put _ (some 33) _ = _
     simp only [Act.put, sA, sB, sC, i64_w, i32_w];rfl
    refine pure_ (i := 12) (N := some 4) (v := ?_) (a' := ?_) (bT 13 13) rfl rfl (any_of HT_.out (by kernel_rfl)) (fun _ _ _ h => h) (Or.inl ⟨by rfl, ?_⟩) ?_ ?_;rotate_left
    ·intro w';go_simp; with_reducible rfl
    rotate_left
    ·simp only [Act.put, sA, sB, sC, i64_w, i32_w];rfl
    refine done_ (done_of HT_.out (by kernel_rfl)) ?_;try go_wp2
    all_goals (go_ret; obtain ⟨v2, he2, h2⟩ := fin _ _ (Kd.R_mono HO.out (fun _ _ => trivial)) HB.out; cases he2; exact ⟨_, rfl, h2⟩)
  ·intro K hK;refine spec_l06Insert.lit1 (by rfl) (N := 28) rfl (cs := #[.int .i64 Ad, .int .i64 Ae, .int .i64 Af, .int .i64 Ag, .int .i64 Ah, .int .i64 Ai]) (t := 55) (by first | (go_simp; done) | (go_simp; rfl)) ?_;intro Ap hg6 w1 hbox hb;have Aj := asd (blk_below Aa.out hb);have Am := asd (below_step HB.out hb);have Ak := Aside0.mk hbox;have BB := asd (by have := blk_lt Aa.out; omega : Ac ≠ Ap);clear Aa HB hbox hb hg6;have Aa := Aj;have HB := Am;have Al := Ak;clear Aj Am Ak;refine hK.out _ _ ⟨bcl Aa 0, bcl Aa 1, bcl Aa 2, bcl Aa 3, bcl Aa 4, bcl Aa 5⟩ (fun hHeld => ?_);clear hK K;refine norm_ (a' := ?_) ?_ ?_;rotate_left
   ·show Act.put _ (some 28) _ = _
    simp only [Act.put, sA, sB, sC, i64_w, i32_w];rfl
   refine ro 0 (some 22) (bs 13 1903) HT_ (fun K hK => ?_);refine Kd.R_lit_step k55 (w0 := w) w.heap.size 55 (by rfl) (N := 22) rfl (xs := ([] : List S55)) (inner := []) (ok := (fun k_ => k_ ≠ Ac ∧ k_ ≠ Ap)) (okp := fun _ => False) (by first | (go_simp; done) | (go_simp; rfl)) ⟨rfl, fun j p hp => by cases hp⟩ (fun _ h => h.elim) (by have h1 := blk_lt Aa.out; have h2 := blk_lt Al.out; exact ⟨Nat.ne_of_gt h1, Nat.ne_of_gt h2⟩) HB.out (below_size HB.out) (by decide) ?_;intro v22 w1 ho hb hg hat;have Aj := asd (blk_grown Aa.out hg (by simp));have Am := asd (blk_grown Al.out hg (by simp));have Ak := Aside0.mk hb;have An := Aside0.mk ho;clear Aa HB ho hb hg hat Al;have Aa := Aj;have HB := Ak;have HO := An;have Al := Am;clear Am;clear Aj Ak An;refine hK.out _ _ ⟨bcl Aa 0, bcl Aa 1, bcl Aa 2, bcl Aa 3, bcl Aa 4, bcl Aa 5⟩ (fun hHeld => ?_);clear hK K;refine norm_ (a' := ?_) ?_ ?_;rotate_left
   ·show Act.put _ (some 22) _ = _
    simp only [Act.put, sA, sB, sC, i64_w, i32_w];rfl
   refine ro 4 (some 26) (bs 13 1919) HT_ (fun K hK => ?_);refine Kd.R_append_rows_step k55 (Rr := k55.K _) (w0 := w) w.heap.size (by rfl) (.tmp 22) (.tmp 25) 26 55 (.agg #[(.int .i64 0), (.int .i64 0), (.int .i64 0), (.int .i64 0), (.int .i64 0), (.int .i64 0)]) 48 rfl Try.underlying26 info55 rfl (by decide) (by omega) v22 [] (l0.take Ab.toNat) _ _ _ (fun k_ => k_ ≠ Ac ∧ k_ ≠ Ap) (fun _ => False) rfl rfl HO.out (rt _ HB.out) (fun x cs h => by obtain rfl := k55_open h; exact k55_mkM _ _ _ x) (fun _ hk => hk.elim) (fun k_ hk => ⟨by have := blk_lt Aa.out; omega, by have := blk_lt Al.out; omega⟩) HB.out (below_size HB.out) (by simp only [List.nil_append, List.length_append, List.length_nil, List.length_cons, List.length_take, List.length_drop]; omega) ?_;intro v26 w1 ho hb hg hat;have Aj := asd (blk_grown Aa.out hg (Kd.R_away HO.out (fun _ h => h.1)));have Am := asd (blk_grown Al.out hg (Kd.R_away HO.out (fun _ h => h.2)));have Ak := Aside0.mk hb;have An := Aside0.mk ho;clear Aa HB ho hb hg hat Al HO;have Aa := Aj;have HB := Ak;have HO := An;have Al := Am;clear Am;clear Aj Ak An;refine hK.out _ _ ⟨bcl Aa 0, bcl Aa 1, bcl Aa 2, bcl Aa 3, bcl Aa 4, bcl Aa 5⟩ (fun hHeld => ?_);clear hK K;refine norm_ (a' := ?_) ?_ ?_;rotate_left
   ·show Act.put _ (some 26) _ = _
    simp only [Act.put, sA, sB, sC, i64_w, i32_w];rfl
   refine ro 7 (some 29) (bT 13 11) HT_ (fun K hK => ?_);refine Kd.R_append_rows_step k55 (Rr := k55.K _) (w0 := w) w.heap.size (by rfl) (.tmp 26) (.tmp 28) 26 55 (.agg #[(.int .i64 0), (.int .i64 0), (.int .i64 0), (.int .i64 0), (.int .i64 0), (.int .i64 0)]) 48 rfl Try.underlying26 info55 rfl (by decide) (by omega) v26 ([] ++ l0.take Ab.toNat) [(⟨(⟨Ad, Ae, Af, Ag⟩ : S51), (⟨Ah, Ai⟩ : S53)⟩ : S55)] _ _ _ (fun k_ => k_ ≠ Ac ∧ k_ ≠ Ap) (fun _ => False) rfl rfl HO.out (spec_l06Insert.row1 Al.out) (fun x cs h => by obtain rfl := k55_open h; exact k55_mkM _ _ _ x) (fun _ hk => hk.elim) (fun k_ hk => ⟨by have := blk_lt Aa.out; omega, by have := blk_lt Al.out; omega⟩) HB.out (below_size HB.out) (by simp only [List.nil_append, List.length_append, List.length_nil, List.length_cons, List.length_take, List.length_drop]; omega) ?_;intro v29 w1 ho hb hg hat;have Aj := asd (blk_grown Aa.out hg (Kd.R_away HO.out (fun _ h => h.1)));have Am := asd (blk_grown Al.out hg (Kd.R_away HO.out (fun _ h => h.2)));have Ak := Aside0.mk hb;have An := Aside0.mk ho;clear Aa HB ho hb hg hat Al HO;have Aa := Aj;have HB := Ak;have HO := An;have Al := Am;clear Am;clear Aj Ak An;refine hK.out _ _ ⟨bcl Aa 0, bcl Aa 1, bcl Aa 2, bcl Aa 3, bcl Aa 4, bcl Aa 5⟩ (fun hHeld => ?_);clear hK K;refine norm_ (a' := ?_) ?_ ?_;rotate_left
   ·show Act.put _ (some 29) _ = _
    simp only [Act.put, sA, sB, sC, i64_w, i32_w];rfl
   refine ro 11 (some 33) (bT 13 12) HT_ (fun K hK => ?_);refine Kd.R_append_rows_step k55 (Rr := k55.K _) (w0 := w) w.heap.size (by rfl) (.tmp 29) (.tmp 32) 26 55 (.agg #[(.int .i64 0), (.int .i64 0), (.int .i64 0), (.int .i64 0), (.int .i64 0), (.int .i64 0)]) 48 rfl Try.underlying26 info55 rfl (by decide) (by omega) v29 ([] ++ l0.take Ab.toNat ++ [(⟨(⟨Ad, Ae, Af, Ag⟩ : S51), (⟨Ah, Ai⟩ : S53)⟩ : S55)]) (l0.drop Ab.toNat) _ _ _ (fun k_ => k_ ≠ Ac ∧ k_ ≠ Ap) (fun _ => False) rfl rfl HO.out (rd_ _ HB.out) (fun x cs h => by obtain rfl := k55_open h; exact k55_mkM _ _ _ x) (fun _ hk => hk.elim) (fun k_ hk => ⟨by have := blk_lt Aa.out; omega, by have := blk_lt Al.out; omega⟩) HB.out (below_size HB.out) (by simp only [List.nil_append, List.length_append, List.length_nil, List.length_cons, List.length_take, List.length_drop]; omega) ?_;intro v33 w1 ho hb hg hat;have Aj := asd (blk_grown Aa.out hg (Kd.R_away HO.out (fun _ h => h.1)));have Am := asd (blk_grown Al.out hg (Kd.R_away HO.out (fun _ h => h.2)));have Ak := Aside0.mk hb;have An := Aside0.mk ho;clear Aa HB ho hb hg hat Al HO;have Aa := Aj;have HB := Ak;have HO := An;have Al := Am;clear Am;clear Aj Ak An;refine hK.out _ _ ⟨bcl Aa 0, bcl Aa 1, bcl Aa 2, bcl Aa 3, bcl Aa 4, bcl Aa 5⟩ (fun hHeld => ?_);clear hK K;refine norm_ (a' := ?_) ?_ ?_;rotate_left
   ·show Act.put _ (some 33) _ = _
    simp only [Act.put, sA, sB, sC, i64_w, i32_w];rfl
   refine pure_ (i := 12) (N := some 4) (v := ?_) (a' := ?_) (bT 13 13) rfl rfl (any_of HT_.out (by kernel_rfl)) (fun _ _ _ h => h) (Or.inl ⟨by rfl, ?_⟩) ?_ ?_;rotate_left
   ·intro w';go_simp; with_reducible rfl
   rotate_left
   ·simp only [Act.put, sA, sB, sC, i64_w, i32_w];rfl
   refine done_ (done_of HT_.out (by kernel_rfl)) ?_;try go_wp2
   all_goals (go_ret; obtain ⟨v2, he2, h2⟩ := fin _ _ (Kd.R_mono HO.out (fun _ _ => trivial)) HB.out; cases he2; exact ⟨_, rfl, h2⟩)
@[irreducible] def spec_l06Insert.pl (l : List S55) (x : S55) : Option Int := spec_l06Place.f 2000000 l x.f0.f0 x.f0.f1 x.f0.f2 x.f0.f3 x.f1.f0 x.f1.f1
@[irreducible] def spec_l06Insert.ok (l : List S55) (x : S55) : Bool := match spec_l06Insert.pl l x with | some t => decide (0 ≤ t ∧ t ≤ (l.length : Int)) | none => false
@[irreducible] def spec_l06Insert.ins (l : List S55) (x : S55) : List S55 := spec_l06Insert.at l x ((spec_l06Insert.pl l x).getD 0).toNat
theorem spec_l06Insert.ins_calls (l0 : List S55) (x : S55) (hl : l0.length < 2932031007402) (hk : spec_l06Insert.ok l0 x = true) (w : World) (base : Nat) (ok : Nat → Prop) (v : Value) (HR : Kd.R k55 55 w base ok v l0) (hbase : base ≤ w.heap.size) (hfresh : ∀ q, w.heap.size ≤ q → ok q) :
  Calls Try.prog 52 #[v, .agg #[.int .i64 x.f0.f0, .int .i64 x.f0.f1, .int .i64 x.f0.f2, .int .i64 x.f0.f3, .int .i64 x.f1.f0, .int .i64 x.f1.f1]] w fun e w' => ∃ v1, e = .returned v1 ∧ Kd.R k55 55 w' base ok v1 (spec_l06Insert.ins l0 x) ∧ Below w.heap.size w w' ∧ (v1.ownBlock = v.ownBlock ∨ ∃ b, v1.ownBlock = some b ∧ w.heap.size ≤ b) := by
 unfold spec_l06Insert.ok at hk
 unfold spec_l06Insert.ins
 cases e : spec_l06Insert.pl l0 x with
 | none => rw [e] at hk; exact Bool.noConfusion hk
 | some t =>
  rw [e] at hk;obtain ⟨h0, h1⟩ := of_decide_eq_true hk;have e' := e;unfold spec_l06Insert.pl at e';exact spec_l06Insert.calls 2000000 l0 _ _ _ _ _ _ t h0 (by omega) hl e' w base ok v HR hbase hfresh
section
variable {ops : Array Oper} {a : Act} {Q : Exit → Act → World → Prop}
theorem spec_l06Insert.step {oi : Oper} {K : Act → World → Prop} {w0 W : World} (base : Nat) (hw : Region.wanted oi (yielded ops a.tmps) = true) (s y : Operand) {ts : Array TypeId} (hop : oi.op = .call { callee := .value (.func 52), args := #[s, y], argTypes := ts }) (v : Value) (xs : List S55) (p : S55) (ok : Nat → Prop) (hs : a.eval s = v) (hy : a.eval y = .agg #[.int .i64 p.f0.f0, .int .i64 p.f0.f1, .int .i64 p.f0.f2, .int .i64 p.f0.f3, .int .i64 p.f1.f0, .int .i64 p.f1.f1])
  (hfresh : ∀ k, W.heap.size ≤ k → ok k) (HO : Kd.R k55 55 W base ok v xs) (HB : Below base w0 W) (hbase : base ≤ W.heap.size) (hl : xs.length < 2932031007402 ∧ spec_l06Insert.ok xs p = true)
  (h : ∀ v1 w1, Kd.R k55 55 w1 base ok v1 (spec_l06Insert.ins xs p) → Below base w0 w1 → W.grownBy w1 v.ownBlock → (v1.ownBlock = v.ownBlock ∨ ∃ b, v1.ownBlock = some b ∧ W.heap.size ≤ b) → K (a.put oi.dst v1) w1) :
  if Region.wanted oi (yielded ops a.tmps) = true then Oper.wp Try.prog oi a W K Q else K (a.put oi.dst undef) W := by
 refine goes_ Try.func52 (by kernel_rfl) rfl _ hw rfl hop (by simp only [List.map_toArray, List.map_cons, List.map_nil, hs, hy]; rfl) ?_
 refine (spec_l06Insert.ins_calls xs p hl.1 hl.2 W base ok v HO hbase hfresh).mono ?_
 rintro e w1 ⟨v1, rfl, h1, h2, h3⟩
 exact ⟨v1, rfl, h v1 w1 h1 (below_then HB hbase h2) ⟨h2.os, h2.tape, h2.output, h2.size, fun k hk _ => h2.block k hk⟩ h3⟩
theorem spec_l06Insert.event {rest : List Oper} {oi : Oper} {w0 W : World} (base : Nat) (N : Option Tmp) (hd : oi.dst = N) (hg : oi.guard = none) (s y : Operand) {ts : Array TypeId} (hop : oi.op = .call { callee := .value (.func 52), args := #[s, y], argTypes := ts }) (v : Value) (xs : List S55) (p : S55) (ok : Nat → Prop) (hs : a.eval s = v) (hy : a.eval y = .agg #[.int .i64 p.f0.f0, .int .i64 p.f0.f1, .int .i64 p.f0.f2, .int .i64 p.f0.f3, .int .i64 p.f1.f0, .int .i64 p.f1.f1])
  (hfresh : ∀ k, W.heap.size ≤ k → ok k) (HO : Kd.R k55 55 W base ok v xs) (HB : Below base w0 W) (hbase : base ≤ W.heap.size) (hl : xs.length < 2932031007402 ∧ spec_l06Insert.ok xs p = true)
  (h : ∀ v1 w1, Kd.R k55 55 w1 base ok v1 (spec_l06Insert.ins xs p) → Below base w0 w1 → W.grownBy w1 v.ownBlock → (v1.ownBlock = v.ownBlock ∨ ∃ b, v1.ownBlock = some b ∧ W.heap.size ≤ b) → wpList Try.prog ops Q rest (a.put N v1) w1) :
  wpList Try.prog ops Q (oi :: rest) a W := by
 refine goesL_ N hd hg Try.func52 (by kernel_rfl) rfl _ hop (by simp only [List.map_toArray, List.map_cons, List.map_nil, hs, hy]; rfl) ?_
 refine (spec_l06Insert.ins_calls xs p hl.1 hl.2 W base ok v HO hbase hfresh).mono ?_
 rintro e w1 ⟨v1, rfl, h1, h2, h3⟩
 exact ⟨v1, rfl, h v1 w1 h1 (below_then HB hbase h2) ⟨h2.os, h2.tape, h2.output, h2.size, fun k hk _ => h2.block k hk⟩ h3⟩
end
end Go.Proofs.Ytedmadofpdkekaa.PA
