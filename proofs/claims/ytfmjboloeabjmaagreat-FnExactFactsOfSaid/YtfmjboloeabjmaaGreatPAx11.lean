import Derived.Test.YtfmjboloeabjmaaGreatPAx0
import Derived.Test.YtfmjboloeabjmaaGreatPAx3
import Derived.Test.YtfmjboloeabjmaaGreatPAx5
import Derived.Test.YtfmjboloeabjmaaGreatPAx6
import Derived.Test.YtfmjboloeabjmaaGreatPAx9
import Derived.Test.YtfmjboloeabjmaaGreatPAx10
namespace Go.Proofs.YtfmjboloeabjmaaGreat.PA
open Go.RowKit Go.Proofs.YtfmjboloeabjmaaGreatW.PrintWords Go.Proofs.YtfmjboloeabjmaaGreatW.PrintLast Go.Proofs.YtfmjboloeabjmaaGreatW.PrintMore
attribute [local go_sem] max2_int min2_int max_two min_two max_three min_three max_four min_four   -- for this text's walks alone
set_option linter.unusedVariables false
set_option maxHeartbeats 8000000
set_option maxRecDepth 100000
set_option linter.unusedSimpArgs false
attribute [local go_sem high] eqA44
def spec_l11Invariant.l0 : Nat → Int → Int → Int → Int → Int → Int → Option (Int × Int)
 | 0, _, _, _, _, _, _ => none
 | k + 1, x9, A1, A2, A3, A5, A6 => (spec_l01Scale.f A5 A6 x9).bind fun A7 => ((spec_l03Has.f A1 A2 A3 A7.1 A7.2).bind fun BC => (if BC = true then (some (A7.1, A7.2)) else (spec_l11Invariant.l0 k (wrap64 (x9 + 1)) A1 A2 A3 A5 A6)))
def spec_l11Invariant.f (k : Nat) (Aw : Int) (Ax : Int) (Ay : Int) (As : Int) (At : Int) (Au : Int) (Av : Int) (a2 : Int) : Option (Int × Int) := (spec_l02Axis.f k (wrap64 (a2 * As)) (wrap64 (a2 * At)) (wrap64 (a2 * Au)) (wrap64 (a2 * Av))).bind fun AY => (spec_l11Invariant.l0 k 1 Aw Ax Ay AY.1 AY.2)
theorem spec_l11Invariant.calls (k : Nat) (Aw : Int) (Ax : Int) (Ay : Int) (As : Int) (At : Int) (Au : Int) (Av : Int) (a2 : Int) (r1 : Int) (r2 : Int) (w : World) (h : spec_l11Invariant.f k Aw Ax Ay As At Au Av a2 = some (r1, r2)) :
  Calls Tryz.prog 25 #[.agg #[.int .i64 Aw, .int .i64 Ax, .int .i64 Ay], .agg #[.int .i64 As, .int .i64 At, .int .i64 Au, .int .i64 Av], .int .i64 a2] w fun e w' => e = .returned (.agg #[.int .i64 r1, .int .i64 r2]) ∧ Below w.heap.size w w' := by
 have hu30 := Tryz.underlying30
 have hu42 := Tryz.underlying42
 have hu44 := Tryz.underlying44
 have HB := asd (Below.refl w.heap.size w)
 have H : ((spec_l02Axis.f k (wrap64 (a2 * As)) (wrap64 (a2 * At)) (wrap64 (a2 * Au)) (wrap64 (a2 * Av))).bind fun AY => (spec_l11Invariant.l0 k 1 Aw Ax Ay AY.1 AY.2)) = some (r1, r2) := h
 clear h
 obtain ⟨⟨Bb, Bc⟩, A4, H⟩ := ob H
 try dsimp only at H
 have H' := Aside0.mk H
 clear H
 go_enter Tryz.func25, Tryz.ntmps25
 go_wp2_with (first | ((with_reducible refine gd 3 rfl ?_); refine bx #[.int .i64 Aw, .int .i64 Ax, .int .i64 Ay] 30 ?_; intro A8 hg w5 Aa hb; have Ae := ngw0 hg HB; replace HB := bS0 HB hb; clear hb hg) | ((with_reducible refine gd 4 rfl ?_); refine bx #[.int .i64 As, .int .i64 At, .int .i64 Au, .int .i64 Av] 42 ?_; intro A9 hg w6 Ab hb; have Ag := ngw1 hg HB Ae; replace HB := bS1 HB Ae hb; have Az := nlt hg Aa; have AA := nsy (nlt hg Aa); replace Aa := bB Aa hb; clear hb hg) | ((with_reducible refine gd 6 rfl ?_); refine bx #[.int .i64 0, .int .i64 0] 44 ?_; intro AZ hg w7 Ac hb; have Ah := ngw2 hg HB Ae Ag; replace HB := bS2 HB Ae Ag hb; have AO := nlt hg Aa; have AP := nsy (nlt hg Aa); replace Aa := bB Aa hb; have AQ := nlt hg Ab; have AR := nsy (nlt hg Ab); replace Ab := bB Ab hb; clear hb hg; have Dh := AA.out; have Di := Az.out; have Dj := AQ.out; have Dk := AR.out; obtain ⟨Bi, Bj, Bk, Bl, Bm, Bn, Bo, Bp⟩ := bz4 Ab) | ((with_reducible refine gd 7 rfl ?_); refine bx #[.int .i64 0, .int .i64 0, .int .i64 0, .int .i64 0] 42 ?_; intro Ba hg Dl Ad hb; have Ai := ngw3 hg HB Ae Ag Ah; replace HB := bS3 HB Ae Ag Ah hb; have Ar := nlt hg Aa; have AB := nsy (nlt hg Aa); replace Aa := bB Aa hb; have AS := nlt hg Ab; have Bd := nsy (nlt hg Ab); replace Ab := bB Ab hb; have AC := nlt hg Ac; have AT := nsy (nlt hg Ac); replace Ac := bB Ac hb; clear hb hg; have Ci := AB.out; have Cj := Ar.out; have Ck := Bd.out; have Cl := AS.out; have Cm := AT.out; have Cn := AC.out; obtain ⟨Bq, Br, Bs, Bt, Bu, Bv, Bw, Bx⟩ := bz4 Ad) | ((with_reducible refine gate_callee (f := 54) rfl ?_); refine gl 29 Tryz.func54 #[.agg #[.int .i64 (wrap64 (a2 * As)), .int .i64 (wrap64 (a2 * At)), .int .i64 (wrap64 (a2 * Au)), .int .i64 (wrap64 (a2 * Av))]] ?_; (with_reducible refine (spec_l02Axis.calls _ _ _ _ _ _ _ _ A4.out).mono ?_); rintro e Dm ⟨rfl, hb⟩; refine ⟨_, rfl, ?_⟩; replace Aa := asd (blk_below (g := A8) (o := .cells #[.int .i64 Aw, .int .i64 Ax, .int .i64 Ay] 30 (0, 0)) (bq1 Aa Ar) hb); replace Ab := asd (blk_below (g := A9) (o := .cells #[.int .i64 As, .int .i64 At, .int .i64 Au, .int .i64 Av] 42 (0, 0)) (bq1 Ab AS) hb); replace Ac := asd (blk_below (g := AZ) (o := .cells #[.int .i64 0, .int .i64 0] 44 (0, 0)) (bq1 Ac AC) hb); replace Ad := asd (blk_below (g := Ba) (o := .cells #[.int .i64 (wrap64 (a2 * As)), .int .i64 (wrap64 (a2 * At)), .int .i64 (wrap64 (a2 * Au)), .int .i64 (wrap64 (a2 * Av))] 42 (0, 0)) (bq0 Ad) hb); replace HB := bS4 HB Ae Ag Ah Ai hb; (try clear hb)) | ((with_reducible refine gd 8 rfl ?_); refine bx #[.int .i64 0, .int .i64 0] 44 ?_; intro Bf hg Dn Af hb; have Aj := ngw4 hg HB Ae Ag Ah Ai; replace HB := bS4 HB Ae Ag Ah Ai hb; have AD := nlt hg Aa; have AU := nsy (nlt hg Aa); replace Aa := bB Aa hb; have AE := nlt hg Ab; have AV := nsy (nlt hg Ab); replace Ab := bB Ab hb; have AF := nlt hg Ac; have AW := nsy (nlt hg Ac); replace Ac := bB Ac hb; have AG := nlt hg Ad; have AX := nsy (nlt hg Ad); replace Ad := bB Ad hb; clear hb hg; have Co := AU.out; have Cp := AD.out; have Cq := AV.out; have Cr := AE.out; have Cs := AW.out; have Ct := AF.out; have Cu := AX.out; have Cv := AG.out; obtain ⟨By, Bz, BA, BB⟩ := bz2 Af))
 go_loopg [9] k (fun kq v9 w' => ∃ (Be : Int) (Ak : Int) (Al : Int), v9 = .int .i64 Be ∧ Aside0 (spec_l11Invariant.l0 kq Be Aw Ax Ay Bb Bc = some (r1, r2)) ∧ Aside0 (kq ≤ k) ∧ Aside0 (w'.heap[A8]? = some (.cells #[.int .i64 Aw, .int .i64 Ax, .int .i64 Ay] 30 (0, 0))) ∧ Aside0 (w'.heap[A9]? = some (.cells #[.int .i64 As, .int .i64 At, .int .i64 Au, .int .i64 Av] 42 (0, 0))) ∧ Aside0 (w'.heap[AZ]? = some (.cells #[.int .i64 Ak, .int .i64 Al] 44 (0, 0))) ∧ Aside0 (w'.heap[Ba]? = some (.cells #[.int .i64 (wrap64 (a2 * As)), .int .i64 (wrap64 (a2 * At)), .int .i64 (wrap64 (a2 * Au)), .int .i64 (wrap64 (a2 * Av))] 42 (0, 0))) ∧ Aside0 (w'.heap[Bf]? = some (.cells #[.int .i64 Bb, .int .i64 Bc] 44 (0, 0))) ∧ Aside0 (Below w.heap.size w w'))
 case atStart => exact ⟨(1), (0), (0), (by first | rfl | (simp; done) | (simp [*]; done)), H', ⟨Nat.le_refl _⟩, ⟨bq1 Aa AD⟩, ⟨bq1 Ab AE⟩, ⟨bq1 Ac AF⟩, ⟨bq1 Ad AG⟩, ⟨bq0 Af⟩, ⟨by repeat (first | (with_reducible first | exact HB.out | apply below_alloc | apply pw_below_drewN | apply below_drew1 | refine below_set ?_ Ae.out | refine below_set ?_ Ag.out | refine below_set ?_ Ah.out | refine below_set ?_ Ai.out | refine below_set ?_ Aj.out) | exact HB.out)⟩⟩
 case round =>
  clear H'
  try clear Bi
  try clear Bj
  try clear Bk
  try clear Bl
  try clear Bq
  try clear Br
  try clear Bs
  try clear Bt
  try clear By
  try clear Bz
  try clear Bm
  try clear Bn
  try clear Bo
  try clear Bp
  try clear Bu
  try clear Bv
  try clear Bw
  try clear Bx
  try clear BA
  try clear BB
  obtain ⟨Be, Ak, Al, rfl, HA, Cw, Aa, Ab, Ac, Ad, Af, HB⟩ := hrel
  cases gk with
  | zero => exact absurd HA.out (by simp [spec_l11Invariant.l0])
  | succ k1 =>
   have H := HA.out
   clear HA
   simp only [spec_l11Invariant.l0] at H
   obtain ⟨⟨Bg, Bh⟩, Cx, H⟩ := ob H
   try dsimp only at H
   obtain ⟨BC, Cy, H⟩ := ob H
   try dsimp only at H
   by_cases BE : BC = true
   subst BE
   replace H := ifT H
   rotate_left
   replace BE := Bool.eq_false_iff.mpr BE
   subst BE
   replace H := ifF H
   have H' := Aside0.mk H
   clear H
   rotate_left
   simp only [Option.some.injEq, Prod.mk.injEq] at H
   obtain ⟨rfl, rfl⟩ := H
   rotate_left 2
   all_goals
    have Cz := AU.out
    have CA := AD.out
    have CB := AV.out
    have CC := AE.out
    have CD := AW.out
    have CE := AF.out
    have CF := AX.out
    have CG := AG.out
    obtain ⟨BF, BG, BH, BI⟩ := bz2 Af
   ·go_wp2_with (first | ((with_reducible refine gate_callee (f := 55) rfl ?_); refine gl 34 Tryz.func55 #[.agg #[.int .i64 Bb, .int .i64 Bc], .int .i64 Be] ?_; (with_reducible refine (spec_l01Scale.calls _ _ _ _ _ _ Cx.out).mono ?_); rintro e Do ⟨rfl, hb⟩; refine ⟨_, rfl, ?_⟩; replace Aa := bB Aa hb; replace Ab := bB Ab hb; replace Ac := bB Ac hb; replace Ad := bB Ad hb; replace Af := bB Af hb; replace HB := asd (below_step (by repeat (first | (with_reducible first | exact HB.out | apply below_alloc | apply pw_below_drewN | apply below_drew1 | refine below_set ?_ Ae.out | refine below_set ?_ Ag.out | refine below_set ?_ Ah.out | refine below_set ?_ Ai.out | refine below_set ?_ Aj.out) | exact HB.out)) hb); (try clear hb)) | ((with_reducible refine gd 10 rfl ?_); refine bx #[.int .i64 0, .int .i64 0] 44 ?_; intro AN hg Dp AM hb; have BD := asd ((by rw [hg]; exact (below_size (by repeat (first | (with_reducible first | exact HB.out | apply below_alloc | apply pw_below_drewN | apply below_drew1 | refine below_set ?_ Ae.out | refine below_set ?_ Ag.out | refine below_set ?_ Ah.out | refine below_set ?_ Ai.out | refine below_set ?_ Aj.out) | exact HB.out))) : w.heap.size ≤ AN)); have A0 := asd ((by rw [hg]; exact (below_size (by repeat (first | (with_reducible first | exact HB.out | apply below_alloc | apply pw_below_drewN | apply below_drew1 | refine below_set ?_ Ae.out | refine below_set ?_ Ag.out | refine below_set ?_ Ah.out | refine below_set ?_ Ai.out | refine below_set ?_ Aj.out) | exact HB.out))) : w.heap.size ≤ AN)); replace HB := asd (below_step (by repeat (first | (with_reducible first | exact HB.out | apply below_alloc | apply pw_below_drewN | apply below_drew1 | refine below_set ?_ Ae.out | refine below_set ?_ Ag.out | refine below_set ?_ Ah.out | refine below_set ?_ Ai.out | refine below_set ?_ Aj.out) | exact HB.out)) hb); have Am := nlt hg Aa; have AH := nsy (nlt hg Aa); replace Aa := bB Aa hb; have An := nlt hg Ab; have AI := nsy (nlt hg Ab); replace Ab := bB Ab hb; have Ao := nlt hg Ac; have AJ := nsy (nlt hg Ac); replace Ac := bB Ac hb; have Ap := nlt hg Ad; have AK := nsy (nlt hg Ad); replace Ad := bB Ad hb; have Aq := nlt hg Af; have AL := nsy (nlt hg Af); replace Af := bB Af hb; clear hb hg; have CH := AH.out; have CI := Am.out; have CJ := AI.out; have CK := An.out; have CL := AJ.out; have CM := Ao.out; have CN := AK.out; have CO := Ap.out; have CP := AL.out; have CQ := Aq.out; obtain ⟨BJ, BK, BL, BM⟩ := bz2 AM; have CR := Az.out; have CS := AA.out; have CT := AO.out; have CU := AP.out; have CV := Ar.out; have CW := AB.out; obtain ⟨BN, BO, BP, BQ, BR, BS⟩ := bz3 Aa) | ((with_reducible refine gate_callee (f := 53) rfl ?_); refine gl 37 Tryz.func53 #[.agg #[.int .i64 Aw, .int .i64 Ax, .int .i64 Ay], .agg #[.int .i64 Bg, .int .i64 Bh]] ?_; (with_reducible refine (spec_l03Has.calls _ _ _ _ _ _ _ Cy.out).mono ?_); rintro e Dq ⟨rfl, hb⟩; refine ⟨_, rfl, ?_⟩; replace Aa := asd (blk_below (g := A8) (o := .cells #[.int .i64 Aw, .int .i64 Ax, .int .i64 Ay] 30 (0, 0)) (bq1 Aa Am) hb); replace Ab := asd (blk_below (g := A9) (o := .cells #[.int .i64 As, .int .i64 At, .int .i64 Au, .int .i64 Av] 42 (0, 0)) (bq1 Ab An) hb); replace Ac := asd (blk_below (g := AZ) (o := .cells #[.int .i64 Ak, .int .i64 Al] 44 (0, 0)) (bq1 Ac Ao) hb); replace Ad := asd (blk_below (g := Ba) (o := .cells #[.int .i64 (wrap64 (a2 * As)), .int .i64 (wrap64 (a2 * At)), .int .i64 (wrap64 (a2 * Au)), .int .i64 (wrap64 (a2 * Av))] 42 (0, 0)) (bq1 Ad Ap) hb); replace Af := asd (blk_below (g := Bf) (o := .cells #[.int .i64 Bb, .int .i64 Bc] 44 (0, 0)) (bq1 Af Aq) hb); replace AM := asd (blk_below (g := AN) (o := .cells #[.int .i64 Bg, .int .i64 Bh] 44 (0, 0)) (bq0 AM) hb); replace HB := asd (below_step (by repeat (first | (with_reducible first | exact HB.out | apply below_alloc | apply pw_below_drewN | apply below_drew1 | refine below_set ?_ Ae.out | refine below_set ?_ Ag.out | refine below_set ?_ Ah.out | refine below_set ?_ Ai.out | refine below_set ?_ Aj.out | refine below_set ?_ A0.out) | exact HB.out)) hb); (try clear hb); obtain ⟨BT, BU, BV, BW⟩ := bz2 AM; have CX := AR.out; have CY := AQ.out; have CZ := AC.out; have C0 := AT.out; obtain ⟨BX, BY, BZ, B0⟩ := bz2 Ac))
    refine bodyPost_ret (results_cell_row rfl _ _ AZ 44 #[.int .i64 Bg, .int .i64 Bh] (0, 0) _ rfl (bq0 Ac) Tryz.underlying44 rfl (by kernel_rfl)) rfl ?_
    exact ⟨by first | rfl | (simp [errW_none, errW_some] <;> rfl) | (simp [*, errW_none, errW_some] <;> rfl), by repeat (first | (with_reducible first | exact HB.out | apply below_alloc | apply pw_below_drewN | apply below_drew1 | refine below_set ?_ Ae.out | refine below_set ?_ Ag.out | refine below_set ?_ Ah.out | refine below_set ?_ Ai.out | refine below_set ?_ Aj.out | refine below_set ?_ A0.out) | exact HB.out)⟩
   ·go_wp2_with (first | ((with_reducible refine gate_callee (f := 55) rfl ?_); refine gl 34 Tryz.func55 #[.agg #[.int .i64 Bb, .int .i64 Bc], .int .i64 Be] ?_; (with_reducible refine (spec_l01Scale.calls _ _ _ _ _ _ Cx.out).mono ?_); rintro e Dr ⟨rfl, hb⟩; refine ⟨_, rfl, ?_⟩; replace Aa := bB Aa hb; replace Ab := bB Ab hb; replace Ac := bB Ac hb; replace Ad := bB Ad hb; replace Af := bB Af hb; replace HB := asd (below_step (by repeat (first | (with_reducible first | exact HB.out | apply below_alloc | apply pw_below_drewN | apply below_drew1 | refine below_set ?_ Ae.out | refine below_set ?_ Ag.out | refine below_set ?_ Ah.out | refine below_set ?_ Ai.out | refine below_set ?_ Aj.out) | exact HB.out)) hb); (try clear hb)) | ((with_reducible refine gd 10 rfl ?_); refine bx #[.int .i64 0, .int .i64 0] 44 ?_; intro AN hg Ds AM hb; have BD := asd ((by rw [hg]; exact (below_size (by repeat (first | (with_reducible first | exact HB.out | apply below_alloc | apply pw_below_drewN | apply below_drew1 | refine below_set ?_ Ae.out | refine below_set ?_ Ag.out | refine below_set ?_ Ah.out | refine below_set ?_ Ai.out | refine below_set ?_ Aj.out) | exact HB.out))) : w.heap.size ≤ AN)); have A0 := asd ((by rw [hg]; exact (below_size (by repeat (first | (with_reducible first | exact HB.out | apply below_alloc | apply pw_below_drewN | apply below_drew1 | refine below_set ?_ Ae.out | refine below_set ?_ Ag.out | refine below_set ?_ Ah.out | refine below_set ?_ Ai.out | refine below_set ?_ Aj.out) | exact HB.out))) : w.heap.size ≤ AN)); replace HB := asd (below_step (by repeat (first | (with_reducible first | exact HB.out | apply below_alloc | apply pw_below_drewN | apply below_drew1 | refine below_set ?_ Ae.out | refine below_set ?_ Ag.out | refine below_set ?_ Ah.out | refine below_set ?_ Ai.out | refine below_set ?_ Aj.out) | exact HB.out)) hb); have Am := nlt hg Aa; have AH := nsy (nlt hg Aa); replace Aa := bB Aa hb; have An := nlt hg Ab; have AI := nsy (nlt hg Ab); replace Ab := bB Ab hb; have Ao := nlt hg Ac; have AJ := nsy (nlt hg Ac); replace Ac := bB Ac hb; have Ap := nlt hg Ad; have AK := nsy (nlt hg Ad); replace Ad := bB Ad hb; have Aq := nlt hg Af; have AL := nsy (nlt hg Af); replace Af := bB Af hb; clear hb hg; have C1 := AH.out; have C2 := Am.out; have C3 := AI.out; have C4 := An.out; have C5 := AJ.out; have C6 := Ao.out; have C7 := AK.out; have C8 := Ap.out; have C9 := AL.out; have Da := Aq.out; obtain ⟨B3, B8, Ca, Cb⟩ := bz2 AM; have Db := Az.out; have Dc := AA.out; have Dd := AO.out; have De := AP.out; have Df := Ar.out; have Dg := AB.out; obtain ⟨Cc, Cd, Ce, Cf, Cg, Ch⟩ := bz3 Aa) | ((with_reducible refine gate_callee (f := 53) rfl ?_); refine gl 37 Tryz.func53 #[.agg #[.int .i64 Aw, .int .i64 Ax, .int .i64 Ay], .agg #[.int .i64 Bg, .int .i64 Bh]] ?_; (with_reducible refine (spec_l03Has.calls _ _ _ _ _ _ _ Cy.out).mono ?_); rintro e Dt ⟨rfl, hb⟩; refine ⟨_, rfl, ?_⟩; replace Aa := asd (blk_below (g := A8) (o := .cells #[.int .i64 Aw, .int .i64 Ax, .int .i64 Ay] 30 (0, 0)) (bq1 Aa Am) hb); replace Ab := asd (blk_below (g := A9) (o := .cells #[.int .i64 As, .int .i64 At, .int .i64 Au, .int .i64 Av] 42 (0, 0)) (bq1 Ab An) hb); replace Ac := asd (blk_below (g := AZ) (o := .cells #[.int .i64 Ak, .int .i64 Al] 44 (0, 0)) (bq1 Ac Ao) hb); replace Ad := asd (blk_below (g := Ba) (o := .cells #[.int .i64 (wrap64 (a2 * As)), .int .i64 (wrap64 (a2 * At)), .int .i64 (wrap64 (a2 * Au)), .int .i64 (wrap64 (a2 * Av))] 42 (0, 0)) (bq1 Ad Ap) hb); replace Af := asd (blk_below (g := Bf) (o := .cells #[.int .i64 Bb, .int .i64 Bc] 44 (0, 0)) (bq1 Af Aq) hb); replace AM := asd (blk_below (g := AN) (o := .cells #[.int .i64 Bg, .int .i64 Bh] 44 (0, 0)) (bq0 AM) hb); replace HB := asd (below_step (by repeat (first | (with_reducible first | exact HB.out | apply below_alloc | apply pw_below_drewN | apply below_drew1 | refine below_set ?_ Ae.out | refine below_set ?_ Ag.out | refine below_set ?_ Ah.out | refine below_set ?_ Ai.out | refine below_set ?_ Aj.out | refine below_set ?_ A0.out) | exact HB.out)) hb); (try clear hb)))
    go_roundg k1
    case measure => have := Cw.out; omega
    case rel => exact ⟨(wrap64 (Be + 1)), (Ak), (Al), (by first | rfl | (simp; done) | (simp [*]; done)), H', ⟨by have := Cw.out; omega⟩, ⟨bkp Aa⟩, ⟨bkp Ab⟩, ⟨bkp Ac⟩, ⟨bkp Ad⟩, ⟨bkp Af⟩, ⟨by repeat (first | (with_reducible first | exact HB.out | apply below_alloc | apply pw_below_drewN | apply below_drew1 | refine below_set ?_ Ae.out | refine below_set ?_ Ag.out | refine below_set ?_ Ah.out | refine below_set ?_ Ai.out | refine below_set ?_ Aj.out | refine below_set ?_ A0.out) | exact HB.out)⟩⟩
def spec_l01Det.f (Ab : Int) (Ac : Int) (Ad : Int) (Ae : Int) : Option (Int) := some (wrap64 ((wrap64 (Ab * Ae)) - (wrap64 (Ac * Ad))))
theorem spec_l01Det.calls (Ab : Int) (Ac : Int) (Ad : Int) (Ae : Int) (r : Int) (w : World) (h : spec_l01Det.f Ab Ac Ad Ae = some r) :
  Calls Tryz.prog 59 #[.agg #[.int .i64 Ab, .int .i64 Ac], .agg #[.int .i64 Ad, .int .i64 Ae]] w fun e w' => e = .returned (.int .i64 r) ∧ Below w.heap.size w w' := by
 have hu44 := Tryz.underlying44
 have HB := asd (Below.refl w.heap.size w)
 have H : (some (wrap64 ((wrap64 (Ab * Ae)) - (wrap64 (Ac * Ad))))) = some r := h
 clear h
 obtain rfl := Option.some.inj H
 go_enter Tryz.func59, Tryz.ntmps59
 go_wp2_with (first | ((with_reducible refine gd 2 rfl ?_); refine bx #[.int .i64 Ab, .int .i64 Ac] 44 ?_; intro As hg w3 Aa hb; have Ah := ngw0 hg HB; replace HB := bS0 HB hb; clear hb hg) | ((with_reducible refine gd 3 rfl ?_); refine bx #[.int .i64 Ad, .int .i64 Ae] 44 ?_; intro At hg w4 Ai hb; have Aj := ngw1 hg HB Ah; replace HB := bS1 HB Ah hb; have Af := nlt hg Aa; have Ag := nsy (nlt hg Aa); replace Aa := bB Aa hb; clear hb hg; have Au := Af.out; have Av := Ag.out; obtain ⟨Ak, Al, Am, An⟩ := bz2 Aa; obtain ⟨Ao, Ap, Aq, Ar⟩ := bz2 Ai))
 go_ret
 exact er (bbw2 HB Ah Aj)
def spec_l11Centred.f (k : Nat) (Ac : Int) (Af : Int) (Ad : Int) (Ag : Int) (Ah : Int) (Ai : Int) (Aj : Int) : Option (Bool) := (spec_l11Invariant.f k Ac Af Ad Ag Ah Ai Aj 1).bind fun Al => ((spec_l11Invariant.f k Ac Af Ad Ag Ah Ai Aj (-1)).bind fun Am => ((spec_l01Det.f Al.1 Al.2 Am.1 Am.2).bind fun Ae => (some ((mx Ae (wrap64 (-Ae))) != (wrap64 (Ac * Ad))))))
def spec_l11Centred.T1 : Bool × List (List Nat × List Nat) := (true, [([], []), ([], []), ([0, 1], [0, 1]), ([], []), ([], []), ([3, 4, 2], [3, 4]), ([2, 5, 5], [2, 5]), ([6, 6, 0, 1, 2, 3, 4, 5, 6], [6])])
def spec_l11Centred.B1 : List Nat := [0, 0, 3, 0, 0, 31, 63, 127]
theorem spec_l11Centred.tab1 : rtab .any (opsOf Tryz.f27 1) = spec_l11Centred.T1 := by kernel_rfl
theorem spec_l11Centred.bits1 : waitsOk spec_l11Centred.T1.2 spec_l11Centred.B1 = true := by kernel_rfl
theorem spec_l11Centred.calls (k : Nat) (Ac : Int) (Af : Int) (Ad : Int) (Ag : Int) (Ah : Int) (Ai : Int) (Aj : Int) (r : Bool) (w : World) (h : spec_l11Centred.f k Ac Af Ad Ag Ah Ai Aj = some r) :
  Calls Tryz.prog 27 #[.agg #[.int .i64 Ac, .int .i64 Af, .int .i64 Ad], .agg #[.int .i64 Ag, .int .i64 Ah, .int .i64 Ai, .int .i64 Aj]] w fun e w' => e = .returned (.bool r) ∧ Below w.heap.size w w' := by
 have hu30 := Tryz.underlying30
 have hu42 := Tryz.underlying42
 have HB := asd (Below.refl w.heap.size w)
 have H : ((spec_l11Invariant.f k Ac Af Ad Ag Ah Ai Aj 1).bind fun Al => ((spec_l11Invariant.f k Ac Af Ad Ag Ah Ai Aj (-1)).bind fun Am => ((spec_l01Det.f Al.1 Al.2 Am.1 Am.2).bind fun Ae => (some ((mx Ae (wrap64 (-Ae))) != (wrap64 (Ac * Ad))))))) = some r := h
 clear h
 obtain ⟨⟨Ax, Ay⟩, A3, H⟩ := ob H
 try dsimp only at H
 obtain ⟨⟨Az, AA⟩, A4, H⟩ := ob H
 try dsimp only at H
 obtain ⟨Ae, A5, H⟩ := ob H
 try dsimp only at H
 obtain ⟨AB, An⟩ : ∃ j_ : Int, (mx Ae (wrap64 (-Ae))) = j_ := ⟨_, rfl⟩
 replace H : (some ((AB) != (wrap64 (Ac * Ad)))) = some r := by first | (rw [An] at H; first | done | exact H) | (simp only [An] at H ⊢; exact H)
 (try rw [An] at A3)
 (try rw [An] at A4)
 (try rw [An] at A5)
 have AC : (if Ae < (wrap64 (-Ae)) then (wrap64 (-Ae)) else Ae) = AB := An
 obtain rfl := Option.some.inj H
 go_enter Tryz.func27, Tryz.ntmps27
 try go_wp2_with (first | ((with_reducible refine gd 2 rfl ?_); refine bx #[.int .i64 Ac, .int .i64 Af, .int .i64 Ad] 30 ?_; intro AD hg w7 Aa hb; have Ak := ngw0 hg HB; replace HB := bS0 HB hb; clear hb hg) | ((with_reducible refine gd 3 rfl ?_); refine bx #[.int .i64 Ag, .int .i64 Ah, .int .i64 Ai, .int .i64 Aj] 42 ?_; intro AE hg w8 Ab hb; have Ao := ngw1 hg HB Ak; replace HB := bS1 HB Ak hb; have Ap := nlt hg Aa; have Aq := nsy (nlt hg Aa); replace Aa := bB Aa hb; clear hb hg))
 replace Aa := asd (blk_drew Aa.out)
 replace Ab := asd (blk_drew Ab.out)
 replace HB := asd (below_drew1 HB.out)
 refine sh 8 (cb3 Aa (eb4 Ab)) (fun hHeld => ?_); refine with_tabW spec_l11Centred.tab1 spec_l11Centred.bits1 (fun HT_ HW_ => ?_)
 generalize w8.drew = w9 at Aa Ab HB hHeld ⊢
 refine ta 0 (some 6) (bT 8 1) HT_ HW_ hHeld ?_
 refine ta 1 (some 7) (bT 8 2) HT_ HW_ hHeld ?_
 refine ta 3 (some 9) (bs 8 11) HT_ HW_ hHeld ?_
 refine ta 4 (some 10) (bs 8 27) HT_ HW_ hHeld ?_
 refine ro 2 (some 8) (bT 8 5) HT_ (fun K hK => ?_)
 refine gs Tryz.func25 #[.agg #[.int .i64 Ac, .int .i64 Af, .int .i64 Ad], .agg #[.int .i64 Ag, .int .i64 Ah, .int .i64 Ai, .int .i64 Aj], .int .i64 1] ?_
 with_reducible refine (spec_l11Invariant.calls _ _ _ _ _ _ _ _ _ _ _ _ A3.out).mono ?_
 rintro e AH ⟨rfl, hb⟩
 refine ⟨_, rfl, ?_⟩
 replace Aa := bB Aa hb
 replace Ab := bB Ab hb
 replace HB := bS2 HB Ak Ao hb
 (try clear hb)
 (try clear hb2)
 (try clear hk)
 (try clear hi)
 refine hK.out _ _ (cb3 Aa (eb4 Ab)).out (fun hHeld => ?_)
 clear hK K
 refine norm_ (a' := ?_) ?_ ?_
 rotate_left
 ·show Act.put _ (some 8) _ = _
  simp only [Act.put, sA, sB, sC, i64_w, i32_w]
  rfl
 refine ro 5 (some 11) (bT 8 6) HT_ (fun K hK => ?_)
 refine gs Tryz.func25 #[.agg #[.int .i64 Ac, .int .i64 Af, .int .i64 Ad], .agg #[.int .i64 Ag, .int .i64 Ah, .int .i64 Ai, .int .i64 Aj], .int .i64 (-1)] ?_
 with_reducible refine (spec_l11Invariant.calls _ _ _ _ _ _ _ _ _ _ _ _ A4.out).mono ?_
 rintro e AI ⟨rfl, hb⟩
 refine ⟨_, rfl, ?_⟩
 replace Aa := bB Aa hb
 replace Ab := bB Ab hb
 replace HB := bS2 HB Ak Ao hb
 (try clear hb)
 (try clear hb2)
 (try clear hk)
 (try clear hi)
 refine hK.out _ _ (cb3 Aa (eb4 Ab)).out (fun hHeld => ?_)
 clear hK K
 refine norm_ (a' := ?_) ?_ ?_
 rotate_left
 ·show Act.put _ (some 11) _ = _
  simp only [Act.put, sA, sB, sC, i64_w, i32_w]
  rfl
 refine ro 6 (some 12) (bT 8 7) HT_ (fun K hK => ?_)
 refine gs Tryz.func59 #[.agg #[.int .i64 Ax, .int .i64 Ay], .agg #[.int .i64 Az, .int .i64 AA]] ?_
 with_reducible refine (spec_l01Det.calls _ _ _ _ _ _ A5.out).mono ?_
 rintro e w12 ⟨rfl, hb⟩
 refine ⟨_, rfl, ?_⟩
 replace Aa := bB Aa hb
 replace Ab := bB Ab hb
 replace HB := bS2 HB Ak Ao hb
 (try clear hb)
 (try clear hb2)
 (try clear hk)
 (try clear hi)
 refine hK.out _ _ (cb3 Aa (eb4 Ab)).out (fun hHeld => ?_)
 clear hK K
 refine norm_ (a' := ?_) ?_ ?_
 rotate_left
 ·show Act.put _ (some 12) _ = _
  simp only [Act.put, sA, sB, sC, i64_w, i32_w]
  rfl
 refine pu 7 (some 5) (bT 8 8) HT_ ?_
 refine done_ (done_of HT_.out (by kernel_rfl)) ?_
 have AF := Ap.out
 have AG := Aq.out
 obtain ⟨Ar, As, At, Au, Av, Aw⟩ := bz3 Aa
 try go_wp2
 go_ret
 exact ⟨by first | rfl | (simp [errW_none, errW_some] <;> rfl) | (simp only [← An]; first | rfl | (simp [errW_none, errW_some] <;> rfl)) | (simp [*, errW_none, errW_some] <;> rfl), bbw2 HB Ak Ao⟩
def spec_l05Twice.f (Aj : Int) (Ak : Int) (Al : Int) (Am : Int) (Ad : Int) (Ae : Int) : Option (Int × Int) := (spec_l02Apply.f Aj Ak Al Am Ad Ae).bind fun Ag => ((spec_l01Add.f Ag.1 Ag.2 Ad Ae).bind fun Ah => (some (Ah.1, Ah.2)))
def spec_l05Twice.T1 : Bool × List (List Nat × List Nat) := (true, [([], []), ([0], [0]), ([], []), ([2], [2]), ([1, 3], [1, 3]), ([], []), ([5], [5]), ([4, 6, 4], [4, 6]), ([7, 7, 0, 1, 2, 3, 4, 5, 6, 7], [7])])
def spec_l05Twice.B1 : List Nat := [0, 1, 0, 4, 15, 0, 32, 127, 255]
theorem spec_l05Twice.tab1 : rtab .any (opsOf Tryz.f56 1) = spec_l05Twice.T1 := by kernel_rfl
theorem spec_l05Twice.bits1 : waitsOk spec_l05Twice.T1.2 spec_l05Twice.B1 = true := by kernel_rfl
theorem spec_l05Twice.calls (Aj : Int) (Ak : Int) (Al : Int) (Am : Int) (Ad : Int) (Ae : Int) (r1 : Int) (r2 : Int) (w : World) (h : spec_l05Twice.f Aj Ak Al Am Ad Ae = some (r1, r2)) :
  Calls Tryz.prog 56 #[.agg #[.int .i64 Aj, .int .i64 Ak, .int .i64 Al, .int .i64 Am, .int .i64 Ad, .int .i64 Ae]] w fun e w' => e = .returned (.agg #[.int .i64 r1, .int .i64 r2]) ∧ Below w.heap.size w w' := by
 have hu46 := Tryz.underlying46
 have hu44 := Tryz.underlying44
 have hu42 := Tryz.underlying42
 have HB := asd (Below.refl w.heap.size w)
 have H : ((spec_l02Apply.f Aj Ak Al Am Ad Ae).bind fun Ag => ((spec_l01Add.f Ag.1 Ag.2 Ad Ae).bind fun Ah => (some (Ah.1, Ah.2)))) = some (r1, r2) := h
 clear h
 obtain ⟨⟨Ar, As⟩, A2, H⟩ := ob H
 try dsimp only at H
 obtain ⟨⟨At, Au⟩, A3, H⟩ := ob H
 try dsimp only at H
 simp only [Option.some.injEq, Prod.mk.injEq] at H
 obtain ⟨rfl, rfl⟩ := H
 go_enter Tryz.func56, Tryz.ntmps56
 try go_wp2_with (first | ((with_reducible refine gd 1 rfl ?_); refine bx #[.int .i64 Aj, .int .i64 Ak, .int .i64 Al, .int .i64 Am, .int .i64 Ad, .int .i64 Ae] 46 ?_; intro Ax hg w4 Ab hb; have Ai := ngw0 hg HB; replace HB := bS0 HB hb; clear hb hg) | ((with_reducible refine gd 2 rfl ?_); refine bx #[.int .i64 0, .int .i64 0] 44 ?_; intro An hg w5 Ac hb; have Ao := ngw1 hg HB Ai; replace HB := bS1 HB Ai hb; have Aa := nlt hg Ab; have Af := nsy (nlt hg Ab); replace Ab := bB Ab hb; clear hb hg))
 replace Ab := asd (blk_drew Ab.out)
 replace Ac := asd (blk_drew Ac.out)
 replace HB := asd (below_drew1 HB.out)
 refine sh 9 (eb6 Ab) (fun hHeld => ?_); refine with_tabW spec_l05Twice.tab1 spec_l05Twice.bits1 (fun HT_ HW_ => ?_)
 generalize w5.drew = w6 at Ab Ac HB hHeld ⊢
 refine pu 0 (some 3) (bT 9 1) HT_ ?_
 refine pu 2 (some 5) (bs 9 5) HT_ ?_
 refine pu 5 (some 8) (bs 9 37) HT_ ?_
 refine ta 1 (some 4) (bs 9 39) HT_ HW_ hHeld ?_
 refine ta 3 (some 6) (bs 9 47) HT_ HW_ hHeld ?_
 refine ta 6 (some 9) (bs 9 111) HT_ HW_ hHeld ?_
 refine ro 4 (some 7) (bT 9 7) HT_ (fun K hK => ?_)
 refine gs Tryz.func87 #[.agg #[.int .i64 Aj, .int .i64 Ak, .int .i64 Al, .int .i64 Am], .agg #[.int .i64 Ad, .int .i64 Ae]] ?_
 with_reducible refine (spec_l02Apply.calls _ _ _ _ _ _ _ _ _ A2.out).mono ?_
 rintro e w7 ⟨rfl, hb⟩
 refine ⟨_, rfl, ?_⟩
 replace Ab := bB Ab hb
 replace Ac := bB Ac hb
 replace HB := bS2 HB Ai Ao hb
 (try clear hb)
 (try clear hb2)
 (try clear hk)
 (try clear hi)
 refine hK.out _ _ (eb6 Ab).out (fun hHeld => ?_)
 clear hK K
 refine norm_ (a' := ?_) ?_ ?_
 rotate_left
 ·show Act.put _ (some 7) _ = _
  simp only [Act.put, sA, sB, sC, i64_w, i32_w]
  rfl
 refine ro 7 (some 10) (bT 9 8) HT_ (fun K hK => ?_)
 refine gs Tryz.func86 #[.agg #[.int .i64 Ar, .int .i64 As], .agg #[.int .i64 Ad, .int .i64 Ae]] ?_
 with_reducible refine (spec_l01Add.calls _ _ _ _ _ _ _ A3.out).mono ?_
 rintro e w8 ⟨rfl, hb⟩
 refine ⟨_, rfl, ?_⟩
 replace Ab := bB Ab hb
 replace Ac := bB Ac hb
 replace HB := bS2 HB Ai Ao hb
 (try clear hb)
 (try clear hb2)
 (try clear hk)
 (try clear hi)
 refine hK.out _ _ (eb6 Ab).out (fun hHeld => ?_)
 clear hK K
 refine norm_ (a' := ?_) ?_ ?_
 rotate_left
 ·show Act.put _ (some 10) _ = _
  simp only [Act.put, sA, sB, sC, i64_w, i32_w]
  rfl
 refine ro 8 (none) (bT 9 9) HT_ (fun K hK => ?_)
 have hs9 : w8.cell? ⟨An, 0, none⟩ = some (.int .i64 0) := bcl Ac 0
 have hfs9 := blk_frozen Ac.out 0
 have Av := Aa.out
 have Aw := Af.out
 have hs10 : w8.cell? ⟨An, 1, none⟩ = some (.int .i64 0) := bcl Ac 1
 have hfs10 := blk_frozen Ac.out 1
 have Ap := Aa.out
 have Aq := Af.out
 refine skip_ (w1 := ?_) (by rfl) rfl ?_ ?_
 rotate_left
 ·go_simp
  rfl
 refine hK.out _ _ ⟨(cf2 Aa (hHeld.1)), (cf2 Aa (hHeld.2.1)), (cf2 Aa (hHeld.2.2.1)), (cf2 Aa (hHeld.2.2.2.1)), (cf2 Aa (hHeld.2.2.2.2.1)), (cf2 Aa (hHeld.2.2.2.2.2))⟩ (fun hHeld => ?_)
 clear hK K
 refine done_ (done_of HT_.out (by kernel_rfl)) ?_
 try go_wp2
 refine bodyPost_ret (results_cell_row rfl _ _ An 44 #[.int .i64 At, .int .i64 Au] (0, 0) _ rfl (bq0 Ac) Tryz.underlying44 rfl (by kernel_rfl)) rfl ?_
 exact er (bbw2 HB Ai Ao)
def spec_l11Reflects.j0 : Nat → Int → Int → Int → Int → Int → Int → Int → Int → Option (Bool)
 | 0, _, _, _, _, _, _, _, _ => none
 | k + 1, AL, AM, AN, AO, AP, AQ, AR, AS => (spec_l05Twice.f AL AM AN AO AP AQ).bind fun BB => ((spec_l01Divisor.f k AR AS).bind fun BC => ((spec_l01Divisor.f k BB.1 BB.2).bind fun BD => ((spec_l01Mod.f BD BC).bind fun BM => (some (BM == 0)))))
def spec_l11Reflects.f (k : Nat) (Ap : Int) (Aq : Int) (Ar : Int) (Aj : Int) (Ak : Int) (Al : Int) (Am : Int) (As : Int) (At : Int) : Option (Bool) := (spec_l11Invariant.f k Ap Aq Ar Aj Ak Al Am 1).bind fun Ao => ((spec_l11Centred.f k Ap Aq Ar Aj Ak Al Am).bind fun AG => (if AG = true then (spec_l11Reflects.j0 k Aj Ak Al Am As At Ao.1 Ao.2) else ((spec_l01Scale.f Ao.1 Ao.2 2).bind fun AC => (spec_l11Reflects.j0 k Aj Ak Al Am As At AC.1 AC.2))))
theorem spec_l11Reflects.calls (k : Nat) (Ap : Int) (Aq : Int) (Ar : Int) (Aj : Int) (Ak : Int) (Al : Int) (Am : Int) (As : Int) (At : Int) (r : Bool) (w : World) (h : spec_l11Reflects.f k Ap Aq Ar Aj Ak Al Am As At = some r) :
  Calls Tryz.prog 26 #[.agg #[.int .i64 Ap, .int .i64 Aq, .int .i64 Ar], .agg #[.int .i64 Aj, .int .i64 Ak, .int .i64 Al, .int .i64 Am, .int .i64 As, .int .i64 At]] w fun e w' => e = .returned (.bool r) ∧ Below w.heap.size w w' := by
 have hu30 := Tryz.underlying30
 have hu46 := Tryz.underlying46
 have hu42 := Tryz.underlying42
 have hu44 := Tryz.underlying44
 have HB := asd (Below.refl w.heap.size w)
 have H : ((spec_l11Invariant.f k Ap Aq Ar Aj Ak Al Am 1).bind fun Ao => ((spec_l11Centred.f k Ap Aq Ar Aj Ak Al Am).bind fun AG => (if AG = true then (spec_l11Reflects.j0 k Aj Ak Al Am As At Ao.1 Ao.2) else ((spec_l01Scale.f Ao.1 Ao.2 2).bind fun AC => (spec_l11Reflects.j0 k Aj Ak Al Am As At AC.1 AC.2))))) = some r := h
 clear h
 obtain ⟨⟨BE, BF⟩, A3, H⟩ := ob H
 try dsimp only at H
 obtain ⟨AG, A4, H⟩ := ob H
 try dsimp only at H
 have Cm := Aside0.mk H
 clear H
 go_enter Tryz.func26, Tryz.ntmps26
 go_upto_if 16 with (first | ((with_reducible refine gd 2 rfl ?_); refine bx #[.int .i64 Ap, .int .i64 Aq, .int .i64 Ar] 30 ?_; intro AH hg w6 Aa hb; have Ad := ngw0 hg HB; replace HB := bS0 HB hb; clear hb hg) | ((with_reducible refine gd 3 rfl ?_); refine bx #[.int .i64 Aj, .int .i64 Ak, .int .i64 Al, .int .i64 Am, .int .i64 As, .int .i64 At] 46 ?_; intro AI hg w7 Ab hb; have Ae := ngw1 hg HB Ad; replace HB := bS1 HB Ad hb; have Aw := nlt hg Aa; have Ax := nsy (nlt hg Aa); replace Aa := bB Aa hb; clear hb hg; have CJ := Aw.out; have CK := Ax.out; obtain ⟨BG, BH, BI, BJ, BK, BL⟩ := bz3 Aa; obtain ⟨AT, AU, AV, AW, AX, AY, AZ, A0, A1, A2, A5, A6⟩ := bz6 Ab) | ((with_reducible refine gate_callee (f := 25) rfl ?_); refine gl 11 Tryz.func25 #[.agg #[.int .i64 Ap, .int .i64 Aq, .int .i64 Ar], .agg #[.int .i64 Aj, .int .i64 Ak, .int .i64 Al, .int .i64 Am], .int .i64 1] ?_; (with_reducible refine (spec_l11Invariant.calls _ _ _ _ _ _ _ _ _ _ _ _ A3.out).mono ?_); rintro e CQ ⟨rfl, hb⟩; refine ⟨_, rfl, ?_⟩; replace Aa := bB Aa hb; replace Ab := bB Ab hb; replace HB := bS2 HB Ad Ae hb; (try clear hb)) | ((with_reducible refine gd 5 rfl ?_); refine bx #[.int .i64 0, .int .i64 0] 44 ?_; intro AJ hg w12 Ac hb; have An := ngw2 hg HB Ad Ae; replace HB := bS2 HB Ad Ae hb; have Af := nlt hg Aa; have Au := nsy (nlt hg Aa); replace Aa := bB Aa hb; have Ag := nlt hg Ab; have Av := nsy (nlt hg Ab); replace Ab := bB Ab hb; clear hb hg; have Cp := Au.out; have Cq := Af.out; have Cr := Av.out; have Cs := Ag.out; obtain ⟨A7, A8, A9, Ba⟩ := bz2 Ac; obtain ⟨Bb, Bc, Bd, Be, Bf, Bg⟩ := bz3 Aa; obtain ⟨Bh, Bi, Bj, Bk, Bl, Bm, Bn, Bo, Bp, Bq, Br, Bs⟩ := bz6 Ab) | ((with_reducible refine gate_callee (f := 27) rfl ?_); refine gl 15 Tryz.func27 #[.agg #[.int .i64 Ap, .int .i64 Aq, .int .i64 Ar], .agg #[.int .i64 Aj, .int .i64 Ak, .int .i64 Al, .int .i64 Am]] ?_; (with_reducible refine (spec_l11Centred.calls _ _ _ _ _ _ _ _ _ _ A4.out).mono ?_); rintro e CR ⟨rfl, hb⟩; refine ⟨_, rfl, ?_⟩; replace Aa := asd (blk_below (g := AH) (o := .cells #[.int .i64 Ap, .int .i64 Aq, .int .i64 Ar] 30 (0, 0)) (bq1 Aa Af) hb); replace Ab := asd (blk_below (g := AI) (o := .cells #[.int .i64 Aj, .int .i64 Ak, .int .i64 Al, .int .i64 Am, .int .i64 As, .int .i64 At] 46 (0, 0)) (bq1 Ab Ag) hb); replace Ac := asd (blk_below (g := AJ) (o := .cells #[.int .i64 BE, .int .i64 BF] 44 (0, 0)) (bq0 Ac) hb); replace HB := bS3 HB Ad Ae An hb; (try clear hb)))
 (try simp only [Act.put, sA, sB, sC])
 go_cut [] (fun wc => ∃ (kq : Nat) (Ah : Int) (Ai : Int), Aside0 (spec_l11Reflects.j0 kq Aj Ak Al Am As At Ah Ai = some r) ∧ Aside0 (kq ≤ k) ∧ Aside0 (wc.heap[AH]? = some (.cells #[.int .i64 Ap, .int .i64 Aq, .int .i64 Ar] 30 (0, 0))) ∧ Aside0 (wc.heap[AI]? = some (.cells #[.int .i64 Aj, .int .i64 Ak, .int .i64 Al, .int .i64 Am, .int .i64 As, .int .i64 At] 46 (0, 0))) ∧ Aside0 (wc.heap[AJ]? = some (.cells #[.int .i64 Ah, .int .i64 Ai] 44 (0, 0))) ∧ Aside0 (Below w.heap.size w wc))
 case first =>
  have H := Cm.out
  clear Cm
  by_cases BN : AG = true
  ·subst BN
   replace H := ifT H
   have H' := Aside0.mk H
   clear H
   go_wp2
   go_meet
   case rel => exact ⟨_, (BE), (BF), H', ⟨by first | omega | exact Nat.le_refl _⟩, ⟨bkp Aa⟩, ⟨bkp Ab⟩, ⟨bkp Ac⟩, ⟨bbw3 HB Ad Ae An⟩⟩
  ·replace BN := Bool.eq_false_iff.mpr BN
   subst BN
   replace H := ifF H
   obtain ⟨⟨Cn, Co⟩, CL, H⟩ := ob H
   try dsimp only at H
   have H' := Aside0.mk H
   clear H
   have Ct := Au.out
   have Cu := Af.out
   have Cv := Av.out
   have Cw := Ag.out
   obtain ⟨Bt, Bu, Bv, Bw⟩ := bz2 Ac
   go_wp2_with (first | ((with_reducible refine gate_callee (f := 55) rfl ?_); refine gl 18 Tryz.func55 #[.agg #[.int .i64 BE, .int .i64 BF], .int .i64 2] ?_; (with_reducible refine (spec_l01Scale.calls _ _ _ _ _ _ CL.out).mono ?_); rintro e CS ⟨rfl, hb⟩; refine ⟨_, rfl, ?_⟩; replace Aa := bB Aa hb; replace Ab := bB Ab hb; replace Ac := bB Ac hb; replace HB := bS3 HB Ad Ae An hb; (try clear hb); obtain ⟨Bx, By, Bz, BA⟩ := bz2 Ac))
   go_meet
   case rel => exact ⟨_, (Cn), (Co), H', ⟨by first | omega | exact Nat.le_refl _⟩, ⟨bq1 Aa Af⟩, ⟨bq1 Ab Ag⟩, ⟨bq0 Ac⟩, ⟨bbw3 HB Ad Ae An⟩⟩
 case rest =>
  clear Cm
  try clear BN
  try clear AT
  try clear AU
  try clear AV
  try clear AW
  try clear AX
  try clear AY
  try clear A7
  try clear A8
  try clear Bb
  try clear Bc
  try clear Bd
  try clear Bh
  try clear Bi
  try clear Bj
  try clear Bk
  try clear Bl
  try clear Bm
  try clear Bt
  try clear Bu
  try clear Bx
  try clear By
  try clear BG
  try clear BH
  try clear BI
  try clear AZ
  try clear A0
  try clear A1
  try clear A2
  try clear A5
  try clear A6
  try clear A9
  try clear Ba
  try clear Be
  try clear Bf
  try clear Bg
  try clear Bn
  try clear Bo
  try clear Bp
  try clear Bq
  try clear Br
  try clear Bs
  try clear Bv
  try clear Bw
  try clear Bz
  try clear BA
  try clear BJ
  try clear BK
  try clear BL
  obtain ⟨kq, Ah, Ai, HA, CT, Aa, Ab, Ac, HB⟩ := hcut
  cases kq with
  | zero => exact absurd HA.out (by simp [spec_l11Reflects.j0])
  | succ CU =>
   have H := HA.out
   clear HA
   simp only [spec_l11Reflects.j0] at H
   obtain ⟨⟨BO, BP⟩, CM, H⟩ := ob H
   try dsimp only at H
   obtain ⟨BC, CN, H⟩ := ob H
   try dsimp only at H
   obtain ⟨BD, CO, H⟩ := ob H
   try dsimp only at H
   obtain ⟨BM, CP, H⟩ := ob H
   try dsimp only at H
   obtain rfl := Option.some.inj H
   have Cx := Ax.out
   have Cy := Aw.out
   have Cz := Ag.out
   have CA := Av.out
   obtain ⟨BR, BS, BT, BU, BV, BW, BX, BY, BZ, B0, B3, B8⟩ := bz6 Ab
   go_wp2_with (first | ((with_reducible refine gate_callee (f := 56) rfl ?_); refine gl 20 Tryz.func56 #[.agg #[.int .i64 Aj, .int .i64 Ak, .int .i64 Al, .int .i64 Am, .int .i64 As, .int .i64 At]] ?_; (with_reducible refine (spec_l05Twice.calls _ _ _ _ _ _ _ _ _ CM.out).mono ?_); rintro e CV ⟨rfl, hb⟩; refine ⟨_, rfl, ?_⟩; replace Aa := bB Aa hb; replace Ab := bB Ab hb; replace Ac := bB Ac hb; replace HB := bS3 HB Ad Ae An hb; (try clear hb)) | ((with_reducible refine gd 6 rfl ?_); refine bx #[.int .i64 0, .int .i64 0] 44 ?_; intro BQ hg CW Ay hb; have AK := ngw3 hg HB Ad Ae An; replace HB := bS3 HB Ad Ae An hb; have Az := nlt hg Aa; have AD := nsy (nlt hg Aa); replace Aa := bB Aa hb; have AA := nlt hg Ab; have AE := nsy (nlt hg Ab); replace Ab := bB Ab hb; have AB := nlt hg Ac; have AF := nsy (nlt hg Ac); replace Ac := bB Ac hb; clear hb hg; have CB := AD.out; have CC := Az.out; have CD := AE.out; have CE := AA.out; have CF := AF.out; have CG := AB.out; obtain ⟨Ca, Cb, Cc, Cd⟩ := bz2 Ay; have CH := Au.out; have CI := Af.out; obtain ⟨Ce, Cf, Cg, Ch⟩ := bz2 Ac) | ((with_reducible refine gate_callee (f := 57) rfl ?_); refine gl 25 Tryz.func57 #[.int .i64 Ah, .int .i64 Ai] ?_; (with_reducible refine (spec_l01Divisor.calls _ _ _ _ _ CN.out).mono ?_); rintro e CX ⟨rfl, hb⟩; refine ⟨_, rfl, ?_⟩; replace Aa := asd (blk_below (g := AH) (o := .cells #[.int .i64 Ap, .int .i64 Aq, .int .i64 Ar] 30 (0, 0)) (bq1 Aa Az) hb); replace Ab := asd (blk_below (g := AI) (o := .cells #[.int .i64 Aj, .int .i64 Ak, .int .i64 Al, .int .i64 Am, .int .i64 As, .int .i64 At] 46 (0, 0)) (bq1 Ab AA) hb); replace Ac := asd (blk_below (g := AJ) (o := .cells #[.int .i64 Ah, .int .i64 Ai] 44 (0, 0)) (bq1 Ac AB) hb); replace Ay := asd (blk_below (g := BQ) (o := .cells #[.int .i64 BO, .int .i64 BP] 44 (0, 0)) (bq0 Ay) hb); replace HB := bS4 HB Ad Ae An AK hb; (try clear hb); obtain ⟨Ci, Cj, Ck, Cl⟩ := bz2 Ay) | ((with_reducible refine gate_callee (f := 57) rfl ?_); refine gl 30 Tryz.func57 #[.int .i64 BO, .int .i64 BP] ?_; (with_reducible refine (spec_l01Divisor.calls _ _ _ _ _ CO.out).mono ?_); rintro e CY ⟨rfl, hb⟩; refine ⟨_, rfl, ?_⟩; replace Aa := bB Aa hb; replace Ab := bB Ab hb; replace Ac := bB Ac hb; replace Ay := bB Ay hb; replace HB := bS4 HB Ad Ae An AK hb; (try clear hb)) | ((with_reducible refine gate_callee (f := 58) rfl ?_); refine gl 32 Tryz.func58 #[.int .i64 BD, .int .i64 BC] ?_; (with_reducible refine (spec_l01Mod.calls _ _ _ _ CP.out).mono ?_); rintro e w' ⟨rfl, ⟨nd, rfl⟩⟩; refine ⟨_, rfl, ?_⟩))
   go_ret
   exact er (bbw4 HB Ad Ae An AK)
end Go.Proofs.YtfmjboloeabjmaaGreat.PA
