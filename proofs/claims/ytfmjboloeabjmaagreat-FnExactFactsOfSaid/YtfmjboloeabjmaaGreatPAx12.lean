import Derived.Test.YtfmjboloeabjmaaGreatPAx0
import Derived.Test.YtfmjboloeabjmaaGreatPAx5
import Derived.Test.YtfmjboloeabjmaaGreatPAx9
import Derived.Test.YtfmjboloeabjmaaGreatPAx10
import Derived.Test.YtfmjboloeabjmaaGreatPAx11
namespace Go.Proofs.YtfmjboloeabjmaaGreat.PA
open Go.RowKit Go.Proofs.YtfmjboloeabjmaaGreatW.PrintWords Go.Proofs.YtfmjboloeabjmaaGreatW.PrintLast Go.Proofs.YtfmjboloeabjmaaGreatW.PrintMore
attribute [local go_sem] max2_int min2_int max_two min_two max_three min_three max_four min_four   -- for this text's walks alone
set_option linter.unusedVariables false
set_option maxHeartbeats 8000000
set_option maxRecDepth 100000
set_option linter.unusedSimpArgs false
mutual
def spec_l11Facts.l0 : Nat → Int → List (S46) → Int → Int → Int → Int → Int → Int → Int → Int → Bool → Option (Int × Int × Int × Int × Bool)
 | 0, _, _, _, _, _, _, _, _, _, _, _ => none
 | k + 1, x0, x2, x8, Av, Aw, Ax, AI, AF, AJ, AK, AN => if x8 < (x2.length : Int) then (if 0 ≤ x8 then ((spec_l02Det.f ((rd_T46 x2 x8).f0.f0) ((rd_T46 x2 x8).f0.f1) ((rd_T46 x2 x8).f0.f2) ((rd_T46 x2 x8).f0.f3)).bind fun A1 => (if A1 = 1 then ((spec_l02Order.f k ((rd_T46 x2 x8).f0.f0) ((rd_T46 x2 x8).f0.f1) ((rd_T46 x2 x8).f0.f2) ((rd_T46 x2 x8).f0.f3)).bind fun Ba => (spec_l11Facts.l0 k x0 x2 (wrap64 (x8 + 1)) Av Aw Ax (mx AI Ba) AF AJ AK AN)) else (if AF = 0 then ((spec_l04Shortest.f k x0 Av Aw Ax).bind fun AT => (if 0 < (AT.length : Int) then ((spec_l04Norm.f x0 ((rd_T44 AT 0).f0) ((rd_T44 AT 0).f1)).bind fun CI => ((spec_l11Invariant.f k Av Aw Ax ((rd_T46 x2 x8).f0.f0) ((rd_T46 x2 x8).f0.f1) ((rd_T46 x2 x8).f0.f2) ((rd_T46 x2 x8).f0.f3) 1).bind fun CB => ((spec_l04Norm.f x0 CB.1 CB.2).bind fun CJ => (spec_l11Facts.j1 k x0 x2 x8 Av Aw Ax AI AF AJ AK (CJ == CI) ((rd_T46 x2 x8).f0.f0) ((rd_T46 x2 x8).f0.f1) ((rd_T46 x2 x8).f0.f2) ((rd_T46 x2 x8).f0.f3) ((rd_T46 x2 x8).f1.f0) ((rd_T46 x2 x8).f1.f1))))) else (none))) else (spec_l11Facts.j1 k x0 x2 x8 Av Aw Ax AI AF AJ AK AN ((rd_T46 x2 x8).f0.f0) ((rd_T46 x2 x8).f0.f1) ((rd_T46 x2 x8).f0.f2) ((rd_T46 x2 x8).f0.f3) ((rd_T46 x2 x8).f1.f0) ((rd_T46 x2 x8).f1.f1))))) else (none)) else (some (AI, AF, AJ, AK, AN))
def spec_l11Facts.j1 : Nat → Int → List (S46) → Int → Int → Int → Int → Int → Int → Int → Int → Bool → Int → Int → Int → Int → Int → Int → Option (Int × Int × Int × Int × Bool)
 | 0, _, _, _, _, _, _, _, _, _, _, _, _, _, _, _, _, _ => none
 | k + 1, x0, x2, x8, Av, Aw, Ax, AI, AF, AJ, AK, AN, AV, AW, AX, AY, Bl, Bm => (spec_l11Reflects.f k Av Aw Ax AV AW AX AY Bl Bm).bind fun CK => (if CK = true then ((spec_l11Centred.f k Av Aw Ax AV AW AX AY).bind fun CL => (if CL = true then (spec_l11Facts.l0 k x0 x2 (wrap64 (x8 + 1)) Av Aw Ax AI (wrap64 (AF + 1)) (wrap64 (AJ + 1)) (wrap64 (AK + 1)) AN) else (spec_l11Facts.l0 k x0 x2 (wrap64 (x8 + 1)) Av Aw Ax AI (wrap64 (AF + 1)) (wrap64 (AJ + 1)) AK AN))) else ((spec_l11Centred.f k Av Aw Ax AV AW AX AY).bind fun CM => (if CM = true then (spec_l11Facts.l0 k x0 x2 (wrap64 (x8 + 1)) Av Aw Ax AI (wrap64 (AF + 1)) AJ (wrap64 (AK + 1)) AN) else (spec_l11Facts.l0 k x0 x2 (wrap64 (x8 + 1)) Av Aw Ax AI (wrap64 (AF + 1)) AJ AK AN))))
end
def spec_l11Facts.f (k : Nat) (a0 : Int) (AC : Int) (AD : Int) (AE : Int) (l2 : List (S46)) : Option (Int × Int × Int × Int × Bool) := spec_l11Facts.l0 k a0 l2 0 AC AD AE 1 0 0 0 false
def spec_l11Facts.T7 : Bool × List (List Nat × List Nat) := (true, [([], []), ([0], [0]), ([], []), ([2], [2]), ([3], [3]), ([1, 4], [1, 4]), ([0, 1, 2, 3, 4, 5], []), ([6, 5, 4, 0, 1, 2, 3, 4, 5], [5, 6])])
def spec_l11Facts.B7 : List Nat := [0, 1, 0, 4, 12, 31, 63, 127]
theorem spec_l11Facts.tab7 : rtab .any (opsOf Tryz.f13 7) = spec_l11Facts.T7 := by kernel_rfl
theorem spec_l11Facts.bits7 : waitsOk spec_l11Facts.T7.2 spec_l11Facts.B7 = true := by kernel_rfl
theorem spec_l11Facts.calls (k : Nat) (a0 : Int) (AC : Int) (AD : Int) (AE : Int) (A2 : Option Addr) (c2 : Nat) (l2 : List (S46)) (r1 : Int) (r2 : Int) (r3 : Int) (r4 : Int) (r5 : Bool) (w : World) (hr2 : Kd.C k46 w A2 l2.length l2) (hc2 : l2.length ≤ c2) (h : spec_l11Facts.f k a0 AC AD AE l2 = some (r1, r2, r3, r4, r5)) :
  Calls Tryz.prog 13 #[.int .i64 a0, .agg #[.int .i64 AC, .int .i64 AD, .int .i64 AE], .slice A2 l2.length c2] w fun e w' => e = .returned (.agg #[.int .i64 r1, .int .i64 r2, .int .i64 r3, .int .i64 r4, .bool r5]) ∧ Below w.heap.size w w' := by
 have hu30 := Tryz.underlying30
 have hu27 := Tryz.underlying27
 have hu46 := Tryz.underlying46
 have hu42 := Tryz.underlying42
 have hu44 := Tryz.underlying44
 have HR2 := Aside0.mk hr2
 have IN := Aside0.mk hc2
 clear hr2 hc2
 have HB := asd (Below.refl w.heap.size w)
 have H : (spec_l11Facts.l0 k a0 l2 0 AC AD AE 1 0 0 0 false) = some (r1, r2, r3, r4, r5) := h
 clear h
 have H' := Aside0.mk H
 clear H
 go_enter Tryz.func13, Tryz.ntmps13
 go_wp2_with (first | ((with_reducible refine gd 4 rfl ?_); refine bx #[.int .i64 AC, .int .i64 AD, .int .i64 AE] 30 ?_; intro AP hg w4 Ac hb; have An := ngw0 hg HB; replace HB := bS0 HB hb; clear hb hg) | ((with_reducible refine gd 6 rfl ?_); refine bx #[.int .i64 0, .int .i64 0, .int .i64 0, .int .i64 0, .bool false] 27 ?_; intro AO hg w5 Ae hb; have Ao := ngw1 hg HB An; replace HB := bS1 HB An hb; have AL := nlt hg Ac; have AM := nsy (nlt hg Ac); replace Ac := bB Ac hb; clear hb hg) | ((with_reducible refine gd 7 rfl ?_); refine bx #[.int .i64 0, .int .i64 0, .int .i64 0, .int .i64 0, .bool false] 27 ?_; intro AG hg w6 Ab hb; have Ap := ngw2 hg HB An Ao; replace HB := bS2 HB An Ao hb; have Aj := nlt hg Ac; have Ay := nsy (nlt hg Ac); replace Ac := bB Ac hb; have Ak := nlt hg Ae; have Az := nsy (nlt hg Ae); replace Ae := bB Ae hb; clear hb hg; have Iz := Ay.out; have IA := Aj.out; have IB := Az.out; have IC := Ak.out; obtain ⟨Bb, Bc, Bd, Be, Bf, Bg, Bh, Bi, Bj, Bk⟩ := bz5 Ab))
 go_loopg [8] k (fun kq v8 w' => ∃ (Aa : Int) (Af : Int) (Ad : Int) (Ah : Int) (Ai : Int) (Ar : Bool), v8 = .int .i64 Aa ∧ Aside0 (spec_l11Facts.l0 kq a0 l2 Aa AC AD AE Af Ad Ah Ai Ar = some (r1, r2, r3, r4, r5)) ∧ Aside0 (kq ≤ k) ∧ Aside0 (w'.heap[AP]? = some (.cells #[.int .i64 AC, .int .i64 AD, .int .i64 AE] 30 (0, 0))) ∧ Aside0 (w'.heap[AO]? = some (.cells #[.int .i64 0, .int .i64 0, .int .i64 0, .int .i64 0, .bool false] 27 (0, 0))) ∧ Aside0 (w'.heap[AG]? = some (.cells #[.int .i64 Af, .int .i64 Ad, .int .i64 Ah, .int .i64 Ai, .bool Ar] 27 (0, 0))) ∧ Aside0 (Below w.heap.size w w'))
 case atStart => exact ⟨(0), (1), (0), (0), (0), (false), (by first | rfl | (simp; done) | (simp [*]; done)), H', ⟨Nat.le_refl _⟩, ⟨bq1 Ac Aj⟩, ⟨bq1 Ae Ak⟩, ⟨bq0 Ab⟩, ⟨bbw3 HB An Ao Ap⟩⟩
 case round =>
  clear H'
  try clear c2
  try clear Bb
  try clear Bc
  try clear Bd
  try clear Be
  try clear Bf
  try clear Bg
  try clear Bh
  try clear Bi
  try clear Bj
  try clear Bk
  obtain ⟨Aa, Af, Ad, Ah, Ai, Ar, rfl, HA, A9, Ac, Ae, Ab, HB⟩ := hrel
  cases gk with
  | zero => exact absurd HA.out (by simp [spec_l11Facts.l0])
  | succ k1 =>
   have H := HA.out
   clear HA
   simp only [spec_l11Facts.l0] at H
   by_cases c10 : Aa < (l2.length : Int)
   ·rw [if_pos c10] at H
    have CC := decide_eq_true c10
    clear c10
    by_cases CP : 0 ≤ Aa
    ·rw [if_pos CP] at H
     have CQ := decide_eq_true CP
     clear CP
     obtain ⟨A1, G4, H⟩ := ob H
     try dsimp only at H
     by_cases CD : A1 = 1
     ·rw [if_pos CD] at H
      have CE : (A1 == 1) = true := beq_iff_eq.mpr CD
      have CF : (A1 != 1) = false := bne_eq_false_iff_eq.mpr CD
      clear CD
      obtain ⟨Ba, Hr, H⟩ := ob H
      try dsimp only at H
      obtain ⟨CN, AZ⟩ : ∃ j_ : Int, (mx Af Ba) = j_ := ⟨_, rfl⟩
      replace H : (spec_l11Facts.l0 k1 a0 l2 (wrap64 (Aa + 1)) AC AD AE CN Ad Ah Ai Ar) = some (r1, r2, r3, r4, r5) := by first | (rw [AZ] at H; first | done | exact H) | (simp only [AZ] at H ⊢; exact H)
      (try rw [AZ] at G4)
      (try rw [AZ] at Hr)
      have G5 : (if Af < Ba then Ba else Af) = CN := AZ
      have H' := Aside0.mk H
      clear H
      obtain ⟨p392, q392, ad392, e392, A3, A4, A5, A6, A7, A8⟩ := at_T46x HR2.out HB Aa
      cases e392
      try go_wp2_with (first | ((with_reducible refine gd 9 rfl ?_); refine bx #[.int .i64 0, .int .i64 0, .int .i64 0, .int .i64 0, .int .i64 0, .int .i64 0] 46 ?_; intro AH hg IO Ag hb; have Au := ngw3 hg HB An Ao Ap; replace HB := bS3 HB An Ao Ap hb; have As := nlt hg Ac; have AA := nsy (nlt hg Ac); replace Ac := bB Ac hb; have At := nlt hg Ae; have AB := nsy (nlt hg Ae); replace Ae := bB Ae hb; have Aq := nlt hg Ab; have Al := nsy (nlt hg Ab); replace Ab := bB Ab hb; clear hb hg; have Hs := AA.out; have Ht := As.out; have Hu := AB.out; have Hv := At.out; have Hw := Al.out; have Hx := Aq.out; obtain ⟨Bn, Bo, Bp, Bq, Br, Bs, Bt, Bu, Bv, Bw, Bx, By⟩ := bz6 Ag) | ((with_reducible refine gate_callee (f := 21) rfl ?_); refine gl 24 Tryz.func21 #[.agg #[.int .i64 ((rd_T46 l2 Aa).f0.f0), .int .i64 ((rd_T46 l2 Aa).f0.f1), .int .i64 ((rd_T46 l2 Aa).f0.f2), .int .i64 ((rd_T46 l2 Aa).f0.f3)]] ?_; (with_reducible refine (spec_l02Det.calls _ _ _ _ _ _ G4.out).mono ?_); rintro e ID ⟨rfl, hb⟩; refine ⟨_, rfl, ?_⟩; replace Ac := asd (blk_below (g := AP) (o := .cells #[.int .i64 AC, .int .i64 AD, .int .i64 AE] 30 (0, 0)) (bq1 Ac As) hb); replace Ae := asd (blk_below (g := AO) (o := .cells #[.int .i64 0, .int .i64 0, .int .i64 0, .int .i64 0, .bool false] 27 (0, 0)) (bq1 Ae At) hb); replace Ab := asd (blk_below (g := AG) (o := .cells #[.int .i64 Af, .int .i64 Ad, .int .i64 Ah, .int .i64 Ai, .bool Ar] 27 (0, 0)) (bq1 Ab Aq) hb); replace Ag := asd (blk_below (g := AH) (o := .cells #[.int .i64 ((rd_T46 l2 Aa).f0.f0), .int .i64 ((rd_T46 l2 Aa).f0.f1), .int .i64 ((rd_T46 l2 Aa).f0.f2), .int .i64 ((rd_T46 l2 Aa).f0.f3), .int .i64 ((rd_T46 l2 Aa).f1.f0), .int .i64 ((rd_T46 l2 Aa).f1.f1)] 46 (0, 0)) (bq0 Ag) hb); replace HB := bS4 HB An Ao Ap Au hb; (try clear hb)))
      replace Ac := asd (blk_drew Ac.out)
      replace Ae := asd (blk_drew Ae.out)
      replace Ab := asd (blk_drew Ab.out)
      replace Ag := asd (blk_drew Ag.out)
      replace HB := asd (below_drew1 HB.out)
      refine start_ (n := 8) (S := fun w' => w'.cell? ⟨AG, 0, none⟩ = some (.int .i64 Af) ∧ w'.cell? ⟨AG, 1, none⟩ = some (.int .i64 Ad) ∧ w'.cell? ⟨AG, 2, none⟩ = some (.int .i64 Ah) ∧ w'.cell? ⟨AG, 3, none⟩ = some (.int .i64 Ai) ∧ w'.cell? ⟨AG, 4, none⟩ = some (.bool Ar) ∧ w'.cell? ⟨AH, 0, none⟩ = some (.int .i64 ((rd_T46 l2 Aa).f0.f0)) ∧ w'.cell? ⟨AH, 1, none⟩ = some (.int .i64 ((rd_T46 l2 Aa).f0.f1)) ∧ w'.cell? ⟨AH, 2, none⟩ = some (.int .i64 ((rd_T46 l2 Aa).f0.f2)) ∧ w'.cell? ⟨AH, 3, none⟩ = some (.int .i64 ((rd_T46 l2 Aa).f0.f3)) ∧ w'.cell? ⟨AH, 4, none⟩ = some (.int .i64 ((rd_T46 l2 Aa).f1.f0)) ∧ w'.cell? ⟨AH, 5, none⟩ = some (.int .i64 ((rd_T46 l2 Aa).f1.f1))) (ds := [7]) (bT 8 0) (by kernel_rfl) rfl rfl ⟨bcl Ab 0, bcl Ab 1, bcl Ab 2, bcl Ab 3, bcl Ab 4, bcl Ag 0, bcl Ag 1, bcl Ag 2, bcl Ag 3, bcl Ag 4, bcl Ag 5⟩ (fun hHeld => ?_); refine with_tabW spec_l11Facts.tab7 spec_l11Facts.bits7 (fun HT_ HW_ => ?_)
      generalize ID.drew = IP at Ac Ae Ab Ag HB hHeld ⊢
      refine pu 0 (some 26) (bT 8 1) HT_ ?_
      refine pu 2 (some 28) (bs 8 5) HT_ ?_
      refine ta 1 (some 27) (bT 8 3) HT_ HW_ hHeld ?_
      refine ta 3 (some 29) (bT 8 4) HT_ HW_ hHeld ?_
      refine ro 4 (some 30) (bT 8 5) HT_ (fun K hK => ?_)
      refine gs Tryz.func22 #[.agg #[.int .i64 ((rd_T46 l2 Aa).f0.f0), .int .i64 ((rd_T46 l2 Aa).f0.f1), .int .i64 ((rd_T46 l2 Aa).f0.f2), .int .i64 ((rd_T46 l2 Aa).f0.f3)]] ?_
      with_reducible refine (spec_l02Order.calls _ _ _ _ _ _ _ Hr.out).mono ?_
      rintro e IE ⟨rfl, hb⟩
      refine ⟨_, rfl, ?_⟩
      replace Ac := bB Ac hb
      replace Ae := bB Ae hb
      replace Ab := bB Ab hb
      replace Ag := bB Ag hb
      replace HB := bS4 HB An Ao Ap Au hb
      (try clear hb)
      (try clear hb2)
      (try clear hk)
      (try clear hi)
      refine hK.out _ _ (cb5 Ab (eb6 Ag)).out (fun hHeld => ?_)
      clear hK K
      refine norm_ (a' := ?_) ?_ ?_
      rotate_left
      ·show Act.put _ (some 30) _ = _
       simp only [Act.put, sA, sB, sC, i64_w, i32_w]
       rfl
      refine pu 5 (some 31) (bT 8 6) HT_ ?_
      refine pu 6 (some 32) (bT 8 7) HT_ ?_
      refine last_ (i := 7) (N := none) (bT 8 8) rfl rfl (one_of HT_.out (by kernel_rfl)) (by decide) (fun K hK => ?_)
      have hs24 : IE.cell? ⟨AG, 0, none⟩ = some (.int .i64 Af) := bcl Ab 0
      have hfs24 := blk_frozen Ab.out 0
      have Er := Aj.out
      have Es := Ak.out
      have Et := Al.out
      have Eu := Ay.out
      have Ew := Az.out
      have Ex := Aq.out
      refine skip_ (w1 := ?_) (by rfl) rfl ?_ ?_
      rotate_left
      ·go_simp
       rfl
      refine hK.out _ _ ?_
      clear hK K
      refine done_ (done_of HT_.out (by kernel_rfl)) ?_
      try go_wp2
      go_roundg k1
      case measure => have := A9.out; omega
      case rel => exact ⟨(wrap64 (Aa + 1)), (CN), (Ad), (Ah), (Ai), (Ar), (by first | rfl | (simp; done) | (simp [*]; done)), H', ⟨by have := A9.out; omega⟩, ⟨bq1 Ac Aj⟩, ⟨bq1 Ae Ak⟩, ⟨bq0 Ab⟩, ⟨bbw4 HB An Ao Ap Au⟩⟩
     ·rw [if_neg CD] at H
      have CE : (A1 == 1) = false := beq_eq_false_iff_ne.mpr CD
      have CF : (A1 != 1) = true := bne_iff_ne.mpr CD
      have CO := Aside0.mk H
      clear H
      obtain ⟨p392, q392, ad392, e392, A3, A4, A5, A6, A7, A8⟩ := at_T46x HR2.out HB Aa
      cases e392
      go_upto_if 35 with (first | ((with_reducible refine gd 9 rfl ?_); refine bx #[.int .i64 0, .int .i64 0, .int .i64 0, .int .i64 0, .int .i64 0, .int .i64 0] 46 ?_; intro AH hg IQ Ag hb; have Au := ngw3 hg HB An Ao Ap; replace HB := bS3 HB An Ao Ap hb; have As := nlt hg Ac; have AA := nsy (nlt hg Ac); replace Ac := bB Ac hb; have At := nlt hg Ae; have AB := nsy (nlt hg Ae); replace Ae := bB Ae hb; have Aq := nlt hg Ab; have Al := nsy (nlt hg Ab); replace Ab := bB Ab hb; clear hb hg; have Hy := AA.out; have Hz := As.out; have HC := AB.out; have HD := At.out; have HE := Al.out; have HF := Aq.out; obtain ⟨Bz, BA, BB, BC, BD, BE, BF, BG, BH, BI, BJ, BK⟩ := bz6 Ag) | ((with_reducible refine gate_callee (f := 21) rfl ?_); refine gl 24 Tryz.func21 #[.agg #[.int .i64 ((rd_T46 l2 Aa).f0.f0), .int .i64 ((rd_T46 l2 Aa).f0.f1), .int .i64 ((rd_T46 l2 Aa).f0.f2), .int .i64 ((rd_T46 l2 Aa).f0.f3)]] ?_; (with_reducible refine (spec_l02Det.calls _ _ _ _ _ _ G4.out).mono ?_); rintro e IR ⟨rfl, hb⟩; refine ⟨_, rfl, ?_⟩; replace Ac := asd (blk_below (g := AP) (o := .cells #[.int .i64 AC, .int .i64 AD, .int .i64 AE] 30 (0, 0)) (bq1 Ac As) hb); replace Ae := asd (blk_below (g := AO) (o := .cells #[.int .i64 0, .int .i64 0, .int .i64 0, .int .i64 0, .bool false] 27 (0, 0)) (bq1 Ae At) hb); replace Ab := asd (blk_below (g := AG) (o := .cells #[.int .i64 Af, .int .i64 Ad, .int .i64 Ah, .int .i64 Ai, .bool Ar] 27 (0, 0)) (bq1 Ab Aq) hb); replace Ag := asd (blk_below (g := AH) (o := .cells #[.int .i64 ((rd_T46 l2 Aa).f0.f0), .int .i64 ((rd_T46 l2 Aa).f0.f1), .int .i64 ((rd_T46 l2 Aa).f0.f2), .int .i64 ((rd_T46 l2 Aa).f0.f3), .int .i64 ((rd_T46 l2 Aa).f1.f0), .int .i64 ((rd_T46 l2 Aa).f1.f1)] 46 (0, 0)) (bq0 Ag) hb); replace HB := bS4 HB An Ao Ap Au hb; (try clear hb); have HG := Ay.out; have HH := Aj.out; have HI := Az.out; have HJ := Ak.out; obtain ⟨BL, BM, BN, BO, BP, BQ, BR, BS, BT, BU⟩ := bz5 Ab))
      (try simp only [Act.put, sA, sB, sC])
      go_cut [] (fun wc => ∃ (kq : Nat) (Am : Bool), Aside0 (spec_l11Facts.j1 kq a0 l2 Aa AC AD AE Af Ad Ah Ai Am ((rd_T46 l2 Aa).f0.f0) ((rd_T46 l2 Aa).f0.f1) ((rd_T46 l2 Aa).f0.f2) ((rd_T46 l2 Aa).f0.f3) ((rd_T46 l2 Aa).f1.f0) ((rd_T46 l2 Aa).f1.f1) = some (r1, r2, r3, r4, r5)) ∧ Aside0 (kq ≤ k1) ∧ Aside0 (wc.heap[AP]? = some (.cells #[.int .i64 AC, .int .i64 AD, .int .i64 AE] 30 (0, 0))) ∧ Aside0 (wc.heap[AO]? = some (.cells #[.int .i64 0, .int .i64 0, .int .i64 0, .int .i64 0, .bool false] 27 (0, 0))) ∧ Aside0 (wc.heap[AG]? = some (.cells #[.int .i64 Af, .int .i64 Ad, .int .i64 Ah, .int .i64 Ai, .bool Am] 27 (0, 0))) ∧ Aside0 (wc.heap[AH]? = some (.cells #[.int .i64 ((rd_T46 l2 Aa).f0.f0), .int .i64 ((rd_T46 l2 Aa).f0.f1), .int .i64 ((rd_T46 l2 Aa).f0.f2), .int .i64 ((rd_T46 l2 Aa).f0.f3), .int .i64 ((rd_T46 l2 Aa).f1.f0), .int .i64 ((rd_T46 l2 Aa).f1.f1)] 46 (0, 0))) ∧ Aside0 (Below w.heap.size w wc))
      case first =>
       have H := CO.out
       clear CO
       by_cases CG : Ad = 0
       ·rw [if_pos CG] at H
        have AU : (Ad == 0) = true := beq_iff_eq.mpr CG
        have CH : (Ad != 0) = false := bne_eq_false_iff_eq.mpr CG
        clear CG
        (first | rw [AU] | (simp only [i64_w, i32_w]; rw [AU]) | skip)
        obtain ⟨AT, IF, H⟩ := ob H
        try dsimp only at H
        by_cases CR : 0 < (AT.length : Int)
        ·rw [if_pos CR] at H
         have CS := decide_eq_true CR
         have CT : decide (0 < AT.length) = true := decide_eq_true (by omega)
         clear CR
         obtain ⟨CI, IG, H⟩ := ob H
         try dsimp only at H
         obtain ⟨⟨G6, G7⟩, IH, H⟩ := ob H
         try dsimp only at H
         obtain ⟨CJ, II, H⟩ := ob H
         try dsimp only at H
         have H' := Aside0.mk H
         clear H
         have HK := AL.out
         have HL := AM.out
         have HM := Aj.out
         have HN := Ay.out
         have HO := As.out
         have HP := AA.out
         obtain ⟨BV, BW, BX, BY, BZ, B0⟩ := bz3 Ac
         go_wp2_with (first | ((with_reducible refine gate_callee (f := 24) rfl ?_); refine gl 39 Tryz.func24 #[.int .i64 a0, .agg #[.int .i64 AC, .int .i64 AD, .int .i64 AE]] ?_; (with_reducible refine (spec_l04Shortest.calls _ _ _ _ _ _ _ IF.out).mono ?_); rintro e IS ⟨v397, rfl, HQ, hb⟩; refine ⟨_, rfl, ?_⟩; have AQ := asd (Kd.R_lower HQ (bsz4 HB An Ao Ap Au)); replace Ac := bB Ac hb; replace Ae := bB Ae hb; replace Ab := bB Ab hb; replace Ag := bB Ag hb; replace HB := bS4 HB An Ao Ap Au hb; (try clear hb); (try clear hb2); (try clear hk); (try clear hi); (try clear HQ); obtain ⟨Ao46, co46, eo46⟩ := Kd.R_slice AQ.out; subst eo46; have p399 : 0 ≤ (0 : Int) := (by omega); have q399 : 0 < (AT.length : Int) := od; obtain ⟨ad399, e399, AR, AS⟩ := at_T44 (Kd.R_reads' AQ.out).2.2 0 p399 q399; cases e399; have qi399 : (0 < AT.length) = True := eq_true (by omega); (try rw [show ((0 : Int)).toNat = 0 from rfl] at AR); (try rw [show 0 * 2 = 0 from rfl] at AR); (try rw [Addr.add_zero'] at AR); (try rw [show ((0 : Int)).toNat = 0 from rfl] at AS); (try rw [show 0 * 2 = 0 from rfl] at AS); (try rw [Addr.add_zero'] at AS); replace p399 := eq_true p399; replace q399 := eq_true q399) | ((with_reducible refine gate_callee (f := 23) rfl ?_); refine gl 42 Tryz.func23 #[.int .i64 a0, .agg #[.int .i64 ((rd_T44 AT 0).f0), .int .i64 ((rd_T44 AT 0).f1)]] ?_; (with_reducible refine (spec_l04Norm.calls _ _ _ _ _ IG.out).mono ?_); rintro e IT ⟨rfl, hb⟩; refine ⟨_, rfl, ?_⟩; replace AQ := asd (Kd.R_below (kr AQ) hb); replace Ac := bB Ac hb; replace Ae := bB Ae hb; replace Ab := bB Ab hb; replace Ag := bB Ag hb; replace HB := bS4 HB An Ao Ap Au hb; (try clear hb); obtain ⟨B3, B8, Ca, Cb, Cc, Cd⟩ := bz3 Ac; have HR := AB.out; have HS := At.out; have HT := Al.out; have HU := Aq.out; obtain ⟨Ce, Cf, Cg, Ch, Ci, Cj, Ck, Cl, Cm, Cn, Co, Cp⟩ := bz6 Ag) | ((with_reducible refine gate_callee (f := 25) rfl ?_); refine gl 47 Tryz.func25 #[.agg #[.int .i64 AC, .int .i64 AD, .int .i64 AE], .agg #[.int .i64 ((rd_T46 l2 Aa).f0.f0), .int .i64 ((rd_T46 l2 Aa).f0.f1), .int .i64 ((rd_T46 l2 Aa).f0.f2), .int .i64 ((rd_T46 l2 Aa).f0.f3)], .int .i64 1] ?_; (with_reducible refine (spec_l11Invariant.calls _ _ _ _ _ _ _ _ _ _ _ _ IH.out).mono ?_); rintro e IU ⟨rfl, hb⟩; refine ⟨_, rfl, ?_⟩; replace AQ := asd (Kd.R_below (kr AQ) hb); replace Ac := bB Ac hb; replace Ae := bB Ae hb; replace Ab := bB Ab hb; replace Ag := bB Ag hb; replace HB := bS4 HB An Ao Ap Au hb; (try clear hb)) | ((with_reducible refine gate_callee (f := 23) rfl ?_); refine gl 48 Tryz.func23 #[.int .i64 a0, .agg #[.int .i64 G6, .int .i64 G7]] ?_; (with_reducible refine (spec_l04Norm.calls _ _ _ _ _ II.out).mono ?_); rintro e IV ⟨rfl, hb⟩; refine ⟨_, rfl, ?_⟩; replace AQ := asd (Kd.R_below (kr AQ) hb); replace Ac := bB Ac hb; replace Ae := bB Ae hb; replace Ab := bB Ab hb; replace Ag := bB Ag hb; replace HB := bS4 HB An Ao Ap Au hb; (try clear hb); have HV := Az.out; have HW := Ak.out; obtain ⟨Cq, Cr, Cs, Ct, Cu, Cv, Cw, Cx, Cy, Cz⟩ := bz5 Ab))
         go_meet
         case rel => exact ⟨_, ((CJ == CI)), H', ⟨by have := A9.out; first | omega | exact Nat.le_refl _⟩, ⟨bq1 Ac Aj⟩, ⟨bq1 Ae Ak⟩, ⟨bq0 Ab⟩, ⟨bq1 Ag Al⟩, ⟨bbw4 HB An Ao Ap Au⟩⟩
        ·rw [if_neg CR] at H
         exact absurd H (by simp)
       ·rw [if_neg CG] at H
        have AU : (Ad == 0) = false := beq_eq_false_iff_ne.mpr CG
        have CH : (Ad != 0) = true := bne_iff_ne.mpr CG
        (first | rw [AU] | (simp only [i64_w, i32_w]; rw [AU]) | skip)
        have H' := Aside0.mk H
        clear H
        go_wp2
        go_meet
        case rel => exact ⟨_, (Ar), H', ⟨by have := A9.out; first | omega | exact Nat.le_refl _⟩, ⟨bkp Ac⟩, ⟨bkp Ae⟩, ⟨bkp Ab⟩, ⟨bkp Ag⟩, ⟨bbw4 HB An Ao Ap Au⟩⟩
      case rest =>
       clear CO
       try clear c2
       try clear c10
       try clear CC
       try clear CP
       try clear CQ
       try clear CD
       try clear CE
       try clear CF
       try clear CG
       try clear AU
       try clear CH
       try clear CR
       try clear CS
       try clear CT
       try clear Bn
       try clear Bo
       try clear Bp
       try clear Bq
       try clear Br
       try clear Bs
       try clear Bz
       try clear BA
       try clear BB
       try clear BC
       try clear BD
       try clear BE
       try clear BL
       try clear BM
       try clear BN
       try clear BO
       try clear BP
       try clear BV
       try clear BW
       try clear BX
       try clear B3
       try clear B8
       try clear Ca
       try clear Ce
       try clear Cf
       try clear Cg
       try clear Ch
       try clear Ci
       try clear Cj
       try clear Cq
       try clear Cr
       try clear Cs
       try clear Ct
       try clear Cu
       try clear Bb
       try clear Bc
       try clear Bd
       try clear Be
       try clear Bf
       try clear Bt
       try clear Bu
       try clear Bv
       try clear Bw
       try clear Bx
       try clear By
       try clear BF
       try clear BG
       try clear BH
       try clear BI
       try clear BJ
       try clear BK
       try clear BQ
       try clear BR
       try clear BS
       try clear BT
       try clear BU
       try clear BY
       try clear BZ
       try clear B0
       try clear Cb
       try clear Cc
       try clear Cd
       try clear Ck
       try clear Cl
       try clear Cm
       try clear Cn
       try clear Co
       try clear Cp
       try clear Cv
       try clear Cw
       try clear Cx
       try clear Cy
       try clear Cz
       try clear Bg
       try clear Bh
       try clear Bi
       try clear Bj
       try clear Bk
       try clear A3
       try clear A4
       try clear A5
       try clear A6
       try clear A7
       try clear A8
       try clear AR
       try clear AS
       try clear p392
       try clear p399
       try clear q392
       try clear q399
       obtain ⟨kq, Am, HA, A0, Ac, Ae, Ab, Ag, HB⟩ := hcut
       cases kq with
       | zero => exact absurd HA.out (by simp [spec_l11Facts.j1])
       | succ CA =>
        have H := HA.out
        clear HA
        simp only [spec_l11Facts.j1] at H
        obtain ⟨CK, Ey, H⟩ := ob H
        try dsimp only at H
        by_cases Ez : CK = true
        ·subst Ez
         replace H := ifT H
         obtain ⟨CL, HX, H⟩ := ob H
         try dsimp only at H
         by_cases EA : CL = true
         ·subst EA
          replace H := ifT H
          have H' := Aside0.mk H
          clear H
          have HY := Ay.out
          have HZ := Aj.out
          have H0 := Az.out
          have H1 := Ak.out
          have H2 := Aq.out
          have H3 := Al.out
          obtain ⟨EB, EC, ED, EE, EF, EG, EH, EI, EJ, EK⟩ := bz5 Ab
          have H4 := AL.out
          have H5 := AM.out
          have H6 := As.out
          have H7 := AA.out
          obtain ⟨EL, EM, EN, EO, EP, EQ⟩ := bz3 Ac
          have H8 := AB.out
          have H9 := At.out
          obtain ⟨ER, ES, ET, EU, EV, EW, EX, EY, EZ, E0, E1, E2⟩ := bz6 Ag
          go_wp2_with (first | ((with_reducible refine gate_callee (f := 26) rfl ?_); refine gl 58 Tryz.func26 #[.agg #[.int .i64 AC, .int .i64 AD, .int .i64 AE], .agg #[.int .i64 ((rd_T46 l2 Aa).f0.f0), .int .i64 ((rd_T46 l2 Aa).f0.f1), .int .i64 ((rd_T46 l2 Aa).f0.f2), .int .i64 ((rd_T46 l2 Aa).f0.f3), .int .i64 ((rd_T46 l2 Aa).f1.f0), .int .i64 ((rd_T46 l2 Aa).f1.f1)]] ?_; (with_reducible refine (spec_l11Reflects.calls _ _ _ _ _ _ _ _ _ _ _ _ Ey.out).mono ?_); rintro e IW ⟨rfl, hb⟩; refine ⟨_, rfl, ?_⟩; replace Ac := asd (blk_below (g := AP) (o := .cells #[.int .i64 AC, .int .i64 AD, .int .i64 AE] 30 (0, 0)) (bq1 Ac Aj) hb); replace Ae := asd (blk_below (g := AO) (o := .cells #[.int .i64 0, .int .i64 0, .int .i64 0, .int .i64 0, .bool false] 27 (0, 0)) (bq1 Ae Ak) hb); replace Ab := asd (blk_below (g := AG) (o := .cells #[.int .i64 Af, .int .i64 (wrap64 (Ad + 1)), .int .i64 Ah, .int .i64 Ai, .bool Am] 27 (0, 0)) (bq0 Ab) hb); replace Ag := asd (blk_below (g := AH) (o := .cells #[.int .i64 ((rd_T46 l2 Aa).f0.f0), .int .i64 ((rd_T46 l2 Aa).f0.f1), .int .i64 ((rd_T46 l2 Aa).f0.f2), .int .i64 ((rd_T46 l2 Aa).f0.f3), .int .i64 ((rd_T46 l2 Aa).f1.f0), .int .i64 ((rd_T46 l2 Aa).f1.f1)] 46 (0, 0)) (bq1 Ag Al) hb); replace HB := bS4 HB An Ao Ap Au hb; (try clear hb); obtain ⟨E3, E4, E5, E6, E7, E8, E9, Fa, Fb, Fc⟩ := bz5 Ab; obtain ⟨Fd, Fe, Ff, Fg, Fh, Fi⟩ := bz3 Ac; obtain ⟨Fj, Fk, Fl, Fm, Fn, Fo, Fp, Fq, Fr, Fs, Ft, Fu⟩ := bz6 Ag) | ((with_reducible refine gate_callee (f := 27) rfl ?_); refine gl 66 Tryz.func27 #[.agg #[.int .i64 AC, .int .i64 AD, .int .i64 AE], .agg #[.int .i64 ((rd_T46 l2 Aa).f0.f0), .int .i64 ((rd_T46 l2 Aa).f0.f1), .int .i64 ((rd_T46 l2 Aa).f0.f2), .int .i64 ((rd_T46 l2 Aa).f0.f3)]] ?_; (with_reducible refine (spec_l11Centred.calls _ _ _ _ _ _ _ _ _ _ HX.out).mono ?_); rintro e IX ⟨rfl, hb⟩; refine ⟨_, rfl, ?_⟩; replace Ac := asd (blk_below (g := AP) (o := .cells #[.int .i64 AC, .int .i64 AD, .int .i64 AE] 30 (0, 0)) (bq1 Ac Aj) hb); replace Ae := asd (blk_below (g := AO) (o := .cells #[.int .i64 0, .int .i64 0, .int .i64 0, .int .i64 0, .bool false] 27 (0, 0)) (bq1 Ae Ak) hb); replace Ab := asd (blk_below (g := AG) (o := .cells #[.int .i64 Af, .int .i64 (wrap64 (Ad + 1)), .int .i64 (wrap64 (Ah + 1)), .int .i64 Ai, .bool Am] 27 (0, 0)) (bq0 Ab) hb); replace Ag := asd (blk_below (g := AH) (o := .cells #[.int .i64 ((rd_T46 l2 Aa).f0.f0), .int .i64 ((rd_T46 l2 Aa).f0.f1), .int .i64 ((rd_T46 l2 Aa).f0.f2), .int .i64 ((rd_T46 l2 Aa).f0.f3), .int .i64 ((rd_T46 l2 Aa).f1.f0), .int .i64 ((rd_T46 l2 Aa).f1.f1)] 46 (0, 0)) (bq1 Ag Al) hb); replace HB := bS4 HB An Ao Ap Au hb; (try clear hb); obtain ⟨Fv, Fw, Fx, Fy, Fz, FA, FB, FC, FD, FE⟩ := bz5 Ab))
          go_roundg CA
          case measure => have := A9.out; have := A0.out; omega
          case rel => exact ⟨(wrap64 (Aa + 1)), (Af), (wrap64 (Ad + 1)), (wrap64 (Ah + 1)), (wrap64 (Ai + 1)), (Am), (by first | rfl | (simp; done) | (simp [*]; done)), H', ⟨by have := A9.out; have := A0.out; omega⟩, ⟨bq1 Ac Aj⟩, ⟨bq1 Ae Ak⟩, ⟨bq0 Ab⟩, ⟨bbw4 HB An Ao Ap Au⟩⟩
         ·replace EA := Bool.eq_false_iff.mpr EA
          subst EA
          replace H := ifF H
          have H' := Aside0.mk H
          clear H
          have Ia := Ay.out
          have Ib := Aj.out
          have Ic := Az.out
          have Id := Ak.out
          have Ie := Aq.out
          have If := Al.out
          obtain ⟨FF, FG, FH, FI, FJ, FM, FN, FO, FP, FQ⟩ := bz5 Ab
          have Ig := AL.out
          have Ih := AM.out
          have Ii := As.out
          have Ij := AA.out
          obtain ⟨FR, FS, FT, FU, FV, FW⟩ := bz3 Ac
          have Ik := AB.out
          have Il := At.out
          obtain ⟨FX, FY, FZ, F0, F1, F2, F3, F4, F5, F6, F7, F8⟩ := bz6 Ag
          go_wp2_with (first | ((with_reducible refine gate_callee (f := 26) rfl ?_); refine gl 58 Tryz.func26 #[.agg #[.int .i64 AC, .int .i64 AD, .int .i64 AE], .agg #[.int .i64 ((rd_T46 l2 Aa).f0.f0), .int .i64 ((rd_T46 l2 Aa).f0.f1), .int .i64 ((rd_T46 l2 Aa).f0.f2), .int .i64 ((rd_T46 l2 Aa).f0.f3), .int .i64 ((rd_T46 l2 Aa).f1.f0), .int .i64 ((rd_T46 l2 Aa).f1.f1)]] ?_; (with_reducible refine (spec_l11Reflects.calls _ _ _ _ _ _ _ _ _ _ _ _ Ey.out).mono ?_); rintro e IY ⟨rfl, hb⟩; refine ⟨_, rfl, ?_⟩; replace Ac := asd (blk_below (g := AP) (o := .cells #[.int .i64 AC, .int .i64 AD, .int .i64 AE] 30 (0, 0)) (bq1 Ac Aj) hb); replace Ae := asd (blk_below (g := AO) (o := .cells #[.int .i64 0, .int .i64 0, .int .i64 0, .int .i64 0, .bool false] 27 (0, 0)) (bq1 Ae Ak) hb); replace Ab := asd (blk_below (g := AG) (o := .cells #[.int .i64 Af, .int .i64 (wrap64 (Ad + 1)), .int .i64 Ah, .int .i64 Ai, .bool Am] 27 (0, 0)) (bq0 Ab) hb); replace Ag := asd (blk_below (g := AH) (o := .cells #[.int .i64 ((rd_T46 l2 Aa).f0.f0), .int .i64 ((rd_T46 l2 Aa).f0.f1), .int .i64 ((rd_T46 l2 Aa).f0.f2), .int .i64 ((rd_T46 l2 Aa).f0.f3), .int .i64 ((rd_T46 l2 Aa).f1.f0), .int .i64 ((rd_T46 l2 Aa).f1.f1)] 46 (0, 0)) (bq1 Ag Al) hb); replace HB := bS4 HB An Ao Ap Au hb; (try clear hb); obtain ⟨F9, Ga, Gb, Gc, Gd, Ge, Gf, Gg, Gh, Gi⟩ := bz5 Ab; obtain ⟨Gj, Gk, Gl, Gm, Gn, Go⟩ := bz3 Ac; obtain ⟨Gp, Gq, Gr, Gs, Gt, Gu, Gv, Gw, Gx, Gy, Gz, GA⟩ := bz6 Ag) | ((with_reducible refine gate_callee (f := 27) rfl ?_); refine gl 66 Tryz.func27 #[.agg #[.int .i64 AC, .int .i64 AD, .int .i64 AE], .agg #[.int .i64 ((rd_T46 l2 Aa).f0.f0), .int .i64 ((rd_T46 l2 Aa).f0.f1), .int .i64 ((rd_T46 l2 Aa).f0.f2), .int .i64 ((rd_T46 l2 Aa).f0.f3)]] ?_; (with_reducible refine (spec_l11Centred.calls _ _ _ _ _ _ _ _ _ _ HX.out).mono ?_); rintro e IZ ⟨rfl, hb⟩; refine ⟨_, rfl, ?_⟩; replace Ac := asd (blk_below (g := AP) (o := .cells #[.int .i64 AC, .int .i64 AD, .int .i64 AE] 30 (0, 0)) (bq1 Ac Aj) hb); replace Ae := asd (blk_below (g := AO) (o := .cells #[.int .i64 0, .int .i64 0, .int .i64 0, .int .i64 0, .bool false] 27 (0, 0)) (bq1 Ae Ak) hb); replace Ab := asd (blk_below (g := AG) (o := .cells #[.int .i64 Af, .int .i64 (wrap64 (Ad + 1)), .int .i64 (wrap64 (Ah + 1)), .int .i64 Ai, .bool Am] 27 (0, 0)) (bq0 Ab) hb); replace Ag := asd (blk_below (g := AH) (o := .cells #[.int .i64 ((rd_T46 l2 Aa).f0.f0), .int .i64 ((rd_T46 l2 Aa).f0.f1), .int .i64 ((rd_T46 l2 Aa).f0.f2), .int .i64 ((rd_T46 l2 Aa).f0.f3), .int .i64 ((rd_T46 l2 Aa).f1.f0), .int .i64 ((rd_T46 l2 Aa).f1.f1)] 46 (0, 0)) (bq1 Ag Al) hb); replace HB := bS4 HB An Ao Ap Au hb; (try clear hb)))
          go_roundg CA
          case measure => have := A9.out; have := A0.out; omega
          case rel => exact ⟨(wrap64 (Aa + 1)), (Af), (wrap64 (Ad + 1)), (wrap64 (Ah + 1)), (Ai), (Am), (by first | rfl | (simp; done) | (simp [*]; done)), H', ⟨by have := A9.out; have := A0.out; omega⟩, ⟨bkp Ac⟩, ⟨bkp Ae⟩, ⟨bkp Ab⟩, ⟨bbw4 HB An Ao Ap Au⟩⟩
        ·replace Ez := Bool.eq_false_iff.mpr Ez
         subst Ez
         replace H := ifF H
         obtain ⟨CM, Im, H⟩ := ob H
         try dsimp only at H
         by_cases GB : CM = true
         ·subst GB
          replace H := ifT H
          have H' := Aside0.mk H
          clear H
          have In := Ay.out
          have Io := Aj.out
          have Ip := Az.out
          have Iq := Ak.out
          have Ir := Aq.out
          have Is := Al.out
          obtain ⟨GC, GD, GE, GF, GG, GH, GI, GJ, GK, GL⟩ := bz5 Ab
          have It := AL.out
          have Iu := AM.out
          have Iv := As.out
          have Iw := AA.out
          obtain ⟨GM, GN, GO, GP, GQ, GR⟩ := bz3 Ac
          have Ix := AB.out
          have Iy := At.out
          obtain ⟨GS, GT, GU, GV, GW, GX, GY, GZ, G0, G1, G2, G3⟩ := bz6 Ag
          go_wp2_with (first | ((with_reducible refine gate_callee (f := 26) rfl ?_); refine gl 58 Tryz.func26 #[.agg #[.int .i64 AC, .int .i64 AD, .int .i64 AE], .agg #[.int .i64 ((rd_T46 l2 Aa).f0.f0), .int .i64 ((rd_T46 l2 Aa).f0.f1), .int .i64 ((rd_T46 l2 Aa).f0.f2), .int .i64 ((rd_T46 l2 Aa).f0.f3), .int .i64 ((rd_T46 l2 Aa).f1.f0), .int .i64 ((rd_T46 l2 Aa).f1.f1)]] ?_; (with_reducible refine (spec_l11Reflects.calls _ _ _ _ _ _ _ _ _ _ _ _ Ey.out).mono ?_); rintro e IJ ⟨rfl, hb⟩; refine ⟨_, rfl, ?_⟩; replace Ac := asd (blk_below (g := AP) (o := .cells #[.int .i64 AC, .int .i64 AD, .int .i64 AE] 30 (0, 0)) (bq1 Ac Aj) hb); replace Ae := asd (blk_below (g := AO) (o := .cells #[.int .i64 0, .int .i64 0, .int .i64 0, .int .i64 0, .bool false] 27 (0, 0)) (bq1 Ae Ak) hb); replace Ab := asd (blk_below (g := AG) (o := .cells #[.int .i64 Af, .int .i64 (wrap64 (Ad + 1)), .int .i64 Ah, .int .i64 Ai, .bool Am] 27 (0, 0)) (bq0 Ab) hb); replace Ag := asd (blk_below (g := AH) (o := .cells #[.int .i64 ((rd_T46 l2 Aa).f0.f0), .int .i64 ((rd_T46 l2 Aa).f0.f1), .int .i64 ((rd_T46 l2 Aa).f0.f2), .int .i64 ((rd_T46 l2 Aa).f0.f3), .int .i64 ((rd_T46 l2 Aa).f1.f0), .int .i64 ((rd_T46 l2 Aa).f1.f1)] 46 (0, 0)) (bq1 Ag Al) hb); replace HB := bS4 HB An Ao Ap Au hb; (try clear hb); obtain ⟨CU, CV, CW, CX, CY, CZ⟩ := bz3 Ac; obtain ⟨C0, C1, C2, C3, C4, C5, C6, C7, C8, C9, Da, Db⟩ := bz6 Ag) | ((with_reducible refine gate_callee (f := 27) rfl ?_); refine gl 66 Tryz.func27 #[.agg #[.int .i64 AC, .int .i64 AD, .int .i64 AE], .agg #[.int .i64 ((rd_T46 l2 Aa).f0.f0), .int .i64 ((rd_T46 l2 Aa).f0.f1), .int .i64 ((rd_T46 l2 Aa).f0.f2), .int .i64 ((rd_T46 l2 Aa).f0.f3)]] ?_; (with_reducible refine (spec_l11Centred.calls _ _ _ _ _ _ _ _ _ _ Im.out).mono ?_); rintro e IK ⟨rfl, hb⟩; refine ⟨_, rfl, ?_⟩; replace Ac := bB Ac hb; replace Ae := bB Ae hb; replace Ab := bB Ab hb; replace Ag := bB Ag hb; replace HB := bS4 HB An Ao Ap Au hb; (try clear hb); obtain ⟨Dc, Dd, De, Df, Dg, Dh, Di, Dj, Dk, Dl⟩ := bz5 Ab))
          go_roundg CA
          case measure => have := A9.out; have := A0.out; omega
          case rel => exact ⟨(wrap64 (Aa + 1)), (Af), (wrap64 (Ad + 1)), (Ah), (wrap64 (Ai + 1)), (Am), (by first | rfl | (simp; done) | (simp [*]; done)), H', ⟨by have := A9.out; have := A0.out; omega⟩, ⟨bq1 Ac Aj⟩, ⟨bq1 Ae Ak⟩, ⟨bq0 Ab⟩, ⟨bbw4 HB An Ao Ap Au⟩⟩
         ·replace GB := Bool.eq_false_iff.mpr GB
          subst GB
          replace H := ifF H
          have H' := Aside0.mk H
          clear H
          have G8 := Ay.out
          have G9 := Aj.out
          have Ha := Az.out
          have Hb := Ak.out
          have Hc := Aq.out
          have He := Al.out
          obtain ⟨Dm, Dn, Do, Dp, Dq, Dr, Ds, Dt, Du, Dv⟩ := bz5 Ab
          have Hf := AL.out
          have Hg := AM.out
          have Hh := As.out
          have Hi := AA.out
          obtain ⟨Dw, Dx, Dy, Dz, DA, DB⟩ := bz3 Ac
          have Hj := AB.out
          have Hk := At.out
          obtain ⟨DC, DD, DE, DF, DG, DH, DI, DJ, DK, DL, DM, DN⟩ := bz6 Ag
          go_wp2_with (first | ((with_reducible refine gate_callee (f := 26) rfl ?_); refine gl 58 Tryz.func26 #[.agg #[.int .i64 AC, .int .i64 AD, .int .i64 AE], .agg #[.int .i64 ((rd_T46 l2 Aa).f0.f0), .int .i64 ((rd_T46 l2 Aa).f0.f1), .int .i64 ((rd_T46 l2 Aa).f0.f2), .int .i64 ((rd_T46 l2 Aa).f0.f3), .int .i64 ((rd_T46 l2 Aa).f1.f0), .int .i64 ((rd_T46 l2 Aa).f1.f1)]] ?_; (with_reducible refine (spec_l11Reflects.calls _ _ _ _ _ _ _ _ _ _ _ _ Ey.out).mono ?_); rintro e IL ⟨rfl, hb⟩; refine ⟨_, rfl, ?_⟩; replace Ac := asd (blk_below (g := AP) (o := .cells #[.int .i64 AC, .int .i64 AD, .int .i64 AE] 30 (0, 0)) (bq1 Ac Aj) hb); replace Ae := asd (blk_below (g := AO) (o := .cells #[.int .i64 0, .int .i64 0, .int .i64 0, .int .i64 0, .bool false] 27 (0, 0)) (bq1 Ae Ak) hb); replace Ab := asd (blk_below (g := AG) (o := .cells #[.int .i64 Af, .int .i64 (wrap64 (Ad + 1)), .int .i64 Ah, .int .i64 Ai, .bool Am] 27 (0, 0)) (bq0 Ab) hb); replace Ag := asd (blk_below (g := AH) (o := .cells #[.int .i64 ((rd_T46 l2 Aa).f0.f0), .int .i64 ((rd_T46 l2 Aa).f0.f1), .int .i64 ((rd_T46 l2 Aa).f0.f2), .int .i64 ((rd_T46 l2 Aa).f0.f3), .int .i64 ((rd_T46 l2 Aa).f1.f0), .int .i64 ((rd_T46 l2 Aa).f1.f1)] 46 (0, 0)) (bq1 Ag Al) hb); replace HB := bS4 HB An Ao Ap Au hb; (try clear hb); obtain ⟨DO, DP, DQ, DR, DS, DT⟩ := bz3 Ac; obtain ⟨DU, DV, DW, DX, DY, DZ, D0, D1, D2, D3, D4, D5⟩ := bz6 Ag) | ((with_reducible refine gate_callee (f := 27) rfl ?_); refine gl 66 Tryz.func27 #[.agg #[.int .i64 AC, .int .i64 AD, .int .i64 AE], .agg #[.int .i64 ((rd_T46 l2 Aa).f0.f0), .int .i64 ((rd_T46 l2 Aa).f0.f1), .int .i64 ((rd_T46 l2 Aa).f0.f2), .int .i64 ((rd_T46 l2 Aa).f0.f3)]] ?_; (with_reducible refine (spec_l11Centred.calls _ _ _ _ _ _ _ _ _ _ Im.out).mono ?_); rintro e IM ⟨rfl, hb⟩; refine ⟨_, rfl, ?_⟩; replace Ac := bB Ac hb; replace Ae := bB Ae hb; replace Ab := bB Ab hb; replace Ag := bB Ag hb; replace HB := bS4 HB An Ao Ap Au hb; (try clear hb)))
          go_roundg CA
          case measure => have := A9.out; have := A0.out; omega
          case rel => exact ⟨(wrap64 (Aa + 1)), (Af), (wrap64 (Ad + 1)), (Ah), (Ai), (Am), (by first | rfl | (simp; done) | (simp [*]; done)), H', ⟨by have := A9.out; have := A0.out; omega⟩, ⟨bkp Ac⟩, ⟨bkp Ae⟩, ⟨bkp Ab⟩, ⟨bbw4 HB An Ao Ap Au⟩⟩
    ·rw [if_neg CP] at H
     exact absurd H (by simp)
   ·rw [if_neg c10] at H
    have CC := decide_eq_false c10
    clear c10
    simp only [Option.some.injEq, Prod.mk.injEq] at H
    obtain ⟨rfl, rfl, rfl, rfl, rfl⟩ := H
    have Hl := Ay.out
    have Hm := Aj.out
    have Hn := Az.out
    have Ho := Ak.out
    obtain ⟨D6, D7, D8, D9, Ea, Eb, Ec, Ed, Ee, Ef⟩ := bz5 Ab
    have Hp := AM.out
    have Hq := AL.out
    obtain ⟨Eg, Eh, Ei, Ej, Ek, El, Em, En, Eo, Ep⟩ := bz5 Ae
    go_wp2
    refine bodyPost_ret (results_cell_row rfl _ _ AO 27 #[.int .i64 Af, .int .i64 Ad, .int .i64 Ah, .int .i64 Ai, .bool Ar] (0, 0) _ rfl (bq0 Ae) Tryz.underlying27 rfl (by kernel_rfl)) rfl ?_
    exact er (bbw3 HB An Ao Ap)
def spec_FactsOf.j0 : Nat → Int → List (S46) → Int → Bool → Int → Int → Int → Option (Int × Int × Int × Int × Bool × Int)
 | 0, _, _, _, _, _, _, _ => none
 | k + 1, x0, x2, x8, Bo, An, Ao, Ap => if Bo = true then (if 5 = 0 then ((spec_l11Facts.f k x0 An Ao Ap x2).bind fun Al => (some (Al.1, Al.2.1, Al.2.2.1, Al.2.2.2.1, Al.2.2.2.2, 0))) else (some (0, 0, 0, 0, false, 5))) else (if x8 = 0 then ((spec_l11Facts.f k x0 An Ao Ap x2).bind fun Am => (some (Am.1, Am.2.1, Am.2.2.1, Am.2.2.2.1, Am.2.2.2.2, 0))) else (some (0, 0, 0, 0, false, x8)))
def spec_FactsOf.f (k : Nat) (a0 : Int) (Ae : Int) (Af : Int) (Ag : Int) (l2 : List (S46)) : Option (Int × Int × Int × Int × Bool × Int) := (spec_l07Code.f k a0 Ae Af Ag l2 true).bind fun Ac => (if Ac = 0 then ((spec_l06Shifts.f k l2).bind fun Ar => (spec_FactsOf.j0 k a0 l2 Ac (decide ((Ar.length : Int) > 1)) Ae Af Ag)) else (spec_FactsOf.j0 k a0 l2 Ac false Ae Af Ag))
theorem spec_FactsOf.calls (k : Nat) (a0 : Int) (Ae : Int) (Af : Int) (Ag : Int) (A2 : Option Addr) (c2 : Nat) (l2 : List (S46)) (r1 : Int) (r2 : Int) (r3 : Int) (r4 : Int) (r5 : Bool) (r6 : Int) (w : World) (hr2 : Kd.C k46 w A2 l2.length l2) (hc2 : l2.length ≤ c2) (h : spec_FactsOf.f k a0 Ae Af Ag l2 = some (r1, r2, r3, r4, r5, r6)) :
  Calls Tryz.prog 5 #[.int .i64 a0, .agg #[.int .i64 Ae, .int .i64 Af, .int .i64 Ag], .slice A2 l2.length c2] w fun e w' => e = .returned (.tuple #[.agg #[.int .i64 r1, .int .i64 r2, .int .i64 r3, .int .i64 r4, .bool r5], .int .i64 r6]) ∧ Below w.heap.size w w' := by
 have hu30 := Tryz.underlying30
 have hu27 := Tryz.underlying27
 have HR2 := Aside0.mk hr2
 have Ba := Aside0.mk hc2
 clear hr2 hc2
 have HB := asd (Below.refl w.heap.size w)
 have H : ((spec_l07Code.f k a0 Ae Af Ag l2 true).bind fun Ac => (if Ac = 0 then ((spec_l06Shifts.f k l2).bind fun Ar => (spec_FactsOf.j0 k a0 l2 Ac (decide ((Ar.length : Int) > 1)) Ae Af Ag)) else (spec_FactsOf.j0 k a0 l2 Ac false Ae Af Ag))) = some (r1, r2, r3, r4, r5, r6) := h
 clear h
 obtain ⟨Ac, A4, H⟩ := ob H
 try dsimp only at H
 have Bb := Aside0.mk H
 clear H
 go_enter Tryz.func5, Tryz.ntmps5
 go_upto_region 2 with (first | ((with_reducible refine gd 4 rfl ?_); (try (refine gate_guard (by rfl) ?_; dsimp only)); refine bx #[.int .i64 Ae, .int .i64 Af, .int .i64 Ag] 30 ?_; intro AC hg w6 Aa hb; have Ad := ngw0 hg HB; replace HB := bS0 HB hb; clear hb hg) | ((with_reducible refine gd 6 rfl ?_); (try (refine gate_guard (by rfl) ?_; dsimp only)); refine bx #[.int .i64 0, .int .i64 0, .int .i64 0, .int .i64 0, .bool false] 27 ?_; intro As hg w7 Ab hb; have Aj := ngw1 hg HB Ad; replace HB := bS1 HB Ad hb; have Ah := nlt hg Aa; have Ai := nsy (nlt hg Aa); replace Aa := bB Aa hb; clear hb hg; have Bp := Ah.out; have Bq := Ai.out; obtain ⟨Av, Aw, Ax, Ay, Az, AA⟩ := bz3 Aa) | ((with_reducible refine gate_callee (f := 11) rfl ?_); refine gl 12 Tryz.func11 #[.int .i64 a0, .agg #[.int .i64 Ae, .int .i64 Af, .int .i64 Ag], .slice A2 l2.length c2, .bool true] ?_; (with_reducible refine (spec_l07Code.calls _ _ _ _ _ _ _ _ _ _ _ ?side1 ?side2 A4.out).mono ?_); (case side1 => exact ks (Kd.C_below HR2.out HB.out)); (case side2 => exact Ba.out); rintro e Bt ⟨rfl, hb⟩; refine ⟨_, rfl, ?_⟩; replace Aa := bB Aa hb; replace Ab := bB Ab hb; replace HB := bS2 HB Ad Aj hb; (try clear hb)))
 (try simp only [Act.put, sA, sB, sC])
 go_cut [20] (fun v20 wc => ∃ (kq : Nat) (Aq : Bool), v20 = .bool Aq ∧ Aside0 (spec_FactsOf.j0 kq a0 l2 Ac Aq Ae Af Ag = some (r1, r2, r3, r4, r5, r6)) ∧ Aside0 (kq ≤ k) ∧ Aside0 (wc.heap[AC]? = some (.cells #[.int .i64 Ae, .int .i64 Af, .int .i64 Ag] 30 (0, 0))) ∧ Aside0 (wc.heap[As]? = some (.cells #[.int .i64 0, .int .i64 0, .int .i64 0, .int .i64 0, .bool false] 27 (0, 0))) ∧ Aside0 (Below w.heap.size w wc))
 case first =>
  have H := Bb.out
  clear Bb
  by_cases At : Ac = 0
  ·rw [if_pos At] at H
   have Ak : (Ac == 0) = true := beq_iff_eq.mpr At
   have Au : (Ac != 0) = false := bne_eq_false_iff_eq.mpr At
   clear At
   (first | rw [Ak] | (simp only [i64_w, i32_w]; rw [Ak]) | skip)
   obtain ⟨Ar, Br, H⟩ := ob H
   try dsimp only at H
   have H' := Aside0.mk H
   clear H
   go_wp2_with (first | (go_at_call 12; (with_reducible refine (spec_l06Shifts.calls _ _ _ _ _ _ ?side1 ?side2 Br.out).mono ?_); (case side1 => exact ks (Kd.C_below HR2.out HB.out)); (case side2 => exact Ba.out); rintro e Bu ⟨v411, rfl, Bh, hb⟩; have AD := asd (Kd.R_lower Bh (bsz2 HB Ad Aj)); replace Aa := bB Aa hb; replace Ab := bB Ab hb; replace HB := bS2 HB Ad Aj hb; (try clear hb); (try clear hb2); (try clear hk); (try clear hi); (try clear Bh); obtain ⟨Ao14, co14, eo14⟩ := Kd.R_slice AD.out; subst eo14))
   go_meet
   case rel => exact ⟨_, (decide ((Ar.length : Int) > 1)), (by first | rfl | (simp; done) | (simp [*]; done)), H', ⟨by first | omega | exact Nat.le_refl _⟩, ⟨bkp Aa⟩, ⟨bkp Ab⟩, ⟨bbw2 HB Ad Aj⟩⟩
  ·rw [if_neg At] at H
   have Ak : (Ac == 0) = false := beq_eq_false_iff_ne.mpr At
   have Au : (Ac != 0) = true := bne_iff_ne.mpr At
   (first | rw [Ak] | (simp only [i64_w, i32_w]; rw [Ak]) | skip)
   have H' := Aside0.mk H
   clear H
   go_wp2
   go_meet
   case rel => exact ⟨_, (false), (by first | rfl | (simp; done) | (simp [*]; done)), H', ⟨by first | omega | exact Nat.le_refl _⟩, ⟨bkp Aa⟩, ⟨bkp Ab⟩, ⟨bbw2 HB Ad Aj⟩⟩
 case rest =>
  clear Bb
  try clear c2
  try clear At
  try clear Ak
  try clear Au
  try clear Av
  try clear Aw
  try clear Ax
  try clear Ay
  try clear Az
  try clear AA
  obtain ⟨kq, Aq, rfl, HA, Bv, Aa, Ab, HB⟩ := hcut
  cases kq with
  | zero => exact absurd HA.out (by simp [spec_FactsOf.j0])
  | succ Bw =>
   have H := HA.out
   clear HA
   simp only [spec_FactsOf.j0] at H
   by_cases AG : Aq = true
   subst AG
   replace H := ifT H
   by_cases AH : 5 = 0
   rotate_left
   rw [if_neg AH] at H
   have Bi : (5 == 0) = false := beq_eq_false_iff_ne.mpr AH
   have Bj : (5 != 0) = true := bne_iff_ne.mpr AH
   rotate_left
   replace AG := Bool.eq_false_iff.mpr AG
   subst AG
   replace H := ifF H
   by_cases AB : Ac = 0
   rw [if_pos AB] at H
   have AE : (Ac == 0) = true := beq_iff_eq.mpr AB
   have AF : (Ac != 0) = false := bne_eq_false_iff_eq.mpr AB
   clear AB
   obtain ⟨⟨Bc, Bd, Be, Bf, Bg⟩, Bs, H⟩ := ob H
   try dsimp only at H
   rotate_left
   rw [if_neg AB] at H
   have AE : (Ac == 0) = false := beq_eq_false_iff_ne.mpr AB
   have AF : (Ac != 0) = true := bne_iff_ne.mpr AB
   rotate_left
   ·exact absurd AH (by decide)
   rotate_left 3
   all_goals
    simp only [Option.some.injEq, Prod.mk.injEq] at H
    obtain ⟨rfl, rfl, rfl, rfl, rfl, rfl⟩ := H
   rotate_left
   ·have Bk := Ah.out
    have Bl := Ai.out
    obtain ⟨AI, AJ, AK, AL, AM, AN⟩ := bz3 Aa
    go_wp2_with (first | ((with_reducible refine gate_callee (f := 13) rfl ?_); refine gl 28 Tryz.func13 #[.int .i64 a0, .agg #[.int .i64 Ae, .int .i64 Af, .int .i64 Ag], .slice A2 l2.length c2] ?_; (with_reducible refine (spec_l11Facts.calls _ _ _ _ _ _ _ _ _ _ _ _ _ _ ?side1 ?side2 Bs.out).mono ?_); (case side1 => exact ks (Kd.C_below HR2.out HB.out)); (case side2 => exact Ba.out); rintro e Bx ⟨rfl, hb⟩; refine ⟨_, rfl, ?_⟩; replace Aa := bB Aa hb; replace Ab := bB Ab hb; replace HB := bS2 HB Ad Aj hb; (try clear hb); obtain ⟨AO, AP, AQ, AR, AS, AT, AU, AV, AW, AX⟩ := bz5 Ab))
    refine bodyPost_ret (results_ct rfl _ _ As 27 #[.int .i64 Bc, .int .i64 Bd, .int .i64 Be, .int .i64 Bf, .bool Bg] (0, 0) _ rfl (bq0 Ab) Tryz.underlying27 rfl (by kernel_rfl)) rfl ?_
    exact er (bbw2 HB Ad Aj)
   rotate_left
   all_goals
    have Bm := Ai.out
    have Bn := Ah.out
    obtain ⟨AY, AZ, A0, A1, A3, A5, A6, A7, A8, A9⟩ := bz5 Ab
    go_wp2
    refine bodyPost_ret (results_ct rfl _ _ As 27 #[.int .i64 0, .int .i64 0, .int .i64 0, .int .i64 0, .bool false] (0, 0) _ rfl (bq0 Ab) Tryz.underlying27 rfl (by kernel_rfl)) rfl ?_
    exact er (bbw2 HB Ad Aj)
def laws_toLattice.f (Ae : Int) (Af : Int) (Ag : Int) : Option (Int × Int × Int) := some (Ae, Af, Ag)
theorem laws_toLattice.calls (Ae : Int) (Af : Int) (Ag : Int) (r1 : Int) (r2 : Int) (r3 : Int) (w : World) (h : laws_toLattice.f Ae Af Ag = some (r1, r2, r3)) :
  Calls Tryz.prog 6 #[.agg #[.int .i64 Ae, .int .i64 Af, .int .i64 Ag]] w fun e w' => e = .returned (.agg #[.int .i64 r1, .int .i64 r2, .int .i64 r3]) ∧ Below w.heap.size w w' := by
 have hu23 := Tryz.underlying23
 have hu30 := Tryz.underlying30
 have HB := asd (Below.refl w.heap.size w)
 have H : (some (Ae, Af, Ag)) = some (r1, r2, r3) := h
 clear h
 simp only [Option.some.injEq, Prod.mk.injEq] at H
 obtain ⟨rfl, rfl, rfl⟩ := H
 go_enter Tryz.func6, Tryz.ntmps6
 go_wp2_with (first | ((with_reducible refine gd 1 rfl ?_); refine bx #[.int .i64 Ae, .int .i64 Af, .int .i64 Ag] 23 ?_; intro AI hg w2 Aa hb; have Ad := ngw0 hg HB; replace HB := bS0 HB hb; clear hb hg) | ((with_reducible refine gd 2 rfl ?_); refine bx #[.int .i64 0, .int .i64 0, .int .i64 0] 30 ?_; intro An hg w3 Ab hb; have Am := ngw1 hg HB Ad; replace HB := bS1 HB Ad hb; have Ah := nlt hg Aa; have Ai := nsy (nlt hg Aa); replace Aa := bB Aa hb; clear hb hg) | ((with_reducible refine gd 3 rfl ?_); refine bx #[.int .i64 0, .int .i64 0, .int .i64 0] 30 ?_; intro AJ hg w4 Ao hb; have Ap := ngw2 hg HB Ad Am; replace HB := bS2 HB Ad Am hb; have Aj := nlt hg Aa; have Ak := nsy (nlt hg Aa); replace Aa := bB Aa hb; have Ac := nlt hg Ab; have Al := nsy (nlt hg Ab); replace Ab := bB Ab hb; clear hb hg; have AK := Ah.out; have AL := Ai.out; have AM := Aj.out; have AN := Ak.out; obtain ⟨Aw, Ax, Ay, Az, AA, AB⟩ := bz3 Aa; have AO := Al.out; have AP := Ac.out; obtain ⟨AC, AD, AE, AF, AG, AH⟩ := bz3 Ao; obtain ⟨Aq, Ar, As, At, Au, Av⟩ := bz3 Ab))
 refine bodyPost_ret (results_cell_row rfl _ _ An 30 #[.int .i64 Ae, .int .i64 Af, .int .i64 Ag] (0, 0) _ rfl (bq1 Ab Ac) Tryz.underlying30 rfl (by kernel_rfl)) rfl ?_
 exact er (bbw3 HB Ad Am Ap)
def laws_toMat.f (Ae : Int) (Af : Int) (Ag : Int) (Ah : Int) : Option (Int × Int × Int × Int) := some (Ae, Af, Ag, Ah)
theorem laws_toMat.calls (Ae : Int) (Af : Int) (Ag : Int) (Ah : Int) (r1 : Int) (r2 : Int) (r3 : Int) (r4 : Int) (w : World) (h : laws_toMat.f Ae Af Ag Ah = some (r1, r2, r3, r4)) :
  Calls Tryz.prog 28 #[.agg #[.int .i64 Ae, .int .i64 Af, .int .i64 Ag, .int .i64 Ah]] w fun e w' => e = .returned (.agg #[.int .i64 r1, .int .i64 r2, .int .i64 r3, .int .i64 r4]) ∧ Below w.heap.size w w' := by
 have hu48 := Tryz.underlying48
 have hu42 := Tryz.underlying42
 have HB := asd (Below.refl w.heap.size w)
 have H : (some (Ae, Af, Ag, Ah)) = some (r1, r2, r3, r4) := h
 clear h
 simp only [Option.some.injEq, Prod.mk.injEq] at H
 obtain ⟨rfl, rfl, rfl, rfl⟩ := H
 go_enter Tryz.func28, Tryz.ntmps28
 go_wp2_with (first | ((with_reducible refine gd 1 rfl ?_); refine bx #[.int .i64 Ae, .int .i64 Af, .int .i64 Ag, .int .i64 Ah] 48 ?_; intro AP hg w2 Aa hb; have Ad := ngw0 hg HB; replace HB := bS0 HB hb; clear hb hg) | ((with_reducible refine gd 2 rfl ?_); refine bx #[.int .i64 0, .int .i64 0, .int .i64 0, .int .i64 0] 42 ?_; intro Ao hg w3 Ab hb; have An := ngw1 hg HB Ad; replace HB := bS1 HB Ad hb; have Ai := nlt hg Aa; have Aj := nsy (nlt hg Aa); replace Aa := bB Aa hb; clear hb hg) | ((with_reducible refine gd 3 rfl ?_); refine bx #[.int .i64 0, .int .i64 0, .int .i64 0, .int .i64 0] 42 ?_; intro AQ hg w4 Ap hb; have Aq := ngw2 hg HB Ad An; replace HB := bS2 HB Ad An hb; have Ak := nlt hg Aa; have Al := nsy (nlt hg Aa); replace Aa := bB Aa hb; have Ac := nlt hg Ab; have Am := nsy (nlt hg Ab); replace Ab := bB Ab hb; clear hb hg; have AR := Ai.out; have AS := Aj.out; have AT := Ak.out; have AU := Al.out; obtain ⟨Az, AA, AB, AC, AD, AE, AF, AG⟩ := bz4 Aa; have AV := Am.out; have AW := Ac.out; obtain ⟨AH, AI, AJ, AK, AL, AM, AN, AO⟩ := bz4 Ap; obtain ⟨Ar, As, At, Au, Av, Aw, Ax, Ay⟩ := bz4 Ab))
 refine bodyPost_ret (results_cell_row rfl _ _ Ao 42 #[.int .i64 Ae, .int .i64 Af, .int .i64 Ag, .int .i64 Ah] (0, 0) _ rfl (bq1 Ab Ac) Tryz.underlying42 rfl (by kernel_rfl)) rfl ?_
 exact er (bbw3 HB Ad An Aq)
def laws_toVec.f (Ae : Int) (Af : Int) : Option (Int × Int) := some (Ae, Af)
theorem laws_toVec.calls (Ae : Int) (Af : Int) (r1 : Int) (r2 : Int) (w : World) (h : laws_toVec.f Ae Af = some (r1, r2)) :
  Calls Tryz.prog 29 #[.agg #[.int .i64 Ae, .int .i64 Af]] w fun e w' => e = .returned (.agg #[.int .i64 r1, .int .i64 r2]) ∧ Below w.heap.size w w' := by
 have hu49 := Tryz.underlying49
 have hu44 := Tryz.underlying44
 have HB := asd (Below.refl w.heap.size w)
 have H : (some (Ae, Af)) = some (r1, r2) := h
 clear h
 simp only [Option.some.injEq, Prod.mk.injEq] at H
 obtain ⟨rfl, rfl⟩ := H
 go_enter Tryz.func29, Tryz.ntmps29
 go_wp2_with (first | ((with_reducible refine gd 1 rfl ?_); refine bx #[.int .i64 Ae, .int .i64 Af] 49 ?_; intro AB hg w2 Aa hb; have Ad := ngw0 hg HB; replace HB := bS0 HB hb; clear hb hg) | ((with_reducible refine gd 2 rfl ?_); refine bx #[.int .i64 0, .int .i64 0] 44 ?_; intro Am hg w3 Ab hb; have Al := ngw1 hg HB Ad; replace HB := bS1 HB Ad hb; have Ag := nlt hg Aa; have Ah := nsy (nlt hg Aa); replace Aa := bB Aa hb; clear hb hg) | ((with_reducible refine gd 3 rfl ?_); refine bx #[.int .i64 0, .int .i64 0] 44 ?_; intro AC hg w4 An hb; have Ao := ngw2 hg HB Ad Al; replace HB := bS2 HB Ad Al hb; have Ai := nlt hg Aa; have Aj := nsy (nlt hg Aa); replace Aa := bB Aa hb; have Ac := nlt hg Ab; have Ak := nsy (nlt hg Ab); replace Ab := bB Ab hb; clear hb hg; have AD := Ag.out; have AE := Ah.out; have AF := Ai.out; have AG := Aj.out; obtain ⟨At, Au, Av, Aw⟩ := bz2 Aa; have AH := Ak.out; have AI := Ac.out; obtain ⟨Ax, Ay, Az, AA⟩ := bz2 An; obtain ⟨Ap, Aq, Ar, As⟩ := bz2 Ab))
 refine bodyPost_ret (results_cell_row rfl _ _ Am 44 #[.int .i64 Ae, .int .i64 Af] (0, 0) _ rfl (bq1 Ab Ac) Tryz.underlying44 rfl (by kernel_rfl)) rfl ?_
 exact er (bbw3 HB Ad Al Ao)
end Go.Proofs.YtfmjboloeabjmaaGreat.PA
