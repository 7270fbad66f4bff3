import Derived.Test.YtfmjboloeabjmaaGreatPAx0
import Derived.Test.YtfmjboloeabjmaaGreatPAx3
import Derived.Test.YtfmjboloeabjmaaGreatPAx12
namespace Go.Proofs.YtfmjboloeabjmaaGreat.PA
open Go.RowKit Go.Proofs.YtfmjboloeabjmaaGreatW.PrintWords Go.Proofs.YtfmjboloeabjmaaGreatW.PrintLast Go.Proofs.YtfmjboloeabjmaaGreatW.PrintMore
attribute [local go_sem] max2_int min2_int max_two min_two max_three min_three max_four min_four   -- for this text's walks alone
set_option linter.unusedVariables false
set_option maxHeartbeats 8000000
set_option maxRecDepth 100000
set_option linter.unusedSimpArgs false
def laws_toMotion.f (Ah : Int) (Ai : Int) (Aj : Int) (Ak : Int) (Al : Int) (Am : Int) : Option (Int × Int × Int × Int × Int × Int) := (laws_toMat.f Ah Ai Aj Ak).bind fun Ac => ((laws_toVec.f Al Am).bind fun An => (some (Ac.1, Ac.2.1, Ac.2.2.1, Ac.2.2.2, An.1, An.2)))
theorem laws_toMotion.calls (Ah : Int) (Ai : Int) (Aj : Int) (Ak : Int) (Al : Int) (Am : Int) (r1 : Int) (r2 : Int) (r3 : Int) (r4 : Int) (r5 : Int) (r6 : Int) (w : World) (h : laws_toMotion.f Ah Ai Aj Ak Al Am = some (r1, r2, r3, r4, r5, r6)) :
  Calls Tryz.prog 14 #[.agg #[.int .i64 Ah, .int .i64 Ai, .int .i64 Aj, .int .i64 Ak, .int .i64 Al, .int .i64 Am]] w fun e w' => e = .returned (.agg #[.int .i64 r1, .int .i64 r2, .int .i64 r3, .int .i64 r4, .int .i64 r5, .int .i64 r6]) ∧ Below w.heap.size w w' := by
 have hu51 := Tryz.underlying51
 have hu46 := Tryz.underlying46
 have hu48 := Tryz.underlying48
 have hu42 := Tryz.underlying42
 have hu49 := Tryz.underlying49
 have hu44 := Tryz.underlying44
 have HB := asd (Below.refl w.heap.size w)
 have H : ((laws_toMat.f Ah Ai Aj Ak).bind fun Ac => ((laws_toVec.f Al Am).bind fun An => (some (Ac.1, Ac.2.1, Ac.2.2.1, Ac.2.2.2, An.1, An.2)))) = some (r1, r2, r3, r4, r5, r6) := h
 clear h
 obtain ⟨⟨Av, Aw, Ax, Ay⟩, A2, H⟩ := ob H
 try dsimp only at H
 obtain ⟨⟨Bp, Bq⟩, A3, H⟩ := ob H
 try dsimp only at H
 simp only [Option.some.injEq, Prod.mk.injEq] at H
 obtain ⟨rfl, rfl, rfl, rfl, rfl, rfl⟩ := H
 go_enter Tryz.func14, Tryz.ntmps14
 go_wp2_with (first | ((with_reducible refine gd 1 rfl ?_); refine bx #[.int .i64 Ah, .int .i64 Ai, .int .i64 Aj, .int .i64 Ak, .int .i64 Al, .int .i64 Am] 51 ?_; intro Az hg w4 Aa hb; have Ae := ngw0 hg HB; replace HB := bS0 HB hb; clear hb hg) | ((with_reducible refine gd 2 rfl ?_); refine bx #[.int .i64 0, .int .i64 0, .int .i64 0, .int .i64 0, .int .i64 0, .int .i64 0] 46 ?_; intro Au hg w5 Ab hb; have Ao := ngw1 hg HB Ae; replace HB := bS1 HB Ae hb; have Ap := nlt hg Aa; have Aq := nsy (nlt hg Aa); replace Aa := bB Aa hb; clear hb hg) | ((with_reducible refine gd 3 rfl ?_); refine bx #[.int .i64 0, .int .i64 0, .int .i64 0, .int .i64 0, .int .i64 0, .int .i64 0] 46 ?_; intro AA hg w6 Af hb; have At := ngw2 hg HB Ae Ao; replace HB := bS2 HB Ae Ao hb; have Ag := nlt hg Aa; have Ar := nsy (nlt hg Aa); replace Aa := bB Aa hb; have Ad := nlt hg Ab; have As := nsy (nlt hg Ab); replace Ab := bB Ab hb; clear hb hg; have BF := Ap.out; have BG := Aq.out; have BH := Ag.out; have BI := Ar.out; obtain ⟨Br, Bs, Bt, Bu, Bv, Bw, Bx, By, Bz, BA, BB, BC⟩ := bz6 Aa) | ((with_reducible refine gate_callee (f := 28) rfl ?_); refine gl 6 Tryz.func28 #[.agg #[.int .i64 Ah, .int .i64 Ai, .int .i64 Aj, .int .i64 Ak]] ?_; (with_reducible refine (laws_toMat.calls _ _ _ _ _ _ _ _ _ A2.out).mono ?_); rintro e BJ ⟨rfl, hb⟩; refine ⟨_, rfl, ?_⟩; replace Aa := bB Aa hb; replace Ab := bB Ab hb; replace Af := bB Af hb; replace HB := bS3 HB Ae Ao At hb; (try clear hb); have BD := As.out; have BE := Ad.out; obtain ⟨AB, AC, AD, AE, AF, AG, AH, AI, AJ, AK, AL, AM⟩ := bz6 Af; obtain ⟨AN, AO, AP, AQ, AR, AS, AT, AU, AV, AW, AX, AY⟩ := bz6 Aa) | ((with_reducible refine gate_callee (f := 29) rfl ?_); refine gl 10 Tryz.func29 #[.agg #[.int .i64 Al, .int .i64 Am]] ?_; (with_reducible refine (laws_toVec.calls _ _ _ _ _ A3.out).mono ?_); rintro e BK ⟨rfl, hb⟩; refine ⟨_, rfl, ?_⟩; replace Aa := asd (blk_below (g := Az) (o := .cells #[.int .i64 Ah, .int .i64 Ai, .int .i64 Aj, .int .i64 Ak, .int .i64 Al, .int .i64 Am] 51 (0, 0)) (bq1 Aa Ag) hb); replace Ab := asd (blk_below (g := Au) (o := .cells #[.int .i64 0, .int .i64 0, .int .i64 0, .int .i64 0, .int .i64 0, .int .i64 0] 46 (0, 0)) (bq1 Ab Ad) hb); replace Af := asd (blk_below (g := AA) (o := .cells #[.int .i64 Av, .int .i64 Aw, .int .i64 Ax, .int .i64 Ay, .int .i64 0, .int .i64 0] 46 (0, 0)) (bq0 Af) hb); replace HB := bS3 HB Ae Ao At hb; (try clear hb); obtain ⟨AZ, A0, A1, A4, A5, A6, A7, A8, A9, Ba, Bb, Bc⟩ := bz6 Af; obtain ⟨Bd, Be, Bf, Bg, Bh, Bi, Bj, Bk, Bl, Bm, Bn, Bo⟩ := bz6 Ab))
 refine bodyPost_ret (results_cell_row rfl _ _ Au 46 #[.int .i64 Av, .int .i64 Aw, .int .i64 Ax, .int .i64 Ay, .int .i64 Bp, .int .i64 Bq] (0, 0) _ rfl (bq1 Ab Ad) Tryz.underlying46 rfl (by kernel_rfl)) rfl ?_
 exact er (bbw3 HB Ae Ao At)
def laws_toMotionS.l0 : Nat → List (S51) → List (S46) → Int → Option ((List (S46)))
 | 0, _, _, _ => none
 | k + 1, x0, x3, x4 => if x4 < (x0.length : Int) then (if 0 ≤ x4 then ((laws_toMotion.f ((rd_T51 x0 x4).f0.f0) ((rd_T51 x0 x4).f0.f1) ((rd_T51 x0 x4).f0.f2) ((rd_T51 x0 x4).f0.f3) ((rd_T51 x0 x4).f1.f0) ((rd_T51 x0 x4).f1.f1)).bind fun Ad => (if x4 < (x3.length : Int) then (laws_toMotionS.l0 k x0 (x3.set (x4 : Int).toNat (⟨(⟨Ad.1, Ad.2.1, Ad.2.2.1, Ad.2.2.2.1⟩ : S42), (⟨Ad.2.2.2.2.1, Ad.2.2.2.2.2⟩ : S44)⟩ : S46)) (wrap64 (x4 + 1))) else (none))) else (none)) else (some x3)
def laws_toMotionS.f (k : Nat) (l0 : List (S51)) : Option ((List (S46))) := if 0 ≤ (l0.length : Int) then (if ((l0.length : Int) : Int).toNat ≤ 5864062014805 then (laws_toMotionS.l0 k l0 (List.replicate ((l0.length : Int) : Int).toNat z46) 0) else (none)) else (none)
theorem laws_toMotionS.calls (k : Nat) (A0 : Option Addr) (c0 : Nat) (l0 : List (S51)) (r : List (S46)) (w : World) (hr0 : Kd.C k51 w A0 l0.length l0) (hc0 : l0.length ≤ c0) (h : laws_toMotionS.f k l0 = some r) :
  Calls Tryz.prog 7 #[.slice A0 l0.length c0] w fun e w' => ∃ v0_ : Value, e = .returned (v0_) ∧ Kd.R k46 46 w' w.heap.size (fun _ => True) v0_ r ∧ Below w.heap.size w w' := by
 have hu51 := Tryz.underlying51
 have hu46 := Tryz.underlying46
 have HR0 := Aside0.mk hr0
 have AV := Aside0.mk hc0
 clear hr0 hc0
 have HB := asd (Below.refl w.heap.size w)
 have H : (if 0 ≤ (l0.length : Int) then (if ((l0.length : Int) : Int).toNat ≤ 5864062014805 then (laws_toMotionS.l0 k l0 (List.replicate ((l0.length : Int) : Int).toNat z46) 0) else (none)) else (none)) = some r := h
 clear h
 by_cases c2 : 0 ≤ (l0.length : Int)
 ·rw [if_pos c2] at H
  have AG := eq_true c2
  have AH := decide_eq_true c2
  clear c2
  by_cases c3 : ((l0.length : Int) : Int).toNat ≤ 5864062014805
  ·rw [if_pos c3] at H
   have AI := eq_true c3
   have AJ := decide_eq_true c3
   clear c3
   obtain ⟨Av, Ae⟩ : ∃ y_ : List (S46), y_ = (List.replicate ((l0.length : Int) : Int).toNat z46) := ⟨_, rfl⟩
   replace H : (laws_toMotionS.l0 k l0 Av 0) = some r := by first | (rw [Ae]; with_reducible exact H) | (have H2_ := (Option.bind_some _ _).symm.trans H; rw [Ae]; with_reducible exact H2_) | (have H2_ := (Option.bind_some _ _).symm.trans H; with_reducible exact H2_) | with_reducible exact H | (rw [Ae]; exact H) | exact H
   have An := Aside0.mk Ae
   clear Ae
   have H' := Aside0.mk H
   clear H
   go_enter Tryz.func7, Tryz.ntmps7
   go_wp2_with (first | ((with_reducible refine gd 7 rfl ?_); refine Kd.R_make k46 _ 46 rfl (N := 7) rfl 32 _ _ rfl (l0.length : Int) rfl rfl Tryz.underlying32 (.agg #[(.int .i64 0), (.int .i64 0), (.int .i64 0), (.int .i64 0), (.int .i64 0), (.int .i64 0)]) 48 info46 rfl (by decide) (by omega) z46 (ok := fun _ => True) (okp := fun _ => True) (k46_mkM _ _ _ z46 ) (fun _ hk => hk) trivial (od) (Nat.le_trans (Nat.mul_le_mul_right _ (od : (l0.length : Int).toNat ≤ 5864062014805)) (by omega)) (Below.refl _ _) (Nat.le_refl _) ?_; intro v442 w4 Aw hb hg_ hnew_; clear hg_ hnew_; (first | rw [← An.out] at Aw | (simp only [Int.reduceToNat] at Aw; rw [← An.out] at Aw)); have Ax := asd (Kd.R_lower Aw (bsz0 HB)); replace HB := bS0 HB hb; clear hb Aw))
   go_loopg [4] k (fun kq v4 w' => ∃ (Ab : List (S46)) (Aa : Int), v4 = .int .i64 Aa ∧ Aside0 (laws_toMotionS.l0 kq l0 Ab Aa = some r) ∧ Aside0 (kq ≤ k) ∧ Aside0 (Kd.R k46 46 w' w.heap.size (fun _ => True) v442 Ab) ∧ Aside0 (Below w.heap.size w w'))
   case atStart => exact ⟨(Av), (0), (by first | rfl | (simp; done) | (simp [*]; done)), H', ⟨Nat.le_refl _⟩, ⟨by (with_reducible repeat (first | apply Kd.R_alloc | apply Kd.R_drewN | apply Kd.R_drew)); exact Ax.out⟩, ⟨bbw0 HB⟩⟩
   case round =>
    clear H'
    try clear c2
    try clear AG
    try clear AH
    try clear c3
    try clear AI
    try clear AJ
    obtain ⟨Ab, Aa, rfl, HA, AS, Ac, HB⟩ := hrel
    cases gk with
    | zero => exact absurd HA.out (by simp [laws_toMotionS.l0])
    | succ k1 =>
     have H := HA.out
     clear HA
     simp only [laws_toMotionS.l0] at H
     by_cases c6 : Aa < (l0.length : Int)
     ·rw [if_pos c6] at H
      have AK := decide_eq_true c6
      clear c6
      by_cases c7 : 0 ≤ Aa
      ·rw [if_pos c7] at H
       have AT := decide_eq_true c7
       clear c7
       obtain ⟨⟨Ah, Ai, Aj, Ak, Al, Am⟩, A8, H⟩ := ob H
       try dsimp only at H
       by_cases c9 : Aa < (Ab.length : Int)
       ·rw [if_pos c9] at H
        have AU := decide_eq_true c9
        clear c9
        obtain ⟨Ao, Af⟩ : ∃ y_ : List (S46), y_ = (Ab.set (Aa : Int).toNat (⟨(⟨Ah, Ai, Aj, Ak⟩ : S42), (⟨Al, Am⟩ : S44)⟩ : S46)) := ⟨_, rfl⟩
        replace H : (laws_toMotionS.l0 k1 l0 Ao (wrap64 (Aa + 1))) = some r := by first | (rw [Af]; with_reducible exact H) | (have H2_ := (Option.bind_some _ _).symm.trans H; rw [Af]; with_reducible exact H2_) | (have H2_ := (Option.bind_some _ _).symm.trans H; with_reducible exact H2_) | with_reducible exact H | (rw [Af]; exact H) | exact H
        have Ay := Aside0.mk Af
        clear Af
        have H' := Aside0.mk H
        clear H
        obtain ⟨p444, q444, ad444, e444, AA, AB, AC, AD, AE, AF⟩ := at_T51x HR0.out HB Aa
        cases e444
        go_wp2_with (first | ((with_reducible refine gate_callee (f := 14) rfl ?_); refine gl 20 Tryz.func14 #[.agg #[.int .i64 ((rd_T51 l0 Aa).f0.f0), .int .i64 ((rd_T51 l0 Aa).f0.f1), .int .i64 ((rd_T51 l0 Aa).f0.f2), .int .i64 ((rd_T51 l0 Aa).f0.f3), .int .i64 ((rd_T51 l0 Aa).f1.f0), .int .i64 ((rd_T51 l0 Aa).f1.f1)]] ?_; (with_reducible refine (laws_toMotion.calls _ _ _ _ _ _ _ _ _ _ _ _ _ A8.out).mono ?_); rintro e Ag ⟨rfl, hb⟩; refine ⟨_, rfl, ?_⟩; replace Ac := asd (Kd.R_below (kr Ac) hb); replace HB := bS0 HB hb; (try clear hb); have p10 : 0 ≤ (Aa : Int) := od; have q10 : (Aa : Int) < ((Ab.length : Int) : Int) := od; obtain ⟨go10, co10, eo10, Az, gl10, cl10, HG10⟩ := Kd.R_form Ac.out (by omega); (first | cases eo10 | (injection eo10 with ea_ en_ ec_; (first | subst ea_ | (injection ea_ with ea_; subst ea_)); subst ec_; clear en_)); have GB10 := Aside0.mk Az; have GG10 := Aside0.mk HG10; clear Az gl10 HG10; obtain ⟨ce10, hcl10, hM10, hcc10, hfr10⟩ := Kd.R_elem Ac.out z46 (Aa : Int) p10 q10; obtain rfl := k46_openM hM10; have AL : Ag.cell? ⟨go10, (Aa : Int).toNat * 6, none⟩ = some (.int .i64 ((rd_T46 Ab Aa).f0.f0)) := hcc10 0 _ rfl; have AM : Ag.cell? ⟨go10, (Aa : Int).toNat * 6 + 1, none⟩ = some (.int .i64 ((rd_T46 Ab Aa).f0.f1)) := hcc10 1 _ rfl; have AN : Ag.cell? ⟨go10, (Aa : Int).toNat * 6 + 2, none⟩ = some (.int .i64 ((rd_T46 Ab Aa).f0.f2)) := hcc10 2 _ rfl; have AO : Ag.cell? ⟨go10, (Aa : Int).toNat * 6 + 3, none⟩ = some (.int .i64 ((rd_T46 Ab Aa).f0.f3)) := hcc10 3 _ rfl; have AP : Ag.cell? ⟨go10, (Aa : Int).toNat * 6 + 4, none⟩ = some (.int .i64 ((rd_T46 Ab Aa).f1.f0)) := hcc10 4 _ rfl; have AQ : Ag.cell? ⟨go10, (Aa : Int).toNat * 6 + 5, none⟩ = some (.int .i64 ((rd_T46 Ab Aa).f1.f1)) := hcc10 5 _ rfl; have hf10_0 : Ag.frozen? ⟨go10, (Aa : Int).toNat * 6, none⟩ = false := hfr10 0; have hf10_1 : Ag.frozen? ⟨go10, (Aa : Int).toNat * 6 + 1, none⟩ = false := hfr10 1; have hf10_2 : Ag.frozen? ⟨go10, (Aa : Int).toNat * 6 + 2, none⟩ = false := hfr10 2; have hf10_3 : Ag.frozen? ⟨go10, (Aa : Int).toNat * 6 + 3, none⟩ = false := hfr10 3; have hf10_4 : Ag.frozen? ⟨go10, (Aa : Int).toNat * 6 + 4, none⟩ = false := hfr10 4; have hf10_5 : Ag.frozen? ⟨go10, (Aa : Int).toNat * 6 + 5, none⟩ = false := hfr10 5; clear hcl10 hcc10 hfr10 hM10; replace p10 := eq_true p10; replace q10 := eq_true q10; have HX12 := asd (show Kd.R k46 46 Ag w.heap.size (fun _ => True) (.slice (some ⟨go10, 0, none⟩) Ab.length co10) Ab from (kr Ac)); obtain ⟨ce12, hcl12, hM12, hcc12, hfr12⟩ := Kd.R_elem HX12.out z46 (Aa : Int) (od) (by have h_ : (Aa : Int) < ((Ab.length : Int) : Int) := od; first | exact h_ | (have e_ := (Kd.R_reads' Ac.out).1; omega) | simpa using h_); obtain rfl := k46_openM hM12; have HP12 := Kd.R_seg HX12.out (Aa : Int) (od) (by have h_ : (Aa : Int) < ((Ab.length : Int) : Int) := od; first | exact h_ | (have e_ := (Kd.R_reads' Ac.out).1; omega) | simpa using h_) (seg := [.int .i64 Ah, .int .i64 Ai, .int .i64 Aj, .int .i64 Ak, .int .i64 Al, .int .i64 Am]) (j := 0) hcl12 hcc12 (show 6 ≤ 6 from by decide) (x' := (⟨(⟨Ah, Ai, Aj, Ak⟩ : S42), (⟨Al, Am⟩ : S44)⟩ : S46)) (k46_mkM _ _ _ (⟨(⟨Ah, Ai, Aj, Ak⟩ : S42), (⟨Al, Am⟩ : S44)⟩ : S46) ) (fun _ hk => hk); have Ap := hcc12 0 _ rfl; (try simp only [show (k46).sz = 6 from rfl, Nat.mul_one, Nat.add_zero] at Ap); have hf12_0 := hfr12 0; (try simp only [show (k46).sz = 6 from rfl, Nat.mul_one, Nat.add_zero] at hf12_0); have Aq := hcc12 1 _ rfl; (try simp only [show (k46).sz = 6 from rfl, Nat.mul_one, Nat.add_zero] at Aq); have hf12_1 := hfr12 1; (try simp only [show (k46).sz = 6 from rfl, Nat.mul_one, Nat.add_zero] at hf12_1); have Ar := hcc12 2 _ rfl; (try simp only [show (k46).sz = 6 from rfl, Nat.mul_one, Nat.add_zero] at Ar); have hf12_2 := hfr12 2; (try simp only [show (k46).sz = 6 from rfl, Nat.mul_one, Nat.add_zero] at hf12_2); have As := hcc12 3 _ rfl; (try simp only [show (k46).sz = 6 from rfl, Nat.mul_one, Nat.add_zero] at As); have hf12_3 := hfr12 3; (try simp only [show (k46).sz = 6 from rfl, Nat.mul_one, Nat.add_zero] at hf12_3); have At := hcc12 4 _ rfl; (try simp only [show (k46).sz = 6 from rfl, Nat.mul_one, Nat.add_zero] at At); have hf12_4 := hfr12 4; (try simp only [show (k46).sz = 6 from rfl, Nat.mul_one, Nat.add_zero] at hf12_4); have Au := hcc12 5 _ rfl; (try simp only [show (k46).sz = 6 from rfl, Nat.mul_one, Nat.add_zero] at Au); have hf12_5 := hfr12 5; (try simp only [show (k46).sz = 6 from rfl, Nat.mul_one, Nat.add_zero] at hf12_5); clear hcl12 hcc12 hfr12 hM12) | ((with_reducible refine gate_store (t := 46) (p := 21) rfl ?_); refine store_event (t := 46) (p := 21) (v := ?vo_w13) (w1 := ((((((Ag.setCell ⟨go10, (Aa : Int).toNat * 6, none⟩ (.int .i64 Ah)).setCell ⟨go10, (Aa : Int).toNat * 6 + 1, none⟩ (.int .i64 Ai)).setCell ⟨go10, (Aa : Int).toNat * 6 + 2, none⟩ (.int .i64 Aj)).setCell ⟨go10, (Aa : Int).toNat * 6 + 3, none⟩ (.int .i64 Ak)).setCell ⟨go10, (Aa : Int).toNat * 6 + 4, none⟩ (.int .i64 Al)).setCell ⟨go10, (Aa : Int).toNat * 6 + 5, none⟩ (.int .i64 Am))) ?hg ?ho ?hn ?hr ?_; (case ho => rfl); (case hg => rfl); (case hn => rfl); (case hr => first | (go_simp; done) | (go_simp; rfl)); intro AR hw; have hg : Ag.grownBy AR (some go10) := (by rw [hw]; exact HP12.2); have hp_ : Kd.R k46 46 AR w.heap.size (fun _ => True) (.slice (some ⟨go10, 0, none⟩) Ab.length co10) Ao := (by rw [hw, Ay.out]; exact HP12.1); clear HP12; replace Ac := asd (hp_); replace HB := asd ((by rw [hw]; exact below_set (below_set (below_set (below_set (below_set (below_set (HB.out) GB10.out) GB10.out) GB10.out) GB10.out) GB10.out) GB10.out : Below w.heap.size w AR)); clear hg hw hp_))
        go_roundg k1
        case measure => have := AS.out; omega
        case rel => exact ⟨(Ao), (wrap64 (Aa + 1)), (by first | rfl | (simp; done) | (simp [*]; done)), H', ⟨by have := AS.out; omega⟩, ⟨by (with_reducible repeat (first | apply Kd.R_alloc | apply Kd.R_drewN | apply Kd.R_drew)); exact Ac.out⟩, ⟨bbw0 HB⟩⟩
       ·rw [if_neg c9] at H
        exact absurd H (by simp)
      ·rw [if_neg c7] at H
       exact absurd H (by simp)
     ·rw [if_neg c6] at H
      have AK := decide_eq_false c6
      clear c6
      obtain rfl := Option.some.inj H
      go_wp2
      go_ret
      exact ⟨_, by first | rfl | (simp [errW_none, errW_some] <;> rfl) | (simp [*, errW_none, errW_some] <;> rfl), by (with_reducible repeat (first | apply Kd.R_alloc | apply Kd.R_drewN | apply Kd.R_drew)); exact Ac.out, bbw0 HB⟩
  ·rw [if_neg c3] at H
   exact absurd H (by simp)
 ·rw [if_neg c2] at H
  exact absurd H (by simp)
def impl_within.f (a0 : Int) (a1 : Int) (a2 : Int) : Option (Bool) := if a0 ≥ a1 then (some (decide (a0 ≤ a2))) else (some false)
theorem impl_within.calls (a0 : Int) (a1 : Int) (a2 : Int) (r : Bool) (w : World) (h : impl_within.f a0 a1 a2 = some r) :
  Calls Tryz.prog 107 #[.int .i64 a0, .int .i64 a1, .int .i64 a2] w fun e w' => e = .returned (.bool r) ∧ Drawn0 w w' := by
 have H : (if a0 ≥ a1 then (some (decide (a0 ≤ a2))) else (some false)) = some r := h
 clear h
 by_cases c4 : a0 ≥ a1
 ·rw [if_pos c4] at H
  have Aa : decide (a1 ≤ a0) = true := decide_eq_true c4
  clear c4
  obtain rfl := Option.some.inj H
  go_enter Tryz.func107, Tryz.ntmps107
  go_wp2
  go_ret
  exact ⟨by first | rfl | (simp; done) | (simp [*]; done), by repeat (first | exact Drawn0.refl _ | apply Drawn0.step)⟩
 ·rw [if_neg c4] at H
  have Aa : decide (a1 ≤ a0) = false := decide_eq_false c4
  clear c4
  obtain rfl := Option.some.inj H
  go_enter Tryz.func107, Tryz.ntmps107
  go_wp2
  go_ret
  exact ⟨by first | rfl | (simp; done) | (simp [*]; done), by repeat (first | exact Drawn0.refl _ | apply Drawn0.step)⟩
def impl_IsFrame.f (a0 : Int) : Option (Bool) := (impl_within.f a0 0 1).bind fun Aa => (some Aa)
theorem impl_IsFrame.calls (a0 : Int) (r : Bool) (w : World) (h : impl_IsFrame.f a0 = some r) :
  Calls Tryz.prog 88 #[.int .i64 a0] w fun e w' => e = .returned (.bool r) ∧ Drawn0 w w' := by
 have H : ((impl_within.f a0 0 1).bind fun Aa => (some Aa)) = some r := h
 clear h
 obtain ⟨Aa, A2, H⟩ := ob H
 try dsimp only at H
 obtain rfl := Option.some.inj H
 go_enter Tryz.func88, Tryz.ntmps88
 go_wp2_with (first | ((with_reducible refine gate_callee (f := 107) rfl ?_); refine gl 4 Tryz.func107 #[.int .i64 a0, .int .i64 0, .int .i64 1] ?_; (with_reducible refine (impl_within.calls _ _ _ _ _ A2.out).mono ?_); rintro e w' ⟨rfl, ⟨nd, rfl⟩⟩; refine ⟨_, rfl, ?_⟩))
 go_ret
 exact ⟨by first | rfl | (simp; done) | (simp [*]; done), by repeat (first | exact Drawn0.refl _ | apply Drawn0.step)⟩
def impl_Lattice_index.f (Aa : Int) (Ac : Int) (Ab : Int) : Option (Int) := some (wrap64 (Aa * Ab))
theorem impl_Lattice_index.calls (Aa : Int) (Ac : Int) (Ab : Int) (r : Int) (w : World) (h : impl_Lattice_index.f Aa Ac Ab = some r) :
  Calls Tryz.prog 76 #[.agg #[.int .i64 Aa, .int .i64 Ac, .int .i64 Ab]] w fun e w' => e = .returned (.int .i64 r) ∧ Below w.heap.size w w' := by
 have hu30 := Tryz.underlying30
 have HB := asd (Below.refl w.heap.size w)
 have H : (some (wrap64 (Aa * Ab))) = some r := h
 clear h
 obtain rfl := Option.some.inj H
 go_enter Tryz.func76, Tryz.ntmps76
 go_wp2_with (first | ((with_reducible refine gd 1 rfl ?_); refine bx #[.int .i64 Aa, .int .i64 Ac, .int .i64 Ab] 30 ?_; intro Al hg w2 Ad hb; have Ae := ngw0 hg HB; replace HB := bS0 HB hb; clear hb hg; obtain ⟨Af, Ag, Ah, Ai, Aj, Ak⟩ := bz3 Ad))
 go_ret
 exact er (bbw1 HB Ae)
def impl_IsLattice.f (Aa : Int) (Ab : Int) (Ac : Int) : Option (Bool) := (impl_within.f Aa 1 64).bind fun Ad => (if Ad = true then ((impl_within.f Ac 1 64).bind fun Ae => (if Ae = true then ((impl_within.f Ab 0 (wrap64 (Aa - 1))).bind fun Af => (if Af = true then ((impl_Lattice_index.f Aa Ab Ac).bind fun Ah => (some (decide (Ah ≤ 64)))) else (some false))) else (some false))) else (some false))
theorem impl_IsLattice.calls (Aa : Int) (Ab : Int) (Ac : Int) (r : Bool) (w : World) (h : impl_IsLattice.f Aa Ab Ac = some r) :
  Calls Tryz.prog 89 #[.agg #[.int .i64 Aa, .int .i64 Ab, .int .i64 Ac]] w fun e w' => e = .returned (.bool r) ∧ Below w.heap.size w w' := by
 have hu30 := Tryz.underlying30
 have HB := asd (Below.refl w.heap.size w)
 have H : ((impl_within.f Aa 1 64).bind fun Ad => (if Ad = true then ((impl_within.f Ac 1 64).bind fun Ae => (if Ae = true then ((impl_within.f Ab 0 (wrap64 (Aa - 1))).bind fun Af => (if Af = true then ((impl_Lattice_index.f Aa Ab Ac).bind fun Ah => (some (decide (Ah ≤ 64)))) else (some false))) else (some false))) else (some false))) = some r := h
 clear h
 obtain ⟨Ad, A2, H⟩ := ob H
 try dsimp only at H
 by_cases c3 : Ad = true
 subst c3
 replace H := ifT H
 obtain ⟨Ae, A4, H⟩ := ob H
 try dsimp only at H
 by_cases c5 : Ae = true
 subst c5
 replace H := ifT H
 obtain ⟨Af, A6, H⟩ := ob H
 try dsimp only at H
 by_cases c7 : Af = true
 subst c7
 replace H := ifT H
 obtain ⟨Ah, A8, H⟩ := ob H
 try dsimp only at H
 obtain rfl := Option.some.inj H
 rotate_left
 replace c7 := Bool.eq_false_iff.mpr c7
 subst c7
 replace H := ifF H
 obtain rfl := Option.some.inj H
 rotate_left
 replace c5 := Bool.eq_false_iff.mpr c5
 subst c5
 replace H := ifF H
 obtain rfl := Option.some.inj H
 rotate_left
 replace c3 := Bool.eq_false_iff.mpr c3
 subst c3
 replace H := ifF H
 obtain rfl := Option.some.inj H
 rotate_left
 all_goals
  go_enter Tryz.func89, Tryz.ntmps89
  go_wp2_with (first | ((with_reducible refine gd 1 rfl ?_); refine bx #[.int .i64 Aa, .int .i64 Ab, .int .i64 Ac] 30 ?_; intro Ap hg w9 Ag hb; have Ai := ngw0 hg HB; replace HB := bS0 HB hb; clear hb hg; obtain ⟨Aj, Ak, Al, Am, An, Ao⟩ := bz3 Ag) | ((with_reducible refine gate_callee (f := 107) rfl ?_); refine gl 5 Tryz.func107 #[.int .i64 Aa, .int .i64 1, .int .i64 64] ?_; (with_reducible refine (impl_within.calls _ _ _ _ _ A2.out).mono ?_); rintro e w' ⟨rfl, ⟨nd, rfl⟩⟩; refine ⟨_, rfl, ?_⟩) | (go_at_call 107; (with_reducible refine (impl_within.calls _ _ _ _ _ A4.out).mono ?_); rintro e w' ⟨rfl, ⟨nd, rfl⟩⟩) | (go_at_call 107; (with_reducible refine (impl_within.calls _ _ _ _ _ A6.out).mono ?_); rintro e w' ⟨rfl, ⟨nd, rfl⟩⟩) | (go_at_call 76; (with_reducible refine (impl_Lattice_index.calls _ _ _ _ _ A8.out).mono ?_); rintro e Aq ⟨rfl, hb⟩; replace Ag := bB Ag hb; replace HB := bS1 HB Ai hb; (try clear hb)))
  go_ret
  exact er (bbw1 HB Ai)
def impl_frameCode.f (a0 : Int) (Ab : Int) (Ac : Int) (Ad : Int) : Option (Int) := (impl_IsFrame.f a0).bind fun Ag => (if Ag = true then ((impl_IsLattice.f Ab Ac Ad).bind fun Ah => (if Ah = true then (some 0) else (some 1))) else (some 1))
theorem impl_frameCode.calls (a0 : Int) (Ab : Int) (Ac : Int) (Ad : Int) (r : Int) (w : World) (h : impl_frameCode.f a0 Ab Ac Ad = some r) :
  Calls Tryz.prog 60 #[.int .i64 a0, .agg #[.int .i64 Ab, .int .i64 Ac, .int .i64 Ad]] w fun e w' => e = .returned (.int .i64 r) ∧ Below w.heap.size w w' := by
 have hu30 := Tryz.underlying30
 have HB := asd (Below.refl w.heap.size w)
 have H : ((impl_IsFrame.f a0).bind fun Ag => (if Ag = true then ((impl_IsLattice.f Ab Ac Ad).bind fun Ah => (if Ah = true then (some 0) else (some 1))) else (some 1))) = some r := h
 clear h
 obtain ⟨Ag, A3, H⟩ := ob H
 try dsimp only at H
 by_cases c4 : Ag = true
 subst c4
 replace H := ifT H
 obtain ⟨Ah, A5, H⟩ := ob H
 try dsimp only at H
 by_cases c6 : Ah = true
 subst c6
 replace H := ifT H
 obtain rfl := Option.some.inj H
 rotate_left
 replace c6 := Bool.eq_false_iff.mpr c6
 subst c6
 replace H := ifF H
 obtain rfl := Option.some.inj H
 rotate_left
 replace c4 := Bool.eq_false_iff.mpr c4
 subst c4
 replace H := ifF H
 obtain rfl := Option.some.inj H
 rotate_left
 all_goals
  go_enter Tryz.func60, Tryz.ntmps60
 rotate_left 2
 ·go_wp2_with (first | ((with_reducible refine gd 3 rfl ?_); refine bx #[.int .i64 Ab, .int .i64 Ac, .int .i64 Ad] 30 ?_; intro Ae hg Ao Aa hb; have Af := ngw0 hg HB; replace HB := bS0 HB hb; clear hb hg) | ((with_reducible refine gate_callee (f := 88) rfl ?_); refine gl 6 Tryz.func88 #[.int .i64 a0] ?_; (with_reducible refine (impl_IsFrame.calls _ _ _ A3.out).mono ?_); rintro e w' ⟨rfl, ⟨nd, rfl⟩⟩; refine ⟨_, rfl, ?_⟩))
  go_ret
  exact er (bbw1 HB Af)
 all_goals
  go_wp2_with (first | ((with_reducible refine gd 3 rfl ?_); refine bx #[.int .i64 Ab, .int .i64 Ac, .int .i64 Ad] 30 ?_; intro Ae hg w7 Aa hb; have Af := ngw0 hg HB; replace HB := bS0 HB hb; clear hb hg) | ((with_reducible refine gate_callee (f := 88) rfl ?_); refine gl 6 Tryz.func88 #[.int .i64 a0] ?_; (with_reducible refine (impl_IsFrame.calls _ _ _ A3.out).mono ?_); rintro e w' ⟨rfl, ⟨nd, rfl⟩⟩; refine ⟨_, rfl, ?_⟩; have Ai : w7.cell? ⟨Ae, 0, none⟩ = some (.int .i64 Ab) := bcl Aa 0; have Aj : w7.cell? ⟨Ae, 1, none⟩ = some (.int .i64 Ac) := bcl Aa 1; have Ak : w7.cell? ⟨Ae, 2, none⟩ = some (.int .i64 Ad) := bcl Aa 2; have Al := blk_frozen Aa.out 0; have Am := blk_frozen Aa.out 1; have An := blk_frozen Aa.out 2) | (go_at_call 89; (with_reducible refine (impl_IsLattice.calls _ _ _ _ _ A5.out).mono ?_); rintro e w9 ⟨rfl, hb⟩; replace Aa := bB Aa hb; replace HB := bS1 HB Af hb; (try clear hb)))
  go_ret
  exact er (bbw1 HB Af)
def impl_unit.f  : Option (Int × Int × Int × Int) := some (1, 0, 0, 1)
theorem impl_unit.calls  (r1 : Int) (r2 : Int) (r3 : Int) (r4 : Int) (w : World) (h : impl_unit.f  = some (r1, r2, r3, r4)) :
  Calls Tryz.prog 62 #[] w fun e w' => e = .returned (.agg #[.int .i64 r1, .int .i64 r2, .int .i64 r3, .int .i64 r4]) ∧ Below w.heap.size w w' := by
 have hu42 := Tryz.underlying42
 have HB := asd (Below.refl w.heap.size w)
 have H : (some (1, 0, 0, 1)) = some (r1, r2, r3, r4) := h
 clear h
 simp only [Option.some.injEq, Prod.mk.injEq] at H
 obtain ⟨rfl, rfl, rfl, rfl⟩ := H
 go_enter Tryz.func62, Tryz.ntmps62
 go_wp2_with (first | ((with_reducible refine gd 0 rfl ?_); refine bx #[.int .i64 0, .int .i64 0, .int .i64 0, .int .i64 0] 42 ?_; intro Ab hg w1 Aa hb; have Ac := ngw0 hg HB; replace HB := bS0 HB hb; clear hb hg; obtain ⟨Ad, Ae, Af, Ag, Ah, Ai, Aj, Ak⟩ := bz4 Aa))
 refine bodyPost_ret (results_cell_row rfl _ _ Ab 42 #[.int .i64 1, .int .i64 0, .int .i64 0, .int .i64 1] (0, 0) _ rfl (bq0 Aa) Tryz.underlying42 rfl (by kernel_rfl)) rfl ?_
 exact er (bbw1 HB Ac)
def impl_mod.f (a0 : Int) (a1 : Int) : Option (Int) := if a1 = 0 then (none) else (some (Int.tmod (wrap64 ((Int.tmod a0 a1) + a1)) a1))
theorem impl_mod.calls (a0 : Int) (a1 : Int) (r : Int) (w : World) (h : impl_mod.f a0 a1 = some r) :
  Calls Tryz.prog 112 #[.int .i64 a0, .int .i64 a1] w fun e w' => e = .returned (.int .i64 r) ∧ Drawn0 w w' := by
 have H : (if a1 = 0 then (none) else (some (Int.tmod (wrap64 ((Int.tmod a0 a1) + a1)) a1))) = some r := h
 clear h
 by_cases c3 : a1 = 0
 ·rw [if_pos c3] at H
  exact absurd H (by simp)
 ·rw [if_neg c3] at H
  have Aa : (a1 == 0) = false := beq_eq_false_iff_ne.mpr c3
  have Ab : (a1 != 0) = true := bne_iff_ne.mpr c3
  obtain rfl := Option.some.inj H
  go_enter Tryz.func112, Tryz.ntmps112
  go_wp2
  go_ret
  exact ⟨by first | rfl | (simp; done) | (simp [*]; done), by repeat (first | exact Drawn0.refl _ | apply Drawn0.step)⟩
def impl_Lattice_reduce.f (Ak : Int) (Al : Int) (Af : Int) (Am : Int) (Ai : Int) : Option (Int × Int) := (impl_mod.f Ai Af).bind fun An => (if Af = 0 then (none) else ((impl_mod.f (wrap64 (Am - (wrap64 ((wrap64 (Int.tdiv (wrap64 (Ai - An)) Af)) * Al)))) Ak).bind fun As => (some (As, An))))
def impl_Lattice_reduce.T2 : Bool × List (List Nat × List Nat) := (true, [([], []), ([0], [0]), ([], []), ([2], [2]), ([], []), ([3, 4], [3, 4]), ([], []), ([6], [6]), ([5, 7], [5, 7]), ([], []), ([9], [9]), ([8, 10], [8, 10]), ([1, 11], [1, 11]), ([], []), ([13], [13]), ([12, 14], [12, 14]), ([], []), ([15, 16], [15, 16]), ([17, 15, 0, 1, 2, 3, 4, 5, 6, 7, 8, 9, 10, 11, 12, 13, 14, 15, 16, 17], [17])])
def impl_Lattice_reduce.B2 : List Nat := [0, 1, 0, 4, 0, 28, 0, 64, 252, 0, 512, 2044, 4095, 0, 8192, 32767, 0, 131071, 262143]
theorem impl_Lattice_reduce.tab2 : rtab .any (opsOf Tryz.f92 2) = impl_Lattice_reduce.T2 := by kernel_rfl
theorem impl_Lattice_reduce.bits2 : waitsOk impl_Lattice_reduce.T2.2 impl_Lattice_reduce.B2 = true := by kernel_rfl
theorem impl_Lattice_reduce.calls (Ak : Int) (Al : Int) (Af : Int) (Am : Int) (Ai : Int) (r1 : Int) (r2 : Int) (w : World) (h : impl_Lattice_reduce.f Ak Al Af Am Ai = some (r1, r2)) :
  Calls Tryz.prog 92 #[.agg #[.int .i64 Ak, .int .i64 Al, .int .i64 Af], .agg #[.int .i64 Am, .int .i64 Ai]] w fun e w' => e = .returned (.agg #[.int .i64 r1, .int .i64 r2]) ∧ Below w.heap.size w w' := by
 have hu30 := Tryz.underlying30
 have hu44 := Tryz.underlying44
 have HB := asd (Below.refl w.heap.size w)
 have H : ((impl_mod.f Ai Af).bind fun An => (if Af = 0 then (none) else ((impl_mod.f (wrap64 (Am - (wrap64 ((wrap64 (Int.tdiv (wrap64 (Ai - An)) Af)) * Al)))) Ak).bind fun As => (some (As, An))))) = some (r1, r2) := h
 clear h
 obtain ⟨An, A3, H⟩ := ob H
 try dsimp only at H
 by_cases c4 : Af = 0
 ·rw [if_pos c4] at H
  exact absurd H (by simp)
 ·rw [if_neg c4] at H
  have AX : (Af == 0) = false := beq_eq_false_iff_ne.mpr c4
  have AY : (Af != 0) = true := bne_iff_ne.mpr c4
  obtain ⟨As, A5, H⟩ := ob H
  try dsimp only at H
  simp only [Option.some.injEq, Prod.mk.injEq] at H
  obtain ⟨rfl, rfl⟩ := H
  go_enter Tryz.func92, Tryz.ntmps92
  try go_wp2_with (first | ((with_reducible refine gd 2 rfl ?_); refine bx #[.int .i64 Ak, .int .i64 Al, .int .i64 Af] 30 ?_; intro Au hg w6 Aa hb; have Aj := ngw0 hg HB; replace HB := bS0 HB hb; clear hb hg) | ((with_reducible refine gd 3 rfl ?_); refine bx #[.int .i64 Am, .int .i64 Ai] 44 ?_; intro Av hg w7 Ac hb; have Ao := ngw1 hg HB Aj; replace HB := bS1 HB Aj hb; have Aq := nlt hg Aa; have Ar := nsy (nlt hg Aa); replace Aa := bB Aa hb; clear hb hg) | ((with_reducible refine gd 4 rfl ?_); refine bx #[.int .i64 0, .int .i64 0] 44 ?_; intro Ap hg w8 Ae hb; have At := ngw2 hg HB Aj Ao; replace HB := bS2 HB Aj Ao hb; have Ab := nlt hg Aa; have Ag := nsy (nlt hg Aa); replace Aa := bB Aa hb; have Ad := nlt hg Ac; have Ah := nsy (nlt hg Ac); replace Ac := bB Ac hb; clear hb hg; have AZ := Ar.out; have A0 := Aq.out; have AO := Ad.out; have AP := Ah.out; obtain ⟨Aw, Ax, Ay, Az⟩ := bz2 Ac; have AQ := Ab.out; have AR := Ag.out; obtain ⟨AA, AB, AC, AD, AE, AF⟩ := bz3 Aa) | ((with_reducible refine gate_callee (f := 112) rfl ?_); refine gl 10 Tryz.func112 #[.int .i64 Ai, .int .i64 Af] ?_; (with_reducible refine (impl_mod.calls _ _ _ _ A3.out).mono ?_); rintro e w' ⟨rfl, ⟨nd, rfl⟩⟩; refine ⟨_, rfl, ?_⟩; (try (rw [drewN_self w8]; generalize hq_ : World.drewN w8 _ = w8; have AS : Aside0 (w8.heap[Au]? = some (.cells #[.int .i64 Ak, .int .i64 Al, .int .i64 Af] 30 (0, 0))) := ⟨by rw [← hq_]; exact (bkp Aa)⟩; have AT : Aside0 (w8.heap[Av]? = some (.cells #[.int .i64 Am, .int .i64 Ai] 44 (0, 0))) := ⟨by rw [← hq_]; exact (bkp Ac)⟩; have AU : Aside0 (w8.heap[Ap]? = some (.cells #[.int .i64 0, .int .i64 0] 44 (0, 0))) := ⟨by rw [← hq_]; exact (bkp Ae)⟩; have AV : Aside0 (Below w.heap.size w w8) := ⟨by rw [← hq_]; exact (bbw3 HB Aj Ao At)⟩; clear Aa Ac Ae HB hq_; have Aa := AS; have Ac := AT; have Ae := AU; have HB := AV; clear AS AT AU AV))))
  replace Aa := asd (blk_drew Aa.out)
  replace Ac := asd (blk_drew Ac.out)
  replace Ae := asd (blk_drew Ae.out)
  replace HB := asd (below_drew1 HB.out)
  refine sh 19 (cb2 Ac (eb3 Aa)) (fun hHeld => ?_); refine with_tabW impl_Lattice_reduce.tab2 impl_Lattice_reduce.bits2 (fun HT_ HW_ => ?_)
  generalize w8.drew = AW at Aa Ac Ae HB hHeld ⊢
  refine pu 0 (some 11) (bT 19 1) HT_ ?_
  refine pu 2 (some 13) (bs 19 5) HT_ ?_
  refine pu 4 (some 15) (bs 19 21) HT_ ?_
  refine pu 6 (some 17) (bs 19 85) HT_ ?_
  refine pu 9 (some 20) (bs 19 597) HT_ ?_
  refine pu 13 (some 24) (bs 19 8789) HT_ ?_
  refine pu 16 (some 27) (bs 19 74325) HT_ ?_
  refine ta 1 (some 12) (bs 19 74327) HT_ HW_ hHeld ?_
  refine ta 3 (some 14) (bs 19 74335) HT_ HW_ hHeld ?_
  refine pu 5 (some 16) (bs 19 74367) HT_ ?_
  refine ta 7 (some 18) (bs 19 74495) HT_ HW_ hHeld ?_
  refine pu 8 (some 19) (bs 19 74751) HT_ ?_
  refine ta 10 (some 21) (bs 19 75775) HT_ HW_ hHeld ?_
  refine pu 11 (some 22) (bs 19 77823) HT_ ?_
  refine pu 12 (some 23) (bs 19 81919) HT_ ?_
  refine ta 14 (some 25) (bs 19 98303) HT_ HW_ hHeld ?_
  refine ro 15 (some 26) (bT 19 17) HT_ (fun K hK => ?_)
  refine gs Tryz.func112 #[.int .i64 (wrap64 (Am - (wrap64 ((wrap64 (Int.tdiv (wrap64 (Ai - An)) Af)) * Al)))), .int .i64 Ak] ?_
  with_reducible refine (impl_mod.calls _ _ _ _ A5.out).mono ?_
  rintro e w' ⟨rfl, ⟨nd, rfl⟩⟩
  refine ⟨_, rfl, ?_⟩
  refine hK.out _ _ (cb2 Ac (eb3 Aa)).out (fun hHeld => ?_)
  clear hK K
  refine norm_ (a' := ?_) ?_ ?_
  rotate_left
  ·show Act.put _ (some 26) _ = _
   simp only [Act.put, sA, sB, sC, i64_w, i32_w]
   rfl
  refine pu 17 (some 28) (bT 19 18) HT_ ?_
  refine ro 18 (none) (bT 19 19) HT_ (fun K hK => ?_)
  have hs15 : AW.cell? ⟨Ap, 0, none⟩ = some (.int .i64 0) := bcl Ae 0
  have hfs15 := blk_frozen Ae.out 0
  have AG := Ab.out
  have AH := Ad.out
  have AI := Ag.out
  have AJ := Ah.out
  have hs16 : AW.cell? ⟨Ap, 1, none⟩ = some (.int .i64 0) := bcl Ae 1
  have hfs16 := blk_frozen Ae.out 1
  have AK := Ab.out
  have AL := Ad.out
  have AM := Ag.out
  have AN := Ah.out
  refine skip_ (w1 := ?_) (by rfl) rfl ?_ ?_
  rotate_left
  ·go_simp
   rfl
  refine hK.out _ _ ⟨(cf2 Ad (hHeld.1)), (cf2 Ad (hHeld.2.1)), (cf2 Ab (hHeld.2.2.1)), (cf2 Ab (hHeld.2.2.2.1)), (cf2 Ab (hHeld.2.2.2.2))⟩ (fun hHeld => ?_)
  clear hK K
  refine done_ (done_of HT_.out (by kernel_rfl)) ?_
  try go_wp2
  refine bodyPost_ret (results_cell_row rfl _ _ Ap 44 #[.int .i64 As, .int .i64 An] (0, 0) _ rfl (bq0 Ae) Tryz.underlying44 rfl (by kernel_rfl)) rfl ?_
  exact er (bbw3 HB Aj Ao At)
attribute [local go_sem high] eqA44
def impl_Lattice_has.f (Ac : Int) (Ad : Int) (Ae : Int) (Af : Int) (Ag : Int) : Option (Bool) := (impl_Lattice_reduce.f Ac Ad Ae Af Ag).bind fun Ab => (some (Ab.1 == 0 && (Ab.2 == 0)))
theorem impl_Lattice_has.calls (Ac : Int) (Ad : Int) (Ae : Int) (Af : Int) (Ag : Int) (r : Bool) (w : World) (h : impl_Lattice_has.f Ac Ad Ae Af Ag = some r) :
  Calls Tryz.prog 64 #[.agg #[.int .i64 Ac, .int .i64 Ad, .int .i64 Ae], .agg #[.int .i64 Af, .int .i64 Ag]] w fun e w' => e = .returned (.bool r) ∧ Below w.heap.size w w' := by
 have hu30 := Tryz.underlying30
 have hu44 := Tryz.underlying44
 have HB := asd (Below.refl w.heap.size w)
 have H : ((impl_Lattice_reduce.f Ac Ad Ae Af Ag).bind fun Ab => (some (Ab.1 == 0 && (Ab.2 == 0)))) = some r := h
 clear h
 obtain ⟨⟨Ay, Az⟩, A3, H⟩ := ob H
 try dsimp only at H
 obtain rfl := Option.some.inj H
 go_enter Tryz.func64, Tryz.ntmps64
 go_wp2_with (first | ((with_reducible refine gd 2 rfl ?_); refine bx #[.int .i64 Ac, .int .i64 Ad, .int .i64 Ae] 30 ?_; intro Aw hg w4 Aa hb; have Ah := ngw0 hg HB; replace HB := bS0 HB hb; clear hb hg) | ((with_reducible refine gd 3 rfl ?_); refine bx #[.int .i64 Af, .int .i64 Ag] 44 ?_; intro Ax hg w5 Ak hb; have Al := ngw1 hg HB Ah; replace HB := bS1 HB Ah hb; have Ai := nlt hg Aa; have Aj := nsy (nlt hg Aa); replace Aa := bB Aa hb; clear hb hg; have AA := Ai.out; have AB := Aj.out; obtain ⟨Am, An, Ao, Ap, Aq, Ar⟩ := bz3 Aa; obtain ⟨As, At, Au, Av⟩ := bz2 Ak) | ((with_reducible refine gate_callee (f := 92) rfl ?_); refine gl 7 Tryz.func92 #[.agg #[.int .i64 Ac, .int .i64 Ad, .int .i64 Ae], .agg #[.int .i64 Af, .int .i64 Ag]] ?_; (with_reducible refine (impl_Lattice_reduce.calls _ _ _ _ _ _ _ _ A3.out).mono ?_); rintro e w9 ⟨rfl, hb⟩; refine ⟨_, rfl, ?_⟩; replace Aa := bB Aa hb; replace Ak := bB Ak hb; replace HB := bS2 HB Ah Al hb; (try clear hb)))
 go_ret
 exact er (bbw2 HB Ah Al)
def impl_Lattice_basis.f (Ak : Int) (Al : Int) (Am : Int) : Option (Int × Int × Int × Int) := some (Ak, 0, Al, Am)
def impl_Lattice_basis.T1 : Bool × List (List Nat × List Nat) := (true, [([], []), ([0], [0]), ([1], [1]), ([], []), ([3], [3]), ([], []), ([5], [5]), ([4, 6], [4, 6]), ([2, 0, 1, 2], [2]), ([7, 8, 0, 1, 2, 3, 4, 5, 6, 7, 8], [7])])
def impl_Lattice_basis.B1 : List Nat := [0, 1, 3, 0, 8, 0, 32, 120, 7, 511]
theorem impl_Lattice_basis.tab1 : rtab .any (opsOf Tryz.f71 1) = impl_Lattice_basis.T1 := by kernel_rfl
theorem impl_Lattice_basis.bits1 : waitsOk impl_Lattice_basis.T1.2 impl_Lattice_basis.B1 = true := by kernel_rfl
theorem impl_Lattice_basis.calls (Ak : Int) (Al : Int) (Am : Int) (r1 : Int) (r2 : Int) (r3 : Int) (r4 : Int) (w : World) (h : impl_Lattice_basis.f Ak Al Am = some (r1, r2, r3, r4)) :
  Calls Tryz.prog 71 #[.agg #[.int .i64 Ak, .int .i64 Al, .int .i64 Am]] w fun e w' => e = .returned (.tuple #[.agg #[.int .i64 r1, .int .i64 r2], .agg #[.int .i64 r3, .int .i64 r4]]) ∧ Below w.heap.size w w' := by
 have hu30 := Tryz.underlying30
 have hu44 := Tryz.underlying44
 have HB := asd (Below.refl w.heap.size w)
 have H : (some (Ak, 0, Al, Am)) = some (r1, r2, r3, r4) := h
 clear h
 simp only [Option.some.injEq, Prod.mk.injEq] at H
 obtain ⟨rfl, rfl, rfl, rfl⟩ := H
 go_enter Tryz.func71, Tryz.ntmps71
 try go_wp2_with (first | ((with_reducible refine gd 1 rfl ?_); refine bx #[.int .i64 Ak, .int .i64 Al, .int .i64 Am] 30 ?_; intro AH hg w2 Ae hb; have Aj := ngw0 hg HB; replace HB := bS0 HB hb; clear hb hg) | ((with_reducible refine gd 2 rfl ?_); refine bx #[.int .i64 0, .int .i64 0] 44 ?_; intro An hg w3 Af hb; have Ao := ngw1 hg HB Aj; replace HB := bS1 HB Aj hb; have Aa := nlt hg Ae; have Ah := nsy (nlt hg Ae); replace Ae := bB Ae hb; clear hb hg) | ((with_reducible refine gd 3 rfl ?_); refine bx #[.int .i64 0, .int .i64 0] 44 ?_; intro Ap hg w4 Ag hb; have Aq := ngw2 hg HB Aj Ao; replace HB := bS2 HB Aj Ao hb; have Ab := nlt hg Ae; have Ai := nsy (nlt hg Ae); replace Ae := bB Ae hb; have Ac := nlt hg Af; have Ad := nsy (nlt hg Af); replace Af := bB Af hb; clear hb hg))
 replace Ae := asd (blk_drew Ae.out)
 replace Af := asd (blk_drew Af.out)
 replace Ag := asd (blk_drew Ag.out)
 replace HB := asd (below_drew1 HB.out)
 refine sh 10 (eb3 Ae) (fun hHeld => ?_); refine with_tabW impl_Lattice_basis.tab1 impl_Lattice_basis.bits1 (fun HT_ HW_ => ?_)
 generalize w4.drew = w5 at Ae Af Ag HB hHeld ⊢
 refine pu 0 (some 4) (bT 10 1) HT_ ?_
 refine pu 3 (some 7) (bs 10 9) HT_ ?_
 refine pu 5 (some 9) (bs 10 41) HT_ ?_
 refine ta 1 (some 5) (bs 10 43) HT_ HW_ hHeld ?_
 refine pu 2 (some 6) (bs 10 47) HT_ ?_
 refine ta 4 (some 8) (bT 10 6) HT_ HW_ hHeld ?_
 refine ta 6 (some 10) (bT 10 7) HT_ HW_ hHeld ?_
 refine pu 7 (some 11) (bT 10 8) HT_ ?_
 refine ro 8 (none) (bT 10 9) HT_ (fun K hK => ?_)
 have hs6 : w5.cell? ⟨An, 0, none⟩ = some (.int .i64 0) := bcl Af 0
 have hfs6 := blk_frozen Af.out 0
 have Ar := Aa.out
 have As := Ad.out
 have At := Ah.out
 have Au := Ac.out
 have hs7 : w5.cell? ⟨An, 1, none⟩ = some (.int .i64 0) := bcl Af 1
 have hfs7 := blk_frozen Af.out 1
 have Av := Aa.out
 have Aw := Ad.out
 have Ax := Ah.out
 have Ay := Ac.out
 refine skip_ (w1 := ?_) (by rfl) rfl ?_ ?_
 rotate_left
 ·go_simp
  rfl
 refine hK.out _ _ ⟨(cf2 Aa (hHeld.1)), (cf2 Aa (hHeld.2.1)), (cf2 Aa (hHeld.2.2))⟩ (fun hHeld => ?_)
 clear hK K
 refine ro 9 (none) (bT 10 10) HT_ (fun K hK => ?_)
 have hs8 : w5.cell? ⟨Ap, 0, none⟩ = some (.int .i64 0) := bcl Ag 0
 have hfs8 := blk_frozen Ag.out 0
 have Az := Ab.out
 have AA := Ac.out
 have AB := Ai.out
 have AC := Ad.out
 have hs9 : w5.cell? ⟨Ap, 1, none⟩ = some (.int .i64 0) := bcl Ag 1
 have hfs9 := blk_frozen Ag.out 1
 have AD := Ab.out
 have AE := Ac.out
 have AF := Ai.out
 have AG := Ad.out
 refine skip_ (w1 := ?_) (by rfl) rfl ?_ ?_
 rotate_left
 ·go_simp
  rfl
 refine hK.out _ _ ⟨(cf2 Ab (hHeld.1)), (cf2 Ab (hHeld.2.1)), (cf2 Ab (hHeld.2.2))⟩ (fun hHeld => ?_)
 clear hK K
 refine done_ (done_of HT_.out (by kernel_rfl)) ?_
 try go_wp2
 refine bodyPost_ret (results_cc rfl _ _ An Ap 44 44 #[.int .i64 Ak, .int .i64 0] #[.int .i64 Al, .int .i64 Am] (0, 0) (0, 0) _ _ rfl (bq1 Af Ac) Tryz.underlying44 rfl (by kernel_rfl) rfl (bq1 Ag Ad) Tryz.underlying44 rfl (by kernel_rfl)) rfl ?_
 exact er (bbw3 HB Aj Ao Aq)
def impl_Mat_apply.f (Af : Int) (Ag : Int) (Ah : Int) (Ai : Int) (Ab : Int) (Ac : Int) : Option (Int × Int) := some (wrap64 ((wrap64 (Af * Ab)) + (wrap64 (Ag * Ac))), wrap64 ((wrap64 (Ah * Ab)) + (wrap64 (Ai * Ac))))
theorem impl_Mat_apply.calls (Af : Int) (Ag : Int) (Ah : Int) (Ai : Int) (Ab : Int) (Ac : Int) (r1 : Int) (r2 : Int) (w : World) (h : impl_Mat_apply.f Af Ag Ah Ai Ab Ac = some (r1, r2)) :
  Calls Tryz.prog 99 #[.agg #[.int .i64 Af, .int .i64 Ag, .int .i64 Ah, .int .i64 Ai], .agg #[.int .i64 Ab, .int .i64 Ac]] w fun e w' => e = .returned (.agg #[.int .i64 r1, .int .i64 r2]) ∧ Below w.heap.size w w' := by
 have hu42 := Tryz.underlying42
 have hu44 := Tryz.underlying44
 have HB := asd (Below.refl w.heap.size w)
 have H : (some (wrap64 ((wrap64 (Af * Ab)) + (wrap64 (Ag * Ac))), wrap64 ((wrap64 (Ah * Ab)) + (wrap64 (Ai * Ac))))) = some (r1, r2) := h
 clear h
 simp only [Option.some.injEq, Prod.mk.injEq] at H
 obtain ⟨rfl, rfl⟩ := H
 go_enter Tryz.func99, Tryz.ntmps99
 go_wp2_with (first | ((with_reducible refine gd 2 rfl ?_); refine bx #[.int .i64 Af, .int .i64 Ag, .int .i64 Ah, .int .i64 Ai] 42 ?_; intro AJ hg w3 Aa hb; have Ad := ngw0 hg HB; replace HB := bS0 HB hb; clear hb hg) | ((with_reducible refine gd 3 rfl ?_); refine bx #[.int .i64 Ab, .int .i64 Ac] 44 ?_; intro AK hg w4 Ae hb; have Ap := ngw1 hg HB Ad; replace HB := bS1 HB Ad hb; have Aj := nlt hg Aa; have Ak := nsy (nlt hg Aa); replace Aa := bB Aa hb; clear hb hg) | ((with_reducible refine gd 4 rfl ?_); refine bx #[.int .i64 0, .int .i64 0] 44 ?_; intro Ar hg w5 Aq hb; have As := ngw2 hg HB Ad Ap; replace HB := bS2 HB Ad Ap hb; have Al := nlt hg Aa; have Am := nsy (nlt hg Aa); replace Aa := bB Aa hb; have An := nlt hg Ae; have Ao := nsy (nlt hg Ae); replace Ae := bB Ae hb; clear hb hg; have AL := Aj.out; have AM := Ak.out; have AN := Al.out; have AO := Am.out; obtain ⟨AB, AC, AD, AE, AF, AG, AH, AI⟩ := bz4 Aa; have AP := An.out; have AQ := Ao.out; obtain ⟨At, Au, Av, Aw⟩ := bz2 Ae; obtain ⟨Ax, Ay, Az, AA⟩ := bz2 Aq))
 refine bodyPost_ret (results_cell_row rfl _ _ Ar 44 #[.int .i64 (wrap64 ((wrap64 (Af * Ab)) + (wrap64 (Ag * Ac)))), .int .i64 (wrap64 ((wrap64 (Ah * Ab)) + (wrap64 (Ai * Ac))))] (0, 0) _ rfl (bq0 Aq) Tryz.underlying44 rfl (by kernel_rfl)) rfl ?_
 exact er (bbw3 HB Ad Ap As)
def impl_Mat_118.f (p : S42 → Bool) (l : List S42) : Int := match l.findIdx? p with | some i => i | none => -1
theorem impl_Mat_118.rd_get (l : List S42) (j : Nat) (h : j < l.length) : rd_T42 l (j : Int) = l[j] := by
 unfold rd_T42; rw [Int.toNat_natCast]; simp [List.getD, h]
theorem impl_Mat_118.hit (p : S42 → Bool) (l : List S42) (x : Int) (h0 : 0 ≤ x) (hx : x < l.length) (h : p (rd_T42 l x) = true) (hb : ∀ j : Nat, (j : Int) < x → p (rd_T42 l (j : Int)) = false) : impl_Mat_118.f p l = x := by
 obtain ⟨k, rfl⟩ := Int.eq_ofNat_of_zero_le h0
 have hk : k < l.length := by omega
 rw [impl_Mat_118.rd_get l k hk] at h
 unfold impl_Mat_118.f
 have : l.findIdx? p = some k := by
  rw [List.findIdx?_eq_some_iff_getElem]
  refine ⟨hk, h, fun j hj => ?_⟩
  have := hb j (by omega)
  rw [impl_Mat_118.rd_get l j (by omega)] at this
  simpa using this
 rw [this]
theorem impl_Mat_118.miss (p : S42 → Bool) (l : List S42) (hb : ∀ j : Nat, (j : Int) < l.length → p (rd_T42 l (j : Int)) = false) : impl_Mat_118.f p l = -1 := by
 unfold impl_Mat_118.f
 have : l.findIdx? p = none := by
  rw [List.findIdx?_eq_none_iff]
  intro x hx
  obtain ⟨j, hj, rfl⟩ := List.getElem_of_mem hx
  have := hb j (by omega)
  rw [impl_Mat_118.rd_get l j hj] at this
  exact this
 rw [this]
set_option maxHeartbeats 2000000 in
theorem impl_Mat_118.calls_some (p : S42 → Bool) (g : Nat) (lb : Array Value) (eg : ∀ args w, (callFunc g args).run Tryz.prog w = .ok (.enter g args) w) (ad : Addr) (c : Nat) (l : List S42) (w : World) (hr : Kd.C k42 w (some ad) l.length l)
  (hp : ∀ (x : S42) (W : World), Below w.heap.size w W → Calls Tryz.prog g (#[.agg #[.int .i64 x.f0, .int .i64 x.f1, .int .i64 x.f2, .int .i64 x.f3]] ++ lb) W fun e w' => e = .returned (.bool (p x)) ∧ Below w.heap.size w w') :
  Calls Tryz.prog 118 #[.slice (some ad) l.length c, .func (.func g) #[] lb] w fun e w' => e = .returned (.int .i64 (impl_Mat_118.f p l)) ∧ Below w.heap.size w w' := by
 have hu33 := Tryz.underlying42
 have hbig := Kd.C_max hr
 have HR := Aside0.mk hr
 have HP := Aside0.mk hp
 clear hr hp
 have hbig' : l.length ≤ 9223372036854775807 := hbig
 have HBIG := Aside0.mk hbig'
 clear hbig hbig'
 go_enter Tryz.func118, Tryz.ntmps118
 go_wp2
 go_loopg [5, 8] l.length (fun gg _ s8 wr => ∃ x : Int, s8 = .int .i64 x ∧ Aside0 (0 ≤ x ∧ x ≤ l.length ∧ (l.length : Int) - x ≤ gg) ∧ Aside0 (Below w.heap.size w wr) ∧ Aside0 (∀ j : Nat, (j : Int) < x → p (rd_T42 l (j : Int)) = false))
 case atStart => exact ⟨0, rfl, ⟨by omega⟩, ⟨Below.refl _ w⟩, ⟨fun j hj => absurd hj (by omega)⟩⟩
 case round =>
  obtain ⟨x, rfl, HX, BW, AA⟩ := hrel
  by_cases c4 : x < (l.length : Int)
  ·have Aa : decide (x < (l.length : Int)) = true := decide_eq_true c4
   have Ab : decide (0 ≤ x) = true := decide_eq_true HX.out.1
   have hcall := HP.out (rd_T42 l x) wr BW.out
   obtain ⟨ad', e', hx0, hx1, hx2, hx3⟩ := at_T42 HR.out x HX.out.1 c4
   cases e'
   replace hx0 := (BW.out.cell (World.block_lt_of_cell? w _ hx0)).trans hx0
   replace hx1 := (BW.out.cell (World.block_lt_of_cell? w _ hx1)).trans hx1
   replace hx2 := (BW.out.cell (World.block_lt_of_cell? w _ hx2)).trans hx2
   replace hx3 := (BW.out.cell (World.block_lt_of_cell? w _ hx3)).trans hx3
   have C4 := Aside0.mk c4
   clear c4
   generalize hy : rd_T42 l x = y at hcall hx0 hx1 hx2 hx3
   have HY := Aside0.mk hy
   clear hy
   have p5 : 0 ≤ x := HX.out.1
   have p215 := eq_true p5
   have q215 : (x < (l.length : Int)) = True := eq_true C4.out
   clear p5
   cases hq : p y with
   | true =>
    rw [hq] at hcall
    have HQ := Aside0.mk hq
    clear hq
    go_wp2_with (go_at_fn g; refine hcall.mono ?_; rintro e w' ⟨rfl, hb'⟩)
    go_ret
    refine ⟨?_, hb'⟩
    rw [impl_Mat_118.hit p l x HX.out.1 C4.out (by rw [HY.out]; exact HQ.out) AA.out]
    rfl
   | false =>
    rw [hq] at hcall
    have HQ := Aside0.mk hq
    clear hq
    go_wp2_with (go_at_fn g; refine hcall.mono ?_; rintro e w' ⟨rfl, hb'⟩)
    have hw : wrap64 (x + 1) = x + 1 := by
     have h1 := HX.out; have h2 := HBIG.out; have h3 := C4.out
     unfold wrap64; omega
    go_roundg ((l.length : Int) - (x + 1)).toNat
    case measure => have h1 := HX.out; have h3 := C4.out; omega
    case rel =>
     refine ⟨wrap64 (x + 1), rfl, ⟨?_⟩, ⟨hb'⟩, ⟨fun j hj => ?_⟩⟩
     ·have h1 := HX.out; have h3 := C4.out; rw [hw]; omega
     ·rw [hw] at hj
      by_cases e : (j : Int) = x
      ·rw [e, HY.out]; exact HQ.out
      ·exact AA.out j (by omega)
  ·have Aa : decide (x < (l.length : Int)) = false := decide_eq_false c4
   have hxe : x = l.length := by have := HX.out; omega
   have C4 := Aside0.mk hxe
   clear c4 hxe
   go_wp2
   go_ret
   refine ⟨?_, BW.out⟩
   rw [impl_Mat_118.miss p l (by rw [← C4.out]; exact AA.out)]
   rfl
set_option maxHeartbeats 2000000 in
theorem impl_Mat_118.calls_empty (p : S42 → Bool) (A : Option Addr) (c : Nat) (fv : Value) (w : World) :
  Calls Tryz.prog 118 #[.slice A 0 c, fv] w fun e w' => e = .returned (.int .i64 (impl_Mat_118.f p [])) ∧ Below w.heap.size w w' := by
 go_enter Tryz.func118, Tryz.ntmps118
 go_wp2
 go_loopg [5, 8] 0 (fun _ _ s8 wr => s8 = .int .i64 0 ∧ wr = w)
 case atStart => exact ⟨rfl, rfl⟩
 case round =>
  obtain ⟨rfl, rfl⟩ := hrel
  go_wp2
  go_ret
  exact ⟨rfl, Below.refl _ _⟩
theorem impl_Mat_118.calls (p : S42 → Bool) (g : Nat) (lb : Array Value) (eg : ∀ args w, (callFunc g args).run Tryz.prog w = .ok (.enter g args) w) (A : Option Addr) (c : Nat) (l : List S42) (w : World) (hr : Kd.C k42 w A l.length l)
  (hp : ∀ (x : S42) (W : World), Below w.heap.size w W → Calls Tryz.prog g (#[.agg #[.int .i64 x.f0, .int .i64 x.f1, .int .i64 x.f2, .int .i64 x.f3]] ++ lb) W fun e w' => e = .returned (.bool (p x)) ∧ Below w.heap.size w w') :
  Calls Tryz.prog 118 #[.slice A l.length c, .func (.func g) #[] lb] w fun e w' => e = .returned (.int .i64 (impl_Mat_118.f p l)) ∧ Below w.heap.size w w' := by
 cases l with
 | nil => exact impl_Mat_118.calls_empty p A c _ w
 | cons x xs =>
  obtain ⟨ad, rfl, _⟩ := hr.2.2 (by simp)
  exact impl_Mat_118.calls_some p g lb eg ad c (x :: xs) w hr hp
def impl_Mat_108.Inv (p : S42 → Bool) (l : List S42) (i j : Int) (m : List S42) : Prop :=
 m.length = l.length ∧ m.take i.toNat = (l.take j.toNat).filter (fun x => !p x) ∧ ∀ t : Nat, j ≤ t → rd_T42 m (t : Int) = rd_T42 l (t : Int)
theorem impl_Mat_108.rd_get (l : List S42) (j : Nat) (h : j < l.length) : rd_T42 l (j : Int) = l[j] := by
 unfold rd_T42; rw [Int.toNat_natCast]; simp [List.getD, h]
theorem impl_Mat_108.inv_start (p : S42 → Bool) (l : List S42) (k : Nat) (hk : k < l.length) (h : p l[k] = true) (hb : ∀ (j : Nat) (hj : j < k), p (l[j]'(Nat.lt_trans hj hk)) = false) : impl_Mat_108.Inv p l (k : Int) ((k : Int) + 1) l := by
 refine ⟨rfl, ?_, fun t _ => rfl⟩
 have e : ((k : Int) + 1).toNat = k + 1 := by omega
 rw [Int.toNat_natCast, e, List.take_succ_eq_append_getElem hk, List.filter_append]
 have e2 : (l.take k).filter (fun x => !p x) = l.take k := by
  rw [List.filter_eq_self]
  intro x hx
  obtain ⟨j, hj, rfl⟩ := List.getElem_of_mem hx
  have hj' : j < k := by rw [List.length_take] at hj; omega
  rw [List.getElem_take, hb j hj']; rfl
 rw [e2]; simp [h]
theorem impl_Mat_108.inv_keep (p : S42 → Bool) (l m : List S42) (i j : Int) (h0 : 0 ≤ i) (hij : i < j) (hj : j < l.length) (h : impl_Mat_108.Inv p l i j m) (hp : p (rd_T42 m j) = false) : impl_Mat_108.Inv p l (i + 1) (j + 1) (m.set i.toNat (rd_T42 m j)) := by
 obtain ⟨h1, h2, h3⟩ := h
 obtain ⟨i, rfl⟩ := Int.eq_ofNat_of_zero_le h0
 obtain ⟨j, rfl⟩ := Int.eq_ofNat_of_zero_le (show 0 ≤ j by omega)
 have hjl : j < l.length := by omega
 have him : i < m.length := by omega
 have e1 : ((i : Int) + 1).toNat = i + 1 := by omega
 have e2 : ((j : Int) + 1).toNat = j + 1 := by omega
 have e3 := h3 j (by omega)
 rw [Int.toNat_natCast] at h2 ⊢
 rw [Int.toNat_natCast] at h2
 refine ⟨by simpa using h1, ?_, fun t ht => ?_⟩
 ·rw [e1, e2, List.take_succ_eq_append_getElem hjl, List.filter_append, ← h2, List.take_succ_eq_append_getElem (by simpa using him)]
  rw [e3, impl_Mat_108.rd_get l j hjl] at hp ⊢
  congr 1
  ·rw [List.take_set_of_le (by omega)]
  ·simp [hp]
 ·have := h3 t (by omega)
  unfold rd_T42 at this ⊢
  rw [Int.toNat_natCast] at this ⊢
  simp only [List.getD] at this ⊢
  rw [List.getElem?_set_ne (by omega)]
  exact this
theorem impl_Mat_108.inv_skip (p : S42 → Bool) (l m : List S42) (i j : Int) (h0 : 0 ≤ i) (hij : i < j) (hj : j < l.length) (h : impl_Mat_108.Inv p l i j m) (hp : p (rd_T42 m j) = true) : impl_Mat_108.Inv p l i (j + 1) m := by
 obtain ⟨h1, h2, h3⟩ := h
 obtain ⟨j, rfl⟩ := Int.eq_ofNat_of_zero_le (show 0 ≤ j by omega)
 have hjl : j < l.length := by omega
 have e2 : ((j : Int) + 1).toNat = j + 1 := by omega
 have e3 := h3 j (by omega)
 rw [Int.toNat_natCast] at h2
 refine ⟨h1, ?_, fun t ht => h3 t (by omega)⟩
 rw [e2, List.take_succ_eq_append_getElem hjl, List.filter_append, ← h2]
 rw [e3, impl_Mat_108.rd_get l j hjl] at hp
 simp [hp]
theorem impl_Mat_108.set_cells_append (b : Nat) : ∀ (xs ys : List Value) (o : Nat) (w : World), w.setCells b o (xs ++ ys) = (w.setCells b o xs).setCells b (o + xs.length) ys
 | [], _, _, _ => rfl
 | x :: xs, ys, o, w => by
  have := impl_Mat_108.set_cells_append b xs ys (o + 1) (w.setCell ⟨b, o, none⟩ x)
  rw [List.cons_append, World.setCells, World.setCells, this, List.length_cons]; congr 1; omega
theorem impl_Mat_108.zeros (n : Nat) : (Builtin.zeroCells #[.int .i64 0, .int .i64 0, .int .i64 0, .int .i64 0] n).toList = List.replicate (n * 4) (Value.int .i64 0) := by
 apply List.ext_getElem
 ·simp [Builtin.zeroCells]
 ·intro i h1 h2
  simp only [Builtin.zeroCells, Array.toList_map, Array.toList_range, List.getElem_map, List.getElem_range, List.getElem_replicate]
  have : i % 4 < 4 := Nat.mod_lt _ (by decide)
  have h4 : i % 4 = 0 ∨ i % 4 = 1 ∨ i % 4 = 2 ∨ i % 4 = 3 := by omega
  show (#[Value.int .i64 0, .int .i64 0, .int .i64 0, .int .i64 0] : Array Value)[i % 4]! = _
  rcases h4 with h | h | h | h <;> rw [h] <;> rfl
theorem impl_Mat_108.clear_row {g n cap base : Nat} {ok : Nat → Prop} (d : Nat) : ∀ (W : World) (i : Nat) (xs : List S42), Kd.R k42 42 W base ok (.slice (some ⟨g, 0, none⟩) n cap) xs → i + d = n →
  ∃ xs', xs'.take i = xs.take i ∧ xs'.length = xs.length ∧ Kd.R k42 42 (W.setCells g (i * 4) (List.replicate (d * 4) (.int .i64 0))) base ok (.slice (some ⟨g, 0, none⟩) n cap) xs' ∧ W.grownBy (W.setCells g (i * 4) (List.replicate (d * 4) (.int .i64 0))) (some g) := by
 induction d with
 | zero => intro W i xs h e; exact ⟨xs, rfl, rfl, h, ⟨rfl, rfl, rfl, Nat.le_refl _, fun _ _ _ => rfl⟩⟩
 | succ d ih =>
  intro W i xs h e
  have hn := (Kd.R_reads' h).1
  obtain ⟨ce, hcl, hM, hcc, hfr⟩ := Kd.R_elem h z42 (i : Int) (by omega) (by omega)
  have HP := Kd.R_seg h (i : Int) (by omega) (by omega) (seg := [.int .i64 0, .int .i64 0, .int .i64 0, .int .i64 0]) (j := 0) hcl hcc (show 4 ≤ 4 from by decide) (x' := z42) (by
   obtain rfl := k42_openM hM
   exact k42_mkM _ _ _ z42) (fun _ hk => hk)
  rw [Int.toNat_natCast] at HP
  obtain ⟨h1, h2⟩ := HP
  obtain ⟨xs', q1, q2, q3, q4⟩ := ih _ (i + 1) _ h1 (by omega)
  have e1 : List.replicate ((d + 1) * 4) (Value.int .i64 0) = [.int .i64 0, .int .i64 0, .int .i64 0, .int .i64 0] ++ List.replicate (d * 4) (.int .i64 0) := by
   rw [show (d + 1) * 4 = 4 + d * 4 by omega, ← List.replicate_append_replicate]; rfl
  have e2 : (W.setCells g (i * 4) (List.replicate ((d + 1) * 4) (.int .i64 0))) = ((W.setCells g (i * (k42).sz + 0) [.int .i64 0, .int .i64 0, .int .i64 0, .int .i64 0]).setCells g ((i + 1) * 4) (List.replicate (d * 4) (.int .i64 0))) := by
   rw [e1, impl_Mat_108.set_cells_append]; congr 1; show i * 4 + 4 = (i + 1) * 4; omega
  rw [e2]
  refine ⟨xs', ?_, by simpa using q2, q3, h2.trans q4⟩
  have := congrArg (List.take i) q1
  rw [List.take_take, List.take_take, Nat.min_eq_left (Nat.le_succ i)] at this
  rw [this, List.take_set_of_le (Nat.le_refl _)]
theorem impl_Mat_108.cells_of_row {g n cap base : Nat} {ok : Nat → Prop} {W : World} {xs : List S42} (h : Kd.R k42 42 W base ok (.slice (some ⟨g, 0, none⟩) n cap) xs) (t : Nat) (ht : t < n * 4) : (W.cell? ⟨g, t, none⟩).isSome = true ∧ W.frozen? ⟨g, t, none⟩ = false := by
 obtain ⟨ce, hcl, hM, hcc, hfr⟩ := Kd.R_elem h z42 ((t / 4 : Nat) : Int) (by omega) (by omega)
 rw [Int.toNat_natCast, show (k42).sz = 4 from rfl] at hcc hfr
 have e : t / 4 * 4 + t % 4 = t := by omega
 have hl : ce.length = 4 := hcl
 have hr : t % 4 < ce.length := by rw [hl]; omega
 have h1 := hcc (t % 4) _ (List.getElem?_eq_getElem hr)
 have h2 := hfr (t % 4)
 rw [e] at h1 h2
 exact ⟨by rw [h1]; rfl, h2⟩
theorem impl_Mat_108.zero_run (W : World) : (zeroValue 42).run Tryz.prog W = .ok (.agg #[.int .i64 0, .int .i64 0, .int .i64 0, .int .i64 0]) W := by
 have := info42
 cases h : Tryz.prog.info? 42 with
 | none => rw [h] at this; cases this
 | some i =>
  rw [h] at this
  simp only [Option.map_some, Option.some.injEq, Prod.mk.injEq] at this
  simp [zeroValue, typeInfo, h, this.1]
theorem impl_Mat_108.clear_run {g n c base : Nat} {ok : Nat → Prop} {W : World} {xs : List S42} (h : Kd.R k42 42 W base ok (.slice (some ⟨g, 0, none⟩) n c) xs) (i : Nat) (hi : i < n) (ty : TypeId) (c' : Nat) :
  (Builtin.clear_ #[108] ty #[.slice (some ⟨g, i * 4, none⟩) (n - i) c']).run Tryz.prog W = .ok (.tuple #[]) (W.setCells g (i * 4) (List.replicate ((n - i) * 4) (.int .i64 0))) := by
 have hst := run_storeCells_cells (P := Tryz.prog) g (i * 4) (List.replicate ((n - i) * 4) (.int .i64 0)) 0 W (fun j hj => (impl_Mat_108.cells_of_row h (i * 4 + 0 + j) (by rw [List.length_replicate] at hj; omega)).1) (fun j hj => (impl_Mat_108.cells_of_row h (i * 4 + 0 + j) (by rw [List.length_replicate] at hj; omega)).2) (by intro v hv; rw [List.eq_of_mem_replicate hv]; rfl)
 simp only [Nat.add_zero] at hst
 have hz := impl_Mat_108.zeros (n - i)
 obtain ⟨q, hq⟩ : ∃ q, n - i = q + 1 := ⟨n - i - 1, by omega⟩
 rw [hq] at hst hz ⊢
 simp [Builtin.clear_, run_underlying Tryz.underlying108, impl_Mat_108.zero_run, Value.cells, hz, hst]
set_option maxHeartbeats 4000000 in
theorem impl_Mat_108.calls (p : S42 → Bool) (g : Nat) (lb : Array Value) (eg : ∀ args w, (callFunc g args).run Tryz.prog w = .ok (.enter g args) w) (P0_ : Nat → Prop) (u0_ : Value) (l : List S42) (w0 w : World) (hB : Below w0.heap.size w0 w) (ho : Kd.R k42 42 w w0.heap.size P0_ u0_ l)
  (hp : ∀ (x : S42) (W : World), Below w0.heap.size w0 W → Kept w W P0_ → Calls Tryz.prog g (#[.agg #[.int .i64 x.f0, .int .i64 x.f1, .int .i64 x.f2, .int .i64 x.f3]] ++ lb) W fun e w' => e = .returned (.bool (p x)) ∧ Below W.heap.size W w') :
  Calls Tryz.prog 108 #[u0_, .func (.func g) #[] lb] w fun e w' => ∃ v', e = .returned v' ∧ Kd.R k42 42 w' w0.heap.size (fun k_ => P0_ k_ ∨ w.heap.size ≤ k_) v' (l.filter fun x => !p x) ∧ Below w0.heap.size w0 w' ∧ Kept w w' P0_ := by
 have hu33 := Tryz.underlying42
 obtain ⟨A0, c0, e0, hlc, hC⟩ := Kd.R_reads ho
 subst e0
 have HI := impl_Mat_118.calls p g lb eg A0 c0 l w hC (fun x W hb => (hp x W (below_then hB hB.size hb) (Kept.of_below hb _)).mono fun e w' ⟨he, hb'⟩ => ⟨he, below_then hb hb.size hb'⟩)
 have HO := asd (show Kd.R k42 42 w w0.heap.size (fun k_ => P0_ k_ ∨ w.heap.size ≤ k_) (.slice A0 l.length c0) l from Kd.R_mono ho (fun k_ hk => .inl hk))
 have HP := Aside0.mk hp
 have HB := Aside0.mk hB
 have HBIG := asd (show l.length ≤ 9223372036854775807 from Kd.C_max hC)
 unfold impl_Mat_118.f at HI
 clear ho hp hB hC hlc
 cases hf : l.findIdx? p with
 | none =>
  rw [hf] at HI
  have hall : (l.filter fun x => !p x) = l := by
   rw [List.filter_eq_self]
   intro x hx
   have := List.findIdx?_eq_none_iff.1 hf x hx
   simp [this]
  rw [hall]
  clear hf hall
  replace HI : Calls Tryz.prog 118 #[.slice A0 l.length c0, .func (.func g) #[] lb] w fun e w' => e = .returned (.int .i64 (-1)) ∧ Below w.heap.size w w' := HI
  go_enter Tryz.func108, Tryz.ntmps108
  go_wp2_with (go_at_call 118; refine HI.mono ?_; rintro e w' ⟨rfl, hb'⟩)
  go_ret
  exact ⟨_, rfl, Kd.R_below HO.out hb', below_then HB.out HB.out.size hb', Kept.of_below hb' _⟩
 | some k =>
  rw [hf] at HI
  obtain ⟨hk, hpk, hbk⟩ := List.findIdx?_eq_some_iff_getElem.1 hf
  have HS := asd (impl_Mat_108.inv_start p l k hk hpk (fun j hj => by simpa using hbk j hj))
  have HK := Aside0.mk hk
  clear hf hpk hbk
  replace HI : Calls Tryz.prog 118 #[.slice A0 l.length c0, .func (.func g) #[] lb] w fun e w' => e = .returned (.int .i64 (k : Int)) ∧ Below w.heap.size w w' := HI
  have hne1 : ((k : Int) == -1) = false := beq_eq_false_iff_ne.2 (by omega)
  obtain ⟨go, co, eo, gb, gl, cl, HG⟩ := Kd.R_form HO.out (by omega)
  injection eo with ea_ en_ ec_
  subst ea_
  subst ec_
  clear en_ gl HG cl
  have HKW := asd (show wrap64 ((k : Int) + 1) = (k : Int) + 1 by have := HBIG.out; unfold wrap64; omega)
  clear hk
  go_enter Tryz.func108, Tryz.ntmps108
  go_wp2_with (go_at_call 118; refine HI.mono ?_; rintro e w' ⟨rfl, hb'⟩)
  go_loopg [5, 6, 7] l.length (fun gg s5 s6 _ wr => ∃ (i j : Int) (m : List S42), s5 = .int .i64 i ∧ s6 = .int .i64 j ∧ Aside0 (0 ≤ i ∧ i < j ∧ j ≤ l.length ∧ (l.length : Int) - j ≤ gg) ∧ Aside0 (impl_Mat_108.Inv p l i j m) ∧ Aside0 (Kd.R k42 42 wr w0.heap.size (fun k_ => P0_ k_ ∨ w.heap.size ≤ k_) (.slice (some ⟨go, 0, none⟩) l.length c0) m) ∧ Aside0 (Kept w wr P0_) ∧ Aside0 (Below w0.heap.size w0 wr))
  case atStart => exact ⟨k, wrap64 ((k : Int) + 1), l, rfl, rfl, ⟨by have := HK.out; rw [HKW.out]; omega⟩, ⟨by rw [HKW.out]; exact HS.out⟩, ⟨Kd.R_below HO.out hb'⟩, ⟨Kept.of_below hb' _⟩, ⟨below_then HB.out HB.out.size hb'⟩⟩
  case round =>
   clear HI
   obtain ⟨i, j, m, rfl, rfl, HX, HV, HR, HKP, HBW⟩ := hrel
   by_cases c4 : j < (l.length : Int)
   ·have Aa : decide (j < (l.length : Int)) = true := decide_eq_true c4
    have Ab : decide (0 ≤ j) = true := decide_eq_true (by have := HX.out; omega)
    obtain ⟨ce, hcl, hM, hcc, hfr⟩ := Kd.R_elem HR.out z42 j (by have := HX.out; omega) c4
    obtain rfl := k42_openM hM
    have hx0 : wr.cell? ⟨go, j.toNat * 4, none⟩ = some (.int .i64 ((rd_T42 m j).f0)) := hcc 0 _ rfl
    have hx1 : wr.cell? ⟨go, j.toNat * 4 + 1, none⟩ = some (.int .i64 ((rd_T42 m j).f1)) := hcc 1 _ rfl
    have hx2 : wr.cell? ⟨go, j.toNat * 4 + 2, none⟩ = some (.int .i64 ((rd_T42 m j).f2)) := hcc 2 _ rfl
    have hx3 : wr.cell? ⟨go, j.toNat * 4 + 3, none⟩ = some (.int .i64 ((rd_T42 m j).f3)) := hcc 3 _ rfl
    clear hcl hcc hfr hM
    have C4 := Aside0.mk c4
    have p215 : (0 ≤ j) = True := eq_true (by have := HX.out; omega)
    have q215 : (j < (l.length : Int)) = True := eq_true c4
    clear c4
    generalize hy : rd_T42 m j = y at hx0 hx1 hx2 hx3
    have HY := Aside0.mk hy
    clear hy
    have hI : 0 ≤ i ∧ i < (l.length : Int) := by have h1 := HX.out; have h2 := C4.out; omega
    have p300 : (0 ≤ i) = True := eq_true hI.1
    have q300 : (i < (l.length : Int)) = True := eq_true hI.2
    have Ac : decide (0 ≤ i) = true := decide_eq_true hI.1
    have Ad : decide (i < (l.length : Int)) = true := decide_eq_true hI.2
    have HI := Aside0.mk hI
    clear hI
    have hcall := HP.out y (wr.alloc (.cells #[.int .i64 y.f0, .int .i64 y.f1, .int .i64 y.f2, .int .i64 y.f3] 42)) (below_alloc HBW.out _) (Kept.alloc HKP.out _)
    cases hq : p y with
    | true =>
     rw [hq] at hcall
     have HQ := Aside0.mk hq
     clear hq
     go_wp2_with (go_at_fn g; refine hcall.mono ?_; rintro e w2 ⟨rfl, hb2⟩)
     go_roundg ((l.length : Int) - (j + 1)).toNat
     case measure => have h1 := HX.out; have h3 := C4.out; omega
     case rel =>
      have hw : wrap64 (j + 1) = j + 1 := by
       have h1 := HX.out; have h2 := HBIG.out; have h3 := C4.out
       unfold wrap64; omega
      have hb1 := Kept.below (Kept.alloc HKP.out (.cells #[.int .i64 y.f0, .int .i64 y.f1, .int .i64 y.f2, .int .i64 y.f3] 42)) hb2
      have hbb := below_then (below_alloc HBW.out (.cells #[.int .i64 y.f0, .int .i64 y.f1, .int .i64 y.f2, .int .i64 y.f3] 42)) (below_alloc HBW.out _).size hb2
      refine ⟨i, wrap64 (j + 1), m, rfl, rfl, ⟨?_⟩, ⟨?_⟩, ⟨Kd.R_below (Kd.R_alloc HR.out _) hb2⟩, ⟨hb1⟩, ⟨hbb⟩⟩
      ·have h1 := HX.out; have h3 := C4.out; rw [hw]; omega
      ·rw [hw]; exact impl_Mat_108.inv_skip p l m i j HX.out.1 HX.out.2.1 C4.out HV.out (by rw [HY.out]; exact HQ.out)
    | false =>
     rw [hq] at hcall
     have HQ := Aside0.mk hq
     clear hq
     go_wp2_with (go_at_fn g; refine hcall.mono ?_; rintro e w2 ⟨rfl, hb2⟩; have hz0 : w2.cell? ⟨wr.heap.size, 0, none⟩ = some (.int .i64 y.f0) := (hb2.cell (p := ⟨wr.heap.size, 0, none⟩) (by simp)).trans (by simp); have hz1 : w2.cell? ⟨wr.heap.size, 1, none⟩ = some (.int .i64 y.f1) := (hb2.cell (p := ⟨wr.heap.size, 1, none⟩) (by simp)).trans (by simp); have hz2 : w2.cell? ⟨wr.heap.size, 2, none⟩ = some (.int .i64 y.f2) := (hb2.cell (p := ⟨wr.heap.size, 2, none⟩) (by simp)).trans (by simp); have hz3 : w2.cell? ⟨wr.heap.size, 3, none⟩ = some (.int .i64 y.f3) := (hb2.cell (p := ⟨wr.heap.size, 3, none⟩) (by simp)).trans (by simp); have HR2 := asd (Kd.R_below (Kd.R_alloc HR.out (.cells #[.int .i64 y.f0, .int .i64 y.f1, .int .i64 y.f2, .int .i64 y.f3] 42)) hb2); obtain ⟨ce2, hcl2, hM2, hcc2, hfr2⟩ := Kd.R_elem HR2.out z42 i HI.out.1 HI.out.2; obtain rfl := k42_openM hM2; have hS2 := Kd.R_seg HR2.out i HI.out.1 HI.out.2 (seg := [.int .i64 y.f0, .int .i64 y.f1, .int .i64 y.f2, .int .i64 y.f3]) (j := 0) hcl2 hcc2 (show 4 ≤ 4 from by decide) (x' := y) (k42_mkM _ _ _ y) (fun _ hk => hk); have HS2 := Aside0.mk hS2; clear hS2; have hu0 := hcc2 0 _ rfl; have hu1 := hcc2 1 _ rfl; have hu2 := hcc2 2 _ rfl; have hu3 := hcc2 3 _ rfl; have hv0 := hfr2 0; have hv1 := hfr2 1; have hv2 := hfr2 2; have hv3 := hfr2 3; simp only [show (k42).sz = 4 from rfl, Nat.add_zero] at hu0 hu1 hu2 hu3 hv0 hv1 hv2 hv3; clear hcl2 hcc2 hfr2 hM2)
     go_roundg ((l.length : Int) - (j + 1)).toNat
     case measure => have h1 := HX.out; have h3 := C4.out; omega
     case rel =>
      have hw : wrap64 (j + 1) = j + 1 := by
       have h1 := HX.out; have h2 := HBIG.out; have h3 := C4.out
       unfold wrap64; omega
      have hw2 : wrap64 (i + 1) = i + 1 := by
       have h1 := HX.out; have h2 := HBIG.out; have h3 := C4.out
       unfold wrap64; omega
      have hb1 := Kept.below (Kept.alloc HKP.out (.cells #[.int .i64 y.f0, .int .i64 y.f1, .int .i64 y.f2, .int .i64 y.f3] 42)) hb2
      have hbb := below_then (below_alloc HBW.out (.cells #[.int .i64 y.f0, .int .i64 y.f1, .int .i64 y.f2, .int .i64 y.f3] 42)) (below_alloc HBW.out _).size hb2
      refine ⟨wrap64 (i + 1), wrap64 (j + 1), m.set i.toNat y, rfl, rfl, ⟨?_⟩, ⟨?_⟩, ⟨HS2.out.1⟩, ⟨Kept.of_grown HS2.out.2 hb1 (fun k_ e_ => HR2.out.1 k_ e_)⟩, ⟨?_⟩⟩
      ·have h1 := HX.out; have h3 := C4.out; rw [hw, hw2]; omega
      ·have := impl_Mat_108.inv_keep p l m i j HX.out.1 HX.out.2.1 C4.out HV.out (by rw [HY.out]; exact HQ.out)
       rw [hw, hw2]; rw [HY.out] at this; exact this
      ·exact below_set (below_set (below_set (below_set hbb gb) gb) gb) gb
   ·have Aa : decide (j < (l.length : Int)) = false := decide_eq_false c4
    have hje : j = l.length := by have := HX.out; omega
    obtain ⟨i, rfl⟩ := Int.eq_ofNat_of_zero_le HX.out.1
    have hil : i < l.length := by have := HX.out; omega
    have HJ := Aside0.mk hje
    have HIL := Aside0.mk hil
    have hlc := (Kd.R_reads' HR.out).2.1
    have hcl : ∀ ty, (Builtin.clear_ #[108] ty #[.slice (some ⟨go, i * 4, none⟩) (l.length - i) (c0 - i)]).run Tryz.prog wr = .ok (.tuple #[]) (wr.setCells go (i * 4) (List.replicate ((l.length - i) * 4) (.int .i64 0))) := fun ty => impl_Mat_108.clear_run HR.out i hil ty _
    clear c4 hje
    go_wp2
    go_ret
    obtain ⟨xs', q1, q2, q3, q4⟩ := impl_Mat_108.clear_row (l.length - i) wr i m HR.out (by have := HIL.out; omega)
    have hv := HV.out
    have hm := hv.1
    have hR := Kd.R_take q3 (m := i) (by rw [q2, hm]; have := HIL.out; omega)
    have hfin : xs'.take i = l.filter fun x => !p x := by
     have h2 := hv.2.1
     rw [Int.toNat_natCast, HJ.out, Int.toNat_natCast, List.take_length] at h2
     rw [q1, h2]
    rw [hfin] at hR
    exact ⟨_, rfl, hR, HBW.out.grown q4 HBW.out.size (fun k_ e_ => by injection e_ with e_; subst e_; exact gb), Kept.of_grown q4 HKP.out (fun k_ e_ => HR.out.1 k_ e_)⟩
def impl_norm.f (a0 : Int) (Aa : Int) (Ab : Int) : Option (Int) := some (wrap64 ((wrap64 ((wrap64 (Aa * Aa)) + (wrap64 ((wrap64 (a0 * Aa)) * Ab)))) + (wrap64 (Ab * Ab))))
theorem impl_norm.calls (a0 : Int) (Aa : Int) (Ab : Int) (r : Int) (w : World) (h : impl_norm.f a0 Aa Ab = some r) :
  Calls Tryz.prog 68 #[.int .i64 a0, .agg #[.int .i64 Aa, .int .i64 Ab]] w fun e w' => e = .returned (.int .i64 r) ∧ Below w.heap.size w w' := by
 have hu44 := Tryz.underlying44
 have HB := asd (Below.refl w.heap.size w)
 have H : (some (wrap64 ((wrap64 ((wrap64 (Aa * Aa)) + (wrap64 ((wrap64 (a0 * Aa)) * Ab)))) + (wrap64 (Ab * Ab))))) = some r := h
 clear h
 obtain rfl := Option.some.inj H
 go_enter Tryz.func68, Tryz.ntmps68
 go_wp2_with (first | ((with_reducible refine gd 3 rfl ?_); refine bx #[.int .i64 Aa, .int .i64 Ab] 44 ?_; intro Ai hg w3 Ac hb; have Ad := ngw0 hg HB; replace HB := bS0 HB hb; clear hb hg; obtain ⟨Ae, Af, Ag, Ah⟩ := bz2 Ac))
 go_ret
 exact er (bbw1 HB Ad)
end Go.Proofs.YtfmjboloeabjmaaGreat.PA
