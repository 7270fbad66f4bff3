/- Walks written by program: each Go function that the law reaches comes to the plain function beside it. -/
import Derived.Test.YtfmjboloeabjmaaPAx0
import Derived.Test.YtfmjboloeabjmaaPAx11
namespace Go.Proofs.Ytfmjboloeabjmaa.PA
open Go.RowKit Go.Proofs.YtfmjboloeabjmaaW.PrintWords Go.Proofs.YtfmjboloeabjmaaW.PrintLast Go.Proofs.YtfmjboloeabjmaaW.PrintMore
attribute [local go_sem] max2_int min2_int max_two min_two max_three min_three max_four min_four   -- for this text's walks alone
set_option linter.unusedVariables false
set_option linter.unusedSimpArgs false

/-! ### laws_toMotion: function 13 -/
def laws_toMotion.f (a0_0 : Int) (a0_1 : Int) (a0_2 : Int) (a0_3 : Int) (a0_4 : Int) (a0_5 : Int) : Option (Int × Int × Int × Int × Int × Int) := (laws_toMat.f a0_0 a0_1 a0_2 a0_3).bind fun bt366 => ((laws_toVec.f a0_4 a0_5).bind fun bt370 => (some (bt366.1, bt366.2.1, bt366.2.2.1, bt366.2.2.2, bt370.1, bt370.2)))
set_option maxHeartbeats 8000000 in
set_option maxRecDepth 100000 in
theorem laws_toMotion.calls (a0_0 : Int) (a0_1 : Int) (a0_2 : Int) (a0_3 : Int) (a0_4 : Int) (a0_5 : Int) (r1 : Int) (r2 : Int) (r3 : Int) (r4 : Int) (r5 : Int) (r6 : Int) (w : World) (h : laws_toMotion.f a0_0 a0_1 a0_2 a0_3 a0_4 a0_5 = some (r1, r2, r3, r4, r5, r6)) :
  Calls Try.prog 13 #[.agg #[.int .i64 a0_0, .int .i64 a0_1, .int .i64 a0_2, .int .i64 a0_3, .int .i64 a0_4, .int .i64 a0_5]] w fun e w' => e = .returned (.agg #[.int .i64 r1, .int .i64 r2, .int .i64 r3, .int .i64 r4, .int .i64 r5, .int .i64 r6]) ∧ Below w.heap.size w w' := by
 have hu49 := Try.underlying49
 have hu44 := Try.underlying44
 have hu46 := Try.underlying46
 have hu40 := Try.underlying40
 have hu47 := Try.underlying47
 have hu42 := Try.underlying42
 have HB := asd (Below.refl w.heap.size w)
 have H : ((laws_toMat.f a0_0 a0_1 a0_2 a0_3).bind fun bt366 => ((laws_toVec.f a0_4 a0_5).bind fun bt370 => (some (bt366.1, bt366.2.1, bt366.2.2.1, bt366.2.2.2, bt370.1, bt370.2)))) = some (r1, r2, r3, r4, r5, r6) := h
 clear h
 obtain ⟨⟨t366, t367, t368, t369⟩, A2, H⟩ := ob H
 try dsimp only at H
 obtain ⟨⟨t370, t371⟩, A3, H⟩ := ob H
 try dsimp only at H
 simp only [Option.some.injEq, Prod.mk.injEq] at H
 obtain ⟨rfl, rfl, rfl, rfl, rfl, rfl⟩ := H
 go_enter Try.func13, Try.ntmps13
 go_wp2_with (first | ((with_reducible refine gd 1 rfl ?_); refine bx #[.int .i64 a0_0, .int .i64 a0_1, .int .i64 a0_2, .int .i64 a0_3, .int .i64 a0_4, .int .i64 a0_5] 49 ?_; intro gb363 hg w4 BK363 hb; have GE363 := ngw0 hg HB; replace HB := bS0 HB hb; clear hb hg) | ((with_reducible refine gd 2 rfl ?_); refine bx #[.int .i64 0, .int .i64 0, .int .i64 0, .int .i64 0, .int .i64 0, .int .i64 0] 44 ?_; intro gb364 hg w5 BK364 hb; have GE364 := ngw1 hg HB GE363; replace HB := bS1 HB GE363 hb; have NB363_364 := nlt hg BK363; have NB364_363 := nsy (nlt hg BK363); replace BK363 := bB BK363 hb; clear hb hg) | ((with_reducible refine gd 3 rfl ?_); refine bx #[.int .i64 0, .int .i64 0, .int .i64 0, .int .i64 0, .int .i64 0, .int .i64 0] 44 ?_; intro gb365 hg w6 BK365 hb; have GE365 := ngw2 hg HB GE363 GE364; replace HB := bS2 HB GE363 GE364 hb; have NB363_365 := nlt hg BK363; have NB365_363 := nsy (nlt hg BK363); replace BK363 := bB BK363 hb; have NB364_365 := nlt hg BK364; have NB365_364 := nsy (nlt hg BK364); replace BK364 := bB BK364 hb; clear hb hg; have hnb7 := NB363_364.out; have hnc7 := NB364_363.out; have hnb8 := NB363_365.out; have hnc8 := NB365_363.out; obtain ⟨hcz9_0, hcz9_1, hcz9_2, hcz9_3, hcz9_4, hcz9_5, hfz9_0, hfz9_1, hfz9_2, hfz9_3, hfz9_4, hfz9_5⟩ := bz6 BK363) | ((with_reducible refine gate_callee (f := 32) rfl ?_); refine gl 6 Try.func32 #[.agg #[.int .i64 a0_0, .int .i64 a0_1, .int .i64 a0_2, .int .i64 a0_3]] ?_; (with_reducible refine (laws_toMat.calls _ _ _ _ _ _ _ _ _ A2.out).mono ?_); rintro e w10 ⟨rfl, hb⟩; refine ⟨_, rfl, ?_⟩; replace BK363 := bB BK363 hb; replace BK364 := bB BK364 hb; replace BK365 := bB BK365 hb; replace HB := bS3 HB GE363 GE364 GE365 hb; (try clear hb); have hnb11 := NB365_364.out; have hnc11 := NB364_365.out; obtain ⟨hcz12_0, hcz12_1, hcz12_2, hcz12_3, hcz12_4, hcz12_5, hfz12_0, hfz12_1, hfz12_2, hfz12_3, hfz12_4, hfz12_5⟩ := bz6 BK365; obtain ⟨hcz13_0, hcz13_1, hcz13_2, hcz13_3, hcz13_4, hcz13_5, hfz13_0, hfz13_1, hfz13_2, hfz13_3, hfz13_4, hfz13_5⟩ := bz6 BK363) | ((with_reducible refine gate_callee (f := 33) rfl ?_); refine gl 10 Try.func33 #[.agg #[.int .i64 a0_4, .int .i64 a0_5]] ?_; (with_reducible refine (laws_toVec.calls _ _ _ _ _ A3.out).mono ?_); rintro e w14 ⟨rfl, hb⟩; refine ⟨_, rfl, ?_⟩; replace BK363 := asd (blk_below (g := gb363) (o := .cells #[.int .i64 a0_0, .int .i64 a0_1, .int .i64 a0_2, .int .i64 a0_3, .int .i64 a0_4, .int .i64 a0_5] 49 (0, 0)) (bq1 BK363 NB363_365) hb); replace BK364 := asd (blk_below (g := gb364) (o := .cells #[.int .i64 0, .int .i64 0, .int .i64 0, .int .i64 0, .int .i64 0, .int .i64 0] 44 (0, 0)) (bq1 BK364 NB364_365) hb); replace BK365 := asd (blk_below (g := gb365) (o := .cells #[.int .i64 t366, .int .i64 t367, .int .i64 t368, .int .i64 t369, .int .i64 0, .int .i64 0] 44 (0, 0)) (bq0 BK365) hb); replace HB := bS3 HB GE363 GE364 GE365 hb; (try clear hb); obtain ⟨hcz15_0, hcz15_1, hcz15_2, hcz15_3, hcz15_4, hcz15_5, hfz15_0, hfz15_1, hfz15_2, hfz15_3, hfz15_4, hfz15_5⟩ := bz6 BK365; obtain ⟨hcz16_0, hcz16_1, hcz16_2, hcz16_3, hcz16_4, hcz16_5, hfz16_0, hfz16_1, hfz16_2, hfz16_3, hfz16_4, hfz16_5⟩ := bz6 BK364))
 refine bodyPost_ret (results_cell_row rfl _ _ gb364 44 #[.int .i64 t366, .int .i64 t367, .int .i64 t368, .int .i64 t369, .int .i64 t370, .int .i64 t371] (0, 0) _ rfl (bq1 BK364 NB364_365) Try.underlying44 rfl (by kernel_rfl)) rfl ?_
 exact er (bbw3 HB GE363 GE364 GE365)
/-! ### laws_toMotionS: function 7 -/
def laws_toMotionS.l0 : Nat → List (S49) → List (S44) → Int → Option ((List (S44)))
 | 0, _, _, _ => none
 | k + 1, x0, x3, x4 => if x4 < (x0.length : Int) then (if 0 ≤ x4 then ((laws_toMotion.f ((rd_T49 x0 x4).f0.f0) ((rd_T49 x0 x4).f0.f1) ((rd_T49 x0 x4).f0.f2) ((rd_T49 x0 x4).f0.f3) ((rd_T49 x0 x4).f1.f0) ((rd_T49 x0 x4).f1.f1)).bind fun bt376 => (if x4 < (x3.length : Int) then (laws_toMotionS.l0 k x0 (x3.set (x4 : Int).toNat (⟨(⟨bt376.1, bt376.2.1, bt376.2.2.1, bt376.2.2.2.1⟩ : S40), (⟨bt376.2.2.2.2.1, bt376.2.2.2.2.2⟩ : S42)⟩ : S44)) (wrap64 (x4 + 1))) else (none))) else (none)) else (some x3)
def laws_toMotionS.f (k : Nat) (l0 : List (S49)) : Option ((List (S44))) := if 0 ≤ (l0.length : Int) then (if ((l0.length : Int) : Int).toNat ≤ 5864062014805 then (laws_toMotionS.l0 k l0 (List.replicate ((l0.length : Int) : Int).toNat z44) 0) else (none)) else (none)
set_option maxHeartbeats 8000000 in
set_option maxRecDepth 100000 in
theorem laws_toMotionS.calls (k : Nat) (A0 : Option Addr) (c0 : Nat) (l0 : List (S49)) (r : List (S44)) (w : World) (hr0 : Kd.C k49 w A0 l0.length l0) (hc0 : l0.length ≤ c0) (h : laws_toMotionS.f k l0 = some r) :
  Calls Try.prog 7 #[.slice A0 l0.length c0] w fun e w' => ∃ v0_ : Value, e = .returned (v0_) ∧ Kd.R k44 44 w' w.heap.size (fun _ => True) v0_ r ∧ Below w.heap.size w w' := by
 have hu49 := Try.underlying49
 have hu44 := Try.underlying44
 have HR0 := Aside0.mk hr0
 have HC0 := Aside0.mk hc0
 clear hr0 hc0
 have HB := asd (Below.refl w.heap.size w)
 have H : (if 0 ≤ (l0.length : Int) then (if ((l0.length : Int) : Int).toNat ≤ 5864062014805 then (laws_toMotionS.l0 k l0 (List.replicate ((l0.length : Int) : Int).toNat z44) 0) else (none)) else (none)) = some r := h
 clear h
 by_cases c2 : 0 ≤ (l0.length : Int)
 ·rw [if_pos c2] at H
  have c2b0 := eq_true c2
  have c2b1 := decide_eq_true c2
  clear c2
  by_cases c3 : ((l0.length : Int) : Int).toNat ≤ 5864062014805
  ·rw [if_pos c3] at H
   have c3b0 := eq_true c3
   have c3b1 := decide_eq_true c3
   clear c3
   obtain ⟨y372, hy372⟩ : ∃ y_ : List (S44), y_ = (List.replicate ((l0.length : Int) : Int).toNat z44) := ⟨_, rfl⟩
   replace H : (laws_toMotionS.l0 k l0 y372 0) = some r := by first | (rw [hy372]; with_reducible exact H) | (have H2_ := (Option.bind_some _ _).symm.trans H; rw [hy372]; with_reducible exact H2_) | (have H2_ := (Option.bind_some _ _).symm.trans H; with_reducible exact H2_) | with_reducible exact H | (rw [hy372]; exact H) | exact H
   have Ny372 := Aside0.mk hy372
   clear hy372
   have H' := Aside0.mk H
   clear H
   go_enter Try.func7, Try.ntmps7
   go_wp2_with (first | ((with_reducible refine gd 7 rfl ?_); refine Kd.R_make k44 _ 44 rfl (N := 7) rfl 30 _ _ rfl (l0.length : Int) rfl rfl Try.underlying30 (.agg #[(.int .i64 0), (.int .i64 0), (.int .i64 0), (.int .i64 0), (.int .i64 0), (.int .i64 0)]) 48 info44 rfl (by decide) (by omega) z44 (ok := fun _ => True) (okp := fun _ => True) (k44_mkM _ _ _ z44 ) (fun _ hk => hk) trivial (od) (Nat.le_trans (Nat.mul_le_mul_right _ (od : (l0.length : Int).toNat ≤ 5864062014805)) (by omega)) (Below.refl _ _) (Nat.le_refl _) ?_; intro v373 w4 ho5 hb hg_ hnew_; clear hg_ hnew_; (first | rw [← Ny372.out] at ho5 | (simp only [Int.reduceToNat] at ho5; rw [← Ny372.out] at ho5)); have HO374 := asd (Kd.R_lower ho5 (bsz0 HB)); replace HB := bS0 HB hb; clear hb ho5))
   go_loopg [4] k (fun kq v4 w' => ∃ (x3_1 : List (S44)) (x4_1 : Int), v4 = .int .i64 x4_1 ∧ Aside0 (laws_toMotionS.l0 kq l0 x3_1 x4_1 = some r) ∧ Aside0 (kq ≤ k) ∧ Aside0 (Kd.R k44 44 w' w.heap.size (fun _ => True) v373 x3_1) ∧ Aside0 (Below w.heap.size w w'))
   case atStart => exact ⟨(y372), (0), (by first | rfl | (simp; done) | (simp [*]; done)), H', ⟨Nat.le_refl _⟩, ⟨by (with_reducible repeat (first | apply Kd.R_alloc | apply Kd.R_drewN | apply Kd.R_drew)); exact HO374.out⟩, ⟨bbw0 HB⟩⟩
   case round =>
    clear H'
    try clear c2
    try clear c2b0
    try clear c2b1
    try clear p2
    try clear c3
    try clear c3b0
    try clear c3b1
    obtain ⟨x3_1, x4_1, rfl, HA, HK1, HO_3, HB⟩ := hrel
    cases gk with
    | zero => exact absurd HA.out (by simp [laws_toMotionS.l0])
    | succ k1 =>
     have H := HA.out
     clear HA
     simp only [laws_toMotionS.l0] at H
     by_cases c6 : x4_1 < (l0.length : Int)
     ·rw [if_pos c6] at H
      have c6b0 := decide_eq_true c6
      clear c6
      by_cases c7 : 0 ≤ x4_1
      ·rw [if_pos c7] at H
       have c7b0 := decide_eq_true c7
       clear c7
       obtain ⟨⟨t376, t377, t378, t379, t380, t381⟩, A8, H⟩ := ob H
       try dsimp only at H
       by_cases c9 : x4_1 < (x3_1.length : Int)
       ·rw [if_pos c9] at H
        have c9b0 := decide_eq_true c9
        clear c9
        obtain ⟨y382, hy382⟩ : ∃ y_ : List (S44), y_ = (x3_1.set (x4_1 : Int).toNat (⟨(⟨t376, t377, t378, t379⟩ : S40), (⟨t380, t381⟩ : S42)⟩ : S44)) := ⟨_, rfl⟩
        replace H : (laws_toMotionS.l0 k1 l0 y382 (wrap64 (x4_1 + 1))) = some r := by first | (rw [hy382]; with_reducible exact H) | (have H2_ := (Option.bind_some _ _).symm.trans H; rw [hy382]; with_reducible exact H2_) | (have H2_ := (Option.bind_some _ _).symm.trans H; with_reducible exact H2_) | with_reducible exact H | (rw [hy382]; exact H) | exact H
        have Ny382 := Aside0.mk hy382
        clear hy382
        have H' := Aside0.mk H
        clear H
        obtain ⟨p375, q375, ad375, e375, hx375_0, hx375_1, hx375_2, hx375_3, hx375_4, hx375_5⟩ := at_T49x HR0.out HB x4_1
        cases e375
        go_wp2_with (first | ((with_reducible refine gate_callee (f := 13) rfl ?_); refine gl 20 Try.func13 #[.agg #[.int .i64 ((rd_T49 l0 x4_1).f0.f0), .int .i64 ((rd_T49 l0 x4_1).f0.f1), .int .i64 ((rd_T49 l0 x4_1).f0.f2), .int .i64 ((rd_T49 l0 x4_1).f0.f3), .int .i64 ((rd_T49 l0 x4_1).f1.f0), .int .i64 ((rd_T49 l0 x4_1).f1.f1)]] ?_; (with_reducible refine (laws_toMotion.calls _ _ _ _ _ _ _ _ _ _ _ _ _ A8.out).mono ?_); rintro e w11 ⟨rfl, hb⟩; refine ⟨_, rfl, ?_⟩; replace HO_3 := asd (Kd.R_below (kr HO_3) hb); replace HB := bS0 HB hb; (try clear hb); have p10 : 0 ≤ (x4_1 : Int) := od; have q10 : (x4_1 : Int) < ((x3_1.length : Int) : Int) := od; obtain ⟨go10, co10, eo10, gb10, gl10, cl10, HG10⟩ := Kd.R_form HO_3.out (by omega); (first | cases eo10 | (injection eo10 with ea_ en_ ec_; (first | subst ea_ | (injection ea_ with ea_; subst ea_)); subst ec_; clear en_)); have GB10 := Aside0.mk gb10; have GG10 := Aside0.mk HG10; clear gb10 gl10 HG10; obtain ⟨ce10, hcl10, hM10, hcc10, hfr10⟩ := Kd.R_elem HO_3.out z44 (x4_1 : Int) p10 q10; obtain rfl := k44_openM hM10; have hx10_0 : w11.cell? ⟨go10, (x4_1 : Int).toNat * 6, none⟩ = some (.int .i64 ((rd_T44 x3_1 x4_1).f0.f0)) := hcc10 0 _ rfl; have hx10_1 : w11.cell? ⟨go10, (x4_1 : Int).toNat * 6 + 1, none⟩ = some (.int .i64 ((rd_T44 x3_1 x4_1).f0.f1)) := hcc10 1 _ rfl; have hx10_2 : w11.cell? ⟨go10, (x4_1 : Int).toNat * 6 + 2, none⟩ = some (.int .i64 ((rd_T44 x3_1 x4_1).f0.f2)) := hcc10 2 _ rfl; have hx10_3 : w11.cell? ⟨go10, (x4_1 : Int).toNat * 6 + 3, none⟩ = some (.int .i64 ((rd_T44 x3_1 x4_1).f0.f3)) := hcc10 3 _ rfl; have hx10_4 : w11.cell? ⟨go10, (x4_1 : Int).toNat * 6 + 4, none⟩ = some (.int .i64 ((rd_T44 x3_1 x4_1).f1.f0)) := hcc10 4 _ rfl; have hx10_5 : w11.cell? ⟨go10, (x4_1 : Int).toNat * 6 + 5, none⟩ = some (.int .i64 ((rd_T44 x3_1 x4_1).f1.f1)) := hcc10 5 _ rfl; have hf10_0 : w11.frozen? ⟨go10, (x4_1 : Int).toNat * 6, none⟩ = false := hfr10 0; have hf10_1 : w11.frozen? ⟨go10, (x4_1 : Int).toNat * 6 + 1, none⟩ = false := hfr10 1; have hf10_2 : w11.frozen? ⟨go10, (x4_1 : Int).toNat * 6 + 2, none⟩ = false := hfr10 2; have hf10_3 : w11.frozen? ⟨go10, (x4_1 : Int).toNat * 6 + 3, none⟩ = false := hfr10 3; have hf10_4 : w11.frozen? ⟨go10, (x4_1 : Int).toNat * 6 + 4, none⟩ = false := hfr10 4; have hf10_5 : w11.frozen? ⟨go10, (x4_1 : Int).toNat * 6 + 5, none⟩ = false := hfr10 5; clear hcl10 hcc10 hfr10 hM10; replace p10 := eq_true p10; replace q10 := eq_true q10; have HX12 := asd (show Kd.R k44 44 w11 w.heap.size (fun _ => True) (.slice (some ⟨go10, 0, none⟩) x3_1.length co10) x3_1 from (kr HO_3)); obtain ⟨ce12, hcl12, hM12, hcc12, hfr12⟩ := Kd.R_elem HX12.out z44 (x4_1 : Int) (od) (by have h_ : (x4_1 : Int) < ((x3_1.length : Int) : Int) := od; first | exact h_ | (have e_ := (Kd.R_reads' HO_3.out).1; omega) | simpa using h_); obtain rfl := k44_openM hM12; have HP12 := Kd.R_seg HX12.out (x4_1 : Int) (od) (by have h_ : (x4_1 : Int) < ((x3_1.length : Int) : Int) := od; first | exact h_ | (have e_ := (Kd.R_reads' HO_3.out).1; omega) | simpa using h_) (seg := [.int .i64 t376, .int .i64 t377, .int .i64 t378, .int .i64 t379, .int .i64 t380, .int .i64 t381]) (j := 0) hcl12 hcc12 (show 6 ≤ 6 from by decide) (x' := (⟨(⟨t376, t377, t378, t379⟩ : S40), (⟨t380, t381⟩ : S42)⟩ : S44)) (k44_mkM _ _ _ (⟨(⟨t376, t377, t378, t379⟩ : S40), (⟨t380, t381⟩ : S42)⟩ : S44) ) (fun _ hk => hk); have hx12_0 := hcc12 0 _ rfl; (try simp only [show (k44).sz = 6 from rfl, Nat.mul_one, Nat.add_zero] at hx12_0); have hf12_0 := hfr12 0; (try simp only [show (k44).sz = 6 from rfl, Nat.mul_one, Nat.add_zero] at hf12_0); have hx12_1 := hcc12 1 _ rfl; (try simp only [show (k44).sz = 6 from rfl, Nat.mul_one, Nat.add_zero] at hx12_1); have hf12_1 := hfr12 1; (try simp only [show (k44).sz = 6 from rfl, Nat.mul_one, Nat.add_zero] at hf12_1); have hx12_2 := hcc12 2 _ rfl; (try simp only [show (k44).sz = 6 from rfl, Nat.mul_one, Nat.add_zero] at hx12_2); have hf12_2 := hfr12 2; (try simp only [show (k44).sz = 6 from rfl, Nat.mul_one, Nat.add_zero] at hf12_2); have hx12_3 := hcc12 3 _ rfl; (try simp only [show (k44).sz = 6 from rfl, Nat.mul_one, Nat.add_zero] at hx12_3); have hf12_3 := hfr12 3; (try simp only [show (k44).sz = 6 from rfl, Nat.mul_one, Nat.add_zero] at hf12_3); have hx12_4 := hcc12 4 _ rfl; (try simp only [show (k44).sz = 6 from rfl, Nat.mul_one, Nat.add_zero] at hx12_4); have hf12_4 := hfr12 4; (try simp only [show (k44).sz = 6 from rfl, Nat.mul_one, Nat.add_zero] at hf12_4); have hx12_5 := hcc12 5 _ rfl; (try simp only [show (k44).sz = 6 from rfl, Nat.mul_one, Nat.add_zero] at hx12_5); have hf12_5 := hfr12 5; (try simp only [show (k44).sz = 6 from rfl, Nat.mul_one, Nat.add_zero] at hf12_5); clear hcl12 hcc12 hfr12 hM12) | ((with_reducible refine gate_store (t := 44) (p := 21) rfl ?_); refine store_event (t := 44) (p := 21) (v := ?vo_w13) (w1 := ((((((w11.setCell ⟨go10, (x4_1 : Int).toNat * 6, none⟩ (.int .i64 t376)).setCell ⟨go10, (x4_1 : Int).toNat * 6 + 1, none⟩ (.int .i64 t377)).setCell ⟨go10, (x4_1 : Int).toNat * 6 + 2, none⟩ (.int .i64 t378)).setCell ⟨go10, (x4_1 : Int).toNat * 6 + 3, none⟩ (.int .i64 t379)).setCell ⟨go10, (x4_1 : Int).toNat * 6 + 4, none⟩ (.int .i64 t380)).setCell ⟨go10, (x4_1 : Int).toNat * 6 + 5, none⟩ (.int .i64 t381))) ?hg ?ho ?hn ?hr ?_; (case ho => rfl); (case hg => rfl); (case hn => rfl); (case hr => first | (go_simp; done) | (go_simp; rfl)); intro w13 hw; have hg : w11.grownBy w13 (some go10) := (by rw [hw]; exact HP12.2); have hp_ : Kd.R k44 44 w13 w.heap.size (fun _ => True) (.slice (some ⟨go10, 0, none⟩) x3_1.length co10) y382 := (by rw [hw, Ny382.out]; exact HP12.1); clear HP12; replace HO_3 := asd (hp_); replace HB := asd ((by rw [hw]; exact below_set (below_set (below_set (below_set (below_set (below_set (HB.out) GB10.out) GB10.out) GB10.out) GB10.out) GB10.out) GB10.out : Below w.heap.size w w13)); clear hg hw hp_))
        go_roundg k1
        case measure => have := HK1.out; omega
        case rel => exact ⟨(y382), (wrap64 (x4_1 + 1)), (by first | rfl | (simp; done) | (simp [*]; done)), H', ⟨by have := HK1.out; omega⟩, ⟨by (with_reducible repeat (first | apply Kd.R_alloc | apply Kd.R_drewN | apply Kd.R_drew)); exact HO_3.out⟩, ⟨bbw0 HB⟩⟩
       ·rw [if_neg c9] at H
        exact absurd H (by simp)
      ·rw [if_neg c7] at H
       exact absurd H (by simp)
     ·rw [if_neg c6] at H
      have c6b0 := decide_eq_false c6
      clear c6
      obtain rfl := Option.some.inj H
      go_wp2
      go_ret
      exact ⟨_, by first | rfl | (simp [errW_none, errW_some] <;> rfl) | (simp [*, errW_none, errW_some] <;> rfl), by (with_reducible repeat (first | apply Kd.R_alloc | apply Kd.R_drewN | apply Kd.R_drew)); exact HO_3.out, bbw0 HB⟩
  ·rw [if_neg c3] at H
   exact absurd H (by simp)
 ·rw [if_neg c2] at H
  exact absurd H (by simp)
/-! ### impl_within: function 71 -/
def impl_within.f (a0 : Int) (a1 : Int) (a2 : Int) : Option (Bool) := if a0 ≥ a1 then (some (decide (a0 ≤ a2))) else (some false)
set_option maxHeartbeats 8000000 in
set_option maxRecDepth 100000 in
theorem impl_within.calls (a0 : Int) (a1 : Int) (a2 : Int) (r : Bool) (w : World) (h : impl_within.f a0 a1 a2 = some r) :
  Calls Try.prog 71 #[.int .i64 a0, .int .i64 a1, .int .i64 a2] w fun e w' => e = .returned (.bool r) ∧ Drawn0 w w' := by
 have H : (if a0 ≥ a1 then (some (decide (a0 ≤ a2))) else (some false)) = some r := h
 clear h
 by_cases c4 : a0 ≥ a1
 ·rw [if_pos c4] at H
  have c4b0 : decide (a1 ≤ a0) = true := decide_eq_true c4
  clear c4
  obtain rfl := Option.some.inj H
  go_enter Try.func71, Try.ntmps71
  go_wp2
  go_ret
  exact ⟨by first | rfl | (simp; done) | (simp [*]; done), by repeat (first | exact Drawn0.refl _ | apply Drawn0.step)⟩
 ·rw [if_neg c4] at H
  have c4b0 : decide (a1 ≤ a0) = false := decide_eq_false c4
  clear c4
  obtain rfl := Option.some.inj H
  go_enter Try.func71, Try.ntmps71
  go_wp2
  go_ret
  exact ⟨by first | rfl | (simp; done) | (simp [*]; done), by repeat (first | exact Drawn0.refl _ | apply Drawn0.step)⟩
/-! ### impl_IsFrame: function 54 -/
def impl_IsFrame.f (a0 : Int) : Option (Bool) := (impl_within.f a0 0 1).bind fun t383 => (some t383)
set_option maxHeartbeats 8000000 in
set_option maxRecDepth 100000 in
theorem impl_IsFrame.calls (a0 : Int) (r : Bool) (w : World) (h : impl_IsFrame.f a0 = some r) :
  Calls Try.prog 54 #[.int .i64 a0] w fun e w' => e = .returned (.bool r) ∧ Drawn0 w w' := by
 have H : ((impl_within.f a0 0 1).bind fun t383 => (some t383)) = some r := h
 clear h
 obtain ⟨t383, A2, H⟩ := ob H
 try dsimp only at H
 obtain rfl := Option.some.inj H
 go_enter Try.func54, Try.ntmps54
 go_wp2_with (first | ((with_reducible refine gate_callee (f := 71) rfl ?_); refine gl 4 Try.func71 #[.int .i64 a0, .int .i64 0, .int .i64 1] ?_; (with_reducible refine (impl_within.calls _ _ _ _ _ A2.out).mono ?_); rintro e w' ⟨rfl, ⟨nd, rfl⟩⟩; refine ⟨_, rfl, ?_⟩))
 go_ret
 exact ⟨by first | rfl | (simp; done) | (simp [*]; done), by repeat (first | exact Drawn0.refl _ | apply Drawn0.step)⟩
/-! ### impl_Lattice_index: function 72 -/
def impl_Lattice_index.f (a0_0 : Int) (a0_1 : Int) (a0_2 : Int) : Option (Int) := some (wrap64 (a0_0 * a0_2))
set_option maxHeartbeats 8000000 in
set_option maxRecDepth 100000 in
theorem impl_Lattice_index.calls (a0_0 : Int) (a0_1 : Int) (a0_2 : Int) (r : Int) (w : World) (h : impl_Lattice_index.f a0_0 a0_1 a0_2 = some r) :
  Calls Try.prog 72 #[.agg #[.int .i64 a0_0, .int .i64 a0_1, .int .i64 a0_2]] w fun e w' => e = .returned (.int .i64 r) ∧ Below w.heap.size w w' := by
 have hu28 := Try.underlying28
 have HB := asd (Below.refl w.heap.size w)
 have H : (some (wrap64 (a0_0 * a0_2))) = some r := h
 clear h
 obtain rfl := Option.some.inj H
 go_enter Try.func72, Try.ntmps72
 go_wp2_with (first | ((with_reducible refine gd 1 rfl ?_); refine bx #[.int .i64 a0_0, .int .i64 a0_1, .int .i64 a0_2] 28 ?_; intro gb384 hg w2 BK384 hb; have GE384 := ngw0 hg HB; replace HB := bS0 HB hb; clear hb hg; obtain ⟨hcz3_0, hcz3_1, hcz3_2, hfz3_0, hfz3_1, hfz3_2⟩ := bz3 BK384))
 go_ret
 exact er (bbw1 HB GE384)
/-! ### impl_IsLattice: function 55 -/
def impl_IsLattice.f (a0_0 : Int) (a0_1 : Int) (a0_2 : Int) : Option (Bool) := (impl_within.f a0_0 1 64).bind fun t386 => (if t386 = true then ((impl_within.f a0_2 1 64).bind fun t387 => (if t387 = true then ((impl_within.f a0_1 0 (wrap64 (a0_0 - 1))).bind fun t388 => (if t388 = true then ((impl_Lattice_index.f a0_0 a0_1 a0_2).bind fun t389 => (some (decide (t389 ≤ 64)))) else (some false))) else (some false))) else (some false))
set_option maxHeartbeats 8000000 in
set_option maxRecDepth 100000 in
theorem impl_IsLattice.calls (a0_0 : Int) (a0_1 : Int) (a0_2 : Int) (r : Bool) (w : World) (h : impl_IsLattice.f a0_0 a0_1 a0_2 = some r) :
  Calls Try.prog 55 #[.agg #[.int .i64 a0_0, .int .i64 a0_1, .int .i64 a0_2]] w fun e w' => e = .returned (.bool r) ∧ Below w.heap.size w w' := by
 have hu28 := Try.underlying28
 have HB := asd (Below.refl w.heap.size w)
 have H : ((impl_within.f a0_0 1 64).bind fun t386 => (if t386 = true then ((impl_within.f a0_2 1 64).bind fun t387 => (if t387 = true then ((impl_within.f a0_1 0 (wrap64 (a0_0 - 1))).bind fun t388 => (if t388 = true then ((impl_Lattice_index.f a0_0 a0_1 a0_2).bind fun t389 => (some (decide (t389 ≤ 64)))) else (some false))) else (some false))) else (some false))) = some r := h
 clear h
 obtain ⟨t386, A2, H⟩ := ob H
 try dsimp only at H
 by_cases c3 : t386 = true
 subst c3
 replace H := ifT H
 obtain ⟨t387, A4, H⟩ := ob H
 try dsimp only at H
 by_cases c5 : t387 = true
 subst c5
 replace H := ifT H
 obtain ⟨t388, A6, H⟩ := ob H
 try dsimp only at H
 by_cases c7 : t388 = true
 subst c7
 replace H := ifT H
 obtain ⟨t389, A8, H⟩ := ob H
 try dsimp only at H
 obtain rfl := Option.some.inj H
 rotate_left
 replace c7 := Bool.eq_false_iff.mpr c7
 subst c7
 replace H := ifF H
 obtain rfl := Option.some.inj H
 rotate_left
 replace c5 := Bool.eq_false_iff.mpr c5
 subst c5
 replace H := ifF H
 obtain rfl := Option.some.inj H
 rotate_left
 replace c3 := Bool.eq_false_iff.mpr c3
 subst c3
 replace H := ifF H
 obtain rfl := Option.some.inj H
 rotate_left
 all_goals
  go_enter Try.func55, Try.ntmps55
  go_wp2_with (first | ((with_reducible refine gd 1 rfl ?_); refine bx #[.int .i64 a0_0, .int .i64 a0_1, .int .i64 a0_2] 28 ?_; intro gb385 hg w9 BK385 hb; have GE385 := ngw0 hg HB; replace HB := bS0 HB hb; clear hb hg; obtain ⟨hcz10_0, hcz10_1, hcz10_2, hfz10_0, hfz10_1, hfz10_2⟩ := bz3 BK385) | ((with_reducible refine gate_callee (f := 71) rfl ?_); refine gl 5 Try.func71 #[.int .i64 a0_0, .int .i64 1, .int .i64 64] ?_; (with_reducible refine (impl_within.calls _ _ _ _ _ A2.out).mono ?_); rintro e w' ⟨rfl, ⟨nd, rfl⟩⟩; refine ⟨_, rfl, ?_⟩) | (go_at_call 71; (with_reducible refine (impl_within.calls _ _ _ _ _ A4.out).mono ?_); rintro e w' ⟨rfl, ⟨nd, rfl⟩⟩) | (go_at_call 71; (with_reducible refine (impl_within.calls _ _ _ _ _ A6.out).mono ?_); rintro e w' ⟨rfl, ⟨nd, rfl⟩⟩) | (go_at_call 72; (with_reducible refine (impl_Lattice_index.calls _ _ _ _ _ A8.out).mono ?_); rintro e w11 ⟨rfl, hb⟩; replace BK385 := bB BK385 hb; replace HB := bS1 HB GE385 hb; (try clear hb)))
  go_ret
  exact er (bbw1 HB GE385)
/-! ### impl_frameCode: function 34 -/
def impl_frameCode.f (a0 : Int) (a1_0 : Int) (a1_1 : Int) (a1_2 : Int) : Option (Int) := (impl_IsFrame.f a0).bind fun t391 => (if t391 = true then ((impl_IsLattice.f a1_0 a1_1 a1_2).bind fun t392 => (if t392 = true then (some 0) else (some 1))) else (some 1))
set_option maxHeartbeats 8000000 in
set_option maxRecDepth 100000 in
theorem impl_frameCode.calls (a0 : Int) (a1_0 : Int) (a1_1 : Int) (a1_2 : Int) (r : Int) (w : World) (h : impl_frameCode.f a0 a1_0 a1_1 a1_2 = some r) :
  Calls Try.prog 34 #[.int .i64 a0, .agg #[.int .i64 a1_0, .int .i64 a1_1, .int .i64 a1_2]] w fun e w' => e = .returned (.int .i64 r) ∧ Below w.heap.size w w' := by
 have hu28 := Try.underlying28
 have HB := asd (Below.refl w.heap.size w)
 have H : ((impl_IsFrame.f a0).bind fun t391 => (if t391 = true then ((impl_IsLattice.f a1_0 a1_1 a1_2).bind fun t392 => (if t392 = true then (some 0) else (some 1))) else (some 1))) = some r := h
 clear h
 obtain ⟨t391, A3, H⟩ := ob H
 try dsimp only at H
 by_cases c4 : t391 = true
 subst c4
 replace H := ifT H
 obtain ⟨t392, A5, H⟩ := ob H
 try dsimp only at H
 by_cases c6 : t392 = true
 subst c6
 replace H := ifT H
 obtain rfl := Option.some.inj H
 rotate_left
 replace c6 := Bool.eq_false_iff.mpr c6
 subst c6
 replace H := ifF H
 obtain rfl := Option.some.inj H
 rotate_left
 replace c4 := Bool.eq_false_iff.mpr c4
 subst c4
 replace H := ifF H
 obtain rfl := Option.some.inj H
 rotate_left
 all_goals
  go_enter Try.func34, Try.ntmps34
 rotate_left 2
 ·go_wp2_with (first | ((with_reducible refine gd 3 rfl ?_); refine bx #[.int .i64 a1_0, .int .i64 a1_1, .int .i64 a1_2] 28 ?_; intro gb390 hg w13 BK390 hb; have GE390 := ngw0 hg HB; replace HB := bS0 HB hb; clear hb hg) | ((with_reducible refine gate_callee (f := 54) rfl ?_); refine gl 6 Try.func54 #[.int .i64 a0] ?_; (with_reducible refine (impl_IsFrame.calls _ _ _ A3.out).mono ?_); rintro e w' ⟨rfl, ⟨nd, rfl⟩⟩; refine ⟨_, rfl, ?_⟩))
  go_ret
  exact er (bbw1 HB GE390)
 all_goals
  go_wp2_with (first | ((with_reducible refine gd 3 rfl ?_); refine bx #[.int .i64 a1_0, .int .i64 a1_1, .int .i64 a1_2] 28 ?_; intro gb390 hg w7 BK390 hb; have GE390 := ngw0 hg HB; replace HB := bS0 HB hb; clear hb hg) | ((with_reducible refine gate_callee (f := 54) rfl ?_); refine gl 6 Try.func54 #[.int .i64 a0] ?_; (with_reducible refine (impl_IsFrame.calls _ _ _ A3.out).mono ?_); rintro e w' ⟨rfl, ⟨nd, rfl⟩⟩; refine ⟨_, rfl, ?_⟩; have hcz8_0 : w7.cell? ⟨gb390, 0, none⟩ = some (.int .i64 a1_0) := bcl BK390 0; have hcz8_1 : w7.cell? ⟨gb390, 1, none⟩ = some (.int .i64 a1_1) := bcl BK390 1; have hcz8_2 : w7.cell? ⟨gb390, 2, none⟩ = some (.int .i64 a1_2) := bcl BK390 2; have hfz8_0 := blk_frozen BK390.out 0; have hfz8_1 := blk_frozen BK390.out 1; have hfz8_2 := blk_frozen BK390.out 2) | (go_at_call 55; (with_reducible refine (impl_IsLattice.calls _ _ _ _ _ A5.out).mono ?_); rintro e w9 ⟨rfl, hb⟩; replace BK390 := bB BK390 hb; replace HB := bS1 HB GE390 hb; (try clear hb)))
  go_ret
  exact er (bbw1 HB GE390)
/-! ### impl_mod: function 38 -/
def impl_mod.f (a0 : Int) (a1 : Int) : Option (Int) := if a1 = 0 then (none) else (some (Int.tmod (wrap64 ((Int.tmod a0 a1) + a1)) a1))
set_option maxHeartbeats 8000000 in
set_option maxRecDepth 100000 in
theorem impl_mod.calls (a0 : Int) (a1 : Int) (r : Int) (w : World) (h : impl_mod.f a0 a1 = some r) :
  Calls Try.prog 38 #[.int .i64 a0, .int .i64 a1] w fun e w' => e = .returned (.int .i64 r) ∧ Drawn0 w w' := by
 have H : (if a1 = 0 then (none) else (some (Int.tmod (wrap64 ((Int.tmod a0 a1) + a1)) a1))) = some r := h
 clear h
 by_cases c3 : a1 = 0
 ·rw [if_pos c3] at H
  exact absurd H (by simp)
 ·rw [if_neg c3] at H
  have c3b0 : (a1 == 0) = false := beq_eq_false_iff_ne.mpr c3
  have c3b1 : (a1 != 0) = true := bne_iff_ne.mpr c3
  obtain rfl := Option.some.inj H
  go_enter Try.func38, Try.ntmps38
  go_wp2
  go_ret
  exact ⟨by first | rfl | (simp; done) | (simp [*]; done), by repeat (first | exact Drawn0.refl _ | apply Drawn0.step)⟩
/-! ### impl_Lattice_reduce: function 21 -/
def impl_Lattice_reduce.f (a0_0 : Int) (a0_1 : Int) (a0_2 : Int) (a1_0 : Int) (a1_1 : Int) : Option (Int × Int) := (impl_mod.f a1_1 a0_2).bind fun t396 => (if a0_2 = 0 then (none) else ((impl_mod.f (wrap64 (a1_0 - (wrap64 ((wrap64 (Int.tdiv (wrap64 (a1_1 - t396)) a0_2)) * a0_1)))) a0_0).bind fun t397 => (some (t397, t396))))
def impl_Lattice_reduce.T2 : Bool × List (List Nat × List Nat) := (true, [([], []), ([0], [0]), ([], []), ([2], [2]), ([], []), ([3, 4], [3, 4]), ([], []), ([6], [6]), ([5, 7], [5, 7]), ([], []), ([9], [9]), ([8, 10], [8, 10]), ([1, 11], [1, 11]), ([], []), ([13], [13]), ([12, 14], [12, 14]), ([], []), ([15, 16], [15, 16]), ([17, 15, 0, 1, 2, 3, 4, 5, 6, 7, 8, 9, 10, 11, 12, 13, 14, 15, 16, 17], [17])])
def impl_Lattice_reduce.B2 : List Nat := [0, 1, 0, 4, 0, 28, 0, 64, 252, 0, 512, 2044, 4095, 0, 8192, 32767, 0, 131071, 262143]
theorem impl_Lattice_reduce.tab2 : rtab .any (opsOf Try.f21 2) = impl_Lattice_reduce.T2 := by kernel_rfl
theorem impl_Lattice_reduce.bits2 : waitsOk impl_Lattice_reduce.T2.2 impl_Lattice_reduce.B2 = true := by kernel_rfl
set_option maxHeartbeats 8000000 in
set_option maxRecDepth 100000 in
theorem impl_Lattice_reduce.calls (a0_0 : Int) (a0_1 : Int) (a0_2 : Int) (a1_0 : Int) (a1_1 : Int) (r1 : Int) (r2 : Int) (w : World) (h : impl_Lattice_reduce.f a0_0 a0_1 a0_2 a1_0 a1_1 = some (r1, r2)) :
  Calls Try.prog 21 #[.agg #[.int .i64 a0_0, .int .i64 a0_1, .int .i64 a0_2], .agg #[.int .i64 a1_0, .int .i64 a1_1]] w fun e w' => e = .returned (.agg #[.int .i64 r1, .int .i64 r2]) ∧ Below w.heap.size w w' := by
 have hu28 := Try.underlying28
 have hu42 := Try.underlying42
 have HB := asd (Below.refl w.heap.size w)
 have H : ((impl_mod.f a1_1 a0_2).bind fun t396 => (if a0_2 = 0 then (none) else ((impl_mod.f (wrap64 (a1_0 - (wrap64 ((wrap64 (Int.tdiv (wrap64 (a1_1 - t396)) a0_2)) * a0_1)))) a0_0).bind fun t397 => (some (t397, t396))))) = some (r1, r2) := h
 clear h
 obtain ⟨t396, A3, H⟩ := ob H
 try dsimp only at H
 by_cases c4 : a0_2 = 0
 ·rw [if_pos c4] at H
  exact absurd H (by simp)
 ·rw [if_neg c4] at H
  have c4b0 : (a0_2 == 0) = false := beq_eq_false_iff_ne.mpr c4
  have c4b1 : (a0_2 != 0) = true := bne_iff_ne.mpr c4
  obtain ⟨t397, A5, H⟩ := ob H
  try dsimp only at H
  simp only [Option.some.injEq, Prod.mk.injEq] at H
  obtain ⟨rfl, rfl⟩ := H
  go_enter Try.func21, Try.ntmps21
  try go_wp2_with (first | ((with_reducible refine gd 2 rfl ?_); refine bx #[.int .i64 a0_0, .int .i64 a0_1, .int .i64 a0_2] 28 ?_; intro gb393 hg w6 BK393 hb; have GE393 := ngw0 hg HB; replace HB := bS0 HB hb; clear hb hg) | ((with_reducible refine gd 3 rfl ?_); refine bx #[.int .i64 a1_0, .int .i64 a1_1] 42 ?_; intro gb394 hg w7 BK394 hb; have GE394 := ngw1 hg HB GE393; replace HB := bS1 HB GE393 hb; have NB393_394 := nlt hg BK393; have NB394_393 := nsy (nlt hg BK393); replace BK393 := bB BK393 hb; clear hb hg) | ((with_reducible refine gd 4 rfl ?_); refine bx #[.int .i64 0, .int .i64 0] 42 ?_; intro gb395 hg w8 BK395 hb; have GE395 := ngw2 hg HB GE393 GE394; replace HB := bS2 HB GE393 GE394 hb; have NB393_395 := nlt hg BK393; have NB395_393 := nsy (nlt hg BK393); replace BK393 := bB BK393 hb; have NB394_395 := nlt hg BK394; have NB395_394 := nsy (nlt hg BK394); replace BK394 := bB BK394 hb; clear hb hg; have hnb9 := NB394_393.out; have hnc9 := NB393_394.out; have hnb10 := NB394_395.out; have hnc10 := NB395_394.out; obtain ⟨hcz11_0, hcz11_1, hfz11_0, hfz11_1⟩ := bz2 BK394; have hnb12 := NB393_395.out; have hnc12 := NB395_393.out; obtain ⟨hcz13_0, hcz13_1, hcz13_2, hfz13_0, hfz13_1, hfz13_2⟩ := bz3 BK393) | ((with_reducible refine gate_callee (f := 38) rfl ?_); refine gl 10 Try.func38 #[.int .i64 a1_1, .int .i64 a0_2] ?_; (with_reducible refine (impl_mod.calls _ _ _ _ A3.out).mono ?_); rintro e w' ⟨rfl, ⟨nd, rfl⟩⟩; refine ⟨_, rfl, ?_⟩; (try (rw [drewN_self w8]; generalize hq_ : World.drewN w8 _ = w8; have n0_ : Aside0 (w8.heap[gb393]? = some (.cells #[.int .i64 a0_0, .int .i64 a0_1, .int .i64 a0_2] 28 (0, 0))) := ⟨by rw [← hq_]; exact (bkp BK393)⟩; have n1_ : Aside0 (w8.heap[gb394]? = some (.cells #[.int .i64 a1_0, .int .i64 a1_1] 42 (0, 0))) := ⟨by rw [← hq_]; exact (bkp BK394)⟩; have n2_ : Aside0 (w8.heap[gb395]? = some (.cells #[.int .i64 0, .int .i64 0] 42 (0, 0))) := ⟨by rw [← hq_]; exact (bkp BK395)⟩; have n3_ : Aside0 (Below w.heap.size w w8) := ⟨by rw [← hq_]; exact (bbw3 HB GE393 GE394 GE395)⟩; clear BK393 BK394 BK395 HB hq_; have BK393 := n0_; have BK394 := n1_; have BK395 := n2_; have HB := n3_; clear n0_ n1_ n2_ n3_))))
  replace BK393 := asd (blk_drew BK393.out)
  replace BK394 := asd (blk_drew BK394.out)
  replace BK395 := asd (blk_drew BK395.out)
  replace HB := asd (below_drew1 HB.out)
  refine sh 19 (cb2 BK394 (eb3 BK393)) (fun hHeld => ?_); refine with_tabW impl_Lattice_reduce.tab2 impl_Lattice_reduce.bits2 (fun HT_ HW_ => ?_)
  generalize w8.drew = w14 at BK393 BK394 BK395 HB hHeld ⊢
  refine pu 0 (some 11) (bT 19 1) HT_ ?_
  refine pu 2 (some 13) (bs 19 5) HT_ ?_
  refine pu 4 (some 15) (bs 19 21) HT_ ?_
  refine pu 6 (some 17) (bs 19 85) HT_ ?_
  refine pu 9 (some 20) (bs 19 597) HT_ ?_
  refine pu 13 (some 24) (bs 19 8789) HT_ ?_
  refine pu 16 (some 27) (bs 19 74325) HT_ ?_
  refine ta 1 (some 12) (bs 19 74327) HT_ HW_ hHeld ?_
  refine ta 3 (some 14) (bs 19 74335) HT_ HW_ hHeld ?_
  refine pu 5 (some 16) (bs 19 74367) HT_ ?_
  refine ta 7 (some 18) (bs 19 74495) HT_ HW_ hHeld ?_
  refine pu 8 (some 19) (bs 19 74751) HT_ ?_
  refine ta 10 (some 21) (bs 19 75775) HT_ HW_ hHeld ?_
  refine pu 11 (some 22) (bs 19 77823) HT_ ?_
  refine pu 12 (some 23) (bs 19 81919) HT_ ?_
  refine ta 14 (some 25) (bs 19 98303) HT_ HW_ hHeld ?_
  refine ro 15 (some 26) (bT 19 17) HT_ (fun K hK => ?_)
  refine gs Try.func38 #[.int .i64 (wrap64 (a1_0 - (wrap64 ((wrap64 (Int.tdiv (wrap64 (a1_1 - t396)) a0_2)) * a0_1)))), .int .i64 a0_0] ?_
  with_reducible refine (impl_mod.calls _ _ _ _ A5.out).mono ?_
  rintro e w' ⟨rfl, ⟨nd, rfl⟩⟩
  refine ⟨_, rfl, ?_⟩
  refine hK.out _ _ (cb2 BK394 (eb3 BK393)).out (fun hHeld => ?_)
  clear hK K
  refine norm_ (a' := ?_) ?_ ?_
  rotate_left
  ·show Act.put _ (some 26) _ = _
   simp only [Act.put, sA, sB, sC, i64_w, i32_w]
   rfl
  refine pu 17 (some 28) (bT 19 18) HT_ ?_
  refine ro 18 (none) (bT 19 19) HT_ (fun K hK => ?_)
  have hs15 : w14.cell? ⟨gb395, 0, none⟩ = some (.int .i64 0) := bcl BK395 0
  have hfs15 := blk_frozen BK395.out 0
  have hns15_0 := NB393_395.out
  have hns15_1 := NB394_395.out
  have hms15_0 := NB395_393.out
  have hms15_1 := NB395_394.out
  have hs16 : w14.cell? ⟨gb395, 1, none⟩ = some (.int .i64 0) := bcl BK395 1
  have hfs16 := blk_frozen BK395.out 1
  have hns16_0 := NB393_395.out
  have hns16_1 := NB394_395.out
  have hms16_0 := NB395_393.out
  have hms16_1 := NB395_394.out
  refine skip_ (w1 := ?_) (by rfl) rfl ?_ ?_
  rotate_left
  ·go_simp
   rfl
  refine hK.out _ _ ⟨(cf2 NB394_395 (hHeld.1)), (cf2 NB394_395 (hHeld.2.1)), (cf2 NB393_395 (hHeld.2.2.1)), (cf2 NB393_395 (hHeld.2.2.2.1)), (cf2 NB393_395 (hHeld.2.2.2.2))⟩ (fun hHeld => ?_)
  clear hK K
  refine done_ (done_of HT_.out (by kernel_rfl)) ?_
  try go_wp2
  refine bodyPost_ret (results_cell_row rfl _ _ gb395 42 #[.int .i64 t397, .int .i64 t396] (0, 0) _ rfl (bq0 BK395) Try.underlying42 rfl (by kernel_rfl)) rfl ?_
  exact er (bbw3 HB GE393 GE394 GE395)
/-! ### impl_unit: function 36 -/
def impl_unit.f  : Option (Int × Int × Int × Int) := some (1, 0, 0, 1)
set_option maxHeartbeats 8000000 in
set_option maxRecDepth 100000 in
theorem impl_unit.calls  (r1 : Int) (r2 : Int) (r3 : Int) (r4 : Int) (w : World) (h : impl_unit.f  = some (r1, r2, r3, r4)) :
  Calls Try.prog 36 #[] w fun e w' => e = .returned (.agg #[.int .i64 r1, .int .i64 r2, .int .i64 r3, .int .i64 r4]) ∧ Below w.heap.size w w' := by
 have hu40 := Try.underlying40
 have HB := asd (Below.refl w.heap.size w)
 have H : (some (1, 0, 0, 1)) = some (r1, r2, r3, r4) := h
 clear h
 simp only [Option.some.injEq, Prod.mk.injEq] at H
 obtain ⟨rfl, rfl, rfl, rfl⟩ := H
 go_enter Try.func36, Try.ntmps36
 go_wp2_with (first | ((with_reducible refine gd 0 rfl ?_); refine bx #[.int .i64 0, .int .i64 0, .int .i64 0, .int .i64 0] 40 ?_; intro gb398 hg w1 BK398 hb; have GE398 := ngw0 hg HB; replace HB := bS0 HB hb; clear hb hg; obtain ⟨hcz2_0, hcz2_1, hcz2_2, hcz2_3, hfz2_0, hfz2_1, hfz2_2, hfz2_3⟩ := bz4 BK398))
 refine bodyPost_ret (results_cell_row rfl _ _ gb398 40 #[.int .i64 1, .int .i64 0, .int .i64 0, .int .i64 1] (0, 0) _ rfl (bq0 BK398) Try.underlying40 rfl (by kernel_rfl)) rfl ?_
 exact er (bbw1 HB GE398)
/-! ### impl_Lattice_basis: function 15 -/
def impl_Lattice_basis.f (a0_0 : Int) (a0_1 : Int) (a0_2 : Int) : Option (Int × Int × Int × Int) := some (a0_0, 0, a0_1, a0_2)
def impl_Lattice_basis.T1 : Bool × List (List Nat × List Nat) := (true, [([], []), ([0], [0]), ([1], [1]), ([], []), ([3], [3]), ([], []), ([5], [5]), ([4, 6], [4, 6]), ([2, 0, 1, 2], [2]), ([7, 8, 0, 1, 2, 3, 4, 5, 6, 7, 8], [7])])
def impl_Lattice_basis.B1 : List Nat := [0, 1, 3, 0, 8, 0, 32, 120, 7, 511]
theorem impl_Lattice_basis.tab1 : rtab .any (opsOf Try.f15 1) = impl_Lattice_basis.T1 := by kernel_rfl
theorem impl_Lattice_basis.bits1 : waitsOk impl_Lattice_basis.T1.2 impl_Lattice_basis.B1 = true := by kernel_rfl
set_option maxHeartbeats 8000000 in
set_option maxRecDepth 100000 in
theorem impl_Lattice_basis.calls (a0_0 : Int) (a0_1 : Int) (a0_2 : Int) (r1 : Int) (r2 : Int) (r3 : Int) (r4 : Int) (w : World) (h : impl_Lattice_basis.f a0_0 a0_1 a0_2 = some (r1, r2, r3, r4)) :
  Calls Try.prog 15 #[.agg #[.int .i64 a0_0, .int .i64 a0_1, .int .i64 a0_2]] w fun e w' => e = .returned (.tuple #[.agg #[.int .i64 r1, .int .i64 r2], .agg #[.int .i64 r3, .int .i64 r4]]) ∧ Below w.heap.size w w' := by
 have hu28 := Try.underlying28
 have hu42 := Try.underlying42
 have HB := asd (Below.refl w.heap.size w)
 have H : (some (a0_0, 0, a0_1, a0_2)) = some (r1, r2, r3, r4) := h
 clear h
 simp only [Option.some.injEq, Prod.mk.injEq] at H
 obtain ⟨rfl, rfl, rfl, rfl⟩ := H
 go_enter Try.func15, Try.ntmps15
 try go_wp2_with (first | ((with_reducible refine gd 1 rfl ?_); refine bx #[.int .i64 a0_0, .int .i64 a0_1, .int .i64 a0_2] 28 ?_; intro gb399 hg w2 BK399 hb; have GE399 := ngw0 hg HB; replace HB := bS0 HB hb; clear hb hg) | ((with_reducible refine gd 2 rfl ?_); refine bx #[.int .i64 0, .int .i64 0] 42 ?_; intro gb400 hg w3 BK400 hb; have GE400 := ngw1 hg HB GE399; replace HB := bS1 HB GE399 hb; have NB399_400 := nlt hg BK399; have NB400_399 := nsy (nlt hg BK399); replace BK399 := bB BK399 hb; clear hb hg) | ((with_reducible refine gd 3 rfl ?_); refine bx #[.int .i64 0, .int .i64 0] 42 ?_; intro gb401 hg w4 BK401 hb; have GE401 := ngw2 hg HB GE399 GE400; replace HB := bS2 HB GE399 GE400 hb; have NB399_401 := nlt hg BK399; have NB401_399 := nsy (nlt hg BK399); replace BK399 := bB BK399 hb; have NB400_401 := nlt hg BK400; have NB401_400 := nsy (nlt hg BK400); replace BK400 := bB BK400 hb; clear hb hg))
 replace BK399 := asd (blk_drew BK399.out)
 replace BK400 := asd (blk_drew BK400.out)
 replace BK401 := asd (blk_drew BK401.out)
 replace HB := asd (below_drew1 HB.out)
 refine sh 10 (eb3 BK399) (fun hHeld => ?_); refine with_tabW impl_Lattice_basis.tab1 impl_Lattice_basis.bits1 (fun HT_ HW_ => ?_)
 generalize w4.drew = w5 at BK399 BK400 BK401 HB hHeld ⊢
 refine pu 0 (some 4) (bT 10 1) HT_ ?_
 refine pu 3 (some 7) (bs 10 9) HT_ ?_
 refine pu 5 (some 9) (bs 10 41) HT_ ?_
 refine ta 1 (some 5) (bs 10 43) HT_ HW_ hHeld ?_
 refine pu 2 (some 6) (bs 10 47) HT_ ?_
 refine ta 4 (some 8) (bT 10 6) HT_ HW_ hHeld ?_
 refine ta 6 (some 10) (bT 10 7) HT_ HW_ hHeld ?_
 refine pu 7 (some 11) (bT 10 8) HT_ ?_
 refine ro 8 (none) (bT 10 9) HT_ (fun K hK => ?_)
 have hs6 : w5.cell? ⟨gb400, 0, none⟩ = some (.int .i64 0) := bcl BK400 0
 have hfs6 := blk_frozen BK400.out 0
 have hns6_0 := NB399_400.out
 have hns6_2 := NB401_400.out
 have hms6_0 := NB400_399.out
 have hms6_2 := NB400_401.out
 have hs7 : w5.cell? ⟨gb400, 1, none⟩ = some (.int .i64 0) := bcl BK400 1
 have hfs7 := blk_frozen BK400.out 1
 have hns7_0 := NB399_400.out
 have hns7_2 := NB401_400.out
 have hms7_0 := NB400_399.out
 have hms7_2 := NB400_401.out
 refine skip_ (w1 := ?_) (by rfl) rfl ?_ ?_
 rotate_left
 ·go_simp
  rfl
 refine hK.out _ _ ⟨(cf2 NB399_400 (hHeld.1)), (cf2 NB399_400 (hHeld.2.1)), (cf2 NB399_400 (hHeld.2.2))⟩ (fun hHeld => ?_)
 clear hK K
 refine ro 9 (none) (bT 10 10) HT_ (fun K hK => ?_)
 have hs8 : w5.cell? ⟨gb401, 0, none⟩ = some (.int .i64 0) := bcl BK401 0
 have hfs8 := blk_frozen BK401.out 0
 have hns8_0 := NB399_401.out
 have hns8_1 := NB400_401.out
 have hms8_0 := NB401_399.out
 have hms8_1 := NB401_400.out
 have hs9 : w5.cell? ⟨gb401, 1, none⟩ = some (.int .i64 0) := bcl BK401 1
 have hfs9 := blk_frozen BK401.out 1
 have hns9_0 := NB399_401.out
 have hns9_1 := NB400_401.out
 have hms9_0 := NB401_399.out
 have hms9_1 := NB401_400.out
 refine skip_ (w1 := ?_) (by rfl) rfl ?_ ?_
 rotate_left
 ·go_simp
  rfl
 refine hK.out _ _ ⟨(cf2 NB399_401 (hHeld.1)), (cf2 NB399_401 (hHeld.2.1)), (cf2 NB399_401 (hHeld.2.2))⟩ (fun hHeld => ?_)
 clear hK K
 refine done_ (done_of HT_.out (by kernel_rfl)) ?_
 try go_wp2
 refine bodyPost_ret (results_cc rfl _ _ gb400 gb401 42 42 #[.int .i64 a0_0, .int .i64 0] #[.int .i64 a0_1, .int .i64 a0_2] (0, 0) (0, 0) _ _ rfl (bq1 BK400 NB400_401) Try.underlying42 rfl (by kernel_rfl) rfl (bq1 BK401 NB401_400) Try.underlying42 rfl (by kernel_rfl)) rfl ?_
 exact er (bbw3 HB GE399 GE400 GE401)
/-! ### impl_Mat_88: function 88 -/
/-- The first index at which p holds, or -1. -/
def impl_Mat_88.f (p : S40 → Bool) (l : List S40) : Int := match l.findIdx? p with | some i => i | none => -1
theorem impl_Mat_88.rd_get (l : List S40) (j : Nat) (h : j < l.length) : rd_T40 l (j : Int) = l[j] := by
 unfold rd_T40; rw [Int.toNat_natCast]; simp [List.getD, h]
theorem impl_Mat_88.hit (p : S40 → Bool) (l : List S40) (x : Int) (h0 : 0 ≤ x) (hx : x < l.length) (h : p (rd_T40 l x) = true) (hb : ∀ j : Nat, (j : Int) < x → p (rd_T40 l (j : Int)) = false) : impl_Mat_88.f p l = x := by
 obtain ⟨k, rfl⟩ := Int.eq_ofNat_of_zero_le h0
 have hk : k < l.length := by omega
 rw [impl_Mat_88.rd_get l k hk] at h
 unfold impl_Mat_88.f
 have : l.findIdx? p = some k := by
  rw [List.findIdx?_eq_some_iff_getElem]
  refine ⟨hk, h, fun j hj => ?_⟩
  have := hb j (by omega)
  rw [impl_Mat_88.rd_get l j (by omega)] at this
  simpa using this
 rw [this]
theorem impl_Mat_88.miss (p : S40 → Bool) (l : List S40) (hb : ∀ j : Nat, (j : Int) < l.length → p (rd_T40 l (j : Int)) = false) : impl_Mat_88.f p l = -1 := by
 unfold impl_Mat_88.f
 have : l.findIdx? p = none := by
  rw [List.findIdx?_eq_none_iff]
  intro x hx
  obtain ⟨j, hj, rfl⟩ := List.getElem_of_mem hx
  have := hb j (by omega)
  rw [impl_Mat_88.rd_get l j hj] at this
  exact this
 rw [this]
set_option maxHeartbeats 2000000 in
theorem impl_Mat_88.calls_some (p : S40 → Bool) (g : Nat) (lb : Array Value) (eg : ∀ args w, (callFunc g args).run Try.prog w = .ok (.enter g args) w) (ad : Addr) (c : Nat) (l : List S40) (w : World) (hr : Kd.C k40 w (some ad) l.length l)
  (hp : ∀ (x : S40) (W : World), Below w.heap.size w W → Calls Try.prog g (#[.agg #[.int .i64 x.f0, .int .i64 x.f1, .int .i64 x.f2, .int .i64 x.f3]] ++ lb) W fun e w' => e = .returned (.bool (p x)) ∧ Below w.heap.size w w') :
  Calls Try.prog 88 #[.slice (some ad) l.length c, .func (.func g) #[] lb] w fun e w' => e = .returned (.int .i64 (impl_Mat_88.f p l)) ∧ Below w.heap.size w w' := by
 have hu33 := Try.underlying40
 have hbig := Kd.C_max hr
 have HR := Aside0.mk hr
 have HP := Aside0.mk hp
 clear hr hp
 have hbig' : l.length ≤ 9223372036854775807 := hbig
 have HBIG := Aside0.mk hbig'
 clear hbig hbig'
 go_enter Try.func88, Try.ntmps88
 go_wp2
 go_loopg [5, 8] l.length (fun gg _ s8 wr => ∃ x : Int, s8 = .int .i64 x ∧ Aside0 (0 ≤ x ∧ x ≤ l.length ∧ (l.length : Int) - x ≤ gg) ∧ Aside0 (Below w.heap.size w wr) ∧ Aside0 (∀ j : Nat, (j : Int) < x → p (rd_T40 l (j : Int)) = false))
 case atStart => exact ⟨0, rfl, ⟨by omega⟩, ⟨Below.refl _ w⟩, ⟨fun j hj => absurd hj (by omega)⟩⟩
 case round =>
  obtain ⟨x, rfl, HX, BW, AA⟩ := hrel
  by_cases c4 : x < (l.length : Int)
  ·have c4b0 : decide (x < (l.length : Int)) = true := decide_eq_true c4
   have c5b0 : decide (0 ≤ x) = true := decide_eq_true HX.out.1
   have hcall := HP.out (rd_T40 l x) wr BW.out
   obtain ⟨ad', e', hx0, hx1, hx2, hx3⟩ := at_T40 HR.out x HX.out.1 c4
   cases e'
   replace hx0 := (BW.out.cell (World.block_lt_of_cell? w _ hx0)).trans hx0
   replace hx1 := (BW.out.cell (World.block_lt_of_cell? w _ hx1)).trans hx1
   replace hx2 := (BW.out.cell (World.block_lt_of_cell? w _ hx2)).trans hx2
   replace hx3 := (BW.out.cell (World.block_lt_of_cell? w _ hx3)).trans hx3
   have C4 := Aside0.mk c4
   clear c4
   generalize hy : rd_T40 l x = y at hcall hx0 hx1 hx2 hx3
   have HY := Aside0.mk hy
   clear hy
   have p5 : 0 ≤ x := HX.out.1
   have p215 := eq_true p5
   have q215 : (x < (l.length : Int)) = True := eq_true C4.out
   clear p5
   cases hq : p y with
   | true =>
    rw [hq] at hcall
    have HQ := Aside0.mk hq
    clear hq
    go_wp2_with (go_at_fn g; refine hcall.mono ?_; rintro e w' ⟨rfl, hb'⟩)
    go_ret
    refine ⟨?_, hb'⟩
    rw [impl_Mat_88.hit p l x HX.out.1 C4.out (by rw [HY.out]; exact HQ.out) AA.out]
    rfl
   | false =>
    rw [hq] at hcall
    have HQ := Aside0.mk hq
    clear hq
    go_wp2_with (go_at_fn g; refine hcall.mono ?_; rintro e w' ⟨rfl, hb'⟩)
    have hw : wrap64 (x + 1) = x + 1 := by
     have h1 := HX.out; have h2 := HBIG.out; have h3 := C4.out
     unfold wrap64; omega
    go_roundg ((l.length : Int) - (x + 1)).toNat
    case measure => have h1 := HX.out; have h3 := C4.out; omega
    case rel =>
     refine ⟨wrap64 (x + 1), rfl, ⟨?_⟩, ⟨hb'⟩, ⟨fun j hj => ?_⟩⟩
     ·have h1 := HX.out; have h3 := C4.out; rw [hw]; omega
     ·rw [hw] at hj
      by_cases e : (j : Int) = x
      ·rw [e, HY.out]; exact HQ.out
      ·exact AA.out j (by omega)
  ·have c4b0 : decide (x < (l.length : Int)) = false := decide_eq_false c4
   have hxe : x = l.length := by have := HX.out; omega
   have C4 := Aside0.mk hxe
   clear c4 hxe
   go_wp2
   go_ret
   refine ⟨?_, BW.out⟩
   rw [impl_Mat_88.miss p l (by rw [← C4.out]; exact AA.out)]
   rfl
set_option maxHeartbeats 2000000 in
theorem impl_Mat_88.calls_empty (p : S40 → Bool) (A : Option Addr) (c : Nat) (fv : Value) (w : World) :
  Calls Try.prog 88 #[.slice A 0 c, fv] w fun e w' => e = .returned (.int .i64 (impl_Mat_88.f p [])) ∧ Below w.heap.size w w' := by
 go_enter Try.func88, Try.ntmps88
 go_wp2
 go_loopg [5, 8] 0 (fun _ _ s8 wr => s8 = .int .i64 0 ∧ wr = w)
 case atStart => exact ⟨rfl, rfl⟩
 case round =>
  obtain ⟨rfl, rfl⟩ := hrel
  go_wp2
  go_ret
  exact ⟨rfl, Below.refl _ _⟩
theorem impl_Mat_88.calls (p : S40 → Bool) (g : Nat) (lb : Array Value) (eg : ∀ args w, (callFunc g args).run Try.prog w = .ok (.enter g args) w) (A : Option Addr) (c : Nat) (l : List S40) (w : World) (hr : Kd.C k40 w A l.length l)
  (hp : ∀ (x : S40) (W : World), Below w.heap.size w W → Calls Try.prog g (#[.agg #[.int .i64 x.f0, .int .i64 x.f1, .int .i64 x.f2, .int .i64 x.f3]] ++ lb) W fun e w' => e = .returned (.bool (p x)) ∧ Below w.heap.size w w') :
  Calls Try.prog 88 #[.slice A l.length c, .func (.func g) #[] lb] w fun e w' => e = .returned (.int .i64 (impl_Mat_88.f p l)) ∧ Below w.heap.size w w' := by
 cases l with
 | nil => exact impl_Mat_88.calls_empty p A c _ w
 | cons x xs =>
  obtain ⟨ad, rfl, _⟩ := hr.2.2 (by simp)
  exact impl_Mat_88.calls_some p g lb eg ad c (x :: xs) w hr hp
/-! ### impl_Mat_73: function 73 -/
/-- What the loop holds. -/
def impl_Mat_73.Inv (p : S40 → Bool) (l : List S40) (i j : Int) (m : List S40) : Prop :=
 m.length = l.length ∧ m.take i.toNat = (l.take j.toNat).filter (fun x => !p x) ∧ ∀ t : Nat, j ≤ t → rd_T40 m (t : Int) = rd_T40 l (t : Int)
theorem impl_Mat_73.rd_get (l : List S40) (j : Nat) (h : j < l.length) : rd_T40 l (j : Int) = l[j] := by
 unfold rd_T40; rw [Int.toNat_natCast]; simp [List.getD, h]
theorem impl_Mat_73.inv_start (p : S40 → Bool) (l : List S40) (k : Nat) (hk : k < l.length) (h : p l[k] = true) (hb : ∀ (j : Nat) (hj : j < k), p (l[j]'(Nat.lt_trans hj hk)) = false) : impl_Mat_73.Inv p l (k : Int) ((k : Int) + 1) l := by
 refine ⟨rfl, ?_, fun t _ => rfl⟩
 have e : ((k : Int) + 1).toNat = k + 1 := by omega
 rw [Int.toNat_natCast, e, List.take_succ_eq_append_getElem hk, List.filter_append]
 have e2 : (l.take k).filter (fun x => !p x) = l.take k := by
  rw [List.filter_eq_self]
  intro x hx
  obtain ⟨j, hj, rfl⟩ := List.getElem_of_mem hx
  have hj' : j < k := by rw [List.length_take] at hj; omega
  rw [List.getElem_take, hb j hj']; rfl
 rw [e2]; simp [h]
theorem impl_Mat_73.inv_keep (p : S40 → Bool) (l m : List S40) (i j : Int) (h0 : 0 ≤ i) (hij : i < j) (hj : j < l.length) (h : impl_Mat_73.Inv p l i j m) (hp : p (rd_T40 m j) = false) : impl_Mat_73.Inv p l (i + 1) (j + 1) (m.set i.toNat (rd_T40 m j)) := by
 obtain ⟨h1, h2, h3⟩ := h
 obtain ⟨i, rfl⟩ := Int.eq_ofNat_of_zero_le h0
 obtain ⟨j, rfl⟩ := Int.eq_ofNat_of_zero_le (show 0 ≤ j by omega)
 have hjl : j < l.length := by omega
 have him : i < m.length := by omega
 have e1 : ((i : Int) + 1).toNat = i + 1 := by omega
 have e2 : ((j : Int) + 1).toNat = j + 1 := by omega
 have e3 := h3 j (by omega)
 rw [Int.toNat_natCast] at h2 ⊢
 rw [Int.toNat_natCast] at h2
 refine ⟨by simpa using h1, ?_, fun t ht => ?_⟩
 ·rw [e1, e2, List.take_succ_eq_append_getElem hjl, List.filter_append, ← h2, List.take_succ_eq_append_getElem (by simpa using him)]
  rw [e3, impl_Mat_73.rd_get l j hjl] at hp ⊢
  congr 1
  ·rw [List.take_set_of_le (by omega)]
  ·simp [hp]
 ·have := h3 t (by omega)
  unfold rd_T40 at this ⊢
  rw [Int.toNat_natCast] at this ⊢
  simp only [List.getD] at this ⊢
  rw [List.getElem?_set_ne (by omega)]
  exact this
theorem impl_Mat_73.inv_skip (p : S40 → Bool) (l m : List S40) (i j : Int) (h0 : 0 ≤ i) (hij : i < j) (hj : j < l.length) (h : impl_Mat_73.Inv p l i j m) (hp : p (rd_T40 m j) = true) : impl_Mat_73.Inv p l i (j + 1) m := by
 obtain ⟨h1, h2, h3⟩ := h
 obtain ⟨j, rfl⟩ := Int.eq_ofNat_of_zero_le (show 0 ≤ j by omega)
 have hjl : j < l.length := by omega
 have e2 : ((j : Int) + 1).toNat = j + 1 := by omega
 have e3 := h3 j (by omega)
 rw [Int.toNat_natCast] at h2
 refine ⟨h1, ?_, fun t ht => h3 t (by omega)⟩
 rw [e2, List.take_succ_eq_append_getElem hjl, List.filter_append, ← h2]
 rw [e3, impl_Mat_73.rd_get l j hjl] at hp
 simp [hp]
theorem impl_Mat_73.set_cells_append (b : Nat) : ∀ (xs ys : List Value) (o : Nat) (w : World), w.setCells b o (xs ++ ys) = (w.setCells b o xs).setCells b (o + xs.length) ys
 | [], _, _, _ => rfl
 | x :: xs, ys, o, w => by
  have := impl_Mat_73.set_cells_append b xs ys (o + 1) (w.setCell ⟨b, o, none⟩ x)
  rw [List.cons_append, World.setCells, World.setCells, this, List.length_cons]; congr 1; omega
theorem impl_Mat_73.zeros (n : Nat) : (Builtin.zeroCells #[.int .i64 0, .int .i64 0, .int .i64 0, .int .i64 0] n).toList = List.replicate (n * 4) (Value.int .i64 0) := by
 apply List.ext_getElem
 ·simp [Builtin.zeroCells]
 ·intro i h1 h2
  simp only [Builtin.zeroCells, Array.toList_map, Array.toList_range, List.getElem_map, List.getElem_range, List.getElem_replicate]
  have : i % 4 < 4 := Nat.mod_lt _ (by decide)
  have h4 : i % 4 = 0 ∨ i % 4 = 1 ∨ i % 4 = 2 ∨ i % 4 = 3 := by omega
  show (#[Value.int .i64 0, .int .i64 0, .int .i64 0, .int .i64 0] : Array Value)[i % 4]! = _
  rcases h4 with h | h | h | h <;> rw [h] <;> rfl
/-- The end of a row, made zero. -/
theorem impl_Mat_73.clear_row {g n cap base : Nat} {ok : Nat → Prop} (d : Nat) : ∀ (W : World) (i : Nat) (xs : List S40), Kd.R k40 40 W base ok (.slice (some ⟨g, 0, none⟩) n cap) xs → i + d = n →
  ∃ xs', xs'.take i = xs.take i ∧ xs'.length = xs.length ∧ Kd.R k40 40 (W.setCells g (i * 4) (List.replicate (d * 4) (.int .i64 0))) base ok (.slice (some ⟨g, 0, none⟩) n cap) xs' ∧ W.grownBy (W.setCells g (i * 4) (List.replicate (d * 4) (.int .i64 0))) (some g) := by
 induction d with
 | zero => intro W i xs h e; exact ⟨xs, rfl, rfl, h, ⟨rfl, rfl, rfl, Nat.le_refl _, fun _ _ _ => rfl⟩⟩
 | succ d ih =>
  intro W i xs h e
  have hn := (Kd.R_reads' h).1
  obtain ⟨ce, hcl, hM, hcc, hfr⟩ := Kd.R_elem h z40 (i : Int) (by omega) (by omega)
  have HP := Kd.R_seg h (i : Int) (by omega) (by omega) (seg := [.int .i64 0, .int .i64 0, .int .i64 0, .int .i64 0]) (j := 0) hcl hcc (show 4 ≤ 4 from by decide) (x' := z40) (by
   obtain rfl := k40_openM hM
   exact k40_mkM _ _ _ z40) (fun _ hk => hk)
  rw [Int.toNat_natCast] at HP
  obtain ⟨h1, h2⟩ := HP
  obtain ⟨xs', q1, q2, q3, q4⟩ := ih _ (i + 1) _ h1 (by omega)
  have e1 : List.replicate ((d + 1) * 4) (Value.int .i64 0) = [.int .i64 0, .int .i64 0, .int .i64 0, .int .i64 0] ++ List.replicate (d * 4) (.int .i64 0) := by
   rw [show (d + 1) * 4 = 4 + d * 4 by omega, ← List.replicate_append_replicate]; rfl
  have e2 : (W.setCells g (i * 4) (List.replicate ((d + 1) * 4) (.int .i64 0))) = ((W.setCells g (i * (k40).sz + 0) [.int .i64 0, .int .i64 0, .int .i64 0, .int .i64 0]).setCells g ((i + 1) * 4) (List.replicate (d * 4) (.int .i64 0))) := by
   rw [e1, impl_Mat_73.set_cells_append]; congr 1; show i * 4 + 4 = (i + 1) * 4; omega
  rw [e2]
  refine ⟨xs', ?_, by simpa using q2, q3, h2.trans q4⟩
  have := congrArg (List.take i) q1
  rw [List.take_take, List.take_take, Nat.min_eq_left (Nat.le_succ i)] at this
  rw [this, List.take_set_of_le (Nat.le_refl _)]
theorem impl_Mat_73.cells_of_row {g n cap base : Nat} {ok : Nat → Prop} {W : World} {xs : List S40} (h : Kd.R k40 40 W base ok (.slice (some ⟨g, 0, none⟩) n cap) xs) (t : Nat) (ht : t < n * 4) : (W.cell? ⟨g, t, none⟩).isSome = true ∧ W.frozen? ⟨g, t, none⟩ = false := by
 obtain ⟨ce, hcl, hM, hcc, hfr⟩ := Kd.R_elem h z40 ((t / 4 : Nat) : Int) (by omega) (by omega)
 rw [Int.toNat_natCast, show (k40).sz = 4 from rfl] at hcc hfr
 have e : t / 4 * 4 + t % 4 = t := by omega
 have hl : ce.length = 4 := hcl
 have hr : t % 4 < ce.length := by rw [hl]; omega
 have h1 := hcc (t % 4) _ (List.getElem?_eq_getElem hr)
 have h2 := hfr (t % 4)
 rw [e] at h1 h2
 exact ⟨by rw [h1]; rfl, h2⟩
theorem impl_Mat_73.zero_run (W : World) : (zeroValue 40).run Try.prog W = .ok (.agg #[.int .i64 0, .int .i64 0, .int .i64 0, .int .i64 0]) W := by
 have := info40
 cases h : Try.prog.info? 40 with
 | none => rw [h] at this; cases this
 | some i =>
  rw [h] at this
  simp only [Option.map_some, Option.some.injEq, Prod.mk.injEq] at this
  simp [zeroValue, typeInfo, h, this.1]
theorem impl_Mat_73.clear_run {g n c base : Nat} {ok : Nat → Prop} {W : World} {xs : List S40} (h : Kd.R k40 40 W base ok (.slice (some ⟨g, 0, none⟩) n c) xs) (i : Nat) (hi : i < n) (ty : TypeId) (c' : Nat) :
  (Builtin.clear_ #[86] ty #[.slice (some ⟨g, i * 4, none⟩) (n - i) c']).run Try.prog W = .ok (.tuple #[]) (W.setCells g (i * 4) (List.replicate ((n - i) * 4) (.int .i64 0))) := by
 have hst := run_storeCells_cells (P := Try.prog) g (i * 4) (List.replicate ((n - i) * 4) (.int .i64 0)) 0 W (fun j hj => (impl_Mat_73.cells_of_row h (i * 4 + 0 + j) (by rw [List.length_replicate] at hj; omega)).1) (fun j hj => (impl_Mat_73.cells_of_row h (i * 4 + 0 + j) (by rw [List.length_replicate] at hj; omega)).2) (by intro v hv; rw [List.eq_of_mem_replicate hv]; rfl)
 simp only [Nat.add_zero] at hst
 have hz := impl_Mat_73.zeros (n - i)
 obtain ⟨q, hq⟩ : ∃ q, n - i = q + 1 := ⟨n - i - 1, by omega⟩
 rw [hq] at hst hz ⊢
 simp [Builtin.clear_, run_underlying Try.underlying86, impl_Mat_73.zero_run, Value.cells, hz, hst]
set_option maxHeartbeats 4000000 in
set_option maxRecDepth 100000 in
theorem impl_Mat_73.calls (p : S40 → Bool) (g : Nat) (lb : Array Value) (eg : ∀ args w, (callFunc g args).run Try.prog w = .ok (.enter g args) w) (P0_ : Nat → Prop) (u0_ : Value) (l : List S40) (w0 w : World) (hB : Below w0.heap.size w0 w) (ho : Kd.R k40 40 w w0.heap.size P0_ u0_ l)
  (hp : ∀ (x : S40) (W : World), Below w0.heap.size w0 W → Kept w W P0_ → Calls Try.prog g (#[.agg #[.int .i64 x.f0, .int .i64 x.f1, .int .i64 x.f2, .int .i64 x.f3]] ++ lb) W fun e w' => e = .returned (.bool (p x)) ∧ Below W.heap.size W w') :
  Calls Try.prog 73 #[u0_, .func (.func g) #[] lb] w fun e w' => ∃ v', e = .returned v' ∧ Kd.R k40 40 w' w0.heap.size (fun k_ => P0_ k_ ∨ w.heap.size ≤ k_) v' (l.filter fun x => !p x) ∧ Below w0.heap.size w0 w' ∧ Kept w w' P0_ := by
 have hu33 := Try.underlying40
 obtain ⟨A0, c0, e0, hlc, hC⟩ := Kd.R_reads ho
 subst e0
 have HI := impl_Mat_88.calls p g lb eg A0 c0 l w hC (fun x W hb => (hp x W (below_then hB hB.size hb) (Kept.of_below hb _)).mono fun e w' ⟨he, hb'⟩ => ⟨he, below_then hb hb.size hb'⟩)
 have HO := asd (show Kd.R k40 40 w w0.heap.size (fun k_ => P0_ k_ ∨ w.heap.size ≤ k_) (.slice A0 l.length c0) l from Kd.R_mono ho (fun k_ hk => .inl hk))
 have HP := Aside0.mk hp
 have HB := Aside0.mk hB
 have HBIG := asd (show l.length ≤ 9223372036854775807 from Kd.C_max hC)
 unfold impl_Mat_88.f at HI
 clear ho hp hB hC hlc
 cases hf : l.findIdx? p with
 | none =>
  rw [hf] at HI
  have hall : (l.filter fun x => !p x) = l := by
   rw [List.filter_eq_self]
   intro x hx
   have := List.findIdx?_eq_none_iff.1 hf x hx
   simp [this]
  rw [hall]
  clear hf hall
  replace HI : Calls Try.prog 88 #[.slice A0 l.length c0, .func (.func g) #[] lb] w fun e w' => e = .returned (.int .i64 (-1)) ∧ Below w.heap.size w w' := HI
  go_enter Try.func73, Try.ntmps73
  go_wp2_with (go_at_call 88; refine HI.mono ?_; rintro e w' ⟨rfl, hb'⟩)
  go_ret
  exact ⟨_, rfl, Kd.R_below HO.out hb', below_then HB.out HB.out.size hb', Kept.of_below hb' _⟩
 | some k =>
  rw [hf] at HI
  obtain ⟨hk, hpk, hbk⟩ := List.findIdx?_eq_some_iff_getElem.1 hf
  have HS := asd (impl_Mat_73.inv_start p l k hk hpk (fun j hj => by simpa using hbk j hj))
  have HK := Aside0.mk hk
  clear hf hpk hbk
  replace HI : Calls Try.prog 88 #[.slice A0 l.length c0, .func (.func g) #[] lb] w fun e w' => e = .returned (.int .i64 (k : Int)) ∧ Below w.heap.size w w' := HI
  have hne1 : ((k : Int) == -1) = false := beq_eq_false_iff_ne.2 (by omega)
  obtain ⟨go, co, eo, gb, gl, cl, HG⟩ := Kd.R_form HO.out (by omega)
  injection eo with ea_ en_ ec_
  subst ea_
  subst ec_
  clear en_ gl HG cl
  have HKW := asd (show wrap64 ((k : Int) + 1) = (k : Int) + 1 by have := HBIG.out; unfold wrap64; omega)
  clear hk
  go_enter Try.func73, Try.ntmps73
  go_wp2_with (go_at_call 88; refine HI.mono ?_; rintro e w' ⟨rfl, hb'⟩)
  go_loopg [5, 6, 7] l.length (fun gg s5 s6 _ wr => ∃ (i j : Int) (m : List S40), s5 = .int .i64 i ∧ s6 = .int .i64 j ∧ Aside0 (0 ≤ i ∧ i < j ∧ j ≤ l.length ∧ (l.length : Int) - j ≤ gg) ∧ Aside0 (impl_Mat_73.Inv p l i j m) ∧ Aside0 (Kd.R k40 40 wr w0.heap.size (fun k_ => P0_ k_ ∨ w.heap.size ≤ k_) (.slice (some ⟨go, 0, none⟩) l.length c0) m) ∧ Aside0 (Kept w wr P0_) ∧ Aside0 (Below w0.heap.size w0 wr))
  case atStart => exact ⟨k, wrap64 ((k : Int) + 1), l, rfl, rfl, ⟨by have := HK.out; rw [HKW.out]; omega⟩, ⟨by rw [HKW.out]; exact HS.out⟩, ⟨Kd.R_below HO.out hb'⟩, ⟨Kept.of_below hb' _⟩, ⟨below_then HB.out HB.out.size hb'⟩⟩
  case round =>
   clear HI
   obtain ⟨i, j, m, rfl, rfl, HX, HV, HR, HKP, HBW⟩ := hrel
   by_cases c4 : j < (l.length : Int)
   ·have c4b0 : decide (j < (l.length : Int)) = true := decide_eq_true c4
    have c5b0 : decide (0 ≤ j) = true := decide_eq_true (by have := HX.out; omega)
    obtain ⟨ce, hcl, hM, hcc, hfr⟩ := Kd.R_elem HR.out z40 j (by have := HX.out; omega) c4
    obtain rfl := k40_openM hM
    have hx0 : wr.cell? ⟨go, j.toNat * 4, none⟩ = some (.int .i64 ((rd_T40 m j).f0)) := hcc 0 _ rfl
    have hx1 : wr.cell? ⟨go, j.toNat * 4 + 1, none⟩ = some (.int .i64 ((rd_T40 m j).f1)) := hcc 1 _ rfl
    have hx2 : wr.cell? ⟨go, j.toNat * 4 + 2, none⟩ = some (.int .i64 ((rd_T40 m j).f2)) := hcc 2 _ rfl
    have hx3 : wr.cell? ⟨go, j.toNat * 4 + 3, none⟩ = some (.int .i64 ((rd_T40 m j).f3)) := hcc 3 _ rfl
    clear hcl hcc hfr hM
    have C4 := Aside0.mk c4
    have p215 : (0 ≤ j) = True := eq_true (by have := HX.out; omega)
    have q215 : (j < (l.length : Int)) = True := eq_true c4
    clear c4
    generalize hy : rd_T40 m j = y at hx0 hx1 hx2 hx3
    have HY := Aside0.mk hy
    clear hy
    have hI : 0 ≤ i ∧ i < (l.length : Int) := by have h1 := HX.out; have h2 := C4.out; omega
    have p300 : (0 ≤ i) = True := eq_true hI.1
    have q300 : (i < (l.length : Int)) = True := eq_true hI.2
    have c6b0 : decide (0 ≤ i) = true := decide_eq_true hI.1
    have c7b0 : decide (i < (l.length : Int)) = true := decide_eq_true hI.2
    have HI := Aside0.mk hI
    clear hI
    have hcall := HP.out y (wr.alloc (.cells #[.int .i64 y.f0, .int .i64 y.f1, .int .i64 y.f2, .int .i64 y.f3] 40)) (below_alloc HBW.out _) (Kept.alloc HKP.out _)
    cases hq : p y with
    | true =>
     rw [hq] at hcall
     have HQ := Aside0.mk hq
     clear hq
     go_wp2_with (go_at_fn g; refine hcall.mono ?_; rintro e w2 ⟨rfl, hb2⟩)
     go_roundg ((l.length : Int) - (j + 1)).toNat
     case measure => have h1 := HX.out; have h3 := C4.out; omega
     case rel =>
      have hw : wrap64 (j + 1) = j + 1 := by
       have h1 := HX.out; have h2 := HBIG.out; have h3 := C4.out
       unfold wrap64; omega
      have hb1 := Kept.below (Kept.alloc HKP.out (.cells #[.int .i64 y.f0, .int .i64 y.f1, .int .i64 y.f2, .int .i64 y.f3] 40)) hb2
      have hbb := below_then (below_alloc HBW.out (.cells #[.int .i64 y.f0, .int .i64 y.f1, .int .i64 y.f2, .int .i64 y.f3] 40)) (below_alloc HBW.out _).size hb2
      refine ⟨i, wrap64 (j + 1), m, rfl, rfl, ⟨?_⟩, ⟨?_⟩, ⟨Kd.R_below (Kd.R_alloc HR.out _) hb2⟩, ⟨hb1⟩, ⟨hbb⟩⟩
      ·have h1 := HX.out; have h3 := C4.out; rw [hw]; omega
      ·rw [hw]; exact impl_Mat_73.inv_skip p l m i j HX.out.1 HX.out.2.1 C4.out HV.out (by rw [HY.out]; exact HQ.out)
    | false =>
     rw [hq] at hcall
     have HQ := Aside0.mk hq
     clear hq
     go_wp2_with (go_at_fn g; refine hcall.mono ?_; rintro e w2 ⟨rfl, hb2⟩; have hz0 : w2.cell? ⟨wr.heap.size, 0, none⟩ = some (.int .i64 y.f0) := (hb2.cell (p := ⟨wr.heap.size, 0, none⟩) (by simp)).trans (by simp); have hz1 : w2.cell? ⟨wr.heap.size, 1, none⟩ = some (.int .i64 y.f1) := (hb2.cell (p := ⟨wr.heap.size, 1, none⟩) (by simp)).trans (by simp); have hz2 : w2.cell? ⟨wr.heap.size, 2, none⟩ = some (.int .i64 y.f2) := (hb2.cell (p := ⟨wr.heap.size, 2, none⟩) (by simp)).trans (by simp); have hz3 : w2.cell? ⟨wr.heap.size, 3, none⟩ = some (.int .i64 y.f3) := (hb2.cell (p := ⟨wr.heap.size, 3, none⟩) (by simp)).trans (by simp); have HR2 := asd (Kd.R_below (Kd.R_alloc HR.out (.cells #[.int .i64 y.f0, .int .i64 y.f1, .int .i64 y.f2, .int .i64 y.f3] 40)) hb2); obtain ⟨ce2, hcl2, hM2, hcc2, hfr2⟩ := Kd.R_elem HR2.out z40 i HI.out.1 HI.out.2; obtain rfl := k40_openM hM2; have hS2 := Kd.R_seg HR2.out i HI.out.1 HI.out.2 (seg := [.int .i64 y.f0, .int .i64 y.f1, .int .i64 y.f2, .int .i64 y.f3]) (j := 0) hcl2 hcc2 (show 4 ≤ 4 from by decide) (x' := y) (k40_mkM _ _ _ y) (fun _ hk => hk); have HS2 := Aside0.mk hS2; clear hS2; have hu0 := hcc2 0 _ rfl; have hu1 := hcc2 1 _ rfl; have hu2 := hcc2 2 _ rfl; have hu3 := hcc2 3 _ rfl; have hv0 := hfr2 0; have hv1 := hfr2 1; have hv2 := hfr2 2; have hv3 := hfr2 3; simp only [show (k40).sz = 4 from rfl, Nat.add_zero] at hu0 hu1 hu2 hu3 hv0 hv1 hv2 hv3; clear hcl2 hcc2 hfr2 hM2)
     go_roundg ((l.length : Int) - (j + 1)).toNat
     case measure => have h1 := HX.out; have h3 := C4.out; omega
     case rel =>
      have hw : wrap64 (j + 1) = j + 1 := by
       have h1 := HX.out; have h2 := HBIG.out; have h3 := C4.out
       unfold wrap64; omega
      have hw2 : wrap64 (i + 1) = i + 1 := by
       have h1 := HX.out; have h2 := HBIG.out; have h3 := C4.out
       unfold wrap64; omega
      have hb1 := Kept.below (Kept.alloc HKP.out (.cells #[.int .i64 y.f0, .int .i64 y.f1, .int .i64 y.f2, .int .i64 y.f3] 40)) hb2
      have hbb := below_then (below_alloc HBW.out (.cells #[.int .i64 y.f0, .int .i64 y.f1, .int .i64 y.f2, .int .i64 y.f3] 40)) (below_alloc HBW.out _).size hb2
      refine ⟨wrap64 (i + 1), wrap64 (j + 1), m.set i.toNat y, rfl, rfl, ⟨?_⟩, ⟨?_⟩, ⟨HS2.out.1⟩, ⟨Kept.of_grown HS2.out.2 hb1 (fun k_ e_ => HR2.out.1 k_ e_)⟩, ⟨?_⟩⟩
      ·have h1 := HX.out; have h3 := C4.out; rw [hw, hw2]; omega
      ·have := impl_Mat_73.inv_keep p l m i j HX.out.1 HX.out.2.1 C4.out HV.out (by rw [HY.out]; exact HQ.out)
       rw [hw, hw2]; rw [HY.out] at this; exact this
      ·exact below_set (below_set (below_set (below_set hbb gb) gb) gb) gb
   ·have c4b0 : decide (j < (l.length : Int)) = false := decide_eq_false c4
    have hje : j = l.length := by have := HX.out; omega
    obtain ⟨i, rfl⟩ := Int.eq_ofNat_of_zero_le HX.out.1
    have hil : i < l.length := by have := HX.out; omega
    have HJ := Aside0.mk hje
    have HIL := Aside0.mk hil
    have hlc := (Kd.R_reads' HR.out).2.1
    have hcl : ∀ ty, (Builtin.clear_ #[86] ty #[.slice (some ⟨go, i * 4, none⟩) (l.length - i) (c0 - i)]).run Try.prog wr = .ok (.tuple #[]) (wr.setCells go (i * 4) (List.replicate ((l.length - i) * 4) (.int .i64 0))) := fun ty => impl_Mat_73.clear_run HR.out i hil ty _
    clear c4 hje
    go_wp2
    go_ret
    obtain ⟨xs', q1, q2, q3, q4⟩ := impl_Mat_73.clear_row (l.length - i) wr i m HR.out (by have := HIL.out; omega)
    have hv := HV.out
    have hm := hv.1
    have hR := Kd.R_take q3 (m := i) (by rw [q2, hm]; have := HIL.out; omega)
    have hfin : xs'.take i = l.filter fun x => !p x := by
     have h2 := hv.2.1
     rw [Int.toNat_natCast, HJ.out, Int.toNat_natCast, List.take_length] at h2
     rw [q1, h2]
    rw [hfin] at hR
    exact ⟨_, rfl, hR, HBW.out.grown q4 HBW.out.size (fun k_ e_ => by injection e_ with e_; subst e_; exact gb), Kept.of_grown q4 HKP.out (fun k_ e_ => HR.out.1 k_ e_)⟩
/-! ### impl_Mat_apply: function 77 -/
def impl_Mat_apply.f (a0_0 : Int) (a0_1 : Int) (a0_2 : Int) (a0_3 : Int) (a1_0 : Int) (a1_1 : Int) : Option (Int × Int) := some (wrap64 ((wrap64 (a0_0 * a1_0)) + (wrap64 (a0_1 * a1_1))), wrap64 ((wrap64 (a0_2 * a1_0)) + (wrap64 (a0_3 * a1_1))))
set_option maxHeartbeats 8000000 in
set_option maxRecDepth 100000 in
theorem impl_Mat_apply.calls (a0_0 : Int) (a0_1 : Int) (a0_2 : Int) (a0_3 : Int) (a1_0 : Int) (a1_1 : Int) (r1 : Int) (r2 : Int) (w : World) (h : impl_Mat_apply.f a0_0 a0_1 a0_2 a0_3 a1_0 a1_1 = some (r1, r2)) :
  Calls Try.prog 77 #[.agg #[.int .i64 a0_0, .int .i64 a0_1, .int .i64 a0_2, .int .i64 a0_3], .agg #[.int .i64 a1_0, .int .i64 a1_1]] w fun e w' => e = .returned (.agg #[.int .i64 r1, .int .i64 r2]) ∧ Below w.heap.size w w' := by
 have hu40 := Try.underlying40
 have hu42 := Try.underlying42
 have HB := asd (Below.refl w.heap.size w)
 have H : (some (wrap64 ((wrap64 (a0_0 * a1_0)) + (wrap64 (a0_1 * a1_1))), wrap64 ((wrap64 (a0_2 * a1_0)) + (wrap64 (a0_3 * a1_1))))) = some (r1, r2) := h
 clear h
 simp only [Option.some.injEq, Prod.mk.injEq] at H
 obtain ⟨rfl, rfl⟩ := H
 go_enter Try.func77, Try.ntmps77
 go_wp2_with (first | ((with_reducible refine gd 2 rfl ?_); refine bx #[.int .i64 a0_0, .int .i64 a0_1, .int .i64 a0_2, .int .i64 a0_3] 40 ?_; intro gb402 hg w3 BK402 hb; have GE402 := ngw0 hg HB; replace HB := bS0 HB hb; clear hb hg) | ((with_reducible refine gd 3 rfl ?_); refine bx #[.int .i64 a1_0, .int .i64 a1_1] 42 ?_; intro gb403 hg w4 BK403 hb; have GE403 := ngw1 hg HB GE402; replace HB := bS1 HB GE402 hb; have NB402_403 := nlt hg BK402; have NB403_402 := nsy (nlt hg BK402); replace BK402 := bB BK402 hb; clear hb hg) | ((with_reducible refine gd 4 rfl ?_); refine bx #[.int .i64 0, .int .i64 0] 42 ?_; intro gb404 hg w5 BK404 hb; have GE404 := ngw2 hg HB GE402 GE403; replace HB := bS2 HB GE402 GE403 hb; have NB402_404 := nlt hg BK402; have NB404_402 := nsy (nlt hg BK402); replace BK402 := bB BK402 hb; have NB403_404 := nlt hg BK403; have NB404_403 := nsy (nlt hg BK403); replace BK403 := bB BK403 hb; clear hb hg; have hnb6 := NB402_403.out; have hnc6 := NB403_402.out; have hnb7 := NB402_404.out; have hnc7 := NB404_402.out; obtain ⟨hcz8_0, hcz8_1, hcz8_2, hcz8_3, hfz8_0, hfz8_1, hfz8_2, hfz8_3⟩ := bz4 BK402; have hnb9 := NB403_404.out; have hnc9 := NB404_403.out; obtain ⟨hcz10_0, hcz10_1, hfz10_0, hfz10_1⟩ := bz2 BK403; obtain ⟨hcz11_0, hcz11_1, hfz11_0, hfz11_1⟩ := bz2 BK404))
 refine bodyPost_ret (results_cell_row rfl _ _ gb404 42 #[.int .i64 (wrap64 ((wrap64 (a0_0 * a1_0)) + (wrap64 (a0_1 * a1_1)))), .int .i64 (wrap64 ((wrap64 (a0_2 * a1_0)) + (wrap64 (a0_3 * a1_1))))] (0, 0) _ rfl (bq0 BK404) Try.underlying42 rfl (by kernel_rfl)) rfl ?_
 exact er (bbw3 HB GE402 GE403 GE404)
/-! ### impl_norm: function 89 -/
def impl_norm.f (a0 : Int) (a1_0 : Int) (a1_1 : Int) : Option (Int) := some (wrap64 ((wrap64 ((wrap64 (a1_0 * a1_0)) + (wrap64 ((wrap64 (a0 * a1_0)) * a1_1)))) + (wrap64 (a1_1 * a1_1))))
set_option maxHeartbeats 8000000 in
set_option maxRecDepth 100000 in
theorem impl_norm.calls (a0 : Int) (a1_0 : Int) (a1_1 : Int) (r : Int) (w : World) (h : impl_norm.f a0 a1_0 a1_1 = some r) :
  Calls Try.prog 89 #[.int .i64 a0, .agg #[.int .i64 a1_0, .int .i64 a1_1]] w fun e w' => e = .returned (.int .i64 r) ∧ Below w.heap.size w w' := by
 have hu42 := Try.underlying42
 have HB := asd (Below.refl w.heap.size w)
 have H : (some (wrap64 ((wrap64 ((wrap64 (a1_0 * a1_0)) + (wrap64 ((wrap64 (a0 * a1_0)) * a1_1)))) + (wrap64 (a1_1 * a1_1))))) = some r := h
 clear h
 obtain rfl := Option.some.inj H
 go_enter Try.func89, Try.ntmps89
 go_wp2_with (first | ((with_reducible refine gd 3 rfl ?_); refine bx #[.int .i64 a1_0, .int .i64 a1_1] 42 ?_; intro gb405 hg w3 BK405 hb; have GE405 := ngw0 hg HB; replace HB := bS0 HB hb; clear hb hg; obtain ⟨hcz4_0, hcz4_1, hfz4_0, hfz4_1⟩ := bz2 BK405))
 go_ret
 exact er (bbw1 HB GE405)

end Go.Proofs.Ytfmjboloeabjmaa.PA
