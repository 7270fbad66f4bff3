/- Walks written by program: each Go function that the law reaches comes to the plain function beside it. -/
import Derived.Test.YtfmjboloeabjmaaPAx0
import Derived.Test.YtfmjboloeabjmaaPAx5
import Derived.Test.YtfmjboloeabjmaaPAx9
import Derived.Test.YtfmjboloeabjmaaPAx10
namespace Go.Proofs.Ytfmjboloeabjmaa.PA
open Go.RowKit Go.Proofs.YtfmjboloeabjmaaW.PrintWords Go.Proofs.YtfmjboloeabjmaaW.PrintLast Go.Proofs.YtfmjboloeabjmaaW.PrintMore
attribute [local go_sem] max2_int min2_int max_two min_two max_three min_three max_four min_four   -- for this text's walks alone
set_option linter.unusedVariables false
set_option linter.unusedSimpArgs false

/-! ### spec_l11Centres: function 12 -/
mutual
def spec_l11Centres.l0 : Nat → List (S44) → Int → List (S42) → List (S42) → Int → Int → Int → Int → Option ((List (S42)))
 | 0, _, _, _, _, _, _, _, _ => none
 | k + 1, x1, x2, x7, x8, x9, x317000, x317001, x317002 => if x9 < (x1.length : Int) then (if 0 ≤ x9 then ((spec_l02Det.f ((rd_T44 x1 x9).f0.f0) ((rd_T44 x1 x9).f0.f1) ((rd_T44 x1 x9).f0.f2) ((rd_T44 x1 x9).f0.f3)).bind fun t324 => (if t324 = 1 then ((spec_l02Order.f k ((rd_T44 x1 x9).f0.f0) ((rd_T44 x1 x9).f0.f1) ((rd_T44 x1 x9).f0.f2) ((rd_T44 x1 x9).f0.f3)).bind fun t326 => (spec_l11Centres.j1 k x1 x2 x7 x8 x9 (t326 != x2) x317000 x317001 x317002)) else (spec_l11Centres.j1 k x1 x2 x7 x8 x9 true x317000 x317001 x317002))) else (none)) else (some x7)
def spec_l11Centres.j1 : Nat → List (S44) → Int → List (S42) → List (S42) → Int → Bool → Int → Int → Int → Option ((List (S42)))
 | 0, _, _, _, _, _, _, _, _, _ => none
 | k + 1, x1, x2, x7, x8, x9, x37, x317000, x317001, x317002 => if x37 = true then (spec_l11Centres.l0 k x1 x2 x7 x8 (wrap64 (x9 + 1)) x317000 x317001 x317002) else (spec_l11Centres.l1 k x1 x2 x7 x8 x9 0 x317000 x317001 x317002)
def spec_l11Centres.l1 : Nat → List (S44) → Int → List (S42) → List (S42) → Int → Int → Int → Int → Int → Option ((List (S42)))
 | 0, _, _, _, _, _, _, _, _, _ => none
 | k + 1, x1, x2, x7, x8, x9, x10, x317000, x317001, x317002 => if x10 < 144 then (if 0 < (x8.length : Int) then ((spec_l01Scale.f ((rd_T42 x8 0).f0) ((rd_T42 x8 0).f1) (Int.tmod x10 12)).bind fun bt328 => (if 1 < (x8.length : Int) then ((spec_l01Scale.f ((rd_T42 x8 1).f0) ((rd_T42 x8 1).f1) (wrap64 (Int.tdiv x10 12))).bind fun bt331 => ((spec_l01Add.f bt328.1 bt328.2 bt331.1 bt331.2).bind fun bt333 => (if 0 ≤ x9 then (if x9 < (x1.length : Int) then ((spec_l01Add.f ((rd_T44 x1 x9).f1.f0) ((rd_T44 x1 x9).f1.f1) bt333.1 bt333.2).bind fun bt338 => ((spec_l11Class.f k x317000 x317001 x317002 ((rd_T44 x1 x9).f0.f0) ((rd_T44 x1 x9).f0.f1) ((rd_T44 x1 x9).f0.f2) ((rd_T44 x1 x9).f0.f3) bt338.1 bt338.2).bind fun bt340 => (if (x7.length < 8796093022208 ∧ spec_l01Insert.ok x7 (⟨bt340.1, bt340.2⟩ : S42) = true) then (spec_l11Centres.l1 k x1 x2 (spec_l01Insert.ins x7 (⟨bt340.1, bt340.2⟩ : S42)) x8 x9 (wrap64 (x10 + 1)) x317000 x317001 x317002) else (none)))) else (none)) else (none)))) else (none))) else (none)) else (spec_l11Centres.l0 k x1 x2 x7 x8 (wrap64 (x9 + 1)) x317000 x317001 x317002)
end
def spec_l11Centres.f (k : Nat) (a0_0 : Int) (a0_1 : Int) (a0_2 : Int) (l1 : List (S44)) (a2 : Int) : Option ((List (S42))) := (spec_l03Basis.f a0_0 a0_1 a0_2).bind fun t320 => (spec_l11Centres.l0 k l1 a2 (([] : List (S42))) t320 0 a0_0 a0_1 a0_2)
def spec_l11Centres.T10 : Bool × List (List Nat × List Nat) := (true, [([], []), ([0], [0]), ([1], [1]), ([], []), ([3], [3]), ([2, 4], [2, 4]), ([], []), ([6], [6]), ([7], [7]), ([], []), ([9], [9]), ([8, 10, 5], [8, 10]), ([5, 11, 11], [5, 11]), ([], []), ([13, 12, 12, 0, 1, 2, 3, 4, 5, 6, 7, 8, 9, 10, 11, 12, 13], [12, 13])])
def spec_l11Centres.B10 : List Nat := [0, 1, 3, 0, 8, 31, 0, 64, 192, 0, 512, 2047, 4095, 0, 16383]
theorem spec_l11Centres.tab10 : rtab .any (opsOf Try.f12 10) = spec_l11Centres.T10 := by kernel_rfl
theorem spec_l11Centres.bits10 : waitsOk spec_l11Centres.T10.2 spec_l11Centres.B10 = true := by kernel_rfl
def spec_l11Centres.T11 : Bool × List (List Nat × List Nat) := (true, [([], []), ([], []), ([], []), ([], []), ([2, 3], [2, 3]), ([4], [4]), ([5], [5]), ([], []), ([], []), ([7, 8], [7, 8]), ([9], [9]), ([10], [10]), ([], []), ([11, 12], [11, 12]), ([6, 13], [6, 13]), ([1, 14, 13], [1, 14]), ([0, 15, 15], [0, 15]), ([16, 16, 0, 1, 2, 3, 4, 5, 6, 7, 8, 9, 10, 11, 12, 13, 14, 15, 16], [0, 16])])
def spec_l11Centres.B11 : List Nat := [0, 0, 0, 0, 12, 28, 60, 0, 0, 384, 896, 1920, 0, 8064, 16380, 32766, 65535, 131071]
theorem spec_l11Centres.tab11 : rtab .any (opsOf Try.f12 11) = spec_l11Centres.T11 := by kernel_rfl
theorem spec_l11Centres.bits11 : waitsOk spec_l11Centres.T11.2 spec_l11Centres.B11 = true := by kernel_rfl
set_option maxHeartbeats 8000000 in
set_option maxRecDepth 100000 in
theorem spec_l11Centres.calls (k : Nat) (a0_0 : Int) (a0_1 : Int) (a0_2 : Int) (A1 : Option Addr) (c1 : Nat) (l1 : List (S44)) (a2 : Int) (r : List (S42)) (w : World) (hr1 : Kd.C k44 w A1 l1.length l1) (hc1 : l1.length ≤ c1) (h : spec_l11Centres.f k a0_0 a0_1 a0_2 l1 a2 = some r) :
  Calls Try.prog 12 #[.agg #[.int .i64 a0_0, .int .i64 a0_1, .int .i64 a0_2], .slice A1 l1.length c1, .int .i64 a2] w fun e w' => ∃ v0_ : Value, e = .returned (v0_) ∧ Kd.R k42 42 w' w.heap.size (fun _ => True) v0_ r ∧ Below w.heap.size w w' := by
 have hu28 := Try.underlying28
 have hu40 := Try.underlying40
 have hu42 := Try.underlying42
 have hu44 := Try.underlying44
 have HR1 := Aside0.mk hr1
 have HC1 := Aside0.mk hc1
 clear hr1 hc1
 have HB := asd (Below.refl w.heap.size w)
 have H : ((spec_l03Basis.f a0_0 a0_1 a0_2).bind fun t320 => (spec_l11Centres.l0 k l1 a2 (([] : List (S42))) t320 0 a0_0 a0_1 a0_2)) = some r := h
 clear h
 obtain ⟨y317, hy317⟩ : ∃ y_ : List (S42), y_ = (([] : List (S42))) := ⟨_, rfl⟩
 replace H : ((spec_l03Basis.f a0_0 a0_1 a0_2).bind fun t320 => (spec_l11Centres.l0 k l1 a2 y317 t320 0 a0_0 a0_1 a0_2)) = some r := by first | (rw [hy317]; with_reducible exact H) | (have H2_ := (Option.bind_some _ _).symm.trans H; rw [hy317]; with_reducible exact H2_) | (have H2_ := (Option.bind_some _ _).symm.trans H; with_reducible exact H2_) | with_reducible exact H | (rw [hy317]; exact H) | exact H
 have Ny317 := Aside0.mk hy317
 clear hy317
 obtain ⟨t320, A4, H⟩ := ob H
 try dsimp only at H
 have H' := Aside0.mk H
 clear H
 go_enter Try.func12, Try.ntmps12
 go_wp2_with (first | ((with_reducible refine gd 3 rfl ?_); refine bx #[.int .i64 a0_0, .int .i64 a0_1, .int .i64 a0_2] 28 ?_; intro gb316 hg w5 BK316 hb; have GE316 := ngw0 hg HB; replace HB := bS0 HB hb; clear hb hg) | ((with_reducible refine gd 12 rfl ?_); refine Kd.R_lit k42 _ 42 ?hg (N := 12) ?hd (xs := ([] : List (S42))) (inner := []) (ok := fun _ => True) (okp := fun _ => True) ?hr ?hp (fun _ hk => hk) trivial (Below.refl _ _) (Nat.le_refl _) (by simp) ?_; (case hd => rfl); (case hg => rfl); (case hr => first | (go_simp; done) | (go_simp; rfl)); (case hp => exact (Reps.none _ _)); intro v318 w6 ho7 hb hg_ hnew_; clear hg_ hnew_; (first | rw [← Ny317.out] at ho7 | (simp only [Int.reduceToNat] at ho7; rw [← Ny317.out] at ho7)); have HO319 := asd (Kd.R_lower ho7 (bsz1 HB GE316)); replace BK316 := bB BK316 hb; replace HB := bS1 HB GE316 hb; clear hb ho7; obtain ⟨hcz8_0, hcz8_1, hcz8_2, hfz8_0, hfz8_1, hfz8_2⟩ := bz3 BK316) | ((with_reducible refine gate_callee (f := 25) rfl ?_); refine gl 14 Try.func25 #[.agg #[.int .i64 a0_0, .int .i64 a0_1, .int .i64 a0_2]] ?_; (with_reducible refine (spec_l03Basis.calls _ _ _ _ _ A4.out).mono ?_); rintro e w9 ⟨v321, rfl, ho0, hb⟩; refine ⟨_, rfl, ?_⟩; have HO322 := asd (Kd.R_lower (Kd.R_new' ho0 (Kd.R_lt (kr HO319))) (bsz1 HB GE316)); replace HO319 := asd (Kd.R_elder' (kr HO319) (Kd.R_base ho0) hb); replace BK316 := bB BK316 hb; replace HB := bS1 HB GE316 hb; (try clear hb); (try clear hb2); (try clear hk); (try clear hi); (try clear ho0)))
 go_loopg [7, 9] k (fun kq v7 v9 w' => ∃ (x7_1 : List (S42)) (x9_1 : Int), v9 = .int .i64 x9_1 ∧ Aside0 (spec_l11Centres.l0 kq l1 a2 x7_1 t320 x9_1 a0_0 a0_1 a0_2 = some r) ∧ Aside0 (kq ≤ k) ∧ Aside0 (Kd.R k42 42 w' w.heap.size (fun k_ => some k_ ≠ (v321 : Value).ownBlock) v7 x7_1) ∧ Aside0 (Kd.R k42 42 w' w.heap.size (fun k_ => some k_ ≠ (v7 : Value).ownBlock) v321 t320) ∧ Aside0 (w'.heap[gb316]? = some (.cells #[.int .i64 a0_0, .int .i64 a0_1, .int .i64 a0_2] 28 (0, 0))) ∧ Aside0 (Below w.heap.size w w'))
 case atStart => exact ⟨(y317), (0), (by first | rfl | (simp; done) | (simp [*]; done)), H', ⟨Nat.le_refl _⟩, ⟨by (with_reducible repeat (first | apply Kd.R_alloc | apply Kd.R_drewN | apply Kd.R_drew)); exact Kd.R_mono HO319.out (fun _ hk => hk.2)⟩, ⟨by (with_reducible repeat (first | apply Kd.R_alloc | apply Kd.R_drewN | apply Kd.R_drew)); exact Kd.R_mono HO322.out (fun _ hk => hk.2)⟩, ⟨bkp BK316⟩, ⟨bbw1 HB GE316⟩⟩
 case round =>
  clear H'
  try clear c1
  try clear c2
  try clear p2
  try clear hcz8_0
  try clear hcz8_1
  try clear hcz8_2
  try clear hfz8_0
  try clear hfz8_1
  try clear hfz8_2
  obtain ⟨x7_1, x9_1, rfl, HA, HK1, HO_7, HO_8, BK316, HB⟩ := hrel
  cases gk with
  | zero => exact absurd HA.out (by simp [spec_l11Centres.l0])
  | succ k1 =>
   have H := HA.out
   clear HA
   simp only [spec_l11Centres.l0] at H
   by_cases c10 : x9_1 < (l1.length : Int)
   ·rw [if_pos c10] at H
    have c10b0 := decide_eq_true c10
    clear c10
    have HC11 := Aside0.mk H
    clear H
    go_upto_region 6 with (fail)
    go_cut [37] (fun v37 wc => ∃ (kq : Nat) (x37_10 : Bool), v37 = .bool x37_10 ∧ Aside0 (spec_l11Centres.j1 kq l1 a2 x7_1 t320 x9_1 x37_10 a0_0 a0_1 a0_2 = some r) ∧ Aside0 (kq ≤ k1) ∧ Aside0 (Kd.R k42 42 wc w.heap.size (fun k_ => some k_ ≠ (v321 : Value).ownBlock) u7 x7_1) ∧ Aside0 (Kd.R k42 42 wc w.heap.size (fun k_ => some k_ ≠ (u7 : Value).ownBlock) v321 t320) ∧ Aside0 (wc.heap[gb316]? = some (.cells #[.int .i64 a0_0, .int .i64 a0_1, .int .i64 a0_2] 28 (0, 0))) ∧ Aside0 (Below w.heap.size w wc))
    case first =>
     have H := HC11.out
     clear HC11
     by_cases c12 : 0 ≤ x9_1
     ·rw [if_pos c12] at H
      have c12b0 := decide_eq_true c12
      clear c12
      (first | rw [c12b0] | (simp only [i64_w, i32_w]; rw [c12b0]) | skip)
      obtain ⟨t324, A13, H⟩ := ob H
      try dsimp only at H
      by_cases c14 : t324 = 1
      ·rw [if_pos c14] at H
       have c14b0 : (t324 == 1) = true := beq_iff_eq.mpr c14
       have c14b1 : (t324 != 1) = false := bne_eq_false_iff_eq.mpr c14
       clear c14
       obtain ⟨t326, A15, H⟩ := ob H
       try dsimp only at H
       have H' := Aside0.mk H
       clear H
       obtain ⟨p323, q323, ad323, e323, hx323_0, hx323_1, hx323_2, hx323_3, hx323_4, hx323_5⟩ := at_T44x HR1.out HB x9_1
       cases e323
       go_wp2_with (first | ((with_reducible refine gate_callee (f := 26) rfl ?_); refine gl 26 Try.func26 #[.agg #[.int .i64 ((rd_T44 l1 x9_1).f0.f0), .int .i64 ((rd_T44 l1 x9_1).f0.f1), .int .i64 ((rd_T44 l1 x9_1).f0.f2), .int .i64 ((rd_T44 l1 x9_1).f0.f3)]] ?_; (with_reducible refine (spec_l02Det.calls _ _ _ _ _ _ A13.out).mono ?_); rintro e w16 ⟨rfl, hb⟩; refine ⟨_, rfl, ?_⟩; replace HO_7 := asd (Kd.R_below (kr HO_7) hb); replace HO_8 := asd (Kd.R_below (kr HO_8) hb); replace BK316 := bB BK316 hb; replace HB := bS1 HB GE316 hb; (try clear hb); obtain ⟨p325, q325, ad325, e325, hx325_0, hx325_1, hx325_2, hx325_3, hx325_4, hx325_5⟩ := at_T44x HR1.out HB x9_1; obtain rfl : ad323 = ad325 := (by injection e325)) | (go_at_call 27; (with_reducible refine (spec_l02Order.calls _ _ _ _ _ _ _ A15.out).mono ?_); rintro e w17 ⟨rfl, hb⟩; replace HO_7 := asd (Kd.R_below (kr HO_7) hb); replace HO_8 := asd (Kd.R_below (kr HO_8) hb); replace BK316 := bB BK316 hb; replace HB := bS1 HB GE316 hb; (try clear hb)))
       go_meet
       case rel => exact ⟨_, ((t326 != a2)), (by first | rfl | (simp; done) | (simp [*]; done)), H', ⟨by have := HK1.out; first | omega | exact Nat.le_refl _⟩, ⟨by (with_reducible repeat (first | apply Kd.R_alloc | apply Kd.R_drewN | apply Kd.R_drew)); exact HO_7.out⟩, ⟨by (with_reducible repeat (first | apply Kd.R_alloc | apply Kd.R_drewN | apply Kd.R_drew)); exact HO_8.out⟩, ⟨bkp BK316⟩, ⟨bbw1 HB GE316⟩⟩
      ·rw [if_neg c14] at H
       have c14b0 : (t324 == 1) = false := beq_eq_false_iff_ne.mpr c14
       have c14b1 : (t324 != 1) = true := bne_iff_ne.mpr c14
       have H' := Aside0.mk H
       clear H
       obtain ⟨p323, q323, ad323, e323, hx323_0, hx323_1, hx323_2, hx323_3, hx323_4, hx323_5⟩ := at_T44x HR1.out HB x9_1
       cases e323
       go_wp2_with (first | ((with_reducible refine gate_callee (f := 26) rfl ?_); refine gl 26 Try.func26 #[.agg #[.int .i64 ((rd_T44 l1 x9_1).f0.f0), .int .i64 ((rd_T44 l1 x9_1).f0.f1), .int .i64 ((rd_T44 l1 x9_1).f0.f2), .int .i64 ((rd_T44 l1 x9_1).f0.f3)]] ?_; (with_reducible refine (spec_l02Det.calls _ _ _ _ _ _ A13.out).mono ?_); rintro e w18 ⟨rfl, hb⟩; refine ⟨_, rfl, ?_⟩; replace HO_7 := asd (Kd.R_below (kr HO_7) hb); replace HO_8 := asd (Kd.R_below (kr HO_8) hb); replace BK316 := bB BK316 hb; replace HB := bS1 HB GE316 hb; (try clear hb)))
       go_meet
       case rel => exact ⟨_, (true), (by first | rfl | (simp; done) | (simp [*]; done)), H', ⟨by have := HK1.out; first | omega | exact Nat.le_refl _⟩, ⟨by (with_reducible repeat (first | apply Kd.R_alloc | apply Kd.R_drewN | apply Kd.R_drew)); exact HO_7.out⟩, ⟨by (with_reducible repeat (first | apply Kd.R_alloc | apply Kd.R_drewN | apply Kd.R_drew)); exact HO_8.out⟩, ⟨bkp BK316⟩, ⟨bbw1 HB GE316⟩⟩
     ·rw [if_neg c12] at H
      exact absurd H (by simp)
    case rest =>
     clear HC11
     try clear c1
     try clear c2
     try clear p2
     try clear p3
     try clear q3
     try clear hx3
     try clear c10
     try clear c10b0
     try clear c12
     try clear c12b0
     try clear c14
     try clear c14b0
     try clear c14b1
     try clear hcz8_0
     try clear hcz8_1
     try clear hcz8_2
     try clear hfz8_0
     try clear hfz8_1
     try clear hfz8_2
     try clear hx323_0
     try clear hx323_1
     try clear hx323_2
     try clear hx323_3
     try clear hx323_4
     try clear hx323_5
     try clear hx325_0
     try clear hx325_1
     try clear hx325_2
     try clear hx325_3
     try clear hx325_4
     try clear hx325_5
     try clear p2
     try clear p323
     try clear p325
     try clear q323
     try clear q325
     obtain ⟨kq, x37_10, rfl, HA, HJ10, HO_7, HO_8, BK316, HB⟩ := hcut
     cases kq with
     | zero => exact absurd HA.out (by simp [spec_l11Centres.j1])
     | succ kj10 =>
      have H := HA.out
      clear HA
      simp only [spec_l11Centres.j1] at H
      by_cases c19 : x37_10 = true
      ·subst c19
       replace H := ifT H
       have H' := Aside0.mk H
       clear H
       go_wp2
       go_roundg kj10
       case measure => have := HK1.out; have := HJ10.out; omega
       case rel => exact ⟨(x7_1), (wrap64 (x9_1 + 1)), (by first | rfl | (simp; done) | (simp [*]; done)), H', ⟨by have := HK1.out; have := HJ10.out; omega⟩, ⟨by (with_reducible repeat (first | apply Kd.R_alloc | apply Kd.R_drewN | apply Kd.R_drew)); exact HO_7.out⟩, ⟨by (with_reducible repeat (first | apply Kd.R_alloc | apply Kd.R_drewN | apply Kd.R_drew)); exact HO_8.out⟩, ⟨bkp BK316⟩, ⟨bbw1 HB GE316⟩⟩
      ·replace c19 := Bool.eq_false_iff.mpr c19
       subst c19
       replace H := ifF H
       have H' := Aside0.mk H
       clear H
       go_wp2
       go_loopg [7, 10] kj10 (fun kq v7 v10 w' => ∃ (x7_3 : List (S42)) (x10_3 : Int), v10 = .int .i64 x10_3 ∧ Aside0 (spec_l11Centres.l1 kq l1 a2 x7_3 t320 x9_1 x10_3 a0_0 a0_1 a0_2 = some r) ∧ Aside0 (kq ≤ kj10) ∧ Aside0 (Kd.R k42 42 w' w.heap.size (fun k_ => some k_ ≠ (v321 : Value).ownBlock) v7 x7_3) ∧ Aside0 (Kd.R k42 42 w' w.heap.size (fun k_ => some k_ ≠ (v7 : Value).ownBlock) v321 t320) ∧ Aside0 (w'.heap[gb316]? = some (.cells #[.int .i64 a0_0, .int .i64 a0_1, .int .i64 a0_2] 28 (0, 0))) ∧ Aside0 (Below w.heap.size w w'))
       case atStart => exact ⟨(x7_1), (0), (by first | rfl | (simp; done) | (simp [*]; done)), H', ⟨Nat.le_refl _⟩, ⟨by (with_reducible repeat (first | apply Kd.R_alloc | apply Kd.R_drewN | apply Kd.R_drew)); exact HO_7.out⟩, ⟨by (with_reducible repeat (first | apply Kd.R_alloc | apply Kd.R_drewN | apply Kd.R_drew)); exact HO_8.out⟩, ⟨bkp BK316⟩, ⟨bbw1 HB GE316⟩⟩
       case round =>
        clear H'
        try clear c1
        try clear c2
        try clear p2
        try clear p3
        try clear q3
        try clear hx3
        try clear p6
        try clear c10
        try clear c10b0
        try clear c12
        try clear c12b0
        try clear c14
        try clear c14b0
        try clear c14b1
        try clear c19
        try clear hcz8_0
        try clear hcz8_1
        try clear hcz8_2
        try clear hfz8_0
        try clear hfz8_1
        try clear hfz8_2
        try clear hx323_0
        try clear hx323_1
        try clear hx323_2
        try clear hx323_3
        try clear hx323_4
        try clear hx323_5
        try clear hx325_0
        try clear hx325_1
        try clear hx325_2
        try clear hx325_3
        try clear hx325_4
        try clear hx325_5
        try clear p2
        try clear p3
        try clear p323
        try clear p325
        try clear q3
        try clear q323
        try clear q325
        obtain ⟨x7_3, x10_3, rfl, HA, HK3, HO_7, HO_8, BK316, HB⟩ := hrel
        cases gk with
        | zero => exact absurd HA.out (by simp [spec_l11Centres.l1])
        | succ k3 =>
         have H := HA.out
         clear HA
         simp only [spec_l11Centres.l1] at H
         by_cases c20 : x10_3 < 144
         rw [if_pos c20] at H
         have c20b0 := decide_eq_true c20
         clear c20
         by_cases c21 : 0 < (t320.length : Int)
         rw [if_pos c21] at H
         have c21b0 := decide_eq_true c21
         have c21b1 : decide (0 < t320.length) = true := decide_eq_true (by omega)
         clear c21
         obtain ⟨⟨t328, t329⟩, A22, H⟩ := ob H
         try dsimp only at H
         by_cases c23 : 1 < (t320.length : Int)
         rw [if_pos c23] at H
         have c23b0 := decide_eq_true c23
         have c23b1 : decide (1 < t320.length) = true := decide_eq_true (by omega)
         clear c23
         obtain ⟨⟨t331, t332⟩, A24, H⟩ := ob H
         try dsimp only at H
         obtain ⟨⟨t333, t334⟩, A25, H⟩ := ob H
         try dsimp only at H
         by_cases c26 : 0 ≤ x9_1
         rw [if_pos c26] at H
         have c26b0 := decide_eq_true c26
         clear c26
         by_cases c27 : x9_1 < (l1.length : Int)
         rw [if_pos c27] at H
         have c27b0 := decide_eq_true c27
         clear c27
         obtain ⟨⟨t338, t339⟩, A28, H⟩ := ob H
         try dsimp only at H
         obtain ⟨⟨t340, t341⟩, A29, H⟩ := ob H
         try dsimp only at H
         by_cases c30 : (x7_3.length < 8796093022208 ∧ spec_l01Insert.ok x7_3 (⟨t340, t341⟩ : S42) = true)
         rw [if_pos c30] at H
         have LMc30 := Aside0.mk c30
         clear c30
         obtain ⟨y342, hy342⟩ : ∃ y_ : List (S42), y_ = (spec_l01Insert.ins x7_3 (⟨t340, t341⟩ : S42)) := ⟨_, rfl⟩
         replace H : (spec_l11Centres.l1 k3 l1 a2 y342 t320 x9_1 (wrap64 (x10_3 + 1)) a0_0 a0_1 a0_2) = some r := by first | (rw [hy342]; with_reducible exact H) | (have H2_ := (Option.bind_some _ _).symm.trans H; rw [hy342]; with_reducible exact H2_) | (have H2_ := (Option.bind_some _ _).symm.trans H; with_reducible exact H2_) | with_reducible exact H | (rw [hy342]; exact H) | exact H
         have Ny342 := Aside0.mk hy342
         clear hy342
         have H' := Aside0.mk H
         clear H
         rotate_left
         ·rw [if_neg c30] at H
          exact absurd H (by simp)
         ·rw [if_neg c27] at H
          exact absurd H (by simp)
         ·rw [if_neg c26] at H
          exact absurd H (by simp)
         ·rw [if_neg c23] at H
          exact absurd H (by simp)
         ·rw [if_neg c21] at H
          exact absurd H (by simp)
         rw [if_neg c20] at H
         have c20b0 := decide_eq_false c20
         clear c20
         have H' := Aside0.mk H
         clear H
         rotate_left
         ·try go_wp2
          replace HO_7 := asd (Kd.R_drew HO_7.out)
          replace HO_8 := asd (Kd.R_drew HO_8.out)
          replace BK316 := asd (blk_drew BK316.out)
          replace HB := asd (below_drew1 HB.out)
          obtain ⟨Ao32, co32, eo32⟩ := Kd.R_slice HO_8.out
          (first | subst eo32 | (injection eo32 with f1_ f2_ f3_; have f4_ := f1_.symm; have f5_ := f3_.symm; clear f1_ f2_ f3_; subst f4_; subst f5_))
          have p327 : 0 ≤ (0 : Int) := (by omega)
          have q327 : 0 < (t320.length : Int) := od
          obtain ⟨ad327, e327, hx327_0, hx327_1⟩ := at_T42 (Kd.R_reads' HO_8.out).2.2 0 p327 q327
          cases e327
          have qi327 : (0 < t320.length) = True := eq_true (by omega)
          (try rw [show ((0 : Int)).toNat = 0 from rfl] at hx327_0)
          (try rw [show 0 * 2 = 0 from rfl] at hx327_0)
          (try rw [Addr.add_zero'] at hx327_0)
          (try rw [show ((0 : Int)).toNat = 0 from rfl] at hx327_1)
          (try rw [show 0 * 2 = 0 from rfl] at hx327_1)
          (try rw [Addr.add_zero'] at hx327_1)
          replace p327 := eq_true p327
          replace q327 := eq_true q327
          have p330 : 0 ≤ (1 : Int) := (by omega)
          have q330 : 1 < (t320.length : Int) := od
          obtain ⟨ad330, e330, hx330_0, hx330_1⟩ := at_T42 (Kd.R_reads' HO_8.out).2.2 1 p330 q330
          obtain rfl : ad327 = ad330 := (by injection e330)
          (try simp only [show (1 : Int).toNat = 1 from rfl, Nat.reduceMul, Nat.reduceEqDiff, Go.Addr.add, ↓reduceIte] at hx330_0)
          (try simp only [show (1 : Int).toNat = 1 from rfl, Nat.reduceMul, Nat.reduceEqDiff, Go.Addr.add, ↓reduceIte] at hx330_1)
          have qi330 : (1 < t320.length) = True := eq_true (by omega)
          (try rw [show ((1 : Int)).toNat = 1 from rfl] at hx330_0)
          (try rw [show 1 * 2 = 2 from rfl] at hx330_0)
          (try rw [show ((1 : Int)).toNat = 1 from rfl] at hx330_1)
          (try rw [show 1 * 2 = 2 from rfl] at hx330_1)
          replace p330 := eq_true p330
          replace q330 := eq_true q330
          refine sh 15 (PA.c1 hx327_0 (PA.c1 hx327_1 (PA.c1 hx330_0 (PA.e1 hx330_1)))) (fun hHeld => ?_); refine with_tabW spec_l11Centres.tab10 spec_l11Centres.bits10 (fun HT_ HW_ => ?_)
          generalize wr.drew = w31 at HO_7 HO_8 BK316 HB hx327_0 hx327_1 hx330_0 hx330_1 hHeld ⊢
          refine pu 0 (some 42) (bT 15 1) HT_ ?_
          refine pu 1 (some 43) (bT 15 2) HT_ ?_
          refine pu 3 (some 45) (bs 15 11) HT_ ?_
          refine pu 4 (some 46) (bs 15 27) HT_ ?_
          refine pu 6 (some 48) (bs 15 91) HT_ ?_
          refine pu 7 (some 49) (bs 15 219) HT_ ?_
          refine pu 9 (some 51) (bs 15 731) HT_ ?_
          refine pu 10 (some 52) (bs 15 1755) HT_ ?_
          refine ta 2 (some 44) (bs 15 1759) HT_ HW_ hHeld ?_
          refine ta 8 (some 50) (bs 15 2015) HT_ HW_ hHeld ?_
          refine join_ (σ := Nat) 1 (bT 15 14) (fun s_ => [(47, .agg #[.int .i64 t328, .int .i64 t329]), (53, .agg #[.int .i64 t331, .int .i64 t332]), (54, .agg #[.int .i64 t333, .int .i64 t334]), (11, .pointer (some ⟨s_, 0, none⟩))]) (fun s_ w' => (w'.cell? ad327 = some (.int .i64 ((rd_T42 t320 0).f0)) ∧ w'.cell? ⟨ad327.block, ad327.off + 1, none⟩ = some (.int .i64 ((rd_T42 t320 0).f1)) ∧ w'.cell? ⟨ad327.block, ad327.off + 2, none⟩ = some (.int .i64 ((rd_T42 t320 1).f0)) ∧ w'.cell? ⟨ad327.block, ad327.off + 2 + 1, none⟩ = some (.int .i64 ((rd_T42 t320 1).f1))) ∧ (Kd.R k42 42 w' w.heap.size (fun k_ => some k_ ≠ (.slice (some ad327) t320.length co32 : Value).ownBlock ∧ k_ ≠ s_) u7 x7_3) ∧ (Kd.R k42 42 w' w.heap.size (fun k_ => some k_ ≠ (u7 : Value).ownBlock ∧ k_ ≠ s_) (.slice (some ad327) t320.length co32) t320) ∧ (w'.heap[gb316]? = some (.cells #[.int .i64 a0_0, .int .i64 a0_1, .int .i64 a0_2] 28 (0, 0))) ∧ (w'.heap[s_]? = some (.cells #[.int .i64 0, .int .i64 0] 42 (0, 0))) ∧ (w.heap.size ≤ s_) ∧ (w.heap.size ≤ s_) ∧ (gb316 ≠ s_) ∧ (s_ ≠ gb316) ∧ (Below w.heap.size w w')) ?_ ?_
          rotate_left
          ·intro hCont
           refine two_ (i := 5) (j := 13) (Ni := some 47) (Nj := some 11) (bT 15 11) (bs 15 10207) rfl rfl rfl rfl (two_of HT_.out (by kernel_rfl)) (by decide) (by decide) (fun K hK => ?_) (fun K hK => ?_)
           ·skip
            refine gs Try.func29 #[.agg #[.int .i64 ((rd_T42 t320 0).f0), .int .i64 ((rd_T42 t320 0).f1)], .int .i64 (Int.tmod x10_3 12)] ?_
            with_reducible refine (spec_l01Scale.calls _ _ _ _ _ _ A22.out).mono ?_
            rintro e w33 ⟨rfl, hb⟩
            have HS0_ := hbc hb (hHeld.1)
            have HS1_ := hbc hb (hHeld.2.1)
            have HS2_ := hbc hb (hHeld.2.2.1)
            have HS3_ := hbc hb (hHeld.2.2.2)
            refine ⟨_, rfl, ?_⟩
            replace HO_7 := asd (Kd.R_below (kr HO_7) hb)
            replace HO_8 := asd (Kd.R_below (kr HO_8) hb)
            replace BK316 := bB BK316 hb
            replace HB := bS1 HB GE316 hb
            (try clear hb)
            (try clear hb2)
            (try clear hk)
            (try clear hi)
            refine hK.out _ _ ⟨HS0_, HS1_, HS2_, HS3_⟩ (fun hHeld => ?_)
            clear hK K
            refine norm_ (a' := ?_) ?_ ?_
            rotate_left
            ·show Act.put _ (some 47) _ = _
             simp only [Act.put, sA, sB, sC, i64_w, i32_w]
             rfl
            refine two_ (i := 11) (j := 13) (Ni := some 53) (Nj := some 11) (bT 15 12) (bs 15 10239) rfl rfl rfl rfl (two_of HT_.out (by kernel_rfl)) (by decide) (by decide) (fun K hK => ?_) (fun K hK => ?_)
            ·skip
             refine gs Try.func29 #[.agg #[.int .i64 ((rd_T42 t320 1).f0), .int .i64 ((rd_T42 t320 1).f1)], .int .i64 (wrap64 (Int.tdiv x10_3 12))] ?_
             with_reducible refine (spec_l01Scale.calls _ _ _ _ _ _ A24.out).mono ?_
             rintro e w34 ⟨rfl, hb⟩
             have HS0_ := hbc hb (hHeld.1)
             have HS1_ := hbc hb (hHeld.2.1)
             have HS2_ := hbc hb (hHeld.2.2.1)
             have HS3_ := hbc hb (hHeld.2.2.2)
             refine ⟨_, rfl, ?_⟩
             replace HO_7 := asd (Kd.R_below (kr HO_7) hb)
             replace HO_8 := asd (Kd.R_below (kr HO_8) hb)
             replace BK316 := bB BK316 hb
             replace HB := bS1 HB GE316 hb
             (try clear hb)
             (try clear hb2)
             (try clear hk)
             (try clear hi)
             refine hK.out _ _ ⟨HS0_, HS1_, HS2_, HS3_⟩ (fun hHeld => ?_)
             clear hK K
             refine norm_ (a' := ?_) ?_ ?_
             rotate_left
             ·show Act.put _ (some 53) _ = _
              simp only [Act.put, sA, sB, sC, i64_w, i32_w]
              rfl
             refine two_ (i := 12) (j := 13) (Ni := some 54) (Nj := some 11) (bT 15 13) (bs 15 12287) rfl rfl rfl rfl (two_of HT_.out (by kernel_rfl)) (by decide) (by decide) (fun K hK => ?_) (fun K hK => ?_)
             ·skip
              refine gs Try.func28 #[.agg #[.int .i64 t328, .int .i64 t329], .agg #[.int .i64 t331, .int .i64 t332]] ?_
              with_reducible refine (spec_l01Add.calls _ _ _ _ _ _ _ A25.out).mono ?_
              rintro e w35 ⟨rfl, hb⟩
              have HS0_ := hbc hb (hHeld.1)
              have HS1_ := hbc hb (hHeld.2.1)
              have HS2_ := hbc hb (hHeld.2.2.1)
              have HS3_ := hbc hb (hHeld.2.2.2)
              refine ⟨_, rfl, ?_⟩
              replace HO_7 := asd (Kd.R_below (kr HO_7) hb)
              replace HO_8 := asd (Kd.R_below (kr HO_8) hb)
              replace BK316 := bB BK316 hb
              replace HB := bS1 HB GE316 hb
              (try clear hb)
              (try clear hb2)
              (try clear hk)
              (try clear hi)
              refine hK.out _ _ ⟨HS0_, HS1_, HS2_, HS3_⟩ (fun hHeld => ?_)
              clear hK K
              refine norm_ (a' := ?_) ?_ ?_
              rotate_left
              ·show Act.put _ (some 54) _ = _
               simp only [Act.put, sA, sB, sC, i64_w, i32_w]
               rfl
              refine ro 13 (some 11) (bT 15 14) HT_ (fun K hK => ?_)
              refine box_step ?hg (N := 11) ?hd (cs := #[.int .i64 0, .int .i64 0]) (t := 42) ?hr ?_; (case hd => rfl); (case hg => rfl); (case hr => first | (go_simp; done) | (go_simp; rfl))
              intro gb335 hg w36 hbox hb
              have HS0_ := hbc hb (hHeld.1)
              have HS1_ := hbc hb (hHeld.2.1)
              have HS2_ := hbc hb (hHeld.2.2.1)
              have HS3_ := hbc hb (hHeld.2.2.2)
              replace HO_7 := asd (Kd.R_below (Kd.R_elderB (kr HO_7) gb335 (Nat.le_of_eq hg.symm)) hb)
              replace HO_8 := asd (Kd.R_below (Kd.R_elderB (kr HO_8) gb335 (Nat.le_of_eq hg.symm)) hb)
              have BK335 := asd (hbox)
              have GW335 := ngw1 hg HB GE316
              have GE335 := ngw1 hg HB GE316
              replace HB := bS1 HB GE316 hb
              have NB316_335 := nlt hg BK316
              have NB335_316 := nsy (nlt hg BK316)
              replace BK316 := bB BK316 hb
              clear hb hbox hg
              refine hK.out _ _ ⟨HS0_, HS1_, HS2_, HS3_⟩ (fun hHeld => ?_)
              clear hK K
              refine norm_ (a' := ?_) ?_ ?_
              rotate_left
              ·show Act.put _ (some 11) _ = _
               simp only [Act.put, sA, sB, sC, i64_w, i32_w]
               rfl
              exact norm_ (by simp only [putAll, Act.put, sA, sB, sC]) (hCont (gb335) _ ⟨hHeld, (kr HO_7), (kr HO_8), (bkp BK316), (bkp BK335), GW335.out, GE335.out, NB316_335.out, NB335_316.out, (bbw2 HB GE316 GE335)⟩)
             ·skip
              refine box_step ?hg (N := 11) ?hd (cs := #[.int .i64 0, .int .i64 0]) (t := 42) ?hr ?_; (case hd => rfl); (case hg => rfl); (case hr => first | (go_simp; done) | (go_simp; rfl))
              intro gb335 hg w35 hbox hb
              have HS0_ := hbc hb (hHeld.1)
              have HS1_ := hbc hb (hHeld.2.1)
              have HS2_ := hbc hb (hHeld.2.2.1)
              have HS3_ := hbc hb (hHeld.2.2.2)
              replace HO_7 := asd (Kd.R_below (Kd.R_elderB (kr HO_7) gb335 (Nat.le_of_eq hg.symm)) hb)
              replace HO_8 := asd (Kd.R_below (Kd.R_elderB (kr HO_8) gb335 (Nat.le_of_eq hg.symm)) hb)
              have BK335 := asd (hbox)
              have GW335 := ngw1 hg HB GE316
              have GE335 := ngw1 hg HB GE316
              replace HB := bS1 HB GE316 hb
              have NB316_335 := nlt hg BK316
              have NB335_316 := nsy (nlt hg BK316)
              replace BK316 := bB BK316 hb
              clear hb hbox hg
              refine hK.out _ _ ⟨HS0_, HS1_, HS2_, HS3_⟩ (fun hHeld => ?_)
              clear hK K
              refine norm_ (a' := ?_) ?_ ?_
              rotate_left
              ·show Act.put _ (some 11) _ = _
               simp only [Act.put, sA, sB, sC, i64_w, i32_w]
               rfl
              refine ro 12 (some 54) (bT 15 14) HT_ (fun K hK => ?_)
              refine gs Try.func28 #[.agg #[.int .i64 t328, .int .i64 t329], .agg #[.int .i64 t331, .int .i64 t332]] ?_
              with_reducible refine (spec_l01Add.calls _ _ _ _ _ _ _ A25.out).mono ?_
              rintro e w36 ⟨rfl, hb⟩
              have HS0_ := hbc hb (hHeld.1)
              have HS1_ := hbc hb (hHeld.2.1)
              have HS2_ := hbc hb (hHeld.2.2.1)
              have HS3_ := hbc hb (hHeld.2.2.2)
              refine ⟨_, rfl, ?_⟩
              replace HO_7 := asd (Kd.R_below (kr HO_7) hb)
              replace HO_8 := asd (Kd.R_below (kr HO_8) hb)
              replace BK316 := bB BK316 hb
              replace BK335 := bB BK335 hb
              replace HB := bS2 HB GE316 GE335 hb
              (try clear hb)
              (try clear hb2)
              (try clear hk)
              (try clear hi)
              refine hK.out _ _ ⟨HS0_, HS1_, HS2_, HS3_⟩ (fun hHeld => ?_)
              clear hK K
              refine norm_ (a' := ?_) ?_ ?_
              rotate_left
              ·show Act.put _ (some 54) _ = _
               simp only [Act.put, sA, sB, sC, i64_w, i32_w]
               rfl
              exact norm_ (by simp only [putAll, Act.put, sA, sB, sC]) (hCont (gb335) _ ⟨hHeld, (kr HO_7), (kr HO_8), (bkp BK316), (bkp BK335), GW335.out, GE335.out, NB316_335.out, NB335_316.out, (bbw2 HB GE316 GE335)⟩)
            ·skip
             refine box_step ?hg (N := 11) ?hd (cs := #[.int .i64 0, .int .i64 0]) (t := 42) ?hr ?_; (case hd => rfl); (case hg => rfl); (case hr => first | (go_simp; done) | (go_simp; rfl))
             intro gb335 hg w34 hbox hb
             have HS0_ := hbc hb (hHeld.1)
             have HS1_ := hbc hb (hHeld.2.1)
             have HS2_ := hbc hb (hHeld.2.2.1)
             have HS3_ := hbc hb (hHeld.2.2.2)
             replace HO_7 := asd (Kd.R_below (Kd.R_elderB (kr HO_7) gb335 (Nat.le_of_eq hg.symm)) hb)
             replace HO_8 := asd (Kd.R_below (Kd.R_elderB (kr HO_8) gb335 (Nat.le_of_eq hg.symm)) hb)
             have BK335 := asd (hbox)
             have GW335 := ngw1 hg HB GE316
             have GE335 := ngw1 hg HB GE316
             replace HB := bS1 HB GE316 hb
             have NB316_335 := nlt hg BK316
             have NB335_316 := nsy (nlt hg BK316)
             replace BK316 := bB BK316 hb
             clear hb hbox hg
             refine hK.out _ _ ⟨HS0_, HS1_, HS2_, HS3_⟩ (fun hHeld => ?_)
             clear hK K
             refine norm_ (a' := ?_) ?_ ?_
             rotate_left
             ·show Act.put _ (some 11) _ = _
              simp only [Act.put, sA, sB, sC, i64_w, i32_w]
              rfl
             refine ro 11 (some 53) (bs 15 12287) HT_ (fun K hK => ?_)
             refine gs Try.func29 #[.agg #[.int .i64 ((rd_T42 t320 1).f0), .int .i64 ((rd_T42 t320 1).f1)], .int .i64 (wrap64 (Int.tdiv x10_3 12))] ?_
             with_reducible refine (spec_l01Scale.calls _ _ _ _ _ _ A24.out).mono ?_
             rintro e w35 ⟨rfl, hb⟩
             have HS0_ := hbc hb (hHeld.1)
             have HS1_ := hbc hb (hHeld.2.1)
             have HS2_ := hbc hb (hHeld.2.2.1)
             have HS3_ := hbc hb (hHeld.2.2.2)
             refine ⟨_, rfl, ?_⟩
             replace HO_7 := asd (Kd.R_below (kr HO_7) hb)
             replace HO_8 := asd (Kd.R_below (kr HO_8) hb)
             replace BK316 := bB BK316 hb
             replace BK335 := bB BK335 hb
             replace HB := bS2 HB GE316 GE335 hb
             (try clear hb)
             (try clear hb2)
             (try clear hk)
             (try clear hi)
             refine hK.out _ _ ⟨HS0_, HS1_, HS2_, HS3_⟩ (fun hHeld => ?_)
             clear hK K
             refine norm_ (a' := ?_) ?_ ?_
             rotate_left
             ·show Act.put _ (some 53) _ = _
              simp only [Act.put, sA, sB, sC, i64_w, i32_w]
              rfl
             refine ro 12 (some 54) (bT 15 14) HT_ (fun K hK => ?_)
             refine gs Try.func28 #[.agg #[.int .i64 t328, .int .i64 t329], .agg #[.int .i64 t331, .int .i64 t332]] ?_
             with_reducible refine (spec_l01Add.calls _ _ _ _ _ _ _ A25.out).mono ?_
             rintro e w36 ⟨rfl, hb⟩
             have HS0_ := hbc hb (hHeld.1)
             have HS1_ := hbc hb (hHeld.2.1)
             have HS2_ := hbc hb (hHeld.2.2.1)
             have HS3_ := hbc hb (hHeld.2.2.2)
             refine ⟨_, rfl, ?_⟩
             replace HO_7 := asd (Kd.R_below (kr HO_7) hb)
             replace HO_8 := asd (Kd.R_below (kr HO_8) hb)
             replace BK316 := bB BK316 hb
             replace BK335 := bB BK335 hb
             replace HB := bS2 HB GE316 GE335 hb
             (try clear hb)
             (try clear hb2)
             (try clear hk)
             (try clear hi)
             refine hK.out _ _ ⟨HS0_, HS1_, HS2_, HS3_⟩ (fun hHeld => ?_)
             clear hK K
             refine norm_ (a' := ?_) ?_ ?_
             rotate_left
             ·show Act.put _ (some 54) _ = _
              simp only [Act.put, sA, sB, sC, i64_w, i32_w]
              rfl
             exact norm_ (by simp only [putAll, Act.put, sA, sB, sC]) (hCont (gb335) _ ⟨hHeld, (kr HO_7), (kr HO_8), (bkp BK316), (bkp BK335), GW335.out, GE335.out, NB316_335.out, NB335_316.out, (bbw2 HB GE316 GE335)⟩)
           ·skip
            refine box_step ?hg (N := 11) ?hd (cs := #[.int .i64 0, .int .i64 0]) (t := 42) ?hr ?_; (case hd => rfl); (case hg => rfl); (case hr => first | (go_simp; done) | (go_simp; rfl))
            intro gb335 hg w33 hbox hb
            have HS0_ := hbc hb (hHeld.1)
            have HS1_ := hbc hb (hHeld.2.1)
            have HS2_ := hbc hb (hHeld.2.2.1)
            have HS3_ := hbc hb (hHeld.2.2.2)
            replace HO_7 := asd (Kd.R_below (Kd.R_elderB (kr HO_7) gb335 (Nat.le_of_eq hg.symm)) hb)
            replace HO_8 := asd (Kd.R_below (Kd.R_elderB (kr HO_8) gb335 (Nat.le_of_eq hg.symm)) hb)
            have BK335 := asd (hbox)
            have GW335 := ngw1 hg HB GE316
            have GE335 := ngw1 hg HB GE316
            replace HB := bS1 HB GE316 hb
            have NB316_335 := nlt hg BK316
            have NB335_316 := nsy (nlt hg BK316)
            replace BK316 := bB BK316 hb
            clear hb hbox hg
            refine hK.out _ _ ⟨HS0_, HS1_, HS2_, HS3_⟩ (fun hHeld => ?_)
            clear hK K
            refine norm_ (a' := ?_) ?_ ?_
            rotate_left
            ·show Act.put _ (some 11) _ = _
             simp only [Act.put, sA, sB, sC, i64_w, i32_w]
             rfl
            refine ro 5 (some 47) (bs 15 10239) HT_ (fun K hK => ?_)
            refine gs Try.func29 #[.agg #[.int .i64 ((rd_T42 t320 0).f0), .int .i64 ((rd_T42 t320 0).f1)], .int .i64 (Int.tmod x10_3 12)] ?_
            with_reducible refine (spec_l01Scale.calls _ _ _ _ _ _ A22.out).mono ?_
            rintro e w34 ⟨rfl, hb⟩
            have HS0_ := hbc hb (hHeld.1)
            have HS1_ := hbc hb (hHeld.2.1)
            have HS2_ := hbc hb (hHeld.2.2.1)
            have HS3_ := hbc hb (hHeld.2.2.2)
            refine ⟨_, rfl, ?_⟩
            replace HO_7 := asd (Kd.R_below (kr HO_7) hb)
            replace HO_8 := asd (Kd.R_below (kr HO_8) hb)
            replace BK316 := bB BK316 hb
            replace BK335 := bB BK335 hb
            replace HB := bS2 HB GE316 GE335 hb
            (try clear hb)
            (try clear hb2)
            (try clear hk)
            (try clear hi)
            refine hK.out _ _ ⟨HS0_, HS1_, HS2_, HS3_⟩ (fun hHeld => ?_)
            clear hK K
            refine norm_ (a' := ?_) ?_ ?_
            rotate_left
            ·show Act.put _ (some 47) _ = _
             simp only [Act.put, sA, sB, sC, i64_w, i32_w]
             rfl
            refine ro 11 (some 53) (bs 15 12287) HT_ (fun K hK => ?_)
            refine gs Try.func29 #[.agg #[.int .i64 ((rd_T42 t320 1).f0), .int .i64 ((rd_T42 t320 1).f1)], .int .i64 (wrap64 (Int.tdiv x10_3 12))] ?_
            with_reducible refine (spec_l01Scale.calls _ _ _ _ _ _ A24.out).mono ?_
            rintro e w35 ⟨rfl, hb⟩
            have HS0_ := hbc hb (hHeld.1)
            have HS1_ := hbc hb (hHeld.2.1)
            have HS2_ := hbc hb (hHeld.2.2.1)
            have HS3_ := hbc hb (hHeld.2.2.2)
            refine ⟨_, rfl, ?_⟩
            replace HO_7 := asd (Kd.R_below (kr HO_7) hb)
            replace HO_8 := asd (Kd.R_below (kr HO_8) hb)
            replace BK316 := bB BK316 hb
            replace BK335 := bB BK335 hb
            replace HB := bS2 HB GE316 GE335 hb
            (try clear hb)
            (try clear hb2)
            (try clear hk)
            (try clear hi)
            refine hK.out _ _ ⟨HS0_, HS1_, HS2_, HS3_⟩ (fun hHeld => ?_)
            clear hK K
            refine norm_ (a' := ?_) ?_ ?_
            rotate_left
            ·show Act.put _ (some 53) _ = _
             simp only [Act.put, sA, sB, sC, i64_w, i32_w]
             rfl
            refine ro 12 (some 54) (bT 15 14) HT_ (fun K hK => ?_)
            refine gs Try.func28 #[.agg #[.int .i64 t328, .int .i64 t329], .agg #[.int .i64 t331, .int .i64 t332]] ?_
            with_reducible refine (spec_l01Add.calls _ _ _ _ _ _ _ A25.out).mono ?_
            rintro e w36 ⟨rfl, hb⟩
            have HS0_ := hbc hb (hHeld.1)
            have HS1_ := hbc hb (hHeld.2.1)
            have HS2_ := hbc hb (hHeld.2.2.1)
            have HS3_ := hbc hb (hHeld.2.2.2)
            refine ⟨_, rfl, ?_⟩
            replace HO_7 := asd (Kd.R_below (kr HO_7) hb)
            replace HO_8 := asd (Kd.R_below (kr HO_8) hb)
            replace BK316 := bB BK316 hb
            replace BK335 := bB BK335 hb
            replace HB := bS2 HB GE316 GE335 hb
            (try clear hb)
            (try clear hb2)
            (try clear hk)
            (try clear hi)
            refine hK.out _ _ ⟨HS0_, HS1_, HS2_, HS3_⟩ (fun hHeld => ?_)
            clear hK K
            refine norm_ (a' := ?_) ?_ ?_
            rotate_left
            ·show Act.put _ (some 54) _ = _
             simp only [Act.put, sA, sB, sC, i64_w, i32_w]
             rfl
            exact norm_ (by simp only [putAll, Act.put, sA, sB, sC]) (hCont (gb335) _ ⟨hHeld, (kr HO_7), (kr HO_8), (bkp BK316), (bkp BK335), GW335.out, GE335.out, NB316_335.out, NB335_316.out, (bbw2 HB GE316 GE335)⟩)
          rintro gb335 w37 ⟨hS_, h0_, h1_, h2_, h3_, h4_, h5_, h6_, h7_, h8_⟩
          have n0_ : Aside0 (Kd.R k42 42 w37 w.heap.size (fun k_ => some k_ ≠ (.slice (some ad327) t320.length co32 : Value).ownBlock ∧ k_ ≠ gb335) u7 x7_3) := ⟨h0_⟩
          have n1_ : Aside0 (Kd.R k42 42 w37 w.heap.size (fun k_ => some k_ ≠ (u7 : Value).ownBlock ∧ k_ ≠ gb335) (.slice (some ad327) t320.length co32) t320) := ⟨h1_⟩
          have n2_ : Aside0 (w37.heap[gb316]? = some (.cells #[.int .i64 a0_0, .int .i64 a0_1, .int .i64 a0_2] 28 (0, 0))) := ⟨h2_⟩
          have n3_ : Aside0 (w37.heap[gb335]? = some (.cells #[.int .i64 0, .int .i64 0] 42 (0, 0))) := ⟨h3_⟩
          have n4_ : Aside0 (w.heap.size ≤ gb335) := ⟨h4_⟩
          have n5_ : Aside0 (w.heap.size ≤ gb335) := ⟨h5_⟩
          have n6_ : Aside0 (gb316 ≠ gb335) := ⟨h6_⟩
          have n7_ : Aside0 (gb335 ≠ gb316) := ⟨h7_⟩
          have n8_ : Aside0 (Below w.heap.size w w37) := ⟨h8_⟩
          clear HO_7
          clear HO_8
          clear BK316
          clear HB
          clear h0_ h1_ h2_ h3_ h4_ h5_ h6_ h7_ h8_
          have HO_7 := n0_
          have HO_8 := n1_
          have BK316 := n2_
          have BK335 := n3_
          have GW335 := n4_
          have GE335 := n5_
          have NB316_335 := n6_
          have NB335_316 := n7_
          have HB := n8_
          clear n0_ n1_ n2_ n3_ n4_ n5_ n6_ n7_ n8_
          have hHeld : w37.cell? ad327 = some (.int .i64 ((rd_T42 t320 0).f0)) ∧ w37.cell? ⟨ad327.block, ad327.off + 1, none⟩ = some (.int .i64 ((rd_T42 t320 0).f1)) ∧ w37.cell? ⟨ad327.block, ad327.off + 2, none⟩ = some (.int .i64 ((rd_T42 t320 1).f0)) ∧ w37.cell? ⟨ad327.block, ad327.off + 2 + 1, none⟩ = some (.int .i64 ((rd_T42 t320 1).f1)) := hS_
          refine norm_ (a' := ?_) ?_ ?_
          rotate_left
          ·simp only [putAll, Act.put, sA, sB, sC]
           rfl
          refine ro 14 (none) (bT 15 15) HT_ (fun K hK => ?_)
          have hs38 : w37.cell? ⟨gb335, 0, none⟩ = some (.int .i64 0) := bcl BK335 0
          have hfs38 := blk_frozen BK335.out 0
          have hns38_0 := NB316_335.out
          have hms38_0 := NB335_316.out
          have hs39 : w37.cell? ⟨gb335, 1, none⟩ = some (.int .i64 0) := bcl BK335 1
          have hfs39 := blk_frozen BK335.out 1
          have hns39_0 := NB316_335.out
          have hms39_0 := NB335_316.out
          refine skip_ (w1 := ?_) (by rfl) rfl ?_ ?_
          rotate_left
          ·go_simp
           rfl
          refine hK.out _ _ ⟨(fx2 (Kd.own_blk (Kd.R_away HO_8.out (fun _ hk => hk.2))) (hHeld.1)), (fx2 (Kd.own_blk (Kd.R_away HO_8.out (fun _ hk => hk.2))) (hHeld.2.1)), (fx2 (Kd.own_blk (Kd.R_away HO_8.out (fun _ hk => hk.2))) (hHeld.2.2.1)), (fx2 (Kd.own_blk (Kd.R_away HO_8.out (fun _ hk => hk.2))) (hHeld.2.2.2))⟩ (fun hHeld => ?_)
          clear hK K
          refine done_ (done_of HT_.out (by kernel_rfl)) ?_
          try go_wp2
          obtain ⟨w40, h_w40⟩ : ∃ w_, ((w37.setCell ⟨gb335, 0, none⟩ (.int .i64 t333)).setCell ⟨gb335, 1, none⟩ (.int .i64 t334)) = w_ := ⟨_, rfl⟩
          replace HO_7 : Aside0 (Kd.R k42 42 w40 w.heap.size (fun k_ => some k_ ≠ (.slice (some ad327) t320.length co32 : Value).ownBlock ∧ k_ ≠ gb335) u7 x7_3) := by rw [← h_w40]; exact ⟨by (with_reducible repeat (first | apply Kd.R_alloc | apply Kd.R_drewN | apply Kd.R_drew)); exact Kd.R_mono (rw2 (Kd.R_mono HO_7.out (fun k_ hk => (⟨hk, hk.2⟩ : _ ∧ k_ ≠ gb335)))) (fun _ hk => ⟨hk.1.1, hk.1.2⟩)⟩
          replace HO_8 : Aside0 (Kd.R k42 42 w40 w.heap.size (fun k_ => some k_ ≠ (u7 : Value).ownBlock ∧ k_ ≠ gb335) (.slice (some ad327) t320.length co32) t320) := by rw [← h_w40]; exact ⟨by (with_reducible repeat (first | apply Kd.R_alloc | apply Kd.R_drewN | apply Kd.R_drew)); exact Kd.R_mono (rw2 (Kd.R_mono HO_8.out (fun k_ hk => (⟨hk, hk.2⟩ : _ ∧ k_ ≠ gb335)))) (fun _ hk => ⟨hk.1.1, hk.1.2⟩)⟩
          replace BK316 : Aside0 (w40.heap[gb316]? = some (.cells #[.int .i64 a0_0, .int .i64 a0_1, .int .i64 a0_2] 28 (0, 0))) := by rw [← h_w40]; exact ⟨bq1 BK316 NB316_335⟩
          replace BK335 : Aside0 (w40.heap[gb335]? = some (.cells #[.int .i64 t333, .int .i64 t334] 42 (0, 0))) := by rw [← h_w40]; exact ⟨bq0 BK335⟩
          replace HB : Aside0 (Below w.heap.size w w40) := by rw [← h_w40]; exact ⟨bbw2 HB GE316 GE335⟩
          (try rw [h_w40]); clear h_w40
          replace HO_7 := asd (Kd.R_drew HO_7.out)
          replace HO_8 := asd (Kd.R_drew HO_8.out)
          replace BK316 := asd (blk_drew BK316.out)
          replace BK335 := asd (blk_drew BK335.out)
          replace HB := asd (below_drew1 HB.out)
          obtain ⟨p336, q336, ad336, e336, hw336_0, hw336_1, hw336_2, hw336_3, hw336_4, hw336_5, hx336_0, hx336_1, hx336_2, hx336_3, hx336_4, hx336_5⟩ := at_T44w HR1.out HB x9_1
          cases e336
          obtain ⟨p337, q337, ad337, e337, hw337_0, hw337_1, hw337_2, hw337_3, hw337_4, hw337_5, hx337_0, hx337_1, hx337_2, hx337_3, hx337_4, hx337_5⟩ := at_T44w HR1.out HB x9_1
          obtain rfl : ad336 = ad337 := (by injection e337)
          refine sh 18 (cb3 BK316 (cb2 BK335 (cx6 HB hw336_0 hw336_1 hw336_2 hw336_3 hw336_4 hw336_5 (ex6 HB hw337_0 hw337_1 hw337_2 hw337_3 hw337_4 hw337_5)))) (fun hHeld => ?_); refine with_tabW spec_l11Centres.tab11 spec_l11Centres.bits11 (fun HT_ HW_ => ?_)
          generalize w40.drew = w41 at HO_7 HO_8 BK316 BK335 HB hx336_0 hx336_1 hx336_2 hx336_3 hx336_4 hx336_5 hx337_0 hx337_1 hx337_2 hx337_3 hx337_4 hx337_5 hHeld ⊢
          refine pu 0 (some 55) (bT 18 1) HT_ ?_
          refine pu 2 (some 57) (bs 18 5) HT_ ?_
          refine pu 3 (some 58) (bs 18 13) HT_ ?_
          refine pu 4 (some 59) (bs 18 29) HT_ ?_
          refine pu 5 (some 60) (bs 18 61) HT_ ?_
          refine pu 7 (some 62) (bs 18 189) HT_ ?_
          refine pu 8 (some 63) (bs 18 445) HT_ ?_
          refine pu 9 (some 64) (bs 18 957) HT_ ?_
          refine pu 10 (some 65) (bs 18 1981) HT_ ?_
          refine ta 1 (some 56) (bs 18 1983) HT_ HW_ hHeld ?_
          refine ta 6 (some 61) (bT 18 11) HT_ HW_ hHeld ?_
          refine ta 11 (some 66) (bT 18 12) HT_ HW_ hHeld ?_
          refine ta 12 (some 67) (bT 18 13) HT_ HW_ hHeld ?_
          refine ro 13 (some 68) (bT 18 14) HT_ (fun K hK => ?_)
          refine gs Try.func28 #[.agg #[.int .i64 ((rd_T44 l1 x9_1).f1.f0), .int .i64 ((rd_T44 l1 x9_1).f1.f1)], .agg #[.int .i64 t333, .int .i64 t334]] ?_
          with_reducible refine (spec_l01Add.calls _ _ _ _ _ _ _ A28.out).mono ?_
          rintro e w42 ⟨rfl, hb⟩
          refine ⟨_, rfl, ?_⟩
          replace HO_7 := asd (Kd.R_below (kr HO_7) hb)
          replace HO_8 := asd (Kd.R_below (kr HO_8) hb)
          replace BK316 := bB BK316 hb
          replace BK335 := bB BK335 hb
          replace HB := bS2 HB GE316 GE335 hb
          (try clear hb)
          (try clear hb2)
          (try clear hk)
          (try clear hi)
          refine hK.out _ _ (cb3 BK316 (cb2 BK335 (cx6 HB hw336_0 hw336_1 hw336_2 hw336_3 hw336_4 hw336_5 (ex6 HB hw337_0 hw337_1 hw337_2 hw337_3 hw337_4 hw337_5)))).out (fun hHeld => ?_)
          clear hK K
          refine norm_ (a' := ?_) ?_ ?_
          rotate_left
          ·show Act.put _ (some 68) _ = _
           simp only [Act.put, sA, sB, sC, i64_w, i32_w]
           rfl
          refine pu 14 (some 69) (bT 18 15) HT_ ?_
          refine ro 15 (some 70) (bT 18 16) HT_ (fun K hK => ?_)
          refine gs Try.func31 #[.agg #[.int .i64 a0_0, .int .i64 a0_1, .int .i64 a0_2], .agg #[.int .i64 ((rd_T44 l1 x9_1).f0.f0), .int .i64 ((rd_T44 l1 x9_1).f0.f1), .int .i64 ((rd_T44 l1 x9_1).f0.f2), .int .i64 ((rd_T44 l1 x9_1).f0.f3), .int .i64 t338, .int .i64 t339]] ?_
          with_reducible refine (spec_l11Class.calls _ _ _ _ _ _ _ _ _ _ _ _ _ A29.out).mono ?_
          rintro e w43 ⟨rfl, hb⟩
          refine ⟨_, rfl, ?_⟩
          replace HO_7 := asd (Kd.R_below (kr HO_7) hb)
          replace HO_8 := asd (Kd.R_below (kr HO_8) hb)
          replace BK316 := bB BK316 hb
          replace BK335 := bB BK335 hb
          replace HB := bS2 HB GE316 GE335 hb
          (try clear hb)
          (try clear hb2)
          (try clear hk)
          (try clear hi)
          refine hK.out _ _ (cb3 BK316 (cb2 BK335 (cx6 HB hw336_0 hw336_1 hw336_2 hw336_3 hw336_4 hw336_5 (ex6 HB hw337_0 hw337_1 hw337_2 hw337_3 hw337_4 hw337_5)))).out (fun hHeld => ?_)
          clear hK K
          refine norm_ (a' := ?_) ?_ ?_
          rotate_left
          ·show Act.put _ (some 70) _ = _
           simp only [Act.put, sA, sB, sC, i64_w, i32_w]
           rfl
          refine ro 16 (some 71) (bT 18 17) HT_ (fun K hK => ?_)
          refine spec_l01Insert.step (w0 := w) w.heap.size (by rfl) (.tmp 55) (.tmp 70) rfl u7 x7_3 (⟨t340, t341⟩ : S42) (fun k_ => some k_ ≠ (.slice (some ad327) t320.length co32 : Value).ownBlock ∧ k_ ≠ gb335) rfl rfl ?aF ?aO ?aB ?aS ?aL ?_
          (case aB => exact (bbw2 HB GE316 GE335))
          (case aF => exact (fun k_ hk => ⟨Kd.fresh' (Kd.R_lt (kr HO_8)) k_ hk, Kd.freshB (g := gb335) (o := .cells #[.int .i64 t333, .int .i64 t334] 42 (0, 0)) (bkp BK335) k_ hk⟩))
          (case aO => exact (kr HO_7))
          (case aS => exact (bsz2 HB GE316 GE335))
          (case aL => exact LMc30.out)
          intro v343 w44 ho hb hg hat
          rw [← Ny342.out] at ho
          have n0_ := asd (Kd.R_after (ok := (fun k_ => k_ ≠ gb335)) (by (with_reducible repeat (first | apply Kd.R_alloc | apply Kd.R_drewN | apply Kd.R_drew)); exact Kd.R_mono HO_8.out (fun _ hk => ⟨hk.2, hk.1⟩)) hg hat)
          have n1_ := asd (blk_grown (g := gb316) (o := .cells #[.int .i64 a0_0, .int .i64 a0_1, .int .i64 a0_2] 28 (0, 0)) (bkp BK316) hg (Kd.R_ne HO_7.out BK316.out (by decide)))
          have n2_ := asd (blk_grown (g := gb335) (o := .cells #[.int .i64 t333, .int .i64 t334] 42 (0, 0)) (bkp BK335) hg (Kd.R_away HO_7.out (fun _ hk => hk.2)))
          have n3_ := asd (hb)
          have n4_ := asd (ho)
          clear HO_8
          clear BK316
          clear BK335
          clear HB
          clear HO_7
          have HO_8 := n0_
          have BK316 := n1_
          have BK335 := n2_
          have HB := n3_
          have HO344 := n4_
          clear n0_ n1_ n2_ n3_ n4_
          clear ho hb hg hat
          refine hK.out _ _ (cb3 BK316 (cb2 BK335 (cx6 HB hw336_0 hw336_1 hw336_2 hw336_3 hw336_4 hw336_5 (ex6 HB hw337_0 hw337_1 hw337_2 hw337_3 hw337_4 hw337_5)))).out (fun hHeld => ?_)
          clear hK K
          refine norm_ (a' := ?_) ?_ ?_
          rotate_left
          ·show Act.put _ (some 71) _ = _
           simp only [Act.put, sA, sB, sC, i64_w, i32_w]
           rfl
          refine pu 17 (some 7) (bT 18 18) HT_ ?_
          refine done_ (done_of HT_.out (by kernel_rfl)) ?_
          try go_wp2
          go_roundg k3
          case measure => have := HK1.out; have := HJ10.out; have := HK3.out; omega
          case rel => exact ⟨(y342), (wrap64 (x10_3 + 1)), (by first | rfl | (simp; done) | (simp [*]; done)), H', ⟨by have := HK1.out; have := HJ10.out; have := HK3.out; omega⟩, ⟨by (with_reducible repeat (first | apply Kd.R_alloc | apply Kd.R_drewN | apply Kd.R_drew)); exact Kd.R_mono HO344.out (fun _ hk => hk.1)⟩, ⟨by (with_reducible repeat (first | apply Kd.R_alloc | apply Kd.R_drewN | apply Kd.R_drew)); exact Kd.R_mono HO_8.out (fun _ hk => hk.2)⟩, ⟨bkp BK316⟩, ⟨bbw2 HB GE316 GE335⟩⟩
         ·go_wp2
          go_roundg k3
          case measure => have := HK1.out; have := HJ10.out; have := HK3.out; omega
          case rel => exact ⟨(x7_3), (wrap64 (x9_1 + 1)), (by first | rfl | (simp; done) | (simp [*]; done)), H', ⟨by have := HK1.out; have := HJ10.out; have := HK3.out; omega⟩, ⟨by (with_reducible repeat (first | apply Kd.R_alloc | apply Kd.R_drewN | apply Kd.R_drew)); exact HO_7.out⟩, ⟨by (with_reducible repeat (first | apply Kd.R_alloc | apply Kd.R_drewN | apply Kd.R_drew)); exact HO_8.out⟩, ⟨bkp BK316⟩, ⟨bbw1 HB GE316⟩⟩
   ·rw [if_neg c10] at H
    have c10b0 := decide_eq_false c10
    clear c10
    obtain rfl := Option.some.inj H
    go_wp2
    go_ret
    exact ⟨_, by first | rfl | (simp [errW_none, errW_some] <;> rfl) | (simp [*, errW_none, errW_some] <;> rfl), by (with_reducible repeat (first | apply Kd.R_alloc | apply Kd.R_drewN | apply Kd.R_drew)); exact Kd.R_mono HO_7.out (fun _ hk => trivial), bbw1 HB GE316⟩
/-! ### spec_CountCentres: function 5 -/
def spec_CountCentres.f (k : Nat) (a0 : Int) (a1_0 : Int) (a1_1 : Int) (a1_2 : Int) (l2 : List (S44)) (a3 : Int) : Option (Int × Int) := (spec_l01Has.f k (([2, 3, 4, 6] : List Int)) a3).bind fun t349 => ((spec_l07Code.f k a0 a1_0 a1_1 a1_2 l2 t349).bind fun t350 => (if t350 = 0 then ((spec_l11Centres.f k a1_0 a1_1 a1_2 l2 a3).bind fun t351 => (some ((t351.length : Int), 0))) else (some (0, t350))))
def spec_CountCentres.T1 : Bool × List (List Nat × List Nat) := (true, [([], []), ([], []), ([], []), ([], []), ([], []), ([3, 4], [3, 4]), ([0, 1, 2, 5, 5], [0, 1, 2, 5]), ([6, 6, 0, 1, 2, 3, 4, 5, 6], [6])])
def spec_CountCentres.B1 : List Nat := [0, 0, 0, 0, 0, 24, 63, 127]
theorem spec_CountCentres.tab1 : rtab .any (opsOf Try.f5 1) = spec_CountCentres.T1 := by kernel_rfl
theorem spec_CountCentres.bits1 : waitsOk spec_CountCentres.T1.2 spec_CountCentres.B1 = true := by kernel_rfl
set_option maxHeartbeats 8000000 in
set_option maxRecDepth 100000 in
theorem spec_CountCentres.calls (k : Nat) (a0 : Int) (a1_0 : Int) (a1_1 : Int) (a1_2 : Int) (A2 : Option Addr) (c2 : Nat) (l2 : List (S44)) (a3 : Int) (r1 : Int) (r2 : Int) (w : World) (hr2 : Kd.C k44 w A2 l2.length l2) (hc2 : l2.length ≤ c2) (h : spec_CountCentres.f k a0 a1_0 a1_1 a1_2 l2 a3 = some (r1, r2)) :
  Calls Try.prog 5 #[.int .i64 a0, .agg #[.int .i64 a1_0, .int .i64 a1_1, .int .i64 a1_2], .slice A2 l2.length c2, .int .i64 a3] w fun e w' => e = .returned (.tuple #[.int .i64 r1, .int .i64 r2]) ∧ Below w.heap.size w w' := by
 have hu28 := Try.underlying28
 have HR2 := Aside0.mk hr2
 have HC2 := Aside0.mk hc2
 clear hr2 hc2
 have HB := asd (Below.refl w.heap.size w)
 have H : ((spec_l01Has.f k (([2, 3, 4, 6] : List Int)) a3).bind fun t349 => ((spec_l07Code.f k a0 a1_0 a1_1 a1_2 l2 t349).bind fun t350 => (if t350 = 0 then ((spec_l11Centres.f k a1_0 a1_1 a1_2 l2 a3).bind fun t351 => (some ((t351.length : Int), 0))) else (some (0, t350))))) = some (r1, r2) := h
 clear h
 obtain ⟨y346, hy346⟩ : ∃ y_ : List Int, y_ = (([2, 3, 4, 6] : List Int)) := ⟨_, rfl⟩
 replace H : ((spec_l01Has.f k y346 a3).bind fun t349 => ((spec_l07Code.f k a0 a1_0 a1_1 a1_2 l2 t349).bind fun t350 => (if t350 = 0 then ((spec_l11Centres.f k a1_0 a1_1 a1_2 l2 a3).bind fun t351 => (some ((t351.length : Int), 0))) else (some (0, t350))))) = some (r1, r2) := by first | (rw [hy346]; with_reducible exact H) | (have H2_ := (Option.bind_some _ _).symm.trans H; rw [hy346]; with_reducible exact H2_) | (have H2_ := (Option.bind_some _ _).symm.trans H; with_reducible exact H2_) | with_reducible exact H | (rw [hy346]; exact H) | exact H
 have Ny346 := Aside0.mk hy346
 clear hy346
 obtain ⟨t349, A5, H⟩ := ob H
 try dsimp only at H
 obtain ⟨t350, A6, H⟩ := ob H
 try dsimp only at H
 by_cases c7 : t350 = 0
 rw [if_pos c7] at H
 have c7b0 : (t350 == 0) = true := beq_iff_eq.mpr c7
 have c7b1 : (t350 != 0) = false := bne_eq_false_iff_eq.mpr c7
 clear c7
 obtain ⟨t351, A8, H⟩ := ob H
 try dsimp only at H
 rotate_left
 rw [if_neg c7] at H
 have c7b0 : (t350 == 0) = false := beq_eq_false_iff_ne.mpr c7
 have c7b1 : (t350 != 0) = true := bne_iff_ne.mpr c7
 rotate_left
 all_goals
  simp only [Option.some.injEq, Prod.mk.injEq] at H
  obtain ⟨rfl, rfl⟩ := H
  go_enter Try.func5, Try.ntmps5
  try go_wp2_with (first | ((with_reducible refine gd 5 rfl ?_); refine bx #[.int .i64 a1_0, .int .i64 a1_1, .int .i64 a1_2] 28 ?_; intro gb345 hg w9 BK345 hb; have GE345 := ngw0 hg HB; replace HB := bS0 HB hb; clear hb hg))
  replace BK345 := asd (blk_drew BK345.out)
  replace HB := asd (below_drew1 HB.out)
  refine sh 8 (eb3 BK345) (fun hHeld => ?_); refine with_tabW spec_CountCentres.tab1 spec_CountCentres.bits1 (fun HT_ HW_ => ?_)
  generalize w9.drew = w10 at BK345 HB hHeld ⊢
  refine pu 0 (some 11) (bT 8 1) HT_ ?_
  refine pu 2 (some 13) (bs 8 5) HT_ ?_
  refine pu 4 (some 15) (bs 8 21) HT_ ?_
  refine ta 1 (some 12) (bs 8 23) HT_ HW_ hHeld ?_
  refine ro 3 (some 14) (bT 8 5) HT_ (fun K hK => ?_)
  refine Kd.R_lit_step (Kd.int .i64) _ 2 ?hg (N := 14) ?hd (xs := ([2, 3, 4, 6] : List Int)) (inner := [.int .i64 2, .int .i64 3, .int .i64 4, .int .i64 6]) (ok := fun _ => True) (okp := fun _ => True) ?hr ?hp (fun _ hk => hk) trivial (Below.refl _ _) (Nat.le_refl _) (by simp) ?_; (case hd => rfl); (case hg => rfl); (case hr => first | (go_simp; done) | (go_simp; rfl)); (case hp => exact (Reps.one (show Kd.M (Kd.int .i64) _ _ _ 2 [.int .i64 2] from rfl) (Reps.one (show Kd.M (Kd.int .i64) _ _ _ 3 [.int .i64 3] from rfl) (Reps.one (show Kd.M (Kd.int .i64) _ _ _ 4 [.int .i64 4] from rfl) (Reps.one (show Kd.M (Kd.int .i64) _ _ _ 6 [.int .i64 6] from rfl) (Reps.none _ _))))))
  intro v347 w11 ho12 hb hg_ hnew_
  clear hg_ hnew_
  (first | rw [← Ny346.out] at ho12 | (simp only [Int.reduceToNat] at ho12; rw [← Ny346.out] at ho12))
  have HO348 := asd (Kd.R_lower ho12 (bsz1 HB GE345))
  replace BK345 := bB BK345 hb
  replace HB := bS1 HB GE345 hb
  clear hb ho12
  obtain ⟨Ao13, co13, eo13⟩ := Kd.R_slice HO348.out
  (first | subst eo13 | (injection eo13 with f1_ f2_ f3_; have f4_ := f1_.symm; have f5_ := f3_.symm; clear f1_ f2_ f3_; subst f4_; subst f5_))
  refine hK.out _ _ (eb3 BK345).out (fun hHeld => ?_)
  clear hK K
  refine norm_ (a' := ?_) ?_ ?_
  rotate_left
  ·show Act.put _ (some 14) _ = _
   simp only [Act.put, sA, sB, sC, i64_w, i32_w]
   rfl
  refine ro 5 (some 16) (bT 8 6) HT_ (fun K hK => ?_)
  refine gs Try.func11 #[.slice Ao13 y346.length co13, .int .i64 a3] ?_
  with_reducible refine (spec_l01Has.calls _ _ _ _ _ _ _ ?side1 ?side2 A5.out).mono ?_
  (case side1 => exact ks (Kd.R_reads' HO348.out).2.2)
  (case side2 => exact (Kd.R_reads' HO348.out).2.1)
  rintro e w' ⟨rfl, ⟨nd, rfl⟩⟩
  refine ⟨_, rfl, ?_⟩
  refine hK.out _ _ (eb3 BK345).out (fun hHeld => ?_)
  clear hK K
  refine norm_ (a' := ?_) ?_ ?_
  rotate_left
  ·show Act.put _ (some 16) _ = _
   simp only [Act.put, sA, sB, sC, i64_w, i32_w]
   rfl
  refine ro 6 (some 17) (bT 8 7) HT_ (fun K hK => ?_)
  refine gs Try.func10 #[.int .i64 a0, .agg #[.int .i64 a1_0, .int .i64 a1_1, .int .i64 a1_2], .slice A2 l2.length c2, .bool t349] ?_
  with_reducible refine (spec_l07Code.calls _ _ _ _ _ _ _ _ _ _ _ ?side1 ?side2 A6.out).mono ?_
  (case side1 => exact ks (Kd.C_below HR2.out (bbw1 HB GE345)))
  (case side2 => exact HC2.out)
  rintro e w14 ⟨rfl, hb⟩
  refine ⟨_, rfl, ?_⟩
  replace HO348 := asd (Kd.R_below (kr HO348) hb)
  replace BK345 := bB BK345 hb
  replace HB := bS1 HB GE345 hb
  (try clear hb)
  (try clear hb2)
  (try clear hk)
  (try clear hi)
  refine hK.out _ _ (eb3 BK345).out (fun hHeld => ?_)
  clear hK K
  refine norm_ (a' := ?_) ?_ ?_
  rotate_left
  ·show Act.put _ (some 17) _ = _
   simp only [Act.put, sA, sB, sC, i64_w, i32_w]
   rfl
  refine pu 7 (some 10) (bT 8 8) HT_ ?_
  refine done_ (done_of HT_.out (by kernel_rfl)) ?_
 ·obtain ⟨hcz15_0, hcz15_1, hcz15_2, hfz15_0, hfz15_1, hfz15_2⟩ := bz3 BK345
  try go_wp2_with (first | ((with_reducible refine gate_callee (f := 12) rfl ?_); refine gl 24 Try.func12 #[.agg #[.int .i64 a1_0, .int .i64 a1_1, .int .i64 a1_2], .slice A2 l2.length c2, .int .i64 a3] ?_; (with_reducible refine (spec_l11Centres.calls _ _ _ _ _ _ _ _ _ _ ?side1 ?side2 A8.out).mono ?_); (case side1 => exact ks (Kd.C_below HR2.out HB.out)); (case side2 => exact HC2.out); rintro e w16 ⟨v352, rfl, ho0, hb⟩; refine ⟨_, rfl, ?_⟩; replace HO348 := asd (Kd.R_below (kr HO348) hb); have HO353 := asd (Kd.R_lower ho0 (bsz1 HB GE345)); replace BK345 := bB BK345 hb; replace HB := bS1 HB GE345 hb; (try clear hb); (try clear hb2); (try clear hk); (try clear hi); (try clear ho0); obtain ⟨Ao17, co17, eo17⟩ := Kd.R_slice HO353.out; subst eo17))
  go_ret2
  exact er (bbw1 HB GE345)
 ·try go_wp2
  go_ret2
  exact er (bbw1 HB GE345)
/-! ### laws_toLattice: function 6 -/
def laws_toLattice.f (a0_0 : Int) (a0_1 : Int) (a0_2 : Int) : Option (Int × Int × Int) := some (a0_0, a0_1, a0_2)
set_option maxHeartbeats 8000000 in
set_option maxRecDepth 100000 in
theorem laws_toLattice.calls (a0_0 : Int) (a0_1 : Int) (a0_2 : Int) (r1 : Int) (r2 : Int) (r3 : Int) (w : World) (h : laws_toLattice.f a0_0 a0_1 a0_2 = some (r1, r2, r3)) :
  Calls Try.prog 6 #[.agg #[.int .i64 a0_0, .int .i64 a0_1, .int .i64 a0_2]] w fun e w' => e = .returned (.agg #[.int .i64 r1, .int .i64 r2, .int .i64 r3]) ∧ Below w.heap.size w w' := by
 have hu23 := Try.underlying23
 have hu28 := Try.underlying28
 have HB := asd (Below.refl w.heap.size w)
 have H : (some (a0_0, a0_1, a0_2)) = some (r1, r2, r3) := h
 clear h
 simp only [Option.some.injEq, Prod.mk.injEq] at H
 obtain ⟨rfl, rfl, rfl⟩ := H
 go_enter Try.func6, Try.ntmps6
 go_wp2_with (first | ((with_reducible refine gd 1 rfl ?_); refine bx #[.int .i64 a0_0, .int .i64 a0_1, .int .i64 a0_2] 23 ?_; intro gb354 hg w2 BK354 hb; have GE354 := ngw0 hg HB; replace HB := bS0 HB hb; clear hb hg) | ((with_reducible refine gd 2 rfl ?_); refine bx #[.int .i64 0, .int .i64 0, .int .i64 0] 28 ?_; intro gb355 hg w3 BK355 hb; have GE355 := ngw1 hg HB GE354; replace HB := bS1 HB GE354 hb; have NB354_355 := nlt hg BK354; have NB355_354 := nsy (nlt hg BK354); replace BK354 := bB BK354 hb; clear hb hg) | ((with_reducible refine gd 3 rfl ?_); refine bx #[.int .i64 0, .int .i64 0, .int .i64 0] 28 ?_; intro gb356 hg w4 BK356 hb; have GE356 := ngw2 hg HB GE354 GE355; replace HB := bS2 HB GE354 GE355 hb; have NB354_356 := nlt hg BK354; have NB356_354 := nsy (nlt hg BK354); replace BK354 := bB BK354 hb; have NB355_356 := nlt hg BK355; have NB356_355 := nsy (nlt hg BK355); replace BK355 := bB BK355 hb; clear hb hg; have hnb5 := NB354_355.out; have hnc5 := NB355_354.out; have hnb6 := NB354_356.out; have hnc6 := NB356_354.out; obtain ⟨hcz7_0, hcz7_1, hcz7_2, hfz7_0, hfz7_1, hfz7_2⟩ := bz3 BK354; have hnb8 := NB356_355.out; have hnc8 := NB355_356.out; obtain ⟨hcz9_0, hcz9_1, hcz9_2, hfz9_0, hfz9_1, hfz9_2⟩ := bz3 BK356; obtain ⟨hcz10_0, hcz10_1, hcz10_2, hfz10_0, hfz10_1, hfz10_2⟩ := bz3 BK355))
 refine bodyPost_ret (results_cell_row rfl _ _ gb355 28 #[.int .i64 a0_0, .int .i64 a0_1, .int .i64 a0_2] (0, 0) _ rfl (bq1 BK355 NB355_356) Try.underlying28 rfl (by kernel_rfl)) rfl ?_
 exact er (bbw3 HB GE354 GE355 GE356)
/-! ### laws_toMat: function 32 -/
def laws_toMat.f (a0_0 : Int) (a0_1 : Int) (a0_2 : Int) (a0_3 : Int) : Option (Int × Int × Int × Int) := some (a0_0, a0_1, a0_2, a0_3)
set_option maxHeartbeats 8000000 in
set_option maxRecDepth 100000 in
theorem laws_toMat.calls (a0_0 : Int) (a0_1 : Int) (a0_2 : Int) (a0_3 : Int) (r1 : Int) (r2 : Int) (r3 : Int) (r4 : Int) (w : World) (h : laws_toMat.f a0_0 a0_1 a0_2 a0_3 = some (r1, r2, r3, r4)) :
  Calls Try.prog 32 #[.agg #[.int .i64 a0_0, .int .i64 a0_1, .int .i64 a0_2, .int .i64 a0_3]] w fun e w' => e = .returned (.agg #[.int .i64 r1, .int .i64 r2, .int .i64 r3, .int .i64 r4]) ∧ Below w.heap.size w w' := by
 have hu46 := Try.underlying46
 have hu40 := Try.underlying40
 have HB := asd (Below.refl w.heap.size w)
 have H : (some (a0_0, a0_1, a0_2, a0_3)) = some (r1, r2, r3, r4) := h
 clear h
 simp only [Option.some.injEq, Prod.mk.injEq] at H
 obtain ⟨rfl, rfl, rfl, rfl⟩ := H
 go_enter Try.func32, Try.ntmps32
 go_wp2_with (first | ((with_reducible refine gd 1 rfl ?_); refine bx #[.int .i64 a0_0, .int .i64 a0_1, .int .i64 a0_2, .int .i64 a0_3] 46 ?_; intro gb357 hg w2 BK357 hb; have GE357 := ngw0 hg HB; replace HB := bS0 HB hb; clear hb hg) | ((with_reducible refine gd 2 rfl ?_); refine bx #[.int .i64 0, .int .i64 0, .int .i64 0, .int .i64 0] 40 ?_; intro gb358 hg w3 BK358 hb; have GE358 := ngw1 hg HB GE357; replace HB := bS1 HB GE357 hb; have NB357_358 := nlt hg BK357; have NB358_357 := nsy (nlt hg BK357); replace BK357 := bB BK357 hb; clear hb hg) | ((with_reducible refine gd 3 rfl ?_); refine bx #[.int .i64 0, .int .i64 0, .int .i64 0, .int .i64 0] 40 ?_; intro gb359 hg w4 BK359 hb; have GE359 := ngw2 hg HB GE357 GE358; replace HB := bS2 HB GE357 GE358 hb; have NB357_359 := nlt hg BK357; have NB359_357 := nsy (nlt hg BK357); replace BK357 := bB BK357 hb; have NB358_359 := nlt hg BK358; have NB359_358 := nsy (nlt hg BK358); replace BK358 := bB BK358 hb; clear hb hg; have hnb5 := NB357_358.out; have hnc5 := NB358_357.out; have hnb6 := NB357_359.out; have hnc6 := NB359_357.out; obtain ⟨hcz7_0, hcz7_1, hcz7_2, hcz7_3, hfz7_0, hfz7_1, hfz7_2, hfz7_3⟩ := bz4 BK357; have hnb8 := NB359_358.out; have hnc8 := NB358_359.out; obtain ⟨hcz9_0, hcz9_1, hcz9_2, hcz9_3, hfz9_0, hfz9_1, hfz9_2, hfz9_3⟩ := bz4 BK359; obtain ⟨hcz10_0, hcz10_1, hcz10_2, hcz10_3, hfz10_0, hfz10_1, hfz10_2, hfz10_3⟩ := bz4 BK358))
 refine bodyPost_ret (results_cell_row rfl _ _ gb358 40 #[.int .i64 a0_0, .int .i64 a0_1, .int .i64 a0_2, .int .i64 a0_3] (0, 0) _ rfl (bq1 BK358 NB358_359) Try.underlying40 rfl (by kernel_rfl)) rfl ?_
 exact er (bbw3 HB GE357 GE358 GE359)
/-! ### laws_toVec: function 33 -/
def laws_toVec.f (a0_0 : Int) (a0_1 : Int) : Option (Int × Int) := some (a0_0, a0_1)
set_option maxHeartbeats 8000000 in
set_option maxRecDepth 100000 in
theorem laws_toVec.calls (a0_0 : Int) (a0_1 : Int) (r1 : Int) (r2 : Int) (w : World) (h : laws_toVec.f a0_0 a0_1 = some (r1, r2)) :
  Calls Try.prog 33 #[.agg #[.int .i64 a0_0, .int .i64 a0_1]] w fun e w' => e = .returned (.agg #[.int .i64 r1, .int .i64 r2]) ∧ Below w.heap.size w w' := by
 have hu47 := Try.underlying47
 have hu42 := Try.underlying42
 have HB := asd (Below.refl w.heap.size w)
 have H : (some (a0_0, a0_1)) = some (r1, r2) := h
 clear h
 simp only [Option.some.injEq, Prod.mk.injEq] at H
 obtain ⟨rfl, rfl⟩ := H
 go_enter Try.func33, Try.ntmps33
 go_wp2_with (first | ((with_reducible refine gd 1 rfl ?_); refine bx #[.int .i64 a0_0, .int .i64 a0_1] 47 ?_; intro gb360 hg w2 BK360 hb; have GE360 := ngw0 hg HB; replace HB := bS0 HB hb; clear hb hg) | ((with_reducible refine gd 2 rfl ?_); refine bx #[.int .i64 0, .int .i64 0] 42 ?_; intro gb361 hg w3 BK361 hb; have GE361 := ngw1 hg HB GE360; replace HB := bS1 HB GE360 hb; have NB360_361 := nlt hg BK360; have NB361_360 := nsy (nlt hg BK360); replace BK360 := bB BK360 hb; clear hb hg) | ((with_reducible refine gd 3 rfl ?_); refine bx #[.int .i64 0, .int .i64 0] 42 ?_; intro gb362 hg w4 BK362 hb; have GE362 := ngw2 hg HB GE360 GE361; replace HB := bS2 HB GE360 GE361 hb; have NB360_362 := nlt hg BK360; have NB362_360 := nsy (nlt hg BK360); replace BK360 := bB BK360 hb; have NB361_362 := nlt hg BK361; have NB362_361 := nsy (nlt hg BK361); replace BK361 := bB BK361 hb; clear hb hg; have hnb5 := NB360_361.out; have hnc5 := NB361_360.out; have hnb6 := NB360_362.out; have hnc6 := NB362_360.out; obtain ⟨hcz7_0, hcz7_1, hfz7_0, hfz7_1⟩ := bz2 BK360; have hnb8 := NB362_361.out; have hnc8 := NB361_362.out; obtain ⟨hcz9_0, hcz9_1, hfz9_0, hfz9_1⟩ := bz2 BK362; obtain ⟨hcz10_0, hcz10_1, hfz10_0, hfz10_1⟩ := bz2 BK361))
 refine bodyPost_ret (results_cell_row rfl _ _ gb361 42 #[.int .i64 a0_0, .int .i64 a0_1] (0, 0) _ rfl (bq1 BK361 NB361_362) Try.underlying42 rfl (by kernel_rfl)) rfl ?_
 exact er (bbw3 HB GE360 GE361 GE362)

end Go.Proofs.Ytfmjboloeabjmaa.PA
