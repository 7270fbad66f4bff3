import Derived.Test.YtdodghjnlekgeaaGreatPAx0
import Derived.Test.YtdodghjnlekgeaaGreatPAx4
import Derived.Test.YtdodghjnlekgeaaGreatPAx7
import Derived.Test.YtdodghjnlekgeaaGreatPAx8
import Derived.Test.YtdodghjnlekgeaaGreatPAx12
import Derived.Test.YtdodghjnlekgeaaGreatPAx15
import Derived.Test.YtdodghjnlekgeaaGreatPAx19
namespace Go.Proofs.YtdodghjnlekgeaaGreat.PA
open Go.RowKit Go.Proofs.YtdodghjnlekgeaaGreatW.PrintWords Go.Proofs.YtdodghjnlekgeaaGreatW.PrintLast Go.Proofs.YtdodghjnlekgeaaGreatW.PrintMore
attribute [local go_sem] max2_int min2_int max_two min_two max_three min_three max_four min_four   -- for this text's walks alone
set_option linter.unusedVariables false
set_option maxHeartbeats 8000000
set_option maxRecDepth 100000
set_option linter.unusedSimpArgs false
def spec_CyclicOf.f (k : Nat) (a0 : Int) (a1_0 : Int) (a1_1 : Int) (a1_2 : Int) (l2 : List (S48)) (a3_0 : Int) (a3_1 : Int) (a3_2 : Int) (a3_3 : Int) (a3_4 : Int) (a3_5 : Int) : Option ((List (S48)) × Int) := (spec_l06Has.f k l2 a3_0 a3_1 a3_2 a3_3 a3_4 a3_5).bind fun t396 => ((spec_l07Code.f k a0 a1_0 a1_1 a1_2 l2 t396).bind fun t397 => (if t397 = 0 then ((spec_l15One.f k a0 a1_0 a1_1 a1_2 l2).bind fun t398 => (if t398 = 0 then ((spec_l06Close.f k a1_0 a1_1 a1_2 (([(⟨(⟨a3_0, a3_1, a3_2, a3_3⟩ : S46), (⟨a3_4, a3_5⟩ : S38)⟩ : S48)] : List (S48)))).bind fun t402 => (some (t402, 0))) else (some (([] : List (S48)), t398)))) else (some (([] : List (S48)), t397))))
def spec_CyclicOf.T1 : Bool × List (List Nat × List Nat) := (true, [([], []), ([], []), ([], []), ([], []), ([], []), ([3, 4], [3, 4]), ([0, 1, 2, 5, 5], [0, 1, 2, 5]), ([6, 6, 0, 1, 2, 3, 4, 5, 6], [6])])
def spec_CyclicOf.B1 : List Nat := [0, 0, 0, 0, 0, 24, 63, 127]
theorem spec_CyclicOf.tab1 : rtab .any (opsOf Tryz.f19 1) = spec_CyclicOf.T1 := by kernel_rfl
theorem spec_CyclicOf.bits1 : waitsOk spec_CyclicOf.T1.2 spec_CyclicOf.B1 = true := by kernel_rfl
theorem spec_CyclicOf.calls (k : Nat) (a0 : Int) (a1_0 : Int) (a1_1 : Int) (a1_2 : Int) (A2 : Option Addr) (c2 : Nat) (l2 : List (S48)) (a3_0 : Int) (a3_1 : Int) (a3_2 : Int) (a3_3 : Int) (a3_4 : Int) (a3_5 : Int) (r1 : List (S48)) (r2 : Int) (w : World) (hr2 : Kd.C k48 w A2 l2.length l2) (hc2 : l2.length ≤ c2) (h : spec_CyclicOf.f k a0 a1_0 a1_1 a1_2 l2 a3_0 a3_1 a3_2 a3_3 a3_4 a3_5 = some (r1, r2)) :
  Calls Tryz.prog 19 #[.int .i64 a0, .agg #[.int .i64 a1_0, .int .i64 a1_1, .int .i64 a1_2], .slice A2 l2.length c2, .agg #[.int .i64 a3_0, .int .i64 a3_1, .int .i64 a3_2, .int .i64 a3_3, .int .i64 a3_4, .int .i64 a3_5]] w fun e w' => ∃ v0_ : Value, e = .returned (.tuple #[v0_, .int .i64 r2]) ∧ Kd.R k48 48 w' w.heap.size (fun _ => True) v0_ r1 ∧ Below w.heap.size w w' := by
 have hu29 := Tryz.underlying29
 have hu48 := Tryz.underlying48
 have HR2 := Aside0.mk hr2
 have HC2 := Aside0.mk hc2
 clear hr2 hc2
 have HB := asd (Below.refl w.heap.size w)
 have H : ((spec_l06Has.f k l2 a3_0 a3_1 a3_2 a3_3 a3_4 a3_5).bind fun t396 => ((spec_l07Code.f k a0 a1_0 a1_1 a1_2 l2 t396).bind fun t397 => (if t397 = 0 then ((spec_l15One.f k a0 a1_0 a1_1 a1_2 l2).bind fun t398 => (if t398 = 0 then ((spec_l06Close.f k a1_0 a1_1 a1_2 (([(⟨(⟨a3_0, a3_1, a3_2, a3_3⟩ : S46), (⟨a3_4, a3_5⟩ : S38)⟩ : S48)] : List (S48)))).bind fun t402 => (some (t402, 0))) else (some (([] : List (S48)), t398)))) else (some (([] : List (S48)), t397))))) = some (r1, r2) := h
 clear h
 obtain ⟨t396, A5, H⟩ := ob H
 try dsimp only at H
 obtain ⟨t397, A6, H⟩ := ob H
 try dsimp only at H
 by_cases c7 : t397 = 0
 rw [if_pos c7] at H
 have c7b0 : (t397 == 0) = true := beq_iff_eq.mpr c7
 have c7b1 : (t397 != 0) = false := bne_eq_false_iff_eq.mpr c7
 clear c7
 obtain ⟨t398, A8, H⟩ := ob H
 try dsimp only at H
 by_cases c9 : t398 = 0
 rw [if_pos c9] at H
 have c9b0 : (t398 == 0) = true := beq_iff_eq.mpr c9
 have c9b1 : (t398 != 0) = false := bne_eq_false_iff_eq.mpr c9
 clear c9
 obtain ⟨y399, hy399⟩ : ∃ y_ : List (S48), y_ = (([(⟨(⟨a3_0, a3_1, a3_2, a3_3⟩ : S46), (⟨a3_4, a3_5⟩ : S38)⟩ : S48)] : List (S48))) := ⟨_, rfl⟩
 replace H : ((spec_l06Close.f k a1_0 a1_1 a1_2 y399).bind fun t402 => (some (t402, 0))) = some (r1, r2) := by first | (rw [hy399]; with_reducible exact H) | (have H2_ := (Option.bind_some _ _).symm.trans H; rw [hy399]; with_reducible exact H2_) | (have H2_ := (Option.bind_some _ _).symm.trans H; with_reducible exact H2_) | with_reducible exact H | (rw [hy399]; exact H) | exact H
 have Ny399 := Aside0.mk hy399
 clear hy399
 obtain ⟨t402, A10, H⟩ := ob H
 try dsimp only at H
 rotate_left
 rw [if_neg c9] at H
 have c9b0 : (t398 == 0) = false := beq_eq_false_iff_ne.mpr c9
 have c9b1 : (t398 != 0) = true := bne_iff_ne.mpr c9
 rotate_left
 rw [if_neg c7] at H
 have c7b0 : (t397 == 0) = false := beq_eq_false_iff_ne.mpr c7
 have c7b1 : (t397 != 0) = true := bne_iff_ne.mpr c7
 rotate_left
 all_goals
  simp only [Option.some.injEq, Prod.mk.injEq] at H
  obtain ⟨rfl, rfl⟩ := H
  go_enter Tryz.func19, Tryz.ntmps19
  try go_wp2_with (first | ((with_reducible refine gd 5 rfl ?_); refine bx #[.int .i64 a1_0, .int .i64 a1_1, .int .i64 a1_2] 29 ?_; intro gb394 hg w11 BK394 hb; have GE394 := ngw0 hg HB; replace HB := bS0 HB hb; clear hb hg) | ((with_reducible refine gd 7 rfl ?_); refine bx #[.int .i64 a3_0, .int .i64 a3_1, .int .i64 a3_2, .int .i64 a3_3, .int .i64 a3_4, .int .i64 a3_5] 48 ?_; intro gb395 hg w12 BK395 hb; have GE395 := ngw1 hg HB GE394; replace HB := bS1 HB GE394 hb; have NB394_395 := nlt hg BK394; have NB395_394 := nsy (nlt hg BK394); replace BK394 := bB BK394 hb; clear hb hg))
  replace BK394 := asd (blk_drew BK394.out)
  replace BK395 := asd (blk_drew BK395.out)
  replace HB := asd (below_drew1 HB.out)
  refine sh 8 (cb3 BK394 (eb6 BK395)) (fun hHeld => ?_); refine with_tabW spec_CyclicOf.tab1 spec_CyclicOf.bits1 (fun HT_ HW_ => ?_)
  generalize w12.drew = w13 at BK394 BK395 HB hHeld ⊢
  refine pu 0 (some 11) (bT 8 1) HT_ ?_
  refine pu 2 (some 13) (bs 8 5) HT_ ?_
  refine pu 3 (some 14) (bs 8 13) HT_ ?_
  refine ta 1 (some 12) (bT 8 4) HT_ HW_ hHeld ?_
  refine ta 4 (some 15) (bT 8 5) HT_ HW_ hHeld ?_
  refine ro 5 (some 16) (bT 8 6) HT_ (fun K hK => ?_)
  refine gs Tryz.func49 #[.slice A2 l2.length c2, .agg #[.int .i64 a3_0, .int .i64 a3_1, .int .i64 a3_2, .int .i64 a3_3, .int .i64 a3_4, .int .i64 a3_5]] ?_
  with_reducible refine (spec_l06Has.calls _ _ _ _ _ _ _ _ _ _ _ _ ?side1 ?side2 A5.out).mono ?_
  (case side1 => exact ks (Kd.C_below HR2.out HB.out))
  (case side2 => exact HC2.out)
  rintro e w14 ⟨rfl, hb⟩
  refine ⟨_, rfl, ?_⟩
  replace BK394 := bB BK394 hb
  replace BK395 := bB BK395 hb
  replace HB := bS2 HB GE394 GE395 hb
  (try clear hb)
  (try clear hb2)
  (try clear hk)
  (try clear hi)
  refine hK.out _ _ (cb3 BK394 (eb6 BK395)).out (fun hHeld => ?_)
  clear hK K
  refine norm_ (a' := ?_) ?_ ?_
  rotate_left
  ·show Act.put _ (some 16) _ = _
   simp only [Act.put, sA, sB, sC, i64_w, i32_w]
   rfl
  refine ro 6 (some 17) (bT 8 7) HT_ (fun K hK => ?_)
  refine gs Tryz.func48 #[.int .i64 a0, .agg #[.int .i64 a1_0, .int .i64 a1_1, .int .i64 a1_2], .slice A2 l2.length c2, .bool t396] ?_
  with_reducible refine (spec_l07Code.calls _ _ _ _ _ _ _ _ _ _ _ ?side1 ?side2 A6.out).mono ?_
  (case side1 => exact ks (Kd.C_below HR2.out HB.out))
  (case side2 => exact HC2.out)
  rintro e w15 ⟨rfl, hb⟩
  refine ⟨_, rfl, ?_⟩
  replace BK394 := bB BK394 hb
  replace BK395 := bB BK395 hb
  replace HB := bS2 HB GE394 GE395 hb
  (try clear hb)
  (try clear hb2)
  (try clear hk)
  (try clear hi)
  refine hK.out _ _ (cb3 BK394 (eb6 BK395)).out (fun hHeld => ?_)
  clear hK K
  refine norm_ (a' := ?_) ?_ ?_
  rotate_left
  ·show Act.put _ (some 17) _ = _
   simp only [Act.put, sA, sB, sC, i64_w, i32_w]
   rfl
  refine pu 7 (some 10) (bT 8 8) HT_ ?_
  refine done_ (done_of HT_.out (by kernel_rfl)) ?_
 ·have hnb16 := NB394_395.out
  have hnc16 := NB395_394.out
  obtain ⟨hcz17_0, hcz17_1, hcz17_2, hfz17_0, hfz17_1, hfz17_2⟩ := bz3 BK394
  try go_wp2_with (first | ((with_reducible refine gate_callee (f := 50) rfl ?_); refine gl 23 Tryz.func50 #[.int .i64 a0, .agg #[.int .i64 a1_0, .int .i64 a1_1, .int .i64 a1_2], .slice A2 l2.length c2] ?_; (with_reducible refine (spec_l15One.calls _ _ _ _ _ _ _ _ _ _ ?side1 ?side2 A8.out).mono ?_); (case side1 => exact ks (Kd.C_below HR2.out HB.out)); (case side2 => exact HC2.out); rintro e w18 ⟨rfl, hb⟩; refine ⟨_, rfl, ?_⟩; replace BK394 := bB BK394 hb; replace BK395 := bB BK395 hb; replace HB := bS2 HB GE394 GE395 hb; (try clear hb); obtain ⟨hcz19_0, hcz19_1, hcz19_2, hfz19_0, hfz19_1, hfz19_2⟩ := bz3 BK394; obtain ⟨hcz20_0, hcz20_1, hcz20_2, hcz20_3, hcz20_4, hcz20_5, hfz20_0, hfz20_1, hfz20_2, hfz20_3, hfz20_4, hfz20_5⟩ := bz6 BK395) | ((with_reducible refine gd 29 rfl ?_); refine Kd.R_lit k48 _ 48 ?hg (N := 29) ?hd (xs := ([(⟨(⟨a3_0, a3_1, a3_2, a3_3⟩ : S46), (⟨a3_4, a3_5⟩ : S38)⟩ : S48)] : List (S48))) (inner := [.int .i64 a3_0, .int .i64 a3_1, .int .i64 a3_2, .int .i64 a3_3, .int .i64 a3_4, .int .i64 a3_5]) (ok := fun _ => True) (okp := fun _ => True) ?hr ?hp (fun _ hk => hk) trivial (Below.refl _ _) (Nat.le_refl _) (by simp) ?_; (case hd => rfl); (case hg => rfl); (case hr => first | (go_simp; done) | (go_simp; rfl)); (case hp => exact (Reps.c6 (show Kd.M k48 _ _ _ (⟨(⟨a3_0, a3_1, a3_2, a3_3⟩ : S46), (⟨a3_4, a3_5⟩ : S38)⟩ : S48) [.int .i64 a3_0, .int .i64 a3_1, .int .i64 a3_2, .int .i64 a3_3, .int .i64 a3_4, .int .i64 a3_5] from (k48_mkM _ _ _ (⟨(⟨a3_0, a3_1, a3_2, a3_3⟩ : S46), (⟨a3_4, a3_5⟩ : S38)⟩ : S48) )) (Reps.none _ _))); intro v400 w21 ho22 hb hg_ hnew_; clear hg_ hnew_; (first | rw [← Ny399.out] at ho22 | (simp only [Int.reduceToNat] at ho22; rw [← Ny399.out] at ho22)); have HO401 := asd (Kd.R_lower (Kd.R_newB ho22 (g := gb395) (o := .cells #[.int .i64 a3_0, .int .i64 a3_1, .int .i64 a3_2, .int .i64 a3_3, .int .i64 a3_4, .int .i64 a3_5] 48 (0, 0)) (bkp BK395)) (bsz2 HB GE394 GE395)); replace BK394 := bB BK394 hb; replace BK395 := bB BK395 hb; replace HB := bS2 HB GE394 GE395 hb; clear hb ho22; obtain ⟨Ao23, co23, eo23⟩ := Kd.R_slice HO401.out; subst eo23) | ((with_reducible refine gate_callee (f := 32) rfl ?_); refine gl 30 Tryz.func32 #[.agg #[.int .i64 a1_0, .int .i64 a1_1, .int .i64 a1_2], .slice Ao23 y399.length co23] ?_; (with_reducible refine (spec_l06Close.calls _ _ _ _ _ _ _ _ _ ?side1 ?side2 A10.out).mono ?_); (case side1 => exact ks (Kd.R_reads' HO401.out).2.2); (case side2 => exact (Kd.R_reads' HO401.out).2.1); rintro e w24 ⟨v403, rfl, ho0, hb⟩; refine ⟨_, rfl, ?_⟩; have HO404 := asd (Kd.R_lower (Kd.R_newB (Kd.R_new' ho0 (Kd.R_lt (kr HO401))) (g := gb395) (o := .cells #[.int .i64 a3_0, .int .i64 a3_1, .int .i64 a3_2, .int .i64 a3_3, .int .i64 a3_4, .int .i64 a3_5] 48 (0, 0)) (bkp BK395)) (bsz2 HB GE394 GE395)); replace HO401 := asd (Kd.R_elder' (kr HO401) (Kd.R_base ho0) hb); replace BK394 := bB BK394 hb; replace BK395 := bB BK395 hb; replace HB := bS2 HB GE394 GE395 hb; (try clear hb); (try clear hb2); (try clear hk); (try clear hi); (try clear ho0)))
  go_ret2
  exact ⟨_, by first | rfl | (simp [errW_none, errW_some] <;> rfl) | (simp [*, errW_none, errW_some] <;> rfl), by (with_reducible repeat (first | apply Kd.R_alloc | apply Kd.R_drewN | apply Kd.R_drew)); exact Kd.R_mono HO404.out (fun _ hk => trivial), bbw2 HB GE394 GE395⟩
 have hnb30 := NB394_395.out
 have hnc30 := NB395_394.out
 obtain ⟨hcz31_0, hcz31_1, hcz31_2, hfz31_0, hfz31_1, hfz31_2⟩ := bz3 BK394
 try go_wp2_with (first | ((with_reducible refine gate_callee (f := 50) rfl ?_); refine gl 23 Tryz.func50 #[.int .i64 a0, .agg #[.int .i64 a1_0, .int .i64 a1_1, .int .i64 a1_2], .slice A2 l2.length c2] ?_; (with_reducible refine (spec_l15One.calls _ _ _ _ _ _ _ _ _ _ ?side1 ?side2 A8.out).mono ?_); (case side1 => exact ks (Kd.C_below HR2.out HB.out)); (case side2 => exact HC2.out); rintro e w32 ⟨rfl, hb⟩; refine ⟨_, rfl, ?_⟩; replace BK394 := bB BK394 hb; replace BK395 := bB BK395 hb; replace HB := bS2 HB GE394 GE395 hb; (try clear hb)))
 rotate_left
 try go_wp2
 rotate_left
 all_goals
  go_ret2
  exact ⟨_, by first | rfl | (simp [errW_none, errW_some] <;> rfl) | (simp [*, errW_none, errW_some] <;> rfl), by first | exact Kd.R_nil _ _ _ _ _ | exact Kd.N_nil _ _ _ _ _ | exact Kd.V_nil _ _ _ _ _ | exact Kd.Q_nil _ _ _ _ _ | exact Kd.S_nil _ _ _ _ _, bbw2 HB GE394 GE395⟩
attribute [local go_sem high] eqA48
def impl_Motion_86.l0 : Nat → List (S48) → Int → Int → Int → Int → Int → Int → Int → Int → Option (Int)
 | 0, _, _, _, _, _, _, _, _, _ => none
 | k + 1, x0, x7, x8, x596000, x596001, x596002, x596003, x596004, x596005 => if x8 < x7 then (if 0 ≤ x8 then (if x8 < (x0.length : Int) then (if ((x596000 == ((rd_T48 x0 x8).f0.f0) && (x596001 == ((rd_T48 x0 x8).f0.f1) && (x596002 == ((rd_T48 x0 x8).f0.f2) && (x596003 == ((rd_T48 x0 x8).f0.f3))))) && ((x596004 == ((rd_T48 x0 x8).f1.f0) && (x596005 == ((rd_T48 x0 x8).f1.f1))))) = true then (some x8) else (impl_Motion_86.l0 k x0 x7 (wrap64 (x8 + 1)) x596000 x596001 x596002 x596003 x596004 x596005)) else (none)) else (none)) else (some (-1))
def impl_Motion_86.f (k : Nat) (l0 : List (S48)) (a1_0 : Int) (a1_1 : Int) (a1_2 : Int) (a1_3 : Int) (a1_4 : Int) (a1_5 : Int) : Option (Int) := impl_Motion_86.l0 k l0 (l0.length : Int) 0 a1_0 a1_1 a1_2 a1_3 a1_4 a1_5
theorem impl_Motion_86.calls (k : Nat) (A0 : Option Addr) (c0 : Nat) (l0 : List (S48)) (a1_0 : Int) (a1_1 : Int) (a1_2 : Int) (a1_3 : Int) (a1_4 : Int) (a1_5 : Int) (r : Int) (w : World) (hr0 : Kd.C k48 w A0 l0.length l0) (hc0 : l0.length ≤ c0) (h : impl_Motion_86.f k l0 a1_0 a1_1 a1_2 a1_3 a1_4 a1_5 = some r) :
  Calls Tryz.prog 86 #[.slice A0 l0.length c0, .agg #[.int .i64 a1_0, .int .i64 a1_1, .int .i64 a1_2, .int .i64 a1_3, .int .i64 a1_4, .int .i64 a1_5]] w fun e w' => e = .returned (.int .i64 r) ∧ Below w.heap.size w w' := by
 have hu48 := Tryz.underlying48
 have HR0 := Aside0.mk hr0
 have HC0 := Aside0.mk hc0
 clear hr0 hc0
 have HB := asd (Below.refl w.heap.size w)
 have H : (impl_Motion_86.l0 k l0 (l0.length : Int) 0 a1_0 a1_1 a1_2 a1_3 a1_4 a1_5) = some r := h
 clear h
 have H' := Aside0.mk H
 clear H
 go_enter Tryz.func86, Tryz.ntmps86
 go_wp2_with (first | ((with_reducible refine gd 3 rfl ?_); refine bx #[.int .i64 a1_0, .int .i64 a1_1, .int .i64 a1_2, .int .i64 a1_3, .int .i64 a1_4, .int .i64 a1_5] 48 ?_; intro gb595 hg w3 BK595 hb; have GE595 := ngw0 hg HB; replace HB := bS0 HB hb; clear hb hg))
 repeat (go_quiet (first | ((with_reducible refine gd 3 rfl ?_); refine bx #[.int .i64 a1_0, .int .i64 a1_1, .int .i64 a1_2, .int .i64 a1_3, .int .i64 a1_4, .int .i64 a1_5] 48 ?_; intro gb595 hg w3 BK595 hb; have GE595 := ngw0 hg HB; replace HB := bS0 HB hb; clear hb hg)); try go_wp2_with (first | ((with_reducible refine gd 3 rfl ?_); refine bx #[.int .i64 a1_0, .int .i64 a1_1, .int .i64 a1_2, .int .i64 a1_3, .int .i64 a1_4, .int .i64 a1_5] 48 ?_; intro gb595 hg w3 BK595 hb; have GE595 := ngw0 hg HB; replace HB := bS0 HB hb; clear hb hg)))
 go_loopg [8] k (fun kq v8 w' => ∃ (x8_1 : Int), v8 = .int .i64 x8_1 ∧ Aside0 (impl_Motion_86.l0 kq l0 (l0.length : Int) x8_1 a1_0 a1_1 a1_2 a1_3 a1_4 a1_5 = some r) ∧ Aside0 (kq ≤ k) ∧ Aside0 (w'.heap[gb595]? = some (.cells #[.int .i64 a1_0, .int .i64 a1_1, .int .i64 a1_2, .int .i64 a1_3, .int .i64 a1_4, .int .i64 a1_5] 48 (0, 0))) ∧ Aside0 (Below w.heap.size w w'))
 case atStart => exact ⟨(0), (by first | rfl | (simp; done) | (simp [*]; done)), H', ⟨Nat.le_refl _⟩, ⟨bkp BK595⟩, ⟨bbw1 HB GE595⟩⟩
 case round =>
  clear H'
  try clear p2
  obtain ⟨x8_1, rfl, HA, HK1, BK595, HB⟩ := hrel
  cases gk with
  | zero => exact absurd HA.out (by simp [impl_Motion_86.l0])
  | succ k1 =>
   have H := HA.out
   clear HA
   simp only [impl_Motion_86.l0] at H
   by_cases c4 : x8_1 < (l0.length : Int)
   rw [if_pos c4] at H
   have c4b0 := decide_eq_true c4
   clear c4
   by_cases c5 : 0 ≤ x8_1
   rw [if_pos c5] at H
   have c5b0 := decide_eq_true c5
   clear c5
   by_cases c6 : x8_1 < (l0.length : Int)
   rw [if_pos c6] at H
   have c6b0 := decide_eq_true c6
   clear c6
   by_cases c7 : ((a1_0 == ((rd_T48 l0 x8_1).f0.f0) && (a1_1 == ((rd_T48 l0 x8_1).f0.f1) && (a1_2 == ((rd_T48 l0 x8_1).f0.f2) && (a1_3 == ((rd_T48 l0 x8_1).f0.f3))))) && ((a1_4 == ((rd_T48 l0 x8_1).f1.f0) && (a1_5 == ((rd_T48 l0 x8_1).f1.f1))))) = true
   rw [if_pos c7] at H
   have c7b0 := c7
   clear c7
   obtain rfl := Option.some.inj H
   rotate_left
   rw [if_neg c7] at H
   have c7b0 : ((a1_0 == ((rd_T48 l0 x8_1).f0.f0) && (a1_1 == ((rd_T48 l0 x8_1).f0.f1) && (a1_2 == ((rd_T48 l0 x8_1).f0.f2) && (a1_3 == ((rd_T48 l0 x8_1).f0.f3))))) && ((a1_4 == ((rd_T48 l0 x8_1).f1.f0) && (a1_5 == ((rd_T48 l0 x8_1).f1.f1))))) = false := by simpa using c7
   clear c7
   have H' := Aside0.mk H
   clear H
   rotate_left
   ·rw [if_neg c6] at H
    exact absurd H (by simp)
   ·rw [if_neg c5] at H
    exact absurd H (by simp)
   rw [if_neg c4] at H
   have c4b0 := decide_eq_false c4
   clear c4
   obtain rfl := Option.some.inj H
   rotate_left
   rotate_left 2
   ·go_wp2
    repeat (go_quiet (fail); try go_wp2)
    go_ret
    exact er (bbw1 HB GE595)
   all_goals
    obtain ⟨hcz8_0, hcz8_1, hcz8_2, hcz8_3, hcz8_4, hcz8_5, hfz8_0, hfz8_1, hfz8_2, hfz8_3, hfz8_4, hfz8_5⟩ := bz6 BK595
    obtain ⟨p596, q596, ad596, e596, hx596_0, hx596_1, hx596_2, hx596_3, hx596_4, hx596_5⟩ := at_T48x HR0.out HB x8_1
    cases e596
    go_wp2
    repeat (go_quiet (fail); try go_wp2)
   ·go_ret
    exact er (bbw1 HB GE595)
   ·go_roundg k1
    case measure => have := HK1.out; omega
    case rel => exact ⟨(wrap64 (x8_1 + 1)), (by first | rfl | (simp; done) | (simp [*]; done)), H', ⟨by have := HK1.out; omega⟩, ⟨bkp BK595⟩, ⟨bbw1 HB GE595⟩⟩
def impl_Motion_53.f (k : Nat) (l0 : List (S48)) (a1_0 : Int) (a1_1 : Int) (a1_2 : Int) (a1_3 : Int) (a1_4 : Int) (a1_5 : Int) : Option (Bool) := (impl_Motion_86.f k l0 a1_0 a1_1 a1_2 a1_3 a1_4 a1_5).bind fun t598 => (some (decide (t598 ≥ 0)))
theorem impl_Motion_53.calls (k : Nat) (A0 : Option Addr) (c0 : Nat) (l0 : List (S48)) (a1_0 : Int) (a1_1 : Int) (a1_2 : Int) (a1_3 : Int) (a1_4 : Int) (a1_5 : Int) (r : Bool) (w : World) (hr0 : Kd.C k48 w A0 l0.length l0) (hc0 : l0.length ≤ c0) (h : impl_Motion_53.f k l0 a1_0 a1_1 a1_2 a1_3 a1_4 a1_5 = some r) :
  Calls Tryz.prog 53 #[.slice A0 l0.length c0, .agg #[.int .i64 a1_0, .int .i64 a1_1, .int .i64 a1_2, .int .i64 a1_3, .int .i64 a1_4, .int .i64 a1_5]] w fun e w' => e = .returned (.bool r) ∧ Below w.heap.size w w' := by
 have hu48 := Tryz.underlying48
 have HR0 := Aside0.mk hr0
 have HC0 := Aside0.mk hc0
 clear hr0 hc0
 have HB := asd (Below.refl w.heap.size w)
 have H : ((impl_Motion_86.f k l0 a1_0 a1_1 a1_2 a1_3 a1_4 a1_5).bind fun t598 => (some (decide (t598 ≥ 0)))) = some r := h
 clear h
 obtain ⟨t598, A3, H⟩ := ob H
 try dsimp only at H
 obtain rfl := Option.some.inj H
 go_enter Tryz.func53, Tryz.ntmps53
 go_wp2_with (first | ((with_reducible refine gd 3 rfl ?_); refine bx #[.int .i64 a1_0, .int .i64 a1_1, .int .i64 a1_2, .int .i64 a1_3, .int .i64 a1_4, .int .i64 a1_5] 48 ?_; intro gb597 hg w4 BK597 hb; have GE597 := ngw0 hg HB; replace HB := bS0 HB hb; clear hb hg; obtain ⟨hcz5_0, hcz5_1, hcz5_2, hcz5_3, hcz5_4, hcz5_5, hfz5_0, hfz5_1, hfz5_2, hfz5_3, hfz5_4, hfz5_5⟩ := bz6 BK597) | ((with_reducible refine gate_callee (f := 86) rfl ?_); refine gl 7 Tryz.func86 #[.slice A0 l0.length c0, .agg #[.int .i64 a1_0, .int .i64 a1_1, .int .i64 a1_2, .int .i64 a1_3, .int .i64 a1_4, .int .i64 a1_5]] ?_; (with_reducible refine (impl_Motion_86.calls _ _ _ _ _ _ _ _ _ _ _ _ ?side1 ?side2 A3.out).mono ?_); (case side1 => exact ks (Kd.C_below HR0.out HB.out)); (case side2 => exact HC0.out); rintro e w6 ⟨rfl, hb⟩; refine ⟨_, rfl, ?_⟩; replace BK597 := bB BK597 hb; replace HB := bS1 HB GE597 hb; (try clear hb)))
 go_ret
 exact er (bbw1 HB GE597)
def impl_CyclicOf.j0 : Nat → Int → Bool → Int → Int → Int → Int → Int → Int → Int → Int → Int → Option ((List (S48)) × Int)
 | 0, _, _, _, _, _, _, _, _, _, _, _ => none
 | k + 1, x10, x22, x600000, x600001, x600002, x601000, x601001, x601002, x601003, x601004, x601005 => if x22 = true then (some (([] : List (S48)), 2)) else (if x10 = 0 then ((impl_closeGroup.f k x600000 x600001 x600002 (([(⟨(⟨x601000, x601001, x601002, x601003⟩ : S46), (⟨x601004, x601005⟩ : S38)⟩ : S48)] : List (S48)))).bind fun t606 => (some (t606, 0))) else (some (([] : List (S48)), x10)))
def impl_CyclicOf.f (k : Nat) (a0 : Int) (a1_0 : Int) (a1_1 : Int) (a1_2 : Int) (l2 : List (S48)) (a3_0 : Int) (a3_1 : Int) (a3_2 : Int) (a3_3 : Int) (a3_4 : Int) (a3_5 : Int) : Option ((List (S48)) × Int) := (impl_smallCode.f k a0 a1_0 a1_1 a1_2 l2).bind fun t601 => (if t601 = 1 then (impl_CyclicOf.j0 k t601 false a1_0 a1_1 a1_2 a3_0 a3_1 a3_2 a3_3 a3_4 a3_5) else ((impl_Motion_53.f k l2 a3_0 a3_1 a3_2 a3_3 a3_4 a3_5).bind fun t602 => (impl_CyclicOf.j0 k t601 (!t602) a1_0 a1_1 a1_2 a3_0 a3_1 a3_2 a3_3 a3_4 a3_5)))
theorem impl_CyclicOf.calls (k : Nat) (a0 : Int) (a1_0 : Int) (a1_1 : Int) (a1_2 : Int) (A2 : Option Addr) (c2 : Nat) (l2 : List (S48)) (a3_0 : Int) (a3_1 : Int) (a3_2 : Int) (a3_3 : Int) (a3_4 : Int) (a3_5 : Int) (r1 : List (S48)) (r2 : Int) (w : World) (hr2 : Kd.C k48 w A2 l2.length l2) (hc2 : l2.length ≤ c2) (h : impl_CyclicOf.f k a0 a1_0 a1_1 a1_2 l2 a3_0 a3_1 a3_2 a3_3 a3_4 a3_5 = some (r1, r2)) :
  Calls Tryz.prog 21 #[.int .i64 a0, .agg #[.int .i64 a1_0, .int .i64 a1_1, .int .i64 a1_2], .slice A2 l2.length c2, .agg #[.int .i64 a3_0, .int .i64 a3_1, .int .i64 a3_2, .int .i64 a3_3, .int .i64 a3_4, .int .i64 a3_5]] w fun e w' => ∃ v0_ : Value, e = .returned (.tuple #[v0_, .int .i64 r2]) ∧ Kd.R k48 48 w' w.heap.size (fun _ => True) v0_ r1 ∧ Below w.heap.size w w' := by
 have hu29 := Tryz.underlying29
 have hu48 := Tryz.underlying48
 have HR2 := Aside0.mk hr2
 have HC2 := Aside0.mk hc2
 clear hr2 hc2
 have HB := asd (Below.refl w.heap.size w)
 have H : ((impl_smallCode.f k a0 a1_0 a1_1 a1_2 l2).bind fun t601 => (if t601 = 1 then (impl_CyclicOf.j0 k t601 false a1_0 a1_1 a1_2 a3_0 a3_1 a3_2 a3_3 a3_4 a3_5) else ((impl_Motion_53.f k l2 a3_0 a3_1 a3_2 a3_3 a3_4 a3_5).bind fun t602 => (impl_CyclicOf.j0 k t601 (!t602) a1_0 a1_1 a1_2 a3_0 a3_1 a3_2 a3_3 a3_4 a3_5)))) = some (r1, r2) := h
 clear h
 obtain ⟨t601, A5, H⟩ := ob H
 try dsimp only at H
 have HC6 := Aside0.mk H
 clear H
 go_enter Tryz.func21, Tryz.ntmps21
 go_upto_region 2 with (first | ((with_reducible refine gd 5 rfl ?_); refine bx #[.int .i64 a1_0, .int .i64 a1_1, .int .i64 a1_2] 29 ?_; intro gb599 hg w7 BK599 hb; have GE599 := ngw0 hg HB; replace HB := bS0 HB hb; clear hb hg) | ((with_reducible refine gd 7 rfl ?_); refine bx #[.int .i64 a3_0, .int .i64 a3_1, .int .i64 a3_2, .int .i64 a3_3, .int .i64 a3_4, .int .i64 a3_5] 48 ?_; intro gb600 hg w8 BK600 hb; have GE600 := ngw1 hg HB GE599; replace HB := bS1 HB GE599 hb; have NB599_600 := nlt hg BK599; have NB600_599 := nsy (nlt hg BK599); replace BK599 := bB BK599 hb; clear hb hg; have hnb9 := NB599_600.out; have hnc9 := NB600_599.out; obtain ⟨hcz10_0, hcz10_1, hcz10_2, hfz10_0, hfz10_1, hfz10_2⟩ := bz3 BK599) | ((with_reducible refine gate_callee (f := 52) rfl ?_); refine gl 14 Tryz.func52 #[.int .i64 a0, .agg #[.int .i64 a1_0, .int .i64 a1_1, .int .i64 a1_2], .slice A2 l2.length c2] ?_; (with_reducible refine (impl_smallCode.calls _ _ _ _ _ (fun k_ => k_ < w.heap.size) _ _ _ _ _ ?side1 A5.out).mono ?_); (case side1 => exact Kd.V_mk HC2.out (Kd.F_below (Kd.C_F k48_heap HR2.out) (bbw2 HB GE599 GE600))); rintro e w11 ⟨rfl, hb⟩; refine ⟨_, rfl, ?_⟩; replace BK599 := bB BK599 hb; replace BK600 := bB BK600 hb; replace HB := bS2 HB GE599 GE600 hb; (try clear hb)))
 (try simp only [Act.put, sA, sB, sC])
 go_cut [22] (fun v22 wc => ∃ (kq : Nat) (x22_5 : Bool), v22 = .bool x22_5 ∧ Aside0 (impl_CyclicOf.j0 kq t601 x22_5 a1_0 a1_1 a1_2 a3_0 a3_1 a3_2 a3_3 a3_4 a3_5 = some (r1, r2)) ∧ Aside0 (kq ≤ k) ∧ Aside0 (wc.heap[gb599]? = some (.cells #[.int .i64 a1_0, .int .i64 a1_1, .int .i64 a1_2] 29 (0, 0))) ∧ Aside0 (wc.heap[gb600]? = some (.cells #[.int .i64 a3_0, .int .i64 a3_1, .int .i64 a3_2, .int .i64 a3_3, .int .i64 a3_4, .int .i64 a3_5] 48 (0, 0))) ∧ Aside0 (Below w.heap.size w wc))
 case first =>
  have H := HC6.out
  clear HC6
  by_cases c12 : t601 = 1
  ·rw [if_pos c12] at H
   have c12b0 : (t601 == 1) = true := beq_iff_eq.mpr c12
   have c12b1 : (t601 != 1) = false := bne_eq_false_iff_eq.mpr c12
   clear c12
   (first | rw [c12b0] | (simp only [i64_w, i32_w]; rw [c12b0]) | skip)
   have H' := Aside0.mk H
   clear H
   go_wp2
   go_meet
   case rel => exact ⟨_, (false), (by first | rfl | (simp; done) | (simp [*]; done)), H', ⟨by first | omega | exact Nat.le_refl _⟩, ⟨bkp BK599⟩, ⟨bkp BK600⟩, ⟨bbw2 HB GE599 GE600⟩⟩
  ·rw [if_neg c12] at H
   have c12b0 : (t601 == 1) = false := beq_eq_false_iff_ne.mpr c12
   have c12b1 : (t601 != 1) = true := bne_iff_ne.mpr c12
   (first | rw [c12b0] | (simp only [i64_w, i32_w]; rw [c12b0]) | skip)
   obtain ⟨t602, A13, H⟩ := ob H
   try dsimp only at H
   have H' := Aside0.mk H
   clear H
   have hnb14 := NB600_599.out
   have hnc14 := NB599_600.out
   obtain ⟨hcz15_0, hcz15_1, hcz15_2, hcz15_3, hcz15_4, hcz15_5, hfz15_0, hfz15_1, hfz15_2, hfz15_3, hfz15_4, hfz15_5⟩ := bz6 BK600
   go_wp2_with (first | (go_at_call 53; (with_reducible refine (impl_Motion_53.calls _ _ _ _ _ _ _ _ _ _ _ _ ?side1 ?side2 A13.out).mono ?_); (case side1 => exact ks (Kd.C_below HR2.out HB.out)); (case side2 => exact HC2.out); rintro e w16 ⟨rfl, hb⟩; replace BK599 := bB BK599 hb; replace BK600 := bB BK600 hb; replace HB := bS2 HB GE599 GE600 hb; (try clear hb)))
   go_meet
   case rel => exact ⟨_, (!t602), (by first | rfl | (simp; done) | (simp [*]; done)), H', ⟨by first | omega | exact Nat.le_refl _⟩, ⟨bkp BK599⟩, ⟨bkp BK600⟩, ⟨bbw2 HB GE599 GE600⟩⟩
 case rest =>
  clear HC6
  try clear c1
  try clear c2
  try clear p2
  try clear c5
  try clear c9
  try clear c12
  try clear c12b0
  try clear c12b1
  try clear c14
  try clear hcz10_0
  try clear hcz10_1
  try clear hcz10_2
  try clear hcz15_0
  try clear hcz15_1
  try clear hcz15_2
  try clear hcz15_3
  try clear hcz15_4
  try clear hcz15_5
  try clear hfz10_0
  try clear hfz10_1
  try clear hfz10_2
  try clear hfz15_0
  try clear hfz15_1
  try clear hfz15_2
  try clear hfz15_3
  try clear hfz15_4
  try clear hfz15_5
  obtain ⟨kq, x22_5, rfl, HA, HJ5, BK599, BK600, HB⟩ := hcut
  cases kq with
  | zero => exact absurd HA.out (by simp [impl_CyclicOf.j0])
  | succ kj5 =>
   have H := HA.out
   clear HA
   simp only [impl_CyclicOf.j0] at H
   by_cases c17 : x22_5 = true
   subst c17
   replace H := ifT H
   rotate_left
   replace c17 := Bool.eq_false_iff.mpr c17
   subst c17
   replace H := ifF H
   by_cases c18 : t601 = 0
   rw [if_pos c18] at H
   have c18b0 : (t601 == 0) = true := beq_iff_eq.mpr c18
   have c18b1 : (t601 != 0) = false := bne_eq_false_iff_eq.mpr c18
   clear c18
   obtain ⟨y603, hy603⟩ : ∃ y_ : List (S48), y_ = (([(⟨(⟨a3_0, a3_1, a3_2, a3_3⟩ : S46), (⟨a3_4, a3_5⟩ : S38)⟩ : S48)] : List (S48))) := ⟨_, rfl⟩
   replace H : ((impl_closeGroup.f kj5 a1_0 a1_1 a1_2 y603).bind fun t606 => (some (t606, 0))) = some (r1, r2) := by first | (rw [hy603]; with_reducible exact H) | (have H2_ := (Option.bind_some _ _).symm.trans H; rw [hy603]; with_reducible exact H2_) | (have H2_ := (Option.bind_some _ _).symm.trans H; with_reducible exact H2_) | with_reducible exact H | (rw [hy603]; exact H) | exact H
   have Ny603 := Aside0.mk hy603
   clear hy603
   obtain ⟨t606, A19, H⟩ := ob H
   try dsimp only at H
   rotate_left
   rw [if_neg c18] at H
   have c18b0 : (t601 == 0) = false := beq_eq_false_iff_ne.mpr c18
   have c18b1 : (t601 != 0) = true := bne_iff_ne.mpr c18
   rotate_left
   all_goals
    simp only [Option.some.injEq, Prod.mk.injEq] at H
    obtain ⟨rfl, rfl⟩ := H
   rotate_left
   ·have hnb20 := NB599_600.out
    have hnc20 := NB600_599.out
    obtain ⟨hcz21_0, hcz21_1, hcz21_2, hfz21_0, hfz21_1, hfz21_2⟩ := bz3 BK599
    obtain ⟨hcz22_0, hcz22_1, hcz22_2, hcz22_3, hcz22_4, hcz22_5, hfz22_0, hfz22_1, hfz22_2, hfz22_3, hfz22_4, hfz22_5⟩ := bz6 BK600
    go_wp2_with (first | ((with_reducible refine gd 28 rfl ?_); refine Kd.R_lit k48 _ 48 ?hg (N := 28) ?hd (xs := ([(⟨(⟨a3_0, a3_1, a3_2, a3_3⟩ : S46), (⟨a3_4, a3_5⟩ : S38)⟩ : S48)] : List (S48))) (inner := [.int .i64 a3_0, .int .i64 a3_1, .int .i64 a3_2, .int .i64 a3_3, .int .i64 a3_4, .int .i64 a3_5]) (ok := fun _ => True) (okp := fun _ => True) ?hr ?hp (fun _ hk => hk) trivial (Below.refl _ _) (Nat.le_refl _) (by simp) ?_; (case hd => rfl); (case hg => rfl); (case hr => first | (go_simp; done) | (go_simp; rfl)); (case hp => exact (Reps.c6 (show Kd.M k48 _ _ _ (⟨(⟨a3_0, a3_1, a3_2, a3_3⟩ : S46), (⟨a3_4, a3_5⟩ : S38)⟩ : S48) [.int .i64 a3_0, .int .i64 a3_1, .int .i64 a3_2, .int .i64 a3_3, .int .i64 a3_4, .int .i64 a3_5] from (k48_mkM _ _ _ (⟨(⟨a3_0, a3_1, a3_2, a3_3⟩ : S46), (⟨a3_4, a3_5⟩ : S38)⟩ : S48) )) (Reps.none _ _))); intro v604 w23 ho24 hb hg_ hnew_; clear hg_ hnew_; (first | rw [← Ny603.out] at ho24 | (simp only [Int.reduceToNat] at ho24; rw [← Ny603.out] at ho24)); have HO605 := asd (Kd.R_lower (Kd.R_newB ho24 (g := gb600) (o := .cells #[.int .i64 a3_0, .int .i64 a3_1, .int .i64 a3_2, .int .i64 a3_3, .int .i64 a3_4, .int .i64 a3_5] 48 (0, 0)) (bkp BK600)) (bsz2 HB GE599 GE600)); replace BK599 := bB BK599 hb; replace BK600 := bB BK600 hb; replace HB := bS2 HB GE599 GE600 hb; clear hb ho24; obtain ⟨Ao25, co25, eo25⟩ := Kd.R_slice HO605.out; subst eo25) | ((with_reducible refine gate_callee (f := 37) rfl ?_); refine gl 29 Tryz.func37 #[.agg #[.int .i64 a1_0, .int .i64 a1_1, .int .i64 a1_2], .slice Ao25 y603.length co25] ?_; (with_reducible refine (impl_closeGroup.calls _ _ _ _ _ _ _ _ _ ?side1 ?side2 A19.out).mono ?_); (case side1 => exact ks (Kd.R_reads' HO605.out).2.2); (case side2 => exact (Kd.R_reads' HO605.out).2.1); rintro e w26 ⟨v607, rfl, ho0, hb⟩; refine ⟨_, rfl, ?_⟩; have HO608 := asd (Kd.R_lower (Kd.R_newB (Kd.R_new' ho0 (Kd.R_lt (kr HO605))) (g := gb600) (o := .cells #[.int .i64 a3_0, .int .i64 a3_1, .int .i64 a3_2, .int .i64 a3_3, .int .i64 a3_4, .int .i64 a3_5] 48 (0, 0)) (bkp BK600)) (bsz2 HB GE599 GE600)); replace HO605 := asd (Kd.R_elder' (kr HO605) (Kd.R_base ho0) hb); replace BK599 := bB BK599 hb; replace BK600 := bB BK600 hb; replace HB := bS2 HB GE599 GE600 hb; (try clear hb); (try clear hb2); (try clear hk); (try clear hi); (try clear ho0)))
    go_ret2
    exact ⟨_, by first | rfl | (simp [errW_none, errW_some] <;> rfl) | (simp [*, errW_none, errW_some] <;> rfl), by (with_reducible repeat (first | apply Kd.R_alloc | apply Kd.R_drewN | apply Kd.R_drew)); exact Kd.R_mono HO608.out (fun _ hk => trivial), bbw2 HB GE599 GE600⟩
   rotate_left
   all_goals
    go_wp2
    go_ret2
    exact ⟨_, by first | rfl | (simp [errW_none, errW_some] <;> rfl) | (simp [*, errW_none, errW_some] <;> rfl), by first | exact Kd.R_nil _ _ _ _ _ | exact Kd.N_nil _ _ _ _ _ | exact Kd.V_nil _ _ _ _ _ | exact Kd.Q_nil _ _ _ _ _ | exact Kd.S_nil _ _ _ _ _, bbw2 HB GE599 GE600⟩
end Go.Proofs.YtdodghjnlekgeaaGreat.PA
