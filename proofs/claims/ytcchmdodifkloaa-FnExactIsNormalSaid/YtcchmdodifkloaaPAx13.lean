/- Walks written by program: each Go function that the law reaches comes to the plain function beside it. -/
import Derived.Test.YtcchmdodifkloaaPAx0
import Derived.Test.YtcchmdodifkloaaPAx2
import Derived.Test.YtcchmdodifkloaaPAx3
import Derived.Test.YtcchmdodifkloaaPAx12
namespace Go.Proofs.Ytcchmdodifkloaa.PA
open Go.RowKit Go.Proofs.YtcchmdodifkloaaW.PrintWords Go.Proofs.YtcchmdodifkloaaW.PrintLast Go.Proofs.YtcchmdodifkloaaW.PrintMore
attribute [local go_sem] max2_int min2_int max_two min_two max_three min_three max_four min_four   -- for this text's walks alone
set_option linter.unusedVariables false
set_option linter.unusedSimpArgs false

attribute [local go_sem high] eqA51
/-! ### impl_compareMats: function 117 -/
def impl_compareMats.f (k : Nat) (a0_0 : Int) (a0_1 : Int) (a0_2 : Int) (a0_3 : Int) (a1_0 : Int) (a1_1 : Int) (a1_2 : Int) (a1_3 : Int) : Option (Int) := (impl_compareNumbers.f k (([a0_0, a0_1, a0_2, a0_3] : List Int)) (([a1_0, a1_1, a1_2, a1_3] : List Int))).bind fun t397 => (some t397)
set_option maxHeartbeats 8000000 in
set_option maxRecDepth 100000 in
theorem impl_compareMats.calls (k : Nat) (a0_0 : Int) (a0_1 : Int) (a0_2 : Int) (a0_3 : Int) (a1_0 : Int) (a1_1 : Int) (a1_2 : Int) (a1_3 : Int) (r : Int) (w : World) (h : impl_compareMats.f k a0_0 a0_1 a0_2 a0_3 a1_0 a1_1 a1_2 a1_3 = some r) :
  Calls Try.prog 117 #[.agg #[.int .i64 a0_0, .int .i64 a0_1, .int .i64 a0_2, .int .i64 a0_3], .agg #[.int .i64 a1_0, .int .i64 a1_1, .int .i64 a1_2, .int .i64 a1_3]] w fun e w' => e = .returned (.int .i64 r) ∧ Below w.heap.size w w' := by
 have hu51 := Try.underlying51
 have HB := asd (Below.refl w.heap.size w)
 have H : ((impl_compareNumbers.f k (([a0_0, a0_1, a0_2, a0_3] : List Int)) (([a1_0, a1_1, a1_2, a1_3] : List Int))).bind fun t397 => (some t397)) = some r := h
 clear h
 obtain ⟨y391, hy391⟩ : ∃ y_ : List Int, y_ = (([a0_0, a0_1, a0_2, a0_3] : List Int)) := ⟨_, rfl⟩
 replace H : ((impl_compareNumbers.f k y391 (([a1_0, a1_1, a1_2, a1_3] : List Int))).bind fun t397 => (some t397)) = some r := by first | (rw [hy391]; with_reducible exact H) | (have H2_ := (Option.bind_some _ _).symm.trans H; rw [hy391]; with_reducible exact H2_) | (have H2_ := (Option.bind_some _ _).symm.trans H; with_reducible exact H2_) | with_reducible exact H | (rw [hy391]; exact H) | exact H
 have Ny391 := Aside0.mk hy391
 clear hy391
 obtain ⟨y394, hy394⟩ : ∃ y_ : List Int, y_ = (([a1_0, a1_1, a1_2, a1_3] : List Int)) := ⟨_, rfl⟩
 replace H : ((impl_compareNumbers.f k y391 y394).bind fun t397 => (some t397)) = some r := by first | (rw [hy394]; with_reducible exact H) | (have H2_ := (Option.bind_some _ _).symm.trans H; rw [hy394]; with_reducible exact H2_) | (have H2_ := (Option.bind_some _ _).symm.trans H; with_reducible exact H2_) | with_reducible exact H | (rw [hy394]; exact H) | exact H
 have Ny394 := Aside0.mk hy394
 clear hy394
 obtain ⟨t397, A3, H⟩ := ob H
 try dsimp only at H
 obtain rfl := Option.some.inj H
 go_enter Try.func117, Try.ntmps117
 go_wp2_with (first | ((with_reducible refine gd 2 rfl ?_); refine bx #[.int .i64 a0_0, .int .i64 a0_1, .int .i64 a0_2, .int .i64 a0_3] 51 ?_; intro gb389 hg w4 BK389 hb; have GE389 := ngw0 hg HB; replace HB := bS0 HB hb; clear hb hg) | ((with_reducible refine gd 3 rfl ?_); refine bx #[.int .i64 a1_0, .int .i64 a1_1, .int .i64 a1_2, .int .i64 a1_3] 51 ?_; intro gb390 hg w5 BK390 hb; have GE390 := ngw1 hg HB GE389; replace HB := bS1 HB GE389 hb; have NB389_390 := nlt hg BK389; have NB390_389 := nsy (nlt hg BK389); replace BK389 := bB BK389 hb; clear hb hg; have hnb6 := NB389_390.out; have hnc6 := NB390_389.out; obtain ⟨hcz7_0, hcz7_1, hcz7_2, hcz7_3, hfz7_0, hfz7_1, hfz7_2, hfz7_3⟩ := bz4 BK389) | ((with_reducible refine gd 13 rfl ?_); refine Kd.R_lit (Kd.int .i64) _ 2 ?hg (N := 13) ?hd (xs := ([a0_0, a0_1, a0_2, a0_3] : List Int)) (inner := [.int .i64 a0_0, .int .i64 a0_1, .int .i64 a0_2, .int .i64 a0_3]) (ok := fun _ => True) (okp := fun _ => True) ?hr ?hp (fun _ hk => hk) trivial (Below.refl _ _) (Nat.le_refl _) (by simp) ?_; (case hd => rfl); (case hg => rfl); (case hr => first | (go_simp; done) | (go_simp; rfl)); (case hp => exact (Reps.one (show Kd.M (Kd.int .i64) _ _ _ a0_0 [.int .i64 a0_0] from rfl) (Reps.one (show Kd.M (Kd.int .i64) _ _ _ a0_1 [.int .i64 a0_1] from rfl) (Reps.one (show Kd.M (Kd.int .i64) _ _ _ a0_2 [.int .i64 a0_2] from rfl) (Reps.one (show Kd.M (Kd.int .i64) _ _ _ a0_3 [.int .i64 a0_3] from rfl) (Reps.none _ _)))))); intro v392 w8 ho9 hb hg_ hnew_; clear hg_ hnew_; (first | rw [← Ny391.out] at ho9 | (simp only [Int.reduceToNat] at ho9; rw [← Ny391.out] at ho9)); have HO393 := asd (Kd.R_lower ho9 (bsz2 HB GE389 GE390)); replace BK389 := bB BK389 hb; replace BK390 := bB BK390 hb; replace HB := bS2 HB GE389 GE390 hb; clear hb ho9; obtain ⟨hcz10_0, hcz10_1, hcz10_2, hcz10_3, hfz10_0, hfz10_1, hfz10_2, hfz10_3⟩ := bz4 BK390) | ((with_reducible refine gd 22 rfl ?_); refine Kd.R_lit (Kd.int .i64) _ 2 ?hg (N := 22) ?hd (xs := ([a1_0, a1_1, a1_2, a1_3] : List Int)) (inner := [.int .i64 a1_0, .int .i64 a1_1, .int .i64 a1_2, .int .i64 a1_3]) (ok := fun _ => True) (okp := fun _ => True) ?hr ?hp (fun _ hk => hk) trivial (Below.refl _ _) (Nat.le_refl _) (by simp) ?_; (case hd => rfl); (case hg => rfl); (case hr => first | (go_simp; done) | (go_simp; rfl)); (case hp => exact (Reps.one (show Kd.M (Kd.int .i64) _ _ _ a1_0 [.int .i64 a1_0] from rfl) (Reps.one (show Kd.M (Kd.int .i64) _ _ _ a1_1 [.int .i64 a1_1] from rfl) (Reps.one (show Kd.M (Kd.int .i64) _ _ _ a1_2 [.int .i64 a1_2] from rfl) (Reps.one (show Kd.M (Kd.int .i64) _ _ _ a1_3 [.int .i64 a1_3] from rfl) (Reps.none _ _)))))); intro v395 w11 ho12 hb hg_ hnew_; clear hg_ hnew_; (first | rw [← Ny394.out] at ho12 | (simp only [Int.reduceToNat] at ho12; rw [← Ny394.out] at ho12)); have HO396 := asd (Kd.R_lower (Kd.R_new' ho12 (Kd.R_lt (kr HO393))) (bsz2 HB GE389 GE390)); replace HO393 := asd (Kd.R_elder' (kr HO393) (Kd.R_base ho12) hb); replace BK389 := bB BK389 hb; replace BK390 := bB BK390 hb; replace HB := bS2 HB GE389 GE390 hb; clear hb ho12; obtain ⟨Ao13, co13, eo13⟩ := Kd.R_slice HO393.out; subst eo13; obtain ⟨Ao14, co14, eo14⟩ := Kd.R_slice HO396.out; subst eo14) | ((with_reducible refine gate_callee (f := 123) rfl ?_); refine gl 23 Try.func123 #[.slice Ao13 y391.length co13, .slice Ao14 y394.length co14] ?_; (with_reducible refine (impl_compareNumbers.calls _ _ _ _ _ _ _ _ _ ?side1 ?side2 ?side3 ?side4 A3.out).mono ?_); (case side1 => exact ks (Kd.R_reads' HO393.out).2.2); (case side2 => exact (Kd.R_reads' HO393.out).2.1); (case side3 => exact ks (Kd.R_reads' HO396.out).2.2); (case side4 => exact (Kd.R_reads' HO396.out).2.1); rintro e w' ⟨rfl, ⟨nd, rfl⟩⟩; refine ⟨_, rfl, ?_⟩))
 go_ret
 exact er (bbw2 HB GE389 GE390)
/-! ### impl_compareVecs: function 118 -/
def impl_compareVecs.f (k : Nat) (a0_0 : Int) (a0_1 : Int) (a1_0 : Int) (a1_1 : Int) : Option (Int) := (impl_compareNumbers.f k (([a0_0, a0_1] : List Int)) (([a1_0, a1_1] : List Int))).bind fun t406 => (some t406)
set_option maxHeartbeats 8000000 in
set_option maxRecDepth 100000 in
theorem impl_compareVecs.calls (k : Nat) (a0_0 : Int) (a0_1 : Int) (a1_0 : Int) (a1_1 : Int) (r : Int) (w : World) (h : impl_compareVecs.f k a0_0 a0_1 a1_0 a1_1 = some r) :
  Calls Try.prog 118 #[.agg #[.int .i64 a0_0, .int .i64 a0_1], .agg #[.int .i64 a1_0, .int .i64 a1_1]] w fun e w' => e = .returned (.int .i64 r) ∧ Below w.heap.size w w' := by
 have hu53 := Try.underlying53
 have HB := asd (Below.refl w.heap.size w)
 have H : ((impl_compareNumbers.f k (([a0_0, a0_1] : List Int)) (([a1_0, a1_1] : List Int))).bind fun t406 => (some t406)) = some r := h
 clear h
 obtain ⟨y400, hy400⟩ : ∃ y_ : List Int, y_ = (([a0_0, a0_1] : List Int)) := ⟨_, rfl⟩
 replace H : ((impl_compareNumbers.f k y400 (([a1_0, a1_1] : List Int))).bind fun t406 => (some t406)) = some r := by first | (rw [hy400]; with_reducible exact H) | (have H2_ := (Option.bind_some _ _).symm.trans H; rw [hy400]; with_reducible exact H2_) | (have H2_ := (Option.bind_some _ _).symm.trans H; with_reducible exact H2_) | with_reducible exact H | (rw [hy400]; exact H) | exact H
 have Ny400 := Aside0.mk hy400
 clear hy400
 obtain ⟨y403, hy403⟩ : ∃ y_ : List Int, y_ = (([a1_0, a1_1] : List Int)) := ⟨_, rfl⟩
 replace H : ((impl_compareNumbers.f k y400 y403).bind fun t406 => (some t406)) = some r := by first | (rw [hy403]; with_reducible exact H) | (have H2_ := (Option.bind_some _ _).symm.trans H; rw [hy403]; with_reducible exact H2_) | (have H2_ := (Option.bind_some _ _).symm.trans H; with_reducible exact H2_) | with_reducible exact H | (rw [hy403]; exact H) | exact H
 have Ny403 := Aside0.mk hy403
 clear hy403
 obtain ⟨t406, A3, H⟩ := ob H
 try dsimp only at H
 obtain rfl := Option.some.inj H
 go_enter Try.func118, Try.ntmps118
 go_wp2_with (first | ((with_reducible refine gd 2 rfl ?_); refine bx #[.int .i64 a0_0, .int .i64 a0_1] 53 ?_; intro gb398 hg w4 BK398 hb; have GE398 := ngw0 hg HB; replace HB := bS0 HB hb; clear hb hg) | ((with_reducible refine gd 3 rfl ?_); refine bx #[.int .i64 a1_0, .int .i64 a1_1] 53 ?_; intro gb399 hg w5 BK399 hb; have GE399 := ngw1 hg HB GE398; replace HB := bS1 HB GE398 hb; have NB398_399 := nlt hg BK398; have NB399_398 := nsy (nlt hg BK398); replace BK398 := bB BK398 hb; clear hb hg; have hnb6 := NB398_399.out; have hnc6 := NB399_398.out; obtain ⟨hcz7_0, hcz7_1, hfz7_0, hfz7_1⟩ := bz2 BK398) | ((with_reducible refine gd 9 rfl ?_); refine Kd.R_lit (Kd.int .i64) _ 2 ?hg (N := 9) ?hd (xs := ([a0_0, a0_1] : List Int)) (inner := [.int .i64 a0_0, .int .i64 a0_1]) (ok := fun _ => True) (okp := fun _ => True) ?hr ?hp (fun _ hk => hk) trivial (Below.refl _ _) (Nat.le_refl _) (by simp) ?_; (case hd => rfl); (case hg => rfl); (case hr => first | (go_simp; done) | (go_simp; rfl)); (case hp => exact (Reps.one (show Kd.M (Kd.int .i64) _ _ _ a0_0 [.int .i64 a0_0] from rfl) (Reps.one (show Kd.M (Kd.int .i64) _ _ _ a0_1 [.int .i64 a0_1] from rfl) (Reps.none _ _)))); intro v401 w8 ho9 hb hg_ hnew_; clear hg_ hnew_; (first | rw [← Ny400.out] at ho9 | (simp only [Int.reduceToNat] at ho9; rw [← Ny400.out] at ho9)); have HO402 := asd (Kd.R_lower ho9 (bsz2 HB GE398 GE399)); replace BK398 := bB BK398 hb; replace BK399 := bB BK399 hb; replace HB := bS2 HB GE398 GE399 hb; clear hb ho9; obtain ⟨hcz10_0, hcz10_1, hfz10_0, hfz10_1⟩ := bz2 BK399) | ((with_reducible refine gd 14 rfl ?_); refine Kd.R_lit (Kd.int .i64) _ 2 ?hg (N := 14) ?hd (xs := ([a1_0, a1_1] : List Int)) (inner := [.int .i64 a1_0, .int .i64 a1_1]) (ok := fun _ => True) (okp := fun _ => True) ?hr ?hp (fun _ hk => hk) trivial (Below.refl _ _) (Nat.le_refl _) (by simp) ?_; (case hd => rfl); (case hg => rfl); (case hr => first | (go_simp; done) | (go_simp; rfl)); (case hp => exact (Reps.one (show Kd.M (Kd.int .i64) _ _ _ a1_0 [.int .i64 a1_0] from rfl) (Reps.one (show Kd.M (Kd.int .i64) _ _ _ a1_1 [.int .i64 a1_1] from rfl) (Reps.none _ _)))); intro v404 w11 ho12 hb hg_ hnew_; clear hg_ hnew_; (first | rw [← Ny403.out] at ho12 | (simp only [Int.reduceToNat] at ho12; rw [← Ny403.out] at ho12)); have HO405 := asd (Kd.R_lower (Kd.R_new' ho12 (Kd.R_lt (kr HO402))) (bsz2 HB GE398 GE399)); replace HO402 := asd (Kd.R_elder' (kr HO402) (Kd.R_base ho12) hb); replace BK398 := bB BK398 hb; replace BK399 := bB BK399 hb; replace HB := bS2 HB GE398 GE399 hb; clear hb ho12; obtain ⟨Ao13, co13, eo13⟩ := Kd.R_slice HO402.out; subst eo13; obtain ⟨Ao14, co14, eo14⟩ := Kd.R_slice HO405.out; subst eo14) | ((with_reducible refine gate_callee (f := 123) rfl ?_); refine gl 15 Try.func123 #[.slice Ao13 y400.length co13, .slice Ao14 y403.length co14] ?_; (with_reducible refine (impl_compareNumbers.calls _ _ _ _ _ _ _ _ _ ?side1 ?side2 ?side3 ?side4 A3.out).mono ?_); (case side1 => exact ks (Kd.R_reads' HO402.out).2.2); (case side2 => exact (Kd.R_reads' HO402.out).2.1); (case side3 => exact ks (Kd.R_reads' HO405.out).2.2); (case side4 => exact (Kd.R_reads' HO405.out).2.1); rintro e w' ⟨rfl, ⟨nd, rfl⟩⟩; refine ⟨_, rfl, ?_⟩))
 go_ret
 exact er (bbw2 HB GE398 GE399)
/-! ### impl_compareMotions: function 98 -/
def impl_compareMotions.f (k : Nat) (a0_0 : Int) (a0_1 : Int) (a0_2 : Int) (a0_3 : Int) (a0_4 : Int) (a0_5 : Int) (a1_0 : Int) (a1_1 : Int) (a1_2 : Int) (a1_3 : Int) (a1_4 : Int) (a1_5 : Int) : Option (Int) := (impl_compareMats.f k a0_0 a0_1 a0_2 a0_3 a1_0 a1_1 a1_2 a1_3).bind fun t409 => (if t409 = 0 then ((impl_compareVecs.f k a0_4 a0_5 a1_4 a1_5).bind fun t410 => (some t410)) else (some t409))
set_option maxHeartbeats 8000000 in
set_option maxRecDepth 100000 in
theorem impl_compareMotions.calls (k : Nat) (a0_0 : Int) (a0_1 : Int) (a0_2 : Int) (a0_3 : Int) (a0_4 : Int) (a0_5 : Int) (a1_0 : Int) (a1_1 : Int) (a1_2 : Int) (a1_3 : Int) (a1_4 : Int) (a1_5 : Int) (r : Int) (w : World) (h : impl_compareMotions.f k a0_0 a0_1 a0_2 a0_3 a0_4 a0_5 a1_0 a1_1 a1_2 a1_3 a1_4 a1_5 = some r) :
  Calls Try.prog 98 #[.agg #[.int .i64 a0_0, .int .i64 a0_1, .int .i64 a0_2, .int .i64 a0_3, .int .i64 a0_4, .int .i64 a0_5], .agg #[.int .i64 a1_0, .int .i64 a1_1, .int .i64 a1_2, .int .i64 a1_3, .int .i64 a1_4, .int .i64 a1_5]] w fun e w' => e = .returned (.int .i64 r) ∧ Below w.heap.size w w' := by
 have hu55 := Try.underlying55
 have hu51 := Try.underlying51
 have hu53 := Try.underlying53
 have HB := asd (Below.refl w.heap.size w)
 have H : ((impl_compareMats.f k a0_0 a0_1 a0_2 a0_3 a1_0 a1_1 a1_2 a1_3).bind fun t409 => (if t409 = 0 then ((impl_compareVecs.f k a0_4 a0_5 a1_4 a1_5).bind fun t410 => (some t410)) else (some t409))) = some r := h
 clear h
 obtain ⟨t409, A3, H⟩ := ob H
 try dsimp only at H
 by_cases c4 : t409 = 0
 ·rw [if_pos c4] at H
  have c4b0 : (t409 == 0) = true := beq_iff_eq.mpr c4
  have c4b1 : (t409 != 0) = false := bne_eq_false_iff_eq.mpr c4
  clear c4
  obtain ⟨t410, A5, H⟩ := ob H
  try dsimp only at H
  obtain rfl := Option.some.inj H
  go_enter Try.func98, Try.ntmps98
  go_wp2_with (first | ((with_reducible refine gd 2 rfl ?_); refine bx #[.int .i64 a0_0, .int .i64 a0_1, .int .i64 a0_2, .int .i64 a0_3, .int .i64 a0_4, .int .i64 a0_5] 55 ?_; intro gb407 hg w6 BK407 hb; have GE407 := ngw0 hg HB; replace HB := bS0 HB hb; clear hb hg) | ((with_reducible refine gd 3 rfl ?_); refine bx #[.int .i64 a1_0, .int .i64 a1_1, .int .i64 a1_2, .int .i64 a1_3, .int .i64 a1_4, .int .i64 a1_5] 55 ?_; intro gb408 hg w7 BK408 hb; have GE408 := ngw1 hg HB GE407; replace HB := bS1 HB GE407 hb; have NB407_408 := nlt hg BK407; have NB408_407 := nsy (nlt hg BK407); replace BK407 := bB BK407 hb; clear hb hg; have hnb8 := NB407_408.out; have hnc8 := NB408_407.out; obtain ⟨hcz9_0, hcz9_1, hcz9_2, hcz9_3, hcz9_4, hcz9_5, hfz9_0, hfz9_1, hfz9_2, hfz9_3, hfz9_4, hfz9_5⟩ := bz6 BK407; obtain ⟨hcz10_0, hcz10_1, hcz10_2, hcz10_3, hcz10_4, hcz10_5, hfz10_0, hfz10_1, hfz10_2, hfz10_3, hfz10_4, hfz10_5⟩ := bz6 BK408) | ((with_reducible refine gate_callee (f := 117) rfl ?_); refine gl 10 Try.func117 #[.agg #[.int .i64 a0_0, .int .i64 a0_1, .int .i64 a0_2, .int .i64 a0_3], .agg #[.int .i64 a1_0, .int .i64 a1_1, .int .i64 a1_2, .int .i64 a1_3]] ?_; (with_reducible refine (impl_compareMats.calls _ _ _ _ _ _ _ _ _ _ _ A3.out).mono ?_); rintro e w11 ⟨rfl, hb⟩; refine ⟨_, rfl, ?_⟩; replace BK407 := bB BK407 hb; replace BK408 := bB BK408 hb; replace HB := bS2 HB GE407 GE408 hb; (try clear hb); obtain ⟨hcz12_0, hcz12_1, hcz12_2, hcz12_3, hcz12_4, hcz12_5, hfz12_0, hfz12_1, hfz12_2, hfz12_3, hfz12_4, hfz12_5⟩ := bz6 BK407; obtain ⟨hcz13_0, hcz13_1, hcz13_2, hcz13_3, hcz13_4, hcz13_5, hfz13_0, hfz13_1, hfz13_2, hfz13_3, hfz13_4, hfz13_5⟩ := bz6 BK408) | ((with_reducible refine gate_callee (f := 118) rfl ?_); refine gl 18 Try.func118 #[.agg #[.int .i64 a0_4, .int .i64 a0_5], .agg #[.int .i64 a1_4, .int .i64 a1_5]] ?_; (with_reducible refine (impl_compareVecs.calls _ _ _ _ _ _ _ A5.out).mono ?_); rintro e w14 ⟨rfl, hb⟩; refine ⟨_, rfl, ?_⟩; replace BK407 := bB BK407 hb; replace BK408 := bB BK408 hb; replace HB := bS2 HB GE407 GE408 hb; (try clear hb)))
  go_ret
  exact er (bbw2 HB GE407 GE408)
 ·rw [if_neg c4] at H
  have c4b0 : (t409 == 0) = false := beq_eq_false_iff_ne.mpr c4
  have c4b1 : (t409 != 0) = true := bne_iff_ne.mpr c4
  obtain rfl := Option.some.inj H
  go_enter Try.func98, Try.ntmps98
  go_wp2_with (first | ((with_reducible refine gd 2 rfl ?_); refine bx #[.int .i64 a0_0, .int .i64 a0_1, .int .i64 a0_2, .int .i64 a0_3, .int .i64 a0_4, .int .i64 a0_5] 55 ?_; intro gb407 hg w15 BK407 hb; have GE407 := ngw0 hg HB; replace HB := bS0 HB hb; clear hb hg) | ((with_reducible refine gd 3 rfl ?_); refine bx #[.int .i64 a1_0, .int .i64 a1_1, .int .i64 a1_2, .int .i64 a1_3, .int .i64 a1_4, .int .i64 a1_5] 55 ?_; intro gb408 hg w16 BK408 hb; have GE408 := ngw1 hg HB GE407; replace HB := bS1 HB GE407 hb; have NB407_408 := nlt hg BK407; have NB408_407 := nsy (nlt hg BK407); replace BK407 := bB BK407 hb; clear hb hg; have hnb17 := NB407_408.out; have hnc17 := NB408_407.out; obtain ⟨hcz18_0, hcz18_1, hcz18_2, hcz18_3, hcz18_4, hcz18_5, hfz18_0, hfz18_1, hfz18_2, hfz18_3, hfz18_4, hfz18_5⟩ := bz6 BK407; obtain ⟨hcz19_0, hcz19_1, hcz19_2, hcz19_3, hcz19_4, hcz19_5, hfz19_0, hfz19_1, hfz19_2, hfz19_3, hfz19_4, hfz19_5⟩ := bz6 BK408) | ((with_reducible refine gate_callee (f := 117) rfl ?_); refine gl 10 Try.func117 #[.agg #[.int .i64 a0_0, .int .i64 a0_1, .int .i64 a0_2, .int .i64 a0_3], .agg #[.int .i64 a1_0, .int .i64 a1_1, .int .i64 a1_2, .int .i64 a1_3]] ?_; (with_reducible refine (impl_compareMats.calls _ _ _ _ _ _ _ _ _ _ _ A3.out).mono ?_); rintro e w20 ⟨rfl, hb⟩; refine ⟨_, rfl, ?_⟩; replace BK407 := bB BK407 hb; replace BK408 := bB BK408 hb; replace HB := bS2 HB GE407 GE408 hb; (try clear hb)))
  go_ret
  exact er (bbw2 HB GE407 GE408)

attribute [local go_sem high] eqA53
/-! ### mapMo: function 99999 -/
theorem mapMo.wide : (match Try.prog.underlying 55 with | some (.array _ _) | some (.struct _) => true | _ => false) = true := by rw [Try.underlying55]
set_option maxRecDepth 100000 in
theorem mapMo.law : Go.Maps.Keyed Try.prog 55 := Go.Maps.Keyed.of_law (deep_law_laid (P := Try.prog) (by kernel_rfl) (m := 3) (by omega) (of_decide_eq_true (by kernel_rfl)) (by kernel_rfl) mapMo.wide)
def mapMo.enc (x : S55) : Value := .agg #[.int .i64 x.f0.f0, .int .i64 x.f0.f1, .int .i64 x.f0.f2, .int .i64 x.f0.f3, .int .i64 x.f1.f0, .int .i64 x.f1.f1]
def mapMo.lits (x : S55) : List Lit := [.int .i64 x.f0.f0, .int .i64 x.f0.f1, .int .i64 x.f0.f2, .int .i64 x.f0.f3, .int .i64 x.f1.f0, .int .i64 x.f1.f1]
/-- Do a motion's numbers fit? -/
def mapMo.wf (x : S55) : Bool := (mapMo.lits x).all Lit.wf
def mapMo.kl (x : S55) : Lit := .string (keyBytes (mapMo.lits x))
theorem mapMo.hkey (x : S55) (h : mapMo.wf x = true) : keyOf Try.prog 55 (mapMo.enc x) = some (mapMo.kl x) := by
 simp only [mapMo.wf, mapMo.lits, List.all_cons, List.all_nil, Bool.and_true, Bool.and_eq_true] at h
 obtain ⟨h0, h1, h2, h3, h4, h5⟩ := h
 have k2 : ∀ (d : Nat) (n : Int), (Lit.int .i64 n).wf = true → Try.prog.keyLits (d + 1) 2 [.int .i64 n] = some [.int .i64 n] := fun d n hn => by
  simp [Program.keyLits, Try.underlying2, hn]
 have k34 : ∀ (d : Nat) (a b : Int), (Lit.int .i64 a).wf = true → (Lit.int .i64 b).wf = true → Try.prog.keyLits (d + 2) 53 [.int .i64 a, .int .i64 b] = some [.int .i64 a, .int .i64 b] := fun d a b ha hb => by
  unfold Program.keyLits
  rw [Try.underlying53]
  have c : Try.prog.cellsOf 53 = 2 := by kernel_rfl
  have c2 : Try.prog.cellsOf 2 = 1 := by kernel_rfl
  simp [c, c2, k2, ha, hb]
 have k33 : ∀ (d : Nat) (a b c e : Int), (Lit.int .i64 a).wf = true → (Lit.int .i64 b).wf = true → (Lit.int .i64 c).wf = true → (Lit.int .i64 e).wf = true → Try.prog.keyLits (d + 2) 51 [.int .i64 a, .int .i64 b, .int .i64 c, .int .i64 e] = some [.int .i64 a, .int .i64 b, .int .i64 c, .int .i64 e] := fun d a b c e ha hb hc he => by
  unfold Program.keyLits
  rw [Try.underlying51]
  have c' : Try.prog.cellsOf 51 = 4 := by kernel_rfl
  have c2 : Try.prog.cellsOf 2 = 1 := by kernel_rfl
  simp [c', c2, k2, ha, hb, hc, he]
 have hf : (mapMo.enc x).formed Try.prog 55 = true := by
  simp [Value.formed, mapMo.enc, Try.underlying55, show Try.prog.cellsOf 55 = 6 by kernel_rfl]
 have hk : Try.prog.keyType 55 = true := by kernel_rfl
 have hs : ∃ m, Try.prog.types.size = m + 2 := ⟨Try.prog.types.size - 2, by have : (2 : Nat) ≤ Try.prog.types.size := of_decide_eq_true (by kernel_rfl); omega⟩
 obtain ⟨m, hm⟩ := hs
 unfold keyOf
 rw [Try.underlying55, hm]
 dsimp only
 rw [hk, hf]
 unfold Program.keyLits
 rw [Try.underlying55]
 have c : Try.prog.cellsOf 55 = 6 := by kernel_rfl
 have c33 : Try.prog.cellsOf 51 = 4 := by kernel_rfl
 have c34 : Try.prog.cellsOf 53 = 2 := by kernel_rfl
 simp [mapMo.enc, Value.cells, c, c33, c34, k33, k34, h0, h1, h2, h3, h4, h5, mapMo.kl, mapMo.lits]
/-- Are two motions the same? -/
def mapMo.eqB (x y : S55) : Bool := x.f0.f0 == y.f0.f0 && (x.f0.f1 == y.f0.f1 && (x.f0.f2 == y.f0.f2 && (x.f0.f3 == y.f0.f3 && (x.f1.f0 == y.f1.f0 && x.f1.f1 == y.f1.f1))))
theorem mapMo.eqB_iff (x y : S55) : mapMo.eqB x y = true ↔ x = y := by
 obtain ⟨⟨a, b, c, d⟩, e, f⟩ := x
 obtain ⟨⟨a', b', c', d'⟩, e', f'⟩ := y
 simp only [mapMo.eqB, Bool.and_eq_true, beq_iff_eq]
 constructor
 ·rintro ⟨rfl, rfl, rfl, rfl, rfl, rfl⟩; rfl
 ·intro h; cases h; exact ⟨rfl, rfl, rfl, rfl, rfl, rfl⟩
theorem mapMo.enc_inj {x y : S55} (h : mapMo.enc x = mapMo.enc y) : x = y := by
 obtain ⟨⟨a, b, c, d⟩, e, f⟩ := x
 obtain ⟨⟨a', b', c', d'⟩, e', f'⟩ := y
 simp only [mapMo.enc, Value.agg.injEq, Array.mk.injEq, List.cons.injEq, Value.int.injEq, true_and, and_true] at h
 obtain ⟨rfl, rfl, rfl, rfl, rfl, rfl⟩ := h
 rfl
theorem mapMo.kl_inj {x y : S55} (hx : mapMo.wf x = true) (hy : mapMo.wf y = true) (h : mapMo.kl x = mapMo.kl y) : x = y := by
 have e1 := mapMo.hkey x hx
 have e2 := mapMo.hkey y hy
 rw [← h] at e2
 exact mapMo.enc_inj (mapMo.law.inj e1 e2)
/-- What the map reads as. -/
def mapMo.setD (xs : List S55) (D : DataW Unit) : DataW Unit := xs.foldl (fun D x => D.put (mapMo.kl x) (.lit (.bool true))) D
theorem mapMo.setD_at (y : S55) (hy : mapMo.wf y = true) : ∀ (xs : List S55) (D : DataW Unit) (b : Bool), (∀ x ∈ xs, mapMo.wf x = true) → Go.Maps.IsMap D → D.atKey (mapMo.kl y) (.lit (.bool false)) = .lit (.bool b) →
  (mapMo.setD xs D).atKey (mapMo.kl y) (.lit (.bool false)) = .lit (.bool (b || xs.any fun x => mapMo.eqB x y))
 | [], D, b, _, _, h => by simpa [mapMo.setD] using h
 | x :: xs, D, b, hw, hD, h => by
  have hx := hw x (List.mem_cons_self)
  have ih := mapMo.setD_at y hy xs (D.put (mapMo.kl x) (.lit (.bool true))) (b || mapMo.eqB x y) (fun z hz => hw z (List.mem_cons_of_mem _ hz)) (hD.put _ _) (by
   by_cases e : x = y
   ·subst e
    rw [Go.Maps.atKey_put_same hD (mapMo.law.key (mapMo.hkey x hx))]
    rw [(mapMo.eqB_iff x x).2 rfl, Bool.or_true]
   ·rw [Go.Maps.atKey_put_other (fun g => e (mapMo.kl_inj hx hy g.symm)), h]
    have : mapMo.eqB x y = false := Bool.eq_false_iff.2 (fun g => e ((mapMo.eqB_iff x y).1 g))
    rw [this, Bool.or_false])
  rw [List.any_cons, ← Bool.or_assoc]
  exact ih
/-- Block B is a map of the call's own whose keys are the motions of a list. -/
def mapMo.MS (w : World) (B : Nat) (xs : List S55) : Prop := (∀ x ∈ xs, mapMo.wf x = true) ∧ w.ownsMap Try.prog 55 (plainElem (H := Unit) Try.prog 4) B xs.length (mapMo.setD xs (.map []))
set_option maxRecDepth 100000 in
theorem mapMo.plain_inv {v : Value} {b : Bool} {ps : List MemPlace} (h : plainElem (H := Unit) Try.prog 4 v = some (.lit (.bool b), ps)) : v = .bool b := by
 unfold plainElem at h
 rw [Try.underlying4] at h
 cases v <;> simp at h
 rw [h.1]
theorem mapMo.MS_run {w : World} {B : Nat} {xs : List S55} (h : mapMo.MS w B xs) (y : S55) (hy : mapMo.wf y = true) :
  (Instr.lookup 103 (.map (some B)) (mapMo.enc y) false).run Try.prog w = .ok (.bool (xs.any fun x => mapMo.eqB x y)) w := by
 obtain ⟨v, ps, hrun, hv⟩ := h.2.lookup (e := 4) mapMo.law Try.underlying103 (z := .bool false) (by kernel_rfl) (plainElem_bool Try.underlying4 false) (mapMo.hkey y hy)
 rw [mapMo.setD_at y hy xs (.map []) false h.1 Go.Maps.isMap_empty rfl, Bool.false_or] at hv
 rw [hrun, mapMo.plain_inv hv]
theorem mapMo.MS_ne {w : World} {B : Nat} {xs : List S55} (h : mapMo.MS w B xs) {g : Nat} {cs : Array Value} {t : TypeId} {p : Nat × Nat} (b : w.heap[g]? = some (.cells cs t p)) : B ≠ g := by
 obtain ⟨-, es, clock, hb, -⟩ := h
 rintro rfl
 rw [hb] at b
 cases b
theorem mapMo.MS_move {w w1 : World} {B : Nat} {xs : List S55} (h : mapMo.MS w B xs) (hm : w1.heap[B]? = w.heap[B]?) : mapMo.MS w1 B xs := by
 obtain ⟨h0, es, clock, hb, r⟩ := h
 exact ⟨h0, es, clock, hm.trans hb, r⟩
theorem mapMo.MS_below {w w1 : World} {B : Nat} {xs : List S55} (h : mapMo.MS w B xs) (hb : Below w.heap.size w w1) : mapMo.MS w1 B xs := mapMo.MS_move h (hb.block B h.2.lt)
theorem mapMo.MS_alloc {w : World} {B : Nat} {xs : List S55} (h : mapMo.MS w B xs) (o : Obj) : mapMo.MS (w.alloc o) B xs := mapMo.MS_below h (below_alloc (Below.refl _ _) _)
theorem mapMo.MS_drewN {w : World} {B : Nat} {xs : List S55} (h : mapMo.MS w B xs) (n : Nat) : mapMo.MS (w.drewN n) B xs := h
theorem mapMo.MS_drew {w : World} {B : Nat} {xs : List S55} (h : mapMo.MS w B xs) : mapMo.MS w.drew B xs := h
theorem mapMo.MS_set {w : World} {B : Nat} {xs : List S55} {g j : Nat} {v : Value} (h : mapMo.MS w B xs) (hne : B ≠ g) : mapMo.MS (w.setCell ⟨g, j, none⟩ v) B xs := mapMo.MS_move h (Below.heap_setCell w _ v B hne)
theorem mapMo.R_map {α : Type} {d : Kd α} {e : Nat} {w w1 : World} {base : Nat} {ok : Nat → Prop} {v : Value} {l : List α} (h : d.R e w base ok v l) {B : Nat} {xs : List S55} (hM : mapMo.MS w B xs) (hg : w.grownBy w1 (some B)) : d.R e w1 base ok v l :=
 Kd.R_mono (Kd.R_move (Kd.R_bound h) (fun k hk => by
  obtain ⟨_, _, hlt, _, _, cs, hc⟩ := hk
  exact hg.block k hlt (fun e => (mapMo.MS_ne hM hc) (Option.some.inj e).symm))) (fun _ hk => hk.1)
/-- Is a motion among the map's keys? (Its numbers must fit.) -/
def mapMo.has (_ : Nat) (xs : List S55) (y0 y1 y2 y3 y4 y5 : Int) : Option Bool := if mapMo.wf ⟨⟨y0, y1, y2, y3⟩, ⟨y4, y5⟩⟩ = true then some (xs.any fun x => mapMo.eqB x ⟨⟨y0, y1, y2, y3⟩, ⟨y4, y5⟩⟩) else none
theorem mapMo.has_mono : ∀ (xs : List S55) (y0 y1 y2 y3 y4 y5 : Int) (k : Nat), LeO (mapMo.has k xs y0 y1 y2 y3 y4 y5) (mapMo.has (k + 1) xs y0 y1 y2 y3 y4 y5) := fun _ _ _ _ _ _ _ _ => LeO.refl _
theorem mapMo.has_inv {k : Nat} {xs : List S55} {y0 y1 y2 y3 y4 y5 : Int} {r : Bool} (A : mapMo.has k xs y0 y1 y2 y3 y4 y5 = some r) : mapMo.wf ⟨⟨y0, y1, y2, y3⟩, ⟨y4, y5⟩⟩ = true ∧ (xs.any fun x => mapMo.eqB x ⟨⟨y0, y1, y2, y3⟩, ⟨y4, y5⟩⟩) = r := by
 unfold mapMo.has at A
 by_cases h : mapMo.wf ⟨⟨y0, y1, y2, y3⟩, ⟨y4, y5⟩⟩ = true
 ·rw [if_pos h] at A; exact ⟨h, Option.some.inj A⟩
 ·rw [if_neg h] at A; cases A
theorem mapMo.blk_put {w w1 : World} {g : Nat} {cs : Array Value} {t : TypeId} (h : w.heap[g]? = some (.cells cs t (0, 0))) {B : Nat} {xs : List S55} (hM : mapMo.MS w B xs) (hg : w.grownBy w1 (some B)) : w1.heap[g]? = some (.cells cs t (0, 0)) :=
 (hg.block g (blk_lt h) (fun e => mapMo.MS_ne hM h (Option.some.inj e).symm)).trans h
theorem mapMo.below_put {w W w1 : World} {g : Nat} (h : Below w.heap.size w W) (hB : w.heap.size ≤ g) (hg : W.grownBy w1 (some g)) : Below w.heap.size w w1 :=
 h.trans ⟨hg.os, hg.tape, hg.output, hg.size, fun i hi => hg.block i (Nat.lt_of_lt_of_le hi h.size) (fun e => by have := Option.some.inj e; omega)⟩
section
variable {ops : Array Oper} {rest : List Oper} {o : Oper} {a : Act} {Q : Exit → Act → World → Prop} {Kc : Act → World → Prop} {W : World}
theorem mapMo.make_event (hgd : o.guard = none) {N : Tmp} (_hd : o.dst = some N) (hrun : (execOp a.eval o).run Try.prog W = .ok (.value (.map (some W.heap.size))) (W.alloc (.map #[] 0)))
  (h : ∀ g, g = W.heap.size → ∀ w1, mapMo.MS w1 g [] → Below W.heap.size W w1 → wpList Try.prog ops Q rest (a.put o.dst (.map (some g))) w1) : wpList Try.prog ops Q (o :: rest) a W :=
 Kd.event_run hgd hrun (h _ rfl _ ⟨fun _ hx => absurd hx (by simp), World.ownsMap_made W _ _ _⟩ (below_alloc (Below.refl _ _) _))
theorem mapMo.put_event (hgd : o.guard = none) (m x v : Operand) (hop : o.op = Op.mapUpdate 103 m x v) {B : Nat} {xs : List S55} (hm : a.eval m = .map (some B)) (hM : mapMo.MS W B xs) (y : S55) (hx : a.eval x = mapMo.enc y) (hv : a.eval v = .bool true) (hy : mapMo.wf y = true) (hn : xs.length < 2932031007402)
  (h : ∀ w1, mapMo.MS w1 B (xs ++ [y]) → W.grownBy w1 (some B) → wpList Try.prog ops Q rest (a.put o.dst undef) w1) : wpList Try.prog ops Q (o :: rest) a W :=
 wpList_mapUpdate_own W hgd m x v 103 hop 55 4 mapMo.law Try.underlying103 (plainElem (H := Unit) Try.prog 4) B xs.length _ hm hM.2 (by unfold maxLen; omega) _ _ _ hx hv (mapMo.hkey y hy) _ [] (plainElem_bool Try.underlying4 true)
  (fun w' h1 h2 => h w' ⟨fun z hz => by
   rcases List.mem_append.1 hz with hz | hz
   ·exact hM.1 z hz
   ·rw [List.mem_singleton.1 hz]; exact hy, by
   rw [List.length_append]
   unfold mapMo.setD at h1 ⊢
   rw [List.foldl_append]
   exact h1⟩ h2)
theorem mapMo.get_has {k : Nat} {xs : List S55} {y0 y1 y2 y3 y4 y5 : Int} {r : Bool} (A : mapMo.has k xs y0 y1 y2 y3 y4 y5 = some r) (hgd : o.guard = none) (m x : Operand) (hop : o.op = Op.lookup 103 m x false) {B : Nat} (hm : a.eval m = .map (some B)) (hM : mapMo.MS W B xs) (hx : a.eval x = mapMo.enc ⟨⟨y0, y1, y2, y3⟩, ⟨y4, y5⟩⟩)
  (h : wpList Try.prog ops Q rest (a.put o.dst (.bool r)) W) : wpList Try.prog ops Q (o :: rest) a W := by
 obtain ⟨hy, hr⟩ := mapMo.has_inv A
 subst hr
 exact Kd.event_run hgd (by simp [execOp, hop, hm, hx, mapMo.MS_run hM _ hy, Result.andThen]) h
theorem mapMo.get_step {k : Nat} {xs : List S55} {y0 y1 y2 y3 y4 y5 : Int} {r : Bool} (A : mapMo.has k xs y0 y1 y2 y3 y4 y5 = some r) (hw : Region.wanted o (yielded ops a.tmps) = true) {N : Option Tmp} (hN : o.dst = N) (m x : Operand) (hop : o.op = Op.lookup 103 m x false) {B : Nat} (hm : a.eval m = .map (some B)) (hM : mapMo.MS W B xs) (hx : a.eval x = mapMo.enc ⟨⟨y0, y1, y2, y3⟩, ⟨y4, y5⟩⟩)
  (h : Kc (a.put N (.bool r)) W) : if Region.wanted o (yielded ops a.tmps) = true then Oper.wp Try.prog o a W Kc Q else Kc (a.put N undef) W := by
 obtain ⟨hy, hr⟩ := mapMo.has_inv A
 subst hr
 subst hN
 exact event_step hw (by simp [execOp, hop, hm, hx, mapMo.MS_run hM _ hy, Result.andThen]) h
end
end Go.Proofs.Ytcchmdodifkloaa.PA
