/- Walks written by program: each Go function that the law reaches comes to the plain function beside it. -/
import Derived.Test.YtedmadofpdkekaaGreatPAx0
import Derived.Test.YtedmadofpdkekaaGreatPAx5
import Derived.Test.YtedmadofpdkekaaGreatPAx6
import Derived.Test.YtedmadofpdkekaaGreatPAx9
import Derived.Test.YtedmadofpdkekaaGreatPAx10
import Derived.Test.YtedmadofpdkekaaGreatPAx11
import Derived.Test.YtedmadofpdkekaaGreatPAx12
import Derived.Test.YtedmadofpdkekaaGreatPAx13
import Derived.Test.YtedmadofpdkekaaGreatPAx14
import Derived.Test.YtedmadofpdkekaaGreatPAx15
import Derived.Test.YtedmadofpdkekaaGreatPAx16
namespace Go.Proofs.YtedmadofpdkekaaGreat.PA
open Go.RowKit Go.Proofs.YtedmadofpdkekaaGreatW.PrintWords Go.Proofs.YtedmadofpdkekaaGreatW.PrintLast Go.Proofs.YtedmadofpdkekaaGreatW.PrintMore
attribute [local go_sem] max2_int min2_int max_two min_two max_three min_three max_four min_four   -- for this text's walks alone
set_option linter.unusedVariables false
set_option linter.unusedSimpArgs false

/-! ### spec_l11Reflects: function 34 -/
def spec_l11Reflects.j0 : Nat → Int → Int → Int → Int → Int → Int → Int → Int → Option (Bool)
 | 0, _, _, _, _, _, _, _, _ => none
 | k + 1, x663000, x663001, x663002, x663003, x663004, x663005, x666000, x666001 => (spec_l05Twice.f x663000 x663001 x663002 x663003 x663004 x663005).bind fun bt669 => ((spec_l01Divisor.f k x666000 x666001).bind fun t672 => ((spec_l01Divisor.f k bt669.1 bt669.2).bind fun t673 => ((spec_l01Mod.f t673 t672).bind fun t674 => (some (t674 == 0)))))
def spec_l11Reflects.f (k : Nat) (a0_0 : Int) (a0_1 : Int) (a0_2 : Int) (a1_0 : Int) (a1_1 : Int) (a1_2 : Int) (a1_3 : Int) (a1_4 : Int) (a1_5 : Int) : Option (Bool) := (spec_l11Invariant.f k a0_0 a0_1 a0_2 a1_0 a1_1 a1_2 a1_3 1).bind fun bt663 => ((spec_l11Centred.f k a0_0 a0_1 a0_2 a1_0 a1_1 a1_2 a1_3).bind fun t666 => (if t666 = true then (spec_l11Reflects.j0 k a1_0 a1_1 a1_2 a1_3 a1_4 a1_5 bt663.1 bt663.2) else ((spec_l01Scale.f bt663.1 bt663.2 2).bind fun bt667 => (spec_l11Reflects.j0 k a1_0 a1_1 a1_2 a1_3 a1_4 a1_5 bt667.1 bt667.2))))
set_option maxHeartbeats 8000000 in
set_option maxRecDepth 100000 in
theorem spec_l11Reflects.calls (k : Nat) (a0_0 : Int) (a0_1 : Int) (a0_2 : Int) (a1_0 : Int) (a1_1 : Int) (a1_2 : Int) (a1_3 : Int) (a1_4 : Int) (a1_5 : Int) (r : Bool) (w : World) (h : spec_l11Reflects.f k a0_0 a0_1 a0_2 a1_0 a1_1 a1_2 a1_3 a1_4 a1_5 = some r) :
  Calls Tryz.prog 34 #[.agg #[.int .i64 a0_0, .int .i64 a0_1, .int .i64 a0_2], .agg #[.int .i64 a1_0, .int .i64 a1_1, .int .i64 a1_2, .int .i64 a1_3, .int .i64 a1_4, .int .i64 a1_5]] w fun e w' => e = .returned (.bool r) ∧ Below w.heap.size w w' := by
 have hu25 := Tryz.underlying25
 have hu37 := Tryz.underlying37
 have hu27 := Tryz.underlying27
 have hu31 := Tryz.underlying31
 have HB := asd (Below.refl w.heap.size w)
 have H : ((spec_l11Invariant.f k a0_0 a0_1 a0_2 a1_0 a1_1 a1_2 a1_3 1).bind fun bt663 => ((spec_l11Centred.f k a0_0 a0_1 a0_2 a1_0 a1_1 a1_2 a1_3).bind fun t666 => (if t666 = true then (spec_l11Reflects.j0 k a1_0 a1_1 a1_2 a1_3 a1_4 a1_5 bt663.1 bt663.2) else ((spec_l01Scale.f bt663.1 bt663.2 2).bind fun bt667 => (spec_l11Reflects.j0 k a1_0 a1_1 a1_2 a1_3 a1_4 a1_5 bt667.1 bt667.2))))) = some r := h
 clear h
 obtain ⟨⟨t663, t664⟩, A3, H⟩ := ob H
 try dsimp only at H
 obtain ⟨t666, A4, H⟩ := ob H
 try dsimp only at H
 have HC5 := Aside0.mk H
 clear H
 go_enter Tryz.func34, Tryz.ntmps34
 go_upto_if 16 with (first | ((with_reducible refine gd 2 rfl ?_); refine bx #[.int .i64 a0_0, .int .i64 a0_1, .int .i64 a0_2] 25 ?_; intro gb661 hg w6 BK661 hb; have GE661 := ngw0 hg HB; replace HB := bS0 HB hb; clear hb hg) | ((with_reducible refine gd 3 rfl ?_); refine bx #[.int .i64 a1_0, .int .i64 a1_1, .int .i64 a1_2, .int .i64 a1_3, .int .i64 a1_4, .int .i64 a1_5] 37 ?_; intro gb662 hg w7 BK662 hb; have GE662 := ngw1 hg HB GE661; replace HB := bS1 HB GE661 hb; have NB661_662 := nlt hg BK661; have NB662_661 := nsy (nlt hg BK661); replace BK661 := bB BK661 hb; clear hb hg; have hnb8 := NB661_662.out; have hnc8 := NB662_661.out; obtain ⟨hcz9_0, hcz9_1, hcz9_2, hfz9_0, hfz9_1, hfz9_2⟩ := bz3 BK661; obtain ⟨hcz10_0, hcz10_1, hcz10_2, hcz10_3, hcz10_4, hcz10_5, hfz10_0, hfz10_1, hfz10_2, hfz10_3, hfz10_4, hfz10_5⟩ := bz6 BK662) | ((with_reducible refine gate_callee (f := 25) rfl ?_); refine gl 11 Tryz.func25 #[.agg #[.int .i64 a0_0, .int .i64 a0_1, .int .i64 a0_2], .agg #[.int .i64 a1_0, .int .i64 a1_1, .int .i64 a1_2, .int .i64 a1_3], .int .i64 1] ?_; (with_reducible refine (spec_l11Invariant.calls _ _ _ _ _ _ _ _ _ _ _ _ A3.out).mono ?_); rintro e w11 ⟨rfl, hb⟩; refine ⟨_, rfl, ?_⟩; replace BK661 := bB BK661 hb; replace BK662 := bB BK662 hb; replace HB := bS2 HB GE661 GE662 hb; (try clear hb)) | ((with_reducible refine gd 5 rfl ?_); refine bx #[.int .i64 0, .int .i64 0] 31 ?_; intro gb665 hg w12 BK665 hb; have GE665 := ngw2 hg HB GE661 GE662; replace HB := bS2 HB GE661 GE662 hb; have NB661_665 := nlt hg BK661; have NB665_661 := nsy (nlt hg BK661); replace BK661 := bB BK661 hb; have NB662_665 := nlt hg BK662; have NB665_662 := nsy (nlt hg BK662); replace BK662 := bB BK662 hb; clear hb hg; have hnb13 := NB665_661.out; have hnc13 := NB661_665.out; have hnb14 := NB665_662.out; have hnc14 := NB662_665.out; obtain ⟨hcz15_0, hcz15_1, hfz15_0, hfz15_1⟩ := bz2 BK665; obtain ⟨hcz16_0, hcz16_1, hcz16_2, hfz16_0, hfz16_1, hfz16_2⟩ := bz3 BK661; obtain ⟨hcz17_0, hcz17_1, hcz17_2, hcz17_3, hcz17_4, hcz17_5, hfz17_0, hfz17_1, hfz17_2, hfz17_3, hfz17_4, hfz17_5⟩ := bz6 BK662) | ((with_reducible refine gate_callee (f := 27) rfl ?_); refine gl 15 Tryz.func27 #[.agg #[.int .i64 a0_0, .int .i64 a0_1, .int .i64 a0_2], .agg #[.int .i64 a1_0, .int .i64 a1_1, .int .i64 a1_2, .int .i64 a1_3]] ?_; (with_reducible refine (spec_l11Centred.calls _ _ _ _ _ _ _ _ _ _ A4.out).mono ?_); rintro e w18 ⟨rfl, hb⟩; refine ⟨_, rfl, ?_⟩; replace BK661 := asd (blk_below (g := gb661) (o := .cells #[.int .i64 a0_0, .int .i64 a0_1, .int .i64 a0_2] 25 (0, 0)) (bq1 BK661 NB661_665) hb); replace BK662 := asd (blk_below (g := gb662) (o := .cells #[.int .i64 a1_0, .int .i64 a1_1, .int .i64 a1_2, .int .i64 a1_3, .int .i64 a1_4, .int .i64 a1_5] 37 (0, 0)) (bq1 BK662 NB662_665) hb); replace BK665 := asd (blk_below (g := gb665) (o := .cells #[.int .i64 t663, .int .i64 t664] 31 (0, 0)) (bq0 BK665) hb); replace HB := bS3 HB GE661 GE662 GE665 hb; (try clear hb)))
 (try simp only [Act.put, sA, sB, sC])
 go_cut [] (fun wc => ∃ (kq : Nat) (x666000_4 : Int) (x666001_4 : Int), Aside0 (spec_l11Reflects.j0 kq a1_0 a1_1 a1_2 a1_3 a1_4 a1_5 x666000_4 x666001_4 = some r) ∧ Aside0 (kq ≤ k) ∧ Aside0 (wc.heap[gb661]? = some (.cells #[.int .i64 a0_0, .int .i64 a0_1, .int .i64 a0_2] 25 (0, 0))) ∧ Aside0 (wc.heap[gb662]? = some (.cells #[.int .i64 a1_0, .int .i64 a1_1, .int .i64 a1_2, .int .i64 a1_3, .int .i64 a1_4, .int .i64 a1_5] 37 (0, 0))) ∧ Aside0 (wc.heap[gb665]? = some (.cells #[.int .i64 x666000_4, .int .i64 x666001_4] 31 (0, 0))) ∧ Aside0 (Below w.heap.size w wc))
 case first =>
  have H := HC5.out
  clear HC5
  by_cases c19 : t666 = true
  ·subst c19
   replace H := ifT H
   have H' := Aside0.mk H
   clear H
   go_wp2
   go_meet
   case rel => exact ⟨_, (t663), (t664), H', ⟨by first | omega | exact Nat.le_refl _⟩, ⟨bkp BK661⟩, ⟨bkp BK662⟩, ⟨bkp BK665⟩, ⟨bbw3 HB GE661 GE662 GE665⟩⟩
  ·replace c19 := Bool.eq_false_iff.mpr c19
   subst c19
   replace H := ifF H
   obtain ⟨⟨t667, t668⟩, A20, H⟩ := ob H
   try dsimp only at H
   have H' := Aside0.mk H
   clear H
   have hnb21 := NB665_661.out
   have hnc21 := NB661_665.out
   have hnb22 := NB665_662.out
   have hnc22 := NB662_665.out
   obtain ⟨hcz23_0, hcz23_1, hfz23_0, hfz23_1⟩ := bz2 BK665
   go_wp2_with (first | ((with_reducible refine gate_callee (f := 54) rfl ?_); refine gl 18 Tryz.func54 #[.agg #[.int .i64 t663, .int .i64 t664], .int .i64 2] ?_; (with_reducible refine (spec_l01Scale.calls _ _ _ _ _ _ A20.out).mono ?_); rintro e w24 ⟨rfl, hb⟩; refine ⟨_, rfl, ?_⟩; replace BK661 := bB BK661 hb; replace BK662 := bB BK662 hb; replace BK665 := bB BK665 hb; replace HB := bS3 HB GE661 GE662 GE665 hb; (try clear hb); obtain ⟨hcz25_0, hcz25_1, hfz25_0, hfz25_1⟩ := bz2 BK665))
   go_meet
   case rel => exact ⟨_, (t667), (t668), H', ⟨by first | omega | exact Nat.le_refl _⟩, ⟨bq1 BK661 NB661_665⟩, ⟨bq1 BK662 NB662_665⟩, ⟨bq0 BK665⟩, ⟨bbw3 HB GE661 GE662 GE665⟩⟩
 case rest =>
  clear HC5
  try clear c1
  try clear c2
  try clear p2
  try clear c3
  try clear c5
  try clear c8
  try clear c13
  try clear c14
  try clear c19
  try clear c21
  try clear c22
  try clear c25
  try clear hcz10_0
  try clear hcz10_1
  try clear hcz10_2
  try clear hcz10_3
  try clear hcz10_4
  try clear hcz10_5
  try clear hcz15_0
  try clear hcz15_1
  try clear hcz16_0
  try clear hcz16_1
  try clear hcz16_2
  try clear hcz17_0
  try clear hcz17_1
  try clear hcz17_2
  try clear hcz17_3
  try clear hcz17_4
  try clear hcz17_5
  try clear hcz23_0
  try clear hcz23_1
  try clear hcz25_0
  try clear hcz25_1
  try clear hcz9_0
  try clear hcz9_1
  try clear hcz9_2
  try clear hfz10_0
  try clear hfz10_1
  try clear hfz10_2
  try clear hfz10_3
  try clear hfz10_4
  try clear hfz10_5
  try clear hfz15_0
  try clear hfz15_1
  try clear hfz16_0
  try clear hfz16_1
  try clear hfz16_2
  try clear hfz17_0
  try clear hfz17_1
  try clear hfz17_2
  try clear hfz17_3
  try clear hfz17_4
  try clear hfz17_5
  try clear hfz23_0
  try clear hfz23_1
  try clear hfz25_0
  try clear hfz25_1
  try clear hfz9_0
  try clear hfz9_1
  try clear hfz9_2
  obtain ⟨kq, x666000_4, x666001_4, HA, HJ4, BK661, BK662, BK665, HB⟩ := hcut
  cases kq with
  | zero => exact absurd HA.out (by simp [spec_l11Reflects.j0])
  | succ kj4 =>
   have H := HA.out
   clear HA
   simp only [spec_l11Reflects.j0] at H
   obtain ⟨⟨t669, t670⟩, A26, H⟩ := ob H
   try dsimp only at H
   obtain ⟨t672, A27, H⟩ := ob H
   try dsimp only at H
   obtain ⟨t673, A28, H⟩ := ob H
   try dsimp only at H
   obtain ⟨t674, A29, H⟩ := ob H
   try dsimp only at H
   obtain rfl := Option.some.inj H
   have hnb30 := NB662_661.out
   have hnc30 := NB661_662.out
   have hnb31 := NB662_665.out
   have hnc31 := NB665_662.out
   obtain ⟨hcz32_0, hcz32_1, hcz32_2, hcz32_3, hcz32_4, hcz32_5, hfz32_0, hfz32_1, hfz32_2, hfz32_3, hfz32_4, hfz32_5⟩ := bz6 BK662
   go_wp2_with (first | ((with_reducible refine gate_callee (f := 69) rfl ?_); refine gl 20 Tryz.func69 #[.agg #[.int .i64 a1_0, .int .i64 a1_1, .int .i64 a1_2, .int .i64 a1_3, .int .i64 a1_4, .int .i64 a1_5]] ?_; (with_reducible refine (spec_l05Twice.calls _ _ _ _ _ _ _ _ _ A26.out).mono ?_); rintro e w33 ⟨rfl, hb⟩; refine ⟨_, rfl, ?_⟩; replace BK661 := bB BK661 hb; replace BK662 := bB BK662 hb; replace BK665 := bB BK665 hb; replace HB := bS3 HB GE661 GE662 GE665 hb; (try clear hb)) | ((with_reducible refine gd 6 rfl ?_); refine bx #[.int .i64 0, .int .i64 0] 31 ?_; intro gb671 hg w34 BK671 hb; have GE671 := ngw3 hg HB GE661 GE662 GE665; replace HB := bS3 HB GE661 GE662 GE665 hb; have NB661_671 := nlt hg BK661; have NB671_661 := nsy (nlt hg BK661); replace BK661 := bB BK661 hb; have NB662_671 := nlt hg BK662; have NB671_662 := nsy (nlt hg BK662); replace BK662 := bB BK662 hb; have NB665_671 := nlt hg BK665; have NB671_665 := nsy (nlt hg BK665); replace BK665 := bB BK665 hb; clear hb hg; have hnb35 := NB671_661.out; have hnc35 := NB661_671.out; have hnb36 := NB671_662.out; have hnc36 := NB662_671.out; have hnb37 := NB671_665.out; have hnc37 := NB665_671.out; obtain ⟨hcz38_0, hcz38_1, hfz38_0, hfz38_1⟩ := bz2 BK671; have hnb39 := NB665_661.out; have hnc39 := NB661_665.out; obtain ⟨hcz40_0, hcz40_1, hfz40_0, hfz40_1⟩ := bz2 BK665) | ((with_reducible refine gate_callee (f := 70) rfl ?_); refine gl 25 Tryz.func70 #[.int .i64 x666000_4, .int .i64 x666001_4] ?_; (with_reducible refine (spec_l01Divisor.calls _ _ _ _ _ A27.out).mono ?_); rintro e w41 ⟨rfl, hb⟩; refine ⟨_, rfl, ?_⟩; replace BK661 := asd (blk_below (g := gb661) (o := .cells #[.int .i64 a0_0, .int .i64 a0_1, .int .i64 a0_2] 25 (0, 0)) (bq1 BK661 NB661_671) hb); replace BK662 := asd (blk_below (g := gb662) (o := .cells #[.int .i64 a1_0, .int .i64 a1_1, .int .i64 a1_2, .int .i64 a1_3, .int .i64 a1_4, .int .i64 a1_5] 37 (0, 0)) (bq1 BK662 NB662_671) hb); replace BK665 := asd (blk_below (g := gb665) (o := .cells #[.int .i64 x666000_4, .int .i64 x666001_4] 31 (0, 0)) (bq1 BK665 NB665_671) hb); replace BK671 := asd (blk_below (g := gb671) (o := .cells #[.int .i64 t669, .int .i64 t670] 31 (0, 0)) (bq0 BK671) hb); replace HB := bS4 HB GE661 GE662 GE665 GE671 hb; (try clear hb); obtain ⟨hcz42_0, hcz42_1, hfz42_0, hfz42_1⟩ := bz2 BK671) | ((with_reducible refine gate_callee (f := 70) rfl ?_); refine gl 30 Tryz.func70 #[.int .i64 t669, .int .i64 t670] ?_; (with_reducible refine (spec_l01Divisor.calls _ _ _ _ _ A28.out).mono ?_); rintro e w43 ⟨rfl, hb⟩; refine ⟨_, rfl, ?_⟩; replace BK661 := bB BK661 hb; replace BK662 := bB BK662 hb; replace BK665 := bB BK665 hb; replace BK671 := bB BK671 hb; replace HB := bS4 HB GE661 GE662 GE665 GE671 hb; (try clear hb)) | ((with_reducible refine gate_callee (f := 71) rfl ?_); refine gl 32 Tryz.func71 #[.int .i64 t673, .int .i64 t672] ?_; (with_reducible refine (spec_l01Mod.calls _ _ _ _ A29.out).mono ?_); rintro e w' ⟨rfl, ⟨nd, rfl⟩⟩; refine ⟨_, rfl, ?_⟩))
   go_ret
   exact er (bbw4 HB GE661 GE662 GE665 GE671)
/-! ### spec_MayReflect: function 12 -/
def spec_MayReflect.f (k : Nat) (a0 : Int) (a1_0 : Int) (a1_1 : Int) (a1_2 : Int) (a2_0 : Int) (a2_1 : Int) (a2_2 : Int) (a2_3 : Int) (a2_4 : Int) (a2_5 : Int) : Option (Bool × Int) := (spec_IsSuitable.f k a0 a1_0 a1_1 a1_2 a2_0 a2_1 a2_2 a2_3 a2_4 a2_5).bind fun t677 => ((spec_l06Code.f a0 a1_0 a1_1 a1_2 t677).bind fun t678 => (if t678 = 0 then ((spec_l02Det.f a2_0 a2_1 a2_2 a2_3).bind fun t679 => (if t679 = (-1) then ((spec_l11Reflects.f k a1_0 a1_1 a1_2 a2_0 a2_1 a2_2 a2_3 a2_4 a2_5).bind fun t680 => (some (t680, 0))) else (some (false, 0)))) else (some (false, t678))))
def spec_MayReflect.T1 : Bool × List (List Nat × List Nat) := (true, [([], []), ([], []), ([], []), ([], []), ([], []), ([2, 3, 4], [2, 3, 4]), ([0, 1, 5, 5], [0, 1, 5]), ([6, 6, 0, 1, 2, 3, 4, 5, 6], [6])])
def spec_MayReflect.B1 : List Nat := [0, 0, 0, 0, 0, 28, 63, 127]
theorem spec_MayReflect.tab1 : rtab .any (opsOf Tryz.f12 1) = spec_MayReflect.T1 := by kernel_rfl
theorem spec_MayReflect.bits1 : waitsOk spec_MayReflect.T1.2 spec_MayReflect.B1 = true := by kernel_rfl
set_option maxHeartbeats 8000000 in
set_option maxRecDepth 100000 in
theorem spec_MayReflect.calls (k : Nat) (a0 : Int) (a1_0 : Int) (a1_1 : Int) (a1_2 : Int) (a2_0 : Int) (a2_1 : Int) (a2_2 : Int) (a2_3 : Int) (a2_4 : Int) (a2_5 : Int) (r1 : Bool) (r2 : Int) (w : World) (h : spec_MayReflect.f k a0 a1_0 a1_1 a1_2 a2_0 a2_1 a2_2 a2_3 a2_4 a2_5 = some (r1, r2)) :
  Calls Tryz.prog 12 #[.int .i64 a0, .agg #[.int .i64 a1_0, .int .i64 a1_1, .int .i64 a1_2], .agg #[.int .i64 a2_0, .int .i64 a2_1, .int .i64 a2_2, .int .i64 a2_3, .int .i64 a2_4, .int .i64 a2_5]] w fun e w' => e = .returned (.tuple #[.bool r1, .int .i64 r2]) ∧ Below w.heap.size w w' := by
 have hu25 := Tryz.underlying25
 have hu37 := Tryz.underlying37
 have hu27 := Tryz.underlying27
 have HB := asd (Below.refl w.heap.size w)
 have H : ((spec_IsSuitable.f k a0 a1_0 a1_1 a1_2 a2_0 a2_1 a2_2 a2_3 a2_4 a2_5).bind fun t677 => ((spec_l06Code.f a0 a1_0 a1_1 a1_2 t677).bind fun t678 => (if t678 = 0 then ((spec_l02Det.f a2_0 a2_1 a2_2 a2_3).bind fun t679 => (if t679 = (-1) then ((spec_l11Reflects.f k a1_0 a1_1 a1_2 a2_0 a2_1 a2_2 a2_3 a2_4 a2_5).bind fun t680 => (some (t680, 0))) else (some (false, 0)))) else (some (false, t678))))) = some (r1, r2) := h
 clear h
 obtain ⟨t677, A4, H⟩ := ob H
 try dsimp only at H
 obtain ⟨t678, A5, H⟩ := ob H
 try dsimp only at H
 by_cases c6 : t678 = 0
 rw [if_pos c6] at H
 have c6b0 : (t678 == 0) = true := beq_iff_eq.mpr c6
 have c6b1 : (t678 != 0) = false := bne_eq_false_iff_eq.mpr c6
 clear c6
 obtain ⟨t679, A7, H⟩ := ob H
 try dsimp only at H
 by_cases c8 : t679 = (-1)
 rw [if_pos c8] at H
 have c8b0 : (t679 == (-1)) = true := beq_iff_eq.mpr c8
 have c8b1 : (t679 != (-1)) = false := bne_eq_false_iff_eq.mpr c8
 clear c8
 obtain ⟨t680, A9, H⟩ := ob H
 try dsimp only at H
 rotate_left
 rw [if_neg c8] at H
 have c8b0 : (t679 == (-1)) = false := beq_eq_false_iff_ne.mpr c8
 have c8b1 : (t679 != (-1)) = true := bne_iff_ne.mpr c8
 rotate_left
 rw [if_neg c6] at H
 have c6b0 : (t678 == 0) = false := beq_eq_false_iff_ne.mpr c6
 have c6b1 : (t678 != 0) = true := bne_iff_ne.mpr c6
 rotate_left
 all_goals
  simp only [Option.some.injEq, Prod.mk.injEq] at H
  obtain ⟨rfl, rfl⟩ := H
  go_enter Tryz.func12, Tryz.ntmps12
  try go_wp2_with (first | ((with_reducible refine gd 4 rfl ?_); refine bx #[.int .i64 a1_0, .int .i64 a1_1, .int .i64 a1_2] 25 ?_; intro gb675 hg w10 BK675 hb; have GE675 := ngw0 hg HB; replace HB := bS0 HB hb; clear hb hg) | ((with_reducible refine gd 5 rfl ?_); refine bx #[.int .i64 a2_0, .int .i64 a2_1, .int .i64 a2_2, .int .i64 a2_3, .int .i64 a2_4, .int .i64 a2_5] 37 ?_; intro gb676 hg w11 BK676 hb; have GE676 := ngw1 hg HB GE675; replace HB := bS1 HB GE675 hb; have NB675_676 := nlt hg BK675; have NB676_675 := nsy (nlt hg BK675); replace BK675 := bB BK675 hb; clear hb hg))
  replace BK675 := asd (blk_drew BK675.out)
  replace BK676 := asd (blk_drew BK676.out)
  replace HB := asd (below_drew1 HB.out)
  refine sh 8 (cb3 BK675 (eb6 BK676)) (fun hHeld => ?_); refine with_tabW spec_MayReflect.tab1 spec_MayReflect.bits1 (fun HT_ HW_ => ?_)
  generalize w11.drew = w12 at BK675 BK676 HB hHeld ⊢
  refine pu 0 (some 9) (bT 8 1) HT_ ?_
  refine pu 2 (some 11) (bs 8 5) HT_ ?_
  refine ta 1 (some 10) (bT 8 3) HT_ HW_ hHeld ?_
  refine ta 3 (some 12) (bT 8 4) HT_ HW_ hHeld ?_
  refine ta 4 (some 13) (bT 8 5) HT_ HW_ hHeld ?_
  refine ro 5 (some 14) (bT 8 6) HT_ (fun K hK => ?_)
  refine gs Tryz.func32 #[.int .i64 a0, .agg #[.int .i64 a1_0, .int .i64 a1_1, .int .i64 a1_2], .agg #[.int .i64 a2_0, .int .i64 a2_1, .int .i64 a2_2, .int .i64 a2_3, .int .i64 a2_4, .int .i64 a2_5]] ?_
  with_reducible refine (spec_IsSuitable.calls _ _ _ _ _ _ _ _ _ _ _ _ _ A4.out).mono ?_
  rintro e w13 ⟨rfl, hb⟩
  refine ⟨_, rfl, ?_⟩
  replace BK675 := bB BK675 hb
  replace BK676 := bB BK676 hb
  replace HB := bS2 HB GE675 GE676 hb
  (try clear hb)
  (try clear hb2)
  (try clear hk)
  (try clear hi)
  refine hK.out _ _ (cb3 BK675 (eb6 BK676)).out (fun hHeld => ?_)
  clear hK K
  refine norm_ (a' := ?_) ?_ ?_
  rotate_left
  ·show Act.put _ (some 14) _ = _
   simp only [Act.put, sA, sB, sC, i64_w, i32_w]
   rfl
  refine ro 6 (some 15) (bT 8 7) HT_ (fun K hK => ?_)
  refine gs Tryz.func23 #[.int .i64 a0, .agg #[.int .i64 a1_0, .int .i64 a1_1, .int .i64 a1_2], .bool t677] ?_
  with_reducible refine (spec_l06Code.calls _ _ _ _ _ _ _ A5.out).mono ?_
  rintro e w14 ⟨rfl, hb⟩
  refine ⟨_, rfl, ?_⟩
  replace BK675 := bB BK675 hb
  replace BK676 := bB BK676 hb
  replace HB := bS2 HB GE675 GE676 hb
  (try clear hb)
  (try clear hb2)
  (try clear hk)
  (try clear hi)
  refine hK.out _ _ (cb3 BK675 (eb6 BK676)).out (fun hHeld => ?_)
  clear hK K
  refine norm_ (a' := ?_) ?_ ?_
  rotate_left
  ·show Act.put _ (some 15) _ = _
   simp only [Act.put, sA, sB, sC, i64_w, i32_w]
   rfl
  refine pu 7 (some 8) (bT 8 8) HT_ ?_
  refine done_ (done_of HT_.out (by kernel_rfl)) ?_
 rotate_left 2
 ·try go_wp2
  go_ret2
  exact er (bbw2 HB GE675 GE676)
 all_goals
  have hnb15 := NB676_675.out
  have hnc15 := NB675_676.out
  obtain ⟨hcz16_0, hcz16_1, hcz16_2, hcz16_3, hcz16_4, hcz16_5, hfz16_0, hfz16_1, hfz16_2, hfz16_3, hfz16_4, hfz16_5⟩ := bz6 BK676
 ·try go_wp2_with (first | ((with_reducible refine gate_callee (f := 33) rfl ?_); refine gl 21 Tryz.func33 #[.agg #[.int .i64 a2_0, .int .i64 a2_1, .int .i64 a2_2, .int .i64 a2_3]] ?_; (with_reducible refine (spec_l02Det.calls _ _ _ _ _ _ A7.out).mono ?_); rintro e w17 ⟨rfl, hb⟩; refine ⟨_, rfl, ?_⟩; replace BK675 := bB BK675 hb; replace BK676 := bB BK676 hb; replace HB := bS2 HB GE675 GE676 hb; (try clear hb); obtain ⟨hcz18_0, hcz18_1, hcz18_2, hfz18_0, hfz18_1, hfz18_2⟩ := bz3 BK675; obtain ⟨hcz19_0, hcz19_1, hcz19_2, hcz19_3, hcz19_4, hcz19_5, hfz19_0, hfz19_1, hfz19_2, hfz19_3, hfz19_4, hfz19_5⟩ := bz6 BK676) | (go_at_call 34; (with_reducible refine (spec_l11Reflects.calls _ _ _ _ _ _ _ _ _ _ _ _ A9.out).mono ?_); rintro e w20 ⟨rfl, hb⟩; replace BK675 := bB BK675 hb; replace BK676 := bB BK676 hb; replace HB := bS2 HB GE675 GE676 hb; (try clear hb)))
  go_ret2
  exact er (bbw2 HB GE675 GE676)
 ·try go_wp2_with (first | ((with_reducible refine gate_callee (f := 33) rfl ?_); refine gl 21 Tryz.func33 #[.agg #[.int .i64 a2_0, .int .i64 a2_1, .int .i64 a2_2, .int .i64 a2_3]] ?_; (with_reducible refine (spec_l02Det.calls _ _ _ _ _ _ A7.out).mono ?_); rintro e w28 ⟨rfl, hb⟩; refine ⟨_, rfl, ?_⟩; replace BK675 := bB BK675 hb; replace BK676 := bB BK676 hb; replace HB := bS2 HB GE675 GE676 hb; (try clear hb)))
  go_ret2
  exact er (bbw2 HB GE675 GE676)
/-! ### impl_Lattice_reduceMotion: function 35 -/
def impl_Lattice_reduceMotion.f (a0_0 : Int) (a0_1 : Int) (a0_2 : Int) (a1_0 : Int) (a1_1 : Int) (a1_2 : Int) (a1_3 : Int) (a1_4 : Int) (a1_5 : Int) : Option (Int × Int × Int × Int × Int × Int) := (impl_Lattice_reduce.f a0_0 a0_1 a0_2 a1_4 a1_5).bind fun bt684 => (some (a1_0, a1_1, a1_2, a1_3, bt684.1, bt684.2))
def impl_Lattice_reduceMotion.T1 : Bool × List (List Nat × List Nat) := (true, [([], []), ([0], [0]), ([], []), ([], []), ([3], [3]), ([2, 4], [2, 4]), ([1, 5], [1, 5]), ([6, 5, 0, 1, 2, 3, 4, 5, 6], [6])])
def impl_Lattice_reduceMotion.B1 : List Nat := [0, 1, 0, 0, 8, 28, 63, 127]
theorem impl_Lattice_reduceMotion.tab1 : rtab .any (opsOf Tryz.f35 1) = impl_Lattice_reduceMotion.T1 := by kernel_rfl
theorem impl_Lattice_reduceMotion.bits1 : waitsOk impl_Lattice_reduceMotion.T1.2 impl_Lattice_reduceMotion.B1 = true := by kernel_rfl
set_option maxHeartbeats 8000000 in
set_option maxRecDepth 100000 in
theorem impl_Lattice_reduceMotion.calls (a0_0 : Int) (a0_1 : Int) (a0_2 : Int) (a1_0 : Int) (a1_1 : Int) (a1_2 : Int) (a1_3 : Int) (a1_4 : Int) (a1_5 : Int) (r1 : Int) (r2 : Int) (r3 : Int) (r4 : Int) (r5 : Int) (r6 : Int) (w : World) (h : impl_Lattice_reduceMotion.f a0_0 a0_1 a0_2 a1_0 a1_1 a1_2 a1_3 a1_4 a1_5 = some (r1, r2, r3, r4, r5, r6)) :
  Calls Tryz.prog 35 #[.agg #[.int .i64 a0_0, .int .i64 a0_1, .int .i64 a0_2], .agg #[.int .i64 a1_0, .int .i64 a1_1, .int .i64 a1_2, .int .i64 a1_3, .int .i64 a1_4, .int .i64 a1_5]] w fun e w' => e = .returned (.agg #[.int .i64 r1, .int .i64 r2, .int .i64 r3, .int .i64 r4, .int .i64 r5, .int .i64 r6]) ∧ Below w.heap.size w w' := by
 have hu25 := Tryz.underlying25
 have hu37 := Tryz.underlying37
 have hu27 := Tryz.underlying27
 have hu31 := Tryz.underlying31
 have HB := asd (Below.refl w.heap.size w)
 have H : ((impl_Lattice_reduce.f a0_0 a0_1 a0_2 a1_4 a1_5).bind fun bt684 => (some (a1_0, a1_1, a1_2, a1_3, bt684.1, bt684.2))) = some (r1, r2, r3, r4, r5, r6) := h
 clear h
 obtain ⟨⟨t684, t685⟩, A3, H⟩ := ob H
 try dsimp only at H
 simp only [Option.some.injEq, Prod.mk.injEq] at H
 obtain ⟨rfl, rfl, rfl, rfl, rfl, rfl⟩ := H
 go_enter Tryz.func35, Tryz.ntmps35
 try go_wp2_with (first | ((with_reducible refine gd 2 rfl ?_); refine bx #[.int .i64 a0_0, .int .i64 a0_1, .int .i64 a0_2] 25 ?_; intro gb681 hg w4 BK681 hb; have GE681 := ngw0 hg HB; replace HB := bS0 HB hb; clear hb hg) | ((with_reducible refine gd 3 rfl ?_); refine bx #[.int .i64 a1_0, .int .i64 a1_1, .int .i64 a1_2, .int .i64 a1_3, .int .i64 a1_4, .int .i64 a1_5] 37 ?_; intro gb682 hg w5 BK682 hb; have GE682 := ngw1 hg HB GE681; replace HB := bS1 HB GE681 hb; have NB681_682 := nlt hg BK681; have NB682_681 := nsy (nlt hg BK681); replace BK681 := bB BK681 hb; clear hb hg) | ((with_reducible refine gd 4 rfl ?_); refine bx #[.int .i64 0, .int .i64 0, .int .i64 0, .int .i64 0, .int .i64 0, .int .i64 0] 37 ?_; intro gb683 hg w6 BK683 hb; have GE683 := ngw2 hg HB GE681 GE682; replace HB := bS2 HB GE681 GE682 hb; have NB681_683 := nlt hg BK681; have NB683_681 := nsy (nlt hg BK681); replace BK681 := bB BK681 hb; have NB682_683 := nlt hg BK682; have NB683_682 := nsy (nlt hg BK682); replace BK682 := bB BK682 hb; clear hb hg))
 replace BK681 := asd (blk_drew BK681.out)
 replace BK682 := asd (blk_drew BK682.out)
 replace BK683 := asd (blk_drew BK683.out)
 replace HB := asd (below_drew1 HB.out)
 refine sh 8 (cb6 BK682 (eb3 BK681)) (fun hHeld => ?_); refine with_tabW impl_Lattice_reduceMotion.tab1 impl_Lattice_reduceMotion.bits1 (fun HT_ HW_ => ?_)
 generalize w6.drew = w7 at BK681 BK682 BK683 HB hHeld ⊢
 refine pu 0 (some 5) (bT 8 1) HT_ ?_
 refine pu 3 (some 8) (bs 8 9) HT_ ?_
 refine ta 1 (some 6) (bs 8 11) HT_ HW_ hHeld ?_
 refine ta 2 (some 7) (bT 8 4) HT_ HW_ hHeld ?_
 refine ta 4 (some 9) (bT 8 5) HT_ HW_ hHeld ?_
 refine ro 5 (some 10) (bT 8 6) HT_ (fun K hK => ?_)
 refine gs Tryz.func72 #[.agg #[.int .i64 a0_0, .int .i64 a0_1, .int .i64 a0_2], .agg #[.int .i64 a1_4, .int .i64 a1_5]] ?_
 with_reducible refine (impl_Lattice_reduce.calls _ _ _ _ _ _ _ _ A3.out).mono ?_
 rintro e w8 ⟨rfl, hb⟩
 refine ⟨_, rfl, ?_⟩
 replace BK681 := bB BK681 hb
 replace BK682 := bB BK682 hb
 replace BK683 := bB BK683 hb
 replace HB := bS3 HB GE681 GE682 GE683 hb
 (try clear hb)
 (try clear hb2)
 (try clear hk)
 (try clear hi)
 refine hK.out _ _ (cb6 BK682 (eb3 BK681)).out (fun hHeld => ?_)
 clear hK K
 refine norm_ (a' := ?_) ?_ ?_
 rotate_left
 ·show Act.put _ (some 10) _ = _
  simp only [Act.put, sA, sB, sC, i64_w, i32_w]
  rfl
 refine pu 6 (some 11) (bT 8 7) HT_ ?_
 refine ro 7 (none) (bT 8 8) HT_ (fun K hK => ?_)
 have hs9 : w8.cell? ⟨gb683, 0, none⟩ = some (.int .i64 0) := bcl BK683 0
 have hfs9 := blk_frozen BK683.out 0
 have hns9_0 := NB681_683.out
 have hns9_1 := NB682_683.out
 have hms9_0 := NB683_681.out
 have hms9_1 := NB683_682.out
 have hs10 : w8.cell? ⟨gb683, 1, none⟩ = some (.int .i64 0) := bcl BK683 1
 have hfs10 := blk_frozen BK683.out 1
 have hns10_0 := NB681_683.out
 have hns10_1 := NB682_683.out
 have hms10_0 := NB683_681.out
 have hms10_1 := NB683_682.out
 have hs11 : w8.cell? ⟨gb683, 2, none⟩ = some (.int .i64 0) := bcl BK683 2
 have hfs11 := blk_frozen BK683.out 2
 have hns11_0 := NB681_683.out
 have hns11_1 := NB682_683.out
 have hms11_0 := NB683_681.out
 have hms11_1 := NB683_682.out
 have hs12 : w8.cell? ⟨gb683, 3, none⟩ = some (.int .i64 0) := bcl BK683 3
 have hfs12 := blk_frozen BK683.out 3
 have hns12_0 := NB681_683.out
 have hns12_1 := NB682_683.out
 have hms12_0 := NB683_681.out
 have hms12_1 := NB683_682.out
 have hs13 : w8.cell? ⟨gb683, 4, none⟩ = some (.int .i64 0) := bcl BK683 4
 have hfs13 := blk_frozen BK683.out 4
 have hns13_0 := NB681_683.out
 have hns13_1 := NB682_683.out
 have hms13_0 := NB683_681.out
 have hms13_1 := NB683_682.out
 have hs14 : w8.cell? ⟨gb683, 5, none⟩ = some (.int .i64 0) := bcl BK683 5
 have hfs14 := blk_frozen BK683.out 5
 have hns14_0 := NB681_683.out
 have hns14_1 := NB682_683.out
 have hms14_0 := NB683_681.out
 have hms14_1 := NB683_682.out
 refine skip_ (w1 := ?_) (by rfl) rfl ?_ ?_
 rotate_left
 ·go_simp
  rfl
 refine hK.out _ _ ⟨(cf6 NB682_683 (hHeld.1)), (cf6 NB682_683 (hHeld.2.1)), (cf6 NB682_683 (hHeld.2.2.1)), (cf6 NB682_683 (hHeld.2.2.2.1)), (cf6 NB682_683 (hHeld.2.2.2.2.1)), (cf6 NB682_683 (hHeld.2.2.2.2.2.1)), (cf6 NB681_683 (hHeld.2.2.2.2.2.2.1)), (cf6 NB681_683 (hHeld.2.2.2.2.2.2.2.1)), (cf6 NB681_683 (hHeld.2.2.2.2.2.2.2.2))⟩ (fun hHeld => ?_)
 clear hK K
 refine done_ (done_of HT_.out (by kernel_rfl)) ?_
 try go_wp2
 refine bodyPost_ret (results_cell_row rfl _ _ gb683 37 #[.int .i64 a1_0, .int .i64 a1_1, .int .i64 a1_2, .int .i64 a1_3, .int .i64 t684, .int .i64 t685] (0, 0) _ rfl (bq0 BK683) Tryz.underlying37 rfl (by kernel_rfl)) rfl ?_
 exact er (bbw3 HB GE681 GE682 GE683)
/-! ### impl_ReduceMotion: function 13 -/
def impl_ReduceMotion.f (k : Nat) (a0 : Int) (a1_0 : Int) (a1_1 : Int) (a1_2 : Int) (a2_0 : Int) (a2_1 : Int) (a2_2 : Int) (a2_3 : Int) (a2_4 : Int) (a2_5 : Int) : Option (Int × Int × Int × Int × Int × Int × Int) := (impl_frameCode.f a0 a1_0 a1_1 a1_2).bind fun t689 => (if t689 = 0 then ((impl_isSuitable.f k a0 a1_0 a1_1 a1_2 a2_0 a2_1 a2_2 a2_3 a2_4 a2_5).bind fun t690 => (if t690 = true then ((impl_Lattice_reduceMotion.f a1_0 a1_1 a1_2 a2_0 a2_1 a2_2 a2_3 a2_4 a2_5).bind fun bt691 => (some (bt691.1, bt691.2.1, bt691.2.2.1, bt691.2.2.2.1, bt691.2.2.2.2.1, bt691.2.2.2.2.2, 0))) else (some (0, 0, 0, 0, 0, 0, 2)))) else (some (0, 0, 0, 0, 0, 0, t689)))
set_option maxHeartbeats 8000000 in
set_option maxRecDepth 100000 in
theorem impl_ReduceMotion.calls (k : Nat) (a0 : Int) (a1_0 : Int) (a1_1 : Int) (a1_2 : Int) (a2_0 : Int) (a2_1 : Int) (a2_2 : Int) (a2_3 : Int) (a2_4 : Int) (a2_5 : Int) (r1 : Int) (r2 : Int) (r3 : Int) (r4 : Int) (r5 : Int) (r6 : Int) (r7 : Int) (w : World) (h : impl_ReduceMotion.f k a0 a1_0 a1_1 a1_2 a2_0 a2_1 a2_2 a2_3 a2_4 a2_5 = some (r1, r2, r3, r4, r5, r6, r7)) :
  Calls Tryz.prog 13 #[.int .i64 a0, .agg #[.int .i64 a1_0, .int .i64 a1_1, .int .i64 a1_2], .agg #[.int .i64 a2_0, .int .i64 a2_1, .int .i64 a2_2, .int .i64 a2_3, .int .i64 a2_4, .int .i64 a2_5]] w fun e w' => e = .returned (.tuple #[.agg #[.int .i64 r1, .int .i64 r2, .int .i64 r3, .int .i64 r4, .int .i64 r5, .int .i64 r6], .int .i64 r7]) ∧ Below w.heap.size w w' := by
 have hu25 := Tryz.underlying25
 have hu37 := Tryz.underlying37
 have HB := asd (Below.refl w.heap.size w)
 have H : ((impl_frameCode.f a0 a1_0 a1_1 a1_2).bind fun t689 => (if t689 = 0 then ((impl_isSuitable.f k a0 a1_0 a1_1 a1_2 a2_0 a2_1 a2_2 a2_3 a2_4 a2_5).bind fun t690 => (if t690 = true then ((impl_Lattice_reduceMotion.f a1_0 a1_1 a1_2 a2_0 a2_1 a2_2 a2_3 a2_4 a2_5).bind fun bt691 => (some (bt691.1, bt691.2.1, bt691.2.2.1, bt691.2.2.2.1, bt691.2.2.2.2.1, bt691.2.2.2.2.2, 0))) else (some (0, 0, 0, 0, 0, 0, 2)))) else (some (0, 0, 0, 0, 0, 0, t689)))) = some (r1, r2, r3, r4, r5, r6, r7) := h
 clear h
 obtain ⟨t689, A4, H⟩ := ob H
 try dsimp only at H
 by_cases c5 : t689 = 0
 ·rw [if_pos c5] at H
  have c5b0 : (t689 == 0) = true := beq_iff_eq.mpr c5
  have c5b1 : (t689 != 0) = false := bne_eq_false_iff_eq.mpr c5
  clear c5
  obtain ⟨t690, A6, H⟩ := ob H
  try dsimp only at H
  by_cases c7 : t690 = true
  ·subst c7
   replace H := ifT H
   obtain ⟨⟨t691, t692, t693, t694, t695, t696⟩, A8, H⟩ := ob H
   try dsimp only at H
   simp only [Option.some.injEq, Prod.mk.injEq] at H
   obtain ⟨rfl, rfl, rfl, rfl, rfl, rfl, rfl⟩ := H
   go_enter Tryz.func13, Tryz.ntmps13
   go_wp2_with (first | ((with_reducible refine gd 4 rfl ?_); refine bx #[.int .i64 a1_0, .int .i64 a1_1, .int .i64 a1_2] 25 ?_; intro gb686 hg w9 BK686 hb; have GE686 := ngw0 hg HB; replace HB := bS0 HB hb; clear hb hg) | ((with_reducible refine gd 5 rfl ?_); refine bx #[.int .i64 a2_0, .int .i64 a2_1, .int .i64 a2_2, .int .i64 a2_3, .int .i64 a2_4, .int .i64 a2_5] 37 ?_; intro gb687 hg w10 BK687 hb; have GE687 := ngw1 hg HB GE686; replace HB := bS1 HB GE686 hb; have NB686_687 := nlt hg BK686; have NB687_686 := nsy (nlt hg BK686); replace BK686 := bB BK686 hb; clear hb hg) | ((with_reducible refine gd 6 rfl ?_); refine bx #[.int .i64 0, .int .i64 0, .int .i64 0, .int .i64 0, .int .i64 0, .int .i64 0] 37 ?_; intro gb688 hg w11 BK688 hb; have GE688 := ngw2 hg HB GE686 GE687; replace HB := bS2 HB GE686 GE687 hb; have NB686_688 := nlt hg BK686; have NB688_686 := nsy (nlt hg BK686); replace BK686 := bB BK686 hb; have NB687_688 := nlt hg BK687; have NB688_687 := nsy (nlt hg BK687); replace BK687 := bB BK687 hb; clear hb hg; have hnb12 := NB686_687.out; have hnc12 := NB687_686.out; have hnb13 := NB686_688.out; have hnc13 := NB688_686.out; obtain ⟨hcz14_0, hcz14_1, hcz14_2, hfz14_0, hfz14_1, hfz14_2⟩ := bz3 BK686) | ((with_reducible refine gate_callee (f := 29) rfl ?_); refine gl 11 Tryz.func29 #[.int .i64 a0, .agg #[.int .i64 a1_0, .int .i64 a1_1, .int .i64 a1_2]] ?_; (with_reducible refine (impl_frameCode.calls _ _ _ _ _ _ A4.out).mono ?_); rintro e w15 ⟨rfl, hb⟩; refine ⟨_, rfl, ?_⟩; replace BK686 := bB BK686 hb; replace BK687 := bB BK687 hb; replace BK688 := bB BK688 hb; replace HB := bS3 HB GE686 GE687 GE688 hb; (try clear hb); obtain ⟨hcz16_0, hcz16_1, hcz16_2, hfz16_0, hfz16_1, hfz16_2⟩ := bz3 BK686; have hnb17 := NB687_688.out; have hnc17 := NB688_687.out; obtain ⟨hcz18_0, hcz18_1, hcz18_2, hcz18_3, hcz18_4, hcz18_5, hfz18_0, hfz18_1, hfz18_2, hfz18_3, hfz18_4, hfz18_5⟩ := bz6 BK687) | ((with_reducible refine gate_callee (f := 30) rfl ?_); refine gl 19 Tryz.func30 #[.int .i64 a0, .agg #[.int .i64 a1_0, .int .i64 a1_1, .int .i64 a1_2], .agg #[.int .i64 a2_0, .int .i64 a2_1, .int .i64 a2_2, .int .i64 a2_3, .int .i64 a2_4, .int .i64 a2_5]] ?_; (with_reducible refine (impl_isSuitable.calls _ _ _ _ _ _ _ _ _ _ _ _ _ A6.out).mono ?_); rintro e w19 ⟨rfl, hb⟩; refine ⟨_, rfl, ?_⟩; replace BK686 := bB BK686 hb; replace BK687 := bB BK687 hb; replace BK688 := bB BK688 hb; replace HB := bS3 HB GE686 GE687 GE688 hb; (try clear hb); obtain ⟨hcz20_0, hcz20_1, hcz20_2, hfz20_0, hfz20_1, hfz20_2⟩ := bz3 BK686; obtain ⟨hcz21_0, hcz21_1, hcz21_2, hcz21_3, hcz21_4, hcz21_5, hfz21_0, hfz21_1, hfz21_2, hfz21_3, hfz21_4, hfz21_5⟩ := bz6 BK687) | ((with_reducible refine gate_callee (f := 35) rfl ?_); refine gl 24 Tryz.func35 #[.agg #[.int .i64 a1_0, .int .i64 a1_1, .int .i64 a1_2], .agg #[.int .i64 a2_0, .int .i64 a2_1, .int .i64 a2_2, .int .i64 a2_3, .int .i64 a2_4, .int .i64 a2_5]] ?_; (with_reducible refine (impl_Lattice_reduceMotion.calls _ _ _ _ _ _ _ _ _ _ _ _ _ _ _ _ A8.out).mono ?_); rintro e w22 ⟨rfl, hb⟩; refine ⟨_, rfl, ?_⟩; replace BK686 := bB BK686 hb; replace BK687 := bB BK687 hb; replace BK688 := bB BK688 hb; replace HB := bS3 HB GE686 GE687 GE688 hb; (try clear hb); obtain ⟨hcz23_0, hcz23_1, hcz23_2, hcz23_3, hcz23_4, hcz23_5, hfz23_0, hfz23_1, hfz23_2, hfz23_3, hfz23_4, hfz23_5⟩ := bz6 BK688))
   refine bodyPost_ret (results_ct rfl _ _ gb688 37 #[.int .i64 t691, .int .i64 t692, .int .i64 t693, .int .i64 t694, .int .i64 t695, .int .i64 t696] (0, 0) _ rfl (bq0 BK688) Tryz.underlying37 rfl (by kernel_rfl)) rfl ?_
   exact er (bbw3 HB GE686 GE687 GE688)
  ·replace c7 := Bool.eq_false_iff.mpr c7
   subst c7
   replace H := ifF H
   simp only [Option.some.injEq, Prod.mk.injEq] at H
   obtain ⟨rfl, rfl, rfl, rfl, rfl, rfl, rfl⟩ := H
   go_enter Tryz.func13, Tryz.ntmps13
   go_wp2_with (first | ((with_reducible refine gd 4 rfl ?_); refine bx #[.int .i64 a1_0, .int .i64 a1_1, .int .i64 a1_2] 25 ?_; intro gb686 hg w24 BK686 hb; have GE686 := ngw0 hg HB; replace HB := bS0 HB hb; clear hb hg) | ((with_reducible refine gd 5 rfl ?_); refine bx #[.int .i64 a2_0, .int .i64 a2_1, .int .i64 a2_2, .int .i64 a2_3, .int .i64 a2_4, .int .i64 a2_5] 37 ?_; intro gb687 hg w25 BK687 hb; have GE687 := ngw1 hg HB GE686; replace HB := bS1 HB GE686 hb; have NB686_687 := nlt hg BK686; have NB687_686 := nsy (nlt hg BK686); replace BK686 := bB BK686 hb; clear hb hg) | ((with_reducible refine gd 6 rfl ?_); refine bx #[.int .i64 0, .int .i64 0, .int .i64 0, .int .i64 0, .int .i64 0, .int .i64 0] 37 ?_; intro gb688 hg w26 BK688 hb; have GE688 := ngw2 hg HB GE686 GE687; replace HB := bS2 HB GE686 GE687 hb; have NB686_688 := nlt hg BK686; have NB688_686 := nsy (nlt hg BK686); replace BK686 := bB BK686 hb; have NB687_688 := nlt hg BK687; have NB688_687 := nsy (nlt hg BK687); replace BK687 := bB BK687 hb; clear hb hg; have hnb27 := NB686_687.out; have hnc27 := NB687_686.out; have hnb28 := NB686_688.out; have hnc28 := NB688_686.out; obtain ⟨hcz29_0, hcz29_1, hcz29_2, hfz29_0, hfz29_1, hfz29_2⟩ := bz3 BK686) | ((with_reducible refine gate_callee (f := 29) rfl ?_); refine gl 11 Tryz.func29 #[.int .i64 a0, .agg #[.int .i64 a1_0, .int .i64 a1_1, .int .i64 a1_2]] ?_; (with_reducible refine (impl_frameCode.calls _ _ _ _ _ _ A4.out).mono ?_); rintro e w30 ⟨rfl, hb⟩; refine ⟨_, rfl, ?_⟩; replace BK686 := bB BK686 hb; replace BK687 := bB BK687 hb; replace BK688 := bB BK688 hb; replace HB := bS3 HB GE686 GE687 GE688 hb; (try clear hb); obtain ⟨hcz31_0, hcz31_1, hcz31_2, hfz31_0, hfz31_1, hfz31_2⟩ := bz3 BK686; have hnb32 := NB687_688.out; have hnc32 := NB688_687.out; obtain ⟨hcz33_0, hcz33_1, hcz33_2, hcz33_3, hcz33_4, hcz33_5, hfz33_0, hfz33_1, hfz33_2, hfz33_3, hfz33_4, hfz33_5⟩ := bz6 BK687) | ((with_reducible refine gate_callee (f := 30) rfl ?_); refine gl 19 Tryz.func30 #[.int .i64 a0, .agg #[.int .i64 a1_0, .int .i64 a1_1, .int .i64 a1_2], .agg #[.int .i64 a2_0, .int .i64 a2_1, .int .i64 a2_2, .int .i64 a2_3, .int .i64 a2_4, .int .i64 a2_5]] ?_; (with_reducible refine (impl_isSuitable.calls _ _ _ _ _ _ _ _ _ _ _ _ _ A6.out).mono ?_); rintro e w34 ⟨rfl, hb⟩; refine ⟨_, rfl, ?_⟩; replace BK686 := bB BK686 hb; replace BK687 := bB BK687 hb; replace BK688 := bB BK688 hb; replace HB := bS3 HB GE686 GE687 GE688 hb; (try clear hb); obtain ⟨hcz35_0, hcz35_1, hcz35_2, hcz35_3, hcz35_4, hcz35_5, hfz35_0, hfz35_1, hfz35_2, hfz35_3, hfz35_4, hfz35_5⟩ := bz6 BK688))
   refine bodyPost_ret (results_ct rfl _ _ gb688 37 #[.int .i64 0, .int .i64 0, .int .i64 0, .int .i64 0, .int .i64 0, .int .i64 0] (0, 0) _ rfl (bq0 BK688) Tryz.underlying37 rfl (by kernel_rfl)) rfl ?_
   exact er (bbw3 HB GE686 GE687 GE688)
 ·rw [if_neg c5] at H
  have c5b0 : (t689 == 0) = false := beq_eq_false_iff_ne.mpr c5
  have c5b1 : (t689 != 0) = true := bne_iff_ne.mpr c5
  simp only [Option.some.injEq, Prod.mk.injEq] at H
  obtain ⟨rfl, rfl, rfl, rfl, rfl, rfl, rfl⟩ := H
  go_enter Tryz.func13, Tryz.ntmps13
  go_wp2_with (first | ((with_reducible refine gd 4 rfl ?_); refine bx #[.int .i64 a1_0, .int .i64 a1_1, .int .i64 a1_2] 25 ?_; intro gb686 hg w36 BK686 hb; have GE686 := ngw0 hg HB; replace HB := bS0 HB hb; clear hb hg) | ((with_reducible refine gd 5 rfl ?_); refine bx #[.int .i64 a2_0, .int .i64 a2_1, .int .i64 a2_2, .int .i64 a2_3, .int .i64 a2_4, .int .i64 a2_5] 37 ?_; intro gb687 hg w37 BK687 hb; have GE687 := ngw1 hg HB GE686; replace HB := bS1 HB GE686 hb; have NB686_687 := nlt hg BK686; have NB687_686 := nsy (nlt hg BK686); replace BK686 := bB BK686 hb; clear hb hg) | ((with_reducible refine gd 6 rfl ?_); refine bx #[.int .i64 0, .int .i64 0, .int .i64 0, .int .i64 0, .int .i64 0, .int .i64 0] 37 ?_; intro gb688 hg w38 BK688 hb; have GE688 := ngw2 hg HB GE686 GE687; replace HB := bS2 HB GE686 GE687 hb; have NB686_688 := nlt hg BK686; have NB688_686 := nsy (nlt hg BK686); replace BK686 := bB BK686 hb; have NB687_688 := nlt hg BK687; have NB688_687 := nsy (nlt hg BK687); replace BK687 := bB BK687 hb; clear hb hg; have hnb39 := NB686_687.out; have hnc39 := NB687_686.out; have hnb40 := NB686_688.out; have hnc40 := NB688_686.out; obtain ⟨hcz41_0, hcz41_1, hcz41_2, hfz41_0, hfz41_1, hfz41_2⟩ := bz3 BK686) | ((with_reducible refine gate_callee (f := 29) rfl ?_); refine gl 11 Tryz.func29 #[.int .i64 a0, .agg #[.int .i64 a1_0, .int .i64 a1_1, .int .i64 a1_2]] ?_; (with_reducible refine (impl_frameCode.calls _ _ _ _ _ _ A4.out).mono ?_); rintro e w42 ⟨rfl, hb⟩; refine ⟨_, rfl, ?_⟩; replace BK686 := bB BK686 hb; replace BK687 := bB BK687 hb; replace BK688 := bB BK688 hb; replace HB := bS3 HB GE686 GE687 GE688 hb; (try clear hb); have hnb43 := NB688_687.out; have hnc43 := NB687_688.out; obtain ⟨hcz44_0, hcz44_1, hcz44_2, hcz44_3, hcz44_4, hcz44_5, hfz44_0, hfz44_1, hfz44_2, hfz44_3, hfz44_4, hfz44_5⟩ := bz6 BK688))
  refine bodyPost_ret (results_ct rfl _ _ gb688 37 #[.int .i64 0, .int .i64 0, .int .i64 0, .int .i64 0, .int .i64 0, .int .i64 0] (0, 0) _ rfl (bq0 BK688) Tryz.underlying37 rfl (by kernel_rfl)) rfl ?_
  exact er (bbw3 HB GE686 GE687 GE688)

/-! ### impl_Mat_isRotation: function 103 -/
def impl_Mat_isRotation.f (k : Nat) (a0_0 : Int) (a0_1 : Int) (a0_2 : Int) (a0_3 : Int) : Option (Bool) := (impl_Mat_det.f a0_0 a0_1 a0_2 a0_3).bind fun t698 => (if t698 = 1 then ((impl_Mat_order.f k a0_0 a0_1 a0_2 a0_3).bind fun t699 => (some (decide (t699 > 0)))) else (some false))
set_option maxHeartbeats 8000000 in
set_option maxRecDepth 100000 in
theorem impl_Mat_isRotation.calls (k : Nat) (a0_0 : Int) (a0_1 : Int) (a0_2 : Int) (a0_3 : Int) (r : Bool) (w : World) (h : impl_Mat_isRotation.f k a0_0 a0_1 a0_2 a0_3 = some r) :
  Calls Tryz.prog 103 #[.agg #[.int .i64 a0_0, .int .i64 a0_1, .int .i64 a0_2, .int .i64 a0_3]] w fun e w' => e = .returned (.bool r) ∧ Below w.heap.size w w' := by
 have hu27 := Tryz.underlying27
 have HB := asd (Below.refl w.heap.size w)
 have H : ((impl_Mat_det.f a0_0 a0_1 a0_2 a0_3).bind fun t698 => (if t698 = 1 then ((impl_Mat_order.f k a0_0 a0_1 a0_2 a0_3).bind fun t699 => (some (decide (t699 > 0)))) else (some false))) = some r := h
 clear h
 obtain ⟨t698, A2, H⟩ := ob H
 try dsimp only at H
 by_cases c3 : t698 = 1
 ·rw [if_pos c3] at H
  have c3b0 : (t698 == 1) = true := beq_iff_eq.mpr c3
  have c3b1 : (t698 != 1) = false := bne_eq_false_iff_eq.mpr c3
  clear c3
  obtain ⟨t699, A4, H⟩ := ob H
  try dsimp only at H
  obtain rfl := Option.some.inj H
  go_enter Tryz.func103, Tryz.ntmps103
  go_wp2_with (first | ((with_reducible refine gd 1 rfl ?_); refine bx #[.int .i64 a0_0, .int .i64 a0_1, .int .i64 a0_2, .int .i64 a0_3] 27 ?_; intro gb697 hg w5 BK697 hb; have GE697 := ngw0 hg HB; replace HB := bS0 HB hb; clear hb hg; obtain ⟨hcz6_0, hcz6_1, hcz6_2, hcz6_3, hfz6_0, hfz6_1, hfz6_2, hfz6_3⟩ := bz4 BK697) | ((with_reducible refine gate_callee (f := 75) rfl ?_); refine gl 4 Tryz.func75 #[.agg #[.int .i64 a0_0, .int .i64 a0_1, .int .i64 a0_2, .int .i64 a0_3]] ?_; (with_reducible refine (impl_Mat_det.calls _ _ _ _ _ _ A2.out).mono ?_); rintro e w7 ⟨rfl, hb⟩; refine ⟨_, rfl, ?_⟩; replace BK697 := bB BK697 hb; replace HB := bS1 HB GE697 hb; (try clear hb); obtain ⟨hcz8_0, hcz8_1, hcz8_2, hcz8_3, hfz8_0, hfz8_1, hfz8_2, hfz8_3⟩ := bz4 BK697) | (go_at_call 87; (with_reducible refine (impl_Mat_order.calls _ _ _ _ _ _ _ A4.out).mono ?_); rintro e w9 ⟨rfl, hb⟩; replace BK697 := bB BK697 hb; replace HB := bS1 HB GE697 hb; (try clear hb)))
  go_ret
  exact er (bbw1 HB GE697)
 ·rw [if_neg c3] at H
  have c3b0 : (t698 == 1) = false := beq_eq_false_iff_ne.mpr c3
  have c3b1 : (t698 != 1) = true := bne_iff_ne.mpr c3
  obtain rfl := Option.some.inj H
  go_enter Tryz.func103, Tryz.ntmps103
  go_wp2_with (first | ((with_reducible refine gd 1 rfl ?_); refine bx #[.int .i64 a0_0, .int .i64 a0_1, .int .i64 a0_2, .int .i64 a0_3] 27 ?_; intro gb697 hg w10 BK697 hb; have GE697 := ngw0 hg HB; replace HB := bS0 HB hb; clear hb hg; obtain ⟨hcz11_0, hcz11_1, hcz11_2, hcz11_3, hfz11_0, hfz11_1, hfz11_2, hfz11_3⟩ := bz4 BK697) | ((with_reducible refine gate_callee (f := 75) rfl ?_); refine gl 4 Tryz.func75 #[.agg #[.int .i64 a0_0, .int .i64 a0_1, .int .i64 a0_2, .int .i64 a0_3]] ?_; (with_reducible refine (impl_Mat_det.calls _ _ _ _ _ _ A2.out).mono ?_); rintro e w12 ⟨rfl, hb⟩; refine ⟨_, rfl, ?_⟩; replace BK697 := bB BK697 hb; replace HB := bS1 HB GE697 hb; (try clear hb)))
  go_ret
  exact er (bbw1 HB GE697)
/-! ### impl_Mat_isTurn: function 73 -/
def impl_Mat_isTurn.f (k : Nat) (a0_0 : Int) (a0_1 : Int) (a0_2 : Int) (a0_3 : Int) : Option (Bool) := (impl_Mat_isRotation.f k a0_0 a0_1 a0_2 a0_3).bind fun t701 => (if t701 = true then (some true) else ((impl_Mat_isReflection.f k a0_0 a0_1 a0_2 a0_3).bind fun t702 => (some t702)))
set_option maxHeartbeats 8000000 in
set_option maxRecDepth 100000 in
theorem impl_Mat_isTurn.calls (k : Nat) (a0_0 : Int) (a0_1 : Int) (a0_2 : Int) (a0_3 : Int) (r : Bool) (w : World) (h : impl_Mat_isTurn.f k a0_0 a0_1 a0_2 a0_3 = some r) :
  Calls Tryz.prog 73 #[.agg #[.int .i64 a0_0, .int .i64 a0_1, .int .i64 a0_2, .int .i64 a0_3]] w fun e w' => e = .returned (.bool r) ∧ Below w.heap.size w w' := by
 have hu27 := Tryz.underlying27
 have HB := asd (Below.refl w.heap.size w)
 have H : ((impl_Mat_isRotation.f k a0_0 a0_1 a0_2 a0_3).bind fun t701 => (if t701 = true then (some true) else ((impl_Mat_isReflection.f k a0_0 a0_1 a0_2 a0_3).bind fun t702 => (some t702)))) = some r := h
 clear h
 obtain ⟨t701, A2, H⟩ := ob H
 try dsimp only at H
 by_cases c3 : t701 = true
 ·subst c3
  replace H := ifT H
  obtain rfl := Option.some.inj H
  go_enter Tryz.func73, Tryz.ntmps73
  go_wp2_with (first | ((with_reducible refine gd 1 rfl ?_); refine bx #[.int .i64 a0_0, .int .i64 a0_1, .int .i64 a0_2, .int .i64 a0_3] 27 ?_; intro gb700 hg w4 BK700 hb; have GE700 := ngw0 hg HB; replace HB := bS0 HB hb; clear hb hg; obtain ⟨hcz5_0, hcz5_1, hcz5_2, hcz5_3, hfz5_0, hfz5_1, hfz5_2, hfz5_3⟩ := bz4 BK700) | ((with_reducible refine gate_callee (f := 103) rfl ?_); refine gl 4 Tryz.func103 #[.agg #[.int .i64 a0_0, .int .i64 a0_1, .int .i64 a0_2, .int .i64 a0_3]] ?_; (with_reducible refine (impl_Mat_isRotation.calls _ _ _ _ _ _ _ A2.out).mono ?_); rintro e w6 ⟨rfl, hb⟩; refine ⟨_, rfl, ?_⟩; replace BK700 := bB BK700 hb; replace HB := bS1 HB GE700 hb; (try clear hb)))
  go_ret
  exact er (bbw1 HB GE700)
 ·replace c3 := Bool.eq_false_iff.mpr c3
  subst c3
  replace H := ifF H
  obtain ⟨t702, A7, H⟩ := ob H
  try dsimp only at H
  obtain rfl := Option.some.inj H
  go_enter Tryz.func73, Tryz.ntmps73
  go_wp2_with (first | ((with_reducible refine gd 1 rfl ?_); refine bx #[.int .i64 a0_0, .int .i64 a0_1, .int .i64 a0_2, .int .i64 a0_3] 27 ?_; intro gb700 hg w8 BK700 hb; have GE700 := ngw0 hg HB; replace HB := bS0 HB hb; clear hb hg; obtain ⟨hcz9_0, hcz9_1, hcz9_2, hcz9_3, hfz9_0, hfz9_1, hfz9_2, hfz9_3⟩ := bz4 BK700) | ((with_reducible refine gate_callee (f := 103) rfl ?_); refine gl 4 Tryz.func103 #[.agg #[.int .i64 a0_0, .int .i64 a0_1, .int .i64 a0_2, .int .i64 a0_3]] ?_; (with_reducible refine (impl_Mat_isRotation.calls _ _ _ _ _ _ _ A2.out).mono ?_); rintro e w10 ⟨rfl, hb⟩; refine ⟨_, rfl, ?_⟩; replace BK700 := bB BK700 hb; replace HB := bS1 HB GE700 hb; (try clear hb); obtain ⟨hcz11_0, hcz11_1, hcz11_2, hcz11_3, hfz11_0, hfz11_1, hfz11_2, hfz11_3⟩ := bz4 BK700) | (go_at_call 49; (with_reducible refine (impl_Mat_isReflection.calls _ _ _ _ _ _ _ A7.out).mono ?_); rintro e w12 ⟨rfl, hb⟩; replace BK700 := bB BK700 hb; replace HB := bS1 HB GE700 hb; (try clear hb)))
  go_ret
  exact er (bbw1 HB GE700)
/-! ### impl_IsMotion: function 36 -/
def impl_IsMotion.f (k : Nat) (a0_0 : Int) (a0_1 : Int) (a0_2 : Int) (a0_3 : Int) (a0_4 : Int) (a0_5 : Int) : Option (Bool) := (impl_IsMat.f a0_0 a0_1 a0_2 a0_3).bind fun t704 => (if t704 = true then ((impl_Mat_isTurn.f k a0_0 a0_1 a0_2 a0_3).bind fun t705 => (if t705 = true then ((impl_IsVec.f a0_4 a0_5).bind fun t706 => (some t706)) else (some false))) else (some false))
set_option maxHeartbeats 8000000 in
set_option maxRecDepth 100000 in
theorem impl_IsMotion.calls (k : Nat) (a0_0 : Int) (a0_1 : Int) (a0_2 : Int) (a0_3 : Int) (a0_4 : Int) (a0_5 : Int) (r : Bool) (w : World) (h : impl_IsMotion.f k a0_0 a0_1 a0_2 a0_3 a0_4 a0_5 = some r) :
  Calls Tryz.prog 36 #[.agg #[.int .i64 a0_0, .int .i64 a0_1, .int .i64 a0_2, .int .i64 a0_3, .int .i64 a0_4, .int .i64 a0_5]] w fun e w' => e = .returned (.bool r) ∧ Below w.heap.size w w' := by
 have hu37 := Tryz.underlying37
 have hu27 := Tryz.underlying27
 have hu31 := Tryz.underlying31
 have HB := asd (Below.refl w.heap.size w)
 have H : ((impl_IsMat.f a0_0 a0_1 a0_2 a0_3).bind fun t704 => (if t704 = true then ((impl_Mat_isTurn.f k a0_0 a0_1 a0_2 a0_3).bind fun t705 => (if t705 = true then ((impl_IsVec.f a0_4 a0_5).bind fun t706 => (some t706)) else (some false))) else (some false))) = some r := h
 clear h
 obtain ⟨t704, A2, H⟩ := ob H
 try dsimp only at H
 by_cases c3 : t704 = true
 ·subst c3
  replace H := ifT H
  obtain ⟨t705, A4, H⟩ := ob H
  try dsimp only at H
  by_cases c5 : t705 = true
  ·subst c5
   replace H := ifT H
   obtain ⟨t706, A6, H⟩ := ob H
   try dsimp only at H
   obtain rfl := Option.some.inj H
   go_enter Tryz.func36, Tryz.ntmps36
   go_wp2_with (first | ((with_reducible refine gd 1 rfl ?_); refine bx #[.int .i64 a0_0, .int .i64 a0_1, .int .i64 a0_2, .int .i64 a0_3, .int .i64 a0_4, .int .i64 a0_5] 37 ?_; intro gb703 hg w7 BK703 hb; have GE703 := ngw0 hg HB; replace HB := bS0 HB hb; clear hb hg; obtain ⟨hcz8_0, hcz8_1, hcz8_2, hcz8_3, hcz8_4, hcz8_5, hfz8_0, hfz8_1, hfz8_2, hfz8_3, hfz8_4, hfz8_5⟩ := bz6 BK703) | ((with_reducible refine gate_callee (f := 40) rfl ?_); refine gl 5 Tryz.func40 #[.agg #[.int .i64 a0_0, .int .i64 a0_1, .int .i64 a0_2, .int .i64 a0_3]] ?_; (with_reducible refine (impl_IsMat.calls _ _ _ _ _ _ A2.out).mono ?_); rintro e w9 ⟨rfl, hb⟩; refine ⟨_, rfl, ?_⟩; replace BK703 := bB BK703 hb; replace HB := bS1 HB GE703 hb; (try clear hb); obtain ⟨hcz10_0, hcz10_1, hcz10_2, hcz10_3, hcz10_4, hcz10_5, hfz10_0, hfz10_1, hfz10_2, hfz10_3, hfz10_4, hfz10_5⟩ := bz6 BK703) | (go_at_call 73; (with_reducible refine (impl_Mat_isTurn.calls _ _ _ _ _ _ _ A4.out).mono ?_); rintro e w11 ⟨rfl, hb⟩; replace BK703 := bB BK703 hb; replace HB := bS1 HB GE703 hb; (try clear hb); obtain ⟨hcz12_0, hcz12_1, hcz12_2, hcz12_3, hcz12_4, hcz12_5, hfz12_0, hfz12_1, hfz12_2, hfz12_3, hfz12_4, hfz12_5⟩ := bz6 BK703) | (go_at_call 41; (with_reducible refine (impl_IsVec.calls _ _ _ _ A6.out).mono ?_); rintro e w13 ⟨rfl, hb⟩; replace BK703 := bB BK703 hb; replace HB := bS1 HB GE703 hb; (try clear hb)))
   go_ret
   exact er (bbw1 HB GE703)
  ·replace c5 := Bool.eq_false_iff.mpr c5
   subst c5
   replace H := ifF H
   obtain rfl := Option.some.inj H
   go_enter Tryz.func36, Tryz.ntmps36
   go_wp2_with (first | ((with_reducible refine gd 1 rfl ?_); refine bx #[.int .i64 a0_0, .int .i64 a0_1, .int .i64 a0_2, .int .i64 a0_3, .int .i64 a0_4, .int .i64 a0_5] 37 ?_; intro gb703 hg w14 BK703 hb; have GE703 := ngw0 hg HB; replace HB := bS0 HB hb; clear hb hg; obtain ⟨hcz15_0, hcz15_1, hcz15_2, hcz15_3, hcz15_4, hcz15_5, hfz15_0, hfz15_1, hfz15_2, hfz15_3, hfz15_4, hfz15_5⟩ := bz6 BK703) | ((with_reducible refine gate_callee (f := 40) rfl ?_); refine gl 5 Tryz.func40 #[.agg #[.int .i64 a0_0, .int .i64 a0_1, .int .i64 a0_2, .int .i64 a0_3]] ?_; (with_reducible refine (impl_IsMat.calls _ _ _ _ _ _ A2.out).mono ?_); rintro e w16 ⟨rfl, hb⟩; refine ⟨_, rfl, ?_⟩; replace BK703 := bB BK703 hb; replace HB := bS1 HB GE703 hb; (try clear hb); obtain ⟨hcz17_0, hcz17_1, hcz17_2, hcz17_3, hcz17_4, hcz17_5, hfz17_0, hfz17_1, hfz17_2, hfz17_3, hfz17_4, hfz17_5⟩ := bz6 BK703) | (go_at_call 73; (with_reducible refine (impl_Mat_isTurn.calls _ _ _ _ _ _ _ A4.out).mono ?_); rintro e w18 ⟨rfl, hb⟩; replace BK703 := bB BK703 hb; replace HB := bS1 HB GE703 hb; (try clear hb)))
   go_ret
   exact er (bbw1 HB GE703)
 ·replace c3 := Bool.eq_false_iff.mpr c3
  subst c3
  replace H := ifF H
  obtain rfl := Option.some.inj H
  go_enter Tryz.func36, Tryz.ntmps36
  go_wp2_with (first | ((with_reducible refine gd 1 rfl ?_); refine bx #[.int .i64 a0_0, .int .i64 a0_1, .int .i64 a0_2, .int .i64 a0_3, .int .i64 a0_4, .int .i64 a0_5] 37 ?_; intro gb703 hg w19 BK703 hb; have GE703 := ngw0 hg HB; replace HB := bS0 HB hb; clear hb hg; obtain ⟨hcz20_0, hcz20_1, hcz20_2, hcz20_3, hcz20_4, hcz20_5, hfz20_0, hfz20_1, hfz20_2, hfz20_3, hfz20_4, hfz20_5⟩ := bz6 BK703) | ((with_reducible refine gate_callee (f := 40) rfl ?_); refine gl 5 Tryz.func40 #[.agg #[.int .i64 a0_0, .int .i64 a0_1, .int .i64 a0_2, .int .i64 a0_3]] ?_; (with_reducible refine (impl_IsMat.calls _ _ _ _ _ _ A2.out).mono ?_); rintro e w21 ⟨rfl, hb⟩; refine ⟨_, rfl, ?_⟩; replace BK703 := bB BK703 hb; replace HB := bS1 HB GE703 hb; (try clear hb)))
  go_ret
  exact er (bbw1 HB GE703)
/-! ### impl_Mat_times: function 104 -/
def impl_Mat_times.f (a0_0 : Int) (a0_1 : Int) (a0_2 : Int) (a0_3 : Int) (a1_0 : Int) (a1_1 : Int) (a1_2 : Int) (a1_3 : Int) : Option (Int × Int × Int × Int) := some (wrap64 ((wrap64 (a0_0 * a1_0)) + (wrap64 (a0_1 * a1_2))), wrap64 ((wrap64 (a0_0 * a1_1)) + (wrap64 (a0_1 * a1_3))), wrap64 ((wrap64 (a0_2 * a1_0)) + (wrap64 (a0_3 * a1_2))), wrap64 ((wrap64 (a0_2 * a1_1)) + (wrap64 (a0_3 * a1_3))))
set_option maxHeartbeats 8000000 in
set_option maxRecDepth 100000 in
theorem impl_Mat_times.calls (a0_0 : Int) (a0_1 : Int) (a0_2 : Int) (a0_3 : Int) (a1_0 : Int) (a1_1 : Int) (a1_2 : Int) (a1_3 : Int) (r1 : Int) (r2 : Int) (r3 : Int) (r4 : Int) (w : World) (h : impl_Mat_times.f a0_0 a0_1 a0_2 a0_3 a1_0 a1_1 a1_2 a1_3 = some (r1, r2, r3, r4)) :
  Calls Tryz.prog 104 #[.agg #[.int .i64 a0_0, .int .i64 a0_1, .int .i64 a0_2, .int .i64 a0_3], .agg #[.int .i64 a1_0, .int .i64 a1_1, .int .i64 a1_2, .int .i64 a1_3]] w fun e w' => e = .returned (.agg #[.int .i64 r1, .int .i64 r2, .int .i64 r3, .int .i64 r4]) ∧ Below w.heap.size w w' := by
 have hu27 := Tryz.underlying27
 have HB := asd (Below.refl w.heap.size w)
 have H : (some (wrap64 ((wrap64 (a0_0 * a1_0)) + (wrap64 (a0_1 * a1_2))), wrap64 ((wrap64 (a0_0 * a1_1)) + (wrap64 (a0_1 * a1_3))), wrap64 ((wrap64 (a0_2 * a1_0)) + (wrap64 (a0_3 * a1_2))), wrap64 ((wrap64 (a0_2 * a1_1)) + (wrap64 (a0_3 * a1_3))))) = some (r1, r2, r3, r4) := h
 clear h
 simp only [Option.some.injEq, Prod.mk.injEq] at H
 obtain ⟨rfl, rfl, rfl, rfl⟩ := H
 go_enter Tryz.func104, Tryz.ntmps104
 go_wp2_with (first | ((with_reducible refine gd 2 rfl ?_); refine bx #[.int .i64 a0_0, .int .i64 a0_1, .int .i64 a0_2, .int .i64 a0_3] 27 ?_; intro gb707 hg w3 BK707 hb; have GE707 := ngw0 hg HB; replace HB := bS0 HB hb; clear hb hg) | ((with_reducible refine gd 3 rfl ?_); refine bx #[.int .i64 a1_0, .int .i64 a1_1, .int .i64 a1_2, .int .i64 a1_3] 27 ?_; intro gb708 hg w4 BK708 hb; have GE708 := ngw1 hg HB GE707; replace HB := bS1 HB GE707 hb; have NB707_708 := nlt hg BK707; have NB708_707 := nsy (nlt hg BK707); replace BK707 := bB BK707 hb; clear hb hg) | ((with_reducible refine gd 4 rfl ?_); refine bx #[.int .i64 0, .int .i64 0, .int .i64 0, .int .i64 0] 27 ?_; intro gb709 hg w5 BK709 hb; have GE709 := ngw2 hg HB GE707 GE708; replace HB := bS2 HB GE707 GE708 hb; have NB707_709 := nlt hg BK707; have NB709_707 := nsy (nlt hg BK707); replace BK707 := bB BK707 hb; have NB708_709 := nlt hg BK708; have NB709_708 := nsy (nlt hg BK708); replace BK708 := bB BK708 hb; clear hb hg; have hnb6 := NB707_708.out; have hnc6 := NB708_707.out; have hnb7 := NB707_709.out; have hnc7 := NB709_707.out; obtain ⟨hcz8_0, hcz8_1, hcz8_2, hcz8_3, hfz8_0, hfz8_1, hfz8_2, hfz8_3⟩ := bz4 BK707; have hnb9 := NB708_709.out; have hnc9 := NB709_708.out; obtain ⟨hcz10_0, hcz10_1, hcz10_2, hcz10_3, hfz10_0, hfz10_1, hfz10_2, hfz10_3⟩ := bz4 BK708; obtain ⟨hcz11_0, hcz11_1, hcz11_2, hcz11_3, hfz11_0, hfz11_1, hfz11_2, hfz11_3⟩ := bz4 BK709))
 refine bodyPost_ret (results_cell_row rfl _ _ gb709 27 #[.int .i64 (wrap64 ((wrap64 (a0_0 * a1_0)) + (wrap64 (a0_1 * a1_2)))), .int .i64 (wrap64 ((wrap64 (a0_0 * a1_1)) + (wrap64 (a0_1 * a1_3)))), .int .i64 (wrap64 ((wrap64 (a0_2 * a1_0)) + (wrap64 (a0_3 * a1_2)))), .int .i64 (wrap64 ((wrap64 (a0_2 * a1_1)) + (wrap64 (a0_3 * a1_3))))] (0, 0) _ rfl (bq0 BK709) Tryz.underlying27 rfl (by kernel_rfl)) rfl ?_
 exact er (bbw3 HB GE707 GE708 GE709)

end Go.Proofs.YtedmadofpdkekaaGreat.PA
