/- Walks written by program: each Go function that the law reaches comes to the plain function beside it. -/
import Derived.Test.YtnblfcibgokccaaGreatDoorPAx0
import Derived.Test.YtnblfcibgokccaaGreatDoorPAx4
import Derived.Test.YtnblfcibgokccaaGreatDoorPAx5
import Derived.Test.YtnblfcibgokccaaGreatDoorPAx8
namespace Go.Proofs.YtnblfcibgokccaaGreatDoor.PA
open Go.RowKit Go.Proofs.YtnblfcibgokccaaGreatDoorW.PrintWords Go.Proofs.YtnblfcibgokccaaGreatDoorW.PrintLast Go.Proofs.YtnblfcibgokccaaGreatDoorW.PrintMore
attribute [local go_sem] max2_int min2_int max_two min_two max_three min_three max_four min_four   -- for this text's walks alone
set_option linter.unusedVariables false
set_option linter.unusedSimpArgs false

/-! ### impl_ApplyMat: function 23 -/
def impl_ApplyMat.j0 : Nat → Bool → Int → Int → Int → Int → Int → Int → Option (Int × Int × Int)
 | 0, _, _, _, _, _, _, _ => none
 | k + 1, x13, x469000, x469001, x469002, x469003, x470000, x470001 => if x13 = true then (some (0, 0, 1)) else ((impl_Mat_apply.f x469000 x469001 x469002 x469003 x470000 x470001).bind fun bt473 => ((impl_limited.f bt473.1 bt473.2).bind fun bt475 => (some (bt475.1, bt475.2.1, bt475.2.2))))
def impl_ApplyMat.f (k : Nat) (a0_0 : Int) (a0_1 : Int) (a0_2 : Int) (a0_3 : Int) (a1_0 : Int) (a1_1 : Int) : Option (Int × Int × Int) := (impl_IsMat.f a0_0 a0_1 a0_2 a0_3).bind fun t471 => (if t471 = true then ((impl_IsVec.f a1_0 a1_1).bind fun t472 => (impl_ApplyMat.j0 k (!t472) a0_0 a0_1 a0_2 a0_3 a1_0 a1_1)) else (impl_ApplyMat.j0 k true a0_0 a0_1 a0_2 a0_3 a1_0 a1_1))
set_option maxHeartbeats 8000000 in
set_option maxRecDepth 100000 in
theorem impl_ApplyMat.calls (k : Nat) (a0_0 : Int) (a0_1 : Int) (a0_2 : Int) (a0_3 : Int) (a1_0 : Int) (a1_1 : Int) (r1 : Int) (r2 : Int) (r3 : Int) (w : World) (h : impl_ApplyMat.f k a0_0 a0_1 a0_2 a0_3 a1_0 a1_1 = some (r1, r2, r3)) :
  Calls Tryz.prog 23 #[.agg #[.int .i64 a0_0, .int .i64 a0_1, .int .i64 a0_2, .int .i64 a0_3], .agg #[.int .i64 a1_0, .int .i64 a1_1]] w fun e w' => e = .returned (.tuple #[.agg #[.int .i64 r1, .int .i64 r2], .int .i64 r3]) ∧ Below w.heap.size w w' := by
 have hu25 := Tryz.underlying25
 have hu27 := Tryz.underlying27
 have HB := asd (Below.refl w.heap.size w)
 have H : ((impl_IsMat.f a0_0 a0_1 a0_2 a0_3).bind fun t471 => (if t471 = true then ((impl_IsVec.f a1_0 a1_1).bind fun t472 => (impl_ApplyMat.j0 k (!t472) a0_0 a0_1 a0_2 a0_3 a1_0 a1_1)) else (impl_ApplyMat.j0 k true a0_0 a0_1 a0_2 a0_3 a1_0 a1_1))) = some (r1, r2, r3) := h
 clear h
 have HC3 := Aside0.mk H
 clear H
 go_enter Tryz.func23, Tryz.ntmps23
 go_upto_region 1 with (first | ((with_reducible refine gd 2 rfl ?_); refine bx #[.int .i64 a0_0, .int .i64 a0_1, .int .i64 a0_2, .int .i64 a0_3] 25 ?_; intro gb468 hg w4 BK468 hb; have GE468 := ngw0 hg HB; replace HB := bS0 HB hb; clear hb hg) | ((with_reducible refine gd 3 rfl ?_); refine bx #[.int .i64 a1_0, .int .i64 a1_1] 27 ?_; intro gb469 hg w5 BK469 hb; have GE469 := ngw1 hg HB GE468; replace HB := bS1 HB GE468 hb; have NB468_469 := nlt hg BK468; have NB469_468 := nsy (nlt hg BK468); replace BK468 := bB BK468 hb; clear hb hg) | ((with_reducible refine gd 4 rfl ?_); refine bx #[.int .i64 0, .int .i64 0] 27 ?_; intro gb470 hg w6 BK470 hb; have GE470 := ngw2 hg HB GE468 GE469; replace HB := bS2 HB GE468 GE469 hb; have NB468_470 := nlt hg BK468; have NB470_468 := nsy (nlt hg BK468); replace BK468 := bB BK468 hb; have NB469_470 := nlt hg BK469; have NB470_469 := nsy (nlt hg BK469); replace BK469 := bB BK469 hb; clear hb hg))
 (try simp only [Act.put, sA, sB, sC])
 go_cut [13] (fun v13 wc => ∃ (kq : Nat) (x13_2 : Bool), v13 = .bool x13_2 ∧ Aside0 (impl_ApplyMat.j0 kq x13_2 a0_0 a0_1 a0_2 a0_3 a1_0 a1_1 = some (r1, r2, r3)) ∧ Aside0 (kq ≤ k) ∧ Aside0 (wc.heap[gb468]? = some (.cells #[.int .i64 a0_0, .int .i64 a0_1, .int .i64 a0_2, .int .i64 a0_3] 25 (0, 0))) ∧ Aside0 (wc.heap[gb469]? = some (.cells #[.int .i64 a1_0, .int .i64 a1_1] 27 (0, 0))) ∧ Aside0 (wc.heap[gb470]? = some (.cells #[.int .i64 0, .int .i64 0] 27 (0, 0))) ∧ Aside0 (Below w.heap.size w wc))
 case first =>
  have H := HC3.out
  clear HC3
  obtain ⟨t471, A7, H⟩ := ob H
  try dsimp only at H
  by_cases c8 : t471 = true
  ·subst c8
   replace H := ifT H
   obtain ⟨t472, A9, H⟩ := ob H
   try dsimp only at H
   have H' := Aside0.mk H
   clear H
   have hnb10 := NB468_469.out
   have hnc10 := NB469_468.out
   have hnb11 := NB468_470.out
   have hnc11 := NB470_468.out
   obtain ⟨hcz12_0, hcz12_1, hcz12_2, hcz12_3, hfz12_0, hfz12_1, hfz12_2, hfz12_3⟩ := bz4 BK468
   go_wp2_with (first | ((with_reducible refine gate_callee (f := 52) rfl ?_); refine gl 7 Tryz.func52 #[.agg #[.int .i64 a0_0, .int .i64 a0_1, .int .i64 a0_2, .int .i64 a0_3]] ?_; (with_reducible refine (impl_IsMat.calls _ _ _ _ _ _ A7.out).mono ?_); rintro e w13 ⟨rfl, hb⟩; refine ⟨_, rfl, ?_⟩; replace BK468 := bB BK468 hb; replace BK469 := bB BK469 hb; replace BK470 := bB BK470 hb; replace HB := bS3 HB GE468 GE469 GE470 hb; (try clear hb); have hnb14 := NB469_470.out; have hnc14 := NB470_469.out; obtain ⟨hcz15_0, hcz15_1, hfz15_0, hfz15_1⟩ := bz2 BK469) | (go_at_call 37; (with_reducible refine (impl_IsVec.calls _ _ _ _ A9.out).mono ?_); rintro e w16 ⟨rfl, hb⟩; replace BK468 := bB BK468 hb; replace BK469 := bB BK469 hb; replace BK470 := bB BK470 hb; replace HB := bS3 HB GE468 GE469 GE470 hb; (try clear hb)))
   go_meet
   case rel => exact ⟨_, (!t472), (by first | rfl | (simp; done) | (simp [*]; done)), H', ⟨by first | omega | exact Nat.le_refl _⟩, ⟨bkp BK468⟩, ⟨bkp BK469⟩, ⟨bkp BK470⟩, ⟨bbw3 HB GE468 GE469 GE470⟩⟩
  ·replace c8 := Bool.eq_false_iff.mpr c8
   subst c8
   replace H := ifF H
   have H' := Aside0.mk H
   clear H
   have hnb17 := NB468_469.out
   have hnc17 := NB469_468.out
   have hnb18 := NB468_470.out
   have hnc18 := NB470_468.out
   obtain ⟨hcz19_0, hcz19_1, hcz19_2, hcz19_3, hfz19_0, hfz19_1, hfz19_2, hfz19_3⟩ := bz4 BK468
   go_wp2_with (first | ((with_reducible refine gate_callee (f := 52) rfl ?_); refine gl 7 Tryz.func52 #[.agg #[.int .i64 a0_0, .int .i64 a0_1, .int .i64 a0_2, .int .i64 a0_3]] ?_; (with_reducible refine (impl_IsMat.calls _ _ _ _ _ _ A7.out).mono ?_); rintro e w20 ⟨rfl, hb⟩; refine ⟨_, rfl, ?_⟩; replace BK468 := bB BK468 hb; replace BK469 := bB BK469 hb; replace BK470 := bB BK470 hb; replace HB := bS3 HB GE468 GE469 GE470 hb; (try clear hb)))
   go_meet
   case rel => exact ⟨_, (true), (by first | rfl | (simp; done) | (simp [*]; done)), H', ⟨by first | omega | exact Nat.le_refl _⟩, ⟨bkp BK468⟩, ⟨bkp BK469⟩, ⟨bkp BK470⟩, ⟨bbw3 HB GE468 GE469 GE470⟩⟩
 case rest =>
  clear HC3
  try clear c1
  try clear c2
  try clear p2
  try clear c5
  try clear c8
  try clear c10
  try clear c11
  try clear c14
  try clear c17
  try clear c18
  try clear hcz12_0
  try clear hcz12_1
  try clear hcz12_2
  try clear hcz12_3
  try clear hcz15_0
  try clear hcz15_1
  try clear hcz19_0
  try clear hcz19_1
  try clear hcz19_2
  try clear hcz19_3
  try clear hfz12_0
  try clear hfz12_1
  try clear hfz12_2
  try clear hfz12_3
  try clear hfz15_0
  try clear hfz15_1
  try clear hfz19_0
  try clear hfz19_1
  try clear hfz19_2
  try clear hfz19_3
  obtain ⟨kq, x13_2, rfl, HA, HJ2, BK468, BK469, BK470, HB⟩ := hcut
  cases kq with
  | zero => exact absurd HA.out (by simp [impl_ApplyMat.j0])
  | succ kj2 =>
   have H := HA.out
   clear HA
   simp only [impl_ApplyMat.j0] at H
   by_cases c21 : x13_2 = true
   ·subst c21
    replace H := ifT H
    simp only [Option.some.injEq, Prod.mk.injEq] at H
    obtain ⟨rfl, rfl, rfl⟩ := H
    have hnb22 := NB470_468.out
    have hnc22 := NB468_470.out
    have hnb23 := NB470_469.out
    have hnc23 := NB469_470.out
    obtain ⟨hcz24_0, hcz24_1, hfz24_0, hfz24_1⟩ := bz2 BK470
    go_wp2
    refine bodyPost_ret (results_ct rfl _ _ gb470 27 #[.int .i64 0, .int .i64 0] (0, 0) _ rfl (bq0 BK470) Tryz.underlying27 rfl (by kernel_rfl)) rfl ?_
    exact er (bbw3 HB GE468 GE469 GE470)
   ·replace c21 := Bool.eq_false_iff.mpr c21
    subst c21
    replace H := ifF H
    obtain ⟨⟨t473, t474⟩, A25, H⟩ := ob H
    try dsimp only at H
    obtain ⟨⟨t475, t476, t477⟩, A26, H⟩ := ob H
    try dsimp only at H
    simp only [Option.some.injEq, Prod.mk.injEq] at H
    obtain ⟨rfl, rfl, rfl⟩ := H
    have hnb27 := NB468_469.out
    have hnc27 := NB469_468.out
    have hnb28 := NB468_470.out
    have hnc28 := NB470_468.out
    obtain ⟨hcz29_0, hcz29_1, hcz29_2, hcz29_3, hfz29_0, hfz29_1, hfz29_2, hfz29_3⟩ := bz4 BK468
    have hnb30 := NB469_470.out
    have hnc30 := NB470_469.out
    obtain ⟨hcz31_0, hcz31_1, hfz31_0, hfz31_1⟩ := bz2 BK469
    go_wp2_with (first | ((with_reducible refine gate_callee (f := 67) rfl ?_); refine gl 17 Tryz.func67 #[.agg #[.int .i64 a0_0, .int .i64 a0_1, .int .i64 a0_2, .int .i64 a0_3], .agg #[.int .i64 a1_0, .int .i64 a1_1]] ?_; (with_reducible refine (impl_Mat_apply.calls _ _ _ _ _ _ _ _ _ A25.out).mono ?_); rintro e w32 ⟨rfl, hb⟩; refine ⟨_, rfl, ?_⟩; replace BK468 := bB BK468 hb; replace BK469 := bB BK469 hb; replace BK470 := bB BK470 hb; replace HB := bS3 HB GE468 GE469 GE470 hb; (try clear hb)) | ((with_reducible refine gate_callee (f := 57) rfl ?_); refine gl 18 Tryz.func57 #[.agg #[.int .i64 t473, .int .i64 t474]] ?_; (with_reducible refine (impl_limited.calls _ _ _ _ _ _ A26.out).mono ?_); rintro e w33 ⟨rfl, hb⟩; refine ⟨_, rfl, ?_⟩; replace BK468 := bB BK468 hb; replace BK469 := bB BK469 hb; replace BK470 := bB BK470 hb; replace HB := bS3 HB GE468 GE469 GE470 hb; (try clear hb); obtain ⟨hcz34_0, hcz34_1, hfz34_0, hfz34_1⟩ := bz2 BK470))
    refine bodyPost_ret (results_ct rfl _ _ gb470 27 #[.int .i64 t475, .int .i64 t476] (0, 0) _ rfl (bq0 BK470) Tryz.underlying27 rfl (by kernel_rfl)) rfl ?_
    exact er (bbw3 HB GE468 GE469 GE470)
/-! ### impl_DivisorOf: function 24 -/
def impl_DivisorOf.f (k : Nat) (a0 : Int) (a1 : Int) : Option (Int × Int) := (impl_within.f a0 (-1000000) 1000000).bind fun t478 => (if t478 = true then ((impl_within.f a1 (-1000000) 1000000).bind fun t479 => (if t479 = true then ((impl_gcd.f k a0 a1).bind fun t480 => (some (t480, 0))) else (some (0, 2)))) else (some (0, 2)))
set_option maxHeartbeats 8000000 in
set_option maxRecDepth 100000 in
theorem impl_DivisorOf.calls (k : Nat) (a0 : Int) (a1 : Int) (r1 : Int) (r2 : Int) (w : World) (h : impl_DivisorOf.f k a0 a1 = some (r1, r2)) :
  Calls Tryz.prog 24 #[.int .i64 a0, .int .i64 a1] w fun e w' => e = .returned (.tuple #[.int .i64 r1, .int .i64 r2]) ∧ Below w.heap.size w w' := by
 have HB := asd (Below.refl w.heap.size w)
 have H : ((impl_within.f a0 (-1000000) 1000000).bind fun t478 => (if t478 = true then ((impl_within.f a1 (-1000000) 1000000).bind fun t479 => (if t479 = true then ((impl_gcd.f k a0 a1).bind fun t480 => (some (t480, 0))) else (some (0, 2)))) else (some (0, 2)))) = some (r1, r2) := h
 clear h
 obtain ⟨t478, A3, H⟩ := ob H
 try dsimp only at H
 by_cases c4 : t478 = true
 subst c4
 replace H := ifT H
 obtain ⟨t479, A5, H⟩ := ob H
 try dsimp only at H
 by_cases c6 : t479 = true
 subst c6
 replace H := ifT H
 obtain ⟨t480, A7, H⟩ := ob H
 try dsimp only at H
 rotate_left
 replace c6 := Bool.eq_false_iff.mpr c6
 subst c6
 replace H := ifF H
 rotate_left
 replace c4 := Bool.eq_false_iff.mpr c4
 subst c4
 replace H := ifF H
 rotate_left
 all_goals
  simp only [Option.some.injEq, Prod.mk.injEq] at H
  obtain ⟨rfl, rfl⟩ := H
  go_enter Tryz.func24, Tryz.ntmps24
  go_wp2_with (first | ((with_reducible refine gate_callee (f := 68) rfl ?_); refine gl 7 Tryz.func68 #[.int .i64 a0, .int .i64 (-1000000), .int .i64 1000000] ?_; (with_reducible refine (impl_within.calls _ _ _ _ _ A3.out).mono ?_); rintro e w' ⟨rfl, ⟨nd, rfl⟩⟩; refine ⟨_, rfl, ?_⟩) | (go_at_call 68; (with_reducible refine (impl_within.calls _ _ _ _ _ A5.out).mono ?_); rintro e w' ⟨rfl, ⟨nd, rfl⟩⟩) | ((with_reducible refine gate_callee (f := 54) rfl ?_); refine gl 16 Tryz.func54 #[.int .i64 a0, .int .i64 a1] ?_; (with_reducible refine (impl_gcd.calls _ _ _ _ _ A7.out).mono ?_); rintro e w8 ⟨rfl, hb⟩; refine ⟨_, rfl, ?_⟩; replace HB := bS0 HB hb; (try clear hb)))
  go_ret2
  exact er (bbw0 HB)

end Go.Proofs.YtnblfcibgokccaaGreatDoor.PA
