/- Walks written by program: each Go function that the law reaches comes to the plain function beside it. -/
import Derived.Test.YtnblfcibgokccaaGreatDoorPCx0
import Derived.Test.YtnblfcibgokccaaGreatDoorPCx6
import Derived.Test.YtnblfcibgokccaaGreatDoorPCx7
import Derived.Test.YtnblfcibgokccaaGreatDoorPCx10
namespace Go.Proofs.YtnblfcibgokccaaGreatDoor.PC
open Go.RowKit Go.Proofs.YtnblfcibgokccaaGreatDoorW.PrintWords Go.Proofs.YtnblfcibgokccaaGreatDoorW.PrintLast Go.Proofs.YtnblfcibgokccaaGreatDoorW.PrintMore
attribute [local go_sem] max2_int min2_int max_two min_two max_three min_three max_four min_four   -- for this text's walks alone
set_option linter.unusedVariables false
set_option linter.unusedSimpArgs false

/-! ### impl_ReadMat: function 19 -/
def impl_ReadMat.f (k : Nat) (a0 : ByteArray) : Option (Int × Int × Int × Int × Bool) := (impl_parted.f k a0 (⟨#[44]⟩ : ByteArray) 4).bind fun bt508 => (if bt508.2 = true then (if 0 < (bt508.1.length : Int) then (if 1 < (bt508.1.length : Int) then (if 2 < (bt508.1.length : Int) then (if 3 < (bt508.1.length : Int) then ((impl_IsMat.f (rd bt508.1 0) (rd bt508.1 1) (rd bt508.1 2) (rd bt508.1 3)).bind fun t516 => (if t516 = true then (some (rd bt508.1 0, rd bt508.1 1, rd bt508.1 2, rd bt508.1 3, true)) else (some (0, 0, 0, 0, false)))) else (none)) else (none)) else (none)) else (none)) else (some (0, 0, 0, 0, false)))
def impl_ReadMat.T2 : Bool × List (List Nat × List Nat) := (true, [([], []), ([0], [0]), ([1], [1]), ([2], [2]), ([3, 2], [2, 3]), ([4, 2], [2, 4]), ([2], [2]), ([6, 2], [2, 6]), ([7, 2], [2, 7]), ([2], [2]), ([9, 2], [2, 9]), ([10, 2], [2, 10]), ([2], [2]), ([12, 2], [2, 12]), ([13, 2], [2, 13]), ([5, 8, 11, 14, 2], [2, 5, 8, 11, 14]), ([15, 2, 2], [2, 15]), ([16, 2], [2, 16]), ([2, 17], [2, 17])])
def impl_ReadMat.B2 : List Nat := [0, 1, 3, 7, 15, 31, 7, 71, 199, 7, 519, 1543, 7, 4103, 12295, 32767, 65535, 131071, 262143]
theorem impl_ReadMat.tab2 : rtab .any (opsOf Tryz.f19 2) = impl_ReadMat.T2 := by kernel_rfl
theorem impl_ReadMat.bits2 : waitsOk impl_ReadMat.T2.2 impl_ReadMat.B2 = true := by kernel_rfl
def impl_ReadMat.T4 : Bool × List (List Nat × List Nat) := (true, [([], []), ([0], [0]), ([1], [1]), ([], []), ([3], [3]), ([4], [4]), ([], []), ([6], [6]), ([7], [7]), ([], []), ([9], [9]), ([10], [10]), ([2, 5, 8, 11], [2, 5, 8, 11]), ([12, 0, 1, 2, 3, 4, 5, 6, 7, 8, 9, 10, 11, 12], [12]), ([13, 0, 1, 2, 3, 4, 5, 6, 7, 8, 9, 10, 11, 12, 13], [])])
def impl_ReadMat.B4 : List Nat := [0, 1, 3, 0, 8, 24, 0, 64, 192, 0, 512, 1536, 4095, 8191, 16383]
theorem impl_ReadMat.tab4 : rtab .any (opsOf Tryz.f19 4) = impl_ReadMat.T4 := by kernel_rfl
theorem impl_ReadMat.bits4 : waitsOk impl_ReadMat.T4.2 impl_ReadMat.B4 = true := by kernel_rfl
set_option maxHeartbeats 8000000 in
set_option maxRecDepth 100000 in
theorem impl_ReadMat.calls (k : Nat) (a0 : ByteArray) (r1 : Int) (r2 : Int) (r3 : Int) (r4 : Int) (r5 : Bool) (w : World) (htab : texts.Tab w) (h : impl_ReadMat.f k a0 = some (r1, r2, r3, r4, r5)) :
  Calls Tryz.prog 19 #[.string a0] w fun e w' => e = .returned (.tuple #[.agg #[.int .i64 r1, .int .i64 r2, .int .i64 r3, .int .i64 r4], .bool r5]) ∧ Below w.heap.size w w' := by
 have HTAB := Aside0.mk htab
 clear htab
 have hu25 := Tryz.underlying25
 have HB := asd (Below.refl w.heap.size w)
 have H : ((impl_parted.f k a0 (⟨#[44]⟩ : ByteArray) 4).bind fun bt508 => (if bt508.2 = true then (if 0 < (bt508.1.length : Int) then (if 1 < (bt508.1.length : Int) then (if 2 < (bt508.1.length : Int) then (if 3 < (bt508.1.length : Int) then ((impl_IsMat.f (rd bt508.1 0) (rd bt508.1 1) (rd bt508.1 2) (rd bt508.1 3)).bind fun t516 => (if t516 = true then (some (rd bt508.1 0, rd bt508.1 1, rd bt508.1 2, rd bt508.1 3, true)) else (some (0, 0, 0, 0, false)))) else (none)) else (none)) else (none)) else (none)) else (some (0, 0, 0, 0, false)))) = some (r1, r2, r3, r4, r5) := h
 clear h
 obtain ⟨⟨t508, t509⟩, A2, H⟩ := ob H
 try dsimp only at H
 by_cases c3 : t509 = true
 subst c3
 replace H := ifT H
 by_cases c4 : 0 < (t508.length : Int)
 rw [if_pos c4] at H
 have c4b0 := decide_eq_true c4
 have c4b1 : decide (0 < t508.length) = true := decide_eq_true (by omega)
 clear c4
 by_cases c5 : 1 < (t508.length : Int)
 rw [if_pos c5] at H
 have c5b0 := decide_eq_true c5
 have c5b1 : decide (1 < t508.length) = true := decide_eq_true (by omega)
 clear c5
 by_cases c6 : 2 < (t508.length : Int)
 rw [if_pos c6] at H
 have c6b0 := decide_eq_true c6
 have c6b1 : decide (2 < t508.length) = true := decide_eq_true (by omega)
 clear c6
 by_cases c7 : 3 < (t508.length : Int)
 rw [if_pos c7] at H
 have c7b0 := decide_eq_true c7
 have c7b1 : decide (3 < t508.length) = true := decide_eq_true (by omega)
 clear c7
 obtain ⟨t516, A8, H⟩ := ob H
 try dsimp only at H
 by_cases c9 : t516 = true
 subst c9
 replace H := ifT H
 rotate_left
 replace c9 := Bool.eq_false_iff.mpr c9
 subst c9
 replace H := ifF H
 rotate_left
 ·rw [if_neg c7] at H
  exact absurd H (by simp)
 ·rw [if_neg c6] at H
  exact absurd H (by simp)
 ·rw [if_neg c5] at H
  exact absurd H (by simp)
 ·rw [if_neg c4] at H
  exact absurd H (by simp)
 replace c3 := Bool.eq_false_iff.mpr c3
 subst c3
 replace H := ifF H
 rotate_left
 all_goals
  simp only [Option.some.injEq, Prod.mk.injEq] at H
  obtain ⟨rfl, rfl, rfl, rfl, rfl⟩ := H
  go_enter Tryz.func19, Tryz.ntmps19
  try go_wp2_with (first | ((with_reducible refine gd 2 rfl ?_); refine bx #[.int .i64 0, .int .i64 0, .int .i64 0, .int .i64 0] 25 ?_; intro gb507 hg w10 BK507 hb; have GE507 := ngw0 hg HB; replace HB := bS0 HB hb; clear hb hg) | ((with_reducible refine gate_callee (f := 63) rfl ?_); refine gl 8 Tryz.func63 #[.string a0, .string (⟨#[44]⟩ : ByteArray), .int .i64 4] ?_; (with_reducible refine (impl_parted.calls _ _ _ _ _ _ _ (texts.tabB HTAB.out (by repeat (first | (with_reducible first | exact HB.out | exact Below.refl _ _ | apply below_alloc | apply pw_below_drewN | apply below_drew1 | refine below_set ?_ GE507.out) | exact HB.out))) A2.out).mono ?_); rintro e w11 ⟨v510, rfl, ho0, hb⟩; refine ⟨_, rfl, ?_⟩; have HO511 := asd (Kd.R_lower ho0 (bsz1 HB GE507)); replace BK507 := bB BK507 hb; replace HB := bS1 HB GE507 hb; (try clear hb); (try clear hb2); (try clear hk); (try clear hi); (try clear ho0)))
  replace HO511 := asd (Kd.R_drew HO511.out)
  replace BK507 := asd (blk_drew BK507.out)
  replace HB := asd (below_drew1 HB.out)
 rotate_left 2
 ·refine start_ (n := 19) (S := fun w' => True) (ds := []) (bT 19 0) (by kernel_rfl) rfl rfl trivial (fun hHeld => ?_); refine with_tabW impl_ReadMat.tab2 impl_ReadMat.bits2 (fun HT_ HW_ => ?_)
  generalize w11.drew = w28 at HO511 BK507 HB hHeld ⊢
  refine pu 0 (some 11) (bT 19 1) HT_ ?_
  refine pu 1 (some 12) (bT 19 2) HT_ ?_
  refine pu 2 (some 13) (bT 19 3) HT_ ?_
  refine pf 3 (some 14) (bT 19 4) HT_ ?_
  refine pf 4 (some 15) (bT 19 5) HT_ ?_
  refine pf 5 (some 16) (bT 19 6) HT_ ?_
  refine pf 6 (some 17) (bT 19 7) HT_ ?_
  refine pf 7 (some 18) (bT 19 8) HT_ ?_
  refine pf 8 (some 19) (bT 19 9) HT_ ?_
  refine pf 9 (some 20) (bT 19 10) HT_ ?_
  refine pf 10 (some 21) (bT 19 11) HT_ ?_
  refine pf 11 (some 22) (bT 19 12) HT_ ?_
  refine pf 12 (some 23) (bT 19 13) HT_ ?_
  refine pf 13 (some 24) (bT 19 14) HT_ ?_
  refine pf 14 (some 25) (bT 19 15) HT_ ?_
  refine pf 15 (some 26) (bT 19 16) HT_ ?_
  refine pf 16 (some 27) (bT 19 17) HT_ ?_
  refine pf 17 (some 28) (bT 19 18) HT_ ?_
  refine pu 18 (some 29) (bT 19 19) HT_ ?_
  refine done_ (done_of HT_.out (by kernel_rfl)) ?_
  obtain ⟨hcz29_0, hcz29_1, hcz29_2, hcz29_3, hfz29_0, hfz29_1, hfz29_2, hfz29_3⟩ := bz4 BK507
  try go_wp2
  refine bodyPost_ret (results_ct rfl _ _ gb507 25 #[.int .i64 0, .int .i64 0, .int .i64 0, .int .i64 0] (0, 0) _ rfl (bq0 BK507) Tryz.underlying25 rfl (by kernel_rfl)) rfl ?_
  exact er (bbw1 HB GE507)
 all_goals
  obtain ⟨Ao13, co13, eo13⟩ := Kd.R_slice HO511.out
  (first | subst eo13 | (injection eo13 with f1_ f2_ f3_; have f4_ := f1_.symm; have f5_ := f3_.symm; clear f1_ f2_ f3_; subst f4_; subst f5_))
  have p512 : 0 ≤ (0 : Int) := (by omega)
  have q512 : 0 < (t508.length : Int) := od
  obtain ⟨ad512, e512, hx512_0⟩ := Kd.at_int (Kd.R_reads' HO511.out).2.2 0 p512 q512
  cases e512
  have qi512 : (0 < t508.length) = True := eq_true (by omega)
  (try rw [show ((0 : Int)).toNat = 0 from rfl] at hx512_0)
  (try rw [Addr.add_zero'] at hx512_0)
  replace p512 := eq_true p512
  replace q512 := eq_true q512
  have p513 : 0 ≤ (1 : Int) := (by omega)
  have q513 : 1 < (t508.length : Int) := od
  obtain ⟨ad513, e513, hx513_0⟩ := Kd.at_int (Kd.R_reads' HO511.out).2.2 1 p513 q513
  obtain rfl : ad512 = ad513 := (by injection e513)
  (try simp only [show (1 : Int).toNat = 1 from rfl, Nat.reduceMul, Nat.reduceEqDiff, Go.Addr.add, ↓reduceIte] at hx513_0)
  have qi513 : (1 < t508.length) = True := eq_true (by omega)
  (try rw [show ((1 : Int)).toNat = 1 from rfl] at hx513_0)
  replace p513 := eq_true p513
  replace q513 := eq_true q513
  have p514 : 0 ≤ (2 : Int) := (by omega)
  have q514 : 2 < (t508.length : Int) := od
  obtain ⟨ad514, e514, hx514_0⟩ := Kd.at_int (Kd.R_reads' HO511.out).2.2 2 p514 q514
  obtain rfl : ad512 = ad514 := (by injection e514)
  (try simp only [show (2 : Int).toNat = 2 from rfl, Nat.reduceMul, Nat.reduceEqDiff, Go.Addr.add, ↓reduceIte] at hx514_0)
  have qi514 : (2 < t508.length) = True := eq_true (by omega)
  (try rw [show ((2 : Int)).toNat = 2 from rfl] at hx514_0)
  replace p514 := eq_true p514
  replace q514 := eq_true q514
  have p515 : 0 ≤ (3 : Int) := (by omega)
  have q515 : 3 < (t508.length : Int) := od
  obtain ⟨ad515, e515, hx515_0⟩ := Kd.at_int (Kd.R_reads' HO511.out).2.2 3 p515 q515
  obtain rfl : ad512 = ad515 := (by injection e515)
  (try simp only [show (3 : Int).toNat = 3 from rfl, Nat.reduceMul, Nat.reduceEqDiff, Go.Addr.add, ↓reduceIte] at hx515_0)
  have qi515 : (3 < t508.length) = True := eq_true (by omega)
  (try rw [show ((3 : Int)).toNat = 3 from rfl] at hx515_0)
  replace p515 := eq_true p515
  replace q515 := eq_true q515
  refine sh 19 (c1 hx512_0 (c1 hx513_0 (c1 hx514_0 (e1 hx515_0)))) (fun hHeld => ?_); refine with_tabW impl_ReadMat.tab2 impl_ReadMat.bits2 (fun HT_ HW_ => ?_)
  generalize w11.drew = w12 at HO511 BK507 HB hx512_0 hx513_0 hx514_0 hx515_0 hHeld ⊢
  refine pu 0 (some 11) (bT 19 1) HT_ ?_
  refine pu 1 (some 12) (bT 19 2) HT_ ?_
  refine pu 2 (some 13) (bT 19 3) HT_ ?_
  refine pu 3 (some 14) (bT 19 4) HT_ ?_
  refine pu 4 (some 15) (bT 19 5) HT_ ?_
  refine pu 6 (some 17) (bs 19 95) HT_ ?_
  refine pu 7 (some 18) (bs 19 223) HT_ ?_
  refine pu 9 (some 20) (bs 19 735) HT_ ?_
  refine pu 10 (some 21) (bs 19 1759) HT_ ?_
  refine pu 12 (some 23) (bs 19 5855) HT_ ?_
  refine pu 13 (some 24) (bs 19 14047) HT_ ?_
  refine ta 5 (some 16) (bs 19 14079) HT_ HW_ hHeld ?_
  refine ta 8 (some 19) (bs 19 14335) HT_ HW_ hHeld ?_
  refine ta 11 (some 22) (bT 19 14) HT_ HW_ hHeld ?_
  refine ta 14 (some 25) (bT 19 15) HT_ HW_ hHeld ?_
  refine pu 15 (some 26) (bT 19 16) HT_ ?_
  refine ro 16 (some 27) (bT 19 17) HT_ (fun K hK => ?_)
  refine gs Tryz.func52 #[.agg #[.int .i64 (rd t508 0), .int .i64 (rd t508 1), .int .i64 (rd t508 2), .int .i64 (rd t508 3)]] ?_
  with_reducible refine (impl_IsMat.calls _ _ _ _ _ _ A8.out).mono ?_
  rintro e w14 ⟨rfl, hb⟩
  have HS0_ := hbc hb (hHeld.1)
  have HS1_ := hbc hb (hHeld.2.1)
  have HS2_ := hbc hb (hHeld.2.2.1)
  have HS3_ := hbc hb (hHeld.2.2.2)
  refine ⟨_, rfl, ?_⟩
  replace HO511 := asd (Kd.R_below (kr HO511) hb)
  replace BK507 := bB BK507 hb
  replace HB := bS1 HB GE507 hb
  (try clear hb)
  (try clear hb2)
  (try clear hk)
  (try clear hi)
  refine hK.out _ _ ⟨HS0_, HS1_, HS2_, HS3_⟩ (fun hHeld => ?_)
  clear hK K
  refine norm_ (a' := ?_) ?_ ?_
  rotate_left
  ·show Act.put _ (some 27) _ = _
   simp only [Act.put, sA, sB, sC, i64_w, i32_w]
   rfl
  refine pu 17 (some 28) (bT 19 18) HT_ ?_
  refine pu 18 (some 29) (bT 19 19) HT_ ?_
  refine done_ (done_of HT_.out (by kernel_rfl)) ?_
 ·try go_wp2
  replace HO511 := asd (Kd.R_drew HO511.out)
  replace BK507 := asd (blk_drew BK507.out)
  replace HB := asd (below_drew1 HB.out)
  have p517 : 0 ≤ (0 : Int) := (by omega)
  have q517 : 0 < (t508.length : Int) := od
  obtain ⟨ad517, e517, hx517_0⟩ := Kd.at_int (Kd.R_reads' HO511.out).2.2 0 p517 q517
  obtain rfl : ad512 = ad517 := (by injection e517)
  have qi517 : (0 < t508.length) = True := eq_true (by omega)
  (try rw [show ((0 : Int)).toNat = 0 from rfl] at hx517_0)
  (try rw [Addr.add_zero'] at hx517_0)
  replace p517 := eq_true p517
  replace q517 := eq_true q517
  have p518 : 0 ≤ (1 : Int) := (by omega)
  have q518 : 1 < (t508.length : Int) := od
  obtain ⟨ad518, e518, hx518_0⟩ := Kd.at_int (Kd.R_reads' HO511.out).2.2 1 p518 q518
  obtain rfl : ad512 = ad518 := (by injection e518)
  (try simp only [show (1 : Int).toNat = 1 from rfl, Nat.reduceMul, Nat.reduceEqDiff, Go.Addr.add, ↓reduceIte] at hx518_0)
  have qi518 : (1 < t508.length) = True := eq_true (by omega)
  (try rw [show ((1 : Int)).toNat = 1 from rfl] at hx518_0)
  replace p518 := eq_true p518
  replace q518 := eq_true q518
  have p519 : 0 ≤ (2 : Int) := (by omega)
  have q519 : 2 < (t508.length : Int) := od
  obtain ⟨ad519, e519, hx519_0⟩ := Kd.at_int (Kd.R_reads' HO511.out).2.2 2 p519 q519
  obtain rfl : ad512 = ad519 := (by injection e519)
  (try simp only [show (2 : Int).toNat = 2 from rfl, Nat.reduceMul, Nat.reduceEqDiff, Go.Addr.add, ↓reduceIte] at hx519_0)
  have qi519 : (2 < t508.length) = True := eq_true (by omega)
  (try rw [show ((2 : Int)).toNat = 2 from rfl] at hx519_0)
  replace p519 := eq_true p519
  replace q519 := eq_true q519
  have p520 : 0 ≤ (3 : Int) := (by omega)
  have q520 : 3 < (t508.length : Int) := od
  obtain ⟨ad520, e520, hx520_0⟩ := Kd.at_int (Kd.R_reads' HO511.out).2.2 3 p520 q520
  obtain rfl : ad512 = ad520 := (by injection e520)
  (try simp only [show (3 : Int).toNat = 3 from rfl, Nat.reduceMul, Nat.reduceEqDiff, Go.Addr.add, ↓reduceIte] at hx520_0)
  have qi520 : (3 < t508.length) = True := eq_true (by omega)
  (try rw [show ((3 : Int)).toNat = 3 from rfl] at hx520_0)
  replace p520 := eq_true p520
  replace q520 := eq_true q520
  refine sh 15 (c1 hx517_0 (c1 hx518_0 (c1 hx519_0 (e1 hx520_0)))) (fun hHeld => ?_); refine with_tabW impl_ReadMat.tab4 impl_ReadMat.bits4 (fun HT_ HW_ => ?_)
  generalize w14.drew = w15 at HO511 BK507 HB hx517_0 hx518_0 hx519_0 hx520_0 hHeld ⊢
  refine pu 0 (some 31) (bT 15 1) HT_ ?_
  refine pu 1 (some 32) (bT 15 2) HT_ ?_
  refine pu 3 (some 34) (bs 15 11) HT_ ?_
  refine pu 4 (some 35) (bs 15 27) HT_ ?_
  refine pu 6 (some 37) (bs 15 91) HT_ ?_
  refine pu 7 (some 38) (bs 15 219) HT_ ?_
  refine pu 9 (some 40) (bs 15 731) HT_ ?_
  refine pu 10 (some 41) (bs 15 1755) HT_ ?_
  refine ta 2 (some 33) (bs 15 1759) HT_ HW_ hHeld ?_
  refine ta 5 (some 36) (bs 15 1791) HT_ HW_ hHeld ?_
  refine ta 8 (some 39) (bT 15 11) HT_ HW_ hHeld ?_
  refine ta 11 (some 42) (bT 15 12) HT_ HW_ hHeld ?_
  refine pu 12 (some 43) (bT 15 13) HT_ ?_
  refine ro 13 (none) (bT 15 14) HT_ (fun K hK => ?_)
  have hs16 : w15.cell? ⟨gb507, 0, none⟩ = some (.int .i64 0) := bcl BK507 0
  have hfs16 := blk_frozen BK507.out 0
  have hs17 : w15.cell? ⟨gb507, 1, none⟩ = some (.int .i64 0) := bcl BK507 1
  have hfs17 := blk_frozen BK507.out 1
  have hs18 : w15.cell? ⟨gb507, 2, none⟩ = some (.int .i64 0) := bcl BK507 2
  have hfs18 := blk_frozen BK507.out 2
  have hs19 : w15.cell? ⟨gb507, 3, none⟩ = some (.int .i64 0) := bcl BK507 3
  have hfs19 := blk_frozen BK507.out 3
  refine skip_ (w1 := ?_) (by rfl) rfl ?_ ?_
  rotate_left
  ·go_simp
   rfl
  refine hK.out _ _ ⟨(fx4 (Kd.own_blk (Kd.R_ne HO511.out BK507.out (by decide))) (hHeld.1)), (fx4 (Kd.own_blk (Kd.R_ne HO511.out BK507.out (by decide))) (hHeld.2.1)), (fx4 (Kd.own_blk (Kd.R_ne HO511.out BK507.out (by decide))) (hHeld.2.2.1)), (fx4 (Kd.own_blk (Kd.R_ne HO511.out BK507.out (by decide))) (hHeld.2.2.2))⟩ (fun hHeld => ?_)
  clear hK K
  refine pu 14 (some 3) (bT 15 15) HT_ ?_
  refine done_ (done_of HT_.out (by kernel_rfl)) ?_
  try go_wp2
  refine bodyPost_ret (results_ct rfl _ _ gb507 25 #[.int .i64 (rd t508 0), .int .i64 (rd t508 1), .int .i64 (rd t508 2), .int .i64 (rd t508 3)] (0, 0) _ rfl (bq0 BK507) Tryz.underlying25 rfl (by kernel_rfl)) rfl ?_
  exact er (bbw1 HB GE507)
 ·obtain ⟨hcz25_0, hcz25_1, hcz25_2, hcz25_3, hfz25_0, hfz25_1, hfz25_2, hfz25_3⟩ := bz4 BK507
  try go_wp2
  refine bodyPost_ret (results_ct rfl _ _ gb507 25 #[.int .i64 0, .int .i64 0, .int .i64 0, .int .i64 0] (0, 0) _ rfl (bq0 BK507) Tryz.underlying25 rfl (by kernel_rfl)) rfl ?_
  exact er (bbw1 HB GE507)
/-! ### strings_Cut: function 43 -/
/-- A text cut at the first separator. -/
def strings_Cut.f (a0 a1 : ByteArray) : Option (ByteArray × ByteArray × Bool) := if a0.size < 4294967281 then some (⟨(Lib.cut a0.data.toList a1.data.toList).1.toArray⟩, ⟨(Lib.cut a0.data.toList a1.data.toList).2.1.toArray⟩, (Lib.cut a0.data.toList a1.data.toList).2.2) else none
theorem strings_Cut.calls (a0 a1 : ByteArray) (r1 r2 : ByteArray) (r3 : Bool) (w : World) (htab : texts.Tab w) (h : strings_Cut.f a0 a1 = some (r1, r2, r3)) : Calls Tryz.prog 43 #[.string a0, .string a1] w fun e w' => e = .returned (.tuple #[.string r1, .string r2, .bool r3]) ∧ Below w.heap.size w w' := by
 unfold strings_Cut.f at h
 by_cases hc : a0.size < 4294967281
 ·rw [if_pos hc] at h
  obtain ⟨m, hm⟩ := htab.maxlen
  injection h with h; injection h with h1 h2; injection h2 with h2 h3
  subst h1 h2 h3
  refine (Tryz.strings_Cut a0 a1 m w hc hm).mono ?_
  rintro e w' ⟨rfl, n, rfl⟩
  exact ⟨rfl, pw_below_drewN (Below.refl _ _) n⟩
 ·rw [if_neg hc] at h; cases h
/-! ### impl_ReadVec: function 44 -/
def impl_ReadVec.f (k : Nat) (a0 : ByteArray) : Option (Int × Int × Bool) := (impl_parted.f k a0 (⟨#[44]⟩ : ByteArray) 2).bind fun bt522 => (if bt522.2 = true then (if 0 < (bt522.1.length : Int) then (if 1 < (bt522.1.length : Int) then ((impl_IsVec.f (rd bt522.1 0) (rd bt522.1 1)).bind fun t528 => (if t528 = true then (some (rd bt522.1 0, rd bt522.1 1, true)) else (some (0, 0, false)))) else (none)) else (none)) else (some (0, 0, false)))
def impl_ReadVec.T2 : Bool × List (List Nat × List Nat) := (true, [([], []), ([0], [0]), ([1], [1]), ([2], [2]), ([3, 2], [2, 3]), ([4, 2], [2, 4]), ([2], [2]), ([6, 2], [2, 6]), ([7, 2], [2, 7]), ([5, 8, 2], [2, 5, 8]), ([9, 2, 2], [2, 9]), ([10, 2], [2, 10]), ([2, 11], [2, 11])])
def impl_ReadVec.B2 : List Nat := [0, 1, 3, 7, 15, 31, 7, 71, 199, 511, 1023, 2047, 4095]
theorem impl_ReadVec.tab2 : rtab .any (opsOf Tryz.f44 2) = impl_ReadVec.T2 := by kernel_rfl
theorem impl_ReadVec.bits2 : waitsOk impl_ReadVec.T2.2 impl_ReadVec.B2 = true := by kernel_rfl
def impl_ReadVec.T4 : Bool × List (List Nat × List Nat) := (true, [([], []), ([0], [0]), ([1], [1]), ([], []), ([3], [3]), ([4], [4]), ([2, 5], [2, 5]), ([6, 0, 1, 2, 3, 4, 5, 6], [6]), ([7, 0, 1, 2, 3, 4, 5, 6, 7], [])])
def impl_ReadVec.B4 : List Nat := [0, 1, 3, 0, 8, 24, 63, 127, 255]
theorem impl_ReadVec.tab4 : rtab .any (opsOf Tryz.f44 4) = impl_ReadVec.T4 := by kernel_rfl
theorem impl_ReadVec.bits4 : waitsOk impl_ReadVec.T4.2 impl_ReadVec.B4 = true := by kernel_rfl
set_option maxHeartbeats 8000000 in
set_option maxRecDepth 100000 in
theorem impl_ReadVec.calls (k : Nat) (a0 : ByteArray) (r1 : Int) (r2 : Int) (r3 : Bool) (w : World) (htab : texts.Tab w) (h : impl_ReadVec.f k a0 = some (r1, r2, r3)) :
  Calls Tryz.prog 44 #[.string a0] w fun e w' => e = .returned (.tuple #[.agg #[.int .i64 r1, .int .i64 r2], .bool r3]) ∧ Below w.heap.size w w' := by
 have HTAB := Aside0.mk htab
 clear htab
 have hu27 := Tryz.underlying27
 have HB := asd (Below.refl w.heap.size w)
 have H : ((impl_parted.f k a0 (⟨#[44]⟩ : ByteArray) 2).bind fun bt522 => (if bt522.2 = true then (if 0 < (bt522.1.length : Int) then (if 1 < (bt522.1.length : Int) then ((impl_IsVec.f (rd bt522.1 0) (rd bt522.1 1)).bind fun t528 => (if t528 = true then (some (rd bt522.1 0, rd bt522.1 1, true)) else (some (0, 0, false)))) else (none)) else (none)) else (some (0, 0, false)))) = some (r1, r2, r3) := h
 clear h
 obtain ⟨⟨t522, t523⟩, A2, H⟩ := ob H
 try dsimp only at H
 by_cases c3 : t523 = true
 subst c3
 replace H := ifT H
 by_cases c4 : 0 < (t522.length : Int)
 rw [if_pos c4] at H
 have c4b0 := decide_eq_true c4
 have c4b1 : decide (0 < t522.length) = true := decide_eq_true (by omega)
 clear c4
 by_cases c5 : 1 < (t522.length : Int)
 rw [if_pos c5] at H
 have c5b0 := decide_eq_true c5
 have c5b1 : decide (1 < t522.length) = true := decide_eq_true (by omega)
 clear c5
 obtain ⟨t528, A6, H⟩ := ob H
 try dsimp only at H
 by_cases c7 : t528 = true
 subst c7
 replace H := ifT H
 rotate_left
 replace c7 := Bool.eq_false_iff.mpr c7
 subst c7
 replace H := ifF H
 rotate_left
 ·rw [if_neg c5] at H
  exact absurd H (by simp)
 ·rw [if_neg c4] at H
  exact absurd H (by simp)
 replace c3 := Bool.eq_false_iff.mpr c3
 subst c3
 replace H := ifF H
 rotate_left
 all_goals
  simp only [Option.some.injEq, Prod.mk.injEq] at H
  obtain ⟨rfl, rfl, rfl⟩ := H
  go_enter Tryz.func44, Tryz.ntmps44
  try go_wp2_with (first | ((with_reducible refine gd 2 rfl ?_); refine bx #[.int .i64 0, .int .i64 0] 27 ?_; intro gb521 hg w8 BK521 hb; have GE521 := ngw0 hg HB; replace HB := bS0 HB hb; clear hb hg) | ((with_reducible refine gate_callee (f := 63) rfl ?_); refine gl 8 Tryz.func63 #[.string a0, .string (⟨#[44]⟩ : ByteArray), .int .i64 2] ?_; (with_reducible refine (impl_parted.calls _ _ _ _ _ _ _ (texts.tabB HTAB.out (by repeat (first | (with_reducible first | exact HB.out | exact Below.refl _ _ | apply below_alloc | apply pw_below_drewN | apply below_drew1 | refine below_set ?_ GE521.out) | exact HB.out))) A2.out).mono ?_); rintro e w9 ⟨v524, rfl, ho0, hb⟩; refine ⟨_, rfl, ?_⟩; have HO525 := asd (Kd.R_lower ho0 (bsz1 HB GE521)); replace BK521 := bB BK521 hb; replace HB := bS1 HB GE521 hb; (try clear hb); (try clear hb2); (try clear hk); (try clear hi); (try clear ho0)))
  replace HO525 := asd (Kd.R_drew HO525.out)
  replace BK521 := asd (blk_drew BK521.out)
  replace HB := asd (below_drew1 HB.out)
 rotate_left 2
 ·refine start_ (n := 13) (S := fun w' => True) (ds := []) (bT 13 0) (by kernel_rfl) rfl rfl trivial (fun hHeld => ?_); refine with_tabW impl_ReadVec.tab2 impl_ReadVec.bits2 (fun HT_ HW_ => ?_)
  generalize w9.drew = w24 at HO525 BK521 HB hHeld ⊢
  refine pu 0 (some 11) (bT 13 1) HT_ ?_
  refine pu 1 (some 12) (bT 13 2) HT_ ?_
  refine pu 2 (some 13) (bT 13 3) HT_ ?_
  refine pf 3 (some 14) (bT 13 4) HT_ ?_
  refine pf 4 (some 15) (bT 13 5) HT_ ?_
  refine pf 5 (some 16) (bT 13 6) HT_ ?_
  refine pf 6 (some 17) (bT 13 7) HT_ ?_
  refine pf 7 (some 18) (bT 13 8) HT_ ?_
  refine pf 8 (some 19) (bT 13 9) HT_ ?_
  refine pf 9 (some 20) (bT 13 10) HT_ ?_
  refine pf 10 (some 21) (bT 13 11) HT_ ?_
  refine pf 11 (some 22) (bT 13 12) HT_ ?_
  refine pu 12 (some 23) (bT 13 13) HT_ ?_
  refine done_ (done_of HT_.out (by kernel_rfl)) ?_
  obtain ⟨hcz25_0, hcz25_1, hfz25_0, hfz25_1⟩ := bz2 BK521
  try go_wp2
  refine bodyPost_ret (results_ct rfl _ _ gb521 27 #[.int .i64 0, .int .i64 0] (0, 0) _ rfl (bq0 BK521) Tryz.underlying27 rfl (by kernel_rfl)) rfl ?_
  exact er (bbw1 HB GE521)
 all_goals
  obtain ⟨Ao11, co11, eo11⟩ := Kd.R_slice HO525.out
  (first | subst eo11 | (injection eo11 with f1_ f2_ f3_; have f4_ := f1_.symm; have f5_ := f3_.symm; clear f1_ f2_ f3_; subst f4_; subst f5_))
  have p526 : 0 ≤ (0 : Int) := (by omega)
  have q526 : 0 < (t522.length : Int) := od
  obtain ⟨ad526, e526, hx526_0⟩ := Kd.at_int (Kd.R_reads' HO525.out).2.2 0 p526 q526
  cases e526
  have qi526 : (0 < t522.length) = True := eq_true (by omega)
  (try rw [show ((0 : Int)).toNat = 0 from rfl] at hx526_0)
  (try rw [Addr.add_zero'] at hx526_0)
  replace p526 := eq_true p526
  replace q526 := eq_true q526
  have p527 : 0 ≤ (1 : Int) := (by omega)
  have q527 : 1 < (t522.length : Int) := od
  obtain ⟨ad527, e527, hx527_0⟩ := Kd.at_int (Kd.R_reads' HO525.out).2.2 1 p527 q527
  obtain rfl : ad526 = ad527 := (by injection e527)
  (try simp only [show (1 : Int).toNat = 1 from rfl, Nat.reduceMul, Nat.reduceEqDiff, Go.Addr.add, ↓reduceIte] at hx527_0)
  have qi527 : (1 < t522.length) = True := eq_true (by omega)
  (try rw [show ((1 : Int)).toNat = 1 from rfl] at hx527_0)
  replace p527 := eq_true p527
  replace q527 := eq_true q527
  refine sh 13 (c1 hx526_0 (e1 hx527_0)) (fun hHeld => ?_); refine with_tabW impl_ReadVec.tab2 impl_ReadVec.bits2 (fun HT_ HW_ => ?_)
  generalize w9.drew = w10 at HO525 BK521 HB hx526_0 hx527_0 hHeld ⊢
  refine pu 0 (some 11) (bT 13 1) HT_ ?_
  refine pu 1 (some 12) (bT 13 2) HT_ ?_
  refine pu 2 (some 13) (bT 13 3) HT_ ?_
  refine pu 3 (some 14) (bT 13 4) HT_ ?_
  refine pu 4 (some 15) (bT 13 5) HT_ ?_
  refine pu 6 (some 17) (bs 13 95) HT_ ?_
  refine pu 7 (some 18) (bs 13 223) HT_ ?_
  refine ta 5 (some 16) (bT 13 8) HT_ HW_ hHeld ?_
  refine ta 8 (some 19) (bT 13 9) HT_ HW_ hHeld ?_
  refine pu 9 (some 20) (bT 13 10) HT_ ?_
  refine ro 10 (some 21) (bT 13 11) HT_ (fun K hK => ?_)
  refine gs Tryz.func37 #[.agg #[.int .i64 (rd t522 0), .int .i64 (rd t522 1)]] ?_
  with_reducible refine (impl_IsVec.calls _ _ _ _ A6.out).mono ?_
  rintro e w12 ⟨rfl, hb⟩
  have HS0_ := hbc hb (hHeld.1)
  have HS1_ := hbc hb (hHeld.2)
  refine ⟨_, rfl, ?_⟩
  replace HO525 := asd (Kd.R_below (kr HO525) hb)
  replace BK521 := bB BK521 hb
  replace HB := bS1 HB GE521 hb
  (try clear hb)
  (try clear hb2)
  (try clear hk)
  (try clear hi)
  refine hK.out _ _ ⟨HS0_, HS1_⟩ (fun hHeld => ?_)
  clear hK K
  refine norm_ (a' := ?_) ?_ ?_
  rotate_left
  ·show Act.put _ (some 21) _ = _
   simp only [Act.put, sA, sB, sC, i64_w, i32_w]
   rfl
  refine pu 11 (some 22) (bT 13 12) HT_ ?_
  refine pu 12 (some 23) (bT 13 13) HT_ ?_
  refine done_ (done_of HT_.out (by kernel_rfl)) ?_
 ·try go_wp2
  replace HO525 := asd (Kd.R_drew HO525.out)
  replace BK521 := asd (blk_drew BK521.out)
  replace HB := asd (below_drew1 HB.out)
  have p529 : 0 ≤ (0 : Int) := (by omega)
  have q529 : 0 < (t522.length : Int) := od
  obtain ⟨ad529, e529, hx529_0⟩ := Kd.at_int (Kd.R_reads' HO525.out).2.2 0 p529 q529
  obtain rfl : ad526 = ad529 := (by injection e529)
  have qi529 : (0 < t522.length) = True := eq_true (by omega)
  (try rw [show ((0 : Int)).toNat = 0 from rfl] at hx529_0)
  (try rw [Addr.add_zero'] at hx529_0)
  replace p529 := eq_true p529
  replace q529 := eq_true q529
  have p530 : 0 ≤ (1 : Int) := (by omega)
  have q530 : 1 < (t522.length : Int) := od
  obtain ⟨ad530, e530, hx530_0⟩ := Kd.at_int (Kd.R_reads' HO525.out).2.2 1 p530 q530
  obtain rfl : ad526 = ad530 := (by injection e530)
  (try simp only [show (1 : Int).toNat = 1 from rfl, Nat.reduceMul, Nat.reduceEqDiff, Go.Addr.add, ↓reduceIte] at hx530_0)
  have qi530 : (1 < t522.length) = True := eq_true (by omega)
  (try rw [show ((1 : Int)).toNat = 1 from rfl] at hx530_0)
  replace p530 := eq_true p530
  replace q530 := eq_true q530
  refine sh 9 (c1 hx529_0 (e1 hx530_0)) (fun hHeld => ?_); refine with_tabW impl_ReadVec.tab4 impl_ReadVec.bits4 (fun HT_ HW_ => ?_)
  generalize w12.drew = w13 at HO525 BK521 HB hx529_0 hx530_0 hHeld ⊢
  refine pu 0 (some 25) (bT 9 1) HT_ ?_
  refine pu 1 (some 26) (bT 9 2) HT_ ?_
  refine pu 3 (some 28) (bs 9 11) HT_ ?_
  refine pu 4 (some 29) (bs 9 27) HT_ ?_
  refine ta 2 (some 27) (bT 9 5) HT_ HW_ hHeld ?_
  refine ta 5 (some 30) (bT 9 6) HT_ HW_ hHeld ?_
  refine pu 6 (some 31) (bT 9 7) HT_ ?_
  refine ro 7 (none) (bT 9 8) HT_ (fun K hK => ?_)
  have hs14 : w13.cell? ⟨gb521, 0, none⟩ = some (.int .i64 0) := bcl BK521 0
  have hfs14 := blk_frozen BK521.out 0
  have hs15 : w13.cell? ⟨gb521, 1, none⟩ = some (.int .i64 0) := bcl BK521 1
  have hfs15 := blk_frozen BK521.out 1
  refine skip_ (w1 := ?_) (by rfl) rfl ?_ ?_
  rotate_left
  ·go_simp
   rfl
  refine hK.out _ _ ⟨(fx2 (Kd.own_blk (Kd.R_ne HO525.out BK521.out (by decide))) (hHeld.1)), (fx2 (Kd.own_blk (Kd.R_ne HO525.out BK521.out (by decide))) (hHeld.2))⟩ (fun hHeld => ?_)
  clear hK K
  refine pu 8 (some 3) (bT 9 9) HT_ ?_
  refine done_ (done_of HT_.out (by kernel_rfl)) ?_
  try go_wp2
  refine bodyPost_ret (results_ct rfl _ _ gb521 27 #[.int .i64 (rd t522 0), .int .i64 (rd t522 1)] (0, 0) _ rfl (bq0 BK521) Tryz.underlying27 rfl (by kernel_rfl)) rfl ?_
  exact er (bbw1 HB GE521)
 ·obtain ⟨hcz21_0, hcz21_1, hfz21_0, hfz21_1⟩ := bz2 BK521
  try go_wp2
  refine bodyPost_ret (results_ct rfl _ _ gb521 27 #[.int .i64 0, .int .i64 0] (0, 0) _ rfl (bq0 BK521) Tryz.underlying27 rfl (by kernel_rfl)) rfl ?_
  exact er (bbw1 HB GE521)
/-! ### impl_ReadMotion: function 11 -/
def impl_ReadMotion.f (k : Nat) (a0 : ByteArray) : Option (Int × Int × Int × Int × Int × Int × Bool) := (strings_Cut.f a0 (⟨#[59]⟩ : ByteArray)).bind fun bt532 => ((impl_ReadMat.f k bt532.1).bind fun bt535 => ((impl_ReadVec.f k bt532.2.1).bind fun bt541 => (if bt535.2.2.2.2 = true then (if bt541.2.2 = true then ((impl_IsMotion.f k bt535.1 bt535.2.1 bt535.2.2.1 bt535.2.2.2.1 bt541.1 bt541.2.1).bind fun t545 => (if t545 = true then (some (bt535.1, bt535.2.1, bt535.2.2.1, bt535.2.2.2.1, bt541.1, bt541.2.1, true)) else (some (0, 0, 0, 0, 0, 0, false)))) else (some (0, 0, 0, 0, 0, 0, false))) else (some (0, 0, 0, 0, 0, 0, false)))))
set_option maxHeartbeats 8000000 in
set_option maxRecDepth 100000 in
theorem impl_ReadMotion.calls (k : Nat) (a0 : ByteArray) (r1 : Int) (r2 : Int) (r3 : Int) (r4 : Int) (r5 : Int) (r6 : Int) (r7 : Bool) (w : World) (htab : texts.Tab w) (h : impl_ReadMotion.f k a0 = some (r1, r2, r3, r4, r5, r6, r7)) :
  Calls Tryz.prog 11 #[.string a0] w fun e w' => e = .returned (.tuple #[.agg #[.int .i64 r1, .int .i64 r2, .int .i64 r3, .int .i64 r4, .int .i64 r5, .int .i64 r6], .bool r7]) ∧ Below w.heap.size w w' := by
 have HTAB := Aside0.mk htab
 clear htab
 have hu29 := Tryz.underlying29
 have hu25 := Tryz.underlying25
 have hu27 := Tryz.underlying27
 have HB := asd (Below.refl w.heap.size w)
 have H : ((strings_Cut.f a0 (⟨#[59]⟩ : ByteArray)).bind fun bt532 => ((impl_ReadMat.f k bt532.1).bind fun bt535 => ((impl_ReadVec.f k bt532.2.1).bind fun bt541 => (if bt535.2.2.2.2 = true then (if bt541.2.2 = true then ((impl_IsMotion.f k bt535.1 bt535.2.1 bt535.2.2.1 bt535.2.2.2.1 bt541.1 bt541.2.1).bind fun t545 => (if t545 = true then (some (bt535.1, bt535.2.1, bt535.2.2.1, bt535.2.2.2.1, bt541.1, bt541.2.1, true)) else (some (0, 0, 0, 0, 0, 0, false)))) else (some (0, 0, 0, 0, 0, 0, false))) else (some (0, 0, 0, 0, 0, 0, false)))))) = some (r1, r2, r3, r4, r5, r6, r7) := h
 clear h
 obtain ⟨⟨t532, t533, t534⟩, A2, H⟩ := ob H
 try dsimp only at H
 obtain ⟨⟨t535, t536, t537, t538, t539⟩, A3, H⟩ := ob H
 try dsimp only at H
 obtain ⟨⟨t541, t542, t543⟩, A4, H⟩ := ob H
 try dsimp only at H
 by_cases c5 : t539 = true
 subst c5
 replace H := ifT H
 by_cases c6 : t543 = true
 subst c6
 replace H := ifT H
 obtain ⟨t545, A7, H⟩ := ob H
 try dsimp only at H
 by_cases c8 : t545 = true
 subst c8
 replace H := ifT H
 rotate_left
 replace c8 := Bool.eq_false_iff.mpr c8
 subst c8
 replace H := ifF H
 rotate_left
 replace c6 := Bool.eq_false_iff.mpr c6
 subst c6
 replace H := ifF H
 rotate_left
 replace c5 := Bool.eq_false_iff.mpr c5
 subst c5
 replace H := ifF H
 rotate_left
 all_goals
  simp only [Option.some.injEq, Prod.mk.injEq] at H
  obtain ⟨rfl, rfl, rfl, rfl, rfl, rfl, rfl⟩ := H
  go_enter Tryz.func11, Tryz.ntmps11
 ·go_wp2_with (first | ((with_reducible refine gd 2 rfl ?_); refine bx #[.int .i64 0, .int .i64 0, .int .i64 0, .int .i64 0, .int .i64 0, .int .i64 0] 29 ?_; intro gb531 hg w9 BK531 hb; have GE531 := ngw0 hg HB; replace HB := bS0 HB hb; clear hb hg) | ((with_reducible refine gate_callee (f := 43) rfl ?_); refine gl 13 Tryz.func43 #[.string a0, .string (⟨#[59]⟩ : ByteArray)] ?_; (with_reducible refine (strings_Cut.calls _ _ _ _ _ _ (texts.tabB HTAB.out (by repeat (first | (with_reducible first | exact HB.out | exact Below.refl _ _ | apply below_alloc | apply pw_below_drewN | apply below_drew1 | refine below_set ?_ GE531.out | refine below_set ?_ GE540.out | refine below_set ?_ GE544.out) | exact HB.out))) A2.out).mono ?_); rintro e w10 ⟨rfl, hb⟩; refine ⟨_, rfl, ?_⟩; replace BK531 := bB BK531 hb; replace HB := bS1 HB GE531 hb; (try clear hb)) | ((with_reducible refine gate_callee (f := 19) rfl ?_); refine gl 19 Tryz.func19 #[.string t532] ?_; (with_reducible refine (impl_ReadMat.calls _ _ _ _ _ _ _ _ (texts.tabB HTAB.out (by repeat (first | (with_reducible first | exact HB.out | exact Below.refl _ _ | apply below_alloc | apply pw_below_drewN | apply below_drew1 | refine below_set ?_ GE531.out | refine below_set ?_ GE540.out | refine below_set ?_ GE544.out) | exact HB.out))) A3.out).mono ?_); rintro e w11 ⟨rfl, hb⟩; refine ⟨_, rfl, ?_⟩; replace BK531 := bB BK531 hb; replace HB := bS1 HB GE531 hb; (try clear hb)) | ((with_reducible refine gd 7 rfl ?_); refine bx #[.int .i64 0, .int .i64 0, .int .i64 0, .int .i64 0] 25 ?_; intro gb540 hg w12 BK540 hb; have GE540 := ngw1 hg HB GE531; replace HB := bS1 HB GE531 hb; have NB531_540 := nlt hg BK531; have NB540_531 := nsy (nlt hg BK531); replace BK531 := bB BK531 hb; clear hb hg; have hnb13 := NB540_531.out; have hnc13 := NB531_540.out; obtain ⟨hcz14_0, hcz14_1, hcz14_2, hcz14_3, hfz14_0, hfz14_1, hfz14_2, hfz14_3⟩ := bz4 BK540) | ((with_reducible refine gate_callee (f := 44) rfl ?_); refine gl 24 Tryz.func44 #[.string t533] ?_; (with_reducible refine (impl_ReadVec.calls _ _ _ _ _ _ (texts.tabB HTAB.out (by repeat (first | (with_reducible first | exact HB.out | exact Below.refl _ _ | apply below_alloc | apply pw_below_drewN | apply below_drew1 | refine below_set ?_ GE531.out | refine below_set ?_ GE540.out | refine below_set ?_ GE544.out) | exact HB.out))) A4.out).mono ?_); rintro e w15 ⟨rfl, hb⟩; refine ⟨_, rfl, ?_⟩; replace BK531 := asd (blk_below (g := gb531) (o := .cells #[.int .i64 0, .int .i64 0, .int .i64 0, .int .i64 0, .int .i64 0, .int .i64 0] 29 (0, 0)) (bq1 BK531 NB531_540) hb); replace BK540 := asd (blk_below (g := gb540) (o := .cells #[.int .i64 t535, .int .i64 t536, .int .i64 t537, .int .i64 t538] 25 (0, 0)) (bq0 BK540) hb); replace HB := bS2 HB GE531 GE540 hb; (try clear hb)) | ((with_reducible refine gd 9 rfl ?_); refine bx #[.int .i64 0, .int .i64 0] 27 ?_; intro gb544 hg w16 BK544 hb; have GE544 := ngw2 hg HB GE531 GE540; replace HB := bS2 HB GE531 GE540 hb; have NB531_544 := nlt hg BK531; have NB544_531 := nsy (nlt hg BK531); replace BK531 := bB BK531 hb; have NB540_544 := nlt hg BK540; have NB544_540 := nsy (nlt hg BK540); replace BK540 := bB BK540 hb; clear hb hg; have hnb17 := NB544_531.out; have hnc17 := NB531_544.out; have hnb18 := NB544_540.out; have hnc18 := NB540_544.out; obtain ⟨hcz19_0, hcz19_1, hfz19_0, hfz19_1⟩ := bz2 BK544; obtain ⟨hcz20_0, hcz20_1, hcz20_2, hcz20_3, hfz20_0, hfz20_1, hfz20_2, hfz20_3⟩ := bz4 BK540) | (go_at_call 34; (with_reducible refine (impl_IsMotion.calls _ _ _ _ _ _ _ _ _ A7.out).mono ?_); rintro e w21 ⟨rfl, hb⟩; replace BK531 := asd (blk_below (g := gb531) (o := .cells #[.int .i64 0, .int .i64 0, .int .i64 0, .int .i64 0, .int .i64 0, .int .i64 0] 29 (0, 0)) (bq1 BK531 NB531_544) hb); replace BK540 := asd (blk_below (g := gb540) (o := .cells #[.int .i64 t535, .int .i64 t536, .int .i64 t537, .int .i64 t538] 25 (0, 0)) (bq1 BK540 NB540_544) hb); replace BK544 := asd (blk_below (g := gb544) (o := .cells #[.int .i64 t541, .int .i64 t542] 27 (0, 0)) (bq0 BK544) hb); replace HB := bS3 HB GE531 GE540 GE544 hb; (try clear hb); obtain ⟨hcz22_0, hcz22_1, hcz22_2, hcz22_3, hfz22_0, hfz22_1, hfz22_2, hfz22_3⟩ := bz4 BK540; obtain ⟨hcz23_0, hcz23_1, hfz23_0, hfz23_1⟩ := bz2 BK544; obtain ⟨hcz24_0, hcz24_1, hcz24_2, hcz24_3, hcz24_4, hcz24_5, hfz24_0, hfz24_1, hfz24_2, hfz24_3, hfz24_4, hfz24_5⟩ := bz6 BK531))
  refine bodyPost_ret (results_ct rfl _ _ gb531 29 #[.int .i64 t535, .int .i64 t536, .int .i64 t537, .int .i64 t538, .int .i64 t541, .int .i64 t542] (0, 0) _ rfl (bq0 BK531) Tryz.underlying29 rfl (by kernel_rfl)) rfl ?_
  exact er (bbw3 HB GE531 GE540 GE544)
 ·go_wp2_with (first | ((with_reducible refine gd 2 rfl ?_); refine bx #[.int .i64 0, .int .i64 0, .int .i64 0, .int .i64 0, .int .i64 0, .int .i64 0] 29 ?_; intro gb531 hg w25 BK531 hb; have GE531 := ngw0 hg HB; replace HB := bS0 HB hb; clear hb hg) | ((with_reducible refine gate_callee (f := 43) rfl ?_); refine gl 13 Tryz.func43 #[.string a0, .string (⟨#[59]⟩ : ByteArray)] ?_; (with_reducible refine (strings_Cut.calls _ _ _ _ _ _ (texts.tabB HTAB.out (by repeat (first | (with_reducible first | exact HB.out | exact Below.refl _ _ | apply below_alloc | apply pw_below_drewN | apply below_drew1 | refine below_set ?_ GE531.out | refine below_set ?_ GE540.out | refine below_set ?_ GE544.out) | exact HB.out))) A2.out).mono ?_); rintro e w26 ⟨rfl, hb⟩; refine ⟨_, rfl, ?_⟩; replace BK531 := bB BK531 hb; replace HB := bS1 HB GE531 hb; (try clear hb)) | ((with_reducible refine gate_callee (f := 19) rfl ?_); refine gl 19 Tryz.func19 #[.string t532] ?_; (with_reducible refine (impl_ReadMat.calls _ _ _ _ _ _ _ _ (texts.tabB HTAB.out (by repeat (first | (with_reducible first | exact HB.out | exact Below.refl _ _ | apply below_alloc | apply pw_below_drewN | apply below_drew1 | refine below_set ?_ GE531.out | refine below_set ?_ GE540.out | refine below_set ?_ GE544.out) | exact HB.out))) A3.out).mono ?_); rintro e w27 ⟨rfl, hb⟩; refine ⟨_, rfl, ?_⟩; replace BK531 := bB BK531 hb; replace HB := bS1 HB GE531 hb; (try clear hb)) | ((with_reducible refine gd 7 rfl ?_); refine bx #[.int .i64 0, .int .i64 0, .int .i64 0, .int .i64 0] 25 ?_; intro gb540 hg w28 BK540 hb; have GE540 := ngw1 hg HB GE531; replace HB := bS1 HB GE531 hb; have NB531_540 := nlt hg BK531; have NB540_531 := nsy (nlt hg BK531); replace BK531 := bB BK531 hb; clear hb hg; have hnb29 := NB540_531.out; have hnc29 := NB531_540.out; obtain ⟨hcz30_0, hcz30_1, hcz30_2, hcz30_3, hfz30_0, hfz30_1, hfz30_2, hfz30_3⟩ := bz4 BK540) | ((with_reducible refine gate_callee (f := 44) rfl ?_); refine gl 24 Tryz.func44 #[.string t533] ?_; (with_reducible refine (impl_ReadVec.calls _ _ _ _ _ _ (texts.tabB HTAB.out (by repeat (first | (with_reducible first | exact HB.out | exact Below.refl _ _ | apply below_alloc | apply pw_below_drewN | apply below_drew1 | refine below_set ?_ GE531.out | refine below_set ?_ GE540.out | refine below_set ?_ GE544.out) | exact HB.out))) A4.out).mono ?_); rintro e w31 ⟨rfl, hb⟩; refine ⟨_, rfl, ?_⟩; replace BK531 := asd (blk_below (g := gb531) (o := .cells #[.int .i64 0, .int .i64 0, .int .i64 0, .int .i64 0, .int .i64 0, .int .i64 0] 29 (0, 0)) (bq1 BK531 NB531_540) hb); replace BK540 := asd (blk_below (g := gb540) (o := .cells #[.int .i64 t535, .int .i64 t536, .int .i64 t537, .int .i64 t538] 25 (0, 0)) (bq0 BK540) hb); replace HB := bS2 HB GE531 GE540 hb; (try clear hb)) | ((with_reducible refine gd 9 rfl ?_); refine bx #[.int .i64 0, .int .i64 0] 27 ?_; intro gb544 hg w32 BK544 hb; have GE544 := ngw2 hg HB GE531 GE540; replace HB := bS2 HB GE531 GE540 hb; have NB531_544 := nlt hg BK531; have NB544_531 := nsy (nlt hg BK531); replace BK531 := bB BK531 hb; have NB540_544 := nlt hg BK540; have NB544_540 := nsy (nlt hg BK540); replace BK540 := bB BK540 hb; clear hb hg; have hnb33 := NB544_531.out; have hnc33 := NB531_544.out; have hnb34 := NB544_540.out; have hnc34 := NB540_544.out; obtain ⟨hcz35_0, hcz35_1, hfz35_0, hfz35_1⟩ := bz2 BK544; obtain ⟨hcz36_0, hcz36_1, hcz36_2, hcz36_3, hfz36_0, hfz36_1, hfz36_2, hfz36_3⟩ := bz4 BK540) | (go_at_call 34; (with_reducible refine (impl_IsMotion.calls _ _ _ _ _ _ _ _ _ A7.out).mono ?_); rintro e w37 ⟨rfl, hb⟩; replace BK531 := asd (blk_below (g := gb531) (o := .cells #[.int .i64 0, .int .i64 0, .int .i64 0, .int .i64 0, .int .i64 0, .int .i64 0] 29 (0, 0)) (bq1 BK531 NB531_544) hb); replace BK540 := asd (blk_below (g := gb540) (o := .cells #[.int .i64 t535, .int .i64 t536, .int .i64 t537, .int .i64 t538] 25 (0, 0)) (bq1 BK540 NB540_544) hb); replace BK544 := asd (blk_below (g := gb544) (o := .cells #[.int .i64 t541, .int .i64 t542] 27 (0, 0)) (bq0 BK544) hb); replace HB := bS3 HB GE531 GE540 GE544 hb; (try clear hb); obtain ⟨hcz38_0, hcz38_1, hcz38_2, hcz38_3, hcz38_4, hcz38_5, hfz38_0, hfz38_1, hfz38_2, hfz38_3, hfz38_4, hfz38_5⟩ := bz6 BK531))
  refine bodyPost_ret (results_ct rfl _ _ gb531 29 #[.int .i64 0, .int .i64 0, .int .i64 0, .int .i64 0, .int .i64 0, .int .i64 0] (0, 0) _ rfl (bq0 BK531) Tryz.underlying29 rfl (by kernel_rfl)) rfl ?_
  exact er (bbw3 HB GE531 GE540 GE544)
 rotate_left 2
 all_goals
  go_wp2_with (first | ((with_reducible refine gd 2 rfl ?_); refine bx #[.int .i64 0, .int .i64 0, .int .i64 0, .int .i64 0, .int .i64 0, .int .i64 0] 29 ?_; intro gb531 hg w39 BK531 hb; have GE531 := ngw0 hg HB; replace HB := bS0 HB hb; clear hb hg) | ((with_reducible refine gate_callee (f := 43) rfl ?_); refine gl 13 Tryz.func43 #[.string a0, .string (⟨#[59]⟩ : ByteArray)] ?_; (with_reducible refine (strings_Cut.calls _ _ _ _ _ _ (texts.tabB HTAB.out (by repeat (first | (with_reducible first | exact HB.out | exact Below.refl _ _ | apply below_alloc | apply pw_below_drewN | apply below_drew1 | refine below_set ?_ GE531.out | refine below_set ?_ GE540.out | refine below_set ?_ GE544.out) | exact HB.out))) A2.out).mono ?_); rintro e w40 ⟨rfl, hb⟩; refine ⟨_, rfl, ?_⟩; replace BK531 := bB BK531 hb; replace HB := bS1 HB GE531 hb; (try clear hb)) | ((with_reducible refine gate_callee (f := 19) rfl ?_); refine gl 19 Tryz.func19 #[.string t532] ?_; (with_reducible refine (impl_ReadMat.calls _ _ _ _ _ _ _ _ (texts.tabB HTAB.out (by repeat (first | (with_reducible first | exact HB.out | exact Below.refl _ _ | apply below_alloc | apply pw_below_drewN | apply below_drew1 | refine below_set ?_ GE531.out | refine below_set ?_ GE540.out | refine below_set ?_ GE544.out) | exact HB.out))) A3.out).mono ?_); rintro e w41 ⟨rfl, hb⟩; refine ⟨_, rfl, ?_⟩; replace BK531 := bB BK531 hb; replace HB := bS1 HB GE531 hb; (try clear hb)) | ((with_reducible refine gd 7 rfl ?_); refine bx #[.int .i64 0, .int .i64 0, .int .i64 0, .int .i64 0] 25 ?_; intro gb540 hg w42 BK540 hb; have GE540 := ngw1 hg HB GE531; replace HB := bS1 HB GE531 hb; have NB531_540 := nlt hg BK531; have NB540_531 := nsy (nlt hg BK531); replace BK531 := bB BK531 hb; clear hb hg; have hnb43 := NB540_531.out; have hnc43 := NB531_540.out; obtain ⟨hcz44_0, hcz44_1, hcz44_2, hcz44_3, hfz44_0, hfz44_1, hfz44_2, hfz44_3⟩ := bz4 BK540) | ((with_reducible refine gate_callee (f := 44) rfl ?_); refine gl 24 Tryz.func44 #[.string t533] ?_; (with_reducible refine (impl_ReadVec.calls _ _ _ _ _ _ (texts.tabB HTAB.out (by repeat (first | (with_reducible first | exact HB.out | exact Below.refl _ _ | apply below_alloc | apply pw_below_drewN | apply below_drew1 | refine below_set ?_ GE531.out | refine below_set ?_ GE540.out | refine below_set ?_ GE544.out) | exact HB.out))) A4.out).mono ?_); rintro e w45 ⟨rfl, hb⟩; refine ⟨_, rfl, ?_⟩; replace BK531 := asd (blk_below (g := gb531) (o := .cells #[.int .i64 0, .int .i64 0, .int .i64 0, .int .i64 0, .int .i64 0, .int .i64 0] 29 (0, 0)) (bq1 BK531 NB531_540) hb); replace BK540 := asd (blk_below (g := gb540) (o := .cells #[.int .i64 t535, .int .i64 t536, .int .i64 t537, .int .i64 t538] 25 (0, 0)) (bq0 BK540) hb); replace HB := bS2 HB GE531 GE540 hb; (try clear hb)) | ((with_reducible refine gd 9 rfl ?_); refine bx #[.int .i64 0, .int .i64 0] 27 ?_; intro gb544 hg w46 BK544 hb; have GE544 := ngw2 hg HB GE531 GE540; replace HB := bS2 HB GE531 GE540 hb; have NB531_544 := nlt hg BK531; have NB544_531 := nsy (nlt hg BK531); replace BK531 := bB BK531 hb; have NB540_544 := nlt hg BK540; have NB544_540 := nsy (nlt hg BK540); replace BK540 := bB BK540 hb; clear hb hg; have hnb47 := NB544_531.out; have hnc47 := NB531_544.out; have hnb48 := NB544_540.out; have hnc48 := NB540_544.out; obtain ⟨hcz49_0, hcz49_1, hfz49_0, hfz49_1⟩ := bz2 BK544; obtain ⟨hcz50_0, hcz50_1, hcz50_2, hcz50_3, hcz50_4, hcz50_5, hfz50_0, hfz50_1, hfz50_2, hfz50_3, hfz50_4, hfz50_5⟩ := bz6 BK531))
  refine bodyPost_ret (results_ct rfl _ _ gb531 29 #[.int .i64 0, .int .i64 0, .int .i64 0, .int .i64 0, .int .i64 0, .int .i64 0] (0, 0) _ rfl (bq1 BK531 NB531_544) Tryz.underlying29 rfl (by kernel_rfl)) rfl ?_
  exact er (bbw3 HB GE531 GE540 GE544)

end Go.Proofs.YtnblfcibgokccaaGreatDoor.PC
