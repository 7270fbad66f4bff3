/- Walks written by program: each Go function that the law reaches comes to the plain function beside it. -/
import Derived.Test.YtfhbhjlgepjlfaaDoorPMx0
import Derived.Test.YtfhbhjlgepjlfaaDoorPMx1
import Derived.Test.YtfhbhjlgepjlfaaDoorPMx4
namespace Go.Proofs.YtfhbhjlgepjlfaaDoor.PM
open Go.RowKit Go.Proofs.YtfhbhjlgepjlfaaDoorW.PrintWords Go.Proofs.YtfhbhjlgepjlfaaDoorW.PrintLast Go.Proofs.YtfhbhjlgepjlfaaDoorW.PrintMore
attribute [local go_sem] max2_int min2_int max_two min_two max_three min_three max_four min_four   -- for this text's walks alone
set_option linter.unusedVariables false
set_option linter.unusedSimpArgs false

/-! ### impl_ReadMat: function 31 -/
def impl_ReadMat.f (k : Nat) (a0 : ByteArray) : Option (Int × Int × Int × Int × Bool) := (impl_parted.f k a0 (⟨#[44]⟩ : ByteArray) 4).bind fun bt239 => (if bt239.2 = true then (if 0 < (bt239.1.length : Int) then (if 1 < (bt239.1.length : Int) then (if 2 < (bt239.1.length : Int) then (if 3 < (bt239.1.length : Int) then ((impl_IsMat.f (rd bt239.1 0) (rd bt239.1 1) (rd bt239.1 2) (rd bt239.1 3)).bind fun t247 => (if t247 = true then (some (rd bt239.1 0, rd bt239.1 1, rd bt239.1 2, rd bt239.1 3, true)) else (some (0, 0, 0, 0, false)))) else (none)) else (none)) else (none)) else (none)) else (some (0, 0, 0, 0, false)))
def impl_ReadMat.T2 : Bool × List (List Nat × List Nat) := (true, [([], []), ([0], [0]), ([1], [1]), ([2], [2]), ([3, 2], [2, 3]), ([4, 2], [2, 4]), ([2], [2]), ([6, 2], [2, 6]), ([7, 2], [2, 7]), ([2], [2]), ([9, 2], [2, 9]), ([10, 2], [2, 10]), ([2], [2]), ([12, 2], [2, 12]), ([13, 2], [2, 13]), ([5, 8, 11, 14, 2], [2, 5, 8, 11, 14]), ([15, 2, 2], [2, 15]), ([16, 2], [2, 16]), ([2, 17], [2, 17])])
def impl_ReadMat.B2 : List Nat := [0, 1, 3, 7, 15, 31, 7, 71, 199, 7, 519, 1543, 7, 4103, 12295, 32767, 65535, 131071, 262143]
theorem impl_ReadMat.tab2 : rtab .any (opsOf Tryd.f31 2) = impl_ReadMat.T2 := by kernel_rfl
theorem impl_ReadMat.bits2 : waitsOk impl_ReadMat.T2.2 impl_ReadMat.B2 = true := by kernel_rfl
def impl_ReadMat.T4 : Bool × List (List Nat × List Nat) := (true, [([], []), ([0], [0]), ([1], [1]), ([], []), ([3], [3]), ([4], [4]), ([], []), ([6], [6]), ([7], [7]), ([], []), ([9], [9]), ([10], [10]), ([2, 5, 8, 11], [2, 5, 8, 11]), ([12, 0, 1, 2, 3, 4, 5, 6, 7, 8, 9, 10, 11, 12], [12]), ([13, 0, 1, 2, 3, 4, 5, 6, 7, 8, 9, 10, 11, 12, 13], [])])
def impl_ReadMat.B4 : List Nat := [0, 1, 3, 0, 8, 24, 0, 64, 192, 0, 512, 1536, 4095, 8191, 16383]
theorem impl_ReadMat.tab4 : rtab .any (opsOf Tryd.f31 4) = impl_ReadMat.T4 := by kernel_rfl
theorem impl_ReadMat.bits4 : waitsOk impl_ReadMat.T4.2 impl_ReadMat.B4 = true := by kernel_rfl
set_option maxHeartbeats 8000000 in
set_option maxRecDepth 100000 in
theorem impl_ReadMat.calls (k : Nat) (a0 : ByteArray) (r1 : Int) (r2 : Int) (r3 : Int) (r4 : Int) (r5 : Bool) (w : World) (htab : texts.Tab w) (h : impl_ReadMat.f k a0 = some (r1, r2, r3, r4, r5)) :
  Calls Tryd.prog 31 #[.string a0] w fun e w' => e = .returned (.tuple #[.agg #[.int .i64 r1, .int .i64 r2, .int .i64 r3, .int .i64 r4], .bool r5]) ∧ Below w.heap.size w w' := by
 have HTAB := Aside0.mk htab
 clear htab
 have hu31 := Tryd.underlying31
 have HB := asd (Below.refl w.heap.size w)
 have H : ((impl_parted.f k a0 (⟨#[44]⟩ : ByteArray) 4).bind fun bt239 => (if bt239.2 = true then (if 0 < (bt239.1.length : Int) then (if 1 < (bt239.1.length : Int) then (if 2 < (bt239.1.length : Int) then (if 3 < (bt239.1.length : Int) then ((impl_IsMat.f (rd bt239.1 0) (rd bt239.1 1) (rd bt239.1 2) (rd bt239.1 3)).bind fun t247 => (if t247 = true then (some (rd bt239.1 0, rd bt239.1 1, rd bt239.1 2, rd bt239.1 3, true)) else (some (0, 0, 0, 0, false)))) else (none)) else (none)) else (none)) else (none)) else (some (0, 0, 0, 0, false)))) = some (r1, r2, r3, r4, r5) := h
 clear h
 obtain ⟨⟨t239, t240⟩, A2, H⟩ := ob H
 try dsimp only at H
 by_cases c3 : t240 = true
 subst c3
 replace H := ifT H
 by_cases c4 : 0 < (t239.length : Int)
 rw [if_pos c4] at H
 have c4b0 := decide_eq_true c4
 have c4b1 : decide (0 < t239.length) = true := decide_eq_true (by omega)
 clear c4
 by_cases c5 : 1 < (t239.length : Int)
 rw [if_pos c5] at H
 have c5b0 := decide_eq_true c5
 have c5b1 : decide (1 < t239.length) = true := decide_eq_true (by omega)
 clear c5
 by_cases c6 : 2 < (t239.length : Int)
 rw [if_pos c6] at H
 have c6b0 := decide_eq_true c6
 have c6b1 : decide (2 < t239.length) = true := decide_eq_true (by omega)
 clear c6
 by_cases c7 : 3 < (t239.length : Int)
 rw [if_pos c7] at H
 have c7b0 := decide_eq_true c7
 have c7b1 : decide (3 < t239.length) = true := decide_eq_true (by omega)
 clear c7
 obtain ⟨t247, A8, H⟩ := ob H
 try dsimp only at H
 by_cases c9 : t247 = true
 subst c9
 replace H := ifT H
 rotate_left
 replace c9 := Bool.eq_false_iff.mpr c9
 subst c9
 replace H := ifF H
 rotate_left
 ·rw [if_neg c7] at H
  exact absurd H (by simp)
 ·rw [if_neg c6] at H
  exact absurd H (by simp)
 ·rw [if_neg c5] at H
  exact absurd H (by simp)
 ·rw [if_neg c4] at H
  exact absurd H (by simp)
 replace c3 := Bool.eq_false_iff.mpr c3
 subst c3
 replace H := ifF H
 rotate_left
 all_goals
  simp only [Option.some.injEq, Prod.mk.injEq] at H
  obtain ⟨rfl, rfl, rfl, rfl, rfl⟩ := H
  go_enter Tryd.func31, Tryd.ntmps31
  try go_wp2_with (first | ((with_reducible refine gd 2 rfl ?_); refine bx #[.int .i64 0, .int .i64 0, .int .i64 0, .int .i64 0] 31 ?_; intro gb238 hg w10 BK238 hb; have GE238 := ngw0 hg HB; replace HB := bS0 HB hb; clear hb hg) | ((with_reducible refine gate_callee (f := 55) rfl ?_); refine gl 8 Tryd.func55 #[.string a0, .string (⟨#[44]⟩ : ByteArray), .int .i64 4] ?_; (with_reducible refine (impl_parted.calls _ _ _ _ _ _ _ (texts.tabB HTAB.out (by repeat (first | (with_reducible first | exact HB.out | exact Below.refl _ _ | apply below_alloc | apply pw_below_drewN | apply below_drew1 | refine below_set ?_ GE238.out) | exact HB.out))) A2.out).mono ?_); rintro e w11 ⟨v241, rfl, ho0, hb⟩; refine ⟨_, rfl, ?_⟩; have HO242 := asd (Kd.R_lower ho0 (bsz1 HB GE238)); replace BK238 := bB BK238 hb; replace HB := bS1 HB GE238 hb; (try clear hb); (try clear hb2); (try clear hk); (try clear hi); (try clear ho0)))
  replace HO242 := asd (Kd.R_drew HO242.out)
  replace BK238 := asd (blk_drew BK238.out)
  replace HB := asd (below_drew1 HB.out)
 rotate_left 2
 ·refine start_ (n := 19) (S := fun w' => True) (ds := []) (bT 19 0) (by kernel_rfl) rfl rfl trivial (fun hHeld => ?_); refine with_tabW impl_ReadMat.tab2 impl_ReadMat.bits2 (fun HT_ HW_ => ?_)
  generalize w11.drew = w28 at HO242 BK238 HB hHeld ⊢
  refine pu 0 (some 11) (bT 19 1) HT_ ?_
  refine pu 1 (some 12) (bT 19 2) HT_ ?_
  refine pu 2 (some 13) (bT 19 3) HT_ ?_
  refine pf 3 (some 14) (bT 19 4) HT_ ?_
  refine pf 4 (some 15) (bT 19 5) HT_ ?_
  refine pf 5 (some 16) (bT 19 6) HT_ ?_
  refine pf 6 (some 17) (bT 19 7) HT_ ?_
  refine pf 7 (some 18) (bT 19 8) HT_ ?_
  refine pf 8 (some 19) (bT 19 9) HT_ ?_
  refine pf 9 (some 20) (bT 19 10) HT_ ?_
  refine pf 10 (some 21) (bT 19 11) HT_ ?_
  refine pf 11 (some 22) (bT 19 12) HT_ ?_
  refine pf 12 (some 23) (bT 19 13) HT_ ?_
  refine pf 13 (some 24) (bT 19 14) HT_ ?_
  refine pf 14 (some 25) (bT 19 15) HT_ ?_
  refine pf 15 (some 26) (bT 19 16) HT_ ?_
  refine pf 16 (some 27) (bT 19 17) HT_ ?_
  refine pf 17 (some 28) (bT 19 18) HT_ ?_
  refine pu 18 (some 29) (bT 19 19) HT_ ?_
  refine done_ (done_of HT_.out (by kernel_rfl)) ?_
  obtain ⟨hcz29_0, hcz29_1, hcz29_2, hcz29_3, hfz29_0, hfz29_1, hfz29_2, hfz29_3⟩ := bz4 BK238
  try go_wp2
  refine bodyPost_ret (results_ct rfl _ _ gb238 31 #[.int .i64 0, .int .i64 0, .int .i64 0, .int .i64 0] (0, 0) _ rfl (bq0 BK238) Tryd.underlying31 rfl (by kernel_rfl)) rfl ?_
  exact er (bbw1 HB GE238)
 all_goals
  obtain ⟨Ao13, co13, eo13⟩ := Kd.R_slice HO242.out
  (first | subst eo13 | (injection eo13 with f1_ f2_ f3_; have f4_ := f1_.symm; have f5_ := f3_.symm; clear f1_ f2_ f3_; subst f4_; subst f5_))
  have p243 : 0 ≤ (0 : Int) := (by omega)
  have q243 : 0 < (t239.length : Int) := od
  obtain ⟨ad243, e243, hx243_0⟩ := Kd.at_int (Kd.R_reads' HO242.out).2.2 0 p243 q243
  cases e243
  have qi243 : (0 < t239.length) = True := eq_true (by omega)
  (try rw [show ((0 : Int)).toNat = 0 from rfl] at hx243_0)
  (try rw [Addr.add_zero'] at hx243_0)
  replace p243 := eq_true p243
  replace q243 := eq_true q243
  have p244 : 0 ≤ (1 : Int) := (by omega)
  have q244 : 1 < (t239.length : Int) := od
  obtain ⟨ad244, e244, hx244_0⟩ := Kd.at_int (Kd.R_reads' HO242.out).2.2 1 p244 q244
  obtain rfl : ad243 = ad244 := (by injection e244)
  (try simp only [show (1 : Int).toNat = 1 from rfl, Nat.reduceMul, Nat.reduceEqDiff, Go.Addr.add, ↓reduceIte] at hx244_0)
  have qi244 : (1 < t239.length) = True := eq_true (by omega)
  (try rw [show ((1 : Int)).toNat = 1 from rfl] at hx244_0)
  replace p244 := eq_true p244
  replace q244 := eq_true q244
  have p245 : 0 ≤ (2 : Int) := (by omega)
  have q245 : 2 < (t239.length : Int) := od
  obtain ⟨ad245, e245, hx245_0⟩ := Kd.at_int (Kd.R_reads' HO242.out).2.2 2 p245 q245
  obtain rfl : ad243 = ad245 := (by injection e245)
  (try simp only [show (2 : Int).toNat = 2 from rfl, Nat.reduceMul, Nat.reduceEqDiff, Go.Addr.add, ↓reduceIte] at hx245_0)
  have qi245 : (2 < t239.length) = True := eq_true (by omega)
  (try rw [show ((2 : Int)).toNat = 2 from rfl] at hx245_0)
  replace p245 := eq_true p245
  replace q245 := eq_true q245
  have p246 : 0 ≤ (3 : Int) := (by omega)
  have q246 : 3 < (t239.length : Int) := od
  obtain ⟨ad246, e246, hx246_0⟩ := Kd.at_int (Kd.R_reads' HO242.out).2.2 3 p246 q246
  obtain rfl : ad243 = ad246 := (by injection e246)
  (try simp only [show (3 : Int).toNat = 3 from rfl, Nat.reduceMul, Nat.reduceEqDiff, Go.Addr.add, ↓reduceIte] at hx246_0)
  have qi246 : (3 < t239.length) = True := eq_true (by omega)
  (try rw [show ((3 : Int)).toNat = 3 from rfl] at hx246_0)
  replace p246 := eq_true p246
  replace q246 := eq_true q246
  refine sh 19 (c1 hx243_0 (c1 hx244_0 (c1 hx245_0 (e1 hx246_0)))) (fun hHeld => ?_); refine with_tabW impl_ReadMat.tab2 impl_ReadMat.bits2 (fun HT_ HW_ => ?_)
  generalize w11.drew = w12 at HO242 BK238 HB hx243_0 hx244_0 hx245_0 hx246_0 hHeld ⊢
  refine pu 0 (some 11) (bT 19 1) HT_ ?_
  refine pu 1 (some 12) (bT 19 2) HT_ ?_
  refine pu 2 (some 13) (bT 19 3) HT_ ?_
  refine pu 3 (some 14) (bT 19 4) HT_ ?_
  refine pu 4 (some 15) (bT 19 5) HT_ ?_
  refine pu 6 (some 17) (bs 19 95) HT_ ?_
  refine pu 7 (some 18) (bs 19 223) HT_ ?_
  refine pu 9 (some 20) (bs 19 735) HT_ ?_
  refine pu 10 (some 21) (bs 19 1759) HT_ ?_
  refine pu 12 (some 23) (bs 19 5855) HT_ ?_
  refine pu 13 (some 24) (bs 19 14047) HT_ ?_
  refine ta 5 (some 16) (bs 19 14079) HT_ HW_ hHeld ?_
  refine ta 8 (some 19) (bs 19 14335) HT_ HW_ hHeld ?_
  refine ta 11 (some 22) (bT 19 14) HT_ HW_ hHeld ?_
  refine ta 14 (some 25) (bT 19 15) HT_ HW_ hHeld ?_
  refine pu 15 (some 26) (bT 19 16) HT_ ?_
  refine ro 16 (some 27) (bT 19 17) HT_ (fun K hK => ?_)
  refine gs Tryd.func56 #[.agg #[.int .i64 (rd t239 0), .int .i64 (rd t239 1), .int .i64 (rd t239 2), .int .i64 (rd t239 3)]] ?_
  with_reducible refine (impl_IsMat.calls _ _ _ _ _ _ A8.out).mono ?_
  rintro e w14 ⟨rfl, hb⟩
  have HS0_ := hbc hb (hHeld.1)
  have HS1_ := hbc hb (hHeld.2.1)
  have HS2_ := hbc hb (hHeld.2.2.1)
  have HS3_ := hbc hb (hHeld.2.2.2)
  refine ⟨_, rfl, ?_⟩
  replace HO242 := asd (Kd.R_below (kr HO242) hb)
  replace BK238 := bB BK238 hb
  replace HB := bS1 HB GE238 hb
  (try clear hb)
  (try clear hb2)
  (try clear hk)
  (try clear hi)
  refine hK.out _ _ ⟨HS0_, HS1_, HS2_, HS3_⟩ (fun hHeld => ?_)
  clear hK K
  refine norm_ (a' := ?_) ?_ ?_
  rotate_left
  ·show Act.put _ (some 27) _ = _
   simp only [Act.put, sA, sB, sC, i64_w, i32_w]
   rfl
  refine pu 17 (some 28) (bT 19 18) HT_ ?_
  refine pu 18 (some 29) (bT 19 19) HT_ ?_
  refine done_ (done_of HT_.out (by kernel_rfl)) ?_
 ·try go_wp2
  replace HO242 := asd (Kd.R_drew HO242.out)
  replace BK238 := asd (blk_drew BK238.out)
  replace HB := asd (below_drew1 HB.out)
  have p248 : 0 ≤ (0 : Int) := (by omega)
  have q248 : 0 < (t239.length : Int) := od
  obtain ⟨ad248, e248, hx248_0⟩ := Kd.at_int (Kd.R_reads' HO242.out).2.2 0 p248 q248
  obtain rfl : ad243 = ad248 := (by injection e248)
  have qi248 : (0 < t239.length) = True := eq_true (by omega)
  (try rw [show ((0 : Int)).toNat = 0 from rfl] at hx248_0)
  (try rw [Addr.add_zero'] at hx248_0)
  replace p248 := eq_true p248
  replace q248 := eq_true q248
  have p249 : 0 ≤ (1 : Int) := (by omega)
  have q249 : 1 < (t239.length : Int) := od
  obtain ⟨ad249, e249, hx249_0⟩ := Kd.at_int (Kd.R_reads' HO242.out).2.2 1 p249 q249
  obtain rfl : ad243 = ad249 := (by injection e249)
  (try simp only [show (1 : Int).toNat = 1 from rfl, Nat.reduceMul, Nat.reduceEqDiff, Go.Addr.add, ↓reduceIte] at hx249_0)
  have qi249 : (1 < t239.length) = True := eq_true (by omega)
  (try rw [show ((1 : Int)).toNat = 1 from rfl] at hx249_0)
  replace p249 := eq_true p249
  replace q249 := eq_true q249
  have p250 : 0 ≤ (2 : Int) := (by omega)
  have q250 : 2 < (t239.length : Int) := od
  obtain ⟨ad250, e250, hx250_0⟩ := Kd.at_int (Kd.R_reads' HO242.out).2.2 2 p250 q250
  obtain rfl : ad243 = ad250 := (by injection e250)
  (try simp only [show (2 : Int).toNat = 2 from rfl, Nat.reduceMul, Nat.reduceEqDiff, Go.Addr.add, ↓reduceIte] at hx250_0)
  have qi250 : (2 < t239.length) = True := eq_true (by omega)
  (try rw [show ((2 : Int)).toNat = 2 from rfl] at hx250_0)
  replace p250 := eq_true p250
  replace q250 := eq_true q250
  have p251 : 0 ≤ (3 : Int) := (by omega)
  have q251 : 3 < (t239.length : Int) := od
  obtain ⟨ad251, e251, hx251_0⟩ := Kd.at_int (Kd.R_reads' HO242.out).2.2 3 p251 q251
  obtain rfl : ad243 = ad251 := (by injection e251)
  (try simp only [show (3 : Int).toNat = 3 from rfl, Nat.reduceMul, Nat.reduceEqDiff, Go.Addr.add, ↓reduceIte] at hx251_0)
  have qi251 : (3 < t239.length) = True := eq_true (by omega)
  (try rw [show ((3 : Int)).toNat = 3 from rfl] at hx251_0)
  replace p251 := eq_true p251
  replace q251 := eq_true q251
  refine sh 15 (c1 hx248_0 (c1 hx249_0 (c1 hx250_0 (e1 hx251_0)))) (fun hHeld => ?_); refine with_tabW impl_ReadMat.tab4 impl_ReadMat.bits4 (fun HT_ HW_ => ?_)
  generalize w14.drew = w15 at HO242 BK238 HB hx248_0 hx249_0 hx250_0 hx251_0 hHeld ⊢
  refine pu 0 (some 31) (bT 15 1) HT_ ?_
  refine pu 1 (some 32) (bT 15 2) HT_ ?_
  refine pu 3 (some 34) (bs 15 11) HT_ ?_
  refine pu 4 (some 35) (bs 15 27) HT_ ?_
  refine pu 6 (some 37) (bs 15 91) HT_ ?_
  refine pu 7 (some 38) (bs 15 219) HT_ ?_
  refine pu 9 (some 40) (bs 15 731) HT_ ?_
  refine pu 10 (some 41) (bs 15 1755) HT_ ?_
  refine ta 2 (some 33) (bs 15 1759) HT_ HW_ hHeld ?_
  refine ta 5 (some 36) (bs 15 1791) HT_ HW_ hHeld ?_
  refine ta 8 (some 39) (bT 15 11) HT_ HW_ hHeld ?_
  refine ta 11 (some 42) (bT 15 12) HT_ HW_ hHeld ?_
  refine pu 12 (some 43) (bT 15 13) HT_ ?_
  refine ro 13 (none) (bT 15 14) HT_ (fun K hK => ?_)
  have hs16 : w15.cell? ⟨gb238, 0, none⟩ = some (.int .i64 0) := bcl BK238 0
  have hfs16 := blk_frozen BK238.out 0
  have hs17 : w15.cell? ⟨gb238, 1, none⟩ = some (.int .i64 0) := bcl BK238 1
  have hfs17 := blk_frozen BK238.out 1
  have hs18 : w15.cell? ⟨gb238, 2, none⟩ = some (.int .i64 0) := bcl BK238 2
  have hfs18 := blk_frozen BK238.out 2
  have hs19 : w15.cell? ⟨gb238, 3, none⟩ = some (.int .i64 0) := bcl BK238 3
  have hfs19 := blk_frozen BK238.out 3
  refine skip_ (w1 := ?_) (by rfl) rfl ?_ ?_
  rotate_left
  ·go_simp
   rfl
  refine hK.out _ _ ⟨(fx4 (Kd.own_blk (Kd.R_ne HO242.out BK238.out (by decide))) (hHeld.1)), (fx4 (Kd.own_blk (Kd.R_ne HO242.out BK238.out (by decide))) (hHeld.2.1)), (fx4 (Kd.own_blk (Kd.R_ne HO242.out BK238.out (by decide))) (hHeld.2.2.1)), (fx4 (Kd.own_blk (Kd.R_ne HO242.out BK238.out (by decide))) (hHeld.2.2.2))⟩ (fun hHeld => ?_)
  clear hK K
  refine pu 14 (some 3) (bT 15 15) HT_ ?_
  refine done_ (done_of HT_.out (by kernel_rfl)) ?_
  try go_wp2
  refine bodyPost_ret (results_ct rfl _ _ gb238 31 #[.int .i64 (rd t239 0), .int .i64 (rd t239 1), .int .i64 (rd t239 2), .int .i64 (rd t239 3)] (0, 0) _ rfl (bq0 BK238) Tryd.underlying31 rfl (by kernel_rfl)) rfl ?_
  exact er (bbw1 HB GE238)
 ·obtain ⟨hcz25_0, hcz25_1, hcz25_2, hcz25_3, hfz25_0, hfz25_1, hfz25_2, hfz25_3⟩ := bz4 BK238
  try go_wp2
  refine bodyPost_ret (results_ct rfl _ _ gb238 31 #[.int .i64 0, .int .i64 0, .int .i64 0, .int .i64 0] (0, 0) _ rfl (bq0 BK238) Tryd.underlying31 rfl (by kernel_rfl)) rfl ?_
  exact er (bbw1 HB GE238)
/-! ### impl_IsVec: function 57 -/
def impl_IsVec.f (a0_0 : Int) (a0_1 : Int) : Option (Bool) := (impl_isCoordinate.f a0_0).bind fun t253 => (if t253 = true then ((impl_isCoordinate.f a0_1).bind fun t254 => (some t254)) else (some false))
set_option maxHeartbeats 8000000 in
set_option maxRecDepth 100000 in
theorem impl_IsVec.calls (a0_0 : Int) (a0_1 : Int) (r : Bool) (w : World) (h : impl_IsVec.f a0_0 a0_1 = some r) :
  Calls Tryd.prog 57 #[.agg #[.int .i64 a0_0, .int .i64 a0_1]] w fun e w' => e = .returned (.bool r) ∧ Below w.heap.size w w' := by
 have hu33 := Tryd.underlying33
 have HB := asd (Below.refl w.heap.size w)
 have H : ((impl_isCoordinate.f a0_0).bind fun t253 => (if t253 = true then ((impl_isCoordinate.f a0_1).bind fun t254 => (some t254)) else (some false))) = some r := h
 clear h
 obtain ⟨t253, A2, H⟩ := ob H
 try dsimp only at H
 by_cases c3 : t253 = true
 subst c3
 replace H := ifT H
 obtain ⟨t254, A4, H⟩ := ob H
 try dsimp only at H
 obtain rfl := Option.some.inj H
 rotate_left
 replace c3 := Bool.eq_false_iff.mpr c3
 subst c3
 replace H := ifF H
 obtain rfl := Option.some.inj H
 rotate_left
 all_goals
  go_enter Tryd.func57, Tryd.ntmps57
  go_wp2_with (first | ((with_reducible refine gd 1 rfl ?_); refine bx #[.int .i64 a0_0, .int .i64 a0_1] 33 ?_; intro gb252 hg w5 BK252 hb; have GE252 := ngw0 hg HB; replace HB := bS0 HB hb; clear hb hg; obtain ⟨hcz6_0, hcz6_1, hfz6_0, hfz6_1⟩ := bz2 BK252) | ((with_reducible refine gate_callee (f := 80) rfl ?_); refine gl 5 Tryd.func80 #[.int .i64 a0_0] ?_; (with_reducible refine (impl_isCoordinate.calls _ _ _ A2.out).mono ?_); rintro e w' ⟨rfl, ⟨nd, rfl⟩⟩; refine ⟨_, rfl, ?_⟩) | (go_at_call 80; (with_reducible refine (impl_isCoordinate.calls _ _ _ A4.out).mono ?_); rintro e w' ⟨rfl, ⟨nd, rfl⟩⟩))
  go_ret
  exact er (bbw1 HB GE252)
/-! ### impl_ReadVec: function 32 -/
def impl_ReadVec.f (k : Nat) (a0 : ByteArray) : Option (Int × Int × Bool) := (impl_parted.f k a0 (⟨#[44]⟩ : ByteArray) 2).bind fun bt256 => (if bt256.2 = true then (if 0 < (bt256.1.length : Int) then (if 1 < (bt256.1.length : Int) then ((impl_IsVec.f (rd bt256.1 0) (rd bt256.1 1)).bind fun t262 => (if t262 = true then (some (rd bt256.1 0, rd bt256.1 1, true)) else (some (0, 0, false)))) else (none)) else (none)) else (some (0, 0, false)))
def impl_ReadVec.T2 : Bool × List (List Nat × List Nat) := (true, [([], []), ([0], [0]), ([1], [1]), ([2], [2]), ([3, 2], [2, 3]), ([4, 2], [2, 4]), ([2], [2]), ([6, 2], [2, 6]), ([7, 2], [2, 7]), ([5, 8, 2], [2, 5, 8]), ([9, 2, 2], [2, 9]), ([10, 2], [2, 10]), ([2, 11], [2, 11])])
def impl_ReadVec.B2 : List Nat := [0, 1, 3, 7, 15, 31, 7, 71, 199, 511, 1023, 2047, 4095]
theorem impl_ReadVec.tab2 : rtab .any (opsOf Tryd.f32 2) = impl_ReadVec.T2 := by kernel_rfl
theorem impl_ReadVec.bits2 : waitsOk impl_ReadVec.T2.2 impl_ReadVec.B2 = true := by kernel_rfl
def impl_ReadVec.T4 : Bool × List (List Nat × List Nat) := (true, [([], []), ([0], [0]), ([1], [1]), ([], []), ([3], [3]), ([4], [4]), ([2, 5], [2, 5]), ([6, 0, 1, 2, 3, 4, 5, 6], [6]), ([7, 0, 1, 2, 3, 4, 5, 6, 7], [])])
def impl_ReadVec.B4 : List Nat := [0, 1, 3, 0, 8, 24, 63, 127, 255]
theorem impl_ReadVec.tab4 : rtab .any (opsOf Tryd.f32 4) = impl_ReadVec.T4 := by kernel_rfl
theorem impl_ReadVec.bits4 : waitsOk impl_ReadVec.T4.2 impl_ReadVec.B4 = true := by kernel_rfl
set_option maxHeartbeats 8000000 in
set_option maxRecDepth 100000 in
theorem impl_ReadVec.calls (k : Nat) (a0 : ByteArray) (r1 : Int) (r2 : Int) (r3 : Bool) (w : World) (htab : texts.Tab w) (h : impl_ReadVec.f k a0 = some (r1, r2, r3)) :
  Calls Tryd.prog 32 #[.string a0] w fun e w' => e = .returned (.tuple #[.agg #[.int .i64 r1, .int .i64 r2], .bool r3]) ∧ Below w.heap.size w w' := by
 have HTAB := Aside0.mk htab
 clear htab
 have hu33 := Tryd.underlying33
 have HB := asd (Below.refl w.heap.size w)
 have H : ((impl_parted.f k a0 (⟨#[44]⟩ : ByteArray) 2).bind fun bt256 => (if bt256.2 = true then (if 0 < (bt256.1.length : Int) then (if 1 < (bt256.1.length : Int) then ((impl_IsVec.f (rd bt256.1 0) (rd bt256.1 1)).bind fun t262 => (if t262 = true then (some (rd bt256.1 0, rd bt256.1 1, true)) else (some (0, 0, false)))) else (none)) else (none)) else (some (0, 0, false)))) = some (r1, r2, r3) := h
 clear h
 obtain ⟨⟨t256, t257⟩, A2, H⟩ := ob H
 try dsimp only at H
 by_cases c3 : t257 = true
 subst c3
 replace H := ifT H
 by_cases c4 : 0 < (t256.length : Int)
 rw [if_pos c4] at H
 have c4b0 := decide_eq_true c4
 have c4b1 : decide (0 < t256.length) = true := decide_eq_true (by omega)
 clear c4
 by_cases c5 : 1 < (t256.length : Int)
 rw [if_pos c5] at H
 have c5b0 := decide_eq_true c5
 have c5b1 : decide (1 < t256.length) = true := decide_eq_true (by omega)
 clear c5
 obtain ⟨t262, A6, H⟩ := ob H
 try dsimp only at H
 by_cases c7 : t262 = true
 subst c7
 replace H := ifT H
 rotate_left
 replace c7 := Bool.eq_false_iff.mpr c7
 subst c7
 replace H := ifF H
 rotate_left
 ·rw [if_neg c5] at H
  exact absurd H (by simp)
 ·rw [if_neg c4] at H
  exact absurd H (by simp)
 replace c3 := Bool.eq_false_iff.mpr c3
 subst c3
 replace H := ifF H
 rotate_left
 all_goals
  simp only [Option.some.injEq, Prod.mk.injEq] at H
  obtain ⟨rfl, rfl, rfl⟩ := H
  go_enter Tryd.func32, Tryd.ntmps32
  try go_wp2_with (first | ((with_reducible refine gd 2 rfl ?_); refine bx #[.int .i64 0, .int .i64 0] 33 ?_; intro gb255 hg w8 BK255 hb; have GE255 := ngw0 hg HB; replace HB := bS0 HB hb; clear hb hg) | ((with_reducible refine gate_callee (f := 55) rfl ?_); refine gl 8 Tryd.func55 #[.string a0, .string (⟨#[44]⟩ : ByteArray), .int .i64 2] ?_; (with_reducible refine (impl_parted.calls _ _ _ _ _ _ _ (texts.tabB HTAB.out (by repeat (first | (with_reducible first | exact HB.out | exact Below.refl _ _ | apply below_alloc | apply pw_below_drewN | apply below_drew1 | refine below_set ?_ GE255.out) | exact HB.out))) A2.out).mono ?_); rintro e w9 ⟨v258, rfl, ho0, hb⟩; refine ⟨_, rfl, ?_⟩; have HO259 := asd (Kd.R_lower ho0 (bsz1 HB GE255)); replace BK255 := bB BK255 hb; replace HB := bS1 HB GE255 hb; (try clear hb); (try clear hb2); (try clear hk); (try clear hi); (try clear ho0)))
  replace HO259 := asd (Kd.R_drew HO259.out)
  replace BK255 := asd (blk_drew BK255.out)
  replace HB := asd (below_drew1 HB.out)
 rotate_left 2
 ·refine start_ (n := 13) (S := fun w' => True) (ds := []) (bT 13 0) (by kernel_rfl) rfl rfl trivial (fun hHeld => ?_); refine with_tabW impl_ReadVec.tab2 impl_ReadVec.bits2 (fun HT_ HW_ => ?_)
  generalize w9.drew = w24 at HO259 BK255 HB hHeld ⊢
  refine pu 0 (some 11) (bT 13 1) HT_ ?_
  refine pu 1 (some 12) (bT 13 2) HT_ ?_
  refine pu 2 (some 13) (bT 13 3) HT_ ?_
  refine pf 3 (some 14) (bT 13 4) HT_ ?_
  refine pf 4 (some 15) (bT 13 5) HT_ ?_
  refine pf 5 (some 16) (bT 13 6) HT_ ?_
  refine pf 6 (some 17) (bT 13 7) HT_ ?_
  refine pf 7 (some 18) (bT 13 8) HT_ ?_
  refine pf 8 (some 19) (bT 13 9) HT_ ?_
  refine pf 9 (some 20) (bT 13 10) HT_ ?_
  refine pf 10 (some 21) (bT 13 11) HT_ ?_
  refine pf 11 (some 22) (bT 13 12) HT_ ?_
  refine pu 12 (some 23) (bT 13 13) HT_ ?_
  refine done_ (done_of HT_.out (by kernel_rfl)) ?_
  obtain ⟨hcz25_0, hcz25_1, hfz25_0, hfz25_1⟩ := bz2 BK255
  try go_wp2
  refine bodyPost_ret (results_ct rfl _ _ gb255 33 #[.int .i64 0, .int .i64 0] (0, 0) _ rfl (bq0 BK255) Tryd.underlying33 rfl (by kernel_rfl)) rfl ?_
  exact er (bbw1 HB GE255)
 all_goals
  obtain ⟨Ao11, co11, eo11⟩ := Kd.R_slice HO259.out
  (first | subst eo11 | (injection eo11 with f1_ f2_ f3_; have f4_ := f1_.symm; have f5_ := f3_.symm; clear f1_ f2_ f3_; subst f4_; subst f5_))
  have p260 : 0 ≤ (0 : Int) := (by omega)
  have q260 : 0 < (t256.length : Int) := od
  obtain ⟨ad260, e260, hx260_0⟩ := Kd.at_int (Kd.R_reads' HO259.out).2.2 0 p260 q260
  cases e260
  have qi260 : (0 < t256.length) = True := eq_true (by omega)
  (try rw [show ((0 : Int)).toNat = 0 from rfl] at hx260_0)
  (try rw [Addr.add_zero'] at hx260_0)
  replace p260 := eq_true p260
  replace q260 := eq_true q260
  have p261 : 0 ≤ (1 : Int) := (by omega)
  have q261 : 1 < (t256.length : Int) := od
  obtain ⟨ad261, e261, hx261_0⟩ := Kd.at_int (Kd.R_reads' HO259.out).2.2 1 p261 q261
  obtain rfl : ad260 = ad261 := (by injection e261)
  (try simp only [show (1 : Int).toNat = 1 from rfl, Nat.reduceMul, Nat.reduceEqDiff, Go.Addr.add, ↓reduceIte] at hx261_0)
  have qi261 : (1 < t256.length) = True := eq_true (by omega)
  (try rw [show ((1 : Int)).toNat = 1 from rfl] at hx261_0)
  replace p261 := eq_true p261
  replace q261 := eq_true q261
  refine sh 13 (c1 hx260_0 (e1 hx261_0)) (fun hHeld => ?_); refine with_tabW impl_ReadVec.tab2 impl_ReadVec.bits2 (fun HT_ HW_ => ?_)
  generalize w9.drew = w10 at HO259 BK255 HB hx260_0 hx261_0 hHeld ⊢
  refine pu 0 (some 11) (bT 13 1) HT_ ?_
  refine pu 1 (some 12) (bT 13 2) HT_ ?_
  refine pu 2 (some 13) (bT 13 3) HT_ ?_
  refine pu 3 (some 14) (bT 13 4) HT_ ?_
  refine pu 4 (some 15) (bT 13 5) HT_ ?_
  refine pu 6 (some 17) (bs 13 95) HT_ ?_
  refine pu 7 (some 18) (bs 13 223) HT_ ?_
  refine ta 5 (some 16) (bT 13 8) HT_ HW_ hHeld ?_
  refine ta 8 (some 19) (bT 13 9) HT_ HW_ hHeld ?_
  refine pu 9 (some 20) (bT 13 10) HT_ ?_
  refine ro 10 (some 21) (bT 13 11) HT_ (fun K hK => ?_)
  refine gs Tryd.func57 #[.agg #[.int .i64 (rd t256 0), .int .i64 (rd t256 1)]] ?_
  with_reducible refine (impl_IsVec.calls _ _ _ _ A6.out).mono ?_
  rintro e w12 ⟨rfl, hb⟩
  have HS0_ := hbc hb (hHeld.1)
  have HS1_ := hbc hb (hHeld.2)
  refine ⟨_, rfl, ?_⟩
  replace HO259 := asd (Kd.R_below (kr HO259) hb)
  replace BK255 := bB BK255 hb
  replace HB := bS1 HB GE255 hb
  (try clear hb)
  (try clear hb2)
  (try clear hk)
  (try clear hi)
  refine hK.out _ _ ⟨HS0_, HS1_⟩ (fun hHeld => ?_)
  clear hK K
  refine norm_ (a' := ?_) ?_ ?_
  rotate_left
  ·show Act.put _ (some 21) _ = _
   simp only [Act.put, sA, sB, sC, i64_w, i32_w]
   rfl
  refine pu 11 (some 22) (bT 13 12) HT_ ?_
  refine pu 12 (some 23) (bT 13 13) HT_ ?_
  refine done_ (done_of HT_.out (by kernel_rfl)) ?_
 ·try go_wp2
  replace HO259 := asd (Kd.R_drew HO259.out)
  replace BK255 := asd (blk_drew BK255.out)
  replace HB := asd (below_drew1 HB.out)
  have p263 : 0 ≤ (0 : Int) := (by omega)
  have q263 : 0 < (t256.length : Int) := od
  obtain ⟨ad263, e263, hx263_0⟩ := Kd.at_int (Kd.R_reads' HO259.out).2.2 0 p263 q263
  obtain rfl : ad260 = ad263 := (by injection e263)
  have qi263 : (0 < t256.length) = True := eq_true (by omega)
  (try rw [show ((0 : Int)).toNat = 0 from rfl] at hx263_0)
  (try rw [Addr.add_zero'] at hx263_0)
  replace p263 := eq_true p263
  replace q263 := eq_true q263
  have p264 : 0 ≤ (1 : Int) := (by omega)
  have q264 : 1 < (t256.length : Int) := od
  obtain ⟨ad264, e264, hx264_0⟩ := Kd.at_int (Kd.R_reads' HO259.out).2.2 1 p264 q264
  obtain rfl : ad260 = ad264 := (by injection e264)
  (try simp only [show (1 : Int).toNat = 1 from rfl, Nat.reduceMul, Nat.reduceEqDiff, Go.Addr.add, ↓reduceIte] at hx264_0)
  have qi264 : (1 < t256.length) = True := eq_true (by omega)
  (try rw [show ((1 : Int)).toNat = 1 from rfl] at hx264_0)
  replace p264 := eq_true p264
  replace q264 := eq_true q264
  refine sh 9 (c1 hx263_0 (e1 hx264_0)) (fun hHeld => ?_); refine with_tabW impl_ReadVec.tab4 impl_ReadVec.bits4 (fun HT_ HW_ => ?_)
  generalize w12.drew = w13 at HO259 BK255 HB hx263_0 hx264_0 hHeld ⊢
  refine pu 0 (some 25) (bT 9 1) HT_ ?_
  refine pu 1 (some 26) (bT 9 2) HT_ ?_
  refine pu 3 (some 28) (bs 9 11) HT_ ?_
  refine pu 4 (some 29) (bs 9 27) HT_ ?_
  refine ta 2 (some 27) (bT 9 5) HT_ HW_ hHeld ?_
  refine ta 5 (some 30) (bT 9 6) HT_ HW_ hHeld ?_
  refine pu 6 (some 31) (bT 9 7) HT_ ?_
  refine ro 7 (none) (bT 9 8) HT_ (fun K hK => ?_)
  have hs14 : w13.cell? ⟨gb255, 0, none⟩ = some (.int .i64 0) := bcl BK255 0
  have hfs14 := blk_frozen BK255.out 0
  have hs15 : w13.cell? ⟨gb255, 1, none⟩ = some (.int .i64 0) := bcl BK255 1
  have hfs15 := blk_frozen BK255.out 1
  refine skip_ (w1 := ?_) (by rfl) rfl ?_ ?_
  rotate_left
  ·go_simp
   rfl
  refine hK.out _ _ ⟨(fx2 (Kd.own_blk (Kd.R_ne HO259.out BK255.out (by decide))) (hHeld.1)), (fx2 (Kd.own_blk (Kd.R_ne HO259.out BK255.out (by decide))) (hHeld.2))⟩ (fun hHeld => ?_)
  clear hK K
  refine pu 8 (some 3) (bT 9 9) HT_ ?_
  refine done_ (done_of HT_.out (by kernel_rfl)) ?_
  try go_wp2
  refine bodyPost_ret (results_ct rfl _ _ gb255 33 #[.int .i64 (rd t256 0), .int .i64 (rd t256 1)] (0, 0) _ rfl (bq0 BK255) Tryd.underlying33 rfl (by kernel_rfl)) rfl ?_
  exact er (bbw1 HB GE255)
 ·obtain ⟨hcz21_0, hcz21_1, hfz21_0, hfz21_1⟩ := bz2 BK255
  try go_wp2
  refine bodyPost_ret (results_ct rfl _ _ gb255 33 #[.int .i64 0, .int .i64 0] (0, 0) _ rfl (bq0 BK255) Tryd.underlying33 rfl (by kernel_rfl)) rfl ?_
  exact er (bbw1 HB GE255)
/-! ### impl_unit: function 109 -/
def impl_unit.f  : Option (Int × Int × Int × Int) := some (1, 0, 0, 1)
set_option maxHeartbeats 8000000 in
set_option maxRecDepth 100000 in
theorem impl_unit.calls  (r1 : Int) (r2 : Int) (r3 : Int) (r4 : Int) (w : World) (h : impl_unit.f  = some (r1, r2, r3, r4)) :
  Calls Tryd.prog 109 #[] w fun e w' => e = .returned (.agg #[.int .i64 r1, .int .i64 r2, .int .i64 r3, .int .i64 r4]) ∧ Below w.heap.size w w' := by
 have hu31 := Tryd.underlying31
 have HB := asd (Below.refl w.heap.size w)
 have H : (some (1, 0, 0, 1)) = some (r1, r2, r3, r4) := h
 clear h
 simp only [Option.some.injEq, Prod.mk.injEq] at H
 obtain ⟨rfl, rfl, rfl, rfl⟩ := H
 go_enter Tryd.func109, Tryd.ntmps109
 go_wp2_with (first | ((with_reducible refine gd 0 rfl ?_); refine bx #[.int .i64 0, .int .i64 0, .int .i64 0, .int .i64 0] 31 ?_; intro gb265 hg w1 BK265 hb; have GE265 := ngw0 hg HB; replace HB := bS0 HB hb; clear hb hg; obtain ⟨hcz2_0, hcz2_1, hcz2_2, hcz2_3, hfz2_0, hfz2_1, hfz2_2, hfz2_3⟩ := bz4 BK265))
 refine bodyPost_ret (results_cell_row rfl _ _ gb265 31 #[.int .i64 1, .int .i64 0, .int .i64 0, .int .i64 1] (0, 0) _ rfl (bq0 BK265) Tryd.underlying31 rfl (by kernel_rfl)) rfl ?_
 exact er (bbw1 HB GE265)

attribute [local go_sem high] eqA31
/-! ### impl_Mat_order: function 98 -/
mutual
def impl_Mat_order.j0 : Nat → Int → Bool → Int → Int → Int → Int → Option (Int)
 | 0, _, _, _, _, _, _ => none
 | k + 1, x3, x13, x267000, x267001, x267002, x267003 => if x13 = true then (impl_Mat_order.j1 k x3 x13 x267000 x267001 x267002 x267003) else (impl_Mat_order.j1 k x3 (x267000 == (-1) && (x267001 == 0 && (x267002 == 0 && (x267003 == (-1))))) x267000 x267001 x267002 x267003)
def impl_Mat_order.j1 : Nat → Int → Bool → Int → Int → Int → Int → Option (Int)
 | 0, _, _, _, _, _, _ => none
 | k + 1, x3, x13, x267000, x267001, x267002, x267003 => if x13 = true then (some 2) else ((impl_Mat_det.f x267000 x267001 x267002 x267003).bind fun t272 => (if t272 = 1 then (impl_Mat_order.j2 k x3 (x3 == (-1)) x267000 x267001 x267002 x267003) else (impl_Mat_order.j2 k x3 false x267000 x267001 x267002 x267003)))
def impl_Mat_order.j2 : Nat → Int → Bool → Int → Int → Int → Int → Option (Int)
 | 0, _, _, _, _, _, _ => none
 | k + 1, x3, x24, x267000, x267001, x267002, x267003 => if x24 = true then (some 3) else ((impl_Mat_det.f x267000 x267001 x267002 x267003).bind fun t273 => (if t273 = 1 then (impl_Mat_order.j3 k x3 (x3 == 0) x267000 x267001 x267002 x267003) else (impl_Mat_order.j3 k x3 false x267000 x267001 x267002 x267003)))
def impl_Mat_order.j3 : Nat → Int → Bool → Int → Int → Int → Int → Option (Int)
 | 0, _, _, _, _, _, _ => none
 | k + 1, x3, x32, x267000, x267001, x267002, x267003 => if x32 = true then (some 4) else ((impl_Mat_det.f x267000 x267001 x267002 x267003).bind fun t274 => (if t274 = 1 then (if x3 = 1 then (some 6) else (some 0)) else (some 0)))
end
def impl_Mat_order.f (k : Nat) (a0_0 : Int) (a0_1 : Int) (a0_2 : Int) (a0_3 : Int) : Option (Int) := (impl_unit.f).bind fun bt267 => (if (a0_0 == bt267.1 && (a0_1 == bt267.2.1 && (a0_2 == bt267.2.2.1 && (a0_3 == bt267.2.2.2)))) = true then (some 1) else ((impl_Mat_det.f a0_0 a0_1 a0_2 a0_3).bind fun t271 => (if t271 = (-1) then (impl_Mat_order.j0 k (wrap64 (a0_0 + a0_3)) ((wrap64 (a0_0 + a0_3)) == 0) a0_0 a0_1 a0_2 a0_3) else (impl_Mat_order.j0 k (wrap64 (a0_0 + a0_3)) false a0_0 a0_1 a0_2 a0_3))))
set_option maxHeartbeats 8000000 in
set_option maxRecDepth 100000 in
theorem impl_Mat_order.calls (k : Nat) (a0_0 : Int) (a0_1 : Int) (a0_2 : Int) (a0_3 : Int) (r : Int) (w : World) (h : impl_Mat_order.f k a0_0 a0_1 a0_2 a0_3 = some r) :
  Calls Tryd.prog 98 #[.agg #[.int .i64 a0_0, .int .i64 a0_1, .int .i64 a0_2, .int .i64 a0_3]] w fun e w' => e = .returned (.int .i64 r) ∧ Below w.heap.size w w' := by
 have hu31 := Tryd.underlying31
 have HB := asd (Below.refl w.heap.size w)
 have H : ((impl_unit.f).bind fun bt267 => (if (a0_0 == bt267.1 && (a0_1 == bt267.2.1 && (a0_2 == bt267.2.2.1 && (a0_3 == bt267.2.2.2)))) = true then (some 1) else ((impl_Mat_det.f a0_0 a0_1 a0_2 a0_3).bind fun t271 => (if t271 = (-1) then (impl_Mat_order.j0 k (wrap64 (a0_0 + a0_3)) ((wrap64 (a0_0 + a0_3)) == 0) a0_0 a0_1 a0_2 a0_3) else (impl_Mat_order.j0 k (wrap64 (a0_0 + a0_3)) false a0_0 a0_1 a0_2 a0_3))))) = some r := h
 clear h
 obtain ⟨⟨t267, t268, t269, t270⟩, A2, H⟩ := ob H
 try dsimp only at H
 by_cases c3 : (a0_0 == t267 && (a0_1 == t268 && (a0_2 == t269 && (a0_3 == t270)))) = true
 rw [if_pos c3] at H
 have c3b0 := c3
 (try (have c3b1 : decide (a0_0 = t267 && (a0_1 == t268 && (a0_2 == t269 && (a0_3 == t270)))) = true := by simpa using c3))
 (try (have c3b2 : (a0_0 == t267 && (a0_1 == t268 && (a0_2 == t269 && (a0_3 == t270)))) = true := by simpa using c3))
 clear c3
 obtain rfl := Option.some.inj H
 rotate_left
 rw [if_neg c3] at H
 have c3b0 : (a0_0 == t267 && (a0_1 == t268 && (a0_2 == t269 && (a0_3 == t270)))) = false := by simpa using c3
 (try (have c3b1 : decide (a0_0 = t267 && (a0_1 == t268 && (a0_2 == t269 && (a0_3 == t270)))) = false := by simpa using c3))
 (try (have c3b2 : (a0_0 == t267 && (a0_1 == t268 && (a0_2 == t269 && (a0_3 == t270)))) = false := by simpa using c3))
 (try (have c3b3 : ¬ (a0_0 = t267 && (a0_1 == t268 && (a0_2 == t269 && (a0_3 == t270)))) := by simpa using c3))
 clear c3
 rotate_left
 go_enter Tryd.func98, Tryd.ntmps98
 try go_wp2_with (first | ((with_reducible refine gd 1 rfl ?_); refine bx #[.int .i64 a0_0, .int .i64 a0_1, .int .i64 a0_2, .int .i64 a0_3] 31 ?_; intro gb266 hg w4 BK266 hb; have GE266 := ngw0 hg HB; replace HB := bS0 HB hb; clear hb hg; obtain ⟨hcz5_0, hcz5_1, hcz5_2, hcz5_3, hfz5_0, hfz5_1, hfz5_2, hfz5_3⟩ := bz4 BK266))
 rotate_left
 have HC8 := Aside0.mk H
 clear H
 go_enter Tryd.func98, Tryd.ntmps98
 try go_wp2_with (first | ((with_reducible refine gd 1 rfl ?_); refine bx #[.int .i64 a0_0, .int .i64 a0_1, .int .i64 a0_2, .int .i64 a0_3] 31 ?_; intro gb266 hg w4 BK266 hb; have GE266 := ngw0 hg HB; replace HB := bS0 HB hb; clear hb hg; obtain ⟨hcz10_0, hcz10_1, hcz10_2, hcz10_3, hfz10_0, hfz10_1, hfz10_2, hfz10_3⟩ := bz4 BK266))
 rotate_left
 all_goals
  replace BK266 := asd (blk_drew BK266.out)
  replace HB := asd (below_drew1 HB.out)
  refine sh 4 (eb4 BK266) (fun hHeld => ?_)
  generalize w4.drew = w6 at BK266 HB hHeld ⊢
  refine take_ (i := 0) (N := some 10) (v := ?_) (a' := ?_) (bT 4 1) rfl rfl (by kernel_rfl) (fun _ _ _ h => h) (Or.inl ⟨by rfl, ?_⟩) hHeld ?_ ?_
  rotate_left
  ·rintro w' ⟨s0, s1, s2, s3⟩
   go_simp
   with_reducible rfl
  rotate_left
  ·simp only [Act.put, sA, sB, sC, i64_w, i32_w]
   rfl
  refine one_ (i := 1) (N := some 11) (bT 4 2) rfl rfl (by kernel_rfl) (by decide) (fun K hK => ?_)
  refine gs Tryd.func109 #[] ?_
  with_reducible refine (impl_unit.calls _ _ _ _ _ A2.out).mono ?_
  rintro e w7 ⟨rfl, hb⟩
  refine ⟨_, rfl, ?_⟩
  replace BK266 := bB BK266 hb
  replace HB := bS1 HB GE266 hb
  (try clear hb)
  (try clear hb2)
  (try clear hk)
  (try clear hi)
  refine hK.out _ _ (eb4 BK266).out (fun hHeld => ?_)
  clear hK K
  refine norm_ (a' := ?_) ?_ ?_
  rotate_left
  ·show Act.put _ (some 11) _ = _
   simp only [Act.put, sA, sB, sC, i64_w, i32_w]
   rfl
  refine pure_ (i := 2) (N := some 12) (v := ?_) (a' := ?_) (bT 4 3) rfl rfl (by kernel_rfl) (fun _ _ _ h => h) (Or.inl ⟨by rfl, ?_⟩) ?_ ?_
  rotate_left
  ·intro w'
   go_simp
   with_reducible rfl
  rotate_left
  ·simp only [Act.put, sA, sB, sC, i64_w, i32_w]
   rfl
  refine pure_ (i := 3) (N := some 9) (v := ?_) (a' := ?_) (bT 4 4) rfl rfl (by kernel_rfl) (fun _ _ _ h => h) (Or.inl ⟨by rfl, ?_⟩) ?_ ?_
  rotate_left
  ·intro w'
   go_simp
   with_reducible rfl
  rotate_left
  ·simp only [Act.put, sA, sB, sC, i64_w, i32_w]
   rfl
  refine done_ (by kernel_rfl) ?_
 ·try go_wp2
  go_ret
  exact er (bbw1 HB GE266)
 ·go_upto_region 4 with (fail)
  go_cut [13] (fun v13 wc => ∃ (kq : Nat) (x13_7 : Bool), v13 = .bool x13_7 ∧ Aside0 (impl_Mat_order.j0 kq (wrap64 (a0_0 + a0_3)) x13_7 a0_0 a0_1 a0_2 a0_3 = some r) ∧ Aside0 (kq ≤ k) ∧ Aside0 (wc.heap[gb266]? = some (.cells #[.int .i64 a0_0, .int .i64 a0_1, .int .i64 a0_2, .int .i64 a0_3] 31 (0, 0))) ∧ Aside0 (Below w.heap.size w wc))
  case first =>
   have H := HC8.out
   clear HC8
   obtain ⟨t271, A13, H⟩ := ob H
   try dsimp only at H
   by_cases c14 : t271 = (-1)
   rw [if_pos c14] at H
   have c14b0 : (t271 == (-1)) = true := beq_iff_eq.mpr c14
   have c14b1 : (t271 != (-1)) = false := bne_eq_false_iff_eq.mpr c14
   clear c14
   rotate_left
   rw [if_neg c14] at H
   have c14b0 : (t271 == (-1)) = false := beq_eq_false_iff_ne.mpr c14
   have c14b1 : (t271 != (-1)) = true := bne_iff_ne.mpr c14
   rotate_left
   all_goals
    (first | rw [c14b0] | (simp only [i64_w, i32_w]; rw [c14b0]) | skip)
    have H' := Aside0.mk H
    clear H
   obtain ⟨hcz15_0, hcz15_1, hcz15_2, hcz15_3, hfz15_0, hfz15_1, hfz15_2, hfz15_3⟩ := bz4 BK266
   rotate_left
   obtain ⟨hcz17_0, hcz17_1, hcz17_2, hcz17_3, hfz17_0, hfz17_1, hfz17_2, hfz17_3⟩ := bz4 BK266
   rotate_left
   all_goals
    go_wp2_with (first | ((with_reducible refine gate_callee (f := 79) rfl ?_); refine gl 15 Tryd.func79 #[.agg #[.int .i64 a0_0, .int .i64 a0_1, .int .i64 a0_2, .int .i64 a0_3]] ?_; (with_reducible refine (impl_Mat_det.calls _ _ _ _ _ _ A13.out).mono ?_); rintro e w16 ⟨rfl, hb⟩; refine ⟨_, rfl, ?_⟩; replace BK266 := bB BK266 hb; replace HB := bS1 HB GE266 hb; (try clear hb)))
    go_meet
   ·case rel => exact ⟨_, (((wrap64 (a0_0 + a0_3)) == 0)), (by first | rfl | (simp; done) | (simp [*]; done)), H', ⟨by first | omega | exact Nat.le_refl _⟩, ⟨bkp BK266⟩, ⟨bbw1 HB GE266⟩⟩
   ·case rel => exact ⟨_, (false), (by first | rfl | (simp; done) | (simp [*]; done)), H', ⟨by first | omega | exact Nat.le_refl _⟩, ⟨bkp BK266⟩, ⟨bbw1 HB GE266⟩⟩
  case rest =>
   clear HC8
   try clear c1
   try clear p2
   try clear c3
   try clear c3b0
   try clear c3b1
   try clear c3b2
   try clear p6
   try clear c7
   try clear c9
   try clear c10
   try clear c14
   try clear c14b0
   try clear c14b1
   try clear hcz10_0
   try clear hcz10_1
   try clear hcz10_2
   try clear hcz10_3
   try clear hcz15_0
   try clear hcz15_1
   try clear hcz15_2
   try clear hcz15_3
   try clear hcz17_0
   try clear hcz17_1
   try clear hcz17_2
   try clear hcz17_3
   try clear hcz5_0
   try clear hcz5_1
   try clear hcz5_2
   try clear hcz5_3
   try clear hfz10_0
   try clear hfz10_1
   try clear hfz10_2
   try clear hfz10_3
   try clear hfz15_0
   try clear hfz15_1
   try clear hfz15_2
   try clear hfz15_3
   try clear hfz17_0
   try clear hfz17_1
   try clear hfz17_2
   try clear hfz17_3
   try clear hfz5_0
   try clear hfz5_1
   try clear hfz5_2
   try clear hfz5_3
   obtain ⟨kq, x13_7, rfl, HA, HJ7, BK266, HB⟩ := hcut
   cases kq with
   | zero => exact absurd HA.out (by simp [impl_Mat_order.j0])
   | succ kj7 =>
    have H := HA.out
    clear HA
    simp only [impl_Mat_order.j0] at H
    have HC19 := Aside0.mk H
    clear H
    go_upto_if 13 with (fail)
    go_cut [13] (fun v13 wc => ∃ (kq : Nat) (x13_18 : Bool), v13 = .bool x13_18 ∧ Aside0 (impl_Mat_order.j1 kq (wrap64 (a0_0 + a0_3)) x13_18 a0_0 a0_1 a0_2 a0_3 = some r) ∧ Aside0 (kq ≤ kj7) ∧ Aside0 (wc.heap[gb266]? = some (.cells #[.int .i64 a0_0, .int .i64 a0_1, .int .i64 a0_2, .int .i64 a0_3] 31 (0, 0))) ∧ Aside0 (Below w.heap.size w wc))
    case first =>
     have H := HC19.out
     clear HC19
     by_cases c20 : x13_7 = true
     ·subst c20
      replace H := ifT H
      have H' := Aside0.mk H
      clear H
      go_wp2
      go_meet
      case rel => exact ⟨_, (true), (by first | rfl | (simp; done) | (simp [*]; done)), H', ⟨by have := HJ7.out; first | omega | exact Nat.le_refl _⟩, ⟨bkp BK266⟩, ⟨bbw1 HB GE266⟩⟩
     ·replace c20 := Bool.eq_false_iff.mpr c20
      subst c20
      replace H := ifF H
      have H' := Aside0.mk H
      clear H
      obtain ⟨hcz21_0, hcz21_1, hcz21_2, hcz21_3, hfz21_0, hfz21_1, hfz21_2, hfz21_3⟩ := bz4 BK266
      go_wp2
      go_meet
      case rel => exact ⟨_, ((a0_0 == (-1) && (a0_1 == 0 && (a0_2 == 0 && (a0_3 == (-1)))))), (by first | rfl | (simp; done) | (simp [*]; done)), H', ⟨by have := HJ7.out; first | omega | exact Nat.le_refl _⟩, ⟨bkp BK266⟩, ⟨bbw1 HB GE266⟩⟩
    case rest =>
     clear HC19
     try clear c1
     try clear c2
     try clear p2
     try clear c3
     try clear c3b0
     try clear c3b1
     try clear c3b2
     try clear p6
     try clear c7
     try clear c9
     try clear c10
     try clear c14
     try clear c14b0
     try clear c14b1
     try clear c20
     try clear hcz10_0
     try clear hcz10_1
     try clear hcz10_2
     try clear hcz10_3
     try clear hcz15_0
     try clear hcz15_1
     try clear hcz15_2
     try clear hcz15_3
     try clear hcz17_0
     try clear hcz17_1
     try clear hcz17_2
     try clear hcz17_3
     try clear hcz21_0
     try clear hcz21_1
     try clear hcz21_2
     try clear hcz21_3
     try clear hcz5_0
     try clear hcz5_1
     try clear hcz5_2
     try clear hcz5_3
     try clear hfz10_0
     try clear hfz10_1
     try clear hfz10_2
     try clear hfz10_3
     try clear hfz15_0
     try clear hfz15_1
     try clear hfz15_2
     try clear hfz15_3
     try clear hfz17_0
     try clear hfz17_1
     try clear hfz17_2
     try clear hfz17_3
     try clear hfz21_0
     try clear hfz21_1
     try clear hfz21_2
     try clear hfz21_3
     try clear hfz5_0
     try clear hfz5_1
     try clear hfz5_2
     try clear hfz5_3
     try clear p2
     try clear p6
     obtain ⟨kq, x13_18, rfl, HA, HJ18, BK266, HB⟩ := hcut
     cases kq with
     | zero => exact absurd HA.out (by simp [impl_Mat_order.j1])
     | succ kj18 =>
      have H := HA.out
      clear HA
      simp only [impl_Mat_order.j1] at H
      by_cases c22 : x13_18 = true
      ·subst c22
       replace H := ifT H
       obtain rfl := Option.some.inj H
       go_wp2
       go_ret
       exact er (bbw1 HB GE266)
      ·replace c22 := Bool.eq_false_iff.mpr c22
       subst c22
       replace H := ifF H
       have HC23 := Aside0.mk H
       clear H
       go_upto_region 7 with (fail)
       go_cut [24] (fun v24 wc => ∃ (kq : Nat) (x24_22 : Bool), v24 = .bool x24_22 ∧ Aside0 (impl_Mat_order.j2 kq (wrap64 (a0_0 + a0_3)) x24_22 a0_0 a0_1 a0_2 a0_3 = some r) ∧ Aside0 (kq ≤ kj18) ∧ Aside0 (wc.heap[gb266]? = some (.cells #[.int .i64 a0_0, .int .i64 a0_1, .int .i64 a0_2, .int .i64 a0_3] 31 (0, 0))) ∧ Aside0 (Below w.heap.size w wc))
       case first =>
        have H := HC23.out
        clear HC23
        obtain ⟨t272, A24, H⟩ := ob H
        try dsimp only at H
        by_cases c25 : t272 = 1
        rw [if_pos c25] at H
        have c25b0 : (t272 == 1) = true := beq_iff_eq.mpr c25
        have c25b1 : (t272 != 1) = false := bne_eq_false_iff_eq.mpr c25
        clear c25
        rotate_left
        rw [if_neg c25] at H
        have c25b0 : (t272 == 1) = false := beq_eq_false_iff_ne.mpr c25
        have c25b1 : (t272 != 1) = true := bne_iff_ne.mpr c25
        rotate_left
        all_goals
         (first | rw [c25b0] | (simp only [i64_w, i32_w]; rw [c25b0]) | skip)
         have H' := Aside0.mk H
         clear H
        obtain ⟨hcz26_0, hcz26_1, hcz26_2, hcz26_3, hfz26_0, hfz26_1, hfz26_2, hfz26_3⟩ := bz4 BK266
        rotate_left
        obtain ⟨hcz28_0, hcz28_1, hcz28_2, hcz28_3, hfz28_0, hfz28_1, hfz28_2, hfz28_3⟩ := bz4 BK266
        rotate_left
        all_goals
         go_wp2_with (first | ((with_reducible refine gate_callee (f := 79) rfl ?_); refine gl 26 Tryd.func79 #[.agg #[.int .i64 a0_0, .int .i64 a0_1, .int .i64 a0_2, .int .i64 a0_3]] ?_; (with_reducible refine (impl_Mat_det.calls _ _ _ _ _ _ A24.out).mono ?_); rintro e w27 ⟨rfl, hb⟩; refine ⟨_, rfl, ?_⟩; replace BK266 := bB BK266 hb; replace HB := bS1 HB GE266 hb; (try clear hb)))
         go_meet
        ·case rel => exact ⟨_, (((wrap64 (a0_0 + a0_3)) == (-1))), (by first | rfl | (simp; done) | (simp [*]; done)), H', ⟨by have := HJ7.out; have := HJ18.out; first | omega | exact Nat.le_refl _⟩, ⟨bkp BK266⟩, ⟨bbw1 HB GE266⟩⟩
        ·case rel => exact ⟨_, (false), (by first | rfl | (simp; done) | (simp [*]; done)), H', ⟨by have := HJ7.out; have := HJ18.out; first | omega | exact Nat.le_refl _⟩, ⟨bkp BK266⟩, ⟨bbw1 HB GE266⟩⟩
       case rest =>
        clear HC23
        try clear c1
        try clear c2
        try clear p2
        try clear c3
        try clear c3b0
        try clear c3b1
        try clear c3b2
        try clear p6
        try clear c7
        try clear c9
        try clear c10
        try clear c14
        try clear c14b0
        try clear c14b1
        try clear c20
        try clear c22
        try clear c25
        try clear c25b0
        try clear c25b1
        try clear hcz10_0
        try clear hcz10_1
        try clear hcz10_2
        try clear hcz10_3
        try clear hcz15_0
        try clear hcz15_1
        try clear hcz15_2
        try clear hcz15_3
        try clear hcz17_0
        try clear hcz17_1
        try clear hcz17_2
        try clear hcz17_3
        try clear hcz21_0
        try clear hcz21_1
        try clear hcz21_2
        try clear hcz21_3
        try clear hcz26_0
        try clear hcz26_1
        try clear hcz26_2
        try clear hcz26_3
        try clear hcz28_0
        try clear hcz28_1
        try clear hcz28_2
        try clear hcz28_3
        try clear hcz5_0
        try clear hcz5_1
        try clear hcz5_2
        try clear hcz5_3
        try clear hfz10_0
        try clear hfz10_1
        try clear hfz10_2
        try clear hfz10_3
        try clear hfz15_0
        try clear hfz15_1
        try clear hfz15_2
        try clear hfz15_3
        try clear hfz17_0
        try clear hfz17_1
        try clear hfz17_2
        try clear hfz17_3
        try clear hfz21_0
        try clear hfz21_1
        try clear hfz21_2
        try clear hfz21_3
        try clear hfz26_0
        try clear hfz26_1
        try clear hfz26_2
        try clear hfz26_3
        try clear hfz28_0
        try clear hfz28_1
        try clear hfz28_2
        try clear hfz28_3
        try clear hfz5_0
        try clear hfz5_1
        try clear hfz5_2
        try clear hfz5_3
        try clear p2
        try clear p6
        obtain ⟨kq, x24_22, rfl, HA, HJ22, BK266, HB⟩ := hcut
        cases kq with
        | zero => exact absurd HA.out (by simp [impl_Mat_order.j2])
        | succ kj22 =>
         have H := HA.out
         clear HA
         simp only [impl_Mat_order.j2] at H
         by_cases c30 : x24_22 = true
         ·subst c30
          replace H := ifT H
          obtain rfl := Option.some.inj H
          go_wp2
          go_ret
          exact er (bbw1 HB GE266)
         ·replace c30 := Bool.eq_false_iff.mpr c30
          subst c30
          replace H := ifF H
          have HC31 := Aside0.mk H
          clear H
          go_upto_region 9 with (fail)
          go_cut [32] (fun v32 wc => ∃ (kq : Nat) (x32_30 : Bool), v32 = .bool x32_30 ∧ Aside0 (impl_Mat_order.j3 kq (wrap64 (a0_0 + a0_3)) x32_30 a0_0 a0_1 a0_2 a0_3 = some r) ∧ Aside0 (kq ≤ kj22) ∧ Aside0 (wc.heap[gb266]? = some (.cells #[.int .i64 a0_0, .int .i64 a0_1, .int .i64 a0_2, .int .i64 a0_3] 31 (0, 0))) ∧ Aside0 (Below w.heap.size w wc))
          case first =>
           have H := HC31.out
           clear HC31
           obtain ⟨t273, A32, H⟩ := ob H
           try dsimp only at H
           by_cases c33 : t273 = 1
           rw [if_pos c33] at H
           have c33b0 : (t273 == 1) = true := beq_iff_eq.mpr c33
           have c33b1 : (t273 != 1) = false := bne_eq_false_iff_eq.mpr c33
           clear c33
           rotate_left
           rw [if_neg c33] at H
           have c33b0 : (t273 == 1) = false := beq_eq_false_iff_ne.mpr c33
           have c33b1 : (t273 != 1) = true := bne_iff_ne.mpr c33
           rotate_left
           all_goals
            (first | rw [c33b0] | (simp only [i64_w, i32_w]; rw [c33b0]) | skip)
            have H' := Aside0.mk H
            clear H
           obtain ⟨hcz34_0, hcz34_1, hcz34_2, hcz34_3, hfz34_0, hfz34_1, hfz34_2, hfz34_3⟩ := bz4 BK266
           rotate_left
           obtain ⟨hcz36_0, hcz36_1, hcz36_2, hcz36_3, hfz36_0, hfz36_1, hfz36_2, hfz36_3⟩ := bz4 BK266
           rotate_left
           all_goals
            go_wp2_with (first | ((with_reducible refine gate_callee (f := 79) rfl ?_); refine gl 34 Tryd.func79 #[.agg #[.int .i64 a0_0, .int .i64 a0_1, .int .i64 a0_2, .int .i64 a0_3]] ?_; (with_reducible refine (impl_Mat_det.calls _ _ _ _ _ _ A32.out).mono ?_); rintro e w35 ⟨rfl, hb⟩; refine ⟨_, rfl, ?_⟩; replace BK266 := bB BK266 hb; replace HB := bS1 HB GE266 hb; (try clear hb)))
            go_meet
           ·case rel => exact ⟨_, (((wrap64 (a0_0 + a0_3)) == 0)), (by first | rfl | (simp; done) | (simp [*]; done)), H', ⟨by have := HJ7.out; have := HJ18.out; have := HJ22.out; first | omega | exact Nat.le_refl _⟩, ⟨bkp BK266⟩, ⟨bbw1 HB GE266⟩⟩
           ·case rel => exact ⟨_, (false), (by first | rfl | (simp; done) | (simp [*]; done)), H', ⟨by have := HJ7.out; have := HJ18.out; have := HJ22.out; first | omega | exact Nat.le_refl _⟩, ⟨bkp BK266⟩, ⟨bbw1 HB GE266⟩⟩
          case rest =>
           clear HC31
           try clear c1
           try clear c2
           try clear p2
           try clear c3
           try clear c3b0
           try clear c3b1
           try clear c3b2
           try clear p6
           try clear c7
           try clear c9
           try clear c10
           try clear c14
           try clear c14b0
           try clear c14b1
           try clear c20
           try clear c22
           try clear c25
           try clear c25b0
           try clear c25b1
           try clear c30
           try clear c33
           try clear c33b0
           try clear c33b1
           try clear hcz10_0
           try clear hcz10_1
           try clear hcz10_2
           try clear hcz10_3
           try clear hcz15_0
           try clear hcz15_1
           try clear hcz15_2
           try clear hcz15_3
           try clear hcz17_0
           try clear hcz17_1
           try clear hcz17_2
           try clear hcz17_3
           try clear hcz21_0
           try clear hcz21_1
           try clear hcz21_2
           try clear hcz21_3
           try clear hcz26_0
           try clear hcz26_1
           try clear hcz26_2
           try clear hcz26_3
           try clear hcz28_0
           try clear hcz28_1
           try clear hcz28_2
           try clear hcz28_3
           try clear hcz34_0
           try clear hcz34_1
           try clear hcz34_2
           try clear hcz34_3
           try clear hcz36_0
           try clear hcz36_1
           try clear hcz36_2
           try clear hcz36_3
           try clear hcz5_0
           try clear hcz5_1
           try clear hcz5_2
           try clear hcz5_3
           try clear hfz10_0
           try clear hfz10_1
           try clear hfz10_2
           try clear hfz10_3
           try clear hfz15_0
           try clear hfz15_1
           try clear hfz15_2
           try clear hfz15_3
           try clear hfz17_0
           try clear hfz17_1
           try clear hfz17_2
           try clear hfz17_3
           try clear hfz21_0
           try clear hfz21_1
           try clear hfz21_2
           try clear hfz21_3
           try clear hfz26_0
           try clear hfz26_1
           try clear hfz26_2
           try clear hfz26_3
           try clear hfz28_0
           try clear hfz28_1
           try clear hfz28_2
           try clear hfz28_3
           try clear hfz34_0
           try clear hfz34_1
           try clear hfz34_2
           try clear hfz34_3
           try clear hfz36_0
           try clear hfz36_1
           try clear hfz36_2
           try clear hfz36_3
           try clear hfz5_0
           try clear hfz5_1
           try clear hfz5_2
           try clear hfz5_3
           try clear p2
           try clear p6
           obtain ⟨kq, x32_30, rfl, HA, HJ30, BK266, HB⟩ := hcut
           cases kq with
           | zero => exact absurd HA.out (by simp [impl_Mat_order.j3])
           | succ kj30 =>
            have H := HA.out
            clear HA
            simp only [impl_Mat_order.j3] at H
            by_cases c38 : x32_30 = true
            subst c38
            replace H := ifT H
            obtain rfl := Option.some.inj H
            rotate_left
            replace c38 := Bool.eq_false_iff.mpr c38
            subst c38
            replace H := ifF H
            obtain ⟨t274, A39, H⟩ := ob H
            try dsimp only at H
            by_cases c40 : t274 = 1
            rw [if_pos c40] at H
            have c40b0 : (t274 == 1) = true := beq_iff_eq.mpr c40
            have c40b1 : (t274 != 1) = false := bne_eq_false_iff_eq.mpr c40
            clear c40
            by_cases c41 : (wrap64 (a0_0 + a0_3)) = 1
            rw [if_pos c41] at H
            have c41b0 : ((wrap64 (a0_0 + a0_3)) == 1) = true := beq_iff_eq.mpr c41
            have c41b1 : ((wrap64 (a0_0 + a0_3)) != 1) = false := bne_eq_false_iff_eq.mpr c41
            clear c41
            obtain rfl := Option.some.inj H
            rotate_left
            rw [if_neg c41] at H
            have c41b0 : ((wrap64 (a0_0 + a0_3)) == 1) = false := beq_eq_false_iff_ne.mpr c41
            have c41b1 : ((wrap64 (a0_0 + a0_3)) != 1) = true := bne_iff_ne.mpr c41
            obtain rfl := Option.some.inj H
            rotate_left
            rw [if_neg c40] at H
            have c40b0 : (t274 == 1) = false := beq_eq_false_iff_ne.mpr c40
            have c40b1 : (t274 != 1) = true := bne_iff_ne.mpr c40
            obtain rfl := Option.some.inj H
            rotate_left
            ·go_wp2
             go_ret
             exact er (bbw1 HB GE266)
            rotate_left 3
            all_goals
             obtain ⟨hcz42_0, hcz42_1, hcz42_2, hcz42_3, hfz42_0, hfz42_1, hfz42_2, hfz42_3⟩ := bz4 BK266
             go_wp2_with (first | ((with_reducible refine gate_callee (f := 79) rfl ?_); refine gl 42 Tryd.func79 #[.agg #[.int .i64 a0_0, .int .i64 a0_1, .int .i64 a0_2, .int .i64 a0_3]] ?_; (with_reducible refine (impl_Mat_det.calls _ _ _ _ _ _ A39.out).mono ?_); rintro e w43 ⟨rfl, hb⟩; refine ⟨_, rfl, ?_⟩; replace BK266 := bB BK266 hb; replace HB := bS1 HB GE266 hb; (try clear hb)))
             go_ret
             exact er (bbw1 HB GE266)
/-! ### impl_Mat_isRotation: function 81 -/
def impl_Mat_isRotation.f (k : Nat) (a0_0 : Int) (a0_1 : Int) (a0_2 : Int) (a0_3 : Int) : Option (Bool) := (impl_Mat_det.f a0_0 a0_1 a0_2 a0_3).bind fun t276 => (if t276 = 1 then ((impl_Mat_order.f k a0_0 a0_1 a0_2 a0_3).bind fun t277 => (some (decide (t277 > 0)))) else (some false))
set_option maxHeartbeats 8000000 in
set_option maxRecDepth 100000 in
theorem impl_Mat_isRotation.calls (k : Nat) (a0_0 : Int) (a0_1 : Int) (a0_2 : Int) (a0_3 : Int) (r : Bool) (w : World) (h : impl_Mat_isRotation.f k a0_0 a0_1 a0_2 a0_3 = some r) :
  Calls Tryd.prog 81 #[.agg #[.int .i64 a0_0, .int .i64 a0_1, .int .i64 a0_2, .int .i64 a0_3]] w fun e w' => e = .returned (.bool r) ∧ Below w.heap.size w w' := by
 have hu31 := Tryd.underlying31
 have HB := asd (Below.refl w.heap.size w)
 have H : ((impl_Mat_det.f a0_0 a0_1 a0_2 a0_3).bind fun t276 => (if t276 = 1 then ((impl_Mat_order.f k a0_0 a0_1 a0_2 a0_3).bind fun t277 => (some (decide (t277 > 0)))) else (some false))) = some r := h
 clear h
 obtain ⟨t276, A2, H⟩ := ob H
 try dsimp only at H
 by_cases c3 : t276 = 1
 ·rw [if_pos c3] at H
  have c3b0 : (t276 == 1) = true := beq_iff_eq.mpr c3
  have c3b1 : (t276 != 1) = false := bne_eq_false_iff_eq.mpr c3
  clear c3
  obtain ⟨t277, A4, H⟩ := ob H
  try dsimp only at H
  obtain rfl := Option.some.inj H
  go_enter Tryd.func81, Tryd.ntmps81
  go_wp2_with (first | ((with_reducible refine gd 1 rfl ?_); refine bx #[.int .i64 a0_0, .int .i64 a0_1, .int .i64 a0_2, .int .i64 a0_3] 31 ?_; intro gb275 hg w5 BK275 hb; have GE275 := ngw0 hg HB; replace HB := bS0 HB hb; clear hb hg; obtain ⟨hcz6_0, hcz6_1, hcz6_2, hcz6_3, hfz6_0, hfz6_1, hfz6_2, hfz6_3⟩ := bz4 BK275) | ((with_reducible refine gate_callee (f := 79) rfl ?_); refine gl 4 Tryd.func79 #[.agg #[.int .i64 a0_0, .int .i64 a0_1, .int .i64 a0_2, .int .i64 a0_3]] ?_; (with_reducible refine (impl_Mat_det.calls _ _ _ _ _ _ A2.out).mono ?_); rintro e w7 ⟨rfl, hb⟩; refine ⟨_, rfl, ?_⟩; replace BK275 := bB BK275 hb; replace HB := bS1 HB GE275 hb; (try clear hb); obtain ⟨hcz8_0, hcz8_1, hcz8_2, hcz8_3, hfz8_0, hfz8_1, hfz8_2, hfz8_3⟩ := bz4 BK275) | (go_at_call 98; (with_reducible refine (impl_Mat_order.calls _ _ _ _ _ _ _ A4.out).mono ?_); rintro e w9 ⟨rfl, hb⟩; replace BK275 := bB BK275 hb; replace HB := bS1 HB GE275 hb; (try clear hb)))
  go_ret
  exact er (bbw1 HB GE275)
 ·rw [if_neg c3] at H
  have c3b0 : (t276 == 1) = false := beq_eq_false_iff_ne.mpr c3
  have c3b1 : (t276 != 1) = true := bne_iff_ne.mpr c3
  obtain rfl := Option.some.inj H
  go_enter Tryd.func81, Tryd.ntmps81
  go_wp2_with (first | ((with_reducible refine gd 1 rfl ?_); refine bx #[.int .i64 a0_0, .int .i64 a0_1, .int .i64 a0_2, .int .i64 a0_3] 31 ?_; intro gb275 hg w10 BK275 hb; have GE275 := ngw0 hg HB; replace HB := bS0 HB hb; clear hb hg; obtain ⟨hcz11_0, hcz11_1, hcz11_2, hcz11_3, hfz11_0, hfz11_1, hfz11_2, hfz11_3⟩ := bz4 BK275) | ((with_reducible refine gate_callee (f := 79) rfl ?_); refine gl 4 Tryd.func79 #[.agg #[.int .i64 a0_0, .int .i64 a0_1, .int .i64 a0_2, .int .i64 a0_3]] ?_; (with_reducible refine (impl_Mat_det.calls _ _ _ _ _ _ A2.out).mono ?_); rintro e w12 ⟨rfl, hb⟩; refine ⟨_, rfl, ?_⟩; replace BK275 := bB BK275 hb; replace HB := bS1 HB GE275 hb; (try clear hb)))
  go_ret
  exact er (bbw1 HB GE275)
/-! ### impl_Mat_isReflection: function 82 -/
def impl_Mat_isReflection.f (k : Nat) (a0_0 : Int) (a0_1 : Int) (a0_2 : Int) (a0_3 : Int) : Option (Bool) := (impl_Mat_det.f a0_0 a0_1 a0_2 a0_3).bind fun t279 => (if t279 = (-1) then ((impl_Mat_order.f k a0_0 a0_1 a0_2 a0_3).bind fun t280 => (some (t280 == 2))) else (some false))
set_option maxHeartbeats 8000000 in
set_option maxRecDepth 100000 in
theorem impl_Mat_isReflection.calls (k : Nat) (a0_0 : Int) (a0_1 : Int) (a0_2 : Int) (a0_3 : Int) (r : Bool) (w : World) (h : impl_Mat_isReflection.f k a0_0 a0_1 a0_2 a0_3 = some r) :
  Calls Tryd.prog 82 #[.agg #[.int .i64 a0_0, .int .i64 a0_1, .int .i64 a0_2, .int .i64 a0_3]] w fun e w' => e = .returned (.bool r) ∧ Below w.heap.size w w' := by
 have hu31 := Tryd.underlying31
 have HB := asd (Below.refl w.heap.size w)
 have H : ((impl_Mat_det.f a0_0 a0_1 a0_2 a0_3).bind fun t279 => (if t279 = (-1) then ((impl_Mat_order.f k a0_0 a0_1 a0_2 a0_3).bind fun t280 => (some (t280 == 2))) else (some false))) = some r := h
 clear h
 obtain ⟨t279, A2, H⟩ := ob H
 try dsimp only at H
 by_cases c3 : t279 = (-1)
 ·rw [if_pos c3] at H
  have c3b0 : (t279 == (-1)) = true := beq_iff_eq.mpr c3
  have c3b1 : (t279 != (-1)) = false := bne_eq_false_iff_eq.mpr c3
  clear c3
  obtain ⟨t280, A4, H⟩ := ob H
  try dsimp only at H
  obtain rfl := Option.some.inj H
  go_enter Tryd.func82, Tryd.ntmps82
  go_wp2_with (first | ((with_reducible refine gd 1 rfl ?_); refine bx #[.int .i64 a0_0, .int .i64 a0_1, .int .i64 a0_2, .int .i64 a0_3] 31 ?_; intro gb278 hg w5 BK278 hb; have GE278 := ngw0 hg HB; replace HB := bS0 HB hb; clear hb hg; obtain ⟨hcz6_0, hcz6_1, hcz6_2, hcz6_3, hfz6_0, hfz6_1, hfz6_2, hfz6_3⟩ := bz4 BK278) | ((with_reducible refine gate_callee (f := 79) rfl ?_); refine gl 4 Tryd.func79 #[.agg #[.int .i64 a0_0, .int .i64 a0_1, .int .i64 a0_2, .int .i64 a0_3]] ?_; (with_reducible refine (impl_Mat_det.calls _ _ _ _ _ _ A2.out).mono ?_); rintro e w7 ⟨rfl, hb⟩; refine ⟨_, rfl, ?_⟩; replace BK278 := bB BK278 hb; replace HB := bS1 HB GE278 hb; (try clear hb); obtain ⟨hcz8_0, hcz8_1, hcz8_2, hcz8_3, hfz8_0, hfz8_1, hfz8_2, hfz8_3⟩ := bz4 BK278) | (go_at_call 98; (with_reducible refine (impl_Mat_order.calls _ _ _ _ _ _ _ A4.out).mono ?_); rintro e w9 ⟨rfl, hb⟩; replace BK278 := bB BK278 hb; replace HB := bS1 HB GE278 hb; (try clear hb)))
  go_ret
  exact er (bbw1 HB GE278)
 ·rw [if_neg c3] at H
  have c3b0 : (t279 == (-1)) = false := beq_eq_false_iff_ne.mpr c3
  have c3b1 : (t279 != (-1)) = true := bne_iff_ne.mpr c3
  obtain rfl := Option.some.inj H
  go_enter Tryd.func82, Tryd.ntmps82
  go_wp2_with (first | ((with_reducible refine gd 1 rfl ?_); refine bx #[.int .i64 a0_0, .int .i64 a0_1, .int .i64 a0_2, .int .i64 a0_3] 31 ?_; intro gb278 hg w10 BK278 hb; have GE278 := ngw0 hg HB; replace HB := bS0 HB hb; clear hb hg; obtain ⟨hcz11_0, hcz11_1, hcz11_2, hcz11_3, hfz11_0, hfz11_1, hfz11_2, hfz11_3⟩ := bz4 BK278) | ((with_reducible refine gate_callee (f := 79) rfl ?_); refine gl 4 Tryd.func79 #[.agg #[.int .i64 a0_0, .int .i64 a0_1, .int .i64 a0_2, .int .i64 a0_3]] ?_; (with_reducible refine (impl_Mat_det.calls _ _ _ _ _ _ A2.out).mono ?_); rintro e w12 ⟨rfl, hb⟩; refine ⟨_, rfl, ?_⟩; replace BK278 := bB BK278 hb; replace HB := bS1 HB GE278 hb; (try clear hb)))
  go_ret
  exact er (bbw1 HB GE278)

end Go.Proofs.YtfhbhjlgepjlfaaDoor.PM
