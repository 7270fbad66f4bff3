/- Walks written by program: each Go function that the law reaches comes to the plain function beside it. -/
import Derived.Test.YtfhbhjlgepjlfaaDoorPMx0
import Derived.Test.YtfhbhjlgepjlfaaDoorPMx1
import Derived.Test.YtfhbhjlgepjlfaaDoorPMx2
namespace Go.Proofs.YtfhbhjlgepjlfaaDoor.PM
open Go.RowKit Go.Proofs.YtfhbhjlgepjlfaaDoorW.PrintWords Go.Proofs.YtfhbhjlgepjlfaaDoorW.PrintLast Go.Proofs.YtfhbhjlgepjlfaaDoorW.PrintMore
attribute [local go_sem] max2_int min2_int max_two min_two max_three min_three max_four min_four   -- for this text's walks alone
set_option linter.unusedVariables false
set_option linter.unusedSimpArgs false

/-! ### spec_ReadVec: function 28 -/
def spec_ReadVec.f (k : Nat) (a0 : ByteArray) : Option (Int × Int × Bool) := (spec_l01Split.f k a0 44).bind fun t157 => ((spec_l01Numbers.f k t157).bind fun bt160 => (if bt160.2 = true then (if (bt160.1.length : Int) = 2 then (if 0 < (bt160.1.length : Int) then (if 1 < (bt160.1.length : Int) then ((spec_IsVec.f (rd bt160.1 0) (rd bt160.1 1)).bind fun t166 => (if t166 = true then (some (rd bt160.1 0, rd bt160.1 1, true)) else (some (0, 0, false)))) else (none)) else (none)) else (some (0, 0, false))) else (some (0, 0, false))))
def spec_ReadVec.T2 : Bool × List (List Nat × List Nat) := (true, [([], []), ([0], [0]), ([1], [1]), ([2], [2]), ([3, 2], [2, 3]), ([4, 2], [2, 4]), ([2, 5], [2, 5]), ([6, 2], [6]), ([7], [7]), ([8, 7], [7, 8]), ([9, 7], [7, 9]), ([7], [7]), ([11, 7], [7, 11]), ([12, 7], [7, 12]), ([10, 13, 7], [7, 10, 13]), ([14, 7, 7], [7, 14]), ([15, 7], [7, 15]), ([7, 16], [7, 16])])
def spec_ReadVec.B2 : List Nat := [0, 1, 3, 7, 15, 31, 63, 127, 255, 511, 1023, 255, 2303, 6399, 16383, 32767, 65535, 131071]
theorem spec_ReadVec.tab2 : rtab .any (opsOf Tryd.f28 2) = spec_ReadVec.T2 := by kernel_rfl
theorem spec_ReadVec.bits2 : waitsOk spec_ReadVec.T2.2 spec_ReadVec.B2 = true := by kernel_rfl
def spec_ReadVec.T4 : Bool × List (List Nat × List Nat) := (true, [([], []), ([0], [0]), ([1], [1]), ([], []), ([3], [3]), ([4], [4]), ([2, 5], [2, 5]), ([6, 0, 1, 2, 3, 4, 5, 6], [6]), ([7, 0, 1, 2, 3, 4, 5, 6, 7], [])])
def spec_ReadVec.B4 : List Nat := [0, 1, 3, 0, 8, 24, 63, 127, 255]
theorem spec_ReadVec.tab4 : rtab .any (opsOf Tryd.f28 4) = spec_ReadVec.T4 := by kernel_rfl
theorem spec_ReadVec.bits4 : waitsOk spec_ReadVec.T4.2 spec_ReadVec.B4 = true := by kernel_rfl
set_option maxHeartbeats 8000000 in
set_option maxRecDepth 100000 in
theorem spec_ReadVec.calls (k : Nat) (a0 : ByteArray) (r1 : Int) (r2 : Int) (r3 : Bool) (w : World) (h : spec_ReadVec.f k a0 = some (r1, r2, r3)) :
  Calls Tryd.prog 28 #[.string a0] w fun e w' => e = .returned (.tuple #[.agg #[.int .i64 r1, .int .i64 r2], .bool r3]) ∧ Below w.heap.size w w' := by
 have hu33 := Tryd.underlying33
 have HB := asd (Below.refl w.heap.size w)
 have H : ((spec_l01Split.f k a0 44).bind fun t157 => ((spec_l01Numbers.f k t157).bind fun bt160 => (if bt160.2 = true then (if (bt160.1.length : Int) = 2 then (if 0 < (bt160.1.length : Int) then (if 1 < (bt160.1.length : Int) then ((spec_IsVec.f (rd bt160.1 0) (rd bt160.1 1)).bind fun t166 => (if t166 = true then (some (rd bt160.1 0, rd bt160.1 1, true)) else (some (0, 0, false)))) else (none)) else (none)) else (some (0, 0, false))) else (some (0, 0, false))))) = some (r1, r2, r3) := h
 clear h
 obtain ⟨t157, A2, H⟩ := ob H
 try dsimp only at H
 obtain ⟨⟨t160, t161⟩, A3, H⟩ := ob H
 try dsimp only at H
 by_cases c4 : t161 = true
 subst c4
 replace H := ifT H
 by_cases c5 : (t160.length : Int) = 2
 rw [if_pos c5] at H
 have c5b0 : ((t160.length : Int) == 2) = true := beq_iff_eq.mpr c5
 have c5b1 : ((t160.length : Int) != 2) = false := bne_eq_false_iff_eq.mpr c5
 clear c5
 by_cases c6 : 0 < (t160.length : Int)
 rw [if_pos c6] at H
 have c6b0 := decide_eq_true c6
 have c6b1 : decide (0 < t160.length) = true := decide_eq_true (by omega)
 clear c6
 by_cases c7 : 1 < (t160.length : Int)
 rw [if_pos c7] at H
 have c7b0 := decide_eq_true c7
 have c7b1 : decide (1 < t160.length) = true := decide_eq_true (by omega)
 clear c7
 obtain ⟨t166, A8, H⟩ := ob H
 try dsimp only at H
 by_cases c9 : t166 = true
 subst c9
 replace H := ifT H
 rotate_left
 replace c9 := Bool.eq_false_iff.mpr c9
 subst c9
 replace H := ifF H
 rotate_left
 ·rw [if_neg c7] at H
  exact absurd H (by simp)
 ·rw [if_neg c6] at H
  exact absurd H (by simp)
 rw [if_neg c5] at H
 have c5b0 : ((t160.length : Int) == 2) = false := beq_eq_false_iff_ne.mpr c5
 have c5b1 : ((t160.length : Int) != 2) = true := bne_iff_ne.mpr c5
 rotate_left
 replace c4 := Bool.eq_false_iff.mpr c4
 subst c4
 replace H := ifF H
 rotate_left
 all_goals
  simp only [Option.some.injEq, Prod.mk.injEq] at H
  obtain ⟨rfl, rfl, rfl⟩ := H
  go_enter Tryd.func28, Tryd.ntmps28
  try go_wp2_with (first | ((with_reducible refine gd 2 rfl ?_); (try (refine gate_guard (by rfl) ?_; dsimp only)); refine bx #[.int .i64 0, .int .i64 0] 33 ?_; intro gb156 hg w10 BK156 hb; have GE156 := ngw0 hg HB; replace HB := bS0 HB hb; clear hb hg) | ((with_reducible refine gate_callee (f := 19) rfl ?_); refine gl 8 Tryd.func19 #[.string a0, .int .u8 44] ?_; (with_reducible refine (spec_l01Split.calls _ _ _ _ _ A2.out).mono ?_); rintro e w11 ⟨v158, rfl, ho0, hb⟩; refine ⟨_, rfl, ?_⟩; have HO159 := asd (Kd.R_lower ho0 (bsz1 HB GE156)); replace BK156 := bB BK156 hb; replace HB := bS1 HB GE156 hb; (try clear hb); (try clear hb2); (try clear hk); (try clear hi); (try clear ho0); obtain ⟨Ao12, co12, eo12⟩ := Kd.R_slice HO159.out; subst eo12) | ((with_reducible refine gate_callee (f := 50) rfl ?_); refine gl 9 Tryd.func50 #[.slice Ao12 t157.length co12] ?_; (with_reducible refine (spec_l01Numbers.calls _ _ _ _ _ _ _ ?side1 ?side2 A3.out).mono ?_); (case side1 => exact ks (Kd.R_reads' HO159.out).2.2); (case side2 => exact (Kd.R_reads' HO159.out).2.1); rintro e w13 ⟨v162, rfl, ho0, hb⟩; refine ⟨_, rfl, ?_⟩; replace HO159 := asd (Kd.R_below (kr HO159) hb); have HO163 := asd (Kd.R_lower ho0 (bsz1 HB GE156)); replace BK156 := bB BK156 hb; replace HB := bS1 HB GE156 hb; (try clear hb); (try clear hb2); (try clear hk); (try clear hi); (try clear ho0)))
  replace HO159 := asd (Kd.R_drew HO159.out)
  replace HO163 := asd (Kd.R_drew HO163.out)
  replace BK156 := asd (blk_drew BK156.out)
  replace HB := asd (below_drew1 HB.out)
 rotate_left 3
 ·refine start_ (n := 18) (S := fun w' => True) (ds := []) (bT 18 0) (by kernel_rfl) rfl rfl trivial (fun hHeld => ?_); refine with_tabW spec_ReadVec.tab2 spec_ReadVec.bits2 (fun HT_ HW_ => ?_)
  generalize w13.drew = w39 at HO159 HO163 BK156 HB hHeld ⊢
  refine pu 0 (some 12) (bT 18 1) HT_ ?_
  refine pu 1 (some 13) (bT 18 2) HT_ ?_
  refine pu 2 (some 14) (bT 18 3) HT_ ?_
  refine pf 3 (some 15) (bT 18 4) HT_ ?_
  refine pf 4 (some 16) (bT 18 5) HT_ ?_
  refine pf 5 (some 17) (bT 18 6) HT_ ?_
  refine pu 6 (some 18) (bT 18 7) HT_ ?_
  refine pu 7 (some 19) (bT 18 8) HT_ ?_
  refine pf 8 (some 20) (bT 18 9) HT_ ?_
  refine pf 9 (some 21) (bT 18 10) HT_ ?_
  refine pf 10 (some 22) (bT 18 11) HT_ ?_
  refine pf 11 (some 23) (bT 18 12) HT_ ?_
  refine pf 12 (some 24) (bT 18 13) HT_ ?_
  refine pf 13 (some 25) (bT 18 14) HT_ ?_
  refine pf 14 (some 26) (bT 18 15) HT_ ?_
  refine pf 15 (some 27) (bT 18 16) HT_ ?_
  refine pf 16 (some 28) (bT 18 17) HT_ ?_
  refine pu 17 (some 29) (bT 18 18) HT_ ?_
  refine done_ (done_of HT_.out (by kernel_rfl)) ?_
  obtain ⟨hcz40_0, hcz40_1, hfz40_0, hfz40_1⟩ := bz2 BK156
  try go_wp2
  refine bodyPost_ret (results_ct rfl _ _ gb156 33 #[.int .i64 0, .int .i64 0] (0, 0) _ rfl (bq0 BK156) Tryd.underlying33 rfl (by kernel_rfl)) rfl ?_
  exact er (bbw1 HB GE156)
 all_goals
  obtain ⟨Ao15, co15, eo15⟩ := Kd.R_slice HO163.out
  (first | subst eo15 | (injection eo15 with f1_ f2_ f3_; have f4_ := f1_.symm; have f5_ := f3_.symm; clear f1_ f2_ f3_; subst f4_; subst f5_))
 rotate_left 2
 ·refine start_ (n := 18) (S := fun w' => True) (ds := []) (bT 18 0) (by kernel_rfl) rfl rfl trivial (fun hHeld => ?_); refine with_tabW spec_ReadVec.tab2 spec_ReadVec.bits2 (fun HT_ HW_ => ?_)
  generalize w13.drew = w32 at HO159 HO163 BK156 HB hHeld ⊢
  refine pu 0 (some 12) (bT 18 1) HT_ ?_
  refine pu 1 (some 13) (bT 18 2) HT_ ?_
  refine pu 2 (some 14) (bT 18 3) HT_ ?_
  refine pu 3 (some 15) (bT 18 4) HT_ ?_
  refine pu 4 (some 16) (bT 18 5) HT_ ?_
  refine pu 5 (some 17) (bT 18 6) HT_ ?_
  refine pu 6 (some 18) (bT 18 7) HT_ ?_
  refine pu 7 (some 19) (bT 18 8) HT_ ?_
  refine pf 8 (some 20) (bT 18 9) HT_ ?_
  refine pf 9 (some 21) (bT 18 10) HT_ ?_
  refine pf 10 (some 22) (bT 18 11) HT_ ?_
  refine pf 11 (some 23) (bT 18 12) HT_ ?_
  refine pf 12 (some 24) (bT 18 13) HT_ ?_
  refine pf 13 (some 25) (bT 18 14) HT_ ?_
  refine pf 14 (some 26) (bT 18 15) HT_ ?_
  refine pf 15 (some 27) (bT 18 16) HT_ ?_
  refine pf 16 (some 28) (bT 18 17) HT_ ?_
  refine pu 17 (some 29) (bT 18 18) HT_ ?_
  refine done_ (done_of HT_.out (by kernel_rfl)) ?_
  obtain ⟨hcz34_0, hcz34_1, hfz34_0, hfz34_1⟩ := bz2 BK156
  try go_wp2
  refine bodyPost_ret (results_ct rfl _ _ gb156 33 #[.int .i64 0, .int .i64 0] (0, 0) _ rfl (bq0 BK156) Tryd.underlying33 rfl (by kernel_rfl)) rfl ?_
  exact er (bbw1 HB GE156)
 all_goals
  have p164 : 0 ≤ (0 : Int) := (by omega)
  have q164 : 0 < (t160.length : Int) := od
  obtain ⟨ad164, e164, hx164_0⟩ := Kd.at_int (Kd.R_reads' HO163.out).2.2 0 p164 q164
  cases e164
  have qi164 : (0 < t160.length) = True := eq_true (by omega)
  (try rw [show ((0 : Int)).toNat = 0 from rfl] at hx164_0)
  (try rw [Addr.add_zero'] at hx164_0)
  replace p164 := eq_true p164
  replace q164 := eq_true q164
  have p165 : 0 ≤ (1 : Int) := (by omega)
  have q165 : 1 < (t160.length : Int) := od
  obtain ⟨ad165, e165, hx165_0⟩ := Kd.at_int (Kd.R_reads' HO163.out).2.2 1 p165 q165
  obtain rfl : ad164 = ad165 := (by injection e165)
  (try simp only [show (1 : Int).toNat = 1 from rfl, Nat.reduceMul, Nat.reduceEqDiff, Go.Addr.add, ↓reduceIte] at hx165_0)
  have qi165 : (1 < t160.length) = True := eq_true (by omega)
  (try rw [show ((1 : Int)).toNat = 1 from rfl] at hx165_0)
  replace p165 := eq_true p165
  replace q165 := eq_true q165
  refine sh 18 (c1 hx164_0 (e1 hx165_0)) (fun hHeld => ?_); refine with_tabW spec_ReadVec.tab2 spec_ReadVec.bits2 (fun HT_ HW_ => ?_)
  generalize w13.drew = w14 at HO159 HO163 BK156 HB hx164_0 hx165_0 hHeld ⊢
  refine pu 0 (some 12) (bT 18 1) HT_ ?_
  refine pu 1 (some 13) (bT 18 2) HT_ ?_
  refine pu 2 (some 14) (bT 18 3) HT_ ?_
  refine pu 3 (some 15) (bT 18 4) HT_ ?_
  refine pu 4 (some 16) (bT 18 5) HT_ ?_
  refine pu 5 (some 17) (bT 18 6) HT_ ?_
  refine pu 6 (some 18) (bT 18 7) HT_ ?_
  refine pu 7 (some 19) (bT 18 8) HT_ ?_
  refine pu 8 (some 20) (bT 18 9) HT_ ?_
  refine pu 9 (some 21) (bT 18 10) HT_ ?_
  refine pu 11 (some 23) (bs 18 3071) HT_ ?_
  refine pu 12 (some 24) (bs 18 7167) HT_ ?_
  refine ta 10 (some 22) (bT 18 13) HT_ HW_ hHeld ?_
  refine ta 13 (some 25) (bT 18 14) HT_ HW_ hHeld ?_
  refine pu 14 (some 26) (bT 18 15) HT_ ?_
  refine ro 15 (some 27) (bT 18 16) HT_ (fun K hK => ?_)
  refine gs Tryd.func52 #[.agg #[.int .i64 (rd t160 0), .int .i64 (rd t160 1)]] ?_
  with_reducible refine (spec_IsVec.calls _ _ _ _ A8.out).mono ?_
  rintro e w16 ⟨rfl, hb⟩
  have HS0_ := hbc hb (hHeld.1)
  have HS1_ := hbc hb (hHeld.2)
  refine ⟨_, rfl, ?_⟩
  replace HO159 := asd (Kd.R_below (kr HO159) hb)
  replace HO163 := asd (Kd.R_below (kr HO163) hb)
  replace BK156 := bB BK156 hb
  replace HB := bS1 HB GE156 hb
  (try clear hb)
  (try clear hb2)
  (try clear hk)
  (try clear hi)
  refine hK.out _ _ ⟨HS0_, HS1_⟩ (fun hHeld => ?_)
  clear hK K
  refine norm_ (a' := ?_) ?_ ?_
  rotate_left
  ·show Act.put _ (some 27) _ = _
   simp only [Act.put, sA, sB, sC, i64_w, i32_w]
   rfl
  refine pu 16 (some 28) (bT 18 17) HT_ ?_
  refine pu 17 (some 29) (bT 18 18) HT_ ?_
  refine done_ (done_of HT_.out (by kernel_rfl)) ?_
 ·try go_wp2
  replace HO159 := asd (Kd.R_drew HO159.out)
  replace HO163 := asd (Kd.R_drew HO163.out)
  replace BK156 := asd (blk_drew BK156.out)
  replace HB := asd (below_drew1 HB.out)
  have p167 : 0 ≤ (0 : Int) := (by omega)
  have q167 : 0 < (t160.length : Int) := od
  obtain ⟨ad167, e167, hx167_0⟩ := Kd.at_int (Kd.R_reads' HO163.out).2.2 0 p167 q167
  obtain rfl : ad164 = ad167 := (by injection e167)
  have qi167 : (0 < t160.length) = True := eq_true (by omega)
  (try rw [show ((0 : Int)).toNat = 0 from rfl] at hx167_0)
  (try rw [Addr.add_zero'] at hx167_0)
  replace p167 := eq_true p167
  replace q167 := eq_true q167
  have p168 : 0 ≤ (1 : Int) := (by omega)
  have q168 : 1 < (t160.length : Int) := od
  obtain ⟨ad168, e168, hx168_0⟩ := Kd.at_int (Kd.R_reads' HO163.out).2.2 1 p168 q168
  obtain rfl : ad164 = ad168 := (by injection e168)
  (try simp only [show (1 : Int).toNat = 1 from rfl, Nat.reduceMul, Nat.reduceEqDiff, Go.Addr.add, ↓reduceIte] at hx168_0)
  have qi168 : (1 < t160.length) = True := eq_true (by omega)
  (try rw [show ((1 : Int)).toNat = 1 from rfl] at hx168_0)
  replace p168 := eq_true p168
  replace q168 := eq_true q168
  refine sh 9 (c1 hx167_0 (e1 hx168_0)) (fun hHeld => ?_); refine with_tabW spec_ReadVec.tab4 spec_ReadVec.bits4 (fun HT_ HW_ => ?_)
  generalize w16.drew = w17 at HO159 HO163 BK156 HB hx167_0 hx168_0 hHeld ⊢
  refine pu 0 (some 31) (bT 9 1) HT_ ?_
  refine pu 1 (some 32) (bT 9 2) HT_ ?_
  refine pu 3 (some 34) (bs 9 11) HT_ ?_
  refine pu 4 (some 35) (bs 9 27) HT_ ?_
  refine ta 2 (some 33) (bT 9 5) HT_ HW_ hHeld ?_
  refine ta 5 (some 36) (bT 9 6) HT_ HW_ hHeld ?_
  refine pu 6 (some 37) (bT 9 7) HT_ ?_
  refine ro 7 (none) (bT 9 8) HT_ (fun K hK => ?_)
  have hs18 : w17.cell? ⟨gb156, 0, none⟩ = some (.int .i64 0) := bcl BK156 0
  have hfs18 := blk_frozen BK156.out 0
  have hs19 : w17.cell? ⟨gb156, 1, none⟩ = some (.int .i64 0) := bcl BK156 1
  have hfs19 := blk_frozen BK156.out 1
  refine skip_ (w1 := ?_) (by rfl) rfl ?_ ?_
  rotate_left
  ·go_simp
   rfl
  refine hK.out _ _ ⟨(fx2 (Kd.own_blk (Kd.R_ne HO163.out BK156.out (by decide))) (hHeld.1)), (fx2 (Kd.own_blk (Kd.R_ne HO163.out BK156.out (by decide))) (hHeld.2))⟩ (fun hHeld => ?_)
  clear hK K
  refine pu 8 (some 3) (bT 9 9) HT_ ?_
  refine done_ (done_of HT_.out (by kernel_rfl)) ?_
  try go_wp2
  refine bodyPost_ret (results_ct rfl _ _ gb156 33 #[.int .i64 (rd t160 0), .int .i64 (rd t160 1)] (0, 0) _ rfl (bq0 BK156) Tryd.underlying33 rfl (by kernel_rfl)) rfl ?_
  exact er (bbw1 HB GE156)
 ·obtain ⟨hcz27_0, hcz27_1, hfz27_0, hfz27_1⟩ := bz2 BK156
  try go_wp2
  refine bodyPost_ret (results_ct rfl _ _ gb156 33 #[.int .i64 0, .int .i64 0] (0, 0) _ rfl (bq0 BK156) Tryd.underlying33 rfl (by kernel_rfl)) rfl ?_
  exact er (bbw1 HB GE156)

attribute [local go_sem high] eqA31
/-! ### spec_l02Unit: function 94 -/
def spec_l02Unit.f  : Option (Int × Int × Int × Int) := some (1, 0, 0, 1)
set_option maxHeartbeats 8000000 in
set_option maxRecDepth 100000 in
theorem spec_l02Unit.calls  (r1 : Int) (r2 : Int) (r3 : Int) (r4 : Int) (w : World) (h : spec_l02Unit.f  = some (r1, r2, r3, r4)) :
  Calls Tryd.prog 94 #[] w fun e w' => e = .returned (.agg #[.int .i64 r1, .int .i64 r2, .int .i64 r3, .int .i64 r4]) ∧ Below w.heap.size w w' := by
 have hu31 := Tryd.underlying31
 have HB := asd (Below.refl w.heap.size w)
 have H : (some (1, 0, 0, 1)) = some (r1, r2, r3, r4) := h
 clear h
 simp only [Option.some.injEq, Prod.mk.injEq] at H
 obtain ⟨rfl, rfl, rfl, rfl⟩ := H
 go_enter Tryd.func94, Tryd.ntmps94
 go_wp2_with (first | ((with_reducible refine gd 0 rfl ?_); refine bx #[.int .i64 0, .int .i64 0, .int .i64 0, .int .i64 0] 31 ?_; intro gb169 hg w1 BK169 hb; have GE169 := ngw0 hg HB; replace HB := bS0 HB hb; clear hb hg; obtain ⟨hcz2_0, hcz2_1, hcz2_2, hcz2_3, hfz2_0, hfz2_1, hfz2_2, hfz2_3⟩ := bz4 BK169))
 refine bodyPost_ret (results_cell_row rfl _ _ gb169 31 #[.int .i64 1, .int .i64 0, .int .i64 0, .int .i64 1] (0, 0) _ rfl (bq0 BK169) Tryd.underlying31 rfl (by kernel_rfl)) rfl ?_
 exact er (bbw1 HB GE169)
/-! ### spec_l02Multiply: function 95 -/
def spec_l02Multiply.f (a0_0 : Int) (a0_1 : Int) (a0_2 : Int) (a0_3 : Int) (a1_0 : Int) (a1_1 : Int) (a1_2 : Int) (a1_3 : Int) : Option (Int × Int × Int × Int) := some (wrap64 ((wrap64 (a0_0 * a1_0)) + (wrap64 (a0_1 * a1_2))), wrap64 ((wrap64 (a0_0 * a1_1)) + (wrap64 (a0_1 * a1_3))), wrap64 ((wrap64 (a0_2 * a1_0)) + (wrap64 (a0_3 * a1_2))), wrap64 ((wrap64 (a0_2 * a1_1)) + (wrap64 (a0_3 * a1_3))))
set_option maxHeartbeats 8000000 in
set_option maxRecDepth 100000 in
theorem spec_l02Multiply.calls (a0_0 : Int) (a0_1 : Int) (a0_2 : Int) (a0_3 : Int) (a1_0 : Int) (a1_1 : Int) (a1_2 : Int) (a1_3 : Int) (r1 : Int) (r2 : Int) (r3 : Int) (r4 : Int) (w : World) (h : spec_l02Multiply.f a0_0 a0_1 a0_2 a0_3 a1_0 a1_1 a1_2 a1_3 = some (r1, r2, r3, r4)) :
  Calls Tryd.prog 95 #[.agg #[.int .i64 a0_0, .int .i64 a0_1, .int .i64 a0_2, .int .i64 a0_3], .agg #[.int .i64 a1_0, .int .i64 a1_1, .int .i64 a1_2, .int .i64 a1_3]] w fun e w' => e = .returned (.agg #[.int .i64 r1, .int .i64 r2, .int .i64 r3, .int .i64 r4]) ∧ Below w.heap.size w w' := by
 have hu31 := Tryd.underlying31
 have HB := asd (Below.refl w.heap.size w)
 have H : (some (wrap64 ((wrap64 (a0_0 * a1_0)) + (wrap64 (a0_1 * a1_2))), wrap64 ((wrap64 (a0_0 * a1_1)) + (wrap64 (a0_1 * a1_3))), wrap64 ((wrap64 (a0_2 * a1_0)) + (wrap64 (a0_3 * a1_2))), wrap64 ((wrap64 (a0_2 * a1_1)) + (wrap64 (a0_3 * a1_3))))) = some (r1, r2, r3, r4) := h
 clear h
 simp only [Option.some.injEq, Prod.mk.injEq] at H
 obtain ⟨rfl, rfl, rfl, rfl⟩ := H
 go_enter Tryd.func95, Tryd.ntmps95
 go_wp2_with (first | ((with_reducible refine gd 2 rfl ?_); refine bx #[.int .i64 a0_0, .int .i64 a0_1, .int .i64 a0_2, .int .i64 a0_3] 31 ?_; intro gb170 hg w3 BK170 hb; have GE170 := ngw0 hg HB; replace HB := bS0 HB hb; clear hb hg) | ((with_reducible refine gd 3 rfl ?_); refine bx #[.int .i64 a1_0, .int .i64 a1_1, .int .i64 a1_2, .int .i64 a1_3] 31 ?_; intro gb171 hg w4 BK171 hb; have GE171 := ngw1 hg HB GE170; replace HB := bS1 HB GE170 hb; have NB170_171 := nlt hg BK170; have NB171_170 := nsy (nlt hg BK170); replace BK170 := bB BK170 hb; clear hb hg) | ((with_reducible refine gd 4 rfl ?_); refine bx #[.int .i64 0, .int .i64 0, .int .i64 0, .int .i64 0] 31 ?_; intro gb172 hg w5 BK172 hb; have GE172 := ngw2 hg HB GE170 GE171; replace HB := bS2 HB GE170 GE171 hb; have NB170_172 := nlt hg BK170; have NB172_170 := nsy (nlt hg BK170); replace BK170 := bB BK170 hb; have NB171_172 := nlt hg BK171; have NB172_171 := nsy (nlt hg BK171); replace BK171 := bB BK171 hb; clear hb hg; have hnb6 := NB170_171.out; have hnc6 := NB171_170.out; have hnb7 := NB170_172.out; have hnc7 := NB172_170.out; obtain ⟨hcz8_0, hcz8_1, hcz8_2, hcz8_3, hfz8_0, hfz8_1, hfz8_2, hfz8_3⟩ := bz4 BK170; have hnb9 := NB171_172.out; have hnc9 := NB172_171.out; obtain ⟨hcz10_0, hcz10_1, hcz10_2, hcz10_3, hfz10_0, hfz10_1, hfz10_2, hfz10_3⟩ := bz4 BK171; obtain ⟨hcz11_0, hcz11_1, hcz11_2, hcz11_3, hfz11_0, hfz11_1, hfz11_2, hfz11_3⟩ := bz4 BK172))
 refine bodyPost_ret (results_cell_row rfl _ _ gb172 31 #[.int .i64 (wrap64 ((wrap64 (a0_0 * a1_0)) + (wrap64 (a0_1 * a1_2)))), .int .i64 (wrap64 ((wrap64 (a0_0 * a1_1)) + (wrap64 (a0_1 * a1_3)))), .int .i64 (wrap64 ((wrap64 (a0_2 * a1_0)) + (wrap64 (a0_3 * a1_2)))), .int .i64 (wrap64 ((wrap64 (a0_2 * a1_1)) + (wrap64 (a0_3 * a1_3))))] (0, 0) _ rfl (bq0 BK172) Tryd.underlying31 rfl (by kernel_rfl)) rfl ?_
 exact er (bbw3 HB GE170 GE171 GE172)
/-! ### spec_l02Order: function 76 -/
def spec_l02Order.l0 : Nat → Int → Int → Int → Int → Int → Int → Int → Int → Int → Option (Int)
 | 0, _, _, _, _, _, _, _, _, _ => none
 | k + 1, x4, x174000, x174001, x174002, x174003, x179000, x179001, x179002, x179003 => if x4 ≤ 6 then ((spec_l02Multiply.f x174000 x174001 x174002 x174003 x179000 x179001 x179002 x179003).bind fun bt179 => ((spec_l02Small.f bt179.1 bt179.2.1 bt179.2.2.1 bt179.2.2.2).bind fun t183 => (if t183 = true then ((spec_l02Unit.f).bind fun bt184 => (if (bt179.1 == bt184.1 && (bt179.2.1 == bt184.2.1 && (bt179.2.2.1 == bt184.2.2.1 && (bt179.2.2.2 == bt184.2.2.2)))) = true then (some x4) else (spec_l02Order.l0 k (wrap64 (x4 + 1)) x174000 x174001 x174002 x174003 bt179.1 bt179.2.1 bt179.2.2.1 bt179.2.2.2))) else (some 0)))) else (some 0)
def spec_l02Order.f (k : Nat) (a0_0 : Int) (a0_1 : Int) (a0_2 : Int) (a0_3 : Int) : Option (Int) := (spec_l02Unit.f).bind fun bt174 => (spec_l02Order.l0 k 1 a0_0 a0_1 a0_2 a0_3 bt174.1 bt174.2.1 bt174.2.2.1 bt174.2.2.2)
set_option maxHeartbeats 8000000 in
set_option maxRecDepth 100000 in
theorem spec_l02Order.calls (k : Nat) (a0_0 : Int) (a0_1 : Int) (a0_2 : Int) (a0_3 : Int) (r : Int) (w : World) (h : spec_l02Order.f k a0_0 a0_1 a0_2 a0_3 = some r) :
  Calls Tryd.prog 76 #[.agg #[.int .i64 a0_0, .int .i64 a0_1, .int .i64 a0_2, .int .i64 a0_3]] w fun e w' => e = .returned (.int .i64 r) ∧ Below w.heap.size w w' := by
 have hu31 := Tryd.underlying31
 have HB := asd (Below.refl w.heap.size w)
 have H : ((spec_l02Unit.f).bind fun bt174 => (spec_l02Order.l0 k 1 a0_0 a0_1 a0_2 a0_3 bt174.1 bt174.2.1 bt174.2.2.1 bt174.2.2.2)) = some r := h
 clear h
 obtain ⟨⟨t174, t175, t176, t177⟩, A2, H⟩ := ob H
 try dsimp only at H
 have H' := Aside0.mk H
 clear H
 go_enter Tryd.func76, Tryd.ntmps76
 go_wp2_with (first | ((with_reducible refine gd 1 rfl ?_); refine bx #[.int .i64 a0_0, .int .i64 a0_1, .int .i64 a0_2, .int .i64 a0_3] 31 ?_; intro gb173 hg w3 BK173 hb; have GE173 := ngw0 hg HB; replace HB := bS0 HB hb; clear hb hg) | ((with_reducible refine gate_callee (f := 94) rfl ?_); refine gl 5 Tryd.func94 #[] ?_; (with_reducible refine (spec_l02Unit.calls _ _ _ _ _ A2.out).mono ?_); rintro e w4 ⟨rfl, hb⟩; refine ⟨_, rfl, ?_⟩; replace BK173 := bB BK173 hb; replace HB := bS1 HB GE173 hb; (try clear hb)) | ((with_reducible refine gd 3 rfl ?_); refine bx #[.int .i64 0, .int .i64 0, .int .i64 0, .int .i64 0] 31 ?_; intro gb178 hg w5 BK178 hb; have GE178 := ngw1 hg HB GE173; replace HB := bS1 HB GE173 hb; have NB173_178 := nlt hg BK173; have NB178_173 := nsy (nlt hg BK173); replace BK173 := bB BK173 hb; clear hb hg; have hnb6 := NB178_173.out; have hnc6 := NB173_178.out; obtain ⟨hcz7_0, hcz7_1, hcz7_2, hcz7_3, hfz7_0, hfz7_1, hfz7_2, hfz7_3⟩ := bz4 BK178))
 go_loopg [4] k (fun kq v4 w' => ∃ (x4_1 : Int) (x179000_1 : Int) (x179001_1 : Int) (x179002_1 : Int) (x179003_1 : Int), v4 = .int .i64 x4_1 ∧ Aside0 (spec_l02Order.l0 kq x4_1 a0_0 a0_1 a0_2 a0_3 x179000_1 x179001_1 x179002_1 x179003_1 = some r) ∧ Aside0 (kq ≤ k) ∧ Aside0 (w'.heap[gb173]? = some (.cells #[.int .i64 a0_0, .int .i64 a0_1, .int .i64 a0_2, .int .i64 a0_3] 31 (0, 0))) ∧ Aside0 (w'.heap[gb178]? = some (.cells #[.int .i64 x179000_1, .int .i64 x179001_1, .int .i64 x179002_1, .int .i64 x179003_1] 31 (0, 0))) ∧ Aside0 (Below w.heap.size w w'))
 case atStart => exact ⟨(1), (t174), (t175), (t176), (t177), (by first | rfl | (simp; done) | (simp [*]; done)), H', ⟨Nat.le_refl _⟩, ⟨bq1 BK173 NB173_178⟩, ⟨bq0 BK178⟩, ⟨bbw2 HB GE173 GE178⟩⟩
 case round =>
  clear H'
  try clear p2
  try clear c6
  try clear c7
  try clear hcz7_0
  try clear hcz7_1
  try clear hcz7_2
  try clear hcz7_3
  try clear hfz7_0
  try clear hfz7_1
  try clear hfz7_2
  try clear hfz7_3
  obtain ⟨x4_1, x179000_1, x179001_1, x179002_1, x179003_1, rfl, HA, HK1, BK173, BK178, HB⟩ := hrel
  cases gk with
  | zero => exact absurd HA.out (by simp [spec_l02Order.l0])
  | succ k1 =>
   have H := HA.out
   clear HA
   simp only [spec_l02Order.l0] at H
   by_cases c8 : x4_1 ≤ 6
   rw [if_pos c8] at H
   have c8b0 := decide_eq_true c8
   clear c8
   obtain ⟨⟨t179, t180, t181, t182⟩, A9, H⟩ := ob H
   try dsimp only at H
   obtain ⟨t183, A10, H⟩ := ob H
   try dsimp only at H
   by_cases c11 : t183 = true
   subst c11
   replace H := ifT H
   obtain ⟨⟨t184, t185, t186, t187⟩, A12, H⟩ := ob H
   try dsimp only at H
   by_cases c13 : (t179 == t184 && (t180 == t185 && (t181 == t186 && (t182 == t187)))) = true
   rw [if_pos c13] at H
   have c13b0 := c13
   (try (have c13b1 : decide (t179 = t184 && (t180 == t185 && (t181 == t186 && (t182 == t187)))) = true := by simpa using c13))
   (try (have c13b2 : (t179 == t184 && (t180 == t185 && (t181 == t186 && (t182 == t187)))) = true := by simpa using c13))
   clear c13
   obtain rfl := Option.some.inj H
   rotate_left
   rw [if_neg c13] at H
   have c13b0 : (t179 == t184 && (t180 == t185 && (t181 == t186 && (t182 == t187)))) = false := by simpa using c13
   (try (have c13b1 : decide (t179 = t184 && (t180 == t185 && (t181 == t186 && (t182 == t187)))) = false := by simpa using c13))
   (try (have c13b2 : (t179 == t184 && (t180 == t185 && (t181 == t186 && (t182 == t187)))) = false := by simpa using c13))
   (try (have c13b3 : ¬ (t179 = t184 && (t180 == t185 && (t181 == t186 && (t182 == t187)))) := by simpa using c13))
   clear c13
   have H' := Aside0.mk H
   clear H
   rotate_left
   replace c11 := Bool.eq_false_iff.mpr c11
   subst c11
   replace H := ifF H
   obtain rfl := Option.some.inj H
   rotate_left
   rw [if_neg c8] at H
   have c8b0 := decide_eq_false c8
   clear c8
   obtain rfl := Option.some.inj H
   rotate_left
   rotate_left 3
   ·go_wp2
    go_ret
    exact er (bbw2 HB GE173 GE178)
   all_goals
    have hnb14 := NB173_178.out
    have hnc14 := NB178_173.out
    obtain ⟨hcz15_0, hcz15_1, hcz15_2, hcz15_3, hfz15_0, hfz15_1, hfz15_2, hfz15_3⟩ := bz4 BK173
    obtain ⟨hcz16_0, hcz16_1, hcz16_2, hcz16_3, hfz16_0, hfz16_1, hfz16_2, hfz16_3⟩ := bz4 BK178
   rotate_left 2
   ·go_wp2_with (first | ((with_reducible refine gate_callee (f := 95) rfl ?_); refine gl 12 Tryd.func95 #[.agg #[.int .i64 a0_0, .int .i64 a0_1, .int .i64 a0_2, .int .i64 a0_3], .agg #[.int .i64 x179000_1, .int .i64 x179001_1, .int .i64 x179002_1, .int .i64 x179003_1]] ?_; (with_reducible refine (spec_l02Multiply.calls _ _ _ _ _ _ _ _ _ _ _ _ _ A9.out).mono ?_); rintro e w33 ⟨rfl, hb⟩; refine ⟨_, rfl, ?_⟩; replace BK173 := bB BK173 hb; replace BK178 := bB BK178 hb; replace HB := bS2 HB GE173 GE178 hb; (try clear hb); obtain ⟨hcz34_0, hcz34_1, hcz34_2, hcz34_3, hfz34_0, hfz34_1, hfz34_2, hfz34_3⟩ := bz4 BK178) | ((with_reducible refine gate_callee (f := 74) rfl ?_); refine gl 14 Tryd.func74 #[.agg #[.int .i64 t179, .int .i64 t180, .int .i64 t181, .int .i64 t182]] ?_; (with_reducible refine (spec_l02Small.calls _ _ _ _ _ _ A10.out).mono ?_); rintro e w35 ⟨rfl, hb⟩; refine ⟨_, rfl, ?_⟩; replace BK173 := asd (blk_below (g := gb173) (o := .cells #[.int .i64 a0_0, .int .i64 a0_1, .int .i64 a0_2, .int .i64 a0_3] 31 (0, 0)) (bq1 BK173 NB173_178) hb); replace BK178 := asd (blk_below (g := gb178) (o := .cells #[.int .i64 t179, .int .i64 t180, .int .i64 t181, .int .i64 t182] 31 (0, 0)) (bq0 BK178) hb); replace HB := bS2 HB GE173 GE178 hb; (try clear hb)))
    go_ret
    exact er (bbw2 HB GE173 GE178)
   all_goals
    try go_wp2_with (first | ((with_reducible refine gate_callee (f := 95) rfl ?_); refine gl 12 Tryd.func95 #[.agg #[.int .i64 a0_0, .int .i64 a0_1, .int .i64 a0_2, .int .i64 a0_3], .agg #[.int .i64 x179000_1, .int .i64 x179001_1, .int .i64 x179002_1, .int .i64 x179003_1]] ?_; (with_reducible refine (spec_l02Multiply.calls _ _ _ _ _ _ _ _ _ _ _ _ _ A9.out).mono ?_); rintro e w17 ⟨rfl, hb⟩; refine ⟨_, rfl, ?_⟩; replace BK173 := bB BK173 hb; replace BK178 := bB BK178 hb; replace HB := bS2 HB GE173 GE178 hb; (try clear hb); obtain ⟨hcz18_0, hcz18_1, hcz18_2, hcz18_3, hfz18_0, hfz18_1, hfz18_2, hfz18_3⟩ := bz4 BK178) | ((with_reducible refine gate_callee (f := 74) rfl ?_); refine gl 14 Tryd.func74 #[.agg #[.int .i64 t179, .int .i64 t180, .int .i64 t181, .int .i64 t182]] ?_; (with_reducible refine (spec_l02Small.calls _ _ _ _ _ _ A10.out).mono ?_); rintro e w19 ⟨rfl, hb⟩; refine ⟨_, rfl, ?_⟩; replace BK173 := asd (blk_below (g := gb173) (o := .cells #[.int .i64 a0_0, .int .i64 a0_1, .int .i64 a0_2, .int .i64 a0_3] 31 (0, 0)) (bq1 BK173 NB173_178) hb); replace BK178 := asd (blk_below (g := gb178) (o := .cells #[.int .i64 t179, .int .i64 t180, .int .i64 t181, .int .i64 t182] 31 (0, 0)) (bq0 BK178) hb); replace HB := bS2 HB GE173 GE178 hb; (try clear hb)))
    replace BK173 := asd (blk_drew BK173.out)
    replace BK178 := asd (blk_drew BK178.out)
    replace HB := asd (below_drew1 HB.out)
    refine sh 3 (eb4 BK178) (fun hHeld => ?_)
    generalize w19.drew = w20 at BK173 BK178 HB hHeld ⊢
    refine take_ (i := 0) (N := some 16) (v := ?_) (a' := ?_) (bT 3 1) rfl rfl (by kernel_rfl) (fun _ _ _ h => h) (Or.inl ⟨by rfl, ?_⟩) hHeld ?_ ?_
    rotate_left
    ·rintro w' ⟨s0, s1, s2, s3⟩
     go_simp
     with_reducible rfl
    rotate_left
    ·simp only [Act.put, sA, sB, sC, i64_w, i32_w]
     rfl
    refine one_ (i := 1) (N := some 17) (bT 3 2) rfl rfl (by kernel_rfl) (by decide) (fun K hK => ?_)
    refine gs Tryd.func94 #[] ?_
    with_reducible refine (spec_l02Unit.calls _ _ _ _ _ A12.out).mono ?_
    rintro e w21 ⟨rfl, hb⟩
    refine ⟨_, rfl, ?_⟩
    replace BK173 := bB BK173 hb
    replace BK178 := bB BK178 hb
    replace HB := bS2 HB GE173 GE178 hb
    (try clear hb)
    (try clear hb2)
    (try clear hk)
    (try clear hi)
    refine hK.out _ _ (eb4 BK178).out (fun hHeld => ?_)
    clear hK K
    refine norm_ (a' := ?_) ?_ ?_
    rotate_left
    ·show Act.put _ (some 17) _ = _
     simp only [Act.put, sA, sB, sC, i64_w, i32_w]
     rfl
    refine pure_ (i := 2) (N := some 18) (v := ?_) (a' := ?_) (bT 3 3) rfl rfl (by kernel_rfl) (fun _ _ _ h => h) (Or.inl ⟨by rfl, ?_⟩) ?_ ?_
    rotate_left
    ·intro w'
     go_simp
     with_reducible rfl
    rotate_left
    ·simp only [Act.put, sA, sB, sC, i64_w, i32_w]
     rfl
    refine done_ (by kernel_rfl) ?_
    try go_wp2
   ·go_ret
    exact er (bbw2 HB GE173 GE178)
   ·go_roundg k1
    case measure => have := HK1.out; omega
    case rel => exact ⟨(wrap64 (x4_1 + 1)), (t179), (t180), (t181), (t182), (by first | rfl | (simp; done) | (simp [*]; done)), H', ⟨by have := HK1.out; omega⟩, ⟨bkp BK173⟩, ⟨bkp BK178⟩, ⟨bbw2 HB GE173 GE178⟩⟩
/-! ### spec_l02Kind: function 53 -/
def spec_l02Kind.f (k : Nat) (a0_0 : Int) (a0_1 : Int) (a0_2 : Int) (a0_3 : Int) : Option (Int) := (spec_l02Det.f a0_0 a0_1 a0_2 a0_3).bind fun t189 => (if t189 = 1 then ((spec_l02Order.f k a0_0 a0_1 a0_2 a0_3).bind fun t190 => (some t190)) else ((spec_l02Order.f k a0_0 a0_1 a0_2 a0_3).bind fun t191 => (if t191 = 2 then (some (-2)) else (some 0))))
set_option maxHeartbeats 8000000 in
set_option maxRecDepth 100000 in
theorem spec_l02Kind.calls (k : Nat) (a0_0 : Int) (a0_1 : Int) (a0_2 : Int) (a0_3 : Int) (r : Int) (w : World) (h : spec_l02Kind.f k a0_0 a0_1 a0_2 a0_3 = some r) :
  Calls Tryd.prog 53 #[.agg #[.int .i64 a0_0, .int .i64 a0_1, .int .i64 a0_2, .int .i64 a0_3]] w fun e w' => e = .returned (.int .i64 r) ∧ Below w.heap.size w w' := by
 have hu31 := Tryd.underlying31
 have HB := asd (Below.refl w.heap.size w)
 have H : ((spec_l02Det.f a0_0 a0_1 a0_2 a0_3).bind fun t189 => (if t189 = 1 then ((spec_l02Order.f k a0_0 a0_1 a0_2 a0_3).bind fun t190 => (some t190)) else ((spec_l02Order.f k a0_0 a0_1 a0_2 a0_3).bind fun t191 => (if t191 = 2 then (some (-2)) else (some 0))))) = some r := h
 clear h
 obtain ⟨t189, A2, H⟩ := ob H
 try dsimp only at H
 by_cases c3 : t189 = 1
 rw [if_pos c3] at H
 have c3b0 : (t189 == 1) = true := beq_iff_eq.mpr c3
 have c3b1 : (t189 != 1) = false := bne_eq_false_iff_eq.mpr c3
 clear c3
 obtain ⟨t190, A4, H⟩ := ob H
 try dsimp only at H
 obtain rfl := Option.some.inj H
 rotate_left
 rw [if_neg c3] at H
 have c3b0 : (t189 == 1) = false := beq_eq_false_iff_ne.mpr c3
 have c3b1 : (t189 != 1) = true := bne_iff_ne.mpr c3
 obtain ⟨t191, A10, H⟩ := ob H
 try dsimp only at H
 by_cases c11 : t191 = 2
 rw [if_pos c11] at H
 have c11b0 : (t191 == 2) = true := beq_iff_eq.mpr c11
 have c11b1 : (t191 != 2) = false := bne_eq_false_iff_eq.mpr c11
 clear c11
 obtain rfl := Option.some.inj H
 rotate_left
 rw [if_neg c11] at H
 have c11b0 : (t191 == 2) = false := beq_eq_false_iff_ne.mpr c11
 have c11b1 : (t191 != 2) = true := bne_iff_ne.mpr c11
 obtain rfl := Option.some.inj H
 rotate_left
 all_goals
  go_enter Tryd.func53, Tryd.ntmps53
  go_wp2_with (first | ((with_reducible refine gd 1 rfl ?_); refine bx #[.int .i64 a0_0, .int .i64 a0_1, .int .i64 a0_2, .int .i64 a0_3] 31 ?_; intro gb188 hg w5 BK188 hb; have GE188 := ngw0 hg HB; replace HB := bS0 HB hb; clear hb hg; obtain ⟨hcz6_0, hcz6_1, hcz6_2, hcz6_3, hfz6_0, hfz6_1, hfz6_2, hfz6_3⟩ := bz4 BK188) | ((with_reducible refine gate_callee (f := 75) rfl ?_); refine gl 5 Tryd.func75 #[.agg #[.int .i64 a0_0, .int .i64 a0_1, .int .i64 a0_2, .int .i64 a0_3]] ?_; (with_reducible refine (spec_l02Det.calls _ _ _ _ _ _ A2.out).mono ?_); rintro e w7 ⟨rfl, hb⟩; refine ⟨_, rfl, ?_⟩; replace BK188 := bB BK188 hb; replace HB := bS1 HB GE188 hb; (try clear hb); obtain ⟨hcz8_0, hcz8_1, hcz8_2, hcz8_3, hfz8_0, hfz8_1, hfz8_2, hfz8_3⟩ := bz4 BK188) | ((with_reducible refine gate_callee (f := 76) rfl ?_); refine gl 8 Tryd.func76 #[.agg #[.int .i64 a0_0, .int .i64 a0_1, .int .i64 a0_2, .int .i64 a0_3]] ?_; (with_reducible refine (spec_l02Order.calls _ _ _ _ _ _ _ A4.out).mono ?_); rintro e w9 ⟨rfl, hb⟩; refine ⟨_, rfl, ?_⟩; replace BK188 := bB BK188 hb; replace HB := bS1 HB GE188 hb; (try clear hb)) | ((with_reducible refine gate_callee (f := 76) rfl ?_); refine gl 11 Tryd.func76 #[.agg #[.int .i64 a0_0, .int .i64 a0_1, .int .i64 a0_2, .int .i64 a0_3]] ?_; (with_reducible refine (spec_l02Order.calls _ _ _ _ _ _ _ A10.out).mono ?_); rintro e w16 ⟨rfl, hb⟩; refine ⟨_, rfl, ?_⟩; replace BK188 := bB BK188 hb; replace HB := bS1 HB GE188 hb; (try clear hb)))
  go_ret
  exact er (bbw1 HB GE188)
/-! ### spec_IsMotion: function 29 -/
def spec_IsMotion.f (k : Nat) (a0_0 : Int) (a0_1 : Int) (a0_2 : Int) (a0_3 : Int) (a0_4 : Int) (a0_5 : Int) : Option (Bool) := (spec_IsMat.f a0_0 a0_1 a0_2 a0_3).bind fun t193 => (if t193 = true then ((spec_l02Kind.f k a0_0 a0_1 a0_2 a0_3).bind fun t194 => (if t194 = 0 then (some false) else ((spec_IsVec.f a0_4 a0_5).bind fun t195 => (some t195)))) else (some false))
set_option maxHeartbeats 8000000 in
set_option maxRecDepth 100000 in
theorem spec_IsMotion.calls (k : Nat) (a0_0 : Int) (a0_1 : Int) (a0_2 : Int) (a0_3 : Int) (a0_4 : Int) (a0_5 : Int) (r : Bool) (w : World) (h : spec_IsMotion.f k a0_0 a0_1 a0_2 a0_3 a0_4 a0_5 = some r) :
  Calls Tryd.prog 29 #[.agg #[.int .i64 a0_0, .int .i64 a0_1, .int .i64 a0_2, .int .i64 a0_3, .int .i64 a0_4, .int .i64 a0_5]] w fun e w' => e = .returned (.bool r) ∧ Below w.heap.size w w' := by
 have hu35 := Tryd.underlying35
 have hu31 := Tryd.underlying31
 have hu33 := Tryd.underlying33
 have HB := asd (Below.refl w.heap.size w)
 have H : ((spec_IsMat.f a0_0 a0_1 a0_2 a0_3).bind fun t193 => (if t193 = true then ((spec_l02Kind.f k a0_0 a0_1 a0_2 a0_3).bind fun t194 => (if t194 = 0 then (some false) else ((spec_IsVec.f a0_4 a0_5).bind fun t195 => (some t195)))) else (some false))) = some r := h
 clear h
 obtain ⟨t193, A2, H⟩ := ob H
 try dsimp only at H
 by_cases c3 : t193 = true
 ·subst c3
  replace H := ifT H
  obtain ⟨t194, A4, H⟩ := ob H
  try dsimp only at H
  by_cases c5 : t194 = 0
  ·rw [if_pos c5] at H
   have c5b0 : (t194 == 0) = true := beq_iff_eq.mpr c5
   have c5b1 : (t194 != 0) = false := bne_eq_false_iff_eq.mpr c5
   clear c5
   obtain rfl := Option.some.inj H
   go_enter Tryd.func29, Tryd.ntmps29
   go_wp2_with (first | ((with_reducible refine gd 1 rfl ?_); refine bx #[.int .i64 a0_0, .int .i64 a0_1, .int .i64 a0_2, .int .i64 a0_3, .int .i64 a0_4, .int .i64 a0_5] 35 ?_; intro gb192 hg w6 BK192 hb; have GE192 := ngw0 hg HB; replace HB := bS0 HB hb; clear hb hg; obtain ⟨hcz7_0, hcz7_1, hcz7_2, hcz7_3, hcz7_4, hcz7_5, hfz7_0, hfz7_1, hfz7_2, hfz7_3, hfz7_4, hfz7_5⟩ := bz6 BK192) | ((with_reducible refine gate_callee (f := 51) rfl ?_); refine gl 5 Tryd.func51 #[.agg #[.int .i64 a0_0, .int .i64 a0_1, .int .i64 a0_2, .int .i64 a0_3]] ?_; (with_reducible refine (spec_IsMat.calls _ _ _ _ _ _ A2.out).mono ?_); rintro e w8 ⟨rfl, hb⟩; refine ⟨_, rfl, ?_⟩; replace BK192 := bB BK192 hb; replace HB := bS1 HB GE192 hb; (try clear hb); obtain ⟨hcz9_0, hcz9_1, hcz9_2, hcz9_3, hcz9_4, hcz9_5, hfz9_0, hfz9_1, hfz9_2, hfz9_3, hfz9_4, hfz9_5⟩ := bz6 BK192) | (go_at_call 53; (with_reducible refine (spec_l02Kind.calls _ _ _ _ _ _ _ A4.out).mono ?_); rintro e w10 ⟨rfl, hb⟩; replace BK192 := bB BK192 hb; replace HB := bS1 HB GE192 hb; (try clear hb)))
   go_ret
   exact er (bbw1 HB GE192)
  ·rw [if_neg c5] at H
   have c5b0 : (t194 == 0) = false := beq_eq_false_iff_ne.mpr c5
   have c5b1 : (t194 != 0) = true := bne_iff_ne.mpr c5
   obtain ⟨t195, A11, H⟩ := ob H
   try dsimp only at H
   obtain rfl := Option.some.inj H
   go_enter Tryd.func29, Tryd.ntmps29
   go_wp2_with (first | ((with_reducible refine gd 1 rfl ?_); refine bx #[.int .i64 a0_0, .int .i64 a0_1, .int .i64 a0_2, .int .i64 a0_3, .int .i64 a0_4, .int .i64 a0_5] 35 ?_; intro gb192 hg w12 BK192 hb; have GE192 := ngw0 hg HB; replace HB := bS0 HB hb; clear hb hg; obtain ⟨hcz13_0, hcz13_1, hcz13_2, hcz13_3, hcz13_4, hcz13_5, hfz13_0, hfz13_1, hfz13_2, hfz13_3, hfz13_4, hfz13_5⟩ := bz6 BK192) | ((with_reducible refine gate_callee (f := 51) rfl ?_); refine gl 5 Tryd.func51 #[.agg #[.int .i64 a0_0, .int .i64 a0_1, .int .i64 a0_2, .int .i64 a0_3]] ?_; (with_reducible refine (spec_IsMat.calls _ _ _ _ _ _ A2.out).mono ?_); rintro e w14 ⟨rfl, hb⟩; refine ⟨_, rfl, ?_⟩; replace BK192 := bB BK192 hb; replace HB := bS1 HB GE192 hb; (try clear hb); obtain ⟨hcz15_0, hcz15_1, hcz15_2, hcz15_3, hcz15_4, hcz15_5, hfz15_0, hfz15_1, hfz15_2, hfz15_3, hfz15_4, hfz15_5⟩ := bz6 BK192) | (go_at_call 53; (with_reducible refine (spec_l02Kind.calls _ _ _ _ _ _ _ A4.out).mono ?_); rintro e w16 ⟨rfl, hb⟩; replace BK192 := bB BK192 hb; replace HB := bS1 HB GE192 hb; (try clear hb); obtain ⟨hcz17_0, hcz17_1, hcz17_2, hcz17_3, hcz17_4, hcz17_5, hfz17_0, hfz17_1, hfz17_2, hfz17_3, hfz17_4, hfz17_5⟩ := bz6 BK192) | (go_at_call 52; (with_reducible refine (spec_IsVec.calls _ _ _ _ A11.out).mono ?_); rintro e w18 ⟨rfl, hb⟩; replace BK192 := bB BK192 hb; replace HB := bS1 HB GE192 hb; (try clear hb)))
   go_ret
   exact er (bbw1 HB GE192)
 ·replace c3 := Bool.eq_false_iff.mpr c3
  subst c3
  replace H := ifF H
  obtain rfl := Option.some.inj H
  go_enter Tryd.func29, Tryd.ntmps29
  go_wp2_with (first | ((with_reducible refine gd 1 rfl ?_); refine bx #[.int .i64 a0_0, .int .i64 a0_1, .int .i64 a0_2, .int .i64 a0_3, .int .i64 a0_4, .int .i64 a0_5] 35 ?_; intro gb192 hg w19 BK192 hb; have GE192 := ngw0 hg HB; replace HB := bS0 HB hb; clear hb hg; obtain ⟨hcz20_0, hcz20_1, hcz20_2, hcz20_3, hcz20_4, hcz20_5, hfz20_0, hfz20_1, hfz20_2, hfz20_3, hfz20_4, hfz20_5⟩ := bz6 BK192) | ((with_reducible refine gate_callee (f := 51) rfl ?_); refine gl 5 Tryd.func51 #[.agg #[.int .i64 a0_0, .int .i64 a0_1, .int .i64 a0_2, .int .i64 a0_3]] ?_; (with_reducible refine (spec_IsMat.calls _ _ _ _ _ _ A2.out).mono ?_); rintro e w21 ⟨rfl, hb⟩; refine ⟨_, rfl, ?_⟩; replace BK192 := bB BK192 hb; replace HB := bS1 HB GE192 hb; (try clear hb)))
  go_ret
  exact er (bbw1 HB GE192)

end Go.Proofs.YtfhbhjlgepjlfaaDoor.PM
