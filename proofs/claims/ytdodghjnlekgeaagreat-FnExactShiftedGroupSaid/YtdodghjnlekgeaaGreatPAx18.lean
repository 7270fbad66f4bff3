/- Walks written by program: each Go function that the law reaches comes to the plain function beside it. -/
import Derived.Test.YtdodghjnlekgeaaGreatPAx0
import Derived.Test.YtdodghjnlekgeaaGreatPAx5
import Derived.Test.YtdodghjnlekgeaaGreatPAx6
import Derived.Test.YtdodghjnlekgeaaGreatPAx12
import Derived.Test.YtdodghjnlekgeaaGreatPAx17
namespace Go.Proofs.YtdodghjnlekgeaaGreat.PA
open Go.RowKit Go.Proofs.YtdodghjnlekgeaaGreatW.PrintWords Go.Proofs.YtdodghjnlekgeaaGreatW.PrintLast Go.Proofs.YtdodghjnlekgeaaGreatW.PrintMore
attribute [local go_sem] max2_int min2_int max_two min_two max_three min_three max_four min_four   -- for this text's walks alone
set_option linter.unusedVariables false
set_option linter.unusedSimpArgs false

/-! ### laws_FnExactShiftedGroup: function 4 -/
mutual
def laws_FnExactShiftedGroup.j0 : Nat → Int → List (S44) → List (S48) → Int → List (S48) → List (S48) → Int → Bool → Int → Int → Int → Int → Int → Option (Bool)
 | 0, _, _, _, _, _, _, _, _, _, _, _, _, _ => none
 | k + 1, x0, x2, x10, x11, x12, x13, x14, x56, x550000, x550001, x550002, x551000, x551001 => if x56 = true then (some false) else ((laws_toMotionS.f k x2).bind fun t577 => ((laws_eqMotionS.f k x12 t577).bind fun t580 => (if t580 = true then ((laws_markMotionS.f k x12 1).bind fun bt581 => (if bt581.1 < 0 then (laws_FnExactShiftedGroup.j1 k x0 x2 x10 x11 x13 true x550000 x550001 x550002 x551000 x551001) else ((laws_eqMotionS.f k x13 x10).bind fun t583 => (if t583 = true then (laws_FnExactShiftedGroup.j1 k x0 x2 x10 x11 x13 (x14 != x11) x550000 x550001 x550002 x551000 x551001) else (laws_FnExactShiftedGroup.j1 k x0 x2 x10 x11 x13 true x550000 x550001 x550002 x551000 x551001))))) else (some false))))
def laws_FnExactShiftedGroup.j1 : Nat → Int → List (S44) → List (S48) → Int → List (S48) → Bool → Int → Int → Int → Int → Int → Option (Bool)
 | 0, _, _, _, _, _, _, _, _, _, _, _ => none
 | k + 1, x0, x2, x10, x11, x13, x77, x550000, x550001, x550002, x551000, x551001 => if x77 = true then (some false) else ((laws_markMotionS.f k x13 1).bind fun bt584 => ((laws_heldMotionS.f k bt584.2 1).bind fun t586 => (if t586 < 0 then (some false) else (if t586 = bt584.1 then ((laws_toLattice.f x550000 x550001 x550002).bind fun bt587 => ((laws_toMotionS.f k x2).bind fun t590 => ((laws_toVec.f x551000 x551001).bind fun bt593 => ((impl_ShiftedGroup.f k x0 bt587.1 bt587.2.1 bt587.2.2 t590 bt593.1 bt593.2).bind fun bt595 => ((laws_eqMotionS.f k bt595.1 x10).bind fun t599 => (if t599 = true then (laws_FnExactShiftedGroup.j2 k bt584.2 bt584.1 (bt595.2 != x11)) else (laws_FnExactShiftedGroup.j2 k bt584.2 bt584.1 true))))))) else (some false)))))
def laws_FnExactShiftedGroup.j2 : Nat → List (S48) → Int → Bool → Option (Bool)
 | 0, _, _, _ => none
 | k + 1, x13, x16, x108 => if x108 = true then (some false) else ((laws_heldMotionS.f k x13 1).bind fun t600 => (if t600 < 0 then (some false) else (if t600 = x16 then (some true) else (some false))))
end
def laws_FnExactShiftedGroup.f (k : Nat) (a0 : Int) (a1_0 : Int) (a1_1 : Int) (a1_2 : Int) (l2 : List (S44)) (a3_0 : Int) (a3_1 : Int) : Option (Bool) := (laws_szMotionS.f l2 1048576).bind fun t551 => (if t551 < 0 then (some true) else ((laws_toLattice.f a1_0 a1_1 a1_2).bind fun bt552 => ((laws_toMotionS.f k l2).bind fun t555 => ((laws_toVec.f a3_0 a3_1).bind fun bt558 => ((spec_ShiftedGroup.f k a0 bt552.1 bt552.2.1 bt552.2.2 t555 bt558.1 bt558.2).bind fun bt560 => ((laws_toMotionS.f k l2).bind fun t564 => ((laws_toLattice.f a1_0 a1_1 a1_2).bind fun bt567 => ((laws_toVec.f a3_0 a3_1).bind fun bt570 => ((impl_ShiftedGroup.f k a0 bt567.1 bt567.2.1 bt567.2.2 t564 bt570.1 bt570.2).bind fun bt572 => ((laws_eqMotionS.f k bt572.1 bt560.1).bind fun t576 => (if t576 = true then (laws_FnExactShiftedGroup.j0 k a0 l2 bt560.1 bt560.2 t564 bt572.1 bt572.2 (bt572.2 != bt560.2) a1_0 a1_1 a1_2 a3_0 a3_1) else (laws_FnExactShiftedGroup.j0 k a0 l2 bt560.1 bt560.2 t564 bt572.1 bt572.2 true a1_0 a1_1 a1_2 a3_0 a3_1))))))))))))
def laws_FnExactShiftedGroup.T5 : Bool × List (List Nat × List Nat) := (true, [([], []), ([], []), ([1], [1]), ([], []), ([3, 2], [3]), ([], []), ([5, 4], [5]), ([0, 2, 4, 6, 6], [0, 2, 4, 6]), ([7], [7]), ([8], [8]), ([8], [8]), ([9, 7, 0, 1, 2, 3, 4, 5, 6, 7, 8, 9], [9]), ([10, 11, 0, 1, 2, 3, 4, 5, 6, 7, 8, 9, 10, 11], [10])])
def laws_FnExactShiftedGroup.B5 : List Nat := [0, 0, 2, 0, 14, 0, 62, 127, 255, 511, 511, 1023, 4095]
theorem laws_FnExactShiftedGroup.tab5 : rtab .any (opsOf Tryz.f4 5) = laws_FnExactShiftedGroup.T5 := by kernel_rfl
theorem laws_FnExactShiftedGroup.bits5 : waitsOk laws_FnExactShiftedGroup.T5.2 laws_FnExactShiftedGroup.B5 = true := by kernel_rfl
def laws_FnExactShiftedGroup.T7 : Bool × List (List Nat × List Nat) := (true, [([], []), ([], []), ([1], [1]), ([], []), ([], []), ([4, 2], [4]), ([0, 2, 3, 5, 5], [0, 2, 3, 5]), ([6], [6]), ([7], [7]), ([7], [7]), ([8, 6, 0, 1, 2, 3, 4, 5, 6, 7, 8], [8]), ([9, 10, 0, 1, 2, 3, 4, 5, 6, 7, 8, 9, 10], [9])])
def laws_FnExactShiftedGroup.B7 : List Nat := [0, 0, 2, 0, 0, 22, 63, 127, 255, 255, 511, 2047]
theorem laws_FnExactShiftedGroup.tab7 : rtab .any (opsOf Tryz.f4 7) = laws_FnExactShiftedGroup.T7 := by kernel_rfl
theorem laws_FnExactShiftedGroup.bits7 : waitsOk laws_FnExactShiftedGroup.T7.2 laws_FnExactShiftedGroup.B7 = true := by kernel_rfl
def laws_FnExactShiftedGroup.T24 : Bool × List (List Nat × List Nat) := (true, [([], []), ([], []), ([1], [1]), ([], []), ([3, 2], [3]), ([], []), ([5, 4], [5]), ([0, 2, 4, 6, 6], [0, 2, 4, 6]), ([7], [7]), ([8], [8]), ([8], [8]), ([9, 7, 0, 1, 2, 3, 4, 5, 6, 7, 8, 9], [9]), ([10, 11, 0, 1, 2, 3, 4, 5, 6, 7, 8, 9, 10, 11], [10])])
def laws_FnExactShiftedGroup.B24 : List Nat := [0, 0, 2, 0, 14, 0, 62, 127, 255, 511, 511, 1023, 4095]
theorem laws_FnExactShiftedGroup.tab24 : rtab .any (opsOf Tryz.f4 24) = laws_FnExactShiftedGroup.T24 := by kernel_rfl
theorem laws_FnExactShiftedGroup.bits24 : waitsOk laws_FnExactShiftedGroup.T24.2 laws_FnExactShiftedGroup.B24 = true := by kernel_rfl
set_option maxHeartbeats 8000000 in
set_option maxRecDepth 100000 in
theorem laws_FnExactShiftedGroup.calls (k : Nat) (a0 : Int) (a1_0 : Int) (a1_1 : Int) (a1_2 : Int) (A2 : Option Addr) (c2 : Nat) (l2 : List (S44)) (a3_0 : Int) (a3_1 : Int) (w : World) (hr2 : Kd.C k44 w A2 l2.length l2) (hc2 : l2.length ≤ c2) (h : laws_FnExactShiftedGroup.f k a0 a1_0 a1_1 a1_2 l2 a3_0 a3_1 = some true) :
  Calls Tryz.prog 4 #[.int .i64 a0, .agg #[.int .i64 a1_0, .int .i64 a1_1, .int .i64 a1_2], .slice A2 l2.length c2, .agg #[.int .i64 a3_0, .int .i64 a3_1]] w fun e w' => e = .returned (.bool true) ∧ Below w.heap.size w w' := by
 have hu23 := Tryz.underlying23
 have hu36 := Tryz.underlying36
 have HR2 := Aside0.mk hr2
 have HC2 := Aside0.mk hc2
 clear hr2 hc2
 have HB := asd (Below.refl w.heap.size w)
 have H : ((laws_szMotionS.f l2 1048576).bind fun t551 => (if t551 < 0 then (some true) else ((laws_toLattice.f a1_0 a1_1 a1_2).bind fun bt552 => ((laws_toMotionS.f k l2).bind fun t555 => ((laws_toVec.f a3_0 a3_1).bind fun bt558 => ((spec_ShiftedGroup.f k a0 bt552.1 bt552.2.1 bt552.2.2 t555 bt558.1 bt558.2).bind fun bt560 => ((laws_toMotionS.f k l2).bind fun t564 => ((laws_toLattice.f a1_0 a1_1 a1_2).bind fun bt567 => ((laws_toVec.f a3_0 a3_1).bind fun bt570 => ((impl_ShiftedGroup.f k a0 bt567.1 bt567.2.1 bt567.2.2 t564 bt570.1 bt570.2).bind fun bt572 => ((laws_eqMotionS.f k bt572.1 bt560.1).bind fun t576 => (if t576 = true then (laws_FnExactShiftedGroup.j0 k a0 l2 bt560.1 bt560.2 t564 bt572.1 bt572.2 (bt572.2 != bt560.2) a1_0 a1_1 a1_2 a3_0 a3_1) else (laws_FnExactShiftedGroup.j0 k a0 l2 bt560.1 bt560.2 t564 bt572.1 bt572.2 true a1_0 a1_1 a1_2 a3_0 a3_1))))))))))))) = some true := h
 clear h
 obtain ⟨t551, A5, H⟩ := ob H
 try dsimp only at H
 by_cases c6 : t551 < 0
 ·rw [if_pos c6] at H
  have c6b0 := decide_eq_true c6
  clear c6
  clear H
  go_enter Tryz.func4, Tryz.ntmps4
  go_wp2_with (first | ((with_reducible refine gd 5 rfl ?_); refine bx #[.int .i64 a1_0, .int .i64 a1_1, .int .i64 a1_2] 23 ?_; intro gb549 hg w7 BK549 hb; have GE549 := ngw0 hg HB; replace HB := bS0 HB hb; clear hb hg) | ((with_reducible refine gd 7 rfl ?_); refine bx #[.int .i64 a3_0, .int .i64 a3_1] 36 ?_; intro gb550 hg w8 BK550 hb; have GE550 := ngw1 hg HB GE549; replace HB := bS1 HB GE549 hb; have NB549_550 := nlt hg BK549; have NB550_549 := nsy (nlt hg BK549); replace BK549 := bB BK549 hb; clear hb hg) | ((with_reducible refine gate_callee (f := 8) rfl ?_); refine gl 22 Tryz.func8 #[.slice A2 l2.length c2, .int .i64 1048576] ?_; (with_reducible refine (laws_szMotionS.calls _ _ _ _ _ _ ?side1 ?side2 A5.out).mono ?_); (case side1 => exact ks (Kd.C_below HR2.out HB.out)); (case side2 => exact HC2.out); rintro e w' ⟨rfl, ⟨nd, rfl⟩⟩; refine ⟨_, rfl, ?_⟩))
  go_ret
  exact er (bbw2 HB GE549 GE550)
 ·rw [if_neg c6] at H
  have c6b0 := decide_eq_false c6
  clear c6
  obtain ⟨⟨t552, t553, t554⟩, A9, H⟩ := ob H
  try dsimp only at H
  obtain ⟨t555, A10, H⟩ := ob H
  try dsimp only at H
  obtain ⟨⟨t558, t559⟩, A11, H⟩ := ob H
  try dsimp only at H
  obtain ⟨⟨t560, t563⟩, A12, H⟩ := ob H
  try dsimp only at H
  obtain ⟨t564, A13, H⟩ := ob H
  try dsimp only at H
  obtain ⟨⟨t567, t568, t569⟩, A14, H⟩ := ob H
  try dsimp only at H
  obtain ⟨⟨t570, t571⟩, A15, H⟩ := ob H
  try dsimp only at H
  obtain ⟨⟨t572, t575⟩, A16, H⟩ := ob H
  try dsimp only at H
  have HC17 := Aside0.mk H
  clear H
  go_enter Tryz.func4, Tryz.ntmps4
  try go_wp2_with (first | ((with_reducible refine gd 5 rfl ?_); refine bx #[.int .i64 a1_0, .int .i64 a1_1, .int .i64 a1_2] 23 ?_; intro gb549 hg w18 BK549 hb; have GE549 := ngw0 hg HB; replace HB := bS0 HB hb; clear hb hg) | ((with_reducible refine gd 7 rfl ?_); refine bx #[.int .i64 a3_0, .int .i64 a3_1] 36 ?_; intro gb550 hg w19 BK550 hb; have GE550 := ngw1 hg HB GE549; replace HB := bS1 HB GE549 hb; have NB549_550 := nlt hg BK549; have NB550_549 := nsy (nlt hg BK549); replace BK549 := bB BK549 hb; clear hb hg) | ((with_reducible refine gate_callee (f := 8) rfl ?_); refine gl 22 Tryz.func8 #[.slice A2 l2.length c2, .int .i64 1048576] ?_; (with_reducible refine (laws_szMotionS.calls _ _ _ _ _ _ ?side1 ?side2 A5.out).mono ?_); (case side1 => exact ks (Kd.C_below HR2.out HB.out)); (case side2 => exact HC2.out); rintro e w' ⟨rfl, ⟨nd, rfl⟩⟩; refine ⟨_, rfl, ?_⟩))
  (try (rw [drewN_self w19]; generalize hq_ : World.drewN w19 _ = w19; have n0_ : Aside0 (w19.heap[gb549]? = some (.cells #[.int .i64 a1_0, .int .i64 a1_1, .int .i64 a1_2] 23 (0, 0))) := ⟨by rw [← hq_]; exact (bkp BK549)⟩; have n1_ : Aside0 (w19.heap[gb550]? = some (.cells #[.int .i64 a3_0, .int .i64 a3_1] 36 (0, 0))) := ⟨by rw [← hq_]; exact (bkp BK550)⟩; have n2_ : Aside0 (Below w.heap.size w w19) := ⟨by rw [← hq_]; exact (bbw2 HB GE549 GE550)⟩; clear BK549 BK550 HB hq_; have BK549 := n0_; have BK550 := n1_; have HB := n2_; clear n0_ n1_ n2_))
  replace BK549 := asd (blk_drew BK549.out)
  replace BK550 := asd (blk_drew BK550.out)
  replace HB := asd (below_drew1 HB.out)
  refine sh 13 (cb3 BK549 (eb2 BK550)) (fun hHeld => ?_); refine with_tabW laws_FnExactShiftedGroup.tab5 laws_FnExactShiftedGroup.bits5 (fun HT_ HW_ => ?_)
  generalize w19.drew = w20 at BK549 BK550 HB hHeld ⊢
  refine pu 0 (some 26) (bT 13 1) HT_ ?_
  refine pu 3 (some 29) (bs 13 9) HT_ ?_
  refine ta 1 (some 27) (bs 13 11) HT_ HW_ hHeld ?_
  refine ta 5 (some 31) (bs 13 43) HT_ HW_ hHeld ?_
  refine ro 2 (some 28) (bs 13 47) HT_ (fun K hK => ?_)
  refine gs Tryz.func10 #[.agg #[.int .i64 a1_0, .int .i64 a1_1, .int .i64 a1_2]] ?_
  with_reducible refine (laws_toLattice.calls _ _ _ _ _ _ _ A9.out).mono ?_
  rintro e w21 ⟨rfl, hb⟩
  refine ⟨_, rfl, ?_⟩
  replace BK549 := bB BK549 hb
  replace BK550 := bB BK550 hb
  replace HB := bS2 HB GE549 GE550 hb
  (try clear hb)
  (try clear hb2)
  (try clear hk)
  (try clear hi)
  refine hK.out _ _ (cb3 BK549 (eb2 BK550)).out (fun hHeld => ?_)
  clear hK K
  refine norm_ (a' := ?_) ?_ ?_
  rotate_left
  ·show Act.put _ (some 28) _ = _
   simp only [Act.put, sA, sB, sC, i64_w, i32_w]
   rfl
  refine ro 4 (some 30) (bT 13 6) HT_ (fun K hK => ?_)
  refine gs Tryz.func11 #[.slice A2 l2.length c2] ?_
  with_reducible refine (laws_toMotionS.calls _ _ _ _ _ _ ?side1 ?side2 A10.out).mono ?_
  (case side1 => exact ks (Kd.C_below HR2.out HB.out))
  (case side2 => exact HC2.out)
  rintro e w22 ⟨v556, rfl, ho0, hb⟩
  refine ⟨_, rfl, ?_⟩
  have HO557 := asd (Kd.R_lower ho0 (bsz2 HB GE549 GE550))
  replace BK549 := bB BK549 hb
  replace BK550 := bB BK550 hb
  replace HB := bS2 HB GE549 GE550 hb
  (try clear hb)
  (try clear hb2)
  (try clear hk)
  (try clear hi)
  (try clear ho0)
  refine hK.out _ _ (cb3 BK549 (eb2 BK550)).out (fun hHeld => ?_)
  clear hK K
  refine norm_ (a' := ?_) ?_ ?_
  rotate_left
  ·show Act.put _ (some 30) _ = _
   simp only [Act.put, sA, sB, sC, i64_w, i32_w]
   rfl
  refine ro 6 (some 32) (bT 13 7) HT_ (fun K hK => ?_)
  refine gs Tryz.func17 #[.agg #[.int .i64 a3_0, .int .i64 a3_1]] ?_
  with_reducible refine (laws_toVec.calls _ _ _ _ _ A11.out).mono ?_
  rintro e w23 ⟨rfl, hb⟩
  refine ⟨_, rfl, ?_⟩
  replace HO557 := asd (Kd.R_below (kr HO557) hb)
  replace BK549 := bB BK549 hb
  replace BK550 := bB BK550 hb
  replace HB := bS2 HB GE549 GE550 hb
  (try clear hb)
  (try clear hb2)
  (try clear hk)
  (try clear hi)
  obtain ⟨Ao24, co24, eo24⟩ := Kd.R_slice HO557.out
  (first | subst eo24 | (injection eo24 with f1_ f2_ f3_; have f4_ := f1_.symm; have f5_ := f3_.symm; clear f1_ f2_ f3_; subst f4_; subst f5_))
  refine hK.out _ _ (cb3 BK549 (eb2 BK550)).out (fun hHeld => ?_)
  clear hK K
  refine norm_ (a' := ?_) ?_ ?_
  rotate_left
  ·show Act.put _ (some 32) _ = _
   simp only [Act.put, sA, sB, sC, i64_w, i32_w]
   rfl
  refine ro 7 (some 33) (bT 13 8) HT_ (fun K hK => ?_)
  refine gs Tryz.func16 #[.int .i64 a0, .agg #[.int .i64 t552, .int .i64 t553, .int .i64 t554], .slice Ao24 t555.length co24, .agg #[.int .i64 t558, .int .i64 t559]] ?_
  with_reducible refine (spec_ShiftedGroup.calls _ _ _ _ _ _ _ _ _ _ _ _ _ ?side1 ?side2 A12.out).mono ?_
  (case side1 => exact ks (Kd.R_reads' HO557.out).2.2)
  (case side2 => exact (Kd.R_reads' HO557.out).2.1)
  rintro e w25 ⟨v561, rfl, ho0, hb⟩
  refine ⟨_, rfl, ?_⟩
  have HO562 := asd (Kd.R_lower (Kd.R_new' ho0 (Kd.R_lt (kr HO557))) (bsz2 HB GE549 GE550))
  replace HO557 := asd (Kd.R_elder' (kr HO557) (Kd.R_base ho0) hb)
  replace BK549 := bB BK549 hb
  replace BK550 := bB BK550 hb
  replace HB := bS2 HB GE549 GE550 hb
  (try clear hb)
  (try clear hb2)
  (try clear hk)
  (try clear hi)
  (try clear ho0)
  refine hK.out _ _ (cb3 BK549 (eb2 BK550)).out (fun hHeld => ?_)
  clear hK K
  refine norm_ (a' := ?_) ?_ ?_
  rotate_left
  ·show Act.put _ (some 33) _ = _
   simp only [Act.put, sA, sB, sC, i64_w, i32_w]
   rfl
  refine pu 8 (some 25) (bT 13 9) HT_ ?_
  refine pu 9 (some 34) (bT 13 10) HT_ ?_
  refine pu 10 (some 35) (bT 13 11) HT_ ?_
  refine pu 11 (some 10) (bT 13 12) HT_ ?_
  refine pu 12 (some 11) (bT 13 13) HT_ ?_
  refine done_ (done_of HT_.out (by kernel_rfl)) ?_
  try go_wp2_with (first | ((with_reducible refine gate_callee (f := 11) rfl ?_); refine gl 37 Tryz.func11 #[.slice A2 l2.length c2] ?_; (with_reducible refine (laws_toMotionS.calls _ _ _ _ _ _ ?side1 ?side2 A13.out).mono ?_); (case side1 => exact ks (Kd.C_below HR2.out HB.out)); (case side2 => exact HC2.out); rintro e w26 ⟨v565, rfl, ho0, hb⟩; refine ⟨_, rfl, ?_⟩; have HO566 := asd (Kd.R_lower (Kd.R_new' (Kd.R_new' ho0 (Kd.R_lt (kr HO557))) (Kd.R_lt (kr HO562))) (bsz2 HB GE549 GE550)); replace HO557 := asd (Kd.R_elder' (kr HO557) (Kd.R_base ho0) hb); replace HO562 := asd (Kd.R_elder' (kr HO562) (Kd.R_base ho0) hb); replace BK549 := bB BK549 hb; replace BK550 := bB BK550 hb; replace HB := bS2 HB GE549 GE550 hb; (try clear hb); (try clear hb2); (try clear hk); (try clear hi); (try clear ho0)))
  replace HO557 := asd (Kd.R_drew HO557.out)
  replace HO562 := asd (Kd.R_drew HO562.out)
  replace HO566 := asd (Kd.R_drew HO566.out)
  replace BK549 := asd (blk_drew BK549.out)
  replace BK550 := asd (blk_drew BK550.out)
  replace HB := asd (below_drew1 HB.out)
  refine sh 12 (cb3 BK549 (eb2 BK550)) (fun hHeld => ?_); refine with_tabW laws_FnExactShiftedGroup.tab7 laws_FnExactShiftedGroup.bits7 (fun HT_ HW_ => ?_)
  generalize w26.drew = w27 at HO557 HO562 HO566 BK549 BK550 HB hHeld ⊢
  refine pu 0 (some 39) (bT 12 1) HT_ ?_
  refine pu 3 (some 42) (bs 12 9) HT_ ?_
  refine ta 1 (some 40) (bs 12 11) HT_ HW_ hHeld ?_
  refine ta 4 (some 43) (bs 12 27) HT_ HW_ hHeld ?_
  refine ro 2 (some 41) (bT 12 5) HT_ (fun K hK => ?_)
  refine gs Tryz.func10 #[.agg #[.int .i64 a1_0, .int .i64 a1_1, .int .i64 a1_2]] ?_
  with_reducible refine (laws_toLattice.calls _ _ _ _ _ _ _ A14.out).mono ?_
  rintro e w28 ⟨rfl, hb⟩
  refine ⟨_, rfl, ?_⟩
  replace HO557 := asd (Kd.R_below (kr HO557) hb)
  replace HO562 := asd (Kd.R_below (kr HO562) hb)
  replace HO566 := asd (Kd.R_below (kr HO566) hb)
  replace BK549 := bB BK549 hb
  replace BK550 := bB BK550 hb
  replace HB := bS2 HB GE549 GE550 hb
  (try clear hb)
  (try clear hb2)
  (try clear hk)
  (try clear hi)
  refine hK.out _ _ (cb3 BK549 (eb2 BK550)).out (fun hHeld => ?_)
  clear hK K
  refine norm_ (a' := ?_) ?_ ?_
  rotate_left
  ·show Act.put _ (some 41) _ = _
   simp only [Act.put, sA, sB, sC, i64_w, i32_w]
   rfl
  refine ro 5 (some 44) (bT 12 6) HT_ (fun K hK => ?_)
  refine gs Tryz.func17 #[.agg #[.int .i64 a3_0, .int .i64 a3_1]] ?_
  with_reducible refine (laws_toVec.calls _ _ _ _ _ A15.out).mono ?_
  rintro e w29 ⟨rfl, hb⟩
  refine ⟨_, rfl, ?_⟩
  replace HO557 := asd (Kd.R_below (kr HO557) hb)
  replace HO562 := asd (Kd.R_below (kr HO562) hb)
  replace HO566 := asd (Kd.R_below (kr HO566) hb)
  replace BK549 := bB BK549 hb
  replace BK550 := bB BK550 hb
  replace HB := bS2 HB GE549 GE550 hb
  (try clear hb)
  (try clear hb2)
  (try clear hk)
  (try clear hi)
  obtain ⟨Ao30, co30, eo30⟩ := Kd.R_slice HO566.out
  (first | subst eo30 | (injection eo30 with f1_ f2_ f3_; have f4_ := f1_.symm; have f5_ := f3_.symm; clear f1_ f2_ f3_; subst f4_; subst f5_))
  refine hK.out _ _ (cb3 BK549 (eb2 BK550)).out (fun hHeld => ?_)
  clear hK K
  refine norm_ (a' := ?_) ?_ ?_
  rotate_left
  ·show Act.put _ (some 44) _ = _
   simp only [Act.put, sA, sB, sC, i64_w, i32_w]
   rfl
  refine ro 6 (some 45) (bT 12 7) HT_ (fun K hK => ?_)
  refine gs Tryz.func18 #[.int .i64 a0, .agg #[.int .i64 t567, .int .i64 t568, .int .i64 t569], .slice Ao30 t564.length co30, .agg #[.int .i64 t570, .int .i64 t571]] ?_
  with_reducible refine (impl_ShiftedGroup.calls _ _ _ _ _ (fun k_ => some k_ = (.slice Ao30 t564.length co30 : Value).ownBlock) _ _ _ _ _ _ _ _ ?side1 A16.out).mono ?_
  (case side1 => exact Kd.R_V (Kd.R_tight rfl (Kd.R_types (Kd.R_types (HO566.out) BK549.out (by decide)) BK550.out (by decide))))
  rintro e w31 ⟨v573, rfl, ho0, hb⟩
  refine ⟨_, rfl, ?_⟩
  have HO574 := asd (Kd.R_lower (Kd.R_new' (Kd.R_new' (Kd.R_new' (Kd.R_mono (ok' := fun k_ => True) ho0 (fun _ hk_ => trivial)) (Kd.R_lt (kr HO557))) (Kd.R_lt (kr HO562))) (Kd.R_lt (kr HO566))) (bsz2 HB GE549 GE550))
  replace HO557 := asd (Kd.R_elder' (kr HO557) (Kd.R_base ho0) hb)
  replace HO562 := asd (Kd.R_elder' (kr HO562) (Kd.R_base ho0) hb)
  replace HO566 := asd (Kd.R_elder' (kr HO566) (Kd.R_base ho0) hb)
  replace BK549 := bB BK549 hb
  replace BK550 := bB BK550 hb
  replace HB := bS2 HB GE549 GE550 hb
  (try clear hb)
  (try clear hb2)
  (try clear hk)
  (try clear hi)
  (try clear ho0)
  refine hK.out _ _ (cb3 BK549 (eb2 BK550)).out (fun hHeld => ?_)
  clear hK K
  refine norm_ (a' := ?_) ?_ ?_
  rotate_left
  ·show Act.put _ (some 45) _ = _
   simp only [Act.put, sA, sB, sC, i64_w, i32_w]
   rfl
  refine pu 7 (some 38) (bT 12 8) HT_ ?_
  refine pu 8 (some 46) (bT 12 9) HT_ ?_
  refine pu 9 (some 47) (bT 12 10) HT_ ?_
  refine pu 10 (some 13) (bT 12 11) HT_ ?_
  refine pu 11 (some 14) (bT 12 12) HT_ ?_
  refine done_ (done_of HT_.out (by kernel_rfl)) ?_
  go_upto_region 8 with (fail)
  go_cut [56] (fun v56 wc => ∃ (kq : Nat) (x56_16 : Bool), v56 = .bool x56_16 ∧ Aside0 (laws_FnExactShiftedGroup.j0 kq a0 l2 t560 t563 t564 t572 t575 x56_16 a1_0 a1_1 a1_2 a3_0 a3_1 = some true) ∧ Aside0 (kq ≤ k) ∧ Aside0 (Kd.R k48 48 wc w.heap.size (fun k_ => some k_ ≠ ((.slice Ao30 t564.length co30) : Value).ownBlock ∧ some k_ ≠ (v573 : Value).ownBlock) v561 t560) ∧ Aside0 (Kd.R k48 48 wc w.heap.size (fun k_ => some k_ ≠ (v561 : Value).ownBlock ∧ some k_ ≠ (v573 : Value).ownBlock) (.slice Ao30 t564.length co30) t564) ∧ Aside0 (Kd.R k48 48 wc w.heap.size (fun k_ => some k_ ≠ (v561 : Value).ownBlock ∧ some k_ ≠ ((.slice Ao30 t564.length co30) : Value).ownBlock) v573 t572) ∧ Aside0 (wc.heap[gb549]? = some (.cells #[.int .i64 a1_0, .int .i64 a1_1, .int .i64 a1_2] 23 (0, 0))) ∧ Aside0 (wc.heap[gb550]? = some (.cells #[.int .i64 a3_0, .int .i64 a3_1] 36 (0, 0))) ∧ Aside0 (Below w.heap.size w wc))
  case first =>
   have H := HC17.out
   clear HC17
   obtain ⟨t576, A32, H⟩ := ob H
   try dsimp only at H
   by_cases c33 : t576 = true
   subst c33
   replace H := ifT H
   have H' := Aside0.mk H
   clear H
   rotate_left
   replace c33 := Bool.eq_false_iff.mpr c33
   subst c33
   replace H := ifF H
   have H' := Aside0.mk H
   clear H
   rotate_left
   all_goals
    obtain ⟨Ao34, co34, eo34⟩ := Kd.R_slice HO574.out
    subst eo34
    obtain ⟨Ao35, co35, eo35⟩ := Kd.R_slice HO562.out
    subst eo35
    go_wp2_with (first | ((with_reducible refine gate_callee (f := 13) rfl ?_); refine gl 50 Tryz.func13 #[.slice Ao34 t572.length co34, .slice Ao35 t560.length co35] ?_; (with_reducible refine (laws_eqMotionS.calls _ _ _ _ _ _ _ _ _ ?side1 ?side2 ?side3 ?side4 A32.out).mono ?_); (case side1 => exact ks (Kd.R_reads' HO574.out).2.2); (case side2 => exact (Kd.R_reads' HO574.out).2.1); (case side3 => exact ks (Kd.R_reads' HO562.out).2.2); (case side4 => exact (Kd.R_reads' HO562.out).2.1); rintro e w36 ⟨rfl, hb⟩; refine ⟨_, rfl, ?_⟩; replace HO557 := asd (Kd.R_below (kr HO557) hb); replace HO562 := asd (Kd.R_below (kr HO562) hb); replace HO566 := asd (Kd.R_below (kr HO566) hb); replace HO574 := asd (Kd.R_below (kr HO574) hb); replace BK549 := bB BK549 hb; replace BK550 := bB BK550 hb; replace HB := bS2 HB GE549 GE550 hb; (try clear hb)))
    go_meet
   ·case rel => exact ⟨_, ((t575 != t563)), (by first | rfl | (simp; done) | (simp [*]; done)), H', ⟨by first | omega | exact Nat.le_refl _⟩, ⟨by (with_reducible repeat (first | apply Kd.R_alloc | apply Kd.R_drewN | apply Kd.R_drew)); exact Kd.R_mono HO562.out (fun _ hk => ⟨hk.1.2, hk.2⟩)⟩, ⟨by (with_reducible repeat (first | apply Kd.R_alloc | apply Kd.R_drewN | apply Kd.R_drew)); exact Kd.R_mono HO566.out (fun _ hk => ⟨hk.1.2, hk.2⟩)⟩, ⟨by (with_reducible repeat (first | apply Kd.R_alloc | apply Kd.R_drewN | apply Kd.R_drew)); exact Kd.R_mono HO574.out (fun _ hk => ⟨hk.1.2, hk.2⟩)⟩, ⟨bkp BK549⟩, ⟨bkp BK550⟩, ⟨bbw2 HB GE549 GE550⟩⟩
   ·case rel => exact ⟨_, (true), (by first | rfl | (simp; done) | (simp [*]; done)), H', ⟨by first | omega | exact Nat.le_refl _⟩, ⟨by (with_reducible repeat (first | apply Kd.R_alloc | apply Kd.R_drewN | apply Kd.R_drew)); exact Kd.R_mono HO562.out (fun _ hk => ⟨hk.1.2, hk.2⟩)⟩, ⟨by (with_reducible repeat (first | apply Kd.R_alloc | apply Kd.R_drewN | apply Kd.R_drew)); exact Kd.R_mono HO566.out (fun _ hk => ⟨hk.1.2, hk.2⟩)⟩, ⟨by (with_reducible repeat (first | apply Kd.R_alloc | apply Kd.R_drewN | apply Kd.R_drew)); exact Kd.R_mono HO574.out (fun _ hk => ⟨hk.1.2, hk.2⟩)⟩, ⟨bkp BK549⟩, ⟨bkp BK550⟩, ⟨bbw2 HB GE549 GE550⟩⟩
  case rest =>
   clear HC17
   try clear c1
   try clear c2
   try clear p2
   try clear c3
   try clear c4
   try clear c6
   try clear c6b0
   try clear c8
   try clear c10
   try clear c11
   try clear c13
   try clear c16
   try clear c17
   try clear c18
   try clear c33
   obtain ⟨kq, x56_16, rfl, HA, HJ16, HO_10, HO_12, HO_13, BK549, BK550, HB⟩ := hcut
   cases kq with
   | zero => exact absurd HA.out (by simp [laws_FnExactShiftedGroup.j0])
   | succ kj16 =>
    have H := HA.out
    clear HA
    simp only [laws_FnExactShiftedGroup.j0] at H
    by_cases c40 : x56_16 = true
    ·subst c40
     replace H := ifT H
     exact absurd H (by simp)
    ·replace c40 := Bool.eq_false_iff.mpr c40
     subst c40
     replace H := ifF H
     obtain ⟨t577, A41, H⟩ := ob H
     try dsimp only at H
     obtain ⟨t580, A42, H⟩ := ob H
     try dsimp only at H
     by_cases c43 : t580 = true
     ·subst c43
      replace H := ifT H
      obtain ⟨⟨t581, t582⟩, A44, H⟩ := ob H
      try dsimp only at H
      have HC45 := Aside0.mk H
      clear H
      go_upto_region 14 with (first | ((with_reducible refine gate_callee (f := 11) rfl ?_); refine gl 59 Tryz.func11 #[.slice A2 l2.length c2] ?_; (with_reducible refine (laws_toMotionS.calls _ _ _ _ _ _ ?side1 ?side2 A41.out).mono ?_); (case side1 => exact ks (Kd.C_below HR2.out HB.out)); (case side2 => exact HC2.out); rintro e w46 ⟨v578, rfl, ho0, hb⟩; refine ⟨_, rfl, ?_⟩; have HO579 := asd (Kd.R_lower (Kd.R_new' (Kd.R_new' (Kd.R_new' ho0 (Kd.R_lt (kr HO_10))) (Kd.R_lt (kr HO_12))) (Kd.R_lt (kr HO_13))) (bsz2 HB GE549 GE550)); replace HO_10 := asd (Kd.R_elder' (kr HO_10) (Kd.R_base ho0) hb); replace HO_12 := asd (Kd.R_elder' (kr HO_12) (Kd.R_base ho0) hb); replace HO_13 := asd (Kd.R_elder' (kr HO_13) (Kd.R_base ho0) hb); replace BK549 := bB BK549 hb; replace BK550 := bB BK550 hb; replace HB := bS2 HB GE549 GE550 hb; (try clear hb); (try clear hb2); (try clear hk); (try clear hi); (try clear ho0); obtain ⟨Ao47, co47, eo47⟩ := Kd.R_slice HO579.out; subst eo47) | ((with_reducible refine gate_callee (f := 13) rfl ?_); refine gl 60 Tryz.func13 #[.slice Ao30 t564.length co30, .slice Ao47 t577.length co47] ?_; (with_reducible refine (laws_eqMotionS.calls _ _ _ _ _ _ _ _ _ ?side1 ?side2 ?side3 ?side4 A42.out).mono ?_); (case side1 => exact ks (Kd.R_reads' HO_12.out).2.2); (case side2 => exact (Kd.R_reads' HO_12.out).2.1); (case side3 => exact ks (Kd.R_reads' HO579.out).2.2); (case side4 => exact (Kd.R_reads' HO579.out).2.1); rintro e w48 ⟨rfl, hb⟩; refine ⟨_, rfl, ?_⟩; replace HO_10 := asd (Kd.R_below (kr HO_10) hb); replace HO_12 := asd (Kd.R_below (kr HO_12) hb); replace HO_13 := asd (Kd.R_below (kr HO_13) hb); replace HO579 := asd (Kd.R_below (kr HO579) hb); replace BK549 := bB BK549 hb; replace BK550 := bB BK550 hb; replace HB := bS2 HB GE549 GE550 hb; (try clear hb)) | ((with_reducible refine gate_callee (f := 14) rfl ?_); refine gl 64 Tryz.func14 #[.slice Ao30 t564.length co30, .int .i64 1] ?_; (with_reducible refine (laws_markMotionS.calls _ (fun k_ => some k_ = (.slice Ao30 t564.length co30 : Value).ownBlock) _ _ _ _ _ w _ ?side1 ?side2 A44.out).mono ?_); (case side1 => repeat (first | (with_reducible first | exact HB.out | apply below_alloc | apply pw_below_drewN | apply below_drew1 | refine below_set ?_ GE549.out | refine below_set ?_ GE550.out) | exact HB.out)); (case side2 => exact Kd.R_tight rfl HO_12.out); rintro e w49 ⟨rfl, hy0, hb, hkp⟩; refine ⟨_, rfl, ?_⟩; replace HO_10 := asd (Kd.R_mono (ok' := fun k_ => some k_ ≠ (.slice Ao30 t564.length co30 : Value).ownBlock ∧ some k_ ≠ (v573 : Value).ownBlock ∧ some k_ ≠ (.slice Ao47 t577.length co47 : Value).ownBlock) (Kd.R_keptB (HO_10.out) hkp (fun k_ hk_ hs_ => (hk_.1.1) hs_)) (fun k_ hk_ => ⟨hk_.1.1.1, hk_.1.1.2, hk_.1.2⟩)); replace HO_13 := asd (Kd.R_mono (ok' := fun k_ => some k_ ≠ (v561 : Value).ownBlock ∧ some k_ ≠ (.slice Ao30 t564.length co30 : Value).ownBlock ∧ some k_ ≠ (.slice Ao47 t577.length co47 : Value).ownBlock) (Kd.R_keptB (HO_13.out) hkp (fun k_ hk_ hs_ => (hk_.1.2) hs_)) (fun k_ hk_ => ⟨hk_.1.1.1, hk_.1.1.2, hk_.1.2⟩)); replace BK549 := asd (blk_kept (bkp BK549) hkp (fun hs_ => (fun e_ => (Kd.R_ne HO_12.out BK549.out (by decide)) e_) hs_)); replace BK550 := asd (blk_kept (bkp BK550) hkp (fun hs_ => (fun e_ => (Kd.R_ne HO_12.out BK550.out (by decide)) e_) hs_)); replace HO_12 := asd (Kd.R_reok rfl hy0 (fun k_ e_ => HO_12.out.1 k_ e_)); replace HO579 := asd (Kd.R_mono (ok' := fun k_ => some k_ ≠ (v561 : Value).ownBlock ∧ some k_ ≠ (.slice Ao30 t564.length co30 : Value).ownBlock ∧ some k_ ≠ (v573 : Value).ownBlock) (Kd.R_keptB (HO579.out) hkp (fun k_ hk_ hs_ => (hk_.1.2) hs_)) (fun k_ hk_ => ⟨hk_.1.1.1.2, hk_.1.1.2, hk_.1.2⟩)); replace HB := asd (hb); (try clear hb); (try clear hkp); (try clear hy0)))
      (try simp only [Act.put, sA, sB, sC])
      go_cut [77] (fun v77 wc => ∃ (kq : Nat) (x77_44 : Bool), v77 = .bool x77_44 ∧ Aside0 (laws_FnExactShiftedGroup.j1 kq a0 l2 t560 t563 t572 x77_44 a1_0 a1_1 a1_2 a3_0 a3_1 = some true) ∧ Aside0 (kq ≤ kj16) ∧ Aside0 (Kd.R k48 48 wc w.heap.size (fun k_ => some k_ ≠ (v573 : Value).ownBlock) v561 t560) ∧ Aside0 (Kd.R k48 48 wc w.heap.size (fun k_ => some k_ ≠ (v561 : Value).ownBlock) v573 t572) ∧ Aside0 (wc.heap[gb549]? = some (.cells #[.int .i64 a1_0, .int .i64 a1_1, .int .i64 a1_2] 23 (0, 0))) ∧ Aside0 (wc.heap[gb550]? = some (.cells #[.int .i64 a3_0, .int .i64 a3_1] 36 (0, 0))) ∧ Aside0 (Below w.heap.size w wc))
      case first =>
       have H := HC45.out
       clear HC45
       by_cases c50 : t581 < 0
       ·rw [if_pos c50] at H
        have c50b0 := decide_eq_true c50
        clear c50
        (first | rw [c50b0] | (simp only [i64_w, i32_w]; rw [c50b0]) | skip)
        have H' := Aside0.mk H
        clear H
        go_wp2
        go_meet
        case rel => exact ⟨_, (true), (by first | rfl | (simp; done) | (simp [*]; done)), H', ⟨by have := HJ16.out; first | omega | exact Nat.le_refl _⟩, ⟨by (with_reducible repeat (first | apply Kd.R_alloc | apply Kd.R_drewN | apply Kd.R_drew)); exact Kd.R_mono HO_10.out (fun _ hk => hk.2.1)⟩, ⟨by (with_reducible repeat (first | apply Kd.R_alloc | apply Kd.R_drewN | apply Kd.R_drew)); exact Kd.R_mono HO_13.out (fun _ hk => hk.1)⟩, ⟨bkp BK549⟩, ⟨bkp BK550⟩, ⟨bbw2 HB GE549 GE550⟩⟩
       ·rw [if_neg c50] at H
        have c50b0 := decide_eq_false c50
        clear c50
        (first | rw [c50b0] | (simp only [i64_w, i32_w]; rw [c50b0]) | skip)
        obtain ⟨t583, A51, H⟩ := ob H
        try dsimp only at H
        by_cases c52 : t583 = true
        subst c52
        replace H := ifT H
        have H' := Aside0.mk H
        clear H
        rotate_left
        replace c52 := Bool.eq_false_iff.mpr c52
        subst c52
        replace H := ifF H
        have H' := Aside0.mk H
        clear H
        rotate_left
        all_goals
         obtain ⟨Ao53, co53, eo53⟩ := Kd.R_slice HO_13.out
         subst eo53
         obtain ⟨Ao54, co54, eo54⟩ := Kd.R_slice HO_10.out
         subst eo54
         go_wp2_with (first | (go_at_call 13; (with_reducible refine (laws_eqMotionS.calls _ _ _ _ _ _ _ _ _ ?side1 ?side2 ?side3 ?side4 A51.out).mono ?_); (case side1 => exact ks (Kd.R_reads' HO_13.out).2.2); (case side2 => exact (Kd.R_reads' HO_13.out).2.1); (case side3 => exact ks (Kd.R_reads' HO_10.out).2.2); (case side4 => exact (Kd.R_reads' HO_10.out).2.1); rintro e w55 ⟨rfl, hb⟩; replace HO_10 := asd (Kd.R_below (kr HO_10) hb); replace HO_12 := asd (Kd.R_below (kr HO_12) hb); replace HO_13 := asd (Kd.R_below (kr HO_13) hb); replace HO579 := asd (Kd.R_below (kr HO579) hb); replace BK549 := bB BK549 hb; replace BK550 := bB BK550 hb; replace HB := bS2 HB GE549 GE550 hb; (try clear hb)))
         go_meet
        ·case rel => exact ⟨_, ((t575 != t563)), (by first | rfl | (simp; done) | (simp [*]; done)), H', ⟨by have := HJ16.out; first | omega | exact Nat.le_refl _⟩, ⟨by (with_reducible repeat (first | apply Kd.R_alloc | apply Kd.R_drewN | apply Kd.R_drew)); exact Kd.R_mono HO_10.out (fun _ hk => hk.2.1)⟩, ⟨by (with_reducible repeat (first | apply Kd.R_alloc | apply Kd.R_drewN | apply Kd.R_drew)); exact Kd.R_mono HO_13.out (fun _ hk => hk.1)⟩, ⟨bkp BK549⟩, ⟨bkp BK550⟩, ⟨bbw2 HB GE549 GE550⟩⟩
        ·case rel => exact ⟨_, (true), (by first | rfl | (simp; done) | (simp [*]; done)), H', ⟨by have := HJ16.out; first | omega | exact Nat.le_refl _⟩, ⟨by (with_reducible repeat (first | apply Kd.R_alloc | apply Kd.R_drewN | apply Kd.R_drew)); exact Kd.R_mono HO_10.out (fun _ hk => hk.2.1)⟩, ⟨by (with_reducible repeat (first | apply Kd.R_alloc | apply Kd.R_drewN | apply Kd.R_drew)); exact Kd.R_mono HO_13.out (fun _ hk => hk.1)⟩, ⟨bkp BK549⟩, ⟨bkp BK550⟩, ⟨bbw2 HB GE549 GE550⟩⟩
      case rest =>
       clear HC45
       try clear c1
       try clear c2
       try clear p2
       try clear c3
       try clear c4
       try clear c5
       try clear c6
       try clear c6b0
       try clear c8
       try clear c10
       try clear c11
       try clear c13
       try clear c14
       try clear c16
       try clear c17
       try clear c18
       try clear c33
       try clear c40
       try clear c43
       try clear c50
       try clear c50b0
       try clear c52
       try clear p2
       obtain ⟨kq, x77_44, rfl, HA, HJ44, HO_10, HO_13, BK549, BK550, HB⟩ := hcut
       cases kq with
       | zero => exact absurd HA.out (by simp [laws_FnExactShiftedGroup.j1])
       | succ kj44 =>
        have H := HA.out
        clear HA
        simp only [laws_FnExactShiftedGroup.j1] at H
        by_cases c59 : x77_44 = true
        ·subst c59
         replace H := ifT H
         exact absurd H (by simp)
        ·replace c59 := Bool.eq_false_iff.mpr c59
         subst c59
         replace H := ifF H
         obtain ⟨⟨t584, t585⟩, A60, H⟩ := ob H
         try dsimp only at H
         obtain ⟨t586, A61, H⟩ := ob H
         try dsimp only at H
         by_cases c62 : t586 < 0
         ·rw [if_pos c62] at H
          have c62b0 := decide_eq_true c62
          clear c62
          exact absurd H (by simp)
         ·rw [if_neg c62] at H
          have c62b0 := decide_eq_false c62
          clear c62
          by_cases c63 : t586 = t584
          ·rw [if_pos c63] at H
           have c63b0 : (t586 == t584) = true := beq_iff_eq.mpr c63
           have c63b1 : (t586 != t584) = false := bne_eq_false_iff_eq.mpr c63
           clear c63
           obtain ⟨⟨t587, t588, t589⟩, A64, H⟩ := ob H
           try dsimp only at H
           obtain ⟨t590, A65, H⟩ := ob H
           try dsimp only at H
           obtain ⟨⟨t593, t594⟩, A66, H⟩ := ob H
           try dsimp only at H
           obtain ⟨⟨t595, t598⟩, A67, H⟩ := ob H
           try dsimp only at H
           have HC68 := Aside0.mk H
           clear H
           obtain ⟨Ao69, co69, eo69⟩ := Kd.R_slice HO_13.out
           subst eo69
           try go_wp2_with (first | ((with_reducible refine gate_callee (f := 14) rfl ?_); refine gl 80 Tryz.func14 #[.slice Ao69 t572.length co69, .int .i64 1] ?_; (with_reducible refine (laws_markMotionS.calls _ (fun k_ => some k_ = (.slice Ao69 t572.length co69 : Value).ownBlock) _ _ _ _ _ w _ ?side1 ?side2 A60.out).mono ?_); (case side1 => repeat (first | (with_reducible first | exact HB.out | apply below_alloc | apply pw_below_drewN | apply below_drew1 | refine below_set ?_ GE549.out | refine below_set ?_ GE550.out) | exact HB.out)); (case side2 => exact Kd.R_tight rfl HO_13.out); rintro e w70 ⟨rfl, hy0, hb, hkp⟩; refine ⟨_, rfl, ?_⟩; replace HO_10 := asd (Kd.R_mono (ok' := fun k_ => some k_ ≠ (.slice Ao69 t572.length co69 : Value).ownBlock) (Kd.R_keptB (HO_10.out) hkp (fun k_ hk_ hs_ => (hk_) hs_)) (fun k_ hk_ => hk_.1)); replace BK549 := asd (blk_kept (bkp BK549) hkp (fun hs_ => (fun e_ => (Kd.R_ne HO_13.out BK549.out (by decide)) e_) hs_)); replace BK550 := asd (blk_kept (bkp BK550) hkp (fun hs_ => (fun e_ => (Kd.R_ne HO_13.out BK550.out (by decide)) e_) hs_)); replace HO_13 := asd (Kd.R_reok rfl hy0 (fun k_ e_ => HO_13.out.1 k_ e_)); replace HB := asd (hb); (try clear hb); (try clear hkp); (try clear hy0)) | ((with_reducible refine gate_callee (f := 15) rfl ?_); refine goesL_ (some 83) rfl rfl Tryz.func15 (by kernel_rfl) rfl #[.slice Ao69 t585.length co69, .int .i64 1] rfl (by (try simp only [List.map_toArray, List.map_cons, List.map_nil]); first | done | (rw [show t585.length = t572.length from (Kd.R_reads' HO_13.out).1.symm] <;> rfl) | rfl | (simp only [List.length_drop, List.length_take]; rfl)) ?_; (with_reducible refine (laws_heldMotionS.calls _ _ _ _ _ _ _ ?side1 ?side2 A61.out).mono ?_); (case side1 => exact ks (Kd.R_reads' HO_13.out).2.2); (case side2 => rw [show t585.length = t572.length from (Kd.R_reads' HO_13.out).1.symm]; exact (Kd.R_reads' HO_13.out).2.1); rintro e w' ⟨rfl, ⟨nd, rfl⟩⟩; refine ⟨_, rfl, ?_⟩))
           (try (rw [drewN_self w70]; generalize hq_ : World.drewN w70 _ = w70; have n0_ : Aside0 (Kd.R k48 48 w70 w.heap.size (fun k_ => some k_ ≠ (.slice Ao69 t572.length co69 : Value).ownBlock) v561 t560) := ⟨by rw [← hq_]; exact (kr HO_10)⟩; have n1_ : Aside0 (Kd.R k48 48 w70 w.heap.size (fun k_ => some k_ ≠ (v561 : Value).ownBlock) (.slice Ao69 t572.length co69) t585) := ⟨by rw [← hq_]; exact (kr HO_13)⟩; have n2_ : Aside0 (w70.heap[gb549]? = some (.cells #[.int .i64 a1_0, .int .i64 a1_1, .int .i64 a1_2] 23 (0, 0))) := ⟨by rw [← hq_]; exact (bkp BK549)⟩; have n3_ : Aside0 (w70.heap[gb550]? = some (.cells #[.int .i64 a3_0, .int .i64 a3_1] 36 (0, 0))) := ⟨by rw [← hq_]; exact (bkp BK550)⟩; have n4_ : Aside0 (Below w.heap.size w w70) := ⟨by rw [← hq_]; exact (bbw2 HB GE549 GE550)⟩; clear HO_10 HO_13 BK549 BK550 HB hq_; have HO_10 := n0_; have HO_13 := n1_; have BK549 := n2_; have BK550 := n3_; have HB := n4_; clear n0_ n1_ n2_ n3_ n4_))
           replace HO_10 := asd (Kd.R_drew HO_10.out)
           replace HO_13 := asd (Kd.R_drew HO_13.out)
           replace BK549 := asd (blk_drew BK549.out)
           replace BK550 := asd (blk_drew BK550.out)
           replace HB := asd (below_drew1 HB.out)
           refine sh 13 (cb3 BK549 (eb2 BK550)) (fun hHeld => ?_); refine with_tabW laws_FnExactShiftedGroup.tab24 laws_FnExactShiftedGroup.bits24 (fun HT_ HW_ => ?_)
           generalize w70.drew = w71 at HO_10 HO_13 BK549 BK550 HB hHeld ⊢
           refine pu 0 (some 90) (bT 13 1) HT_ ?_
           refine pu 3 (some 93) (bs 13 9) HT_ ?_
           refine ta 1 (some 91) (bs 13 11) HT_ HW_ hHeld ?_
           refine ta 5 (some 95) (bs 13 43) HT_ HW_ hHeld ?_
           refine ro 2 (some 92) (bs 13 47) HT_ (fun K hK => ?_)
           refine gs Tryz.func10 #[.agg #[.int .i64 a1_0, .int .i64 a1_1, .int .i64 a1_2]] ?_
           with_reducible refine (laws_toLattice.calls _ _ _ _ _ _ _ A64.out).mono ?_
           rintro e w72 ⟨rfl, hb⟩
           refine ⟨_, rfl, ?_⟩
           replace HO_10 := asd (Kd.R_below (kr HO_10) hb)
           replace HO_13 := asd (Kd.R_below (kr HO_13) hb)
           replace BK549 := bB BK549 hb
           replace BK550 := bB BK550 hb
           replace HB := bS2 HB GE549 GE550 hb
           (try clear hb)
           (try clear hb2)
           (try clear hk)
           (try clear hi)
           refine hK.out _ _ (cb3 BK549 (eb2 BK550)).out (fun hHeld => ?_)
           clear hK K
           refine norm_ (a' := ?_) ?_ ?_
           rotate_left
           ·show Act.put _ (some 92) _ = _
            simp only [Act.put, sA, sB, sC, i64_w, i32_w]
            rfl
           refine ro 4 (some 94) (bT 13 6) HT_ (fun K hK => ?_)
           refine gs Tryz.func11 #[.slice A2 l2.length c2] ?_
           with_reducible refine (laws_toMotionS.calls _ _ _ _ _ _ ?side1 ?side2 A65.out).mono ?_
           (case side1 => exact ks (Kd.C_below HR2.out HB.out))
           (case side2 => exact HC2.out)
           rintro e w73 ⟨v591, rfl, ho0, hb⟩
           refine ⟨_, rfl, ?_⟩
           have HO592 := asd (Kd.R_lower (Kd.R_new' (Kd.R_new' ho0 (Kd.R_lt (kr HO_10))) (Kd.R_lt (kr HO_13))) (bsz2 HB GE549 GE550))
           replace HO_10 := asd (Kd.R_elder' (kr HO_10) (Kd.R_base ho0) hb)
           replace HO_13 := asd (Kd.R_elder' (kr HO_13) (Kd.R_base ho0) hb)
           replace BK549 := bB BK549 hb
           replace BK550 := bB BK550 hb
           replace HB := bS2 HB GE549 GE550 hb
           (try clear hb)
           (try clear hb2)
           (try clear hk)
           (try clear hi)
           (try clear ho0)
           refine hK.out _ _ (cb3 BK549 (eb2 BK550)).out (fun hHeld => ?_)
           clear hK K
           refine norm_ (a' := ?_) ?_ ?_
           rotate_left
           ·show Act.put _ (some 94) _ = _
            simp only [Act.put, sA, sB, sC, i64_w, i32_w]
            rfl
           refine ro 6 (some 96) (bT 13 7) HT_ (fun K hK => ?_)
           refine gs Tryz.func17 #[.agg #[.int .i64 a3_0, .int .i64 a3_1]] ?_
           with_reducible refine (laws_toVec.calls _ _ _ _ _ A66.out).mono ?_
           rintro e w74 ⟨rfl, hb⟩
           refine ⟨_, rfl, ?_⟩
           replace HO_10 := asd (Kd.R_below (kr HO_10) hb)
           replace HO_13 := asd (Kd.R_below (kr HO_13) hb)
           replace HO592 := asd (Kd.R_below (kr HO592) hb)
           replace BK549 := bB BK549 hb
           replace BK550 := bB BK550 hb
           replace HB := bS2 HB GE549 GE550 hb
           (try clear hb)
           (try clear hb2)
           (try clear hk)
           (try clear hi)
           obtain ⟨Ao75, co75, eo75⟩ := Kd.R_slice HO592.out
           (first | subst eo75 | (injection eo75 with f1_ f2_ f3_; have f4_ := f1_.symm; have f5_ := f3_.symm; clear f1_ f2_ f3_; subst f4_; subst f5_))
           refine hK.out _ _ (cb3 BK549 (eb2 BK550)).out (fun hHeld => ?_)
           clear hK K
           refine norm_ (a' := ?_) ?_ ?_
           rotate_left
           ·show Act.put _ (some 96) _ = _
            simp only [Act.put, sA, sB, sC, i64_w, i32_w]
            rfl
           refine ro 7 (some 97) (bT 13 8) HT_ (fun K hK => ?_)
           refine gs Tryz.func18 #[.int .i64 a0, .agg #[.int .i64 t587, .int .i64 t588, .int .i64 t589], .slice Ao75 t590.length co75, .agg #[.int .i64 t593, .int .i64 t594]] ?_
           with_reducible refine (impl_ShiftedGroup.calls _ _ _ _ _ (fun k_ => some k_ = (.slice Ao75 t590.length co75 : Value).ownBlock) _ _ _ _ _ _ _ _ ?side1 A67.out).mono ?_
           (case side1 => exact Kd.R_V (Kd.R_tight rfl (Kd.R_types (Kd.R_types (HO592.out) BK549.out (by decide)) BK550.out (by decide))))
           rintro e w76 ⟨v596, rfl, ho0, hb⟩
           refine ⟨_, rfl, ?_⟩
           have HO597 := asd (Kd.R_lower (Kd.R_new' (Kd.R_new' (Kd.R_new' (Kd.R_mono (ok' := fun k_ => True) ho0 (fun _ hk_ => trivial)) (Kd.R_lt (kr HO_10))) (Kd.R_lt (kr HO_13))) (Kd.R_lt (kr HO592))) (bsz2 HB GE549 GE550))
           replace HO_10 := asd (Kd.R_elder' (kr HO_10) (Kd.R_base ho0) hb)
           replace HO_13 := asd (Kd.R_elder' (kr HO_13) (Kd.R_base ho0) hb)
           replace HO592 := asd (Kd.R_elder' (kr HO592) (Kd.R_base ho0) hb)
           replace BK549 := bB BK549 hb
           replace BK550 := bB BK550 hb
           replace HB := bS2 HB GE549 GE550 hb
           (try clear hb)
           (try clear hb2)
           (try clear hk)
           (try clear hi)
           (try clear ho0)
           refine hK.out _ _ (cb3 BK549 (eb2 BK550)).out (fun hHeld => ?_)
           clear hK K
           refine norm_ (a' := ?_) ?_ ?_
           rotate_left
           ·show Act.put _ (some 97) _ = _
            simp only [Act.put, sA, sB, sC, i64_w, i32_w]
            rfl
           refine pu 8 (some 89) (bT 13 9) HT_ ?_
           refine pu 9 (some 98) (bT 13 10) HT_ ?_
           refine pu 10 (some 99) (bT 13 11) HT_ ?_
           refine pu 11 (some 18) (bT 13 12) HT_ ?_
           refine pu 12 (some 19) (bT 13 13) HT_ ?_
           refine done_ (done_of HT_.out (by kernel_rfl)) ?_
           go_upto_region 25 with (fail)
           go_cut [108] (fun v108 wc => ∃ (kq : Nat) (x108_67 : Bool), v108 = .bool x108_67 ∧ Aside0 (laws_FnExactShiftedGroup.j2 kq t585 t584 x108_67 = some true) ∧ Aside0 (kq ≤ kj44) ∧ Aside0 (Kd.R k48 48 wc w.heap.size (fun _ => True) (.slice Ao69 t572.length co69) t585) ∧ Aside0 (wc.heap[gb549]? = some (.cells #[.int .i64 a1_0, .int .i64 a1_1, .int .i64 a1_2] 23 (0, 0))) ∧ Aside0 (wc.heap[gb550]? = some (.cells #[.int .i64 a3_0, .int .i64 a3_1] 36 (0, 0))) ∧ Aside0 (Below w.heap.size w wc))
           case first =>
            have H := HC68.out
            clear HC68
            obtain ⟨t599, A77, H⟩ := ob H
            try dsimp only at H
            by_cases c78 : t599 = true
            subst c78
            replace H := ifT H
            have H' := Aside0.mk H
            clear H
            rotate_left
            replace c78 := Bool.eq_false_iff.mpr c78
            subst c78
            replace H := ifF H
            have H' := Aside0.mk H
            clear H
            rotate_left
            all_goals
             obtain ⟨Ao79, co79, eo79⟩ := Kd.R_slice HO597.out
             subst eo79
             obtain ⟨Ao80, co80, eo80⟩ := Kd.R_slice HO_10.out
             subst eo80
             go_wp2_with (first | ((with_reducible refine gate_callee (f := 13) rfl ?_); refine gl 102 Tryz.func13 #[.slice Ao79 t595.length co79, .slice Ao80 t560.length co80] ?_; (with_reducible refine (laws_eqMotionS.calls _ _ _ _ _ _ _ _ _ ?side1 ?side2 ?side3 ?side4 A77.out).mono ?_); (case side1 => exact ks (Kd.R_reads' HO597.out).2.2); (case side2 => exact (Kd.R_reads' HO597.out).2.1); (case side3 => exact ks (Kd.R_reads' HO_10.out).2.2); (case side4 => exact (Kd.R_reads' HO_10.out).2.1); rintro e w81 ⟨rfl, hb⟩; refine ⟨_, rfl, ?_⟩; replace HO_10 := asd (Kd.R_below (kr HO_10) hb); replace HO_13 := asd (Kd.R_below (kr HO_13) hb); replace HO592 := asd (Kd.R_below (kr HO592) hb); replace HO597 := asd (Kd.R_below (kr HO597) hb); replace BK549 := bB BK549 hb; replace BK550 := bB BK550 hb; replace HB := bS2 HB GE549 GE550 hb; (try clear hb)))
             go_meet
            ·case rel => exact ⟨_, ((t598 != t563)), (by first | rfl | (simp; done) | (simp [*]; done)), H', ⟨by have := HJ16.out; have := HJ44.out; first | omega | exact Nat.le_refl _⟩, ⟨by (with_reducible repeat (first | apply Kd.R_alloc | apply Kd.R_drewN | apply Kd.R_drew)); exact Kd.R_mono HO_13.out (fun _ hk => trivial)⟩, ⟨bkp BK549⟩, ⟨bkp BK550⟩, ⟨bbw2 HB GE549 GE550⟩⟩
            ·case rel => exact ⟨_, (true), (by first | rfl | (simp; done) | (simp [*]; done)), H', ⟨by have := HJ16.out; have := HJ44.out; first | omega | exact Nat.le_refl _⟩, ⟨by (with_reducible repeat (first | apply Kd.R_alloc | apply Kd.R_drewN | apply Kd.R_drew)); exact Kd.R_mono HO_13.out (fun _ hk => trivial)⟩, ⟨bkp BK549⟩, ⟨bkp BK550⟩, ⟨bbw2 HB GE549 GE550⟩⟩
           case rest =>
            clear HC68
            try clear c1
            try clear c2
            try clear p2
            try clear c3
            try clear c4
            try clear c5
            try clear c6
            try clear c6b0
            try clear c7
            try clear c8
            try clear c10
            try clear c11
            try clear c13
            try clear c14
            try clear c15
            try clear c16
            try clear c17
            try clear c18
            try clear c33
            try clear c40
            try clear c43
            try clear c50
            try clear c50b0
            try clear c52
            try clear c59
            try clear c62
            try clear c62b0
            try clear c63
            try clear c63b0
            try clear c63b1
            try clear c78
            try clear p2
            obtain ⟨kq, x108_67, rfl, HA, HJ67, HO_13, BK549, BK550, HB⟩ := hcut
            have hl13_67 := (Kd.R_reads' HO_13.out).1
            rw [hl13_67] at HO_13
            (try simp only [hl13_67])
            (try simp only [hl13_67] at BK549)
            (try simp only [hl13_67] at BK550)
            cases kq with
            | zero => exact absurd HA.out (by simp [laws_FnExactShiftedGroup.j2])
            | succ kj67 =>
             have H := HA.out
             clear HA
             simp only [laws_FnExactShiftedGroup.j2] at H
             by_cases c85 : x108_67 = true
             ·subst c85
              replace H := ifT H
              exact absurd H (by simp)
             ·replace c85 := Bool.eq_false_iff.mpr c85
              subst c85
              replace H := ifF H
              obtain ⟨t600, A86, H⟩ := ob H
              try dsimp only at H
              by_cases c87 : t600 < 0
              ·rw [if_pos c87] at H
               have c87b0 := decide_eq_true c87
               clear c87
               exact absurd H (by simp)
              ·rw [if_neg c87] at H
               have c87b0 := decide_eq_false c87
               clear c87
               by_cases c88 : t600 = t584
               ·rw [if_pos c88] at H
                have c88b0 : (t600 == t584) = true := beq_iff_eq.mpr c88
                have c88b1 : (t600 != t584) = false := bne_eq_false_iff_eq.mpr c88
                clear c88
                clear H
                go_wp2_with (first | ((with_reducible refine gate_callee (f := 15) rfl ?_); refine gl 111 Tryz.func15 #[.slice Ao69 t585.length co69, .int .i64 1] ?_; (with_reducible refine (laws_heldMotionS.calls _ _ _ _ _ _ _ ?side1 ?side2 A86.out).mono ?_); (case side1 => exact ks (Kd.R_reads' HO_13.out).2.2); (case side2 => exact (Kd.R_reads' HO_13.out).2.1); rintro e w' ⟨rfl, ⟨nd, rfl⟩⟩; refine ⟨_, rfl, ?_⟩))
                go_ret
                exact er (bbw2 HB GE549 GE550)
               ·rw [if_neg c88] at H
                have c88b0 : (t600 == t584) = false := beq_eq_false_iff_ne.mpr c88
                have c88b1 : (t600 != t584) = true := bne_iff_ne.mpr c88
                exact absurd H (by simp)
          ·rw [if_neg c63] at H
           have c63b0 : (t586 == t584) = false := beq_eq_false_iff_ne.mpr c63
           have c63b1 : (t586 != t584) = true := bne_iff_ne.mpr c63
           exact absurd H (by simp)
     ·replace c43 := Bool.eq_false_iff.mpr c43
      subst c43
      replace H := ifF H
      exact absurd H (by simp)

/-- The one plain statement of laws_FnExactShiftedGroup. -/
def laws_FnExactShiftedGroup.Pure : Prop := ∀ (a0 : Int) (a1_0 : Int) (a1_1 : Int) (a1_2 : Int) (l2 : List (S44)) (a3_0 : Int) (a3_1 : Int), (Lit.int .i64 a0).wf = true → (Lit.int .i64 a1_0).wf = true → (Lit.int .i64 a1_1).wf = true → (Lit.int .i64 a1_2).wf = true → l2.length ≤ maxLen → (∀ x ∈ l2, (Lit.int .i64 x.f0.f0).wf = true ∧ (Lit.int .i64 x.f0.f1).wf = true ∧ (Lit.int .i64 x.f0.f2).wf = true ∧ (Lit.int .i64 x.f0.f3).wf = true ∧ (Lit.int .i64 x.f1.f0).wf = true ∧ (Lit.int .i64 x.f1.f1).wf = true) → (Lit.int .i64 a3_0).wf = true → (Lit.int .i64 a3_1).wf = true → ∃ k, laws_FnExactShiftedGroup.f k a0 a1_0 a1_1 a1_2 l2 a3_0 a3_1 = some true
end Go.Proofs.YtdodghjnlekgeaaGreat.PA
