import Derived.Test.YtdodghjnlekgeaaGreatPAx0
import Derived.Test.YtdodghjnlekgeaaGreatPAx5
import Derived.Test.YtdodghjnlekgeaaGreatPAx6
import Derived.Test.YtdodghjnlekgeaaGreatPAx13
namespace Go.Proofs.YtdodghjnlekgeaaGreat.PA
open Go.RowKit Go.Proofs.YtdodghjnlekgeaaGreatW.PrintWords Go.Proofs.YtdodghjnlekgeaaGreatW.PrintLast Go.Proofs.YtdodghjnlekgeaaGreatW.PrintMore
attribute [local go_sem] max2_int min2_int max_two min_two max_three min_three max_four min_four   -- for this text's walks alone
set_option linter.unusedVariables false
set_option maxHeartbeats 8000000
set_option maxRecDepth 100000
set_option linter.unusedSimpArgs false
mutual
def laws_FnExactCyclicOf.j0 : Nat → Int → List (S44) → List (S48) → Int → List (S48) → List (S48) → Int → Bool → Int → Int → Int → Int → Int → Int → Int → Int → Int → Option (Bool)
 | 0, _, _, _, _, _, _, _, _, _, _, _, _, _, _, _, _, _ => none
 | k + 1, x0, x2, x10, x11, x12, x13, x14, x56, x610000, x610001, x610002, x611000, x611001, x611002, x611003, x611004, x611005 => if x56 = true then (some false) else ((laws_toMotionS.f k x2).bind fun t645 => ((laws_eqMotionS.f k x12 t645).bind fun t648 => (if t648 = true then ((laws_markMotionS.f k x12 1).bind fun bt649 => (if bt649.1 < 0 then (laws_FnExactCyclicOf.j1 k x0 x2 x10 x11 x13 true x610000 x610001 x610002 x611000 x611001 x611002 x611003 x611004 x611005) else ((laws_eqMotionS.f k x13 x10).bind fun t651 => (if t651 = true then (laws_FnExactCyclicOf.j1 k x0 x2 x10 x11 x13 (x14 != x11) x610000 x610001 x610002 x611000 x611001 x611002 x611003 x611004 x611005) else (laws_FnExactCyclicOf.j1 k x0 x2 x10 x11 x13 true x610000 x610001 x610002 x611000 x611001 x611002 x611003 x611004 x611005))))) else (some false))))
def laws_FnExactCyclicOf.j1 : Nat → Int → List (S44) → List (S48) → Int → List (S48) → Bool → Int → Int → Int → Int → Int → Int → Int → Int → Int → Option (Bool)
 | 0, _, _, _, _, _, _, _, _, _, _, _, _, _, _, _ => none
 | k + 1, x0, x2, x10, x11, x13, x77, x610000, x610001, x610002, x611000, x611001, x611002, x611003, x611004, x611005 => if x77 = true then (some false) else ((laws_markMotionS.f k x13 1).bind fun bt652 => ((laws_heldMotionS.f k bt652.2 1).bind fun t654 => (if t654 < 0 then (some false) else (if t654 = bt652.1 then ((laws_toLattice.f x610000 x610001 x610002).bind fun bt655 => ((laws_toMotionS.f k x2).bind fun t658 => ((laws_toMotion.f x611000 x611001 x611002 x611003 x611004 x611005).bind fun bt661 => ((impl_CyclicOf.f k x0 bt655.1 bt655.2.1 bt655.2.2 t658 bt661.1 bt661.2.1 bt661.2.2.1 bt661.2.2.2.1 bt661.2.2.2.2.1 bt661.2.2.2.2.2).bind fun bt667 => ((laws_eqMotionS.f k bt667.1 x10).bind fun t671 => (if t671 = true then (laws_FnExactCyclicOf.j2 k bt652.2 bt652.1 (bt667.2 != x11)) else (laws_FnExactCyclicOf.j2 k bt652.2 bt652.1 true))))))) else (some false)))))
def laws_FnExactCyclicOf.j2 : Nat → List (S48) → Int → Bool → Option (Bool)
 | 0, _, _, _ => none
 | k + 1, x13, x16, x108 => if x108 = true then (some false) else ((laws_heldMotionS.f k x13 1).bind fun t672 => (if t672 < 0 then (some false) else (if t672 = x16 then (some true) else (some false))))
end
def laws_FnExactCyclicOf.f (k : Nat) (a0 : Int) (a1_0 : Int) (a1_1 : Int) (a1_2 : Int) (l2 : List (S44)) (a3_0 : Int) (a3_1 : Int) (a3_2 : Int) (a3_3 : Int) (a3_4 : Int) (a3_5 : Int) : Option (Bool) := (laws_szMotionS.f l2 1048576).bind fun t611 => (if t611 < 0 then (some true) else ((laws_toLattice.f a1_0 a1_1 a1_2).bind fun bt612 => ((laws_toMotionS.f k l2).bind fun t615 => ((laws_toMotion.f a3_0 a3_1 a3_2 a3_3 a3_4 a3_5).bind fun bt618 => ((spec_CyclicOf.f k a0 bt612.1 bt612.2.1 bt612.2.2 t615 bt618.1 bt618.2.1 bt618.2.2.1 bt618.2.2.2.1 bt618.2.2.2.2.1 bt618.2.2.2.2.2).bind fun bt624 => ((laws_toMotionS.f k l2).bind fun t628 => ((laws_toLattice.f a1_0 a1_1 a1_2).bind fun bt631 => ((laws_toMotion.f a3_0 a3_1 a3_2 a3_3 a3_4 a3_5).bind fun bt634 => ((impl_CyclicOf.f k a0 bt631.1 bt631.2.1 bt631.2.2 t628 bt634.1 bt634.2.1 bt634.2.2.1 bt634.2.2.2.1 bt634.2.2.2.2.1 bt634.2.2.2.2.2).bind fun bt640 => ((laws_eqMotionS.f k bt640.1 bt624.1).bind fun t644 => (if t644 = true then (laws_FnExactCyclicOf.j0 k a0 l2 bt624.1 bt624.2 t628 bt640.1 bt640.2 (bt640.2 != bt624.2) a1_0 a1_1 a1_2 a3_0 a3_1 a3_2 a3_3 a3_4 a3_5) else (laws_FnExactCyclicOf.j0 k a0 l2 bt624.1 bt624.2 t628 bt640.1 bt640.2 true a1_0 a1_1 a1_2 a3_0 a3_1 a3_2 a3_3 a3_4 a3_5))))))))))))
def laws_FnExactCyclicOf.T5 : Bool × List (List Nat × List Nat) := (true, [([], []), ([], []), ([1], [1]), ([], []), ([3, 2], [3]), ([], []), ([5, 4], [5]), ([0, 2, 4, 6, 6], [0, 2, 4, 6]), ([7], [7]), ([8], [8]), ([8], [8]), ([9, 7, 0, 1, 2, 3, 4, 5, 6, 7, 8, 9], [9]), ([10, 11, 0, 1, 2, 3, 4, 5, 6, 7, 8, 9, 10, 11], [10])])
def laws_FnExactCyclicOf.B5 : List Nat := [0, 0, 2, 0, 14, 0, 62, 127, 255, 511, 511, 1023, 4095]
theorem laws_FnExactCyclicOf.tab5 : rtab .any (opsOf Tryz.f5 5) = laws_FnExactCyclicOf.T5 := by kernel_rfl
theorem laws_FnExactCyclicOf.bits5 : waitsOk laws_FnExactCyclicOf.T5.2 laws_FnExactCyclicOf.B5 = true := by kernel_rfl
def laws_FnExactCyclicOf.T7 : Bool × List (List Nat × List Nat) := (true, [([], []), ([], []), ([1], [1]), ([], []), ([], []), ([4, 2], [4]), ([0, 2, 3, 5, 5], [0, 2, 3, 5]), ([6], [6]), ([7], [7]), ([7], [7]), ([8, 6, 0, 1, 2, 3, 4, 5, 6, 7, 8], [8]), ([9, 10, 0, 1, 2, 3, 4, 5, 6, 7, 8, 9, 10], [9])])
def laws_FnExactCyclicOf.B7 : List Nat := [0, 0, 2, 0, 0, 22, 63, 127, 255, 255, 511, 2047]
theorem laws_FnExactCyclicOf.tab7 : rtab .any (opsOf Tryz.f5 7) = laws_FnExactCyclicOf.T7 := by kernel_rfl
theorem laws_FnExactCyclicOf.bits7 : waitsOk laws_FnExactCyclicOf.T7.2 laws_FnExactCyclicOf.B7 = true := by kernel_rfl
def laws_FnExactCyclicOf.T24 : Bool × List (List Nat × List Nat) := (true, [([], []), ([], []), ([1], [1]), ([], []), ([3, 2], [3]), ([], []), ([5, 4], [5]), ([0, 2, 4, 6, 6], [0, 2, 4, 6]), ([7], [7]), ([8], [8]), ([8], [8]), ([9, 7, 0, 1, 2, 3, 4, 5, 6, 7, 8, 9], [9]), ([10, 11, 0, 1, 2, 3, 4, 5, 6, 7, 8, 9, 10, 11], [10])])
def laws_FnExactCyclicOf.B24 : List Nat := [0, 0, 2, 0, 14, 0, 62, 127, 255, 511, 511, 1023, 4095]
theorem laws_FnExactCyclicOf.tab24 : rtab .any (opsOf Tryz.f5 24) = laws_FnExactCyclicOf.T24 := by kernel_rfl
theorem laws_FnExactCyclicOf.bits24 : waitsOk laws_FnExactCyclicOf.T24.2 laws_FnExactCyclicOf.B24 = true := by kernel_rfl
theorem laws_FnExactCyclicOf.calls (k : Nat) (a0 : Int) (a1_0 : Int) (a1_1 : Int) (a1_2 : Int) (A2 : Option Addr) (c2 : Nat) (l2 : List (S44)) (a3_0 : Int) (a3_1 : Int) (a3_2 : Int) (a3_3 : Int) (a3_4 : Int) (a3_5 : Int) (w : World) (hr2 : Kd.C k44 w A2 l2.length l2) (hc2 : l2.length ≤ c2) (h : laws_FnExactCyclicOf.f k a0 a1_0 a1_1 a1_2 l2 a3_0 a3_1 a3_2 a3_3 a3_4 a3_5 = some true) :
  Calls Tryz.prog 5 #[.int .i64 a0, .agg #[.int .i64 a1_0, .int .i64 a1_1, .int .i64 a1_2], .slice A2 l2.length c2, .agg #[.int .i64 a3_0, .int .i64 a3_1, .int .i64 a3_2, .int .i64 a3_3, .int .i64 a3_4, .int .i64 a3_5]] w fun e w' => e = .returned (.bool true) ∧ Below w.heap.size w w' := by
 have hu23 := Tryz.underlying23
 have hu44 := Tryz.underlying44
 have HR2 := Aside0.mk hr2
 have HC2 := Aside0.mk hc2
 clear hr2 hc2
 have HB := asd (Below.refl w.heap.size w)
 have H : ((laws_szMotionS.f l2 1048576).bind fun t611 => (if t611 < 0 then (some true) else ((laws_toLattice.f a1_0 a1_1 a1_2).bind fun bt612 => ((laws_toMotionS.f k l2).bind fun t615 => ((laws_toMotion.f a3_0 a3_1 a3_2 a3_3 a3_4 a3_5).bind fun bt618 => ((spec_CyclicOf.f k a0 bt612.1 bt612.2.1 bt612.2.2 t615 bt618.1 bt618.2.1 bt618.2.2.1 bt618.2.2.2.1 bt618.2.2.2.2.1 bt618.2.2.2.2.2).bind fun bt624 => ((laws_toMotionS.f k l2).bind fun t628 => ((laws_toLattice.f a1_0 a1_1 a1_2).bind fun bt631 => ((laws_toMotion.f a3_0 a3_1 a3_2 a3_3 a3_4 a3_5).bind fun bt634 => ((impl_CyclicOf.f k a0 bt631.1 bt631.2.1 bt631.2.2 t628 bt634.1 bt634.2.1 bt634.2.2.1 bt634.2.2.2.1 bt634.2.2.2.2.1 bt634.2.2.2.2.2).bind fun bt640 => ((laws_eqMotionS.f k bt640.1 bt624.1).bind fun t644 => (if t644 = true then (laws_FnExactCyclicOf.j0 k a0 l2 bt624.1 bt624.2 t628 bt640.1 bt640.2 (bt640.2 != bt624.2) a1_0 a1_1 a1_2 a3_0 a3_1 a3_2 a3_3 a3_4 a3_5) else (laws_FnExactCyclicOf.j0 k a0 l2 bt624.1 bt624.2 t628 bt640.1 bt640.2 true a1_0 a1_1 a1_2 a3_0 a3_1 a3_2 a3_3 a3_4 a3_5))))))))))))) = some true := h
 clear h
 obtain ⟨t611, A5, H⟩ := ob H
 try dsimp only at H
 by_cases c6 : t611 < 0
 ·rw [if_pos c6] at H
  have c6b0 := decide_eq_true c6
  clear c6
  clear H
  go_enter Tryz.func5, Tryz.ntmps5
  go_wp2_with (first | ((with_reducible refine gd 5 rfl ?_); refine bx #[.int .i64 a1_0, .int .i64 a1_1, .int .i64 a1_2] 23 ?_; intro gb609 hg w7 BK609 hb; have GE609 := ngw0 hg HB; replace HB := bS0 HB hb; clear hb hg) | ((with_reducible refine gd 7 rfl ?_); refine bx #[.int .i64 a3_0, .int .i64 a3_1, .int .i64 a3_2, .int .i64 a3_3, .int .i64 a3_4, .int .i64 a3_5] 44 ?_; intro gb610 hg w8 BK610 hb; have GE610 := ngw1 hg HB GE609; replace HB := bS1 HB GE609 hb; have NB609_610 := nlt hg BK609; have NB610_609 := nsy (nlt hg BK609); replace BK609 := bB BK609 hb; clear hb hg) | ((with_reducible refine gate_callee (f := 8) rfl ?_); refine gl 22 Tryz.func8 #[.slice A2 l2.length c2, .int .i64 1048576] ?_; (with_reducible refine (laws_szMotionS.calls _ _ _ _ _ _ ?side1 ?side2 A5.out).mono ?_); (case side1 => exact ks (Kd.C_below HR2.out HB.out)); (case side2 => exact HC2.out); rintro e w' ⟨rfl, ⟨nd, rfl⟩⟩; refine ⟨_, rfl, ?_⟩))
  go_ret
  exact er (bbw2 HB GE609 GE610)
 ·rw [if_neg c6] at H
  have c6b0 := decide_eq_false c6
  clear c6
  obtain ⟨⟨t612, t613, t614⟩, A9, H⟩ := ob H
  try dsimp only at H
  obtain ⟨t615, A10, H⟩ := ob H
  try dsimp only at H
  obtain ⟨⟨t618, t619, t620, t621, t622, t623⟩, A11, H⟩ := ob H
  try dsimp only at H
  obtain ⟨⟨t624, t627⟩, A12, H⟩ := ob H
  try dsimp only at H
  obtain ⟨t628, A13, H⟩ := ob H
  try dsimp only at H
  obtain ⟨⟨t631, t632, t633⟩, A14, H⟩ := ob H
  try dsimp only at H
  obtain ⟨⟨t634, t635, t636, t637, t638, t639⟩, A15, H⟩ := ob H
  try dsimp only at H
  obtain ⟨⟨t640, t643⟩, A16, H⟩ := ob H
  try dsimp only at H
  have HC17 := Aside0.mk H
  clear H
  go_enter Tryz.func5, Tryz.ntmps5
  try go_wp2_with (first | ((with_reducible refine gd 5 rfl ?_); refine bx #[.int .i64 a1_0, .int .i64 a1_1, .int .i64 a1_2] 23 ?_; intro gb609 hg w18 BK609 hb; have GE609 := ngw0 hg HB; replace HB := bS0 HB hb; clear hb hg) | ((with_reducible refine gd 7 rfl ?_); refine bx #[.int .i64 a3_0, .int .i64 a3_1, .int .i64 a3_2, .int .i64 a3_3, .int .i64 a3_4, .int .i64 a3_5] 44 ?_; intro gb610 hg w19 BK610 hb; have GE610 := ngw1 hg HB GE609; replace HB := bS1 HB GE609 hb; have NB609_610 := nlt hg BK609; have NB610_609 := nsy (nlt hg BK609); replace BK609 := bB BK609 hb; clear hb hg) | ((with_reducible refine gate_callee (f := 8) rfl ?_); refine gl 22 Tryz.func8 #[.slice A2 l2.length c2, .int .i64 1048576] ?_; (with_reducible refine (laws_szMotionS.calls _ _ _ _ _ _ ?side1 ?side2 A5.out).mono ?_); (case side1 => exact ks (Kd.C_below HR2.out HB.out)); (case side2 => exact HC2.out); rintro e w' ⟨rfl, ⟨nd, rfl⟩⟩; refine ⟨_, rfl, ?_⟩))
  (try (rw [drewN_self w19]; generalize hq_ : World.drewN w19 _ = w19; have n0_ : Aside0 (w19.heap[gb609]? = some (.cells #[.int .i64 a1_0, .int .i64 a1_1, .int .i64 a1_2] 23 (0, 0))) := ⟨by rw [← hq_]; exact (bkp BK609)⟩; have n1_ : Aside0 (w19.heap[gb610]? = some (.cells #[.int .i64 a3_0, .int .i64 a3_1, .int .i64 a3_2, .int .i64 a3_3, .int .i64 a3_4, .int .i64 a3_5] 44 (0, 0))) := ⟨by rw [← hq_]; exact (bkp BK610)⟩; have n2_ : Aside0 (Below w.heap.size w w19) := ⟨by rw [← hq_]; exact (bbw2 HB GE609 GE610)⟩; clear BK609 BK610 HB hq_; have BK609 := n0_; have BK610 := n1_; have HB := n2_; clear n0_ n1_ n2_))
  replace BK609 := asd (blk_drew BK609.out)
  replace BK610 := asd (blk_drew BK610.out)
  replace HB := asd (below_drew1 HB.out)
  refine sh 13 (cb3 BK609 (eb6 BK610)) (fun hHeld => ?_); refine with_tabW laws_FnExactCyclicOf.tab5 laws_FnExactCyclicOf.bits5 (fun HT_ HW_ => ?_)
  generalize w19.drew = w20 at BK609 BK610 HB hHeld ⊢
  refine pu 0 (some 26) (bT 13 1) HT_ ?_
  refine pu 3 (some 29) (bs 13 9) HT_ ?_
  refine ta 1 (some 27) (bs 13 11) HT_ HW_ hHeld ?_
  refine ta 5 (some 31) (bs 13 43) HT_ HW_ hHeld ?_
  refine ro 2 (some 28) (bs 13 47) HT_ (fun K hK => ?_)
  refine gs Tryz.func10 #[.agg #[.int .i64 a1_0, .int .i64 a1_1, .int .i64 a1_2]] ?_
  with_reducible refine (laws_toLattice.calls _ _ _ _ _ _ _ A9.out).mono ?_
  rintro e w21 ⟨rfl, hb⟩
  refine ⟨_, rfl, ?_⟩
  replace BK609 := bB BK609 hb
  replace BK610 := bB BK610 hb
  replace HB := bS2 HB GE609 GE610 hb
  (try clear hb)
  (try clear hb2)
  (try clear hk)
  (try clear hi)
  refine hK.out _ _ (cb3 BK609 (eb6 BK610)).out (fun hHeld => ?_)
  clear hK K
  refine norm_ (a' := ?_) ?_ ?_
  rotate_left
  ·show Act.put _ (some 28) _ = _
   simp only [Act.put, sA, sB, sC, i64_w, i32_w]
   rfl
  refine ro 4 (some 30) (bT 13 6) HT_ (fun K hK => ?_)
  refine gs Tryz.func11 #[.slice A2 l2.length c2] ?_
  with_reducible refine (laws_toMotionS.calls _ _ _ _ _ _ ?side1 ?side2 A10.out).mono ?_
  (case side1 => exact ks (Kd.C_below HR2.out HB.out))
  (case side2 => exact HC2.out)
  rintro e w22 ⟨v616, rfl, ho0, hb⟩
  refine ⟨_, rfl, ?_⟩
  have HO617 := asd (Kd.R_lower ho0 (bsz2 HB GE609 GE610))
  replace BK609 := bB BK609 hb
  replace BK610 := bB BK610 hb
  replace HB := bS2 HB GE609 GE610 hb
  (try clear hb)
  (try clear hb2)
  (try clear hk)
  (try clear hi)
  (try clear ho0)
  refine hK.out _ _ (cb3 BK609 (eb6 BK610)).out (fun hHeld => ?_)
  clear hK K
  refine norm_ (a' := ?_) ?_ ?_
  rotate_left
  ·show Act.put _ (some 30) _ = _
   simp only [Act.put, sA, sB, sC, i64_w, i32_w]
   rfl
  refine ro 6 (some 32) (bT 13 7) HT_ (fun K hK => ?_)
  refine gs Tryz.func20 #[.agg #[.int .i64 a3_0, .int .i64 a3_1, .int .i64 a3_2, .int .i64 a3_3, .int .i64 a3_4, .int .i64 a3_5]] ?_
  with_reducible refine (laws_toMotion.calls _ _ _ _ _ _ _ _ _ _ _ _ _ A11.out).mono ?_
  rintro e w23 ⟨rfl, hb⟩
  refine ⟨_, rfl, ?_⟩
  replace HO617 := asd (Kd.R_below (kr HO617) hb)
  replace BK609 := bB BK609 hb
  replace BK610 := bB BK610 hb
  replace HB := bS2 HB GE609 GE610 hb
  (try clear hb)
  (try clear hb2)
  (try clear hk)
  (try clear hi)
  obtain ⟨Ao24, co24, eo24⟩ := Kd.R_slice HO617.out
  (first | subst eo24 | (injection eo24 with f1_ f2_ f3_; have f4_ := f1_.symm; have f5_ := f3_.symm; clear f1_ f2_ f3_; subst f4_; subst f5_))
  refine hK.out _ _ (cb3 BK609 (eb6 BK610)).out (fun hHeld => ?_)
  clear hK K
  refine norm_ (a' := ?_) ?_ ?_
  rotate_left
  ·show Act.put _ (some 32) _ = _
   simp only [Act.put, sA, sB, sC, i64_w, i32_w]
   rfl
  refine ro 7 (some 33) (bT 13 8) HT_ (fun K hK => ?_)
  refine gs Tryz.func19 #[.int .i64 a0, .agg #[.int .i64 t612, .int .i64 t613, .int .i64 t614], .slice Ao24 t615.length co24, .agg #[.int .i64 t618, .int .i64 t619, .int .i64 t620, .int .i64 t621, .int .i64 t622, .int .i64 t623]] ?_
  with_reducible refine (spec_CyclicOf.calls _ _ _ _ _ _ _ _ _ _ _ _ _ _ _ _ _ ?side1 ?side2 A12.out).mono ?_
  (case side1 => exact ks (Kd.R_reads' HO617.out).2.2)
  (case side2 => exact (Kd.R_reads' HO617.out).2.1)
  rintro e w25 ⟨v625, rfl, ho0, hb⟩
  refine ⟨_, rfl, ?_⟩
  have HO626 := asd (Kd.R_lower (Kd.R_new' ho0 (Kd.R_lt (kr HO617))) (bsz2 HB GE609 GE610))
  replace HO617 := asd (Kd.R_elder' (kr HO617) (Kd.R_base ho0) hb)
  replace BK609 := bB BK609 hb
  replace BK610 := bB BK610 hb
  replace HB := bS2 HB GE609 GE610 hb
  (try clear hb)
  (try clear hb2)
  (try clear hk)
  (try clear hi)
  (try clear ho0)
  refine hK.out _ _ (cb3 BK609 (eb6 BK610)).out (fun hHeld => ?_)
  clear hK K
  refine norm_ (a' := ?_) ?_ ?_
  rotate_left
  ·show Act.put _ (some 33) _ = _
   simp only [Act.put, sA, sB, sC, i64_w, i32_w]
   rfl
  refine pu 8 (some 25) (bT 13 9) HT_ ?_
  refine pu 9 (some 34) (bT 13 10) HT_ ?_
  refine pu 10 (some 35) (bT 13 11) HT_ ?_
  refine pu 11 (some 10) (bT 13 12) HT_ ?_
  refine pu 12 (some 11) (bT 13 13) HT_ ?_
  refine done_ (done_of HT_.out (by kernel_rfl)) ?_
  try go_wp2_with (first | ((with_reducible refine gate_callee (f := 11) rfl ?_); refine gl 37 Tryz.func11 #[.slice A2 l2.length c2] ?_; (with_reducible refine (laws_toMotionS.calls _ _ _ _ _ _ ?side1 ?side2 A13.out).mono ?_); (case side1 => exact ks (Kd.C_below HR2.out HB.out)); (case side2 => exact HC2.out); rintro e w26 ⟨v629, rfl, ho0, hb⟩; refine ⟨_, rfl, ?_⟩; have HO630 := asd (Kd.R_lower (Kd.R_new' (Kd.R_new' ho0 (Kd.R_lt (kr HO617))) (Kd.R_lt (kr HO626))) (bsz2 HB GE609 GE610)); replace HO617 := asd (Kd.R_elder' (kr HO617) (Kd.R_base ho0) hb); replace HO626 := asd (Kd.R_elder' (kr HO626) (Kd.R_base ho0) hb); replace BK609 := bB BK609 hb; replace BK610 := bB BK610 hb; replace HB := bS2 HB GE609 GE610 hb; (try clear hb); (try clear hb2); (try clear hk); (try clear hi); (try clear ho0)))
  replace HO617 := asd (Kd.R_drew HO617.out)
  replace HO626 := asd (Kd.R_drew HO626.out)
  replace HO630 := asd (Kd.R_drew HO630.out)
  replace BK609 := asd (blk_drew BK609.out)
  replace BK610 := asd (blk_drew BK610.out)
  replace HB := asd (below_drew1 HB.out)
  refine sh 12 (cb3 BK609 (eb6 BK610)) (fun hHeld => ?_); refine with_tabW laws_FnExactCyclicOf.tab7 laws_FnExactCyclicOf.bits7 (fun HT_ HW_ => ?_)
  generalize w26.drew = w27 at HO617 HO626 HO630 BK609 BK610 HB hHeld ⊢
  refine pu 0 (some 39) (bT 12 1) HT_ ?_
  refine pu 3 (some 42) (bs 12 9) HT_ ?_
  refine ta 1 (some 40) (bs 12 11) HT_ HW_ hHeld ?_
  refine ta 4 (some 43) (bs 12 27) HT_ HW_ hHeld ?_
  refine ro 2 (some 41) (bT 12 5) HT_ (fun K hK => ?_)
  refine gs Tryz.func10 #[.agg #[.int .i64 a1_0, .int .i64 a1_1, .int .i64 a1_2]] ?_
  with_reducible refine (laws_toLattice.calls _ _ _ _ _ _ _ A14.out).mono ?_
  rintro e w28 ⟨rfl, hb⟩
  refine ⟨_, rfl, ?_⟩
  replace HO617 := asd (Kd.R_below (kr HO617) hb)
  replace HO626 := asd (Kd.R_below (kr HO626) hb)
  replace HO630 := asd (Kd.R_below (kr HO630) hb)
  replace BK609 := bB BK609 hb
  replace BK610 := bB BK610 hb
  replace HB := bS2 HB GE609 GE610 hb
  (try clear hb)
  (try clear hb2)
  (try clear hk)
  (try clear hi)
  refine hK.out _ _ (cb3 BK609 (eb6 BK610)).out (fun hHeld => ?_)
  clear hK K
  refine norm_ (a' := ?_) ?_ ?_
  rotate_left
  ·show Act.put _ (some 41) _ = _
   simp only [Act.put, sA, sB, sC, i64_w, i32_w]
   rfl
  refine ro 5 (some 44) (bT 12 6) HT_ (fun K hK => ?_)
  refine gs Tryz.func20 #[.agg #[.int .i64 a3_0, .int .i64 a3_1, .int .i64 a3_2, .int .i64 a3_3, .int .i64 a3_4, .int .i64 a3_5]] ?_
  with_reducible refine (laws_toMotion.calls _ _ _ _ _ _ _ _ _ _ _ _ _ A15.out).mono ?_
  rintro e w29 ⟨rfl, hb⟩
  refine ⟨_, rfl, ?_⟩
  replace HO617 := asd (Kd.R_below (kr HO617) hb)
  replace HO626 := asd (Kd.R_below (kr HO626) hb)
  replace HO630 := asd (Kd.R_below (kr HO630) hb)
  replace BK609 := bB BK609 hb
  replace BK610 := bB BK610 hb
  replace HB := bS2 HB GE609 GE610 hb
  (try clear hb)
  (try clear hb2)
  (try clear hk)
  (try clear hi)
  obtain ⟨Ao30, co30, eo30⟩ := Kd.R_slice HO630.out
  (first | subst eo30 | (injection eo30 with f1_ f2_ f3_; have f4_ := f1_.symm; have f5_ := f3_.symm; clear f1_ f2_ f3_; subst f4_; subst f5_))
  refine hK.out _ _ (cb3 BK609 (eb6 BK610)).out (fun hHeld => ?_)
  clear hK K
  refine norm_ (a' := ?_) ?_ ?_
  rotate_left
  ·show Act.put _ (some 44) _ = _
   simp only [Act.put, sA, sB, sC, i64_w, i32_w]
   rfl
  refine ro 6 (some 45) (bT 12 7) HT_ (fun K hK => ?_)
  refine gs Tryz.func21 #[.int .i64 a0, .agg #[.int .i64 t631, .int .i64 t632, .int .i64 t633], .slice Ao30 t628.length co30, .agg #[.int .i64 t634, .int .i64 t635, .int .i64 t636, .int .i64 t637, .int .i64 t638, .int .i64 t639]] ?_
  with_reducible refine (impl_CyclicOf.calls _ _ _ _ _ _ _ _ _ _ _ _ _ _ _ _ _ ?side1 ?side2 A16.out).mono ?_
  (case side1 => exact ks (Kd.R_reads' HO630.out).2.2)
  (case side2 => exact (Kd.R_reads' HO630.out).2.1)
  rintro e w31 ⟨v641, rfl, ho0, hb⟩
  refine ⟨_, rfl, ?_⟩
  have HO642 := asd (Kd.R_lower (Kd.R_new' (Kd.R_new' (Kd.R_new' ho0 (Kd.R_lt (kr HO617))) (Kd.R_lt (kr HO626))) (Kd.R_lt (kr HO630))) (bsz2 HB GE609 GE610))
  replace HO617 := asd (Kd.R_elder' (kr HO617) (Kd.R_base ho0) hb)
  replace HO626 := asd (Kd.R_elder' (kr HO626) (Kd.R_base ho0) hb)
  replace HO630 := asd (Kd.R_elder' (kr HO630) (Kd.R_base ho0) hb)
  replace BK609 := bB BK609 hb
  replace BK610 := bB BK610 hb
  replace HB := bS2 HB GE609 GE610 hb
  (try clear hb)
  (try clear hb2)
  (try clear hk)
  (try clear hi)
  (try clear ho0)
  refine hK.out _ _ (cb3 BK609 (eb6 BK610)).out (fun hHeld => ?_)
  clear hK K
  refine norm_ (a' := ?_) ?_ ?_
  rotate_left
  ·show Act.put _ (some 45) _ = _
   simp only [Act.put, sA, sB, sC, i64_w, i32_w]
   rfl
  refine pu 7 (some 38) (bT 12 8) HT_ ?_
  refine pu 8 (some 46) (bT 12 9) HT_ ?_
  refine pu 9 (some 47) (bT 12 10) HT_ ?_
  refine pu 10 (some 13) (bT 12 11) HT_ ?_
  refine pu 11 (some 14) (bT 12 12) HT_ ?_
  refine done_ (done_of HT_.out (by kernel_rfl)) ?_
  go_upto_region 8 with (fail)
  go_cut [56] (fun v56 wc => ∃ (kq : Nat) (x56_16 : Bool), v56 = .bool x56_16 ∧ Aside0 (laws_FnExactCyclicOf.j0 kq a0 l2 t624 t627 t628 t640 t643 x56_16 a1_0 a1_1 a1_2 a3_0 a3_1 a3_2 a3_3 a3_4 a3_5 = some true) ∧ Aside0 (kq ≤ k) ∧ Aside0 (Kd.R k48 48 wc w.heap.size (fun k_ => some k_ ≠ ((.slice Ao30 t628.length co30) : Value).ownBlock ∧ some k_ ≠ (v641 : Value).ownBlock) v625 t624) ∧ Aside0 (Kd.R k48 48 wc w.heap.size (fun k_ => some k_ ≠ (v625 : Value).ownBlock ∧ some k_ ≠ (v641 : Value).ownBlock) (.slice Ao30 t628.length co30) t628) ∧ Aside0 (Kd.R k48 48 wc w.heap.size (fun k_ => some k_ ≠ (v625 : Value).ownBlock ∧ some k_ ≠ ((.slice Ao30 t628.length co30) : Value).ownBlock) v641 t640) ∧ Aside0 (wc.heap[gb609]? = some (.cells #[.int .i64 a1_0, .int .i64 a1_1, .int .i64 a1_2] 23 (0, 0))) ∧ Aside0 (wc.heap[gb610]? = some (.cells #[.int .i64 a3_0, .int .i64 a3_1, .int .i64 a3_2, .int .i64 a3_3, .int .i64 a3_4, .int .i64 a3_5] 44 (0, 0))) ∧ Aside0 (Below w.heap.size w wc))
  case first =>
   have H := HC17.out
   clear HC17
   obtain ⟨t644, A32, H⟩ := ob H
   try dsimp only at H
   by_cases c33 : t644 = true
   subst c33
   replace H := ifT H
   have H' := Aside0.mk H
   clear H
   rotate_left
   replace c33 := Bool.eq_false_iff.mpr c33
   subst c33
   replace H := ifF H
   have H' := Aside0.mk H
   clear H
   rotate_left
   all_goals
    obtain ⟨Ao34, co34, eo34⟩ := Kd.R_slice HO642.out
    subst eo34
    obtain ⟨Ao35, co35, eo35⟩ := Kd.R_slice HO626.out
    subst eo35
    go_wp2_with (first | ((with_reducible refine gate_callee (f := 13) rfl ?_); refine gl 50 Tryz.func13 #[.slice Ao34 t640.length co34, .slice Ao35 t624.length co35] ?_; (with_reducible refine (laws_eqMotionS.calls _ _ _ _ _ _ _ _ _ ?side1 ?side2 ?side3 ?side4 A32.out).mono ?_); (case side1 => exact ks (Kd.R_reads' HO642.out).2.2); (case side2 => exact (Kd.R_reads' HO642.out).2.1); (case side3 => exact ks (Kd.R_reads' HO626.out).2.2); (case side4 => exact (Kd.R_reads' HO626.out).2.1); rintro e w36 ⟨rfl, hb⟩; refine ⟨_, rfl, ?_⟩; replace HO617 := asd (Kd.R_below (kr HO617) hb); replace HO626 := asd (Kd.R_below (kr HO626) hb); replace HO630 := asd (Kd.R_below (kr HO630) hb); replace HO642 := asd (Kd.R_below (kr HO642) hb); replace BK609 := bB BK609 hb; replace BK610 := bB BK610 hb; replace HB := bS2 HB GE609 GE610 hb; (try clear hb)))
    go_meet
   ·case rel => exact ⟨_, ((t643 != t627)), (by first | rfl | (simp; done) | (simp [*]; done)), H', ⟨by first | omega | exact Nat.le_refl _⟩, ⟨by (with_reducible repeat (first | apply Kd.R_alloc | apply Kd.R_drewN | apply Kd.R_drew)); exact Kd.R_mono HO626.out (fun _ hk => ⟨hk.1.2, hk.2⟩)⟩, ⟨by (with_reducible repeat (first | apply Kd.R_alloc | apply Kd.R_drewN | apply Kd.R_drew)); exact Kd.R_mono HO630.out (fun _ hk => ⟨hk.1.2, hk.2⟩)⟩, ⟨by (with_reducible repeat (first | apply Kd.R_alloc | apply Kd.R_drewN | apply Kd.R_drew)); exact Kd.R_mono HO642.out (fun _ hk => ⟨hk.1.2, hk.2⟩)⟩, ⟨bkp BK609⟩, ⟨bkp BK610⟩, ⟨bbw2 HB GE609 GE610⟩⟩
   ·case rel => exact ⟨_, (true), (by first | rfl | (simp; done) | (simp [*]; done)), H', ⟨by first | omega | exact Nat.le_refl _⟩, ⟨by (with_reducible repeat (first | apply Kd.R_alloc | apply Kd.R_drewN | apply Kd.R_drew)); exact Kd.R_mono HO626.out (fun _ hk => ⟨hk.1.2, hk.2⟩)⟩, ⟨by (with_reducible repeat (first | apply Kd.R_alloc | apply Kd.R_drewN | apply Kd.R_drew)); exact Kd.R_mono HO630.out (fun _ hk => ⟨hk.1.2, hk.2⟩)⟩, ⟨by (with_reducible repeat (first | apply Kd.R_alloc | apply Kd.R_drewN | apply Kd.R_drew)); exact Kd.R_mono HO642.out (fun _ hk => ⟨hk.1.2, hk.2⟩)⟩, ⟨bkp BK609⟩, ⟨bkp BK610⟩, ⟨bbw2 HB GE609 GE610⟩⟩
  case rest =>
   clear HC17
   try clear c1
   try clear c2
   try clear p2
   try clear c3
   try clear c5
   try clear c6
   try clear c6b0
   try clear c8
   try clear c10
   try clear c11
   try clear c13
   try clear c19
   try clear c20
   try clear c21
   try clear c33
   obtain ⟨kq, x56_16, rfl, HA, HJ16, HO_10, HO_12, HO_13, BK609, BK610, HB⟩ := hcut
   cases kq with
   | zero => exact absurd HA.out (by simp [laws_FnExactCyclicOf.j0])
   | succ kj16 =>
    have H := HA.out
    clear HA
    simp only [laws_FnExactCyclicOf.j0] at H
    by_cases c40 : x56_16 = true
    ·subst c40
     replace H := ifT H
     exact absurd H (by simp)
    ·replace c40 := Bool.eq_false_iff.mpr c40
     subst c40
     replace H := ifF H
     obtain ⟨t645, A41, H⟩ := ob H
     try dsimp only at H
     obtain ⟨t648, A42, H⟩ := ob H
     try dsimp only at H
     by_cases c43 : t648 = true
     ·subst c43
      replace H := ifT H
      obtain ⟨⟨t649, t650⟩, A44, H⟩ := ob H
      try dsimp only at H
      have HC45 := Aside0.mk H
      clear H
      go_upto_region 14 with (first | ((with_reducible refine gate_callee (f := 11) rfl ?_); refine gl 59 Tryz.func11 #[.slice A2 l2.length c2] ?_; (with_reducible refine (laws_toMotionS.calls _ _ _ _ _ _ ?side1 ?side2 A41.out).mono ?_); (case side1 => exact ks (Kd.C_below HR2.out HB.out)); (case side2 => exact HC2.out); rintro e w46 ⟨v646, rfl, ho0, hb⟩; refine ⟨_, rfl, ?_⟩; have HO647 := asd (Kd.R_lower (Kd.R_new' (Kd.R_new' (Kd.R_new' ho0 (Kd.R_lt (kr HO_10))) (Kd.R_lt (kr HO_12))) (Kd.R_lt (kr HO_13))) (bsz2 HB GE609 GE610)); replace HO_10 := asd (Kd.R_elder' (kr HO_10) (Kd.R_base ho0) hb); replace HO_12 := asd (Kd.R_elder' (kr HO_12) (Kd.R_base ho0) hb); replace HO_13 := asd (Kd.R_elder' (kr HO_13) (Kd.R_base ho0) hb); replace BK609 := bB BK609 hb; replace BK610 := bB BK610 hb; replace HB := bS2 HB GE609 GE610 hb; (try clear hb); (try clear hb2); (try clear hk); (try clear hi); (try clear ho0); obtain ⟨Ao47, co47, eo47⟩ := Kd.R_slice HO647.out; subst eo47) | ((with_reducible refine gate_callee (f := 13) rfl ?_); refine gl 60 Tryz.func13 #[.slice Ao30 t628.length co30, .slice Ao47 t645.length co47] ?_; (with_reducible refine (laws_eqMotionS.calls _ _ _ _ _ _ _ _ _ ?side1 ?side2 ?side3 ?side4 A42.out).mono ?_); (case side1 => exact ks (Kd.R_reads' HO_12.out).2.2); (case side2 => exact (Kd.R_reads' HO_12.out).2.1); (case side3 => exact ks (Kd.R_reads' HO647.out).2.2); (case side4 => exact (Kd.R_reads' HO647.out).2.1); rintro e w48 ⟨rfl, hb⟩; refine ⟨_, rfl, ?_⟩; replace HO_10 := asd (Kd.R_below (kr HO_10) hb); replace HO_12 := asd (Kd.R_below (kr HO_12) hb); replace HO_13 := asd (Kd.R_below (kr HO_13) hb); replace HO647 := asd (Kd.R_below (kr HO647) hb); replace BK609 := bB BK609 hb; replace BK610 := bB BK610 hb; replace HB := bS2 HB GE609 GE610 hb; (try clear hb)) | ((with_reducible refine gate_callee (f := 14) rfl ?_); refine gl 64 Tryz.func14 #[.slice Ao30 t628.length co30, .int .i64 1] ?_; (with_reducible refine (laws_markMotionS.calls _ (fun k_ => some k_ = (.slice Ao30 t628.length co30 : Value).ownBlock) _ _ _ _ _ w _ ?side1 ?side2 A44.out).mono ?_); (case side1 => repeat (first | (with_reducible first | exact HB.out | apply below_alloc | apply pw_below_drewN | apply below_drew1 | refine below_set ?_ GE609.out | refine below_set ?_ GE610.out) | exact HB.out)); (case side2 => exact Kd.R_tight rfl HO_12.out); rintro e w49 ⟨rfl, hy0, hb, hkp⟩; refine ⟨_, rfl, ?_⟩; replace HO_10 := asd (Kd.R_mono (ok' := fun k_ => some k_ ≠ (.slice Ao30 t628.length co30 : Value).ownBlock ∧ some k_ ≠ (v641 : Value).ownBlock ∧ some k_ ≠ (.slice Ao47 t645.length co47 : Value).ownBlock) (Kd.R_keptB (HO_10.out) hkp (fun k_ hk_ hs_ => (hk_.1.1) hs_)) (fun k_ hk_ => ⟨hk_.1.1.1, hk_.1.1.2, hk_.1.2⟩)); replace HO_13 := asd (Kd.R_mono (ok' := fun k_ => some k_ ≠ (v625 : Value).ownBlock ∧ some k_ ≠ (.slice Ao30 t628.length co30 : Value).ownBlock ∧ some k_ ≠ (.slice Ao47 t645.length co47 : Value).ownBlock) (Kd.R_keptB (HO_13.out) hkp (fun k_ hk_ hs_ => (hk_.1.2) hs_)) (fun k_ hk_ => ⟨hk_.1.1.1, hk_.1.1.2, hk_.1.2⟩)); replace BK609 := asd (blk_kept (bkp BK609) hkp (fun hs_ => (fun e_ => (Kd.R_ne HO_12.out BK609.out (by decide)) e_) hs_)); replace BK610 := asd (blk_kept (bkp BK610) hkp (fun hs_ => (fun e_ => (Kd.R_ne HO_12.out BK610.out (by decide)) e_) hs_)); replace HO_12 := asd (Kd.R_reok rfl hy0 (fun k_ e_ => HO_12.out.1 k_ e_)); replace HO647 := asd (Kd.R_mono (ok' := fun k_ => some k_ ≠ (v625 : Value).ownBlock ∧ some k_ ≠ (.slice Ao30 t628.length co30 : Value).ownBlock ∧ some k_ ≠ (v641 : Value).ownBlock) (Kd.R_keptB (HO647.out) hkp (fun k_ hk_ hs_ => (hk_.1.2) hs_)) (fun k_ hk_ => ⟨hk_.1.1.1.2, hk_.1.1.2, hk_.1.2⟩)); replace HB := asd (hb); (try clear hb); (try clear hkp); (try clear hy0)))
      (try simp only [Act.put, sA, sB, sC])
      go_cut [77] (fun v77 wc => ∃ (kq : Nat) (x77_44 : Bool), v77 = .bool x77_44 ∧ Aside0 (laws_FnExactCyclicOf.j1 kq a0 l2 t624 t627 t640 x77_44 a1_0 a1_1 a1_2 a3_0 a3_1 a3_2 a3_3 a3_4 a3_5 = some true) ∧ Aside0 (kq ≤ kj16) ∧ Aside0 (Kd.R k48 48 wc w.heap.size (fun k_ => some k_ ≠ (v641 : Value).ownBlock) v625 t624) ∧ Aside0 (Kd.R k48 48 wc w.heap.size (fun k_ => some k_ ≠ (v625 : Value).ownBlock) v641 t640) ∧ Aside0 (wc.heap[gb609]? = some (.cells #[.int .i64 a1_0, .int .i64 a1_1, .int .i64 a1_2] 23 (0, 0))) ∧ Aside0 (wc.heap[gb610]? = some (.cells #[.int .i64 a3_0, .int .i64 a3_1, .int .i64 a3_2, .int .i64 a3_3, .int .i64 a3_4, .int .i64 a3_5] 44 (0, 0))) ∧ Aside0 (Below w.heap.size w wc))
      case first =>
       have H := HC45.out
       clear HC45
       by_cases c50 : t649 < 0
       ·rw [if_pos c50] at H
        have c50b0 := decide_eq_true c50
        clear c50
        (first | rw [c50b0] | (simp only [i64_w, i32_w]; rw [c50b0]) | skip)
        have H' := Aside0.mk H
        clear H
        go_wp2
        go_meet
        case rel => exact ⟨_, (true), (by first | rfl | (simp; done) | (simp [*]; done)), H', ⟨by have := HJ16.out; first | omega | exact Nat.le_refl _⟩, ⟨by (with_reducible repeat (first | apply Kd.R_alloc | apply Kd.R_drewN | apply Kd.R_drew)); exact Kd.R_mono HO_10.out (fun _ hk => hk.2.1)⟩, ⟨by (with_reducible repeat (first | apply Kd.R_alloc | apply Kd.R_drewN | apply Kd.R_drew)); exact Kd.R_mono HO_13.out (fun _ hk => hk.1)⟩, ⟨bkp BK609⟩, ⟨bkp BK610⟩, ⟨bbw2 HB GE609 GE610⟩⟩
       ·rw [if_neg c50] at H
        have c50b0 := decide_eq_false c50
        clear c50
        (first | rw [c50b0] | (simp only [i64_w, i32_w]; rw [c50b0]) | skip)
        obtain ⟨t651, A51, H⟩ := ob H
        try dsimp only at H
        by_cases c52 : t651 = true
        subst c52
        replace H := ifT H
        have H' := Aside0.mk H
        clear H
        rotate_left
        replace c52 := Bool.eq_false_iff.mpr c52
        subst c52
        replace H := ifF H
        have H' := Aside0.mk H
        clear H
        rotate_left
        all_goals
         obtain ⟨Ao53, co53, eo53⟩ := Kd.R_slice HO_13.out
         subst eo53
         obtain ⟨Ao54, co54, eo54⟩ := Kd.R_slice HO_10.out
         subst eo54
         go_wp2_with (first | (go_at_call 13; (with_reducible refine (laws_eqMotionS.calls _ _ _ _ _ _ _ _ _ ?side1 ?side2 ?side3 ?side4 A51.out).mono ?_); (case side1 => exact ks (Kd.R_reads' HO_13.out).2.2); (case side2 => exact (Kd.R_reads' HO_13.out).2.1); (case side3 => exact ks (Kd.R_reads' HO_10.out).2.2); (case side4 => exact (Kd.R_reads' HO_10.out).2.1); rintro e w55 ⟨rfl, hb⟩; replace HO_10 := asd (Kd.R_below (kr HO_10) hb); replace HO_12 := asd (Kd.R_below (kr HO_12) hb); replace HO_13 := asd (Kd.R_below (kr HO_13) hb); replace HO647 := asd (Kd.R_below (kr HO647) hb); replace BK609 := bB BK609 hb; replace BK610 := bB BK610 hb; replace HB := bS2 HB GE609 GE610 hb; (try clear hb)))
         go_meet
        ·case rel => exact ⟨_, ((t643 != t627)), (by first | rfl | (simp; done) | (simp [*]; done)), H', ⟨by have := HJ16.out; first | omega | exact Nat.le_refl _⟩, ⟨by (with_reducible repeat (first | apply Kd.R_alloc | apply Kd.R_drewN | apply Kd.R_drew)); exact Kd.R_mono HO_10.out (fun _ hk => hk.2.1)⟩, ⟨by (with_reducible repeat (first | apply Kd.R_alloc | apply Kd.R_drewN | apply Kd.R_drew)); exact Kd.R_mono HO_13.out (fun _ hk => hk.1)⟩, ⟨bkp BK609⟩, ⟨bkp BK610⟩, ⟨bbw2 HB GE609 GE610⟩⟩
        ·case rel => exact ⟨_, (true), (by first | rfl | (simp; done) | (simp [*]; done)), H', ⟨by have := HJ16.out; first | omega | exact Nat.le_refl _⟩, ⟨by (with_reducible repeat (first | apply Kd.R_alloc | apply Kd.R_drewN | apply Kd.R_drew)); exact Kd.R_mono HO_10.out (fun _ hk => hk.2.1)⟩, ⟨by (with_reducible repeat (first | apply Kd.R_alloc | apply Kd.R_drewN | apply Kd.R_drew)); exact Kd.R_mono HO_13.out (fun _ hk => hk.1)⟩, ⟨bkp BK609⟩, ⟨bkp BK610⟩, ⟨bbw2 HB GE609 GE610⟩⟩
      case rest =>
       clear HC45
       try clear c1
       try clear c2
       try clear p2
       try clear c3
       try clear c4
       try clear c5
       try clear c6
       try clear c6b0
       try clear c8
       try clear c10
       try clear c11
       try clear c13
       try clear c14
       try clear c19
       try clear c20
       try clear c21
       try clear c33
       try clear c40
       try clear c43
       try clear c50
       try clear c50b0
       try clear c52
       try clear p2
       obtain ⟨kq, x77_44, rfl, HA, HJ44, HO_10, HO_13, BK609, BK610, HB⟩ := hcut
       cases kq with
       | zero => exact absurd HA.out (by simp [laws_FnExactCyclicOf.j1])
       | succ kj44 =>
        have H := HA.out
        clear HA
        simp only [laws_FnExactCyclicOf.j1] at H
        by_cases c59 : x77_44 = true
        ·subst c59
         replace H := ifT H
         exact absurd H (by simp)
        ·replace c59 := Bool.eq_false_iff.mpr c59
         subst c59
         replace H := ifF H
         obtain ⟨⟨t652, t653⟩, A60, H⟩ := ob H
         try dsimp only at H
         obtain ⟨t654, A61, H⟩ := ob H
         try dsimp only at H
         by_cases c62 : t654 < 0
         ·rw [if_pos c62] at H
          have c62b0 := decide_eq_true c62
          clear c62
          exact absurd H (by simp)
         ·rw [if_neg c62] at H
          have c62b0 := decide_eq_false c62
          clear c62
          by_cases c63 : t654 = t652
          ·rw [if_pos c63] at H
           have c63b0 : (t654 == t652) = true := beq_iff_eq.mpr c63
           have c63b1 : (t654 != t652) = false := bne_eq_false_iff_eq.mpr c63
           clear c63
           obtain ⟨⟨t655, t656, t657⟩, A64, H⟩ := ob H
           try dsimp only at H
           obtain ⟨t658, A65, H⟩ := ob H
           try dsimp only at H
           obtain ⟨⟨t661, t662, t663, t664, t665, t666⟩, A66, H⟩ := ob H
           try dsimp only at H
           obtain ⟨⟨t667, t670⟩, A67, H⟩ := ob H
           try dsimp only at H
           have HC68 := Aside0.mk H
           clear H
           obtain ⟨Ao69, co69, eo69⟩ := Kd.R_slice HO_13.out
           subst eo69
           try go_wp2_with (first | ((with_reducible refine gate_callee (f := 14) rfl ?_); refine gl 80 Tryz.func14 #[.slice Ao69 t640.length co69, .int .i64 1] ?_; (with_reducible refine (laws_markMotionS.calls _ (fun k_ => some k_ = (.slice Ao69 t640.length co69 : Value).ownBlock) _ _ _ _ _ w _ ?side1 ?side2 A60.out).mono ?_); (case side1 => repeat (first | (with_reducible first | exact HB.out | apply below_alloc | apply pw_below_drewN | apply below_drew1 | refine below_set ?_ GE609.out | refine below_set ?_ GE610.out) | exact HB.out)); (case side2 => exact Kd.R_tight rfl HO_13.out); rintro e w70 ⟨rfl, hy0, hb, hkp⟩; refine ⟨_, rfl, ?_⟩; replace HO_10 := asd (Kd.R_mono (ok' := fun k_ => some k_ ≠ (.slice Ao69 t640.length co69 : Value).ownBlock) (Kd.R_keptB (HO_10.out) hkp (fun k_ hk_ hs_ => (hk_) hs_)) (fun k_ hk_ => hk_.1)); replace BK609 := asd (blk_kept (bkp BK609) hkp (fun hs_ => (fun e_ => (Kd.R_ne HO_13.out BK609.out (by decide)) e_) hs_)); replace BK610 := asd (blk_kept (bkp BK610) hkp (fun hs_ => (fun e_ => (Kd.R_ne HO_13.out BK610.out (by decide)) e_) hs_)); replace HO_13 := asd (Kd.R_reok rfl hy0 (fun k_ e_ => HO_13.out.1 k_ e_)); replace HB := asd (hb); (try clear hb); (try clear hkp); (try clear hy0)) | ((with_reducible refine gate_callee (f := 15) rfl ?_); refine goesL_ (some 83) rfl rfl Tryz.func15 (by kernel_rfl) rfl #[.slice Ao69 t653.length co69, .int .i64 1] rfl (by (try simp only [List.map_toArray, List.map_cons, List.map_nil]); first | done | (rw [show t653.length = t640.length from (Kd.R_reads' HO_13.out).1.symm] <;> rfl) | rfl | (simp only [List.length_drop, List.length_take]; rfl)) ?_; (with_reducible refine (laws_heldMotionS.calls _ _ _ _ _ _ _ ?side1 ?side2 A61.out).mono ?_); (case side1 => exact ks (Kd.R_reads' HO_13.out).2.2); (case side2 => rw [show t653.length = t640.length from (Kd.R_reads' HO_13.out).1.symm]; exact (Kd.R_reads' HO_13.out).2.1); rintro e w' ⟨rfl, ⟨nd, rfl⟩⟩; refine ⟨_, rfl, ?_⟩))
           (try (rw [drewN_self w70]; generalize hq_ : World.drewN w70 _ = w70; have n0_ : Aside0 (Kd.R k48 48 w70 w.heap.size (fun k_ => some k_ ≠ (.slice Ao69 t640.length co69 : Value).ownBlock) v625 t624) := ⟨by rw [← hq_]; exact (kr HO_10)⟩; have n1_ : Aside0 (Kd.R k48 48 w70 w.heap.size (fun k_ => some k_ ≠ (v625 : Value).ownBlock) (.slice Ao69 t640.length co69) t653) := ⟨by rw [← hq_]; exact (kr HO_13)⟩; have n2_ : Aside0 (w70.heap[gb609]? = some (.cells #[.int .i64 a1_0, .int .i64 a1_1, .int .i64 a1_2] 23 (0, 0))) := ⟨by rw [← hq_]; exact (bkp BK609)⟩; have n3_ : Aside0 (w70.heap[gb610]? = some (.cells #[.int .i64 a3_0, .int .i64 a3_1, .int .i64 a3_2, .int .i64 a3_3, .int .i64 a3_4, .int .i64 a3_5] 44 (0, 0))) := ⟨by rw [← hq_]; exact (bkp BK610)⟩; have n4_ : Aside0 (Below w.heap.size w w70) := ⟨by rw [← hq_]; exact (bbw2 HB GE609 GE610)⟩; clear HO_10 HO_13 BK609 BK610 HB hq_; have HO_10 := n0_; have HO_13 := n1_; have BK609 := n2_; have BK610 := n3_; have HB := n4_; clear n0_ n1_ n2_ n3_ n4_))
           replace HO_10 := asd (Kd.R_drew HO_10.out)
           replace HO_13 := asd (Kd.R_drew HO_13.out)
           replace BK609 := asd (blk_drew BK609.out)
           replace BK610 := asd (blk_drew BK610.out)
           replace HB := asd (below_drew1 HB.out)
           refine sh 13 (cb3 BK609 (eb6 BK610)) (fun hHeld => ?_); refine with_tabW laws_FnExactCyclicOf.tab24 laws_FnExactCyclicOf.bits24 (fun HT_ HW_ => ?_)
           generalize w70.drew = w71 at HO_10 HO_13 BK609 BK610 HB hHeld ⊢
           refine pu 0 (some 90) (bT 13 1) HT_ ?_
           refine pu 3 (some 93) (bs 13 9) HT_ ?_
           refine ta 1 (some 91) (bs 13 11) HT_ HW_ hHeld ?_
           refine ta 5 (some 95) (bs 13 43) HT_ HW_ hHeld ?_
           refine ro 2 (some 92) (bs 13 47) HT_ (fun K hK => ?_)
           refine gs Tryz.func10 #[.agg #[.int .i64 a1_0, .int .i64 a1_1, .int .i64 a1_2]] ?_
           with_reducible refine (laws_toLattice.calls _ _ _ _ _ _ _ A64.out).mono ?_
           rintro e w72 ⟨rfl, hb⟩
           refine ⟨_, rfl, ?_⟩
           replace HO_10 := asd (Kd.R_below (kr HO_10) hb)
           replace HO_13 := asd (Kd.R_below (kr HO_13) hb)
           replace BK609 := bB BK609 hb
           replace BK610 := bB BK610 hb
           replace HB := bS2 HB GE609 GE610 hb
           (try clear hb)
           (try clear hb2)
           (try clear hk)
           (try clear hi)
           refine hK.out _ _ (cb3 BK609 (eb6 BK610)).out (fun hHeld => ?_)
           clear hK K
           refine norm_ (a' := ?_) ?_ ?_
           rotate_left
           ·show Act.put _ (some 92) _ = _
            simp only [Act.put, sA, sB, sC, i64_w, i32_w]
            rfl
           refine ro 4 (some 94) (bT 13 6) HT_ (fun K hK => ?_)
           refine gs Tryz.func11 #[.slice A2 l2.length c2] ?_
           with_reducible refine (laws_toMotionS.calls _ _ _ _ _ _ ?side1 ?side2 A65.out).mono ?_
           (case side1 => exact ks (Kd.C_below HR2.out HB.out))
           (case side2 => exact HC2.out)
           rintro e w73 ⟨v659, rfl, ho0, hb⟩
           refine ⟨_, rfl, ?_⟩
           have HO660 := asd (Kd.R_lower (Kd.R_new' (Kd.R_new' ho0 (Kd.R_lt (kr HO_10))) (Kd.R_lt (kr HO_13))) (bsz2 HB GE609 GE610))
           replace HO_10 := asd (Kd.R_elder' (kr HO_10) (Kd.R_base ho0) hb)
           replace HO_13 := asd (Kd.R_elder' (kr HO_13) (Kd.R_base ho0) hb)
           replace BK609 := bB BK609 hb
           replace BK610 := bB BK610 hb
           replace HB := bS2 HB GE609 GE610 hb
           (try clear hb)
           (try clear hb2)
           (try clear hk)
           (try clear hi)
           (try clear ho0)
           refine hK.out _ _ (cb3 BK609 (eb6 BK610)).out (fun hHeld => ?_)
           clear hK K
           refine norm_ (a' := ?_) ?_ ?_
           rotate_left
           ·show Act.put _ (some 94) _ = _
            simp only [Act.put, sA, sB, sC, i64_w, i32_w]
            rfl
           refine ro 6 (some 96) (bT 13 7) HT_ (fun K hK => ?_)
           refine gs Tryz.func20 #[.agg #[.int .i64 a3_0, .int .i64 a3_1, .int .i64 a3_2, .int .i64 a3_3, .int .i64 a3_4, .int .i64 a3_5]] ?_
           with_reducible refine (laws_toMotion.calls _ _ _ _ _ _ _ _ _ _ _ _ _ A66.out).mono ?_
           rintro e w74 ⟨rfl, hb⟩
           refine ⟨_, rfl, ?_⟩
           replace HO_10 := asd (Kd.R_below (kr HO_10) hb)
           replace HO_13 := asd (Kd.R_below (kr HO_13) hb)
           replace HO660 := asd (Kd.R_below (kr HO660) hb)
           replace BK609 := bB BK609 hb
           replace BK610 := bB BK610 hb
           replace HB := bS2 HB GE609 GE610 hb
           (try clear hb)
           (try clear hb2)
           (try clear hk)
           (try clear hi)
           obtain ⟨Ao75, co75, eo75⟩ := Kd.R_slice HO660.out
           (first | subst eo75 | (injection eo75 with f1_ f2_ f3_; have f4_ := f1_.symm; have f5_ := f3_.symm; clear f1_ f2_ f3_; subst f4_; subst f5_))
           refine hK.out _ _ (cb3 BK609 (eb6 BK610)).out (fun hHeld => ?_)
           clear hK K
           refine norm_ (a' := ?_) ?_ ?_
           rotate_left
           ·show Act.put _ (some 96) _ = _
            simp only [Act.put, sA, sB, sC, i64_w, i32_w]
            rfl
           refine ro 7 (some 97) (bT 13 8) HT_ (fun K hK => ?_)
           refine gs Tryz.func21 #[.int .i64 a0, .agg #[.int .i64 t655, .int .i64 t656, .int .i64 t657], .slice Ao75 t658.length co75, .agg #[.int .i64 t661, .int .i64 t662, .int .i64 t663, .int .i64 t664, .int .i64 t665, .int .i64 t666]] ?_
           with_reducible refine (impl_CyclicOf.calls _ _ _ _ _ _ _ _ _ _ _ _ _ _ _ _ _ ?side1 ?side2 A67.out).mono ?_
           (case side1 => exact ks (Kd.R_reads' HO660.out).2.2)
           (case side2 => exact (Kd.R_reads' HO660.out).2.1)
           rintro e w76 ⟨v668, rfl, ho0, hb⟩
           refine ⟨_, rfl, ?_⟩
           have HO669 := asd (Kd.R_lower (Kd.R_new' (Kd.R_new' (Kd.R_new' ho0 (Kd.R_lt (kr HO_10))) (Kd.R_lt (kr HO_13))) (Kd.R_lt (kr HO660))) (bsz2 HB GE609 GE610))
           replace HO_10 := asd (Kd.R_elder' (kr HO_10) (Kd.R_base ho0) hb)
           replace HO_13 := asd (Kd.R_elder' (kr HO_13) (Kd.R_base ho0) hb)
           replace HO660 := asd (Kd.R_elder' (kr HO660) (Kd.R_base ho0) hb)
           replace BK609 := bB BK609 hb
           replace BK610 := bB BK610 hb
           replace HB := bS2 HB GE609 GE610 hb
           (try clear hb)
           (try clear hb2)
           (try clear hk)
           (try clear hi)
           (try clear ho0)
           refine hK.out _ _ (cb3 BK609 (eb6 BK610)).out (fun hHeld => ?_)
           clear hK K
           refine norm_ (a' := ?_) ?_ ?_
           rotate_left
           ·show Act.put _ (some 97) _ = _
            simp only [Act.put, sA, sB, sC, i64_w, i32_w]
            rfl
           refine pu 8 (some 89) (bT 13 9) HT_ ?_
           refine pu 9 (some 98) (bT 13 10) HT_ ?_
           refine pu 10 (some 99) (bT 13 11) HT_ ?_
           refine pu 11 (some 18) (bT 13 12) HT_ ?_
           refine pu 12 (some 19) (bT 13 13) HT_ ?_
           refine done_ (done_of HT_.out (by kernel_rfl)) ?_
           go_upto_region 25 with (fail)
           go_cut [108] (fun v108 wc => ∃ (kq : Nat) (x108_67 : Bool), v108 = .bool x108_67 ∧ Aside0 (laws_FnExactCyclicOf.j2 kq t653 t652 x108_67 = some true) ∧ Aside0 (kq ≤ kj44) ∧ Aside0 (Kd.R k48 48 wc w.heap.size (fun _ => True) (.slice Ao69 t640.length co69) t653) ∧ Aside0 (wc.heap[gb609]? = some (.cells #[.int .i64 a1_0, .int .i64 a1_1, .int .i64 a1_2] 23 (0, 0))) ∧ Aside0 (wc.heap[gb610]? = some (.cells #[.int .i64 a3_0, .int .i64 a3_1, .int .i64 a3_2, .int .i64 a3_3, .int .i64 a3_4, .int .i64 a3_5] 44 (0, 0))) ∧ Aside0 (Below w.heap.size w wc))
           case first =>
            have H := HC68.out
            clear HC68
            obtain ⟨t671, A77, H⟩ := ob H
            try dsimp only at H
            by_cases c78 : t671 = true
            subst c78
            replace H := ifT H
            have H' := Aside0.mk H
            clear H
            rotate_left
            replace c78 := Bool.eq_false_iff.mpr c78
            subst c78
            replace H := ifF H
            have H' := Aside0.mk H
            clear H
            rotate_left
            all_goals
             obtain ⟨Ao79, co79, eo79⟩ := Kd.R_slice HO669.out
             subst eo79
             obtain ⟨Ao80, co80, eo80⟩ := Kd.R_slice HO_10.out
             subst eo80
             go_wp2_with (first | ((with_reducible refine gate_callee (f := 13) rfl ?_); refine gl 102 Tryz.func13 #[.slice Ao79 t667.length co79, .slice Ao80 t624.length co80] ?_; (with_reducible refine (laws_eqMotionS.calls _ _ _ _ _ _ _ _ _ ?side1 ?side2 ?side3 ?side4 A77.out).mono ?_); (case side1 => exact ks (Kd.R_reads' HO669.out).2.2); (case side2 => exact (Kd.R_reads' HO669.out).2.1); (case side3 => exact ks (Kd.R_reads' HO_10.out).2.2); (case side4 => exact (Kd.R_reads' HO_10.out).2.1); rintro e w81 ⟨rfl, hb⟩; refine ⟨_, rfl, ?_⟩; replace HO_10 := asd (Kd.R_below (kr HO_10) hb); replace HO_13 := asd (Kd.R_below (kr HO_13) hb); replace HO660 := asd (Kd.R_below (kr HO660) hb); replace HO669 := asd (Kd.R_below (kr HO669) hb); replace BK609 := bB BK609 hb; replace BK610 := bB BK610 hb; replace HB := bS2 HB GE609 GE610 hb; (try clear hb)))
             go_meet
            ·case rel => exact ⟨_, ((t670 != t627)), (by first | rfl | (simp; done) | (simp [*]; done)), H', ⟨by have := HJ16.out; have := HJ44.out; first | omega | exact Nat.le_refl _⟩, ⟨by (with_reducible repeat (first | apply Kd.R_alloc | apply Kd.R_drewN | apply Kd.R_drew)); exact Kd.R_mono HO_13.out (fun _ hk => trivial)⟩, ⟨bkp BK609⟩, ⟨bkp BK610⟩, ⟨bbw2 HB GE609 GE610⟩⟩
            ·case rel => exact ⟨_, (true), (by first | rfl | (simp; done) | (simp [*]; done)), H', ⟨by have := HJ16.out; have := HJ44.out; first | omega | exact Nat.le_refl _⟩, ⟨by (with_reducible repeat (first | apply Kd.R_alloc | apply Kd.R_drewN | apply Kd.R_drew)); exact Kd.R_mono HO_13.out (fun _ hk => trivial)⟩, ⟨bkp BK609⟩, ⟨bkp BK610⟩, ⟨bbw2 HB GE609 GE610⟩⟩
           case rest =>
            clear HC68
            try clear c1
            try clear c2
            try clear p2
            try clear c3
            try clear c4
            try clear c5
            try clear c6
            try clear c6b0
            try clear c7
            try clear c8
            try clear c10
            try clear c11
            try clear c13
            try clear c14
            try clear c15
            try clear c19
            try clear c20
            try clear c21
            try clear c33
            try clear c40
            try clear c43
            try clear c50
            try clear c50b0
            try clear c52
            try clear c59
            try clear c62
            try clear c62b0
            try clear c63
            try clear c63b0
            try clear c63b1
            try clear c78
            try clear p2
            obtain ⟨kq, x108_67, rfl, HA, HJ67, HO_13, BK609, BK610, HB⟩ := hcut
            have hl13_67 := (Kd.R_reads' HO_13.out).1
            rw [hl13_67] at HO_13
            (try simp only [hl13_67])
            (try simp only [hl13_67] at BK609)
            (try simp only [hl13_67] at BK610)
            cases kq with
            | zero => exact absurd HA.out (by simp [laws_FnExactCyclicOf.j2])
            | succ kj67 =>
             have H := HA.out
             clear HA
             simp only [laws_FnExactCyclicOf.j2] at H
             by_cases c85 : x108_67 = true
             ·subst c85
              replace H := ifT H
              exact absurd H (by simp)
             ·replace c85 := Bool.eq_false_iff.mpr c85
              subst c85
              replace H := ifF H
              obtain ⟨t672, A86, H⟩ := ob H
              try dsimp only at H
              by_cases c87 : t672 < 0
              ·rw [if_pos c87] at H
               have c87b0 := decide_eq_true c87
               clear c87
               exact absurd H (by simp)
              ·rw [if_neg c87] at H
               have c87b0 := decide_eq_false c87
               clear c87
               by_cases c88 : t672 = t652
               ·rw [if_pos c88] at H
                have c88b0 : (t672 == t652) = true := beq_iff_eq.mpr c88
                have c88b1 : (t672 != t652) = false := bne_eq_false_iff_eq.mpr c88
                clear c88
                clear H
                go_wp2_with (first | ((with_reducible refine gate_callee (f := 15) rfl ?_); refine gl 111 Tryz.func15 #[.slice Ao69 t653.length co69, .int .i64 1] ?_; (with_reducible refine (laws_heldMotionS.calls _ _ _ _ _ _ _ ?side1 ?side2 A86.out).mono ?_); (case side1 => exact ks (Kd.R_reads' HO_13.out).2.2); (case side2 => exact (Kd.R_reads' HO_13.out).2.1); rintro e w' ⟨rfl, ⟨nd, rfl⟩⟩; refine ⟨_, rfl, ?_⟩))
                go_ret
                exact er (bbw2 HB GE609 GE610)
               ·rw [if_neg c88] at H
                have c88b0 : (t672 == t652) = false := beq_eq_false_iff_ne.mpr c88
                have c88b1 : (t672 != t652) = true := bne_iff_ne.mpr c88
                exact absurd H (by simp)
          ·rw [if_neg c63] at H
           have c63b0 : (t654 == t652) = false := beq_eq_false_iff_ne.mpr c63
           have c63b1 : (t654 != t652) = true := bne_iff_ne.mpr c63
           exact absurd H (by simp)
     ·replace c43 := Bool.eq_false_iff.mpr c43
      subst c43
      replace H := ifF H
      exact absurd H (by simp)
def laws_FnExactCyclicOf.Pure : Prop := ∀ (a0 : Int) (a1_0 : Int) (a1_1 : Int) (a1_2 : Int) (l2 : List (S44)) (a3_0 : Int) (a3_1 : Int) (a3_2 : Int) (a3_3 : Int) (a3_4 : Int) (a3_5 : Int), (Lit.int .i64 a0).wf = true → (Lit.int .i64 a1_0).wf = true → (Lit.int .i64 a1_1).wf = true → (Lit.int .i64 a1_2).wf = true → l2.length ≤ maxLen → (∀ x ∈ l2, (Lit.int .i64 x.f0.f0).wf = true ∧ (Lit.int .i64 x.f0.f1).wf = true ∧ (Lit.int .i64 x.f0.f2).wf = true ∧ (Lit.int .i64 x.f0.f3).wf = true ∧ (Lit.int .i64 x.f1.f0).wf = true ∧ (Lit.int .i64 x.f1.f1).wf = true) → (Lit.int .i64 a3_0).wf = true → (Lit.int .i64 a3_1).wf = true → (Lit.int .i64 a3_2).wf = true → (Lit.int .i64 a3_3).wf = true → (Lit.int .i64 a3_4).wf = true → (Lit.int .i64 a3_5).wf = true → ∃ k, laws_FnExactCyclicOf.f k a0 a1_0 a1_1 a1_2 l2 a3_0 a3_1 a3_2 a3_3 a3_4 a3_5 = some true
end Go.Proofs.YtdodghjnlekgeaaGreat.PA
