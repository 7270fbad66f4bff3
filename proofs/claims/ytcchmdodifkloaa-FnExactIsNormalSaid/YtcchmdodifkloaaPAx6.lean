/- Walks written by program: each Go function that the law reaches comes to the plain function beside it. -/
import Derived.Test.YtcchmdodifkloaaPAx0
import Derived.Test.YtcchmdodifkloaaPAx5
namespace Go.Proofs.Ytcchmdodifkloaa.PA
open Go.RowKit Go.Proofs.YtcchmdodifkloaaW.PrintWords Go.Proofs.YtcchmdodifkloaaW.PrintLast Go.Proofs.YtcchmdodifkloaaW.PrintMore
attribute [local go_sem] max2_int min2_int max_two min_two max_three min_three max_four min_four   -- for this text's walks alone
set_option linter.unusedVariables false
set_option linter.unusedSimpArgs false

/-! ### spec_IsMat: function 101 -/
def spec_IsMat.f (a0_0 : Int) (a0_1 : Int) (a0_2 : Int) (a0_3 : Int) : Option (Bool) := (spec_l02Small.f a0_0 a0_1 a0_2 a0_3).bind fun t165 => (if t165 = true then ((spec_l02Det.f a0_0 a0_1 a0_2 a0_3).bind fun t166 => (if t166 = 1 then (some true) else ((spec_l02Det.f a0_0 a0_1 a0_2 a0_3).bind fun t167 => (some (t167 == (-1)))))) else (some false))
set_option maxHeartbeats 8000000 in
set_option maxRecDepth 100000 in
theorem spec_IsMat.calls (a0_0 : Int) (a0_1 : Int) (a0_2 : Int) (a0_3 : Int) (r : Bool) (w : World) (h : spec_IsMat.f a0_0 a0_1 a0_2 a0_3 = some r) :
  Calls Try.prog 101 #[.agg #[.int .i64 a0_0, .int .i64 a0_1, .int .i64 a0_2, .int .i64 a0_3]] w fun e w' => e = .returned (.bool r) ∧ Below w.heap.size w w' := by
 have hu51 := Try.underlying51
 have HB := asd (Below.refl w.heap.size w)
 have H : ((spec_l02Small.f a0_0 a0_1 a0_2 a0_3).bind fun t165 => (if t165 = true then ((spec_l02Det.f a0_0 a0_1 a0_2 a0_3).bind fun t166 => (if t166 = 1 then (some true) else ((spec_l02Det.f a0_0 a0_1 a0_2 a0_3).bind fun t167 => (some (t167 == (-1)))))) else (some false))) = some r := h
 clear h
 obtain ⟨t165, A2, H⟩ := ob H
 try dsimp only at H
 by_cases c3 : t165 = true
 ·subst c3
  replace H := ifT H
  obtain ⟨t166, A4, H⟩ := ob H
  try dsimp only at H
  by_cases c5 : t166 = 1
  ·rw [if_pos c5] at H
   have c5b0 : (t166 == 1) = true := beq_iff_eq.mpr c5
   have c5b1 : (t166 != 1) = false := bne_eq_false_iff_eq.mpr c5
   clear c5
   obtain rfl := Option.some.inj H
   go_enter Try.func101, Try.ntmps101
   go_wp2_with (first | ((with_reducible refine gd 1 rfl ?_); refine bx #[.int .i64 a0_0, .int .i64 a0_1, .int .i64 a0_2, .int .i64 a0_3] 51 ?_; intro gb164 hg w6 BK164 hb; have GE164 := ngw0 hg HB; replace HB := bS0 HB hb; clear hb hg; obtain ⟨hcz7_0, hcz7_1, hcz7_2, hcz7_3, hfz7_0, hfz7_1, hfz7_2, hfz7_3⟩ := bz4 BK164) | ((with_reducible refine gate_callee (f := 69) rfl ?_); refine gl 4 Try.func69 #[.agg #[.int .i64 a0_0, .int .i64 a0_1, .int .i64 a0_2, .int .i64 a0_3]] ?_; (with_reducible refine (spec_l02Small.calls _ _ _ _ _ _ A2.out).mono ?_); rintro e w8 ⟨rfl, hb⟩; refine ⟨_, rfl, ?_⟩; replace BK164 := bB BK164 hb; replace HB := bS1 HB GE164 hb; (try clear hb); obtain ⟨hcz9_0, hcz9_1, hcz9_2, hcz9_3, hfz9_0, hfz9_1, hfz9_2, hfz9_3⟩ := bz4 BK164) | (go_at_call 36; (with_reducible refine (spec_l02Det.calls _ _ _ _ _ _ A4.out).mono ?_); rintro e w10 ⟨rfl, hb⟩; replace BK164 := bB BK164 hb; replace HB := bS1 HB GE164 hb; (try clear hb)))
   go_ret
   exact er (bbw1 HB GE164)
  ·rw [if_neg c5] at H
   have c5b0 : (t166 == 1) = false := beq_eq_false_iff_ne.mpr c5
   have c5b1 : (t166 != 1) = true := bne_iff_ne.mpr c5
   obtain ⟨t167, A11, H⟩ := ob H
   try dsimp only at H
   have e_ : t166 = t167 := Option.some.inj (A4.out.symm.trans A11.out)
   subst e_
   obtain rfl := Option.some.inj H
   go_enter Try.func101, Try.ntmps101
   go_wp2_with (first | ((with_reducible refine gd 1 rfl ?_); refine bx #[.int .i64 a0_0, .int .i64 a0_1, .int .i64 a0_2, .int .i64 a0_3] 51 ?_; intro gb164 hg w12 BK164 hb; have GE164 := ngw0 hg HB; replace HB := bS0 HB hb; clear hb hg; obtain ⟨hcz13_0, hcz13_1, hcz13_2, hcz13_3, hfz13_0, hfz13_1, hfz13_2, hfz13_3⟩ := bz4 BK164) | ((with_reducible refine gate_callee (f := 69) rfl ?_); refine gl 4 Try.func69 #[.agg #[.int .i64 a0_0, .int .i64 a0_1, .int .i64 a0_2, .int .i64 a0_3]] ?_; (with_reducible refine (spec_l02Small.calls _ _ _ _ _ _ A2.out).mono ?_); rintro e w14 ⟨rfl, hb⟩; refine ⟨_, rfl, ?_⟩; replace BK164 := bB BK164 hb; replace HB := bS1 HB GE164 hb; (try clear hb); obtain ⟨hcz15_0, hcz15_1, hcz15_2, hcz15_3, hfz15_0, hfz15_1, hfz15_2, hfz15_3⟩ := bz4 BK164) | (go_at_call 36; (with_reducible refine (spec_l02Det.calls _ _ _ _ _ _ A4.out).mono ?_); rintro e w16 ⟨rfl, hb⟩; replace BK164 := bB BK164 hb; replace HB := bS1 HB GE164 hb; (try clear hb); obtain ⟨hcz17_0, hcz17_1, hcz17_2, hcz17_3, hfz17_0, hfz17_1, hfz17_2, hfz17_3⟩ := bz4 BK164) | (go_at_call 36; (with_reducible refine (spec_l02Det.calls _ _ _ _ _ _ A11.out).mono ?_); rintro e w18 ⟨rfl, hb⟩; replace BK164 := bB BK164 hb; replace HB := bS1 HB GE164 hb; (try clear hb)))
   go_ret
   exact er (bbw1 HB GE164)
 ·replace c3 := Bool.eq_false_iff.mpr c3
  subst c3
  replace H := ifF H
  obtain rfl := Option.some.inj H
  go_enter Try.func101, Try.ntmps101
  go_wp2_with (first | ((with_reducible refine gd 1 rfl ?_); refine bx #[.int .i64 a0_0, .int .i64 a0_1, .int .i64 a0_2, .int .i64 a0_3] 51 ?_; intro gb164 hg w19 BK164 hb; have GE164 := ngw0 hg HB; replace HB := bS0 HB hb; clear hb hg; obtain ⟨hcz20_0, hcz20_1, hcz20_2, hcz20_3, hfz20_0, hfz20_1, hfz20_2, hfz20_3⟩ := bz4 BK164) | ((with_reducible refine gate_callee (f := 69) rfl ?_); refine gl 4 Try.func69 #[.agg #[.int .i64 a0_0, .int .i64 a0_1, .int .i64 a0_2, .int .i64 a0_3]] ?_; (with_reducible refine (spec_l02Small.calls _ _ _ _ _ _ A2.out).mono ?_); rintro e w21 ⟨rfl, hb⟩; refine ⟨_, rfl, ?_⟩; replace BK164 := bB BK164 hb; replace HB := bS1 HB GE164 hb; (try clear hb)))
  go_ret
  exact er (bbw1 HB GE164)
/-! ### spec_l04Norm: function 119 -/
def spec_l04Norm.f (a0 : Int) (a1_0 : Int) (a1_1 : Int) : Option (Int) := if a0 = 1 then (some (wrap64 ((wrap64 ((wrap64 (a1_0 * a1_0)) + (wrap64 (a1_1 * a1_1)))) + (wrap64 (a1_0 * a1_1))))) else (some (wrap64 ((wrap64 (a1_0 * a1_0)) + (wrap64 (a1_1 * a1_1)))))
set_option maxHeartbeats 8000000 in
set_option maxRecDepth 100000 in
theorem spec_l04Norm.calls (a0 : Int) (a1_0 : Int) (a1_1 : Int) (r : Int) (w : World) (h : spec_l04Norm.f a0 a1_0 a1_1 = some r) :
  Calls Try.prog 119 #[.int .i64 a0, .agg #[.int .i64 a1_0, .int .i64 a1_1]] w fun e w' => e = .returned (.int .i64 r) ∧ Below w.heap.size w w' := by
 have hu53 := Try.underlying53
 have HB := asd (Below.refl w.heap.size w)
 have H : (if a0 = 1 then (some (wrap64 ((wrap64 ((wrap64 (a1_0 * a1_0)) + (wrap64 (a1_1 * a1_1)))) + (wrap64 (a1_0 * a1_1))))) else (some (wrap64 ((wrap64 (a1_0 * a1_0)) + (wrap64 (a1_1 * a1_1)))))) = some r := h
 clear h
 by_cases c3 : a0 = 1
 rw [if_pos c3] at H
 have c3b0 : (a0 == 1) = true := beq_iff_eq.mpr c3
 have c3b1 : (a0 != 1) = false := bne_eq_false_iff_eq.mpr c3
 clear c3
 obtain rfl := Option.some.inj H
 rotate_left
 rw [if_neg c3] at H
 have c3b0 : (a0 == 1) = false := beq_eq_false_iff_ne.mpr c3
 have c3b1 : (a0 != 1) = true := bne_iff_ne.mpr c3
 obtain rfl := Option.some.inj H
 rotate_left
 all_goals
  go_enter Try.func119, Try.ntmps119
  go_wp2_with (first | ((with_reducible refine gd 3 rfl ?_); refine bx #[.int .i64 a1_0, .int .i64 a1_1] 53 ?_; intro gb168 hg w4 BK168 hb; have GE168 := ngw0 hg HB; replace HB := bS0 HB hb; clear hb hg; obtain ⟨hcz5_0, hcz5_1, hfz5_0, hfz5_1⟩ := bz2 BK168))
  go_ret
  exact er (bbw1 HB GE168)
/-! ### spec_l04Keeps: function 102 -/
def spec_l04Keeps.f (a0 : Int) (a1_0 : Int) (a1_1 : Int) (a1_2 : Int) (a1_3 : Int) : Option (Bool) := (spec_l04Norm.f a0 a1_0 a1_2).bind fun t172 => (if t172 = 1 then ((spec_l04Norm.f a0 a1_1 a1_3).bind fun t173 => (if t173 = 1 then ((spec_l01Add.f a1_0 a1_2 a1_1 a1_3).bind fun bt174 => ((spec_l04Norm.f a0 bt174.1 bt174.2).bind fun t176 => (some (t176 == (wrap64 (2 + a0)))))) else (some false))) else (some false))
def spec_l04Keeps.T1 : Bool × List (List Nat × List Nat) := (true, [([], []), ([0], [0]), ([], []), ([2], [2]), ([1, 3], [1, 3]), ([], []), ([5], [5]), ([], []), ([7], [7]), ([6, 8], [6, 8]), ([], []), ([], []), ([10, 4, 0, 1, 2, 3, 4, 10, 11], [4, 10]), ([11, 9, 12, 0, 1, 2, 3, 4, 5, 6, 7, 8, 9, 10, 11, 12], [9, 11])])
def spec_l04Keeps.B1 : List Nat := [0, 1, 0, 4, 15, 0, 32, 0, 128, 480, 0, 0, 3103, 8191]
theorem spec_l04Keeps.tab1 : rtab .any (opsOf Try.f102 1) = spec_l04Keeps.T1 := by kernel_rfl
theorem spec_l04Keeps.bits1 : waitsOk spec_l04Keeps.T1.2 spec_l04Keeps.B1 = true := by kernel_rfl
set_option maxHeartbeats 8000000 in
set_option maxRecDepth 100000 in
theorem spec_l04Keeps.calls (a0 : Int) (a1_0 : Int) (a1_1 : Int) (a1_2 : Int) (a1_3 : Int) (r : Bool) (w : World) (h : spec_l04Keeps.f a0 a1_0 a1_1 a1_2 a1_3 = some r) :
  Calls Try.prog 102 #[.int .i64 a0, .agg #[.int .i64 a1_0, .int .i64 a1_1, .int .i64 a1_2, .int .i64 a1_3]] w fun e w' => e = .returned (.bool r) ∧ Below w.heap.size w w' := by
 have hu51 := Try.underlying51
 have hu53 := Try.underlying53
 have HB := asd (Below.refl w.heap.size w)
 have H : ((spec_l04Norm.f a0 a1_0 a1_2).bind fun t172 => (if t172 = 1 then ((spec_l04Norm.f a0 a1_1 a1_3).bind fun t173 => (if t173 = 1 then ((spec_l01Add.f a1_0 a1_2 a1_1 a1_3).bind fun bt174 => ((spec_l04Norm.f a0 bt174.1 bt174.2).bind fun t176 => (some (t176 == (wrap64 (2 + a0)))))) else (some false))) else (some false))) = some r := h
 clear h
 obtain ⟨t172, A3, H⟩ := ob H
 try dsimp only at H
 by_cases c4 : t172 = 1
 rw [if_pos c4] at H
 have c4b0 : (t172 == 1) = true := beq_iff_eq.mpr c4
 have c4b1 : (t172 != 1) = false := bne_eq_false_iff_eq.mpr c4
 clear c4
 obtain ⟨t173, A5, H⟩ := ob H
 try dsimp only at H
 by_cases c6 : t173 = 1
 rw [if_pos c6] at H
 have c6b0 : (t173 == 1) = true := beq_iff_eq.mpr c6
 have c6b1 : (t173 != 1) = false := bne_eq_false_iff_eq.mpr c6
 clear c6
 obtain ⟨⟨t174, t175⟩, A7, H⟩ := ob H
 try dsimp only at H
 obtain ⟨t176, A8, H⟩ := ob H
 try dsimp only at H
 obtain rfl := Option.some.inj H
 rotate_left
 rw [if_neg c6] at H
 have c6b0 : (t173 == 1) = false := beq_eq_false_iff_ne.mpr c6
 have c6b1 : (t173 != 1) = true := bne_iff_ne.mpr c6
 obtain rfl := Option.some.inj H
 rotate_left
 rw [if_neg c4] at H
 have c4b0 : (t172 == 1) = false := beq_eq_false_iff_ne.mpr c4
 have c4b1 : (t172 != 1) = true := bne_iff_ne.mpr c4
 obtain rfl := Option.some.inj H
 rotate_left
 all_goals
  go_enter Try.func102, Try.ntmps102
  try go_wp2_with (first | ((with_reducible refine gd 3 rfl ?_); refine bx #[.int .i64 a1_0, .int .i64 a1_1, .int .i64 a1_2, .int .i64 a1_3] 51 ?_; intro gb169 hg w9 BK169 hb; have GE169 := ngw0 hg HB; replace HB := bS0 HB hb; clear hb hg))
  replace BK169 := asd (blk_drew BK169.out)
  replace HB := asd (below_drew1 HB.out)
  refine sh 14 (eb4 BK169) (fun hHeld => ?_); refine with_tabW spec_l04Keeps.tab1 spec_l04Keeps.bits1 (fun HT_ HW_ => ?_)
  generalize w9.drew = w10 at BK169 HB hHeld ⊢
  refine pu 0 (some 7) (bt 14 1) HT_ ?_
  refine pu 2 (some 9) (bs 14 5) HT_ ?_
  refine pu 5 (some 12) (bs 14 37) HT_ ?_
  refine pu 7 (some 14) (bs 14 165) HT_ ?_
  refine ta 1 (some 8) (bs 14 167) HT_ HW_ hHeld ?_
  refine ta 3 (some 10) (bs 14 175) HT_ HW_ hHeld ?_
  refine pu 4 (some 11) (bs 14 191) HT_ ?_
  refine ta 6 (some 13) (bt 14 8) HT_ HW_ hHeld ?_
  refine ta 8 (some 15) (bt 14 9) HT_ HW_ hHeld ?_
  refine pu 9 (some 16) (bt 14 10) HT_ ?_
  refine join_ (σ := Nat × Nat) 2 (bt 14 12) (fun s_ => [(5, .pointer (some ⟨s_.1, 0, none⟩)), (6, .pointer (some ⟨s_.2, 0, none⟩))]) (fun s_ w' => (w'.cell? ⟨gb169, 0, none⟩ = some (.int .i64 a1_0) ∧ w'.cell? ⟨gb169, 1, none⟩ = some (.int .i64 a1_1) ∧ w'.cell? ⟨gb169, 2, none⟩ = some (.int .i64 a1_2) ∧ w'.cell? ⟨gb169, 3, none⟩ = some (.int .i64 a1_3)) ∧ (w'.heap[gb169]? = some (.cells #[.int .i64 a1_0, .int .i64 a1_1, .int .i64 a1_2, .int .i64 a1_3] 51 (0, 0))) ∧ (w'.heap[s_.1]? = some (.cells #[.int .i64 0, .int .i64 0] 53 (0, 0))) ∧ (w'.heap[s_.2]? = some (.cells #[.int .i64 0, .int .i64 0] 53 (0, 0))) ∧ (w.heap.size ≤ s_.1) ∧ (w.heap.size ≤ s_.1) ∧ (gb169 ≠ s_.1) ∧ (s_.1 ≠ gb169) ∧ (s_.2 ≠ s_.1) ∧ (s_.1 ≠ s_.2) ∧ (w.heap.size ≤ s_.2) ∧ (w.heap.size ≤ s_.2) ∧ (gb169 ≠ s_.2) ∧ (s_.2 ≠ gb169) ∧ (Below w.heap.size w w')) ?_ ?_
  rotate_left
  ·intro hCont
   refine two_ (i := 10) (j := 11) (Ni := some 5) (Nj := some 6) (bt 14 11) (bs 14 3071) rfl rfl rfl rfl (two_of HT_.out (by kernel_rfl)) (by decide) (by decide) (fun K hK => ?_) (fun K hK => ?_)
   ·skip
    refine box_step ?hg (N := 5) ?hd (cs := #[.int .i64 0, .int .i64 0]) (t := 53) ?hr ?_; (case hd => rfl); (case hg => rfl); (case hr => first | (go_simp; done) | (go_simp; rfl))
    intro gb170 hg w11 hbox hb
    have BK170 := asd (hbox)
    have GW170 := ngw1 hg HB GE169
    have GE170 := ngw1 hg HB GE169
    replace HB := bS1 HB GE169 hb
    have NB169_170 := nlt hg BK169
    have NB170_169 := nsy (nlt hg BK169)
    replace BK169 := bB BK169 hb
    clear hb hbox hg
    refine hK.out _ _ (eb4 BK169).out (fun hHeld => ?_)
    clear hK K
    refine norm_ (a' := ?_) ?_ ?_
    rotate_left
    ·show Act.put _ (some 5) _ = _
     simp only [Act.put, sA, sB, sC, i64_w, i32_w]
     rfl
    refine ro 11 (some 6) (bt 14 12) HT_ (fun K hK => ?_)
    refine box_step ?hg (N := 6) ?hd (cs := #[.int .i64 0, .int .i64 0]) (t := 53) ?hr ?_; (case hd => rfl); (case hg => rfl); (case hr => first | (go_simp; done) | (go_simp; rfl))
    intro gb171 hg w12 hbox hb
    have BK171 := asd (hbox)
    have GW171 := ngw2 hg HB GE169 GE170
    have GE171 := ngw2 hg HB GE169 GE170
    replace HB := bS2 HB GE169 GE170 hb
    have NB169_171 := nlt hg BK169
    have NB171_169 := nsy (nlt hg BK169)
    replace BK169 := bB BK169 hb
    have NB170_171 := nlt hg BK170
    have NB171_170 := nsy (nlt hg BK170)
    replace BK170 := bB BK170 hb
    clear hb hbox hg
    refine hK.out _ _ (eb4 BK169).out (fun hHeld => ?_)
    clear hK K
    refine norm_ (a' := ?_) ?_ ?_
    rotate_left
    ·show Act.put _ (some 6) _ = _
     simp only [Act.put, sA, sB, sC, i64_w, i32_w]
     rfl
    exact norm_ (by simp only [putAll, Act.put, sA, sB, sC]) (hCont (gb170, gb171) _ ⟨hHeld, (bkp BK169), (bkp BK170), (bkp BK171), GW170.out, GE170.out, NB169_170.out, NB170_169.out, NB171_170.out, NB170_171.out, GW171.out, GE171.out, NB169_171.out, NB171_169.out, (bbw3 HB GE169 GE170 GE171)⟩)
   ·skip
    refine box_step ?hg (N := 6) ?hd (cs := #[.int .i64 0, .int .i64 0]) (t := 53) ?hr ?_; (case hd => rfl); (case hg => rfl); (case hr => first | (go_simp; done) | (go_simp; rfl))
    intro gb171 hg w11 hbox hb
    have BK171 := asd (hbox)
    have GW171 := ngw1 hg HB GE169
    have GE171 := ngw1 hg HB GE169
    replace HB := bS1 HB GE169 hb
    have NB169_171 := nlt hg BK169
    have NB171_169 := nsy (nlt hg BK169)
    replace BK169 := bB BK169 hb
    clear hb hbox hg
    refine hK.out _ _ (eb4 BK169).out (fun hHeld => ?_)
    clear hK K
    refine norm_ (a' := ?_) ?_ ?_
    rotate_left
    ·show Act.put _ (some 6) _ = _
     simp only [Act.put, sA, sB, sC, i64_w, i32_w]
     rfl
    refine ro 10 (some 5) (bt 14 12) HT_ (fun K hK => ?_)
    refine box_step ?hg (N := 5) ?hd (cs := #[.int .i64 0, .int .i64 0]) (t := 53) ?hr ?_; (case hd => rfl); (case hg => rfl); (case hr => first | (go_simp; done) | (go_simp; rfl))
    intro gb170 hg w12 hbox hb
    have BK170 := asd (hbox)
    have GW170 := ngw2 hg HB GE169 GE171
    have GE170 := ngw2 hg HB GE169 GE171
    replace HB := bS2 HB GE169 GE171 hb
    have NB169_170 := nlt hg BK169
    have NB170_169 := nsy (nlt hg BK169)
    replace BK169 := bB BK169 hb
    have NB171_170 := nlt hg BK171
    have NB170_171 := nsy (nlt hg BK171)
    replace BK171 := bB BK171 hb
    clear hb hbox hg
    refine hK.out _ _ (eb4 BK169).out (fun hHeld => ?_)
    clear hK K
    refine norm_ (a' := ?_) ?_ ?_
    rotate_left
    ·show Act.put _ (some 5) _ = _
     simp only [Act.put, sA, sB, sC, i64_w, i32_w]
     rfl
    exact norm_ (by simp only [putAll, Act.put, sA, sB, sC]) (hCont (gb170, gb171) _ ⟨hHeld, (bkp BK169), (bkp BK170), (bkp BK171), GW170.out, GE170.out, NB169_170.out, NB170_169.out, NB171_170.out, NB170_171.out, GW171.out, GE171.out, NB169_171.out, NB171_169.out, (bbw3 HB GE169 GE171 GE170)⟩)
  rintro ⟨gb170, gb171⟩ w13 ⟨hS_, h0_, h1_, h2_, h3_, h4_, h5_, h6_, h7_, h8_, h9_, h10_, h11_, h12_, h13_⟩
  have n0_ : Aside0 (w13.heap[gb169]? = some (.cells #[.int .i64 a1_0, .int .i64 a1_1, .int .i64 a1_2, .int .i64 a1_3] 51 (0, 0))) := ⟨h0_⟩
  have n1_ : Aside0 (w13.heap[gb170]? = some (.cells #[.int .i64 0, .int .i64 0] 53 (0, 0))) := ⟨h1_⟩
  have n2_ : Aside0 (w13.heap[gb171]? = some (.cells #[.int .i64 0, .int .i64 0] 53 (0, 0))) := ⟨h2_⟩
  have n3_ : Aside0 (w.heap.size ≤ gb170) := ⟨h3_⟩
  have n4_ : Aside0 (w.heap.size ≤ gb170) := ⟨h4_⟩
  have n5_ : Aside0 (gb169 ≠ gb170) := ⟨h5_⟩
  have n6_ : Aside0 (gb170 ≠ gb169) := ⟨h6_⟩
  have n7_ : Aside0 (gb171 ≠ gb170) := ⟨h7_⟩
  have n8_ : Aside0 (gb170 ≠ gb171) := ⟨h8_⟩
  have n9_ : Aside0 (w.heap.size ≤ gb171) := ⟨h9_⟩
  have n10_ : Aside0 (w.heap.size ≤ gb171) := ⟨h10_⟩
  have n11_ : Aside0 (gb169 ≠ gb171) := ⟨h11_⟩
  have n12_ : Aside0 (gb171 ≠ gb169) := ⟨h12_⟩
  have n13_ : Aside0 (Below w.heap.size w w13) := ⟨h13_⟩
  clear BK169
  clear HB
  clear h0_ h1_ h2_ h3_ h4_ h5_ h6_ h7_ h8_ h9_ h10_ h11_ h12_ h13_
  have BK169 := n0_
  have BK170 := n1_
  have BK171 := n2_
  have GW170 := n3_
  have GE170 := n4_
  have NB169_170 := n5_
  have NB170_169 := n6_
  have NB171_170 := n7_
  have NB170_171 := n8_
  have GW171 := n9_
  have GE171 := n10_
  have NB169_171 := n11_
  have NB171_169 := n12_
  have HB := n13_
  clear n0_ n1_ n2_ n3_ n4_ n5_ n6_ n7_ n8_ n9_ n10_ n11_ n12_ n13_
  have hHeld : w13.cell? ⟨gb169, 0, none⟩ = some (.int .i64 a1_0) ∧ w13.cell? ⟨gb169, 1, none⟩ = some (.int .i64 a1_1) ∧ w13.cell? ⟨gb169, 2, none⟩ = some (.int .i64 a1_2) ∧ w13.cell? ⟨gb169, 3, none⟩ = some (.int .i64 a1_3) := hS_
  refine norm_ (a' := ?_) ?_ ?_
  rotate_left
  ·simp only [putAll, Act.put, sA, sB, sC]
   rfl
  refine ro 12 (none) (bt 14 13) HT_ (fun K hK => ?_)
  have hs14 : w13.cell? ⟨gb170, 0, none⟩ = some (.int .i64 0) := bcl BK170 0
  have hfs14 := blk_frozen BK170.out 0
  have hns14_0 := NB169_170.out
  have hns14_2 := NB171_170.out
  have hms14_0 := NB170_169.out
  have hms14_2 := NB170_171.out
  have hs15 : w13.cell? ⟨gb170, 1, none⟩ = some (.int .i64 0) := bcl BK170 1
  have hfs15 := blk_frozen BK170.out 1
  have hns15_0 := NB169_170.out
  have hns15_2 := NB171_170.out
  have hms15_0 := NB170_169.out
  have hms15_2 := NB170_171.out
  refine skip_ (w1 := ?_) (by rfl) rfl ?_ ?_
  rotate_left
  ·go_simp
   rfl
  refine hK.out _ _ ⟨(cf NB169_170 ((cf NB169_170 (hHeld.1)))), (cf NB169_170 ((cf NB169_170 (hHeld.2.1)))), (cf NB169_170 ((cf NB169_170 (hHeld.2.2.1)))), (cf NB169_170 ((cf NB169_170 (hHeld.2.2.2))))⟩ (fun hHeld => ?_)
  clear hK K
  refine ro 13 (none) (bt 14 14) HT_ (fun K hK => ?_)
  have hs16 : w13.cell? ⟨gb171, 0, none⟩ = some (.int .i64 0) := bcl BK171 0
  have hfs16 := blk_frozen BK171.out 0
  have hns16_0 := NB169_171.out
  have hns16_1 := NB170_171.out
  have hms16_0 := NB171_169.out
  have hms16_1 := NB171_170.out
  have hs17 : w13.cell? ⟨gb171, 1, none⟩ = some (.int .i64 0) := bcl BK171 1
  have hfs17 := blk_frozen BK171.out 1
  have hns17_0 := NB169_171.out
  have hns17_1 := NB170_171.out
  have hms17_0 := NB171_169.out
  have hms17_1 := NB171_170.out
  refine skip_ (w1 := ?_) (by rfl) rfl ?_ ?_
  rotate_left
  ·go_simp
   rfl
  refine hK.out _ _ ⟨(cf NB169_171 ((cf NB169_171 (hHeld.1)))), (cf NB169_171 ((cf NB169_171 (hHeld.2.1)))), (cf NB169_171 ((cf NB169_171 (hHeld.2.2.1)))), (cf NB169_171 ((cf NB169_171 (hHeld.2.2.2))))⟩ (fun hHeld => ?_)
  clear hK K
  refine done_ (done_of HT_.out (by kernel_rfl)) ?_
  have hnb18 := NB170_169.out
  have hnc18 := NB169_170.out
  have hnb19 := NB170_171.out
  have hnc19 := NB171_170.out
  obtain ⟨hcz20_0, hcz20_1, hfz20_0, hfz20_1⟩ := bz2 BK170
 try go_wp2_with (first | ((with_reducible refine gate_callee (f := 119) rfl ?_); refine gl 19 Try.func119 #[.int .i64 a0, .agg #[.int .i64 a1_0, .int .i64 a1_2]] ?_; (with_reducible refine (spec_l04Norm.calls _ _ _ _ _ A3.out).mono ?_); rintro e w21 ⟨rfl, hb⟩; refine ⟨_, rfl, ?_⟩; replace BK169 := asd (blk_below (g := gb169) (o := .cells #[.int .i64 a1_0, .int .i64 a1_1, .int .i64 a1_2, .int .i64 a1_3] 51 (0, 0)) (bq2 BK169 NB169_171 NB169_170) hb); replace BK170 := asd (blk_below (g := gb170) (o := .cells #[.int .i64 a1_0, .int .i64 a1_2] 53 (0, 0)) (bq1 BK170 NB170_171) hb); replace BK171 := asd (blk_below (g := gb171) (o := .cells #[.int .i64 a1_1, .int .i64 a1_3] 53 (0, 0)) (bq1 BK171 NB171_170) hb); replace HB := bS3 HB GE169 GE170 GE171 hb; (try clear hb); have hnb22 := NB171_169.out; have hnc22 := NB169_171.out; obtain ⟨hcz23_0, hcz23_1, hfz23_0, hfz23_1⟩ := bz2 BK171) | (go_at_call 119; (with_reducible refine (spec_l04Norm.calls _ _ _ _ _ A5.out).mono ?_); rintro e w24 ⟨rfl, hb⟩; replace BK169 := bB BK169 hb; replace BK170 := bB BK170 hb; replace BK171 := bB BK171 hb; replace HB := bS3 HB GE169 GE170 GE171 hb; (try clear hb); obtain ⟨hcz25_0, hcz25_1, hfz25_0, hfz25_1⟩ := bz2 BK170; obtain ⟨hcz26_0, hcz26_1, hfz26_0, hfz26_1⟩ := bz2 BK171) | (go_at_call 77; (with_reducible refine (spec_l01Add.calls _ _ _ _ _ _ _ A7.out).mono ?_); rintro e w27 ⟨rfl, hb⟩; replace BK169 := bB BK169 hb; replace BK170 := bB BK170 hb; replace BK171 := bB BK171 hb; replace HB := bS3 HB GE169 GE170 GE171 hb; (try clear hb)) | (go_at_call 119; (with_reducible refine (spec_l04Norm.calls _ _ _ _ _ A8.out).mono ?_); rintro e w28 ⟨rfl, hb⟩; replace BK169 := bB BK169 hb; replace BK170 := bB BK170 hb; replace BK171 := bB BK171 hb; replace HB := bS3 HB GE169 GE170 GE171 hb; (try clear hb)))
 rotate_left
 try go_wp2_with (first | ((with_reducible refine gate_callee (f := 119) rfl ?_); refine gl 19 Try.func119 #[.int .i64 a0, .agg #[.int .i64 a1_0, .int .i64 a1_2]] ?_; (with_reducible refine (spec_l04Norm.calls _ _ _ _ _ A3.out).mono ?_); rintro e w41 ⟨rfl, hb⟩; refine ⟨_, rfl, ?_⟩; replace BK169 := asd (blk_below (g := gb169) (o := .cells #[.int .i64 a1_0, .int .i64 a1_1, .int .i64 a1_2, .int .i64 a1_3] 51 (0, 0)) (bq2 BK169 NB169_171 NB169_170) hb); replace BK170 := asd (blk_below (g := gb170) (o := .cells #[.int .i64 a1_0, .int .i64 a1_2] 53 (0, 0)) (bq1 BK170 NB170_171) hb); replace BK171 := asd (blk_below (g := gb171) (o := .cells #[.int .i64 a1_1, .int .i64 a1_3] 53 (0, 0)) (bq1 BK171 NB171_170) hb); replace HB := bS3 HB GE169 GE170 GE171 hb; (try clear hb); have hnb42 := NB171_169.out; have hnc42 := NB169_171.out; obtain ⟨hcz43_0, hcz43_1, hfz43_0, hfz43_1⟩ := bz2 BK171) | (go_at_call 119; (with_reducible refine (spec_l04Norm.calls _ _ _ _ _ A5.out).mono ?_); rintro e w44 ⟨rfl, hb⟩; replace BK169 := bB BK169 hb; replace BK170 := bB BK170 hb; replace BK171 := bB BK171 hb; replace HB := bS3 HB GE169 GE170 GE171 hb; (try clear hb)))
 rotate_left
 try go_wp2_with (first | ((with_reducible refine gate_callee (f := 119) rfl ?_); refine gl 19 Try.func119 #[.int .i64 a0, .agg #[.int .i64 a1_0, .int .i64 a1_2]] ?_; (with_reducible refine (spec_l04Norm.calls _ _ _ _ _ A3.out).mono ?_); rintro e w57 ⟨rfl, hb⟩; refine ⟨_, rfl, ?_⟩; replace BK169 := asd (blk_below (g := gb169) (o := .cells #[.int .i64 a1_0, .int .i64 a1_1, .int .i64 a1_2, .int .i64 a1_3] 51 (0, 0)) (bq2 BK169 NB169_171 NB169_170) hb); replace BK170 := asd (blk_below (g := gb170) (o := .cells #[.int .i64 a1_0, .int .i64 a1_2] 53 (0, 0)) (bq1 BK170 NB170_171) hb); replace BK171 := asd (blk_below (g := gb171) (o := .cells #[.int .i64 a1_1, .int .i64 a1_3] 53 (0, 0)) (bq1 BK171 NB171_170) hb); replace HB := bS3 HB GE169 GE170 GE171 hb; (try clear hb)))
 rotate_left
 all_goals
  go_ret
  exact er (bbw3 HB GE169 GE170 GE171)
/-! ### spec_IsPointMat: function 87 -/
def spec_IsPointMat.f (a0 : Int) (a1_0 : Int) (a1_1 : Int) (a1_2 : Int) (a1_3 : Int) : Option (Bool) := (spec_IsFrame.f a0).bind fun t178 => (if t178 = true then ((spec_IsMat.f a1_0 a1_1 a1_2 a1_3).bind fun t179 => (if t179 = true then ((spec_l04Keeps.f a0 a1_0 a1_1 a1_2 a1_3).bind fun t180 => (some t180)) else (some false))) else (some false))
set_option maxHeartbeats 8000000 in
set_option maxRecDepth 100000 in
theorem spec_IsPointMat.calls (a0 : Int) (a1_0 : Int) (a1_1 : Int) (a1_2 : Int) (a1_3 : Int) (r : Bool) (w : World) (h : spec_IsPointMat.f a0 a1_0 a1_1 a1_2 a1_3 = some r) :
  Calls Try.prog 87 #[.int .i64 a0, .agg #[.int .i64 a1_0, .int .i64 a1_1, .int .i64 a1_2, .int .i64 a1_3]] w fun e w' => e = .returned (.bool r) ∧ Below w.heap.size w w' := by
 have hu51 := Try.underlying51
 have HB := asd (Below.refl w.heap.size w)
 have H : ((spec_IsFrame.f a0).bind fun t178 => (if t178 = true then ((spec_IsMat.f a1_0 a1_1 a1_2 a1_3).bind fun t179 => (if t179 = true then ((spec_l04Keeps.f a0 a1_0 a1_1 a1_2 a1_3).bind fun t180 => (some t180)) else (some false))) else (some false))) = some r := h
 clear h
 obtain ⟨t178, A3, H⟩ := ob H
 try dsimp only at H
 by_cases c4 : t178 = true
 ·subst c4
  replace H := ifT H
  obtain ⟨t179, A5, H⟩ := ob H
  try dsimp only at H
  by_cases c6 : t179 = true
  ·subst c6
   replace H := ifT H
   obtain ⟨t180, A7, H⟩ := ob H
   try dsimp only at H
   obtain rfl := Option.some.inj H
   go_enter Try.func87, Try.ntmps87
   go_wp2_with (first | ((with_reducible refine gd 3 rfl ?_); refine bx #[.int .i64 a1_0, .int .i64 a1_1, .int .i64 a1_2, .int .i64 a1_3] 51 ?_; intro gb177 hg w8 BK177 hb; have GE177 := ngw0 hg HB; replace HB := bS0 HB hb; clear hb hg) | ((with_reducible refine gate_callee (f := 85) rfl ?_); refine gl 6 Try.func85 #[.int .i64 a0] ?_; (with_reducible refine (spec_IsFrame.calls _ _ _ A3.out).mono ?_); rintro e w' ⟨rfl, ⟨nd, rfl⟩⟩; refine ⟨_, rfl, ?_⟩; have hcz9_0 : w8.cell? ⟨gb177, 0, none⟩ = some (.int .i64 a1_0) := bcl BK177 0; have hcz9_1 : w8.cell? ⟨gb177, 1, none⟩ = some (.int .i64 a1_1) := bcl BK177 1; have hcz9_2 : w8.cell? ⟨gb177, 2, none⟩ = some (.int .i64 a1_2) := bcl BK177 2; have hcz9_3 : w8.cell? ⟨gb177, 3, none⟩ = some (.int .i64 a1_3) := bcl BK177 3; have hfz9_0 := blk_frozen BK177.out 0; have hfz9_1 := blk_frozen BK177.out 1; have hfz9_2 := blk_frozen BK177.out 2; have hfz9_3 := blk_frozen BK177.out 3) | (go_at_call 101; (with_reducible refine (spec_IsMat.calls _ _ _ _ _ _ A5.out).mono ?_); rintro e w10 ⟨rfl, hb⟩; replace BK177 := bB BK177 hb; replace HB := bS1 HB GE177 hb; (try clear hb); obtain ⟨hcz11_0, hcz11_1, hcz11_2, hcz11_3, hfz11_0, hfz11_1, hfz11_2, hfz11_3⟩ := bz4 BK177) | (go_at_call 102; (with_reducible refine (spec_l04Keeps.calls _ _ _ _ _ _ _ A7.out).mono ?_); rintro e w12 ⟨rfl, hb⟩; replace BK177 := bB BK177 hb; replace HB := bS1 HB GE177 hb; (try clear hb)))
   go_ret
   exact er (bbw1 HB GE177)
  ·replace c6 := Bool.eq_false_iff.mpr c6
   subst c6
   replace H := ifF H
   obtain rfl := Option.some.inj H
   go_enter Try.func87, Try.ntmps87
   go_wp2_with (first | ((with_reducible refine gd 3 rfl ?_); refine bx #[.int .i64 a1_0, .int .i64 a1_1, .int .i64 a1_2, .int .i64 a1_3] 51 ?_; intro gb177 hg w13 BK177 hb; have GE177 := ngw0 hg HB; replace HB := bS0 HB hb; clear hb hg) | ((with_reducible refine gate_callee (f := 85) rfl ?_); refine gl 6 Try.func85 #[.int .i64 a0] ?_; (with_reducible refine (spec_IsFrame.calls _ _ _ A3.out).mono ?_); rintro e w' ⟨rfl, ⟨nd, rfl⟩⟩; refine ⟨_, rfl, ?_⟩; have hcz14_0 : w13.cell? ⟨gb177, 0, none⟩ = some (.int .i64 a1_0) := bcl BK177 0; have hcz14_1 : w13.cell? ⟨gb177, 1, none⟩ = some (.int .i64 a1_1) := bcl BK177 1; have hcz14_2 : w13.cell? ⟨gb177, 2, none⟩ = some (.int .i64 a1_2) := bcl BK177 2; have hcz14_3 : w13.cell? ⟨gb177, 3, none⟩ = some (.int .i64 a1_3) := bcl BK177 3; have hfz14_0 := blk_frozen BK177.out 0; have hfz14_1 := blk_frozen BK177.out 1; have hfz14_2 := blk_frozen BK177.out 2; have hfz14_3 := blk_frozen BK177.out 3) | (go_at_call 101; (with_reducible refine (spec_IsMat.calls _ _ _ _ _ _ A5.out).mono ?_); rintro e w15 ⟨rfl, hb⟩; replace BK177 := bB BK177 hb; replace HB := bS1 HB GE177 hb; (try clear hb)))
   go_ret
   exact er (bbw1 HB GE177)
 ·replace c4 := Bool.eq_false_iff.mpr c4
  subst c4
  replace H := ifF H
  obtain rfl := Option.some.inj H
  go_enter Try.func87, Try.ntmps87
  go_wp2_with (first | ((with_reducible refine gd 3 rfl ?_); refine bx #[.int .i64 a1_0, .int .i64 a1_1, .int .i64 a1_2, .int .i64 a1_3] 51 ?_; intro gb177 hg w16 BK177 hb; have GE177 := ngw0 hg HB; replace HB := bS0 HB hb; clear hb hg) | ((with_reducible refine gate_callee (f := 85) rfl ?_); refine gl 6 Try.func85 #[.int .i64 a0] ?_; (with_reducible refine (spec_IsFrame.calls _ _ _ A3.out).mono ?_); rintro e w' ⟨rfl, ⟨nd, rfl⟩⟩; refine ⟨_, rfl, ?_⟩))
  go_ret
  exact er (bbw1 HB GE177)
/-! ### spec_l03Basis: function 103 -/
def spec_l03Basis.f (a0_0 : Int) (a0_1 : Int) (a0_2 : Int) : Option ((List (S53))) := some (([(⟨a0_0, 0⟩ : S53), (⟨a0_1, a0_2⟩ : S53)] : List (S53)))
set_option maxHeartbeats 8000000 in
set_option maxRecDepth 100000 in
theorem spec_l03Basis.calls (a0_0 : Int) (a0_1 : Int) (a0_2 : Int) (r : List (S53)) (w : World) (h : spec_l03Basis.f a0_0 a0_1 a0_2 = some r) :
  Calls Try.prog 103 #[.agg #[.int .i64 a0_0, .int .i64 a0_1, .int .i64 a0_2]] w fun e w' => ∃ v0_ : Value, e = .returned (v0_) ∧ Kd.R k53 53 w' w.heap.size (fun _ => True) v0_ r ∧ Below w.heap.size w w' := by
 have hu27 := Try.underlying27
 have hu53 := Try.underlying53
 have HB := asd (Below.refl w.heap.size w)
 have H : (some (([(⟨a0_0, 0⟩ : S53), (⟨a0_1, a0_2⟩ : S53)] : List (S53)))) = some r := h
 clear h
 obtain ⟨y182, hy182⟩ : ∃ y_ : List (S53), y_ = (([(⟨a0_0, 0⟩ : S53), (⟨a0_1, a0_2⟩ : S53)] : List (S53))) := ⟨_, rfl⟩
 replace H : (some y182) = some r := by first | (rw [hy182]; with_reducible exact H) | (have H2_ := (Option.bind_some _ _).symm.trans H; rw [hy182]; with_reducible exact H2_) | (have H2_ := (Option.bind_some _ _).symm.trans H; with_reducible exact H2_) | with_reducible exact H | (rw [hy182]; exact H) | exact H
 have Ny182 := Aside0.mk hy182
 clear hy182
 obtain rfl := Option.some.inj H
 go_enter Try.func103, Try.ntmps103
 go_wp2_with (first | ((with_reducible refine gd 1 rfl ?_); refine bx #[.int .i64 a0_0, .int .i64 a0_1, .int .i64 a0_2] 27 ?_; intro gb181 hg w2 BK181 hb; have GE181 := ngw0 hg HB; replace HB := bS0 HB hb; clear hb hg; obtain ⟨hcz3_0, hcz3_1, hcz3_2, hfz3_0, hfz3_1, hfz3_2⟩ := bz3 BK181) | ((with_reducible refine gd 11 rfl ?_); refine Kd.R_lit k53 _ 53 ?hg (N := 11) ?hd (xs := ([(⟨a0_0, 0⟩ : S53), (⟨a0_1, a0_2⟩ : S53)] : List (S53))) (inner := [.int .i64 a0_0, .int .i64 0, .int .i64 a0_1, .int .i64 a0_2]) (ok := fun _ => True) (okp := fun _ => True) ?hr ?hp (fun _ hk => hk) trivial (Below.refl _ _) (Nat.le_refl _) (by simp) ?_; (case hd => rfl); (case hg => rfl); (case hr => first | (go_simp; done) | (go_simp; rfl)); (case hp => exact (Reps.c2 (show Kd.M k53 _ _ _ (⟨a0_0, 0⟩ : S53) [.int .i64 a0_0, .int .i64 0] from (k53_mkM _ _ _ (⟨a0_0, 0⟩ : S53) )) (Reps.c2 (show Kd.M k53 _ _ _ (⟨a0_1, a0_2⟩ : S53) [.int .i64 a0_1, .int .i64 a0_2] from (k53_mkM _ _ _ (⟨a0_1, a0_2⟩ : S53) )) (Reps.none _ _)))); intro v183 w4 ho5 hb hg_ hnew_; clear hg_ hnew_; (first | rw [← Ny182.out] at ho5 | (simp only [Int.reduceToNat] at ho5; rw [← Ny182.out] at ho5)); have HO184 := asd (Kd.R_lower ho5 (bsz1 HB GE181)); replace BK181 := bB BK181 hb; replace HB := bS1 HB GE181 hb; clear hb ho5))
 go_ret
 exact ⟨_, by first | rfl | (simp [errW_none, errW_some] <;> rfl) | (simp [*, errW_none, errW_some] <;> rfl), by (with_reducible repeat (first | apply Kd.R_alloc | apply Kd.R_drewN | apply Kd.R_drew)); exact HO184.out, bbw1 HB GE181⟩
/-! ### spec_l01Scale: function 74 -/
def spec_l01Scale.f (a0_0 : Int) (a0_1 : Int) (a1 : Int) : Option (Int × Int) := some (wrap64 (a1 * a0_0), wrap64 (a1 * a0_1))
set_option maxHeartbeats 8000000 in
set_option maxRecDepth 100000 in
theorem spec_l01Scale.calls (a0_0 : Int) (a0_1 : Int) (a1 : Int) (r1 : Int) (r2 : Int) (w : World) (h : spec_l01Scale.f a0_0 a0_1 a1 = some (r1, r2)) :
  Calls Try.prog 74 #[.agg #[.int .i64 a0_0, .int .i64 a0_1], .int .i64 a1] w fun e w' => e = .returned (.agg #[.int .i64 r1, .int .i64 r2]) ∧ Below w.heap.size w w' := by
 have hu53 := Try.underlying53
 have HB := asd (Below.refl w.heap.size w)
 have H : (some (wrap64 (a1 * a0_0), wrap64 (a1 * a0_1))) = some (r1, r2) := h
 clear h
 simp only [Option.some.injEq, Prod.mk.injEq] at H
 obtain ⟨rfl, rfl⟩ := H
 go_enter Try.func74, Try.ntmps74
 go_wp2_with (first | ((with_reducible refine gd 2 rfl ?_); refine bx #[.int .i64 a0_0, .int .i64 a0_1] 53 ?_; intro gb185 hg w3 BK185 hb; have GE185 := ngw0 hg HB; replace HB := bS0 HB hb; clear hb hg) | ((with_reducible refine gd 4 rfl ?_); refine bx #[.int .i64 0, .int .i64 0] 53 ?_; intro gb186 hg w4 BK186 hb; have GE186 := ngw1 hg HB GE185; replace HB := bS1 HB GE185 hb; have NB185_186 := nlt hg BK185; have NB186_185 := nsy (nlt hg BK185); replace BK185 := bB BK185 hb; clear hb hg; have hnb5 := NB185_186.out; have hnc5 := NB186_185.out; obtain ⟨hcz6_0, hcz6_1, hfz6_0, hfz6_1⟩ := bz2 BK185; obtain ⟨hcz7_0, hcz7_1, hfz7_0, hfz7_1⟩ := bz2 BK186))
 refine bodyPost_ret (results_cell_row rfl _ _ gb186 53 #[.int .i64 (wrap64 (a1 * a0_0)), .int .i64 (wrap64 (a1 * a0_1))] (0, 0) _ rfl (bq0 BK186) Try.underlying53 rfl (by kernel_rfl)) rfl ?_
 exact er (bbw2 HB GE185 GE186)
/-! ### spec_l01Mod: function 105 -/
def spec_l01Mod.f (a0 : Int) (a1 : Int) : Option (Int) := if a1 = 0 then (none) else (if (Int.tmod a0 a1) < 0 then (some (wrap64 ((Int.tmod a0 a1) + a1))) else (some (Int.tmod a0 a1)))
set_option maxHeartbeats 8000000 in
set_option maxRecDepth 100000 in
theorem spec_l01Mod.calls (a0 : Int) (a1 : Int) (r : Int) (w : World) (h : spec_l01Mod.f a0 a1 = some r) :
  Calls Try.prog 105 #[.int .i64 a0, .int .i64 a1] w fun e w' => e = .returned (.int .i64 r) ∧ Drawn0 w w' := by
 have H : (if a1 = 0 then (none) else (if (Int.tmod a0 a1) < 0 then (some (wrap64 ((Int.tmod a0 a1) + a1))) else (some (Int.tmod a0 a1)))) = some r := h
 clear h
 by_cases c3 : a1 = 0
 ·rw [if_pos c3] at H
  exact absurd H (by simp)
 rw [if_neg c3] at H
 have c3b0 : (a1 == 0) = false := beq_eq_false_iff_ne.mpr c3
 have c3b1 : (a1 != 0) = true := bne_iff_ne.mpr c3
 by_cases c4 : (Int.tmod a0 a1) < 0
 rw [if_pos c4] at H
 have c4b0 := decide_eq_true c4
 clear c4
 obtain rfl := Option.some.inj H
 rotate_left
 rw [if_neg c4] at H
 have c4b0 := decide_eq_false c4
 clear c4
 obtain rfl := Option.some.inj H
 rotate_left
 all_goals
  go_enter Try.func105, Try.ntmps105
  go_wp2
  go_ret
  exact ⟨by first | rfl | (simp; done) | (simp [*]; done), by repeat (first | exact Drawn0.refl _ | apply Drawn0.step)⟩
/-! ### spec_l01Divisor: function 120 -/
def spec_l01Divisor.f : Nat → Int → Int → Option (Int)
 | 0, _, _ => none
 | k + 1, a0, a1 => if a1 = 0 then (some (mx a0 (wrap64 (-a0)))) else ((spec_l01Divisor.f k a1 (Int.tmod a0 a1)).bind fun t187 => (some t187))
set_option maxHeartbeats 8000000 in
set_option maxRecDepth 100000 in
theorem spec_l01Divisor.calls (k : Nat) : ∀ (a0 : Int) (a1 : Int) (r : Int) (w : World) (h : spec_l01Divisor.f k a0 a1 = some r),
  Calls Try.prog 120 #[.int .i64 a0, .int .i64 a1] w fun e w' => e = .returned (.int .i64 r) ∧ Below w.heap.size w w' := by
 induction k using Nat.strongRecOn with
 | _ k ih =>
 intro a0 a1 r w h
 cases k with
 | zero => exact absurd h (by simp [spec_l01Divisor.f])
 | succ k =>
 simp only [spec_l01Divisor.f] at h
 have HB := asd (Below.refl w.heap.size w)
 have H : (if a1 = 0 then (some (mx a0 (wrap64 (-a0)))) else ((spec_l01Divisor.f k a1 (Int.tmod a0 a1)).bind fun t187 => (some t187))) = some r := h
 clear h
 by_cases c3 : a1 = 0
 ·rw [if_pos c3] at H
  have c3b0 : (a1 == 0) = true := beq_iff_eq.mpr c3
  have c3b1 : (a1 != 0) = false := bne_eq_false_iff_eq.mpr c3
  clear c3
  obtain ⟨ji4, hji4⟩ : ∃ j_ : Int, (mx a0 (wrap64 (-a0))) = j_ := ⟨_, rfl⟩
  replace H : (some ji4) = some r := by first | (rw [hji4] at H; first | done | exact H) | (simp only [hji4] at H ⊢; exact H)
  have hji4_ : (if a0 < (wrap64 (-a0)) then (wrap64 (-a0)) else a0) = ji4 := hji4
  obtain rfl := Option.some.inj H
  go_enter Try.func120, Try.ntmps120
  go_wp2
  go_ret
  exact ⟨by first | rfl | (simp [errW_none, errW_some] <;> rfl) | (simp only [← hji4]; first | rfl | (simp [errW_none, errW_some] <;> rfl)) | (simp [*, errW_none, errW_some] <;> rfl), bbw0 HB⟩
 ·rw [if_neg c3] at H
  have c3b0 : (a1 == 0) = false := beq_eq_false_iff_ne.mpr c3
  have c3b1 : (a1 != 0) = true := bne_iff_ne.mpr c3
  obtain ⟨t187, A5, H⟩ := ob H
  try dsimp only at H
  obtain rfl := Option.some.inj H
  go_enter Try.func120, Try.ntmps120
  go_wp2_with (first | ((with_reducible refine gate_callee (f := 120) rfl ?_); refine gl 15 Try.func120 #[.int .i64 a1, .int .i64 (Int.tmod a0 a1)] ?_; (with_reducible refine (ih k (by omega) a1 (Int.tmod a0 a1) t187 _ A5.out).mono ?_); rintro e w6 ⟨rfl, hb⟩; refine ⟨_, rfl, ?_⟩; replace HB := bS0 HB hb; (try clear hb)))
  go_ret
  exact er (bbw0 HB)
/-! ### spec_l03Hermite: function 104 -/
mutual
def spec_l03Hermite.l0 : Nat → List (S53) → Int → Int → Int → Int → Option (Int × Int × Int)
 | 0, _, _, _, _, _ => none
 | k + 1, x0, x4, x5, x190000, x190001 => if x5 < (x0.length : Int) then (if 0 ≤ x5 then (spec_l03Hermite.l1 k x0 x4 x5 x190000 x190001 ((rd_T53 x0 x5).f0) ((rd_T53 x0 x5).f1)) else (none)) else (if x190001 < 0 then ((spec_l01Scale.f x190000 x190001 (-1)).bind fun bt195 => (if x4 > 0 then ((spec_l01Mod.f bt195.1 x4).bind fun t197 => (some (x4, t197, bt195.2))) else (some (x4, bt195.1, bt195.2)))) else (if x4 > 0 then ((spec_l01Mod.f x190000 x4).bind fun t198 => (some (x4, t198, x190001))) else (some (x4, x190000, x190001))))
def spec_l03Hermite.l1 : Nat → List (S53) → Int → Int → Int → Int → Int → Int → Option (Int × Int × Int)
 | 0, _, _, _, _, _, _, _ => none
 | k + 1, x0, x4, x5, x190000, x190001, x192000, x192001 => if x192001 = 0 then ((spec_l01Divisor.f k x4 x192000).bind fun t193 => (if t193 > 0 then ((spec_l01Mod.f x190000 t193).bind fun t194 => (spec_l03Hermite.l0 k x0 t193 (wrap64 (x5 + 1)) t194 x190001)) else (spec_l03Hermite.l0 k x0 t193 (wrap64 (x5 + 1)) x190000 x190001))) else (spec_l03Hermite.l1 k x0 x4 x5 x192000 x192001 (wrap64 (x190000 - (wrap64 ((wrap64 (Int.tdiv x190001 x192001)) * x192000)))) (wrap64 (x190001 - (wrap64 ((wrap64 (Int.tdiv x190001 x192001)) * x192001)))))
end
def spec_l03Hermite.f (k : Nat) (l0 : List (S53)) : Option (Int × Int × Int) := spec_l03Hermite.l0 k l0 0 0 0 0
set_option maxHeartbeats 8000000 in
set_option maxRecDepth 100000 in
theorem spec_l03Hermite.calls (k : Nat) (A0 : Option Addr) (c0 : Nat) (l0 : List (S53)) (r1 : Int) (r2 : Int) (r3 : Int) (w : World) (hr0 : Kd.C k53 w A0 l0.length l0) (hc0 : l0.length ≤ c0) (h : spec_l03Hermite.f k l0 = some (r1, r2, r3)) :
  Calls Try.prog 104 #[.slice A0 l0.length c0] w fun e w' => e = .returned (.agg #[.int .i64 r1, .int .i64 r2, .int .i64 r3]) ∧ Below w.heap.size w w' := by
 have hu27 := Try.underlying27
 have hu53 := Try.underlying53
 have HR0 := Aside0.mk hr0
 have HC0 := Aside0.mk hc0
 clear hr0 hc0
 have HB := asd (Below.refl w.heap.size w)
 have H : (spec_l03Hermite.l0 k l0 0 0 0 0) = some (r1, r2, r3) := h
 clear h
 have H' := Aside0.mk H
 clear H
 go_enter Try.func104, Try.ntmps104
 go_wp2_with (first | ((with_reducible refine gd 2 rfl ?_); refine bx #[.int .i64 0, .int .i64 0, .int .i64 0] 27 ?_; intro gb188 hg w2 BK188 hb; have GE188 := ngw0 hg HB; replace HB := bS0 HB hb; clear hb hg) | ((with_reducible refine gd 3 rfl ?_); refine bx #[.int .i64 0, .int .i64 0] 53 ?_; intro gb189 hg w3 BK189 hb; have GE189 := ngw1 hg HB GE188; replace HB := bS1 HB GE188 hb; have NB188_189 := nlt hg BK188; have NB189_188 := nsy (nlt hg BK188); replace BK188 := bB BK188 hb; clear hb hg; have hnb4 := NB189_188.out; have hnc4 := NB188_189.out; obtain ⟨hcz5_0, hcz5_1, hfz5_0, hfz5_1⟩ := bz2 BK189))
 go_loopg [4, 5] k (fun kq v4 v5 w' => ∃ (x4_1 : Int) (x5_1 : Int) (x190000_1 : Int) (x190001_1 : Int), v4 = .int .i64 x4_1 ∧ v5 = .int .i64 x5_1 ∧ Aside0 (spec_l03Hermite.l0 kq l0 x4_1 x5_1 x190000_1 x190001_1 = some (r1, r2, r3)) ∧ Aside0 (kq ≤ k) ∧ Aside0 (w'.heap[gb188]? = some (.cells #[.int .i64 0, .int .i64 0, .int .i64 0] 27 (0, 0))) ∧ Aside0 (w'.heap[gb189]? = some (.cells #[.int .i64 x190000_1, .int .i64 x190001_1] 53 (0, 0))) ∧ Aside0 (Below w.heap.size w w'))
 case atStart => exact ⟨(0), (0), (0), (0), (by first | rfl | (simp; done) | (simp [*]; done)), (by first | rfl | (simp; done) | (simp [*]; done)), H', ⟨Nat.le_refl _⟩, ⟨bq1 BK188 NB188_189⟩, ⟨bq0 BK189⟩, ⟨bbw2 HB GE188 GE189⟩⟩
 case round =>
  clear H'
  try clear c1
  try clear p2
  try clear c4
  try clear hcz5_0
  try clear hcz5_1
  try clear hfz5_0
  try clear hfz5_1
  obtain ⟨x4_1, x5_1, x190000_1, x190001_1, rfl, rfl, HA, HK1, BK188, BK189, HB⟩ := hrel
  cases gk with
  | zero => exact absurd HA.out (by simp [spec_l03Hermite.l0])
  | succ k1 =>
   have H := HA.out
   clear HA
   simp only [spec_l03Hermite.l0] at H
   by_cases c6 : x5_1 < (l0.length : Int)
   ·rw [if_pos c6] at H
    have c6b0 := decide_eq_true c6
    clear c6
    by_cases c7 : 0 ≤ x5_1
    ·rw [if_pos c7] at H
     have c7b0 := decide_eq_true c7
     clear c7
     have H' := Aside0.mk H
     clear H
     obtain ⟨p190, q190, ad190, e190, hx190_0, hx190_1⟩ := at_T53x HR0.out HB x5_1
     cases e190
     go_wp2_with (first | ((with_reducible refine gd 6 rfl ?_); refine bx #[.int .i64 0, .int .i64 0] 53 ?_; intro gb191 hg w8 BK191 hb; have GE191 := ngw2 hg HB GE188 GE189; replace HB := bS2 HB GE188 GE189 hb; have NB188_191 := nlt hg BK188; have NB191_188 := nsy (nlt hg BK188); replace BK188 := bB BK188 hb; have NB189_191 := nlt hg BK189; have NB191_189 := nsy (nlt hg BK189); replace BK189 := bB BK189 hb; clear hb hg; have hnb9 := NB191_188.out; have hnc9 := NB188_191.out; have hnb10 := NB191_189.out; have hnc10 := NB189_191.out; obtain ⟨hcz11_0, hcz11_1, hfz11_0, hfz11_1⟩ := bz2 BK191))
     go_loopg [] k1 (fun kq w' => ∃ (x190000_2 : Int) (x190001_2 : Int) (x192000_2 : Int) (x192001_2 : Int), Aside0 (spec_l03Hermite.l1 kq l0 x4_1 x5_1 x190000_2 x190001_2 x192000_2 x192001_2 = some (r1, r2, r3)) ∧ Aside0 (kq ≤ k1) ∧ Aside0 (w'.heap[gb188]? = some (.cells #[.int .i64 0, .int .i64 0, .int .i64 0] 27 (0, 0))) ∧ Aside0 (w'.heap[gb189]? = some (.cells #[.int .i64 x190000_2, .int .i64 x190001_2] 53 (0, 0))) ∧ Aside0 (w'.heap[gb191]? = some (.cells #[.int .i64 x192000_2, .int .i64 x192001_2] 53 (0, 0))) ∧ Aside0 (Below w.heap.size w w'))
     case atStart => exact ⟨(x190000_1), (x190001_1), ((rd_T53 l0 x5_1).f0), ((rd_T53 l0 x5_1).f1), H', ⟨Nat.le_refl _⟩, ⟨bq1 BK188 NB188_191⟩, ⟨bq1 BK189 NB189_191⟩, ⟨bq0 BK191⟩, ⟨bbw3 HB GE188 GE189 GE191⟩⟩
     case round =>
      clear H'
      try clear c1
      try clear p1
      try clear q1
      try clear hx1
      try clear p2
      try clear c4
      try clear c6
      try clear c6b0
      try clear c7
      try clear c7b0
      try clear c9
      try clear c10
      try clear hcz11_0
      try clear hcz11_1
      try clear hcz5_0
      try clear hcz5_1
      try clear hfz11_0
      try clear hfz11_1
      try clear hfz5_0
      try clear hfz5_1
      try clear hx190_0
      try clear hx190_1
      try clear p190
      try clear p2
      try clear q190
      obtain ⟨x190000_2, x190001_2, x192000_2, x192001_2, HA, HK2, BK188, BK189, BK191, HB⟩ := hrel
      cases gk with
      | zero => exact absurd HA.out (by simp [spec_l03Hermite.l1])
      | succ k2 =>
       have H := HA.out
       clear HA
       simp only [spec_l03Hermite.l1] at H
       by_cases c12 : x192001_2 = 0
       ·rw [if_pos c12] at H
        have c12b0 : (x192001_2 == 0) = true := beq_iff_eq.mpr c12
        have c12b1 : (x192001_2 != 0) = false := bne_eq_false_iff_eq.mpr c12
        clear c12
        obtain ⟨t193, A13, H⟩ := ob H
        try dsimp only at H
        by_cases c14 : t193 > 0
        ·rw [if_pos c14] at H
         have c14b0 : decide (0 < t193) = true := decide_eq_true c14
         clear c14
         obtain ⟨t194, A15, H⟩ := ob H
         try dsimp only at H
         have H' := Aside0.mk H
         clear H
         have hnb16 := NB191_188.out
         have hnc16 := NB188_191.out
         have hnb17 := NB191_189.out
         have hnc17 := NB189_191.out
         obtain ⟨hcz18_0, hcz18_1, hfz18_0, hfz18_1⟩ := bz2 BK191
         go_wp2_with (first | ((with_reducible refine gate_callee (f := 120) rfl ?_); refine gl 48 Try.func120 #[.int .i64 x4_1, .int .i64 x192000_2] ?_; (with_reducible refine (spec_l01Divisor.calls _ _ _ _ _ A13.out).mono ?_); rintro e w19 ⟨rfl, hb⟩; refine ⟨_, rfl, ?_⟩; replace BK188 := bB BK188 hb; replace BK189 := bB BK189 hb; replace BK191 := bB BK191 hb; replace HB := bS3 HB GE188 GE189 GE191 hb; (try clear hb); have hnb20 := NB189_188.out; have hnc20 := NB188_189.out; obtain ⟨hcz21_0, hcz21_1, hfz21_0, hfz21_1⟩ := bz2 BK189) | ((with_reducible refine gate_callee (f := 105) rfl ?_); refine gl 54 Try.func105 #[.int .i64 x190000_2, .int .i64 t193] ?_; (with_reducible refine (spec_l01Mod.calls _ _ _ _ A15.out).mono ?_); rintro e w' ⟨rfl, ⟨nd, rfl⟩⟩; refine ⟨_, rfl, ?_⟩; (try (rw [drewN_self w19]; generalize hq_ : World.drewN w19 _ = w19; have n0_ : Aside0 (w19.heap[gb188]? = some (.cells #[.int .i64 0, .int .i64 0, .int .i64 0] 27 (0, 0))) := ⟨by rw [← hq_]; exact (bkp BK188)⟩; have n1_ : Aside0 (w19.heap[gb189]? = some (.cells #[.int .i64 x190000_2, .int .i64 x190001_2] 53 (0, 0))) := ⟨by rw [← hq_]; exact (bkp BK189)⟩; have n2_ : Aside0 (w19.heap[gb191]? = some (.cells #[.int .i64 x192000_2, .int .i64 x192001_2] 53 (0, 0))) := ⟨by rw [← hq_]; exact (bkp BK191)⟩; have n3_ : Aside0 (Below w.heap.size w w19) := ⟨by rw [← hq_]; exact (bbw3 HB GE188 GE189 GE191)⟩; clear BK188 BK189 BK191 HB hq_; have BK188 := n0_; have BK189 := n1_; have BK191 := n2_; have HB := n3_; clear n0_ n1_ n2_ n3_)); have hcz22_0 : w19.cell? ⟨gb189, 0, none⟩ = some (.int .i64 x190000_2) := bcl BK189 0; have hcz22_1 : w19.cell? ⟨gb189, 1, none⟩ = some (.int .i64 x190001_2) := bcl BK189 1; have hfz22_0 := blk_frozen BK189.out 0; have hfz22_1 := blk_frozen BK189.out 1))
         go_roundg k2
         case measure => have := HK1.out; have := HK2.out; omega
         case rel => exact ⟨(t193), (wrap64 (x5_1 + 1)), (t194), (x190001_2), (by first | rfl | (simp; done) | (simp [*]; done)), (by first | rfl | (simp; done) | (simp [*]; done)), H', ⟨by have := HK1.out; have := HK2.out; omega⟩, ⟨bq1 BK188 NB188_189⟩, ⟨bq0 BK189⟩, ⟨bbw3 HB GE188 GE189 GE191⟩⟩
        ·rw [if_neg c14] at H
         have c14b0 : decide (0 < t193) = false := decide_eq_false c14
         clear c14
         have H' := Aside0.mk H
         clear H
         have hnb23 := NB191_188.out
         have hnc23 := NB188_191.out
         have hnb24 := NB191_189.out
         have hnc24 := NB189_191.out
         obtain ⟨hcz25_0, hcz25_1, hfz25_0, hfz25_1⟩ := bz2 BK191
         go_wp2_with (first | ((with_reducible refine gate_callee (f := 120) rfl ?_); refine gl 48 Try.func120 #[.int .i64 x4_1, .int .i64 x192000_2] ?_; (with_reducible refine (spec_l01Divisor.calls _ _ _ _ _ A13.out).mono ?_); rintro e w26 ⟨rfl, hb⟩; refine ⟨_, rfl, ?_⟩; replace BK188 := bB BK188 hb; replace BK189 := bB BK189 hb; replace BK191 := bB BK191 hb; replace HB := bS3 HB GE188 GE189 GE191 hb; (try clear hb)))
         go_roundg k2
         case measure => have := HK1.out; have := HK2.out; omega
         case rel => exact ⟨(t193), (wrap64 (x5_1 + 1)), (x190000_2), (x190001_2), (by first | rfl | (simp; done) | (simp [*]; done)), (by first | rfl | (simp; done) | (simp [*]; done)), H', ⟨by have := HK1.out; have := HK2.out; omega⟩, ⟨bkp BK188⟩, ⟨bkp BK189⟩, ⟨bbw3 HB GE188 GE189 GE191⟩⟩
       ·rw [if_neg c12] at H
        have c12b0 : (x192001_2 == 0) = false := beq_eq_false_iff_ne.mpr c12
        have c12b1 : (x192001_2 != 0) = true := bne_iff_ne.mpr c12
        have H' := Aside0.mk H
        clear H
        have hnb27 := NB191_188.out
        have hnc27 := NB188_191.out
        have hnb28 := NB191_189.out
        have hnc28 := NB189_191.out
        obtain ⟨hcz29_0, hcz29_1, hfz29_0, hfz29_1⟩ := bz2 BK191
        have hnb30 := NB189_188.out
        have hnc30 := NB188_189.out
        obtain ⟨hcz31_0, hcz31_1, hfz31_0, hfz31_1⟩ := bz2 BK189
        go_wp2_with (first | ((with_reducible refine gd 8 rfl ?_); refine bx #[.int .i64 0, .int .i64 0] 53 ?_; intro gb192 hg w32 BK192 hb; have GE192 := ngw3 hg HB GE188 GE189 GE191; replace HB := bS3 HB GE188 GE189 GE191 hb; have NB188_192 := nlt hg BK188; have NB192_188 := nsy (nlt hg BK188); replace BK188 := bB BK188 hb; have NB189_192 := nlt hg BK189; have NB192_189 := nsy (nlt hg BK189); replace BK189 := bB BK189 hb; have NB191_192 := nlt hg BK191; have NB192_191 := nsy (nlt hg BK191); replace BK191 := bB BK191 hb; clear hb hg; have hnb33 := NB192_188.out; have hnc33 := NB188_192.out; have hnb34 := NB192_189.out; have hnc34 := NB189_192.out; have hnb35 := NB192_191.out; have hnc35 := NB191_192.out; obtain ⟨hcz36_0, hcz36_1, hfz36_0, hfz36_1⟩ := bz2 BK192; obtain ⟨hcz37_0, hcz37_1, hfz37_0, hfz37_1⟩ := bz2 BK191; obtain ⟨hcz38_0, hcz38_1, hfz38_0, hfz38_1⟩ := bz2 BK189))
        go_roundg k2
        case measure => have := HK1.out; have := HK2.out; omega
        case rel => exact ⟨(x192000_2), (x192001_2), (wrap64 (x190000_2 - (wrap64 ((wrap64 (Int.tdiv x190001_2 x192001_2)) * x192000_2)))), (wrap64 (x190001_2 - (wrap64 ((wrap64 (Int.tdiv x190001_2 x192001_2)) * x192001_2)))), H', ⟨by have := HK1.out; have := HK2.out; omega⟩, ⟨bq3 BK188 NB188_191 NB188_189 NB188_192⟩, ⟨bq2 BK189 NB189_191 NB189_192⟩, ⟨bq2 BK191 NB191_189 NB191_192⟩, ⟨bbw4 HB GE188 GE189 GE191 GE192⟩⟩
    ·rw [if_neg c7] at H
     exact absurd H (by simp)
   ·rw [if_neg c6] at H
    have c6b0 := decide_eq_false c6
    clear c6
    by_cases c39 : x190001_1 < 0
    ·rw [if_pos c39] at H
     have c39b0 := decide_eq_true c39
     clear c39
     obtain ⟨⟨t195, t196⟩, A40, H⟩ := ob H
     try dsimp only at H
     by_cases c41 : x4_1 > 0
     ·rw [if_pos c41] at H
      have c41b0 : decide (0 < x4_1) = true := decide_eq_true c41
      clear c41
      obtain ⟨t197, A42, H⟩ := ob H
      try dsimp only at H
      simp only [Option.some.injEq, Prod.mk.injEq] at H
      obtain ⟨rfl, rfl, rfl⟩ := H
      have hnb43 := NB189_188.out
      have hnc43 := NB188_189.out
      obtain ⟨hcz44_0, hcz44_1, hfz44_0, hfz44_1⟩ := bz2 BK189
      go_wp2_with (first | ((with_reducible refine gate_callee (f := 74) rfl ?_); refine gl 60 Try.func74 #[.agg #[.int .i64 x190000_1, .int .i64 x190001_1], .int .i64 (-1)] ?_; (with_reducible refine (spec_l01Scale.calls _ _ _ _ _ _ A40.out).mono ?_); rintro e w45 ⟨rfl, hb⟩; refine ⟨_, rfl, ?_⟩; replace BK188 := bB BK188 hb; replace BK189 := bB BK189 hb; replace HB := bS2 HB GE188 GE189 hb; (try clear hb); obtain ⟨hcz46_0, hcz46_1, hfz46_0, hfz46_1⟩ := bz2 BK189) | ((with_reducible refine gate_callee (f := 105) rfl ?_); refine gl 66 Try.func105 #[.int .i64 t195, .int .i64 x4_1] ?_; (with_reducible refine (spec_l01Mod.calls _ _ _ _ A42.out).mono ?_); rintro e w' ⟨rfl, ⟨nd, rfl⟩⟩; refine ⟨_, rfl, ?_⟩; have hcz47_0 : w45.cell? ⟨gb188, 0, none⟩ = some (.int .i64 0) := bcl BK188 0; have hcz47_1 : w45.cell? ⟨gb188, 1, none⟩ = some (.int .i64 0) := bcl BK188 1; have hcz47_2 : w45.cell? ⟨gb188, 2, none⟩ = some (.int .i64 0) := bcl BK188 2; have hfz47_0 := blk_frozen BK188.out 0; have hfz47_1 := blk_frozen BK188.out 1; have hfz47_2 := blk_frozen BK188.out 2))
      refine bodyPost_ret (results_cell_row rfl _ _ gb188 27 #[.int .i64 x4_1, .int .i64 t197, .int .i64 t196] (0, 0) _ rfl (bq1 BK188 NB188_189) Try.underlying27 rfl (by kernel_rfl)) rfl ?_
      exact er (bbw2 HB GE188 GE189)
     ·rw [if_neg c41] at H
      have c41b0 : decide (0 < x4_1) = false := decide_eq_false c41
      clear c41
      simp only [Option.some.injEq, Prod.mk.injEq] at H
      obtain ⟨rfl, rfl, rfl⟩ := H
      have hnb48 := NB189_188.out
      have hnc48 := NB188_189.out
      obtain ⟨hcz49_0, hcz49_1, hfz49_0, hfz49_1⟩ := bz2 BK189
      go_wp2_with (first | ((with_reducible refine gate_callee (f := 74) rfl ?_); refine gl 60 Try.func74 #[.agg #[.int .i64 x190000_1, .int .i64 x190001_1], .int .i64 (-1)] ?_; (with_reducible refine (spec_l01Scale.calls _ _ _ _ _ _ A40.out).mono ?_); rintro e w50 ⟨rfl, hb⟩; refine ⟨_, rfl, ?_⟩; replace BK188 := bB BK188 hb; replace BK189 := bB BK189 hb; replace HB := bS2 HB GE188 GE189 hb; (try clear hb); obtain ⟨hcz51_0, hcz51_1, hfz51_0, hfz51_1⟩ := bz2 BK189; obtain ⟨hcz52_0, hcz52_1, hcz52_2, hfz52_0, hfz52_1, hfz52_2⟩ := bz3 BK188))
      refine bodyPost_ret (results_cell_row rfl _ _ gb188 27 #[.int .i64 x4_1, .int .i64 t195, .int .i64 t196] (0, 0) _ rfl (bq1 BK188 NB188_189) Try.underlying27 rfl (by kernel_rfl)) rfl ?_
      exact er (bbw2 HB GE188 GE189)
    ·rw [if_neg c39] at H
     have c39b0 := decide_eq_false c39
     clear c39
     by_cases c53 : x4_1 > 0
     ·rw [if_pos c53] at H
      have c53b0 : decide (0 < x4_1) = true := decide_eq_true c53
      clear c53
      obtain ⟨t198, A54, H⟩ := ob H
      try dsimp only at H
      simp only [Option.some.injEq, Prod.mk.injEq] at H
      obtain ⟨rfl, rfl, rfl⟩ := H
      have hnb55 := NB189_188.out
      have hnc55 := NB188_189.out
      obtain ⟨hcz56_0, hcz56_1, hfz56_0, hfz56_1⟩ := bz2 BK189
      go_wp2_with (first | ((with_reducible refine gate_callee (f := 105) rfl ?_); refine gl 66 Try.func105 #[.int .i64 x190000_1, .int .i64 x4_1] ?_; (with_reducible refine (spec_l01Mod.calls _ _ _ _ A54.out).mono ?_); rintro e w' ⟨rfl, ⟨nd, rfl⟩⟩; refine ⟨_, rfl, ?_⟩; (try (rw [drewN_self wr]; generalize hq_ : World.drewN wr _ = wr; have n0_ : Aside0 (wr.heap[gb188]? = some (.cells #[.int .i64 0, .int .i64 0, .int .i64 0] 27 (0, 0))) := ⟨by rw [← hq_]; exact (bkp BK188)⟩; have n1_ : Aside0 (wr.heap[gb189]? = some (.cells #[.int .i64 x190000_1, .int .i64 x190001_1] 53 (0, 0))) := ⟨by rw [← hq_]; exact (bkp BK189)⟩; have n2_ : Aside0 (Below w.heap.size w wr) := ⟨by rw [← hq_]; exact (bbw2 HB GE188 GE189)⟩; clear BK188 BK189 HB hq_; have BK188 := n0_; have BK189 := n1_; have HB := n2_; clear n0_ n1_ n2_)); have hcz57_0 : wr.cell? ⟨gb189, 0, none⟩ = some (.int .i64 x190000_1) := bcl BK189 0; have hcz57_1 : wr.cell? ⟨gb189, 1, none⟩ = some (.int .i64 x190001_1) := bcl BK189 1; have hfz57_0 := blk_frozen BK189.out 0; have hfz57_1 := blk_frozen BK189.out 1; have hcz58_0 : wr.cell? ⟨gb188, 0, none⟩ = some (.int .i64 0) := bcl BK188 0; have hcz58_1 : wr.cell? ⟨gb188, 1, none⟩ = some (.int .i64 0) := bcl BK188 1; have hcz58_2 : wr.cell? ⟨gb188, 2, none⟩ = some (.int .i64 0) := bcl BK188 2; have hfz58_0 := blk_frozen BK188.out 0; have hfz58_1 := blk_frozen BK188.out 1; have hfz58_2 := blk_frozen BK188.out 2))
      refine bodyPost_ret (results_cell_row rfl _ _ gb188 27 #[.int .i64 x4_1, .int .i64 t198, .int .i64 x190001_1] (0, 0) _ rfl (bq1 BK188 NB188_189) Try.underlying27 rfl (by kernel_rfl)) rfl ?_
      exact er (bbw2 HB GE188 GE189)
     ·rw [if_neg c53] at H
      have c53b0 : decide (0 < x4_1) = false := decide_eq_false c53
      clear c53
      simp only [Option.some.injEq, Prod.mk.injEq] at H
      obtain ⟨rfl, rfl, rfl⟩ := H
      have hnb59 := NB189_188.out
      have hnc59 := NB188_189.out
      obtain ⟨hcz60_0, hcz60_1, hfz60_0, hfz60_1⟩ := bz2 BK189
      obtain ⟨hcz61_0, hcz61_1, hcz61_2, hfz61_0, hfz61_1, hfz61_2⟩ := bz3 BK188
      go_wp2
      refine bodyPost_ret (results_cell_row rfl _ _ gb188 27 #[.int .i64 x4_1, .int .i64 x190000_1, .int .i64 x190001_1] (0, 0) _ rfl (bq0 BK188) Try.underlying27 rfl (by kernel_rfl)) rfl ?_
      exact er (bbw2 HB GE188 GE189)
end Go.Proofs.Ytcchmdodifkloaa.PA
