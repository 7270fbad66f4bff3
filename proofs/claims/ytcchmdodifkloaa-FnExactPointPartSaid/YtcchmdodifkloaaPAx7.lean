/- Walks written by program: each Go function that the law reaches comes to the plain function beside it. -/
import Derived.Test.YtcchmdodifkloaaPAx0
import Derived.Test.YtcchmdodifkloaaPAx6
namespace Go.Proofs.Ytcchmdodifkloaa.PA
open Go.RowKit Go.Proofs.YtcchmdodifkloaaW.PrintWords Go.Proofs.YtcchmdodifkloaaW.PrintLast Go.Proofs.YtcchmdodifkloaaW.PrintMore
attribute [local go_sem] max2_int min2_int max_two min_two max_three min_three max_four min_four   -- for this text's walks alone
set_option linter.unusedVariables false
set_option linter.unusedSimpArgs false

/-! ### spec_IsMat: function 101 -/
def spec_IsMat.f (a0_0 : Int) (a0_1 : Int) (a0_2 : Int) (a0_3 : Int) : Option (Bool) := (spec_l02Small.f a0_0 a0_1 a0_2 a0_3).bind fun t211 => (if t211 = true then ((spec_l02Det.f a0_0 a0_1 a0_2 a0_3).bind fun t212 => (if t212 = 1 then (some true) else ((spec_l02Det.f a0_0 a0_1 a0_2 a0_3).bind fun t213 => (some (t213 == (-1)))))) else (some false))
set_option maxHeartbeats 8000000 in
set_option maxRecDepth 100000 in
theorem spec_IsMat.calls (a0_0 : Int) (a0_1 : Int) (a0_2 : Int) (a0_3 : Int) (r : Bool) (w : World) (h : spec_IsMat.f a0_0 a0_1 a0_2 a0_3 = some r) :
  Calls Try.prog 101 #[.agg #[.int .i64 a0_0, .int .i64 a0_1, .int .i64 a0_2, .int .i64 a0_3]] w fun e w' => e = .returned (.bool r) ∧ Below w.heap.size w w' := by
 have hu51 := Try.underlying51
 have HB := asd (Below.refl w.heap.size w)
 have H : ((spec_l02Small.f a0_0 a0_1 a0_2 a0_3).bind fun t211 => (if t211 = true then ((spec_l02Det.f a0_0 a0_1 a0_2 a0_3).bind fun t212 => (if t212 = 1 then (some true) else ((spec_l02Det.f a0_0 a0_1 a0_2 a0_3).bind fun t213 => (some (t213 == (-1)))))) else (some false))) = some r := h
 clear h
 obtain ⟨t211, A2, H⟩ := ob H
 replace H : (if t211 = true then ((spec_l02Det.f a0_0 a0_1 a0_2 a0_3).bind fun t212 => (if t212 = 1 then (some true) else ((spec_l02Det.f a0_0 a0_1 a0_2 a0_3).bind fun t213 => (some (t213 == (-1)))))) else (some false)) = some r := H
 by_cases c3 : t211 = true
 ·subst c3
  have H1 : ((spec_l02Det.f a0_0 a0_1 a0_2 a0_3).bind fun t212 => (if t212 = 1 then (some true) else ((spec_l02Det.f a0_0 a0_1 a0_2 a0_3).bind fun t213 => (some (t213 == (-1)))))) = some r := by rw [if_pos rfl] at H; first | done | exact H
  clear H
  have H := H1
  clear H1
  obtain ⟨t212, A4, H⟩ := ob H
  replace H : (if t212 = 1 then (some true) else ((spec_l02Det.f a0_0 a0_1 a0_2 a0_3).bind fun t213 => (some (t213 == (-1))))) = some r := H
  by_cases c5 : t212 = 1
  ·rw [if_pos c5] at H
   have c5b0 : (t212 == 1) = true := beq_iff_eq.mpr c5
   have c5b1 : (t212 != 1) = false := bne_eq_false_iff_eq.mpr c5
   clear c5
   obtain rfl := Option.some.inj H
   go_enter Try.func101, Try.ntmps101
   go_wp2_with (first | ((with_reducible refine gd 1 rfl ?_); refine bx #[.int .i64 a0_0, .int .i64 a0_1, .int .i64 a0_2, .int .i64 a0_3] 51 ?_; intro gb210 hg w6 BK210 hb; have GE210 := ngw0 hg HB; replace HB := bS0 HB hb; clear hb hg; obtain ⟨hcz7_0, hcz7_1, hcz7_2, hcz7_3, hfz7_0, hfz7_1, hfz7_2, hfz7_3⟩ := bz4 BK210) | ((with_reducible refine gate_callee (f := 69) rfl ?_); refine gl 4 Try.func69 #[.agg #[.int .i64 a0_0, .int .i64 a0_1, .int .i64 a0_2, .int .i64 a0_3]] ?_; (with_reducible refine (spec_l02Small.calls _ _ _ _ _ _ A2.out).mono ?_); rintro e w8 ⟨rfl, hb⟩; refine ⟨_, rfl, ?_⟩; replace BK210 := bB BK210 hb; replace HB := bS1 HB GE210 hb; (try clear hb); obtain ⟨hcz9_0, hcz9_1, hcz9_2, hcz9_3, hfz9_0, hfz9_1, hfz9_2, hfz9_3⟩ := bz4 BK210) | (go_at_call 36; (with_reducible refine (spec_l02Det.calls _ _ _ _ _ _ A4.out).mono ?_); rintro e w10 ⟨rfl, hb⟩; replace BK210 := bB BK210 hb; replace HB := bS1 HB GE210 hb; (try clear hb)))
   go_ret
   exact er (bbw1 HB GE210)
  ·rw [if_neg c5] at H
   have c5b0 : (t212 == 1) = false := beq_eq_false_iff_ne.mpr c5
   have c5b1 : (t212 != 1) = true := bne_iff_ne.mpr c5
   obtain ⟨t213, A11, H⟩ := ob H
   replace H : (some (t213 == (-1))) = some r := H
   have e_ : t212 = t213 := Option.some.inj (A4.out.symm.trans A11.out)
   subst e_
   obtain rfl := Option.some.inj H
   go_enter Try.func101, Try.ntmps101
   go_wp2_with (first | ((with_reducible refine gd 1 rfl ?_); refine bx #[.int .i64 a0_0, .int .i64 a0_1, .int .i64 a0_2, .int .i64 a0_3] 51 ?_; intro gb210 hg w12 BK210 hb; have GE210 := ngw0 hg HB; replace HB := bS0 HB hb; clear hb hg; obtain ⟨hcz13_0, hcz13_1, hcz13_2, hcz13_3, hfz13_0, hfz13_1, hfz13_2, hfz13_3⟩ := bz4 BK210) | ((with_reducible refine gate_callee (f := 69) rfl ?_); refine gl 4 Try.func69 #[.agg #[.int .i64 a0_0, .int .i64 a0_1, .int .i64 a0_2, .int .i64 a0_3]] ?_; (with_reducible refine (spec_l02Small.calls _ _ _ _ _ _ A2.out).mono ?_); rintro e w14 ⟨rfl, hb⟩; refine ⟨_, rfl, ?_⟩; replace BK210 := bB BK210 hb; replace HB := bS1 HB GE210 hb; (try clear hb); obtain ⟨hcz15_0, hcz15_1, hcz15_2, hcz15_3, hfz15_0, hfz15_1, hfz15_2, hfz15_3⟩ := bz4 BK210) | (go_at_call 36; (with_reducible refine (spec_l02Det.calls _ _ _ _ _ _ A4.out).mono ?_); rintro e w16 ⟨rfl, hb⟩; replace BK210 := bB BK210 hb; replace HB := bS1 HB GE210 hb; (try clear hb); obtain ⟨hcz17_0, hcz17_1, hcz17_2, hcz17_3, hfz17_0, hfz17_1, hfz17_2, hfz17_3⟩ := bz4 BK210) | (go_at_call 36; (with_reducible refine (spec_l02Det.calls _ _ _ _ _ _ A11.out).mono ?_); rintro e w18 ⟨rfl, hb⟩; replace BK210 := bB BK210 hb; replace HB := bS1 HB GE210 hb; (try clear hb)))
   go_ret
   exact er (bbw1 HB GE210)
 ·replace c3 := Bool.eq_false_iff.mpr c3
  subst c3
  have H1 : (some false) = some r := by rw [if_neg (show ¬ (false = true) by decide)] at H; first | done | exact H
  clear H
  have H := H1
  clear H1
  obtain rfl := Option.some.inj H
  go_enter Try.func101, Try.ntmps101
  go_wp2_with (first | ((with_reducible refine gd 1 rfl ?_); refine bx #[.int .i64 a0_0, .int .i64 a0_1, .int .i64 a0_2, .int .i64 a0_3] 51 ?_; intro gb210 hg w19 BK210 hb; have GE210 := ngw0 hg HB; replace HB := bS0 HB hb; clear hb hg; obtain ⟨hcz20_0, hcz20_1, hcz20_2, hcz20_3, hfz20_0, hfz20_1, hfz20_2, hfz20_3⟩ := bz4 BK210) | ((with_reducible refine gate_callee (f := 69) rfl ?_); refine gl 4 Try.func69 #[.agg #[.int .i64 a0_0, .int .i64 a0_1, .int .i64 a0_2, .int .i64 a0_3]] ?_; (with_reducible refine (spec_l02Small.calls _ _ _ _ _ _ A2.out).mono ?_); rintro e w21 ⟨rfl, hb⟩; refine ⟨_, rfl, ?_⟩; replace BK210 := bB BK210 hb; replace HB := bS1 HB GE210 hb; (try clear hb)))
  go_ret
  exact er (bbw1 HB GE210)

/-! ### spec_l04Norm: function 119 -/
def spec_l04Norm.f (a0 : Int) (a1_0 : Int) (a1_1 : Int) : Option (Int) := if a0 = 1 then (some (wrap64 ((wrap64 ((wrap64 (a1_0 * a1_0)) + (wrap64 (a1_1 * a1_1)))) + (wrap64 (a1_0 * a1_1))))) else (some (wrap64 ((wrap64 (a1_0 * a1_0)) + (wrap64 (a1_1 * a1_1)))))
set_option maxHeartbeats 8000000 in
set_option maxRecDepth 100000 in
theorem spec_l04Norm.calls (a0 : Int) (a1_0 : Int) (a1_1 : Int) (r : Int) (w : World) (h : spec_l04Norm.f a0 a1_0 a1_1 = some r) :
  Calls Try.prog 119 #[.int .i64 a0, .agg #[.int .i64 a1_0, .int .i64 a1_1]] w fun e w' => e = .returned (.int .i64 r) ∧ Below w.heap.size w w' := by
 have hu53 := Try.underlying53
 have HB := asd (Below.refl w.heap.size w)
 have H : (if a0 = 1 then (some (wrap64 ((wrap64 ((wrap64 (a1_0 * a1_0)) + (wrap64 (a1_1 * a1_1)))) + (wrap64 (a1_0 * a1_1))))) else (some (wrap64 ((wrap64 (a1_0 * a1_0)) + (wrap64 (a1_1 * a1_1)))))) = some r := h
 clear h
 by_cases c3 : a0 = 1
 ·rw [if_pos c3] at H
  have c3b0 : (a0 == 1) = true := beq_iff_eq.mpr c3
  have c3b1 : (a0 != 1) = false := bne_eq_false_iff_eq.mpr c3
  clear c3
  obtain rfl := Option.some.inj H
  go_enter Try.func119, Try.ntmps119
  go_wp2_with (first | ((with_reducible refine gd 3 rfl ?_); refine bx #[.int .i64 a1_0, .int .i64 a1_1] 53 ?_; intro gb214 hg w4 BK214 hb; have GE214 := ngw0 hg HB; replace HB := bS0 HB hb; clear hb hg; obtain ⟨hcz5_0, hcz5_1, hfz5_0, hfz5_1⟩ := bz2 BK214))
  go_ret
  exact er (bbw1 HB GE214)
 ·rw [if_neg c3] at H
  have c3b0 : (a0 == 1) = false := beq_eq_false_iff_ne.mpr c3
  have c3b1 : (a0 != 1) = true := bne_iff_ne.mpr c3
  obtain rfl := Option.some.inj H
  go_enter Try.func119, Try.ntmps119
  go_wp2_with (first | ((with_reducible refine gd 3 rfl ?_); refine bx #[.int .i64 a1_0, .int .i64 a1_1] 53 ?_; intro gb214 hg w6 BK214 hb; have GE214 := ngw0 hg HB; replace HB := bS0 HB hb; clear hb hg; obtain ⟨hcz7_0, hcz7_1, hfz7_0, hfz7_1⟩ := bz2 BK214))
  go_ret
  exact er (bbw1 HB GE214)

/-! ### spec_l04Keeps: function 102 -/
def spec_l04Keeps.f (a0 : Int) (a1_0 : Int) (a1_1 : Int) (a1_2 : Int) (a1_3 : Int) : Option (Bool) := (spec_l04Norm.f a0 a1_0 a1_2).bind fun t218 => (if t218 = 1 then ((spec_l04Norm.f a0 a1_1 a1_3).bind fun t219 => (if t219 = 1 then ((spec_l01Add.f a1_0 a1_2 a1_1 a1_3).bind fun bt220 => ((spec_l04Norm.f a0 bt220.1 bt220.2).bind fun t222 => (some (t222 == (wrap64 (2 + a0)))))) else (some false))) else (some false))
def spec_l04Keeps.T1 : Bool × List (List Nat × List Nat) := (true, [([], []), ([0], [0]), ([], []), ([2], [2]), ([1, 3], [1, 3]), ([], []), ([5], [5]), ([], []), ([7], [7]), ([6, 8], [6, 8]), ([], []), ([], []), ([10, 4, 0, 1, 2, 3, 4, 10, 11], [4, 10]), ([11, 9, 12, 0, 1, 2, 3, 4, 5, 6, 7, 8, 9, 10, 11, 12], [9, 11])])
def spec_l04Keeps.B1 : List Nat := [0, 1, 0, 4, 15, 0, 32, 0, 128, 480, 0, 0, 3103, 8191]
theorem spec_l04Keeps.tab1 : rtab .any (opsOf Try.f102 1) = spec_l04Keeps.T1 := by kernel_rfl
theorem spec_l04Keeps.bits1 : waitsOk spec_l04Keeps.T1.2 spec_l04Keeps.B1 = true := by kernel_rfl
set_option maxHeartbeats 8000000 in
set_option maxRecDepth 100000 in
theorem spec_l04Keeps.calls (a0 : Int) (a1_0 : Int) (a1_1 : Int) (a1_2 : Int) (a1_3 : Int) (r : Bool) (w : World) (h : spec_l04Keeps.f a0 a1_0 a1_1 a1_2 a1_3 = some r) :
  Calls Try.prog 102 #[.int .i64 a0, .agg #[.int .i64 a1_0, .int .i64 a1_1, .int .i64 a1_2, .int .i64 a1_3]] w fun e w' => e = .returned (.bool r) ∧ Below w.heap.size w w' := by
 have hu51 := Try.underlying51
 have hu53 := Try.underlying53
 have HB := asd (Below.refl w.heap.size w)
 have H : ((spec_l04Norm.f a0 a1_0 a1_2).bind fun t218 => (if t218 = 1 then ((spec_l04Norm.f a0 a1_1 a1_3).bind fun t219 => (if t219 = 1 then ((spec_l01Add.f a1_0 a1_2 a1_1 a1_3).bind fun bt220 => ((spec_l04Norm.f a0 bt220.1 bt220.2).bind fun t222 => (some (t222 == (wrap64 (2 + a0)))))) else (some false))) else (some false))) = some r := h
 clear h
 obtain ⟨t218, A3, H⟩ := ob H
 replace H : (if t218 = 1 then ((spec_l04Norm.f a0 a1_1 a1_3).bind fun t219 => (if t219 = 1 then ((spec_l01Add.f a1_0 a1_2 a1_1 a1_3).bind fun bt220 => ((spec_l04Norm.f a0 bt220.1 bt220.2).bind fun t222 => (some (t222 == (wrap64 (2 + a0)))))) else (some false))) else (some false)) = some r := H
 by_cases c4 : t218 = 1
 ·rw [if_pos c4] at H
  have c4b0 : (t218 == 1) = true := beq_iff_eq.mpr c4
  have c4b1 : (t218 != 1) = false := bne_eq_false_iff_eq.mpr c4
  clear c4
  obtain ⟨t219, A5, H⟩ := ob H
  replace H : (if t219 = 1 then ((spec_l01Add.f a1_0 a1_2 a1_1 a1_3).bind fun bt220 => ((spec_l04Norm.f a0 bt220.1 bt220.2).bind fun t222 => (some (t222 == (wrap64 (2 + a0)))))) else (some false)) = some r := H
  by_cases c6 : t219 = 1
  ·rw [if_pos c6] at H
   have c6b0 : (t219 == 1) = true := beq_iff_eq.mpr c6
   have c6b1 : (t219 != 1) = false := bne_eq_false_iff_eq.mpr c6
   clear c6
   obtain ⟨⟨t220, t221⟩, A7, H⟩ := ob H
   replace H : ((spec_l04Norm.f a0 t220 t221).bind fun t222 => (some (t222 == (wrap64 (2 + a0))))) = some r := H
   obtain ⟨t222, A8, H⟩ := ob H
   replace H : (some (t222 == (wrap64 (2 + a0)))) = some r := H
   obtain rfl := Option.some.inj H
   go_enter Try.func102, Try.ntmps102
   try go_wp2_with (first | ((with_reducible refine gd 3 rfl ?_); refine bx #[.int .i64 a1_0, .int .i64 a1_1, .int .i64 a1_2, .int .i64 a1_3] 51 ?_; intro gb215 hg w9 BK215 hb; have GE215 := ngw0 hg HB; replace HB := bS0 HB hb; clear hb hg))
   replace BK215 := asd (blk_drew BK215.out)
   replace HB := asd (below_drew1 HB.out)
   refine start_ (n := 14) (S := fun w' => w'.cell? ⟨gb215, 0, none⟩ = some (.int .i64 a1_0) ∧ w'.cell? ⟨gb215, 1, none⟩ = some (.int .i64 a1_1) ∧ w'.cell? ⟨gb215, 2, none⟩ = some (.int .i64 a1_2) ∧ w'.cell? ⟨gb215, 3, none⟩ = some (.int .i64 a1_3)) (ds := []) (bt 14 0) (by kernel_rfl) rfl rfl ⟨bcl BK215 0, bcl BK215 1, bcl BK215 2, bcl BK215 3⟩ (fun hHeld => ?_); refine with_tabW spec_l04Keeps.tab1 spec_l04Keeps.bits1 (fun HT_ HW_ => ?_)
   generalize w9.drew = w10 at BK215 HB hHeld ⊢
   refine pu 0 (some 7) (bt 14 1) HT_ ?_
   refine pu 2 (some 9) (bs 14 5) HT_ ?_
   refine pu 5 (some 12) (bs 14 37) HT_ ?_
   refine pu 7 (some 14) (bs 14 165) HT_ ?_
   refine ta 1 (some 8) (bs 14 167) HT_ HW_ hHeld ?_
   refine ta 3 (some 10) (bs 14 175) HT_ HW_ hHeld ?_
   refine pu 4 (some 11) (bs 14 191) HT_ ?_
   refine ta 6 (some 13) (bt 14 8) HT_ HW_ hHeld ?_
   refine ta 8 (some 15) (bt 14 9) HT_ HW_ hHeld ?_
   refine pu 9 (some 16) (bt 14 10) HT_ ?_
   refine join_ (σ := Nat × Nat) 2 (bt 14 12) (fun s_ => [(5, .pointer (some ⟨s_.1, 0, none⟩)), (6, .pointer (some ⟨s_.2, 0, none⟩))]) (fun s_ w' => (w'.cell? ⟨gb215, 0, none⟩ = some (.int .i64 a1_0) ∧ w'.cell? ⟨gb215, 1, none⟩ = some (.int .i64 a1_1) ∧ w'.cell? ⟨gb215, 2, none⟩ = some (.int .i64 a1_2) ∧ w'.cell? ⟨gb215, 3, none⟩ = some (.int .i64 a1_3)) ∧ (w'.heap[gb215]? = some (.cells #[.int .i64 a1_0, .int .i64 a1_1, .int .i64 a1_2, .int .i64 a1_3] 51 (0, 0))) ∧ (w'.heap[s_.1]? = some (.cells #[.int .i64 0, .int .i64 0] 53 (0, 0))) ∧ (w'.heap[s_.2]? = some (.cells #[.int .i64 0, .int .i64 0] 53 (0, 0))) ∧ (w.heap.size ≤ s_.1) ∧ (w.heap.size ≤ s_.1) ∧ (gb215 ≠ s_.1) ∧ (s_.1 ≠ gb215) ∧ (s_.2 ≠ s_.1) ∧ (s_.1 ≠ s_.2) ∧ (w.heap.size ≤ s_.2) ∧ (w.heap.size ≤ s_.2) ∧ (gb215 ≠ s_.2) ∧ (s_.2 ≠ gb215) ∧ (Below w.heap.size w w')) ?_ ?_
   rotate_left
   ·intro hCont
    refine two_ (i := 10) (j := 11) (Ni := some 5) (Nj := some 6) (bt 14 11) (bs 14 3071) rfl rfl rfl rfl (two_of HT_.out (by kernel_rfl)) (by decide) (by decide) (fun K hK => ?_) (fun K hK => ?_)
    ·skip
     refine box_step ?hg (N := 5) ?hd (cs := #[.int .i64 0, .int .i64 0]) (t := 53) ?hr ?_; (case hd => rfl); (case hg => rfl); (case hr => first | (go_simp; done) | (go_simp; rfl))
     intro gb216 hg w11 hbox hb
     have BK216 := asd (hbox)
     have GW216 := ngw1 hg HB GE215
     have GE216 := ngw1 hg HB GE215
     replace HB := bS1 HB GE215 hb
     have NB215_216 := nlt hg BK215
     have NB216_215 := nsy (nlt hg BK215)
     replace BK215 := bB BK215 hb
     clear hb hbox hg
     refine hK.out _ _ ⟨bcl BK215 0, bcl BK215 1, bcl BK215 2, bcl BK215 3⟩ (fun hHeld => ?_)
     clear hK K
     refine norm_ (a' := ?_) ?_ ?_
     rotate_left
     ·show Act.put _ (some 5) _ = _
      simp only [Act.put, sA, sB, sC, i64_w, i32_w]
      rfl
     refine ro 11 (some 6) (bt 14 12) HT_ (fun K hK => ?_)
     refine box_step ?hg (N := 6) ?hd (cs := #[.int .i64 0, .int .i64 0]) (t := 53) ?hr ?_; (case hd => rfl); (case hg => rfl); (case hr => first | (go_simp; done) | (go_simp; rfl))
     intro gb217 hg w12 hbox hb
     have BK217 := asd (hbox)
     have GW217 := ngw2 hg HB GE215 GE216
     have GE217 := ngw2 hg HB GE215 GE216
     replace HB := bS2 HB GE215 GE216 hb
     have NB215_217 := nlt hg BK215
     have NB217_215 := nsy (nlt hg BK215)
     replace BK215 := bB BK215 hb
     have NB216_217 := nlt hg BK216
     have NB217_216 := nsy (nlt hg BK216)
     replace BK216 := bB BK216 hb
     clear hb hbox hg
     refine hK.out _ _ ⟨bcl BK215 0, bcl BK215 1, bcl BK215 2, bcl BK215 3⟩ (fun hHeld => ?_)
     clear hK K
     refine norm_ (a' := ?_) ?_ ?_
     rotate_left
     ·show Act.put _ (some 6) _ = _
      simp only [Act.put, sA, sB, sC, i64_w, i32_w]
      rfl
     exact norm_ (by simp only [putAll, Act.put, sA, sB, sC]) (hCont (gb216, gb217) _ ⟨hHeld, (bkp BK215), (bkp BK216), (bkp BK217), GW216.out, GE216.out, NB215_216.out, NB216_215.out, NB217_216.out, NB216_217.out, GW217.out, GE217.out, NB215_217.out, NB217_215.out, (bbw3 HB GE215 GE216 GE217)⟩)
    ·skip
     refine box_step ?hg (N := 6) ?hd (cs := #[.int .i64 0, .int .i64 0]) (t := 53) ?hr ?_; (case hd => rfl); (case hg => rfl); (case hr => first | (go_simp; done) | (go_simp; rfl))
     intro gb217 hg w11 hbox hb
     have BK217 := asd (hbox)
     have GW217 := ngw1 hg HB GE215
     have GE217 := ngw1 hg HB GE215
     replace HB := bS1 HB GE215 hb
     have NB215_217 := nlt hg BK215
     have NB217_215 := nsy (nlt hg BK215)
     replace BK215 := bB BK215 hb
     clear hb hbox hg
     refine hK.out _ _ ⟨bcl BK215 0, bcl BK215 1, bcl BK215 2, bcl BK215 3⟩ (fun hHeld => ?_)
     clear hK K
     refine norm_ (a' := ?_) ?_ ?_
     rotate_left
     ·show Act.put _ (some 6) _ = _
      simp only [Act.put, sA, sB, sC, i64_w, i32_w]
      rfl
     refine ro 10 (some 5) (bt 14 12) HT_ (fun K hK => ?_)
     refine box_step ?hg (N := 5) ?hd (cs := #[.int .i64 0, .int .i64 0]) (t := 53) ?hr ?_; (case hd => rfl); (case hg => rfl); (case hr => first | (go_simp; done) | (go_simp; rfl))
     intro gb216 hg w12 hbox hb
     have BK216 := asd (hbox)
     have GW216 := ngw2 hg HB GE215 GE217
     have GE216 := ngw2 hg HB GE215 GE217
     replace HB := bS2 HB GE215 GE217 hb
     have NB215_216 := nlt hg BK215
     have NB216_215 := nsy (nlt hg BK215)
     replace BK215 := bB BK215 hb
     have NB217_216 := nlt hg BK217
     have NB216_217 := nsy (nlt hg BK217)
     replace BK217 := bB BK217 hb
     clear hb hbox hg
     refine hK.out _ _ ⟨bcl BK215 0, bcl BK215 1, bcl BK215 2, bcl BK215 3⟩ (fun hHeld => ?_)
     clear hK K
     refine norm_ (a' := ?_) ?_ ?_
     rotate_left
     ·show Act.put _ (some 5) _ = _
      simp only [Act.put, sA, sB, sC, i64_w, i32_w]
      rfl
     exact norm_ (by simp only [putAll, Act.put, sA, sB, sC]) (hCont (gb216, gb217) _ ⟨hHeld, (bkp BK215), (bkp BK216), (bkp BK217), GW216.out, GE216.out, NB215_216.out, NB216_215.out, NB217_216.out, NB216_217.out, GW217.out, GE217.out, NB215_217.out, NB217_215.out, (bbw3 HB GE215 GE217 GE216)⟩)
   rintro ⟨gb216, gb217⟩ w13 ⟨hS_, h0_, h1_, h2_, h3_, h4_, h5_, h6_, h7_, h8_, h9_, h10_, h11_, h12_, h13_⟩
   have n0_ : Aside0 (w13.heap[gb215]? = some (.cells #[.int .i64 a1_0, .int .i64 a1_1, .int .i64 a1_2, .int .i64 a1_3] 51 (0, 0))) := ⟨h0_⟩
   have n1_ : Aside0 (w13.heap[gb216]? = some (.cells #[.int .i64 0, .int .i64 0] 53 (0, 0))) := ⟨h1_⟩
   have n2_ : Aside0 (w13.heap[gb217]? = some (.cells #[.int .i64 0, .int .i64 0] 53 (0, 0))) := ⟨h2_⟩
   have n3_ : Aside0 (w.heap.size ≤ gb216) := ⟨h3_⟩
   have n4_ : Aside0 (w.heap.size ≤ gb216) := ⟨h4_⟩
   have n5_ : Aside0 (gb215 ≠ gb216) := ⟨h5_⟩
   have n6_ : Aside0 (gb216 ≠ gb215) := ⟨h6_⟩
   have n7_ : Aside0 (gb217 ≠ gb216) := ⟨h7_⟩
   have n8_ : Aside0 (gb216 ≠ gb217) := ⟨h8_⟩
   have n9_ : Aside0 (w.heap.size ≤ gb217) := ⟨h9_⟩
   have n10_ : Aside0 (w.heap.size ≤ gb217) := ⟨h10_⟩
   have n11_ : Aside0 (gb215 ≠ gb217) := ⟨h11_⟩
   have n12_ : Aside0 (gb217 ≠ gb215) := ⟨h12_⟩
   have n13_ : Aside0 (Below w.heap.size w w13) := ⟨h13_⟩
   clear BK215
   clear HB
   clear h0_ h1_ h2_ h3_ h4_ h5_ h6_ h7_ h8_ h9_ h10_ h11_ h12_ h13_
   have BK215 := n0_
   have BK216 := n1_
   have BK217 := n2_
   have GW216 := n3_
   have GE216 := n4_
   have NB215_216 := n5_
   have NB216_215 := n6_
   have NB217_216 := n7_
   have NB216_217 := n8_
   have GW217 := n9_
   have GE217 := n10_
   have NB215_217 := n11_
   have NB217_215 := n12_
   have HB := n13_
   clear n0_ n1_ n2_ n3_ n4_ n5_ n6_ n7_ n8_ n9_ n10_ n11_ n12_ n13_
   have hHeld : w13.cell? ⟨gb215, 0, none⟩ = some (.int .i64 a1_0) ∧ w13.cell? ⟨gb215, 1, none⟩ = some (.int .i64 a1_1) ∧ w13.cell? ⟨gb215, 2, none⟩ = some (.int .i64 a1_2) ∧ w13.cell? ⟨gb215, 3, none⟩ = some (.int .i64 a1_3) := hS_
   refine norm_ (a' := ?_) ?_ ?_
   rotate_left
   ·simp only [putAll, Act.put, sA, sB, sC]
    rfl
   refine ro 12 (none) (bt 14 13) HT_ (fun K hK => ?_)
   have hs14 : w13.cell? ⟨gb216, 0, none⟩ = some (.int .i64 0) := bcl BK216 0
   have hfs14 := blk_frozen BK216.out 0
   have hns14_0 := NB215_216.out
   have hns14_2 := NB217_216.out
   have hms14_0 := NB216_215.out
   have hms14_2 := NB216_217.out
   have hs15 : w13.cell? ⟨gb216, 1, none⟩ = some (.int .i64 0) := bcl BK216 1
   have hfs15 := blk_frozen BK216.out 1
   have hns15_0 := NB215_216.out
   have hns15_2 := NB217_216.out
   have hms15_0 := NB216_215.out
   have hms15_2 := NB216_217.out
   refine skip_ (w1 := ?_) (by rfl) rfl ?_ ?_
   rotate_left
   ·go_simp
    rfl
   refine hK.out _ _ ⟨(cf NB215_216 ((cf NB215_216 (hHeld.1)))), (cf NB215_216 ((cf NB215_216 (hHeld.2.1)))), (cf NB215_216 ((cf NB215_216 (hHeld.2.2.1)))), (cf NB215_216 ((cf NB215_216 (hHeld.2.2.2))))⟩ (fun hHeld => ?_)
   clear hK K
   refine ro 13 (none) (bt 14 14) HT_ (fun K hK => ?_)
   have hs16 : w13.cell? ⟨gb217, 0, none⟩ = some (.int .i64 0) := bcl BK217 0
   have hfs16 := blk_frozen BK217.out 0
   have hns16_0 := NB215_217.out
   have hns16_1 := NB216_217.out
   have hms16_0 := NB217_215.out
   have hms16_1 := NB217_216.out
   have hs17 : w13.cell? ⟨gb217, 1, none⟩ = some (.int .i64 0) := bcl BK217 1
   have hfs17 := blk_frozen BK217.out 1
   have hns17_0 := NB215_217.out
   have hns17_1 := NB216_217.out
   have hms17_0 := NB217_215.out
   have hms17_1 := NB217_216.out
   refine skip_ (w1 := ?_) (by rfl) rfl ?_ ?_
   rotate_left
   ·go_simp
    rfl
   refine hK.out _ _ ⟨(cf NB215_217 ((cf NB215_217 (hHeld.1)))), (cf NB215_217 ((cf NB215_217 (hHeld.2.1)))), (cf NB215_217 ((cf NB215_217 (hHeld.2.2.1)))), (cf NB215_217 ((cf NB215_217 (hHeld.2.2.2))))⟩ (fun hHeld => ?_)
   clear hK K
   refine done_ (done_of HT_.out (by kernel_rfl)) ?_
   have hnb18 := NB216_215.out
   have hnc18 := NB215_216.out
   have hnb19 := NB216_217.out
   have hnc19 := NB217_216.out
   obtain ⟨hcz20_0, hcz20_1, hfz20_0, hfz20_1⟩ := bz2 BK216
   try go_wp2_with (first | ((with_reducible refine gate_callee (f := 119) rfl ?_); refine gl 19 Try.func119 #[.int .i64 a0, .agg #[.int .i64 a1_0, .int .i64 a1_2]] ?_; (with_reducible refine (spec_l04Norm.calls _ _ _ _ _ A3.out).mono ?_); rintro e w21 ⟨rfl, hb⟩; refine ⟨_, rfl, ?_⟩; replace BK215 := asd (blk_below (g := gb215) (o := .cells #[.int .i64 a1_0, .int .i64 a1_1, .int .i64 a1_2, .int .i64 a1_3] 51 (0, 0)) (bq2 BK215 NB215_217 NB215_216) hb); replace BK216 := asd (blk_below (g := gb216) (o := .cells #[.int .i64 a1_0, .int .i64 a1_2] 53 (0, 0)) (bq1 BK216 NB216_217) hb); replace BK217 := asd (blk_below (g := gb217) (o := .cells #[.int .i64 a1_1, .int .i64 a1_3] 53 (0, 0)) (bq1 BK217 NB217_216) hb); replace HB := bS3 HB GE215 GE216 GE217 hb; (try clear hb); have hnb22 := NB217_215.out; have hnc22 := NB215_217.out; obtain ⟨hcz23_0, hcz23_1, hfz23_0, hfz23_1⟩ := bz2 BK217) | (go_at_call 119; (with_reducible refine (spec_l04Norm.calls _ _ _ _ _ A5.out).mono ?_); rintro e w24 ⟨rfl, hb⟩; replace BK215 := bB BK215 hb; replace BK216 := bB BK216 hb; replace BK217 := bB BK217 hb; replace HB := bS3 HB GE215 GE216 GE217 hb; (try clear hb); obtain ⟨hcz25_0, hcz25_1, hfz25_0, hfz25_1⟩ := bz2 BK216; obtain ⟨hcz26_0, hcz26_1, hfz26_0, hfz26_1⟩ := bz2 BK217) | (go_at_call 77; (with_reducible refine (spec_l01Add.calls _ _ _ _ _ _ _ A7.out).mono ?_); rintro e w27 ⟨rfl, hb⟩; replace BK215 := bB BK215 hb; replace BK216 := bB BK216 hb; replace BK217 := bB BK217 hb; replace HB := bS3 HB GE215 GE216 GE217 hb; (try clear hb)) | (go_at_call 119; (with_reducible refine (spec_l04Norm.calls _ _ _ _ _ A8.out).mono ?_); rintro e w28 ⟨rfl, hb⟩; replace BK215 := bB BK215 hb; replace BK216 := bB BK216 hb; replace BK217 := bB BK217 hb; replace HB := bS3 HB GE215 GE216 GE217 hb; (try clear hb)))
   go_ret
   exact er (bbw3 HB GE215 GE216 GE217)
  ·rw [if_neg c6] at H
   have c6b0 : (t219 == 1) = false := beq_eq_false_iff_ne.mpr c6
   have c6b1 : (t219 != 1) = true := bne_iff_ne.mpr c6
   obtain rfl := Option.some.inj H
   go_enter Try.func102, Try.ntmps102
   try go_wp2_with (first | ((with_reducible refine gd 3 rfl ?_); refine bx #[.int .i64 a1_0, .int .i64 a1_1, .int .i64 a1_2, .int .i64 a1_3] 51 ?_; intro gb215 hg w29 BK215 hb; have GE215 := ngw0 hg HB; replace HB := bS0 HB hb; clear hb hg))
   replace BK215 := asd (blk_drew BK215.out)
   replace HB := asd (below_drew1 HB.out)
   refine start_ (n := 14) (S := fun w' => w'.cell? ⟨gb215, 0, none⟩ = some (.int .i64 a1_0) ∧ w'.cell? ⟨gb215, 1, none⟩ = some (.int .i64 a1_1) ∧ w'.cell? ⟨gb215, 2, none⟩ = some (.int .i64 a1_2) ∧ w'.cell? ⟨gb215, 3, none⟩ = some (.int .i64 a1_3)) (ds := []) (bt 14 0) (by kernel_rfl) rfl rfl ⟨bcl BK215 0, bcl BK215 1, bcl BK215 2, bcl BK215 3⟩ (fun hHeld => ?_); refine with_tabW spec_l04Keeps.tab1 spec_l04Keeps.bits1 (fun HT_ HW_ => ?_)
   generalize w29.drew = w30 at BK215 HB hHeld ⊢
   refine pu 0 (some 7) (bt 14 1) HT_ ?_
   refine pu 2 (some 9) (bs 14 5) HT_ ?_
   refine pu 5 (some 12) (bs 14 37) HT_ ?_
   refine pu 7 (some 14) (bs 14 165) HT_ ?_
   refine ta 1 (some 8) (bs 14 167) HT_ HW_ hHeld ?_
   refine ta 3 (some 10) (bs 14 175) HT_ HW_ hHeld ?_
   refine pu 4 (some 11) (bs 14 191) HT_ ?_
   refine ta 6 (some 13) (bt 14 8) HT_ HW_ hHeld ?_
   refine ta 8 (some 15) (bt 14 9) HT_ HW_ hHeld ?_
   refine pu 9 (some 16) (bt 14 10) HT_ ?_
   refine join_ (σ := Nat × Nat) 2 (bt 14 12) (fun s_ => [(5, .pointer (some ⟨s_.1, 0, none⟩)), (6, .pointer (some ⟨s_.2, 0, none⟩))]) (fun s_ w' => (w'.cell? ⟨gb215, 0, none⟩ = some (.int .i64 a1_0) ∧ w'.cell? ⟨gb215, 1, none⟩ = some (.int .i64 a1_1) ∧ w'.cell? ⟨gb215, 2, none⟩ = some (.int .i64 a1_2) ∧ w'.cell? ⟨gb215, 3, none⟩ = some (.int .i64 a1_3)) ∧ (w'.heap[gb215]? = some (.cells #[.int .i64 a1_0, .int .i64 a1_1, .int .i64 a1_2, .int .i64 a1_3] 51 (0, 0))) ∧ (w'.heap[s_.1]? = some (.cells #[.int .i64 0, .int .i64 0] 53 (0, 0))) ∧ (w'.heap[s_.2]? = some (.cells #[.int .i64 0, .int .i64 0] 53 (0, 0))) ∧ (w.heap.size ≤ s_.1) ∧ (w.heap.size ≤ s_.1) ∧ (gb215 ≠ s_.1) ∧ (s_.1 ≠ gb215) ∧ (s_.2 ≠ s_.1) ∧ (s_.1 ≠ s_.2) ∧ (w.heap.size ≤ s_.2) ∧ (w.heap.size ≤ s_.2) ∧ (gb215 ≠ s_.2) ∧ (s_.2 ≠ gb215) ∧ (Below w.heap.size w w')) ?_ ?_
   rotate_left
   ·intro hCont
    refine two_ (i := 10) (j := 11) (Ni := some 5) (Nj := some 6) (bt 14 11) (bs 14 3071) rfl rfl rfl rfl (two_of HT_.out (by kernel_rfl)) (by decide) (by decide) (fun K hK => ?_) (fun K hK => ?_)
    ·skip
     refine box_step ?hg (N := 5) ?hd (cs := #[.int .i64 0, .int .i64 0]) (t := 53) ?hr ?_; (case hd => rfl); (case hg => rfl); (case hr => first | (go_simp; done) | (go_simp; rfl))
     intro gb216 hg w31 hbox hb
     have BK216 := asd (hbox)
     have GW216 := ngw1 hg HB GE215
     have GE216 := ngw1 hg HB GE215
     replace HB := bS1 HB GE215 hb
     have NB215_216 := nlt hg BK215
     have NB216_215 := nsy (nlt hg BK215)
     replace BK215 := bB BK215 hb
     clear hb hbox hg
     refine hK.out _ _ ⟨bcl BK215 0, bcl BK215 1, bcl BK215 2, bcl BK215 3⟩ (fun hHeld => ?_)
     clear hK K
     refine norm_ (a' := ?_) ?_ ?_
     rotate_left
     ·show Act.put _ (some 5) _ = _
      simp only [Act.put, sA, sB, sC, i64_w, i32_w]
      rfl
     refine ro 11 (some 6) (bt 14 12) HT_ (fun K hK => ?_)
     refine box_step ?hg (N := 6) ?hd (cs := #[.int .i64 0, .int .i64 0]) (t := 53) ?hr ?_; (case hd => rfl); (case hg => rfl); (case hr => first | (go_simp; done) | (go_simp; rfl))
     intro gb217 hg w32 hbox hb
     have BK217 := asd (hbox)
     have GW217 := ngw2 hg HB GE215 GE216
     have GE217 := ngw2 hg HB GE215 GE216
     replace HB := bS2 HB GE215 GE216 hb
     have NB215_217 := nlt hg BK215
     have NB217_215 := nsy (nlt hg BK215)
     replace BK215 := bB BK215 hb
     have NB216_217 := nlt hg BK216
     have NB217_216 := nsy (nlt hg BK216)
     replace BK216 := bB BK216 hb
     clear hb hbox hg
     refine hK.out _ _ ⟨bcl BK215 0, bcl BK215 1, bcl BK215 2, bcl BK215 3⟩ (fun hHeld => ?_)
     clear hK K
     refine norm_ (a' := ?_) ?_ ?_
     rotate_left
     ·show Act.put _ (some 6) _ = _
      simp only [Act.put, sA, sB, sC, i64_w, i32_w]
      rfl
     exact norm_ (by simp only [putAll, Act.put, sA, sB, sC]) (hCont (gb216, gb217) _ ⟨hHeld, (bkp BK215), (bkp BK216), (bkp BK217), GW216.out, GE216.out, NB215_216.out, NB216_215.out, NB217_216.out, NB216_217.out, GW217.out, GE217.out, NB215_217.out, NB217_215.out, (bbw3 HB GE215 GE216 GE217)⟩)
    ·skip
     refine box_step ?hg (N := 6) ?hd (cs := #[.int .i64 0, .int .i64 0]) (t := 53) ?hr ?_; (case hd => rfl); (case hg => rfl); (case hr => first | (go_simp; done) | (go_simp; rfl))
     intro gb217 hg w31 hbox hb
     have BK217 := asd (hbox)
     have GW217 := ngw1 hg HB GE215
     have GE217 := ngw1 hg HB GE215
     replace HB := bS1 HB GE215 hb
     have NB215_217 := nlt hg BK215
     have NB217_215 := nsy (nlt hg BK215)
     replace BK215 := bB BK215 hb
     clear hb hbox hg
     refine hK.out _ _ ⟨bcl BK215 0, bcl BK215 1, bcl BK215 2, bcl BK215 3⟩ (fun hHeld => ?_)
     clear hK K
     refine norm_ (a' := ?_) ?_ ?_
     rotate_left
     ·show Act.put _ (some 6) _ = _
      simp only [Act.put, sA, sB, sC, i64_w, i32_w]
      rfl
     refine ro 10 (some 5) (bt 14 12) HT_ (fun K hK => ?_)
     refine box_step ?hg (N := 5) ?hd (cs := #[.int .i64 0, .int .i64 0]) (t := 53) ?hr ?_; (case hd => rfl); (case hg => rfl); (case hr => first | (go_simp; done) | (go_simp; rfl))
     intro gb216 hg w32 hbox hb
     have BK216 := asd (hbox)
     have GW216 := ngw2 hg HB GE215 GE217
     have GE216 := ngw2 hg HB GE215 GE217
     replace HB := bS2 HB GE215 GE217 hb
     have NB215_216 := nlt hg BK215
     have NB216_215 := nsy (nlt hg BK215)
     replace BK215 := bB BK215 hb
     have NB217_216 := nlt hg BK217
     have NB216_217 := nsy (nlt hg BK217)
     replace BK217 := bB BK217 hb
     clear hb hbox hg
     refine hK.out _ _ ⟨bcl BK215 0, bcl BK215 1, bcl BK215 2, bcl BK215 3⟩ (fun hHeld => ?_)
     clear hK K
     refine norm_ (a' := ?_) ?_ ?_
     rotate_left
     ·show Act.put _ (some 5) _ = _
      simp only [Act.put, sA, sB, sC, i64_w, i32_w]
      rfl
     exact norm_ (by simp only [putAll, Act.put, sA, sB, sC]) (hCont (gb216, gb217) _ ⟨hHeld, (bkp BK215), (bkp BK216), (bkp BK217), GW216.out, GE216.out, NB215_216.out, NB216_215.out, NB217_216.out, NB216_217.out, GW217.out, GE217.out, NB215_217.out, NB217_215.out, (bbw3 HB GE215 GE217 GE216)⟩)
   rintro ⟨gb216, gb217⟩ w33 ⟨hS_, h0_, h1_, h2_, h3_, h4_, h5_, h6_, h7_, h8_, h9_, h10_, h11_, h12_, h13_⟩
   have n0_ : Aside0 (w33.heap[gb215]? = some (.cells #[.int .i64 a1_0, .int .i64 a1_1, .int .i64 a1_2, .int .i64 a1_3] 51 (0, 0))) := ⟨h0_⟩
   have n1_ : Aside0 (w33.heap[gb216]? = some (.cells #[.int .i64 0, .int .i64 0] 53 (0, 0))) := ⟨h1_⟩
   have n2_ : Aside0 (w33.heap[gb217]? = some (.cells #[.int .i64 0, .int .i64 0] 53 (0, 0))) := ⟨h2_⟩
   have n3_ : Aside0 (w.heap.size ≤ gb216) := ⟨h3_⟩
   have n4_ : Aside0 (w.heap.size ≤ gb216) := ⟨h4_⟩
   have n5_ : Aside0 (gb215 ≠ gb216) := ⟨h5_⟩
   have n6_ : Aside0 (gb216 ≠ gb215) := ⟨h6_⟩
   have n7_ : Aside0 (gb217 ≠ gb216) := ⟨h7_⟩
   have n8_ : Aside0 (gb216 ≠ gb217) := ⟨h8_⟩
   have n9_ : Aside0 (w.heap.size ≤ gb217) := ⟨h9_⟩
   have n10_ : Aside0 (w.heap.size ≤ gb217) := ⟨h10_⟩
   have n11_ : Aside0 (gb215 ≠ gb217) := ⟨h11_⟩
   have n12_ : Aside0 (gb217 ≠ gb215) := ⟨h12_⟩
   have n13_ : Aside0 (Below w.heap.size w w33) := ⟨h13_⟩
   clear BK215
   clear HB
   clear h0_ h1_ h2_ h3_ h4_ h5_ h6_ h7_ h8_ h9_ h10_ h11_ h12_ h13_
   have BK215 := n0_
   have BK216 := n1_
   have BK217 := n2_
   have GW216 := n3_
   have GE216 := n4_
   have NB215_216 := n5_
   have NB216_215 := n6_
   have NB217_216 := n7_
   have NB216_217 := n8_
   have GW217 := n9_
   have GE217 := n10_
   have NB215_217 := n11_
   have NB217_215 := n12_
   have HB := n13_
   clear n0_ n1_ n2_ n3_ n4_ n5_ n6_ n7_ n8_ n9_ n10_ n11_ n12_ n13_
   have hHeld : w33.cell? ⟨gb215, 0, none⟩ = some (.int .i64 a1_0) ∧ w33.cell? ⟨gb215, 1, none⟩ = some (.int .i64 a1_1) ∧ w33.cell? ⟨gb215, 2, none⟩ = some (.int .i64 a1_2) ∧ w33.cell? ⟨gb215, 3, none⟩ = some (.int .i64 a1_3) := hS_
   refine norm_ (a' := ?_) ?_ ?_
   rotate_left
   ·simp only [putAll, Act.put, sA, sB, sC]
    rfl
   refine ro 12 (none) (bt 14 13) HT_ (fun K hK => ?_)
   have hs34 : w33.cell? ⟨gb216, 0, none⟩ = some (.int .i64 0) := bcl BK216 0
   have hfs34 := blk_frozen BK216.out 0
   have hns34_0 := NB215_216.out
   have hns34_2 := NB217_216.out
   have hms34_0 := NB216_215.out
   have hms34_2 := NB216_217.out
   have hs35 : w33.cell? ⟨gb216, 1, none⟩ = some (.int .i64 0) := bcl BK216 1
   have hfs35 := blk_frozen BK216.out 1
   have hns35_0 := NB215_216.out
   have hns35_2 := NB217_216.out
   have hms35_0 := NB216_215.out
   have hms35_2 := NB216_217.out
   refine skip_ (w1 := ?_) (by rfl) rfl ?_ ?_
   rotate_left
   ·go_simp
    rfl
   refine hK.out _ _ ⟨(cf NB215_216 ((cf NB215_216 (hHeld.1)))), (cf NB215_216 ((cf NB215_216 (hHeld.2.1)))), (cf NB215_216 ((cf NB215_216 (hHeld.2.2.1)))), (cf NB215_216 ((cf NB215_216 (hHeld.2.2.2))))⟩ (fun hHeld => ?_)
   clear hK K
   refine ro 13 (none) (bt 14 14) HT_ (fun K hK => ?_)
   have hs36 : w33.cell? ⟨gb217, 0, none⟩ = some (.int .i64 0) := bcl BK217 0
   have hfs36 := blk_frozen BK217.out 0
   have hns36_0 := NB215_217.out
   have hns36_1 := NB216_217.out
   have hms36_0 := NB217_215.out
   have hms36_1 := NB217_216.out
   have hs37 : w33.cell? ⟨gb217, 1, none⟩ = some (.int .i64 0) := bcl BK217 1
   have hfs37 := blk_frozen BK217.out 1
   have hns37_0 := NB215_217.out
   have hns37_1 := NB216_217.out
   have hms37_0 := NB217_215.out
   have hms37_1 := NB217_216.out
   refine skip_ (w1 := ?_) (by rfl) rfl ?_ ?_
   rotate_left
   ·go_simp
    rfl
   refine hK.out _ _ ⟨(cf NB215_217 ((cf NB215_217 (hHeld.1)))), (cf NB215_217 ((cf NB215_217 (hHeld.2.1)))), (cf NB215_217 ((cf NB215_217 (hHeld.2.2.1)))), (cf NB215_217 ((cf NB215_217 (hHeld.2.2.2))))⟩ (fun hHeld => ?_)
   clear hK K
   refine done_ (done_of HT_.out (by kernel_rfl)) ?_
   have hnb38 := NB216_215.out
   have hnc38 := NB215_216.out
   have hnb39 := NB216_217.out
   have hnc39 := NB217_216.out
   obtain ⟨hcz40_0, hcz40_1, hfz40_0, hfz40_1⟩ := bz2 BK216
   try go_wp2_with (first | ((with_reducible refine gate_callee (f := 119) rfl ?_); refine gl 19 Try.func119 #[.int .i64 a0, .agg #[.int .i64 a1_0, .int .i64 a1_2]] ?_; (with_reducible refine (spec_l04Norm.calls _ _ _ _ _ A3.out).mono ?_); rintro e w41 ⟨rfl, hb⟩; refine ⟨_, rfl, ?_⟩; replace BK215 := asd (blk_below (g := gb215) (o := .cells #[.int .i64 a1_0, .int .i64 a1_1, .int .i64 a1_2, .int .i64 a1_3] 51 (0, 0)) (bq2 BK215 NB215_217 NB215_216) hb); replace BK216 := asd (blk_below (g := gb216) (o := .cells #[.int .i64 a1_0, .int .i64 a1_2] 53 (0, 0)) (bq1 BK216 NB216_217) hb); replace BK217 := asd (blk_below (g := gb217) (o := .cells #[.int .i64 a1_1, .int .i64 a1_3] 53 (0, 0)) (bq1 BK217 NB217_216) hb); replace HB := bS3 HB GE215 GE216 GE217 hb; (try clear hb); have hnb42 := NB217_215.out; have hnc42 := NB215_217.out; obtain ⟨hcz43_0, hcz43_1, hfz43_0, hfz43_1⟩ := bz2 BK217) | (go_at_call 119; (with_reducible refine (spec_l04Norm.calls _ _ _ _ _ A5.out).mono ?_); rintro e w44 ⟨rfl, hb⟩; replace BK215 := bB BK215 hb; replace BK216 := bB BK216 hb; replace BK217 := bB BK217 hb; replace HB := bS3 HB GE215 GE216 GE217 hb; (try clear hb)))
   go_ret
   exact er (bbw3 HB GE215 GE216 GE217)
 ·rw [if_neg c4] at H
  have c4b0 : (t218 == 1) = false := beq_eq_false_iff_ne.mpr c4
  have c4b1 : (t218 != 1) = true := bne_iff_ne.mpr c4
  obtain rfl := Option.some.inj H
  go_enter Try.func102, Try.ntmps102
  try go_wp2_with (first | ((with_reducible refine gd 3 rfl ?_); refine bx #[.int .i64 a1_0, .int .i64 a1_1, .int .i64 a1_2, .int .i64 a1_3] 51 ?_; intro gb215 hg w45 BK215 hb; have GE215 := ngw0 hg HB; replace HB := bS0 HB hb; clear hb hg))
  replace BK215 := asd (blk_drew BK215.out)
  replace HB := asd (below_drew1 HB.out)
  refine start_ (n := 14) (S := fun w' => w'.cell? ⟨gb215, 0, none⟩ = some (.int .i64 a1_0) ∧ w'.cell? ⟨gb215, 1, none⟩ = some (.int .i64 a1_1) ∧ w'.cell? ⟨gb215, 2, none⟩ = some (.int .i64 a1_2) ∧ w'.cell? ⟨gb215, 3, none⟩ = some (.int .i64 a1_3)) (ds := []) (bt 14 0) (by kernel_rfl) rfl rfl ⟨bcl BK215 0, bcl BK215 1, bcl BK215 2, bcl BK215 3⟩ (fun hHeld => ?_); refine with_tabW spec_l04Keeps.tab1 spec_l04Keeps.bits1 (fun HT_ HW_ => ?_)
  generalize w45.drew = w46 at BK215 HB hHeld ⊢
  refine pu 0 (some 7) (bt 14 1) HT_ ?_
  refine pu 2 (some 9) (bs 14 5) HT_ ?_
  refine pu 5 (some 12) (bs 14 37) HT_ ?_
  refine pu 7 (some 14) (bs 14 165) HT_ ?_
  refine ta 1 (some 8) (bs 14 167) HT_ HW_ hHeld ?_
  refine ta 3 (some 10) (bs 14 175) HT_ HW_ hHeld ?_
  refine pu 4 (some 11) (bs 14 191) HT_ ?_
  refine ta 6 (some 13) (bt 14 8) HT_ HW_ hHeld ?_
  refine ta 8 (some 15) (bt 14 9) HT_ HW_ hHeld ?_
  refine pu 9 (some 16) (bt 14 10) HT_ ?_
  refine join_ (σ := Nat × Nat) 2 (bt 14 12) (fun s_ => [(5, .pointer (some ⟨s_.1, 0, none⟩)), (6, .pointer (some ⟨s_.2, 0, none⟩))]) (fun s_ w' => (w'.cell? ⟨gb215, 0, none⟩ = some (.int .i64 a1_0) ∧ w'.cell? ⟨gb215, 1, none⟩ = some (.int .i64 a1_1) ∧ w'.cell? ⟨gb215, 2, none⟩ = some (.int .i64 a1_2) ∧ w'.cell? ⟨gb215, 3, none⟩ = some (.int .i64 a1_3)) ∧ (w'.heap[gb215]? = some (.cells #[.int .i64 a1_0, .int .i64 a1_1, .int .i64 a1_2, .int .i64 a1_3] 51 (0, 0))) ∧ (w'.heap[s_.1]? = some (.cells #[.int .i64 0, .int .i64 0] 53 (0, 0))) ∧ (w'.heap[s_.2]? = some (.cells #[.int .i64 0, .int .i64 0] 53 (0, 0))) ∧ (w.heap.size ≤ s_.1) ∧ (w.heap.size ≤ s_.1) ∧ (gb215 ≠ s_.1) ∧ (s_.1 ≠ gb215) ∧ (s_.2 ≠ s_.1) ∧ (s_.1 ≠ s_.2) ∧ (w.heap.size ≤ s_.2) ∧ (w.heap.size ≤ s_.2) ∧ (gb215 ≠ s_.2) ∧ (s_.2 ≠ gb215) ∧ (Below w.heap.size w w')) ?_ ?_
  rotate_left
  ·intro hCont
   refine two_ (i := 10) (j := 11) (Ni := some 5) (Nj := some 6) (bt 14 11) (bs 14 3071) rfl rfl rfl rfl (two_of HT_.out (by kernel_rfl)) (by decide) (by decide) (fun K hK => ?_) (fun K hK => ?_)
   ·skip
    refine box_step ?hg (N := 5) ?hd (cs := #[.int .i64 0, .int .i64 0]) (t := 53) ?hr ?_; (case hd => rfl); (case hg => rfl); (case hr => first | (go_simp; done) | (go_simp; rfl))
    intro gb216 hg w47 hbox hb
    have BK216 := asd (hbox)
    have GW216 := ngw1 hg HB GE215
    have GE216 := ngw1 hg HB GE215
    replace HB := bS1 HB GE215 hb
    have NB215_216 := nlt hg BK215
    have NB216_215 := nsy (nlt hg BK215)
    replace BK215 := bB BK215 hb
    clear hb hbox hg
    refine hK.out _ _ ⟨bcl BK215 0, bcl BK215 1, bcl BK215 2, bcl BK215 3⟩ (fun hHeld => ?_)
    clear hK K
    refine norm_ (a' := ?_) ?_ ?_
    rotate_left
    ·show Act.put _ (some 5) _ = _
     simp only [Act.put, sA, sB, sC, i64_w, i32_w]
     rfl
    refine ro 11 (some 6) (bt 14 12) HT_ (fun K hK => ?_)
    refine box_step ?hg (N := 6) ?hd (cs := #[.int .i64 0, .int .i64 0]) (t := 53) ?hr ?_; (case hd => rfl); (case hg => rfl); (case hr => first | (go_simp; done) | (go_simp; rfl))
    intro gb217 hg w48 hbox hb
    have BK217 := asd (hbox)
    have GW217 := ngw2 hg HB GE215 GE216
    have GE217 := ngw2 hg HB GE215 GE216
    replace HB := bS2 HB GE215 GE216 hb
    have NB215_217 := nlt hg BK215
    have NB217_215 := nsy (nlt hg BK215)
    replace BK215 := bB BK215 hb
    have NB216_217 := nlt hg BK216
    have NB217_216 := nsy (nlt hg BK216)
    replace BK216 := bB BK216 hb
    clear hb hbox hg
    refine hK.out _ _ ⟨bcl BK215 0, bcl BK215 1, bcl BK215 2, bcl BK215 3⟩ (fun hHeld => ?_)
    clear hK K
    refine norm_ (a' := ?_) ?_ ?_
    rotate_left
    ·show Act.put _ (some 6) _ = _
     simp only [Act.put, sA, sB, sC, i64_w, i32_w]
     rfl
    exact norm_ (by simp only [putAll, Act.put, sA, sB, sC]) (hCont (gb216, gb217) _ ⟨hHeld, (bkp BK215), (bkp BK216), (bkp BK217), GW216.out, GE216.out, NB215_216.out, NB216_215.out, NB217_216.out, NB216_217.out, GW217.out, GE217.out, NB215_217.out, NB217_215.out, (bbw3 HB GE215 GE216 GE217)⟩)
   ·skip
    refine box_step ?hg (N := 6) ?hd (cs := #[.int .i64 0, .int .i64 0]) (t := 53) ?hr ?_; (case hd => rfl); (case hg => rfl); (case hr => first | (go_simp; done) | (go_simp; rfl))
    intro gb217 hg w47 hbox hb
    have BK217 := asd (hbox)
    have GW217 := ngw1 hg HB GE215
    have GE217 := ngw1 hg HB GE215
    replace HB := bS1 HB GE215 hb
    have NB215_217 := nlt hg BK215
    have NB217_215 := nsy (nlt hg BK215)
    replace BK215 := bB BK215 hb
    clear hb hbox hg
    refine hK.out _ _ ⟨bcl BK215 0, bcl BK215 1, bcl BK215 2, bcl BK215 3⟩ (fun hHeld => ?_)
    clear hK K
    refine norm_ (a' := ?_) ?_ ?_
    rotate_left
    ·show Act.put _ (some 6) _ = _
     simp only [Act.put, sA, sB, sC, i64_w, i32_w]
     rfl
    refine ro 10 (some 5) (bt 14 12) HT_ (fun K hK => ?_)
    refine box_step ?hg (N := 5) ?hd (cs := #[.int .i64 0, .int .i64 0]) (t := 53) ?hr ?_; (case hd => rfl); (case hg => rfl); (case hr => first | (go_simp; done) | (go_simp; rfl))
    intro gb216 hg w48 hbox hb
    have BK216 := asd (hbox)
    have GW216 := ngw2 hg HB GE215 GE217
    have GE216 := ngw2 hg HB GE215 GE217
    replace HB := bS2 HB GE215 GE217 hb
    have NB215_216 := nlt hg BK215
    have NB216_215 := nsy (nlt hg BK215)
    replace BK215 := bB BK215 hb
    have NB217_216 := nlt hg BK217
    have NB216_217 := nsy (nlt hg BK217)
    replace BK217 := bB BK217 hb
    clear hb hbox hg
    refine hK.out _ _ ⟨bcl BK215 0, bcl BK215 1, bcl BK215 2, bcl BK215 3⟩ (fun hHeld => ?_)
    clear hK K
    refine norm_ (a' := ?_) ?_ ?_
    rotate_left
    ·show Act.put _ (some 5) _ = _
     simp only [Act.put, sA, sB, sC, i64_w, i32_w]
     rfl
    exact norm_ (by simp only [putAll, Act.put, sA, sB, sC]) (hCont (gb216, gb217) _ ⟨hHeld, (bkp BK215), (bkp BK216), (bkp BK217), GW216.out, GE216.out, NB215_216.out, NB216_215.out, NB217_216.out, NB216_217.out, GW217.out, GE217.out, NB215_217.out, NB217_215.out, (bbw3 HB GE215 GE217 GE216)⟩)
  rintro ⟨gb216, gb217⟩ w49 ⟨hS_, h0_, h1_, h2_, h3_, h4_, h5_, h6_, h7_, h8_, h9_, h10_, h11_, h12_, h13_⟩
  have n0_ : Aside0 (w49.heap[gb215]? = some (.cells #[.int .i64 a1_0, .int .i64 a1_1, .int .i64 a1_2, .int .i64 a1_3] 51 (0, 0))) := ⟨h0_⟩
  have n1_ : Aside0 (w49.heap[gb216]? = some (.cells #[.int .i64 0, .int .i64 0] 53 (0, 0))) := ⟨h1_⟩
  have n2_ : Aside0 (w49.heap[gb217]? = some (.cells #[.int .i64 0, .int .i64 0] 53 (0, 0))) := ⟨h2_⟩
  have n3_ : Aside0 (w.heap.size ≤ gb216) := ⟨h3_⟩
  have n4_ : Aside0 (w.heap.size ≤ gb216) := ⟨h4_⟩
  have n5_ : Aside0 (gb215 ≠ gb216) := ⟨h5_⟩
  have n6_ : Aside0 (gb216 ≠ gb215) := ⟨h6_⟩
  have n7_ : Aside0 (gb217 ≠ gb216) := ⟨h7_⟩
  have n8_ : Aside0 (gb216 ≠ gb217) := ⟨h8_⟩
  have n9_ : Aside0 (w.heap.size ≤ gb217) := ⟨h9_⟩
  have n10_ : Aside0 (w.heap.size ≤ gb217) := ⟨h10_⟩
  have n11_ : Aside0 (gb215 ≠ gb217) := ⟨h11_⟩
  have n12_ : Aside0 (gb217 ≠ gb215) := ⟨h12_⟩
  have n13_ : Aside0 (Below w.heap.size w w49) := ⟨h13_⟩
  clear BK215
  clear HB
  clear h0_ h1_ h2_ h3_ h4_ h5_ h6_ h7_ h8_ h9_ h10_ h11_ h12_ h13_
  have BK215 := n0_
  have BK216 := n1_
  have BK217 := n2_
  have GW216 := n3_
  have GE216 := n4_
  have NB215_216 := n5_
  have NB216_215 := n6_
  have NB217_216 := n7_
  have NB216_217 := n8_
  have GW217 := n9_
  have GE217 := n10_
  have NB215_217 := n11_
  have NB217_215 := n12_
  have HB := n13_
  clear n0_ n1_ n2_ n3_ n4_ n5_ n6_ n7_ n8_ n9_ n10_ n11_ n12_ n13_
  have hHeld : w49.cell? ⟨gb215, 0, none⟩ = some (.int .i64 a1_0) ∧ w49.cell? ⟨gb215, 1, none⟩ = some (.int .i64 a1_1) ∧ w49.cell? ⟨gb215, 2, none⟩ = some (.int .i64 a1_2) ∧ w49.cell? ⟨gb215, 3, none⟩ = some (.int .i64 a1_3) := hS_
  refine norm_ (a' := ?_) ?_ ?_
  rotate_left
  ·simp only [putAll, Act.put, sA, sB, sC]
   rfl
  refine ro 12 (none) (bt 14 13) HT_ (fun K hK => ?_)
  have hs50 : w49.cell? ⟨gb216, 0, none⟩ = some (.int .i64 0) := bcl BK216 0
  have hfs50 := blk_frozen BK216.out 0
  have hns50_0 := NB215_216.out
  have hns50_2 := NB217_216.out
  have hms50_0 := NB216_215.out
  have hms50_2 := NB216_217.out
  have hs51 : w49.cell? ⟨gb216, 1, none⟩ = some (.int .i64 0) := bcl BK216 1
  have hfs51 := blk_frozen BK216.out 1
  have hns51_0 := NB215_216.out
  have hns51_2 := NB217_216.out
  have hms51_0 := NB216_215.out
  have hms51_2 := NB216_217.out
  refine skip_ (w1 := ?_) (by rfl) rfl ?_ ?_
  rotate_left
  ·go_simp
   rfl
  refine hK.out _ _ ⟨(cf NB215_216 ((cf NB215_216 (hHeld.1)))), (cf NB215_216 ((cf NB215_216 (hHeld.2.1)))), (cf NB215_216 ((cf NB215_216 (hHeld.2.2.1)))), (cf NB215_216 ((cf NB215_216 (hHeld.2.2.2))))⟩ (fun hHeld => ?_)
  clear hK K
  refine ro 13 (none) (bt 14 14) HT_ (fun K hK => ?_)
  have hs52 : w49.cell? ⟨gb217, 0, none⟩ = some (.int .i64 0) := bcl BK217 0
  have hfs52 := blk_frozen BK217.out 0
  have hns52_0 := NB215_217.out
  have hns52_1 := NB216_217.out
  have hms52_0 := NB217_215.out
  have hms52_1 := NB217_216.out
  have hs53 : w49.cell? ⟨gb217, 1, none⟩ = some (.int .i64 0) := bcl BK217 1
  have hfs53 := blk_frozen BK217.out 1
  have hns53_0 := NB215_217.out
  have hns53_1 := NB216_217.out
  have hms53_0 := NB217_215.out
  have hms53_1 := NB217_216.out
  refine skip_ (w1 := ?_) (by rfl) rfl ?_ ?_
  rotate_left
  ·go_simp
   rfl
  refine hK.out _ _ ⟨(cf NB215_217 ((cf NB215_217 (hHeld.1)))), (cf NB215_217 ((cf NB215_217 (hHeld.2.1)))), (cf NB215_217 ((cf NB215_217 (hHeld.2.2.1)))), (cf NB215_217 ((cf NB215_217 (hHeld.2.2.2))))⟩ (fun hHeld => ?_)
  clear hK K
  refine done_ (done_of HT_.out (by kernel_rfl)) ?_
  have hnb54 := NB216_215.out
  have hnc54 := NB215_216.out
  have hnb55 := NB216_217.out
  have hnc55 := NB217_216.out
  obtain ⟨hcz56_0, hcz56_1, hfz56_0, hfz56_1⟩ := bz2 BK216
  try go_wp2_with (first | ((with_reducible refine gate_callee (f := 119) rfl ?_); refine gl 19 Try.func119 #[.int .i64 a0, .agg #[.int .i64 a1_0, .int .i64 a1_2]] ?_; (with_reducible refine (spec_l04Norm.calls _ _ _ _ _ A3.out).mono ?_); rintro e w57 ⟨rfl, hb⟩; refine ⟨_, rfl, ?_⟩; replace BK215 := asd (blk_below (g := gb215) (o := .cells #[.int .i64 a1_0, .int .i64 a1_1, .int .i64 a1_2, .int .i64 a1_3] 51 (0, 0)) (bq2 BK215 NB215_217 NB215_216) hb); replace BK216 := asd (blk_below (g := gb216) (o := .cells #[.int .i64 a1_0, .int .i64 a1_2] 53 (0, 0)) (bq1 BK216 NB216_217) hb); replace BK217 := asd (blk_below (g := gb217) (o := .cells #[.int .i64 a1_1, .int .i64 a1_3] 53 (0, 0)) (bq1 BK217 NB217_216) hb); replace HB := bS3 HB GE215 GE216 GE217 hb; (try clear hb)))
  go_ret
  exact er (bbw3 HB GE215 GE216 GE217)

/-! ### spec_IsPointMat: function 87 -/
def spec_IsPointMat.f (a0 : Int) (a1_0 : Int) (a1_1 : Int) (a1_2 : Int) (a1_3 : Int) : Option (Bool) := (spec_IsFrame.f a0).bind fun t224 => (if t224 = true then ((spec_IsMat.f a1_0 a1_1 a1_2 a1_3).bind fun t225 => (if t225 = true then ((spec_l04Keeps.f a0 a1_0 a1_1 a1_2 a1_3).bind fun t226 => (some t226)) else (some false))) else (some false))
set_option maxHeartbeats 8000000 in
set_option maxRecDepth 100000 in
theorem spec_IsPointMat.calls (a0 : Int) (a1_0 : Int) (a1_1 : Int) (a1_2 : Int) (a1_3 : Int) (r : Bool) (w : World) (h : spec_IsPointMat.f a0 a1_0 a1_1 a1_2 a1_3 = some r) :
  Calls Try.prog 87 #[.int .i64 a0, .agg #[.int .i64 a1_0, .int .i64 a1_1, .int .i64 a1_2, .int .i64 a1_3]] w fun e w' => e = .returned (.bool r) ∧ Below w.heap.size w w' := by
 have hu51 := Try.underlying51
 have HB := asd (Below.refl w.heap.size w)
 have H : ((spec_IsFrame.f a0).bind fun t224 => (if t224 = true then ((spec_IsMat.f a1_0 a1_1 a1_2 a1_3).bind fun t225 => (if t225 = true then ((spec_l04Keeps.f a0 a1_0 a1_1 a1_2 a1_3).bind fun t226 => (some t226)) else (some false))) else (some false))) = some r := h
 clear h
 obtain ⟨t224, A3, H⟩ := ob H
 replace H : (if t224 = true then ((spec_IsMat.f a1_0 a1_1 a1_2 a1_3).bind fun t225 => (if t225 = true then ((spec_l04Keeps.f a0 a1_0 a1_1 a1_2 a1_3).bind fun t226 => (some t226)) else (some false))) else (some false)) = some r := H
 by_cases c4 : t224 = true
 ·subst c4
  have H1 : ((spec_IsMat.f a1_0 a1_1 a1_2 a1_3).bind fun t225 => (if t225 = true then ((spec_l04Keeps.f a0 a1_0 a1_1 a1_2 a1_3).bind fun t226 => (some t226)) else (some false))) = some r := by rw [if_pos rfl] at H; first | done | exact H
  clear H
  have H := H1
  clear H1
  obtain ⟨t225, A5, H⟩ := ob H
  replace H : (if t225 = true then ((spec_l04Keeps.f a0 a1_0 a1_1 a1_2 a1_3).bind fun t226 => (some t226)) else (some false)) = some r := H
  by_cases c6 : t225 = true
  ·subst c6
   have H1 : ((spec_l04Keeps.f a0 a1_0 a1_1 a1_2 a1_3).bind fun t226 => (some t226)) = some r := by rw [if_pos rfl] at H; first | done | exact H
   clear H
   have H := H1
   clear H1
   obtain ⟨t226, A7, H⟩ := ob H
   replace H : (some t226) = some r := H
   obtain rfl := Option.some.inj H
   go_enter Try.func87, Try.ntmps87
   go_wp2_with (first | ((with_reducible refine gd 3 rfl ?_); refine bx #[.int .i64 a1_0, .int .i64 a1_1, .int .i64 a1_2, .int .i64 a1_3] 51 ?_; intro gb223 hg w8 BK223 hb; have GE223 := ngw0 hg HB; replace HB := bS0 HB hb; clear hb hg) | ((with_reducible refine gate_callee (f := 85) rfl ?_); refine gl 6 Try.func85 #[.int .i64 a0] ?_; (with_reducible refine (spec_IsFrame.calls _ _ _ A3.out).mono ?_); rintro e w' ⟨rfl, ⟨nd, rfl⟩⟩; refine ⟨_, rfl, ?_⟩; have hcz9_0 : w8.cell? ⟨gb223, 0, none⟩ = some (.int .i64 a1_0) := bcl BK223 0; have hcz9_1 : w8.cell? ⟨gb223, 1, none⟩ = some (.int .i64 a1_1) := bcl BK223 1; have hcz9_2 : w8.cell? ⟨gb223, 2, none⟩ = some (.int .i64 a1_2) := bcl BK223 2; have hcz9_3 : w8.cell? ⟨gb223, 3, none⟩ = some (.int .i64 a1_3) := bcl BK223 3; have hfz9_0 := blk_frozen BK223.out 0; have hfz9_1 := blk_frozen BK223.out 1; have hfz9_2 := blk_frozen BK223.out 2; have hfz9_3 := blk_frozen BK223.out 3) | (go_at_call 101; (with_reducible refine (spec_IsMat.calls _ _ _ _ _ _ A5.out).mono ?_); rintro e w10 ⟨rfl, hb⟩; replace BK223 := bB BK223 hb; replace HB := bS1 HB GE223 hb; (try clear hb); obtain ⟨hcz11_0, hcz11_1, hcz11_2, hcz11_3, hfz11_0, hfz11_1, hfz11_2, hfz11_3⟩ := bz4 BK223) | (go_at_call 102; (with_reducible refine (spec_l04Keeps.calls _ _ _ _ _ _ _ A7.out).mono ?_); rintro e w12 ⟨rfl, hb⟩; replace BK223 := bB BK223 hb; replace HB := bS1 HB GE223 hb; (try clear hb)))
   go_ret
   exact er (bbw1 HB GE223)
  ·replace c6 := Bool.eq_false_iff.mpr c6
   subst c6
   have H1 : (some false) = some r := by rw [if_neg (show ¬ (false = true) by decide)] at H; first | done | exact H
   clear H
   have H := H1
   clear H1
   obtain rfl := Option.some.inj H
   go_enter Try.func87, Try.ntmps87
   go_wp2_with (first | ((with_reducible refine gd 3 rfl ?_); refine bx #[.int .i64 a1_0, .int .i64 a1_1, .int .i64 a1_2, .int .i64 a1_3] 51 ?_; intro gb223 hg w13 BK223 hb; have GE223 := ngw0 hg HB; replace HB := bS0 HB hb; clear hb hg) | ((with_reducible refine gate_callee (f := 85) rfl ?_); refine gl 6 Try.func85 #[.int .i64 a0] ?_; (with_reducible refine (spec_IsFrame.calls _ _ _ A3.out).mono ?_); rintro e w' ⟨rfl, ⟨nd, rfl⟩⟩; refine ⟨_, rfl, ?_⟩; have hcz14_0 : w13.cell? ⟨gb223, 0, none⟩ = some (.int .i64 a1_0) := bcl BK223 0; have hcz14_1 : w13.cell? ⟨gb223, 1, none⟩ = some (.int .i64 a1_1) := bcl BK223 1; have hcz14_2 : w13.cell? ⟨gb223, 2, none⟩ = some (.int .i64 a1_2) := bcl BK223 2; have hcz14_3 : w13.cell? ⟨gb223, 3, none⟩ = some (.int .i64 a1_3) := bcl BK223 3; have hfz14_0 := blk_frozen BK223.out 0; have hfz14_1 := blk_frozen BK223.out 1; have hfz14_2 := blk_frozen BK223.out 2; have hfz14_3 := blk_frozen BK223.out 3) | (go_at_call 101; (with_reducible refine (spec_IsMat.calls _ _ _ _ _ _ A5.out).mono ?_); rintro e w15 ⟨rfl, hb⟩; replace BK223 := bB BK223 hb; replace HB := bS1 HB GE223 hb; (try clear hb)))
   go_ret
   exact er (bbw1 HB GE223)
 ·replace c4 := Bool.eq_false_iff.mpr c4
  subst c4
  have H1 : (some false) = some r := by rw [if_neg (show ¬ (false = true) by decide)] at H; first | done | exact H
  clear H
  have H := H1
  clear H1
  obtain rfl := Option.some.inj H
  go_enter Try.func87, Try.ntmps87
  go_wp2_with (first | ((with_reducible refine gd 3 rfl ?_); refine bx #[.int .i64 a1_0, .int .i64 a1_1, .int .i64 a1_2, .int .i64 a1_3] 51 ?_; intro gb223 hg w16 BK223 hb; have GE223 := ngw0 hg HB; replace HB := bS0 HB hb; clear hb hg) | ((with_reducible refine gate_callee (f := 85) rfl ?_); refine gl 6 Try.func85 #[.int .i64 a0] ?_; (with_reducible refine (spec_IsFrame.calls _ _ _ A3.out).mono ?_); rintro e w' ⟨rfl, ⟨nd, rfl⟩⟩; refine ⟨_, rfl, ?_⟩))
  go_ret
  exact er (bbw1 HB GE223)

/-! ### spec_l03Basis: function 103 -/
def spec_l03Basis.f (a0_0 : Int) (a0_1 : Int) (a0_2 : Int) : Option ((List (S53))) := some (([(⟨a0_0, 0⟩ : S53), (⟨a0_1, a0_2⟩ : S53)] : List (S53)))
set_option maxHeartbeats 8000000 in
set_option maxRecDepth 100000 in
theorem spec_l03Basis.calls (a0_0 : Int) (a0_1 : Int) (a0_2 : Int) (r : List (S53)) (w : World) (h : spec_l03Basis.f a0_0 a0_1 a0_2 = some r) :
  Calls Try.prog 103 #[.agg #[.int .i64 a0_0, .int .i64 a0_1, .int .i64 a0_2]] w fun e w' => ∃ v0_ : Value, e = .returned (v0_) ∧ Kd.R k53 53 w' w.heap.size (fun _ => True) v0_ r ∧ Below w.heap.size w w' := by
 have hu27 := Try.underlying27
 have hu53 := Try.underlying53
 have HB := asd (Below.refl w.heap.size w)
 have H : (some (([(⟨a0_0, 0⟩ : S53), (⟨a0_1, a0_2⟩ : S53)] : List (S53)))) = some r := h
 clear h
 obtain ⟨y228, hy228⟩ : ∃ y_ : List (S53), y_ = (([(⟨a0_0, 0⟩ : S53), (⟨a0_1, a0_2⟩ : S53)] : List (S53))) := ⟨_, rfl⟩
 replace H : (some y228) = some r := by first | (rw [hy228]; with_reducible exact H) | (have H2_ := (Option.bind_some _ _).symm.trans H; rw [hy228]; with_reducible exact H2_) | (have H2_ := (Option.bind_some _ _).symm.trans H; with_reducible exact H2_) | with_reducible exact H | (rw [hy228]; exact H) | exact H
 have Ny228 := Aside0.mk hy228
 clear hy228
 obtain rfl := Option.some.inj H
 go_enter Try.func103, Try.ntmps103
 go_wp2_with (first | ((with_reducible refine gd 1 rfl ?_); refine bx #[.int .i64 a0_0, .int .i64 a0_1, .int .i64 a0_2] 27 ?_; intro gb227 hg w2 BK227 hb; have GE227 := ngw0 hg HB; replace HB := bS0 HB hb; clear hb hg; obtain ⟨hcz3_0, hcz3_1, hcz3_2, hfz3_0, hfz3_1, hfz3_2⟩ := bz3 BK227) | ((with_reducible refine gd 11 rfl ?_); refine Kd.R_lit k53 _ 53 ?hg (N := 11) ?hd (xs := ([(⟨a0_0, 0⟩ : S53), (⟨a0_1, a0_2⟩ : S53)] : List (S53))) (inner := [.int .i64 a0_0, .int .i64 0, .int .i64 a0_1, .int .i64 a0_2]) (ok := fun _ => True) (okp := fun _ => True) ?hr ?hp (fun _ hk => hk) trivial (Below.refl _ _) (Nat.le_refl _) (by simp) ?_; (case hd => rfl); (case hg => rfl); (case hr => first | (go_simp; done) | (go_simp; rfl)); (case hp => exact (Reps.c2 (show Kd.M k53 _ _ _ (⟨a0_0, 0⟩ : S53) [.int .i64 a0_0, .int .i64 0] from (k53_mkM _ _ _ (⟨a0_0, 0⟩ : S53) )) (Reps.c2 (show Kd.M k53 _ _ _ (⟨a0_1, a0_2⟩ : S53) [.int .i64 a0_1, .int .i64 a0_2] from (k53_mkM _ _ _ (⟨a0_1, a0_2⟩ : S53) )) (Reps.none _ _)))); intro v229 w4 ho5 hb hg_ hnew_; clear hg_ hnew_; (first | rw [← Ny228.out] at ho5 | (simp only [Int.reduceToNat] at ho5; rw [← Ny228.out] at ho5)); have HO230 := asd (Kd.R_lower ho5 (bsz1 HB GE227)); replace BK227 := bB BK227 hb; replace HB := bS1 HB GE227 hb; clear hb ho5))
 go_ret
 exact ⟨_, by first | rfl | (simp [errW_none, errW_some] <;> rfl) | (simp [*, errW_none, errW_some] <;> rfl), by (with_reducible repeat (first | apply Kd.R_alloc | apply Kd.R_drewN | apply Kd.R_drew)); exact HO230.out, bbw1 HB GE227⟩

/-! ### spec_l01Scale: function 74 -/
def spec_l01Scale.f (a0_0 : Int) (a0_1 : Int) (a1 : Int) : Option (Int × Int) := some (wrap64 (a1 * a0_0), wrap64 (a1 * a0_1))
set_option maxHeartbeats 8000000 in
set_option maxRecDepth 100000 in
theorem spec_l01Scale.calls (a0_0 : Int) (a0_1 : Int) (a1 : Int) (r1 : Int) (r2 : Int) (w : World) (h : spec_l01Scale.f a0_0 a0_1 a1 = some (r1, r2)) :
  Calls Try.prog 74 #[.agg #[.int .i64 a0_0, .int .i64 a0_1], .int .i64 a1] w fun e w' => e = .returned (.agg #[.int .i64 r1, .int .i64 r2]) ∧ Below w.heap.size w w' := by
 have hu53 := Try.underlying53
 have HB := asd (Below.refl w.heap.size w)
 have H : (some (wrap64 (a1 * a0_0), wrap64 (a1 * a0_1))) = some (r1, r2) := h
 clear h
 simp only [Option.some.injEq, Prod.mk.injEq] at H
 obtain ⟨rfl, rfl⟩ := H
 go_enter Try.func74, Try.ntmps74
 go_wp2_with (first | ((with_reducible refine gd 2 rfl ?_); refine bx #[.int .i64 a0_0, .int .i64 a0_1] 53 ?_; intro gb231 hg w3 BK231 hb; have GE231 := ngw0 hg HB; replace HB := bS0 HB hb; clear hb hg) | ((with_reducible refine gd 4 rfl ?_); refine bx #[.int .i64 0, .int .i64 0] 53 ?_; intro gb232 hg w4 BK232 hb; have GE232 := ngw1 hg HB GE231; replace HB := bS1 HB GE231 hb; have NB231_232 := nlt hg BK231; have NB232_231 := nsy (nlt hg BK231); replace BK231 := bB BK231 hb; clear hb hg; have hnb5 := NB231_232.out; have hnc5 := NB232_231.out; obtain ⟨hcz6_0, hcz6_1, hfz6_0, hfz6_1⟩ := bz2 BK231; obtain ⟨hcz7_0, hcz7_1, hfz7_0, hfz7_1⟩ := bz2 BK232))
 refine bodyPost_ret (results_cell_row rfl _ _ gb232 53 #[.int .i64 (wrap64 (a1 * a0_0)), .int .i64 (wrap64 (a1 * a0_1))] (0, 0) _ rfl (bq0 BK232) Try.underlying53 rfl (by kernel_rfl)) rfl ?_
 exact er (bbw2 HB GE231 GE232)

/-! ### spec_l01Mod: function 105 -/
def spec_l01Mod.f (a0 : Int) (a1 : Int) : Option (Int) := if a1 = 0 then (none) else (if (Int.tmod a0 a1) < 0 then (some (wrap64 ((Int.tmod a0 a1) + a1))) else (some (Int.tmod a0 a1)))
set_option maxHeartbeats 8000000 in
set_option maxRecDepth 100000 in
theorem spec_l01Mod.calls (a0 : Int) (a1 : Int) (r : Int) (w : World) (h : spec_l01Mod.f a0 a1 = some r) :
  Calls Try.prog 105 #[.int .i64 a0, .int .i64 a1] w fun e w' => e = .returned (.int .i64 r) ∧ Drawn0 w w' := by
 have H : (if a1 = 0 then (none) else (if (Int.tmod a0 a1) < 0 then (some (wrap64 ((Int.tmod a0 a1) + a1))) else (some (Int.tmod a0 a1)))) = some r := h
 clear h
 by_cases c3 : a1 = 0
 ·rw [if_pos c3] at H
  exact absurd H (by simp)
 ·rw [if_neg c3] at H
  have c3b0 : (a1 == 0) = false := beq_eq_false_iff_ne.mpr c3
  have c3b1 : (a1 != 0) = true := bne_iff_ne.mpr c3
  by_cases c4 : (Int.tmod a0 a1) < 0
  ·rw [if_pos c4] at H
   have c4b0 : decide ((Int.tmod a0 a1) < 0) = true := decide_eq_true c4
   clear c4
   obtain rfl := Option.some.inj H
   go_enter Try.func105, Try.ntmps105
   go_wp2
   go_ret
   exact ⟨by first | rfl | (simp; done) | (simp [*]; done), by repeat (first | exact Drawn0.refl _ | apply Drawn0.step)⟩
  ·rw [if_neg c4] at H
   have c4b0 : decide ((Int.tmod a0 a1) < 0) = false := decide_eq_false c4
   clear c4
   obtain rfl := Option.some.inj H
   go_enter Try.func105, Try.ntmps105
   go_wp2
   go_ret
   exact ⟨by first | rfl | (simp; done) | (simp [*]; done), by repeat (first | exact Drawn0.refl _ | apply Drawn0.step)⟩

/-! ### spec_l01Divisor: function 120 -/
def spec_l01Divisor.f : Nat → Int → Int → Option (Int)
 | 0, _, _ => none
 | k + 1, a0, a1 => if a1 = 0 then (some (mx a0 (wrap64 (-a0)))) else ((spec_l01Divisor.f k a1 (Int.tmod a0 a1)).bind fun t233 => (some t233))
set_option maxHeartbeats 8000000 in
set_option maxRecDepth 100000 in
theorem spec_l01Divisor.calls (k : Nat) : ∀ (a0 : Int) (a1 : Int) (r : Int) (w : World) (h : spec_l01Divisor.f k a0 a1 = some r),
  Calls Try.prog 120 #[.int .i64 a0, .int .i64 a1] w fun e w' => e = .returned (.int .i64 r) ∧ Below w.heap.size w w' := by
 induction k using Nat.strongRecOn with
 | _ k ih =>
 intro a0 a1 r w h
 cases k with
 | zero => exact absurd h (by simp [spec_l01Divisor.f])
 | succ k =>
 simp only [spec_l01Divisor.f] at h
 have HB := asd (Below.refl w.heap.size w)
 have H : (if a1 = 0 then (some (mx a0 (wrap64 (-a0)))) else ((spec_l01Divisor.f k a1 (Int.tmod a0 a1)).bind fun t233 => (some t233))) = some r := h
 clear h
 by_cases c3 : a1 = 0
 ·rw [if_pos c3] at H
  have c3b0 : (a1 == 0) = true := beq_iff_eq.mpr c3
  have c3b1 : (a1 != 0) = false := bne_eq_false_iff_eq.mpr c3
  clear c3
  obtain ⟨ji4, hji4⟩ : ∃ j_ : Int, (mx a0 (wrap64 (-a0))) = j_ := ⟨_, rfl⟩
  replace H : (some ji4) = some r := by first | (rw [hji4] at H; first | done | exact H) | (simp only [hji4] at H ⊢; exact H)
  have hji4_ : (if a0 < (wrap64 (-a0)) then (wrap64 (-a0)) else a0) = ji4 := hji4
  obtain rfl := Option.some.inj H
  go_enter Try.func120, Try.ntmps120
  go_wp2
  go_ret
  exact ⟨by first | rfl | (simp [errW_none, errW_some] <;> rfl) | (simp only [← hji4]; first | rfl | (simp [errW_none, errW_some] <;> rfl)) | (simp [*, errW_none, errW_some] <;> rfl), bbw0 HB⟩
 ·rw [if_neg c3] at H
  have c3b0 : (a1 == 0) = false := beq_eq_false_iff_ne.mpr c3
  have c3b1 : (a1 != 0) = true := bne_iff_ne.mpr c3
  obtain ⟨t233, A5, H⟩ := ob H
  replace H : (some t233) = some r := H
  obtain rfl := Option.some.inj H
  go_enter Try.func120, Try.ntmps120
  go_wp2_with (first | ((with_reducible refine gate_callee (f := 120) rfl ?_); refine gl 15 Try.func120 #[.int .i64 a1, .int .i64 (Int.tmod a0 a1)] ?_; (with_reducible refine (ih k (by omega) a1 (Int.tmod a0 a1) t233 _ A5.out).mono ?_); rintro e w6 ⟨rfl, hb⟩; refine ⟨_, rfl, ?_⟩; replace HB := bS0 HB hb; (try clear hb)))
  go_ret
  exact er (bbw0 HB)

/-! ### spec_l03Hermite: function 104 -/
mutual
def spec_l03Hermite.l0 : Nat → List (S53) → Int → Int → Int → Int → Option (Int × Int × Int)
 | 0, _, _, _, _, _ => none
 | k + 1, x0, x4, x5, x236000, x236001 => if x5 < (x0.length : Int) then (if 0 ≤ x5 then (spec_l03Hermite.l1 k x0 x4 x5 x236000 x236001 ((rd_T53 x0 x5).f0) ((rd_T53 x0 x5).f1)) else (none)) else (if x236001 < 0 then ((spec_l01Scale.f x236000 x236001 (-1)).bind fun bt241 => (if x4 > 0 then ((spec_l01Mod.f bt241.1 x4).bind fun t243 => (some (x4, t243, bt241.2))) else (some (x4, bt241.1, bt241.2)))) else (if x4 > 0 then ((spec_l01Mod.f x236000 x4).bind fun t244 => (some (x4, t244, x236001))) else (some (x4, x236000, x236001))))
def spec_l03Hermite.l1 : Nat → List (S53) → Int → Int → Int → Int → Int → Int → Option (Int × Int × Int)
 | 0, _, _, _, _, _, _, _ => none
 | k + 1, x0, x4, x5, x236000, x236001, x238000, x238001 => if x238001 = 0 then ((spec_l01Divisor.f k x4 x238000).bind fun t239 => (if t239 > 0 then ((spec_l01Mod.f x236000 t239).bind fun t240 => (spec_l03Hermite.l0 k x0 t239 (wrap64 (x5 + 1)) t240 x236001)) else (spec_l03Hermite.l0 k x0 t239 (wrap64 (x5 + 1)) x236000 x236001))) else (spec_l03Hermite.l1 k x0 x4 x5 x238000 x238001 (wrap64 (x236000 - (wrap64 ((wrap64 (Int.tdiv x236001 x238001)) * x238000)))) (wrap64 (x236001 - (wrap64 ((wrap64 (Int.tdiv x236001 x238001)) * x238001)))))
end
def spec_l03Hermite.f (k : Nat) (l0 : List (S53)) : Option (Int × Int × Int) := spec_l03Hermite.l0 k l0 0 0 0 0
set_option maxHeartbeats 8000000 in
set_option maxRecDepth 100000 in
theorem spec_l03Hermite.calls (k : Nat) (A0 : Option Addr) (c0 : Nat) (l0 : List (S53)) (r1 : Int) (r2 : Int) (r3 : Int) (w : World) (hr0 : Kd.C k53 w A0 l0.length l0) (hc0 : l0.length ≤ c0) (h : spec_l03Hermite.f k l0 = some (r1, r2, r3)) :
  Calls Try.prog 104 #[.slice A0 l0.length c0] w fun e w' => e = .returned (.agg #[.int .i64 r1, .int .i64 r2, .int .i64 r3]) ∧ Below w.heap.size w w' := by
 have hu27 := Try.underlying27
 have hu53 := Try.underlying53
 have HR0 := Aside0.mk hr0
 have HC0 := Aside0.mk hc0
 clear hr0 hc0
 have HB := asd (Below.refl w.heap.size w)
 have H : (spec_l03Hermite.l0 k l0 0 0 0 0) = some (r1, r2, r3) := h
 clear h
 have H' := Aside0.mk H
 clear H
 go_enter Try.func104, Try.ntmps104
 go_wp2_with (first | ((with_reducible refine gd 2 rfl ?_); refine bx #[.int .i64 0, .int .i64 0, .int .i64 0] 27 ?_; intro gb234 hg w2 BK234 hb; have GE234 := ngw0 hg HB; replace HB := bS0 HB hb; clear hb hg) | ((with_reducible refine gd 3 rfl ?_); refine bx #[.int .i64 0, .int .i64 0] 53 ?_; intro gb235 hg w3 BK235 hb; have GE235 := ngw1 hg HB GE234; replace HB := bS1 HB GE234 hb; have NB234_235 := nlt hg BK234; have NB235_234 := nsy (nlt hg BK234); replace BK234 := bB BK234 hb; clear hb hg; have hnb4 := NB235_234.out; have hnc4 := NB234_235.out; obtain ⟨hcz5_0, hcz5_1, hfz5_0, hfz5_1⟩ := bz2 BK235))
 go_loopg [4, 5] k (fun kq v4 v5 w' => ∃ (x4_1 : Int) (x5_1 : Int) (x236000_1 : Int) (x236001_1 : Int), v4 = .int .i64 x4_1 ∧ v5 = .int .i64 x5_1 ∧ Aside0 (spec_l03Hermite.l0 kq l0 x4_1 x5_1 x236000_1 x236001_1 = some (r1, r2, r3)) ∧ Aside0 (kq ≤ k) ∧ Aside0 (w'.heap[gb234]? = some (.cells #[.int .i64 0, .int .i64 0, .int .i64 0] 27 (0, 0))) ∧ Aside0 (w'.heap[gb235]? = some (.cells #[.int .i64 x236000_1, .int .i64 x236001_1] 53 (0, 0))) ∧ Aside0 (Below w.heap.size w w'))
 case atStart => exact ⟨(0), (0), (0), (0), (by first | rfl | (simp; done) | (simp [*]; done)), (by first | rfl | (simp; done) | (simp [*]; done)), H', ⟨Nat.le_refl _⟩, ⟨bq1 BK234 NB234_235⟩, ⟨bq0 BK235⟩, ⟨bbw2 HB GE234 GE235⟩⟩
 case round =>
  clear H'
  try clear c1
  try clear p2
  try clear c4
  try clear hcz5_0
  try clear hcz5_1
  try clear hfz5_0
  try clear hfz5_1
  obtain ⟨x4_1, x5_1, x236000_1, x236001_1, rfl, rfl, HA, HK1, BK234, BK235, HB⟩ := hrel
  cases gk with
  | zero => exact absurd HA.out (by simp [spec_l03Hermite.l0])
  | succ k1 =>
   have H := HA.out
   clear HA
   simp only [spec_l03Hermite.l0] at H
   by_cases c6 : x5_1 < (l0.length : Int)
   ·rw [if_pos c6] at H
    have c6b0 : decide (x5_1 < (l0.length : Int)) = true := decide_eq_true c6
    clear c6
    by_cases c7 : 0 ≤ x5_1
    ·rw [if_pos c7] at H
     have c7b0 : decide (0 ≤ x5_1) = true := decide_eq_true c7
     clear c7
     have H' := Aside0.mk H
     clear H
     obtain ⟨p236, q236, ad236, e236, hx236_0, hx236_1⟩ := at_T53x HR0.out HB x5_1
     cases e236
     go_wp2_with (first | ((with_reducible refine gd 6 rfl ?_); refine bx #[.int .i64 0, .int .i64 0] 53 ?_; intro gb237 hg w8 BK237 hb; have GE237 := ngw2 hg HB GE234 GE235; replace HB := bS2 HB GE234 GE235 hb; have NB234_237 := nlt hg BK234; have NB237_234 := nsy (nlt hg BK234); replace BK234 := bB BK234 hb; have NB235_237 := nlt hg BK235; have NB237_235 := nsy (nlt hg BK235); replace BK235 := bB BK235 hb; clear hb hg; have hnb9 := NB237_234.out; have hnc9 := NB234_237.out; have hnb10 := NB237_235.out; have hnc10 := NB235_237.out; obtain ⟨hcz11_0, hcz11_1, hfz11_0, hfz11_1⟩ := bz2 BK237))
     go_loopg [] k1 (fun kq w' => ∃ (x236000_2 : Int) (x236001_2 : Int) (x238000_2 : Int) (x238001_2 : Int), Aside0 (spec_l03Hermite.l1 kq l0 x4_1 x5_1 x236000_2 x236001_2 x238000_2 x238001_2 = some (r1, r2, r3)) ∧ Aside0 (kq ≤ k1) ∧ Aside0 (w'.heap[gb234]? = some (.cells #[.int .i64 0, .int .i64 0, .int .i64 0] 27 (0, 0))) ∧ Aside0 (w'.heap[gb235]? = some (.cells #[.int .i64 x236000_2, .int .i64 x236001_2] 53 (0, 0))) ∧ Aside0 (w'.heap[gb237]? = some (.cells #[.int .i64 x238000_2, .int .i64 x238001_2] 53 (0, 0))) ∧ Aside0 (Below w.heap.size w w'))
     case atStart => exact ⟨(x236000_1), (x236001_1), ((rd_T53 l0 x5_1).f0), ((rd_T53 l0 x5_1).f1), H', ⟨Nat.le_refl _⟩, ⟨bq1 BK234 NB234_237⟩, ⟨bq1 BK235 NB235_237⟩, ⟨bq0 BK237⟩, ⟨bbw3 HB GE234 GE235 GE237⟩⟩
     case round =>
      clear H'
      try clear c1
      try clear p2
      try clear q2
      try clear hx2
      try clear c4
      try clear c6
      try clear c6b0
      try clear c7
      try clear c7b0
      try clear c9
      try clear c10
      try clear hcz11_0
      try clear hcz11_1
      try clear hcz5_0
      try clear hcz5_1
      try clear hfz11_0
      try clear hfz11_1
      try clear hfz5_0
      try clear hfz5_1
      try clear hx236_0
      try clear hx236_1
      try clear p2
      try clear p236
      try clear q236
      obtain ⟨x236000_2, x236001_2, x238000_2, x238001_2, HA, HK2, BK234, BK235, BK237, HB⟩ := hrel
      cases gk with
      | zero => exact absurd HA.out (by simp [spec_l03Hermite.l1])
      | succ k2 =>
       have H := HA.out
       clear HA
       simp only [spec_l03Hermite.l1] at H
       by_cases c12 : x238001_2 = 0
       ·rw [if_pos c12] at H
        have c12b0 : (x238001_2 == 0) = true := beq_iff_eq.mpr c12
        have c12b1 : (x238001_2 != 0) = false := bne_eq_false_iff_eq.mpr c12
        clear c12
        obtain ⟨t239, A13, H⟩ := ob H
        replace H : (if t239 > 0 then ((spec_l01Mod.f x236000_2 t239).bind fun t240 => (spec_l03Hermite.l0 k2 l0 t239 (wrap64 (x5_1 + 1)) t240 x236001_2)) else (spec_l03Hermite.l0 k2 l0 t239 (wrap64 (x5_1 + 1)) x236000_2 x236001_2)) = some (r1, r2, r3) := H
        by_cases c14 : t239 > 0
        ·rw [if_pos c14] at H
         have c14b0 : decide (0 < t239) = true := decide_eq_true c14
         clear c14
         obtain ⟨t240, A15, H⟩ := ob H
         replace H : (spec_l03Hermite.l0 k2 l0 t239 (wrap64 (x5_1 + 1)) t240 x236001_2) = some (r1, r2, r3) := H
         have H' := Aside0.mk H
         clear H
         have hnb16 := NB237_234.out
         have hnc16 := NB234_237.out
         have hnb17 := NB237_235.out
         have hnc17 := NB235_237.out
         obtain ⟨hcz18_0, hcz18_1, hfz18_0, hfz18_1⟩ := bz2 BK237
         go_wp2_with (first | ((with_reducible refine gate_callee (f := 120) rfl ?_); refine gl 48 Try.func120 #[.int .i64 x4_1, .int .i64 x238000_2] ?_; (with_reducible refine (spec_l01Divisor.calls _ _ _ _ _ A13.out).mono ?_); rintro e w19 ⟨rfl, hb⟩; refine ⟨_, rfl, ?_⟩; replace BK234 := bB BK234 hb; replace BK235 := bB BK235 hb; replace BK237 := bB BK237 hb; replace HB := bS3 HB GE234 GE235 GE237 hb; (try clear hb); have hnb20 := NB235_234.out; have hnc20 := NB234_235.out; obtain ⟨hcz21_0, hcz21_1, hfz21_0, hfz21_1⟩ := bz2 BK235) | ((with_reducible refine gate_callee (f := 105) rfl ?_); refine gl 54 Try.func105 #[.int .i64 x236000_2, .int .i64 t239] ?_; (with_reducible refine (spec_l01Mod.calls _ _ _ _ A15.out).mono ?_); rintro e w' ⟨rfl, ⟨nd, rfl⟩⟩; refine ⟨_, rfl, ?_⟩; (try (rw [drewN_self w19]; generalize hq_ : World.drewN w19 _ = w19; have n0_ : Aside0 (w19.heap[gb234]? = some (.cells #[.int .i64 0, .int .i64 0, .int .i64 0] 27 (0, 0))) := ⟨by rw [← hq_]; exact (bkp BK234)⟩; have n1_ : Aside0 (w19.heap[gb235]? = some (.cells #[.int .i64 x236000_2, .int .i64 x236001_2] 53 (0, 0))) := ⟨by rw [← hq_]; exact (bkp BK235)⟩; have n2_ : Aside0 (w19.heap[gb237]? = some (.cells #[.int .i64 x238000_2, .int .i64 x238001_2] 53 (0, 0))) := ⟨by rw [← hq_]; exact (bkp BK237)⟩; have n3_ : Aside0 (Below w.heap.size w w19) := ⟨by rw [← hq_]; exact (bbw3 HB GE234 GE235 GE237)⟩; clear BK234 BK235 BK237 HB hq_; have BK234 := n0_; have BK235 := n1_; have BK237 := n2_; have HB := n3_; clear n0_ n1_ n2_ n3_)); have hcz22_0 : w19.cell? ⟨gb235, 0, none⟩ = some (.int .i64 x236000_2) := bcl BK235 0; have hcz22_1 : w19.cell? ⟨gb235, 1, none⟩ = some (.int .i64 x236001_2) := bcl BK235 1; have hfz22_0 := blk_frozen BK235.out 0; have hfz22_1 := blk_frozen BK235.out 1))
         go_roundg k2
         case measure => have := HK1.out; have := HK2.out; omega
         case rel => exact ⟨(t239), (wrap64 (x5_1 + 1)), (t240), (x236001_2), (by first | rfl | (simp; done) | (simp [*]; done)), (by first | rfl | (simp; done) | (simp [*]; done)), H', ⟨by have := HK1.out; have := HK2.out; omega⟩, ⟨bq1 BK234 NB234_235⟩, ⟨bq0 BK235⟩, ⟨bbw3 HB GE234 GE235 GE237⟩⟩
        ·rw [if_neg c14] at H
         have c14b0 : decide (0 < t239) = false := decide_eq_false c14
         clear c14
         have H' := Aside0.mk H
         clear H
         have hnb23 := NB237_234.out
         have hnc23 := NB234_237.out
         have hnb24 := NB237_235.out
         have hnc24 := NB235_237.out
         obtain ⟨hcz25_0, hcz25_1, hfz25_0, hfz25_1⟩ := bz2 BK237
         go_wp2_with (first | ((with_reducible refine gate_callee (f := 120) rfl ?_); refine gl 48 Try.func120 #[.int .i64 x4_1, .int .i64 x238000_2] ?_; (with_reducible refine (spec_l01Divisor.calls _ _ _ _ _ A13.out).mono ?_); rintro e w26 ⟨rfl, hb⟩; refine ⟨_, rfl, ?_⟩; replace BK234 := bB BK234 hb; replace BK235 := bB BK235 hb; replace BK237 := bB BK237 hb; replace HB := bS3 HB GE234 GE235 GE237 hb; (try clear hb)))
         go_roundg k2
         case measure => have := HK1.out; have := HK2.out; omega
         case rel => exact ⟨(t239), (wrap64 (x5_1 + 1)), (x236000_2), (x236001_2), (by first | rfl | (simp; done) | (simp [*]; done)), (by first | rfl | (simp; done) | (simp [*]; done)), H', ⟨by have := HK1.out; have := HK2.out; omega⟩, ⟨bkp BK234⟩, ⟨bkp BK235⟩, ⟨bbw3 HB GE234 GE235 GE237⟩⟩
       ·rw [if_neg c12] at H
        have c12b0 : (x238001_2 == 0) = false := beq_eq_false_iff_ne.mpr c12
        have c12b1 : (x238001_2 != 0) = true := bne_iff_ne.mpr c12
        have H' := Aside0.mk H
        clear H
        have hnb27 := NB237_234.out
        have hnc27 := NB234_237.out
        have hnb28 := NB237_235.out
        have hnc28 := NB235_237.out
        obtain ⟨hcz29_0, hcz29_1, hfz29_0, hfz29_1⟩ := bz2 BK237
        have hnb30 := NB235_234.out
        have hnc30 := NB234_235.out
        obtain ⟨hcz31_0, hcz31_1, hfz31_0, hfz31_1⟩ := bz2 BK235
        go_wp2_with (first | ((with_reducible refine gd 8 rfl ?_); refine bx #[.int .i64 0, .int .i64 0] 53 ?_; intro gb238 hg w32 BK238 hb; have GE238 := ngw3 hg HB GE234 GE235 GE237; replace HB := bS3 HB GE234 GE235 GE237 hb; have NB234_238 := nlt hg BK234; have NB238_234 := nsy (nlt hg BK234); replace BK234 := bB BK234 hb; have NB235_238 := nlt hg BK235; have NB238_235 := nsy (nlt hg BK235); replace BK235 := bB BK235 hb; have NB237_238 := nlt hg BK237; have NB238_237 := nsy (nlt hg BK237); replace BK237 := bB BK237 hb; clear hb hg; have hnb33 := NB238_234.out; have hnc33 := NB234_238.out; have hnb34 := NB238_235.out; have hnc34 := NB235_238.out; have hnb35 := NB238_237.out; have hnc35 := NB237_238.out; obtain ⟨hcz36_0, hcz36_1, hfz36_0, hfz36_1⟩ := bz2 BK238; obtain ⟨hcz37_0, hcz37_1, hfz37_0, hfz37_1⟩ := bz2 BK237; obtain ⟨hcz38_0, hcz38_1, hfz38_0, hfz38_1⟩ := bz2 BK235))
        go_roundg k2
        case measure => have := HK1.out; have := HK2.out; omega
        case rel => exact ⟨(x238000_2), (x238001_2), (wrap64 (x236000_2 - (wrap64 ((wrap64 (Int.tdiv x236001_2 x238001_2)) * x238000_2)))), (wrap64 (x236001_2 - (wrap64 ((wrap64 (Int.tdiv x236001_2 x238001_2)) * x238001_2)))), H', ⟨by have := HK1.out; have := HK2.out; omega⟩, ⟨bq3 BK234 NB234_237 NB234_235 NB234_238⟩, ⟨bq2 BK235 NB235_237 NB235_238⟩, ⟨bq2 BK237 NB237_235 NB237_238⟩, ⟨bbw4 HB GE234 GE235 GE237 GE238⟩⟩
    ·rw [if_neg c7] at H
     exact absurd H (by simp)
   ·rw [if_neg c6] at H
    have c6b0 : decide (x5_1 < (l0.length : Int)) = false := decide_eq_false c6
    clear c6
    by_cases c39 : x236001_1 < 0
    ·rw [if_pos c39] at H
     have c39b0 : decide (x236001_1 < 0) = true := decide_eq_true c39
     clear c39
     obtain ⟨⟨t241, t242⟩, A40, H⟩ := ob H
     replace H : (if x4_1 > 0 then ((spec_l01Mod.f t241 x4_1).bind fun t243 => (some (x4_1, t243, t242))) else (some (x4_1, t241, t242))) = some (r1, r2, r3) := H
     by_cases c41 : x4_1 > 0
     ·rw [if_pos c41] at H
      have c41b0 : decide (0 < x4_1) = true := decide_eq_true c41
      clear c41
      obtain ⟨t243, A42, H⟩ := ob H
      replace H : (some (x4_1, t243, t242)) = some (r1, r2, r3) := H
      simp only [Option.some.injEq, Prod.mk.injEq] at H
      obtain ⟨rfl, rfl, rfl⟩ := H
      have hnb43 := NB235_234.out
      have hnc43 := NB234_235.out
      obtain ⟨hcz44_0, hcz44_1, hfz44_0, hfz44_1⟩ := bz2 BK235
      go_wp2_with (first | ((with_reducible refine gate_callee (f := 74) rfl ?_); refine gl 60 Try.func74 #[.agg #[.int .i64 x236000_1, .int .i64 x236001_1], .int .i64 (-1)] ?_; (with_reducible refine (spec_l01Scale.calls _ _ _ _ _ _ A40.out).mono ?_); rintro e w45 ⟨rfl, hb⟩; refine ⟨_, rfl, ?_⟩; replace BK234 := bB BK234 hb; replace BK235 := bB BK235 hb; replace HB := bS2 HB GE234 GE235 hb; (try clear hb); obtain ⟨hcz46_0, hcz46_1, hfz46_0, hfz46_1⟩ := bz2 BK235) | ((with_reducible refine gate_callee (f := 105) rfl ?_); refine gl 66 Try.func105 #[.int .i64 t241, .int .i64 x4_1] ?_; (with_reducible refine (spec_l01Mod.calls _ _ _ _ A42.out).mono ?_); rintro e w' ⟨rfl, ⟨nd, rfl⟩⟩; refine ⟨_, rfl, ?_⟩; have hcz47_0 : w45.cell? ⟨gb234, 0, none⟩ = some (.int .i64 0) := bcl BK234 0; have hcz47_1 : w45.cell? ⟨gb234, 1, none⟩ = some (.int .i64 0) := bcl BK234 1; have hcz47_2 : w45.cell? ⟨gb234, 2, none⟩ = some (.int .i64 0) := bcl BK234 2; have hfz47_0 := blk_frozen BK234.out 0; have hfz47_1 := blk_frozen BK234.out 1; have hfz47_2 := blk_frozen BK234.out 2))
      refine bodyPost_ret (results_cell_row rfl _ _ gb234 27 #[.int .i64 x4_1, .int .i64 t243, .int .i64 t242] (0, 0) _ rfl (bq1 BK234 NB234_235) Try.underlying27 rfl (by kernel_rfl)) rfl ?_
      exact er (bbw2 HB GE234 GE235)
     ·rw [if_neg c41] at H
      have c41b0 : decide (0 < x4_1) = false := decide_eq_false c41
      clear c41
      simp only [Option.some.injEq, Prod.mk.injEq] at H
      obtain ⟨rfl, rfl, rfl⟩ := H
      have hnb48 := NB235_234.out
      have hnc48 := NB234_235.out
      obtain ⟨hcz49_0, hcz49_1, hfz49_0, hfz49_1⟩ := bz2 BK235
      go_wp2_with (first | ((with_reducible refine gate_callee (f := 74) rfl ?_); refine gl 60 Try.func74 #[.agg #[.int .i64 x236000_1, .int .i64 x236001_1], .int .i64 (-1)] ?_; (with_reducible refine (spec_l01Scale.calls _ _ _ _ _ _ A40.out).mono ?_); rintro e w50 ⟨rfl, hb⟩; refine ⟨_, rfl, ?_⟩; replace BK234 := bB BK234 hb; replace BK235 := bB BK235 hb; replace HB := bS2 HB GE234 GE235 hb; (try clear hb); obtain ⟨hcz51_0, hcz51_1, hfz51_0, hfz51_1⟩ := bz2 BK235; obtain ⟨hcz52_0, hcz52_1, hcz52_2, hfz52_0, hfz52_1, hfz52_2⟩ := bz3 BK234))
      refine bodyPost_ret (results_cell_row rfl _ _ gb234 27 #[.int .i64 x4_1, .int .i64 t241, .int .i64 t242] (0, 0) _ rfl (bq1 BK234 NB234_235) Try.underlying27 rfl (by kernel_rfl)) rfl ?_
      exact er (bbw2 HB GE234 GE235)
    ·rw [if_neg c39] at H
     have c39b0 : decide (x236001_1 < 0) = false := decide_eq_false c39
     clear c39
     by_cases c53 : x4_1 > 0
     ·rw [if_pos c53] at H
      have c53b0 : decide (0 < x4_1) = true := decide_eq_true c53
      clear c53
      obtain ⟨t244, A54, H⟩ := ob H
      replace H : (some (x4_1, t244, x236001_1)) = some (r1, r2, r3) := H
      simp only [Option.some.injEq, Prod.mk.injEq] at H
      obtain ⟨rfl, rfl, rfl⟩ := H
      have hnb55 := NB235_234.out
      have hnc55 := NB234_235.out
      obtain ⟨hcz56_0, hcz56_1, hfz56_0, hfz56_1⟩ := bz2 BK235
      go_wp2_with (first | ((with_reducible refine gate_callee (f := 105) rfl ?_); refine gl 66 Try.func105 #[.int .i64 x236000_1, .int .i64 x4_1] ?_; (with_reducible refine (spec_l01Mod.calls _ _ _ _ A54.out).mono ?_); rintro e w' ⟨rfl, ⟨nd, rfl⟩⟩; refine ⟨_, rfl, ?_⟩; (try (rw [drewN_self wr]; generalize hq_ : World.drewN wr _ = wr; have n0_ : Aside0 (wr.heap[gb234]? = some (.cells #[.int .i64 0, .int .i64 0, .int .i64 0] 27 (0, 0))) := ⟨by rw [← hq_]; exact (bkp BK234)⟩; have n1_ : Aside0 (wr.heap[gb235]? = some (.cells #[.int .i64 x236000_1, .int .i64 x236001_1] 53 (0, 0))) := ⟨by rw [← hq_]; exact (bkp BK235)⟩; have n2_ : Aside0 (Below w.heap.size w wr) := ⟨by rw [← hq_]; exact (bbw2 HB GE234 GE235)⟩; clear BK234 BK235 HB hq_; have BK234 := n0_; have BK235 := n1_; have HB := n2_; clear n0_ n1_ n2_)); have hcz57_0 : wr.cell? ⟨gb235, 0, none⟩ = some (.int .i64 x236000_1) := bcl BK235 0; have hcz57_1 : wr.cell? ⟨gb235, 1, none⟩ = some (.int .i64 x236001_1) := bcl BK235 1; have hfz57_0 := blk_frozen BK235.out 0; have hfz57_1 := blk_frozen BK235.out 1; have hcz58_0 : wr.cell? ⟨gb234, 0, none⟩ = some (.int .i64 0) := bcl BK234 0; have hcz58_1 : wr.cell? ⟨gb234, 1, none⟩ = some (.int .i64 0) := bcl BK234 1; have hcz58_2 : wr.cell? ⟨gb234, 2, none⟩ = some (.int .i64 0) := bcl BK234 2; have hfz58_0 := blk_frozen BK234.out 0; have hfz58_1 := blk_frozen BK234.out 1; have hfz58_2 := blk_frozen BK234.out 2))
      refine bodyPost_ret (results_cell_row rfl _ _ gb234 27 #[.int .i64 x4_1, .int .i64 t244, .int .i64 x236001_1] (0, 0) _ rfl (bq1 BK234 NB234_235) Try.underlying27 rfl (by kernel_rfl)) rfl ?_
      exact er (bbw2 HB GE234 GE235)
     ·rw [if_neg c53] at H
      have c53b0 : decide (0 < x4_1) = false := decide_eq_false c53
      clear c53
      simp only [Option.some.injEq, Prod.mk.injEq] at H
      obtain ⟨rfl, rfl, rfl⟩ := H
      have hnb59 := NB235_234.out
      have hnc59 := NB234_235.out
      obtain ⟨hcz60_0, hcz60_1, hfz60_0, hfz60_1⟩ := bz2 BK235
      obtain ⟨hcz61_0, hcz61_1, hcz61_2, hfz61_0, hfz61_1, hfz61_2⟩ := bz3 BK234
      go_wp2
      refine bodyPost_ret (results_cell_row rfl _ _ gb234 27 #[.int .i64 x4_1, .int .i64 x236000_1, .int .i64 x236001_1] (0, 0) _ rfl (bq0 BK234) Try.underlying27 rfl (by kernel_rfl)) rfl ?_
      exact er (bbw2 HB GE234 GE235)
end Go.Proofs.Ytcchmdodifkloaa.PA
