/- Walks written by program: each Go function that the law reaches comes to the plain function beside it. -/
import Derived.Test.YtedmadofpdkekaaGreatPAx0
import Derived.Test.YtedmadofpdkekaaGreatPAx6
import Derived.Test.YtedmadofpdkekaaGreatPAx9
import Derived.Test.YtedmadofpdkekaaGreatPAx10
import Derived.Test.YtedmadofpdkekaaGreatPAx11
import Derived.Test.YtedmadofpdkekaaGreatPAx12
import Derived.Test.YtedmadofpdkekaaGreatPAx15
namespace Go.Proofs.YtedmadofpdkekaaGreat.PA
open Go.RowKit Go.Proofs.YtedmadofpdkekaaGreatW.PrintWords Go.Proofs.YtedmadofpdkekaaGreatW.PrintLast Go.Proofs.YtedmadofpdkekaaGreatW.PrintMore
attribute [local go_sem] max2_int min2_int max_two min_two max_three min_three max_four min_four   -- for this text's walks alone
set_option linter.unusedVariables false
set_option linter.unusedSimpArgs false

/-! ### impl_alongAxis: function 64 -/
def impl_alongAxis.f (k : Nat) (a0_0 : Int) (a0_1 : Int) (a0_2 : Int) (a0_3 : Int) (a1_0 : Int) (a1_1 : Int) : Option (Int) := (impl_Mat_apply.f a0_0 a0_1 a0_2 a0_3 a1_0 a1_1).bind fun bt629 => ((impl_Vec_add.f a1_0 a1_1 bt629.1 bt629.2).bind fun bt631 => ((impl_Mat_axis.f k a0_0 a0_1 a0_2 a0_3).bind fun bt633 => (if bt633.1 = 0 then (if bt633.2 = 0 then (none) else (some (wrap64 (Int.tdiv bt631.2 bt633.2)))) else (some (wrap64 (Int.tdiv bt631.1 bt633.1))))))
def impl_alongAxis.T1 : Bool × List (List Nat × List Nat) := (true, [([], []), ([], []), ([], []), ([1, 2], [1, 2]), ([0, 3, 3], [0, 3]), ([], []), ([5, 4], [5]), ([], []), ([], []), ([7, 4, 6, 0, 1, 2, 3, 4, 7, 8], [4, 7]), ([8, 6, 9, 0, 1, 2, 3, 4, 5, 6, 7, 8, 9], [6, 8])])
def impl_alongAxis.B1 : List Nat := [0, 0, 0, 6, 15, 0, 63, 0, 0, 511, 1023]
theorem impl_alongAxis.tab1 : rtab .any (opsOf Tryz.f64 1) = impl_alongAxis.T1 := by kernel_rfl
theorem impl_alongAxis.bits1 : waitsOk impl_alongAxis.T1.2 impl_alongAxis.B1 = true := by kernel_rfl
set_option maxHeartbeats 8000000 in
set_option maxRecDepth 100000 in
theorem impl_alongAxis.calls (k : Nat) (a0_0 : Int) (a0_1 : Int) (a0_2 : Int) (a0_3 : Int) (a1_0 : Int) (a1_1 : Int) (r : Int) (w : World) (h : impl_alongAxis.f k a0_0 a0_1 a0_2 a0_3 a1_0 a1_1 = some r) :
  Calls Tryz.prog 64 #[.agg #[.int .i64 a0_0, .int .i64 a0_1, .int .i64 a0_2, .int .i64 a0_3], .agg #[.int .i64 a1_0, .int .i64 a1_1]] w fun e w' => e = .returned (.int .i64 r) ∧ Below w.heap.size w w' := by
 have hu27 := Tryz.underlying27
 have hu31 := Tryz.underlying31
 have HB := asd (Below.refl w.heap.size w)
 have H : ((impl_Mat_apply.f a0_0 a0_1 a0_2 a0_3 a1_0 a1_1).bind fun bt629 => ((impl_Vec_add.f a1_0 a1_1 bt629.1 bt629.2).bind fun bt631 => ((impl_Mat_axis.f k a0_0 a0_1 a0_2 a0_3).bind fun bt633 => (if bt633.1 = 0 then (if bt633.2 = 0 then (none) else (some (wrap64 (Int.tdiv bt631.2 bt633.2)))) else (some (wrap64 (Int.tdiv bt631.1 bt633.1))))))) = some r := h
 clear h
 obtain ⟨⟨t629, t630⟩, A3, H⟩ := ob H
 try dsimp only at H
 obtain ⟨⟨t631, t632⟩, A4, H⟩ := ob H
 try dsimp only at H
 obtain ⟨⟨t633, t634⟩, A5, H⟩ := ob H
 try dsimp only at H
 by_cases c6 : t633 = 0
 rw [if_pos c6] at H
 have c6b0 : (t633 == 0) = true := beq_iff_eq.mpr c6
 have c6b1 : (t633 != 0) = false := bne_eq_false_iff_eq.mpr c6
 clear c6
 by_cases c7 : t634 = 0
 ·rw [if_pos c7] at H
  exact absurd H (by simp)
 rw [if_neg c7] at H
 have c7b0 : (t634 == 0) = false := beq_eq_false_iff_ne.mpr c7
 have c7b1 : (t634 != 0) = true := bne_iff_ne.mpr c7
 obtain rfl := Option.some.inj H
 rotate_left
 rw [if_neg c6] at H
 have c6b0 : (t633 == 0) = false := beq_eq_false_iff_ne.mpr c6
 have c6b1 : (t633 != 0) = true := bne_iff_ne.mpr c6
 obtain rfl := Option.some.inj H
 rotate_left
 all_goals
  go_enter Tryz.func64, Tryz.ntmps64
  try go_wp2_with (first | ((with_reducible refine gd 2 rfl ?_); refine bx #[.int .i64 a0_0, .int .i64 a0_1, .int .i64 a0_2, .int .i64 a0_3] 27 ?_; intro gb627 hg w8 BK627 hb; have GE627 := ngw0 hg HB; replace HB := bS0 HB hb; clear hb hg) | ((with_reducible refine gd 3 rfl ?_); refine bx #[.int .i64 a1_0, .int .i64 a1_1] 31 ?_; intro gb628 hg w9 BK628 hb; have GE628 := ngw1 hg HB GE627; replace HB := bS1 HB GE627 hb; have NB627_628 := nlt hg BK627; have NB628_627 := nsy (nlt hg BK627); replace BK627 := bB BK627 hb; clear hb hg))
  replace BK627 := asd (blk_drew BK627.out)
  replace BK628 := asd (blk_drew BK628.out)
  replace HB := asd (below_drew1 HB.out)
  refine start_ (n := 11) (S := fun w' => True) (ds := []) (bT 11 0) (by kernel_rfl) rfl rfl trivial (fun hHeld => ?_); refine with_tabW impl_alongAxis.tab1 impl_alongAxis.bits1 (fun HT_ HW_ => ?_)
  generalize w9.drew = w10 at BK627 BK628 HB hHeld ⊢
  refine inv_at [0, 1, 2, 3, 4, 5, 6, 7, 8, 9, 10] (fun a0_ b a w' => ∃ (gb635 : Nat) (gb636 : Nat) (m7_ : Value) (m8_ : Value), a = putSel a0_ b [(0, 7, .agg #[.int .i64 a1_0, .int .i64 a1_1]), (1, 8, .agg #[.int .i64 a0_0, .int .i64 a0_1, .int .i64 a0_2, .int .i64 a0_3]), (2, 9, .agg #[.int .i64 a1_0, .int .i64 a1_1]), (3, 10, .agg #[.int .i64 t629, .int .i64 t630]), (4, 11, .agg #[.int .i64 t631, .int .i64 t632]), (5, 12, .agg #[.int .i64 a0_0, .int .i64 a0_1, .int .i64 a0_2, .int .i64 a0_3]), (6, 13, .agg #[.int .i64 t633, .int .i64 t634]), (7, 5, m7_), (8, 6, m8_)] ∧ (w'.heap[gb627]? = some (.cells #[.int .i64 a0_0, .int .i64 a0_1, .int .i64 a0_2, .int .i64 a0_3] 27 (0, 0))) ∧ (w'.heap[gb628]? = some (.cells #[.int .i64 a1_0, .int .i64 a1_1] 31 (0, 0))) ∧ (Below w.heap.size w w') ∧ (b 7 = true → b 8 = true → gb636 ≠ gb635) ∧ (b 7 = true → b 8 = true → gb635 ≠ gb636) ∧ (b 7 = true → b 9 = false → w'.heap[gb635]? = some (.cells #[.int .i64 0, .int .i64 0] 31 (0, 0))) ∧ (b 7 = true → w.heap.size ≤ gb635) ∧ (b 7 = true → w.heap.size ≤ gb635) ∧ (b 7 = true → gb627 ≠ gb635) ∧ (b 7 = true → gb635 ≠ gb627) ∧ (b 7 = true → gb628 ≠ gb635) ∧ (b 7 = true → gb635 ≠ gb628) ∧ (b 8 = true → b 10 = false → w'.heap[gb636]? = some (.cells #[.int .i64 0, .int .i64 0] 31 (0, 0))) ∧ (b 8 = true → w.heap.size ≤ gb636) ∧ (b 8 = true → w.heap.size ≤ gb636) ∧ (b 8 = true → gb627 ≠ gb636) ∧ (b 8 = true → gb636 ≠ gb627) ∧ (b 8 = true → gb628 ≠ gb636) ∧ (b 8 = true → gb636 ≠ gb628) ∧ (b 9 = true → w'.heap[gb635]? = some (.cells #[.int .i64 t631, .int .i64 t632] 31 (0, 0))) ∧ (b 10 = true → w'.heap[gb636]? = some (.cells #[.int .i64 t633, .int .i64 t634] 31 (0, 0))) ∧ (b 7 = true → (m7_ : Value) = .pointer (some ⟨gb635, 0, none⟩)) ∧ (b 8 = true → (m8_ : Value) = .pointer (some ⟨gb636, 0, none⟩))) HT_.out HW_.out (by kernel_rfl) (by kernel_rfl) ?_ ?_ ?_
  ·exact ⟨0, 0, .bool false, .bool false, by simp only [putSel, Bool.false_eq_true, if_false], BK627.out, BK628.out, HB.out, fun h_ => absurd h_ (by decide), fun h_ => absurd h_ (by decide), fun h_ => absurd h_ (by decide), fun h_ => absurd h_ (by decide), fun h_ => absurd h_ (by decide), fun h_ => absurd h_ (by decide), fun h_ => absurd h_ (by decide), fun h_ => absurd h_ (by decide), fun h_ => absurd h_ (by decide), fun h_ => absurd h_ (by decide), fun h_ => absurd h_ (by decide), fun h_ => absurd h_ (by decide), fun h_ => absurd h_ (by decide), fun h_ => absurd h_ (by decide), fun h_ => absurd h_ (by decide), fun h_ => absurd h_ (by decide), fun h_ => absurd h_ (by decide), fun h_ => absurd h_ (by decide), fun h_ => absurd h_ (by decide), fun h_ => absurd h_ (by decide)⟩
  ·skip
   clear BK627 BK628 HB
   refine steps_cons ?_ ?_
   ·rintro b a w' ⟨gb635, gb636, m7_, m8_, ha, Q_BK627, Q_BK628, Q_HB, Q_NB636_635, Q_NB635_636, Q_BK635, Q_GW635, Q_GE635, Q_NB627_635, Q_NB635_627, Q_NB628_635, Q_NB635_628, Q_BK636, Q_GW636, Q_GE636, Q_NB627_636, Q_NB636_627, Q_NB628_636, Q_NB636_628, Q_BK635_e9, Q_BK636_e10, Q_X7_, Q_X8_⟩ hb_ hon hoff
    refine ⟨_, rfl, fun K hK => ?_⟩
    have e3 : a.tmps[3]? = some (.pointer (some ⟨gb628, 0, none⟩)) := by rw [ha]; exact (putSel_off rfl).trans rfl
    replace ha := Aside0.mk ha
    have BK627 := Aside0.mk Q_BK627
    have BK628 := Aside0.mk Q_BK628
    have HB := Aside0.mk Q_HB
    have hc0_ : w'.cell? ⟨gb628, 0, none⟩ = some (.int .i64 a1_0) := bcl BK628 0
    have hc1_ : w'.cell? ⟨gb628, 1, none⟩ = some (.int .i64 a1_1) := bcl BK628 1
    refine value_ (w1 := w') (v := .agg #[.int .i64 a1_0, .int .i64 a1_1]) (by rfl) rfl ?_ ?_
    ·go_simp
     (try simp only [i64_w])
     try rfl
    refine hK.out _ _ ⟨gb635, gb636, m7_, m8_, (by rw [ha.out]; exact putSel_upk 0 hb_ rfl rfl rfl), Q_BK627, Q_BK628, Q_HB, Q_NB636_635, Q_NB635_636, Q_BK635, Q_GW635, Q_GE635, Q_NB627_635, Q_NB635_627, Q_NB628_635, Q_NB635_628, Q_BK636, Q_GW636, Q_GE636, Q_NB627_636, Q_NB636_627, Q_NB628_636, Q_NB636_628, fun h0_ => absurd ((hoff 9 (by kernel_rfl)).symm.trans h0_) (by decide), fun h0_ => absurd ((hoff 10 (by kernel_rfl)).symm.trans h0_) (by decide), Q_X7_, Q_X8_⟩
   refine steps_cons ?_ ?_
   ·rintro b a w' ⟨gb635, gb636, m7_, m8_, ha, Q_BK627, Q_BK628, Q_HB, Q_NB636_635, Q_NB635_636, Q_BK635, Q_GW635, Q_GE635, Q_NB627_635, Q_NB635_627, Q_NB628_635, Q_NB635_628, Q_BK636, Q_GW636, Q_GE636, Q_NB627_636, Q_NB636_627, Q_NB628_636, Q_NB636_628, Q_BK635_e9, Q_BK636_e10, Q_X7_, Q_X8_⟩ hb_ hon hoff
    refine ⟨_, rfl, fun K hK => ?_⟩
    have e2 : a.tmps[2]? = some (.pointer (some ⟨gb627, 0, none⟩)) := by rw [ha]; exact (putSel_off rfl).trans rfl
    replace ha := Aside0.mk ha
    have BK627 := Aside0.mk Q_BK627
    have BK628 := Aside0.mk Q_BK628
    have HB := Aside0.mk Q_HB
    have hc0_ : w'.cell? ⟨gb627, 0, none⟩ = some (.int .i64 a0_0) := bcl BK627 0
    have hc1_ : w'.cell? ⟨gb627, 1, none⟩ = some (.int .i64 a0_1) := bcl BK627 1
    have hc2_ : w'.cell? ⟨gb627, 2, none⟩ = some (.int .i64 a0_2) := bcl BK627 2
    have hc3_ : w'.cell? ⟨gb627, 3, none⟩ = some (.int .i64 a0_3) := bcl BK627 3
    refine value_ (w1 := w') (v := .agg #[.int .i64 a0_0, .int .i64 a0_1, .int .i64 a0_2, .int .i64 a0_3]) (by rfl) rfl ?_ ?_
    ·go_simp
     (try simp only [i64_w])
     try rfl
    refine hK.out _ _ ⟨gb635, gb636, m7_, m8_, (by rw [ha.out]; exact putSel_upk 1 hb_ rfl rfl rfl), Q_BK627, Q_BK628, Q_HB, Q_NB636_635, Q_NB635_636, Q_BK635, Q_GW635, Q_GE635, Q_NB627_635, Q_NB635_627, Q_NB628_635, Q_NB635_628, Q_BK636, Q_GW636, Q_GE636, Q_NB627_636, Q_NB636_627, Q_NB628_636, Q_NB636_628, fun h0_ => absurd ((hoff 9 (by kernel_rfl)).symm.trans h0_) (by decide), fun h0_ => absurd ((hoff 10 (by kernel_rfl)).symm.trans h0_) (by decide), Q_X7_, Q_X8_⟩
   refine steps_cons ?_ ?_
   ·rintro b a w' ⟨gb635, gb636, m7_, m8_, ha, Q_BK627, Q_BK628, Q_HB, Q_NB636_635, Q_NB635_636, Q_BK635, Q_GW635, Q_GE635, Q_NB627_635, Q_NB635_627, Q_NB628_635, Q_NB635_628, Q_BK636, Q_GW636, Q_GE636, Q_NB627_636, Q_NB636_627, Q_NB628_636, Q_NB636_628, Q_BK635_e9, Q_BK636_e10, Q_X7_, Q_X8_⟩ hb_ hon hoff
    refine ⟨_, rfl, fun K hK => ?_⟩
    have e3 : a.tmps[3]? = some (.pointer (some ⟨gb628, 0, none⟩)) := by rw [ha]; exact (putSel_off rfl).trans rfl
    replace ha := Aside0.mk ha
    have BK627 := Aside0.mk Q_BK627
    have BK628 := Aside0.mk Q_BK628
    have HB := Aside0.mk Q_HB
    have hc0_ : w'.cell? ⟨gb628, 0, none⟩ = some (.int .i64 a1_0) := bcl BK628 0
    have hc1_ : w'.cell? ⟨gb628, 1, none⟩ = some (.int .i64 a1_1) := bcl BK628 1
    refine value_ (w1 := w') (v := .agg #[.int .i64 a1_0, .int .i64 a1_1]) (by rfl) rfl ?_ ?_
    ·go_simp
     (try simp only [i64_w])
     try rfl
    refine hK.out _ _ ⟨gb635, gb636, m7_, m8_, (by rw [ha.out]; exact putSel_upk 2 hb_ rfl rfl rfl), Q_BK627, Q_BK628, Q_HB, Q_NB636_635, Q_NB635_636, Q_BK635, Q_GW635, Q_GE635, Q_NB627_635, Q_NB635_627, Q_NB628_635, Q_NB635_628, Q_BK636, Q_GW636, Q_GE636, Q_NB627_636, Q_NB636_627, Q_NB628_636, Q_NB636_628, fun h0_ => absurd ((hoff 9 (by kernel_rfl)).symm.trans h0_) (by decide), fun h0_ => absurd ((hoff 10 (by kernel_rfl)).symm.trans h0_) (by decide), Q_X7_, Q_X8_⟩
   refine steps_cons ?_ ?_
   ·rintro b a w' ⟨gb635, gb636, m7_, m8_, ha, Q_BK627, Q_BK628, Q_HB, Q_NB636_635, Q_NB635_636, Q_BK635, Q_GW635, Q_GE635, Q_NB627_635, Q_NB635_627, Q_NB628_635, Q_NB635_628, Q_BK636, Q_GW636, Q_GE636, Q_NB627_636, Q_NB636_627, Q_NB628_636, Q_NB636_628, Q_BK635_e9, Q_BK636_e10, Q_X7_, Q_X8_⟩ hb_ hon hoff
    refine ⟨_, rfl, fun K hK => ?_⟩
    have e8 : a.tmps[8]? = some (.agg #[.int .i64 a0_0, .int .i64 a0_1, .int .i64 a0_2, .int .i64 a0_3]) := by rw [ha]; exact putSel_on (e := (1, 8, .agg #[.int .i64 a0_0, .int .i64 a0_1, .int .i64 a0_2, .int .i64 a0_3])) 1 rfl rfl (hon 1 (by kernel_rfl)) rfl
    have e9 : a.tmps[9]? = some (.agg #[.int .i64 a1_0, .int .i64 a1_1]) := by rw [ha]; exact putSel_on (e := (2, 9, .agg #[.int .i64 a1_0, .int .i64 a1_1])) 2 rfl rfl (hon 2 (by kernel_rfl)) rfl
    replace ha := Aside0.mk ha
    have BK627 := Aside0.mk Q_BK627
    have BK628 := Aside0.mk Q_BK628
    have HB := Aside0.mk Q_HB
    refine goes_ Tryz.func43 (by kernel_rfl) rfl #[.agg #[.int .i64 a0_0, .int .i64 a0_1, .int .i64 a0_2, .int .i64 a0_3], .agg #[.int .i64 a1_0, .int .i64 a1_1]] (by rfl) rfl rfl (by first | (simp only [List.map_toArray, List.map_cons, List.map_nil, Act.eval, Array.getD_eq_getD_getElem?, Option.getD_some, e8, e9]; done) | (simp only [List.map_toArray, List.map_cons, List.map_nil, Act.eval, Array.getD_eq_getD_getElem?, Option.getD_some, e8, e9]; rfl)) ?_
    with_reducible refine (impl_Mat_apply.calls _ _ _ _ _ _ _ _ _ A3.out).mono ?_
    rintro e w11 ⟨rfl, hb⟩
    refine ⟨_, rfl, ?_⟩
    have n0_ := bB BK627 hb
    have n1_ := bB BK628 hb
    have n2_ := bS2 HB GE627 GE628 hb
    have z_BK635 := fun (h0_ : b 7 = true) (h1_ : b 9 = false) => (show w11.heap[gb635]? = some (.cells #[.int .i64 0, .int .i64 0] 31 (0, 0)) from by first | exact (blk_below (g := gb635) (o := .cells #[.int .i64 0, .int .i64 0] 31 (0, 0)) (by (with_reducible repeat (first | refine blk_drewN ?_ _ | refine blk_drew ?_ | refine blk_alloc ?_ _)); exact (Q_BK635 h0_ h1_)) hb))
    have z_BK636 := fun (h0_ : b 8 = true) (h1_ : b 10 = false) => (show w11.heap[gb636]? = some (.cells #[.int .i64 0, .int .i64 0] 31 (0, 0)) from by first | exact (blk_below (g := gb636) (o := .cells #[.int .i64 0, .int .i64 0] 31 (0, 0)) (by (with_reducible repeat (first | refine blk_drewN ?_ _ | refine blk_drew ?_ | refine blk_alloc ?_ _)); exact (Q_BK636 h0_ h1_)) hb))
    clear BK627
    clear BK628
    clear HB
    have BK627 := n0_
    have BK628 := n1_
    have HB := n2_
    clear n0_ n1_ n2_
    (try clear hb)
    (try clear hb2)
    (try clear hk)
    (try clear hi)
    refine hK.out _ _ ⟨gb635, gb636, m7_, m8_, (by rw [ha.out]; exact putSel_upk 3 hb_ rfl rfl rfl), (bkp BK627), (bkp BK628), (bbw2 HB GE627 GE628), Q_NB636_635, Q_NB635_636, z_BK635, Q_GW635, Q_GE635, Q_NB627_635, Q_NB635_627, Q_NB628_635, Q_NB635_628, z_BK636, Q_GW636, Q_GE636, Q_NB627_636, Q_NB636_627, Q_NB628_636, Q_NB636_628, fun h0_ => absurd ((hoff 9 (by kernel_rfl)).symm.trans h0_) (by decide), fun h0_ => absurd ((hoff 10 (by kernel_rfl)).symm.trans h0_) (by decide), Q_X7_, Q_X8_⟩
   refine steps_cons ?_ ?_
   ·rintro b a w' ⟨gb635, gb636, m7_, m8_, ha, Q_BK627, Q_BK628, Q_HB, Q_NB636_635, Q_NB635_636, Q_BK635, Q_GW635, Q_GE635, Q_NB627_635, Q_NB635_627, Q_NB628_635, Q_NB635_628, Q_BK636, Q_GW636, Q_GE636, Q_NB627_636, Q_NB636_627, Q_NB628_636, Q_NB636_628, Q_BK635_e9, Q_BK636_e10, Q_X7_, Q_X8_⟩ hb_ hon hoff
    refine ⟨_, rfl, fun K hK => ?_⟩
    have e7 : a.tmps[7]? = some (.agg #[.int .i64 a1_0, .int .i64 a1_1]) := by rw [ha]; exact putSel_on (e := (0, 7, .agg #[.int .i64 a1_0, .int .i64 a1_1])) 0 rfl rfl (hon 0 (by kernel_rfl)) rfl
    have e10 : a.tmps[10]? = some (.agg #[.int .i64 t629, .int .i64 t630]) := by rw [ha]; exact putSel_on (e := (3, 10, .agg #[.int .i64 t629, .int .i64 t630])) 3 rfl rfl (hon 3 (by kernel_rfl)) rfl
    replace ha := Aside0.mk ha
    have BK627 := Aside0.mk Q_BK627
    have BK628 := Aside0.mk Q_BK628
    have HB := Aside0.mk Q_HB
    refine goes_ Tryz.func50 (by kernel_rfl) rfl #[.agg #[.int .i64 a1_0, .int .i64 a1_1], .agg #[.int .i64 t629, .int .i64 t630]] (by rfl) rfl rfl (by first | (simp only [List.map_toArray, List.map_cons, List.map_nil, Act.eval, Array.getD_eq_getD_getElem?, Option.getD_some, e7, e10]; done) | (simp only [List.map_toArray, List.map_cons, List.map_nil, Act.eval, Array.getD_eq_getD_getElem?, Option.getD_some, e7, e10]; rfl)) ?_
    with_reducible refine (impl_Vec_add.calls _ _ _ _ _ _ _ A4.out).mono ?_
    rintro e w13 ⟨rfl, hb⟩
    refine ⟨_, rfl, ?_⟩
    have n0_ := bB BK627 hb
    have n1_ := bB BK628 hb
    have n2_ := bS2 HB GE627 GE628 hb
    have z_BK635 := fun (h0_ : b 7 = true) (h1_ : b 9 = false) => (show w13.heap[gb635]? = some (.cells #[.int .i64 0, .int .i64 0] 31 (0, 0)) from by first | exact (blk_below (g := gb635) (o := .cells #[.int .i64 0, .int .i64 0] 31 (0, 0)) (by (with_reducible repeat (first | refine blk_drewN ?_ _ | refine blk_drew ?_ | refine blk_alloc ?_ _)); exact (Q_BK635 h0_ h1_)) hb))
    have z_BK636 := fun (h0_ : b 8 = true) (h1_ : b 10 = false) => (show w13.heap[gb636]? = some (.cells #[.int .i64 0, .int .i64 0] 31 (0, 0)) from by first | exact (blk_below (g := gb636) (o := .cells #[.int .i64 0, .int .i64 0] 31 (0, 0)) (by (with_reducible repeat (first | refine blk_drewN ?_ _ | refine blk_drew ?_ | refine blk_alloc ?_ _)); exact (Q_BK636 h0_ h1_)) hb))
    clear BK627
    clear BK628
    clear HB
    have BK627 := n0_
    have BK628 := n1_
    have HB := n2_
    clear n0_ n1_ n2_
    (try clear hb)
    (try clear hb2)
    (try clear hk)
    (try clear hi)
    refine hK.out _ _ ⟨gb635, gb636, m7_, m8_, (by rw [ha.out]; exact putSel_upk 4 hb_ rfl rfl rfl), (bkp BK627), (bkp BK628), (bbw2 HB GE627 GE628), Q_NB636_635, Q_NB635_636, z_BK635, Q_GW635, Q_GE635, Q_NB627_635, Q_NB635_627, Q_NB628_635, Q_NB635_628, z_BK636, Q_GW636, Q_GE636, Q_NB627_636, Q_NB636_627, Q_NB628_636, Q_NB636_628, fun h0_ => absurd ((hoff 9 (by kernel_rfl)).symm.trans h0_) (by decide), fun h0_ => absurd ((hoff 10 (by kernel_rfl)).symm.trans h0_) (by decide), Q_X7_, Q_X8_⟩
   refine steps_cons ?_ ?_
   ·rintro b a w' ⟨gb635, gb636, m7_, m8_, ha, Q_BK627, Q_BK628, Q_HB, Q_NB636_635, Q_NB635_636, Q_BK635, Q_GW635, Q_GE635, Q_NB627_635, Q_NB635_627, Q_NB628_635, Q_NB635_628, Q_BK636, Q_GW636, Q_GE636, Q_NB627_636, Q_NB636_627, Q_NB628_636, Q_NB636_628, Q_BK635_e9, Q_BK636_e10, Q_X7_, Q_X8_⟩ hb_ hon hoff
    refine ⟨_, rfl, fun K hK => ?_⟩
    have e2 : a.tmps[2]? = some (.pointer (some ⟨gb627, 0, none⟩)) := by rw [ha]; exact (putSel_off rfl).trans rfl
    replace ha := Aside0.mk ha
    have BK627 := Aside0.mk Q_BK627
    have BK628 := Aside0.mk Q_BK628
    have HB := Aside0.mk Q_HB
    have hc0_ : w'.cell? ⟨gb627, 0, none⟩ = some (.int .i64 a0_0) := bcl BK627 0
    have hc1_ : w'.cell? ⟨gb627, 1, none⟩ = some (.int .i64 a0_1) := bcl BK627 1
    have hc2_ : w'.cell? ⟨gb627, 2, none⟩ = some (.int .i64 a0_2) := bcl BK627 2
    have hc3_ : w'.cell? ⟨gb627, 3, none⟩ = some (.int .i64 a0_3) := bcl BK627 3
    refine value_ (w1 := w') (v := .agg #[.int .i64 a0_0, .int .i64 a0_1, .int .i64 a0_2, .int .i64 a0_3]) (by rfl) rfl ?_ ?_
    ·go_simp
     (try simp only [i64_w])
     try rfl
    refine hK.out _ _ ⟨gb635, gb636, m7_, m8_, (by rw [ha.out]; exact putSel_upk 5 hb_ rfl rfl rfl), Q_BK627, Q_BK628, Q_HB, Q_NB636_635, Q_NB635_636, Q_BK635, Q_GW635, Q_GE635, Q_NB627_635, Q_NB635_627, Q_NB628_635, Q_NB635_628, Q_BK636, Q_GW636, Q_GE636, Q_NB627_636, Q_NB636_627, Q_NB628_636, Q_NB636_628, fun h0_ => absurd ((hoff 9 (by kernel_rfl)).symm.trans h0_) (by decide), fun h0_ => absurd ((hoff 10 (by kernel_rfl)).symm.trans h0_) (by decide), Q_X7_, Q_X8_⟩
   refine steps_cons ?_ ?_
   ·rintro b a w' ⟨gb635, gb636, m7_, m8_, ha, Q_BK627, Q_BK628, Q_HB, Q_NB636_635, Q_NB635_636, Q_BK635, Q_GW635, Q_GE635, Q_NB627_635, Q_NB635_627, Q_NB628_635, Q_NB635_628, Q_BK636, Q_GW636, Q_GE636, Q_NB627_636, Q_NB636_627, Q_NB628_636, Q_NB636_628, Q_BK635_e9, Q_BK636_e10, Q_X7_, Q_X8_⟩ hb_ hon hoff
    refine ⟨_, rfl, fun K hK => ?_⟩
    have e12 : a.tmps[12]? = some (.agg #[.int .i64 a0_0, .int .i64 a0_1, .int .i64 a0_2, .int .i64 a0_3]) := by rw [ha]; exact putSel_on (e := (5, 12, .agg #[.int .i64 a0_0, .int .i64 a0_1, .int .i64 a0_2, .int .i64 a0_3])) 5 rfl rfl (hon 5 (by kernel_rfl)) rfl
    replace ha := Aside0.mk ha
    have BK627 := Aside0.mk Q_BK627
    have BK628 := Aside0.mk Q_BK628
    have HB := Aside0.mk Q_HB
    refine goes_ Tryz.func22 (by kernel_rfl) rfl #[.agg #[.int .i64 a0_0, .int .i64 a0_1, .int .i64 a0_2, .int .i64 a0_3]] (by rfl) rfl rfl (by first | (simp only [List.map_toArray, List.map_cons, List.map_nil, Act.eval, Array.getD_eq_getD_getElem?, Option.getD_some, e12]; done) | (simp only [List.map_toArray, List.map_cons, List.map_nil, Act.eval, Array.getD_eq_getD_getElem?, Option.getD_some, e12]; rfl)) ?_
    with_reducible refine (impl_Mat_axis.calls _ _ _ _ _ _ _ _ A5.out).mono ?_
    rintro e w14 ⟨rfl, hb⟩
    refine ⟨_, rfl, ?_⟩
    have n0_ := bB BK627 hb
    have n1_ := bB BK628 hb
    have n2_ := bS2 HB GE627 GE628 hb
    have z_BK635 := fun (h0_ : b 7 = true) (h1_ : b 9 = false) => (show w14.heap[gb635]? = some (.cells #[.int .i64 0, .int .i64 0] 31 (0, 0)) from by first | exact (blk_below (g := gb635) (o := .cells #[.int .i64 0, .int .i64 0] 31 (0, 0)) (by (with_reducible repeat (first | refine blk_drewN ?_ _ | refine blk_drew ?_ | refine blk_alloc ?_ _)); exact (Q_BK635 h0_ h1_)) hb))
    have z_BK636 := fun (h0_ : b 8 = true) (h1_ : b 10 = false) => (show w14.heap[gb636]? = some (.cells #[.int .i64 0, .int .i64 0] 31 (0, 0)) from by first | exact (blk_below (g := gb636) (o := .cells #[.int .i64 0, .int .i64 0] 31 (0, 0)) (by (with_reducible repeat (first | refine blk_drewN ?_ _ | refine blk_drew ?_ | refine blk_alloc ?_ _)); exact (Q_BK636 h0_ h1_)) hb))
    clear BK627
    clear BK628
    clear HB
    have BK627 := n0_
    have BK628 := n1_
    have HB := n2_
    clear n0_ n1_ n2_
    (try clear hb)
    (try clear hb2)
    (try clear hk)
    (try clear hi)
    refine hK.out _ _ ⟨gb635, gb636, m7_, m8_, (by rw [ha.out]; exact putSel_upk 6 hb_ rfl rfl rfl), (bkp BK627), (bkp BK628), (bbw2 HB GE627 GE628), Q_NB636_635, Q_NB635_636, z_BK635, Q_GW635, Q_GE635, Q_NB627_635, Q_NB635_627, Q_NB628_635, Q_NB635_628, z_BK636, Q_GW636, Q_GE636, Q_NB627_636, Q_NB636_627, Q_NB628_636, Q_NB636_628, fun h0_ => absurd ((hoff 9 (by kernel_rfl)).symm.trans h0_) (by decide), fun h0_ => absurd ((hoff 10 (by kernel_rfl)).symm.trans h0_) (by decide), Q_X7_, Q_X8_⟩
   refine steps_cons ?_ ?_
   ·rintro b a w' ⟨gb635, gb636, m7_, m8_, ha, Q_BK627, Q_BK628, Q_HB, Q_NB636_635, Q_NB635_636, Q_BK635, Q_GW635, Q_GE635, Q_NB627_635, Q_NB635_627, Q_NB628_635, Q_NB635_628, Q_BK636, Q_GW636, Q_GE636, Q_NB627_636, Q_NB636_627, Q_NB628_636, Q_NB636_628, Q_BK635_e9, Q_BK636_e10, Q_X7_, Q_X8_⟩ hb_ hon hoff
    refine ⟨_, rfl, fun K hK => ?_⟩
    replace ha := Aside0.mk ha
    have BK627 := Aside0.mk Q_BK627
    have BK628 := Aside0.mk Q_BK628
    have HB := Aside0.mk Q_HB
    refine box_step ?hg (N := 5) ?hd (cs := #[.int .i64 0, .int .i64 0]) (t := 31) ?hr ?_; (case hd => rfl); (case hg => rfl); (case hr => first | (go_simp; done) | (go_simp; rfl))
    intro gb635 hg w11 hbox hb
    have n0_ := bB BK627 hb
    have n1_ := bB BK628 hb
    have n2_ := bS2 HB GE627 GE628 hb
    have n3_ := asd (hbox)
    have n4_ := ngw2 hg HB GE627 GE628
    have n5_ := ngw2 hg HB GE627 GE628
    have n6_ := nlt hg BK627
    have n7_ := nsy (nlt hg BK627)
    have n8_ := nlt hg BK628
    have n9_ := nsy (nlt hg BK628)
    have z_NB636_635 := fun (h0_ : up b 7 7 = true) (h1_ : up b 7 8 = true) => (show gb636 ≠ gb635 from ((by rw [hg]; exact Nat.ne_of_lt (by cases hq_ : b 10 with | false => exact blk_lt (g := gb636) (Q_BK636 h1_ hq_) | true => exact blk_lt (g := gb636) (Q_BK636_e10 hq_)) : gb636 ≠ gb635)))
    have z_NB635_636 := fun (h0_ : up b 7 7 = true) (h1_ : up b 7 8 = true) => (show gb635 ≠ gb636 from ((by rw [hg]; exact Nat.ne_of_gt (by cases hq_ : b 10 with | false => exact blk_lt (g := gb636) (Q_BK636 h1_ hq_) | true => exact blk_lt (g := gb636) (Q_BK636_e10 hq_)) : gb635 ≠ gb636)))
    have z_BK636 := fun (h0_ : b 8 = true) (h1_ : b 10 = false) => (show w11.heap[gb636]? = some (.cells #[.int .i64 0, .int .i64 0] 31 (0, 0)) from by first | exact (blk_below (g := gb636) (o := .cells #[.int .i64 0, .int .i64 0] 31 (0, 0)) (by (with_reducible repeat (first | refine blk_drewN ?_ _ | refine blk_drew ?_ | refine blk_alloc ?_ _)); exact (Q_BK636 h0_ h1_)) hb))
    clear BK627
    clear BK628
    clear HB
    have BK627 := n0_
    have BK628 := n1_
    have HB := n2_
    have BK635 := n3_
    have GW635 := n4_
    have GE635 := n5_
    have NB627_635 := n6_
    have NB635_627 := n7_
    have NB628_635 := n8_
    have NB635_628 := n9_
    clear n0_ n1_ n2_ n3_ n4_ n5_ n6_ n7_ n8_ n9_
    clear hb hbox hg
    refine hK.out _ _ ⟨gb635, gb636, (.pointer (some ⟨gb635, 0, none⟩)), m8_, (by rw [ha.out]; exact putSel_upk 7 hb_ rfl rfl rfl), (bkp BK627), (bkp BK628), (bbw3 HB GE627 GE628 GE635), @z_NB636_635, @z_NB635_636, fun _ _ => (bkp BK635), fun _ => GW635.out, fun _ => GE635.out, fun _ => NB627_635.out, fun _ => NB635_627.out, fun _ => NB628_635.out, fun _ => NB635_628.out, z_BK636, Q_GW636, Q_GE636, Q_NB627_636, Q_NB636_627, Q_NB628_636, Q_NB636_628, fun h0_ => absurd ((hoff 9 (by kernel_rfl)).symm.trans h0_) (by decide), fun h0_ => absurd ((hoff 10 (by kernel_rfl)).symm.trans h0_) (by decide), fun _ => rfl, Q_X8_⟩
   refine steps_cons ?_ ?_
   ·rintro b a w' ⟨gb635, gb636, m7_, m8_, ha, Q_BK627, Q_BK628, Q_HB, Q_NB636_635, Q_NB635_636, Q_BK635, Q_GW635, Q_GE635, Q_NB627_635, Q_NB635_627, Q_NB628_635, Q_NB635_628, Q_BK636, Q_GW636, Q_GE636, Q_NB627_636, Q_NB636_627, Q_NB628_636, Q_NB636_628, Q_BK635_e9, Q_BK636_e10, Q_X7_, Q_X8_⟩ hb_ hon hoff
    refine ⟨_, rfl, fun K hK => ?_⟩
    replace ha := Aside0.mk ha
    have BK627 := Aside0.mk Q_BK627
    have BK628 := Aside0.mk Q_BK628
    have HB := Aside0.mk Q_HB
    refine box_step ?hg (N := 6) ?hd (cs := #[.int .i64 0, .int .i64 0]) (t := 31) ?hr ?_; (case hd => rfl); (case hg => rfl); (case hr => first | (go_simp; done) | (go_simp; rfl))
    intro gb636 hg w11 hbox hb
    have n0_ := bB BK627 hb
    have n1_ := bB BK628 hb
    have n2_ := bS2 HB GE627 GE628 hb
    have n3_ := asd (hbox)
    have n4_ := ngw2 hg HB GE627 GE628
    have n5_ := ngw2 hg HB GE627 GE628
    have n6_ := nlt hg BK627
    have n7_ := nsy (nlt hg BK627)
    have n8_ := nlt hg BK628
    have n9_ := nsy (nlt hg BK628)
    have z_NB636_635 := fun (h0_ : up b 8 7 = true) (h1_ : up b 8 8 = true) => (show gb636 ≠ gb635 from ((by rw [hg]; exact Nat.ne_of_gt (by cases hq_ : b 9 with | false => exact blk_lt (g := gb635) (Q_BK635 h0_ hq_) | true => exact blk_lt (g := gb635) (Q_BK635_e9 hq_)) : gb636 ≠ gb635)))
    have z_NB635_636 := fun (h0_ : up b 8 7 = true) (h1_ : up b 8 8 = true) => (show gb635 ≠ gb636 from ((by rw [hg]; exact Nat.ne_of_lt (by cases hq_ : b 9 with | false => exact blk_lt (g := gb635) (Q_BK635 h0_ hq_) | true => exact blk_lt (g := gb635) (Q_BK635_e9 hq_)) : gb635 ≠ gb636)))
    have z_BK635 := fun (h0_ : b 7 = true) (h1_ : b 9 = false) => (show w11.heap[gb635]? = some (.cells #[.int .i64 0, .int .i64 0] 31 (0, 0)) from by first | exact (blk_below (g := gb635) (o := .cells #[.int .i64 0, .int .i64 0] 31 (0, 0)) (by (with_reducible repeat (first | refine blk_drewN ?_ _ | refine blk_drew ?_ | refine blk_alloc ?_ _)); exact (Q_BK635 h0_ h1_)) hb))
    clear BK627
    clear BK628
    clear HB
    have BK627 := n0_
    have BK628 := n1_
    have HB := n2_
    have BK636 := n3_
    have GW636 := n4_
    have GE636 := n5_
    have NB627_636 := n6_
    have NB636_627 := n7_
    have NB628_636 := n8_
    have NB636_628 := n9_
    clear n0_ n1_ n2_ n3_ n4_ n5_ n6_ n7_ n8_ n9_
    clear hb hbox hg
    refine hK.out _ _ ⟨gb635, gb636, m7_, (.pointer (some ⟨gb636, 0, none⟩)), (by rw [ha.out]; exact putSel_upk 8 hb_ rfl rfl rfl), (bkp BK627), (bkp BK628), (bbw3 HB GE627 GE628 GE636), @z_NB636_635, @z_NB635_636, z_BK635, Q_GW635, Q_GE635, Q_NB627_635, Q_NB635_627, Q_NB628_635, Q_NB635_628, fun _ _ => (bkp BK636), fun _ => GW636.out, fun _ => GE636.out, fun _ => NB627_636.out, fun _ => NB636_627.out, fun _ => NB628_636.out, fun _ => NB636_628.out, fun h0_ => absurd ((hoff 9 (by kernel_rfl)).symm.trans h0_) (by decide), fun h0_ => absurd ((hoff 10 (by kernel_rfl)).symm.trans h0_) (by decide), Q_X7_, fun _ => rfl⟩
   refine steps_cons ?_ ?_
   ·rintro b a w' ⟨gb635, gb636, m7_, m8_, ha, Q_BK627, Q_BK628, Q_HB, Q_NB636_635, Q_NB635_636, Q_BK635, Q_GW635, Q_GE635, Q_NB627_635, Q_NB635_627, Q_NB628_635, Q_NB635_628, Q_BK636, Q_GW636, Q_GE636, Q_NB627_636, Q_NB636_627, Q_NB628_636, Q_NB636_628, Q_BK635_e9, Q_BK636_e10, Q_X7_, Q_X8_⟩ hb_ hon hoff
    refine ⟨_, rfl, fun K hK => ?_⟩
    have e5 : a.tmps[5]? = some (m7_) := by rw [ha]; exact putSel_on (e := (7, 5, m7_)) 7 rfl rfl (hon 7 (by kernel_rfl)) rfl
    rw [Q_X7_ (hon 7 (by kernel_rfl))] at e5
    have e11 : a.tmps[11]? = some (.agg #[.int .i64 t631, .int .i64 t632]) := by rw [ha]; exact putSel_on (e := (4, 11, .agg #[.int .i64 t631, .int .i64 t632])) 4 rfl rfl (hon 4 (by kernel_rfl)) rfl
    replace ha := Aside0.mk ha
    have BK627 := Aside0.mk Q_BK627
    have BK628 := Aside0.mk Q_BK628
    have HB := Aside0.mk Q_HB
    have NB636_635 := asd (Q_NB636_635 (hon 7 (by kernel_rfl)) (hon 8 (by kernel_rfl)))
    have NB635_636 := asd (Q_NB635_636 (hon 7 (by kernel_rfl)) (hon 8 (by kernel_rfl)))
    have BK635 := asd (Q_BK635 (hon 7 (by kernel_rfl)) hb_)
    have GW635 := asd (Q_GW635 (hon 7 (by kernel_rfl)))
    have GE635 := asd (Q_GE635 (hon 7 (by kernel_rfl)))
    have NB627_635 := asd (Q_NB627_635 (hon 7 (by kernel_rfl)))
    have NB635_627 := asd (Q_NB635_627 (hon 7 (by kernel_rfl)))
    have NB628_635 := asd (Q_NB628_635 (hon 7 (by kernel_rfl)))
    have NB635_628 := asd (Q_NB635_628 (hon 7 (by kernel_rfl)))
    have BK636 := asd (Q_BK636 (hon 8 (by kernel_rfl)) (hoff 10 (by kernel_rfl)))
    have GW636 := asd (Q_GW636 (hon 8 (by kernel_rfl)))
    have GE636 := asd (Q_GE636 (hon 8 (by kernel_rfl)))
    have NB627_636 := asd (Q_NB627_636 (hon 8 (by kernel_rfl)))
    have NB636_627 := asd (Q_NB636_627 (hon 8 (by kernel_rfl)))
    have NB628_636 := asd (Q_NB628_636 (hon 8 (by kernel_rfl)))
    have NB636_628 := asd (Q_NB636_628 (hon 8 (by kernel_rfl)))
    have hs17 : w'.cell? ⟨gb635, 0, none⟩ = some (.int .i64 0) := bcl BK635 0
    have hfs17 := blk_frozen BK635.out 0
    have hns17_0 := NB627_635.out
    have hns17_1 := NB628_635.out
    have hns17_3 := NB636_635.out
    have hms17_0 := NB635_627.out
    have hms17_1 := NB635_628.out
    have hms17_3 := NB635_636.out
    have hs18 : w'.cell? ⟨gb635, 1, none⟩ = some (.int .i64 0) := bcl BK635 1
    have hfs18 := blk_frozen BK635.out 1
    have hns18_0 := NB627_635.out
    have hns18_1 := NB628_635.out
    have hns18_3 := NB636_635.out
    have hms18_0 := NB635_627.out
    have hms18_1 := NB635_628.out
    have hms18_3 := NB635_636.out
    refine skip_ (w1 := ?_) (by rfl) rfl ?_ ?_
    rotate_left
    ·go_simp
     rfl
    refine hK.out _ _ ⟨gb635, gb636, m7_, m8_, (by rw [ha.out]; exact putSel_none (v := undef) rfl), (bq1 BK627 NB627_635), (bq1 BK628 NB628_635), (bbw4 HB GE627 GE628 GE635 GE636), fun _ _ => NB636_635.out, fun _ _ => NB635_636.out, fun _ h1_ => absurd ((up_self b 9).symm.trans h1_) (by decide), fun _ => GW635.out, fun _ => GE635.out, fun _ => NB627_635.out, fun _ => NB635_627.out, fun _ => NB628_635.out, fun _ => NB635_628.out, fun _ _ => (bq1 BK636 NB636_635), fun _ => GW636.out, fun _ => GE636.out, fun _ => NB627_636.out, fun _ => NB636_627.out, fun _ => NB628_636.out, fun _ => NB636_628.out, fun _ => (bq0 BK635), fun h0_ => absurd ((hoff 10 (by kernel_rfl)).symm.trans h0_) (by decide), Q_X7_, Q_X8_⟩
   refine steps_cons ?_ ?_
   ·rintro b a w' ⟨gb635, gb636, m7_, m8_, ha, Q_BK627, Q_BK628, Q_HB, Q_NB636_635, Q_NB635_636, Q_BK635, Q_GW635, Q_GE635, Q_NB627_635, Q_NB635_627, Q_NB628_635, Q_NB635_628, Q_BK636, Q_GW636, Q_GE636, Q_NB627_636, Q_NB636_627, Q_NB628_636, Q_NB636_628, Q_BK635_e9, Q_BK636_e10, Q_X7_, Q_X8_⟩ hb_ hon hoff
    refine ⟨_, rfl, fun K hK => ?_⟩
    have e6 : a.tmps[6]? = some (m8_) := by rw [ha]; exact putSel_on (e := (8, 6, m8_)) 8 rfl rfl (hon 8 (by kernel_rfl)) rfl
    rw [Q_X8_ (hon 8 (by kernel_rfl))] at e6
    have e13 : a.tmps[13]? = some (.agg #[.int .i64 t633, .int .i64 t634]) := by rw [ha]; exact putSel_on (e := (6, 13, .agg #[.int .i64 t633, .int .i64 t634])) 6 rfl rfl (hon 6 (by kernel_rfl)) rfl
    replace ha := Aside0.mk ha
    have BK627 := Aside0.mk Q_BK627
    have BK628 := Aside0.mk Q_BK628
    have HB := Aside0.mk Q_HB
    have NB636_635 := asd (Q_NB636_635 (hon 7 (by kernel_rfl)) (hon 8 (by kernel_rfl)))
    have NB635_636 := asd (Q_NB635_636 (hon 7 (by kernel_rfl)) (hon 8 (by kernel_rfl)))
    have GW635 := asd (Q_GW635 (hon 7 (by kernel_rfl)))
    have GE635 := asd (Q_GE635 (hon 7 (by kernel_rfl)))
    have NB627_635 := asd (Q_NB627_635 (hon 7 (by kernel_rfl)))
    have NB635_627 := asd (Q_NB635_627 (hon 7 (by kernel_rfl)))
    have NB628_635 := asd (Q_NB628_635 (hon 7 (by kernel_rfl)))
    have NB635_628 := asd (Q_NB635_628 (hon 7 (by kernel_rfl)))
    have BK636 := asd (Q_BK636 (hon 8 (by kernel_rfl)) hb_)
    have GW636 := asd (Q_GW636 (hon 8 (by kernel_rfl)))
    have GE636 := asd (Q_GE636 (hon 8 (by kernel_rfl)))
    have NB627_636 := asd (Q_NB627_636 (hon 8 (by kernel_rfl)))
    have NB636_627 := asd (Q_NB636_627 (hon 8 (by kernel_rfl)))
    have NB628_636 := asd (Q_NB628_636 (hon 8 (by kernel_rfl)))
    have NB636_628 := asd (Q_NB636_628 (hon 8 (by kernel_rfl)))
    have BK635 := asd (Q_BK635_e9 (hon 9 (by kernel_rfl)))
    have hs19 : w'.cell? ⟨gb636, 0, none⟩ = some (.int .i64 0) := bcl BK636 0
    have hfs19 := blk_frozen BK636.out 0
    have hns19_0 := NB627_636.out
    have hns19_1 := NB628_636.out
    have hns19_2 := NB635_636.out
    have hms19_0 := NB636_627.out
    have hms19_1 := NB636_628.out
    have hms19_2 := NB636_635.out
    have hs20 : w'.cell? ⟨gb636, 1, none⟩ = some (.int .i64 0) := bcl BK636 1
    have hfs20 := blk_frozen BK636.out 1
    have hns20_0 := NB627_636.out
    have hns20_1 := NB628_636.out
    have hns20_2 := NB635_636.out
    have hms20_0 := NB636_627.out
    have hms20_1 := NB636_628.out
    have hms20_2 := NB636_635.out
    refine skip_ (w1 := ?_) (by rfl) rfl ?_ ?_
    rotate_left
    ·go_simp
     rfl
    refine hK.out _ _ ⟨gb635, gb636, m7_, m8_, (by rw [ha.out]; exact putSel_none (v := undef) rfl), (bq1 BK627 NB627_636), (bq1 BK628 NB628_636), (bbw4 HB GE627 GE628 GE635 GE636), fun _ _ => NB636_635.out, fun _ _ => NB635_636.out, fun _ h1_ => absurd ((hon 9 (by kernel_rfl)).symm.trans h1_) (by decide), fun _ => GW635.out, fun _ => GE635.out, fun _ => NB627_635.out, fun _ => NB635_627.out, fun _ => NB628_635.out, fun _ => NB635_628.out, fun _ h1_ => absurd ((up_self b 10).symm.trans h1_) (by decide), fun _ => GW636.out, fun _ => GE636.out, fun _ => NB627_636.out, fun _ => NB636_627.out, fun _ => NB628_636.out, fun _ => NB636_628.out, fun _ => (bq1 BK635 NB635_636), fun _ => (bq0 BK636), Q_X7_, Q_X8_⟩
   exact steps_nil
  rintro b a w20 hall ⟨gb635, gb636, m7_, m8_, ha, Q_BK627, Q_BK628, Q_HB, Q_NB636_635, Q_NB635_636, Q_BK635, Q_GW635, Q_GE635, Q_NB627_635, Q_NB635_627, Q_NB628_635, Q_NB635_628, Q_BK636, Q_GW636, Q_GE636, Q_NB627_636, Q_NB636_627, Q_NB628_636, Q_NB636_628, Q_BK635_e9, Q_BK636_e10, Q_X7_, Q_X8_⟩
  clear BK627 BK628 HB
  have hb0_ := hall 0 (by kernel_rfl)
  have hb1_ := hall 1 (by kernel_rfl)
  have hb2_ := hall 2 (by kernel_rfl)
  have hb3_ := hall 3 (by kernel_rfl)
  have hb4_ := hall 4 (by kernel_rfl)
  have hb5_ := hall 5 (by kernel_rfl)
  have hb6_ := hall 6 (by kernel_rfl)
  have hb7_ := hall 7 (by kernel_rfl)
  have hb8_ := hall 8 (by kernel_rfl)
  have hb9_ := hall 9 (by kernel_rfl)
  have hb10_ := hall 10 (by kernel_rfl)
  subst ha
  obtain rfl := Q_X7_ hb7_
  obtain rfl := Q_X8_ hb8_
  simp only [putSel, hb0_, hb1_, hb2_, hb3_, hb4_, hb5_, hb6_, hb7_, hb8_, hb9_, hb10_, if_true, Act.put, sA, sB, sC]
  have BK627 := Aside0.mk Q_BK627
  clear Q_BK627
  have BK628 := Aside0.mk Q_BK628
  clear Q_BK628
  have HB := Aside0.mk Q_HB
  clear Q_HB
  have NB636_635 := asd (Q_NB636_635 hb7_ hb8_)
  clear Q_NB636_635
  have NB635_636 := asd (Q_NB635_636 hb7_ hb8_)
  clear Q_NB635_636
  clear Q_BK635
  have GW635 := asd (Q_GW635 hb7_)
  clear Q_GW635
  have GE635 := asd (Q_GE635 hb7_)
  clear Q_GE635
  have NB627_635 := asd (Q_NB627_635 hb7_)
  clear Q_NB627_635
  have NB635_627 := asd (Q_NB635_627 hb7_)
  clear Q_NB635_627
  have NB628_635 := asd (Q_NB628_635 hb7_)
  clear Q_NB628_635
  have NB635_628 := asd (Q_NB635_628 hb7_)
  clear Q_NB635_628
  clear Q_BK636
  have GW636 := asd (Q_GW636 hb8_)
  clear Q_GW636
  have GE636 := asd (Q_GE636 hb8_)
  clear Q_GE636
  have NB627_636 := asd (Q_NB627_636 hb8_)
  clear Q_NB627_636
  have NB636_627 := asd (Q_NB636_627 hb8_)
  clear Q_NB636_627
  have NB628_636 := asd (Q_NB628_636 hb8_)
  clear Q_NB628_636
  have NB636_628 := asd (Q_NB636_628 hb8_)
  clear Q_NB636_628
  have BK635 := asd (Q_BK635_e9 hb9_)
  clear Q_BK635_e9
  have BK636 := asd (Q_BK636_e10 hb10_)
  clear Q_BK636_e10
  clear hall hb0_ hb1_ hb2_ hb3_ hb4_ hb5_ hb6_ hb7_ hb8_ hb9_ hb10_
  have hnb21 := NB636_627.out
  have hnc21 := NB627_636.out
  have hnb22 := NB636_628.out
  have hnc22 := NB628_636.out
  have hnb23 := NB636_635.out
  have hnc23 := NB635_636.out
  obtain ⟨hcz24_0, hcz24_1, hfz24_0, hfz24_1⟩ := bz2 BK636
  have hnb25 := NB635_627.out
  have hnc25 := NB627_635.out
  have hnb26 := NB635_628.out
  have hnc26 := NB628_635.out
  obtain ⟨hcz27_0, hcz27_1, hfz27_0, hfz27_1⟩ := bz2 BK635
  try go_wp2
  go_ret
  exact er (bbw4 HB GE627 GE628 GE635 GE636)
/-! ### impl_Lattice_mayReflect: function 31 -/
def impl_Lattice_mayReflect.f (k : Nat) (a0_0 : Int) (a0_1 : Int) (a0_2 : Int) (a1_0 : Int) (a1_1 : Int) (a1_2 : Int) (a1_3 : Int) (a1_4 : Int) (a1_5 : Int) : Option (Bool) := (impl_Mat_isReflection.f k a1_0 a1_1 a1_2 a1_3).bind fun t639 => (if t639 = true then ((impl_Lattice_basis.f a0_0 a0_1 a0_2).bind fun bt640 => ((impl_alongAxis.f k a1_0 a1_1 a1_2 a1_3 a1_4 a1_5).bind fun t646 => ((impl_alongAxis.f k a1_0 a1_1 a1_2 a1_3 bt640.1 bt640.2.1).bind fun t647 => ((impl_alongAxis.f k a1_0 a1_1 a1_2 a1_3 bt640.2.2.1 bt640.2.2.2).bind fun t648 => ((impl_gcd.f k t647 t648).bind fun t649 => (if t649 = 0 then (none) else (some ((Int.tmod t646 t649) == 0)))))))) else (some false))
def impl_Lattice_mayReflect.T4 : Bool × List (List Nat × List Nat) := (true, [([], []), ([0], [0]), ([], []), ([2], [2]), ([1, 3], [1, 3]), ([], []), ([5], [5]), ([], []), ([6, 7, 4], [6, 7]), ([], []), ([9], [9]), ([], []), ([10, 11, 8], [10, 11]), ([8, 12, 12], [8, 12]), ([4, 13], [4, 13]), ([14], [14]), ([15, 13, 0, 1, 2, 3, 4, 5, 6, 7, 8, 9, 10, 11, 12, 13, 14, 15], [15])])
def impl_Lattice_mayReflect.B4 : List Nat := [0, 1, 0, 4, 15, 0, 32, 0, 255, 0, 512, 0, 4095, 8191, 16383, 32767, 65535]
theorem impl_Lattice_mayReflect.tab4 : rtab .any (opsOf Tryz.f31 4) = impl_Lattice_mayReflect.T4 := by kernel_rfl
theorem impl_Lattice_mayReflect.bits4 : waitsOk impl_Lattice_mayReflect.T4.2 impl_Lattice_mayReflect.B4 = true := by kernel_rfl
set_option maxHeartbeats 8000000 in
set_option maxRecDepth 100000 in
theorem impl_Lattice_mayReflect.calls (k : Nat) (a0_0 : Int) (a0_1 : Int) (a0_2 : Int) (a1_0 : Int) (a1_1 : Int) (a1_2 : Int) (a1_3 : Int) (a1_4 : Int) (a1_5 : Int) (r : Bool) (w : World) (h : impl_Lattice_mayReflect.f k a0_0 a0_1 a0_2 a1_0 a1_1 a1_2 a1_3 a1_4 a1_5 = some r) :
  Calls Tryz.prog 31 #[.agg #[.int .i64 a0_0, .int .i64 a0_1, .int .i64 a0_2], .agg #[.int .i64 a1_0, .int .i64 a1_1, .int .i64 a1_2, .int .i64 a1_3, .int .i64 a1_4, .int .i64 a1_5]] w fun e w' => e = .returned (.bool r) ∧ Below w.heap.size w w' := by
 have hu25 := Tryz.underlying25
 have hu37 := Tryz.underlying37
 have hu27 := Tryz.underlying27
 have hu31 := Tryz.underlying31
 have HB := asd (Below.refl w.heap.size w)
 have H : ((impl_Mat_isReflection.f k a1_0 a1_1 a1_2 a1_3).bind fun t639 => (if t639 = true then ((impl_Lattice_basis.f a0_0 a0_1 a0_2).bind fun bt640 => ((impl_alongAxis.f k a1_0 a1_1 a1_2 a1_3 a1_4 a1_5).bind fun t646 => ((impl_alongAxis.f k a1_0 a1_1 a1_2 a1_3 bt640.1 bt640.2.1).bind fun t647 => ((impl_alongAxis.f k a1_0 a1_1 a1_2 a1_3 bt640.2.2.1 bt640.2.2.2).bind fun t648 => ((impl_gcd.f k t647 t648).bind fun t649 => (if t649 = 0 then (none) else (some ((Int.tmod t646 t649) == 0)))))))) else (some false))) = some r := h
 clear h
 obtain ⟨t639, A3, H⟩ := ob H
 try dsimp only at H
 by_cases c4 : t639 = true
 ·subst c4
  replace H := ifT H
  obtain ⟨⟨t640, t641, t642, t643⟩, A5, H⟩ := ob H
  try dsimp only at H
  obtain ⟨t646, A6, H⟩ := ob H
  try dsimp only at H
  obtain ⟨t647, A7, H⟩ := ob H
  try dsimp only at H
  obtain ⟨t648, A8, H⟩ := ob H
  try dsimp only at H
  obtain ⟨t649, A9, H⟩ := ob H
  try dsimp only at H
  by_cases c10 : t649 = 0
  ·rw [if_pos c10] at H
   exact absurd H (by simp)
  ·rw [if_neg c10] at H
   have c10b0 : (t649 == 0) = false := beq_eq_false_iff_ne.mpr c10
   have c10b1 : (t649 != 0) = true := bne_iff_ne.mpr c10
   obtain rfl := Option.some.inj H
   go_enter Tryz.func31, Tryz.ntmps31
   try go_wp2_with (first | ((with_reducible refine gd 2 rfl ?_); refine bx #[.int .i64 a0_0, .int .i64 a0_1, .int .i64 a0_2] 25 ?_; intro gb637 hg w11 BK637 hb; have GE637 := ngw0 hg HB; replace HB := bS0 HB hb; clear hb hg) | ((with_reducible refine gd 3 rfl ?_); refine bx #[.int .i64 a1_0, .int .i64 a1_1, .int .i64 a1_2, .int .i64 a1_3, .int .i64 a1_4, .int .i64 a1_5] 37 ?_; intro gb638 hg w12 BK638 hb; have GE638 := ngw1 hg HB GE637; replace HB := bS1 HB GE637 hb; have NB637_638 := nlt hg BK637; have NB638_637 := nsy (nlt hg BK637); replace BK637 := bB BK637 hb; clear hb hg; have hnb13 := NB638_637.out; have hnc13 := NB637_638.out; obtain ⟨hcz14_0, hcz14_1, hcz14_2, hcz14_3, hcz14_4, hcz14_5, hfz14_0, hfz14_1, hfz14_2, hfz14_3, hfz14_4, hfz14_5⟩ := bz6 BK638) | ((with_reducible refine gate_callee (f := 49) rfl ?_); refine gl 9 Tryz.func49 #[.agg #[.int .i64 a1_0, .int .i64 a1_1, .int .i64 a1_2, .int .i64 a1_3]] ?_; (with_reducible refine (impl_Mat_isReflection.calls _ _ _ _ _ _ _ A3.out).mono ?_); rintro e w15 ⟨rfl, hb⟩; refine ⟨_, rfl, ?_⟩; replace BK637 := bB BK637 hb; replace BK638 := bB BK638 hb; replace HB := bS2 HB GE637 GE638 hb; (try clear hb); obtain ⟨hcz16_0, hcz16_1, hcz16_2, hfz16_0, hfz16_1, hfz16_2⟩ := bz3 BK637) | ((with_reducible refine gate_callee (f := 63) rfl ?_); refine gl 13 Tryz.func63 #[.agg #[.int .i64 a0_0, .int .i64 a0_1, .int .i64 a0_2]] ?_; (with_reducible refine (impl_Lattice_basis.calls _ _ _ _ _ _ _ _ A5.out).mono ?_); rintro e w17 ⟨rfl, hb⟩; refine ⟨_, rfl, ?_⟩; replace BK637 := bB BK637 hb; replace BK638 := bB BK638 hb; replace HB := bS2 HB GE637 GE638 hb; (try clear hb)) | ((with_reducible refine gd 5 rfl ?_); refine bx #[.int .i64 0, .int .i64 0] 31 ?_; intro gb644 hg w18 BK644 hb; have GE644 := ngw2 hg HB GE637 GE638; replace HB := bS2 HB GE637 GE638 hb; have NB637_644 := nlt hg BK637; have NB644_637 := nsy (nlt hg BK637); replace BK637 := bB BK637 hb; have NB638_644 := nlt hg BK638; have NB644_638 := nsy (nlt hg BK638); replace BK638 := bB BK638 hb; clear hb hg) | ((with_reducible refine gd 6 rfl ?_); refine bx #[.int .i64 0, .int .i64 0] 31 ?_; intro gb645 hg w19 BK645 hb; have GE645 := ngw3 hg HB GE637 GE638 GE644; replace HB := bS3 HB GE637 GE638 GE644 hb; have NB637_645 := nlt hg BK637; have NB645_637 := nsy (nlt hg BK637); replace BK637 := bB BK637 hb; have NB638_645 := nlt hg BK638; have NB645_638 := nsy (nlt hg BK638); replace BK638 := bB BK638 hb; have NB644_645 := nlt hg BK644; have NB645_644 := nsy (nlt hg BK644); replace BK644 := bB BK644 hb; clear hb hg; have hnb20 := NB644_637.out; have hnc20 := NB637_644.out; have hnb21 := NB644_638.out; have hnc21 := NB638_644.out; have hnb22 := NB644_645.out; have hnc22 := NB645_644.out; obtain ⟨hcz23_0, hcz23_1, hfz23_0, hfz23_1⟩ := bz2 BK644; have hnb24 := NB645_637.out; have hnc24 := NB637_645.out; have hnb25 := NB645_638.out; have hnc25 := NB638_645.out; obtain ⟨hcz26_0, hcz26_1, hfz26_0, hfz26_1⟩ := bz2 BK645))
   obtain ⟨w27, h_w27⟩ : ∃ w_, ((((w19.setCell ⟨gb644, 0, none⟩ (.int .i64 t640)).setCell ⟨gb644, 1, none⟩ (.int .i64 t641)).setCell ⟨gb645, 0, none⟩ (.int .i64 t642)).setCell ⟨gb645, 1, none⟩ (.int .i64 t643)) = w_ := ⟨_, rfl⟩
   replace BK637 : Aside0 (w27.heap[gb637]? = some (.cells #[.int .i64 a0_0, .int .i64 a0_1, .int .i64 a0_2] 25 (0, 0))) := by rw [← h_w27]; exact ⟨bq2 BK637 NB637_645 NB637_644⟩
   replace BK638 : Aside0 (w27.heap[gb638]? = some (.cells #[.int .i64 a1_0, .int .i64 a1_1, .int .i64 a1_2, .int .i64 a1_3, .int .i64 a1_4, .int .i64 a1_5] 37 (0, 0))) := by rw [← h_w27]; exact ⟨bq2 BK638 NB638_645 NB638_644⟩
   replace BK644 : Aside0 (w27.heap[gb644]? = some (.cells #[.int .i64 t640, .int .i64 t641] 31 (0, 0))) := by rw [← h_w27]; exact ⟨bq1 BK644 NB644_645⟩
   replace BK645 : Aside0 (w27.heap[gb645]? = some (.cells #[.int .i64 t642, .int .i64 t643] 31 (0, 0))) := by rw [← h_w27]; exact ⟨bq1 BK645 NB645_644⟩
   replace HB : Aside0 (Below w.heap.size w w27) := by rw [← h_w27]; exact ⟨bbw4 HB GE637 GE638 GE644 GE645⟩
   (try rw [h_w27]); clear h_w27
   replace BK637 := asd (blk_drew BK637.out)
   replace BK638 := asd (blk_drew BK638.out)
   replace BK644 := asd (blk_drew BK644.out)
   replace BK645 := asd (blk_drew BK645.out)
   replace HB := asd (below_drew1 HB.out)
   refine sh 17 (cb6 BK638 (cb2 BK644 (eb2 BK645))) (fun hHeld => ?_); refine with_tabW impl_Lattice_mayReflect.tab4 impl_Lattice_mayReflect.bits4 (fun HT_ HW_ => ?_)
   generalize w27.drew = w28 at BK637 BK638 BK644 BK645 HB hHeld ⊢
   refine pu 0 (some 16) (bT 17 1) HT_ ?_
   refine pu 2 (some 18) (bs 17 5) HT_ ?_
   refine pu 5 (some 21) (bs 17 37) HT_ ?_
   refine pu 9 (some 25) (bs 17 549) HT_ ?_
   refine ta 1 (some 17) (bs 17 551) HT_ HW_ hHeld ?_
   refine ta 3 (some 19) (bs 17 559) HT_ HW_ hHeld ?_
   refine ta 6 (some 22) (bs 17 623) HT_ HW_ hHeld ?_
   refine ta 7 (some 23) (bs 17 751) HT_ HW_ hHeld ?_
   refine ta 10 (some 26) (bs 17 1775) HT_ HW_ hHeld ?_
   refine ta 11 (some 27) (bs 17 3823) HT_ HW_ hHeld ?_
   refine ro 4 (some 20) (bs 17 3839) HT_ (fun K hK => ?_)
   refine gs Tryz.func64 #[.agg #[.int .i64 a1_0, .int .i64 a1_1, .int .i64 a1_2, .int .i64 a1_3], .agg #[.int .i64 a1_4, .int .i64 a1_5]] ?_
   with_reducible refine (impl_alongAxis.calls _ _ _ _ _ _ _ _ _ A6.out).mono ?_
   rintro e w29 ⟨rfl, hb⟩
   refine ⟨_, rfl, ?_⟩
   replace BK637 := bB BK637 hb
   replace BK638 := bB BK638 hb
   replace BK644 := bB BK644 hb
   replace BK645 := bB BK645 hb
   replace HB := bS4 HB GE637 GE638 GE644 GE645 hb
   (try clear hb)
   (try clear hb2)
   (try clear hk)
   (try clear hi)
   refine hK.out _ _ (cb6 BK638 (cb2 BK644 (eb2 BK645))).out (fun hHeld => ?_)
   clear hK K
   refine norm_ (a' := ?_) ?_ ?_
   rotate_left
   ·show Act.put _ (some 20) _ = _
    simp only [Act.put, sA, sB, sC, i64_w, i32_w]
    rfl
   refine ro 8 (some 24) (bT 17 12) HT_ (fun K hK => ?_)
   refine gs Tryz.func64 #[.agg #[.int .i64 a1_0, .int .i64 a1_1, .int .i64 a1_2, .int .i64 a1_3], .agg #[.int .i64 t640, .int .i64 t641]] ?_
   with_reducible refine (impl_alongAxis.calls _ _ _ _ _ _ _ _ _ A7.out).mono ?_
   rintro e w30 ⟨rfl, hb⟩
   refine ⟨_, rfl, ?_⟩
   replace BK637 := bB BK637 hb
   replace BK638 := bB BK638 hb
   replace BK644 := bB BK644 hb
   replace BK645 := bB BK645 hb
   replace HB := bS4 HB GE637 GE638 GE644 GE645 hb
   (try clear hb)
   (try clear hb2)
   (try clear hk)
   (try clear hi)
   refine hK.out _ _ (cb6 BK638 (cb2 BK644 (eb2 BK645))).out (fun hHeld => ?_)
   clear hK K
   refine norm_ (a' := ?_) ?_ ?_
   rotate_left
   ·show Act.put _ (some 24) _ = _
    simp only [Act.put, sA, sB, sC, i64_w, i32_w]
    rfl
   refine ro 12 (some 28) (bT 17 13) HT_ (fun K hK => ?_)
   refine gs Tryz.func64 #[.agg #[.int .i64 a1_0, .int .i64 a1_1, .int .i64 a1_2, .int .i64 a1_3], .agg #[.int .i64 t642, .int .i64 t643]] ?_
   with_reducible refine (impl_alongAxis.calls _ _ _ _ _ _ _ _ _ A8.out).mono ?_
   rintro e w31 ⟨rfl, hb⟩
   refine ⟨_, rfl, ?_⟩
   replace BK637 := bB BK637 hb
   replace BK638 := bB BK638 hb
   replace BK644 := bB BK644 hb
   replace BK645 := bB BK645 hb
   replace HB := bS4 HB GE637 GE638 GE644 GE645 hb
   (try clear hb)
   (try clear hb2)
   (try clear hk)
   (try clear hi)
   refine hK.out _ _ (cb6 BK638 (cb2 BK644 (eb2 BK645))).out (fun hHeld => ?_)
   clear hK K
   refine norm_ (a' := ?_) ?_ ?_
   rotate_left
   ·show Act.put _ (some 28) _ = _
    simp only [Act.put, sA, sB, sC, i64_w, i32_w]
    rfl
   refine ro 13 (some 29) (bT 17 14) HT_ (fun K hK => ?_)
   refine gs Tryz.func65 #[.int .i64 t647, .int .i64 t648] ?_
   with_reducible refine (impl_gcd.calls _ _ _ _ _ A9.out).mono ?_
   rintro e w32 ⟨rfl, hb⟩
   refine ⟨_, rfl, ?_⟩
   replace BK637 := bB BK637 hb
   replace BK638 := bB BK638 hb
   replace BK644 := bB BK644 hb
   replace BK645 := bB BK645 hb
   replace HB := bS4 HB GE637 GE638 GE644 GE645 hb
   (try clear hb)
   (try clear hb2)
   (try clear hk)
   (try clear hi)
   refine hK.out _ _ (cb6 BK638 (cb2 BK644 (eb2 BK645))).out (fun hHeld => ?_)
   clear hK K
   refine norm_ (a' := ?_) ?_ ?_
   rotate_left
   ·show Act.put _ (some 29) _ = _
    simp only [Act.put, sA, sB, sC, i64_w, i32_w]
    rfl
   refine pu 14 (some 30) (bT 17 15) HT_ ?_
   refine pu 15 (some 31) (bT 17 16) HT_ ?_
   refine pu 16 (some 4) (bT 17 17) HT_ ?_
   refine done_ (done_of HT_.out (by kernel_rfl)) ?_
   try go_wp2
   go_ret
   exact er (bbw4 HB GE637 GE638 GE644 GE645)
 ·replace c4 := Bool.eq_false_iff.mpr c4
  subst c4
  replace H := ifF H
  obtain rfl := Option.some.inj H
  go_enter Tryz.func31, Tryz.ntmps31
  go_wp2_with (first | ((with_reducible refine gd 2 rfl ?_); refine bx #[.int .i64 a0_0, .int .i64 a0_1, .int .i64 a0_2] 25 ?_; intro gb637 hg w33 BK637 hb; have GE637 := ngw0 hg HB; replace HB := bS0 HB hb; clear hb hg) | ((with_reducible refine gd 3 rfl ?_); refine bx #[.int .i64 a1_0, .int .i64 a1_1, .int .i64 a1_2, .int .i64 a1_3, .int .i64 a1_4, .int .i64 a1_5] 37 ?_; intro gb638 hg w34 BK638 hb; have GE638 := ngw1 hg HB GE637; replace HB := bS1 HB GE637 hb; have NB637_638 := nlt hg BK637; have NB638_637 := nsy (nlt hg BK637); replace BK637 := bB BK637 hb; clear hb hg; have hnb35 := NB638_637.out; have hnc35 := NB637_638.out; obtain ⟨hcz36_0, hcz36_1, hcz36_2, hcz36_3, hcz36_4, hcz36_5, hfz36_0, hfz36_1, hfz36_2, hfz36_3, hfz36_4, hfz36_5⟩ := bz6 BK638) | ((with_reducible refine gate_callee (f := 49) rfl ?_); refine gl 9 Tryz.func49 #[.agg #[.int .i64 a1_0, .int .i64 a1_1, .int .i64 a1_2, .int .i64 a1_3]] ?_; (with_reducible refine (impl_Mat_isReflection.calls _ _ _ _ _ _ _ A3.out).mono ?_); rintro e w37 ⟨rfl, hb⟩; refine ⟨_, rfl, ?_⟩; replace BK637 := bB BK637 hb; replace BK638 := bB BK638 hb; replace HB := bS2 HB GE637 GE638 hb; (try clear hb)))
  go_ret
  exact er (bbw2 HB GE637 GE638)
/-! ### impl_MayReflect: function 11 -/
def impl_MayReflect.f (k : Nat) (a0 : Int) (a1_0 : Int) (a1_1 : Int) (a1_2 : Int) (a2_0 : Int) (a2_1 : Int) (a2_2 : Int) (a2_3 : Int) (a2_4 : Int) (a2_5 : Int) : Option (Bool × Int) := (impl_frameCode.f a0 a1_0 a1_1 a1_2).bind fun t652 => (if t652 = 0 then ((impl_isSuitable.f k a0 a1_0 a1_1 a1_2 a2_0 a2_1 a2_2 a2_3 a2_4 a2_5).bind fun t653 => (if t653 = true then ((impl_Lattice_mayReflect.f k a1_0 a1_1 a1_2 a2_0 a2_1 a2_2 a2_3 a2_4 a2_5).bind fun t654 => (some (t654, 0))) else (some (false, 2)))) else (some (false, t652)))
set_option maxHeartbeats 8000000 in
set_option maxRecDepth 100000 in
theorem impl_MayReflect.calls (k : Nat) (a0 : Int) (a1_0 : Int) (a1_1 : Int) (a1_2 : Int) (a2_0 : Int) (a2_1 : Int) (a2_2 : Int) (a2_3 : Int) (a2_4 : Int) (a2_5 : Int) (r1 : Bool) (r2 : Int) (w : World) (h : impl_MayReflect.f k a0 a1_0 a1_1 a1_2 a2_0 a2_1 a2_2 a2_3 a2_4 a2_5 = some (r1, r2)) :
  Calls Tryz.prog 11 #[.int .i64 a0, .agg #[.int .i64 a1_0, .int .i64 a1_1, .int .i64 a1_2], .agg #[.int .i64 a2_0, .int .i64 a2_1, .int .i64 a2_2, .int .i64 a2_3, .int .i64 a2_4, .int .i64 a2_5]] w fun e w' => e = .returned (.tuple #[.bool r1, .int .i64 r2]) ∧ Below w.heap.size w w' := by
 have hu25 := Tryz.underlying25
 have hu37 := Tryz.underlying37
 have HB := asd (Below.refl w.heap.size w)
 have H : ((impl_frameCode.f a0 a1_0 a1_1 a1_2).bind fun t652 => (if t652 = 0 then ((impl_isSuitable.f k a0 a1_0 a1_1 a1_2 a2_0 a2_1 a2_2 a2_3 a2_4 a2_5).bind fun t653 => (if t653 = true then ((impl_Lattice_mayReflect.f k a1_0 a1_1 a1_2 a2_0 a2_1 a2_2 a2_3 a2_4 a2_5).bind fun t654 => (some (t654, 0))) else (some (false, 2)))) else (some (false, t652)))) = some (r1, r2) := h
 clear h
 obtain ⟨t652, A4, H⟩ := ob H
 try dsimp only at H
 by_cases c5 : t652 = 0
 rw [if_pos c5] at H
 have c5b0 : (t652 == 0) = true := beq_iff_eq.mpr c5
 have c5b1 : (t652 != 0) = false := bne_eq_false_iff_eq.mpr c5
 clear c5
 obtain ⟨t653, A6, H⟩ := ob H
 try dsimp only at H
 by_cases c7 : t653 = true
 subst c7
 replace H := ifT H
 obtain ⟨t654, A8, H⟩ := ob H
 try dsimp only at H
 rotate_left
 replace c7 := Bool.eq_false_iff.mpr c7
 subst c7
 replace H := ifF H
 rotate_left
 rw [if_neg c5] at H
 have c5b0 : (t652 == 0) = false := beq_eq_false_iff_ne.mpr c5
 have c5b1 : (t652 != 0) = true := bne_iff_ne.mpr c5
 rotate_left
 all_goals
  simp only [Option.some.injEq, Prod.mk.injEq] at H
  obtain ⟨rfl, rfl⟩ := H
  go_enter Tryz.func11, Tryz.ntmps11
 go_wp2_with (first | ((with_reducible refine gd 4 rfl ?_); refine bx #[.int .i64 a1_0, .int .i64 a1_1, .int .i64 a1_2] 25 ?_; intro gb650 hg w9 BK650 hb; have GE650 := ngw0 hg HB; replace HB := bS0 HB hb; clear hb hg) | ((with_reducible refine gd 5 rfl ?_); refine bx #[.int .i64 a2_0, .int .i64 a2_1, .int .i64 a2_2, .int .i64 a2_3, .int .i64 a2_4, .int .i64 a2_5] 37 ?_; intro gb651 hg w10 BK651 hb; have GE651 := ngw1 hg HB GE650; replace HB := bS1 HB GE650 hb; have NB650_651 := nlt hg BK650; have NB651_650 := nsy (nlt hg BK650); replace BK650 := bB BK650 hb; clear hb hg; have hnb11 := NB650_651.out; have hnc11 := NB651_650.out; obtain ⟨hcz12_0, hcz12_1, hcz12_2, hfz12_0, hfz12_1, hfz12_2⟩ := bz3 BK650) | ((with_reducible refine gate_callee (f := 29) rfl ?_); refine gl 11 Tryz.func29 #[.int .i64 a0, .agg #[.int .i64 a1_0, .int .i64 a1_1, .int .i64 a1_2]] ?_; (with_reducible refine (impl_frameCode.calls _ _ _ _ _ _ A4.out).mono ?_); rintro e w13 ⟨rfl, hb⟩; refine ⟨_, rfl, ?_⟩; replace BK650 := bB BK650 hb; replace BK651 := bB BK651 hb; replace HB := bS2 HB GE650 GE651 hb; (try clear hb); obtain ⟨hcz14_0, hcz14_1, hcz14_2, hfz14_0, hfz14_1, hfz14_2⟩ := bz3 BK650; obtain ⟨hcz15_0, hcz15_1, hcz15_2, hcz15_3, hcz15_4, hcz15_5, hfz15_0, hfz15_1, hfz15_2, hfz15_3, hfz15_4, hfz15_5⟩ := bz6 BK651) | ((with_reducible refine gate_callee (f := 30) rfl ?_); refine gl 18 Tryz.func30 #[.int .i64 a0, .agg #[.int .i64 a1_0, .int .i64 a1_1, .int .i64 a1_2], .agg #[.int .i64 a2_0, .int .i64 a2_1, .int .i64 a2_2, .int .i64 a2_3, .int .i64 a2_4, .int .i64 a2_5]] ?_; (with_reducible refine (impl_isSuitable.calls _ _ _ _ _ _ _ _ _ _ _ _ _ A6.out).mono ?_); rintro e w16 ⟨rfl, hb⟩; refine ⟨_, rfl, ?_⟩; replace BK650 := bB BK650 hb; replace BK651 := bB BK651 hb; replace HB := bS2 HB GE650 GE651 hb; (try clear hb); obtain ⟨hcz17_0, hcz17_1, hcz17_2, hfz17_0, hfz17_1, hfz17_2⟩ := bz3 BK650; obtain ⟨hcz18_0, hcz18_1, hcz18_2, hcz18_3, hcz18_4, hcz18_5, hfz18_0, hfz18_1, hfz18_2, hfz18_3, hfz18_4, hfz18_5⟩ := bz6 BK651) | ((with_reducible refine gate_callee (f := 31) rfl ?_); refine gl 22 Tryz.func31 #[.agg #[.int .i64 a1_0, .int .i64 a1_1, .int .i64 a1_2], .agg #[.int .i64 a2_0, .int .i64 a2_1, .int .i64 a2_2, .int .i64 a2_3, .int .i64 a2_4, .int .i64 a2_5]] ?_; (with_reducible refine (impl_Lattice_mayReflect.calls _ _ _ _ _ _ _ _ _ _ _ _ A8.out).mono ?_); rintro e w19 ⟨rfl, hb⟩; refine ⟨_, rfl, ?_⟩; replace BK650 := bB BK650 hb; replace BK651 := bB BK651 hb; replace HB := bS2 HB GE650 GE651 hb; (try clear hb)))
 rotate_left
 go_wp2_with (first | ((with_reducible refine gd 4 rfl ?_); refine bx #[.int .i64 a1_0, .int .i64 a1_1, .int .i64 a1_2] 25 ?_; intro gb650 hg w20 BK650 hb; have GE650 := ngw0 hg HB; replace HB := bS0 HB hb; clear hb hg) | ((with_reducible refine gd 5 rfl ?_); refine bx #[.int .i64 a2_0, .int .i64 a2_1, .int .i64 a2_2, .int .i64 a2_3, .int .i64 a2_4, .int .i64 a2_5] 37 ?_; intro gb651 hg w21 BK651 hb; have GE651 := ngw1 hg HB GE650; replace HB := bS1 HB GE650 hb; have NB650_651 := nlt hg BK650; have NB651_650 := nsy (nlt hg BK650); replace BK650 := bB BK650 hb; clear hb hg; have hnb22 := NB650_651.out; have hnc22 := NB651_650.out; obtain ⟨hcz23_0, hcz23_1, hcz23_2, hfz23_0, hfz23_1, hfz23_2⟩ := bz3 BK650) | ((with_reducible refine gate_callee (f := 29) rfl ?_); refine gl 11 Tryz.func29 #[.int .i64 a0, .agg #[.int .i64 a1_0, .int .i64 a1_1, .int .i64 a1_2]] ?_; (with_reducible refine (impl_frameCode.calls _ _ _ _ _ _ A4.out).mono ?_); rintro e w24 ⟨rfl, hb⟩; refine ⟨_, rfl, ?_⟩; replace BK650 := bB BK650 hb; replace BK651 := bB BK651 hb; replace HB := bS2 HB GE650 GE651 hb; (try clear hb); obtain ⟨hcz25_0, hcz25_1, hcz25_2, hfz25_0, hfz25_1, hfz25_2⟩ := bz3 BK650; obtain ⟨hcz26_0, hcz26_1, hcz26_2, hcz26_3, hcz26_4, hcz26_5, hfz26_0, hfz26_1, hfz26_2, hfz26_3, hfz26_4, hfz26_5⟩ := bz6 BK651) | ((with_reducible refine gate_callee (f := 30) rfl ?_); refine gl 18 Tryz.func30 #[.int .i64 a0, .agg #[.int .i64 a1_0, .int .i64 a1_1, .int .i64 a1_2], .agg #[.int .i64 a2_0, .int .i64 a2_1, .int .i64 a2_2, .int .i64 a2_3, .int .i64 a2_4, .int .i64 a2_5]] ?_; (with_reducible refine (impl_isSuitable.calls _ _ _ _ _ _ _ _ _ _ _ _ _ A6.out).mono ?_); rintro e w27 ⟨rfl, hb⟩; refine ⟨_, rfl, ?_⟩; replace BK650 := bB BK650 hb; replace BK651 := bB BK651 hb; replace HB := bS2 HB GE650 GE651 hb; (try clear hb)))
 rotate_left
 go_wp2_with (first | ((with_reducible refine gd 4 rfl ?_); refine bx #[.int .i64 a1_0, .int .i64 a1_1, .int .i64 a1_2] 25 ?_; intro gb650 hg w28 BK650 hb; have GE650 := ngw0 hg HB; replace HB := bS0 HB hb; clear hb hg) | ((with_reducible refine gd 5 rfl ?_); refine bx #[.int .i64 a2_0, .int .i64 a2_1, .int .i64 a2_2, .int .i64 a2_3, .int .i64 a2_4, .int .i64 a2_5] 37 ?_; intro gb651 hg w29 BK651 hb; have GE651 := ngw1 hg HB GE650; replace HB := bS1 HB GE650 hb; have NB650_651 := nlt hg BK650; have NB651_650 := nsy (nlt hg BK650); replace BK650 := bB BK650 hb; clear hb hg; have hnb30 := NB650_651.out; have hnc30 := NB651_650.out; obtain ⟨hcz31_0, hcz31_1, hcz31_2, hfz31_0, hfz31_1, hfz31_2⟩ := bz3 BK650) | ((with_reducible refine gate_callee (f := 29) rfl ?_); refine gl 11 Tryz.func29 #[.int .i64 a0, .agg #[.int .i64 a1_0, .int .i64 a1_1, .int .i64 a1_2]] ?_; (with_reducible refine (impl_frameCode.calls _ _ _ _ _ _ A4.out).mono ?_); rintro e w32 ⟨rfl, hb⟩; refine ⟨_, rfl, ?_⟩; replace BK650 := bB BK650 hb; replace BK651 := bB BK651 hb; replace HB := bS2 HB GE650 GE651 hb; (try clear hb)))
 rotate_left
 all_goals
  go_ret2
  exact er (bbw2 HB GE650 GE651)
/-! ### spec_l05Twice: function 69 -/
def spec_l05Twice.f (a0_0 : Int) (a0_1 : Int) (a0_2 : Int) (a0_3 : Int) (a0_4 : Int) (a0_5 : Int) : Option (Int × Int) := (spec_l02Apply.f a0_0 a0_1 a0_2 a0_3 a0_4 a0_5).bind fun bt657 => ((spec_l01Add.f bt657.1 bt657.2 a0_4 a0_5).bind fun bt659 => (some (bt659.1, bt659.2)))
def spec_l05Twice.T1 : Bool × List (List Nat × List Nat) := (true, [([], []), ([0], [0]), ([], []), ([2], [2]), ([1, 3], [1, 3]), ([], []), ([5], [5]), ([4, 6, 4], [4, 6]), ([7, 7, 0, 1, 2, 3, 4, 5, 6, 7], [7])])
def spec_l05Twice.B1 : List Nat := [0, 1, 0, 4, 15, 0, 32, 127, 255]
theorem spec_l05Twice.tab1 : rtab .any (opsOf Tryz.f69 1) = spec_l05Twice.T1 := by kernel_rfl
theorem spec_l05Twice.bits1 : waitsOk spec_l05Twice.T1.2 spec_l05Twice.B1 = true := by kernel_rfl
set_option maxHeartbeats 8000000 in
set_option maxRecDepth 100000 in
theorem spec_l05Twice.calls (a0_0 : Int) (a0_1 : Int) (a0_2 : Int) (a0_3 : Int) (a0_4 : Int) (a0_5 : Int) (r1 : Int) (r2 : Int) (w : World) (h : spec_l05Twice.f a0_0 a0_1 a0_2 a0_3 a0_4 a0_5 = some (r1, r2)) :
  Calls Tryz.prog 69 #[.agg #[.int .i64 a0_0, .int .i64 a0_1, .int .i64 a0_2, .int .i64 a0_3, .int .i64 a0_4, .int .i64 a0_5]] w fun e w' => e = .returned (.agg #[.int .i64 r1, .int .i64 r2]) ∧ Below w.heap.size w w' := by
 have hu37 := Tryz.underlying37
 have hu31 := Tryz.underlying31
 have hu27 := Tryz.underlying27
 have HB := asd (Below.refl w.heap.size w)
 have H : ((spec_l02Apply.f a0_0 a0_1 a0_2 a0_3 a0_4 a0_5).bind fun bt657 => ((spec_l01Add.f bt657.1 bt657.2 a0_4 a0_5).bind fun bt659 => (some (bt659.1, bt659.2)))) = some (r1, r2) := h
 clear h
 obtain ⟨⟨t657, t658⟩, A2, H⟩ := ob H
 try dsimp only at H
 obtain ⟨⟨t659, t660⟩, A3, H⟩ := ob H
 try dsimp only at H
 simp only [Option.some.injEq, Prod.mk.injEq] at H
 obtain ⟨rfl, rfl⟩ := H
 go_enter Tryz.func69, Tryz.ntmps69
 try go_wp2_with (first | ((with_reducible refine gd 1 rfl ?_); refine bx #[.int .i64 a0_0, .int .i64 a0_1, .int .i64 a0_2, .int .i64 a0_3, .int .i64 a0_4, .int .i64 a0_5] 37 ?_; intro gb655 hg w4 BK655 hb; have GE655 := ngw0 hg HB; replace HB := bS0 HB hb; clear hb hg) | ((with_reducible refine gd 2 rfl ?_); refine bx #[.int .i64 0, .int .i64 0] 31 ?_; intro gb656 hg w5 BK656 hb; have GE656 := ngw1 hg HB GE655; replace HB := bS1 HB GE655 hb; have NB655_656 := nlt hg BK655; have NB656_655 := nsy (nlt hg BK655); replace BK655 := bB BK655 hb; clear hb hg))
 replace BK655 := asd (blk_drew BK655.out)
 replace BK656 := asd (blk_drew BK656.out)
 replace HB := asd (below_drew1 HB.out)
 refine sh 9 (eb6 BK655) (fun hHeld => ?_); refine with_tabW spec_l05Twice.tab1 spec_l05Twice.bits1 (fun HT_ HW_ => ?_)
 generalize w5.drew = w6 at BK655 BK656 HB hHeld ⊢
 refine pu 0 (some 3) (bT 9 1) HT_ ?_
 refine pu 2 (some 5) (bs 9 5) HT_ ?_
 refine pu 5 (some 8) (bs 9 37) HT_ ?_
 refine ta 1 (some 4) (bs 9 39) HT_ HW_ hHeld ?_
 refine ta 3 (some 6) (bs 9 47) HT_ HW_ hHeld ?_
 refine ta 6 (some 9) (bs 9 111) HT_ HW_ hHeld ?_
 refine ro 4 (some 7) (bT 9 7) HT_ (fun K hK => ?_)
 refine gs Tryz.func99 #[.agg #[.int .i64 a0_0, .int .i64 a0_1, .int .i64 a0_2, .int .i64 a0_3], .agg #[.int .i64 a0_4, .int .i64 a0_5]] ?_
 with_reducible refine (spec_l02Apply.calls _ _ _ _ _ _ _ _ _ A2.out).mono ?_
 rintro e w7 ⟨rfl, hb⟩
 refine ⟨_, rfl, ?_⟩
 replace BK655 := bB BK655 hb
 replace BK656 := bB BK656 hb
 replace HB := bS2 HB GE655 GE656 hb
 (try clear hb)
 (try clear hb2)
 (try clear hk)
 (try clear hi)
 refine hK.out _ _ (eb6 BK655).out (fun hHeld => ?_)
 clear hK K
 refine norm_ (a' := ?_) ?_ ?_
 rotate_left
 ·show Act.put _ (some 7) _ = _
  simp only [Act.put, sA, sB, sC, i64_w, i32_w]
  rfl
 refine ro 7 (some 10) (bT 9 8) HT_ (fun K hK => ?_)
 refine gs Tryz.func101 #[.agg #[.int .i64 t657, .int .i64 t658], .agg #[.int .i64 a0_4, .int .i64 a0_5]] ?_
 with_reducible refine (spec_l01Add.calls _ _ _ _ _ _ _ A3.out).mono ?_
 rintro e w8 ⟨rfl, hb⟩
 refine ⟨_, rfl, ?_⟩
 replace BK655 := bB BK655 hb
 replace BK656 := bB BK656 hb
 replace HB := bS2 HB GE655 GE656 hb
 (try clear hb)
 (try clear hb2)
 (try clear hk)
 (try clear hi)
 refine hK.out _ _ (eb6 BK655).out (fun hHeld => ?_)
 clear hK K
 refine norm_ (a' := ?_) ?_ ?_
 rotate_left
 ·show Act.put _ (some 10) _ = _
  simp only [Act.put, sA, sB, sC, i64_w, i32_w]
  rfl
 refine ro 8 (none) (bT 9 9) HT_ (fun K hK => ?_)
 have hs9 : w8.cell? ⟨gb656, 0, none⟩ = some (.int .i64 0) := bcl BK656 0
 have hfs9 := blk_frozen BK656.out 0
 have hns9_0 := NB655_656.out
 have hms9_0 := NB656_655.out
 have hs10 : w8.cell? ⟨gb656, 1, none⟩ = some (.int .i64 0) := bcl BK656 1
 have hfs10 := blk_frozen BK656.out 1
 have hns10_0 := NB655_656.out
 have hms10_0 := NB656_655.out
 refine skip_ (w1 := ?_) (by rfl) rfl ?_ ?_
 rotate_left
 ·go_simp
  rfl
 refine hK.out _ _ ⟨(cf2 NB655_656 (hHeld.1)), (cf2 NB655_656 (hHeld.2.1)), (cf2 NB655_656 (hHeld.2.2.1)), (cf2 NB655_656 (hHeld.2.2.2.1)), (cf2 NB655_656 (hHeld.2.2.2.2.1)), (cf2 NB655_656 (hHeld.2.2.2.2.2))⟩ (fun hHeld => ?_)
 clear hK K
 refine done_ (done_of HT_.out (by kernel_rfl)) ?_
 try go_wp2
 refine bodyPost_ret (results_cell_row rfl _ _ gb656 31 #[.int .i64 t659, .int .i64 t660] (0, 0) _ rfl (bq0 BK656) Tryz.underlying31 rfl (by kernel_rfl)) rfl ?_
 exact er (bbw2 HB GE655 GE656)

end Go.Proofs.YtedmadofpdkekaaGreat.PA
