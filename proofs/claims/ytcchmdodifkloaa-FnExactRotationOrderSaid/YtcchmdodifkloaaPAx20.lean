/- Walks written by program: each Go function that the law reaches comes to the plain function beside it. -/
import Derived.Test.YtcchmdodifkloaaPAx0
import Derived.Test.YtcchmdodifkloaaPAx2
import Derived.Test.YtcchmdodifkloaaPAx5
import Derived.Test.YtcchmdodifkloaaPAx7
import Derived.Test.YtcchmdodifkloaaPAx9
import Derived.Test.YtcchmdodifkloaaPAx10
import Derived.Test.YtcchmdodifkloaaPAx11
import Derived.Test.YtcchmdodifkloaaPAx16
namespace Go.Proofs.Ytcchmdodifkloaa.PA
open Go.RowKit Go.Proofs.YtcchmdodifkloaaW.PrintWords Go.Proofs.YtcchmdodifkloaaW.PrintLast Go.Proofs.YtcchmdodifkloaaW.PrintMore
attribute [local go_sem] max2_int min2_int max_two min_two max_three min_three max_four min_four   -- for this text's walks alone
set_option linter.unusedVariables false
set_option linter.unusedSimpArgs false

attribute [local go_sem high] eqA51
/-! ### spec_l07Code: function 35 -/
def spec_l07Code.f (k : Nat) (a0 : Int) (a1_0 : Int) (a1_1 : Int) (a1_2 : Int) (l2 : List (S55)) (a3 : Bool) : Option (Int) := if a3 = true then ((spec_IsGroup.f k a0 a1_0 a1_1 a1_2 l2).bind fun t656 => ((spec_l06Code.f a0 a1_0 a1_1 a1_2 t656).bind fun t657 => (some t657))) else ((spec_l06Code.f a0 a1_0 a1_1 a1_2 false).bind fun t658 => (some t658))
def spec_l07Code.T1 : Bool × List (List Nat × List Nat) := (true, [([], []), ([], []), ([], []), ([2], [2]), ([3], [3]), ([3], [3]), ([3], [3]), ([4, 5, 6, 3, 3], [3, 4, 5, 6]), ([3, 7], [3, 7]), ([0, 1, 8, 7], [0, 1, 8]), ([9, 9, 0, 1, 2, 3, 4, 5, 6, 7, 8, 9], [9])])
def spec_l07Code.B1 : List Nat := [0, 0, 0, 4, 12, 12, 12, 124, 252, 511, 1023]
theorem spec_l07Code.tab1 : rtab .any (opsOf Try.f35 1) = spec_l07Code.T1 := by kernel_rfl
theorem spec_l07Code.bits1 : waitsOk spec_l07Code.T1.2 spec_l07Code.B1 = true := by kernel_rfl
set_option maxHeartbeats 8000000 in
set_option maxRecDepth 100000 in
theorem spec_l07Code.calls (k : Nat) (a0 : Int) (a1_0 : Int) (a1_1 : Int) (a1_2 : Int) (A2 : Option Addr) (c2 : Nat) (l2 : List (S55)) (a3 : Bool) (r : Int) (w : World) (hr2 : Kd.C k55 w A2 l2.length l2) (hc2 : l2.length ≤ c2) (h : spec_l07Code.f k a0 a1_0 a1_1 a1_2 l2 a3 = some r) :
  Calls Try.prog 35 #[.int .i64 a0, .agg #[.int .i64 a1_0, .int .i64 a1_1, .int .i64 a1_2], .slice A2 l2.length c2, .bool a3] w fun e w' => e = .returned (.int .i64 r) ∧ Below w.heap.size w w' := by
 have hu27 := Try.underlying27
 have HR2 := Aside0.mk hr2
 have HC2 := Aside0.mk hc2
 clear hr2 hc2
 have HB := Aside0.mk (Below.refl w.heap.size w)
 have H : (if a3 = true then ((spec_IsGroup.f k a0 a1_0 a1_1 a1_2 l2).bind fun t656 => ((spec_l06Code.f a0 a1_0 a1_1 a1_2 t656).bind fun t657 => (some t657))) else ((spec_l06Code.f a0 a1_0 a1_1 a1_2 false).bind fun t658 => (some t658))) = some r := h
 clear h
 by_cases c5 : a3 = true
 ·subst c5
  have H1 : ((spec_IsGroup.f k a0 a1_0 a1_1 a1_2 l2).bind fun t656 => ((spec_l06Code.f a0 a1_0 a1_1 a1_2 t656).bind fun t657 => (some t657))) = some r := by rw [if_pos rfl] at H; first | done | exact H
  clear H
  have H := H1
  clear H1
  replace H := Option.bind_eq_some_iff.mp H
  obtain ⟨t656, A60, H⟩ := H
  replace H : ((spec_l06Code.f a0 a1_0 a1_1 a1_2 t656).bind fun t657 => (some t657)) = some r := H
  have A6 := Aside0.mk A60
  clear A60
  replace H := Option.bind_eq_some_iff.mp H
  obtain ⟨t657, A70, H⟩ := H
  replace H : (some t657) = some r := H
  have A7 := Aside0.mk A70
  clear A70
  obtain rfl := Option.some.inj H
  go_enter Try.func35, Try.ntmps35
  try go_wp2_with (first | ((with_reducible refine gd 5 rfl ?_); refine be #[.int .i64 a1_0, .int .i64 a1_1, .int .i64 a1_2] 27 ?_; intro gb655 hg w8 hbox hb; have BK655 := Aside0.mk (hbox); have GW655 := ngw0 hg HB; have GE655 := ngw0 hg HB; replace HB := Aside0.mk (bst0 HB hb); clear hb hbox hg))
  replace BK655 := Aside0.mk (blk_drew BK655.out)
  replace HB := Aside0.mk (below_drew1 HB.out)
  refine start_ (n := 11) (S := fun w' => w'.cell? ⟨gb655, 0, none⟩ = some (.int .i64 a1_0) ∧ w'.cell? ⟨gb655, 1, none⟩ = some (.int .i64 a1_1) ∧ w'.cell? ⟨gb655, 2, none⟩ = some (.int .i64 a1_2)) (ds := []) (bt 11 0) (by kernel_rfl) rfl rfl ⟨bcl BK655 0, bcl BK655 1, bcl BK655 2⟩ (fun hHeld => ?_); refine with_tabW spec_l07Code.tab1 spec_l07Code.bits1 (fun HT_ HW_ => ?_)
  generalize w8.drew = w9 at BK655 HB hHeld ⊢
  refine pu 0 (some 9) (bt 11 1) HT_ ?_
  refine pu 2 (some 11) #[true, false, true, false, false, false, false, false, false, false, false] HT_ ?_
  refine pu 3 (some 12) #[true, false, true, true, false, false, false, false, false, false, false] HT_ ?_
  refine pu 4 (some 13) #[true, false, true, true, true, false, false, false, false, false, false] HT_ ?_
  refine pu 6 (some 15) #[true, false, true, true, true, false, true, false, false, false, false] HT_ ?_
  refine ta 1 (some 10) #[true, true, true, true, true, false, true, false, false, false, false] HT_ HW_ hHeld ?_
  refine ta 5 (some 14) (bt 11 7) HT_ HW_ hHeld ?_
  refine ro 7 (some 16) (bt 11 8) HT_ (fun K hK => ?_)
  refine gs Try.func29 #[.int .i64 a0, .agg #[.int .i64 a1_0, .int .i64 a1_1, .int .i64 a1_2], .slice A2 l2.length c2] ?_
  with_reducible refine (spec_IsGroup.calls k a0 a1_0 a1_1 a1_2 _ _ l2 t656 _ ?side1 ?side2 A6.out).mono ?_
  (case side1 => repeat (first | exact (Kd.C_below HR2.out HB.out) | (with_reducible refine Kd.C_alloc ?_ _) | (with_reducible refine Kd.C_drewN ?_ _) | (with_reducible refine Kd.C_drew ?_)))
  (case side2 => exact HC2.out)
  rintro e w10 ⟨rfl, hb⟩
  refine ⟨_, rfl, ?_⟩
  replace BK655 := Aside0.mk (bbl BK655 hb)
  replace HB := Aside0.mk (bst1 HB GE655 hb)
  (try clear hb)
  (try clear hb2)
  (try clear hk)
  (try clear hi)
  refine hK.out _ _ ⟨bcl BK655 0, bcl BK655 1, bcl BK655 2⟩ (fun hHeld => ?_)
  clear hK K
  refine norm_ (a' := ?_) ?_ ?_
  rotate_left
  ·show Act.put _ (some 16) _ = _
   simp only [Act.put, sA, sB, sC, i64_w, i32_w]
   rfl
  refine pu 8 (some 17) (bt 11 9) HT_ ?_
  refine ro 9 (some 18) (bt 11 10) HT_ (fun K hK => ?_)
  refine gs Try.func39 #[.int .i64 a0, .agg #[.int .i64 a1_0, .int .i64 a1_1, .int .i64 a1_2], .bool t656] ?_
  with_reducible refine (spec_l06Code.calls a0 a1_0 a1_1 a1_2 t656 t657 _ A7.out).mono ?_
  rintro e w11 ⟨rfl, hb⟩
  refine ⟨_, rfl, ?_⟩
  replace BK655 := Aside0.mk (bbl BK655 hb)
  replace HB := Aside0.mk (bst1 HB GE655 hb)
  (try clear hb)
  (try clear hb2)
  (try clear hk)
  (try clear hi)
  refine hK.out _ _ ⟨bcl BK655 0, bcl BK655 1, bcl BK655 2⟩ (fun hHeld => ?_)
  clear hK K
  refine norm_ (a' := ?_) ?_ ?_
  rotate_left
  ·show Act.put _ (some 18) _ = _
   simp only [Act.put, sA, sB, sC, i64_w, i32_w]
   rfl
  refine pu 10 (some 8) (bt 11 11) HT_ ?_
  refine done_ (done_of HT_.out (by kernel_rfl)) ?_
  try go_wp2
  go_ret
  exact ⟨by first | rfl | (simp [errW_none, errW_some] <;> rfl) | (simp [*, errW_none, errW_some] <;> rfl), bbw1 HB GE655⟩
 ·replace c5 := Bool.eq_false_iff.mpr c5
  subst c5
  have H1 : ((spec_l06Code.f a0 a1_0 a1_1 a1_2 false).bind fun t658 => (some t658)) = some r := by rw [if_neg (show ¬ (false = true) by decide)] at H; first | done | exact H
  clear H
  have H := H1
  clear H1
  replace H := Option.bind_eq_some_iff.mp H
  obtain ⟨t658, A120, H⟩ := H
  replace H : (some t658) = some r := H
  have A12 := Aside0.mk A120
  clear A120
  obtain rfl := Option.some.inj H
  go_enter Try.func35, Try.ntmps35
  try go_wp2_with (first | ((with_reducible refine gd 5 rfl ?_); refine be #[.int .i64 a1_0, .int .i64 a1_1, .int .i64 a1_2] 27 ?_; intro gb655 hg w13 hbox hb; have BK655 := Aside0.mk (hbox); have GW655 := ngw0 hg HB; have GE655 := ngw0 hg HB; replace HB := Aside0.mk (bst0 HB hb); clear hb hbox hg))
  replace BK655 := Aside0.mk (blk_drew BK655.out)
  replace HB := Aside0.mk (below_drew1 HB.out)
  refine start_ (n := 11) (S := fun w' => w'.cell? ⟨gb655, 0, none⟩ = some (.int .i64 a1_0) ∧ w'.cell? ⟨gb655, 1, none⟩ = some (.int .i64 a1_1) ∧ w'.cell? ⟨gb655, 2, none⟩ = some (.int .i64 a1_2)) (ds := []) (bt 11 0) (by kernel_rfl) rfl rfl ⟨bcl BK655 0, bcl BK655 1, bcl BK655 2⟩ (fun hHeld => ?_); refine with_tabW spec_l07Code.tab1 spec_l07Code.bits1 (fun HT_ HW_ => ?_)
  generalize w13.drew = w14 at BK655 HB hHeld ⊢
  refine pu 0 (some 9) (bt 11 1) HT_ ?_
  refine pu 2 (some 11) #[true, false, true, false, false, false, false, false, false, false, false] HT_ ?_
  refine pu 3 (some 12) #[true, false, true, true, false, false, false, false, false, false, false] HT_ ?_
  refine pf 4 (some 13) #[true, false, true, true, true, false, false, false, false, false, false] HT_ ?_
  refine pf 5 (some 14) #[true, false, true, true, true, true, false, false, false, false, false] HT_ ?_
  refine pf 6 (some 15) #[true, false, true, true, true, true, true, false, false, false, false] HT_ ?_
  refine pf 7 (some 16) #[true, false, true, true, true, true, true, true, false, false, false] HT_ ?_
  refine pu 8 (some 17) #[true, false, true, true, true, true, true, true, true, false, false] HT_ ?_
  refine ta 1 (some 10) (bt 11 9) HT_ HW_ hHeld ?_
  refine ro 9 (some 18) (bt 11 10) HT_ (fun K hK => ?_)
  refine gs Try.func39 #[.int .i64 a0, .agg #[.int .i64 a1_0, .int .i64 a1_1, .int .i64 a1_2], .bool false] ?_
  with_reducible refine (spec_l06Code.calls a0 a1_0 a1_1 a1_2 false t658 _ A12.out).mono ?_
  rintro e w15 ⟨rfl, hb⟩
  refine ⟨_, rfl, ?_⟩
  replace BK655 := Aside0.mk (bbl BK655 hb)
  replace HB := Aside0.mk (bst1 HB GE655 hb)
  (try clear hb)
  (try clear hb2)
  (try clear hk)
  (try clear hi)
  refine hK.out _ _ ⟨bcl BK655 0, bcl BK655 1, bcl BK655 2⟩ (fun hHeld => ?_)
  clear hK K
  refine norm_ (a' := ?_) ?_ ?_
  rotate_left
  ·show Act.put _ (some 18) _ = _
   simp only [Act.put, sA, sB, sC, i64_w, i32_w]
   rfl
  refine pu 10 (some 8) (bt 11 11) HT_ ?_
  refine done_ (done_of HT_.out (by kernel_rfl)) ?_
  try go_wp2
  go_ret
  exact ⟨by first | rfl | (simp [errW_none, errW_some] <;> rfl) | (simp [*, errW_none, errW_some] <;> rfl), bbw1 HB GE655⟩

/-! ### spec_l02Order: function 37 -/
def spec_l02Order.l0 : Nat → Int → Int → Int → Int → Int → Int → Int → Int → Int → Option (Int)
 | 0, _, _, _, _, _, _, _, _, _ => none
 | k + 1, x4, x660000, x660001, x660002, x660003, x665000, x665001, x665002, x665003 => if x4 ≤ 6 then ((spec_l02Multiply.f x660000 x660001 x660002 x660003 x665000 x665001 x665002 x665003).bind fun bt665 => ((spec_l02Small.f bt665.1 bt665.2.1 bt665.2.2.1 bt665.2.2.2).bind fun t669 => (if t669 = true then ((spec_l02Unit.f).bind fun bt670 => (if (bt665.1 == bt670.1 && (bt665.2.1 == bt670.2.1 && (bt665.2.2.1 == bt670.2.2.1 && (bt665.2.2.2 == bt670.2.2.2)))) = true then (some x4) else (spec_l02Order.l0 k (wrap64 (x4 + 1)) x660000 x660001 x660002 x660003 bt665.1 bt665.2.1 bt665.2.2.1 bt665.2.2.2))) else (some 0)))) else (some 0)
def spec_l02Order.f (k : Nat) (a0_0 : Int) (a0_1 : Int) (a0_2 : Int) (a0_3 : Int) : Option (Int) := (spec_l02Unit.f).bind fun bt660 => (spec_l02Order.l0 k 1 a0_0 a0_1 a0_2 a0_3 bt660.1 bt660.2.1 bt660.2.2.1 bt660.2.2.2)
set_option maxHeartbeats 8000000 in
set_option maxRecDepth 100000 in
theorem spec_l02Order.calls (k : Nat) (a0_0 : Int) (a0_1 : Int) (a0_2 : Int) (a0_3 : Int) (r : Int) (w : World) (h : spec_l02Order.f k a0_0 a0_1 a0_2 a0_3 = some r) :
  Calls Try.prog 37 #[.agg #[.int .i64 a0_0, .int .i64 a0_1, .int .i64 a0_2, .int .i64 a0_3]] w fun e w' => e = .returned (.int .i64 r) ∧ Below w.heap.size w w' := by
 have hu51 := Try.underlying51
 have HB := Aside0.mk (Below.refl w.heap.size w)
 have H : ((spec_l02Unit.f).bind fun bt660 => (spec_l02Order.l0 k 1 a0_0 a0_1 a0_2 a0_3 bt660.1 bt660.2.1 bt660.2.2.1 bt660.2.2.2)) = some r := h
 clear h
 replace H := Option.bind_eq_some_iff.mp H
 obtain ⟨⟨t660, t661, t662, t663⟩, A20, H⟩ := H
 replace H : (spec_l02Order.l0 k 1 a0_0 a0_1 a0_2 a0_3 t660 t661 t662 t663) = some r := H
 have A2 := Aside0.mk A20
 clear A20
 have H' := Aside0.mk H
 clear H
 go_enter Try.func37, Try.ntmps37
 go_wp2_with (first | ((with_reducible refine gd 1 rfl ?_); refine be #[.int .i64 a0_0, .int .i64 a0_1, .int .i64 a0_2, .int .i64 a0_3] 51 ?_; intro gb659 hg w3 hbox hb; have BK659 := Aside0.mk (hbox); have GW659 := ngw0 hg HB; have GE659 := ngw0 hg HB; replace HB := Aside0.mk (bst0 HB hb); clear hb hbox hg) | ((with_reducible refine gate_callee (f := 67) rfl ?_); refine gl 5 Try.func67 #[] ?_; (with_reducible refine (spec_l02Unit.calls  t660 t661 t662 t663 _ A2.out).mono ?_); rintro e w4 ⟨rfl, hb⟩; refine ⟨_, rfl, ?_⟩; replace BK659 := Aside0.mk (bbl BK659 hb); replace HB := Aside0.mk (bst1 HB GE659 hb); (try clear hb); (try clear hb2); (try clear hk); (try clear hi)) | ((with_reducible refine gd 3 rfl ?_); refine be #[.int .i64 0, .int .i64 0, .int .i64 0, .int .i64 0] 51 ?_; intro gb664 hg w5 hbox hb; have BK664 := Aside0.mk (hbox); have GW664 := ngw1 hg HB GE659; have GE664 := ngw1 hg HB GE659; replace HB := Aside0.mk (bst1 HB GE659 hb); have NB659_664 := nlt hg BK659; have NB664_659 := nsy (nlt hg BK659); replace BK659 := Aside0.mk (bbl BK659 hb); clear hb hbox hg; have hnb6 := NB664_659.out; have hnc6 := NB659_664.out; obtain ⟨hcz7_0, hcz7_1, hcz7_2, hcz7_3, hfz7_0, hfz7_1, hfz7_2, hfz7_3⟩ := bz4 BK664))
 go_loopg [4] k (fun kq v4 w' => ∃ (x4_1 : Int) (x665000_1 : Int) (x665001_1 : Int) (x665002_1 : Int) (x665003_1 : Int), v4 = .int .i64 x4_1 ∧ Aside0 (spec_l02Order.l0 kq x4_1 a0_0 a0_1 a0_2 a0_3 x665000_1 x665001_1 x665002_1 x665003_1 = some r) ∧ Aside0 (kq ≤ k) ∧ Aside0 (w'.heap[gb659]? = some (.cells #[.int .i64 a0_0, .int .i64 a0_1, .int .i64 a0_2, .int .i64 a0_3] 51 (0, 0))) ∧ Aside0 (w'.heap[gb664]? = some (.cells #[.int .i64 x665000_1, .int .i64 x665001_1, .int .i64 x665002_1, .int .i64 x665003_1] 51 (0, 0))) ∧ Aside0 (Below w.heap.size w w'))
 case atStart => exact ⟨(1), (t660), (t661), (t662), (t663), (by first | rfl | (simp; done) | (simp [*]; done)), H', ⟨Nat.le_refl _⟩, ⟨bq1 BK659 NB659_664⟩, ⟨bq0 BK664⟩, ⟨bbw2 HB GE659 GE664⟩⟩
 case round =>
  clear H'
  try clear p2
  try clear c3
  try clear c6
  try clear hcz7_0
  try clear hcz7_1
  try clear hcz7_2
  try clear hcz7_3
  try clear hfz7_0
  try clear hfz7_1
  try clear hfz7_2
  try clear hfz7_3
  obtain ⟨x4_1, x665000_1, x665001_1, x665002_1, x665003_1, rfl, HA, HK1, BK659, BK664, HB⟩ := hrel
  cases gk with
  | zero => exact absurd HA.out (by simp [spec_l02Order.l0])
  | succ k1 =>
   have H := HA.out
   clear HA
   simp only [spec_l02Order.l0] at H
   by_cases c8 : x4_1 ≤ 6
   ·rw [if_pos c8] at H
    have c8b0 : decide (x4_1 ≤ 6) = true := decide_eq_true c8
    clear c8
    replace H := Option.bind_eq_some_iff.mp H
    obtain ⟨⟨t665, t666, t667, t668⟩, A90, H⟩ := H
    replace H : ((spec_l02Small.f t665 t666 t667 t668).bind fun t669 => (if t669 = true then ((spec_l02Unit.f).bind fun bt670 => (if (t665 == bt670.1 && (t666 == bt670.2.1 && (t667 == bt670.2.2.1 && (t668 == bt670.2.2.2)))) = true then (some x4_1) else (spec_l02Order.l0 k1 (wrap64 (x4_1 + 1)) a0_0 a0_1 a0_2 a0_3 t665 t666 t667 t668))) else (some 0))) = some r := H
    have A9 := Aside0.mk A90
    clear A90
    replace H := Option.bind_eq_some_iff.mp H
    obtain ⟨t669, A100, H⟩ := H
    replace H : (if t669 = true then ((spec_l02Unit.f).bind fun bt670 => (if (t665 == bt670.1 && (t666 == bt670.2.1 && (t667 == bt670.2.2.1 && (t668 == bt670.2.2.2)))) = true then (some x4_1) else (spec_l02Order.l0 k1 (wrap64 (x4_1 + 1)) a0_0 a0_1 a0_2 a0_3 t665 t666 t667 t668))) else (some 0)) = some r := H
    have A10 := Aside0.mk A100
    clear A100
    by_cases c11 : t669 = true
    ·subst c11
     have H1 : ((spec_l02Unit.f).bind fun bt670 => (if (t665 == bt670.1 && (t666 == bt670.2.1 && (t667 == bt670.2.2.1 && (t668 == bt670.2.2.2)))) = true then (some x4_1) else (spec_l02Order.l0 k1 (wrap64 (x4_1 + 1)) a0_0 a0_1 a0_2 a0_3 t665 t666 t667 t668))) = some r := by rw [if_pos rfl] at H; first | done | exact H
     clear H
     have H := H1
     clear H1
     replace H := Option.bind_eq_some_iff.mp H
     obtain ⟨⟨t670, t671, t672, t673⟩, A120, H⟩ := H
     replace H : (if (t665 == t670 && (t666 == t671 && (t667 == t672 && (t668 == t673)))) = true then (some x4_1) else (spec_l02Order.l0 k1 (wrap64 (x4_1 + 1)) a0_0 a0_1 a0_2 a0_3 t665 t666 t667 t668)) = some r := H
     have A12 := Aside0.mk A120
     clear A120
     by_cases c13 : (t665 == t670 && (t666 == t671 && (t667 == t672 && (t668 == t673)))) = true
     ·rw [if_pos c13] at H
      have c13b0 : (t665 == t670 && (t666 == t671 && (t667 == t672 && (t668 == t673)))) = true := c13
      (try (have c13b1 : decide (t665 = t670 && (t666 == t671 && (t667 == t672 && (t668 == t673)))) = true := by simpa using c13))
      (try (have c13b2 : (t665 == t670 && (t666 == t671 && (t667 == t672 && (t668 == t673)))) = true := by simpa using c13))
      clear c13
      obtain rfl := Option.some.inj H
      have hnb14 := NB659_664.out
      have hnc14 := NB664_659.out
      obtain ⟨hcz15_0, hcz15_1, hcz15_2, hcz15_3, hfz15_0, hfz15_1, hfz15_2, hfz15_3⟩ := bz4 BK659
      obtain ⟨hcz16_0, hcz16_1, hcz16_2, hcz16_3, hfz16_0, hfz16_1, hfz16_2, hfz16_3⟩ := bz4 BK664
      try go_wp2_with (first | ((with_reducible refine gate_callee (f := 68) rfl ?_); refine gl 12 Try.func68 #[.agg #[.int .i64 a0_0, .int .i64 a0_1, .int .i64 a0_2, .int .i64 a0_3], .agg #[.int .i64 x665000_1, .int .i64 x665001_1, .int .i64 x665002_1, .int .i64 x665003_1]] ?_; (with_reducible refine (spec_l02Multiply.calls a0_0 a0_1 a0_2 a0_3 x665000_1 x665001_1 x665002_1 x665003_1 t665 t666 t667 t668 _ A9.out).mono ?_); rintro e w17 ⟨rfl, hb⟩; refine ⟨_, rfl, ?_⟩; replace BK659 := Aside0.mk (bbl BK659 hb); replace BK664 := Aside0.mk (bbl BK664 hb); replace HB := Aside0.mk (bst2 HB GE659 GE664 hb); (try clear hb); (try clear hb2); (try clear hk); (try clear hi); obtain ⟨hcz18_0, hcz18_1, hcz18_2, hcz18_3, hfz18_0, hfz18_1, hfz18_2, hfz18_3⟩ := bz4 BK664) | ((with_reducible refine gate_callee (f := 69) rfl ?_); refine gl 14 Try.func69 #[.agg #[.int .i64 t665, .int .i64 t666, .int .i64 t667, .int .i64 t668]] ?_; (with_reducible refine (spec_l02Small.calls t665 t666 t667 t668 true _ A10.out).mono ?_); rintro e w19 ⟨rfl, hb⟩; refine ⟨_, rfl, ?_⟩; replace BK659 := Aside0.mk (blk_below (g := gb659) (o := .cells #[.int .i64 a0_0, .int .i64 a0_1, .int .i64 a0_2, .int .i64 a0_3] 51 (0, 0)) (bq1 BK659 NB659_664) hb); replace BK664 := Aside0.mk (blk_below (g := gb664) (o := .cells #[.int .i64 t665, .int .i64 t666, .int .i64 t667, .int .i64 t668] 51 (0, 0)) (bq0 BK664) hb); replace HB := Aside0.mk (bst2 HB GE659 GE664 hb); (try clear hb); (try clear hb2); (try clear hk); (try clear hi)))
      replace BK659 := Aside0.mk (blk_drew BK659.out)
      replace BK664 := Aside0.mk (blk_drew BK664.out)
      replace HB := Aside0.mk (below_drew1 HB.out)
      refine start_ (n := 3) (S := fun w' => w'.cell? ⟨gb664, 0, none⟩ = some (.int .i64 t665) ∧ w'.cell? ⟨gb664, 1, none⟩ = some (.int .i64 t666) ∧ w'.cell? ⟨gb664, 2, none⟩ = some (.int .i64 t667) ∧ w'.cell? ⟨gb664, 3, none⟩ = some (.int .i64 t668)) (ds := []) (bt 3 0) (by kernel_rfl) rfl rfl ⟨bcl BK664 0, bcl BK664 1, bcl BK664 2, bcl BK664 3⟩ (fun hHeld => ?_)
      generalize w19.drew = w20 at BK659 BK664 HB hHeld ⊢
      refine take_ (i := 0) (N := some 16) (v := ?_) (a' := ?_) (bt 3 1) rfl rfl (by kernel_rfl) (fun _ _ _ h => h) (Or.inl ⟨by rfl, ?_⟩) hHeld ?_ ?_
      rotate_left
      ·rintro w' ⟨s0, s1, s2, s3⟩
       go_simp
       with_reducible rfl
      rotate_left
      ·simp only [Act.put, sA, sB, sC, i64_w, i32_w]
       rfl
      refine one_ (i := 1) (N := some 17) (bt 3 2) rfl rfl (by kernel_rfl) (by decide) (fun K hK => ?_)
      refine gs Try.func67 #[] ?_
      with_reducible refine (spec_l02Unit.calls  t670 t671 t672 t673 _ A12.out).mono ?_
      rintro e w21 ⟨rfl, hb⟩
      refine ⟨_, rfl, ?_⟩
      replace BK659 := Aside0.mk (bbl BK659 hb)
      replace BK664 := Aside0.mk (bbl BK664 hb)
      replace HB := Aside0.mk (bst2 HB GE659 GE664 hb)
      (try clear hb)
      (try clear hb2)
      (try clear hk)
      (try clear hi)
      refine hK.out _ _ ⟨bcl BK664 0, bcl BK664 1, bcl BK664 2, bcl BK664 3⟩ (fun hHeld => ?_)
      clear hK K
      refine norm_ (a' := ?_) ?_ ?_
      rotate_left
      ·show Act.put _ (some 17) _ = _
       simp only [Act.put, sA, sB, sC, i64_w, i32_w]
       rfl
      refine pure_ (i := 2) (N := some 18) (v := ?_) (a' := ?_) (bt 3 3) rfl rfl (by kernel_rfl) (fun _ _ _ h => h) (Or.inl ⟨by rfl, ?_⟩) ?_ ?_
      rotate_left
      ·intro w'
       go_simp
       with_reducible rfl
      rotate_left
      ·simp only [Act.put, sA, sB, sC, i64_w, i32_w]
       rfl
      refine done_ (by kernel_rfl) ?_
      try go_wp2
      go_ret
      exact ⟨by first | rfl | (simp [errW_none, errW_some] <;> rfl) | (simp [*, errW_none, errW_some] <;> rfl), bbw2 HB GE659 GE664⟩
     ·rw [if_neg c13] at H
      have c13b0 : (t665 == t670 && (t666 == t671 && (t667 == t672 && (t668 == t673)))) = false := by simpa using c13
      (try (have c13b1 : decide (t665 = t670 && (t666 == t671 && (t667 == t672 && (t668 == t673)))) = false := by simpa using c13))
      (try (have c13b2 : (t665 == t670 && (t666 == t671 && (t667 == t672 && (t668 == t673)))) = false := by simpa using c13))
      (try (have c13b3 : ¬ (t665 = t670 && (t666 == t671 && (t667 == t672 && (t668 == t673)))) := by simpa using c13))
      clear c13
      have H' := Aside0.mk H
      clear H
      have hnb22 := NB659_664.out
      have hnc22 := NB664_659.out
      obtain ⟨hcz23_0, hcz23_1, hcz23_2, hcz23_3, hfz23_0, hfz23_1, hfz23_2, hfz23_3⟩ := bz4 BK659
      obtain ⟨hcz24_0, hcz24_1, hcz24_2, hcz24_3, hfz24_0, hfz24_1, hfz24_2, hfz24_3⟩ := bz4 BK664
      try go_wp2_with (first | ((with_reducible refine gate_callee (f := 68) rfl ?_); refine gl 12 Try.func68 #[.agg #[.int .i64 a0_0, .int .i64 a0_1, .int .i64 a0_2, .int .i64 a0_3], .agg #[.int .i64 x665000_1, .int .i64 x665001_1, .int .i64 x665002_1, .int .i64 x665003_1]] ?_; (with_reducible refine (spec_l02Multiply.calls a0_0 a0_1 a0_2 a0_3 x665000_1 x665001_1 x665002_1 x665003_1 t665 t666 t667 t668 _ A9.out).mono ?_); rintro e w25 ⟨rfl, hb⟩; refine ⟨_, rfl, ?_⟩; replace BK659 := Aside0.mk (bbl BK659 hb); replace BK664 := Aside0.mk (bbl BK664 hb); replace HB := Aside0.mk (bst2 HB GE659 GE664 hb); (try clear hb); (try clear hb2); (try clear hk); (try clear hi); obtain ⟨hcz26_0, hcz26_1, hcz26_2, hcz26_3, hfz26_0, hfz26_1, hfz26_2, hfz26_3⟩ := bz4 BK664) | ((with_reducible refine gate_callee (f := 69) rfl ?_); refine gl 14 Try.func69 #[.agg #[.int .i64 t665, .int .i64 t666, .int .i64 t667, .int .i64 t668]] ?_; (with_reducible refine (spec_l02Small.calls t665 t666 t667 t668 true _ A10.out).mono ?_); rintro e w27 ⟨rfl, hb⟩; refine ⟨_, rfl, ?_⟩; replace BK659 := Aside0.mk (blk_below (g := gb659) (o := .cells #[.int .i64 a0_0, .int .i64 a0_1, .int .i64 a0_2, .int .i64 a0_3] 51 (0, 0)) (bq1 BK659 NB659_664) hb); replace BK664 := Aside0.mk (blk_below (g := gb664) (o := .cells #[.int .i64 t665, .int .i64 t666, .int .i64 t667, .int .i64 t668] 51 (0, 0)) (bq0 BK664) hb); replace HB := Aside0.mk (bst2 HB GE659 GE664 hb); (try clear hb); (try clear hb2); (try clear hk); (try clear hi)))
      replace BK659 := Aside0.mk (blk_drew BK659.out)
      replace BK664 := Aside0.mk (blk_drew BK664.out)
      replace HB := Aside0.mk (below_drew1 HB.out)
      refine start_ (n := 3) (S := fun w' => w'.cell? ⟨gb664, 0, none⟩ = some (.int .i64 t665) ∧ w'.cell? ⟨gb664, 1, none⟩ = some (.int .i64 t666) ∧ w'.cell? ⟨gb664, 2, none⟩ = some (.int .i64 t667) ∧ w'.cell? ⟨gb664, 3, none⟩ = some (.int .i64 t668)) (ds := []) (bt 3 0) (by kernel_rfl) rfl rfl ⟨bcl BK664 0, bcl BK664 1, bcl BK664 2, bcl BK664 3⟩ (fun hHeld => ?_)
      generalize w27.drew = w28 at BK659 BK664 HB hHeld ⊢
      refine take_ (i := 0) (N := some 16) (v := ?_) (a' := ?_) (bt 3 1) rfl rfl (by kernel_rfl) (fun _ _ _ h => h) (Or.inl ⟨by rfl, ?_⟩) hHeld ?_ ?_
      rotate_left
      ·rintro w' ⟨s0, s1, s2, s3⟩
       go_simp
       with_reducible rfl
      rotate_left
      ·simp only [Act.put, sA, sB, sC, i64_w, i32_w]
       rfl
      refine one_ (i := 1) (N := some 17) (bt 3 2) rfl rfl (by kernel_rfl) (by decide) (fun K hK => ?_)
      refine gs Try.func67 #[] ?_
      with_reducible refine (spec_l02Unit.calls  t670 t671 t672 t673 _ A12.out).mono ?_
      rintro e w29 ⟨rfl, hb⟩
      refine ⟨_, rfl, ?_⟩
      replace BK659 := Aside0.mk (bbl BK659 hb)
      replace BK664 := Aside0.mk (bbl BK664 hb)
      replace HB := Aside0.mk (bst2 HB GE659 GE664 hb)
      (try clear hb)
      (try clear hb2)
      (try clear hk)
      (try clear hi)
      refine hK.out _ _ ⟨bcl BK664 0, bcl BK664 1, bcl BK664 2, bcl BK664 3⟩ (fun hHeld => ?_)
      clear hK K
      refine norm_ (a' := ?_) ?_ ?_
      rotate_left
      ·show Act.put _ (some 17) _ = _
       simp only [Act.put, sA, sB, sC, i64_w, i32_w]
       rfl
      refine pure_ (i := 2) (N := some 18) (v := ?_) (a' := ?_) (bt 3 3) rfl rfl (by kernel_rfl) (fun _ _ _ h => h) (Or.inl ⟨by rfl, ?_⟩) ?_ ?_
      rotate_left
      ·intro w'
       go_simp
       with_reducible rfl
      rotate_left
      ·simp only [Act.put, sA, sB, sC, i64_w, i32_w]
       rfl
      refine done_ (by kernel_rfl) ?_
      try go_wp2
      go_roundg k1
      case measure => have := HK1.out; omega
      case rel => exact ⟨(wrap64 (x4_1 + 1)), (t665), (t666), (t667), (t668), (by first | rfl | (simp; done) | (simp [*]; done)), H', ⟨by have := HK1.out; omega⟩, ⟨bkp BK659⟩, ⟨bkp BK664⟩, ⟨bbw2 HB GE659 GE664⟩⟩
    ·replace c11 := Bool.eq_false_iff.mpr c11
     subst c11
     have H1 : (some 0) = some r := by rw [if_neg (show ¬ (false = true) by decide)] at H; first | done | exact H
     clear H
     have H := H1
     clear H1
     obtain rfl := Option.some.inj H
     have hnb30 := NB659_664.out
     have hnc30 := NB664_659.out
     obtain ⟨hcz31_0, hcz31_1, hcz31_2, hcz31_3, hfz31_0, hfz31_1, hfz31_2, hfz31_3⟩ := bz4 BK659
     obtain ⟨hcz32_0, hcz32_1, hcz32_2, hcz32_3, hfz32_0, hfz32_1, hfz32_2, hfz32_3⟩ := bz4 BK664
     go_wp2_with (first | ((with_reducible refine gate_callee (f := 68) rfl ?_); refine gl 12 Try.func68 #[.agg #[.int .i64 a0_0, .int .i64 a0_1, .int .i64 a0_2, .int .i64 a0_3], .agg #[.int .i64 x665000_1, .int .i64 x665001_1, .int .i64 x665002_1, .int .i64 x665003_1]] ?_; (with_reducible refine (spec_l02Multiply.calls a0_0 a0_1 a0_2 a0_3 x665000_1 x665001_1 x665002_1 x665003_1 t665 t666 t667 t668 _ A9.out).mono ?_); rintro e w33 ⟨rfl, hb⟩; refine ⟨_, rfl, ?_⟩; replace BK659 := Aside0.mk (bbl BK659 hb); replace BK664 := Aside0.mk (bbl BK664 hb); replace HB := Aside0.mk (bst2 HB GE659 GE664 hb); (try clear hb); (try clear hb2); (try clear hk); (try clear hi); obtain ⟨hcz34_0, hcz34_1, hcz34_2, hcz34_3, hfz34_0, hfz34_1, hfz34_2, hfz34_3⟩ := bz4 BK664) | ((with_reducible refine gate_callee (f := 69) rfl ?_); refine gl 14 Try.func69 #[.agg #[.int .i64 t665, .int .i64 t666, .int .i64 t667, .int .i64 t668]] ?_; (with_reducible refine (spec_l02Small.calls t665 t666 t667 t668 false _ A10.out).mono ?_); rintro e w35 ⟨rfl, hb⟩; refine ⟨_, rfl, ?_⟩; replace BK659 := Aside0.mk (blk_below (g := gb659) (o := .cells #[.int .i64 a0_0, .int .i64 a0_1, .int .i64 a0_2, .int .i64 a0_3] 51 (0, 0)) (bq1 BK659 NB659_664) hb); replace BK664 := Aside0.mk (blk_below (g := gb664) (o := .cells #[.int .i64 t665, .int .i64 t666, .int .i64 t667, .int .i64 t668] 51 (0, 0)) (bq0 BK664) hb); replace HB := Aside0.mk (bst2 HB GE659 GE664 hb); (try clear hb); (try clear hb2); (try clear hk); (try clear hi)))
     go_ret
     exact ⟨by first | rfl | (simp [errW_none, errW_some] <;> rfl) | (simp [*, errW_none, errW_some] <;> rfl), bbw2 HB GE659 GE664⟩
   ·rw [if_neg c8] at H
    have c8b0 : decide (x4_1 ≤ 6) = false := decide_eq_false c8
    clear c8
    obtain rfl := Option.some.inj H
    go_wp2
    go_ret
    exact ⟨by first | rfl | (simp [errW_none, errW_some] <;> rfl) | (simp [*, errW_none, errW_some] <;> rfl), bbw2 HB GE659 GE664⟩

/-! ### spec_RotationOrder: function 14 -/
def spec_RotationOrder.l0 : Nat → List (S55) → Int → Int → Option (Int × Int)
 | 0, _, _, _ => none
 | k + 1, x2, x9, x10 => if x10 < (x2.length : Int) then (if 0 ≤ x10 then ((spec_l02Det.f ((rd_T55 x2 x10).f0.f0) ((rd_T55 x2 x10).f0.f1) ((rd_T55 x2 x10).f0.f2) ((rd_T55 x2 x10).f0.f3)).bind fun t677 => (if t677 = 1 then ((spec_l02Order.f k ((rd_T55 x2 x10).f0.f0) ((rd_T55 x2 x10).f0.f1) ((rd_T55 x2 x10).f0.f2) ((rd_T55 x2 x10).f0.f3)).bind fun t679 => (spec_RotationOrder.l0 k x2 (mx x9 t679) (wrap64 (x10 + 1)))) else (spec_RotationOrder.l0 k x2 x9 (wrap64 (x10 + 1))))) else (none)) else (some (x9, 0))
def spec_RotationOrder.f (k : Nat) (a0 : Int) (a1_0 : Int) (a1_1 : Int) (a1_2 : Int) (l2 : List (S55)) : Option (Int × Int) := (spec_l07Code.f k a0 a1_0 a1_1 a1_2 l2 true).bind fun t675 => (if t675 = 0 then (spec_RotationOrder.l0 k l2 1 0) else (some (0, t675)))
set_option maxHeartbeats 8000000 in
set_option maxRecDepth 100000 in
theorem spec_RotationOrder.calls (k : Nat) (a0 : Int) (a1_0 : Int) (a1_1 : Int) (a1_2 : Int) (A2 : Option Addr) (c2 : Nat) (l2 : List (S55)) (r1 : Int) (r2 : Int) (w : World) (hr2 : Kd.C k55 w A2 l2.length l2) (hc2 : l2.length ≤ c2) (h : spec_RotationOrder.f k a0 a1_0 a1_1 a1_2 l2 = some (r1, r2)) :
  Calls Try.prog 14 #[.int .i64 a0, .agg #[.int .i64 a1_0, .int .i64 a1_1, .int .i64 a1_2], .slice A2 l2.length c2] w fun e w' => e = .returned (.tuple #[.int .i64 r1, .int .i64 r2]) ∧ Below w.heap.size w w' := by
 have hu27 := Try.underlying27
 have hu51 := Try.underlying51
 have HR2 := Aside0.mk hr2
 have HC2 := Aside0.mk hc2
 clear hr2 hc2
 have HB := Aside0.mk (Below.refl w.heap.size w)
 have H : ((spec_l07Code.f k a0 a1_0 a1_1 a1_2 l2 true).bind fun t675 => (if t675 = 0 then (spec_RotationOrder.l0 k l2 1 0) else (some (0, t675)))) = some (r1, r2) := h
 clear h
 replace H := Option.bind_eq_some_iff.mp H
 obtain ⟨t675, A40, H⟩ := H
 replace H : (if t675 = 0 then (spec_RotationOrder.l0 k l2 1 0) else (some (0, t675))) = some (r1, r2) := H
 have A4 := Aside0.mk A40
 clear A40
 by_cases c5 : t675 = 0
 ·rw [if_pos c5] at H
  have c5b0 : (t675 == 0) = true := beq_iff_eq.mpr c5
  have c5b1 : (t675 != 0) = false := bne_eq_false_iff_eq.mpr c5
  clear c5
  have H' := Aside0.mk H
  clear H
  go_enter Try.func14, Try.ntmps14
  go_wp2_with (first | ((with_reducible refine gd 4 rfl ?_); refine be #[.int .i64 a1_0, .int .i64 a1_1, .int .i64 a1_2] 27 ?_; intro gb674 hg w6 hbox hb; have BK674 := Aside0.mk (hbox); have GW674 := ngw0 hg HB; have GE674 := ngw0 hg HB; replace HB := Aside0.mk (bst0 HB hb); clear hb hbox hg; obtain ⟨hcz7_0, hcz7_1, hcz7_2, hfz7_0, hfz7_1, hfz7_2⟩ := bz3 BK674) | ((with_reducible refine gate_callee (f := 35) rfl ?_); refine gl 14 Try.func35 #[.int .i64 a0, .agg #[.int .i64 a1_0, .int .i64 a1_1, .int .i64 a1_2], .slice A2 l2.length c2, .bool true] ?_; (with_reducible refine (spec_l07Code.calls k a0 a1_0 a1_1 a1_2 _ _ l2 true t675 _ ?side1 ?side2 A4.out).mono ?_); (case side1 => repeat (first | exact (Kd.C_below HR2.out HB.out) | (with_reducible refine Kd.C_alloc ?_ _) | (with_reducible refine Kd.C_drewN ?_ _) | (with_reducible refine Kd.C_drew ?_))); (case side2 => exact HC2.out); rintro e w8 ⟨rfl, hb⟩; refine ⟨_, rfl, ?_⟩; replace BK674 := Aside0.mk (bbl BK674 hb); replace HB := Aside0.mk (bst1 HB GE674 hb); (try clear hb); (try clear hb2); (try clear hk); (try clear hi)))
  go_loopg [9, 10] k (fun kq v9 v10 w' => ∃ (x9_1 : Int) (x10_1 : Int), v9 = .int .i64 x9_1 ∧ v10 = .int .i64 x10_1 ∧ Aside0 (spec_RotationOrder.l0 kq l2 x9_1 x10_1 = some (r1, r2)) ∧ Aside0 (kq ≤ k) ∧ Aside0 (w'.heap[gb674]? = some (.cells #[.int .i64 a1_0, .int .i64 a1_1, .int .i64 a1_2] 27 (0, 0))) ∧ Aside0 (Below w.heap.size w w'))
  case atStart => exact ⟨(1), (0), (by first | rfl | (simp; done) | (simp [*]; done)), (by first | rfl | (simp; done) | (simp [*]; done)), H', ⟨Nat.le_refl _⟩, ⟨bkp BK674⟩, ⟨bbw1 HB GE674⟩⟩
  case round =>
   clear H'
   try clear c1
   try clear c2
   try clear p2
   try clear c3
   try clear c5
   try clear c5b0
   try clear c5b1
   try clear hcz7_0
   try clear hcz7_1
   try clear hcz7_2
   try clear hfz7_0
   try clear hfz7_1
   try clear hfz7_2
   obtain ⟨x9_1, x10_1, rfl, rfl, HA, HK1, BK674, HB⟩ := hrel
   cases gk with
   | zero => exact absurd HA.out (by simp [spec_RotationOrder.l0])
   | succ k1 =>
    have H := HA.out
    clear HA
    simp only [spec_RotationOrder.l0] at H
    by_cases c9 : x10_1 < (l2.length : Int)
    ·rw [if_pos c9] at H
     have c9b0 : decide (x10_1 < (l2.length : Int)) = true := decide_eq_true c9
     clear c9
     by_cases c10 : 0 ≤ x10_1
     ·rw [if_pos c10] at H
      have c10b0 : decide (0 ≤ x10_1) = true := decide_eq_true c10
      clear c10
      replace H := Option.bind_eq_some_iff.mp H
      obtain ⟨t677, A110, H⟩ := H
      replace H : (if t677 = 1 then ((spec_l02Order.f k1 ((rd_T55 l2 x10_1).f0.f0) ((rd_T55 l2 x10_1).f0.f1) ((rd_T55 l2 x10_1).f0.f2) ((rd_T55 l2 x10_1).f0.f3)).bind fun t679 => (spec_RotationOrder.l0 k1 l2 (mx x9_1 t679) (wrap64 (x10_1 + 1)))) else (spec_RotationOrder.l0 k1 l2 x9_1 (wrap64 (x10_1 + 1)))) = some (r1, r2) := H
      have A11 := Aside0.mk A110
      clear A110
      by_cases c12 : t677 = 1
      ·rw [if_pos c12] at H
       have c12b0 : (t677 == 1) = true := beq_iff_eq.mpr c12
       have c12b1 : (t677 != 1) = false := bne_eq_false_iff_eq.mpr c12
       clear c12
       replace H := Option.bind_eq_some_iff.mp H
       obtain ⟨t679, A130, H⟩ := H
       replace H : (spec_RotationOrder.l0 k1 l2 (mx x9_1 t679) (wrap64 (x10_1 + 1))) = some (r1, r2) := H
       have A13 := Aside0.mk A130
       clear A130
       obtain ⟨ji14, hji14⟩ : ∃ j_ : Int, (mx x9_1 t679) = j_ := ⟨_, rfl⟩
       replace H : (spec_RotationOrder.l0 k1 l2 ji14 (wrap64 (x10_1 + 1))) = some (r1, r2) := by first | (rw [hji14] at H; first | done | exact H) | (simp only [hji14] at H ⊢; exact H)
       (try rw [hji14] at A11)
       (try rw [hji14] at A13)
       have hji14_ : (if x9_1 < t679 then t679 else x9_1) = ji14 := hji14
       have H' := Aside0.mk H
       clear H
       have p676 : 0 ≤ (x10_1 : Int) := od
       have q676 : x10_1 < (l2.length : Int) := od
       obtain ⟨ad676, e676, hx676_0, hx676_1, hx676_2, hx676_3, hx676_4, hx676_5⟩ := at_T55 HR2.out x10_1 p676 q676
       cases e676
       replace hx676_0 := xb HB hx676_0
       replace hx676_1 := xb HB hx676_1
       replace hx676_2 := xb HB hx676_2
       replace hx676_3 := xb HB hx676_3
       replace hx676_4 := xb HB hx676_4
       replace hx676_5 := xb HB hx676_5
       replace p676 := eq_true p676
       replace q676 := eq_true q676
       go_wp2_with (first | ((with_reducible refine gate_callee (f := 36) rfl ?_); refine gl 29 Try.func36 #[.agg #[.int .i64 ((rd_T55 l2 x10_1).f0.f0), .int .i64 ((rd_T55 l2 x10_1).f0.f1), .int .i64 ((rd_T55 l2 x10_1).f0.f2), .int .i64 ((rd_T55 l2 x10_1).f0.f3)]] ?_; (with_reducible refine (spec_l02Det.calls ((rd_T55 l2 x10_1).f0.f0) ((rd_T55 l2 x10_1).f0.f1) ((rd_T55 l2 x10_1).f0.f2) ((rd_T55 l2 x10_1).f0.f3) t677 _ A11.out).mono ?_); rintro e w15 ⟨rfl, hb⟩; refine ⟨_, rfl, ?_⟩; replace BK674 := Aside0.mk (bbl BK674 hb); replace HB := Aside0.mk (bst1 HB GE674 hb); (try clear hb); (try clear hb2); (try clear hk); (try clear hi); have p678 : 0 ≤ (x10_1 : Int) := od; have q678 : x10_1 < (l2.length : Int) := od; obtain ⟨ad678, e678, hx678_0, hx678_1, hx678_2, hx678_3, hx678_4, hx678_5⟩ := at_T55 HR2.out x10_1 p678 q678; obtain rfl : ad676 = ad678 := (by injection e678); replace hx678_0 := xb HB hx678_0; replace hx678_1 := xb HB hx678_1; replace hx678_2 := xb HB hx678_2; replace hx678_3 := xb HB hx678_3; replace hx678_4 := xb HB hx678_4; replace hx678_5 := xb HB hx678_5; replace p678 := eq_true p678; replace q678 := eq_true q678) | ((with_reducible refine gate_callee (f := 37) rfl ?_); refine gl 37 Try.func37 #[.agg #[.int .i64 ((rd_T55 l2 x10_1).f0.f0), .int .i64 ((rd_T55 l2 x10_1).f0.f1), .int .i64 ((rd_T55 l2 x10_1).f0.f2), .int .i64 ((rd_T55 l2 x10_1).f0.f3)]] ?_; (with_reducible refine (spec_l02Order.calls k1 ((rd_T55 l2 x10_1).f0.f0) ((rd_T55 l2 x10_1).f0.f1) ((rd_T55 l2 x10_1).f0.f2) ((rd_T55 l2 x10_1).f0.f3) t679 _ A13.out).mono ?_); rintro e w16 ⟨rfl, hb⟩; refine ⟨_, rfl, ?_⟩; replace BK674 := Aside0.mk (bbl BK674 hb); replace HB := Aside0.mk (bst1 HB GE674 hb); (try clear hb); (try clear hb2); (try clear hk); (try clear hi)))
       go_roundg k1
       case measure => have := HK1.out; omega
       case rel => exact ⟨(ji14), (wrap64 (x10_1 + 1)), (by first | rfl | (simp; done) | (simp only [← hji14] <;> (first | rfl | simp)) | (simp [*]; done)), (by first | rfl | (simp; done) | (simp [*]; done)), H', ⟨by have := HK1.out; omega⟩, ⟨bkp BK674⟩, ⟨bbw1 HB GE674⟩⟩
      ·rw [if_neg c12] at H
       have c12b0 : (t677 == 1) = false := beq_eq_false_iff_ne.mpr c12
       have c12b1 : (t677 != 1) = true := bne_iff_ne.mpr c12
       have H' := Aside0.mk H
       clear H
       have p676 : 0 ≤ (x10_1 : Int) := od
       have q676 : x10_1 < (l2.length : Int) := od
       obtain ⟨ad676, e676, hx676_0, hx676_1, hx676_2, hx676_3, hx676_4, hx676_5⟩ := at_T55 HR2.out x10_1 p676 q676
       cases e676
       replace hx676_0 := xb HB hx676_0
       replace hx676_1 := xb HB hx676_1
       replace hx676_2 := xb HB hx676_2
       replace hx676_3 := xb HB hx676_3
       replace hx676_4 := xb HB hx676_4
       replace hx676_5 := xb HB hx676_5
       replace p676 := eq_true p676
       replace q676 := eq_true q676
       go_wp2_with (first | ((with_reducible refine gate_callee (f := 36) rfl ?_); refine gl 29 Try.func36 #[.agg #[.int .i64 ((rd_T55 l2 x10_1).f0.f0), .int .i64 ((rd_T55 l2 x10_1).f0.f1), .int .i64 ((rd_T55 l2 x10_1).f0.f2), .int .i64 ((rd_T55 l2 x10_1).f0.f3)]] ?_; (with_reducible refine (spec_l02Det.calls ((rd_T55 l2 x10_1).f0.f0) ((rd_T55 l2 x10_1).f0.f1) ((rd_T55 l2 x10_1).f0.f2) ((rd_T55 l2 x10_1).f0.f3) t677 _ A11.out).mono ?_); rintro e w17 ⟨rfl, hb⟩; refine ⟨_, rfl, ?_⟩; replace BK674 := Aside0.mk (bbl BK674 hb); replace HB := Aside0.mk (bst1 HB GE674 hb); (try clear hb); (try clear hb2); (try clear hk); (try clear hi)))
       go_roundg k1
       case measure => have := HK1.out; omega
       case rel => exact ⟨(x9_1), (wrap64 (x10_1 + 1)), (by first | rfl | (simp; done) | (simp [*]; done)), (by first | rfl | (simp; done) | (simp [*]; done)), H', ⟨by have := HK1.out; omega⟩, ⟨bkp BK674⟩, ⟨bbw1 HB GE674⟩⟩
     ·rw [if_neg c10] at H
      exact absurd H (by simp)
    ·rw [if_neg c9] at H
     have c9b0 : decide (x10_1 < (l2.length : Int)) = false := decide_eq_false c9
     clear c9
     simp only [Option.some.injEq, Prod.mk.injEq] at H
     obtain ⟨rfl, rfl⟩ := H
     go_wp2
     go_ret2
     exact ⟨by first | rfl | (simp [errW_none, errW_some] <;> rfl) | (simp [*, errW_none, errW_some] <;> rfl), bbw1 HB GE674⟩
 ·rw [if_neg c5] at H
  have c5b0 : (t675 == 0) = false := beq_eq_false_iff_ne.mpr c5
  have c5b1 : (t675 != 0) = true := bne_iff_ne.mpr c5
  simp only [Option.some.injEq, Prod.mk.injEq] at H
  obtain ⟨rfl, rfl⟩ := H
  go_enter Try.func14, Try.ntmps14
  go_wp2_with (first | ((with_reducible refine gd 4 rfl ?_); refine be #[.int .i64 a1_0, .int .i64 a1_1, .int .i64 a1_2] 27 ?_; intro gb674 hg w18 hbox hb; have BK674 := Aside0.mk (hbox); have GW674 := ngw0 hg HB; have GE674 := ngw0 hg HB; replace HB := Aside0.mk (bst0 HB hb); clear hb hbox hg; obtain ⟨hcz19_0, hcz19_1, hcz19_2, hfz19_0, hfz19_1, hfz19_2⟩ := bz3 BK674) | ((with_reducible refine gate_callee (f := 35) rfl ?_); refine gl 14 Try.func35 #[.int .i64 a0, .agg #[.int .i64 a1_0, .int .i64 a1_1, .int .i64 a1_2], .slice A2 l2.length c2, .bool true] ?_; (with_reducible refine (spec_l07Code.calls k a0 a1_0 a1_1 a1_2 _ _ l2 true t675 _ ?side1 ?side2 A4.out).mono ?_); (case side1 => repeat (first | exact (Kd.C_below HR2.out HB.out) | (with_reducible refine Kd.C_alloc ?_ _) | (with_reducible refine Kd.C_drewN ?_ _) | (with_reducible refine Kd.C_drew ?_))); (case side2 => exact HC2.out); rintro e w20 ⟨rfl, hb⟩; refine ⟨_, rfl, ?_⟩; replace BK674 := Aside0.mk (bbl BK674 hb); replace HB := Aside0.mk (bst1 HB GE674 hb); (try clear hb); (try clear hb2); (try clear hk); (try clear hi)))
  go_ret2
  exact ⟨by first | rfl | (simp [errW_none, errW_some] <;> rfl) | (simp [*, errW_none, errW_some] <;> rfl), bbw1 HB GE674⟩

/-! ### impl_Mat_det: function 70 -/
def impl_Mat_det.f (a0_0 : Int) (a0_1 : Int) (a0_2 : Int) (a0_3 : Int) : Option (Int) := some (wrap64 ((wrap64 (a0_0 * a0_3)) - (wrap64 (a0_1 * a0_2))))
set_option maxHeartbeats 8000000 in
set_option maxRecDepth 100000 in
theorem impl_Mat_det.calls (a0_0 : Int) (a0_1 : Int) (a0_2 : Int) (a0_3 : Int) (r : Int) (w : World) (h : impl_Mat_det.f a0_0 a0_1 a0_2 a0_3 = some r) :
  Calls Try.prog 70 #[.agg #[.int .i64 a0_0, .int .i64 a0_1, .int .i64 a0_2, .int .i64 a0_3]] w fun e w' => e = .returned (.int .i64 r) ∧ Below w.heap.size w w' := by
 have hu51 := Try.underlying51
 have HB := Aside0.mk (Below.refl w.heap.size w)
 have H : (some (wrap64 ((wrap64 (a0_0 * a0_3)) - (wrap64 (a0_1 * a0_2))))) = some r := h
 clear h
 obtain rfl := Option.some.inj H
 go_enter Try.func70, Try.ntmps70
 go_wp2_with (first | ((with_reducible refine gd 1 rfl ?_); refine be #[.int .i64 a0_0, .int .i64 a0_1, .int .i64 a0_2, .int .i64 a0_3] 51 ?_; intro gb680 hg w2 hbox hb; have BK680 := Aside0.mk (hbox); have GW680 := ngw0 hg HB; have GE680 := ngw0 hg HB; replace HB := Aside0.mk (bst0 HB hb); clear hb hbox hg; obtain ⟨hcz3_0, hcz3_1, hcz3_2, hcz3_3, hfz3_0, hfz3_1, hfz3_2, hfz3_3⟩ := bz4 BK680))
 go_ret
 exact ⟨by first | rfl | (simp [errW_none, errW_some] <;> rfl) | (simp [*, errW_none, errW_some] <;> rfl), bbw1 HB GE680⟩

/-! ### impl_Mat_order: function 71 -/
mutual
def impl_Mat_order.j0 : Nat → Int → Bool → Int → Int → Int → Int → Option (Int)
 | 0, _, _, _, _, _, _ => none
 | k + 1, x3, x13, x682000, x682001, x682002, x682003 => if x13 = true then (impl_Mat_order.j1 k x3 x13 x682000 x682001 x682002 x682003) else (impl_Mat_order.j1 k x3 (x682000 == (-1) && (x682001 == 0 && (x682002 == 0 && (x682003 == (-1))))) x682000 x682001 x682002 x682003)
def impl_Mat_order.j1 : Nat → Int → Bool → Int → Int → Int → Int → Option (Int)
 | 0, _, _, _, _, _, _ => none
 | k + 1, x3, x13, x682000, x682001, x682002, x682003 => if x13 = true then (some 2) else ((impl_Mat_det.f x682000 x682001 x682002 x682003).bind fun t687 => (if t687 = 1 then (impl_Mat_order.j2 k x3 (x3 == (-1)) x682000 x682001 x682002 x682003) else (impl_Mat_order.j2 k x3 false x682000 x682001 x682002 x682003)))
def impl_Mat_order.j2 : Nat → Int → Bool → Int → Int → Int → Int → Option (Int)
 | 0, _, _, _, _, _, _ => none
 | k + 1, x3, x24, x682000, x682001, x682002, x682003 => if x24 = true then (some 3) else ((impl_Mat_det.f x682000 x682001 x682002 x682003).bind fun t688 => (if t688 = 1 then (impl_Mat_order.j3 k x3 (x3 == 0) x682000 x682001 x682002 x682003) else (impl_Mat_order.j3 k x3 false x682000 x682001 x682002 x682003)))
def impl_Mat_order.j3 : Nat → Int → Bool → Int → Int → Int → Int → Option (Int)
 | 0, _, _, _, _, _, _ => none
 | k + 1, x3, x32, x682000, x682001, x682002, x682003 => if x32 = true then (some 4) else ((impl_Mat_det.f x682000 x682001 x682002 x682003).bind fun t689 => (if t689 = 1 then (if x3 = 1 then (some 6) else (some 0)) else (some 0)))
end
def impl_Mat_order.f (k : Nat) (a0_0 : Int) (a0_1 : Int) (a0_2 : Int) (a0_3 : Int) : Option (Int) := (impl_unit.f).bind fun bt682 => (if (a0_0 == bt682.1 && (a0_1 == bt682.2.1 && (a0_2 == bt682.2.2.1 && (a0_3 == bt682.2.2.2)))) = true then (some 1) else ((impl_Mat_det.f a0_0 a0_1 a0_2 a0_3).bind fun t686 => (if t686 = (-1) then (impl_Mat_order.j0 k (wrap64 (a0_0 + a0_3)) ((wrap64 (a0_0 + a0_3)) == 0) a0_0 a0_1 a0_2 a0_3) else (impl_Mat_order.j0 k (wrap64 (a0_0 + a0_3)) false a0_0 a0_1 a0_2 a0_3))))
set_option maxHeartbeats 8000000 in
set_option maxRecDepth 100000 in
theorem impl_Mat_order.calls (k : Nat) (a0_0 : Int) (a0_1 : Int) (a0_2 : Int) (a0_3 : Int) (r : Int) (w : World) (h : impl_Mat_order.f k a0_0 a0_1 a0_2 a0_3 = some r) :
  Calls Try.prog 71 #[.agg #[.int .i64 a0_0, .int .i64 a0_1, .int .i64 a0_2, .int .i64 a0_3]] w fun e w' => e = .returned (.int .i64 r) ∧ Below w.heap.size w w' := by
 have hu51 := Try.underlying51
 have HB := Aside0.mk (Below.refl w.heap.size w)
 have H : ((impl_unit.f).bind fun bt682 => (if (a0_0 == bt682.1 && (a0_1 == bt682.2.1 && (a0_2 == bt682.2.2.1 && (a0_3 == bt682.2.2.2)))) = true then (some 1) else ((impl_Mat_det.f a0_0 a0_1 a0_2 a0_3).bind fun t686 => (if t686 = (-1) then (impl_Mat_order.j0 k (wrap64 (a0_0 + a0_3)) ((wrap64 (a0_0 + a0_3)) == 0) a0_0 a0_1 a0_2 a0_3) else (impl_Mat_order.j0 k (wrap64 (a0_0 + a0_3)) false a0_0 a0_1 a0_2 a0_3))))) = some r := h
 clear h
 replace H := Option.bind_eq_some_iff.mp H
 obtain ⟨⟨t682, t683, t684, t685⟩, A20, H⟩ := H
 replace H : (if (a0_0 == t682 && (a0_1 == t683 && (a0_2 == t684 && (a0_3 == t685)))) = true then (some 1) else ((impl_Mat_det.f a0_0 a0_1 a0_2 a0_3).bind fun t686 => (if t686 = (-1) then (impl_Mat_order.j0 k (wrap64 (a0_0 + a0_3)) ((wrap64 (a0_0 + a0_3)) == 0) a0_0 a0_1 a0_2 a0_3) else (impl_Mat_order.j0 k (wrap64 (a0_0 + a0_3)) false a0_0 a0_1 a0_2 a0_3)))) = some r := H
 have A2 := Aside0.mk A20
 clear A20
 by_cases c3 : (a0_0 == t682 && (a0_1 == t683 && (a0_2 == t684 && (a0_3 == t685)))) = true
 ·rw [if_pos c3] at H
  have c3b0 : (a0_0 == t682 && (a0_1 == t683 && (a0_2 == t684 && (a0_3 == t685)))) = true := c3
  (try (have c3b1 : decide (a0_0 = t682 && (a0_1 == t683 && (a0_2 == t684 && (a0_3 == t685)))) = true := by simpa using c3))
  (try (have c3b2 : (a0_0 == t682 && (a0_1 == t683 && (a0_2 == t684 && (a0_3 == t685)))) = true := by simpa using c3))
  clear c3
  obtain rfl := Option.some.inj H
  go_enter Try.func71, Try.ntmps71
  try go_wp2_with (first | ((with_reducible refine gd 1 rfl ?_); refine be #[.int .i64 a0_0, .int .i64 a0_1, .int .i64 a0_2, .int .i64 a0_3] 51 ?_; intro gb681 hg w4 hbox hb; have BK681 := Aside0.mk (hbox); have GW681 := ngw0 hg HB; have GE681 := ngw0 hg HB; replace HB := Aside0.mk (bst0 HB hb); clear hb hbox hg; obtain ⟨hcz5_0, hcz5_1, hcz5_2, hcz5_3, hfz5_0, hfz5_1, hfz5_2, hfz5_3⟩ := bz4 BK681))
  replace BK681 := Aside0.mk (blk_drew BK681.out)
  replace HB := Aside0.mk (below_drew1 HB.out)
  refine start_ (n := 4) (S := fun w' => w'.cell? ⟨gb681, 0, none⟩ = some (.int .i64 a0_0) ∧ w'.cell? ⟨gb681, 1, none⟩ = some (.int .i64 a0_1) ∧ w'.cell? ⟨gb681, 2, none⟩ = some (.int .i64 a0_2) ∧ w'.cell? ⟨gb681, 3, none⟩ = some (.int .i64 a0_3)) (ds := []) (bt 4 0) (by kernel_rfl) rfl rfl ⟨bcl BK681 0, bcl BK681 1, bcl BK681 2, bcl BK681 3⟩ (fun hHeld => ?_)
  generalize w4.drew = w6 at BK681 HB hHeld ⊢
  refine take_ (i := 0) (N := some 10) (v := ?_) (a' := ?_) (bt 4 1) rfl rfl (by kernel_rfl) (fun _ _ _ h => h) (Or.inl ⟨by rfl, ?_⟩) hHeld ?_ ?_
  rotate_left
  ·rintro w' ⟨s0, s1, s2, s3⟩
   go_simp
   with_reducible rfl
  rotate_left
  ·simp only [Act.put, sA, sB, sC, i64_w, i32_w]
   rfl
  refine one_ (i := 1) (N := some 11) (bt 4 2) rfl rfl (by kernel_rfl) (by decide) (fun K hK => ?_)
  refine gs Try.func72 #[] ?_
  with_reducible refine (impl_unit.calls  t682 t683 t684 t685 _ A2.out).mono ?_
  rintro e w7 ⟨rfl, hb⟩
  refine ⟨_, rfl, ?_⟩
  replace BK681 := Aside0.mk (bbl BK681 hb)
  replace HB := Aside0.mk (bst1 HB GE681 hb)
  (try clear hb)
  (try clear hb2)
  (try clear hk)
  (try clear hi)
  refine hK.out _ _ ⟨bcl BK681 0, bcl BK681 1, bcl BK681 2, bcl BK681 3⟩ (fun hHeld => ?_)
  clear hK K
  refine norm_ (a' := ?_) ?_ ?_
  rotate_left
  ·show Act.put _ (some 11) _ = _
   simp only [Act.put, sA, sB, sC, i64_w, i32_w]
   rfl
  refine pure_ (i := 2) (N := some 12) (v := ?_) (a' := ?_) (bt 4 3) rfl rfl (by kernel_rfl) (fun _ _ _ h => h) (Or.inl ⟨by rfl, ?_⟩) ?_ ?_
  rotate_left
  ·intro w'
   go_simp
   with_reducible rfl
  rotate_left
  ·simp only [Act.put, sA, sB, sC, i64_w, i32_w]
   rfl
  refine pure_ (i := 3) (N := some 9) (v := ?_) (a' := ?_) (bt 4 4) rfl rfl (by kernel_rfl) (fun _ _ _ h => h) (Or.inl ⟨by rfl, ?_⟩) ?_ ?_
  rotate_left
  ·intro w'
   go_simp
   with_reducible rfl
  rotate_left
  ·simp only [Act.put, sA, sB, sC, i64_w, i32_w]
   rfl
  refine done_ (by kernel_rfl) ?_
  try go_wp2
  go_ret
  exact ⟨by first | rfl | (simp [errW_none, errW_some] <;> rfl) | (simp [*, errW_none, errW_some] <;> rfl), bbw1 HB GE681⟩
 ·rw [if_neg c3] at H
  have c3b0 : (a0_0 == t682 && (a0_1 == t683 && (a0_2 == t684 && (a0_3 == t685)))) = false := by simpa using c3
  (try (have c3b1 : decide (a0_0 = t682 && (a0_1 == t683 && (a0_2 == t684 && (a0_3 == t685)))) = false := by simpa using c3))
  (try (have c3b2 : (a0_0 == t682 && (a0_1 == t683 && (a0_2 == t684 && (a0_3 == t685)))) = false := by simpa using c3))
  (try (have c3b3 : ¬ (a0_0 = t682 && (a0_1 == t683 && (a0_2 == t684 && (a0_3 == t685)))) := by simpa using c3))
  clear c3
  have HC8 := Aside0.mk H
  clear H
  go_enter Try.func71, Try.ntmps71
  try go_wp2_with (first | ((with_reducible refine gd 1 rfl ?_); refine be #[.int .i64 a0_0, .int .i64 a0_1, .int .i64 a0_2, .int .i64 a0_3] 51 ?_; intro gb681 hg w9 hbox hb; have BK681 := Aside0.mk (hbox); have GW681 := ngw0 hg HB; have GE681 := ngw0 hg HB; replace HB := Aside0.mk (bst0 HB hb); clear hb hbox hg; obtain ⟨hcz10_0, hcz10_1, hcz10_2, hcz10_3, hfz10_0, hfz10_1, hfz10_2, hfz10_3⟩ := bz4 BK681))
  replace BK681 := Aside0.mk (blk_drew BK681.out)
  replace HB := Aside0.mk (below_drew1 HB.out)
  refine start_ (n := 4) (S := fun w' => w'.cell? ⟨gb681, 0, none⟩ = some (.int .i64 a0_0) ∧ w'.cell? ⟨gb681, 1, none⟩ = some (.int .i64 a0_1) ∧ w'.cell? ⟨gb681, 2, none⟩ = some (.int .i64 a0_2) ∧ w'.cell? ⟨gb681, 3, none⟩ = some (.int .i64 a0_3)) (ds := []) (bt 4 0) (by kernel_rfl) rfl rfl ⟨bcl BK681 0, bcl BK681 1, bcl BK681 2, bcl BK681 3⟩ (fun hHeld => ?_)
  generalize w9.drew = w11 at BK681 HB hHeld ⊢
  refine take_ (i := 0) (N := some 10) (v := ?_) (a' := ?_) (bt 4 1) rfl rfl (by kernel_rfl) (fun _ _ _ h => h) (Or.inl ⟨by rfl, ?_⟩) hHeld ?_ ?_
  rotate_left
  ·rintro w' ⟨s0, s1, s2, s3⟩
   go_simp
   with_reducible rfl
  rotate_left
  ·simp only [Act.put, sA, sB, sC, i64_w, i32_w]
   rfl
  refine one_ (i := 1) (N := some 11) (bt 4 2) rfl rfl (by kernel_rfl) (by decide) (fun K hK => ?_)
  refine gs Try.func72 #[] ?_
  with_reducible refine (impl_unit.calls  t682 t683 t684 t685 _ A2.out).mono ?_
  rintro e w12 ⟨rfl, hb⟩
  refine ⟨_, rfl, ?_⟩
  replace BK681 := Aside0.mk (bbl BK681 hb)
  replace HB := Aside0.mk (bst1 HB GE681 hb)
  (try clear hb)
  (try clear hb2)
  (try clear hk)
  (try clear hi)
  refine hK.out _ _ ⟨bcl BK681 0, bcl BK681 1, bcl BK681 2, bcl BK681 3⟩ (fun hHeld => ?_)
  clear hK K
  refine norm_ (a' := ?_) ?_ ?_
  rotate_left
  ·show Act.put _ (some 11) _ = _
   simp only [Act.put, sA, sB, sC, i64_w, i32_w]
   rfl
  refine pure_ (i := 2) (N := some 12) (v := ?_) (a' := ?_) (bt 4 3) rfl rfl (by kernel_rfl) (fun _ _ _ h => h) (Or.inl ⟨by rfl, ?_⟩) ?_ ?_
  rotate_left
  ·intro w'
   go_simp
   with_reducible rfl
  rotate_left
  ·simp only [Act.put, sA, sB, sC, i64_w, i32_w]
   rfl
  refine pure_ (i := 3) (N := some 9) (v := ?_) (a' := ?_) (bt 4 4) rfl rfl (by kernel_rfl) (fun _ _ _ h => h) (Or.inl ⟨by rfl, ?_⟩) ?_ ?_
  rotate_left
  ·intro w'
   go_simp
   with_reducible rfl
  rotate_left
  ·simp only [Act.put, sA, sB, sC, i64_w, i32_w]
   rfl
  refine done_ (by kernel_rfl) ?_
  go_upto_region 4 with (fail)
  go_cut [13] (fun v13 wc => ∃ (kq : Nat) (x13_7 : Bool), v13 = .bool x13_7 ∧ Aside0 (impl_Mat_order.j0 kq (wrap64 (a0_0 + a0_3)) x13_7 a0_0 a0_1 a0_2 a0_3 = some r) ∧ Aside0 (kq ≤ k) ∧ Aside0 (wc.heap[gb681]? = some (.cells #[.int .i64 a0_0, .int .i64 a0_1, .int .i64 a0_2, .int .i64 a0_3] 51 (0, 0))) ∧ Aside0 (Below w.heap.size w wc))
  case first =>
   have H := HC8.out
   clear HC8
   replace H := Option.bind_eq_some_iff.mp H
   obtain ⟨t686, A130, H⟩ := H
   replace H : (if t686 = (-1) then (impl_Mat_order.j0 k (wrap64 (a0_0 + a0_3)) ((wrap64 (a0_0 + a0_3)) == 0) a0_0 a0_1 a0_2 a0_3) else (impl_Mat_order.j0 k (wrap64 (a0_0 + a0_3)) false a0_0 a0_1 a0_2 a0_3)) = some r := H
   have A13 := Aside0.mk A130
   clear A130
   by_cases c14 : t686 = (-1)
   ·rw [if_pos c14] at H
    have c14b0 : (t686 == (-1)) = true := beq_iff_eq.mpr c14
    have c14b1 : (t686 != (-1)) = false := bne_eq_false_iff_eq.mpr c14
    clear c14
    (first | rw [c14b0] | (simp only [i64_w, i32_w]; rw [c14b0]) | skip)
    have H' := Aside0.mk H
    clear H
    obtain ⟨hcz15_0, hcz15_1, hcz15_2, hcz15_3, hfz15_0, hfz15_1, hfz15_2, hfz15_3⟩ := bz4 BK681
    go_wp2_with (first | ((with_reducible refine gate_callee (f := 70) rfl ?_); refine gl 15 Try.func70 #[.agg #[.int .i64 a0_0, .int .i64 a0_1, .int .i64 a0_2, .int .i64 a0_3]] ?_; (with_reducible refine (impl_Mat_det.calls a0_0 a0_1 a0_2 a0_3 t686 _ A13.out).mono ?_); rintro e w16 ⟨rfl, hb⟩; refine ⟨_, rfl, ?_⟩; replace BK681 := Aside0.mk (bbl BK681 hb); replace HB := Aside0.mk (bst1 HB GE681 hb); (try clear hb); (try clear hb2); (try clear hk); (try clear hi)))
    go_meet
    case rel => exact ⟨_, (((wrap64 (a0_0 + a0_3)) == 0)), (by first | rfl | (simp; done) | (simp [*]; done)), H', ⟨by first | omega | exact Nat.le_refl _⟩, ⟨bkp BK681⟩, ⟨bbw1 HB GE681⟩⟩
   ·rw [if_neg c14] at H
    have c14b0 : (t686 == (-1)) = false := beq_eq_false_iff_ne.mpr c14
    have c14b1 : (t686 != (-1)) = true := bne_iff_ne.mpr c14
    (first | rw [c14b0] | (simp only [i64_w, i32_w]; rw [c14b0]) | skip)
    have H' := Aside0.mk H
    clear H
    obtain ⟨hcz17_0, hcz17_1, hcz17_2, hcz17_3, hfz17_0, hfz17_1, hfz17_2, hfz17_3⟩ := bz4 BK681
    go_wp2_with (first | ((with_reducible refine gate_callee (f := 70) rfl ?_); refine gl 15 Try.func70 #[.agg #[.int .i64 a0_0, .int .i64 a0_1, .int .i64 a0_2, .int .i64 a0_3]] ?_; (with_reducible refine (impl_Mat_det.calls a0_0 a0_1 a0_2 a0_3 t686 _ A13.out).mono ?_); rintro e w18 ⟨rfl, hb⟩; refine ⟨_, rfl, ?_⟩; replace BK681 := Aside0.mk (bbl BK681 hb); replace HB := Aside0.mk (bst1 HB GE681 hb); (try clear hb); (try clear hb2); (try clear hk); (try clear hi)))
    go_meet
    case rel => exact ⟨_, (false), (by first | rfl | (simp; done) | (simp [*]; done)), H', ⟨by first | omega | exact Nat.le_refl _⟩, ⟨bkp BK681⟩, ⟨bbw1 HB GE681⟩⟩
  case rest =>
   clear HC8
   try clear c1
   try clear p2
   try clear c3
   try clear c3b0
   try clear c3b1
   try clear c3b2
   try clear p6
   try clear c7
   try clear c14
   try clear c14b0
   try clear c14b1
   try clear hcz10_0
   try clear hcz10_1
   try clear hcz10_2
   try clear hcz10_3
   try clear hcz15_0
   try clear hcz15_1
   try clear hcz15_2
   try clear hcz15_3
   try clear hcz17_0
   try clear hcz17_1
   try clear hcz17_2
   try clear hcz17_3
   try clear hcz5_0
   try clear hcz5_1
   try clear hcz5_2
   try clear hcz5_3
   try clear hfz10_0
   try clear hfz10_1
   try clear hfz10_2
   try clear hfz10_3
   try clear hfz15_0
   try clear hfz15_1
   try clear hfz15_2
   try clear hfz15_3
   try clear hfz17_0
   try clear hfz17_1
   try clear hfz17_2
   try clear hfz17_3
   try clear hfz5_0
   try clear hfz5_1
   try clear hfz5_2
   try clear hfz5_3
   obtain ⟨kq, x13_7, rfl, HA, HJ7, BK681, HB⟩ := hcut
   cases kq with
   | zero => exact absurd HA.out (by simp [impl_Mat_order.j0])
   | succ kj7 =>
    have H := HA.out
    clear HA
    simp only [impl_Mat_order.j0] at H
    have HC19 := Aside0.mk H
    clear H
    go_upto_if 13 with (fail)
    go_cut [13] (fun v13 wc => ∃ (kq : Nat) (x13_18 : Bool), v13 = .bool x13_18 ∧ Aside0 (impl_Mat_order.j1 kq (wrap64 (a0_0 + a0_3)) x13_18 a0_0 a0_1 a0_2 a0_3 = some r) ∧ Aside0 (kq ≤ kj7) ∧ Aside0 (wc.heap[gb681]? = some (.cells #[.int .i64 a0_0, .int .i64 a0_1, .int .i64 a0_2, .int .i64 a0_3] 51 (0, 0))) ∧ Aside0 (Below w.heap.size w wc))
    case first =>
     have H := HC19.out
     clear HC19
     by_cases c20 : x13_7 = true
     ·subst c20
      have H1 : (impl_Mat_order.j1 kj7 (wrap64 (a0_0 + a0_3)) true a0_0 a0_1 a0_2 a0_3) = some r := by rw [if_pos rfl] at H; first | done | exact H
      clear H
      have H := H1
      clear H1
      have H' := Aside0.mk H
      clear H
      go_wp2
      go_meet
      case rel => exact ⟨_, (true), (by first | rfl | (simp; done) | (simp [*]; done)), H', ⟨by have := HJ7.out; first | omega | exact Nat.le_refl _⟩, ⟨bkp BK681⟩, ⟨bbw1 HB GE681⟩⟩
     ·replace c20 := Bool.eq_false_iff.mpr c20
      subst c20
      have H1 : (impl_Mat_order.j1 kj7 (wrap64 (a0_0 + a0_3)) (a0_0 == (-1) && (a0_1 == 0 && (a0_2 == 0 && (a0_3 == (-1))))) a0_0 a0_1 a0_2 a0_3) = some r := by rw [if_neg (show ¬ (false = true) by decide)] at H; first | done | exact H
      clear H
      have H := H1
      clear H1
      have H' := Aside0.mk H
      clear H
      obtain ⟨hcz21_0, hcz21_1, hcz21_2, hcz21_3, hfz21_0, hfz21_1, hfz21_2, hfz21_3⟩ := bz4 BK681
      go_wp2
      go_meet
      case rel => exact ⟨_, ((a0_0 == (-1) && (a0_1 == 0 && (a0_2 == 0 && (a0_3 == (-1)))))), (by first | rfl | (simp; done) | (simp [*]; done)), H', ⟨by have := HJ7.out; first | omega | exact Nat.le_refl _⟩, ⟨bkp BK681⟩, ⟨bbw1 HB GE681⟩⟩
    case rest =>
     clear HC19
     try clear c1
     try clear c2
     try clear p2
     try clear c3
     try clear c3b0
     try clear c3b1
     try clear c3b2
     try clear p6
     try clear c7
     try clear c14
     try clear c14b0
     try clear c14b1
     try clear c20
     try clear hcz10_0
     try clear hcz10_1
     try clear hcz10_2
     try clear hcz10_3
     try clear hcz15_0
     try clear hcz15_1
     try clear hcz15_2
     try clear hcz15_3
     try clear hcz17_0
     try clear hcz17_1
     try clear hcz17_2
     try clear hcz17_3
     try clear hcz21_0
     try clear hcz21_1
     try clear hcz21_2
     try clear hcz21_3
     try clear hcz5_0
     try clear hcz5_1
     try clear hcz5_2
     try clear hcz5_3
     try clear hfz10_0
     try clear hfz10_1
     try clear hfz10_2
     try clear hfz10_3
     try clear hfz15_0
     try clear hfz15_1
     try clear hfz15_2
     try clear hfz15_3
     try clear hfz17_0
     try clear hfz17_1
     try clear hfz17_2
     try clear hfz17_3
     try clear hfz21_0
     try clear hfz21_1
     try clear hfz21_2
     try clear hfz21_3
     try clear hfz5_0
     try clear hfz5_1
     try clear hfz5_2
     try clear hfz5_3
     try clear p2
     try clear p6
     obtain ⟨kq, x13_18, rfl, HA, HJ18, BK681, HB⟩ := hcut
     cases kq with
     | zero => exact absurd HA.out (by simp [impl_Mat_order.j1])
     | succ kj18 =>
      have H := HA.out
      clear HA
      simp only [impl_Mat_order.j1] at H
      by_cases c22 : x13_18 = true
      ·subst c22
       have H1 : (some 2) = some r := by rw [if_pos rfl] at H; first | done | exact H
       clear H
       have H := H1
       clear H1
       obtain rfl := Option.some.inj H
       go_wp2
       go_ret
       exact ⟨by first | rfl | (simp [errW_none, errW_some] <;> rfl) | (simp [*, errW_none, errW_some] <;> rfl), bbw1 HB GE681⟩
      ·replace c22 := Bool.eq_false_iff.mpr c22
       subst c22
       have H1 : ((impl_Mat_det.f a0_0 a0_1 a0_2 a0_3).bind fun t687 => (if t687 = 1 then (impl_Mat_order.j2 kj18 (wrap64 (a0_0 + a0_3)) ((wrap64 (a0_0 + a0_3)) == (-1)) a0_0 a0_1 a0_2 a0_3) else (impl_Mat_order.j2 kj18 (wrap64 (a0_0 + a0_3)) false a0_0 a0_1 a0_2 a0_3))) = some r := by rw [if_neg (show ¬ (false = true) by decide)] at H; first | done | exact H
       clear H
       have H := H1
       clear H1
       have HC23 := Aside0.mk H
       clear H
       go_upto_region 7 with (fail)
       go_cut [24] (fun v24 wc => ∃ (kq : Nat) (x24_22 : Bool), v24 = .bool x24_22 ∧ Aside0 (impl_Mat_order.j2 kq (wrap64 (a0_0 + a0_3)) x24_22 a0_0 a0_1 a0_2 a0_3 = some r) ∧ Aside0 (kq ≤ kj18) ∧ Aside0 (wc.heap[gb681]? = some (.cells #[.int .i64 a0_0, .int .i64 a0_1, .int .i64 a0_2, .int .i64 a0_3] 51 (0, 0))) ∧ Aside0 (Below w.heap.size w wc))
       case first =>
        have H := HC23.out
        clear HC23
        replace H := Option.bind_eq_some_iff.mp H
        obtain ⟨t687, A240, H⟩ := H
        replace H : (if t687 = 1 then (impl_Mat_order.j2 kj18 (wrap64 (a0_0 + a0_3)) ((wrap64 (a0_0 + a0_3)) == (-1)) a0_0 a0_1 a0_2 a0_3) else (impl_Mat_order.j2 kj18 (wrap64 (a0_0 + a0_3)) false a0_0 a0_1 a0_2 a0_3)) = some r := H
        have A24 := Aside0.mk A240
        clear A240
        by_cases c25 : t687 = 1
        ·rw [if_pos c25] at H
         have c25b0 : (t687 == 1) = true := beq_iff_eq.mpr c25
         have c25b1 : (t687 != 1) = false := bne_eq_false_iff_eq.mpr c25
         clear c25
         (first | rw [c25b0] | (simp only [i64_w, i32_w]; rw [c25b0]) | skip)
         have H' := Aside0.mk H
         clear H
         obtain ⟨hcz26_0, hcz26_1, hcz26_2, hcz26_3, hfz26_0, hfz26_1, hfz26_2, hfz26_3⟩ := bz4 BK681
         go_wp2_with (first | ((with_reducible refine gate_callee (f := 70) rfl ?_); refine gl 26 Try.func70 #[.agg #[.int .i64 a0_0, .int .i64 a0_1, .int .i64 a0_2, .int .i64 a0_3]] ?_; (with_reducible refine (impl_Mat_det.calls a0_0 a0_1 a0_2 a0_3 t687 _ A24.out).mono ?_); rintro e w27 ⟨rfl, hb⟩; refine ⟨_, rfl, ?_⟩; replace BK681 := Aside0.mk (bbl BK681 hb); replace HB := Aside0.mk (bst1 HB GE681 hb); (try clear hb); (try clear hb2); (try clear hk); (try clear hi)))
         go_meet
         case rel => exact ⟨_, (((wrap64 (a0_0 + a0_3)) == (-1))), (by first | rfl | (simp; done) | (simp [*]; done)), H', ⟨by have := HJ7.out; have := HJ18.out; first | omega | exact Nat.le_refl _⟩, ⟨bkp BK681⟩, ⟨bbw1 HB GE681⟩⟩
        ·rw [if_neg c25] at H
         have c25b0 : (t687 == 1) = false := beq_eq_false_iff_ne.mpr c25
         have c25b1 : (t687 != 1) = true := bne_iff_ne.mpr c25
         (first | rw [c25b0] | (simp only [i64_w, i32_w]; rw [c25b0]) | skip)
         have H' := Aside0.mk H
         clear H
         obtain ⟨hcz28_0, hcz28_1, hcz28_2, hcz28_3, hfz28_0, hfz28_1, hfz28_2, hfz28_3⟩ := bz4 BK681
         go_wp2_with (first | ((with_reducible refine gate_callee (f := 70) rfl ?_); refine gl 26 Try.func70 #[.agg #[.int .i64 a0_0, .int .i64 a0_1, .int .i64 a0_2, .int .i64 a0_3]] ?_; (with_reducible refine (impl_Mat_det.calls a0_0 a0_1 a0_2 a0_3 t687 _ A24.out).mono ?_); rintro e w29 ⟨rfl, hb⟩; refine ⟨_, rfl, ?_⟩; replace BK681 := Aside0.mk (bbl BK681 hb); replace HB := Aside0.mk (bst1 HB GE681 hb); (try clear hb); (try clear hb2); (try clear hk); (try clear hi)))
         go_meet
         case rel => exact ⟨_, (false), (by first | rfl | (simp; done) | (simp [*]; done)), H', ⟨by have := HJ7.out; have := HJ18.out; first | omega | exact Nat.le_refl _⟩, ⟨bkp BK681⟩, ⟨bbw1 HB GE681⟩⟩
       case rest =>
        clear HC23
        try clear c1
        try clear c2
        try clear p2
        try clear c3
        try clear c3b0
        try clear c3b1
        try clear c3b2
        try clear p6
        try clear c7
        try clear c14
        try clear c14b0
        try clear c14b1
        try clear c20
        try clear c22
        try clear c25
        try clear c25b0
        try clear c25b1
        try clear hcz10_0
        try clear hcz10_1
        try clear hcz10_2
        try clear hcz10_3
        try clear hcz15_0
        try clear hcz15_1
        try clear hcz15_2
        try clear hcz15_3
        try clear hcz17_0
        try clear hcz17_1
        try clear hcz17_2
        try clear hcz17_3
        try clear hcz21_0
        try clear hcz21_1
        try clear hcz21_2
        try clear hcz21_3
        try clear hcz26_0
        try clear hcz26_1
        try clear hcz26_2
        try clear hcz26_3
        try clear hcz28_0
        try clear hcz28_1
        try clear hcz28_2
        try clear hcz28_3
        try clear hcz5_0
        try clear hcz5_1
        try clear hcz5_2
        try clear hcz5_3
        try clear hfz10_0
        try clear hfz10_1
        try clear hfz10_2
        try clear hfz10_3
        try clear hfz15_0
        try clear hfz15_1
        try clear hfz15_2
        try clear hfz15_3
        try clear hfz17_0
        try clear hfz17_1
        try clear hfz17_2
        try clear hfz17_3
        try clear hfz21_0
        try clear hfz21_1
        try clear hfz21_2
        try clear hfz21_3
        try clear hfz26_0
        try clear hfz26_1
        try clear hfz26_2
        try clear hfz26_3
        try clear hfz28_0
        try clear hfz28_1
        try clear hfz28_2
        try clear hfz28_3
        try clear hfz5_0
        try clear hfz5_1
        try clear hfz5_2
        try clear hfz5_3
        try clear p2
        try clear p6
        obtain ⟨kq, x24_22, rfl, HA, HJ22, BK681, HB⟩ := hcut
        cases kq with
        | zero => exact absurd HA.out (by simp [impl_Mat_order.j2])
        | succ kj22 =>
         have H := HA.out
         clear HA
         simp only [impl_Mat_order.j2] at H
         by_cases c30 : x24_22 = true
         ·subst c30
          have H1 : (some 3) = some r := by rw [if_pos rfl] at H; first | done | exact H
          clear H
          have H := H1
          clear H1
          obtain rfl := Option.some.inj H
          go_wp2
          go_ret
          exact ⟨by first | rfl | (simp [errW_none, errW_some] <;> rfl) | (simp [*, errW_none, errW_some] <;> rfl), bbw1 HB GE681⟩
         ·replace c30 := Bool.eq_false_iff.mpr c30
          subst c30
          have H1 : ((impl_Mat_det.f a0_0 a0_1 a0_2 a0_3).bind fun t688 => (if t688 = 1 then (impl_Mat_order.j3 kj22 (wrap64 (a0_0 + a0_3)) ((wrap64 (a0_0 + a0_3)) == 0) a0_0 a0_1 a0_2 a0_3) else (impl_Mat_order.j3 kj22 (wrap64 (a0_0 + a0_3)) false a0_0 a0_1 a0_2 a0_3))) = some r := by rw [if_neg (show ¬ (false = true) by decide)] at H; first | done | exact H
          clear H
          have H := H1
          clear H1
          have HC31 := Aside0.mk H
          clear H
          go_upto_region 9 with (fail)
          go_cut [32] (fun v32 wc => ∃ (kq : Nat) (x32_30 : Bool), v32 = .bool x32_30 ∧ Aside0 (impl_Mat_order.j3 kq (wrap64 (a0_0 + a0_3)) x32_30 a0_0 a0_1 a0_2 a0_3 = some r) ∧ Aside0 (kq ≤ kj22) ∧ Aside0 (wc.heap[gb681]? = some (.cells #[.int .i64 a0_0, .int .i64 a0_1, .int .i64 a0_2, .int .i64 a0_3] 51 (0, 0))) ∧ Aside0 (Below w.heap.size w wc))
          case first =>
           have H := HC31.out
           clear HC31
           replace H := Option.bind_eq_some_iff.mp H
           obtain ⟨t688, A320, H⟩ := H
           replace H : (if t688 = 1 then (impl_Mat_order.j3 kj22 (wrap64 (a0_0 + a0_3)) ((wrap64 (a0_0 + a0_3)) == 0) a0_0 a0_1 a0_2 a0_3) else (impl_Mat_order.j3 kj22 (wrap64 (a0_0 + a0_3)) false a0_0 a0_1 a0_2 a0_3)) = some r := H
           have A32 := Aside0.mk A320
           clear A320
           by_cases c33 : t688 = 1
           ·rw [if_pos c33] at H
            have c33b0 : (t688 == 1) = true := beq_iff_eq.mpr c33
            have c33b1 : (t688 != 1) = false := bne_eq_false_iff_eq.mpr c33
            clear c33
            (first | rw [c33b0] | (simp only [i64_w, i32_w]; rw [c33b0]) | skip)
            have H' := Aside0.mk H
            clear H
            obtain ⟨hcz34_0, hcz34_1, hcz34_2, hcz34_3, hfz34_0, hfz34_1, hfz34_2, hfz34_3⟩ := bz4 BK681
            go_wp2_with (first | ((with_reducible refine gate_callee (f := 70) rfl ?_); refine gl 34 Try.func70 #[.agg #[.int .i64 a0_0, .int .i64 a0_1, .int .i64 a0_2, .int .i64 a0_3]] ?_; (with_reducible refine (impl_Mat_det.calls a0_0 a0_1 a0_2 a0_3 t688 _ A32.out).mono ?_); rintro e w35 ⟨rfl, hb⟩; refine ⟨_, rfl, ?_⟩; replace BK681 := Aside0.mk (bbl BK681 hb); replace HB := Aside0.mk (bst1 HB GE681 hb); (try clear hb); (try clear hb2); (try clear hk); (try clear hi)))
            go_meet
            case rel => exact ⟨_, (((wrap64 (a0_0 + a0_3)) == 0)), (by first | rfl | (simp; done) | (simp [*]; done)), H', ⟨by have := HJ7.out; have := HJ18.out; have := HJ22.out; first | omega | exact Nat.le_refl _⟩, ⟨bkp BK681⟩, ⟨bbw1 HB GE681⟩⟩
           ·rw [if_neg c33] at H
            have c33b0 : (t688 == 1) = false := beq_eq_false_iff_ne.mpr c33
            have c33b1 : (t688 != 1) = true := bne_iff_ne.mpr c33
            (first | rw [c33b0] | (simp only [i64_w, i32_w]; rw [c33b0]) | skip)
            have H' := Aside0.mk H
            clear H
            obtain ⟨hcz36_0, hcz36_1, hcz36_2, hcz36_3, hfz36_0, hfz36_1, hfz36_2, hfz36_3⟩ := bz4 BK681
            go_wp2_with (first | ((with_reducible refine gate_callee (f := 70) rfl ?_); refine gl 34 Try.func70 #[.agg #[.int .i64 a0_0, .int .i64 a0_1, .int .i64 a0_2, .int .i64 a0_3]] ?_; (with_reducible refine (impl_Mat_det.calls a0_0 a0_1 a0_2 a0_3 t688 _ A32.out).mono ?_); rintro e w37 ⟨rfl, hb⟩; refine ⟨_, rfl, ?_⟩; replace BK681 := Aside0.mk (bbl BK681 hb); replace HB := Aside0.mk (bst1 HB GE681 hb); (try clear hb); (try clear hb2); (try clear hk); (try clear hi)))
            go_meet
            case rel => exact ⟨_, (false), (by first | rfl | (simp; done) | (simp [*]; done)), H', ⟨by have := HJ7.out; have := HJ18.out; have := HJ22.out; first | omega | exact Nat.le_refl _⟩, ⟨bkp BK681⟩, ⟨bbw1 HB GE681⟩⟩
          case rest =>
           clear HC31
           try clear c1
           try clear c2
           try clear p2
           try clear c3
           try clear c3b0
           try clear c3b1
           try clear c3b2
           try clear p6
           try clear c7
           try clear c14
           try clear c14b0
           try clear c14b1
           try clear c20
           try clear c22
           try clear c25
           try clear c25b0
           try clear c25b1
           try clear c30
           try clear c33
           try clear c33b0
           try clear c33b1
           try clear hcz10_0
           try clear hcz10_1
           try clear hcz10_2
           try clear hcz10_3
           try clear hcz15_0
           try clear hcz15_1
           try clear hcz15_2
           try clear hcz15_3
           try clear hcz17_0
           try clear hcz17_1
           try clear hcz17_2
           try clear hcz17_3
           try clear hcz21_0
           try clear hcz21_1
           try clear hcz21_2
           try clear hcz21_3
           try clear hcz26_0
           try clear hcz26_1
           try clear hcz26_2
           try clear hcz26_3
           try clear hcz28_0
           try clear hcz28_1
           try clear hcz28_2
           try clear hcz28_3
           try clear hcz34_0
           try clear hcz34_1
           try clear hcz34_2
           try clear hcz34_3
           try clear hcz36_0
           try clear hcz36_1
           try clear hcz36_2
           try clear hcz36_3
           try clear hcz5_0
           try clear hcz5_1
           try clear hcz5_2
           try clear hcz5_3
           try clear hfz10_0
           try clear hfz10_1
           try clear hfz10_2
           try clear hfz10_3
           try clear hfz15_0
           try clear hfz15_1
           try clear hfz15_2
           try clear hfz15_3
           try clear hfz17_0
           try clear hfz17_1
           try clear hfz17_2
           try clear hfz17_3
           try clear hfz21_0
           try clear hfz21_1
           try clear hfz21_2
           try clear hfz21_3
           try clear hfz26_0
           try clear hfz26_1
           try clear hfz26_2
           try clear hfz26_3
           try clear hfz28_0
           try clear hfz28_1
           try clear hfz28_2
           try clear hfz28_3
           try clear hfz34_0
           try clear hfz34_1
           try clear hfz34_2
           try clear hfz34_3
           try clear hfz36_0
           try clear hfz36_1
           try clear hfz36_2
           try clear hfz36_3
           try clear hfz5_0
           try clear hfz5_1
           try clear hfz5_2
           try clear hfz5_3
           try clear p2
           try clear p6
           obtain ⟨kq, x32_30, rfl, HA, HJ30, BK681, HB⟩ := hcut
           cases kq with
           | zero => exact absurd HA.out (by simp [impl_Mat_order.j3])
           | succ kj30 =>
            have H := HA.out
            clear HA
            simp only [impl_Mat_order.j3] at H
            by_cases c38 : x32_30 = true
            ·subst c38
             have H1 : (some 4) = some r := by rw [if_pos rfl] at H; first | done | exact H
             clear H
             have H := H1
             clear H1
             obtain rfl := Option.some.inj H
             go_wp2
             go_ret
             exact ⟨by first | rfl | (simp [errW_none, errW_some] <;> rfl) | (simp [*, errW_none, errW_some] <;> rfl), bbw1 HB GE681⟩
            ·replace c38 := Bool.eq_false_iff.mpr c38
             subst c38
             have H1 : ((impl_Mat_det.f a0_0 a0_1 a0_2 a0_3).bind fun t689 => (if t689 = 1 then (if (wrap64 (a0_0 + a0_3)) = 1 then (some 6) else (some 0)) else (some 0))) = some r := by rw [if_neg (show ¬ (false = true) by decide)] at H; first | done | exact H
             clear H
             have H := H1
             clear H1
             replace H := Option.bind_eq_some_iff.mp H
             obtain ⟨t689, A390, H⟩ := H
             replace H : (if t689 = 1 then (if (wrap64 (a0_0 + a0_3)) = 1 then (some 6) else (some 0)) else (some 0)) = some r := H
             have A39 := Aside0.mk A390
             clear A390
             by_cases c40 : t689 = 1
             ·rw [if_pos c40] at H
              have c40b0 : (t689 == 1) = true := beq_iff_eq.mpr c40
              have c40b1 : (t689 != 1) = false := bne_eq_false_iff_eq.mpr c40
              clear c40
              by_cases c41 : (wrap64 (a0_0 + a0_3)) = 1
              ·rw [if_pos c41] at H
               have c41b0 : ((wrap64 (a0_0 + a0_3)) == 1) = true := beq_iff_eq.mpr c41
               have c41b1 : ((wrap64 (a0_0 + a0_3)) != 1) = false := bne_eq_false_iff_eq.mpr c41
               clear c41
               obtain rfl := Option.some.inj H
               obtain ⟨hcz42_0, hcz42_1, hcz42_2, hcz42_3, hfz42_0, hfz42_1, hfz42_2, hfz42_3⟩ := bz4 BK681
               go_wp2_with (first | ((with_reducible refine gate_callee (f := 70) rfl ?_); refine gl 42 Try.func70 #[.agg #[.int .i64 a0_0, .int .i64 a0_1, .int .i64 a0_2, .int .i64 a0_3]] ?_; (with_reducible refine (impl_Mat_det.calls a0_0 a0_1 a0_2 a0_3 t689 _ A39.out).mono ?_); rintro e w43 ⟨rfl, hb⟩; refine ⟨_, rfl, ?_⟩; replace BK681 := Aside0.mk (bbl BK681 hb); replace HB := Aside0.mk (bst1 HB GE681 hb); (try clear hb); (try clear hb2); (try clear hk); (try clear hi)))
               go_ret
               exact ⟨by first | rfl | (simp [errW_none, errW_some] <;> rfl) | (simp [*, errW_none, errW_some] <;> rfl), bbw1 HB GE681⟩
              ·rw [if_neg c41] at H
               have c41b0 : ((wrap64 (a0_0 + a0_3)) == 1) = false := beq_eq_false_iff_ne.mpr c41
               have c41b1 : ((wrap64 (a0_0 + a0_3)) != 1) = true := bne_iff_ne.mpr c41
               obtain rfl := Option.some.inj H
               obtain ⟨hcz44_0, hcz44_1, hcz44_2, hcz44_3, hfz44_0, hfz44_1, hfz44_2, hfz44_3⟩ := bz4 BK681
               go_wp2_with (first | ((with_reducible refine gate_callee (f := 70) rfl ?_); refine gl 42 Try.func70 #[.agg #[.int .i64 a0_0, .int .i64 a0_1, .int .i64 a0_2, .int .i64 a0_3]] ?_; (with_reducible refine (impl_Mat_det.calls a0_0 a0_1 a0_2 a0_3 t689 _ A39.out).mono ?_); rintro e w45 ⟨rfl, hb⟩; refine ⟨_, rfl, ?_⟩; replace BK681 := Aside0.mk (bbl BK681 hb); replace HB := Aside0.mk (bst1 HB GE681 hb); (try clear hb); (try clear hb2); (try clear hk); (try clear hi)))
               go_ret
               exact ⟨by first | rfl | (simp [errW_none, errW_some] <;> rfl) | (simp [*, errW_none, errW_some] <;> rfl), bbw1 HB GE681⟩
             ·rw [if_neg c40] at H
              have c40b0 : (t689 == 1) = false := beq_eq_false_iff_ne.mpr c40
              have c40b1 : (t689 != 1) = true := bne_iff_ne.mpr c40
              obtain rfl := Option.some.inj H
              obtain ⟨hcz46_0, hcz46_1, hcz46_2, hcz46_3, hfz46_0, hfz46_1, hfz46_2, hfz46_3⟩ := bz4 BK681
              go_wp2_with (first | ((with_reducible refine gate_callee (f := 70) rfl ?_); refine gl 42 Try.func70 #[.agg #[.int .i64 a0_0, .int .i64 a0_1, .int .i64 a0_2, .int .i64 a0_3]] ?_; (with_reducible refine (impl_Mat_det.calls a0_0 a0_1 a0_2 a0_3 t689 _ A39.out).mono ?_); rintro e w47 ⟨rfl, hb⟩; refine ⟨_, rfl, ?_⟩; replace BK681 := Aside0.mk (bbl BK681 hb); replace HB := Aside0.mk (bst1 HB GE681 hb); (try clear hb); (try clear hb2); (try clear hk); (try clear hi)))
              go_ret
              exact ⟨by first | rfl | (simp [errW_none, errW_some] <;> rfl) | (simp [*, errW_none, errW_some] <;> rfl), bbw1 HB GE681⟩

/-! ### impl_rotationOrder: function 38 -/
def impl_rotationOrder.l0 : Nat → Int → List (S55) → Int → Int → Option (Int)
 | 0, _, _, _, _ => none
 | k + 1, x3, x6, x7, x8 => if x8 < x7 then (if 0 ≤ x8 then (if x8 < (x6.length : Int) then ((impl_Mat_det.f ((rd_T55 x6 x8).f0.f0) ((rd_T55 x6 x8).f0.f1) ((rd_T55 x6 x8).f0.f2) ((rd_T55 x6 x8).f0.f3)).bind fun t692 => (if t692 = 1 then ((impl_Mat_order.f k ((rd_T55 x6 x8).f0.f0) ((rd_T55 x6 x8).f0.f1) ((rd_T55 x6 x8).f0.f2) ((rd_T55 x6 x8).f0.f3)).bind fun t693 => (impl_rotationOrder.l0 k (mx x3 t693) x6 x7 (wrap64 (x8 + 1)))) else (impl_rotationOrder.l0 k x3 x6 x7 (wrap64 (x8 + 1))))) else (none)) else (none)) else (some x3)
def impl_rotationOrder.f (k : Nat) (l0 : List (S55)) : Option (Int) := impl_rotationOrder.l0 k 1 l0 (l0.length : Int) 0
set_option maxHeartbeats 8000000 in
set_option maxRecDepth 100000 in
theorem impl_rotationOrder.calls (k : Nat) (A0 : Option Addr) (c0 : Nat) (l0 : List (S55)) (r : Int) (w : World) (hr0 : Kd.C k55 w A0 l0.length l0) (hc0 : l0.length ≤ c0) (h : impl_rotationOrder.f k l0 = some r) :
  Calls Try.prog 38 #[.slice A0 l0.length c0] w fun e w' => e = .returned (.int .i64 r) ∧ Below w.heap.size w w' := by
 have hu55 := Try.underlying55
 have hu51 := Try.underlying51
 have HR0 := Aside0.mk hr0
 have HC0 := Aside0.mk hc0
 clear hr0 hc0
 have HB := Aside0.mk (Below.refl w.heap.size w)
 have H : (impl_rotationOrder.l0 k 1 l0 (l0.length : Int) 0) = some r := h
 clear h
 have H' := Aside0.mk H
 clear H
 go_enter Try.func38, Try.ntmps38
 go_wp2
 go_loopg [3, 8] k (fun kq v3 v8 w' => ∃ (x3_1 : Int) (x8_1 : Int), v3 = .int .i64 x3_1 ∧ v8 = .int .i64 x8_1 ∧ Aside0 (impl_rotationOrder.l0 kq x3_1 l0 (l0.length : Int) x8_1 = some r) ∧ Aside0 (kq ≤ k) ∧ Aside0 (Below w.heap.size w w'))
 case atStart => exact ⟨(1), (0), (by first | rfl | (simp; done) | (simp [*]; done)), (by first | rfl | (simp; done) | (simp [*]; done)), H', ⟨Nat.le_refl _⟩, ⟨bbw0 HB⟩⟩
 case round =>
  clear H'
  obtain ⟨x3_1, x8_1, rfl, rfl, HA, HK1, HB⟩ := hrel
  cases gk with
  | zero => exact absurd HA.out (by simp [impl_rotationOrder.l0])
  | succ k1 =>
   have H := HA.out
   clear HA
   simp only [impl_rotationOrder.l0] at H
   by_cases c2 : x8_1 < (l0.length : Int)
   ·rw [if_pos c2] at H
    have c2b0 : decide (x8_1 < (l0.length : Int)) = true := decide_eq_true c2
    clear c2
    by_cases c3 : 0 ≤ x8_1
    ·rw [if_pos c3] at H
     have c3b0 : decide (0 ≤ x8_1) = true := decide_eq_true c3
     clear c3
     by_cases c4 : x8_1 < (l0.length : Int)
     ·rw [if_pos c4] at H
      have c4b0 : decide (x8_1 < (l0.length : Int)) = true := decide_eq_true c4
      clear c4
      replace H := Option.bind_eq_some_iff.mp H
      obtain ⟨t692, A50, H⟩ := H
      replace H : (if t692 = 1 then ((impl_Mat_order.f k1 ((rd_T55 l0 x8_1).f0.f0) ((rd_T55 l0 x8_1).f0.f1) ((rd_T55 l0 x8_1).f0.f2) ((rd_T55 l0 x8_1).f0.f3)).bind fun t693 => (impl_rotationOrder.l0 k1 (mx x3_1 t693) l0 (l0.length : Int) (wrap64 (x8_1 + 1)))) else (impl_rotationOrder.l0 k1 x3_1 l0 (l0.length : Int) (wrap64 (x8_1 + 1)))) = some r := H
      have A5 := Aside0.mk A50
      clear A50
      by_cases c6 : t692 = 1
      ·rw [if_pos c6] at H
       have c6b0 : (t692 == 1) = true := beq_iff_eq.mpr c6
       have c6b1 : (t692 != 1) = false := bne_eq_false_iff_eq.mpr c6
       clear c6
       replace H := Option.bind_eq_some_iff.mp H
       obtain ⟨t693, A70, H⟩ := H
       replace H : (impl_rotationOrder.l0 k1 (mx x3_1 t693) l0 (l0.length : Int) (wrap64 (x8_1 + 1))) = some r := H
       have A7 := Aside0.mk A70
       clear A70
       obtain ⟨ji8, hji8⟩ : ∃ j_ : Int, (mx x3_1 t693) = j_ := ⟨_, rfl⟩
       replace H : (impl_rotationOrder.l0 k1 ji8 l0 (l0.length : Int) (wrap64 (x8_1 + 1))) = some r := by first | (rw [hji8] at H; first | done | exact H) | (simp only [hji8] at H ⊢; exact H)
       (try rw [hji8] at A5)
       (try rw [hji8] at A7)
       have hji8_ : (if x3_1 < t693 then t693 else x3_1) = ji8 := hji8
       have H' := Aside0.mk H
       clear H
       have p690 : 0 ≤ (x8_1 : Int) := od
       have q690 : x8_1 < (l0.length : Int) := od
       obtain ⟨ad690, e690, hx690_0, hx690_1, hx690_2, hx690_3, hx690_4, hx690_5⟩ := at_T55 HR0.out x8_1 p690 q690
       cases e690
       replace hx690_0 := xb HB hx690_0
       replace hx690_1 := xb HB hx690_1
       replace hx690_2 := xb HB hx690_2
       replace hx690_3 := xb HB hx690_3
       replace hx690_4 := xb HB hx690_4
       replace hx690_5 := xb HB hx690_5
       replace p690 := eq_true p690
       replace q690 := eq_true q690
       go_wp2_with (first | ((with_reducible refine gd 5 rfl ?_); refine be #[.int .i64 0, .int .i64 0, .int .i64 0, .int .i64 0, .int .i64 0, .int .i64 0] 55 ?_; intro gb691 hg w9 hbox hb; have BK691 := Aside0.mk (hbox); have GW691 := ngw0 hg HB; have GE691 := ngw0 hg HB; replace HB := Aside0.mk (bst0 HB hb); clear hb hbox hg; obtain ⟨hcz10_0, hcz10_1, hcz10_2, hcz10_3, hcz10_4, hcz10_5, hfz10_0, hfz10_1, hfz10_2, hfz10_3, hfz10_4, hfz10_5⟩ := bz6 BK691) | ((with_reducible refine gate_callee (f := 70) rfl ?_); refine gl 14 Try.func70 #[.agg #[.int .i64 ((rd_T55 l0 x8_1).f0.f0), .int .i64 ((rd_T55 l0 x8_1).f0.f1), .int .i64 ((rd_T55 l0 x8_1).f0.f2), .int .i64 ((rd_T55 l0 x8_1).f0.f3)]] ?_; (with_reducible refine (impl_Mat_det.calls ((rd_T55 l0 x8_1).f0.f0) ((rd_T55 l0 x8_1).f0.f1) ((rd_T55 l0 x8_1).f0.f2) ((rd_T55 l0 x8_1).f0.f3) t692 _ A5.out).mono ?_); rintro e w11 ⟨rfl, hb⟩; refine ⟨_, rfl, ?_⟩; replace BK691 := Aside0.mk (blk_below (g := gb691) (o := .cells #[.int .i64 ((rd_T55 l0 x8_1).f0.f0), .int .i64 ((rd_T55 l0 x8_1).f0.f1), .int .i64 ((rd_T55 l0 x8_1).f0.f2), .int .i64 ((rd_T55 l0 x8_1).f0.f3), .int .i64 ((rd_T55 l0 x8_1).f1.f0), .int .i64 ((rd_T55 l0 x8_1).f1.f1)] 55 (0, 0)) (bq0 BK691) hb); replace HB := Aside0.mk (bst1 HB GE691 hb); (try clear hb); (try clear hb2); (try clear hk); (try clear hi); obtain ⟨hcz12_0, hcz12_1, hcz12_2, hcz12_3, hcz12_4, hcz12_5, hfz12_0, hfz12_1, hfz12_2, hfz12_3, hfz12_4, hfz12_5⟩ := bz6 BK691) | ((with_reducible refine gate_callee (f := 71) rfl ?_); refine gl 19 Try.func71 #[.agg #[.int .i64 ((rd_T55 l0 x8_1).f0.f0), .int .i64 ((rd_T55 l0 x8_1).f0.f1), .int .i64 ((rd_T55 l0 x8_1).f0.f2), .int .i64 ((rd_T55 l0 x8_1).f0.f3)]] ?_; (with_reducible refine (impl_Mat_order.calls k1 ((rd_T55 l0 x8_1).f0.f0) ((rd_T55 l0 x8_1).f0.f1) ((rd_T55 l0 x8_1).f0.f2) ((rd_T55 l0 x8_1).f0.f3) t693 _ A7.out).mono ?_); rintro e w13 ⟨rfl, hb⟩; refine ⟨_, rfl, ?_⟩; replace BK691 := Aside0.mk (bbl BK691 hb); replace HB := Aside0.mk (bst1 HB GE691 hb); (try clear hb); (try clear hb2); (try clear hk); (try clear hi)))
       go_roundg k1
       case measure => have := HK1.out; omega
       case rel => exact ⟨(ji8), (wrap64 (x8_1 + 1)), (by first | rfl | (simp; done) | (simp only [← hji8] <;> (first | rfl | simp)) | (simp [*]; done)), (by first | rfl | (simp; done) | (simp [*]; done)), H', ⟨by have := HK1.out; omega⟩, ⟨bbw1 HB GE691⟩⟩
      ·rw [if_neg c6] at H
       have c6b0 : (t692 == 1) = false := beq_eq_false_iff_ne.mpr c6
       have c6b1 : (t692 != 1) = true := bne_iff_ne.mpr c6
       have H' := Aside0.mk H
       clear H
       have p690 : 0 ≤ (x8_1 : Int) := od
       have q690 : x8_1 < (l0.length : Int) := od
       obtain ⟨ad690, e690, hx690_0, hx690_1, hx690_2, hx690_3, hx690_4, hx690_5⟩ := at_T55 HR0.out x8_1 p690 q690
       cases e690
       replace hx690_0 := xb HB hx690_0
       replace hx690_1 := xb HB hx690_1
       replace hx690_2 := xb HB hx690_2
       replace hx690_3 := xb HB hx690_3
       replace hx690_4 := xb HB hx690_4
       replace hx690_5 := xb HB hx690_5
       replace p690 := eq_true p690
       replace q690 := eq_true q690
       go_wp2_with (first | ((with_reducible refine gd 5 rfl ?_); refine be #[.int .i64 0, .int .i64 0, .int .i64 0, .int .i64 0, .int .i64 0, .int .i64 0] 55 ?_; intro gb691 hg w14 hbox hb; have BK691 := Aside0.mk (hbox); have GW691 := ngw0 hg HB; have GE691 := ngw0 hg HB; replace HB := Aside0.mk (bst0 HB hb); clear hb hbox hg; obtain ⟨hcz15_0, hcz15_1, hcz15_2, hcz15_3, hcz15_4, hcz15_5, hfz15_0, hfz15_1, hfz15_2, hfz15_3, hfz15_4, hfz15_5⟩ := bz6 BK691) | ((with_reducible refine gate_callee (f := 70) rfl ?_); refine gl 14 Try.func70 #[.agg #[.int .i64 ((rd_T55 l0 x8_1).f0.f0), .int .i64 ((rd_T55 l0 x8_1).f0.f1), .int .i64 ((rd_T55 l0 x8_1).f0.f2), .int .i64 ((rd_T55 l0 x8_1).f0.f3)]] ?_; (with_reducible refine (impl_Mat_det.calls ((rd_T55 l0 x8_1).f0.f0) ((rd_T55 l0 x8_1).f0.f1) ((rd_T55 l0 x8_1).f0.f2) ((rd_T55 l0 x8_1).f0.f3) t692 _ A5.out).mono ?_); rintro e w16 ⟨rfl, hb⟩; refine ⟨_, rfl, ?_⟩; replace BK691 := Aside0.mk (blk_below (g := gb691) (o := .cells #[.int .i64 ((rd_T55 l0 x8_1).f0.f0), .int .i64 ((rd_T55 l0 x8_1).f0.f1), .int .i64 ((rd_T55 l0 x8_1).f0.f2), .int .i64 ((rd_T55 l0 x8_1).f0.f3), .int .i64 ((rd_T55 l0 x8_1).f1.f0), .int .i64 ((rd_T55 l0 x8_1).f1.f1)] 55 (0, 0)) (bq0 BK691) hb); replace HB := Aside0.mk (bst1 HB GE691 hb); (try clear hb); (try clear hb2); (try clear hk); (try clear hi)))
       go_roundg k1
       case measure => have := HK1.out; omega
       case rel => exact ⟨(x3_1), (wrap64 (x8_1 + 1)), (by first | rfl | (simp; done) | (simp [*]; done)), (by first | rfl | (simp; done) | (simp [*]; done)), H', ⟨by have := HK1.out; omega⟩, ⟨bbw1 HB GE691⟩⟩
     ·rw [if_neg c4] at H
      exact absurd H (by simp)
    ·rw [if_neg c3] at H
     exact absurd H (by simp)
   ·rw [if_neg c2] at H
    have c2b0 : decide (x8_1 < (l0.length : Int)) = false := decide_eq_false c2
    clear c2
    obtain rfl := Option.some.inj H
    go_wp2
    go_ret
    exact ⟨by first | rfl | (simp [errW_none, errW_some] <;> rfl) | (simp [*, errW_none, errW_some] <;> rfl), bbw0 HB⟩

/-! ### impl_RotationOrder: function 15 -/
def impl_RotationOrder.f (k : Nat) (a0 : Int) (a1_0 : Int) (a1_1 : Int) (a1_2 : Int) (l2 : List (S55)) : Option (Int × Int) := (impl_groupCode.f k a0 a1_0 a1_1 a1_2 (([l2] : List (List (S55))))).bind fun t698 => (if t698 = 0 then ((impl_rotationOrder.f k l2).bind fun t699 => (some (t699, 0))) else (some (0, t698)))
set_option maxHeartbeats 8000000 in
set_option maxRecDepth 100000 in
theorem impl_RotationOrder.calls (k : Nat) (a0 : Int) (a1_0 : Int) (a1_1 : Int) (a1_2 : Int) (P2_ : Nat → Prop) (A2 : Option Addr) (c2 : Nat) (l2 : List (S55)) (r1 : Int) (r2 : Int) (w : World) (hs2 : Kd.V k55 55 w w.heap.size (fun k_ => P2_ k_) (.slice A2 l2.length c2) l2) (h : impl_RotationOrder.f k a0 a1_0 a1_1 a1_2 l2 = some (r1, r2)) :
  Calls Try.prog 15 #[.int .i64 a0, .agg #[.int .i64 a1_0, .int .i64 a1_1, .int .i64 a1_2], .slice A2 l2.length c2] w fun e w' => e = .returned (.tuple #[.int .i64 r1, .int .i64 r2]) ∧ Below w.heap.size w w' := by
 have hu27 := Try.underlying27
 have HO2 := Aside0.mk (show Kd.V k55 55 w w.heap.size (fun k_ => (P2_ k_ ∨ w.heap.size ≤ k_)) (.slice A2 l2.length c2) l2 from Kd.V_mono hs2 (fun k_ hk => .inl hk))
 have HB := Aside0.mk (Below.refl w.heap.size w)
 have H : ((impl_groupCode.f k a0 a1_0 a1_1 a1_2 (([l2] : List (List (S55))))).bind fun t698 => (if t698 = 0 then ((impl_rotationOrder.f k l2).bind fun t699 => (some (t699, 0))) else (some (0, t698)))) = some (r1, r2) := h
 clear h
 obtain ⟨y695, hy695⟩ : ∃ y_ : List (List (S55)), y_ = (([l2] : List (List (S55)))) := ⟨_, rfl⟩
 replace H : ((impl_groupCode.f k a0 a1_0 a1_1 a1_2 y695).bind fun t698 => (if t698 = 0 then ((impl_rotationOrder.f k l2).bind fun t699 => (some (t699, 0))) else (some (0, t698)))) = some (r1, r2) := by first | (rw [hy695]; with_reducible exact H) | (have H2_ := (Option.bind_some _ _).symm.trans H; rw [hy695]; with_reducible exact H2_) | (have H2_ := (Option.bind_some _ _).symm.trans H; with_reducible exact H2_) | with_reducible exact H | (rw [hy695]; exact H) | exact H
 have Ny695 := Aside0.mk hy695
 clear hy695
 replace H := Option.bind_eq_some_iff.mp H
 obtain ⟨t698, A40, H⟩ := H
 replace H : (if t698 = 0 then ((impl_rotationOrder.f k l2).bind fun t699 => (some (t699, 0))) else (some (0, t698))) = some (r1, r2) := H
 have A4 := Aside0.mk A40
 clear A40
 by_cases c5 : t698 = 0
 ·rw [if_pos c5] at H
  have c5b0 : (t698 == 0) = true := beq_iff_eq.mpr c5
  have c5b1 : (t698 != 0) = false := bne_eq_false_iff_eq.mpr c5
  clear c5
  replace H := Option.bind_eq_some_iff.mp H
  obtain ⟨t699, A60, H⟩ := H
  replace H : (some (t699, 0)) = some (r1, r2) := H
  have A6 := Aside0.mk A60
  clear A60
  simp only [Option.some.injEq, Prod.mk.injEq] at H
  obtain ⟨rfl, rfl⟩ := H
  go_enter Try.func15, Try.ntmps15
  go_wp2_with (first | ((with_reducible refine gd 4 rfl ?_); refine be #[.int .i64 a1_0, .int .i64 a1_1, .int .i64 a1_2] 27 ?_; intro gb694 hg w7 hbox hb; replace HO2 := Aside0.mk (Kd.V_below (Kd.V_elderB (by (with_reducible repeat (first | apply Kd.V_alloc | apply Kd.V_drewN | apply Kd.V_drew)); exact HO2.out) gb694 (Nat.le_of_eq hg.symm)) hb); have BK694 := Aside0.mk (hbox); have GW694 := ngw0 hg HB; have GE694 := ngw0 hg HB; replace HB := Aside0.mk (bst0 HB hb); clear hb hbox hg; obtain ⟨hcz8_0, hcz8_1, hcz8_2, hfz8_0, hfz8_1, hfz8_2⟩ := bz3 BK694) | ((with_reducible refine gd 12 rfl ?_); refine Kd.N_lit (Kd.slice 55 k55) _ 29 ?hg (N' := 12) ?hd (xs := ([l2] : List (List (S55)))) (inner := [.slice A2 l2.length c2]) (ok := (fun k_ => (P2_ k_ ∨ w.heap.size ≤ k_) ∧ k_ ≠ gb694)) (okp := (fun k_ => (P2_ k_ ∨ w.heap.size ≤ k_) ∧ k_ ≠ gb694)) ?hr ?hp (fun _ hk => hk) ((show ∀ k_, w7.heap.size ≤ k_ → (fun k_ => (P2_ k_ ∨ w.heap.size ≤ k_) ∧ k_ ≠ gb694) k_ from fun k_ hk => ⟨(.inr (Nat.le_trans (bsz1 HB GE694) hk)), Kd.freshB (g := gb694) (o := .cells #[.int .i64 a1_0, .int .i64 a1_1, .int .i64 a1_2] 27 (0, 0)) (bkp BK694) k_ hk⟩) _ (Nat.le_refl _)) (Below.refl _ _) (Nat.le_refl _) (by simp) ?_; (case hd => rfl); (case hg => rfl); (case hr => first | (go_simp; done) | (go_simp; rfl)); (case hp => exact (Reps.one (show Kd.FK (Kd.slice 55 k55) _ _ l2 [.slice A2 l2.length c2] from (Kd.FK_slice_mk (Kd.V_reads' (Kd.V_mono (ok' := (fun k_ => (P2_ k_ ∨ w.heap.size ≤ k_) ∧ k_ ≠ gb694)) (HO2.out) (fun k_ hk => ⟨hk.1, hk.2⟩))).2.1 (Kd.V_F (Kd.V_mono (ok' := (fun k_ => (P2_ k_ ∨ w.heap.size ≤ k_) ∧ k_ ≠ gb694)) (HO2.out) (fun k_ hk => ⟨hk.1, hk.2⟩))))) (Reps.none _ _))); intro v696 w9 ho10 hb hg_ hnew_; clear hg_ hnew_; (first | rw [← Ny695.out] at ho10 | (simp only [Int.reduceToNat] at ho10; rw [← Ny695.out] at ho10)); replace HO2 := Aside0.mk (Kd.V_elder' (by (with_reducible repeat (first | apply Kd.V_alloc | apply Kd.V_drewN | apply Kd.V_drew)); exact HO2.out) (Kd.N_base ho10) hb); have HO697 := Aside0.mk (Kd.N_lower ho10 (bsz1 HB GE694)); replace BK694 := Aside0.mk (bbl BK694 hb); replace HB := Aside0.mk (bst1 HB GE694 hb); clear hb ho10; obtain ⟨Ao11, co11, eo11⟩ := Kd.N_slice HO697.out; subst eo11) | ((with_reducible refine gate_callee (f := 32) rfl ?_); refine gl 13 Try.func32 #[.int .i64 a0, .agg #[.int .i64 a1_0, .int .i64 a1_1, .int .i64 a1_2], .slice Ao11 y695.length co11] ?_; (with_reducible refine (impl_groupCode.calls k a0 a1_0 a1_1 a1_2 _ _ y695 t698 _ ?side1 ?side2 A4.out).mono ?_); (case side1 => repeat (first | exact (Kd.N_reads' HO697.out).2.2 | (with_reducible refine Kd.C_alloc ?_ _) | (with_reducible refine Kd.C_drewN ?_ _) | (with_reducible refine Kd.C_drew ?_))); (case side2 => exact (Kd.N_reads' HO697.out).2.1); rintro e w12 ⟨rfl, hb⟩; refine ⟨_, rfl, ?_⟩; replace HO2 := Aside0.mk (Kd.V_below (by (with_reducible repeat (first | apply Kd.V_alloc | apply Kd.V_drewN | apply Kd.V_drew)); exact HO2.out) hb); replace HO697 := Aside0.mk (Kd.N_below (by (with_reducible repeat (first | apply Kd.N_alloc | apply Kd.N_drewN | apply Kd.N_drew)); exact HO697.out) hb); replace BK694 := Aside0.mk (bbl BK694 hb); replace HB := Aside0.mk (bst1 HB GE694 hb); (try clear hb); (try clear hb2); (try clear hk); (try clear hi)) | ((with_reducible refine gate_callee (f := 38) rfl ?_); refine gl 18 Try.func38 #[.slice A2 l2.length c2] ?_; (with_reducible refine (impl_rotationOrder.calls k _ _ l2 t699 _ ?side1 ?side2 A6.out).mono ?_); (case side1 => repeat (first | exact (Kd.V_reads' HO2.out).2.2 | (with_reducible refine Kd.C_alloc ?_ _) | (with_reducible refine Kd.C_drewN ?_ _) | (with_reducible refine Kd.C_drew ?_))); (case side2 => exact (Kd.V_reads' HO2.out).2.1); rintro e w13 ⟨rfl, hb⟩; refine ⟨_, rfl, ?_⟩; replace HO2 := Aside0.mk (Kd.V_below (by (with_reducible repeat (first | apply Kd.V_alloc | apply Kd.V_drewN | apply Kd.V_drew)); exact HO2.out) hb); replace HO697 := Aside0.mk (Kd.N_below (by (with_reducible repeat (first | apply Kd.N_alloc | apply Kd.N_drewN | apply Kd.N_drew)); exact HO697.out) hb); replace BK694 := Aside0.mk (bbl BK694 hb); replace HB := Aside0.mk (bst1 HB GE694 hb); (try clear hb); (try clear hb2); (try clear hk); (try clear hi)))
  go_ret2
  exact ⟨by first | rfl | (simp [errW_none, errW_some] <;> rfl) | (simp [*, errW_none, errW_some] <;> rfl), bbw1 HB GE694⟩
 ·rw [if_neg c5] at H
  have c5b0 : (t698 == 0) = false := beq_eq_false_iff_ne.mpr c5
  have c5b1 : (t698 != 0) = true := bne_iff_ne.mpr c5
  simp only [Option.some.injEq, Prod.mk.injEq] at H
  obtain ⟨rfl, rfl⟩ := H
  go_enter Try.func15, Try.ntmps15
  go_wp2_with (first | ((with_reducible refine gd 4 rfl ?_); refine be #[.int .i64 a1_0, .int .i64 a1_1, .int .i64 a1_2] 27 ?_; intro gb694 hg w14 hbox hb; replace HO2 := Aside0.mk (Kd.V_below (Kd.V_elderB (by (with_reducible repeat (first | apply Kd.V_alloc | apply Kd.V_drewN | apply Kd.V_drew)); exact HO2.out) gb694 (Nat.le_of_eq hg.symm)) hb); have BK694 := Aside0.mk (hbox); have GW694 := ngw0 hg HB; have GE694 := ngw0 hg HB; replace HB := Aside0.mk (bst0 HB hb); clear hb hbox hg; obtain ⟨hcz15_0, hcz15_1, hcz15_2, hfz15_0, hfz15_1, hfz15_2⟩ := bz3 BK694) | ((with_reducible refine gd 12 rfl ?_); refine Kd.N_lit (Kd.slice 55 k55) _ 29 ?hg (N' := 12) ?hd (xs := ([l2] : List (List (S55)))) (inner := [.slice A2 l2.length c2]) (ok := (fun k_ => (P2_ k_ ∨ w.heap.size ≤ k_) ∧ k_ ≠ gb694)) (okp := (fun k_ => (P2_ k_ ∨ w.heap.size ≤ k_) ∧ k_ ≠ gb694)) ?hr ?hp (fun _ hk => hk) ((show ∀ k_, w14.heap.size ≤ k_ → (fun k_ => (P2_ k_ ∨ w.heap.size ≤ k_) ∧ k_ ≠ gb694) k_ from fun k_ hk => ⟨(.inr (Nat.le_trans (bsz1 HB GE694) hk)), Kd.freshB (g := gb694) (o := .cells #[.int .i64 a1_0, .int .i64 a1_1, .int .i64 a1_2] 27 (0, 0)) (bkp BK694) k_ hk⟩) _ (Nat.le_refl _)) (Below.refl _ _) (Nat.le_refl _) (by simp) ?_; (case hd => rfl); (case hg => rfl); (case hr => first | (go_simp; done) | (go_simp; rfl)); (case hp => exact (Reps.one (show Kd.FK (Kd.slice 55 k55) _ _ l2 [.slice A2 l2.length c2] from (Kd.FK_slice_mk (Kd.V_reads' (Kd.V_mono (ok' := (fun k_ => (P2_ k_ ∨ w.heap.size ≤ k_) ∧ k_ ≠ gb694)) (HO2.out) (fun k_ hk => ⟨hk.1, hk.2⟩))).2.1 (Kd.V_F (Kd.V_mono (ok' := (fun k_ => (P2_ k_ ∨ w.heap.size ≤ k_) ∧ k_ ≠ gb694)) (HO2.out) (fun k_ hk => ⟨hk.1, hk.2⟩))))) (Reps.none _ _))); intro v696 w16 ho17 hb hg_ hnew_; clear hg_ hnew_; (first | rw [← Ny695.out] at ho17 | (simp only [Int.reduceToNat] at ho17; rw [← Ny695.out] at ho17)); replace HO2 := Aside0.mk (Kd.V_elder' (by (with_reducible repeat (first | apply Kd.V_alloc | apply Kd.V_drewN | apply Kd.V_drew)); exact HO2.out) (Kd.N_base ho17) hb); have HO697 := Aside0.mk (Kd.N_lower ho17 (bsz1 HB GE694)); replace BK694 := Aside0.mk (bbl BK694 hb); replace HB := Aside0.mk (bst1 HB GE694 hb); clear hb ho17; obtain ⟨Ao18, co18, eo18⟩ := Kd.N_slice HO697.out; subst eo18) | ((with_reducible refine gate_callee (f := 32) rfl ?_); refine gl 13 Try.func32 #[.int .i64 a0, .agg #[.int .i64 a1_0, .int .i64 a1_1, .int .i64 a1_2], .slice Ao18 y695.length co18] ?_; (with_reducible refine (impl_groupCode.calls k a0 a1_0 a1_1 a1_2 _ _ y695 t698 _ ?side1 ?side2 A4.out).mono ?_); (case side1 => repeat (first | exact (Kd.N_reads' HO697.out).2.2 | (with_reducible refine Kd.C_alloc ?_ _) | (with_reducible refine Kd.C_drewN ?_ _) | (with_reducible refine Kd.C_drew ?_))); (case side2 => exact (Kd.N_reads' HO697.out).2.1); rintro e w19 ⟨rfl, hb⟩; refine ⟨_, rfl, ?_⟩; replace HO2 := Aside0.mk (Kd.V_below (by (with_reducible repeat (first | apply Kd.V_alloc | apply Kd.V_drewN | apply Kd.V_drew)); exact HO2.out) hb); replace HO697 := Aside0.mk (Kd.N_below (by (with_reducible repeat (first | apply Kd.N_alloc | apply Kd.N_drewN | apply Kd.N_drew)); exact HO697.out) hb); replace BK694 := Aside0.mk (bbl BK694 hb); replace HB := Aside0.mk (bst1 HB GE694 hb); (try clear hb); (try clear hb2); (try clear hk); (try clear hi)))
  go_ret2
  exact ⟨by first | rfl | (simp [errW_none, errW_some] <;> rfl) | (simp [*, errW_none, errW_some] <;> rfl), bbw1 HB GE694⟩

/-! ### laws_FnExactRotationOrder: function 4 -/
def laws_FnExactRotationOrder.j0 : Nat → List (S60) → List (S55) → Bool → Option (Bool)
 | 0, _, _, _ => none
 | k + 1, x2, x10, x44 => if x44 = true then (some false) else ((laws_toMotionS.f k x2).bind fun t718 => ((laws_eqMotionS.f k x10 t718).bind fun t721 => (if t721 = true then (some true) else (some false))))
def laws_FnExactRotationOrder.f (k : Nat) (a0 : Int) (a1_0 : Int) (a1_1 : Int) (a1_2 : Int) (l2 : List (S60)) : Option (Bool) := (laws_szMotionS.f l2 1048576).bind fun t701 => (if t701 < 0 then (some true) else ((laws_toLattice.f a1_0 a1_1 a1_2).bind fun bt702 => ((laws_toMotionS.f k l2).bind fun t705 => ((spec_RotationOrder.f k a0 bt702.1 bt702.2.1 bt702.2.2 t705).bind fun bt708 => ((laws_toMotionS.f k l2).bind fun t710 => ((laws_toLattice.f a1_0 a1_1 a1_2).bind fun bt713 => ((impl_RotationOrder.f k a0 bt713.1 bt713.2.1 bt713.2.2 t710).bind fun bt716 => (if bt716.1 = bt708.1 then (laws_FnExactRotationOrder.j0 k l2 t710 (bt716.2 != bt708.2)) else (laws_FnExactRotationOrder.j0 k l2 t710 true)))))))))
set_option maxHeartbeats 8000000 in
set_option maxRecDepth 100000 in
theorem laws_FnExactRotationOrder.calls (k : Nat) (a0 : Int) (a1_0 : Int) (a1_1 : Int) (a1_2 : Int) (A2 : Option Addr) (c2 : Nat) (l2 : List (S60)) (w : World) (hr2 : Kd.C k60 w A2 l2.length l2) (hc2 : l2.length ≤ c2) (h : laws_FnExactRotationOrder.f k a0 a1_0 a1_1 a1_2 l2 = some true) :
  Calls Try.prog 4 #[.int .i64 a0, .agg #[.int .i64 a1_0, .int .i64 a1_1, .int .i64 a1_2], .slice A2 l2.length c2] w fun e w' => e = .returned (.bool true) ∧ Below w.heap.size w w' := by
 have hu23 := Try.underlying23
 have HR2 := Aside0.mk hr2
 have HC2 := Aside0.mk hc2
 clear hr2 hc2
 have HB := Aside0.mk (Below.refl w.heap.size w)
 have H : ((laws_szMotionS.f l2 1048576).bind fun t701 => (if t701 < 0 then (some true) else ((laws_toLattice.f a1_0 a1_1 a1_2).bind fun bt702 => ((laws_toMotionS.f k l2).bind fun t705 => ((spec_RotationOrder.f k a0 bt702.1 bt702.2.1 bt702.2.2 t705).bind fun bt708 => ((laws_toMotionS.f k l2).bind fun t710 => ((laws_toLattice.f a1_0 a1_1 a1_2).bind fun bt713 => ((impl_RotationOrder.f k a0 bt713.1 bt713.2.1 bt713.2.2 t710).bind fun bt716 => (if bt716.1 = bt708.1 then (laws_FnExactRotationOrder.j0 k l2 t710 (bt716.2 != bt708.2)) else (laws_FnExactRotationOrder.j0 k l2 t710 true)))))))))) = some true := h
 clear h
 replace H := Option.bind_eq_some_iff.mp H
 obtain ⟨t701, A40, H⟩ := H
 replace H : (if t701 < 0 then (some true) else ((laws_toLattice.f a1_0 a1_1 a1_2).bind fun bt702 => ((laws_toMotionS.f k l2).bind fun t705 => ((spec_RotationOrder.f k a0 bt702.1 bt702.2.1 bt702.2.2 t705).bind fun bt708 => ((laws_toMotionS.f k l2).bind fun t710 => ((laws_toLattice.f a1_0 a1_1 a1_2).bind fun bt713 => ((impl_RotationOrder.f k a0 bt713.1 bt713.2.1 bt713.2.2 t710).bind fun bt716 => (if bt716.1 = bt708.1 then (laws_FnExactRotationOrder.j0 k l2 t710 (bt716.2 != bt708.2)) else (laws_FnExactRotationOrder.j0 k l2 t710 true))))))))) = some true := H
 have A4 := Aside0.mk A40
 clear A40
 by_cases c5 : t701 < 0
 ·rw [if_pos c5] at H
  have c5b0 : decide (t701 < 0) = true := decide_eq_true c5
  clear c5
  clear H
  go_enter Try.func4, Try.ntmps4
  go_wp2_with (first | ((with_reducible refine gd 4 rfl ?_); refine be #[.int .i64 a1_0, .int .i64 a1_1, .int .i64 a1_2] 23 ?_; intro gb700 hg w6 hbox hb; have BK700 := Aside0.mk (hbox); have GW700 := ngw0 hg HB; have GE700 := ngw0 hg HB; replace HB := Aside0.mk (bst0 HB hb); clear hb hbox hg) | ((with_reducible refine gate_callee (f := 8) rfl ?_); refine gl 15 Try.func8 #[.slice A2 l2.length c2, .int .i64 1048576] ?_; (with_reducible refine (laws_szMotionS.calls _ _ l2 1048576 t701 _ ?side1 ?side2 A4.out).mono ?_); (case side1 => repeat (first | exact (Kd.C_below HR2.out HB.out) | (with_reducible refine Kd.C_alloc ?_ _) | (with_reducible refine Kd.C_drewN ?_ _) | (with_reducible refine Kd.C_drew ?_))); (case side2 => exact HC2.out); rintro e w' ⟨rfl, ⟨nd, rfl⟩⟩; refine ⟨_, rfl, ?_⟩))
  go_ret
  exact ⟨by first | rfl | (simp [errW_none, errW_some] <;> rfl) | (simp [*, errW_none, errW_some] <;> rfl), bbw1 HB GE700⟩
 ·rw [if_neg c5] at H
  have c5b0 : decide (t701 < 0) = false := decide_eq_false c5
  clear c5
  replace H := Option.bind_eq_some_iff.mp H
  obtain ⟨⟨t702, t703, t704⟩, A70, H⟩ := H
  replace H : ((laws_toMotionS.f k l2).bind fun t705 => ((spec_RotationOrder.f k a0 t702 t703 t704 t705).bind fun bt708 => ((laws_toMotionS.f k l2).bind fun t710 => ((laws_toLattice.f a1_0 a1_1 a1_2).bind fun bt713 => ((impl_RotationOrder.f k a0 bt713.1 bt713.2.1 bt713.2.2 t710).bind fun bt716 => (if bt716.1 = bt708.1 then (laws_FnExactRotationOrder.j0 k l2 t710 (bt716.2 != bt708.2)) else (laws_FnExactRotationOrder.j0 k l2 t710 true))))))) = some true := H
  have A7 := Aside0.mk A70
  clear A70
  replace H := Option.bind_eq_some_iff.mp H
  obtain ⟨t705, A80, H⟩ := H
  replace H : ((spec_RotationOrder.f k a0 t702 t703 t704 t705).bind fun bt708 => ((laws_toMotionS.f k l2).bind fun t710 => ((laws_toLattice.f a1_0 a1_1 a1_2).bind fun bt713 => ((impl_RotationOrder.f k a0 bt713.1 bt713.2.1 bt713.2.2 t710).bind fun bt716 => (if bt716.1 = bt708.1 then (laws_FnExactRotationOrder.j0 k l2 t710 (bt716.2 != bt708.2)) else (laws_FnExactRotationOrder.j0 k l2 t710 true)))))) = some true := H
  have A8 := Aside0.mk A80
  clear A80
  replace H := Option.bind_eq_some_iff.mp H
  obtain ⟨⟨t708, t709⟩, A90, H⟩ := H
  replace H : ((laws_toMotionS.f k l2).bind fun t710 => ((laws_toLattice.f a1_0 a1_1 a1_2).bind fun bt713 => ((impl_RotationOrder.f k a0 bt713.1 bt713.2.1 bt713.2.2 t710).bind fun bt716 => (if bt716.1 = t708 then (laws_FnExactRotationOrder.j0 k l2 t710 (bt716.2 != t709)) else (laws_FnExactRotationOrder.j0 k l2 t710 true))))) = some true := H
  have A9 := Aside0.mk A90
  clear A90
  replace H := Option.bind_eq_some_iff.mp H
  obtain ⟨t710, A100, H⟩ := H
  replace H : ((laws_toLattice.f a1_0 a1_1 a1_2).bind fun bt713 => ((impl_RotationOrder.f k a0 bt713.1 bt713.2.1 bt713.2.2 t710).bind fun bt716 => (if bt716.1 = t708 then (laws_FnExactRotationOrder.j0 k l2 t710 (bt716.2 != t709)) else (laws_FnExactRotationOrder.j0 k l2 t710 true)))) = some true := H
  have A10 := Aside0.mk A100
  clear A100
  replace H := Option.bind_eq_some_iff.mp H
  obtain ⟨⟨t713, t714, t715⟩, A110, H⟩ := H
  replace H : ((impl_RotationOrder.f k a0 t713 t714 t715 t710).bind fun bt716 => (if bt716.1 = t708 then (laws_FnExactRotationOrder.j0 k l2 t710 (bt716.2 != t709)) else (laws_FnExactRotationOrder.j0 k l2 t710 true))) = some true := H
  have A11 := Aside0.mk A110
  clear A110
  replace H := Option.bind_eq_some_iff.mp H
  obtain ⟨⟨t716, t717⟩, A120, H⟩ := H
  replace H : (if t716 = t708 then (laws_FnExactRotationOrder.j0 k l2 t710 (t717 != t709)) else (laws_FnExactRotationOrder.j0 k l2 t710 true)) = some true := H
  have A12 := Aside0.mk A120
  clear A120
  have HC13 := Aside0.mk H
  clear H
  go_enter Try.func4, Try.ntmps4
  go_upto_region 8 with (first | ((with_reducible refine gd 4 rfl ?_); refine be #[.int .i64 a1_0, .int .i64 a1_1, .int .i64 a1_2] 23 ?_; intro gb700 hg w14 hbox hb; have BK700 := Aside0.mk (hbox); have GW700 := ngw0 hg HB; have GE700 := ngw0 hg HB; replace HB := Aside0.mk (bst0 HB hb); clear hb hbox hg) | ((with_reducible refine gate_callee (f := 8) rfl ?_); refine gl 15 Try.func8 #[.slice A2 l2.length c2, .int .i64 1048576] ?_; (with_reducible refine (laws_szMotionS.calls _ _ l2 1048576 t701 _ ?side1 ?side2 A4.out).mono ?_); (case side1 => repeat (first | exact (Kd.C_below HR2.out HB.out) | (with_reducible refine Kd.C_alloc ?_ _) | (with_reducible refine Kd.C_drewN ?_ _) | (with_reducible refine Kd.C_drew ?_))); (case side2 => exact HC2.out); rintro e w' ⟨rfl, ⟨nd, rfl⟩⟩; refine ⟨_, rfl, ?_⟩; have hcz15_0 : w14.cell? ⟨gb700, 0, none⟩ = some (.int .i64 a1_0) := bcl BK700 0; have hcz15_1 : w14.cell? ⟨gb700, 1, none⟩ = some (.int .i64 a1_1) := bcl BK700 1; have hcz15_2 : w14.cell? ⟨gb700, 2, none⟩ = some (.int .i64 a1_2) := bcl BK700 2; have hfz15_0 := blk_frozen BK700.out 0; have hfz15_1 := blk_frozen BK700.out 1; have hfz15_2 := blk_frozen BK700.out 2) | ((with_reducible refine gate_callee (f := 10) rfl ?_); refine gl 21 Try.func10 #[.agg #[.int .i64 a1_0, .int .i64 a1_1, .int .i64 a1_2]] ?_; (with_reducible refine (laws_toLattice.calls a1_0 a1_1 a1_2 t702 t703 t704 _ A7.out).mono ?_); rintro e w16 ⟨rfl, hb⟩; refine ⟨_, rfl, ?_⟩; replace BK700 := Aside0.mk (bbl BK700 hb); replace HB := Aside0.mk (bst1 HB GE700 hb); (try clear hb); (try clear hb2); (try clear hk); (try clear hi)) | ((with_reducible refine gate_callee (f := 11) rfl ?_); refine gl 23 Try.func11 #[.slice A2 l2.length c2] ?_; (with_reducible refine (laws_toMotionS.calls k _ _ l2 t705 _ ?side1 ?side2 A8.out).mono ?_); (case side1 => repeat (first | exact (Kd.C_below HR2.out HB.out) | (with_reducible refine Kd.C_alloc ?_ _) | (with_reducible refine Kd.C_drewN ?_ _) | (with_reducible refine Kd.C_drew ?_))); (case side2 => exact HC2.out); rintro e w17 ⟨v706, rfl, ho0, hb⟩; refine ⟨_, rfl, ?_⟩; have HO707 := Aside0.mk (Kd.R_lower ho0 (bsz1 HB GE700)); replace BK700 := Aside0.mk (bbl BK700 hb); replace HB := Aside0.mk (bst1 HB GE700 hb); (try clear hb); (try clear hb2); (try clear hk); (try clear hi); (try clear ho0); obtain ⟨Ao18, co18, eo18⟩ := Kd.R_slice HO707.out; subst eo18) | ((with_reducible refine gate_callee (f := 14) rfl ?_); refine gl 24 Try.func14 #[.int .i64 a0, .agg #[.int .i64 t702, .int .i64 t703, .int .i64 t704], .slice Ao18 t705.length co18] ?_; (with_reducible refine (spec_RotationOrder.calls k a0 t702 t703 t704 _ _ t705 t708 t709 _ ?side1 ?side2 A9.out).mono ?_); (case side1 => repeat (first | exact (Kd.R_reads' HO707.out).2.2 | (with_reducible refine Kd.C_alloc ?_ _) | (with_reducible refine Kd.C_drewN ?_ _) | (with_reducible refine Kd.C_drew ?_))); (case side2 => exact (Kd.R_reads' HO707.out).2.1); rintro e w19 ⟨rfl, hb⟩; refine ⟨_, rfl, ?_⟩; replace HO707 := Aside0.mk (Kd.R_below (by (with_reducible repeat (first | apply Kd.R_alloc | apply Kd.R_drewN | apply Kd.R_drew)); exact HO707.out) hb); replace BK700 := Aside0.mk (bbl BK700 hb); replace HB := Aside0.mk (bst1 HB GE700 hb); (try clear hb); (try clear hb2); (try clear hk); (try clear hi)) | ((with_reducible refine gate_callee (f := 11) rfl ?_); refine gl 28 Try.func11 #[.slice A2 l2.length c2] ?_; (with_reducible refine (laws_toMotionS.calls k _ _ l2 t710 _ ?side1 ?side2 A10.out).mono ?_); (case side1 => repeat (first | exact (Kd.C_below HR2.out HB.out) | (with_reducible refine Kd.C_alloc ?_ _) | (with_reducible refine Kd.C_drewN ?_ _) | (with_reducible refine Kd.C_drew ?_))); (case side2 => exact HC2.out); rintro e w20 ⟨v711, rfl, ho0, hb⟩; refine ⟨_, rfl, ?_⟩; have HO712 := Aside0.mk (Kd.R_lower (Kd.R_new' ho0 (Kd.R_lt (by (with_reducible repeat (first | apply Kd.R_alloc | apply Kd.R_drewN | apply Kd.R_drew)); exact HO707.out))) (bsz1 HB GE700)); replace HO707 := Aside0.mk (Kd.R_elder' (by (with_reducible repeat (first | apply Kd.R_alloc | apply Kd.R_drewN | apply Kd.R_drew)); exact HO707.out) (Kd.R_base ho0) hb); replace BK700 := Aside0.mk (bbl BK700 hb); replace HB := Aside0.mk (bst1 HB GE700 hb); (try clear hb); (try clear hb2); (try clear hk); (try clear hi); (try clear ho0); obtain ⟨hcz21_0, hcz21_1, hcz21_2, hfz21_0, hfz21_1, hfz21_2⟩ := bz3 BK700) | ((with_reducible refine gate_callee (f := 10) rfl ?_); refine gl 32 Try.func10 #[.agg #[.int .i64 a1_0, .int .i64 a1_1, .int .i64 a1_2]] ?_; (with_reducible refine (laws_toLattice.calls a1_0 a1_1 a1_2 t713 t714 t715 _ A11.out).mono ?_); rintro e w22 ⟨rfl, hb⟩; refine ⟨_, rfl, ?_⟩; replace HO707 := Aside0.mk (Kd.R_below (by (with_reducible repeat (first | apply Kd.R_alloc | apply Kd.R_drewN | apply Kd.R_drew)); exact HO707.out) hb); replace HO712 := Aside0.mk (Kd.R_below (by (with_reducible repeat (first | apply Kd.R_alloc | apply Kd.R_drewN | apply Kd.R_drew)); exact HO712.out) hb); replace BK700 := Aside0.mk (bbl BK700 hb); replace HB := Aside0.mk (bst1 HB GE700 hb); (try clear hb); (try clear hb2); (try clear hk); (try clear hi); obtain ⟨Ao23, co23, eo23⟩ := Kd.R_slice HO712.out; subst eo23) | ((with_reducible refine gate_callee (f := 15) rfl ?_); refine gl 34 Try.func15 #[.int .i64 a0, .agg #[.int .i64 t713, .int .i64 t714, .int .i64 t715], .slice Ao23 t710.length co23] ?_; (with_reducible refine (impl_RotationOrder.calls k a0 t713 t714 t715 (fun k_ => some k_ = (.slice Ao23 t710.length co23 : Value).ownBlock) _ _ t710 t716 t717 _ ?side1 A12.out).mono ?_); (case side1 => exact Kd.R_V (Kd.R_tight rfl (Kd.R_types (HO712.out) BK700.out (by decide)))); rintro e w24 ⟨rfl, hb⟩; refine ⟨_, rfl, ?_⟩; replace HO707 := Aside0.mk (Kd.R_below (by (with_reducible repeat (first | apply Kd.R_alloc | apply Kd.R_drewN | apply Kd.R_drew)); exact HO707.out) hb); replace HO712 := Aside0.mk (Kd.R_below (by (with_reducible repeat (first | apply Kd.R_alloc | apply Kd.R_drewN | apply Kd.R_drew)); exact HO712.out) hb); replace BK700 := Aside0.mk (bbl BK700 hb); replace HB := Aside0.mk (bst1 HB GE700 hb); (try clear hb); (try clear hb2); (try clear hk); (try clear hi)))
  (try simp only [Act.put, sA, sB, sC])
  go_cut [44] (fun v44 wc => ∃ (kq : Nat) (x44_12 : Bool), v44 = .bool x44_12 ∧ Aside0 (laws_FnExactRotationOrder.j0 kq l2 t710 x44_12 = some true) ∧ Aside0 (kq ≤ k) ∧ Aside0 (Kd.R k55 55 wc w.heap.size (fun _ => True) (.slice Ao23 t710.length co23) t710) ∧ Aside0 (wc.heap[gb700]? = some (.cells #[.int .i64 a1_0, .int .i64 a1_1, .int .i64 a1_2] 23 (0, 0))) ∧ Aside0 (Below w.heap.size w wc))
  case first =>
   have H := HC13.out
   clear HC13
   by_cases c25 : t716 = t708
   ·rw [if_pos c25] at H
    have c25b0 : (t716 == t708) = true := beq_iff_eq.mpr c25
    have c25b1 : (t716 != t708) = false := bne_eq_false_iff_eq.mpr c25
    clear c25
    (first | rw [c25b0] | (simp only [i64_w, i32_w]; rw [c25b0]) | skip)
    have H' := Aside0.mk H
    clear H
    go_wp2
    go_meet
    case rel => exact ⟨_, ((t717 != t709)), (by first | rfl | (simp; done) | (simp [*]; done)), H', ⟨by first | omega | exact Nat.le_refl _⟩, ⟨by (with_reducible repeat (first | apply Kd.R_alloc | apply Kd.R_drewN | apply Kd.R_drew)); exact Kd.R_mono HO712.out (fun _ hk => trivial)⟩, ⟨bkp BK700⟩, ⟨bbw1 HB GE700⟩⟩
   ·rw [if_neg c25] at H
    have c25b0 : (t716 == t708) = false := beq_eq_false_iff_ne.mpr c25
    have c25b1 : (t716 != t708) = true := bne_iff_ne.mpr c25
    (first | rw [c25b0] | (simp only [i64_w, i32_w]; rw [c25b0]) | skip)
    have H' := Aside0.mk H
    clear H
    go_wp2
    go_meet
    case rel => exact ⟨_, (true), (by first | rfl | (simp; done) | (simp [*]; done)), H', ⟨by first | omega | exact Nat.le_refl _⟩, ⟨by (with_reducible repeat (first | apply Kd.R_alloc | apply Kd.R_drewN | apply Kd.R_drew)); exact Kd.R_mono HO712.out (fun _ hk => trivial)⟩, ⟨bkp BK700⟩, ⟨bbw1 HB GE700⟩⟩
  case rest =>
   clear HC13
   try clear c1
   try clear c2
   try clear p2
   try clear c4
   try clear c5
   try clear c5b0
   try clear c8
   try clear c10
   try clear c11
   try clear c14
   try clear c15
   try clear c25
   try clear c25b0
   try clear c25b1
   try clear hcz15_0
   try clear hcz15_1
   try clear hcz15_2
   try clear hcz21_0
   try clear hcz21_1
   try clear hcz21_2
   try clear hfz15_0
   try clear hfz15_1
   try clear hfz15_2
   try clear hfz21_0
   try clear hfz21_1
   try clear hfz21_2
   obtain ⟨kq, x44_12, rfl, HA, HJ12, HO_10, BK700, HB⟩ := hcut
   cases kq with
   | zero => exact absurd HA.out (by simp [laws_FnExactRotationOrder.j0])
   | succ kj12 =>
    have H := HA.out
    clear HA
    simp only [laws_FnExactRotationOrder.j0] at H
    by_cases c26 : x44_12 = true
    ·subst c26
     have H1 : (some false) = some true := by rw [if_pos rfl] at H; first | done | exact H
     clear H
     have H := H1
     clear H1
     exact absurd H (by simp)
    ·replace c26 := Bool.eq_false_iff.mpr c26
     subst c26
     have H1 : ((laws_toMotionS.f kj12 l2).bind fun t718 => ((laws_eqMotionS.f kj12 t710 t718).bind fun t721 => (if t721 = true then (some true) else (some false)))) = some true := by rw [if_neg (show ¬ (false = true) by decide)] at H; first | done | exact H
     clear H
     have H := H1
     clear H1
     replace H := Option.bind_eq_some_iff.mp H
     obtain ⟨t718, A270, H⟩ := H
     replace H : ((laws_eqMotionS.f kj12 t710 t718).bind fun t721 => (if t721 = true then (some true) else (some false))) = some true := H
     have A27 := Aside0.mk A270
     clear A270
     replace H := Option.bind_eq_some_iff.mp H
     obtain ⟨t721, A280, H⟩ := H
     replace H : (if t721 = true then (some true) else (some false)) = some true := H
     have A28 := Aside0.mk A280
     clear A280
     by_cases c29 : t721 = true
     ·subst c29
      have H1 : (some true) = some true := by rw [if_pos rfl] at H; first | done | exact H
      clear H
      have H := H1
      clear H1
      clear H
      go_wp2_with (first | ((with_reducible refine gate_callee (f := 11) rfl ?_); refine gl 47 Try.func11 #[.slice A2 l2.length c2] ?_; (with_reducible refine (laws_toMotionS.calls kj12 _ _ l2 t718 _ ?side1 ?side2 A27.out).mono ?_); (case side1 => repeat (first | exact (Kd.C_below HR2.out HB.out) | (with_reducible refine Kd.C_alloc ?_ _) | (with_reducible refine Kd.C_drewN ?_ _) | (with_reducible refine Kd.C_drew ?_))); (case side2 => exact HC2.out); rintro e w30 ⟨v719, rfl, ho0, hb⟩; refine ⟨_, rfl, ?_⟩; have HO720 := Aside0.mk (Kd.R_lower (Kd.R_new' ho0 (Kd.R_lt (by (with_reducible repeat (first | apply Kd.R_alloc | apply Kd.R_drewN | apply Kd.R_drew)); exact HO_10.out))) (bsz1 HB GE700)); replace HO_10 := Aside0.mk (Kd.R_elder' (by (with_reducible repeat (first | apply Kd.R_alloc | apply Kd.R_drewN | apply Kd.R_drew)); exact HO_10.out) (Kd.R_base ho0) hb); replace BK700 := Aside0.mk (bbl BK700 hb); replace HB := Aside0.mk (bst1 HB GE700 hb); (try clear hb); (try clear hb2); (try clear hk); (try clear hi); (try clear ho0); obtain ⟨Ao31, co31, eo31⟩ := Kd.R_slice HO720.out; subst eo31) | ((with_reducible refine gate_callee (f := 13) rfl ?_); refine gl 48 Try.func13 #[.slice Ao23 t710.length co23, .slice Ao31 t718.length co31] ?_; (with_reducible refine (laws_eqMotionS.calls kj12 _ _ t710 _ _ t718 true _ ?side1 ?side2 ?side3 ?side4 A28.out).mono ?_); (case side1 => repeat (first | exact (Kd.R_reads' HO_10.out).2.2 | (with_reducible refine Kd.C_alloc ?_ _) | (with_reducible refine Kd.C_drewN ?_ _) | (with_reducible refine Kd.C_drew ?_))); (case side2 => exact (Kd.R_reads' HO_10.out).2.1); (case side3 => repeat (first | exact (Kd.R_reads' HO720.out).2.2 | (with_reducible refine Kd.C_alloc ?_ _) | (with_reducible refine Kd.C_drewN ?_ _) | (with_reducible refine Kd.C_drew ?_))); (case side4 => exact (Kd.R_reads' HO720.out).2.1); rintro e w32 ⟨rfl, hb⟩; refine ⟨_, rfl, ?_⟩; replace HO_10 := Aside0.mk (Kd.R_below (by (with_reducible repeat (first | apply Kd.R_alloc | apply Kd.R_drewN | apply Kd.R_drew)); exact HO_10.out) hb); replace HO720 := Aside0.mk (Kd.R_below (by (with_reducible repeat (first | apply Kd.R_alloc | apply Kd.R_drewN | apply Kd.R_drew)); exact HO720.out) hb); replace BK700 := Aside0.mk (bbl BK700 hb); replace HB := Aside0.mk (bst1 HB GE700 hb); (try clear hb); (try clear hb2); (try clear hk); (try clear hi)))
      go_ret
      exact ⟨by first | rfl | (simp [errW_none, errW_some] <;> rfl) | (simp [*, errW_none, errW_some] <;> rfl), bbw1 HB GE700⟩
     ·replace c29 := Bool.eq_false_iff.mpr c29
      subst c29
      have H1 : (some false) = some true := by rw [if_neg (show ¬ (false = true) by decide)] at H; first | done | exact H
      clear H
      have H := H1
      clear H1
      exact absurd H (by simp)

/-- The one plain statement of laws_FnExactRotationOrder. -/
def laws_FnExactRotationOrder.Pure : Prop := ∀ (a0 : Int) (a1_0 : Int) (a1_1 : Int) (a1_2 : Int) (l2 : List (S60)), (Lit.int .i64 a0).wf = true → (Lit.int .i64 a1_0).wf = true → (Lit.int .i64 a1_1).wf = true → (Lit.int .i64 a1_2).wf = true → l2.length ≤ maxLen → (∀ x ∈ l2, (Lit.int .i64 x.f0.f0).wf = true ∧ (Lit.int .i64 x.f0.f1).wf = true ∧ (Lit.int .i64 x.f0.f2).wf = true ∧ (Lit.int .i64 x.f0.f3).wf = true ∧ (Lit.int .i64 x.f1.f0).wf = true ∧ (Lit.int .i64 x.f1.f1).wf = true) → ∃ k, laws_FnExactRotationOrder.f k a0 a1_0 a1_1 a1_2 l2 = some true
end Go.Proofs.Ytcchmdodifkloaa.PA
