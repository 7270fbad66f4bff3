/- Walks written by program: each Go function that the law reaches comes to the plain function beside it. -/
import Derived.Test.YtnblfcibgokccaaGreatDoorPCx0
import Derived.Test.YtnblfcibgokccaaGreatDoorPCx8
import Derived.Test.YtnblfcibgokccaaGreatDoorPCx12
namespace Go.Proofs.YtnblfcibgokccaaGreatDoor.PC
open Go.RowKit Go.Proofs.YtnblfcibgokccaaGreatDoorW.PrintWords Go.Proofs.YtnblfcibgokccaaGreatDoorW.PrintLast Go.Proofs.YtnblfcibgokccaaGreatDoorW.PrintMore
attribute [local go_sem] max2_int min2_int max_two min_two max_three min_three max_four min_four   -- for this text's walks alone
set_option linter.unusedVariables false
set_option linter.unusedSimpArgs false

/-! ### spec_l01Numbers: function 64 -/
def spec_l01Numbers.l0 : Nat → List ByteArray → List Int → Int → Option (List Int × Bool)
 | 0, _, _, _ => none
 | k + 1, x0, x4, x5 => if x5 < (x0.length : Int) then (if 0 ≤ x5 then ((spec_l01Signed.f k (rdOf ByteArray.empty x0 x5)).bind fun bt627 => (if bt627.2 = true then (if x4.length < 17592186044416 then (spec_l01Numbers.l0 k x0 (x4 ++ [bt627.1]) (wrap64 (x5 + 1))) else (none)) else (some (([] : List Int), false)))) else (none)) else (some (x4, true))
def spec_l01Numbers.f (k : Nat) (l0 : List ByteArray) : Option (List Int × Bool) := spec_l01Numbers.l0 k l0 (([] : List Int)) 0
set_option maxHeartbeats 8000000 in
set_option maxRecDepth 100000 in
theorem spec_l01Numbers.calls (k : Nat) (A0 : Option Addr) (c0 : Nat) (l0 : List ByteArray) (r1 : List Int) (r2 : Bool) (w : World) (hr0 : Kd.C Kd.string w A0 l0.length l0) (hc0 : l0.length ≤ c0) (h : spec_l01Numbers.f k l0 = some (r1, r2)) :
  Calls Tryz.prog 64 #[.slice A0 l0.length c0] w fun e w' => ∃ v0_ : Value, e = .returned (.tuple #[v0_, .bool r2]) ∧ Kd.R (Kd.int .i64) 2 w' w.heap.size (fun _ => True) v0_ r1 ∧ Below w.heap.size w w' := by
 have HR0 := Aside0.mk hr0
 have HC0 := Aside0.mk hc0
 clear hr0 hc0
 have HB := asd (Below.refl w.heap.size w)
 have H : (spec_l01Numbers.l0 k l0 (([] : List Int)) 0) = some (r1, r2) := h
 clear h
 obtain ⟨y623, hy623⟩ : ∃ y_ : List Int, y_ = (([] : List Int)) := ⟨_, rfl⟩
 replace H : (spec_l01Numbers.l0 k l0 y623 0) = some (r1, r2) := by first | (rw [hy623]; with_reducible exact H) | (have H2_ := (Option.bind_some _ _).symm.trans H; rw [hy623]; with_reducible exact H2_) | (have H2_ := (Option.bind_some _ _).symm.trans H; with_reducible exact H2_) | with_reducible exact H | (rw [hy623]; exact H) | exact H
 have Ny623 := Aside0.mk hy623
 clear hy623
 have H' := Aside0.mk H
 clear H
 go_enter Tryz.func64, Tryz.ntmps64
 go_wp2_with (first | ((with_reducible refine gd 8 rfl ?_); refine Kd.R_lit (Kd.int .i64) _ 2 ?hg (N := 8) ?hd (xs := ([] : List Int)) (inner := []) (ok := fun _ => True) (okp := fun _ => True) ?hr ?hp (fun _ hk => hk) trivial (Below.refl _ _) (Nat.le_refl _) (by simp) ?_; (case hd => rfl); (case hg => rfl); (case hr => first | (go_simp; done) | (go_simp; rfl)); (case hp => exact (Reps.none _ _)); intro v624 w2 ho3 hb hg_ hnew_; clear hg_ hnew_; (first | rw [← Ny623.out] at ho3 | (simp only [Int.reduceToNat] at ho3; rw [← Ny623.out] at ho3)); have HO625 := asd (Kd.R_lower ho3 (bsz0 HB)); replace HB := bS0 HB hb; clear hb ho3))
 go_loopg [4, 5] k (fun kq v4 v5 w' => ∃ (x4_1 : List Int) (x5_1 : Int), v5 = .int .i64 x5_1 ∧ Aside0 (spec_l01Numbers.l0 kq l0 x4_1 x5_1 = some (r1, r2)) ∧ Aside0 (kq ≤ k) ∧ Aside0 (Kd.R (Kd.int .i64) 2 w' w.heap.size (fun _ => True) v4 x4_1) ∧ Aside0 (Below w.heap.size w w'))
 case atStart => exact ⟨(y623), (0), (by first | rfl | (simp; done) | (simp [*]; done)), H', ⟨Nat.le_refl _⟩, ⟨by (with_reducible repeat (first | apply Kd.R_alloc | apply Kd.R_drewN | apply Kd.R_drew)); exact HO625.out⟩, ⟨bbw0 HB⟩⟩
 case round =>
  clear H'
  try clear p2
  obtain ⟨x4_1, x5_1, rfl, HA, HK1, HO_4, HB⟩ := hrel
  cases gk with
  | zero => exact absurd HA.out (by simp [spec_l01Numbers.l0])
  | succ k1 =>
   have H := HA.out
   clear HA
   simp only [spec_l01Numbers.l0] at H
   by_cases c4 : x5_1 < (l0.length : Int)
   rw [if_pos c4] at H
   have c4b0 := decide_eq_true c4
   clear c4
   by_cases c5 : 0 ≤ x5_1
   rw [if_pos c5] at H
   have c5b0 := decide_eq_true c5
   clear c5
   obtain ⟨⟨t627, t628⟩, A6, H⟩ := ob H
   try dsimp only at H
   by_cases c7 : t628 = true
   subst c7
   replace H := ifT H
   by_cases c8 : x4_1.length < 17592186044416
   rw [if_pos c8] at H
   have LMc8 := Aside0.mk c8
   clear c8
   obtain ⟨y629, hy629⟩ : ∃ y_ : List Int, y_ = (x4_1 ++ [t627]) := ⟨_, rfl⟩
   replace H : (spec_l01Numbers.l0 k1 l0 y629 (wrap64 (x5_1 + 1))) = some (r1, r2) := by first | (rw [hy629]; with_reducible exact H) | (have H2_ := (Option.bind_some _ _).symm.trans H; rw [hy629]; with_reducible exact H2_) | (have H2_ := (Option.bind_some _ _).symm.trans H; with_reducible exact H2_) | with_reducible exact H | (rw [hy629]; exact H) | exact H
   have Ny629 := Aside0.mk hy629
   clear hy629
   have H' := Aside0.mk H
   clear H
   rotate_left
   ·rw [if_neg c8] at H
    exact absurd H (by simp)
   replace c7 := Bool.eq_false_iff.mpr c7
   subst c7
   replace H := ifF H
   rotate_left
   ·rw [if_neg c5] at H
    exact absurd H (by simp)
   rw [if_neg c4] at H
   have c4b0 := decide_eq_false c4
   clear c4
   rotate_left
   rotate_left
   simp only [Option.some.injEq, Prod.mk.injEq] at H
   obtain ⟨rfl, rfl⟩ := H
   rotate_left
   ·simp only [Option.some.injEq, Prod.mk.injEq] at H
    obtain ⟨rfl, rfl⟩ := H
    go_wp2
    go_ret2
    exact ⟨_, by first | rfl | (simp [errW_none, errW_some] <;> rfl) | (simp [*, errW_none, errW_some] <;> rfl), by (with_reducible repeat (first | apply Kd.R_alloc | apply Kd.R_drewN | apply Kd.R_drew)); exact HO_4.out, bbw0 HB⟩
   all_goals
    have p626 : 0 ≤ (x5_1 : Int) := od
    have q626 : x5_1 < (l0.length : Int) := od
    obtain ⟨ad626, e626, hx626_0⟩ := Kd.at_string HR0.out x5_1 p626 q626
    cases e626
    replace hx626_0 := xb HB hx626_0
    replace p626 := eq_true p626
    replace q626 := eq_true q626
    go_wp2_with (first | ((with_reducible refine gate_callee (f := 106) rfl ?_); refine gl 20 Tryz.func106 #[.string (rdOf ByteArray.empty l0 x5_1)] ?_; (with_reducible refine (spec_l01Signed.calls _ _ _ _ _ A6.out).mono ?_); rintro e w9 ⟨rfl, hb⟩; refine ⟨_, rfl, ?_⟩; replace HO_4 := asd (Kd.R_below (kr HO_4) hb); replace HB := bS0 HB hb; (try clear hb)) | ((with_reducible refine gate_builtin (b := .append) (xs := #[.tmp 25, .tmp 27]) rfl ?_); at_builtin; refine Kd.R_append (Kd.int .i64) (w0 := w) w.heap.size rfl (.tmp 25) (.tmp 27) 48 2 (.int .i64 0) 8 rfl Tryz.underlying48 info2 rfl (by decide) (by omega) u4 x4_1 t627 [.int .i64 t627] (fun _ => True) (fun _ => False) rfl rfl ?aP (fun _ hk => hk.elim) ?aF ?aO ?aB ?aS ?aL ?_; (case aP => exact rfl); (case aB => exact (bbw0 HB)); (case aF => exact (fun _ _ => trivial)); (case aO => exact (kr HO_4)); (case aS => exact (bsz0 HB)); (case aL => have := LMc8.out; omega); intro v630 w10 ho hb hg hat; rw [← Ny629.out] at ho; have n0_ := asd (hb); have n1_ := asd (ho); clear HB; clear HO_4; have HB := n0_; have HO631 := n1_; clear n0_ n1_; clear ho hb hg hat))
   ·go_roundg k1
    case measure => have := HK1.out; omega
    case rel => exact ⟨(y629), (wrap64 (x5_1 + 1)), (by first | rfl | (simp; done) | (simp [*]; done)), H', ⟨by have := HK1.out; omega⟩, ⟨by (with_reducible repeat (first | apply Kd.R_alloc | apply Kd.R_drewN | apply Kd.R_drew)); exact HO631.out⟩, ⟨bbw0 HB⟩⟩
   ·go_ret2
    exact ⟨_, by first | rfl | (simp [errW_none, errW_some] <;> rfl) | (simp [*, errW_none, errW_some] <;> rfl), by first | exact Kd.R_nil _ _ _ _ _ | exact Kd.N_nil _ _ _ _ _ | exact Kd.V_nil _ _ _ _ _ | exact Kd.Q_nil _ _ _ _ _ | exact Kd.S_nil _ _ _ _ _, bbw0 HB⟩
/-! ### spec_ReadMat: function 21 -/
def spec_ReadMat.j0 : Nat → List Int → Bool → Option (Int × Int × Int × Int × Bool)
 | 0, _, _ => none
 | k + 1, x4, x19 => if x19 = true then (some (0, 0, 0, 0, false)) else (if 0 < (x4.length : Int) then (if 1 < (x4.length : Int) then (if 2 < (x4.length : Int) then (if 3 < (x4.length : Int) then ((spec_IsMat.f (rd x4 0) (rd x4 1) (rd x4 2) (rd x4 3)).bind fun t645 => (if t645 = true then (some (rd x4 0, rd x4 1, rd x4 2, rd x4 3, true)) else (some (0, 0, 0, 0, false)))) else (none)) else (none)) else (none)) else (none))
def spec_ReadMat.f (k : Nat) (a0 : ByteArray) : Option (Int × Int × Int × Int × Bool) := (spec_l01Split.f k a0 44).bind fun t633 => ((spec_l01Numbers.f k t633).bind fun bt636 => (if bt636.2 = true then (spec_ReadMat.j0 k bt636.1 ((bt636.1.length : Int) != 4)) else (spec_ReadMat.j0 k bt636.1 true)))
def spec_ReadMat.T4 : Bool × List (List Nat × List Nat) := (true, [([], []), ([0], [0]), ([1], [1]), ([], []), ([3], [3]), ([4], [4]), ([], []), ([6], [6]), ([7], [7]), ([], []), ([9], [9]), ([10], [10]), ([2, 5, 8, 11], [2, 5, 8, 11]), ([], []), ([13, 12, 0, 1, 2, 3, 4, 5, 6, 7, 8, 9, 10, 11, 12, 13], [12, 13])])
def spec_ReadMat.B4 : List Nat := [0, 1, 3, 0, 8, 24, 0, 64, 192, 0, 512, 1536, 4095, 0, 16383]
theorem spec_ReadMat.tab4 : rtab .any (opsOf Tryz.f21 4) = spec_ReadMat.T4 := by kernel_rfl
theorem spec_ReadMat.bits4 : waitsOk spec_ReadMat.T4.2 spec_ReadMat.B4 = true := by kernel_rfl
set_option maxHeartbeats 8000000 in
set_option maxRecDepth 100000 in
theorem spec_ReadMat.calls (k : Nat) (a0 : ByteArray) (r1 : Int) (r2 : Int) (r3 : Int) (r4 : Int) (r5 : Bool) (w : World) (h : spec_ReadMat.f k a0 = some (r1, r2, r3, r4, r5)) :
  Calls Tryz.prog 21 #[.string a0] w fun e w' => e = .returned (.tuple #[.agg #[.int .i64 r1, .int .i64 r2, .int .i64 r3, .int .i64 r4], .bool r5]) ∧ Below w.heap.size w w' := by
 have hu25 := Tryz.underlying25
 have HB := asd (Below.refl w.heap.size w)
 have H : ((spec_l01Split.f k a0 44).bind fun t633 => ((spec_l01Numbers.f k t633).bind fun bt636 => (if bt636.2 = true then (spec_ReadMat.j0 k bt636.1 ((bt636.1.length : Int) != 4)) else (spec_ReadMat.j0 k bt636.1 true)))) = some (r1, r2, r3, r4, r5) := h
 clear h
 obtain ⟨t633, A2, H⟩ := ob H
 try dsimp only at H
 obtain ⟨⟨t636, t637⟩, A3, H⟩ := ob H
 try dsimp only at H
 have HC4 := Aside0.mk H
 clear H
 go_enter Tryz.func21, Tryz.ntmps21
 go_upto_region 2 with (first | ((with_reducible refine gd 2 rfl ?_); (try (refine gate_guard (by rfl) ?_; dsimp only)); refine bx #[.int .i64 0, .int .i64 0, .int .i64 0, .int .i64 0] 25 ?_; intro gb632 hg w5 BK632 hb; have GE632 := ngw0 hg HB; replace HB := bS0 HB hb; clear hb hg) | ((with_reducible refine gate_callee (f := 47) rfl ?_); refine gl 9 Tryz.func47 #[.string a0, .int .u8 44] ?_; (with_reducible refine (spec_l01Split.calls _ _ _ _ _ A2.out).mono ?_); rintro e w6 ⟨v634, rfl, ho0, hb⟩; refine ⟨_, rfl, ?_⟩; have HO635 := asd (Kd.R_lower ho0 (bsz1 HB GE632)); replace BK632 := bB BK632 hb; replace HB := bS1 HB GE632 hb; (try clear hb); (try clear hb2); (try clear hk); (try clear hi); (try clear ho0); obtain ⟨Ao7, co7, eo7⟩ := Kd.R_slice HO635.out; subst eo7) | ((with_reducible refine gate_callee (f := 64) rfl ?_); refine gl 10 Tryz.func64 #[.slice Ao7 t633.length co7] ?_; (with_reducible refine (spec_l01Numbers.calls _ _ _ _ _ _ _ ?side1 ?side2 A3.out).mono ?_); (case side1 => exact ks (Kd.R_reads' HO635.out).2.2); (case side2 => exact (Kd.R_reads' HO635.out).2.1); rintro e w8 ⟨v638, rfl, ho0, hb⟩; refine ⟨_, rfl, ?_⟩; replace HO635 := asd (Kd.R_below (kr HO635) hb); have HO639 := asd (Kd.R_lower ho0 (bsz1 HB GE632)); replace BK632 := bB BK632 hb; replace HB := bS1 HB GE632 hb; (try clear hb); (try clear hb2); (try clear hk); (try clear hi); (try clear ho0)))
 (try simp only [Act.put, sA, sB, sC])
 go_cut [19] (fun v19 wc => ∃ (kq : Nat) (x19_3 : Bool), v19 = .bool x19_3 ∧ Aside0 (spec_ReadMat.j0 kq t636 x19_3 = some (r1, r2, r3, r4, r5)) ∧ Aside0 (kq ≤ k) ∧ Aside0 (Kd.R (Kd.int .i64) 2 wc w.heap.size (fun _ => True) v638 t636) ∧ Aside0 (wc.heap[gb632]? = some (.cells #[.int .i64 0, .int .i64 0, .int .i64 0, .int .i64 0] 25 (0, 0))) ∧ Aside0 (Below w.heap.size w wc))
 case first =>
  have H := HC4.out
  clear HC4
  by_cases c9 : t637 = true
  ·subst c9
   replace H := ifT H
   have H' := Aside0.mk H
   clear H
   obtain ⟨Ao10, co10, eo10⟩ := Kd.R_slice HO639.out
   subst eo10
   go_wp2
   go_meet
   case rel => exact ⟨_, (((t636.length : Int) != 4)), (by first | rfl | (simp; done) | (simp [*]; done)), H', ⟨by first | omega | exact Nat.le_refl _⟩, ⟨by (with_reducible repeat (first | apply Kd.R_alloc | apply Kd.R_drewN | apply Kd.R_drew)); exact HO639.out⟩, ⟨bkp BK632⟩, ⟨bbw1 HB GE632⟩⟩
  ·replace c9 := Bool.eq_false_iff.mpr c9
   subst c9
   replace H := ifF H
   have H' := Aside0.mk H
   clear H
   go_wp2
   go_meet
   case rel => exact ⟨_, (true), (by first | rfl | (simp; done) | (simp [*]; done)), H', ⟨by first | omega | exact Nat.le_refl _⟩, ⟨by (with_reducible repeat (first | apply Kd.R_alloc | apply Kd.R_drewN | apply Kd.R_drew)); exact HO639.out⟩, ⟨bkp BK632⟩, ⟨bbw1 HB GE632⟩⟩
 case rest =>
  clear HC4
  try clear c2
  try clear p2
  try clear c4
  try clear c6
  try clear c9
  obtain ⟨kq, x19_3, rfl, HA, HJ3, HO_4, BK632, HB⟩ := hcut
  cases kq with
  | zero => exact absurd HA.out (by simp [spec_ReadMat.j0])
  | succ kj3 =>
   have H := HA.out
   clear HA
   simp only [spec_ReadMat.j0] at H
   by_cases c11 : x19_3 = true
   subst c11
   replace H := ifT H
   rotate_left
   replace c11 := Bool.eq_false_iff.mpr c11
   subst c11
   replace H := ifF H
   by_cases c13 : 0 < (t636.length : Int)
   rw [if_pos c13] at H
   have c13b0 := decide_eq_true c13
   have c13b1 : decide (0 < t636.length) = true := decide_eq_true (by omega)
   clear c13
   by_cases c14 : 1 < (t636.length : Int)
   rw [if_pos c14] at H
   have c14b0 := decide_eq_true c14
   have c14b1 : decide (1 < t636.length) = true := decide_eq_true (by omega)
   clear c14
   by_cases c15 : 2 < (t636.length : Int)
   rw [if_pos c15] at H
   have c15b0 := decide_eq_true c15
   have c15b1 : decide (2 < t636.length) = true := decide_eq_true (by omega)
   clear c15
   by_cases c16 : 3 < (t636.length : Int)
   rw [if_pos c16] at H
   have c16b0 := decide_eq_true c16
   have c16b1 : decide (3 < t636.length) = true := decide_eq_true (by omega)
   clear c16
   obtain ⟨t645, A17, H⟩ := ob H
   try dsimp only at H
   by_cases c18 : t645 = true
   subst c18
   replace H := ifT H
   rotate_left
   replace c18 := Bool.eq_false_iff.mpr c18
   subst c18
   replace H := ifF H
   rotate_left
   ·rw [if_neg c16] at H
    exact absurd H (by simp)
   ·rw [if_neg c15] at H
    exact absurd H (by simp)
   ·rw [if_neg c14] at H
    exact absurd H (by simp)
   ·rw [if_neg c13] at H
    exact absurd H (by simp)
   all_goals
    simp only [Option.some.injEq, Prod.mk.injEq] at H
    obtain ⟨rfl, rfl, rfl, rfl, rfl⟩ := H
   ·obtain ⟨hcz12_0, hcz12_1, hcz12_2, hcz12_3, hfz12_0, hfz12_1, hfz12_2, hfz12_3⟩ := bz4 BK632
    go_wp2
    refine bodyPost_ret (results_ct rfl _ _ gb632 25 #[.int .i64 0, .int .i64 0, .int .i64 0, .int .i64 0] (0, 0) _ rfl (bq0 BK632) Tryz.underlying25 rfl (by kernel_rfl)) rfl ?_
    exact er (bbw1 HB GE632)
   rotate_left 2
   all_goals
    try go_wp2
    replace HO_4 := asd (Kd.R_drew HO_4.out)
    replace BK632 := asd (blk_drew BK632.out)
    replace HB := asd (below_drew1 HB.out)
    obtain ⟨Ao20, co20, eo20⟩ := Kd.R_slice HO_4.out
    (first | subst eo20 | (injection eo20 with f1_ f2_ f3_; have f4_ := f1_.symm; have f5_ := f3_.symm; clear f1_ f2_ f3_; subst f4_; subst f5_))
    have p640 : 0 ≤ (0 : Int) := (by omega)
    have q640 : 0 < (t636.length : Int) := od
    obtain ⟨ad640, e640, hx640_0⟩ := Kd.at_int (Kd.R_reads' HO_4.out).2.2 0 p640 q640
    cases e640
    have qi640 : (0 < t636.length) = True := eq_true (by omega)
    (try rw [show ((0 : Int)).toNat = 0 from rfl] at hx640_0)
    (try rw [Addr.add_zero'] at hx640_0)
    replace p640 := eq_true p640
    replace q640 := eq_true q640
    have p641 : 0 ≤ (1 : Int) := (by omega)
    have q641 : 1 < (t636.length : Int) := od
    obtain ⟨ad641, e641, hx641_0⟩ := Kd.at_int (Kd.R_reads' HO_4.out).2.2 1 p641 q641
    obtain rfl : ad640 = ad641 := (by injection e641)
    (try simp only [show (1 : Int).toNat = 1 from rfl, Nat.reduceMul, Nat.reduceEqDiff, Go.Addr.add, ↓reduceIte] at hx641_0)
    have qi641 : (1 < t636.length) = True := eq_true (by omega)
    (try rw [show ((1 : Int)).toNat = 1 from rfl] at hx641_0)
    replace p641 := eq_true p641
    replace q641 := eq_true q641
    have p642 : 0 ≤ (2 : Int) := (by omega)
    have q642 : 2 < (t636.length : Int) := od
    obtain ⟨ad642, e642, hx642_0⟩ := Kd.at_int (Kd.R_reads' HO_4.out).2.2 2 p642 q642
    obtain rfl : ad640 = ad642 := (by injection e642)
    (try simp only [show (2 : Int).toNat = 2 from rfl, Nat.reduceMul, Nat.reduceEqDiff, Go.Addr.add, ↓reduceIte] at hx642_0)
    have qi642 : (2 < t636.length) = True := eq_true (by omega)
    (try rw [show ((2 : Int)).toNat = 2 from rfl] at hx642_0)
    replace p642 := eq_true p642
    replace q642 := eq_true q642
    have p643 : 0 ≤ (3 : Int) := (by omega)
    have q643 : 3 < (t636.length : Int) := od
    obtain ⟨ad643, e643, hx643_0⟩ := Kd.at_int (Kd.R_reads' HO_4.out).2.2 3 p643 q643
    obtain rfl : ad640 = ad643 := (by injection e643)
    (try simp only [show (3 : Int).toNat = 3 from rfl, Nat.reduceMul, Nat.reduceEqDiff, Go.Addr.add, ↓reduceIte] at hx643_0)
    have qi643 : (3 < t636.length) = True := eq_true (by omega)
    (try rw [show ((3 : Int)).toNat = 3 from rfl] at hx643_0)
    replace p643 := eq_true p643
    replace q643 := eq_true q643
    refine sh 15 (c1 hx640_0 (c1 hx641_0 (c1 hx642_0 (e1 hx643_0)))) (fun hHeld => ?_); refine with_tabW spec_ReadMat.tab4 spec_ReadMat.bits4 (fun HT_ HW_ => ?_)
    generalize wc.drew = w19 at HO_4 BK632 HB hx640_0 hx641_0 hx642_0 hx643_0 hHeld ⊢
    refine pu 0 (some 21) (bT 15 1) HT_ ?_
    refine pu 1 (some 22) (bT 15 2) HT_ ?_
    refine pu 3 (some 24) (bs 15 11) HT_ ?_
    refine pu 4 (some 25) (bs 15 27) HT_ ?_
    refine pu 6 (some 27) (bs 15 91) HT_ ?_
    refine pu 7 (some 28) (bs 15 219) HT_ ?_
    refine pu 9 (some 30) (bs 15 731) HT_ ?_
    refine pu 10 (some 31) (bs 15 1755) HT_ ?_
    refine ta 2 (some 23) (bs 15 1759) HT_ HW_ hHeld ?_
    refine ta 5 (some 26) (bs 15 1791) HT_ HW_ hHeld ?_
    refine ta 8 (some 29) (bT 15 11) HT_ HW_ hHeld ?_
    refine ta 11 (some 32) (bT 15 12) HT_ HW_ hHeld ?_
    refine pu 12 (some 33) (bT 15 13) HT_ ?_
    refine ro 13 (some 6) (bT 15 14) HT_ (fun K hK => ?_)
    refine box_step ?hg (N := 6) ?hd (cs := #[.int .i64 0, .int .i64 0, .int .i64 0, .int .i64 0]) (t := 25) ?hr ?_; (case hd => rfl); (case hg => rfl); (case hr => first | (go_simp; done) | (go_simp; rfl))
    intro gb644 hg w21 hbox hb
    have HS0_ := hbc hb (hHeld.1)
    have HS1_ := hbc hb (hHeld.2.1)
    have HS2_ := hbc hb (hHeld.2.2.1)
    have HS3_ := hbc hb (hHeld.2.2.2)
    replace HO_4 := asd (Kd.R_below (kr HO_4) hb)
    have BK644 := asd (hbox)
    have GE644 := ngw1 hg HB GE632
    replace HB := bS1 HB GE632 hb
    have NB632_644 := nlt hg BK632
    have NB644_632 := nsy (nlt hg BK632)
    replace BK632 := bB BK632 hb
    clear hb hbox hg
    refine hK.out _ _ ⟨HS0_, HS1_, HS2_, HS3_⟩ (fun hHeld => ?_)
    clear hK K
    refine norm_ (a' := ?_) ?_ ?_
    rotate_left
    ·show Act.put _ (some 6) _ = _
     simp only [Act.put, sA, sB, sC, i64_w, i32_w]
     rfl
    refine ro 14 (none) (bT 15 15) HT_ (fun K hK => ?_)
    have hs22 : w21.cell? ⟨gb644, 0, none⟩ = some (.int .i64 0) := bcl BK644 0
    have hfs22 := blk_frozen BK644.out 0
    have hns22_0 := NB632_644.out
    have hms22_0 := NB644_632.out
    have hs23 : w21.cell? ⟨gb644, 1, none⟩ = some (.int .i64 0) := bcl BK644 1
    have hfs23 := blk_frozen BK644.out 1
    have hns23_0 := NB632_644.out
    have hms23_0 := NB644_632.out
    have hs24 : w21.cell? ⟨gb644, 2, none⟩ = some (.int .i64 0) := bcl BK644 2
    have hfs24 := blk_frozen BK644.out 2
    have hns24_0 := NB632_644.out
    have hms24_0 := NB644_632.out
    have hs25 : w21.cell? ⟨gb644, 3, none⟩ = some (.int .i64 0) := bcl BK644 3
    have hfs25 := blk_frozen BK644.out 3
    have hns25_0 := NB632_644.out
    have hms25_0 := NB644_632.out
    refine skip_ (w1 := ?_) (by rfl) rfl ?_ ?_
    rotate_left
    ·go_simp
     rfl
    refine hK.out _ _ ⟨(fx4 (Kd.own_blk (Kd.R_ne HO_4.out BK644.out (by decide))) (hHeld.1)), (fx4 (Kd.own_blk (Kd.R_ne HO_4.out BK644.out (by decide))) (hHeld.2.1)), (fx4 (Kd.own_blk (Kd.R_ne HO_4.out BK644.out (by decide))) (hHeld.2.2.1)), (fx4 (Kd.own_blk (Kd.R_ne HO_4.out BK644.out (by decide))) (hHeld.2.2.2))⟩ (fun hHeld => ?_)
    clear hK K
    refine done_ (done_of HT_.out (by kernel_rfl)) ?_
    have hnb26 := NB644_632.out
    have hnc26 := NB632_644.out
    obtain ⟨hcz27_0, hcz27_1, hcz27_2, hcz27_3, hfz27_0, hfz27_1, hfz27_2, hfz27_3⟩ := bz4 BK644
   ·try go_wp2_with (first | ((with_reducible refine gate_callee (f := 58) rfl ?_); refine gl 35 Tryz.func58 #[.agg #[.int .i64 (rd t636 0), .int .i64 (rd t636 1), .int .i64 (rd t636 2), .int .i64 (rd t636 3)]] ?_; (with_reducible refine (spec_IsMat.calls _ _ _ _ _ _ A17.out).mono ?_); rintro e w28 ⟨rfl, hb⟩; refine ⟨_, rfl, ?_⟩; replace HO_4 := asd (Kd.R_below (by (with_reducible repeat (first | apply Kd.R_alloc | apply Kd.R_drewN | apply Kd.R_drew)); exact (Kd.R_mono (rw4 (Kd.R_types HO_4.out BK644.out (by decide))) (fun _ h_ => h_.1))) hb); replace BK632 := asd (blk_below (g := gb632) (o := .cells #[.int .i64 0, .int .i64 0, .int .i64 0, .int .i64 0] 25 (0, 0)) (bq1 BK632 NB632_644) hb); replace BK644 := asd (blk_below (g := gb644) (o := .cells #[.int .i64 (rd t636 0), .int .i64 (rd t636 1), .int .i64 (rd t636 2), .int .i64 (rd t636 3)] 25 (0, 0)) (bq0 BK644) hb); replace HB := bS2 HB GE632 GE644 hb; (try clear hb); obtain ⟨hcz29_0, hcz29_1, hcz29_2, hcz29_3, hfz29_0, hfz29_1, hfz29_2, hfz29_3⟩ := bz4 BK644; obtain ⟨hcz30_0, hcz30_1, hcz30_2, hcz30_3, hfz30_0, hfz30_1, hfz30_2, hfz30_3⟩ := bz4 BK632))
    refine bodyPost_ret (results_ct rfl _ _ gb632 25 #[.int .i64 (rd t636 0), .int .i64 (rd t636 1), .int .i64 (rd t636 2), .int .i64 (rd t636 3)] (0, 0) _ rfl (bq0 BK632) Tryz.underlying25 rfl (by kernel_rfl)) rfl ?_
    exact er (bbw2 HB GE632 GE644)
   ·try go_wp2_with (first | ((with_reducible refine gate_callee (f := 58) rfl ?_); refine gl 35 Tryz.func58 #[.agg #[.int .i64 (rd t636 0), .int .i64 (rd t636 1), .int .i64 (rd t636 2), .int .i64 (rd t636 3)]] ?_; (with_reducible refine (spec_IsMat.calls _ _ _ _ _ _ A17.out).mono ?_); rintro e w40 ⟨rfl, hb⟩; refine ⟨_, rfl, ?_⟩; replace HO_4 := asd (Kd.R_below (by (with_reducible repeat (first | apply Kd.R_alloc | apply Kd.R_drewN | apply Kd.R_drew)); exact (Kd.R_mono (rw4 (Kd.R_types HO_4.out BK644.out (by decide))) (fun _ h_ => h_.1))) hb); replace BK632 := asd (blk_below (g := gb632) (o := .cells #[.int .i64 0, .int .i64 0, .int .i64 0, .int .i64 0] 25 (0, 0)) (bq1 BK632 NB632_644) hb); replace BK644 := asd (blk_below (g := gb644) (o := .cells #[.int .i64 (rd t636 0), .int .i64 (rd t636 1), .int .i64 (rd t636 2), .int .i64 (rd t636 3)] 25 (0, 0)) (bq0 BK644) hb); replace HB := bS2 HB GE632 GE644 hb; (try clear hb); obtain ⟨hcz41_0, hcz41_1, hcz41_2, hcz41_3, hfz41_0, hfz41_1, hfz41_2, hfz41_3⟩ := bz4 BK632))
    refine bodyPost_ret (results_ct rfl _ _ gb632 25 #[.int .i64 0, .int .i64 0, .int .i64 0, .int .i64 0] (0, 0) _ rfl (bq0 BK632) Tryz.underlying25 rfl (by kernel_rfl)) rfl ?_
    exact er (bbw2 HB GE632 GE644)
/-! ### spec_ReadVec: function 48 -/
def spec_ReadVec.f (k : Nat) (a0 : ByteArray) : Option (Int × Int × Bool) := (spec_l01Split.f k a0 44).bind fun t647 => ((spec_l01Numbers.f k t647).bind fun bt650 => (if bt650.2 = true then (if (bt650.1.length : Int) = 2 then (if 0 < (bt650.1.length : Int) then (if 1 < (bt650.1.length : Int) then ((spec_IsVec.f (rd bt650.1 0) (rd bt650.1 1)).bind fun t656 => (if t656 = true then (some (rd bt650.1 0, rd bt650.1 1, true)) else (some (0, 0, false)))) else (none)) else (none)) else (some (0, 0, false))) else (some (0, 0, false))))
def spec_ReadVec.T2 : Bool × List (List Nat × List Nat) := (true, [([], []), ([0], [0]), ([1], [1]), ([2], [2]), ([3, 2], [2, 3]), ([4, 2], [2, 4]), ([2, 5], [2, 5]), ([6, 2], [6]), ([7], [7]), ([8, 7], [7, 8]), ([9, 7], [7, 9]), ([7], [7]), ([11, 7], [7, 11]), ([12, 7], [7, 12]), ([10, 13, 7], [7, 10, 13]), ([14, 7, 7], [7, 14]), ([15, 7], [7, 15]), ([7, 16], [7, 16])])
def spec_ReadVec.B2 : List Nat := [0, 1, 3, 7, 15, 31, 63, 127, 255, 511, 1023, 255, 2303, 6399, 16383, 32767, 65535, 131071]
theorem spec_ReadVec.tab2 : rtab .any (opsOf Tryz.f48 2) = spec_ReadVec.T2 := by kernel_rfl
theorem spec_ReadVec.bits2 : waitsOk spec_ReadVec.T2.2 spec_ReadVec.B2 = true := by kernel_rfl
def spec_ReadVec.T4 : Bool × List (List Nat × List Nat) := (true, [([], []), ([0], [0]), ([1], [1]), ([], []), ([3], [3]), ([4], [4]), ([2, 5], [2, 5]), ([6, 0, 1, 2, 3, 4, 5, 6], [6]), ([7, 0, 1, 2, 3, 4, 5, 6, 7], [])])
def spec_ReadVec.B4 : List Nat := [0, 1, 3, 0, 8, 24, 63, 127, 255]
theorem spec_ReadVec.tab4 : rtab .any (opsOf Tryz.f48 4) = spec_ReadVec.T4 := by kernel_rfl
theorem spec_ReadVec.bits4 : waitsOk spec_ReadVec.T4.2 spec_ReadVec.B4 = true := by kernel_rfl
set_option maxHeartbeats 8000000 in
set_option maxRecDepth 100000 in
theorem spec_ReadVec.calls (k : Nat) (a0 : ByteArray) (r1 : Int) (r2 : Int) (r3 : Bool) (w : World) (h : spec_ReadVec.f k a0 = some (r1, r2, r3)) :
  Calls Tryz.prog 48 #[.string a0] w fun e w' => e = .returned (.tuple #[.agg #[.int .i64 r1, .int .i64 r2], .bool r3]) ∧ Below w.heap.size w w' := by
 have hu27 := Tryz.underlying27
 have HB := asd (Below.refl w.heap.size w)
 have H : ((spec_l01Split.f k a0 44).bind fun t647 => ((spec_l01Numbers.f k t647).bind fun bt650 => (if bt650.2 = true then (if (bt650.1.length : Int) = 2 then (if 0 < (bt650.1.length : Int) then (if 1 < (bt650.1.length : Int) then ((spec_IsVec.f (rd bt650.1 0) (rd bt650.1 1)).bind fun t656 => (if t656 = true then (some (rd bt650.1 0, rd bt650.1 1, true)) else (some (0, 0, false)))) else (none)) else (none)) else (some (0, 0, false))) else (some (0, 0, false))))) = some (r1, r2, r3) := h
 clear h
 obtain ⟨t647, A2, H⟩ := ob H
 try dsimp only at H
 obtain ⟨⟨t650, t651⟩, A3, H⟩ := ob H
 try dsimp only at H
 by_cases c4 : t651 = true
 subst c4
 replace H := ifT H
 by_cases c5 : (t650.length : Int) = 2
 rw [if_pos c5] at H
 have c5b0 : ((t650.length : Int) == 2) = true := beq_iff_eq.mpr c5
 have c5b1 : ((t650.length : Int) != 2) = false := bne_eq_false_iff_eq.mpr c5
 clear c5
 by_cases c6 : 0 < (t650.length : Int)
 rw [if_pos c6] at H
 have c6b0 := decide_eq_true c6
 have c6b1 : decide (0 < t650.length) = true := decide_eq_true (by omega)
 clear c6
 by_cases c7 : 1 < (t650.length : Int)
 rw [if_pos c7] at H
 have c7b0 := decide_eq_true c7
 have c7b1 : decide (1 < t650.length) = true := decide_eq_true (by omega)
 clear c7
 obtain ⟨t656, A8, H⟩ := ob H
 try dsimp only at H
 by_cases c9 : t656 = true
 subst c9
 replace H := ifT H
 rotate_left
 replace c9 := Bool.eq_false_iff.mpr c9
 subst c9
 replace H := ifF H
 rotate_left
 ·rw [if_neg c7] at H
  exact absurd H (by simp)
 ·rw [if_neg c6] at H
  exact absurd H (by simp)
 rw [if_neg c5] at H
 have c5b0 : ((t650.length : Int) == 2) = false := beq_eq_false_iff_ne.mpr c5
 have c5b1 : ((t650.length : Int) != 2) = true := bne_iff_ne.mpr c5
 rotate_left
 replace c4 := Bool.eq_false_iff.mpr c4
 subst c4
 replace H := ifF H
 rotate_left
 all_goals
  simp only [Option.some.injEq, Prod.mk.injEq] at H
  obtain ⟨rfl, rfl, rfl⟩ := H
  go_enter Tryz.func48, Tryz.ntmps48
  try go_wp2_with (first | ((with_reducible refine gd 2 rfl ?_); (try (refine gate_guard (by rfl) ?_; dsimp only)); refine bx #[.int .i64 0, .int .i64 0] 27 ?_; intro gb646 hg w10 BK646 hb; have GE646 := ngw0 hg HB; replace HB := bS0 HB hb; clear hb hg) | ((with_reducible refine gate_callee (f := 47) rfl ?_); refine gl 8 Tryz.func47 #[.string a0, .int .u8 44] ?_; (with_reducible refine (spec_l01Split.calls _ _ _ _ _ A2.out).mono ?_); rintro e w11 ⟨v648, rfl, ho0, hb⟩; refine ⟨_, rfl, ?_⟩; have HO649 := asd (Kd.R_lower ho0 (bsz1 HB GE646)); replace BK646 := bB BK646 hb; replace HB := bS1 HB GE646 hb; (try clear hb); (try clear hb2); (try clear hk); (try clear hi); (try clear ho0); obtain ⟨Ao12, co12, eo12⟩ := Kd.R_slice HO649.out; subst eo12) | ((with_reducible refine gate_callee (f := 64) rfl ?_); refine gl 9 Tryz.func64 #[.slice Ao12 t647.length co12] ?_; (with_reducible refine (spec_l01Numbers.calls _ _ _ _ _ _ _ ?side1 ?side2 A3.out).mono ?_); (case side1 => exact ks (Kd.R_reads' HO649.out).2.2); (case side2 => exact (Kd.R_reads' HO649.out).2.1); rintro e w13 ⟨v652, rfl, ho0, hb⟩; refine ⟨_, rfl, ?_⟩; replace HO649 := asd (Kd.R_below (kr HO649) hb); have HO653 := asd (Kd.R_lower ho0 (bsz1 HB GE646)); replace BK646 := bB BK646 hb; replace HB := bS1 HB GE646 hb; (try clear hb); (try clear hb2); (try clear hk); (try clear hi); (try clear ho0)))
  replace HO649 := asd (Kd.R_drew HO649.out)
  replace HO653 := asd (Kd.R_drew HO653.out)
  replace BK646 := asd (blk_drew BK646.out)
  replace HB := asd (below_drew1 HB.out)
 rotate_left 3
 ·refine start_ (n := 18) (S := fun w' => True) (ds := []) (bT 18 0) (by kernel_rfl) rfl rfl trivial (fun hHeld => ?_); refine with_tabW spec_ReadVec.tab2 spec_ReadVec.bits2 (fun HT_ HW_ => ?_)
  generalize w13.drew = w39 at HO649 HO653 BK646 HB hHeld ⊢
  refine pu 0 (some 12) (bT 18 1) HT_ ?_
  refine pu 1 (some 13) (bT 18 2) HT_ ?_
  refine pu 2 (some 14) (bT 18 3) HT_ ?_
  refine pf 3 (some 15) (bT 18 4) HT_ ?_
  refine pf 4 (some 16) (bT 18 5) HT_ ?_
  refine pf 5 (some 17) (bT 18 6) HT_ ?_
  refine pu 6 (some 18) (bT 18 7) HT_ ?_
  refine pu 7 (some 19) (bT 18 8) HT_ ?_
  refine pf 8 (some 20) (bT 18 9) HT_ ?_
  refine pf 9 (some 21) (bT 18 10) HT_ ?_
  refine pf 10 (some 22) (bT 18 11) HT_ ?_
  refine pf 11 (some 23) (bT 18 12) HT_ ?_
  refine pf 12 (some 24) (bT 18 13) HT_ ?_
  refine pf 13 (some 25) (bT 18 14) HT_ ?_
  refine pf 14 (some 26) (bT 18 15) HT_ ?_
  refine pf 15 (some 27) (bT 18 16) HT_ ?_
  refine pf 16 (some 28) (bT 18 17) HT_ ?_
  refine pu 17 (some 29) (bT 18 18) HT_ ?_
  refine done_ (done_of HT_.out (by kernel_rfl)) ?_
  obtain ⟨hcz40_0, hcz40_1, hfz40_0, hfz40_1⟩ := bz2 BK646
  try go_wp2
  refine bodyPost_ret (results_ct rfl _ _ gb646 27 #[.int .i64 0, .int .i64 0] (0, 0) _ rfl (bq0 BK646) Tryz.underlying27 rfl (by kernel_rfl)) rfl ?_
  exact er (bbw1 HB GE646)
 all_goals
  obtain ⟨Ao15, co15, eo15⟩ := Kd.R_slice HO653.out
  (first | subst eo15 | (injection eo15 with f1_ f2_ f3_; have f4_ := f1_.symm; have f5_ := f3_.symm; clear f1_ f2_ f3_; subst f4_; subst f5_))
 rotate_left 2
 ·refine start_ (n := 18) (S := fun w' => True) (ds := []) (bT 18 0) (by kernel_rfl) rfl rfl trivial (fun hHeld => ?_); refine with_tabW spec_ReadVec.tab2 spec_ReadVec.bits2 (fun HT_ HW_ => ?_)
  generalize w13.drew = w32 at HO649 HO653 BK646 HB hHeld ⊢
  refine pu 0 (some 12) (bT 18 1) HT_ ?_
  refine pu 1 (some 13) (bT 18 2) HT_ ?_
  refine pu 2 (some 14) (bT 18 3) HT_ ?_
  refine pu 3 (some 15) (bT 18 4) HT_ ?_
  refine pu 4 (some 16) (bT 18 5) HT_ ?_
  refine pu 5 (some 17) (bT 18 6) HT_ ?_
  refine pu 6 (some 18) (bT 18 7) HT_ ?_
  refine pu 7 (some 19) (bT 18 8) HT_ ?_
  refine pf 8 (some 20) (bT 18 9) HT_ ?_
  refine pf 9 (some 21) (bT 18 10) HT_ ?_
  refine pf 10 (some 22) (bT 18 11) HT_ ?_
  refine pf 11 (some 23) (bT 18 12) HT_ ?_
  refine pf 12 (some 24) (bT 18 13) HT_ ?_
  refine pf 13 (some 25) (bT 18 14) HT_ ?_
  refine pf 14 (some 26) (bT 18 15) HT_ ?_
  refine pf 15 (some 27) (bT 18 16) HT_ ?_
  refine pf 16 (some 28) (bT 18 17) HT_ ?_
  refine pu 17 (some 29) (bT 18 18) HT_ ?_
  refine done_ (done_of HT_.out (by kernel_rfl)) ?_
  obtain ⟨hcz34_0, hcz34_1, hfz34_0, hfz34_1⟩ := bz2 BK646
  try go_wp2
  refine bodyPost_ret (results_ct rfl _ _ gb646 27 #[.int .i64 0, .int .i64 0] (0, 0) _ rfl (bq0 BK646) Tryz.underlying27 rfl (by kernel_rfl)) rfl ?_
  exact er (bbw1 HB GE646)
 all_goals
  have p654 : 0 ≤ (0 : Int) := (by omega)
  have q654 : 0 < (t650.length : Int) := od
  obtain ⟨ad654, e654, hx654_0⟩ := Kd.at_int (Kd.R_reads' HO653.out).2.2 0 p654 q654
  cases e654
  have qi654 : (0 < t650.length) = True := eq_true (by omega)
  (try rw [show ((0 : Int)).toNat = 0 from rfl] at hx654_0)
  (try rw [Addr.add_zero'] at hx654_0)
  replace p654 := eq_true p654
  replace q654 := eq_true q654
  have p655 : 0 ≤ (1 : Int) := (by omega)
  have q655 : 1 < (t650.length : Int) := od
  obtain ⟨ad655, e655, hx655_0⟩ := Kd.at_int (Kd.R_reads' HO653.out).2.2 1 p655 q655
  obtain rfl : ad654 = ad655 := (by injection e655)
  (try simp only [show (1 : Int).toNat = 1 from rfl, Nat.reduceMul, Nat.reduceEqDiff, Go.Addr.add, ↓reduceIte] at hx655_0)
  have qi655 : (1 < t650.length) = True := eq_true (by omega)
  (try rw [show ((1 : Int)).toNat = 1 from rfl] at hx655_0)
  replace p655 := eq_true p655
  replace q655 := eq_true q655
  refine sh 18 (c1 hx654_0 (e1 hx655_0)) (fun hHeld => ?_); refine with_tabW spec_ReadVec.tab2 spec_ReadVec.bits2 (fun HT_ HW_ => ?_)
  generalize w13.drew = w14 at HO649 HO653 BK646 HB hx654_0 hx655_0 hHeld ⊢
  refine pu 0 (some 12) (bT 18 1) HT_ ?_
  refine pu 1 (some 13) (bT 18 2) HT_ ?_
  refine pu 2 (some 14) (bT 18 3) HT_ ?_
  refine pu 3 (some 15) (bT 18 4) HT_ ?_
  refine pu 4 (some 16) (bT 18 5) HT_ ?_
  refine pu 5 (some 17) (bT 18 6) HT_ ?_
  refine pu 6 (some 18) (bT 18 7) HT_ ?_
  refine pu 7 (some 19) (bT 18 8) HT_ ?_
  refine pu 8 (some 20) (bT 18 9) HT_ ?_
  refine pu 9 (some 21) (bT 18 10) HT_ ?_
  refine pu 11 (some 23) (bs 18 3071) HT_ ?_
  refine pu 12 (some 24) (bs 18 7167) HT_ ?_
  refine ta 10 (some 22) (bT 18 13) HT_ HW_ hHeld ?_
  refine ta 13 (some 25) (bT 18 14) HT_ HW_ hHeld ?_
  refine pu 14 (some 26) (bT 18 15) HT_ ?_
  refine ro 15 (some 27) (bT 18 16) HT_ (fun K hK => ?_)
  refine gs Tryz.func41 #[.agg #[.int .i64 (rd t650 0), .int .i64 (rd t650 1)]] ?_
  with_reducible refine (spec_IsVec.calls _ _ _ _ A8.out).mono ?_
  rintro e w16 ⟨rfl, hb⟩
  have HS0_ := hbc hb (hHeld.1)
  have HS1_ := hbc hb (hHeld.2)
  refine ⟨_, rfl, ?_⟩
  replace HO649 := asd (Kd.R_below (kr HO649) hb)
  replace HO653 := asd (Kd.R_below (kr HO653) hb)
  replace BK646 := bB BK646 hb
  replace HB := bS1 HB GE646 hb
  (try clear hb)
  (try clear hb2)
  (try clear hk)
  (try clear hi)
  refine hK.out _ _ ⟨HS0_, HS1_⟩ (fun hHeld => ?_)
  clear hK K
  refine norm_ (a' := ?_) ?_ ?_
  rotate_left
  ·show Act.put _ (some 27) _ = _
   simp only [Act.put, sA, sB, sC, i64_w, i32_w]
   rfl
  refine pu 16 (some 28) (bT 18 17) HT_ ?_
  refine pu 17 (some 29) (bT 18 18) HT_ ?_
  refine done_ (done_of HT_.out (by kernel_rfl)) ?_
 ·try go_wp2
  replace HO649 := asd (Kd.R_drew HO649.out)
  replace HO653 := asd (Kd.R_drew HO653.out)
  replace BK646 := asd (blk_drew BK646.out)
  replace HB := asd (below_drew1 HB.out)
  have p657 : 0 ≤ (0 : Int) := (by omega)
  have q657 : 0 < (t650.length : Int) := od
  obtain ⟨ad657, e657, hx657_0⟩ := Kd.at_int (Kd.R_reads' HO653.out).2.2 0 p657 q657
  obtain rfl : ad654 = ad657 := (by injection e657)
  have qi657 : (0 < t650.length) = True := eq_true (by omega)
  (try rw [show ((0 : Int)).toNat = 0 from rfl] at hx657_0)
  (try rw [Addr.add_zero'] at hx657_0)
  replace p657 := eq_true p657
  replace q657 := eq_true q657
  have p658 : 0 ≤ (1 : Int) := (by omega)
  have q658 : 1 < (t650.length : Int) := od
  obtain ⟨ad658, e658, hx658_0⟩ := Kd.at_int (Kd.R_reads' HO653.out).2.2 1 p658 q658
  obtain rfl : ad654 = ad658 := (by injection e658)
  (try simp only [show (1 : Int).toNat = 1 from rfl, Nat.reduceMul, Nat.reduceEqDiff, Go.Addr.add, ↓reduceIte] at hx658_0)
  have qi658 : (1 < t650.length) = True := eq_true (by omega)
  (try rw [show ((1 : Int)).toNat = 1 from rfl] at hx658_0)
  replace p658 := eq_true p658
  replace q658 := eq_true q658
  refine sh 9 (c1 hx657_0 (e1 hx658_0)) (fun hHeld => ?_); refine with_tabW spec_ReadVec.tab4 spec_ReadVec.bits4 (fun HT_ HW_ => ?_)
  generalize w16.drew = w17 at HO649 HO653 BK646 HB hx657_0 hx658_0 hHeld ⊢
  refine pu 0 (some 31) (bT 9 1) HT_ ?_
  refine pu 1 (some 32) (bT 9 2) HT_ ?_
  refine pu 3 (some 34) (bs 9 11) HT_ ?_
  refine pu 4 (some 35) (bs 9 27) HT_ ?_
  refine ta 2 (some 33) (bT 9 5) HT_ HW_ hHeld ?_
  refine ta 5 (some 36) (bT 9 6) HT_ HW_ hHeld ?_
  refine pu 6 (some 37) (bT 9 7) HT_ ?_
  refine ro 7 (none) (bT 9 8) HT_ (fun K hK => ?_)
  have hs18 : w17.cell? ⟨gb646, 0, none⟩ = some (.int .i64 0) := bcl BK646 0
  have hfs18 := blk_frozen BK646.out 0
  have hs19 : w17.cell? ⟨gb646, 1, none⟩ = some (.int .i64 0) := bcl BK646 1
  have hfs19 := blk_frozen BK646.out 1
  refine skip_ (w1 := ?_) (by rfl) rfl ?_ ?_
  rotate_left
  ·go_simp
   rfl
  refine hK.out _ _ ⟨(fx2 (Kd.own_blk (Kd.R_ne HO653.out BK646.out (by decide))) (hHeld.1)), (fx2 (Kd.own_blk (Kd.R_ne HO653.out BK646.out (by decide))) (hHeld.2))⟩ (fun hHeld => ?_)
  clear hK K
  refine pu 8 (some 3) (bT 9 9) HT_ ?_
  refine done_ (done_of HT_.out (by kernel_rfl)) ?_
  try go_wp2
  refine bodyPost_ret (results_ct rfl _ _ gb646 27 #[.int .i64 (rd t650 0), .int .i64 (rd t650 1)] (0, 0) _ rfl (bq0 BK646) Tryz.underlying27 rfl (by kernel_rfl)) rfl ?_
  exact er (bbw1 HB GE646)
 ·obtain ⟨hcz27_0, hcz27_1, hfz27_0, hfz27_1⟩ := bz2 BK646
  try go_wp2
  refine bodyPost_ret (results_ct rfl _ _ gb646 27 #[.int .i64 0, .int .i64 0] (0, 0) _ rfl (bq0 BK646) Tryz.underlying27 rfl (by kernel_rfl)) rfl ?_
  exact er (bbw1 HB GE646)

end Go.Proofs.YtnblfcibgokccaaGreatDoor.PC
