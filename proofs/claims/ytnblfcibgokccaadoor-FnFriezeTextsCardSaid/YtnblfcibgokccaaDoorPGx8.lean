/- Walks written by program: each Go function that the law reaches comes to the plain function beside it. -/
import Derived.Test.YtnblfcibgokccaaDoorPGx0
import Derived.Test.YtnblfcibgokccaaDoorPGx1
import Derived.Test.YtnblfcibgokccaaDoorPGx7
namespace Go.Proofs.YtnblfcibgokccaaDoor.PG
open Go.RowKit Go.Proofs.YtnblfcibgokccaaDoorW.PrintWords Go.Proofs.YtnblfcibgokccaaDoorW.PrintLast Go.Proofs.YtnblfcibgokccaaDoorW.PrintMore
attribute [local go_sem] max2_int min2_int max_two min_two max_three min_three max_four min_four   -- for this text's walks alone
set_option linter.unusedVariables false
set_option linter.unusedSimpArgs false

/-! ### spec_l01Split: function 29 -/
def spec_l01Split.l0 : Nat → ByteArray → Int → List ByteArray → Int → Int → Option (List ByteArray)
 | 0, _, _, _, _, _ => none
 | k + 1, x0, x1, x5, x6, x7 => if x7 ≤ (x0.size : Int) then (if x7 = (x0.size : Int) then (if 0 ≤ x6 then (if x6 ≤ x7 then (if x5.length < 8796093022208 then (spec_l01Split.l0 k x0 x1 (x5 ++ [x0.extract (x6 : Int).toNat (x7 : Int).toNat]) (wrap64 (x7 + 1)) (wrap64 (x7 + 1))) else (none)) else (none)) else (none)) else (if 0 ≤ x7 then (if x7 < (x0.size : Int) then (if (bt x0 x7) = x1 then (if 0 ≤ x6 then (if x6 ≤ x7 then (if x5.length < 8796093022208 then (spec_l01Split.l0 k x0 x1 (x5 ++ [x0.extract (x6 : Int).toNat (x7 : Int).toNat]) (wrap64 (x7 + 1)) (wrap64 (x7 + 1))) else (none)) else (none)) else (none)) else (spec_l01Split.l0 k x0 x1 x5 x6 (wrap64 (x7 + 1)))) else (none)) else (none))) else (some x5)
def spec_l01Split.f (k : Nat) (a0 : ByteArray) (a1 : Int) : Option (List ByteArray) := spec_l01Split.l0 k a0 a1 (([] : List ByteArray)) 0 0
set_option maxHeartbeats 8000000 in
set_option maxRecDepth 100000 in
theorem spec_l01Split.calls (k : Nat) (a0 : ByteArray) (a1 : Int) (r : List ByteArray) (w : World) (h : spec_l01Split.f k a0 a1 = some r) :
  Calls Tryd.prog 29 #[.string a0, .int .u8 a1] w fun e w' => ∃ v0_ : Value, e = .returned (v0_) ∧ Kd.R Kd.string 9 w' w.heap.size (fun _ => True) v0_ r ∧ Below w.heap.size w w' := by
 have HB := asd (Below.refl w.heap.size w)
 have H : (spec_l01Split.l0 k a0 a1 (([] : List ByteArray)) 0 0) = some r := h
 clear h
 obtain ⟨y372, hy372⟩ : ∃ y_ : List ByteArray, y_ = (([] : List ByteArray)) := ⟨_, rfl⟩
 replace H : (spec_l01Split.l0 k a0 a1 y372 0 0) = some r := by first | (rw [hy372]; with_reducible exact H) | (have H2_ := (Option.bind_some _ _).symm.trans H; rw [hy372]; with_reducible exact H2_) | (have H2_ := (Option.bind_some _ _).symm.trans H; with_reducible exact H2_) | with_reducible exact H | (rw [hy372]; exact H) | exact H
 have Ny372 := Aside0.mk hy372
 clear hy372
 have H' := Aside0.mk H
 clear H
 go_enter Tryd.func29, Tryd.ntmps29
 go_wp2_with (first | ((with_reducible refine gd 8 rfl ?_); refine Kd.R_lit Kd.string _ 9 ?hg (N := 8) ?hd (xs := ([] : List ByteArray)) (inner := []) (ok := fun _ => True) (okp := fun _ => True) ?hr ?hp (fun _ hk => hk) trivial (Below.refl _ _) (Nat.le_refl _) (by simp) ?_; (case hd => rfl); (case hg => rfl); (case hr => first | (go_simp; done) | (go_simp; rfl)); (case hp => exact (Reps.none _ _)); intro v373 w3 ho4 hb hg_ hnew_; clear hg_ hnew_; (first | rw [← Ny372.out] at ho4 | (simp only [Int.reduceToNat] at ho4; rw [← Ny372.out] at ho4)); have HO374 := asd (Kd.R_lower ho4 (bsz0 HB)); replace HB := bS0 HB hb; clear hb ho4))
 go_loopg [5, 6, 7] k (fun kq v5 v6 v7 w' => ∃ (x5_1 : List ByteArray) (x6_1 : Int) (x7_1 : Int), v6 = .int .i64 x6_1 ∧ v7 = .int .i64 x7_1 ∧ Aside0 (spec_l01Split.l0 kq a0 a1 x5_1 x6_1 x7_1 = some r) ∧ Aside0 (kq ≤ k) ∧ Aside0 (Kd.R Kd.string 9 w' w.heap.size (fun _ => True) v5 x5_1) ∧ Aside0 (Below w.heap.size w w'))
 case atStart => exact ⟨(y372), (0), (0), (by first | rfl | (simp; done) | (simp [*]; done)), (by first | rfl | (simp; done) | (simp [*]; done)), H', ⟨Nat.le_refl _⟩, ⟨by (with_reducible repeat (first | apply Kd.R_alloc | apply Kd.R_drewN | apply Kd.R_drew)); exact HO374.out⟩, ⟨bbw0 HB⟩⟩
 case round =>
  clear H'
  try clear c2
  try clear p2
  obtain ⟨x5_1, x6_1, x7_1, rfl, rfl, HA, HK1, HO_5, HB⟩ := hrel
  cases gk with
  | zero => exact absurd HA.out (by simp [spec_l01Split.l0])
  | succ k1 =>
   have H := HA.out
   clear HA
   simp only [spec_l01Split.l0] at H
   by_cases c5 : x7_1 ≤ (a0.size : Int)
   rw [if_pos c5] at H
   have c5b0 := decide_eq_true c5
   clear c5
   by_cases c6 : x7_1 = (a0.size : Int)
   rw [if_pos c6] at H
   have c6b0 : (x7_1 == (a0.size : Int)) = true := beq_iff_eq.mpr c6
   have c6b1 : (x7_1 != (a0.size : Int)) = false := bne_eq_false_iff_eq.mpr c6
   clear c6
   by_cases c7 : 0 ≤ x6_1
   rw [if_pos c7] at H
   have c7b0 := eq_true c7
   have c7b1 := decide_eq_true c7
   clear c7
   by_cases c8 : x6_1 ≤ x7_1
   rw [if_pos c8] at H
   have c8b0 := eq_true c8
   have c8b1 := decide_eq_true c8
   clear c8
   have c9b0 := eq_true (od : x7_1 ≤ (a0.size : Int))
   by_cases c10 : x5_1.length < 8796093022208
   rw [if_pos c10] at H
   have LMc10 := Aside0.mk c10
   clear c10
   obtain ⟨y375, hy375⟩ : ∃ y_ : List ByteArray, y_ = (x5_1 ++ [a0.extract (x6_1 : Int).toNat (x7_1 : Int).toNat]) := ⟨_, rfl⟩
   replace H : (spec_l01Split.l0 k1 a0 a1 y375 (wrap64 (x7_1 + 1)) (wrap64 (x7_1 + 1))) = some r := by first | (rw [hy375]; with_reducible exact H) | (have H2_ := (Option.bind_some _ _).symm.trans H; rw [hy375]; with_reducible exact H2_) | (have H2_ := (Option.bind_some _ _).symm.trans H; with_reducible exact H2_) | with_reducible exact H | (rw [hy375]; exact H) | exact H
   have Ny375 := Aside0.mk hy375
   clear hy375
   have H' := Aside0.mk H
   clear H
   rotate_left
   ·rw [if_neg c10] at H
    exact absurd H (by simp)
   ·rw [if_neg c8] at H
    exact absurd H (by simp)
   ·rw [if_neg c7] at H
    exact absurd H (by simp)
   rw [if_neg c6] at H
   have c6b0 : (x7_1 == (a0.size : Int)) = false := beq_eq_false_iff_ne.mpr c6
   have c6b1 : (x7_1 != (a0.size : Int)) = true := bne_iff_ne.mpr c6
   by_cases c12 : 0 ≤ x7_1
   rw [if_pos c12] at H
   have c12b0 := decide_eq_true c12
   clear c12
   by_cases c13 : x7_1 < (a0.size : Int)
   rw [if_pos c13] at H
   have c13b0 := decide_eq_true c13
   clear c13
   by_cases c15 : (bt a0 x7_1) = a1
   rw [if_pos c15] at H
   have c15b0 : ((bt a0 x7_1) == a1) = true := beq_iff_eq.mpr c15
   have c15b1 : ((bt a0 x7_1) != a1) = false := bne_eq_false_iff_eq.mpr c15
   clear c15
   by_cases c16 : 0 ≤ x6_1
   rw [if_pos c16] at H
   have c16b0 := eq_true c16
   have c16b1 := decide_eq_true c16
   clear c16
   by_cases c17 : x6_1 ≤ x7_1
   rw [if_pos c17] at H
   have c17b0 := eq_true c17
   have c17b1 := decide_eq_true c17
   clear c17
   have c18b0 := eq_true (od : x7_1 ≤ (a0.size : Int))
   by_cases c19 : x5_1.length < 8796093022208
   rw [if_pos c19] at H
   have LMc10 := Aside0.mk c19
   clear c19
   obtain ⟨y375, hy378⟩ : ∃ y_ : List ByteArray, y_ = (x5_1 ++ [a0.extract (x6_1 : Int).toNat (x7_1 : Int).toNat]) := ⟨_, rfl⟩
   replace H : (spec_l01Split.l0 k1 a0 a1 y375 (wrap64 (x7_1 + 1)) (wrap64 (x7_1 + 1))) = some r := by first | (rw [hy378]; with_reducible exact H) | (have H2_ := (Option.bind_some _ _).symm.trans H; rw [hy378]; with_reducible exact H2_) | (have H2_ := (Option.bind_some _ _).symm.trans H; with_reducible exact H2_) | with_reducible exact H | (rw [hy378]; exact H) | exact H
   have Ny375 := Aside0.mk hy378
   clear hy378
   have H' := Aside0.mk H
   clear H
   rotate_left
   ·rw [if_neg c19] at H
    exact absurd H (by simp)
   ·rw [if_neg c17] at H
    exact absurd H (by simp)
   ·rw [if_neg c16] at H
    exact absurd H (by simp)
   rw [if_neg c15] at H
   have c15b0 : ((bt a0 x7_1) == a1) = false := beq_eq_false_iff_ne.mpr c15
   have c15b1 : ((bt a0 x7_1) != a1) = true := bne_iff_ne.mpr c15
   have H' := Aside0.mk H
   clear H
   rotate_left
   ·rw [if_neg c13] at H
    exact absurd H (by simp)
   ·rw [if_neg c12] at H
    exact absurd H (by simp)
   rw [if_neg c5] at H
   have c5b0 := decide_eq_false c5
   clear c5
   obtain rfl := Option.some.inj H
   rotate_left
   rotate_left
   have p14 : 0 ≤ (x7_1 : Int) := od
   have q14 : x7_1 < (a0.size : Int) := od
   have hx14 := bt_at a0 x7_1
   replace p14 := eq_true p14
   replace q14 := eq_true q14
   rotate_left
   ·have p14 : 0 ≤ (x7_1 : Int) := od
    have q14 : x7_1 < (a0.size : Int) := od
    have hx14 := bt_at a0 x7_1
    replace p14 := eq_true p14
    replace q14 := eq_true q14
    go_wp2
    go_roundg k1
    case measure => have := HK1.out; omega
    case rel => exact ⟨(x5_1), (x6_1), (wrap64 (x7_1 + 1)), (by first | rfl | (simp; done) | (simp [*]; done)), (by first | rfl | (simp; done) | (simp [*]; done)), H', ⟨by have := HK1.out; omega⟩, ⟨by (with_reducible repeat (first | apply Kd.R_alloc | apply Kd.R_drewN | apply Kd.R_drew)); exact HO_5.out⟩, ⟨bbw0 HB⟩⟩
   ·go_wp2
    go_ret
    exact ⟨_, by first | rfl | (simp [errW_none, errW_some] <;> rfl) | (simp [*, errW_none, errW_some] <;> rfl), by (with_reducible repeat (first | apply Kd.R_alloc | apply Kd.R_drewN | apply Kd.R_drew)); exact HO_5.out, bbw0 HB⟩
   all_goals
    go_wp2_with (first | ((with_reducible refine gate_builtin (b := .append) (xs := #[.tmp 26, .tmp 31]) rfl ?_); at_builtin; refine Kd.R_append Kd.string (w0 := w) w.heap.size rfl (.tmp 26) (.tmp 31) 55 9 (.string ⟨#[]⟩) 16 rfl Tryd.underlying55 info9 rfl (by decide) (by omega) u5 x5_1 (a0.extract (x6_1 : Int).toNat (x7_1 : Int).toNat) [.string (a0.extract (x6_1 : Int).toNat (x7_1 : Int).toNat)] (fun _ => True) (fun _ => False) rfl rfl ?aP (fun _ hk => hk.elim) ?aF ?aO ?aB ?aS ?aL ?_; (case aP => exact rfl); (case aB => exact (bbw0 HB)); (case aF => exact (fun _ _ => trivial)); (case aO => exact (kr HO_5)); (case aS => exact (bsz0 HB)); (case aL => have := LMc10.out; omega); intro v376 w11 ho hb hg hat; rw [← Ny375.out] at ho; have n0_ := asd (hb); have n1_ := asd (ho); clear HB; clear HO_5; have HB := n0_; have HO377 := n1_; clear n0_ n1_; clear ho hb hg hat))
    go_roundg k1
    case measure => have := HK1.out; omega
    case rel => exact ⟨(y375), (wrap64 (x7_1 + 1)), (wrap64 (x7_1 + 1)), (by first | rfl | (simp; done) | (simp [*]; done)), (by first | rfl | (simp; done) | (simp [*]; done)), H', ⟨by have := HK1.out; omega⟩, ⟨by (with_reducible repeat (first | apply Kd.R_alloc | apply Kd.R_drewN | apply Kd.R_drew)); exact HO377.out⟩, ⟨bbw0 HB⟩⟩
/-! ### spec_ReadFrieze: function 14 -/
mutual
def spec_ReadFrieze.l0 : Nat → ByteArray → List ByteArray → Int → Int → Int → List Int → Option (Int × Int × List Int × Int)
 | 0, _, _, _, _, _, _ => none
 | k + 1, x0, x4, x6, x389000, x389001, x389002 => if (wrap64 (x6 + 1)) < (x4.length : Int) then (if 0 ≤ x6 then (if x6 < (x4.length : Int) then (spec_ReadFrieze.l1 k x0 x4 x6 0 x389000 ((rdOf ByteArray.empty x4 x6).size : Int) x389002) else (none)) else (none)) else ((spec_FriezeText.f k x389000 x389001 x389002).bind fun bt389 => (if bt389.2 = 0 then (if bt389.1.toList = x0.toList then (some (x389000, x389001, x389002, 0)) else (some (0, 0, ([] : List Int), 6))) else (some (0, 0, ([] : List Int), 6))))
def spec_ReadFrieze.l1 : Nat → ByteArray → List ByteArray → Int → Int → Int → Int → List Int → Option (Int × Int × List Int × Int)
 | 0, _, _, _, _, _, _, _ => none
 | k + 1, x0, x4, x6, x7, x389000, x389001, x389002 => if 0 ≤ x6 then (if x6 < (x4.length : Int) then (if x7 < ((rdOf ByteArray.empty x4 x6).size : Int) then (if 0 ≤ x7 then (if x389002.length < 17592186044416 then (spec_ReadFrieze.l1 k x0 x4 x6 (wrap64 (x7 + 1)) x389000 x389001 (x389002 ++ [wrap64 ((wrap64 (bt (rdOf ByteArray.empty x4 x6) x7)) - 48)])) else (none)) else (none)) else (spec_ReadFrieze.l0 k x0 x4 (wrap64 (x6 + 1)) x389000 x389001 x389002)) else (none)) else (none)
end
def spec_ReadFrieze.f (k : Nat) (a0 : ByteArray) : Option (Int × Int × List Int × Int) := (spec_l01Split.f k a0 10).bind fun t382 => (spec_ReadFrieze.l0 k a0 t382 0 (wrap64 ((t382.length : Int) - 1)) 0 (([] : List Int)))
def spec_ReadFrieze.T10 : Bool × List (List Nat × List Nat) := (true, [([], []), ([0], [0]), ([], []), ([], []), ([2, 3], [2, 3]), ([4], [4]), ([], []), ([5, 6], [5, 6]), ([7], [7]), ([8], [8]), ([9], [9]), ([1, 10], [1, 10]), ([0, 1, 2, 3, 4, 5, 6, 7, 8, 9, 10, 11], []), ([12, 11, 11, 0, 1, 2, 3, 4, 5, 6, 7, 8, 9, 10, 11], [11, 12])])
def spec_ReadFrieze.B10 : List Nat := [0, 1, 0, 0, 12, 28, 0, 124, 252, 508, 1020, 2047, 4095, 8191]
theorem spec_ReadFrieze.tab10 : rtab .any (opsOf Tryd.f14 10) = spec_ReadFrieze.T10 := by kernel_rfl
theorem spec_ReadFrieze.bits10 : waitsOk spec_ReadFrieze.T10.2 spec_ReadFrieze.B10 = true := by kernel_rfl
set_option maxHeartbeats 8000000 in
set_option maxRecDepth 100000 in
theorem spec_ReadFrieze.calls (k : Nat) (a0 : ByteArray) (r1 : Int) (r2 : Int) (r3 : List Int) (r4 : Int) (w : World) (h : spec_ReadFrieze.f k a0 = some (r1, r2, r3, r4)) :
  Calls Tryd.prog 14 #[.string a0] w fun e w' => ∃ v2_ : Value, e = .returned (.tuple #[.agg #[.int .i64 r1, .int .i64 r2, v2_], .int .i64 r4]) ∧ Kd.R (Kd.int .i64) 2 w' w.heap.size (fun _ => True) v2_ r3 ∧ Below w.heap.size w w' := by
 have hu28 := Tryd.underlying28
 have HB := asd (Below.refl w.heap.size w)
 have H : ((spec_l01Split.f k a0 10).bind fun t382 => (spec_ReadFrieze.l0 k a0 t382 0 (wrap64 ((t382.length : Int) - 1)) 0 (([] : List Int)))) = some (r1, r2, r3, r4) := h
 clear h
 obtain ⟨t382, A2, H⟩ := ob H
 try dsimp only at H
 obtain ⟨y385, hy385⟩ : ∃ y_ : List Int, y_ = (([] : List Int)) := ⟨_, rfl⟩
 replace H : (spec_ReadFrieze.l0 k a0 t382 0 (wrap64 ((t382.length : Int) - 1)) 0 y385) = some (r1, r2, r3, r4) := by first | (rw [hy385]; with_reducible exact H) | (have H2_ := (Option.bind_some _ _).symm.trans H; rw [hy385]; with_reducible exact H2_) | (have H2_ := (Option.bind_some _ _).symm.trans H; with_reducible exact H2_) | with_reducible exact H | (rw [hy385]; exact H) | exact H
 have Ny385 := Aside0.mk hy385
 clear hy385
 have H' := Aside0.mk H
 clear H
 go_enter Tryd.func14, Tryd.ntmps14
 go_wp2_with (first | ((with_reducible refine gd 2 rfl ?_); refine bx #[.int .i64 0, .int .i64 0, .slice none 0 0] 28 ?_; intro gb381 hg w3 BK381 hb; have GE381 := ngw0 hg HB; replace HB := bS0 HB hb; clear hb hg) | ((with_reducible refine gate_callee (f := 29) rfl ?_); refine gl 11 Tryd.func29 #[.string a0, .int .u8 10] ?_; (with_reducible refine (spec_l01Split.calls _ _ _ _ _ A2.out).mono ?_); rintro e w4 ⟨v383, rfl, ho0, hb⟩; refine ⟨_, rfl, ?_⟩; have HO384 := asd (Kd.R_lower ho0 (bsz1 HB GE381)); replace BK381 := bB BK381 hb; replace HB := bS1 HB GE381 hb; (try clear hb); (try clear hb2); (try clear hk); (try clear hi); (try clear ho0); obtain ⟨Ao5, co5, eo5⟩ := Kd.R_slice HO384.out; subst eo5) | ((with_reducible refine gd 15 rfl ?_); refine Kd.R_lit (Kd.int .i64) _ 2 ?hg (N := 15) ?hd (xs := ([] : List Int)) (inner := []) (ok := fun _ => True) (okp := fun _ => True) ?hr ?hp (fun _ hk => hk) trivial (Below.refl _ _) (Nat.le_refl _) (by simp) ?_; (case hd => rfl); (case hg => rfl); (case hr => first | (go_simp; done) | (go_simp; rfl)); (case hp => exact (Reps.none _ _)); intro v386 w6 ho7 hb hg_ hnew_; clear hg_ hnew_; (first | rw [← Ny385.out] at ho7 | (simp only [Int.reduceToNat] at ho7; rw [← Ny385.out] at ho7)); replace HO384 := asd (Kd.R_below (kr HO384) hb); have HO387 := asd (Kd.R_lower ho7 (bsz1 HB GE381)); replace BK381 := bB BK381 hb; replace HB := bS1 HB GE381 hb; clear hb ho7; obtain ⟨Ao8, co8, eo8⟩ := Kd.R_slice HO387.out; subst eo8) | ((with_reducible refine gd 5 rfl ?_); refine bx #[.int .i64 0, .int .i64 0, .slice none 0 0] 28 ?_; intro gb388 hg w9 BK388 hb; replace HO384 := asd (Kd.R_below (kr HO384) hb); replace HO387 := asd (Kd.R_below (kr HO387) hb); have GE388 := ngw1 hg HB GE381; replace HB := bS1 HB GE381 hb; have NB381_388 := nlt hg BK381; have NB388_381 := nsy (nlt hg BK381); replace BK381 := bB BK381 hb; clear hb hg; have hnb10 := NB388_381.out; have hnc10 := NB381_388.out; obtain ⟨hcz11_0, hcz11_1, hcz11_2, hfz11_0, hfz11_1, hfz11_2⟩ := bz3 BK388))
 go_loopg [6] k (fun kq v6 w' => ∃ (x6_1 : Int) (x389001_1 : Int) (x389002_1 : List Int) (u389002 : Value), v6 = .int .i64 x6_1 ∧ Aside0 (spec_ReadFrieze.l0 kq a0 t382 x6_1 (wrap64 ((t382.length : Int) - 1)) x389001_1 x389002_1 = some (r1, r2, r3, r4)) ∧ Aside0 (kq ≤ k) ∧ Aside0 (Kd.R Kd.string 9 w' w.heap.size (fun _ => True) (.slice Ao5 t382.length co5) t382) ∧ Aside0 (Kd.R (Kd.int .i64) 2 w' w.heap.size (fun _ => True) u389002 x389002_1) ∧ Aside0 (w'.heap[gb381]? = some (.cells #[.int .i64 0, .int .i64 0, (.slice none 0 0)] 28 (0, 0))) ∧ Aside0 (w'.heap[gb388]? = some (.cells #[.int .i64 (wrap64 ((t382.length : Int) - 1)), .int .i64 x389001_1, u389002] 28 (0, 0))) ∧ Aside0 (Below w.heap.size w w'))
 case atStart => exact ⟨(0), (0), (y385), (.slice Ao8 y385.length co8), (by first | rfl | (simp; done) | (simp [*]; done)), H', ⟨Nat.le_refl _⟩, ⟨by (with_reducible repeat (first | apply Kd.R_alloc | apply Kd.R_drewN | apply Kd.R_drew)); exact Kd.R_mono (rw3 (Kd.R_types HO384.out BK388.out (by decide))) (fun _ hk => trivial)⟩, ⟨by (with_reducible repeat (first | apply Kd.R_alloc | apply Kd.R_drewN | apply Kd.R_drew)); exact Kd.R_mono (rw3 (Kd.R_types HO387.out BK388.out (by decide))) (fun _ hk => trivial)⟩, ⟨bq1 BK381 NB381_388⟩, ⟨bq0 BK388⟩, ⟨bbw2 HB GE381 GE388⟩⟩
 case round =>
  clear H'
  try clear c1
  try clear c2
  try clear p2
  try clear p6
  try clear c10
  try clear hcz11_0
  try clear hcz11_1
  try clear hcz11_2
  try clear hfz11_0
  try clear hfz11_1
  try clear hfz11_2
  obtain ⟨x6_1, x389001_1, x389002_1, u389002, rfl, HA, HK1, HO_4, HO_389002, BK381, BK388, HB⟩ := hrel
  cases gk with
  | zero => exact absurd HA.out (by simp [spec_ReadFrieze.l0])
  | succ k1 =>
   have H := HA.out
   clear HA
   simp only [spec_ReadFrieze.l0] at H
   by_cases c12 : (wrap64 (x6_1 + 1)) < (t382.length : Int)
   rw [if_pos c12] at H
   have c12b0 := decide_eq_true c12
   clear c12
   by_cases c13 : 0 ≤ x6_1
   rw [if_pos c13] at H
   have c13b0 := decide_eq_true c13
   clear c13
   by_cases c14 : x6_1 < (t382.length : Int)
   rw [if_pos c14] at H
   have c14b0 := decide_eq_true c14
   clear c14
   have H' := Aside0.mk H
   clear H
   rotate_left
   ·rw [if_neg c14] at H
    exact absurd H (by simp)
   ·rw [if_neg c13] at H
    exact absurd H (by simp)
   rw [if_neg c12] at H
   have c12b0 := decide_eq_false c12
   clear c12
   obtain ⟨⟨t389, t390⟩, A27, H⟩ := ob H
   try dsimp only at H
   by_cases c28 : t390 = 0
   rw [if_pos c28] at H
   have c28b0 : (t390 == 0) = true := beq_iff_eq.mpr c28
   have c28b1 : (t390 != 0) = false := bne_eq_false_iff_eq.mpr c28
   clear c28
   by_cases c29 : t389.toList = a0.toList
   rw [if_pos c29] at H
   have c29b0 : (t389.toList == a0.toList) = true := beq_iff_eq.mpr c29
   have c29b1 : (t389.toList != a0.toList) = false := bne_eq_false_iff_eq.mpr c29
   clear c29
   rotate_left
   rw [if_neg c29] at H
   have c29b0 : (t389.toList == a0.toList) = false := beq_eq_false_iff_ne.mpr c29
   have c29b1 : (t389.toList != a0.toList) = true := bne_iff_ne.mpr c29
   rotate_left
   rw [if_neg c28] at H
   have c28b0 : (t390 == 0) = false := beq_eq_false_iff_ne.mpr c28
   have c28b1 : (t390 != 0) = true := bne_iff_ne.mpr c28
   rotate_left
   have p391 : 0 ≤ (x6_1 : Int) := od
   have q391 : x6_1 < (t382.length : Int) := od
   obtain ⟨ad391, e391, hx391_0⟩ := Kd.at_string (Kd.R_reads' HO_4.out).2.2 x6_1 p391 q391
   cases e391
   replace p391 := eq_true p391
   replace q391 := eq_true q391
   rotate_left
   simp only [Option.some.injEq, Prod.mk.injEq] at H
   obtain ⟨rfl, rfl, rfl, rfl⟩ := H
   rotate_left
   simp only [Option.some.injEq, Prod.mk.injEq] at H
   obtain ⟨rfl, rfl, rfl, rfl⟩ := H
   rotate_left
   simp only [Option.some.injEq, Prod.mk.injEq] at H
   obtain ⟨rfl, rfl, rfl, rfl⟩ := H
   rotate_left
   all_goals
    have hnb15 := NB388_381.out
    have hnc15 := NB381_388.out
    obtain ⟨hcz16_0, hcz16_1, hcz16_2, hfz16_0, hfz16_1, hfz16_2⟩ := bz3 BK388
   ·go_wp2
    go_loopg [7] k1 (fun kq v7 w' => ∃ (x7_2 : Int) (x389002_2 : List Int) (u389002 : Value), v7 = .int .i64 x7_2 ∧ Aside0 (spec_ReadFrieze.l1 kq a0 t382 x6_1 x7_2 (wrap64 ((t382.length : Int) - 1)) ((rdOf ByteArray.empty t382 x6_1).size : Int) x389002_2 = some (r1, r2, r3, r4)) ∧ Aside0 (kq ≤ k1) ∧ Aside0 (Kd.R Kd.string 9 w' w.heap.size (fun _ => True) (.slice (some ad391) t382.length co5) t382) ∧ Aside0 (Kd.R (Kd.int .i64) 2 w' w.heap.size (fun _ => True) u389002 x389002_2) ∧ Aside0 (w'.heap[gb381]? = some (.cells #[.int .i64 0, .int .i64 0, (.slice none 0 0)] 28 (0, 0))) ∧ Aside0 (w'.heap[gb388]? = some (.cells #[.int .i64 (wrap64 ((t382.length : Int) - 1)), .int .i64 ((rdOf ByteArray.empty t382 x6_1).size : Int), u389002] 28 (0, 0))) ∧ Aside0 (Below w.heap.size w w'))
    case atStart => exact ⟨(0), (x389002_1), (u389002), (by first | rfl | (simp; done) | (simp [*]; done)), H', ⟨Nat.le_refl _⟩, ⟨by (with_reducible repeat (first | apply Kd.R_alloc | apply Kd.R_drewN | apply Kd.R_drew)); exact Kd.R_mono (Kd.R_far (p := ⟨gb388, 1, none⟩) (Kd.R_types HO_4.out BK388.out (by decide)) (fun _ hk => hk.2) (.int .i64 ((rdOf ByteArray.empty t382 x6_1).size : Int))) (fun _ hk => trivial)⟩, ⟨by (with_reducible repeat (first | apply Kd.R_alloc | apply Kd.R_drewN | apply Kd.R_drew)); exact Kd.R_mono (Kd.R_far (p := ⟨gb388, 1, none⟩) (Kd.R_types HO_389002.out BK388.out (by decide)) (fun _ hk => hk.2) (.int .i64 ((rdOf ByteArray.empty t382 x6_1).size : Int))) (fun _ hk => trivial)⟩, ⟨bq1 BK381 NB381_388⟩, ⟨bq0 BK388⟩, ⟨bbw2 HB GE381 GE388⟩⟩
    case round =>
     clear H'
     try clear c1
     try clear c2
     try clear p2
     try clear p3
     try clear q3
     try clear hx3
     try clear p6
     try clear c10
     try clear c12
     try clear c12b0
     try clear c13
     try clear c13b0
     try clear c14
     try clear c14b0
     try clear c15
     try clear hcz11_0
     try clear hcz11_1
     try clear hcz11_2
     try clear hcz16_0
     try clear hcz16_1
     try clear hcz16_2
     try clear hfz11_0
     try clear hfz11_1
     try clear hfz11_2
     try clear hfz16_0
     try clear hfz16_1
     try clear hfz16_2
     try clear hx391_0
     try clear p2
     try clear p391
     try clear p6
     try clear q391
     obtain ⟨x7_2, x389002_2, u389002, rfl, HA, HK2, HO_4, HO_389002, BK381, BK388, HB⟩ := hrel
     cases gk with
     | zero => exact absurd HA.out (by simp [spec_ReadFrieze.l1])
     | succ k2 =>
      have H := HA.out
      clear HA
      simp only [spec_ReadFrieze.l1] at H
      by_cases c17 : 0 ≤ x6_1
      rw [if_pos c17] at H
      have c17b0 := decide_eq_true c17
      clear c17
      by_cases c18 : x6_1 < (t382.length : Int)
      rw [if_pos c18] at H
      have c18b0 := decide_eq_true c18
      clear c18
      by_cases c19 : x7_2 < ((rdOf ByteArray.empty t382 x6_1).size : Int)
      rw [if_pos c19] at H
      have c19b0 := decide_eq_true c19
      clear c19
      by_cases c20 : 0 ≤ x7_2
      rw [if_pos c20] at H
      have c20b0 := decide_eq_true c20
      clear c20
      by_cases c22 : x389002_2.length < 17592186044416
      rw [if_pos c22] at H
      have LMc22 := Aside0.mk c22
      clear c22
      obtain ⟨y394, hy394⟩ : ∃ y_ : List Int, y_ = (x389002_2 ++ [wrap64 ((wrap64 (bt (rdOf ByteArray.empty t382 x6_1) x7_2)) - 48)]) := ⟨_, rfl⟩
      replace H : (spec_ReadFrieze.l1 k2 a0 t382 x6_1 (wrap64 (x7_2 + 1)) (wrap64 ((t382.length : Int) - 1)) ((rdOf ByteArray.empty t382 x6_1).size : Int) y394) = some (r1, r2, r3, r4) := by first | (rw [hy394]; with_reducible exact H) | (have H2_ := (Option.bind_some _ _).symm.trans H; rw [hy394]; with_reducible exact H2_) | (have H2_ := (Option.bind_some _ _).symm.trans H; with_reducible exact H2_) | with_reducible exact H | (rw [hy394]; exact H) | exact H
      have Ny394 := Aside0.mk hy394
      clear hy394
      have H' := Aside0.mk H
      clear H
      rotate_left
      ·rw [if_neg c22] at H
       exact absurd H (by simp)
      ·rw [if_neg c20] at H
       exact absurd H (by simp)
      rw [if_neg c19] at H
      have c19b0 := decide_eq_false c19
      clear c19
      have H' := Aside0.mk H
      clear H
      rotate_left
      ·rw [if_neg c18] at H
       exact absurd H (by simp)
      ·rw [if_neg c17] at H
       exact absurd H (by simp)
      all_goals
       have p392 : 0 ≤ (x6_1 : Int) := od
       have q392 : x6_1 < (t382.length : Int) := od
       obtain ⟨ad392, e392, hx392_0⟩ := Kd.at_string (Kd.R_reads' HO_4.out).2.2 x6_1 p392 q392
       obtain rfl : ad391 = ad392 := (by injection e392)
       replace p392 := eq_true p392
       replace q392 := eq_true q392
      ·try go_wp2
       replace HO_4 := asd (Kd.R_drew HO_4.out)
       replace HO_389002 := asd (Kd.R_drew HO_389002.out)
       replace BK381 := asd (blk_drew BK381.out)
       replace BK388 := asd (blk_drew BK388.out)
       replace HB := asd (below_drew1 HB.out)
       have p393 : 0 ≤ (x6_1 : Int) := od
       have q393 : x6_1 < (t382.length : Int) := od
       obtain ⟨ad393, e393, hx393_0⟩ := Kd.at_string (Kd.R_reads' HO_4.out).2.2 x6_1 p393 q393
       obtain rfl : ad391 = ad393 := (by injection e393)
       replace p393 := eq_true p393
       replace q393 := eq_true q393
       have p21 : 0 ≤ (x7_2 : Int) := od
       have q21 : x7_2 < ((rdOf ByteArray.empty t382 x6_1).size : Int) := od
       have hx21 := bt_at (rdOf ByteArray.empty t382 x6_1) x7_2
       replace p21 := eq_true p21
       replace q21 := eq_true q21
       refine start_ (n := 14) (S := fun w' => w'.cell? ⟨gb388, 0, none⟩ = some (.int .i64 (wrap64 ((t382.length : Int) - 1))) ∧ w'.cell? ⟨gb388, 1, none⟩ = some (.int .i64 ((rdOf ByteArray.empty t382 x6_1).size : Int)) ∧ w'.cell? ⟨gb388, 2, none⟩ = some (u389002) ∧ w'.cell? (ad391.add (x6_1).toNat) = some (.string (rdOf ByteArray.empty t382 x6_1))) (ds := [11, 13]) (bT 14 0) (by kernel_rfl) rfl rfl ⟨bcl BK388 0, bcl BK388 1, bcl BK388 2, hx393_0⟩ (fun hHeld => ?_); refine with_tabW spec_ReadFrieze.tab10 spec_ReadFrieze.bits10 (fun HT_ HW_ => ?_)
       generalize wr.drew = w23 at HO_4 HO_389002 BK381 BK388 HB hx393_0 hHeld ⊢
       refine pu 0 (some 39) (bT 14 1) HT_ ?_
       refine pu 2 (some 41) (bs 14 5) HT_ ?_
       refine pu 3 (some 42) (bs 14 13) HT_ ?_
       refine pu 4 (some 43) (bs 14 29) HT_ ?_
       refine pu 6 (some 45) (bs 14 93) HT_ ?_
       refine ta 1 (some 40) (bs 14 95) HT_ HW_ hHeld ?_
       refine ta 5 (some 44) (bT 14 7) HT_ HW_ hHeld ?_
       refine ta 7 (some 46) (bT 14 8) HT_ HW_ hHeld ?_
       refine pu 8 (some 47) (bT 14 9) HT_ ?_
       refine pu 9 (some 48) (bT 14 10) HT_ ?_
       refine ro 10 (some 49) (bT 14 11) HT_ (fun K hK => ?_)
       refine value_ (w1 := ?_) (v := ?_) (by rfl) rfl ?_ ?_
       rotate_left 2
       ·go_simp
        constructor
        ·rfl
        ·rfl
       refine hK.out _ _ ⟨(blk_cell (blk_alloc BK388.out _) 0).trans rfl, (blk_cell (blk_alloc BK388.out _) 1).trans rfl, (blk_cell (blk_alloc BK388.out _) 2).trans rfl, (World.cell?_alloc_lt _ _ _ (World.block_lt_of_cell? _ _ (hHeld.2.2.2))).trans (hHeld.2.2.2)⟩ (fun hHeld => ?_)
       clear hK K
       refine norm_ (a' := ?_) ?_ ?_
       rotate_left
       ·show Act.put _ (some 49) _ = _
        simp only [Act.put, sA, sB, sC, i64_w, i32_w]
        rfl
       refine last_ (i := 11) (N := some 50) (bT 14 12) rfl rfl (one_of HT_.out (by kernel_rfl)) (by decide) (fun K hK => ?_)
       refine Kd.R_append_step (Kd.int .i64) (w0 := w) w.heap.size (by rfl) (.tmp 40) (.tmp 49) 22 2 (.int .i64 0) 8 rfl Tryd.underlying22 info2 rfl (by decide) (by omega) u389002 x389002_2 (wrap64 ((wrap64 (bt (rdOf ByteArray.empty t382 x6_1) x7_2)) - 48)) [.int .i64 (wrap64 ((wrap64 (bt (rdOf ByteArray.empty t382 x6_1) x7_2)) - 48))] (fun _ => True) (fun _ => False) rfl rfl ?aP (fun _ hk => hk.elim) ?aF ?aO ?aB ?aS ?aL ?_
       (case aP => exact rfl)
       (case aB => exact (bbw2 HB GE381 GE388))
       (case aF => exact (fun _ _ => trivial))
       (case aO => exact (kr HO_389002))
       (case aS => exact (bsz2 HB GE381 GE388))
       (case aL => have := LMc22.out; omega)
       intro v395 w24 ho hb hg hat
       rw [← Ny394.out] at ho
       have n0_ := asd (Kd.R_over' (kr HO_4) (Kd.R_typed (kr HO_389002)) (by decide) hg)
       have n1_ := asd (blk_grown (g := gb381) (o := .cells #[.int .i64 0, .int .i64 0, .slice none 0 0] 28 (0, 0)) (bkp BK381) hg (Kd.R_ne HO_389002.out BK381.out (by decide)))
       have n2_ := asd (blk_grown (g := gb388) (o := .cells #[.int .i64 (wrap64 ((t382.length : Int) - 1)), .int .i64 ((rdOf ByteArray.empty t382 x6_1).size : Int), u389002] 28 (0, 0)) (bkp BK388) hg (Kd.R_ne HO_389002.out BK388.out (by decide)))
       have n3_ := asd (hb)
       have n4_ := asd (ho)
       clear HO_4
       clear BK381
       clear BK388
       clear HB
       clear HO_389002
       have HO_4 := n0_
       have BK381 := n1_
       have BK388 := n2_
       have HB := n3_
       have HO396 := n4_
       clear n0_ n1_ n2_ n3_ n4_
       clear ho hb hg hat
       obtain ⟨Ao25, co25, eo25⟩ := Kd.R_slice HO396.out
       (first | subst eo25 | (injection eo25 with f1_ f2_ f3_; have f4_ := f1_.symm; have f5_ := f3_.symm; clear f1_ f2_ f3_; subst f4_; subst f5_))
       refine hK.out _ _ ?_
       clear hK K
       refine norm_ (a' := ?_) ?_ ?_
       rotate_left
       ·show Act.put _ (some 50) _ = _
        simp only [Act.put, sA, sB, sC, i64_w, i32_w]
        rfl
       refine pu 12 (some 51) (bT 14 13) HT_ ?_
       refine last_ (i := 13) (N := none) (bT 14 14) rfl rfl (one_of HT_.out (by kernel_rfl)) (by decide) (fun K hK => ?_)
       have hs26 : w24.cell? ⟨gb388, 2, none⟩ = some (u389002) := bcl BK388 2
       have hfs26 := blk_frozen BK388.out 2
       have hns26_0 := NB381_388.out
       have hms26_0 := NB388_381.out
       refine skip_ (w1 := ?_) (by rfl) rfl ?_ ?_
       rotate_left
       ·go_simp
        rfl
       refine hK.out _ _ ?_
       clear hK K
       refine done_ (done_of HT_.out (by kernel_rfl)) ?_
       try go_wp2
       go_roundg k2
       case measure => have := HK1.out; have := HK2.out; omega
       case rel => exact ⟨(wrap64 (x7_2 + 1)), (y394), (.slice Ao25 y394.length co25), (by first | rfl | (simp; done) | (simp [*]; done)), H', ⟨by have := HK1.out; have := HK2.out; omega⟩, ⟨by (with_reducible repeat (first | apply Kd.R_alloc | apply Kd.R_drewN | apply Kd.R_drew)); exact Kd.R_mono (Kd.R_far (p := ⟨gb388, 2, none⟩) (Kd.R_types HO_4.out BK388.out (by decide)) (fun _ hk => hk.2) (.slice Ao25 y394.length co25)) (fun _ hk => trivial)⟩, ⟨by (with_reducible repeat (first | apply Kd.R_alloc | apply Kd.R_drewN | apply Kd.R_drew)); exact Kd.R_mono (Kd.R_far (p := ⟨gb388, 2, none⟩) (Kd.R_types HO396.out BK388.out (by decide)) (fun _ hk => hk.2) (.slice Ao25 y394.length co25)) (fun _ hk => trivial)⟩, ⟨bq1 BK381 NB381_388⟩, ⟨bq0 BK388⟩, ⟨bbw2 HB GE381 GE388⟩⟩
      ·go_wp2
       go_roundg k2
       case measure => have := HK1.out; have := HK2.out; omega
       case rel => exact ⟨(wrap64 (x6_1 + 1)), (((rdOf ByteArray.empty t382 x6_1).size : Int)), (x389002_2), (u389002), (by first | rfl | (simp; done) | (simp [*]; done)), H', ⟨by have := HK1.out; have := HK2.out; omega⟩, ⟨by (with_reducible repeat (first | apply Kd.R_alloc | apply Kd.R_drewN | apply Kd.R_drew)); exact HO_4.out⟩, ⟨by (with_reducible repeat (first | apply Kd.R_alloc | apply Kd.R_drewN | apply Kd.R_drew)); exact HO_389002.out⟩, ⟨bkp BK381⟩, ⟨bkp BK388⟩, ⟨bbw2 HB GE381 GE388⟩⟩
   ·obtain ⟨Ao32, co32, eo32⟩ := Kd.R_slice HO_389002.out
    subst eo32
    go_wp2_with (first | ((with_reducible refine gate_callee (f := 6) rfl ?_); refine gl 54 Tryd.func6 #[.agg #[.int .i64 (wrap64 ((t382.length : Int) - 1)), .int .i64 x389001_1, .slice Ao32 x389002_1.length co32]] ?_; (with_reducible refine (spec_FriezeText.calls _ _ _ _ _ _ _ _ _ ?side1 ?side2 A27.out).mono ?_); (case side1 => exact ks (Kd.R_reads' HO_389002.out).2.2); (case side2 => exact (Kd.R_reads' HO_389002.out).2.1); rintro e w33 ⟨rfl, hb⟩; refine ⟨_, rfl, ?_⟩; replace HO_4 := asd (Kd.R_below (kr HO_4) hb); replace HO_389002 := asd (Kd.R_below (kr HO_389002) hb); replace BK381 := bB BK381 hb; replace BK388 := bB BK388 hb; replace HB := bS2 HB GE381 GE388 hb; (try clear hb); obtain ⟨hcz34_0, hcz34_1, hcz34_2, hfz34_0, hfz34_1, hfz34_2⟩ := bz3 BK388; obtain ⟨hcz35_0, hcz35_1, hcz35_2, hfz35_0, hfz35_1, hfz35_2⟩ := bz3 BK381))
    refine bodyPost_ret (results_ct rfl _ _ gb381 28 #[.int .i64 (wrap64 ((t382.length : Int) - 1)), .int .i64 x389001_1, .slice Ao32 x389002_1.length co32] (0, 0) _ rfl (bq0 BK381) Tryd.underlying28 rfl (by kernel_rfl)) rfl ?_
    exact ⟨_, by first | rfl | (simp [errW_none, errW_some] <;> rfl) | (simp [*, errW_none, errW_some] <;> rfl), by (with_reducible repeat (first | apply Kd.R_alloc | apply Kd.R_drewN | apply Kd.R_drew)); exact Kd.R_mono (rw3 (Kd.R_types HO_389002.out BK381.out (by decide))) (fun _ hk => trivial), bbw2 HB GE381 GE388⟩
   rotate_left 2
   all_goals
    obtain ⟨Ao38, co38, eo38⟩ := Kd.R_slice HO_389002.out
    subst eo38
    go_wp2_with (first | ((with_reducible refine gate_callee (f := 6) rfl ?_); refine gl 54 Tryd.func6 #[.agg #[.int .i64 (wrap64 ((t382.length : Int) - 1)), .int .i64 x389001_1, .slice Ao38 x389002_1.length co38]] ?_; (with_reducible refine (spec_FriezeText.calls _ _ _ _ _ _ _ _ _ ?side1 ?side2 A27.out).mono ?_); (case side1 => exact ks (Kd.R_reads' HO_389002.out).2.2); (case side2 => exact (Kd.R_reads' HO_389002.out).2.1); rintro e w39 ⟨rfl, hb⟩; refine ⟨_, rfl, ?_⟩; replace HO_4 := asd (Kd.R_below (kr HO_4) hb); replace HO_389002 := asd (Kd.R_below (kr HO_389002) hb); replace BK381 := bB BK381 hb; replace BK388 := bB BK388 hb; replace HB := bS2 HB GE381 GE388 hb; (try clear hb); obtain ⟨hcz40_0, hcz40_1, hcz40_2, hfz40_0, hfz40_1, hfz40_2⟩ := bz3 BK381))
    refine bodyPost_ret (results_ct rfl _ _ gb381 28 #[.int .i64 0, .int .i64 0, .slice none 0 0] (0, 0) _ rfl (bq0 BK381) Tryd.underlying28 rfl (by kernel_rfl)) rfl ?_
    exact ⟨_, by first | rfl | (simp [errW_none, errW_some] <;> rfl) | (simp [*, errW_none, errW_some] <;> rfl), by first | exact Kd.R_nil _ _ _ _ _ | exact Kd.N_nil _ _ _ _ _ | exact Kd.V_nil _ _ _ _ _ | exact Kd.Q_nil _ _ _ _ _ | exact Kd.S_nil _ _ _ _ _, bbw2 HB GE381 GE388⟩
/-! ### laws_likeInts: function 30 -/
def laws_likeInts.l0 : Nat → List Int → List Int → Int → Option (Bool)
 | 0, _, _, _ => none
 | k + 1, x0, x1, x5 => if x5 < (x0.length : Int) then (if 0 ≤ x5 then (if x5 < (x1.length : Int) then (if (rd x0 x5) = (rd x1 x5) then (laws_likeInts.l0 k x0 x1 (wrap64 (x5 + 1))) else (some false)) else (none)) else (none)) else (some true)
def laws_likeInts.f (k : Nat) (l0 : List Int) (l1 : List Int) : Option (Bool) := if (l0.length : Int) = (l1.length : Int) then (laws_likeInts.l0 k l0 l1 0) else (some false)
set_option maxHeartbeats 8000000 in
set_option maxRecDepth 100000 in
theorem laws_likeInts.calls (k : Nat) (A0 : Option Addr) (c0 : Nat) (l0 : List Int) (A1 : Option Addr) (c1 : Nat) (l1 : List Int) (r : Bool) (w : World) (hr0 : Kd.C (Kd.int .i64) w A0 l0.length l0) (hc0 : l0.length ≤ c0) (hr1 : Kd.C (Kd.int .i64) w A1 l1.length l1) (hc1 : l1.length ≤ c1) (h : laws_likeInts.f k l0 l1 = some r) :
  Calls Tryd.prog 30 #[.slice A0 l0.length c0, .slice A1 l1.length c1] w fun e w' => e = .returned (.bool r) ∧ Drawn0 w w' := by
 have HR0 := Aside0.mk hr0
 have HC0 := Aside0.mk hc0
 clear hr0 hc0
 have HR1 := Aside0.mk hr1
 have HC1 := Aside0.mk hc1
 clear hr1 hc1
 have H : (if (l0.length : Int) = (l1.length : Int) then (laws_likeInts.l0 k l0 l1 0) else (some false)) = some r := h
 clear h
 by_cases c3 : (l0.length : Int) = (l1.length : Int)
 ·rw [if_pos c3] at H
  have c3b0 : ((l0.length : Int) == (l1.length : Int)) = true := beq_iff_eq.mpr c3
  have c3b1 : ((l0.length : Int) != (l1.length : Int)) = false := bne_eq_false_iff_eq.mpr c3
  have c3b2 : (l0.length == l1.length) = true := by first | simpa using c3 | (simp at c3 ⊢; omega)
  clear c3
  have H' := Aside0.mk H
  clear H
  go_enter Tryd.func30, Tryd.ntmps30
  go_wp2
  repeat (go_quiet (fail); try go_wp2)
  go_loopg [5] k (fun kq v5 w' => ∃ (x5_1 : Int), v5 = .int .i64 x5_1 ∧ Aside0 (laws_likeInts.l0 kq l0 l1 x5_1 = some r) ∧ Aside0 (kq ≤ k) ∧ Drawn0 w w')
  case atStart => exact ⟨(0), (by first | rfl | (simp; done) | (simp [*]; done)), H', ⟨Nat.le_refl _⟩, by repeat (first | exact Drawn0.refl _ | apply Drawn0.step)⟩
  case round =>
   clear H'
   try clear c1
   try clear p2
   try clear c3
   try clear c3b0
   try clear c3b1
   try clear c3b2
   obtain ⟨x5_1, rfl, HA, HK1, ⟨m1, rfl⟩⟩ := hrel
   cases gk with
   | zero => exact absurd HA.out (by simp [laws_likeInts.l0])
   | succ k1 =>
    have H := HA.out
    clear HA
    simp only [laws_likeInts.l0] at H
    by_cases c4 : x5_1 < (l0.length : Int)
    rw [if_pos c4] at H
    have c4b0 := decide_eq_true c4
    clear c4
    by_cases c5 : 0 ≤ x5_1
    rw [if_pos c5] at H
    have c5b0 := decide_eq_true c5
    clear c5
    by_cases c6 : x5_1 < (l1.length : Int)
    rw [if_pos c6] at H
    have c6b0 := decide_eq_true c6
    clear c6
    by_cases c7 : (rd l0 x5_1) = (rd l1 x5_1)
    rw [if_pos c7] at H
    have c7b0 : ((rd l0 x5_1) == (rd l1 x5_1)) = true := beq_iff_eq.mpr c7
    have c7b1 : ((rd l0 x5_1) != (rd l1 x5_1)) = false := bne_eq_false_iff_eq.mpr c7
    clear c7
    have H' := Aside0.mk H
    clear H
    rotate_left
    rw [if_neg c7] at H
    have c7b0 : ((rd l0 x5_1) == (rd l1 x5_1)) = false := beq_eq_false_iff_ne.mpr c7
    have c7b1 : ((rd l0 x5_1) != (rd l1 x5_1)) = true := bne_iff_ne.mpr c7
    obtain rfl := Option.some.inj H
    rotate_left
    ·rw [if_neg c6] at H
     exact absurd H (by simp)
    ·rw [if_neg c5] at H
     exact absurd H (by simp)
    rw [if_neg c4] at H
    have c4b0 := decide_eq_false c4
    clear c4
    obtain rfl := Option.some.inj H
    rotate_left
    rotate_left 2
    ·go_wp2
     repeat (go_quiet (fail); try go_wp2)
     go_ret
     exact ⟨by first | rfl | (simp; done) | (simp [*]; done), by repeat (first | exact Drawn0.refl _ | apply Drawn0.step)⟩
    all_goals
     have p397 : 0 ≤ (x5_1 : Int) := od
     have q397 : x5_1 < (l0.length : Int) := od
     obtain ⟨ad397, e397, hx397_0⟩ := Kd.at_int HR0.out x5_1 p397 q397
     cases e397
     replace p397 := eq_true p397
     replace q397 := eq_true q397
     have p398 : 0 ≤ (x5_1 : Int) := od
     have q398 : x5_1 < (l1.length : Int) := od
     obtain ⟨ad398, e398, hx398_0⟩ := Kd.at_int HR1.out x5_1 p398 q398
     cases e398
     replace p398 := eq_true p398
     replace q398 := eq_true q398
     go_wp2
     repeat (go_quiet (fail); try go_wp2)
    ·go_roundg k1
     case measure => have := HK1.out; omega
     case rel => exact ⟨(wrap64 (x5_1 + 1)), (by first | rfl | (simp; done) | (simp [*]; done)), H', ⟨by have := HK1.out; omega⟩, by repeat (first | exact Drawn0.refl _ | apply Drawn0.step)⟩
    ·go_ret
     exact ⟨by first | rfl | (simp; done) | (simp [*]; done), by repeat (first | exact Drawn0.refl _ | apply Drawn0.step)⟩
 ·rw [if_neg c3] at H
  have c3b0 : ((l0.length : Int) == (l1.length : Int)) = false := beq_eq_false_iff_ne.mpr c3
  have c3b1 : ((l0.length : Int) != (l1.length : Int)) = true := bne_iff_ne.mpr c3
  have c3b2 : (l0.length == l1.length) = false := by first | simpa using c3 | (simp at c3 ⊢; omega)
  obtain rfl := Option.some.inj H
  go_enter Tryd.func30, Tryd.ntmps30
  go_wp2
  repeat (go_quiet (fail); try go_wp2)
  go_ret
  exact ⟨by first | rfl | (simp; done) | (simp [*]; done), by repeat (first | exact Drawn0.refl _ | apply Drawn0.step)⟩
/-! ### laws_likeFriezes9: function 15 -/
def laws_likeFriezes9.f (k : Nat) (a0_0 : Int) (a0_1 : Int) (l0_2 : List Int) (a1_0 : Int) (a1_1 : Int) (l1_2 : List Int) : Option (Bool) := if a0_0 = a1_0 then (if a0_1 = a1_1 then ((laws_likeInts.f k l0_2 l1_2).bind fun t401 => (some t401)) else (some false)) else (some false)
set_option maxHeartbeats 8000000 in
set_option maxRecDepth 100000 in
theorem laws_likeFriezes9.calls (k : Nat) (a0_0 : Int) (a0_1 : Int) (A0_2 : Option Addr) (c0_2 : Nat) (l0_2 : List Int) (a1_0 : Int) (a1_1 : Int) (A1_2 : Option Addr) (c1_2 : Nat) (l1_2 : List Int) (r : Bool) (w : World) (hr0_2 : Kd.C (Kd.int .i64) w A0_2 l0_2.length l0_2) (hc0_2 : l0_2.length ≤ c0_2) (hr1_2 : Kd.C (Kd.int .i64) w A1_2 l1_2.length l1_2) (hc1_2 : l1_2.length ≤ c1_2) (h : laws_likeFriezes9.f k a0_0 a0_1 l0_2 a1_0 a1_1 l1_2 = some r) :
  Calls Tryd.prog 15 #[.agg #[.int .i64 a0_0, .int .i64 a0_1, .slice A0_2 l0_2.length c0_2], .agg #[.int .i64 a1_0, .int .i64 a1_1, .slice A1_2 l1_2.length c1_2]] w fun e w' => e = .returned (.bool r) ∧ Below w.heap.size w w' := by
 have hu28 := Tryd.underlying28
 have HR0_2 := Aside0.mk hr0_2
 have HC0_2 := Aside0.mk hc0_2
 clear hr0_2 hc0_2
 have HR1_2 := Aside0.mk hr1_2
 have HC1_2 := Aside0.mk hc1_2
 clear hr1_2 hc1_2
 have HB := asd (Below.refl w.heap.size w)
 have H : (if a0_0 = a1_0 then (if a0_1 = a1_1 then ((laws_likeInts.f k l0_2 l1_2).bind fun t401 => (some t401)) else (some false)) else (some false)) = some r := h
 clear h
 by_cases c3 : a0_0 = a1_0
 rw [if_pos c3] at H
 have c3b0 : (a0_0 == a1_0) = true := beq_iff_eq.mpr c3
 have c3b1 : (a0_0 != a1_0) = false := bne_eq_false_iff_eq.mpr c3
 clear c3
 by_cases c4 : a0_1 = a1_1
 rw [if_pos c4] at H
 have c4b0 : (a0_1 == a1_1) = true := beq_iff_eq.mpr c4
 have c4b1 : (a0_1 != a1_1) = false := bne_eq_false_iff_eq.mpr c4
 clear c4
 obtain ⟨t401, A5, H⟩ := ob H
 try dsimp only at H
 obtain rfl := Option.some.inj H
 rotate_left
 rw [if_neg c4] at H
 have c4b0 : (a0_1 == a1_1) = false := beq_eq_false_iff_ne.mpr c4
 have c4b1 : (a0_1 != a1_1) = true := bne_iff_ne.mpr c4
 obtain rfl := Option.some.inj H
 rotate_left
 rw [if_neg c3] at H
 have c3b0 : (a0_0 == a1_0) = false := beq_eq_false_iff_ne.mpr c3
 have c3b1 : (a0_0 != a1_0) = true := bne_iff_ne.mpr c3
 obtain rfl := Option.some.inj H
 rotate_left
 all_goals
  go_enter Tryd.func15, Tryd.ntmps15
  go_wp2_with (first | ((with_reducible refine gd 2 rfl ?_); refine bx #[.int .i64 a0_0, .int .i64 a0_1, .slice A0_2 l0_2.length c0_2] 28 ?_; intro gb399 hg w6 BK399 hb; have GE399 := ngw0 hg HB; replace HB := bS0 HB hb; clear hb hg) | ((with_reducible refine gd 3 rfl ?_); refine bx #[.int .i64 a1_0, .int .i64 a1_1, .slice A1_2 l1_2.length c1_2] 28 ?_; intro gb400 hg w7 BK400 hb; have GE400 := ngw1 hg HB GE399; replace HB := bS1 HB GE399 hb; have NB399_400 := nlt hg BK399; have NB400_399 := nsy (nlt hg BK399); replace BK399 := bB BK399 hb; clear hb hg; have hnb8 := NB399_400.out; have hnc8 := NB400_399.out; obtain ⟨hcz9_0, hcz9_1, hcz9_2, hfz9_0, hfz9_1, hfz9_2⟩ := bz3 BK399; obtain ⟨hcz10_0, hcz10_1, hcz10_2, hfz10_0, hfz10_1, hfz10_2⟩ := bz3 BK400) | (go_at_call 30; (with_reducible refine (laws_likeInts.calls _ _ _ _ _ _ _ _ _ ?side1 ?side2 ?side3 ?side4 A5.out).mono ?_); (case side1 => exact ks (Kd.C_below HR0_2.out HB.out)); (case side2 => exact HC0_2.out); (case side3 => exact ks (Kd.C_below HR1_2.out HB.out)); (case side4 => exact HC1_2.out); rintro e w' ⟨rfl, ⟨nd, rfl⟩⟩))
  go_ret
  exact er (bbw2 HB GE399 GE400)
/-! ### laws_FnFriezeTexts: function 4 -/
mutual
def laws_FnFriezeTexts.j0 : Nat → ByteArray → Int → ByteArray → Int → Bool → Int → Int → List Int → Int → Int → List Int → Option (Bool)
 | 0, _, _, _, _, _, _, _, _, _, _, _ => none
 | k + 1, x4, x5, x8, x10, x61, x409000, x409001, x409002, x421000, x421001, x421002 => if x61 = true then (some false) else (if x10 = 0 then ((impl_FriezeText.f k x421000 x421001 x421002).bind fun bt429 => (if bt429.2 = 0 then (if bt429.1.toList = x8.toList then (laws_FnFriezeTexts.j1 k x4 x5 x409000 x409001 x409002) else (some false)) else (some false))) else (laws_FnFriezeTexts.j1 k x4 x5 x409000 x409001 x409002))
def laws_FnFriezeTexts.j1 : Nat → ByteArray → Int → Int → Int → List Int → Option (Bool)
 | 0, _, _, _, _, _ => none
 | k + 1, x4, x5, x409000, x409001, x409002 => if x5 = 0 then ((impl_ReadFrieze.f k x4).bind fun bt431 => (if bt431.2.2.2 = 0 then ((laws_likeFriezes9.f k bt431.1 bt431.2.1 bt431.2.2.1 x409000 x409001 x409002).bind fun t438 => (some t438)) else (some false))) else (some true)
end
def laws_FnFriezeTexts.f (k : Nat) (l0 : List Int) : Option (Bool) := (laws_big.f l0).bind fun t402 => (if t402 = true then (some true) else ((spec_DrawFriezeText.f k l0).bind fun bt403 => ((impl_FriezeText.f k bt403.1 bt403.2.1 bt403.2.2).bind fun bt409 => ((spec_FriezeText.f k bt403.1 bt403.2.1 bt403.2.2).bind fun bt411 => ((spec_DrawReadFrieze.f k l0).bind fun t413 => ((impl_ReadFrieze.f k t413).bind fun bt414 => ((spec_ReadFrieze.f k t413).bind fun bt421 => (if bt409.2 = bt411.2 then (if bt409.1.toList = bt411.1.toList then (if bt414.2.2.2 = bt421.2.2.2 then ((laws_likeFriezes9.f k bt414.1 bt414.2.1 bt414.2.2.1 bt421.1 bt421.2.1 bt421.2.2.1).bind fun t428 => (laws_FnFriezeTexts.j0 k bt409.1 bt409.2 t413 bt414.2.2.2 (!t428) bt403.1 bt403.2.1 bt403.2.2 bt414.1 bt414.2.1 bt414.2.2.1)) else (laws_FnFriezeTexts.j0 k bt409.1 bt409.2 t413 bt414.2.2.2 true bt403.1 bt403.2.1 bt403.2.2 bt414.1 bt414.2.1 bt414.2.2.1)) else (laws_FnFriezeTexts.j0 k bt409.1 bt409.2 t413 bt414.2.2.2 true bt403.1 bt403.2.1 bt403.2.2 bt414.1 bt414.2.1 bt414.2.2.1)) else (laws_FnFriezeTexts.j0 k bt409.1 bt409.2 t413 bt414.2.2.2 true bt403.1 bt403.2.1 bt403.2.2 bt414.1 bt414.2.1 bt414.2.2.1)))))))))
set_option maxHeartbeats 8000000 in
set_option maxRecDepth 100000 in
theorem laws_FnFriezeTexts.calls (k : Nat) (A0 : Option Addr) (c0 : Nat) (l0 : List Int) (w : World) (hr0 : Kd.C (Kd.int .u8) w A0 l0.length l0) (hc0 : l0.length ≤ c0) (htab : texts.Tab w) (h : laws_FnFriezeTexts.f k l0 = some true) :
  Calls Tryd.prog 4 #[.slice A0 l0.length c0] w fun e w' => e = .returned (.bool true) ∧ Below w.heap.size w w' := by
 have HTAB := Aside0.mk htab
 clear htab
 have hu28 := Tryd.underlying28
 have HR0 := Aside0.mk hr0
 have HC0 := Aside0.mk hc0
 clear hr0 hc0
 have HB := asd (Below.refl w.heap.size w)
 have H : ((laws_big.f l0).bind fun t402 => (if t402 = true then (some true) else ((spec_DrawFriezeText.f k l0).bind fun bt403 => ((impl_FriezeText.f k bt403.1 bt403.2.1 bt403.2.2).bind fun bt409 => ((spec_FriezeText.f k bt403.1 bt403.2.1 bt403.2.2).bind fun bt411 => ((spec_DrawReadFrieze.f k l0).bind fun t413 => ((impl_ReadFrieze.f k t413).bind fun bt414 => ((spec_ReadFrieze.f k t413).bind fun bt421 => (if bt409.2 = bt411.2 then (if bt409.1.toList = bt411.1.toList then (if bt414.2.2.2 = bt421.2.2.2 then ((laws_likeFriezes9.f k bt414.1 bt414.2.1 bt414.2.2.1 bt421.1 bt421.2.1 bt421.2.2.1).bind fun t428 => (laws_FnFriezeTexts.j0 k bt409.1 bt409.2 t413 bt414.2.2.2 (!t428) bt403.1 bt403.2.1 bt403.2.2 bt414.1 bt414.2.1 bt414.2.2.1)) else (laws_FnFriezeTexts.j0 k bt409.1 bt409.2 t413 bt414.2.2.2 true bt403.1 bt403.2.1 bt403.2.2 bt414.1 bt414.2.1 bt414.2.2.1)) else (laws_FnFriezeTexts.j0 k bt409.1 bt409.2 t413 bt414.2.2.2 true bt403.1 bt403.2.1 bt403.2.2 bt414.1 bt414.2.1 bt414.2.2.1)) else (laws_FnFriezeTexts.j0 k bt409.1 bt409.2 t413 bt414.2.2.2 true bt403.1 bt403.2.1 bt403.2.2 bt414.1 bt414.2.1 bt414.2.2.1)))))))))) = some true := h
 clear h
 obtain ⟨t402, A2, H⟩ := ob H
 try dsimp only at H
 by_cases c3 : t402 = true
 ·subst c3
  replace H := ifT H
  clear H
  go_enter Tryd.func4, Tryd.ntmps4
  go_wp2_with (first | ((with_reducible refine gate_callee (f := 10) rfl ?_); refine gl 18 Tryd.func10 #[.slice A0 l0.length c0] ?_; (with_reducible refine (laws_big.calls _ _ _ _ _ ?side1 ?side2 A2.out).mono ?_); (case side1 => exact ks HR0.out); (case side2 => exact HC0.out); rintro e w' ⟨rfl, ⟨nd, rfl⟩⟩; refine ⟨_, rfl, ?_⟩))
  go_ret
  exact er (bbw0 HB)
 ·replace c3 := Bool.eq_false_iff.mpr c3
  subst c3
  replace H := ifF H
  obtain ⟨⟨t403, t404, t405⟩, A4, H⟩ := ob H
  try dsimp only at H
  obtain ⟨⟨t409, t410⟩, A5, H⟩ := ob H
  try dsimp only at H
  obtain ⟨⟨t411, t412⟩, A6, H⟩ := ob H
  try dsimp only at H
  obtain ⟨t413, A7, H⟩ := ob H
  try dsimp only at H
  obtain ⟨⟨t414, t415, t416, t419⟩, A8, H⟩ := ob H
  try dsimp only at H
  obtain ⟨⟨t421, t422, t423, t426⟩, A9, H⟩ := ob H
  try dsimp only at H
  have HC10 := Aside0.mk H
  clear H
  go_enter Tryd.func4, Tryd.ntmps4
  go_upto_region 9 with (first | ((with_reducible refine gate_callee (f := 10) rfl ?_); refine gl 18 Tryd.func10 #[.slice A0 l0.length c0] ?_; (with_reducible refine (laws_big.calls _ _ _ _ _ ?side1 ?side2 A2.out).mono ?_); (case side1 => exact ks HR0.out); (case side2 => exact HC0.out); rintro e w' ⟨rfl, ⟨nd, rfl⟩⟩; refine ⟨_, rfl, ?_⟩) | ((with_reducible refine gate_callee (f := 11) rfl ?_); refine gl 20 Tryd.func11 #[.slice A0 l0.length c0] ?_; (with_reducible refine (spec_DrawFriezeText.calls _ _ _ _ _ _ _ _ ?side1 ?side2 A4.out).mono ?_); (case side1 => exact ks HR0.out); (case side2 => exact HC0.out); rintro e w11 ⟨v406, rfl, ho0, hb⟩; refine ⟨_, rfl, ?_⟩; have HO407 := asd (Kd.R_lower ho0 (bsz0 HB)); replace HB := bS0 HB hb; (try clear hb); (try clear hb2); (try clear hk); (try clear hi); (try clear ho0)) | ((with_reducible refine gd 3 rfl ?_); refine bx #[.int .i64 0, .int .i64 0, .slice none 0 0] 28 ?_; intro gb408 hg w12 BK408 hb; replace HO407 := asd (Kd.R_below (kr HO407) hb); have GE408 := ngw0 hg HB; replace HB := bS0 HB hb; clear hb hg; obtain ⟨hcz13_0, hcz13_1, hcz13_2, hfz13_0, hfz13_1, hfz13_2⟩ := bz3 BK408; obtain ⟨Ao14, co14, eo14⟩ := Kd.R_slice HO407.out; subst eo14) | ((with_reducible refine gate_callee (f := 8) rfl ?_); refine gl 23 Tryd.func8 #[.agg #[.int .i64 t403, .int .i64 t404, .slice Ao14 t405.length co14]] ?_; (with_reducible refine (impl_FriezeText.calls _ _ _ _ _ _ _ _ _ ?side1 ?side2 (texts.tabB HTAB.out (by repeat (first | (with_reducible first | exact HB.out | exact Below.refl _ _ | apply below_alloc | apply pw_below_drewN | apply below_drew1 | refine below_set ?_ GE408.out | refine below_set ?_ GE420.out | refine below_set ?_ GE427.out | refine below_set ?_ GE437.out) | exact HB.out))) A5.out).mono ?_); (case side1 => refine (Kd.R_reads' (e := 2) (base := w.heap.size) (ok := fun k_ => True) (n := t405.length) (c := co14) ?_).2.2; exact (by (with_reducible repeat (first | apply Kd.R_alloc | apply Kd.R_drewN | apply Kd.R_drew)); exact (Kd.R_mono (rw3 (Kd.R_types HO407.out BK408.out (by decide))) (fun _ h_ => h_.1)))); (case side2 => exact (Kd.R_reads' HO407.out).2.1); rintro e w15 ⟨rfl, hb⟩; refine ⟨_, rfl, ?_⟩; replace HO407 := asd (Kd.R_below (by (with_reducible repeat (first | apply Kd.R_alloc | apply Kd.R_drewN | apply Kd.R_drew)); exact (Kd.R_mono (rw3 (Kd.R_types HO407.out BK408.out (by decide))) (fun _ h_ => h_.1))) hb); replace BK408 := asd (blk_below (g := gb408) (o := .cells #[.int .i64 t403, .int .i64 t404, .slice Ao14 t405.length co14] 28 (0, 0)) (bq0 BK408) hb); replace HB := bS1 HB GE408 hb; (try clear hb); obtain ⟨hcz16_0, hcz16_1, hcz16_2, hfz16_0, hfz16_1, hfz16_2⟩ := bz3 BK408) | ((with_reducible refine gate_callee (f := 6) rfl ?_); refine gl 28 Tryd.func6 #[.agg #[.int .i64 t403, .int .i64 t404, .slice Ao14 t405.length co14]] ?_; (with_reducible refine (spec_FriezeText.calls _ _ _ _ _ _ _ _ _ ?side1 ?side2 A6.out).mono ?_); (case side1 => exact ks (Kd.R_reads' HO407.out).2.2); (case side2 => exact (Kd.R_reads' HO407.out).2.1); rintro e w17 ⟨rfl, hb⟩; refine ⟨_, rfl, ?_⟩; replace HO407 := asd (Kd.R_below (kr HO407) hb); replace BK408 := bB BK408 hb; replace HB := bS1 HB GE408 hb; (try clear hb)) | ((with_reducible refine gate_callee (f := 12) rfl ?_); refine gl 32 Tryd.func12 #[.slice A0 l0.length c0] ?_; (with_reducible refine (spec_DrawReadFrieze.calls _ _ _ _ _ _ ?side1 ?side2 A7.out).mono ?_); (case side1 => exact ks (Kd.C_below HR0.out HB.out)); (case side2 => exact HC0.out); rintro e w18 ⟨rfl, hb⟩; refine ⟨_, rfl, ?_⟩; replace HO407 := asd (Kd.R_below (kr HO407) hb); replace BK408 := bB BK408 hb; replace HB := bS1 HB GE408 hb; (try clear hb)) | ((with_reducible refine gate_callee (f := 13) rfl ?_); refine gl 35 Tryd.func13 #[.string t413] ?_; (with_reducible refine (impl_ReadFrieze.calls _ _ _ _ _ _ _ (texts.tabB HTAB.out (by repeat (first | (with_reducible first | exact HB.out | exact Below.refl _ _ | apply below_alloc | apply pw_below_drewN | apply below_drew1 | refine below_set ?_ GE408.out | refine below_set ?_ GE420.out | refine below_set ?_ GE427.out | refine below_set ?_ GE437.out) | exact HB.out))) A8.out).mono ?_); rintro e w19 ⟨v417, rfl, ho0, hb⟩; refine ⟨_, rfl, ?_⟩; have HO418 := asd (Kd.R_lower (Kd.R_new' ho0 (Kd.R_lt (kr HO407))) (bsz1 HB GE408)); replace HO407 := asd (Kd.R_elder' (kr HO407) (Kd.R_base ho0) hb); replace BK408 := bB BK408 hb; replace HB := bS1 HB GE408 hb; (try clear hb); (try clear hb2); (try clear hk); (try clear hi); (try clear ho0)) | ((with_reducible refine gd 9 rfl ?_); refine bx #[.int .i64 0, .int .i64 0, .slice none 0 0] 28 ?_; intro gb420 hg w20 BK420 hb; replace HO407 := asd (Kd.R_below (kr HO407) hb); replace HO418 := asd (Kd.R_below (kr HO418) hb); have GE420 := ngw1 hg HB GE408; replace HB := bS1 HB GE408 hb; have NB408_420 := nlt hg BK408; have NB420_408 := nsy (nlt hg BK408); replace BK408 := bB BK408 hb; clear hb hg; have hnb21 := NB420_408.out; have hnc21 := NB408_420.out; obtain ⟨hcz22_0, hcz22_1, hcz22_2, hfz22_0, hfz22_1, hfz22_2⟩ := bz3 BK420; obtain ⟨Ao23, co23, eo23⟩ := Kd.R_slice HO418.out; subst eo23) | ((with_reducible refine gate_callee (f := 14) rfl ?_); refine gl 40 Tryd.func14 #[.string t413] ?_; (with_reducible refine (spec_ReadFrieze.calls _ _ _ _ _ _ _ A9.out).mono ?_); rintro e w24 ⟨v424, rfl, ho0, hb⟩; refine ⟨_, rfl, ?_⟩; have HO425 := asd (Kd.R_lower (Kd.R_new' (Kd.R_new' ho0 (Kd.R_lt (by (with_reducible repeat (first | apply Kd.R_alloc | apply Kd.R_drewN | apply Kd.R_drew)); exact (Kd.R_mono (rw3 (Kd.R_types HO407.out BK420.out (by decide))) (fun _ h_ => h_.1))))) (Kd.R_lt (by (with_reducible repeat (first | apply Kd.R_alloc | apply Kd.R_drewN | apply Kd.R_drew)); exact (Kd.R_mono (rw3 (Kd.R_types HO418.out BK420.out (by decide))) (fun _ h_ => h_.1))))) (bsz2 HB GE408 GE420)); replace HO407 := asd (Kd.R_elder' (by (with_reducible repeat (first | apply Kd.R_alloc | apply Kd.R_drewN | apply Kd.R_drew)); exact (Kd.R_mono (rw3 (Kd.R_types HO407.out BK420.out (by decide))) (fun _ h_ => h_.1))) (Kd.R_base ho0) hb); replace HO418 := asd (Kd.R_elder' (by (with_reducible repeat (first | apply Kd.R_alloc | apply Kd.R_drewN | apply Kd.R_drew)); exact (Kd.R_mono (rw3 (Kd.R_types HO418.out BK420.out (by decide))) (fun _ h_ => h_.1))) (Kd.R_base ho0) hb); replace BK408 := asd (blk_below (g := gb408) (o := .cells #[.int .i64 t403, .int .i64 t404, .slice Ao14 t405.length co14] 28 (0, 0)) (bq1 BK408 NB408_420) hb); replace BK420 := asd (blk_below (g := gb420) (o := .cells #[.int .i64 t414, .int .i64 t415, .slice Ao23 t416.length co23] 28 (0, 0)) (bq0 BK420) hb); replace HB := bS2 HB GE408 GE420 hb; (try clear hb); (try clear hb2); (try clear hk); (try clear hi); (try clear ho0)) | ((with_reducible refine gd 11 rfl ?_); refine bx #[.int .i64 0, .int .i64 0, .slice none 0 0] 28 ?_; intro gb427 hg w25 BK427 hb; replace HO407 := asd (Kd.R_below (kr HO407) hb); replace HO418 := asd (Kd.R_below (kr HO418) hb); replace HO425 := asd (Kd.R_below (kr HO425) hb); have GE427 := ngw2 hg HB GE408 GE420; replace HB := bS2 HB GE408 GE420 hb; have NB408_427 := nlt hg BK408; have NB427_408 := nsy (nlt hg BK408); replace BK408 := bB BK408 hb; have NB420_427 := nlt hg BK420; have NB427_420 := nsy (nlt hg BK420); replace BK420 := bB BK420 hb; clear hb hg; have hnb26 := NB427_408.out; have hnc26 := NB408_427.out; have hnb27 := NB427_420.out; have hnc27 := NB420_427.out; obtain ⟨hcz28_0, hcz28_1, hcz28_2, hfz28_0, hfz28_1, hfz28_2⟩ := bz3 BK427; obtain ⟨Ao29, co29, eo29⟩ := Kd.R_slice HO425.out; subst eo29))
  (try simp only [Act.put, sA, sB, sC])
  go_cut [61] (fun v61 wc => ∃ (kq : Nat) (x61_9 : Bool), v61 = .bool x61_9 ∧ Aside0 (laws_FnFriezeTexts.j0 kq t409 t410 t413 t419 x61_9 t403 t404 t405 t414 t415 t416 = some true) ∧ Aside0 (kq ≤ k) ∧ Aside0 (Kd.R (Kd.int .i64) 2 wc w.heap.size (fun k_ => some k_ ≠ ((.slice Ao23 t416.length co23) : Value).ownBlock ∧ some k_ ≠ ((.slice Ao29 t423.length co29) : Value).ownBlock) (.slice Ao14 t405.length co14) t405) ∧ Aside0 (Kd.R (Kd.int .i64) 2 wc w.heap.size (fun k_ => some k_ ≠ ((.slice Ao14 t405.length co14) : Value).ownBlock ∧ some k_ ≠ ((.slice Ao29 t423.length co29) : Value).ownBlock) (.slice Ao23 t416.length co23) t416) ∧ Aside0 (Kd.R (Kd.int .i64) 2 wc w.heap.size (fun k_ => some k_ ≠ ((.slice Ao14 t405.length co14) : Value).ownBlock ∧ some k_ ≠ ((.slice Ao23 t416.length co23) : Value).ownBlock) (.slice Ao29 t423.length co29) t423) ∧ Aside0 (wc.heap[gb408]? = some (.cells #[.int .i64 t403, .int .i64 t404, (.slice Ao14 t405.length co14)] 28 (0, 0))) ∧ Aside0 (wc.heap[gb420]? = some (.cells #[.int .i64 t414, .int .i64 t415, (.slice Ao23 t416.length co23)] 28 (0, 0))) ∧ Aside0 (wc.heap[gb427]? = some (.cells #[.int .i64 t421, .int .i64 t422, (.slice Ao29 t423.length co29)] 28 (0, 0))) ∧ Aside0 (Below w.heap.size w wc))
  case first =>
   have H := HC10.out
   clear HC10
   by_cases c30 : t410 = t412
   ·rw [if_pos c30] at H
    have c30b0 : (t410 == t412) = true := beq_iff_eq.mpr c30
    have c30b1 : (t410 != t412) = false := bne_eq_false_iff_eq.mpr c30
    clear c30
    (first | rw [c30b0] | (simp only [i64_w, i32_w]; rw [c30b0]) | skip)
    by_cases c31 : t409.toList = t411.toList
    rw [if_pos c31] at H
    have c31b0 : (t409.toList == t411.toList) = true := beq_iff_eq.mpr c31
    have c31b1 : (t409.toList != t411.toList) = false := bne_eq_false_iff_eq.mpr c31
    clear c31
    by_cases c32 : t419 = t426
    rw [if_pos c32] at H
    have c32b0 : (t419 == t426) = true := beq_iff_eq.mpr c32
    have c32b1 : (t419 != t426) = false := bne_eq_false_iff_eq.mpr c32
    clear c32
    obtain ⟨t428, A33, H⟩ := ob H
    try dsimp only at H
    have H' := Aside0.mk H
    clear H
    rotate_left
    rw [if_neg c32] at H
    have c32b0 : (t419 == t426) = false := beq_eq_false_iff_ne.mpr c32
    have c32b1 : (t419 != t426) = true := bne_iff_ne.mpr c32
    have H' := Aside0.mk H
    clear H
    rotate_left
    rw [if_neg c31] at H
    have c31b0 : (t409.toList == t411.toList) = false := beq_eq_false_iff_ne.mpr c31
    have c31b1 : (t409.toList != t411.toList) = true := bne_iff_ne.mpr c31
    have H' := Aside0.mk H
    clear H
    rotate_left
    ·have hnb34 := NB420_408.out
     have hnc34 := NB408_420.out
     have hnb35 := NB420_427.out
     have hnc35 := NB427_420.out
     obtain ⟨hcz36_0, hcz36_1, hcz36_2, hfz36_0, hfz36_1, hfz36_2⟩ := bz3 BK420
     have hnb37 := NB427_408.out
     have hnc37 := NB408_427.out
     obtain ⟨hcz38_0, hcz38_1, hcz38_2, hfz38_0, hfz38_1, hfz38_2⟩ := bz3 BK427
     go_wp2_with (first | (go_at_call 15; (with_reducible refine (laws_likeFriezes9.calls _ _ _ _ _ _ _ _ _ _ _ _ _ ?side1 ?side2 ?side3 ?side4 A33.out).mono ?_); (case side1 => refine (Kd.R_reads' (e := 2) (base := w.heap.size) (ok := fun k_ => ((True ∧ some k_ ≠ (.slice Ao14 t405.length co14 : Value).ownBlock) ∧ some k_ ≠ (.slice Ao29 t423.length co29 : Value).ownBlock)) (n := t416.length) (c := co23) ?_).2.2; exact (by (with_reducible repeat (first | apply Kd.R_alloc | apply Kd.R_drewN | apply Kd.R_drew)); exact (Kd.R_mono (rw3 (Kd.R_types HO418.out BK427.out (by decide))) (fun _ h_ => h_.1)))); (case side2 => exact (Kd.R_reads' HO418.out).2.1); (case side3 => refine (Kd.R_reads' (e := 2) (base := w.heap.size) (ok := fun k_ => ((True ∧ some k_ ≠ (.slice Ao14 t405.length co14 : Value).ownBlock) ∧ some k_ ≠ (.slice Ao23 t416.length co23 : Value).ownBlock)) (n := t423.length) (c := co29) ?_).2.2; exact (by (with_reducible repeat (first | apply Kd.R_alloc | apply Kd.R_drewN | apply Kd.R_drew)); exact (Kd.R_mono (rw3 (Kd.R_types HO425.out BK427.out (by decide))) (fun _ h_ => h_.1)))); (case side4 => exact (Kd.R_reads' HO425.out).2.1); rintro e w39 ⟨rfl, hb⟩; replace HO407 := asd (Kd.R_below (by (with_reducible repeat (first | apply Kd.R_alloc | apply Kd.R_drewN | apply Kd.R_drew)); exact (Kd.R_mono (rw3 (Kd.R_types HO407.out BK427.out (by decide))) (fun _ h_ => h_.1))) hb); replace HO418 := asd (Kd.R_below (by (with_reducible repeat (first | apply Kd.R_alloc | apply Kd.R_drewN | apply Kd.R_drew)); exact (Kd.R_mono (rw3 (Kd.R_types HO418.out BK427.out (by decide))) (fun _ h_ => h_.1))) hb); replace HO425 := asd (Kd.R_below (by (with_reducible repeat (first | apply Kd.R_alloc | apply Kd.R_drewN | apply Kd.R_drew)); exact (Kd.R_mono (rw3 (Kd.R_types HO425.out BK427.out (by decide))) (fun _ h_ => h_.1))) hb); replace BK408 := asd (blk_below (g := gb408) (o := .cells #[.int .i64 t403, .int .i64 t404, .slice Ao14 t405.length co14] 28 (0, 0)) (bq1 BK408 NB408_427) hb); replace BK420 := asd (blk_below (g := gb420) (o := .cells #[.int .i64 t414, .int .i64 t415, .slice Ao23 t416.length co23] 28 (0, 0)) (bq1 BK420 NB420_427) hb); replace BK427 := asd (blk_below (g := gb427) (o := .cells #[.int .i64 t421, .int .i64 t422, .slice Ao29 t423.length co29] 28 (0, 0)) (bq0 BK427) hb); replace HB := bS3 HB GE408 GE420 GE427 hb; (try clear hb)))
     go_meet
     case rel => exact ⟨_, (!t428), (by first | rfl | (simp; done) | (simp [*]; done)), H', ⟨by first | omega | exact Nat.le_refl _⟩, ⟨by (with_reducible repeat (first | apply Kd.R_alloc | apply Kd.R_drewN | apply Kd.R_drew)); exact Kd.R_mono HO407.out (fun _ hk => ⟨hk.1.2, hk.2⟩)⟩, ⟨by (with_reducible repeat (first | apply Kd.R_alloc | apply Kd.R_drewN | apply Kd.R_drew)); exact Kd.R_mono HO418.out (fun _ hk => ⟨hk.1.2, hk.2⟩)⟩, ⟨by (with_reducible repeat (first | apply Kd.R_alloc | apply Kd.R_drewN | apply Kd.R_drew)); exact Kd.R_mono HO425.out (fun _ hk => ⟨hk.1.2, hk.2⟩)⟩, ⟨bkp BK408⟩, ⟨bkp BK420⟩, ⟨bkp BK427⟩, ⟨bbw3 HB GE408 GE420 GE427⟩⟩
    rotate_left 2
    all_goals
     go_wp2
     go_meet
     case rel => exact ⟨_, (true), (by first | rfl | (simp; done) | (simp [*]; done)), H', ⟨by first | omega | exact Nat.le_refl _⟩, ⟨by (with_reducible repeat (first | apply Kd.R_alloc | apply Kd.R_drewN | apply Kd.R_drew)); exact Kd.R_mono (rw3 (Kd.R_types HO407.out BK427.out (by decide))) (fun _ hk => ⟨hk.1.1.2, hk.1.2⟩)⟩, ⟨by (with_reducible repeat (first | apply Kd.R_alloc | apply Kd.R_drewN | apply Kd.R_drew)); exact Kd.R_mono (rw3 (Kd.R_types HO418.out BK427.out (by decide))) (fun _ hk => ⟨hk.1.1.2, hk.1.2⟩)⟩, ⟨by (with_reducible repeat (first | apply Kd.R_alloc | apply Kd.R_drewN | apply Kd.R_drew)); exact Kd.R_mono (rw3 (Kd.R_types HO425.out BK427.out (by decide))) (fun _ hk => ⟨hk.1.1.2, hk.1.2⟩)⟩, ⟨bq1 BK408 NB408_427⟩, ⟨bq1 BK420 NB420_427⟩, ⟨bq0 BK427⟩, ⟨bbw3 HB GE408 GE420 GE427⟩⟩
   ·rw [if_neg c30] at H
    have c30b0 : (t410 == t412) = false := beq_eq_false_iff_ne.mpr c30
    have c30b1 : (t410 != t412) = true := bne_iff_ne.mpr c30
    (first | rw [c30b0] | (simp only [i64_w, i32_w]; rw [c30b0]) | skip)
    have H' := Aside0.mk H
    clear H
    go_wp2
    go_meet
    case rel => exact ⟨_, (true), (by first | rfl | (simp; done) | (simp [*]; done)), H', ⟨by first | omega | exact Nat.le_refl _⟩, ⟨by (with_reducible repeat (first | apply Kd.R_alloc | apply Kd.R_drewN | apply Kd.R_drew)); exact Kd.R_mono (rw3 (Kd.R_types HO407.out BK427.out (by decide))) (fun _ hk => ⟨hk.1.1.2, hk.1.2⟩)⟩, ⟨by (with_reducible repeat (first | apply Kd.R_alloc | apply Kd.R_drewN | apply Kd.R_drew)); exact Kd.R_mono (rw3 (Kd.R_types HO418.out BK427.out (by decide))) (fun _ hk => ⟨hk.1.1.2, hk.1.2⟩)⟩, ⟨by (with_reducible repeat (first | apply Kd.R_alloc | apply Kd.R_drewN | apply Kd.R_drew)); exact Kd.R_mono (rw3 (Kd.R_types HO425.out BK427.out (by decide))) (fun _ hk => ⟨hk.1.1.2, hk.1.2⟩)⟩, ⟨bq1 BK408 NB408_427⟩, ⟨bq1 BK420 NB420_427⟩, ⟨bq0 BK427⟩, ⟨bbw3 HB GE408 GE420 GE427⟩⟩
  case rest =>
   clear HC10
   try clear c1
   try clear c2
   try clear p2
   try clear c3
   try clear c4
   try clear c6
   try clear c8
   try clear c10
   try clear c11
   try clear c12
   try clear c13
   try clear c14
   try clear c21
   try clear c26
   try clear c27
   try clear c30
   try clear c30b0
   try clear c30b1
   try clear c31
   try clear c31b0
   try clear c31b1
   try clear c32
   try clear c32b0
   try clear c32b1
   try clear c34
   try clear c35
   try clear c37
   try clear hcz13_0
   try clear hcz13_1
   try clear hcz13_2
   try clear hcz16_0
   try clear hcz16_1
   try clear hcz16_2
   try clear hcz22_0
   try clear hcz22_1
   try clear hcz22_2
   try clear hcz28_0
   try clear hcz28_1
   try clear hcz28_2
   try clear hcz36_0
   try clear hcz36_1
   try clear hcz36_2
   try clear hcz38_0
   try clear hcz38_1
   try clear hcz38_2
   try clear hfz13_0
   try clear hfz13_1
   try clear hfz13_2
   try clear hfz16_0
   try clear hfz16_1
   try clear hfz16_2
   try clear hfz22_0
   try clear hfz22_1
   try clear hfz22_2
   try clear hfz28_0
   try clear hfz28_1
   try clear hfz28_2
   try clear hfz36_0
   try clear hfz36_1
   try clear hfz36_2
   try clear hfz38_0
   try clear hfz38_1
   try clear hfz38_2
   obtain ⟨kq, x61_9, rfl, HA, HJ9, HO_409002, HO_421002, HO_428002, BK408, BK420, BK427, HB⟩ := hcut
   cases kq with
   | zero => exact absurd HA.out (by simp [laws_FnFriezeTexts.j0])
   | succ kj9 =>
    have H := HA.out
    clear HA
    simp only [laws_FnFriezeTexts.j0] at H
    by_cases c40 : x61_9 = true
    ·subst c40
     replace H := ifT H
     exact absurd H (by simp)
    ·replace c40 := Bool.eq_false_iff.mpr c40
     subst c40
     replace H := ifF H
     have HC41 := Aside0.mk H
     clear H
     go_upto_if 63 with (fail)
     go_cut [] (fun wc => ∃ (kq : Nat), Aside0 (laws_FnFriezeTexts.j1 kq t409 t410 t403 t404 t405 = some true) ∧ Aside0 (kq ≤ kj9) ∧ Aside0 (Kd.R (Kd.int .i64) 2 wc w.heap.size (fun k_ => some k_ ≠ ((.slice Ao23 t416.length co23) : Value).ownBlock ∧ some k_ ≠ ((.slice Ao29 t423.length co29) : Value).ownBlock) (.slice Ao14 t405.length co14) t405) ∧ Aside0 (Kd.R (Kd.int .i64) 2 wc w.heap.size (fun k_ => some k_ ≠ ((.slice Ao14 t405.length co14) : Value).ownBlock ∧ some k_ ≠ ((.slice Ao29 t423.length co29) : Value).ownBlock) (.slice Ao23 t416.length co23) t416) ∧ Aside0 (Kd.R (Kd.int .i64) 2 wc w.heap.size (fun k_ => some k_ ≠ ((.slice Ao14 t405.length co14) : Value).ownBlock ∧ some k_ ≠ ((.slice Ao23 t416.length co23) : Value).ownBlock) (.slice Ao29 t423.length co29) t423) ∧ Aside0 (wc.heap[gb408]? = some (.cells #[.int .i64 t403, .int .i64 t404, (.slice Ao14 t405.length co14)] 28 (0, 0))) ∧ Aside0 (wc.heap[gb420]? = some (.cells #[.int .i64 t414, .int .i64 t415, (.slice Ao23 t416.length co23)] 28 (0, 0))) ∧ Aside0 (wc.heap[gb427]? = some (.cells #[.int .i64 t421, .int .i64 t422, (.slice Ao29 t423.length co29)] 28 (0, 0))) ∧ Aside0 (Below w.heap.size w wc))
     case first =>
      have H := HC41.out
      clear HC41
      by_cases c42 : t419 = 0
      ·rw [if_pos c42] at H
       have c42b0 : (t419 == 0) = true := beq_iff_eq.mpr c42
       have c42b1 : (t419 != 0) = false := bne_eq_false_iff_eq.mpr c42
       clear c42
       (first | rw [c42b0] | (simp only [i64_w, i32_w]; rw [c42b0]) | skip)
       obtain ⟨⟨t429, t430⟩, A43, H⟩ := ob H
       try dsimp only at H
       by_cases c44 : t430 = 0
       ·rw [if_pos c44] at H
        have c44b0 : (t430 == 0) = true := beq_iff_eq.mpr c44
        have c44b1 : (t430 != 0) = false := bne_eq_false_iff_eq.mpr c44
        clear c44
        by_cases c45 : t429.toList = t413.toList
        ·rw [if_pos c45] at H
         have c45b0 : (t429.toList == t413.toList) = true := beq_iff_eq.mpr c45
         have c45b1 : (t429.toList != t413.toList) = false := bne_eq_false_iff_eq.mpr c45
         clear c45
         have H' := Aside0.mk H
         clear H
         have hnb46 := NB420_408.out
         have hnc46 := NB408_420.out
         have hnb47 := NB420_427.out
         have hnc47 := NB427_420.out
         obtain ⟨hcz48_0, hcz48_1, hcz48_2, hfz48_0, hfz48_1, hfz48_2⟩ := bz3 BK420
         go_wp2_with (first | ((with_reducible refine gate_callee (f := 8) rfl ?_); refine gl 66 Tryd.func8 #[.agg #[.int .i64 t414, .int .i64 t415, .slice Ao23 t416.length co23]] ?_; (with_reducible refine (impl_FriezeText.calls _ _ _ _ _ _ _ _ _ ?side1 ?side2 (texts.tabB HTAB.out (by repeat (first | (with_reducible first | exact HB.out | exact Below.refl _ _ | apply below_alloc | apply pw_below_drewN | apply below_drew1 | refine below_set ?_ GE408.out | refine below_set ?_ GE420.out | refine below_set ?_ GE427.out | refine below_set ?_ GE437.out) | exact HB.out))) A43.out).mono ?_); (case side1 => exact ks (Kd.R_reads' HO_421002.out).2.2); (case side2 => exact (Kd.R_reads' HO_421002.out).2.1); rintro e w49 ⟨rfl, hb⟩; refine ⟨_, rfl, ?_⟩; replace HO_409002 := asd (Kd.R_below (kr HO_409002) hb); replace HO_421002 := asd (Kd.R_below (kr HO_421002) hb); replace HO_428002 := asd (Kd.R_below (kr HO_428002) hb); replace BK408 := bB BK408 hb; replace BK420 := bB BK420 hb; replace BK427 := bB BK427 hb; replace HB := bS3 HB GE408 GE420 GE427 hb; (try clear hb)))
         go_meet
         case rel => exact ⟨_, H', ⟨by have := HJ9.out; first | omega | exact Nat.le_refl _⟩, ⟨by (with_reducible repeat (first | apply Kd.R_alloc | apply Kd.R_drewN | apply Kd.R_drew)); exact HO_409002.out⟩, ⟨by (with_reducible repeat (first | apply Kd.R_alloc | apply Kd.R_drewN | apply Kd.R_drew)); exact HO_421002.out⟩, ⟨by (with_reducible repeat (first | apply Kd.R_alloc | apply Kd.R_drewN | apply Kd.R_drew)); exact HO_428002.out⟩, ⟨bkp BK408⟩, ⟨bkp BK420⟩, ⟨bkp BK427⟩, ⟨bbw3 HB GE408 GE420 GE427⟩⟩
        ·rw [if_neg c45] at H
         have c45b0 : (t429.toList == t413.toList) = false := beq_eq_false_iff_ne.mpr c45
         have c45b1 : (t429.toList != t413.toList) = true := bne_iff_ne.mpr c45
         exact absurd H (by simp)
       ·rw [if_neg c44] at H
        have c44b0 : (t430 == 0) = false := beq_eq_false_iff_ne.mpr c44
        have c44b1 : (t430 != 0) = true := bne_iff_ne.mpr c44
        exact absurd H (by simp)
      ·rw [if_neg c42] at H
       have c42b0 : (t419 == 0) = false := beq_eq_false_iff_ne.mpr c42
       have c42b1 : (t419 != 0) = true := bne_iff_ne.mpr c42
       (first | rw [c42b0] | (simp only [i64_w, i32_w]; rw [c42b0]) | skip)
       have H' := Aside0.mk H
       clear H
       go_wp2
       go_meet
       case rel => exact ⟨_, H', ⟨by have := HJ9.out; first | omega | exact Nat.le_refl _⟩, ⟨by (with_reducible repeat (first | apply Kd.R_alloc | apply Kd.R_drewN | apply Kd.R_drew)); exact HO_409002.out⟩, ⟨by (with_reducible repeat (first | apply Kd.R_alloc | apply Kd.R_drewN | apply Kd.R_drew)); exact HO_421002.out⟩, ⟨by (with_reducible repeat (first | apply Kd.R_alloc | apply Kd.R_drewN | apply Kd.R_drew)); exact HO_428002.out⟩, ⟨bkp BK408⟩, ⟨bkp BK420⟩, ⟨bkp BK427⟩, ⟨bbw3 HB GE408 GE420 GE427⟩⟩
     case rest =>
      clear HC41
      try clear c1
      try clear c2
      try clear p2
      try clear c3
      try clear c4
      try clear c6
      try clear c8
      try clear c10
      try clear c11
      try clear c12
      try clear c13
      try clear c14
      try clear c21
      try clear c26
      try clear c27
      try clear c30
      try clear c30b0
      try clear c30b1
      try clear c31
      try clear c31b0
      try clear c31b1
      try clear c32
      try clear c32b0
      try clear c32b1
      try clear c34
      try clear c35
      try clear c37
      try clear c40
      try clear c42
      try clear c42b0
      try clear c42b1
      try clear c44
      try clear c44b0
      try clear c44b1
      try clear c45
      try clear c45b0
      try clear c45b1
      try clear c46
      try clear c47
      try clear hcz13_0
      try clear hcz13_1
      try clear hcz13_2
      try clear hcz16_0
      try clear hcz16_1
      try clear hcz16_2
      try clear hcz22_0
      try clear hcz22_1
      try clear hcz22_2
      try clear hcz28_0
      try clear hcz28_1
      try clear hcz28_2
      try clear hcz36_0
      try clear hcz36_1
      try clear hcz36_2
      try clear hcz38_0
      try clear hcz38_1
      try clear hcz38_2
      try clear hcz48_0
      try clear hcz48_1
      try clear hcz48_2
      try clear hfz13_0
      try clear hfz13_1
      try clear hfz13_2
      try clear hfz16_0
      try clear hfz16_1
      try clear hfz16_2
      try clear hfz22_0
      try clear hfz22_1
      try clear hfz22_2
      try clear hfz28_0
      try clear hfz28_1
      try clear hfz28_2
      try clear hfz36_0
      try clear hfz36_1
      try clear hfz36_2
      try clear hfz38_0
      try clear hfz38_1
      try clear hfz38_2
      try clear hfz48_0
      try clear hfz48_1
      try clear hfz48_2
      try clear p2
      obtain ⟨kq, HA, HJ40, HO_409002, HO_421002, HO_428002, BK408, BK420, BK427, HB⟩ := hcut
      cases kq with
      | zero => exact absurd HA.out (by simp [laws_FnFriezeTexts.j1])
      | succ kj40 =>
       have H := HA.out
       clear HA
       simp only [laws_FnFriezeTexts.j1] at H
       by_cases c50 : t410 = 0
       ·rw [if_pos c50] at H
        have c50b0 : (t410 == 0) = true := beq_iff_eq.mpr c50
        have c50b1 : (t410 != 0) = false := bne_eq_false_iff_eq.mpr c50
        clear c50
        obtain ⟨⟨t431, t432, t433, t436⟩, A51, H⟩ := ob H
        try dsimp only at H
        by_cases c52 : t436 = 0
        ·rw [if_pos c52] at H
         have c52b0 : (t436 == 0) = true := beq_iff_eq.mpr c52
         have c52b1 : (t436 != 0) = false := bne_eq_false_iff_eq.mpr c52
         clear c52
         obtain ⟨t438, A53, H⟩ := ob H
         try dsimp only at H
         replace H := Option.some.inj H
         go_wp2_with (first | ((with_reducible refine gate_callee (f := 13) rfl ?_); refine gl 80 Tryd.func13 #[.string t409] ?_; (with_reducible refine (impl_ReadFrieze.calls _ _ _ _ _ _ _ (texts.tabB HTAB.out (by repeat (first | (with_reducible first | exact HB.out | exact Below.refl _ _ | apply below_alloc | apply pw_below_drewN | apply below_drew1 | refine below_set ?_ GE408.out | refine below_set ?_ GE420.out | refine below_set ?_ GE427.out | refine below_set ?_ GE437.out) | exact HB.out))) A51.out).mono ?_); rintro e w54 ⟨v434, rfl, ho0, hb⟩; refine ⟨_, rfl, ?_⟩; have HO435 := asd (Kd.R_lower (Kd.R_new' (Kd.R_new' (Kd.R_new' ho0 (Kd.R_lt (kr HO_409002))) (Kd.R_lt (kr HO_421002))) (Kd.R_lt (kr HO_428002))) (bsz3 HB GE408 GE420 GE427)); replace HO_409002 := asd (Kd.R_elder' (kr HO_409002) (Kd.R_base ho0) hb); replace HO_421002 := asd (Kd.R_elder' (kr HO_421002) (Kd.R_base ho0) hb); replace HO_428002 := asd (Kd.R_elder' (kr HO_428002) (Kd.R_base ho0) hb); replace BK408 := bB BK408 hb; replace BK420 := bB BK420 hb; replace BK427 := bB BK427 hb; replace HB := bS3 HB GE408 GE420 GE427 hb; (try clear hb); (try clear hb2); (try clear hk); (try clear hi); (try clear ho0)) | ((with_reducible refine gd 15 rfl ?_); refine bx #[.int .i64 0, .int .i64 0, .slice none 0 0] 28 ?_; intro gb437 hg w55 BK437 hb; replace HO_409002 := asd (Kd.R_below (kr HO_409002) hb); replace HO_421002 := asd (Kd.R_below (kr HO_421002) hb); replace HO_428002 := asd (Kd.R_below (kr HO_428002) hb); replace HO435 := asd (Kd.R_below (kr HO435) hb); have GE437 := ngw3 hg HB GE408 GE420 GE427; replace HB := bS3 HB GE408 GE420 GE427 hb; have NB408_437 := nlt hg BK408; have NB437_408 := nsy (nlt hg BK408); replace BK408 := bB BK408 hb; have NB420_437 := nlt hg BK420; have NB437_420 := nsy (nlt hg BK420); replace BK420 := bB BK420 hb; have NB427_437 := nlt hg BK427; have NB437_427 := nsy (nlt hg BK427); replace BK427 := bB BK427 hb; clear hb hg; have hnb56 := NB437_408.out; have hnc56 := NB408_437.out; have hnb57 := NB437_420.out; have hnc57 := NB420_437.out; have hnb58 := NB437_427.out; have hnc58 := NB427_437.out; obtain ⟨hcz59_0, hcz59_1, hcz59_2, hfz59_0, hfz59_1, hfz59_2⟩ := bz3 BK437; obtain ⟨Ao60, co60, eo60⟩ := Kd.R_slice HO435.out; subst eo60; have hnb61 := NB408_420.out; have hnc61 := NB420_408.out; have hnb62 := NB408_427.out; have hnc62 := NB427_408.out; obtain ⟨hcz63_0, hcz63_1, hcz63_2, hfz63_0, hfz63_1, hfz63_2⟩ := bz3 BK408) | (go_at_call 15; (with_reducible refine (laws_likeFriezes9.calls _ _ _ _ _ _ _ _ _ _ _ _ _ ?side1 ?side2 ?side3 ?side4 A53.out).mono ?_); (case side1 => refine (Kd.R_reads' (e := 2) (base := w.heap.size) (ok := fun k_ => (((True ∧ some k_ ≠ (.slice Ao14 t405.length co14 : Value).ownBlock) ∧ some k_ ≠ (.slice Ao23 t416.length co23 : Value).ownBlock) ∧ some k_ ≠ (.slice Ao29 t423.length co29 : Value).ownBlock)) (n := t433.length) (c := co60) ?_).2.2; exact (by (with_reducible repeat (first | apply Kd.R_alloc | apply Kd.R_drewN | apply Kd.R_drew)); exact (Kd.R_mono (rw3 (Kd.R_types HO435.out BK437.out (by decide))) (fun _ h_ => h_.1)))); (case side2 => exact (Kd.R_reads' HO435.out).2.1); (case side3 => refine (Kd.R_reads' (e := 2) (base := w.heap.size) (ok := fun k_ => ((some k_ ≠ (.slice Ao23 t416.length co23 : Value).ownBlock ∧ some k_ ≠ (.slice Ao29 t423.length co29 : Value).ownBlock) ∧ some k_ ≠ (.slice Ao60 t433.length co60 : Value).ownBlock)) (n := t405.length) (c := co14) ?_).2.2; exact (by (with_reducible repeat (first | apply Kd.R_alloc | apply Kd.R_drewN | apply Kd.R_drew)); exact (Kd.R_mono (rw3 (Kd.R_types HO_409002.out BK437.out (by decide))) (fun _ h_ => h_.1)))); (case side4 => exact (Kd.R_reads' HO_409002.out).2.1); rintro e w64 ⟨rfl, hb⟩; replace HO_409002 := asd (Kd.R_below (by (with_reducible repeat (first | apply Kd.R_alloc | apply Kd.R_drewN | apply Kd.R_drew)); exact (Kd.R_mono (rw3 (Kd.R_types HO_409002.out BK437.out (by decide))) (fun _ h_ => h_.1))) hb); replace HO_421002 := asd (Kd.R_below (by (with_reducible repeat (first | apply Kd.R_alloc | apply Kd.R_drewN | apply Kd.R_drew)); exact (Kd.R_mono (rw3 (Kd.R_types HO_421002.out BK437.out (by decide))) (fun _ h_ => h_.1))) hb); replace HO_428002 := asd (Kd.R_below (by (with_reducible repeat (first | apply Kd.R_alloc | apply Kd.R_drewN | apply Kd.R_drew)); exact (Kd.R_mono (rw3 (Kd.R_types HO_428002.out BK437.out (by decide))) (fun _ h_ => h_.1))) hb); replace HO435 := asd (Kd.R_below (by (with_reducible repeat (first | apply Kd.R_alloc | apply Kd.R_drewN | apply Kd.R_drew)); exact (Kd.R_mono (rw3 (Kd.R_types HO435.out BK437.out (by decide))) (fun _ h_ => h_.1))) hb); replace BK408 := asd (blk_below (g := gb408) (o := .cells #[.int .i64 t403, .int .i64 t404, .slice Ao14 t405.length co14] 28 (0, 0)) (bq1 BK408 NB408_437) hb); replace BK420 := asd (blk_below (g := gb420) (o := .cells #[.int .i64 t414, .int .i64 t415, .slice Ao23 t416.length co23] 28 (0, 0)) (bq1 BK420 NB420_437) hb); replace BK427 := asd (blk_below (g := gb427) (o := .cells #[.int .i64 t421, .int .i64 t422, .slice Ao29 t423.length co29] 28 (0, 0)) (bq1 BK427 NB427_437) hb); replace BK437 := asd (blk_below (g := gb437) (o := .cells #[.int .i64 t431, .int .i64 t432, .slice Ao60 t433.length co60] 28 (0, 0)) (bq0 BK437) hb); replace HB := bS4 HB GE408 GE420 GE427 GE437 hb; (try clear hb)))
         go_ret
         exact er (bbw4 HB GE408 GE420 GE427 GE437)
        ·rw [if_neg c52] at H
         have c52b0 : (t436 == 0) = false := beq_eq_false_iff_ne.mpr c52
         have c52b1 : (t436 != 0) = true := bne_iff_ne.mpr c52
         exact absurd H (by simp)
       ·rw [if_neg c50] at H
        have c50b0 : (t410 == 0) = false := beq_eq_false_iff_ne.mpr c50
        have c50b1 : (t410 != 0) = true := bne_iff_ne.mpr c50
        clear H
        go_wp2
        go_ret
        exact er (bbw3 HB GE408 GE420 GE427)

/-- The one plain statement of laws_FnFriezeTexts. -/
def laws_FnFriezeTexts.Pure : Prop := ∀ (l0 : List Int), l0.length ≤ maxLen → (∀ x ∈ l0, (Lit.int .u8 x).wf = true) → ∃ k, laws_FnFriezeTexts.f k l0 = some true
end Go.Proofs.YtnblfcibgokccaaDoor.PG
