/- Walks written by program: each Go function that the law reaches comes to the plain function beside it. -/
import Derived.Test.YtdodghjnlekgeaaGreatPAx0
import Derived.Test.YtdodghjnlekgeaaGreatPAx13
import Derived.Test.YtdodghjnlekgeaaGreatPAx14
import Derived.Test.YtdodghjnlekgeaaGreatPAx15
import Derived.Test.YtdodghjnlekgeaaGreatPAx16
namespace Go.Proofs.YtdodghjnlekgeaaGreat.PA
open Go.RowKit Go.Proofs.YtdodghjnlekgeaaGreatW.PrintWords Go.Proofs.YtdodghjnlekgeaaGreatW.PrintLast Go.Proofs.YtdodghjnlekgeaaGreatW.PrintMore
attribute [local go_sem] max2_int min2_int max_two min_two max_three min_three max_four min_four   -- for this text's walks alone
set_option linter.unusedVariables false
set_option linter.unusedSimpArgs false

/-! ### impl_groupCode: function 45 -/
def impl_groupCode.l0 : Nat → Int → List (List (S48)) → Int → Int → Int → Int → Int → Option (Int)
 | 0, _, _, _, _, _, _, _ => none
 | k + 1, x0, x16, x17, x18, x503000, x503001, x503002 => if x18 < x17 then (if 0 ≤ x18 then (if x18 < (x16.length : Int) then ((impl_isGroup.f k x0 x503000 x503001 x503002 (rd_L7 x16 x18)).bind fun t505 => (if t505 = true then (impl_groupCode.l0 k x0 x16 x17 (wrap64 (x18 + 1)) x503000 x503001 x503002) else (some 2))) else (none)) else (none)) else (some 0)
def impl_groupCode.f (k : Nat) (a0 : Int) (a1_0 : Int) (a1_1 : Int) (a1_2 : Int) (l2 : List (List (S48))) : Option (Int) := (impl_frameCode.f a0 a1_0 a1_1 a1_2).bind fun t503 => (if t503 = 0 then (impl_groupCode.l0 k a0 l2 (l2.length : Int) 0 a1_0 a1_1 a1_2) else (some t503))
set_option maxHeartbeats 8000000 in
set_option maxRecDepth 100000 in
theorem impl_groupCode.calls (k : Nat) (a0 : Int) (a1_0 : Int) (a1_1 : Int) (a1_2 : Int) (A2 : Option Addr) (c2 : Nat) (l2 : List (List (S48))) (r : Int) (w : World) (hr2 : Kd.C (Kd.slice 48 k48) w A2 l2.length l2) (hc2 : l2.length ≤ c2) (h : impl_groupCode.f k a0 a1_0 a1_1 a1_2 l2 = some r) :
  Calls Tryz.prog 45 #[.int .i64 a0, .agg #[.int .i64 a1_0, .int .i64 a1_1, .int .i64 a1_2], .slice A2 l2.length c2] w fun e w' => e = .returned (.int .i64 r) ∧ Below w.heap.size w w' := by
 have hu29 := Tryz.underlying29
 have HR2 := Aside0.mk hr2
 have HC2 := Aside0.mk hc2
 clear hr2 hc2
 have HB := asd (Below.refl w.heap.size w)
 have H : ((impl_frameCode.f a0 a1_0 a1_1 a1_2).bind fun t503 => (if t503 = 0 then (impl_groupCode.l0 k a0 l2 (l2.length : Int) 0 a1_0 a1_1 a1_2) else (some t503))) = some r := h
 clear h
 obtain ⟨t503, A4, H⟩ := ob H
 try dsimp only at H
 by_cases c5 : t503 = 0
 rw [if_pos c5] at H
 have c5b0 : (t503 == 0) = true := beq_iff_eq.mpr c5
 have c5b1 : (t503 != 0) = false := bne_eq_false_iff_eq.mpr c5
 clear c5
 have H' := Aside0.mk H
 clear H
 rotate_left
 rw [if_neg c5] at H
 have c5b0 : (t503 == 0) = false := beq_eq_false_iff_ne.mpr c5
 have c5b1 : (t503 != 0) = true := bne_iff_ne.mpr c5
 obtain rfl := Option.some.inj H
 rotate_left
 all_goals
  go_enter Tryz.func45, Tryz.ntmps45
  go_wp2_with (first | ((with_reducible refine gd 4 rfl ?_); refine bx #[.int .i64 a1_0, .int .i64 a1_1, .int .i64 a1_2] 29 ?_; intro gb502 hg w6 BK502 hb; have GE502 := ngw0 hg HB; replace HB := bS0 HB hb; clear hb hg; obtain ⟨hcz7_0, hcz7_1, hcz7_2, hfz7_0, hfz7_1, hfz7_2⟩ := bz3 BK502) | ((with_reducible refine gate_callee (f := 33) rfl ?_); refine gl 12 Tryz.func33 #[.int .i64 a0, .agg #[.int .i64 a1_0, .int .i64 a1_1, .int .i64 a1_2]] ?_; (with_reducible refine (impl_frameCode.calls _ _ _ _ _ _ A4.out).mono ?_); rintro e w8 ⟨rfl, hb⟩; refine ⟨_, rfl, ?_⟩; replace BK502 := bB BK502 hb; replace HB := bS1 HB GE502 hb; (try clear hb)))
 ·go_loopg [18] k (fun kq v18 w' => ∃ (x18_1 : Int), v18 = .int .i64 x18_1 ∧ Aside0 (impl_groupCode.l0 kq a0 l2 (l2.length : Int) x18_1 a1_0 a1_1 a1_2 = some r) ∧ Aside0 (kq ≤ k) ∧ Aside0 (w'.heap[gb502]? = some (.cells #[.int .i64 a1_0, .int .i64 a1_1, .int .i64 a1_2] 29 (0, 0))) ∧ Aside0 (Below w.heap.size w w'))
  case atStart => exact ⟨(0), (by first | rfl | (simp; done) | (simp [*]; done)), H', ⟨Nat.le_refl _⟩, ⟨bkp BK502⟩, ⟨bbw1 HB GE502⟩⟩
  case round =>
   clear H'
   try clear c2
   try clear p2
   try clear c3
   try clear c4
   try clear c5
   try clear c5b0
   try clear c5b1
   try clear hcz7_0
   try clear hcz7_1
   try clear hcz7_2
   try clear hfz7_0
   try clear hfz7_1
   try clear hfz7_2
   obtain ⟨x18_1, rfl, HA, HK1, BK502, HB⟩ := hrel
   cases gk with
   | zero => exact absurd HA.out (by simp [impl_groupCode.l0])
   | succ k1 =>
    have H := HA.out
    clear HA
    simp only [impl_groupCode.l0] at H
    by_cases c9 : x18_1 < (l2.length : Int)
    rw [if_pos c9] at H
    have c9b0 := decide_eq_true c9
    clear c9
    by_cases c10 : 0 ≤ x18_1
    rw [if_pos c10] at H
    have c10b0 := decide_eq_true c10
    clear c10
    by_cases c11 : x18_1 < (l2.length : Int)
    rw [if_pos c11] at H
    have c11b0 := decide_eq_true c11
    clear c11
    obtain ⟨t505, A12, H⟩ := ob H
    try dsimp only at H
    by_cases c13 : t505 = true
    subst c13
    replace H := ifT H
    have H' := Aside0.mk H
    clear H
    rotate_left
    replace c13 := Bool.eq_false_iff.mpr c13
    subst c13
    replace H := ifF H
    obtain rfl := Option.some.inj H
    rotate_left
    ·rw [if_neg c11] at H
     exact absurd H (by simp)
    ·rw [if_neg c10] at H
     exact absurd H (by simp)
    rw [if_neg c9] at H
    have c9b0 := decide_eq_false c9
    clear c9
    obtain rfl := Option.some.inj H
    rotate_left
    rotate_left 2
    ·go_wp2
     go_ret
     exact er (bbw1 HB GE502)
    all_goals
     have p504 : 0 ≤ (x18_1 : Int) := od
     have q504 : x18_1 < (l2.length : Int) := od
     obtain ⟨ad504, A504_0, c504_0, e504, hx504_0, hl504_0, hi504_0⟩ := at_L7 HR2.out x18_1 p504 q504
     cases e504
     replace hx504_0 := xb HB hx504_0
     have HR504_0 := Aside0.mk hi504_0
     have HC504_0 := Aside0.mk hl504_0
     clear hi504_0 hl504_0
     replace p504 := eq_true p504
     replace q504 := eq_true q504
     obtain ⟨hcz14_0, hcz14_1, hcz14_2, hfz14_0, hfz14_1, hfz14_2⟩ := bz3 BK502
     go_wp2_with (first | ((with_reducible refine gate_callee (f := 81) rfl ?_); refine gl 25 Tryz.func81 #[.int .i64 a0, .agg #[.int .i64 a1_0, .int .i64 a1_1, .int .i64 a1_2], .slice A504_0 (rd_L7 l2 x18_1).length c504_0] ?_; (with_reducible refine (impl_isGroup.calls _ _ _ _ _ _ _ _ _ _ ?side1 ?side2 A12.out).mono ?_); (case side1 => exact ks (Kd.C_below HR504_0.out HB.out)); (case side2 => exact HC504_0.out); rintro e w15 ⟨rfl, hb⟩; refine ⟨_, rfl, ?_⟩; replace BK502 := bB BK502 hb; replace HB := bS1 HB GE502 hb; (try clear hb)))
    ·go_roundg k1
     case measure => have := HK1.out; omega
     case rel => exact ⟨(wrap64 (x18_1 + 1)), (by first | rfl | (simp; done) | (simp [*]; done)), H', ⟨by have := HK1.out; omega⟩, ⟨bkp BK502⟩, ⟨bbw1 HB GE502⟩⟩
    ·go_ret
     exact er (bbw1 HB GE502)
 ·go_ret
  exact er (bbw1 HB GE502)
/-! ### impl_isCoordinate: function 82 -/
def impl_isCoordinate.f (a0 : Int) : Option (Bool) := (impl_within.f a0 (-1000) 1000).bind fun t506 => (some t506)
set_option maxHeartbeats 8000000 in
set_option maxRecDepth 100000 in
theorem impl_isCoordinate.calls (a0 : Int) (r : Bool) (w : World) (h : impl_isCoordinate.f a0 = some r) :
  Calls Tryz.prog 82 #[.int .i64 a0] w fun e w' => e = .returned (.bool r) ∧ Drawn0 w w' := by
 have H : ((impl_within.f a0 (-1000) 1000).bind fun t506 => (some t506)) = some r := h
 clear h
 obtain ⟨t506, A2, H⟩ := ob H
 try dsimp only at H
 obtain rfl := Option.some.inj H
 go_enter Tryz.func82, Tryz.ntmps82
 go_wp2_with (first | ((with_reducible refine gate_callee (f := 99) rfl ?_); refine gl 4 Tryz.func99 #[.int .i64 a0, .int .i64 (-1000), .int .i64 1000] ?_; (with_reducible refine (impl_within.calls _ _ _ _ _ A2.out).mono ?_); rintro e w' ⟨rfl, ⟨nd, rfl⟩⟩; refine ⟨_, rfl, ?_⟩))
 go_ret
 exact ⟨by first | rfl | (simp; done) | (simp [*]; done), by repeat (first | exact Drawn0.refl _ | apply Drawn0.step)⟩
/-! ### impl_IsVec: function 46 -/
def impl_IsVec.f (a0_0 : Int) (a0_1 : Int) : Option (Bool) := (impl_isCoordinate.f a0_0).bind fun t508 => (if t508 = true then ((impl_isCoordinate.f a0_1).bind fun t509 => (some t509)) else (some false))
set_option maxHeartbeats 8000000 in
set_option maxRecDepth 100000 in
theorem impl_IsVec.calls (a0_0 : Int) (a0_1 : Int) (r : Bool) (w : World) (h : impl_IsVec.f a0_0 a0_1 = some r) :
  Calls Tryz.prog 46 #[.agg #[.int .i64 a0_0, .int .i64 a0_1]] w fun e w' => e = .returned (.bool r) ∧ Below w.heap.size w w' := by
 have hu38 := Tryz.underlying38
 have HB := asd (Below.refl w.heap.size w)
 have H : ((impl_isCoordinate.f a0_0).bind fun t508 => (if t508 = true then ((impl_isCoordinate.f a0_1).bind fun t509 => (some t509)) else (some false))) = some r := h
 clear h
 obtain ⟨t508, A2, H⟩ := ob H
 try dsimp only at H
 by_cases c3 : t508 = true
 subst c3
 replace H := ifT H
 obtain ⟨t509, A4, H⟩ := ob H
 try dsimp only at H
 obtain rfl := Option.some.inj H
 rotate_left
 replace c3 := Bool.eq_false_iff.mpr c3
 subst c3
 replace H := ifF H
 obtain rfl := Option.some.inj H
 rotate_left
 all_goals
  go_enter Tryz.func46, Tryz.ntmps46
  go_wp2_with (first | ((with_reducible refine gd 1 rfl ?_); refine bx #[.int .i64 a0_0, .int .i64 a0_1] 38 ?_; intro gb507 hg w5 BK507 hb; have GE507 := ngw0 hg HB; replace HB := bS0 HB hb; clear hb hg; obtain ⟨hcz6_0, hcz6_1, hfz6_0, hfz6_1⟩ := bz2 BK507) | ((with_reducible refine gate_callee (f := 82) rfl ?_); refine gl 5 Tryz.func82 #[.int .i64 a0_0] ?_; (with_reducible refine (impl_isCoordinate.calls _ _ _ A2.out).mono ?_); rintro e w' ⟨rfl, ⟨nd, rfl⟩⟩; refine ⟨_, rfl, ?_⟩) | (go_at_call 82; (with_reducible refine (impl_isCoordinate.calls _ _ _ A4.out).mono ?_); rintro e w' ⟨rfl, ⟨nd, rfl⟩⟩))
  go_ret
  exact er (bbw1 HB GE507)
/-! ### impl_Motion: function 74 -/
section
open Go Go.Sort Go.Shelf
theorem impl_Motion.C_int_block {W : World} {g : Nat} {xs : List Int} {t : TypeId} {fr : Nat × Nat} (h : W.heap[g]? = some (.cells (xs.map (Value.int .i64)).toArray t fr)) (hl : xs.length ≤ 9223372036854775807) : Kd.C (Kd.int .i64) W (some ⟨g, 0, none⟩) xs.length xs := by
 refine ⟨rfl, hl, fun _ => ⟨⟨g, 0, none⟩, rfl, fun j x hx => ⟨[.int .i64 x], rfl, rfl, fun i u hu => ?_⟩⟩⟩
 cases i with
 | succ i => simp at hu
 | zero =>
  simp only [List.getElem?_cons_zero, Option.some.injEq] at hu
  subst hu
  have e : (⟨g, 0, none⟩ : Addr).add (j * (Kd.int .i64).sz + 0) = ⟨g, j, none⟩ := by
   show (⟨g, 0, none⟩ : Addr).add (j * 1 + 0) = _
   unfold Addr.add
   split <;> simp_all
  rw [e, cell_of_row W g j _ t fr h]
  simp [List.getElem?_map, hx]
theorem impl_Motion.heap_alloc1 (W : World) (o : Obj) (g : Nat) (hg : g < W.heap.size) : (W.alloc o).heap[g]? = W.heap[g]? := Below.heap_alloc W o g hg
theorem impl_Motion.size_alloc (W : World) (o : Obj) : (W.alloc o).heap.size = W.heap.size + 1 := by simp
theorem impl_Motion.alloc4_2 (W : World) (a b c d : Obj) : ((((W.alloc a).alloc b).alloc c).alloc d).heap[W.heap.size + 1 + 1]? = some c := by
 have := blk_alloc (blk_new ((W.alloc a).alloc b) c) d
 rwa [impl_Motion.size_alloc, impl_Motion.size_alloc] at this
theorem impl_Motion.alloc4_3 (W : World) (a b c d : Obj) : ((((W.alloc a).alloc b).alloc c).alloc d).heap[W.heap.size + 1 + 1 + 1]? = some d := by
 have := blk_new (((W.alloc a).alloc b).alloc c) d
 rwa [impl_Motion.size_alloc, impl_Motion.size_alloc, impl_Motion.size_alloc] at this
set_option maxHeartbeats 4000000 in
set_option maxRecDepth 100000 in
theorem impl_Motion.cmpMats (k : Nat) (x0 x1 x2 x3 y0 y1 y2 y3 r : Int) (W : World) (h : impl_compareMats.f k x0 x1 x2 x3 y0 y1 y2 y3 = some r) :
  Calls Tryz.prog 111 #[.agg #[.int .i64 x0, .int .i64 x1, .int .i64 x2, .int .i64 x3], .agg #[.int .i64 y0, .int .i64 y1, .int .i64 y2, .int .i64 y3]] W fun e w' => e = .returned (.int .i64 r) ∧ ∃ q os, w' = grow (W.drewN q) os := by
 obtain ⟨t, A, H⟩ := Option.bind_eq_some_iff.1 h
 obtain rfl := Option.some.inj H
 have A := Aside0.mk A
 clear h H
 have hu_ := Tryz.underlying46
 go_enter Tryz.func111, Tryz.ntmps111
 go_wp2_with (go_at_call 133; refine (impl_compareNumbers.calls k _ 4 [x0, x1, x2, x3] _ 4 [y0, y1, y2, y3] _ _ (impl_Motion.C_int_block (t := 2) (fr := (0, 0)) (impl_Motion.alloc4_2 W _ _ _ _) (by simp)) (Nat.le_refl _) (impl_Motion.C_int_block (t := 2) (fr := (0, 0)) (impl_Motion.alloc4_3 W _ _ _ _) (by simp)) (Nat.le_refl _) A.out).mono ?_; rintro e w' ⟨rfl, ⟨nd, rfl⟩⟩)
 go_ret
 exact ⟨rfl, nd, _, by rw [alloc_eq_grow, alloc_eq_grow, alloc_eq_grow, alloc_eq_grow, grow_grow, grow_grow, grow_grow]; rfl⟩
set_option maxHeartbeats 4000000 in
set_option maxRecDepth 100000 in
theorem impl_Motion.cmpVecs (k : Nat) (x0 x1 y0 y1 r : Int) (W : World) (h : impl_compareVecs.f k x0 x1 y0 y1 = some r) :
  Calls Tryz.prog 112 #[.agg #[.int .i64 x0, .int .i64 x1], .agg #[.int .i64 y0, .int .i64 y1]] W fun e w' => e = .returned (.int .i64 r) ∧ ∃ q os, w' = grow (W.drewN q) os := by
 obtain ⟨t, A, H⟩ := Option.bind_eq_some_iff.1 h
 obtain rfl := Option.some.inj H
 have A := Aside0.mk A
 clear h H
 have hu_ := Tryz.underlying38
 go_enter Tryz.func112, Tryz.ntmps112
 go_wp2_with (go_at_call 133; refine (impl_compareNumbers.calls k _ 2 [x0, x1] _ 2 [y0, y1] _ _ (impl_Motion.C_int_block (t := 2) (fr := (0, 0)) (impl_Motion.alloc4_2 W _ _ _ _) (by simp)) (Nat.le_refl _) (impl_Motion.C_int_block (t := 2) (fr := (0, 0)) (impl_Motion.alloc4_3 W _ _ _ _) (by simp)) (Nat.le_refl _) A.out).mono ?_; rintro e w' ⟨rfl, ⟨nd, rfl⟩⟩)
 go_ret
 exact ⟨rfl, nd, _, by rw [alloc_eq_grow, alloc_eq_grow, alloc_eq_grow, alloc_eq_grow, grow_grow, grow_grow, grow_grow]; rfl⟩
theorem impl_Motion.gblk {W : World} {g : Nat} {o : Obj} (q : Nat) (os : Array Obj) (h : W.heap[g]? = some o) : (grow (W.drewN q) os).heap[g]? = some o := by
 have hlt := blk_lt h
 show (W.heap ++ os)[g]? = some o
 rw [Array.getElem?_append_left hlt]; exact h
theorem impl_Motion.boxed2 (W : World) (a b : Obj) : ((W.alloc a).alloc b).heap[W.heap.size]? = some a ∧ ((W.alloc a).alloc b).heap[W.heap.size + 1]? = some b := by
 refine ⟨blk_alloc (blk_new W a) b, ?_⟩
 have := blk_new (W.alloc a) b
 rwa [impl_Motion.size_alloc] at this
theorem impl_Motion.cells6 {W : World} {g : Nat} {v0 v1 v2 v3 v4 v5 : Value} {t : TypeId} {fr : Nat × Nat} (h : W.heap[g]? = some (.cells #[v0, v1, v2, v3, v4, v5] t fr)) : W.cell? ⟨g, 0, none⟩ = some v0 ∧ W.cell? ⟨g, 1, none⟩ = some v1 ∧ W.cell? ⟨g, 2, none⟩ = some v2 ∧ W.cell? ⟨g, 3, none⟩ = some v3 ∧ W.cell? ⟨g, 4, none⟩ = some v4 ∧ W.cell? ⟨g, 5, none⟩ = some v5 := by
 refine ⟨?_, ?_, ?_, ?_, ?_, ?_⟩ <;> exact cell_of_row W g _ _ t fr h
theorem impl_Motion.grow_drewN (W : World) (os : Array Obj) (q : Nat) : (grow W os).drewN q = grow (W.drewN q) os := rfl
set_option maxHeartbeats 4000000 in
set_option maxRecDepth 100000 in
theorem impl_Motion.cmpMotions (k : Nat) (x y : S48) (r : Int) (W : World) (h : impl_compareMotions.f k x.f0.f0 x.f0.f1 x.f0.f2 x.f0.f3 x.f1.f0 x.f1.f1 y.f0.f0 y.f0.f1 y.f0.f2 y.f0.f3 y.f1.f0 y.f1.f1 = some r) :
  Calls Tryz.prog 75 #[.agg #[.int .i64 x.f0.f0, .int .i64 x.f0.f1, .int .i64 x.f0.f2, .int .i64 x.f0.f3, .int .i64 x.f1.f0, .int .i64 x.f1.f1], .agg #[.int .i64 y.f0.f0, .int .i64 y.f0.f1, .int .i64 y.f0.f2, .int .i64 y.f0.f3, .int .i64 y.f1.f0, .int .i64 y.f1.f1]] W fun e w' => e = .returned (.int .i64 r) ∧ ∃ q os, w' = grow (W.drewN q) os := by
 obtain ⟨t, A, H⟩ := Option.bind_eq_some_iff.1 h
 have A := Aside0.mk A
 clear h
 have hu48 := Tryz.underlying48
 have hu46 := Tryz.underlying46
 have hu38 := Tryz.underlying38
 by_cases c : t = 0
 ·rw [if_pos c] at H
  obtain ⟨t2, B, H⟩ := Option.bind_eq_some_iff.1 H
  obtain rfl := Option.some.inj H
  have B := Aside0.mk B
  have cb : (t == 0) = true := beq_iff_eq.mpr c
  have cb2 : (t != 0) = false := bne_eq_false_iff_eq.mpr c
  clear H c
  go_enter Tryz.func75, Tryz.ntmps75
  go_wp2_with (first | (go_at_call 111; refine (impl_Motion.cmpMats k _ _ _ _ _ _ _ _ _ _ A.out).mono ?_; rintro e w' ⟨rfl, q1, os1, rfl⟩; obtain ⟨b0, b1⟩ := impl_Motion.boxed2 W (.cells #[.int .i64 x.f0.f0, .int .i64 x.f0.f1, .int .i64 x.f0.f2, .int .i64 x.f0.f3, .int .i64 x.f1.f0, .int .i64 x.f1.f1] 48) (.cells #[.int .i64 y.f0.f0, .int .i64 y.f0.f1, .int .i64 y.f0.f2, .int .i64 y.f0.f3, .int .i64 y.f1.f0, .int .i64 y.f1.f1] 48); obtain ⟨c0, c1, c2, c3, c4, c5⟩ := impl_Motion.cells6 (impl_Motion.gblk q1 os1 b0); obtain ⟨d0, d1, d2, d3, d4, d5⟩ := impl_Motion.cells6 (impl_Motion.gblk q1 os1 b1); clear b0 b1) | (go_at_call 112; refine (impl_Motion.cmpVecs k _ _ _ _ _ _ B.out).mono ?_; rintro e w' ⟨rfl, q2, os2, rfl⟩))
  go_ret
  exact ⟨rfl, q1 + q2, _, by rw [alloc_eq_grow, alloc_eq_grow]; simp only [impl_Motion.grow_drewN, grow_grow, World.drewN_drewN]; rfl⟩
 ·rw [if_neg c] at H
  obtain rfl := Option.some.inj H
  have cb : (t == 0) = false := beq_eq_false_iff_ne.mpr c
  have cb2 : (t != 0) = true := bne_iff_ne.mpr c
  clear H c
  go_enter Tryz.func75, Tryz.ntmps75
  go_wp2_with (go_at_call 111; refine (impl_Motion.cmpMats k _ _ _ _ _ _ _ _ _ _ A.out).mono ?_; rintro e w' ⟨rfl, q1, os1, rfl⟩)
  go_ret
  exact ⟨rfl, q1, _, by rw [alloc_eq_grow, alloc_eq_grow]; simp only [impl_Motion.grow_drewN, grow_grow]; rfl⟩
instance : Inhabited S48 := ⟨⟨⟨0, 0, 0, 0⟩, ⟨0, 0⟩⟩⟩
def impl_Motion.encMo (x : S48) : List Value := [.int .i64 x.f0.f0, .int .i64 x.f0.f1, .int .i64 x.f0.f2, .int .i64 x.f0.f3, .int .i64 x.f1.f0, .int .i64 x.f1.f1]
def impl_Motion.cmpL : List (Int × Int) → Int
 | [] => 0
 | p :: r => if p.1 = p.2 then impl_Motion.cmpL r else if p.1 < p.2 then -1 else 1
/-- The order of motions, as a number. -/
def impl_Motion.cfMo (x y : S48) : Int := if impl_Motion.cmpL [(x.f0.f0, y.f0.f0), (x.f0.f1, y.f0.f1), (x.f0.f2, y.f0.f2), (x.f0.f3, y.f0.f3)] = 0 then impl_Motion.cmpL [(x.f1.f0, y.f1.f0), (x.f1.f1, y.f1.f1)] else impl_Motion.cmpL [(x.f0.f0, y.f0.f0), (x.f0.f1, y.f0.f1), (x.f0.f2, y.f0.f2), (x.f0.f3, y.f0.f3)]
theorem impl_Motion.cmpNum (l m : List Int) (hl : l.length = m.length) (h8 : l.length ≤ 100) (d : Nat) : ∀ (k i : Nat), i ≤ l.length → l.length - i = d → d < k → impl_compareNumbers.l0 k l m (l.length : Int) i = some (impl_Motion.cmpL ((l.drop i).zip (m.drop i))) := by
 induction d with
 | zero =>
  intro k i hi hd hk
  obtain ⟨k, rfl⟩ : ∃ j, k = j + 1 := ⟨k - 1, by omega⟩
  simp only [impl_compareNumbers.l0]
  rw [if_neg (by omega), List.drop_eq_nil_of_le (by omega)]; rfl
 | succ d ih =>
  intro k i hi hd hk
  obtain ⟨k, rfl⟩ : ∃ j, k = j + 1 := ⟨k - 1, by omega⟩
  have h1 : i < l.length := by omega
  have h2 : i < m.length := by omega
  have r1 : Go.Proofs.YtdodghjnlekgeaaGreatW.PrintWords.rd l (i : Int) = l[i] := by unfold Go.Proofs.YtdodghjnlekgeaaGreatW.PrintWords.rd; rw [Int.toNat_natCast]; simp [List.getD, h1]
  have r2 : Go.Proofs.YtdodghjnlekgeaaGreatW.PrintWords.rd m (i : Int) = m[i] := by unfold Go.Proofs.YtdodghjnlekgeaaGreatW.PrintWords.rd; rw [Int.toNat_natCast]; simp [List.getD, h2]
  have c1 : (i : Int) < (l.length : Int) := by omega
  have c2 : (0 : Int) ≤ (i : Int) := by omega
  have c3 : (i : Int) < (m.length : Int) := by omega
  have c4 : i + 1 ≤ l.length := by omega
  have c5 : l.length - (i + 1) = d := by omega
  have c6 : d < k := by omega
  have c7 : (i : Int) ≤ 100 := by omega
  rw [List.drop_eq_getElem_cons h1, List.drop_eq_getElem_cons h2, List.zip_cons_cons]
  simp only [impl_compareNumbers.l0, impl_Motion.cmpL]
  have hw : wrap64 ((i : Int) + 1) = ((i + 1 : Nat) : Int) := by clear ih r1 r2 hl h8 hd hk c1 c3 c4 c5 c6 h1 h2 hi; unfold wrap64; omega
  rw [if_pos c1, if_pos c2, if_pos c1, if_pos c3, r1, r2, hw]
  by_cases e : l[i] = m[i]
  ·rw [if_pos e, if_pos e]; exact ih k (i + 1) c4 c5 c6
  ·rw [if_neg e, if_neg e]
   by_cases e2 : l[i] < m[i]
   ·rw [if_pos e2, if_pos e2]
   ·rw [if_neg e2, if_neg e2]
theorem impl_Motion.cfMo_eq (k : Nat) (hk : 5 ≤ k) (x y : S48) : impl_compareMotions.f k x.f0.f0 x.f0.f1 x.f0.f2 x.f0.f3 x.f1.f0 x.f1.f1 y.f0.f0 y.f0.f1 y.f0.f2 y.f0.f3 y.f1.f0 y.f1.f1 = some (impl_Motion.cfMo x y) := by
 have h4 : impl_compareNumbers.f k [x.f0.f0, x.f0.f1, x.f0.f2, x.f0.f3] [y.f0.f0, y.f0.f1, y.f0.f2, y.f0.f3] = some (impl_Motion.cmpL [(x.f0.f0, y.f0.f0), (x.f0.f1, y.f0.f1), (x.f0.f2, y.f0.f2), (x.f0.f3, y.f0.f3)]) :=
  impl_Motion.cmpNum [x.f0.f0, x.f0.f1, x.f0.f2, x.f0.f3] [y.f0.f0, y.f0.f1, y.f0.f2, y.f0.f3] rfl (by simp) 4 k 0 (by omega) rfl (by omega)
 have h2 : impl_compareNumbers.f k [x.f1.f0, x.f1.f1] [y.f1.f0, y.f1.f1] = some (impl_Motion.cmpL [(x.f1.f0, y.f1.f0), (x.f1.f1, y.f1.f1)]) :=
  impl_Motion.cmpNum [x.f1.f0, x.f1.f1] [y.f1.f0, y.f1.f1] rfl (by simp) 2 k 0 (by omega) rfl (by omega)
 unfold impl_compareMotions.f impl_compareMats.f impl_compareVecs.f impl_Motion.cfMo
 rw [h4, h2]
 simp only [Option.bind_some]
 split <;> rfl
theorem impl_Motion.cf_neg (x y : S48) : impl_Motion.cfMo x y < 0 ↔ (x.f0.f0 < y.f0.f0 ∨ (x.f0.f0 = y.f0.f0 ∧ (x.f0.f1 < y.f0.f1 ∨ (x.f0.f1 = y.f0.f1 ∧ (x.f0.f2 < y.f0.f2 ∨ (x.f0.f2 = y.f0.f2 ∧ (x.f0.f3 < y.f0.f3 ∨ (x.f0.f3 = y.f0.f3 ∧ (x.f1.f0 < y.f1.f0 ∨ (x.f1.f0 = y.f1.f0 ∧ x.f1.f1 < y.f1.f1)))))))))) := by
 unfold impl_Motion.cfMo
 simp only [impl_Motion.cmpL]
 by_cases e0 : x.f0.f0 = y.f0.f0
 ·by_cases e1 : x.f0.f1 = y.f0.f1
  ·by_cases e2 : x.f0.f2 = y.f0.f2
   ·by_cases e3 : x.f0.f3 = y.f0.f3
    ·simp only [if_pos e0, if_pos e1, if_pos e2, if_pos e3, if_true]
     by_cases e4 : x.f1.f0 = y.f1.f0
     ·rw [if_pos e4]; split <;> (try split) <;> omega
     ·rw [if_neg e4]; split <;> omega
    ·simp only [if_pos e0, if_pos e1, if_pos e2, if_neg e3]; split <;> (try split) <;> omega
   ·simp only [if_pos e0, if_pos e1, if_neg e2]; split <;> (try split) <;> omega
  ·simp only [if_pos e0, if_neg e1]; split <;> (try split) <;> omega
 ·simp only [if_neg e0]; split <;> (try split) <;> omega
theorem impl_Motion.swoMo : SWO (ltOf impl_Motion.cfMo) where
 irrefl x := by unfold ltOf; rw [decide_eq_false_iff_not, impl_Motion.cf_neg]; omega
 trans x y z h1 h2 := by unfold ltOf at *; rw [decide_eq_true_eq, impl_Motion.cf_neg] at *; omega
 ntrans x y z h1 h2 := by unfold ltOf at *; rw [decide_eq_false_iff_not, impl_Motion.cf_neg] at *; omega
theorem impl_Motion.totMo (x y : S48) (h1 : ltOf impl_Motion.cfMo x y = false) (h2 : ltOf impl_Motion.cfMo y x = false) : x = y := by
 unfold ltOf at h1 h2
 rw [decide_eq_false_iff_not, impl_Motion.cf_neg] at h1 h2
 obtain ⟨⟨a0, a1, a2, a3⟩, ⟨a4, a5⟩⟩ := x
 obtain ⟨⟨b0, b1, b2, b3⟩, ⟨b4, b5⟩⟩ := y
 dsimp only at h1 h2
 have e0 : a0 = b0 := by omega
 have e1 : a1 = b1 := by omega
 have e2 : a2 = b2 := by omega
 have e3 : a3 = b3 := by omega
 have e4 : a4 = b4 := by omega
 have e5 : a5 = b5 := by omega
 subst e0 e1 e2 e3 e4 e5
 rfl
theorem impl_Motion.cmpLaysMo (blk off size : Nat) (w : World) : CmpLays Tryz.prog 75 #[] impl_Motion.encMo 6 impl_Motion.cfMo blk off size w :=
 fun _ _ _ _ x y => impl_Motion.cmpMotions 20 x y (impl_Motion.cfMo x y) _ (impl_Motion.cfMo_eq 20 (by omega) x y)
/-- A list of motions in order. -/
def impl_Motion.srtMo (xs : List S48) : List S48 := xs.mergeSort fun x y => !(ltOf impl_Motion.cfMo) y x
def impl_Motion.sortMo_ren : Go.Shelf.Ren := ⟨fun | 6 => 74 | 15 => 110 | 14 => 109 | 28 => 131 | 29 => 132 | 20 => 123 | 21 => 124 | 22 => 125 | 23 => 126 | 24 => 127 | 25 => 128 | 26 => 129 | 27 => 130 | 46 => 136 | 47 => 137 | 48 => 138 | 49 => 139 | 50 => 140 | 57 => 141 | n => n, fun | 22 => 26 | 24 => 48 | 25 => 95 | 3 => 3 | 39 => 117 | 0 => 0 | 53 => 132 | 55 => 134 | 4 => 4 | 46 => 125 | 45 => 124 | 50 => 129 | 5 => 5 | 9 => 9 | 66 => 139 | 70 => 143 | 76 => 145 | 77 => 146 | n => n, fun n => n⟩
theorem impl_Motion.sortMo_lays : SlLaysF0.n6 Tryz.prog impl_Motion.sortMo_ren := {
 mixed := by kernel_rfl,
 f6 := ⟨Tryz.f74.name, by decide, Tryz.func74.trans (congrArg some (by kernel_rfl))⟩,
 f14 := ⟨Tryz.f109.name, by decide, Tryz.func109.trans (congrArg some (by kernel_rfl))⟩,
 f15 := Tryz.func110.trans (congrArg some (by kernel_rfl)),
 f20 := ⟨Tryz.f123.name, by decide, Tryz.func123.trans (congrArg some (by kernel_rfl))⟩,
 f21 := ⟨Tryz.f124.name, by decide, Tryz.func124.trans (congrArg some (by kernel_rfl))⟩,
 f22 := ⟨Tryz.f125.name, by decide, Tryz.func125.trans (congrArg some (by kernel_rfl))⟩,
 f23 := ⟨Tryz.f126.name, by decide, Tryz.func126.trans (congrArg some (by kernel_rfl))⟩,
 f24 := ⟨Tryz.f127.name, by decide, Tryz.func127.trans (congrArg some (by kernel_rfl))⟩,
 f25 := ⟨Tryz.f128.name, by decide, Tryz.func128.trans (congrArg some (by kernel_rfl))⟩,
 f26 := ⟨Tryz.f129.name, by decide, Tryz.func129.trans (congrArg some (by kernel_rfl))⟩,
 f27 := ⟨Tryz.f130.name, by decide, Tryz.func130.trans (congrArg some (by kernel_rfl))⟩,
 f28 := Tryz.func131.trans (congrArg some (by kernel_rfl)),
 f29 := Tryz.func132.trans (congrArg some (by kernel_rfl)),
 f46 := ⟨Tryz.f136.name, by decide, Tryz.func136.trans (congrArg some (by kernel_rfl))⟩,
 f47 := Tryz.func137.trans (congrArg some (by kernel_rfl)),
 f48 := Tryz.func138.trans (congrArg some (by kernel_rfl)),
 f49 := ⟨Tryz.f139.name, by decide, Tryz.func139.trans (congrArg some (by kernel_rfl))⟩,
 f50 := ⟨Tryz.f140.name, by decide, Tryz.func140.trans (congrArg some (by kernel_rfl))⟩,
 f57 := ⟨Tryz.f141.name, by decide, Tryz.func141.trans (congrArg some (by kernel_rfl))⟩,
 t0 := Tryz.underlying0,
 a0 := Tryz.isAgg0,
 z0 := Tryz.sizeOf0,
 v0 := Tryz.zeroValue0,
 t3 := Tryz.underlying3,
 a3 := Tryz.isAgg3,
 z3 := Tryz.sizeOf3,
 v3 := Tryz.zeroValue3,
 t4 := Tryz.underlying4,
 a4 := Tryz.isAgg4,
 z4 := Tryz.sizeOf4,
 v4 := Tryz.zeroValue4,
 t5 := Tryz.underlying5,
 a5 := Tryz.isAgg5,
 z5 := Tryz.sizeOf5,
 v5 := Tryz.zeroValue5,
 t9 := Tryz.underlying9,
 a9 := Tryz.isAgg9,
 z9 := Tryz.sizeOf9,
 v9 := Tryz.zeroValue9,
 t22 := Tryz.underlying26,
 a22 := Tryz.isAgg26,
 z22 := Tryz.sizeOf26,
 v22 := Tryz.zeroValue26,
 t25 := Tryz.underlying95,
 a25 := Tryz.isAgg95,
 z25 := Tryz.sizeOf95,
 v25 := Tryz.zeroValue95,
 t39 := Tryz.underlying117,
 a39 := Tryz.isAgg117,
 z39 := Tryz.sizeOf117,
 v39 := Tryz.zeroValue117,
 t45 := Tryz.underlying124,
 a45 := Tryz.isAgg124,
 z45 := Tryz.sizeOf124,
 v45 := Tryz.zeroValue124,
 t46 := Tryz.underlying125,
 a46 := Tryz.isAgg125,
 z46 := Tryz.sizeOf125,
 v46 := Tryz.zeroValue125,
 t50 := Tryz.underlying129,
 a50 := Tryz.isAgg129,
 z50 := Tryz.sizeOf129,
 v50 := Tryz.zeroValue129,
 t53 := Tryz.underlying132,
 a53 := Tryz.isAgg132,
 z53 := Tryz.sizeOf132,
 v53 := Tryz.zeroValue132,
 t55 := Tryz.underlying134,
 a55 := Tryz.isAgg134,
 z55 := Tryz.sizeOf134,
 v55 := Tryz.zeroValue134,
 t66 := Tryz.underlying139,
 a66 := Tryz.isAgg139,
 z66 := Tryz.sizeOf139,
 v66 := Tryz.zeroValue139,
 t70 := Tryz.underlying143,
 a70 := Tryz.isAgg143,
 z70 := Tryz.sizeOf143,
 v70 := Tryz.zeroValue143,
 t76 := Tryz.underlying145,
 a76 := Tryz.isAgg145,
 z76 := Tryz.sizeOf145,
 v76 := Tryz.zeroValue145,
 t77 := Tryz.underlying146,
 a77 := Tryz.isAgg146,
 z77 := Tryz.sizeOf146,
 v77 := Tryz.zeroValue146 }

theorem impl_Motion.enc_len (x : S48) : (impl_Motion.encMo x).length = 6 := rfl
theorem impl_Motion.enc_one (x : S48) : ∀ v ∈ impl_Motion.encMo x, v.oneCell' = true := by
 intro v hv
 simp only [impl_Motion.encMo, List.mem_cons, List.not_mem_nil, or_false] at hv
 rcases hv with rfl | rfl | rfl | rfl | rfl | rfl <;> rfl
/-- The cells of a row of motions. -/
theorem impl_Motion.flat_at (d : Array S48) (t : Nat) (h : t < d.size * 6) : (flatK impl_Motion.encMo 6 d)[t]! = (impl_Motion.encMo d[t / 6]!)[t % 6]! := get_flatK impl_Motion.encMo 6 d t h
theorem impl_Motion.reps_at {R : S48 → List Value → Prop} (hR : ∀ x cs, R x cs → cs = impl_Motion.encMo x) {xs : List S48} {inner : List Value} (h : Reps R 6 xs inner) (t : Nat) (ht : t < xs.length * 6) : inner[t]? = some ((impl_Motion.encMo xs.toArray[t / 6]!)[t % 6]!) := by
 have hj : t / 6 < xs.length := by omega
 have hx : xs[t / 6]? = some xs[t / 6] := List.getElem?_eq_getElem hj
 have hc := hR _ _ (h.2 _ _ hx)
 have h6 : t % 6 < 6 := Nat.mod_lt _ (by omega)
 have e1 : inner[t]? = ((inner.drop (t / 6 * 6)).take 6)[t % 6]? := by
  rw [List.getElem?_take_of_lt h6, List.getElem?_drop]
  congr 1; omega
 have e2 : xs.toArray[t / 6]! = xs[t / 6] := by simp [hj]
 rw [e1, hc, e2]
 have h7 : t % 6 < (impl_Motion.encMo xs[t / 6]).length := by rw [impl_Motion.enc_len]; exact h6
 rw [List.getElem?_eq_getElem h7]
 congr 1
 simp [h7]
theorem impl_Motion.heap_sorted (W : World) (g m : Nat) (d : Array S48) (os : Array Obj) (cur : Array Value) (hg : W.heap[g]? = some (.cells cur 48 (0, 0))) :
  (sortWorldK impl_Motion.encMo 6 W g 0 m d os).heap[g]? = some (.cells (putCells id 0 (flatK impl_Motion.encMo 6 d) cur) 48 (0, 0)) := by
 have hlt := blk_lt hg
 unfold sortWorldK grow putRowK putRow mapBlock
 show ((W.heap.modify g (onCells (putCells id 0 (flatK impl_Motion.encMo 6 d)))) ++ os)[g]? = _
 rw [Array.getElem?_append_left (by simpa using hlt), Array.getElem?_modify]
 rw [if_pos rfl, hg]
 rfl
theorem impl_Motion.heap_other (W : World) (g m k : Nat) (d : Array S48) (os : Array Obj) (hk : k < W.heap.size) (hne : k ≠ g) : (sortWorldK impl_Motion.encMo 6 W g 0 m d os).heap[k]? = W.heap[k]? := by
 unfold sortWorldK grow putRowK putRow mapBlock
 show ((W.heap.modify g (onCells (putCells id 0 (flatK impl_Motion.encMo 6 d)))) ++ os)[k]? = _
 rw [Array.getElem?_append_left (by simpa using hk), Array.getElem?_modify, if_neg (Ne.symm hne)]
theorem impl_Motion.srt_length (xs : List S48) : (impl_Motion.srtMo xs).length = xs.length := List.length_mergeSort _
theorem impl_Motion.srt_nil : impl_Motion.srtMo [] = [] := List.eq_nil_of_length_eq_zero (impl_Motion.srt_length [])
theorem impl_Motion.sorted_row {W : World} {base : Nat} {ok : Nat → Prop} {g cap m : Nat} {cur : Array Value} {ys : List S48} (os : Array Obj) (h0 : ∀ k, (Value.slice (some ⟨g, 0, none⟩) ys.length cap).ownBlock = some k → ok k) (hb : base ≤ g) (hg : W.heap[g]? = some (.cells cur 48 (0, 0))) (hnc : ys.length ≤ cap) (hcm : cap ≤ maxLen) (hcs : cur.size = cap * 6) :
  Kd.R k48 48 (sortWorldK impl_Motion.encMo 6 W g 0 m ys.toArray os) base ok (.slice (some ⟨g, 0, none⟩) ys.length cap) ys := by
 have hfs : (flatK impl_Motion.encMo 6 ys.toArray).size = ys.length * 6 := by simp
 refine ⟨h0, (flatK impl_Motion.encMo 6 ys.toArray).toList, ⟨by simp; rfl, .inr ⟨g, cap, _, rfl, hb, impl_Motion.heap_sorted W g m ys.toArray os cur hg, hnc, hcm, by simp [putCells, hcs]; rfl, ?_⟩⟩, ?_⟩
 ·apply List.ext_getElem?
  intro t
  show (List.take (ys.length * 6) _)[t]? = _
  by_cases ht : t < ys.length * 6
  ·have htc : t < cur.size := by rw [hcs]; exact Nat.lt_of_lt_of_le ht (Nat.mul_le_mul_right 6 hnc)
   have ht' : t < (flatK impl_Motion.encMo 6 ys.toArray).size := by rw [hfs]; exact ht
   rw [List.getElem?_take_of_lt ht]
   simp [putCells, htc, hfs, ht]
  ·rw [List.getElem?_eq_none (by rw [List.length_take]; omega), List.getElem?_eq_none (by simp; omega)]
 ·refine ⟨by simp; rfl, fun j p hp => ?_⟩
  have hj : j < ys.length := (List.getElem?_eq_some_iff.1 hp).1
  have hpj : ys[j] = p := (List.getElem?_eq_some_iff.1 hp).2
  have e : ((flatK impl_Motion.encMo 6 ys.toArray).toList.drop (j * 6)).take 6 = impl_Motion.encMo p := by
   apply List.ext_getElem?
   intro t
   by_cases ht : t < 6
   ·have h1 : j * 6 + t < (flatK impl_Motion.encMo 6 ys.toArray).size := by rw [hfs]; omega
    have h2 : j * 6 + t < ys.toArray.size * 6 := by simpa using (show j * 6 + t < ys.length * 6 by omega)
    have h3 := impl_Motion.flat_at ys.toArray (j * 6 + t) h2
    rw [List.getElem?_take_of_lt ht, List.getElem?_drop]
    have h4 : (flatK impl_Motion.encMo 6 ys.toArray).toList[j * 6 + t]? = some ((flatK impl_Motion.encMo 6 ys.toArray)[j * 6 + t]!) := by
     rw [Array.getElem?_toList, getElem!_pos (flatK impl_Motion.encMo 6 ys.toArray) (j * 6 + t) h1]; exact Array.getElem?_eq_getElem h1
    rw [h4, h3, show (j * 6 + t) / 6 = j by omega, show (j * 6 + t) % 6 = t by omega]
    have h5 : ys.toArray[j]! = p := by rw [← hpj]; simp [hj]
    rw [h5]
    have h6 : t < (impl_Motion.encMo p).length := by rw [impl_Motion.enc_len]; exact ht
    rw [List.getElem?_eq_getElem h6]
    congr 1
    simp [h6]
   ·rw [List.getElem?_eq_none (by rw [List.length_take]; omega), List.getElem?_eq_none (by rw [impl_Motion.enc_len]; omega)]
  show k48.M _ _ _ p (((flatK impl_Motion.encMo 6 ys.toArray).toList.drop (j * 6)).take 6)
  rw [e]
  exact k48_mkM _ _ _ p
theorem impl_Motion.sortR {W : World} {base : Nat} {ok : Nat → Prop} {v : Value} {xs : List S48} (HR : Kd.R k48 48 W base ok v xs) (hn : xs.length < 4611686018427387904) :
  Calls Tryz.prog 74 #[v, .func (.func 75) #[] #[]] W fun e w' => e = .returned (.tuple #[]) ∧ Kd.R k48 48 w' base ok v (impl_Motion.srtMo xs) ∧ W.grownBy w' v.ownBlock := by
 obtain ⟨h0, inner, ⟨hil, hown⟩, hr⟩ := HR
 have hsz : k48.sz = 6 := rfl
 rcases hown with ⟨rfl, hz⟩ | ⟨g, cap, cur, rfl, hb, hg, hnc, hcm, hcs, htk⟩
 ·have hx : xs = [] := List.eq_nil_of_length_eq_zero hz
  subst hx
  refine (AnyF.slices_SortFunc_none (P := Tryz.prog) (ρ := impl_Motion.sortMo_ren) impl_Motion.sortMo_lays none 0 (.func (.func 75) #[] #[]) W).mono ?_
  rintro e w' ⟨rfl, rfl⟩
  refine ⟨rfl, ?_, ⟨rfl, rfl, rfl, Nat.le_refl _, fun _ _ _ => rfl⟩⟩
  rw [impl_Motion.srt_nil]; exact Kd.R_nil k48 48 _ _ _
 ·by_cases hz : xs.length = 0
  ·have hx : xs = [] := List.eq_nil_of_length_eq_zero hz
   subst hx
   refine (AnyF.slices_SortFunc_none (P := Tryz.prog) (ρ := impl_Motion.sortMo_ren) impl_Motion.sortMo_lays (some ⟨g, 0, none⟩) cap (.func (.func 75) #[] #[]) W).mono ?_
   rintro e w' ⟨rfl, rfl⟩
   refine ⟨rfl, ?_, ⟨rfl, rfl, rfl, Nat.le_refl _, fun _ _ _ => rfl⟩⟩
   rw [impl_Motion.srt_nil]
   exact ⟨h0, inner, ⟨hil, .inr ⟨g, cap, cur, rfl, hb, hg, hnc, hcm, hcs, htk⟩⟩, hr⟩
  ·have eg : ∀ args w, (callFunc 75 args).run Tryz.prog w = .ok (.enter 75 args) w := enters_of Tryz.func75 (by kernel_rfl) rfl
   have hH : HoldsK impl_Motion.encMo 6 W g 0 xs.toArray := by
    intro t ht
    have ht6 : t < xs.length * 6 := by simpa using ht
    have h1 := impl_Motion.reps_at (fun x cs h => k48_openM h) hr t ht6
    have h2 : cur[t]? = inner[t]? := by
     rw [← htk, hsz, List.getElem?_take_of_lt ht6, Array.getElem?_toList]
    have h3 := impl_Motion.flat_at xs.toArray t (by simpa using ht6)
    rw [Nat.zero_add]
    refine ⟨?_, blk_frozen hg t⟩
    rw [cell_of_row W g t cur 48 (0, 0) hg, h2, h1]
    exact congrArg some h3.symm
   have hcon := AnyQ.slices_SortFunc_total (P := Tryz.prog) (ρ := impl_Motion.sortMo_ren) impl_Motion.sortMo_lays 6 Tryz.isAgg48 Tryz.sizeOf48 impl_Motion.encMo impl_Motion.enc_len impl_Motion.enc_one impl_Motion.cfMo impl_Motion.swoMo 75 #[] g 0 cap xs.toArray W eg (impl_Motion.cmpLaysMo g 0 xs.toArray.size W) hH (blk_lt hg) (by simpa using hn) impl_Motion.totMo
   have hcon : Calls Tryz.prog 74 #[.slice (some ⟨g, 0, none⟩) xs.length cap, .func (.func 75) #[] #[]] W _ := hcon
   refine hcon.mono ?_
   rintro e w' ⟨rfl, m, os, rfl⟩
   refine ⟨rfl, ?_, ⟨rfl, rfl, rfl, ?_, ?_⟩⟩
   ·have := impl_Motion.sorted_row (W := W) (base := base) (ok := ok) (g := g) (cap := cap) (m := m) (cur := cur) (ys := impl_Motion.srtMo xs) os (by rw [impl_Motion.srt_length]; exact h0) hb hg (by rw [impl_Motion.srt_length]; exact hnc) hcm hcs
    rw [impl_Motion.srt_length] at this
    exact this
   ·show W.heap.size ≤ (W.heap.modify g _ ++ os).size
    simp
   ·intro k hk hne
    exact impl_Motion.heap_other W g m k _ os hk (fun h => hne (by subst h; rfl))
end

/-! ### impl_Vec_times: function 85 -/
def impl_Vec_times.f (a0_0 : Int) (a0_1 : Int) (a1 : Int) : Option (Int × Int) := some (wrap64 (a1 * a0_0), wrap64 (a1 * a0_1))
set_option maxHeartbeats 8000000 in
set_option maxRecDepth 100000 in
theorem impl_Vec_times.calls (a0_0 : Int) (a0_1 : Int) (a1 : Int) (r1 : Int) (r2 : Int) (w : World) (h : impl_Vec_times.f a0_0 a0_1 a1 = some (r1, r2)) :
  Calls Tryz.prog 85 #[.agg #[.int .i64 a0_0, .int .i64 a0_1], .int .i64 a1] w fun e w' => e = .returned (.agg #[.int .i64 r1, .int .i64 r2]) ∧ Below w.heap.size w w' := by
 have hu38 := Tryz.underlying38
 have HB := asd (Below.refl w.heap.size w)
 have H : (some (wrap64 (a1 * a0_0), wrap64 (a1 * a0_1))) = some (r1, r2) := h
 clear h
 simp only [Option.some.injEq, Prod.mk.injEq] at H
 obtain ⟨rfl, rfl⟩ := H
 go_enter Tryz.func85, Tryz.ntmps85
 go_wp2_with (first | ((with_reducible refine gd 2 rfl ?_); refine bx #[.int .i64 a0_0, .int .i64 a0_1] 38 ?_; intro gb510 hg w3 BK510 hb; have GE510 := ngw0 hg HB; replace HB := bS0 HB hb; clear hb hg) | ((with_reducible refine gd 4 rfl ?_); refine bx #[.int .i64 0, .int .i64 0] 38 ?_; intro gb511 hg w4 BK511 hb; have GE511 := ngw1 hg HB GE510; replace HB := bS1 HB GE510 hb; have NB510_511 := nlt hg BK510; have NB511_510 := nsy (nlt hg BK510); replace BK510 := bB BK510 hb; clear hb hg; have hnb5 := NB510_511.out; have hnc5 := NB511_510.out; obtain ⟨hcz6_0, hcz6_1, hfz6_0, hfz6_1⟩ := bz2 BK510; obtain ⟨hcz7_0, hcz7_1, hfz7_0, hfz7_1⟩ := bz2 BK511))
 refine bodyPost_ret (results_cell_row rfl _ _ gb511 38 #[.int .i64 (wrap64 (a1 * a0_0)), .int .i64 (wrap64 (a1 * a0_1))] (0, 0) _ rfl (bq0 BK511) Tryz.underlying38 rfl (by kernel_rfl)) rfl ?_
 exact er (bbw2 HB GE510 GE511)
/-! ### impl_shiftedGroup: function 47 -/
def impl_shiftedGroup.l0 : Nat → List (S48) → List (S48) → Int → Int → Int → Int → Int → Int → Int → Option ((List (S48)))
 | 0, _, _, _, _, _, _, _, _, _ => none
 | k + 1, x7, x11, x12, x13, x513000, x513001, x513002, x514000, x514001 => if x13 < x12 then (if 0 ≤ x13 then (if x13 < (x11.length : Int) then ((impl_Vec_add.f ((rd_T48 x11 x13).f1.f0) ((rd_T48 x11 x13).f1.f1) x514000 x514001).bind fun bt522 => ((impl_Mat_apply.f ((rd_T48 x11 x13).f0.f0) ((rd_T48 x11 x13).f0.f1) ((rd_T48 x11 x13).f0.f2) ((rd_T48 x11 x13).f0.f3) x514000 x514001).bind fun bt524 => ((impl_Vec_times.f bt524.1 bt524.2 (-1)).bind fun bt526 => ((impl_Vec_add.f bt522.1 bt522.2 bt526.1 bt526.2).bind fun bt528 => ((impl_Lattice_reduceMotion.f x513000 x513001 x513002 ((rd_T48 x11 x13).f0.f0) ((rd_T48 x11 x13).f0.f1) ((rd_T48 x11 x13).f0.f2) ((rd_T48 x11 x13).f0.f3) bt528.1 bt528.2).bind fun bt530 => (if x7.length < 2932031007402 then (impl_shiftedGroup.l0 k (x7 ++ [(⟨(⟨bt530.1, bt530.2.1, bt530.2.2.1, bt530.2.2.2.1⟩ : S46), (⟨bt530.2.2.2.2.1, bt530.2.2.2.2.2⟩ : S38)⟩ : S48)]) x11 x12 (wrap64 (x13 + 1)) x513000 x513001 x513002 x514000 x514001) else (none))))))) else (none)) else (none)) else (if x7.length < 2932031007402 then (some (impl_Motion.srtMo x7)) else (none))
def impl_shiftedGroup.f (k : Nat) (a0_0 : Int) (a0_1 : Int) (a0_2 : Int) (l1 : List (S48)) (a2_0 : Int) (a2_1 : Int) : Option ((List (S48))) := impl_shiftedGroup.l0 k (([] : List (S48))) l1 (l1.length : Int) 0 a0_0 a0_1 a0_2 a2_0 a2_1
theorem impl_shiftedGroup.mono_l : ∀ k, (∀ y0 y1 y2 y3 y4 y5 y6 y7 y8, LeO (impl_shiftedGroup.l0 k y0 y1 y2 y3 y4 y5 y6 y7 y8) (impl_shiftedGroup.l0 (k + 1) y0 y1 y2 y3 y4 y5 y6 y7 y8))
 | 0 => fun _ _ _ _ _ _ _ _ _ r h => by simp [impl_shiftedGroup.l0] at h
 | k + 1 => by
  have ih0 := impl_shiftedGroup.mono_l k
  ·intro y0 y1 y2 y3 y4 y5 y6 y7 y8
   unfold impl_shiftedGroup.l0
   repeat' first
   | (with_reducible exact ih0 _ _ _ _ _ _ _ _ _)
   | (with_reducible exact LeO.refl _)
   | (with_reducible exact LeO.none _)
   | (with_reducible refine LeO.ite ?_ ?_)
   | (with_reducible refine LeO.bind ?_ (fun _ => ?_))
   | exact ih0 _ _ _ _ _ _ _ _ _
   | exact LeO.none _
   | refine LeO.ite ?_ ?_
   | refine LeO.bind ?_ (fun _ => ?_)
theorem impl_shiftedGroup.mono : ∀ a0 a1 a2 a3 a4 a5 k, LeO (impl_shiftedGroup.f k a0 a1 a2 a3 a4 a5) (impl_shiftedGroup.f (k + 1) a0 a1 a2 a3 a4 a5) := by
 intro a0 a1 a2 a3 a4 a5 k
 have ih0 := impl_shiftedGroup.mono_l k
 unfold impl_shiftedGroup.f
 repeat' first
   | (with_reducible exact ih0 _ _ _ _ _ _ _ _ _)
   | (with_reducible exact LeO.refl _)
   | (with_reducible exact LeO.none _)
   | (with_reducible refine LeO.ite ?_ ?_)
   | (with_reducible refine LeO.bind ?_ (fun _ => ?_))
   | exact ih0 _ _ _ _ _ _ _ _ _
   | exact LeO.none _
   | refine LeO.ite ?_ ?_
   | refine LeO.bind ?_ (fun _ => ?_)
def impl_shiftedGroup.T5 : Bool × List (List Nat × List Nat) := (true, [([], []), ([], []), ([], []), ([2], [2]), ([], []), ([4], [4]), ([], []), ([5, 6], [5, 6]), ([], []), ([8], [8]), ([], []), ([9, 10, 7], [9, 10]), ([11, 11], [11]), ([7, 12, 12], [7, 12]), ([3, 13], [3, 13]), ([1, 14, 13], [1, 14]), ([15], [15]), ([0, 16, 15], [0, 16]), ([17, 17, 0, 1, 2, 3, 4, 5, 6, 7, 8, 9, 10, 11, 12, 13, 14, 15, 16, 17], [0, 17])])
def impl_shiftedGroup.B5 : List Nat := [0, 0, 0, 4, 0, 16, 0, 112, 0, 256, 0, 2032, 4080, 8176, 16380, 32766, 65534, 131071, 262143]
theorem impl_shiftedGroup.tab5 : rtab .any (opsOf Tryz.f47 5) = impl_shiftedGroup.T5 := by kernel_rfl
theorem impl_shiftedGroup.bits5 : waitsOk impl_shiftedGroup.T5.2 impl_shiftedGroup.B5 = true := by kernel_rfl
set_option maxHeartbeats 8000000 in
set_option maxRecDepth 100000 in
theorem impl_shiftedGroup.calls (k : Nat) (a0_0 : Int) (a0_1 : Int) (a0_2 : Int) (A1 : Option Addr) (c1 : Nat) (l1 : List (S48)) (a2_0 : Int) (a2_1 : Int) (r : List (S48)) (w : World) (hr1 : Kd.C k48 w A1 l1.length l1) (hc1 : l1.length ≤ c1) (h : impl_shiftedGroup.f k a0_0 a0_1 a0_2 l1 a2_0 a2_1 = some r) :
  Calls Tryz.prog 47 #[.agg #[.int .i64 a0_0, .int .i64 a0_1, .int .i64 a0_2], .slice A1 l1.length c1, .agg #[.int .i64 a2_0, .int .i64 a2_1]] w fun e w' => ∃ v0_ : Value, e = .returned (v0_) ∧ Kd.R k48 48 w' w.heap.size (fun _ => True) v0_ r ∧ Below w.heap.size w w' := by
 have hu29 := Tryz.underlying29
 have hu38 := Tryz.underlying38
 have hu48 := Tryz.underlying48
 have hu46 := Tryz.underlying46
 have HR1 := Aside0.mk hr1
 have HC1 := Aside0.mk hc1
 clear hr1 hc1
 have HB := asd (Below.refl w.heap.size w)
 have H : (impl_shiftedGroup.l0 k (([] : List (S48))) l1 (l1.length : Int) 0 a0_0 a0_1 a0_2 a2_0 a2_1) = some r := h
 clear h
 obtain ⟨y514, hy514⟩ : ∃ y_ : List (S48), y_ = (([] : List (S48))) := ⟨_, rfl⟩
 replace H : (impl_shiftedGroup.l0 k y514 l1 (l1.length : Int) 0 a0_0 a0_1 a0_2 a2_0 a2_1) = some r := by first | (rw [hy514]; with_reducible exact H) | (have H2_ := (Option.bind_some _ _).symm.trans H; rw [hy514]; with_reducible exact H2_) | (have H2_ := (Option.bind_some _ _).symm.trans H; with_reducible exact H2_) | with_reducible exact H | (rw [hy514]; exact H) | exact H
 have Ny514 := Aside0.mk hy514
 clear hy514
 have H' := Aside0.mk H
 clear H
 go_enter Tryz.func47, Tryz.ntmps47
 go_wp2_with (first | ((with_reducible refine gd 3 rfl ?_); refine bx #[.int .i64 a0_0, .int .i64 a0_1, .int .i64 a0_2] 29 ?_; intro gb512 hg w4 BK512 hb; have GE512 := ngw0 hg HB; replace HB := bS0 HB hb; clear hb hg) | ((with_reducible refine gd 5 rfl ?_); refine bx #[.int .i64 a2_0, .int .i64 a2_1] 38 ?_; intro gb513 hg w5 BK513 hb; have GE513 := ngw1 hg HB GE512; replace HB := bS1 HB GE512 hb; have NB512_513 := nlt hg BK512; have NB513_512 := nsy (nlt hg BK512); replace BK512 := bB BK512 hb; clear hb hg) | ((with_reducible refine gd 10 rfl ?_); refine Kd.R_lit k48 _ 48 ?hg (N := 10) ?hd (xs := ([] : List (S48))) (inner := []) (ok := fun _ => True) (okp := fun _ => True) ?hr ?hp (fun _ hk => hk) trivial (Below.refl _ _) (Nat.le_refl _) (by simp) ?_; (case hd => rfl); (case hg => rfl); (case hr => first | (go_simp; done) | (go_simp; rfl)); (case hp => exact (Reps.none _ _)); intro v515 w6 ho7 hb hg_ hnew_; clear hg_ hnew_; (first | rw [← Ny514.out] at ho7 | (simp only [Int.reduceToNat] at ho7; rw [← Ny514.out] at ho7)); have HO516 := asd (Kd.R_lower ho7 (bsz2 HB GE512 GE513)); replace BK512 := bB BK512 hb; replace BK513 := bB BK513 hb; replace HB := bS2 HB GE512 GE513 hb; clear hb ho7))
 go_loopg [7, 13] k (fun kq v7 v13 w' => ∃ (x7_1 : List (S48)) (x13_1 : Int), v13 = .int .i64 x13_1 ∧ Aside0 (impl_shiftedGroup.l0 kq x7_1 l1 (l1.length : Int) x13_1 a0_0 a0_1 a0_2 a2_0 a2_1 = some r) ∧ Aside0 (kq ≤ k) ∧ Aside0 (Kd.R k48 48 w' w.heap.size (fun _ => True) v7 x7_1) ∧ Aside0 (w'.heap[gb512]? = some (.cells #[.int .i64 a0_0, .int .i64 a0_1, .int .i64 a0_2] 29 (0, 0))) ∧ Aside0 (w'.heap[gb513]? = some (.cells #[.int .i64 a2_0, .int .i64 a2_1] 38 (0, 0))) ∧ Aside0 (Below w.heap.size w w'))
 case atStart => exact ⟨(y514), (0), (by first | rfl | (simp; done) | (simp [*]; done)), H', ⟨Nat.le_refl _⟩, ⟨by (with_reducible repeat (first | apply Kd.R_alloc | apply Kd.R_drewN | apply Kd.R_drew)); exact HO516.out⟩, ⟨bkp BK512⟩, ⟨bkp BK513⟩, ⟨bbw2 HB GE512 GE513⟩⟩
 case round =>
  clear H'
  try clear c1
  try clear p2
  try clear c4
  obtain ⟨x7_1, x13_1, rfl, HA, HK1, HO_7, BK512, BK513, HB⟩ := hrel
  cases gk with
  | zero => exact absurd HA.out (by simp [impl_shiftedGroup.l0])
  | succ k1 =>
   have H := HA.out
   clear HA
   simp only [impl_shiftedGroup.l0] at H
   by_cases c8 : x13_1 < (l1.length : Int)
   rw [if_pos c8] at H
   have c8b0 := decide_eq_true c8
   clear c8
   by_cases c9 : 0 ≤ x13_1
   rw [if_pos c9] at H
   have c9b0 := decide_eq_true c9
   clear c9
   by_cases c10 : x13_1 < (l1.length : Int)
   rw [if_pos c10] at H
   have c10b0 := decide_eq_true c10
   clear c10
   obtain ⟨⟨t522, t523⟩, A11, H⟩ := ob H
   try dsimp only at H
   obtain ⟨⟨t524, t525⟩, A12, H⟩ := ob H
   try dsimp only at H
   obtain ⟨⟨t526, t527⟩, A13, H⟩ := ob H
   try dsimp only at H
   obtain ⟨⟨t528, t529⟩, A14, H⟩ := ob H
   try dsimp only at H
   obtain ⟨⟨t530, t531, t532, t533, t534, t535⟩, A15, H⟩ := ob H
   try dsimp only at H
   by_cases c16 : x7_1.length < 2932031007402
   rw [if_pos c16] at H
   have LMc16 := Aside0.mk c16
   clear c16
   obtain ⟨y536, hy536⟩ : ∃ y_ : List (S48), y_ = (x7_1 ++ [(⟨(⟨t530, t531, t532, t533⟩ : S46), (⟨t534, t535⟩ : S38)⟩ : S48)]) := ⟨_, rfl⟩
   replace H : (impl_shiftedGroup.l0 k1 y536 l1 (l1.length : Int) (wrap64 (x13_1 + 1)) a0_0 a0_1 a0_2 a2_0 a2_1) = some r := by first | (rw [hy536]; with_reducible exact H) | (have H2_ := (Option.bind_some _ _).symm.trans H; rw [hy536]; with_reducible exact H2_) | (have H2_ := (Option.bind_some _ _).symm.trans H; with_reducible exact H2_) | with_reducible exact H | (rw [hy536]; exact H) | exact H
   have Ny536 := Aside0.mk hy536
   clear hy536
   have H' := Aside0.mk H
   clear H
   rotate_left
   ·rw [if_neg c16] at H
    exact absurd H (by simp)
   ·rw [if_neg c10] at H
    exact absurd H (by simp)
   ·rw [if_neg c9] at H
    exact absurd H (by simp)
   rw [if_neg c8] at H
   have c8b0 := decide_eq_false c8
   clear c8
   by_cases c29 : x7_1.length < 2932031007402
   rw [if_pos c29] at H
   have LMc29 := Aside0.mk c29
   clear c29
   obtain ⟨y517, hy517⟩ : ∃ y_ : List (S48), y_ = (impl_Motion.srtMo x7_1) := ⟨_, rfl⟩
   replace H : (some y517) = some r := by first | (rw [hy517]; with_reducible exact H) | (have H2_ := (Option.bind_some _ _).symm.trans H; rw [hy517]; with_reducible exact H2_) | (have H2_ := (Option.bind_some _ _).symm.trans H; with_reducible exact H2_) | with_reducible exact H | (rw [hy517]; exact H) | exact H
   have Ny517 := Aside0.mk hy517
   clear hy517
   obtain rfl := Option.some.inj H
   rotate_left
   ·rw [if_neg c29] at H
    exact absurd H (by simp)
   ·obtain ⟨p520, q520, ad520, e520, hx520_0, hx520_1, hx520_2, hx520_3, hx520_4, hx520_5⟩ := at_T48x HR1.out HB x13_1
    cases e520
    try go_wp2_with (first | ((with_reducible refine gd 9 rfl ?_); refine bx #[.int .i64 0, .int .i64 0, .int .i64 0, .int .i64 0, .int .i64 0, .int .i64 0] 48 ?_; intro gb521 hg w17 BK521 hb; replace HO_7 := asd (Kd.R_below (Kd.R_elderB (kr HO_7) gb521 (Nat.le_of_eq hg.symm)) hb); have GE521 := ngw2 hg HB GE512 GE513; replace HB := bS2 HB GE512 GE513 hb; have NB512_521 := nlt hg BK512; have NB521_512 := nsy (nlt hg BK512); replace BK512 := bB BK512 hb; have NB513_521 := nlt hg BK513; have NB521_513 := nsy (nlt hg BK513); replace BK513 := bB BK513 hb; clear hb hg; have hnb18 := NB521_512.out; have hnc18 := NB512_521.out; have hnb19 := NB521_513.out; have hnc19 := NB513_521.out; obtain ⟨hcz20_0, hcz20_1, hcz20_2, hcz20_3, hcz20_4, hcz20_5, hfz20_0, hfz20_1, hfz20_2, hfz20_3, hfz20_4, hfz20_5⟩ := bz6 BK521))
    obtain ⟨w21, h_w21⟩ : ∃ w_, ((((((w17.setCell ⟨gb521, 0, none⟩ (.int .i64 ((rd_T48 l1 x13_1).f0.f0))).setCell ⟨gb521, 1, none⟩ (.int .i64 ((rd_T48 l1 x13_1).f0.f1))).setCell ⟨gb521, 2, none⟩ (.int .i64 ((rd_T48 l1 x13_1).f0.f2))).setCell ⟨gb521, 3, none⟩ (.int .i64 ((rd_T48 l1 x13_1).f0.f3))).setCell ⟨gb521, 4, none⟩ (.int .i64 ((rd_T48 l1 x13_1).f1.f0))).setCell ⟨gb521, 5, none⟩ (.int .i64 ((rd_T48 l1 x13_1).f1.f1))) = w_ := ⟨_, rfl⟩
    replace HO_7 : Aside0 (Kd.R k48 48 w21 w.heap.size (fun k_ => k_ ≠ gb521) u7 x7_1) := by rw [← h_w21]; exact ⟨by (with_reducible repeat (first | apply Kd.R_alloc | apply Kd.R_drewN | apply Kd.R_drew)); exact Kd.R_mono (rw6 (Kd.R_mono HO_7.out (fun k_ hk => (⟨hk, hk.2⟩ : _ ∧ k_ ≠ gb521)))) (fun _ hk => hk.1.2)⟩
    replace BK512 : Aside0 (w21.heap[gb512]? = some (.cells #[.int .i64 a0_0, .int .i64 a0_1, .int .i64 a0_2] 29 (0, 0))) := by rw [← h_w21]; exact ⟨bq1 BK512 NB512_521⟩
    replace BK513 : Aside0 (w21.heap[gb513]? = some (.cells #[.int .i64 a2_0, .int .i64 a2_1] 38 (0, 0))) := by rw [← h_w21]; exact ⟨bq1 BK513 NB513_521⟩
    replace BK521 : Aside0 (w21.heap[gb521]? = some (.cells #[.int .i64 ((rd_T48 l1 x13_1).f0.f0), .int .i64 ((rd_T48 l1 x13_1).f0.f1), .int .i64 ((rd_T48 l1 x13_1).f0.f2), .int .i64 ((rd_T48 l1 x13_1).f0.f3), .int .i64 ((rd_T48 l1 x13_1).f1.f0), .int .i64 ((rd_T48 l1 x13_1).f1.f1)] 48 (0, 0))) := by rw [← h_w21]; exact ⟨bq0 BK521⟩
    replace HB : Aside0 (Below w.heap.size w w21) := by rw [← h_w21]; exact ⟨bbw3 HB GE512 GE513 GE521⟩
    (try rw [h_w21]); clear h_w21
    replace HO_7 := asd (Kd.R_drew HO_7.out)
    replace BK512 := asd (blk_drew BK512.out)
    replace BK513 := asd (blk_drew BK513.out)
    replace BK521 := asd (blk_drew BK521.out)
    replace HB := asd (below_drew1 HB.out)
    refine sh 19 (cb3 BK512 (cb6 BK521 (eb2 BK513))) (fun hHeld => ?_); refine with_tabW impl_shiftedGroup.tab5 impl_shiftedGroup.bits5 (fun HT_ HW_ => ?_)
    generalize w21.drew = w22 at HO_7 BK512 BK513 BK521 HB hHeld ⊢
    refine pu 0 (some 17) (bT 19 1) HT_ ?_
    refine pu 2 (some 19) (bs 19 5) HT_ ?_
    refine pu 4 (some 21) (bs 19 21) HT_ ?_
    refine pu 8 (some 25) (bs 19 277) HT_ ?_
    refine ta 1 (some 18) (bs 19 279) HT_ HW_ hHeld ?_
    refine ta 3 (some 20) (bs 19 287) HT_ HW_ hHeld ?_
    refine ta 5 (some 22) (bs 19 319) HT_ HW_ hHeld ?_
    refine ta 6 (some 23) (bs 19 383) HT_ HW_ hHeld ?_
    refine ta 9 (some 26) (bs 19 895) HT_ HW_ hHeld ?_
    refine ta 10 (some 27) (bs 19 1919) HT_ HW_ hHeld ?_
    refine ro 7 (some 24) (bT 19 11) HT_ (fun K hK => ?_)
    refine gs Tryz.func83 #[.agg #[.int .i64 ((rd_T48 l1 x13_1).f1.f0), .int .i64 ((rd_T48 l1 x13_1).f1.f1)], .agg #[.int .i64 a2_0, .int .i64 a2_1]] ?_
    with_reducible refine (impl_Vec_add.calls _ _ _ _ _ _ _ A11.out).mono ?_
    rintro e w23 ⟨rfl, hb⟩
    refine ⟨_, rfl, ?_⟩
    replace HO_7 := asd (Kd.R_below (kr HO_7) hb)
    replace BK512 := bB BK512 hb
    replace BK513 := bB BK513 hb
    replace BK521 := bB BK521 hb
    replace HB := bS3 HB GE512 GE513 GE521 hb
    (try clear hb)
    (try clear hb2)
    (try clear hk)
    (try clear hi)
    refine hK.out _ _ (cb3 BK512 (cb6 BK521 (eb2 BK513))).out (fun hHeld => ?_)
    clear hK K
    refine norm_ (a' := ?_) ?_ ?_
    rotate_left
    ·show Act.put _ (some 24) _ = _
     simp only [Act.put, sA, sB, sC, i64_w, i32_w]
     rfl
    refine ro 11 (some 28) (bT 19 12) HT_ (fun K hK => ?_)
    refine gs Tryz.func84 #[.agg #[.int .i64 ((rd_T48 l1 x13_1).f0.f0), .int .i64 ((rd_T48 l1 x13_1).f0.f1), .int .i64 ((rd_T48 l1 x13_1).f0.f2), .int .i64 ((rd_T48 l1 x13_1).f0.f3)], .agg #[.int .i64 a2_0, .int .i64 a2_1]] ?_
    with_reducible refine (impl_Mat_apply.calls _ _ _ _ _ _ _ _ _ A12.out).mono ?_
    rintro e w24 ⟨rfl, hb⟩
    refine ⟨_, rfl, ?_⟩
    replace HO_7 := asd (Kd.R_below (kr HO_7) hb)
    replace BK512 := bB BK512 hb
    replace BK513 := bB BK513 hb
    replace BK521 := bB BK521 hb
    replace HB := bS3 HB GE512 GE513 GE521 hb
    (try clear hb)
    (try clear hb2)
    (try clear hk)
    (try clear hi)
    refine hK.out _ _ (cb3 BK512 (cb6 BK521 (eb2 BK513))).out (fun hHeld => ?_)
    clear hK K
    refine norm_ (a' := ?_) ?_ ?_
    rotate_left
    ·show Act.put _ (some 28) _ = _
     simp only [Act.put, sA, sB, sC, i64_w, i32_w]
     rfl
    refine ro 12 (some 29) (bT 19 13) HT_ (fun K hK => ?_)
    refine gs Tryz.func85 #[.agg #[.int .i64 t524, .int .i64 t525], .int .i64 (-1)] ?_
    with_reducible refine (impl_Vec_times.calls _ _ _ _ _ _ A13.out).mono ?_
    rintro e w25 ⟨rfl, hb⟩
    refine ⟨_, rfl, ?_⟩
    replace HO_7 := asd (Kd.R_below (kr HO_7) hb)
    replace BK512 := bB BK512 hb
    replace BK513 := bB BK513 hb
    replace BK521 := bB BK521 hb
    replace HB := bS3 HB GE512 GE513 GE521 hb
    (try clear hb)
    (try clear hb2)
    (try clear hk)
    (try clear hi)
    refine hK.out _ _ (cb3 BK512 (cb6 BK521 (eb2 BK513))).out (fun hHeld => ?_)
    clear hK K
    refine norm_ (a' := ?_) ?_ ?_
    rotate_left
    ·show Act.put _ (some 29) _ = _
     simp only [Act.put, sA, sB, sC, i64_w, i32_w]
     rfl
    refine ro 13 (some 30) (bT 19 14) HT_ (fun K hK => ?_)
    refine gs Tryz.func83 #[.agg #[.int .i64 t522, .int .i64 t523], .agg #[.int .i64 t526, .int .i64 t527]] ?_
    with_reducible refine (impl_Vec_add.calls _ _ _ _ _ _ _ A14.out).mono ?_
    rintro e w26 ⟨rfl, hb⟩
    refine ⟨_, rfl, ?_⟩
    replace HO_7 := asd (Kd.R_below (kr HO_7) hb)
    replace BK512 := bB BK512 hb
    replace BK513 := bB BK513 hb
    replace BK521 := bB BK521 hb
    replace HB := bS3 HB GE512 GE513 GE521 hb
    (try clear hb)
    (try clear hb2)
    (try clear hk)
    (try clear hi)
    refine hK.out _ _ (cb3 BK512 (cb6 BK521 (eb2 BK513))).out (fun hHeld => ?_)
    clear hK K
    refine norm_ (a' := ?_) ?_ ?_
    rotate_left
    ·show Act.put _ (some 30) _ = _
     simp only [Act.put, sA, sB, sC, i64_w, i32_w]
     rfl
    refine pu 14 (some 31) (bT 19 15) HT_ ?_
    refine ro 15 (some 32) (bT 19 16) HT_ (fun K hK => ?_)
    refine gs Tryz.func72 #[.agg #[.int .i64 a0_0, .int .i64 a0_1, .int .i64 a0_2], .agg #[.int .i64 ((rd_T48 l1 x13_1).f0.f0), .int .i64 ((rd_T48 l1 x13_1).f0.f1), .int .i64 ((rd_T48 l1 x13_1).f0.f2), .int .i64 ((rd_T48 l1 x13_1).f0.f3), .int .i64 t528, .int .i64 t529]] ?_
    with_reducible refine (impl_Lattice_reduceMotion.calls _ _ _ _ _ _ _ _ _ _ _ _ _ _ _ _ A15.out).mono ?_
    rintro e w27 ⟨rfl, hb⟩
    refine ⟨_, rfl, ?_⟩
    replace HO_7 := asd (Kd.R_below (kr HO_7) hb)
    replace BK512 := bB BK512 hb
    replace BK513 := bB BK513 hb
    replace BK521 := bB BK521 hb
    replace HB := bS3 HB GE512 GE513 GE521 hb
    (try clear hb)
    (try clear hb2)
    (try clear hk)
    (try clear hi)
    refine hK.out _ _ (cb3 BK512 (cb6 BK521 (eb2 BK513))).out (fun hHeld => ?_)
    clear hK K
    refine norm_ (a' := ?_) ?_ ?_
    rotate_left
    ·show Act.put _ (some 32) _ = _
     simp only [Act.put, sA, sB, sC, i64_w, i32_w]
     rfl
    refine ro 16 (some 33) (bT 19 17) HT_ (fun K hK => ?_)
    refine value_ (w1 := ?_) (v := ?_) (by rfl) rfl ?_ ?_
    rotate_left 2
    ·go_simp
     constructor
     ·rfl
     ·rfl
    refine hK.out _ _ ⟨(blk_cell (blk_alloc BK512.out _) 0).trans rfl, (blk_cell (blk_alloc BK512.out _) 1).trans rfl, (blk_cell (blk_alloc BK512.out _) 2).trans rfl, (blk_cell (blk_alloc BK521.out _) 0).trans rfl, (blk_cell (blk_alloc BK521.out _) 1).trans rfl, (blk_cell (blk_alloc BK521.out _) 2).trans rfl, (blk_cell (blk_alloc BK521.out _) 3).trans rfl, (blk_cell (blk_alloc BK521.out _) 4).trans rfl, (blk_cell (blk_alloc BK521.out _) 5).trans rfl, (blk_cell (blk_alloc BK513.out _) 0).trans rfl, (blk_cell (blk_alloc BK513.out _) 1).trans rfl⟩ (fun hHeld => ?_)
    clear hK K
    refine norm_ (a' := ?_) ?_ ?_
    rotate_left
    ·show Act.put _ (some 33) _ = _
     simp only [Act.put, sA, sB, sC, i64_w, i32_w]
     rfl
    refine ro 17 (some 34) (bT 19 18) HT_ (fun K hK => ?_)
    refine Kd.R_append_step k48 (w0 := w) w.heap.size (by rfl) (.tmp 17) (.tmp 33) 26 48 (.agg #[(.int .i64 0), (.int .i64 0), (.int .i64 0), (.int .i64 0), (.int .i64 0), (.int .i64 0)]) 48 rfl Tryz.underlying26 info48 rfl (by decide) (by omega) u7 x7_1 (⟨(⟨t530, t531, t532, t533⟩ : S46), (⟨t534, t535⟩ : S38)⟩ : S48) [.int .i64 t530, .int .i64 t531, .int .i64 t532, .int .i64 t533, .int .i64 t534, .int .i64 t535] (fun k_ => k_ ≠ gb521) (fun _ => False) rfl rfl ?aP (fun _ hk => hk.elim) ?aF ?aO ?aB ?aS ?aL ?_
    (case aP => exact k48_mkM _ _ _ (⟨(⟨t530, t531, t532, t533⟩ : S46), (⟨t534, t535⟩ : S38)⟩ : S48))
    (case aB => exact (bbw3 HB GE512 GE513 GE521))
    (case aF => exact (fun k_ hk => Kd.freshB (g := gb521) (o := .cells #[.int .i64 ((rd_T48 l1 x13_1).f0.f0), .int .i64 ((rd_T48 l1 x13_1).f0.f1), .int .i64 ((rd_T48 l1 x13_1).f0.f2), .int .i64 ((rd_T48 l1 x13_1).f0.f3), .int .i64 ((rd_T48 l1 x13_1).f1.f0), .int .i64 ((rd_T48 l1 x13_1).f1.f1)] 48 (0, 0)) (bkp BK521) k_ hk))
    (case aO => exact (kr HO_7))
    (case aS => exact (bsz3 HB GE512 GE513 GE521))
    (case aL => have := LMc16.out; omega)
    intro v537 w28 ho hb hg hat
    rw [← Ny536.out] at ho
    have n0_ := asd (blk_grown (g := gb512) (o := .cells #[.int .i64 a0_0, .int .i64 a0_1, .int .i64 a0_2] 29 (0, 0)) (bkp BK512) hg (Kd.R_ne HO_7.out BK512.out (by decide)))
    have n1_ := asd (blk_grown (g := gb513) (o := .cells #[.int .i64 a2_0, .int .i64 a2_1] 38 (0, 0)) (bkp BK513) hg (Kd.R_ne HO_7.out BK513.out (by decide)))
    have n2_ := asd (blk_grown (g := gb521) (o := .cells #[.int .i64 ((rd_T48 l1 x13_1).f0.f0), .int .i64 ((rd_T48 l1 x13_1).f0.f1), .int .i64 ((rd_T48 l1 x13_1).f0.f2), .int .i64 ((rd_T48 l1 x13_1).f0.f3), .int .i64 ((rd_T48 l1 x13_1).f1.f0), .int .i64 ((rd_T48 l1 x13_1).f1.f1)] 48 (0, 0)) (bkp BK521) hg (Kd.R_away HO_7.out (fun _ hk => hk)))
    have n3_ := asd (hb)
    have n4_ := asd (ho)
    clear BK512
    clear BK513
    clear BK521
    clear HB
    clear HO_7
    have BK512 := n0_
    have BK513 := n1_
    have BK521 := n2_
    have HB := n3_
    have HO538 := n4_
    clear n0_ n1_ n2_ n3_ n4_
    clear ho hb hg hat
    refine hK.out _ _ (cb3 BK512 (cb6 BK521 (eb2 BK513))).out (fun hHeld => ?_)
    clear hK K
    refine norm_ (a' := ?_) ?_ ?_
    rotate_left
    ·show Act.put _ (some 34) _ = _
     simp only [Act.put, sA, sB, sC, i64_w, i32_w]
     rfl
    refine pu 18 (some 7) (bT 19 19) HT_ ?_
    refine done_ (done_of HT_.out (by kernel_rfl)) ?_
    try go_wp2
    go_roundg k1
    case measure => have := HK1.out; omega
    case rel => exact ⟨(y536), (wrap64 (x13_1 + 1)), (by first | rfl | (simp; done) | (simp [*]; done)), H', ⟨by have := HK1.out; omega⟩, ⟨by (with_reducible repeat (first | apply Kd.R_alloc | apply Kd.R_drewN | apply Kd.R_drew)); exact Kd.R_mono HO538.out (fun _ hk => trivial)⟩, ⟨bkp BK512⟩, ⟨bkp BK513⟩, ⟨bbw3 HB GE512 GE513 GE521⟩⟩
   ·go_wp2_with (first | (go_at_call 74; refine (impl_Motion.sortR (base := w.heap.size) (ok := (fun _ => True)) (xs := x7_1) ?aO ?aL).mono ?_; (case aO => exact (kr HO_7)); (case aL => have := LMc29.out; omega); rintro e w30 ⟨rfl, ho, hg⟩; have hb : Below w.heap.size w w30 := Below.grown ((bbw2 HB GE512 GE513)) hg ((bsz2 HB GE512 GE513)) (fun k_ hk_ => ((Kd.R_bound ho).1 k_ hk_).2.1); have hat := trivial; rw [← Ny517.out] at ho; have n0_ := asd (blk_grown (g := gb512) (o := .cells #[.int .i64 a0_0, .int .i64 a0_1, .int .i64 a0_2] 29 (0, 0)) (bkp BK512) hg (Kd.R_ne HO_7.out BK512.out (by decide))); have n1_ := asd (blk_grown (g := gb513) (o := .cells #[.int .i64 a2_0, .int .i64 a2_1] 38 (0, 0)) (bkp BK513) hg (Kd.R_ne HO_7.out BK513.out (by decide))); have n2_ := asd (hb); have n3_ := asd (ho); clear BK512; clear BK513; clear HB; clear HO_7; have BK512 := n0_; have BK513 := n1_; have HB := n2_; have HO519 := n3_; clear n0_ n1_ n2_ n3_; clear ho hb hg hat))
    go_ret
    exact ⟨_, by first | rfl | (simp [errW_none, errW_some] <;> rfl) | (simp [*, errW_none, errW_some] <;> rfl), by (with_reducible repeat (first | apply Kd.R_alloc | apply Kd.R_drewN | apply Kd.R_drew)); exact HO519.out, bbw2 HB GE512 GE513⟩
/-! ### impl_ShiftedGroup: function 18 -/
def impl_ShiftedGroup.f (k : Nat) (a0 : Int) (a1_0 : Int) (a1_1 : Int) (a1_2 : Int) (l2 : List (S48)) (a3_0 : Int) (a3_1 : Int) : Option ((List (S48)) × Int) := (impl_groupCode.f k a0 a1_0 a1_1 a1_2 (([l2] : List (List (S48))))).bind fun t544 => (if t544 = 0 then ((impl_IsVec.f a3_0 a3_1).bind fun t545 => (if t545 = true then ((impl_shiftedGroup.f k a1_0 a1_1 a1_2 l2 a3_0 a3_1).bind fun t546 => (some (t546, 0))) else (some (([] : List (S48)), 2)))) else (some (([] : List (S48)), t544)))
set_option maxHeartbeats 8000000 in
set_option maxRecDepth 100000 in
theorem impl_ShiftedGroup.calls (k : Nat) (a0 : Int) (a1_0 : Int) (a1_1 : Int) (a1_2 : Int) (P2_ : Nat → Prop) (A2 : Option Addr) (c2 : Nat) (l2 : List (S48)) (a3_0 : Int) (a3_1 : Int) (r1 : List (S48)) (r2 : Int) (w : World) (hs2 : Kd.V k48 48 w w.heap.size (fun k_ => P2_ k_) (.slice A2 l2.length c2) l2) (h : impl_ShiftedGroup.f k a0 a1_0 a1_1 a1_2 l2 a3_0 a3_1 = some (r1, r2)) :
  Calls Tryz.prog 18 #[.int .i64 a0, .agg #[.int .i64 a1_0, .int .i64 a1_1, .int .i64 a1_2], .slice A2 l2.length c2, .agg #[.int .i64 a3_0, .int .i64 a3_1]] w fun e w' => ∃ v0_ : Value, e = .returned (.tuple #[v0_, .int .i64 r2]) ∧ Kd.R k48 48 w' w.heap.size (fun k_ => (w.heap.size ≤ k_)) v0_ r1 ∧ Below w.heap.size w w' := by
 have hu29 := Tryz.underlying29
 have hu38 := Tryz.underlying38
 have HO2 := asd (show Kd.V k48 48 w w.heap.size (fun k_ => (P2_ k_ ∨ w.heap.size ≤ k_)) (.slice A2 l2.length c2) l2 from Kd.V_mono hs2 (fun k_ hk => .inl hk))
 have HB := asd (Below.refl w.heap.size w)
 have H : ((impl_groupCode.f k a0 a1_0 a1_1 a1_2 (([l2] : List (List (S48))))).bind fun t544 => (if t544 = 0 then ((impl_IsVec.f a3_0 a3_1).bind fun t545 => (if t545 = true then ((impl_shiftedGroup.f k a1_0 a1_1 a1_2 l2 a3_0 a3_1).bind fun t546 => (some (t546, 0))) else (some (([] : List (S48)), 2)))) else (some (([] : List (S48)), t544)))) = some (r1, r2) := h
 clear h
 obtain ⟨y541, hy541⟩ : ∃ y_ : List (List (S48)), y_ = (([l2] : List (List (S48)))) := ⟨_, rfl⟩
 replace H : ((impl_groupCode.f k a0 a1_0 a1_1 a1_2 y541).bind fun t544 => (if t544 = 0 then ((impl_IsVec.f a3_0 a3_1).bind fun t545 => (if t545 = true then ((impl_shiftedGroup.f k a1_0 a1_1 a1_2 l2 a3_0 a3_1).bind fun t546 => (some (t546, 0))) else (some (([] : List (S48)), 2)))) else (some (([] : List (S48)), t544)))) = some (r1, r2) := by first | (rw [hy541]; with_reducible exact H) | (have H2_ := (Option.bind_some _ _).symm.trans H; rw [hy541]; with_reducible exact H2_) | (have H2_ := (Option.bind_some _ _).symm.trans H; with_reducible exact H2_) | with_reducible exact H | (rw [hy541]; exact H) | exact H
 have Ny541 := Aside0.mk hy541
 clear hy541
 obtain ⟨t544, A5, H⟩ := ob H
 try dsimp only at H
 by_cases c6 : t544 = 0
 rw [if_pos c6] at H
 have c6b0 : (t544 == 0) = true := beq_iff_eq.mpr c6
 have c6b1 : (t544 != 0) = false := bne_eq_false_iff_eq.mpr c6
 clear c6
 obtain ⟨t545, A7, H⟩ := ob H
 try dsimp only at H
 by_cases c8 : t545 = true
 subst c8
 replace H := ifT H
 obtain ⟨t546, A9, H⟩ := ob H
 try dsimp only at H
 rotate_left
 replace c8 := Bool.eq_false_iff.mpr c8
 subst c8
 replace H := ifF H
 rotate_left
 rw [if_neg c6] at H
 have c6b0 : (t544 == 0) = false := beq_eq_false_iff_ne.mpr c6
 have c6b1 : (t544 != 0) = true := bne_iff_ne.mpr c6
 rotate_left
 all_goals
  simp only [Option.some.injEq, Prod.mk.injEq] at H
  obtain ⟨rfl, rfl⟩ := H
  go_enter Tryz.func18, Tryz.ntmps18
 ·go_wp2_with (first | ((with_reducible refine gd 5 rfl ?_); refine bx #[.int .i64 a1_0, .int .i64 a1_1, .int .i64 a1_2] 29 ?_; intro gb539 hg w10 BK539 hb; replace HO2 := asd (Kd.V_below (Kd.V_elderB (by (with_reducible repeat (first | apply Kd.V_alloc | apply Kd.V_drewN | apply Kd.V_drew)); exact HO2.out) gb539 (Nat.le_of_eq hg.symm)) hb); have GE539 := ngw0 hg HB; replace HB := bS0 HB hb; clear hb hg) | ((with_reducible refine gd 7 rfl ?_); refine bx #[.int .i64 a3_0, .int .i64 a3_1] 38 ?_; intro gb540 hg w11 BK540 hb; replace HO2 := asd (Kd.V_below (Kd.V_elderB (by (with_reducible repeat (first | apply Kd.V_alloc | apply Kd.V_drewN | apply Kd.V_drew)); exact HO2.out) gb540 (Nat.le_of_eq hg.symm)) hb); have GE540 := ngw1 hg HB GE539; replace HB := bS1 HB GE539 hb; have NB539_540 := nlt hg BK539; have NB540_539 := nsy (nlt hg BK539); replace BK539 := bB BK539 hb; clear hb hg; have hnb12 := NB539_540.out; have hnc12 := NB540_539.out; obtain ⟨hcz13_0, hcz13_1, hcz13_2, hfz13_0, hfz13_1, hfz13_2⟩ := bz3 BK539) | ((with_reducible refine gd 14 rfl ?_); refine Kd.N_lit (Kd.slice 48 k48) _ 26 ?hg (N' := 14) ?hd (xs := ([l2] : List (List (S48)))) (inner := [.slice A2 l2.length c2]) (ok := (fun k_ => (P2_ k_ ∨ w.heap.size ≤ k_) ∧ k_ ≠ gb539 ∧ k_ ≠ gb540)) (okp := (fun k_ => (P2_ k_ ∨ w.heap.size ≤ k_) ∧ k_ ≠ gb539 ∧ k_ ≠ gb540)) ?hr ?hp (fun _ hk => hk) ((show ∀ k_, w11.heap.size ≤ k_ → (fun k_ => (P2_ k_ ∨ w.heap.size ≤ k_) ∧ k_ ≠ gb539 ∧ k_ ≠ gb540) k_ from fun k_ hk => ⟨(.inr (Nat.le_trans (bsz2 HB GE539 GE540) hk)), Kd.freshB (g := gb539) (o := .cells #[.int .i64 a1_0, .int .i64 a1_1, .int .i64 a1_2] 29 (0, 0)) (bkp BK539) k_ hk, Kd.freshB (g := gb540) (o := .cells #[.int .i64 a3_0, .int .i64 a3_1] 38 (0, 0)) (bkp BK540) k_ hk⟩) _ (Nat.le_refl _)) (Below.refl _ _) (Nat.le_refl _) (by simp) ?_; (case hd => rfl); (case hg => rfl); (case hr => first | (go_simp; done) | (go_simp; rfl)); (case hp => exact (Reps.one (show Kd.FK (Kd.slice 48 k48) _ _ l2 [.slice A2 l2.length c2] from (Kd.FK_slice_mk (Kd.V_reads' (Kd.V_mono (ok' := (fun k_ => (P2_ k_ ∨ w.heap.size ≤ k_) ∧ k_ ≠ gb539 ∧ k_ ≠ gb540)) (HO2.out) (fun k_ hk => ⟨hk.1.1, ⟨hk.1.2, hk.2⟩⟩))).2.1 (Kd.V_F (Kd.V_mono (ok' := (fun k_ => (P2_ k_ ∨ w.heap.size ≤ k_) ∧ k_ ≠ gb539 ∧ k_ ≠ gb540)) (HO2.out) (fun k_ hk => ⟨hk.1.1, ⟨hk.1.2, hk.2⟩⟩))))) (Reps.none _ _))); intro v542 w14 ho15 hb hg_ hnew_; clear hg_ hnew_; (first | rw [← Ny541.out] at ho15 | (simp only [Int.reduceToNat] at ho15; rw [← Ny541.out] at ho15)); replace HO2 := asd (Kd.V_elder' (by (with_reducible repeat (first | apply Kd.V_alloc | apply Kd.V_drewN | apply Kd.V_drew)); exact HO2.out) (Kd.N_base ho15) hb); have HO543 := asd (Kd.N_lower ho15 (bsz2 HB GE539 GE540)); replace BK539 := bB BK539 hb; replace BK540 := bB BK540 hb; replace HB := bS2 HB GE539 GE540 hb; clear hb ho15; obtain ⟨Ao16, co16, eo16⟩ := Kd.N_slice HO543.out; subst eo16) | ((with_reducible refine gate_callee (f := 45) rfl ?_); refine gl 15 Tryz.func45 #[.int .i64 a0, .agg #[.int .i64 a1_0, .int .i64 a1_1, .int .i64 a1_2], .slice Ao16 y541.length co16] ?_; (with_reducible refine (impl_groupCode.calls _ _ _ _ _ _ _ _ _ _ ?side1 ?side2 A5.out).mono ?_); (case side1 => exact ks (Kd.N_reads' HO543.out).2.2); (case side2 => exact (Kd.N_reads' HO543.out).2.1); rintro e w17 ⟨rfl, hb⟩; refine ⟨_, rfl, ?_⟩; replace HO2 := asd (Kd.V_below (by (with_reducible repeat (first | apply Kd.V_alloc | apply Kd.V_drewN | apply Kd.V_drew)); exact HO2.out) hb); replace HO543 := asd (Kd.N_below (by (with_reducible repeat (first | apply Kd.N_alloc | apply Kd.N_drewN | apply Kd.N_drew)); exact HO543.out) hb); replace BK539 := bB BK539 hb; replace BK540 := bB BK540 hb; replace HB := bS2 HB GE539 GE540 hb; (try clear hb); obtain ⟨hcz18_0, hcz18_1, hfz18_0, hfz18_1⟩ := bz2 BK540) | ((with_reducible refine gate_callee (f := 46) rfl ?_); refine gl 20 Tryz.func46 #[.agg #[.int .i64 a3_0, .int .i64 a3_1]] ?_; (with_reducible refine (impl_IsVec.calls _ _ _ _ A7.out).mono ?_); rintro e w19 ⟨rfl, hb⟩; refine ⟨_, rfl, ?_⟩; replace HO2 := asd (Kd.V_below (by (with_reducible repeat (first | apply Kd.V_alloc | apply Kd.V_drewN | apply Kd.V_drew)); exact HO2.out) hb); replace HO543 := asd (Kd.N_below (by (with_reducible repeat (first | apply Kd.N_alloc | apply Kd.N_drewN | apply Kd.N_drew)); exact HO543.out) hb); replace BK539 := bB BK539 hb; replace BK540 := bB BK540 hb; replace HB := bS2 HB GE539 GE540 hb; (try clear hb); obtain ⟨hcz20_0, hcz20_1, hcz20_2, hfz20_0, hfz20_1, hfz20_2⟩ := bz3 BK539; obtain ⟨hcz21_0, hcz21_1, hfz21_0, hfz21_1⟩ := bz2 BK540) | ((with_reducible refine gate_callee (f := 47) rfl ?_); refine gl 25 Tryz.func47 #[.agg #[.int .i64 a1_0, .int .i64 a1_1, .int .i64 a1_2], .slice A2 l2.length c2, .agg #[.int .i64 a3_0, .int .i64 a3_1]] ?_; (with_reducible refine (impl_shiftedGroup.calls _ _ _ _ _ _ _ _ _ _ _ ?side1 ?side2 A9.out).mono ?_); (case side1 => exact ks (Kd.V_reads' HO2.out).2.2); (case side2 => exact (Kd.V_reads' HO2.out).2.1); rintro e w22 ⟨v547, rfl, ho0, hb⟩; refine ⟨_, rfl, ?_⟩; replace HO2 := asd (Kd.V_elder' (by (with_reducible repeat (first | apply Kd.V_alloc | apply Kd.V_drewN | apply Kd.V_drew)); exact HO2.out) (Kd.R_base ho0) hb); replace HO543 := asd (Kd.N_elder' (by (with_reducible repeat (first | apply Kd.N_alloc | apply Kd.N_drewN | apply Kd.N_drew)); exact HO543.out) (Kd.R_base ho0) hb); have HO548 := asd (Kd.R_lower (Kd.R_newM (M := fun k_ => (w.heap.size ≤ k_)) ho0 (bsz2 HB GE539 GE540) (fun k_ h_ => h_)) (bsz2 HB GE539 GE540)); replace BK539 := bB BK539 hb; replace BK540 := bB BK540 hb; replace HB := bS2 HB GE539 GE540 hb; (try clear hb); (try clear hb2); (try clear hk); (try clear hi); (try clear ho0)))
  go_ret2
  exact ⟨_, by first | rfl | (simp [errW_none, errW_some] <;> rfl) | (simp [*, errW_none, errW_some] <;> rfl), by (with_reducible repeat (first | apply Kd.R_alloc | apply Kd.R_drewN | apply Kd.R_drew)); exact Kd.R_mono HO548.out (fun _ hk => hk.1), bbw2 HB GE539 GE540⟩
 go_wp2_with (first | ((with_reducible refine gd 5 rfl ?_); refine bx #[.int .i64 a1_0, .int .i64 a1_1, .int .i64 a1_2] 29 ?_; intro gb539 hg w23 BK539 hb; replace HO2 := asd (Kd.V_below (Kd.V_elderB (by (with_reducible repeat (first | apply Kd.V_alloc | apply Kd.V_drewN | apply Kd.V_drew)); exact HO2.out) gb539 (Nat.le_of_eq hg.symm)) hb); have GE539 := ngw0 hg HB; replace HB := bS0 HB hb; clear hb hg) | ((with_reducible refine gd 7 rfl ?_); refine bx #[.int .i64 a3_0, .int .i64 a3_1] 38 ?_; intro gb540 hg w24 BK540 hb; replace HO2 := asd (Kd.V_below (Kd.V_elderB (by (with_reducible repeat (first | apply Kd.V_alloc | apply Kd.V_drewN | apply Kd.V_drew)); exact HO2.out) gb540 (Nat.le_of_eq hg.symm)) hb); have GE540 := ngw1 hg HB GE539; replace HB := bS1 HB GE539 hb; have NB539_540 := nlt hg BK539; have NB540_539 := nsy (nlt hg BK539); replace BK539 := bB BK539 hb; clear hb hg; have hnb25 := NB539_540.out; have hnc25 := NB540_539.out; obtain ⟨hcz26_0, hcz26_1, hcz26_2, hfz26_0, hfz26_1, hfz26_2⟩ := bz3 BK539) | ((with_reducible refine gd 14 rfl ?_); refine Kd.N_lit (Kd.slice 48 k48) _ 26 ?hg (N' := 14) ?hd (xs := ([l2] : List (List (S48)))) (inner := [.slice A2 l2.length c2]) (ok := (fun k_ => (P2_ k_ ∨ w.heap.size ≤ k_) ∧ k_ ≠ gb539 ∧ k_ ≠ gb540)) (okp := (fun k_ => (P2_ k_ ∨ w.heap.size ≤ k_) ∧ k_ ≠ gb539 ∧ k_ ≠ gb540)) ?hr ?hp (fun _ hk => hk) ((show ∀ k_, w24.heap.size ≤ k_ → (fun k_ => (P2_ k_ ∨ w.heap.size ≤ k_) ∧ k_ ≠ gb539 ∧ k_ ≠ gb540) k_ from fun k_ hk => ⟨(.inr (Nat.le_trans (bsz2 HB GE539 GE540) hk)), Kd.freshB (g := gb539) (o := .cells #[.int .i64 a1_0, .int .i64 a1_1, .int .i64 a1_2] 29 (0, 0)) (bkp BK539) k_ hk, Kd.freshB (g := gb540) (o := .cells #[.int .i64 a3_0, .int .i64 a3_1] 38 (0, 0)) (bkp BK540) k_ hk⟩) _ (Nat.le_refl _)) (Below.refl _ _) (Nat.le_refl _) (by simp) ?_; (case hd => rfl); (case hg => rfl); (case hr => first | (go_simp; done) | (go_simp; rfl)); (case hp => exact (Reps.one (show Kd.FK (Kd.slice 48 k48) _ _ l2 [.slice A2 l2.length c2] from (Kd.FK_slice_mk (Kd.V_reads' (Kd.V_mono (ok' := (fun k_ => (P2_ k_ ∨ w.heap.size ≤ k_) ∧ k_ ≠ gb539 ∧ k_ ≠ gb540)) (HO2.out) (fun k_ hk => ⟨hk.1.1, ⟨hk.1.2, hk.2⟩⟩))).2.1 (Kd.V_F (Kd.V_mono (ok' := (fun k_ => (P2_ k_ ∨ w.heap.size ≤ k_) ∧ k_ ≠ gb539 ∧ k_ ≠ gb540)) (HO2.out) (fun k_ hk => ⟨hk.1.1, ⟨hk.1.2, hk.2⟩⟩))))) (Reps.none _ _))); intro v542 w27 ho28 hb hg_ hnew_; clear hg_ hnew_; (first | rw [← Ny541.out] at ho28 | (simp only [Int.reduceToNat] at ho28; rw [← Ny541.out] at ho28)); replace HO2 := asd (Kd.V_elder' (by (with_reducible repeat (first | apply Kd.V_alloc | apply Kd.V_drewN | apply Kd.V_drew)); exact HO2.out) (Kd.N_base ho28) hb); have HO543 := asd (Kd.N_lower ho28 (bsz2 HB GE539 GE540)); replace BK539 := bB BK539 hb; replace BK540 := bB BK540 hb; replace HB := bS2 HB GE539 GE540 hb; clear hb ho28; obtain ⟨Ao29, co29, eo29⟩ := Kd.N_slice HO543.out; subst eo29) | ((with_reducible refine gate_callee (f := 45) rfl ?_); refine gl 15 Tryz.func45 #[.int .i64 a0, .agg #[.int .i64 a1_0, .int .i64 a1_1, .int .i64 a1_2], .slice Ao29 y541.length co29] ?_; (with_reducible refine (impl_groupCode.calls _ _ _ _ _ _ _ _ _ _ ?side1 ?side2 A5.out).mono ?_); (case side1 => exact ks (Kd.N_reads' HO543.out).2.2); (case side2 => exact (Kd.N_reads' HO543.out).2.1); rintro e w30 ⟨rfl, hb⟩; refine ⟨_, rfl, ?_⟩; replace HO2 := asd (Kd.V_below (by (with_reducible repeat (first | apply Kd.V_alloc | apply Kd.V_drewN | apply Kd.V_drew)); exact HO2.out) hb); replace HO543 := asd (Kd.N_below (by (with_reducible repeat (first | apply Kd.N_alloc | apply Kd.N_drewN | apply Kd.N_drew)); exact HO543.out) hb); replace BK539 := bB BK539 hb; replace BK540 := bB BK540 hb; replace HB := bS2 HB GE539 GE540 hb; (try clear hb); obtain ⟨hcz31_0, hcz31_1, hfz31_0, hfz31_1⟩ := bz2 BK540) | ((with_reducible refine gate_callee (f := 46) rfl ?_); refine gl 20 Tryz.func46 #[.agg #[.int .i64 a3_0, .int .i64 a3_1]] ?_; (with_reducible refine (impl_IsVec.calls _ _ _ _ A7.out).mono ?_); rintro e w32 ⟨rfl, hb⟩; refine ⟨_, rfl, ?_⟩; replace HO2 := asd (Kd.V_below (by (with_reducible repeat (first | apply Kd.V_alloc | apply Kd.V_drewN | apply Kd.V_drew)); exact HO2.out) hb); replace HO543 := asd (Kd.N_below (by (with_reducible repeat (first | apply Kd.N_alloc | apply Kd.N_drewN | apply Kd.N_drew)); exact HO543.out) hb); replace BK539 := bB BK539 hb; replace BK540 := bB BK540 hb; replace HB := bS2 HB GE539 GE540 hb; (try clear hb)))
 rotate_left
 go_wp2_with (first | ((with_reducible refine gd 5 rfl ?_); refine bx #[.int .i64 a1_0, .int .i64 a1_1, .int .i64 a1_2] 29 ?_; intro gb539 hg w33 BK539 hb; replace HO2 := asd (Kd.V_below (Kd.V_elderB (by (with_reducible repeat (first | apply Kd.V_alloc | apply Kd.V_drewN | apply Kd.V_drew)); exact HO2.out) gb539 (Nat.le_of_eq hg.symm)) hb); have GE539 := ngw0 hg HB; replace HB := bS0 HB hb; clear hb hg) | ((with_reducible refine gd 7 rfl ?_); refine bx #[.int .i64 a3_0, .int .i64 a3_1] 38 ?_; intro gb540 hg w34 BK540 hb; replace HO2 := asd (Kd.V_below (Kd.V_elderB (by (with_reducible repeat (first | apply Kd.V_alloc | apply Kd.V_drewN | apply Kd.V_drew)); exact HO2.out) gb540 (Nat.le_of_eq hg.symm)) hb); have GE540 := ngw1 hg HB GE539; replace HB := bS1 HB GE539 hb; have NB539_540 := nlt hg BK539; have NB540_539 := nsy (nlt hg BK539); replace BK539 := bB BK539 hb; clear hb hg; have hnb35 := NB539_540.out; have hnc35 := NB540_539.out; obtain ⟨hcz36_0, hcz36_1, hcz36_2, hfz36_0, hfz36_1, hfz36_2⟩ := bz3 BK539) | ((with_reducible refine gd 14 rfl ?_); refine Kd.N_lit (Kd.slice 48 k48) _ 26 ?hg (N' := 14) ?hd (xs := ([l2] : List (List (S48)))) (inner := [.slice A2 l2.length c2]) (ok := (fun k_ => (P2_ k_ ∨ w.heap.size ≤ k_) ∧ k_ ≠ gb539 ∧ k_ ≠ gb540)) (okp := (fun k_ => (P2_ k_ ∨ w.heap.size ≤ k_) ∧ k_ ≠ gb539 ∧ k_ ≠ gb540)) ?hr ?hp (fun _ hk => hk) ((show ∀ k_, w34.heap.size ≤ k_ → (fun k_ => (P2_ k_ ∨ w.heap.size ≤ k_) ∧ k_ ≠ gb539 ∧ k_ ≠ gb540) k_ from fun k_ hk => ⟨(.inr (Nat.le_trans (bsz2 HB GE539 GE540) hk)), Kd.freshB (g := gb539) (o := .cells #[.int .i64 a1_0, .int .i64 a1_1, .int .i64 a1_2] 29 (0, 0)) (bkp BK539) k_ hk, Kd.freshB (g := gb540) (o := .cells #[.int .i64 a3_0, .int .i64 a3_1] 38 (0, 0)) (bkp BK540) k_ hk⟩) _ (Nat.le_refl _)) (Below.refl _ _) (Nat.le_refl _) (by simp) ?_; (case hd => rfl); (case hg => rfl); (case hr => first | (go_simp; done) | (go_simp; rfl)); (case hp => exact (Reps.one (show Kd.FK (Kd.slice 48 k48) _ _ l2 [.slice A2 l2.length c2] from (Kd.FK_slice_mk (Kd.V_reads' (Kd.V_mono (ok' := (fun k_ => (P2_ k_ ∨ w.heap.size ≤ k_) ∧ k_ ≠ gb539 ∧ k_ ≠ gb540)) (HO2.out) (fun k_ hk => ⟨hk.1.1, ⟨hk.1.2, hk.2⟩⟩))).2.1 (Kd.V_F (Kd.V_mono (ok' := (fun k_ => (P2_ k_ ∨ w.heap.size ≤ k_) ∧ k_ ≠ gb539 ∧ k_ ≠ gb540)) (HO2.out) (fun k_ hk => ⟨hk.1.1, ⟨hk.1.2, hk.2⟩⟩))))) (Reps.none _ _))); intro v542 w37 ho38 hb hg_ hnew_; clear hg_ hnew_; (first | rw [← Ny541.out] at ho38 | (simp only [Int.reduceToNat] at ho38; rw [← Ny541.out] at ho38)); replace HO2 := asd (Kd.V_elder' (by (with_reducible repeat (first | apply Kd.V_alloc | apply Kd.V_drewN | apply Kd.V_drew)); exact HO2.out) (Kd.N_base ho38) hb); have HO543 := asd (Kd.N_lower ho38 (bsz2 HB GE539 GE540)); replace BK539 := bB BK539 hb; replace BK540 := bB BK540 hb; replace HB := bS2 HB GE539 GE540 hb; clear hb ho38; obtain ⟨Ao39, co39, eo39⟩ := Kd.N_slice HO543.out; subst eo39) | ((with_reducible refine gate_callee (f := 45) rfl ?_); refine gl 15 Tryz.func45 #[.int .i64 a0, .agg #[.int .i64 a1_0, .int .i64 a1_1, .int .i64 a1_2], .slice Ao39 y541.length co39] ?_; (with_reducible refine (impl_groupCode.calls _ _ _ _ _ _ _ _ _ _ ?side1 ?side2 A5.out).mono ?_); (case side1 => exact ks (Kd.N_reads' HO543.out).2.2); (case side2 => exact (Kd.N_reads' HO543.out).2.1); rintro e w40 ⟨rfl, hb⟩; refine ⟨_, rfl, ?_⟩; replace HO2 := asd (Kd.V_below (by (with_reducible repeat (first | apply Kd.V_alloc | apply Kd.V_drewN | apply Kd.V_drew)); exact HO2.out) hb); replace HO543 := asd (Kd.N_below (by (with_reducible repeat (first | apply Kd.N_alloc | apply Kd.N_drewN | apply Kd.N_drew)); exact HO543.out) hb); replace BK539 := bB BK539 hb; replace BK540 := bB BK540 hb; replace HB := bS2 HB GE539 GE540 hb; (try clear hb)))
 rotate_left
 all_goals
  go_ret2
  exact ⟨_, by first | rfl | (simp [errW_none, errW_some] <;> rfl) | (simp [*, errW_none, errW_some] <;> rfl), by first | exact Kd.R_nil _ _ _ _ _ | exact Kd.N_nil _ _ _ _ _ | exact Kd.V_nil _ _ _ _ _ | exact Kd.Q_nil _ _ _ _ _ | exact Kd.S_nil _ _ _ _ _, bbw2 HB GE539 GE540⟩

end Go.Proofs.YtdodghjnlekgeaaGreat.PA
