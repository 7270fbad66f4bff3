/- Walks written by program: each Go function that the law reaches comes to the plain function beside it. -/
import Derived.Test.YtkjdndikgekidaaDoorPBx0
import Derived.Test.YtkjdndikgekidaaDoorPBx4
namespace Go.Proofs.YtkjdndikgekidaaDoor.PB
open Go.RowKit Go.Proofs.YtkjdndikgekidaaDoorW.PrintWords Go.Proofs.YtkjdndikgekidaaDoorW.PrintLast Go.Proofs.YtkjdndikgekidaaDoorW.PrintMore
attribute [local go_sem] max2_int min2_int max_two min_two max_three min_three max_four min_four   -- for this text's walks alone
set_option linter.unusedVariables false
set_option linter.unusedSimpArgs false

/-! ### impl_nameWithMirrors: function 48 -/
mutual
def impl_nameWithMirrors.j0 : Nat → Bool → Int → Int → Int → Int → Bool → Option (ByteArray)
 | 0, _, _, _, _, _, _ => none
 | k + 1, x3, x117000, x117001, x117002, x117003, x117004 => if x117000 = 1 then (if x117001 = 1 then (impl_nameWithMirrors.j1 k x3 (x117002 == 0) x117000 x117001 x117002 x117003 x117004) else (impl_nameWithMirrors.j1 k x3 false x117000 x117001 x117002 x117003 x117004)) else (impl_nameWithMirrors.j1 k x3 false x117000 x117001 x117002 x117003 x117004)
def impl_nameWithMirrors.j1 : Nat → Bool → Bool → Int → Int → Int → Int → Bool → Option (ByteArray)
 | 0, _, _, _, _, _, _, _ => none
 | k + 1, x3, x23, x117000, x117001, x117002, x117003, x117004 => if x23 = true then (some (⟨#[112, 103]⟩ : ByteArray)) else (if x117000 = 1 then (impl_nameWithMirrors.j2 k x3 x3 x117000 x117001 x117002 x117003 x117004) else (impl_nameWithMirrors.j2 k x3 false x117000 x117001 x117002 x117003 x117004))
def impl_nameWithMirrors.j2 : Nat → Bool → Bool → Int → Int → Int → Int → Bool → Option (ByteArray)
 | 0, _, _, _, _, _, _, _ => none
 | k + 1, x3, x37, x117000, x117001, x117002, x117003, x117004 => if x37 = true then (some (⟨#[99, 109]⟩ : ByteArray)) else (if x117000 = 1 then (if x117001 = 1 then (if x117002 = 1 then (impl_nameWithMirrors.j3 k x3 (x117003 == 0) x117000 x117001 x117002 x117003 x117004) else (impl_nameWithMirrors.j3 k x3 false x117000 x117001 x117002 x117003 x117004)) else (impl_nameWithMirrors.j3 k x3 false x117000 x117001 x117002 x117003 x117004)) else (impl_nameWithMirrors.j3 k x3 false x117000 x117001 x117002 x117003 x117004))
def impl_nameWithMirrors.j3 : Nat → Bool → Bool → Int → Int → Int → Int → Bool → Option (ByteArray)
 | 0, _, _, _, _, _, _, _ => none
 | k + 1, x3, x44, x117000, x117001, x117002, x117003, x117004 => if x44 = true then (some (⟨#[112, 109]⟩ : ByteArray)) else (if x117000 = 2 then (impl_nameWithMirrors.j4 k x3 x3 x117000 x117001 x117002 x117003 x117004) else (impl_nameWithMirrors.j4 k x3 false x117000 x117001 x117002 x117003 x117004))
def impl_nameWithMirrors.j4 : Nat → Bool → Bool → Int → Int → Int → Int → Bool → Option (ByteArray)
 | 0, _, _, _, _, _, _, _ => none
 | k + 1, x3, x63, x117000, x117001, x117002, x117003, x117004 => if x63 = true then (some (⟨#[99, 109, 109]⟩ : ByteArray)) else (if x117000 = 2 then (if x117001 = 2 then (if x117003 = 0 then ((impl_within.f x117002 0 2).bind fun t117 => (impl_nameWithMirrors.j5 k x3 t117 x117000 x117001 x117002 x117003 x117004)) else (impl_nameWithMirrors.j5 k x3 false x117000 x117001 x117002 x117003 x117004)) else (impl_nameWithMirrors.j5 k x3 false x117000 x117001 x117002 x117003 x117004)) else (impl_nameWithMirrors.j5 k x3 false x117000 x117001 x117002 x117003 x117004))
def impl_nameWithMirrors.j5 : Nat → Bool → Bool → Int → Int → Int → Int → Bool → Option (ByteArray)
 | 0, _, _, _, _, _, _, _ => none
 | k + 1, x3, x70, x117000, x117001, x117002, x117003, x117004 => if x70 = true then ((some (([(⟨#[112, 103, 103]⟩ : ByteArray), (⟨#[112, 109, 103]⟩ : ByteArray), (⟨#[112, 109, 109]⟩ : ByteArray)] : List ByteArray) : List ByteArray)).bind fun y118 => (if 0 ≤ x117002 then (if x117002 < (y118.length : Int) then (some (rdOf ByteArray.empty y118 x117002)) else (none)) else (none))) else (if x117000 = 4 then (if x117001 = 4 then (if x117003 = 2 then (impl_nameWithMirrors.j6 k x3 (x117002 == 4) x117000 x117001 x117002 x117003 x117004) else (impl_nameWithMirrors.j6 k x3 false x117000 x117001 x117002 x117003 x117004)) else (impl_nameWithMirrors.j6 k x3 false x117000 x117001 x117002 x117003 x117004)) else (impl_nameWithMirrors.j6 k x3 false x117000 x117001 x117002 x117003 x117004))
def impl_nameWithMirrors.j6 : Nat → Bool → Bool → Int → Int → Int → Int → Bool → Option (ByteArray)
 | 0, _, _, _, _, _, _, _ => none
 | k + 1, x3, x93, x117000, x117001, x117002, x117003, x117004 => if x93 = true then (some (⟨#[112, 52, 109]⟩ : ByteArray)) else (if x117000 = 4 then (if x117001 = 4 then (if x117003 = 2 then (impl_nameWithMirrors.j7 k x3 (x117002 == 2) x117000 x117001 x117002 x117003 x117004) else (impl_nameWithMirrors.j7 k x3 false x117000 x117001 x117002 x117003 x117004)) else (impl_nameWithMirrors.j7 k x3 false x117000 x117001 x117002 x117003 x117004)) else (impl_nameWithMirrors.j7 k x3 false x117000 x117001 x117002 x117003 x117004))
def impl_nameWithMirrors.j7 : Nat → Bool → Bool → Int → Int → Int → Int → Bool → Option (ByteArray)
 | 0, _, _, _, _, _, _, _ => none
 | k + 1, x3, x112, x117000, x117001, x117002, x117003, x117004 => if x112 = true then (some (⟨#[112, 52, 103]⟩ : ByteArray)) else (if x117000 = 3 then (if x3 = true then (impl_nameWithMirrors.j8 k x3 x117004 x117000 x117001 x117002 x117003 x117004) else (impl_nameWithMirrors.j8 k x3 false x117000 x117001 x117002 x117003 x117004)) else (impl_nameWithMirrors.j8 k x3 false x117000 x117001 x117002 x117003 x117004))
def impl_nameWithMirrors.j8 : Nat → Bool → Bool → Int → Int → Int → Int → Bool → Option (ByteArray)
 | 0, _, _, _, _, _, _, _ => none
 | k + 1, x3, x131, x117000, x117001, x117002, x117003, x117004 => if x131 = true then (some (⟨#[112, 51, 49, 109]⟩ : ByteArray)) else (if x117000 = 3 then (impl_nameWithMirrors.j9 k x3 x3 x117000 x117001 x117002 x117003 x117004) else (impl_nameWithMirrors.j9 k x3 false x117000 x117001 x117002 x117003 x117004))
def impl_nameWithMirrors.j9 : Nat → Bool → Bool → Int → Int → Int → Int → Bool → Option (ByteArray)
 | 0, _, _, _, _, _, _, _ => none
 | k + 1, x3, x142, x117000, x117001, x117002, x117003, x117004 => if x142 = true then (some (⟨#[112, 51, 109, 49]⟩ : ByteArray)) else (if x117000 = 6 then (if x3 = true then (some (⟨#[112, 54, 109]⟩ : ByteArray)) else (some (⟨#[]⟩ : ByteArray))) else (some (⟨#[]⟩ : ByteArray)))
end
def impl_nameWithMirrors.f (k : Nat) (a0_0 : Int) (a0_1 : Int) (a0_2 : Int) (a0_3 : Int) (a0_4 : Bool) : Option (ByteArray) := if a0_1 = a0_0 then (if a0_2 = a0_0 then (impl_nameWithMirrors.j0 k (a0_3 == a0_0) a0_0 a0_1 a0_2 a0_3 a0_4) else (impl_nameWithMirrors.j0 k false a0_0 a0_1 a0_2 a0_3 a0_4)) else (impl_nameWithMirrors.j0 k false a0_0 a0_1 a0_2 a0_3 a0_4)
theorem impl_nameWithMirrors.idx0 (a b c : ByteArray) (w : World) : (Instr.index 102 (.agg #[.string a, .string b, .string c]) (.int .i64 0)).run Tryd.prog w = .ok (.string a) w := by kernel_rfl
attribute [local go_sem] impl_nameWithMirrors.idx0
theorem impl_nameWithMirrors.idx1 (a b c : ByteArray) (w : World) : (Instr.index 102 (.agg #[.string a, .string b, .string c]) (.int .i64 1)).run Tryd.prog w = .ok (.string b) w := by kernel_rfl
attribute [local go_sem] impl_nameWithMirrors.idx1
theorem impl_nameWithMirrors.idx2 (a b c : ByteArray) (w : World) : (Instr.index 102 (.agg #[.string a, .string b, .string c]) (.int .i64 2)).run Tryd.prog w = .ok (.string c) w := by kernel_rfl
attribute [local go_sem] impl_nameWithMirrors.idx2
set_option maxHeartbeats 80000000 in
set_option maxRecDepth 100000 in
theorem impl_nameWithMirrors.calls (k : Nat) (a0_0 : Int) (a0_1 : Int) (a0_2 : Int) (a0_3 : Int) (a0_4 : Bool) (r : ByteArray) (w : World) (h : impl_nameWithMirrors.f k a0_0 a0_1 a0_2 a0_3 a0_4 = some r) :
  Calls Tryd.prog 48 #[.agg #[.int .i64 a0_0, .int .i64 a0_1, .int .i64 a0_2, .int .i64 a0_3, .bool a0_4]] w fun e w' => e = .returned (.string r) ∧ Below w.heap.size w w' := by
 have hu26 := Tryd.underlying26
 have HB := asd (Below.refl w.heap.size w)
 have H : (if a0_1 = a0_0 then (if a0_2 = a0_0 then (impl_nameWithMirrors.j0 k (a0_3 == a0_0) a0_0 a0_1 a0_2 a0_3 a0_4) else (impl_nameWithMirrors.j0 k false a0_0 a0_1 a0_2 a0_3 a0_4)) else (impl_nameWithMirrors.j0 k false a0_0 a0_1 a0_2 a0_3 a0_4)) = some r := h
 clear h
 have HC2 := Aside0.mk H
 clear H
 go_enter Tryd.func48, Tryd.ntmps48
 go_upto_region 1 with (first | ((with_reducible refine gd 1 rfl ?_); refine bx #[.int .i64 a0_0, .int .i64 a0_1, .int .i64 a0_2, .int .i64 a0_3, .bool a0_4] 26 ?_; intro gb116 hg w3 BK116 hb; have GE116 := ngw0 hg HB; replace HB := bS0 HB hb; clear hb hg))
 (try simp only [Act.put, sA, sB, sC])
 go_cut [3] (fun v3 wc => ∃ (kq : Nat) (x3_1 : Bool), v3 = .bool x3_1 ∧ Aside0 (impl_nameWithMirrors.j0 kq x3_1 a0_0 a0_1 a0_2 a0_3 a0_4 = some r) ∧ Aside0 (kq ≤ k) ∧ Aside0 (wc.heap[gb116]? = some (.cells #[.int .i64 a0_0, .int .i64 a0_1, .int .i64 a0_2, .int .i64 a0_3, .bool a0_4] 26 (0, 0))) ∧ Aside0 (Below w.heap.size w wc))
 case first => as_aux_lemma =>
  have H := HC2.out
  clear HC2
  by_cases c4 : a0_1 = a0_0
  ·rw [if_pos c4] at H
   have c4b0 : (a0_1 == a0_0) = true := beq_iff_eq.mpr c4
   have c4b1 : (a0_1 != a0_0) = false := bne_eq_false_iff_eq.mpr c4
   clear c4
   (first | rw [c4b0] | (simp only [i64_w, i32_w]; rw [c4b0]) | skip)
   by_cases c5 : a0_2 = a0_0
   ·rw [if_pos c5] at H
    have c5b0 : (a0_2 == a0_0) = true := beq_iff_eq.mpr c5
    have c5b1 : (a0_2 != a0_0) = false := bne_eq_false_iff_eq.mpr c5
    clear c5
    have H' := Aside0.mk H
    clear H
    obtain ⟨hcz6_0, hcz6_1, hcz6_2, hcz6_3, hcz6_4, hfz6_0, hfz6_1, hfz6_2, hfz6_3, hfz6_4⟩ := bz5 BK116
    go_wp2
    go_meet
    case rel => exact ⟨_, ((a0_3 == a0_0)), (by first | rfl | (simp; done) | (simp [*]; done)), H', ⟨by first | omega | exact Nat.le_refl _⟩, ⟨bkp BK116⟩, ⟨bbw1 HB GE116⟩⟩
   ·rw [if_neg c5] at H
    have c5b0 : (a0_2 == a0_0) = false := beq_eq_false_iff_ne.mpr c5
    have c5b1 : (a0_2 != a0_0) = true := bne_iff_ne.mpr c5
    have H' := Aside0.mk H
    clear H
    obtain ⟨hcz7_0, hcz7_1, hcz7_2, hcz7_3, hcz7_4, hfz7_0, hfz7_1, hfz7_2, hfz7_3, hfz7_4⟩ := bz5 BK116
    go_wp2
    go_meet
    case rel => exact ⟨_, (false), (by first | rfl | (simp; done) | (simp [*]; done)), H', ⟨by first | omega | exact Nat.le_refl _⟩, ⟨bkp BK116⟩, ⟨bbw1 HB GE116⟩⟩
  ·rw [if_neg c4] at H
   have c4b0 : (a0_1 == a0_0) = false := beq_eq_false_iff_ne.mpr c4
   have c4b1 : (a0_1 != a0_0) = true := bne_iff_ne.mpr c4
   (first | rw [c4b0] | (simp only [i64_w, i32_w]; rw [c4b0]) | skip)
   have H' := Aside0.mk H
   clear H
   obtain ⟨hcz8_0, hcz8_1, hcz8_2, hcz8_3, hcz8_4, hfz8_0, hfz8_1, hfz8_2, hfz8_3, hfz8_4⟩ := bz5 BK116
   go_wp2
   go_meet
   case rel => exact ⟨_, (false), (by first | rfl | (simp; done) | (simp [*]; done)), H', ⟨by first | omega | exact Nat.le_refl _⟩, ⟨bkp BK116⟩, ⟨bbw1 HB GE116⟩⟩
 case rest => as_aux_lemma =>
  clear HC2
  try clear p2
  try clear c4
  try clear c4b0
  try clear c4b1
  try clear c5
  try clear c5b0
  try clear c5b1
  try clear hcz6_0
  try clear hcz6_1
  try clear hcz6_2
  try clear hcz6_3
  try clear hcz6_4
  try clear hcz7_0
  try clear hcz7_1
  try clear hcz7_2
  try clear hcz7_3
  try clear hcz7_4
  try clear hcz8_0
  try clear hcz8_1
  try clear hcz8_2
  try clear hcz8_3
  try clear hcz8_4
  try clear hfz6_0
  try clear hfz6_1
  try clear hfz6_2
  try clear hfz6_3
  try clear hfz6_4
  try clear hfz7_0
  try clear hfz7_1
  try clear hfz7_2
  try clear hfz7_3
  try clear hfz7_4
  try clear hfz8_0
  try clear hfz8_1
  try clear hfz8_2
  try clear hfz8_3
  try clear hfz8_4
  obtain ⟨kq, x3_1, rfl, HA, HJ1, BK116, HB⟩ := hcut
  cases kq with
  | zero => exact absurd HA.out (by simp [impl_nameWithMirrors.j0])
  | succ kj1 =>
   have H := HA.out
   clear HA
   simp only [impl_nameWithMirrors.j0] at H
   have HC9 := Aside0.mk H
   clear H
   go_upto_region 2 with (fail)
   go_cut [23] (fun v23 wc => ∃ (kq : Nat) (x23_8 : Bool), v23 = .bool x23_8 ∧ Aside0 (impl_nameWithMirrors.j1 kq x3_1 x23_8 a0_0 a0_1 a0_2 a0_3 a0_4 = some r) ∧ Aside0 (kq ≤ kj1) ∧ Aside0 (wc.heap[gb116]? = some (.cells #[.int .i64 a0_0, .int .i64 a0_1, .int .i64 a0_2, .int .i64 a0_3, .bool a0_4] 26 (0, 0))) ∧ Aside0 (Below w.heap.size w wc))
   case first => as_aux_lemma =>
    have H := HC9.out
    clear HC9
    by_cases c10 : a0_0 = 1
    ·rw [if_pos c10] at H
     have c10b0 : (a0_0 == 1) = true := beq_iff_eq.mpr c10
     have c10b1 : (a0_0 != 1) = false := bne_eq_false_iff_eq.mpr c10
     clear c10
     (first | rw [c10b0] | (simp only [i64_w, i32_w]; rw [c10b0]) | skip)
     by_cases c11 : a0_1 = 1
     ·rw [if_pos c11] at H
      have c11b0 : (a0_1 == 1) = true := beq_iff_eq.mpr c11
      have c11b1 : (a0_1 != 1) = false := bne_eq_false_iff_eq.mpr c11
      clear c11
      have H' := Aside0.mk H
      clear H
      obtain ⟨hcz12_0, hcz12_1, hcz12_2, hcz12_3, hcz12_4, hfz12_0, hfz12_1, hfz12_2, hfz12_3, hfz12_4⟩ := bz5 BK116
      go_wp2
      go_meet
      case rel => exact ⟨_, ((a0_2 == 0)), (by first | rfl | (simp; done) | (simp [*]; done)), H', ⟨by have := HJ1.out; first | omega | exact Nat.le_refl _⟩, ⟨bkp BK116⟩, ⟨bbw1 HB GE116⟩⟩
     ·rw [if_neg c11] at H
      have c11b0 : (a0_1 == 1) = false := beq_eq_false_iff_ne.mpr c11
      have c11b1 : (a0_1 != 1) = true := bne_iff_ne.mpr c11
      have H' := Aside0.mk H
      clear H
      obtain ⟨hcz13_0, hcz13_1, hcz13_2, hcz13_3, hcz13_4, hfz13_0, hfz13_1, hfz13_2, hfz13_3, hfz13_4⟩ := bz5 BK116
      go_wp2
      go_meet
      case rel => exact ⟨_, (false), (by first | rfl | (simp; done) | (simp [*]; done)), H', ⟨by have := HJ1.out; first | omega | exact Nat.le_refl _⟩, ⟨bkp BK116⟩, ⟨bbw1 HB GE116⟩⟩
    ·rw [if_neg c10] at H
     have c10b0 : (a0_0 == 1) = false := beq_eq_false_iff_ne.mpr c10
     have c10b1 : (a0_0 != 1) = true := bne_iff_ne.mpr c10
     (first | rw [c10b0] | (simp only [i64_w, i32_w]; rw [c10b0]) | skip)
     have H' := Aside0.mk H
     clear H
     obtain ⟨hcz14_0, hcz14_1, hcz14_2, hcz14_3, hcz14_4, hfz14_0, hfz14_1, hfz14_2, hfz14_3, hfz14_4⟩ := bz5 BK116
     go_wp2
     go_meet
     case rel => exact ⟨_, (false), (by first | rfl | (simp; done) | (simp [*]; done)), H', ⟨by have := HJ1.out; first | omega | exact Nat.le_refl _⟩, ⟨bkp BK116⟩, ⟨bbw1 HB GE116⟩⟩
   case rest => as_aux_lemma =>
    clear HC9
    try clear c1
    try clear p2
    try clear c4
    try clear c4b0
    try clear c4b1
    try clear c5
    try clear c5b0
    try clear c5b1
    try clear c10
    try clear c10b0
    try clear c10b1
    try clear c11
    try clear c11b0
    try clear c11b1
    try clear hcz12_0
    try clear hcz12_1
    try clear hcz12_2
    try clear hcz12_3
    try clear hcz12_4
    try clear hcz13_0
    try clear hcz13_1
    try clear hcz13_2
    try clear hcz13_3
    try clear hcz13_4
    try clear hcz14_0
    try clear hcz14_1
    try clear hcz14_2
    try clear hcz14_3
    try clear hcz14_4
    try clear hcz6_0
    try clear hcz6_1
    try clear hcz6_2
    try clear hcz6_3
    try clear hcz6_4
    try clear hcz7_0
    try clear hcz7_1
    try clear hcz7_2
    try clear hcz7_3
    try clear hcz7_4
    try clear hcz8_0
    try clear hcz8_1
    try clear hcz8_2
    try clear hcz8_3
    try clear hcz8_4
    try clear hfz12_0
    try clear hfz12_1
    try clear hfz12_2
    try clear hfz12_3
    try clear hfz12_4
    try clear hfz13_0
    try clear hfz13_1
    try clear hfz13_2
    try clear hfz13_3
    try clear hfz13_4
    try clear hfz14_0
    try clear hfz14_1
    try clear hfz14_2
    try clear hfz14_3
    try clear hfz14_4
    try clear hfz6_0
    try clear hfz6_1
    try clear hfz6_2
    try clear hfz6_3
    try clear hfz6_4
    try clear hfz7_0
    try clear hfz7_1
    try clear hfz7_2
    try clear hfz7_3
    try clear hfz7_4
    try clear hfz8_0
    try clear hfz8_1
    try clear hfz8_2
    try clear hfz8_3
    try clear hfz8_4
    try clear p2
    obtain ⟨kq, x23_8, rfl, HA, HJ8, BK116, HB⟩ := hcut
    cases kq with
    | zero => exact absurd HA.out (by simp [impl_nameWithMirrors.j1])
    | succ kj8 =>
     have H := HA.out
     clear HA
     simp only [impl_nameWithMirrors.j1] at H
     by_cases c15 : x23_8 = true
     ·subst c15
      replace H := ifT H
      obtain rfl := Option.some.inj H
      go_wp2
      go_ret
      exact er (bbw1 HB GE116)
     ·replace c15 := Bool.eq_false_iff.mpr c15
      subst c15
      replace H := ifF H
      have HC16 := Aside0.mk H
      clear H
      go_upto_region 4 with (fail)
      go_cut [37] (fun v37 wc => ∃ (kq : Nat) (x37_15 : Bool), v37 = .bool x37_15 ∧ Aside0 (impl_nameWithMirrors.j2 kq x3_1 x37_15 a0_0 a0_1 a0_2 a0_3 a0_4 = some r) ∧ Aside0 (kq ≤ kj8) ∧ Aside0 (wc.heap[gb116]? = some (.cells #[.int .i64 a0_0, .int .i64 a0_1, .int .i64 a0_2, .int .i64 a0_3, .bool a0_4] 26 (0, 0))) ∧ Aside0 (Below w.heap.size w wc))
      case first => as_aux_lemma =>
       have H := HC16.out
       clear HC16
       by_cases c17 : a0_0 = 1
       ·rw [if_pos c17] at H
        have c17b0 : (a0_0 == 1) = true := beq_iff_eq.mpr c17
        have c17b1 : (a0_0 != 1) = false := bne_eq_false_iff_eq.mpr c17
        clear c17
        (first | rw [c17b0] | (simp only [i64_w, i32_w]; rw [c17b0]) | skip)
        have H' := Aside0.mk H
        clear H
        obtain ⟨hcz18_0, hcz18_1, hcz18_2, hcz18_3, hcz18_4, hfz18_0, hfz18_1, hfz18_2, hfz18_3, hfz18_4⟩ := bz5 BK116
        go_wp2
        go_meet
        case rel => exact ⟨_, (x3_1), (by first | rfl | (simp; done) | (simp [*]; done)), H', ⟨by have := HJ1.out; have := HJ8.out; first | omega | exact Nat.le_refl _⟩, ⟨bkp BK116⟩, ⟨bbw1 HB GE116⟩⟩
       ·rw [if_neg c17] at H
        have c17b0 : (a0_0 == 1) = false := beq_eq_false_iff_ne.mpr c17
        have c17b1 : (a0_0 != 1) = true := bne_iff_ne.mpr c17
        (first | rw [c17b0] | (simp only [i64_w, i32_w]; rw [c17b0]) | skip)
        have H' := Aside0.mk H
        clear H
        obtain ⟨hcz19_0, hcz19_1, hcz19_2, hcz19_3, hcz19_4, hfz19_0, hfz19_1, hfz19_2, hfz19_3, hfz19_4⟩ := bz5 BK116
        go_wp2
        go_meet
        case rel => exact ⟨_, (false), (by first | rfl | (simp; done) | (simp [*]; done)), H', ⟨by have := HJ1.out; have := HJ8.out; first | omega | exact Nat.le_refl _⟩, ⟨bkp BK116⟩, ⟨bbw1 HB GE116⟩⟩
      case rest => as_aux_lemma =>
       clear HC16
       try clear c1
       try clear p2
       try clear c4
       try clear c4b0
       try clear c4b1
       try clear c5
       try clear c5b0
       try clear c5b1
       try clear c10
       try clear c10b0
       try clear c10b1
       try clear c11
       try clear c11b0
       try clear c11b1
       try clear c15
       try clear c17
       try clear c17b0
       try clear c17b1
       try clear hcz12_0
       try clear hcz12_1
       try clear hcz12_2
       try clear hcz12_3
       try clear hcz12_4
       try clear hcz13_0
       try clear hcz13_1
       try clear hcz13_2
       try clear hcz13_3
       try clear hcz13_4
       try clear hcz14_0
       try clear hcz14_1
       try clear hcz14_2
       try clear hcz14_3
       try clear hcz14_4
       try clear hcz18_0
       try clear hcz18_1
       try clear hcz18_2
       try clear hcz18_3
       try clear hcz18_4
       try clear hcz19_0
       try clear hcz19_1
       try clear hcz19_2
       try clear hcz19_3
       try clear hcz19_4
       try clear hcz6_0
       try clear hcz6_1
       try clear hcz6_2
       try clear hcz6_3
       try clear hcz6_4
       try clear hcz7_0
       try clear hcz7_1
       try clear hcz7_2
       try clear hcz7_3
       try clear hcz7_4
       try clear hcz8_0
       try clear hcz8_1
       try clear hcz8_2
       try clear hcz8_3
       try clear hcz8_4
       try clear hfz12_0
       try clear hfz12_1
       try clear hfz12_2
       try clear hfz12_3
       try clear hfz12_4
       try clear hfz13_0
       try clear hfz13_1
       try clear hfz13_2
       try clear hfz13_3
       try clear hfz13_4
       try clear hfz14_0
       try clear hfz14_1
       try clear hfz14_2
       try clear hfz14_3
       try clear hfz14_4
       try clear hfz18_0
       try clear hfz18_1
       try clear hfz18_2
       try clear hfz18_3
       try clear hfz18_4
       try clear hfz19_0
       try clear hfz19_1
       try clear hfz19_2
       try clear hfz19_3
       try clear hfz19_4
       try clear hfz6_0
       try clear hfz6_1
       try clear hfz6_2
       try clear hfz6_3
       try clear hfz6_4
       try clear hfz7_0
       try clear hfz7_1
       try clear hfz7_2
       try clear hfz7_3
       try clear hfz7_4
       try clear hfz8_0
       try clear hfz8_1
       try clear hfz8_2
       try clear hfz8_3
       try clear hfz8_4
       try clear p2
       obtain ⟨kq, x37_15, rfl, HA, HJ15, BK116, HB⟩ := hcut
       cases kq with
       | zero => exact absurd HA.out (by simp [impl_nameWithMirrors.j2])
       | succ kj15 =>
        have H := HA.out
        clear HA
        simp only [impl_nameWithMirrors.j2] at H
        by_cases c20 : x37_15 = true
        ·subst c20
         replace H := ifT H
         obtain rfl := Option.some.inj H
         go_wp2
         go_ret
         exact er (bbw1 HB GE116)
        ·replace c20 := Bool.eq_false_iff.mpr c20
         subst c20
         replace H := ifF H
         have HC21 := Aside0.mk H
         clear H
         go_upto_region 6 with (fail)
         go_cut [44] (fun v44 wc => ∃ (kq : Nat) (x44_20 : Bool), v44 = .bool x44_20 ∧ Aside0 (impl_nameWithMirrors.j3 kq x3_1 x44_20 a0_0 a0_1 a0_2 a0_3 a0_4 = some r) ∧ Aside0 (kq ≤ kj15) ∧ Aside0 (wc.heap[gb116]? = some (.cells #[.int .i64 a0_0, .int .i64 a0_1, .int .i64 a0_2, .int .i64 a0_3, .bool a0_4] 26 (0, 0))) ∧ Aside0 (Below w.heap.size w wc))
         case first => as_aux_lemma =>
          have H := HC21.out
          clear HC21
          by_cases c22 : a0_0 = 1
          ·rw [if_pos c22] at H
           have c22b0 : (a0_0 == 1) = true := beq_iff_eq.mpr c22
           have c22b1 : (a0_0 != 1) = false := bne_eq_false_iff_eq.mpr c22
           clear c22
           (first | rw [c22b0] | (simp only [i64_w, i32_w]; rw [c22b0]) | skip)
           by_cases c23 : a0_1 = 1
           rw [if_pos c23] at H
           have c23b0 : (a0_1 == 1) = true := beq_iff_eq.mpr c23
           have c23b1 : (a0_1 != 1) = false := bne_eq_false_iff_eq.mpr c23
           clear c23
           by_cases c24 : a0_2 = 1
           rw [if_pos c24] at H
           have c24b0 : (a0_2 == 1) = true := beq_iff_eq.mpr c24
           have c24b1 : (a0_2 != 1) = false := bne_eq_false_iff_eq.mpr c24
           clear c24
           have H' := Aside0.mk H
           clear H
           rotate_left
           rw [if_neg c24] at H
           have c24b0 : (a0_2 == 1) = false := beq_eq_false_iff_ne.mpr c24
           have c24b1 : (a0_2 != 1) = true := bne_iff_ne.mpr c24
           have H' := Aside0.mk H
           clear H
           rotate_left
           rw [if_neg c23] at H
           have c23b0 : (a0_1 == 1) = false := beq_eq_false_iff_ne.mpr c23
           have c23b1 : (a0_1 != 1) = true := bne_iff_ne.mpr c23
           have H' := Aside0.mk H
           clear H
           rotate_left
           ·obtain ⟨hcz25_0, hcz25_1, hcz25_2, hcz25_3, hcz25_4, hfz25_0, hfz25_1, hfz25_2, hfz25_3, hfz25_4⟩ := bz5 BK116
            go_wp2
            go_meet
            case rel => exact ⟨_, ((a0_3 == 0)), (by first | rfl | (simp; done) | (simp [*]; done)), H', ⟨by have := HJ1.out; have := HJ8.out; have := HJ15.out; first | omega | exact Nat.le_refl _⟩, ⟨bkp BK116⟩, ⟨bbw1 HB GE116⟩⟩
           obtain ⟨hcz26_0, hcz26_1, hcz26_2, hcz26_3, hcz26_4, hfz26_0, hfz26_1, hfz26_2, hfz26_3, hfz26_4⟩ := bz5 BK116
           rotate_left
           obtain ⟨hcz27_0, hcz27_1, hcz27_2, hcz27_3, hcz27_4, hfz27_0, hfz27_1, hfz27_2, hfz27_3, hfz27_4⟩ := bz5 BK116
           rotate_left
           all_goals
            go_wp2
            go_meet
            case rel => exact ⟨_, (false), (by first | rfl | (simp; done) | (simp [*]; done)), H', ⟨by have := HJ1.out; have := HJ8.out; have := HJ15.out; first | omega | exact Nat.le_refl _⟩, ⟨bkp BK116⟩, ⟨bbw1 HB GE116⟩⟩
          ·rw [if_neg c22] at H
           have c22b0 : (a0_0 == 1) = false := beq_eq_false_iff_ne.mpr c22
           have c22b1 : (a0_0 != 1) = true := bne_iff_ne.mpr c22
           (first | rw [c22b0] | (simp only [i64_w, i32_w]; rw [c22b0]) | skip)
           have H' := Aside0.mk H
           clear H
           obtain ⟨hcz28_0, hcz28_1, hcz28_2, hcz28_3, hcz28_4, hfz28_0, hfz28_1, hfz28_2, hfz28_3, hfz28_4⟩ := bz5 BK116
           go_wp2
           go_meet
           case rel => exact ⟨_, (false), (by first | rfl | (simp; done) | (simp [*]; done)), H', ⟨by have := HJ1.out; have := HJ8.out; have := HJ15.out; first | omega | exact Nat.le_refl _⟩, ⟨bkp BK116⟩, ⟨bbw1 HB GE116⟩⟩
         case rest => as_aux_lemma =>
          clear HC21
          try clear c1
          try clear c2
          try clear p2
          try clear c4
          try clear c4b0
          try clear c4b1
          try clear c5
          try clear c5b0
          try clear c5b1
          try clear c10
          try clear c10b0
          try clear c10b1
          try clear c11
          try clear c11b0
          try clear c11b1
          try clear c15
          try clear c17
          try clear c17b0
          try clear c17b1
          try clear c20
          try clear c22
          try clear c22b0
          try clear c22b1
          try clear c23
          try clear c23b0
          try clear c23b1
          try clear c24
          try clear c24b0
          try clear c24b1
          try clear hcz12_0
          try clear hcz12_1
          try clear hcz12_2
          try clear hcz12_3
          try clear hcz12_4
          try clear hcz13_0
          try clear hcz13_1
          try clear hcz13_2
          try clear hcz13_3
          try clear hcz13_4
          try clear hcz14_0
          try clear hcz14_1
          try clear hcz14_2
          try clear hcz14_3
          try clear hcz14_4
          try clear hcz18_0
          try clear hcz18_1
          try clear hcz18_2
          try clear hcz18_3
          try clear hcz18_4
          try clear hcz19_0
          try clear hcz19_1
          try clear hcz19_2
          try clear hcz19_3
          try clear hcz19_4
          try clear hcz25_0
          try clear hcz25_1
          try clear hcz25_2
          try clear hcz25_3
          try clear hcz25_4
          try clear hcz26_0
          try clear hcz26_1
          try clear hcz26_2
          try clear hcz26_3
          try clear hcz26_4
          try clear hcz27_0
          try clear hcz27_1
          try clear hcz27_2
          try clear hcz27_3
          try clear hcz27_4
          try clear hcz28_0
          try clear hcz28_1
          try clear hcz28_2
          try clear hcz28_3
          try clear hcz28_4
          try clear hcz6_0
          try clear hcz6_1
          try clear hcz6_2
          try clear hcz6_3
          try clear hcz6_4
          try clear hcz7_0
          try clear hcz7_1
          try clear hcz7_2
          try clear hcz7_3
          try clear hcz7_4
          try clear hcz8_0
          try clear hcz8_1
          try clear hcz8_2
          try clear hcz8_3
          try clear hcz8_4
          try clear hfz12_0
          try clear hfz12_1
          try clear hfz12_2
          try clear hfz12_3
          try clear hfz12_4
          try clear hfz13_0
          try clear hfz13_1
          try clear hfz13_2
          try clear hfz13_3
          try clear hfz13_4
          try clear hfz14_0
          try clear hfz14_1
          try clear hfz14_2
          try clear hfz14_3
          try clear hfz14_4
          try clear hfz18_0
          try clear hfz18_1
          try clear hfz18_2
          try clear hfz18_3
          try clear hfz18_4
          try clear hfz19_0
          try clear hfz19_1
          try clear hfz19_2
          try clear hfz19_3
          try clear hfz19_4
          try clear hfz25_0
          try clear hfz25_1
          try clear hfz25_2
          try clear hfz25_3
          try clear hfz25_4
          try clear hfz26_0
          try clear hfz26_1
          try clear hfz26_2
          try clear hfz26_3
          try clear hfz26_4
          try clear hfz27_0
          try clear hfz27_1
          try clear hfz27_2
          try clear hfz27_3
          try clear hfz27_4
          try clear hfz28_0
          try clear hfz28_1
          try clear hfz28_2
          try clear hfz28_3
          try clear hfz28_4
          try clear hfz6_0
          try clear hfz6_1
          try clear hfz6_2
          try clear hfz6_3
          try clear hfz6_4
          try clear hfz7_0
          try clear hfz7_1
          try clear hfz7_2
          try clear hfz7_3
          try clear hfz7_4
          try clear hfz8_0
          try clear hfz8_1
          try clear hfz8_2
          try clear hfz8_3
          try clear hfz8_4
          try clear p2
          obtain ⟨kq, x44_20, rfl, HA, HJ20, BK116, HB⟩ := hcut
          cases kq with
          | zero => exact absurd HA.out (by simp [impl_nameWithMirrors.j3])
          | succ kj20 =>
           have H := HA.out
           clear HA
           simp only [impl_nameWithMirrors.j3] at H
           by_cases c29 : x44_20 = true
           ·subst c29
            replace H := ifT H
            obtain rfl := Option.some.inj H
            go_wp2
            go_ret
            exact er (bbw1 HB GE116)
           ·replace c29 := Bool.eq_false_iff.mpr c29
            subst c29
            replace H := ifF H
            have HC30 := Aside0.mk H
            clear H
            go_upto_region 8 with (fail)
            go_cut [63] (fun v63 wc => ∃ (kq : Nat) (x63_29 : Bool), v63 = .bool x63_29 ∧ Aside0 (impl_nameWithMirrors.j4 kq x3_1 x63_29 a0_0 a0_1 a0_2 a0_3 a0_4 = some r) ∧ Aside0 (kq ≤ kj20) ∧ Aside0 (wc.heap[gb116]? = some (.cells #[.int .i64 a0_0, .int .i64 a0_1, .int .i64 a0_2, .int .i64 a0_3, .bool a0_4] 26 (0, 0))) ∧ Aside0 (Below w.heap.size w wc))
            case first => as_aux_lemma =>
             have H := HC30.out
             clear HC30
             by_cases c31 : a0_0 = 2
             ·rw [if_pos c31] at H
              have c31b0 : (a0_0 == 2) = true := beq_iff_eq.mpr c31
              have c31b1 : (a0_0 != 2) = false := bne_eq_false_iff_eq.mpr c31
              clear c31
              (first | rw [c31b0] | (simp only [i64_w, i32_w]; rw [c31b0]) | skip)
              have H' := Aside0.mk H
              clear H
              obtain ⟨hcz32_0, hcz32_1, hcz32_2, hcz32_3, hcz32_4, hfz32_0, hfz32_1, hfz32_2, hfz32_3, hfz32_4⟩ := bz5 BK116
              go_wp2
              go_meet
              case rel => exact ⟨_, (x3_1), (by first | rfl | (simp; done) | (simp [*]; done)), H', ⟨by have := HJ1.out; have := HJ8.out; have := HJ15.out; have := HJ20.out; first | omega | exact Nat.le_refl _⟩, ⟨bkp BK116⟩, ⟨bbw1 HB GE116⟩⟩
             ·rw [if_neg c31] at H
              have c31b0 : (a0_0 == 2) = false := beq_eq_false_iff_ne.mpr c31
              have c31b1 : (a0_0 != 2) = true := bne_iff_ne.mpr c31
              (first | rw [c31b0] | (simp only [i64_w, i32_w]; rw [c31b0]) | skip)
              have H' := Aside0.mk H
              clear H
              obtain ⟨hcz33_0, hcz33_1, hcz33_2, hcz33_3, hcz33_4, hfz33_0, hfz33_1, hfz33_2, hfz33_3, hfz33_4⟩ := bz5 BK116
              go_wp2
              go_meet
              case rel => exact ⟨_, (false), (by first | rfl | (simp; done) | (simp [*]; done)), H', ⟨by have := HJ1.out; have := HJ8.out; have := HJ15.out; have := HJ20.out; first | omega | exact Nat.le_refl _⟩, ⟨bkp BK116⟩, ⟨bbw1 HB GE116⟩⟩
            case rest => as_aux_lemma =>
             clear HC30
             try clear c1
             try clear c2
             try clear p2
             try clear c3
             try clear c4
             try clear c4b0
             try clear c4b1
             try clear c5
             try clear c5b0
             try clear c5b1
             try clear c10
             try clear c10b0
             try clear c10b1
             try clear c11
             try clear c11b0
             try clear c11b1
             try clear c15
             try clear c17
             try clear c17b0
             try clear c17b1
             try clear c20
             try clear c22
             try clear c22b0
             try clear c22b1
             try clear c23
             try clear c23b0
             try clear c23b1
             try clear c24
             try clear c24b0
             try clear c24b1
             try clear c29
             try clear c31
             try clear c31b0
             try clear c31b1
             try clear hcz12_0
             try clear hcz12_1
             try clear hcz12_2
             try clear hcz12_3
             try clear hcz12_4
             try clear hcz13_0
             try clear hcz13_1
             try clear hcz13_2
             try clear hcz13_3
             try clear hcz13_4
             try clear hcz14_0
             try clear hcz14_1
             try clear hcz14_2
             try clear hcz14_3
             try clear hcz14_4
             try clear hcz18_0
             try clear hcz18_1
             try clear hcz18_2
             try clear hcz18_3
             try clear hcz18_4
             try clear hcz19_0
             try clear hcz19_1
             try clear hcz19_2
             try clear hcz19_3
             try clear hcz19_4
             try clear hcz25_0
             try clear hcz25_1
             try clear hcz25_2
             try clear hcz25_3
             try clear hcz25_4
             try clear hcz26_0
             try clear hcz26_1
             try clear hcz26_2
             try clear hcz26_3
             try clear hcz26_4
             try clear hcz27_0
             try clear hcz27_1
             try clear hcz27_2
             try clear hcz27_3
             try clear hcz27_4
             try clear hcz28_0
             try clear hcz28_1
             try clear hcz28_2
             try clear hcz28_3
             try clear hcz28_4
             try clear hcz32_0
             try clear hcz32_1
             try clear hcz32_2
             try clear hcz32_3
             try clear hcz32_4
             try clear hcz33_0
             try clear hcz33_1
             try clear hcz33_2
             try clear hcz33_3
             try clear hcz33_4
             try clear hcz6_0
             try clear hcz6_1
             try clear hcz6_2
             try clear hcz6_3
             try clear hcz6_4
             try clear hcz7_0
             try clear hcz7_1
             try clear hcz7_2
             try clear hcz7_3
             try clear hcz7_4
             try clear hcz8_0
             try clear hcz8_1
             try clear hcz8_2
             try clear hcz8_3
             try clear hcz8_4
             try clear hfz12_0
             try clear hfz12_1
             try clear hfz12_2
             try clear hfz12_3
             try clear hfz12_4
             try clear hfz13_0
             try clear hfz13_1
             try clear hfz13_2
             try clear hfz13_3
             try clear hfz13_4
             try clear hfz14_0
             try clear hfz14_1
             try clear hfz14_2
             try clear hfz14_3
             try clear hfz14_4
             try clear hfz18_0
             try clear hfz18_1
             try clear hfz18_2
             try clear hfz18_3
             try clear hfz18_4
             try clear hfz19_0
             try clear hfz19_1
             try clear hfz19_2
             try clear hfz19_3
             try clear hfz19_4
             try clear hfz25_0
             try clear hfz25_1
             try clear hfz25_2
             try clear hfz25_3
             try clear hfz25_4
             try clear hfz26_0
             try clear hfz26_1
             try clear hfz26_2
             try clear hfz26_3
             try clear hfz26_4
             try clear hfz27_0
             try clear hfz27_1
             try clear hfz27_2
             try clear hfz27_3
             try clear hfz27_4
             try clear hfz28_0
             try clear hfz28_1
             try clear hfz28_2
             try clear hfz28_3
             try clear hfz28_4
             try clear hfz32_0
             try clear hfz32_1
             try clear hfz32_2
             try clear hfz32_3
             try clear hfz32_4
             try clear hfz33_0
             try clear hfz33_1
             try clear hfz33_2
             try clear hfz33_3
             try clear hfz33_4
             try clear hfz6_0
             try clear hfz6_1
             try clear hfz6_2
             try clear hfz6_3
             try clear hfz6_4
             try clear hfz7_0
             try clear hfz7_1
             try clear hfz7_2
             try clear hfz7_3
             try clear hfz7_4
             try clear hfz8_0
             try clear hfz8_1
             try clear hfz8_2
             try clear hfz8_3
             try clear hfz8_4
             try clear p2
             obtain ⟨kq, x63_29, rfl, HA, HJ29, BK116, HB⟩ := hcut
             cases kq with
             | zero => exact absurd HA.out (by simp [impl_nameWithMirrors.j4])
             | succ kj29 =>
              have H := HA.out
              clear HA
              simp only [impl_nameWithMirrors.j4] at H
              by_cases c34 : x63_29 = true
              ·subst c34
               replace H := ifT H
               obtain rfl := Option.some.inj H
               go_wp2
               go_ret
               exact er (bbw1 HB GE116)
              ·replace c34 := Bool.eq_false_iff.mpr c34
               subst c34
               replace H := ifF H
               have HC35 := Aside0.mk H
               clear H
               go_upto_region 10 with (fail)
               go_cut [70] (fun v70 wc => ∃ (kq : Nat) (x70_34 : Bool), v70 = .bool x70_34 ∧ Aside0 (impl_nameWithMirrors.j5 kq x3_1 x70_34 a0_0 a0_1 a0_2 a0_3 a0_4 = some r) ∧ Aside0 (kq ≤ kj29) ∧ Aside0 (wc.heap[gb116]? = some (.cells #[.int .i64 a0_0, .int .i64 a0_1, .int .i64 a0_2, .int .i64 a0_3, .bool a0_4] 26 (0, 0))) ∧ Aside0 (Below w.heap.size w wc))
               case first => as_aux_lemma =>
                have H := HC35.out
                clear HC35
                by_cases c36 : a0_0 = 2
                ·rw [if_pos c36] at H
                 have c36b0 : (a0_0 == 2) = true := beq_iff_eq.mpr c36
                 have c36b1 : (a0_0 != 2) = false := bne_eq_false_iff_eq.mpr c36
                 clear c36
                 (first | rw [c36b0] | (simp only [i64_w, i32_w]; rw [c36b0]) | skip)
                 by_cases c37 : a0_1 = 2
                 rw [if_pos c37] at H
                 have c37b0 : (a0_1 == 2) = true := beq_iff_eq.mpr c37
                 have c37b1 : (a0_1 != 2) = false := bne_eq_false_iff_eq.mpr c37
                 clear c37
                 by_cases c38 : a0_3 = 0
                 rw [if_pos c38] at H
                 have c38b0 : (a0_3 == 0) = true := beq_iff_eq.mpr c38
                 have c38b1 : (a0_3 != 0) = false := bne_eq_false_iff_eq.mpr c38
                 clear c38
                 obtain ⟨t117, A39, H⟩ := ob H
                 try dsimp only at H
                 have H' := Aside0.mk H
                 clear H
                 rotate_left
                 rw [if_neg c38] at H
                 have c38b0 : (a0_3 == 0) = false := beq_eq_false_iff_ne.mpr c38
                 have c38b1 : (a0_3 != 0) = true := bne_iff_ne.mpr c38
                 have H' := Aside0.mk H
                 clear H
                 rotate_left
                 rw [if_neg c37] at H
                 have c37b0 : (a0_1 == 2) = false := beq_eq_false_iff_ne.mpr c37
                 have c37b1 : (a0_1 != 2) = true := bne_iff_ne.mpr c37
                 have H' := Aside0.mk H
                 clear H
                 rotate_left
                 ·obtain ⟨hcz40_0, hcz40_1, hcz40_2, hcz40_3, hcz40_4, hfz40_0, hfz40_1, hfz40_2, hfz40_3, hfz40_4⟩ := bz5 BK116
                  go_wp2_with (first | (go_at_call 54; (with_reducible refine (impl_within.calls _ _ _ _ _ A39.out).mono ?_); rintro e w' ⟨rfl, ⟨nd, rfl⟩⟩))
                  go_meet
                  case rel => exact ⟨_, (t117), (by first | rfl | (simp; done) | (simp [*]; done)), H', ⟨by have := HJ1.out; have := HJ8.out; have := HJ15.out; have := HJ20.out; have := HJ29.out; first | omega | exact Nat.le_refl _⟩, ⟨bkp BK116⟩, ⟨bbw1 HB GE116⟩⟩
                 obtain ⟨hcz41_0, hcz41_1, hcz41_2, hcz41_3, hcz41_4, hfz41_0, hfz41_1, hfz41_2, hfz41_3, hfz41_4⟩ := bz5 BK116
                 rotate_left
                 obtain ⟨hcz42_0, hcz42_1, hcz42_2, hcz42_3, hcz42_4, hfz42_0, hfz42_1, hfz42_2, hfz42_3, hfz42_4⟩ := bz5 BK116
                 rotate_left
                 all_goals
                  go_wp2
                  go_meet
                  case rel => exact ⟨_, (false), (by first | rfl | (simp; done) | (simp [*]; done)), H', ⟨by have := HJ1.out; have := HJ8.out; have := HJ15.out; have := HJ20.out; have := HJ29.out; first | omega | exact Nat.le_refl _⟩, ⟨bkp BK116⟩, ⟨bbw1 HB GE116⟩⟩
                ·rw [if_neg c36] at H
                 have c36b0 : (a0_0 == 2) = false := beq_eq_false_iff_ne.mpr c36
                 have c36b1 : (a0_0 != 2) = true := bne_iff_ne.mpr c36
                 (first | rw [c36b0] | (simp only [i64_w, i32_w]; rw [c36b0]) | skip)
                 have H' := Aside0.mk H
                 clear H
                 obtain ⟨hcz43_0, hcz43_1, hcz43_2, hcz43_3, hcz43_4, hfz43_0, hfz43_1, hfz43_2, hfz43_3, hfz43_4⟩ := bz5 BK116
                 go_wp2
                 go_meet
                 case rel => exact ⟨_, (false), (by first | rfl | (simp; done) | (simp [*]; done)), H', ⟨by have := HJ1.out; have := HJ8.out; have := HJ15.out; have := HJ20.out; have := HJ29.out; first | omega | exact Nat.le_refl _⟩, ⟨bkp BK116⟩, ⟨bbw1 HB GE116⟩⟩
               case rest => as_aux_lemma =>
                clear HC35
                try clear c1
                try clear c2
                try clear p2
                try clear c3
                try clear c4
                try clear c4b0
                try clear c4b1
                try clear c5
                try clear c5b0
                try clear c5b1
                try clear c10
                try clear c10b0
                try clear c10b1
                try clear c11
                try clear c11b0
                try clear c11b1
                try clear c15
                try clear c17
                try clear c17b0
                try clear c17b1
                try clear c20
                try clear c22
                try clear c22b0
                try clear c22b1
                try clear c23
                try clear c23b0
                try clear c23b1
                try clear c24
                try clear c24b0
                try clear c24b1
                try clear c29
                try clear c31
                try clear c31b0
                try clear c31b1
                try clear c34
                try clear c36
                try clear c36b0
                try clear c36b1
                try clear c37
                try clear c37b0
                try clear c37b1
                try clear c38
                try clear c38b0
                try clear c38b1
                try clear hcz12_0
                try clear hcz12_1
                try clear hcz12_2
                try clear hcz12_3
                try clear hcz12_4
                try clear hcz13_0
                try clear hcz13_1
                try clear hcz13_2
                try clear hcz13_3
                try clear hcz13_4
                try clear hcz14_0
                try clear hcz14_1
                try clear hcz14_2
                try clear hcz14_3
                try clear hcz14_4
                try clear hcz18_0
                try clear hcz18_1
                try clear hcz18_2
                try clear hcz18_3
                try clear hcz18_4
                try clear hcz19_0
                try clear hcz19_1
                try clear hcz19_2
                try clear hcz19_3
                try clear hcz19_4
                try clear hcz25_0
                try clear hcz25_1
                try clear hcz25_2
                try clear hcz25_3
                try clear hcz25_4
                try clear hcz26_0
                try clear hcz26_1
                try clear hcz26_2
                try clear hcz26_3
                try clear hcz26_4
                try clear hcz27_0
                try clear hcz27_1
                try clear hcz27_2
                try clear hcz27_3
                try clear hcz27_4
                try clear hcz28_0
                try clear hcz28_1
                try clear hcz28_2
                try clear hcz28_3
                try clear hcz28_4
                try clear hcz32_0
                try clear hcz32_1
                try clear hcz32_2
                try clear hcz32_3
                try clear hcz32_4
                try clear hcz33_0
                try clear hcz33_1
                try clear hcz33_2
                try clear hcz33_3
                try clear hcz33_4
                try clear hcz40_0
                try clear hcz40_1
                try clear hcz40_2
                try clear hcz40_3
                try clear hcz40_4
                try clear hcz41_0
                try clear hcz41_1
                try clear hcz41_2
                try clear hcz41_3
                try clear hcz41_4
                try clear hcz42_0
                try clear hcz42_1
                try clear hcz42_2
                try clear hcz42_3
                try clear hcz42_4
                try clear hcz43_0
                try clear hcz43_1
                try clear hcz43_2
                try clear hcz43_3
                try clear hcz43_4
                try clear hcz6_0
                try clear hcz6_1
                try clear hcz6_2
                try clear hcz6_3
                try clear hcz6_4
                try clear hcz7_0
                try clear hcz7_1
                try clear hcz7_2
                try clear hcz7_3
                try clear hcz7_4
                try clear hcz8_0
                try clear hcz8_1
                try clear hcz8_2
                try clear hcz8_3
                try clear hcz8_4
                try clear hfz12_0
                try clear hfz12_1
                try clear hfz12_2
                try clear hfz12_3
                try clear hfz12_4
                try clear hfz13_0
                try clear hfz13_1
                try clear hfz13_2
                try clear hfz13_3
                try clear hfz13_4
                try clear hfz14_0
                try clear hfz14_1
                try clear hfz14_2
                try clear hfz14_3
                try clear hfz14_4
                try clear hfz18_0
                try clear hfz18_1
                try clear hfz18_2
                try clear hfz18_3
                try clear hfz18_4
                try clear hfz19_0
                try clear hfz19_1
                try clear hfz19_2
                try clear hfz19_3
                try clear hfz19_4
                try clear hfz25_0
                try clear hfz25_1
                try clear hfz25_2
                try clear hfz25_3
                try clear hfz25_4
                try clear hfz26_0
                try clear hfz26_1
                try clear hfz26_2
                try clear hfz26_3
                try clear hfz26_4
                try clear hfz27_0
                try clear hfz27_1
                try clear hfz27_2
                try clear hfz27_3
                try clear hfz27_4
                try clear hfz28_0
                try clear hfz28_1
                try clear hfz28_2
                try clear hfz28_3
                try clear hfz28_4
                try clear hfz32_0
                try clear hfz32_1
                try clear hfz32_2
                try clear hfz32_3
                try clear hfz32_4
                try clear hfz33_0
                try clear hfz33_1
                try clear hfz33_2
                try clear hfz33_3
                try clear hfz33_4
                try clear hfz40_0
                try clear hfz40_1
                try clear hfz40_2
                try clear hfz40_3
                try clear hfz40_4
                try clear hfz41_0
                try clear hfz41_1
                try clear hfz41_2
                try clear hfz41_3
                try clear hfz41_4
                try clear hfz42_0
                try clear hfz42_1
                try clear hfz42_2
                try clear hfz42_3
                try clear hfz42_4
                try clear hfz43_0
                try clear hfz43_1
                try clear hfz43_2
                try clear hfz43_3
                try clear hfz43_4
                try clear hfz6_0
                try clear hfz6_1
                try clear hfz6_2
                try clear hfz6_3
                try clear hfz6_4
                try clear hfz7_0
                try clear hfz7_1
                try clear hfz7_2
                try clear hfz7_3
                try clear hfz7_4
                try clear hfz8_0
                try clear hfz8_1
                try clear hfz8_2
                try clear hfz8_3
                try clear hfz8_4
                try clear p2
                obtain ⟨kq, x70_34, rfl, HA, HJ34, BK116, HB⟩ := hcut
                cases kq with
                | zero => exact absurd HA.out (by simp [impl_nameWithMirrors.j5])
                | succ kj34 =>
                 have H := HA.out
                 clear HA
                 simp only [impl_nameWithMirrors.j5] at H
                 by_cases c44 : x70_34 = true
                 ·subst c44
                  replace H := ifT H
                  obtain ⟨y118, hy118⟩ : ∃ y_ : List ByteArray, y_ = (([(⟨#[112, 103, 103]⟩ : ByteArray), (⟨#[112, 109, 103]⟩ : ByteArray), (⟨#[112, 109, 109]⟩ : ByteArray)] : List ByteArray)) := ⟨_, rfl⟩
                  replace H : (if 0 ≤ a0_2 then (if a0_2 < (y118.length : Int) then (some (rdOf ByteArray.empty y118 a0_2)) else (none)) else (none)) = some r := by first | (rw [hy118]; with_reducible exact H) | (have H2_ := (Option.bind_some _ _).symm.trans H; rw [hy118]; with_reducible exact H2_) | (have H2_ := (Option.bind_some _ _).symm.trans H; with_reducible exact H2_) | with_reducible exact H | (rw [hy118]; exact H) | exact H
                  have Ny118 := Aside0.mk hy118
                  clear hy118
                  by_cases c45 : 0 ≤ a0_2
                  ·rw [if_pos c45] at H
                   have c45b0 := decide_eq_true c45
                   clear c45
                   by_cases c46 : a0_2 < (y118.length : Int)
                   ·rw [if_pos c46] at H
                    have c46b0 := decide_eq_true c46
                    clear c46
                    obtain rfl := Option.some.inj H
                    have hI_ : a0_2 = 0 ∨ a0_2 = 1 ∨ a0_2 = 2 := by have h1 := of_decide_eq_true c45b0; have h2 := of_decide_eq_true c46b0; rw [Ny118.out] at h2; simp at h2; omega
                    clear c45b0 c46b0
                    rcases hI_ with rfl | rfl | rfl
                    ·have hcz49_0 : wc.cell? ⟨gb116, 0, none⟩ = some (.int .i64 a0_0) := bcl BK116 0
                     have hcz49_1 : wc.cell? ⟨gb116, 1, none⟩ = some (.int .i64 a0_1) := bcl BK116 1
                     have hcz49_2 : wc.cell? ⟨gb116, 2, none⟩ = some (.int .i64 0) := bcl BK116 2
                     have hcz49_3 : wc.cell? ⟨gb116, 3, none⟩ = some (.int .i64 a0_3) := bcl BK116 3
                     have hcz49_4 : wc.cell? ⟨gb116, 4, none⟩ = some (.bool a0_4) := bcl BK116 4
                     have hfz49_0 := blk_frozen BK116.out 0
                     have hfz49_1 := blk_frozen BK116.out 1
                     have hfz49_2 := blk_frozen BK116.out 2
                     have hfz49_3 := blk_frozen BK116.out 3
                     have hfz49_4 := blk_frozen BK116.out 4
                     go_wp2
                     go_ret
                     exact ⟨by rw [Ny118.out]; first | rfl | (simp [errW_none, errW_some] <;> rfl) | (simp [*, errW_none, errW_some] <;> rfl), bbw1 HB GE116⟩
                    ·have hcz49_0 : wc.cell? ⟨gb116, 0, none⟩ = some (.int .i64 a0_0) := bcl BK116 0
                     have hcz49_1 : wc.cell? ⟨gb116, 1, none⟩ = some (.int .i64 a0_1) := bcl BK116 1
                     have hcz49_2 : wc.cell? ⟨gb116, 2, none⟩ = some (.int .i64 1) := bcl BK116 2
                     have hcz49_3 : wc.cell? ⟨gb116, 3, none⟩ = some (.int .i64 a0_3) := bcl BK116 3
                     have hcz49_4 : wc.cell? ⟨gb116, 4, none⟩ = some (.bool a0_4) := bcl BK116 4
                     have hfz49_0 := blk_frozen BK116.out 0
                     have hfz49_1 := blk_frozen BK116.out 1
                     have hfz49_2 := blk_frozen BK116.out 2
                     have hfz49_3 := blk_frozen BK116.out 3
                     have hfz49_4 := blk_frozen BK116.out 4
                     go_wp2
                     go_ret
                     exact ⟨by rw [Ny118.out]; first | rfl | (simp [errW_none, errW_some] <;> rfl) | (simp [*, errW_none, errW_some] <;> rfl), bbw1 HB GE116⟩
                    ·have hcz49_0 : wc.cell? ⟨gb116, 0, none⟩ = some (.int .i64 a0_0) := bcl BK116 0
                     have hcz49_1 : wc.cell? ⟨gb116, 1, none⟩ = some (.int .i64 a0_1) := bcl BK116 1
                     have hcz49_2 : wc.cell? ⟨gb116, 2, none⟩ = some (.int .i64 2) := bcl BK116 2
                     have hcz49_3 : wc.cell? ⟨gb116, 3, none⟩ = some (.int .i64 a0_3) := bcl BK116 3
                     have hcz49_4 : wc.cell? ⟨gb116, 4, none⟩ = some (.bool a0_4) := bcl BK116 4
                     have hfz49_0 := blk_frozen BK116.out 0
                     have hfz49_1 := blk_frozen BK116.out 1
                     have hfz49_2 := blk_frozen BK116.out 2
                     have hfz49_3 := blk_frozen BK116.out 3
                     have hfz49_4 := blk_frozen BK116.out 4
                     go_wp2
                     go_ret
                     exact ⟨by rw [Ny118.out]; first | rfl | (simp [errW_none, errW_some] <;> rfl) | (simp [*, errW_none, errW_some] <;> rfl), bbw1 HB GE116⟩
                   ·rw [if_neg c46] at H
                    exact absurd H (by simp)
                  ·rw [if_neg c45] at H
                   exact absurd H (by simp)
                 ·replace c44 := Bool.eq_false_iff.mpr c44
                  subst c44
                  replace H := ifF H
                  have HC51 := Aside0.mk H
                  clear H
                  go_upto_region 12 with (fail)
                  go_cut [93] (fun v93 wc => ∃ (kq : Nat) (x93_50 : Bool), v93 = .bool x93_50 ∧ Aside0 (impl_nameWithMirrors.j6 kq x3_1 x93_50 a0_0 a0_1 a0_2 a0_3 a0_4 = some r) ∧ Aside0 (kq ≤ kj34) ∧ Aside0 (wc.heap[gb116]? = some (.cells #[.int .i64 a0_0, .int .i64 a0_1, .int .i64 a0_2, .int .i64 a0_3, .bool a0_4] 26 (0, 0))) ∧ Aside0 (Below w.heap.size w wc))
                  case first => as_aux_lemma =>
                   have H := HC51.out
                   clear HC51
                   by_cases c52 : a0_0 = 4
                   ·rw [if_pos c52] at H
                    have c52b0 : (a0_0 == 4) = true := beq_iff_eq.mpr c52
                    have c52b1 : (a0_0 != 4) = false := bne_eq_false_iff_eq.mpr c52
                    clear c52
                    (first | rw [c52b0] | (simp only [i64_w, i32_w]; rw [c52b0]) | skip)
                    by_cases c53 : a0_1 = 4
                    rw [if_pos c53] at H
                    have c53b0 : (a0_1 == 4) = true := beq_iff_eq.mpr c53
                    have c53b1 : (a0_1 != 4) = false := bne_eq_false_iff_eq.mpr c53
                    clear c53
                    by_cases c54 : a0_3 = 2
                    rw [if_pos c54] at H
                    have c54b0 : (a0_3 == 2) = true := beq_iff_eq.mpr c54
                    have c54b1 : (a0_3 != 2) = false := bne_eq_false_iff_eq.mpr c54
                    clear c54
                    have H' := Aside0.mk H
                    clear H
                    rotate_left
                    rw [if_neg c54] at H
                    have c54b0 : (a0_3 == 2) = false := beq_eq_false_iff_ne.mpr c54
                    have c54b1 : (a0_3 != 2) = true := bne_iff_ne.mpr c54
                    have H' := Aside0.mk H
                    clear H
                    rotate_left
                    rw [if_neg c53] at H
                    have c53b0 : (a0_1 == 4) = false := beq_eq_false_iff_ne.mpr c53
                    have c53b1 : (a0_1 != 4) = true := bne_iff_ne.mpr c53
                    have H' := Aside0.mk H
                    clear H
                    rotate_left
                    ·obtain ⟨hcz55_0, hcz55_1, hcz55_2, hcz55_3, hcz55_4, hfz55_0, hfz55_1, hfz55_2, hfz55_3, hfz55_4⟩ := bz5 BK116
                     go_wp2
                     go_meet
                     case rel => exact ⟨_, ((a0_2 == 4)), (by first | rfl | (simp; done) | (simp [*]; done)), H', ⟨by have := HJ1.out; have := HJ8.out; have := HJ15.out; have := HJ20.out; have := HJ29.out; have := HJ34.out; first | omega | exact Nat.le_refl _⟩, ⟨bkp BK116⟩, ⟨bbw1 HB GE116⟩⟩
                    obtain ⟨hcz56_0, hcz56_1, hcz56_2, hcz56_3, hcz56_4, hfz56_0, hfz56_1, hfz56_2, hfz56_3, hfz56_4⟩ := bz5 BK116
                    rotate_left
                    obtain ⟨hcz57_0, hcz57_1, hcz57_2, hcz57_3, hcz57_4, hfz57_0, hfz57_1, hfz57_2, hfz57_3, hfz57_4⟩ := bz5 BK116
                    rotate_left
                    all_goals
                     go_wp2
                     go_meet
                     case rel => exact ⟨_, (false), (by first | rfl | (simp; done) | (simp [*]; done)), H', ⟨by have := HJ1.out; have := HJ8.out; have := HJ15.out; have := HJ20.out; have := HJ29.out; have := HJ34.out; first | omega | exact Nat.le_refl _⟩, ⟨bkp BK116⟩, ⟨bbw1 HB GE116⟩⟩
                   ·rw [if_neg c52] at H
                    have c52b0 : (a0_0 == 4) = false := beq_eq_false_iff_ne.mpr c52
                    have c52b1 : (a0_0 != 4) = true := bne_iff_ne.mpr c52
                    (first | rw [c52b0] | (simp only [i64_w, i32_w]; rw [c52b0]) | skip)
                    have H' := Aside0.mk H
                    clear H
                    obtain ⟨hcz58_0, hcz58_1, hcz58_2, hcz58_3, hcz58_4, hfz58_0, hfz58_1, hfz58_2, hfz58_3, hfz58_4⟩ := bz5 BK116
                    go_wp2
                    go_meet
                    case rel => exact ⟨_, (false), (by first | rfl | (simp; done) | (simp [*]; done)), H', ⟨by have := HJ1.out; have := HJ8.out; have := HJ15.out; have := HJ20.out; have := HJ29.out; have := HJ34.out; first | omega | exact Nat.le_refl _⟩, ⟨bkp BK116⟩, ⟨bbw1 HB GE116⟩⟩
                  case rest => as_aux_lemma =>
                   clear HC51
                   try clear c1
                   try clear p1
                   try clear q1
                   try clear hx1
                   try clear c2
                   try clear p2
                   try clear c3
                   try clear c4
                   try clear c4b0
                   try clear c4b1
                   try clear c5
                   try clear c5b0
                   try clear c5b1
                   try clear c10
                   try clear c10b0
                   try clear c10b1
                   try clear c11
                   try clear c11b0
                   try clear c11b1
                   try clear p12
                   try clear q12
                   try clear hx12
                   try clear c15
                   try clear c17
                   try clear c17b0
                   try clear c17b1
                   try clear c20
                   try clear c22
                   try clear c22b0
                   try clear c22b1
                   try clear c23
                   try clear c23b0
                   try clear c23b1
                   try clear c24
                   try clear c24b0
                   try clear c24b1
                   try clear c29
                   try clear c31
                   try clear c31b0
                   try clear c31b1
                   try clear c34
                   try clear c36
                   try clear c36b0
                   try clear c36b1
                   try clear c37
                   try clear c37b0
                   try clear c37b1
                   try clear c38
                   try clear c38b0
                   try clear c38b1
                   try clear c44
                   try clear c45
                   try clear c45b0
                   try clear c46
                   try clear c46b0
                   try clear c52
                   try clear c52b0
                   try clear c52b1
                   try clear c53
                   try clear c53b0
                   try clear c53b1
                   try clear c54
                   try clear c54b0
                   try clear c54b1
                   try clear hcz12_0
                   try clear hcz12_1
                   try clear hcz12_2
                   try clear hcz12_3
                   try clear hcz12_4
                   try clear hcz13_0
                   try clear hcz13_1
                   try clear hcz13_2
                   try clear hcz13_3
                   try clear hcz13_4
                   try clear hcz14_0
                   try clear hcz14_1
                   try clear hcz14_2
                   try clear hcz14_3
                   try clear hcz14_4
                   try clear hcz18_0
                   try clear hcz18_1
                   try clear hcz18_2
                   try clear hcz18_3
                   try clear hcz18_4
                   try clear hcz19_0
                   try clear hcz19_1
                   try clear hcz19_2
                   try clear hcz19_3
                   try clear hcz19_4
                   try clear hcz25_0
                   try clear hcz25_1
                   try clear hcz25_2
                   try clear hcz25_3
                   try clear hcz25_4
                   try clear hcz26_0
                   try clear hcz26_1
                   try clear hcz26_2
                   try clear hcz26_3
                   try clear hcz26_4
                   try clear hcz27_0
                   try clear hcz27_1
                   try clear hcz27_2
                   try clear hcz27_3
                   try clear hcz27_4
                   try clear hcz28_0
                   try clear hcz28_1
                   try clear hcz28_2
                   try clear hcz28_3
                   try clear hcz28_4
                   try clear hcz32_0
                   try clear hcz32_1
                   try clear hcz32_2
                   try clear hcz32_3
                   try clear hcz32_4
                   try clear hcz33_0
                   try clear hcz33_1
                   try clear hcz33_2
                   try clear hcz33_3
                   try clear hcz33_4
                   try clear hcz40_0
                   try clear hcz40_1
                   try clear hcz40_2
                   try clear hcz40_3
                   try clear hcz40_4
                   try clear hcz41_0
                   try clear hcz41_1
                   try clear hcz41_2
                   try clear hcz41_3
                   try clear hcz41_4
                   try clear hcz42_0
                   try clear hcz42_1
                   try clear hcz42_2
                   try clear hcz42_3
                   try clear hcz42_4
                   try clear hcz43_0
                   try clear hcz43_1
                   try clear hcz43_2
                   try clear hcz43_3
                   try clear hcz43_4
                   try clear hcz49_0
                   try clear hcz49_1
                   try clear hcz49_2
                   try clear hcz49_3
                   try clear hcz49_4
                   try clear hcz55_0
                   try clear hcz55_1
                   try clear hcz55_2
                   try clear hcz55_3
                   try clear hcz55_4
                   try clear hcz56_0
                   try clear hcz56_1
                   try clear hcz56_2
                   try clear hcz56_3
                   try clear hcz56_4
                   try clear hcz57_0
                   try clear hcz57_1
                   try clear hcz57_2
                   try clear hcz57_3
                   try clear hcz57_4
                   try clear hcz58_0
                   try clear hcz58_1
                   try clear hcz58_2
                   try clear hcz58_3
                   try clear hcz58_4
                   try clear hcz6_0
                   try clear hcz6_1
                   try clear hcz6_2
                   try clear hcz6_3
                   try clear hcz6_4
                   try clear hcz7_0
                   try clear hcz7_1
                   try clear hcz7_2
                   try clear hcz7_3
                   try clear hcz7_4
                   try clear hcz8_0
                   try clear hcz8_1
                   try clear hcz8_2
                   try clear hcz8_3
                   try clear hcz8_4
                   try clear hfz12_0
                   try clear hfz12_1
                   try clear hfz12_2
                   try clear hfz12_3
                   try clear hfz12_4
                   try clear hfz13_0
                   try clear hfz13_1
                   try clear hfz13_2
                   try clear hfz13_3
                   try clear hfz13_4
                   try clear hfz14_0
                   try clear hfz14_1
                   try clear hfz14_2
                   try clear hfz14_3
                   try clear hfz14_4
                   try clear hfz18_0
                   try clear hfz18_1
                   try clear hfz18_2
                   try clear hfz18_3
                   try clear hfz18_4
                   try clear hfz19_0
                   try clear hfz19_1
                   try clear hfz19_2
                   try clear hfz19_3
                   try clear hfz19_4
                   try clear hfz25_0
                   try clear hfz25_1
                   try clear hfz25_2
                   try clear hfz25_3
                   try clear hfz25_4
                   try clear hfz26_0
                   try clear hfz26_1
                   try clear hfz26_2
                   try clear hfz26_3
                   try clear hfz26_4
                   try clear hfz27_0
                   try clear hfz27_1
                   try clear hfz27_2
                   try clear hfz27_3
                   try clear hfz27_4
                   try clear hfz28_0
                   try clear hfz28_1
                   try clear hfz28_2
                   try clear hfz28_3
                   try clear hfz28_4
                   try clear hfz32_0
                   try clear hfz32_1
                   try clear hfz32_2
                   try clear hfz32_3
                   try clear hfz32_4
                   try clear hfz33_0
                   try clear hfz33_1
                   try clear hfz33_2
                   try clear hfz33_3
                   try clear hfz33_4
                   try clear hfz40_0
                   try clear hfz40_1
                   try clear hfz40_2
                   try clear hfz40_3
                   try clear hfz40_4
                   try clear hfz41_0
                   try clear hfz41_1
                   try clear hfz41_2
                   try clear hfz41_3
                   try clear hfz41_4
                   try clear hfz42_0
                   try clear hfz42_1
                   try clear hfz42_2
                   try clear hfz42_3
                   try clear hfz42_4
                   try clear hfz43_0
                   try clear hfz43_1
                   try clear hfz43_2
                   try clear hfz43_3
                   try clear hfz43_4
                   try clear hfz49_0
                   try clear hfz49_1
                   try clear hfz49_2
                   try clear hfz49_3
                   try clear hfz49_4
                   try clear hfz55_0
                   try clear hfz55_1
                   try clear hfz55_2
                   try clear hfz55_3
                   try clear hfz55_4
                   try clear hfz56_0
                   try clear hfz56_1
                   try clear hfz56_2
                   try clear hfz56_3
                   try clear hfz56_4
                   try clear hfz57_0
                   try clear hfz57_1
                   try clear hfz57_2
                   try clear hfz57_3
                   try clear hfz57_4
                   try clear hfz58_0
                   try clear hfz58_1
                   try clear hfz58_2
                   try clear hfz58_3
                   try clear hfz58_4
                   try clear hfz6_0
                   try clear hfz6_1
                   try clear hfz6_2
                   try clear hfz6_3
                   try clear hfz6_4
                   try clear hfz7_0
                   try clear hfz7_1
                   try clear hfz7_2
                   try clear hfz7_3
                   try clear hfz7_4
                   try clear hfz8_0
                   try clear hfz8_1
                   try clear hfz8_2
                   try clear hfz8_3
                   try clear hfz8_4
                   try clear hx121_0
                   try clear p121
                   try clear p2
                   try clear q121
                   obtain ⟨kq, x93_50, rfl, HA, HJ50, BK116, HB⟩ := hcut
                   cases kq with
                   | zero => exact absurd HA.out (by simp [impl_nameWithMirrors.j6])
                   | succ kj50 =>
                    have H := HA.out
                    clear HA
                    simp only [impl_nameWithMirrors.j6] at H
                    by_cases c59 : x93_50 = true
                    ·subst c59
                     replace H := ifT H
                     obtain rfl := Option.some.inj H
                     go_wp2
                     go_ret
                     exact er (bbw1 HB GE116)
                    ·replace c59 := Bool.eq_false_iff.mpr c59
                     subst c59
                     replace H := ifF H
                     have HC60 := Aside0.mk H
                     clear H
                     go_upto_region 14 with (fail)
                     go_cut [112] (fun v112 wc => ∃ (kq : Nat) (x112_59 : Bool), v112 = .bool x112_59 ∧ Aside0 (impl_nameWithMirrors.j7 kq x3_1 x112_59 a0_0 a0_1 a0_2 a0_3 a0_4 = some r) ∧ Aside0 (kq ≤ kj50) ∧ Aside0 (wc.heap[gb116]? = some (.cells #[.int .i64 a0_0, .int .i64 a0_1, .int .i64 a0_2, .int .i64 a0_3, .bool a0_4] 26 (0, 0))) ∧ Aside0 (Below w.heap.size w wc))
                     case first => as_aux_lemma =>
                      have H := HC60.out
                      clear HC60
                      by_cases c61 : a0_0 = 4
                      ·rw [if_pos c61] at H
                       have c61b0 : (a0_0 == 4) = true := beq_iff_eq.mpr c61
                       have c61b1 : (a0_0 != 4) = false := bne_eq_false_iff_eq.mpr c61
                       clear c61
                       (first | rw [c61b0] | (simp only [i64_w, i32_w]; rw [c61b0]) | skip)
                       by_cases c62 : a0_1 = 4
                       rw [if_pos c62] at H
                       have c62b0 : (a0_1 == 4) = true := beq_iff_eq.mpr c62
                       have c62b1 : (a0_1 != 4) = false := bne_eq_false_iff_eq.mpr c62
                       clear c62
                       by_cases c63 : a0_3 = 2
                       rw [if_pos c63] at H
                       have c63b0 : (a0_3 == 2) = true := beq_iff_eq.mpr c63
                       have c63b1 : (a0_3 != 2) = false := bne_eq_false_iff_eq.mpr c63
                       clear c63
                       have H' := Aside0.mk H
                       clear H
                       rotate_left
                       rw [if_neg c63] at H
                       have c63b0 : (a0_3 == 2) = false := beq_eq_false_iff_ne.mpr c63
                       have c63b1 : (a0_3 != 2) = true := bne_iff_ne.mpr c63
                       have H' := Aside0.mk H
                       clear H
                       rotate_left
                       rw [if_neg c62] at H
                       have c62b0 : (a0_1 == 4) = false := beq_eq_false_iff_ne.mpr c62
                       have c62b1 : (a0_1 != 4) = true := bne_iff_ne.mpr c62
                       have H' := Aside0.mk H
                       clear H
                       rotate_left
                       ·obtain ⟨hcz64_0, hcz64_1, hcz64_2, hcz64_3, hcz64_4, hfz64_0, hfz64_1, hfz64_2, hfz64_3, hfz64_4⟩ := bz5 BK116
                        go_wp2
                        go_meet
                        case rel => exact ⟨_, ((a0_2 == 2)), (by first | rfl | (simp; done) | (simp [*]; done)), H', ⟨by have := HJ1.out; have := HJ8.out; have := HJ15.out; have := HJ20.out; have := HJ29.out; have := HJ34.out; have := HJ50.out; first | omega | exact Nat.le_refl _⟩, ⟨bkp BK116⟩, ⟨bbw1 HB GE116⟩⟩
                       obtain ⟨hcz65_0, hcz65_1, hcz65_2, hcz65_3, hcz65_4, hfz65_0, hfz65_1, hfz65_2, hfz65_3, hfz65_4⟩ := bz5 BK116
                       rotate_left
                       obtain ⟨hcz66_0, hcz66_1, hcz66_2, hcz66_3, hcz66_4, hfz66_0, hfz66_1, hfz66_2, hfz66_3, hfz66_4⟩ := bz5 BK116
                       rotate_left
                       all_goals
                        go_wp2
                        go_meet
                        case rel => exact ⟨_, (false), (by first | rfl | (simp; done) | (simp [*]; done)), H', ⟨by have := HJ1.out; have := HJ8.out; have := HJ15.out; have := HJ20.out; have := HJ29.out; have := HJ34.out; have := HJ50.out; first | omega | exact Nat.le_refl _⟩, ⟨bkp BK116⟩, ⟨bbw1 HB GE116⟩⟩
                      ·rw [if_neg c61] at H
                       have c61b0 : (a0_0 == 4) = false := beq_eq_false_iff_ne.mpr c61
                       have c61b1 : (a0_0 != 4) = true := bne_iff_ne.mpr c61
                       (first | rw [c61b0] | (simp only [i64_w, i32_w]; rw [c61b0]) | skip)
                       have H' := Aside0.mk H
                       clear H
                       obtain ⟨hcz67_0, hcz67_1, hcz67_2, hcz67_3, hcz67_4, hfz67_0, hfz67_1, hfz67_2, hfz67_3, hfz67_4⟩ := bz5 BK116
                       go_wp2
                       go_meet
                       case rel => exact ⟨_, (false), (by first | rfl | (simp; done) | (simp [*]; done)), H', ⟨by have := HJ1.out; have := HJ8.out; have := HJ15.out; have := HJ20.out; have := HJ29.out; have := HJ34.out; have := HJ50.out; first | omega | exact Nat.le_refl _⟩, ⟨bkp BK116⟩, ⟨bbw1 HB GE116⟩⟩
                     case rest => as_aux_lemma =>
                      clear HC60
                      try clear c1
                      try clear p1
                      try clear q1
                      try clear hx1
                      try clear c2
                      try clear p2
                      try clear c3
                      try clear c4
                      try clear c4b0
                      try clear c4b1
                      try clear c5
                      try clear c5b0
                      try clear c5b1
                      try clear c6
                      try clear c10
                      try clear c10b0
                      try clear c10b1
                      try clear c11
                      try clear c11b0
                      try clear c11b1
                      try clear p12
                      try clear q12
                      try clear hx12
                      try clear c15
                      try clear c17
                      try clear c17b0
                      try clear c17b1
                      try clear c20
                      try clear c22
                      try clear c22b0
                      try clear c22b1
                      try clear c23
                      try clear c23b0
                      try clear c23b1
                      try clear c24
                      try clear c24b0
                      try clear c24b1
                      try clear c29
                      try clear c31
                      try clear c31b0
                      try clear c31b1
                      try clear c34
                      try clear c36
                      try clear c36b0
                      try clear c36b1
                      try clear c37
                      try clear c37b0
                      try clear c37b1
                      try clear c38
                      try clear c38b0
                      try clear c38b1
                      try clear c44
                      try clear c45
                      try clear c45b0
                      try clear c46
                      try clear c46b0
                      try clear c52
                      try clear c52b0
                      try clear c52b1
                      try clear c53
                      try clear c53b0
                      try clear c53b1
                      try clear c54
                      try clear c54b0
                      try clear c54b1
                      try clear c59
                      try clear c61
                      try clear c61b0
                      try clear c61b1
                      try clear c62
                      try clear c62b0
                      try clear c62b1
                      try clear c63
                      try clear c63b0
                      try clear c63b1
                      try clear hcz12_0
                      try clear hcz12_1
                      try clear hcz12_2
                      try clear hcz12_3
                      try clear hcz12_4
                      try clear hcz13_0
                      try clear hcz13_1
                      try clear hcz13_2
                      try clear hcz13_3
                      try clear hcz13_4
                      try clear hcz14_0
                      try clear hcz14_1
                      try clear hcz14_2
                      try clear hcz14_3
                      try clear hcz14_4
                      try clear hcz18_0
                      try clear hcz18_1
                      try clear hcz18_2
                      try clear hcz18_3
                      try clear hcz18_4
                      try clear hcz19_0
                      try clear hcz19_1
                      try clear hcz19_2
                      try clear hcz19_3
                      try clear hcz19_4
                      try clear hcz25_0
                      try clear hcz25_1
                      try clear hcz25_2
                      try clear hcz25_3
                      try clear hcz25_4
                      try clear hcz26_0
                      try clear hcz26_1
                      try clear hcz26_2
                      try clear hcz26_3
                      try clear hcz26_4
                      try clear hcz27_0
                      try clear hcz27_1
                      try clear hcz27_2
                      try clear hcz27_3
                      try clear hcz27_4
                      try clear hcz28_0
                      try clear hcz28_1
                      try clear hcz28_2
                      try clear hcz28_3
                      try clear hcz28_4
                      try clear hcz32_0
                      try clear hcz32_1
                      try clear hcz32_2
                      try clear hcz32_3
                      try clear hcz32_4
                      try clear hcz33_0
                      try clear hcz33_1
                      try clear hcz33_2
                      try clear hcz33_3
                      try clear hcz33_4
                      try clear hcz40_0
                      try clear hcz40_1
                      try clear hcz40_2
                      try clear hcz40_3
                      try clear hcz40_4
                      try clear hcz41_0
                      try clear hcz41_1
                      try clear hcz41_2
                      try clear hcz41_3
                      try clear hcz41_4
                      try clear hcz42_0
                      try clear hcz42_1
                      try clear hcz42_2
                      try clear hcz42_3
                      try clear hcz42_4
                      try clear hcz43_0
                      try clear hcz43_1
                      try clear hcz43_2
                      try clear hcz43_3
                      try clear hcz43_4
                      try clear hcz49_0
                      try clear hcz49_1
                      try clear hcz49_2
                      try clear hcz49_3
                      try clear hcz49_4
                      try clear hcz55_0
                      try clear hcz55_1
                      try clear hcz55_2
                      try clear hcz55_3
                      try clear hcz55_4
                      try clear hcz56_0
                      try clear hcz56_1
                      try clear hcz56_2
                      try clear hcz56_3
                      try clear hcz56_4
                      try clear hcz57_0
                      try clear hcz57_1
                      try clear hcz57_2
                      try clear hcz57_3
                      try clear hcz57_4
                      try clear hcz58_0
                      try clear hcz58_1
                      try clear hcz58_2
                      try clear hcz58_3
                      try clear hcz58_4
                      try clear hcz64_0
                      try clear hcz64_1
                      try clear hcz64_2
                      try clear hcz64_3
                      try clear hcz64_4
                      try clear hcz65_0
                      try clear hcz65_1
                      try clear hcz65_2
                      try clear hcz65_3
                      try clear hcz65_4
                      try clear hcz66_0
                      try clear hcz66_1
                      try clear hcz66_2
                      try clear hcz66_3
                      try clear hcz66_4
                      try clear hcz67_0
                      try clear hcz67_1
                      try clear hcz67_2
                      try clear hcz67_3
                      try clear hcz67_4
                      try clear hcz6_0
                      try clear hcz6_1
                      try clear hcz6_2
                      try clear hcz6_3
                      try clear hcz6_4
                      try clear hcz7_0
                      try clear hcz7_1
                      try clear hcz7_2
                      try clear hcz7_3
                      try clear hcz7_4
                      try clear hcz8_0
                      try clear hcz8_1
                      try clear hcz8_2
                      try clear hcz8_3
                      try clear hcz8_4
                      try clear hfz12_0
                      try clear hfz12_1
                      try clear hfz12_2
                      try clear hfz12_3
                      try clear hfz12_4
                      try clear hfz13_0
                      try clear hfz13_1
                      try clear hfz13_2
                      try clear hfz13_3
                      try clear hfz13_4
                      try clear hfz14_0
                      try clear hfz14_1
                      try clear hfz14_2
                      try clear hfz14_3
                      try clear hfz14_4
                      try clear hfz18_0
                      try clear hfz18_1
                      try clear hfz18_2
                      try clear hfz18_3
                      try clear hfz18_4
                      try clear hfz19_0
                      try clear hfz19_1
                      try clear hfz19_2
                      try clear hfz19_3
                      try clear hfz19_4
                      try clear hfz25_0
                      try clear hfz25_1
                      try clear hfz25_2
                      try clear hfz25_3
                      try clear hfz25_4
                      try clear hfz26_0
                      try clear hfz26_1
                      try clear hfz26_2
                      try clear hfz26_3
                      try clear hfz26_4
                      try clear hfz27_0
                      try clear hfz27_1
                      try clear hfz27_2
                      try clear hfz27_3
                      try clear hfz27_4
                      try clear hfz28_0
                      try clear hfz28_1
                      try clear hfz28_2
                      try clear hfz28_3
                      try clear hfz28_4
                      try clear hfz32_0
                      try clear hfz32_1
                      try clear hfz32_2
                      try clear hfz32_3
                      try clear hfz32_4
                      try clear hfz33_0
                      try clear hfz33_1
                      try clear hfz33_2
                      try clear hfz33_3
                      try clear hfz33_4
                      try clear hfz40_0
                      try clear hfz40_1
                      try clear hfz40_2
                      try clear hfz40_3
                      try clear hfz40_4
                      try clear hfz41_0
                      try clear hfz41_1
                      try clear hfz41_2
                      try clear hfz41_3
                      try clear hfz41_4
                      try clear hfz42_0
                      try clear hfz42_1
                      try clear hfz42_2
                      try clear hfz42_3
                      try clear hfz42_4
                      try clear hfz43_0
                      try clear hfz43_1
                      try clear hfz43_2
                      try clear hfz43_3
                      try clear hfz43_4
                      try clear hfz49_0
                      try clear hfz49_1
                      try clear hfz49_2
                      try clear hfz49_3
                      try clear hfz49_4
                      try clear hfz55_0
                      try clear hfz55_1
                      try clear hfz55_2
                      try clear hfz55_3
                      try clear hfz55_4
                      try clear hfz56_0
                      try clear hfz56_1
                      try clear hfz56_2
                      try clear hfz56_3
                      try clear hfz56_4
                      try clear hfz57_0
                      try clear hfz57_1
                      try clear hfz57_2
                      try clear hfz57_3
                      try clear hfz57_4
                      try clear hfz58_0
                      try clear hfz58_1
                      try clear hfz58_2
                      try clear hfz58_3
                      try clear hfz58_4
                      try clear hfz64_0
                      try clear hfz64_1
                      try clear hfz64_2
                      try clear hfz64_3
                      try clear hfz64_4
                      try clear hfz65_0
                      try clear hfz65_1
                      try clear hfz65_2
                      try clear hfz65_3
                      try clear hfz65_4
                      try clear hfz66_0
                      try clear hfz66_1
                      try clear hfz66_2
                      try clear hfz66_3
                      try clear hfz66_4
                      try clear hfz67_0
                      try clear hfz67_1
                      try clear hfz67_2
                      try clear hfz67_3
                      try clear hfz67_4
                      try clear hfz6_0
                      try clear hfz6_1
                      try clear hfz6_2
                      try clear hfz6_3
                      try clear hfz6_4
                      try clear hfz7_0
                      try clear hfz7_1
                      try clear hfz7_2
                      try clear hfz7_3
                      try clear hfz7_4
                      try clear hfz8_0
                      try clear hfz8_1
                      try clear hfz8_2
                      try clear hfz8_3
                      try clear hfz8_4
                      try clear hx121_0
                      try clear p1
                      try clear p12
                      try clear p121
                      try clear p2
                      try clear q1
                      try clear q12
                      try clear q121
                      obtain ⟨kq, x112_59, rfl, HA, HJ59, BK116, HB⟩ := hcut
                      cases kq with
                      | zero => exact absurd HA.out (by simp [impl_nameWithMirrors.j7])
                      | succ kj59 =>
                       have H := HA.out
                       clear HA
                       simp only [impl_nameWithMirrors.j7] at H
                       by_cases c68 : x112_59 = true
                       ·subst c68
                        replace H := ifT H
                        obtain rfl := Option.some.inj H
                        go_wp2
                        go_ret
                        exact er (bbw1 HB GE116)
                       ·replace c68 := Bool.eq_false_iff.mpr c68
                        subst c68
                        replace H := ifF H
                        have HC69 := Aside0.mk H
                        clear H
                        go_upto_region 16 with (fail)
                        go_cut [131] (fun v131 wc => ∃ (kq : Nat) (x131_68 : Bool), v131 = .bool x131_68 ∧ Aside0 (impl_nameWithMirrors.j8 kq x3_1 x131_68 a0_0 a0_1 a0_2 a0_3 a0_4 = some r) ∧ Aside0 (kq ≤ kj59) ∧ Aside0 (wc.heap[gb116]? = some (.cells #[.int .i64 a0_0, .int .i64 a0_1, .int .i64 a0_2, .int .i64 a0_3, .bool a0_4] 26 (0, 0))) ∧ Aside0 (Below w.heap.size w wc))
                        case first => as_aux_lemma =>
                         have H := HC69.out
                         clear HC69
                         by_cases c70 : a0_0 = 3
                         ·rw [if_pos c70] at H
                          have c70b0 : (a0_0 == 3) = true := beq_iff_eq.mpr c70
                          have c70b1 : (a0_0 != 3) = false := bne_eq_false_iff_eq.mpr c70
                          clear c70
                          (first | rw [c70b0] | (simp only [i64_w, i32_w]; rw [c70b0]) | skip)
                          by_cases c71 : x3_1 = true
                          ·subst c71
                           replace H := ifT H
                           have H' := Aside0.mk H
                           clear H
                           obtain ⟨hcz72_0, hcz72_1, hcz72_2, hcz72_3, hcz72_4, hfz72_0, hfz72_1, hfz72_2, hfz72_3, hfz72_4⟩ := bz5 BK116
                           go_wp2
                           go_meet
                           case rel => exact ⟨_, (a0_4), (by first | rfl | (simp; done) | (simp [*]; done)), H', ⟨by have := HJ1.out; have := HJ8.out; have := HJ15.out; have := HJ20.out; have := HJ29.out; have := HJ34.out; have := HJ50.out; have := HJ59.out; first | omega | exact Nat.le_refl _⟩, ⟨bkp BK116⟩, ⟨bbw1 HB GE116⟩⟩
                          ·replace c71 := Bool.eq_false_iff.mpr c71
                           subst c71
                           replace H := ifF H
                           have H' := Aside0.mk H
                           clear H
                           obtain ⟨hcz73_0, hcz73_1, hcz73_2, hcz73_3, hcz73_4, hfz73_0, hfz73_1, hfz73_2, hfz73_3, hfz73_4⟩ := bz5 BK116
                           go_wp2
                           go_meet
                           case rel => exact ⟨_, (false), (by first | rfl | (simp; done) | (simp [*]; done)), H', ⟨by have := HJ1.out; have := HJ8.out; have := HJ15.out; have := HJ20.out; have := HJ29.out; have := HJ34.out; have := HJ50.out; have := HJ59.out; first | omega | exact Nat.le_refl _⟩, ⟨bkp BK116⟩, ⟨bbw1 HB GE116⟩⟩
                         ·rw [if_neg c70] at H
                          have c70b0 : (a0_0 == 3) = false := beq_eq_false_iff_ne.mpr c70
                          have c70b1 : (a0_0 != 3) = true := bne_iff_ne.mpr c70
                          (first | rw [c70b0] | (simp only [i64_w, i32_w]; rw [c70b0]) | skip)
                          have H' := Aside0.mk H
                          clear H
                          obtain ⟨hcz74_0, hcz74_1, hcz74_2, hcz74_3, hcz74_4, hfz74_0, hfz74_1, hfz74_2, hfz74_3, hfz74_4⟩ := bz5 BK116
                          go_wp2
                          go_meet
                          case rel => exact ⟨_, (false), (by first | rfl | (simp; done) | (simp [*]; done)), H', ⟨by have := HJ1.out; have := HJ8.out; have := HJ15.out; have := HJ20.out; have := HJ29.out; have := HJ34.out; have := HJ50.out; have := HJ59.out; first | omega | exact Nat.le_refl _⟩, ⟨bkp BK116⟩, ⟨bbw1 HB GE116⟩⟩
                        case rest => as_aux_lemma =>
                         clear HC69
                         try clear c1
                         try clear p1
                         try clear q1
                         try clear hx1
                         try clear c2
                         try clear p2
                         try clear c3
                         try clear c4
                         try clear c4b0
                         try clear c4b1
                         try clear c5
                         try clear c5b0
                         try clear c5b1
                         try clear c6
                         try clear c7
                         try clear c10
                         try clear c10b0
                         try clear c10b1
                         try clear c11
                         try clear c11b0
                         try clear c11b1
                         try clear p12
                         try clear q12
                         try clear hx12
                         try clear c15
                         try clear c17
                         try clear c17b0
                         try clear c17b1
                         try clear c20
                         try clear c22
                         try clear c22b0
                         try clear c22b1
                         try clear c23
                         try clear c23b0
                         try clear c23b1
                         try clear c24
                         try clear c24b0
                         try clear c24b1
                         try clear c29
                         try clear c31
                         try clear c31b0
                         try clear c31b1
                         try clear c34
                         try clear c36
                         try clear c36b0
                         try clear c36b1
                         try clear c37
                         try clear c37b0
                         try clear c37b1
                         try clear c38
                         try clear c38b0
                         try clear c38b1
                         try clear c44
                         try clear c45
                         try clear c45b0
                         try clear c46
                         try clear c46b0
                         try clear c52
                         try clear c52b0
                         try clear c52b1
                         try clear c53
                         try clear c53b0
                         try clear c53b1
                         try clear c54
                         try clear c54b0
                         try clear c54b1
                         try clear c59
                         try clear c61
                         try clear c61b0
                         try clear c61b1
                         try clear c62
                         try clear c62b0
                         try clear c62b1
                         try clear c63
                         try clear c63b0
                         try clear c63b1
                         try clear c68
                         try clear c70
                         try clear c70b0
                         try clear c70b1
                         try clear c71
                         try clear hcz12_0
                         try clear hcz12_1
                         try clear hcz12_2
                         try clear hcz12_3
                         try clear hcz12_4
                         try clear hcz13_0
                         try clear hcz13_1
                         try clear hcz13_2
                         try clear hcz13_3
                         try clear hcz13_4
                         try clear hcz14_0
                         try clear hcz14_1
                         try clear hcz14_2
                         try clear hcz14_3
                         try clear hcz14_4
                         try clear hcz18_0
                         try clear hcz18_1
                         try clear hcz18_2
                         try clear hcz18_3
                         try clear hcz18_4
                         try clear hcz19_0
                         try clear hcz19_1
                         try clear hcz19_2
                         try clear hcz19_3
                         try clear hcz19_4
                         try clear hcz25_0
                         try clear hcz25_1
                         try clear hcz25_2
                         try clear hcz25_3
                         try clear hcz25_4
                         try clear hcz26_0
                         try clear hcz26_1
                         try clear hcz26_2
                         try clear hcz26_3
                         try clear hcz26_4
                         try clear hcz27_0
                         try clear hcz27_1
                         try clear hcz27_2
                         try clear hcz27_3
                         try clear hcz27_4
                         try clear hcz28_0
                         try clear hcz28_1
                         try clear hcz28_2
                         try clear hcz28_3
                         try clear hcz28_4
                         try clear hcz32_0
                         try clear hcz32_1
                         try clear hcz32_2
                         try clear hcz32_3
                         try clear hcz32_4
                         try clear hcz33_0
                         try clear hcz33_1
                         try clear hcz33_2
                         try clear hcz33_3
                         try clear hcz33_4
                         try clear hcz40_0
                         try clear hcz40_1
                         try clear hcz40_2
                         try clear hcz40_3
                         try clear hcz40_4
                         try clear hcz41_0
                         try clear hcz41_1
                         try clear hcz41_2
                         try clear hcz41_3
                         try clear hcz41_4
                         try clear hcz42_0
                         try clear hcz42_1
                         try clear hcz42_2
                         try clear hcz42_3
                         try clear hcz42_4
                         try clear hcz43_0
                         try clear hcz43_1
                         try clear hcz43_2
                         try clear hcz43_3
                         try clear hcz43_4
                         try clear hcz49_0
                         try clear hcz49_1
                         try clear hcz49_2
                         try clear hcz49_3
                         try clear hcz49_4
                         try clear hcz55_0
                         try clear hcz55_1
                         try clear hcz55_2
                         try clear hcz55_3
                         try clear hcz55_4
                         try clear hcz56_0
                         try clear hcz56_1
                         try clear hcz56_2
                         try clear hcz56_3
                         try clear hcz56_4
                         try clear hcz57_0
                         try clear hcz57_1
                         try clear hcz57_2
                         try clear hcz57_3
                         try clear hcz57_4
                         try clear hcz58_0
                         try clear hcz58_1
                         try clear hcz58_2
                         try clear hcz58_3
                         try clear hcz58_4
                         try clear hcz64_0
                         try clear hcz64_1
                         try clear hcz64_2
                         try clear hcz64_3
                         try clear hcz64_4
                         try clear hcz65_0
                         try clear hcz65_1
                         try clear hcz65_2
                         try clear hcz65_3
                         try clear hcz65_4
                         try clear hcz66_0
                         try clear hcz66_1
                         try clear hcz66_2
                         try clear hcz66_3
                         try clear hcz66_4
                         try clear hcz67_0
                         try clear hcz67_1
                         try clear hcz67_2
                         try clear hcz67_3
                         try clear hcz67_4
                         try clear hcz6_0
                         try clear hcz6_1
                         try clear hcz6_2
                         try clear hcz6_3
                         try clear hcz6_4
                         try clear hcz72_0
                         try clear hcz72_1
                         try clear hcz72_2
                         try clear hcz72_3
                         try clear hcz72_4
                         try clear hcz73_0
                         try clear hcz73_1
                         try clear hcz73_2
                         try clear hcz73_3
                         try clear hcz73_4
                         try clear hcz74_0
                         try clear hcz74_1
                         try clear hcz74_2
                         try clear hcz74_3
                         try clear hcz74_4
                         try clear hcz7_0
                         try clear hcz7_1
                         try clear hcz7_2
                         try clear hcz7_3
                         try clear hcz7_4
                         try clear hcz8_0
                         try clear hcz8_1
                         try clear hcz8_2
                         try clear hcz8_3
                         try clear hcz8_4
                         try clear hfz12_0
                         try clear hfz12_1
                         try clear hfz12_2
                         try clear hfz12_3
                         try clear hfz12_4
                         try clear hfz13_0
                         try clear hfz13_1
                         try clear hfz13_2
                         try clear hfz13_3
                         try clear hfz13_4
                         try clear hfz14_0
                         try clear hfz14_1
                         try clear hfz14_2
                         try clear hfz14_3
                         try clear hfz14_4
                         try clear hfz18_0
                         try clear hfz18_1
                         try clear hfz18_2
                         try clear hfz18_3
                         try clear hfz18_4
                         try clear hfz19_0
                         try clear hfz19_1
                         try clear hfz19_2
                         try clear hfz19_3
                         try clear hfz19_4
                         try clear hfz25_0
                         try clear hfz25_1
                         try clear hfz25_2
                         try clear hfz25_3
                         try clear hfz25_4
                         try clear hfz26_0
                         try clear hfz26_1
                         try clear hfz26_2
                         try clear hfz26_3
                         try clear hfz26_4
                         try clear hfz27_0
                         try clear hfz27_1
                         try clear hfz27_2
                         try clear hfz27_3
                         try clear hfz27_4
                         try clear hfz28_0
                         try clear hfz28_1
                         try clear hfz28_2
                         try clear hfz28_3
                         try clear hfz28_4
                         try clear hfz32_0
                         try clear hfz32_1
                         try clear hfz32_2
                         try clear hfz32_3
                         try clear hfz32_4
                         try clear hfz33_0
                         try clear hfz33_1
                         try clear hfz33_2
                         try clear hfz33_3
                         try clear hfz33_4
                         try clear hfz40_0
                         try clear hfz40_1
                         try clear hfz40_2
                         try clear hfz40_3
                         try clear hfz40_4
                         try clear hfz41_0
                         try clear hfz41_1
                         try clear hfz41_2
                         try clear hfz41_3
                         try clear hfz41_4
                         try clear hfz42_0
                         try clear hfz42_1
                         try clear hfz42_2
                         try clear hfz42_3
                         try clear hfz42_4
                         try clear hfz43_0
                         try clear hfz43_1
                         try clear hfz43_2
                         try clear hfz43_3
                         try clear hfz43_4
                         try clear hfz49_0
                         try clear hfz49_1
                         try clear hfz49_2
                         try clear hfz49_3
                         try clear hfz49_4
                         try clear hfz55_0
                         try clear hfz55_1
                         try clear hfz55_2
                         try clear hfz55_3
                         try clear hfz55_4
                         try clear hfz56_0
                         try clear hfz56_1
                         try clear hfz56_2
                         try clear hfz56_3
                         try clear hfz56_4
                         try clear hfz57_0
                         try clear hfz57_1
                         try clear hfz57_2
                         try clear hfz57_3
                         try clear hfz57_4
                         try clear hfz58_0
                         try clear hfz58_1
                         try clear hfz58_2
                         try clear hfz58_3
                         try clear hfz58_4
                         try clear hfz64_0
                         try clear hfz64_1
                         try clear hfz64_2
                         try clear hfz64_3
                         try clear hfz64_4
                         try clear hfz65_0
                         try clear hfz65_1
                         try clear hfz65_2
                         try clear hfz65_3
                         try clear hfz65_4
                         try clear hfz66_0
                         try clear hfz66_1
                         try clear hfz66_2
                         try clear hfz66_3
                         try clear hfz66_4
                         try clear hfz67_0
                         try clear hfz67_1
                         try clear hfz67_2
                         try clear hfz67_3
                         try clear hfz67_4
                         try clear hfz6_0
                         try clear hfz6_1
                         try clear hfz6_2
                         try clear hfz6_3
                         try clear hfz6_4
                         try clear hfz72_0
                         try clear hfz72_1
                         try clear hfz72_2
                         try clear hfz72_3
                         try clear hfz72_4
                         try clear hfz73_0
                         try clear hfz73_1
                         try clear hfz73_2
                         try clear hfz73_3
                         try clear hfz73_4
                         try clear hfz74_0
                         try clear hfz74_1
                         try clear hfz74_2
                         try clear hfz74_3
                         try clear hfz74_4
                         try clear hfz7_0
                         try clear hfz7_1
                         try clear hfz7_2
                         try clear hfz7_3
                         try clear hfz7_4
                         try clear hfz8_0
                         try clear hfz8_1
                         try clear hfz8_2
                         try clear hfz8_3
                         try clear hfz8_4
                         try clear hx121_0
                         try clear p1
                         try clear p12
                         try clear p121
                         try clear p2
                         try clear q1
                         try clear q12
                         try clear q121
                         obtain ⟨kq, x131_68, rfl, HA, HJ68, BK116, HB⟩ := hcut
                         cases kq with
                         | zero => exact absurd HA.out (by simp [impl_nameWithMirrors.j8])
                         | succ kj68 =>
                          have H := HA.out
                          clear HA
                          simp only [impl_nameWithMirrors.j8] at H
                          by_cases c75 : x131_68 = true
                          ·subst c75
                           replace H := ifT H
                           obtain rfl := Option.some.inj H
                           go_wp2
                           go_ret
                           exact er (bbw1 HB GE116)
                          ·replace c75 := Bool.eq_false_iff.mpr c75
                           subst c75
                           replace H := ifF H
                           have HC76 := Aside0.mk H
                           clear H
                           go_upto_region 18 with (fail)
                           go_cut [142] (fun v142 wc => ∃ (kq : Nat) (x142_75 : Bool), v142 = .bool x142_75 ∧ Aside0 (impl_nameWithMirrors.j9 kq x3_1 x142_75 a0_0 a0_1 a0_2 a0_3 a0_4 = some r) ∧ Aside0 (kq ≤ kj68) ∧ Aside0 (wc.heap[gb116]? = some (.cells #[.int .i64 a0_0, .int .i64 a0_1, .int .i64 a0_2, .int .i64 a0_3, .bool a0_4] 26 (0, 0))) ∧ Aside0 (Below w.heap.size w wc))
                           case first => as_aux_lemma =>
                            have H := HC76.out
                            clear HC76
                            by_cases c77 : a0_0 = 3
                            ·rw [if_pos c77] at H
                             have c77b0 : (a0_0 == 3) = true := beq_iff_eq.mpr c77
                             have c77b1 : (a0_0 != 3) = false := bne_eq_false_iff_eq.mpr c77
                             clear c77
                             (first | rw [c77b0] | (simp only [i64_w, i32_w]; rw [c77b0]) | skip)
                             have H' := Aside0.mk H
                             clear H
                             obtain ⟨hcz78_0, hcz78_1, hcz78_2, hcz78_3, hcz78_4, hfz78_0, hfz78_1, hfz78_2, hfz78_3, hfz78_4⟩ := bz5 BK116
                             go_wp2
                             go_meet
                             case rel => exact ⟨_, (x3_1), (by first | rfl | (simp; done) | (simp [*]; done)), H', ⟨by have := HJ1.out; have := HJ8.out; have := HJ15.out; have := HJ20.out; have := HJ29.out; have := HJ34.out; have := HJ50.out; have := HJ59.out; have := HJ68.out; first | omega | exact Nat.le_refl _⟩, ⟨bkp BK116⟩, ⟨bbw1 HB GE116⟩⟩
                            ·rw [if_neg c77] at H
                             have c77b0 : (a0_0 == 3) = false := beq_eq_false_iff_ne.mpr c77
                             have c77b1 : (a0_0 != 3) = true := bne_iff_ne.mpr c77
                             (first | rw [c77b0] | (simp only [i64_w, i32_w]; rw [c77b0]) | skip)
                             have H' := Aside0.mk H
                             clear H
                             obtain ⟨hcz79_0, hcz79_1, hcz79_2, hcz79_3, hcz79_4, hfz79_0, hfz79_1, hfz79_2, hfz79_3, hfz79_4⟩ := bz5 BK116
                             go_wp2
                             go_meet
                             case rel => exact ⟨_, (false), (by first | rfl | (simp; done) | (simp [*]; done)), H', ⟨by have := HJ1.out; have := HJ8.out; have := HJ15.out; have := HJ20.out; have := HJ29.out; have := HJ34.out; have := HJ50.out; have := HJ59.out; have := HJ68.out; first | omega | exact Nat.le_refl _⟩, ⟨bkp BK116⟩, ⟨bbw1 HB GE116⟩⟩
                           case rest => as_aux_lemma =>
                            clear HC76
                            try clear c1
                            try clear p1
                            try clear q1
                            try clear hx1
                            try clear c2
                            try clear p2
                            try clear c3
                            try clear c4
                            try clear c4b0
                            try clear c4b1
                            try clear c5
                            try clear c5b0
                            try clear c5b1
                            try clear c6
                            try clear c7
                            try clear c10
                            try clear c10b0
                            try clear c10b1
                            try clear c11
                            try clear c11b0
                            try clear c11b1
                            try clear p12
                            try clear q12
                            try clear hx12
                            try clear c15
                            try clear c17
                            try clear c17b0
                            try clear c17b1
                            try clear c20
                            try clear c22
                            try clear c22b0
                            try clear c22b1
                            try clear c23
                            try clear c23b0
                            try clear c23b1
                            try clear c24
                            try clear c24b0
                            try clear c24b1
                            try clear c29
                            try clear c31
                            try clear c31b0
                            try clear c31b1
                            try clear c34
                            try clear c36
                            try clear c36b0
                            try clear c36b1
                            try clear c37
                            try clear c37b0
                            try clear c37b1
                            try clear c38
                            try clear c38b0
                            try clear c38b1
                            try clear c44
                            try clear c45
                            try clear c45b0
                            try clear c46
                            try clear c46b0
                            try clear c52
                            try clear c52b0
                            try clear c52b1
                            try clear c53
                            try clear c53b0
                            try clear c53b1
                            try clear c54
                            try clear c54b0
                            try clear c54b1
                            try clear c59
                            try clear c61
                            try clear c61b0
                            try clear c61b1
                            try clear c62
                            try clear c62b0
                            try clear c62b1
                            try clear c63
                            try clear c63b0
                            try clear c63b1
                            try clear c68
                            try clear c70
                            try clear c70b0
                            try clear c70b1
                            try clear c71
                            try clear c75
                            try clear c77
                            try clear c77b0
                            try clear c77b1
                            try clear hcz12_0
                            try clear hcz12_1
                            try clear hcz12_2
                            try clear hcz12_3
                            try clear hcz12_4
                            try clear hcz13_0
                            try clear hcz13_1
                            try clear hcz13_2
                            try clear hcz13_3
                            try clear hcz13_4
                            try clear hcz14_0
                            try clear hcz14_1
                            try clear hcz14_2
                            try clear hcz14_3
                            try clear hcz14_4
                            try clear hcz18_0
                            try clear hcz18_1
                            try clear hcz18_2
                            try clear hcz18_3
                            try clear hcz18_4
                            try clear hcz19_0
                            try clear hcz19_1
                            try clear hcz19_2
                            try clear hcz19_3
                            try clear hcz19_4
                            try clear hcz25_0
                            try clear hcz25_1
                            try clear hcz25_2
                            try clear hcz25_3
                            try clear hcz25_4
                            try clear hcz26_0
                            try clear hcz26_1
                            try clear hcz26_2
                            try clear hcz26_3
                            try clear hcz26_4
                            try clear hcz27_0
                            try clear hcz27_1
                            try clear hcz27_2
                            try clear hcz27_3
                            try clear hcz27_4
                            try clear hcz28_0
                            try clear hcz28_1
                            try clear hcz28_2
                            try clear hcz28_3
                            try clear hcz28_4
                            try clear hcz32_0
                            try clear hcz32_1
                            try clear hcz32_2
                            try clear hcz32_3
                            try clear hcz32_4
                            try clear hcz33_0
                            try clear hcz33_1
                            try clear hcz33_2
                            try clear hcz33_3
                            try clear hcz33_4
                            try clear hcz40_0
                            try clear hcz40_1
                            try clear hcz40_2
                            try clear hcz40_3
                            try clear hcz40_4
                            try clear hcz41_0
                            try clear hcz41_1
                            try clear hcz41_2
                            try clear hcz41_3
                            try clear hcz41_4
                            try clear hcz42_0
                            try clear hcz42_1
                            try clear hcz42_2
                            try clear hcz42_3
                            try clear hcz42_4
                            try clear hcz43_0
                            try clear hcz43_1
                            try clear hcz43_2
                            try clear hcz43_3
                            try clear hcz43_4
                            try clear hcz49_0
                            try clear hcz49_1
                            try clear hcz49_2
                            try clear hcz49_3
                            try clear hcz49_4
                            try clear hcz55_0
                            try clear hcz55_1
                            try clear hcz55_2
                            try clear hcz55_3
                            try clear hcz55_4
                            try clear hcz56_0
                            try clear hcz56_1
                            try clear hcz56_2
                            try clear hcz56_3
                            try clear hcz56_4
                            try clear hcz57_0
                            try clear hcz57_1
                            try clear hcz57_2
                            try clear hcz57_3
                            try clear hcz57_4
                            try clear hcz58_0
                            try clear hcz58_1
                            try clear hcz58_2
                            try clear hcz58_3
                            try clear hcz58_4
                            try clear hcz64_0
                            try clear hcz64_1
                            try clear hcz64_2
                            try clear hcz64_3
                            try clear hcz64_4
                            try clear hcz65_0
                            try clear hcz65_1
                            try clear hcz65_2
                            try clear hcz65_3
                            try clear hcz65_4
                            try clear hcz66_0
                            try clear hcz66_1
                            try clear hcz66_2
                            try clear hcz66_3
                            try clear hcz66_4
                            try clear hcz67_0
                            try clear hcz67_1
                            try clear hcz67_2
                            try clear hcz67_3
                            try clear hcz67_4
                            try clear hcz6_0
                            try clear hcz6_1
                            try clear hcz6_2
                            try clear hcz6_3
                            try clear hcz6_4
                            try clear hcz72_0
                            try clear hcz72_1
                            try clear hcz72_2
                            try clear hcz72_3
                            try clear hcz72_4
                            try clear hcz73_0
                            try clear hcz73_1
                            try clear hcz73_2
                            try clear hcz73_3
                            try clear hcz73_4
                            try clear hcz74_0
                            try clear hcz74_1
                            try clear hcz74_2
                            try clear hcz74_3
                            try clear hcz74_4
                            try clear hcz78_0
                            try clear hcz78_1
                            try clear hcz78_2
                            try clear hcz78_3
                            try clear hcz78_4
                            try clear hcz79_0
                            try clear hcz79_1
                            try clear hcz79_2
                            try clear hcz79_3
                            try clear hcz79_4
                            try clear hcz7_0
                            try clear hcz7_1
                            try clear hcz7_2
                            try clear hcz7_3
                            try clear hcz7_4
                            try clear hcz8_0
                            try clear hcz8_1
                            try clear hcz8_2
                            try clear hcz8_3
                            try clear hcz8_4
                            try clear hfz12_0
                            try clear hfz12_1
                            try clear hfz12_2
                            try clear hfz12_3
                            try clear hfz12_4
                            try clear hfz13_0
                            try clear hfz13_1
                            try clear hfz13_2
                            try clear hfz13_3
                            try clear hfz13_4
                            try clear hfz14_0
                            try clear hfz14_1
                            try clear hfz14_2
                            try clear hfz14_3
                            try clear hfz14_4
                            try clear hfz18_0
                            try clear hfz18_1
                            try clear hfz18_2
                            try clear hfz18_3
                            try clear hfz18_4
                            try clear hfz19_0
                            try clear hfz19_1
                            try clear hfz19_2
                            try clear hfz19_3
                            try clear hfz19_4
                            try clear hfz25_0
                            try clear hfz25_1
                            try clear hfz25_2
                            try clear hfz25_3
                            try clear hfz25_4
                            try clear hfz26_0
                            try clear hfz26_1
                            try clear hfz26_2
                            try clear hfz26_3
                            try clear hfz26_4
                            try clear hfz27_0
                            try clear hfz27_1
                            try clear hfz27_2
                            try clear hfz27_3
                            try clear hfz27_4
                            try clear hfz28_0
                            try clear hfz28_1
                            try clear hfz28_2
                            try clear hfz28_3
                            try clear hfz28_4
                            try clear hfz32_0
                            try clear hfz32_1
                            try clear hfz32_2
                            try clear hfz32_3
                            try clear hfz32_4
                            try clear hfz33_0
                            try clear hfz33_1
                            try clear hfz33_2
                            try clear hfz33_3
                            try clear hfz33_4
                            try clear hfz40_0
                            try clear hfz40_1
                            try clear hfz40_2
                            try clear hfz40_3
                            try clear hfz40_4
                            try clear hfz41_0
                            try clear hfz41_1
                            try clear hfz41_2
                            try clear hfz41_3
                            try clear hfz41_4
                            try clear hfz42_0
                            try clear hfz42_1
                            try clear hfz42_2
                            try clear hfz42_3
                            try clear hfz42_4
                            try clear hfz43_0
                            try clear hfz43_1
                            try clear hfz43_2
                            try clear hfz43_3
                            try clear hfz43_4
                            try clear hfz49_0
                            try clear hfz49_1
                            try clear hfz49_2
                            try clear hfz49_3
                            try clear hfz49_4
                            try clear hfz55_0
                            try clear hfz55_1
                            try clear hfz55_2
                            try clear hfz55_3
                            try clear hfz55_4
                            try clear hfz56_0
                            try clear hfz56_1
                            try clear hfz56_2
                            try clear hfz56_3
                            try clear hfz56_4
                            try clear hfz57_0
                            try clear hfz57_1
                            try clear hfz57_2
                            try clear hfz57_3
                            try clear hfz57_4
                            try clear hfz58_0
                            try clear hfz58_1
                            try clear hfz58_2
                            try clear hfz58_3
                            try clear hfz58_4
                            try clear hfz64_0
                            try clear hfz64_1
                            try clear hfz64_2
                            try clear hfz64_3
                            try clear hfz64_4
                            try clear hfz65_0
                            try clear hfz65_1
                            try clear hfz65_2
                            try clear hfz65_3
                            try clear hfz65_4
                            try clear hfz66_0
                            try clear hfz66_1
                            try clear hfz66_2
                            try clear hfz66_3
                            try clear hfz66_4
                            try clear hfz67_0
                            try clear hfz67_1
                            try clear hfz67_2
                            try clear hfz67_3
                            try clear hfz67_4
                            try clear hfz6_0
                            try clear hfz6_1
                            try clear hfz6_2
                            try clear hfz6_3
                            try clear hfz6_4
                            try clear hfz72_0
                            try clear hfz72_1
                            try clear hfz72_2
                            try clear hfz72_3
                            try clear hfz72_4
                            try clear hfz73_0
                            try clear hfz73_1
                            try clear hfz73_2
                            try clear hfz73_3
                            try clear hfz73_4
                            try clear hfz74_0
                            try clear hfz74_1
                            try clear hfz74_2
                            try clear hfz74_3
                            try clear hfz74_4
                            try clear hfz78_0
                            try clear hfz78_1
                            try clear hfz78_2
                            try clear hfz78_3
                            try clear hfz78_4
                            try clear hfz79_0
                            try clear hfz79_1
                            try clear hfz79_2
                            try clear hfz79_3
                            try clear hfz79_4
                            try clear hfz7_0
                            try clear hfz7_1
                            try clear hfz7_2
                            try clear hfz7_3
                            try clear hfz7_4
                            try clear hfz8_0
                            try clear hfz8_1
                            try clear hfz8_2
                            try clear hfz8_3
                            try clear hfz8_4
                            try clear hx121_0
                            try clear p1
                            try clear p12
                            try clear p121
                            try clear p2
                            try clear q1
                            try clear q12
                            try clear q121
                            obtain ⟨kq, x142_75, rfl, HA, HJ75, BK116, HB⟩ := hcut
                            cases kq with
                            | zero => exact absurd HA.out (by simp [impl_nameWithMirrors.j9])
                            | succ kj75 =>
                             have H := HA.out
                             clear HA
                             simp only [impl_nameWithMirrors.j9] at H
                             by_cases c80 : x142_75 = true
                             subst c80
                             replace H := ifT H
                             obtain rfl := Option.some.inj H
                             rotate_left
                             replace c80 := Bool.eq_false_iff.mpr c80
                             subst c80
                             replace H := ifF H
                             by_cases c81 : a0_0 = 6
                             rw [if_pos c81] at H
                             have c81b0 : (a0_0 == 6) = true := beq_iff_eq.mpr c81
                             have c81b1 : (a0_0 != 6) = false := bne_eq_false_iff_eq.mpr c81
                             clear c81
                             by_cases c82 : x3_1 = true
                             subst c82
                             replace H := ifT H
                             obtain rfl := Option.some.inj H
                             rotate_left
                             replace c82 := Bool.eq_false_iff.mpr c82
                             subst c82
                             replace H := ifF H
                             obtain rfl := Option.some.inj H
                             rotate_left
                             rw [if_neg c81] at H
                             have c81b0 : (a0_0 == 6) = false := beq_eq_false_iff_ne.mpr c81
                             have c81b1 : (a0_0 != 6) = true := bne_iff_ne.mpr c81
                             obtain rfl := Option.some.inj H
                             rotate_left
                             ·go_wp2
                              go_ret
                              exact er (bbw1 HB GE116)
                             rotate_left 3
                             all_goals
                              obtain ⟨hcz83_0, hcz83_1, hcz83_2, hcz83_3, hcz83_4, hfz83_0, hfz83_1, hfz83_2, hfz83_3, hfz83_4⟩ := bz5 BK116
                              go_wp2
                              go_ret
                              exact er (bbw1 HB GE116)

end Go.Proofs.YtkjdndikgekidaaDoor.PB
