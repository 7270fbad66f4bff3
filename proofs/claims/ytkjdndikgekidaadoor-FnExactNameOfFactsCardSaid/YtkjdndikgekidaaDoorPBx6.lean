/- Walks written by program: each Go function that the law reaches comes to the plain function beside it. -/
import Derived.Test.YtkjdndikgekidaaDoorPBx0
import Derived.Test.YtkjdndikgekidaaDoorPBx1
import Derived.Test.YtkjdndikgekidaaDoorPBx3
import Derived.Test.YtkjdndikgekidaaDoorPBx4
import Derived.Test.YtkjdndikgekidaaDoorPBx5
namespace Go.Proofs.YtkjdndikgekidaaDoor.PB
open Go.RowKit Go.Proofs.YtkjdndikgekidaaDoorW.PrintWords Go.Proofs.YtkjdndikgekidaaDoorW.PrintLast Go.Proofs.YtkjdndikgekidaaDoorW.PrintMore
attribute [local go_sem] max2_int min2_int max_two min_two max_three min_three max_four min_four   -- for this text's walks alone
set_option linter.unusedVariables false
set_option linter.unusedSimpArgs false

attribute [local go_sem high] eqA26
/-! ### slices_Index_string_string: function 74 -/
def slices_Index_string_string.l0 : Nat → List ByteArray → ByteArray → Int → Int → Option (Int)
 | 0, _, _, _, _ => none
 | k + 1, x0, x1, x7, x8 => if x8 < x7 then (if 0 ≤ x8 then (if x8 < (x0.length : Int) then (if x1.toList = (rdOf ByteArray.empty x0 x8).toList then (some x8) else (slices_Index_string_string.l0 k x0 x1 x7 (wrap64 (x8 + 1)))) else (none)) else (none)) else (some (-1))
def slices_Index_string_string.f (k : Nat) (l0 : List ByteArray) (a1 : ByteArray) : Option (Int) := slices_Index_string_string.l0 k l0 a1 (l0.length : Int) 0
set_option maxHeartbeats 8000000 in
set_option maxRecDepth 100000 in
theorem slices_Index_string_string.calls (k : Nat) (A0 : Option Addr) (c0 : Nat) (l0 : List ByteArray) (a1 : ByteArray) (r : Int) (w : World) (hr0 : Kd.C Kd.string w A0 l0.length l0) (hc0 : l0.length ≤ c0) (h : slices_Index_string_string.f k l0 a1 = some r) :
  Calls Tryd.prog 74 #[.slice A0 l0.length c0, .string a1] w fun e w' => e = .returned (.int .i64 r) ∧ Drawn0 w w' := by
 have HR0 := Aside0.mk hr0
 have HC0 := Aside0.mk hc0
 clear hr0 hc0
 have H : (slices_Index_string_string.l0 k l0 a1 (l0.length : Int) 0) = some r := h
 clear h
 have H' := Aside0.mk H
 clear H
 go_enter Tryd.func74, Tryd.ntmps74
 go_wp2
 go_loopg [8] k (fun kq v8 w' => ∃ (x8_1 : Int), v8 = .int .i64 x8_1 ∧ Aside0 (slices_Index_string_string.l0 kq l0 a1 (l0.length : Int) x8_1 = some r) ∧ Aside0 (kq ≤ k) ∧ Drawn0 w w')
 case atStart => exact ⟨(0), (by first | rfl | (simp; done) | (simp [*]; done)), H', ⟨Nat.le_refl _⟩, by repeat (first | exact Drawn0.refl _ | apply Drawn0.step)⟩
 case round =>
  clear H'
  try clear p2
  obtain ⟨x8_1, rfl, HA, HK1, ⟨m1, rfl⟩⟩ := hrel
  cases gk with
  | zero => exact absurd HA.out (by simp [slices_Index_string_string.l0])
  | succ k1 =>
   have H := HA.out
   clear HA
   simp only [slices_Index_string_string.l0] at H
   by_cases c3 : x8_1 < (l0.length : Int)
   rw [if_pos c3] at H
   have c3b0 := decide_eq_true c3
   clear c3
   by_cases c4 : 0 ≤ x8_1
   rw [if_pos c4] at H
   have c4b0 := decide_eq_true c4
   clear c4
   by_cases c5 : x8_1 < (l0.length : Int)
   rw [if_pos c5] at H
   have c5b0 := decide_eq_true c5
   clear c5
   by_cases c6 : a1.toList = (rdOf ByteArray.empty l0 x8_1).toList
   rw [if_pos c6] at H
   have c6b0 : (a1.toList == (rdOf ByteArray.empty l0 x8_1).toList) = true := beq_iff_eq.mpr c6
   have c6b1 : (a1.toList != (rdOf ByteArray.empty l0 x8_1).toList) = false := bne_eq_false_iff_eq.mpr c6
   clear c6
   obtain rfl := Option.some.inj H
   rotate_left
   rw [if_neg c6] at H
   have c6b0 : (a1.toList == (rdOf ByteArray.empty l0 x8_1).toList) = false := beq_eq_false_iff_ne.mpr c6
   have c6b1 : (a1.toList != (rdOf ByteArray.empty l0 x8_1).toList) = true := bne_iff_ne.mpr c6
   have H' := Aside0.mk H
   clear H
   rotate_left
   ·rw [if_neg c5] at H
    exact absurd H (by simp)
   ·rw [if_neg c4] at H
    exact absurd H (by simp)
   rw [if_neg c3] at H
   have c3b0 := decide_eq_false c3
   clear c3
   obtain rfl := Option.some.inj H
   rotate_left
   rotate_left 2
   ·go_wp2
    go_ret
    exact ⟨by first | rfl | (simp; done) | (simp [*]; done), by repeat (first | exact Drawn0.refl _ | apply Drawn0.step)⟩
   all_goals
    have p123 : 0 ≤ (x8_1 : Int) := od
    have q123 : x8_1 < (l0.length : Int) := od
    obtain ⟨ad123, e123, hx123_0⟩ := Kd.at_string HR0.out x8_1 p123 q123
    cases e123
    replace p123 := eq_true p123
    replace q123 := eq_true q123
    go_wp2
   ·go_ret
    exact ⟨by first | rfl | (simp; done) | (simp [*]; done), by repeat (first | exact Drawn0.refl _ | apply Drawn0.step)⟩
   ·go_roundg k1
    case measure => have := HK1.out; omega
    case rel => exact ⟨(wrap64 (x8_1 + 1)), (by first | rfl | (simp; done) | (simp [*]; done)), H', ⟨by have := HK1.out; omega⟩, by repeat (first | exact Drawn0.refl _ | apply Drawn0.step)⟩
/-! ### slices_Contains_string_string: function 50 -/
def slices_Contains_string_string.f (k : Nat) (l0 : List ByteArray) (a1 : ByteArray) : Option (Bool) := (slices_Index_string_string.f k l0 a1).bind fun t124 => (some (decide (t124 ≥ 0)))
set_option maxHeartbeats 8000000 in
set_option maxRecDepth 100000 in
theorem slices_Contains_string_string.calls (k : Nat) (A0 : Option Addr) (c0 : Nat) (l0 : List ByteArray) (a1 : ByteArray) (r : Bool) (w : World) (hr0 : Kd.C Kd.string w A0 l0.length l0) (hc0 : l0.length ≤ c0) (h : slices_Contains_string_string.f k l0 a1 = some r) :
  Calls Tryd.prog 50 #[.slice A0 l0.length c0, .string a1] w fun e w' => e = .returned (.bool r) ∧ Drawn0 w w' := by
 have HR0 := Aside0.mk hr0
 have HC0 := Aside0.mk hc0
 clear hr0 hc0
 have H : ((slices_Index_string_string.f k l0 a1).bind fun t124 => (some (decide (t124 ≥ 0)))) = some r := h
 clear h
 obtain ⟨t124, A3, H⟩ := ob H
 try dsimp only at H
 obtain rfl := Option.some.inj H
 go_enter Tryd.func50, Tryd.ntmps50
 go_wp2_with (first | ((with_reducible refine gate_callee (f := 74) rfl ?_); refine gl 7 Tryd.func74 #[.slice A0 l0.length c0, .string a1] ?_; (with_reducible refine (slices_Index_string_string.calls _ _ _ _ _ _ _ ?side1 ?side2 A3.out).mono ?_); (case side1 => exact ks HR0.out); (case side2 => exact HC0.out); rintro e w' ⟨rfl, ⟨nd, rfl⟩⟩; refine ⟨_, rfl, ?_⟩))
 go_ret
 exact ⟨by first | rfl | (simp; done) | (simp [*]; done), by repeat (first | exact Drawn0.refl _ | apply Drawn0.step)⟩
/-! ### impl_GroupNames: function 51 -/
def impl_GroupNames.f  : Option (List ByteArray) := some (([(⟨#[112, 49]⟩ : ByteArray), (⟨#[112, 50]⟩ : ByteArray), (⟨#[112, 109]⟩ : ByteArray), (⟨#[112, 103]⟩ : ByteArray), (⟨#[99, 109]⟩ : ByteArray), (⟨#[112, 109, 109]⟩ : ByteArray), (⟨#[112, 109, 103]⟩ : ByteArray), (⟨#[112, 103, 103]⟩ : ByteArray), (⟨#[99, 109, 109]⟩ : ByteArray), (⟨#[112, 52]⟩ : ByteArray), (⟨#[112, 52, 109]⟩ : ByteArray), (⟨#[112, 52, 103]⟩ : ByteArray), (⟨#[112, 51]⟩ : ByteArray), (⟨#[112, 51, 109, 49]⟩ : ByteArray), (⟨#[112, 51, 49, 109]⟩ : ByteArray), (⟨#[112, 54]⟩ : ByteArray), (⟨#[112, 54, 109]⟩ : ByteArray)] : List ByteArray))
set_option maxHeartbeats 8000000 in
set_option maxRecDepth 100000 in
theorem impl_GroupNames.calls  (r : List ByteArray) (w : World) (h : impl_GroupNames.f  = some r) :
  Calls Tryd.prog 51 #[] w fun e w' => ∃ v0_ : Value, e = .returned (v0_) ∧ Kd.R Kd.string 9 w' w.heap.size (fun _ => True) v0_ r ∧ Below w.heap.size w w' := by
 have HB := asd (Below.refl w.heap.size w)
 have H : (some (([(⟨#[112, 49]⟩ : ByteArray), (⟨#[112, 50]⟩ : ByteArray), (⟨#[112, 109]⟩ : ByteArray), (⟨#[112, 103]⟩ : ByteArray), (⟨#[99, 109]⟩ : ByteArray), (⟨#[112, 109, 109]⟩ : ByteArray), (⟨#[112, 109, 103]⟩ : ByteArray), (⟨#[112, 103, 103]⟩ : ByteArray), (⟨#[99, 109, 109]⟩ : ByteArray), (⟨#[112, 52]⟩ : ByteArray), (⟨#[112, 52, 109]⟩ : ByteArray), (⟨#[112, 52, 103]⟩ : ByteArray), (⟨#[112, 51]⟩ : ByteArray), (⟨#[112, 51, 109, 49]⟩ : ByteArray), (⟨#[112, 51, 49, 109]⟩ : ByteArray), (⟨#[112, 54]⟩ : ByteArray), (⟨#[112, 54, 109]⟩ : ByteArray)] : List ByteArray))) = some r := h
 clear h
 obtain ⟨y125, hy125⟩ : ∃ y_ : List ByteArray, y_ = (([(⟨#[112, 49]⟩ : ByteArray), (⟨#[112, 50]⟩ : ByteArray), (⟨#[112, 109]⟩ : ByteArray), (⟨#[112, 103]⟩ : ByteArray), (⟨#[99, 109]⟩ : ByteArray), (⟨#[112, 109, 109]⟩ : ByteArray), (⟨#[112, 109, 103]⟩ : ByteArray), (⟨#[112, 103, 103]⟩ : ByteArray), (⟨#[99, 109, 109]⟩ : ByteArray), (⟨#[112, 52]⟩ : ByteArray), (⟨#[112, 52, 109]⟩ : ByteArray), (⟨#[112, 52, 103]⟩ : ByteArray), (⟨#[112, 51]⟩ : ByteArray), (⟨#[112, 51, 109, 49]⟩ : ByteArray), (⟨#[112, 51, 49, 109]⟩ : ByteArray), (⟨#[112, 54]⟩ : ByteArray), (⟨#[112, 54, 109]⟩ : ByteArray)] : List ByteArray)) := ⟨_, rfl⟩
 replace H : (some y125) = some r := by first | (rw [hy125]; with_reducible exact H) | (have H2_ := (Option.bind_some _ _).symm.trans H; rw [hy125]; with_reducible exact H2_) | (have H2_ := (Option.bind_some _ _).symm.trans H; with_reducible exact H2_) | with_reducible exact H | (rw [hy125]; exact H) | exact H
 have Ny125 := Aside0.mk hy125
 clear hy125
 obtain rfl := Option.some.inj H
 go_enter Tryd.func51, Tryd.ntmps51
 go_wp2_with (first | ((with_reducible refine gd 1 rfl ?_); refine Kd.R_lit Kd.string _ 9 ?hg (N := 1) ?hd (xs := ([(⟨#[112, 49]⟩ : ByteArray), (⟨#[112, 50]⟩ : ByteArray), (⟨#[112, 109]⟩ : ByteArray), (⟨#[112, 103]⟩ : ByteArray), (⟨#[99, 109]⟩ : ByteArray), (⟨#[112, 109, 109]⟩ : ByteArray), (⟨#[112, 109, 103]⟩ : ByteArray), (⟨#[112, 103, 103]⟩ : ByteArray), (⟨#[99, 109, 109]⟩ : ByteArray), (⟨#[112, 52]⟩ : ByteArray), (⟨#[112, 52, 109]⟩ : ByteArray), (⟨#[112, 52, 103]⟩ : ByteArray), (⟨#[112, 51]⟩ : ByteArray), (⟨#[112, 51, 109, 49]⟩ : ByteArray), (⟨#[112, 51, 49, 109]⟩ : ByteArray), (⟨#[112, 54]⟩ : ByteArray), (⟨#[112, 54, 109]⟩ : ByteArray)] : List ByteArray)) (inner := [.string (⟨#[112, 49]⟩ : ByteArray), .string (⟨#[112, 50]⟩ : ByteArray), .string (⟨#[112, 109]⟩ : ByteArray), .string (⟨#[112, 103]⟩ : ByteArray), .string (⟨#[99, 109]⟩ : ByteArray), .string (⟨#[112, 109, 109]⟩ : ByteArray), .string (⟨#[112, 109, 103]⟩ : ByteArray), .string (⟨#[112, 103, 103]⟩ : ByteArray), .string (⟨#[99, 109, 109]⟩ : ByteArray), .string (⟨#[112, 52]⟩ : ByteArray), .string (⟨#[112, 52, 109]⟩ : ByteArray), .string (⟨#[112, 52, 103]⟩ : ByteArray), .string (⟨#[112, 51]⟩ : ByteArray), .string (⟨#[112, 51, 109, 49]⟩ : ByteArray), .string (⟨#[112, 51, 49, 109]⟩ : ByteArray), .string (⟨#[112, 54]⟩ : ByteArray), .string (⟨#[112, 54, 109]⟩ : ByteArray)]) (ok := fun _ => True) (okp := fun _ => True) ?hr ?hp (fun _ hk => hk) trivial (Below.refl _ _) (Nat.le_refl _) (by simp) ?_; (case hd => rfl); (case hg => rfl); (case hr => first | (go_simp; done) | (go_simp; rfl)); (case hp => exact (Reps.one (show Kd.M Kd.string _ _ _ (⟨#[112, 49]⟩ : ByteArray) [.string (⟨#[112, 49]⟩ : ByteArray)] from rfl) (Reps.one (show Kd.M Kd.string _ _ _ (⟨#[112, 50]⟩ : ByteArray) [.string (⟨#[112, 50]⟩ : ByteArray)] from rfl) (Reps.one (show Kd.M Kd.string _ _ _ (⟨#[112, 109]⟩ : ByteArray) [.string (⟨#[112, 109]⟩ : ByteArray)] from rfl) (Reps.one (show Kd.M Kd.string _ _ _ (⟨#[112, 103]⟩ : ByteArray) [.string (⟨#[112, 103]⟩ : ByteArray)] from rfl) (Reps.one (show Kd.M Kd.string _ _ _ (⟨#[99, 109]⟩ : ByteArray) [.string (⟨#[99, 109]⟩ : ByteArray)] from rfl) (Reps.one (show Kd.M Kd.string _ _ _ (⟨#[112, 109, 109]⟩ : ByteArray) [.string (⟨#[112, 109, 109]⟩ : ByteArray)] from rfl) (Reps.one (show Kd.M Kd.string _ _ _ (⟨#[112, 109, 103]⟩ : ByteArray) [.string (⟨#[112, 109, 103]⟩ : ByteArray)] from rfl) (Reps.one (show Kd.M Kd.string _ _ _ (⟨#[112, 103, 103]⟩ : ByteArray) [.string (⟨#[112, 103, 103]⟩ : ByteArray)] from rfl) (Reps.one (show Kd.M Kd.string _ _ _ (⟨#[99, 109, 109]⟩ : ByteArray) [.string (⟨#[99, 109, 109]⟩ : ByteArray)] from rfl) (Reps.one (show Kd.M Kd.string _ _ _ (⟨#[112, 52]⟩ : ByteArray) [.string (⟨#[112, 52]⟩ : ByteArray)] from rfl) (Reps.one (show Kd.M Kd.string _ _ _ (⟨#[112, 52, 109]⟩ : ByteArray) [.string (⟨#[112, 52, 109]⟩ : ByteArray)] from rfl) (Reps.one (show Kd.M Kd.string _ _ _ (⟨#[112, 52, 103]⟩ : ByteArray) [.string (⟨#[112, 52, 103]⟩ : ByteArray)] from rfl) (Reps.one (show Kd.M Kd.string _ _ _ (⟨#[112, 51]⟩ : ByteArray) [.string (⟨#[112, 51]⟩ : ByteArray)] from rfl) (Reps.one (show Kd.M Kd.string _ _ _ (⟨#[112, 51, 109, 49]⟩ : ByteArray) [.string (⟨#[112, 51, 109, 49]⟩ : ByteArray)] from rfl) (Reps.one (show Kd.M Kd.string _ _ _ (⟨#[112, 51, 49, 109]⟩ : ByteArray) [.string (⟨#[112, 51, 49, 109]⟩ : ByteArray)] from rfl) (Reps.one (show Kd.M Kd.string _ _ _ (⟨#[112, 54]⟩ : ByteArray) [.string (⟨#[112, 54]⟩ : ByteArray)] from rfl) (Reps.one (show Kd.M Kd.string _ _ _ (⟨#[112, 54, 109]⟩ : ByteArray) [.string (⟨#[112, 54, 109]⟩ : ByteArray)] from rfl) (Reps.none _ _))))))))))))))))))); intro v126 w1 ho2 hb hg_ hnew_; clear hg_ hnew_; (first | rw [← Ny125.out] at ho2 | (simp only [Int.reduceToNat] at ho2; rw [← Ny125.out] at ho2)); have HO127 := asd (Kd.R_lower ho2 (bsz0 HB)); replace HB := bS0 HB hb; clear hb ho2))
 go_ret
 exact ⟨_, by first | rfl | (simp [errW_none, errW_some] <;> rfl) | (simp [*, errW_none, errW_some] <;> rfl), by (with_reducible repeat (first | apply Kd.R_alloc | apply Kd.R_drewN | apply Kd.R_drew)); exact HO127.out, bbw0 HB⟩
/-! ### impl_nameOfFacts: function 24 -/
def impl_nameOfFacts.f (k : Nat) (a0_0 : Int) (a0_1 : Int) (a0_2 : Int) (a0_3 : Int) (a0_4 : Bool) : Option (ByteArray) := if a0_1 = 0 then ((impl_text.f a0_0).bind fun t130 => (if 1 + t130.size ≤ 9223372036854775807 then (if (!(a0_1 == 0) || (!(a0_2 == 0) || (!(a0_3 == 0) || (a0_4)))) = true then (some (⟨#[]⟩ : ByteArray)) else ((impl_GroupNames.f).bind fun t131 => ((slices_Contains_string_string.f k t131 ((⟨#[112]⟩ : ByteArray) ++ t130)).bind fun t134 => (if t134 = true then (some ((⟨#[112]⟩ : ByteArray) ++ t130)) else (some (⟨#[]⟩ : ByteArray)))))) else (none))) else ((impl_nameWithMirrors.f k a0_0 a0_1 a0_2 a0_3 a0_4).bind fun t129 => (some t129))
set_option maxHeartbeats 8000000 in
set_option maxRecDepth 100000 in
theorem impl_nameOfFacts.calls (k : Nat) (a0_0 : Int) (a0_1 : Int) (a0_2 : Int) (a0_3 : Int) (a0_4 : Bool) (r : ByteArray) (w : World) (htab : strconv_FormatInt.Tab w) (h : impl_nameOfFacts.f k a0_0 a0_1 a0_2 a0_3 a0_4 = some r) :
  Calls Tryd.prog 24 #[.agg #[.int .i64 a0_0, .int .i64 a0_1, .int .i64 a0_2, .int .i64 a0_3, .bool a0_4]] w fun e w' => e = .returned (.string r) ∧ Below w.heap.size w w' := by
 have HTAB := Aside0.mk htab
 clear htab
 have hu26 := Tryd.underlying26
 have HB := asd (Below.refl w.heap.size w)
 have H : (if a0_1 = 0 then ((impl_text.f a0_0).bind fun t130 => (if 1 + t130.size ≤ 9223372036854775807 then (if (!(a0_1 == 0) || (!(a0_2 == 0) || (!(a0_3 == 0) || (a0_4)))) = true then (some (⟨#[]⟩ : ByteArray)) else ((impl_GroupNames.f).bind fun t131 => ((slices_Contains_string_string.f k t131 ((⟨#[112]⟩ : ByteArray) ++ t130)).bind fun t134 => (if t134 = true then (some ((⟨#[112]⟩ : ByteArray) ++ t130)) else (some (⟨#[]⟩ : ByteArray)))))) else (none))) else ((impl_nameWithMirrors.f k a0_0 a0_1 a0_2 a0_3 a0_4).bind fun t129 => (some t129))) = some r := h
 clear h
 by_cases c2 : a0_1 = 0
 ·rw [if_pos c2] at H
  have c2b0 : (a0_1 == 0) = true := beq_iff_eq.mpr c2
  have c2b1 : (a0_1 != 0) = false := bne_eq_false_iff_eq.mpr c2
  clear c2
  obtain ⟨t130, A3, H⟩ := ob H
  try dsimp only at H
  by_cases c4 : 1 + t130.size ≤ 9223372036854775807
  ·rw [if_pos c4] at H
   have c4b0 := eq_true c4
   have c4b1 := decide_eq_true c4
   try have c4b2 : (9223372036854775807 < 1 + t130.size) = False := eq_false (Nat.not_lt.2 c4)
   by_cases c5 : (!(a0_1 == 0) || (!(a0_2 == 0) || (!(a0_3 == 0) || (a0_4)))) = true
   ·rw [if_pos c5] at H
    have c5b0 := c5
    try (have c5b4 := c5b0; simp only [c2b0, Bool.not_true, Bool.not_false, Bool.false_or, Bool.true_or] at c5b4)
    clear c5
    obtain rfl := Option.some.inj H
    go_enter Tryd.func24, Tryd.ntmps24
    go_wp2_with (first | ((with_reducible refine gd 1 rfl ?_); refine bx #[.int .i64 a0_0, .int .i64 a0_1, .int .i64 a0_2, .int .i64 a0_3, .bool a0_4] 26 ?_; intro gb128 hg w6 BK128 hb; have GE128 := ngw0 hg HB; replace HB := bS0 HB hb; clear hb hg; obtain ⟨hcz7_0, hcz7_1, hcz7_2, hcz7_3, hcz7_4, hfz7_0, hfz7_1, hfz7_2, hfz7_3, hfz7_4⟩ := bz5 BK128) | ((with_reducible refine gate_callee (f := 49) rfl ?_); refine gl 11 Tryd.func49 #[.int .i64 a0_0] ?_; (with_reducible refine (impl_text.calls _ _ _ (strconv_FormatInt.tabB HTAB.out (by repeat (first | (with_reducible first | exact HB.out | exact Below.refl _ _ | apply below_alloc | apply pw_below_drewN | apply below_drew1 | refine below_set ?_ GE128.out) | exact HB.out))) A3.out).mono ?_); rintro e w8 ⟨rfl, hb⟩; refine ⟨_, rfl, ?_⟩; replace BK128 := bB BK128 hb; replace HB := bS1 HB GE128 hb; (try clear hb); obtain ⟨hcz9_0, hcz9_1, hcz9_2, hcz9_3, hcz9_4, hfz9_0, hfz9_1, hfz9_2, hfz9_3, hfz9_4⟩ := bz5 BK128))
    go_ret
    exact er (bbw1 HB GE128)
   ·rw [if_neg c5] at H
    have c5b0 : (!(a0_1 == 0) || (!(a0_2 == 0) || (!(a0_3 == 0) || (a0_4)))) = false := by simpa using c5
    try (have c5b4 := c5b0; simp only [c2b0, Bool.not_true, Bool.not_false, Bool.false_or, Bool.true_or] at c5b4)
    clear c5
    obtain ⟨t131, A10, H⟩ := ob H
    try dsimp only at H
    obtain ⟨t134, A11, H⟩ := ob H
    try dsimp only at H
    by_cases c12 : t134 = true
    subst c12
    replace H := ifT H
    obtain rfl := Option.some.inj H
    rotate_left
    replace c12 := Bool.eq_false_iff.mpr c12
    subst c12
    replace H := ifF H
    obtain rfl := Option.some.inj H
    rotate_left
    all_goals
     go_enter Tryd.func24, Tryd.ntmps24
     go_wp2_with (first | ((with_reducible refine gd 1 rfl ?_); refine bx #[.int .i64 a0_0, .int .i64 a0_1, .int .i64 a0_2, .int .i64 a0_3, .bool a0_4] 26 ?_; intro gb128 hg w13 BK128 hb; have GE128 := ngw0 hg HB; replace HB := bS0 HB hb; clear hb hg; obtain ⟨hcz14_0, hcz14_1, hcz14_2, hcz14_3, hcz14_4, hfz14_0, hfz14_1, hfz14_2, hfz14_3, hfz14_4⟩ := bz5 BK128) | ((with_reducible refine gate_callee (f := 49) rfl ?_); refine gl 11 Tryd.func49 #[.int .i64 a0_0] ?_; (with_reducible refine (impl_text.calls _ _ _ (strconv_FormatInt.tabB HTAB.out (by repeat (first | (with_reducible first | exact HB.out | exact Below.refl _ _ | apply below_alloc | apply pw_below_drewN | apply below_drew1 | refine below_set ?_ GE128.out) | exact HB.out))) A3.out).mono ?_); rintro e w15 ⟨rfl, hb⟩; refine ⟨_, rfl, ?_⟩; replace BK128 := bB BK128 hb; replace HB := bS1 HB GE128 hb; (try clear hb); obtain ⟨hcz16_0, hcz16_1, hcz16_2, hcz16_3, hcz16_4, hfz16_0, hfz16_1, hfz16_2, hfz16_3, hfz16_4⟩ := bz5 BK128) | (go_at_call 51; (with_reducible refine (impl_GroupNames.calls _ _ A10.out).mono ?_); rintro e w17 ⟨v132, rfl, ho0, hb⟩; have HO133 := asd (Kd.R_lower ho0 (bsz1 HB GE128)); replace BK128 := bB BK128 hb; replace HB := bS1 HB GE128 hb; (try clear hb); (try clear hb2); (try clear hk); (try clear hi); (try clear ho0); obtain ⟨Ao18, co18, eo18⟩ := Kd.R_slice HO133.out; subst eo18) | (go_at_call 50; (with_reducible refine (slices_Contains_string_string.calls _ _ _ _ _ _ _ ?side1 ?side2 A11.out).mono ?_); (case side1 => exact ks (Kd.R_reads' HO133.out).2.2); (case side2 => exact (Kd.R_reads' HO133.out).2.1); rintro e w' ⟨rfl, ⟨nd, rfl⟩⟩))
     go_ret
     exact er (bbw1 HB GE128)
  ·rw [if_neg c4] at H
   exact absurd H (by simp)
 ·rw [if_neg c2] at H
  have c2b0 : (a0_1 == 0) = false := beq_eq_false_iff_ne.mpr c2
  have c2b1 : (a0_1 != 0) = true := bne_iff_ne.mpr c2
  obtain ⟨t129, A25, H⟩ := ob H
  try dsimp only at H
  obtain rfl := Option.some.inj H
  go_enter Tryd.func24, Tryd.ntmps24
  go_wp2_with (first | ((with_reducible refine gd 1 rfl ?_); refine bx #[.int .i64 a0_0, .int .i64 a0_1, .int .i64 a0_2, .int .i64 a0_3, .bool a0_4] 26 ?_; intro gb128 hg w26 BK128 hb; have GE128 := ngw0 hg HB; replace HB := bS0 HB hb; clear hb hg; obtain ⟨hcz27_0, hcz27_1, hcz27_2, hcz27_3, hcz27_4, hfz27_0, hfz27_1, hfz27_2, hfz27_3, hfz27_4⟩ := bz5 BK128) | ((with_reducible refine gate_callee (f := 48) rfl ?_); refine gl 8 Tryd.func48 #[.agg #[.int .i64 a0_0, .int .i64 a0_1, .int .i64 a0_2, .int .i64 a0_3, .bool a0_4]] ?_; (with_reducible refine (impl_nameWithMirrors.calls _ _ _ _ _ _ _ _ A25.out).mono ?_); rintro e w28 ⟨rfl, hb⟩; refine ⟨_, rfl, ?_⟩; replace BK128 := bB BK128 hb; replace HB := bS1 HB GE128 hb; (try clear hb)))
  go_ret
  exact er (bbw1 HB GE128)
/-! ### impl_NameOfFacts: function 9 -/
def impl_NameOfFacts.f (k : Nat) (a0_0 : Int) (a0_1 : Int) (a0_2 : Int) (a0_3 : Int) (a0_4 : Bool) : Option (ByteArray × Int) := (impl_nameOfFacts.f k a0_0 a0_1 a0_2 a0_3 a0_4).bind fun t136 => (if t136.toList = ([] : List UInt8) then (some ((⟨#[]⟩ : ByteArray), 4)) else (some (t136, 0)))
set_option maxHeartbeats 8000000 in
set_option maxRecDepth 100000 in
theorem impl_NameOfFacts.calls (k : Nat) (a0_0 : Int) (a0_1 : Int) (a0_2 : Int) (a0_3 : Int) (a0_4 : Bool) (r1 : ByteArray) (r2 : Int) (w : World) (htab : strconv_FormatInt.Tab w) (h : impl_NameOfFacts.f k a0_0 a0_1 a0_2 a0_3 a0_4 = some (r1, r2)) :
  Calls Tryd.prog 9 #[.agg #[.int .i64 a0_0, .int .i64 a0_1, .int .i64 a0_2, .int .i64 a0_3, .bool a0_4]] w fun e w' => e = .returned (.tuple #[.string r1, .int .i64 r2]) ∧ Below w.heap.size w w' := by
 have HTAB := Aside0.mk htab
 clear htab
 have hu26 := Tryd.underlying26
 have HB := asd (Below.refl w.heap.size w)
 have H : ((impl_nameOfFacts.f k a0_0 a0_1 a0_2 a0_3 a0_4).bind fun t136 => (if t136.toList = ([] : List UInt8) then (some ((⟨#[]⟩ : ByteArray), 4)) else (some (t136, 0)))) = some (r1, r2) := h
 clear h
 obtain ⟨t136, A2, H⟩ := ob H
 try dsimp only at H
 by_cases c3 : t136.toList = ([] : List UInt8)
 rw [if_pos c3] at H
 have c3b0 : (t136.toList == ([] : List UInt8)) = true := beq_iff_eq.mpr c3
 have c3b1 : (t136.toList != ([] : List UInt8)) = false := bne_eq_false_iff_eq.mpr c3
 clear c3
 rotate_left
 rw [if_neg c3] at H
 have c3b0 : (t136.toList == ([] : List UInt8)) = false := beq_eq_false_iff_ne.mpr c3
 have c3b1 : (t136.toList != ([] : List UInt8)) = true := bne_iff_ne.mpr c3
 rotate_left
 all_goals
  simp only [Option.some.injEq, Prod.mk.injEq] at H
  obtain ⟨rfl, rfl⟩ := H
  go_enter Tryd.func9, Tryd.ntmps9
  go_wp2_with (first | ((with_reducible refine gd 1 rfl ?_); refine bx #[.int .i64 a0_0, .int .i64 a0_1, .int .i64 a0_2, .int .i64 a0_3, .bool a0_4] 26 ?_; intro gb135 hg w4 BK135 hb; have GE135 := ngw0 hg HB; replace HB := bS0 HB hb; clear hb hg; obtain ⟨hcz5_0, hcz5_1, hcz5_2, hcz5_3, hcz5_4, hfz5_0, hfz5_1, hfz5_2, hfz5_3, hfz5_4⟩ := bz5 BK135) | ((with_reducible refine gate_callee (f := 24) rfl ?_); refine gl 6 Tryd.func24 #[.agg #[.int .i64 a0_0, .int .i64 a0_1, .int .i64 a0_2, .int .i64 a0_3, .bool a0_4]] ?_; (with_reducible refine (impl_nameOfFacts.calls _ _ _ _ _ _ _ _ (strconv_FormatInt.tabB HTAB.out (by repeat (first | (with_reducible first | exact HB.out | exact Below.refl _ _ | apply below_alloc | apply pw_below_drewN | apply below_drew1 | refine below_set ?_ GE135.out) | exact HB.out))) A2.out).mono ?_); rintro e w6 ⟨rfl, hb⟩; refine ⟨_, rfl, ?_⟩; replace BK135 := bB BK135 hb; replace HB := bS1 HB GE135 hb; (try clear hb)))
  go_ret2
  exact er (bbw1 HB GE135)
/-! ### laws_FnExactNameOfFacts: function 3 -/
def laws_FnExactNameOfFacts.f (k : Nat) (a0_0 : Int) (a0_1 : Int) (a0_2 : Int) (a0_3 : Int) (a0_4 : Bool) : Option (Bool) := (laws_toFacts.f a0_0 a0_1 a0_2 a0_3 a0_4).bind fun bt138 => ((spec_NameOfFacts.f k bt138.1 bt138.2.1 bt138.2.2.1 bt138.2.2.2.1 bt138.2.2.2.2).bind fun bt143 => ((laws_toFacts.f a0_0 a0_1 a0_2 a0_3 a0_4).bind fun bt145 => ((impl_NameOfFacts.f k bt145.1 bt145.2.1 bt145.2.2.1 bt145.2.2.2.1 bt145.2.2.2.2).bind fun bt150 => (if bt150.1.toList = bt143.1.toList then (if bt150.2 = bt143.2 then (some true) else (some false)) else (some false)))))
set_option maxHeartbeats 8000000 in
set_option maxRecDepth 100000 in
theorem laws_FnExactNameOfFacts.calls (k : Nat) (a0_0 : Int) (a0_1 : Int) (a0_2 : Int) (a0_3 : Int) (a0_4 : Bool) (w : World) (htab : strconv_FormatInt.Tab w) (h : laws_FnExactNameOfFacts.f k a0_0 a0_1 a0_2 a0_3 a0_4 = some true) :
  Calls Tryd.prog 3 #[.agg #[.int .i64 a0_0, .int .i64 a0_1, .int .i64 a0_2, .int .i64 a0_3, .bool a0_4]] w fun e w' => e = .returned (.bool true) ∧ Below w.heap.size w w' := by
 have HTAB := Aside0.mk htab
 clear htab
 have hu23 := Tryd.underlying23
 have HB := asd (Below.refl w.heap.size w)
 have H : ((laws_toFacts.f a0_0 a0_1 a0_2 a0_3 a0_4).bind fun bt138 => ((spec_NameOfFacts.f k bt138.1 bt138.2.1 bt138.2.2.1 bt138.2.2.2.1 bt138.2.2.2.2).bind fun bt143 => ((laws_toFacts.f a0_0 a0_1 a0_2 a0_3 a0_4).bind fun bt145 => ((impl_NameOfFacts.f k bt145.1 bt145.2.1 bt145.2.2.1 bt145.2.2.2.1 bt145.2.2.2.2).bind fun bt150 => (if bt150.1.toList = bt143.1.toList then (if bt150.2 = bt143.2 then (some true) else (some false)) else (some false)))))) = some true := h
 clear h
 obtain ⟨⟨t138, t139, t140, t141, t142⟩, A2, H⟩ := ob H
 try dsimp only at H
 obtain ⟨⟨t143, t144⟩, A3, H⟩ := ob H
 try dsimp only at H
 obtain ⟨⟨t145, t146, t147, t148, t149⟩, A4, H⟩ := ob H
 try dsimp only at H
 obtain ⟨⟨t150, t151⟩, A5, H⟩ := ob H
 try dsimp only at H
 by_cases c6 : t150.toList = t143.toList
 ·rw [if_pos c6] at H
  have c6b0 : (t150.toList == t143.toList) = true := beq_iff_eq.mpr c6
  have c6b1 : (t150.toList != t143.toList) = false := bne_eq_false_iff_eq.mpr c6
  clear c6
  by_cases c7 : t151 = t144
  ·rw [if_pos c7] at H
   have c7b0 : (t151 == t144) = true := beq_iff_eq.mpr c7
   have c7b1 : (t151 != t144) = false := bne_eq_false_iff_eq.mpr c7
   clear c7
   clear H
   go_enter Tryd.func3, Tryd.ntmps3
   go_wp2_with (first | ((with_reducible refine gd 1 rfl ?_); refine bx #[.int .i64 a0_0, .int .i64 a0_1, .int .i64 a0_2, .int .i64 a0_3, .bool a0_4] 23 ?_; intro gb137 hg w8 BK137 hb; have GE137 := ngw0 hg HB; replace HB := bS0 HB hb; clear hb hg; obtain ⟨hcz9_0, hcz9_1, hcz9_2, hcz9_3, hcz9_4, hfz9_0, hfz9_1, hfz9_2, hfz9_3, hfz9_4⟩ := bz5 BK137) | ((with_reducible refine gate_callee (f := 8) rfl ?_); refine gl 9 Tryd.func8 #[.agg #[.int .i64 a0_0, .int .i64 a0_1, .int .i64 a0_2, .int .i64 a0_3, .bool a0_4]] ?_; (with_reducible refine (laws_toFacts.calls _ _ _ _ _ _ _ _ _ _ _ A2.out).mono ?_); rintro e w10 ⟨rfl, hb⟩; refine ⟨_, rfl, ?_⟩; replace BK137 := bB BK137 hb; replace HB := bS1 HB GE137 hb; (try clear hb)) | ((with_reducible refine gate_callee (f := 7) rfl ?_); refine gl 10 Tryd.func7 #[.agg #[.int .i64 t138, .int .i64 t139, .int .i64 t140, .int .i64 t141, .bool t142]] ?_; (with_reducible refine (spec_NameOfFacts.calls _ _ _ _ _ _ _ _ _ A3.out).mono ?_); rintro e w11 ⟨rfl, hb⟩; refine ⟨_, rfl, ?_⟩; replace BK137 := bB BK137 hb; replace HB := bS1 HB GE137 hb; (try clear hb); obtain ⟨hcz12_0, hcz12_1, hcz12_2, hcz12_3, hcz12_4, hfz12_0, hfz12_1, hfz12_2, hfz12_3, hfz12_4⟩ := bz5 BK137) | ((with_reducible refine gate_callee (f := 8) rfl ?_); refine gl 15 Tryd.func8 #[.agg #[.int .i64 a0_0, .int .i64 a0_1, .int .i64 a0_2, .int .i64 a0_3, .bool a0_4]] ?_; (with_reducible refine (laws_toFacts.calls _ _ _ _ _ _ _ _ _ _ _ A4.out).mono ?_); rintro e w13 ⟨rfl, hb⟩; refine ⟨_, rfl, ?_⟩; replace BK137 := bB BK137 hb; replace HB := bS1 HB GE137 hb; (try clear hb)) | ((with_reducible refine gate_callee (f := 9) rfl ?_); refine gl 16 Tryd.func9 #[.agg #[.int .i64 t145, .int .i64 t146, .int .i64 t147, .int .i64 t148, .bool t149]] ?_; (with_reducible refine (impl_NameOfFacts.calls _ _ _ _ _ _ _ _ _ (strconv_FormatInt.tabB HTAB.out (by repeat (first | (with_reducible first | exact HB.out | exact Below.refl _ _ | apply below_alloc | apply pw_below_drewN | apply below_drew1 | refine below_set ?_ GE137.out) | exact HB.out))) A5.out).mono ?_); rintro e w14 ⟨rfl, hb⟩; refine ⟨_, rfl, ?_⟩; replace BK137 := bB BK137 hb; replace HB := bS1 HB GE137 hb; (try clear hb)))
   go_ret
   exact er (bbw1 HB GE137)
  ·rw [if_neg c7] at H
   have c7b0 : (t151 == t144) = false := beq_eq_false_iff_ne.mpr c7
   have c7b1 : (t151 != t144) = true := bne_iff_ne.mpr c7
   exact absurd H (by simp)
 ·rw [if_neg c6] at H
  have c6b0 : (t150.toList == t143.toList) = false := beq_eq_false_iff_ne.mpr c6
  have c6b1 : (t150.toList != t143.toList) = true := bne_iff_ne.mpr c6
  exact absurd H (by simp)

/-- The one plain statement of laws_FnExactNameOfFacts. -/
def laws_FnExactNameOfFacts.Pure : Prop := ∀ (a0_0 : Int) (a0_1 : Int) (a0_2 : Int) (a0_3 : Int) (a0_4 : Bool), (Lit.int .i64 a0_0).wf = true → (Lit.int .i64 a0_1).wf = true → (Lit.int .i64 a0_2).wf = true → (Lit.int .i64 a0_3).wf = true → ∃ k, laws_FnExactNameOfFacts.f k a0_0 a0_1 a0_2 a0_3 a0_4 = some true
end Go.Proofs.YtkjdndikgekidaaDoor.PB
