/- Walks written by program: each Go function that the law reaches comes to the plain function beside it. -/
import Derived.Test.YtcchmdodifkloaaPAx0
import Derived.Test.YtcchmdodifkloaaPAx4
import Derived.Test.YtcchmdodifkloaaPAx5
namespace Go.Proofs.Ytcchmdodifkloaa.PA
open Go.RowKit Go.Proofs.YtcchmdodifkloaaW.PrintWords Go.Proofs.YtcchmdodifkloaaW.PrintLast Go.Proofs.YtcchmdodifkloaaW.PrintMore
attribute [local go_sem] max2_int min2_int max_two min_two max_three min_three max_four min_four   -- for this text's walks alone
set_option linter.unusedVariables false
set_option linter.unusedSimpArgs false

/-! ### spec_l15Inside: function 30 -/
def spec_l15Inside.l0 : Nat → List (S55) → List (S55) → Int → Option (Bool)
 | 0, _, _, _ => none
 | k + 1, x0, x1, x5 => if x5 < (x1.length : Int) then (if 0 ≤ x5 then ((spec_l06Has.f k x0 ((rd_T55 x1 x5).f0.f0) ((rd_T55 x1 x5).f0.f1) ((rd_T55 x1 x5).f0.f2) ((rd_T55 x1 x5).f0.f3) ((rd_T55 x1 x5).f1.f0) ((rd_T55 x1 x5).f1.f1)).bind fun t279 => (if t279 = true then (spec_l15Inside.l0 k x0 x1 (wrap64 (x5 + 1))) else (some false))) else (none)) else (some true)
def spec_l15Inside.f (k : Nat) (l0 : List (S55)) (l1 : List (S55)) : Option (Bool) := spec_l15Inside.l0 k l0 l1 0
set_option maxHeartbeats 8000000 in
set_option maxRecDepth 100000 in
theorem spec_l15Inside.calls (k : Nat) (A0 : Option Addr) (c0 : Nat) (l0 : List (S55)) (A1 : Option Addr) (c1 : Nat) (l1 : List (S55)) (r : Bool) (w : World) (hr0 : Kd.C k55 w A0 l0.length l0) (hc0 : l0.length ≤ c0) (hr1 : Kd.C k55 w A1 l1.length l1) (hc1 : l1.length ≤ c1) (h : spec_l15Inside.f k l0 l1 = some r) :
  Calls Try.prog 30 #[.slice A0 l0.length c0, .slice A1 l1.length c1] w fun e w' => e = .returned (.bool r) ∧ Below w.heap.size w w' := by
 have hu55 := Try.underlying55
 have HR0 := Aside0.mk hr0
 have HC0 := Aside0.mk hc0
 clear hr0 hc0
 have HR1 := Aside0.mk hr1
 have HC1 := Aside0.mk hc1
 clear hr1 hc1
 have HB := asd (Below.refl w.heap.size w)
 have H : (spec_l15Inside.l0 k l0 l1 0) = some r := h
 clear h
 have H' := Aside0.mk H
 clear H
 go_enter Try.func30, Try.ntmps30
 go_wp2
 go_loopg [5] k (fun kq v5 w' => ∃ (x5_1 : Int), v5 = .int .i64 x5_1 ∧ Aside0 (spec_l15Inside.l0 kq l0 l1 x5_1 = some r) ∧ Aside0 (kq ≤ k) ∧ Aside0 (Below w.heap.size w w'))
 case atStart => exact ⟨(0), (by first | rfl | (simp; done) | (simp [*]; done)), H', ⟨Nat.le_refl _⟩, ⟨bbw0 HB⟩⟩
 case round =>
  clear H'
  try clear c1
  try clear p2
  obtain ⟨x5_1, rfl, HA, HK1, HB⟩ := hrel
  cases gk with
  | zero => exact absurd HA.out (by simp [spec_l15Inside.l0])
  | succ k1 =>
   have H := HA.out
   clear HA
   simp only [spec_l15Inside.l0] at H
   by_cases c3 : x5_1 < (l1.length : Int)
   rw [if_pos c3] at H
   have c3b0 := decide_eq_true c3
   clear c3
   by_cases c4 : 0 ≤ x5_1
   rw [if_pos c4] at H
   have c4b0 := decide_eq_true c4
   clear c4
   obtain ⟨t279, A5, H⟩ := ob H
   try dsimp only at H
   by_cases c6 : t279 = true
   subst c6
   replace H := ifT H
   have H' := Aside0.mk H
   clear H
   rotate_left
   replace c6 := Bool.eq_false_iff.mpr c6
   subst c6
   replace H := ifF H
   obtain rfl := Option.some.inj H
   rotate_left
   ·rw [if_neg c4] at H
    exact absurd H (by simp)
   rw [if_neg c3] at H
   have c3b0 := decide_eq_false c3
   clear c3
   obtain rfl := Option.some.inj H
   rotate_left
   rotate_left 2
   ·go_wp2
    go_ret
    exact er (bbw0 HB)
   all_goals
    obtain ⟨p278, q278, ad278, e278, hx278_0, hx278_1, hx278_2, hx278_3, hx278_4, hx278_5⟩ := at_T55x HR1.out HB x5_1
    cases e278
    go_wp2_with (first | ((with_reducible refine gate_callee (f := 45) rfl ?_); refine gl 17 Try.func45 #[.slice A0 l0.length c0, .agg #[.int .i64 ((rd_T55 l1 x5_1).f0.f0), .int .i64 ((rd_T55 l1 x5_1).f0.f1), .int .i64 ((rd_T55 l1 x5_1).f0.f2), .int .i64 ((rd_T55 l1 x5_1).f0.f3), .int .i64 ((rd_T55 l1 x5_1).f1.f0), .int .i64 ((rd_T55 l1 x5_1).f1.f1)]] ?_; (with_reducible refine (spec_l06Has.calls _ _ _ _ _ _ _ _ _ _ _ _ ?side1 ?side2 A5.out).mono ?_); (case side1 => exact ks (Kd.C_below HR0.out HB.out)); (case side2 => exact HC0.out); rintro e w7 ⟨rfl, hb⟩; refine ⟨_, rfl, ?_⟩; replace HB := bS0 HB hb; (try clear hb)))
   ·go_roundg k1
    case measure => have := HK1.out; omega
    case rel => exact ⟨(wrap64 (x5_1 + 1)), (by first | rfl | (simp; done) | (simp [*]; done)), H', ⟨by have := HK1.out; omega⟩, ⟨bbw0 HB⟩⟩
   ·go_ret
    exact er (bbw0 HB)

attribute [local go_sem high] eqA55
/-! ### impl_Motion_78: function 78 -/
def impl_Motion_78.l0 : Nat → List (S55) → Int → Int → Int → Int → Int → Int → Int → Int → Option (Int)
 | 0, _, _, _, _, _, _, _, _, _ => none
 | k + 1, x0, x7, x8, x458000, x458001, x458002, x458003, x458004, x458005 => if x8 < x7 then (if 0 ≤ x8 then (if x8 < (x0.length : Int) then (if ((x458000 == ((rd_T55 x0 x8).f0.f0) && (x458001 == ((rd_T55 x0 x8).f0.f1) && (x458002 == ((rd_T55 x0 x8).f0.f2) && (x458003 == ((rd_T55 x0 x8).f0.f3))))) && ((x458004 == ((rd_T55 x0 x8).f1.f0) && (x458005 == ((rd_T55 x0 x8).f1.f1))))) = true then (some x8) else (impl_Motion_78.l0 k x0 x7 (wrap64 (x8 + 1)) x458000 x458001 x458002 x458003 x458004 x458005)) else (none)) else (none)) else (some (-1))
def impl_Motion_78.f (k : Nat) (l0 : List (S55)) (a1_0 : Int) (a1_1 : Int) (a1_2 : Int) (a1_3 : Int) (a1_4 : Int) (a1_5 : Int) : Option (Int) := impl_Motion_78.l0 k l0 (l0.length : Int) 0 a1_0 a1_1 a1_2 a1_3 a1_4 a1_5
set_option maxHeartbeats 8000000 in
set_option maxRecDepth 100000 in
theorem impl_Motion_78.calls (k : Nat) (A0 : Option Addr) (c0 : Nat) (l0 : List (S55)) (a1_0 : Int) (a1_1 : Int) (a1_2 : Int) (a1_3 : Int) (a1_4 : Int) (a1_5 : Int) (r : Int) (w : World) (hr0 : Kd.C k55 w A0 l0.length l0) (hc0 : l0.length ≤ c0) (h : impl_Motion_78.f k l0 a1_0 a1_1 a1_2 a1_3 a1_4 a1_5 = some r) :
  Calls Try.prog 78 #[.slice A0 l0.length c0, .agg #[.int .i64 a1_0, .int .i64 a1_1, .int .i64 a1_2, .int .i64 a1_3, .int .i64 a1_4, .int .i64 a1_5]] w fun e w' => e = .returned (.int .i64 r) ∧ Below w.heap.size w w' := by
 have hu55 := Try.underlying55
 have HR0 := Aside0.mk hr0
 have HC0 := Aside0.mk hc0
 clear hr0 hc0
 have HB := asd (Below.refl w.heap.size w)
 have H : (impl_Motion_78.l0 k l0 (l0.length : Int) 0 a1_0 a1_1 a1_2 a1_3 a1_4 a1_5) = some r := h
 clear h
 have H' := Aside0.mk H
 clear H
 go_enter Try.func78, Try.ntmps78
 go_wp2_with (first | ((with_reducible refine gd 3 rfl ?_); refine bx #[.int .i64 a1_0, .int .i64 a1_1, .int .i64 a1_2, .int .i64 a1_3, .int .i64 a1_4, .int .i64 a1_5] 55 ?_; intro gb457 hg w3 BK457 hb; have GE457 := ngw0 hg HB; replace HB := bS0 HB hb; clear hb hg))
 repeat (go_quiet (first | ((with_reducible refine gd 3 rfl ?_); refine bx #[.int .i64 a1_0, .int .i64 a1_1, .int .i64 a1_2, .int .i64 a1_3, .int .i64 a1_4, .int .i64 a1_5] 55 ?_; intro gb457 hg w3 BK457 hb; have GE457 := ngw0 hg HB; replace HB := bS0 HB hb; clear hb hg)); try go_wp2_with (first | ((with_reducible refine gd 3 rfl ?_); refine bx #[.int .i64 a1_0, .int .i64 a1_1, .int .i64 a1_2, .int .i64 a1_3, .int .i64 a1_4, .int .i64 a1_5] 55 ?_; intro gb457 hg w3 BK457 hb; have GE457 := ngw0 hg HB; replace HB := bS0 HB hb; clear hb hg)))
 go_loopg [8] k (fun kq v8 w' => ∃ (x8_1 : Int), v8 = .int .i64 x8_1 ∧ Aside0 (impl_Motion_78.l0 kq l0 (l0.length : Int) x8_1 a1_0 a1_1 a1_2 a1_3 a1_4 a1_5 = some r) ∧ Aside0 (kq ≤ k) ∧ Aside0 (w'.heap[gb457]? = some (.cells #[.int .i64 a1_0, .int .i64 a1_1, .int .i64 a1_2, .int .i64 a1_3, .int .i64 a1_4, .int .i64 a1_5] 55 (0, 0))) ∧ Aside0 (Below w.heap.size w w'))
 case atStart => exact ⟨(0), (by first | rfl | (simp; done) | (simp [*]; done)), H', ⟨Nat.le_refl _⟩, ⟨bkp BK457⟩, ⟨bbw1 HB GE457⟩⟩
 case round =>
  clear H'
  try clear p2
  obtain ⟨x8_1, rfl, HA, HK1, BK457, HB⟩ := hrel
  cases gk with
  | zero => exact absurd HA.out (by simp [impl_Motion_78.l0])
  | succ k1 =>
   have H := HA.out
   clear HA
   simp only [impl_Motion_78.l0] at H
   by_cases c4 : x8_1 < (l0.length : Int)
   rw [if_pos c4] at H
   have c4b0 := decide_eq_true c4
   clear c4
   by_cases c5 : 0 ≤ x8_1
   rw [if_pos c5] at H
   have c5b0 := decide_eq_true c5
   clear c5
   by_cases c6 : x8_1 < (l0.length : Int)
   rw [if_pos c6] at H
   have c6b0 := decide_eq_true c6
   clear c6
   by_cases c7 : ((a1_0 == ((rd_T55 l0 x8_1).f0.f0) && (a1_1 == ((rd_T55 l0 x8_1).f0.f1) && (a1_2 == ((rd_T55 l0 x8_1).f0.f2) && (a1_3 == ((rd_T55 l0 x8_1).f0.f3))))) && ((a1_4 == ((rd_T55 l0 x8_1).f1.f0) && (a1_5 == ((rd_T55 l0 x8_1).f1.f1))))) = true
   rw [if_pos c7] at H
   have c7b0 := c7
   clear c7
   obtain rfl := Option.some.inj H
   rotate_left
   rw [if_neg c7] at H
   have c7b0 : ((a1_0 == ((rd_T55 l0 x8_1).f0.f0) && (a1_1 == ((rd_T55 l0 x8_1).f0.f1) && (a1_2 == ((rd_T55 l0 x8_1).f0.f2) && (a1_3 == ((rd_T55 l0 x8_1).f0.f3))))) && ((a1_4 == ((rd_T55 l0 x8_1).f1.f0) && (a1_5 == ((rd_T55 l0 x8_1).f1.f1))))) = false := by simpa using c7
   clear c7
   have H' := Aside0.mk H
   clear H
   rotate_left
   ·rw [if_neg c6] at H
    exact absurd H (by simp)
   ·rw [if_neg c5] at H
    exact absurd H (by simp)
   rw [if_neg c4] at H
   have c4b0 := decide_eq_false c4
   clear c4
   obtain rfl := Option.some.inj H
   rotate_left
   rotate_left 2
   ·go_wp2
    repeat (go_quiet (fail); try go_wp2)
    go_ret
    exact er (bbw1 HB GE457)
   all_goals
    obtain ⟨hcz8_0, hcz8_1, hcz8_2, hcz8_3, hcz8_4, hcz8_5, hfz8_0, hfz8_1, hfz8_2, hfz8_3, hfz8_4, hfz8_5⟩ := bz6 BK457
    obtain ⟨p458, q458, ad458, e458, hx458_0, hx458_1, hx458_2, hx458_3, hx458_4, hx458_5⟩ := at_T55x HR0.out HB x8_1
    cases e458
    go_wp2
    repeat (go_quiet (fail); try go_wp2)
   ·go_ret
    exact er (bbw1 HB GE457)
   ·go_roundg k1
    case measure => have := HK1.out; omega
    case rel => exact ⟨(wrap64 (x8_1 + 1)), (by first | rfl | (simp; done) | (simp [*]; done)), H', ⟨by have := HK1.out; omega⟩, ⟨bkp BK457⟩, ⟨bbw1 HB GE457⟩⟩
/-! ### impl_Motion_49: function 49 -/
def impl_Motion_49.f (k : Nat) (l0 : List (S55)) (a1_0 : Int) (a1_1 : Int) (a1_2 : Int) (a1_3 : Int) (a1_4 : Int) (a1_5 : Int) : Option (Bool) := (impl_Motion_78.f k l0 a1_0 a1_1 a1_2 a1_3 a1_4 a1_5).bind fun t460 => (some (decide (t460 ≥ 0)))
set_option maxHeartbeats 8000000 in
set_option maxRecDepth 100000 in
theorem impl_Motion_49.calls (k : Nat) (A0 : Option Addr) (c0 : Nat) (l0 : List (S55)) (a1_0 : Int) (a1_1 : Int) (a1_2 : Int) (a1_3 : Int) (a1_4 : Int) (a1_5 : Int) (r : Bool) (w : World) (hr0 : Kd.C k55 w A0 l0.length l0) (hc0 : l0.length ≤ c0) (h : impl_Motion_49.f k l0 a1_0 a1_1 a1_2 a1_3 a1_4 a1_5 = some r) :
  Calls Try.prog 49 #[.slice A0 l0.length c0, .agg #[.int .i64 a1_0, .int .i64 a1_1, .int .i64 a1_2, .int .i64 a1_3, .int .i64 a1_4, .int .i64 a1_5]] w fun e w' => e = .returned (.bool r) ∧ Below w.heap.size w w' := by
 have hu55 := Try.underlying55
 have HR0 := Aside0.mk hr0
 have HC0 := Aside0.mk hc0
 clear hr0 hc0
 have HB := asd (Below.refl w.heap.size w)
 have H : ((impl_Motion_78.f k l0 a1_0 a1_1 a1_2 a1_3 a1_4 a1_5).bind fun t460 => (some (decide (t460 ≥ 0)))) = some r := h
 clear h
 obtain ⟨t460, A3, H⟩ := ob H
 try dsimp only at H
 obtain rfl := Option.some.inj H
 go_enter Try.func49, Try.ntmps49
 go_wp2_with (first | ((with_reducible refine gd 3 rfl ?_); refine bx #[.int .i64 a1_0, .int .i64 a1_1, .int .i64 a1_2, .int .i64 a1_3, .int .i64 a1_4, .int .i64 a1_5] 55 ?_; intro gb459 hg w4 BK459 hb; have GE459 := ngw0 hg HB; replace HB := bS0 HB hb; clear hb hg; obtain ⟨hcz5_0, hcz5_1, hcz5_2, hcz5_3, hcz5_4, hcz5_5, hfz5_0, hfz5_1, hfz5_2, hfz5_3, hfz5_4, hfz5_5⟩ := bz6 BK459) | ((with_reducible refine gate_callee (f := 78) rfl ?_); refine gl 7 Try.func78 #[.slice A0 l0.length c0, .agg #[.int .i64 a1_0, .int .i64 a1_1, .int .i64 a1_2, .int .i64 a1_3, .int .i64 a1_4, .int .i64 a1_5]] ?_; (with_reducible refine (impl_Motion_78.calls _ _ _ _ _ _ _ _ _ _ _ _ ?side1 ?side2 A3.out).mono ?_); (case side1 => exact ks (Kd.C_below HR0.out HB.out)); (case side2 => exact HC0.out); rintro e w6 ⟨rfl, hb⟩; refine ⟨_, rfl, ?_⟩; replace BK459 := bB BK459 hb; replace HB := bS1 HB GE459 hb; (try clear hb)))
 go_ret
 exact er (bbw1 HB GE459)
/-! ### impl_Motion_99: function 99 -/
/-- The first index at which p holds, or -1. -/
def impl_Motion_99.f (p : S55 → Bool) (l : List S55) : Int := match l.findIdx? p with | some i => i | none => -1
theorem impl_Motion_99.rd_get (l : List S55) (j : Nat) (h : j < l.length) : rd_T55 l (j : Int) = l[j] := by
 unfold rd_T55; rw [Int.toNat_natCast]; simp [List.getD, h]
theorem impl_Motion_99.hit (p : S55 → Bool) (l : List S55) (x : Int) (h0 : 0 ≤ x) (hx : x < l.length) (h : p (rd_T55 l x) = true) (hb : ∀ j : Nat, (j : Int) < x → p (rd_T55 l (j : Int)) = false) : impl_Motion_99.f p l = x := by
 obtain ⟨k, rfl⟩ := Int.eq_ofNat_of_zero_le h0
 have hk : k < l.length := by omega
 rw [impl_Motion_99.rd_get l k hk] at h
 unfold impl_Motion_99.f
 have : l.findIdx? p = some k := by
  rw [List.findIdx?_eq_some_iff_getElem]
  refine ⟨hk, h, fun j hj => ?_⟩
  have := hb j (by omega)
  rw [impl_Motion_99.rd_get l j (by omega)] at this
  simpa using this
 rw [this]
theorem impl_Motion_99.miss (p : S55 → Bool) (l : List S55) (hb : ∀ j : Nat, (j : Int) < l.length → p (rd_T55 l (j : Int)) = false) : impl_Motion_99.f p l = -1 := by
 unfold impl_Motion_99.f
 have : l.findIdx? p = none := by
  rw [List.findIdx?_eq_none_iff]
  intro x hx
  obtain ⟨j, hj, rfl⟩ := List.getElem_of_mem hx
  have := hb j (by omega)
  rw [impl_Motion_99.rd_get l j hj] at this
  exact this
 rw [this]
set_option maxHeartbeats 2000000 in
theorem impl_Motion_99.calls_some (p : S55 → Bool) (g : Nat) (lb : Array Value) (eg : ∀ args w, (callFunc g args).run Try.prog w = .ok (.enter g args) w) (ad : Addr) (c : Nat) (l : List S55) (w : World) (hr : Kd.C k55 w (some ad) l.length l)
  (hp : ∀ (x : S55) (W : World), Below w.heap.size w W → Calls Try.prog g (#[.agg #[.int .i64 x.f0.f0, .int .i64 x.f0.f1, .int .i64 x.f0.f2, .int .i64 x.f0.f3, .int .i64 x.f1.f0, .int .i64 x.f1.f1]] ++ lb) W fun e w' => e = .returned (.bool (p x)) ∧ Below w.heap.size w w') :
  Calls Try.prog 99 #[.slice (some ad) l.length c, .func (.func g) #[] lb] w fun e w' => e = .returned (.int .i64 (impl_Motion_99.f p l)) ∧ Below w.heap.size w w' := by
 have hu33 := Try.underlying55
 have hu34 := Try.underlying51
 have hu35 := Try.underlying53
 have hbig := Kd.C_max hr
 have HR := Aside0.mk hr
 have HP := Aside0.mk hp
 clear hr hp
 have hbig' : l.length ≤ 9223372036854775807 := hbig
 have HBIG := Aside0.mk hbig'
 clear hbig hbig'
 go_enter Try.func99, Try.ntmps99
 go_wp2
 go_loopg [5, 8] l.length (fun gg _ s8 wr => ∃ x : Int, s8 = .int .i64 x ∧ Aside0 (0 ≤ x ∧ x ≤ l.length ∧ (l.length : Int) - x ≤ gg) ∧ Aside0 (Below w.heap.size w wr) ∧ Aside0 (∀ j : Nat, (j : Int) < x → p (rd_T55 l (j : Int)) = false))
 case atStart => exact ⟨0, rfl, ⟨by omega⟩, ⟨Below.refl _ w⟩, ⟨fun j hj => absurd hj (by omega)⟩⟩
 case round =>
  obtain ⟨x, rfl, HX, BW, AA⟩ := hrel
  by_cases c4 : x < (l.length : Int)
  ·have c4b0 : decide (x < (l.length : Int)) = true := decide_eq_true c4
   have c5b0 : decide (0 ≤ x) = true := decide_eq_true HX.out.1
   have hcall := HP.out (rd_T55 l x) wr BW.out
   obtain ⟨ad', e', hx0, hx1, hx2, hx3, hx4, hx5⟩ := at_T55 HR.out x HX.out.1 c4
   cases e'
   replace hx0 := (BW.out.cell (World.block_lt_of_cell? w _ hx0)).trans hx0
   replace hx1 := (BW.out.cell (World.block_lt_of_cell? w _ hx1)).trans hx1
   replace hx2 := (BW.out.cell (World.block_lt_of_cell? w _ hx2)).trans hx2
   replace hx3 := (BW.out.cell (World.block_lt_of_cell? w _ hx3)).trans hx3
   replace hx4 := (BW.out.cell (World.block_lt_of_cell? w _ hx4)).trans hx4
   replace hx5 := (BW.out.cell (World.block_lt_of_cell? w _ hx5)).trans hx5
   have C4 := Aside0.mk c4
   clear c4
   generalize hy : rd_T55 l x = y at hcall hx0 hx1 hx2 hx3 hx4 hx5
   have HY := Aside0.mk hy
   clear hy
   have p5 : 0 ≤ x := HX.out.1
   have p215 := eq_true p5
   have q215 : (x < (l.length : Int)) = True := eq_true C4.out
   clear p5
   cases hq : p y with
   | true =>
    rw [hq] at hcall
    have HQ := Aside0.mk hq
    clear hq
    go_wp2_with (go_at_fn g; refine hcall.mono ?_; rintro e w' ⟨rfl, hb'⟩)
    go_ret
    refine ⟨?_, hb'⟩
    rw [impl_Motion_99.hit p l x HX.out.1 C4.out (by rw [HY.out]; exact HQ.out) AA.out]
    rfl
   | false =>
    rw [hq] at hcall
    have HQ := Aside0.mk hq
    clear hq
    go_wp2_with (go_at_fn g; refine hcall.mono ?_; rintro e w' ⟨rfl, hb'⟩)
    have hw : wrap64 (x + 1) = x + 1 := by
     have h1 := HX.out; have h2 := HBIG.out; have h3 := C4.out
     unfold wrap64; omega
    go_roundg ((l.length : Int) - (x + 1)).toNat
    case measure => have h1 := HX.out; have h3 := C4.out; omega
    case rel =>
     refine ⟨wrap64 (x + 1), rfl, ⟨?_⟩, ⟨hb'⟩, ⟨fun j hj => ?_⟩⟩
     ·have h1 := HX.out; have h3 := C4.out; rw [hw]; omega
     ·rw [hw] at hj
      by_cases e : (j : Int) = x
      ·rw [e, HY.out]; exact HQ.out
      ·exact AA.out j (by omega)
  ·have c4b0 : decide (x < (l.length : Int)) = false := decide_eq_false c4
   have hxe : x = l.length := by have := HX.out; omega
   have C4 := Aside0.mk hxe
   clear c4 hxe
   go_wp2
   go_ret
   refine ⟨?_, BW.out⟩
   rw [impl_Motion_99.miss p l (by rw [← C4.out]; exact AA.out)]
   rfl
set_option maxHeartbeats 2000000 in
theorem impl_Motion_99.calls_empty (p : S55 → Bool) (A : Option Addr) (c : Nat) (fv : Value) (w : World) :
  Calls Try.prog 99 #[.slice A 0 c, fv] w fun e w' => e = .returned (.int .i64 (impl_Motion_99.f p [])) ∧ Below w.heap.size w w' := by
 go_enter Try.func99, Try.ntmps99
 go_wp2
 go_loopg [5, 8] 0 (fun _ _ s8 wr => s8 = .int .i64 0 ∧ wr = w)
 case atStart => exact ⟨rfl, rfl⟩
 case round =>
  obtain ⟨rfl, rfl⟩ := hrel
  go_wp2
  go_ret
  exact ⟨rfl, Below.refl _ _⟩
theorem impl_Motion_99.calls (p : S55 → Bool) (g : Nat) (lb : Array Value) (eg : ∀ args w, (callFunc g args).run Try.prog w = .ok (.enter g args) w) (A : Option Addr) (c : Nat) (l : List S55) (w : World) (hr : Kd.C k55 w A l.length l)
  (hp : ∀ (x : S55) (W : World), Below w.heap.size w W → Calls Try.prog g (#[.agg #[.int .i64 x.f0.f0, .int .i64 x.f0.f1, .int .i64 x.f0.f2, .int .i64 x.f0.f3, .int .i64 x.f1.f0, .int .i64 x.f1.f1]] ++ lb) W fun e w' => e = .returned (.bool (p x)) ∧ Below w.heap.size w w') :
  Calls Try.prog 99 #[.slice A l.length c, .func (.func g) #[] lb] w fun e w' => e = .returned (.int .i64 (impl_Motion_99.f p l)) ∧ Below w.heap.size w w' := by
 cases l with
 | nil => exact impl_Motion_99.calls_empty p A c _ w
 | cons x xs =>
  obtain ⟨ad, rfl, _⟩ := hr.2.2 (by simp)
  exact impl_Motion_99.calls_some p g lb eg ad c (x :: xs) w hr hp
/-! ### impl_Motion_65: function 65 -/
theorem impl_Motion_65.any_of (p : S55 → Bool) (l : List S55) : decide (0 ≤ impl_Motion_99.f p l) = l.any p := by
 unfold impl_Motion_99.f
 cases h : l.findIdx? p with
 | none =>
  have : l.any p = false := by
   rw [List.any_eq_false]
   intro x hx
   simpa using List.findIdx?_eq_none_iff.1 h x hx
  rw [this]; rfl
 | some i =>
  have : l.any p = true := by
   obtain ⟨hi, hp, _⟩ := List.findIdx?_eq_some_iff_getElem.1 h
   exact List.any_eq_true.2 ⟨_, List.getElem_mem hi, hp⟩
  rw [this]; simp
set_option maxHeartbeats 1000000 in
theorem impl_Motion_65.calls (p : S55 → Bool) (g : Nat) (lb : Array Value) (eg : ∀ args w, (callFunc g args).run Try.prog w = .ok (.enter g args) w) (A : Option Addr) (c : Nat) (l : List S55) (w : World) (hr : Kd.C k55 w A l.length l)
  (hp : ∀ (x : S55) (W : World), Below w.heap.size w W → Calls Try.prog g (#[.agg #[.int .i64 x.f0.f0, .int .i64 x.f0.f1, .int .i64 x.f0.f2, .int .i64 x.f0.f3, .int .i64 x.f1.f0, .int .i64 x.f1.f1]] ++ lb) W fun e w' => e = .returned (.bool (p x)) ∧ Below w.heap.size w w') :
  Calls Try.prog 65 #[.slice A l.length c, .func (.func g) #[] lb] w fun e w' => e = .returned (.bool (l.any p)) ∧ Below w.heap.size w w' := by
 have hcon := impl_Motion_99.calls p g lb eg A c l w hr hp
 rw [← impl_Motion_65.any_of p l]
 generalize impl_Motion_99.f p l = r at hcon
 clear hp hr
 go_enter Try.func65, Try.ntmps65
 go_wp2_with (go_at_call 99; refine hcon.mono ?_; rintro e w' ⟨rfl, hb'⟩)
 go_ret
 exact ⟨rfl, hb'⟩
/-! ### impl_containsAll: function 33 -/
def impl_containsAll.eqB (x y : S55) : Bool := ((x.f0.f0 == y.f0.f0 && (x.f0.f1 == y.f0.f1 && (x.f0.f2 == y.f0.f2 && (x.f0.f3 == y.f0.f3)))) && ((x.f1.f0 == y.f1.f0 && (x.f1.f1 == y.f1.f1))))
/-- Is a motion in a list? -/
def impl_containsAll.hasB (l : List S55) (x : S55) : Bool := l.any (impl_containsAll.eqB x)
theorem impl_containsAll.idx (l : List S55) (hl : l.length ≤ 9223372036854775807) (x : S55) (d : Nat) : ∀ (i k : Nat), i ≤ l.length → l.length - i = d → d < k → ∃ r, impl_Motion_78.l0 k l (l.length : Int) (i : Int) x.f0.f0 x.f0.f1 x.f0.f2 x.f0.f3 x.f1.f0 x.f1.f1 = some r ∧ decide (r ≥ 0) = (l.drop i).any (impl_containsAll.eqB x) := by
 induction d with
 | zero =>
  intro i k hi hd hk
  obtain ⟨k, rfl⟩ : ∃ j, k = j + 1 := ⟨k - 1, by omega⟩
  refine ⟨-1, ?_, ?_⟩
  ·simp only [impl_Motion_78.l0]; rw [if_neg (by omega)]
  ·rw [List.drop_eq_nil_of_le (by omega)]; rfl
 | succ d ih =>
  intro i k hi hd hk
  obtain ⟨k, rfl⟩ : ∃ j, k = j + 1 := ⟨k - 1, by omega⟩
  have h1 : i < l.length := by omega
  have hr : rd_T55 l (i : Int) = l[i] := by unfold rd_T55; rw [Int.toNat_natCast]; simp [List.getD, h1]
  have hw : wrap64 ((i : Int) + 1) = ((i + 1 : Nat) : Int) := by unfold wrap64; omega
  rw [List.drop_eq_getElem_cons h1, List.any_cons]
  simp only [impl_Motion_78.l0]
  rw [if_pos (by omega), if_pos (by omega), if_pos (by omega), hr]
  cases e : impl_containsAll.eqB x l[i] with
  | true => exact ⟨i, if_pos e, by simp⟩
  | false =>
   obtain ⟨r, r1, r2⟩ := ih (i + 1) k (by omega) (by omega) (by omega)
   refine ⟨r, ?_, by rw [r2]; rfl⟩
   rw [hw]
   exact (if_neg (by unfold impl_containsAll.eqB at e; rw [e]; decide)).trans r1
theorem impl_containsAll.has_eq (l : List S55) (hl : l.length ≤ 9223372036854775807) (x : S55) {k : Nat} (hk : l.length < k) : impl_Motion_49.f k l x.f0.f0 x.f0.f1 x.f0.f2 x.f0.f3 x.f1.f0 x.f1.f1 = some (impl_containsAll.hasB l x) := by
 obtain ⟨r, r1, r2⟩ := impl_containsAll.idx l hl x l.length 0 k (by omega) rfl hk
 unfold impl_Motion_49.f impl_Motion_78.f
 show ((impl_Motion_78.l0 k l (l.length : Int) ((0 : Nat) : Int) x.f0.f0 x.f0.f1 x.f0.f2 x.f0.f3 x.f1.f0 x.f1.f1).bind _) = _
 rw [r1, Option.bind_some, r2]; rfl
/-- Are all motions of the second list in the first one? -/
def impl_containsAll.f (k : Nat) (l0 l1 : List S55) : Option Bool := if l0.length < k then some (!(l1.any fun x => !(impl_containsAll.hasB l0 x))) else none
set_option maxHeartbeats 1000000 in
theorem impl_containsAll.pred (k : Nat) (A : Option Addr) (c : Nat) (l : List S55) (B : Nat) (W : World) (hB : W.cell? ⟨B, 0, none⟩ = some (.slice A l.length c)) (hr : Kd.C k55 W A l.length l) (hc : l.length ≤ c) (hk : l.length < k) (x : S55) :
  Calls Try.prog 66 (#[.agg #[.int .i64 x.f0.f0, .int .i64 x.f0.f1, .int .i64 x.f0.f2, .int .i64 x.f0.f3, .int .i64 x.f1.f0, .int .i64 x.f1.f1]] ++ #[.pointer (some ⟨B, 0, none⟩)]) W fun e w' => e = .returned (.bool (!(impl_containsAll.hasB l x))) ∧ Below W.heap.size W w' := by
 show Calls Try.prog 66 #[.agg #[.int .i64 x.f0.f0, .int .i64 x.f0.f1, .int .i64 x.f0.f2, .int .i64 x.f0.f3, .int .i64 x.f1.f0, .int .i64 x.f1.f1], .pointer (some ⟨B, 0, none⟩)] W _
 have hu33 := Try.underlying55
 have hu34 := Try.underlying51
 have hu35 := Try.underlying53
 have hu36 := Try.underlying29
 have b1 : Below W.heap.size W (W.alloc (.cells #[.int .i64 x.f0.f0, .int .i64 x.f0.f1, .int .i64 x.f0.f2, .int .i64 x.f0.f3, .int .i64 x.f1.f0, .int .i64 x.f1.f1] 55)) := below_alloc (Below.refl _ W) _
 have hcon := impl_Motion_49.calls k A c l x.f0.f0 x.f0.f1 x.f0.f2 x.f0.f3 x.f1.f0 x.f1.f1 (impl_containsAll.hasB l x) (W.alloc (.cells #[.int .i64 x.f0.f0, .int .i64 x.f0.f1, .int .i64 x.f0.f2, .int .i64 x.f0.f3, .int .i64 x.f1.f0, .int .i64 x.f1.f1] 55)) (Kd.C_below hr b1) hc (impl_containsAll.has_eq l (Kd.C_max hr) x hk)
 have hB' : (W.alloc (.cells #[.int .i64 x.f0.f0, .int .i64 x.f0.f1, .int .i64 x.f0.f2, .int .i64 x.f0.f3, .int .i64 x.f1.f0, .int .i64 x.f1.f1] 55)).cell? ⟨B, 0, none⟩ = some (.slice A l.length c) := (b1.cell (World.block_lt_of_cell? W _ hB)).trans hB
 generalize impl_containsAll.hasB l x = r at hcon ⊢
 have B1 := Aside0.mk b1
 clear hr hc hk hB b1
 go_enter Try.func66, Try.ntmps66
 go_wp2_with (go_at_call 49; refine hcon.mono ?_; rintro e w' ⟨rfl, hb'⟩)
 go_ret
 exact ⟨rfl, below_then B1.out B1.out.size hb'⟩
set_option maxHeartbeats 1000000 in
theorem impl_containsAll.calls (k : Nat) (A0 : Option Addr) (c0 : Nat) (l0 : List S55) (A1 : Option Addr) (c1 : Nat) (l1 : List S55) (r : Bool) (w : World) (hr0 : Kd.C k55 w A0 l0.length l0) (hc0 : l0.length ≤ c0) (hr1 : Kd.C k55 w A1 l1.length l1) (hc1 : l1.length ≤ c1) (h : impl_containsAll.f k l0 l1 = some r) :
  Calls Try.prog 33 #[.slice A0 l0.length c0, .slice A1 l1.length c1] w fun e w' => e = .returned (.bool r) ∧ Below w.heap.size w w' := by
 have hu36 := Try.underlying29
 unfold impl_containsAll.f at h
 by_cases hk : l0.length < k
 ·rw [if_pos hk] at h
  obtain rfl := Option.some.inj h
  clear h
  have eg : ∀ args w, (callFunc 66 args).run Try.prog w = .ok (.enter 66 args) w := enters_of Try.func66 (by kernel_rfl) rfl
  have b1 : Below w.heap.size w (w.alloc (.cells #[.slice A0 l0.length c0] 29)) := below_alloc (Below.refl _ w) _
  have hcon := impl_Motion_65.calls (fun x => !(impl_containsAll.hasB l0 x)) 66 #[.pointer (some ⟨w.heap.size, 0, none⟩)] eg A1 c1 l1 (w.alloc (.cells #[.slice A0 l0.length c0] 29)) (Kd.C_below hr1 b1)
   (fun x W hb => (impl_containsAll.pred k A0 c0 l0 w.heap.size W ((hb.cell (p := ⟨w.heap.size, 0, none⟩) (by simp)).trans (by simp)) (Kd.C_below (Kd.C_below hr0 b1) hb) hc0 hk x).mono fun e w' ⟨he, hb'⟩ => ⟨he, below_then hb hb.size hb'⟩)
  generalize (l1.any fun x => !(impl_containsAll.hasB l0 x)) = r at hcon ⊢
  have B1 := Aside0.mk b1
  clear hr0 hr1 hc0 hc1 eg b1 hk
  go_enter Try.func33, Try.ntmps33
  go_wp2_with (go_at_call 65; refine hcon.mono ?_; rintro e w' ⟨rfl, hb'⟩)
  go_ret
  exact ⟨rfl, below_then B1.out (by simp) hb'⟩
 ·rw [if_neg hk] at h; cases h

end Go.Proofs.Ytcchmdodifkloaa.PA
