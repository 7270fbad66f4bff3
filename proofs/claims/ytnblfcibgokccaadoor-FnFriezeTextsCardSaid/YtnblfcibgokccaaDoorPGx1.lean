/- Walks written by program: each Go function that the law reaches comes to the plain function beside it. -/
import Derived.Test.YtnblfcibgokccaaDoorPGx0
namespace Go.Proofs.YtnblfcibgokccaaDoor.PG
open Go.RowKit Go.Proofs.YtnblfcibgokccaaDoorW.PrintWords Go.Proofs.YtnblfcibgokccaaDoorW.PrintLast Go.Proofs.YtnblfcibgokccaaDoorW.PrintMore
attribute [local go_sem] max2_int min2_int max_two min_two max_three min_three max_four min_four   -- for this text's walks alone
set_option linter.unusedVariables false
set_option linter.unusedSimpArgs false

/-! ### spec_l01In: function 31 -/
def spec_l01In.f (a0 : Int) (a1 : Int) (a2 : Int) : Option (Bool) := if a0 ≥ a1 then (some (decide (a0 ≤ a2))) else (some false)
set_option maxHeartbeats 8000000 in
set_option maxRecDepth 100000 in
theorem spec_l01In.calls (a0 : Int) (a1 : Int) (a2 : Int) (r : Bool) (w : World) (h : spec_l01In.f a0 a1 a2 = some r) :
  Calls Tryd.prog 31 #[.int .i64 a0, .int .i64 a1, .int .i64 a2] w fun e w' => e = .returned (.bool r) ∧ Drawn0 w w' := by
 have H : (if a0 ≥ a1 then (some (decide (a0 ≤ a2))) else (some false)) = some r := h
 clear h
 by_cases c4 : a0 ≥ a1
 ·rw [if_pos c4] at H
  have c4b0 : decide (a1 ≤ a0) = true := decide_eq_true c4
  clear c4
  obtain rfl := Option.some.inj H
  go_enter Tryd.func31, Tryd.ntmps31
  go_wp2
  go_ret
  exact ⟨by first | rfl | (simp; done) | (simp [*]; done), by repeat (first | exact Drawn0.refl _ | apply Drawn0.step)⟩
 ·rw [if_neg c4] at H
  have c4b0 : decide (a1 ≤ a0) = false := decide_eq_false c4
  clear c4
  obtain rfl := Option.some.inj H
  go_enter Tryd.func31, Tryd.ntmps31
  go_wp2
  go_ret
  exact ⟨by first | rfl | (simp; done) | (simp [*]; done), by repeat (first | exact Drawn0.refl _ | apply Drawn0.step)⟩
/-! ### spec_l01Within: function 32 -/
def spec_l01Within.l0 : Nat → List Int → Int → Int → Int → Int → Option (Bool)
 | 0, _, _, _, _, _ => none
 | k + 1, x0, x1, x2, x3, x9 => if x9 < (x0.length : Int) then (if 0 ≤ x9 then ((spec_l01In.f (rd x0 x9) x2 x3).bind fun t102 => (if t102 = true then (spec_l01Within.l0 k x0 x1 x2 x3 (wrap64 (x9 + 1))) else (some false))) else (none)) else (some (decide ((x0.length : Int) ≤ x1)))
def spec_l01Within.f (k : Nat) (l0 : List Int) (a1 : Int) (a2 : Int) (a3 : Int) : Option (Bool) := spec_l01Within.l0 k l0 a1 a2 a3 0
set_option maxHeartbeats 8000000 in
set_option maxRecDepth 100000 in
theorem spec_l01Within.calls (k : Nat) (A0 : Option Addr) (c0 : Nat) (l0 : List Int) (a1 : Int) (a2 : Int) (a3 : Int) (r : Bool) (w : World) (hr0 : Kd.C (Kd.int .i64) w A0 l0.length l0) (hc0 : l0.length ≤ c0) (h : spec_l01Within.f k l0 a1 a2 a3 = some r) :
  Calls Tryd.prog 32 #[.slice A0 l0.length c0, .int .i64 a1, .int .i64 a2, .int .i64 a3] w fun e w' => e = .returned (.bool r) ∧ Drawn0 w w' := by
 have HR0 := Aside0.mk hr0
 have HC0 := Aside0.mk hc0
 clear hr0 hc0
 have H : (spec_l01Within.l0 k l0 a1 a2 a3 0) = some r := h
 clear h
 have H' := Aside0.mk H
 clear H
 go_enter Tryd.func32, Tryd.ntmps32
 go_wp2
 go_loopg [9] k (fun kq v9 w' => ∃ (x9_1 : Int), v9 = .int .i64 x9_1 ∧ Aside0 (spec_l01Within.l0 kq l0 a1 a2 a3 x9_1 = some r) ∧ Aside0 (kq ≤ k) ∧ Drawn0 w w')
 case atStart => exact ⟨(0), (by first | rfl | (simp; done) | (simp [*]; done)), H', ⟨Nat.le_refl _⟩, by repeat (first | exact Drawn0.refl _ | apply Drawn0.step)⟩
 case round =>
  clear H'
  try clear p2
  try clear c3
  obtain ⟨x9_1, rfl, HA, HK1, ⟨m1, rfl⟩⟩ := hrel
  cases gk with
  | zero => exact absurd HA.out (by simp [spec_l01Within.l0])
  | succ k1 =>
   have H := HA.out
   clear HA
   simp only [spec_l01Within.l0] at H
   by_cases c5 : x9_1 < (l0.length : Int)
   rw [if_pos c5] at H
   have c5b0 := decide_eq_true c5
   clear c5
   by_cases c6 : 0 ≤ x9_1
   rw [if_pos c6] at H
   have c6b0 := decide_eq_true c6
   clear c6
   obtain ⟨t102, A7, H⟩ := ob H
   try dsimp only at H
   by_cases c8 : t102 = true
   subst c8
   replace H := ifT H
   have H' := Aside0.mk H
   clear H
   rotate_left
   replace c8 := Bool.eq_false_iff.mpr c8
   subst c8
   replace H := ifF H
   obtain rfl := Option.some.inj H
   rotate_left
   ·rw [if_neg c6] at H
    exact absurd H (by simp)
   rw [if_neg c5] at H
   have c5b0 := decide_eq_false c5
   clear c5
   obtain rfl := Option.some.inj H
   rotate_left
   rotate_left 2
   ·go_wp2
    go_ret
    exact ⟨by first | rfl | (simp; done) | (simp [*]; done), by repeat (first | exact Drawn0.refl _ | apply Drawn0.step)⟩
   all_goals
    have p101 : 0 ≤ (x9_1 : Int) := od
    have q101 : x9_1 < (l0.length : Int) := od
    obtain ⟨ad101, e101, hx101_0⟩ := Kd.at_int HR0.out x9_1 p101 q101
    cases e101
    replace p101 := eq_true p101
    replace q101 := eq_true q101
    go_wp2_with (first | ((with_reducible refine gate_callee (f := 31) rfl ?_); refine gl 22 Tryd.func31 #[.int .i64 (rd l0 x9_1), .int .i64 a2, .int .i64 a3] ?_; (with_reducible refine (spec_l01In.calls _ _ _ _ _ A7.out).mono ?_); rintro e w' ⟨rfl, ⟨nd, rfl⟩⟩; refine ⟨_, rfl, ?_⟩))
   ·go_roundg k1
    case measure => have := HK1.out; omega
    case rel => exact ⟨(wrap64 (x9_1 + 1)), (by first | rfl | (simp; done) | (simp [*]; done)), H', ⟨by have := HK1.out; omega⟩, by repeat (first | exact Drawn0.refl _ | apply Drawn0.step)⟩
   ·go_ret
    exact ⟨by first | rfl | (simp; done) | (simp [*]; done), by repeat (first | exact Drawn0.refl _ | apply Drawn0.step)⟩
/-! ### spec_IsFrieze: function 17 -/
def spec_IsFrieze.f (k : Nat) (a0_0 : Int) (a0_1 : Int) (l0_2 : List Int) : Option (Bool) := (spec_l01In.f a0_0 1 6).bind fun t104 => (if t104 = true then ((spec_l01In.f a0_1 1 24).bind fun t105 => (if t105 = true then (if (l0_2.length : Int) = (wrap64 (a0_0 * a0_1)) then ((spec_l01Within.f k l0_2 144 0 9).bind fun t106 => (some t106)) else (some false)) else (some false))) else (some false))
set_option maxHeartbeats 8000000 in
set_option maxRecDepth 100000 in
theorem spec_IsFrieze.calls (k : Nat) (a0_0 : Int) (a0_1 : Int) (A0_2 : Option Addr) (c0_2 : Nat) (l0_2 : List Int) (r : Bool) (w : World) (hr0_2 : Kd.C (Kd.int .i64) w A0_2 l0_2.length l0_2) (hc0_2 : l0_2.length ≤ c0_2) (h : spec_IsFrieze.f k a0_0 a0_1 l0_2 = some r) :
  Calls Tryd.prog 17 #[.agg #[.int .i64 a0_0, .int .i64 a0_1, .slice A0_2 l0_2.length c0_2]] w fun e w' => e = .returned (.bool r) ∧ Below w.heap.size w w' := by
 have hu28 := Tryd.underlying28
 have HR0_2 := Aside0.mk hr0_2
 have HC0_2 := Aside0.mk hc0_2
 clear hr0_2 hc0_2
 have HB := asd (Below.refl w.heap.size w)
 have H : ((spec_l01In.f a0_0 1 6).bind fun t104 => (if t104 = true then ((spec_l01In.f a0_1 1 24).bind fun t105 => (if t105 = true then (if (l0_2.length : Int) = (wrap64 (a0_0 * a0_1)) then ((spec_l01Within.f k l0_2 144 0 9).bind fun t106 => (some t106)) else (some false)) else (some false))) else (some false))) = some r := h
 clear h
 obtain ⟨t104, A2, H⟩ := ob H
 try dsimp only at H
 by_cases c3 : t104 = true
 subst c3
 replace H := ifT H
 obtain ⟨t105, A4, H⟩ := ob H
 try dsimp only at H
 by_cases c5 : t105 = true
 subst c5
 replace H := ifT H
 by_cases c6 : (l0_2.length : Int) = (wrap64 (a0_0 * a0_1))
 rw [if_pos c6] at H
 have c6b0 : ((l0_2.length : Int) == (wrap64 (a0_0 * a0_1))) = true := beq_iff_eq.mpr c6
 have c6b1 : ((l0_2.length : Int) != (wrap64 (a0_0 * a0_1))) = false := bne_eq_false_iff_eq.mpr c6
 clear c6
 obtain ⟨t106, A7, H⟩ := ob H
 try dsimp only at H
 obtain rfl := Option.some.inj H
 rotate_left
 rw [if_neg c6] at H
 have c6b0 : ((l0_2.length : Int) == (wrap64 (a0_0 * a0_1))) = false := beq_eq_false_iff_ne.mpr c6
 have c6b1 : ((l0_2.length : Int) != (wrap64 (a0_0 * a0_1))) = true := bne_iff_ne.mpr c6
 obtain rfl := Option.some.inj H
 rotate_left
 replace c5 := Bool.eq_false_iff.mpr c5
 subst c5
 replace H := ifF H
 obtain rfl := Option.some.inj H
 rotate_left
 replace c3 := Bool.eq_false_iff.mpr c3
 subst c3
 replace H := ifF H
 obtain rfl := Option.some.inj H
 rotate_left
 all_goals
  go_enter Tryd.func17, Tryd.ntmps17
  go_wp2_with (first | ((with_reducible refine gd 1 rfl ?_); (try (refine gate_guard (by rfl) ?_; dsimp only)); refine bx #[.int .i64 a0_0, .int .i64 a0_1, .slice A0_2 l0_2.length c0_2] 28 ?_; intro gb103 hg w8 BK103 hb; have GE103 := ngw0 hg HB; replace HB := bS0 HB hb; clear hb hg; obtain ⟨hcz9_0, hcz9_1, hcz9_2, hfz9_0, hfz9_1, hfz9_2⟩ := bz3 BK103) | ((with_reducible refine gate_callee (f := 31) rfl ?_); refine gl 5 Tryd.func31 #[.int .i64 a0_0, .int .i64 1, .int .i64 6] ?_; (with_reducible refine (spec_l01In.calls _ _ _ _ _ A2.out).mono ?_); rintro e w' ⟨rfl, ⟨nd, rfl⟩⟩; refine ⟨_, rfl, ?_⟩) | (go_at_call 31; (with_reducible refine (spec_l01In.calls _ _ _ _ _ A4.out).mono ?_); rintro e w' ⟨rfl, ⟨nd, rfl⟩⟩) | (go_at_call 32; (with_reducible refine (spec_l01Within.calls _ _ _ _ _ _ _ _ _ ?side1 ?side2 A7.out).mono ?_); (case side1 => exact ks (Kd.C_below HR0_2.out (bbw1 HB GE103))); (case side2 => exact HC0_2.out); rintro e w' ⟨rfl, ⟨nd, rfl⟩⟩))
  go_ret
  exact er (bbw1 HB GE103)
/-! ### spec_FriezeText: function 6 -/
def spec_FriezeText.l0 : Nat → List Int → Int → Int → Int → List Int → Option (ByteArray × Int)
 | 0, _, _, _, _, _ => none
 | k + 1, x4, x5, x108000, x108001, x108002 => if x5 < (x108002.length : Int) then (if 0 ≤ x5 then (if x4.length < 140737488355328 then ((some (x4 ++ [(wrap64 (48 + (rd x108002 x5))) % 256] : List Int)).bind fun y113 => (if x108001 = 0 then (none) else (if (Int.tmod x5 x108001) = (wrap64 (x108001 - 1)) then (if y113.length < 140737488355328 then (spec_FriezeText.l0 k (y113 ++ [10]) (wrap64 (x5 + 1)) x108000 x108001 x108002) else (none)) else (spec_FriezeText.l0 k y113 (wrap64 (x5 + 1)) x108000 x108001 x108002)))) else (none)) else (none)) else (some (strOfNums x4, 0))
def spec_FriezeText.f (k : Nat) (a0_0 : Int) (a0_1 : Int) (l0_2 : List Int) : Option (ByteArray × Int) := (spec_IsFrieze.f k a0_0 a0_1 l0_2).bind fun t108 => (if t108 = true then (spec_FriezeText.l0 k (([] : List Int)) 0 a0_0 a0_1 l0_2) else (some ((⟨#[]⟩ : ByteArray), 1)))
set_option maxHeartbeats 8000000 in
set_option maxRecDepth 100000 in
theorem spec_FriezeText.calls (k : Nat) (a0_0 : Int) (a0_1 : Int) (A0_2 : Option Addr) (c0_2 : Nat) (l0_2 : List Int) (r1 : ByteArray) (r2 : Int) (w : World) (hr0_2 : Kd.C (Kd.int .i64) w A0_2 l0_2.length l0_2) (hc0_2 : l0_2.length ≤ c0_2) (h : spec_FriezeText.f k a0_0 a0_1 l0_2 = some (r1, r2)) :
  Calls Tryd.prog 6 #[.agg #[.int .i64 a0_0, .int .i64 a0_1, .slice A0_2 l0_2.length c0_2]] w fun e w' => e = .returned (.tuple #[.string r1, .int .i64 r2]) ∧ Below w.heap.size w w' := by
 have hu28 := Tryd.underlying28
 have HR0_2 := Aside0.mk hr0_2
 have HC0_2 := Aside0.mk hc0_2
 clear hr0_2 hc0_2
 have HB := asd (Below.refl w.heap.size w)
 have H : ((spec_IsFrieze.f k a0_0 a0_1 l0_2).bind fun t108 => (if t108 = true then (spec_FriezeText.l0 k (([] : List Int)) 0 a0_0 a0_1 l0_2) else (some ((⟨#[]⟩ : ByteArray), 1)))) = some (r1, r2) := h
 clear h
 obtain ⟨t108, A2, H⟩ := ob H
 try dsimp only at H
 by_cases c3 : t108 = true
 subst c3
 replace H := ifT H
 obtain ⟨y109, hy109⟩ : ∃ y_ : List Int, y_ = (([] : List Int)) := ⟨_, rfl⟩
 replace H : (spec_FriezeText.l0 k y109 0 a0_0 a0_1 l0_2) = some (r1, r2) := by first | (rw [hy109]; with_reducible exact H) | (have H2_ := (Option.bind_some _ _).symm.trans H; rw [hy109]; with_reducible exact H2_) | (have H2_ := (Option.bind_some _ _).symm.trans H; with_reducible exact H2_) | with_reducible exact H | (rw [hy109]; exact H) | exact H
 have Ny109 := Aside0.mk hy109
 clear hy109
 have H' := Aside0.mk H
 clear H
 rotate_left
 replace c3 := Bool.eq_false_iff.mpr c3
 subst c3
 replace H := ifF H
 rotate_left
 rotate_left
 simp only [Option.some.injEq, Prod.mk.injEq] at H
 obtain ⟨rfl, rfl⟩ := H
 rotate_left
 all_goals
  go_enter Tryd.func6, Tryd.ntmps6
  go_wp2_with (first | ((with_reducible refine gd 1 rfl ?_); refine bx #[.int .i64 a0_0, .int .i64 a0_1, .slice A0_2 l0_2.length c0_2] 28 ?_; intro gb107 hg w4 BK107 hb; have GE107 := ngw0 hg HB; replace HB := bS0 HB hb; clear hb hg; obtain ⟨hcz5_0, hcz5_1, hcz5_2, hfz5_0, hfz5_1, hfz5_2⟩ := bz3 BK107) | (go_at_call 17; (with_reducible refine (spec_IsFrieze.calls _ _ _ _ _ _ _ _ ?side1 ?side2 A2.out).mono ?_); (case side1 => exact ks (Kd.C_below HR0_2.out HB.out)); (case side2 => exact HC0_2.out); rintro e w6 ⟨rfl, hb⟩; replace BK107 := bB BK107 hb; replace HB := bS1 HB GE107 hb; (try clear hb)) | ((with_reducible refine gd 9 rfl ?_); refine Kd.R_lit (Kd.int .u8) _ 5 ?hg (N := 9) ?hd (xs := ([] : List Int)) (inner := []) (ok := fun _ => True) (okp := fun _ => True) ?hr ?hp (fun _ hk => hk) trivial (Below.refl _ _) (Nat.le_refl _) (by simp) ?_; (case hd => rfl); (case hg => rfl); (case hr => first | (go_simp; done) | (go_simp; rfl)); (case hp => exact (Reps.none _ _)); intro v110 w7 ho8 hb hg_ hnew_; clear hg_ hnew_; (first | rw [← Ny109.out] at ho8 | (simp only [Int.reduceToNat] at ho8; rw [← Ny109.out] at ho8)); have HO111 := asd (Kd.R_lower ho8 (bsz1 HB GE107)); replace BK107 := bB BK107 hb; replace HB := bS1 HB GE107 hb; clear hb ho8))
 ·repeat (go_quiet (first | ((with_reducible refine gd 1 rfl ?_); refine bx #[.int .i64 a0_0, .int .i64 a0_1, .slice A0_2 l0_2.length c0_2] 28 ?_; intro gb107 hg w4 BK107 hb; have GE107 := ngw0 hg HB; replace HB := bS0 HB hb; clear hb hg; obtain ⟨hcz5_0, hcz5_1, hcz5_2, hfz5_0, hfz5_1, hfz5_2⟩ := bz3 BK107) | (go_at_call 17; (with_reducible refine (spec_IsFrieze.calls _ _ _ _ _ _ _ _ ?side1 ?side2 A2.out).mono ?_); (case side1 => exact ks (Kd.C_below HR0_2.out HB.out)); (case side2 => exact HC0_2.out); rintro e w6 ⟨rfl, hb⟩; replace BK107 := bB BK107 hb; replace HB := bS1 HB GE107 hb; (try clear hb)) | ((with_reducible refine gd 9 rfl ?_); refine Kd.R_lit (Kd.int .u8) _ 5 ?hg (N := 9) ?hd (xs := ([] : List Int)) (inner := []) (ok := fun _ => True) (okp := fun _ => True) ?hr ?hp (fun _ hk => hk) trivial (Below.refl _ _) (Nat.le_refl _) (by simp) ?_; (case hd => rfl); (case hg => rfl); (case hr => first | (go_simp; done) | (go_simp; rfl)); (case hp => exact (Reps.none _ _)); intro v110 w7 ho8 hb hg_ hnew_; clear hg_ hnew_; (first | rw [← Ny109.out] at ho8 | (simp only [Int.reduceToNat] at ho8; rw [← Ny109.out] at ho8)); have HO111 := asd (Kd.R_lower ho8 (bsz1 HB GE107)); replace BK107 := bB BK107 hb; replace HB := bS1 HB GE107 hb; clear hb ho8)); try go_wp2_with (first | ((with_reducible refine gd 1 rfl ?_); refine bx #[.int .i64 a0_0, .int .i64 a0_1, .slice A0_2 l0_2.length c0_2] 28 ?_; intro gb107 hg w4 BK107 hb; have GE107 := ngw0 hg HB; replace HB := bS0 HB hb; clear hb hg; obtain ⟨hcz5_0, hcz5_1, hcz5_2, hfz5_0, hfz5_1, hfz5_2⟩ := bz3 BK107) | (go_at_call 17; (with_reducible refine (spec_IsFrieze.calls _ _ _ _ _ _ _ _ ?side1 ?side2 A2.out).mono ?_); (case side1 => exact ks (Kd.C_below HR0_2.out HB.out)); (case side2 => exact HC0_2.out); rintro e w6 ⟨rfl, hb⟩; replace BK107 := bB BK107 hb; replace HB := bS1 HB GE107 hb; (try clear hb)) | ((with_reducible refine gd 9 rfl ?_); refine Kd.R_lit (Kd.int .u8) _ 5 ?hg (N := 9) ?hd (xs := ([] : List Int)) (inner := []) (ok := fun _ => True) (okp := fun _ => True) ?hr ?hp (fun _ hk => hk) trivial (Below.refl _ _) (Nat.le_refl _) (by simp) ?_; (case hd => rfl); (case hg => rfl); (case hr => first | (go_simp; done) | (go_simp; rfl)); (case hp => exact (Reps.none _ _)); intro v110 w7 ho8 hb hg_ hnew_; clear hg_ hnew_; (first | rw [← Ny109.out] at ho8 | (simp only [Int.reduceToNat] at ho8; rw [← Ny109.out] at ho8)); have HO111 := asd (Kd.R_lower ho8 (bsz1 HB GE107)); replace BK107 := bB BK107 hb; replace HB := bS1 HB GE107 hb; clear hb ho8)))
  go_loopg [4, 5] k (fun kq v4 v5 w' => ∃ (x4_1 : List Int) (x5_1 : Int), v5 = .int .i64 x5_1 ∧ Aside0 (spec_FriezeText.l0 kq x4_1 x5_1 a0_0 a0_1 l0_2 = some (r1, r2)) ∧ Aside0 (kq ≤ k) ∧ Aside0 (Kd.R (Kd.int .u8) 5 w' w.heap.size (fun _ => True) v4 x4_1) ∧ Aside0 (w'.heap[gb107]? = some (.cells #[.int .i64 a0_0, .int .i64 a0_1, (.slice A0_2 l0_2.length c0_2)] 28 (0, 0))) ∧ Aside0 (Below w.heap.size w w'))
  case atStart => exact ⟨(y109), (0), (by first | rfl | (simp; done) | (simp [*]; done)), H', ⟨Nat.le_refl _⟩, ⟨by (with_reducible repeat (first | apply Kd.R_alloc | apply Kd.R_drewN | apply Kd.R_drew)); exact HO111.out⟩, ⟨bkp BK107⟩, ⟨bbw1 HB GE107⟩⟩
  case round =>
   clear H'
   try clear p2
   try clear c3
   try clear c6
   try clear hcz5_0
   try clear hcz5_1
   try clear hcz5_2
   try clear hfz5_0
   try clear hfz5_1
   try clear hfz5_2
   obtain ⟨x4_1, x5_1, rfl, HA, HK1, HO_4, BK107, HB⟩ := hrel
   cases gk with
   | zero => exact absurd HA.out (by simp [spec_FriezeText.l0])
   | succ k1 =>
    have H := HA.out
    clear HA
    simp only [spec_FriezeText.l0] at H
    by_cases c9 : x5_1 < (l0_2.length : Int)
    rw [if_pos c9] at H
    have c9b0 := decide_eq_true c9
    clear c9
    by_cases c10 : 0 ≤ x5_1
    rw [if_pos c10] at H
    have c10b0 := decide_eq_true c10
    clear c10
    by_cases c11 : x4_1.length < 140737488355328
    rw [if_pos c11] at H
    have LMc11 := Aside0.mk c11
    clear c11
    obtain ⟨y113, hy113⟩ : ∃ y_ : List Int, y_ = (x4_1 ++ [(wrap64 (48 + (rd l0_2 x5_1))) % 256]) := ⟨_, rfl⟩
    replace H : (if a0_1 = 0 then (none) else (if (Int.tmod x5_1 a0_1) = (wrap64 (a0_1 - 1)) then (if y113.length < 140737488355328 then (spec_FriezeText.l0 k1 (y113 ++ [10]) (wrap64 (x5_1 + 1)) a0_0 a0_1 l0_2) else (none)) else (spec_FriezeText.l0 k1 y113 (wrap64 (x5_1 + 1)) a0_0 a0_1 l0_2))) = some (r1, r2) := by first | (rw [hy113]; with_reducible exact H) | (have H2_ := (Option.bind_some _ _).symm.trans H; rw [hy113]; with_reducible exact H2_) | (have H2_ := (Option.bind_some _ _).symm.trans H; with_reducible exact H2_) | with_reducible exact H | (rw [hy113]; exact H) | exact H
    have Ny113 := Aside0.mk hy113
    clear hy113
    by_cases c12 : a0_1 = 0
    ·rw [if_pos c12] at H
     exact absurd H (by simp)
    rw [if_neg c12] at H
    have c12b0 : (a0_1 == 0) = false := beq_eq_false_iff_ne.mpr c12
    have c12b1 : (a0_1 != 0) = true := bne_iff_ne.mpr c12
    by_cases c13 : (Int.tmod x5_1 a0_1) = (wrap64 (a0_1 - 1))
    rw [if_pos c13] at H
    have c13b0 : ((Int.tmod x5_1 a0_1) == (wrap64 (a0_1 - 1))) = true := beq_iff_eq.mpr c13
    have c13b1 : ((Int.tmod x5_1 a0_1) != (wrap64 (a0_1 - 1))) = false := bne_eq_false_iff_eq.mpr c13
    clear c13
    by_cases c14 : y113.length < 140737488355328
    rw [if_pos c14] at H
    have LMc14 := Aside0.mk c14
    clear c14
    obtain ⟨y116, hy116⟩ : ∃ y_ : List Int, y_ = (y113 ++ [10]) := ⟨_, rfl⟩
    replace H : (spec_FriezeText.l0 k1 y116 (wrap64 (x5_1 + 1)) a0_0 a0_1 l0_2) = some (r1, r2) := by first | (rw [hy116]; with_reducible exact H) | (have H2_ := (Option.bind_some _ _).symm.trans H; rw [hy116]; with_reducible exact H2_) | (have H2_ := (Option.bind_some _ _).symm.trans H; with_reducible exact H2_) | with_reducible exact H | (rw [hy116]; exact H) | exact H
    have Ny116 := Aside0.mk hy116
    clear hy116
    have H' := Aside0.mk H
    clear H
    rotate_left
    ·rw [if_neg c14] at H
     exact absurd H (by simp)
    rw [if_neg c13] at H
    have c13b0 : ((Int.tmod x5_1 a0_1) == (wrap64 (a0_1 - 1))) = false := beq_eq_false_iff_ne.mpr c13
    have c13b1 : ((Int.tmod x5_1 a0_1) != (wrap64 (a0_1 - 1))) = true := bne_iff_ne.mpr c13
    have H' := Aside0.mk H
    clear H
    rotate_left
    ·rw [if_neg c11] at H
     exact absurd H (by simp)
    ·rw [if_neg c10] at H
     exact absurd H (by simp)
    rw [if_neg c9] at H
    have c9b0 := decide_eq_false c9
    clear c9
    rotate_left
    rotate_left 2
    simp only [Option.some.injEq, Prod.mk.injEq] at H
    obtain ⟨rfl, rfl⟩ := H
    rotate_left
    all_goals
     obtain ⟨hcz15_0, hcz15_1, hcz15_2, hfz15_0, hfz15_1, hfz15_2⟩ := bz3 BK107
    rotate_left 2
    ·have hcv23 := own_string (P := Tryd.prog) Tryd.underlying32 Tryd.underlying5 Tryd.underlying9 (Kd.own_of_R HO_4.out)
     go_wp2
     repeat (go_quiet (fail); try go_wp2)
     go_ret2
     exact er (bbw1 HB GE107)
    all_goals
     have p112 : 0 ≤ (x5_1 : Int) := od
     have q112 : x5_1 < (l0_2.length : Int) := od
     obtain ⟨ad112, e112, hx112_0⟩ := Kd.at_int HR0_2.out x5_1 p112 q112
     cases e112
     replace hx112_0 := xb HB hx112_0
     replace p112 := eq_true p112
     replace q112 := eq_true q112
     go_wp2_with (first | ((with_reducible refine gate_builtin (b := .append) (xs := #[.tmp 17, .tmp 25]) rfl ?_); at_builtin; refine Kd.R_append (Kd.int .u8) (w0 := w) w.heap.size rfl (.tmp 17) (.tmp 25) 32 5 (.int .u8 0) 1 rfl Tryd.underlying32 info5 rfl (by decide) (by omega) u4 x4_1 ((wrap64 (48 + (rd l0_2 x5_1))) % 256) [.int .u8 ((wrap64 (48 + (rd l0_2 x5_1))) % 256)] (fun _ => True) (fun _ => False) rfl rfl ?aP (fun _ hk => hk.elim) ?aF ?aO ?aB ?aS ?aL ?_; (case aP => exact rfl); (case aB => exact (bbw1 HB GE107)); (case aF => exact (fun _ _ => trivial)); (case aO => exact (kr HO_4)); (case aS => exact (bsz1 HB GE107)); (case aL => have := LMc11.out; omega); intro v114 w16 ho hb hg hat; rw [← Ny113.out] at ho; have n0_ := asd (blk_grown (g := gb107) (o := .cells #[.int .i64 a0_0, .int .i64 a0_1, .slice (some ad112) l0_2.length c0_2] 28 (0, 0)) (bkp BK107) hg (Kd.R_ne HO_4.out BK107.out (by decide))); have n1_ := asd (hb); have n2_ := asd (ho); clear BK107; clear HB; clear HO_4; have BK107 := n0_; have HB := n1_; have HO115 := n2_; clear n0_ n1_ n2_; clear ho hb hg hat; obtain ⟨hcz17_0, hcz17_1, hcz17_2, hfz17_0, hfz17_1, hfz17_2⟩ := bz3 BK107) | ((with_reducible refine gate_builtin (b := .append) (xs := #[.tmp 35, .tmp 36]) rfl ?_); at_builtin; refine Kd.R_append (Kd.int .u8) (w0 := w) w.heap.size rfl (.tmp 35) (.tmp 36) 32 5 (.int .u8 0) 1 rfl Tryd.underlying32 info5 rfl (by decide) (by omega) v114 y113 10 [.int .u8 10] (fun _ => True) (fun _ => False) rfl rfl ?aP (fun _ hk => hk.elim) ?aF ?aO ?aB ?aS ?aL ?_; (case aP => exact rfl); (case aB => exact (bbw1 HB GE107)); (case aF => exact (fun _ _ => trivial)); (case aO => exact (kr HO115)); (case aS => exact (bsz1 HB GE107)); (case aL => have := LMc14.out; omega); intro v117 w18 ho hb hg hat; rw [← Ny116.out] at ho; have n0_ := asd (blk_grown (g := gb107) (o := .cells #[.int .i64 a0_0, .int .i64 a0_1, .slice (some ad112) l0_2.length c0_2] 28 (0, 0)) (bkp BK107) hg (Kd.R_ne HO115.out BK107.out (by decide))); have n1_ := asd (hb); have n2_ := asd (ho); clear BK107; clear HB; clear HO115; have BK107 := n0_; have HB := n1_; have HO118 := n2_; clear n0_ n1_ n2_; clear ho hb hg hat))
    ·repeat (go_quiet (first | ((with_reducible refine gate_builtin (b := .append) (xs := #[.tmp 17, .tmp 25]) rfl ?_); at_builtin; refine Kd.R_append (Kd.int .u8) (w0 := w) w.heap.size rfl (.tmp 17) (.tmp 25) 32 5 (.int .u8 0) 1 rfl Tryd.underlying32 info5 rfl (by decide) (by omega) u4 x4_1 ((wrap64 (48 + (rd l0_2 x5_1))) % 256) [.int .u8 ((wrap64 (48 + (rd l0_2 x5_1))) % 256)] (fun _ => True) (fun _ => False) rfl rfl ?aP (fun _ hk => hk.elim) ?aF ?aO ?aB ?aS ?aL ?_; (case aP => exact rfl); (case aB => exact (bbw1 HB GE107)); (case aF => exact (fun _ _ => trivial)); (case aO => exact (kr HO_4)); (case aS => exact (bsz1 HB GE107)); (case aL => have := LMc11.out; omega); intro v114 w16 ho hb hg hat; rw [← Ny113.out] at ho; have n0_ := asd (blk_grown (g := gb107) (o := .cells #[.int .i64 a0_0, .int .i64 a0_1, .slice (some ad112) l0_2.length c0_2] 28 (0, 0)) (bkp BK107) hg (Kd.R_ne HO_4.out BK107.out (by decide))); have n1_ := asd (hb); have n2_ := asd (ho); clear BK107; clear HB; clear HO_4; have BK107 := n0_; have HB := n1_; have HO115 := n2_; clear n0_ n1_ n2_; clear ho hb hg hat; obtain ⟨hcz17_0, hcz17_1, hcz17_2, hfz17_0, hfz17_1, hfz17_2⟩ := bz3 BK107) | ((with_reducible refine gate_builtin (b := .append) (xs := #[.tmp 35, .tmp 36]) rfl ?_); at_builtin; refine Kd.R_append (Kd.int .u8) (w0 := w) w.heap.size rfl (.tmp 35) (.tmp 36) 32 5 (.int .u8 0) 1 rfl Tryd.underlying32 info5 rfl (by decide) (by omega) v114 y113 10 [.int .u8 10] (fun _ => True) (fun _ => False) rfl rfl ?aP (fun _ hk => hk.elim) ?aF ?aO ?aB ?aS ?aL ?_; (case aP => exact rfl); (case aB => exact (bbw1 HB GE107)); (case aF => exact (fun _ _ => trivial)); (case aO => exact (kr HO115)); (case aS => exact (bsz1 HB GE107)); (case aL => have := LMc14.out; omega); intro v117 w18 ho hb hg hat; rw [← Ny116.out] at ho; have n0_ := asd (blk_grown (g := gb107) (o := .cells #[.int .i64 a0_0, .int .i64 a0_1, .slice (some ad112) l0_2.length c0_2] 28 (0, 0)) (bkp BK107) hg (Kd.R_ne HO115.out BK107.out (by decide))); have n1_ := asd (hb); have n2_ := asd (ho); clear BK107; clear HB; clear HO115; have BK107 := n0_; have HB := n1_; have HO118 := n2_; clear n0_ n1_ n2_; clear ho hb hg hat)); try go_wp2_with (first | ((with_reducible refine gate_builtin (b := .append) (xs := #[.tmp 17, .tmp 25]) rfl ?_); at_builtin; refine Kd.R_append (Kd.int .u8) (w0 := w) w.heap.size rfl (.tmp 17) (.tmp 25) 32 5 (.int .u8 0) 1 rfl Tryd.underlying32 info5 rfl (by decide) (by omega) u4 x4_1 ((wrap64 (48 + (rd l0_2 x5_1))) % 256) [.int .u8 ((wrap64 (48 + (rd l0_2 x5_1))) % 256)] (fun _ => True) (fun _ => False) rfl rfl ?aP (fun _ hk => hk.elim) ?aF ?aO ?aB ?aS ?aL ?_; (case aP => exact rfl); (case aB => exact (bbw1 HB GE107)); (case aF => exact (fun _ _ => trivial)); (case aO => exact (kr HO_4)); (case aS => exact (bsz1 HB GE107)); (case aL => have := LMc11.out; omega); intro v114 w16 ho hb hg hat; rw [← Ny113.out] at ho; have n0_ := asd (blk_grown (g := gb107) (o := .cells #[.int .i64 a0_0, .int .i64 a0_1, .slice (some ad112) l0_2.length c0_2] 28 (0, 0)) (bkp BK107) hg (Kd.R_ne HO_4.out BK107.out (by decide))); have n1_ := asd (hb); have n2_ := asd (ho); clear BK107; clear HB; clear HO_4; have BK107 := n0_; have HB := n1_; have HO115 := n2_; clear n0_ n1_ n2_; clear ho hb hg hat; obtain ⟨hcz17_0, hcz17_1, hcz17_2, hfz17_0, hfz17_1, hfz17_2⟩ := bz3 BK107) | ((with_reducible refine gate_builtin (b := .append) (xs := #[.tmp 35, .tmp 36]) rfl ?_); at_builtin; refine Kd.R_append (Kd.int .u8) (w0 := w) w.heap.size rfl (.tmp 35) (.tmp 36) 32 5 (.int .u8 0) 1 rfl Tryd.underlying32 info5 rfl (by decide) (by omega) v114 y113 10 [.int .u8 10] (fun _ => True) (fun _ => False) rfl rfl ?aP (fun _ hk => hk.elim) ?aF ?aO ?aB ?aS ?aL ?_; (case aP => exact rfl); (case aB => exact (bbw1 HB GE107)); (case aF => exact (fun _ _ => trivial)); (case aO => exact (kr HO115)); (case aS => exact (bsz1 HB GE107)); (case aL => have := LMc14.out; omega); intro v117 w18 ho hb hg hat; rw [← Ny116.out] at ho; have n0_ := asd (blk_grown (g := gb107) (o := .cells #[.int .i64 a0_0, .int .i64 a0_1, .slice (some ad112) l0_2.length c0_2] 28 (0, 0)) (bkp BK107) hg (Kd.R_ne HO115.out BK107.out (by decide))); have n1_ := asd (hb); have n2_ := asd (ho); clear BK107; clear HB; clear HO115; have BK107 := n0_; have HB := n1_; have HO118 := n2_; clear n0_ n1_ n2_; clear ho hb hg hat)))
     go_roundg k1
     case measure => have := HK1.out; omega
     case rel => exact ⟨(y116), (wrap64 (x5_1 + 1)), (by first | rfl | (simp; done) | (simp [*]; done)), H', ⟨by have := HK1.out; omega⟩, ⟨by (with_reducible repeat (first | apply Kd.R_alloc | apply Kd.R_drewN | apply Kd.R_drew)); exact HO118.out⟩, ⟨bkp BK107⟩, ⟨bbw1 HB GE107⟩⟩
    ·repeat (go_quiet (first | ((with_reducible refine gate_builtin (b := .append) (xs := #[.tmp 17, .tmp 25]) rfl ?_); at_builtin; refine Kd.R_append (Kd.int .u8) (w0 := w) w.heap.size rfl (.tmp 17) (.tmp 25) 32 5 (.int .u8 0) 1 rfl Tryd.underlying32 info5 rfl (by decide) (by omega) u4 x4_1 ((wrap64 (48 + (rd l0_2 x5_1))) % 256) [.int .u8 ((wrap64 (48 + (rd l0_2 x5_1))) % 256)] (fun _ => True) (fun _ => False) rfl rfl ?aP (fun _ hk => hk.elim) ?aF ?aO ?aB ?aS ?aL ?_; (case aP => exact rfl); (case aB => exact (bbw1 HB GE107)); (case aF => exact (fun _ _ => trivial)); (case aO => exact (kr HO_4)); (case aS => exact (bsz1 HB GE107)); (case aL => have := LMc11.out; omega); intro v114 w16 ho hb hg hat; rw [← Ny113.out] at ho; have n0_ := asd (blk_grown (g := gb107) (o := .cells #[.int .i64 a0_0, .int .i64 a0_1, .slice (some ad112) l0_2.length c0_2] 28 (0, 0)) (bkp BK107) hg (Kd.R_ne HO_4.out BK107.out (by decide))); have n1_ := asd (hb); have n2_ := asd (ho); clear BK107; clear HB; clear HO_4; have BK107 := n0_; have HB := n1_; have HO115 := n2_; clear n0_ n1_ n2_; clear ho hb hg hat; obtain ⟨hcz17_0, hcz17_1, hcz17_2, hfz17_0, hfz17_1, hfz17_2⟩ := bz3 BK107)); try go_wp2_with (first | ((with_reducible refine gate_builtin (b := .append) (xs := #[.tmp 17, .tmp 25]) rfl ?_); at_builtin; refine Kd.R_append (Kd.int .u8) (w0 := w) w.heap.size rfl (.tmp 17) (.tmp 25) 32 5 (.int .u8 0) 1 rfl Tryd.underlying32 info5 rfl (by decide) (by omega) u4 x4_1 ((wrap64 (48 + (rd l0_2 x5_1))) % 256) [.int .u8 ((wrap64 (48 + (rd l0_2 x5_1))) % 256)] (fun _ => True) (fun _ => False) rfl rfl ?aP (fun _ hk => hk.elim) ?aF ?aO ?aB ?aS ?aL ?_; (case aP => exact rfl); (case aB => exact (bbw1 HB GE107)); (case aF => exact (fun _ _ => trivial)); (case aO => exact (kr HO_4)); (case aS => exact (bsz1 HB GE107)); (case aL => have := LMc11.out; omega); intro v114 w16 ho hb hg hat; rw [← Ny113.out] at ho; have n0_ := asd (blk_grown (g := gb107) (o := .cells #[.int .i64 a0_0, .int .i64 a0_1, .slice (some ad112) l0_2.length c0_2] 28 (0, 0)) (bkp BK107) hg (Kd.R_ne HO_4.out BK107.out (by decide))); have n1_ := asd (hb); have n2_ := asd (ho); clear BK107; clear HB; clear HO_4; have BK107 := n0_; have HB := n1_; have HO115 := n2_; clear n0_ n1_ n2_; clear ho hb hg hat; obtain ⟨hcz17_0, hcz17_1, hcz17_2, hfz17_0, hfz17_1, hfz17_2⟩ := bz3 BK107)))
     go_roundg k1
     case measure => have := HK1.out; omega
     case rel => exact ⟨(y113), (wrap64 (x5_1 + 1)), (by first | rfl | (simp; done) | (simp [*]; done)), H', ⟨by have := HK1.out; omega⟩, ⟨by (with_reducible repeat (first | apply Kd.R_alloc | apply Kd.R_drewN | apply Kd.R_drew)); exact HO115.out⟩, ⟨bkp BK107⟩, ⟨bbw1 HB GE107⟩⟩
 ·repeat (go_quiet (first | ((with_reducible refine gd 1 rfl ?_); refine bx #[.int .i64 a0_0, .int .i64 a0_1, .slice A0_2 l0_2.length c0_2] 28 ?_; intro gb107 hg w4 BK107 hb; have GE107 := ngw0 hg HB; replace HB := bS0 HB hb; clear hb hg; obtain ⟨hcz5_0, hcz5_1, hcz5_2, hfz5_0, hfz5_1, hfz5_2⟩ := bz3 BK107) | (go_at_call 17; (with_reducible refine (spec_IsFrieze.calls _ _ _ _ _ _ _ _ ?side1 ?side2 A2.out).mono ?_); (case side1 => exact ks (Kd.C_below HR0_2.out HB.out)); (case side2 => exact HC0_2.out); rintro e w6 ⟨rfl, hb⟩; replace BK107 := bB BK107 hb; replace HB := bS1 HB GE107 hb; (try clear hb))); try go_wp2_with (first | ((with_reducible refine gd 1 rfl ?_); refine bx #[.int .i64 a0_0, .int .i64 a0_1, .slice A0_2 l0_2.length c0_2] 28 ?_; intro gb107 hg w4 BK107 hb; have GE107 := ngw0 hg HB; replace HB := bS0 HB hb; clear hb hg; obtain ⟨hcz5_0, hcz5_1, hcz5_2, hfz5_0, hfz5_1, hfz5_2⟩ := bz3 BK107) | (go_at_call 17; (with_reducible refine (spec_IsFrieze.calls _ _ _ _ _ _ _ _ ?side1 ?side2 A2.out).mono ?_); (case side1 => exact ks (Kd.C_below HR0_2.out HB.out)); (case side2 => exact HC0_2.out); rintro e w6 ⟨rfl, hb⟩; replace BK107 := bB BK107 hb; replace HB := bS1 HB GE107 hb; (try clear hb))))
  go_ret2
  exact er (bbw1 HB GE107)
/-! ### impl_within: function 33 -/
def impl_within.f (a0 : Int) (a1 : Int) (a2 : Int) : Option (Bool) := if a0 ≥ a1 then (some (decide (a0 ≤ a2))) else (some false)
set_option maxHeartbeats 8000000 in
set_option maxRecDepth 100000 in
theorem impl_within.calls (a0 : Int) (a1 : Int) (a2 : Int) (r : Bool) (w : World) (h : impl_within.f a0 a1 a2 = some r) :
  Calls Tryd.prog 33 #[.int .i64 a0, .int .i64 a1, .int .i64 a2] w fun e w' => e = .returned (.bool r) ∧ Drawn0 w w' := by
 have H : (if a0 ≥ a1 then (some (decide (a0 ≤ a2))) else (some false)) = some r := h
 clear h
 by_cases c4 : a0 ≥ a1
 ·rw [if_pos c4] at H
  have c4b0 : decide (a1 ≤ a0) = true := decide_eq_true c4
  clear c4
  obtain rfl := Option.some.inj H
  go_enter Tryd.func33, Tryd.ntmps33
  go_wp2
  go_ret
  exact ⟨by first | rfl | (simp; done) | (simp [*]; done), by repeat (first | exact Drawn0.refl _ | apply Drawn0.step)⟩
 ·rw [if_neg c4] at H
  have c4b0 : decide (a1 ≤ a0) = false := decide_eq_false c4
  clear c4
  obtain rfl := Option.some.inj H
  go_enter Tryd.func33, Tryd.ntmps33
  go_wp2
  go_ret
  exact ⟨by first | rfl | (simp; done) | (simp [*]; done), by repeat (first | exact Drawn0.refl _ | apply Drawn0.step)⟩
/-! ### slices_IndexFunc_int64_int64: function 54 -/
/-- The first index at which p holds, or -1. -/
def slices_IndexFunc_int64_int64.f (p : Int → Bool) (l : List Int) : Int := match l.findIdx? p with | some i => i | none => -1
theorem slices_IndexFunc_int64_int64.hit (p : Int → Bool) (l : List Int) (k : Nat) (hk : k < l.length) (h : p (l.getD k 0) = true) (hb : ∀ j, j < k → p (l.getD j 0) = false) : slices_IndexFunc_int64_int64.f p l = k := by
 unfold slices_IndexFunc_int64_int64.f
 have : l.findIdx? p = some k := by
  rw [List.findIdx?_eq_some_iff_getElem]
  refine ⟨hk, by simpa [List.getD, hk] using h, fun j hj => ?_⟩
  have := hb j hj
  have hjl : j < l.length := by omega
  simpa [List.getD, hjl] using this
 rw [this]
theorem slices_IndexFunc_int64_int64.miss (p : Int → Bool) (l : List Int) (hb : ∀ j, j < l.length → p (l.getD j 0) = false) : slices_IndexFunc_int64_int64.f p l = -1 := by
 unfold slices_IndexFunc_int64_int64.f
 have : l.findIdx? p = none := by
  rw [List.findIdx?_eq_none_iff]
  intro x hx
  obtain ⟨j, hj, rfl⟩ := List.getElem_of_mem hx
  have := hb j hj
  simpa [List.getD, hj] using this
 rw [this]
set_option maxHeartbeats 2000000 in
theorem slices_IndexFunc_int64_int64.calls_some (p : Int → Bool) (g : Nat) (lb : Array Value) (eg : ∀ args w, (callFunc g args).run Tryd.prog w = .ok (.enter g args) w) (ad : Addr) (c : Nat) (l : List Int) (w : World) (hr : Kd.C (Kd.int .i64) w (some ad) l.length l)
  (hp : ∀ (x : Int) (W : World), Below w.heap.size w W → Calls Tryd.prog g (#[.int .i64 x] ++ lb) W fun e w' => e = .returned (.bool (p x)) ∧ Below w.heap.size w w') :
  Calls Tryd.prog 54 #[.slice (some ad) l.length c, .func (.func g) #[] lb] w fun e w' => e = .returned (.int .i64 (slices_IndexFunc_int64_int64.f p l)) ∧ Below w.heap.size w w' := by
 have hbig := Kd.C_max hr
 have hcells : Aside0 (∀ (wr : World) (kk : Nat), Below w.heap.size w wr → kk < l.length → wr.cell? (ad.add kk) = some (.int .i64 (l.getD kk 0))) := ⟨fun wr kk hb hlt => by
  obtain ⟨ad', hA, hcell⟩ := Kd.at_int (Kd.C_below hr hb) (kk : Int) (by omega) (by omega)
  cases hA
  rw [Int.toNat_natCast] at hcell
  rw [hcell]; unfold rd; rw [Int.toNat_natCast]⟩
 have HP := Aside0.mk hp
 clear hr hp
 go_enter Tryd.func54, Tryd.ntmps54
 go_wp2
 go_loopg [5, 8] l.length (fun gg _ s8 wr => ∃ kk : Nat, kk ≤ l.length ∧ l.length - kk ≤ gg ∧ s8 = .int .i64 kk ∧ Aside0 (Below w.heap.size w wr) ∧ Aside0 (∀ j, j < kk → p (l.getD j 0) = false))
 case atStart => exact ⟨0, Nat.zero_le _, by omega, rfl, ⟨Below.refl _ w⟩, ⟨fun j hj => absurd hj (Nat.not_lt_zero _)⟩⟩
 case round =>
  obtain ⟨kk, hkk, hg, rfl, BW, AA⟩ := hrel
  by_cases hlt : kk < l.length
  ·have hltz : (kk : Int) < (l.length : Int) := by omega
   have hcell := hcells.out wr kk BW.out hlt
   have hcall := HP.out (l.getD kk 0) wr BW.out
   generalize hy : l.getD kk 0 = y at hcell hcall
   have hrd : Aside0 (l.getD kk 0 = y) := ⟨hy⟩
   clear hy
   cases hq : p y with
   | true =>
    rw [hq] at hcall
    have hq' : Aside0 (p y = true) := ⟨hq⟩
    clear hq
    go_wp2_with (go_at_fn g; refine hcall.mono ?_; rintro e w' ⟨rfl, hb'⟩)
    go_ret
    refine ⟨?_, hb'⟩
    rw [slices_IndexFunc_int64_int64.hit p l kk hlt (by rw [hrd.out]; exact hq'.out) AA.out]
    rfl
   | false =>
    rw [hq] at hcall
    have hq' : Aside0 (p y = false) := ⟨hq⟩
    clear hq
    go_wp2_with (go_at_fn g; refine hcall.mono ?_; rintro e w' ⟨rfl, hb'⟩)
    go_roundg (l.length - (kk + 1))
    case measure => omega
    case rel =>
     refine ⟨kk + 1, by omega, by omega, by go_num, ⟨hb'⟩, ⟨fun j hj => ?_⟩⟩
     by_cases e : j = kk
     ·subst e
      rw [hrd.out]; exact hq'.out
     ·exact AA.out j (by omega)
  ·have hltz : ¬ (kk : Int) < (l.length : Int) := by omega
   obtain rfl : kk = l.length := by omega
   go_wp2
   go_ret
   refine ⟨?_, BW.out⟩
   rw [slices_IndexFunc_int64_int64.miss p l AA.out]
   rfl
set_option maxHeartbeats 2000000 in
theorem slices_IndexFunc_int64_int64.calls_empty (p : Int → Bool) (A : Option Addr) (c : Nat) (fv : Value) (w : World) :
  Calls Tryd.prog 54 #[.slice A 0 c, fv] w fun e w' => e = .returned (.int .i64 (slices_IndexFunc_int64_int64.f p [])) ∧ Below w.heap.size w w' := by
 go_enter Tryd.func54, Tryd.ntmps54
 go_wp2
 go_loopg [5, 8] 0 (fun _ _ s8 wr => s8 = .int .i64 0 ∧ wr = w)
 case atStart => exact ⟨rfl, rfl⟩
 case round =>
  obtain ⟨rfl, rfl⟩ := hrel
  go_wp2
  go_ret
  exact ⟨rfl, Below.refl _ _⟩
theorem slices_IndexFunc_int64_int64.calls (p : Int → Bool) (g : Nat) (lb : Array Value) (eg : ∀ args w, (callFunc g args).run Tryd.prog w = .ok (.enter g args) w) (A : Option Addr) (c : Nat) (l : List Int) (w : World) (hr : Kd.C (Kd.int .i64) w A l.length l)
  (hp : ∀ (x : Int) (W : World), Below w.heap.size w W → Calls Tryd.prog g (#[.int .i64 x] ++ lb) W fun e w' => e = .returned (.bool (p x)) ∧ Below w.heap.size w w') :
  Calls Tryd.prog 54 #[.slice A l.length c, .func (.func g) #[] lb] w fun e w' => e = .returned (.int .i64 (slices_IndexFunc_int64_int64.f p l)) ∧ Below w.heap.size w w' := by
 cases l with
 | nil => exact slices_IndexFunc_int64_int64.calls_empty p A c _ w
 | cons x xs =>
  obtain ⟨ad, rfl, _⟩ := hr.2.2 (by simp)
  exact slices_IndexFunc_int64_int64.calls_some p g lb eg ad c (x :: xs) w hr hp
/-! ### slices_ContainsFunc_int64_int64: function 45 -/
theorem slices_ContainsFunc_int64_int64.any_of (p : Int → Bool) (l : List Int) : decide (0 ≤ slices_IndexFunc_int64_int64.f p l) = l.any p := by
 unfold slices_IndexFunc_int64_int64.f
 cases h : l.findIdx? p with
 | none =>
  have : l.any p = false := by
   rw [List.any_eq_false]
   intro x hx
   simpa using List.findIdx?_eq_none_iff.1 h x hx
  rw [this]; rfl
 | some i =>
  have : l.any p = true := by
   obtain ⟨hi, hp, _⟩ := List.findIdx?_eq_some_iff_getElem.1 h
   exact List.any_eq_true.2 ⟨_, List.getElem_mem hi, hp⟩
  rw [this]; simp
set_option maxHeartbeats 1000000 in
theorem slices_ContainsFunc_int64_int64.calls (p : Int → Bool) (g : Nat) (lb : Array Value) (eg : ∀ args w, (callFunc g args).run Tryd.prog w = .ok (.enter g args) w) (A : Option Addr) (c : Nat) (l : List Int) (w : World) (hr : Kd.C (Kd.int .i64) w A l.length l)
  (hp : ∀ (x : Int) (W : World), Below w.heap.size w W → Calls Tryd.prog g (#[.int .i64 x] ++ lb) W fun e w' => e = .returned (.bool (p x)) ∧ Below w.heap.size w w') :
  Calls Tryd.prog 45 #[.slice A l.length c, .func (.func g) #[] lb] w fun e w' => e = .returned (.bool (l.any p)) ∧ Below w.heap.size w w' := by
 have hcon := slices_IndexFunc_int64_int64.calls p g lb eg A c l w hr hp
 rw [← slices_ContainsFunc_int64_int64.any_of p l]
 generalize slices_IndexFunc_int64_int64.f p l = r at hcon
 clear hp hr
 go_enter Tryd.func45, Tryd.ntmps45
 go_wp2_with (go_at_call 54; refine hcon.mono ?_; rintro e w' ⟨rfl, hb'⟩)
 go_ret
 exact ⟨rfl, hb'⟩
/-! ### impl_allWithin: function 34 -/
theorem impl_allWithin.pred (a1 a2 : Int) (B C : Nat) (W : World) (hB : W.cell? ⟨B, 0, none⟩ = some (.int .i64 a1)) (hC : W.cell? ⟨C, 0, none⟩ = some (.int .i64 a2)) (x : Int) :
  Calls Tryd.prog 46 (#[.int .i64 x] ++ #[.pointer (some ⟨B, 0, none⟩), .pointer (some ⟨C, 0, none⟩)]) W fun e w' => e = .returned (.bool (!(decide (x ≥ a1) && decide (x ≤ a2)))) ∧ Below W.heap.size W w' := by
 show Calls Tryd.prog 46 #[.int .i64 x, .pointer (some ⟨B, 0, none⟩), .pointer (some ⟨C, 0, none⟩)] W _
 have hcon := impl_within.calls x a1 a2 (decide (x ≥ a1) && decide (x ≤ a2)) W (by unfold impl_within.f; by_cases h : x ≥ a1 <;> simp [h])
 generalize (decide (x ≥ a1) && decide (x ≤ a2)) = r at hcon ⊢
 go_enter Tryd.func46, Tryd.ntmps46
 go_wp2_with (go_at_call 33; refine hcon.mono ?_; rintro e w' ⟨rfl, hb'⟩)
 go_ret
 exact ⟨rfl, hb'.below⟩
/-- All numbers from a1 to a2. -/
def impl_allWithin.f (l0 : List Int) (a1 a2 : Int) : Option Bool := some (!(l0.any fun x => !(decide (x ≥ a1) && decide (x ≤ a2))))
set_option maxHeartbeats 1000000 in
theorem impl_allWithin.calls (A0 : Option Addr) (c0 : Nat) (l0 : List Int) (a1 : Int) (a2 : Int) (r : Bool) (w : World) (hr0 : Kd.C (Kd.int .i64) w A0 l0.length l0) (hc0 : l0.length ≤ c0) (h : impl_allWithin.f l0 a1 a2 = some r) :
  Calls Tryd.prog 34 #[.slice A0 l0.length c0, .int .i64 a1, .int .i64 a2] w fun e w' => e = .returned (.bool r) ∧ Below w.heap.size w w' := by
 obtain rfl := Option.some.inj h
 clear h
 have eg : ∀ args w, (callFunc 46 args).run Tryd.prog w = .ok (.enter 46 args) w := enters_of Tryd.func46 (by kernel_rfl) rfl
 have b1 : Below w.heap.size w ((w.alloc (.cells #[.int .i64 a1] 2)).alloc (.cells #[.int .i64 a2] 2)) := below_alloc (below_alloc (Below.refl _ w) _) _
 have hcon := slices_ContainsFunc_int64_int64.calls (fun x => !(decide (x ≥ a1) && decide (x ≤ a2))) 46 #[.pointer (some ⟨w.heap.size, 0, none⟩), .pointer (some ⟨w.heap.size + 1, 0, none⟩)] eg A0 c0 l0 ((w.alloc (.cells #[.int .i64 a1] 2)).alloc (.cells #[.int .i64 a2] 2)) (Kd.C_below hr0 b1)
  (fun x W hb => (impl_allWithin.pred a1 a2 w.heap.size (w.heap.size + 1) W ((hb.cell (p := ⟨w.heap.size, 0, none⟩) (by simp <;> omega)).trans (by simp)) ((hb.cell (p := ⟨w.heap.size + 1, 0, none⟩) (by simp <;> omega)).trans (by simp)) x).mono fun e w' ⟨he, hb'⟩ => ⟨he, below_then hb hb.size hb'⟩)
 generalize (l0.any fun x => !(decide (x ≥ a1) && decide (x ≤ a2))) = r at hcon ⊢
 clear hr0
 go_enter Tryd.func34, Tryd.ntmps34
 go_wp2_with (go_at_call 45; refine hcon.mono ?_; rintro e w' ⟨rfl, hb'⟩)
 go_ret
 exact ⟨rfl, below_then b1 (by simp <;> omega) hb'⟩
/-! ### impl_IsFrieze: function 19 -/
def impl_IsFrieze.f (a0_0 : Int) (a0_1 : Int) (l0_2 : List Int) : Option (Bool) := (impl_within.f a0_0 1 6).bind fun t120 => (if t120 = true then ((impl_within.f a0_1 1 24).bind fun t121 => (if t121 = true then (if (l0_2.length : Int) = (wrap64 (a0_0 * a0_1)) then ((impl_allWithin.f l0_2 0 9).bind fun t122 => (some t122)) else (some false)) else (some false))) else (some false))
set_option maxHeartbeats 8000000 in
set_option maxRecDepth 100000 in
theorem impl_IsFrieze.calls (a0_0 : Int) (a0_1 : Int) (A0_2 : Option Addr) (c0_2 : Nat) (l0_2 : List Int) (r : Bool) (w : World) (hr0_2 : Kd.C (Kd.int .i64) w A0_2 l0_2.length l0_2) (hc0_2 : l0_2.length ≤ c0_2) (h : impl_IsFrieze.f a0_0 a0_1 l0_2 = some r) :
  Calls Tryd.prog 19 #[.agg #[.int .i64 a0_0, .int .i64 a0_1, .slice A0_2 l0_2.length c0_2]] w fun e w' => e = .returned (.bool r) ∧ Below w.heap.size w w' := by
 have hu28 := Tryd.underlying28
 have HR0_2 := Aside0.mk hr0_2
 have HC0_2 := Aside0.mk hc0_2
 clear hr0_2 hc0_2
 have HB := asd (Below.refl w.heap.size w)
 have H : ((impl_within.f a0_0 1 6).bind fun t120 => (if t120 = true then ((impl_within.f a0_1 1 24).bind fun t121 => (if t121 = true then (if (l0_2.length : Int) = (wrap64 (a0_0 * a0_1)) then ((impl_allWithin.f l0_2 0 9).bind fun t122 => (some t122)) else (some false)) else (some false))) else (some false))) = some r := h
 clear h
 obtain ⟨t120, A2, H⟩ := ob H
 try dsimp only at H
 by_cases c3 : t120 = true
 subst c3
 replace H := ifT H
 obtain ⟨t121, A4, H⟩ := ob H
 try dsimp only at H
 by_cases c5 : t121 = true
 subst c5
 replace H := ifT H
 by_cases c6 : (l0_2.length : Int) = (wrap64 (a0_0 * a0_1))
 rw [if_pos c6] at H
 have c6b0 : ((l0_2.length : Int) == (wrap64 (a0_0 * a0_1))) = true := beq_iff_eq.mpr c6
 have c6b1 : ((l0_2.length : Int) != (wrap64 (a0_0 * a0_1))) = false := bne_eq_false_iff_eq.mpr c6
 clear c6
 obtain ⟨t122, A7, H⟩ := ob H
 try dsimp only at H
 obtain rfl := Option.some.inj H
 rotate_left
 rw [if_neg c6] at H
 have c6b0 : ((l0_2.length : Int) == (wrap64 (a0_0 * a0_1))) = false := beq_eq_false_iff_ne.mpr c6
 have c6b1 : ((l0_2.length : Int) != (wrap64 (a0_0 * a0_1))) = true := bne_iff_ne.mpr c6
 obtain rfl := Option.some.inj H
 rotate_left
 replace c5 := Bool.eq_false_iff.mpr c5
 subst c5
 replace H := ifF H
 obtain rfl := Option.some.inj H
 rotate_left
 replace c3 := Bool.eq_false_iff.mpr c3
 subst c3
 replace H := ifF H
 obtain rfl := Option.some.inj H
 rotate_left
 all_goals
  go_enter Tryd.func19, Tryd.ntmps19
  go_wp2_with (first | ((with_reducible refine gd 1 rfl ?_); (try (refine gate_guard (by rfl) ?_; dsimp only)); refine bx #[.int .i64 a0_0, .int .i64 a0_1, .slice A0_2 l0_2.length c0_2] 28 ?_; intro gb119 hg w8 BK119 hb; have GE119 := ngw0 hg HB; replace HB := bS0 HB hb; clear hb hg; obtain ⟨hcz9_0, hcz9_1, hcz9_2, hfz9_0, hfz9_1, hfz9_2⟩ := bz3 BK119) | ((with_reducible refine gate_callee (f := 33) rfl ?_); refine gl 5 Tryd.func33 #[.int .i64 a0_0, .int .i64 1, .int .i64 6] ?_; (with_reducible refine (impl_within.calls _ _ _ _ _ A2.out).mono ?_); rintro e w' ⟨rfl, ⟨nd, rfl⟩⟩; refine ⟨_, rfl, ?_⟩) | (go_at_call 33; (with_reducible refine (impl_within.calls _ _ _ _ _ A4.out).mono ?_); rintro e w' ⟨rfl, ⟨nd, rfl⟩⟩) | (go_at_call 34; (with_reducible refine (impl_allWithin.calls _ _ _ _ _ _ _ ?side1 ?side2 A7.out).mono ?_); (case side1 => exact ks (Kd.C_below HR0_2.out (bbw1 HB GE119))); (case side2 => exact HC0_2.out); rintro e w10 ⟨rfl, hb⟩; replace BK119 := bB BK119 hb; replace HB := bS1 HB GE119 hb; (try clear hb)))
  go_ret
  exact er (bbw1 HB GE119)
/-! ### texts: function 99998 -/
/-- What the package-level variables that the library reads hold. -/
structure texts.Tab (w : World) : Prop where
 pow10 : Lib.TabIs Tryd.prog w "internal/strconv.uint64pow10" .u64 Lib.pow10Tab
 maxlen : ∃ m, w.cell? ⟨0, 0, none⟩ = some (.int .i64 m)
theorem texts.cell {w w' : World} {p : Addr} {v : Value} (hb : Below w.heap.size w w') (h : w.cell? p = some v) : w'.cell? p = w.cell? p := hb.cell (World.block_lt_of_cell? w _ h)
theorem texts.tabB {w w' : World} (h : texts.Tab w) (hb : Below w.heap.size w w') : texts.Tab w' :=
 ⟨Go.Joins.tab_stays (show Tryd.prog.globalNamed "internal/strconv.uint64pow10" = some 1 by kernel_rfl) h.pow10 hb (Nat.le_refl _), (let ⟨m, hm⟩ := h.maxlen; ⟨m, (texts.cell hb hm).trans hm⟩)⟩

/-! ### strconv_FormatInt: function 55 -/
/-- A number's text in decimal. -/
def strconv_FormatInt.f (a0 a1 : Int) : Option ByteArray := if (-9223372036854775808 ≤ a0 ∧ a0 ≤ 9223372036854775807) ∧ a1 = 10 then some ⟨(Lib.itoa a0).toArray⟩ else none
theorem strconv_FormatInt.calls (a0 a1 : Int) (r : ByteArray) (w : World) (htab : texts.Tab w) (h : strconv_FormatInt.f a0 a1 = some r) : Calls Tryd.prog 55 #[.int .i64 a0, .int .i64 a1] w fun e w' => e = .returned (.string r) ∧ Below w.heap.size w w' := by
 unfold strconv_FormatInt.f at h
 by_cases hc : (-9223372036854775808 ≤ a0 ∧ a0 ≤ 9223372036854775807) ∧ a1 = 10
 ·rw [if_pos hc] at h
  obtain ⟨⟨h0, h1⟩, rfl⟩ := hc
  obtain rfl := Option.some.inj h
  refine (Tryd.strconv_FormatInt_10 a0 h0 h1 w htab.pow10).mono ?_
  rintro e w' ⟨he, k, os, rfl⟩
  exact ⟨he, rfl, rfl, rfl, by show w.heap.size ≤ (w.heap ++ os).size; rw [Array.size_append]; omega, fun j hj => by show (w.heap ++ os)[j]? = w.heap[j]?; exact Array.getElem?_append_left hj⟩
 ·rw [if_neg hc] at h; cases h
/-! ### impl_text: function 47 -/
def impl_text.f (a0 : Int) : Option (ByteArray) := (strconv_FormatInt.f a0 10).bind fun t123 => (some t123)
set_option maxHeartbeats 8000000 in
set_option maxRecDepth 100000 in
theorem impl_text.calls (a0 : Int) (r : ByteArray) (w : World) (htab : texts.Tab w) (h : impl_text.f a0 = some r) :
  Calls Tryd.prog 47 #[.int .i64 a0] w fun e w' => e = .returned (.string r) ∧ Below w.heap.size w w' := by
 have HTAB := Aside0.mk htab
 clear htab
 have HB := asd (Below.refl w.heap.size w)
 have H : ((strconv_FormatInt.f a0 10).bind fun t123 => (some t123)) = some r := h
 clear h
 obtain ⟨t123, A2, H⟩ := ob H
 try dsimp only at H
 obtain rfl := Option.some.inj H
 go_enter Tryd.func47, Tryd.ntmps47
 go_wp2_with (first | ((with_reducible refine gate_callee (f := 55) rfl ?_); refine gl 4 Tryd.func55 #[.int .i64 a0, .int .i64 10] ?_; (with_reducible refine (strconv_FormatInt.calls _ _ _ _ (texts.tabB HTAB.out (by repeat (first | (with_reducible first | exact HB.out | exact Below.refl _ _ | apply below_alloc | apply pw_below_drewN | apply below_drew1) | exact HB.out))) A2.out).mono ?_); rintro e w3 ⟨rfl, hb⟩; refine ⟨_, rfl, ?_⟩; replace HB := bS0 HB hb; (try clear hb)))
 go_ret
 exact er (bbw0 HB)
/-! ### strings_Join: function 48 -/
/-- The elements with a text between them. -/
def strings_Join.f (l0 : List ByteArray) (a1 : ByteArray) : Option ByteArray := if l0.length ≤ 140737488355328 ∧ (Lib.join (l0.map (·.data.toList)) a1.data.toList).length ≤ 140737488355328 then some ⟨(Lib.join (l0.map (·.data.toList)) a1.data.toList).toArray⟩ else none
/-- A row of texts that lies in a block of its own. -/
def strings_Join.RC (w : World) (A : Option Addr) (xs : List ByteArray) : Prop := Kd.C Kd.string w A xs.length xs ∧ (xs = [] ∨ ∃ g, A = some ⟨g, 0, none⟩ ∧ g < w.heap.size)
theorem strings_Join.rows {e : Nat} {w : World} {base : Nat} {ok : Nat → Prop} {A : Option Addr} {c n : Nat} {xs : List ByteArray} (h : Kd.R Kd.string e w base ok (.slice A n c) xs) : strings_Join.RC w A xs := by
 have hC := (Kd.R_reads' h).2.2
 obtain ⟨inner, ho, hr⟩ := h.2
 rcases ho.2 with ⟨h1, h2⟩ | ⟨g, cap, cur, h1, _, hg, _⟩
 ·exact ⟨hC, Or.inl (List.eq_nil_of_length_eq_zero h2)⟩
 ·injection h1 with h3 h4 h5
  subst h3
  exact ⟨hC, Or.inr ⟨g, rfl, (Array.getElem?_eq_some_iff.1 hg).1⟩⟩
theorem strings_Join.calls (A0 : Option Addr) (c0 : Nat) (l0 : List ByteArray) (a1 : ByteArray) (r : ByteArray) (w : World) (hr0 : strings_Join.RC w A0 l0) (hc0 : l0.length ≤ c0) (h : strings_Join.f l0 a1 = some r) : Calls Tryd.prog 48 #[.slice A0 l0.length c0, .string a1] w fun e w' => e = .returned (.string r) ∧ Below w.heap.size w w' := by
 obtain ⟨hC, hg⟩ := hr0
 unfold strings_Join.f at h
 by_cases hc : l0.length ≤ 140737488355328 ∧ (Lib.join (l0.map (·.data.toList)) a1.data.toList).length ≤ 140737488355328
 ·rw [if_pos hc] at h
  obtain rfl := Option.some.inj h
  rcases hg with rfl | ⟨g, rfl, hlt⟩
  ·exact (Tryd.strings_Join_none A0 c0 a1 w).mono fun e w' ⟨he, hw⟩ => ⟨he, hw ▸ Below.refl _ _⟩
  ·refine Tryd.strings_Join g 0 c0 l0 a1 w (fun j x hx => ?_) hlt hc.1 hc0 hc.2
   have hj : 0 < l0.length := by
    have := (List.getElem?_eq_some_iff.1 hx).1
    omega
   obtain ⟨ad, e, hrow⟩ := hC.2.2 hj
   obtain rfl := Option.some.inj e
   obtain ⟨c, hlen, hK, hcell⟩ := hrow j x hx
   have hK : c = [.string x] := hK
   subst hK
   have := hcell 0 _ rfl
   rw [add_plain, show Kd.string.sz = 1 from rfl, Nat.mul_one, Nat.add_zero] at this
   rw [Nat.zero_add]; exact this
 ·rw [if_neg hc] at h; cases h
/-! ### impl_joined: function 36 -/
def impl_joined.l0 : Nat → ByteArray → List ByteArray → List Int → Int → Int → Option (ByteArray)
 | 0, _, _, _, _, _ => none
 | k + 1, x0, x5, x9, x10, x11 => if x11 < x10 then (if 0 ≤ x11 then (if x11 < (x9.length : Int) then ((impl_text.f (rd x9 x11)).bind fun t128 => (if x5.length < 8796093022208 then (impl_joined.l0 k x0 (x5 ++ [t128]) x9 x10 (wrap64 (x11 + 1))) else (none))) else (none)) else (none)) else ((strings_Join.f x5 x0).bind fun t132 => (some t132))
def impl_joined.f (k : Nat) (a0 : ByteArray) (l1 : List Int) : Option (ByteArray) := impl_joined.l0 k a0 (([] : List ByteArray)) l1 (l1.length : Int) 0
set_option maxHeartbeats 8000000 in
set_option maxRecDepth 100000 in
theorem impl_joined.calls (k : Nat) (a0 : ByteArray) (A1 : Option Addr) (c1 : Nat) (l1 : List Int) (r : ByteArray) (w : World) (hr1 : Kd.C (Kd.int .i64) w A1 l1.length l1) (hc1 : l1.length ≤ c1) (htab : texts.Tab w) (h : impl_joined.f k a0 l1 = some r) :
  Calls Tryd.prog 36 #[.string a0, .slice A1 l1.length c1] w fun e w' => e = .returned (.string r) ∧ Below w.heap.size w w' := by
 have HTAB := Aside0.mk htab
 clear htab
 have HR1 := Aside0.mk hr1
 have HC1 := Aside0.mk hc1
 clear hr1 hc1
 have HB := asd (Below.refl w.heap.size w)
 have H : (impl_joined.l0 k a0 (([] : List ByteArray)) l1 (l1.length : Int) 0) = some r := h
 clear h
 obtain ⟨y124, hy124⟩ : ∃ y_ : List ByteArray, y_ = (([] : List ByteArray)) := ⟨_, rfl⟩
 replace H : (impl_joined.l0 k a0 y124 l1 (l1.length : Int) 0) = some r := by first | (rw [hy124]; with_reducible exact H) | (have H2_ := (Option.bind_some _ _).symm.trans H; rw [hy124]; with_reducible exact H2_) | (have H2_ := (Option.bind_some _ _).symm.trans H; with_reducible exact H2_) | with_reducible exact H | (rw [hy124]; exact H) | exact H
 have Ny124 := Aside0.mk hy124
 clear hy124
 have H' := Aside0.mk H
 clear H
 go_enter Tryd.func36, Tryd.ntmps36
 go_wp2_with (first | ((with_reducible refine gd 8 rfl ?_); refine Kd.R_lit Kd.string _ 9 ?hg (N := 8) ?hd (xs := ([] : List ByteArray)) (inner := []) (ok := fun _ => True) (okp := fun _ => True) ?hr ?hp (fun _ hk => hk) trivial (Below.refl _ _) (Nat.le_refl _) (by simp) ?_; (case hd => rfl); (case hg => rfl); (case hr => first | (go_simp; done) | (go_simp; rfl)); (case hp => exact (Reps.none _ _)); intro v125 w3 ho4 hb hg_ hnew_; clear hg_ hnew_; (first | rw [← Ny124.out] at ho4 | (simp only [Int.reduceToNat] at ho4; rw [← Ny124.out] at ho4)); have HO126 := asd (Kd.R_lower ho4 (bsz0 HB)); replace HB := bS0 HB hb; clear hb ho4))
 go_loopg [5, 11] k (fun kq v5 v11 w' => ∃ (x5_1 : List ByteArray) (x11_1 : Int), v11 = .int .i64 x11_1 ∧ Aside0 (impl_joined.l0 kq a0 x5_1 l1 (l1.length : Int) x11_1 = some r) ∧ Aside0 (kq ≤ k) ∧ Aside0 (Kd.R Kd.string 9 w' w.heap.size (fun _ => True) v5 x5_1) ∧ Aside0 (Below w.heap.size w w'))
 case atStart => exact ⟨(y124), (0), (by first | rfl | (simp; done) | (simp [*]; done)), H', ⟨Nat.le_refl _⟩, ⟨by (with_reducible repeat (first | apply Kd.R_alloc | apply Kd.R_drewN | apply Kd.R_drew)); exact HO126.out⟩, ⟨bbw0 HB⟩⟩
 case round =>
  clear H'
  try clear c1
  try clear p2
  try clear c3
  obtain ⟨x5_1, x11_1, rfl, HA, HK1, HO_5, HB⟩ := hrel
  cases gk with
  | zero => exact absurd HA.out (by simp [impl_joined.l0])
  | succ k1 =>
   have H := HA.out
   clear HA
   simp only [impl_joined.l0] at H
   by_cases c5 : x11_1 < (l1.length : Int)
   ·rw [if_pos c5] at H
    have c5b0 := decide_eq_true c5
    clear c5
    by_cases c6 : 0 ≤ x11_1
    ·rw [if_pos c6] at H
     have c6b0 := decide_eq_true c6
     clear c6
     by_cases c7 : x11_1 < (l1.length : Int)
     ·rw [if_pos c7] at H
      have c7b0 := decide_eq_true c7
      clear c7
      obtain ⟨t128, A8, H⟩ := ob H
      try dsimp only at H
      by_cases c9 : x5_1.length < 8796093022208
      ·rw [if_pos c9] at H
       have LMc9 := Aside0.mk c9
       clear c9
       obtain ⟨y129, hy129⟩ : ∃ y_ : List ByteArray, y_ = (x5_1 ++ [t128]) := ⟨_, rfl⟩
       replace H : (impl_joined.l0 k1 a0 y129 l1 (l1.length : Int) (wrap64 (x11_1 + 1))) = some r := by first | (rw [hy129]; with_reducible exact H) | (have H2_ := (Option.bind_some _ _).symm.trans H; rw [hy129]; with_reducible exact H2_) | (have H2_ := (Option.bind_some _ _).symm.trans H; with_reducible exact H2_) | with_reducible exact H | (rw [hy129]; exact H) | exact H
       have Ny129 := Aside0.mk hy129
       clear hy129
       have H' := Aside0.mk H
       clear H
       have p127 : 0 ≤ (x11_1 : Int) := od
       have q127 : x11_1 < (l1.length : Int) := od
       obtain ⟨ad127, e127, hx127_0⟩ := Kd.at_int HR1.out x11_1 p127 q127
       cases e127
       replace hx127_0 := xb HB hx127_0
       replace p127 := eq_true p127
       replace q127 := eq_true q127
       go_wp2_with (first | ((with_reducible refine gate_callee (f := 47) rfl ?_); refine gl 17 Tryd.func47 #[.int .i64 (rd l1 x11_1)] ?_; (with_reducible refine (impl_text.calls _ _ _ (texts.tabB HTAB.out (by repeat (first | (with_reducible first | exact HB.out | exact Below.refl _ _ | apply below_alloc | apply pw_below_drewN | apply below_drew1) | exact HB.out))) A8.out).mono ?_); rintro e w10 ⟨rfl, hb⟩; refine ⟨_, rfl, ?_⟩; replace HO_5 := asd (Kd.R_below (kr HO_5) hb); replace HB := bS0 HB hb; (try clear hb)) | ((with_reducible refine gate_builtin (b := .append) (xs := #[.tmp 15, .tmp 18]) rfl ?_); at_builtin; refine Kd.R_append Kd.string (w0 := w) w.heap.size rfl (.tmp 15) (.tmp 18) 55 9 (.string ⟨#[]⟩) 16 rfl Tryd.underlying55 info9 rfl (by decide) (by omega) u5 x5_1 t128 [.string t128] (fun _ => True) (fun _ => False) rfl rfl ?aP (fun _ hk => hk.elim) ?aF ?aO ?aB ?aS ?aL ?_; (case aP => exact rfl); (case aB => exact (bbw0 HB)); (case aF => exact (fun _ _ => trivial)); (case aO => exact (kr HO_5)); (case aS => exact (bsz0 HB)); (case aL => have := LMc9.out; omega); intro v130 w11 ho hb hg hat; rw [← Ny129.out] at ho; have n0_ := asd (hb); have n1_ := asd (ho); clear HB; clear HO_5; have HB := n0_; have HO131 := n1_; clear n0_ n1_; clear ho hb hg hat))
       go_roundg k1
       case measure => have := HK1.out; omega
       case rel => exact ⟨(y129), (wrap64 (x11_1 + 1)), (by first | rfl | (simp; done) | (simp [*]; done)), H', ⟨by have := HK1.out; omega⟩, ⟨by (with_reducible repeat (first | apply Kd.R_alloc | apply Kd.R_drewN | apply Kd.R_drew)); exact HO131.out⟩, ⟨bbw0 HB⟩⟩
      ·rw [if_neg c9] at H
       exact absurd H (by simp)
     ·rw [if_neg c7] at H
      exact absurd H (by simp)
    ·rw [if_neg c6] at H
     exact absurd H (by simp)
   ·rw [if_neg c5] at H
    have c5b0 := decide_eq_false c5
    clear c5
    obtain ⟨t132, A12, H⟩ := ob H
    try dsimp only at H
    obtain rfl := Option.some.inj H
    obtain ⟨Ao13, co13, eo13⟩ := Kd.R_slice HO_5.out
    subst eo13
    go_wp2_with (first | ((with_reducible refine gate_callee (f := 48) rfl ?_); refine gl 23 Tryd.func48 #[.slice Ao13 x5_1.length co13, .string a0] ?_; (with_reducible refine (strings_Join.calls _ _ _ _ _ _ ?side1 ?side2 A12.out).mono ?_); (case side1 => repeat (first | exact strings_Join.rows HO_5.out | (with_reducible refine Kd.C_alloc ?_ _) | (with_reducible refine Kd.C_drewN ?_ _) | (with_reducible refine Kd.C_drew ?_))); (case side2 => exact (Kd.R_reads' HO_5.out).2.1); rintro e w14 ⟨rfl, hb⟩; refine ⟨_, rfl, ?_⟩; replace HO_5 := asd (Kd.R_below (kr HO_5) hb); replace HB := bS0 HB hb; (try clear hb)))
    go_ret
    exact er (bbw0 HB)
/-! ### impl_digitsText: function 21 -/
def impl_digitsText.f (k : Nat) (l0 : List Int) : Option (ByteArray) := (impl_joined.f k (⟨#[]⟩ : ByteArray) l0).bind fun t133 => (some t133)
set_option maxHeartbeats 8000000 in
set_option maxRecDepth 100000 in
theorem impl_digitsText.calls (k : Nat) (A0 : Option Addr) (c0 : Nat) (l0 : List Int) (r : ByteArray) (w : World) (hr0 : Kd.C (Kd.int .i64) w A0 l0.length l0) (hc0 : l0.length ≤ c0) (htab : texts.Tab w) (h : impl_digitsText.f k l0 = some r) :
  Calls Tryd.prog 21 #[.slice A0 l0.length c0] w fun e w' => e = .returned (.string r) ∧ Below w.heap.size w w' := by
 have HTAB := Aside0.mk htab
 clear htab
 have HR0 := Aside0.mk hr0
 have HC0 := Aside0.mk hc0
 clear hr0 hc0
 have HB := asd (Below.refl w.heap.size w)
 have H : ((impl_joined.f k (⟨#[]⟩ : ByteArray) l0).bind fun t133 => (some t133)) = some r := h
 clear h
 obtain ⟨t133, A2, H⟩ := ob H
 try dsimp only at H
 obtain rfl := Option.some.inj H
 go_enter Tryd.func21, Tryd.ntmps21
 go_wp2_with (first | ((with_reducible refine gate_callee (f := 36) rfl ?_); refine gl 4 Tryd.func36 #[.string (⟨#[]⟩ : ByteArray), .slice A0 l0.length c0] ?_; (with_reducible refine (impl_joined.calls _ _ _ _ _ _ _ ?side1 ?side2 (texts.tabB HTAB.out (by repeat (first | (with_reducible first | exact HB.out | exact Below.refl _ _ | apply below_alloc | apply pw_below_drewN | apply below_drew1) | exact HB.out))) A2.out).mono ?_); (case side1 => exact ks HR0.out); (case side2 => exact HC0.out); rintro e w3 ⟨rfl, hb⟩; refine ⟨_, rfl, ?_⟩; replace HB := bS0 HB hb; (try clear hb)))
 go_ret
 exact er (bbw0 HB)
/-! ### impl_FriezeText: function 8 -/
/-- The texts of some rows, each ended by a newline. -/
def impl_FriezeText.add (k : Nat) (q : Nat) (l : List Int) (s : Option ByteArray) (j : Nat) : Option ByteArray := s.bind fun s => (impl_digitsText.f k ((l.drop (j * q)).take q)).bind fun t => if t.size ≤ 1000 then some (s ++ (t ++ (⟨#[10]⟩ : ByteArray))) else none
def impl_FriezeText.rows (k : Nat) (q : Nat) (l : List Int) (xs : List Nat) : Option ByteArray := xs.foldl (impl_FriezeText.add k q l) (some ⟨#[]⟩)
/-- The text of a frieze: its rows. -/
def impl_FriezeText.f (k : Nat) (a0_0 a0_1 : Int) (l0_2 : List Int) : Option (ByteArray × Int) :=
 (impl_IsFrieze.f a0_0 a0_1 l0_2).bind fun t => if t = true then (if 1 ≤ a0_0 ∧ a0_0 ≤ 6 ∧ 1 ≤ a0_1 ∧ a0_1 ≤ 24 ∧ l0_2.length = a0_0.toNat * a0_1.toNat then (impl_FriezeText.rows k a0_1.toNat l0_2 (List.range a0_0.toNat)).bind fun s => some (s, 0) else none) else some (⟨#[]⟩, 1)
theorem impl_FriezeText.rows_snoc (k q : Nat) (l : List Int) (xs : List Nat) (x : Nat) : impl_FriezeText.rows k q l (xs ++ [x]) = impl_FriezeText.add k q l (impl_FriezeText.rows k q l xs) x := by simp [impl_FriezeText.rows]
theorem impl_FriezeText.rows_parts (k q : Nat) (l : List Int) (n : Nat) : ∀ (xs : List Nat) (s : ByteArray), xs.length ≤ n → impl_FriezeText.rows k q l xs = some s → s.size ≤ 1001 * xs.length ∧ ∀ x ∈ xs, ∃ t, impl_digitsText.f k ((l.drop (x * q)).take q) = some t ∧ t.size ≤ 1000 := by
 induction n with
 | zero =>
  intro xs s hn h
  obtain rfl := List.eq_nil_of_length_eq_zero (Nat.le_zero.1 hn)
  obtain rfl := Option.some.inj h
  exact ⟨Nat.le_refl _, fun x hx => by cases hx⟩
 | succ n ih =>
  intro xs s hn h
  rcases List.eq_nil_or_concat xs with rfl | ⟨ys, y, rfl⟩
  ·obtain rfl := Option.some.inj h
   exact ⟨Nat.le_refl _, fun x hx => by cases hx⟩
  ·rw [List.concat_eq_append] at hn h ⊢
   rw [impl_FriezeText.rows_snoc] at h
   rw [List.length_append, List.length_singleton] at hn ⊢
   obtain ⟨s0, h0, h⟩ := Option.bind_eq_some_iff.1 h
   obtain ⟨t, h1, h⟩ := Option.bind_eq_some_iff.1 h
   by_cases hc : t.size ≤ 1000
   ·rw [if_pos hc] at h
    obtain rfl := Option.some.inj h
    obtain ⟨i1, i2⟩ := ih ys s0 (by omega) h0
    have e1 : (⟨#[10]⟩ : ByteArray).size = 1 := rfl
    refine ⟨by rw [ByteArray.size_append, ByteArray.size_append, e1]; omega, fun x hx => ?_⟩
    rcases List.mem_append.1 hx with hx | hx
    ·exact i2 x hx
    ·obtain rfl := List.mem_singleton.1 hx
     exact ⟨t, h1, hc⟩
   ·rw [if_neg hc] at h; cases h
theorem impl_FriezeText.mods (m : Nat) : (List.range m).map (· % m) = List.range m := by
 conv => rhs; rw [← List.map_id (List.range m)]
 exact List.map_congr_left fun x hx => Nat.mod_eq_of_lt (List.mem_range.1 hx)
/-- What a round keeps: whatever lay below, and the iterator's two boxes. -/
def impl_FriezeText.Kp (n₀ Bs Bn : Nat) (A B : World) : Prop := Below n₀ A B ∧ (∀ v, A.cell? ⟨Bs, 0, none⟩ = some v → B.cell? ⟨Bs, 0, none⟩ = some v) ∧ (∀ v, A.cell? ⟨Bn, 0, none⟩ = some v → B.cell? ⟨Bn, 0, none⟩ = some v)
theorem impl_FriezeText.Kp.t {n₀ Bs Bn : Nat} {A B C : World} (h : impl_FriezeText.Kp n₀ Bs Bn A B) (k : impl_FriezeText.Kp n₀ Bs Bn B C) : impl_FriezeText.Kp n₀ Bs Bn A C := ⟨h.1.trans k.1, fun v e => k.2.1 v (h.2.1 v e), fun v e => k.2.2 v (h.2.2 v e)⟩
theorem impl_FriezeText.Kp.refl (n₀ Bs Bn : Nat) (A : World) : impl_FriezeText.Kp n₀ Bs Bn A A := ⟨Below.refl _ _, fun _ e => e, fun _ e => e⟩
theorem impl_FriezeText.Kp.b {n₀ Bs Bn : Nat} {w : World} (hn : n₀ ≤ w.heap.size) (W : World) (l : Nat) (o o' : Obj) (hl : w.heap.size ≤ l) (h : W.heap[l]? = some o) (hc : o.isCells = false) (hw : o.isWalk = false) : impl_FriezeText.Kp n₀ Bs Bn W (W.putObj l o') :=
 ⟨belowK_b hn W l o o' hl h hc hw, fun v e => cell_kept e (grownBy_putObj' W l o') (fun r e' => by cases e'; exact ⟨_, h, hc⟩), fun v e => cell_kept e (grownBy_putObj' W l o') (fun r e' => by cases e'; exact ⟨_, h, hc⟩)⟩
section
open Go.Shelf
attribute [local go_sem] Oper.semAt_some
set_option maxRecDepth 100000 in
set_option maxHeartbeats 8000000 in
/-- The closure of slices.Chunk: so many numbers a round. -/
theorem impl_FriezeText.chunk1 (F : Fence) (n : Nat) (h35 : F.fn 35) (hro : F.round = none) (hn : 1 ≤ n) (l Bs Bn n₀ m q cap : Nat) (ad : Addr) (hq : 1 ≤ q) (hc : m * q ≤ cap) (hbig : m * q ≤ 100000) (J Jx : List Nat → World → Prop) (hJd : ∀ pre W, J pre W → J pre W.drew)
  (hY : ∀ pre x W, J pre W → pre.length < m → YieldAt F (n - 1) Tryd.prog l #[.slice (some (ad.add (x % m * q))) q q] W fun e W' =>
   (e = .returned (.bool true) ∧ J (pre ++ [x]) W' ∧ impl_FriezeText.Kp n₀ Bs Bn W W') ∨ (e = .returned (.bool false) ∧ Jx (pre ++ [x]) W'))
  (W : World) (hBs : W.cell? ⟨Bs, 0, none⟩ = some (.slice (some ad) (m * q : Nat) cap)) (hBn : W.cell? ⟨Bn, 0, none⟩ = some (.int .i64 q)) (h0 : J [] W) :
  CallsIn F n Tryd.prog 35 #[.func (.yield l) #[] #[], .pointer (some ⟨Bs, 0, none⟩), .pointer (some ⟨Bn, 0, none⟩)] W fun e W' => (∃ v, e = .returned v) ∧
   ((∃ ys, ys = List.range m ∧ J ys W') ∨ (∃ pre, (∃ k, k ≤ m ∧ pre = List.range k) ∧ Jx pre W')) := by
 refine callsIn_of_wp Tryd.func35 rfl h35 ?_ hro
 simp only [Tryd.ntmps35, List.size_toArray, List.length_cons, List.length_nil, Nat.reduceAdd, Nat.reduceSub, Array.replicate_succ, Array.replicate_zero, List.push_toArray, List.append_toArray, List.nil_append, List.cons_append]
 gi_wp2
 gi_loopw [4] (fun i wr => ∃ k : Nat, k ≤ m ∧ i = .int .i64 (k * q : Nat) ∧ J (List.range k) wr ∧ impl_FriezeText.Kp n₀ Bs Bn W wr)
  (fun i _ => m * q - (intOf i).toNat)
 case atStart => exact ⟨0, Nat.zero_le _, by simp, h0, impl_FriezeText.Kp.refl _ _ _ _⟩
 case round =>
  obtain ⟨k, hk, rfl, hJs, hnx⟩ := hrel
  have hs2 := hnx.2.1 _ hBs
  have hn2 := hnx.2.2 _ hBn
  by_cases hlt : k < m
  ·have e1 : (k + 1) * q ≤ m * q := Nat.mul_le_mul_right q hlt
   have e2 : (k + 1) * q = k * q + q := Nat.succ_mul k q
   have hlt' : ((k * q : Nat) : Int) < ((m * q : Nat) : Int) := by omega
   obtain ⟨fn, tmps, assign, body, hy, hR⟩ := hY _ k wr.drew (hJd _ _ hJs) (by rw [List.length_range]; exact hlt)
   rw [Nat.mod_eq_of_lt hlt] at hy
   have hmx : Tryd.prog.follows .mixedOrders = true := by kernel_rfl
   gi_wp2
   gi_region
   all_goals gi_wp2
   all_goals
    refine hR.mono ?_
    rintro e W3 (⟨rfl, hJ3, hk3⟩ | ⟨rfl, hJx3⟩)
    ·have hn3 := hk3.2.2 _ (hn2 : wr.drew.cell? ⟨Bn, 0, none⟩ = some (.int .i64 q))
     gi_wp2
     go_roundw
     case rel => exact ⟨k + 1, by omega, by rw [e2]; simp, by rw [List.range_succ]; exact hJ3, hnx.t (impl_FriezeText.Kp.t ⟨(Below.refl _ _).drew, fun _ e => e, fun _ e => e⟩ hk3)⟩
     case measure => simp [intOf]; omega
    ·gi_wp2
     refine bodyPost_ret (results_none rfl _ _ _) rfl ?_
     exact ⟨⟨_, rfl⟩, .inr ⟨_, ⟨k + 1, by omega, List.range_succ.symm⟩, hJx3⟩⟩
  ·obtain rfl : k = m := by omega
   gi_wp2
   go_end0
   exact ⟨⟨_, rfl⟩, .inl ⟨_, rfl, hJs⟩⟩
theorem impl_FriezeText.stops (F : Fence) (n : Nat) (h35 : F.fn 35) (hro : F.round = none) (hn : 1 ≤ n) (Bs Bn n₀ m q cap : Nat) (ad : Addr) (hq : 1 ≤ q) (hc : m * q ≤ cap) (hbig : m * q ≤ 100000) (w : World) (hBs : w.cell? ⟨Bs, 0, none⟩ = some (.slice (some ad) (m * q : Nat) cap)) (hBn : w.cell? ⟨Bn, 0, none⟩ = some (.int .i64 q)) :
  SeqStopsK F n Tryd.prog 35 #[.pointer (some ⟨Bs, 0, none⟩), .pointer (some ⟨Bn, 0, none⟩)] (fun x : Nat => #[Value.slice (some (ad.add (x % m * q))) q q]) (impl_FriezeText.Kp n₀ Bs Bn) (fun ys => ys = List.range m) (fun pre => ∃ k, k ≤ m ∧ pre = List.range k) m w := fun l J Jx W hW hJ _ hY h0 =>
 impl_FriezeText.chunk1 F n h35 hro hn l Bs Bn n₀ m q cap ad hq hc hbig J Jx (fun pre W h => hJ pre W W.drew none h ⟨rfl, rfl, rfl, Nat.le_refl _, fun _ _ _ => rfl⟩ (fun r e => by cases e)) hY W ((hW.cell (World.block_lt_of_cell? _ _ hBs)).trans hBs) ((hW.cell (World.block_lt_of_cell? _ _ hBn)).trans hBn) h0
set_option maxHeartbeats 2000000 in
/-- slices.Chunk: both arguments are boxed; the function value captures the boxes. -/
theorem impl_FriezeText.chunk (F : Fence) (n : Nat) (h20 : F.fn 20) (hro : F.round = none) (a : Option Addr) (len cap : Nat) (q : Nat) (hq : 1 ≤ q) (w : World) :
  CallsIn F n Tryd.prog 20 #[.slice a len cap, .int .i64 q] w fun e w' => e = .returned (.func (.func 35) #[] #[.pointer (some ⟨w.heap.size, 0, none⟩), .pointer (some ⟨w.heap.size + 1, 0, none⟩)]) ∧ w' = (w.alloc (.cells #[.slice a len cap] 22)).alloc (.cells #[.int .i64 q] 3) := by
 refine callsIn_of_wp Tryd.func20 rfl h20 ?_ hro
 simp only [Tryd.ntmps20, List.size_toArray, List.length_cons, List.length_nil, Nat.reduceAdd, Nat.reduceSub, Array.replicate_succ, Array.replicate_zero, List.push_toArray, List.append_toArray, List.nil_append, List.cons_append]
 have hq' : ¬ (q : Int) < 1 := by omega
 gi_wp2
 go_ret
 exact ⟨by simp, rfl⟩
set_option maxRecDepth 100000 in
set_option maxHeartbeats 8000000 in
theorem impl_FriezeText.calls (k : Nat) (a0_0 a0_1 : Int) (A0_2 : Option Addr) (c0_2 : Nat) (l0_2 : List Int) (r1 : ByteArray) (r2 : Int) (w : World) (hr0_2 : Kd.C (Kd.int .i64) w A0_2 l0_2.length l0_2) (hc0_2 : l0_2.length ≤ c0_2) (htab : texts.Tab w) (h : impl_FriezeText.f k a0_0 a0_1 l0_2 = some (r1, r2)) :
 Calls Tryd.prog 8 #[.agg #[.int .i64 a0_0, .int .i64 a0_1, .slice A0_2 l0_2.length c0_2]] w fun e w' => e = .returned (.tuple #[.string r1, .int .i64 r2]) ∧ Below w.heap.size w w' := by
 have hu28 := Tryd.underlying28
 unfold impl_FriezeText.f at h
 obtain ⟨t, ht, h⟩ := Option.bind_eq_some_iff.1 h
 have HT := Aside0.mk h
 clear h
 obtain ⟨w1, hw1⟩ : ∃ w1, w.alloc (.cells #[.int .i64 a0_0, .int .i64 a0_1, .slice A0_2 l0_2.length c0_2] 28) = w1 := ⟨_, rfl⟩
 have B1 : Below w.heap.size w w1 := by rw [← hw1]; exact (Below.refl _ w).alloc (Nat.le_refl _) _
 have z1 : w1.heap.size = w.heap.size + 1 := by rw [← hw1]; simp
 have C1 : w1.heap[w.heap.size]? = some (.cells #[.int .i64 a0_0, .int .i64 a0_1, .slice A0_2 l0_2.length c0_2] 28) := by rw [← hw1]; exact World.alloc_heap_new w _
 have hz0 : w1.cell? ⟨w.heap.size, 0, none⟩ = some (.int .i64 a0_0) := by simp [World.cell?, C1]
 have hz1 : w1.cell? ⟨w.heap.size, 1, none⟩ = some (.int .i64 a0_1) := by simp [World.cell?, C1]
 have hz2 : w1.cell? ⟨w.heap.size, 2, none⟩ = some (.slice A0_2 l0_2.length c0_2) := by simp [World.cell?, C1]
 have HR := Aside0.mk hr0_2
 have HTAB := Aside0.mk htab
 clear hr0_2 htab C1
 refine (callsIn_wide (n := 10)).1 ?_
 refine callsIn_of_wp_marks Tryd.func8 rfl trivial ?_ rfl
 simp only [Tryd.ntmps8, List.size_toArray, List.length_cons, List.length_nil, Nat.reduceAdd, Nat.reduceSub, Array.replicate_succ, Array.replicate_zero, List.push_toArray, List.append_toArray, List.nil_append, List.cons_append]
 have fin : ∀ t : Bool, t = true ∨ t = false := by decide
 rcases fin t with rfl | rfl
 ·have h := HT.out
  rw [if_pos rfl] at h
  by_cases hd : 1 ≤ a0_0 ∧ a0_0 ≤ 6 ∧ 1 ≤ a0_1 ∧ a0_1 ≤ 24 ∧ l0_2.length = a0_0.toNat * a0_1.toNat
  ·rw [if_pos hd] at h
   obtain ⟨s, hs, h⟩ := Option.bind_eq_some_iff.1 h
   obtain ⟨rfl, rfl⟩ := Prod.mk.inj (Option.some.inj h)
   clear h HT
   obtain ⟨d1, d2, d3, d4, d5⟩ := hd
   obtain ⟨m, rfl⟩ := Int.eq_ofNat_of_zero_le (by omega : 0 ≤ a0_0)
   obtain ⟨q, rfl⟩ := Int.eq_ofNat_of_zero_le (by omega : 0 ≤ a0_1)
   simp only [Int.toNat_natCast] at hs d5
   have hm1 : 1 ≤ m := by omega
   have hq1 : 1 ≤ q := by omega
   have hmq1 : 1 * 1 ≤ m * q := Nat.mul_le_mul hm1 hq1
   have hmq2 : m * q ≤ 6 * 24 := Nat.mul_le_mul (by omega) (by omega)
   obtain ⟨ad, rfl, hcell⟩ := HR.out.2.2 (by omega)
   have HC := Aside0.mk hcell
   have HS := Aside0.mk hs
   have HI := Aside0.mk ht
   have HD := Aside0.mk d5
   have HL := Aside0.mk hc0_2
   clear hcell hs ht d5 hc0_2
   gi_wp2_with (first | (refine ⟨trivial, ?_⟩; gi_at_call 19; refine (callsIn_wide.2 (impl_IsFrieze.calls m q (some ad) c0_2 l0_2 true _ (Kd.C_below HR.out B1) HL.out HI.out)).mono ?_; rintro e w2 ⟨rfl, hb⟩; have B2 := B1.trans (hb.mono (by omega)); have hy1 := (hb.cell (p := ⟨w.heap.size, 1, none⟩) (by simp; omega)).trans hz1; have hy2 := (hb.cell (p := ⟨w.heap.size, 2, none⟩) (by simp; omega)).trans hz2; have z2 : w1.heap.size ≤ w2.heap.size := hb.size; have hu1 := (((Below.refl _ w2).alloc (Nat.le_refl _) (.cells #[.string ⟨#[]⟩] 9)).cell (p := ⟨w.heap.size, 1, none⟩) (by simp; omega)).trans hy1; have hu2 := (((Below.refl _ w2).alloc (Nat.le_refl _) (.cells #[.string ⟨#[]⟩] 9)).cell (p := ⟨w.heap.size, 2, none⟩) (by simp; omega)).trans hy2) | (refine ⟨trivial, ?_⟩; gi_at_call 20; refine (impl_FriezeText.chunk Fence.wide _ trivial rfl _ _ _ q hq1 _).mono ?_; rintro e w3 ⟨rfl, rfl⟩))
   have hm6 : m ≤ 6 := by omega
   obtain ⟨W0, hW0⟩ : ∃ W0, ((w2.alloc (.cells #[.string ⟨#[]⟩] 9)).alloc (.cells #[.slice (some ad) l0_2.length c0_2] 22)).alloc (.cells #[.int .i64 (q : Int)] 3) = W0 := ⟨_, rfl⟩
   have bS : Boxed W0 w2.heap.size 9 (.string ⟨#[]⟩) := by rw [← hW0]; exact ((Boxed.new w2 9 _).alloc _).alloc _
   have bA : Boxed W0 (w2.heap.size + 1) 22 (.slice (some ad) l0_2.length c0_2) := by
    rw [← hW0]
    have := (Boxed.new (w2.alloc (.cells #[.string ⟨#[]⟩] 9)) 22 (.slice (some ad) l0_2.length c0_2)).alloc (.cells #[.int .i64 (q : Int)] 3)
    rwa [World.size_alloc] at this
   have bQ : Boxed W0 (w2.heap.size + 1 + 1) 3 (.int .i64 (q : Int)) := by
    rw [← hW0]
    have := Boxed.new ((w2.alloc (.cells #[.string ⟨#[]⟩] 9)).alloc (.cells #[.slice (some ad) l0_2.length c0_2] 22)) 3 (.int .i64 (q : Int))
    rwa [World.size_alloc, World.size_alloc] at this
   have hsz : W0.heap.size = w2.heap.size + 3 := by rw [← hW0]; simp
   have B3 : Below w.heap.size w W0 := by rw [← hW0]; exact ((B2.alloc (by omega) _).alloc (by simp; omega) _).alloc (by simp; omega) _
   rw [hW0]
   clear hW0 hu1 hu2 hy1 hy2 hz0 hz1 hz2 hw1
   have hbA := bA.cell
   rw [HD.out] at hbA
   refine wpIn_rangeFunc_ownG rfl (by decide) (gf := 35) (lb := #[.pointer (some ⟨w2.heap.size + 1, 0, none⟩), .pointer (some ⟨w2.heap.size + 1 + 1, 0, none⟩)]) rfl trivial (enters_of Tryd.func35 (by kernel_rfl) rfl)
    (impl_FriezeText.stops Fence.wide (10 - 1) trivial rfl (by decide) (w2.heap.size + 1) (w2.heap.size + 1 + 1) w.heap.size m q c0_2 ad hq1 (by rw [← HD.out]; exact HL.out) (by omega) W0 hbA bQ.cell)
    impl_FriezeText.Kp.t (impl_FriezeText.Kp.b (by omega)) (Below.refl _ _) (fun _ => rfl)
    (fun pre W => (∃ t, impl_FriezeText.rows k q l0_2 (pre.map (· % m)) = some t ∧ Boxed W w2.heap.size 9 (.string t)) ∧ Below w.heap.size w W)
    (fun _ _ _ => False)
    (OwnFrom.and (fun s A B row hs hg hr => by
     obtain ⟨t, h1, h2⟩ := hs
     exact ⟨t, h1, h2.kept hg (fun e => by have := (hr _ e.symm).1; omega)⟩) (ownFrom_below (Nat.le_refl _) (by omega)))
    (fun _ _ _ _ _ hs _ _ => hs)
    ⟨⟨⟨#[]⟩, rfl, bS⟩, B3⟩
    (fun x => { tmps := #[.agg #[.int .i64 m, .int .i64 q, .slice (some ad) l0_2.length c0_2], .pointer (some ⟨w.heap.size, 0, none⟩), .string ⟨#[]⟩, .int .i64 0, .pointer (some ⟨w2.heap.size, 0, none⟩), .slice (some (ad.add (x % m * q))) q q, .agg #[.int .i64 m, .int .i64 q, .slice (some ad) l0_2.length c0_2], .bool true, .bool false, .pointer (some ⟨w.heap.size, 2, none⟩), .slice (some ad) l0_2.length c0_2, .pointer (some ⟨w.heap.size, 1, none⟩), .int .i64 q, .func (.func 35) #[] #[.pointer (some ⟨w2.heap.size + 1, 0, none⟩), .pointer (some ⟨w2.heap.size + 1 + 1, 0, none⟩)], .slice (some (ad.add (x % m * q))) q q, undef, undef, undef, undef, undef, undef], defers := [] }) ?assign ?body ?done ?stop
   case assign =>
    intro l x W K hK
    gi_wp2
    exact hK
   case body =>
    rintro l pre x W ⟨⟨t, ht, hbx⟩, hB⟩ hlen
    have hx : x % m < m := Nat.mod_lt _ (by omega)
    obtain ⟨u, hu, hu2⟩ := (impl_FriezeText.rows_parts k q l0_2 m (List.range m) s (by simp) HS.out).2 (x % m) (List.mem_range.2 hx)
    have ht2 := (impl_FriezeText.rows_parts k q l0_2 m (pre.map (· % m)) t (by simp; omega) ht).1
    rw [List.length_map] at ht2
    have hcs := hbx.cell
    have hfr := hbx.frozen
    have hle : x % m * q + q ≤ l0_2.length := by
     have h1 : (x % m + 1) * q ≤ m * q := Nat.mul_le_mul_right q hx
     rw [Nat.succ_mul] at h1
     rw [HD.out]; exact h1
    have hl' : ((l0_2.drop (x % m * q)).take q).length = q := by rw [List.length_take, List.length_drop]; omega
    have hrow : Kd.C (Kd.int .i64) W (some (ad.add (x % m * q))) ((l0_2.drop (x % m * q)).take q).length ((l0_2.drop (x % m * q)).take q) := by
     refine ⟨rfl, by omega, fun _ => ⟨_, rfl, fun j p hj => ?_⟩⟩
     have hjq : j < q := by have := (List.getElem?_eq_some_iff.1 hj).1; omega
     rw [List.getElem?_take, if_pos hjq, List.getElem?_drop] at hj
     obtain ⟨c, c1, c2, c3⟩ := HC.out _ _ hj
     refine ⟨c, c1, c2, fun i y hi => ?_⟩
     have hi0 : i < 1 := by have := (List.getElem?_eq_some_iff.1 hi).1; have : c.length = 1 := c1; omega
     obtain rfl : i = 0 := by omega
     have z := c3 0 y hi
     have z' := (hB.cell (World.block_lt_of_cell? _ _ z)).trans z
     rw [show (ad.add (x % m * q)).add (j * (Kd.int IntKind.i64).sz + 0) = ad.add ((x % m * q + j) * (Kd.int IntKind.i64).sz + 0) by
      show (ad.add (x % m * q)).add (j * 1 + 0) = ad.add ((x % m * q + j) * 1 + 0)
      rw [Nat.mul_one, Nat.mul_one, Nat.add_zero, Nat.add_zero]
      unfold Addr.add
      by_cases e1 : x % m * q = 0
      ·rw [if_pos e1, e1, Nat.zero_add]
      ·by_cases e2 : j = 0
       ·rw [if_neg e1, if_pos e2, e2, Nat.add_zero, if_neg e1]
       ·rw [if_neg e1, if_neg e2, if_neg (by omega)]; simp [Nat.add_assoc]]
     exact z'
    have hBd : Below W.heap.size W W.drew := (Below.refl _ W).drew
    have hc : Calls Tryd.prog 21 #[.slice (some (ad.add (x % m * q))) q q] W.drew fun e w' => e = .returned (.string u) ∧ Below W.drew.heap.size W.drew w' := by
     have := impl_digitsText.calls k (some (ad.add (x % m * q))) q ((l0_2.drop (x % m * q)).take q) u W.drew (Kd.C_below hrow hBd) (by omega) (texts.tabB HTAB.out (hB.trans (hBd.mono (hB.size)))) hu
     rwa [hl'] at this
    have hs1 : u.size + 1 ≤ 9223372036854775807 := by omega
    have hs0 : (u ++ (⟨#[10]⟩ : ByteArray)).size = u.size + 1 := by rw [ByteArray.size_append]; rfl
    have hs2 : t.size + (u ++ (⟨#[10]⟩ : ByteArray)).size ≤ 9223372036854775807 := by omega
    have hcsd : W.drew.cell? ⟨w2.heap.size, 0, none⟩ = some (.string t) := hcs
    have hfrd : W.drew.frozen? ⟨w2.heap.size, 0, none⟩ = false := hfr
    have hmx : Tryd.prog.follows .mixedOrders = true := by kernel_rfl
    have HRow := Aside0.mk hrow
    have HU := Aside0.mk hu
    have HTt := Aside0.mk ht
    clear hrow hu ht
    gi_wp2
    gi_region_with (refine ⟨trivial, ?_⟩; gi_at_call 21; refine (CallsIn.inRound l (callsIn_wide.2 hc)).mono ?_; rintro e w4 ⟨rfl, hb⟩; have hbx4 : Boxed w4 w2.heap.size 9 (.string t) := (hb.block _ hbx.lt).trans hbx; have hcs4 := hbx4.cell; have hfr4 := hbx4.frozen)
    all_goals gi_wp2
    all_goals
     have k1 : KeepsOthers W w4 := ⟨hb.size, fun k o hk _ => (hb.block k (Array.getElem?_eq_some_iff.1 hk).1).trans hk⟩
     have q1 : Below W.heap.size W w4 := hBd.trans hb
     have q2 : Below w.heap.size W w4 := q1.mono hB.size
     refine ⟨(k1.trans (KeepsOthers.setCell _ _ _)).from _, ⟨q2.setCell (p := ⟨w2.heap.size, 0, none⟩) (by show w.heap.size ≤ w2.heap.size; omega) _, fun v e => ?_, fun v e => ?_⟩, ⟨_, ?_, hbx4.set _⟩, (hB.trans q2).setCell (p := ⟨w2.heap.size, 0, none⟩) (by show w.heap.size ≤ w2.heap.size; omega) _⟩
     ·exact (World.cell?_setCell_far w4 ⟨w2.heap.size, 0, none⟩ ⟨w2.heap.size + 1, 0, none⟩ _ (by show w2.heap.size ≠ w2.heap.size + 1; omega)).trans (hbc hb e)
     ·exact (World.cell?_setCell_far w4 ⟨w2.heap.size, 0, none⟩ ⟨w2.heap.size + 1 + 1, 0, none⟩ _ (by show w2.heap.size ≠ w2.heap.size + 1 + 1; omega)).trans (hbc hb e)
     ·rw [List.map_append, List.map_cons, List.map_nil, impl_FriezeText.rows_snoc, HTt.out]
      unfold impl_FriezeText.add
      rw [Option.bind_some, HU.out, Option.bind_some, if_pos hu2]
   case done =>
    rintro D ys W hD rfl ⟨⟨t, ht, hbx⟩, hB⟩ hK
    rw [impl_FriezeText.mods] at ht
    obtain rfl := Option.some.inj (ht.symm.trans HS.out)
    have hcs := hbx.cell
    gi_wp2
    refine ⟨by simp, .inl ⟨_, _, rfl, run_takeDeferred hK, ?_⟩⟩
    exact ⟨_, results_tmp2 rfl _ _ _, rfl, hB.trans (belowK_b (w := w) (Nat.le_refl _) W D _ _ (by omega) hK rfl rfl)⟩
   case stop =>
    rintro D c pre W _ _ h _
    exact h.elim
  ·rw [if_neg hd] at h; cases h
 ·have h := HT.out
  rw [if_neg (by decide)] at h
  obtain ⟨rfl, rfl⟩ := Prod.mk.inj (Option.some.inj h)
  clear h HT
  gi_wp2_with (first | (refine ⟨trivial, ?_⟩; gi_at_call 19; refine (callsIn_wide.2 (impl_IsFrieze.calls a0_0 a0_1 A0_2 c0_2 l0_2 false _ (Kd.C_below HR.out B1) hc0_2 ht)).mono ?_; rintro e w2 ⟨rfl, hb⟩; have B2 := B1.trans (hb.mono (by omega))))
  exact ⟨_, results_tmp2 rfl _ _ _, rfl, B2⟩

end

/-! ### laws_big: function 10 -/
def laws_big.f (l0 : List Int) : Option (Bool) := some (decide ((l0.length : Int) > 4096))
set_option maxHeartbeats 8000000 in
set_option maxRecDepth 100000 in
theorem laws_big.calls (A0 : Option Addr) (c0 : Nat) (l0 : List Int) (r : Bool) (w : World) (hr0 : Kd.C (Kd.int .u8) w A0 l0.length l0) (hc0 : l0.length ≤ c0) (h : laws_big.f l0 = some r) :
  Calls Tryd.prog 10 #[.slice A0 l0.length c0] w fun e w' => e = .returned (.bool r) ∧ Drawn0 w w' := by
 have HR0 := Aside0.mk hr0
 have HC0 := Aside0.mk hc0
 clear hr0 hc0
 have H : (some (decide ((l0.length : Int) > 4096))) = some r := h
 clear h
 obtain rfl := Option.some.inj H
 go_enter Tryd.func10, Tryd.ntmps10
 go_wp2
 go_ret
 exact ⟨by first | rfl | (simp; done) | (simp [*]; done), by repeat (first | exact Drawn0.refl _ | apply Drawn0.step)⟩

/-- A state of type 67 at block g of W; what its slices lead to came in by w0. -/
def IsS67 (w0 W : World) (g : Nat) (f0 : List Int) (f1 : Int) (f2 : Int) : Prop := ∃ A0 c0, W.heap[g]? = some (.cells #[.slice A0 f0.length c0, .int .i64 f1, .int .i64 f2] 67 (0, 0)) ∧ w0.heap.size ≤ g ∧ Kd.C (Kd.int .u8) w0 A0 f0.length f0
theorem IsS67.grown {w0 W : World} {g : Nat} {f0 : List Int} {f1 : Int} {f2 : Int} {W1 : World} {row : Option Nat} (h : IsS67 w0 W g f0 f1 f2) (hw : W.grownBy W1 row) (hne : some g ≠ row) : IsS67 w0 W1 g f0 f1 f2 := by
 obtain ⟨A0, c0, hb, hg, hr0⟩ := h
 exact ⟨A0, c0, blk_grown hb hw hne, hg, hr0⟩
theorem IsS67.own_neN {w0 W : World} {g : Nat} {f0 : List Int} {f1 : Int} {f2 : Int} {α : Type} {d : Kd α} {e : Nat} {base : Nat} {ok : Nat → Prop} {v : Value} {xs : List α} (h : IsS67 w0 W g f0 f1 f2) (ho : Kd.N d e W base ok v xs) (ht : e ≠ 67) : some g ≠ v.ownBlock := by
 obtain ⟨A0, c0, hb, hg, hr0⟩ := h
 exact Kd.N_ne ho hb ht
theorem IsS67.fresh {w0 W : World} {g : Nat} {f0 : List Int} {f1 : Int} {f2 : Int} (h : IsS67 w0 W g f0 f1 f2) : ∀ k, W.heap.size ≤ k → k ≠ g := by
 obtain ⟨A0, c0, hb, hg, hr0⟩ := h
 exact Kd.freshB hb
theorem IsS67.kept {w0 W : World} {g : Nat} {f0 : List Int} {f1 : Int} {f2 : Int} {W1 : World} {S : Nat → Prop} (h : IsS67 w0 W g f0 f1 f2) (hk : Kept W W1 S) (hne : ¬ S g) : IsS67 w0 W1 g f0 f1 f2 := by
 obtain ⟨A0, c0, hb, hg, hr0⟩ := h
 exact ⟨A0, c0, blk_kept hb hk hne, hg, hr0⟩
theorem IsS67.below {w0 W : World} {g : Nat} {f0 : List Int} {f1 : Int} {f2 : Int} {W1 : World} (h : IsS67 w0 W g f0 f1 f2) (hw : Below W.heap.size W W1) : IsS67 w0 W1 g f0 f1 f2 := h.grown (grown_of_below hw none) (by simp)
theorem IsS67.alloc {w0 W : World} {g : Nat} {f0 : List Int} {f1 : Int} {f2 : Int} (h : IsS67 w0 W g f0 f1 f2) (o : Obj) : IsS67 w0 (W.alloc o) g f0 f1 f2 := h.below (below_alloc (Below.refl _ _) o)
theorem IsS67.drewN {w0 W : World} {g : Nat} {f0 : List Int} {f1 : Int} {f2 : Int} (h : IsS67 w0 W g f0 f1 f2) (m : Nat) : IsS67 w0 (W.drewN m) g f0 f1 f2 := h
theorem IsS67.drew {w0 W : World} {g : Nat} {f0 : List Int} {f1 : Int} {f2 : Int} (h : IsS67 w0 W g f0 f1 f2) : IsS67 w0 W.drew g f0 f1 f2 := h
theorem IsS67.at_ {w0 W : World} {g : Nat} {f0 : List Int} {f1 : Int} {f2 : Int} {w' : World} {m : Nat} (hq : W.drewN m = w') (h : IsS67 w0 W g f0 f1 f2) : IsS67 w0 w' g f0 f1 f2 := by subst hq; exact IsS67.drewN h m
theorem IsS67.apart {w0 W : World} {g : Nat} {f0 : List Int} {f1 : Int} {f2 : Int} {α : Type} {d : Kd α} {e : Nat} {base : Nat} {ok : Nat → Prop} {v : Value} {xs : List α} (h : IsS67 w0 W g f0 f1 f2) (ho : d.R e W base ok v xs) (ht : ∀ q, q ∈ e :: d.E → q ≠ 67) : d.R e W base (fun k => ok k ∧ k ≠ g) v xs := by
 obtain ⟨A0, c0, hb, hg, hr0⟩ := h
 exact Kd.R_types ho hb ht
theorem IsS67.own_ne {w0 W : World} {g : Nat} {f0 : List Int} {f1 : Int} {f2 : Int} {α : Type} {d : Kd α} {e : Nat} {base : Nat} {ok : Nat → Prop} {v : Value} {xs : List α} (h : IsS67 w0 W g f0 f1 f2) (ho : d.R e W base ok v xs) (ht : e ≠ 67) : some g ≠ v.ownBlock := by
 obtain ⟨A0, c0, hb, hg, hr0⟩ := h
 exact Kd.R_ne ho hb ht
theorem IsS67.apartQ {w0 W : World} {g : Nat} {f0 : List Int} {f1 : Int} {f2 : Int} {α : Type} {d : Kd α} {e : Nat} {base : Nat} {ok : Nat → Prop} {v : Value} {xs : List α} (h : IsS67 w0 W g f0 f1 f2) (ho : d.Q e W base ok v xs) (ht : ∀ q, q ∈ e :: d.E → q ≠ 67) : d.Q e W base (fun k => ok k ∧ k ≠ g) v xs := by
 obtain ⟨A0, c0, hb, hg, hr0⟩ := h
 exact Kd.Q_types ho hb ht
theorem IsS67.own_neQ {w0 W : World} {g : Nat} {f0 : List Int} {f1 : Int} {f2 : Int} {α : Type} {d : Kd α} {e : Nat} {base : Nat} {ok : Nat → Prop} {v : Value} {xs : List α} (h : IsS67 w0 W g f0 f1 f2) (ho : d.Q e W base ok v xs) (ht : e ≠ 67) : some g ≠ v.ownBlock := by
 obtain ⟨A0, c0, hb, hg, hr0⟩ := h
 exact Kd.Q_ne ho hb ht
theorem IsS67.apartS {w0 W : World} {g : Nat} {f0 : List Int} {f1 : Int} {f2 : Int} {α : Type} {d : Kd α} {e : Nat} {base : Nat} {ok : Nat → Prop} {v : Value} {xs : List α} (h : IsS67 w0 W g f0 f1 f2) (ho : d.S e W base ok v xs) (ht : ∀ q, q ∈ e :: d.E → q ≠ 67) : d.S e W base (fun k => ok k ∧ k ≠ g) v xs := by
 obtain ⟨A0, c0, hb, hg, hr0⟩ := h
 exact Kd.S_types ho hb ht
theorem IsS67.own_neS {w0 W : World} {g : Nat} {f0 : List Int} {f1 : Int} {f2 : Int} {α : Type} {d : Kd α} {e : Nat} {base : Nat} {ok : Nat → Prop} {v : Value} {xs : List α} (h : IsS67 w0 W g f0 f1 f2) (ho : d.S e W base ok v xs) (ht : e ≠ 67) : some g ≠ v.ownBlock := by
 obtain ⟨A0, c0, hb, hg, hr0⟩ := h
 exact Kd.S_ne ho hb ht
theorem IsS67.lt {w0 W : World} {g : Nat} {f0 : List Int} {f1 : Int} {f2 : Int} (h : IsS67 w0 W g f0 f1 f2) : g < W.heap.size := by
 obtain ⟨A0, c0, hb, hg, hr0⟩ := h
 exact blk_lt hb
theorem IsS67.ge {w0 W : World} {g : Nat} {f0 : List Int} {f1 : Int} {f2 : Int} (h : IsS67 w0 W g f0 f1 f2) : w0.heap.size ≤ g := by
 obtain ⟨A0, c0, hb, hg, hr0⟩ := h
 exact hg
theorem IsS67.ne_blk {w0 W : World} {g : Nat} {f0 : List Int} {f1 : Int} {f2 : Int} {a : Nat} {cs : Array Value} {t : TypeId} {fr : Nat × Nat} (h : IsS67 w0 W g f0 f1 f2) (hb2 : W.heap[a]? = some (.cells cs t fr)) (ht : t ≠ 67) : g ≠ a := by
 obtain ⟨A0, c0, hb, hg, hr0⟩ := h
 rintro rfl
 rw [hb] at hb2
 injection hb2 with hb2
 injection hb2 with _ ht2
 exact ht ht2.symm
theorem IsS67.far {w0 W : World} {g : Nat} {f0 : List Int} {f1 : Int} {f2 : Int} {p : Addr} (h : IsS67 w0 W g f0 f1 f2) (hne : g ≠ p.block) (u : Value) : IsS67 w0 (W.setCell p u) g f0 f1 f2 := by
 obtain ⟨A0, c0, hb, hg, hr0⟩ := h
 exact ⟨A0, c0, blk_far hb hne u, hg, hr0⟩
theorem cellS67_0 {W : World} {g : Nat} {A0 : Option Addr} {c0 : Nat} {f0 : List Int} {f1 : Int} {f2 : Int} (h : W.heap[g]? = some (.cells #[.slice A0 f0.length c0, .int .i64 f1, .int .i64 f2] 67 (0, 0))) : W.cell? ⟨g, 0, none⟩ = some (.slice A0 f0.length c0) := (blk_cell h 0).trans rfl
theorem cellS67_1 {W : World} {g : Nat} {A0 : Option Addr} {c0 : Nat} {f0 : List Int} {f1 : Int} {f2 : Int} (h : W.heap[g]? = some (.cells #[.slice A0 f0.length c0, .int .i64 f1, .int .i64 f2] 67 (0, 0))) : W.cell? ⟨g, 1, none⟩ = some (.int .i64 f1) := (blk_cell h 1).trans rfl
theorem IsS67.set_1 {w0 W : World} {g : Nat} {f0 : List Int} {f1 : Int} {f2 : Int} (h : IsS67 w0 W g f0 f1 f2) (x : Int) : IsS67 w0 (W.setCell ⟨g, 1, none⟩ (.int .i64 x)) g f0 x f2 := by
 obtain ⟨A0, c0, hb, hg, hr0⟩ := h
 exact ⟨A0, c0, by simpa using blk_set hb 1 (.int .i64 x), hg, hr0⟩
theorem cellS67_2 {W : World} {g : Nat} {A0 : Option Addr} {c0 : Nat} {f0 : List Int} {f1 : Int} {f2 : Int} (h : W.heap[g]? = some (.cells #[.slice A0 f0.length c0, .int .i64 f1, .int .i64 f2] 67 (0, 0))) : W.cell? ⟨g, 2, none⟩ = some (.int .i64 f2) := (blk_cell h 2).trans rfl
theorem IsS67.set_2 {w0 W : World} {g : Nat} {f0 : List Int} {f1 : Int} {f2 : Int} (h : IsS67 w0 W g f0 f1 f2) (x : Int) : IsS67 w0 (W.setCell ⟨g, 2, none⟩ (.int .i64 x)) g f0 f1 x := by
 obtain ⟨A0, c0, hb, hg, hr0⟩ := h
 exact ⟨A0, c0, by simpa using blk_set hb 2 (.int .i64 x), hg, hr0⟩
theorem IsS67.new (w0 W : World) (A0 : Option Addr) (c0 : Nat) (f0 : List Int) (f1 : Int) (f2 : Int) (hB : Below w0.heap.size w0 W) (hr0 : Kd.C (Kd.int .u8) w0 A0 f0.length f0) : IsS67 w0 (W.alloc (.cells #[.slice A0 f0.length c0, .int .i64 f1, .int .i64 f2] 67)) W.heap.size f0 f1 f2 := ⟨A0, c0, by simpa using heap_alloc_new W _, hB.size, hr0⟩

/-! ### spec_l01Next: function 25 -/
def spec_l01Next.f (s0_0 : List Int) (s0_1 : Int) (s0_2 : Int) (a1 : Int) : Option (Int × Int × Int) := if a1 ≤ 1 then (some (0, s0_1, s0_2)) else (if s0_1 < (s0_0.length : Int) then (if 0 ≤ s0_1 then (if a1 ≤ 256 then (if (Int.tmod (wrap64 (s0_1 + 1)) 2) = 0 then (if 0 ≤ (wrap64 ((wrap64 (s0_1 + 1)) - 1)) then (if (wrap64 ((wrap64 (s0_1 + 1)) - 1)) < (s0_0.length : Int) then (if a1 = 0 then (none) else (some (Int.tmod (wrap64 (rd s0_0 (wrap64 ((wrap64 (s0_1 + 1)) - 1)))) a1, wrap64 (s0_1 + 1), Int.tmod (wrap64 ((wrap64 (s0_2 * 48271)) + 67)) 2147483647))) else (none)) else (none)) else (if a1 = 0 then (none) else (some (Int.tmod (wrap64 ((wrap64 (Int.tdiv (Int.tmod (wrap64 ((wrap64 (s0_2 * 48271)) + 67)) 2147483647) 37)) + (wrap64 (rd s0_0 s0_1)))) a1, wrap64 (s0_1 + 1), Int.tmod (wrap64 ((wrap64 (s0_2 * 48271)) + 67)) 2147483647)))) else (if a1 = 0 then (none) else (some (Int.tmod (wrap64 ((wrap64 (Int.tdiv (Int.tmod (wrap64 ((wrap64 (s0_2 * 48271)) + 67)) 2147483647) 37)) + (wrap64 (rd s0_0 s0_1)))) a1, wrap64 (s0_1 + 1), Int.tmod (wrap64 ((wrap64 (s0_2 * 48271)) + 67)) 2147483647)))) else (none)) else (if a1 = 0 then (none) else (some (Int.tmod (wrap64 (Int.tdiv (Int.tmod (wrap64 ((wrap64 (s0_2 * 48271)) + 67)) 2147483647) 37)) a1, s0_1, Int.tmod (wrap64 ((wrap64 (s0_2 * 48271)) + 67)) 2147483647))))
set_option maxHeartbeats 8000000 in
set_option maxRecDepth 100000 in
theorem spec_l01Next.calls (g : Nat) (s0_0 : List Int) (s0_1 : Int) (s0_2 : Int) (a1 : Int) (r1 : Int) (r2 : Int) (r3 : Int) (w0 w : World) (hI : IsS67 w0 w g s0_0 s0_1 s0_2) (hB : Below w0.heap.size w0 w) (h : spec_l01Next.f s0_0 s0_1 s0_2 a1 = some (r1, r2, r3)) :
  Calls Tryd.prog 25 #[.pointer (some ⟨g, 0, none⟩), .int .i64 a1] w fun e w' => e = .returned (.int .i64 r1) ∧ IsS67 w0 w' g s0_0 r2 r3 ∧ Below w0.heap.size w0 w' ∧ KeepBut w w' g none := by
 have HI0 := Aside0.mk hI
 have HK := asd (KeepBut.refl w g none)
 have HL := Aside0.mk hB.size
 clear hI
 have HW0 := Aside0.mk hB.size
 have HB := Aside0.mk hB
 clear hB
 have H : (if a1 ≤ 1 then (some (0, s0_1, s0_2)) else (if s0_1 < (s0_0.length : Int) then (if 0 ≤ s0_1 then (if a1 ≤ 256 then (if (Int.tmod (wrap64 (s0_1 + 1)) 2) = 0 then (if 0 ≤ (wrap64 ((wrap64 (s0_1 + 1)) - 1)) then (if (wrap64 ((wrap64 (s0_1 + 1)) - 1)) < (s0_0.length : Int) then (if a1 = 0 then (none) else (some (Int.tmod (wrap64 (rd s0_0 (wrap64 ((wrap64 (s0_1 + 1)) - 1)))) a1, wrap64 (s0_1 + 1), Int.tmod (wrap64 ((wrap64 (s0_2 * 48271)) + 67)) 2147483647))) else (none)) else (none)) else (if a1 = 0 then (none) else (some (Int.tmod (wrap64 ((wrap64 (Int.tdiv (Int.tmod (wrap64 ((wrap64 (s0_2 * 48271)) + 67)) 2147483647) 37)) + (wrap64 (rd s0_0 s0_1)))) a1, wrap64 (s0_1 + 1), Int.tmod (wrap64 ((wrap64 (s0_2 * 48271)) + 67)) 2147483647)))) else (if a1 = 0 then (none) else (some (Int.tmod (wrap64 ((wrap64 (Int.tdiv (Int.tmod (wrap64 ((wrap64 (s0_2 * 48271)) + 67)) 2147483647) 37)) + (wrap64 (rd s0_0 s0_1)))) a1, wrap64 (s0_1 + 1), Int.tmod (wrap64 ((wrap64 (s0_2 * 48271)) + 67)) 2147483647)))) else (none)) else (if a1 = 0 then (none) else (some (Int.tmod (wrap64 (Int.tdiv (Int.tmod (wrap64 ((wrap64 (s0_2 * 48271)) + 67)) 2147483647) 37)) a1, s0_1, Int.tmod (wrap64 ((wrap64 (s0_2 * 48271)) + 67)) 2147483647))))) = some (r1, r2, r3) := h
 clear h
 by_cases c3 : a1 ≤ 1
 rw [if_pos c3] at H
 have c3b0 := decide_eq_true c3
 clear c3
 rotate_left
 rw [if_neg c3] at H
 have c3b0 := decide_eq_false c3
 clear c3
 by_cases c4 : s0_1 < (s0_0.length : Int)
 rw [if_pos c4] at H
 have c4b0 := decide_eq_true c4
 clear c4
 by_cases c5 : 0 ≤ s0_1
 rw [if_pos c5] at H
 have c5b0 := decide_eq_true c5
 clear c5
 by_cases c6 : a1 ≤ 256
 rw [if_pos c6] at H
 have c6b0 := decide_eq_true c6
 clear c6
 by_cases c7 : (Int.tmod (wrap64 (s0_1 + 1)) 2) = 0
 rw [if_pos c7] at H
 have c7b0 : ((Int.tmod (wrap64 (s0_1 + 1)) 2) == 0) = true := beq_iff_eq.mpr c7
 have c7b1 : ((Int.tmod (wrap64 (s0_1 + 1)) 2) != 0) = false := bne_eq_false_iff_eq.mpr c7
 clear c7
 obtain ⟨ji8, hji8⟩ : ∃ j_ : Int, (wrap64 ((wrap64 (s0_1 + 1)) - 1)) = j_ := ⟨_, rfl⟩
 replace H : (if 0 ≤ (ji8) then (if (ji8) < (s0_0.length : Int) then (if a1 = 0 then (none) else (some (Int.tmod (wrap64 (rd s0_0 (ji8))) a1, wrap64 (s0_1 + 1), Int.tmod (wrap64 ((wrap64 (s0_2 * 48271)) + 67)) 2147483647))) else (none)) else (none)) = some (r1, r2, r3) := by first | (rw [hji8] at H; first | done | exact H) | (simp only [hji8] at H ⊢; exact H)
 have hji8w : (IntKind.i64.wrap ((wrap64 (s0_1 + 1)) - 1)) = ji8 := (i64_w _).trans hji8
 have hji8x : (IntKind.i64.wrap ((IntKind.i64.wrap (s0_1 + 1)) - 1)) = ji8 := by simp only [i64_w]; exact hji8
 by_cases c9 : 0 ≤ (ji8)
 rw [if_pos c9] at H
 have c9b0 := decide_eq_true c9
 clear c9
 by_cases c10 : (ji8) < (s0_0.length : Int)
 rw [if_pos c10] at H
 have c10b0 := decide_eq_true c10
 clear c10
 by_cases c11 : a1 = 0
 ·rw [if_pos c11] at H
  exact absurd H (by simp)
 rw [if_neg c11] at H
 have c11b0 : (a1 == 0) = false := beq_eq_false_iff_ne.mpr c11
 have c11b1 : (a1 != 0) = true := bne_iff_ne.mpr c11
 rotate_left
 ·rw [if_neg c10] at H
  exact absurd H (by simp)
 ·rw [if_neg c9] at H
  exact absurd H (by simp)
 rw [if_neg c7] at H
 have c7b0 : ((Int.tmod (wrap64 (s0_1 + 1)) 2) == 0) = false := beq_eq_false_iff_ne.mpr c7
 have c7b1 : ((Int.tmod (wrap64 (s0_1 + 1)) 2) != 0) = true := bne_iff_ne.mpr c7
 by_cases c13 : a1 = 0
 ·rw [if_pos c13] at H
  exact absurd H (by simp)
 rw [if_neg c13] at H
 have c13b0 : (a1 == 0) = false := beq_eq_false_iff_ne.mpr c13
 have c13b1 : (a1 != 0) = true := bne_iff_ne.mpr c13
 rotate_left
 rw [if_neg c6] at H
 have c6b0 := decide_eq_false c6
 clear c6
 by_cases c15 : a1 = 0
 ·rw [if_pos c15] at H
  exact absurd H (by simp)
 rw [if_neg c15] at H
 have c15b0 : (a1 == 0) = false := beq_eq_false_iff_ne.mpr c15
 have c15b1 : (a1 != 0) = true := bne_iff_ne.mpr c15
 rotate_left
 ·rw [if_neg c5] at H
  exact absurd H (by simp)
 rw [if_neg c4] at H
 have c4b0 := decide_eq_false c4
 clear c4
 by_cases c17 : a1 = 0
 ·rw [if_pos c17] at H
  exact absurd H (by simp)
 rw [if_neg c17] at H
 have c17b0 : (a1 == 0) = false := beq_eq_false_iff_ne.mpr c17
 have c17b1 : (a1 != 0) = true := bne_iff_ne.mpr c17
 rotate_left
 all_goals
  simp only [Option.some.injEq, Prod.mk.injEq] at H
  obtain ⟨rfl, rfl, rfl⟩ := H
 ·go_enter Tryd.func25, Tryd.ntmps25
  go_wp2
  repeat (go_quiet (fail); try go_wp2)
  go_ret
  exact ⟨by first | rfl | (simp [errW_none, errW_some] <;> rfl) | (simp [*, errW_none, errW_some] <;> rfl), by repeat (first | (with_reducible first | exact HI0.out | apply IsS67.alloc | apply IsS67.drewN | apply IsS67.drew | apply IsS67.set_1 | apply IsS67.set_2) | exact HI0.out), by repeat (first | (with_reducible first | exact HB.out | apply below_alloc | apply pw_below_drewN | apply below_drew1 | refine below_set ?_ (IsS67.ge HI0.out)) | exact HB.out), by repeat (first | (with_reducible first | exact HK.out | apply KeepBut.set_ | apply keep_drewN | apply keep_drew | apply keep_alloc) | exact HK.out)⟩
 rotate_left 3
 ·obtain ⟨ASz18_0, cSz18_0, HGz18, hgz18, HSz18_0⟩ := HI0.out
  have hcz18_0 := cellS67_0 HGz18
  have hcz18_1 := cellS67_1 HGz18
  have hcz18_2 := cellS67_2 HGz18
  have hfz18_1 := blk_frozen HGz18 1
  have hfz18_2 := blk_frozen HGz18 2
  clear HGz18 hgz18
  go_enter Tryd.func25, Tryd.ntmps25
  go_wp2
  repeat (go_quiet (fail); try go_wp2)
  go_ret
  exact ⟨by first | rfl | (simp [errW_none, errW_some] <;> rfl) | (simp [*, errW_none, errW_some] <;> rfl), by repeat (first | (with_reducible first | exact HI0.out | apply IsS67.alloc | apply IsS67.drewN | apply IsS67.drew | apply IsS67.set_1 | apply IsS67.set_2) | exact HI0.out), by repeat (first | (with_reducible first | exact HB.out | apply below_alloc | apply pw_below_drewN | apply below_drew1 | refine below_set ?_ (IsS67.ge HI0.out)) | exact HB.out), by repeat (first | (with_reducible first | exact HK.out | apply KeepBut.set_ | apply keep_drewN | apply keep_drew | apply keep_alloc) | exact HK.out)⟩
 all_goals
  obtain ⟨ASz12_0, cSz12_0, HGz12, hgz12, HSz12_0⟩ := HI0.out
  have hcz12_0 := cellS67_0 HGz12
  have hcz12_1 := cellS67_1 HGz12
  have hcz12_2 := cellS67_2 HGz12
  have hfz12_1 := blk_frozen HGz12 1
  have hfz12_2 := blk_frozen HGz12 2
  clear HGz12 hgz12
  have p134 : 0 ≤ (s0_1 : Int) := od
  have q134 : s0_1 < (s0_0.length : Int) := od
  obtain ⟨ad134, e134, hx134_0⟩ := Kd.at_int HSz12_0 s0_1 p134 q134
  cases e134
  have hn134_0 : ad134.block ≠ g := Nat.ne_of_lt (Nat.lt_of_lt_of_le (by have := World.block_lt_of_cell? _ _ hx134_0; first | rwa [add_block] at this | exact this) (IsS67.ge HI0.out))
  replace hx134_0 := pw_cell_below HB.out hx134_0
  replace hx134_0 := (cell_far (p := ⟨g, 2, none⟩) (by first | (rw [add_block]; exact hn134_0) | (show (Addr.add _ _).block ≠ _; rw [add_block]; exact hn134_0) | exact hn134_0) (.int .i64 (Int.tmod (wrap64 ((wrap64 (s0_2 * 48271)) + 67)) 2147483647))).trans hx134_0
  (try have hy134_0 := fun (n_ : Nat) => (show (((w.drewN n_).setCell ⟨g, 2, none⟩ (.int .i64 (Int.tmod (wrap64 ((wrap64 (s0_2 * 48271)) + 67)) 2147483647)))).cell? _ = some _ from hx134_0))
  clear hn134_0
  replace p134 := eq_true p134
  replace q134 := eq_true q134
 have p135 : 0 ≤ ((ji8) : Int) := od
 have q135 : (ji8) < (s0_0.length : Int) := od
 obtain ⟨ad135, e135, hx135_0⟩ := Kd.at_int HSz12_0 (ji8) p135 q135
 obtain rfl : ad134 = ad135 := (by injection e135)
 have hn135_0 : ad134.block ≠ g := Nat.ne_of_lt (Nat.lt_of_lt_of_le (by have := World.block_lt_of_cell? _ _ hx135_0; first | rwa [add_block] at this | exact this) (IsS67.ge HI0.out))
 have hn135_1 : ad134.block ≠ g := Nat.ne_of_lt (Nat.lt_of_lt_of_le (by have := World.block_lt_of_cell? _ _ hx135_0; first | rwa [add_block] at this | exact this) (IsS67.ge HI0.out))
 replace hx135_0 := pw_cell_below HB.out hx135_0
 replace hx135_0 := (cell_far (p := ⟨g, 2, none⟩) (by first | (rw [add_block]; exact hn135_0) | (show (Addr.add _ _).block ≠ _; rw [add_block]; exact hn135_0) | exact hn135_0) (.int .i64 (Int.tmod (wrap64 ((wrap64 (s0_2 * 48271)) + 67)) 2147483647))).trans hx135_0
 replace hx135_0 := (cell_far (p := ⟨g, 1, none⟩) (by first | (rw [add_block]; exact hn135_1) | (show (Addr.add _ _).block ≠ _; rw [add_block]; exact hn135_1) | exact hn135_1) (.int .i64 (wrap64 (s0_1 + 1)))).trans hx135_0
 (try have hy135_0 := fun (n_ : Nat) => (show ((((w.drewN n_).setCell ⟨g, 2, none⟩ (.int .i64 (Int.tmod (wrap64 ((wrap64 (s0_2 * 48271)) + 67)) 2147483647))).setCell ⟨g, 1, none⟩ (.int .i64 (wrap64 (s0_1 + 1))))).cell? _ = some _ from hx135_0))
 (try have hz135_0 := fun (n_ : Nat) => (show ((((w.setCell ⟨g, 2, none⟩ (.int .i64 (Int.tmod (wrap64 ((wrap64 (s0_2 * 48271)) + 67)) 2147483647))).drewN n_).setCell ⟨g, 1, none⟩ (.int .i64 (wrap64 (s0_1 + 1))))).cell? _ = some _ from hx135_0))
 clear hn135_0
 clear hn135_1
 replace p135 := eq_true p135
 replace q135 := eq_true q135
 rotate_left 3
 all_goals
  go_enter Tryd.func25, Tryd.ntmps25
  go_wp2
  repeat (go_quiet (fail); try go_wp2)
  go_ret
 ·exact ⟨by first | rfl | (simp [errW_none, errW_some] <;> rfl) | (simp only [← hji8]; first | rfl | (simp [errW_none, errW_some] <;> rfl)) | (simp [*, errW_none, errW_some] <;> rfl), by repeat (first | (with_reducible first | exact HI0.out | apply IsS67.alloc | apply IsS67.drewN | apply IsS67.drew | apply IsS67.set_1 | apply IsS67.set_2) | exact HI0.out), by repeat (first | (with_reducible first | exact HB.out | apply below_alloc | apply pw_below_drewN | apply below_drew1 | refine below_set ?_ (IsS67.ge HI0.out)) | exact HB.out), by repeat (first | (with_reducible first | exact HK.out | apply KeepBut.set_ | apply keep_drewN | apply keep_drew | apply keep_alloc) | exact HK.out)⟩
 rotate_left 2
 all_goals
  exact ⟨by first | rfl | (simp [errW_none, errW_some] <;> rfl) | (simp [*, errW_none, errW_some] <;> rfl), by repeat (first | (with_reducible first | exact HI0.out | apply IsS67.alloc | apply IsS67.drewN | apply IsS67.drew | apply IsS67.set_1 | apply IsS67.set_2) | exact HI0.out), by repeat (first | (with_reducible first | exact HB.out | apply below_alloc | apply pw_below_drewN | apply below_drew1 | refine below_set ?_ (IsS67.ge HI0.out)) | exact HB.out), by repeat (first | (with_reducible first | exact HK.out | apply KeepBut.set_ | apply keep_drewN | apply keep_drew | apply keep_alloc) | exact HK.out)⟩
/-! ### spec_l01Pick: function 37 -/
def spec_l01Pick.f (s0_0 : List Int) (s0_1 : Int) (s0_2 : Int) (l1 : List Int) : Option (Int × Int × Int) := (spec_l01Next.f s0_0 s0_1 s0_2 (l1.length : Int)).bind fun bt136 => (if 0 ≤ bt136.1 then (if bt136.1 < (l1.length : Int) then (some (rd l1 bt136.1, bt136.2.1, bt136.2.2)) else (none)) else (none))
set_option maxHeartbeats 8000000 in
set_option maxRecDepth 100000 in
theorem spec_l01Pick.calls (g : Nat) (s0_0 : List Int) (s0_1 : Int) (s0_2 : Int) (A1 : Option Addr) (c1 : Nat) (l1 : List Int) (r1 : Int) (r2 : Int) (r3 : Int) (w0 w : World) (hI : IsS67 w0 w g s0_0 s0_1 s0_2) (hB : Below w0.heap.size w0 w) (hr1 : Kd.C (Kd.int .i64) w A1 l1.length l1) (hc1 : l1.length ≤ c1) (hf1 : ∀ ad, A1 = some ad → 0 < l1.length → ad.block ≠ g) (h : spec_l01Pick.f s0_0 s0_1 s0_2 l1 = some (r1, r2, r3)) :
  Calls Tryd.prog 37 #[.pointer (some ⟨g, 0, none⟩), .slice A1 l1.length c1] w fun e w' => e = .returned (.int .i64 r1) ∧ IsS67 w0 w' g s0_0 r2 r3 ∧ Below w0.heap.size w0 w' ∧ KeepBut w w' g none := by
 have HR1 := Aside0.mk hr1
 have HC1 := Aside0.mk hc1
 clear hr1 hc1
 have HI0 := Aside0.mk hI
 have HK := asd (KeepBut.refl w g none)
 have HL := Aside0.mk hB.size
 clear hI
 have HW0 := Aside0.mk hB.size
 have HB := Aside0.mk hB
 clear hB
 have H : ((spec_l01Next.f s0_0 s0_1 s0_2 (l1.length : Int)).bind fun bt136 => (if 0 ≤ bt136.1 then (if bt136.1 < (l1.length : Int) then (some (rd l1 bt136.1, bt136.2.1, bt136.2.2)) else (none)) else (none))) = some (r1, r2, r3) := h
 clear h
 obtain ⟨⟨t136, t137, t138⟩, A3, H⟩ := ob H
 try dsimp only at H
 by_cases c4 : 0 ≤ t136
 ·rw [if_pos c4] at H
  have c4b0 := decide_eq_true c4
  clear c4
  by_cases c5 : t136 < (l1.length : Int)
  ·rw [if_pos c5] at H
   have c5b0 := decide_eq_true c5
   clear c5
   simp only [Option.some.injEq, Prod.mk.injEq] at H
   obtain ⟨rfl, rfl, rfl⟩ := H
   go_enter Tryd.func37, Tryd.ntmps37
   go_wp2_with (first | ((with_reducible refine gate_callee (f := 25) rfl ?_); refine gl 9 Tryd.func25 #[.pointer (some ⟨g, 0, none⟩), .int .i64 (l1.length : Int)] ?_; (with_reducible refine (spec_l01Next.calls _ _ _ _ _ _ _ _ w0 _ ?side1 ?side2 A3.out).mono ?_); (case side1 => repeat (first | (with_reducible first | exact HI0.out | apply IsS67.alloc | apply IsS67.drewN | apply IsS67.drew | apply IsS67.set_1 | apply IsS67.set_2) | exact HI0.out)); (case side2 => repeat (first | (with_reducible first | exact HB.out | apply below_alloc | apply pw_below_drewN | apply below_drew1 | refine below_set ?_ (IsS67.ge HI0.out)) | exact HB.out)); rintro e w6 ⟨rfl, hi, hb, hk⟩; refine ⟨_, rfl, ?_⟩; replace HK := asd (KeepBut.trans (by repeat (first | (with_reducible first | exact HK.out | apply KeepBut.set_ | apply keep_drewN | apply keep_drew | apply keep_alloc) | exact HK.out)) hk (.inl rfl)); replace HB := asd (hb); replace HI0 := asd (hi); (try clear hb); (try clear hb2); (try clear hk); (try clear hi); have p139 : 0 ≤ (t136 : Int) := od; have q139 : t136 < (l1.length : Int) := od; obtain ⟨ad139, e139, hx139_0⟩ := Kd.at_int HR1.out t136 p139 q139; cases e139; replace hx139_0 := keep_cell HK.out hx139_0 (by first | (rw [add_block]; exact hf1 _ rfl (by omega)) | exact hf1 _ rfl (by omega) | exact hf1 ad139 rfl (by omega)); replace p139 := eq_true p139; replace q139 := eq_true q139))
   go_ret
   exact ⟨by first | rfl | (simp [errW_none, errW_some] <;> rfl) | (simp [*, errW_none, errW_some] <;> rfl), by repeat (first | (with_reducible first | exact HI0.out | apply IsS67.alloc | apply IsS67.drewN | apply IsS67.drew | apply IsS67.set_1 | apply IsS67.set_2) | exact HI0.out), by repeat (first | (with_reducible first | exact HB.out | apply below_alloc | apply pw_below_drewN | apply below_drew1 | refine below_set ?_ (IsS67.ge HI0.out)) | exact HB.out), by repeat (first | (with_reducible first | exact HK.out | apply KeepBut.set_ | apply keep_drewN | apply keep_drew | apply keep_alloc) | exact HK.out)⟩
  ·rw [if_neg c5] at H
   exact absurd H (by simp)
 ·rw [if_neg c4] at H
  exact absurd H (by simp)

end Go.Proofs.YtnblfcibgokccaaDoor.PG
