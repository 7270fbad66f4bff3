/- Walks written by program: each Go function that the law reaches comes to the plain function beside it. -/
import Derived.Test.YtfhbhjlgepjlfaaDoorPRx0
import Derived.Test.YtfhbhjlgepjlfaaDoorPRx2
namespace Go.Proofs.YtfhbhjlgepjlfaaDoor.PR
open Go.RowKit Go.Proofs.YtfhbhjlgepjlfaaDoorW.PrintWords Go.Proofs.YtfhbhjlgepjlfaaDoorW.PrintLast Go.Proofs.YtfhbhjlgepjlfaaDoorW.PrintMore
attribute [local go_sem] max2_int min2_int max_two min_two max_three min_three max_four min_four   -- for this text's walks alone
set_option linter.unusedVariables false
set_option linter.unusedSimpArgs false

/-! ### strings_Index: function 41 -/
/-- Where a text first stands in another one. -/
def strings_Index.f (a0 a1 : ByteArray) : Option Int := if a0.size < 4294967281 then some (Lib.index a0.data.toList a1.data.toList) else none
theorem strings_Index.calls (a0 a1 : ByteArray) (r : Int) (w : World) (htab : texts.Tab w) (h : strings_Index.f a0 a1 = some r) : Calls Tryd.prog 41 #[.string a0, .string a1] w fun e w' => e = .returned (.int .i64 r) ∧ Below w.heap.size w w' := by
 unfold strings_Index.f at h
 by_cases hc : a0.size < 4294967281
 ·rw [if_pos hc] at h
  obtain rfl := Option.some.inj h
  obtain ⟨m, hm⟩ := htab.maxlen
  refine (Tryd.strings_Index a0 a1 m w hc hm).mono ?_
  rintro e w' ⟨rfl, rfl⟩
  exact ⟨rfl, Below.refl _ _⟩
 ·rw [if_neg hc] at h; cases h
/-! ### slices_IndexFunc_int64_int64: function 92 -/
/-- The first index at which p holds, or -1. -/
def slices_IndexFunc_int64_int64.f (p : Int → Bool) (l : List Int) : Int := match l.findIdx? p with | some i => i | none => -1
theorem slices_IndexFunc_int64_int64.hit (p : Int → Bool) (l : List Int) (k : Nat) (hk : k < l.length) (h : p (l.getD k 0) = true) (hb : ∀ j, j < k → p (l.getD j 0) = false) : slices_IndexFunc_int64_int64.f p l = k := by
 unfold slices_IndexFunc_int64_int64.f
 have : l.findIdx? p = some k := by
  rw [List.findIdx?_eq_some_iff_getElem]
  refine ⟨hk, by simpa [List.getD, hk] using h, fun j hj => ?_⟩
  have := hb j hj
  have hjl : j < l.length := by omega
  simpa [List.getD, hjl] using this
 rw [this]
theorem slices_IndexFunc_int64_int64.miss (p : Int → Bool) (l : List Int) (hb : ∀ j, j < l.length → p (l.getD j 0) = false) : slices_IndexFunc_int64_int64.f p l = -1 := by
 unfold slices_IndexFunc_int64_int64.f
 have : l.findIdx? p = none := by
  rw [List.findIdx?_eq_none_iff]
  intro x hx
  obtain ⟨j, hj, rfl⟩ := List.getElem_of_mem hx
  have := hb j hj
  simpa [List.getD, hj] using this
 rw [this]
set_option maxHeartbeats 2000000 in
theorem slices_IndexFunc_int64_int64.calls_some (p : Int → Bool) (g : Nat) (lb : Array Value) (eg : ∀ args w, (callFunc g args).run Tryd.prog w = .ok (.enter g args) w) (ad : Addr) (c : Nat) (l : List Int) (w : World) (hr : Kd.C (Kd.int .i64) w (some ad) l.length l)
  (hp : ∀ (x : Int) (W : World), Below w.heap.size w W → Calls Tryd.prog g (#[.int .i64 x] ++ lb) W fun e w' => e = .returned (.bool (p x)) ∧ Below w.heap.size w w') :
  Calls Tryd.prog 92 #[.slice (some ad) l.length c, .func (.func g) #[] lb] w fun e w' => e = .returned (.int .i64 (slices_IndexFunc_int64_int64.f p l)) ∧ Below w.heap.size w w' := by
 have hbig := Kd.C_max hr
 have hcells : Aside0 (∀ (wr : World) (kk : Nat), Below w.heap.size w wr → kk < l.length → wr.cell? (ad.add kk) = some (.int .i64 (l.getD kk 0))) := ⟨fun wr kk hb hlt => by
  obtain ⟨ad', hA, hcell⟩ := Kd.at_int (Kd.C_below hr hb) (kk : Int) (by omega) (by omega)
  cases hA
  rw [Int.toNat_natCast] at hcell
  rw [hcell]; unfold rd; rw [Int.toNat_natCast]⟩
 have HP := Aside0.mk hp
 clear hr hp
 go_enter Tryd.func92, Tryd.ntmps92
 go_wp2
 go_loopg [5, 8] l.length (fun gg _ s8 wr => ∃ kk : Nat, kk ≤ l.length ∧ l.length - kk ≤ gg ∧ s8 = .int .i64 kk ∧ Aside0 (Below w.heap.size w wr) ∧ Aside0 (∀ j, j < kk → p (l.getD j 0) = false))
 case atStart => exact ⟨0, Nat.zero_le _, by omega, rfl, ⟨Below.refl _ w⟩, ⟨fun j hj => absurd hj (Nat.not_lt_zero _)⟩⟩
 case round =>
  obtain ⟨kk, hkk, hg, rfl, BW, AA⟩ := hrel
  by_cases hlt : kk < l.length
  ·have hltz : (kk : Int) < (l.length : Int) := by omega
   have hcell := hcells.out wr kk BW.out hlt
   have hcall := HP.out (l.getD kk 0) wr BW.out
   generalize hy : l.getD kk 0 = y at hcell hcall
   have hrd : Aside0 (l.getD kk 0 = y) := ⟨hy⟩
   clear hy
   cases hq : p y with
   | true =>
    rw [hq] at hcall
    have hq' : Aside0 (p y = true) := ⟨hq⟩
    clear hq
    go_wp2_with (go_at_fn g; refine hcall.mono ?_; rintro e w' ⟨rfl, hb'⟩)
    go_ret
    refine ⟨?_, hb'⟩
    rw [slices_IndexFunc_int64_int64.hit p l kk hlt (by rw [hrd.out]; exact hq'.out) AA.out]
    rfl
   | false =>
    rw [hq] at hcall
    have hq' : Aside0 (p y = false) := ⟨hq⟩
    clear hq
    go_wp2_with (go_at_fn g; refine hcall.mono ?_; rintro e w' ⟨rfl, hb'⟩)
    go_roundg (l.length - (kk + 1))
    case measure => omega
    case rel =>
     refine ⟨kk + 1, by omega, by omega, by go_num, ⟨hb'⟩, ⟨fun j hj => ?_⟩⟩
     by_cases e : j = kk
     ·subst e
      rw [hrd.out]; exact hq'.out
     ·exact AA.out j (by omega)
  ·have hltz : ¬ (kk : Int) < (l.length : Int) := by omega
   obtain rfl : kk = l.length := by omega
   go_wp2
   go_ret
   refine ⟨?_, BW.out⟩
   rw [slices_IndexFunc_int64_int64.miss p l AA.out]
   rfl
set_option maxHeartbeats 2000000 in
theorem slices_IndexFunc_int64_int64.calls_empty (p : Int → Bool) (A : Option Addr) (c : Nat) (fv : Value) (w : World) :
  Calls Tryd.prog 92 #[.slice A 0 c, fv] w fun e w' => e = .returned (.int .i64 (slices_IndexFunc_int64_int64.f p [])) ∧ Below w.heap.size w w' := by
 go_enter Tryd.func92, Tryd.ntmps92
 go_wp2
 go_loopg [5, 8] 0 (fun _ _ s8 wr => s8 = .int .i64 0 ∧ wr = w)
 case atStart => exact ⟨rfl, rfl⟩
 case round =>
  obtain ⟨rfl, rfl⟩ := hrel
  go_wp2
  go_ret
  exact ⟨rfl, Below.refl _ _⟩
theorem slices_IndexFunc_int64_int64.calls (p : Int → Bool) (g : Nat) (lb : Array Value) (eg : ∀ args w, (callFunc g args).run Tryd.prog w = .ok (.enter g args) w) (A : Option Addr) (c : Nat) (l : List Int) (w : World) (hr : Kd.C (Kd.int .i64) w A l.length l)
  (hp : ∀ (x : Int) (W : World), Below w.heap.size w W → Calls Tryd.prog g (#[.int .i64 x] ++ lb) W fun e w' => e = .returned (.bool (p x)) ∧ Below w.heap.size w w') :
  Calls Tryd.prog 92 #[.slice A l.length c, .func (.func g) #[] lb] w fun e w' => e = .returned (.int .i64 (slices_IndexFunc_int64_int64.f p l)) ∧ Below w.heap.size w w' := by
 cases l with
 | nil => exact slices_IndexFunc_int64_int64.calls_empty p A c _ w
 | cons x xs =>
  obtain ⟨ad, rfl, _⟩ := hr.2.2 (by simp)
  exact slices_IndexFunc_int64_int64.calls_some p g lb eg ad c (x :: xs) w hr hp
/-! ### slices_ContainsFunc_int64_int64: function 71 -/
theorem slices_ContainsFunc_int64_int64.any_of (p : Int → Bool) (l : List Int) : decide (0 ≤ slices_IndexFunc_int64_int64.f p l) = l.any p := by
 unfold slices_IndexFunc_int64_int64.f
 cases h : l.findIdx? p with
 | none =>
  have : l.any p = false := by
   rw [List.any_eq_false]
   intro x hx
   simpa using List.findIdx?_eq_none_iff.1 h x hx
  rw [this]; rfl
 | some i =>
  have : l.any p = true := by
   obtain ⟨hi, hp, _⟩ := List.findIdx?_eq_some_iff_getElem.1 h
   exact List.any_eq_true.2 ⟨_, List.getElem_mem hi, hp⟩
  rw [this]; simp
set_option maxHeartbeats 1000000 in
theorem slices_ContainsFunc_int64_int64.calls (p : Int → Bool) (g : Nat) (lb : Array Value) (eg : ∀ args w, (callFunc g args).run Tryd.prog w = .ok (.enter g args) w) (A : Option Addr) (c : Nat) (l : List Int) (w : World) (hr : Kd.C (Kd.int .i64) w A l.length l)
  (hp : ∀ (x : Int) (W : World), Below w.heap.size w W → Calls Tryd.prog g (#[.int .i64 x] ++ lb) W fun e w' => e = .returned (.bool (p x)) ∧ Below w.heap.size w w') :
  Calls Tryd.prog 71 #[.slice A l.length c, .func (.func g) #[] lb] w fun e w' => e = .returned (.bool (l.any p)) ∧ Below w.heap.size w w' := by
 have hcon := slices_IndexFunc_int64_int64.calls p g lb eg A c l w hr hp
 rw [← slices_ContainsFunc_int64_int64.any_of p l]
 generalize slices_IndexFunc_int64_int64.f p l = r at hcon
 clear hp hr
 go_enter Tryd.func71, Tryd.ntmps71
 go_wp2_with (go_at_call 92; refine hcon.mono ?_; rintro e w' ⟨rfl, hb'⟩)
 go_ret
 exact ⟨rfl, hb'⟩
/-! ### impl_allWithin: function 49 -/
theorem impl_allWithin.pred (a1 a2 : Int) (B C : Nat) (W : World) (hB : W.cell? ⟨B, 0, none⟩ = some (.int .i64 a1)) (hC : W.cell? ⟨C, 0, none⟩ = some (.int .i64 a2)) (x : Int) :
  Calls Tryd.prog 72 (#[.int .i64 x] ++ #[.pointer (some ⟨B, 0, none⟩), .pointer (some ⟨C, 0, none⟩)]) W fun e w' => e = .returned (.bool (!(decide (x ≥ a1) && decide (x ≤ a2)))) ∧ Below W.heap.size W w' := by
 show Calls Tryd.prog 72 #[.int .i64 x, .pointer (some ⟨B, 0, none⟩), .pointer (some ⟨C, 0, none⟩)] W _
 have hcon := impl_within.calls x a1 a2 (decide (x ≥ a1) && decide (x ≤ a2)) W (by unfold impl_within.f; by_cases h : x ≥ a1 <;> simp [h])
 generalize (decide (x ≥ a1) && decide (x ≤ a2)) = r at hcon ⊢
 go_enter Tryd.func72, Tryd.ntmps72
 go_wp2_with (go_at_call 48; refine hcon.mono ?_; rintro e w' ⟨rfl, hb'⟩)
 go_ret
 exact ⟨rfl, hb'.below⟩
/-- All numbers from a1 to a2. -/
def impl_allWithin.f (l0 : List Int) (a1 a2 : Int) : Option Bool := some (!(l0.any fun x => !(decide (x ≥ a1) && decide (x ≤ a2))))
set_option maxHeartbeats 1000000 in
theorem impl_allWithin.calls (A0 : Option Addr) (c0 : Nat) (l0 : List Int) (a1 : Int) (a2 : Int) (r : Bool) (w : World) (hr0 : Kd.C (Kd.int .i64) w A0 l0.length l0) (hc0 : l0.length ≤ c0) (h : impl_allWithin.f l0 a1 a2 = some r) :
  Calls Tryd.prog 49 #[.slice A0 l0.length c0, .int .i64 a1, .int .i64 a2] w fun e w' => e = .returned (.bool r) ∧ Below w.heap.size w w' := by
 obtain rfl := Option.some.inj h
 clear h
 have eg : ∀ args w, (callFunc 72 args).run Tryd.prog w = .ok (.enter 72 args) w := enters_of Tryd.func72 (by kernel_rfl) rfl
 have b1 : Below w.heap.size w ((w.alloc (.cells #[.int .i64 a1] 2)).alloc (.cells #[.int .i64 a2] 2)) := below_alloc (below_alloc (Below.refl _ w) _) _
 have hcon := slices_ContainsFunc_int64_int64.calls (fun x => !(decide (x ≥ a1) && decide (x ≤ a2))) 72 #[.pointer (some ⟨w.heap.size, 0, none⟩), .pointer (some ⟨w.heap.size + 1, 0, none⟩)] eg A0 c0 l0 ((w.alloc (.cells #[.int .i64 a1] 2)).alloc (.cells #[.int .i64 a2] 2)) (Kd.C_below hr0 b1)
  (fun x W hb => (impl_allWithin.pred a1 a2 w.heap.size (w.heap.size + 1) W ((hb.cell (p := ⟨w.heap.size, 0, none⟩) (by simp <;> omega)).trans (by simp)) ((hb.cell (p := ⟨w.heap.size + 1, 0, none⟩) (by simp <;> omega)).trans (by simp)) x).mono fun e w' ⟨he, hb'⟩ => ⟨he, below_then hb hb.size hb'⟩)
 generalize (l0.any fun x => !(decide (x ≥ a1) && decide (x ≤ a2))) = r at hcon ⊢
 clear hr0
 go_enter Tryd.func49, Tryd.ntmps49
 go_wp2_with (go_at_call 71; refine hcon.mono ?_; rintro e w' ⟨rfl, hb'⟩)
 go_ret
 exact ⟨rfl, below_then b1 (by simp <;> omega) hb'⟩
/-! ### impl_IsFrame: function 65 -/
def impl_IsFrame.f (a0 : Int) : Option (Bool) := (impl_within.f a0 0 1).bind fun t218 => (some t218)
set_option maxHeartbeats 8000000 in
set_option maxRecDepth 100000 in
theorem impl_IsFrame.calls (a0 : Int) (r : Bool) (w : World) (h : impl_IsFrame.f a0 = some r) :
  Calls Tryd.prog 65 #[.int .i64 a0] w fun e w' => e = .returned (.bool r) ∧ Drawn0 w w' := by
 have H : ((impl_within.f a0 0 1).bind fun t218 => (some t218)) = some r := h
 clear h
 obtain ⟨t218, A2, H⟩ := ob H
 try dsimp only at H
 obtain rfl := Option.some.inj H
 go_enter Tryd.func65, Tryd.ntmps65
 go_wp2_with (first | ((with_reducible refine gate_callee (f := 48) rfl ?_); refine gl 4 Tryd.func48 #[.int .i64 a0, .int .i64 0, .int .i64 1] ?_; (with_reducible refine (impl_within.calls _ _ _ _ _ A2.out).mono ?_); rintro e w' ⟨rfl, ⟨nd, rfl⟩⟩; refine ⟨_, rfl, ?_⟩))
 go_ret
 exact ⟨by first | rfl | (simp; done) | (simp [*]; done), by repeat (first | exact Drawn0.refl _ | apply Drawn0.step)⟩
/-! ### impl_IsPattern: function 42 -/
def impl_IsPattern.f (a0_0 : Int) (a0_1 : Int) (a0_2 : Int) (a0_3 : Int) (l0_4 : List Int) : Option (Bool) := (impl_IsFrame.f a0_0).bind fun t220 => (if t220 = true then ((impl_IsLattice.f a0_1 a0_2 a0_3).bind fun t221 => (if t221 = true then ((impl_Lattice_index.f a0_1 a0_2 a0_3).bind fun t222 => (if (l0_4.length : Int) = t222 then ((impl_allWithin.f l0_4 0 9).bind fun t223 => (some t223)) else (some false))) else (some false))) else (some false))
def impl_IsPattern.T1 : Bool × List (List Nat × List Nat) := (true, [([], []), ([0], [0]), ([1], [1]), ([2, 2], [2]), ([3], [3]), ([4, 3], [3, 4]), ([5, 3, 3], [3, 5]), ([3, 6], [3, 6]), ([7, 6], [7]), ([8], [8]), ([9, 8], [8, 9]), ([10, 8], [8, 10]), ([8], [8]), ([12, 8], [8, 12]), ([13, 8, 8], [8, 13]), ([11, 14, 8], [8, 11, 14]), ([8, 15], [8, 15]), ([16, 14], [16]), ([17], [17]), ([18, 17], [17, 18]), ([19, 17, 17], [17, 19]), ([17, 20], [17, 20]), ([21, 20, 0, 1, 2, 3, 4, 5, 6, 7, 8, 9, 10, 11, 12, 13, 14, 15, 16, 17, 18, 19, 20, 21], [21])])
def impl_IsPattern.B1 : List Nat := [0, 1, 3, 7, 15, 31, 63, 127, 255, 511, 1023, 2047, 511, 4607, 12799, 32767, 65535, 131071, 262143, 524287, 1048575, 2097151, 4194303]
theorem impl_IsPattern.tab1 : rtab .any (opsOf Tryd.f42 1) = impl_IsPattern.T1 := by kernel_rfl
theorem impl_IsPattern.bits1 : waitsOk impl_IsPattern.T1.2 impl_IsPattern.B1 = true := by kernel_rfl
set_option maxHeartbeats 8000000 in
set_option maxRecDepth 100000 in
theorem impl_IsPattern.calls (a0_0 : Int) (a0_1 : Int) (a0_2 : Int) (a0_3 : Int) (A0_4 : Option Addr) (c0_4 : Nat) (l0_4 : List Int) (r : Bool) (w : World) (hr0_4 : Kd.C (Kd.int .i64) w A0_4 l0_4.length l0_4) (hc0_4 : l0_4.length ≤ c0_4) (h : impl_IsPattern.f a0_0 a0_1 a0_2 a0_3 l0_4 = some r) :
  Calls Tryd.prog 42 #[.agg #[.int .i64 a0_0, .int .i64 a0_1, .int .i64 a0_2, .int .i64 a0_3, .slice A0_4 l0_4.length c0_4]] w fun e w' => e = .returned (.bool r) ∧ Below w.heap.size w w' := by
 have hu42 := Tryd.underlying42
 have hu40 := Tryd.underlying40
 have HR0_4 := Aside0.mk hr0_4
 have HC0_4 := Aside0.mk hc0_4
 clear hr0_4 hc0_4
 have HB := asd (Below.refl w.heap.size w)
 have H : ((impl_IsFrame.f a0_0).bind fun t220 => (if t220 = true then ((impl_IsLattice.f a0_1 a0_2 a0_3).bind fun t221 => (if t221 = true then ((impl_Lattice_index.f a0_1 a0_2 a0_3).bind fun t222 => (if (l0_4.length : Int) = t222 then ((impl_allWithin.f l0_4 0 9).bind fun t223 => (some t223)) else (some false))) else (some false))) else (some false))) = some r := h
 clear h
 obtain ⟨t220, A2, H⟩ := ob H
 try dsimp only at H
 by_cases c3 : t220 = true
 subst c3
 replace H := ifT H
 obtain ⟨t221, A4, H⟩ := ob H
 try dsimp only at H
 by_cases c5 : t221 = true
 subst c5
 replace H := ifT H
 obtain ⟨t222, A6, H⟩ := ob H
 try dsimp only at H
 by_cases c7 : (l0_4.length : Int) = t222
 rw [if_pos c7] at H
 have c7b0 : ((l0_4.length : Int) == t222) = true := beq_iff_eq.mpr c7
 have c7b1 : ((l0_4.length : Int) != t222) = false := bne_eq_false_iff_eq.mpr c7
 clear c7
 obtain ⟨t223, A8, H⟩ := ob H
 try dsimp only at H
 obtain rfl := Option.some.inj H
 rotate_left
 rw [if_neg c7] at H
 have c7b0 : ((l0_4.length : Int) == t222) = false := beq_eq_false_iff_ne.mpr c7
 have c7b1 : ((l0_4.length : Int) != t222) = true := bne_iff_ne.mpr c7
 obtain rfl := Option.some.inj H
 rotate_left
 replace c5 := Bool.eq_false_iff.mpr c5
 subst c5
 replace H := ifF H
 obtain rfl := Option.some.inj H
 rotate_left
 replace c3 := Bool.eq_false_iff.mpr c3
 subst c3
 replace H := ifF H
 obtain rfl := Option.some.inj H
 rotate_left
 all_goals
  go_enter Tryd.func42, Tryd.ntmps42
  try go_wp2_with (first | ((with_reducible refine gd 1 rfl ?_); (try (refine gate_guard (by rfl) ?_; dsimp only)); refine bx #[.int .i64 a0_0, .int .i64 a0_1, .int .i64 a0_2, .int .i64 a0_3, .slice A0_4 l0_4.length c0_4] 42 ?_; intro gb219 hg w9 BK219 hb; have GE219 := ngw0 hg HB; replace HB := bS0 HB hb; clear hb hg))
  replace BK219 := asd (blk_drew BK219.out)
  replace HB := asd (below_drew1 HB.out)
  refine sh 23 (eb5 BK219) (fun hHeld => ?_); refine with_tabW impl_IsPattern.tab1 impl_IsPattern.bits1 (fun HT_ HW_ => ?_)
  generalize w9.drew = w10 at BK219 HB hHeld ⊢
  refine pu 0 (some 3) (bT 23 1) HT_ ?_
  refine ta 1 (some 4) (bT 23 2) HT_ HW_ hHeld ?_
  refine ro 2 (some 5) (bT 23 3) HT_ (fun K hK => ?_)
  refine gs Tryd.func65 #[.int .i64 a0_0] ?_
  with_reducible refine (impl_IsFrame.calls _ _ _ A2.out).mono ?_
  rintro e w' ⟨rfl, ⟨nd, rfl⟩⟩
  refine ⟨_, rfl, ?_⟩
  refine hK.out _ _ (eb5 BK219).out (fun hHeld => ?_)
  clear hK K
  refine norm_ (a' := ?_) ?_ ?_
  rotate_left
  ·show Act.put _ (some 5) _ = _
   simp only [Act.put, sA, sB, sC, i64_w, i32_w]
   rfl
  refine pu 3 (some 6) (bT 23 4) HT_ ?_
 rotate_left 3
 ·refine pf 4 (some 7) (bT 23 5) HT_ ?_
  refine pf 5 (some 8) (bT 23 6) HT_ ?_
  refine pf 6 (some 9) (bT 23 7) HT_ ?_
  refine pu 7 (some 10) (bT 23 8) HT_ ?_
  refine pu 8 (some 11) (bT 23 9) HT_ ?_
  refine pf 9 (some 12) (bT 23 10) HT_ ?_
  refine pf 10 (some 13) (bT 23 11) HT_ ?_
  refine pf 11 (some 14) (bT 23 12) HT_ ?_
  refine pf 12 (some 15) (bT 23 13) HT_ ?_
  refine pf 13 (some 16) (bT 23 14) HT_ ?_
  refine pf 14 (some 17) (bT 23 15) HT_ ?_
  refine pf 15 (some 18) (bT 23 16) HT_ ?_
  refine pu 16 (some 19) (bT 23 17) HT_ ?_
  refine pu 17 (some 20) (bT 23 18) HT_ ?_
  refine pf 18 (some 21) (bT 23 19) HT_ ?_
  refine pf 19 (some 22) (bT 23 20) HT_ ?_
  refine pf 20 (some 23) (bT 23 21) HT_ ?_
  refine pu 21 (some 24) (bT 23 22) HT_ ?_
  refine pu 22 (some 2) (bT 23 23) HT_ ?_
  refine done_ (done_of HT_.out (by kernel_rfl)) ?_
  try go_wp2
  go_ret
  exact er (bbw1 HB GE219)
 all_goals
  refine pu 4 (some 7) (bT 23 5) HT_ ?_
  refine ta 5 (some 8) (bT 23 6) HT_ HW_ hHeld ?_
  refine ro 6 (some 9) (bT 23 7) HT_ (fun K hK => ?_)
  refine gs Tryd.func63 #[.agg #[.int .i64 a0_1, .int .i64 a0_2, .int .i64 a0_3]] ?_
  with_reducible refine (impl_IsLattice.calls _ _ _ _ _ A4.out).mono ?_
  rintro e w11 ⟨rfl, hb⟩
  refine ⟨_, rfl, ?_⟩
  replace BK219 := bB BK219 hb
  replace HB := bS1 HB GE219 hb
  (try clear hb)
  (try clear hb2)
  (try clear hk)
  (try clear hi)
  refine hK.out _ _ (eb5 BK219).out (fun hHeld => ?_)
  clear hK K
  refine norm_ (a' := ?_) ?_ ?_
  rotate_left
  ·show Act.put _ (some 9) _ = _
   simp only [Act.put, sA, sB, sC, i64_w, i32_w]
   rfl
  refine pu 7 (some 10) (bT 23 8) HT_ ?_
  refine pu 8 (some 11) (bT 23 9) HT_ ?_
 rotate_left 2
 ·refine pf 9 (some 12) (bT 23 10) HT_ ?_
  refine pf 10 (some 13) (bT 23 11) HT_ ?_
  refine pf 11 (some 14) (bT 23 12) HT_ ?_
  refine pf 12 (some 15) (bT 23 13) HT_ ?_
  refine pf 13 (some 16) (bT 23 14) HT_ ?_
  refine pf 14 (some 17) (bT 23 15) HT_ ?_
  refine pf 15 (some 18) (bT 23 16) HT_ ?_
  refine pu 16 (some 19) (bT 23 17) HT_ ?_
  refine pu 17 (some 20) (bT 23 18) HT_ ?_
  refine pf 18 (some 21) (bT 23 19) HT_ ?_
  refine pf 19 (some 22) (bT 23 20) HT_ ?_
  refine pf 20 (some 23) (bT 23 21) HT_ ?_
  refine pu 21 (some 24) (bT 23 22) HT_ ?_
  refine pu 22 (some 2) (bT 23 23) HT_ ?_
  refine done_ (done_of HT_.out (by kernel_rfl)) ?_
  try go_wp2
  go_ret
  exact er (bbw1 HB GE219)
 all_goals
  refine pu 9 (some 12) (bT 23 10) HT_ ?_
  refine pu 12 (some 15) (bs 23 5119) HT_ ?_
  refine ta 10 (some 13) (bs 23 6143) HT_ HW_ hHeld ?_
  refine pu 11 (some 14) (bT 23 13) HT_ ?_
  refine ta 13 (some 16) (bT 23 14) HT_ HW_ hHeld ?_
  refine ro 14 (some 17) (bT 23 15) HT_ (fun K hK => ?_)
  refine gs Tryd.func66 #[.agg #[.int .i64 a0_1, .int .i64 a0_2, .int .i64 a0_3]] ?_
  with_reducible refine (impl_Lattice_index.calls _ _ _ _ _ A6.out).mono ?_
  rintro e w12 ⟨rfl, hb⟩
  refine ⟨_, rfl, ?_⟩
  replace BK219 := bB BK219 hb
  replace HB := bS1 HB GE219 hb
  (try clear hb)
  (try clear hb2)
  (try clear hk)
  (try clear hi)
  refine hK.out _ _ (eb5 BK219).out (fun hHeld => ?_)
  clear hK K
  refine norm_ (a' := ?_) ?_ ?_
  rotate_left
  ·show Act.put _ (some 17) _ = _
   simp only [Act.put, sA, sB, sC, i64_w, i32_w]
   rfl
  refine pu 15 (some 18) (bT 23 16) HT_ ?_
  refine pu 16 (some 19) (bT 23 17) HT_ ?_
  refine pu 17 (some 20) (bT 23 18) HT_ ?_
 ·refine pu 18 (some 21) (bT 23 19) HT_ ?_
  refine ta 19 (some 22) (bT 23 20) HT_ HW_ hHeld ?_
  refine ro 20 (some 23) (bT 23 21) HT_ (fun K hK => ?_)
  refine gs Tryd.func49 #[.slice A0_4 l0_4.length c0_4, .int .i64 0, .int .i64 9] ?_
  with_reducible refine (impl_allWithin.calls _ _ _ _ _ _ _ ?side1 ?side2 A8.out).mono ?_
  (case side1 => exact ks (Kd.C_below HR0_4.out HB.out))
  (case side2 => exact HC0_4.out)
  rintro e w13 ⟨rfl, hb⟩
  refine ⟨_, rfl, ?_⟩
  replace BK219 := bB BK219 hb
  replace HB := bS1 HB GE219 hb
  (try clear hb)
  (try clear hb2)
  (try clear hk)
  (try clear hi)
  refine hK.out _ _ (eb5 BK219).out (fun hHeld => ?_)
  clear hK K
  refine norm_ (a' := ?_) ?_ ?_
  rotate_left
  ·show Act.put _ (some 23) _ = _
   simp only [Act.put, sA, sB, sC, i64_w, i32_w]
   rfl
  refine pu 21 (some 24) (bT 23 22) HT_ ?_
  refine pu 22 (some 2) (bT 23 23) HT_ ?_
  refine done_ (done_of HT_.out (by kernel_rfl)) ?_
  try go_wp2
  go_ret
  exact er (bbw1 HB GE219)
 ·refine pf 18 (some 21) (bT 23 19) HT_ ?_
  refine pf 19 (some 22) (bT 23 20) HT_ ?_
  refine pf 20 (some 23) (bT 23 21) HT_ ?_
  refine pu 21 (some 24) (bT 23 22) HT_ ?_
  refine pu 22 (some 2) (bT 23 23) HT_ ?_
  refine done_ (done_of HT_.out (by kernel_rfl)) ?_
  try go_wp2
  go_ret
  exact er (bbw1 HB GE219)
/-! ### strings_Join: function 104 -/
/-- The elements with a text between them. -/
def strings_Join.f (l0 : List ByteArray) (a1 : ByteArray) : Option ByteArray := if l0.length ≤ 140737488355328 ∧ (Lib.join (l0.map (·.data.toList)) a1.data.toList).length ≤ 140737488355328 then some ⟨(Lib.join (l0.map (·.data.toList)) a1.data.toList).toArray⟩ else none
/-- A row of texts that lies in a block of its own. -/
def strings_Join.RC (w : World) (A : Option Addr) (xs : List ByteArray) : Prop := Kd.C Kd.string w A xs.length xs ∧ (xs = [] ∨ ∃ g, A = some ⟨g, 0, none⟩ ∧ g < w.heap.size)
theorem strings_Join.rows {e : Nat} {w : World} {base : Nat} {ok : Nat → Prop} {A : Option Addr} {c n : Nat} {xs : List ByteArray} (h : Kd.R Kd.string e w base ok (.slice A n c) xs) : strings_Join.RC w A xs := by
 have hC := (Kd.R_reads' h).2.2
 obtain ⟨inner, ho, hr⟩ := h.2
 rcases ho.2 with ⟨h1, h2⟩ | ⟨g, cap, cur, h1, _, hg, _⟩
 ·exact ⟨hC, Or.inl (List.eq_nil_of_length_eq_zero h2)⟩
 ·injection h1 with h3 h4 h5
  subst h3
  exact ⟨hC, Or.inr ⟨g, rfl, (Array.getElem?_eq_some_iff.1 hg).1⟩⟩
theorem strings_Join.calls (A0 : Option Addr) (c0 : Nat) (l0 : List ByteArray) (a1 : ByteArray) (r : ByteArray) (w : World) (hr0 : strings_Join.RC w A0 l0) (hc0 : l0.length ≤ c0) (h : strings_Join.f l0 a1 = some r) : Calls Tryd.prog 104 #[.slice A0 l0.length c0, .string a1] w fun e w' => e = .returned (.string r) ∧ Below w.heap.size w w' := by
 obtain ⟨hC, hg⟩ := hr0
 unfold strings_Join.f at h
 by_cases hc : l0.length ≤ 140737488355328 ∧ (Lib.join (l0.map (·.data.toList)) a1.data.toList).length ≤ 140737488355328
 ·rw [if_pos hc] at h
  obtain rfl := Option.some.inj h
  rcases hg with rfl | ⟨g, rfl, hlt⟩
  ·exact (Tryd.strings_Join_none A0 c0 a1 w).mono fun e w' ⟨he, hw⟩ => ⟨he, hw ▸ Below.refl _ _⟩
  ·refine Tryd.strings_Join g 0 c0 l0 a1 w (fun j x hx => ?_) hlt hc.1 hc0 hc.2
   have hj : 0 < l0.length := by
    have := (List.getElem?_eq_some_iff.1 hx).1
    omega
   obtain ⟨ad, e, hrow⟩ := hC.2.2 hj
   obtain rfl := Option.some.inj e
   obtain ⟨c, hlen, hK, hcell⟩ := hrow j x hx
   have hK : c = [.string x] := hK
   subst hK
   have := hcell 0 _ rfl
   rw [add_plain, show Kd.string.sz = 1 from rfl, Nat.mul_one, Nat.add_zero] at this
   rw [Nat.zero_add]; exact this
 ·rw [if_neg hc] at h; cases h
/-! ### impl_joined: function 90 -/
def impl_joined.l0 : Nat → ByteArray → List ByteArray → List Int → Int → Int → Option (ByteArray)
 | 0, _, _, _, _, _ => none
 | k + 1, x0, x5, x9, x10, x11 => if x11 < x10 then (if 0 ≤ x11 then (if x11 < (x9.length : Int) then ((impl_text.f (rd x9 x11)).bind fun t228 => (if x5.length < 8796093022208 then (impl_joined.l0 k x0 (x5 ++ [t228]) x9 x10 (wrap64 (x11 + 1))) else (none))) else (none)) else (none)) else ((strings_Join.f x5 x0).bind fun t232 => (some t232))
def impl_joined.f (k : Nat) (a0 : ByteArray) (l1 : List Int) : Option (ByteArray) := impl_joined.l0 k a0 (([] : List ByteArray)) l1 (l1.length : Int) 0
set_option maxHeartbeats 8000000 in
set_option maxRecDepth 100000 in
theorem impl_joined.calls (k : Nat) (a0 : ByteArray) (A1 : Option Addr) (c1 : Nat) (l1 : List Int) (r : ByteArray) (w : World) (hr1 : Kd.C (Kd.int .i64) w A1 l1.length l1) (hc1 : l1.length ≤ c1) (htab : texts.Tab w) (h : impl_joined.f k a0 l1 = some r) :
  Calls Tryd.prog 90 #[.string a0, .slice A1 l1.length c1] w fun e w' => e = .returned (.string r) ∧ Below w.heap.size w w' := by
 have HTAB := Aside0.mk htab
 clear htab
 have HR1 := Aside0.mk hr1
 have HC1 := Aside0.mk hc1
 clear hr1 hc1
 have HB := asd (Below.refl w.heap.size w)
 have H : (impl_joined.l0 k a0 (([] : List ByteArray)) l1 (l1.length : Int) 0) = some r := h
 clear h
 obtain ⟨y224, hy224⟩ : ∃ y_ : List ByteArray, y_ = (([] : List ByteArray)) := ⟨_, rfl⟩
 replace H : (impl_joined.l0 k a0 y224 l1 (l1.length : Int) 0) = some r := by first | (rw [hy224]; with_reducible exact H) | (have H2_ := (Option.bind_some _ _).symm.trans H; rw [hy224]; with_reducible exact H2_) | (have H2_ := (Option.bind_some _ _).symm.trans H; with_reducible exact H2_) | with_reducible exact H | (rw [hy224]; exact H) | exact H
 have Ny224 := Aside0.mk hy224
 clear hy224
 have H' := Aside0.mk H
 clear H
 go_enter Tryd.func90, Tryd.ntmps90
 go_wp2_with (first | ((with_reducible refine gd 8 rfl ?_); refine Kd.R_lit Kd.string _ 9 ?hg (N := 8) ?hd (xs := ([] : List ByteArray)) (inner := []) (ok := fun _ => True) (okp := fun _ => True) ?hr ?hp (fun _ hk => hk) trivial (Below.refl _ _) (Nat.le_refl _) (by simp) ?_; (case hd => rfl); (case hg => rfl); (case hr => first | (go_simp; done) | (go_simp; rfl)); (case hp => exact (Reps.none _ _)); intro v225 w3 ho4 hb hg_ hnew_; clear hg_ hnew_; (first | rw [← Ny224.out] at ho4 | (simp only [Int.reduceToNat] at ho4; rw [← Ny224.out] at ho4)); have HO226 := asd (Kd.R_lower ho4 (bsz0 HB)); replace HB := bS0 HB hb; clear hb ho4))
 go_loopg [5, 11] k (fun kq v5 v11 w' => ∃ (x5_1 : List ByteArray) (x11_1 : Int), v11 = .int .i64 x11_1 ∧ Aside0 (impl_joined.l0 kq a0 x5_1 l1 (l1.length : Int) x11_1 = some r) ∧ Aside0 (kq ≤ k) ∧ Aside0 (Kd.R Kd.string 9 w' w.heap.size (fun _ => True) v5 x5_1) ∧ Aside0 (Below w.heap.size w w'))
 case atStart => exact ⟨(y224), (0), (by first | rfl | (simp; done) | (simp [*]; done)), H', ⟨Nat.le_refl _⟩, ⟨by (with_reducible repeat (first | apply Kd.R_alloc | apply Kd.R_drewN | apply Kd.R_drew)); exact HO226.out⟩, ⟨bbw0 HB⟩⟩
 case round =>
  clear H'
  try clear c1
  try clear p2
  obtain ⟨x5_1, x11_1, rfl, HA, HK1, HO_5, HB⟩ := hrel
  cases gk with
  | zero => exact absurd HA.out (by simp [impl_joined.l0])
  | succ k1 =>
   have H := HA.out
   clear HA
   simp only [impl_joined.l0] at H
   by_cases c5 : x11_1 < (l1.length : Int)
   ·rw [if_pos c5] at H
    have c5b0 := decide_eq_true c5
    clear c5
    by_cases c6 : 0 ≤ x11_1
    ·rw [if_pos c6] at H
     have c6b0 := decide_eq_true c6
     clear c6
     by_cases c7 : x11_1 < (l1.length : Int)
     ·rw [if_pos c7] at H
      have c7b0 := decide_eq_true c7
      clear c7
      obtain ⟨t228, A8, H⟩ := ob H
      try dsimp only at H
      by_cases c9 : x5_1.length < 8796093022208
      ·rw [if_pos c9] at H
       have LMc9 := Aside0.mk c9
       clear c9
       obtain ⟨y229, hy229⟩ : ∃ y_ : List ByteArray, y_ = (x5_1 ++ [t228]) := ⟨_, rfl⟩
       replace H : (impl_joined.l0 k1 a0 y229 l1 (l1.length : Int) (wrap64 (x11_1 + 1))) = some r := by first | (rw [hy229]; with_reducible exact H) | (have H2_ := (Option.bind_some _ _).symm.trans H; rw [hy229]; with_reducible exact H2_) | (have H2_ := (Option.bind_some _ _).symm.trans H; with_reducible exact H2_) | with_reducible exact H | (rw [hy229]; exact H) | exact H
       have Ny229 := Aside0.mk hy229
       clear hy229
       have H' := Aside0.mk H
       clear H
       have p227 : 0 ≤ (x11_1 : Int) := od
       have q227 : x11_1 < (l1.length : Int) := od
       obtain ⟨ad227, e227, hx227_0⟩ := Kd.at_int HR1.out x11_1 p227 q227
       cases e227
       replace hx227_0 := xb HB hx227_0
       replace p227 := eq_true p227
       replace q227 := eq_true q227
       go_wp2_with (first | ((with_reducible refine gate_callee (f := 97) rfl ?_); refine gl 17 Tryd.func97 #[.int .i64 (rd l1 x11_1)] ?_; (with_reducible refine (impl_text.calls _ _ _ (texts.tabB HTAB.out (by repeat (first | (with_reducible first | exact HB.out | exact Below.refl _ _ | apply below_alloc | apply pw_below_drewN | apply below_drew1) | exact HB.out))) A8.out).mono ?_); rintro e w10 ⟨rfl, hb⟩; refine ⟨_, rfl, ?_⟩; replace HO_5 := asd (Kd.R_below (kr HO_5) hb); replace HB := bS0 HB hb; (try clear hb)) | ((with_reducible refine gate_builtin (b := .append) (xs := #[.tmp 15, .tmp 18]) rfl ?_); at_builtin; refine Kd.R_append Kd.string (w0 := w) w.heap.size rfl (.tmp 15) (.tmp 18) 47 9 (.string ⟨#[]⟩) 16 rfl Tryd.underlying47 info9 rfl (by decide) (by omega) u5 x5_1 t228 [.string t228] (fun _ => True) (fun _ => False) rfl rfl ?aP (fun _ hk => hk.elim) ?aF ?aO ?aB ?aS ?aL ?_; (case aP => exact rfl); (case aB => exact (bbw0 HB)); (case aF => exact (fun _ _ => trivial)); (case aO => exact (kr HO_5)); (case aS => exact (bsz0 HB)); (case aL => have := LMc9.out; omega); intro v230 w11 ho hb hg hat; rw [← Ny229.out] at ho; have n0_ := asd (hb); have n1_ := asd (ho); clear HB; clear HO_5; have HB := n0_; have HO231 := n1_; clear n0_ n1_; clear ho hb hg hat))
       go_roundg k1
       case measure => have := HK1.out; omega
       case rel => exact ⟨(y229), (wrap64 (x11_1 + 1)), (by first | rfl | (simp; done) | (simp [*]; done)), H', ⟨by have := HK1.out; omega⟩, ⟨by (with_reducible repeat (first | apply Kd.R_alloc | apply Kd.R_drewN | apply Kd.R_drew)); exact HO231.out⟩, ⟨bbw0 HB⟩⟩
      ·rw [if_neg c9] at H
       exact absurd H (by simp)
     ·rw [if_neg c7] at H
      exact absurd H (by simp)
    ·rw [if_neg c6] at H
     exact absurd H (by simp)
   ·rw [if_neg c5] at H
    have c5b0 := decide_eq_false c5
    clear c5
    obtain ⟨t232, A12, H⟩ := ob H
    try dsimp only at H
    obtain rfl := Option.some.inj H
    obtain ⟨Ao13, co13, eo13⟩ := Kd.R_slice HO_5.out
    subst eo13
    go_wp2_with (first | ((with_reducible refine gate_callee (f := 104) rfl ?_); refine gl 23 Tryd.func104 #[.slice Ao13 x5_1.length co13, .string a0] ?_; (with_reducible refine (strings_Join.calls _ _ _ _ _ _ ?side1 ?side2 A12.out).mono ?_); (case side1 => repeat (first | exact strings_Join.rows HO_5.out | (with_reducible refine Kd.C_alloc ?_ _) | (with_reducible refine Kd.C_drewN ?_ _) | (with_reducible refine Kd.C_drew ?_))); (case side2 => exact (Kd.R_reads' HO_5.out).2.1); rintro e w14 ⟨rfl, hb⟩; refine ⟨_, rfl, ?_⟩; replace HO_5 := asd (Kd.R_below (kr HO_5) hb); replace HB := bS0 HB hb; (try clear hb)))
    go_ret
    exact er (bbw0 HB)
/-! ### impl_LatticeText: function 67 -/
def impl_LatticeText.f (k : Nat) (a0_0 : Int) (a0_1 : Int) (a0_2 : Int) : Option (ByteArray) := (impl_IsLattice.f a0_0 a0_1 a0_2).bind fun t234 => (if t234 = true then ((impl_joined.f k (⟨#[44]⟩ : ByteArray) (([a0_0, a0_1, a0_2] : List Int))).bind fun t238 => (some t238)) else (some (⟨#[]⟩ : ByteArray)))
set_option maxHeartbeats 8000000 in
set_option maxRecDepth 100000 in
theorem impl_LatticeText.calls (k : Nat) (a0_0 : Int) (a0_1 : Int) (a0_2 : Int) (r : ByteArray) (w : World) (htab : texts.Tab w) (h : impl_LatticeText.f k a0_0 a0_1 a0_2 = some r) :
  Calls Tryd.prog 67 #[.agg #[.int .i64 a0_0, .int .i64 a0_1, .int .i64 a0_2]] w fun e w' => e = .returned (.string r) ∧ Below w.heap.size w w' := by
 have HTAB := Aside0.mk htab
 clear htab
 have hu40 := Tryd.underlying40
 have HB := asd (Below.refl w.heap.size w)
 have H : ((impl_IsLattice.f a0_0 a0_1 a0_2).bind fun t234 => (if t234 = true then ((impl_joined.f k (⟨#[44]⟩ : ByteArray) (([a0_0, a0_1, a0_2] : List Int))).bind fun t238 => (some t238)) else (some (⟨#[]⟩ : ByteArray)))) = some r := h
 clear h
 obtain ⟨t234, A2, H⟩ := ob H
 try dsimp only at H
 by_cases c3 : t234 = true
 ·subst c3
  replace H := ifT H
  obtain ⟨y235, hy235⟩ : ∃ y_ : List Int, y_ = (([a0_0, a0_1, a0_2] : List Int)) := ⟨_, rfl⟩
  replace H : ((impl_joined.f k (⟨#[44]⟩ : ByteArray) y235).bind fun t238 => (some t238)) = some r := by first | (rw [hy235]; with_reducible exact H) | (have H2_ := (Option.bind_some _ _).symm.trans H; rw [hy235]; with_reducible exact H2_) | (have H2_ := (Option.bind_some _ _).symm.trans H; with_reducible exact H2_) | with_reducible exact H | (rw [hy235]; exact H) | exact H
  have Ny235 := Aside0.mk hy235
  clear hy235
  obtain ⟨t238, A4, H⟩ := ob H
  try dsimp only at H
  obtain rfl := Option.some.inj H
  go_enter Tryd.func67, Tryd.ntmps67
  go_wp2_with (first | ((with_reducible refine gd 1 rfl ?_); refine bx #[.int .i64 a0_0, .int .i64 a0_1, .int .i64 a0_2] 40 ?_; intro gb233 hg w5 BK233 hb; have GE233 := ngw0 hg HB; replace HB := bS0 HB hb; clear hb hg; obtain ⟨hcz6_0, hcz6_1, hcz6_2, hfz6_0, hfz6_1, hfz6_2⟩ := bz3 BK233) | ((with_reducible refine gate_callee (f := 63) rfl ?_); refine gl 4 Tryd.func63 #[.agg #[.int .i64 a0_0, .int .i64 a0_1, .int .i64 a0_2]] ?_; (with_reducible refine (impl_IsLattice.calls _ _ _ _ _ A2.out).mono ?_); rintro e w7 ⟨rfl, hb⟩; refine ⟨_, rfl, ?_⟩; replace BK233 := bB BK233 hb; replace HB := bS1 HB GE233 hb; (try clear hb); obtain ⟨hcz8_0, hcz8_1, hcz8_2, hfz8_0, hfz8_1, hfz8_2⟩ := bz3 BK233) | ((with_reducible refine gd 12 rfl ?_); refine Kd.R_lit (Kd.int .i64) _ 2 ?hg (N := 12) ?hd (xs := ([a0_0, a0_1, a0_2] : List Int)) (inner := [.int .i64 a0_0, .int .i64 a0_1, .int .i64 a0_2]) (ok := fun _ => True) (okp := fun _ => True) ?hr ?hp (fun _ hk => hk) trivial (Below.refl _ _) (Nat.le_refl _) (by simp) ?_; (case hd => rfl); (case hg => rfl); (case hr => first | (go_simp; done) | (go_simp; rfl)); (case hp => exact (Reps.one (show Kd.M (Kd.int .i64) _ _ _ a0_0 [.int .i64 a0_0] from rfl) (Reps.one (show Kd.M (Kd.int .i64) _ _ _ a0_1 [.int .i64 a0_1] from rfl) (Reps.one (show Kd.M (Kd.int .i64) _ _ _ a0_2 [.int .i64 a0_2] from rfl) (Reps.none _ _))))); intro v236 w9 ho10 hb hg_ hnew_; clear hg_ hnew_; (first | rw [← Ny235.out] at ho10 | (simp only [Int.reduceToNat] at ho10; rw [← Ny235.out] at ho10)); have HO237 := asd (Kd.R_lower ho10 (bsz1 HB GE233)); replace BK233 := bB BK233 hb; replace HB := bS1 HB GE233 hb; clear hb ho10; obtain ⟨Ao11, co11, eo11⟩ := Kd.R_slice HO237.out; subst eo11) | ((with_reducible refine gate_callee (f := 90) rfl ?_); refine gl 13 Tryd.func90 #[.string (⟨#[44]⟩ : ByteArray), .slice Ao11 y235.length co11] ?_; (with_reducible refine (impl_joined.calls _ _ _ _ _ _ _ ?side1 ?side2 (texts.tabB HTAB.out (by repeat (first | (with_reducible first | exact HB.out | exact Below.refl _ _ | apply below_alloc | apply pw_below_drewN | apply below_drew1 | refine below_set ?_ GE233.out) | exact HB.out))) A4.out).mono ?_); (case side1 => exact ks (Kd.R_reads' HO237.out).2.2); (case side2 => exact (Kd.R_reads' HO237.out).2.1); rintro e w12 ⟨rfl, hb⟩; refine ⟨_, rfl, ?_⟩; replace HO237 := asd (Kd.R_below (kr HO237) hb); replace BK233 := bB BK233 hb; replace HB := bS1 HB GE233 hb; (try clear hb)))
  go_ret
  exact er (bbw1 HB GE233)
 ·replace c3 := Bool.eq_false_iff.mpr c3
  subst c3
  replace H := ifF H
  obtain rfl := Option.some.inj H
  go_enter Tryd.func67, Tryd.ntmps67
  go_wp2_with (first | ((with_reducible refine gd 1 rfl ?_); refine bx #[.int .i64 a0_0, .int .i64 a0_1, .int .i64 a0_2] 40 ?_; intro gb233 hg w13 BK233 hb; have GE233 := ngw0 hg HB; replace HB := bS0 HB hb; clear hb hg; obtain ⟨hcz14_0, hcz14_1, hcz14_2, hfz14_0, hfz14_1, hfz14_2⟩ := bz3 BK233) | ((with_reducible refine gate_callee (f := 63) rfl ?_); refine gl 4 Tryd.func63 #[.agg #[.int .i64 a0_0, .int .i64 a0_1, .int .i64 a0_2]] ?_; (with_reducible refine (impl_IsLattice.calls _ _ _ _ _ A2.out).mono ?_); rintro e w15 ⟨rfl, hb⟩; refine ⟨_, rfl, ?_⟩; replace BK233 := bB BK233 hb; replace HB := bS1 HB GE233 hb; (try clear hb)))
  go_ret
  exact er (bbw1 HB GE233)
/-! ### impl_digitsText: function 68 -/
def impl_digitsText.f (k : Nat) (l0 : List Int) : Option (ByteArray) := (impl_joined.f k (⟨#[]⟩ : ByteArray) l0).bind fun t239 => (some t239)
set_option maxHeartbeats 8000000 in
set_option maxRecDepth 100000 in
theorem impl_digitsText.calls (k : Nat) (A0 : Option Addr) (c0 : Nat) (l0 : List Int) (r : ByteArray) (w : World) (hr0 : Kd.C (Kd.int .i64) w A0 l0.length l0) (hc0 : l0.length ≤ c0) (htab : texts.Tab w) (h : impl_digitsText.f k l0 = some r) :
  Calls Tryd.prog 68 #[.slice A0 l0.length c0] w fun e w' => e = .returned (.string r) ∧ Below w.heap.size w w' := by
 have HTAB := Aside0.mk htab
 clear htab
 have HR0 := Aside0.mk hr0
 have HC0 := Aside0.mk hc0
 clear hr0 hc0
 have HB := asd (Below.refl w.heap.size w)
 have H : ((impl_joined.f k (⟨#[]⟩ : ByteArray) l0).bind fun t239 => (some t239)) = some r := h
 clear h
 obtain ⟨t239, A2, H⟩ := ob H
 try dsimp only at H
 obtain rfl := Option.some.inj H
 go_enter Tryd.func68, Tryd.ntmps68
 go_wp2_with (first | ((with_reducible refine gate_callee (f := 90) rfl ?_); refine gl 4 Tryd.func90 #[.string (⟨#[]⟩ : ByteArray), .slice A0 l0.length c0] ?_; (with_reducible refine (impl_joined.calls _ _ _ _ _ _ _ ?side1 ?side2 (texts.tabB HTAB.out (by repeat (first | (with_reducible first | exact HB.out | exact Below.refl _ _ | apply below_alloc | apply pw_below_drewN | apply below_drew1) | exact HB.out))) A2.out).mono ?_); (case side1 => exact ks HR0.out); (case side2 => exact HC0.out); rintro e w3 ⟨rfl, hb⟩; refine ⟨_, rfl, ?_⟩; replace HB := bS0 HB hb; (try clear hb)))
 go_ret
 exact er (bbw0 HB)
/-! ### impl_patternText: function 43 -/
def impl_patternText.f (k : Nat) (a0_0 : Int) (a0_1 : Int) (a0_2 : Int) (a0_3 : Int) (l0_4 : List Int) : Option (ByteArray) := if 0 ≤ a0_0 then (if a0_0 ≤ (wrap64 (a0_0 + 1)) then (if (wrap64 (a0_0 + 1)) ≤ 2 then (if ((⟨#[83, 72]⟩ : ByteArray).extract (a0_0 : Int).toNat ((wrap64 (a0_0 + 1)) : Int).toNat).size + 1 ≤ 9223372036854775807 then ((impl_LatticeText.f k a0_1 a0_2 a0_3).bind fun t241 => (if (((⟨#[83, 72]⟩ : ByteArray).extract (a0_0 : Int).toNat ((wrap64 (a0_0 + 1)) : Int).toNat) ++ (⟨#[32]⟩ : ByteArray)).size + t241.size ≤ 9223372036854775807 then (if ((((⟨#[83, 72]⟩ : ByteArray).extract (a0_0 : Int).toNat ((wrap64 (a0_0 + 1)) : Int).toNat) ++ (⟨#[32]⟩ : ByteArray)) ++ t241).size + 1 ≤ 9223372036854775807 then ((impl_digitsText.f k l0_4).bind fun t242 => (if (((((⟨#[83, 72]⟩ : ByteArray).extract (a0_0 : Int).toNat ((wrap64 (a0_0 + 1)) : Int).toNat) ++ (⟨#[32]⟩ : ByteArray)) ++ t241) ++ (⟨#[32]⟩ : ByteArray)).size + t242.size ≤ 9223372036854775807 then (some ((((((⟨#[83, 72]⟩ : ByteArray).extract (a0_0 : Int).toNat ((wrap64 (a0_0 + 1)) : Int).toNat) ++ (⟨#[32]⟩ : ByteArray)) ++ t241) ++ (⟨#[32]⟩ : ByteArray)) ++ t242)) else (none))) else (none)) else (none))) else (none)) else (none)) else (none)) else (none)
def impl_patternText.T1 : Bool × List (List Nat × List Nat) := (true, [([], []), ([0], [0]), ([], []), ([2], [2]), ([3], [3]), ([1, 4], [1, 4]), ([5], [5]), ([], []), ([7], [7]), ([8], [8]), ([6, 9], [6, 9]), ([10], [10]), ([], []), ([12], [12]), ([13, 9], [13]), ([11, 14], [11, 14]), ([15, 14, 0, 1, 2, 3, 4, 5, 6, 7, 8, 9, 10, 11, 12, 13, 14, 15], [15])])
def impl_patternText.B1 : List Nat := [0, 1, 0, 4, 12, 31, 63, 0, 128, 384, 1023, 2047, 0, 4096, 13184, 32767, 65535]
theorem impl_patternText.tab1 : rtab .any (opsOf Tryd.f43 1) = impl_patternText.T1 := by kernel_rfl
theorem impl_patternText.bits1 : waitsOk impl_patternText.T1.2 impl_patternText.B1 = true := by kernel_rfl
theorem impl_patternText.exsz {a b : Int} (h : b ≤ 2) : ((⟨#[83, 72]⟩ : ByteArray).extract a.toNat b.toNat).size = b.toNat - a.toNat := by
 rw [ByteArray.size_extract]; show min b.toNat 2 - _ = _; omega
theorem impl_patternText.exsz1 (x : UInt8) : (⟨#[x]⟩ : ByteArray).size = 1 := rfl
set_option maxHeartbeats 8000000 in
set_option maxRecDepth 100000 in
theorem impl_patternText.calls (k : Nat) (a0_0 : Int) (a0_1 : Int) (a0_2 : Int) (a0_3 : Int) (A0_4 : Option Addr) (c0_4 : Nat) (l0_4 : List Int) (r : ByteArray) (w : World) (hr0_4 : Kd.C (Kd.int .i64) w A0_4 l0_4.length l0_4) (hc0_4 : l0_4.length ≤ c0_4) (htab : texts.Tab w) (h : impl_patternText.f k a0_0 a0_1 a0_2 a0_3 l0_4 = some r) :
  Calls Tryd.prog 43 #[.agg #[.int .i64 a0_0, .int .i64 a0_1, .int .i64 a0_2, .int .i64 a0_3, .slice A0_4 l0_4.length c0_4]] w fun e w' => e = .returned (.string r) ∧ Below w.heap.size w w' := by
 have HTAB := Aside0.mk htab
 clear htab
 have hu42 := Tryd.underlying42
 have hu40 := Tryd.underlying40
 have HR0_4 := Aside0.mk hr0_4
 have HC0_4 := Aside0.mk hc0_4
 clear hr0_4 hc0_4
 have HB := asd (Below.refl w.heap.size w)
 have H : (if 0 ≤ a0_0 then (if a0_0 ≤ (wrap64 (a0_0 + 1)) then (if (wrap64 (a0_0 + 1)) ≤ 2 then (if ((⟨#[83, 72]⟩ : ByteArray).extract (a0_0 : Int).toNat ((wrap64 (a0_0 + 1)) : Int).toNat).size + 1 ≤ 9223372036854775807 then ((impl_LatticeText.f k a0_1 a0_2 a0_3).bind fun t241 => (if (((⟨#[83, 72]⟩ : ByteArray).extract (a0_0 : Int).toNat ((wrap64 (a0_0 + 1)) : Int).toNat) ++ (⟨#[32]⟩ : ByteArray)).size + t241.size ≤ 9223372036854775807 then (if ((((⟨#[83, 72]⟩ : ByteArray).extract (a0_0 : Int).toNat ((wrap64 (a0_0 + 1)) : Int).toNat) ++ (⟨#[32]⟩ : ByteArray)) ++ t241).size + 1 ≤ 9223372036854775807 then ((impl_digitsText.f k l0_4).bind fun t242 => (if (((((⟨#[83, 72]⟩ : ByteArray).extract (a0_0 : Int).toNat ((wrap64 (a0_0 + 1)) : Int).toNat) ++ (⟨#[32]⟩ : ByteArray)) ++ t241) ++ (⟨#[32]⟩ : ByteArray)).size + t242.size ≤ 9223372036854775807 then (some ((((((⟨#[83, 72]⟩ : ByteArray).extract (a0_0 : Int).toNat ((wrap64 (a0_0 + 1)) : Int).toNat) ++ (⟨#[32]⟩ : ByteArray)) ++ t241) ++ (⟨#[32]⟩ : ByteArray)) ++ t242)) else (none))) else (none)) else (none))) else (none)) else (none)) else (none)) else (none)) = some r := h
 clear h
 by_cases c2 : 0 ≤ a0_0
 ·rw [if_pos c2] at H
  have c2b0 := eq_true c2
  have c2b1 := decide_eq_true c2
  clear c2
  by_cases c3 : a0_0 ≤ (wrap64 (a0_0 + 1))
  ·rw [if_pos c3] at H
   have c3b0 := eq_true c3
   have c3b1 := decide_eq_true c3
   by_cases c4 : (wrap64 (a0_0 + 1)) ≤ 2
   ·rw [if_pos c4] at H
    have c4b0 := eq_true c4
    have c4b1 := decide_eq_true c4
    by_cases c5 : ((⟨#[83, 72]⟩ : ByteArray).extract (a0_0 : Int).toNat ((wrap64 (a0_0 + 1)) : Int).toNat).size + 1 ≤ 9223372036854775807
    ·rw [if_pos c5] at H
     have c5b0 := eq_true c5
     have c5b1 := decide_eq_true c5
     try have c5b2 : (9223372036854775807 < ((⟨#[83, 72]⟩ : ByteArray).extract (a0_0 : Int).toNat ((wrap64 (a0_0 + 1)) : Int).toNat).size + 1) = False := eq_false (Nat.not_lt.2 c5)
     try (have c5b4 := c5b2; simp only [ByteArray.size_append, impl_patternText.exsz c4, impl_patternText.exsz1] at c5b4)
     obtain ⟨t241, A6, H⟩ := ob H
     try dsimp only at H
     by_cases c7 : (((⟨#[83, 72]⟩ : ByteArray).extract (a0_0 : Int).toNat ((wrap64 (a0_0 + 1)) : Int).toNat) ++ (⟨#[32]⟩ : ByteArray)).size + t241.size ≤ 9223372036854775807
     ·rw [if_pos c7] at H
      have c7b0 := eq_true c7
      have c7b1 := decide_eq_true c7
      try have c7b2 : (9223372036854775807 < (((⟨#[83, 72]⟩ : ByteArray).extract (a0_0 : Int).toNat ((wrap64 (a0_0 + 1)) : Int).toNat) ++ (⟨#[32]⟩ : ByteArray)).size + t241.size) = False := eq_false (Nat.not_lt.2 c7)
      try (have c7b4 := c7b2; simp only [ByteArray.size_append, impl_patternText.exsz c4, impl_patternText.exsz1] at c7b4)
      try (have c7b3 := c7b2; simp only [ByteArray.size_append] at c7b3)
      by_cases c8 : ((((⟨#[83, 72]⟩ : ByteArray).extract (a0_0 : Int).toNat ((wrap64 (a0_0 + 1)) : Int).toNat) ++ (⟨#[32]⟩ : ByteArray)) ++ t241).size + 1 ≤ 9223372036854775807
      ·rw [if_pos c8] at H
       have c8b0 := eq_true c8
       have c8b1 := decide_eq_true c8
       try have c8b2 : (9223372036854775807 < ((((⟨#[83, 72]⟩ : ByteArray).extract (a0_0 : Int).toNat ((wrap64 (a0_0 + 1)) : Int).toNat) ++ (⟨#[32]⟩ : ByteArray)) ++ t241).size + 1) = False := eq_false (Nat.not_lt.2 c8)
       try (have c8b4 := c8b2; simp only [ByteArray.size_append, impl_patternText.exsz c4, impl_patternText.exsz1] at c8b4)
       try (have c8b3 := c8b2; simp only [ByteArray.size_append] at c8b3)
       obtain ⟨t242, A9, H⟩ := ob H
       try dsimp only at H
       by_cases c10 : (((((⟨#[83, 72]⟩ : ByteArray).extract (a0_0 : Int).toNat ((wrap64 (a0_0 + 1)) : Int).toNat) ++ (⟨#[32]⟩ : ByteArray)) ++ t241) ++ (⟨#[32]⟩ : ByteArray)).size + t242.size ≤ 9223372036854775807
       ·rw [if_pos c10] at H
        have c10b0 := eq_true c10
        have c10b1 := decide_eq_true c10
        try have c10b2 : (9223372036854775807 < (((((⟨#[83, 72]⟩ : ByteArray).extract (a0_0 : Int).toNat ((wrap64 (a0_0 + 1)) : Int).toNat) ++ (⟨#[32]⟩ : ByteArray)) ++ t241) ++ (⟨#[32]⟩ : ByteArray)).size + t242.size) = False := eq_false (Nat.not_lt.2 c10)
        try (have c10b4 := c10b2; simp only [ByteArray.size_append, impl_patternText.exsz c4, impl_patternText.exsz1] at c10b4)
        try (have c10b3 := c10b2; simp only [ByteArray.size_append] at c10b3)
        obtain rfl := Option.some.inj H
        go_enter Tryd.func43, Tryd.ntmps43
        try go_wp2_with (first | ((with_reducible refine gd 1 rfl ?_); refine bx #[.int .i64 a0_0, .int .i64 a0_1, .int .i64 a0_2, .int .i64 a0_3, .slice A0_4 l0_4.length c0_4] 42 ?_; intro gb240 hg w11 BK240 hb; have GE240 := ngw0 hg HB; replace HB := bS0 HB hb; clear hb hg))
        replace BK240 := asd (blk_drew BK240.out)
        replace HB := asd (below_drew1 HB.out)
        refine sh 17 (eb5 BK240) (fun hHeld => ?_); refine with_tabW impl_patternText.tab1 impl_patternText.bits1 (fun HT_ HW_ => ?_)
        generalize w11.drew = w12 at BK240 HB hHeld ⊢
        refine pu 0 (some 3) (bT 17 1) HT_ ?_
        refine pu 2 (some 5) (bs 17 5) HT_ ?_
        refine pu 7 (some 10) (bs 17 133) HT_ ?_
        refine pu 12 (some 15) (bs 17 4229) HT_ ?_
        refine ta 1 (some 4) (bs 17 4231) HT_ HW_ hHeld ?_
        refine ta 3 (some 6) (bs 17 4239) HT_ HW_ hHeld ?_
        refine pu 4 (some 7) (bs 17 4255) HT_ ?_
        refine pu 5 (some 8) (bs 17 4287) HT_ ?_
        refine pu 6 (some 9) (bs 17 4351) HT_ ?_
        refine ta 8 (some 11) (bs 17 4607) HT_ HW_ hHeld ?_
        refine ta 13 (some 16) (bs 17 12799) HT_ HW_ hHeld ?_
        refine ro 9 (some 12) (bs 17 13311) HT_ (fun K hK => ?_)
        refine gs Tryd.func67 #[.agg #[.int .i64 a0_1, .int .i64 a0_2, .int .i64 a0_3]] ?_
        with_reducible refine (impl_LatticeText.calls _ _ _ _ _ _ (texts.tabB HTAB.out (by repeat (first | (with_reducible first | exact HB.out | exact Below.refl _ _ | apply below_alloc | apply pw_below_drewN | apply below_drew1 | refine below_set ?_ GE240.out) | exact HB.out))) A6.out).mono ?_
        rintro e w13 ⟨rfl, hb⟩
        refine ⟨_, rfl, ?_⟩
        replace BK240 := bB BK240 hb
        replace HB := bS1 HB GE240 hb
        (try clear hb)
        (try clear hb2)
        (try clear hk)
        (try clear hi)
        refine hK.out _ _ (eb5 BK240).out (fun hHeld => ?_)
        clear hK K
        refine norm_ (a' := ?_) ?_ ?_
        rotate_left
        ·show Act.put _ (some 12) _ = _
         simp only [Act.put, sA, sB, sC, i64_w, i32_w]
         rfl
        refine pu 10 (some 13) (bs 17 14335) HT_ ?_
        refine pu 11 (some 14) (bT 17 14) HT_ ?_
        refine ro 14 (some 17) (bT 17 15) HT_ (fun K hK => ?_)
        refine gs Tryd.func68 #[.slice A0_4 l0_4.length c0_4] ?_
        with_reducible refine (impl_digitsText.calls _ _ _ _ _ _ ?side1 ?side2 (texts.tabB HTAB.out (by repeat (first | (with_reducible first | exact HB.out | exact Below.refl _ _ | apply below_alloc | apply pw_below_drewN | apply below_drew1 | refine below_set ?_ GE240.out) | exact HB.out))) A9.out).mono ?_
        (case side1 => exact ks (Kd.C_below HR0_4.out HB.out))
        (case side2 => exact HC0_4.out)
        rintro e w14 ⟨rfl, hb⟩
        refine ⟨_, rfl, ?_⟩
        replace BK240 := bB BK240 hb
        replace HB := bS1 HB GE240 hb
        (try clear hb)
        (try clear hb2)
        (try clear hk)
        (try clear hi)
        refine hK.out _ _ (eb5 BK240).out (fun hHeld => ?_)
        clear hK K
        refine norm_ (a' := ?_) ?_ ?_
        rotate_left
        ·show Act.put _ (some 17) _ = _
         simp only [Act.put, sA, sB, sC, i64_w, i32_w]
         rfl
        refine pu 15 (some 18) (bT 17 16) HT_ ?_
        refine pu 16 (some 2) (bT 17 17) HT_ ?_
        refine done_ (done_of HT_.out (by kernel_rfl)) ?_
        try go_wp2
        go_ret
        exact er (bbw1 HB GE240)
       ·rw [if_neg c10] at H
        exact absurd H (by simp)
      ·rw [if_neg c8] at H
       exact absurd H (by simp)
     ·rw [if_neg c7] at H
      exact absurd H (by simp)
    ·rw [if_neg c5] at H
     exact absurd H (by simp)
   ·rw [if_neg c4] at H
    exact absurd H (by simp)
  ·rw [if_neg c3] at H
   exact absurd H (by simp)
 ·rw [if_neg c2] at H
  exact absurd H (by simp)

end Go.Proofs.YtfhbhjlgepjlfaaDoor.PR
