/- Walks written by program: each Go function that the law reaches comes to the plain function beside it. -/
import Derived.Test.YtnblfcibgokccaaGreatDoorPAx0
import Derived.Test.YtnblfcibgokccaaGreatDoorPAx2
import Derived.Test.YtnblfcibgokccaaGreatDoorPAx4
import Derived.Test.YtnblfcibgokccaaGreatDoorPAx6
namespace Go.Proofs.YtnblfcibgokccaaGreatDoor.PA
open Go.RowKit Go.Proofs.YtnblfcibgokccaaGreatDoorW.PrintWords Go.Proofs.YtnblfcibgokccaaGreatDoorW.PrintLast Go.Proofs.YtnblfcibgokccaaGreatDoorW.PrintMore
attribute [local go_sem] max2_int min2_int max_two min_two max_three min_three max_four min_four   -- for this text's walks alone
set_option linter.unusedVariables false
set_option linter.unusedSimpArgs false

attribute [local go_sem high] eqA27
/-! ### strings_Split: function 74 -/
/-- A text's pieces between a separator that is not empty. -/
def strings_Split.f (a0 a1 : ByteArray) : Option (List ByteArray) := if a0.size < 4294967281 ∧ 1 ≤ a1.size then some (Lib.splitB a1 0 (Lib.countB a0 a1) a0) else none
theorem strings_Split.made (w : World) (rs : List ByteArray) (n : Nat) (hn : n = rs.length) (hm : rs.length ≤ maxLen) : Kd.R Kd.string 9 (w.alloc (.cells (rs.map Value.string).toArray 9)) w.heap.size (fun _ => True) (.slice (some ⟨w.heap.size, 0, none⟩) n n) rs := by
 subst hn
 refine ⟨fun _ _ => trivial, rs.map Value.string, ?_, ?_⟩
 ·have := World.ownsRow_lit (base := w.heap.size) (e := 9) (size := Kd.string.sz) w (rs.map Value.string).toArray rs.length (Nat.le_refl _) hm (by show (rs.map Value.string).toArray.size = rs.length * 1; simp)
  simpa using this
 ·refine ⟨by simp [Kd.string, Kd.scalar], fun j p hp => ?_⟩
  show _ = [Value.string p]
  have hj : j < rs.length := (List.getElem?_eq_some_iff.1 hp).1
  have e : (rs.map Value.string)[j]? = some (Value.string p) := by rw [List.getElem?_map, hp]; rfl
  show ((rs.map Value.string).drop (j * 1)).take 1 = [Value.string p]
  rw [Nat.mul_one, List.drop_eq_getElem_cons (by simpa using hj), List.take_succ_cons, List.take_zero]
  congr 1
  have := List.getElem?_eq_some_iff.1 e
  exact this.2
theorem strings_Split.calls (a0 a1 : ByteArray) (r : List ByteArray) (w : World) (htab : texts.Tab w) (h : strings_Split.f a0 a1 = some r) : Calls Tryz.prog 74 #[.string a0, .string a1] w fun e w' => ∃ v0_ : Value, e = .returned (v0_) ∧ Kd.R Kd.string 9 w' w.heap.size (fun _ => True) v0_ r ∧ Below w.heap.size w w' := by
 unfold strings_Split.f at h
 by_cases hc : a0.size < 4294967281 ∧ 1 ≤ a1.size
 ·rw [if_pos hc] at h
  obtain rfl := Option.some.inj h
  obtain ⟨m, hm⟩ := htab.maxlen
  refine (Tryz.strings_Split a0 a1 m w hc.1 hm hc.2).mono ?_
  rintro e w' ⟨rfl, rfl⟩
  have hl := Lib.splitB_all a1 hc.2 0 _ a0 rfl
  have hle := Lib.countB_le a1 hc.2 a0.size a0 (Nat.le_refl _)
  exact ⟨_, rfl, strings_Split.made w _ _ hl.symm (by unfold maxLen; omega), below_alloc (Below.refl _ _) _⟩
 ·rw [if_neg hc] at h; cases h
/-! ### impl_number: function 105 -/
/-- The number with a text, and whether there is one. -/
def impl_number.f (a0 : ByteArray) : Option (Int × Bool) := if a0.size ≤ 281474976710656 then (match Lib.parseIntB 64 a0.data.toList with
 | .ok v => some (v, (⟨(Lib.itoa v).toArray⟩ : ByteArray).toList == a0.toList)
 | .range => some (Lib.intSat 64 a0.data.toList, false)
 | Lib.NumEnd.syntax => some (0, false)) else none
theorem impl_number.rng {l : List UInt8} {v : Int} (h : Lib.parseIntB 64 l = .ok v) : -9223372036854775808 ≤ v ∧ v ≤ 9223372036854775807 := by
 cases l with
 | nil => cases h
 | cons c r =>
  simp only [Lib.parseIntB] at h
  generalize Lib.parseUintB 64 (if c.toNat = 43 ∨ c.toNat = 45 then r else c :: r) = q at h
  cases q with
  | ok u =>
   simp only at h
   by_cases c1 : ¬ c.toNat = 45 ∧ 2 ^ (64 - 1) ≤ u
   ·rw [if_pos c1] at h; cases h
   ·rw [if_neg c1] at h
    by_cases c2 : c.toNat = 45 ∧ 2 ^ (64 - 1) < u
    ·rw [if_pos c2] at h; cases h
    ·rw [if_neg c2] at h
     injection h with h
     subst h
     by_cases c3 : c.toNat = 45
     ·rw [if_pos c3]; omega
     ·rw [if_neg c3]; omega
  | _ => cases h
set_option maxHeartbeats 8000000 in
set_option maxRecDepth 100000 in
theorem impl_number.calls (a0 : ByteArray) (r1 : Int) (r2 : Bool) (w : World) (htab : texts.Tab w) (h : impl_number.f a0 = some (r1, r2)) : Calls Tryz.prog 105 #[.string a0] w fun e w' => e = .returned (.tuple #[.int .i64 r1, .bool r2]) ∧ Below w.heap.size w w' := by
 unfold impl_number.f at h
 by_cases hc : a0.size ≤ 281474976710656
 ·rw [if_pos hc] at h
  cases hp : Lib.parseIntB 64 a0.data.toList with
  | ok v =>
   rw [hp] at h
   injection h with h; injection h with h1 h2
   subst h1 h2
   obtain ⟨q0, q1⟩ := impl_number.rng hp
   have ht : impl_text.f v = some ⟨(Lib.itoa v).toArray⟩ := by
    unfold impl_text.f strconv_FormatInt.f
    rw [if_pos ⟨⟨q0, q1⟩, rfl⟩]; rfl
   have hcall := Tryz.strconv_ParseInt_10_at64_ok a0 (by omega) v hp w
   have htext := fun (w1 : World) (hb : Below w.heap.size w w1) => impl_text.calls v _ w1 (texts.tabB htab hb) ht
   go_enter Tryz.func105, Tryz.ntmps105
   go_wp2_with (first | ((with_reducible refine gate_callee (f := 134) rfl ?_); refine goesL_ (some 8) rfl rfl Tryz.func134 (by kernel_rfl) rfl #[.string a0, .int .i64 10, .int .i64 64] rfl (by (try simp only [List.map_toArray, List.map_cons, List.map_nil]); first | done | rfl) ?_; refine hcall.mono ?_; rintro e w1 ⟨rfl, hw⟩; have hb1 : Below w.heap.size w w1 := (by rcases hw with rfl | ⟨t, rfl⟩; exact Below.refl _ _; exact Go.Joins.below_bytesWorld _ _ _ _ (Nat.le_refl _)); clear hw; refine ⟨_, rfl, ?_⟩) | (go_at_call 103; refine (htext _ (by repeat (first | exact hb1 | apply pw_below_drewN | apply below_drew1))).mono ?_; rintro e w2 ⟨rfl, hb⟩; have hb2 := Below.trans hb1 (Below.mono hb hb1.size)))
   go_ret2
   exact ⟨by first | rfl | (simp; done), by repeat (first | exact hb2 | apply pw_below_drewN | apply below_drew1)⟩
  | range =>
   rw [hp] at h
   injection h with h; injection h with h1 h2
   subst h1 h2
   obtain ⟨ev, hv, hev⟩ := htab.errrange
   have hcall := Tryz.strconv_ParseInt_10_at64_range a0 hc hp ev w hv hev
   go_enter Tryz.func105, Tryz.ntmps105
   go_wp2_with (first | ((with_reducible refine gate_callee (f := 134) rfl ?_); refine goesL_ (some 8) rfl rfl Tryz.func134 (by kernel_rfl) rfl #[.string a0, .int .i64 10, .int .i64 64] rfl (by (try simp only [List.map_toArray, List.map_cons, List.map_nil]); first | done | rfl) ?_; refine hcall.mono ?_; rintro e w1 ⟨N, rfl, hN, hcell, hb1⟩; refine ⟨_, rfl, ?_⟩))
   go_ret2
   exact ⟨by first | rfl | (simp; done), by repeat (first | exact hb1 | apply pw_below_drewN | apply below_drew1)⟩
  | _ =>
   rw [hp] at h
   injection h with h; injection h with h1 h2
   subst h1 h2
   obtain ⟨ev, hv, hev⟩ := htab.errsyntax
   have hcall := Tryz.strconv_ParseInt_10_at64_syntax a0 hc hp ev w hv hev
   go_enter Tryz.func105, Tryz.ntmps105
   go_wp2_with (first | ((with_reducible refine gate_callee (f := 134) rfl ?_); refine goesL_ (some 8) rfl rfl Tryz.func134 (by kernel_rfl) rfl #[.string a0, .int .i64 10, .int .i64 64] rfl (by (try simp only [List.map_toArray, List.map_cons, List.map_nil]); first | done | rfl) ?_; refine hcall.mono ?_; rintro e w1 ⟨N, rfl, hN, hcell, hb1⟩; refine ⟨_, rfl, ?_⟩))
   go_ret2
   exact ⟨by first | rfl | (simp; done), by repeat (first | exact hb1 | apply pw_below_drewN | apply below_drew1)⟩
 ·rw [if_neg hc] at h; cases h
/-! ### impl_parted: function 63 -/
def impl_parted.l0 : Nat → List Int → List ByteArray → Int → Int → Option (List Int × Bool)
 | 0, _, _, _, _ => none
 | k + 1, x9, x22, x23, x24 => if x24 < x23 then (if 0 ≤ x24 then (if x24 < (x22.length : Int) then ((impl_number.f (rdOf ByteArray.empty x22 x24)).bind fun bt356 => (if bt356.2 = true then (if x9.length < 17592186044416 then (impl_parted.l0 k (x9 ++ [bt356.1]) x22 x23 (wrap64 (x24 + 1))) else (none)) else (some (([] : List Int), false)))) else (none)) else (none)) else (some (x9, true))
def impl_parted.f (k : Nat) (a0 : ByteArray) (a1 : ByteArray) (a2 : Int) : Option (List Int × Bool) := (strings_Split.f a0 a1).bind fun t349 => (if (t349.length : Int) = a2 then (impl_parted.l0 k (([] : List Int)) t349 (t349.length : Int) 0) else (some (([] : List Int), false)))
set_option maxHeartbeats 8000000 in
set_option maxRecDepth 100000 in
theorem impl_parted.calls (k : Nat) (a0 : ByteArray) (a1 : ByteArray) (a2 : Int) (r1 : List Int) (r2 : Bool) (w : World) (htab : texts.Tab w) (h : impl_parted.f k a0 a1 a2 = some (r1, r2)) :
  Calls Tryz.prog 63 #[.string a0, .string a1, .int .i64 a2] w fun e w' => ∃ v0_ : Value, e = .returned (.tuple #[v0_, .bool r2]) ∧ Kd.R (Kd.int .i64) 2 w' w.heap.size (fun _ => True) v0_ r1 ∧ Below w.heap.size w w' := by
 have HTAB := Aside0.mk htab
 clear htab
 have HB := asd (Below.refl w.heap.size w)
 have H : ((strings_Split.f a0 a1).bind fun t349 => (if (t349.length : Int) = a2 then (impl_parted.l0 k (([] : List Int)) t349 (t349.length : Int) 0) else (some (([] : List Int), false)))) = some (r1, r2) := h
 clear h
 obtain ⟨t349, A4, H⟩ := ob H
 try dsimp only at H
 by_cases c5 : (t349.length : Int) = a2
 rw [if_pos c5] at H
 have c5b0 : ((t349.length : Int) == a2) = true := beq_iff_eq.mpr c5
 have c5b1 : ((t349.length : Int) != a2) = false := bne_eq_false_iff_eq.mpr c5
 clear c5
 obtain ⟨y352, hy352⟩ : ∃ y_ : List Int, y_ = (([] : List Int)) := ⟨_, rfl⟩
 replace H : (impl_parted.l0 k y352 t349 (t349.length : Int) 0) = some (r1, r2) := by first | (rw [hy352]; with_reducible exact H) | (have H2_ := (Option.bind_some _ _).symm.trans H; rw [hy352]; with_reducible exact H2_) | (have H2_ := (Option.bind_some _ _).symm.trans H; with_reducible exact H2_) | with_reducible exact H | (rw [hy352]; exact H) | exact H
 have Ny352 := Aside0.mk hy352
 clear hy352
 have H' := Aside0.mk H
 clear H
 rotate_left
 rw [if_neg c5] at H
 have c5b0 : ((t349.length : Int) == a2) = false := beq_eq_false_iff_ne.mpr c5
 have c5b1 : ((t349.length : Int) != a2) = true := bne_iff_ne.mpr c5
 rotate_left
 rotate_left
 simp only [Option.some.injEq, Prod.mk.injEq] at H
 obtain ⟨rfl, rfl⟩ := H
 rotate_left
 all_goals
  go_enter Tryz.func63, Tryz.ntmps63
  go_wp2_with (first | ((with_reducible refine gate_callee (f := 74) rfl ?_); refine gl 16 Tryz.func74 #[.string a0, .string a1] ?_; (with_reducible refine (strings_Split.calls _ _ _ _ (texts.tabB HTAB.out (by repeat (first | (with_reducible first | exact HB.out | exact Below.refl _ _ | apply below_alloc | apply pw_below_drewN | apply below_drew1) | exact HB.out))) A4.out).mono ?_); rintro e w6 ⟨v350, rfl, ho0, hb⟩; refine ⟨_, rfl, ?_⟩; have HO351 := asd (Kd.R_lower ho0 (bsz0 HB)); replace HB := bS0 HB hb; (try clear hb); (try clear hb2); (try clear hk); (try clear hi); (try clear ho0); obtain ⟨Ao7, co7, eo7⟩ := Kd.R_slice HO351.out; subst eo7) | ((with_reducible refine gd 21 rfl ?_); refine Kd.R_lit (Kd.int .i64) _ 2 ?hg (N := 21) ?hd (xs := ([] : List Int)) (inner := []) (ok := fun _ => True) (okp := fun _ => True) ?hr ?hp (fun _ hk => hk) trivial (Below.refl _ _) (Nat.le_refl _) (by simp) ?_; (case hd => rfl); (case hg => rfl); (case hr => first | (go_simp; done) | (go_simp; rfl)); (case hp => exact (Reps.none _ _)); intro v353 w8 ho9 hb hg_ hnew_; clear hg_ hnew_; (first | rw [← Ny352.out] at ho9 | (simp only [Int.reduceToNat] at ho9; rw [← Ny352.out] at ho9)); replace HO351 := asd (Kd.R_below (kr HO351) hb); have HO354 := asd (Kd.R_lower ho9 (bsz0 HB)); replace HB := bS0 HB hb; clear hb ho9))
 ·go_loopg [9, 24] k (fun kq v9 v24 w' => ∃ (x9_1 : List Int) (x24_1 : Int), v24 = .int .i64 x24_1 ∧ Aside0 (impl_parted.l0 kq x9_1 t349 (t349.length : Int) x24_1 = some (r1, r2)) ∧ Aside0 (kq ≤ k) ∧ Aside0 (Kd.R (Kd.int .i64) 2 w' w.heap.size (fun _ => True) v9 x9_1) ∧ Aside0 (Kd.R Kd.string 9 w' w.heap.size (fun _ => True) (.slice Ao7 t349.length co7) t349) ∧ Aside0 (Below w.heap.size w w'))
  case atStart => exact ⟨(y352), (0), (by first | rfl | (simp; done) | (simp [*]; done)), H', ⟨Nat.le_refl _⟩, ⟨by (with_reducible repeat (first | apply Kd.R_alloc | apply Kd.R_drewN | apply Kd.R_drew)); exact HO354.out⟩, ⟨by (with_reducible repeat (first | apply Kd.R_alloc | apply Kd.R_drewN | apply Kd.R_drew)); exact HO351.out⟩, ⟨bbw0 HB⟩⟩
  case round =>
   clear H'
   try clear p2
   try clear c5
   try clear c5b0
   try clear c5b1
   try clear c6
   try clear c7
   obtain ⟨x9_1, x24_1, rfl, HA, HK1, HO_9, HO_22, HB⟩ := hrel
   cases gk with
   | zero => exact absurd HA.out (by simp [impl_parted.l0])
   | succ k1 =>
    have H := HA.out
    clear HA
    simp only [impl_parted.l0] at H
    by_cases c10 : x24_1 < (t349.length : Int)
    rw [if_pos c10] at H
    have c10b0 := decide_eq_true c10
    clear c10
    by_cases c11 : 0 ≤ x24_1
    rw [if_pos c11] at H
    have c11b0 := decide_eq_true c11
    clear c11
    by_cases c12 : x24_1 < (t349.length : Int)
    rw [if_pos c12] at H
    have c12b0 := decide_eq_true c12
    clear c12
    obtain ⟨⟨t356, t357⟩, A13, H⟩ := ob H
    try dsimp only at H
    by_cases c14 : t357 = true
    subst c14
    replace H := ifT H
    by_cases c15 : x9_1.length < 17592186044416
    rw [if_pos c15] at H
    have LMc15 := Aside0.mk c15
    clear c15
    obtain ⟨y358, hy358⟩ : ∃ y_ : List Int, y_ = (x9_1 ++ [t356]) := ⟨_, rfl⟩
    replace H : (impl_parted.l0 k1 y358 t349 (t349.length : Int) (wrap64 (x24_1 + 1))) = some (r1, r2) := by first | (rw [hy358]; with_reducible exact H) | (have H2_ := (Option.bind_some _ _).symm.trans H; rw [hy358]; with_reducible exact H2_) | (have H2_ := (Option.bind_some _ _).symm.trans H; with_reducible exact H2_) | with_reducible exact H | (rw [hy358]; exact H) | exact H
    have Ny358 := Aside0.mk hy358
    clear hy358
    have H' := Aside0.mk H
    clear H
    rotate_left
    ·rw [if_neg c15] at H
     exact absurd H (by simp)
    replace c14 := Bool.eq_false_iff.mpr c14
    subst c14
    replace H := ifF H
    rotate_left
    ·rw [if_neg c12] at H
     exact absurd H (by simp)
    ·rw [if_neg c11] at H
     exact absurd H (by simp)
    rw [if_neg c10] at H
    have c10b0 := decide_eq_false c10
    clear c10
    rotate_left
    rotate_left
    simp only [Option.some.injEq, Prod.mk.injEq] at H
    obtain ⟨rfl, rfl⟩ := H
    rotate_left
    ·simp only [Option.some.injEq, Prod.mk.injEq] at H
     obtain ⟨rfl, rfl⟩ := H
     go_wp2
     go_ret2
     exact ⟨_, by first | rfl | (simp [errW_none, errW_some] <;> rfl) | (simp [*, errW_none, errW_some] <;> rfl), by (with_reducible repeat (first | apply Kd.R_alloc | apply Kd.R_drewN | apply Kd.R_drew)); exact HO_9.out, bbw0 HB⟩
    all_goals
     have p355 : 0 ≤ (x24_1 : Int) := od
     have q355 : x24_1 < (t349.length : Int) := od
     obtain ⟨ad355, e355, hx355_0⟩ := Kd.at_string (Kd.R_reads' HO_22.out).2.2 x24_1 p355 q355
     cases e355
     replace p355 := eq_true p355
     replace q355 := eq_true q355
     go_wp2_with (first | ((with_reducible refine gate_callee (f := 105) rfl ?_); refine gl 30 Tryz.func105 #[.string (rdOf ByteArray.empty t349 x24_1)] ?_; (with_reducible refine (impl_number.calls _ _ _ _ (texts.tabB HTAB.out (by repeat (first | (with_reducible first | exact HB.out | exact Below.refl _ _ | apply below_alloc | apply pw_below_drewN | apply below_drew1) | exact HB.out))) A13.out).mono ?_); rintro e w16 ⟨rfl, hb⟩; refine ⟨_, rfl, ?_⟩; replace HO_9 := asd (Kd.R_below (kr HO_9) hb); replace HO_22 := asd (Kd.R_below (kr HO_22) hb); replace HB := bS0 HB hb; (try clear hb)) | ((with_reducible refine gate_builtin (b := .append) (xs := #[.tmp 35, .tmp 37]) rfl ?_); at_builtin; refine Kd.R_append (Kd.int .i64) (w0 := w) w.heap.size rfl (.tmp 35) (.tmp 37) 48 2 (.int .i64 0) 8 rfl Tryz.underlying48 info2 rfl (by decide) (by omega) u9 x9_1 t356 [.int .i64 t356] (fun _ => True) (fun _ => False) rfl rfl ?aP (fun _ hk => hk.elim) ?aF ?aO ?aB ?aS ?aL ?_; (case aP => exact rfl); (case aB => exact (bbw0 HB)); (case aF => exact (fun _ _ => trivial)); (case aO => exact (kr HO_9)); (case aS => exact (bsz0 HB)); (case aL => have := LMc15.out; omega); intro v359 w17 ho hb hg hat; rw [← Ny358.out] at ho; have n0_ := asd (Kd.R_over' (kr HO_22) (Kd.R_typed (kr HO_9)) (by decide) hg); have n1_ := asd (hb); have n2_ := asd (ho); clear HO_22; clear HB; clear HO_9; have HO_22 := n0_; have HB := n1_; have HO360 := n2_; clear n0_ n1_ n2_; clear ho hb hg hat))
    ·go_roundg k1
     case measure => have := HK1.out; omega
     case rel => exact ⟨(y358), (wrap64 (x24_1 + 1)), (by first | rfl | (simp; done) | (simp [*]; done)), H', ⟨by have := HK1.out; omega⟩, ⟨by (with_reducible repeat (first | apply Kd.R_alloc | apply Kd.R_drewN | apply Kd.R_drew)); exact HO360.out⟩, ⟨by (with_reducible repeat (first | apply Kd.R_alloc | apply Kd.R_drewN | apply Kd.R_drew)); exact HO_22.out⟩, ⟨bbw0 HB⟩⟩
    ·go_ret2
     exact ⟨_, by first | rfl | (simp [errW_none, errW_some] <;> rfl) | (simp [*, errW_none, errW_some] <;> rfl), by first | exact Kd.R_nil _ _ _ _ _ | exact Kd.N_nil _ _ _ _ _ | exact Kd.V_nil _ _ _ _ _ | exact Kd.Q_nil _ _ _ _ _ | exact Kd.S_nil _ _ _ _ _, bbw0 HB⟩
 ·go_ret2
  exact ⟨_, by first | rfl | (simp [errW_none, errW_some] <;> rfl) | (simp [*, errW_none, errW_some] <;> rfl), by first | exact Kd.R_nil _ _ _ _ _ | exact Kd.N_nil _ _ _ _ _ | exact Kd.V_nil _ _ _ _ _ | exact Kd.Q_nil _ _ _ _ _ | exact Kd.S_nil _ _ _ _ _, bbw0 HB⟩
/-! ### impl_ReadMat: function 19 -/
def impl_ReadMat.f (k : Nat) (a0 : ByteArray) : Option (Int × Int × Int × Int × Bool) := (impl_parted.f k a0 (⟨#[44]⟩ : ByteArray) 4).bind fun bt362 => (if bt362.2 = true then (if 0 < (bt362.1.length : Int) then (if 1 < (bt362.1.length : Int) then (if 2 < (bt362.1.length : Int) then (if 3 < (bt362.1.length : Int) then ((impl_IsMat.f (rd bt362.1 0) (rd bt362.1 1) (rd bt362.1 2) (rd bt362.1 3)).bind fun t370 => (if t370 = true then (some (rd bt362.1 0, rd bt362.1 1, rd bt362.1 2, rd bt362.1 3, true)) else (some (0, 0, 0, 0, false)))) else (none)) else (none)) else (none)) else (none)) else (some (0, 0, 0, 0, false)))
def impl_ReadMat.T2 : Bool × List (List Nat × List Nat) := (true, [([], []), ([0], [0]), ([1], [1]), ([2], [2]), ([3, 2], [2, 3]), ([4, 2], [2, 4]), ([2], [2]), ([6, 2], [2, 6]), ([7, 2], [2, 7]), ([2], [2]), ([9, 2], [2, 9]), ([10, 2], [2, 10]), ([2], [2]), ([12, 2], [2, 12]), ([13, 2], [2, 13]), ([5, 8, 11, 14, 2], [2, 5, 8, 11, 14]), ([15, 2, 2], [2, 15]), ([16, 2], [2, 16]), ([2, 17], [2, 17])])
def impl_ReadMat.B2 : List Nat := [0, 1, 3, 7, 15, 31, 7, 71, 199, 7, 519, 1543, 7, 4103, 12295, 32767, 65535, 131071, 262143]
theorem impl_ReadMat.tab2 : rtab .any (opsOf Tryz.f19 2) = impl_ReadMat.T2 := by kernel_rfl
theorem impl_ReadMat.bits2 : waitsOk impl_ReadMat.T2.2 impl_ReadMat.B2 = true := by kernel_rfl
def impl_ReadMat.T4 : Bool × List (List Nat × List Nat) := (true, [([], []), ([0], [0]), ([1], [1]), ([], []), ([3], [3]), ([4], [4]), ([], []), ([6], [6]), ([7], [7]), ([], []), ([9], [9]), ([10], [10]), ([2, 5, 8, 11], [2, 5, 8, 11]), ([12, 0, 1, 2, 3, 4, 5, 6, 7, 8, 9, 10, 11, 12], [12]), ([13, 0, 1, 2, 3, 4, 5, 6, 7, 8, 9, 10, 11, 12, 13], [])])
def impl_ReadMat.B4 : List Nat := [0, 1, 3, 0, 8, 24, 0, 64, 192, 0, 512, 1536, 4095, 8191, 16383]
theorem impl_ReadMat.tab4 : rtab .any (opsOf Tryz.f19 4) = impl_ReadMat.T4 := by kernel_rfl
theorem impl_ReadMat.bits4 : waitsOk impl_ReadMat.T4.2 impl_ReadMat.B4 = true := by kernel_rfl
set_option maxHeartbeats 8000000 in
set_option maxRecDepth 100000 in
theorem impl_ReadMat.calls (k : Nat) (a0 : ByteArray) (r1 : Int) (r2 : Int) (r3 : Int) (r4 : Int) (r5 : Bool) (w : World) (htab : texts.Tab w) (h : impl_ReadMat.f k a0 = some (r1, r2, r3, r4, r5)) :
  Calls Tryz.prog 19 #[.string a0] w fun e w' => e = .returned (.tuple #[.agg #[.int .i64 r1, .int .i64 r2, .int .i64 r3, .int .i64 r4], .bool r5]) ∧ Below w.heap.size w w' := by
 have HTAB := Aside0.mk htab
 clear htab
 have hu25 := Tryz.underlying25
 have HB := asd (Below.refl w.heap.size w)
 have H : ((impl_parted.f k a0 (⟨#[44]⟩ : ByteArray) 4).bind fun bt362 => (if bt362.2 = true then (if 0 < (bt362.1.length : Int) then (if 1 < (bt362.1.length : Int) then (if 2 < (bt362.1.length : Int) then (if 3 < (bt362.1.length : Int) then ((impl_IsMat.f (rd bt362.1 0) (rd bt362.1 1) (rd bt362.1 2) (rd bt362.1 3)).bind fun t370 => (if t370 = true then (some (rd bt362.1 0, rd bt362.1 1, rd bt362.1 2, rd bt362.1 3, true)) else (some (0, 0, 0, 0, false)))) else (none)) else (none)) else (none)) else (none)) else (some (0, 0, 0, 0, false)))) = some (r1, r2, r3, r4, r5) := h
 clear h
 obtain ⟨⟨t362, t363⟩, A2, H⟩ := ob H
 try dsimp only at H
 by_cases c3 : t363 = true
 subst c3
 replace H := ifT H
 by_cases c4 : 0 < (t362.length : Int)
 rw [if_pos c4] at H
 have c4b0 := decide_eq_true c4
 have c4b1 : decide (0 < t362.length) = true := decide_eq_true (by omega)
 clear c4
 by_cases c5 : 1 < (t362.length : Int)
 rw [if_pos c5] at H
 have c5b0 := decide_eq_true c5
 have c5b1 : decide (1 < t362.length) = true := decide_eq_true (by omega)
 clear c5
 by_cases c6 : 2 < (t362.length : Int)
 rw [if_pos c6] at H
 have c6b0 := decide_eq_true c6
 have c6b1 : decide (2 < t362.length) = true := decide_eq_true (by omega)
 clear c6
 by_cases c7 : 3 < (t362.length : Int)
 rw [if_pos c7] at H
 have c7b0 := decide_eq_true c7
 have c7b1 : decide (3 < t362.length) = true := decide_eq_true (by omega)
 clear c7
 obtain ⟨t370, A8, H⟩ := ob H
 try dsimp only at H
 by_cases c9 : t370 = true
 subst c9
 replace H := ifT H
 rotate_left
 replace c9 := Bool.eq_false_iff.mpr c9
 subst c9
 replace H := ifF H
 rotate_left
 ·rw [if_neg c7] at H
  exact absurd H (by simp)
 ·rw [if_neg c6] at H
  exact absurd H (by simp)
 ·rw [if_neg c5] at H
  exact absurd H (by simp)
 ·rw [if_neg c4] at H
  exact absurd H (by simp)
 replace c3 := Bool.eq_false_iff.mpr c3
 subst c3
 replace H := ifF H
 rotate_left
 all_goals
  simp only [Option.some.injEq, Prod.mk.injEq] at H
  obtain ⟨rfl, rfl, rfl, rfl, rfl⟩ := H
  go_enter Tryz.func19, Tryz.ntmps19
  try go_wp2_with (first | ((with_reducible refine gd 2 rfl ?_); refine bx #[.int .i64 0, .int .i64 0, .int .i64 0, .int .i64 0] 25 ?_; intro gb361 hg w10 BK361 hb; have GE361 := ngw0 hg HB; replace HB := bS0 HB hb; clear hb hg) | ((with_reducible refine gate_callee (f := 63) rfl ?_); refine gl 8 Tryz.func63 #[.string a0, .string (⟨#[44]⟩ : ByteArray), .int .i64 4] ?_; (with_reducible refine (impl_parted.calls _ _ _ _ _ _ _ (texts.tabB HTAB.out (by repeat (first | (with_reducible first | exact HB.out | exact Below.refl _ _ | apply below_alloc | apply pw_below_drewN | apply below_drew1 | refine below_set ?_ GE361.out) | exact HB.out))) A2.out).mono ?_); rintro e w11 ⟨v364, rfl, ho0, hb⟩; refine ⟨_, rfl, ?_⟩; have HO365 := asd (Kd.R_lower ho0 (bsz1 HB GE361)); replace BK361 := bB BK361 hb; replace HB := bS1 HB GE361 hb; (try clear hb); (try clear hb2); (try clear hk); (try clear hi); (try clear ho0)))
  replace HO365 := asd (Kd.R_drew HO365.out)
  replace BK361 := asd (blk_drew BK361.out)
  replace HB := asd (below_drew1 HB.out)
 rotate_left 2
 ·refine start_ (n := 19) (S := fun w' => True) (ds := []) (bT 19 0) (by kernel_rfl) rfl rfl trivial (fun hHeld => ?_); refine with_tabW impl_ReadMat.tab2 impl_ReadMat.bits2 (fun HT_ HW_ => ?_)
  generalize w11.drew = w28 at HO365 BK361 HB hHeld ⊢
  refine pu 0 (some 11) (bT 19 1) HT_ ?_
  refine pu 1 (some 12) (bT 19 2) HT_ ?_
  refine pu 2 (some 13) (bT 19 3) HT_ ?_
  refine pf 3 (some 14) (bT 19 4) HT_ ?_
  refine pf 4 (some 15) (bT 19 5) HT_ ?_
  refine pf 5 (some 16) (bT 19 6) HT_ ?_
  refine pf 6 (some 17) (bT 19 7) HT_ ?_
  refine pf 7 (some 18) (bT 19 8) HT_ ?_
  refine pf 8 (some 19) (bT 19 9) HT_ ?_
  refine pf 9 (some 20) (bT 19 10) HT_ ?_
  refine pf 10 (some 21) (bT 19 11) HT_ ?_
  refine pf 11 (some 22) (bT 19 12) HT_ ?_
  refine pf 12 (some 23) (bT 19 13) HT_ ?_
  refine pf 13 (some 24) (bT 19 14) HT_ ?_
  refine pf 14 (some 25) (bT 19 15) HT_ ?_
  refine pf 15 (some 26) (bT 19 16) HT_ ?_
  refine pf 16 (some 27) (bT 19 17) HT_ ?_
  refine pf 17 (some 28) (bT 19 18) HT_ ?_
  refine pu 18 (some 29) (bT 19 19) HT_ ?_
  refine done_ (done_of HT_.out (by kernel_rfl)) ?_
  obtain ⟨hcz29_0, hcz29_1, hcz29_2, hcz29_3, hfz29_0, hfz29_1, hfz29_2, hfz29_3⟩ := bz4 BK361
  try go_wp2
  refine bodyPost_ret (results_ct rfl _ _ gb361 25 #[.int .i64 0, .int .i64 0, .int .i64 0, .int .i64 0] (0, 0) _ rfl (bq0 BK361) Tryz.underlying25 rfl (by kernel_rfl)) rfl ?_
  exact er (bbw1 HB GE361)
 all_goals
  obtain ⟨Ao13, co13, eo13⟩ := Kd.R_slice HO365.out
  (first | subst eo13 | (injection eo13 with f1_ f2_ f3_; have f4_ := f1_.symm; have f5_ := f3_.symm; clear f1_ f2_ f3_; subst f4_; subst f5_))
  have p366 : 0 ≤ (0 : Int) := (by omega)
  have q366 : 0 < (t362.length : Int) := od
  obtain ⟨ad366, e366, hx366_0⟩ := Kd.at_int (Kd.R_reads' HO365.out).2.2 0 p366 q366
  cases e366
  have qi366 : (0 < t362.length) = True := eq_true (by omega)
  (try rw [show ((0 : Int)).toNat = 0 from rfl] at hx366_0)
  (try rw [Addr.add_zero'] at hx366_0)
  replace p366 := eq_true p366
  replace q366 := eq_true q366
  have p367 : 0 ≤ (1 : Int) := (by omega)
  have q367 : 1 < (t362.length : Int) := od
  obtain ⟨ad367, e367, hx367_0⟩ := Kd.at_int (Kd.R_reads' HO365.out).2.2 1 p367 q367
  obtain rfl : ad366 = ad367 := (by injection e367)
  (try simp only [show (1 : Int).toNat = 1 from rfl, Nat.reduceMul, Nat.reduceEqDiff, Go.Addr.add, ↓reduceIte] at hx367_0)
  have qi367 : (1 < t362.length) = True := eq_true (by omega)
  (try rw [show ((1 : Int)).toNat = 1 from rfl] at hx367_0)
  replace p367 := eq_true p367
  replace q367 := eq_true q367
  have p368 : 0 ≤ (2 : Int) := (by omega)
  have q368 : 2 < (t362.length : Int) := od
  obtain ⟨ad368, e368, hx368_0⟩ := Kd.at_int (Kd.R_reads' HO365.out).2.2 2 p368 q368
  obtain rfl : ad366 = ad368 := (by injection e368)
  (try simp only [show (2 : Int).toNat = 2 from rfl, Nat.reduceMul, Nat.reduceEqDiff, Go.Addr.add, ↓reduceIte] at hx368_0)
  have qi368 : (2 < t362.length) = True := eq_true (by omega)
  (try rw [show ((2 : Int)).toNat = 2 from rfl] at hx368_0)
  replace p368 := eq_true p368
  replace q368 := eq_true q368
  have p369 : 0 ≤ (3 : Int) := (by omega)
  have q369 : 3 < (t362.length : Int) := od
  obtain ⟨ad369, e369, hx369_0⟩ := Kd.at_int (Kd.R_reads' HO365.out).2.2 3 p369 q369
  obtain rfl : ad366 = ad369 := (by injection e369)
  (try simp only [show (3 : Int).toNat = 3 from rfl, Nat.reduceMul, Nat.reduceEqDiff, Go.Addr.add, ↓reduceIte] at hx369_0)
  have qi369 : (3 < t362.length) = True := eq_true (by omega)
  (try rw [show ((3 : Int)).toNat = 3 from rfl] at hx369_0)
  replace p369 := eq_true p369
  replace q369 := eq_true q369
  refine sh 19 (c1 hx366_0 (c1 hx367_0 (c1 hx368_0 (e1 hx369_0)))) (fun hHeld => ?_); refine with_tabW impl_ReadMat.tab2 impl_ReadMat.bits2 (fun HT_ HW_ => ?_)
  generalize w11.drew = w12 at HO365 BK361 HB hx366_0 hx367_0 hx368_0 hx369_0 hHeld ⊢
  refine pu 0 (some 11) (bT 19 1) HT_ ?_
  refine pu 1 (some 12) (bT 19 2) HT_ ?_
  refine pu 2 (some 13) (bT 19 3) HT_ ?_
  refine pu 3 (some 14) (bT 19 4) HT_ ?_
  refine pu 4 (some 15) (bT 19 5) HT_ ?_
  refine pu 6 (some 17) (bs 19 95) HT_ ?_
  refine pu 7 (some 18) (bs 19 223) HT_ ?_
  refine pu 9 (some 20) (bs 19 735) HT_ ?_
  refine pu 10 (some 21) (bs 19 1759) HT_ ?_
  refine pu 12 (some 23) (bs 19 5855) HT_ ?_
  refine pu 13 (some 24) (bs 19 14047) HT_ ?_
  refine ta 5 (some 16) (bs 19 14079) HT_ HW_ hHeld ?_
  refine ta 8 (some 19) (bs 19 14335) HT_ HW_ hHeld ?_
  refine ta 11 (some 22) (bT 19 14) HT_ HW_ hHeld ?_
  refine ta 14 (some 25) (bT 19 15) HT_ HW_ hHeld ?_
  refine pu 15 (some 26) (bT 19 16) HT_ ?_
  refine ro 16 (some 27) (bT 19 17) HT_ (fun K hK => ?_)
  refine gs Tryz.func52 #[.agg #[.int .i64 (rd t362 0), .int .i64 (rd t362 1), .int .i64 (rd t362 2), .int .i64 (rd t362 3)]] ?_
  with_reducible refine (impl_IsMat.calls _ _ _ _ _ _ A8.out).mono ?_
  rintro e w14 ⟨rfl, hb⟩
  have HS0_ := hbc hb (hHeld.1)
  have HS1_ := hbc hb (hHeld.2.1)
  have HS2_ := hbc hb (hHeld.2.2.1)
  have HS3_ := hbc hb (hHeld.2.2.2)
  refine ⟨_, rfl, ?_⟩
  replace HO365 := asd (Kd.R_below (kr HO365) hb)
  replace BK361 := bB BK361 hb
  replace HB := bS1 HB GE361 hb
  (try clear hb)
  (try clear hb2)
  (try clear hk)
  (try clear hi)
  refine hK.out _ _ ⟨HS0_, HS1_, HS2_, HS3_⟩ (fun hHeld => ?_)
  clear hK K
  refine norm_ (a' := ?_) ?_ ?_
  rotate_left
  ·show Act.put _ (some 27) _ = _
   simp only [Act.put, sA, sB, sC, i64_w, i32_w]
   rfl
  refine pu 17 (some 28) (bT 19 18) HT_ ?_
  refine pu 18 (some 29) (bT 19 19) HT_ ?_
  refine done_ (done_of HT_.out (by kernel_rfl)) ?_
 ·try go_wp2
  replace HO365 := asd (Kd.R_drew HO365.out)
  replace BK361 := asd (blk_drew BK361.out)
  replace HB := asd (below_drew1 HB.out)
  have p371 : 0 ≤ (0 : Int) := (by omega)
  have q371 : 0 < (t362.length : Int) := od
  obtain ⟨ad371, e371, hx371_0⟩ := Kd.at_int (Kd.R_reads' HO365.out).2.2 0 p371 q371
  obtain rfl : ad366 = ad371 := (by injection e371)
  have qi371 : (0 < t362.length) = True := eq_true (by omega)
  (try rw [show ((0 : Int)).toNat = 0 from rfl] at hx371_0)
  (try rw [Addr.add_zero'] at hx371_0)
  replace p371 := eq_true p371
  replace q371 := eq_true q371
  have p372 : 0 ≤ (1 : Int) := (by omega)
  have q372 : 1 < (t362.length : Int) := od
  obtain ⟨ad372, e372, hx372_0⟩ := Kd.at_int (Kd.R_reads' HO365.out).2.2 1 p372 q372
  obtain rfl : ad366 = ad372 := (by injection e372)
  (try simp only [show (1 : Int).toNat = 1 from rfl, Nat.reduceMul, Nat.reduceEqDiff, Go.Addr.add, ↓reduceIte] at hx372_0)
  have qi372 : (1 < t362.length) = True := eq_true (by omega)
  (try rw [show ((1 : Int)).toNat = 1 from rfl] at hx372_0)
  replace p372 := eq_true p372
  replace q372 := eq_true q372
  have p373 : 0 ≤ (2 : Int) := (by omega)
  have q373 : 2 < (t362.length : Int) := od
  obtain ⟨ad373, e373, hx373_0⟩ := Kd.at_int (Kd.R_reads' HO365.out).2.2 2 p373 q373
  obtain rfl : ad366 = ad373 := (by injection e373)
  (try simp only [show (2 : Int).toNat = 2 from rfl, Nat.reduceMul, Nat.reduceEqDiff, Go.Addr.add, ↓reduceIte] at hx373_0)
  have qi373 : (2 < t362.length) = True := eq_true (by omega)
  (try rw [show ((2 : Int)).toNat = 2 from rfl] at hx373_0)
  replace p373 := eq_true p373
  replace q373 := eq_true q373
  have p374 : 0 ≤ (3 : Int) := (by omega)
  have q374 : 3 < (t362.length : Int) := od
  obtain ⟨ad374, e374, hx374_0⟩ := Kd.at_int (Kd.R_reads' HO365.out).2.2 3 p374 q374
  obtain rfl : ad366 = ad374 := (by injection e374)
  (try simp only [show (3 : Int).toNat = 3 from rfl, Nat.reduceMul, Nat.reduceEqDiff, Go.Addr.add, ↓reduceIte] at hx374_0)
  have qi374 : (3 < t362.length) = True := eq_true (by omega)
  (try rw [show ((3 : Int)).toNat = 3 from rfl] at hx374_0)
  replace p374 := eq_true p374
  replace q374 := eq_true q374
  refine sh 15 (c1 hx371_0 (c1 hx372_0 (c1 hx373_0 (e1 hx374_0)))) (fun hHeld => ?_); refine with_tabW impl_ReadMat.tab4 impl_ReadMat.bits4 (fun HT_ HW_ => ?_)
  generalize w14.drew = w15 at HO365 BK361 HB hx371_0 hx372_0 hx373_0 hx374_0 hHeld ⊢
  refine pu 0 (some 31) (bT 15 1) HT_ ?_
  refine pu 1 (some 32) (bT 15 2) HT_ ?_
  refine pu 3 (some 34) (bs 15 11) HT_ ?_
  refine pu 4 (some 35) (bs 15 27) HT_ ?_
  refine pu 6 (some 37) (bs 15 91) HT_ ?_
  refine pu 7 (some 38) (bs 15 219) HT_ ?_
  refine pu 9 (some 40) (bs 15 731) HT_ ?_
  refine pu 10 (some 41) (bs 15 1755) HT_ ?_
  refine ta 2 (some 33) (bs 15 1759) HT_ HW_ hHeld ?_
  refine ta 5 (some 36) (bs 15 1791) HT_ HW_ hHeld ?_
  refine ta 8 (some 39) (bT 15 11) HT_ HW_ hHeld ?_
  refine ta 11 (some 42) (bT 15 12) HT_ HW_ hHeld ?_
  refine pu 12 (some 43) (bT 15 13) HT_ ?_
  refine ro 13 (none) (bT 15 14) HT_ (fun K hK => ?_)
  have hs16 : w15.cell? ⟨gb361, 0, none⟩ = some (.int .i64 0) := bcl BK361 0
  have hfs16 := blk_frozen BK361.out 0
  have hs17 : w15.cell? ⟨gb361, 1, none⟩ = some (.int .i64 0) := bcl BK361 1
  have hfs17 := blk_frozen BK361.out 1
  have hs18 : w15.cell? ⟨gb361, 2, none⟩ = some (.int .i64 0) := bcl BK361 2
  have hfs18 := blk_frozen BK361.out 2
  have hs19 : w15.cell? ⟨gb361, 3, none⟩ = some (.int .i64 0) := bcl BK361 3
  have hfs19 := blk_frozen BK361.out 3
  refine skip_ (w1 := ?_) (by rfl) rfl ?_ ?_
  rotate_left
  ·go_simp
   rfl
  refine hK.out _ _ ⟨(fx4 (Kd.own_blk (Kd.R_ne HO365.out BK361.out (by decide))) (hHeld.1)), (fx4 (Kd.own_blk (Kd.R_ne HO365.out BK361.out (by decide))) (hHeld.2.1)), (fx4 (Kd.own_blk (Kd.R_ne HO365.out BK361.out (by decide))) (hHeld.2.2.1)), (fx4 (Kd.own_blk (Kd.R_ne HO365.out BK361.out (by decide))) (hHeld.2.2.2))⟩ (fun hHeld => ?_)
  clear hK K
  refine pu 14 (some 3) (bT 15 15) HT_ ?_
  refine done_ (done_of HT_.out (by kernel_rfl)) ?_
  try go_wp2
  refine bodyPost_ret (results_ct rfl _ _ gb361 25 #[.int .i64 (rd t362 0), .int .i64 (rd t362 1), .int .i64 (rd t362 2), .int .i64 (rd t362 3)] (0, 0) _ rfl (bq0 BK361) Tryz.underlying25 rfl (by kernel_rfl)) rfl ?_
  exact er (bbw1 HB GE361)
 ·obtain ⟨hcz25_0, hcz25_1, hcz25_2, hcz25_3, hfz25_0, hfz25_1, hfz25_2, hfz25_3⟩ := bz4 BK361
  try go_wp2
  refine bodyPost_ret (results_ct rfl _ _ gb361 25 #[.int .i64 0, .int .i64 0, .int .i64 0, .int .i64 0] (0, 0) _ rfl (bq0 BK361) Tryz.underlying25 rfl (by kernel_rfl)) rfl ?_
  exact er (bbw1 HB GE361)
/-! ### spec_l01Dec: function 129 -/
def spec_l01Dec.f : Nat → Int → Option (ByteArray)
 | 0, _ => none
 | k + 1, a0 => if a0 < 10 then (some (strOfNums (([(wrap64 (48 + a0)) % 256] : List Int)))) else ((spec_l01Dec.f k (wrap64 (Int.tdiv a0 10))).bind fun t378 => ((some (([(wrap64 (48 + (Int.tmod a0 10))) % 256] : List Int) : List Int)).bind fun y379 => (if t378.size + (strOfNums y379).size ≤ 9223372036854775807 then (some (t378 ++ (strOfNums y379))) else (none))))
def spec_l01Dec.T3 : Bool × List (List Nat × List Nat) := (true, [([], []), ([0], [0]), ([1], [1]), ([], []), ([3], [3]), ([4], [4]), ([5], [5]), ([6], [6]), ([7], [7]), ([2, 8], [2, 8]), ([9, 2, 0, 1, 2, 3, 4, 5, 6, 7, 8, 9], [9])])
def spec_l01Dec.B3 : List Nat := [0, 1, 3, 0, 8, 24, 56, 120, 248, 511, 1023]
theorem spec_l01Dec.tab3 : rtab .any (opsOf Tryz.f129 3) = spec_l01Dec.T3 := by kernel_rfl
theorem spec_l01Dec.bits3 : waitsOk spec_l01Dec.T3.2 spec_l01Dec.B3 = true := by kernel_rfl
set_option maxHeartbeats 8000000 in
set_option maxRecDepth 100000 in
theorem spec_l01Dec.calls (k : Nat) : ∀ (a0 : Int) (r : ByteArray) (w : World) (h : spec_l01Dec.f k a0 = some r),
  Calls Tryz.prog 129 #[.int .i64 a0] w fun e w' => e = .returned (.string r) ∧ Below w.heap.size w w' := by
 induction k using Nat.strongRecOn with
 | _ k ih =>
 intro a0 r w h
 cases k with
 | zero => exact absurd h (by simp [spec_l01Dec.f])
 | succ k =>
 simp only [spec_l01Dec.f] at h
 have HB := asd (Below.refl w.heap.size w)
 have H : (if a0 < 10 then (some (strOfNums (([(wrap64 (48 + a0)) % 256] : List Int)))) else ((spec_l01Dec.f k (wrap64 (Int.tdiv a0 10))).bind fun t378 => ((some (([(wrap64 (48 + (Int.tmod a0 10))) % 256] : List Int) : List Int)).bind fun y379 => (if t378.size + (strOfNums y379).size ≤ 9223372036854775807 then (some (t378 ++ (strOfNums y379))) else (none))))) = some r := h
 clear h
 by_cases c2 : a0 < 10
 rw [if_pos c2] at H
 have c2b0 := decide_eq_true c2
 clear c2
 obtain ⟨y375, hy375⟩ : ∃ y_ : List Int, y_ = (([(wrap64 (48 + a0)) % 256] : List Int)) := ⟨_, rfl⟩
 replace H : (some (strOfNums y375)) = some r := by first | (rw [hy375]; with_reducible exact H) | (have H2_ := (Option.bind_some _ _).symm.trans H; rw [hy375]; with_reducible exact H2_) | (have H2_ := (Option.bind_some _ _).symm.trans H; with_reducible exact H2_) | with_reducible exact H | (rw [hy375]; exact H) | exact H
 have Ny375 := Aside0.mk hy375
 clear hy375
 obtain rfl := Option.some.inj H
 rotate_left
 rw [if_neg c2] at H
 have c2b0 := decide_eq_false c2
 clear c2
 obtain ⟨t378, A6, H⟩ := ob H
 try dsimp only at H
 obtain ⟨y379, hy379⟩ : ∃ y_ : List Int, y_ = (([(wrap64 (48 + (Int.tmod a0 10))) % 256] : List Int)) := ⟨_, rfl⟩
 replace H : (if t378.size + (strOfNums y379).size ≤ 9223372036854775807 then (some (t378 ++ (strOfNums y379))) else (none)) = some r := by first | (rw [hy379]; with_reducible exact H) | (have H2_ := (Option.bind_some _ _).symm.trans H; rw [hy379]; with_reducible exact H2_) | (have H2_ := (Option.bind_some _ _).symm.trans H; with_reducible exact H2_) | with_reducible exact H | (rw [hy379]; exact H) | exact H
 have Ny379 := Aside0.mk hy379
 clear hy379
 by_cases c7 : t378.size + (strOfNums y379).size ≤ 9223372036854775807
 rw [if_pos c7] at H
 have c7b0 := eq_true c7
 have c7b1 := decide_eq_true c7
 rotate_left
 ·rw [if_neg c7] at H
  exact absurd H (by simp)
 ·go_enter Tryz.func129, Tryz.ntmps129
  go_wp2_with (first | ((with_reducible refine gd 8 rfl ?_); refine Kd.R_lit (Kd.int .u8) _ 5 ?hg (N := 8) ?hd (xs := ([(wrap64 (48 + a0)) % 256] : List Int)) (inner := [.int .u8 ((wrap64 (48 + a0)) % 256)]) (ok := fun _ => True) (okp := fun _ => True) ?hr ?hp (fun _ hk => hk) trivial (Below.refl _ _) (Nat.le_refl _) (by simp) ?_; (case hd => rfl); (case hg => rfl); (case hr => first | (go_simp; done) | (go_simp; rfl)); (case hp => exact (Reps.one (show Kd.M (Kd.int .u8) _ _ _ ((wrap64 (48 + a0)) % 256) [.int .u8 ((wrap64 (48 + a0)) % 256)] from rfl) (Reps.none _ _))); intro v376 w3 ho4 hb hg_ hnew_; clear hg_ hnew_; (first | rw [← Ny375.out] at ho4 | (simp only [Int.reduceToNat] at ho4; rw [← Ny375.out] at ho4)); have HO377 := asd (Kd.R_lower ho4 (bsz0 HB)); replace HB := bS0 HB hb; clear hb ho4; have hcv5 := own_string (P := Tryz.prog) Tryz.underlying22 Tryz.underlying5 Tryz.underlying9 (Kd.own_of_R HO377.out)))
  go_ret
  exact er (bbw0 HB)
 ·try have c7b2 : (9223372036854775807 < t378.size + (strOfNums y379).size) = False := eq_false (Nat.not_lt.2 c7)
  obtain rfl := Option.some.inj H
  go_enter Tryz.func129, Tryz.ntmps129
  try go_wp2
  replace HB := asd (below_drew1 HB.out)
  refine start_ (n := 11) (S := fun w' => True) (ds := []) (bT 11 0) (by kernel_rfl) rfl rfl trivial (fun hHeld => ?_); refine with_tabW spec_l01Dec.tab3 spec_l01Dec.bits3 (fun HT_ HW_ => ?_)
  generalize w.drew = w8 at HB hHeld ⊢
  refine pu 0 (some 10) (bT 11 1) HT_ ?_
  refine pu 1 (some 11) (bT 11 2) HT_ ?_
  refine pu 3 (some 13) (bs 11 11) HT_ ?_
  refine pu 4 (some 14) (bs 11 27) HT_ ?_
  refine pu 5 (some 15) (bs 11 59) HT_ ?_
  refine pu 6 (some 16) (bs 11 123) HT_ ?_
  refine join_ (σ := Value) 2 (bT 11 9) (fun s_ => [(12, .string t378), (17, s_), (18, .string (strOfNums y379))]) (fun s_ w' => (Kd.R (Kd.int .u8) 5 w' w.heap.size (fun _ => True) s_ y379) ∧ (Below w.heap.size w w')) ?_ ?_
  rotate_left
  ·intro hCont
   refine two_ (i := 2) (j := 7) (Ni := some 12) (Nj := some 17) (bT 11 7) (bs 11 251) rfl rfl rfl rfl (two_of HT_.out (by kernel_rfl)) (by decide) (by decide) (fun K hK => ?_) (fun K hK => ?_)
   ·skip
    refine gs Tryz.func129 #[.int .i64 (wrap64 (Int.tdiv a0 10))] ?_
    with_reducible refine (ih k (by omega) (wrap64 (Int.tdiv a0 10)) t378 _ A6.out).mono ?_
    rintro e w9 ⟨rfl, hb⟩
    refine ⟨_, rfl, ?_⟩
    replace HB := bS0 HB hb
    (try clear hb)
    (try clear hb2)
    (try clear hk)
    (try clear hi)
    refine hK.out _ _ trivial (fun hHeld => ?_)
    clear hK K
    refine norm_ (a' := ?_) ?_ ?_
    rotate_left
    ·show Act.put _ (some 12) _ = _
     simp only [Act.put, sA, sB, sC, i64_w, i32_w]
     rfl
    refine ro 7 (some 17) (bT 11 8) HT_ (fun K hK => ?_)
    refine Kd.R_lit_step (Kd.int .u8) _ 5 ?hg (N := 17) ?hd (xs := ([(wrap64 (48 + (Int.tmod a0 10))) % 256] : List Int)) (inner := [.int .u8 ((wrap64 (48 + (Int.tmod a0 10))) % 256)]) (ok := fun _ => True) (okp := fun _ => True) ?hr ?hp (fun _ hk => hk) trivial (Below.refl _ _) (Nat.le_refl _) (by simp) ?_; (case hd => rfl); (case hg => rfl); (case hr => first | (go_simp; done) | (go_simp; rfl)); (case hp => exact (Reps.one (show Kd.M (Kd.int .u8) _ _ _ ((wrap64 (48 + (Int.tmod a0 10))) % 256) [.int .u8 ((wrap64 (48 + (Int.tmod a0 10))) % 256)] from rfl) (Reps.none _ _)))
    intro v380 w10 ho11 hb hg_ hnew_
    clear hg_ hnew_
    (first | rw [← Ny379.out] at ho11 | (simp only [Int.reduceToNat] at ho11; rw [← Ny379.out] at ho11))
    have HO381 := asd (Kd.R_lower ho11 (bsz0 HB))
    replace HB := bS0 HB hb
    clear hb ho11
    refine hK.out _ _ trivial (fun hHeld => ?_)
    clear hK K
    refine norm_ (a' := ?_) ?_ ?_
    rotate_left
    ·show Act.put _ (some 17) _ = _
     simp only [Act.put, sA, sB, sC, i64_w, i32_w]
     rfl
    refine ro 8 (some 18) (bT 11 9) HT_ (fun K hK => ?_)
    have hcv12 := own_string (P := Tryz.prog) Tryz.underlying22 Tryz.underlying5 Tryz.underlying9 (Kd.own_of_R HO381.out)
    refine value_ (w1 := ?_) (v := ?_) (by rfl) rfl ?_ ?_
    rotate_left 2
    ·go_simp
     constructor
     ·rfl
     ·rfl
    clear hcv12
    refine hK.out _ _ trivial (fun hHeld => ?_)
    clear hK K
    refine norm_ (a' := ?_) ?_ ?_
    rotate_left
    ·show Act.put _ (some 18) _ = _
     simp only [Act.put, sA, sB, sC, i64_w, i32_w]
     rfl
    exact norm_ (by simp only [putAll, Act.put, sA, sB, sC]) (hCont (v380) _ ⟨(kr HO381), (bbw0 HB)⟩)
   ·skip
    refine Kd.R_lit_step (Kd.int .u8) _ 5 ?hg (N := 17) ?hd (xs := ([(wrap64 (48 + (Int.tmod a0 10))) % 256] : List Int)) (inner := [.int .u8 ((wrap64 (48 + (Int.tmod a0 10))) % 256)]) (ok := fun _ => True) (okp := fun _ => True) ?hr ?hp (fun _ hk => hk) trivial (Below.refl _ _) (Nat.le_refl _) (by simp) ?_; (case hd => rfl); (case hg => rfl); (case hr => first | (go_simp; done) | (go_simp; rfl)); (case hp => exact (Reps.one (show Kd.M (Kd.int .u8) _ _ _ ((wrap64 (48 + (Int.tmod a0 10))) % 256) [.int .u8 ((wrap64 (48 + (Int.tmod a0 10))) % 256)] from rfl) (Reps.none _ _)))
    intro v380 w9 ho10 hb hg_ hnew_
    clear hg_ hnew_
    (first | rw [← Ny379.out] at ho10 | (simp only [Int.reduceToNat] at ho10; rw [← Ny379.out] at ho10))
    have HO381 := asd (Kd.R_lower ho10 (bsz0 HB))
    replace HB := bS0 HB hb
    clear hb ho10
    refine hK.out _ _ trivial (fun hHeld => ?_)
    clear hK K
    refine norm_ (a' := ?_) ?_ ?_
    rotate_left
    ·show Act.put _ (some 17) _ = _
     simp only [Act.put, sA, sB, sC, i64_w, i32_w]
     rfl
    refine two_ (i := 2) (j := 8) (Ni := some 12) (Nj := some 18) (bT 11 8) (bs 11 507) rfl rfl rfl rfl (two_of HT_.out (by kernel_rfl)) (by decide) (by decide) (fun K hK => ?_) (fun K hK => ?_)
    ·skip
     refine gs Tryz.func129 #[.int .i64 (wrap64 (Int.tdiv a0 10))] ?_
     with_reducible refine (ih k (by omega) (wrap64 (Int.tdiv a0 10)) t378 _ A6.out).mono ?_
     rintro e w11 ⟨rfl, hb⟩
     refine ⟨_, rfl, ?_⟩
     replace HO381 := asd (Kd.R_below (kr HO381) hb)
     replace HB := bS0 HB hb
     (try clear hb)
     (try clear hb2)
     (try clear hk)
     (try clear hi)
     refine hK.out _ _ trivial (fun hHeld => ?_)
     clear hK K
     refine norm_ (a' := ?_) ?_ ?_
     rotate_left
     ·show Act.put _ (some 12) _ = _
      simp only [Act.put, sA, sB, sC, i64_w, i32_w]
      rfl
     refine ro 8 (some 18) (bT 11 9) HT_ (fun K hK => ?_)
     have hcv12 := own_string (P := Tryz.prog) Tryz.underlying22 Tryz.underlying5 Tryz.underlying9 (Kd.own_of_R HO381.out)
     refine value_ (w1 := ?_) (v := ?_) (by rfl) rfl ?_ ?_
     rotate_left 2
     ·go_simp
      constructor
      ·rfl
      ·rfl
     clear hcv12
     refine hK.out _ _ trivial (fun hHeld => ?_)
     clear hK K
     refine norm_ (a' := ?_) ?_ ?_
     rotate_left
     ·show Act.put _ (some 18) _ = _
      simp only [Act.put, sA, sB, sC, i64_w, i32_w]
      rfl
     exact norm_ (by simp only [putAll, Act.put, sA, sB, sC]) (hCont (v380) _ ⟨(kr HO381), (bbw0 HB)⟩)
    ·skip
     have hcv11 := own_string (P := Tryz.prog) Tryz.underlying22 Tryz.underlying5 Tryz.underlying9 (Kd.own_of_R HO381.out)
     refine value_ (w1 := ?_) (v := ?_) (by rfl) rfl ?_ ?_
     rotate_left 2
     ·go_simp
      constructor
      ·rfl
      ·rfl
     clear hcv11
     refine hK.out _ _ trivial (fun hHeld => ?_)
     clear hK K
     refine norm_ (a' := ?_) ?_ ?_
     rotate_left
     ·show Act.put _ (some 18) _ = _
      simp only [Act.put, sA, sB, sC, i64_w, i32_w]
      rfl
     refine ro 2 (some 12) (bT 11 9) HT_ (fun K hK => ?_)
     refine gs Tryz.func129 #[.int .i64 (wrap64 (Int.tdiv a0 10))] ?_
     with_reducible refine (ih k (by omega) (wrap64 (Int.tdiv a0 10)) t378 _ A6.out).mono ?_
     rintro e w12 ⟨rfl, hb⟩
     refine ⟨_, rfl, ?_⟩
     replace HO381 := asd (Kd.R_below (kr HO381) hb)
     replace HB := bS0 HB hb
     (try clear hb)
     (try clear hb2)
     (try clear hk)
     (try clear hi)
     refine hK.out _ _ trivial (fun hHeld => ?_)
     clear hK K
     refine norm_ (a' := ?_) ?_ ?_
     rotate_left
     ·show Act.put _ (some 12) _ = _
      simp only [Act.put, sA, sB, sC, i64_w, i32_w]
      rfl
     exact norm_ (by simp only [putAll, Act.put, sA, sB, sC]) (hCont (v380) _ ⟨(kr HO381), (bbw0 HB)⟩)
  rintro v380 w13 ⟨h0_, h1_⟩
  have n0_ : Aside0 (Kd.R (Kd.int .u8) 5 w13 w.heap.size (fun _ => True) v380 y379) := ⟨h0_⟩
  have n1_ : Aside0 (Below w.heap.size w w13) := ⟨h1_⟩
  clear HB
  clear h0_ h1_
  have HO381 := n0_
  have HB := n1_
  clear n0_ n1_
  have hHeld := trivial
  refine norm_ (a' := ?_) ?_ ?_
  rotate_left
  ·simp only [putAll, Act.put, sA, sB, sC]
   rfl
  refine pu 9 (some 19) (bT 11 10) HT_ ?_
  refine pu 10 (some 2) (bT 11 11) HT_ ?_
  refine done_ (done_of HT_.out (by kernel_rfl)) ?_
  try go_wp2
  go_ret
  exact er (bbw0 HB)
/-! ### spec_l01Number: function 94 -/
def spec_l01Number.f (k : Nat) (a0 : Int) : Option (ByteArray) := if a0 < 0 then ((spec_l01Dec.f k (wrap64 (-a0))).bind fun t382 => (if 1 + t382.size ≤ 9223372036854775807 then (some ((⟨#[45]⟩ : ByteArray) ++ t382)) else (none))) else ((spec_l01Dec.f k a0).bind fun t383 => (some t383))
set_option maxHeartbeats 8000000 in
set_option maxRecDepth 100000 in
theorem spec_l01Number.calls (k : Nat) (a0 : Int) (r : ByteArray) (w : World) (h : spec_l01Number.f k a0 = some r) :
  Calls Tryz.prog 94 #[.int .i64 a0] w fun e w' => e = .returned (.string r) ∧ Below w.heap.size w w' := by
 have HB := asd (Below.refl w.heap.size w)
 have H : (if a0 < 0 then ((spec_l01Dec.f k (wrap64 (-a0))).bind fun t382 => (if 1 + t382.size ≤ 9223372036854775807 then (some ((⟨#[45]⟩ : ByteArray) ++ t382)) else (none))) else ((spec_l01Dec.f k a0).bind fun t383 => (some t383))) = some r := h
 clear h
 by_cases c2 : a0 < 0
 ·rw [if_pos c2] at H
  have c2b0 := decide_eq_true c2
  clear c2
  obtain ⟨t382, A3, H⟩ := ob H
  try dsimp only at H
  by_cases c4 : 1 + t382.size ≤ 9223372036854775807
  ·rw [if_pos c4] at H
   have c4b0 := eq_true c4
   have c4b1 := decide_eq_true c4
   try have c4b2 : (9223372036854775807 < 1 + t382.size) = False := eq_false (Nat.not_lt.2 c4)
   obtain rfl := Option.some.inj H
   go_enter Tryz.func94, Tryz.ntmps94
   go_wp2_with (first | ((with_reducible refine gate_callee (f := 129) rfl ?_); refine gl 7 Tryz.func129 #[.int .i64 (wrap64 (-a0))] ?_; (with_reducible refine (spec_l01Dec.calls _ _ _ _ A3.out).mono ?_); rintro e w5 ⟨rfl, hb⟩; refine ⟨_, rfl, ?_⟩; replace HB := bS0 HB hb; (try clear hb)))
   go_ret
   exact er (bbw0 HB)
  ·rw [if_neg c4] at H
   exact absurd H (by simp)
 ·rw [if_neg c2] at H
  have c2b0 := decide_eq_false c2
  clear c2
  obtain ⟨t383, A6, H⟩ := ob H
  try dsimp only at H
  obtain rfl := Option.some.inj H
  go_enter Tryz.func94, Tryz.ntmps94
  go_wp2_with (first | ((with_reducible refine gate_callee (f := 129) rfl ?_); refine gl 10 Tryz.func129 #[.int .i64 a0] ?_; (with_reducible refine (spec_l01Dec.calls _ _ _ _ A6.out).mono ?_); rintro e w7 ⟨rfl, hb⟩; refine ⟨_, rfl, ?_⟩; replace HB := bS0 HB hb; (try clear hb)))
  go_ret
  exact er (bbw0 HB)
/-! ### spec_l01Join: function 65 -/
def spec_l01Join.l0 : Nat → List Int → ByteArray → ByteArray → Int → Option (ByteArray)
 | 0, _, _, _, _ => none
 | k + 1, x0, x1, x5, x6 => if x6 < (x0.length : Int) then (if x6 > 0 then (if x5.size + x1.size ≤ 9223372036854775807 then (if 0 ≤ x6 then ((spec_l01Number.f k (rd x0 x6)).bind fun t385 => (if (x5 ++ x1).size + t385.size ≤ 9223372036854775807 then (spec_l01Join.l0 k x0 x1 ((x5 ++ x1) ++ t385) (wrap64 (x6 + 1))) else (none))) else (none)) else (none)) else (if 0 ≤ x6 then ((spec_l01Number.f k (rd x0 x6)).bind fun t387 => (if x5.size + t387.size ≤ 9223372036854775807 then (spec_l01Join.l0 k x0 x1 (x5 ++ t387) (wrap64 (x6 + 1))) else (none))) else (none))) else (some x5)
def spec_l01Join.f (k : Nat) (l0 : List Int) (a1 : ByteArray) : Option (ByteArray) := spec_l01Join.l0 k l0 a1 (⟨#[]⟩ : ByteArray) 0
set_option maxHeartbeats 8000000 in
set_option maxRecDepth 100000 in
theorem spec_l01Join.calls (k : Nat) (A0 : Option Addr) (c0 : Nat) (l0 : List Int) (a1 : ByteArray) (r : ByteArray) (w : World) (hr0 : Kd.C (Kd.int .i64) w A0 l0.length l0) (hc0 : l0.length ≤ c0) (h : spec_l01Join.f k l0 a1 = some r) :
  Calls Tryz.prog 65 #[.slice A0 l0.length c0, .string a1] w fun e w' => e = .returned (.string r) ∧ Below w.heap.size w w' := by
 have HR0 := Aside0.mk hr0
 have HC0 := Aside0.mk hc0
 clear hr0 hc0
 have HB := asd (Below.refl w.heap.size w)
 have H : (spec_l01Join.l0 k l0 a1 (⟨#[]⟩ : ByteArray) 0) = some r := h
 clear h
 have H' := Aside0.mk H
 clear H
 go_enter Tryz.func65, Tryz.ntmps65
 go_wp2
 go_loopg [5, 6] k (fun kq v5 v6 w' => ∃ (x5_1 : ByteArray) (x6_1 : Int), v5 = .string x5_1 ∧ v6 = .int .i64 x6_1 ∧ Aside0 (spec_l01Join.l0 kq l0 a1 x5_1 x6_1 = some r) ∧ Aside0 (kq ≤ k) ∧ Aside0 (Below w.heap.size w w'))
 case atStart => exact ⟨((⟨#[]⟩ : ByteArray)), (0), (by first | rfl | (simp; done) | (simp [*]; done)), (by first | rfl | (simp; done) | (simp [*]; done)), H', ⟨Nat.le_refl _⟩, ⟨bbw0 HB⟩⟩
 case round =>
  clear H'
  try clear p2
  obtain ⟨x5_1, x6_1, rfl, rfl, HA, HK1, HB⟩ := hrel
  cases gk with
  | zero => exact absurd HA.out (by simp [spec_l01Join.l0])
  | succ k1 =>
   have H := HA.out
   clear HA
   simp only [spec_l01Join.l0] at H
   by_cases c3 : x6_1 < (l0.length : Int)
   ·rw [if_pos c3] at H
    have c3b0 := decide_eq_true c3
    clear c3
    by_cases c4 : x6_1 > 0
    ·rw [if_pos c4] at H
     have c4b0 : decide (0 < x6_1) = true := decide_eq_true c4
     clear c4
     by_cases c5 : x5_1.size + a1.size ≤ 9223372036854775807
     ·rw [if_pos c5] at H
      have c5b0 := eq_true c5
      have c5b1 := decide_eq_true c5
      try have c5b2 : (9223372036854775807 < x5_1.size + a1.size) = False := eq_false (Nat.not_lt.2 c5)
      by_cases c6 : 0 ≤ x6_1
      ·rw [if_pos c6] at H
       have c6b0 := decide_eq_true c6
       clear c6
       obtain ⟨t385, A7, H⟩ := ob H
       try dsimp only at H
       by_cases c8 : (x5_1 ++ a1).size + t385.size ≤ 9223372036854775807
       ·rw [if_pos c8] at H
        have c8b0 := eq_true c8
        have c8b1 := decide_eq_true c8
        try have c8b2 : (9223372036854775807 < (x5_1 ++ a1).size + t385.size) = False := eq_false (Nat.not_lt.2 c8)
        try (have c8b3 := c8b2; simp only [ByteArray.size_append] at c8b3)
        have H' := Aside0.mk H
        clear H
        have p384 : 0 ≤ (x6_1 : Int) := od
        have q384 : x6_1 < (l0.length : Int) := od
        obtain ⟨ad384, e384, hx384_0⟩ := Kd.at_int HR0.out x6_1 p384 q384
        cases e384
        replace hx384_0 := xb HB hx384_0
        replace p384 := eq_true p384
        replace q384 := eq_true q384
        go_wp2_with (first | ((with_reducible refine gate_callee (f := 94) rfl ?_); refine gl 23 Tryz.func94 #[.int .i64 (rd l0 x6_1)] ?_; (with_reducible refine (spec_l01Number.calls _ _ _ _ A7.out).mono ?_); rintro e w9 ⟨rfl, hb⟩; refine ⟨_, rfl, ?_⟩; replace HB := bS0 HB hb; (try clear hb)))
        go_roundg k1
        case measure => have := HK1.out; omega
        case rel => exact ⟨((x5_1 ++ a1) ++ t385), (wrap64 (x6_1 + 1)), (by first | rfl | (simp; done) | (simp [*]; done)), (by first | rfl | (simp; done) | (simp [*]; done)), H', ⟨by have := HK1.out; omega⟩, ⟨bbw0 HB⟩⟩
       ·rw [if_neg c8] at H
        exact absurd H (by simp)
      ·rw [if_neg c6] at H
       exact absurd H (by simp)
     ·rw [if_neg c5] at H
      exact absurd H (by simp)
    ·rw [if_neg c4] at H
     have c4b0 : decide (0 < x6_1) = false := decide_eq_false c4
     clear c4
     by_cases c10 : 0 ≤ x6_1
     ·rw [if_pos c10] at H
      have c10b0 := decide_eq_true c10
      clear c10
      obtain ⟨t387, A11, H⟩ := ob H
      try dsimp only at H
      by_cases c12 : x5_1.size + t387.size ≤ 9223372036854775807
      ·rw [if_pos c12] at H
       have c12b0 := eq_true c12
       have c12b1 := decide_eq_true c12
       try have c12b2 : (9223372036854775807 < x5_1.size + t387.size) = False := eq_false (Nat.not_lt.2 c12)
       have H' := Aside0.mk H
       clear H
       have p386 : 0 ≤ (x6_1 : Int) := od
       have q386 : x6_1 < (l0.length : Int) := od
       obtain ⟨ad386, e386, hx386_0⟩ := Kd.at_int HR0.out x6_1 p386 q386
       cases e386
       replace hx386_0 := xb HB hx386_0
       replace p386 := eq_true p386
       replace q386 := eq_true q386
       go_wp2_with (first | ((with_reducible refine gate_callee (f := 94) rfl ?_); refine gl 23 Tryz.func94 #[.int .i64 (rd l0 x6_1)] ?_; (with_reducible refine (spec_l01Number.calls _ _ _ _ A11.out).mono ?_); rintro e w13 ⟨rfl, hb⟩; refine ⟨_, rfl, ?_⟩; replace HB := bS0 HB hb; (try clear hb)))
       go_roundg k1
       case measure => have := HK1.out; omega
       case rel => exact ⟨(x5_1 ++ t387), (wrap64 (x6_1 + 1)), (by first | rfl | (simp; done) | (simp [*]; done)), (by first | rfl | (simp; done) | (simp [*]; done)), H', ⟨by have := HK1.out; omega⟩, ⟨bbw0 HB⟩⟩
      ·rw [if_neg c12] at H
       exact absurd H (by simp)
     ·rw [if_neg c10] at H
      exact absurd H (by simp)
   ·rw [if_neg c3] at H
    have c3b0 := decide_eq_false c3
    clear c3
    obtain rfl := Option.some.inj H
    go_wp2
    go_ret
    exact er (bbw0 HB)
/-! ### spec_l02Numbers: function 66 -/
def spec_l02Numbers.f (a0_0 : Int) (a0_1 : Int) (a0_2 : Int) (a0_3 : Int) : Option (List Int) := some (([a0_0, a0_1, a0_2, a0_3] : List Int))
set_option maxHeartbeats 8000000 in
set_option maxRecDepth 100000 in
theorem spec_l02Numbers.calls (a0_0 : Int) (a0_1 : Int) (a0_2 : Int) (a0_3 : Int) (r : List Int) (w : World) (h : spec_l02Numbers.f a0_0 a0_1 a0_2 a0_3 = some r) :
  Calls Tryz.prog 66 #[.agg #[.int .i64 a0_0, .int .i64 a0_1, .int .i64 a0_2, .int .i64 a0_3]] w fun e w' => ∃ v0_ : Value, e = .returned (v0_) ∧ Kd.R (Kd.int .i64) 2 w' w.heap.size (fun _ => True) v0_ r ∧ Below w.heap.size w w' := by
 have hu25 := Tryz.underlying25
 have HB := asd (Below.refl w.heap.size w)
 have H : (some (([a0_0, a0_1, a0_2, a0_3] : List Int))) = some r := h
 clear h
 obtain ⟨y389, hy389⟩ : ∃ y_ : List Int, y_ = (([a0_0, a0_1, a0_2, a0_3] : List Int)) := ⟨_, rfl⟩
 replace H : (some y389) = some r := by first | (rw [hy389]; with_reducible exact H) | (have H2_ := (Option.bind_some _ _).symm.trans H; rw [hy389]; with_reducible exact H2_) | (have H2_ := (Option.bind_some _ _).symm.trans H; with_reducible exact H2_) | with_reducible exact H | (rw [hy389]; exact H) | exact H
 have Ny389 := Aside0.mk hy389
 clear hy389
 obtain rfl := Option.some.inj H
 go_enter Tryz.func66, Tryz.ntmps66
 go_wp2_with (first | ((with_reducible refine gd 1 rfl ?_); refine bx #[.int .i64 a0_0, .int .i64 a0_1, .int .i64 a0_2, .int .i64 a0_3] 25 ?_; intro gb388 hg w2 BK388 hb; have GE388 := ngw0 hg HB; replace HB := bS0 HB hb; clear hb hg; obtain ⟨hcz3_0, hcz3_1, hcz3_2, hcz3_3, hfz3_0, hfz3_1, hfz3_2, hfz3_3⟩ := bz4 BK388) | ((with_reducible refine gd 11 rfl ?_); refine Kd.R_lit (Kd.int .i64) _ 2 ?hg (N := 11) ?hd (xs := ([a0_0, a0_1, a0_2, a0_3] : List Int)) (inner := [.int .i64 a0_0, .int .i64 a0_1, .int .i64 a0_2, .int .i64 a0_3]) (ok := fun _ => True) (okp := fun _ => True) ?hr ?hp (fun _ hk => hk) trivial (Below.refl _ _) (Nat.le_refl _) (by simp) ?_; (case hd => rfl); (case hg => rfl); (case hr => first | (go_simp; done) | (go_simp; rfl)); (case hp => exact (Reps.one (show Kd.M (Kd.int .i64) _ _ _ a0_0 [.int .i64 a0_0] from rfl) (Reps.one (show Kd.M (Kd.int .i64) _ _ _ a0_1 [.int .i64 a0_1] from rfl) (Reps.one (show Kd.M (Kd.int .i64) _ _ _ a0_2 [.int .i64 a0_2] from rfl) (Reps.one (show Kd.M (Kd.int .i64) _ _ _ a0_3 [.int .i64 a0_3] from rfl) (Reps.none _ _)))))); intro v390 w4 ho5 hb hg_ hnew_; clear hg_ hnew_; (first | rw [← Ny389.out] at ho5 | (simp only [Int.reduceToNat] at ho5; rw [← Ny389.out] at ho5)); have HO391 := asd (Kd.R_lower ho5 (bsz1 HB GE388)); replace BK388 := bB BK388 hb; replace HB := bS1 HB GE388 hb; clear hb ho5))
 go_ret
 exact ⟨_, by first | rfl | (simp [errW_none, errW_some] <;> rfl) | (simp [*, errW_none, errW_some] <;> rfl), by (with_reducible repeat (first | apply Kd.R_alloc | apply Kd.R_drewN | apply Kd.R_drew)); exact HO391.out, bbw1 HB GE388⟩
/-! ### spec_MatText: function 22 -/
def spec_MatText.f (k : Nat) (a0_0 : Int) (a0_1 : Int) (a0_2 : Int) (a0_3 : Int) : Option (ByteArray) := (spec_IsMat.f a0_0 a0_1 a0_2 a0_3).bind fun t393 => (if t393 = true then ((spec_l02Numbers.f a0_0 a0_1 a0_2 a0_3).bind fun t394 => ((spec_l01Join.f k t394 (⟨#[44]⟩ : ByteArray)).bind fun t397 => (some t397))) else (some (⟨#[]⟩ : ByteArray)))
set_option maxHeartbeats 8000000 in
set_option maxRecDepth 100000 in
theorem spec_MatText.calls (k : Nat) (a0_0 : Int) (a0_1 : Int) (a0_2 : Int) (a0_3 : Int) (r : ByteArray) (w : World) (h : spec_MatText.f k a0_0 a0_1 a0_2 a0_3 = some r) :
  Calls Tryz.prog 22 #[.agg #[.int .i64 a0_0, .int .i64 a0_1, .int .i64 a0_2, .int .i64 a0_3]] w fun e w' => e = .returned (.string r) ∧ Below w.heap.size w w' := by
 have hu25 := Tryz.underlying25
 have HB := asd (Below.refl w.heap.size w)
 have H : ((spec_IsMat.f a0_0 a0_1 a0_2 a0_3).bind fun t393 => (if t393 = true then ((spec_l02Numbers.f a0_0 a0_1 a0_2 a0_3).bind fun t394 => ((spec_l01Join.f k t394 (⟨#[44]⟩ : ByteArray)).bind fun t397 => (some t397))) else (some (⟨#[]⟩ : ByteArray)))) = some r := h
 clear h
 obtain ⟨t393, A2, H⟩ := ob H
 try dsimp only at H
 by_cases c3 : t393 = true
 ·subst c3
  replace H := ifT H
  obtain ⟨t394, A4, H⟩ := ob H
  try dsimp only at H
  obtain ⟨t397, A5, H⟩ := ob H
  try dsimp only at H
  obtain rfl := Option.some.inj H
  go_enter Tryz.func22, Tryz.ntmps22
  go_wp2_with (first | ((with_reducible refine gd 1 rfl ?_); refine bx #[.int .i64 a0_0, .int .i64 a0_1, .int .i64 a0_2, .int .i64 a0_3] 25 ?_; intro gb392 hg w6 BK392 hb; have GE392 := ngw0 hg HB; replace HB := bS0 HB hb; clear hb hg; obtain ⟨hcz7_0, hcz7_1, hcz7_2, hcz7_3, hfz7_0, hfz7_1, hfz7_2, hfz7_3⟩ := bz4 BK392) | ((with_reducible refine gate_callee (f := 58) rfl ?_); refine gl 4 Tryz.func58 #[.agg #[.int .i64 a0_0, .int .i64 a0_1, .int .i64 a0_2, .int .i64 a0_3]] ?_; (with_reducible refine (spec_IsMat.calls _ _ _ _ _ _ A2.out).mono ?_); rintro e w8 ⟨rfl, hb⟩; refine ⟨_, rfl, ?_⟩; replace BK392 := bB BK392 hb; replace HB := bS1 HB GE392 hb; (try clear hb); obtain ⟨hcz9_0, hcz9_1, hcz9_2, hcz9_3, hfz9_0, hfz9_1, hfz9_2, hfz9_3⟩ := bz4 BK392) | ((with_reducible refine gate_callee (f := 66) rfl ?_); refine gl 7 Tryz.func66 #[.agg #[.int .i64 a0_0, .int .i64 a0_1, .int .i64 a0_2, .int .i64 a0_3]] ?_; (with_reducible refine (spec_l02Numbers.calls _ _ _ _ _ _ A4.out).mono ?_); rintro e w10 ⟨v395, rfl, ho0, hb⟩; refine ⟨_, rfl, ?_⟩; have HO396 := asd (Kd.R_lower ho0 (bsz1 HB GE392)); replace BK392 := bB BK392 hb; replace HB := bS1 HB GE392 hb; (try clear hb); (try clear hb2); (try clear hk); (try clear hi); (try clear ho0); obtain ⟨Ao11, co11, eo11⟩ := Kd.R_slice HO396.out; subst eo11) | ((with_reducible refine gate_callee (f := 65) rfl ?_); refine gl 8 Tryz.func65 #[.slice Ao11 t394.length co11, .string (⟨#[44]⟩ : ByteArray)] ?_; (with_reducible refine (spec_l01Join.calls _ _ _ _ _ _ _ ?side1 ?side2 A5.out).mono ?_); (case side1 => exact ks (Kd.R_reads' HO396.out).2.2); (case side2 => exact (Kd.R_reads' HO396.out).2.1); rintro e w12 ⟨rfl, hb⟩; refine ⟨_, rfl, ?_⟩; replace HO396 := asd (Kd.R_below (kr HO396) hb); replace BK392 := bB BK392 hb; replace HB := bS1 HB GE392 hb; (try clear hb)))
  go_ret
  exact er (bbw1 HB GE392)
 ·replace c3 := Bool.eq_false_iff.mpr c3
  subst c3
  replace H := ifF H
  obtain rfl := Option.some.inj H
  go_enter Tryz.func22, Tryz.ntmps22
  go_wp2_with (first | ((with_reducible refine gd 1 rfl ?_); refine bx #[.int .i64 a0_0, .int .i64 a0_1, .int .i64 a0_2, .int .i64 a0_3] 25 ?_; intro gb392 hg w13 BK392 hb; have GE392 := ngw0 hg HB; replace HB := bS0 HB hb; clear hb hg; obtain ⟨hcz14_0, hcz14_1, hcz14_2, hcz14_3, hfz14_0, hfz14_1, hfz14_2, hfz14_3⟩ := bz4 BK392) | ((with_reducible refine gate_callee (f := 58) rfl ?_); refine gl 4 Tryz.func58 #[.agg #[.int .i64 a0_0, .int .i64 a0_1, .int .i64 a0_2, .int .i64 a0_3]] ?_; (with_reducible refine (spec_IsMat.calls _ _ _ _ _ _ A2.out).mono ?_); rintro e w15 ⟨rfl, hb⟩; refine ⟨_, rfl, ?_⟩; replace BK392 := bB BK392 hb; replace HB := bS1 HB GE392 hb; (try clear hb)))
  go_ret
  exact er (bbw1 HB GE392)

end Go.Proofs.YtnblfcibgokccaaGreatDoor.PA
