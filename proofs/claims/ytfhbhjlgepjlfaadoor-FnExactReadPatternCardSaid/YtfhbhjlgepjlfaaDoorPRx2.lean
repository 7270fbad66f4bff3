/- Walks written by program: each Go function that the law reaches comes to the plain function beside it. -/
import Derived.Test.YtfhbhjlgepjlfaaDoorPRx0
import Derived.Test.YtfhbhjlgepjlfaaDoorPRx1
namespace Go.Proofs.YtfhbhjlgepjlfaaDoor.PR
open Go.RowKit Go.Proofs.YtfhbhjlgepjlfaaDoorW.PrintWords Go.Proofs.YtfhbhjlgepjlfaaDoorW.PrintLast Go.Proofs.YtfhbhjlgepjlfaaDoorW.PrintMore
attribute [local go_sem] max2_int min2_int max_two min_two max_three min_three max_four min_four   -- for this text's walks alone
set_option linter.unusedVariables false
set_option linter.unusedSimpArgs false

/-! ### spec_ReadPattern: function 14 -/
mutual
def spec_ReadPattern.j0 : Nat → List ByteArray → Bool → Option (Int × Int × Int × Int × List Int × Int)
 | 0, _, _ => none
 | k + 1, x4, x25 => if x25 = true then (some (0, 0, 0, 0, ([] : List Int), 6)) else (if 1 < (x4.length : Int) then ((spec_ReadLattice.f k (rdOf ByteArray.empty x4 1)).bind fun bt165 => ((some (([] : List Int) : List Int)).bind fun y170 => (if 0 < (x4.length : Int) then (if (rdOf ByteArray.empty x4 0).toList = ([72] : List UInt8) then (spec_ReadPattern.j1 k x4 bt165.2.2.2 1 bt165.1 bt165.2.1 bt165.2.2.1 y170) else (spec_ReadPattern.j1 k x4 bt165.2.2.2 0 bt165.1 bt165.2.1 bt165.2.2.1 y170)) else (none)))) else (none))
def spec_ReadPattern.j1 : Nat → List ByteArray → Bool → Int → Int → Int → Int → List Int → Option (Int × Int × Int × Int × List Int × Int)
 | 0, _, _, _, _, _, _, _ => none
 | k + 1, x4, x6, x174000, x174001, x174002, x174003, x174004 => spec_ReadPattern.l0 k x4 x6 0 x174000 x174001 x174002 x174003 x174004
def spec_ReadPattern.l0 : Nat → List ByteArray → Bool → Int → Int → Int → Int → Int → List Int → Option (Int × Int × Int × Int × List Int × Int)
 | 0, _, _, _, _, _, _, _, _ => none
 | k + 1, x4, x6, x8, x174000, x174001, x174002, x174003, x174004 => if 2 < (x4.length : Int) then (if x8 < ((rdOf ByteArray.empty x4 2).size : Int) then (if 0 ≤ x8 then (if x174004.length < 17592186044416 then (spec_ReadPattern.l0 k x4 x6 (wrap64 (x8 + 1)) x174000 x174001 x174002 x174003 (x174004 ++ [wrap64 ((wrap64 (bt (rdOf ByteArray.empty x4 2) x8)) - 48)])) else (none)) else (none)) else (if x6 = true then ((spec_IsPattern.f k x174000 x174001 x174002 x174003 x174004).bind fun t180 => (if t180 = true then (some (x174000, x174001, x174002, x174003, x174004, 0)) else (some (0, 0, 0, 0, ([] : List Int), 6)))) else (some (0, 0, 0, 0, ([] : List Int), 6)))) else (none)
end
def spec_ReadPattern.f (k : Nat) (a0 : ByteArray) : Option (Int × Int × Int × Int × List Int × Int) := (spec_l01Split.f k a0 32).bind fun t159 => (if (t159.length : Int) = 3 then (if 0 < (t159.length : Int) then (if (rdOf ByteArray.empty t159 0).toList = ([83] : List UInt8) then (spec_ReadPattern.j0 k t159 false) else (spec_ReadPattern.j0 k t159 ((rdOf ByteArray.empty t159 0).toList != ([72] : List UInt8)))) else (none)) else (spec_ReadPattern.j0 k t159 true))
def spec_ReadPattern.T11 : Bool × List (List Nat × List Nat) := (true, [([], []), ([0], [0]), ([], []), ([2], [2]), ([3], [3]), ([], []), ([4, 5], [4, 5]), ([6], [6]), ([7], [7]), ([8], [8]), ([1, 9], [1, 9]), ([0, 1, 2, 3, 4, 5, 6, 7, 8, 9, 10], []), ([11, 10, 10, 0, 1, 2, 3, 4, 5, 6, 7, 8, 9, 10], [10, 11])])
def spec_ReadPattern.B11 : List Nat := [0, 1, 0, 4, 12, 0, 60, 124, 252, 508, 1023, 2047, 4095]
theorem spec_ReadPattern.tab11 : rtab .any (opsOf Tryd.f14 11) = spec_ReadPattern.T11 := by kernel_rfl
theorem spec_ReadPattern.bits11 : waitsOk spec_ReadPattern.T11.2 spec_ReadPattern.B11 = true := by kernel_rfl
set_option maxHeartbeats 8000000 in
set_option maxRecDepth 100000 in
theorem spec_ReadPattern.calls (k : Nat) (a0 : ByteArray) (r1 : Int) (r2 : Int) (r3 : Int) (r4 : Int) (r5 : List Int) (r6 : Int) (w : World) (h : spec_ReadPattern.f k a0 = some (r1, r2, r3, r4, r5, r6)) :
  Calls Tryd.prog 14 #[.string a0] w fun e w' => ∃ v4_ : Value, e = .returned (.tuple #[.agg #[.int .i64 r1, .int .i64 r2, .int .i64 r3, .int .i64 r4, v4_], .int .i64 r6]) ∧ Kd.R (Kd.int .i64) 2 w' w.heap.size (fun _ => True) v4_ r5 ∧ Below w.heap.size w w' := by
 have hu42 := Tryd.underlying42
 have hu40 := Tryd.underlying40
 have HB := asd (Below.refl w.heap.size w)
 have H : ((spec_l01Split.f k a0 32).bind fun t159 => (if (t159.length : Int) = 3 then (if 0 < (t159.length : Int) then (if (rdOf ByteArray.empty t159 0).toList = ([83] : List UInt8) then (spec_ReadPattern.j0 k t159 false) else (spec_ReadPattern.j0 k t159 ((rdOf ByteArray.empty t159 0).toList != ([72] : List UInt8)))) else (none)) else (spec_ReadPattern.j0 k t159 true))) = some (r1, r2, r3, r4, r5, r6) := h
 clear h
 obtain ⟨t159, A2, H⟩ := ob H
 try dsimp only at H
 have HC3 := Aside0.mk H
 clear H
 go_enter Tryd.func14, Tryd.ntmps14
 go_upto_region 2 with (first | ((with_reducible refine gd 2 rfl ?_); refine bx #[.int .i64 0, .int .i64 0, .int .i64 0, .int .i64 0, .slice none 0 0] 42 ?_; intro gb158 hg w4 BK158 hb; have GE158 := ngw0 hg HB; replace HB := bS0 HB hb; clear hb hg) | ((with_reducible refine gate_callee (f := 19) rfl ?_); refine gl 10 Tryd.func19 #[.string a0, .int .u8 32] ?_; (with_reducible refine (spec_l01Split.calls _ _ _ _ _ A2.out).mono ?_); rintro e w5 ⟨v160, rfl, ho0, hb⟩; refine ⟨_, rfl, ?_⟩; have HO161 := asd (Kd.R_lower ho0 (bsz1 HB GE158)); replace BK158 := bB BK158 hb; replace HB := bS1 HB GE158 hb; (try clear hb); (try clear hb2); (try clear hk); (try clear hi); (try clear ho0)))
 (try simp only [Act.put, sA, sB, sC])
 go_cut [25] (fun v25 wc => ∃ (kq : Nat) (x25_2 : Bool), v25 = .bool x25_2 ∧ Aside0 (spec_ReadPattern.j0 kq t159 x25_2 = some (r1, r2, r3, r4, r5, r6)) ∧ Aside0 (kq ≤ k) ∧ Aside0 (Kd.R Kd.string 9 wc w.heap.size (fun _ => True) v160 t159) ∧ Aside0 (wc.heap[gb158]? = some (.cells #[.int .i64 0, .int .i64 0, .int .i64 0, .int .i64 0, (.slice none 0 0)] 42 (0, 0))) ∧ Aside0 (Below w.heap.size w wc))
 case first =>
  have H := HC3.out
  clear HC3
  by_cases c6 : (t159.length : Int) = 3
  ·rw [if_pos c6] at H
   have c6b0 : ((t159.length : Int) == 3) = true := beq_iff_eq.mpr c6
   have c6b1 : ((t159.length : Int) != 3) = false := bne_eq_false_iff_eq.mpr c6
   clear c6
   (first | rw [c6b0] | (simp only [i64_w, i32_w]; rw [c6b0]) | skip)
   by_cases c7 : 0 < (t159.length : Int)
   ·rw [if_pos c7] at H
    have c7b0 := decide_eq_true c7
    have c7b1 : decide (0 < t159.length) = true := decide_eq_true (by omega)
    clear c7
    by_cases c8 : (rdOf ByteArray.empty t159 0).toList = ([83] : List UInt8)
    ·rw [if_pos c8] at H
     have c8b0 : ((rdOf ByteArray.empty t159 0).toList == ([83] : List UInt8)) = true := beq_iff_eq.mpr c8
     have c8b1 : ((rdOf ByteArray.empty t159 0).toList != ([83] : List UInt8)) = false := bne_eq_false_iff_eq.mpr c8
     clear c8
     have H' := Aside0.mk H
     clear H
     obtain ⟨Ao9, co9, eo9⟩ := Kd.R_slice HO161.out
     subst eo9
     have p162 : 0 ≤ (0 : Int) := (by omega)
     have q162 : 0 < (t159.length : Int) := od
     obtain ⟨ad162, e162, hx162_0⟩ := Kd.at_string (Kd.R_reads' HO161.out).2.2 0 p162 q162
     cases e162
     have qi162 : (0 < t159.length) = True := eq_true (by omega)
     (try rw [show ((0 : Int)).toNat = 0 from rfl] at hx162_0)
     (try rw [Addr.add_zero'] at hx162_0)
     replace p162 := eq_true p162
     replace q162 := eq_true q162
     go_wp2
     go_meet
     case rel => exact ⟨_, (false), (by first | rfl | (simp; done) | (simp [*]; done)), H', ⟨by first | omega | exact Nat.le_refl _⟩, ⟨by (with_reducible repeat (first | apply Kd.R_alloc | apply Kd.R_drewN | apply Kd.R_drew)); exact HO161.out⟩, ⟨bkp BK158⟩, ⟨bbw1 HB GE158⟩⟩
    ·rw [if_neg c8] at H
     have c8b0 : ((rdOf ByteArray.empty t159 0).toList == ([83] : List UInt8)) = false := beq_eq_false_iff_ne.mpr c8
     have c8b1 : ((rdOf ByteArray.empty t159 0).toList != ([83] : List UInt8)) = true := bne_iff_ne.mpr c8
     have H' := Aside0.mk H
     clear H
     obtain ⟨Ao10, co10, eo10⟩ := Kd.R_slice HO161.out
     subst eo10
     have p162 : 0 ≤ (0 : Int) := (by omega)
     have q162 : 0 < (t159.length : Int) := od
     obtain ⟨ad162, e162, hx162_0⟩ := Kd.at_string (Kd.R_reads' HO161.out).2.2 0 p162 q162
     cases e162
     have qi162 : (0 < t159.length) = True := eq_true (by omega)
     (try rw [show ((0 : Int)).toNat = 0 from rfl] at hx162_0)
     (try rw [Addr.add_zero'] at hx162_0)
     replace p162 := eq_true p162
     replace q162 := eq_true q162
     have p163 : 0 ≤ (0 : Int) := (by omega)
     have q163 : 0 < (t159.length : Int) := od
     obtain ⟨ad163, e163, hx163_0⟩ := Kd.at_string (Kd.R_reads' HO161.out).2.2 0 p163 q163
     obtain rfl : ad162 = ad163 := (by injection e163)
     have qi163 : (0 < t159.length) = True := eq_true (by omega)
     (try rw [show ((0 : Int)).toNat = 0 from rfl] at hx163_0)
     (try rw [Addr.add_zero'] at hx163_0)
     replace p163 := eq_true p163
     replace q163 := eq_true q163
     go_wp2
     go_meet
     case rel => exact ⟨_, (((rdOf ByteArray.empty t159 0).toList != ([72] : List UInt8))), (by first | rfl | (simp; done) | (simp [*]; done)), H', ⟨by first | omega | exact Nat.le_refl _⟩, ⟨by (with_reducible repeat (first | apply Kd.R_alloc | apply Kd.R_drewN | apply Kd.R_drew)); exact HO161.out⟩, ⟨bkp BK158⟩, ⟨bbw1 HB GE158⟩⟩
   ·rw [if_neg c7] at H
    exact absurd H (by simp)
  ·rw [if_neg c6] at H
   have c6b0 : ((t159.length : Int) == 3) = false := beq_eq_false_iff_ne.mpr c6
   have c6b1 : ((t159.length : Int) != 3) = true := bne_iff_ne.mpr c6
   (first | rw [c6b0] | (simp only [i64_w, i32_w]; rw [c6b0]) | skip)
   have H' := Aside0.mk H
   clear H
   obtain ⟨Ao11, co11, eo11⟩ := Kd.R_slice HO161.out
   subst eo11
   go_wp2
   go_meet
   case rel => exact ⟨_, (true), (by first | rfl | (simp; done) | (simp [*]; done)), H', ⟨by first | omega | exact Nat.le_refl _⟩, ⟨by (with_reducible repeat (first | apply Kd.R_alloc | apply Kd.R_drewN | apply Kd.R_drew)); exact HO161.out⟩, ⟨bkp BK158⟩, ⟨bbw1 HB GE158⟩⟩
 case rest =>
  clear HC3
  try clear c1
  try clear p1
  try clear q1
  try clear hx1
  try clear qi1
  try clear p2
  try clear c6
  try clear c6b0
  try clear c6b1
  try clear c7
  try clear c7b0
  try clear c7b1
  try clear c8
  try clear c8b0
  try clear c8b1
  try clear hx162_0
  try clear hx163_0
  try clear p162
  try clear p163
  try clear q162
  try clear q163
  obtain ⟨kq, x25_2, rfl, HA, HJ2, HO_4, BK158, HB⟩ := hcut
  cases kq with
  | zero => exact absurd HA.out (by simp [spec_ReadPattern.j0])
  | succ kj2 =>
   have H := HA.out
   clear HA
   simp only [spec_ReadPattern.j0] at H
   by_cases c12 : x25_2 = true
   ·subst c12
    replace H := ifT H
    simp only [Option.some.injEq, Prod.mk.injEq] at H
    obtain ⟨rfl, rfl, rfl, rfl, rfl, rfl⟩ := H
    obtain ⟨hcz13_0, hcz13_1, hcz13_2, hcz13_3, hcz13_4, hfz13_0, hfz13_1, hfz13_2, hfz13_3, hfz13_4⟩ := bz5 BK158
    go_wp2
    refine bodyPost_ret (results_ct rfl _ _ gb158 42 #[.int .i64 0, .int .i64 0, .int .i64 0, .int .i64 0, .slice none 0 0] (0, 0) _ rfl (bq0 BK158) Tryd.underlying42 rfl (by kernel_rfl)) rfl ?_
    exact ⟨_, by first | rfl | (simp [errW_none, errW_some] <;> rfl) | (simp [*, errW_none, errW_some] <;> rfl), by first | exact Kd.R_nil _ _ _ _ _ | exact Kd.N_nil _ _ _ _ _ | exact Kd.V_nil _ _ _ _ _ | exact Kd.Q_nil _ _ _ _ _ | exact Kd.S_nil _ _ _ _ _, bbw1 HB GE158⟩
   ·replace c12 := Bool.eq_false_iff.mpr c12
    subst c12
    replace H := ifF H
    by_cases c14 : 1 < (t159.length : Int)
    ·rw [if_pos c14] at H
     have c14b0 := decide_eq_true c14
     have c14b1 : decide (1 < t159.length) = true := decide_eq_true (by omega)
     clear c14
     obtain ⟨⟨t165, t166, t167, t168⟩, A15, H⟩ := ob H
     try dsimp only at H
     obtain ⟨y170, hy170⟩ : ∃ y_ : List Int, y_ = (([] : List Int)) := ⟨_, rfl⟩
     replace H : (if 0 < (t159.length : Int) then (if (rdOf ByteArray.empty t159 0).toList = ([72] : List UInt8) then (spec_ReadPattern.j1 kj2 t159 t168 1 t165 t166 t167 y170) else (spec_ReadPattern.j1 kj2 t159 t168 0 t165 t166 t167 y170)) else (none)) = some (r1, r2, r3, r4, r5, r6) := by first | (rw [hy170]; with_reducible exact H) | (have H2_ := (Option.bind_some _ _).symm.trans H; rw [hy170]; with_reducible exact H2_) | (have H2_ := (Option.bind_some _ _).symm.trans H; with_reducible exact H2_) | with_reducible exact H | (rw [hy170]; exact H) | exact H
     have Ny170 := Aside0.mk hy170
     clear hy170
     by_cases c16 : 0 < (t159.length : Int)
     ·rw [if_pos c16] at H
      have c16b0 := decide_eq_true c16
      have c16b1 : decide (0 < t159.length) = true := decide_eq_true (by omega)
      clear c16
      have HC17 := Aside0.mk H
      clear H
      obtain ⟨Ao18, co18, eo18⟩ := Kd.R_slice HO_4.out
      subst eo18
      have p164 : 0 ≤ (1 : Int) := (by omega)
      have q164 : 1 < (t159.length : Int) := od
      obtain ⟨ad164, e164, hx164_0⟩ := Kd.at_string (Kd.R_reads' HO_4.out).2.2 1 p164 q164
      cases e164
      (try simp only [show (1 : Int).toNat = 1 from rfl, Nat.reduceMul, Nat.reduceEqDiff, Go.Addr.add, ↓reduceIte] at hx164_0)
      have qi164 : (1 < t159.length) = True := eq_true (by omega)
      (try rw [show ((1 : Int)).toNat = 1 from rfl] at hx164_0)
      replace p164 := eq_true p164
      replace q164 := eq_true q164
      go_upto_if 40 with (first | ((with_reducible refine gate_callee (f := 36) rfl ?_); refine gl 31 Tryd.func36 #[.string (rdOf ByteArray.empty t159 1)] ?_; (with_reducible refine (spec_ReadLattice.calls _ _ _ _ _ _ _ A15.out).mono ?_); rintro e w19 ⟨rfl, hb⟩; refine ⟨_, rfl, ?_⟩; replace HO_4 := asd (Kd.R_below (kr HO_4) hb); replace BK158 := bB BK158 hb; replace HB := bS1 HB GE158 hb; (try clear hb)) | ((with_reducible refine gd 5 rfl ?_); refine bx #[.int .i64 0, .int .i64 0, .int .i64 0] 40 ?_; intro gb169 hg w20 BK169 hb; replace HO_4 := asd (Kd.R_below (kr HO_4) hb); have GE169 := ngw1 hg HB GE158; replace HB := bS1 HB GE158 hb; have NB158_169 := nlt hg BK158; have NB169_158 := nsy (nlt hg BK158); replace BK158 := bB BK158 hb; clear hb hg; have hnb21 := NB169_158.out; have hnc21 := NB158_169.out; obtain ⟨hcz22_0, hcz22_1, hcz22_2, hfz22_0, hfz22_1, hfz22_2⟩ := bz3 BK169) | ((with_reducible refine gd 35 rfl ?_); refine Kd.R_lit (Kd.int .i64) _ 2 ?hg (N := 35) ?hd (xs := ([] : List Int)) (inner := []) (ok := fun _ => True) (okp := fun _ => True) ?hr ?hp (fun _ hk => hk) trivial (Below.refl _ _) (Nat.le_refl _) (by simp) ?_; (case hd => rfl); (case hg => rfl); (case hr => first | (go_simp; done) | (go_simp; rfl)); (case hp => exact (Reps.none _ _)); intro v171 w23 ho24 hb hg_ hnew_; clear hg_ hnew_; (first | rw [← Ny170.out] at ho24 | (simp only [Int.reduceToNat] at ho24; rw [← Ny170.out] at ho24)); replace HO_4 := asd (Kd.R_below (by (with_reducible repeat (first | apply Kd.R_alloc | apply Kd.R_drewN | apply Kd.R_drew)); exact (Kd.R_mono (rw3 (Kd.R_types HO_4.out BK169.out (by decide))) (fun _ h_ => h_.1))) hb); have HO172 := asd (Kd.R_lower ho24 (bsz2 HB GE158 GE169)); replace BK158 := asd (blk_below (g := gb158) (o := .cells #[.int .i64 0, .int .i64 0, .int .i64 0, .int .i64 0, .slice none 0 0] 42 (0, 0)) (bq1 BK158 NB158_169) hb); replace BK169 := asd (blk_below (g := gb169) (o := .cells #[.int .i64 t165, .int .i64 t166, .int .i64 t167] 40 (0, 0)) (bq0 BK169) hb); replace HB := bS2 HB GE158 GE169 hb; clear hb ho24; obtain ⟨Ao25, co25, eo25⟩ := Kd.R_slice HO172.out; subst eo25) | ((with_reducible refine gd 7 rfl ?_); refine bx #[.int .i64 0, .int .i64 0, .int .i64 0, .int .i64 0, .slice none 0 0] 42 ?_; intro gb173 hg w26 BK173 hb; replace HO_4 := asd (Kd.R_below (kr HO_4) hb); replace HO172 := asd (Kd.R_below (kr HO172) hb); have GE173 := ngw2 hg HB GE158 GE169; replace HB := bS2 HB GE158 GE169 hb; have NB158_173 := nlt hg BK158; have NB173_158 := nsy (nlt hg BK158); replace BK158 := bB BK158 hb; have NB169_173 := nlt hg BK169; have NB173_169 := nsy (nlt hg BK169); replace BK169 := bB BK169 hb; clear hb hg; have hnb27 := NB173_158.out; have hnc27 := NB158_173.out; have hnb28 := NB173_169.out; have hnc28 := NB169_173.out; obtain ⟨hcz29_0, hcz29_1, hcz29_2, hcz29_3, hcz29_4, hfz29_0, hfz29_1, hfz29_2, hfz29_3, hfz29_4⟩ := bz5 BK173; have p174 : 0 ≤ (0 : Int) := (by omega); have q174 : 0 < (t159.length : Int) := od; obtain ⟨ad174, e174, hx174_0⟩ := Kd.at_string (Kd.R_reads' HO_4.out).2.2 0 p174 q174; obtain rfl : ad164 = ad174 := (by injection e174); have qi174 : (0 < t159.length) = True := eq_true (by omega); (try rw [show ((0 : Int)).toNat = 0 from rfl] at hx174_0); (try rw [Addr.add_zero'] at hx174_0); have hn174_0 : ad164.block ≠ gb173 := Kd.own_blk (Kd.R_ne HO_4.out BK173.out (by decide)); have hn174_1 : ad164.block ≠ gb173 := Kd.own_blk (Kd.R_ne HO_4.out BK173.out (by decide)); have hn174_2 : ad164.block ≠ gb173 := Kd.own_blk (Kd.R_ne HO_4.out BK173.out (by decide)); have hn174_3 : ad164.block ≠ gb173 := Kd.own_blk (Kd.R_ne HO_4.out BK173.out (by decide)); have hn174_4 : ad164.block ≠ gb173 := Kd.own_blk (Kd.R_ne HO_4.out BK173.out (by decide)); replace hx174_0 := cw5 (.int .i64 0) (.int .i64 t165) (.int .i64 t166) (.int .i64 t167) (.slice Ao25 y170.length co25) hn174_0 hx174_0; clear hn174_0; clear hn174_1; clear hn174_2; clear hn174_3; clear hn174_4; replace p174 := eq_true p174; replace q174 := eq_true q174))
      (try simp only [Act.put, sA, sB, sC])
      go_cut [] (fun wc => ∃ (kq : Nat) (x174000_16 : Int), Aside0 (spec_ReadPattern.j1 kq t159 t168 x174000_16 t165 t166 t167 y170 = some (r1, r2, r3, r4, r5, r6)) ∧ Aside0 (kq ≤ kj2) ∧ Aside0 (Kd.R Kd.string 9 wc w.heap.size (fun _ => True) (.slice (some ad164) t159.length co18) t159) ∧ Aside0 (Kd.R (Kd.int .i64) 2 wc w.heap.size (fun _ => True) (.slice Ao25 y170.length co25) y170) ∧ Aside0 (wc.heap[gb158]? = some (.cells #[.int .i64 0, .int .i64 0, .int .i64 0, .int .i64 0, (.slice none 0 0)] 42 (0, 0))) ∧ Aside0 (wc.heap[gb169]? = some (.cells #[.int .i64 t165, .int .i64 t166, .int .i64 t167] 40 (0, 0))) ∧ Aside0 (wc.heap[gb173]? = some (.cells #[.int .i64 x174000_16, .int .i64 t165, .int .i64 t166, .int .i64 t167, (.slice Ao25 y170.length co25)] 42 (0, 0))) ∧ Aside0 (Below w.heap.size w wc))
      case first =>
       have H := HC17.out
       clear HC17
       by_cases c30 : (rdOf ByteArray.empty t159 0).toList = ([72] : List UInt8)
       ·rw [if_pos c30] at H
        have c30b0 : ((rdOf ByteArray.empty t159 0).toList == ([72] : List UInt8)) = true := beq_iff_eq.mpr c30
        have c30b1 : ((rdOf ByteArray.empty t159 0).toList != ([72] : List UInt8)) = false := bne_eq_false_iff_eq.mpr c30
        clear c30
        (first | rw [c30b0] | (simp only [i64_w, i32_w]; rw [c30b0]) | skip)
        have H' := Aside0.mk H
        clear H
        have hnb31 := NB173_158.out
        have hnc31 := NB158_173.out
        have hnb32 := NB173_169.out
        have hnc32 := NB169_173.out
        obtain ⟨hcz33_0, hcz33_1, hcz33_2, hcz33_3, hcz33_4, hfz33_0, hfz33_1, hfz33_2, hfz33_3, hfz33_4⟩ := bz5 BK173
        go_wp2
        go_meet
        case rel => exact ⟨_, (1), H', ⟨by have := HJ2.out; first | omega | exact Nat.le_refl _⟩, ⟨by (with_reducible repeat (first | apply Kd.R_alloc | apply Kd.R_drewN | apply Kd.R_drew)); exact Kd.R_mono (rw1 (Kd.R_far (p := ⟨gb173, 4, none⟩) (Kd.R_far (p := ⟨gb173, 3, none⟩) (Kd.R_far (p := ⟨gb173, 2, none⟩) (Kd.R_far (p := ⟨gb173, 1, none⟩) (Kd.R_far (p := ⟨gb173, 0, none⟩) (Kd.R_types HO_4.out BK173.out (by decide)) (fun _ hk => hk.2) (.int .i64 0)) (fun _ hk => hk.2) (.int .i64 t165)) (fun _ hk => hk.2) (.int .i64 t166)) (fun _ hk => hk.2) (.int .i64 t167)) (fun _ hk => hk.2) (.slice Ao25 y170.length co25))) (fun _ hk => trivial)⟩, ⟨by (with_reducible repeat (first | apply Kd.R_alloc | apply Kd.R_drewN | apply Kd.R_drew)); exact Kd.R_mono (rw1 (Kd.R_far (p := ⟨gb173, 4, none⟩) (Kd.R_far (p := ⟨gb173, 3, none⟩) (Kd.R_far (p := ⟨gb173, 2, none⟩) (Kd.R_far (p := ⟨gb173, 1, none⟩) (Kd.R_far (p := ⟨gb173, 0, none⟩) (Kd.R_types HO172.out BK173.out (by decide)) (fun _ hk => hk.2) (.int .i64 0)) (fun _ hk => hk.2) (.int .i64 t165)) (fun _ hk => hk.2) (.int .i64 t166)) (fun _ hk => hk.2) (.int .i64 t167)) (fun _ hk => hk.2) (.slice Ao25 y170.length co25))) (fun _ hk => trivial)⟩, ⟨bq1 BK158 NB158_173⟩, ⟨bq1 BK169 NB169_173⟩, ⟨bq0 BK173⟩, ⟨bbw3 HB GE158 GE169 GE173⟩⟩
       ·rw [if_neg c30] at H
        have c30b0 : ((rdOf ByteArray.empty t159 0).toList == ([72] : List UInt8)) = false := beq_eq_false_iff_ne.mpr c30
        have c30b1 : ((rdOf ByteArray.empty t159 0).toList != ([72] : List UInt8)) = true := bne_iff_ne.mpr c30
        (first | rw [c30b0] | (simp only [i64_w, i32_w]; rw [c30b0]) | skip)
        have H' := Aside0.mk H
        clear H
        go_wp2
        go_meet
        case rel => exact ⟨_, (0), H', ⟨by have := HJ2.out; first | omega | exact Nat.le_refl _⟩, ⟨by (with_reducible repeat (first | apply Kd.R_alloc | apply Kd.R_drewN | apply Kd.R_drew)); exact Kd.R_mono (rw5 (Kd.R_types HO_4.out BK173.out (by decide))) (fun _ hk => trivial)⟩, ⟨by (with_reducible repeat (first | apply Kd.R_alloc | apply Kd.R_drewN | apply Kd.R_drew)); exact Kd.R_mono (rw5 (Kd.R_types HO172.out BK173.out (by decide))) (fun _ hk => trivial)⟩, ⟨bq1 BK158 NB158_173⟩, ⟨bq1 BK169 NB169_173⟩, ⟨bq0 BK173⟩, ⟨bbw3 HB GE158 GE169 GE173⟩⟩
      case rest =>
       clear HC17
       try clear c1
       try clear p1
       try clear q1
       try clear hx1
       try clear qi1
       try clear c2
       try clear p2
       try clear c3
       try clear c6
       try clear c6b0
       try clear c6b1
       try clear c7
       try clear c7b0
       try clear c7b1
       try clear c8
       try clear c8b0
       try clear c8b1
       try clear c12
       try clear c14
       try clear c14b0
       try clear c14b1
       try clear c16
       try clear c16b0
       try clear c16b1
       try clear p16
       try clear q16
       try clear hx16
       try clear qi16
       try clear p17
       try clear q17
       try clear hx17
       try clear qi17
       try clear c19
       try clear c21
       try clear c27
       try clear c28
       try clear c30
       try clear c30b0
       try clear c30b1
       try clear c31
       try clear c32
       try clear hcz13_0
       try clear hcz13_1
       try clear hcz13_2
       try clear hcz13_3
       try clear hcz13_4
       try clear hcz22_0
       try clear hcz22_1
       try clear hcz22_2
       try clear hcz29_0
       try clear hcz29_1
       try clear hcz29_2
       try clear hcz29_3
       try clear hcz29_4
       try clear hcz33_0
       try clear hcz33_1
       try clear hcz33_2
       try clear hcz33_3
       try clear hcz33_4
       try clear hfz13_0
       try clear hfz13_1
       try clear hfz13_2
       try clear hfz13_3
       try clear hfz13_4
       try clear hfz22_0
       try clear hfz22_1
       try clear hfz22_2
       try clear hfz29_0
       try clear hfz29_1
       try clear hfz29_2
       try clear hfz29_3
       try clear hfz29_4
       try clear hfz33_0
       try clear hfz33_1
       try clear hfz33_2
       try clear hfz33_3
       try clear hfz33_4
       try clear hx162_0
       try clear hx163_0
       try clear hx164_0
       try clear hx174_0
       try clear p1
       try clear p162
       try clear p163
       try clear p164
       try clear p174
       try clear p2
       try clear q1
       try clear q162
       try clear q163
       try clear q164
       try clear q174
       obtain ⟨kq, x174000_16, HA, HJ16, HO_4, HO_174004, BK158, BK169, BK173, HB⟩ := hcut
       cases kq with
       | zero => exact absurd HA.out (by simp [spec_ReadPattern.j1])
       | succ kj16 =>
        have H := HA.out
        clear HA
        simp only [spec_ReadPattern.j1] at H
        have H' := Aside0.mk H
        clear H
        go_wp2
        go_loopg [8] kj16 (fun kq v8 w' => ∃ (x8_3 : Int) (x174004_3 : List Int) (u174004 : Value), v8 = .int .i64 x8_3 ∧ Aside0 (spec_ReadPattern.l0 kq t159 t168 x8_3 x174000_16 t165 t166 t167 x174004_3 = some (r1, r2, r3, r4, r5, r6)) ∧ Aside0 (kq ≤ kj16) ∧ Aside0 (Kd.R Kd.string 9 w' w.heap.size (fun _ => True) (.slice (some ad164) t159.length co18) t159) ∧ Aside0 (Kd.R (Kd.int .i64) 2 w' w.heap.size (fun _ => True) u174004 x174004_3) ∧ Aside0 (w'.heap[gb158]? = some (.cells #[.int .i64 0, .int .i64 0, .int .i64 0, .int .i64 0, (.slice none 0 0)] 42 (0, 0))) ∧ Aside0 (w'.heap[gb169]? = some (.cells #[.int .i64 t165, .int .i64 t166, .int .i64 t167] 40 (0, 0))) ∧ Aside0 (w'.heap[gb173]? = some (.cells #[.int .i64 x174000_16, .int .i64 t165, .int .i64 t166, .int .i64 t167, u174004] 42 (0, 0))) ∧ Aside0 (Below w.heap.size w w'))
        case atStart => exact ⟨(0), (y170), (.slice Ao25 y170.length co25), (by first | rfl | (simp; done) | (simp [*]; done)), H', ⟨Nat.le_refl _⟩, ⟨by (with_reducible repeat (first | apply Kd.R_alloc | apply Kd.R_drewN | apply Kd.R_drew)); exact HO_4.out⟩, ⟨by (with_reducible repeat (first | apply Kd.R_alloc | apply Kd.R_drewN | apply Kd.R_drew)); exact HO_174004.out⟩, ⟨bkp BK158⟩, ⟨bkp BK169⟩, ⟨bkp BK173⟩, ⟨bbw3 HB GE158 GE169 GE173⟩⟩
        case round =>
         clear H'
         try clear c1
         try clear p1
         try clear q1
         try clear hx1
         try clear qi1
         try clear c2
         try clear p2
         try clear c3
         try clear c6
         try clear c6b0
         try clear c6b1
         try clear c7
         try clear c7b0
         try clear c7b1
         try clear c8
         try clear c8b0
         try clear c8b1
         try clear c12
         try clear c14
         try clear c14b0
         try clear c14b1
         try clear c16
         try clear c16b0
         try clear c16b1
         try clear p16
         try clear q16
         try clear hx16
         try clear qi16
         try clear p17
         try clear q17
         try clear hx17
         try clear qi17
         try clear c19
         try clear c21
         try clear c27
         try clear c28
         try clear c30
         try clear c30b0
         try clear c30b1
         try clear c31
         try clear c32
         try clear hcz13_0
         try clear hcz13_1
         try clear hcz13_2
         try clear hcz13_3
         try clear hcz13_4
         try clear hcz22_0
         try clear hcz22_1
         try clear hcz22_2
         try clear hcz29_0
         try clear hcz29_1
         try clear hcz29_2
         try clear hcz29_3
         try clear hcz29_4
         try clear hcz33_0
         try clear hcz33_1
         try clear hcz33_2
         try clear hcz33_3
         try clear hcz33_4
         try clear hfz13_0
         try clear hfz13_1
         try clear hfz13_2
         try clear hfz13_3
         try clear hfz13_4
         try clear hfz22_0
         try clear hfz22_1
         try clear hfz22_2
         try clear hfz29_0
         try clear hfz29_1
         try clear hfz29_2
         try clear hfz29_3
         try clear hfz29_4
         try clear hfz33_0
         try clear hfz33_1
         try clear hfz33_2
         try clear hfz33_3
         try clear hfz33_4
         try clear hx162_0
         try clear hx163_0
         try clear hx164_0
         try clear hx174_0
         try clear p1
         try clear p16
         try clear p162
         try clear p163
         try clear p164
         try clear p17
         try clear p174
         try clear p2
         try clear q1
         try clear q16
         try clear q162
         try clear q163
         try clear q164
         try clear q17
         try clear q174
         obtain ⟨x8_3, x174004_3, u174004, rfl, HA, HK3, HO_4, HO_174004, BK158, BK169, BK173, HB⟩ := hrel
         cases gk with
         | zero => exact absurd HA.out (by simp [spec_ReadPattern.l0])
         | succ k3 =>
          have H := HA.out
          clear HA
          simp only [spec_ReadPattern.l0] at H
          by_cases c34 : 2 < (t159.length : Int)
          ·rw [if_pos c34] at H
           have c34b0 := decide_eq_true c34
           have c34b1 : decide (2 < t159.length) = true := decide_eq_true (by omega)
           clear c34
           by_cases c35 : x8_3 < ((rdOf ByteArray.empty t159 2).size : Int)
           ·rw [if_pos c35] at H
            have c35b0 := decide_eq_true c35
            clear c35
            by_cases c36 : 0 ≤ x8_3
            ·rw [if_pos c36] at H
             have c36b0 := decide_eq_true c36
             clear c36
             by_cases c38 : x174004_3.length < 17592186044416
             ·rw [if_pos c38] at H
              have LMc38 := Aside0.mk c38
              clear c38
              obtain ⟨y177, hy177⟩ : ∃ y_ : List Int, y_ = (x174004_3 ++ [wrap64 ((wrap64 (bt (rdOf ByteArray.empty t159 2) x8_3)) - 48)]) := ⟨_, rfl⟩
              replace H : (spec_ReadPattern.l0 k3 t159 t168 (wrap64 (x8_3 + 1)) x174000_16 t165 t166 t167 y177) = some (r1, r2, r3, r4, r5, r6) := by first | (rw [hy177]; with_reducible exact H) | (have H2_ := (Option.bind_some _ _).symm.trans H; rw [hy177]; with_reducible exact H2_) | (have H2_ := (Option.bind_some _ _).symm.trans H; with_reducible exact H2_) | with_reducible exact H | (rw [hy177]; exact H) | exact H
              have Ny177 := Aside0.mk hy177
              clear hy177
              have H' := Aside0.mk H
              clear H
              have p175 : 0 ≤ (2 : Int) := (by omega)
              have q175 : 2 < (t159.length : Int) := od
              obtain ⟨ad175, e175, hx175_0⟩ := Kd.at_string (Kd.R_reads' HO_4.out).2.2 2 p175 q175
              obtain rfl : ad164 = ad175 := (by injection e175)
              (try simp only [show (2 : Int).toNat = 2 from rfl, Nat.reduceMul, Nat.reduceEqDiff, Go.Addr.add, ↓reduceIte] at hx175_0)
              have qi175 : (2 < t159.length) = True := eq_true (by omega)
              (try rw [show ((2 : Int)).toNat = 2 from rfl] at hx175_0)
              replace p175 := eq_true p175
              replace q175 := eq_true q175
              try go_wp2
              replace HO_4 := asd (Kd.R_drew HO_4.out)
              replace HO_174004 := asd (Kd.R_drew HO_174004.out)
              replace BK158 := asd (blk_drew BK158.out)
              replace BK169 := asd (blk_drew BK169.out)
              replace BK173 := asd (blk_drew BK173.out)
              replace HB := asd (below_drew1 HB.out)
              have p176 : 0 ≤ (2 : Int) := (by omega)
              have q176 : 2 < (t159.length : Int) := od
              obtain ⟨ad176, e176, hx176_0⟩ := Kd.at_string (Kd.R_reads' HO_4.out).2.2 2 p176 q176
              obtain rfl : ad164 = ad176 := (by injection e176)
              (try simp only [show (2 : Int).toNat = 2 from rfl, Nat.reduceMul, Nat.reduceEqDiff, Go.Addr.add, ↓reduceIte] at hx176_0)
              have qi176 : (2 < t159.length) = True := eq_true (by omega)
              (try rw [show ((2 : Int)).toNat = 2 from rfl] at hx176_0)
              replace p176 := eq_true p176
              replace q176 := eq_true q176
              have p37 : 0 ≤ (x8_3 : Int) := od
              have q37 : x8_3 < ((rdOf ByteArray.empty t159 2).size : Int) := od
              have hx37 := bt_at (rdOf ByteArray.empty t159 2) x8_3
              replace p37 := eq_true p37
              replace q37 := eq_true q37
              refine start_ (n := 13) (S := fun w' => w'.cell? ⟨gb173, 0, none⟩ = some (.int .i64 x174000_16) ∧ w'.cell? ⟨gb173, 1, none⟩ = some (.int .i64 t165) ∧ w'.cell? ⟨gb173, 2, none⟩ = some (.int .i64 t166) ∧ w'.cell? ⟨gb173, 3, none⟩ = some (.int .i64 t167) ∧ w'.cell? ⟨gb173, 4, none⟩ = some (u174004) ∧ w'.cell? ⟨ad164.block, ad164.off + 2, none⟩ = some (.string (rdOf ByteArray.empty t159 2))) (ds := [10, 12]) (bT 13 0) (by kernel_rfl) rfl rfl ⟨bcl BK173 0, bcl BK173 1, bcl BK173 2, bcl BK173 3, bcl BK173 4, hx176_0⟩ (fun hHeld => ?_); refine with_tabW spec_ReadPattern.tab11 spec_ReadPattern.bits11 (fun HT_ HW_ => ?_)
              generalize wr.drew = w39 at HO_4 HO_174004 BK158 BK169 BK173 HB hx176_0 hHeld ⊢
              refine pu 0 (some 50) (bT 13 1) HT_ ?_
              refine pu 2 (some 52) (bs 13 5) HT_ ?_
              refine pu 3 (some 53) (bs 13 13) HT_ ?_
              refine pu 5 (some 55) (bs 13 45) HT_ ?_
              refine ta 1 (some 51) (bs 13 47) HT_ HW_ hHeld ?_
              refine ta 4 (some 54) (bT 13 6) HT_ HW_ hHeld ?_
              refine ta 6 (some 56) (bT 13 7) HT_ HW_ hHeld ?_
              refine pu 7 (some 57) (bT 13 8) HT_ ?_
              refine pu 8 (some 58) (bT 13 9) HT_ ?_
              refine ro 9 (some 59) (bT 13 10) HT_ (fun K hK => ?_)
              refine value_ (w1 := ?_) (v := ?_) (by rfl) rfl ?_ ?_
              rotate_left 2
              ·go_simp
               constructor
               ·rfl
               ·rfl
              refine hK.out _ _ ⟨(blk_cell (blk_alloc BK173.out _) 0).trans rfl, (blk_cell (blk_alloc BK173.out _) 1).trans rfl, (blk_cell (blk_alloc BK173.out _) 2).trans rfl, (blk_cell (blk_alloc BK173.out _) 3).trans rfl, (blk_cell (blk_alloc BK173.out _) 4).trans rfl, (World.cell?_alloc_lt _ _ _ (World.block_lt_of_cell? _ _ (hHeld.2.2.2.2.2))).trans (hHeld.2.2.2.2.2)⟩ (fun hHeld => ?_)
              clear hK K
              refine norm_ (a' := ?_) ?_ ?_
              rotate_left
              ·show Act.put _ (some 59) _ = _
               simp only [Act.put, sA, sB, sC, i64_w, i32_w]
               rfl
              refine last_ (i := 10) (N := some 60) (bT 13 11) rfl rfl (one_of HT_.out (by kernel_rfl)) (by decide) (fun K hK => ?_)
              refine Kd.R_append_step (Kd.int .i64) (w0 := w) w.heap.size (by rfl) (.tmp 51) (.tmp 59) 22 2 (.int .i64 0) 8 rfl Tryd.underlying22 info2 rfl (by decide) (by omega) u174004 x174004_3 (wrap64 ((wrap64 (bt (rdOf ByteArray.empty t159 2) x8_3)) - 48)) [.int .i64 (wrap64 ((wrap64 (bt (rdOf ByteArray.empty t159 2) x8_3)) - 48))] (fun _ => True) (fun _ => False) rfl rfl ?aP (fun _ hk => hk.elim) ?aF ?aO ?aB ?aS ?aL ?_
              (case aP => exact rfl)
              (case aB => exact (bbw3 HB GE158 GE169 GE173))
              (case aF => exact (fun _ _ => trivial))
              (case aO => exact (kr HO_174004))
              (case aS => exact (bsz3 HB GE158 GE169 GE173))
              (case aL => have := LMc38.out; omega)
              intro v178 w40 ho hb hg hat
              rw [← Ny177.out] at ho
              have n0_ := asd (Kd.R_over' (kr HO_4) (Kd.R_typed (kr HO_174004)) (by decide) hg)
              have n1_ := asd (blk_grown (g := gb158) (o := .cells #[.int .i64 0, .int .i64 0, .int .i64 0, .int .i64 0, .slice none 0 0] 42 (0, 0)) (bkp BK158) hg (Kd.R_ne HO_174004.out BK158.out (by decide)))
              have n2_ := asd (blk_grown (g := gb169) (o := .cells #[.int .i64 t165, .int .i64 t166, .int .i64 t167] 40 (0, 0)) (bkp BK169) hg (Kd.R_ne HO_174004.out BK169.out (by decide)))
              have n3_ := asd (blk_grown (g := gb173) (o := .cells #[.int .i64 x174000_16, .int .i64 t165, .int .i64 t166, .int .i64 t167, u174004] 42 (0, 0)) (bkp BK173) hg (Kd.R_ne HO_174004.out BK173.out (by decide)))
              have n4_ := asd (hb)
              have n5_ := asd (ho)
              clear HO_4
              clear BK158
              clear BK169
              clear BK173
              clear HB
              clear HO_174004
              have HO_4 := n0_
              have BK158 := n1_
              have BK169 := n2_
              have BK173 := n3_
              have HB := n4_
              have HO179 := n5_
              clear n0_ n1_ n2_ n3_ n4_ n5_
              clear ho hb hg hat
              obtain ⟨Ao41, co41, eo41⟩ := Kd.R_slice HO179.out
              (first | subst eo41 | (injection eo41 with f1_ f2_ f3_; have f4_ := f1_.symm; have f5_ := f3_.symm; clear f1_ f2_ f3_; subst f4_; subst f5_))
              refine hK.out _ _ ?_
              clear hK K
              refine norm_ (a' := ?_) ?_ ?_
              rotate_left
              ·show Act.put _ (some 60) _ = _
               simp only [Act.put, sA, sB, sC, i64_w, i32_w]
               rfl
              refine pu 11 (some 61) (bT 13 12) HT_ ?_
              refine last_ (i := 12) (N := none) (bT 13 13) rfl rfl (one_of HT_.out (by kernel_rfl)) (by decide) (fun K hK => ?_)
              have hs42 : w40.cell? ⟨gb173, 4, none⟩ = some (u174004) := bcl BK173 4
              have hfs42 := blk_frozen BK173.out 4
              have hns42_0 := NB158_173.out
              have hns42_1 := NB169_173.out
              have hms42_0 := NB173_158.out
              have hms42_1 := NB173_169.out
              refine skip_ (w1 := ?_) (by rfl) rfl ?_ ?_
              rotate_left
              ·go_simp
               rfl
              refine hK.out _ _ ?_
              clear hK K
              refine done_ (done_of HT_.out (by kernel_rfl)) ?_
              try go_wp2
              go_roundg k3
              case measure => have := HJ2.out; have := HJ16.out; have := HK3.out; omega
              case rel => exact ⟨(wrap64 (x8_3 + 1)), (y177), (.slice Ao41 y177.length co41), (by first | rfl | (simp; done) | (simp [*]; done)), H', ⟨by have := HJ2.out; have := HJ16.out; have := HK3.out; omega⟩, ⟨by (with_reducible repeat (first | apply Kd.R_alloc | apply Kd.R_drewN | apply Kd.R_drew)); exact Kd.R_mono (Kd.R_far (p := ⟨gb173, 4, none⟩) (Kd.R_types HO_4.out BK173.out (by decide)) (fun _ hk => hk.2) (.slice Ao41 y177.length co41)) (fun _ hk => trivial)⟩, ⟨by (with_reducible repeat (first | apply Kd.R_alloc | apply Kd.R_drewN | apply Kd.R_drew)); exact Kd.R_mono (Kd.R_far (p := ⟨gb173, 4, none⟩) (Kd.R_types HO179.out BK173.out (by decide)) (fun _ hk => hk.2) (.slice Ao41 y177.length co41)) (fun _ hk => trivial)⟩, ⟨bq1 BK158 NB158_173⟩, ⟨bq1 BK169 NB169_173⟩, ⟨bq0 BK173⟩, ⟨bbw3 HB GE158 GE169 GE173⟩⟩
             ·rw [if_neg c38] at H
              exact absurd H (by simp)
            ·rw [if_neg c36] at H
             exact absurd H (by simp)
           ·rw [if_neg c35] at H
            have c35b0 := decide_eq_false c35
            clear c35
            by_cases c43 : t168 = true
            ·subst c43
             replace H := ifT H
             obtain ⟨t180, A44, H⟩ := ob H
             try dsimp only at H
             by_cases c45 : t180 = true
             ·subst c45
              replace H := ifT H
              simp only [Option.some.injEq, Prod.mk.injEq] at H
              obtain ⟨rfl, rfl, rfl, rfl, rfl, rfl⟩ := H
              have p175 : 0 ≤ (2 : Int) := (by omega)
              have q175 : 2 < (t159.length : Int) := od
              obtain ⟨ad175, e175, hx175_0⟩ := Kd.at_string (Kd.R_reads' HO_4.out).2.2 2 p175 q175
              obtain rfl : ad164 = ad175 := (by injection e175)
              (try simp only [show (2 : Int).toNat = 2 from rfl, Nat.reduceMul, Nat.reduceEqDiff, Go.Addr.add, ↓reduceIte] at hx175_0)
              have qi175 : (2 < t159.length) = True := eq_true (by omega)
              (try rw [show ((2 : Int)).toNat = 2 from rfl] at hx175_0)
              replace p175 := eq_true p175
              replace q175 := eq_true q175
              have hnb46 := NB173_158.out
              have hnc46 := NB158_173.out
              have hnb47 := NB173_169.out
              have hnc47 := NB169_173.out
              obtain ⟨hcz48_0, hcz48_1, hcz48_2, hcz48_3, hcz48_4, hfz48_0, hfz48_1, hfz48_2, hfz48_3, hfz48_4⟩ := bz5 BK173
              obtain ⟨Ao49, co49, eo49⟩ := Kd.R_slice HO_174004.out
              subst eo49
              go_wp2_with (first | (go_at_call 37; (with_reducible refine (spec_IsPattern.calls _ _ _ _ _ _ _ _ _ _ ?side1 ?side2 A44.out).mono ?_); (case side1 => exact ks (Kd.R_reads' HO_174004.out).2.2); (case side2 => exact (Kd.R_reads' HO_174004.out).2.1); rintro e w50 ⟨rfl, hb⟩; replace HO_4 := asd (Kd.R_below (kr HO_4) hb); replace HO_174004 := asd (Kd.R_below (kr HO_174004) hb); replace BK158 := bB BK158 hb; replace BK169 := bB BK169 hb; replace BK173 := bB BK173 hb; replace HB := bS3 HB GE158 GE169 GE173 hb; (try clear hb); obtain ⟨hcz51_0, hcz51_1, hcz51_2, hcz51_3, hcz51_4, hfz51_0, hfz51_1, hfz51_2, hfz51_3, hfz51_4⟩ := bz5 BK173; have hnb52 := NB158_169.out; have hnc52 := NB169_158.out; obtain ⟨hcz53_0, hcz53_1, hcz53_2, hcz53_3, hcz53_4, hfz53_0, hfz53_1, hfz53_2, hfz53_3, hfz53_4⟩ := bz5 BK158))
              refine bodyPost_ret (results_ct rfl _ _ gb158 42 #[.int .i64 x174000_16, .int .i64 t165, .int .i64 t166, .int .i64 t167, .slice Ao49 x174004_3.length co49] (0, 0) _ rfl (bq0 BK158) Tryd.underlying42 rfl (by kernel_rfl)) rfl ?_
              exact ⟨_, by first | rfl | (simp [errW_none, errW_some] <;> rfl) | (simp [*, errW_none, errW_some] <;> rfl), by (with_reducible repeat (first | apply Kd.R_alloc | apply Kd.R_drewN | apply Kd.R_drew)); exact Kd.R_mono (rw5 (Kd.R_types HO_174004.out BK158.out (by decide))) (fun _ hk => trivial), bbw3 HB GE158 GE169 GE173⟩
             ·replace c45 := Bool.eq_false_iff.mpr c45
              subst c45
              replace H := ifF H
              simp only [Option.some.injEq, Prod.mk.injEq] at H
              obtain ⟨rfl, rfl, rfl, rfl, rfl, rfl⟩ := H
              have p175 : 0 ≤ (2 : Int) := (by omega)
              have q175 : 2 < (t159.length : Int) := od
              obtain ⟨ad175, e175, hx175_0⟩ := Kd.at_string (Kd.R_reads' HO_4.out).2.2 2 p175 q175
              obtain rfl : ad164 = ad175 := (by injection e175)
              (try simp only [show (2 : Int).toNat = 2 from rfl, Nat.reduceMul, Nat.reduceEqDiff, Go.Addr.add, ↓reduceIte] at hx175_0)
              have qi175 : (2 < t159.length) = True := eq_true (by omega)
              (try rw [show ((2 : Int)).toNat = 2 from rfl] at hx175_0)
              replace p175 := eq_true p175
              replace q175 := eq_true q175
              have hnb54 := NB173_158.out
              have hnc54 := NB158_173.out
              have hnb55 := NB173_169.out
              have hnc55 := NB169_173.out
              obtain ⟨hcz56_0, hcz56_1, hcz56_2, hcz56_3, hcz56_4, hfz56_0, hfz56_1, hfz56_2, hfz56_3, hfz56_4⟩ := bz5 BK173
              obtain ⟨Ao57, co57, eo57⟩ := Kd.R_slice HO_174004.out
              subst eo57
              go_wp2_with (first | (go_at_call 37; (with_reducible refine (spec_IsPattern.calls _ _ _ _ _ _ _ _ _ _ ?side1 ?side2 A44.out).mono ?_); (case side1 => exact ks (Kd.R_reads' HO_174004.out).2.2); (case side2 => exact (Kd.R_reads' HO_174004.out).2.1); rintro e w58 ⟨rfl, hb⟩; replace HO_4 := asd (Kd.R_below (kr HO_4) hb); replace HO_174004 := asd (Kd.R_below (kr HO_174004) hb); replace BK158 := bB BK158 hb; replace BK169 := bB BK169 hb; replace BK173 := bB BK173 hb; replace HB := bS3 HB GE158 GE169 GE173 hb; (try clear hb); have hnb59 := NB158_169.out; have hnc59 := NB169_158.out; obtain ⟨hcz60_0, hcz60_1, hcz60_2, hcz60_3, hcz60_4, hfz60_0, hfz60_1, hfz60_2, hfz60_3, hfz60_4⟩ := bz5 BK158))
              refine bodyPost_ret (results_ct rfl _ _ gb158 42 #[.int .i64 0, .int .i64 0, .int .i64 0, .int .i64 0, .slice none 0 0] (0, 0) _ rfl (bq0 BK158) Tryd.underlying42 rfl (by kernel_rfl)) rfl ?_
              exact ⟨_, by first | rfl | (simp [errW_none, errW_some] <;> rfl) | (simp [*, errW_none, errW_some] <;> rfl), by first | exact Kd.R_nil _ _ _ _ _ | exact Kd.N_nil _ _ _ _ _ | exact Kd.V_nil _ _ _ _ _ | exact Kd.Q_nil _ _ _ _ _ | exact Kd.S_nil _ _ _ _ _, bbw3 HB GE158 GE169 GE173⟩
            ·replace c43 := Bool.eq_false_iff.mpr c43
             subst c43
             replace H := ifF H
             simp only [Option.some.injEq, Prod.mk.injEq] at H
             obtain ⟨rfl, rfl, rfl, rfl, rfl, rfl⟩ := H
             have p175 : 0 ≤ (2 : Int) := (by omega)
             have q175 : 2 < (t159.length : Int) := od
             obtain ⟨ad175, e175, hx175_0⟩ := Kd.at_string (Kd.R_reads' HO_4.out).2.2 2 p175 q175
             obtain rfl : ad164 = ad175 := (by injection e175)
             (try simp only [show (2 : Int).toNat = 2 from rfl, Nat.reduceMul, Nat.reduceEqDiff, Go.Addr.add, ↓reduceIte] at hx175_0)
             have qi175 : (2 < t159.length) = True := eq_true (by omega)
             (try rw [show ((2 : Int)).toNat = 2 from rfl] at hx175_0)
             replace p175 := eq_true p175
             replace q175 := eq_true q175
             have hnb61 := NB158_169.out
             have hnc61 := NB169_158.out
             have hnb62 := NB158_173.out
             have hnc62 := NB173_158.out
             obtain ⟨hcz63_0, hcz63_1, hcz63_2, hcz63_3, hcz63_4, hfz63_0, hfz63_1, hfz63_2, hfz63_3, hfz63_4⟩ := bz5 BK158
             go_wp2
             refine bodyPost_ret (results_ct rfl _ _ gb158 42 #[.int .i64 0, .int .i64 0, .int .i64 0, .int .i64 0, .slice none 0 0] (0, 0) _ rfl (bq0 BK158) Tryd.underlying42 rfl (by kernel_rfl)) rfl ?_
             exact ⟨_, by first | rfl | (simp [errW_none, errW_some] <;> rfl) | (simp [*, errW_none, errW_some] <;> rfl), by first | exact Kd.R_nil _ _ _ _ _ | exact Kd.N_nil _ _ _ _ _ | exact Kd.V_nil _ _ _ _ _ | exact Kd.Q_nil _ _ _ _ _ | exact Kd.S_nil _ _ _ _ _, bbw3 HB GE158 GE169 GE173⟩
          ·rw [if_neg c34] at H
           exact absurd H (by simp)
     ·rw [if_neg c16] at H
      exact absurd H (by simp)
    ·rw [if_neg c14] at H
     exact absurd H (by simp)

/-! ### texts: function 99998 -/
/-- What the package-level variables that the library reads hold. -/
structure texts.Tab (w : World) : Prop where
 pow10 : Lib.TabIs Tryd.prog w "internal/strconv.uint64pow10" .u64 Lib.pow10Tab
 maxlen : ∃ m, w.cell? ⟨0, 0, none⟩ = some (.int .i64 m)
 errsyntax : ∃ ev, w.cell? ⟨3, 0, none⟩ = some ev ∧ (ev = .nilIface ∨ ∃ te pe, ev = .iface te pe)
 errrange : ∃ ev, w.cell? ⟨4, 0, none⟩ = some ev ∧ (ev = .nilIface ∨ ∃ te pe, ev = .iface te pe)
theorem texts.cell {w w' : World} {p : Addr} {v : Value} (hb : Below w.heap.size w w') (h : w.cell? p = some v) : w'.cell? p = w.cell? p := hb.cell (World.block_lt_of_cell? w _ h)
theorem texts.tabB {w w' : World} (h : texts.Tab w) (hb : Below w.heap.size w w') : texts.Tab w' :=
 ⟨Go.Joins.tab_stays (show Tryd.prog.globalNamed "internal/strconv.uint64pow10" = some 5 by kernel_rfl) h.pow10 hb (Nat.le_refl _), (let ⟨m, hm⟩ := h.maxlen; ⟨m, (texts.cell hb hm).trans hm⟩), (let ⟨m, hm, he⟩ := h.errsyntax; ⟨m, (texts.cell hb hm).trans hm, he⟩), (let ⟨m, hm, he⟩ := h.errrange; ⟨m, (texts.cell hb hm).trans hm, he⟩)⟩

/-! ### strings_Split: function 38 -/
/-- A text's pieces between a separator that is not empty. -/
def strings_Split.f (a0 a1 : ByteArray) : Option (List ByteArray) := if a0.size < 4294967281 ∧ 1 ≤ a1.size then some (Lib.splitB a1 0 (Lib.countB a0 a1) a0) else none
theorem strings_Split.made (w : World) (rs : List ByteArray) (n : Nat) (hn : n = rs.length) (hm : rs.length ≤ maxLen) : Kd.R Kd.string 9 (w.alloc (.cells (rs.map Value.string).toArray 9)) w.heap.size (fun _ => True) (.slice (some ⟨w.heap.size, 0, none⟩) n n) rs := by
 subst hn
 refine ⟨fun _ _ => trivial, rs.map Value.string, ?_, ?_⟩
 ·have := World.ownsRow_lit (base := w.heap.size) (e := 9) (size := Kd.string.sz) w (rs.map Value.string).toArray rs.length (Nat.le_refl _) hm (by show (rs.map Value.string).toArray.size = rs.length * 1; simp)
  simpa using this
 ·refine ⟨by simp [Kd.string, Kd.scalar], fun j p hp => ?_⟩
  show _ = [Value.string p]
  have hj : j < rs.length := (List.getElem?_eq_some_iff.1 hp).1
  have e : (rs.map Value.string)[j]? = some (Value.string p) := by rw [List.getElem?_map, hp]; rfl
  show ((rs.map Value.string).drop (j * 1)).take 1 = [Value.string p]
  rw [Nat.mul_one, List.drop_eq_getElem_cons (by simpa using hj), List.take_succ_cons, List.take_zero]
  congr 1
  have := List.getElem?_eq_some_iff.1 e
  exact this.2
theorem strings_Split.calls (a0 a1 : ByteArray) (r : List ByteArray) (w : World) (htab : texts.Tab w) (h : strings_Split.f a0 a1 = some r) : Calls Tryd.prog 38 #[.string a0, .string a1] w fun e w' => ∃ v0_ : Value, e = .returned (v0_) ∧ Kd.R Kd.string 9 w' w.heap.size (fun _ => True) v0_ r ∧ Below w.heap.size w w' := by
 unfold strings_Split.f at h
 by_cases hc : a0.size < 4294967281 ∧ 1 ≤ a1.size
 ·rw [if_pos hc] at h
  obtain rfl := Option.some.inj h
  obtain ⟨m, hm⟩ := htab.maxlen
  refine (Tryd.strings_Split a0 a1 m w hc.1 hm hc.2).mono ?_
  rintro e w' ⟨rfl, rfl⟩
  have hl := Lib.splitB_all a1 hc.2 0 _ a0 rfl
  have hle := Lib.countB_le a1 hc.2 a0.size a0 (Nat.le_refl _)
  exact ⟨_, rfl, strings_Split.made w _ _ hl.symm (by unfold maxLen; omega), below_alloc (Below.refl _ _) _⟩
 ·rw [if_neg hc] at h; cases h
/-! ### strconv_FormatInt: function 108 -/
/-- A number's text in decimal. -/
def strconv_FormatInt.f (a0 a1 : Int) : Option ByteArray := if (-9223372036854775808 ≤ a0 ∧ a0 ≤ 9223372036854775807) ∧ a1 = 10 then some ⟨(Lib.itoa a0).toArray⟩ else none
theorem strconv_FormatInt.calls (a0 a1 : Int) (r : ByteArray) (w : World) (htab : texts.Tab w) (h : strconv_FormatInt.f a0 a1 = some r) : Calls Tryd.prog 108 #[.int .i64 a0, .int .i64 a1] w fun e w' => e = .returned (.string r) ∧ Below w.heap.size w w' := by
 unfold strconv_FormatInt.f at h
 by_cases hc : (-9223372036854775808 ≤ a0 ∧ a0 ≤ 9223372036854775807) ∧ a1 = 10
 ·rw [if_pos hc] at h
  obtain ⟨⟨h0, h1⟩, rfl⟩ := hc
  obtain rfl := Option.some.inj h
  refine (Tryd.strconv_FormatInt_10 a0 h0 h1 w htab.pow10).mono ?_
  rintro e w' ⟨he, k, os, rfl⟩
  exact ⟨he, rfl, rfl, rfl, by show w.heap.size ≤ (w.heap ++ os).size; rw [Array.size_append]; omega, fun j hj => by show (w.heap ++ os)[j]? = w.heap[j]?; exact Array.getElem?_append_left hj⟩
 ·rw [if_neg hc] at h; cases h
/-! ### impl_text: function 97 -/
def impl_text.f (a0 : Int) : Option (ByteArray) := (strconv_FormatInt.f a0 10).bind fun t181 => (some t181)
set_option maxHeartbeats 8000000 in
set_option maxRecDepth 100000 in
theorem impl_text.calls (a0 : Int) (r : ByteArray) (w : World) (htab : texts.Tab w) (h : impl_text.f a0 = some r) :
  Calls Tryd.prog 97 #[.int .i64 a0] w fun e w' => e = .returned (.string r) ∧ Below w.heap.size w w' := by
 have HTAB := Aside0.mk htab
 clear htab
 have HB := asd (Below.refl w.heap.size w)
 have H : ((strconv_FormatInt.f a0 10).bind fun t181 => (some t181)) = some r := h
 clear h
 obtain ⟨t181, A2, H⟩ := ob H
 try dsimp only at H
 obtain rfl := Option.some.inj H
 go_enter Tryd.func97, Tryd.ntmps97
 go_wp2_with (first | ((with_reducible refine gate_callee (f := 108) rfl ?_); refine gl 4 Tryd.func108 #[.int .i64 a0, .int .i64 10] ?_; (with_reducible refine (strconv_FormatInt.calls _ _ _ _ (texts.tabB HTAB.out (by repeat (first | (with_reducible first | exact HB.out | exact Below.refl _ _ | apply below_alloc | apply pw_below_drewN | apply below_drew1) | exact HB.out))) A2.out).mono ?_); rintro e w3 ⟨rfl, hb⟩; refine ⟨_, rfl, ?_⟩; replace HB := bS0 HB hb; (try clear hb)))
 go_ret
 exact er (bbw0 HB)
/-! ### impl_number: function 77 -/
/-- The number with a text, and whether there is one. -/
def impl_number.f (a0 : ByteArray) : Option (Int × Bool) := if a0.size ≤ 281474976710656 then (match Lib.parseIntB 64 a0.data.toList with
 | .ok v => some (v, (⟨(Lib.itoa v).toArray⟩ : ByteArray).toList == a0.toList)
 | .range => some (Lib.intSat 64 a0.data.toList, false)
 | Lib.NumEnd.syntax => some (0, false)) else none
theorem impl_number.rng {l : List UInt8} {v : Int} (h : Lib.parseIntB 64 l = .ok v) : -9223372036854775808 ≤ v ∧ v ≤ 9223372036854775807 := by
 cases l with
 | nil => cases h
 | cons c r =>
  simp only [Lib.parseIntB] at h
  generalize Lib.parseUintB 64 (if c.toNat = 43 ∨ c.toNat = 45 then r else c :: r) = q at h
  cases q with
  | ok u =>
   simp only at h
   by_cases c1 : ¬ c.toNat = 45 ∧ 2 ^ (64 - 1) ≤ u
   ·rw [if_pos c1] at h; cases h
   ·rw [if_neg c1] at h
    by_cases c2 : c.toNat = 45 ∧ 2 ^ (64 - 1) < u
    ·rw [if_pos c2] at h; cases h
    ·rw [if_neg c2] at h
     injection h with h
     subst h
     by_cases c3 : c.toNat = 45
     ·rw [if_pos c3]; omega
     ·rw [if_neg c3]; omega
  | _ => cases h
set_option maxHeartbeats 8000000 in
set_option maxRecDepth 100000 in
theorem impl_number.calls (a0 : ByteArray) (r1 : Int) (r2 : Bool) (w : World) (htab : texts.Tab w) (h : impl_number.f a0 = some (r1, r2)) : Calls Tryd.prog 77 #[.string a0] w fun e w' => e = .returned (.tuple #[.int .i64 r1, .bool r2]) ∧ Below w.heap.size w w' := by
 unfold impl_number.f at h
 by_cases hc : a0.size ≤ 281474976710656
 ·rw [if_pos hc] at h
  cases hp : Lib.parseIntB 64 a0.data.toList with
  | ok v =>
   rw [hp] at h
   injection h with h; injection h with h1 h2
   subst h1 h2
   obtain ⟨q0, q1⟩ := impl_number.rng hp
   have ht : impl_text.f v = some ⟨(Lib.itoa v).toArray⟩ := by
    unfold impl_text.f strconv_FormatInt.f
    rw [if_pos ⟨⟨q0, q1⟩, rfl⟩]; rfl
   have hcall := Tryd.strconv_ParseInt_10_at64_ok a0 (by omega) v hp w
   have htext := fun (w1 : World) (hb : Below w.heap.size w w1) => impl_text.calls v _ w1 (texts.tabB htab hb) ht
   go_enter Tryd.func77, Tryd.ntmps77
   go_wp2_with (first | ((with_reducible refine gate_callee (f := 96) rfl ?_); refine goesL_ (some 8) rfl rfl Tryd.func96 (by kernel_rfl) rfl #[.string a0, .int .i64 10, .int .i64 64] rfl (by (try simp only [List.map_toArray, List.map_cons, List.map_nil]); first | done | rfl) ?_; refine hcall.mono ?_; rintro e w1 ⟨rfl, hw⟩; have hb1 : Below w.heap.size w w1 := (by rcases hw with rfl | ⟨t, rfl⟩; exact Below.refl _ _; exact Go.Joins.below_bytesWorld _ _ _ _ (Nat.le_refl _)); clear hw; refine ⟨_, rfl, ?_⟩) | (go_at_call 97; refine (htext _ (by repeat (first | exact hb1 | apply pw_below_drewN | apply below_drew1))).mono ?_; rintro e w2 ⟨rfl, hb⟩; have hb2 := Below.trans hb1 (Below.mono hb hb1.size)))
   go_ret2
   exact ⟨by first | rfl | (simp; done), by repeat (first | exact hb2 | apply pw_below_drewN | apply below_drew1)⟩
  | range =>
   rw [hp] at h
   injection h with h; injection h with h1 h2
   subst h1 h2
   obtain ⟨ev, hv, hev⟩ := htab.errrange
   have hcall := Tryd.strconv_ParseInt_10_at64_range a0 hc hp ev w hv hev
   go_enter Tryd.func77, Tryd.ntmps77
   go_wp2_with (first | ((with_reducible refine gate_callee (f := 96) rfl ?_); refine goesL_ (some 8) rfl rfl Tryd.func96 (by kernel_rfl) rfl #[.string a0, .int .i64 10, .int .i64 64] rfl (by (try simp only [List.map_toArray, List.map_cons, List.map_nil]); first | done | rfl) ?_; refine hcall.mono ?_; rintro e w1 ⟨N, rfl, hN, hcell, hb1⟩; refine ⟨_, rfl, ?_⟩))
   go_ret2
   exact ⟨by first | rfl | (simp; done), by repeat (first | exact hb1 | apply pw_below_drewN | apply below_drew1)⟩
  | _ =>
   rw [hp] at h
   injection h with h; injection h with h1 h2
   subst h1 h2
   obtain ⟨ev, hv, hev⟩ := htab.errsyntax
   have hcall := Tryd.strconv_ParseInt_10_at64_syntax a0 hc hp ev w hv hev
   go_enter Tryd.func77, Tryd.ntmps77
   go_wp2_with (first | ((with_reducible refine gate_callee (f := 96) rfl ?_); refine goesL_ (some 8) rfl rfl Tryd.func96 (by kernel_rfl) rfl #[.string a0, .int .i64 10, .int .i64 64] rfl (by (try simp only [List.map_toArray, List.map_cons, List.map_nil]); first | done | rfl) ?_; refine hcall.mono ?_; rintro e w1 ⟨N, rfl, hN, hcell, hb1⟩; refine ⟨_, rfl, ?_⟩))
   go_ret2
   exact ⟨by first | rfl | (simp; done), by repeat (first | exact hb1 | apply pw_below_drewN | apply below_drew1)⟩
 ·rw [if_neg hc] at h; cases h
/-! ### impl_parted: function 55 -/
def impl_parted.l0 : Nat → List Int → List ByteArray → Int → Int → Option (List Int × Bool)
 | 0, _, _, _, _ => none
 | k + 1, x9, x22, x23, x24 => if x24 < x23 then (if 0 ≤ x24 then (if x24 < (x22.length : Int) then ((impl_number.f (rdOf ByteArray.empty x22 x24)).bind fun bt189 => (if bt189.2 = true then (if x9.length < 17592186044416 then (impl_parted.l0 k (x9 ++ [bt189.1]) x22 x23 (wrap64 (x24 + 1))) else (none)) else (some (([] : List Int), false)))) else (none)) else (none)) else (some (x9, true))
def impl_parted.f (k : Nat) (a0 : ByteArray) (a1 : ByteArray) (a2 : Int) : Option (List Int × Bool) := (strings_Split.f a0 a1).bind fun t182 => (if (t182.length : Int) = a2 then (impl_parted.l0 k (([] : List Int)) t182 (t182.length : Int) 0) else (some (([] : List Int), false)))
set_option maxHeartbeats 8000000 in
set_option maxRecDepth 100000 in
theorem impl_parted.calls (k : Nat) (a0 : ByteArray) (a1 : ByteArray) (a2 : Int) (r1 : List Int) (r2 : Bool) (w : World) (htab : texts.Tab w) (h : impl_parted.f k a0 a1 a2 = some (r1, r2)) :
  Calls Tryd.prog 55 #[.string a0, .string a1, .int .i64 a2] w fun e w' => ∃ v0_ : Value, e = .returned (.tuple #[v0_, .bool r2]) ∧ Kd.R (Kd.int .i64) 2 w' w.heap.size (fun _ => True) v0_ r1 ∧ Below w.heap.size w w' := by
 have HTAB := Aside0.mk htab
 clear htab
 have HB := asd (Below.refl w.heap.size w)
 have H : ((strings_Split.f a0 a1).bind fun t182 => (if (t182.length : Int) = a2 then (impl_parted.l0 k (([] : List Int)) t182 (t182.length : Int) 0) else (some (([] : List Int), false)))) = some (r1, r2) := h
 clear h
 obtain ⟨t182, A4, H⟩ := ob H
 try dsimp only at H
 by_cases c5 : (t182.length : Int) = a2
 rw [if_pos c5] at H
 have c5b0 : ((t182.length : Int) == a2) = true := beq_iff_eq.mpr c5
 have c5b1 : ((t182.length : Int) != a2) = false := bne_eq_false_iff_eq.mpr c5
 clear c5
 obtain ⟨y185, hy185⟩ : ∃ y_ : List Int, y_ = (([] : List Int)) := ⟨_, rfl⟩
 replace H : (impl_parted.l0 k y185 t182 (t182.length : Int) 0) = some (r1, r2) := by first | (rw [hy185]; with_reducible exact H) | (have H2_ := (Option.bind_some _ _).symm.trans H; rw [hy185]; with_reducible exact H2_) | (have H2_ := (Option.bind_some _ _).symm.trans H; with_reducible exact H2_) | with_reducible exact H | (rw [hy185]; exact H) | exact H
 have Ny185 := Aside0.mk hy185
 clear hy185
 have H' := Aside0.mk H
 clear H
 rotate_left
 rw [if_neg c5] at H
 have c5b0 : ((t182.length : Int) == a2) = false := beq_eq_false_iff_ne.mpr c5
 have c5b1 : ((t182.length : Int) != a2) = true := bne_iff_ne.mpr c5
 rotate_left
 rotate_left
 simp only [Option.some.injEq, Prod.mk.injEq] at H
 obtain ⟨rfl, rfl⟩ := H
 rotate_left
 all_goals
  go_enter Tryd.func55, Tryd.ntmps55
  go_wp2_with (first | ((with_reducible refine gate_callee (f := 38) rfl ?_); refine gl 16 Tryd.func38 #[.string a0, .string a1] ?_; (with_reducible refine (strings_Split.calls _ _ _ _ (texts.tabB HTAB.out (by repeat (first | (with_reducible first | exact HB.out | exact Below.refl _ _ | apply below_alloc | apply pw_below_drewN | apply below_drew1) | exact HB.out))) A4.out).mono ?_); rintro e w6 ⟨v183, rfl, ho0, hb⟩; refine ⟨_, rfl, ?_⟩; have HO184 := asd (Kd.R_lower ho0 (bsz0 HB)); replace HB := bS0 HB hb; (try clear hb); (try clear hb2); (try clear hk); (try clear hi); (try clear ho0); obtain ⟨Ao7, co7, eo7⟩ := Kd.R_slice HO184.out; subst eo7) | ((with_reducible refine gd 21 rfl ?_); refine Kd.R_lit (Kd.int .i64) _ 2 ?hg (N := 21) ?hd (xs := ([] : List Int)) (inner := []) (ok := fun _ => True) (okp := fun _ => True) ?hr ?hp (fun _ hk => hk) trivial (Below.refl _ _) (Nat.le_refl _) (by simp) ?_; (case hd => rfl); (case hg => rfl); (case hr => first | (go_simp; done) | (go_simp; rfl)); (case hp => exact (Reps.none _ _)); intro v186 w8 ho9 hb hg_ hnew_; clear hg_ hnew_; (first | rw [← Ny185.out] at ho9 | (simp only [Int.reduceToNat] at ho9; rw [← Ny185.out] at ho9)); replace HO184 := asd (Kd.R_below (kr HO184) hb); have HO187 := asd (Kd.R_lower ho9 (bsz0 HB)); replace HB := bS0 HB hb; clear hb ho9))
 ·go_loopg [9, 24] k (fun kq v9 v24 w' => ∃ (x9_1 : List Int) (x24_1 : Int), v24 = .int .i64 x24_1 ∧ Aside0 (impl_parted.l0 kq x9_1 t182 (t182.length : Int) x24_1 = some (r1, r2)) ∧ Aside0 (kq ≤ k) ∧ Aside0 (Kd.R (Kd.int .i64) 2 w' w.heap.size (fun _ => True) v9 x9_1) ∧ Aside0 (Kd.R Kd.string 9 w' w.heap.size (fun _ => True) (.slice Ao7 t182.length co7) t182) ∧ Aside0 (Below w.heap.size w w'))
  case atStart => exact ⟨(y185), (0), (by first | rfl | (simp; done) | (simp [*]; done)), H', ⟨Nat.le_refl _⟩, ⟨by (with_reducible repeat (first | apply Kd.R_alloc | apply Kd.R_drewN | apply Kd.R_drew)); exact HO187.out⟩, ⟨by (with_reducible repeat (first | apply Kd.R_alloc | apply Kd.R_drewN | apply Kd.R_drew)); exact HO184.out⟩, ⟨bbw0 HB⟩⟩
  case round =>
   clear H'
   try clear p2
   try clear c3
   try clear c5
   try clear c5b0
   try clear c5b1
   obtain ⟨x9_1, x24_1, rfl, HA, HK1, HO_9, HO_22, HB⟩ := hrel
   cases gk with
   | zero => exact absurd HA.out (by simp [impl_parted.l0])
   | succ k1 =>
    have H := HA.out
    clear HA
    simp only [impl_parted.l0] at H
    by_cases c10 : x24_1 < (t182.length : Int)
    rw [if_pos c10] at H
    have c10b0 := decide_eq_true c10
    clear c10
    by_cases c11 : 0 ≤ x24_1
    rw [if_pos c11] at H
    have c11b0 := decide_eq_true c11
    clear c11
    by_cases c12 : x24_1 < (t182.length : Int)
    rw [if_pos c12] at H
    have c12b0 := decide_eq_true c12
    clear c12
    obtain ⟨⟨t189, t190⟩, A13, H⟩ := ob H
    try dsimp only at H
    by_cases c14 : t190 = true
    subst c14
    replace H := ifT H
    by_cases c15 : x9_1.length < 17592186044416
    rw [if_pos c15] at H
    have LMc15 := Aside0.mk c15
    clear c15
    obtain ⟨y191, hy191⟩ : ∃ y_ : List Int, y_ = (x9_1 ++ [t189]) := ⟨_, rfl⟩
    replace H : (impl_parted.l0 k1 y191 t182 (t182.length : Int) (wrap64 (x24_1 + 1))) = some (r1, r2) := by first | (rw [hy191]; with_reducible exact H) | (have H2_ := (Option.bind_some _ _).symm.trans H; rw [hy191]; with_reducible exact H2_) | (have H2_ := (Option.bind_some _ _).symm.trans H; with_reducible exact H2_) | with_reducible exact H | (rw [hy191]; exact H) | exact H
    have Ny191 := Aside0.mk hy191
    clear hy191
    have H' := Aside0.mk H
    clear H
    rotate_left
    ·rw [if_neg c15] at H
     exact absurd H (by simp)
    replace c14 := Bool.eq_false_iff.mpr c14
    subst c14
    replace H := ifF H
    rotate_left
    ·rw [if_neg c12] at H
     exact absurd H (by simp)
    ·rw [if_neg c11] at H
     exact absurd H (by simp)
    rw [if_neg c10] at H
    have c10b0 := decide_eq_false c10
    clear c10
    rotate_left
    rotate_left
    simp only [Option.some.injEq, Prod.mk.injEq] at H
    obtain ⟨rfl, rfl⟩ := H
    rotate_left
    ·simp only [Option.some.injEq, Prod.mk.injEq] at H
     obtain ⟨rfl, rfl⟩ := H
     go_wp2
     go_ret2
     exact ⟨_, by first | rfl | (simp [errW_none, errW_some] <;> rfl) | (simp [*, errW_none, errW_some] <;> rfl), by (with_reducible repeat (first | apply Kd.R_alloc | apply Kd.R_drewN | apply Kd.R_drew)); exact HO_9.out, bbw0 HB⟩
    all_goals
     have p188 : 0 ≤ (x24_1 : Int) := od
     have q188 : x24_1 < (t182.length : Int) := od
     obtain ⟨ad188, e188, hx188_0⟩ := Kd.at_string (Kd.R_reads' HO_22.out).2.2 x24_1 p188 q188
     cases e188
     replace p188 := eq_true p188
     replace q188 := eq_true q188
     go_wp2_with (first | ((with_reducible refine gate_callee (f := 77) rfl ?_); refine gl 30 Tryd.func77 #[.string (rdOf ByteArray.empty t182 x24_1)] ?_; (with_reducible refine (impl_number.calls _ _ _ _ (texts.tabB HTAB.out (by repeat (first | (with_reducible first | exact HB.out | exact Below.refl _ _ | apply below_alloc | apply pw_below_drewN | apply below_drew1) | exact HB.out))) A13.out).mono ?_); rintro e w16 ⟨rfl, hb⟩; refine ⟨_, rfl, ?_⟩; replace HO_9 := asd (Kd.R_below (kr HO_9) hb); replace HO_22 := asd (Kd.R_below (kr HO_22) hb); replace HB := bS0 HB hb; (try clear hb)) | ((with_reducible refine gate_builtin (b := .append) (xs := #[.tmp 35, .tmp 37]) rfl ?_); at_builtin; refine Kd.R_append (Kd.int .i64) (w0 := w) w.heap.size rfl (.tmp 35) (.tmp 37) 22 2 (.int .i64 0) 8 rfl Tryd.underlying22 info2 rfl (by decide) (by omega) u9 x9_1 t189 [.int .i64 t189] (fun _ => True) (fun _ => False) rfl rfl ?aP (fun _ hk => hk.elim) ?aF ?aO ?aB ?aS ?aL ?_; (case aP => exact rfl); (case aB => exact (bbw0 HB)); (case aF => exact (fun _ _ => trivial)); (case aO => exact (kr HO_9)); (case aS => exact (bsz0 HB)); (case aL => have := LMc15.out; omega); intro v192 w17 ho hb hg hat; rw [← Ny191.out] at ho; have n0_ := asd (Kd.R_over' (kr HO_22) (Kd.R_typed (kr HO_9)) (by decide) hg); have n1_ := asd (hb); have n2_ := asd (ho); clear HO_22; clear HB; clear HO_9; have HO_22 := n0_; have HB := n1_; have HO193 := n2_; clear n0_ n1_ n2_; clear ho hb hg hat))
    ·go_roundg k1
     case measure => have := HK1.out; omega
     case rel => exact ⟨(y191), (wrap64 (x24_1 + 1)), (by first | rfl | (simp; done) | (simp [*]; done)), H', ⟨by have := HK1.out; omega⟩, ⟨by (with_reducible repeat (first | apply Kd.R_alloc | apply Kd.R_drewN | apply Kd.R_drew)); exact HO193.out⟩, ⟨by (with_reducible repeat (first | apply Kd.R_alloc | apply Kd.R_drewN | apply Kd.R_drew)); exact HO_22.out⟩, ⟨bbw0 HB⟩⟩
    ·go_ret2
     exact ⟨_, by first | rfl | (simp [errW_none, errW_some] <;> rfl) | (simp [*, errW_none, errW_some] <;> rfl), by first | exact Kd.R_nil _ _ _ _ _ | exact Kd.N_nil _ _ _ _ _ | exact Kd.V_nil _ _ _ _ _ | exact Kd.Q_nil _ _ _ _ _ | exact Kd.S_nil _ _ _ _ _, bbw0 HB⟩
 ·go_ret2
  exact ⟨_, by first | rfl | (simp [errW_none, errW_some] <;> rfl) | (simp [*, errW_none, errW_some] <;> rfl), by first | exact Kd.R_nil _ _ _ _ _ | exact Kd.N_nil _ _ _ _ _ | exact Kd.V_nil _ _ _ _ _ | exact Kd.Q_nil _ _ _ _ _ | exact Kd.S_nil _ _ _ _ _, bbw0 HB⟩
/-! ### impl_within: function 48 -/
def impl_within.f (a0 : Int) (a1 : Int) (a2 : Int) : Option (Bool) := if a0 ≥ a1 then (some (decide (a0 ≤ a2))) else (some false)
set_option maxHeartbeats 8000000 in
set_option maxRecDepth 100000 in
theorem impl_within.calls (a0 : Int) (a1 : Int) (a2 : Int) (r : Bool) (w : World) (h : impl_within.f a0 a1 a2 = some r) :
  Calls Tryd.prog 48 #[.int .i64 a0, .int .i64 a1, .int .i64 a2] w fun e w' => e = .returned (.bool r) ∧ Drawn0 w w' := by
 have H : (if a0 ≥ a1 then (some (decide (a0 ≤ a2))) else (some false)) = some r := h
 clear h
 by_cases c4 : a0 ≥ a1
 ·rw [if_pos c4] at H
  have c4b0 : decide (a1 ≤ a0) = true := decide_eq_true c4
  clear c4
  obtain rfl := Option.some.inj H
  go_enter Tryd.func48, Tryd.ntmps48
  go_wp2
  go_ret
  exact ⟨by first | rfl | (simp; done) | (simp [*]; done), by repeat (first | exact Drawn0.refl _ | apply Drawn0.step)⟩
 ·rw [if_neg c4] at H
  have c4b0 : decide (a1 ≤ a0) = false := decide_eq_false c4
  clear c4
  obtain rfl := Option.some.inj H
  go_enter Tryd.func48, Tryd.ntmps48
  go_wp2
  go_ret
  exact ⟨by first | rfl | (simp; done) | (simp [*]; done), by repeat (first | exact Drawn0.refl _ | apply Drawn0.step)⟩
/-! ### impl_Lattice_index: function 66 -/
def impl_Lattice_index.f (a0_0 : Int) (a0_1 : Int) (a0_2 : Int) : Option (Int) := some (wrap64 (a0_0 * a0_2))
set_option maxHeartbeats 8000000 in
set_option maxRecDepth 100000 in
theorem impl_Lattice_index.calls (a0_0 : Int) (a0_1 : Int) (a0_2 : Int) (r : Int) (w : World) (h : impl_Lattice_index.f a0_0 a0_1 a0_2 = some r) :
  Calls Tryd.prog 66 #[.agg #[.int .i64 a0_0, .int .i64 a0_1, .int .i64 a0_2]] w fun e w' => e = .returned (.int .i64 r) ∧ Below w.heap.size w w' := by
 have hu40 := Tryd.underlying40
 have HB := asd (Below.refl w.heap.size w)
 have H : (some (wrap64 (a0_0 * a0_2))) = some r := h
 clear h
 obtain rfl := Option.some.inj H
 go_enter Tryd.func66, Tryd.ntmps66
 go_wp2_with (first | ((with_reducible refine gd 1 rfl ?_); refine bx #[.int .i64 a0_0, .int .i64 a0_1, .int .i64 a0_2] 40 ?_; intro gb194 hg w2 BK194 hb; have GE194 := ngw0 hg HB; replace HB := bS0 HB hb; clear hb hg; obtain ⟨hcz3_0, hcz3_1, hcz3_2, hfz3_0, hfz3_1, hfz3_2⟩ := bz3 BK194))
 go_ret
 exact er (bbw1 HB GE194)
/-! ### impl_IsLattice: function 63 -/
def impl_IsLattice.f (a0_0 : Int) (a0_1 : Int) (a0_2 : Int) : Option (Bool) := (impl_within.f a0_0 1 64).bind fun t196 => (if t196 = true then ((impl_within.f a0_2 1 64).bind fun t197 => (if t197 = true then ((impl_within.f a0_1 0 (wrap64 (a0_0 - 1))).bind fun t198 => (if t198 = true then ((impl_Lattice_index.f a0_0 a0_1 a0_2).bind fun t199 => (some (decide (t199 ≤ 64)))) else (some false))) else (some false))) else (some false))
set_option maxHeartbeats 8000000 in
set_option maxRecDepth 100000 in
theorem impl_IsLattice.calls (a0_0 : Int) (a0_1 : Int) (a0_2 : Int) (r : Bool) (w : World) (h : impl_IsLattice.f a0_0 a0_1 a0_2 = some r) :
  Calls Tryd.prog 63 #[.agg #[.int .i64 a0_0, .int .i64 a0_1, .int .i64 a0_2]] w fun e w' => e = .returned (.bool r) ∧ Below w.heap.size w w' := by
 have hu40 := Tryd.underlying40
 have HB := asd (Below.refl w.heap.size w)
 have H : ((impl_within.f a0_0 1 64).bind fun t196 => (if t196 = true then ((impl_within.f a0_2 1 64).bind fun t197 => (if t197 = true then ((impl_within.f a0_1 0 (wrap64 (a0_0 - 1))).bind fun t198 => (if t198 = true then ((impl_Lattice_index.f a0_0 a0_1 a0_2).bind fun t199 => (some (decide (t199 ≤ 64)))) else (some false))) else (some false))) else (some false))) = some r := h
 clear h
 obtain ⟨t196, A2, H⟩ := ob H
 try dsimp only at H
 by_cases c3 : t196 = true
 subst c3
 replace H := ifT H
 obtain ⟨t197, A4, H⟩ := ob H
 try dsimp only at H
 by_cases c5 : t197 = true
 subst c5
 replace H := ifT H
 obtain ⟨t198, A6, H⟩ := ob H
 try dsimp only at H
 by_cases c7 : t198 = true
 subst c7
 replace H := ifT H
 obtain ⟨t199, A8, H⟩ := ob H
 try dsimp only at H
 obtain rfl := Option.some.inj H
 rotate_left
 replace c7 := Bool.eq_false_iff.mpr c7
 subst c7
 replace H := ifF H
 obtain rfl := Option.some.inj H
 rotate_left
 replace c5 := Bool.eq_false_iff.mpr c5
 subst c5
 replace H := ifF H
 obtain rfl := Option.some.inj H
 rotate_left
 replace c3 := Bool.eq_false_iff.mpr c3
 subst c3
 replace H := ifF H
 obtain rfl := Option.some.inj H
 rotate_left
 all_goals
  go_enter Tryd.func63, Tryd.ntmps63
  go_wp2_with (first | ((with_reducible refine gd 1 rfl ?_); refine bx #[.int .i64 a0_0, .int .i64 a0_1, .int .i64 a0_2] 40 ?_; intro gb195 hg w9 BK195 hb; have GE195 := ngw0 hg HB; replace HB := bS0 HB hb; clear hb hg; obtain ⟨hcz10_0, hcz10_1, hcz10_2, hfz10_0, hfz10_1, hfz10_2⟩ := bz3 BK195) | ((with_reducible refine gate_callee (f := 48) rfl ?_); refine gl 5 Tryd.func48 #[.int .i64 a0_0, .int .i64 1, .int .i64 64] ?_; (with_reducible refine (impl_within.calls _ _ _ _ _ A2.out).mono ?_); rintro e w' ⟨rfl, ⟨nd, rfl⟩⟩; refine ⟨_, rfl, ?_⟩) | (go_at_call 48; (with_reducible refine (impl_within.calls _ _ _ _ _ A4.out).mono ?_); rintro e w' ⟨rfl, ⟨nd, rfl⟩⟩) | (go_at_call 48; (with_reducible refine (impl_within.calls _ _ _ _ _ A6.out).mono ?_); rintro e w' ⟨rfl, ⟨nd, rfl⟩⟩) | (go_at_call 66; (with_reducible refine (impl_Lattice_index.calls _ _ _ _ _ A8.out).mono ?_); rintro e w11 ⟨rfl, hb⟩; replace BK195 := bB BK195 hb; replace HB := bS1 HB GE195 hb; (try clear hb)))
  go_ret
  exact er (bbw1 HB GE195)
/-! ### impl_ReadLattice: function 39 -/
def impl_ReadLattice.f (k : Nat) (a0 : ByteArray) : Option (Int × Int × Int × Bool) := (impl_parted.f k a0 (⟨#[44]⟩ : ByteArray) 3).bind fun bt201 => (if bt201.2 = true then (if 0 < (bt201.1.length : Int) then (if 1 < (bt201.1.length : Int) then (if 2 < (bt201.1.length : Int) then ((impl_IsLattice.f (rd bt201.1 0) (rd bt201.1 1) (rd bt201.1 2)).bind fun t208 => (if t208 = true then (some (rd bt201.1 0, rd bt201.1 1, rd bt201.1 2, true)) else (some (0, 0, 0, false)))) else (none)) else (none)) else (none)) else (some (0, 0, 0, false)))
def impl_ReadLattice.T2 : Bool × List (List Nat × List Nat) := (true, [([], []), ([0], [0]), ([1], [1]), ([2], [2]), ([3, 2], [2, 3]), ([4, 2], [2, 4]), ([2], [2]), ([6, 2], [2, 6]), ([7, 2], [2, 7]), ([2], [2]), ([9, 2], [2, 9]), ([10, 2], [2, 10]), ([5, 8, 11, 2], [2, 5, 8, 11]), ([12, 2, 2], [2, 12]), ([13, 2], [2, 13]), ([2, 14], [2, 14])])
def impl_ReadLattice.B2 : List Nat := [0, 1, 3, 7, 15, 31, 7, 71, 199, 7, 519, 1543, 4095, 8191, 16383, 32767]
theorem impl_ReadLattice.tab2 : rtab .any (opsOf Tryd.f39 2) = impl_ReadLattice.T2 := by kernel_rfl
theorem impl_ReadLattice.bits2 : waitsOk impl_ReadLattice.T2.2 impl_ReadLattice.B2 = true := by kernel_rfl
def impl_ReadLattice.T4 : Bool × List (List Nat × List Nat) := (true, [([], []), ([0], [0]), ([1], [1]), ([], []), ([3], [3]), ([4], [4]), ([], []), ([6], [6]), ([7], [7]), ([2, 5, 8], [2, 5, 8]), ([9, 0, 1, 2, 3, 4, 5, 6, 7, 8, 9], [9]), ([10, 0, 1, 2, 3, 4, 5, 6, 7, 8, 9, 10], [])])
def impl_ReadLattice.B4 : List Nat := [0, 1, 3, 0, 8, 24, 0, 64, 192, 511, 1023, 2047]
theorem impl_ReadLattice.tab4 : rtab .any (opsOf Tryd.f39 4) = impl_ReadLattice.T4 := by kernel_rfl
theorem impl_ReadLattice.bits4 : waitsOk impl_ReadLattice.T4.2 impl_ReadLattice.B4 = true := by kernel_rfl
set_option maxHeartbeats 8000000 in
set_option maxRecDepth 100000 in
theorem impl_ReadLattice.calls (k : Nat) (a0 : ByteArray) (r1 : Int) (r2 : Int) (r3 : Int) (r4 : Bool) (w : World) (htab : texts.Tab w) (h : impl_ReadLattice.f k a0 = some (r1, r2, r3, r4)) :
  Calls Tryd.prog 39 #[.string a0] w fun e w' => e = .returned (.tuple #[.agg #[.int .i64 r1, .int .i64 r2, .int .i64 r3], .bool r4]) ∧ Below w.heap.size w w' := by
 have HTAB := Aside0.mk htab
 clear htab
 have hu40 := Tryd.underlying40
 have HB := asd (Below.refl w.heap.size w)
 have H : ((impl_parted.f k a0 (⟨#[44]⟩ : ByteArray) 3).bind fun bt201 => (if bt201.2 = true then (if 0 < (bt201.1.length : Int) then (if 1 < (bt201.1.length : Int) then (if 2 < (bt201.1.length : Int) then ((impl_IsLattice.f (rd bt201.1 0) (rd bt201.1 1) (rd bt201.1 2)).bind fun t208 => (if t208 = true then (some (rd bt201.1 0, rd bt201.1 1, rd bt201.1 2, true)) else (some (0, 0, 0, false)))) else (none)) else (none)) else (none)) else (some (0, 0, 0, false)))) = some (r1, r2, r3, r4) := h
 clear h
 obtain ⟨⟨t201, t202⟩, A2, H⟩ := ob H
 try dsimp only at H
 by_cases c3 : t202 = true
 subst c3
 replace H := ifT H
 by_cases c4 : 0 < (t201.length : Int)
 rw [if_pos c4] at H
 have c4b0 := decide_eq_true c4
 have c4b1 : decide (0 < t201.length) = true := decide_eq_true (by omega)
 clear c4
 by_cases c5 : 1 < (t201.length : Int)
 rw [if_pos c5] at H
 have c5b0 := decide_eq_true c5
 have c5b1 : decide (1 < t201.length) = true := decide_eq_true (by omega)
 clear c5
 by_cases c6 : 2 < (t201.length : Int)
 rw [if_pos c6] at H
 have c6b0 := decide_eq_true c6
 have c6b1 : decide (2 < t201.length) = true := decide_eq_true (by omega)
 clear c6
 obtain ⟨t208, A7, H⟩ := ob H
 try dsimp only at H
 by_cases c8 : t208 = true
 subst c8
 replace H := ifT H
 rotate_left
 replace c8 := Bool.eq_false_iff.mpr c8
 subst c8
 replace H := ifF H
 rotate_left
 ·rw [if_neg c6] at H
  exact absurd H (by simp)
 ·rw [if_neg c5] at H
  exact absurd H (by simp)
 ·rw [if_neg c4] at H
  exact absurd H (by simp)
 replace c3 := Bool.eq_false_iff.mpr c3
 subst c3
 replace H := ifF H
 rotate_left
 all_goals
  simp only [Option.some.injEq, Prod.mk.injEq] at H
  obtain ⟨rfl, rfl, rfl, rfl⟩ := H
  go_enter Tryd.func39, Tryd.ntmps39
  try go_wp2_with (first | ((with_reducible refine gd 2 rfl ?_); refine bx #[.int .i64 0, .int .i64 0, .int .i64 0] 40 ?_; intro gb200 hg w9 BK200 hb; have GE200 := ngw0 hg HB; replace HB := bS0 HB hb; clear hb hg) | ((with_reducible refine gate_callee (f := 55) rfl ?_); refine gl 8 Tryd.func55 #[.string a0, .string (⟨#[44]⟩ : ByteArray), .int .i64 3] ?_; (with_reducible refine (impl_parted.calls _ _ _ _ _ _ _ (texts.tabB HTAB.out (by repeat (first | (with_reducible first | exact HB.out | exact Below.refl _ _ | apply below_alloc | apply pw_below_drewN | apply below_drew1 | refine below_set ?_ GE200.out) | exact HB.out))) A2.out).mono ?_); rintro e w10 ⟨v203, rfl, ho0, hb⟩; refine ⟨_, rfl, ?_⟩; have HO204 := asd (Kd.R_lower ho0 (bsz1 HB GE200)); replace BK200 := bB BK200 hb; replace HB := bS1 HB GE200 hb; (try clear hb); (try clear hb2); (try clear hk); (try clear hi); (try clear ho0)))
  replace HO204 := asd (Kd.R_drew HO204.out)
  replace BK200 := asd (blk_drew BK200.out)
  replace HB := asd (below_drew1 HB.out)
 rotate_left 2
 ·refine start_ (n := 16) (S := fun w' => True) (ds := []) (bT 16 0) (by kernel_rfl) rfl rfl trivial (fun hHeld => ?_); refine with_tabW impl_ReadLattice.tab2 impl_ReadLattice.bits2 (fun HT_ HW_ => ?_)
  generalize w10.drew = w26 at HO204 BK200 HB hHeld ⊢
  refine pu 0 (some 11) (bT 16 1) HT_ ?_
  refine pu 1 (some 12) (bT 16 2) HT_ ?_
  refine pu 2 (some 13) (bT 16 3) HT_ ?_
  refine pf 3 (some 14) (bT 16 4) HT_ ?_
  refine pf 4 (some 15) (bT 16 5) HT_ ?_
  refine pf 5 (some 16) (bT 16 6) HT_ ?_
  refine pf 6 (some 17) (bT 16 7) HT_ ?_
  refine pf 7 (some 18) (bT 16 8) HT_ ?_
  refine pf 8 (some 19) (bT 16 9) HT_ ?_
  refine pf 9 (some 20) (bT 16 10) HT_ ?_
  refine pf 10 (some 21) (bT 16 11) HT_ ?_
  refine pf 11 (some 22) (bT 16 12) HT_ ?_
  refine pf 12 (some 23) (bT 16 13) HT_ ?_
  refine pf 13 (some 24) (bT 16 14) HT_ ?_
  refine pf 14 (some 25) (bT 16 15) HT_ ?_
  refine pu 15 (some 26) (bT 16 16) HT_ ?_
  refine done_ (done_of HT_.out (by kernel_rfl)) ?_
  obtain ⟨hcz27_0, hcz27_1, hcz27_2, hfz27_0, hfz27_1, hfz27_2⟩ := bz3 BK200
  try go_wp2
  refine bodyPost_ret (results_ct rfl _ _ gb200 40 #[.int .i64 0, .int .i64 0, .int .i64 0] (0, 0) _ rfl (bq0 BK200) Tryd.underlying40 rfl (by kernel_rfl)) rfl ?_
  exact er (bbw1 HB GE200)
 all_goals
  obtain ⟨Ao12, co12, eo12⟩ := Kd.R_slice HO204.out
  (first | subst eo12 | (injection eo12 with f1_ f2_ f3_; have f4_ := f1_.symm; have f5_ := f3_.symm; clear f1_ f2_ f3_; subst f4_; subst f5_))
  have p205 : 0 ≤ (0 : Int) := (by omega)
  have q205 : 0 < (t201.length : Int) := od
  obtain ⟨ad205, e205, hx205_0⟩ := Kd.at_int (Kd.R_reads' HO204.out).2.2 0 p205 q205
  cases e205
  have qi205 : (0 < t201.length) = True := eq_true (by omega)
  (try rw [show ((0 : Int)).toNat = 0 from rfl] at hx205_0)
  (try rw [Addr.add_zero'] at hx205_0)
  replace p205 := eq_true p205
  replace q205 := eq_true q205
  have p206 : 0 ≤ (1 : Int) := (by omega)
  have q206 : 1 < (t201.length : Int) := od
  obtain ⟨ad206, e206, hx206_0⟩ := Kd.at_int (Kd.R_reads' HO204.out).2.2 1 p206 q206
  obtain rfl : ad205 = ad206 := (by injection e206)
  (try simp only [show (1 : Int).toNat = 1 from rfl, Nat.reduceMul, Nat.reduceEqDiff, Go.Addr.add, ↓reduceIte] at hx206_0)
  have qi206 : (1 < t201.length) = True := eq_true (by omega)
  (try rw [show ((1 : Int)).toNat = 1 from rfl] at hx206_0)
  replace p206 := eq_true p206
  replace q206 := eq_true q206
  have p207 : 0 ≤ (2 : Int) := (by omega)
  have q207 : 2 < (t201.length : Int) := od
  obtain ⟨ad207, e207, hx207_0⟩ := Kd.at_int (Kd.R_reads' HO204.out).2.2 2 p207 q207
  obtain rfl : ad205 = ad207 := (by injection e207)
  (try simp only [show (2 : Int).toNat = 2 from rfl, Nat.reduceMul, Nat.reduceEqDiff, Go.Addr.add, ↓reduceIte] at hx207_0)
  have qi207 : (2 < t201.length) = True := eq_true (by omega)
  (try rw [show ((2 : Int)).toNat = 2 from rfl] at hx207_0)
  replace p207 := eq_true p207
  replace q207 := eq_true q207
  refine sh 16 (c1 hx205_0 (c1 hx206_0 (e1 hx207_0))) (fun hHeld => ?_); refine with_tabW impl_ReadLattice.tab2 impl_ReadLattice.bits2 (fun HT_ HW_ => ?_)
  generalize w10.drew = w11 at HO204 BK200 HB hx205_0 hx206_0 hx207_0 hHeld ⊢
  refine pu 0 (some 11) (bT 16 1) HT_ ?_
  refine pu 1 (some 12) (bT 16 2) HT_ ?_
  refine pu 2 (some 13) (bT 16 3) HT_ ?_
  refine pu 3 (some 14) (bT 16 4) HT_ ?_
  refine pu 4 (some 15) (bT 16 5) HT_ ?_
  refine pu 6 (some 17) (bs 16 95) HT_ ?_
  refine pu 7 (some 18) (bs 16 223) HT_ ?_
  refine pu 9 (some 20) (bs 16 735) HT_ ?_
  refine pu 10 (some 21) (bs 16 1759) HT_ ?_
  refine ta 5 (some 16) (bs 16 1791) HT_ HW_ hHeld ?_
  refine ta 8 (some 19) (bT 16 11) HT_ HW_ hHeld ?_
  refine ta 11 (some 22) (bT 16 12) HT_ HW_ hHeld ?_
  refine pu 12 (some 23) (bT 16 13) HT_ ?_
  refine ro 13 (some 24) (bT 16 14) HT_ (fun K hK => ?_)
  refine gs Tryd.func63 #[.agg #[.int .i64 (rd t201 0), .int .i64 (rd t201 1), .int .i64 (rd t201 2)]] ?_
  with_reducible refine (impl_IsLattice.calls _ _ _ _ _ A7.out).mono ?_
  rintro e w13 ⟨rfl, hb⟩
  have HS0_ := hbc hb (hHeld.1)
  have HS1_ := hbc hb (hHeld.2.1)
  have HS2_ := hbc hb (hHeld.2.2)
  refine ⟨_, rfl, ?_⟩
  replace HO204 := asd (Kd.R_below (kr HO204) hb)
  replace BK200 := bB BK200 hb
  replace HB := bS1 HB GE200 hb
  (try clear hb)
  (try clear hb2)
  (try clear hk)
  (try clear hi)
  refine hK.out _ _ ⟨HS0_, HS1_, HS2_⟩ (fun hHeld => ?_)
  clear hK K
  refine norm_ (a' := ?_) ?_ ?_
  rotate_left
  ·show Act.put _ (some 24) _ = _
   simp only [Act.put, sA, sB, sC, i64_w, i32_w]
   rfl
  refine pu 14 (some 25) (bT 16 15) HT_ ?_
  refine pu 15 (some 26) (bT 16 16) HT_ ?_
  refine done_ (done_of HT_.out (by kernel_rfl)) ?_
 ·try go_wp2
  replace HO204 := asd (Kd.R_drew HO204.out)
  replace BK200 := asd (blk_drew BK200.out)
  replace HB := asd (below_drew1 HB.out)
  have p209 : 0 ≤ (0 : Int) := (by omega)
  have q209 : 0 < (t201.length : Int) := od
  obtain ⟨ad209, e209, hx209_0⟩ := Kd.at_int (Kd.R_reads' HO204.out).2.2 0 p209 q209
  obtain rfl : ad205 = ad209 := (by injection e209)
  have qi209 : (0 < t201.length) = True := eq_true (by omega)
  (try rw [show ((0 : Int)).toNat = 0 from rfl] at hx209_0)
  (try rw [Addr.add_zero'] at hx209_0)
  replace p209 := eq_true p209
  replace q209 := eq_true q209
  have p210 : 0 ≤ (1 : Int) := (by omega)
  have q210 : 1 < (t201.length : Int) := od
  obtain ⟨ad210, e210, hx210_0⟩ := Kd.at_int (Kd.R_reads' HO204.out).2.2 1 p210 q210
  obtain rfl : ad205 = ad210 := (by injection e210)
  (try simp only [show (1 : Int).toNat = 1 from rfl, Nat.reduceMul, Nat.reduceEqDiff, Go.Addr.add, ↓reduceIte] at hx210_0)
  have qi210 : (1 < t201.length) = True := eq_true (by omega)
  (try rw [show ((1 : Int)).toNat = 1 from rfl] at hx210_0)
  replace p210 := eq_true p210
  replace q210 := eq_true q210
  have p211 : 0 ≤ (2 : Int) := (by omega)
  have q211 : 2 < (t201.length : Int) := od
  obtain ⟨ad211, e211, hx211_0⟩ := Kd.at_int (Kd.R_reads' HO204.out).2.2 2 p211 q211
  obtain rfl : ad205 = ad211 := (by injection e211)
  (try simp only [show (2 : Int).toNat = 2 from rfl, Nat.reduceMul, Nat.reduceEqDiff, Go.Addr.add, ↓reduceIte] at hx211_0)
  have qi211 : (2 < t201.length) = True := eq_true (by omega)
  (try rw [show ((2 : Int)).toNat = 2 from rfl] at hx211_0)
  replace p211 := eq_true p211
  replace q211 := eq_true q211
  refine sh 12 (c1 hx209_0 (c1 hx210_0 (e1 hx211_0))) (fun hHeld => ?_); refine with_tabW impl_ReadLattice.tab4 impl_ReadLattice.bits4 (fun HT_ HW_ => ?_)
  generalize w13.drew = w14 at HO204 BK200 HB hx209_0 hx210_0 hx211_0 hHeld ⊢
  refine pu 0 (some 28) (bT 12 1) HT_ ?_
  refine pu 1 (some 29) (bT 12 2) HT_ ?_
  refine pu 3 (some 31) (bs 12 11) HT_ ?_
  refine pu 4 (some 32) (bs 12 27) HT_ ?_
  refine pu 6 (some 34) (bs 12 91) HT_ ?_
  refine pu 7 (some 35) (bs 12 219) HT_ ?_
  refine ta 2 (some 30) (bs 12 223) HT_ HW_ hHeld ?_
  refine ta 5 (some 33) (bT 12 8) HT_ HW_ hHeld ?_
  refine ta 8 (some 36) (bT 12 9) HT_ HW_ hHeld ?_
  refine pu 9 (some 37) (bT 12 10) HT_ ?_
  refine ro 10 (none) (bT 12 11) HT_ (fun K hK => ?_)
  have hs15 : w14.cell? ⟨gb200, 0, none⟩ = some (.int .i64 0) := bcl BK200 0
  have hfs15 := blk_frozen BK200.out 0
  have hs16 : w14.cell? ⟨gb200, 1, none⟩ = some (.int .i64 0) := bcl BK200 1
  have hfs16 := blk_frozen BK200.out 1
  have hs17 : w14.cell? ⟨gb200, 2, none⟩ = some (.int .i64 0) := bcl BK200 2
  have hfs17 := blk_frozen BK200.out 2
  refine skip_ (w1 := ?_) (by rfl) rfl ?_ ?_
  rotate_left
  ·go_simp
   rfl
  refine hK.out _ _ ⟨(fx3 (Kd.own_blk (Kd.R_ne HO204.out BK200.out (by decide))) (hHeld.1)), (fx3 (Kd.own_blk (Kd.R_ne HO204.out BK200.out (by decide))) (hHeld.2.1)), (fx3 (Kd.own_blk (Kd.R_ne HO204.out BK200.out (by decide))) (hHeld.2.2))⟩ (fun hHeld => ?_)
  clear hK K
  refine pu 11 (some 3) (bT 12 12) HT_ ?_
  refine done_ (done_of HT_.out (by kernel_rfl)) ?_
  try go_wp2
  refine bodyPost_ret (results_ct rfl _ _ gb200 40 #[.int .i64 (rd t201 0), .int .i64 (rd t201 1), .int .i64 (rd t201 2)] (0, 0) _ rfl (bq0 BK200) Tryd.underlying40 rfl (by kernel_rfl)) rfl ?_
  exact er (bbw1 HB GE200)
 ·obtain ⟨hcz23_0, hcz23_1, hcz23_2, hfz23_0, hfz23_1, hfz23_2⟩ := bz3 BK200
  try go_wp2
  refine bodyPost_ret (results_ct rfl _ _ gb200 40 #[.int .i64 0, .int .i64 0, .int .i64 0] (0, 0) _ rfl (bq0 BK200) Tryd.underlying40 rfl (by kernel_rfl)) rfl ?_
  exact er (bbw1 HB GE200)
/-! ### impl_readDigits: function 40 -/
def impl_readDigits.l0 : Nat → ByteArray → List Int → Int → Int → Option (List Int × Bool)
 | 0, _, _, _, _ => none
 | k + 1, x0, x4, x8, x9 => if x9 < x8 then (if 0 ≤ x9 then (if x9 < (x0.size : Int) then (if (bt x0 x9) < 48 then (some (([] : List Int), false)) else (if (bt x0 x9) > 57 then (some (([] : List Int), false)) else (if x4.length < 17592186044416 then (impl_readDigits.l0 k x0 (x4 ++ [((bt x0 x9) - 48) % 256]) x8 (wrap64 (x9 + 1))) else (none)))) else (none)) else (none)) else (some (x4, true))
def impl_readDigits.f (k : Nat) (a0 : ByteArray) : Option (List Int × Bool) := impl_readDigits.l0 k a0 (([] : List Int)) (a0.size : Int) 0
set_option maxHeartbeats 8000000 in
set_option maxRecDepth 100000 in
theorem impl_readDigits.calls (k : Nat) (a0 : ByteArray) (r1 : List Int) (r2 : Bool) (w : World) (h : impl_readDigits.f k a0 = some (r1, r2)) :
  Calls Tryd.prog 40 #[.string a0] w fun e w' => ∃ v0_ : Value, e = .returned (.tuple #[v0_, .bool r2]) ∧ Kd.R (Kd.int .i64) 2 w' w.heap.size (fun _ => True) v0_ r1 ∧ Below w.heap.size w w' := by
 have HB := asd (Below.refl w.heap.size w)
 have H : (impl_readDigits.l0 k a0 (([] : List Int)) (a0.size : Int) 0) = some (r1, r2) := h
 clear h
 obtain ⟨y212, hy212⟩ : ∃ y_ : List Int, y_ = (([] : List Int)) := ⟨_, rfl⟩
 replace H : (impl_readDigits.l0 k a0 y212 (a0.size : Int) 0) = some (r1, r2) := by first | (rw [hy212]; with_reducible exact H) | (have H2_ := (Option.bind_some _ _).symm.trans H; rw [hy212]; with_reducible exact H2_) | (have H2_ := (Option.bind_some _ _).symm.trans H; with_reducible exact H2_) | with_reducible exact H | (rw [hy212]; exact H) | exact H
 have Ny212 := Aside0.mk hy212
 clear hy212
 have H' := Aside0.mk H
 clear H
 go_enter Tryd.func40, Tryd.ntmps40
 go_wp2_with (first | ((with_reducible refine gd 6 rfl ?_); refine Kd.R_lit (Kd.int .i64) _ 2 ?hg (N := 6) ?hd (xs := ([] : List Int)) (inner := []) (ok := fun _ => True) (okp := fun _ => True) ?hr ?hp (fun _ hk => hk) trivial (Below.refl _ _) (Nat.le_refl _) (by simp) ?_; (case hd => rfl); (case hg => rfl); (case hr => first | (go_simp; done) | (go_simp; rfl)); (case hp => exact (Reps.none _ _)); intro v213 w2 ho3 hb hg_ hnew_; clear hg_ hnew_; (first | rw [← Ny212.out] at ho3 | (simp only [Int.reduceToNat] at ho3; rw [← Ny212.out] at ho3)); have HO214 := asd (Kd.R_lower ho3 (bsz0 HB)); replace HB := bS0 HB hb; clear hb ho3))
 go_loopg [4, 9] k (fun kq v4 v9 w' => ∃ (x4_1 : List Int) (x9_1 : Int), v9 = .int .i64 x9_1 ∧ Aside0 (impl_readDigits.l0 kq a0 x4_1 (a0.size : Int) x9_1 = some (r1, r2)) ∧ Aside0 (kq ≤ k) ∧ Aside0 (Kd.R (Kd.int .i64) 2 w' w.heap.size (fun _ => True) v4 x4_1) ∧ Aside0 (Below w.heap.size w w'))
 case atStart => exact ⟨(y212), (0), (by first | rfl | (simp; done) | (simp [*]; done)), H', ⟨Nat.le_refl _⟩, ⟨by (with_reducible repeat (first | apply Kd.R_alloc | apply Kd.R_drewN | apply Kd.R_drew)); exact HO214.out⟩, ⟨bbw0 HB⟩⟩
 case round =>
  clear H'
  try clear p2
  obtain ⟨x4_1, x9_1, rfl, HA, HK1, HO_4, HB⟩ := hrel
  cases gk with
  | zero => exact absurd HA.out (by simp [impl_readDigits.l0])
  | succ k1 =>
   have H := HA.out
   clear HA
   simp only [impl_readDigits.l0] at H
   by_cases c4 : x9_1 < (a0.size : Int)
   rw [if_pos c4] at H
   have c4b0 := decide_eq_true c4
   clear c4
   by_cases c5 : 0 ≤ x9_1
   rw [if_pos c5] at H
   have c5b0 := decide_eq_true c5
   clear c5
   by_cases c6 : x9_1 < (a0.size : Int)
   rw [if_pos c6] at H
   have c6b0 := decide_eq_true c6
   clear c6
   by_cases c8 : (bt a0 x9_1) < 48
   rw [if_pos c8] at H
   have c8b0 := decide_eq_true c8
   clear c8
   rotate_left
   rw [if_neg c8] at H
   have c8b0 := decide_eq_false c8
   clear c8
   by_cases c10 : (bt a0 x9_1) > 57
   rw [if_pos c10] at H
   have c10b0 : decide (57 < (bt a0 x9_1)) = true := decide_eq_true c10
   clear c10
   rotate_left
   rw [if_neg c10] at H
   have c10b0 : decide (57 < (bt a0 x9_1)) = false := decide_eq_false c10
   clear c10
   by_cases c12 : x4_1.length < 17592186044416
   rw [if_pos c12] at H
   have LMc12 := Aside0.mk c12
   clear c12
   obtain ⟨y215, hy215⟩ : ∃ y_ : List Int, y_ = (x4_1 ++ [((bt a0 x9_1) - 48) % 256]) := ⟨_, rfl⟩
   replace H : (impl_readDigits.l0 k1 a0 y215 (a0.size : Int) (wrap64 (x9_1 + 1))) = some (r1, r2) := by first | (rw [hy215]; with_reducible exact H) | (have H2_ := (Option.bind_some _ _).symm.trans H; rw [hy215]; with_reducible exact H2_) | (have H2_ := (Option.bind_some _ _).symm.trans H; with_reducible exact H2_) | with_reducible exact H | (rw [hy215]; exact H) | exact H
   have Ny215 := Aside0.mk hy215
   clear hy215
   have H' := Aside0.mk H
   clear H
   rotate_left
   ·rw [if_neg c12] at H
    exact absurd H (by simp)
   ·rw [if_neg c6] at H
    exact absurd H (by simp)
   ·rw [if_neg c5] at H
    exact absurd H (by simp)
   rw [if_neg c4] at H
   have c4b0 := decide_eq_false c4
   clear c4
   rotate_left
   simp only [Option.some.injEq, Prod.mk.injEq] at H
   obtain ⟨rfl, rfl⟩ := H
   rotate_left
   simp only [Option.some.injEq, Prod.mk.injEq] at H
   obtain ⟨rfl, rfl⟩ := H
   rotate_left 2
   ·simp only [Option.some.injEq, Prod.mk.injEq] at H
    obtain ⟨rfl, rfl⟩ := H
    go_wp2
    go_ret2
    exact ⟨_, by first | rfl | (simp [errW_none, errW_some] <;> rfl) | (simp [*, errW_none, errW_some] <;> rfl), by (with_reducible repeat (first | apply Kd.R_alloc | apply Kd.R_drewN | apply Kd.R_drew)); exact HO_4.out, bbw0 HB⟩
   all_goals
    have p7 : 0 ≤ (x9_1 : Int) := od
    have q7 : x9_1 < (a0.size : Int) := od
    have hx7 := bt_at a0 x9_1
    replace p7 := eq_true p7
    replace q7 := eq_true q7
   rotate_left
   have p9 : 0 ≤ (x9_1 : Int) := od
   have q9 : x9_1 < (a0.size : Int) := od
   have hx9 := bt_at a0 x9_1
   replace p9 := eq_true p9
   replace q9 := eq_true q9
   rotate_left
   ·have p9 : 0 ≤ (x9_1 : Int) := od
    have q9 : x9_1 < (a0.size : Int) := od
    have hx9 := bt_at a0 x9_1
    replace p9 := eq_true p9
    replace q9 := eq_true q9
    have p11 : 0 ≤ (x9_1 : Int) := od
    have q11 : x9_1 < (a0.size : Int) := od
    have hx11 := bt_at a0 x9_1
    replace p11 := eq_true p11
    replace q11 := eq_true q11
    go_wp2_with (first | ((with_reducible refine gate_builtin (b := .append) (xs := #[.tmp 22, .tmp 28]) rfl ?_); at_builtin; refine Kd.R_append (Kd.int .i64) (w0 := w) w.heap.size rfl (.tmp 22) (.tmp 28) 22 2 (.int .i64 0) 8 rfl Tryd.underlying22 info2 rfl (by decide) (by omega) u4 x4_1 (((bt a0 x9_1) - 48) % 256) [.int .i64 (((bt a0 x9_1) - 48) % 256)] (fun _ => True) (fun _ => False) rfl rfl ?aP (fun _ hk => hk.elim) ?aF ?aO ?aB ?aS ?aL ?_; (case aP => exact rfl); (case aB => exact (bbw0 HB)); (case aF => exact (fun _ _ => trivial)); (case aO => exact (kr HO_4)); (case aS => exact (bsz0 HB)); (case aL => have := LMc12.out; omega); intro v216 w13 ho hb hg hat; rw [← Ny215.out] at ho; have n0_ := asd (hb); have n1_ := asd (ho); clear HB; clear HO_4; have HB := n0_; have HO217 := n1_; clear n0_ n1_; clear ho hb hg hat))
    go_roundg k1
    case measure => have := HK1.out; omega
    case rel => exact ⟨(y215), (wrap64 (x9_1 + 1)), (by first | rfl | (simp; done) | (simp [*]; done)), H', ⟨by have := HK1.out; omega⟩, ⟨by (with_reducible repeat (first | apply Kd.R_alloc | apply Kd.R_drewN | apply Kd.R_drew)); exact HO217.out⟩, ⟨bbw0 HB⟩⟩
   all_goals
    go_wp2
    go_ret2
    exact ⟨_, by first | rfl | (simp [errW_none, errW_some] <;> rfl) | (simp [*, errW_none, errW_some] <;> rfl), by first | exact Kd.R_nil _ _ _ _ _ | exact Kd.N_nil _ _ _ _ _ | exact Kd.V_nil _ _ _ _ _ | exact Kd.Q_nil _ _ _ _ _ | exact Kd.S_nil _ _ _ _ _, bbw0 HB⟩

end Go.Proofs.YtfhbhjlgepjlfaaDoor.PR
