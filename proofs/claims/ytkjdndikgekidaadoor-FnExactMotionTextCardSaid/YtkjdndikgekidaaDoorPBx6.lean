/- Walks written by program: each Go function that the law reaches comes to the plain function beside it. -/
import Derived.Test.YtkjdndikgekidaaDoorPBx0
import Derived.Test.YtkjdndikgekidaaDoorPBx3
import Derived.Test.YtkjdndikgekidaaDoorPBx4
import Derived.Test.YtkjdndikgekidaaDoorPBx5
namespace Go.Proofs.YtkjdndikgekidaaDoor.PB
open Go.RowKit Go.Proofs.YtkjdndikgekidaaDoorW.PrintWords Go.Proofs.YtkjdndikgekidaaDoorW.PrintLast Go.Proofs.YtkjdndikgekidaaDoorW.PrintMore
attribute [local go_sem] max2_int min2_int max_two min_two max_three min_three max_four min_four   -- for this text's walks alone
set_option linter.unusedVariables false
set_option linter.unusedSimpArgs false

/-! ### impl_VecText: function 39 -/
def impl_VecText.f (k : Nat) (a0_0 : Int) (a0_1 : Int) : Option (ByteArray) := (impl_IsVec.f a0_0 a0_1).bind fun t239 => (if t239 = true then ((impl_joined.f k (⟨#[44]⟩ : ByteArray) (([a0_0, a0_1] : List Int))).bind fun t243 => (some t243)) else (some (⟨#[]⟩ : ByteArray)))
set_option maxHeartbeats 8000000 in
set_option maxRecDepth 100000 in
theorem impl_VecText.calls (k : Nat) (a0_0 : Int) (a0_1 : Int) (r : ByteArray) (w : World) (htab : strconv_FormatInt.Tab w) (h : impl_VecText.f k a0_0 a0_1 = some r) :
  Calls Tryd.prog 39 #[.agg #[.int .i64 a0_0, .int .i64 a0_1]] w fun e w' => e = .returned (.string r) ∧ Below w.heap.size w w' := by
 have HTAB := Aside0.mk htab
 clear htab
 have hu46 := Tryd.underlying46
 have HB := asd (Below.refl w.heap.size w)
 have H : ((impl_IsVec.f a0_0 a0_1).bind fun t239 => (if t239 = true then ((impl_joined.f k (⟨#[44]⟩ : ByteArray) (([a0_0, a0_1] : List Int))).bind fun t243 => (some t243)) else (some (⟨#[]⟩ : ByteArray)))) = some r := h
 clear h
 obtain ⟨t239, A2, H⟩ := ob H
 try dsimp only at H
 by_cases c3 : t239 = true
 ·subst c3
  replace H := ifT H
  obtain ⟨y240, hy240⟩ : ∃ y_ : List Int, y_ = (([a0_0, a0_1] : List Int)) := ⟨_, rfl⟩
  replace H : ((impl_joined.f k (⟨#[44]⟩ : ByteArray) y240).bind fun t243 => (some t243)) = some r := by first | (rw [hy240]; with_reducible exact H) | (have H2_ := (Option.bind_some _ _).symm.trans H; rw [hy240]; with_reducible exact H2_) | (have H2_ := (Option.bind_some _ _).symm.trans H; with_reducible exact H2_) | with_reducible exact H | (rw [hy240]; exact H) | exact H
  have Ny240 := Aside0.mk hy240
  clear hy240
  obtain ⟨t243, A4, H⟩ := ob H
  try dsimp only at H
  obtain rfl := Option.some.inj H
  go_enter Tryd.func39, Tryd.ntmps39
  go_wp2_with (first | ((with_reducible refine gd 1 rfl ?_); refine bx #[.int .i64 a0_0, .int .i64 a0_1] 46 ?_; intro gb238 hg w5 BK238 hb; have GE238 := ngw0 hg HB; replace HB := bS0 HB hb; clear hb hg; obtain ⟨hcz6_0, hcz6_1, hfz6_0, hfz6_1⟩ := bz2 BK238) | ((with_reducible refine gate_callee (f := 66) rfl ?_); refine gl 4 Tryd.func66 #[.agg #[.int .i64 a0_0, .int .i64 a0_1]] ?_; (with_reducible refine (impl_IsVec.calls _ _ _ _ A2.out).mono ?_); rintro e w7 ⟨rfl, hb⟩; refine ⟨_, rfl, ?_⟩; replace BK238 := bB BK238 hb; replace HB := bS1 HB GE238 hb; (try clear hb); obtain ⟨hcz8_0, hcz8_1, hfz8_0, hfz8_1⟩ := bz2 BK238) | ((with_reducible refine gd 10 rfl ?_); refine Kd.R_lit (Kd.int .i64) _ 2 ?hg (N := 10) ?hd (xs := ([a0_0, a0_1] : List Int)) (inner := [.int .i64 a0_0, .int .i64 a0_1]) (ok := fun _ => True) (okp := fun _ => True) ?hr ?hp (fun _ hk => hk) trivial (Below.refl _ _) (Nat.le_refl _) (by simp) ?_; (case hd => rfl); (case hg => rfl); (case hr => first | (go_simp; done) | (go_simp; rfl)); (case hp => exact (Reps.one (show Kd.M (Kd.int .i64) _ _ _ a0_0 [.int .i64 a0_0] from rfl) (Reps.one (show Kd.M (Kd.int .i64) _ _ _ a0_1 [.int .i64 a0_1] from rfl) (Reps.none _ _)))); intro v241 w9 ho10 hb hg_ hnew_; clear hg_ hnew_; (first | rw [← Ny240.out] at ho10 | (simp only [Int.reduceToNat] at ho10; rw [← Ny240.out] at ho10)); have HO242 := asd (Kd.R_lower ho10 (bsz1 HB GE238)); replace BK238 := bB BK238 hb; replace HB := bS1 HB GE238 hb; clear hb ho10; obtain ⟨Ao11, co11, eo11⟩ := Kd.R_slice HO242.out; subst eo11) | ((with_reducible refine gate_callee (f := 57) rfl ?_); refine gl 11 Tryd.func57 #[.string (⟨#[44]⟩ : ByteArray), .slice Ao11 y240.length co11] ?_; (with_reducible refine (impl_joined.calls _ _ _ _ _ _ _ ?side1 ?side2 (strconv_FormatInt.tabB HTAB.out (by repeat (first | (with_reducible first | exact HB.out | exact Below.refl _ _ | apply below_alloc | apply pw_below_drewN | apply below_drew1 | refine below_set ?_ GE238.out) | exact HB.out))) A4.out).mono ?_); (case side1 => exact ks (Kd.R_reads' HO242.out).2.2); (case side2 => exact (Kd.R_reads' HO242.out).2.1); rintro e w12 ⟨rfl, hb⟩; refine ⟨_, rfl, ?_⟩; replace HO242 := asd (Kd.R_below (kr HO242) hb); replace BK238 := bB BK238 hb; replace HB := bS1 HB GE238 hb; (try clear hb)))
  go_ret
  exact er (bbw1 HB GE238)
 ·replace c3 := Bool.eq_false_iff.mpr c3
  subst c3
  replace H := ifF H
  obtain rfl := Option.some.inj H
  go_enter Tryd.func39, Tryd.ntmps39
  go_wp2_with (first | ((with_reducible refine gd 1 rfl ?_); refine bx #[.int .i64 a0_0, .int .i64 a0_1] 46 ?_; intro gb238 hg w13 BK238 hb; have GE238 := ngw0 hg HB; replace HB := bS0 HB hb; clear hb hg; obtain ⟨hcz14_0, hcz14_1, hfz14_0, hfz14_1⟩ := bz2 BK238) | ((with_reducible refine gate_callee (f := 66) rfl ?_); refine gl 4 Tryd.func66 #[.agg #[.int .i64 a0_0, .int .i64 a0_1]] ?_; (with_reducible refine (impl_IsVec.calls _ _ _ _ A2.out).mono ?_); rintro e w15 ⟨rfl, hb⟩; refine ⟨_, rfl, ?_⟩; replace BK238 := bB BK238 hb; replace HB := bS1 HB GE238 hb; (try clear hb)))
  go_ret
  exact er (bbw1 HB GE238)
/-! ### impl_MotionText: function 17 -/
def impl_MotionText.f (k : Nat) (a0_0 : Int) (a0_1 : Int) (a0_2 : Int) (a0_3 : Int) (a0_4 : Int) (a0_5 : Int) : Option (ByteArray) := (impl_IsMotion.f k a0_0 a0_1 a0_2 a0_3 a0_4 a0_5).bind fun t245 => (if t245 = true then ((impl_MatText.f k a0_0 a0_1 a0_2 a0_3).bind fun t246 => (if t246.size + 1 ≤ 9223372036854775807 then ((impl_VecText.f k a0_4 a0_5).bind fun t247 => (if (t246 ++ (⟨#[59]⟩ : ByteArray)).size + t247.size ≤ 9223372036854775807 then (some ((t246 ++ (⟨#[59]⟩ : ByteArray)) ++ t247)) else (none))) else (none))) else (some (⟨#[]⟩ : ByteArray)))
def impl_MotionText.T3 : Bool × List (List Nat × List Nat) := (true, [([], []), ([0], [0]), ([1], [1]), ([2], [2]), ([], []), ([4], [4]), ([5, 2], [5]), ([3, 6], [3, 6]), ([7, 6, 0, 1, 2, 3, 4, 5, 6, 7], [7])])
def impl_MotionText.B3 : List Nat := [0, 1, 3, 7, 0, 16, 55, 127, 255]
theorem impl_MotionText.tab3 : rtab .any (opsOf Tryd.f17 3) = impl_MotionText.T3 := by kernel_rfl
theorem impl_MotionText.bits3 : waitsOk impl_MotionText.T3.2 impl_MotionText.B3 = true := by kernel_rfl
set_option maxHeartbeats 8000000 in
set_option maxRecDepth 100000 in
theorem impl_MotionText.calls (k : Nat) (a0_0 : Int) (a0_1 : Int) (a0_2 : Int) (a0_3 : Int) (a0_4 : Int) (a0_5 : Int) (r : ByteArray) (w : World) (htab : strconv_FormatInt.Tab w) (h : impl_MotionText.f k a0_0 a0_1 a0_2 a0_3 a0_4 a0_5 = some r) :
  Calls Tryd.prog 17 #[.agg #[.int .i64 a0_0, .int .i64 a0_1, .int .i64 a0_2, .int .i64 a0_3, .int .i64 a0_4, .int .i64 a0_5]] w fun e w' => e = .returned (.string r) ∧ Below w.heap.size w w' := by
 have HTAB := Aside0.mk htab
 clear htab
 have hu48 := Tryd.underlying48
 have hu45 := Tryd.underlying45
 have hu46 := Tryd.underlying46
 have HB := asd (Below.refl w.heap.size w)
 have H : ((impl_IsMotion.f k a0_0 a0_1 a0_2 a0_3 a0_4 a0_5).bind fun t245 => (if t245 = true then ((impl_MatText.f k a0_0 a0_1 a0_2 a0_3).bind fun t246 => (if t246.size + 1 ≤ 9223372036854775807 then ((impl_VecText.f k a0_4 a0_5).bind fun t247 => (if (t246 ++ (⟨#[59]⟩ : ByteArray)).size + t247.size ≤ 9223372036854775807 then (some ((t246 ++ (⟨#[59]⟩ : ByteArray)) ++ t247)) else (none))) else (none))) else (some (⟨#[]⟩ : ByteArray)))) = some r := h
 clear h
 obtain ⟨t245, A2, H⟩ := ob H
 try dsimp only at H
 by_cases c3 : t245 = true
 ·subst c3
  replace H := ifT H
  obtain ⟨t246, A4, H⟩ := ob H
  try dsimp only at H
  by_cases c5 : t246.size + 1 ≤ 9223372036854775807
  ·rw [if_pos c5] at H
   have c5b0 := eq_true c5
   have c5b1 := decide_eq_true c5
   try have c5b2 : (9223372036854775807 < t246.size + 1) = False := eq_false (Nat.not_lt.2 c5)
   obtain ⟨t247, A6, H⟩ := ob H
   try dsimp only at H
   by_cases c7 : (t246 ++ (⟨#[59]⟩ : ByteArray)).size + t247.size ≤ 9223372036854775807
   ·rw [if_pos c7] at H
    have c7b0 := eq_true c7
    have c7b1 := decide_eq_true c7
    try have c7b2 : (9223372036854775807 < (t246 ++ (⟨#[59]⟩ : ByteArray)).size + t247.size) = False := eq_false (Nat.not_lt.2 c7)
    try (have c7b3 := c7b2; simp only [ByteArray.size_append] at c7b3)
    try (have c7b4 := c7b2; simp only [ByteArray.size_append, show (⟨#[59]⟩ : ByteArray).size = 1 from rfl] at c7b4)
    obtain rfl := Option.some.inj H
    go_enter Tryd.func17, Tryd.ntmps17
    try go_wp2_with (first | ((with_reducible refine gd 1 rfl ?_); refine bx #[.int .i64 a0_0, .int .i64 a0_1, .int .i64 a0_2, .int .i64 a0_3, .int .i64 a0_4, .int .i64 a0_5] 48 ?_; intro gb244 hg w8 BK244 hb; have GE244 := ngw0 hg HB; replace HB := bS0 HB hb; clear hb hg; obtain ⟨hcz9_0, hcz9_1, hcz9_2, hcz9_3, hcz9_4, hcz9_5, hfz9_0, hfz9_1, hfz9_2, hfz9_3, hfz9_4, hfz9_5⟩ := bz6 BK244) | ((with_reducible refine gate_callee (f := 37) rfl ?_); refine gl 4 Tryd.func37 #[.agg #[.int .i64 a0_0, .int .i64 a0_1, .int .i64 a0_2, .int .i64 a0_3, .int .i64 a0_4, .int .i64 a0_5]] ?_; (with_reducible refine (impl_IsMotion.calls _ _ _ _ _ _ _ _ _ A2.out).mono ?_); rintro e w10 ⟨rfl, hb⟩; refine ⟨_, rfl, ?_⟩; replace BK244 := bB BK244 hb; replace HB := bS1 HB GE244 hb; (try clear hb)))
    replace BK244 := asd (blk_drew BK244.out)
    replace HB := asd (below_drew1 HB.out)
    refine sh 9 (eb6 BK244) (fun hHeld => ?_); refine with_tabW impl_MotionText.tab3 impl_MotionText.bits3 (fun HT_ HW_ => ?_)
    generalize w10.drew = w11 at BK244 HB hHeld ⊢
    refine pu 0 (some 6) (bT 9 1) HT_ ?_
    refine pu 4 (some 10) (bs 9 17) HT_ ?_
    refine ta 1 (some 7) (bs 9 19) HT_ HW_ hHeld ?_
    refine ta 5 (some 11) (bs 9 51) HT_ HW_ hHeld ?_
    refine ro 2 (some 8) (bs 9 55) HT_ (fun K hK => ?_)
    refine gs Tryd.func38 #[.agg #[.int .i64 a0_0, .int .i64 a0_1, .int .i64 a0_2, .int .i64 a0_3]] ?_
    with_reducible refine (impl_MatText.calls _ _ _ _ _ _ _ (strconv_FormatInt.tabB HTAB.out (by repeat (first | (with_reducible first | exact HB.out | exact Below.refl _ _ | apply below_alloc | apply pw_below_drewN | apply below_drew1 | refine below_set ?_ GE244.out) | exact HB.out))) A4.out).mono ?_
    rintro e w12 ⟨rfl, hb⟩
    refine ⟨_, rfl, ?_⟩
    replace BK244 := bB BK244 hb
    replace HB := bS1 HB GE244 hb
    (try clear hb)
    (try clear hb2)
    (try clear hk)
    (try clear hi)
    refine hK.out _ _ (eb6 BK244).out (fun hHeld => ?_)
    clear hK K
    refine norm_ (a' := ?_) ?_ ?_
    rotate_left
    ·show Act.put _ (some 8) _ = _
     simp only [Act.put, sA, sB, sC, i64_w, i32_w]
     rfl
    refine pu 3 (some 9) (bT 9 6) HT_ ?_
    refine ro 6 (some 12) (bT 9 7) HT_ (fun K hK => ?_)
    refine gs Tryd.func39 #[.agg #[.int .i64 a0_4, .int .i64 a0_5]] ?_
    with_reducible refine (impl_VecText.calls _ _ _ _ _ (strconv_FormatInt.tabB HTAB.out (by repeat (first | (with_reducible first | exact HB.out | exact Below.refl _ _ | apply below_alloc | apply pw_below_drewN | apply below_drew1 | refine below_set ?_ GE244.out) | exact HB.out))) A6.out).mono ?_
    rintro e w13 ⟨rfl, hb⟩
    refine ⟨_, rfl, ?_⟩
    replace BK244 := bB BK244 hb
    replace HB := bS1 HB GE244 hb
    (try clear hb)
    (try clear hb2)
    (try clear hk)
    (try clear hi)
    refine hK.out _ _ (eb6 BK244).out (fun hHeld => ?_)
    clear hK K
    refine norm_ (a' := ?_) ?_ ?_
    rotate_left
    ·show Act.put _ (some 12) _ = _
     simp only [Act.put, sA, sB, sC, i64_w, i32_w]
     rfl
    refine pu 7 (some 13) (bT 9 8) HT_ ?_
    refine pu 8 (some 2) (bT 9 9) HT_ ?_
    refine done_ (done_of HT_.out (by kernel_rfl)) ?_
    try go_wp2
    go_ret
    exact er (bbw1 HB GE244)
   ·rw [if_neg c7] at H
    exact absurd H (by simp)
  ·rw [if_neg c5] at H
   exact absurd H (by simp)
 ·replace c3 := Bool.eq_false_iff.mpr c3
  subst c3
  replace H := ifF H
  obtain rfl := Option.some.inj H
  go_enter Tryd.func17, Tryd.ntmps17
  go_wp2_with (first | ((with_reducible refine gd 1 rfl ?_); refine bx #[.int .i64 a0_0, .int .i64 a0_1, .int .i64 a0_2, .int .i64 a0_3, .int .i64 a0_4, .int .i64 a0_5] 48 ?_; intro gb244 hg w14 BK244 hb; have GE244 := ngw0 hg HB; replace HB := bS0 HB hb; clear hb hg; obtain ⟨hcz15_0, hcz15_1, hcz15_2, hcz15_3, hcz15_4, hcz15_5, hfz15_0, hfz15_1, hfz15_2, hfz15_3, hfz15_4, hfz15_5⟩ := bz6 BK244) | ((with_reducible refine gate_callee (f := 37) rfl ?_); refine gl 4 Tryd.func37 #[.agg #[.int .i64 a0_0, .int .i64 a0_1, .int .i64 a0_2, .int .i64 a0_3, .int .i64 a0_4, .int .i64 a0_5]] ?_; (with_reducible refine (impl_IsMotion.calls _ _ _ _ _ _ _ _ _ A2.out).mono ?_); rintro e w16 ⟨rfl, hb⟩; refine ⟨_, rfl, ?_⟩; replace BK244 := bB BK244 hb; replace HB := bS1 HB GE244 hb; (try clear hb)))
  go_ret
  exact er (bbw1 HB GE244)
/-! ### laws_FnExactMotionText: function 5 -/
def laws_FnExactMotionText.f (k : Nat) (a0_0 : Int) (a0_1 : Int) (a0_2 : Int) (a0_3 : Int) (a0_4 : Int) (a0_5 : Int) : Option (Bool) := (laws_toMotion.f a0_0 a0_1 a0_2 a0_3 a0_4 a0_5).bind fun bt249 => ((spec_MotionText.f k bt249.1 bt249.2.1 bt249.2.2.1 bt249.2.2.2.1 bt249.2.2.2.2.1 bt249.2.2.2.2.2).bind fun t255 => ((laws_toMotion.f a0_0 a0_1 a0_2 a0_3 a0_4 a0_5).bind fun bt256 => ((impl_MotionText.f k bt256.1 bt256.2.1 bt256.2.2.1 bt256.2.2.2.1 bt256.2.2.2.2.1 bt256.2.2.2.2.2).bind fun t262 => (if t262.toList = t255.toList then (some true) else (some false)))))
set_option maxHeartbeats 8000000 in
set_option maxRecDepth 100000 in
theorem laws_FnExactMotionText.calls (k : Nat) (a0_0 : Int) (a0_1 : Int) (a0_2 : Int) (a0_3 : Int) (a0_4 : Int) (a0_5 : Int) (w : World) (htab : strconv_FormatInt.Tab w) (h : laws_FnExactMotionText.f k a0_0 a0_1 a0_2 a0_3 a0_4 a0_5 = some true) :
  Calls Tryd.prog 5 #[.agg #[.int .i64 a0_0, .int .i64 a0_1, .int .i64 a0_2, .int .i64 a0_3, .int .i64 a0_4, .int .i64 a0_5]] w fun e w' => e = .returned (.bool true) ∧ Below w.heap.size w w' := by
 have HTAB := Aside0.mk htab
 clear htab
 have hu43 := Tryd.underlying43
 have HB := asd (Below.refl w.heap.size w)
 have H : ((laws_toMotion.f a0_0 a0_1 a0_2 a0_3 a0_4 a0_5).bind fun bt249 => ((spec_MotionText.f k bt249.1 bt249.2.1 bt249.2.2.1 bt249.2.2.2.1 bt249.2.2.2.2.1 bt249.2.2.2.2.2).bind fun t255 => ((laws_toMotion.f a0_0 a0_1 a0_2 a0_3 a0_4 a0_5).bind fun bt256 => ((impl_MotionText.f k bt256.1 bt256.2.1 bt256.2.2.1 bt256.2.2.2.1 bt256.2.2.2.2.1 bt256.2.2.2.2.2).bind fun t262 => (if t262.toList = t255.toList then (some true) else (some false)))))) = some true := h
 clear h
 obtain ⟨⟨t249, t250, t251, t252, t253, t254⟩, A2, H⟩ := ob H
 try dsimp only at H
 obtain ⟨t255, A3, H⟩ := ob H
 try dsimp only at H
 obtain ⟨⟨t256, t257, t258, t259, t260, t261⟩, A4, H⟩ := ob H
 try dsimp only at H
 obtain ⟨t262, A5, H⟩ := ob H
 try dsimp only at H
 by_cases c6 : t262.toList = t255.toList
 ·rw [if_pos c6] at H
  have c6b0 : (t262.toList == t255.toList) = true := beq_iff_eq.mpr c6
  have c6b1 : (t262.toList != t255.toList) = false := bne_eq_false_iff_eq.mpr c6
  clear c6
  clear H
  go_enter Tryd.func5, Tryd.ntmps5
  go_wp2_with (first | ((with_reducible refine gd 1 rfl ?_); refine bx #[.int .i64 a0_0, .int .i64 a0_1, .int .i64 a0_2, .int .i64 a0_3, .int .i64 a0_4, .int .i64 a0_5] 43 ?_; intro gb248 hg w7 BK248 hb; have GE248 := ngw0 hg HB; replace HB := bS0 HB hb; clear hb hg; obtain ⟨hcz8_0, hcz8_1, hcz8_2, hcz8_3, hcz8_4, hcz8_5, hfz8_0, hfz8_1, hfz8_2, hfz8_3, hfz8_4, hfz8_5⟩ := bz6 BK248) | ((with_reducible refine gate_callee (f := 16) rfl ?_); refine gl 6 Tryd.func16 #[.agg #[.int .i64 a0_0, .int .i64 a0_1, .int .i64 a0_2, .int .i64 a0_3, .int .i64 a0_4, .int .i64 a0_5]] ?_; (with_reducible refine (laws_toMotion.calls _ _ _ _ _ _ _ _ _ _ _ _ _ A2.out).mono ?_); rintro e w9 ⟨rfl, hb⟩; refine ⟨_, rfl, ?_⟩; replace BK248 := bB BK248 hb; replace HB := bS1 HB GE248 hb; (try clear hb)) | ((with_reducible refine gate_callee (f := 15) rfl ?_); refine gl 7 Tryd.func15 #[.agg #[.int .i64 t249, .int .i64 t250, .int .i64 t251, .int .i64 t252, .int .i64 t253, .int .i64 t254]] ?_; (with_reducible refine (spec_MotionText.calls _ _ _ _ _ _ _ _ _ A3.out).mono ?_); rintro e w10 ⟨rfl, hb⟩; refine ⟨_, rfl, ?_⟩; replace BK248 := bB BK248 hb; replace HB := bS1 HB GE248 hb; (try clear hb); obtain ⟨hcz11_0, hcz11_1, hcz11_2, hcz11_3, hcz11_4, hcz11_5, hfz11_0, hfz11_1, hfz11_2, hfz11_3, hfz11_4, hfz11_5⟩ := bz6 BK248) | ((with_reducible refine gate_callee (f := 16) rfl ?_); refine gl 9 Tryd.func16 #[.agg #[.int .i64 a0_0, .int .i64 a0_1, .int .i64 a0_2, .int .i64 a0_3, .int .i64 a0_4, .int .i64 a0_5]] ?_; (with_reducible refine (laws_toMotion.calls _ _ _ _ _ _ _ _ _ _ _ _ _ A4.out).mono ?_); rintro e w12 ⟨rfl, hb⟩; refine ⟨_, rfl, ?_⟩; replace BK248 := bB BK248 hb; replace HB := bS1 HB GE248 hb; (try clear hb)) | ((with_reducible refine gate_callee (f := 17) rfl ?_); refine gl 10 Tryd.func17 #[.agg #[.int .i64 t256, .int .i64 t257, .int .i64 t258, .int .i64 t259, .int .i64 t260, .int .i64 t261]] ?_; (with_reducible refine (impl_MotionText.calls _ _ _ _ _ _ _ _ _ (strconv_FormatInt.tabB HTAB.out (by repeat (first | (with_reducible first | exact HB.out | exact Below.refl _ _ | apply below_alloc | apply pw_below_drewN | apply below_drew1 | refine below_set ?_ GE248.out) | exact HB.out))) A5.out).mono ?_); rintro e w13 ⟨rfl, hb⟩; refine ⟨_, rfl, ?_⟩; replace BK248 := bB BK248 hb; replace HB := bS1 HB GE248 hb; (try clear hb)))
  go_ret
  exact er (bbw1 HB GE248)
 ·rw [if_neg c6] at H
  have c6b0 : (t262.toList == t255.toList) = false := beq_eq_false_iff_ne.mpr c6
  have c6b1 : (t262.toList != t255.toList) = true := bne_iff_ne.mpr c6
  exact absurd H (by simp)

/-- The one plain statement of laws_FnExactMotionText. -/
def laws_FnExactMotionText.Pure : Prop := ∀ (a0_0 : Int) (a0_1 : Int) (a0_2 : Int) (a0_3 : Int) (a0_4 : Int) (a0_5 : Int), (Lit.int .i64 a0_0).wf = true → (Lit.int .i64 a0_1).wf = true → (Lit.int .i64 a0_2).wf = true → (Lit.int .i64 a0_3).wf = true → (Lit.int .i64 a0_4).wf = true → (Lit.int .i64 a0_5).wf = true → ∃ k, laws_FnExactMotionText.f k a0_0 a0_1 a0_2 a0_3 a0_4 a0_5 = some true
end Go.Proofs.YtkjdndikgekidaaDoor.PB
