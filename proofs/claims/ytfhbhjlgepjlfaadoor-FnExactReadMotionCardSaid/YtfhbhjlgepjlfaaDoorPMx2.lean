/- Walks written by program: each Go function that the law reaches comes to the plain function beside it. -/
import Derived.Test.YtfhbhjlgepjlfaaDoorPMx0
namespace Go.Proofs.YtfhbhjlgepjlfaaDoor.PM
open Go.RowKit Go.Proofs.YtfhbhjlgepjlfaaDoorW.PrintWords Go.Proofs.YtfhbhjlgepjlfaaDoorW.PrintLast Go.Proofs.YtfhbhjlgepjlfaaDoorW.PrintMore
attribute [local go_sem] max2_int min2_int max_two min_two max_three min_three max_four min_four   -- for this text's walks alone
set_option linter.unusedVariables false
set_option linter.unusedSimpArgs false

/-! ### spec_l01Split: function 19 -/
def spec_l01Split.l0 : Nat → ByteArray → Int → List ByteArray → Int → Int → Option (List ByteArray)
 | 0, _, _, _, _, _ => none
 | k + 1, x0, x1, x5, x6, x7 => if x7 ≤ (x0.size : Int) then (if x7 = (x0.size : Int) then (if 0 ≤ x6 then (if x6 ≤ x7 then (if x5.length < 8796093022208 then (spec_l01Split.l0 k x0 x1 (x5 ++ [x0.extract (x6 : Int).toNat (x7 : Int).toNat]) (wrap64 (x7 + 1)) (wrap64 (x7 + 1))) else (none)) else (none)) else (none)) else (if 0 ≤ x7 then (if x7 < (x0.size : Int) then (if (bt x0 x7) = x1 then (if 0 ≤ x6 then (if x6 ≤ x7 then (if x5.length < 8796093022208 then (spec_l01Split.l0 k x0 x1 (x5 ++ [x0.extract (x6 : Int).toNat (x7 : Int).toNat]) (wrap64 (x7 + 1)) (wrap64 (x7 + 1))) else (none)) else (none)) else (none)) else (spec_l01Split.l0 k x0 x1 x5 x6 (wrap64 (x7 + 1)))) else (none)) else (none))) else (some x5)
def spec_l01Split.f (k : Nat) (a0 : ByteArray) (a1 : Int) : Option (List ByteArray) := spec_l01Split.l0 k a0 a1 (([] : List ByteArray)) 0 0
set_option maxHeartbeats 8000000 in
set_option maxRecDepth 100000 in
theorem spec_l01Split.calls (k : Nat) (a0 : ByteArray) (a1 : Int) (r : List ByteArray) (w : World) (h : spec_l01Split.f k a0 a1 = some r) :
  Calls Tryd.prog 19 #[.string a0, .int .u8 a1] w fun e w' => ∃ v0_ : Value, e = .returned (v0_) ∧ Kd.R Kd.string 9 w' w.heap.size (fun _ => True) v0_ r ∧ Below w.heap.size w w' := by
 have HB := asd (Below.refl w.heap.size w)
 have H : (spec_l01Split.l0 k a0 a1 (([] : List ByteArray)) 0 0) = some r := h
 clear h
 obtain ⟨y101, hy101⟩ : ∃ y_ : List ByteArray, y_ = (([] : List ByteArray)) := ⟨_, rfl⟩
 replace H : (spec_l01Split.l0 k a0 a1 y101 0 0) = some r := by first | (rw [hy101]; with_reducible exact H) | (have H2_ := (Option.bind_some _ _).symm.trans H; rw [hy101]; with_reducible exact H2_) | (have H2_ := (Option.bind_some _ _).symm.trans H; with_reducible exact H2_) | with_reducible exact H | (rw [hy101]; exact H) | exact H
 have Ny101 := Aside0.mk hy101
 clear hy101
 have H' := Aside0.mk H
 clear H
 go_enter Tryd.func19, Tryd.ntmps19
 go_wp2_with (first | ((with_reducible refine gd 8 rfl ?_); refine Kd.R_lit Kd.string _ 9 ?hg (N := 8) ?hd (xs := ([] : List ByteArray)) (inner := []) (ok := fun _ => True) (okp := fun _ => True) ?hr ?hp (fun _ hk => hk) trivial (Below.refl _ _) (Nat.le_refl _) (by simp) ?_; (case hd => rfl); (case hg => rfl); (case hr => first | (go_simp; done) | (go_simp; rfl)); (case hp => exact (Reps.none _ _)); intro v102 w3 ho4 hb hg_ hnew_; clear hg_ hnew_; (first | rw [← Ny101.out] at ho4 | (simp only [Int.reduceToNat] at ho4; rw [← Ny101.out] at ho4)); have HO103 := asd (Kd.R_lower ho4 (bsz0 HB)); replace HB := bS0 HB hb; clear hb ho4))
 go_loopg [5, 6, 7] k (fun kq v5 v6 v7 w' => ∃ (x5_1 : List ByteArray) (x6_1 : Int) (x7_1 : Int), v6 = .int .i64 x6_1 ∧ v7 = .int .i64 x7_1 ∧ Aside0 (spec_l01Split.l0 kq a0 a1 x5_1 x6_1 x7_1 = some r) ∧ Aside0 (kq ≤ k) ∧ Aside0 (Kd.R Kd.string 9 w' w.heap.size (fun _ => True) v5 x5_1) ∧ Aside0 (Below w.heap.size w w'))
 case atStart => exact ⟨(y101), (0), (0), (by first | rfl | (simp; done) | (simp [*]; done)), (by first | rfl | (simp; done) | (simp [*]; done)), H', ⟨Nat.le_refl _⟩, ⟨by (with_reducible repeat (first | apply Kd.R_alloc | apply Kd.R_drewN | apply Kd.R_drew)); exact HO103.out⟩, ⟨bbw0 HB⟩⟩
 case round =>
  clear H'
  try clear c1
  try clear p2
  obtain ⟨x5_1, x6_1, x7_1, rfl, rfl, HA, HK1, HO_5, HB⟩ := hrel
  cases gk with
  | zero => exact absurd HA.out (by simp [spec_l01Split.l0])
  | succ k1 =>
   have H := HA.out
   clear HA
   simp only [spec_l01Split.l0] at H
   by_cases c5 : x7_1 ≤ (a0.size : Int)
   rw [if_pos c5] at H
   have c5b0 := decide_eq_true c5
   clear c5
   by_cases c6 : x7_1 = (a0.size : Int)
   rw [if_pos c6] at H
   have c6b0 : (x7_1 == (a0.size : Int)) = true := beq_iff_eq.mpr c6
   have c6b1 : (x7_1 != (a0.size : Int)) = false := bne_eq_false_iff_eq.mpr c6
   clear c6
   by_cases c7 : 0 ≤ x6_1
   rw [if_pos c7] at H
   have c7b0 := eq_true c7
   have c7b1 := decide_eq_true c7
   clear c7
   by_cases c8 : x6_1 ≤ x7_1
   rw [if_pos c8] at H
   have c8b0 := eq_true c8
   have c8b1 := decide_eq_true c8
   clear c8
   have c9b0 := eq_true (od : x7_1 ≤ (a0.size : Int))
   by_cases c10 : x5_1.length < 8796093022208
   rw [if_pos c10] at H
   have LMc10 := Aside0.mk c10
   clear c10
   obtain ⟨y104, hy104⟩ : ∃ y_ : List ByteArray, y_ = (x5_1 ++ [a0.extract (x6_1 : Int).toNat (x7_1 : Int).toNat]) := ⟨_, rfl⟩
   replace H : (spec_l01Split.l0 k1 a0 a1 y104 (wrap64 (x7_1 + 1)) (wrap64 (x7_1 + 1))) = some r := by first | (rw [hy104]; with_reducible exact H) | (have H2_ := (Option.bind_some _ _).symm.trans H; rw [hy104]; with_reducible exact H2_) | (have H2_ := (Option.bind_some _ _).symm.trans H; with_reducible exact H2_) | with_reducible exact H | (rw [hy104]; exact H) | exact H
   have Ny104 := Aside0.mk hy104
   clear hy104
   have H' := Aside0.mk H
   clear H
   rotate_left
   ·rw [if_neg c10] at H
    exact absurd H (by simp)
   ·rw [if_neg c8] at H
    exact absurd H (by simp)
   ·rw [if_neg c7] at H
    exact absurd H (by simp)
   rw [if_neg c6] at H
   have c6b0 : (x7_1 == (a0.size : Int)) = false := beq_eq_false_iff_ne.mpr c6
   have c6b1 : (x7_1 != (a0.size : Int)) = true := bne_iff_ne.mpr c6
   by_cases c12 : 0 ≤ x7_1
   rw [if_pos c12] at H
   have c12b0 := decide_eq_true c12
   clear c12
   by_cases c13 : x7_1 < (a0.size : Int)
   rw [if_pos c13] at H
   have c13b0 := decide_eq_true c13
   clear c13
   by_cases c15 : (bt a0 x7_1) = a1
   rw [if_pos c15] at H
   have c15b0 : ((bt a0 x7_1) == a1) = true := beq_iff_eq.mpr c15
   have c15b1 : ((bt a0 x7_1) != a1) = false := bne_eq_false_iff_eq.mpr c15
   clear c15
   by_cases c16 : 0 ≤ x6_1
   rw [if_pos c16] at H
   have c16b0 := eq_true c16
   have c16b1 := decide_eq_true c16
   clear c16
   by_cases c17 : x6_1 ≤ x7_1
   rw [if_pos c17] at H
   have c17b0 := eq_true c17
   have c17b1 := decide_eq_true c17
   clear c17
   have c18b0 := eq_true (od : x7_1 ≤ (a0.size : Int))
   by_cases c19 : x5_1.length < 8796093022208
   rw [if_pos c19] at H
   have LMc10 := Aside0.mk c19
   clear c19
   obtain ⟨y104, hy107⟩ : ∃ y_ : List ByteArray, y_ = (x5_1 ++ [a0.extract (x6_1 : Int).toNat (x7_1 : Int).toNat]) := ⟨_, rfl⟩
   replace H : (spec_l01Split.l0 k1 a0 a1 y104 (wrap64 (x7_1 + 1)) (wrap64 (x7_1 + 1))) = some r := by first | (rw [hy107]; with_reducible exact H) | (have H2_ := (Option.bind_some _ _).symm.trans H; rw [hy107]; with_reducible exact H2_) | (have H2_ := (Option.bind_some _ _).symm.trans H; with_reducible exact H2_) | with_reducible exact H | (rw [hy107]; exact H) | exact H
   have Ny104 := Aside0.mk hy107
   clear hy107
   have H' := Aside0.mk H
   clear H
   rotate_left
   ·rw [if_neg c19] at H
    exact absurd H (by simp)
   ·rw [if_neg c17] at H
    exact absurd H (by simp)
   ·rw [if_neg c16] at H
    exact absurd H (by simp)
   rw [if_neg c15] at H
   have c15b0 : ((bt a0 x7_1) == a1) = false := beq_eq_false_iff_ne.mpr c15
   have c15b1 : ((bt a0 x7_1) != a1) = true := bne_iff_ne.mpr c15
   have H' := Aside0.mk H
   clear H
   rotate_left
   ·rw [if_neg c13] at H
    exact absurd H (by simp)
   ·rw [if_neg c12] at H
    exact absurd H (by simp)
   rw [if_neg c5] at H
   have c5b0 := decide_eq_false c5
   clear c5
   obtain rfl := Option.some.inj H
   rotate_left
   rotate_left
   have p14 : 0 ≤ (x7_1 : Int) := od
   have q14 : x7_1 < (a0.size : Int) := od
   have hx14 := bt_at a0 x7_1
   replace p14 := eq_true p14
   replace q14 := eq_true q14
   rotate_left
   ·have p14 : 0 ≤ (x7_1 : Int) := od
    have q14 : x7_1 < (a0.size : Int) := od
    have hx14 := bt_at a0 x7_1
    replace p14 := eq_true p14
    replace q14 := eq_true q14
    go_wp2
    go_roundg k1
    case measure => have := HK1.out; omega
    case rel => exact ⟨(x5_1), (x6_1), (wrap64 (x7_1 + 1)), (by first | rfl | (simp; done) | (simp [*]; done)), (by first | rfl | (simp; done) | (simp [*]; done)), H', ⟨by have := HK1.out; omega⟩, ⟨by (with_reducible repeat (first | apply Kd.R_alloc | apply Kd.R_drewN | apply Kd.R_drew)); exact HO_5.out⟩, ⟨bbw0 HB⟩⟩
   ·go_wp2
    go_ret
    exact ⟨_, by first | rfl | (simp [errW_none, errW_some] <;> rfl) | (simp [*, errW_none, errW_some] <;> rfl), by (with_reducible repeat (first | apply Kd.R_alloc | apply Kd.R_drewN | apply Kd.R_drew)); exact HO_5.out, bbw0 HB⟩
   all_goals
    go_wp2_with (first | ((with_reducible refine gate_builtin (b := .append) (xs := #[.tmp 26, .tmp 31]) rfl ?_); at_builtin; refine Kd.R_append Kd.string (w0 := w) w.heap.size rfl (.tmp 26) (.tmp 31) 47 9 (.string ⟨#[]⟩) 16 rfl Tryd.underlying47 info9 rfl (by decide) (by omega) u5 x5_1 (a0.extract (x6_1 : Int).toNat (x7_1 : Int).toNat) [.string (a0.extract (x6_1 : Int).toNat (x7_1 : Int).toNat)] (fun _ => True) (fun _ => False) rfl rfl ?aP (fun _ hk => hk.elim) ?aF ?aO ?aB ?aS ?aL ?_; (case aP => exact rfl); (case aB => exact (bbw0 HB)); (case aF => exact (fun _ _ => trivial)); (case aO => exact (kr HO_5)); (case aS => exact (bsz0 HB)); (case aL => have := LMc10.out; omega); intro v105 w11 ho hb hg hat; rw [← Ny104.out] at ho; have n0_ := asd (hb); have n1_ := asd (ho); clear HB; clear HO_5; have HB := n0_; have HO106 := n1_; clear n0_ n1_; clear ho hb hg hat))
    go_roundg k1
    case measure => have := HK1.out; omega
    case rel => exact ⟨(y104), (wrap64 (x7_1 + 1)), (wrap64 (x7_1 + 1)), (by first | rfl | (simp; done) | (simp [*]; done)), (by first | rfl | (simp; done) | (simp [*]; done)), H', ⟨by have := HK1.out; omega⟩, ⟨by (with_reducible repeat (first | apply Kd.R_alloc | apply Kd.R_drewN | apply Kd.R_drew)); exact HO106.out⟩, ⟨bbw0 HB⟩⟩
/-! ### spec_l01Dec: function 105 -/
def spec_l01Dec.f : Nat → Int → Option (ByteArray)
 | 0, _ => none
 | k + 1, a0 => if a0 < 10 then (some (strOfNums (([(wrap64 (48 + a0)) % 256] : List Int)))) else ((spec_l01Dec.f k (wrap64 (Int.tdiv a0 10))).bind fun t113 => ((some (([(wrap64 (48 + (Int.tmod a0 10))) % 256] : List Int) : List Int)).bind fun y114 => (if t113.size + (strOfNums y114).size ≤ 9223372036854775807 then (some (t113 ++ (strOfNums y114))) else (none))))
def spec_l01Dec.T3 : Bool × List (List Nat × List Nat) := (true, [([], []), ([0], [0]), ([1], [1]), ([], []), ([3], [3]), ([4], [4]), ([5], [5]), ([6], [6]), ([7], [7]), ([2, 8], [2, 8]), ([9, 2, 0, 1, 2, 3, 4, 5, 6, 7, 8, 9], [9])])
def spec_l01Dec.B3 : List Nat := [0, 1, 3, 0, 8, 24, 56, 120, 248, 511, 1023]
theorem spec_l01Dec.tab3 : rtab .any (opsOf Tryd.f105 3) = spec_l01Dec.T3 := by kernel_rfl
theorem spec_l01Dec.bits3 : waitsOk spec_l01Dec.T3.2 spec_l01Dec.B3 = true := by kernel_rfl
set_option maxHeartbeats 8000000 in
set_option maxRecDepth 100000 in
theorem spec_l01Dec.calls (k : Nat) : ∀ (a0 : Int) (r : ByteArray) (w : World) (h : spec_l01Dec.f k a0 = some r),
  Calls Tryd.prog 105 #[.int .i64 a0] w fun e w' => e = .returned (.string r) ∧ Below w.heap.size w w' := by
 induction k using Nat.strongRecOn with
 | _ k ih =>
 intro a0 r w h
 cases k with
 | zero => exact absurd h (by simp [spec_l01Dec.f])
 | succ k =>
 simp only [spec_l01Dec.f] at h
 have HB := asd (Below.refl w.heap.size w)
 have H : (if a0 < 10 then (some (strOfNums (([(wrap64 (48 + a0)) % 256] : List Int)))) else ((spec_l01Dec.f k (wrap64 (Int.tdiv a0 10))).bind fun t113 => ((some (([(wrap64 (48 + (Int.tmod a0 10))) % 256] : List Int) : List Int)).bind fun y114 => (if t113.size + (strOfNums y114).size ≤ 9223372036854775807 then (some (t113 ++ (strOfNums y114))) else (none))))) = some r := h
 clear h
 by_cases c2 : a0 < 10
 rw [if_pos c2] at H
 have c2b0 := decide_eq_true c2
 clear c2
 obtain ⟨y110, hy110⟩ : ∃ y_ : List Int, y_ = (([(wrap64 (48 + a0)) % 256] : List Int)) := ⟨_, rfl⟩
 replace H : (some (strOfNums y110)) = some r := by first | (rw [hy110]; with_reducible exact H) | (have H2_ := (Option.bind_some _ _).symm.trans H; rw [hy110]; with_reducible exact H2_) | (have H2_ := (Option.bind_some _ _).symm.trans H; with_reducible exact H2_) | with_reducible exact H | (rw [hy110]; exact H) | exact H
 have Ny110 := Aside0.mk hy110
 clear hy110
 obtain rfl := Option.some.inj H
 rotate_left
 rw [if_neg c2] at H
 have c2b0 := decide_eq_false c2
 clear c2
 obtain ⟨t113, A6, H⟩ := ob H
 try dsimp only at H
 obtain ⟨y114, hy114⟩ : ∃ y_ : List Int, y_ = (([(wrap64 (48 + (Int.tmod a0 10))) % 256] : List Int)) := ⟨_, rfl⟩
 replace H : (if t113.size + (strOfNums y114).size ≤ 9223372036854775807 then (some (t113 ++ (strOfNums y114))) else (none)) = some r := by first | (rw [hy114]; with_reducible exact H) | (have H2_ := (Option.bind_some _ _).symm.trans H; rw [hy114]; with_reducible exact H2_) | (have H2_ := (Option.bind_some _ _).symm.trans H; with_reducible exact H2_) | with_reducible exact H | (rw [hy114]; exact H) | exact H
 have Ny114 := Aside0.mk hy114
 clear hy114
 by_cases c7 : t113.size + (strOfNums y114).size ≤ 9223372036854775807
 rw [if_pos c7] at H
 have c7b0 := eq_true c7
 have c7b1 := decide_eq_true c7
 rotate_left
 ·rw [if_neg c7] at H
  exact absurd H (by simp)
 ·go_enter Tryd.func105, Tryd.ntmps105
  go_wp2_with (first | ((with_reducible refine gd 8 rfl ?_); refine Kd.R_lit (Kd.int .u8) _ 5 ?hg (N := 8) ?hd (xs := ([(wrap64 (48 + a0)) % 256] : List Int)) (inner := [.int .u8 ((wrap64 (48 + a0)) % 256)]) (ok := fun _ => True) (okp := fun _ => True) ?hr ?hp (fun _ hk => hk) trivial (Below.refl _ _) (Nat.le_refl _) (by simp) ?_; (case hd => rfl); (case hg => rfl); (case hr => first | (go_simp; done) | (go_simp; rfl)); (case hp => exact (Reps.one (show Kd.M (Kd.int .u8) _ _ _ ((wrap64 (48 + a0)) % 256) [.int .u8 ((wrap64 (48 + a0)) % 256)] from rfl) (Reps.none _ _))); intro v111 w3 ho4 hb hg_ hnew_; clear hg_ hnew_; (first | rw [← Ny110.out] at ho4 | (simp only [Int.reduceToNat] at ho4; rw [← Ny110.out] at ho4)); have HO112 := asd (Kd.R_lower ho4 (bsz0 HB)); replace HB := bS0 HB hb; clear hb ho4; have hcv5 := own_string (P := Tryd.prog) Tryd.underlying76 Tryd.underlying5 Tryd.underlying9 (Kd.own_of_R HO112.out)))
  go_ret
  exact er (bbw0 HB)
 ·try have c7b2 : (9223372036854775807 < t113.size + (strOfNums y114).size) = False := eq_false (Nat.not_lt.2 c7)
  obtain rfl := Option.some.inj H
  go_enter Tryd.func105, Tryd.ntmps105
  try go_wp2
  replace HB := asd (below_drew1 HB.out)
  refine start_ (n := 11) (S := fun w' => True) (ds := []) (bT 11 0) (by kernel_rfl) rfl rfl trivial (fun hHeld => ?_); refine with_tabW spec_l01Dec.tab3 spec_l01Dec.bits3 (fun HT_ HW_ => ?_)
  generalize w.drew = w8 at HB hHeld ⊢
  refine pu 0 (some 10) (bT 11 1) HT_ ?_
  refine pu 1 (some 11) (bT 11 2) HT_ ?_
  refine pu 3 (some 13) (bs 11 11) HT_ ?_
  refine pu 4 (some 14) (bs 11 27) HT_ ?_
  refine pu 5 (some 15) (bs 11 59) HT_ ?_
  refine pu 6 (some 16) (bs 11 123) HT_ ?_
  refine join_ (σ := Value) 2 (bT 11 9) (fun s_ => [(12, .string t113), (17, s_), (18, .string (strOfNums y114))]) (fun s_ w' => (Kd.R (Kd.int .u8) 5 w' w.heap.size (fun _ => True) s_ y114) ∧ (Below w.heap.size w w')) ?_ ?_
  rotate_left
  ·intro hCont
   refine two_ (i := 2) (j := 7) (Ni := some 12) (Nj := some 17) (bT 11 7) (bs 11 251) rfl rfl rfl rfl (two_of HT_.out (by kernel_rfl)) (by decide) (by decide) (fun K hK => ?_) (fun K hK => ?_)
   ·skip
    refine gs Tryd.func105 #[.int .i64 (wrap64 (Int.tdiv a0 10))] ?_
    with_reducible refine (ih k (by omega) (wrap64 (Int.tdiv a0 10)) t113 _ A6.out).mono ?_
    rintro e w9 ⟨rfl, hb⟩
    refine ⟨_, rfl, ?_⟩
    replace HB := bS0 HB hb
    (try clear hb)
    (try clear hb2)
    (try clear hk)
    (try clear hi)
    refine hK.out _ _ trivial (fun hHeld => ?_)
    clear hK K
    refine norm_ (a' := ?_) ?_ ?_
    rotate_left
    ·show Act.put _ (some 12) _ = _
     simp only [Act.put, sA, sB, sC, i64_w, i32_w]
     rfl
    refine ro 7 (some 17) (bT 11 8) HT_ (fun K hK => ?_)
    refine Kd.R_lit_step (Kd.int .u8) _ 5 ?hg (N := 17) ?hd (xs := ([(wrap64 (48 + (Int.tmod a0 10))) % 256] : List Int)) (inner := [.int .u8 ((wrap64 (48 + (Int.tmod a0 10))) % 256)]) (ok := fun _ => True) (okp := fun _ => True) ?hr ?hp (fun _ hk => hk) trivial (Below.refl _ _) (Nat.le_refl _) (by simp) ?_; (case hd => rfl); (case hg => rfl); (case hr => first | (go_simp; done) | (go_simp; rfl)); (case hp => exact (Reps.one (show Kd.M (Kd.int .u8) _ _ _ ((wrap64 (48 + (Int.tmod a0 10))) % 256) [.int .u8 ((wrap64 (48 + (Int.tmod a0 10))) % 256)] from rfl) (Reps.none _ _)))
    intro v115 w10 ho11 hb hg_ hnew_
    clear hg_ hnew_
    (first | rw [← Ny114.out] at ho11 | (simp only [Int.reduceToNat] at ho11; rw [← Ny114.out] at ho11))
    have HO116 := asd (Kd.R_lower ho11 (bsz0 HB))
    replace HB := bS0 HB hb
    clear hb ho11
    refine hK.out _ _ trivial (fun hHeld => ?_)
    clear hK K
    refine norm_ (a' := ?_) ?_ ?_
    rotate_left
    ·show Act.put _ (some 17) _ = _
     simp only [Act.put, sA, sB, sC, i64_w, i32_w]
     rfl
    refine ro 8 (some 18) (bT 11 9) HT_ (fun K hK => ?_)
    have hcv12 := own_string (P := Tryd.prog) Tryd.underlying76 Tryd.underlying5 Tryd.underlying9 (Kd.own_of_R HO116.out)
    refine value_ (w1 := ?_) (v := ?_) (by rfl) rfl ?_ ?_
    rotate_left 2
    ·go_simp
     constructor
     ·rfl
     ·rfl
    clear hcv12
    refine hK.out _ _ trivial (fun hHeld => ?_)
    clear hK K
    refine norm_ (a' := ?_) ?_ ?_
    rotate_left
    ·show Act.put _ (some 18) _ = _
     simp only [Act.put, sA, sB, sC, i64_w, i32_w]
     rfl
    exact norm_ (by simp only [putAll, Act.put, sA, sB, sC]) (hCont (v115) _ ⟨(kr HO116), (bbw0 HB)⟩)
   ·skip
    refine Kd.R_lit_step (Kd.int .u8) _ 5 ?hg (N := 17) ?hd (xs := ([(wrap64 (48 + (Int.tmod a0 10))) % 256] : List Int)) (inner := [.int .u8 ((wrap64 (48 + (Int.tmod a0 10))) % 256)]) (ok := fun _ => True) (okp := fun _ => True) ?hr ?hp (fun _ hk => hk) trivial (Below.refl _ _) (Nat.le_refl _) (by simp) ?_; (case hd => rfl); (case hg => rfl); (case hr => first | (go_simp; done) | (go_simp; rfl)); (case hp => exact (Reps.one (show Kd.M (Kd.int .u8) _ _ _ ((wrap64 (48 + (Int.tmod a0 10))) % 256) [.int .u8 ((wrap64 (48 + (Int.tmod a0 10))) % 256)] from rfl) (Reps.none _ _)))
    intro v115 w9 ho10 hb hg_ hnew_
    clear hg_ hnew_
    (first | rw [← Ny114.out] at ho10 | (simp only [Int.reduceToNat] at ho10; rw [← Ny114.out] at ho10))
    have HO116 := asd (Kd.R_lower ho10 (bsz0 HB))
    replace HB := bS0 HB hb
    clear hb ho10
    refine hK.out _ _ trivial (fun hHeld => ?_)
    clear hK K
    refine norm_ (a' := ?_) ?_ ?_
    rotate_left
    ·show Act.put _ (some 17) _ = _
     simp only [Act.put, sA, sB, sC, i64_w, i32_w]
     rfl
    refine two_ (i := 2) (j := 8) (Ni := some 12) (Nj := some 18) (bT 11 8) (bs 11 507) rfl rfl rfl rfl (two_of HT_.out (by kernel_rfl)) (by decide) (by decide) (fun K hK => ?_) (fun K hK => ?_)
    ·skip
     refine gs Tryd.func105 #[.int .i64 (wrap64 (Int.tdiv a0 10))] ?_
     with_reducible refine (ih k (by omega) (wrap64 (Int.tdiv a0 10)) t113 _ A6.out).mono ?_
     rintro e w11 ⟨rfl, hb⟩
     refine ⟨_, rfl, ?_⟩
     replace HO116 := asd (Kd.R_below (kr HO116) hb)
     replace HB := bS0 HB hb
     (try clear hb)
     (try clear hb2)
     (try clear hk)
     (try clear hi)
     refine hK.out _ _ trivial (fun hHeld => ?_)
     clear hK K
     refine norm_ (a' := ?_) ?_ ?_
     rotate_left
     ·show Act.put _ (some 12) _ = _
      simp only [Act.put, sA, sB, sC, i64_w, i32_w]
      rfl
     refine ro 8 (some 18) (bT 11 9) HT_ (fun K hK => ?_)
     have hcv12 := own_string (P := Tryd.prog) Tryd.underlying76 Tryd.underlying5 Tryd.underlying9 (Kd.own_of_R HO116.out)
     refine value_ (w1 := ?_) (v := ?_) (by rfl) rfl ?_ ?_
     rotate_left 2
     ·go_simp
      constructor
      ·rfl
      ·rfl
     clear hcv12
     refine hK.out _ _ trivial (fun hHeld => ?_)
     clear hK K
     refine norm_ (a' := ?_) ?_ ?_
     rotate_left
     ·show Act.put _ (some 18) _ = _
      simp only [Act.put, sA, sB, sC, i64_w, i32_w]
      rfl
     exact norm_ (by simp only [putAll, Act.put, sA, sB, sC]) (hCont (v115) _ ⟨(kr HO116), (bbw0 HB)⟩)
    ·skip
     have hcv11 := own_string (P := Tryd.prog) Tryd.underlying76 Tryd.underlying5 Tryd.underlying9 (Kd.own_of_R HO116.out)
     refine value_ (w1 := ?_) (v := ?_) (by rfl) rfl ?_ ?_
     rotate_left 2
     ·go_simp
      constructor
      ·rfl
      ·rfl
     clear hcv11
     refine hK.out _ _ trivial (fun hHeld => ?_)
     clear hK K
     refine norm_ (a' := ?_) ?_ ?_
     rotate_left
     ·show Act.put _ (some 18) _ = _
      simp only [Act.put, sA, sB, sC, i64_w, i32_w]
      rfl
     refine ro 2 (some 12) (bT 11 9) HT_ (fun K hK => ?_)
     refine gs Tryd.func105 #[.int .i64 (wrap64 (Int.tdiv a0 10))] ?_
     with_reducible refine (ih k (by omega) (wrap64 (Int.tdiv a0 10)) t113 _ A6.out).mono ?_
     rintro e w12 ⟨rfl, hb⟩
     refine ⟨_, rfl, ?_⟩
     replace HO116 := asd (Kd.R_below (kr HO116) hb)
     replace HB := bS0 HB hb
     (try clear hb)
     (try clear hb2)
     (try clear hk)
     (try clear hi)
     refine hK.out _ _ trivial (fun hHeld => ?_)
     clear hK K
     refine norm_ (a' := ?_) ?_ ?_
     rotate_left
     ·show Act.put _ (some 12) _ = _
      simp only [Act.put, sA, sB, sC, i64_w, i32_w]
      rfl
     exact norm_ (by simp only [putAll, Act.put, sA, sB, sC]) (hCont (v115) _ ⟨(kr HO116), (bbw0 HB)⟩)
  rintro v115 w13 ⟨h0_, h1_⟩
  have n0_ : Aside0 (Kd.R (Kd.int .u8) 5 w13 w.heap.size (fun _ => True) v115 y114) := ⟨h0_⟩
  have n1_ : Aside0 (Below w.heap.size w w13) := ⟨h1_⟩
  clear HB
  clear h0_ h1_
  have HO116 := n0_
  have HB := n1_
  clear n0_ n1_
  have hHeld := trivial
  refine norm_ (a' := ?_) ?_ ?_
  rotate_left
  ·simp only [putAll, Act.put, sA, sB, sC]
   rfl
  refine pu 9 (some 19) (bT 11 10) HT_ ?_
  refine pu 10 (some 2) (bT 11 11) HT_ ?_
  refine done_ (done_of HT_.out (by kernel_rfl)) ?_
  try go_wp2
  go_ret
  exact er (bbw0 HB)
/-! ### spec_l01Digits: function 93 -/
mutual
def spec_l01Digits.j0 : Nat → ByteArray → Bool → Option (Int × Bool)
 | 0, _, _ => none
 | k + 1, x0, x13 => if x13 = true then (some (0, false)) else (spec_l01Digits.l0 k x0 0 0)
def spec_l01Digits.l0 : Nat → ByteArray → Int → Int → Option (Int × Bool)
 | 0, _, _, _ => none
 | k + 1, x0, x4, x5 => if x5 < (x0.size : Int) then (if 0 ≤ x5 then (if (bt x0 x5) < 48 then (some (0, false)) else (if (bt x0 x5) > 57 then (some (0, false)) else (spec_l01Digits.l0 k x0 (wrap64 ((wrap64 (10 * x4)) + (((bt x0 x5) - 48) % 256))) (wrap64 (x5 + 1))))) else (none)) else ((spec_l01Dec.f k x4).bind fun t117 => (some (x4, (t117.toList == x0.toList))))
end
def spec_l01Digits.f (k : Nat) (a0 : ByteArray) : Option (Int × Bool) := if (a0.size : Int) < 1 then (spec_l01Digits.j0 k a0 true) else (spec_l01Digits.j0 k a0 (decide ((a0.size : Int) > 10)))
set_option maxHeartbeats 8000000 in
set_option maxRecDepth 100000 in
theorem spec_l01Digits.calls (k : Nat) (a0 : ByteArray) (r1 : Int) (r2 : Bool) (w : World) (h : spec_l01Digits.f k a0 = some (r1, r2)) :
  Calls Tryd.prog 93 #[.string a0] w fun e w' => e = .returned (.tuple #[.int .i64 r1, .bool r2]) ∧ Below w.heap.size w w' := by
 have HB := asd (Below.refl w.heap.size w)
 have H : (if (a0.size : Int) < 1 then (spec_l01Digits.j0 k a0 true) else (spec_l01Digits.j0 k a0 (decide ((a0.size : Int) > 10)))) = some (r1, r2) := h
 clear h
 have HC2 := Aside0.mk H
 clear H
 go_enter Tryd.func93, Tryd.ntmps93
 go_upto_region 1 with (fail)
 go_cut [13] (fun v13 wc => ∃ (kq : Nat) (x13_1 : Bool), v13 = .bool x13_1 ∧ Aside0 (spec_l01Digits.j0 kq a0 x13_1 = some (r1, r2)) ∧ Aside0 (kq ≤ k) ∧ Aside0 (Below w.heap.size w wc))
 case first =>
  have H := HC2.out
  clear HC2
  by_cases c3 : (a0.size : Int) < 1
  ·rw [if_pos c3] at H
   have c3b0 := decide_eq_true c3
   have c3b1 : decide (a0.size < 1) = true := decide_eq_true (by omega)
   clear c3
   (first | rw [c3b0] | (simp only [i64_w, i32_w]; rw [c3b0]) | skip)
   have H' := Aside0.mk H
   clear H
   go_wp2
   go_meet
   case rel => exact ⟨_, (true), (by first | rfl | (simp; done) | (simp [*]; done)), H', ⟨by first | omega | exact Nat.le_refl _⟩, ⟨bbw0 HB⟩⟩
  ·rw [if_neg c3] at H
   have c3b0 := decide_eq_false c3
   have c3b1 : decide (a0.size < 1) = false := decide_eq_false (by omega)
   clear c3
   (first | rw [c3b0] | (simp only [i64_w, i32_w]; rw [c3b0]) | skip)
   have H' := Aside0.mk H
   clear H
   go_wp2
   go_meet
   case rel => exact ⟨_, (decide ((a0.size : Int) > 10)), (by first | rfl | (simp; done) | (simp [*]; done)), H', ⟨by first | omega | exact Nat.le_refl _⟩, ⟨bbw0 HB⟩⟩
 case rest =>
  clear HC2
  try clear p2
  try clear c3
  try clear c3b0
  try clear c3b1
  obtain ⟨kq, x13_1, rfl, HA, HJ1, HB⟩ := hcut
  cases kq with
  | zero => exact absurd HA.out (by simp [spec_l01Digits.j0])
  | succ kj1 =>
   have H := HA.out
   clear HA
   simp only [spec_l01Digits.j0] at H
   by_cases c4 : x13_1 = true
   ·subst c4
    replace H := ifT H
    simp only [Option.some.injEq, Prod.mk.injEq] at H
    obtain ⟨rfl, rfl⟩ := H
    go_wp2
    go_ret2
    exact er (bbw0 HB)
   ·replace c4 := Bool.eq_false_iff.mpr c4
    subst c4
    replace H := ifF H
    have H' := Aside0.mk H
    clear H
    go_wp2
    go_loopg [4, 5] kj1 (fun kq v4 v5 w' => ∃ (x4_2 : Int) (x5_2 : Int), v4 = .int .i64 x4_2 ∧ v5 = .int .i64 x5_2 ∧ Aside0 (spec_l01Digits.l0 kq a0 x4_2 x5_2 = some (r1, r2)) ∧ Aside0 (kq ≤ kj1) ∧ Aside0 (Below w.heap.size w w'))
    case atStart => exact ⟨(0), (0), (by first | rfl | (simp; done) | (simp [*]; done)), (by first | rfl | (simp; done) | (simp [*]; done)), H', ⟨Nat.le_refl _⟩, ⟨bbw0 HB⟩⟩
    case round =>
     clear H'
     try clear p2
     try clear c3
     try clear c3b0
     try clear c3b1
     try clear c4
     try clear p2
     obtain ⟨x4_2, x5_2, rfl, rfl, HA, HK2, HB⟩ := hrel
     cases gk with
     | zero => exact absurd HA.out (by simp [spec_l01Digits.l0])
     | succ k2 =>
      have H := HA.out
      clear HA
      simp only [spec_l01Digits.l0] at H
      by_cases c5 : x5_2 < (a0.size : Int)
      rw [if_pos c5] at H
      have c5b0 := decide_eq_true c5
      clear c5
      by_cases c6 : 0 ≤ x5_2
      rw [if_pos c6] at H
      have c6b0 := decide_eq_true c6
      clear c6
      by_cases c8 : (bt a0 x5_2) < 48
      rw [if_pos c8] at H
      have c8b0 := decide_eq_true c8
      clear c8
      rotate_left
      rw [if_neg c8] at H
      have c8b0 := decide_eq_false c8
      clear c8
      by_cases c10 : (bt a0 x5_2) > 57
      rw [if_pos c10] at H
      have c10b0 : decide (57 < (bt a0 x5_2)) = true := decide_eq_true c10
      clear c10
      rotate_left
      rw [if_neg c10] at H
      have c10b0 : decide (57 < (bt a0 x5_2)) = false := decide_eq_false c10
      clear c10
      have H' := Aside0.mk H
      clear H
      rotate_left
      ·rw [if_neg c6] at H
       exact absurd H (by simp)
      rw [if_neg c5] at H
      have c5b0 := decide_eq_false c5
      clear c5
      obtain ⟨t117, A12, H⟩ := ob H
      try dsimp only at H
      rotate_left
      simp only [Option.some.injEq, Prod.mk.injEq] at H
      obtain ⟨rfl, rfl⟩ := H
      rotate_left
      simp only [Option.some.injEq, Prod.mk.injEq] at H
      obtain ⟨rfl, rfl⟩ := H
      rotate_left 2
      ·simp only [Option.some.injEq, Prod.mk.injEq] at H
       obtain ⟨rfl, rfl⟩ := H
       go_wp2_with (first | ((with_reducible refine gate_callee (f := 105) rfl ?_); refine gl 40 Tryd.func105 #[.int .i64 x4_2] ?_; (with_reducible refine (spec_l01Dec.calls _ _ _ _ A12.out).mono ?_); rintro e w13 ⟨rfl, hb⟩; refine ⟨_, rfl, ?_⟩; replace HB := bS0 HB hb; (try clear hb)))
       go_ret2
       exact er (bbw0 HB)
      all_goals
       have p7 : 0 ≤ (x5_2 : Int) := od
       have q7 : x5_2 < (a0.size : Int) := od
       have hx7 := bt_at a0 x5_2
       replace p7 := eq_true p7
       replace q7 := eq_true q7
      ·go_wp2
       go_ret2
       exact er (bbw0 HB)
      rotate_left 2
      all_goals
       have p9 : 0 ≤ (x5_2 : Int) := od
       have q9 : x5_2 < (a0.size : Int) := od
       have hx9 := bt_at a0 x5_2
       replace p9 := eq_true p9
       replace q9 := eq_true q9
      ·go_wp2
       go_ret2
       exact er (bbw0 HB)
      ·have p11 : 0 ≤ (x5_2 : Int) := od
       have q11 : x5_2 < (a0.size : Int) := od
       have hx11 := bt_at a0 x5_2
       replace p11 := eq_true p11
       replace q11 := eq_true q11
       go_wp2
       go_roundg k2
       case measure => have := HJ1.out; have := HK2.out; omega
       case rel => exact ⟨(wrap64 ((wrap64 (10 * x4_2)) + (((bt a0 x5_2) - 48) % 256))), (wrap64 (x5_2 + 1)), (by first | rfl | (simp; done) | (simp [*]; done)), (by first | rfl | (simp; done) | (simp [*]; done)), H', ⟨by have := HJ1.out; have := HK2.out; omega⟩, ⟨bbw0 HB⟩⟩
/-! ### spec_l01Signed: function 73 -/
def spec_l01Signed.j0 : Nat → ByteArray → Bool → Option (Int × Bool)
 | 0, _, _ => none
 | k + 1, x0, x13 => if x13 = true then (if 1 ≤ (x0.size : Int) then ((spec_l01Digits.f k (x0.extract 1 x0.size)).bind fun bt118 => (if bt118.2 = true then (some (wrap64 (-bt118.1), decide (bt118.1 > 0))) else (some (wrap64 (-bt118.1), false)))) else (none)) else ((spec_l01Digits.f k x0).bind fun bt120 => (some (bt120.1, bt120.2)))
def spec_l01Signed.f (k : Nat) (a0 : ByteArray) : Option (Int × Bool) := if (a0.size : Int) > 0 then (if 0 < (a0.size : Int) then (spec_l01Signed.j0 k a0 ((bt a0 0) == 45)) else (none)) else (spec_l01Signed.j0 k a0 false)
set_option maxHeartbeats 8000000 in
set_option maxRecDepth 100000 in
theorem spec_l01Signed.calls (k : Nat) (a0 : ByteArray) (r1 : Int) (r2 : Bool) (w : World) (h : spec_l01Signed.f k a0 = some (r1, r2)) :
  Calls Tryd.prog 73 #[.string a0] w fun e w' => e = .returned (.tuple #[.int .i64 r1, .bool r2]) ∧ Below w.heap.size w w' := by
 have HB := asd (Below.refl w.heap.size w)
 have H : (if (a0.size : Int) > 0 then (if 0 < (a0.size : Int) then (spec_l01Signed.j0 k a0 ((bt a0 0) == 45)) else (none)) else (spec_l01Signed.j0 k a0 false)) = some (r1, r2) := h
 clear h
 have HC2 := Aside0.mk H
 clear H
 go_enter Tryd.func73, Tryd.ntmps73
 go_upto_region 1 with (fail)
 go_cut [13] (fun v13 wc => ∃ (kq : Nat) (x13_1 : Bool), v13 = .bool x13_1 ∧ Aside0 (spec_l01Signed.j0 kq a0 x13_1 = some (r1, r2)) ∧ Aside0 (kq ≤ k) ∧ Aside0 (Below w.heap.size w wc))
 case first =>
  have H := HC2.out
  clear HC2
  by_cases c3 : (a0.size : Int) > 0
  ·rw [if_pos c3] at H
   have c3b0 : decide (0 < (a0.size : Int)) = true := decide_eq_true c3
   have c3b1 : decide (0 < a0.size) = true := decide_eq_true (by omega)
   clear c3
   (first | rw [c3b0] | (simp only [i64_w, i32_w]; rw [c3b0]) | skip)
   by_cases c4 : 0 < (a0.size : Int)
   ·rw [if_pos c4] at H
    have c4b0 := decide_eq_true c4
    have c4b1 : decide (0 < a0.size) = true := decide_eq_true (by omega)
    clear c4
    have H' := Aside0.mk H
    clear H
    have p5 : 0 ≤ (0 : Int) := (by omega)
    have q5 : 0 < a0.size := (by have : (0 : Int) < (a0.size : Int) := od; omega)
    have hx5 : ∀ h : 0 < a0.size, ((a0[0]'h).toNat : Int) = bt a0 0 := bt_at a0 0
    clear p5
    have qi5 : (0 < (a0.size : Int)) = True := eq_true (od)
    replace q5 := eq_true q5
    go_wp2
    go_meet
    case rel => exact ⟨_, (((bt a0 0) == 45)), (by first | rfl | (simp; done) | (simp [*]; done)), H', ⟨by first | omega | exact Nat.le_refl _⟩, ⟨bbw0 HB⟩⟩
   ·rw [if_neg c4] at H
    exact absurd H (by simp)
  ·rw [if_neg c3] at H
   have c3b0 : decide (0 < (a0.size : Int)) = false := decide_eq_false c3
   have c3b1 : decide (0 < a0.size) = false := decide_eq_false (by omega)
   clear c3
   (first | rw [c3b0] | (simp only [i64_w, i32_w]; rw [c3b0]) | skip)
   have H' := Aside0.mk H
   clear H
   go_wp2
   go_meet
   case rel => exact ⟨_, (false), (by first | rfl | (simp; done) | (simp [*]; done)), H', ⟨by first | omega | exact Nat.le_refl _⟩, ⟨bbw0 HB⟩⟩
 case rest =>
  clear HC2
  try clear p2
  try clear c3
  try clear c3b0
  try clear c3b1
  try clear c4
  try clear c4b0
  try clear c4b1
  try clear p5
  try clear q5
  try clear hx5
  try clear qi5
  try clear p5
  try clear q5
  obtain ⟨kq, x13_1, rfl, HA, HJ1, HB⟩ := hcut
  cases kq with
  | zero => exact absurd HA.out (by simp [spec_l01Signed.j0])
  | succ kj1 =>
   have H := HA.out
   clear HA
   simp only [spec_l01Signed.j0] at H
   by_cases c6 : x13_1 = true
   subst c6
   replace H := ifT H
   by_cases c7 : 1 ≤ (a0.size : Int)
   rw [if_pos c7] at H
   have c7b0 := eq_true c7
   have c7b1 := decide_eq_true c7
   clear c7
   obtain ⟨⟨t118, t119⟩, A8, H⟩ := ob H
   try dsimp only at H
   by_cases c9 : t119 = true
   subst c9
   replace H := ifT H
   rotate_left
   replace c9 := Bool.eq_false_iff.mpr c9
   subst c9
   replace H := ifF H
   rotate_left
   ·rw [if_neg c7] at H
    exact absurd H (by simp)
   replace c6 := Bool.eq_false_iff.mpr c6
   subst c6
   replace H := ifF H
   obtain ⟨⟨t120, t121⟩, A12, H⟩ := ob H
   try dsimp only at H
   rotate_left
   all_goals
    simp only [Option.some.injEq, Prod.mk.injEq] at H
    obtain ⟨rfl, rfl⟩ := H
   rotate_left 2
   ·go_wp2_with (first | ((with_reducible refine gate_callee (f := 93) rfl ?_); refine gl 28 Tryd.func93 #[.string a0] ?_; (with_reducible refine (spec_l01Digits.calls _ _ _ _ _ A12.out).mono ?_); rintro e w13 ⟨rfl, hb⟩; refine ⟨_, rfl, ?_⟩; replace HB := bS0 HB hb; (try clear hb)))
    go_ret2
    exact er (bbw0 HB)
   all_goals
    go_wp2_with (first | ((with_reducible refine gate_callee (f := 93) rfl ?_); refine gl 17 Tryd.func93 #[.string (a0.extract 1 a0.size)] ?_; (with_reducible refine (spec_l01Digits.calls _ _ _ _ _ A8.out).mono ?_); rintro e w10 ⟨rfl, hb⟩; refine ⟨_, rfl, ?_⟩; replace HB := bS0 HB hb; (try clear hb)))
    go_ret2
    exact er (bbw0 HB)
/-! ### spec_l01Numbers: function 50 -/
def spec_l01Numbers.l0 : Nat → List ByteArray → List Int → Int → Option (List Int × Bool)
 | 0, _, _, _ => none
 | k + 1, x0, x4, x5 => if x5 < (x0.length : Int) then (if 0 ≤ x5 then ((spec_l01Signed.f k (rdOf ByteArray.empty x0 x5)).bind fun bt126 => (if bt126.2 = true then (if x4.length < 17592186044416 then (spec_l01Numbers.l0 k x0 (x4 ++ [bt126.1]) (wrap64 (x5 + 1))) else (none)) else (some (([] : List Int), false)))) else (none)) else (some (x4, true))
def spec_l01Numbers.f (k : Nat) (l0 : List ByteArray) : Option (List Int × Bool) := spec_l01Numbers.l0 k l0 (([] : List Int)) 0
set_option maxHeartbeats 8000000 in
set_option maxRecDepth 100000 in
theorem spec_l01Numbers.calls (k : Nat) (A0 : Option Addr) (c0 : Nat) (l0 : List ByteArray) (r1 : List Int) (r2 : Bool) (w : World) (hr0 : Kd.C Kd.string w A0 l0.length l0) (hc0 : l0.length ≤ c0) (h : spec_l01Numbers.f k l0 = some (r1, r2)) :
  Calls Tryd.prog 50 #[.slice A0 l0.length c0] w fun e w' => ∃ v0_ : Value, e = .returned (.tuple #[v0_, .bool r2]) ∧ Kd.R (Kd.int .i64) 2 w' w.heap.size (fun _ => True) v0_ r1 ∧ Below w.heap.size w w' := by
 have HR0 := Aside0.mk hr0
 have HC0 := Aside0.mk hc0
 clear hr0 hc0
 have HB := asd (Below.refl w.heap.size w)
 have H : (spec_l01Numbers.l0 k l0 (([] : List Int)) 0) = some (r1, r2) := h
 clear h
 obtain ⟨y122, hy122⟩ : ∃ y_ : List Int, y_ = (([] : List Int)) := ⟨_, rfl⟩
 replace H : (spec_l01Numbers.l0 k l0 y122 0) = some (r1, r2) := by first | (rw [hy122]; with_reducible exact H) | (have H2_ := (Option.bind_some _ _).symm.trans H; rw [hy122]; with_reducible exact H2_) | (have H2_ := (Option.bind_some _ _).symm.trans H; with_reducible exact H2_) | with_reducible exact H | (rw [hy122]; exact H) | exact H
 have Ny122 := Aside0.mk hy122
 clear hy122
 have H' := Aside0.mk H
 clear H
 go_enter Tryd.func50, Tryd.ntmps50
 go_wp2_with (first | ((with_reducible refine gd 8 rfl ?_); refine Kd.R_lit (Kd.int .i64) _ 2 ?hg (N := 8) ?hd (xs := ([] : List Int)) (inner := []) (ok := fun _ => True) (okp := fun _ => True) ?hr ?hp (fun _ hk => hk) trivial (Below.refl _ _) (Nat.le_refl _) (by simp) ?_; (case hd => rfl); (case hg => rfl); (case hr => first | (go_simp; done) | (go_simp; rfl)); (case hp => exact (Reps.none _ _)); intro v123 w2 ho3 hb hg_ hnew_; clear hg_ hnew_; (first | rw [← Ny122.out] at ho3 | (simp only [Int.reduceToNat] at ho3; rw [← Ny122.out] at ho3)); have HO124 := asd (Kd.R_lower ho3 (bsz0 HB)); replace HB := bS0 HB hb; clear hb ho3))
 go_loopg [4, 5] k (fun kq v4 v5 w' => ∃ (x4_1 : List Int) (x5_1 : Int), v5 = .int .i64 x5_1 ∧ Aside0 (spec_l01Numbers.l0 kq l0 x4_1 x5_1 = some (r1, r2)) ∧ Aside0 (kq ≤ k) ∧ Aside0 (Kd.R (Kd.int .i64) 2 w' w.heap.size (fun _ => True) v4 x4_1) ∧ Aside0 (Below w.heap.size w w'))
 case atStart => exact ⟨(y122), (0), (by first | rfl | (simp; done) | (simp [*]; done)), H', ⟨Nat.le_refl _⟩, ⟨by (with_reducible repeat (first | apply Kd.R_alloc | apply Kd.R_drewN | apply Kd.R_drew)); exact HO124.out⟩, ⟨bbw0 HB⟩⟩
 case round =>
  clear H'
  try clear p2
  obtain ⟨x4_1, x5_1, rfl, HA, HK1, HO_4, HB⟩ := hrel
  cases gk with
  | zero => exact absurd HA.out (by simp [spec_l01Numbers.l0])
  | succ k1 =>
   have H := HA.out
   clear HA
   simp only [spec_l01Numbers.l0] at H
   by_cases c4 : x5_1 < (l0.length : Int)
   rw [if_pos c4] at H
   have c4b0 := decide_eq_true c4
   clear c4
   by_cases c5 : 0 ≤ x5_1
   rw [if_pos c5] at H
   have c5b0 := decide_eq_true c5
   clear c5
   obtain ⟨⟨t126, t127⟩, A6, H⟩ := ob H
   try dsimp only at H
   by_cases c7 : t127 = true
   subst c7
   replace H := ifT H
   by_cases c8 : x4_1.length < 17592186044416
   rw [if_pos c8] at H
   have LMc8 := Aside0.mk c8
   clear c8
   obtain ⟨y128, hy128⟩ : ∃ y_ : List Int, y_ = (x4_1 ++ [t126]) := ⟨_, rfl⟩
   replace H : (spec_l01Numbers.l0 k1 l0 y128 (wrap64 (x5_1 + 1))) = some (r1, r2) := by first | (rw [hy128]; with_reducible exact H) | (have H2_ := (Option.bind_some _ _).symm.trans H; rw [hy128]; with_reducible exact H2_) | (have H2_ := (Option.bind_some _ _).symm.trans H; with_reducible exact H2_) | with_reducible exact H | (rw [hy128]; exact H) | exact H
   have Ny128 := Aside0.mk hy128
   clear hy128
   have H' := Aside0.mk H
   clear H
   rotate_left
   ·rw [if_neg c8] at H
    exact absurd H (by simp)
   replace c7 := Bool.eq_false_iff.mpr c7
   subst c7
   replace H := ifF H
   rotate_left
   ·rw [if_neg c5] at H
    exact absurd H (by simp)
   rw [if_neg c4] at H
   have c4b0 := decide_eq_false c4
   clear c4
   rotate_left
   rotate_left
   simp only [Option.some.injEq, Prod.mk.injEq] at H
   obtain ⟨rfl, rfl⟩ := H
   rotate_left
   ·simp only [Option.some.injEq, Prod.mk.injEq] at H
    obtain ⟨rfl, rfl⟩ := H
    go_wp2
    go_ret2
    exact ⟨_, by first | rfl | (simp [errW_none, errW_some] <;> rfl) | (simp [*, errW_none, errW_some] <;> rfl), by (with_reducible repeat (first | apply Kd.R_alloc | apply Kd.R_drewN | apply Kd.R_drew)); exact HO_4.out, bbw0 HB⟩
   all_goals
    have p125 : 0 ≤ (x5_1 : Int) := od
    have q125 : x5_1 < (l0.length : Int) := od
    obtain ⟨ad125, e125, hx125_0⟩ := Kd.at_string HR0.out x5_1 p125 q125
    cases e125
    replace hx125_0 := xb HB hx125_0
    replace p125 := eq_true p125
    replace q125 := eq_true q125
    go_wp2_with (first | ((with_reducible refine gate_callee (f := 73) rfl ?_); refine gl 20 Tryd.func73 #[.string (rdOf ByteArray.empty l0 x5_1)] ?_; (with_reducible refine (spec_l01Signed.calls _ _ _ _ _ A6.out).mono ?_); rintro e w9 ⟨rfl, hb⟩; refine ⟨_, rfl, ?_⟩; replace HO_4 := asd (Kd.R_below (kr HO_4) hb); replace HB := bS0 HB hb; (try clear hb)) | ((with_reducible refine gate_builtin (b := .append) (xs := #[.tmp 25, .tmp 27]) rfl ?_); at_builtin; refine Kd.R_append (Kd.int .i64) (w0 := w) w.heap.size rfl (.tmp 25) (.tmp 27) 22 2 (.int .i64 0) 8 rfl Tryd.underlying22 info2 rfl (by decide) (by omega) u4 x4_1 t126 [.int .i64 t126] (fun _ => True) (fun _ => False) rfl rfl ?aP (fun _ hk => hk.elim) ?aF ?aO ?aB ?aS ?aL ?_; (case aP => exact rfl); (case aB => exact (bbw0 HB)); (case aF => exact (fun _ _ => trivial)); (case aO => exact (kr HO_4)); (case aS => exact (bsz0 HB)); (case aL => have := LMc8.out; omega); intro v129 w10 ho hb hg hat; rw [← Ny128.out] at ho; have n0_ := asd (hb); have n1_ := asd (ho); clear HB; clear HO_4; have HB := n0_; have HO130 := n1_; clear n0_ n1_; clear ho hb hg hat))
   ·go_roundg k1
    case measure => have := HK1.out; omega
    case rel => exact ⟨(y128), (wrap64 (x5_1 + 1)), (by first | rfl | (simp; done) | (simp [*]; done)), H', ⟨by have := HK1.out; omega⟩, ⟨by (with_reducible repeat (first | apply Kd.R_alloc | apply Kd.R_drewN | apply Kd.R_drew)); exact HO130.out⟩, ⟨bbw0 HB⟩⟩
   ·go_ret2
    exact ⟨_, by first | rfl | (simp [errW_none, errW_some] <;> rfl) | (simp [*, errW_none, errW_some] <;> rfl), by first | exact Kd.R_nil _ _ _ _ _ | exact Kd.N_nil _ _ _ _ _ | exact Kd.V_nil _ _ _ _ _ | exact Kd.Q_nil _ _ _ _ _ | exact Kd.S_nil _ _ _ _ _, bbw0 HB⟩
/-! ### spec_l01In: function 69 -/
def spec_l01In.f (a0 : Int) (a1 : Int) (a2 : Int) : Option (Bool) := if a0 ≥ a1 then (some (decide (a0 ≤ a2))) else (some false)
set_option maxHeartbeats 8000000 in
set_option maxRecDepth 100000 in
theorem spec_l01In.calls (a0 : Int) (a1 : Int) (a2 : Int) (r : Bool) (w : World) (h : spec_l01In.f a0 a1 a2 = some r) :
  Calls Tryd.prog 69 #[.int .i64 a0, .int .i64 a1, .int .i64 a2] w fun e w' => e = .returned (.bool r) ∧ Drawn0 w w' := by
 have H : (if a0 ≥ a1 then (some (decide (a0 ≤ a2))) else (some false)) = some r := h
 clear h
 by_cases c4 : a0 ≥ a1
 ·rw [if_pos c4] at H
  have c4b0 : decide (a1 ≤ a0) = true := decide_eq_true c4
  clear c4
  obtain rfl := Option.some.inj H
  go_enter Tryd.func69, Tryd.ntmps69
  go_wp2
  go_ret
  exact ⟨by first | rfl | (simp; done) | (simp [*]; done), by repeat (first | exact Drawn0.refl _ | apply Drawn0.step)⟩
 ·rw [if_neg c4] at H
  have c4b0 : decide (a1 ≤ a0) = false := decide_eq_false c4
  clear c4
  obtain rfl := Option.some.inj H
  go_enter Tryd.func69, Tryd.ntmps69
  go_wp2
  go_ret
  exact ⟨by first | rfl | (simp; done) | (simp [*]; done), by repeat (first | exact Drawn0.refl _ | apply Drawn0.step)⟩
/-! ### spec_IsVec: function 52 -/
def spec_IsVec.f (a0_0 : Int) (a0_1 : Int) : Option (Bool) := (spec_l01In.f a0_0 (-1000) 1000).bind fun t132 => (if t132 = true then ((spec_l01In.f a0_1 (-1000) 1000).bind fun t133 => (some t133)) else (some false))
set_option maxHeartbeats 8000000 in
set_option maxRecDepth 100000 in
theorem spec_IsVec.calls (a0_0 : Int) (a0_1 : Int) (r : Bool) (w : World) (h : spec_IsVec.f a0_0 a0_1 = some r) :
  Calls Tryd.prog 52 #[.agg #[.int .i64 a0_0, .int .i64 a0_1]] w fun e w' => e = .returned (.bool r) ∧ Below w.heap.size w w' := by
 have hu33 := Tryd.underlying33
 have HB := asd (Below.refl w.heap.size w)
 have H : ((spec_l01In.f a0_0 (-1000) 1000).bind fun t132 => (if t132 = true then ((spec_l01In.f a0_1 (-1000) 1000).bind fun t133 => (some t133)) else (some false))) = some r := h
 clear h
 obtain ⟨t132, A2, H⟩ := ob H
 try dsimp only at H
 by_cases c3 : t132 = true
 subst c3
 replace H := ifT H
 obtain ⟨t133, A4, H⟩ := ob H
 try dsimp only at H
 obtain rfl := Option.some.inj H
 rotate_left
 replace c3 := Bool.eq_false_iff.mpr c3
 subst c3
 replace H := ifF H
 obtain rfl := Option.some.inj H
 rotate_left
 all_goals
  go_enter Tryd.func52, Tryd.ntmps52
  go_wp2_with (first | ((with_reducible refine gd 1 rfl ?_); refine bx #[.int .i64 a0_0, .int .i64 a0_1] 33 ?_; intro gb131 hg w5 BK131 hb; have GE131 := ngw0 hg HB; replace HB := bS0 HB hb; clear hb hg; obtain ⟨hcz6_0, hcz6_1, hfz6_0, hfz6_1⟩ := bz2 BK131) | ((with_reducible refine gate_callee (f := 69) rfl ?_); refine gl 5 Tryd.func69 #[.int .i64 a0_0, .int .i64 (-1000), .int .i64 1000] ?_; (with_reducible refine (spec_l01In.calls _ _ _ _ _ A2.out).mono ?_); rintro e w' ⟨rfl, ⟨nd, rfl⟩⟩; refine ⟨_, rfl, ?_⟩) | (go_at_call 69; (with_reducible refine (spec_l01In.calls _ _ _ _ _ A4.out).mono ?_); rintro e w' ⟨rfl, ⟨nd, rfl⟩⟩))
  go_ret
  exact er (bbw1 HB GE131)
/-! ### spec_l02Small: function 74 -/
def spec_l02Small.f (a0_0 : Int) (a0_1 : Int) (a0_2 : Int) (a0_3 : Int) : Option (Bool) := (spec_IsVec.f a0_0 a0_1).bind fun t135 => (if t135 = true then ((spec_IsVec.f a0_2 a0_3).bind fun t136 => (some t136)) else (some false))
set_option maxHeartbeats 8000000 in
set_option maxRecDepth 100000 in
theorem spec_l02Small.calls (a0_0 : Int) (a0_1 : Int) (a0_2 : Int) (a0_3 : Int) (r : Bool) (w : World) (h : spec_l02Small.f a0_0 a0_1 a0_2 a0_3 = some r) :
  Calls Tryd.prog 74 #[.agg #[.int .i64 a0_0, .int .i64 a0_1, .int .i64 a0_2, .int .i64 a0_3]] w fun e w' => e = .returned (.bool r) ∧ Below w.heap.size w w' := by
 have hu31 := Tryd.underlying31
 have hu33 := Tryd.underlying33
 have HB := asd (Below.refl w.heap.size w)
 have H : ((spec_IsVec.f a0_0 a0_1).bind fun t135 => (if t135 = true then ((spec_IsVec.f a0_2 a0_3).bind fun t136 => (some t136)) else (some false))) = some r := h
 clear h
 obtain ⟨t135, A2, H⟩ := ob H
 try dsimp only at H
 by_cases c3 : t135 = true
 ·subst c3
  replace H := ifT H
  obtain ⟨t136, A4, H⟩ := ob H
  try dsimp only at H
  obtain rfl := Option.some.inj H
  go_enter Tryd.func74, Tryd.ntmps74
  go_wp2_with (first | ((with_reducible refine gd 1 rfl ?_); refine bx #[.int .i64 a0_0, .int .i64 a0_1, .int .i64 a0_2, .int .i64 a0_3] 31 ?_; intro gb134 hg w5 BK134 hb; have GE134 := ngw0 hg HB; replace HB := bS0 HB hb; clear hb hg; obtain ⟨hcz6_0, hcz6_1, hcz6_2, hcz6_3, hfz6_0, hfz6_1, hfz6_2, hfz6_3⟩ := bz4 BK134) | ((with_reducible refine gate_callee (f := 52) rfl ?_); refine gl 8 Tryd.func52 #[.agg #[.int .i64 a0_0, .int .i64 a0_1]] ?_; (with_reducible refine (spec_IsVec.calls _ _ _ _ A2.out).mono ?_); rintro e w7 ⟨rfl, hb⟩; refine ⟨_, rfl, ?_⟩; replace BK134 := bB BK134 hb; replace HB := bS1 HB GE134 hb; (try clear hb); obtain ⟨hcz8_0, hcz8_1, hcz8_2, hcz8_3, hfz8_0, hfz8_1, hfz8_2, hfz8_3⟩ := bz4 BK134) | (go_at_call 52; (with_reducible refine (spec_IsVec.calls _ _ _ _ A4.out).mono ?_); rintro e w9 ⟨rfl, hb⟩; replace BK134 := bB BK134 hb; replace HB := bS1 HB GE134 hb; (try clear hb)))
  go_ret
  exact er (bbw1 HB GE134)
 ·replace c3 := Bool.eq_false_iff.mpr c3
  subst c3
  replace H := ifF H
  obtain rfl := Option.some.inj H
  go_enter Tryd.func74, Tryd.ntmps74
  go_wp2_with (first | ((with_reducible refine gd 1 rfl ?_); refine bx #[.int .i64 a0_0, .int .i64 a0_1, .int .i64 a0_2, .int .i64 a0_3] 31 ?_; intro gb134 hg w10 BK134 hb; have GE134 := ngw0 hg HB; replace HB := bS0 HB hb; clear hb hg; obtain ⟨hcz11_0, hcz11_1, hcz11_2, hcz11_3, hfz11_0, hfz11_1, hfz11_2, hfz11_3⟩ := bz4 BK134) | ((with_reducible refine gate_callee (f := 52) rfl ?_); refine gl 8 Tryd.func52 #[.agg #[.int .i64 a0_0, .int .i64 a0_1]] ?_; (with_reducible refine (spec_IsVec.calls _ _ _ _ A2.out).mono ?_); rintro e w12 ⟨rfl, hb⟩; refine ⟨_, rfl, ?_⟩; replace BK134 := bB BK134 hb; replace HB := bS1 HB GE134 hb; (try clear hb)))
  go_ret
  exact er (bbw1 HB GE134)
/-! ### spec_l02Det: function 75 -/
def spec_l02Det.f (a0_0 : Int) (a0_1 : Int) (a0_2 : Int) (a0_3 : Int) : Option (Int) := some (wrap64 ((wrap64 (a0_0 * a0_3)) - (wrap64 (a0_1 * a0_2))))
set_option maxHeartbeats 8000000 in
set_option maxRecDepth 100000 in
theorem spec_l02Det.calls (a0_0 : Int) (a0_1 : Int) (a0_2 : Int) (a0_3 : Int) (r : Int) (w : World) (h : spec_l02Det.f a0_0 a0_1 a0_2 a0_3 = some r) :
  Calls Tryd.prog 75 #[.agg #[.int .i64 a0_0, .int .i64 a0_1, .int .i64 a0_2, .int .i64 a0_3]] w fun e w' => e = .returned (.int .i64 r) ∧ Below w.heap.size w w' := by
 have hu31 := Tryd.underlying31
 have HB := asd (Below.refl w.heap.size w)
 have H : (some (wrap64 ((wrap64 (a0_0 * a0_3)) - (wrap64 (a0_1 * a0_2))))) = some r := h
 clear h
 obtain rfl := Option.some.inj H
 go_enter Tryd.func75, Tryd.ntmps75
 go_wp2_with (first | ((with_reducible refine gd 1 rfl ?_); refine bx #[.int .i64 a0_0, .int .i64 a0_1, .int .i64 a0_2, .int .i64 a0_3] 31 ?_; intro gb137 hg w2 BK137 hb; have GE137 := ngw0 hg HB; replace HB := bS0 HB hb; clear hb hg; obtain ⟨hcz3_0, hcz3_1, hcz3_2, hcz3_3, hfz3_0, hfz3_1, hfz3_2, hfz3_3⟩ := bz4 BK137))
 go_ret
 exact er (bbw1 HB GE137)
/-! ### spec_IsMat: function 51 -/
def spec_IsMat.f (a0_0 : Int) (a0_1 : Int) (a0_2 : Int) (a0_3 : Int) : Option (Bool) := (spec_l02Small.f a0_0 a0_1 a0_2 a0_3).bind fun t139 => (if t139 = true then ((spec_l02Det.f a0_0 a0_1 a0_2 a0_3).bind fun t140 => (if t140 = 1 then (some true) else ((spec_l02Det.f a0_0 a0_1 a0_2 a0_3).bind fun t141 => (some (t141 == (-1)))))) else (some false))
set_option maxHeartbeats 8000000 in
set_option maxRecDepth 100000 in
theorem spec_IsMat.calls (a0_0 : Int) (a0_1 : Int) (a0_2 : Int) (a0_3 : Int) (r : Bool) (w : World) (h : spec_IsMat.f a0_0 a0_1 a0_2 a0_3 = some r) :
  Calls Tryd.prog 51 #[.agg #[.int .i64 a0_0, .int .i64 a0_1, .int .i64 a0_2, .int .i64 a0_3]] w fun e w' => e = .returned (.bool r) ∧ Below w.heap.size w w' := by
 have hu31 := Tryd.underlying31
 have HB := asd (Below.refl w.heap.size w)
 have H : ((spec_l02Small.f a0_0 a0_1 a0_2 a0_3).bind fun t139 => (if t139 = true then ((spec_l02Det.f a0_0 a0_1 a0_2 a0_3).bind fun t140 => (if t140 = 1 then (some true) else ((spec_l02Det.f a0_0 a0_1 a0_2 a0_3).bind fun t141 => (some (t141 == (-1)))))) else (some false))) = some r := h
 clear h
 obtain ⟨t139, A2, H⟩ := ob H
 try dsimp only at H
 by_cases c3 : t139 = true
 ·subst c3
  replace H := ifT H
  obtain ⟨t140, A4, H⟩ := ob H
  try dsimp only at H
  by_cases c5 : t140 = 1
  ·rw [if_pos c5] at H
   have c5b0 : (t140 == 1) = true := beq_iff_eq.mpr c5
   have c5b1 : (t140 != 1) = false := bne_eq_false_iff_eq.mpr c5
   clear c5
   obtain rfl := Option.some.inj H
   go_enter Tryd.func51, Tryd.ntmps51
   go_wp2_with (first | ((with_reducible refine gd 1 rfl ?_); refine bx #[.int .i64 a0_0, .int .i64 a0_1, .int .i64 a0_2, .int .i64 a0_3] 31 ?_; intro gb138 hg w6 BK138 hb; have GE138 := ngw0 hg HB; replace HB := bS0 HB hb; clear hb hg; obtain ⟨hcz7_0, hcz7_1, hcz7_2, hcz7_3, hfz7_0, hfz7_1, hfz7_2, hfz7_3⟩ := bz4 BK138) | ((with_reducible refine gate_callee (f := 74) rfl ?_); refine gl 4 Tryd.func74 #[.agg #[.int .i64 a0_0, .int .i64 a0_1, .int .i64 a0_2, .int .i64 a0_3]] ?_; (with_reducible refine (spec_l02Small.calls _ _ _ _ _ _ A2.out).mono ?_); rintro e w8 ⟨rfl, hb⟩; refine ⟨_, rfl, ?_⟩; replace BK138 := bB BK138 hb; replace HB := bS1 HB GE138 hb; (try clear hb); obtain ⟨hcz9_0, hcz9_1, hcz9_2, hcz9_3, hfz9_0, hfz9_1, hfz9_2, hfz9_3⟩ := bz4 BK138) | (go_at_call 75; (with_reducible refine (spec_l02Det.calls _ _ _ _ _ _ A4.out).mono ?_); rintro e w10 ⟨rfl, hb⟩; replace BK138 := bB BK138 hb; replace HB := bS1 HB GE138 hb; (try clear hb)))
   go_ret
   exact er (bbw1 HB GE138)
  ·rw [if_neg c5] at H
   have c5b0 : (t140 == 1) = false := beq_eq_false_iff_ne.mpr c5
   have c5b1 : (t140 != 1) = true := bne_iff_ne.mpr c5
   obtain ⟨t141, A11, H⟩ := ob H
   try dsimp only at H
   have e_ : t140 = t141 := Option.some.inj (A4.out.symm.trans A11.out)
   subst e_
   obtain rfl := Option.some.inj H
   go_enter Tryd.func51, Tryd.ntmps51
   go_wp2_with (first | ((with_reducible refine gd 1 rfl ?_); refine bx #[.int .i64 a0_0, .int .i64 a0_1, .int .i64 a0_2, .int .i64 a0_3] 31 ?_; intro gb138 hg w12 BK138 hb; have GE138 := ngw0 hg HB; replace HB := bS0 HB hb; clear hb hg; obtain ⟨hcz13_0, hcz13_1, hcz13_2, hcz13_3, hfz13_0, hfz13_1, hfz13_2, hfz13_3⟩ := bz4 BK138) | ((with_reducible refine gate_callee (f := 74) rfl ?_); refine gl 4 Tryd.func74 #[.agg #[.int .i64 a0_0, .int .i64 a0_1, .int .i64 a0_2, .int .i64 a0_3]] ?_; (with_reducible refine (spec_l02Small.calls _ _ _ _ _ _ A2.out).mono ?_); rintro e w14 ⟨rfl, hb⟩; refine ⟨_, rfl, ?_⟩; replace BK138 := bB BK138 hb; replace HB := bS1 HB GE138 hb; (try clear hb); obtain ⟨hcz15_0, hcz15_1, hcz15_2, hcz15_3, hfz15_0, hfz15_1, hfz15_2, hfz15_3⟩ := bz4 BK138) | (go_at_call 75; (with_reducible refine (spec_l02Det.calls _ _ _ _ _ _ A4.out).mono ?_); rintro e w16 ⟨rfl, hb⟩; replace BK138 := bB BK138 hb; replace HB := bS1 HB GE138 hb; (try clear hb); obtain ⟨hcz17_0, hcz17_1, hcz17_2, hcz17_3, hfz17_0, hfz17_1, hfz17_2, hfz17_3⟩ := bz4 BK138) | (go_at_call 75; (with_reducible refine (spec_l02Det.calls _ _ _ _ _ _ A11.out).mono ?_); rintro e w18 ⟨rfl, hb⟩; replace BK138 := bB BK138 hb; replace HB := bS1 HB GE138 hb; (try clear hb)))
   go_ret
   exact er (bbw1 HB GE138)
 ·replace c3 := Bool.eq_false_iff.mpr c3
  subst c3
  replace H := ifF H
  obtain rfl := Option.some.inj H
  go_enter Tryd.func51, Tryd.ntmps51
  go_wp2_with (first | ((with_reducible refine gd 1 rfl ?_); refine bx #[.int .i64 a0_0, .int .i64 a0_1, .int .i64 a0_2, .int .i64 a0_3] 31 ?_; intro gb138 hg w19 BK138 hb; have GE138 := ngw0 hg HB; replace HB := bS0 HB hb; clear hb hg; obtain ⟨hcz20_0, hcz20_1, hcz20_2, hcz20_3, hfz20_0, hfz20_1, hfz20_2, hfz20_3⟩ := bz4 BK138) | ((with_reducible refine gate_callee (f := 74) rfl ?_); refine gl 4 Tryd.func74 #[.agg #[.int .i64 a0_0, .int .i64 a0_1, .int .i64 a0_2, .int .i64 a0_3]] ?_; (with_reducible refine (spec_l02Small.calls _ _ _ _ _ _ A2.out).mono ?_); rintro e w21 ⟨rfl, hb⟩; refine ⟨_, rfl, ?_⟩; replace BK138 := bB BK138 hb; replace HB := bS1 HB GE138 hb; (try clear hb)))
  go_ret
  exact er (bbw1 HB GE138)
/-! ### spec_ReadMat: function 27 -/
def spec_ReadMat.j0 : Nat → List Int → Bool → Option (Int × Int × Int × Int × Bool)
 | 0, _, _ => none
 | k + 1, x4, x19 => if x19 = true then (some (0, 0, 0, 0, false)) else (if 0 < (x4.length : Int) then (if 1 < (x4.length : Int) then (if 2 < (x4.length : Int) then (if 3 < (x4.length : Int) then ((spec_IsMat.f (rd x4 0) (rd x4 1) (rd x4 2) (rd x4 3)).bind fun t155 => (if t155 = true then (some (rd x4 0, rd x4 1, rd x4 2, rd x4 3, true)) else (some (0, 0, 0, 0, false)))) else (none)) else (none)) else (none)) else (none))
def spec_ReadMat.f (k : Nat) (a0 : ByteArray) : Option (Int × Int × Int × Int × Bool) := (spec_l01Split.f k a0 44).bind fun t143 => ((spec_l01Numbers.f k t143).bind fun bt146 => (if bt146.2 = true then (spec_ReadMat.j0 k bt146.1 ((bt146.1.length : Int) != 4)) else (spec_ReadMat.j0 k bt146.1 true)))
def spec_ReadMat.T4 : Bool × List (List Nat × List Nat) := (true, [([], []), ([0], [0]), ([1], [1]), ([], []), ([3], [3]), ([4], [4]), ([], []), ([6], [6]), ([7], [7]), ([], []), ([9], [9]), ([10], [10]), ([2, 5, 8, 11], [2, 5, 8, 11]), ([], []), ([13, 12, 0, 1, 2, 3, 4, 5, 6, 7, 8, 9, 10, 11, 12, 13], [12, 13])])
def spec_ReadMat.B4 : List Nat := [0, 1, 3, 0, 8, 24, 0, 64, 192, 0, 512, 1536, 4095, 0, 16383]
theorem spec_ReadMat.tab4 : rtab .any (opsOf Tryd.f27 4) = spec_ReadMat.T4 := by kernel_rfl
theorem spec_ReadMat.bits4 : waitsOk spec_ReadMat.T4.2 spec_ReadMat.B4 = true := by kernel_rfl
set_option maxHeartbeats 8000000 in
set_option maxRecDepth 100000 in
theorem spec_ReadMat.calls (k : Nat) (a0 : ByteArray) (r1 : Int) (r2 : Int) (r3 : Int) (r4 : Int) (r5 : Bool) (w : World) (h : spec_ReadMat.f k a0 = some (r1, r2, r3, r4, r5)) :
  Calls Tryd.prog 27 #[.string a0] w fun e w' => e = .returned (.tuple #[.agg #[.int .i64 r1, .int .i64 r2, .int .i64 r3, .int .i64 r4], .bool r5]) ∧ Below w.heap.size w w' := by
 have hu31 := Tryd.underlying31
 have HB := asd (Below.refl w.heap.size w)
 have H : ((spec_l01Split.f k a0 44).bind fun t143 => ((spec_l01Numbers.f k t143).bind fun bt146 => (if bt146.2 = true then (spec_ReadMat.j0 k bt146.1 ((bt146.1.length : Int) != 4)) else (spec_ReadMat.j0 k bt146.1 true)))) = some (r1, r2, r3, r4, r5) := h
 clear h
 obtain ⟨t143, A2, H⟩ := ob H
 try dsimp only at H
 obtain ⟨⟨t146, t147⟩, A3, H⟩ := ob H
 try dsimp only at H
 have HC4 := Aside0.mk H
 clear H
 go_enter Tryd.func27, Tryd.ntmps27
 go_upto_region 2 with (first | ((with_reducible refine gd 2 rfl ?_); (try (refine gate_guard (by rfl) ?_; dsimp only)); refine bx #[.int .i64 0, .int .i64 0, .int .i64 0, .int .i64 0] 31 ?_; intro gb142 hg w5 BK142 hb; have GE142 := ngw0 hg HB; replace HB := bS0 HB hb; clear hb hg) | ((with_reducible refine gate_callee (f := 19) rfl ?_); refine gl 9 Tryd.func19 #[.string a0, .int .u8 44] ?_; (with_reducible refine (spec_l01Split.calls _ _ _ _ _ A2.out).mono ?_); rintro e w6 ⟨v144, rfl, ho0, hb⟩; refine ⟨_, rfl, ?_⟩; have HO145 := asd (Kd.R_lower ho0 (bsz1 HB GE142)); replace BK142 := bB BK142 hb; replace HB := bS1 HB GE142 hb; (try clear hb); (try clear hb2); (try clear hk); (try clear hi); (try clear ho0); obtain ⟨Ao7, co7, eo7⟩ := Kd.R_slice HO145.out; subst eo7) | ((with_reducible refine gate_callee (f := 50) rfl ?_); refine gl 10 Tryd.func50 #[.slice Ao7 t143.length co7] ?_; (with_reducible refine (spec_l01Numbers.calls _ _ _ _ _ _ _ ?side1 ?side2 A3.out).mono ?_); (case side1 => exact ks (Kd.R_reads' HO145.out).2.2); (case side2 => exact (Kd.R_reads' HO145.out).2.1); rintro e w8 ⟨v148, rfl, ho0, hb⟩; refine ⟨_, rfl, ?_⟩; replace HO145 := asd (Kd.R_below (kr HO145) hb); have HO149 := asd (Kd.R_lower ho0 (bsz1 HB GE142)); replace BK142 := bB BK142 hb; replace HB := bS1 HB GE142 hb; (try clear hb); (try clear hb2); (try clear hk); (try clear hi); (try clear ho0)))
 (try simp only [Act.put, sA, sB, sC])
 go_cut [19] (fun v19 wc => ∃ (kq : Nat) (x19_3 : Bool), v19 = .bool x19_3 ∧ Aside0 (spec_ReadMat.j0 kq t146 x19_3 = some (r1, r2, r3, r4, r5)) ∧ Aside0 (kq ≤ k) ∧ Aside0 (Kd.R (Kd.int .i64) 2 wc w.heap.size (fun _ => True) v148 t146) ∧ Aside0 (wc.heap[gb142]? = some (.cells #[.int .i64 0, .int .i64 0, .int .i64 0, .int .i64 0] 31 (0, 0))) ∧ Aside0 (Below w.heap.size w wc))
 case first =>
  have H := HC4.out
  clear HC4
  by_cases c9 : t147 = true
  ·subst c9
   replace H := ifT H
   have H' := Aside0.mk H
   clear H
   obtain ⟨Ao10, co10, eo10⟩ := Kd.R_slice HO149.out
   subst eo10
   go_wp2
   go_meet
   case rel => exact ⟨_, (((t146.length : Int) != 4)), (by first | rfl | (simp; done) | (simp [*]; done)), H', ⟨by first | omega | exact Nat.le_refl _⟩, ⟨by (with_reducible repeat (first | apply Kd.R_alloc | apply Kd.R_drewN | apply Kd.R_drew)); exact HO149.out⟩, ⟨bkp BK142⟩, ⟨bbw1 HB GE142⟩⟩
  ·replace c9 := Bool.eq_false_iff.mpr c9
   subst c9
   replace H := ifF H
   have H' := Aside0.mk H
   clear H
   go_wp2
   go_meet
   case rel => exact ⟨_, (true), (by first | rfl | (simp; done) | (simp [*]; done)), H', ⟨by first | omega | exact Nat.le_refl _⟩, ⟨by (with_reducible repeat (first | apply Kd.R_alloc | apply Kd.R_drewN | apply Kd.R_drew)); exact HO149.out⟩, ⟨bkp BK142⟩, ⟨bbw1 HB GE142⟩⟩
 case rest =>
  clear HC4
  try clear c1
  try clear c2
  try clear p2
  try clear c5
  try clear c9
  obtain ⟨kq, x19_3, rfl, HA, HJ3, HO_4, BK142, HB⟩ := hcut
  cases kq with
  | zero => exact absurd HA.out (by simp [spec_ReadMat.j0])
  | succ kj3 =>
   have H := HA.out
   clear HA
   simp only [spec_ReadMat.j0] at H
   by_cases c11 : x19_3 = true
   subst c11
   replace H := ifT H
   rotate_left
   replace c11 := Bool.eq_false_iff.mpr c11
   subst c11
   replace H := ifF H
   by_cases c13 : 0 < (t146.length : Int)
   rw [if_pos c13] at H
   have c13b0 := decide_eq_true c13
   have c13b1 : decide (0 < t146.length) = true := decide_eq_true (by omega)
   clear c13
   by_cases c14 : 1 < (t146.length : Int)
   rw [if_pos c14] at H
   have c14b0 := decide_eq_true c14
   have c14b1 : decide (1 < t146.length) = true := decide_eq_true (by omega)
   clear c14
   by_cases c15 : 2 < (t146.length : Int)
   rw [if_pos c15] at H
   have c15b0 := decide_eq_true c15
   have c15b1 : decide (2 < t146.length) = true := decide_eq_true (by omega)
   clear c15
   by_cases c16 : 3 < (t146.length : Int)
   rw [if_pos c16] at H
   have c16b0 := decide_eq_true c16
   have c16b1 : decide (3 < t146.length) = true := decide_eq_true (by omega)
   clear c16
   obtain ⟨t155, A17, H⟩ := ob H
   try dsimp only at H
   by_cases c18 : t155 = true
   subst c18
   replace H := ifT H
   rotate_left
   replace c18 := Bool.eq_false_iff.mpr c18
   subst c18
   replace H := ifF H
   rotate_left
   ·rw [if_neg c16] at H
    exact absurd H (by simp)
   ·rw [if_neg c15] at H
    exact absurd H (by simp)
   ·rw [if_neg c14] at H
    exact absurd H (by simp)
   ·rw [if_neg c13] at H
    exact absurd H (by simp)
   all_goals
    simp only [Option.some.injEq, Prod.mk.injEq] at H
    obtain ⟨rfl, rfl, rfl, rfl, rfl⟩ := H
   ·obtain ⟨hcz12_0, hcz12_1, hcz12_2, hcz12_3, hfz12_0, hfz12_1, hfz12_2, hfz12_3⟩ := bz4 BK142
    go_wp2
    refine bodyPost_ret (results_ct rfl _ _ gb142 31 #[.int .i64 0, .int .i64 0, .int .i64 0, .int .i64 0] (0, 0) _ rfl (bq0 BK142) Tryd.underlying31 rfl (by kernel_rfl)) rfl ?_
    exact er (bbw1 HB GE142)
   rotate_left 2
   all_goals
    try go_wp2
    replace HO_4 := asd (Kd.R_drew HO_4.out)
    replace BK142 := asd (blk_drew BK142.out)
    replace HB := asd (below_drew1 HB.out)
    obtain ⟨Ao20, co20, eo20⟩ := Kd.R_slice HO_4.out
    (first | subst eo20 | (injection eo20 with f1_ f2_ f3_; have f4_ := f1_.symm; have f5_ := f3_.symm; clear f1_ f2_ f3_; subst f4_; subst f5_))
    have p150 : 0 ≤ (0 : Int) := (by omega)
    have q150 : 0 < (t146.length : Int) := od
    obtain ⟨ad150, e150, hx150_0⟩ := Kd.at_int (Kd.R_reads' HO_4.out).2.2 0 p150 q150
    cases e150
    have qi150 : (0 < t146.length) = True := eq_true (by omega)
    (try rw [show ((0 : Int)).toNat = 0 from rfl] at hx150_0)
    (try rw [Addr.add_zero'] at hx150_0)
    replace p150 := eq_true p150
    replace q150 := eq_true q150
    have p151 : 0 ≤ (1 : Int) := (by omega)
    have q151 : 1 < (t146.length : Int) := od
    obtain ⟨ad151, e151, hx151_0⟩ := Kd.at_int (Kd.R_reads' HO_4.out).2.2 1 p151 q151
    obtain rfl : ad150 = ad151 := (by injection e151)
    (try simp only [show (1 : Int).toNat = 1 from rfl, Nat.reduceMul, Nat.reduceEqDiff, Go.Addr.add, ↓reduceIte] at hx151_0)
    have qi151 : (1 < t146.length) = True := eq_true (by omega)
    (try rw [show ((1 : Int)).toNat = 1 from rfl] at hx151_0)
    replace p151 := eq_true p151
    replace q151 := eq_true q151
    have p152 : 0 ≤ (2 : Int) := (by omega)
    have q152 : 2 < (t146.length : Int) := od
    obtain ⟨ad152, e152, hx152_0⟩ := Kd.at_int (Kd.R_reads' HO_4.out).2.2 2 p152 q152
    obtain rfl : ad150 = ad152 := (by injection e152)
    (try simp only [show (2 : Int).toNat = 2 from rfl, Nat.reduceMul, Nat.reduceEqDiff, Go.Addr.add, ↓reduceIte] at hx152_0)
    have qi152 : (2 < t146.length) = True := eq_true (by omega)
    (try rw [show ((2 : Int)).toNat = 2 from rfl] at hx152_0)
    replace p152 := eq_true p152
    replace q152 := eq_true q152
    have p153 : 0 ≤ (3 : Int) := (by omega)
    have q153 : 3 < (t146.length : Int) := od
    obtain ⟨ad153, e153, hx153_0⟩ := Kd.at_int (Kd.R_reads' HO_4.out).2.2 3 p153 q153
    obtain rfl : ad150 = ad153 := (by injection e153)
    (try simp only [show (3 : Int).toNat = 3 from rfl, Nat.reduceMul, Nat.reduceEqDiff, Go.Addr.add, ↓reduceIte] at hx153_0)
    have qi153 : (3 < t146.length) = True := eq_true (by omega)
    (try rw [show ((3 : Int)).toNat = 3 from rfl] at hx153_0)
    replace p153 := eq_true p153
    replace q153 := eq_true q153
    refine sh 15 (c1 hx150_0 (c1 hx151_0 (c1 hx152_0 (e1 hx153_0)))) (fun hHeld => ?_); refine with_tabW spec_ReadMat.tab4 spec_ReadMat.bits4 (fun HT_ HW_ => ?_)
    generalize wc.drew = w19 at HO_4 BK142 HB hx150_0 hx151_0 hx152_0 hx153_0 hHeld ⊢
    refine pu 0 (some 21) (bT 15 1) HT_ ?_
    refine pu 1 (some 22) (bT 15 2) HT_ ?_
    refine pu 3 (some 24) (bs 15 11) HT_ ?_
    refine pu 4 (some 25) (bs 15 27) HT_ ?_
    refine pu 6 (some 27) (bs 15 91) HT_ ?_
    refine pu 7 (some 28) (bs 15 219) HT_ ?_
    refine pu 9 (some 30) (bs 15 731) HT_ ?_
    refine pu 10 (some 31) (bs 15 1755) HT_ ?_
    refine ta 2 (some 23) (bs 15 1759) HT_ HW_ hHeld ?_
    refine ta 5 (some 26) (bs 15 1791) HT_ HW_ hHeld ?_
    refine ta 8 (some 29) (bT 15 11) HT_ HW_ hHeld ?_
    refine ta 11 (some 32) (bT 15 12) HT_ HW_ hHeld ?_
    refine pu 12 (some 33) (bT 15 13) HT_ ?_
    refine ro 13 (some 6) (bT 15 14) HT_ (fun K hK => ?_)
    refine box_step ?hg (N := 6) ?hd (cs := #[.int .i64 0, .int .i64 0, .int .i64 0, .int .i64 0]) (t := 31) ?hr ?_; (case hd => rfl); (case hg => rfl); (case hr => first | (go_simp; done) | (go_simp; rfl))
    intro gb154 hg w21 hbox hb
    have HS0_ := hbc hb (hHeld.1)
    have HS1_ := hbc hb (hHeld.2.1)
    have HS2_ := hbc hb (hHeld.2.2.1)
    have HS3_ := hbc hb (hHeld.2.2.2)
    replace HO_4 := asd (Kd.R_below (kr HO_4) hb)
    have BK154 := asd (hbox)
    have GE154 := ngw1 hg HB GE142
    replace HB := bS1 HB GE142 hb
    have NB142_154 := nlt hg BK142
    have NB154_142 := nsy (nlt hg BK142)
    replace BK142 := bB BK142 hb
    clear hb hbox hg
    refine hK.out _ _ ⟨HS0_, HS1_, HS2_, HS3_⟩ (fun hHeld => ?_)
    clear hK K
    refine norm_ (a' := ?_) ?_ ?_
    rotate_left
    ·show Act.put _ (some 6) _ = _
     simp only [Act.put, sA, sB, sC, i64_w, i32_w]
     rfl
    refine ro 14 (none) (bT 15 15) HT_ (fun K hK => ?_)
    have hs22 : w21.cell? ⟨gb154, 0, none⟩ = some (.int .i64 0) := bcl BK154 0
    have hfs22 := blk_frozen BK154.out 0
    have hns22_0 := NB142_154.out
    have hms22_0 := NB154_142.out
    have hs23 : w21.cell? ⟨gb154, 1, none⟩ = some (.int .i64 0) := bcl BK154 1
    have hfs23 := blk_frozen BK154.out 1
    have hns23_0 := NB142_154.out
    have hms23_0 := NB154_142.out
    have hs24 : w21.cell? ⟨gb154, 2, none⟩ = some (.int .i64 0) := bcl BK154 2
    have hfs24 := blk_frozen BK154.out 2
    have hns24_0 := NB142_154.out
    have hms24_0 := NB154_142.out
    have hs25 : w21.cell? ⟨gb154, 3, none⟩ = some (.int .i64 0) := bcl BK154 3
    have hfs25 := blk_frozen BK154.out 3
    have hns25_0 := NB142_154.out
    have hms25_0 := NB154_142.out
    refine skip_ (w1 := ?_) (by rfl) rfl ?_ ?_
    rotate_left
    ·go_simp
     rfl
    refine hK.out _ _ ⟨(fx4 (Kd.own_blk (Kd.R_ne HO_4.out BK154.out (by decide))) (hHeld.1)), (fx4 (Kd.own_blk (Kd.R_ne HO_4.out BK154.out (by decide))) (hHeld.2.1)), (fx4 (Kd.own_blk (Kd.R_ne HO_4.out BK154.out (by decide))) (hHeld.2.2.1)), (fx4 (Kd.own_blk (Kd.R_ne HO_4.out BK154.out (by decide))) (hHeld.2.2.2))⟩ (fun hHeld => ?_)
    clear hK K
    refine done_ (done_of HT_.out (by kernel_rfl)) ?_
    have hnb26 := NB154_142.out
    have hnc26 := NB142_154.out
    obtain ⟨hcz27_0, hcz27_1, hcz27_2, hcz27_3, hfz27_0, hfz27_1, hfz27_2, hfz27_3⟩ := bz4 BK154
   ·try go_wp2_with (first | ((with_reducible refine gate_callee (f := 51) rfl ?_); refine gl 35 Tryd.func51 #[.agg #[.int .i64 (rd t146 0), .int .i64 (rd t146 1), .int .i64 (rd t146 2), .int .i64 (rd t146 3)]] ?_; (with_reducible refine (spec_IsMat.calls _ _ _ _ _ _ A17.out).mono ?_); rintro e w28 ⟨rfl, hb⟩; refine ⟨_, rfl, ?_⟩; replace HO_4 := asd (Kd.R_below (by (with_reducible repeat (first | apply Kd.R_alloc | apply Kd.R_drewN | apply Kd.R_drew)); exact (Kd.R_mono (rw4 (Kd.R_types HO_4.out BK154.out (by decide))) (fun _ h_ => h_.1))) hb); replace BK142 := asd (blk_below (g := gb142) (o := .cells #[.int .i64 0, .int .i64 0, .int .i64 0, .int .i64 0] 31 (0, 0)) (bq1 BK142 NB142_154) hb); replace BK154 := asd (blk_below (g := gb154) (o := .cells #[.int .i64 (rd t146 0), .int .i64 (rd t146 1), .int .i64 (rd t146 2), .int .i64 (rd t146 3)] 31 (0, 0)) (bq0 BK154) hb); replace HB := bS2 HB GE142 GE154 hb; (try clear hb); obtain ⟨hcz29_0, hcz29_1, hcz29_2, hcz29_3, hfz29_0, hfz29_1, hfz29_2, hfz29_3⟩ := bz4 BK154; obtain ⟨hcz30_0, hcz30_1, hcz30_2, hcz30_3, hfz30_0, hfz30_1, hfz30_2, hfz30_3⟩ := bz4 BK142))
    refine bodyPost_ret (results_ct rfl _ _ gb142 31 #[.int .i64 (rd t146 0), .int .i64 (rd t146 1), .int .i64 (rd t146 2), .int .i64 (rd t146 3)] (0, 0) _ rfl (bq0 BK142) Tryd.underlying31 rfl (by kernel_rfl)) rfl ?_
    exact er (bbw2 HB GE142 GE154)
   ·try go_wp2_with (first | ((with_reducible refine gate_callee (f := 51) rfl ?_); refine gl 35 Tryd.func51 #[.agg #[.int .i64 (rd t146 0), .int .i64 (rd t146 1), .int .i64 (rd t146 2), .int .i64 (rd t146 3)]] ?_; (with_reducible refine (spec_IsMat.calls _ _ _ _ _ _ A17.out).mono ?_); rintro e w40 ⟨rfl, hb⟩; refine ⟨_, rfl, ?_⟩; replace HO_4 := asd (Kd.R_below (by (with_reducible repeat (first | apply Kd.R_alloc | apply Kd.R_drewN | apply Kd.R_drew)); exact (Kd.R_mono (rw4 (Kd.R_types HO_4.out BK154.out (by decide))) (fun _ h_ => h_.1))) hb); replace BK142 := asd (blk_below (g := gb142) (o := .cells #[.int .i64 0, .int .i64 0, .int .i64 0, .int .i64 0] 31 (0, 0)) (bq1 BK142 NB142_154) hb); replace BK154 := asd (blk_below (g := gb154) (o := .cells #[.int .i64 (rd t146 0), .int .i64 (rd t146 1), .int .i64 (rd t146 2), .int .i64 (rd t146 3)] 31 (0, 0)) (bq0 BK154) hb); replace HB := bS2 HB GE142 GE154 hb; (try clear hb); obtain ⟨hcz41_0, hcz41_1, hcz41_2, hcz41_3, hfz41_0, hfz41_1, hfz41_2, hfz41_3⟩ := bz4 BK142))
    refine bodyPost_ret (results_ct rfl _ _ gb142 31 #[.int .i64 0, .int .i64 0, .int .i64 0, .int .i64 0] (0, 0) _ rfl (bq0 BK142) Tryd.underlying31 rfl (by kernel_rfl)) rfl ?_
    exact er (bbw2 HB GE142 GE154)

end Go.Proofs.YtfhbhjlgepjlfaaDoor.PM
