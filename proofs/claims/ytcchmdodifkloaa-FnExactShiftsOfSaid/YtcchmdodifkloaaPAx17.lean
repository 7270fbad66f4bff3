/- Walks written by program: each Go function that the law reaches comes to the plain function beside it. -/
import Derived.Test.YtcchmdodifkloaaPAx0
import Derived.Test.YtcchmdodifkloaaPAx2
import Derived.Test.YtcchmdodifkloaaPAx5
import Derived.Test.YtcchmdodifkloaaPAx8
import Derived.Test.YtcchmdodifkloaaPAx9
import Derived.Test.YtcchmdodifkloaaPAx10
import Derived.Test.YtcchmdodifkloaaPAx15
namespace Go.Proofs.Ytcchmdodifkloaa.PA
open Go.RowKit Go.Proofs.YtcchmdodifkloaaW.PrintWords Go.Proofs.YtcchmdodifkloaaW.PrintLast Go.Proofs.YtcchmdodifkloaaW.PrintMore
attribute [local go_sem] max2_int min2_int max_two min_two max_three min_three max_four min_four   -- for this text's walks alone
set_option linter.unusedVariables false
set_option linter.unusedSimpArgs false

attribute [local go_sem high] eqA51
/-! ### spec_l06Shifts: function 40 -/
def spec_l06Shifts.l0 : Nat → List (S55) → List (S53) → Int → Option ((List (S53)))
 | 0, _, _, _ => none
 | k + 1, x0, x3, x4 => if x4 < (x0.length : Int) then (if 0 ≤ x4 then ((spec_l02Unit.f).bind fun bt569 => (if (((rd_T55 x0 x4).f0.f0) == bt569.1 && (((rd_T55 x0 x4).f0.f1) == bt569.2.1 && (((rd_T55 x0 x4).f0.f2) == bt569.2.2.1 && (((rd_T55 x0 x4).f0.f3) == bt569.2.2.2)))) = true then (if x3.length < 8796093022208 then (spec_l06Shifts.l0 k x0 (x3 ++ [(⟨(rd_T55 x0 x4).f1.f0, (rd_T55 x0 x4).f1.f1⟩ : S53)]) (wrap64 (x4 + 1))) else (none)) else (spec_l06Shifts.l0 k x0 x3 (wrap64 (x4 + 1))))) else (none)) else (some x3)
def spec_l06Shifts.f (k : Nat) (l0 : List (S55)) : Option ((List (S53))) := spec_l06Shifts.l0 k l0 (([] : List (S53))) 0
set_option maxHeartbeats 8000000 in
set_option maxRecDepth 100000 in
theorem spec_l06Shifts.calls (k : Nat) (A0 : Option Addr) (c0 : Nat) (l0 : List (S55)) (r : List (S53)) (w : World) (hr0 : Kd.C k55 w A0 l0.length l0) (hc0 : l0.length ≤ c0) (h : spec_l06Shifts.f k l0 = some r) :
  Calls Try.prog 40 #[.slice A0 l0.length c0] w fun e w' => ∃ v0_ : Value, e = .returned (v0_) ∧ Kd.R k53 53 w' w.heap.size (fun _ => True) v0_ r ∧ Below w.heap.size w w' := by
 have hu51 := Try.underlying51
 have hu53 := Try.underlying53
 have HR0 := Aside0.mk hr0
 have HC0 := Aside0.mk hc0
 clear hr0 hc0
 have HB := asd (Below.refl w.heap.size w)
 have H : (spec_l06Shifts.l0 k l0 (([] : List (S53))) 0) = some r := h
 clear h
 obtain ⟨y565, hy565⟩ : ∃ y_ : List (S53), y_ = (([] : List (S53))) := ⟨_, rfl⟩
 replace H : (spec_l06Shifts.l0 k l0 y565 0) = some r := by first | (rw [hy565]; with_reducible exact H) | (have H2_ := (Option.bind_some _ _).symm.trans H; rw [hy565]; with_reducible exact H2_) | (have H2_ := (Option.bind_some _ _).symm.trans H; with_reducible exact H2_) | with_reducible exact H | (rw [hy565]; exact H) | exact H
 have Ny565 := Aside0.mk hy565
 clear hy565
 have H' := Aside0.mk H
 clear H
 go_enter Try.func40, Try.ntmps40
 go_wp2_with (first | ((with_reducible refine gd 5 rfl ?_); refine Kd.R_lit k53 _ 53 ?hg (N := 5) ?hd (xs := ([] : List (S53))) (inner := []) (ok := fun _ => True) (okp := fun _ => True) ?hr ?hp (fun _ hk => hk) trivial (Below.refl _ _) (Nat.le_refl _) (by simp) ?_; (case hd => rfl); (case hg => rfl); (case hr => first | (go_simp; done) | (go_simp; rfl)); (case hp => exact (Reps.none _ _)); intro v566 w2 ho3 hb hg_ hnew_; clear hg_ hnew_; (first | rw [← Ny565.out] at ho3 | (simp only [Int.reduceToNat] at ho3; rw [← Ny565.out] at ho3)); have HO567 := asd (Kd.R_lower ho3 (bsz0 HB)); replace HB := bS0 HB hb; clear hb ho3))
 go_loopg [3, 4] k (fun kq v3 v4 w' => ∃ (x3_1 : List (S53)) (x4_1 : Int), v4 = .int .i64 x4_1 ∧ Aside0 (spec_l06Shifts.l0 kq l0 x3_1 x4_1 = some r) ∧ Aside0 (kq ≤ k) ∧ Aside0 (Kd.R k53 53 w' w.heap.size (fun _ => True) v3 x3_1) ∧ Aside0 (Below w.heap.size w w'))
 case atStart => exact ⟨(y565), (0), (by first | rfl | (simp; done) | (simp [*]; done)), H', ⟨Nat.le_refl _⟩, ⟨by (with_reducible repeat (first | apply Kd.R_alloc | apply Kd.R_drewN | apply Kd.R_drew)); exact HO567.out⟩, ⟨bbw0 HB⟩⟩
 case round =>
  clear H'
  try clear p2
  obtain ⟨x3_1, x4_1, rfl, HA, HK1, HO_3, HB⟩ := hrel
  cases gk with
  | zero => exact absurd HA.out (by simp [spec_l06Shifts.l0])
  | succ k1 =>
   have H := HA.out
   clear HA
   simp only [spec_l06Shifts.l0] at H
   by_cases c4 : x4_1 < (l0.length : Int)
   ·rw [if_pos c4] at H
    have c4b0 : decide (x4_1 < (l0.length : Int)) = true := decide_eq_true c4
    clear c4
    by_cases c5 : 0 ≤ x4_1
    ·rw [if_pos c5] at H
     have c5b0 : decide (0 ≤ x4_1) = true := decide_eq_true c5
     clear c5
     obtain ⟨⟨t569, t570, t571, t572⟩, A6, H⟩ := ob H
     replace H : (if (((rd_T55 l0 x4_1).f0.f0) == t569 && (((rd_T55 l0 x4_1).f0.f1) == t570 && (((rd_T55 l0 x4_1).f0.f2) == t571 && (((rd_T55 l0 x4_1).f0.f3) == t572)))) = true then (if x3_1.length < 8796093022208 then (spec_l06Shifts.l0 k1 l0 (x3_1 ++ [(⟨(rd_T55 l0 x4_1).f1.f0, (rd_T55 l0 x4_1).f1.f1⟩ : S53)]) (wrap64 (x4_1 + 1))) else (none)) else (spec_l06Shifts.l0 k1 l0 x3_1 (wrap64 (x4_1 + 1)))) = some r := H
     by_cases c7 : (((rd_T55 l0 x4_1).f0.f0) == t569 && (((rd_T55 l0 x4_1).f0.f1) == t570 && (((rd_T55 l0 x4_1).f0.f2) == t571 && (((rd_T55 l0 x4_1).f0.f3) == t572)))) = true
     ·rw [if_pos c7] at H
      have c7b0 : (((rd_T55 l0 x4_1).f0.f0) == t569 && (((rd_T55 l0 x4_1).f0.f1) == t570 && (((rd_T55 l0 x4_1).f0.f2) == t571 && (((rd_T55 l0 x4_1).f0.f3) == t572)))) = true := c7
      (try (have c7b1 : decide (((rd_T55 l0 x4_1).f0.f0) = t569 && (((rd_T55 l0 x4_1).f0.f1) == t570 && (((rd_T55 l0 x4_1).f0.f2) == t571 && (((rd_T55 l0 x4_1).f0.f3) == t572)))) = true := by simpa using c7))
      (try (have c7b2 : (((rd_T55 l0 x4_1).f0.f0) == t569 && (((rd_T55 l0 x4_1).f0.f1) == t570 && (((rd_T55 l0 x4_1).f0.f2) == t571 && (((rd_T55 l0 x4_1).f0.f3) == t572)))) = true := by simpa using c7))
      clear c7
      by_cases c8 : x3_1.length < 8796093022208
      ·rw [if_pos c8] at H
       have LMc8 := Aside0.mk c8
       clear c8
       obtain ⟨y574, hy574⟩ : ∃ y_ : List (S53), y_ = (x3_1 ++ [(⟨(rd_T55 l0 x4_1).f1.f0, (rd_T55 l0 x4_1).f1.f1⟩ : S53)]) := ⟨_, rfl⟩
       replace H : (spec_l06Shifts.l0 k1 l0 y574 (wrap64 (x4_1 + 1))) = some r := by first | (rw [hy574]; with_reducible exact H) | (have H2_ := (Option.bind_some _ _).symm.trans H; rw [hy574]; with_reducible exact H2_) | (have H2_ := (Option.bind_some _ _).symm.trans H; with_reducible exact H2_) | with_reducible exact H | (rw [hy574]; exact H) | exact H
       have Ny574 := Aside0.mk hy574
       clear hy574
       have H' := Aside0.mk H
       clear H
       try go_wp2
       replace HO_3 := asd (Kd.R_drew HO_3.out)
       replace HB := asd (below_drew1 HB.out)
       obtain ⟨p568, q568, ad568, e568, hw568_0, hw568_1, hw568_2, hw568_3, hw568_4, hw568_5, hx568_0, hx568_1, hx568_2, hx568_3, hx568_4, hx568_5⟩ := at_T55w HR0.out HB x4_1
       cases e568
       refine start_ (n := 7) (S := fun w' => w'.cell? (ad568.add ((x4_1).toNat * 6)) = some (.int .i64 ((rd_T55 l0 x4_1).f0.f0)) ∧ w'.cell? ⟨(ad568.add ((x4_1).toNat * 6)).block, (ad568.add ((x4_1).toNat * 6)).off + 1, none⟩ = some (.int .i64 ((rd_T55 l0 x4_1).f0.f1)) ∧ w'.cell? ⟨(ad568.add ((x4_1).toNat * 6)).block, (ad568.add ((x4_1).toNat * 6)).off + 2, none⟩ = some (.int .i64 ((rd_T55 l0 x4_1).f0.f2)) ∧ w'.cell? ⟨(ad568.add ((x4_1).toNat * 6)).block, (ad568.add ((x4_1).toNat * 6)).off + 3, none⟩ = some (.int .i64 ((rd_T55 l0 x4_1).f0.f3)) ∧ w'.cell? ⟨(ad568.add ((x4_1).toNat * 6)).block, (ad568.add ((x4_1).toNat * 6)).off + 4, none⟩ = some (.int .i64 ((rd_T55 l0 x4_1).f1.f0)) ∧ w'.cell? ⟨(ad568.add ((x4_1).toNat * 6)).block, (ad568.add ((x4_1).toNat * 6)).off + 5, none⟩ = some (.int .i64 ((rd_T55 l0 x4_1).f1.f1))) (ds := []) (bt 7 0) (by kernel_rfl) rfl rfl ⟨(xb HB hw568_0), (xb HB hw568_1), (xb HB hw568_2), (xb HB hw568_3), (xb HB hw568_4), (xb HB hw568_5)⟩ (fun hHeld => ?_)
       generalize wr.drew = w9 at HO_3 HB hx568_0 hx568_1 hx568_2 hx568_3 hx568_4 hx568_5 hHeld ⊢
       refine pure_ (i := 0) (N := some 12) (v := ?_) (a' := ?_) (bt 7 1) rfl rfl (by kernel_rfl) (fun _ _ _ h => h) (Or.inl ⟨by rfl, ?_⟩) ?_ ?_
       rotate_left
       ·intro w'
        go_simp
        with_reducible rfl
       rotate_left
       ·simp only [Act.put, sA, sB, sC, i64_w, i32_w]
        rfl
       refine pure_ (i := 1) (N := some 13) (v := ?_) (a' := ?_) (bt 7 2) rfl rfl (by kernel_rfl) (fun _ _ _ h => h) (Or.inl ⟨by rfl, ?_⟩) ?_ ?_
       rotate_left
       ·intro w'
        go_simp
        with_reducible rfl
       rotate_left
       ·simp only [Act.put, sA, sB, sC, i64_w, i32_w]
        rfl
       refine pure_ (i := 2) (N := some 14) (v := ?_) (a' := ?_) (bt 7 3) rfl rfl (by kernel_rfl) (fun _ _ _ h => h) (Or.inl ⟨by rfl, ?_⟩) ?_ ?_
       rotate_left
       ·intro w'
        go_simp
        with_reducible rfl
       rotate_left
       ·simp only [Act.put, sA, sB, sC, i64_w, i32_w]
        rfl
       refine pure_ (i := 3) (N := some 15) (v := ?_) (a' := ?_) (bt 7 4) rfl rfl (by kernel_rfl) (fun _ _ _ h => h) (Or.inl ⟨by rfl, ?_⟩) ?_ ?_
       rotate_left
       ·intro w'
        go_simp
        with_reducible rfl
       rotate_left
       ·simp only [Act.put, sA, sB, sC, i64_w, i32_w]
        rfl
       refine take_ (i := 4) (N := some 16) (v := ?_) (a' := ?_) (bt 7 5) rfl rfl (by kernel_rfl) (fun _ _ _ h => h) (Or.inl ⟨by rfl, ?_⟩) hHeld ?_ ?_
       rotate_left
       ·rintro w' ⟨s0, s1, s2, s3, s4, s5⟩
        go_simp
        with_reducible rfl
       rotate_left
       ·simp only [Act.put, sA, sB, sC, i64_w, i32_w]
        rfl
       refine one_ (i := 5) (N := some 17) (bt 7 6) rfl rfl (by kernel_rfl) (by decide) (fun K hK => ?_)
       refine gs Try.func67 #[] ?_
       with_reducible refine (spec_l02Unit.calls _ _ _ _ _ A6.out).mono ?_
       rintro e w10 ⟨rfl, hb⟩
       refine ⟨_, rfl, ?_⟩
       replace HO_3 := asd (Kd.R_below (kr HO_3) hb)
       replace HB := bS0 HB hb
       (try clear hb)
       (try clear hb2)
       (try clear hk)
       (try clear hi)
       refine hK.out _ _ ⟨(xb HB hw568_0), (xb HB hw568_1), (xb HB hw568_2), (xb HB hw568_3), (xb HB hw568_4), (xb HB hw568_5)⟩ (fun hHeld => ?_)
       clear hK K
       refine norm_ (a' := ?_) ?_ ?_
       rotate_left
       ·show Act.put _ (some 17) _ = _
        simp only [Act.put, sA, sB, sC, i64_w, i32_w]
        rfl
       refine pure_ (i := 6) (N := some 18) (v := ?_) (a' := ?_) (bt 7 7) rfl rfl (by kernel_rfl) (fun _ _ _ h => h) (Or.inl ⟨by rfl, ?_⟩) ?_ ?_
       rotate_left
       ·intro w'
        go_simp
        with_reducible rfl
       rotate_left
       ·simp only [Act.put, sA, sB, sC, i64_w, i32_w]
        rfl
       refine done_ (by kernel_rfl) ?_
       obtain ⟨p573, q573, ad573, e573, hx573_0, hx573_1, hx573_2, hx573_3, hx573_4, hx573_5⟩ := at_T55x HR0.out HB x4_1
       obtain rfl : ad568 = ad573 := (by injection e573)
       try go_wp2_with (first | ((with_reducible refine gate_builtin (b := .append) (xs := #[.tmp 19, .tmp 25]) rfl ?_); at_builtin; refine Kd.R_append k53 (w0 := w) w.heap.size rfl (.tmp 19) (.tmp 25) 36 53 (.agg #[(.int .i64 0), (.int .i64 0)]) 16 rfl Try.underlying36 info53 rfl (by decide) (by omega) u3 x3_1 (⟨(rd_T55 l0 x4_1).f1.f0, (rd_T55 l0 x4_1).f1.f1⟩ : S53) [.int .i64 ((rd_T55 l0 x4_1).f1.f0), .int .i64 ((rd_T55 l0 x4_1).f1.f1)] (fun _ => True) (fun _ => False) rfl rfl ?aP (fun _ hk => hk.elim) ?aF ?aO ?aB ?aS ?aL ?_; (case aP => exact k53_mkM _ _ _ (⟨(rd_T55 l0 x4_1).f1.f0, (rd_T55 l0 x4_1).f1.f1⟩ : S53)); (case aB => exact (bbw0 HB)); (case aF => exact (fun _ _ => trivial)); (case aO => exact (kr HO_3)); (case aS => exact (bsz0 HB)); (case aL => have := LMc8.out; omega); intro v575 w11 ho hb hg hat; rw [← Ny574.out] at ho; have n0_ := asd (hb); have n1_ := asd (ho); clear HB; clear HO_3; have HB := n0_; have HO576 := n1_; clear n0_ n1_; clear ho hb hg hat))
       go_roundg k1
       case measure => have := HK1.out; omega
       case rel => exact ⟨(y574), (wrap64 (x4_1 + 1)), (by first | rfl | (simp; done) | (simp [*]; done)), H', ⟨by have := HK1.out; omega⟩, ⟨by (with_reducible repeat (first | apply Kd.R_alloc | apply Kd.R_drewN | apply Kd.R_drew)); exact HO576.out⟩, ⟨bbw0 HB⟩⟩
      ·rw [if_neg c8] at H
       exact absurd H (by simp)
     ·rw [if_neg c7] at H
      have c7b0 : (((rd_T55 l0 x4_1).f0.f0) == t569 && (((rd_T55 l0 x4_1).f0.f1) == t570 && (((rd_T55 l0 x4_1).f0.f2) == t571 && (((rd_T55 l0 x4_1).f0.f3) == t572)))) = false := by simpa using c7
      (try (have c7b1 : decide (((rd_T55 l0 x4_1).f0.f0) = t569 && (((rd_T55 l0 x4_1).f0.f1) == t570 && (((rd_T55 l0 x4_1).f0.f2) == t571 && (((rd_T55 l0 x4_1).f0.f3) == t572)))) = false := by simpa using c7))
      (try (have c7b2 : (((rd_T55 l0 x4_1).f0.f0) == t569 && (((rd_T55 l0 x4_1).f0.f1) == t570 && (((rd_T55 l0 x4_1).f0.f2) == t571 && (((rd_T55 l0 x4_1).f0.f3) == t572)))) = false := by simpa using c7))
      (try (have c7b3 : ¬ (((rd_T55 l0 x4_1).f0.f0) = t569 && (((rd_T55 l0 x4_1).f0.f1) == t570 && (((rd_T55 l0 x4_1).f0.f2) == t571 && (((rd_T55 l0 x4_1).f0.f3) == t572)))) := by simpa using c7))
      clear c7
      have H' := Aside0.mk H
      clear H
      try go_wp2
      replace HO_3 := asd (Kd.R_drew HO_3.out)
      replace HB := asd (below_drew1 HB.out)
      obtain ⟨p568, q568, ad568, e568, hw568_0, hw568_1, hw568_2, hw568_3, hw568_4, hw568_5, hx568_0, hx568_1, hx568_2, hx568_3, hx568_4, hx568_5⟩ := at_T55w HR0.out HB x4_1
      cases e568
      refine start_ (n := 7) (S := fun w' => w'.cell? (ad568.add ((x4_1).toNat * 6)) = some (.int .i64 ((rd_T55 l0 x4_1).f0.f0)) ∧ w'.cell? ⟨(ad568.add ((x4_1).toNat * 6)).block, (ad568.add ((x4_1).toNat * 6)).off + 1, none⟩ = some (.int .i64 ((rd_T55 l0 x4_1).f0.f1)) ∧ w'.cell? ⟨(ad568.add ((x4_1).toNat * 6)).block, (ad568.add ((x4_1).toNat * 6)).off + 2, none⟩ = some (.int .i64 ((rd_T55 l0 x4_1).f0.f2)) ∧ w'.cell? ⟨(ad568.add ((x4_1).toNat * 6)).block, (ad568.add ((x4_1).toNat * 6)).off + 3, none⟩ = some (.int .i64 ((rd_T55 l0 x4_1).f0.f3)) ∧ w'.cell? ⟨(ad568.add ((x4_1).toNat * 6)).block, (ad568.add ((x4_1).toNat * 6)).off + 4, none⟩ = some (.int .i64 ((rd_T55 l0 x4_1).f1.f0)) ∧ w'.cell? ⟨(ad568.add ((x4_1).toNat * 6)).block, (ad568.add ((x4_1).toNat * 6)).off + 5, none⟩ = some (.int .i64 ((rd_T55 l0 x4_1).f1.f1))) (ds := []) (bt 7 0) (by kernel_rfl) rfl rfl ⟨(xb HB hw568_0), (xb HB hw568_1), (xb HB hw568_2), (xb HB hw568_3), (xb HB hw568_4), (xb HB hw568_5)⟩ (fun hHeld => ?_)
      generalize wr.drew = w12 at HO_3 HB hx568_0 hx568_1 hx568_2 hx568_3 hx568_4 hx568_5 hHeld ⊢
      refine pure_ (i := 0) (N := some 12) (v := ?_) (a' := ?_) (bt 7 1) rfl rfl (by kernel_rfl) (fun _ _ _ h => h) (Or.inl ⟨by rfl, ?_⟩) ?_ ?_
      rotate_left
      ·intro w'
       go_simp
       with_reducible rfl
      rotate_left
      ·simp only [Act.put, sA, sB, sC, i64_w, i32_w]
       rfl
      refine pure_ (i := 1) (N := some 13) (v := ?_) (a' := ?_) (bt 7 2) rfl rfl (by kernel_rfl) (fun _ _ _ h => h) (Or.inl ⟨by rfl, ?_⟩) ?_ ?_
      rotate_left
      ·intro w'
       go_simp
       with_reducible rfl
      rotate_left
      ·simp only [Act.put, sA, sB, sC, i64_w, i32_w]
       rfl
      refine pure_ (i := 2) (N := some 14) (v := ?_) (a' := ?_) (bt 7 3) rfl rfl (by kernel_rfl) (fun _ _ _ h => h) (Or.inl ⟨by rfl, ?_⟩) ?_ ?_
      rotate_left
      ·intro w'
       go_simp
       with_reducible rfl
      rotate_left
      ·simp only [Act.put, sA, sB, sC, i64_w, i32_w]
       rfl
      refine pure_ (i := 3) (N := some 15) (v := ?_) (a' := ?_) (bt 7 4) rfl rfl (by kernel_rfl) (fun _ _ _ h => h) (Or.inl ⟨by rfl, ?_⟩) ?_ ?_
      rotate_left
      ·intro w'
       go_simp
       with_reducible rfl
      rotate_left
      ·simp only [Act.put, sA, sB, sC, i64_w, i32_w]
       rfl
      refine take_ (i := 4) (N := some 16) (v := ?_) (a' := ?_) (bt 7 5) rfl rfl (by kernel_rfl) (fun _ _ _ h => h) (Or.inl ⟨by rfl, ?_⟩) hHeld ?_ ?_
      rotate_left
      ·rintro w' ⟨s0, s1, s2, s3, s4, s5⟩
       go_simp
       with_reducible rfl
      rotate_left
      ·simp only [Act.put, sA, sB, sC, i64_w, i32_w]
       rfl
      refine one_ (i := 5) (N := some 17) (bt 7 6) rfl rfl (by kernel_rfl) (by decide) (fun K hK => ?_)
      refine gs Try.func67 #[] ?_
      with_reducible refine (spec_l02Unit.calls _ _ _ _ _ A6.out).mono ?_
      rintro e w13 ⟨rfl, hb⟩
      refine ⟨_, rfl, ?_⟩
      replace HO_3 := asd (Kd.R_below (kr HO_3) hb)
      replace HB := bS0 HB hb
      (try clear hb)
      (try clear hb2)
      (try clear hk)
      (try clear hi)
      refine hK.out _ _ ⟨(xb HB hw568_0), (xb HB hw568_1), (xb HB hw568_2), (xb HB hw568_3), (xb HB hw568_4), (xb HB hw568_5)⟩ (fun hHeld => ?_)
      clear hK K
      refine norm_ (a' := ?_) ?_ ?_
      rotate_left
      ·show Act.put _ (some 17) _ = _
       simp only [Act.put, sA, sB, sC, i64_w, i32_w]
       rfl
      refine pure_ (i := 6) (N := some 18) (v := ?_) (a' := ?_) (bt 7 7) rfl rfl (by kernel_rfl) (fun _ _ _ h => h) (Or.inl ⟨by rfl, ?_⟩) ?_ ?_
      rotate_left
      ·intro w'
       go_simp
       with_reducible rfl
      rotate_left
      ·simp only [Act.put, sA, sB, sC, i64_w, i32_w]
       rfl
      refine done_ (by kernel_rfl) ?_
      try go_wp2
      go_roundg k1
      case measure => have := HK1.out; omega
      case rel => exact ⟨(x3_1), (wrap64 (x4_1 + 1)), (by first | rfl | (simp; done) | (simp [*]; done)), H', ⟨by have := HK1.out; omega⟩, ⟨by (with_reducible repeat (first | apply Kd.R_alloc | apply Kd.R_drewN | apply Kd.R_drew)); exact HO_3.out⟩, ⟨bbw0 HB⟩⟩
    ·rw [if_neg c5] at H
     exact absurd H (by simp)
   ·rw [if_neg c4] at H
    have c4b0 : decide (x4_1 < (l0.length : Int)) = false := decide_eq_false c4
    clear c4
    obtain rfl := Option.some.inj H
    go_wp2
    go_ret
    exact ⟨_, by first | rfl | (simp [errW_none, errW_some] <;> rfl) | (simp [*, errW_none, errW_some] <;> rfl), by (with_reducible repeat (first | apply Kd.R_alloc | apply Kd.R_drewN | apply Kd.R_drew)); exact HO_3.out, bbw0 HB⟩

/-! ### spec_ShiftsOf: function 16 -/
def spec_ShiftsOf.f (k : Nat) (a0 : Int) (a1_0 : Int) (a1_1 : Int) (a1_2 : Int) (l2 : List (S55)) : Option ((List (S53)) × Int) := (spec_IsGroup.f k a0 a1_0 a1_1 a1_2 l2).bind fun t578 => ((spec_l06Code.f a0 a1_0 a1_1 a1_2 t578).bind fun t579 => (if t579 = 0 then ((spec_l06Shifts.f k l2).bind fun t580 => (some (t580, 0))) else (some (([] : List (S53)), t579))))
def spec_ShiftsOf.T1 : Bool × List (List Nat × List Nat) := (true, [([], []), ([], []), ([], []), ([], []), ([], []), ([2, 3, 4], [2, 3, 4]), ([0, 1, 5, 5], [0, 1, 5]), ([6, 6, 0, 1, 2, 3, 4, 5, 6], [6])])
def spec_ShiftsOf.B1 : List Nat := [0, 0, 0, 0, 0, 28, 63, 127]
theorem spec_ShiftsOf.tab1 : rtab .any (opsOf Try.f16 1) = spec_ShiftsOf.T1 := by kernel_rfl
theorem spec_ShiftsOf.bits1 : waitsOk spec_ShiftsOf.T1.2 spec_ShiftsOf.B1 = true := by kernel_rfl
set_option maxHeartbeats 8000000 in
set_option maxRecDepth 100000 in
theorem spec_ShiftsOf.calls (k : Nat) (a0 : Int) (a1_0 : Int) (a1_1 : Int) (a1_2 : Int) (A2 : Option Addr) (c2 : Nat) (l2 : List (S55)) (r1 : List (S53)) (r2 : Int) (w : World) (hr2 : Kd.C k55 w A2 l2.length l2) (hc2 : l2.length ≤ c2) (h : spec_ShiftsOf.f k a0 a1_0 a1_1 a1_2 l2 = some (r1, r2)) :
  Calls Try.prog 16 #[.int .i64 a0, .agg #[.int .i64 a1_0, .int .i64 a1_1, .int .i64 a1_2], .slice A2 l2.length c2] w fun e w' => ∃ v0_ : Value, e = .returned (.tuple #[v0_, .int .i64 r2]) ∧ Kd.R k53 53 w' w.heap.size (fun _ => True) v0_ r1 ∧ Below w.heap.size w w' := by
 have hu27 := Try.underlying27
 have HR2 := Aside0.mk hr2
 have HC2 := Aside0.mk hc2
 clear hr2 hc2
 have HB := asd (Below.refl w.heap.size w)
 have H : ((spec_IsGroup.f k a0 a1_0 a1_1 a1_2 l2).bind fun t578 => ((spec_l06Code.f a0 a1_0 a1_1 a1_2 t578).bind fun t579 => (if t579 = 0 then ((spec_l06Shifts.f k l2).bind fun t580 => (some (t580, 0))) else (some (([] : List (S53)), t579))))) = some (r1, r2) := h
 clear h
 obtain ⟨t578, A4, H⟩ := ob H
 replace H : ((spec_l06Code.f a0 a1_0 a1_1 a1_2 t578).bind fun t579 => (if t579 = 0 then ((spec_l06Shifts.f k l2).bind fun t580 => (some (t580, 0))) else (some (([] : List (S53)), t579)))) = some (r1, r2) := H
 obtain ⟨t579, A5, H⟩ := ob H
 replace H : (if t579 = 0 then ((spec_l06Shifts.f k l2).bind fun t580 => (some (t580, 0))) else (some (([] : List (S53)), t579))) = some (r1, r2) := H
 by_cases c6 : t579 = 0
 ·rw [if_pos c6] at H
  have c6b0 : (t579 == 0) = true := beq_iff_eq.mpr c6
  have c6b1 : (t579 != 0) = false := bne_eq_false_iff_eq.mpr c6
  clear c6
  obtain ⟨t580, A7, H⟩ := ob H
  replace H : (some (t580, 0)) = some (r1, r2) := H
  simp only [Option.some.injEq, Prod.mk.injEq] at H
  obtain ⟨rfl, rfl⟩ := H
  go_enter Try.func16, Try.ntmps16
  try go_wp2_with (first | ((with_reducible refine gd 4 rfl ?_); refine bx #[.int .i64 a1_0, .int .i64 a1_1, .int .i64 a1_2] 27 ?_; intro gb577 hg w8 BK577 hb; have GE577 := ngw0 hg HB; replace HB := bS0 HB hb; clear hb hg))
  replace BK577 := asd (blk_drew BK577.out)
  replace HB := asd (below_drew1 HB.out)
  refine start_ (n := 8) (S := fun w' => w'.cell? ⟨gb577, 0, none⟩ = some (.int .i64 a1_0) ∧ w'.cell? ⟨gb577, 1, none⟩ = some (.int .i64 a1_1) ∧ w'.cell? ⟨gb577, 2, none⟩ = some (.int .i64 a1_2)) (ds := []) (bt 8 0) (by kernel_rfl) rfl rfl ⟨bcl BK577 0, bcl BK577 1, bcl BK577 2⟩ (fun hHeld => ?_); refine with_tabW spec_ShiftsOf.tab1 spec_ShiftsOf.bits1 (fun HT_ HW_ => ?_)
  generalize w8.drew = w9 at BK577 HB hHeld ⊢
  refine pu 0 (some 9) (bt 8 1) HT_ ?_
  refine pu 2 (some 11) (bs 8 5) HT_ ?_
  refine pu 4 (some 13) (bs 8 21) HT_ ?_
  refine ta 1 (some 10) (bs 8 23) HT_ HW_ hHeld ?_
  refine ta 3 (some 12) (bt 8 5) HT_ HW_ hHeld ?_
  refine ro 5 (some 14) (bt 8 6) HT_ (fun K hK => ?_)
  refine gs Try.func29 #[.int .i64 a0, .agg #[.int .i64 a1_0, .int .i64 a1_1, .int .i64 a1_2], .slice A2 l2.length c2] ?_
  with_reducible refine (spec_IsGroup.calls _ _ _ _ _ _ _ _ _ _ ?side1 ?side2 A4.out).mono ?_
  (case side1 => exact ks (Kd.C_below HR2.out HB.out))
  (case side2 => exact HC2.out)
  rintro e w10 ⟨rfl, hb⟩
  refine ⟨_, rfl, ?_⟩
  replace BK577 := bB BK577 hb
  replace HB := bS1 HB GE577 hb
  (try clear hb)
  (try clear hb2)
  (try clear hk)
  (try clear hi)
  refine hK.out _ _ ⟨bcl BK577 0, bcl BK577 1, bcl BK577 2⟩ (fun hHeld => ?_)
  clear hK K
  refine norm_ (a' := ?_) ?_ ?_
  rotate_left
  ·show Act.put _ (some 14) _ = _
   simp only [Act.put, sA, sB, sC, i64_w, i32_w]
   rfl
  refine ro 6 (some 15) (bt 8 7) HT_ (fun K hK => ?_)
  refine gs Try.func39 #[.int .i64 a0, .agg #[.int .i64 a1_0, .int .i64 a1_1, .int .i64 a1_2], .bool t578] ?_
  with_reducible refine (spec_l06Code.calls _ _ _ _ _ _ _ A5.out).mono ?_
  rintro e w11 ⟨rfl, hb⟩
  refine ⟨_, rfl, ?_⟩
  replace BK577 := bB BK577 hb
  replace HB := bS1 HB GE577 hb
  (try clear hb)
  (try clear hb2)
  (try clear hk)
  (try clear hi)
  refine hK.out _ _ ⟨bcl BK577 0, bcl BK577 1, bcl BK577 2⟩ (fun hHeld => ?_)
  clear hK K
  refine norm_ (a' := ?_) ?_ ?_
  rotate_left
  ·show Act.put _ (some 15) _ = _
   simp only [Act.put, sA, sB, sC, i64_w, i32_w]
   rfl
  refine pu 7 (some 8) (bt 8 8) HT_ ?_
  refine done_ (done_of HT_.out (by kernel_rfl)) ?_
  try go_wp2_with (first | ((with_reducible refine gate_callee (f := 40) rfl ?_); refine gl 20 Try.func40 #[.slice A2 l2.length c2] ?_; (with_reducible refine (spec_l06Shifts.calls _ _ _ _ _ _ ?side1 ?side2 A7.out).mono ?_); (case side1 => exact ks (Kd.C_below HR2.out HB.out)); (case side2 => exact HC2.out); rintro e w12 ⟨v581, rfl, ho0, hb⟩; refine ⟨_, rfl, ?_⟩; have HO582 := asd (Kd.R_lower ho0 (bsz1 HB GE577)); replace BK577 := bB BK577 hb; replace HB := bS1 HB GE577 hb; (try clear hb); (try clear hb2); (try clear hk); (try clear hi); (try clear ho0)))
  go_ret2
  exact ⟨_, by first | rfl | (simp [errW_none, errW_some] <;> rfl) | (simp [*, errW_none, errW_some] <;> rfl), by (with_reducible repeat (first | apply Kd.R_alloc | apply Kd.R_drewN | apply Kd.R_drew)); exact HO582.out, bbw1 HB GE577⟩
 ·rw [if_neg c6] at H
  have c6b0 : (t579 == 0) = false := beq_eq_false_iff_ne.mpr c6
  have c6b1 : (t579 != 0) = true := bne_iff_ne.mpr c6
  simp only [Option.some.injEq, Prod.mk.injEq] at H
  obtain ⟨rfl, rfl⟩ := H
  go_enter Try.func16, Try.ntmps16
  try go_wp2_with (first | ((with_reducible refine gd 4 rfl ?_); refine bx #[.int .i64 a1_0, .int .i64 a1_1, .int .i64 a1_2] 27 ?_; intro gb577 hg w13 BK577 hb; have GE577 := ngw0 hg HB; replace HB := bS0 HB hb; clear hb hg))
  replace BK577 := asd (blk_drew BK577.out)
  replace HB := asd (below_drew1 HB.out)
  refine start_ (n := 8) (S := fun w' => w'.cell? ⟨gb577, 0, none⟩ = some (.int .i64 a1_0) ∧ w'.cell? ⟨gb577, 1, none⟩ = some (.int .i64 a1_1) ∧ w'.cell? ⟨gb577, 2, none⟩ = some (.int .i64 a1_2)) (ds := []) (bt 8 0) (by kernel_rfl) rfl rfl ⟨bcl BK577 0, bcl BK577 1, bcl BK577 2⟩ (fun hHeld => ?_); refine with_tabW spec_ShiftsOf.tab1 spec_ShiftsOf.bits1 (fun HT_ HW_ => ?_)
  generalize w13.drew = w14 at BK577 HB hHeld ⊢
  refine pu 0 (some 9) (bt 8 1) HT_ ?_
  refine pu 2 (some 11) (bs 8 5) HT_ ?_
  refine pu 4 (some 13) (bs 8 21) HT_ ?_
  refine ta 1 (some 10) (bs 8 23) HT_ HW_ hHeld ?_
  refine ta 3 (some 12) (bt 8 5) HT_ HW_ hHeld ?_
  refine ro 5 (some 14) (bt 8 6) HT_ (fun K hK => ?_)
  refine gs Try.func29 #[.int .i64 a0, .agg #[.int .i64 a1_0, .int .i64 a1_1, .int .i64 a1_2], .slice A2 l2.length c2] ?_
  with_reducible refine (spec_IsGroup.calls _ _ _ _ _ _ _ _ _ _ ?side1 ?side2 A4.out).mono ?_
  (case side1 => exact ks (Kd.C_below HR2.out HB.out))
  (case side2 => exact HC2.out)
  rintro e w15 ⟨rfl, hb⟩
  refine ⟨_, rfl, ?_⟩
  replace BK577 := bB BK577 hb
  replace HB := bS1 HB GE577 hb
  (try clear hb)
  (try clear hb2)
  (try clear hk)
  (try clear hi)
  refine hK.out _ _ ⟨bcl BK577 0, bcl BK577 1, bcl BK577 2⟩ (fun hHeld => ?_)
  clear hK K
  refine norm_ (a' := ?_) ?_ ?_
  rotate_left
  ·show Act.put _ (some 14) _ = _
   simp only [Act.put, sA, sB, sC, i64_w, i32_w]
   rfl
  refine ro 6 (some 15) (bt 8 7) HT_ (fun K hK => ?_)
  refine gs Try.func39 #[.int .i64 a0, .agg #[.int .i64 a1_0, .int .i64 a1_1, .int .i64 a1_2], .bool t578] ?_
  with_reducible refine (spec_l06Code.calls _ _ _ _ _ _ _ A5.out).mono ?_
  rintro e w16 ⟨rfl, hb⟩
  refine ⟨_, rfl, ?_⟩
  replace BK577 := bB BK577 hb
  replace HB := bS1 HB GE577 hb
  (try clear hb)
  (try clear hb2)
  (try clear hk)
  (try clear hi)
  refine hK.out _ _ ⟨bcl BK577 0, bcl BK577 1, bcl BK577 2⟩ (fun hHeld => ?_)
  clear hK K
  refine norm_ (a' := ?_) ?_ ?_
  rotate_left
  ·show Act.put _ (some 15) _ = _
   simp only [Act.put, sA, sB, sC, i64_w, i32_w]
   rfl
  refine pu 7 (some 8) (bt 8 8) HT_ ?_
  refine done_ (done_of HT_.out (by kernel_rfl)) ?_
  try go_wp2
  go_ret2
  exact ⟨_, by first | rfl | (simp [errW_none, errW_some] <;> rfl) | (simp [*, errW_none, errW_some] <;> rfl), by first | exact Kd.R_nil _ _ _ _ _ | exact Kd.N_nil _ _ _ _ _ | exact Kd.V_nil _ _ _ _ _ | exact Kd.Q_nil _ _ _ _ _ | exact Kd.S_nil _ _ _ _ _, bbw1 HB GE577⟩

/-! ### impl_shiftsOf: function 41 -/
def impl_shiftsOf.l0 : Nat → List (S53) → List (S55) → Int → Int → Option ((List (S53)))
 | 0, _, _, _, _ => none
 | k + 1, x3, x7, x8, x9 => if x9 < x8 then (if 0 ≤ x9 then (if x9 < (x7.length : Int) then ((impl_unit.f).bind fun bt588 => (if (((rd_T55 x7 x9).f0.f0) == bt588.1 && (((rd_T55 x7 x9).f0.f1) == bt588.2.1 && (((rd_T55 x7 x9).f0.f2) == bt588.2.2.1 && (((rd_T55 x7 x9).f0.f3) == bt588.2.2.2)))) = true then (if x3.length < 8796093022208 then (impl_shiftsOf.l0 k (x3 ++ [(⟨(rd_T55 x7 x9).f1.f0, (rd_T55 x7 x9).f1.f1⟩ : S53)]) x7 x8 (wrap64 (x9 + 1))) else (none)) else (impl_shiftsOf.l0 k x3 x7 x8 (wrap64 (x9 + 1))))) else (none)) else (none)) else (some x3)
def impl_shiftsOf.f (k : Nat) (l0 : List (S55)) : Option ((List (S53))) := impl_shiftsOf.l0 k (([] : List (S53))) l0 (l0.length : Int) 0
set_option maxHeartbeats 8000000 in
set_option maxRecDepth 100000 in
theorem impl_shiftsOf.calls (k : Nat) (A0 : Option Addr) (c0 : Nat) (l0 : List (S55)) (r : List (S53)) (w : World) (hr0 : Kd.C k55 w A0 l0.length l0) (hc0 : l0.length ≤ c0) (h : impl_shiftsOf.f k l0 = some r) :
  Calls Try.prog 41 #[.slice A0 l0.length c0] w fun e w' => ∃ v0_ : Value, e = .returned (v0_) ∧ Kd.R k53 53 w' w.heap.size (fun _ => True) v0_ r ∧ Below w.heap.size w w' := by
 have hu55 := Try.underlying55
 have hu51 := Try.underlying51
 have hu53 := Try.underlying53
 have HR0 := Aside0.mk hr0
 have HC0 := Aside0.mk hc0
 clear hr0 hc0
 have HB := asd (Below.refl w.heap.size w)
 have H : (impl_shiftsOf.l0 k (([] : List (S53))) l0 (l0.length : Int) 0) = some r := h
 clear h
 obtain ⟨y583, hy583⟩ : ∃ y_ : List (S53), y_ = (([] : List (S53))) := ⟨_, rfl⟩
 replace H : (impl_shiftsOf.l0 k y583 l0 (l0.length : Int) 0) = some r := by first | (rw [hy583]; with_reducible exact H) | (have H2_ := (Option.bind_some _ _).symm.trans H; rw [hy583]; with_reducible exact H2_) | (have H2_ := (Option.bind_some _ _).symm.trans H; with_reducible exact H2_) | with_reducible exact H | (rw [hy583]; exact H) | exact H
 have Ny583 := Aside0.mk hy583
 clear hy583
 have H' := Aside0.mk H
 clear H
 go_enter Try.func41, Try.ntmps41
 go_wp2_with (first | ((with_reducible refine gd 6 rfl ?_); refine Kd.R_lit k53 _ 53 ?hg (N := 6) ?hd (xs := ([] : List (S53))) (inner := []) (ok := fun _ => True) (okp := fun _ => True) ?hr ?hp (fun _ hk => hk) trivial (Below.refl _ _) (Nat.le_refl _) (by simp) ?_; (case hd => rfl); (case hg => rfl); (case hr => first | (go_simp; done) | (go_simp; rfl)); (case hp => exact (Reps.none _ _)); intro v584 w2 ho3 hb hg_ hnew_; clear hg_ hnew_; (first | rw [← Ny583.out] at ho3 | (simp only [Int.reduceToNat] at ho3; rw [← Ny583.out] at ho3)); have HO585 := asd (Kd.R_lower ho3 (bsz0 HB)); replace HB := bS0 HB hb; clear hb ho3))
 go_loopg [3, 9] k (fun kq v3 v9 w' => ∃ (x3_1 : List (S53)) (x9_1 : Int), v9 = .int .i64 x9_1 ∧ Aside0 (impl_shiftsOf.l0 kq x3_1 l0 (l0.length : Int) x9_1 = some r) ∧ Aside0 (kq ≤ k) ∧ Aside0 (Kd.R k53 53 w' w.heap.size (fun _ => True) v3 x3_1) ∧ Aside0 (Below w.heap.size w w'))
 case atStart => exact ⟨(y583), (0), (by first | rfl | (simp; done) | (simp [*]; done)), H', ⟨Nat.le_refl _⟩, ⟨by (with_reducible repeat (first | apply Kd.R_alloc | apply Kd.R_drewN | apply Kd.R_drew)); exact HO585.out⟩, ⟨bbw0 HB⟩⟩
 case round =>
  clear H'
  try clear p2
  obtain ⟨x3_1, x9_1, rfl, HA, HK1, HO_3, HB⟩ := hrel
  cases gk with
  | zero => exact absurd HA.out (by simp [impl_shiftsOf.l0])
  | succ k1 =>
   have H := HA.out
   clear HA
   simp only [impl_shiftsOf.l0] at H
   by_cases c4 : x9_1 < (l0.length : Int)
   ·rw [if_pos c4] at H
    have c4b0 : decide (x9_1 < (l0.length : Int)) = true := decide_eq_true c4
    clear c4
    by_cases c5 : 0 ≤ x9_1
    ·rw [if_pos c5] at H
     have c5b0 : decide (0 ≤ x9_1) = true := decide_eq_true c5
     clear c5
     by_cases c6 : x9_1 < (l0.length : Int)
     ·rw [if_pos c6] at H
      have c6b0 : decide (x9_1 < (l0.length : Int)) = true := decide_eq_true c6
      clear c6
      obtain ⟨⟨t588, t589, t590, t591⟩, A7, H⟩ := ob H
      replace H : (if (((rd_T55 l0 x9_1).f0.f0) == t588 && (((rd_T55 l0 x9_1).f0.f1) == t589 && (((rd_T55 l0 x9_1).f0.f2) == t590 && (((rd_T55 l0 x9_1).f0.f3) == t591)))) = true then (if x3_1.length < 8796093022208 then (impl_shiftsOf.l0 k1 (x3_1 ++ [(⟨(rd_T55 l0 x9_1).f1.f0, (rd_T55 l0 x9_1).f1.f1⟩ : S53)]) l0 (l0.length : Int) (wrap64 (x9_1 + 1))) else (none)) else (impl_shiftsOf.l0 k1 x3_1 l0 (l0.length : Int) (wrap64 (x9_1 + 1)))) = some r := H
      by_cases c8 : (((rd_T55 l0 x9_1).f0.f0) == t588 && (((rd_T55 l0 x9_1).f0.f1) == t589 && (((rd_T55 l0 x9_1).f0.f2) == t590 && (((rd_T55 l0 x9_1).f0.f3) == t591)))) = true
      ·rw [if_pos c8] at H
       have c8b0 : (((rd_T55 l0 x9_1).f0.f0) == t588 && (((rd_T55 l0 x9_1).f0.f1) == t589 && (((rd_T55 l0 x9_1).f0.f2) == t590 && (((rd_T55 l0 x9_1).f0.f3) == t591)))) = true := c8
       (try (have c8b1 : decide (((rd_T55 l0 x9_1).f0.f0) = t588 && (((rd_T55 l0 x9_1).f0.f1) == t589 && (((rd_T55 l0 x9_1).f0.f2) == t590 && (((rd_T55 l0 x9_1).f0.f3) == t591)))) = true := by simpa using c8))
       (try (have c8b2 : (((rd_T55 l0 x9_1).f0.f0) == t588 && (((rd_T55 l0 x9_1).f0.f1) == t589 && (((rd_T55 l0 x9_1).f0.f2) == t590 && (((rd_T55 l0 x9_1).f0.f3) == t591)))) = true := by simpa using c8))
       clear c8
       by_cases c9 : x3_1.length < 8796093022208
       ·rw [if_pos c9] at H
        have LMc9 := Aside0.mk c9
        clear c9
        obtain ⟨y592, hy592⟩ : ∃ y_ : List (S53), y_ = (x3_1 ++ [(⟨(rd_T55 l0 x9_1).f1.f0, (rd_T55 l0 x9_1).f1.f1⟩ : S53)]) := ⟨_, rfl⟩
        replace H : (impl_shiftsOf.l0 k1 y592 l0 (l0.length : Int) (wrap64 (x9_1 + 1))) = some r := by first | (rw [hy592]; with_reducible exact H) | (have H2_ := (Option.bind_some _ _).symm.trans H; rw [hy592]; with_reducible exact H2_) | (have H2_ := (Option.bind_some _ _).symm.trans H; with_reducible exact H2_) | with_reducible exact H | (rw [hy592]; exact H) | exact H
        have Ny592 := Aside0.mk hy592
        clear hy592
        have H' := Aside0.mk H
        clear H
        obtain ⟨p586, q586, ad586, e586, hx586_0, hx586_1, hx586_2, hx586_3, hx586_4, hx586_5⟩ := at_T55x HR0.out HB x9_1
        cases e586
        try go_wp2_with (first | ((with_reducible refine gd 5 rfl ?_); refine bx #[.int .i64 0, .int .i64 0, .int .i64 0, .int .i64 0, .int .i64 0, .int .i64 0] 55 ?_; intro gb587 hg w10 BK587 hb; replace HO_3 := asd (Kd.R_below (kr HO_3) hb); have GE587 := ngw0 hg HB; replace HB := bS0 HB hb; clear hb hg; obtain ⟨hcz11_0, hcz11_1, hcz11_2, hcz11_3, hcz11_4, hcz11_5, hfz11_0, hfz11_1, hfz11_2, hfz11_3, hfz11_4, hfz11_5⟩ := bz6 BK587))
        obtain ⟨w12, h_w12⟩ : ∃ w_, ((((((w10.setCell ⟨gb587, 0, none⟩ (.int .i64 ((rd_T55 l0 x9_1).f0.f0))).setCell ⟨gb587, 1, none⟩ (.int .i64 ((rd_T55 l0 x9_1).f0.f1))).setCell ⟨gb587, 2, none⟩ (.int .i64 ((rd_T55 l0 x9_1).f0.f2))).setCell ⟨gb587, 3, none⟩ (.int .i64 ((rd_T55 l0 x9_1).f0.f3))).setCell ⟨gb587, 4, none⟩ (.int .i64 ((rd_T55 l0 x9_1).f1.f0))).setCell ⟨gb587, 5, none⟩ (.int .i64 ((rd_T55 l0 x9_1).f1.f1))) = w_ := ⟨_, rfl⟩
        replace HO_3 : Aside0 (Kd.R k53 53 w12 w.heap.size (fun _ => True) u3 x3_1) := by rw [← h_w12]; exact ⟨by (with_reducible repeat (first | apply Kd.R_alloc | apply Kd.R_drewN | apply Kd.R_drew)); exact Kd.R_mono (rw6 (Kd.R_types HO_3.out BK587.out (by decide))) (fun _ hk => trivial)⟩
        replace BK587 : Aside0 (w12.heap[gb587]? = some (.cells #[.int .i64 ((rd_T55 l0 x9_1).f0.f0), .int .i64 ((rd_T55 l0 x9_1).f0.f1), .int .i64 ((rd_T55 l0 x9_1).f0.f2), .int .i64 ((rd_T55 l0 x9_1).f0.f3), .int .i64 ((rd_T55 l0 x9_1).f1.f0), .int .i64 ((rd_T55 l0 x9_1).f1.f1)] 55 (0, 0))) := by rw [← h_w12]; exact ⟨bq0 BK587⟩
        replace HB : Aside0 (Below w.heap.size w w12) := by rw [← h_w12]; exact ⟨bbw1 HB GE587⟩
        (try rw [h_w12]); clear h_w12
        replace HO_3 := asd (Kd.R_drew HO_3.out)
        replace BK587 := asd (blk_drew BK587.out)
        replace HB := asd (below_drew1 HB.out)
        refine start_ (n := 4) (S := fun w' => w'.cell? ⟨gb587, 0, none⟩ = some (.int .i64 ((rd_T55 l0 x9_1).f0.f0)) ∧ w'.cell? ⟨gb587, 1, none⟩ = some (.int .i64 ((rd_T55 l0 x9_1).f0.f1)) ∧ w'.cell? ⟨gb587, 2, none⟩ = some (.int .i64 ((rd_T55 l0 x9_1).f0.f2)) ∧ w'.cell? ⟨gb587, 3, none⟩ = some (.int .i64 ((rd_T55 l0 x9_1).f0.f3)) ∧ w'.cell? ⟨gb587, 4, none⟩ = some (.int .i64 ((rd_T55 l0 x9_1).f1.f0)) ∧ w'.cell? ⟨gb587, 5, none⟩ = some (.int .i64 ((rd_T55 l0 x9_1).f1.f1))) (ds := []) (bt 4 0) (by kernel_rfl) rfl rfl ⟨bcl BK587 0, bcl BK587 1, bcl BK587 2, bcl BK587 3, bcl BK587 4, bcl BK587 5⟩ (fun hHeld => ?_)
        generalize w12.drew = w13 at HO_3 BK587 HB hHeld ⊢
        refine pure_ (i := 0) (N := some 13) (v := ?_) (a' := ?_) (bt 4 1) rfl rfl (by kernel_rfl) (fun _ _ _ h => h) (Or.inl ⟨by rfl, ?_⟩) ?_ ?_
        rotate_left
        ·intro w'
         go_simp
         with_reducible rfl
        rotate_left
        ·simp only [Act.put, sA, sB, sC, i64_w, i32_w]
         rfl
        refine take_ (i := 1) (N := some 14) (v := ?_) (a' := ?_) (bt 4 2) rfl rfl (by kernel_rfl) (fun _ _ _ h => h) (Or.inl ⟨by rfl, ?_⟩) hHeld ?_ ?_
        rotate_left
        ·rintro w' ⟨s0, s1, s2, s3, s4, s5⟩
         go_simp
         with_reducible rfl
        rotate_left
        ·simp only [Act.put, sA, sB, sC, i64_w, i32_w]
         rfl
        refine one_ (i := 2) (N := some 15) (bt 4 3) rfl rfl (by kernel_rfl) (by decide) (fun K hK => ?_)
        refine gs Try.func72 #[] ?_
        with_reducible refine (impl_unit.calls _ _ _ _ _ A7.out).mono ?_
        rintro e w14 ⟨rfl, hb⟩
        refine ⟨_, rfl, ?_⟩
        replace HO_3 := asd (Kd.R_below (kr HO_3) hb)
        replace BK587 := bB BK587 hb
        replace HB := bS1 HB GE587 hb
        (try clear hb)
        (try clear hb2)
        (try clear hk)
        (try clear hi)
        refine hK.out _ _ ⟨bcl BK587 0, bcl BK587 1, bcl BK587 2, bcl BK587 3, bcl BK587 4, bcl BK587 5⟩ (fun hHeld => ?_)
        clear hK K
        refine norm_ (a' := ?_) ?_ ?_
        rotate_left
        ·show Act.put _ (some 15) _ = _
         simp only [Act.put, sA, sB, sC, i64_w, i32_w]
         rfl
        refine pure_ (i := 3) (N := some 16) (v := ?_) (a' := ?_) (bt 4 4) rfl rfl (by kernel_rfl) (fun _ _ _ h => h) (Or.inl ⟨by rfl, ?_⟩) ?_ ?_
        rotate_left
        ·intro w'
         go_simp
         with_reducible rfl
        rotate_left
        ·simp only [Act.put, sA, sB, sC, i64_w, i32_w]
         rfl
        refine done_ (by kernel_rfl) ?_
        obtain ⟨hcz15_0, hcz15_1, hcz15_2, hcz15_3, hcz15_4, hcz15_5, hfz15_0, hfz15_1, hfz15_2, hfz15_3, hfz15_4, hfz15_5⟩ := bz6 BK587
        try go_wp2_with (first | ((with_reducible refine gate_builtin (b := .append) (xs := #[.tmp 17, .tmp 20]) rfl ?_); at_builtin; refine Kd.R_append k53 (w0 := w) w.heap.size rfl (.tmp 17) (.tmp 20) 36 53 (.agg #[(.int .i64 0), (.int .i64 0)]) 16 rfl Try.underlying36 info53 rfl (by decide) (by omega) u3 x3_1 (⟨(rd_T55 l0 x9_1).f1.f0, (rd_T55 l0 x9_1).f1.f1⟩ : S53) [.int .i64 ((rd_T55 l0 x9_1).f1.f0), .int .i64 ((rd_T55 l0 x9_1).f1.f1)] (fun _ => True) (fun _ => False) rfl rfl ?aP (fun _ hk => hk.elim) ?aF ?aO ?aB ?aS ?aL ?_; (case aP => exact k53_mkM _ _ _ (⟨(rd_T55 l0 x9_1).f1.f0, (rd_T55 l0 x9_1).f1.f1⟩ : S53)); (case aB => exact (bbw1 HB GE587)); (case aF => exact (fun _ _ => trivial)); (case aO => exact (kr HO_3)); (case aS => exact (bsz1 HB GE587)); (case aL => have := LMc9.out; omega); intro v593 w16 ho hb hg hat; rw [← Ny592.out] at ho; have n0_ := asd (blk_grown (g := gb587) (o := .cells #[.int .i64 ((rd_T55 l0 x9_1).f0.f0), .int .i64 ((rd_T55 l0 x9_1).f0.f1), .int .i64 ((rd_T55 l0 x9_1).f0.f2), .int .i64 ((rd_T55 l0 x9_1).f0.f3), .int .i64 ((rd_T55 l0 x9_1).f1.f0), .int .i64 ((rd_T55 l0 x9_1).f1.f1)] 55 (0, 0)) (bkp BK587) hg (Kd.R_ne HO_3.out BK587.out (by decide))); have n1_ := asd (hb); have n2_ := asd (ho); clear BK587; clear HB; clear HO_3; have BK587 := n0_; have HB := n1_; have HO594 := n2_; clear n0_ n1_ n2_; clear ho hb hg hat))
        go_roundg k1
        case measure => have := HK1.out; omega
        case rel => exact ⟨(y592), (wrap64 (x9_1 + 1)), (by first | rfl | (simp; done) | (simp [*]; done)), H', ⟨by have := HK1.out; omega⟩, ⟨by (with_reducible repeat (first | apply Kd.R_alloc | apply Kd.R_drewN | apply Kd.R_drew)); exact HO594.out⟩, ⟨bbw1 HB GE587⟩⟩
       ·rw [if_neg c9] at H
        exact absurd H (by simp)
      ·rw [if_neg c8] at H
       have c8b0 : (((rd_T55 l0 x9_1).f0.f0) == t588 && (((rd_T55 l0 x9_1).f0.f1) == t589 && (((rd_T55 l0 x9_1).f0.f2) == t590 && (((rd_T55 l0 x9_1).f0.f3) == t591)))) = false := by simpa using c8
       (try (have c8b1 : decide (((rd_T55 l0 x9_1).f0.f0) = t588 && (((rd_T55 l0 x9_1).f0.f1) == t589 && (((rd_T55 l0 x9_1).f0.f2) == t590 && (((rd_T55 l0 x9_1).f0.f3) == t591)))) = false := by simpa using c8))
       (try (have c8b2 : (((rd_T55 l0 x9_1).f0.f0) == t588 && (((rd_T55 l0 x9_1).f0.f1) == t589 && (((rd_T55 l0 x9_1).f0.f2) == t590 && (((rd_T55 l0 x9_1).f0.f3) == t591)))) = false := by simpa using c8))
       (try (have c8b3 : ¬ (((rd_T55 l0 x9_1).f0.f0) = t588 && (((rd_T55 l0 x9_1).f0.f1) == t589 && (((rd_T55 l0 x9_1).f0.f2) == t590 && (((rd_T55 l0 x9_1).f0.f3) == t591)))) := by simpa using c8))
       clear c8
       have H' := Aside0.mk H
       clear H
       obtain ⟨p586, q586, ad586, e586, hx586_0, hx586_1, hx586_2, hx586_3, hx586_4, hx586_5⟩ := at_T55x HR0.out HB x9_1
       cases e586
       try go_wp2_with (first | ((with_reducible refine gd 5 rfl ?_); refine bx #[.int .i64 0, .int .i64 0, .int .i64 0, .int .i64 0, .int .i64 0, .int .i64 0] 55 ?_; intro gb587 hg w17 BK587 hb; replace HO_3 := asd (Kd.R_below (kr HO_3) hb); have GE587 := ngw0 hg HB; replace HB := bS0 HB hb; clear hb hg; obtain ⟨hcz18_0, hcz18_1, hcz18_2, hcz18_3, hcz18_4, hcz18_5, hfz18_0, hfz18_1, hfz18_2, hfz18_3, hfz18_4, hfz18_5⟩ := bz6 BK587))
       obtain ⟨w19, h_w19⟩ : ∃ w_, ((((((w17.setCell ⟨gb587, 0, none⟩ (.int .i64 ((rd_T55 l0 x9_1).f0.f0))).setCell ⟨gb587, 1, none⟩ (.int .i64 ((rd_T55 l0 x9_1).f0.f1))).setCell ⟨gb587, 2, none⟩ (.int .i64 ((rd_T55 l0 x9_1).f0.f2))).setCell ⟨gb587, 3, none⟩ (.int .i64 ((rd_T55 l0 x9_1).f0.f3))).setCell ⟨gb587, 4, none⟩ (.int .i64 ((rd_T55 l0 x9_1).f1.f0))).setCell ⟨gb587, 5, none⟩ (.int .i64 ((rd_T55 l0 x9_1).f1.f1))) = w_ := ⟨_, rfl⟩
       replace HO_3 : Aside0 (Kd.R k53 53 w19 w.heap.size (fun _ => True) u3 x3_1) := by rw [← h_w19]; exact ⟨by (with_reducible repeat (first | apply Kd.R_alloc | apply Kd.R_drewN | apply Kd.R_drew)); exact Kd.R_mono (rw6 (Kd.R_types HO_3.out BK587.out (by decide))) (fun _ hk => trivial)⟩
       replace BK587 : Aside0 (w19.heap[gb587]? = some (.cells #[.int .i64 ((rd_T55 l0 x9_1).f0.f0), .int .i64 ((rd_T55 l0 x9_1).f0.f1), .int .i64 ((rd_T55 l0 x9_1).f0.f2), .int .i64 ((rd_T55 l0 x9_1).f0.f3), .int .i64 ((rd_T55 l0 x9_1).f1.f0), .int .i64 ((rd_T55 l0 x9_1).f1.f1)] 55 (0, 0))) := by rw [← h_w19]; exact ⟨bq0 BK587⟩
       replace HB : Aside0 (Below w.heap.size w w19) := by rw [← h_w19]; exact ⟨bbw1 HB GE587⟩
       (try rw [h_w19]); clear h_w19
       replace HO_3 := asd (Kd.R_drew HO_3.out)
       replace BK587 := asd (blk_drew BK587.out)
       replace HB := asd (below_drew1 HB.out)
       refine start_ (n := 4) (S := fun w' => w'.cell? ⟨gb587, 0, none⟩ = some (.int .i64 ((rd_T55 l0 x9_1).f0.f0)) ∧ w'.cell? ⟨gb587, 1, none⟩ = some (.int .i64 ((rd_T55 l0 x9_1).f0.f1)) ∧ w'.cell? ⟨gb587, 2, none⟩ = some (.int .i64 ((rd_T55 l0 x9_1).f0.f2)) ∧ w'.cell? ⟨gb587, 3, none⟩ = some (.int .i64 ((rd_T55 l0 x9_1).f0.f3)) ∧ w'.cell? ⟨gb587, 4, none⟩ = some (.int .i64 ((rd_T55 l0 x9_1).f1.f0)) ∧ w'.cell? ⟨gb587, 5, none⟩ = some (.int .i64 ((rd_T55 l0 x9_1).f1.f1))) (ds := []) (bt 4 0) (by kernel_rfl) rfl rfl ⟨bcl BK587 0, bcl BK587 1, bcl BK587 2, bcl BK587 3, bcl BK587 4, bcl BK587 5⟩ (fun hHeld => ?_)
       generalize w19.drew = w20 at HO_3 BK587 HB hHeld ⊢
       refine pure_ (i := 0) (N := some 13) (v := ?_) (a' := ?_) (bt 4 1) rfl rfl (by kernel_rfl) (fun _ _ _ h => h) (Or.inl ⟨by rfl, ?_⟩) ?_ ?_
       rotate_left
       ·intro w'
        go_simp
        with_reducible rfl
       rotate_left
       ·simp only [Act.put, sA, sB, sC, i64_w, i32_w]
        rfl
       refine take_ (i := 1) (N := some 14) (v := ?_) (a' := ?_) (bt 4 2) rfl rfl (by kernel_rfl) (fun _ _ _ h => h) (Or.inl ⟨by rfl, ?_⟩) hHeld ?_ ?_
       rotate_left
       ·rintro w' ⟨s0, s1, s2, s3, s4, s5⟩
        go_simp
        with_reducible rfl
       rotate_left
       ·simp only [Act.put, sA, sB, sC, i64_w, i32_w]
        rfl
       refine one_ (i := 2) (N := some 15) (bt 4 3) rfl rfl (by kernel_rfl) (by decide) (fun K hK => ?_)
       refine gs Try.func72 #[] ?_
       with_reducible refine (impl_unit.calls _ _ _ _ _ A7.out).mono ?_
       rintro e w21 ⟨rfl, hb⟩
       refine ⟨_, rfl, ?_⟩
       replace HO_3 := asd (Kd.R_below (kr HO_3) hb)
       replace BK587 := bB BK587 hb
       replace HB := bS1 HB GE587 hb
       (try clear hb)
       (try clear hb2)
       (try clear hk)
       (try clear hi)
       refine hK.out _ _ ⟨bcl BK587 0, bcl BK587 1, bcl BK587 2, bcl BK587 3, bcl BK587 4, bcl BK587 5⟩ (fun hHeld => ?_)
       clear hK K
       refine norm_ (a' := ?_) ?_ ?_
       rotate_left
       ·show Act.put _ (some 15) _ = _
        simp only [Act.put, sA, sB, sC, i64_w, i32_w]
        rfl
       refine pure_ (i := 3) (N := some 16) (v := ?_) (a' := ?_) (bt 4 4) rfl rfl (by kernel_rfl) (fun _ _ _ h => h) (Or.inl ⟨by rfl, ?_⟩) ?_ ?_
       rotate_left
       ·intro w'
        go_simp
        with_reducible rfl
       rotate_left
       ·simp only [Act.put, sA, sB, sC, i64_w, i32_w]
        rfl
       refine done_ (by kernel_rfl) ?_
       try go_wp2
       go_roundg k1
       case measure => have := HK1.out; omega
       case rel => exact ⟨(x3_1), (wrap64 (x9_1 + 1)), (by first | rfl | (simp; done) | (simp [*]; done)), H', ⟨by have := HK1.out; omega⟩, ⟨by (with_reducible repeat (first | apply Kd.R_alloc | apply Kd.R_drewN | apply Kd.R_drew)); exact HO_3.out⟩, ⟨bbw1 HB GE587⟩⟩
     ·rw [if_neg c6] at H
      exact absurd H (by simp)
    ·rw [if_neg c5] at H
     exact absurd H (by simp)
   ·rw [if_neg c4] at H
    have c4b0 : decide (x9_1 < (l0.length : Int)) = false := decide_eq_false c4
    clear c4
    obtain rfl := Option.some.inj H
    go_wp2
    go_ret
    exact ⟨_, by first | rfl | (simp [errW_none, errW_some] <;> rfl) | (simp [*, errW_none, errW_some] <;> rfl), by (with_reducible repeat (first | apply Kd.R_alloc | apply Kd.R_drewN | apply Kd.R_drew)); exact HO_3.out, bbw0 HB⟩

/-! ### impl_ShiftsOf: function 17 -/
def impl_ShiftsOf.f (k : Nat) (a0 : Int) (a1_0 : Int) (a1_1 : Int) (a1_2 : Int) (l2 : List (S55)) : Option ((List (S53)) × Int) := (impl_groupCode.f k a0 a1_0 a1_1 a1_2 (([l2] : List (List (S55))))).bind fun t599 => (if t599 = 0 then ((impl_shiftsOf.f k l2).bind fun t600 => (some (t600, 0))) else (some (([] : List (S53)), t599)))
set_option maxHeartbeats 8000000 in
set_option maxRecDepth 100000 in
theorem impl_ShiftsOf.calls (k : Nat) (a0 : Int) (a1_0 : Int) (a1_1 : Int) (a1_2 : Int) (P2_ : Nat → Prop) (A2 : Option Addr) (c2 : Nat) (l2 : List (S55)) (r1 : List (S53)) (r2 : Int) (w : World) (hs2 : Kd.V k55 55 w w.heap.size (fun k_ => P2_ k_) (.slice A2 l2.length c2) l2) (h : impl_ShiftsOf.f k a0 a1_0 a1_1 a1_2 l2 = some (r1, r2)) :
  Calls Try.prog 17 #[.int .i64 a0, .agg #[.int .i64 a1_0, .int .i64 a1_1, .int .i64 a1_2], .slice A2 l2.length c2] w fun e w' => ∃ v0_ : Value, e = .returned (.tuple #[v0_, .int .i64 r2]) ∧ Kd.R k53 53 w' w.heap.size (fun k_ => (w.heap.size ≤ k_)) v0_ r1 ∧ Below w.heap.size w w' := by
 have hu27 := Try.underlying27
 have HO2 := asd (show Kd.V k55 55 w w.heap.size (fun k_ => (P2_ k_ ∨ w.heap.size ≤ k_)) (.slice A2 l2.length c2) l2 from Kd.V_mono hs2 (fun k_ hk => .inl hk))
 have HB := asd (Below.refl w.heap.size w)
 have H : ((impl_groupCode.f k a0 a1_0 a1_1 a1_2 (([l2] : List (List (S55))))).bind fun t599 => (if t599 = 0 then ((impl_shiftsOf.f k l2).bind fun t600 => (some (t600, 0))) else (some (([] : List (S53)), t599)))) = some (r1, r2) := h
 clear h
 obtain ⟨y596, hy596⟩ : ∃ y_ : List (List (S55)), y_ = (([l2] : List (List (S55)))) := ⟨_, rfl⟩
 replace H : ((impl_groupCode.f k a0 a1_0 a1_1 a1_2 y596).bind fun t599 => (if t599 = 0 then ((impl_shiftsOf.f k l2).bind fun t600 => (some (t600, 0))) else (some (([] : List (S53)), t599)))) = some (r1, r2) := by first | (rw [hy596]; with_reducible exact H) | (have H2_ := (Option.bind_some _ _).symm.trans H; rw [hy596]; with_reducible exact H2_) | (have H2_ := (Option.bind_some _ _).symm.trans H; with_reducible exact H2_) | with_reducible exact H | (rw [hy596]; exact H) | exact H
 have Ny596 := Aside0.mk hy596
 clear hy596
 obtain ⟨t599, A4, H⟩ := ob H
 replace H : (if t599 = 0 then ((impl_shiftsOf.f k l2).bind fun t600 => (some (t600, 0))) else (some (([] : List (S53)), t599))) = some (r1, r2) := H
 by_cases c5 : t599 = 0
 ·rw [if_pos c5] at H
  have c5b0 : (t599 == 0) = true := beq_iff_eq.mpr c5
  have c5b1 : (t599 != 0) = false := bne_eq_false_iff_eq.mpr c5
  clear c5
  obtain ⟨t600, A6, H⟩ := ob H
  replace H : (some (t600, 0)) = some (r1, r2) := H
  simp only [Option.some.injEq, Prod.mk.injEq] at H
  obtain ⟨rfl, rfl⟩ := H
  go_enter Try.func17, Try.ntmps17
  go_wp2_with (first | ((with_reducible refine gd 4 rfl ?_); refine bx #[.int .i64 a1_0, .int .i64 a1_1, .int .i64 a1_2] 27 ?_; intro gb595 hg w7 BK595 hb; replace HO2 := asd (Kd.V_below (Kd.V_elderB (by (with_reducible repeat (first | apply Kd.V_alloc | apply Kd.V_drewN | apply Kd.V_drew)); exact HO2.out) gb595 (Nat.le_of_eq hg.symm)) hb); have GE595 := ngw0 hg HB; replace HB := bS0 HB hb; clear hb hg; obtain ⟨hcz8_0, hcz8_1, hcz8_2, hfz8_0, hfz8_1, hfz8_2⟩ := bz3 BK595) | ((with_reducible refine gd 12 rfl ?_); refine Kd.N_lit (Kd.slice 55 k55) _ 29 ?hg (N' := 12) ?hd (xs := ([l2] : List (List (S55)))) (inner := [.slice A2 l2.length c2]) (ok := (fun k_ => (P2_ k_ ∨ w.heap.size ≤ k_) ∧ k_ ≠ gb595)) (okp := (fun k_ => (P2_ k_ ∨ w.heap.size ≤ k_) ∧ k_ ≠ gb595)) ?hr ?hp (fun _ hk => hk) ((show ∀ k_, w7.heap.size ≤ k_ → (fun k_ => (P2_ k_ ∨ w.heap.size ≤ k_) ∧ k_ ≠ gb595) k_ from fun k_ hk => ⟨(.inr (Nat.le_trans (bsz1 HB GE595) hk)), Kd.freshB (g := gb595) (o := .cells #[.int .i64 a1_0, .int .i64 a1_1, .int .i64 a1_2] 27 (0, 0)) (bkp BK595) k_ hk⟩) _ (Nat.le_refl _)) (Below.refl _ _) (Nat.le_refl _) (by simp) ?_; (case hd => rfl); (case hg => rfl); (case hr => first | (go_simp; done) | (go_simp; rfl)); (case hp => exact (Reps.one (show Kd.FK (Kd.slice 55 k55) _ _ l2 [.slice A2 l2.length c2] from (Kd.FK_slice_mk (Kd.V_reads' (Kd.V_mono (ok' := (fun k_ => (P2_ k_ ∨ w.heap.size ≤ k_) ∧ k_ ≠ gb595)) (HO2.out) (fun k_ hk => ⟨hk.1, hk.2⟩))).2.1 (Kd.V_F (Kd.V_mono (ok' := (fun k_ => (P2_ k_ ∨ w.heap.size ≤ k_) ∧ k_ ≠ gb595)) (HO2.out) (fun k_ hk => ⟨hk.1, hk.2⟩))))) (Reps.none _ _))); intro v597 w9 ho10 hb hg_ hnew_; clear hg_ hnew_; (first | rw [← Ny596.out] at ho10 | (simp only [Int.reduceToNat] at ho10; rw [← Ny596.out] at ho10)); replace HO2 := asd (Kd.V_elder' (by (with_reducible repeat (first | apply Kd.V_alloc | apply Kd.V_drewN | apply Kd.V_drew)); exact HO2.out) (Kd.N_base ho10) hb); have HO598 := asd (Kd.N_lower ho10 (bsz1 HB GE595)); replace BK595 := bB BK595 hb; replace HB := bS1 HB GE595 hb; clear hb ho10; obtain ⟨Ao11, co11, eo11⟩ := Kd.N_slice HO598.out; subst eo11) | ((with_reducible refine gate_callee (f := 32) rfl ?_); refine gl 13 Try.func32 #[.int .i64 a0, .agg #[.int .i64 a1_0, .int .i64 a1_1, .int .i64 a1_2], .slice Ao11 y596.length co11] ?_; (with_reducible refine (impl_groupCode.calls _ _ _ _ _ _ _ _ _ _ ?side1 ?side2 A4.out).mono ?_); (case side1 => exact ks (Kd.N_reads' HO598.out).2.2); (case side2 => exact (Kd.N_reads' HO598.out).2.1); rintro e w12 ⟨rfl, hb⟩; refine ⟨_, rfl, ?_⟩; replace HO2 := asd (Kd.V_below (by (with_reducible repeat (first | apply Kd.V_alloc | apply Kd.V_drewN | apply Kd.V_drew)); exact HO2.out) hb); replace HO598 := asd (Kd.N_below (by (with_reducible repeat (first | apply Kd.N_alloc | apply Kd.N_drewN | apply Kd.N_drew)); exact HO598.out) hb); replace BK595 := bB BK595 hb; replace HB := bS1 HB GE595 hb; (try clear hb)) | ((with_reducible refine gate_callee (f := 41) rfl ?_); refine gl 18 Try.func41 #[.slice A2 l2.length c2] ?_; (with_reducible refine (impl_shiftsOf.calls _ _ _ _ _ _ ?side1 ?side2 A6.out).mono ?_); (case side1 => exact ks (Kd.V_reads' HO2.out).2.2); (case side2 => exact (Kd.V_reads' HO2.out).2.1); rintro e w13 ⟨v601, rfl, ho0, hb⟩; refine ⟨_, rfl, ?_⟩; replace HO2 := asd (Kd.V_elder' (by (with_reducible repeat (first | apply Kd.V_alloc | apply Kd.V_drewN | apply Kd.V_drew)); exact HO2.out) (Kd.R_base ho0) hb); replace HO598 := asd (Kd.N_elder' (by (with_reducible repeat (first | apply Kd.N_alloc | apply Kd.N_drewN | apply Kd.N_drew)); exact HO598.out) (Kd.R_base ho0) hb); have HO602 := asd (Kd.R_lower (Kd.R_newM (M := fun k_ => (w.heap.size ≤ k_)) ho0 (bsz1 HB GE595) (fun k_ h_ => h_)) (bsz1 HB GE595)); replace BK595 := bB BK595 hb; replace HB := bS1 HB GE595 hb; (try clear hb); (try clear hb2); (try clear hk); (try clear hi); (try clear ho0)))
  go_ret2
  exact ⟨_, by first | rfl | (simp [errW_none, errW_some] <;> rfl) | (simp [*, errW_none, errW_some] <;> rfl), by (with_reducible repeat (first | apply Kd.R_alloc | apply Kd.R_drewN | apply Kd.R_drew)); exact Kd.R_mono HO602.out (fun _ hk => hk.1), bbw1 HB GE595⟩
 ·rw [if_neg c5] at H
  have c5b0 : (t599 == 0) = false := beq_eq_false_iff_ne.mpr c5
  have c5b1 : (t599 != 0) = true := bne_iff_ne.mpr c5
  simp only [Option.some.injEq, Prod.mk.injEq] at H
  obtain ⟨rfl, rfl⟩ := H
  go_enter Try.func17, Try.ntmps17
  go_wp2_with (first | ((with_reducible refine gd 4 rfl ?_); refine bx #[.int .i64 a1_0, .int .i64 a1_1, .int .i64 a1_2] 27 ?_; intro gb595 hg w14 BK595 hb; replace HO2 := asd (Kd.V_below (Kd.V_elderB (by (with_reducible repeat (first | apply Kd.V_alloc | apply Kd.V_drewN | apply Kd.V_drew)); exact HO2.out) gb595 (Nat.le_of_eq hg.symm)) hb); have GE595 := ngw0 hg HB; replace HB := bS0 HB hb; clear hb hg; obtain ⟨hcz15_0, hcz15_1, hcz15_2, hfz15_0, hfz15_1, hfz15_2⟩ := bz3 BK595) | ((with_reducible refine gd 12 rfl ?_); refine Kd.N_lit (Kd.slice 55 k55) _ 29 ?hg (N' := 12) ?hd (xs := ([l2] : List (List (S55)))) (inner := [.slice A2 l2.length c2]) (ok := (fun k_ => (P2_ k_ ∨ w.heap.size ≤ k_) ∧ k_ ≠ gb595)) (okp := (fun k_ => (P2_ k_ ∨ w.heap.size ≤ k_) ∧ k_ ≠ gb595)) ?hr ?hp (fun _ hk => hk) ((show ∀ k_, w14.heap.size ≤ k_ → (fun k_ => (P2_ k_ ∨ w.heap.size ≤ k_) ∧ k_ ≠ gb595) k_ from fun k_ hk => ⟨(.inr (Nat.le_trans (bsz1 HB GE595) hk)), Kd.freshB (g := gb595) (o := .cells #[.int .i64 a1_0, .int .i64 a1_1, .int .i64 a1_2] 27 (0, 0)) (bkp BK595) k_ hk⟩) _ (Nat.le_refl _)) (Below.refl _ _) (Nat.le_refl _) (by simp) ?_; (case hd => rfl); (case hg => rfl); (case hr => first | (go_simp; done) | (go_simp; rfl)); (case hp => exact (Reps.one (show Kd.FK (Kd.slice 55 k55) _ _ l2 [.slice A2 l2.length c2] from (Kd.FK_slice_mk (Kd.V_reads' (Kd.V_mono (ok' := (fun k_ => (P2_ k_ ∨ w.heap.size ≤ k_) ∧ k_ ≠ gb595)) (HO2.out) (fun k_ hk => ⟨hk.1, hk.2⟩))).2.1 (Kd.V_F (Kd.V_mono (ok' := (fun k_ => (P2_ k_ ∨ w.heap.size ≤ k_) ∧ k_ ≠ gb595)) (HO2.out) (fun k_ hk => ⟨hk.1, hk.2⟩))))) (Reps.none _ _))); intro v597 w16 ho17 hb hg_ hnew_; clear hg_ hnew_; (first | rw [← Ny596.out] at ho17 | (simp only [Int.reduceToNat] at ho17; rw [← Ny596.out] at ho17)); replace HO2 := asd (Kd.V_elder' (by (with_reducible repeat (first | apply Kd.V_alloc | apply Kd.V_drewN | apply Kd.V_drew)); exact HO2.out) (Kd.N_base ho17) hb); have HO598 := asd (Kd.N_lower ho17 (bsz1 HB GE595)); replace BK595 := bB BK595 hb; replace HB := bS1 HB GE595 hb; clear hb ho17; obtain ⟨Ao18, co18, eo18⟩ := Kd.N_slice HO598.out; subst eo18) | ((with_reducible refine gate_callee (f := 32) rfl ?_); refine gl 13 Try.func32 #[.int .i64 a0, .agg #[.int .i64 a1_0, .int .i64 a1_1, .int .i64 a1_2], .slice Ao18 y596.length co18] ?_; (with_reducible refine (impl_groupCode.calls _ _ _ _ _ _ _ _ _ _ ?side1 ?side2 A4.out).mono ?_); (case side1 => exact ks (Kd.N_reads' HO598.out).2.2); (case side2 => exact (Kd.N_reads' HO598.out).2.1); rintro e w19 ⟨rfl, hb⟩; refine ⟨_, rfl, ?_⟩; replace HO2 := asd (Kd.V_below (by (with_reducible repeat (first | apply Kd.V_alloc | apply Kd.V_drewN | apply Kd.V_drew)); exact HO2.out) hb); replace HO598 := asd (Kd.N_below (by (with_reducible repeat (first | apply Kd.N_alloc | apply Kd.N_drewN | apply Kd.N_drew)); exact HO598.out) hb); replace BK595 := bB BK595 hb; replace HB := bS1 HB GE595 hb; (try clear hb)))
  go_ret2
  exact ⟨_, by first | rfl | (simp [errW_none, errW_some] <;> rfl) | (simp [*, errW_none, errW_some] <;> rfl), by first | exact Kd.R_nil _ _ _ _ _ | exact Kd.N_nil _ _ _ _ _ | exact Kd.V_nil _ _ _ _ _ | exact Kd.Q_nil _ _ _ _ _ | exact Kd.S_nil _ _ _ _ _, bbw1 HB GE595⟩

/-! ### laws_eqVecS: function 18 -/
def laws_eqVecS.l0 : Nat → List (S53) → List (S53) → Int → Option (Bool)
 | 0, _, _, _ => none
 | k + 1, x0, x1, x5 => if x5 < (x0.length : Int) then (if 0 ≤ x5 then (if x5 < (x1.length : Int) then ((laws_eqVec.f ((rd_T53 x0 x5).f0) ((rd_T53 x0 x5).f1) ((rd_T53 x1 x5).f0) ((rd_T53 x1 x5).f1)).bind fun t605 => (if t605 = true then (laws_eqVecS.l0 k x0 x1 (wrap64 (x5 + 1))) else (some false))) else (none)) else (none)) else (some true)
def laws_eqVecS.f (k : Nat) (l0 : List (S53)) (l1 : List (S53)) : Option (Bool) := if (l0.length : Int) = (l1.length : Int) then (laws_eqVecS.l0 k l0 l1 0) else (some false)
def laws_eqVecS.T6 : Bool × List (List Nat × List Nat) := (true, [([], []), ([], []), ([0, 1], [0, 1]), ([2], [2]), ([], []), ([], []), ([4, 5], [4, 5]), ([6], [6]), ([3, 7], [3, 7]), ([8], [8])])
def laws_eqVecS.B6 : List Nat := [0, 0, 3, 7, 0, 0, 48, 112, 255, 511]
theorem laws_eqVecS.tab6 : rtab .any (opsOf Try.f18 6) = laws_eqVecS.T6 := by kernel_rfl
theorem laws_eqVecS.bits6 : waitsOk laws_eqVecS.T6.2 laws_eqVecS.B6 = true := by kernel_rfl
set_option maxHeartbeats 8000000 in
set_option maxRecDepth 100000 in
theorem laws_eqVecS.calls (k : Nat) (A0 : Option Addr) (c0 : Nat) (l0 : List (S53)) (A1 : Option Addr) (c1 : Nat) (l1 : List (S53)) (r : Bool) (w : World) (hr0 : Kd.C k53 w A0 l0.length l0) (hc0 : l0.length ≤ c0) (hr1 : Kd.C k53 w A1 l1.length l1) (hc1 : l1.length ≤ c1) (h : laws_eqVecS.f k l0 l1 = some r) :
  Calls Try.prog 18 #[.slice A0 l0.length c0, .slice A1 l1.length c1] w fun e w' => e = .returned (.bool r) ∧ Below w.heap.size w w' := by
 have hu53 := Try.underlying53
 have HR0 := Aside0.mk hr0
 have HC0 := Aside0.mk hc0
 clear hr0 hc0
 have HR1 := Aside0.mk hr1
 have HC1 := Aside0.mk hc1
 clear hr1 hc1
 have HB := asd (Below.refl w.heap.size w)
 have H : (if (l0.length : Int) = (l1.length : Int) then (laws_eqVecS.l0 k l0 l1 0) else (some false)) = some r := h
 clear h
 by_cases c3 : (l0.length : Int) = (l1.length : Int)
 ·rw [if_pos c3] at H
  have c3b0 : ((l0.length : Int) == (l1.length : Int)) = true := beq_iff_eq.mpr c3
  have c3b1 : ((l0.length : Int) != (l1.length : Int)) = false := bne_eq_false_iff_eq.mpr c3
  have c3b2 : (l0.length == l1.length) = true := by first | simpa using c3 | (simp at c3 ⊢; omega)
  clear c3
  have H' := Aside0.mk H
  clear H
  go_enter Try.func18, Try.ntmps18
  go_wp2
  go_loopg [5] k (fun kq v5 w' => ∃ (x5_1 : Int), v5 = .int .i64 x5_1 ∧ Aside0 (laws_eqVecS.l0 kq l0 l1 x5_1 = some r) ∧ Aside0 (kq ≤ k) ∧ Aside0 (Below w.heap.size w w'))
  case atStart => exact ⟨(0), (by first | rfl | (simp; done) | (simp [*]; done)), H', ⟨Nat.le_refl _⟩, ⟨bbw0 HB⟩⟩
  case round =>
   clear H'
   try clear c1
   try clear p2
   try clear c3
   try clear c3b0
   try clear c3b1
   try clear c3b2
   obtain ⟨x5_1, rfl, HA, HK1, HB⟩ := hrel
   cases gk with
   | zero => exact absurd HA.out (by simp [laws_eqVecS.l0])
   | succ k1 =>
    have H := HA.out
    clear HA
    simp only [laws_eqVecS.l0] at H
    by_cases c4 : x5_1 < (l0.length : Int)
    ·rw [if_pos c4] at H
     have c4b0 : decide (x5_1 < (l0.length : Int)) = true := decide_eq_true c4
     clear c4
     by_cases c5 : 0 ≤ x5_1
     ·rw [if_pos c5] at H
      have c5b0 : decide (0 ≤ x5_1) = true := decide_eq_true c5
      clear c5
      by_cases c6 : x5_1 < (l1.length : Int)
      ·rw [if_pos c6] at H
       have c6b0 : decide (x5_1 < (l1.length : Int)) = true := decide_eq_true c6
       clear c6
       obtain ⟨t605, A7, H⟩ := ob H
       replace H : (if t605 = true then (laws_eqVecS.l0 k1 l0 l1 (wrap64 (x5_1 + 1))) else (some false)) = some r := H
       by_cases c8 : t605 = true
       ·subst c8
        have H1 : (laws_eqVecS.l0 k1 l0 l1 (wrap64 (x5_1 + 1))) = some r := by rw [if_pos rfl] at H; first | done | exact H
        clear H
        have H := H1
        clear H1
        have H' := Aside0.mk H
        clear H
        try go_wp2
        replace HB := asd (below_drew1 HB.out)
        obtain ⟨p603, q603, ad603, e603, hw603_0, hw603_1, hx603_0, hx603_1⟩ := at_T53w HR0.out HB x5_1
        cases e603
        obtain ⟨p604, q604, ad604, e604, hw604_0, hw604_1, hx604_0, hx604_1⟩ := at_T53w HR1.out HB x5_1
        cases e604
        refine start_ (n := 10) (S := fun w' => w'.cell? (ad603.add ((x5_1).toNat * 2)) = some (.int .i64 ((rd_T53 l0 x5_1).f0)) ∧ w'.cell? ⟨(ad603.add ((x5_1).toNat * 2)).block, (ad603.add ((x5_1).toNat * 2)).off + 1, none⟩ = some (.int .i64 ((rd_T53 l0 x5_1).f1)) ∧ w'.cell? (ad604.add ((x5_1).toNat * 2)) = some (.int .i64 ((rd_T53 l1 x5_1).f0)) ∧ w'.cell? ⟨(ad604.add ((x5_1).toNat * 2)).block, (ad604.add ((x5_1).toNat * 2)).off + 1, none⟩ = some (.int .i64 ((rd_T53 l1 x5_1).f1))) (ds := []) (bt 10 0) (by kernel_rfl) rfl rfl ⟨(xb HB hw603_0), (xb HB hw603_1), (xb HB hw604_0), (xb HB hw604_1)⟩ (fun hHeld => ?_); refine with_tabW laws_eqVecS.tab6 laws_eqVecS.bits6 (fun HT_ HW_ => ?_)
        generalize wr.drew = w9 at HB hx603_0 hx603_1 hx604_0 hx604_1 hHeld ⊢
        refine pu 0 (some 17) (bt 10 1) HT_ ?_
        refine pu 1 (some 18) (bt 10 2) HT_ ?_
        refine pu 2 (some 19) (bt 10 3) HT_ ?_
        refine pu 4 (some 21) (bs 10 23) HT_ ?_
        refine pu 5 (some 22) (bs 10 55) HT_ ?_
        refine pu 6 (some 23) (bs 10 119) HT_ ?_
        refine ta 3 (some 20) (bt 10 7) HT_ HW_ hHeld ?_
        refine ta 7 (some 24) (bt 10 8) HT_ HW_ hHeld ?_
        refine ro 8 (some 25) (bt 10 9) HT_ (fun K hK => ?_)
        refine gs Try.func42 #[.agg #[.int .i64 ((rd_T53 l0 x5_1).f0), .int .i64 ((rd_T53 l0 x5_1).f1)], .agg #[.int .i64 ((rd_T53 l1 x5_1).f0), .int .i64 ((rd_T53 l1 x5_1).f1)]] ?_
        with_reducible refine (laws_eqVec.calls _ _ _ _ _ _ A7.out).mono ?_
        rintro e w10 ⟨rfl, hb⟩
        refine ⟨_, rfl, ?_⟩
        replace HB := bS0 HB hb
        (try clear hb)
        (try clear hb2)
        (try clear hk)
        (try clear hi)
        refine hK.out _ _ ⟨(xb HB hw603_0), (xb HB hw603_1), (xb HB hw604_0), (xb HB hw604_1)⟩ (fun hHeld => ?_)
        clear hK K
        refine norm_ (a' := ?_) ?_ ?_
        rotate_left
        ·show Act.put _ (some 25) _ = _
         simp only [Act.put, sA, sB, sC, i64_w, i32_w]
         rfl
        refine pu 9 (some 26) (bt 10 10) HT_ ?_
        refine done_ (done_of HT_.out (by kernel_rfl)) ?_
        try go_wp2
        go_roundg k1
        case measure => have := HK1.out; omega
        case rel => exact ⟨(wrap64 (x5_1 + 1)), (by first | rfl | (simp; done) | (simp [*]; done)), H', ⟨by have := HK1.out; omega⟩, ⟨bbw0 HB⟩⟩
       ·replace c8 := Bool.eq_false_iff.mpr c8
        subst c8
        have H1 : (some false) = some r := by rw [if_neg (show ¬ (false = true) by decide)] at H; first | done | exact H
        clear H
        have H := H1
        clear H1
        obtain rfl := Option.some.inj H
        try go_wp2
        replace HB := asd (below_drew1 HB.out)
        obtain ⟨p603, q603, ad603, e603, hw603_0, hw603_1, hx603_0, hx603_1⟩ := at_T53w HR0.out HB x5_1
        cases e603
        obtain ⟨p604, q604, ad604, e604, hw604_0, hw604_1, hx604_0, hx604_1⟩ := at_T53w HR1.out HB x5_1
        cases e604
        refine start_ (n := 10) (S := fun w' => w'.cell? (ad603.add ((x5_1).toNat * 2)) = some (.int .i64 ((rd_T53 l0 x5_1).f0)) ∧ w'.cell? ⟨(ad603.add ((x5_1).toNat * 2)).block, (ad603.add ((x5_1).toNat * 2)).off + 1, none⟩ = some (.int .i64 ((rd_T53 l0 x5_1).f1)) ∧ w'.cell? (ad604.add ((x5_1).toNat * 2)) = some (.int .i64 ((rd_T53 l1 x5_1).f0)) ∧ w'.cell? ⟨(ad604.add ((x5_1).toNat * 2)).block, (ad604.add ((x5_1).toNat * 2)).off + 1, none⟩ = some (.int .i64 ((rd_T53 l1 x5_1).f1))) (ds := []) (bt 10 0) (by kernel_rfl) rfl rfl ⟨(xb HB hw603_0), (xb HB hw603_1), (xb HB hw604_0), (xb HB hw604_1)⟩ (fun hHeld => ?_); refine with_tabW laws_eqVecS.tab6 laws_eqVecS.bits6 (fun HT_ HW_ => ?_)
        generalize wr.drew = w11 at HB hx603_0 hx603_1 hx604_0 hx604_1 hHeld ⊢
        refine pu 0 (some 17) (bt 10 1) HT_ ?_
        refine pu 1 (some 18) (bt 10 2) HT_ ?_
        refine pu 2 (some 19) (bt 10 3) HT_ ?_
        refine pu 4 (some 21) (bs 10 23) HT_ ?_
        refine pu 5 (some 22) (bs 10 55) HT_ ?_
        refine pu 6 (some 23) (bs 10 119) HT_ ?_
        refine ta 3 (some 20) (bt 10 7) HT_ HW_ hHeld ?_
        refine ta 7 (some 24) (bt 10 8) HT_ HW_ hHeld ?_
        refine ro 8 (some 25) (bt 10 9) HT_ (fun K hK => ?_)
        refine gs Try.func42 #[.agg #[.int .i64 ((rd_T53 l0 x5_1).f0), .int .i64 ((rd_T53 l0 x5_1).f1)], .agg #[.int .i64 ((rd_T53 l1 x5_1).f0), .int .i64 ((rd_T53 l1 x5_1).f1)]] ?_
        with_reducible refine (laws_eqVec.calls _ _ _ _ _ _ A7.out).mono ?_
        rintro e w12 ⟨rfl, hb⟩
        refine ⟨_, rfl, ?_⟩
        replace HB := bS0 HB hb
        (try clear hb)
        (try clear hb2)
        (try clear hk)
        (try clear hi)
        refine hK.out _ _ ⟨(xb HB hw603_0), (xb HB hw603_1), (xb HB hw604_0), (xb HB hw604_1)⟩ (fun hHeld => ?_)
        clear hK K
        refine norm_ (a' := ?_) ?_ ?_
        rotate_left
        ·show Act.put _ (some 25) _ = _
         simp only [Act.put, sA, sB, sC, i64_w, i32_w]
         rfl
        refine pu 9 (some 26) (bt 10 10) HT_ ?_
        refine done_ (done_of HT_.out (by kernel_rfl)) ?_
        try go_wp2
        go_ret
        exact er (bbw0 HB)
      ·rw [if_neg c6] at H
       exact absurd H (by simp)
     ·rw [if_neg c5] at H
      exact absurd H (by simp)
    ·rw [if_neg c4] at H
     have c4b0 : decide (x5_1 < (l0.length : Int)) = false := decide_eq_false c4
     clear c4
     obtain rfl := Option.some.inj H
     go_wp2
     go_ret
     exact er (bbw0 HB)
 ·rw [if_neg c3] at H
  have c3b0 : ((l0.length : Int) == (l1.length : Int)) = false := beq_eq_false_iff_ne.mpr c3
  have c3b1 : ((l0.length : Int) != (l1.length : Int)) = true := bne_iff_ne.mpr c3
  have c3b2 : (l0.length == l1.length) = false := by first | simpa using c3 | (simp at c3 ⊢; omega)
  obtain rfl := Option.some.inj H
  go_enter Try.func18, Try.ntmps18
  go_wp2
  go_ret
  exact er (bbw0 HB)

/-! ### laws_markVecS: function 20 -/
def laws_markVecS.l0 : Nat → List (S53) → Int → Int → Option (Int × (List (S53)))
 | 0, _, _, _ => none
 | k + 1, x0, x1, x5 => if x5 < (x0.length : Int) then (if 0 ≤ x5 then ((some (x0.set (x5 : Int).toNat (⟨x1, (rd_T53 x0 x5).f1⟩ : S53) : List (S53))).bind fun y606 => (laws_markVecS.l0 k (y606.set (x5 : Int).toNat (⟨(rd_T53 y606 x5).f0, wrap64 (x1 + 1)⟩ : S53)) (wrap64 ((wrap64 (x1 + 1)) + 1)) (wrap64 (x5 + 1)))) else (none)) else (some (x1, x0))
def laws_markVecS.f (k : Nat) (l0 : List (S53)) (a1 : Int) : Option (Int × (List (S53))) := laws_markVecS.l0 k l0 a1 0
set_option maxHeartbeats 8000000 in
set_option maxRecDepth 100000 in
theorem laws_markVecS.calls (k : Nat) (P0_ : Nat → Prop) (u9000_ : Value) (l0 : List (S53)) (a1 : Int) (r1 : Int) (r2 : List (S53)) (w0 w : World) (hB : Below w0.heap.size w0 w) (ho0 : Kd.R k53 53 w w0.heap.size P0_ u9000_ l0) (h : laws_markVecS.f k l0 a1 = some (r1, r2)) :
  Calls Try.prog 20 #[u9000_, .int .i64 a1] w fun e w' => e = .returned (.int .i64 r1) ∧ Kd.R k53 53 w' w0.heap.size (fun k_ => (P0_ k_ ∨ w.heap.size ≤ k_)) u9000_ r2 ∧ Below w0.heap.size w0 w' ∧ Kept w w' (fun k_ => P0_ k_) := by
 have HO0 := asd (show Kd.R k53 53 w w0.heap.size (fun k_ => (P0_ k_ ∨ w.heap.size ≤ k_)) u9000_ l0 from Kd.R_mono ho0 (fun k_ hk => (.inl hk)))
 have HK := asd (Kept.refl w (fun k_ => P0_ k_))
 have HW0 := Aside0.mk hB.size
 have HB := Aside0.mk hB
 clear hB
 have H : (laws_markVecS.l0 k l0 a1 0) = some (r1, r2) := h
 clear h
 have H' := Aside0.mk H
 clear H
 go_enter Try.func20, Try.ntmps20
 go_wp2
 go_loopg [1, 5] k (fun kq v1 v5 w' => ∃ (x0_1 : List (S53)) (x1_1 : Int) (x5_1 : Int), v1 = .int .i64 x1_1 ∧ v5 = .int .i64 x5_1 ∧ Aside0 (laws_markVecS.l0 kq x0_1 x1_1 x5_1 = some (r1, r2)) ∧ Aside0 (kq ≤ k) ∧ Aside0 (Kd.R k53 53 w' w0.heap.size (fun k_ => (P0_ k_ ∨ w.heap.size ≤ k_)) u9000_ x0_1) ∧ Aside0 (Kept w w' (fun k_ => P0_ k_)) ∧ Aside0 (Below w0.heap.size w0 w'))
 case atStart => exact ⟨(l0), (a1), (0), (by first | rfl | (simp; done) | (simp [*]; done)), (by first | rfl | (simp; done) | (simp [*]; done)), H', ⟨Nat.le_refl _⟩, ⟨by (with_reducible repeat (first | apply Kd.R_alloc | apply Kd.R_drewN | apply Kd.R_drew)); exact HO0.out⟩, ⟨by repeat (first | (with_reducible first | exact HK.out | apply Kept.alloc | apply Kept.drewN | apply Kept.drew) | exact HK.out)⟩, ⟨bbw0 HB⟩⟩
 case round =>
  clear H'
  try clear c2
  try clear p2
  obtain ⟨x0_1, x1_1, x5_1, rfl, rfl, HA, HK1, HO_0, HK, HB⟩ := hrel
  cases gk with
  | zero => exact absurd HA.out (by simp [laws_markVecS.l0])
  | succ k1 =>
   have H := HA.out
   clear HA
   simp only [laws_markVecS.l0] at H
   by_cases c3 : x5_1 < (x0_1.length : Int)
   ·rw [if_pos c3] at H
    have c3b0 : decide (x5_1 < (x0_1.length : Int)) = true := decide_eq_true c3
    clear c3
    by_cases c4 : 0 ≤ x5_1
    ·rw [if_pos c4] at H
     have c4b0 : decide (0 ≤ x5_1) = true := decide_eq_true c4
     clear c4
     obtain ⟨y606, hy606⟩ : ∃ y_ : List (S53), y_ = (x0_1.set (x5_1 : Int).toNat (⟨x1_1, (rd_T53 x0_1 x5_1).f1⟩ : S53)) := ⟨_, rfl⟩
     replace H : (laws_markVecS.l0 k1 (y606.set (x5_1 : Int).toNat (⟨(rd_T53 y606 x5_1).f0, wrap64 (x1_1 + 1)⟩ : S53)) (wrap64 ((wrap64 (x1_1 + 1)) + 1)) (wrap64 (x5_1 + 1))) = some (r1, r2) := by first | (rw [hy606]; with_reducible exact H) | (have H2_ := (Option.bind_some _ _).symm.trans H; rw [hy606]; with_reducible exact H2_) | (have H2_ := (Option.bind_some _ _).symm.trans H; with_reducible exact H2_) | with_reducible exact H | (rw [hy606]; exact H) | exact H
     have Ny606 := Aside0.mk hy606
     clear hy606
     obtain ⟨y607, hy607⟩ : ∃ y_ : List (S53), y_ = (y606.set (x5_1 : Int).toNat (⟨(rd_T53 y606 x5_1).f0, wrap64 (x1_1 + 1)⟩ : S53)) := ⟨_, rfl⟩
     replace H : (laws_markVecS.l0 k1 y607 (wrap64 ((wrap64 (x1_1 + 1)) + 1)) (wrap64 (x5_1 + 1))) = some (r1, r2) := by first | (rw [hy607]; with_reducible exact H) | (have H2_ := (Option.bind_some _ _).symm.trans H; rw [hy607]; with_reducible exact H2_) | (have H2_ := (Option.bind_some _ _).symm.trans H; with_reducible exact H2_) | with_reducible exact H | (rw [hy607]; exact H) | exact H
     have Ny607 := Aside0.mk hy607
     clear hy607
     have H' := Aside0.mk H
     clear H
     obtain ⟨Ao7, co7, eo7⟩ := Kd.R_slice HO_0.out
     subst eo7
     have p5 : 0 ≤ (x5_1 : Int) := od
     have q5 : (x5_1 : Int) < ((x0_1.length : Int) : Int) := od
     obtain ⟨go5, co5, eo5, gb5, gl5, cl5, HG5⟩ := Kd.R_form HO_0.out (by omega)
     (first | cases eo5 | (injection eo5 with ea_ en_ ec_; (first | subst ea_ | (injection ea_ with ea_; subst ea_)); subst ec_; clear en_))
     have GB5 := Aside0.mk gb5
     have GG5 := Aside0.mk HG5
     clear gb5 gl5 HG5
     have HMgo5 := asd (show (P0_ go5 ∨ w.heap.size ≤ go5) from (HO_0.out.1 _ rfl))
     obtain ⟨ce5, hcl5, hM5, hcc5, hfr5⟩ := Kd.R_elem HO_0.out z53 (x5_1 : Int) p5 q5
     obtain rfl := k53_openM hM5
     have hx5_0 : wr.cell? ⟨go5, (x5_1 : Int).toNat * 2, none⟩ = some (.int .i64 ((rd_T53 x0_1 x5_1).f0)) := hcc5 0 _ rfl
     have hx5_1 : wr.cell? ⟨go5, (x5_1 : Int).toNat * 2 + 1, none⟩ = some (.int .i64 ((rd_T53 x0_1 x5_1).f1)) := hcc5 1 _ rfl
     have hf5_0 : wr.frozen? ⟨go5, (x5_1 : Int).toNat * 2, none⟩ = false := hfr5 0
     have hf5_1 : wr.frozen? ⟨go5, (x5_1 : Int).toNat * 2 + 1, none⟩ = false := hfr5 1
     clear hcl5 hcc5 hfr5 hM5
     replace p5 := eq_true p5
     replace q5 := eq_true q5
     have HX8 := asd (show Kd.R k53 53 wr w0.heap.size (fun k_ => (P0_ k_ ∨ w.heap.size ≤ k_)) (.slice (some ⟨go5, 0, none⟩) x0_1.length co7) x0_1 from (kr HO_0))
     obtain ⟨ce8, hcl8, hM8, hcc8, hfr8⟩ := Kd.R_elem HX8.out z53 (x5_1 : Int) (od) (by have h_ : (x5_1 : Int) < ((x0_1.length : Int) : Int) := od; first | exact h_ | (have e_ := (Kd.R_reads' HO_0.out).1; omega) | simpa using h_)
     obtain rfl := k53_openM hM8
     have HP8 := Kd.R_seg HX8.out (x5_1 : Int) (od) (by have h_ : (x5_1 : Int) < ((x0_1.length : Int) : Int) := od; first | exact h_ | (have e_ := (Kd.R_reads' HO_0.out).1; omega) | simpa using h_) (seg := [.int .i64 x1_1]) (j := 0) hcl8 hcc8 (show 1 ≤ 2 from by decide) (x' := (⟨x1_1, (rd_T53 x0_1 x5_1).f1⟩ : S53)) (k53_mkM _ _ _ (⟨x1_1, (rd_T53 x0_1 x5_1).f1⟩ : S53) ) (fun _ hk => hk)
     have hx8_0 := hcc8 0 _ rfl
     (try simp only [show (k53).sz = 2 from rfl, Nat.mul_one, Nat.add_zero] at hx8_0)
     have hf8_0 := hfr8 0
     (try simp only [show (k53).sz = 2 from rfl, Nat.mul_one, Nat.add_zero] at hf8_0)
     clear hcl8 hcc8 hfr8 hM8
     go_wp2_with (first | ((with_reducible refine gate_store (t := 2) (p := 16) rfl ?_); refine store_event (t := 2) (p := 16) (v := ?vo_w9) (w1 := (wr.setCell ⟨go5, (x5_1 : Int).toNat * 2, none⟩ (.int .i64 x1_1))) ?hg ?ho ?hn ?hr ?_; (case ho => rfl); (case hg => rfl); (case hn => rfl); (case hr => first | (go_simp; done) | (go_simp; rfl)); intro w9 hw; have hg : wr.grownBy w9 (some go5) := (by rw [hw]; exact HP8.2); have hp_ : Kd.R k53 53 w9 w0.heap.size (fun k_ => (P0_ k_ ∨ w.heap.size ≤ k_)) (.slice (some ⟨go5, 0, none⟩) x0_1.length co7) y606 := (by rw [hw, Ny606.out]; exact HP8.1); clear HP8; replace HB := asd ((by rw [hw]; exact below_set (HB.out) GB5.out : Below w0.heap.size w0 w9)); replace HK := asd (Kept.of_grown (S := (fun k_ => P0_ k_)) hg (by repeat (first | (with_reducible first | exact HK.out | apply Kept.alloc | apply Kept.drewN | apply Kept.drew) | exact HK.out)) (fun k_ e_ => (HO_0.out.1 k_ e_))); replace HO_0 := asd (hp_); clear hg hw hp_; have p6 : 0 ≤ (x5_1 : Int) := od; have q6 : (x5_1 : Int) < ((x0_1.length : Int) : Int) := od; obtain ⟨ce6, hcl6, hM6, hcc6, hfr6⟩ := Kd.R_elem HO_0.out z53 (x5_1 : Int) p6 q6; obtain rfl := k53_openM hM6; have hx6_0 : w9.cell? ⟨go5, (x5_1 : Int).toNat * 2, none⟩ = some (.int .i64 ((rd_T53 y606 x5_1).f0)) := hcc6 0 _ rfl; have hx6_1 : w9.cell? ⟨go5, (x5_1 : Int).toNat * 2 + 1, none⟩ = some (.int .i64 ((rd_T53 y606 x5_1).f1)) := hcc6 1 _ rfl; have hf6_0 : w9.frozen? ⟨go5, (x5_1 : Int).toNat * 2, none⟩ = false := hfr6 0; have hf6_1 : w9.frozen? ⟨go5, (x5_1 : Int).toNat * 2 + 1, none⟩ = false := hfr6 1; clear hcl6 hcc6 hfr6 hM6; replace p6 := eq_true p6; replace q6 := eq_true q6; have HX10 := asd (show Kd.R k53 53 w9 w0.heap.size (fun k_ => (P0_ k_ ∨ w.heap.size ≤ k_)) (.slice (some ⟨go5, 0, none⟩) x0_1.length co7) y606 from (kr HO_0)); obtain ⟨ce10, hcl10, hM10, hcc10, hfr10⟩ := Kd.R_elem HX10.out z53 (x5_1 : Int) (od) (by have h_ : (x5_1 : Int) < ((x0_1.length : Int) : Int) := od; first | exact h_ | (have e_ := (Kd.R_reads' HO_0.out).1; omega) | simpa using h_); obtain rfl := k53_openM hM10; have HP10 := Kd.R_seg HX10.out (x5_1 : Int) (od) (by have h_ : (x5_1 : Int) < ((x0_1.length : Int) : Int) := od; first | exact h_ | (have e_ := (Kd.R_reads' HO_0.out).1; omega) | simpa using h_) (seg := [.int .i64 (wrap64 (x1_1 + 1))]) (j := 1) hcl10 hcc10 (show 2 ≤ 2 from by decide) (x' := (⟨(rd_T53 y606 x5_1).f0, wrap64 (x1_1 + 1)⟩ : S53)) (k53_mkM _ _ _ (⟨(rd_T53 y606 x5_1).f0, wrap64 (x1_1 + 1)⟩ : S53) ) (fun _ hk => hk); have hx10_1 := hcc10 1 _ rfl; (try simp only [show (k53).sz = 2 from rfl, Nat.mul_one, Nat.add_zero] at hx10_1); have hf10_1 := hfr10 1; (try simp only [show (k53).sz = 2 from rfl, Nat.mul_one, Nat.add_zero] at hf10_1); clear hcl10 hcc10 hfr10 hM10) | ((with_reducible refine gate_store (t := 2) (p := 23) rfl ?_); refine store_event (t := 2) (p := 23) (v := ?vo_w11) (w1 := (w9.setCell ⟨go5, (x5_1 : Int).toNat * 2 + 1, none⟩ (.int .i64 (wrap64 (x1_1 + 1))))) ?hg ?ho ?hn ?hr ?_; (case ho => rfl); (case hg => rfl); (case hn => rfl); (case hr => first | (go_simp; done) | (go_simp; rfl)); intro w11 hw; have hg : w9.grownBy w11 (some go5) := (by rw [hw]; exact HP10.2); have hp_ : Kd.R k53 53 w11 w0.heap.size (fun k_ => (P0_ k_ ∨ w.heap.size ≤ k_)) (.slice (some ⟨go5, 0, none⟩) x0_1.length co7) y607 := (by rw [hw, Ny607.out]; exact HP10.1); clear HP10; replace HB := asd ((by rw [hw]; exact below_set (HB.out) GB5.out : Below w0.heap.size w0 w11)); replace HK := asd (Kept.of_grown (S := (fun k_ => P0_ k_)) hg (by repeat (first | (with_reducible first | exact HK.out | apply Kept.alloc | apply Kept.drewN | apply Kept.drew) | exact HK.out)) (fun k_ e_ => (HO_0.out.1 k_ e_))); replace HO_0 := asd (hp_); clear hg hw hp_))
     go_roundg k1
     case measure => have := HK1.out; omega
     case rel => exact ⟨(y607), (wrap64 ((wrap64 (x1_1 + 1)) + 1)), (wrap64 (x5_1 + 1)), (by first | rfl | (simp; done) | (simp [*]; done)), (by first | rfl | (simp; done) | (simp [*]; done)), H', ⟨by have := HK1.out; omega⟩, ⟨by (with_reducible repeat (first | apply Kd.R_alloc | apply Kd.R_drewN | apply Kd.R_drew)); exact HO_0.out⟩, ⟨by repeat (first | (with_reducible first | exact HK.out | apply Kept.alloc | apply Kept.drewN | apply Kept.drew) | exact HK.out)⟩, ⟨bbw0 HB⟩⟩
    ·rw [if_neg c4] at H
     exact absurd H (by simp)
   ·rw [if_neg c3] at H
    have c3b0 : decide (x5_1 < (x0_1.length : Int)) = false := decide_eq_false c3
    clear c3
    simp only [Option.some.injEq, Prod.mk.injEq] at H
    obtain ⟨rfl, rfl⟩ := H
    obtain ⟨Ao12, co12, eo12⟩ := Kd.R_slice HO_0.out
    subst eo12
    go_wp2
    go_ret
    exact ⟨by first | rfl | (simp [errW_none, errW_some] <;> rfl) | (simp [*, errW_none, errW_some] <;> rfl), by (with_reducible repeat (first | apply Kd.R_alloc | apply Kd.R_drewN | apply Kd.R_drew)); exact HO_0.out, by repeat (first | (with_reducible first | exact HB.out | apply below_alloc | apply pw_below_drewN | apply below_drew1) | exact HB.out), by repeat (first | (with_reducible first | exact HK.out | apply Kept.alloc | apply Kept.drewN | apply Kept.drew) | exact HK.out)⟩

/-! ### laws_heldVecS: function 21 -/
def laws_heldVecS.l0 : Nat → List (S53) → Int → Int → Option (Int)
 | 0, _, _, _ => none
 | k + 1, x0, x1, x5 => if x5 < (x0.length : Int) then (if 0 ≤ x5 then (if ((rd_T53 x0 x5).f0) = x1 then (if ((rd_T53 x0 x5).f1) = (wrap64 (x1 + 1)) then (laws_heldVecS.l0 k x0 (wrap64 ((wrap64 (x1 + 1)) + 1)) (wrap64 (x5 + 1))) else (some (-1))) else (some (-1))) else (none)) else (some x1)
def laws_heldVecS.f (k : Nat) (l0 : List (S53)) (a1 : Int) : Option (Int) := laws_heldVecS.l0 k l0 a1 0
set_option maxHeartbeats 8000000 in
set_option maxRecDepth 100000 in
theorem laws_heldVecS.calls (k : Nat) (A0 : Option Addr) (c0 : Nat) (l0 : List (S53)) (a1 : Int) (r : Int) (w : World) (hr0 : Kd.C k53 w A0 l0.length l0) (hc0 : l0.length ≤ c0) (h : laws_heldVecS.f k l0 a1 = some r) :
  Calls Try.prog 21 #[.slice A0 l0.length c0, .int .i64 a1] w fun e w' => e = .returned (.int .i64 r) ∧ Drawn0 w w' := by
 have HR0 := Aside0.mk hr0
 have HC0 := Aside0.mk hc0
 clear hr0 hc0
 have H : (laws_heldVecS.l0 k l0 a1 0) = some r := h
 clear h
 have H' := Aside0.mk H
 clear H
 go_enter Try.func21, Try.ntmps21
 go_wp2
 go_loopg [1, 5] k (fun kq v1 v5 w' => ∃ (x1_1 : Int) (x5_1 : Int), v1 = .int .i64 x1_1 ∧ v5 = .int .i64 x5_1 ∧ Aside0 (laws_heldVecS.l0 kq l0 x1_1 x5_1 = some r) ∧ Aside0 (kq ≤ k) ∧ Drawn0 w w')
 case atStart => exact ⟨(a1), (0), (by first | rfl | (simp; done) | (simp [*]; done)), (by first | rfl | (simp; done) | (simp [*]; done)), H', ⟨Nat.le_refl _⟩, by repeat (first | exact Drawn0.refl _ | apply Drawn0.step)⟩
 case round =>
  clear H'
  try clear c2
  try clear p2
  obtain ⟨x1_1, x5_1, rfl, rfl, HA, HK1, ⟨m1, rfl⟩⟩ := hrel
  cases gk with
  | zero => exact absurd HA.out (by simp [laws_heldVecS.l0])
  | succ k1 =>
   have H := HA.out
   clear HA
   simp only [laws_heldVecS.l0] at H
   by_cases c3 : x5_1 < (l0.length : Int)
   ·rw [if_pos c3] at H
    have c3b0 : decide (x5_1 < (l0.length : Int)) = true := decide_eq_true c3
    clear c3
    by_cases c4 : 0 ≤ x5_1
    ·rw [if_pos c4] at H
     have c4b0 : decide (0 ≤ x5_1) = true := decide_eq_true c4
     clear c4
     by_cases c5 : ((rd_T53 l0 x5_1).f0) = x1_1
     ·rw [if_pos c5] at H
      have c5b0 : (((rd_T53 l0 x5_1).f0) == x1_1) = true := beq_iff_eq.mpr c5
      have c5b1 : (((rd_T53 l0 x5_1).f0) != x1_1) = false := bne_eq_false_iff_eq.mpr c5
      clear c5
      by_cases c6 : ((rd_T53 l0 x5_1).f1) = (wrap64 (x1_1 + 1))
      ·rw [if_pos c6] at H
       have c6b0 : (((rd_T53 l0 x5_1).f1) == (wrap64 (x1_1 + 1))) = true := beq_iff_eq.mpr c6
       have c6b1 : (((rd_T53 l0 x5_1).f1) != (wrap64 (x1_1 + 1))) = false := bne_eq_false_iff_eq.mpr c6
       clear c6
       have H' := Aside0.mk H
       clear H
       have p608 : 0 ≤ (x5_1 : Int) := od
       have q608 : x5_1 < (l0.length : Int) := od
       obtain ⟨ad608, e608, hx608_0, hx608_1⟩ := at_T53 HR0.out x5_1 p608 q608
       cases e608
       replace p608 := eq_true p608
       replace q608 := eq_true q608
       have p609 : 0 ≤ (x5_1 : Int) := od
       have q609 : x5_1 < (l0.length : Int) := od
       obtain ⟨ad609, e609, hx609_0, hx609_1⟩ := at_T53 HR0.out x5_1 p609 q609
       obtain rfl : ad608 = ad609 := (by injection e609)
       replace p609 := eq_true p609
       replace q609 := eq_true q609
       go_wp2
       go_roundg k1
       case measure => have := HK1.out; omega
       case rel => exact ⟨(wrap64 ((wrap64 (x1_1 + 1)) + 1)), (wrap64 (x5_1 + 1)), (by first | rfl | (simp; done) | (simp [*]; done)), (by first | rfl | (simp; done) | (simp [*]; done)), H', ⟨by have := HK1.out; omega⟩, by repeat (first | exact Drawn0.refl _ | apply Drawn0.step)⟩
      ·rw [if_neg c6] at H
       have c6b0 : (((rd_T53 l0 x5_1).f1) == (wrap64 (x1_1 + 1))) = false := beq_eq_false_iff_ne.mpr c6
       have c6b1 : (((rd_T53 l0 x5_1).f1) != (wrap64 (x1_1 + 1))) = true := bne_iff_ne.mpr c6
       obtain rfl := Option.some.inj H
       have p608 : 0 ≤ (x5_1 : Int) := od
       have q608 : x5_1 < (l0.length : Int) := od
       obtain ⟨ad608, e608, hx608_0, hx608_1⟩ := at_T53 HR0.out x5_1 p608 q608
       cases e608
       replace p608 := eq_true p608
       replace q608 := eq_true q608
       have p609 : 0 ≤ (x5_1 : Int) := od
       have q609 : x5_1 < (l0.length : Int) := od
       obtain ⟨ad609, e609, hx609_0, hx609_1⟩ := at_T53 HR0.out x5_1 p609 q609
       obtain rfl : ad608 = ad609 := (by injection e609)
       replace p609 := eq_true p609
       replace q609 := eq_true q609
       go_wp2
       go_ret
       exact ⟨by first | rfl | (simp; done) | (simp [*]; done), by repeat (first | exact Drawn0.refl _ | apply Drawn0.step)⟩
     ·rw [if_neg c5] at H
      have c5b0 : (((rd_T53 l0 x5_1).f0) == x1_1) = false := beq_eq_false_iff_ne.mpr c5
      have c5b1 : (((rd_T53 l0 x5_1).f0) != x1_1) = true := bne_iff_ne.mpr c5
      obtain rfl := Option.some.inj H
      have p608 : 0 ≤ (x5_1 : Int) := od
      have q608 : x5_1 < (l0.length : Int) := od
      obtain ⟨ad608, e608, hx608_0, hx608_1⟩ := at_T53 HR0.out x5_1 p608 q608
      cases e608
      replace p608 := eq_true p608
      replace q608 := eq_true q608
      go_wp2
      go_ret
      exact ⟨by first | rfl | (simp; done) | (simp [*]; done), by repeat (first | exact Drawn0.refl _ | apply Drawn0.step)⟩
    ·rw [if_neg c4] at H
     exact absurd H (by simp)
   ·rw [if_neg c3] at H
    have c3b0 : decide (x5_1 < (l0.length : Int)) = false := decide_eq_false c3
    clear c3
    obtain rfl := Option.some.inj H
    go_wp2
    go_ret
    exact ⟨by first | rfl | (simp; done) | (simp [*]; done), by repeat (first | exact Drawn0.refl _ | apply Drawn0.step)⟩
end Go.Proofs.Ytcchmdodifkloaa.PA
