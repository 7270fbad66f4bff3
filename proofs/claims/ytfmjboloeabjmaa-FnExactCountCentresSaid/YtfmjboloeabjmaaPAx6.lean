/- Walks written by program: each Go function that the law reaches comes to the plain function beside it. -/
import Derived.Test.YtfmjboloeabjmaaPAx0
import Derived.Test.YtfmjboloeabjmaaPAx1
import Derived.Test.YtfmjboloeabjmaaPAx2
import Derived.Test.YtfmjboloeabjmaaPAx5
namespace Go.Proofs.Ytfmjboloeabjmaa.PA
open Go.RowKit Go.Proofs.YtfmjboloeabjmaaW.PrintWords Go.Proofs.YtfmjboloeabjmaaW.PrintLast Go.Proofs.YtfmjboloeabjmaaW.PrintMore
attribute [local go_sem] max2_int min2_int max_two min_two max_three min_three max_four min_four   -- for this text's walks alone
set_option linter.unusedVariables false
set_option linter.unusedSimpArgs false

/-! ### spec_l01Divisor: function 70 -/
def spec_l01Divisor.f : Nat → Int → Int → Option (Int)
 | 0, _, _ => none
 | k + 1, a0, a1 => if a1 = 0 then (some (mx a0 (wrap64 (-a0)))) else ((spec_l01Divisor.f k a1 (Int.tmod a0 a1)).bind fun t146 => (some t146))
set_option maxHeartbeats 8000000 in
set_option maxRecDepth 100000 in
theorem spec_l01Divisor.calls (k : Nat) : ∀ (a0 : Int) (a1 : Int) (r : Int) (w : World) (h : spec_l01Divisor.f k a0 a1 = some r),
  Calls Try.prog 70 #[.int .i64 a0, .int .i64 a1] w fun e w' => e = .returned (.int .i64 r) ∧ Below w.heap.size w w' := by
 induction k using Nat.strongRecOn with
 | _ k ih =>
 intro a0 a1 r w h
 cases k with
 | zero => exact absurd h (by simp [spec_l01Divisor.f])
 | succ k =>
 simp only [spec_l01Divisor.f] at h
 have HB := asd (Below.refl w.heap.size w)
 have H : (if a1 = 0 then (some (mx a0 (wrap64 (-a0)))) else ((spec_l01Divisor.f k a1 (Int.tmod a0 a1)).bind fun t146 => (some t146))) = some r := h
 clear h
 by_cases c3 : a1 = 0
 ·rw [if_pos c3] at H
  have c3b0 : (a1 == 0) = true := beq_iff_eq.mpr c3
  have c3b1 : (a1 != 0) = false := bne_eq_false_iff_eq.mpr c3
  clear c3
  obtain ⟨ji4, hji4⟩ : ∃ j_ : Int, (mx a0 (wrap64 (-a0))) = j_ := ⟨_, rfl⟩
  replace H : (some ji4) = some r := by first | (rw [hji4] at H; first | done | exact H) | (simp only [hji4] at H ⊢; exact H)
  have hji4_ : (if a0 < (wrap64 (-a0)) then (wrap64 (-a0)) else a0) = ji4 := hji4
  obtain rfl := Option.some.inj H
  go_enter Try.func70, Try.ntmps70
  go_wp2
  go_ret
  exact ⟨by first | rfl | (simp [errW_none, errW_some] <;> rfl) | (simp only [← hji4]; first | rfl | (simp [errW_none, errW_some] <;> rfl)) | (simp [*, errW_none, errW_some] <;> rfl), bbw0 HB⟩
 ·rw [if_neg c3] at H
  have c3b0 : (a1 == 0) = false := beq_eq_false_iff_ne.mpr c3
  have c3b1 : (a1 != 0) = true := bne_iff_ne.mpr c3
  obtain ⟨t146, A5, H⟩ := ob H
  try dsimp only at H
  obtain rfl := Option.some.inj H
  go_enter Try.func70, Try.ntmps70
  go_wp2_with (first | ((with_reducible refine gate_callee (f := 70) rfl ?_); refine gl 15 Try.func70 #[.int .i64 a1, .int .i64 (Int.tmod a0 a1)] ?_; (with_reducible refine (ih k (by omega) a1 (Int.tmod a0 a1) t146 _ A5.out).mono ?_); rintro e w6 ⟨rfl, hb⟩; refine ⟨_, rfl, ?_⟩; replace HB := bS0 HB hb; (try clear hb)))
  go_ret
  exact er (bbw0 HB)
/-! ### spec_l03Hermite: function 85 -/
mutual
def spec_l03Hermite.l0 : Nat → List (S42) → Int → Int → Int → Int → Option (Int × Int × Int)
 | 0, _, _, _, _, _ => none
 | k + 1, x0, x4, x5, x149000, x149001 => if x5 < (x0.length : Int) then (if 0 ≤ x5 then (spec_l03Hermite.l1 k x0 x4 x5 x149000 x149001 ((rd_T42 x0 x5).f0) ((rd_T42 x0 x5).f1)) else (none)) else (if x149001 < 0 then ((spec_l01Scale.f x149000 x149001 (-1)).bind fun bt154 => (if x4 > 0 then ((spec_l01Mod.f bt154.1 x4).bind fun t156 => (some (x4, t156, bt154.2))) else (some (x4, bt154.1, bt154.2)))) else (if x4 > 0 then ((spec_l01Mod.f x149000 x4).bind fun t157 => (some (x4, t157, x149001))) else (some (x4, x149000, x149001))))
def spec_l03Hermite.l1 : Nat → List (S42) → Int → Int → Int → Int → Int → Int → Option (Int × Int × Int)
 | 0, _, _, _, _, _, _, _ => none
 | k + 1, x0, x4, x5, x149000, x149001, x151000, x151001 => if x151001 = 0 then ((spec_l01Divisor.f k x4 x151000).bind fun t152 => (if t152 > 0 then ((spec_l01Mod.f x149000 t152).bind fun t153 => (spec_l03Hermite.l0 k x0 t152 (wrap64 (x5 + 1)) t153 x149001)) else (spec_l03Hermite.l0 k x0 t152 (wrap64 (x5 + 1)) x149000 x149001))) else (spec_l03Hermite.l1 k x0 x4 x5 x151000 x151001 (wrap64 (x149000 - (wrap64 ((wrap64 (Int.tdiv x149001 x151001)) * x151000)))) (wrap64 (x149001 - (wrap64 ((wrap64 (Int.tdiv x149001 x151001)) * x151001)))))
end
def spec_l03Hermite.f (k : Nat) (l0 : List (S42)) : Option (Int × Int × Int) := spec_l03Hermite.l0 k l0 0 0 0 0
set_option maxHeartbeats 8000000 in
set_option maxRecDepth 100000 in
theorem spec_l03Hermite.calls (k : Nat) (A0 : Option Addr) (c0 : Nat) (l0 : List (S42)) (r1 : Int) (r2 : Int) (r3 : Int) (w : World) (hr0 : Kd.C k42 w A0 l0.length l0) (hc0 : l0.length ≤ c0) (h : spec_l03Hermite.f k l0 = some (r1, r2, r3)) :
  Calls Try.prog 85 #[.slice A0 l0.length c0] w fun e w' => e = .returned (.agg #[.int .i64 r1, .int .i64 r2, .int .i64 r3]) ∧ Below w.heap.size w w' := by
 have hu28 := Try.underlying28
 have hu42 := Try.underlying42
 have HR0 := Aside0.mk hr0
 have HC0 := Aside0.mk hc0
 clear hr0 hc0
 have HB := asd (Below.refl w.heap.size w)
 have H : (spec_l03Hermite.l0 k l0 0 0 0 0) = some (r1, r2, r3) := h
 clear h
 have H' := Aside0.mk H
 clear H
 go_enter Try.func85, Try.ntmps85
 focus go_wp2_with (first | ((with_reducible refine gd 2 rfl ?_); refine bx #[.int .i64 0, .int .i64 0, .int .i64 0] 28 ?_; intro gb147 hg w2 BK147 hb; have GE147 := ngw0 hg HB; replace HB := bS0 HB hb; clear hb hg) | ((with_reducible refine gd 3 rfl ?_); refine bx #[.int .i64 0, .int .i64 0] 42 ?_; intro gb148 hg w3 BK148 hb; have GE148 := ngw1 hg HB GE147; replace HB := bS1 HB GE147 hb; have NB147_148 := nlt hg BK147; have NB148_147 := nsy (nlt hg BK147); replace BK147 := bB BK147 hb; clear hb hg; have hnb4 := NB148_147.out; have hnc4 := NB147_148.out; obtain ⟨hcz5_0, hcz5_1, hfz5_0, hfz5_1⟩ := bz2 BK148))
 go_loopg [4, 5] k (fun kq v4 v5 w' => ∃ (x4_1 : Int) (x5_1 : Int) (x149000_1 : Int) (x149001_1 : Int), v4 = .int .i64 x4_1 ∧ v5 = .int .i64 x5_1 ∧ Aside0 (spec_l03Hermite.l0 kq l0 x4_1 x5_1 x149000_1 x149001_1 = some (r1, r2, r3)) ∧ Aside0 (kq ≤ k) ∧ Aside0 (w'.heap[gb147]? = some (.cells #[.int .i64 0, .int .i64 0, .int .i64 0] 28 (0, 0))) ∧ Aside0 (w'.heap[gb148]? = some (.cells #[.int .i64 x149000_1, .int .i64 x149001_1] 42 (0, 0))) ∧ Aside0 (Below w.heap.size w w'))
 case atStart => exact ⟨(0), (0), (0), (0), (by first | rfl | (simp; done) | (simp [*]; done)), (by first | rfl | (simp; done) | (simp [*]; done)), H', ⟨Nat.le_refl _⟩, ⟨bq1 BK147 NB147_148⟩, ⟨bq0 BK148⟩, ⟨bbw2 HB GE147 GE148⟩⟩
 case round =>
  clear H'
  try clear p2
  try clear c4
  try clear hcz5_0
  try clear hcz5_1
  try clear hfz5_0
  try clear hfz5_1
  obtain ⟨x4_1, x5_1, x149000_1, x149001_1, rfl, rfl, HA, HK1, BK147, BK148, HB⟩ := hrel
  cases gk with
  | zero => exact absurd HA.out (by simp [spec_l03Hermite.l0])
  | succ k1 =>
   have H := HA.out
   clear HA
   simp only [spec_l03Hermite.l0] at H
   by_cases c6 : x5_1 < (l0.length : Int)
   rw [if_pos c6] at H
   have c6b0 := decide_eq_true c6
   clear c6
   by_cases c7 : 0 ≤ x5_1
   rw [if_pos c7] at H
   have c7b0 := decide_eq_true c7
   clear c7
   have H' := Aside0.mk H
   clear H
   rotate_left
   ·rw [if_neg c7] at H
    exact absurd H (by simp)
   rw [if_neg c6] at H
   have c6b0 := decide_eq_false c6
   clear c6
   by_cases c39 : x149001_1 < 0
   rw [if_pos c39] at H
   have c39b0 := decide_eq_true c39
   clear c39
   obtain ⟨⟨t154, t155⟩, A40, H⟩ := ob H
   try dsimp only at H
   by_cases c41 : x4_1 > 0
   rw [if_pos c41] at H
   have c41b0 : decide (0 < x4_1) = true := decide_eq_true c41
   clear c41
   obtain ⟨t156, A42, H⟩ := ob H
   try dsimp only at H
   rotate_left
   rw [if_neg c41] at H
   have c41b0 : decide (0 < x4_1) = false := decide_eq_false c41
   clear c41
   rotate_left
   rw [if_neg c39] at H
   have c39b0 := decide_eq_false c39
   clear c39
   by_cases c53 : x4_1 > 0
   rw [if_pos c53] at H
   have c53b0 : decide (0 < x4_1) = true := decide_eq_true c53
   clear c53
   obtain ⟨t157, A54, H⟩ := ob H
   try dsimp only at H
   rotate_left
   rw [if_neg c53] at H
   have c53b0 : decide (0 < x4_1) = false := decide_eq_false c53
   clear c53
   rotate_left
   ·obtain ⟨p149, q149, ad149, e149, hx149_0, hx149_1⟩ := at_T42x HR0.out HB x5_1
    cases e149
    focus go_wp2_with (first | ((with_reducible refine gd 6 rfl ?_); refine bx #[.int .i64 0, .int .i64 0] 42 ?_; intro gb150 hg w8 BK150 hb; have GE150 := ngw2 hg HB GE147 GE148; replace HB := bS2 HB GE147 GE148 hb; have NB147_150 := nlt hg BK147; have NB150_147 := nsy (nlt hg BK147); replace BK147 := bB BK147 hb; have NB148_150 := nlt hg BK148; have NB150_148 := nsy (nlt hg BK148); replace BK148 := bB BK148 hb; clear hb hg; have hnb9 := NB150_147.out; have hnc9 := NB147_150.out; have hnb10 := NB150_148.out; have hnc10 := NB148_150.out; obtain ⟨hcz11_0, hcz11_1, hfz11_0, hfz11_1⟩ := bz2 BK150))
    go_loopg [] k1 (fun kq w' => ∃ (x149000_2 : Int) (x149001_2 : Int) (x151000_2 : Int) (x151001_2 : Int), Aside0 (spec_l03Hermite.l1 kq l0 x4_1 x5_1 x149000_2 x149001_2 x151000_2 x151001_2 = some (r1, r2, r3)) ∧ Aside0 (kq ≤ k1) ∧ Aside0 (w'.heap[gb147]? = some (.cells #[.int .i64 0, .int .i64 0, .int .i64 0] 28 (0, 0))) ∧ Aside0 (w'.heap[gb148]? = some (.cells #[.int .i64 x149000_2, .int .i64 x149001_2] 42 (0, 0))) ∧ Aside0 (w'.heap[gb150]? = some (.cells #[.int .i64 x151000_2, .int .i64 x151001_2] 42 (0, 0))) ∧ Aside0 (Below w.heap.size w w'))
    case atStart => exact ⟨(x149000_1), (x149001_1), ((rd_T42 l0 x5_1).f0), ((rd_T42 l0 x5_1).f1), H', ⟨Nat.le_refl _⟩, ⟨bq1 BK147 NB147_150⟩, ⟨bq1 BK148 NB148_150⟩, ⟨bq0 BK150⟩, ⟨bbw3 HB GE147 GE148 GE150⟩⟩
    case round =>
     clear H'
     try clear c1
     try clear p1
     try clear q1
     try clear hx1
     try clear p2
     try clear c4
     try clear c6
     try clear c6b0
     try clear c7
     try clear c7b0
     try clear c8
     try clear c9
     try clear c10
     try clear hcz11_0
     try clear hcz11_1
     try clear hcz5_0
     try clear hcz5_1
     try clear hfz11_0
     try clear hfz11_1
     try clear hfz5_0
     try clear hfz5_1
     try clear hx149_0
     try clear hx149_1
     try clear p149
     try clear p2
     try clear q149
     obtain ⟨x149000_2, x149001_2, x151000_2, x151001_2, HA, HK2, BK147, BK148, BK150, HB⟩ := hrel
     cases gk with
     | zero => exact absurd HA.out (by simp [spec_l03Hermite.l1])
     | succ k2 =>
      have H := HA.out
      clear HA
      simp only [spec_l03Hermite.l1] at H
      by_cases c12 : x151001_2 = 0
      rw [if_pos c12] at H
      have c12b0 : (x151001_2 == 0) = true := beq_iff_eq.mpr c12
      have c12b1 : (x151001_2 != 0) = false := bne_eq_false_iff_eq.mpr c12
      clear c12
      obtain ⟨t152, A13, H⟩ := ob H
      try dsimp only at H
      by_cases c14 : t152 > 0
      rw [if_pos c14] at H
      have c14b0 : decide (0 < t152) = true := decide_eq_true c14
      clear c14
      obtain ⟨t153, A15, H⟩ := ob H
      try dsimp only at H
      have H' := Aside0.mk H
      clear H
      rotate_left
      rw [if_neg c14] at H
      have c14b0 : decide (0 < t152) = false := decide_eq_false c14
      clear c14
      have H' := Aside0.mk H
      clear H
      rotate_left
      rw [if_neg c12] at H
      have c12b0 : (x151001_2 == 0) = false := beq_eq_false_iff_ne.mpr c12
      have c12b1 : (x151001_2 != 0) = true := bne_iff_ne.mpr c12
      have H' := Aside0.mk H
      clear H
      rotate_left
      all_goals
       have hnb16 := NB150_147.out
       have hnc16 := NB147_150.out
       have hnb17 := NB150_148.out
       have hnc17 := NB148_150.out
       obtain ⟨hcz18_0, hcz18_1, hfz18_0, hfz18_1⟩ := bz2 BK150
      focus go_wp2_with (first | ((with_reducible refine gate_callee (f := 70) rfl ?_); refine gl 48 Try.func70 #[.int .i64 x4_1, .int .i64 x151000_2] ?_; (with_reducible refine (spec_l01Divisor.calls _ _ _ _ _ A13.out).mono ?_); rintro e w19 ⟨rfl, hb⟩; refine ⟨_, rfl, ?_⟩; replace BK147 := bB BK147 hb; replace BK148 := bB BK148 hb; replace BK150 := bB BK150 hb; replace HB := bS3 HB GE147 GE148 GE150 hb; (try clear hb); have hnb20 := NB148_147.out; have hnc20 := NB147_148.out; obtain ⟨hcz21_0, hcz21_1, hfz21_0, hfz21_1⟩ := bz2 BK148) | ((with_reducible refine gate_callee (f := 53) rfl ?_); refine gl 54 Try.func53 #[.int .i64 x149000_2, .int .i64 t152] ?_; (with_reducible refine (spec_l01Mod.calls _ _ _ _ A15.out).mono ?_); rintro e w' ⟨rfl, ⟨nd, rfl⟩⟩; refine ⟨_, rfl, ?_⟩; (try (rw [drewN_self w19]; generalize hq_ : World.drewN w19 _ = w19; have n0_ : Aside0 (w19.heap[gb147]? = some (.cells #[.int .i64 0, .int .i64 0, .int .i64 0] 28 (0, 0))) := ⟨by rw [← hq_]; exact (bkp BK147)⟩; have n1_ : Aside0 (w19.heap[gb148]? = some (.cells #[.int .i64 x149000_2, .int .i64 x149001_2] 42 (0, 0))) := ⟨by rw [← hq_]; exact (bkp BK148)⟩; have n2_ : Aside0 (w19.heap[gb150]? = some (.cells #[.int .i64 x151000_2, .int .i64 x151001_2] 42 (0, 0))) := ⟨by rw [← hq_]; exact (bkp BK150)⟩; have n3_ : Aside0 (Below w.heap.size w w19) := ⟨by rw [← hq_]; exact (bbw3 HB GE147 GE148 GE150)⟩; clear BK147 BK148 BK150 HB hq_; have BK147 := n0_; have BK148 := n1_; have BK150 := n2_; have HB := n3_; clear n0_ n1_ n2_ n3_)); have hcz22_0 : w19.cell? ⟨gb148, 0, none⟩ = some (.int .i64 x149000_2) := bcl BK148 0; have hcz22_1 : w19.cell? ⟨gb148, 1, none⟩ = some (.int .i64 x149001_2) := bcl BK148 1; have hfz22_0 := blk_frozen BK148.out 0; have hfz22_1 := blk_frozen BK148.out 1))
      rotate_left
      focus go_wp2_with (first | ((with_reducible refine gate_callee (f := 70) rfl ?_); refine gl 48 Try.func70 #[.int .i64 x4_1, .int .i64 x151000_2] ?_; (with_reducible refine (spec_l01Divisor.calls _ _ _ _ _ A13.out).mono ?_); rintro e w26 ⟨rfl, hb⟩; refine ⟨_, rfl, ?_⟩; replace BK147 := bB BK147 hb; replace BK148 := bB BK148 hb; replace BK150 := bB BK150 hb; replace HB := bS3 HB GE147 GE148 GE150 hb; (try clear hb)))
      rotate_left
      have hnb30 := NB148_147.out
      have hnc30 := NB147_148.out
      obtain ⟨hcz31_0, hcz31_1, hfz31_0, hfz31_1⟩ := bz2 BK148
      focus go_wp2_with (first | ((with_reducible refine gd 8 rfl ?_); refine bx #[.int .i64 0, .int .i64 0] 42 ?_; intro gb151 hg w32 BK151 hb; have GE151 := ngw3 hg HB GE147 GE148 GE150; replace HB := bS3 HB GE147 GE148 GE150 hb; have NB147_151 := nlt hg BK147; have NB151_147 := nsy (nlt hg BK147); replace BK147 := bB BK147 hb; have NB148_151 := nlt hg BK148; have NB151_148 := nsy (nlt hg BK148); replace BK148 := bB BK148 hb; have NB150_151 := nlt hg BK150; have NB151_150 := nsy (nlt hg BK150); replace BK150 := bB BK150 hb; clear hb hg; have hnb33 := NB151_147.out; have hnc33 := NB147_151.out; have hnb34 := NB151_148.out; have hnc34 := NB148_151.out; have hnb35 := NB151_150.out; have hnc35 := NB150_151.out; obtain ⟨hcz36_0, hcz36_1, hfz36_0, hfz36_1⟩ := bz2 BK151; obtain ⟨hcz37_0, hcz37_1, hfz37_0, hfz37_1⟩ := bz2 BK150; obtain ⟨hcz38_0, hcz38_1, hfz38_0, hfz38_1⟩ := bz2 BK148))
      rotate_left
      all_goals
       go_roundg k2
       case measure => have := HK1.out; have := HK2.out; omega
      ·case rel => exact ⟨(t152), (wrap64 (x5_1 + 1)), (t153), (x149001_2), (by first | rfl | (simp; done) | (simp [*]; done)), (by first | rfl | (simp; done) | (simp [*]; done)), H', ⟨by have := HK1.out; have := HK2.out; omega⟩, ⟨bq1 BK147 NB147_148⟩, ⟨bq0 BK148⟩, ⟨bbw3 HB GE147 GE148 GE150⟩⟩
      ·case rel => exact ⟨(t152), (wrap64 (x5_1 + 1)), (x149000_2), (x149001_2), (by first | rfl | (simp; done) | (simp [*]; done)), (by first | rfl | (simp; done) | (simp [*]; done)), H', ⟨by have := HK1.out; have := HK2.out; omega⟩, ⟨bkp BK147⟩, ⟨bkp BK148⟩, ⟨bbw3 HB GE147 GE148 GE150⟩⟩
      ·case rel => exact ⟨(x151000_2), (x151001_2), (wrap64 (x149000_2 - (wrap64 ((wrap64 (Int.tdiv x149001_2 x151001_2)) * x151000_2)))), (wrap64 (x149001_2 - (wrap64 ((wrap64 (Int.tdiv x149001_2 x151001_2)) * x151001_2)))), H', ⟨by have := HK1.out; have := HK2.out; omega⟩, ⟨bq3 BK147 NB147_150 NB147_148 NB147_151⟩, ⟨bq2 BK148 NB148_150 NB148_151⟩, ⟨bq2 BK150 NB150_148 NB150_151⟩, ⟨bbw4 HB GE147 GE148 GE150 GE151⟩⟩
   rotate_left 4
   all_goals
    simp only [Option.some.injEq, Prod.mk.injEq] at H
    obtain ⟨rfl, rfl, rfl⟩ := H
    have hnb43 := NB148_147.out
    have hnc43 := NB147_148.out
    obtain ⟨hcz44_0, hcz44_1, hfz44_0, hfz44_1⟩ := bz2 BK148
   ·focus go_wp2_with (first | ((with_reducible refine gate_callee (f := 29) rfl ?_); refine gl 60 Try.func29 #[.agg #[.int .i64 x149000_1, .int .i64 x149001_1], .int .i64 (-1)] ?_; (with_reducible refine (spec_l01Scale.calls _ _ _ _ _ _ A40.out).mono ?_); rintro e w45 ⟨rfl, hb⟩; refine ⟨_, rfl, ?_⟩; replace BK147 := bB BK147 hb; replace BK148 := bB BK148 hb; replace HB := bS2 HB GE147 GE148 hb; (try clear hb); obtain ⟨hcz46_0, hcz46_1, hfz46_0, hfz46_1⟩ := bz2 BK148) | ((with_reducible refine gate_callee (f := 53) rfl ?_); refine gl 66 Try.func53 #[.int .i64 t154, .int .i64 x4_1] ?_; (with_reducible refine (spec_l01Mod.calls _ _ _ _ A42.out).mono ?_); rintro e w' ⟨rfl, ⟨nd, rfl⟩⟩; refine ⟨_, rfl, ?_⟩; have hcz47_0 : w45.cell? ⟨gb147, 0, none⟩ = some (.int .i64 0) := bcl BK147 0; have hcz47_1 : w45.cell? ⟨gb147, 1, none⟩ = some (.int .i64 0) := bcl BK147 1; have hcz47_2 : w45.cell? ⟨gb147, 2, none⟩ = some (.int .i64 0) := bcl BK147 2; have hfz47_0 := blk_frozen BK147.out 0; have hfz47_1 := blk_frozen BK147.out 1; have hfz47_2 := blk_frozen BK147.out 2))
    refine bodyPost_ret (results_cell_row rfl _ _ gb147 28 #[.int .i64 x4_1, .int .i64 t156, .int .i64 t155] (0, 0) _ rfl (bq1 BK147 NB147_148) Try.underlying28 rfl (by kernel_rfl)) rfl ?_
    exact er (bbw2 HB GE147 GE148)
   ·focus go_wp2_with (first | ((with_reducible refine gate_callee (f := 29) rfl ?_); refine gl 60 Try.func29 #[.agg #[.int .i64 x149000_1, .int .i64 x149001_1], .int .i64 (-1)] ?_; (with_reducible refine (spec_l01Scale.calls _ _ _ _ _ _ A40.out).mono ?_); rintro e w50 ⟨rfl, hb⟩; refine ⟨_, rfl, ?_⟩; replace BK147 := bB BK147 hb; replace BK148 := bB BK148 hb; replace HB := bS2 HB GE147 GE148 hb; (try clear hb); obtain ⟨hcz51_0, hcz51_1, hfz51_0, hfz51_1⟩ := bz2 BK148; obtain ⟨hcz52_0, hcz52_1, hcz52_2, hfz52_0, hfz52_1, hfz52_2⟩ := bz3 BK147))
    refine bodyPost_ret (results_cell_row rfl _ _ gb147 28 #[.int .i64 x4_1, .int .i64 t154, .int .i64 t155] (0, 0) _ rfl (bq1 BK147 NB147_148) Try.underlying28 rfl (by kernel_rfl)) rfl ?_
    exact er (bbw2 HB GE147 GE148)
   ·focus go_wp2_with (first | ((with_reducible refine gate_callee (f := 53) rfl ?_); refine gl 66 Try.func53 #[.int .i64 x149000_1, .int .i64 x4_1] ?_; (with_reducible refine (spec_l01Mod.calls _ _ _ _ A54.out).mono ?_); rintro e w' ⟨rfl, ⟨nd, rfl⟩⟩; refine ⟨_, rfl, ?_⟩; (try (rw [drewN_self wr]; generalize hq_ : World.drewN wr _ = wr; have n0_ : Aside0 (wr.heap[gb147]? = some (.cells #[.int .i64 0, .int .i64 0, .int .i64 0] 28 (0, 0))) := ⟨by rw [← hq_]; exact (bkp BK147)⟩; have n1_ : Aside0 (wr.heap[gb148]? = some (.cells #[.int .i64 x149000_1, .int .i64 x149001_1] 42 (0, 0))) := ⟨by rw [← hq_]; exact (bkp BK148)⟩; have n2_ : Aside0 (Below w.heap.size w wr) := ⟨by rw [← hq_]; exact (bbw2 HB GE147 GE148)⟩; clear BK147 BK148 HB hq_; have BK147 := n0_; have BK148 := n1_; have HB := n2_; clear n0_ n1_ n2_)); have hcz57_0 : wr.cell? ⟨gb148, 0, none⟩ = some (.int .i64 x149000_1) := bcl BK148 0; have hcz57_1 : wr.cell? ⟨gb148, 1, none⟩ = some (.int .i64 x149001_1) := bcl BK148 1; have hfz57_0 := blk_frozen BK148.out 0; have hfz57_1 := blk_frozen BK148.out 1; have hcz58_0 : wr.cell? ⟨gb147, 0, none⟩ = some (.int .i64 0) := bcl BK147 0; have hcz58_1 : wr.cell? ⟨gb147, 1, none⟩ = some (.int .i64 0) := bcl BK147 1; have hcz58_2 : wr.cell? ⟨gb147, 2, none⟩ = some (.int .i64 0) := bcl BK147 2; have hfz58_0 := blk_frozen BK147.out 0; have hfz58_1 := blk_frozen BK147.out 1; have hfz58_2 := blk_frozen BK147.out 2))
    refine bodyPost_ret (results_cell_row rfl _ _ gb147 28 #[.int .i64 x4_1, .int .i64 t157, .int .i64 x149001_1] (0, 0) _ rfl (bq1 BK147 NB147_148) Try.underlying28 rfl (by kernel_rfl)) rfl ?_
    exact er (bbw2 HB GE147 GE148)
   ·obtain ⟨hcz61_0, hcz61_1, hcz61_2, hfz61_0, hfz61_1, hfz61_2⟩ := bz3 BK147
    focus go_wp2
    refine bodyPost_ret (results_cell_row rfl _ _ gb147 28 #[.int .i64 x4_1, .int .i64 x149000_1, .int .i64 x149001_1] (0, 0) _ rfl (bq0 BK147) Try.underlying28 rfl (by kernel_rfl)) rfl ?_
    exact er (bbw2 HB GE147 GE148)
/-! ### spec_l04Image: function 64 -/
def spec_l04Image.f (k : Nat) (a0_0 : Int) (a0_1 : Int) (a0_2 : Int) (a0_3 : Int) (a1_0 : Int) (a1_1 : Int) (a1_2 : Int) : Option (Int × Int × Int) := (spec_l03Basis.f a1_0 a1_1 a1_2).bind fun t161 => (if 0 < (t161.length : Int) then ((spec_l02Apply.f a0_0 a0_1 a0_2 a0_3 ((rd_T42 t161 0).f0) ((rd_T42 t161 0).f1)).bind fun bt165 => (if 1 < (t161.length : Int) then ((spec_l02Apply.f a0_0 a0_1 a0_2 a0_3 ((rd_T42 t161 1).f0) ((rd_T42 t161 1).f1)).bind fun bt168 => ((spec_l03Hermite.f k (([(⟨bt165.1, bt165.2⟩ : S42), (⟨bt168.1, bt168.2⟩ : S42)] : List (S42)))).bind fun bt173 => (some (bt173.1, bt173.2.1, bt173.2.2)))) else (none))) else (none))
def spec_l04Image.T2 : Bool × List (List Nat × List Nat) := (true, [([], []), ([], []), ([1], [1]), ([2], [2]), ([0, 3], [0, 3]), ([], []), ([], []), ([6], [6]), ([7], [7]), ([5, 8, 4], [5, 8]), ([4, 9], [4, 9]), ([10, 9], [10]), ([11, 11, 0, 1, 2, 3, 4, 5, 6, 7, 8, 9, 10, 11], [11])])
def spec_l04Image.B2 : List Nat := [0, 0, 2, 6, 15, 0, 0, 64, 192, 511, 1023, 2047, 4095]
theorem spec_l04Image.tab2 : rtab .any (opsOf Try.f64 2) = spec_l04Image.T2 := by kernel_rfl
theorem spec_l04Image.bits2 : waitsOk spec_l04Image.T2.2 spec_l04Image.B2 = true := by kernel_rfl
set_option maxHeartbeats 8000000 in
set_option maxRecDepth 100000 in
theorem spec_l04Image.calls (k : Nat) (a0_0 : Int) (a0_1 : Int) (a0_2 : Int) (a0_3 : Int) (a1_0 : Int) (a1_1 : Int) (a1_2 : Int) (r1 : Int) (r2 : Int) (r3 : Int) (w : World) (h : spec_l04Image.f k a0_0 a0_1 a0_2 a0_3 a1_0 a1_1 a1_2 = some (r1, r2, r3)) :
  Calls Try.prog 64 #[.agg #[.int .i64 a0_0, .int .i64 a0_1, .int .i64 a0_2, .int .i64 a0_3], .agg #[.int .i64 a1_0, .int .i64 a1_1, .int .i64 a1_2]] w fun e w' => e = .returned (.agg #[.int .i64 r1, .int .i64 r2, .int .i64 r3]) ∧ Below w.heap.size w w' := by
 have hu40 := Try.underlying40
 have hu28 := Try.underlying28
 have hu42 := Try.underlying42
 have HB := asd (Below.refl w.heap.size w)
 have H : ((spec_l03Basis.f a1_0 a1_1 a1_2).bind fun t161 => (if 0 < (t161.length : Int) then ((spec_l02Apply.f a0_0 a0_1 a0_2 a0_3 ((rd_T42 t161 0).f0) ((rd_T42 t161 0).f1)).bind fun bt165 => (if 1 < (t161.length : Int) then ((spec_l02Apply.f a0_0 a0_1 a0_2 a0_3 ((rd_T42 t161 1).f0) ((rd_T42 t161 1).f1)).bind fun bt168 => ((spec_l03Hermite.f k (([(⟨bt165.1, bt165.2⟩ : S42), (⟨bt168.1, bt168.2⟩ : S42)] : List (S42)))).bind fun bt173 => (some (bt173.1, bt173.2.1, bt173.2.2)))) else (none))) else (none))) = some (r1, r2, r3) := h
 clear h
 obtain ⟨t161, A3, H⟩ := ob H
 try dsimp only at H
 by_cases c4 : 0 < (t161.length : Int)
 ·rw [if_pos c4] at H
  have c4b0 := decide_eq_true c4
  have c4b1 : decide (0 < t161.length) = true := decide_eq_true (by omega)
  clear c4
  obtain ⟨⟨t165, t166⟩, A5, H⟩ := ob H
  try dsimp only at H
  by_cases c6 : 1 < (t161.length : Int)
  ·rw [if_pos c6] at H
   have c6b0 := decide_eq_true c6
   have c6b1 : decide (1 < t161.length) = true := decide_eq_true (by omega)
   clear c6
   obtain ⟨⟨t168, t169⟩, A7, H⟩ := ob H
   try dsimp only at H
   obtain ⟨y170, hy170⟩ : ∃ y_ : List (S42), y_ = (([(⟨t165, t166⟩ : S42), (⟨t168, t169⟩ : S42)] : List (S42))) := ⟨_, rfl⟩
   replace H : ((spec_l03Hermite.f k y170).bind fun bt173 => (some (bt173.1, bt173.2.1, bt173.2.2))) = some (r1, r2, r3) := by first | (rw [hy170]; with_reducible exact H) | (have H2_ := (Option.bind_some _ _).symm.trans H; rw [hy170]; with_reducible exact H2_) | (have H2_ := (Option.bind_some _ _).symm.trans H; with_reducible exact H2_) | with_reducible exact H | (rw [hy170]; exact H) | exact H
   have Ny170 := Aside0.mk hy170
   clear hy170
   obtain ⟨⟨t173, t174, t175⟩, A8, H⟩ := ob H
   try dsimp only at H
   simp only [Option.some.injEq, Prod.mk.injEq] at H
   obtain ⟨rfl, rfl, rfl⟩ := H
   go_enter Try.func64, Try.ntmps64
   try go_wp2_with (first | ((with_reducible refine gd 2 rfl ?_); refine bx #[.int .i64 a0_0, .int .i64 a0_1, .int .i64 a0_2, .int .i64 a0_3] 40 ?_; intro gb158 hg w9 BK158 hb; have GE158 := ngw0 hg HB; replace HB := bS0 HB hb; clear hb hg) | ((with_reducible refine gd 3 rfl ?_); refine bx #[.int .i64 a1_0, .int .i64 a1_1, .int .i64 a1_2] 28 ?_; intro gb159 hg w10 BK159 hb; have GE159 := ngw1 hg HB GE158; replace HB := bS1 HB GE158 hb; have NB158_159 := nlt hg BK158; have NB159_158 := nsy (nlt hg BK158); replace BK158 := bB BK158 hb; clear hb hg) | ((with_reducible refine gd 4 rfl ?_); refine bx #[.int .i64 0, .int .i64 0, .int .i64 0] 28 ?_; intro gb160 hg w11 BK160 hb; have GE160 := ngw2 hg HB GE158 GE159; replace HB := bS2 HB GE158 GE159 hb; have NB158_160 := nlt hg BK158; have NB160_158 := nsy (nlt hg BK158); replace BK158 := bB BK158 hb; have NB159_160 := nlt hg BK159; have NB160_159 := nsy (nlt hg BK159); replace BK159 := bB BK159 hb; clear hb hg; have hnb12 := NB159_158.out; have hnc12 := NB158_159.out; have hnb13 := NB159_160.out; have hnc13 := NB160_159.out; obtain ⟨hcz14_0, hcz14_1, hcz14_2, hfz14_0, hfz14_1, hfz14_2⟩ := bz3 BK159) | ((with_reducible refine gate_callee (f := 25) rfl ?_); refine gl 7 Try.func25 #[.agg #[.int .i64 a1_0, .int .i64 a1_1, .int .i64 a1_2]] ?_; (with_reducible refine (spec_l03Basis.calls _ _ _ _ _ A3.out).mono ?_); rintro e w15 ⟨v162, rfl, ho0, hb⟩; refine ⟨_, rfl, ?_⟩; have HO163 := asd (Kd.R_lower ho0 (bsz3 HB GE158 GE159 GE160)); replace BK158 := bB BK158 hb; replace BK159 := bB BK159 hb; replace BK160 := bB BK160 hb; replace HB := bS3 HB GE158 GE159 GE160 hb; (try clear hb); (try clear hb2); (try clear hk); (try clear hi); (try clear ho0)))
   replace HO163 := asd (Kd.R_drew HO163.out)
   replace BK158 := asd (blk_drew BK158.out)
   replace BK159 := asd (blk_drew BK159.out)
   replace BK160 := asd (blk_drew BK160.out)
   replace HB := asd (below_drew1 HB.out)
   obtain ⟨Ao17, co17, eo17⟩ := Kd.R_slice HO163.out
   (first | subst eo17 | (injection eo17 with f1_ f2_ f3_; have f4_ := f1_.symm; have f5_ := f3_.symm; clear f1_ f2_ f3_; subst f4_; subst f5_))
   have p164 : 0 ≤ (0 : Int) := (by omega)
   have q164 : 0 < (t161.length : Int) := od
   obtain ⟨ad164, e164, hx164_0, hx164_1⟩ := at_T42 (Kd.R_reads' HO163.out).2.2 0 p164 q164
   cases e164
   have qi164 : (0 < t161.length) = True := eq_true (by omega)
   (try rw [show ((0 : Int)).toNat = 0 from rfl] at hx164_0)
   (try rw [show 0 * 2 = 0 from rfl] at hx164_0)
   (try rw [Addr.add_zero'] at hx164_0)
   (try rw [show ((0 : Int)).toNat = 0 from rfl] at hx164_1)
   (try rw [show 0 * 2 = 0 from rfl] at hx164_1)
   (try rw [Addr.add_zero'] at hx164_1)
   replace p164 := eq_true p164
   replace q164 := eq_true q164
   have p167 : 0 ≤ (1 : Int) := (by omega)
   have q167 : 1 < (t161.length : Int) := od
   obtain ⟨ad167, e167, hx167_0, hx167_1⟩ := at_T42 (Kd.R_reads' HO163.out).2.2 1 p167 q167
   obtain rfl : ad164 = ad167 := (by injection e167)
   (try simp only [show (1 : Int).toNat = 1 from rfl, Nat.reduceMul, Nat.reduceEqDiff, Go.Addr.add, ↓reduceIte] at hx167_0)
   (try simp only [show (1 : Int).toNat = 1 from rfl, Nat.reduceMul, Nat.reduceEqDiff, Go.Addr.add, ↓reduceIte] at hx167_1)
   have qi167 : (1 < t161.length) = True := eq_true (by omega)
   (try rw [show ((1 : Int)).toNat = 1 from rfl] at hx167_0)
   (try rw [show 1 * 2 = 2 from rfl] at hx167_0)
   (try rw [show ((1 : Int)).toNat = 1 from rfl] at hx167_1)
   (try rw [show 1 * 2 = 2 from rfl] at hx167_1)
   replace p167 := eq_true p167
   replace q167 := eq_true q167
   refine sh 13 (cb4 BK158 (c1 hx164_0 (c1 hx164_1 (c1 hx167_0 (e1 hx167_1))))) (fun hHeld => ?_); refine with_tabW spec_l04Image.tab2 spec_l04Image.bits2 (fun HT_ HW_ => ?_)
   generalize w15.drew = w16 at HO163 BK158 BK159 BK160 HB hx164_0 hx164_1 hx167_0 hx167_1 hHeld ⊢
   refine pu 1 (some 9) (bs 13 2) HT_ ?_
   refine pu 2 (some 10) (bs 13 6) HT_ ?_
   refine pu 6 (some 14) (bs 13 70) HT_ ?_
   refine pu 7 (some 15) (bs 13 198) HT_ ?_
   refine ta 0 (some 8) (bs 13 199) HT_ HW_ hHeld ?_
   refine ta 3 (some 11) (bs 13 207) HT_ HW_ hHeld ?_
   refine ta 5 (some 13) (bs 13 239) HT_ HW_ hHeld ?_
   refine ta 8 (some 16) (bs 13 495) HT_ HW_ hHeld ?_
   refine ro 4 (some 12) (bT 13 9) HT_ (fun K hK => ?_)
   refine gs Try.func69 #[.agg #[.int .i64 a0_0, .int .i64 a0_1, .int .i64 a0_2, .int .i64 a0_3], .agg #[.int .i64 ((rd_T42 t161 0).f0), .int .i64 ((rd_T42 t161 0).f1)]] ?_
   with_reducible refine (spec_l02Apply.calls _ _ _ _ _ _ _ _ _ A5.out).mono ?_
   rintro e w18 ⟨rfl, hb⟩
   have HS4_ := hbc hb (hHeld.2.2.2.2.1)
   have HS5_ := hbc hb (hHeld.2.2.2.2.2.1)
   have HS6_ := hbc hb (hHeld.2.2.2.2.2.2.1)
   have HS7_ := hbc hb (hHeld.2.2.2.2.2.2.2)
   refine ⟨_, rfl, ?_⟩
   replace HO163 := asd (Kd.R_below (kr HO163) hb)
   replace BK158 := bB BK158 hb
   replace BK159 := bB BK159 hb
   replace BK160 := bB BK160 hb
   replace HB := bS3 HB GE158 GE159 GE160 hb
   (try clear hb)
   (try clear hb2)
   (try clear hk)
   (try clear hi)
   refine hK.out _ _ ⟨bcl BK158 0, bcl BK158 1, bcl BK158 2, bcl BK158 3, HS4_, HS5_, HS6_, HS7_⟩ (fun hHeld => ?_)
   clear hK K
   refine norm_ (a' := ?_) ?_ ?_
   rotate_left
   ·show Act.put _ (some 12) _ = _
    simp only [Act.put, sA, sB, sC, i64_w, i32_w]
    rfl
   refine ro 9 (some 17) (bT 13 10) HT_ (fun K hK => ?_)
   refine gs Try.func69 #[.agg #[.int .i64 a0_0, .int .i64 a0_1, .int .i64 a0_2, .int .i64 a0_3], .agg #[.int .i64 ((rd_T42 t161 1).f0), .int .i64 ((rd_T42 t161 1).f1)]] ?_
   with_reducible refine (spec_l02Apply.calls _ _ _ _ _ _ _ _ _ A7.out).mono ?_
   rintro e w19 ⟨rfl, hb⟩
   have HS4_ := hbc hb (hHeld.2.2.2.2.1)
   have HS5_ := hbc hb (hHeld.2.2.2.2.2.1)
   have HS6_ := hbc hb (hHeld.2.2.2.2.2.2.1)
   have HS7_ := hbc hb (hHeld.2.2.2.2.2.2.2)
   refine ⟨_, rfl, ?_⟩
   replace HO163 := asd (Kd.R_below (kr HO163) hb)
   replace BK158 := bB BK158 hb
   replace BK159 := bB BK159 hb
   replace BK160 := bB BK160 hb
   replace HB := bS3 HB GE158 GE159 GE160 hb
   (try clear hb)
   (try clear hb2)
   (try clear hk)
   (try clear hi)
   refine hK.out _ _ ⟨bcl BK158 0, bcl BK158 1, bcl BK158 2, bcl BK158 3, HS4_, HS5_, HS6_, HS7_⟩ (fun hHeld => ?_)
   clear hK K
   refine norm_ (a' := ?_) ?_ ?_
   rotate_left
   ·show Act.put _ (some 17) _ = _
    simp only [Act.put, sA, sB, sC, i64_w, i32_w]
    rfl
   refine ro 10 (some 18) (bT 13 11) HT_ (fun K hK => ?_)
   refine Kd.R_lit_step k42 _ 42 ?hg (N := 18) ?hd (xs := ([(⟨t165, t166⟩ : S42), (⟨t168, t169⟩ : S42)] : List (S42))) (inner := [.int .i64 t165, .int .i64 t166, .int .i64 t168, .int .i64 t169]) (ok := fun _ => True) (okp := fun _ => True) ?hr ?hp (fun _ hk => hk) trivial (Below.refl _ _) (Nat.le_refl _) (by simp) ?_; (case hd => rfl); (case hg => rfl); (case hr => first | (go_simp; done) | (go_simp; rfl)); (case hp => exact (Reps.c2 (show Kd.M k42 _ _ _ (⟨t165, t166⟩ : S42) [.int .i64 t165, .int .i64 t166] from (k42_mkM _ _ _ (⟨t165, t166⟩ : S42) )) (Reps.c2 (show Kd.M k42 _ _ _ (⟨t168, t169⟩ : S42) [.int .i64 t168, .int .i64 t169] from (k42_mkM _ _ _ (⟨t168, t169⟩ : S42) )) (Reps.none _ _))))
   intro v171 w20 ho21 hb hg_ hnew_
   have HS4_ := hbc hb (hHeld.2.2.2.2.1)
   have HS5_ := hbc hb (hHeld.2.2.2.2.2.1)
   have HS6_ := hbc hb (hHeld.2.2.2.2.2.2.1)
   have HS7_ := hbc hb (hHeld.2.2.2.2.2.2.2)
   clear hg_ hnew_
   (first | rw [← Ny170.out] at ho21 | (simp only [Int.reduceToNat] at ho21; rw [← Ny170.out] at ho21))
   have HO172 := asd (Kd.R_lower (Kd.R_new' ho21 (Kd.R_lt (kr HO163))) (bsz3 HB GE158 GE159 GE160))
   replace HO163 := asd (Kd.R_elder' (kr HO163) (Kd.R_base ho21) hb)
   replace BK158 := bB BK158 hb
   replace BK159 := bB BK159 hb
   replace BK160 := bB BK160 hb
   replace HB := bS3 HB GE158 GE159 GE160 hb
   clear hb ho21
   obtain ⟨Ao22, co22, eo22⟩ := Kd.R_slice HO172.out
   (first | subst eo22 | (injection eo22 with f1_ f2_ f3_; have f4_ := f1_.symm; have f5_ := f3_.symm; clear f1_ f2_ f3_; subst f4_; subst f5_))
   refine hK.out _ _ ⟨bcl BK158 0, bcl BK158 1, bcl BK158 2, bcl BK158 3, HS4_, HS5_, HS6_, HS7_⟩ (fun hHeld => ?_)
   clear hK K
   refine norm_ (a' := ?_) ?_ ?_
   rotate_left
   ·show Act.put _ (some 18) _ = _
    simp only [Act.put, sA, sB, sC, i64_w, i32_w]
    rfl
   refine ro 11 (some 19) (bT 13 12) HT_ (fun K hK => ?_)
   refine gs Try.func85 #[.slice Ao22 y170.length co22] ?_
   with_reducible refine (spec_l03Hermite.calls _ _ _ _ _ _ _ _ ?side1 ?side2 A8.out).mono ?_
   (case side1 => exact ks (Kd.R_reads' HO172.out).2.2)
   (case side2 => exact (Kd.R_reads' HO172.out).2.1)
   rintro e w23 ⟨rfl, hb⟩
   have HS4_ := hbc hb (hHeld.2.2.2.2.1)
   have HS5_ := hbc hb (hHeld.2.2.2.2.2.1)
   have HS6_ := hbc hb (hHeld.2.2.2.2.2.2.1)
   have HS7_ := hbc hb (hHeld.2.2.2.2.2.2.2)
   refine ⟨_, rfl, ?_⟩
   replace HO163 := asd (Kd.R_below (kr HO163) hb)
   replace HO172 := asd (Kd.R_below (kr HO172) hb)
   replace BK158 := bB BK158 hb
   replace BK159 := bB BK159 hb
   replace BK160 := bB BK160 hb
   replace HB := bS3 HB GE158 GE159 GE160 hb
   (try clear hb)
   (try clear hb2)
   (try clear hk)
   (try clear hi)
   refine hK.out _ _ ⟨bcl BK158 0, bcl BK158 1, bcl BK158 2, bcl BK158 3, HS4_, HS5_, HS6_, HS7_⟩ (fun hHeld => ?_)
   clear hK K
   refine norm_ (a' := ?_) ?_ ?_
   rotate_left
   ·show Act.put _ (some 19) _ = _
    simp only [Act.put, sA, sB, sC, i64_w, i32_w]
    rfl
   refine ro 12 (none) (bT 13 13) HT_ (fun K hK => ?_)
   have hs24 : w23.cell? ⟨gb160, 0, none⟩ = some (.int .i64 0) := bcl BK160 0
   have hfs24 := blk_frozen BK160.out 0
   have hns24_0 := NB158_160.out
   have hns24_1 := NB159_160.out
   have hms24_0 := NB160_158.out
   have hms24_1 := NB160_159.out
   have hs25 : w23.cell? ⟨gb160, 1, none⟩ = some (.int .i64 0) := bcl BK160 1
   have hfs25 := blk_frozen BK160.out 1
   have hns25_0 := NB158_160.out
   have hns25_1 := NB159_160.out
   have hms25_0 := NB160_158.out
   have hms25_1 := NB160_159.out
   have hs26 : w23.cell? ⟨gb160, 2, none⟩ = some (.int .i64 0) := bcl BK160 2
   have hfs26 := blk_frozen BK160.out 2
   have hns26_0 := NB158_160.out
   have hns26_1 := NB159_160.out
   have hms26_0 := NB160_158.out
   have hms26_1 := NB160_159.out
   refine skip_ (w1 := ?_) (by rfl) rfl ?_ ?_
   rotate_left
   ·go_simp
    rfl
   refine hK.out _ _ ⟨(cf3 NB158_160 (hHeld.1)), (cf3 NB158_160 (hHeld.2.1)), (cf3 NB158_160 (hHeld.2.2.1)), (cf3 NB158_160 (hHeld.2.2.2.1)), (fx3 (Kd.own_blk (Kd.R_ne HO163.out BK160.out (by decide))) (hHeld.2.2.2.2.1)), (fx3 (Kd.own_blk (Kd.R_ne HO163.out BK160.out (by decide))) (hHeld.2.2.2.2.2.1)), (fx3 (Kd.own_blk (Kd.R_ne HO163.out BK160.out (by decide))) (hHeld.2.2.2.2.2.2.1)), (fx3 (Kd.own_blk (Kd.R_ne HO163.out BK160.out (by decide))) (hHeld.2.2.2.2.2.2.2))⟩ (fun hHeld => ?_)
   clear hK K
   refine done_ (done_of HT_.out (by kernel_rfl)) ?_
   try go_wp2
   refine bodyPost_ret (results_cell_row rfl _ _ gb160 28 #[.int .i64 t173, .int .i64 t174, .int .i64 t175] (0, 0) _ rfl (bq0 BK160) Try.underlying28 rfl (by kernel_rfl)) rfl ?_
   exact er (bbw3 HB GE158 GE159 GE160)
  ·rw [if_neg c6] at H
   exact absurd H (by simp)
 ·rw [if_neg c4] at H
  exact absurd H (by simp)

attribute [local go_sem high] eqA28
/-! ### spec_IsSuitable: function 42 -/
def spec_IsSuitable.f (k : Nat) (a0 : Int) (a1_0 : Int) (a1_1 : Int) (a1_2 : Int) (a2_0 : Int) (a2_1 : Int) (a2_2 : Int) (a2_3 : Int) (a2_4 : Int) (a2_5 : Int) : Option (Bool) := (spec_l04Code.f a0 a1_0 a1_1 a1_2).bind fun t178 => (if t178 = 0 then ((spec_IsPointMat.f a0 a2_0 a2_1 a2_2 a2_3).bind fun t179 => (if t179 = true then ((spec_l04Image.f k a2_0 a2_1 a2_2 a2_3 a1_0 a1_1 a1_2).bind fun bt180 => (if (bt180.1 == a1_0 && (bt180.2.1 == a1_1 && (bt180.2.2 == a1_2))) = true then ((spec_IsVec.f a2_4 a2_5).bind fun t183 => (some t183)) else (some false))) else (some false))) else (some false))
def spec_IsSuitable.T1 : Bool × List (List Nat × List Nat) := (true, [([], []), ([], []), ([0, 1], [0, 1]), ([2], [2]), ([3, 2], [3]), ([4], [4]), ([4], [4]), ([6, 4], [4, 6]), ([5, 7, 4, 4], [4, 5, 7]), ([4, 8], [4, 8]), ([9, 8], [9]), ([10], [10]), ([11, 10], [10, 11]), ([10], [10]), ([12, 13, 10, 10], [10, 12, 13]), ([10], [10]), ([14, 15, 10], [10, 14, 15]), ([10, 16], [10, 16]), ([17, 14], [17]), ([18], [18]), ([19, 18], [18, 19]), ([20, 18, 18], [18, 20]), ([18, 21], [18, 21]), ([22, 21, 0, 1, 2, 3, 4, 5, 6, 7, 8, 9, 10, 11, 12, 13, 14, 15, 16, 17, 18, 19, 20, 21, 22], [22])])
def spec_IsSuitable.B1 : List Nat := [0, 0, 3, 7, 15, 31, 31, 95, 255, 511, 1023, 2047, 4095, 2047, 16383, 2047, 65535, 131071, 262143, 524287, 1048575, 2097151, 4194303, 8388607]
theorem spec_IsSuitable.tab1 : rtab .any (opsOf Try.f42 1) = spec_IsSuitable.T1 := by kernel_rfl
theorem spec_IsSuitable.bits1 : waitsOk spec_IsSuitable.T1.2 spec_IsSuitable.B1 = true := by kernel_rfl
set_option maxHeartbeats 8000000 in
set_option maxRecDepth 100000 in
theorem spec_IsSuitable.calls (k : Nat) (a0 : Int) (a1_0 : Int) (a1_1 : Int) (a1_2 : Int) (a2_0 : Int) (a2_1 : Int) (a2_2 : Int) (a2_3 : Int) (a2_4 : Int) (a2_5 : Int) (r : Bool) (w : World) (h : spec_IsSuitable.f k a0 a1_0 a1_1 a1_2 a2_0 a2_1 a2_2 a2_3 a2_4 a2_5 = some r) :
  Calls Try.prog 42 #[.int .i64 a0, .agg #[.int .i64 a1_0, .int .i64 a1_1, .int .i64 a1_2], .agg #[.int .i64 a2_0, .int .i64 a2_1, .int .i64 a2_2, .int .i64 a2_3, .int .i64 a2_4, .int .i64 a2_5]] w fun e w' => e = .returned (.bool r) ∧ Below w.heap.size w w' := by
 have hu28 := Try.underlying28
 have hu44 := Try.underlying44
 have hu40 := Try.underlying40
 have hu42 := Try.underlying42
 have HB := asd (Below.refl w.heap.size w)
 have H : ((spec_l04Code.f a0 a1_0 a1_1 a1_2).bind fun t178 => (if t178 = 0 then ((spec_IsPointMat.f a0 a2_0 a2_1 a2_2 a2_3).bind fun t179 => (if t179 = true then ((spec_l04Image.f k a2_0 a2_1 a2_2 a2_3 a1_0 a1_1 a1_2).bind fun bt180 => (if (bt180.1 == a1_0 && (bt180.2.1 == a1_1 && (bt180.2.2 == a1_2))) = true then ((spec_IsVec.f a2_4 a2_5).bind fun t183 => (some t183)) else (some false))) else (some false))) else (some false))) = some r := h
 clear h
 obtain ⟨t178, A4, H⟩ := ob H
 try dsimp only at H
 by_cases c5 : t178 = 0
 rw [if_pos c5] at H
 have c5b0 : (t178 == 0) = true := beq_iff_eq.mpr c5
 have c5b1 : (t178 != 0) = false := bne_eq_false_iff_eq.mpr c5
 clear c5
 obtain ⟨t179, A6, H⟩ := ob H
 try dsimp only at H
 by_cases c7 : t179 = true
 subst c7
 replace H := ifT H
 obtain ⟨⟨t180, t181, t182⟩, A8, H⟩ := ob H
 try dsimp only at H
 by_cases c9 : (t180 == a1_0 && (t181 == a1_1 && (t182 == a1_2))) = true
 rw [if_pos c9] at H
 have c9b0 := c9
 (try (have c9b1 : decide (t180 = a1_0 && (t181 == a1_1 && (t182 == a1_2))) = true := by simpa using c9))
 (try (have c9b2 : (t180 == a1_0 && (t181 == a1_1 && (t182 == a1_2))) = true := by simpa using c9))
 clear c9
 obtain ⟨t183, A10, H⟩ := ob H
 try dsimp only at H
 obtain rfl := Option.some.inj H
 rotate_left
 rw [if_neg c9] at H
 have c9b0 : (t180 == a1_0 && (t181 == a1_1 && (t182 == a1_2))) = false := by simpa using c9
 (try (have c9b1 : decide (t180 = a1_0 && (t181 == a1_1 && (t182 == a1_2))) = false := by simpa using c9))
 (try (have c9b2 : (t180 == a1_0 && (t181 == a1_1 && (t182 == a1_2))) = false := by simpa using c9))
 (try (have c9b3 : ¬ (t180 = a1_0 && (t181 == a1_1 && (t182 == a1_2))) := by simpa using c9))
 clear c9
 obtain rfl := Option.some.inj H
 rotate_left
 replace c7 := Bool.eq_false_iff.mpr c7
 subst c7
 replace H := ifF H
 obtain rfl := Option.some.inj H
 rotate_left
 rw [if_neg c5] at H
 have c5b0 : (t178 == 0) = false := beq_eq_false_iff_ne.mpr c5
 have c5b1 : (t178 != 0) = true := bne_iff_ne.mpr c5
 obtain rfl := Option.some.inj H
 rotate_left
 all_goals
  go_enter Try.func42, Try.ntmps42
  try go_wp2_with (first | ((with_reducible refine gd 4 rfl ?_); refine bx #[.int .i64 a1_0, .int .i64 a1_1, .int .i64 a1_2] 28 ?_; intro gb176 hg w11 BK176 hb; have GE176 := ngw0 hg HB; replace HB := bS0 HB hb; clear hb hg) | ((with_reducible refine gd 5 rfl ?_); refine bx #[.int .i64 a2_0, .int .i64 a2_1, .int .i64 a2_2, .int .i64 a2_3, .int .i64 a2_4, .int .i64 a2_5] 44 ?_; intro gb177 hg w12 BK177 hb; have GE177 := ngw1 hg HB GE176; replace HB := bS1 HB GE176 hb; have NB176_177 := nlt hg BK176; have NB177_176 := nsy (nlt hg BK176); replace BK176 := bB BK176 hb; clear hb hg))
  replace BK176 := asd (blk_drew BK176.out)
  replace BK177 := asd (blk_drew BK177.out)
  replace HB := asd (below_drew1 HB.out)
 refine sh 24 (cb3 BK176 (eb6 BK177)) (fun hHeld => ?_); refine with_tabW spec_IsSuitable.tab1 spec_IsSuitable.bits1 (fun HT_ HW_ => ?_)
 rotate_left
 refine sh 24 (cb3 BK176 (eb6 BK177)) (fun hHeld => ?_); refine with_tabW spec_IsSuitable.tab1 spec_IsSuitable.bits1 (fun HT_ HW_ => ?_)
 rotate_left
 refine sh 24 (cb3 BK176 (eb6 BK177)) (fun hHeld => ?_); refine with_tabW spec_IsSuitable.tab1 spec_IsSuitable.bits1 (fun HT_ HW_ => ?_)
 rotate_left
 refine sh 24 (eb3 BK176) (fun hHeld => ?_); refine with_tabW spec_IsSuitable.tab1 spec_IsSuitable.bits1 (fun HT_ HW_ => ?_)
 rotate_left
 all_goals
  generalize w12.drew = w13 at BK176 BK177 HB hHeld ⊢
  refine pu 0 (some 7) (bT 24 1) HT_ ?_
  refine ta 1 (some 8) (bT 24 2) HT_ HW_ hHeld ?_
  refine ro 2 (some 9) (bT 24 3) HT_ (fun K hK => ?_)
  refine gs Try.func41 #[.int .i64 a0, .agg #[.int .i64 a1_0, .int .i64 a1_1, .int .i64 a1_2]] ?_
  with_reducible refine (spec_l04Code.calls _ _ _ _ _ _ A4.out).mono ?_
  rintro e w14 ⟨rfl, hb⟩
  refine ⟨_, rfl, ?_⟩
  replace BK176 := bB BK176 hb
  replace BK177 := bB BK177 hb
  replace HB := bS2 HB GE176 GE177 hb
  (try clear hb)
  (try clear hb2)
  (try clear hk)
  (try clear hi)
 rotate_left 3
 ·refine hK.out _ _ (eb3 BK176).out (fun hHeld => ?_)
  clear hK K
  refine norm_ (a' := ?_) ?_ ?_
  rotate_left
  ·show Act.put _ (some 9) _ = _
   simp only [Act.put, sA, sB, sC, i64_w, i32_w]
   rfl
  refine pu 3 (some 10) (bT 24 4) HT_ ?_
  refine pu 4 (some 11) (bT 24 5) HT_ ?_
  refine pf 5 (some 12) (bT 24 6) HT_ ?_
  refine pf 6 (some 13) (bT 24 7) HT_ ?_
  refine pf 7 (some 14) (bT 24 8) HT_ ?_
  refine pf 8 (some 15) (bT 24 9) HT_ ?_
  refine pu 9 (some 16) (bT 24 10) HT_ ?_
  refine pu 10 (some 17) (bT 24 11) HT_ ?_
  refine pf 11 (some 18) (bT 24 12) HT_ ?_
  refine pf 12 (some 19) (bT 24 13) HT_ ?_
  refine pf 13 (some 20) (bT 24 14) HT_ ?_
  refine pf 14 (some 21) (bT 24 15) HT_ ?_
  refine pf 15 (some 22) (bT 24 16) HT_ ?_
  refine pf 16 (some 23) (bT 24 17) HT_ ?_
  refine pu 17 (some 24) (bT 24 18) HT_ ?_
  refine pu 18 (some 25) (bT 24 19) HT_ ?_
  refine pf 19 (some 26) (bT 24 20) HT_ ?_
  refine pf 20 (some 27) (bT 24 21) HT_ ?_
  refine pf 21 (some 28) (bT 24 22) HT_ ?_
  refine pu 22 (some 29) (bT 24 23) HT_ ?_
  refine pu 23 (some 6) (bT 24 24) HT_ ?_
  refine done_ (done_of HT_.out (by kernel_rfl)) ?_
  try go_wp2
  go_ret
  exact er (bbw2 HB GE176 GE177)
 all_goals
  refine hK.out _ _ (cb3 BK176 (eb6 BK177)).out (fun hHeld => ?_)
  clear hK K
  refine norm_ (a' := ?_) ?_ ?_
  rotate_left
  ·show Act.put _ (some 9) _ = _
   simp only [Act.put, sA, sB, sC, i64_w, i32_w]
   rfl
  refine pu 3 (some 10) (bT 24 4) HT_ ?_
  refine pu 4 (some 11) (bT 24 5) HT_ ?_
  refine pu 5 (some 12) (bT 24 6) HT_ ?_
  refine pu 6 (some 13) (bT 24 7) HT_ ?_
  refine ta 7 (some 14) (bT 24 8) HT_ HW_ hHeld ?_
  refine ro 8 (some 15) (bT 24 9) HT_ (fun K hK => ?_)
  refine gs Try.func63 #[.int .i64 a0, .agg #[.int .i64 a2_0, .int .i64 a2_1, .int .i64 a2_2, .int .i64 a2_3]] ?_
  with_reducible refine (spec_IsPointMat.calls _ _ _ _ _ _ _ A6.out).mono ?_
  rintro e w15 ⟨rfl, hb⟩
  refine ⟨_, rfl, ?_⟩
  replace BK176 := bB BK176 hb
  replace BK177 := bB BK177 hb
  replace HB := bS2 HB GE176 GE177 hb
  (try clear hb)
  (try clear hb2)
  (try clear hk)
  (try clear hi)
  refine hK.out _ _ (cb3 BK176 (eb6 BK177)).out (fun hHeld => ?_)
  clear hK K
  refine norm_ (a' := ?_) ?_ ?_
  rotate_left
  ·show Act.put _ (some 15) _ = _
   simp only [Act.put, sA, sB, sC, i64_w, i32_w]
   rfl
  refine pu 9 (some 16) (bT 24 10) HT_ ?_
  refine pu 10 (some 17) (bT 24 11) HT_ ?_
 rotate_left 2
 ·refine pf 11 (some 18) (bT 24 12) HT_ ?_
  refine pf 12 (some 19) (bT 24 13) HT_ ?_
  refine pf 13 (some 20) (bT 24 14) HT_ ?_
  refine pf 14 (some 21) (bT 24 15) HT_ ?_
  refine pf 15 (some 22) (bT 24 16) HT_ ?_
  refine pf 16 (some 23) (bT 24 17) HT_ ?_
  refine pu 17 (some 24) (bT 24 18) HT_ ?_
  refine pu 18 (some 25) (bT 24 19) HT_ ?_
  refine pf 19 (some 26) (bT 24 20) HT_ ?_
  refine pf 20 (some 27) (bT 24 21) HT_ ?_
  refine pf 21 (some 28) (bT 24 22) HT_ ?_
  refine pu 22 (some 29) (bT 24 23) HT_ ?_
  refine pu 23 (some 6) (bT 24 24) HT_ ?_
  refine done_ (done_of HT_.out (by kernel_rfl)) ?_
  try go_wp2
  go_ret
  exact er (bbw2 HB GE176 GE177)
 all_goals
  refine pu 11 (some 18) (bT 24 12) HT_ ?_
  refine ta 12 (some 19) (bT 24 13) HT_ HW_ hHeld ?_
  refine ta 13 (some 20) (bT 24 14) HT_ HW_ hHeld ?_
  refine ta 15 (some 22) (bs 24 49151) HT_ HW_ hHeld ?_
  refine ro 14 (some 21) (bT 24 16) HT_ (fun K hK => ?_)
  refine gs Try.func64 #[.agg #[.int .i64 a2_0, .int .i64 a2_1, .int .i64 a2_2, .int .i64 a2_3], .agg #[.int .i64 a1_0, .int .i64 a1_1, .int .i64 a1_2]] ?_
  with_reducible refine (spec_l04Image.calls _ _ _ _ _ _ _ _ _ _ _ _ A8.out).mono ?_
  rintro e w16 ⟨rfl, hb⟩
  refine ⟨_, rfl, ?_⟩
  replace BK176 := bB BK176 hb
  replace BK177 := bB BK177 hb
  replace HB := bS2 HB GE176 GE177 hb
  (try clear hb)
  (try clear hb2)
  (try clear hk)
  (try clear hi)
  refine hK.out _ _ (cb3 BK176 (eb6 BK177)).out (fun hHeld => ?_)
  clear hK K
  refine norm_ (a' := ?_) ?_ ?_
  rotate_left
  ·show Act.put _ (some 21) _ = _
   simp only [Act.put, sA, sB, sC, i64_w, i32_w]
   rfl
  refine pu 16 (some 23) (bT 24 17) HT_ ?_
  refine pu 17 (some 24) (bT 24 18) HT_ ?_
  refine pu 18 (some 25) (bT 24 19) HT_ ?_
 focus
  refine pu 19 (some 26) (bT 24 20) HT_ ?_
  refine ta 20 (some 27) (bT 24 21) HT_ HW_ hHeld ?_
  refine ro 21 (some 28) (bT 24 22) HT_ (fun K hK => ?_)
  refine gs Try.func65 #[.agg #[.int .i64 a2_4, .int .i64 a2_5]] ?_
  with_reducible refine (spec_IsVec.calls _ _ _ _ A10.out).mono ?_
  rintro e w17 ⟨rfl, hb⟩
  refine ⟨_, rfl, ?_⟩
  replace BK176 := bB BK176 hb
  replace BK177 := bB BK177 hb
  replace HB := bS2 HB GE176 GE177 hb
  (try clear hb)
  (try clear hb2)
  (try clear hk)
  (try clear hi)
  refine hK.out _ _ (cb3 BK176 (eb6 BK177)).out (fun hHeld => ?_)
  clear hK K
  refine norm_ (a' := ?_) ?_ ?_
  rotate_left
  ·show Act.put _ (some 28) _ = _
   simp only [Act.put, sA, sB, sC, i64_w, i32_w]
   rfl
  refine pu 22 (some 29) (bT 24 23) HT_ ?_
 rotate_left
 refine pf 19 (some 26) (bT 24 20) HT_ ?_
 refine pf 20 (some 27) (bT 24 21) HT_ ?_
 refine pf 21 (some 28) (bT 24 22) HT_ ?_
 refine pu 22 (some 29) (bT 24 23) HT_ ?_
 rotate_left
 all_goals
  refine pu 23 (some 6) (bT 24 24) HT_ ?_
  refine done_ (done_of HT_.out (by kernel_rfl)) ?_
  try go_wp2
  go_ret
  exact er (bbw2 HB GE176 GE177)

attribute [local go_sem high] eqA40
/-! ### spec_l03Reduce: function 66 -/
def spec_l03Reduce.f (a0_0 : Int) (a0_1 : Int) (a0_2 : Int) (a1_0 : Int) (a1_1 : Int) : Option (Int × Int) := (spec_l01Mod.f a1_1 a0_2).bind fun t187 => (if a0_2 = 0 then (none) else ((spec_l01Mod.f (wrap64 (a1_0 - (wrap64 ((wrap64 (Int.tdiv (wrap64 (a1_1 - t187)) a0_2)) * a0_1)))) a0_0).bind fun t188 => (some (t188, t187))))
set_option maxHeartbeats 8000000 in
set_option maxRecDepth 100000 in
theorem spec_l03Reduce.calls (a0_0 : Int) (a0_1 : Int) (a0_2 : Int) (a1_0 : Int) (a1_1 : Int) (r1 : Int) (r2 : Int) (w : World) (h : spec_l03Reduce.f a0_0 a0_1 a0_2 a1_0 a1_1 = some (r1, r2)) :
  Calls Try.prog 66 #[.agg #[.int .i64 a0_0, .int .i64 a0_1, .int .i64 a0_2], .agg #[.int .i64 a1_0, .int .i64 a1_1]] w fun e w' => e = .returned (.agg #[.int .i64 r1, .int .i64 r2]) ∧ Below w.heap.size w w' := by
 have hu28 := Try.underlying28
 have hu42 := Try.underlying42
 have HB := asd (Below.refl w.heap.size w)
 have H : ((spec_l01Mod.f a1_1 a0_2).bind fun t187 => (if a0_2 = 0 then (none) else ((spec_l01Mod.f (wrap64 (a1_0 - (wrap64 ((wrap64 (Int.tdiv (wrap64 (a1_1 - t187)) a0_2)) * a0_1)))) a0_0).bind fun t188 => (some (t188, t187))))) = some (r1, r2) := h
 clear h
 obtain ⟨t187, A3, H⟩ := ob H
 try dsimp only at H
 by_cases c4 : a0_2 = 0
 ·rw [if_pos c4] at H
  exact absurd H (by simp)
 ·rw [if_neg c4] at H
  have c4b0 : (a0_2 == 0) = false := beq_eq_false_iff_ne.mpr c4
  have c4b1 : (a0_2 != 0) = true := bne_iff_ne.mpr c4
  obtain ⟨t188, A5, H⟩ := ob H
  try dsimp only at H
  simp only [Option.some.injEq, Prod.mk.injEq] at H
  obtain ⟨rfl, rfl⟩ := H
  go_enter Try.func66, Try.ntmps66
  go_wp2_with (first | ((with_reducible refine gd 2 rfl ?_); refine bx #[.int .i64 a0_0, .int .i64 a0_1, .int .i64 a0_2] 28 ?_; intro gb184 hg w6 BK184 hb; have GE184 := ngw0 hg HB; replace HB := bS0 HB hb; clear hb hg) | ((with_reducible refine gd 3 rfl ?_); refine bx #[.int .i64 a1_0, .int .i64 a1_1] 42 ?_; intro gb185 hg w7 BK185 hb; have GE185 := ngw1 hg HB GE184; replace HB := bS1 HB GE184 hb; have NB184_185 := nlt hg BK184; have NB185_184 := nsy (nlt hg BK184); replace BK184 := bB BK184 hb; clear hb hg) | ((with_reducible refine gd 4 rfl ?_); refine bx #[.int .i64 0, .int .i64 0] 42 ?_; intro gb186 hg w8 BK186 hb; have GE186 := ngw2 hg HB GE184 GE185; replace HB := bS2 HB GE184 GE185 hb; have NB184_186 := nlt hg BK184; have NB186_184 := nsy (nlt hg BK184); replace BK184 := bB BK184 hb; have NB185_186 := nlt hg BK185; have NB186_185 := nsy (nlt hg BK185); replace BK185 := bB BK185 hb; clear hb hg; have hnb9 := NB185_184.out; have hnc9 := NB184_185.out; have hnb10 := NB185_186.out; have hnc10 := NB186_185.out; obtain ⟨hcz11_0, hcz11_1, hfz11_0, hfz11_1⟩ := bz2 BK185; have hnb12 := NB184_186.out; have hnc12 := NB186_184.out; obtain ⟨hcz13_0, hcz13_1, hcz13_2, hfz13_0, hfz13_1, hfz13_2⟩ := bz3 BK184) | ((with_reducible refine gate_callee (f := 53) rfl ?_); refine gl 11 Try.func53 #[.int .i64 a1_1, .int .i64 a0_2] ?_; (with_reducible refine (spec_l01Mod.calls _ _ _ _ A3.out).mono ?_); rintro e w' ⟨rfl, ⟨nd, rfl⟩⟩; refine ⟨_, rfl, ?_⟩; (try (rw [drewN_self w8]; generalize hq_ : World.drewN w8 _ = w8; have n0_ : Aside0 (w8.heap[gb184]? = some (.cells #[.int .i64 a0_0, .int .i64 a0_1, .int .i64 a0_2] 28 (0, 0))) := ⟨by rw [← hq_]; exact (bkp BK184)⟩; have n1_ : Aside0 (w8.heap[gb185]? = some (.cells #[.int .i64 a1_0, .int .i64 a1_1] 42 (0, 0))) := ⟨by rw [← hq_]; exact (bkp BK185)⟩; have n2_ : Aside0 (w8.heap[gb186]? = some (.cells #[.int .i64 0, .int .i64 0] 42 (0, 0))) := ⟨by rw [← hq_]; exact (bkp BK186)⟩; have n3_ : Aside0 (Below w.heap.size w w8) := ⟨by rw [← hq_]; exact (bbw3 HB GE184 GE185 GE186)⟩; clear BK184 BK185 BK186 HB hq_; have BK184 := n0_; have BK185 := n1_; have BK186 := n2_; have HB := n3_; clear n0_ n1_ n2_ n3_)); have hcz14_0 : w8.cell? ⟨gb185, 0, none⟩ = some (.int .i64 a1_0) := bcl BK185 0; have hcz14_1 : w8.cell? ⟨gb185, 1, none⟩ = some (.int .i64 a1_1) := bcl BK185 1; have hfz14_0 := blk_frozen BK185.out 0; have hfz14_1 := blk_frozen BK185.out 1; have hcz15_0 : w8.cell? ⟨gb184, 0, none⟩ = some (.int .i64 a0_0) := bcl BK184 0; have hcz15_1 : w8.cell? ⟨gb184, 1, none⟩ = some (.int .i64 a0_1) := bcl BK184 1; have hcz15_2 : w8.cell? ⟨gb184, 2, none⟩ = some (.int .i64 a0_2) := bcl BK184 2; have hfz15_0 := blk_frozen BK184.out 0; have hfz15_1 := blk_frozen BK184.out 1; have hfz15_2 := blk_frozen BK184.out 2) | ((with_reducible refine gate_callee (f := 53) rfl ?_); refine gl 28 Try.func53 #[.int .i64 (wrap64 (a1_0 - (wrap64 ((wrap64 (Int.tdiv (wrap64 (a1_1 - t187)) a0_2)) * a0_1)))), .int .i64 a0_0] ?_; (with_reducible refine (spec_l01Mod.calls _ _ _ _ A5.out).mono ?_); rintro e w' ⟨rfl, ⟨nd, rfl⟩⟩; refine ⟨_, rfl, ?_⟩; (try (rw [drewN_self w8]; generalize hq_ : World.drewN w8 _ = w8; have n0_ : Aside0 (w8.heap[gb184]? = some (.cells #[.int .i64 a0_0, .int .i64 a0_1, .int .i64 a0_2] 28 (0, 0))) := ⟨by rw [← hq_]; exact (bkp BK184)⟩; have n1_ : Aside0 (w8.heap[gb185]? = some (.cells #[.int .i64 a1_0, .int .i64 a1_1] 42 (0, 0))) := ⟨by rw [← hq_]; exact (bkp BK185)⟩; have n2_ : Aside0 (w8.heap[gb186]? = some (.cells #[.int .i64 0, .int .i64 0] 42 (0, 0))) := ⟨by rw [← hq_]; exact (bkp BK186)⟩; have n3_ : Aside0 (Below w.heap.size w w8) := ⟨by rw [← hq_]; exact (bbw3 HB GE184 GE185 GE186)⟩; clear BK184 BK185 BK186 HB hq_; have BK184 := n0_; have BK185 := n1_; have BK186 := n2_; have HB := n3_; clear n0_ n1_ n2_ n3_)); have hcz16_0 : w8.cell? ⟨gb186, 0, none⟩ = some (.int .i64 0) := bcl BK186 0; have hcz16_1 : w8.cell? ⟨gb186, 1, none⟩ = some (.int .i64 0) := bcl BK186 1; have hfz16_0 := blk_frozen BK186.out 0; have hfz16_1 := blk_frozen BK186.out 1))
  refine bodyPost_ret (results_cell_row rfl _ _ gb186 42 #[.int .i64 t188, .int .i64 t187] (0, 0) _ rfl (bq0 BK186) Try.underlying42 rfl (by kernel_rfl)) rfl ?_
  exact er (bbw3 HB GE184 GE185 GE186)

end Go.Proofs.Ytfmjboloeabjmaa.PA
