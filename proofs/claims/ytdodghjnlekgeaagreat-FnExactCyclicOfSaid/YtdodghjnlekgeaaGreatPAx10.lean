import Derived.Test.YtdodghjnlekgeaaGreatPAx0
import Derived.Test.YtdodghjnlekgeaaGreatPAx1
import Derived.Test.YtdodghjnlekgeaaGreatPAx6
import Derived.Test.YtdodghjnlekgeaaGreatPAx7
import Derived.Test.YtdodghjnlekgeaaGreatPAx9
namespace Go.Proofs.YtdodghjnlekgeaaGreat.PA
open Go.RowKit Go.Proofs.YtdodghjnlekgeaaGreatW.PrintWords Go.Proofs.YtdodghjnlekgeaaGreatW.PrintLast Go.Proofs.YtdodghjnlekgeaaGreatW.PrintMore
attribute [local go_sem] max2_int min2_int max_two min_two max_three min_three max_four min_four   -- for this text's walks alone
set_option linter.unusedVariables false
set_option maxHeartbeats 8000000
set_option maxRecDepth 100000
set_option linter.unusedSimpArgs false
mutual
def spec_l03Hermite.l0 : Nat → List (S38) → Int → Int → Int → Int → Option (Int × Int × Int)
 | 0, _, _, _, _, _ => none
 | k + 1, x0, x4, x5, x301000, x301001 => if x5 < (x0.length : Int) then (if 0 ≤ x5 then (spec_l03Hermite.l1 k x0 x4 x5 x301000 x301001 ((rd_T38 x0 x5).f0) ((rd_T38 x0 x5).f1)) else (none)) else (if x301001 < 0 then ((spec_l01Scale.f x301000 x301001 (-1)).bind fun bt306 => (if x4 > 0 then ((spec_l01Mod.f bt306.1 x4).bind fun t308 => (some (x4, t308, bt306.2))) else (some (x4, bt306.1, bt306.2)))) else (if x4 > 0 then ((spec_l01Mod.f x301000 x4).bind fun t309 => (some (x4, t309, x301001))) else (some (x4, x301000, x301001))))
def spec_l03Hermite.l1 : Nat → List (S38) → Int → Int → Int → Int → Int → Int → Option (Int × Int × Int)
 | 0, _, _, _, _, _, _, _ => none
 | k + 1, x0, x4, x5, x301000, x301001, x303000, x303001 => if x303001 = 0 then ((spec_l01Divisor.f k x4 x303000).bind fun t304 => (if t304 > 0 then ((spec_l01Mod.f x301000 t304).bind fun t305 => (spec_l03Hermite.l0 k x0 t304 (wrap64 (x5 + 1)) t305 x301001)) else (spec_l03Hermite.l0 k x0 t304 (wrap64 (x5 + 1)) x301000 x301001))) else (spec_l03Hermite.l1 k x0 x4 x5 x303000 x303001 (wrap64 (x301000 - (wrap64 ((wrap64 (Int.tdiv x301001 x303001)) * x303000)))) (wrap64 (x301001 - (wrap64 ((wrap64 (Int.tdiv x301001 x303001)) * x303001)))))
end
def spec_l03Hermite.f (k : Nat) (l0 : List (S38)) : Option (Int × Int × Int) := spec_l03Hermite.l0 k l0 0 0 0 0
theorem spec_l03Hermite.calls (k : Nat) (A0 : Option Addr) (c0 : Nat) (l0 : List (S38)) (r1 : Int) (r2 : Int) (r3 : Int) (w : World) (hr0 : Kd.C k38 w A0 l0.length l0) (hc0 : l0.length ≤ c0) (h : spec_l03Hermite.f k l0 = some (r1, r2, r3)) :
  Calls Tryz.prog 95 #[.slice A0 l0.length c0] w fun e w' => e = .returned (.agg #[.int .i64 r1, .int .i64 r2, .int .i64 r3]) ∧ Below w.heap.size w w' := by
 have hu29 := Tryz.underlying29
 have hu38 := Tryz.underlying38
 have HR0 := Aside0.mk hr0
 have HC0 := Aside0.mk hc0
 clear hr0 hc0
 have HB := asd (Below.refl w.heap.size w)
 have H : (spec_l03Hermite.l0 k l0 0 0 0 0) = some (r1, r2, r3) := h
 clear h
 have H' := Aside0.mk H
 clear H
 go_enter Tryz.func95, Tryz.ntmps95
 go_wp2_with (first | ((with_reducible refine gd 2 rfl ?_); refine bx #[.int .i64 0, .int .i64 0, .int .i64 0] 29 ?_; intro gb299 hg w2 BK299 hb; have GE299 := ngw0 hg HB; replace HB := bS0 HB hb; clear hb hg) | ((with_reducible refine gd 3 rfl ?_); refine bx #[.int .i64 0, .int .i64 0] 38 ?_; intro gb300 hg w3 BK300 hb; have GE300 := ngw1 hg HB GE299; replace HB := bS1 HB GE299 hb; have NB299_300 := nlt hg BK299; have NB300_299 := nsy (nlt hg BK299); replace BK299 := bB BK299 hb; clear hb hg; have hnb4 := NB300_299.out; have hnc4 := NB299_300.out; obtain ⟨hcz5_0, hcz5_1, hfz5_0, hfz5_1⟩ := bz2 BK300))
 go_loopg [4, 5] k (fun kq v4 v5 w' => ∃ (x4_1 : Int) (x5_1 : Int) (x301000_1 : Int) (x301001_1 : Int), v4 = .int .i64 x4_1 ∧ v5 = .int .i64 x5_1 ∧ Aside0 (spec_l03Hermite.l0 kq l0 x4_1 x5_1 x301000_1 x301001_1 = some (r1, r2, r3)) ∧ Aside0 (kq ≤ k) ∧ Aside0 (w'.heap[gb299]? = some (.cells #[.int .i64 0, .int .i64 0, .int .i64 0] 29 (0, 0))) ∧ Aside0 (w'.heap[gb300]? = some (.cells #[.int .i64 x301000_1, .int .i64 x301001_1] 38 (0, 0))) ∧ Aside0 (Below w.heap.size w w'))
 case atStart => exact ⟨(0), (0), (0), (0), (by first | rfl | (simp; done) | (simp [*]; done)), (by first | rfl | (simp; done) | (simp [*]; done)), H', ⟨Nat.le_refl _⟩, ⟨bq1 BK299 NB299_300⟩, ⟨bq0 BK300⟩, ⟨bbw2 HB GE299 GE300⟩⟩
 case round =>
  clear H'
  try clear p2
  try clear c4
  try clear hcz5_0
  try clear hcz5_1
  try clear hfz5_0
  try clear hfz5_1
  obtain ⟨x4_1, x5_1, x301000_1, x301001_1, rfl, rfl, HA, HK1, BK299, BK300, HB⟩ := hrel
  cases gk with
  | zero => exact absurd HA.out (by simp [spec_l03Hermite.l0])
  | succ k1 =>
   have H := HA.out
   clear HA
   simp only [spec_l03Hermite.l0] at H
   by_cases c6 : x5_1 < (l0.length : Int)
   ·rw [if_pos c6] at H
    have c6b0 := decide_eq_true c6
    clear c6
    by_cases c7 : 0 ≤ x5_1
    ·rw [if_pos c7] at H
     have c7b0 := decide_eq_true c7
     clear c7
     have H' := Aside0.mk H
     clear H
     obtain ⟨p301, q301, ad301, e301, hx301_0, hx301_1⟩ := at_T38x HR0.out HB x5_1
     cases e301
     go_wp2_with (first | ((with_reducible refine gd 6 rfl ?_); refine bx #[.int .i64 0, .int .i64 0] 38 ?_; intro gb302 hg w8 BK302 hb; have GE302 := ngw2 hg HB GE299 GE300; replace HB := bS2 HB GE299 GE300 hb; have NB299_302 := nlt hg BK299; have NB302_299 := nsy (nlt hg BK299); replace BK299 := bB BK299 hb; have NB300_302 := nlt hg BK300; have NB302_300 := nsy (nlt hg BK300); replace BK300 := bB BK300 hb; clear hb hg; have hnb9 := NB302_299.out; have hnc9 := NB299_302.out; have hnb10 := NB302_300.out; have hnc10 := NB300_302.out; obtain ⟨hcz11_0, hcz11_1, hfz11_0, hfz11_1⟩ := bz2 BK302))
     go_loopg [] k1 (fun kq w' => ∃ (x301000_2 : Int) (x301001_2 : Int) (x303000_2 : Int) (x303001_2 : Int), Aside0 (spec_l03Hermite.l1 kq l0 x4_1 x5_1 x301000_2 x301001_2 x303000_2 x303001_2 = some (r1, r2, r3)) ∧ Aside0 (kq ≤ k1) ∧ Aside0 (w'.heap[gb299]? = some (.cells #[.int .i64 0, .int .i64 0, .int .i64 0] 29 (0, 0))) ∧ Aside0 (w'.heap[gb300]? = some (.cells #[.int .i64 x301000_2, .int .i64 x301001_2] 38 (0, 0))) ∧ Aside0 (w'.heap[gb302]? = some (.cells #[.int .i64 x303000_2, .int .i64 x303001_2] 38 (0, 0))) ∧ Aside0 (Below w.heap.size w w'))
     case atStart => exact ⟨(x301000_1), (x301001_1), ((rd_T38 l0 x5_1).f0), ((rd_T38 l0 x5_1).f1), H', ⟨Nat.le_refl _⟩, ⟨bq1 BK299 NB299_302⟩, ⟨bq1 BK300 NB300_302⟩, ⟨bq0 BK302⟩, ⟨bbw3 HB GE299 GE300 GE302⟩⟩
     case round =>
      clear H'
      try clear c1
      try clear p2
      try clear p3
      try clear q3
      try clear hx3
      try clear c4
      try clear c6
      try clear c6b0
      try clear c7
      try clear c7b0
      try clear c9
      try clear c10
      try clear hcz11_0
      try clear hcz11_1
      try clear hcz5_0
      try clear hcz5_1
      try clear hfz11_0
      try clear hfz11_1
      try clear hfz5_0
      try clear hfz5_1
      try clear hx301_0
      try clear hx301_1
      try clear p2
      try clear p301
      try clear q301
      obtain ⟨x301000_2, x301001_2, x303000_2, x303001_2, HA, HK2, BK299, BK300, BK302, HB⟩ := hrel
      cases gk with
      | zero => exact absurd HA.out (by simp [spec_l03Hermite.l1])
      | succ k2 =>
       have H := HA.out
       clear HA
       simp only [spec_l03Hermite.l1] at H
       by_cases c12 : x303001_2 = 0
       ·rw [if_pos c12] at H
        have c12b0 : (x303001_2 == 0) = true := beq_iff_eq.mpr c12
        have c12b1 : (x303001_2 != 0) = false := bne_eq_false_iff_eq.mpr c12
        clear c12
        obtain ⟨t304, A13, H⟩ := ob H
        try dsimp only at H
        by_cases c14 : t304 > 0
        ·rw [if_pos c14] at H
         have c14b0 : decide (0 < t304) = true := decide_eq_true c14
         clear c14
         obtain ⟨t305, A15, H⟩ := ob H
         try dsimp only at H
         have H' := Aside0.mk H
         clear H
         have hnb16 := NB302_299.out
         have hnc16 := NB299_302.out
         have hnb17 := NB302_300.out
         have hnc17 := NB300_302.out
         obtain ⟨hcz18_0, hcz18_1, hfz18_0, hfz18_1⟩ := bz2 BK302
         go_wp2_with (first | ((with_reducible refine gate_callee (f := 119) rfl ?_); refine gl 48 Tryz.func119 #[.int .i64 x4_1, .int .i64 x303000_2] ?_; (with_reducible refine (spec_l01Divisor.calls _ _ _ _ _ A13.out).mono ?_); rintro e w19 ⟨rfl, hb⟩; refine ⟨_, rfl, ?_⟩; replace BK299 := bB BK299 hb; replace BK300 := bB BK300 hb; replace BK302 := bB BK302 hb; replace HB := bS3 HB GE299 GE300 GE302 hb; (try clear hb); have hnb20 := NB300_299.out; have hnc20 := NB299_300.out; obtain ⟨hcz21_0, hcz21_1, hfz21_0, hfz21_1⟩ := bz2 BK300) | ((with_reducible refine gate_callee (f := 96) rfl ?_); refine gl 54 Tryz.func96 #[.int .i64 x301000_2, .int .i64 t304] ?_; (with_reducible refine (spec_l01Mod.calls _ _ _ _ A15.out).mono ?_); rintro e w' ⟨rfl, ⟨nd, rfl⟩⟩; refine ⟨_, rfl, ?_⟩; (try (rw [drewN_self w19]; generalize hq_ : World.drewN w19 _ = w19; have n0_ : Aside0 (w19.heap[gb299]? = some (.cells #[.int .i64 0, .int .i64 0, .int .i64 0] 29 (0, 0))) := ⟨by rw [← hq_]; exact (bkp BK299)⟩; have n1_ : Aside0 (w19.heap[gb300]? = some (.cells #[.int .i64 x301000_2, .int .i64 x301001_2] 38 (0, 0))) := ⟨by rw [← hq_]; exact (bkp BK300)⟩; have n2_ : Aside0 (w19.heap[gb302]? = some (.cells #[.int .i64 x303000_2, .int .i64 x303001_2] 38 (0, 0))) := ⟨by rw [← hq_]; exact (bkp BK302)⟩; have n3_ : Aside0 (Below w.heap.size w w19) := ⟨by rw [← hq_]; exact (bbw3 HB GE299 GE300 GE302)⟩; clear BK299 BK300 BK302 HB hq_; have BK299 := n0_; have BK300 := n1_; have BK302 := n2_; have HB := n3_; clear n0_ n1_ n2_ n3_)); have hcz22_0 : w19.cell? ⟨gb300, 0, none⟩ = some (.int .i64 x301000_2) := bcl BK300 0; have hcz22_1 : w19.cell? ⟨gb300, 1, none⟩ = some (.int .i64 x301001_2) := bcl BK300 1; have hfz22_0 := blk_frozen BK300.out 0; have hfz22_1 := blk_frozen BK300.out 1))
         go_roundg k2
         case measure => have := HK1.out; have := HK2.out; omega
         case rel => exact ⟨(t304), (wrap64 (x5_1 + 1)), (t305), (x301001_2), (by first | rfl | (simp; done) | (simp [*]; done)), (by first | rfl | (simp; done) | (simp [*]; done)), H', ⟨by have := HK1.out; have := HK2.out; omega⟩, ⟨bq1 BK299 NB299_300⟩, ⟨bq0 BK300⟩, ⟨bbw3 HB GE299 GE300 GE302⟩⟩
        ·rw [if_neg c14] at H
         have c14b0 : decide (0 < t304) = false := decide_eq_false c14
         clear c14
         have H' := Aside0.mk H
         clear H
         have hnb23 := NB302_299.out
         have hnc23 := NB299_302.out
         have hnb24 := NB302_300.out
         have hnc24 := NB300_302.out
         obtain ⟨hcz25_0, hcz25_1, hfz25_0, hfz25_1⟩ := bz2 BK302
         go_wp2_with (first | ((with_reducible refine gate_callee (f := 119) rfl ?_); refine gl 48 Tryz.func119 #[.int .i64 x4_1, .int .i64 x303000_2] ?_; (with_reducible refine (spec_l01Divisor.calls _ _ _ _ _ A13.out).mono ?_); rintro e w26 ⟨rfl, hb⟩; refine ⟨_, rfl, ?_⟩; replace BK299 := bB BK299 hb; replace BK300 := bB BK300 hb; replace BK302 := bB BK302 hb; replace HB := bS3 HB GE299 GE300 GE302 hb; (try clear hb)))
         go_roundg k2
         case measure => have := HK1.out; have := HK2.out; omega
         case rel => exact ⟨(t304), (wrap64 (x5_1 + 1)), (x301000_2), (x301001_2), (by first | rfl | (simp; done) | (simp [*]; done)), (by first | rfl | (simp; done) | (simp [*]; done)), H', ⟨by have := HK1.out; have := HK2.out; omega⟩, ⟨bkp BK299⟩, ⟨bkp BK300⟩, ⟨bbw3 HB GE299 GE300 GE302⟩⟩
       ·rw [if_neg c12] at H
        have c12b0 : (x303001_2 == 0) = false := beq_eq_false_iff_ne.mpr c12
        have c12b1 : (x303001_2 != 0) = true := bne_iff_ne.mpr c12
        have H' := Aside0.mk H
        clear H
        have hnb27 := NB302_299.out
        have hnc27 := NB299_302.out
        have hnb28 := NB302_300.out
        have hnc28 := NB300_302.out
        obtain ⟨hcz29_0, hcz29_1, hfz29_0, hfz29_1⟩ := bz2 BK302
        have hnb30 := NB300_299.out
        have hnc30 := NB299_300.out
        obtain ⟨hcz31_0, hcz31_1, hfz31_0, hfz31_1⟩ := bz2 BK300
        go_wp2_with (first | ((with_reducible refine gd 8 rfl ?_); refine bx #[.int .i64 0, .int .i64 0] 38 ?_; intro gb303 hg w32 BK303 hb; have GE303 := ngw3 hg HB GE299 GE300 GE302; replace HB := bS3 HB GE299 GE300 GE302 hb; have NB299_303 := nlt hg BK299; have NB303_299 := nsy (nlt hg BK299); replace BK299 := bB BK299 hb; have NB300_303 := nlt hg BK300; have NB303_300 := nsy (nlt hg BK300); replace BK300 := bB BK300 hb; have NB302_303 := nlt hg BK302; have NB303_302 := nsy (nlt hg BK302); replace BK302 := bB BK302 hb; clear hb hg; have hnb33 := NB303_299.out; have hnc33 := NB299_303.out; have hnb34 := NB303_300.out; have hnc34 := NB300_303.out; have hnb35 := NB303_302.out; have hnc35 := NB302_303.out; obtain ⟨hcz36_0, hcz36_1, hfz36_0, hfz36_1⟩ := bz2 BK303; obtain ⟨hcz37_0, hcz37_1, hfz37_0, hfz37_1⟩ := bz2 BK302; obtain ⟨hcz38_0, hcz38_1, hfz38_0, hfz38_1⟩ := bz2 BK300))
        go_roundg k2
        case measure => have := HK1.out; have := HK2.out; omega
        case rel => exact ⟨(x303000_2), (x303001_2), (wrap64 (x301000_2 - (wrap64 ((wrap64 (Int.tdiv x301001_2 x303001_2)) * x303000_2)))), (wrap64 (x301001_2 - (wrap64 ((wrap64 (Int.tdiv x301001_2 x303001_2)) * x303001_2)))), H', ⟨by have := HK1.out; have := HK2.out; omega⟩, ⟨bq3 BK299 NB299_302 NB299_300 NB299_303⟩, ⟨bq2 BK300 NB300_302 NB300_303⟩, ⟨bq2 BK302 NB302_300 NB302_303⟩, ⟨bbw4 HB GE299 GE300 GE302 GE303⟩⟩
    ·rw [if_neg c7] at H
     exact absurd H (by simp)
   ·rw [if_neg c6] at H
    have c6b0 := decide_eq_false c6
    clear c6
    by_cases c39 : x301001_1 < 0
    ·rw [if_pos c39] at H
     have c39b0 := decide_eq_true c39
     clear c39
     obtain ⟨⟨t306, t307⟩, A40, H⟩ := ob H
     try dsimp only at H
     by_cases c41 : x4_1 > 0
     ·rw [if_pos c41] at H
      have c41b0 : decide (0 < x4_1) = true := decide_eq_true c41
      clear c41
      obtain ⟨t308, A42, H⟩ := ob H
      try dsimp only at H
      simp only [Option.some.injEq, Prod.mk.injEq] at H
      obtain ⟨rfl, rfl, rfl⟩ := H
      have hnb43 := NB300_299.out
      have hnc43 := NB299_300.out
      obtain ⟨hcz44_0, hcz44_1, hfz44_0, hfz44_1⟩ := bz2 BK300
      go_wp2_with (first | ((with_reducible refine gate_callee (f := 42) rfl ?_); refine gl 60 Tryz.func42 #[.agg #[.int .i64 x301000_1, .int .i64 x301001_1], .int .i64 (-1)] ?_; (with_reducible refine (spec_l01Scale.calls _ _ _ _ _ _ A40.out).mono ?_); rintro e w45 ⟨rfl, hb⟩; refine ⟨_, rfl, ?_⟩; replace BK299 := bB BK299 hb; replace BK300 := bB BK300 hb; replace HB := bS2 HB GE299 GE300 hb; (try clear hb); obtain ⟨hcz46_0, hcz46_1, hfz46_0, hfz46_1⟩ := bz2 BK300) | ((with_reducible refine gate_callee (f := 96) rfl ?_); refine gl 66 Tryz.func96 #[.int .i64 t306, .int .i64 x4_1] ?_; (with_reducible refine (spec_l01Mod.calls _ _ _ _ A42.out).mono ?_); rintro e w' ⟨rfl, ⟨nd, rfl⟩⟩; refine ⟨_, rfl, ?_⟩; have hcz47_0 : w45.cell? ⟨gb299, 0, none⟩ = some (.int .i64 0) := bcl BK299 0; have hcz47_1 : w45.cell? ⟨gb299, 1, none⟩ = some (.int .i64 0) := bcl BK299 1; have hcz47_2 : w45.cell? ⟨gb299, 2, none⟩ = some (.int .i64 0) := bcl BK299 2; have hfz47_0 := blk_frozen BK299.out 0; have hfz47_1 := blk_frozen BK299.out 1; have hfz47_2 := blk_frozen BK299.out 2))
      refine bodyPost_ret (results_cell_row rfl _ _ gb299 29 #[.int .i64 x4_1, .int .i64 t308, .int .i64 t307] (0, 0) _ rfl (bq1 BK299 NB299_300) Tryz.underlying29 rfl (by kernel_rfl)) rfl ?_
      exact er (bbw2 HB GE299 GE300)
     ·rw [if_neg c41] at H
      have c41b0 : decide (0 < x4_1) = false := decide_eq_false c41
      clear c41
      simp only [Option.some.injEq, Prod.mk.injEq] at H
      obtain ⟨rfl, rfl, rfl⟩ := H
      have hnb48 := NB300_299.out
      have hnc48 := NB299_300.out
      obtain ⟨hcz49_0, hcz49_1, hfz49_0, hfz49_1⟩ := bz2 BK300
      go_wp2_with (first | ((with_reducible refine gate_callee (f := 42) rfl ?_); refine gl 60 Tryz.func42 #[.agg #[.int .i64 x301000_1, .int .i64 x301001_1], .int .i64 (-1)] ?_; (with_reducible refine (spec_l01Scale.calls _ _ _ _ _ _ A40.out).mono ?_); rintro e w50 ⟨rfl, hb⟩; refine ⟨_, rfl, ?_⟩; replace BK299 := bB BK299 hb; replace BK300 := bB BK300 hb; replace HB := bS2 HB GE299 GE300 hb; (try clear hb); obtain ⟨hcz51_0, hcz51_1, hfz51_0, hfz51_1⟩ := bz2 BK300; obtain ⟨hcz52_0, hcz52_1, hcz52_2, hfz52_0, hfz52_1, hfz52_2⟩ := bz3 BK299))
      refine bodyPost_ret (results_cell_row rfl _ _ gb299 29 #[.int .i64 x4_1, .int .i64 t306, .int .i64 t307] (0, 0) _ rfl (bq1 BK299 NB299_300) Tryz.underlying29 rfl (by kernel_rfl)) rfl ?_
      exact er (bbw2 HB GE299 GE300)
    ·rw [if_neg c39] at H
     have c39b0 := decide_eq_false c39
     clear c39
     by_cases c53 : x4_1 > 0
     ·rw [if_pos c53] at H
      have c53b0 : decide (0 < x4_1) = true := decide_eq_true c53
      clear c53
      obtain ⟨t309, A54, H⟩ := ob H
      try dsimp only at H
      simp only [Option.some.injEq, Prod.mk.injEq] at H
      obtain ⟨rfl, rfl, rfl⟩ := H
      have hnb55 := NB300_299.out
      have hnc55 := NB299_300.out
      obtain ⟨hcz56_0, hcz56_1, hfz56_0, hfz56_1⟩ := bz2 BK300
      go_wp2_with (first | ((with_reducible refine gate_callee (f := 96) rfl ?_); refine gl 66 Tryz.func96 #[.int .i64 x301000_1, .int .i64 x4_1] ?_; (with_reducible refine (spec_l01Mod.calls _ _ _ _ A54.out).mono ?_); rintro e w' ⟨rfl, ⟨nd, rfl⟩⟩; refine ⟨_, rfl, ?_⟩; (try (rw [drewN_self wr]; generalize hq_ : World.drewN wr _ = wr; have n0_ : Aside0 (wr.heap[gb299]? = some (.cells #[.int .i64 0, .int .i64 0, .int .i64 0] 29 (0, 0))) := ⟨by rw [← hq_]; exact (bkp BK299)⟩; have n1_ : Aside0 (wr.heap[gb300]? = some (.cells #[.int .i64 x301000_1, .int .i64 x301001_1] 38 (0, 0))) := ⟨by rw [← hq_]; exact (bkp BK300)⟩; have n2_ : Aside0 (Below w.heap.size w wr) := ⟨by rw [← hq_]; exact (bbw2 HB GE299 GE300)⟩; clear BK299 BK300 HB hq_; have BK299 := n0_; have BK300 := n1_; have HB := n2_; clear n0_ n1_ n2_)); have hcz57_0 : wr.cell? ⟨gb300, 0, none⟩ = some (.int .i64 x301000_1) := bcl BK300 0; have hcz57_1 : wr.cell? ⟨gb300, 1, none⟩ = some (.int .i64 x301001_1) := bcl BK300 1; have hfz57_0 := blk_frozen BK300.out 0; have hfz57_1 := blk_frozen BK300.out 1; have hcz58_0 : wr.cell? ⟨gb299, 0, none⟩ = some (.int .i64 0) := bcl BK299 0; have hcz58_1 : wr.cell? ⟨gb299, 1, none⟩ = some (.int .i64 0) := bcl BK299 1; have hcz58_2 : wr.cell? ⟨gb299, 2, none⟩ = some (.int .i64 0) := bcl BK299 2; have hfz58_0 := blk_frozen BK299.out 0; have hfz58_1 := blk_frozen BK299.out 1; have hfz58_2 := blk_frozen BK299.out 2))
      refine bodyPost_ret (results_cell_row rfl _ _ gb299 29 #[.int .i64 x4_1, .int .i64 t309, .int .i64 x301001_1] (0, 0) _ rfl (bq1 BK299 NB299_300) Tryz.underlying29 rfl (by kernel_rfl)) rfl ?_
      exact er (bbw2 HB GE299 GE300)
     ·rw [if_neg c53] at H
      have c53b0 : decide (0 < x4_1) = false := decide_eq_false c53
      clear c53
      simp only [Option.some.injEq, Prod.mk.injEq] at H
      obtain ⟨rfl, rfl, rfl⟩ := H
      have hnb59 := NB300_299.out
      have hnc59 := NB299_300.out
      obtain ⟨hcz60_0, hcz60_1, hfz60_0, hfz60_1⟩ := bz2 BK300
      obtain ⟨hcz61_0, hcz61_1, hcz61_2, hfz61_0, hfz61_1, hfz61_2⟩ := bz3 BK299
      go_wp2
      refine bodyPost_ret (results_cell_row rfl _ _ gb299 29 #[.int .i64 x4_1, .int .i64 x301000_1, .int .i64 x301001_1] (0, 0) _ rfl (bq0 BK299) Tryz.underlying29 rfl (by kernel_rfl)) rfl ?_
      exact er (bbw2 HB GE299 GE300)
def spec_l04Image.f (k : Nat) (a0_0 : Int) (a0_1 : Int) (a0_2 : Int) (a0_3 : Int) (a1_0 : Int) (a1_1 : Int) (a1_2 : Int) : Option (Int × Int × Int) := (spec_l03Basis.f a1_0 a1_1 a1_2).bind fun t313 => (if 0 < (t313.length : Int) then ((spec_l02Apply.f a0_0 a0_1 a0_2 a0_3 ((rd_T38 t313 0).f0) ((rd_T38 t313 0).f1)).bind fun bt317 => (if 1 < (t313.length : Int) then ((spec_l02Apply.f a0_0 a0_1 a0_2 a0_3 ((rd_T38 t313 1).f0) ((rd_T38 t313 1).f1)).bind fun bt320 => ((spec_l03Hermite.f k (([(⟨bt317.1, bt317.2⟩ : S38), (⟨bt320.1, bt320.2⟩ : S38)] : List (S38)))).bind fun bt325 => (some (bt325.1, bt325.2.1, bt325.2.2)))) else (none))) else (none))
def spec_l04Image.T2 : Bool × List (List Nat × List Nat) := (true, [([], []), ([], []), ([1], [1]), ([2], [2]), ([0, 3], [0, 3]), ([], []), ([], []), ([6], [6]), ([7], [7]), ([5, 8, 4], [5, 8]), ([4, 9], [4, 9]), ([10, 9], [10]), ([11, 11, 0, 1, 2, 3, 4, 5, 6, 7, 8, 9, 10, 11], [11])])
def spec_l04Image.B2 : List Nat := [0, 0, 2, 6, 15, 0, 0, 64, 192, 511, 1023, 2047, 4095]
theorem spec_l04Image.tab2 : rtab .any (opsOf Tryz.f62 2) = spec_l04Image.T2 := by kernel_rfl
theorem spec_l04Image.bits2 : waitsOk spec_l04Image.T2.2 spec_l04Image.B2 = true := by kernel_rfl
theorem spec_l04Image.calls (k : Nat) (a0_0 : Int) (a0_1 : Int) (a0_2 : Int) (a0_3 : Int) (a1_0 : Int) (a1_1 : Int) (a1_2 : Int) (r1 : Int) (r2 : Int) (r3 : Int) (w : World) (h : spec_l04Image.f k a0_0 a0_1 a0_2 a0_3 a1_0 a1_1 a1_2 = some (r1, r2, r3)) :
  Calls Tryz.prog 62 #[.agg #[.int .i64 a0_0, .int .i64 a0_1, .int .i64 a0_2, .int .i64 a0_3], .agg #[.int .i64 a1_0, .int .i64 a1_1, .int .i64 a1_2]] w fun e w' => e = .returned (.agg #[.int .i64 r1, .int .i64 r2, .int .i64 r3]) ∧ Below w.heap.size w w' := by
 have hu46 := Tryz.underlying46
 have hu29 := Tryz.underlying29
 have hu38 := Tryz.underlying38
 have HB := asd (Below.refl w.heap.size w)
 have H : ((spec_l03Basis.f a1_0 a1_1 a1_2).bind fun t313 => (if 0 < (t313.length : Int) then ((spec_l02Apply.f a0_0 a0_1 a0_2 a0_3 ((rd_T38 t313 0).f0) ((rd_T38 t313 0).f1)).bind fun bt317 => (if 1 < (t313.length : Int) then ((spec_l02Apply.f a0_0 a0_1 a0_2 a0_3 ((rd_T38 t313 1).f0) ((rd_T38 t313 1).f1)).bind fun bt320 => ((spec_l03Hermite.f k (([(⟨bt317.1, bt317.2⟩ : S38), (⟨bt320.1, bt320.2⟩ : S38)] : List (S38)))).bind fun bt325 => (some (bt325.1, bt325.2.1, bt325.2.2)))) else (none))) else (none))) = some (r1, r2, r3) := h
 clear h
 obtain ⟨t313, A3, H⟩ := ob H
 try dsimp only at H
 by_cases c4 : 0 < (t313.length : Int)
 ·rw [if_pos c4] at H
  have c4b0 := decide_eq_true c4
  have c4b1 : decide (0 < t313.length) = true := decide_eq_true (by omega)
  clear c4
  obtain ⟨⟨t317, t318⟩, A5, H⟩ := ob H
  try dsimp only at H
  by_cases c6 : 1 < (t313.length : Int)
  ·rw [if_pos c6] at H
   have c6b0 := decide_eq_true c6
   have c6b1 : decide (1 < t313.length) = true := decide_eq_true (by omega)
   clear c6
   obtain ⟨⟨t320, t321⟩, A7, H⟩ := ob H
   try dsimp only at H
   obtain ⟨y322, hy322⟩ : ∃ y_ : List (S38), y_ = (([(⟨t317, t318⟩ : S38), (⟨t320, t321⟩ : S38)] : List (S38))) := ⟨_, rfl⟩
   replace H : ((spec_l03Hermite.f k y322).bind fun bt325 => (some (bt325.1, bt325.2.1, bt325.2.2))) = some (r1, r2, r3) := by first | (rw [hy322]; with_reducible exact H) | (have H2_ := (Option.bind_some _ _).symm.trans H; rw [hy322]; with_reducible exact H2_) | (have H2_ := (Option.bind_some _ _).symm.trans H; with_reducible exact H2_) | with_reducible exact H | (rw [hy322]; exact H) | exact H
   have Ny322 := Aside0.mk hy322
   clear hy322
   obtain ⟨⟨t325, t326, t327⟩, A8, H⟩ := ob H
   try dsimp only at H
   simp only [Option.some.injEq, Prod.mk.injEq] at H
   obtain ⟨rfl, rfl, rfl⟩ := H
   go_enter Tryz.func62, Tryz.ntmps62
   try go_wp2_with (first | ((with_reducible refine gd 2 rfl ?_); refine bx #[.int .i64 a0_0, .int .i64 a0_1, .int .i64 a0_2, .int .i64 a0_3] 46 ?_; intro gb310 hg w9 BK310 hb; have GE310 := ngw0 hg HB; replace HB := bS0 HB hb; clear hb hg) | ((with_reducible refine gd 3 rfl ?_); refine bx #[.int .i64 a1_0, .int .i64 a1_1, .int .i64 a1_2] 29 ?_; intro gb311 hg w10 BK311 hb; have GE311 := ngw1 hg HB GE310; replace HB := bS1 HB GE310 hb; have NB310_311 := nlt hg BK310; have NB311_310 := nsy (nlt hg BK310); replace BK310 := bB BK310 hb; clear hb hg) | ((with_reducible refine gd 4 rfl ?_); refine bx #[.int .i64 0, .int .i64 0, .int .i64 0] 29 ?_; intro gb312 hg w11 BK312 hb; have GE312 := ngw2 hg HB GE310 GE311; replace HB := bS2 HB GE310 GE311 hb; have NB310_312 := nlt hg BK310; have NB312_310 := nsy (nlt hg BK310); replace BK310 := bB BK310 hb; have NB311_312 := nlt hg BK311; have NB312_311 := nsy (nlt hg BK311); replace BK311 := bB BK311 hb; clear hb hg; have hnb12 := NB311_310.out; have hnc12 := NB310_311.out; have hnb13 := NB311_312.out; have hnc13 := NB312_311.out; obtain ⟨hcz14_0, hcz14_1, hcz14_2, hfz14_0, hfz14_1, hfz14_2⟩ := bz3 BK311) | ((with_reducible refine gate_callee (f := 94) rfl ?_); refine gl 7 Tryz.func94 #[.agg #[.int .i64 a1_0, .int .i64 a1_1, .int .i64 a1_2]] ?_; (with_reducible refine (spec_l03Basis.calls _ _ _ _ _ A3.out).mono ?_); rintro e w15 ⟨v314, rfl, ho0, hb⟩; refine ⟨_, rfl, ?_⟩; have HO315 := asd (Kd.R_lower ho0 (bsz3 HB GE310 GE311 GE312)); replace BK310 := bB BK310 hb; replace BK311 := bB BK311 hb; replace BK312 := bB BK312 hb; replace HB := bS3 HB GE310 GE311 GE312 hb; (try clear hb); (try clear hb2); (try clear hk); (try clear hi); (try clear ho0)))
   replace HO315 := asd (Kd.R_drew HO315.out)
   replace BK310 := asd (blk_drew BK310.out)
   replace BK311 := asd (blk_drew BK311.out)
   replace BK312 := asd (blk_drew BK312.out)
   replace HB := asd (below_drew1 HB.out)
   obtain ⟨Ao17, co17, eo17⟩ := Kd.R_slice HO315.out
   (first | subst eo17 | (injection eo17 with f1_ f2_ f3_; have f4_ := f1_.symm; have f5_ := f3_.symm; clear f1_ f2_ f3_; subst f4_; subst f5_))
   have p316 : 0 ≤ (0 : Int) := (by omega)
   have q316 : 0 < (t313.length : Int) := od
   obtain ⟨ad316, e316, hx316_0, hx316_1⟩ := at_T38 (Kd.R_reads' HO315.out).2.2 0 p316 q316
   cases e316
   have qi316 : (0 < t313.length) = True := eq_true (by omega)
   (try rw [show ((0 : Int)).toNat = 0 from rfl] at hx316_0)
   (try rw [show 0 * 2 = 0 from rfl] at hx316_0)
   (try rw [Addr.add_zero'] at hx316_0)
   (try rw [show ((0 : Int)).toNat = 0 from rfl] at hx316_1)
   (try rw [show 0 * 2 = 0 from rfl] at hx316_1)
   (try rw [Addr.add_zero'] at hx316_1)
   replace p316 := eq_true p316
   replace q316 := eq_true q316
   have p319 : 0 ≤ (1 : Int) := (by omega)
   have q319 : 1 < (t313.length : Int) := od
   obtain ⟨ad319, e319, hx319_0, hx319_1⟩ := at_T38 (Kd.R_reads' HO315.out).2.2 1 p319 q319
   obtain rfl : ad316 = ad319 := (by injection e319)
   (try simp only [show (1 : Int).toNat = 1 from rfl, Nat.reduceMul, Nat.reduceEqDiff, Go.Addr.add, ↓reduceIte] at hx319_0)
   (try simp only [show (1 : Int).toNat = 1 from rfl, Nat.reduceMul, Nat.reduceEqDiff, Go.Addr.add, ↓reduceIte] at hx319_1)
   have qi319 : (1 < t313.length) = True := eq_true (by omega)
   (try rw [show ((1 : Int)).toNat = 1 from rfl] at hx319_0)
   (try rw [show 1 * 2 = 2 from rfl] at hx319_0)
   (try rw [show ((1 : Int)).toNat = 1 from rfl] at hx319_1)
   (try rw [show 1 * 2 = 2 from rfl] at hx319_1)
   replace p319 := eq_true p319
   replace q319 := eq_true q319
   refine sh 13 (cb4 BK310 (c1 hx316_0 (c1 hx316_1 (c1 hx319_0 (e1 hx319_1))))) (fun hHeld => ?_); refine with_tabW spec_l04Image.tab2 spec_l04Image.bits2 (fun HT_ HW_ => ?_)
   generalize w15.drew = w16 at HO315 BK310 BK311 BK312 HB hx316_0 hx316_1 hx319_0 hx319_1 hHeld ⊢
   refine pu 1 (some 9) (bs 13 2) HT_ ?_
   refine pu 2 (some 10) (bs 13 6) HT_ ?_
   refine pu 6 (some 14) (bs 13 70) HT_ ?_
   refine pu 7 (some 15) (bs 13 198) HT_ ?_
   refine ta 0 (some 8) (bs 13 199) HT_ HW_ hHeld ?_
   refine ta 3 (some 11) (bs 13 207) HT_ HW_ hHeld ?_
   refine ta 5 (some 13) (bs 13 239) HT_ HW_ hHeld ?_
   refine ta 8 (some 16) (bs 13 495) HT_ HW_ hHeld ?_
   refine ro 4 (some 12) (bT 13 9) HT_ (fun K hK => ?_)
   refine gs Tryz.func43 #[.agg #[.int .i64 a0_0, .int .i64 a0_1, .int .i64 a0_2, .int .i64 a0_3], .agg #[.int .i64 ((rd_T38 t313 0).f0), .int .i64 ((rd_T38 t313 0).f1)]] ?_
   with_reducible refine (spec_l02Apply.calls _ _ _ _ _ _ _ _ _ A5.out).mono ?_
   rintro e w18 ⟨rfl, hb⟩
   have HS4_ := hbc hb (hHeld.2.2.2.2.1)
   have HS5_ := hbc hb (hHeld.2.2.2.2.2.1)
   have HS6_ := hbc hb (hHeld.2.2.2.2.2.2.1)
   have HS7_ := hbc hb (hHeld.2.2.2.2.2.2.2)
   refine ⟨_, rfl, ?_⟩
   replace HO315 := asd (Kd.R_below (kr HO315) hb)
   replace BK310 := bB BK310 hb
   replace BK311 := bB BK311 hb
   replace BK312 := bB BK312 hb
   replace HB := bS3 HB GE310 GE311 GE312 hb
   (try clear hb)
   (try clear hb2)
   (try clear hk)
   (try clear hi)
   refine hK.out _ _ ⟨bcl BK310 0, bcl BK310 1, bcl BK310 2, bcl BK310 3, HS4_, HS5_, HS6_, HS7_⟩ (fun hHeld => ?_)
   clear hK K
   refine norm_ (a' := ?_) ?_ ?_
   rotate_left
   ·show Act.put _ (some 12) _ = _
    simp only [Act.put, sA, sB, sC, i64_w, i32_w]
    rfl
   refine ro 9 (some 17) (bT 13 10) HT_ (fun K hK => ?_)
   refine gs Tryz.func43 #[.agg #[.int .i64 a0_0, .int .i64 a0_1, .int .i64 a0_2, .int .i64 a0_3], .agg #[.int .i64 ((rd_T38 t313 1).f0), .int .i64 ((rd_T38 t313 1).f1)]] ?_
   with_reducible refine (spec_l02Apply.calls _ _ _ _ _ _ _ _ _ A7.out).mono ?_
   rintro e w19 ⟨rfl, hb⟩
   have HS4_ := hbc hb (hHeld.2.2.2.2.1)
   have HS5_ := hbc hb (hHeld.2.2.2.2.2.1)
   have HS6_ := hbc hb (hHeld.2.2.2.2.2.2.1)
   have HS7_ := hbc hb (hHeld.2.2.2.2.2.2.2)
   refine ⟨_, rfl, ?_⟩
   replace HO315 := asd (Kd.R_below (kr HO315) hb)
   replace BK310 := bB BK310 hb
   replace BK311 := bB BK311 hb
   replace BK312 := bB BK312 hb
   replace HB := bS3 HB GE310 GE311 GE312 hb
   (try clear hb)
   (try clear hb2)
   (try clear hk)
   (try clear hi)
   refine hK.out _ _ ⟨bcl BK310 0, bcl BK310 1, bcl BK310 2, bcl BK310 3, HS4_, HS5_, HS6_, HS7_⟩ (fun hHeld => ?_)
   clear hK K
   refine norm_ (a' := ?_) ?_ ?_
   rotate_left
   ·show Act.put _ (some 17) _ = _
    simp only [Act.put, sA, sB, sC, i64_w, i32_w]
    rfl
   refine ro 10 (some 18) (bT 13 11) HT_ (fun K hK => ?_)
   refine Kd.R_lit_step k38 _ 38 ?hg (N := 18) ?hd (xs := ([(⟨t317, t318⟩ : S38), (⟨t320, t321⟩ : S38)] : List (S38))) (inner := [.int .i64 t317, .int .i64 t318, .int .i64 t320, .int .i64 t321]) (ok := fun _ => True) (okp := fun _ => True) ?hr ?hp (fun _ hk => hk) trivial (Below.refl _ _) (Nat.le_refl _) (by simp) ?_; (case hd => rfl); (case hg => rfl); (case hr => first | (go_simp; done) | (go_simp; rfl)); (case hp => exact (Reps.c2 (show Kd.M k38 _ _ _ (⟨t317, t318⟩ : S38) [.int .i64 t317, .int .i64 t318] from (k38_mkM _ _ _ (⟨t317, t318⟩ : S38) )) (Reps.c2 (show Kd.M k38 _ _ _ (⟨t320, t321⟩ : S38) [.int .i64 t320, .int .i64 t321] from (k38_mkM _ _ _ (⟨t320, t321⟩ : S38) )) (Reps.none _ _))))
   intro v323 w20 ho21 hb hg_ hnew_
   have HS4_ := hbc hb (hHeld.2.2.2.2.1)
   have HS5_ := hbc hb (hHeld.2.2.2.2.2.1)
   have HS6_ := hbc hb (hHeld.2.2.2.2.2.2.1)
   have HS7_ := hbc hb (hHeld.2.2.2.2.2.2.2)
   clear hg_ hnew_
   (first | rw [← Ny322.out] at ho21 | (simp only [Int.reduceToNat] at ho21; rw [← Ny322.out] at ho21))
   have HO324 := asd (Kd.R_lower (Kd.R_new' ho21 (Kd.R_lt (kr HO315))) (bsz3 HB GE310 GE311 GE312))
   replace HO315 := asd (Kd.R_elder' (kr HO315) (Kd.R_base ho21) hb)
   replace BK310 := bB BK310 hb
   replace BK311 := bB BK311 hb
   replace BK312 := bB BK312 hb
   replace HB := bS3 HB GE310 GE311 GE312 hb
   clear hb ho21
   obtain ⟨Ao22, co22, eo22⟩ := Kd.R_slice HO324.out
   (first | subst eo22 | (injection eo22 with f1_ f2_ f3_; have f4_ := f1_.symm; have f5_ := f3_.symm; clear f1_ f2_ f3_; subst f4_; subst f5_))
   refine hK.out _ _ ⟨bcl BK310 0, bcl BK310 1, bcl BK310 2, bcl BK310 3, HS4_, HS5_, HS6_, HS7_⟩ (fun hHeld => ?_)
   clear hK K
   refine norm_ (a' := ?_) ?_ ?_
   rotate_left
   ·show Act.put _ (some 18) _ = _
    simp only [Act.put, sA, sB, sC, i64_w, i32_w]
    rfl
   refine ro 11 (some 19) (bT 13 12) HT_ (fun K hK => ?_)
   refine gs Tryz.func95 #[.slice Ao22 y322.length co22] ?_
   with_reducible refine (spec_l03Hermite.calls _ _ _ _ _ _ _ _ ?side1 ?side2 A8.out).mono ?_
   (case side1 => exact ks (Kd.R_reads' HO324.out).2.2)
   (case side2 => exact (Kd.R_reads' HO324.out).2.1)
   rintro e w23 ⟨rfl, hb⟩
   have HS4_ := hbc hb (hHeld.2.2.2.2.1)
   have HS5_ := hbc hb (hHeld.2.2.2.2.2.1)
   have HS6_ := hbc hb (hHeld.2.2.2.2.2.2.1)
   have HS7_ := hbc hb (hHeld.2.2.2.2.2.2.2)
   refine ⟨_, rfl, ?_⟩
   replace HO315 := asd (Kd.R_below (kr HO315) hb)
   replace HO324 := asd (Kd.R_below (kr HO324) hb)
   replace BK310 := bB BK310 hb
   replace BK311 := bB BK311 hb
   replace BK312 := bB BK312 hb
   replace HB := bS3 HB GE310 GE311 GE312 hb
   (try clear hb)
   (try clear hb2)
   (try clear hk)
   (try clear hi)
   refine hK.out _ _ ⟨bcl BK310 0, bcl BK310 1, bcl BK310 2, bcl BK310 3, HS4_, HS5_, HS6_, HS7_⟩ (fun hHeld => ?_)
   clear hK K
   refine norm_ (a' := ?_) ?_ ?_
   rotate_left
   ·show Act.put _ (some 19) _ = _
    simp only [Act.put, sA, sB, sC, i64_w, i32_w]
    rfl
   refine ro 12 (none) (bT 13 13) HT_ (fun K hK => ?_)
   have hs24 : w23.cell? ⟨gb312, 0, none⟩ = some (.int .i64 0) := bcl BK312 0
   have hfs24 := blk_frozen BK312.out 0
   have hns24_0 := NB310_312.out
   have hns24_1 := NB311_312.out
   have hms24_0 := NB312_310.out
   have hms24_1 := NB312_311.out
   have hs25 : w23.cell? ⟨gb312, 1, none⟩ = some (.int .i64 0) := bcl BK312 1
   have hfs25 := blk_frozen BK312.out 1
   have hns25_0 := NB310_312.out
   have hns25_1 := NB311_312.out
   have hms25_0 := NB312_310.out
   have hms25_1 := NB312_311.out
   have hs26 : w23.cell? ⟨gb312, 2, none⟩ = some (.int .i64 0) := bcl BK312 2
   have hfs26 := blk_frozen BK312.out 2
   have hns26_0 := NB310_312.out
   have hns26_1 := NB311_312.out
   have hms26_0 := NB312_310.out
   have hms26_1 := NB312_311.out
   refine skip_ (w1 := ?_) (by rfl) rfl ?_ ?_
   rotate_left
   ·go_simp
    rfl
   refine hK.out _ _ ⟨(cf3 NB310_312 (hHeld.1)), (cf3 NB310_312 (hHeld.2.1)), (cf3 NB310_312 (hHeld.2.2.1)), (cf3 NB310_312 (hHeld.2.2.2.1)), (fx3 (Kd.own_blk (Kd.R_ne HO315.out BK312.out (by decide))) (hHeld.2.2.2.2.1)), (fx3 (Kd.own_blk (Kd.R_ne HO315.out BK312.out (by decide))) (hHeld.2.2.2.2.2.1)), (fx3 (Kd.own_blk (Kd.R_ne HO315.out BK312.out (by decide))) (hHeld.2.2.2.2.2.2.1)), (fx3 (Kd.own_blk (Kd.R_ne HO315.out BK312.out (by decide))) (hHeld.2.2.2.2.2.2.2))⟩ (fun hHeld => ?_)
   clear hK K
   refine done_ (done_of HT_.out (by kernel_rfl)) ?_
   try go_wp2
   refine bodyPost_ret (results_cell_row rfl _ _ gb312 29 #[.int .i64 t325, .int .i64 t326, .int .i64 t327] (0, 0) _ rfl (bq0 BK312) Tryz.underlying29 rfl (by kernel_rfl)) rfl ?_
   exact er (bbw3 HB GE310 GE311 GE312)
  ·rw [if_neg c6] at H
   exact absurd H (by simp)
 ·rw [if_neg c4] at H
  exact absurd H (by simp)
attribute [local go_sem high] eqA29
def spec_IsSuitable.f (k : Nat) (a0 : Int) (a1_0 : Int) (a1_1 : Int) (a1_2 : Int) (a2_0 : Int) (a2_1 : Int) (a2_2 : Int) (a2_3 : Int) (a2_4 : Int) (a2_5 : Int) : Option (Bool) := (spec_l04Code.f a0 a1_0 a1_1 a1_2).bind fun t330 => (if t330 = 0 then ((spec_IsPointMat.f a0 a2_0 a2_1 a2_2 a2_3).bind fun t331 => (if t331 = true then ((spec_l04Image.f k a2_0 a2_1 a2_2 a2_3 a1_0 a1_1 a1_2).bind fun bt332 => (if (bt332.1 == a1_0 && (bt332.2.1 == a1_1 && (bt332.2.2 == a1_2))) = true then ((spec_IsVec.f a2_4 a2_5).bind fun t335 => (some t335)) else (some false))) else (some false))) else (some false))
def spec_IsSuitable.T1 : Bool × List (List Nat × List Nat) := (true, [([], []), ([], []), ([0, 1], [0, 1]), ([2], [2]), ([3, 2], [3]), ([4], [4]), ([4], [4]), ([6, 4], [4, 6]), ([5, 7, 4, 4], [4, 5, 7]), ([4, 8], [4, 8]), ([9, 8], [9]), ([10], [10]), ([11, 10], [10, 11]), ([10], [10]), ([12, 13, 10, 10], [10, 12, 13]), ([10], [10]), ([14, 15, 10], [10, 14, 15]), ([10, 16], [10, 16]), ([17, 14], [17]), ([18], [18]), ([19, 18], [18, 19]), ([20, 18, 18], [18, 20]), ([18, 21], [18, 21]), ([22, 21, 0, 1, 2, 3, 4, 5, 6, 7, 8, 9, 10, 11, 12, 13, 14, 15, 16, 17, 18, 19, 20, 21, 22], [22])])
def spec_IsSuitable.B1 : List Nat := [0, 0, 3, 7, 15, 31, 31, 95, 255, 511, 1023, 2047, 4095, 2047, 16383, 2047, 65535, 131071, 262143, 524287, 1048575, 2097151, 4194303, 8388607]
theorem spec_IsSuitable.tab1 : rtab .any (opsOf Tryz.f29 1) = spec_IsSuitable.T1 := by kernel_rfl
theorem spec_IsSuitable.bits1 : waitsOk spec_IsSuitable.T1.2 spec_IsSuitable.B1 = true := by kernel_rfl
theorem spec_IsSuitable.calls (k : Nat) (a0 : Int) (a1_0 : Int) (a1_1 : Int) (a1_2 : Int) (a2_0 : Int) (a2_1 : Int) (a2_2 : Int) (a2_3 : Int) (a2_4 : Int) (a2_5 : Int) (r : Bool) (w : World) (h : spec_IsSuitable.f k a0 a1_0 a1_1 a1_2 a2_0 a2_1 a2_2 a2_3 a2_4 a2_5 = some r) :
  Calls Tryz.prog 29 #[.int .i64 a0, .agg #[.int .i64 a1_0, .int .i64 a1_1, .int .i64 a1_2], .agg #[.int .i64 a2_0, .int .i64 a2_1, .int .i64 a2_2, .int .i64 a2_3, .int .i64 a2_4, .int .i64 a2_5]] w fun e w' => e = .returned (.bool r) ∧ Below w.heap.size w w' := by
 have hu29 := Tryz.underlying29
 have hu48 := Tryz.underlying48
 have hu46 := Tryz.underlying46
 have hu38 := Tryz.underlying38
 have HB := asd (Below.refl w.heap.size w)
 have H : ((spec_l04Code.f a0 a1_0 a1_1 a1_2).bind fun t330 => (if t330 = 0 then ((spec_IsPointMat.f a0 a2_0 a2_1 a2_2 a2_3).bind fun t331 => (if t331 = true then ((spec_l04Image.f k a2_0 a2_1 a2_2 a2_3 a1_0 a1_1 a1_2).bind fun bt332 => (if (bt332.1 == a1_0 && (bt332.2.1 == a1_1 && (bt332.2.2 == a1_2))) = true then ((spec_IsVec.f a2_4 a2_5).bind fun t335 => (some t335)) else (some false))) else (some false))) else (some false))) = some r := h
 clear h
 obtain ⟨t330, A4, H⟩ := ob H
 try dsimp only at H
 by_cases c5 : t330 = 0
 rw [if_pos c5] at H
 have c5b0 : (t330 == 0) = true := beq_iff_eq.mpr c5
 have c5b1 : (t330 != 0) = false := bne_eq_false_iff_eq.mpr c5
 clear c5
 obtain ⟨t331, A6, H⟩ := ob H
 try dsimp only at H
 by_cases c7 : t331 = true
 subst c7
 replace H := ifT H
 obtain ⟨⟨t332, t333, t334⟩, A8, H⟩ := ob H
 try dsimp only at H
 by_cases c9 : (t332 == a1_0 && (t333 == a1_1 && (t334 == a1_2))) = true
 rw [if_pos c9] at H
 have c9b0 := c9
 (try (have c9b1 : decide (t332 = a1_0 && (t333 == a1_1 && (t334 == a1_2))) = true := by simpa using c9))
 (try (have c9b2 : (t332 == a1_0 && (t333 == a1_1 && (t334 == a1_2))) = true := by simpa using c9))
 clear c9
 obtain ⟨t335, A10, H⟩ := ob H
 try dsimp only at H
 obtain rfl := Option.some.inj H
 rotate_left
 rw [if_neg c9] at H
 have c9b0 : (t332 == a1_0 && (t333 == a1_1 && (t334 == a1_2))) = false := by simpa using c9
 (try (have c9b1 : decide (t332 = a1_0 && (t333 == a1_1 && (t334 == a1_2))) = false := by simpa using c9))
 (try (have c9b2 : (t332 == a1_0 && (t333 == a1_1 && (t334 == a1_2))) = false := by simpa using c9))
 (try (have c9b3 : ¬ (t332 = a1_0 && (t333 == a1_1 && (t334 == a1_2))) := by simpa using c9))
 clear c9
 obtain rfl := Option.some.inj H
 rotate_left
 replace c7 := Bool.eq_false_iff.mpr c7
 subst c7
 replace H := ifF H
 obtain rfl := Option.some.inj H
 rotate_left
 rw [if_neg c5] at H
 have c5b0 : (t330 == 0) = false := beq_eq_false_iff_ne.mpr c5
 have c5b1 : (t330 != 0) = true := bne_iff_ne.mpr c5
 obtain rfl := Option.some.inj H
 rotate_left
 all_goals
  go_enter Tryz.func29, Tryz.ntmps29
  try go_wp2_with (first | ((with_reducible refine gd 4 rfl ?_); refine bx #[.int .i64 a1_0, .int .i64 a1_1, .int .i64 a1_2] 29 ?_; intro gb328 hg w11 BK328 hb; have GE328 := ngw0 hg HB; replace HB := bS0 HB hb; clear hb hg) | ((with_reducible refine gd 5 rfl ?_); refine bx #[.int .i64 a2_0, .int .i64 a2_1, .int .i64 a2_2, .int .i64 a2_3, .int .i64 a2_4, .int .i64 a2_5] 48 ?_; intro gb329 hg w12 BK329 hb; have GE329 := ngw1 hg HB GE328; replace HB := bS1 HB GE328 hb; have NB328_329 := nlt hg BK328; have NB329_328 := nsy (nlt hg BK328); replace BK328 := bB BK328 hb; clear hb hg))
  replace BK328 := asd (blk_drew BK328.out)
  replace BK329 := asd (blk_drew BK329.out)
  replace HB := asd (below_drew1 HB.out)
 refine sh 24 (cb3 BK328 (eb6 BK329)) (fun hHeld => ?_); refine with_tabW spec_IsSuitable.tab1 spec_IsSuitable.bits1 (fun HT_ HW_ => ?_)
 rotate_left
 refine sh 24 (cb3 BK328 (eb6 BK329)) (fun hHeld => ?_); refine with_tabW spec_IsSuitable.tab1 spec_IsSuitable.bits1 (fun HT_ HW_ => ?_)
 rotate_left
 refine sh 24 (cb3 BK328 (eb6 BK329)) (fun hHeld => ?_); refine with_tabW spec_IsSuitable.tab1 spec_IsSuitable.bits1 (fun HT_ HW_ => ?_)
 rotate_left
 refine sh 24 (eb3 BK328) (fun hHeld => ?_); refine with_tabW spec_IsSuitable.tab1 spec_IsSuitable.bits1 (fun HT_ HW_ => ?_)
 rotate_left
 all_goals
  generalize w12.drew = w13 at BK328 BK329 HB hHeld ⊢
  refine pu 0 (some 7) (bT 24 1) HT_ ?_
  refine ta 1 (some 8) (bT 24 2) HT_ HW_ hHeld ?_
  refine ro 2 (some 9) (bT 24 3) HT_ (fun K hK => ?_)
  refine gs Tryz.func60 #[.int .i64 a0, .agg #[.int .i64 a1_0, .int .i64 a1_1, .int .i64 a1_2]] ?_
  with_reducible refine (spec_l04Code.calls _ _ _ _ _ _ A4.out).mono ?_
  rintro e w14 ⟨rfl, hb⟩
  refine ⟨_, rfl, ?_⟩
  replace BK328 := bB BK328 hb
  replace BK329 := bB BK329 hb
  replace HB := bS2 HB GE328 GE329 hb
  (try clear hb)
  (try clear hb2)
  (try clear hk)
  (try clear hi)
 rotate_left 3
 ·refine hK.out _ _ (eb3 BK328).out (fun hHeld => ?_)
  clear hK K
  refine norm_ (a' := ?_) ?_ ?_
  rotate_left
  ·show Act.put _ (some 9) _ = _
   simp only [Act.put, sA, sB, sC, i64_w, i32_w]
   rfl
  refine pu 3 (some 10) (bT 24 4) HT_ ?_
  refine pu 4 (some 11) (bT 24 5) HT_ ?_
  refine pf 5 (some 12) (bT 24 6) HT_ ?_
  refine pf 6 (some 13) (bT 24 7) HT_ ?_
  refine pf 7 (some 14) (bT 24 8) HT_ ?_
  refine pf 8 (some 15) (bT 24 9) HT_ ?_
  refine pu 9 (some 16) (bT 24 10) HT_ ?_
  refine pu 10 (some 17) (bT 24 11) HT_ ?_
  refine pf 11 (some 18) (bT 24 12) HT_ ?_
  refine pf 12 (some 19) (bT 24 13) HT_ ?_
  refine pf 13 (some 20) (bT 24 14) HT_ ?_
  refine pf 14 (some 21) (bT 24 15) HT_ ?_
  refine pf 15 (some 22) (bT 24 16) HT_ ?_
  refine pf 16 (some 23) (bT 24 17) HT_ ?_
  refine pu 17 (some 24) (bT 24 18) HT_ ?_
  refine pu 18 (some 25) (bT 24 19) HT_ ?_
  refine pf 19 (some 26) (bT 24 20) HT_ ?_
  refine pf 20 (some 27) (bT 24 21) HT_ ?_
  refine pf 21 (some 28) (bT 24 22) HT_ ?_
  refine pu 22 (some 29) (bT 24 23) HT_ ?_
  refine pu 23 (some 6) (bT 24 24) HT_ ?_
  refine done_ (done_of HT_.out (by kernel_rfl)) ?_
  try go_wp2
  go_ret
  exact er (bbw2 HB GE328 GE329)
 all_goals
  refine hK.out _ _ (cb3 BK328 (eb6 BK329)).out (fun hHeld => ?_)
  clear hK K
  refine norm_ (a' := ?_) ?_ ?_
  rotate_left
  ·show Act.put _ (some 9) _ = _
   simp only [Act.put, sA, sB, sC, i64_w, i32_w]
   rfl
  refine pu 3 (some 10) (bT 24 4) HT_ ?_
  refine pu 4 (some 11) (bT 24 5) HT_ ?_
  refine pu 5 (some 12) (bT 24 6) HT_ ?_
  refine pu 6 (some 13) (bT 24 7) HT_ ?_
  refine ta 7 (some 14) (bT 24 8) HT_ HW_ hHeld ?_
  refine ro 8 (some 15) (bT 24 9) HT_ (fun K hK => ?_)
  refine gs Tryz.func61 #[.int .i64 a0, .agg #[.int .i64 a2_0, .int .i64 a2_1, .int .i64 a2_2, .int .i64 a2_3]] ?_
  with_reducible refine (spec_IsPointMat.calls _ _ _ _ _ _ _ A6.out).mono ?_
  rintro e w15 ⟨rfl, hb⟩
  refine ⟨_, rfl, ?_⟩
  replace BK328 := bB BK328 hb
  replace BK329 := bB BK329 hb
  replace HB := bS2 HB GE328 GE329 hb
  (try clear hb)
  (try clear hb2)
  (try clear hk)
  (try clear hi)
  refine hK.out _ _ (cb3 BK328 (eb6 BK329)).out (fun hHeld => ?_)
  clear hK K
  refine norm_ (a' := ?_) ?_ ?_
  rotate_left
  ·show Act.put _ (some 15) _ = _
   simp only [Act.put, sA, sB, sC, i64_w, i32_w]
   rfl
  refine pu 9 (some 16) (bT 24 10) HT_ ?_
  refine pu 10 (some 17) (bT 24 11) HT_ ?_
 rotate_left 2
 ·refine pf 11 (some 18) (bT 24 12) HT_ ?_
  refine pf 12 (some 19) (bT 24 13) HT_ ?_
  refine pf 13 (some 20) (bT 24 14) HT_ ?_
  refine pf 14 (some 21) (bT 24 15) HT_ ?_
  refine pf 15 (some 22) (bT 24 16) HT_ ?_
  refine pf 16 (some 23) (bT 24 17) HT_ ?_
  refine pu 17 (some 24) (bT 24 18) HT_ ?_
  refine pu 18 (some 25) (bT 24 19) HT_ ?_
  refine pf 19 (some 26) (bT 24 20) HT_ ?_
  refine pf 20 (some 27) (bT 24 21) HT_ ?_
  refine pf 21 (some 28) (bT 24 22) HT_ ?_
  refine pu 22 (some 29) (bT 24 23) HT_ ?_
  refine pu 23 (some 6) (bT 24 24) HT_ ?_
  refine done_ (done_of HT_.out (by kernel_rfl)) ?_
  try go_wp2
  go_ret
  exact er (bbw2 HB GE328 GE329)
 all_goals
  refine pu 11 (some 18) (bT 24 12) HT_ ?_
  refine ta 12 (some 19) (bT 24 13) HT_ HW_ hHeld ?_
  refine ta 13 (some 20) (bT 24 14) HT_ HW_ hHeld ?_
  refine ta 15 (some 22) (bs 24 49151) HT_ HW_ hHeld ?_
  refine ro 14 (some 21) (bT 24 16) HT_ (fun K hK => ?_)
  refine gs Tryz.func62 #[.agg #[.int .i64 a2_0, .int .i64 a2_1, .int .i64 a2_2, .int .i64 a2_3], .agg #[.int .i64 a1_0, .int .i64 a1_1, .int .i64 a1_2]] ?_
  with_reducible refine (spec_l04Image.calls _ _ _ _ _ _ _ _ _ _ _ _ A8.out).mono ?_
  rintro e w16 ⟨rfl, hb⟩
  refine ⟨_, rfl, ?_⟩
  replace BK328 := bB BK328 hb
  replace BK329 := bB BK329 hb
  replace HB := bS2 HB GE328 GE329 hb
  (try clear hb)
  (try clear hb2)
  (try clear hk)
  (try clear hi)
  refine hK.out _ _ (cb3 BK328 (eb6 BK329)).out (fun hHeld => ?_)
  clear hK K
  refine norm_ (a' := ?_) ?_ ?_
  rotate_left
  ·show Act.put _ (some 21) _ = _
   simp only [Act.put, sA, sB, sC, i64_w, i32_w]
   rfl
  refine pu 16 (some 23) (bT 24 17) HT_ ?_
  refine pu 17 (some 24) (bT 24 18) HT_ ?_
  refine pu 18 (some 25) (bT 24 19) HT_ ?_
 focus
  refine pu 19 (some 26) (bT 24 20) HT_ ?_
  refine ta 20 (some 27) (bT 24 21) HT_ HW_ hHeld ?_
  refine ro 21 (some 28) (bT 24 22) HT_ (fun K hK => ?_)
  refine gs Tryz.func40 #[.agg #[.int .i64 a2_4, .int .i64 a2_5]] ?_
  with_reducible refine (spec_IsVec.calls _ _ _ _ A10.out).mono ?_
  rintro e w17 ⟨rfl, hb⟩
  refine ⟨_, rfl, ?_⟩
  replace BK328 := bB BK328 hb
  replace BK329 := bB BK329 hb
  replace HB := bS2 HB GE328 GE329 hb
  (try clear hb)
  (try clear hb2)
  (try clear hk)
  (try clear hi)
  refine hK.out _ _ (cb3 BK328 (eb6 BK329)).out (fun hHeld => ?_)
  clear hK K
  refine norm_ (a' := ?_) ?_ ?_
  rotate_left
  ·show Act.put _ (some 28) _ = _
   simp only [Act.put, sA, sB, sC, i64_w, i32_w]
   rfl
  refine pu 22 (some 29) (bT 24 23) HT_ ?_
 rotate_left
 refine pf 19 (some 26) (bT 24 20) HT_ ?_
 refine pf 20 (some 27) (bT 24 21) HT_ ?_
 refine pf 21 (some 28) (bT 24 22) HT_ ?_
 refine pu 22 (some 29) (bT 24 23) HT_ ?_
 rotate_left
 all_goals
  refine pu 23 (some 6) (bT 24 24) HT_ ?_
  refine done_ (done_of HT_.out (by kernel_rfl)) ?_
  try go_wp2
  go_ret
  exact er (bbw2 HB GE328 GE329)
def impl_unit.f  : Option (Int × Int × Int × Int) := some (1, 0, 0, 1)
theorem impl_unit.calls  (r1 : Int) (r2 : Int) (r3 : Int) (r4 : Int) (w : World) (h : impl_unit.f  = some (r1, r2, r3, r4)) :
  Calls Tryz.prog 71 #[] w fun e w' => e = .returned (.agg #[.int .i64 r1, .int .i64 r2, .int .i64 r3, .int .i64 r4]) ∧ Below w.heap.size w w' := by
 have hu46 := Tryz.underlying46
 have HB := asd (Below.refl w.heap.size w)
 have H : (some (1, 0, 0, 1)) = some (r1, r2, r3, r4) := h
 clear h
 simp only [Option.some.injEq, Prod.mk.injEq] at H
 obtain ⟨rfl, rfl, rfl, rfl⟩ := H
 go_enter Tryz.func71, Tryz.ntmps71
 go_wp2_with (first | ((with_reducible refine gd 0 rfl ?_); refine bx #[.int .i64 0, .int .i64 0, .int .i64 0, .int .i64 0] 46 ?_; intro gb405 hg w1 BK405 hb; have GE405 := ngw0 hg HB; replace HB := bS0 HB hb; clear hb hg; obtain ⟨hcz2_0, hcz2_1, hcz2_2, hcz2_3, hfz2_0, hfz2_1, hfz2_2, hfz2_3⟩ := bz4 BK405))
 refine bodyPost_ret (results_cell_row rfl _ _ gb405 46 #[.int .i64 1, .int .i64 0, .int .i64 0, .int .i64 1] (0, 0) _ rfl (bq0 BK405) Tryz.underlying46 rfl (by kernel_rfl)) rfl ?_
 exact er (bbw1 HB GE405)
def impl_mod.f (a0 : Int) (a1 : Int) : Option (Int) := if a1 = 0 then (none) else (some (Int.tmod (wrap64 ((Int.tmod a0 a1) + a1)) a1))
theorem impl_mod.calls (a0 : Int) (a1 : Int) (r : Int) (w : World) (h : impl_mod.f a0 a1 = some r) :
  Calls Tryz.prog 122 #[.int .i64 a0, .int .i64 a1] w fun e w' => e = .returned (.int .i64 r) ∧ Drawn0 w w' := by
 have H : (if a1 = 0 then (none) else (some (Int.tmod (wrap64 ((Int.tmod a0 a1) + a1)) a1))) = some r := h
 clear h
 by_cases c3 : a1 = 0
 ·rw [if_pos c3] at H
  exact absurd H (by simp)
 ·rw [if_neg c3] at H
  have c3b0 : (a1 == 0) = false := beq_eq_false_iff_ne.mpr c3
  have c3b1 : (a1 != 0) = true := bne_iff_ne.mpr c3
  obtain rfl := Option.some.inj H
  go_enter Tryz.func122, Tryz.ntmps122
  go_wp2
  go_ret
  exact ⟨by first | rfl | (simp; done) | (simp [*]; done), by repeat (first | exact Drawn0.refl _ | apply Drawn0.step)⟩
def impl_Lattice_reduce.f (a0_0 : Int) (a0_1 : Int) (a0_2 : Int) (a1_0 : Int) (a1_1 : Int) : Option (Int × Int) := (impl_mod.f a1_1 a0_2).bind fun t409 => (if a0_2 = 0 then (none) else ((impl_mod.f (wrap64 (a1_0 - (wrap64 ((wrap64 (Int.tdiv (wrap64 (a1_1 - t409)) a0_2)) * a0_1)))) a0_0).bind fun t410 => (some (t410, t409))))
def impl_Lattice_reduce.T2 : Bool × List (List Nat × List Nat) := (true, [([], []), ([0], [0]), ([], []), ([2], [2]), ([], []), ([3, 4], [3, 4]), ([], []), ([6], [6]), ([5, 7], [5, 7]), ([], []), ([9], [9]), ([8, 10], [8, 10]), ([1, 11], [1, 11]), ([], []), ([13], [13]), ([12, 14], [12, 14]), ([], []), ([15, 16], [15, 16]), ([17, 15, 0, 1, 2, 3, 4, 5, 6, 7, 8, 9, 10, 11, 12, 13, 14, 15, 16, 17], [17])])
def impl_Lattice_reduce.B2 : List Nat := [0, 1, 0, 4, 0, 28, 0, 64, 252, 0, 512, 2044, 4095, 0, 8192, 32767, 0, 131071, 262143]
theorem impl_Lattice_reduce.tab2 : rtab .any (opsOf Tryz.f107 2) = impl_Lattice_reduce.T2 := by kernel_rfl
theorem impl_Lattice_reduce.bits2 : waitsOk impl_Lattice_reduce.T2.2 impl_Lattice_reduce.B2 = true := by kernel_rfl
theorem impl_Lattice_reduce.calls (a0_0 : Int) (a0_1 : Int) (a0_2 : Int) (a1_0 : Int) (a1_1 : Int) (r1 : Int) (r2 : Int) (w : World) (h : impl_Lattice_reduce.f a0_0 a0_1 a0_2 a1_0 a1_1 = some (r1, r2)) :
  Calls Tryz.prog 107 #[.agg #[.int .i64 a0_0, .int .i64 a0_1, .int .i64 a0_2], .agg #[.int .i64 a1_0, .int .i64 a1_1]] w fun e w' => e = .returned (.agg #[.int .i64 r1, .int .i64 r2]) ∧ Below w.heap.size w w' := by
 have hu29 := Tryz.underlying29
 have hu38 := Tryz.underlying38
 have HB := asd (Below.refl w.heap.size w)
 have H : ((impl_mod.f a1_1 a0_2).bind fun t409 => (if a0_2 = 0 then (none) else ((impl_mod.f (wrap64 (a1_0 - (wrap64 ((wrap64 (Int.tdiv (wrap64 (a1_1 - t409)) a0_2)) * a0_1)))) a0_0).bind fun t410 => (some (t410, t409))))) = some (r1, r2) := h
 clear h
 obtain ⟨t409, A3, H⟩ := ob H
 try dsimp only at H
 by_cases c4 : a0_2 = 0
 ·rw [if_pos c4] at H
  exact absurd H (by simp)
 ·rw [if_neg c4] at H
  have c4b0 : (a0_2 == 0) = false := beq_eq_false_iff_ne.mpr c4
  have c4b1 : (a0_2 != 0) = true := bne_iff_ne.mpr c4
  obtain ⟨t410, A5, H⟩ := ob H
  try dsimp only at H
  simp only [Option.some.injEq, Prod.mk.injEq] at H
  obtain ⟨rfl, rfl⟩ := H
  go_enter Tryz.func107, Tryz.ntmps107
  try go_wp2_with (first | ((with_reducible refine gd 2 rfl ?_); refine bx #[.int .i64 a0_0, .int .i64 a0_1, .int .i64 a0_2] 29 ?_; intro gb406 hg w6 BK406 hb; have GE406 := ngw0 hg HB; replace HB := bS0 HB hb; clear hb hg) | ((with_reducible refine gd 3 rfl ?_); refine bx #[.int .i64 a1_0, .int .i64 a1_1] 38 ?_; intro gb407 hg w7 BK407 hb; have GE407 := ngw1 hg HB GE406; replace HB := bS1 HB GE406 hb; have NB406_407 := nlt hg BK406; have NB407_406 := nsy (nlt hg BK406); replace BK406 := bB BK406 hb; clear hb hg) | ((with_reducible refine gd 4 rfl ?_); refine bx #[.int .i64 0, .int .i64 0] 38 ?_; intro gb408 hg w8 BK408 hb; have GE408 := ngw2 hg HB GE406 GE407; replace HB := bS2 HB GE406 GE407 hb; have NB406_408 := nlt hg BK406; have NB408_406 := nsy (nlt hg BK406); replace BK406 := bB BK406 hb; have NB407_408 := nlt hg BK407; have NB408_407 := nsy (nlt hg BK407); replace BK407 := bB BK407 hb; clear hb hg; have hnb9 := NB407_406.out; have hnc9 := NB406_407.out; have hnb10 := NB407_408.out; have hnc10 := NB408_407.out; obtain ⟨hcz11_0, hcz11_1, hfz11_0, hfz11_1⟩ := bz2 BK407; have hnb12 := NB406_408.out; have hnc12 := NB408_406.out; obtain ⟨hcz13_0, hcz13_1, hcz13_2, hfz13_0, hfz13_1, hfz13_2⟩ := bz3 BK406) | ((with_reducible refine gate_callee (f := 122) rfl ?_); refine gl 10 Tryz.func122 #[.int .i64 a1_1, .int .i64 a0_2] ?_; (with_reducible refine (impl_mod.calls _ _ _ _ A3.out).mono ?_); rintro e w' ⟨rfl, ⟨nd, rfl⟩⟩; refine ⟨_, rfl, ?_⟩; (try (rw [drewN_self w8]; generalize hq_ : World.drewN w8 _ = w8; have n0_ : Aside0 (w8.heap[gb406]? = some (.cells #[.int .i64 a0_0, .int .i64 a0_1, .int .i64 a0_2] 29 (0, 0))) := ⟨by rw [← hq_]; exact (bkp BK406)⟩; have n1_ : Aside0 (w8.heap[gb407]? = some (.cells #[.int .i64 a1_0, .int .i64 a1_1] 38 (0, 0))) := ⟨by rw [← hq_]; exact (bkp BK407)⟩; have n2_ : Aside0 (w8.heap[gb408]? = some (.cells #[.int .i64 0, .int .i64 0] 38 (0, 0))) := ⟨by rw [← hq_]; exact (bkp BK408)⟩; have n3_ : Aside0 (Below w.heap.size w w8) := ⟨by rw [← hq_]; exact (bbw3 HB GE406 GE407 GE408)⟩; clear BK406 BK407 BK408 HB hq_; have BK406 := n0_; have BK407 := n1_; have BK408 := n2_; have HB := n3_; clear n0_ n1_ n2_ n3_))))
  replace BK406 := asd (blk_drew BK406.out)
  replace BK407 := asd (blk_drew BK407.out)
  replace BK408 := asd (blk_drew BK408.out)
  replace HB := asd (below_drew1 HB.out)
  refine sh 19 (cb2 BK407 (eb3 BK406)) (fun hHeld => ?_); refine with_tabW impl_Lattice_reduce.tab2 impl_Lattice_reduce.bits2 (fun HT_ HW_ => ?_)
  generalize w8.drew = w14 at BK406 BK407 BK408 HB hHeld ⊢
  refine pu 0 (some 11) (bT 19 1) HT_ ?_
  refine pu 2 (some 13) (bs 19 5) HT_ ?_
  refine pu 4 (some 15) (bs 19 21) HT_ ?_
  refine pu 6 (some 17) (bs 19 85) HT_ ?_
  refine pu 9 (some 20) (bs 19 597) HT_ ?_
  refine pu 13 (some 24) (bs 19 8789) HT_ ?_
  refine pu 16 (some 27) (bs 19 74325) HT_ ?_
  refine ta 1 (some 12) (bs 19 74327) HT_ HW_ hHeld ?_
  refine ta 3 (some 14) (bs 19 74335) HT_ HW_ hHeld ?_
  refine pu 5 (some 16) (bs 19 74367) HT_ ?_
  refine ta 7 (some 18) (bs 19 74495) HT_ HW_ hHeld ?_
  refine pu 8 (some 19) (bs 19 74751) HT_ ?_
  refine ta 10 (some 21) (bs 19 75775) HT_ HW_ hHeld ?_
  refine pu 11 (some 22) (bs 19 77823) HT_ ?_
  refine pu 12 (some 23) (bs 19 81919) HT_ ?_
  refine ta 14 (some 25) (bs 19 98303) HT_ HW_ hHeld ?_
  refine ro 15 (some 26) (bT 19 17) HT_ (fun K hK => ?_)
  refine gs Tryz.func122 #[.int .i64 (wrap64 (a1_0 - (wrap64 ((wrap64 (Int.tdiv (wrap64 (a1_1 - t409)) a0_2)) * a0_1)))), .int .i64 a0_0] ?_
  with_reducible refine (impl_mod.calls _ _ _ _ A5.out).mono ?_
  rintro e w' ⟨rfl, ⟨nd, rfl⟩⟩
  refine ⟨_, rfl, ?_⟩
  refine hK.out _ _ (cb2 BK407 (eb3 BK406)).out (fun hHeld => ?_)
  clear hK K
  refine norm_ (a' := ?_) ?_ ?_
  rotate_left
  ·show Act.put _ (some 26) _ = _
   simp only [Act.put, sA, sB, sC, i64_w, i32_w]
   rfl
  refine pu 17 (some 28) (bT 19 18) HT_ ?_
  refine ro 18 (none) (bT 19 19) HT_ (fun K hK => ?_)
  have hs15 : w14.cell? ⟨gb408, 0, none⟩ = some (.int .i64 0) := bcl BK408 0
  have hfs15 := blk_frozen BK408.out 0
  have hns15_0 := NB406_408.out
  have hns15_1 := NB407_408.out
  have hms15_0 := NB408_406.out
  have hms15_1 := NB408_407.out
  have hs16 : w14.cell? ⟨gb408, 1, none⟩ = some (.int .i64 0) := bcl BK408 1
  have hfs16 := blk_frozen BK408.out 1
  have hns16_0 := NB406_408.out
  have hns16_1 := NB407_408.out
  have hms16_0 := NB408_406.out
  have hms16_1 := NB408_407.out
  refine skip_ (w1 := ?_) (by rfl) rfl ?_ ?_
  rotate_left
  ·go_simp
   rfl
  refine hK.out _ _ ⟨(cf2 NB407_408 (hHeld.1)), (cf2 NB407_408 (hHeld.2.1)), (cf2 NB406_408 (hHeld.2.2.1)), (cf2 NB406_408 (hHeld.2.2.2.1)), (cf2 NB406_408 (hHeld.2.2.2.2))⟩ (fun hHeld => ?_)
  clear hK K
  refine done_ (done_of HT_.out (by kernel_rfl)) ?_
  try go_wp2
  refine bodyPost_ret (results_cell_row rfl _ _ gb408 38 #[.int .i64 t410, .int .i64 t409] (0, 0) _ rfl (bq0 BK408) Tryz.underlying38 rfl (by kernel_rfl)) rfl ?_
  exact er (bbw3 HB GE406 GE407 GE408)
end Go.Proofs.YtdodghjnlekgeaaGreat.PA
