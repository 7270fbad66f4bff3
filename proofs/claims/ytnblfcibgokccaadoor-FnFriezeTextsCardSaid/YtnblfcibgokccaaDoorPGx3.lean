/- Walks written by program: each Go function that the law reaches comes to the plain function beside it. -/
import Derived.Test.YtnblfcibgokccaaDoorPGx0
namespace Go.Proofs.YtnblfcibgokccaaDoor.PG
open Go.RowKit Go.Proofs.YtnblfcibgokccaaDoorW.PrintWords Go.Proofs.YtnblfcibgokccaaDoorW.PrintLast Go.Proofs.YtnblfcibgokccaaDoorW.PrintMore
attribute [local go_sem] max2_int min2_int max_two min_two max_three min_three max_four min_four   -- for this text's walks alone
set_option linter.unusedVariables false
set_option linter.unusedSimpArgs false

/-! ### spec_l08Image: function 50 -/
def spec_l08Image.f (a0_0 : Int) (a0_1 : Int) (l0_2 : List Int) (a1_0 : Bool) (a1_1 : Bool) (a1_2 : Int) (a2 : Int) (a3 : Int) : Option (Int × Int) := if a1_0 = true then (if a1_1 = true then (some (wrap64 (a1_2 + (wrap64 (-a2))), wrap64 ((wrap64 (a0_0 - 1)) - a3))) else (some (wrap64 (a1_2 + (wrap64 (-a2))), a3))) else (if a1_1 = true then (some (wrap64 (a1_2 + a2), wrap64 ((wrap64 (a0_0 - 1)) - a3))) else (some (wrap64 (a1_2 + a2), a3)))
set_option maxHeartbeats 8000000 in
set_option maxRecDepth 100000 in
theorem spec_l08Image.calls (a0_0 : Int) (a0_1 : Int) (A0_2 : Option Addr) (c0_2 : Nat) (l0_2 : List Int) (a1_0 : Bool) (a1_1 : Bool) (a1_2 : Int) (a2 : Int) (a3 : Int) (r1 : Int) (r2 : Int) (w : World) (hr0_2 : Kd.C (Kd.int .i64) w A0_2 l0_2.length l0_2) (hc0_2 : l0_2.length ≤ c0_2) (h : spec_l08Image.f a0_0 a0_1 l0_2 a1_0 a1_1 a1_2 a2 a3 = some (r1, r2)) :
  Calls Tryd.prog 50 #[.agg #[.int .i64 a0_0, .int .i64 a0_1, .slice A0_2 l0_2.length c0_2], .agg #[.bool a1_0, .bool a1_1, .int .i64 a1_2], .int .i64 a2, .int .i64 a3] w fun e w' => e = .returned (.tuple #[.int .i64 r1, .int .i64 r2]) ∧ Below w.heap.size w w' := by
 have hu28 := Tryd.underlying28
 have hu84 := Tryd.underlying84
 have HR0_2 := Aside0.mk hr0_2
 have HC0_2 := Aside0.mk hc0_2
 clear hr0_2 hc0_2
 have HB := asd (Below.refl w.heap.size w)
 have H : (if a1_0 = true then (if a1_1 = true then (some (wrap64 (a1_2 + (wrap64 (-a2))), wrap64 ((wrap64 (a0_0 - 1)) - a3))) else (some (wrap64 (a1_2 + (wrap64 (-a2))), a3))) else (if a1_1 = true then (some (wrap64 (a1_2 + a2), wrap64 ((wrap64 (a0_0 - 1)) - a3))) else (some (wrap64 (a1_2 + a2), a3)))) = some (r1, r2) := h
 clear h
 by_cases c5 : a1_0 = true
 ·subst c5
  replace H := ifT H
  by_cases c6 : a1_1 = true
  ·subst c6
   replace H := ifT H
   simp only [Option.some.injEq, Prod.mk.injEq] at H
   obtain ⟨rfl, rfl⟩ := H
   go_enter Tryd.func50, Tryd.ntmps50
   go_wp2_with (first | ((with_reducible refine gd 4 rfl ?_); refine bx #[.int .i64 a0_0, .int .i64 a0_1, .slice A0_2 l0_2.length c0_2] 28 ?_; intro gb162 hg w7 BK162 hb; have GE162 := ngw0 hg HB; replace HB := bS0 HB hb; clear hb hg) | ((with_reducible refine gd 5 rfl ?_); refine bx #[.bool true, .bool true, .int .i64 a1_2] 84 ?_; intro gb163 hg w8 BK163 hb; have GE163 := ngw1 hg HB GE162; replace HB := bS1 HB GE162 hb; have NB162_163 := nlt hg BK162; have NB163_162 := nsy (nlt hg BK162); replace BK162 := bB BK162 hb; clear hb hg; have hnb9 := NB163_162.out; have hnc9 := NB162_163.out; obtain ⟨hcz10_0, hcz10_1, hcz10_2, hfz10_0, hfz10_1, hfz10_2⟩ := bz3 BK163; obtain ⟨hcz11_0, hcz11_1, hcz11_2, hfz11_0, hfz11_1, hfz11_2⟩ := bz3 BK162))
   go_ret2
   exact er (bbw2 HB GE162 GE163)
  ·replace c6 := Bool.eq_false_iff.mpr c6
   subst c6
   replace H := ifF H
   simp only [Option.some.injEq, Prod.mk.injEq] at H
   obtain ⟨rfl, rfl⟩ := H
   go_enter Tryd.func50, Tryd.ntmps50
   go_wp2_with (first | ((with_reducible refine gd 4 rfl ?_); refine bx #[.int .i64 a0_0, .int .i64 a0_1, .slice A0_2 l0_2.length c0_2] 28 ?_; intro gb162 hg w12 BK162 hb; have GE162 := ngw0 hg HB; replace HB := bS0 HB hb; clear hb hg) | ((with_reducible refine gd 5 rfl ?_); refine bx #[.bool true, .bool false, .int .i64 a1_2] 84 ?_; intro gb163 hg w13 BK163 hb; have GE163 := ngw1 hg HB GE162; replace HB := bS1 HB GE162 hb; have NB162_163 := nlt hg BK162; have NB163_162 := nsy (nlt hg BK162); replace BK162 := bB BK162 hb; clear hb hg; have hnb14 := NB163_162.out; have hnc14 := NB162_163.out; obtain ⟨hcz15_0, hcz15_1, hcz15_2, hfz15_0, hfz15_1, hfz15_2⟩ := bz3 BK163))
   go_ret2
   exact er (bbw2 HB GE162 GE163)
 ·replace c5 := Bool.eq_false_iff.mpr c5
  subst c5
  replace H := ifF H
  by_cases c16 : a1_1 = true
  ·subst c16
   replace H := ifT H
   simp only [Option.some.injEq, Prod.mk.injEq] at H
   obtain ⟨rfl, rfl⟩ := H
   go_enter Tryd.func50, Tryd.ntmps50
   go_wp2_with (first | ((with_reducible refine gd 4 rfl ?_); refine bx #[.int .i64 a0_0, .int .i64 a0_1, .slice A0_2 l0_2.length c0_2] 28 ?_; intro gb162 hg w17 BK162 hb; have GE162 := ngw0 hg HB; replace HB := bS0 HB hb; clear hb hg) | ((with_reducible refine gd 5 rfl ?_); refine bx #[.bool false, .bool true, .int .i64 a1_2] 84 ?_; intro gb163 hg w18 BK163 hb; have GE163 := ngw1 hg HB GE162; replace HB := bS1 HB GE162 hb; have NB162_163 := nlt hg BK162; have NB163_162 := nsy (nlt hg BK162); replace BK162 := bB BK162 hb; clear hb hg; have hnb19 := NB163_162.out; have hnc19 := NB162_163.out; obtain ⟨hcz20_0, hcz20_1, hcz20_2, hfz20_0, hfz20_1, hfz20_2⟩ := bz3 BK163; obtain ⟨hcz21_0, hcz21_1, hcz21_2, hfz21_0, hfz21_1, hfz21_2⟩ := bz3 BK162))
   go_ret2
   exact er (bbw2 HB GE162 GE163)
  ·replace c16 := Bool.eq_false_iff.mpr c16
   subst c16
   replace H := ifF H
   simp only [Option.some.injEq, Prod.mk.injEq] at H
   obtain ⟨rfl, rfl⟩ := H
   go_enter Tryd.func50, Tryd.ntmps50
   go_wp2_with (first | ((with_reducible refine gd 4 rfl ?_); refine bx #[.int .i64 a0_0, .int .i64 a0_1, .slice A0_2 l0_2.length c0_2] 28 ?_; intro gb162 hg w22 BK162 hb; have GE162 := ngw0 hg HB; replace HB := bS0 HB hb; clear hb hg) | ((with_reducible refine gd 5 rfl ?_); refine bx #[.bool false, .bool false, .int .i64 a1_2] 84 ?_; intro gb163 hg w23 BK163 hb; have GE163 := ngw1 hg HB GE162; replace HB := bS1 HB GE162 hb; have NB162_163 := nlt hg BK162; have NB163_162 := nsy (nlt hg BK162); replace BK162 := bB BK162 hb; clear hb hg; have hnb24 := NB163_162.out; have hnc24 := NB162_163.out; obtain ⟨hcz25_0, hcz25_1, hcz25_2, hfz25_0, hfz25_1, hfz25_2⟩ := bz3 BK163))
   go_ret2
   exact er (bbw2 HB GE162 GE163)

/-! ### spec_l01Mod: function 51 -/
def spec_l01Mod.f (a0 : Int) (a1 : Int) : Option (Int) := if a1 = 0 then (none) else (if (Int.tmod a0 a1) < 0 then (some (wrap64 ((Int.tmod a0 a1) + a1))) else (some (Int.tmod a0 a1)))
set_option maxHeartbeats 8000000 in
set_option maxRecDepth 100000 in
theorem spec_l01Mod.calls (a0 : Int) (a1 : Int) (r : Int) (w : World) (h : spec_l01Mod.f a0 a1 = some r) :
  Calls Tryd.prog 51 #[.int .i64 a0, .int .i64 a1] w fun e w' => e = .returned (.int .i64 r) ∧ Drawn0 w w' := by
 have H : (if a1 = 0 then (none) else (if (Int.tmod a0 a1) < 0 then (some (wrap64 ((Int.tmod a0 a1) + a1))) else (some (Int.tmod a0 a1)))) = some r := h
 clear h
 by_cases c3 : a1 = 0
 ·rw [if_pos c3] at H
  exact absurd H (by simp)
 rw [if_neg c3] at H
 have c3b0 : (a1 == 0) = false := beq_eq_false_iff_ne.mpr c3
 have c3b1 : (a1 != 0) = true := bne_iff_ne.mpr c3
 by_cases c4 : (Int.tmod a0 a1) < 0
 rw [if_pos c4] at H
 have c4b0 := decide_eq_true c4
 clear c4
 obtain rfl := Option.some.inj H
 rotate_left
 rw [if_neg c4] at H
 have c4b0 := decide_eq_false c4
 clear c4
 obtain rfl := Option.some.inj H
 rotate_left
 all_goals
  go_enter Tryd.func51, Tryd.ntmps51
  go_wp2
  go_ret
  exact ⟨by first | rfl | (simp; done) | (simp [*]; done), by repeat (first | exact Drawn0.refl _ | apply Drawn0.step)⟩

end Go.Proofs.YtnblfcibgokccaaDoor.PG
