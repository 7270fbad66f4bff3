/- Walks written by program: each Go function that the law reaches comes to the plain function beside it. -/
import Derived.Test.YtedmadofpdkekaaGreatPAx0
import Derived.Test.YtedmadofpdkekaaGreatPAx5
namespace Go.Proofs.YtedmadofpdkekaaGreat.PA
open Go.RowKit Go.Proofs.YtedmadofpdkekaaGreatW.PrintWords Go.Proofs.YtedmadofpdkekaaGreatW.PrintLast Go.Proofs.YtedmadofpdkekaaGreatW.PrintMore
attribute [local go_sem] max2_int min2_int max_two min_two max_three min_three max_four min_four   -- for this text's walks alone
set_option linter.unusedVariables false
set_option linter.unusedSimpArgs false

/-! ### spec_l04Code: function 52 -/
def spec_l04Code.f (a0 : Int) (a1_0 : Int) (a1_1 : Int) (a1_2 : Int) : Option (Int) := (spec_IsFrame.f a0).bind fun t178 => (if t178 = true then ((spec_IsLattice.f a1_0 a1_1 a1_2).bind fun t179 => (if t179 = true then (some 0) else (some 1))) else (some 1))
set_option maxHeartbeats 8000000 in
set_option maxRecDepth 100000 in
theorem spec_l04Code.calls (a0 : Int) (a1_0 : Int) (a1_1 : Int) (a1_2 : Int) (r : Int) (w : World) (h : spec_l04Code.f a0 a1_0 a1_1 a1_2 = some r) :
  Calls Tryz.prog 52 #[.int .i64 a0, .agg #[.int .i64 a1_0, .int .i64 a1_1, .int .i64 a1_2]] w fun e w' => e = .returned (.int .i64 r) ∧ Below w.heap.size w w' := by
 have hu25 := Tryz.underlying25
 have HB := asd (Below.refl w.heap.size w)
 have H : ((spec_IsFrame.f a0).bind fun t178 => (if t178 = true then ((spec_IsLattice.f a1_0 a1_1 a1_2).bind fun t179 => (if t179 = true then (some 0) else (some 1))) else (some 1))) = some r := h
 clear h
 obtain ⟨t178, A3, H⟩ := ob H
 try dsimp only at H
 by_cases c4 : t178 = true
 subst c4
 replace H := ifT H
 obtain ⟨t179, A5, H⟩ := ob H
 try dsimp only at H
 by_cases c6 : t179 = true
 subst c6
 replace H := ifT H
 obtain rfl := Option.some.inj H
 rotate_left
 replace c6 := Bool.eq_false_iff.mpr c6
 subst c6
 replace H := ifF H
 obtain rfl := Option.some.inj H
 rotate_left
 replace c4 := Bool.eq_false_iff.mpr c4
 subst c4
 replace H := ifF H
 obtain rfl := Option.some.inj H
 rotate_left
 all_goals
  go_enter Tryz.func52, Tryz.ntmps52
 rotate_left 2
 ·go_wp2_with (first | ((with_reducible refine gd 3 rfl ?_); refine bx #[.int .i64 a1_0, .int .i64 a1_1, .int .i64 a1_2] 25 ?_; intro gb177 hg w13 BK177 hb; have GE177 := ngw0 hg HB; replace HB := bS0 HB hb; clear hb hg) | ((with_reducible refine gate_callee (f := 90) rfl ?_); refine gl 6 Tryz.func90 #[.int .i64 a0] ?_; (with_reducible refine (spec_IsFrame.calls _ _ _ A3.out).mono ?_); rintro e w' ⟨rfl, ⟨nd, rfl⟩⟩; refine ⟨_, rfl, ?_⟩))
  go_ret
  exact er (bbw1 HB GE177)
 all_goals
  go_wp2_with (first | ((with_reducible refine gd 3 rfl ?_); refine bx #[.int .i64 a1_0, .int .i64 a1_1, .int .i64 a1_2] 25 ?_; intro gb177 hg w7 BK177 hb; have GE177 := ngw0 hg HB; replace HB := bS0 HB hb; clear hb hg) | ((with_reducible refine gate_callee (f := 90) rfl ?_); refine gl 6 Tryz.func90 #[.int .i64 a0] ?_; (with_reducible refine (spec_IsFrame.calls _ _ _ A3.out).mono ?_); rintro e w' ⟨rfl, ⟨nd, rfl⟩⟩; refine ⟨_, rfl, ?_⟩; have hcz8_0 : w7.cell? ⟨gb177, 0, none⟩ = some (.int .i64 a1_0) := bcl BK177 0; have hcz8_1 : w7.cell? ⟨gb177, 1, none⟩ = some (.int .i64 a1_1) := bcl BK177 1; have hcz8_2 : w7.cell? ⟨gb177, 2, none⟩ = some (.int .i64 a1_2) := bcl BK177 2; have hfz8_0 := blk_frozen BK177.out 0; have hfz8_1 := blk_frozen BK177.out 1; have hfz8_2 := blk_frozen BK177.out 2) | (go_at_call 91; (with_reducible refine (spec_IsLattice.calls _ _ _ _ _ A5.out).mono ?_); rintro e w9 ⟨rfl, hb⟩; replace BK177 := bB BK177 hb; replace HB := bS1 HB GE177 hb; (try clear hb)))
  go_ret
  exact er (bbw1 HB GE177)
/-! ### spec_l02Unit: function 81 -/
def spec_l02Unit.f  : Option (Int × Int × Int × Int) := some (1, 0, 0, 1)
set_option maxHeartbeats 8000000 in
set_option maxRecDepth 100000 in
theorem spec_l02Unit.calls  (r1 : Int) (r2 : Int) (r3 : Int) (r4 : Int) (w : World) (h : spec_l02Unit.f  = some (r1, r2, r3, r4)) :
  Calls Tryz.prog 81 #[] w fun e w' => e = .returned (.agg #[.int .i64 r1, .int .i64 r2, .int .i64 r3, .int .i64 r4]) ∧ Below w.heap.size w w' := by
 have hu27 := Tryz.underlying27
 have HB := asd (Below.refl w.heap.size w)
 have H : (some (1, 0, 0, 1)) = some (r1, r2, r3, r4) := h
 clear h
 simp only [Option.some.injEq, Prod.mk.injEq] at H
 obtain ⟨rfl, rfl, rfl, rfl⟩ := H
 go_enter Tryz.func81, Tryz.ntmps81
 go_wp2_with (first | ((with_reducible refine gd 0 rfl ?_); refine bx #[.int .i64 0, .int .i64 0, .int .i64 0, .int .i64 0] 27 ?_; intro gb180 hg w1 BK180 hb; have GE180 := ngw0 hg HB; replace HB := bS0 HB hb; clear hb hg; obtain ⟨hcz2_0, hcz2_1, hcz2_2, hcz2_3, hfz2_0, hfz2_1, hfz2_2, hfz2_3⟩ := bz4 BK180))
 refine bodyPost_ret (results_cell_row rfl _ _ gb180 27 #[.int .i64 1, .int .i64 0, .int .i64 0, .int .i64 1] (0, 0) _ rfl (bq0 BK180) Tryz.underlying27 rfl (by kernel_rfl)) rfl ?_
 exact er (bbw1 HB GE180)
/-! ### spec_l03Basis: function 97 -/
def spec_l03Basis.f (a0_0 : Int) (a0_1 : Int) (a0_2 : Int) : Option ((List (S31))) := some (([(⟨a0_0, 0⟩ : S31), (⟨a0_1, a0_2⟩ : S31)] : List (S31)))
set_option maxHeartbeats 8000000 in
set_option maxRecDepth 100000 in
theorem spec_l03Basis.calls (a0_0 : Int) (a0_1 : Int) (a0_2 : Int) (r : List (S31)) (w : World) (h : spec_l03Basis.f a0_0 a0_1 a0_2 = some r) :
  Calls Tryz.prog 97 #[.agg #[.int .i64 a0_0, .int .i64 a0_1, .int .i64 a0_2]] w fun e w' => ∃ v0_ : Value, e = .returned (v0_) ∧ Kd.R k31 31 w' w.heap.size (fun _ => True) v0_ r ∧ Below w.heap.size w w' := by
 have hu25 := Tryz.underlying25
 have hu31 := Tryz.underlying31
 have HB := asd (Below.refl w.heap.size w)
 have H : (some (([(⟨a0_0, 0⟩ : S31), (⟨a0_1, a0_2⟩ : S31)] : List (S31)))) = some r := h
 clear h
 obtain ⟨y182, hy182⟩ : ∃ y_ : List (S31), y_ = (([(⟨a0_0, 0⟩ : S31), (⟨a0_1, a0_2⟩ : S31)] : List (S31))) := ⟨_, rfl⟩
 replace H : (some y182) = some r := by first | (rw [hy182]; with_reducible exact H) | (have H2_ := (Option.bind_some _ _).symm.trans H; rw [hy182]; with_reducible exact H2_) | (have H2_ := (Option.bind_some _ _).symm.trans H; with_reducible exact H2_) | with_reducible exact H | (rw [hy182]; exact H) | exact H
 have Ny182 := Aside0.mk hy182
 clear hy182
 obtain rfl := Option.some.inj H
 go_enter Tryz.func97, Tryz.ntmps97
 go_wp2_with (first | ((with_reducible refine gd 1 rfl ?_); refine bx #[.int .i64 a0_0, .int .i64 a0_1, .int .i64 a0_2] 25 ?_; intro gb181 hg w2 BK181 hb; have GE181 := ngw0 hg HB; replace HB := bS0 HB hb; clear hb hg; obtain ⟨hcz3_0, hcz3_1, hcz3_2, hfz3_0, hfz3_1, hfz3_2⟩ := bz3 BK181) | ((with_reducible refine gd 11 rfl ?_); refine Kd.R_lit k31 _ 31 ?hg (N := 11) ?hd (xs := ([(⟨a0_0, 0⟩ : S31), (⟨a0_1, a0_2⟩ : S31)] : List (S31))) (inner := [.int .i64 a0_0, .int .i64 0, .int .i64 a0_1, .int .i64 a0_2]) (ok := fun _ => True) (okp := fun _ => True) ?hr ?hp (fun _ hk => hk) trivial (Below.refl _ _) (Nat.le_refl _) (by simp) ?_; (case hd => rfl); (case hg => rfl); (case hr => first | (go_simp; done) | (go_simp; rfl)); (case hp => exact (Reps.c2 (show Kd.M k31 _ _ _ (⟨a0_0, 0⟩ : S31) [.int .i64 a0_0, .int .i64 0] from (k31_mkM _ _ _ (⟨a0_0, 0⟩ : S31) )) (Reps.c2 (show Kd.M k31 _ _ _ (⟨a0_1, a0_2⟩ : S31) [.int .i64 a0_1, .int .i64 a0_2] from (k31_mkM _ _ _ (⟨a0_1, a0_2⟩ : S31) )) (Reps.none _ _)))); intro v183 w4 ho5 hb hg_ hnew_; clear hg_ hnew_; (first | rw [← Ny182.out] at ho5 | (simp only [Int.reduceToNat] at ho5; rw [← Ny182.out] at ho5)); have HO184 := asd (Kd.R_lower ho5 (bsz1 HB GE181)); replace BK181 := bB BK181 hb; replace HB := bS1 HB GE181 hb; clear hb ho5))
 go_ret
 exact ⟨_, by first | rfl | (simp [errW_none, errW_some] <;> rfl) | (simp [*, errW_none, errW_some] <;> rfl), by (with_reducible repeat (first | apply Kd.R_alloc | apply Kd.R_drewN | apply Kd.R_drew)); exact HO184.out, bbw1 HB GE181⟩
/-! ### spec_l01Scale: function 54 -/
def spec_l01Scale.f (a0_0 : Int) (a0_1 : Int) (a1 : Int) : Option (Int × Int) := some (wrap64 (a1 * a0_0), wrap64 (a1 * a0_1))
set_option maxHeartbeats 8000000 in
set_option maxRecDepth 100000 in
theorem spec_l01Scale.calls (a0_0 : Int) (a0_1 : Int) (a1 : Int) (r1 : Int) (r2 : Int) (w : World) (h : spec_l01Scale.f a0_0 a0_1 a1 = some (r1, r2)) :
  Calls Tryz.prog 54 #[.agg #[.int .i64 a0_0, .int .i64 a0_1], .int .i64 a1] w fun e w' => e = .returned (.agg #[.int .i64 r1, .int .i64 r2]) ∧ Below w.heap.size w w' := by
 have hu31 := Tryz.underlying31
 have HB := asd (Below.refl w.heap.size w)
 have H : (some (wrap64 (a1 * a0_0), wrap64 (a1 * a0_1))) = some (r1, r2) := h
 clear h
 simp only [Option.some.injEq, Prod.mk.injEq] at H
 obtain ⟨rfl, rfl⟩ := H
 go_enter Tryz.func54, Tryz.ntmps54
 go_wp2_with (first | ((with_reducible refine gd 2 rfl ?_); refine bx #[.int .i64 a0_0, .int .i64 a0_1] 31 ?_; intro gb185 hg w3 BK185 hb; have GE185 := ngw0 hg HB; replace HB := bS0 HB hb; clear hb hg) | ((with_reducible refine gd 4 rfl ?_); refine bx #[.int .i64 0, .int .i64 0] 31 ?_; intro gb186 hg w4 BK186 hb; have GE186 := ngw1 hg HB GE185; replace HB := bS1 HB GE185 hb; have NB185_186 := nlt hg BK185; have NB186_185 := nsy (nlt hg BK185); replace BK185 := bB BK185 hb; clear hb hg; have hnb5 := NB185_186.out; have hnc5 := NB186_185.out; obtain ⟨hcz6_0, hcz6_1, hfz6_0, hfz6_1⟩ := bz2 BK185; obtain ⟨hcz7_0, hcz7_1, hfz7_0, hfz7_1⟩ := bz2 BK186))
 refine bodyPost_ret (results_cell_row rfl _ _ gb186 31 #[.int .i64 (wrap64 (a1 * a0_0)), .int .i64 (wrap64 (a1 * a0_1))] (0, 0) _ rfl (bq0 BK186) Tryz.underlying31 rfl (by kernel_rfl)) rfl ?_
 exact er (bbw2 HB GE185 GE186)
/-! ### spec_l01Divisor: function 70 -/
def spec_l01Divisor.f : Nat → Int → Int → Option (Int)
 | 0, _, _ => none
 | k + 1, a0, a1 => if a1 = 0 then (some (mx a0 (wrap64 (-a0)))) else ((spec_l01Divisor.f k a1 (Int.tmod a0 a1)).bind fun t187 => (some t187))
set_option maxHeartbeats 8000000 in
set_option maxRecDepth 100000 in
theorem spec_l01Divisor.calls (k : Nat) : ∀ (a0 : Int) (a1 : Int) (r : Int) (w : World) (h : spec_l01Divisor.f k a0 a1 = some r),
  Calls Tryz.prog 70 #[.int .i64 a0, .int .i64 a1] w fun e w' => e = .returned (.int .i64 r) ∧ Below w.heap.size w w' := by
 induction k using Nat.strongRecOn with
 | _ k ih =>
 intro a0 a1 r w h
 cases k with
 | zero => exact absurd h (by simp [spec_l01Divisor.f])
 | succ k =>
 simp only [spec_l01Divisor.f] at h
 have HB := asd (Below.refl w.heap.size w)
 have H : (if a1 = 0 then (some (mx a0 (wrap64 (-a0)))) else ((spec_l01Divisor.f k a1 (Int.tmod a0 a1)).bind fun t187 => (some t187))) = some r := h
 clear h
 by_cases c3 : a1 = 0
 ·rw [if_pos c3] at H
  have c3b0 : (a1 == 0) = true := beq_iff_eq.mpr c3
  have c3b1 : (a1 != 0) = false := bne_eq_false_iff_eq.mpr c3
  clear c3
  obtain ⟨ji4, hji4⟩ : ∃ j_ : Int, (mx a0 (wrap64 (-a0))) = j_ := ⟨_, rfl⟩
  replace H : (some ji4) = some r := by first | (rw [hji4] at H; first | done | exact H) | (simp only [hji4] at H ⊢; exact H)
  have hji4_ : (if a0 < (wrap64 (-a0)) then (wrap64 (-a0)) else a0) = ji4 := hji4
  obtain rfl := Option.some.inj H
  go_enter Tryz.func70, Tryz.ntmps70
  go_wp2
  go_ret
  exact ⟨by first | rfl | (simp [errW_none, errW_some] <;> rfl) | (simp only [← hji4]; first | rfl | (simp [errW_none, errW_some] <;> rfl)) | (simp [*, errW_none, errW_some] <;> rfl), bbw0 HB⟩
 ·rw [if_neg c3] at H
  have c3b0 : (a1 == 0) = false := beq_eq_false_iff_ne.mpr c3
  have c3b1 : (a1 != 0) = true := bne_iff_ne.mpr c3
  obtain ⟨t187, A5, H⟩ := ob H
  try dsimp only at H
  obtain rfl := Option.some.inj H
  go_enter Tryz.func70, Tryz.ntmps70
  go_wp2_with (first | ((with_reducible refine gate_callee (f := 70) rfl ?_); refine gl 15 Tryz.func70 #[.int .i64 a1, .int .i64 (Int.tmod a0 a1)] ?_; (with_reducible refine (ih k (by omega) a1 (Int.tmod a0 a1) t187 _ A5.out).mono ?_); rintro e w6 ⟨rfl, hb⟩; refine ⟨_, rfl, ?_⟩; replace HB := bS0 HB hb; (try clear hb)))
  go_ret
  exact er (bbw0 HB)
/-! ### spec_l01Mod: function 71 -/
def spec_l01Mod.f (a0 : Int) (a1 : Int) : Option (Int) := if a1 = 0 then (none) else (if (Int.tmod a0 a1) < 0 then (some (wrap64 ((Int.tmod a0 a1) + a1))) else (some (Int.tmod a0 a1)))
set_option maxHeartbeats 8000000 in
set_option maxRecDepth 100000 in
theorem spec_l01Mod.calls (a0 : Int) (a1 : Int) (r : Int) (w : World) (h : spec_l01Mod.f a0 a1 = some r) :
  Calls Tryz.prog 71 #[.int .i64 a0, .int .i64 a1] w fun e w' => e = .returned (.int .i64 r) ∧ Drawn0 w w' := by
 have H : (if a1 = 0 then (none) else (if (Int.tmod a0 a1) < 0 then (some (wrap64 ((Int.tmod a0 a1) + a1))) else (some (Int.tmod a0 a1)))) = some r := h
 clear h
 by_cases c3 : a1 = 0
 ·rw [if_pos c3] at H
  exact absurd H (by simp)
 rw [if_neg c3] at H
 have c3b0 : (a1 == 0) = false := beq_eq_false_iff_ne.mpr c3
 have c3b1 : (a1 != 0) = true := bne_iff_ne.mpr c3
 by_cases c4 : (Int.tmod a0 a1) < 0
 rw [if_pos c4] at H
 have c4b0 := decide_eq_true c4
 clear c4
 obtain rfl := Option.some.inj H
 rotate_left
 rw [if_neg c4] at H
 have c4b0 := decide_eq_false c4
 clear c4
 obtain rfl := Option.some.inj H
 rotate_left
 all_goals
  go_enter Tryz.func71, Tryz.ntmps71
  go_wp2
  go_ret
  exact ⟨by first | rfl | (simp; done) | (simp [*]; done), by repeat (first | exact Drawn0.refl _ | apply Drawn0.step)⟩
/-! ### spec_l03Hermite: function 98 -/
mutual
def spec_l03Hermite.l0 : Nat → List (S31) → Int → Int → Int → Int → Option (Int × Int × Int)
 | 0, _, _, _, _, _ => none
 | k + 1, x0, x4, x5, x190000, x190001 => if x5 < (x0.length : Int) then (if 0 ≤ x5 then (spec_l03Hermite.l1 k x0 x4 x5 x190000 x190001 ((rd_T31 x0 x5).f0) ((rd_T31 x0 x5).f1)) else (none)) else (if x190001 < 0 then ((spec_l01Scale.f x190000 x190001 (-1)).bind fun bt195 => (if x4 > 0 then ((spec_l01Mod.f bt195.1 x4).bind fun t197 => (some (x4, t197, bt195.2))) else (some (x4, bt195.1, bt195.2)))) else (if x4 > 0 then ((spec_l01Mod.f x190000 x4).bind fun t198 => (some (x4, t198, x190001))) else (some (x4, x190000, x190001))))
def spec_l03Hermite.l1 : Nat → List (S31) → Int → Int → Int → Int → Int → Int → Option (Int × Int × Int)
 | 0, _, _, _, _, _, _, _ => none
 | k + 1, x0, x4, x5, x190000, x190001, x192000, x192001 => if x192001 = 0 then ((spec_l01Divisor.f k x4 x192000).bind fun t193 => (if t193 > 0 then ((spec_l01Mod.f x190000 t193).bind fun t194 => (spec_l03Hermite.l0 k x0 t193 (wrap64 (x5 + 1)) t194 x190001)) else (spec_l03Hermite.l0 k x0 t193 (wrap64 (x5 + 1)) x190000 x190001))) else (spec_l03Hermite.l1 k x0 x4 x5 x192000 x192001 (wrap64 (x190000 - (wrap64 ((wrap64 (Int.tdiv x190001 x192001)) * x192000)))) (wrap64 (x190001 - (wrap64 ((wrap64 (Int.tdiv x190001 x192001)) * x192001)))))
end
def spec_l03Hermite.f (k : Nat) (l0 : List (S31)) : Option (Int × Int × Int) := spec_l03Hermite.l0 k l0 0 0 0 0
set_option maxHeartbeats 8000000 in
set_option maxRecDepth 100000 in
theorem spec_l03Hermite.calls (k : Nat) (A0 : Option Addr) (c0 : Nat) (l0 : List (S31)) (r1 : Int) (r2 : Int) (r3 : Int) (w : World) (hr0 : Kd.C k31 w A0 l0.length l0) (hc0 : l0.length ≤ c0) (h : spec_l03Hermite.f k l0 = some (r1, r2, r3)) :
  Calls Tryz.prog 98 #[.slice A0 l0.length c0] w fun e w' => e = .returned (.agg #[.int .i64 r1, .int .i64 r2, .int .i64 r3]) ∧ Below w.heap.size w w' := by
 have hu25 := Tryz.underlying25
 have hu31 := Tryz.underlying31
 have HR0 := Aside0.mk hr0
 have HC0 := Aside0.mk hc0
 clear hr0 hc0
 have HB := asd (Below.refl w.heap.size w)
 have H : (spec_l03Hermite.l0 k l0 0 0 0 0) = some (r1, r2, r3) := h
 clear h
 have H' := Aside0.mk H
 clear H
 go_enter Tryz.func98, Tryz.ntmps98
 go_wp2_with (first | ((with_reducible refine gd 2 rfl ?_); refine bx #[.int .i64 0, .int .i64 0, .int .i64 0] 25 ?_; intro gb188 hg w2 BK188 hb; have GE188 := ngw0 hg HB; replace HB := bS0 HB hb; clear hb hg) | ((with_reducible refine gd 3 rfl ?_); refine bx #[.int .i64 0, .int .i64 0] 31 ?_; intro gb189 hg w3 BK189 hb; have GE189 := ngw1 hg HB GE188; replace HB := bS1 HB GE188 hb; have NB188_189 := nlt hg BK188; have NB189_188 := nsy (nlt hg BK188); replace BK188 := bB BK188 hb; clear hb hg; have hnb4 := NB189_188.out; have hnc4 := NB188_189.out; obtain ⟨hcz5_0, hcz5_1, hfz5_0, hfz5_1⟩ := bz2 BK189))
 go_loopg [4, 5] k (fun kq v4 v5 w' => ∃ (x4_1 : Int) (x5_1 : Int) (x190000_1 : Int) (x190001_1 : Int), v4 = .int .i64 x4_1 ∧ v5 = .int .i64 x5_1 ∧ Aside0 (spec_l03Hermite.l0 kq l0 x4_1 x5_1 x190000_1 x190001_1 = some (r1, r2, r3)) ∧ Aside0 (kq ≤ k) ∧ Aside0 (w'.heap[gb188]? = some (.cells #[.int .i64 0, .int .i64 0, .int .i64 0] 25 (0, 0))) ∧ Aside0 (w'.heap[gb189]? = some (.cells #[.int .i64 x190000_1, .int .i64 x190001_1] 31 (0, 0))) ∧ Aside0 (Below w.heap.size w w'))
 case atStart => exact ⟨(0), (0), (0), (0), (by first | rfl | (simp; done) | (simp [*]; done)), (by first | rfl | (simp; done) | (simp [*]; done)), H', ⟨Nat.le_refl _⟩, ⟨bq1 BK188 NB188_189⟩, ⟨bq0 BK189⟩, ⟨bbw2 HB GE188 GE189⟩⟩
 case round =>
  clear H'
  try clear p2
  try clear c4
  try clear hcz5_0
  try clear hcz5_1
  try clear hfz5_0
  try clear hfz5_1
  obtain ⟨x4_1, x5_1, x190000_1, x190001_1, rfl, rfl, HA, HK1, BK188, BK189, HB⟩ := hrel
  cases gk with
  | zero => exact absurd HA.out (by simp [spec_l03Hermite.l0])
  | succ k1 =>
   have H := HA.out
   clear HA
   simp only [spec_l03Hermite.l0] at H
   by_cases c6 : x5_1 < (l0.length : Int)
   ·rw [if_pos c6] at H
    have c6b0 := decide_eq_true c6
    clear c6
    by_cases c7 : 0 ≤ x5_1
    ·rw [if_pos c7] at H
     have c7b0 := decide_eq_true c7
     clear c7
     have H' := Aside0.mk H
     clear H
     obtain ⟨p190, q190, ad190, e190, hx190_0, hx190_1⟩ := at_T31x HR0.out HB x5_1
     cases e190
     go_wp2_with (first | ((with_reducible refine gd 6 rfl ?_); refine bx #[.int .i64 0, .int .i64 0] 31 ?_; intro gb191 hg w8 BK191 hb; have GE191 := ngw2 hg HB GE188 GE189; replace HB := bS2 HB GE188 GE189 hb; have NB188_191 := nlt hg BK188; have NB191_188 := nsy (nlt hg BK188); replace BK188 := bB BK188 hb; have NB189_191 := nlt hg BK189; have NB191_189 := nsy (nlt hg BK189); replace BK189 := bB BK189 hb; clear hb hg; have hnb9 := NB191_188.out; have hnc9 := NB188_191.out; have hnb10 := NB191_189.out; have hnc10 := NB189_191.out; obtain ⟨hcz11_0, hcz11_1, hfz11_0, hfz11_1⟩ := bz2 BK191))
     go_loopg [] k1 (fun kq w' => ∃ (x190000_2 : Int) (x190001_2 : Int) (x192000_2 : Int) (x192001_2 : Int), Aside0 (spec_l03Hermite.l1 kq l0 x4_1 x5_1 x190000_2 x190001_2 x192000_2 x192001_2 = some (r1, r2, r3)) ∧ Aside0 (kq ≤ k1) ∧ Aside0 (w'.heap[gb188]? = some (.cells #[.int .i64 0, .int .i64 0, .int .i64 0] 25 (0, 0))) ∧ Aside0 (w'.heap[gb189]? = some (.cells #[.int .i64 x190000_2, .int .i64 x190001_2] 31 (0, 0))) ∧ Aside0 (w'.heap[gb191]? = some (.cells #[.int .i64 x192000_2, .int .i64 x192001_2] 31 (0, 0))) ∧ Aside0 (Below w.heap.size w w'))
     case atStart => exact ⟨(x190000_1), (x190001_1), ((rd_T31 l0 x5_1).f0), ((rd_T31 l0 x5_1).f1), H', ⟨Nat.le_refl _⟩, ⟨bq1 BK188 NB188_191⟩, ⟨bq1 BK189 NB189_191⟩, ⟨bq0 BK191⟩, ⟨bbw3 HB GE188 GE189 GE191⟩⟩
     case round =>
      clear H'
      try clear c1
      try clear p1
      try clear q1
      try clear hx1
      try clear p2
      try clear c4
      try clear c6
      try clear c6b0
      try clear c7
      try clear c7b0
      try clear c9
      try clear c10
      try clear hcz11_0
      try clear hcz11_1
      try clear hcz5_0
      try clear hcz5_1
      try clear hfz11_0
      try clear hfz11_1
      try clear hfz5_0
      try clear hfz5_1
      try clear hx190_0
      try clear hx190_1
      try clear p190
      try clear p2
      try clear q190
      obtain ⟨x190000_2, x190001_2, x192000_2, x192001_2, HA, HK2, BK188, BK189, BK191, HB⟩ := hrel
      cases gk with
      | zero => exact absurd HA.out (by simp [spec_l03Hermite.l1])
      | succ k2 =>
       have H := HA.out
       clear HA
       simp only [spec_l03Hermite.l1] at H
       by_cases c12 : x192001_2 = 0
       ·rw [if_pos c12] at H
        have c12b0 : (x192001_2 == 0) = true := beq_iff_eq.mpr c12
        have c12b1 : (x192001_2 != 0) = false := bne_eq_false_iff_eq.mpr c12
        clear c12
        obtain ⟨t193, A13, H⟩ := ob H
        try dsimp only at H
        by_cases c14 : t193 > 0
        ·rw [if_pos c14] at H
         have c14b0 : decide (0 < t193) = true := decide_eq_true c14
         clear c14
         obtain ⟨t194, A15, H⟩ := ob H
         try dsimp only at H
         have H' := Aside0.mk H
         clear H
         have hnb16 := NB191_188.out
         have hnc16 := NB188_191.out
         have hnb17 := NB191_189.out
         have hnc17 := NB189_191.out
         obtain ⟨hcz18_0, hcz18_1, hfz18_0, hfz18_1⟩ := bz2 BK191
         go_wp2_with (first | ((with_reducible refine gate_callee (f := 70) rfl ?_); refine gl 48 Tryz.func70 #[.int .i64 x4_1, .int .i64 x192000_2] ?_; (with_reducible refine (spec_l01Divisor.calls _ _ _ _ _ A13.out).mono ?_); rintro e w19 ⟨rfl, hb⟩; refine ⟨_, rfl, ?_⟩; replace BK188 := bB BK188 hb; replace BK189 := bB BK189 hb; replace BK191 := bB BK191 hb; replace HB := bS3 HB GE188 GE189 GE191 hb; (try clear hb); have hnb20 := NB189_188.out; have hnc20 := NB188_189.out; obtain ⟨hcz21_0, hcz21_1, hfz21_0, hfz21_1⟩ := bz2 BK189) | ((with_reducible refine gate_callee (f := 71) rfl ?_); refine gl 54 Tryz.func71 #[.int .i64 x190000_2, .int .i64 t193] ?_; (with_reducible refine (spec_l01Mod.calls _ _ _ _ A15.out).mono ?_); rintro e w' ⟨rfl, ⟨nd, rfl⟩⟩; refine ⟨_, rfl, ?_⟩; (try (rw [drewN_self w19]; generalize hq_ : World.drewN w19 _ = w19; have n0_ : Aside0 (w19.heap[gb188]? = some (.cells #[.int .i64 0, .int .i64 0, .int .i64 0] 25 (0, 0))) := ⟨by rw [← hq_]; exact (bkp BK188)⟩; have n1_ : Aside0 (w19.heap[gb189]? = some (.cells #[.int .i64 x190000_2, .int .i64 x190001_2] 31 (0, 0))) := ⟨by rw [← hq_]; exact (bkp BK189)⟩; have n2_ : Aside0 (w19.heap[gb191]? = some (.cells #[.int .i64 x192000_2, .int .i64 x192001_2] 31 (0, 0))) := ⟨by rw [← hq_]; exact (bkp BK191)⟩; have n3_ : Aside0 (Below w.heap.size w w19) := ⟨by rw [← hq_]; exact (bbw3 HB GE188 GE189 GE191)⟩; clear BK188 BK189 BK191 HB hq_; have BK188 := n0_; have BK189 := n1_; have BK191 := n2_; have HB := n3_; clear n0_ n1_ n2_ n3_)); have hcz22_0 : w19.cell? ⟨gb189, 0, none⟩ = some (.int .i64 x190000_2) := bcl BK189 0; have hcz22_1 : w19.cell? ⟨gb189, 1, none⟩ = some (.int .i64 x190001_2) := bcl BK189 1; have hfz22_0 := blk_frozen BK189.out 0; have hfz22_1 := blk_frozen BK189.out 1))
         go_roundg k2
         case measure => have := HK1.out; have := HK2.out; omega
         case rel => exact ⟨(t193), (wrap64 (x5_1 + 1)), (t194), (x190001_2), (by first | rfl | (simp; done) | (simp [*]; done)), (by first | rfl | (simp; done) | (simp [*]; done)), H', ⟨by have := HK1.out; have := HK2.out; omega⟩, ⟨bq1 BK188 NB188_189⟩, ⟨bq0 BK189⟩, ⟨bbw3 HB GE188 GE189 GE191⟩⟩
        ·rw [if_neg c14] at H
         have c14b0 : decide (0 < t193) = false := decide_eq_false c14
         clear c14
         have H' := Aside0.mk H
         clear H
         have hnb23 := NB191_188.out
         have hnc23 := NB188_191.out
         have hnb24 := NB191_189.out
         have hnc24 := NB189_191.out
         obtain ⟨hcz25_0, hcz25_1, hfz25_0, hfz25_1⟩ := bz2 BK191
         go_wp2_with (first | ((with_reducible refine gate_callee (f := 70) rfl ?_); refine gl 48 Tryz.func70 #[.int .i64 x4_1, .int .i64 x192000_2] ?_; (with_reducible refine (spec_l01Divisor.calls _ _ _ _ _ A13.out).mono ?_); rintro e w26 ⟨rfl, hb⟩; refine ⟨_, rfl, ?_⟩; replace BK188 := bB BK188 hb; replace BK189 := bB BK189 hb; replace BK191 := bB BK191 hb; replace HB := bS3 HB GE188 GE189 GE191 hb; (try clear hb)))
         go_roundg k2
         case measure => have := HK1.out; have := HK2.out; omega
         case rel => exact ⟨(t193), (wrap64 (x5_1 + 1)), (x190000_2), (x190001_2), (by first | rfl | (simp; done) | (simp [*]; done)), (by first | rfl | (simp; done) | (simp [*]; done)), H', ⟨by have := HK1.out; have := HK2.out; omega⟩, ⟨bkp BK188⟩, ⟨bkp BK189⟩, ⟨bbw3 HB GE188 GE189 GE191⟩⟩
       ·rw [if_neg c12] at H
        have c12b0 : (x192001_2 == 0) = false := beq_eq_false_iff_ne.mpr c12
        have c12b1 : (x192001_2 != 0) = true := bne_iff_ne.mpr c12
        have H' := Aside0.mk H
        clear H
        have hnb27 := NB191_188.out
        have hnc27 := NB188_191.out
        have hnb28 := NB191_189.out
        have hnc28 := NB189_191.out
        obtain ⟨hcz29_0, hcz29_1, hfz29_0, hfz29_1⟩ := bz2 BK191
        have hnb30 := NB189_188.out
        have hnc30 := NB188_189.out
        obtain ⟨hcz31_0, hcz31_1, hfz31_0, hfz31_1⟩ := bz2 BK189
        go_wp2_with (first | ((with_reducible refine gd 8 rfl ?_); refine bx #[.int .i64 0, .int .i64 0] 31 ?_; intro gb192 hg w32 BK192 hb; have GE192 := ngw3 hg HB GE188 GE189 GE191; replace HB := bS3 HB GE188 GE189 GE191 hb; have NB188_192 := nlt hg BK188; have NB192_188 := nsy (nlt hg BK188); replace BK188 := bB BK188 hb; have NB189_192 := nlt hg BK189; have NB192_189 := nsy (nlt hg BK189); replace BK189 := bB BK189 hb; have NB191_192 := nlt hg BK191; have NB192_191 := nsy (nlt hg BK191); replace BK191 := bB BK191 hb; clear hb hg; have hnb33 := NB192_188.out; have hnc33 := NB188_192.out; have hnb34 := NB192_189.out; have hnc34 := NB189_192.out; have hnb35 := NB192_191.out; have hnc35 := NB191_192.out; obtain ⟨hcz36_0, hcz36_1, hfz36_0, hfz36_1⟩ := bz2 BK192; obtain ⟨hcz37_0, hcz37_1, hfz37_0, hfz37_1⟩ := bz2 BK191; obtain ⟨hcz38_0, hcz38_1, hfz38_0, hfz38_1⟩ := bz2 BK189))
        go_roundg k2
        case measure => have := HK1.out; have := HK2.out; omega
        case rel => exact ⟨(x192000_2), (x192001_2), (wrap64 (x190000_2 - (wrap64 ((wrap64 (Int.tdiv x190001_2 x192001_2)) * x192000_2)))), (wrap64 (x190001_2 - (wrap64 ((wrap64 (Int.tdiv x190001_2 x192001_2)) * x192001_2)))), H', ⟨by have := HK1.out; have := HK2.out; omega⟩, ⟨bq3 BK188 NB188_191 NB188_189 NB188_192⟩, ⟨bq2 BK189 NB189_191 NB189_192⟩, ⟨bq2 BK191 NB191_189 NB191_192⟩, ⟨bbw4 HB GE188 GE189 GE191 GE192⟩⟩
    ·rw [if_neg c7] at H
     exact absurd H (by simp)
   ·rw [if_neg c6] at H
    have c6b0 := decide_eq_false c6
    clear c6
    by_cases c39 : x190001_1 < 0
    ·rw [if_pos c39] at H
     have c39b0 := decide_eq_true c39
     clear c39
     obtain ⟨⟨t195, t196⟩, A40, H⟩ := ob H
     try dsimp only at H
     by_cases c41 : x4_1 > 0
     ·rw [if_pos c41] at H
      have c41b0 : decide (0 < x4_1) = true := decide_eq_true c41
      clear c41
      obtain ⟨t197, A42, H⟩ := ob H
      try dsimp only at H
      simp only [Option.some.injEq, Prod.mk.injEq] at H
      obtain ⟨rfl, rfl, rfl⟩ := H
      have hnb43 := NB189_188.out
      have hnc43 := NB188_189.out
      obtain ⟨hcz44_0, hcz44_1, hfz44_0, hfz44_1⟩ := bz2 BK189
      go_wp2_with (first | ((with_reducible refine gate_callee (f := 54) rfl ?_); refine gl 60 Tryz.func54 #[.agg #[.int .i64 x190000_1, .int .i64 x190001_1], .int .i64 (-1)] ?_; (with_reducible refine (spec_l01Scale.calls _ _ _ _ _ _ A40.out).mono ?_); rintro e w45 ⟨rfl, hb⟩; refine ⟨_, rfl, ?_⟩; replace BK188 := bB BK188 hb; replace BK189 := bB BK189 hb; replace HB := bS2 HB GE188 GE189 hb; (try clear hb); obtain ⟨hcz46_0, hcz46_1, hfz46_0, hfz46_1⟩ := bz2 BK189) | ((with_reducible refine gate_callee (f := 71) rfl ?_); refine gl 66 Tryz.func71 #[.int .i64 t195, .int .i64 x4_1] ?_; (with_reducible refine (spec_l01Mod.calls _ _ _ _ A42.out).mono ?_); rintro e w' ⟨rfl, ⟨nd, rfl⟩⟩; refine ⟨_, rfl, ?_⟩; have hcz47_0 : w45.cell? ⟨gb188, 0, none⟩ = some (.int .i64 0) := bcl BK188 0; have hcz47_1 : w45.cell? ⟨gb188, 1, none⟩ = some (.int .i64 0) := bcl BK188 1; have hcz47_2 : w45.cell? ⟨gb188, 2, none⟩ = some (.int .i64 0) := bcl BK188 2; have hfz47_0 := blk_frozen BK188.out 0; have hfz47_1 := blk_frozen BK188.out 1; have hfz47_2 := blk_frozen BK188.out 2))
      refine bodyPost_ret (results_cell_row rfl _ _ gb188 25 #[.int .i64 x4_1, .int .i64 t197, .int .i64 t196] (0, 0) _ rfl (bq1 BK188 NB188_189) Tryz.underlying25 rfl (by kernel_rfl)) rfl ?_
      exact er (bbw2 HB GE188 GE189)
     ·rw [if_neg c41] at H
      have c41b0 : decide (0 < x4_1) = false := decide_eq_false c41
      clear c41
      simp only [Option.some.injEq, Prod.mk.injEq] at H
      obtain ⟨rfl, rfl, rfl⟩ := H
      have hnb48 := NB189_188.out
      have hnc48 := NB188_189.out
      obtain ⟨hcz49_0, hcz49_1, hfz49_0, hfz49_1⟩ := bz2 BK189
      go_wp2_with (first | ((with_reducible refine gate_callee (f := 54) rfl ?_); refine gl 60 Tryz.func54 #[.agg #[.int .i64 x190000_1, .int .i64 x190001_1], .int .i64 (-1)] ?_; (with_reducible refine (spec_l01Scale.calls _ _ _ _ _ _ A40.out).mono ?_); rintro e w50 ⟨rfl, hb⟩; refine ⟨_, rfl, ?_⟩; replace BK188 := bB BK188 hb; replace BK189 := bB BK189 hb; replace HB := bS2 HB GE188 GE189 hb; (try clear hb); obtain ⟨hcz51_0, hcz51_1, hfz51_0, hfz51_1⟩ := bz2 BK189; obtain ⟨hcz52_0, hcz52_1, hcz52_2, hfz52_0, hfz52_1, hfz52_2⟩ := bz3 BK188))
      refine bodyPost_ret (results_cell_row rfl _ _ gb188 25 #[.int .i64 x4_1, .int .i64 t195, .int .i64 t196] (0, 0) _ rfl (bq1 BK188 NB188_189) Tryz.underlying25 rfl (by kernel_rfl)) rfl ?_
      exact er (bbw2 HB GE188 GE189)
    ·rw [if_neg c39] at H
     have c39b0 := decide_eq_false c39
     clear c39
     by_cases c53 : x4_1 > 0
     ·rw [if_pos c53] at H
      have c53b0 : decide (0 < x4_1) = true := decide_eq_true c53
      clear c53
      obtain ⟨t198, A54, H⟩ := ob H
      try dsimp only at H
      simp only [Option.some.injEq, Prod.mk.injEq] at H
      obtain ⟨rfl, rfl, rfl⟩ := H
      have hnb55 := NB189_188.out
      have hnc55 := NB188_189.out
      obtain ⟨hcz56_0, hcz56_1, hfz56_0, hfz56_1⟩ := bz2 BK189
      go_wp2_with (first | ((with_reducible refine gate_callee (f := 71) rfl ?_); refine gl 66 Tryz.func71 #[.int .i64 x190000_1, .int .i64 x4_1] ?_; (with_reducible refine (spec_l01Mod.calls _ _ _ _ A54.out).mono ?_); rintro e w' ⟨rfl, ⟨nd, rfl⟩⟩; refine ⟨_, rfl, ?_⟩; (try (rw [drewN_self wr]; generalize hq_ : World.drewN wr _ = wr; have n0_ : Aside0 (wr.heap[gb188]? = some (.cells #[.int .i64 0, .int .i64 0, .int .i64 0] 25 (0, 0))) := ⟨by rw [← hq_]; exact (bkp BK188)⟩; have n1_ : Aside0 (wr.heap[gb189]? = some (.cells #[.int .i64 x190000_1, .int .i64 x190001_1] 31 (0, 0))) := ⟨by rw [← hq_]; exact (bkp BK189)⟩; have n2_ : Aside0 (Below w.heap.size w wr) := ⟨by rw [← hq_]; exact (bbw2 HB GE188 GE189)⟩; clear BK188 BK189 HB hq_; have BK188 := n0_; have BK189 := n1_; have HB := n2_; clear n0_ n1_ n2_)); have hcz57_0 : wr.cell? ⟨gb189, 0, none⟩ = some (.int .i64 x190000_1) := bcl BK189 0; have hcz57_1 : wr.cell? ⟨gb189, 1, none⟩ = some (.int .i64 x190001_1) := bcl BK189 1; have hfz57_0 := blk_frozen BK189.out 0; have hfz57_1 := blk_frozen BK189.out 1; have hcz58_0 : wr.cell? ⟨gb188, 0, none⟩ = some (.int .i64 0) := bcl BK188 0; have hcz58_1 : wr.cell? ⟨gb188, 1, none⟩ = some (.int .i64 0) := bcl BK188 1; have hcz58_2 : wr.cell? ⟨gb188, 2, none⟩ = some (.int .i64 0) := bcl BK188 2; have hfz58_0 := blk_frozen BK188.out 0; have hfz58_1 := blk_frozen BK188.out 1; have hfz58_2 := blk_frozen BK188.out 2))
      refine bodyPost_ret (results_cell_row rfl _ _ gb188 25 #[.int .i64 x4_1, .int .i64 t198, .int .i64 x190001_1] (0, 0) _ rfl (bq1 BK188 NB188_189) Tryz.underlying25 rfl (by kernel_rfl)) rfl ?_
      exact er (bbw2 HB GE188 GE189)
     ·rw [if_neg c53] at H
      have c53b0 : decide (0 < x4_1) = false := decide_eq_false c53
      clear c53
      simp only [Option.some.injEq, Prod.mk.injEq] at H
      obtain ⟨rfl, rfl, rfl⟩ := H
      have hnb59 := NB189_188.out
      have hnc59 := NB188_189.out
      obtain ⟨hcz60_0, hcz60_1, hfz60_0, hfz60_1⟩ := bz2 BK189
      obtain ⟨hcz61_0, hcz61_1, hcz61_2, hfz61_0, hfz61_1, hfz61_2⟩ := bz3 BK188
      go_wp2
      refine bodyPost_ret (results_cell_row rfl _ _ gb188 25 #[.int .i64 x4_1, .int .i64 x190000_1, .int .i64 x190001_1] (0, 0) _ rfl (bq0 BK188) Tryz.underlying25 rfl (by kernel_rfl)) rfl ?_
      exact er (bbw2 HB GE188 GE189)

/-! ### spec_l02Apply: function 99 -/
def spec_l02Apply.f (a0_0 : Int) (a0_1 : Int) (a0_2 : Int) (a0_3 : Int) (a1_0 : Int) (a1_1 : Int) : Option (Int × Int) := some (wrap64 ((wrap64 (a0_0 * a1_0)) + (wrap64 (a0_1 * a1_1))), wrap64 ((wrap64 (a0_2 * a1_0)) + (wrap64 (a0_3 * a1_1))))
set_option maxHeartbeats 8000000 in
set_option maxRecDepth 100000 in
theorem spec_l02Apply.calls (a0_0 : Int) (a0_1 : Int) (a0_2 : Int) (a0_3 : Int) (a1_0 : Int) (a1_1 : Int) (r1 : Int) (r2 : Int) (w : World) (h : spec_l02Apply.f a0_0 a0_1 a0_2 a0_3 a1_0 a1_1 = some (r1, r2)) :
  Calls Tryz.prog 99 #[.agg #[.int .i64 a0_0, .int .i64 a0_1, .int .i64 a0_2, .int .i64 a0_3], .agg #[.int .i64 a1_0, .int .i64 a1_1]] w fun e w' => e = .returned (.agg #[.int .i64 r1, .int .i64 r2]) ∧ Below w.heap.size w w' := by
 have hu27 := Tryz.underlying27
 have hu31 := Tryz.underlying31
 have HB := asd (Below.refl w.heap.size w)
 have H : (some (wrap64 ((wrap64 (a0_0 * a1_0)) + (wrap64 (a0_1 * a1_1))), wrap64 ((wrap64 (a0_2 * a1_0)) + (wrap64 (a0_3 * a1_1))))) = some (r1, r2) := h
 clear h
 simp only [Option.some.injEq, Prod.mk.injEq] at H
 obtain ⟨rfl, rfl⟩ := H
 go_enter Tryz.func99, Tryz.ntmps99
 go_wp2_with (first | ((with_reducible refine gd 2 rfl ?_); refine bx #[.int .i64 a0_0, .int .i64 a0_1, .int .i64 a0_2, .int .i64 a0_3] 27 ?_; intro gb199 hg w3 BK199 hb; have GE199 := ngw0 hg HB; replace HB := bS0 HB hb; clear hb hg) | ((with_reducible refine gd 3 rfl ?_); refine bx #[.int .i64 a1_0, .int .i64 a1_1] 31 ?_; intro gb200 hg w4 BK200 hb; have GE200 := ngw1 hg HB GE199; replace HB := bS1 HB GE199 hb; have NB199_200 := nlt hg BK199; have NB200_199 := nsy (nlt hg BK199); replace BK199 := bB BK199 hb; clear hb hg) | ((with_reducible refine gd 4 rfl ?_); refine bx #[.int .i64 0, .int .i64 0] 31 ?_; intro gb201 hg w5 BK201 hb; have GE201 := ngw2 hg HB GE199 GE200; replace HB := bS2 HB GE199 GE200 hb; have NB199_201 := nlt hg BK199; have NB201_199 := nsy (nlt hg BK199); replace BK199 := bB BK199 hb; have NB200_201 := nlt hg BK200; have NB201_200 := nsy (nlt hg BK200); replace BK200 := bB BK200 hb; clear hb hg; have hnb6 := NB199_200.out; have hnc6 := NB200_199.out; have hnb7 := NB199_201.out; have hnc7 := NB201_199.out; obtain ⟨hcz8_0, hcz8_1, hcz8_2, hcz8_3, hfz8_0, hfz8_1, hfz8_2, hfz8_3⟩ := bz4 BK199; have hnb9 := NB200_201.out; have hnc9 := NB201_200.out; obtain ⟨hcz10_0, hcz10_1, hfz10_0, hfz10_1⟩ := bz2 BK200; obtain ⟨hcz11_0, hcz11_1, hfz11_0, hfz11_1⟩ := bz2 BK201))
 refine bodyPost_ret (results_cell_row rfl _ _ gb201 31 #[.int .i64 (wrap64 ((wrap64 (a0_0 * a1_0)) + (wrap64 (a0_1 * a1_1)))), .int .i64 (wrap64 ((wrap64 (a0_2 * a1_0)) + (wrap64 (a0_3 * a1_1))))] (0, 0) _ rfl (bq0 BK201) Tryz.underlying31 rfl (by kernel_rfl)) rfl ?_
 exact er (bbw3 HB GE199 GE200 GE201)
/-! ### spec_l04Image: function 67 -/
def spec_l04Image.f (k : Nat) (a0_0 : Int) (a0_1 : Int) (a0_2 : Int) (a0_3 : Int) (a1_0 : Int) (a1_1 : Int) (a1_2 : Int) : Option (Int × Int × Int) := (spec_l03Basis.f a1_0 a1_1 a1_2).bind fun t205 => (if 0 < (t205.length : Int) then ((spec_l02Apply.f a0_0 a0_1 a0_2 a0_3 ((rd_T31 t205 0).f0) ((rd_T31 t205 0).f1)).bind fun bt209 => (if 1 < (t205.length : Int) then ((spec_l02Apply.f a0_0 a0_1 a0_2 a0_3 ((rd_T31 t205 1).f0) ((rd_T31 t205 1).f1)).bind fun bt212 => ((spec_l03Hermite.f k (([(⟨bt209.1, bt209.2⟩ : S31), (⟨bt212.1, bt212.2⟩ : S31)] : List (S31)))).bind fun bt217 => (some (bt217.1, bt217.2.1, bt217.2.2)))) else (none))) else (none))
def spec_l04Image.T2 : Bool × List (List Nat × List Nat) := (true, [([], []), ([], []), ([1], [1]), ([2], [2]), ([0, 3], [0, 3]), ([], []), ([], []), ([6], [6]), ([7], [7]), ([5, 8, 4], [5, 8]), ([4, 9], [4, 9]), ([10, 9], [10]), ([11, 11, 0, 1, 2, 3, 4, 5, 6, 7, 8, 9, 10, 11], [11])])
def spec_l04Image.B2 : List Nat := [0, 0, 2, 6, 15, 0, 0, 64, 192, 511, 1023, 2047, 4095]
theorem spec_l04Image.tab2 : rtab .any (opsOf Tryz.f67 2) = spec_l04Image.T2 := by kernel_rfl
theorem spec_l04Image.bits2 : waitsOk spec_l04Image.T2.2 spec_l04Image.B2 = true := by kernel_rfl
set_option maxHeartbeats 8000000 in
set_option maxRecDepth 100000 in
theorem spec_l04Image.calls (k : Nat) (a0_0 : Int) (a0_1 : Int) (a0_2 : Int) (a0_3 : Int) (a1_0 : Int) (a1_1 : Int) (a1_2 : Int) (r1 : Int) (r2 : Int) (r3 : Int) (w : World) (h : spec_l04Image.f k a0_0 a0_1 a0_2 a0_3 a1_0 a1_1 a1_2 = some (r1, r2, r3)) :
  Calls Tryz.prog 67 #[.agg #[.int .i64 a0_0, .int .i64 a0_1, .int .i64 a0_2, .int .i64 a0_3], .agg #[.int .i64 a1_0, .int .i64 a1_1, .int .i64 a1_2]] w fun e w' => e = .returned (.agg #[.int .i64 r1, .int .i64 r2, .int .i64 r3]) ∧ Below w.heap.size w w' := by
 have hu27 := Tryz.underlying27
 have hu25 := Tryz.underlying25
 have hu31 := Tryz.underlying31
 have HB := asd (Below.refl w.heap.size w)
 have H : ((spec_l03Basis.f a1_0 a1_1 a1_2).bind fun t205 => (if 0 < (t205.length : Int) then ((spec_l02Apply.f a0_0 a0_1 a0_2 a0_3 ((rd_T31 t205 0).f0) ((rd_T31 t205 0).f1)).bind fun bt209 => (if 1 < (t205.length : Int) then ((spec_l02Apply.f a0_0 a0_1 a0_2 a0_3 ((rd_T31 t205 1).f0) ((rd_T31 t205 1).f1)).bind fun bt212 => ((spec_l03Hermite.f k (([(⟨bt209.1, bt209.2⟩ : S31), (⟨bt212.1, bt212.2⟩ : S31)] : List (S31)))).bind fun bt217 => (some (bt217.1, bt217.2.1, bt217.2.2)))) else (none))) else (none))) = some (r1, r2, r3) := h
 clear h
 obtain ⟨t205, A3, H⟩ := ob H
 try dsimp only at H
 by_cases c4 : 0 < (t205.length : Int)
 ·rw [if_pos c4] at H
  have c4b0 := decide_eq_true c4
  have c4b1 : decide (0 < t205.length) = true := decide_eq_true (by omega)
  clear c4
  obtain ⟨⟨t209, t210⟩, A5, H⟩ := ob H
  try dsimp only at H
  by_cases c6 : 1 < (t205.length : Int)
  ·rw [if_pos c6] at H
   have c6b0 := decide_eq_true c6
   have c6b1 : decide (1 < t205.length) = true := decide_eq_true (by omega)
   clear c6
   obtain ⟨⟨t212, t213⟩, A7, H⟩ := ob H
   try dsimp only at H
   obtain ⟨y214, hy214⟩ : ∃ y_ : List (S31), y_ = (([(⟨t209, t210⟩ : S31), (⟨t212, t213⟩ : S31)] : List (S31))) := ⟨_, rfl⟩
   replace H : ((spec_l03Hermite.f k y214).bind fun bt217 => (some (bt217.1, bt217.2.1, bt217.2.2))) = some (r1, r2, r3) := by first | (rw [hy214]; with_reducible exact H) | (have H2_ := (Option.bind_some _ _).symm.trans H; rw [hy214]; with_reducible exact H2_) | (have H2_ := (Option.bind_some _ _).symm.trans H; with_reducible exact H2_) | with_reducible exact H | (rw [hy214]; exact H) | exact H
   have Ny214 := Aside0.mk hy214
   clear hy214
   obtain ⟨⟨t217, t218, t219⟩, A8, H⟩ := ob H
   try dsimp only at H
   simp only [Option.some.injEq, Prod.mk.injEq] at H
   obtain ⟨rfl, rfl, rfl⟩ := H
   go_enter Tryz.func67, Tryz.ntmps67
   try go_wp2_with (first | ((with_reducible refine gd 2 rfl ?_); refine bx #[.int .i64 a0_0, .int .i64 a0_1, .int .i64 a0_2, .int .i64 a0_3] 27 ?_; intro gb202 hg w9 BK202 hb; have GE202 := ngw0 hg HB; replace HB := bS0 HB hb; clear hb hg) | ((with_reducible refine gd 3 rfl ?_); refine bx #[.int .i64 a1_0, .int .i64 a1_1, .int .i64 a1_2] 25 ?_; intro gb203 hg w10 BK203 hb; have GE203 := ngw1 hg HB GE202; replace HB := bS1 HB GE202 hb; have NB202_203 := nlt hg BK202; have NB203_202 := nsy (nlt hg BK202); replace BK202 := bB BK202 hb; clear hb hg) | ((with_reducible refine gd 4 rfl ?_); refine bx #[.int .i64 0, .int .i64 0, .int .i64 0] 25 ?_; intro gb204 hg w11 BK204 hb; have GE204 := ngw2 hg HB GE202 GE203; replace HB := bS2 HB GE202 GE203 hb; have NB202_204 := nlt hg BK202; have NB204_202 := nsy (nlt hg BK202); replace BK202 := bB BK202 hb; have NB203_204 := nlt hg BK203; have NB204_203 := nsy (nlt hg BK203); replace BK203 := bB BK203 hb; clear hb hg; have hnb12 := NB203_202.out; have hnc12 := NB202_203.out; have hnb13 := NB203_204.out; have hnc13 := NB204_203.out; obtain ⟨hcz14_0, hcz14_1, hcz14_2, hfz14_0, hfz14_1, hfz14_2⟩ := bz3 BK203) | ((with_reducible refine gate_callee (f := 97) rfl ?_); refine gl 7 Tryz.func97 #[.agg #[.int .i64 a1_0, .int .i64 a1_1, .int .i64 a1_2]] ?_; (with_reducible refine (spec_l03Basis.calls _ _ _ _ _ A3.out).mono ?_); rintro e w15 ⟨v206, rfl, ho0, hb⟩; refine ⟨_, rfl, ?_⟩; have HO207 := asd (Kd.R_lower ho0 (bsz3 HB GE202 GE203 GE204)); replace BK202 := bB BK202 hb; replace BK203 := bB BK203 hb; replace BK204 := bB BK204 hb; replace HB := bS3 HB GE202 GE203 GE204 hb; (try clear hb); (try clear hb2); (try clear hk); (try clear hi); (try clear ho0)))
   replace HO207 := asd (Kd.R_drew HO207.out)
   replace BK202 := asd (blk_drew BK202.out)
   replace BK203 := asd (blk_drew BK203.out)
   replace BK204 := asd (blk_drew BK204.out)
   replace HB := asd (below_drew1 HB.out)
   obtain ⟨Ao17, co17, eo17⟩ := Kd.R_slice HO207.out
   (first | subst eo17 | (injection eo17 with f1_ f2_ f3_; have f4_ := f1_.symm; have f5_ := f3_.symm; clear f1_ f2_ f3_; subst f4_; subst f5_))
   have p208 : 0 ≤ (0 : Int) := (by omega)
   have q208 : 0 < (t205.length : Int) := od
   obtain ⟨ad208, e208, hx208_0, hx208_1⟩ := at_T31 (Kd.R_reads' HO207.out).2.2 0 p208 q208
   cases e208
   have qi208 : (0 < t205.length) = True := eq_true (by omega)
   (try rw [show ((0 : Int)).toNat = 0 from rfl] at hx208_0)
   (try rw [show 0 * 2 = 0 from rfl] at hx208_0)
   (try rw [Addr.add_zero'] at hx208_0)
   (try rw [show ((0 : Int)).toNat = 0 from rfl] at hx208_1)
   (try rw [show 0 * 2 = 0 from rfl] at hx208_1)
   (try rw [Addr.add_zero'] at hx208_1)
   replace p208 := eq_true p208
   replace q208 := eq_true q208
   have p211 : 0 ≤ (1 : Int) := (by omega)
   have q211 : 1 < (t205.length : Int) := od
   obtain ⟨ad211, e211, hx211_0, hx211_1⟩ := at_T31 (Kd.R_reads' HO207.out).2.2 1 p211 q211
   obtain rfl : ad208 = ad211 := (by injection e211)
   (try simp only [show (1 : Int).toNat = 1 from rfl, Nat.reduceMul, Nat.reduceEqDiff, Go.Addr.add, ↓reduceIte] at hx211_0)
   (try simp only [show (1 : Int).toNat = 1 from rfl, Nat.reduceMul, Nat.reduceEqDiff, Go.Addr.add, ↓reduceIte] at hx211_1)
   have qi211 : (1 < t205.length) = True := eq_true (by omega)
   (try rw [show ((1 : Int)).toNat = 1 from rfl] at hx211_0)
   (try rw [show 1 * 2 = 2 from rfl] at hx211_0)
   (try rw [show ((1 : Int)).toNat = 1 from rfl] at hx211_1)
   (try rw [show 1 * 2 = 2 from rfl] at hx211_1)
   replace p211 := eq_true p211
   replace q211 := eq_true q211
   refine sh 13 (cb4 BK202 (c1 hx208_0 (c1 hx208_1 (c1 hx211_0 (e1 hx211_1))))) (fun hHeld => ?_); refine with_tabW spec_l04Image.tab2 spec_l04Image.bits2 (fun HT_ HW_ => ?_)
   generalize w15.drew = w16 at HO207 BK202 BK203 BK204 HB hx208_0 hx208_1 hx211_0 hx211_1 hHeld ⊢
   refine pu 1 (some 9) (bs 13 2) HT_ ?_
   refine pu 2 (some 10) (bs 13 6) HT_ ?_
   refine pu 6 (some 14) (bs 13 70) HT_ ?_
   refine pu 7 (some 15) (bs 13 198) HT_ ?_
   refine ta 0 (some 8) (bs 13 199) HT_ HW_ hHeld ?_
   refine ta 3 (some 11) (bs 13 207) HT_ HW_ hHeld ?_
   refine ta 5 (some 13) (bs 13 239) HT_ HW_ hHeld ?_
   refine ta 8 (some 16) (bs 13 495) HT_ HW_ hHeld ?_
   refine ro 4 (some 12) (bT 13 9) HT_ (fun K hK => ?_)
   refine gs Tryz.func99 #[.agg #[.int .i64 a0_0, .int .i64 a0_1, .int .i64 a0_2, .int .i64 a0_3], .agg #[.int .i64 ((rd_T31 t205 0).f0), .int .i64 ((rd_T31 t205 0).f1)]] ?_
   with_reducible refine (spec_l02Apply.calls _ _ _ _ _ _ _ _ _ A5.out).mono ?_
   rintro e w18 ⟨rfl, hb⟩
   have HS4_ := hbc hb (hHeld.2.2.2.2.1)
   have HS5_ := hbc hb (hHeld.2.2.2.2.2.1)
   have HS6_ := hbc hb (hHeld.2.2.2.2.2.2.1)
   have HS7_ := hbc hb (hHeld.2.2.2.2.2.2.2)
   refine ⟨_, rfl, ?_⟩
   replace HO207 := asd (Kd.R_below (kr HO207) hb)
   replace BK202 := bB BK202 hb
   replace BK203 := bB BK203 hb
   replace BK204 := bB BK204 hb
   replace HB := bS3 HB GE202 GE203 GE204 hb
   (try clear hb)
   (try clear hb2)
   (try clear hk)
   (try clear hi)
   refine hK.out _ _ ⟨bcl BK202 0, bcl BK202 1, bcl BK202 2, bcl BK202 3, HS4_, HS5_, HS6_, HS7_⟩ (fun hHeld => ?_)
   clear hK K
   refine norm_ (a' := ?_) ?_ ?_
   rotate_left
   ·show Act.put _ (some 12) _ = _
    simp only [Act.put, sA, sB, sC, i64_w, i32_w]
    rfl
   refine ro 9 (some 17) (bT 13 10) HT_ (fun K hK => ?_)
   refine gs Tryz.func99 #[.agg #[.int .i64 a0_0, .int .i64 a0_1, .int .i64 a0_2, .int .i64 a0_3], .agg #[.int .i64 ((rd_T31 t205 1).f0), .int .i64 ((rd_T31 t205 1).f1)]] ?_
   with_reducible refine (spec_l02Apply.calls _ _ _ _ _ _ _ _ _ A7.out).mono ?_
   rintro e w19 ⟨rfl, hb⟩
   have HS4_ := hbc hb (hHeld.2.2.2.2.1)
   have HS5_ := hbc hb (hHeld.2.2.2.2.2.1)
   have HS6_ := hbc hb (hHeld.2.2.2.2.2.2.1)
   have HS7_ := hbc hb (hHeld.2.2.2.2.2.2.2)
   refine ⟨_, rfl, ?_⟩
   replace HO207 := asd (Kd.R_below (kr HO207) hb)
   replace BK202 := bB BK202 hb
   replace BK203 := bB BK203 hb
   replace BK204 := bB BK204 hb
   replace HB := bS3 HB GE202 GE203 GE204 hb
   (try clear hb)
   (try clear hb2)
   (try clear hk)
   (try clear hi)
   refine hK.out _ _ ⟨bcl BK202 0, bcl BK202 1, bcl BK202 2, bcl BK202 3, HS4_, HS5_, HS6_, HS7_⟩ (fun hHeld => ?_)
   clear hK K
   refine norm_ (a' := ?_) ?_ ?_
   rotate_left
   ·show Act.put _ (some 17) _ = _
    simp only [Act.put, sA, sB, sC, i64_w, i32_w]
    rfl
   refine ro 10 (some 18) (bT 13 11) HT_ (fun K hK => ?_)
   refine Kd.R_lit_step k31 _ 31 ?hg (N := 18) ?hd (xs := ([(⟨t209, t210⟩ : S31), (⟨t212, t213⟩ : S31)] : List (S31))) (inner := [.int .i64 t209, .int .i64 t210, .int .i64 t212, .int .i64 t213]) (ok := fun _ => True) (okp := fun _ => True) ?hr ?hp (fun _ hk => hk) trivial (Below.refl _ _) (Nat.le_refl _) (by simp) ?_; (case hd => rfl); (case hg => rfl); (case hr => first | (go_simp; done) | (go_simp; rfl)); (case hp => exact (Reps.c2 (show Kd.M k31 _ _ _ (⟨t209, t210⟩ : S31) [.int .i64 t209, .int .i64 t210] from (k31_mkM _ _ _ (⟨t209, t210⟩ : S31) )) (Reps.c2 (show Kd.M k31 _ _ _ (⟨t212, t213⟩ : S31) [.int .i64 t212, .int .i64 t213] from (k31_mkM _ _ _ (⟨t212, t213⟩ : S31) )) (Reps.none _ _))))
   intro v215 w20 ho21 hb hg_ hnew_
   have HS4_ := hbc hb (hHeld.2.2.2.2.1)
   have HS5_ := hbc hb (hHeld.2.2.2.2.2.1)
   have HS6_ := hbc hb (hHeld.2.2.2.2.2.2.1)
   have HS7_ := hbc hb (hHeld.2.2.2.2.2.2.2)
   clear hg_ hnew_
   (first | rw [← Ny214.out] at ho21 | (simp only [Int.reduceToNat] at ho21; rw [← Ny214.out] at ho21))
   have HO216 := asd (Kd.R_lower (Kd.R_new' ho21 (Kd.R_lt (kr HO207))) (bsz3 HB GE202 GE203 GE204))
   replace HO207 := asd (Kd.R_elder' (kr HO207) (Kd.R_base ho21) hb)
   replace BK202 := bB BK202 hb
   replace BK203 := bB BK203 hb
   replace BK204 := bB BK204 hb
   replace HB := bS3 HB GE202 GE203 GE204 hb
   clear hb ho21
   obtain ⟨Ao22, co22, eo22⟩ := Kd.R_slice HO216.out
   (first | subst eo22 | (injection eo22 with f1_ f2_ f3_; have f4_ := f1_.symm; have f5_ := f3_.symm; clear f1_ f2_ f3_; subst f4_; subst f5_))
   refine hK.out _ _ ⟨bcl BK202 0, bcl BK202 1, bcl BK202 2, bcl BK202 3, HS4_, HS5_, HS6_, HS7_⟩ (fun hHeld => ?_)
   clear hK K
   refine norm_ (a' := ?_) ?_ ?_
   rotate_left
   ·show Act.put _ (some 18) _ = _
    simp only [Act.put, sA, sB, sC, i64_w, i32_w]
    rfl
   refine ro 11 (some 19) (bT 13 12) HT_ (fun K hK => ?_)
   refine gs Tryz.func98 #[.slice Ao22 y214.length co22] ?_
   with_reducible refine (spec_l03Hermite.calls _ _ _ _ _ _ _ _ ?side1 ?side2 A8.out).mono ?_
   (case side1 => exact ks (Kd.R_reads' HO216.out).2.2)
   (case side2 => exact (Kd.R_reads' HO216.out).2.1)
   rintro e w23 ⟨rfl, hb⟩
   have HS4_ := hbc hb (hHeld.2.2.2.2.1)
   have HS5_ := hbc hb (hHeld.2.2.2.2.2.1)
   have HS6_ := hbc hb (hHeld.2.2.2.2.2.2.1)
   have HS7_ := hbc hb (hHeld.2.2.2.2.2.2.2)
   refine ⟨_, rfl, ?_⟩
   replace HO207 := asd (Kd.R_below (kr HO207) hb)
   replace HO216 := asd (Kd.R_below (kr HO216) hb)
   replace BK202 := bB BK202 hb
   replace BK203 := bB BK203 hb
   replace BK204 := bB BK204 hb
   replace HB := bS3 HB GE202 GE203 GE204 hb
   (try clear hb)
   (try clear hb2)
   (try clear hk)
   (try clear hi)
   refine hK.out _ _ ⟨bcl BK202 0, bcl BK202 1, bcl BK202 2, bcl BK202 3, HS4_, HS5_, HS6_, HS7_⟩ (fun hHeld => ?_)
   clear hK K
   refine norm_ (a' := ?_) ?_ ?_
   rotate_left
   ·show Act.put _ (some 19) _ = _
    simp only [Act.put, sA, sB, sC, i64_w, i32_w]
    rfl
   refine ro 12 (none) (bT 13 13) HT_ (fun K hK => ?_)
   have hs24 : w23.cell? ⟨gb204, 0, none⟩ = some (.int .i64 0) := bcl BK204 0
   have hfs24 := blk_frozen BK204.out 0
   have hns24_0 := NB202_204.out
   have hns24_1 := NB203_204.out
   have hms24_0 := NB204_202.out
   have hms24_1 := NB204_203.out
   have hs25 : w23.cell? ⟨gb204, 1, none⟩ = some (.int .i64 0) := bcl BK204 1
   have hfs25 := blk_frozen BK204.out 1
   have hns25_0 := NB202_204.out
   have hns25_1 := NB203_204.out
   have hms25_0 := NB204_202.out
   have hms25_1 := NB204_203.out
   have hs26 : w23.cell? ⟨gb204, 2, none⟩ = some (.int .i64 0) := bcl BK204 2
   have hfs26 := blk_frozen BK204.out 2
   have hns26_0 := NB202_204.out
   have hns26_1 := NB203_204.out
   have hms26_0 := NB204_202.out
   have hms26_1 := NB204_203.out
   refine skip_ (w1 := ?_) (by rfl) rfl ?_ ?_
   rotate_left
   ·go_simp
    rfl
   refine hK.out _ _ ⟨(cf3 NB202_204 (hHeld.1)), (cf3 NB202_204 (hHeld.2.1)), (cf3 NB202_204 (hHeld.2.2.1)), (cf3 NB202_204 (hHeld.2.2.2.1)), (fx3 (Kd.own_blk (Kd.R_ne HO207.out BK204.out (by decide))) (hHeld.2.2.2.2.1)), (fx3 (Kd.own_blk (Kd.R_ne HO207.out BK204.out (by decide))) (hHeld.2.2.2.2.2.1)), (fx3 (Kd.own_blk (Kd.R_ne HO207.out BK204.out (by decide))) (hHeld.2.2.2.2.2.2.1)), (fx3 (Kd.own_blk (Kd.R_ne HO207.out BK204.out (by decide))) (hHeld.2.2.2.2.2.2.2))⟩ (fun hHeld => ?_)
   clear hK K
   refine done_ (done_of HT_.out (by kernel_rfl)) ?_
   try go_wp2
   refine bodyPost_ret (results_cell_row rfl _ _ gb204 25 #[.int .i64 t217, .int .i64 t218, .int .i64 t219] (0, 0) _ rfl (bq0 BK204) Tryz.underlying25 rfl (by kernel_rfl)) rfl ?_
   exact er (bbw3 HB GE202 GE203 GE204)
  ·rw [if_neg c6] at H
   exact absurd H (by simp)
 ·rw [if_neg c4] at H
  exact absurd H (by simp)
/-! ### spec_l01Add: function 101 -/
def spec_l01Add.f (a0_0 : Int) (a0_1 : Int) (a1_0 : Int) (a1_1 : Int) : Option (Int × Int) := some (wrap64 (a0_0 + a1_0), wrap64 (a0_1 + a1_1))
set_option maxHeartbeats 8000000 in
set_option maxRecDepth 100000 in
theorem spec_l01Add.calls (a0_0 : Int) (a0_1 : Int) (a1_0 : Int) (a1_1 : Int) (r1 : Int) (r2 : Int) (w : World) (h : spec_l01Add.f a0_0 a0_1 a1_0 a1_1 = some (r1, r2)) :
  Calls Tryz.prog 101 #[.agg #[.int .i64 a0_0, .int .i64 a0_1], .agg #[.int .i64 a1_0, .int .i64 a1_1]] w fun e w' => e = .returned (.agg #[.int .i64 r1, .int .i64 r2]) ∧ Below w.heap.size w w' := by
 have hu31 := Tryz.underlying31
 have HB := asd (Below.refl w.heap.size w)
 have H : (some (wrap64 (a0_0 + a1_0), wrap64 (a0_1 + a1_1))) = some (r1, r2) := h
 clear h
 simp only [Option.some.injEq, Prod.mk.injEq] at H
 obtain ⟨rfl, rfl⟩ := H
 go_enter Tryz.func101, Tryz.ntmps101
 go_wp2_with (first | ((with_reducible refine gd 2 rfl ?_); refine bx #[.int .i64 a0_0, .int .i64 a0_1] 31 ?_; intro gb220 hg w3 BK220 hb; have GE220 := ngw0 hg HB; replace HB := bS0 HB hb; clear hb hg) | ((with_reducible refine gd 3 rfl ?_); refine bx #[.int .i64 a1_0, .int .i64 a1_1] 31 ?_; intro gb221 hg w4 BK221 hb; have GE221 := ngw1 hg HB GE220; replace HB := bS1 HB GE220 hb; have NB220_221 := nlt hg BK220; have NB221_220 := nsy (nlt hg BK220); replace BK220 := bB BK220 hb; clear hb hg) | ((with_reducible refine gd 4 rfl ?_); refine bx #[.int .i64 0, .int .i64 0] 31 ?_; intro gb222 hg w5 BK222 hb; have GE222 := ngw2 hg HB GE220 GE221; replace HB := bS2 HB GE220 GE221 hb; have NB220_222 := nlt hg BK220; have NB222_220 := nsy (nlt hg BK220); replace BK220 := bB BK220 hb; have NB221_222 := nlt hg BK221; have NB222_221 := nsy (nlt hg BK221); replace BK221 := bB BK221 hb; clear hb hg; have hnb6 := NB220_221.out; have hnc6 := NB221_220.out; have hnb7 := NB220_222.out; have hnc7 := NB222_220.out; obtain ⟨hcz8_0, hcz8_1, hfz8_0, hfz8_1⟩ := bz2 BK220; have hnb9 := NB221_222.out; have hnc9 := NB222_221.out; obtain ⟨hcz10_0, hcz10_1, hfz10_0, hfz10_1⟩ := bz2 BK221; obtain ⟨hcz11_0, hcz11_1, hfz11_0, hfz11_1⟩ := bz2 BK222))
 refine bodyPost_ret (results_cell_row rfl _ _ gb222 31 #[.int .i64 (wrap64 (a0_0 + a1_0)), .int .i64 (wrap64 (a0_1 + a1_1))] (0, 0) _ rfl (bq0 BK222) Tryz.underlying31 rfl (by kernel_rfl)) rfl ?_
 exact er (bbw3 HB GE220 GE221 GE222)
/-! ### spec_l04Norm: function 110 -/
def spec_l04Norm.f (a0 : Int) (a1_0 : Int) (a1_1 : Int) : Option (Int) := if a0 = 1 then (some (wrap64 ((wrap64 ((wrap64 (a1_0 * a1_0)) + (wrap64 (a1_1 * a1_1)))) + (wrap64 (a1_0 * a1_1))))) else (some (wrap64 ((wrap64 (a1_0 * a1_0)) + (wrap64 (a1_1 * a1_1)))))
set_option maxHeartbeats 8000000 in
set_option maxRecDepth 100000 in
theorem spec_l04Norm.calls (a0 : Int) (a1_0 : Int) (a1_1 : Int) (r : Int) (w : World) (h : spec_l04Norm.f a0 a1_0 a1_1 = some r) :
  Calls Tryz.prog 110 #[.int .i64 a0, .agg #[.int .i64 a1_0, .int .i64 a1_1]] w fun e w' => e = .returned (.int .i64 r) ∧ Below w.heap.size w w' := by
 have hu31 := Tryz.underlying31
 have HB := asd (Below.refl w.heap.size w)
 have H : (if a0 = 1 then (some (wrap64 ((wrap64 ((wrap64 (a1_0 * a1_0)) + (wrap64 (a1_1 * a1_1)))) + (wrap64 (a1_0 * a1_1))))) else (some (wrap64 ((wrap64 (a1_0 * a1_0)) + (wrap64 (a1_1 * a1_1)))))) = some r := h
 clear h
 by_cases c3 : a0 = 1
 rw [if_pos c3] at H
 have c3b0 : (a0 == 1) = true := beq_iff_eq.mpr c3
 have c3b1 : (a0 != 1) = false := bne_eq_false_iff_eq.mpr c3
 clear c3
 obtain rfl := Option.some.inj H
 rotate_left
 rw [if_neg c3] at H
 have c3b0 : (a0 == 1) = false := beq_eq_false_iff_ne.mpr c3
 have c3b1 : (a0 != 1) = true := bne_iff_ne.mpr c3
 obtain rfl := Option.some.inj H
 rotate_left
 all_goals
  go_enter Tryz.func110, Tryz.ntmps110
  go_wp2_with (first | ((with_reducible refine gd 3 rfl ?_); refine bx #[.int .i64 a1_0, .int .i64 a1_1] 31 ?_; intro gb223 hg w4 BK223 hb; have GE223 := ngw0 hg HB; replace HB := bS0 HB hb; clear hb hg; obtain ⟨hcz5_0, hcz5_1, hfz5_0, hfz5_1⟩ := bz2 BK223))
  go_ret
  exact er (bbw1 HB GE223)

end Go.Proofs.YtedmadofpdkekaaGreat.PA
