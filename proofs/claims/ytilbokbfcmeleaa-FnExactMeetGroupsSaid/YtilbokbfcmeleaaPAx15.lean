/- Walks written by program: each Go function that the law reaches comes to the plain function beside it. -/
import Derived.Test.YtilbokbfcmeleaaPAx0
import Derived.Test.YtilbokbfcmeleaaPAx5
import Derived.Test.YtilbokbfcmeleaaPAx10
import Derived.Test.YtilbokbfcmeleaaPAx14
namespace Go.Proofs.Ytilbokbfcmeleaa.PA
open Go.RowKit Go.Proofs.YtilbokbfcmeleaaW.PrintWords Go.Proofs.YtilbokbfcmeleaaW.PrintLast Go.Proofs.YtilbokbfcmeleaaW.PrintMore
attribute [local go_sem] max2_int min2_int max_two min_two max_three min_three max_four min_four   -- for this text's walks alone
set_option linter.unusedVariables false
set_option linter.unusedSimpArgs false

/-! ### laws_markMotionS: function 12 -/
def laws_markMotionS.l0 : Nat → List (S48) → Int → Int → Option (Int × (List (S48)))
 | 0, _, _, _ => none
 | k + 1, x0, x1, x5 => if x5 < (x0.length : Int) then (if 0 ≤ x5 then ((some (x0.set (x5 : Int).toNat (⟨(⟨x1, (rd_T48 x0 x5).f0.f1, (rd_T48 x0 x5).f0.f2, (rd_T48 x0 x5).f0.f3⟩ : S44), (⟨(rd_T48 x0 x5).f1.f0, (rd_T48 x0 x5).f1.f1⟩ : S46)⟩ : S48) : List (S48))).bind fun y496 => ((some (y496.set (x5 : Int).toNat (⟨(⟨(rd_T48 y496 x5).f0.f0, wrap64 (x1 + 1), (rd_T48 y496 x5).f0.f2, (rd_T48 y496 x5).f0.f3⟩ : S44), (⟨(rd_T48 y496 x5).f1.f0, (rd_T48 y496 x5).f1.f1⟩ : S46)⟩ : S48) : List (S48))).bind fun y497 => ((some (y497.set (x5 : Int).toNat (⟨(⟨(rd_T48 y497 x5).f0.f0, (rd_T48 y497 x5).f0.f1, wrap64 ((wrap64 (x1 + 1)) + 1), (rd_T48 y497 x5).f0.f3⟩ : S44), (⟨(rd_T48 y497 x5).f1.f0, (rd_T48 y497 x5).f1.f1⟩ : S46)⟩ : S48) : List (S48))).bind fun y498 => ((some (y498.set (x5 : Int).toNat (⟨(⟨(rd_T48 y498 x5).f0.f0, (rd_T48 y498 x5).f0.f1, (rd_T48 y498 x5).f0.f2, wrap64 ((wrap64 ((wrap64 (x1 + 1)) + 1)) + 1)⟩ : S44), (⟨(rd_T48 y498 x5).f1.f0, (rd_T48 y498 x5).f1.f1⟩ : S46)⟩ : S48) : List (S48))).bind fun y499 => ((some (y499.set (x5 : Int).toNat (⟨(⟨(rd_T48 y499 x5).f0.f0, (rd_T48 y499 x5).f0.f1, (rd_T48 y499 x5).f0.f2, (rd_T48 y499 x5).f0.f3⟩ : S44), (⟨wrap64 ((wrap64 ((wrap64 ((wrap64 (x1 + 1)) + 1)) + 1)) + 1), (rd_T48 y499 x5).f1.f1⟩ : S46)⟩ : S48) : List (S48))).bind fun y500 => (laws_markMotionS.l0 k (y500.set (x5 : Int).toNat (⟨(⟨(rd_T48 y500 x5).f0.f0, (rd_T48 y500 x5).f0.f1, (rd_T48 y500 x5).f0.f2, (rd_T48 y500 x5).f0.f3⟩ : S44), (⟨(rd_T48 y500 x5).f1.f0, wrap64 ((wrap64 ((wrap64 ((wrap64 ((wrap64 (x1 + 1)) + 1)) + 1)) + 1)) + 1)⟩ : S46)⟩ : S48)) (wrap64 ((wrap64 ((wrap64 ((wrap64 ((wrap64 ((wrap64 (x1 + 1)) + 1)) + 1)) + 1)) + 1)) + 1)) (wrap64 (x5 + 1)))))))) else (none)) else (some (x1, x0))
def laws_markMotionS.f (k : Nat) (l0 : List (S48)) (a1 : Int) : Option (Int × (List (S48))) := laws_markMotionS.l0 k l0 a1 0
set_option maxHeartbeats 8000000 in
set_option maxRecDepth 100000 in
theorem laws_markMotionS.calls (k : Nat) (P0_ : Nat → Prop) (u9000_ : Value) (l0 : List (S48)) (a1 : Int) (r1 : Int) (r2 : List (S48)) (w0 w : World) (hB : Below w0.heap.size w0 w) (ho0 : Kd.R k48 48 w w0.heap.size P0_ u9000_ l0) (h : laws_markMotionS.f k l0 a1 = some (r1, r2)) :
  Calls Try.prog 12 #[u9000_, .int .i64 a1] w fun e w' => e = .returned (.int .i64 r1) ∧ Kd.R k48 48 w' w0.heap.size (fun k_ => (P0_ k_ ∨ w.heap.size ≤ k_)) u9000_ r2 ∧ Below w0.heap.size w0 w' ∧ Kept w w' (fun k_ => P0_ k_) := by
 have HO0 := asd (show Kd.R k48 48 w w0.heap.size (fun k_ => (P0_ k_ ∨ w.heap.size ≤ k_)) u9000_ l0 from Kd.R_mono ho0 (fun k_ hk => (.inl hk)))
 have HK := asd (Kept.refl w (fun k_ => P0_ k_))
 have HW0 := Aside0.mk hB.size
 have HB := Aside0.mk hB
 clear hB
 have H : (laws_markMotionS.l0 k l0 a1 0) = some (r1, r2) := h
 clear h
 have H' := Aside0.mk H
 clear H
 go_enter Try.func12, Try.ntmps12
 go_wp2
 go_loopg [1, 5] k (fun kq v1 v5 w' => ∃ (x0_1 : List (S48)) (x1_1 : Int) (x5_1 : Int), v1 = .int .i64 x1_1 ∧ v5 = .int .i64 x5_1 ∧ Aside0 (laws_markMotionS.l0 kq x0_1 x1_1 x5_1 = some (r1, r2)) ∧ Aside0 (kq ≤ k) ∧ Aside0 (Kd.R k48 48 w' w0.heap.size (fun k_ => (P0_ k_ ∨ w.heap.size ≤ k_)) u9000_ x0_1) ∧ Aside0 (Kept w w' (fun k_ => P0_ k_)) ∧ Aside0 (Below w0.heap.size w0 w'))
 case atStart => exact ⟨(l0), (a1), (0), (by first | rfl | (simp; done) | (simp [*]; done)), (by first | rfl | (simp; done) | (simp [*]; done)), H', ⟨Nat.le_refl _⟩, ⟨by (with_reducible repeat (first | apply Kd.R_alloc | apply Kd.R_drewN | apply Kd.R_drew)); exact HO0.out⟩, ⟨by repeat (first | (with_reducible first | exact HK.out | apply Kept.alloc | apply Kept.drewN | apply Kept.drew) | exact HK.out)⟩, ⟨bbw0 HB⟩⟩
 case round =>
  clear H'
  try clear c1
  try clear p2
  obtain ⟨x0_1, x1_1, x5_1, rfl, rfl, HA, HK1, HO_0, HK, HB⟩ := hrel
  cases gk with
  | zero => exact absurd HA.out (by simp [laws_markMotionS.l0])
  | succ k1 =>
   have H := HA.out
   clear HA
   simp only [laws_markMotionS.l0] at H
   by_cases c3 : x5_1 < (x0_1.length : Int)
   ·rw [if_pos c3] at H
    have c3b0 := decide_eq_true c3
    clear c3
    by_cases c4 : 0 ≤ x5_1
    ·rw [if_pos c4] at H
     have c4b0 := decide_eq_true c4
     clear c4
     obtain ⟨y496, hy496⟩ : ∃ y_ : List (S48), y_ = (x0_1.set (x5_1 : Int).toNat (⟨(⟨x1_1, (rd_T48 x0_1 x5_1).f0.f1, (rd_T48 x0_1 x5_1).f0.f2, (rd_T48 x0_1 x5_1).f0.f3⟩ : S44), (⟨(rd_T48 x0_1 x5_1).f1.f0, (rd_T48 x0_1 x5_1).f1.f1⟩ : S46)⟩ : S48)) := ⟨_, rfl⟩
     replace H : ((some (y496.set (x5_1 : Int).toNat (⟨(⟨(rd_T48 y496 x5_1).f0.f0, wrap64 (x1_1 + 1), (rd_T48 y496 x5_1).f0.f2, (rd_T48 y496 x5_1).f0.f3⟩ : S44), (⟨(rd_T48 y496 x5_1).f1.f0, (rd_T48 y496 x5_1).f1.f1⟩ : S46)⟩ : S48) : List (S48))).bind fun y497 => ((some (y497.set (x5_1 : Int).toNat (⟨(⟨(rd_T48 y497 x5_1).f0.f0, (rd_T48 y497 x5_1).f0.f1, wrap64 ((wrap64 (x1_1 + 1)) + 1), (rd_T48 y497 x5_1).f0.f3⟩ : S44), (⟨(rd_T48 y497 x5_1).f1.f0, (rd_T48 y497 x5_1).f1.f1⟩ : S46)⟩ : S48) : List (S48))).bind fun y498 => ((some (y498.set (x5_1 : Int).toNat (⟨(⟨(rd_T48 y498 x5_1).f0.f0, (rd_T48 y498 x5_1).f0.f1, (rd_T48 y498 x5_1).f0.f2, wrap64 ((wrap64 ((wrap64 (x1_1 + 1)) + 1)) + 1)⟩ : S44), (⟨(rd_T48 y498 x5_1).f1.f0, (rd_T48 y498 x5_1).f1.f1⟩ : S46)⟩ : S48) : List (S48))).bind fun y499 => ((some (y499.set (x5_1 : Int).toNat (⟨(⟨(rd_T48 y499 x5_1).f0.f0, (rd_T48 y499 x5_1).f0.f1, (rd_T48 y499 x5_1).f0.f2, (rd_T48 y499 x5_1).f0.f3⟩ : S44), (⟨wrap64 ((wrap64 ((wrap64 ((wrap64 (x1_1 + 1)) + 1)) + 1)) + 1), (rd_T48 y499 x5_1).f1.f1⟩ : S46)⟩ : S48) : List (S48))).bind fun y500 => (laws_markMotionS.l0 k1 (y500.set (x5_1 : Int).toNat (⟨(⟨(rd_T48 y500 x5_1).f0.f0, (rd_T48 y500 x5_1).f0.f1, (rd_T48 y500 x5_1).f0.f2, (rd_T48 y500 x5_1).f0.f3⟩ : S44), (⟨(rd_T48 y500 x5_1).f1.f0, wrap64 ((wrap64 ((wrap64 ((wrap64 ((wrap64 (x1_1 + 1)) + 1)) + 1)) + 1)) + 1)⟩ : S46)⟩ : S48)) (wrap64 ((wrap64 ((wrap64 ((wrap64 ((wrap64 ((wrap64 (x1_1 + 1)) + 1)) + 1)) + 1)) + 1)) + 1)) (wrap64 (x5_1 + 1))))))) = some (r1, r2) := by first | (rw [hy496]; with_reducible exact H) | (have H2_ := (Option.bind_some _ _).symm.trans H; rw [hy496]; with_reducible exact H2_) | (have H2_ := (Option.bind_some _ _).symm.trans H; with_reducible exact H2_) | with_reducible exact H | (rw [hy496]; exact H) | exact H
     have Ny496 := Aside0.mk hy496
     clear hy496
     obtain ⟨y497, hy497⟩ : ∃ y_ : List (S48), y_ = (y496.set (x5_1 : Int).toNat (⟨(⟨(rd_T48 y496 x5_1).f0.f0, wrap64 (x1_1 + 1), (rd_T48 y496 x5_1).f0.f2, (rd_T48 y496 x5_1).f0.f3⟩ : S44), (⟨(rd_T48 y496 x5_1).f1.f0, (rd_T48 y496 x5_1).f1.f1⟩ : S46)⟩ : S48)) := ⟨_, rfl⟩
     replace H : ((some (y497.set (x5_1 : Int).toNat (⟨(⟨(rd_T48 y497 x5_1).f0.f0, (rd_T48 y497 x5_1).f0.f1, wrap64 ((wrap64 (x1_1 + 1)) + 1), (rd_T48 y497 x5_1).f0.f3⟩ : S44), (⟨(rd_T48 y497 x5_1).f1.f0, (rd_T48 y497 x5_1).f1.f1⟩ : S46)⟩ : S48) : List (S48))).bind fun y498 => ((some (y498.set (x5_1 : Int).toNat (⟨(⟨(rd_T48 y498 x5_1).f0.f0, (rd_T48 y498 x5_1).f0.f1, (rd_T48 y498 x5_1).f0.f2, wrap64 ((wrap64 ((wrap64 (x1_1 + 1)) + 1)) + 1)⟩ : S44), (⟨(rd_T48 y498 x5_1).f1.f0, (rd_T48 y498 x5_1).f1.f1⟩ : S46)⟩ : S48) : List (S48))).bind fun y499 => ((some (y499.set (x5_1 : Int).toNat (⟨(⟨(rd_T48 y499 x5_1).f0.f0, (rd_T48 y499 x5_1).f0.f1, (rd_T48 y499 x5_1).f0.f2, (rd_T48 y499 x5_1).f0.f3⟩ : S44), (⟨wrap64 ((wrap64 ((wrap64 ((wrap64 (x1_1 + 1)) + 1)) + 1)) + 1), (rd_T48 y499 x5_1).f1.f1⟩ : S46)⟩ : S48) : List (S48))).bind fun y500 => (laws_markMotionS.l0 k1 (y500.set (x5_1 : Int).toNat (⟨(⟨(rd_T48 y500 x5_1).f0.f0, (rd_T48 y500 x5_1).f0.f1, (rd_T48 y500 x5_1).f0.f2, (rd_T48 y500 x5_1).f0.f3⟩ : S44), (⟨(rd_T48 y500 x5_1).f1.f0, wrap64 ((wrap64 ((wrap64 ((wrap64 ((wrap64 (x1_1 + 1)) + 1)) + 1)) + 1)) + 1)⟩ : S46)⟩ : S48)) (wrap64 ((wrap64 ((wrap64 ((wrap64 ((wrap64 ((wrap64 (x1_1 + 1)) + 1)) + 1)) + 1)) + 1)) + 1)) (wrap64 (x5_1 + 1)))))) = some (r1, r2) := by first | (rw [hy497]; with_reducible exact H) | (have H2_ := (Option.bind_some _ _).symm.trans H; rw [hy497]; with_reducible exact H2_) | (have H2_ := (Option.bind_some _ _).symm.trans H; with_reducible exact H2_) | with_reducible exact H | (rw [hy497]; exact H) | exact H
     have Ny497 := Aside0.mk hy497
     clear hy497
     obtain ⟨y498, hy498⟩ : ∃ y_ : List (S48), y_ = (y497.set (x5_1 : Int).toNat (⟨(⟨(rd_T48 y497 x5_1).f0.f0, (rd_T48 y497 x5_1).f0.f1, wrap64 ((wrap64 (x1_1 + 1)) + 1), (rd_T48 y497 x5_1).f0.f3⟩ : S44), (⟨(rd_T48 y497 x5_1).f1.f0, (rd_T48 y497 x5_1).f1.f1⟩ : S46)⟩ : S48)) := ⟨_, rfl⟩
     replace H : ((some (y498.set (x5_1 : Int).toNat (⟨(⟨(rd_T48 y498 x5_1).f0.f0, (rd_T48 y498 x5_1).f0.f1, (rd_T48 y498 x5_1).f0.f2, wrap64 ((wrap64 ((wrap64 (x1_1 + 1)) + 1)) + 1)⟩ : S44), (⟨(rd_T48 y498 x5_1).f1.f0, (rd_T48 y498 x5_1).f1.f1⟩ : S46)⟩ : S48) : List (S48))).bind fun y499 => ((some (y499.set (x5_1 : Int).toNat (⟨(⟨(rd_T48 y499 x5_1).f0.f0, (rd_T48 y499 x5_1).f0.f1, (rd_T48 y499 x5_1).f0.f2, (rd_T48 y499 x5_1).f0.f3⟩ : S44), (⟨wrap64 ((wrap64 ((wrap64 ((wrap64 (x1_1 + 1)) + 1)) + 1)) + 1), (rd_T48 y499 x5_1).f1.f1⟩ : S46)⟩ : S48) : List (S48))).bind fun y500 => (laws_markMotionS.l0 k1 (y500.set (x5_1 : Int).toNat (⟨(⟨(rd_T48 y500 x5_1).f0.f0, (rd_T48 y500 x5_1).f0.f1, (rd_T48 y500 x5_1).f0.f2, (rd_T48 y500 x5_1).f0.f3⟩ : S44), (⟨(rd_T48 y500 x5_1).f1.f0, wrap64 ((wrap64 ((wrap64 ((wrap64 ((wrap64 (x1_1 + 1)) + 1)) + 1)) + 1)) + 1)⟩ : S46)⟩ : S48)) (wrap64 ((wrap64 ((wrap64 ((wrap64 ((wrap64 ((wrap64 (x1_1 + 1)) + 1)) + 1)) + 1)) + 1)) + 1)) (wrap64 (x5_1 + 1))))) = some (r1, r2) := by first | (rw [hy498]; with_reducible exact H) | (have H2_ := (Option.bind_some _ _).symm.trans H; rw [hy498]; with_reducible exact H2_) | (have H2_ := (Option.bind_some _ _).symm.trans H; with_reducible exact H2_) | with_reducible exact H | (rw [hy498]; exact H) | exact H
     have Ny498 := Aside0.mk hy498
     clear hy498
     obtain ⟨y499, hy499⟩ : ∃ y_ : List (S48), y_ = (y498.set (x5_1 : Int).toNat (⟨(⟨(rd_T48 y498 x5_1).f0.f0, (rd_T48 y498 x5_1).f0.f1, (rd_T48 y498 x5_1).f0.f2, wrap64 ((wrap64 ((wrap64 (x1_1 + 1)) + 1)) + 1)⟩ : S44), (⟨(rd_T48 y498 x5_1).f1.f0, (rd_T48 y498 x5_1).f1.f1⟩ : S46)⟩ : S48)) := ⟨_, rfl⟩
     replace H : ((some (y499.set (x5_1 : Int).toNat (⟨(⟨(rd_T48 y499 x5_1).f0.f0, (rd_T48 y499 x5_1).f0.f1, (rd_T48 y499 x5_1).f0.f2, (rd_T48 y499 x5_1).f0.f3⟩ : S44), (⟨wrap64 ((wrap64 ((wrap64 ((wrap64 (x1_1 + 1)) + 1)) + 1)) + 1), (rd_T48 y499 x5_1).f1.f1⟩ : S46)⟩ : S48) : List (S48))).bind fun y500 => (laws_markMotionS.l0 k1 (y500.set (x5_1 : Int).toNat (⟨(⟨(rd_T48 y500 x5_1).f0.f0, (rd_T48 y500 x5_1).f0.f1, (rd_T48 y500 x5_1).f0.f2, (rd_T48 y500 x5_1).f0.f3⟩ : S44), (⟨(rd_T48 y500 x5_1).f1.f0, wrap64 ((wrap64 ((wrap64 ((wrap64 ((wrap64 (x1_1 + 1)) + 1)) + 1)) + 1)) + 1)⟩ : S46)⟩ : S48)) (wrap64 ((wrap64 ((wrap64 ((wrap64 ((wrap64 ((wrap64 (x1_1 + 1)) + 1)) + 1)) + 1)) + 1)) + 1)) (wrap64 (x5_1 + 1)))) = some (r1, r2) := by first | (rw [hy499]; with_reducible exact H) | (have H2_ := (Option.bind_some _ _).symm.trans H; rw [hy499]; with_reducible exact H2_) | (have H2_ := (Option.bind_some _ _).symm.trans H; with_reducible exact H2_) | with_reducible exact H | (rw [hy499]; exact H) | exact H
     have Ny499 := Aside0.mk hy499
     clear hy499
     obtain ⟨y500, hy500⟩ : ∃ y_ : List (S48), y_ = (y499.set (x5_1 : Int).toNat (⟨(⟨(rd_T48 y499 x5_1).f0.f0, (rd_T48 y499 x5_1).f0.f1, (rd_T48 y499 x5_1).f0.f2, (rd_T48 y499 x5_1).f0.f3⟩ : S44), (⟨wrap64 ((wrap64 ((wrap64 ((wrap64 (x1_1 + 1)) + 1)) + 1)) + 1), (rd_T48 y499 x5_1).f1.f1⟩ : S46)⟩ : S48)) := ⟨_, rfl⟩
     replace H : (laws_markMotionS.l0 k1 (y500.set (x5_1 : Int).toNat (⟨(⟨(rd_T48 y500 x5_1).f0.f0, (rd_T48 y500 x5_1).f0.f1, (rd_T48 y500 x5_1).f0.f2, (rd_T48 y500 x5_1).f0.f3⟩ : S44), (⟨(rd_T48 y500 x5_1).f1.f0, wrap64 ((wrap64 ((wrap64 ((wrap64 ((wrap64 (x1_1 + 1)) + 1)) + 1)) + 1)) + 1)⟩ : S46)⟩ : S48)) (wrap64 ((wrap64 ((wrap64 ((wrap64 ((wrap64 ((wrap64 (x1_1 + 1)) + 1)) + 1)) + 1)) + 1)) + 1)) (wrap64 (x5_1 + 1))) = some (r1, r2) := by first | (rw [hy500]; with_reducible exact H) | (have H2_ := (Option.bind_some _ _).symm.trans H; rw [hy500]; with_reducible exact H2_) | (have H2_ := (Option.bind_some _ _).symm.trans H; with_reducible exact H2_) | with_reducible exact H | (rw [hy500]; exact H) | exact H
     have Ny500 := Aside0.mk hy500
     clear hy500
     obtain ⟨y501, hy501⟩ : ∃ y_ : List (S48), y_ = (y500.set (x5_1 : Int).toNat (⟨(⟨(rd_T48 y500 x5_1).f0.f0, (rd_T48 y500 x5_1).f0.f1, (rd_T48 y500 x5_1).f0.f2, (rd_T48 y500 x5_1).f0.f3⟩ : S44), (⟨(rd_T48 y500 x5_1).f1.f0, wrap64 ((wrap64 ((wrap64 ((wrap64 ((wrap64 (x1_1 + 1)) + 1)) + 1)) + 1)) + 1)⟩ : S46)⟩ : S48)) := ⟨_, rfl⟩
     replace H : (laws_markMotionS.l0 k1 y501 (wrap64 ((wrap64 ((wrap64 ((wrap64 ((wrap64 ((wrap64 (x1_1 + 1)) + 1)) + 1)) + 1)) + 1)) + 1)) (wrap64 (x5_1 + 1))) = some (r1, r2) := by first | (rw [hy501]; with_reducible exact H) | (have H2_ := (Option.bind_some _ _).symm.trans H; rw [hy501]; with_reducible exact H2_) | (have H2_ := (Option.bind_some _ _).symm.trans H; with_reducible exact H2_) | with_reducible exact H | (rw [hy501]; exact H) | exact H
     have Ny501 := Aside0.mk hy501
     clear hy501
     have H' := Aside0.mk H
     clear H
     obtain ⟨Ao11, co11, eo11⟩ := Kd.R_slice HO_0.out
     subst eo11
     have p5 : 0 ≤ (x5_1 : Int) := od
     have q5 : (x5_1 : Int) < ((x0_1.length : Int) : Int) := od
     obtain ⟨go5, co5, eo5, gb5, gl5, cl5, HG5⟩ := Kd.R_form HO_0.out (by omega)
     (first | cases eo5 | (injection eo5 with ea_ en_ ec_; (first | subst ea_ | (injection ea_ with ea_; subst ea_)); subst ec_; clear en_))
     have GB5 := Aside0.mk gb5
     have GG5 := Aside0.mk HG5
     clear gb5 gl5 HG5
     have HMgo5 := asd (show (P0_ go5 ∨ w.heap.size ≤ go5) from (HO_0.out.1 _ rfl))
     obtain ⟨ce5, hcl5, hM5, hcc5, hfr5⟩ := Kd.R_elem HO_0.out z48 (x5_1 : Int) p5 q5
     obtain rfl := k48_openM hM5
     have hx5_0 : wr.cell? ⟨go5, (x5_1 : Int).toNat * 6, none⟩ = some (.int .i64 ((rd_T48 x0_1 x5_1).f0.f0)) := hcc5 0 _ rfl
     have hx5_1 : wr.cell? ⟨go5, (x5_1 : Int).toNat * 6 + 1, none⟩ = some (.int .i64 ((rd_T48 x0_1 x5_1).f0.f1)) := hcc5 1 _ rfl
     have hx5_2 : wr.cell? ⟨go5, (x5_1 : Int).toNat * 6 + 2, none⟩ = some (.int .i64 ((rd_T48 x0_1 x5_1).f0.f2)) := hcc5 2 _ rfl
     have hx5_3 : wr.cell? ⟨go5, (x5_1 : Int).toNat * 6 + 3, none⟩ = some (.int .i64 ((rd_T48 x0_1 x5_1).f0.f3)) := hcc5 3 _ rfl
     have hx5_4 : wr.cell? ⟨go5, (x5_1 : Int).toNat * 6 + 4, none⟩ = some (.int .i64 ((rd_T48 x0_1 x5_1).f1.f0)) := hcc5 4 _ rfl
     have hx5_5 : wr.cell? ⟨go5, (x5_1 : Int).toNat * 6 + 5, none⟩ = some (.int .i64 ((rd_T48 x0_1 x5_1).f1.f1)) := hcc5 5 _ rfl
     have hf5_0 : wr.frozen? ⟨go5, (x5_1 : Int).toNat * 6, none⟩ = false := hfr5 0
     have hf5_1 : wr.frozen? ⟨go5, (x5_1 : Int).toNat * 6 + 1, none⟩ = false := hfr5 1
     have hf5_2 : wr.frozen? ⟨go5, (x5_1 : Int).toNat * 6 + 2, none⟩ = false := hfr5 2
     have hf5_3 : wr.frozen? ⟨go5, (x5_1 : Int).toNat * 6 + 3, none⟩ = false := hfr5 3
     have hf5_4 : wr.frozen? ⟨go5, (x5_1 : Int).toNat * 6 + 4, none⟩ = false := hfr5 4
     have hf5_5 : wr.frozen? ⟨go5, (x5_1 : Int).toNat * 6 + 5, none⟩ = false := hfr5 5
     clear hcl5 hcc5 hfr5 hM5
     replace p5 := eq_true p5
     replace q5 := eq_true q5
     have HX12 := asd (show Kd.R k48 48 wr w0.heap.size (fun k_ => (P0_ k_ ∨ w.heap.size ≤ k_)) (.slice (some ⟨go5, 0, none⟩) x0_1.length co11) x0_1 from (kr HO_0))
     obtain ⟨ce12, hcl12, hM12, hcc12, hfr12⟩ := Kd.R_elem HX12.out z48 (x5_1 : Int) (od) (by have h_ : (x5_1 : Int) < ((x0_1.length : Int) : Int) := od; first | exact h_ | (have e_ := (Kd.R_reads' HO_0.out).1; omega) | simpa using h_)
     obtain rfl := k48_openM hM12
     have HP12 := Kd.R_seg HX12.out (x5_1 : Int) (od) (by have h_ : (x5_1 : Int) < ((x0_1.length : Int) : Int) := od; first | exact h_ | (have e_ := (Kd.R_reads' HO_0.out).1; omega) | simpa using h_) (seg := [.int .i64 x1_1]) (j := 0) hcl12 hcc12 (show 1 ≤ 6 from by decide) (x' := (⟨(⟨x1_1, (rd_T48 x0_1 x5_1).f0.f1, (rd_T48 x0_1 x5_1).f0.f2, (rd_T48 x0_1 x5_1).f0.f3⟩ : S44), (⟨(rd_T48 x0_1 x5_1).f1.f0, (rd_T48 x0_1 x5_1).f1.f1⟩ : S46)⟩ : S48)) (k48_mkM _ _ _ (⟨(⟨x1_1, (rd_T48 x0_1 x5_1).f0.f1, (rd_T48 x0_1 x5_1).f0.f2, (rd_T48 x0_1 x5_1).f0.f3⟩ : S44), (⟨(rd_T48 x0_1 x5_1).f1.f0, (rd_T48 x0_1 x5_1).f1.f1⟩ : S46)⟩ : S48) ) (fun _ hk => hk)
     have hx12_0 := hcc12 0 _ rfl
     (try simp only [show (k48).sz = 6 from rfl, Nat.mul_one, Nat.add_zero] at hx12_0)
     have hf12_0 := hfr12 0
     (try simp only [show (k48).sz = 6 from rfl, Nat.mul_one, Nat.add_zero] at hf12_0)
     clear hcl12 hcc12 hfr12 hM12
     go_wp2_with (first | ((with_reducible refine gate_store (t := 2) (p := 17) rfl ?_); refine store_event (t := 2) (p := 17) (v := ?vo_w13) (w1 := (wr.setCell ⟨go5, (x5_1 : Int).toNat * 6, none⟩ (.int .i64 x1_1))) ?hg ?ho ?hn ?hr ?_; (case ho => rfl); (case hg => rfl); (case hn => rfl); (case hr => first | (go_simp; done) | (go_simp; rfl)); intro w13 hw; have hg : wr.grownBy w13 (some go5) := (by rw [hw]; exact HP12.2); have hp_ : Kd.R k48 48 w13 w0.heap.size (fun k_ => (P0_ k_ ∨ w.heap.size ≤ k_)) (.slice (some ⟨go5, 0, none⟩) x0_1.length co11) y496 := (by rw [hw, Ny496.out]; exact HP12.1); clear HP12; replace HB := asd ((by rw [hw]; exact below_set (HB.out) GB5.out : Below w0.heap.size w0 w13)); replace HK := asd (Kept.of_grown (S := (fun k_ => P0_ k_)) hg (by repeat (first | (with_reducible first | exact HK.out | apply Kept.alloc | apply Kept.drewN | apply Kept.drew) | exact HK.out)) (fun k_ e_ => (HO_0.out.1 k_ e_))); replace HO_0 := asd (hp_); clear hg hw hp_; have p6 : 0 ≤ (x5_1 : Int) := od; have q6 : (x5_1 : Int) < ((x0_1.length : Int) : Int) := od; obtain ⟨ce6, hcl6, hM6, hcc6, hfr6⟩ := Kd.R_elem HO_0.out z48 (x5_1 : Int) p6 q6; obtain rfl := k48_openM hM6; have hx6_0 : w13.cell? ⟨go5, (x5_1 : Int).toNat * 6, none⟩ = some (.int .i64 ((rd_T48 y496 x5_1).f0.f0)) := hcc6 0 _ rfl; have hx6_1 : w13.cell? ⟨go5, (x5_1 : Int).toNat * 6 + 1, none⟩ = some (.int .i64 ((rd_T48 y496 x5_1).f0.f1)) := hcc6 1 _ rfl; have hx6_2 : w13.cell? ⟨go5, (x5_1 : Int).toNat * 6 + 2, none⟩ = some (.int .i64 ((rd_T48 y496 x5_1).f0.f2)) := hcc6 2 _ rfl; have hx6_3 : w13.cell? ⟨go5, (x5_1 : Int).toNat * 6 + 3, none⟩ = some (.int .i64 ((rd_T48 y496 x5_1).f0.f3)) := hcc6 3 _ rfl; have hx6_4 : w13.cell? ⟨go5, (x5_1 : Int).toNat * 6 + 4, none⟩ = some (.int .i64 ((rd_T48 y496 x5_1).f1.f0)) := hcc6 4 _ rfl; have hx6_5 : w13.cell? ⟨go5, (x5_1 : Int).toNat * 6 + 5, none⟩ = some (.int .i64 ((rd_T48 y496 x5_1).f1.f1)) := hcc6 5 _ rfl; have hf6_0 : w13.frozen? ⟨go5, (x5_1 : Int).toNat * 6, none⟩ = false := hfr6 0; have hf6_1 : w13.frozen? ⟨go5, (x5_1 : Int).toNat * 6 + 1, none⟩ = false := hfr6 1; have hf6_2 : w13.frozen? ⟨go5, (x5_1 : Int).toNat * 6 + 2, none⟩ = false := hfr6 2; have hf6_3 : w13.frozen? ⟨go5, (x5_1 : Int).toNat * 6 + 3, none⟩ = false := hfr6 3; have hf6_4 : w13.frozen? ⟨go5, (x5_1 : Int).toNat * 6 + 4, none⟩ = false := hfr6 4; have hf6_5 : w13.frozen? ⟨go5, (x5_1 : Int).toNat * 6 + 5, none⟩ = false := hfr6 5; clear hcl6 hcc6 hfr6 hM6; replace p6 := eq_true p6; replace q6 := eq_true q6; have HX14 := asd (show Kd.R k48 48 w13 w0.heap.size (fun k_ => (P0_ k_ ∨ w.heap.size ≤ k_)) (.slice (some ⟨go5, 0, none⟩) x0_1.length co11) y496 from (kr HO_0)); obtain ⟨ce14, hcl14, hM14, hcc14, hfr14⟩ := Kd.R_elem HX14.out z48 (x5_1 : Int) (od) (by have h_ : (x5_1 : Int) < ((x0_1.length : Int) : Int) := od; first | exact h_ | (have e_ := (Kd.R_reads' HO_0.out).1; omega) | simpa using h_); obtain rfl := k48_openM hM14; have HP14 := Kd.R_seg HX14.out (x5_1 : Int) (od) (by have h_ : (x5_1 : Int) < ((x0_1.length : Int) : Int) := od; first | exact h_ | (have e_ := (Kd.R_reads' HO_0.out).1; omega) | simpa using h_) (seg := [.int .i64 (wrap64 (x1_1 + 1))]) (j := 1) hcl14 hcc14 (show 2 ≤ 6 from by decide) (x' := (⟨(⟨(rd_T48 y496 x5_1).f0.f0, wrap64 (x1_1 + 1), (rd_T48 y496 x5_1).f0.f2, (rd_T48 y496 x5_1).f0.f3⟩ : S44), (⟨(rd_T48 y496 x5_1).f1.f0, (rd_T48 y496 x5_1).f1.f1⟩ : S46)⟩ : S48)) (k48_mkM _ _ _ (⟨(⟨(rd_T48 y496 x5_1).f0.f0, wrap64 (x1_1 + 1), (rd_T48 y496 x5_1).f0.f2, (rd_T48 y496 x5_1).f0.f3⟩ : S44), (⟨(rd_T48 y496 x5_1).f1.f0, (rd_T48 y496 x5_1).f1.f1⟩ : S46)⟩ : S48) ) (fun _ hk => hk); have hx14_1 := hcc14 1 _ rfl; (try simp only [show (k48).sz = 6 from rfl, Nat.mul_one, Nat.add_zero] at hx14_1); have hf14_1 := hfr14 1; (try simp only [show (k48).sz = 6 from rfl, Nat.mul_one, Nat.add_zero] at hf14_1); clear hcl14 hcc14 hfr14 hM14) | ((with_reducible refine gate_store (t := 2) (p := 25) rfl ?_); refine store_event (t := 2) (p := 25) (v := ?vo_w15) (w1 := (w13.setCell ⟨go5, (x5_1 : Int).toNat * 6 + 1, none⟩ (.int .i64 (wrap64 (x1_1 + 1))))) ?hg ?ho ?hn ?hr ?_; (case ho => rfl); (case hg => rfl); (case hn => rfl); (case hr => first | (go_simp; done) | (go_simp; rfl)); intro w15 hw; have hg : w13.grownBy w15 (some go5) := (by rw [hw]; exact HP14.2); have hp_ : Kd.R k48 48 w15 w0.heap.size (fun k_ => (P0_ k_ ∨ w.heap.size ≤ k_)) (.slice (some ⟨go5, 0, none⟩) x0_1.length co11) y497 := (by rw [hw, Ny497.out]; exact HP14.1); clear HP14; replace HB := asd ((by rw [hw]; exact below_set (HB.out) GB5.out : Below w0.heap.size w0 w15)); replace HK := asd (Kept.of_grown (S := (fun k_ => P0_ k_)) hg (by repeat (first | (with_reducible first | exact HK.out | apply Kept.alloc | apply Kept.drewN | apply Kept.drew) | exact HK.out)) (fun k_ e_ => (HO_0.out.1 k_ e_))); replace HO_0 := asd (hp_); clear hg hw hp_; have p7 : 0 ≤ (x5_1 : Int) := od; have q7 : (x5_1 : Int) < ((x0_1.length : Int) : Int) := od; obtain ⟨ce7, hcl7, hM7, hcc7, hfr7⟩ := Kd.R_elem HO_0.out z48 (x5_1 : Int) p7 q7; obtain rfl := k48_openM hM7; have hx7_0 : w15.cell? ⟨go5, (x5_1 : Int).toNat * 6, none⟩ = some (.int .i64 ((rd_T48 y497 x5_1).f0.f0)) := hcc7 0 _ rfl; have hx7_1 : w15.cell? ⟨go5, (x5_1 : Int).toNat * 6 + 1, none⟩ = some (.int .i64 ((rd_T48 y497 x5_1).f0.f1)) := hcc7 1 _ rfl; have hx7_2 : w15.cell? ⟨go5, (x5_1 : Int).toNat * 6 + 2, none⟩ = some (.int .i64 ((rd_T48 y497 x5_1).f0.f2)) := hcc7 2 _ rfl; have hx7_3 : w15.cell? ⟨go5, (x5_1 : Int).toNat * 6 + 3, none⟩ = some (.int .i64 ((rd_T48 y497 x5_1).f0.f3)) := hcc7 3 _ rfl; have hx7_4 : w15.cell? ⟨go5, (x5_1 : Int).toNat * 6 + 4, none⟩ = some (.int .i64 ((rd_T48 y497 x5_1).f1.f0)) := hcc7 4 _ rfl; have hx7_5 : w15.cell? ⟨go5, (x5_1 : Int).toNat * 6 + 5, none⟩ = some (.int .i64 ((rd_T48 y497 x5_1).f1.f1)) := hcc7 5 _ rfl; have hf7_0 : w15.frozen? ⟨go5, (x5_1 : Int).toNat * 6, none⟩ = false := hfr7 0; have hf7_1 : w15.frozen? ⟨go5, (x5_1 : Int).toNat * 6 + 1, none⟩ = false := hfr7 1; have hf7_2 : w15.frozen? ⟨go5, (x5_1 : Int).toNat * 6 + 2, none⟩ = false := hfr7 2; have hf7_3 : w15.frozen? ⟨go5, (x5_1 : Int).toNat * 6 + 3, none⟩ = false := hfr7 3; have hf7_4 : w15.frozen? ⟨go5, (x5_1 : Int).toNat * 6 + 4, none⟩ = false := hfr7 4; have hf7_5 : w15.frozen? ⟨go5, (x5_1 : Int).toNat * 6 + 5, none⟩ = false := hfr7 5; clear hcl7 hcc7 hfr7 hM7; replace p7 := eq_true p7; replace q7 := eq_true q7; have HX16 := asd (show Kd.R k48 48 w15 w0.heap.size (fun k_ => (P0_ k_ ∨ w.heap.size ≤ k_)) (.slice (some ⟨go5, 0, none⟩) x0_1.length co11) y497 from (kr HO_0)); obtain ⟨ce16, hcl16, hM16, hcc16, hfr16⟩ := Kd.R_elem HX16.out z48 (x5_1 : Int) (od) (by have h_ : (x5_1 : Int) < ((x0_1.length : Int) : Int) := od; first | exact h_ | (have e_ := (Kd.R_reads' HO_0.out).1; omega) | simpa using h_); obtain rfl := k48_openM hM16; have HP16 := Kd.R_seg HX16.out (x5_1 : Int) (od) (by have h_ : (x5_1 : Int) < ((x0_1.length : Int) : Int) := od; first | exact h_ | (have e_ := (Kd.R_reads' HO_0.out).1; omega) | simpa using h_) (seg := [.int .i64 (wrap64 ((wrap64 (x1_1 + 1)) + 1))]) (j := 2) hcl16 hcc16 (show 3 ≤ 6 from by decide) (x' := (⟨(⟨(rd_T48 y497 x5_1).f0.f0, (rd_T48 y497 x5_1).f0.f1, wrap64 ((wrap64 (x1_1 + 1)) + 1), (rd_T48 y497 x5_1).f0.f3⟩ : S44), (⟨(rd_T48 y497 x5_1).f1.f0, (rd_T48 y497 x5_1).f1.f1⟩ : S46)⟩ : S48)) (k48_mkM _ _ _ (⟨(⟨(rd_T48 y497 x5_1).f0.f0, (rd_T48 y497 x5_1).f0.f1, wrap64 ((wrap64 (x1_1 + 1)) + 1), (rd_T48 y497 x5_1).f0.f3⟩ : S44), (⟨(rd_T48 y497 x5_1).f1.f0, (rd_T48 y497 x5_1).f1.f1⟩ : S46)⟩ : S48) ) (fun _ hk => hk); have hx16_2 := hcc16 2 _ rfl; (try simp only [show (k48).sz = 6 from rfl, Nat.mul_one, Nat.add_zero] at hx16_2); have hf16_2 := hfr16 2; (try simp only [show (k48).sz = 6 from rfl, Nat.mul_one, Nat.add_zero] at hf16_2); clear hcl16 hcc16 hfr16 hM16) | ((with_reducible refine gate_store (t := 2) (p := 33) rfl ?_); refine store_event (t := 2) (p := 33) (v := ?vo_w17) (w1 := (w15.setCell ⟨go5, (x5_1 : Int).toNat * 6 + 2, none⟩ (.int .i64 (wrap64 ((wrap64 (x1_1 + 1)) + 1))))) ?hg ?ho ?hn ?hr ?_; (case ho => rfl); (case hg => rfl); (case hn => rfl); (case hr => first | (go_simp; done) | (go_simp; rfl)); intro w17 hw; have hg : w15.grownBy w17 (some go5) := (by rw [hw]; exact HP16.2); have hp_ : Kd.R k48 48 w17 w0.heap.size (fun k_ => (P0_ k_ ∨ w.heap.size ≤ k_)) (.slice (some ⟨go5, 0, none⟩) x0_1.length co11) y498 := (by rw [hw, Ny498.out]; exact HP16.1); clear HP16; replace HB := asd ((by rw [hw]; exact below_set (HB.out) GB5.out : Below w0.heap.size w0 w17)); replace HK := asd (Kept.of_grown (S := (fun k_ => P0_ k_)) hg (by repeat (first | (with_reducible first | exact HK.out | apply Kept.alloc | apply Kept.drewN | apply Kept.drew) | exact HK.out)) (fun k_ e_ => (HO_0.out.1 k_ e_))); replace HO_0 := asd (hp_); clear hg hw hp_; have p8 : 0 ≤ (x5_1 : Int) := od; have q8 : (x5_1 : Int) < ((x0_1.length : Int) : Int) := od; obtain ⟨ce8, hcl8, hM8, hcc8, hfr8⟩ := Kd.R_elem HO_0.out z48 (x5_1 : Int) p8 q8; obtain rfl := k48_openM hM8; have hx8_0 : w17.cell? ⟨go5, (x5_1 : Int).toNat * 6, none⟩ = some (.int .i64 ((rd_T48 y498 x5_1).f0.f0)) := hcc8 0 _ rfl; have hx8_1 : w17.cell? ⟨go5, (x5_1 : Int).toNat * 6 + 1, none⟩ = some (.int .i64 ((rd_T48 y498 x5_1).f0.f1)) := hcc8 1 _ rfl; have hx8_2 : w17.cell? ⟨go5, (x5_1 : Int).toNat * 6 + 2, none⟩ = some (.int .i64 ((rd_T48 y498 x5_1).f0.f2)) := hcc8 2 _ rfl; have hx8_3 : w17.cell? ⟨go5, (x5_1 : Int).toNat * 6 + 3, none⟩ = some (.int .i64 ((rd_T48 y498 x5_1).f0.f3)) := hcc8 3 _ rfl; have hx8_4 : w17.cell? ⟨go5, (x5_1 : Int).toNat * 6 + 4, none⟩ = some (.int .i64 ((rd_T48 y498 x5_1).f1.f0)) := hcc8 4 _ rfl; have hx8_5 : w17.cell? ⟨go5, (x5_1 : Int).toNat * 6 + 5, none⟩ = some (.int .i64 ((rd_T48 y498 x5_1).f1.f1)) := hcc8 5 _ rfl; have hf8_0 : w17.frozen? ⟨go5, (x5_1 : Int).toNat * 6, none⟩ = false := hfr8 0; have hf8_1 : w17.frozen? ⟨go5, (x5_1 : Int).toNat * 6 + 1, none⟩ = false := hfr8 1; have hf8_2 : w17.frozen? ⟨go5, (x5_1 : Int).toNat * 6 + 2, none⟩ = false := hfr8 2; have hf8_3 : w17.frozen? ⟨go5, (x5_1 : Int).toNat * 6 + 3, none⟩ = false := hfr8 3; have hf8_4 : w17.frozen? ⟨go5, (x5_1 : Int).toNat * 6 + 4, none⟩ = false := hfr8 4; have hf8_5 : w17.frozen? ⟨go5, (x5_1 : Int).toNat * 6 + 5, none⟩ = false := hfr8 5; clear hcl8 hcc8 hfr8 hM8; replace p8 := eq_true p8; replace q8 := eq_true q8; have HX18 := asd (show Kd.R k48 48 w17 w0.heap.size (fun k_ => (P0_ k_ ∨ w.heap.size ≤ k_)) (.slice (some ⟨go5, 0, none⟩) x0_1.length co11) y498 from (kr HO_0)); obtain ⟨ce18, hcl18, hM18, hcc18, hfr18⟩ := Kd.R_elem HX18.out z48 (x5_1 : Int) (od) (by have h_ : (x5_1 : Int) < ((x0_1.length : Int) : Int) := od; first | exact h_ | (have e_ := (Kd.R_reads' HO_0.out).1; omega) | simpa using h_); obtain rfl := k48_openM hM18; have HP18 := Kd.R_seg HX18.out (x5_1 : Int) (od) (by have h_ : (x5_1 : Int) < ((x0_1.length : Int) : Int) := od; first | exact h_ | (have e_ := (Kd.R_reads' HO_0.out).1; omega) | simpa using h_) (seg := [.int .i64 (wrap64 ((wrap64 ((wrap64 (x1_1 + 1)) + 1)) + 1))]) (j := 3) hcl18 hcc18 (show 4 ≤ 6 from by decide) (x' := (⟨(⟨(rd_T48 y498 x5_1).f0.f0, (rd_T48 y498 x5_1).f0.f1, (rd_T48 y498 x5_1).f0.f2, wrap64 ((wrap64 ((wrap64 (x1_1 + 1)) + 1)) + 1)⟩ : S44), (⟨(rd_T48 y498 x5_1).f1.f0, (rd_T48 y498 x5_1).f1.f1⟩ : S46)⟩ : S48)) (k48_mkM _ _ _ (⟨(⟨(rd_T48 y498 x5_1).f0.f0, (rd_T48 y498 x5_1).f0.f1, (rd_T48 y498 x5_1).f0.f2, wrap64 ((wrap64 ((wrap64 (x1_1 + 1)) + 1)) + 1)⟩ : S44), (⟨(rd_T48 y498 x5_1).f1.f0, (rd_T48 y498 x5_1).f1.f1⟩ : S46)⟩ : S48) ) (fun _ hk => hk); have hx18_3 := hcc18 3 _ rfl; (try simp only [show (k48).sz = 6 from rfl, Nat.mul_one, Nat.add_zero] at hx18_3); have hf18_3 := hfr18 3; (try simp only [show (k48).sz = 6 from rfl, Nat.mul_one, Nat.add_zero] at hf18_3); clear hcl18 hcc18 hfr18 hM18) | ((with_reducible refine gate_store (t := 2) (p := 41) rfl ?_); refine store_event (t := 2) (p := 41) (v := ?vo_w19) (w1 := (w17.setCell ⟨go5, (x5_1 : Int).toNat * 6 + 3, none⟩ (.int .i64 (wrap64 ((wrap64 ((wrap64 (x1_1 + 1)) + 1)) + 1))))) ?hg ?ho ?hn ?hr ?_; (case ho => rfl); (case hg => rfl); (case hn => rfl); (case hr => first | (go_simp; done) | (go_simp; rfl)); intro w19 hw; have hg : w17.grownBy w19 (some go5) := (by rw [hw]; exact HP18.2); have hp_ : Kd.R k48 48 w19 w0.heap.size (fun k_ => (P0_ k_ ∨ w.heap.size ≤ k_)) (.slice (some ⟨go5, 0, none⟩) x0_1.length co11) y499 := (by rw [hw, Ny499.out]; exact HP18.1); clear HP18; replace HB := asd ((by rw [hw]; exact below_set (HB.out) GB5.out : Below w0.heap.size w0 w19)); replace HK := asd (Kept.of_grown (S := (fun k_ => P0_ k_)) hg (by repeat (first | (with_reducible first | exact HK.out | apply Kept.alloc | apply Kept.drewN | apply Kept.drew) | exact HK.out)) (fun k_ e_ => (HO_0.out.1 k_ e_))); replace HO_0 := asd (hp_); clear hg hw hp_; have p9 : 0 ≤ (x5_1 : Int) := od; have q9 : (x5_1 : Int) < ((x0_1.length : Int) : Int) := od; obtain ⟨ce9, hcl9, hM9, hcc9, hfr9⟩ := Kd.R_elem HO_0.out z48 (x5_1 : Int) p9 q9; obtain rfl := k48_openM hM9; have hx9_0 : w19.cell? ⟨go5, (x5_1 : Int).toNat * 6, none⟩ = some (.int .i64 ((rd_T48 y499 x5_1).f0.f0)) := hcc9 0 _ rfl; have hx9_1 : w19.cell? ⟨go5, (x5_1 : Int).toNat * 6 + 1, none⟩ = some (.int .i64 ((rd_T48 y499 x5_1).f0.f1)) := hcc9 1 _ rfl; have hx9_2 : w19.cell? ⟨go5, (x5_1 : Int).toNat * 6 + 2, none⟩ = some (.int .i64 ((rd_T48 y499 x5_1).f0.f2)) := hcc9 2 _ rfl; have hx9_3 : w19.cell? ⟨go5, (x5_1 : Int).toNat * 6 + 3, none⟩ = some (.int .i64 ((rd_T48 y499 x5_1).f0.f3)) := hcc9 3 _ rfl; have hx9_4 : w19.cell? ⟨go5, (x5_1 : Int).toNat * 6 + 4, none⟩ = some (.int .i64 ((rd_T48 y499 x5_1).f1.f0)) := hcc9 4 _ rfl; have hx9_5 : w19.cell? ⟨go5, (x5_1 : Int).toNat * 6 + 5, none⟩ = some (.int .i64 ((rd_T48 y499 x5_1).f1.f1)) := hcc9 5 _ rfl; have hf9_0 : w19.frozen? ⟨go5, (x5_1 : Int).toNat * 6, none⟩ = false := hfr9 0; have hf9_1 : w19.frozen? ⟨go5, (x5_1 : Int).toNat * 6 + 1, none⟩ = false := hfr9 1; have hf9_2 : w19.frozen? ⟨go5, (x5_1 : Int).toNat * 6 + 2, none⟩ = false := hfr9 2; have hf9_3 : w19.frozen? ⟨go5, (x5_1 : Int).toNat * 6 + 3, none⟩ = false := hfr9 3; have hf9_4 : w19.frozen? ⟨go5, (x5_1 : Int).toNat * 6 + 4, none⟩ = false := hfr9 4; have hf9_5 : w19.frozen? ⟨go5, (x5_1 : Int).toNat * 6 + 5, none⟩ = false := hfr9 5; clear hcl9 hcc9 hfr9 hM9; replace p9 := eq_true p9; replace q9 := eq_true q9; have HX20 := asd (show Kd.R k48 48 w19 w0.heap.size (fun k_ => (P0_ k_ ∨ w.heap.size ≤ k_)) (.slice (some ⟨go5, 0, none⟩) x0_1.length co11) y499 from (kr HO_0)); obtain ⟨ce20, hcl20, hM20, hcc20, hfr20⟩ := Kd.R_elem HX20.out z48 (x5_1 : Int) (od) (by have h_ : (x5_1 : Int) < ((x0_1.length : Int) : Int) := od; first | exact h_ | (have e_ := (Kd.R_reads' HO_0.out).1; omega) | simpa using h_); obtain rfl := k48_openM hM20; have HP20 := Kd.R_seg HX20.out (x5_1 : Int) (od) (by have h_ : (x5_1 : Int) < ((x0_1.length : Int) : Int) := od; first | exact h_ | (have e_ := (Kd.R_reads' HO_0.out).1; omega) | simpa using h_) (seg := [.int .i64 (wrap64 ((wrap64 ((wrap64 ((wrap64 (x1_1 + 1)) + 1)) + 1)) + 1))]) (j := 4) hcl20 hcc20 (show 5 ≤ 6 from by decide) (x' := (⟨(⟨(rd_T48 y499 x5_1).f0.f0, (rd_T48 y499 x5_1).f0.f1, (rd_T48 y499 x5_1).f0.f2, (rd_T48 y499 x5_1).f0.f3⟩ : S44), (⟨wrap64 ((wrap64 ((wrap64 ((wrap64 (x1_1 + 1)) + 1)) + 1)) + 1), (rd_T48 y499 x5_1).f1.f1⟩ : S46)⟩ : S48)) (k48_mkM _ _ _ (⟨(⟨(rd_T48 y499 x5_1).f0.f0, (rd_T48 y499 x5_1).f0.f1, (rd_T48 y499 x5_1).f0.f2, (rd_T48 y499 x5_1).f0.f3⟩ : S44), (⟨wrap64 ((wrap64 ((wrap64 ((wrap64 (x1_1 + 1)) + 1)) + 1)) + 1), (rd_T48 y499 x5_1).f1.f1⟩ : S46)⟩ : S48) ) (fun _ hk => hk); have hx20_4 := hcc20 4 _ rfl; (try simp only [show (k48).sz = 6 from rfl, Nat.mul_one, Nat.add_zero] at hx20_4); have hf20_4 := hfr20 4; (try simp only [show (k48).sz = 6 from rfl, Nat.mul_one, Nat.add_zero] at hf20_4); clear hcl20 hcc20 hfr20 hM20) | ((with_reducible refine gate_store (t := 2) (p := 49) rfl ?_); refine store_event (t := 2) (p := 49) (v := ?vo_w21) (w1 := (w19.setCell ⟨go5, (x5_1 : Int).toNat * 6 + 4, none⟩ (.int .i64 (wrap64 ((wrap64 ((wrap64 ((wrap64 (x1_1 + 1)) + 1)) + 1)) + 1))))) ?hg ?ho ?hn ?hr ?_; (case ho => rfl); (case hg => rfl); (case hn => rfl); (case hr => first | (go_simp; done) | (go_simp; rfl)); intro w21 hw; have hg : w19.grownBy w21 (some go5) := (by rw [hw]; exact HP20.2); have hp_ : Kd.R k48 48 w21 w0.heap.size (fun k_ => (P0_ k_ ∨ w.heap.size ≤ k_)) (.slice (some ⟨go5, 0, none⟩) x0_1.length co11) y500 := (by rw [hw, Ny500.out]; exact HP20.1); clear HP20; replace HB := asd ((by rw [hw]; exact below_set (HB.out) GB5.out : Below w0.heap.size w0 w21)); replace HK := asd (Kept.of_grown (S := (fun k_ => P0_ k_)) hg (by repeat (first | (with_reducible first | exact HK.out | apply Kept.alloc | apply Kept.drewN | apply Kept.drew) | exact HK.out)) (fun k_ e_ => (HO_0.out.1 k_ e_))); replace HO_0 := asd (hp_); clear hg hw hp_; have p10 : 0 ≤ (x5_1 : Int) := od; have q10 : (x5_1 : Int) < ((x0_1.length : Int) : Int) := od; obtain ⟨ce10, hcl10, hM10, hcc10, hfr10⟩ := Kd.R_elem HO_0.out z48 (x5_1 : Int) p10 q10; obtain rfl := k48_openM hM10; have hx10_0 : w21.cell? ⟨go5, (x5_1 : Int).toNat * 6, none⟩ = some (.int .i64 ((rd_T48 y500 x5_1).f0.f0)) := hcc10 0 _ rfl; have hx10_1 : w21.cell? ⟨go5, (x5_1 : Int).toNat * 6 + 1, none⟩ = some (.int .i64 ((rd_T48 y500 x5_1).f0.f1)) := hcc10 1 _ rfl; have hx10_2 : w21.cell? ⟨go5, (x5_1 : Int).toNat * 6 + 2, none⟩ = some (.int .i64 ((rd_T48 y500 x5_1).f0.f2)) := hcc10 2 _ rfl; have hx10_3 : w21.cell? ⟨go5, (x5_1 : Int).toNat * 6 + 3, none⟩ = some (.int .i64 ((rd_T48 y500 x5_1).f0.f3)) := hcc10 3 _ rfl; have hx10_4 : w21.cell? ⟨go5, (x5_1 : Int).toNat * 6 + 4, none⟩ = some (.int .i64 ((rd_T48 y500 x5_1).f1.f0)) := hcc10 4 _ rfl; have hx10_5 : w21.cell? ⟨go5, (x5_1 : Int).toNat * 6 + 5, none⟩ = some (.int .i64 ((rd_T48 y500 x5_1).f1.f1)) := hcc10 5 _ rfl; have hf10_0 : w21.frozen? ⟨go5, (x5_1 : Int).toNat * 6, none⟩ = false := hfr10 0; have hf10_1 : w21.frozen? ⟨go5, (x5_1 : Int).toNat * 6 + 1, none⟩ = false := hfr10 1; have hf10_2 : w21.frozen? ⟨go5, (x5_1 : Int).toNat * 6 + 2, none⟩ = false := hfr10 2; have hf10_3 : w21.frozen? ⟨go5, (x5_1 : Int).toNat * 6 + 3, none⟩ = false := hfr10 3; have hf10_4 : w21.frozen? ⟨go5, (x5_1 : Int).toNat * 6 + 4, none⟩ = false := hfr10 4; have hf10_5 : w21.frozen? ⟨go5, (x5_1 : Int).toNat * 6 + 5, none⟩ = false := hfr10 5; clear hcl10 hcc10 hfr10 hM10; replace p10 := eq_true p10; replace q10 := eq_true q10; have HX22 := asd (show Kd.R k48 48 w21 w0.heap.size (fun k_ => (P0_ k_ ∨ w.heap.size ≤ k_)) (.slice (some ⟨go5, 0, none⟩) x0_1.length co11) y500 from (kr HO_0)); obtain ⟨ce22, hcl22, hM22, hcc22, hfr22⟩ := Kd.R_elem HX22.out z48 (x5_1 : Int) (od) (by have h_ : (x5_1 : Int) < ((x0_1.length : Int) : Int) := od; first | exact h_ | (have e_ := (Kd.R_reads' HO_0.out).1; omega) | simpa using h_); obtain rfl := k48_openM hM22; have HP22 := Kd.R_seg HX22.out (x5_1 : Int) (od) (by have h_ : (x5_1 : Int) < ((x0_1.length : Int) : Int) := od; first | exact h_ | (have e_ := (Kd.R_reads' HO_0.out).1; omega) | simpa using h_) (seg := [.int .i64 (wrap64 ((wrap64 ((wrap64 ((wrap64 ((wrap64 (x1_1 + 1)) + 1)) + 1)) + 1)) + 1))]) (j := 5) hcl22 hcc22 (show 6 ≤ 6 from by decide) (x' := (⟨(⟨(rd_T48 y500 x5_1).f0.f0, (rd_T48 y500 x5_1).f0.f1, (rd_T48 y500 x5_1).f0.f2, (rd_T48 y500 x5_1).f0.f3⟩ : S44), (⟨(rd_T48 y500 x5_1).f1.f0, wrap64 ((wrap64 ((wrap64 ((wrap64 ((wrap64 (x1_1 + 1)) + 1)) + 1)) + 1)) + 1)⟩ : S46)⟩ : S48)) (k48_mkM _ _ _ (⟨(⟨(rd_T48 y500 x5_1).f0.f0, (rd_T48 y500 x5_1).f0.f1, (rd_T48 y500 x5_1).f0.f2, (rd_T48 y500 x5_1).f0.f3⟩ : S44), (⟨(rd_T48 y500 x5_1).f1.f0, wrap64 ((wrap64 ((wrap64 ((wrap64 ((wrap64 (x1_1 + 1)) + 1)) + 1)) + 1)) + 1)⟩ : S46)⟩ : S48) ) (fun _ hk => hk); have hx22_5 := hcc22 5 _ rfl; (try simp only [show (k48).sz = 6 from rfl, Nat.mul_one, Nat.add_zero] at hx22_5); have hf22_5 := hfr22 5; (try simp only [show (k48).sz = 6 from rfl, Nat.mul_one, Nat.add_zero] at hf22_5); clear hcl22 hcc22 hfr22 hM22) | ((with_reducible refine gate_store (t := 2) (p := 57) rfl ?_); refine store_event (t := 2) (p := 57) (v := ?vo_w23) (w1 := (w21.setCell ⟨go5, (x5_1 : Int).toNat * 6 + 5, none⟩ (.int .i64 (wrap64 ((wrap64 ((wrap64 ((wrap64 ((wrap64 (x1_1 + 1)) + 1)) + 1)) + 1)) + 1))))) ?hg ?ho ?hn ?hr ?_; (case ho => rfl); (case hg => rfl); (case hn => rfl); (case hr => first | (go_simp; done) | (go_simp; rfl)); intro w23 hw; have hg : w21.grownBy w23 (some go5) := (by rw [hw]; exact HP22.2); have hp_ : Kd.R k48 48 w23 w0.heap.size (fun k_ => (P0_ k_ ∨ w.heap.size ≤ k_)) (.slice (some ⟨go5, 0, none⟩) x0_1.length co11) y501 := (by rw [hw, Ny501.out]; exact HP22.1); clear HP22; replace HB := asd ((by rw [hw]; exact below_set (HB.out) GB5.out : Below w0.heap.size w0 w23)); replace HK := asd (Kept.of_grown (S := (fun k_ => P0_ k_)) hg (by repeat (first | (with_reducible first | exact HK.out | apply Kept.alloc | apply Kept.drewN | apply Kept.drew) | exact HK.out)) (fun k_ e_ => (HO_0.out.1 k_ e_))); replace HO_0 := asd (hp_); clear hg hw hp_))
     go_roundg k1
     case measure => have := HK1.out; omega
     case rel => exact ⟨(y501), (wrap64 ((wrap64 ((wrap64 ((wrap64 ((wrap64 ((wrap64 (x1_1 + 1)) + 1)) + 1)) + 1)) + 1)) + 1)), (wrap64 (x5_1 + 1)), (by first | rfl | (simp; done) | (simp [*]; done)), (by first | rfl | (simp; done) | (simp [*]; done)), H', ⟨by have := HK1.out; omega⟩, ⟨by (with_reducible repeat (first | apply Kd.R_alloc | apply Kd.R_drewN | apply Kd.R_drew)); exact HO_0.out⟩, ⟨by repeat (first | (with_reducible first | exact HK.out | apply Kept.alloc | apply Kept.drewN | apply Kept.drew) | exact HK.out)⟩, ⟨bbw0 HB⟩⟩
    ·rw [if_neg c4] at H
     exact absurd H (by simp)
   ·rw [if_neg c3] at H
    have c3b0 := decide_eq_false c3
    clear c3
    simp only [Option.some.injEq, Prod.mk.injEq] at H
    obtain ⟨rfl, rfl⟩ := H
    obtain ⟨Ao24, co24, eo24⟩ := Kd.R_slice HO_0.out
    subst eo24
    go_wp2
    go_ret
    exact ⟨by first | rfl | (simp [errW_none, errW_some] <;> rfl) | (simp [*, errW_none, errW_some] <;> rfl), by (with_reducible repeat (first | apply Kd.R_alloc | apply Kd.R_drewN | apply Kd.R_drew)); exact HO_0.out, by repeat (first | (with_reducible first | exact HB.out | apply below_alloc | apply pw_below_drewN | apply below_drew1) | exact HB.out), by repeat (first | (with_reducible first | exact HK.out | apply Kept.alloc | apply Kept.drewN | apply Kept.drew) | exact HK.out)⟩
/-! ### laws_heldMotionS: function 13 -/
def laws_heldMotionS.l0 : Nat → List (S48) → Int → Int → Option (Int)
 | 0, _, _, _ => none
 | k + 1, x0, x1, x5 => if x5 < (x0.length : Int) then (if 0 ≤ x5 then (if ((rd_T48 x0 x5).f0.f0) = x1 then (if ((rd_T48 x0 x5).f0.f1) = (wrap64 (x1 + 1)) then (if ((rd_T48 x0 x5).f0.f2) = (wrap64 ((wrap64 (x1 + 1)) + 1)) then (if ((rd_T48 x0 x5).f0.f3) = (wrap64 ((wrap64 ((wrap64 (x1 + 1)) + 1)) + 1)) then (if ((rd_T48 x0 x5).f1.f0) = (wrap64 ((wrap64 ((wrap64 ((wrap64 (x1 + 1)) + 1)) + 1)) + 1)) then (if ((rd_T48 x0 x5).f1.f1) = (wrap64 ((wrap64 ((wrap64 ((wrap64 ((wrap64 (x1 + 1)) + 1)) + 1)) + 1)) + 1)) then (laws_heldMotionS.l0 k x0 (wrap64 ((wrap64 ((wrap64 ((wrap64 ((wrap64 ((wrap64 (x1 + 1)) + 1)) + 1)) + 1)) + 1)) + 1)) (wrap64 (x5 + 1))) else (some (-1))) else (some (-1))) else (some (-1))) else (some (-1))) else (some (-1))) else (some (-1))) else (none)) else (some x1)
def laws_heldMotionS.f (k : Nat) (l0 : List (S48)) (a1 : Int) : Option (Int) := laws_heldMotionS.l0 k l0 a1 0
set_option maxHeartbeats 8000000 in
set_option maxRecDepth 100000 in
theorem laws_heldMotionS.calls (k : Nat) (A0 : Option Addr) (c0 : Nat) (l0 : List (S48)) (a1 : Int) (r : Int) (w : World) (hr0 : Kd.C k48 w A0 l0.length l0) (hc0 : l0.length ≤ c0) (h : laws_heldMotionS.f k l0 a1 = some r) :
  Calls Try.prog 13 #[.slice A0 l0.length c0, .int .i64 a1] w fun e w' => e = .returned (.int .i64 r) ∧ Drawn0 w w' := by
 have HR0 := Aside0.mk hr0
 have HC0 := Aside0.mk hc0
 clear hr0 hc0
 have H : (laws_heldMotionS.l0 k l0 a1 0) = some r := h
 clear h
 have H' := Aside0.mk H
 clear H
 go_enter Try.func13, Try.ntmps13
 go_wp2
 go_loopg [1, 5] k (fun kq v1 v5 w' => ∃ (x1_1 : Int) (x5_1 : Int), v1 = .int .i64 x1_1 ∧ v5 = .int .i64 x5_1 ∧ Aside0 (laws_heldMotionS.l0 kq l0 x1_1 x5_1 = some r) ∧ Aside0 (kq ≤ k) ∧ Drawn0 w w')
 case atStart => exact ⟨(a1), (0), (by first | rfl | (simp; done) | (simp [*]; done)), (by first | rfl | (simp; done) | (simp [*]; done)), H', ⟨Nat.le_refl _⟩, by repeat (first | exact Drawn0.refl _ | apply Drawn0.step)⟩
 case round =>
  clear H'
  try clear c1
  try clear p2
  obtain ⟨x1_1, x5_1, rfl, rfl, HA, HK1, ⟨m1, rfl⟩⟩ := hrel
  cases gk with
  | zero => exact absurd HA.out (by simp [laws_heldMotionS.l0])
  | succ k1 =>
   have H := HA.out
   clear HA
   simp only [laws_heldMotionS.l0] at H
   by_cases c3 : x5_1 < (l0.length : Int)
   rw [if_pos c3] at H
   have c3b0 := decide_eq_true c3
   clear c3
   by_cases c4 : 0 ≤ x5_1
   rw [if_pos c4] at H
   have c4b0 := decide_eq_true c4
   clear c4
   by_cases c5 : ((rd_T48 l0 x5_1).f0.f0) = x1_1
   rw [if_pos c5] at H
   have c5b0 : (((rd_T48 l0 x5_1).f0.f0) == x1_1) = true := beq_iff_eq.mpr c5
   have c5b1 : (((rd_T48 l0 x5_1).f0.f0) != x1_1) = false := bne_eq_false_iff_eq.mpr c5
   clear c5
   by_cases c6 : ((rd_T48 l0 x5_1).f0.f1) = (wrap64 (x1_1 + 1))
   rw [if_pos c6] at H
   have c6b0 : (((rd_T48 l0 x5_1).f0.f1) == (wrap64 (x1_1 + 1))) = true := beq_iff_eq.mpr c6
   have c6b1 : (((rd_T48 l0 x5_1).f0.f1) != (wrap64 (x1_1 + 1))) = false := bne_eq_false_iff_eq.mpr c6
   clear c6
   by_cases c7 : ((rd_T48 l0 x5_1).f0.f2) = (wrap64 ((wrap64 (x1_1 + 1)) + 1))
   rw [if_pos c7] at H
   have c7b0 : (((rd_T48 l0 x5_1).f0.f2) == (wrap64 ((wrap64 (x1_1 + 1)) + 1))) = true := beq_iff_eq.mpr c7
   have c7b1 : (((rd_T48 l0 x5_1).f0.f2) != (wrap64 ((wrap64 (x1_1 + 1)) + 1))) = false := bne_eq_false_iff_eq.mpr c7
   clear c7
   by_cases c8 : ((rd_T48 l0 x5_1).f0.f3) = (wrap64 ((wrap64 ((wrap64 (x1_1 + 1)) + 1)) + 1))
   rw [if_pos c8] at H
   have c8b0 : (((rd_T48 l0 x5_1).f0.f3) == (wrap64 ((wrap64 ((wrap64 (x1_1 + 1)) + 1)) + 1))) = true := beq_iff_eq.mpr c8
   have c8b1 : (((rd_T48 l0 x5_1).f0.f3) != (wrap64 ((wrap64 ((wrap64 (x1_1 + 1)) + 1)) + 1))) = false := bne_eq_false_iff_eq.mpr c8
   clear c8
   by_cases c9 : ((rd_T48 l0 x5_1).f1.f0) = (wrap64 ((wrap64 ((wrap64 ((wrap64 (x1_1 + 1)) + 1)) + 1)) + 1))
   rw [if_pos c9] at H
   have c9b0 : (((rd_T48 l0 x5_1).f1.f0) == (wrap64 ((wrap64 ((wrap64 ((wrap64 (x1_1 + 1)) + 1)) + 1)) + 1))) = true := beq_iff_eq.mpr c9
   have c9b1 : (((rd_T48 l0 x5_1).f1.f0) != (wrap64 ((wrap64 ((wrap64 ((wrap64 (x1_1 + 1)) + 1)) + 1)) + 1))) = false := bne_eq_false_iff_eq.mpr c9
   clear c9
   by_cases c10 : ((rd_T48 l0 x5_1).f1.f1) = (wrap64 ((wrap64 ((wrap64 ((wrap64 ((wrap64 (x1_1 + 1)) + 1)) + 1)) + 1)) + 1))
   rw [if_pos c10] at H
   have c10b0 : (((rd_T48 l0 x5_1).f1.f1) == (wrap64 ((wrap64 ((wrap64 ((wrap64 ((wrap64 (x1_1 + 1)) + 1)) + 1)) + 1)) + 1))) = true := beq_iff_eq.mpr c10
   have c10b1 : (((rd_T48 l0 x5_1).f1.f1) != (wrap64 ((wrap64 ((wrap64 ((wrap64 ((wrap64 (x1_1 + 1)) + 1)) + 1)) + 1)) + 1))) = false := bne_eq_false_iff_eq.mpr c10
   clear c10
   have H' := Aside0.mk H
   clear H
   rotate_left
   rw [if_neg c10] at H
   have c10b0 : (((rd_T48 l0 x5_1).f1.f1) == (wrap64 ((wrap64 ((wrap64 ((wrap64 ((wrap64 (x1_1 + 1)) + 1)) + 1)) + 1)) + 1))) = false := beq_eq_false_iff_ne.mpr c10
   have c10b1 : (((rd_T48 l0 x5_1).f1.f1) != (wrap64 ((wrap64 ((wrap64 ((wrap64 ((wrap64 (x1_1 + 1)) + 1)) + 1)) + 1)) + 1))) = true := bne_iff_ne.mpr c10
   obtain rfl := Option.some.inj H
   rotate_left
   rw [if_neg c9] at H
   have c9b0 : (((rd_T48 l0 x5_1).f1.f0) == (wrap64 ((wrap64 ((wrap64 ((wrap64 (x1_1 + 1)) + 1)) + 1)) + 1))) = false := beq_eq_false_iff_ne.mpr c9
   have c9b1 : (((rd_T48 l0 x5_1).f1.f0) != (wrap64 ((wrap64 ((wrap64 ((wrap64 (x1_1 + 1)) + 1)) + 1)) + 1))) = true := bne_iff_ne.mpr c9
   obtain rfl := Option.some.inj H
   rotate_left
   rw [if_neg c8] at H
   have c8b0 : (((rd_T48 l0 x5_1).f0.f3) == (wrap64 ((wrap64 ((wrap64 (x1_1 + 1)) + 1)) + 1))) = false := beq_eq_false_iff_ne.mpr c8
   have c8b1 : (((rd_T48 l0 x5_1).f0.f3) != (wrap64 ((wrap64 ((wrap64 (x1_1 + 1)) + 1)) + 1))) = true := bne_iff_ne.mpr c8
   obtain rfl := Option.some.inj H
   rotate_left
   rw [if_neg c7] at H
   have c7b0 : (((rd_T48 l0 x5_1).f0.f2) == (wrap64 ((wrap64 (x1_1 + 1)) + 1))) = false := beq_eq_false_iff_ne.mpr c7
   have c7b1 : (((rd_T48 l0 x5_1).f0.f2) != (wrap64 ((wrap64 (x1_1 + 1)) + 1))) = true := bne_iff_ne.mpr c7
   obtain rfl := Option.some.inj H
   rotate_left
   rw [if_neg c6] at H
   have c6b0 : (((rd_T48 l0 x5_1).f0.f1) == (wrap64 (x1_1 + 1))) = false := beq_eq_false_iff_ne.mpr c6
   have c6b1 : (((rd_T48 l0 x5_1).f0.f1) != (wrap64 (x1_1 + 1))) = true := bne_iff_ne.mpr c6
   obtain rfl := Option.some.inj H
   rotate_left
   rw [if_neg c5] at H
   have c5b0 : (((rd_T48 l0 x5_1).f0.f0) == x1_1) = false := beq_eq_false_iff_ne.mpr c5
   have c5b1 : (((rd_T48 l0 x5_1).f0.f0) != x1_1) = true := bne_iff_ne.mpr c5
   obtain rfl := Option.some.inj H
   rotate_left
   ·rw [if_neg c4] at H
    exact absurd H (by simp)
   rw [if_neg c3] at H
   have c3b0 := decide_eq_false c3
   clear c3
   obtain rfl := Option.some.inj H
   rotate_left
   rotate_left 6
   ·have p502 : 0 ≤ (x5_1 : Int) := od
    have q502 : x5_1 < (l0.length : Int) := od
    obtain ⟨ad502, e502, hx502_0, hx502_1, hx502_2, hx502_3, hx502_4, hx502_5⟩ := at_T48 HR0.out x5_1 p502 q502
    cases e502
    replace p502 := eq_true p502
    replace q502 := eq_true q502
    go_wp2
    go_ret
    exact ⟨by first | rfl | (simp; done) | (simp [*]; done), by repeat (first | exact Drawn0.refl _ | apply Drawn0.step)⟩
   ·go_wp2
    go_ret
    exact ⟨by first | rfl | (simp; done) | (simp [*]; done), by repeat (first | exact Drawn0.refl _ | apply Drawn0.step)⟩
   all_goals
    have p502 : 0 ≤ (x5_1 : Int) := od
    have q502 : x5_1 < (l0.length : Int) := od
    obtain ⟨ad502, e502, hx502_0, hx502_1, hx502_2, hx502_3, hx502_4, hx502_5⟩ := at_T48 HR0.out x5_1 p502 q502
    cases e502
    replace p502 := eq_true p502
    replace q502 := eq_true q502
    have p503 : 0 ≤ (x5_1 : Int) := od
    have q503 : x5_1 < (l0.length : Int) := od
    obtain ⟨ad503, e503, hx503_0, hx503_1, hx503_2, hx503_3, hx503_4, hx503_5⟩ := at_T48 HR0.out x5_1 p503 q503
    obtain rfl : ad502 = ad503 := (by injection e503)
    replace p503 := eq_true p503
    replace q503 := eq_true q503
   rotate_left 4
   ·have p504 : 0 ≤ (x5_1 : Int) := od
    have q504 : x5_1 < (l0.length : Int) := od
    obtain ⟨ad504, e504, hx504_0, hx504_1, hx504_2, hx504_3, hx504_4, hx504_5⟩ := at_T48 HR0.out x5_1 p504 q504
    obtain rfl : ad502 = ad504 := (by injection e504)
    replace p504 := eq_true p504
    replace q504 := eq_true q504
    go_wp2
    go_ret
    exact ⟨by first | rfl | (simp; done) | (simp [*]; done), by repeat (first | exact Drawn0.refl _ | apply Drawn0.step)⟩
   ·go_wp2
    go_ret
    exact ⟨by first | rfl | (simp; done) | (simp [*]; done), by repeat (first | exact Drawn0.refl _ | apply Drawn0.step)⟩
   all_goals
    have p504 : 0 ≤ (x5_1 : Int) := od
    have q504 : x5_1 < (l0.length : Int) := od
    obtain ⟨ad504, e504, hx504_0, hx504_1, hx504_2, hx504_3, hx504_4, hx504_5⟩ := at_T48 HR0.out x5_1 p504 q504
    obtain rfl : ad502 = ad504 := (by injection e504)
    replace p504 := eq_true p504
    replace q504 := eq_true q504
    have p505 : 0 ≤ (x5_1 : Int) := od
    have q505 : x5_1 < (l0.length : Int) := od
    obtain ⟨ad505, e505, hx505_0, hx505_1, hx505_2, hx505_3, hx505_4, hx505_5⟩ := at_T48 HR0.out x5_1 p505 q505
    obtain rfl : ad502 = ad505 := (by injection e505)
    replace p505 := eq_true p505
    replace q505 := eq_true q505
   rotate_left 3
   ·go_wp2
    go_ret
    exact ⟨by first | rfl | (simp; done) | (simp [*]; done), by repeat (first | exact Drawn0.refl _ | apply Drawn0.step)⟩
   all_goals
    have p506 : 0 ≤ (x5_1 : Int) := od
    have q506 : x5_1 < (l0.length : Int) := od
    obtain ⟨ad506, e506, hx506_0, hx506_1, hx506_2, hx506_3, hx506_4, hx506_5⟩ := at_T48 HR0.out x5_1 p506 q506
    obtain rfl : ad502 = ad506 := (by injection e506)
    replace p506 := eq_true p506
    replace q506 := eq_true q506
   rotate_left 2
   ·go_wp2
    go_ret
    exact ⟨by first | rfl | (simp; done) | (simp [*]; done), by repeat (first | exact Drawn0.refl _ | apply Drawn0.step)⟩
   all_goals
    have p507 : 0 ≤ (x5_1 : Int) := od
    have q507 : x5_1 < (l0.length : Int) := od
    obtain ⟨ad507, e507, hx507_0, hx507_1, hx507_2, hx507_3, hx507_4, hx507_5⟩ := at_T48 HR0.out x5_1 p507 q507
    obtain rfl : ad502 = ad507 := (by injection e507)
    replace p507 := eq_true p507
    replace q507 := eq_true q507
    go_wp2
   ·go_roundg k1
    case measure => have := HK1.out; omega
    case rel => exact ⟨(wrap64 ((wrap64 ((wrap64 ((wrap64 ((wrap64 ((wrap64 (x1_1 + 1)) + 1)) + 1)) + 1)) + 1)) + 1)), (wrap64 (x5_1 + 1)), (by first | rfl | (simp; done) | (simp [*]; done)), (by first | rfl | (simp; done) | (simp [*]; done)), H', ⟨by have := HK1.out; omega⟩, by repeat (first | exact Drawn0.refl _ | apply Drawn0.step)⟩
   ·go_ret
    exact ⟨by first | rfl | (simp; done) | (simp [*]; done), by repeat (first | exact Drawn0.refl _ | apply Drawn0.step)⟩
/-! ### laws_FnExactMeetGroups: function 3 -/
mutual
def laws_FnExactMeetGroups.j0 : Nat → Int → List (S53) → List (S53) → List (S48) → Int → List (S48) → List (S48) → List (S48) → Int → Bool → Int → Int → Int → Option (Bool)
 | 0, _, _, _, _, _, _, _, _, _, _, _, _, _ => none
 | k + 1, x0, x2, x3, x10, x11, x12, x13, x14, x15, x63, x509000, x509001, x509002 => if x63 = true then (some false) else ((laws_toMotionS.f k x2).bind fun t538 => ((laws_eqMotionS.f k x12 t538).bind fun t541 => (if t541 = true then ((laws_toMotionS.f k x3).bind fun t542 => ((laws_eqMotionS.f k x13 t542).bind fun t545 => (if t545 = true then ((laws_markMotionS.f k x12 1).bind fun bt546 => ((laws_markMotionS.f k x13 bt546.1).bind fun bt548 => (if bt548.1 < 0 then (laws_FnExactMeetGroups.j1 k x0 x2 x3 x10 x11 x14 true x509000 x509001 x509002) else ((laws_eqMotionS.f k x14 x10).bind fun t550 => (if t550 = true then (laws_FnExactMeetGroups.j1 k x0 x2 x3 x10 x11 x14 (x15 != x11) x509000 x509001 x509002) else (laws_FnExactMeetGroups.j1 k x0 x2 x3 x10 x11 x14 true x509000 x509001 x509002)))))) else (some false)))) else (some false))))
def laws_FnExactMeetGroups.j1 : Nat → Int → List (S53) → List (S53) → List (S48) → Int → List (S48) → Bool → Int → Int → Int → Option (Bool)
 | 0, _, _, _, _, _, _, _, _, _, _ => none
 | k + 1, x0, x2, x3, x10, x11, x14, x92, x509000, x509001, x509002 => if x92 = true then (some false) else ((laws_markMotionS.f k x14 1).bind fun bt551 => ((laws_heldMotionS.f k bt551.2 1).bind fun t553 => (if t553 < 0 then (some false) else (if t553 = bt551.1 then ((laws_toLattice.f x509000 x509001 x509002).bind fun bt554 => ((laws_toMotionS.f k x2).bind fun t557 => ((laws_toMotionS.f k x3).bind fun t560 => ((impl_MeetGroups.f k x0 bt554.1 bt554.2.1 bt554.2.2 t557 t560).bind fun bt563 => ((laws_eqMotionS.f k bt563.1 x10).bind fun t567 => (if t567 = true then (laws_FnExactMeetGroups.j2 k bt551.2 bt551.1 (bt563.2 != x11)) else (laws_FnExactMeetGroups.j2 k bt551.2 bt551.1 true))))))) else (some false)))))
def laws_FnExactMeetGroups.j2 : Nat → List (S48) → Int → Bool → Option (Bool)
 | 0, _, _, _ => none
 | k + 1, x14, x17, x123 => if x123 = true then (some false) else ((laws_heldMotionS.f k x14 1).bind fun t568 => (if t568 < 0 then (some false) else (if t568 = x17 then (some true) else (some false))))
end
def laws_FnExactMeetGroups.f (k : Nat) (a0 : Int) (a1_0 : Int) (a1_1 : Int) (a1_2 : Int) (l2 : List (S53)) (l3 : List (S53)) : Option (Bool) := (laws_szMotionS.f l2 1048576).bind fun t509 => (if t509 < 0 then (some true) else ((laws_szMotionS.f l3 t509).bind fun t510 => (if t510 < 0 then (some true) else ((laws_toLattice.f a1_0 a1_1 a1_2).bind fun bt511 => ((laws_toMotionS.f k l2).bind fun t514 => ((laws_toMotionS.f k l3).bind fun t517 => ((spec_MeetGroups.f k a0 bt511.1 bt511.2.1 bt511.2.2 t514 t517).bind fun bt520 => ((laws_toMotionS.f k l2).bind fun t524 => ((laws_toMotionS.f k l3).bind fun t527 => ((laws_toLattice.f a1_0 a1_1 a1_2).bind fun bt530 => ((impl_MeetGroups.f k a0 bt530.1 bt530.2.1 bt530.2.2 t524 t527).bind fun bt533 => ((laws_eqMotionS.f k bt533.1 bt520.1).bind fun t537 => (if t537 = true then (laws_FnExactMeetGroups.j0 k a0 l2 l3 bt520.1 bt520.2 t524 t527 bt533.1 bt533.2 (bt533.2 != bt520.2) a1_0 a1_1 a1_2) else (laws_FnExactMeetGroups.j0 k a0 l2 l3 bt520.1 bt520.2 t524 t527 bt533.1 bt533.2 true a1_0 a1_1 a1_2))))))))))))))
set_option maxHeartbeats 8000000 in
set_option maxRecDepth 100000 in
theorem laws_FnExactMeetGroups.calls (k : Nat) (a0 : Int) (a1_0 : Int) (a1_1 : Int) (a1_2 : Int) (A2 : Option Addr) (c2 : Nat) (l2 : List (S53)) (A3 : Option Addr) (c3 : Nat) (l3 : List (S53)) (w : World) (hr2 : Kd.C k53 w A2 l2.length l2) (hc2 : l2.length ≤ c2) (hr3 : Kd.C k53 w A3 l3.length l3) (hc3 : l3.length ≤ c3) (h : laws_FnExactMeetGroups.f k a0 a1_0 a1_1 a1_2 l2 l3 = some true) :
  Calls Try.prog 3 #[.int .i64 a0, .agg #[.int .i64 a1_0, .int .i64 a1_1, .int .i64 a1_2], .slice A2 l2.length c2, .slice A3 l3.length c3] w fun e w' => e = .returned (.bool true) ∧ Below w.heap.size w w' := by
 have hu23 := Try.underlying23
 have HR2 := Aside0.mk hr2
 have HC2 := Aside0.mk hc2
 clear hr2 hc2
 have HR3 := Aside0.mk hr3
 have HC3 := Aside0.mk hc3
 clear hr3 hc3
 have HB := asd (Below.refl w.heap.size w)
 have H : ((laws_szMotionS.f l2 1048576).bind fun t509 => (if t509 < 0 then (some true) else ((laws_szMotionS.f l3 t509).bind fun t510 => (if t510 < 0 then (some true) else ((laws_toLattice.f a1_0 a1_1 a1_2).bind fun bt511 => ((laws_toMotionS.f k l2).bind fun t514 => ((laws_toMotionS.f k l3).bind fun t517 => ((spec_MeetGroups.f k a0 bt511.1 bt511.2.1 bt511.2.2 t514 t517).bind fun bt520 => ((laws_toMotionS.f k l2).bind fun t524 => ((laws_toMotionS.f k l3).bind fun t527 => ((laws_toLattice.f a1_0 a1_1 a1_2).bind fun bt530 => ((impl_MeetGroups.f k a0 bt530.1 bt530.2.1 bt530.2.2 t524 t527).bind fun bt533 => ((laws_eqMotionS.f k bt533.1 bt520.1).bind fun t537 => (if t537 = true then (laws_FnExactMeetGroups.j0 k a0 l2 l3 bt520.1 bt520.2 t524 t527 bt533.1 bt533.2 (bt533.2 != bt520.2) a1_0 a1_1 a1_2) else (laws_FnExactMeetGroups.j0 k a0 l2 l3 bt520.1 bt520.2 t524 t527 bt533.1 bt533.2 true a1_0 a1_1 a1_2))))))))))))))) = some true := h
 clear h
 obtain ⟨t509, A5, H⟩ := ob H
 try dsimp only at H
 by_cases c6 : t509 < 0
 rw [if_pos c6] at H
 have c6b0 := decide_eq_true c6
 clear c6
 clear H
 rotate_left
 rw [if_neg c6] at H
 have c6b0 := decide_eq_false c6
 clear c6
 obtain ⟨t510, A8, H⟩ := ob H
 try dsimp only at H
 by_cases c9 : t510 < 0
 rw [if_pos c9] at H
 have c9b0 := decide_eq_true c9
 clear c9
 clear H
 rotate_left
 rw [if_neg c9] at H
 have c9b0 := decide_eq_false c9
 clear c9
 obtain ⟨⟨t511, t512, t513⟩, A11, H⟩ := ob H
 try dsimp only at H
 obtain ⟨t514, A12, H⟩ := ob H
 try dsimp only at H
 obtain ⟨t517, A13, H⟩ := ob H
 try dsimp only at H
 obtain ⟨⟨t520, t523⟩, A14, H⟩ := ob H
 try dsimp only at H
 obtain ⟨t524, A15, H⟩ := ob H
 try dsimp only at H
 obtain ⟨t527, A16, H⟩ := ob H
 try dsimp only at H
 obtain ⟨⟨t530, t531, t532⟩, A17, H⟩ := ob H
 try dsimp only at H
 obtain ⟨⟨t533, t536⟩, A18, H⟩ := ob H
 try dsimp only at H
 rotate_left
 rotate_left 2
 ·have HC19 := Aside0.mk H
  clear H
  go_enter Try.func3, Try.ntmps3
  go_upto_region 12 with (first | ((with_reducible refine gd 5 rfl ?_); refine bx #[.int .i64 a1_0, .int .i64 a1_1, .int .i64 a1_2] 23 ?_; intro gb508 hg w20 BK508 hb; have GE508 := ngw0 hg HB; replace HB := bS0 HB hb; clear hb hg) | ((with_reducible refine gate_callee (f := 6) rfl ?_); refine gl 23 Try.func6 #[.slice A2 l2.length c2, .int .i64 1048576] ?_; (with_reducible refine (laws_szMotionS.calls _ _ _ _ _ _ ?side1 ?side2 A5.out).mono ?_); (case side1 => exact ks (Kd.C_below HR2.out HB.out)); (case side2 => exact HC2.out); rintro e w' ⟨rfl, ⟨nd, rfl⟩⟩; refine ⟨_, rfl, ?_⟩) | ((with_reducible refine gate_callee (f := 6) rfl ?_); refine gl 28 Try.func6 #[.slice A3 l3.length c3, .int .i64 t509] ?_; (with_reducible refine (laws_szMotionS.calls _ _ _ _ _ _ ?side1 ?side2 A8.out).mono ?_); (case side1 => exact ks (Kd.C_below HR3.out (bbw1 HB GE508))); (case side2 => exact HC3.out); rintro e w' ⟨rfl, ⟨nd, rfl⟩⟩; refine ⟨_, rfl, ?_⟩; have hcz21_0 : w20.cell? ⟨gb508, 0, none⟩ = some (.int .i64 a1_0) := bcl BK508 0; have hcz21_1 : w20.cell? ⟨gb508, 1, none⟩ = some (.int .i64 a1_1) := bcl BK508 1; have hcz21_2 : w20.cell? ⟨gb508, 2, none⟩ = some (.int .i64 a1_2) := bcl BK508 2; have hfz21_0 := blk_frozen BK508.out 0; have hfz21_1 := blk_frozen BK508.out 1; have hfz21_2 := blk_frozen BK508.out 2) | ((with_reducible refine gate_callee (f := 8) rfl ?_); refine gl 34 Try.func8 #[.agg #[.int .i64 a1_0, .int .i64 a1_1, .int .i64 a1_2]] ?_; (with_reducible refine (laws_toLattice.calls _ _ _ _ _ _ _ A11.out).mono ?_); rintro e w22 ⟨rfl, hb⟩; refine ⟨_, rfl, ?_⟩; replace BK508 := bB BK508 hb; replace HB := bS1 HB GE508 hb; (try clear hb)) | ((with_reducible refine gate_callee (f := 9) rfl ?_); refine gl 36 Try.func9 #[.slice A2 l2.length c2] ?_; (with_reducible refine (laws_toMotionS.calls _ _ _ _ _ _ ?side1 ?side2 A12.out).mono ?_); (case side1 => exact ks (Kd.C_below HR2.out HB.out)); (case side2 => exact HC2.out); rintro e w23 ⟨v515, rfl, ho0, hb⟩; refine ⟨_, rfl, ?_⟩; have HO516 := asd (Kd.R_lower ho0 (bsz1 HB GE508)); replace BK508 := bB BK508 hb; replace HB := bS1 HB GE508 hb; (try clear hb); (try clear hb2); (try clear hk); (try clear hi); (try clear ho0)) | ((with_reducible refine gate_callee (f := 9) rfl ?_); refine gl 38 Try.func9 #[.slice A3 l3.length c3] ?_; (with_reducible refine (laws_toMotionS.calls _ _ _ _ _ _ ?side1 ?side2 A13.out).mono ?_); (case side1 => exact ks (Kd.C_below HR3.out HB.out)); (case side2 => exact HC3.out); rintro e w24 ⟨v518, rfl, ho0, hb⟩; refine ⟨_, rfl, ?_⟩; have HO519 := asd (Kd.R_lower (Kd.R_new' ho0 (Kd.R_lt (kr HO516))) (bsz1 HB GE508)); replace HO516 := asd (Kd.R_elder' (kr HO516) (Kd.R_base ho0) hb); replace BK508 := bB BK508 hb; replace HB := bS1 HB GE508 hb; (try clear hb); (try clear hb2); (try clear hk); (try clear hi); (try clear ho0); obtain ⟨Ao25, co25, eo25⟩ := Kd.R_slice HO516.out; subst eo25; obtain ⟨Ao26, co26, eo26⟩ := Kd.R_slice HO519.out; subst eo26) | ((with_reducible refine gate_callee (f := 7) rfl ?_); refine gl 39 Try.func7 #[.int .i64 a0, .agg #[.int .i64 t511, .int .i64 t512, .int .i64 t513], .slice Ao25 t514.length co25, .slice Ao26 t517.length co26] ?_; (with_reducible refine (spec_MeetGroups.calls _ _ _ _ _ _ _ _ _ _ _ _ _ _ ?side1 ?side2 ?side3 ?side4 A14.out).mono ?_); (case side1 => exact ks (Kd.R_reads' HO516.out).2.2); (case side2 => exact (Kd.R_reads' HO516.out).2.1); (case side3 => exact ks (Kd.R_reads' HO519.out).2.2); (case side4 => exact (Kd.R_reads' HO519.out).2.1); rintro e w27 ⟨v521, rfl, ho0, hb⟩; refine ⟨_, rfl, ?_⟩; have HO522 := asd (Kd.R_lower (Kd.R_new' (Kd.R_new' ho0 (Kd.R_lt (kr HO516))) (Kd.R_lt (kr HO519))) (bsz1 HB GE508)); replace HO516 := asd (Kd.R_elder' (kr HO516) (Kd.R_base ho0) hb); replace HO519 := asd (Kd.R_elder' (kr HO519) (Kd.R_base ho0) hb); replace BK508 := bB BK508 hb; replace HB := bS1 HB GE508 hb; (try clear hb); (try clear hb2); (try clear hk); (try clear hi); (try clear ho0)) | ((with_reducible refine gate_callee (f := 9) rfl ?_); refine gl 43 Try.func9 #[.slice A2 l2.length c2] ?_; (with_reducible refine (laws_toMotionS.calls _ _ _ _ _ _ ?side1 ?side2 A15.out).mono ?_); (case side1 => exact ks (Kd.C_below HR2.out HB.out)); (case side2 => exact HC2.out); rintro e w28 ⟨v525, rfl, ho0, hb⟩; refine ⟨_, rfl, ?_⟩; have HO526 := asd (Kd.R_lower (Kd.R_new' (Kd.R_new' (Kd.R_new' ho0 (Kd.R_lt (kr HO516))) (Kd.R_lt (kr HO519))) (Kd.R_lt (kr HO522))) (bsz1 HB GE508)); replace HO516 := asd (Kd.R_elder' (kr HO516) (Kd.R_base ho0) hb); replace HO519 := asd (Kd.R_elder' (kr HO519) (Kd.R_base ho0) hb); replace HO522 := asd (Kd.R_elder' (kr HO522) (Kd.R_base ho0) hb); replace BK508 := bB BK508 hb; replace HB := bS1 HB GE508 hb; (try clear hb); (try clear hb2); (try clear hk); (try clear hi); (try clear ho0)) | ((with_reducible refine gate_callee (f := 9) rfl ?_); refine gl 45 Try.func9 #[.slice A3 l3.length c3] ?_; (with_reducible refine (laws_toMotionS.calls _ _ _ _ _ _ ?side1 ?side2 A16.out).mono ?_); (case side1 => exact ks (Kd.C_below HR3.out HB.out)); (case side2 => exact HC3.out); rintro e w29 ⟨v528, rfl, ho0, hb⟩; refine ⟨_, rfl, ?_⟩; have HO529 := asd (Kd.R_lower (Kd.R_new' (Kd.R_new' (Kd.R_new' (Kd.R_new' ho0 (Kd.R_lt (kr HO516))) (Kd.R_lt (kr HO519))) (Kd.R_lt (kr HO522))) (Kd.R_lt (kr HO526))) (bsz1 HB GE508)); replace HO516 := asd (Kd.R_elder' (kr HO516) (Kd.R_base ho0) hb); replace HO519 := asd (Kd.R_elder' (kr HO519) (Kd.R_base ho0) hb); replace HO522 := asd (Kd.R_elder' (kr HO522) (Kd.R_base ho0) hb); replace HO526 := asd (Kd.R_elder' (kr HO526) (Kd.R_base ho0) hb); replace BK508 := bB BK508 hb; replace HB := bS1 HB GE508 hb; (try clear hb); (try clear hb2); (try clear hk); (try clear hi); (try clear ho0); obtain ⟨hcz30_0, hcz30_1, hcz30_2, hfz30_0, hfz30_1, hfz30_2⟩ := bz3 BK508) | ((with_reducible refine gate_callee (f := 8) rfl ?_); refine gl 49 Try.func8 #[.agg #[.int .i64 a1_0, .int .i64 a1_1, .int .i64 a1_2]] ?_; (with_reducible refine (laws_toLattice.calls _ _ _ _ _ _ _ A17.out).mono ?_); rintro e w31 ⟨rfl, hb⟩; refine ⟨_, rfl, ?_⟩; replace HO516 := asd (Kd.R_below (kr HO516) hb); replace HO519 := asd (Kd.R_below (kr HO519) hb); replace HO522 := asd (Kd.R_below (kr HO522) hb); replace HO526 := asd (Kd.R_below (kr HO526) hb); replace HO529 := asd (Kd.R_below (kr HO529) hb); replace BK508 := bB BK508 hb; replace HB := bS1 HB GE508 hb; (try clear hb); obtain ⟨Ao32, co32, eo32⟩ := Kd.R_slice HO526.out; subst eo32; obtain ⟨Ao33, co33, eo33⟩ := Kd.R_slice HO529.out; subst eo33) | ((with_reducible refine gate_callee (f := 10) rfl ?_); refine gl 52 Try.func10 #[.int .i64 a0, .agg #[.int .i64 t530, .int .i64 t531, .int .i64 t532], .slice Ao32 t524.length co32, .slice Ao33 t527.length co33] ?_; (with_reducible refine (impl_MeetGroups.calls _ _ _ _ _ (fun k_ => some k_ = (.slice Ao32 t524.length co32 : Value).ownBlock) _ _ _ (fun k_ => some k_ = (.slice Ao33 t527.length co33 : Value).ownBlock) _ _ _ _ _ _ ?side1 ?side2 A18.out).mono ?_); (case side1 => exact Kd.R_V (Kd.R_tight rfl (Kd.R_types (HO526.out) BK508.out (by decide)))); (case side2 => exact Kd.R_V (Kd.R_tight rfl (Kd.R_types (HO529.out) BK508.out (by decide)))); rintro e w34 ⟨v534, rfl, ho0, hb⟩; refine ⟨_, rfl, ?_⟩; have HO535 := asd (Kd.R_lower (Kd.R_new' (Kd.R_new' (Kd.R_new' (Kd.R_new' (Kd.R_new' (Kd.R_mono (ok' := fun k_ => True) ho0 (fun _ hk_ => trivial)) (Kd.R_lt (kr HO516))) (Kd.R_lt (kr HO519))) (Kd.R_lt (kr HO522))) (Kd.R_lt (kr HO526))) (Kd.R_lt (kr HO529))) (bsz1 HB GE508)); replace HO516 := asd (Kd.R_elder' (kr HO516) (Kd.R_base ho0) hb); replace HO519 := asd (Kd.R_elder' (kr HO519) (Kd.R_base ho0) hb); replace HO522 := asd (Kd.R_elder' (kr HO522) (Kd.R_base ho0) hb); replace HO526 := asd (Kd.R_elder' (kr HO526) (Kd.R_base ho0) hb); replace HO529 := asd (Kd.R_elder' (kr HO529) (Kd.R_base ho0) hb); replace BK508 := bB BK508 hb; replace HB := bS1 HB GE508 hb; (try clear hb); (try clear hb2); (try clear hk); (try clear hi); (try clear ho0)))
  (try simp only [Act.put, sA, sB, sC])
  go_cut [63] (fun v63 wc => ∃ (kq : Nat) (x63_18 : Bool), v63 = .bool x63_18 ∧ Aside0 (laws_FnExactMeetGroups.j0 kq a0 l2 l3 t520 t523 t524 t527 t533 t536 x63_18 a1_0 a1_1 a1_2 = some true) ∧ Aside0 (kq ≤ k) ∧ Aside0 (Kd.R k48 48 wc w.heap.size (fun k_ => some k_ ≠ ((.slice Ao32 t524.length co32) : Value).ownBlock ∧ some k_ ≠ ((.slice Ao33 t527.length co33) : Value).ownBlock ∧ some k_ ≠ (v534 : Value).ownBlock) v521 t520) ∧ Aside0 (Kd.R k48 48 wc w.heap.size (fun k_ => some k_ ≠ (v521 : Value).ownBlock ∧ some k_ ≠ ((.slice Ao33 t527.length co33) : Value).ownBlock ∧ some k_ ≠ (v534 : Value).ownBlock) (.slice Ao32 t524.length co32) t524) ∧ Aside0 (Kd.R k48 48 wc w.heap.size (fun k_ => some k_ ≠ (v521 : Value).ownBlock ∧ some k_ ≠ ((.slice Ao32 t524.length co32) : Value).ownBlock ∧ some k_ ≠ (v534 : Value).ownBlock) (.slice Ao33 t527.length co33) t527) ∧ Aside0 (Kd.R k48 48 wc w.heap.size (fun k_ => some k_ ≠ (v521 : Value).ownBlock ∧ some k_ ≠ ((.slice Ao32 t524.length co32) : Value).ownBlock ∧ some k_ ≠ ((.slice Ao33 t527.length co33) : Value).ownBlock) v534 t533) ∧ Aside0 (wc.heap[gb508]? = some (.cells #[.int .i64 a1_0, .int .i64 a1_1, .int .i64 a1_2] 23 (0, 0))) ∧ Aside0 (Below w.heap.size w wc))
  case first =>
   have H := HC19.out
   clear HC19
   obtain ⟨t537, A35, H⟩ := ob H
   try dsimp only at H
   by_cases c36 : t537 = true
   subst c36
   replace H := ifT H
   have H' := Aside0.mk H
   clear H
   rotate_left
   replace c36 := Bool.eq_false_iff.mpr c36
   subst c36
   replace H := ifF H
   have H' := Aside0.mk H
   clear H
   rotate_left
   all_goals
    obtain ⟨Ao37, co37, eo37⟩ := Kd.R_slice HO535.out
    subst eo37
    obtain ⟨Ao38, co38, eo38⟩ := Kd.R_slice HO522.out
    subst eo38
    go_wp2_with (first | ((with_reducible refine gate_callee (f := 11) rfl ?_); refine gl 57 Try.func11 #[.slice Ao37 t533.length co37, .slice Ao38 t520.length co38] ?_; (with_reducible refine (laws_eqMotionS.calls _ _ _ _ _ _ _ _ _ ?side1 ?side2 ?side3 ?side4 A35.out).mono ?_); (case side1 => exact ks (Kd.R_reads' HO535.out).2.2); (case side2 => exact (Kd.R_reads' HO535.out).2.1); (case side3 => exact ks (Kd.R_reads' HO522.out).2.2); (case side4 => exact (Kd.R_reads' HO522.out).2.1); rintro e w39 ⟨rfl, hb⟩; refine ⟨_, rfl, ?_⟩; replace HO516 := asd (Kd.R_below (kr HO516) hb); replace HO519 := asd (Kd.R_below (kr HO519) hb); replace HO522 := asd (Kd.R_below (kr HO522) hb); replace HO526 := asd (Kd.R_below (kr HO526) hb); replace HO529 := asd (Kd.R_below (kr HO529) hb); replace HO535 := asd (Kd.R_below (kr HO535) hb); replace BK508 := bB BK508 hb; replace HB := bS1 HB GE508 hb; (try clear hb)))
    go_meet
   ·case rel => exact ⟨_, ((t536 != t523)), (by first | rfl | (simp; done) | (simp [*]; done)), H', ⟨by first | omega | exact Nat.le_refl _⟩, ⟨by (with_reducible repeat (first | apply Kd.R_alloc | apply Kd.R_drewN | apply Kd.R_drew)); exact Kd.R_mono HO522.out (fun _ hk => ⟨hk.1.1.2, ⟨hk.1.2, hk.2⟩⟩)⟩, ⟨by (with_reducible repeat (first | apply Kd.R_alloc | apply Kd.R_drewN | apply Kd.R_drew)); exact Kd.R_mono HO526.out (fun _ hk => ⟨hk.1.1.2, ⟨hk.1.2, hk.2⟩⟩)⟩, ⟨by (with_reducible repeat (first | apply Kd.R_alloc | apply Kd.R_drewN | apply Kd.R_drew)); exact Kd.R_mono HO529.out (fun _ hk => ⟨hk.1.1.2, ⟨hk.1.2, hk.2⟩⟩)⟩, ⟨by (with_reducible repeat (first | apply Kd.R_alloc | apply Kd.R_drewN | apply Kd.R_drew)); exact Kd.R_mono HO535.out (fun _ hk => ⟨hk.1.1.2, ⟨hk.1.2, hk.2⟩⟩)⟩, ⟨bkp BK508⟩, ⟨bbw1 HB GE508⟩⟩
   ·case rel => exact ⟨_, (true), (by first | rfl | (simp; done) | (simp [*]; done)), H', ⟨by first | omega | exact Nat.le_refl _⟩, ⟨by (with_reducible repeat (first | apply Kd.R_alloc | apply Kd.R_drewN | apply Kd.R_drew)); exact Kd.R_mono HO522.out (fun _ hk => ⟨hk.1.1.2, ⟨hk.1.2, hk.2⟩⟩)⟩, ⟨by (with_reducible repeat (first | apply Kd.R_alloc | apply Kd.R_drewN | apply Kd.R_drew)); exact Kd.R_mono HO526.out (fun _ hk => ⟨hk.1.1.2, ⟨hk.1.2, hk.2⟩⟩)⟩, ⟨by (with_reducible repeat (first | apply Kd.R_alloc | apply Kd.R_drewN | apply Kd.R_drew)); exact Kd.R_mono HO529.out (fun _ hk => ⟨hk.1.1.2, ⟨hk.1.2, hk.2⟩⟩)⟩, ⟨by (with_reducible repeat (first | apply Kd.R_alloc | apply Kd.R_drewN | apply Kd.R_drew)); exact Kd.R_mono HO535.out (fun _ hk => ⟨hk.1.1.2, ⟨hk.1.2, hk.2⟩⟩)⟩, ⟨bkp BK508⟩, ⟨bbw1 HB GE508⟩⟩
  case rest =>
   clear HC19
   try clear c1
   try clear c2
   try clear p2
   try clear c3
   try clear c6
   try clear c6b0
   try clear c7
   try clear c8
   try clear c9
   try clear c9b0
   try clear c10
   try clear c11
   try clear c36
   try clear hcz21_0
   try clear hcz21_1
   try clear hcz21_2
   try clear hcz30_0
   try clear hcz30_1
   try clear hcz30_2
   try clear hfz21_0
   try clear hfz21_1
   try clear hfz21_2
   try clear hfz30_0
   try clear hfz30_1
   try clear hfz30_2
   obtain ⟨kq, x63_18, rfl, HA, HJ18, HO_10, HO_12, HO_13, HO_14, BK508, HB⟩ := hcut
   cases kq with
   | zero => exact absurd HA.out (by simp [laws_FnExactMeetGroups.j0])
   | succ kj18 =>
    have H := HA.out
    clear HA
    simp only [laws_FnExactMeetGroups.j0] at H
    by_cases c43 : x63_18 = true
    ·subst c43
     replace H := ifT H
     exact absurd H (by simp)
    ·replace c43 := Bool.eq_false_iff.mpr c43
     subst c43
     replace H := ifF H
     obtain ⟨t538, A44, H⟩ := ob H
     try dsimp only at H
     obtain ⟨t541, A45, H⟩ := ob H
     try dsimp only at H
     by_cases c46 : t541 = true
     ·subst c46
      replace H := ifT H
      obtain ⟨t542, A47, H⟩ := ob H
      try dsimp only at H
      obtain ⟨t545, A48, H⟩ := ob H
      try dsimp only at H
      by_cases c49 : t545 = true
      ·subst c49
       replace H := ifT H
       obtain ⟨⟨t546, t547⟩, A50, H⟩ := ob H
       try dsimp only at H
       obtain ⟨⟨t548, t549⟩, A51, H⟩ := ob H
       try dsimp only at H
       have HC52 := Aside0.mk H
       clear H
       go_upto_region 21 with (first | ((with_reducible refine gate_callee (f := 9) rfl ?_); refine gl 66 Try.func9 #[.slice A2 l2.length c2] ?_; (with_reducible refine (laws_toMotionS.calls _ _ _ _ _ _ ?side1 ?side2 A44.out).mono ?_); (case side1 => exact ks (Kd.C_below HR2.out HB.out)); (case side2 => exact HC2.out); rintro e w53 ⟨v539, rfl, ho0, hb⟩; refine ⟨_, rfl, ?_⟩; have HO540 := asd (Kd.R_lower (Kd.R_new' (Kd.R_new' (Kd.R_new' (Kd.R_new' ho0 (Kd.R_lt (kr HO_10))) (Kd.R_lt (kr HO_12))) (Kd.R_lt (kr HO_13))) (Kd.R_lt (kr HO_14))) (bsz1 HB GE508)); replace HO_10 := asd (Kd.R_elder' (kr HO_10) (Kd.R_base ho0) hb); replace HO_12 := asd (Kd.R_elder' (kr HO_12) (Kd.R_base ho0) hb); replace HO_13 := asd (Kd.R_elder' (kr HO_13) (Kd.R_base ho0) hb); replace HO_14 := asd (Kd.R_elder' (kr HO_14) (Kd.R_base ho0) hb); replace BK508 := bB BK508 hb; replace HB := bS1 HB GE508 hb; (try clear hb); (try clear hb2); (try clear hk); (try clear hi); (try clear ho0); obtain ⟨Ao54, co54, eo54⟩ := Kd.R_slice HO540.out; subst eo54) | ((with_reducible refine gate_callee (f := 11) rfl ?_); refine gl 67 Try.func11 #[.slice Ao32 t524.length co32, .slice Ao54 t538.length co54] ?_; (with_reducible refine (laws_eqMotionS.calls _ _ _ _ _ _ _ _ _ ?side1 ?side2 ?side3 ?side4 A45.out).mono ?_); (case side1 => exact ks (Kd.R_reads' HO_12.out).2.2); (case side2 => exact (Kd.R_reads' HO_12.out).2.1); (case side3 => exact ks (Kd.R_reads' HO540.out).2.2); (case side4 => exact (Kd.R_reads' HO540.out).2.1); rintro e w55 ⟨rfl, hb⟩; refine ⟨_, rfl, ?_⟩; replace HO_10 := asd (Kd.R_below (kr HO_10) hb); replace HO_12 := asd (Kd.R_below (kr HO_12) hb); replace HO_13 := asd (Kd.R_below (kr HO_13) hb); replace HO_14 := asd (Kd.R_below (kr HO_14) hb); replace HO540 := asd (Kd.R_below (kr HO540) hb); replace BK508 := bB BK508 hb; replace HB := bS1 HB GE508 hb; (try clear hb)) | ((with_reducible refine gate_callee (f := 9) rfl ?_); refine gl 71 Try.func9 #[.slice A3 l3.length c3] ?_; (with_reducible refine (laws_toMotionS.calls _ _ _ _ _ _ ?side1 ?side2 A47.out).mono ?_); (case side1 => exact ks (Kd.C_below HR3.out HB.out)); (case side2 => exact HC3.out); rintro e w56 ⟨v543, rfl, ho0, hb⟩; refine ⟨_, rfl, ?_⟩; have HO544 := asd (Kd.R_lower (Kd.R_new' (Kd.R_new' (Kd.R_new' (Kd.R_new' (Kd.R_new' ho0 (Kd.R_lt (kr HO_10))) (Kd.R_lt (kr HO_12))) (Kd.R_lt (kr HO_13))) (Kd.R_lt (kr HO_14))) (Kd.R_lt (kr HO540))) (bsz1 HB GE508)); replace HO_10 := asd (Kd.R_elder' (kr HO_10) (Kd.R_base ho0) hb); replace HO_12 := asd (Kd.R_elder' (kr HO_12) (Kd.R_base ho0) hb); replace HO_13 := asd (Kd.R_elder' (kr HO_13) (Kd.R_base ho0) hb); replace HO_14 := asd (Kd.R_elder' (kr HO_14) (Kd.R_base ho0) hb); replace HO540 := asd (Kd.R_elder' (kr HO540) (Kd.R_base ho0) hb); replace BK508 := bB BK508 hb; replace HB := bS1 HB GE508 hb; (try clear hb); (try clear hb2); (try clear hk); (try clear hi); (try clear ho0); obtain ⟨Ao57, co57, eo57⟩ := Kd.R_slice HO544.out; subst eo57) | ((with_reducible refine gate_callee (f := 11) rfl ?_); refine gl 72 Try.func11 #[.slice Ao33 t527.length co33, .slice Ao57 t542.length co57] ?_; (with_reducible refine (laws_eqMotionS.calls _ _ _ _ _ _ _ _ _ ?side1 ?side2 ?side3 ?side4 A48.out).mono ?_); (case side1 => exact ks (Kd.R_reads' HO_13.out).2.2); (case side2 => exact (Kd.R_reads' HO_13.out).2.1); (case side3 => exact ks (Kd.R_reads' HO544.out).2.2); (case side4 => exact (Kd.R_reads' HO544.out).2.1); rintro e w58 ⟨rfl, hb⟩; refine ⟨_, rfl, ?_⟩; replace HO_10 := asd (Kd.R_below (kr HO_10) hb); replace HO_12 := asd (Kd.R_below (kr HO_12) hb); replace HO_13 := asd (Kd.R_below (kr HO_13) hb); replace HO_14 := asd (Kd.R_below (kr HO_14) hb); replace HO540 := asd (Kd.R_below (kr HO540) hb); replace HO544 := asd (Kd.R_below (kr HO544) hb); replace BK508 := bB BK508 hb; replace HB := bS1 HB GE508 hb; (try clear hb)) | ((with_reducible refine gate_callee (f := 12) rfl ?_); refine gl 76 Try.func12 #[.slice Ao32 t524.length co32, .int .i64 1] ?_; (with_reducible refine (laws_markMotionS.calls _ (fun k_ => some k_ = (.slice Ao32 t524.length co32 : Value).ownBlock) _ _ _ _ _ w _ ?side1 ?side2 A50.out).mono ?_); (case side1 => repeat (first | (with_reducible first | exact HB.out | apply below_alloc | apply pw_below_drewN | apply below_drew1 | refine below_set ?_ GE508.out) | exact HB.out)); (case side2 => exact Kd.R_tight rfl HO_12.out); rintro e w59 ⟨rfl, hy0, hb, hkp⟩; refine ⟨_, rfl, ?_⟩; replace HO_10 := asd (Kd.R_mono (ok' := fun k_ => some k_ ≠ (.slice Ao32 t524.length co32 : Value).ownBlock ∧ some k_ ≠ (.slice Ao33 t527.length co33 : Value).ownBlock ∧ some k_ ≠ (v534 : Value).ownBlock ∧ some k_ ≠ (.slice Ao54 t538.length co54 : Value).ownBlock ∧ some k_ ≠ (.slice Ao57 t542.length co57 : Value).ownBlock) (Kd.R_keptB (HO_10.out) hkp (fun k_ hk_ hs_ => (hk_.1.1.1) hs_)) (fun k_ hk_ => ⟨hk_.1.1.1.1, hk_.1.1.1.2.1, hk_.1.1.1.2.2, hk_.1.1.2, hk_.1.2⟩)); replace HO_13 := asd (Kd.R_mono (ok' := fun k_ => some k_ ≠ (v521 : Value).ownBlock ∧ some k_ ≠ (.slice Ao32 t524.length co32 : Value).ownBlock ∧ some k_ ≠ (v534 : Value).ownBlock ∧ some k_ ≠ (.slice Ao54 t538.length co54 : Value).ownBlock ∧ some k_ ≠ (.slice Ao57 t542.length co57 : Value).ownBlock) (Kd.R_keptB (HO_13.out) hkp (fun k_ hk_ hs_ => (hk_.1.1.2.1) hs_)) (fun k_ hk_ => ⟨hk_.1.1.1.1, hk_.1.1.1.2.1, hk_.1.1.1.2.2, hk_.1.1.2, hk_.1.2⟩)); replace HO_14 := asd (Kd.R_mono (ok' := fun k_ => some k_ ≠ (v521 : Value).ownBlock ∧ some k_ ≠ (.slice Ao32 t524.length co32 : Value).ownBlock ∧ some k_ ≠ (.slice Ao33 t527.length co33 : Value).ownBlock ∧ some k_ ≠ (.slice Ao54 t538.length co54 : Value).ownBlock ∧ some k_ ≠ (.slice Ao57 t542.length co57 : Value).ownBlock) (Kd.R_keptB (HO_14.out) hkp (fun k_ hk_ hs_ => (hk_.1.1.2.1) hs_)) (fun k_ hk_ => ⟨hk_.1.1.1.1, hk_.1.1.1.2.1, hk_.1.1.1.2.2, hk_.1.1.2, hk_.1.2⟩)); replace BK508 := asd (blk_kept (bkp BK508) hkp (fun hs_ => (fun e_ => (Kd.R_ne HO_12.out BK508.out (by decide)) e_) hs_)); replace HO_12 := asd (Kd.R_reok rfl hy0 (fun k_ e_ => HO_12.out.1 k_ e_)); replace HO540 := asd (Kd.R_mono (ok' := fun k_ => some k_ ≠ (v521 : Value).ownBlock ∧ some k_ ≠ (.slice Ao32 t524.length co32 : Value).ownBlock ∧ some k_ ≠ (.slice Ao33 t527.length co33 : Value).ownBlock ∧ some k_ ≠ (v534 : Value).ownBlock ∧ some k_ ≠ (.slice Ao57 t542.length co57 : Value).ownBlock) (Kd.R_keptB (HO540.out) hkp (fun k_ hk_ hs_ => (hk_.1.1.1.2) hs_)) (fun k_ hk_ => ⟨hk_.1.1.1.1.1.2, hk_.1.1.1.1.2, hk_.1.1.1.2, hk_.1.1.2, hk_.1.2⟩)); replace HO544 := asd (Kd.R_mono (ok' := fun k_ => some k_ ≠ (v521 : Value).ownBlock ∧ some k_ ≠ (.slice Ao32 t524.length co32 : Value).ownBlock ∧ some k_ ≠ (.slice Ao33 t527.length co33 : Value).ownBlock ∧ some k_ ≠ (v534 : Value).ownBlock ∧ some k_ ≠ (.slice Ao54 t538.length co54 : Value).ownBlock) (Kd.R_keptB (HO544.out) hkp (fun k_ hk_ hs_ => (hk_.1.1.1.2) hs_)) (fun k_ hk_ => ⟨hk_.1.1.1.1.1.2, hk_.1.1.1.1.2, hk_.1.1.1.2, hk_.1.1.2, hk_.1.2⟩)); replace HB := asd (hb); (try clear hb); (try clear hkp); (try clear hy0)) | ((with_reducible refine gate_callee (f := 12) rfl ?_); refine gl 79 Try.func12 #[.slice Ao33 t527.length co33, .int .i64 t546] ?_; (with_reducible refine (laws_markMotionS.calls _ (fun k_ => some k_ = (.slice Ao33 t527.length co33 : Value).ownBlock) _ _ _ _ _ w _ ?side1 ?side2 A51.out).mono ?_); (case side1 => repeat (first | (with_reducible first | exact HB.out | apply below_alloc | apply pw_below_drewN | apply below_drew1 | refine below_set ?_ GE508.out) | exact HB.out)); (case side2 => exact Kd.R_tight rfl HO_13.out); rintro e w60 ⟨rfl, hy0, hb, hkp⟩; refine ⟨_, rfl, ?_⟩; replace HO_10 := asd (Kd.R_mono (ok' := fun k_ => some k_ ≠ (.slice Ao32 t524.length co32 : Value).ownBlock ∧ some k_ ≠ (.slice Ao33 t527.length co33 : Value).ownBlock ∧ some k_ ≠ (v534 : Value).ownBlock ∧ some k_ ≠ (.slice Ao54 t538.length co54 : Value).ownBlock ∧ some k_ ≠ (.slice Ao57 t542.length co57 : Value).ownBlock) (Kd.R_keptB (HO_10.out) hkp (fun k_ hk_ hs_ => (hk_.2.1) hs_)) (fun k_ hk_ => ⟨hk_.1.1, hk_.1.2.1, hk_.1.2.2.1, hk_.1.2.2.2.1, hk_.1.2.2.2.2⟩)); replace HO_12 := asd (Kd.R_mono (ok' := fun k_ => some k_ ≠ (v521 : Value).ownBlock ∧ some k_ ≠ (.slice Ao33 t527.length co33 : Value).ownBlock ∧ some k_ ≠ (v534 : Value).ownBlock ∧ some k_ ≠ (.slice Ao54 t538.length co54 : Value).ownBlock ∧ some k_ ≠ (.slice Ao57 t542.length co57 : Value).ownBlock) (Kd.R_keptB (HO_12.out) hkp (fun k_ hk_ hs_ => (hk_.1.1.2.1) hs_)) (fun k_ hk_ => ⟨hk_.1.1.1.1, hk_.1.1.1.2.1, hk_.1.1.1.2.2, hk_.1.1.2, hk_.1.2⟩)); replace HO_14 := asd (Kd.R_mono (ok' := fun k_ => some k_ ≠ (v521 : Value).ownBlock ∧ some k_ ≠ (.slice Ao32 t524.length co32 : Value).ownBlock ∧ some k_ ≠ (.slice Ao33 t527.length co33 : Value).ownBlock ∧ some k_ ≠ (.slice Ao54 t538.length co54 : Value).ownBlock ∧ some k_ ≠ (.slice Ao57 t542.length co57 : Value).ownBlock) (Kd.R_keptB (HO_14.out) hkp (fun k_ hk_ hs_ => (hk_.2.2.1) hs_)) (fun k_ hk_ => ⟨hk_.1.1, hk_.1.2.1, hk_.1.2.2.1, hk_.1.2.2.2.1, hk_.1.2.2.2.2⟩)); replace BK508 := asd (blk_kept (bkp BK508) hkp (fun hs_ => (fun e_ => (Kd.R_ne HO_13.out BK508.out (by decide)) e_) hs_)); replace HO_13 := asd (Kd.R_reok rfl hy0 (fun k_ e_ => HO_13.out.1 k_ e_)); replace HO540 := asd (Kd.R_mono (ok' := fun k_ => some k_ ≠ (v521 : Value).ownBlock ∧ some k_ ≠ (.slice Ao32 t524.length co32 : Value).ownBlock ∧ some k_ ≠ (.slice Ao33 t527.length co33 : Value).ownBlock ∧ some k_ ≠ (v534 : Value).ownBlock ∧ some k_ ≠ (.slice Ao57 t542.length co57 : Value).ownBlock) (Kd.R_keptB (HO540.out) hkp (fun k_ hk_ hs_ => (hk_.2.2.1) hs_)) (fun k_ hk_ => ⟨hk_.1.1, hk_.1.2.1, hk_.1.2.2.1, hk_.1.2.2.2.1, hk_.1.2.2.2.2⟩)); replace HO544 := asd (Kd.R_mono (ok' := fun k_ => some k_ ≠ (v521 : Value).ownBlock ∧ some k_ ≠ (.slice Ao32 t524.length co32 : Value).ownBlock ∧ some k_ ≠ (.slice Ao33 t527.length co33 : Value).ownBlock ∧ some k_ ≠ (v534 : Value).ownBlock ∧ some k_ ≠ (.slice Ao54 t538.length co54 : Value).ownBlock) (Kd.R_keptB (HO544.out) hkp (fun k_ hk_ hs_ => (hk_.2.2.1) hs_)) (fun k_ hk_ => ⟨hk_.1.1, hk_.1.2.1, hk_.1.2.2.1, hk_.1.2.2.2.1, hk_.1.2.2.2.2⟩)); replace HB := asd (hb); (try clear hb); (try clear hkp); (try clear hy0)))
       (try simp only [Act.put, sA, sB, sC])
       go_cut [92] (fun v92 wc => ∃ (kq : Nat) (x92_51 : Bool), v92 = .bool x92_51 ∧ Aside0 (laws_FnExactMeetGroups.j1 kq a0 l2 l3 t520 t523 t533 x92_51 a1_0 a1_1 a1_2 = some true) ∧ Aside0 (kq ≤ kj18) ∧ Aside0 (Kd.R k48 48 wc w.heap.size (fun k_ => some k_ ≠ (v534 : Value).ownBlock) v521 t520) ∧ Aside0 (Kd.R k48 48 wc w.heap.size (fun k_ => some k_ ≠ (v521 : Value).ownBlock) v534 t533) ∧ Aside0 (wc.heap[gb508]? = some (.cells #[.int .i64 a1_0, .int .i64 a1_1, .int .i64 a1_2] 23 (0, 0))) ∧ Aside0 (Below w.heap.size w wc))
       case first =>
        have H := HC52.out
        clear HC52
        by_cases c61 : t548 < 0
        ·rw [if_pos c61] at H
         have c61b0 := decide_eq_true c61
         clear c61
         (first | rw [c61b0] | (simp only [i64_w, i32_w]; rw [c61b0]) | skip)
         have H' := Aside0.mk H
         clear H
         go_wp2
         go_meet
         case rel => exact ⟨_, (true), (by first | rfl | (simp; done) | (simp [*]; done)), H', ⟨by have := HJ18.out; first | omega | exact Nat.le_refl _⟩, ⟨by (with_reducible repeat (first | apply Kd.R_alloc | apply Kd.R_drewN | apply Kd.R_drew)); exact Kd.R_mono HO_10.out (fun _ hk => hk.2.2.1)⟩, ⟨by (with_reducible repeat (first | apply Kd.R_alloc | apply Kd.R_drewN | apply Kd.R_drew)); exact Kd.R_mono HO_14.out (fun _ hk => hk.1)⟩, ⟨bkp BK508⟩, ⟨bbw1 HB GE508⟩⟩
        ·rw [if_neg c61] at H
         have c61b0 := decide_eq_false c61
         clear c61
         (first | rw [c61b0] | (simp only [i64_w, i32_w]; rw [c61b0]) | skip)
         obtain ⟨t550, A62, H⟩ := ob H
         try dsimp only at H
         by_cases c63 : t550 = true
         subst c63
         replace H := ifT H
         have H' := Aside0.mk H
         clear H
         rotate_left
         replace c63 := Bool.eq_false_iff.mpr c63
         subst c63
         replace H := ifF H
         have H' := Aside0.mk H
         clear H
         rotate_left
         all_goals
          obtain ⟨Ao64, co64, eo64⟩ := Kd.R_slice HO_14.out
          subst eo64
          obtain ⟨Ao65, co65, eo65⟩ := Kd.R_slice HO_10.out
          subst eo65
          go_wp2_with (first | (go_at_call 11; (with_reducible refine (laws_eqMotionS.calls _ _ _ _ _ _ _ _ _ ?side1 ?side2 ?side3 ?side4 A62.out).mono ?_); (case side1 => exact ks (Kd.R_reads' HO_14.out).2.2); (case side2 => exact (Kd.R_reads' HO_14.out).2.1); (case side3 => exact ks (Kd.R_reads' HO_10.out).2.2); (case side4 => exact (Kd.R_reads' HO_10.out).2.1); rintro e w66 ⟨rfl, hb⟩; replace HO_10 := asd (Kd.R_below (kr HO_10) hb); replace HO_12 := asd (Kd.R_below (kr HO_12) hb); replace HO_13 := asd (Kd.R_below (kr HO_13) hb); replace HO_14 := asd (Kd.R_below (kr HO_14) hb); replace HO540 := asd (Kd.R_below (kr HO540) hb); replace HO544 := asd (Kd.R_below (kr HO544) hb); replace BK508 := bB BK508 hb; replace HB := bS1 HB GE508 hb; (try clear hb)))
          go_meet
         ·case rel => exact ⟨_, ((t536 != t523)), (by first | rfl | (simp; done) | (simp [*]; done)), H', ⟨by have := HJ18.out; first | omega | exact Nat.le_refl _⟩, ⟨by (with_reducible repeat (first | apply Kd.R_alloc | apply Kd.R_drewN | apply Kd.R_drew)); exact Kd.R_mono HO_10.out (fun _ hk => hk.2.2.1)⟩, ⟨by (with_reducible repeat (first | apply Kd.R_alloc | apply Kd.R_drewN | apply Kd.R_drew)); exact Kd.R_mono HO_14.out (fun _ hk => hk.1)⟩, ⟨bkp BK508⟩, ⟨bbw1 HB GE508⟩⟩
         ·case rel => exact ⟨_, (true), (by first | rfl | (simp; done) | (simp [*]; done)), H', ⟨by have := HJ18.out; first | omega | exact Nat.le_refl _⟩, ⟨by (with_reducible repeat (first | apply Kd.R_alloc | apply Kd.R_drewN | apply Kd.R_drew)); exact Kd.R_mono HO_10.out (fun _ hk => hk.2.2.1)⟩, ⟨by (with_reducible repeat (first | apply Kd.R_alloc | apply Kd.R_drewN | apply Kd.R_drew)); exact Kd.R_mono HO_14.out (fun _ hk => hk.1)⟩, ⟨bkp BK508⟩, ⟨bbw1 HB GE508⟩⟩
       case rest =>
        clear HC52
        try clear c1
        try clear c2
        try clear p2
        try clear c3
        try clear c4
        try clear c6
        try clear c6b0
        try clear c7
        try clear c8
        try clear c9
        try clear c9b0
        try clear c10
        try clear c11
        try clear c12
        try clear c36
        try clear c43
        try clear c46
        try clear c49
        try clear c61
        try clear c61b0
        try clear c63
        try clear hcz21_0
        try clear hcz21_1
        try clear hcz21_2
        try clear hcz30_0
        try clear hcz30_1
        try clear hcz30_2
        try clear hfz21_0
        try clear hfz21_1
        try clear hfz21_2
        try clear hfz30_0
        try clear hfz30_1
        try clear hfz30_2
        try clear p2
        obtain ⟨kq, x92_51, rfl, HA, HJ51, HO_10, HO_14, BK508, HB⟩ := hcut
        cases kq with
        | zero => exact absurd HA.out (by simp [laws_FnExactMeetGroups.j1])
        | succ kj51 =>
         have H := HA.out
         clear HA
         simp only [laws_FnExactMeetGroups.j1] at H
         by_cases c70 : x92_51 = true
         ·subst c70
          replace H := ifT H
          exact absurd H (by simp)
         ·replace c70 := Bool.eq_false_iff.mpr c70
          subst c70
          replace H := ifF H
          obtain ⟨⟨t551, t552⟩, A71, H⟩ := ob H
          try dsimp only at H
          obtain ⟨t553, A72, H⟩ := ob H
          try dsimp only at H
          by_cases c73 : t553 < 0
          ·rw [if_pos c73] at H
           have c73b0 := decide_eq_true c73
           clear c73
           exact absurd H (by simp)
          ·rw [if_neg c73] at H
           have c73b0 := decide_eq_false c73
           clear c73
           by_cases c74 : t553 = t551
           ·rw [if_pos c74] at H
            have c74b0 : (t553 == t551) = true := beq_iff_eq.mpr c74
            have c74b1 : (t553 != t551) = false := bne_eq_false_iff_eq.mpr c74
            clear c74
            obtain ⟨⟨t554, t555, t556⟩, A75, H⟩ := ob H
            try dsimp only at H
            obtain ⟨t557, A76, H⟩ := ob H
            try dsimp only at H
            obtain ⟨t560, A77, H⟩ := ob H
            try dsimp only at H
            obtain ⟨⟨t563, t566⟩, A78, H⟩ := ob H
            try dsimp only at H
            have HC79 := Aside0.mk H
            clear H
            obtain ⟨Ao80, co80, eo80⟩ := Kd.R_slice HO_14.out
            subst eo80
            go_upto_region 32 with (first | ((with_reducible refine gate_callee (f := 12) rfl ?_); refine gl 95 Try.func12 #[.slice Ao80 t533.length co80, .int .i64 1] ?_; (with_reducible refine (laws_markMotionS.calls _ (fun k_ => some k_ = (.slice Ao80 t533.length co80 : Value).ownBlock) _ _ _ _ _ w _ ?side1 ?side2 A71.out).mono ?_); (case side1 => repeat (first | (with_reducible first | exact HB.out | apply below_alloc | apply pw_below_drewN | apply below_drew1 | refine below_set ?_ GE508.out) | exact HB.out)); (case side2 => exact Kd.R_tight rfl HO_14.out); rintro e w81 ⟨rfl, hy0, hb, hkp⟩; refine ⟨_, rfl, ?_⟩; replace HO_10 := asd (Kd.R_mono (ok' := fun k_ => some k_ ≠ (.slice Ao80 t533.length co80 : Value).ownBlock) (Kd.R_keptB (HO_10.out) hkp (fun k_ hk_ hs_ => (hk_) hs_)) (fun k_ hk_ => hk_.1)); replace BK508 := asd (blk_kept (bkp BK508) hkp (fun hs_ => (fun e_ => (Kd.R_ne HO_14.out BK508.out (by decide)) e_) hs_)); replace HO_14 := asd (Kd.R_reok rfl hy0 (fun k_ e_ => HO_14.out.1 k_ e_)); replace HB := asd (hb); (try clear hb); (try clear hkp); (try clear hy0)) | ((with_reducible refine gate_callee (f := 13) rfl ?_); refine goesL_ (some 98) rfl rfl Try.func13 (by kernel_rfl) rfl #[.slice Ao80 t552.length co80, .int .i64 1] rfl (by (try simp only [List.map_toArray, List.map_cons, List.map_nil]); first | done | (rw [show t552.length = t533.length from (Kd.R_reads' HO_14.out).1.symm] <;> rfl) | rfl | (simp only [List.length_drop, List.length_take]; rfl)) ?_; (with_reducible refine (laws_heldMotionS.calls _ _ _ _ _ _ _ ?side1 ?side2 A72.out).mono ?_); (case side1 => exact ks (Kd.R_reads' HO_14.out).2.2); (case side2 => rw [show t552.length = t533.length from (Kd.R_reads' HO_14.out).1.symm]; exact (Kd.R_reads' HO_14.out).2.1); rintro e w' ⟨rfl, ⟨nd, rfl⟩⟩; refine ⟨_, rfl, ?_⟩; have hcz82_0 : w81.cell? ⟨gb508, 0, none⟩ = some (.int .i64 a1_0) := bcl BK508 0; have hcz82_1 : w81.cell? ⟨gb508, 1, none⟩ = some (.int .i64 a1_1) := bcl BK508 1; have hcz82_2 : w81.cell? ⟨gb508, 2, none⟩ = some (.int .i64 a1_2) := bcl BK508 2; have hfz82_0 := blk_frozen BK508.out 0; have hfz82_1 := blk_frozen BK508.out 1; have hfz82_2 := blk_frozen BK508.out 2) | ((with_reducible refine gate_callee (f := 8) rfl ?_); refine gl 107 Try.func8 #[.agg #[.int .i64 a1_0, .int .i64 a1_1, .int .i64 a1_2]] ?_; (with_reducible refine (laws_toLattice.calls _ _ _ _ _ _ _ A75.out).mono ?_); rintro e w83 ⟨rfl, hb⟩; refine ⟨_, rfl, ?_⟩; replace HO_10 := asd (Kd.R_below (kr HO_10) hb); replace HO_14 := asd (Kd.R_below (kr HO_14) hb); replace BK508 := bB BK508 hb; replace HB := bS1 HB GE508 hb; (try clear hb)) | ((with_reducible refine gate_callee (f := 9) rfl ?_); refine gl 109 Try.func9 #[.slice A2 l2.length c2] ?_; (with_reducible refine (laws_toMotionS.calls _ _ _ _ _ _ ?side1 ?side2 A76.out).mono ?_); (case side1 => exact ks (Kd.C_below HR2.out HB.out)); (case side2 => exact HC2.out); rintro e w84 ⟨v558, rfl, ho0, hb⟩; refine ⟨_, rfl, ?_⟩; have HO559 := asd (Kd.R_lower (Kd.R_new' (Kd.R_new' ho0 (Kd.R_lt (kr HO_10))) (Kd.R_lt (kr HO_14))) (bsz1 HB GE508)); replace HO_10 := asd (Kd.R_elder' (kr HO_10) (Kd.R_base ho0) hb); replace HO_14 := asd (Kd.R_elder' (kr HO_14) (Kd.R_base ho0) hb); replace BK508 := bB BK508 hb; replace HB := bS1 HB GE508 hb; (try clear hb); (try clear hb2); (try clear hk); (try clear hi); (try clear ho0)) | ((with_reducible refine gate_callee (f := 9) rfl ?_); refine gl 111 Try.func9 #[.slice A3 l3.length c3] ?_; (with_reducible refine (laws_toMotionS.calls _ _ _ _ _ _ ?side1 ?side2 A77.out).mono ?_); (case side1 => exact ks (Kd.C_below HR3.out HB.out)); (case side2 => exact HC3.out); rintro e w85 ⟨v561, rfl, ho0, hb⟩; refine ⟨_, rfl, ?_⟩; have HO562 := asd (Kd.R_lower (Kd.R_new' (Kd.R_new' (Kd.R_new' ho0 (Kd.R_lt (kr HO_10))) (Kd.R_lt (kr HO_14))) (Kd.R_lt (kr HO559))) (bsz1 HB GE508)); replace HO_10 := asd (Kd.R_elder' (kr HO_10) (Kd.R_base ho0) hb); replace HO_14 := asd (Kd.R_elder' (kr HO_14) (Kd.R_base ho0) hb); replace HO559 := asd (Kd.R_elder' (kr HO559) (Kd.R_base ho0) hb); replace BK508 := bB BK508 hb; replace HB := bS1 HB GE508 hb; (try clear hb); (try clear hb2); (try clear hk); (try clear hi); (try clear ho0); obtain ⟨Ao86, co86, eo86⟩ := Kd.R_slice HO559.out; subst eo86; obtain ⟨Ao87, co87, eo87⟩ := Kd.R_slice HO562.out; subst eo87) | ((with_reducible refine gate_callee (f := 10) rfl ?_); refine gl 112 Try.func10 #[.int .i64 a0, .agg #[.int .i64 t554, .int .i64 t555, .int .i64 t556], .slice Ao86 t557.length co86, .slice Ao87 t560.length co87] ?_; (with_reducible refine (impl_MeetGroups.calls _ _ _ _ _ (fun k_ => some k_ = (.slice Ao86 t557.length co86 : Value).ownBlock) _ _ _ (fun k_ => some k_ = (.slice Ao87 t560.length co87 : Value).ownBlock) _ _ _ _ _ _ ?side1 ?side2 A78.out).mono ?_); (case side1 => exact Kd.R_V (Kd.R_tight rfl (Kd.R_types (HO559.out) BK508.out (by decide)))); (case side2 => exact Kd.R_V (Kd.R_tight rfl (Kd.R_types (HO562.out) BK508.out (by decide)))); rintro e w88 ⟨v564, rfl, ho0, hb⟩; refine ⟨_, rfl, ?_⟩; have HO565 := asd (Kd.R_lower (Kd.R_new' (Kd.R_new' (Kd.R_new' (Kd.R_new' (Kd.R_mono (ok' := fun k_ => True) ho0 (fun _ hk_ => trivial)) (Kd.R_lt (kr HO_10))) (Kd.R_lt (kr HO_14))) (Kd.R_lt (kr HO559))) (Kd.R_lt (kr HO562))) (bsz1 HB GE508)); replace HO_10 := asd (Kd.R_elder' (kr HO_10) (Kd.R_base ho0) hb); replace HO_14 := asd (Kd.R_elder' (kr HO_14) (Kd.R_base ho0) hb); replace HO559 := asd (Kd.R_elder' (kr HO559) (Kd.R_base ho0) hb); replace HO562 := asd (Kd.R_elder' (kr HO562) (Kd.R_base ho0) hb); replace BK508 := bB BK508 hb; replace HB := bS1 HB GE508 hb; (try clear hb); (try clear hb2); (try clear hk); (try clear hi); (try clear ho0)))
            (try simp only [Act.put, sA, sB, sC])
            go_cut [123] (fun v123 wc => ∃ (kq : Nat) (x123_78 : Bool), v123 = .bool x123_78 ∧ Aside0 (laws_FnExactMeetGroups.j2 kq t552 t551 x123_78 = some true) ∧ Aside0 (kq ≤ kj51) ∧ Aside0 (Kd.R k48 48 wc w.heap.size (fun _ => True) (.slice Ao80 t533.length co80) t552) ∧ Aside0 (wc.heap[gb508]? = some (.cells #[.int .i64 a1_0, .int .i64 a1_1, .int .i64 a1_2] 23 (0, 0))) ∧ Aside0 (Below w.heap.size w wc))
            case first =>
             have H := HC79.out
             clear HC79
             obtain ⟨t567, A89, H⟩ := ob H
             try dsimp only at H
             by_cases c90 : t567 = true
             subst c90
             replace H := ifT H
             have H' := Aside0.mk H
             clear H
             rotate_left
             replace c90 := Bool.eq_false_iff.mpr c90
             subst c90
             replace H := ifF H
             have H' := Aside0.mk H
             clear H
             rotate_left
             all_goals
              obtain ⟨Ao91, co91, eo91⟩ := Kd.R_slice HO565.out
              subst eo91
              obtain ⟨Ao92, co92, eo92⟩ := Kd.R_slice HO_10.out
              subst eo92
              go_wp2_with (first | ((with_reducible refine gate_callee (f := 11) rfl ?_); refine gl 117 Try.func11 #[.slice Ao91 t563.length co91, .slice Ao92 t520.length co92] ?_; (with_reducible refine (laws_eqMotionS.calls _ _ _ _ _ _ _ _ _ ?side1 ?side2 ?side3 ?side4 A89.out).mono ?_); (case side1 => exact ks (Kd.R_reads' HO565.out).2.2); (case side2 => exact (Kd.R_reads' HO565.out).2.1); (case side3 => exact ks (Kd.R_reads' HO_10.out).2.2); (case side4 => exact (Kd.R_reads' HO_10.out).2.1); rintro e w93 ⟨rfl, hb⟩; refine ⟨_, rfl, ?_⟩; replace HO_10 := asd (Kd.R_below (kr HO_10) hb); replace HO_14 := asd (Kd.R_below (kr HO_14) hb); replace HO559 := asd (Kd.R_below (kr HO559) hb); replace HO562 := asd (Kd.R_below (kr HO562) hb); replace HO565 := asd (Kd.R_below (kr HO565) hb); replace BK508 := bB BK508 hb; replace HB := bS1 HB GE508 hb; (try clear hb)))
              go_meet
             ·case rel => exact ⟨_, ((t566 != t523)), (by first | rfl | (simp; done) | (simp [*]; done)), H', ⟨by have := HJ18.out; have := HJ51.out; first | omega | exact Nat.le_refl _⟩, ⟨by (with_reducible repeat (first | apply Kd.R_alloc | apply Kd.R_drewN | apply Kd.R_drew)); exact Kd.R_mono HO_14.out (fun _ hk => trivial)⟩, ⟨bkp BK508⟩, ⟨bbw1 HB GE508⟩⟩
             ·case rel => exact ⟨_, (true), (by first | rfl | (simp; done) | (simp [*]; done)), H', ⟨by have := HJ18.out; have := HJ51.out; first | omega | exact Nat.le_refl _⟩, ⟨by (with_reducible repeat (first | apply Kd.R_alloc | apply Kd.R_drewN | apply Kd.R_drew)); exact Kd.R_mono HO_14.out (fun _ hk => trivial)⟩, ⟨bkp BK508⟩, ⟨bbw1 HB GE508⟩⟩
            case rest =>
             clear HC79
             try clear c1
             try clear c2
             try clear p2
             try clear c3
             try clear c4
             try clear c6
             try clear c6b0
             try clear c7
             try clear c8
             try clear c9
             try clear c9b0
             try clear c10
             try clear c11
             try clear c12
             try clear c13
             try clear c36
             try clear c43
             try clear c46
             try clear c49
             try clear c61
             try clear c61b0
             try clear c63
             try clear c70
             try clear c73
             try clear c73b0
             try clear c74
             try clear c74b0
             try clear c74b1
             try clear c90
             try clear hcz21_0
             try clear hcz21_1
             try clear hcz21_2
             try clear hcz30_0
             try clear hcz30_1
             try clear hcz30_2
             try clear hcz82_0
             try clear hcz82_1
             try clear hcz82_2
             try clear hfz21_0
             try clear hfz21_1
             try clear hfz21_2
             try clear hfz30_0
             try clear hfz30_1
             try clear hfz30_2
             try clear hfz82_0
             try clear hfz82_1
             try clear hfz82_2
             try clear p2
             obtain ⟨kq, x123_78, rfl, HA, HJ78, HO_14, BK508, HB⟩ := hcut
             have hl14_78 := (Kd.R_reads' HO_14.out).1
             rw [hl14_78] at HO_14
             (try simp only [hl14_78])
             (try simp only [hl14_78] at BK508)
             cases kq with
             | zero => exact absurd HA.out (by simp [laws_FnExactMeetGroups.j2])
             | succ kj78 =>
              have H := HA.out
              clear HA
              simp only [laws_FnExactMeetGroups.j2] at H
              by_cases c97 : x123_78 = true
              ·subst c97
               replace H := ifT H
               exact absurd H (by simp)
              ·replace c97 := Bool.eq_false_iff.mpr c97
               subst c97
               replace H := ifF H
               obtain ⟨t568, A98, H⟩ := ob H
               try dsimp only at H
               by_cases c99 : t568 < 0
               ·rw [if_pos c99] at H
                have c99b0 := decide_eq_true c99
                clear c99
                exact absurd H (by simp)
               ·rw [if_neg c99] at H
                have c99b0 := decide_eq_false c99
                clear c99
                by_cases c100 : t568 = t551
                ·rw [if_pos c100] at H
                 have c100b0 : (t568 == t551) = true := beq_iff_eq.mpr c100
                 have c100b1 : (t568 != t551) = false := bne_eq_false_iff_eq.mpr c100
                 clear c100
                 clear H
                 go_wp2_with (first | ((with_reducible refine gate_callee (f := 13) rfl ?_); refine gl 126 Try.func13 #[.slice Ao80 t552.length co80, .int .i64 1] ?_; (with_reducible refine (laws_heldMotionS.calls _ _ _ _ _ _ _ ?side1 ?side2 A98.out).mono ?_); (case side1 => exact ks (Kd.R_reads' HO_14.out).2.2); (case side2 => exact (Kd.R_reads' HO_14.out).2.1); rintro e w' ⟨rfl, ⟨nd, rfl⟩⟩; refine ⟨_, rfl, ?_⟩))
                 go_ret
                 exact er (bbw1 HB GE508)
                ·rw [if_neg c100] at H
                 have c100b0 : (t568 == t551) = false := beq_eq_false_iff_ne.mpr c100
                 have c100b1 : (t568 != t551) = true := bne_iff_ne.mpr c100
                 exact absurd H (by simp)
           ·rw [if_neg c74] at H
            have c74b0 : (t553 == t551) = false := beq_eq_false_iff_ne.mpr c74
            have c74b1 : (t553 != t551) = true := bne_iff_ne.mpr c74
            exact absurd H (by simp)
      ·replace c49 := Bool.eq_false_iff.mpr c49
       subst c49
       replace H := ifF H
       exact absurd H (by simp)
     ·replace c46 := Bool.eq_false_iff.mpr c46
      subst c46
      replace H := ifF H
      exact absurd H (by simp)
 all_goals
  go_enter Try.func3, Try.ntmps3
  go_wp2_with (first | ((with_reducible refine gd 5 rfl ?_); refine bx #[.int .i64 a1_0, .int .i64 a1_1, .int .i64 a1_2] 23 ?_; intro gb508 hg w7 BK508 hb; have GE508 := ngw0 hg HB; replace HB := bS0 HB hb; clear hb hg) | ((with_reducible refine gate_callee (f := 6) rfl ?_); refine gl 23 Try.func6 #[.slice A2 l2.length c2, .int .i64 1048576] ?_; (with_reducible refine (laws_szMotionS.calls _ _ _ _ _ _ ?side1 ?side2 A5.out).mono ?_); (case side1 => exact ks (Kd.C_below HR2.out HB.out)); (case side2 => exact HC2.out); rintro e w' ⟨rfl, ⟨nd, rfl⟩⟩; refine ⟨_, rfl, ?_⟩) | ((with_reducible refine gate_callee (f := 6) rfl ?_); refine gl 28 Try.func6 #[.slice A3 l3.length c3, .int .i64 t509] ?_; (with_reducible refine (laws_szMotionS.calls _ _ _ _ _ _ ?side1 ?side2 A8.out).mono ?_); (case side1 => exact ks (Kd.C_below HR3.out (bbw1 HB GE508))); (case side2 => exact HC3.out); rintro e w' ⟨rfl, ⟨nd, rfl⟩⟩; refine ⟨_, rfl, ?_⟩))
  go_ret
  exact er (bbw1 HB GE508)

/-- The one plain statement of laws_FnExactMeetGroups. -/
def laws_FnExactMeetGroups.Pure : Prop := ∀ (a0 : Int) (a1_0 : Int) (a1_1 : Int) (a1_2 : Int) (l2 : List (S53)) (l3 : List (S53)), (Lit.int .i64 a0).wf = true → (Lit.int .i64 a1_0).wf = true → (Lit.int .i64 a1_1).wf = true → (Lit.int .i64 a1_2).wf = true → l2.length ≤ maxLen → (∀ x ∈ l2, (Lit.int .i64 x.f0.f0).wf = true ∧ (Lit.int .i64 x.f0.f1).wf = true ∧ (Lit.int .i64 x.f0.f2).wf = true ∧ (Lit.int .i64 x.f0.f3).wf = true ∧ (Lit.int .i64 x.f1.f0).wf = true ∧ (Lit.int .i64 x.f1.f1).wf = true) → l3.length ≤ maxLen → (∀ x ∈ l3, (Lit.int .i64 x.f0.f0).wf = true ∧ (Lit.int .i64 x.f0.f1).wf = true ∧ (Lit.int .i64 x.f0.f2).wf = true ∧ (Lit.int .i64 x.f0.f3).wf = true ∧ (Lit.int .i64 x.f1.f0).wf = true ∧ (Lit.int .i64 x.f1.f1).wf = true) → ∃ k, laws_FnExactMeetGroups.f k a0 a1_0 a1_1 a1_2 l2 l3 = some true
end Go.Proofs.Ytilbokbfcmeleaa.PA
