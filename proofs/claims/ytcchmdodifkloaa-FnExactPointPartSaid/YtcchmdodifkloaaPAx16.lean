/- Walks written by program: each Go function that the law reaches comes to the plain function beside it. -/
import Derived.Test.YtcchmdodifkloaaPAx0
import Derived.Test.YtcchmdodifkloaaPAx5
import Derived.Test.YtcchmdodifkloaaPAx11
namespace Go.Proofs.Ytcchmdodifkloaa.PA
open Go.RowKit Go.Proofs.YtcchmdodifkloaaW.PrintWords Go.Proofs.YtcchmdodifkloaaW.PrintLast Go.Proofs.YtcchmdodifkloaaW.PrintMore
attribute [local go_sem] max2_int min2_int max_two min_two max_three min_three max_four min_four   -- for this text's walks alone
set_option linter.unusedVariables false
set_option linter.unusedSimpArgs false

/-! ### laws_markMatS: function 27 -/
def laws_markMatS.l0 : Nat → List (S51) → Int → Int → Option (Int × (List (S51)))
 | 0, _, _, _ => none
 | k + 1, x0, x1, x5 => if x5 < (x0.length : Int) then (if 0 ≤ x5 then ((some (x0.set (x5 : Int).toNat (⟨x1, (rd_T51 x0 x5).f1, (rd_T51 x0 x5).f2, (rd_T51 x0 x5).f3⟩ : S51) : List (S51))).bind fun y512 => ((some (y512.set (x5 : Int).toNat (⟨(rd_T51 y512 x5).f0, wrap64 (x1 + 1), (rd_T51 y512 x5).f2, (rd_T51 y512 x5).f3⟩ : S51) : List (S51))).bind fun y513 => ((some (y513.set (x5 : Int).toNat (⟨(rd_T51 y513 x5).f0, (rd_T51 y513 x5).f1, wrap64 ((wrap64 (x1 + 1)) + 1), (rd_T51 y513 x5).f3⟩ : S51) : List (S51))).bind fun y514 => (laws_markMatS.l0 k (y514.set (x5 : Int).toNat (⟨(rd_T51 y514 x5).f0, (rd_T51 y514 x5).f1, (rd_T51 y514 x5).f2, wrap64 ((wrap64 ((wrap64 (x1 + 1)) + 1)) + 1)⟩ : S51)) (wrap64 ((wrap64 ((wrap64 ((wrap64 (x1 + 1)) + 1)) + 1)) + 1)) (wrap64 (x5 + 1)))))) else (none)) else (some (x1, x0))
def laws_markMatS.f (k : Nat) (l0 : List (S51)) (a1 : Int) : Option (Int × (List (S51))) := laws_markMatS.l0 k l0 a1 0
set_option maxHeartbeats 8000000 in
set_option maxRecDepth 100000 in
theorem laws_markMatS.calls (k : Nat) (P0_ : Nat → Prop) (u9000_ : Value) (l0 : List (S51)) (a1 : Int) (r1 : Int) (r2 : List (S51)) (w0 w : World) (hB : Below w0.heap.size w0 w) (ho0 : Kd.R k51 51 w w0.heap.size P0_ u9000_ l0) (h : laws_markMatS.f k l0 a1 = some (r1, r2)) :
  Calls Try.prog 27 #[u9000_, .int .i64 a1] w fun e w' => e = .returned (.int .i64 r1) ∧ Kd.R k51 51 w' w0.heap.size (fun k_ => (P0_ k_ ∨ w.heap.size ≤ k_)) u9000_ r2 ∧ Below w0.heap.size w0 w' ∧ Kept w w' (fun k_ => P0_ k_) := by
 have HO0 := asd (show Kd.R k51 51 w w0.heap.size (fun k_ => (P0_ k_ ∨ w.heap.size ≤ k_)) u9000_ l0 from Kd.R_mono ho0 (fun k_ hk => (.inl hk)))
 have HK := asd (Kept.refl w (fun k_ => P0_ k_))
 have HW0 := Aside0.mk hB.size
 have HB := Aside0.mk hB
 clear hB
 have H : (laws_markMatS.l0 k l0 a1 0) = some (r1, r2) := h
 clear h
 have H' := Aside0.mk H
 clear H
 go_enter Try.func27, Try.ntmps27
 go_wp2
 go_loopg [1, 5] k (fun kq v1 v5 w' => ∃ (x0_1 : List (S51)) (x1_1 : Int) (x5_1 : Int), v1 = .int .i64 x1_1 ∧ v5 = .int .i64 x5_1 ∧ Aside0 (laws_markMatS.l0 kq x0_1 x1_1 x5_1 = some (r1, r2)) ∧ Aside0 (kq ≤ k) ∧ Aside0 (Kd.R k51 51 w' w0.heap.size (fun k_ => (P0_ k_ ∨ w.heap.size ≤ k_)) u9000_ x0_1) ∧ Aside0 (Kept w w' (fun k_ => P0_ k_)) ∧ Aside0 (Below w0.heap.size w0 w'))
 case atStart => exact ⟨(l0), (a1), (0), (by first | rfl | (simp; done) | (simp [*]; done)), (by first | rfl | (simp; done) | (simp [*]; done)), H', ⟨Nat.le_refl _⟩, ⟨by (with_reducible repeat (first | apply Kd.R_alloc | apply Kd.R_drewN | apply Kd.R_drew)); exact HO0.out⟩, ⟨by repeat (first | (with_reducible first | exact HK.out | apply Kept.alloc | apply Kept.drewN | apply Kept.drew) | exact HK.out)⟩, ⟨bbw0 HB⟩⟩
 case round =>
  clear H'
  try clear c2
  try clear p2
  obtain ⟨x0_1, x1_1, x5_1, rfl, rfl, HA, HK1, HO_0, HK, HB⟩ := hrel
  cases gk with
  | zero => exact absurd HA.out (by simp [laws_markMatS.l0])
  | succ k1 =>
   have H := HA.out
   clear HA
   simp only [laws_markMatS.l0] at H
   by_cases c3 : x5_1 < (x0_1.length : Int)
   ·rw [if_pos c3] at H
    have c3b0 : decide (x5_1 < (x0_1.length : Int)) = true := decide_eq_true c3
    clear c3
    by_cases c4 : 0 ≤ x5_1
    ·rw [if_pos c4] at H
     have c4b0 : decide (0 ≤ x5_1) = true := decide_eq_true c4
     clear c4
     obtain ⟨y512, hy512⟩ : ∃ y_ : List (S51), y_ = (x0_1.set (x5_1 : Int).toNat (⟨x1_1, (rd_T51 x0_1 x5_1).f1, (rd_T51 x0_1 x5_1).f2, (rd_T51 x0_1 x5_1).f3⟩ : S51)) := ⟨_, rfl⟩
     replace H : ((some (y512.set (x5_1 : Int).toNat (⟨(rd_T51 y512 x5_1).f0, wrap64 (x1_1 + 1), (rd_T51 y512 x5_1).f2, (rd_T51 y512 x5_1).f3⟩ : S51) : List (S51))).bind fun y513 => ((some (y513.set (x5_1 : Int).toNat (⟨(rd_T51 y513 x5_1).f0, (rd_T51 y513 x5_1).f1, wrap64 ((wrap64 (x1_1 + 1)) + 1), (rd_T51 y513 x5_1).f3⟩ : S51) : List (S51))).bind fun y514 => (laws_markMatS.l0 k1 (y514.set (x5_1 : Int).toNat (⟨(rd_T51 y514 x5_1).f0, (rd_T51 y514 x5_1).f1, (rd_T51 y514 x5_1).f2, wrap64 ((wrap64 ((wrap64 (x1_1 + 1)) + 1)) + 1)⟩ : S51)) (wrap64 ((wrap64 ((wrap64 ((wrap64 (x1_1 + 1)) + 1)) + 1)) + 1)) (wrap64 (x5_1 + 1))))) = some (r1, r2) := by first | (rw [hy512]; with_reducible exact H) | (have H2_ := (Option.bind_some _ _).symm.trans H; rw [hy512]; with_reducible exact H2_) | (have H2_ := (Option.bind_some _ _).symm.trans H; with_reducible exact H2_) | with_reducible exact H | (rw [hy512]; exact H) | exact H
     have Ny512 := Aside0.mk hy512
     clear hy512
     obtain ⟨y513, hy513⟩ : ∃ y_ : List (S51), y_ = (y512.set (x5_1 : Int).toNat (⟨(rd_T51 y512 x5_1).f0, wrap64 (x1_1 + 1), (rd_T51 y512 x5_1).f2, (rd_T51 y512 x5_1).f3⟩ : S51)) := ⟨_, rfl⟩
     replace H : ((some (y513.set (x5_1 : Int).toNat (⟨(rd_T51 y513 x5_1).f0, (rd_T51 y513 x5_1).f1, wrap64 ((wrap64 (x1_1 + 1)) + 1), (rd_T51 y513 x5_1).f3⟩ : S51) : List (S51))).bind fun y514 => (laws_markMatS.l0 k1 (y514.set (x5_1 : Int).toNat (⟨(rd_T51 y514 x5_1).f0, (rd_T51 y514 x5_1).f1, (rd_T51 y514 x5_1).f2, wrap64 ((wrap64 ((wrap64 (x1_1 + 1)) + 1)) + 1)⟩ : S51)) (wrap64 ((wrap64 ((wrap64 ((wrap64 (x1_1 + 1)) + 1)) + 1)) + 1)) (wrap64 (x5_1 + 1)))) = some (r1, r2) := by first | (rw [hy513]; with_reducible exact H) | (have H2_ := (Option.bind_some _ _).symm.trans H; rw [hy513]; with_reducible exact H2_) | (have H2_ := (Option.bind_some _ _).symm.trans H; with_reducible exact H2_) | with_reducible exact H | (rw [hy513]; exact H) | exact H
     have Ny513 := Aside0.mk hy513
     clear hy513
     obtain ⟨y514, hy514⟩ : ∃ y_ : List (S51), y_ = (y513.set (x5_1 : Int).toNat (⟨(rd_T51 y513 x5_1).f0, (rd_T51 y513 x5_1).f1, wrap64 ((wrap64 (x1_1 + 1)) + 1), (rd_T51 y513 x5_1).f3⟩ : S51)) := ⟨_, rfl⟩
     replace H : (laws_markMatS.l0 k1 (y514.set (x5_1 : Int).toNat (⟨(rd_T51 y514 x5_1).f0, (rd_T51 y514 x5_1).f1, (rd_T51 y514 x5_1).f2, wrap64 ((wrap64 ((wrap64 (x1_1 + 1)) + 1)) + 1)⟩ : S51)) (wrap64 ((wrap64 ((wrap64 ((wrap64 (x1_1 + 1)) + 1)) + 1)) + 1)) (wrap64 (x5_1 + 1))) = some (r1, r2) := by first | (rw [hy514]; with_reducible exact H) | (have H2_ := (Option.bind_some _ _).symm.trans H; rw [hy514]; with_reducible exact H2_) | (have H2_ := (Option.bind_some _ _).symm.trans H; with_reducible exact H2_) | with_reducible exact H | (rw [hy514]; exact H) | exact H
     have Ny514 := Aside0.mk hy514
     clear hy514
     obtain ⟨y515, hy515⟩ : ∃ y_ : List (S51), y_ = (y514.set (x5_1 : Int).toNat (⟨(rd_T51 y514 x5_1).f0, (rd_T51 y514 x5_1).f1, (rd_T51 y514 x5_1).f2, wrap64 ((wrap64 ((wrap64 (x1_1 + 1)) + 1)) + 1)⟩ : S51)) := ⟨_, rfl⟩
     replace H : (laws_markMatS.l0 k1 y515 (wrap64 ((wrap64 ((wrap64 ((wrap64 (x1_1 + 1)) + 1)) + 1)) + 1)) (wrap64 (x5_1 + 1))) = some (r1, r2) := by first | (rw [hy515]; with_reducible exact H) | (have H2_ := (Option.bind_some _ _).symm.trans H; rw [hy515]; with_reducible exact H2_) | (have H2_ := (Option.bind_some _ _).symm.trans H; with_reducible exact H2_) | with_reducible exact H | (rw [hy515]; exact H) | exact H
     have Ny515 := Aside0.mk hy515
     clear hy515
     have H' := Aside0.mk H
     clear H
     obtain ⟨Ao9, co9, eo9⟩ := Kd.R_slice HO_0.out
     subst eo9
     have p5 : 0 ≤ (x5_1 : Int) := od
     have q5 : (x5_1 : Int) < ((x0_1.length : Int) : Int) := od
     obtain ⟨go5, co5, eo5, gb5, gl5, cl5, HG5⟩ := Kd.R_form HO_0.out (by omega)
     (first | cases eo5 | (injection eo5 with ea_ en_ ec_; (first | subst ea_ | (injection ea_ with ea_; subst ea_)); subst ec_; clear en_))
     have GB5 := Aside0.mk gb5
     have GG5 := Aside0.mk HG5
     clear gb5 gl5 HG5
     have HMgo5 := asd (show (P0_ go5 ∨ w.heap.size ≤ go5) from (HO_0.out.1 _ rfl))
     obtain ⟨ce5, hcl5, hM5, hcc5, hfr5⟩ := Kd.R_elem HO_0.out z51 (x5_1 : Int) p5 q5
     obtain rfl := k51_openM hM5
     have hx5_0 : wr.cell? ⟨go5, (x5_1 : Int).toNat * 4, none⟩ = some (.int .i64 ((rd_T51 x0_1 x5_1).f0)) := hcc5 0 _ rfl
     have hx5_1 : wr.cell? ⟨go5, (x5_1 : Int).toNat * 4 + 1, none⟩ = some (.int .i64 ((rd_T51 x0_1 x5_1).f1)) := hcc5 1 _ rfl
     have hx5_2 : wr.cell? ⟨go5, (x5_1 : Int).toNat * 4 + 2, none⟩ = some (.int .i64 ((rd_T51 x0_1 x5_1).f2)) := hcc5 2 _ rfl
     have hx5_3 : wr.cell? ⟨go5, (x5_1 : Int).toNat * 4 + 3, none⟩ = some (.int .i64 ((rd_T51 x0_1 x5_1).f3)) := hcc5 3 _ rfl
     have hf5_0 : wr.frozen? ⟨go5, (x5_1 : Int).toNat * 4, none⟩ = false := hfr5 0
     have hf5_1 : wr.frozen? ⟨go5, (x5_1 : Int).toNat * 4 + 1, none⟩ = false := hfr5 1
     have hf5_2 : wr.frozen? ⟨go5, (x5_1 : Int).toNat * 4 + 2, none⟩ = false := hfr5 2
     have hf5_3 : wr.frozen? ⟨go5, (x5_1 : Int).toNat * 4 + 3, none⟩ = false := hfr5 3
     clear hcl5 hcc5 hfr5 hM5
     replace p5 := eq_true p5
     replace q5 := eq_true q5
     have HX10 := asd (show Kd.R k51 51 wr w0.heap.size (fun k_ => (P0_ k_ ∨ w.heap.size ≤ k_)) (.slice (some ⟨go5, 0, none⟩) x0_1.length co9) x0_1 from (kr HO_0))
     obtain ⟨ce10, hcl10, hM10, hcc10, hfr10⟩ := Kd.R_elem HX10.out z51 (x5_1 : Int) (od) (by have h_ : (x5_1 : Int) < ((x0_1.length : Int) : Int) := od; first | exact h_ | (have e_ := (Kd.R_reads' HO_0.out).1; omega) | simpa using h_)
     obtain rfl := k51_openM hM10
     have HP10 := Kd.R_seg HX10.out (x5_1 : Int) (od) (by have h_ : (x5_1 : Int) < ((x0_1.length : Int) : Int) := od; first | exact h_ | (have e_ := (Kd.R_reads' HO_0.out).1; omega) | simpa using h_) (seg := [.int .i64 x1_1]) (j := 0) hcl10 hcc10 (show 1 ≤ 4 from by decide) (x' := (⟨x1_1, (rd_T51 x0_1 x5_1).f1, (rd_T51 x0_1 x5_1).f2, (rd_T51 x0_1 x5_1).f3⟩ : S51)) (k51_mkM _ _ _ (⟨x1_1, (rd_T51 x0_1 x5_1).f1, (rd_T51 x0_1 x5_1).f2, (rd_T51 x0_1 x5_1).f3⟩ : S51) ) (fun _ hk => hk)
     have hx10_0 := hcc10 0 _ rfl
     (try simp only [show (k51).sz = 4 from rfl, Nat.mul_one, Nat.add_zero] at hx10_0)
     have hf10_0 := hfr10 0
     (try simp only [show (k51).sz = 4 from rfl, Nat.mul_one, Nat.add_zero] at hf10_0)
     clear hcl10 hcc10 hfr10 hM10
     go_wp2_with (first | ((with_reducible refine gate_store (t := 2) (p := 16) rfl ?_); refine store_event (t := 2) (p := 16) (v := ?vo_w11) (w1 := (wr.setCell ⟨go5, (x5_1 : Int).toNat * 4, none⟩ (.int .i64 x1_1))) ?hg ?ho ?hn ?hr ?_; (case ho => rfl); (case hg => rfl); (case hn => rfl); (case hr => first | (go_simp; done) | (go_simp; rfl)); intro w11 hw; have hg : wr.grownBy w11 (some go5) := (by rw [hw]; exact HP10.2); have hp_ : Kd.R k51 51 w11 w0.heap.size (fun k_ => (P0_ k_ ∨ w.heap.size ≤ k_)) (.slice (some ⟨go5, 0, none⟩) x0_1.length co9) y512 := (by rw [hw, Ny512.out]; exact HP10.1); clear HP10; replace HB := asd ((by rw [hw]; exact below_set (HB.out) GB5.out : Below w0.heap.size w0 w11)); replace HK := asd (Kept.of_grown (S := (fun k_ => P0_ k_)) hg (by repeat (first | (with_reducible first | exact HK.out | apply Kept.alloc | apply Kept.drewN | apply Kept.drew) | exact HK.out)) (fun k_ e_ => (HO_0.out.1 k_ e_))); replace HO_0 := asd (hp_); clear hg hw hp_; have p6 : 0 ≤ (x5_1 : Int) := od; have q6 : (x5_1 : Int) < ((x0_1.length : Int) : Int) := od; obtain ⟨ce6, hcl6, hM6, hcc6, hfr6⟩ := Kd.R_elem HO_0.out z51 (x5_1 : Int) p6 q6; obtain rfl := k51_openM hM6; have hx6_0 : w11.cell? ⟨go5, (x5_1 : Int).toNat * 4, none⟩ = some (.int .i64 ((rd_T51 y512 x5_1).f0)) := hcc6 0 _ rfl; have hx6_1 : w11.cell? ⟨go5, (x5_1 : Int).toNat * 4 + 1, none⟩ = some (.int .i64 ((rd_T51 y512 x5_1).f1)) := hcc6 1 _ rfl; have hx6_2 : w11.cell? ⟨go5, (x5_1 : Int).toNat * 4 + 2, none⟩ = some (.int .i64 ((rd_T51 y512 x5_1).f2)) := hcc6 2 _ rfl; have hx6_3 : w11.cell? ⟨go5, (x5_1 : Int).toNat * 4 + 3, none⟩ = some (.int .i64 ((rd_T51 y512 x5_1).f3)) := hcc6 3 _ rfl; have hf6_0 : w11.frozen? ⟨go5, (x5_1 : Int).toNat * 4, none⟩ = false := hfr6 0; have hf6_1 : w11.frozen? ⟨go5, (x5_1 : Int).toNat * 4 + 1, none⟩ = false := hfr6 1; have hf6_2 : w11.frozen? ⟨go5, (x5_1 : Int).toNat * 4 + 2, none⟩ = false := hfr6 2; have hf6_3 : w11.frozen? ⟨go5, (x5_1 : Int).toNat * 4 + 3, none⟩ = false := hfr6 3; clear hcl6 hcc6 hfr6 hM6; replace p6 := eq_true p6; replace q6 := eq_true q6; have HX12 := asd (show Kd.R k51 51 w11 w0.heap.size (fun k_ => (P0_ k_ ∨ w.heap.size ≤ k_)) (.slice (some ⟨go5, 0, none⟩) x0_1.length co9) y512 from (kr HO_0)); obtain ⟨ce12, hcl12, hM12, hcc12, hfr12⟩ := Kd.R_elem HX12.out z51 (x5_1 : Int) (od) (by have h_ : (x5_1 : Int) < ((x0_1.length : Int) : Int) := od; first | exact h_ | (have e_ := (Kd.R_reads' HO_0.out).1; omega) | simpa using h_); obtain rfl := k51_openM hM12; have HP12 := Kd.R_seg HX12.out (x5_1 : Int) (od) (by have h_ : (x5_1 : Int) < ((x0_1.length : Int) : Int) := od; first | exact h_ | (have e_ := (Kd.R_reads' HO_0.out).1; omega) | simpa using h_) (seg := [.int .i64 (wrap64 (x1_1 + 1))]) (j := 1) hcl12 hcc12 (show 2 ≤ 4 from by decide) (x' := (⟨(rd_T51 y512 x5_1).f0, wrap64 (x1_1 + 1), (rd_T51 y512 x5_1).f2, (rd_T51 y512 x5_1).f3⟩ : S51)) (k51_mkM _ _ _ (⟨(rd_T51 y512 x5_1).f0, wrap64 (x1_1 + 1), (rd_T51 y512 x5_1).f2, (rd_T51 y512 x5_1).f3⟩ : S51) ) (fun _ hk => hk); have hx12_1 := hcc12 1 _ rfl; (try simp only [show (k51).sz = 4 from rfl, Nat.mul_one, Nat.add_zero] at hx12_1); have hf12_1 := hfr12 1; (try simp only [show (k51).sz = 4 from rfl, Nat.mul_one, Nat.add_zero] at hf12_1); clear hcl12 hcc12 hfr12 hM12) | ((with_reducible refine gate_store (t := 2) (p := 23) rfl ?_); refine store_event (t := 2) (p := 23) (v := ?vo_w13) (w1 := (w11.setCell ⟨go5, (x5_1 : Int).toNat * 4 + 1, none⟩ (.int .i64 (wrap64 (x1_1 + 1))))) ?hg ?ho ?hn ?hr ?_; (case ho => rfl); (case hg => rfl); (case hn => rfl); (case hr => first | (go_simp; done) | (go_simp; rfl)); intro w13 hw; have hg : w11.grownBy w13 (some go5) := (by rw [hw]; exact HP12.2); have hp_ : Kd.R k51 51 w13 w0.heap.size (fun k_ => (P0_ k_ ∨ w.heap.size ≤ k_)) (.slice (some ⟨go5, 0, none⟩) x0_1.length co9) y513 := (by rw [hw, Ny513.out]; exact HP12.1); clear HP12; replace HB := asd ((by rw [hw]; exact below_set (HB.out) GB5.out : Below w0.heap.size w0 w13)); replace HK := asd (Kept.of_grown (S := (fun k_ => P0_ k_)) hg (by repeat (first | (with_reducible first | exact HK.out | apply Kept.alloc | apply Kept.drewN | apply Kept.drew) | exact HK.out)) (fun k_ e_ => (HO_0.out.1 k_ e_))); replace HO_0 := asd (hp_); clear hg hw hp_; have p7 : 0 ≤ (x5_1 : Int) := od; have q7 : (x5_1 : Int) < ((x0_1.length : Int) : Int) := od; obtain ⟨ce7, hcl7, hM7, hcc7, hfr7⟩ := Kd.R_elem HO_0.out z51 (x5_1 : Int) p7 q7; obtain rfl := k51_openM hM7; have hx7_0 : w13.cell? ⟨go5, (x5_1 : Int).toNat * 4, none⟩ = some (.int .i64 ((rd_T51 y513 x5_1).f0)) := hcc7 0 _ rfl; have hx7_1 : w13.cell? ⟨go5, (x5_1 : Int).toNat * 4 + 1, none⟩ = some (.int .i64 ((rd_T51 y513 x5_1).f1)) := hcc7 1 _ rfl; have hx7_2 : w13.cell? ⟨go5, (x5_1 : Int).toNat * 4 + 2, none⟩ = some (.int .i64 ((rd_T51 y513 x5_1).f2)) := hcc7 2 _ rfl; have hx7_3 : w13.cell? ⟨go5, (x5_1 : Int).toNat * 4 + 3, none⟩ = some (.int .i64 ((rd_T51 y513 x5_1).f3)) := hcc7 3 _ rfl; have hf7_0 : w13.frozen? ⟨go5, (x5_1 : Int).toNat * 4, none⟩ = false := hfr7 0; have hf7_1 : w13.frozen? ⟨go5, (x5_1 : Int).toNat * 4 + 1, none⟩ = false := hfr7 1; have hf7_2 : w13.frozen? ⟨go5, (x5_1 : Int).toNat * 4 + 2, none⟩ = false := hfr7 2; have hf7_3 : w13.frozen? ⟨go5, (x5_1 : Int).toNat * 4 + 3, none⟩ = false := hfr7 3; clear hcl7 hcc7 hfr7 hM7; replace p7 := eq_true p7; replace q7 := eq_true q7; have HX14 := asd (show Kd.R k51 51 w13 w0.heap.size (fun k_ => (P0_ k_ ∨ w.heap.size ≤ k_)) (.slice (some ⟨go5, 0, none⟩) x0_1.length co9) y513 from (kr HO_0)); obtain ⟨ce14, hcl14, hM14, hcc14, hfr14⟩ := Kd.R_elem HX14.out z51 (x5_1 : Int) (od) (by have h_ : (x5_1 : Int) < ((x0_1.length : Int) : Int) := od; first | exact h_ | (have e_ := (Kd.R_reads' HO_0.out).1; omega) | simpa using h_); obtain rfl := k51_openM hM14; have HP14 := Kd.R_seg HX14.out (x5_1 : Int) (od) (by have h_ : (x5_1 : Int) < ((x0_1.length : Int) : Int) := od; first | exact h_ | (have e_ := (Kd.R_reads' HO_0.out).1; omega) | simpa using h_) (seg := [.int .i64 (wrap64 ((wrap64 (x1_1 + 1)) + 1))]) (j := 2) hcl14 hcc14 (show 3 ≤ 4 from by decide) (x' := (⟨(rd_T51 y513 x5_1).f0, (rd_T51 y513 x5_1).f1, wrap64 ((wrap64 (x1_1 + 1)) + 1), (rd_T51 y513 x5_1).f3⟩ : S51)) (k51_mkM _ _ _ (⟨(rd_T51 y513 x5_1).f0, (rd_T51 y513 x5_1).f1, wrap64 ((wrap64 (x1_1 + 1)) + 1), (rd_T51 y513 x5_1).f3⟩ : S51) ) (fun _ hk => hk); have hx14_2 := hcc14 2 _ rfl; (try simp only [show (k51).sz = 4 from rfl, Nat.mul_one, Nat.add_zero] at hx14_2); have hf14_2 := hfr14 2; (try simp only [show (k51).sz = 4 from rfl, Nat.mul_one, Nat.add_zero] at hf14_2); clear hcl14 hcc14 hfr14 hM14) | ((with_reducible refine gate_store (t := 2) (p := 30) rfl ?_); refine store_event (t := 2) (p := 30) (v := ?vo_w15) (w1 := (w13.setCell ⟨go5, (x5_1 : Int).toNat * 4 + 2, none⟩ (.int .i64 (wrap64 ((wrap64 (x1_1 + 1)) + 1))))) ?hg ?ho ?hn ?hr ?_; (case ho => rfl); (case hg => rfl); (case hn => rfl); (case hr => first | (go_simp; done) | (go_simp; rfl)); intro w15 hw; have hg : w13.grownBy w15 (some go5) := (by rw [hw]; exact HP14.2); have hp_ : Kd.R k51 51 w15 w0.heap.size (fun k_ => (P0_ k_ ∨ w.heap.size ≤ k_)) (.slice (some ⟨go5, 0, none⟩) x0_1.length co9) y514 := (by rw [hw, Ny514.out]; exact HP14.1); clear HP14; replace HB := asd ((by rw [hw]; exact below_set (HB.out) GB5.out : Below w0.heap.size w0 w15)); replace HK := asd (Kept.of_grown (S := (fun k_ => P0_ k_)) hg (by repeat (first | (with_reducible first | exact HK.out | apply Kept.alloc | apply Kept.drewN | apply Kept.drew) | exact HK.out)) (fun k_ e_ => (HO_0.out.1 k_ e_))); replace HO_0 := asd (hp_); clear hg hw hp_; have p8 : 0 ≤ (x5_1 : Int) := od; have q8 : (x5_1 : Int) < ((x0_1.length : Int) : Int) := od; obtain ⟨ce8, hcl8, hM8, hcc8, hfr8⟩ := Kd.R_elem HO_0.out z51 (x5_1 : Int) p8 q8; obtain rfl := k51_openM hM8; have hx8_0 : w15.cell? ⟨go5, (x5_1 : Int).toNat * 4, none⟩ = some (.int .i64 ((rd_T51 y514 x5_1).f0)) := hcc8 0 _ rfl; have hx8_1 : w15.cell? ⟨go5, (x5_1 : Int).toNat * 4 + 1, none⟩ = some (.int .i64 ((rd_T51 y514 x5_1).f1)) := hcc8 1 _ rfl; have hx8_2 : w15.cell? ⟨go5, (x5_1 : Int).toNat * 4 + 2, none⟩ = some (.int .i64 ((rd_T51 y514 x5_1).f2)) := hcc8 2 _ rfl; have hx8_3 : w15.cell? ⟨go5, (x5_1 : Int).toNat * 4 + 3, none⟩ = some (.int .i64 ((rd_T51 y514 x5_1).f3)) := hcc8 3 _ rfl; have hf8_0 : w15.frozen? ⟨go5, (x5_1 : Int).toNat * 4, none⟩ = false := hfr8 0; have hf8_1 : w15.frozen? ⟨go5, (x5_1 : Int).toNat * 4 + 1, none⟩ = false := hfr8 1; have hf8_2 : w15.frozen? ⟨go5, (x5_1 : Int).toNat * 4 + 2, none⟩ = false := hfr8 2; have hf8_3 : w15.frozen? ⟨go5, (x5_1 : Int).toNat * 4 + 3, none⟩ = false := hfr8 3; clear hcl8 hcc8 hfr8 hM8; replace p8 := eq_true p8; replace q8 := eq_true q8; have HX16 := asd (show Kd.R k51 51 w15 w0.heap.size (fun k_ => (P0_ k_ ∨ w.heap.size ≤ k_)) (.slice (some ⟨go5, 0, none⟩) x0_1.length co9) y514 from (kr HO_0)); obtain ⟨ce16, hcl16, hM16, hcc16, hfr16⟩ := Kd.R_elem HX16.out z51 (x5_1 : Int) (od) (by have h_ : (x5_1 : Int) < ((x0_1.length : Int) : Int) := od; first | exact h_ | (have e_ := (Kd.R_reads' HO_0.out).1; omega) | simpa using h_); obtain rfl := k51_openM hM16; have HP16 := Kd.R_seg HX16.out (x5_1 : Int) (od) (by have h_ : (x5_1 : Int) < ((x0_1.length : Int) : Int) := od; first | exact h_ | (have e_ := (Kd.R_reads' HO_0.out).1; omega) | simpa using h_) (seg := [.int .i64 (wrap64 ((wrap64 ((wrap64 (x1_1 + 1)) + 1)) + 1))]) (j := 3) hcl16 hcc16 (show 4 ≤ 4 from by decide) (x' := (⟨(rd_T51 y514 x5_1).f0, (rd_T51 y514 x5_1).f1, (rd_T51 y514 x5_1).f2, wrap64 ((wrap64 ((wrap64 (x1_1 + 1)) + 1)) + 1)⟩ : S51)) (k51_mkM _ _ _ (⟨(rd_T51 y514 x5_1).f0, (rd_T51 y514 x5_1).f1, (rd_T51 y514 x5_1).f2, wrap64 ((wrap64 ((wrap64 (x1_1 + 1)) + 1)) + 1)⟩ : S51) ) (fun _ hk => hk); have hx16_3 := hcc16 3 _ rfl; (try simp only [show (k51).sz = 4 from rfl, Nat.mul_one, Nat.add_zero] at hx16_3); have hf16_3 := hfr16 3; (try simp only [show (k51).sz = 4 from rfl, Nat.mul_one, Nat.add_zero] at hf16_3); clear hcl16 hcc16 hfr16 hM16) | ((with_reducible refine gate_store (t := 2) (p := 37) rfl ?_); refine store_event (t := 2) (p := 37) (v := ?vo_w17) (w1 := (w15.setCell ⟨go5, (x5_1 : Int).toNat * 4 + 3, none⟩ (.int .i64 (wrap64 ((wrap64 ((wrap64 (x1_1 + 1)) + 1)) + 1))))) ?hg ?ho ?hn ?hr ?_; (case ho => rfl); (case hg => rfl); (case hn => rfl); (case hr => first | (go_simp; done) | (go_simp; rfl)); intro w17 hw; have hg : w15.grownBy w17 (some go5) := (by rw [hw]; exact HP16.2); have hp_ : Kd.R k51 51 w17 w0.heap.size (fun k_ => (P0_ k_ ∨ w.heap.size ≤ k_)) (.slice (some ⟨go5, 0, none⟩) x0_1.length co9) y515 := (by rw [hw, Ny515.out]; exact HP16.1); clear HP16; replace HB := asd ((by rw [hw]; exact below_set (HB.out) GB5.out : Below w0.heap.size w0 w17)); replace HK := asd (Kept.of_grown (S := (fun k_ => P0_ k_)) hg (by repeat (first | (with_reducible first | exact HK.out | apply Kept.alloc | apply Kept.drewN | apply Kept.drew) | exact HK.out)) (fun k_ e_ => (HO_0.out.1 k_ e_))); replace HO_0 := asd (hp_); clear hg hw hp_))
     go_roundg k1
     case measure => have := HK1.out; omega
     case rel => exact ⟨(y515), (wrap64 ((wrap64 ((wrap64 ((wrap64 (x1_1 + 1)) + 1)) + 1)) + 1)), (wrap64 (x5_1 + 1)), (by first | rfl | (simp; done) | (simp [*]; done)), (by first | rfl | (simp; done) | (simp [*]; done)), H', ⟨by have := HK1.out; omega⟩, ⟨by (with_reducible repeat (first | apply Kd.R_alloc | apply Kd.R_drewN | apply Kd.R_drew)); exact HO_0.out⟩, ⟨by repeat (first | (with_reducible first | exact HK.out | apply Kept.alloc | apply Kept.drewN | apply Kept.drew) | exact HK.out)⟩, ⟨bbw0 HB⟩⟩
    ·rw [if_neg c4] at H
     exact absurd H (by simp)
   ·rw [if_neg c3] at H
    have c3b0 : decide (x5_1 < (x0_1.length : Int)) = false := decide_eq_false c3
    clear c3
    simp only [Option.some.injEq, Prod.mk.injEq] at H
    obtain ⟨rfl, rfl⟩ := H
    obtain ⟨Ao18, co18, eo18⟩ := Kd.R_slice HO_0.out
    subst eo18
    go_wp2
    go_ret
    exact ⟨by first | rfl | (simp [errW_none, errW_some] <;> rfl) | (simp [*, errW_none, errW_some] <;> rfl), by (with_reducible repeat (first | apply Kd.R_alloc | apply Kd.R_drewN | apply Kd.R_drew)); exact HO_0.out, by repeat (first | (with_reducible first | exact HB.out | apply below_alloc | apply pw_below_drewN | apply below_drew1) | exact HB.out), by repeat (first | (with_reducible first | exact HK.out | apply Kept.alloc | apply Kept.drewN | apply Kept.drew) | exact HK.out)⟩

/-! ### laws_heldMatS: function 28 -/
def laws_heldMatS.l0 : Nat → List (S51) → Int → Int → Option (Int)
 | 0, _, _, _ => none
 | k + 1, x0, x1, x5 => if x5 < (x0.length : Int) then (if 0 ≤ x5 then (if ((rd_T51 x0 x5).f0) = x1 then (if ((rd_T51 x0 x5).f1) = (wrap64 (x1 + 1)) then (if ((rd_T51 x0 x5).f2) = (wrap64 ((wrap64 (x1 + 1)) + 1)) then (if ((rd_T51 x0 x5).f3) = (wrap64 ((wrap64 ((wrap64 (x1 + 1)) + 1)) + 1)) then (laws_heldMatS.l0 k x0 (wrap64 ((wrap64 ((wrap64 ((wrap64 (x1 + 1)) + 1)) + 1)) + 1)) (wrap64 (x5 + 1))) else (some (-1))) else (some (-1))) else (some (-1))) else (some (-1))) else (none)) else (some x1)
def laws_heldMatS.f (k : Nat) (l0 : List (S51)) (a1 : Int) : Option (Int) := laws_heldMatS.l0 k l0 a1 0
set_option maxHeartbeats 8000000 in
set_option maxRecDepth 100000 in
theorem laws_heldMatS.calls (k : Nat) (A0 : Option Addr) (c0 : Nat) (l0 : List (S51)) (a1 : Int) (r : Int) (w : World) (hr0 : Kd.C k51 w A0 l0.length l0) (hc0 : l0.length ≤ c0) (h : laws_heldMatS.f k l0 a1 = some r) :
  Calls Try.prog 28 #[.slice A0 l0.length c0, .int .i64 a1] w fun e w' => e = .returned (.int .i64 r) ∧ Drawn0 w w' := by
 have HR0 := Aside0.mk hr0
 have HC0 := Aside0.mk hc0
 clear hr0 hc0
 have H : (laws_heldMatS.l0 k l0 a1 0) = some r := h
 clear h
 have H' := Aside0.mk H
 clear H
 go_enter Try.func28, Try.ntmps28
 go_wp2
 go_loopg [1, 5] k (fun kq v1 v5 w' => ∃ (x1_1 : Int) (x5_1 : Int), v1 = .int .i64 x1_1 ∧ v5 = .int .i64 x5_1 ∧ Aside0 (laws_heldMatS.l0 kq l0 x1_1 x5_1 = some r) ∧ Aside0 (kq ≤ k) ∧ Drawn0 w w')
 case atStart => exact ⟨(a1), (0), (by first | rfl | (simp; done) | (simp [*]; done)), (by first | rfl | (simp; done) | (simp [*]; done)), H', ⟨Nat.le_refl _⟩, by repeat (first | exact Drawn0.refl _ | apply Drawn0.step)⟩
 case round =>
  clear H'
  try clear c2
  try clear p2
  obtain ⟨x1_1, x5_1, rfl, rfl, HA, HK1, ⟨m1, rfl⟩⟩ := hrel
  cases gk with
  | zero => exact absurd HA.out (by simp [laws_heldMatS.l0])
  | succ k1 =>
   have H := HA.out
   clear HA
   simp only [laws_heldMatS.l0] at H
   by_cases c3 : x5_1 < (l0.length : Int)
   ·rw [if_pos c3] at H
    have c3b0 : decide (x5_1 < (l0.length : Int)) = true := decide_eq_true c3
    clear c3
    by_cases c4 : 0 ≤ x5_1
    ·rw [if_pos c4] at H
     have c4b0 : decide (0 ≤ x5_1) = true := decide_eq_true c4
     clear c4
     by_cases c5 : ((rd_T51 l0 x5_1).f0) = x1_1
     ·rw [if_pos c5] at H
      have c5b0 : (((rd_T51 l0 x5_1).f0) == x1_1) = true := beq_iff_eq.mpr c5
      have c5b1 : (((rd_T51 l0 x5_1).f0) != x1_1) = false := bne_eq_false_iff_eq.mpr c5
      clear c5
      by_cases c6 : ((rd_T51 l0 x5_1).f1) = (wrap64 (x1_1 + 1))
      ·rw [if_pos c6] at H
       have c6b0 : (((rd_T51 l0 x5_1).f1) == (wrap64 (x1_1 + 1))) = true := beq_iff_eq.mpr c6
       have c6b1 : (((rd_T51 l0 x5_1).f1) != (wrap64 (x1_1 + 1))) = false := bne_eq_false_iff_eq.mpr c6
       clear c6
       by_cases c7 : ((rd_T51 l0 x5_1).f2) = (wrap64 ((wrap64 (x1_1 + 1)) + 1))
       ·rw [if_pos c7] at H
        have c7b0 : (((rd_T51 l0 x5_1).f2) == (wrap64 ((wrap64 (x1_1 + 1)) + 1))) = true := beq_iff_eq.mpr c7
        have c7b1 : (((rd_T51 l0 x5_1).f2) != (wrap64 ((wrap64 (x1_1 + 1)) + 1))) = false := bne_eq_false_iff_eq.mpr c7
        clear c7
        by_cases c8 : ((rd_T51 l0 x5_1).f3) = (wrap64 ((wrap64 ((wrap64 (x1_1 + 1)) + 1)) + 1))
        ·rw [if_pos c8] at H
         have c8b0 : (((rd_T51 l0 x5_1).f3) == (wrap64 ((wrap64 ((wrap64 (x1_1 + 1)) + 1)) + 1))) = true := beq_iff_eq.mpr c8
         have c8b1 : (((rd_T51 l0 x5_1).f3) != (wrap64 ((wrap64 ((wrap64 (x1_1 + 1)) + 1)) + 1))) = false := bne_eq_false_iff_eq.mpr c8
         clear c8
         have H' := Aside0.mk H
         clear H
         have p516 : 0 ≤ (x5_1 : Int) := od
         have q516 : x5_1 < (l0.length : Int) := od
         obtain ⟨ad516, e516, hx516_0, hx516_1, hx516_2, hx516_3⟩ := at_T51 HR0.out x5_1 p516 q516
         cases e516
         replace p516 := eq_true p516
         replace q516 := eq_true q516
         have p517 : 0 ≤ (x5_1 : Int) := od
         have q517 : x5_1 < (l0.length : Int) := od
         obtain ⟨ad517, e517, hx517_0, hx517_1, hx517_2, hx517_3⟩ := at_T51 HR0.out x5_1 p517 q517
         obtain rfl : ad516 = ad517 := (by injection e517)
         replace p517 := eq_true p517
         replace q517 := eq_true q517
         have p518 : 0 ≤ (x5_1 : Int) := od
         have q518 : x5_1 < (l0.length : Int) := od
         obtain ⟨ad518, e518, hx518_0, hx518_1, hx518_2, hx518_3⟩ := at_T51 HR0.out x5_1 p518 q518
         obtain rfl : ad516 = ad518 := (by injection e518)
         replace p518 := eq_true p518
         replace q518 := eq_true q518
         have p519 : 0 ≤ (x5_1 : Int) := od
         have q519 : x5_1 < (l0.length : Int) := od
         obtain ⟨ad519, e519, hx519_0, hx519_1, hx519_2, hx519_3⟩ := at_T51 HR0.out x5_1 p519 q519
         obtain rfl : ad516 = ad519 := (by injection e519)
         replace p519 := eq_true p519
         replace q519 := eq_true q519
         go_wp2
         go_roundg k1
         case measure => have := HK1.out; omega
         case rel => exact ⟨(wrap64 ((wrap64 ((wrap64 ((wrap64 (x1_1 + 1)) + 1)) + 1)) + 1)), (wrap64 (x5_1 + 1)), (by first | rfl | (simp; done) | (simp [*]; done)), (by first | rfl | (simp; done) | (simp [*]; done)), H', ⟨by have := HK1.out; omega⟩, by repeat (first | exact Drawn0.refl _ | apply Drawn0.step)⟩
        ·rw [if_neg c8] at H
         have c8b0 : (((rd_T51 l0 x5_1).f3) == (wrap64 ((wrap64 ((wrap64 (x1_1 + 1)) + 1)) + 1))) = false := beq_eq_false_iff_ne.mpr c8
         have c8b1 : (((rd_T51 l0 x5_1).f3) != (wrap64 ((wrap64 ((wrap64 (x1_1 + 1)) + 1)) + 1))) = true := bne_iff_ne.mpr c8
         obtain rfl := Option.some.inj H
         have p516 : 0 ≤ (x5_1 : Int) := od
         have q516 : x5_1 < (l0.length : Int) := od
         obtain ⟨ad516, e516, hx516_0, hx516_1, hx516_2, hx516_3⟩ := at_T51 HR0.out x5_1 p516 q516
         cases e516
         replace p516 := eq_true p516
         replace q516 := eq_true q516
         have p517 : 0 ≤ (x5_1 : Int) := od
         have q517 : x5_1 < (l0.length : Int) := od
         obtain ⟨ad517, e517, hx517_0, hx517_1, hx517_2, hx517_3⟩ := at_T51 HR0.out x5_1 p517 q517
         obtain rfl : ad516 = ad517 := (by injection e517)
         replace p517 := eq_true p517
         replace q517 := eq_true q517
         have p518 : 0 ≤ (x5_1 : Int) := od
         have q518 : x5_1 < (l0.length : Int) := od
         obtain ⟨ad518, e518, hx518_0, hx518_1, hx518_2, hx518_3⟩ := at_T51 HR0.out x5_1 p518 q518
         obtain rfl : ad516 = ad518 := (by injection e518)
         replace p518 := eq_true p518
         replace q518 := eq_true q518
         have p519 : 0 ≤ (x5_1 : Int) := od
         have q519 : x5_1 < (l0.length : Int) := od
         obtain ⟨ad519, e519, hx519_0, hx519_1, hx519_2, hx519_3⟩ := at_T51 HR0.out x5_1 p519 q519
         obtain rfl : ad516 = ad519 := (by injection e519)
         replace p519 := eq_true p519
         replace q519 := eq_true q519
         go_wp2
         go_ret
         exact ⟨by first | rfl | (simp; done) | (simp [*]; done), by repeat (first | exact Drawn0.refl _ | apply Drawn0.step)⟩
       ·rw [if_neg c7] at H
        have c7b0 : (((rd_T51 l0 x5_1).f2) == (wrap64 ((wrap64 (x1_1 + 1)) + 1))) = false := beq_eq_false_iff_ne.mpr c7
        have c7b1 : (((rd_T51 l0 x5_1).f2) != (wrap64 ((wrap64 (x1_1 + 1)) + 1))) = true := bne_iff_ne.mpr c7
        obtain rfl := Option.some.inj H
        have p516 : 0 ≤ (x5_1 : Int) := od
        have q516 : x5_1 < (l0.length : Int) := od
        obtain ⟨ad516, e516, hx516_0, hx516_1, hx516_2, hx516_3⟩ := at_T51 HR0.out x5_1 p516 q516
        cases e516
        replace p516 := eq_true p516
        replace q516 := eq_true q516
        have p517 : 0 ≤ (x5_1 : Int) := od
        have q517 : x5_1 < (l0.length : Int) := od
        obtain ⟨ad517, e517, hx517_0, hx517_1, hx517_2, hx517_3⟩ := at_T51 HR0.out x5_1 p517 q517
        obtain rfl : ad516 = ad517 := (by injection e517)
        replace p517 := eq_true p517
        replace q517 := eq_true q517
        have p518 : 0 ≤ (x5_1 : Int) := od
        have q518 : x5_1 < (l0.length : Int) := od
        obtain ⟨ad518, e518, hx518_0, hx518_1, hx518_2, hx518_3⟩ := at_T51 HR0.out x5_1 p518 q518
        obtain rfl : ad516 = ad518 := (by injection e518)
        replace p518 := eq_true p518
        replace q518 := eq_true q518
        go_wp2
        go_ret
        exact ⟨by first | rfl | (simp; done) | (simp [*]; done), by repeat (first | exact Drawn0.refl _ | apply Drawn0.step)⟩
      ·rw [if_neg c6] at H
       have c6b0 : (((rd_T51 l0 x5_1).f1) == (wrap64 (x1_1 + 1))) = false := beq_eq_false_iff_ne.mpr c6
       have c6b1 : (((rd_T51 l0 x5_1).f1) != (wrap64 (x1_1 + 1))) = true := bne_iff_ne.mpr c6
       obtain rfl := Option.some.inj H
       have p516 : 0 ≤ (x5_1 : Int) := od
       have q516 : x5_1 < (l0.length : Int) := od
       obtain ⟨ad516, e516, hx516_0, hx516_1, hx516_2, hx516_3⟩ := at_T51 HR0.out x5_1 p516 q516
       cases e516
       replace p516 := eq_true p516
       replace q516 := eq_true q516
       have p517 : 0 ≤ (x5_1 : Int) := od
       have q517 : x5_1 < (l0.length : Int) := od
       obtain ⟨ad517, e517, hx517_0, hx517_1, hx517_2, hx517_3⟩ := at_T51 HR0.out x5_1 p517 q517
       obtain rfl : ad516 = ad517 := (by injection e517)
       replace p517 := eq_true p517
       replace q517 := eq_true q517
       go_wp2
       go_ret
       exact ⟨by first | rfl | (simp; done) | (simp [*]; done), by repeat (first | exact Drawn0.refl _ | apply Drawn0.step)⟩
     ·rw [if_neg c5] at H
      have c5b0 : (((rd_T51 l0 x5_1).f0) == x1_1) = false := beq_eq_false_iff_ne.mpr c5
      have c5b1 : (((rd_T51 l0 x5_1).f0) != x1_1) = true := bne_iff_ne.mpr c5
      obtain rfl := Option.some.inj H
      have p516 : 0 ≤ (x5_1 : Int) := od
      have q516 : x5_1 < (l0.length : Int) := od
      obtain ⟨ad516, e516, hx516_0, hx516_1, hx516_2, hx516_3⟩ := at_T51 HR0.out x5_1 p516 q516
      cases e516
      replace p516 := eq_true p516
      replace q516 := eq_true q516
      go_wp2
      go_ret
      exact ⟨by first | rfl | (simp; done) | (simp [*]; done), by repeat (first | exact Drawn0.refl _ | apply Drawn0.step)⟩
    ·rw [if_neg c4] at H
     exact absurd H (by simp)
   ·rw [if_neg c3] at H
    have c3b0 : decide (x5_1 < (l0.length : Int)) = false := decide_eq_false c3
    clear c3
    obtain rfl := Option.some.inj H
    go_wp2
    go_ret
    exact ⟨by first | rfl | (simp; done) | (simp [*]; done), by repeat (first | exact Drawn0.refl _ | apply Drawn0.step)⟩

/-! ### laws_FnExactPointPart: function 7 -/
mutual
def laws_FnExactPointPart.j0 : Nat → Int → List (S60) → List (S51) → Int → List (S55) → List (S51) → Int → Bool → Int → Int → Int → Option (Bool)
 | 0, _, _, _, _, _, _, _, _, _, _, _ => none
 | k + 1, x0, x2, x8, x9, x10, x11, x12, x50, x521000, x521001, x521002 => if x50 = true then (some false) else ((laws_toMotionS.f k x2).bind fun t543 => ((laws_eqMotionS.f k x10 t543).bind fun t546 => (if t546 = true then ((laws_markMotionS.f k x10 1).bind fun bt547 => (if bt547.1 < 0 then (laws_FnExactPointPart.j1 k x0 x2 x8 x9 x11 true x521000 x521001 x521002) else ((laws_eqMatS.f k x11 x8).bind fun t549 => (if t549 = true then (laws_FnExactPointPart.j1 k x0 x2 x8 x9 x11 (x12 != x9) x521000 x521001 x521002) else (laws_FnExactPointPart.j1 k x0 x2 x8 x9 x11 true x521000 x521001 x521002))))) else (some false))))
def laws_FnExactPointPart.j1 : Nat → Int → List (S60) → List (S51) → Int → List (S51) → Bool → Int → Int → Int → Option (Bool)
 | 0, _, _, _, _, _, _, _, _, _ => none
 | k + 1, x0, x2, x8, x9, x11, x71, x521000, x521001, x521002 => if x71 = true then (some false) else ((laws_markMatS.f k x11 1).bind fun bt550 => ((laws_heldMatS.f k bt550.2 1).bind fun t552 => (if t552 < 0 then (some false) else (if t552 = bt550.1 then ((laws_toLattice.f x521000 x521001 x521002).bind fun bt553 => ((laws_toMotionS.f k x2).bind fun t556 => ((impl_PointPart.f k x0 bt553.1 bt553.2.1 bt553.2.2 t556).bind fun bt559 => ((laws_eqMatS.f k bt559.1 x8).bind fun t563 => (if t563 = true then (laws_FnExactPointPart.j2 k bt550.2 bt550.1 (bt559.2 != x9)) else (laws_FnExactPointPart.j2 k bt550.2 bt550.1 true)))))) else (some false)))))
def laws_FnExactPointPart.j2 : Nat → List (S51) → Int → Bool → Option (Bool)
 | 0, _, _, _ => none
 | k + 1, x11, x14, x100 => if x100 = true then (some false) else ((laws_heldMatS.f k x11 1).bind fun t564 => (if t564 < 0 then (some false) else (if t564 = x14 then (some true) else (some false))))
end
def laws_FnExactPointPart.f (k : Nat) (a0 : Int) (a1_0 : Int) (a1_1 : Int) (a1_2 : Int) (l2 : List (S60)) : Option (Bool) := (laws_szMotionS.f l2 1048576).bind fun t521 => (if t521 < 0 then (some true) else ((laws_toLattice.f a1_0 a1_1 a1_2).bind fun bt522 => ((laws_toMotionS.f k l2).bind fun t525 => ((spec_PointPart.f k a0 bt522.1 bt522.2.1 bt522.2.2 t525).bind fun bt528 => ((laws_toMotionS.f k l2).bind fun t532 => ((laws_toLattice.f a1_0 a1_1 a1_2).bind fun bt535 => ((impl_PointPart.f k a0 bt535.1 bt535.2.1 bt535.2.2 t532).bind fun bt538 => ((laws_eqMatS.f k bt538.1 bt528.1).bind fun t542 => (if t542 = true then (laws_FnExactPointPart.j0 k a0 l2 bt528.1 bt528.2 t532 bt538.1 bt538.2 (bt538.2 != bt528.2) a1_0 a1_1 a1_2) else (laws_FnExactPointPart.j0 k a0 l2 bt528.1 bt528.2 t532 bt538.1 bt538.2 true a1_0 a1_1 a1_2))))))))))
set_option maxHeartbeats 8000000 in
set_option maxRecDepth 100000 in
theorem laws_FnExactPointPart.calls (k : Nat) (a0 : Int) (a1_0 : Int) (a1_1 : Int) (a1_2 : Int) (A2 : Option Addr) (c2 : Nat) (l2 : List (S60)) (w : World) (hr2 : Kd.C k60 w A2 l2.length l2) (hc2 : l2.length ≤ c2) (h : laws_FnExactPointPart.f k a0 a1_0 a1_1 a1_2 l2 = some true) :
  Calls Try.prog 7 #[.int .i64 a0, .agg #[.int .i64 a1_0, .int .i64 a1_1, .int .i64 a1_2], .slice A2 l2.length c2] w fun e w' => e = .returned (.bool true) ∧ Below w.heap.size w w' := by
 have hu23 := Try.underlying23
 have HR2 := Aside0.mk hr2
 have HC2 := Aside0.mk hc2
 clear hr2 hc2
 have HB := asd (Below.refl w.heap.size w)
 have H : ((laws_szMotionS.f l2 1048576).bind fun t521 => (if t521 < 0 then (some true) else ((laws_toLattice.f a1_0 a1_1 a1_2).bind fun bt522 => ((laws_toMotionS.f k l2).bind fun t525 => ((spec_PointPart.f k a0 bt522.1 bt522.2.1 bt522.2.2 t525).bind fun bt528 => ((laws_toMotionS.f k l2).bind fun t532 => ((laws_toLattice.f a1_0 a1_1 a1_2).bind fun bt535 => ((impl_PointPart.f k a0 bt535.1 bt535.2.1 bt535.2.2 t532).bind fun bt538 => ((laws_eqMatS.f k bt538.1 bt528.1).bind fun t542 => (if t542 = true then (laws_FnExactPointPart.j0 k a0 l2 bt528.1 bt528.2 t532 bt538.1 bt538.2 (bt538.2 != bt528.2) a1_0 a1_1 a1_2) else (laws_FnExactPointPart.j0 k a0 l2 bt528.1 bt528.2 t532 bt538.1 bt538.2 true a1_0 a1_1 a1_2))))))))))) = some true := h
 clear h
 obtain ⟨t521, A4, H⟩ := ob H
 replace H : (if t521 < 0 then (some true) else ((laws_toLattice.f a1_0 a1_1 a1_2).bind fun bt522 => ((laws_toMotionS.f k l2).bind fun t525 => ((spec_PointPart.f k a0 bt522.1 bt522.2.1 bt522.2.2 t525).bind fun bt528 => ((laws_toMotionS.f k l2).bind fun t532 => ((laws_toLattice.f a1_0 a1_1 a1_2).bind fun bt535 => ((impl_PointPart.f k a0 bt535.1 bt535.2.1 bt535.2.2 t532).bind fun bt538 => ((laws_eqMatS.f k bt538.1 bt528.1).bind fun t542 => (if t542 = true then (laws_FnExactPointPart.j0 k a0 l2 bt528.1 bt528.2 t532 bt538.1 bt538.2 (bt538.2 != bt528.2) a1_0 a1_1 a1_2) else (laws_FnExactPointPart.j0 k a0 l2 bt528.1 bt528.2 t532 bt538.1 bt538.2 true a1_0 a1_1 a1_2)))))))))) = some true := H
 by_cases c5 : t521 < 0
 ·rw [if_pos c5] at H
  have c5b0 : decide (t521 < 0) = true := decide_eq_true c5
  clear c5
  clear H
  go_enter Try.func7, Try.ntmps7
  go_wp2_with (first | ((with_reducible refine gd 4 rfl ?_); refine bx #[.int .i64 a1_0, .int .i64 a1_1, .int .i64 a1_2] 23 ?_; intro gb520 hg w6 BK520 hb; have GE520 := ngw0 hg HB; replace HB := bS0 HB hb; clear hb hg) | ((with_reducible refine gate_callee (f := 8) rfl ?_); refine gl 20 Try.func8 #[.slice A2 l2.length c2, .int .i64 1048576] ?_; (with_reducible refine (laws_szMotionS.calls _ _ _ _ _ _ ?side1 ?side2 A4.out).mono ?_); (case side1 => exact ks (Kd.C_below HR2.out HB.out)); (case side2 => exact HC2.out); rintro e w' ⟨rfl, ⟨nd, rfl⟩⟩; refine ⟨_, rfl, ?_⟩))
  go_ret
  exact er (bbw1 HB GE520)
 ·rw [if_neg c5] at H
  have c5b0 : decide (t521 < 0) = false := decide_eq_false c5
  clear c5
  obtain ⟨⟨t522, t523, t524⟩, A7, H⟩ := ob H
  replace H : ((laws_toMotionS.f k l2).bind fun t525 => ((spec_PointPart.f k a0 t522 t523 t524 t525).bind fun bt528 => ((laws_toMotionS.f k l2).bind fun t532 => ((laws_toLattice.f a1_0 a1_1 a1_2).bind fun bt535 => ((impl_PointPart.f k a0 bt535.1 bt535.2.1 bt535.2.2 t532).bind fun bt538 => ((laws_eqMatS.f k bt538.1 bt528.1).bind fun t542 => (if t542 = true then (laws_FnExactPointPart.j0 k a0 l2 bt528.1 bt528.2 t532 bt538.1 bt538.2 (bt538.2 != bt528.2) a1_0 a1_1 a1_2) else (laws_FnExactPointPart.j0 k a0 l2 bt528.1 bt528.2 t532 bt538.1 bt538.2 true a1_0 a1_1 a1_2)))))))) = some true := H
  obtain ⟨t525, A8, H⟩ := ob H
  replace H : ((spec_PointPart.f k a0 t522 t523 t524 t525).bind fun bt528 => ((laws_toMotionS.f k l2).bind fun t532 => ((laws_toLattice.f a1_0 a1_1 a1_2).bind fun bt535 => ((impl_PointPart.f k a0 bt535.1 bt535.2.1 bt535.2.2 t532).bind fun bt538 => ((laws_eqMatS.f k bt538.1 bt528.1).bind fun t542 => (if t542 = true then (laws_FnExactPointPart.j0 k a0 l2 bt528.1 bt528.2 t532 bt538.1 bt538.2 (bt538.2 != bt528.2) a1_0 a1_1 a1_2) else (laws_FnExactPointPart.j0 k a0 l2 bt528.1 bt528.2 t532 bt538.1 bt538.2 true a1_0 a1_1 a1_2))))))) = some true := H
  obtain ⟨⟨t528, t531⟩, A9, H⟩ := ob H
  replace H : ((laws_toMotionS.f k l2).bind fun t532 => ((laws_toLattice.f a1_0 a1_1 a1_2).bind fun bt535 => ((impl_PointPart.f k a0 bt535.1 bt535.2.1 bt535.2.2 t532).bind fun bt538 => ((laws_eqMatS.f k bt538.1 t528).bind fun t542 => (if t542 = true then (laws_FnExactPointPart.j0 k a0 l2 t528 t531 t532 bt538.1 bt538.2 (bt538.2 != t531) a1_0 a1_1 a1_2) else (laws_FnExactPointPart.j0 k a0 l2 t528 t531 t532 bt538.1 bt538.2 true a1_0 a1_1 a1_2)))))) = some true := H
  obtain ⟨t532, A10, H⟩ := ob H
  replace H : ((laws_toLattice.f a1_0 a1_1 a1_2).bind fun bt535 => ((impl_PointPart.f k a0 bt535.1 bt535.2.1 bt535.2.2 t532).bind fun bt538 => ((laws_eqMatS.f k bt538.1 t528).bind fun t542 => (if t542 = true then (laws_FnExactPointPart.j0 k a0 l2 t528 t531 t532 bt538.1 bt538.2 (bt538.2 != t531) a1_0 a1_1 a1_2) else (laws_FnExactPointPart.j0 k a0 l2 t528 t531 t532 bt538.1 bt538.2 true a1_0 a1_1 a1_2))))) = some true := H
  obtain ⟨⟨t535, t536, t537⟩, A11, H⟩ := ob H
  replace H : ((impl_PointPart.f k a0 t535 t536 t537 t532).bind fun bt538 => ((laws_eqMatS.f k bt538.1 t528).bind fun t542 => (if t542 = true then (laws_FnExactPointPart.j0 k a0 l2 t528 t531 t532 bt538.1 bt538.2 (bt538.2 != t531) a1_0 a1_1 a1_2) else (laws_FnExactPointPart.j0 k a0 l2 t528 t531 t532 bt538.1 bt538.2 true a1_0 a1_1 a1_2)))) = some true := H
  obtain ⟨⟨t538, t541⟩, A12, H⟩ := ob H
  replace H : ((laws_eqMatS.f k t538 t528).bind fun t542 => (if t542 = true then (laws_FnExactPointPart.j0 k a0 l2 t528 t531 t532 t538 t541 (t541 != t531) a1_0 a1_1 a1_2) else (laws_FnExactPointPart.j0 k a0 l2 t528 t531 t532 t538 t541 true a1_0 a1_1 a1_2))) = some true := H
  have HC13 := Aside0.mk H
  clear H
  go_enter Try.func7, Try.ntmps7
  go_upto_region 8 with (first | ((with_reducible refine gd 4 rfl ?_); refine bx #[.int .i64 a1_0, .int .i64 a1_1, .int .i64 a1_2] 23 ?_; intro gb520 hg w14 BK520 hb; have GE520 := ngw0 hg HB; replace HB := bS0 HB hb; clear hb hg) | ((with_reducible refine gate_callee (f := 8) rfl ?_); refine gl 20 Try.func8 #[.slice A2 l2.length c2, .int .i64 1048576] ?_; (with_reducible refine (laws_szMotionS.calls _ _ _ _ _ _ ?side1 ?side2 A4.out).mono ?_); (case side1 => exact ks (Kd.C_below HR2.out HB.out)); (case side2 => exact HC2.out); rintro e w' ⟨rfl, ⟨nd, rfl⟩⟩; refine ⟨_, rfl, ?_⟩; have hcz15_0 : w14.cell? ⟨gb520, 0, none⟩ = some (.int .i64 a1_0) := bcl BK520 0; have hcz15_1 : w14.cell? ⟨gb520, 1, none⟩ = some (.int .i64 a1_1) := bcl BK520 1; have hcz15_2 : w14.cell? ⟨gb520, 2, none⟩ = some (.int .i64 a1_2) := bcl BK520 2; have hfz15_0 := blk_frozen BK520.out 0; have hfz15_1 := blk_frozen BK520.out 1; have hfz15_2 := blk_frozen BK520.out 2) | ((with_reducible refine gate_callee (f := 10) rfl ?_); refine gl 26 Try.func10 #[.agg #[.int .i64 a1_0, .int .i64 a1_1, .int .i64 a1_2]] ?_; (with_reducible refine (laws_toLattice.calls _ _ _ _ _ _ _ A7.out).mono ?_); rintro e w16 ⟨rfl, hb⟩; refine ⟨_, rfl, ?_⟩; replace BK520 := bB BK520 hb; replace HB := bS1 HB GE520 hb; (try clear hb)) | ((with_reducible refine gate_callee (f := 11) rfl ?_); refine gl 28 Try.func11 #[.slice A2 l2.length c2] ?_; (with_reducible refine (laws_toMotionS.calls _ _ _ _ _ _ ?side1 ?side2 A8.out).mono ?_); (case side1 => exact ks (Kd.C_below HR2.out HB.out)); (case side2 => exact HC2.out); rintro e w17 ⟨v526, rfl, ho0, hb⟩; refine ⟨_, rfl, ?_⟩; have HO527 := asd (Kd.R_lower ho0 (bsz1 HB GE520)); replace BK520 := bB BK520 hb; replace HB := bS1 HB GE520 hb; (try clear hb); (try clear hb2); (try clear hk); (try clear hi); (try clear ho0); obtain ⟨Ao18, co18, eo18⟩ := Kd.R_slice HO527.out; subst eo18) | ((with_reducible refine gate_callee (f := 24) rfl ?_); refine gl 29 Try.func24 #[.int .i64 a0, .agg #[.int .i64 t522, .int .i64 t523, .int .i64 t524], .slice Ao18 t525.length co18] ?_; (with_reducible refine (spec_PointPart.calls _ _ _ _ _ _ _ _ _ _ _ ?side1 ?side2 A9.out).mono ?_); (case side1 => exact ks (Kd.R_reads' HO527.out).2.2); (case side2 => exact (Kd.R_reads' HO527.out).2.1); rintro e w19 ⟨v529, rfl, ho0, hb⟩; refine ⟨_, rfl, ?_⟩; replace HO527 := asd (Kd.R_below (kr HO527) hb); have HO530 := asd (Kd.R_lower ho0 (bsz1 HB GE520)); replace BK520 := bB BK520 hb; replace HB := bS1 HB GE520 hb; (try clear hb); (try clear hb2); (try clear hk); (try clear hi); (try clear ho0)) | ((with_reducible refine gate_callee (f := 11) rfl ?_); refine gl 33 Try.func11 #[.slice A2 l2.length c2] ?_; (with_reducible refine (laws_toMotionS.calls _ _ _ _ _ _ ?side1 ?side2 A10.out).mono ?_); (case side1 => exact ks (Kd.C_below HR2.out HB.out)); (case side2 => exact HC2.out); rintro e w20 ⟨v533, rfl, ho0, hb⟩; refine ⟨_, rfl, ?_⟩; replace HO530 := asd (Kd.R_below (kr HO530) hb); have HO534 := asd (Kd.R_lower (Kd.R_new' ho0 (Kd.R_lt (kr HO527))) (bsz1 HB GE520)); replace HO527 := asd (Kd.R_elder' (kr HO527) (Kd.R_base ho0) hb); replace BK520 := bB BK520 hb; replace HB := bS1 HB GE520 hb; (try clear hb); (try clear hb2); (try clear hk); (try clear hi); (try clear ho0); obtain ⟨hcz21_0, hcz21_1, hcz21_2, hfz21_0, hfz21_1, hfz21_2⟩ := bz3 BK520) | ((with_reducible refine gate_callee (f := 10) rfl ?_); refine gl 37 Try.func10 #[.agg #[.int .i64 a1_0, .int .i64 a1_1, .int .i64 a1_2]] ?_; (with_reducible refine (laws_toLattice.calls _ _ _ _ _ _ _ A11.out).mono ?_); rintro e w22 ⟨rfl, hb⟩; refine ⟨_, rfl, ?_⟩; replace HO527 := asd (Kd.R_below (kr HO527) hb); replace HO530 := asd (Kd.R_below (kr HO530) hb); replace HO534 := asd (Kd.R_below (kr HO534) hb); replace BK520 := bB BK520 hb; replace HB := bS1 HB GE520 hb; (try clear hb); obtain ⟨Ao23, co23, eo23⟩ := Kd.R_slice HO534.out; subst eo23) | ((with_reducible refine gate_callee (f := 25) rfl ?_); refine gl 39 Try.func25 #[.int .i64 a0, .agg #[.int .i64 t535, .int .i64 t536, .int .i64 t537], .slice Ao23 t532.length co23] ?_; (with_reducible refine (impl_PointPart.calls _ _ _ _ _ (fun k_ => some k_ = (.slice Ao23 t532.length co23 : Value).ownBlock) _ _ _ _ _ _ ?side1 A12.out).mono ?_); (case side1 => exact Kd.R_V (Kd.R_tight rfl (Kd.R_types (Kd.R_apart' (HO534.out) (Kd.R_typed HO530.out) (by decide)) BK520.out (by decide)))); rintro e w24 ⟨v539, rfl, ho0, hb⟩; refine ⟨_, rfl, ?_⟩; replace HO527 := asd (Kd.R_below (kr HO527) hb); replace HO534 := asd (Kd.R_below (kr HO534) hb); have HO540 := asd (Kd.R_lower (Kd.R_new' (Kd.R_mono (ok' := fun k_ => True) ho0 (fun _ hk_ => trivial)) (Kd.R_lt (kr HO530))) (bsz1 HB GE520)); replace HO530 := asd (Kd.R_elder' (kr HO530) (Kd.R_base ho0) hb); replace BK520 := bB BK520 hb; replace HB := bS1 HB GE520 hb; (try clear hb); (try clear hb2); (try clear hk); (try clear hi); (try clear ho0)))
  (try simp only [Act.put, sA, sB, sC])
  go_cut [50] (fun v50 wc => ∃ (kq : Nat) (x50_12 : Bool), v50 = .bool x50_12 ∧ Aside0 (laws_FnExactPointPart.j0 kq a0 l2 t528 t531 t532 t538 t541 x50_12 a1_0 a1_1 a1_2 = some true) ∧ Aside0 (kq ≤ k) ∧ Aside0 (Kd.R k51 51 wc w.heap.size (fun k_ => some k_ ≠ (v539 : Value).ownBlock) v529 t528) ∧ Aside0 (Kd.R k55 55 wc w.heap.size (fun _ => True) (.slice Ao23 t532.length co23) t532) ∧ Aside0 (Kd.R k51 51 wc w.heap.size (fun k_ => some k_ ≠ (v529 : Value).ownBlock) v539 t538) ∧ Aside0 (wc.heap[gb520]? = some (.cells #[.int .i64 a1_0, .int .i64 a1_1, .int .i64 a1_2] 23 (0, 0))) ∧ Aside0 (Below w.heap.size w wc))
  case first =>
   have H := HC13.out
   clear HC13
   obtain ⟨t542, A25, H⟩ := ob H
   replace H : (if t542 = true then (laws_FnExactPointPart.j0 k a0 l2 t528 t531 t532 t538 t541 (t541 != t531) a1_0 a1_1 a1_2) else (laws_FnExactPointPart.j0 k a0 l2 t528 t531 t532 t538 t541 true a1_0 a1_1 a1_2)) = some true := H
   by_cases c26 : t542 = true
   ·subst c26
    have H1 : (laws_FnExactPointPart.j0 k a0 l2 t528 t531 t532 t538 t541 (t541 != t531) a1_0 a1_1 a1_2) = some true := by rw [if_pos rfl] at H; first | done | exact H
    clear H
    have H := H1
    clear H1
    have H' := Aside0.mk H
    clear H
    obtain ⟨Ao27, co27, eo27⟩ := Kd.R_slice HO540.out
    subst eo27
    obtain ⟨Ao28, co28, eo28⟩ := Kd.R_slice HO530.out
    subst eo28
    go_wp2_with (first | ((with_reducible refine gate_callee (f := 26) rfl ?_); refine gl 44 Try.func26 #[.slice Ao27 t538.length co27, .slice Ao28 t528.length co28] ?_; (with_reducible refine (laws_eqMatS.calls _ _ _ _ _ _ _ _ _ ?side1 ?side2 ?side3 ?side4 A25.out).mono ?_); (case side1 => exact ks (Kd.R_reads' HO540.out).2.2); (case side2 => exact (Kd.R_reads' HO540.out).2.1); (case side3 => exact ks (Kd.R_reads' HO530.out).2.2); (case side4 => exact (Kd.R_reads' HO530.out).2.1); rintro e w29 ⟨rfl, hb⟩; refine ⟨_, rfl, ?_⟩; replace HO527 := asd (Kd.R_below (kr HO527) hb); replace HO530 := asd (Kd.R_below (kr HO530) hb); replace HO534 := asd (Kd.R_below (kr HO534) hb); replace HO540 := asd (Kd.R_below (kr HO540) hb); replace BK520 := bB BK520 hb; replace HB := bS1 HB GE520 hb; (try clear hb)))
    go_meet
    case rel => exact ⟨_, ((t541 != t531)), (by first | rfl | (simp; done) | (simp [*]; done)), H', ⟨by first | omega | exact Nat.le_refl _⟩, ⟨by (with_reducible repeat (first | apply Kd.R_alloc | apply Kd.R_drewN | apply Kd.R_drew)); exact Kd.R_mono HO530.out (fun _ hk => hk.2)⟩, ⟨by (with_reducible repeat (first | apply Kd.R_alloc | apply Kd.R_drewN | apply Kd.R_drew)); exact Kd.R_mono HO534.out (fun _ hk => trivial)⟩, ⟨by (with_reducible repeat (first | apply Kd.R_alloc | apply Kd.R_drewN | apply Kd.R_drew)); exact Kd.R_mono HO540.out (fun _ hk => hk.2)⟩, ⟨bkp BK520⟩, ⟨bbw1 HB GE520⟩⟩
   ·replace c26 := Bool.eq_false_iff.mpr c26
    subst c26
    have H1 : (laws_FnExactPointPart.j0 k a0 l2 t528 t531 t532 t538 t541 true a1_0 a1_1 a1_2) = some true := by rw [if_neg (show ¬ (false = true) by decide)] at H; first | done | exact H
    clear H
    have H := H1
    clear H1
    have H' := Aside0.mk H
    clear H
    obtain ⟨Ao30, co30, eo30⟩ := Kd.R_slice HO540.out
    subst eo30
    obtain ⟨Ao31, co31, eo31⟩ := Kd.R_slice HO530.out
    subst eo31
    go_wp2_with (first | ((with_reducible refine gate_callee (f := 26) rfl ?_); refine gl 44 Try.func26 #[.slice Ao30 t538.length co30, .slice Ao31 t528.length co31] ?_; (with_reducible refine (laws_eqMatS.calls _ _ _ _ _ _ _ _ _ ?side1 ?side2 ?side3 ?side4 A25.out).mono ?_); (case side1 => exact ks (Kd.R_reads' HO540.out).2.2); (case side2 => exact (Kd.R_reads' HO540.out).2.1); (case side3 => exact ks (Kd.R_reads' HO530.out).2.2); (case side4 => exact (Kd.R_reads' HO530.out).2.1); rintro e w32 ⟨rfl, hb⟩; refine ⟨_, rfl, ?_⟩; replace HO527 := asd (Kd.R_below (kr HO527) hb); replace HO530 := asd (Kd.R_below (kr HO530) hb); replace HO534 := asd (Kd.R_below (kr HO534) hb); replace HO540 := asd (Kd.R_below (kr HO540) hb); replace BK520 := bB BK520 hb; replace HB := bS1 HB GE520 hb; (try clear hb)))
    go_meet
    case rel => exact ⟨_, (true), (by first | rfl | (simp; done) | (simp [*]; done)), H', ⟨by first | omega | exact Nat.le_refl _⟩, ⟨by (with_reducible repeat (first | apply Kd.R_alloc | apply Kd.R_drewN | apply Kd.R_drew)); exact Kd.R_mono HO530.out (fun _ hk => hk.2)⟩, ⟨by (with_reducible repeat (first | apply Kd.R_alloc | apply Kd.R_drewN | apply Kd.R_drew)); exact Kd.R_mono HO534.out (fun _ hk => trivial)⟩, ⟨by (with_reducible repeat (first | apply Kd.R_alloc | apply Kd.R_drewN | apply Kd.R_drew)); exact Kd.R_mono HO540.out (fun _ hk => hk.2)⟩, ⟨bkp BK520⟩, ⟨bbw1 HB GE520⟩⟩
  case rest =>
   clear HC13
   try clear c1
   try clear c2
   try clear p2
   try clear c5
   try clear c5b0
   try clear c7
   try clear c8
   try clear c10
   try clear c11
   try clear c24
   try clear c25
   try clear c26
   try clear hcz15_0
   try clear hcz15_1
   try clear hcz15_2
   try clear hcz21_0
   try clear hcz21_1
   try clear hcz21_2
   try clear hfz15_0
   try clear hfz15_1
   try clear hfz15_2
   try clear hfz21_0
   try clear hfz21_1
   try clear hfz21_2
   obtain ⟨kq, x50_12, rfl, HA, HJ12, HO_8, HO_10, HO_11, BK520, HB⟩ := hcut
   cases kq with
   | zero => exact absurd HA.out (by simp [laws_FnExactPointPart.j0])
   | succ kj12 =>
    have H := HA.out
    clear HA
    simp only [laws_FnExactPointPart.j0] at H
    by_cases c33 : x50_12 = true
    ·subst c33
     have H1 : (some false) = some true := by rw [if_pos rfl] at H; first | done | exact H
     clear H
     have H := H1
     clear H1
     exact absurd H (by simp)
    ·replace c33 := Bool.eq_false_iff.mpr c33
     subst c33
     have H1 : ((laws_toMotionS.f kj12 l2).bind fun t543 => ((laws_eqMotionS.f kj12 t532 t543).bind fun t546 => (if t546 = true then ((laws_markMotionS.f kj12 t532 1).bind fun bt547 => (if bt547.1 < 0 then (laws_FnExactPointPart.j1 kj12 a0 l2 t528 t531 t538 true a1_0 a1_1 a1_2) else ((laws_eqMatS.f kj12 t538 t528).bind fun t549 => (if t549 = true then (laws_FnExactPointPart.j1 kj12 a0 l2 t528 t531 t538 (t541 != t531) a1_0 a1_1 a1_2) else (laws_FnExactPointPart.j1 kj12 a0 l2 t528 t531 t538 true a1_0 a1_1 a1_2))))) else (some false)))) = some true := by rw [if_neg (show ¬ (false = true) by decide)] at H; first | done | exact H
     clear H
     have H := H1
     clear H1
     obtain ⟨t543, A34, H⟩ := ob H
     replace H : ((laws_eqMotionS.f kj12 t532 t543).bind fun t546 => (if t546 = true then ((laws_markMotionS.f kj12 t532 1).bind fun bt547 => (if bt547.1 < 0 then (laws_FnExactPointPart.j1 kj12 a0 l2 t528 t531 t538 true a1_0 a1_1 a1_2) else ((laws_eqMatS.f kj12 t538 t528).bind fun t549 => (if t549 = true then (laws_FnExactPointPart.j1 kj12 a0 l2 t528 t531 t538 (t541 != t531) a1_0 a1_1 a1_2) else (laws_FnExactPointPart.j1 kj12 a0 l2 t528 t531 t538 true a1_0 a1_1 a1_2))))) else (some false))) = some true := H
     obtain ⟨t546, A35, H⟩ := ob H
     replace H : (if t546 = true then ((laws_markMotionS.f kj12 t532 1).bind fun bt547 => (if bt547.1 < 0 then (laws_FnExactPointPart.j1 kj12 a0 l2 t528 t531 t538 true a1_0 a1_1 a1_2) else ((laws_eqMatS.f kj12 t538 t528).bind fun t549 => (if t549 = true then (laws_FnExactPointPart.j1 kj12 a0 l2 t528 t531 t538 (t541 != t531) a1_0 a1_1 a1_2) else (laws_FnExactPointPart.j1 kj12 a0 l2 t528 t531 t538 true a1_0 a1_1 a1_2))))) else (some false)) = some true := H
     by_cases c36 : t546 = true
     ·subst c36
      have H1 : ((laws_markMotionS.f kj12 t532 1).bind fun bt547 => (if bt547.1 < 0 then (laws_FnExactPointPart.j1 kj12 a0 l2 t528 t531 t538 true a1_0 a1_1 a1_2) else ((laws_eqMatS.f kj12 t538 t528).bind fun t549 => (if t549 = true then (laws_FnExactPointPart.j1 kj12 a0 l2 t528 t531 t538 (t541 != t531) a1_0 a1_1 a1_2) else (laws_FnExactPointPart.j1 kj12 a0 l2 t528 t531 t538 true a1_0 a1_1 a1_2))))) = some true := by rw [if_pos rfl] at H; first | done | exact H
      clear H
      have H := H1
      clear H1
      obtain ⟨⟨t547, t548⟩, A37, H⟩ := ob H
      replace H : (if t547 < 0 then (laws_FnExactPointPart.j1 kj12 a0 l2 t528 t531 t538 true a1_0 a1_1 a1_2) else ((laws_eqMatS.f kj12 t538 t528).bind fun t549 => (if t549 = true then (laws_FnExactPointPart.j1 kj12 a0 l2 t528 t531 t538 (t541 != t531) a1_0 a1_1 a1_2) else (laws_FnExactPointPart.j1 kj12 a0 l2 t528 t531 t538 true a1_0 a1_1 a1_2)))) = some true := H
      have HC38 := Aside0.mk H
      clear H
      go_upto_region 14 with (first | ((with_reducible refine gate_callee (f := 11) rfl ?_); refine gl 53 Try.func11 #[.slice A2 l2.length c2] ?_; (with_reducible refine (laws_toMotionS.calls _ _ _ _ _ _ ?side1 ?side2 A34.out).mono ?_); (case side1 => exact ks (Kd.C_below HR2.out HB.out)); (case side2 => exact HC2.out); rintro e w39 ⟨v544, rfl, ho0, hb⟩; refine ⟨_, rfl, ?_⟩; replace HO_8 := asd (Kd.R_below (kr HO_8) hb); replace HO_11 := asd (Kd.R_below (kr HO_11) hb); have HO545 := asd (Kd.R_lower (Kd.R_new' ho0 (Kd.R_lt (kr HO_10))) (bsz1 HB GE520)); replace HO_10 := asd (Kd.R_elder' (kr HO_10) (Kd.R_base ho0) hb); replace BK520 := bB BK520 hb; replace HB := bS1 HB GE520 hb; (try clear hb); (try clear hb2); (try clear hk); (try clear hi); (try clear ho0); obtain ⟨Ao40, co40, eo40⟩ := Kd.R_slice HO545.out; subst eo40) | ((with_reducible refine gate_callee (f := 13) rfl ?_); refine gl 54 Try.func13 #[.slice Ao23 t532.length co23, .slice Ao40 t543.length co40] ?_; (with_reducible refine (laws_eqMotionS.calls _ _ _ _ _ _ _ _ _ ?side1 ?side2 ?side3 ?side4 A35.out).mono ?_); (case side1 => exact ks (Kd.R_reads' HO_10.out).2.2); (case side2 => exact (Kd.R_reads' HO_10.out).2.1); (case side3 => exact ks (Kd.R_reads' HO545.out).2.2); (case side4 => exact (Kd.R_reads' HO545.out).2.1); rintro e w41 ⟨rfl, hb⟩; refine ⟨_, rfl, ?_⟩; replace HO_8 := asd (Kd.R_below (kr HO_8) hb); replace HO_10 := asd (Kd.R_below (kr HO_10) hb); replace HO_11 := asd (Kd.R_below (kr HO_11) hb); replace HO545 := asd (Kd.R_below (kr HO545) hb); replace BK520 := bB BK520 hb; replace HB := bS1 HB GE520 hb; (try clear hb)) | ((with_reducible refine gate_callee (f := 19) rfl ?_); refine gl 58 Try.func19 #[.slice Ao23 t532.length co23, .int .i64 1] ?_; (with_reducible refine (laws_markMotionS.calls _ (fun k_ => some k_ = (.slice Ao23 t532.length co23 : Value).ownBlock) _ _ _ _ _ w _ ?side1 ?side2 A37.out).mono ?_); (case side1 => repeat (first | (with_reducible first | exact HB.out | apply below_alloc | apply pw_below_drewN | apply below_drew1 | refine below_set ?_ GE520.out) | exact HB.out)); (case side2 => exact Kd.R_tight rfl HO_10.out); rintro e w42 ⟨rfl, hy0, hb, hkp⟩; refine ⟨_, rfl, ?_⟩; replace HO_8 := asd (Kd.R_mono (ok' := fun k_ => some k_ ≠ (v539 : Value).ownBlock) (Kd.R_keptB ((Kd.R_apart' HO_8.out (Kd.R_typed HO_10.out) (by decide))) hkp (fun k_ hk_ hs_ => (hk_.2) hs_)) (fun k_ hk_ => hk_.1.1)); replace HO_11 := asd (Kd.R_mono (ok' := fun k_ => some k_ ≠ (v529 : Value).ownBlock) (Kd.R_keptB ((Kd.R_apart' HO_11.out (Kd.R_typed HO_10.out) (by decide))) hkp (fun k_ hk_ hs_ => (hk_.2) hs_)) (fun k_ hk_ => hk_.1.1)); replace BK520 := asd (blk_kept (bkp BK520) hkp (fun hs_ => (fun e_ => (Kd.R_ne HO_10.out BK520.out (by decide)) e_) hs_)); replace HO_10 := asd (Kd.R_reok rfl hy0 (fun k_ e_ => HO_10.out.1 k_ e_)); replace HO545 := asd (Kd.R_mono (ok' := fun k_ => some k_ ≠ (.slice Ao23 t532.length co23 : Value).ownBlock) (Kd.R_keptB (HO545.out) hkp (fun k_ hk_ hs_ => (hk_.2) hs_)) (fun k_ hk_ => hk_.1.2)); replace HB := asd (hb); (try clear hb); (try clear hkp); (try clear hy0)))
      (try simp only [Act.put, sA, sB, sC])
      go_cut [71] (fun v71 wc => ∃ (kq : Nat) (x71_37 : Bool), v71 = .bool x71_37 ∧ Aside0 (laws_FnExactPointPart.j1 kq a0 l2 t528 t531 t538 x71_37 a1_0 a1_1 a1_2 = some true) ∧ Aside0 (kq ≤ kj12) ∧ Aside0 (Kd.R k51 51 wc w.heap.size (fun k_ => some k_ ≠ (v539 : Value).ownBlock) v529 t528) ∧ Aside0 (Kd.R k51 51 wc w.heap.size (fun k_ => some k_ ≠ (v529 : Value).ownBlock) v539 t538) ∧ Aside0 (wc.heap[gb520]? = some (.cells #[.int .i64 a1_0, .int .i64 a1_1, .int .i64 a1_2] 23 (0, 0))) ∧ Aside0 (Below w.heap.size w wc))
      case first =>
       have H := HC38.out
       clear HC38
       by_cases c43 : t547 < 0
       ·rw [if_pos c43] at H
        have c43b0 : decide (t547 < 0) = true := decide_eq_true c43
        clear c43
        (first | rw [c43b0] | (simp only [i64_w, i32_w]; rw [c43b0]) | skip)
        have H' := Aside0.mk H
        clear H
        go_wp2
        go_meet
        case rel => exact ⟨_, (true), (by first | rfl | (simp; done) | (simp [*]; done)), H', ⟨by have := HJ12.out; first | omega | exact Nat.le_refl _⟩, ⟨by (with_reducible repeat (first | apply Kd.R_alloc | apply Kd.R_drewN | apply Kd.R_drew)); exact HO_8.out⟩, ⟨by (with_reducible repeat (first | apply Kd.R_alloc | apply Kd.R_drewN | apply Kd.R_drew)); exact HO_11.out⟩, ⟨bkp BK520⟩, ⟨bbw1 HB GE520⟩⟩
       ·rw [if_neg c43] at H
        have c43b0 : decide (t547 < 0) = false := decide_eq_false c43
        clear c43
        (first | rw [c43b0] | (simp only [i64_w, i32_w]; rw [c43b0]) | skip)
        obtain ⟨t549, A44, H⟩ := ob H
        replace H : (if t549 = true then (laws_FnExactPointPart.j1 kj12 a0 l2 t528 t531 t538 (t541 != t531) a1_0 a1_1 a1_2) else (laws_FnExactPointPart.j1 kj12 a0 l2 t528 t531 t538 true a1_0 a1_1 a1_2)) = some true := H
        by_cases c45 : t549 = true
        ·subst c45
         have H1 : (laws_FnExactPointPart.j1 kj12 a0 l2 t528 t531 t538 (t541 != t531) a1_0 a1_1 a1_2) = some true := by rw [if_pos rfl] at H; first | done | exact H
         clear H
         have H := H1
         clear H1
         have H' := Aside0.mk H
         clear H
         obtain ⟨Ao46, co46, eo46⟩ := Kd.R_slice HO_11.out
         subst eo46
         obtain ⟨Ao47, co47, eo47⟩ := Kd.R_slice HO_8.out
         subst eo47
         go_wp2_with (first | (go_at_call 26; (with_reducible refine (laws_eqMatS.calls _ _ _ _ _ _ _ _ _ ?side1 ?side2 ?side3 ?side4 A44.out).mono ?_); (case side1 => exact ks (Kd.R_reads' HO_11.out).2.2); (case side2 => exact (Kd.R_reads' HO_11.out).2.1); (case side3 => exact ks (Kd.R_reads' HO_8.out).2.2); (case side4 => exact (Kd.R_reads' HO_8.out).2.1); rintro e w48 ⟨rfl, hb⟩; replace HO_8 := asd (Kd.R_below (kr HO_8) hb); replace HO_10 := asd (Kd.R_below (kr HO_10) hb); replace HO_11 := asd (Kd.R_below (kr HO_11) hb); replace HO545 := asd (Kd.R_below (kr HO545) hb); replace BK520 := bB BK520 hb; replace HB := bS1 HB GE520 hb; (try clear hb)))
         go_meet
         case rel => exact ⟨_, ((t541 != t531)), (by first | rfl | (simp; done) | (simp [*]; done)), H', ⟨by have := HJ12.out; first | omega | exact Nat.le_refl _⟩, ⟨by (with_reducible repeat (first | apply Kd.R_alloc | apply Kd.R_drewN | apply Kd.R_drew)); exact HO_8.out⟩, ⟨by (with_reducible repeat (first | apply Kd.R_alloc | apply Kd.R_drewN | apply Kd.R_drew)); exact HO_11.out⟩, ⟨bkp BK520⟩, ⟨bbw1 HB GE520⟩⟩
        ·replace c45 := Bool.eq_false_iff.mpr c45
         subst c45
         have H1 : (laws_FnExactPointPart.j1 kj12 a0 l2 t528 t531 t538 true a1_0 a1_1 a1_2) = some true := by rw [if_neg (show ¬ (false = true) by decide)] at H; first | done | exact H
         clear H
         have H := H1
         clear H1
         have H' := Aside0.mk H
         clear H
         obtain ⟨Ao49, co49, eo49⟩ := Kd.R_slice HO_11.out
         subst eo49
         obtain ⟨Ao50, co50, eo50⟩ := Kd.R_slice HO_8.out
         subst eo50
         go_wp2_with (first | (go_at_call 26; (with_reducible refine (laws_eqMatS.calls _ _ _ _ _ _ _ _ _ ?side1 ?side2 ?side3 ?side4 A44.out).mono ?_); (case side1 => exact ks (Kd.R_reads' HO_11.out).2.2); (case side2 => exact (Kd.R_reads' HO_11.out).2.1); (case side3 => exact ks (Kd.R_reads' HO_8.out).2.2); (case side4 => exact (Kd.R_reads' HO_8.out).2.1); rintro e w51 ⟨rfl, hb⟩; replace HO_8 := asd (Kd.R_below (kr HO_8) hb); replace HO_10 := asd (Kd.R_below (kr HO_10) hb); replace HO_11 := asd (Kd.R_below (kr HO_11) hb); replace HO545 := asd (Kd.R_below (kr HO545) hb); replace BK520 := bB BK520 hb; replace HB := bS1 HB GE520 hb; (try clear hb)))
         go_meet
         case rel => exact ⟨_, (true), (by first | rfl | (simp; done) | (simp [*]; done)), H', ⟨by have := HJ12.out; first | omega | exact Nat.le_refl _⟩, ⟨by (with_reducible repeat (first | apply Kd.R_alloc | apply Kd.R_drewN | apply Kd.R_drew)); exact HO_8.out⟩, ⟨by (with_reducible repeat (first | apply Kd.R_alloc | apply Kd.R_drewN | apply Kd.R_drew)); exact HO_11.out⟩, ⟨bkp BK520⟩, ⟨bbw1 HB GE520⟩⟩
      case rest =>
       clear HC38
       try clear c1
       try clear c2
       try clear p2
       try clear c3
       try clear c4
       try clear c5
       try clear c5b0
       try clear c7
       try clear c8
       try clear c10
       try clear c11
       try clear c13
       try clear c19
       try clear c24
       try clear c25
       try clear c26
       try clear c33
       try clear c36
       try clear c43
       try clear c43b0
       try clear c45
       try clear hcz15_0
       try clear hcz15_1
       try clear hcz15_2
       try clear hcz21_0
       try clear hcz21_1
       try clear hcz21_2
       try clear hfz15_0
       try clear hfz15_1
       try clear hfz15_2
       try clear hfz21_0
       try clear hfz21_1
       try clear hfz21_2
       try clear p2
       obtain ⟨kq, x71_37, rfl, HA, HJ37, HO_8, HO_11, BK520, HB⟩ := hcut
       cases kq with
       | zero => exact absurd HA.out (by simp [laws_FnExactPointPart.j1])
       | succ kj37 =>
        have H := HA.out
        clear HA
        simp only [laws_FnExactPointPart.j1] at H
        by_cases c52 : x71_37 = true
        ·subst c52
         have H1 : (some false) = some true := by rw [if_pos rfl] at H; first | done | exact H
         clear H
         have H := H1
         clear H1
         exact absurd H (by simp)
        ·replace c52 := Bool.eq_false_iff.mpr c52
         subst c52
         have H1 : ((laws_markMatS.f kj37 t538 1).bind fun bt550 => ((laws_heldMatS.f kj37 bt550.2 1).bind fun t552 => (if t552 < 0 then (some false) else (if t552 = bt550.1 then ((laws_toLattice.f a1_0 a1_1 a1_2).bind fun bt553 => ((laws_toMotionS.f kj37 l2).bind fun t556 => ((impl_PointPart.f kj37 a0 bt553.1 bt553.2.1 bt553.2.2 t556).bind fun bt559 => ((laws_eqMatS.f kj37 bt559.1 t528).bind fun t563 => (if t563 = true then (laws_FnExactPointPart.j2 kj37 bt550.2 bt550.1 (bt559.2 != t531)) else (laws_FnExactPointPart.j2 kj37 bt550.2 bt550.1 true)))))) else (some false))))) = some true := by rw [if_neg (show ¬ (false = true) by decide)] at H; first | done | exact H
         clear H
         have H := H1
         clear H1
         obtain ⟨⟨t550, t551⟩, A53, H⟩ := ob H
         replace H : ((laws_heldMatS.f kj37 t551 1).bind fun t552 => (if t552 < 0 then (some false) else (if t552 = t550 then ((laws_toLattice.f a1_0 a1_1 a1_2).bind fun bt553 => ((laws_toMotionS.f kj37 l2).bind fun t556 => ((impl_PointPart.f kj37 a0 bt553.1 bt553.2.1 bt553.2.2 t556).bind fun bt559 => ((laws_eqMatS.f kj37 bt559.1 t528).bind fun t563 => (if t563 = true then (laws_FnExactPointPart.j2 kj37 t551 t550 (bt559.2 != t531)) else (laws_FnExactPointPart.j2 kj37 t551 t550 true)))))) else (some false)))) = some true := H
         obtain ⟨t552, A54, H⟩ := ob H
         replace H : (if t552 < 0 then (some false) else (if t552 = t550 then ((laws_toLattice.f a1_0 a1_1 a1_2).bind fun bt553 => ((laws_toMotionS.f kj37 l2).bind fun t556 => ((impl_PointPart.f kj37 a0 bt553.1 bt553.2.1 bt553.2.2 t556).bind fun bt559 => ((laws_eqMatS.f kj37 bt559.1 t528).bind fun t563 => (if t563 = true then (laws_FnExactPointPart.j2 kj37 t551 t550 (bt559.2 != t531)) else (laws_FnExactPointPart.j2 kj37 t551 t550 true)))))) else (some false))) = some true := H
         by_cases c55 : t552 < 0
         ·rw [if_pos c55] at H
          have c55b0 : decide (t552 < 0) = true := decide_eq_true c55
          clear c55
          exact absurd H (by simp)
         ·rw [if_neg c55] at H
          have c55b0 : decide (t552 < 0) = false := decide_eq_false c55
          clear c55
          by_cases c56 : t552 = t550
          ·rw [if_pos c56] at H
           have c56b0 : (t552 == t550) = true := beq_iff_eq.mpr c56
           have c56b1 : (t552 != t550) = false := bne_eq_false_iff_eq.mpr c56
           clear c56
           obtain ⟨⟨t553, t554, t555⟩, A57, H⟩ := ob H
           replace H : ((laws_toMotionS.f kj37 l2).bind fun t556 => ((impl_PointPart.f kj37 a0 t553 t554 t555 t556).bind fun bt559 => ((laws_eqMatS.f kj37 bt559.1 t528).bind fun t563 => (if t563 = true then (laws_FnExactPointPart.j2 kj37 t551 t550 (bt559.2 != t531)) else (laws_FnExactPointPart.j2 kj37 t551 t550 true))))) = some true := H
           obtain ⟨t556, A58, H⟩ := ob H
           replace H : ((impl_PointPart.f kj37 a0 t553 t554 t555 t556).bind fun bt559 => ((laws_eqMatS.f kj37 bt559.1 t528).bind fun t563 => (if t563 = true then (laws_FnExactPointPart.j2 kj37 t551 t550 (bt559.2 != t531)) else (laws_FnExactPointPart.j2 kj37 t551 t550 true)))) = some true := H
           obtain ⟨⟨t559, t562⟩, A59, H⟩ := ob H
           replace H : ((laws_eqMatS.f kj37 t559 t528).bind fun t563 => (if t563 = true then (laws_FnExactPointPart.j2 kj37 t551 t550 (t562 != t531)) else (laws_FnExactPointPart.j2 kj37 t551 t550 true))) = some true := H
           have HC60 := Aside0.mk H
           clear H
           obtain ⟨Ao61, co61, eo61⟩ := Kd.R_slice HO_11.out
           subst eo61
           go_upto_region 25 with (first | ((with_reducible refine gate_callee (f := 27) rfl ?_); refine gl 74 Try.func27 #[.slice Ao61 t538.length co61, .int .i64 1] ?_; (with_reducible refine (laws_markMatS.calls _ (fun k_ => some k_ = (.slice Ao61 t538.length co61 : Value).ownBlock) _ _ _ _ _ w _ ?side1 ?side2 A53.out).mono ?_); (case side1 => repeat (first | (with_reducible first | exact HB.out | apply below_alloc | apply pw_below_drewN | apply below_drew1 | refine below_set ?_ GE520.out) | exact HB.out)); (case side2 => exact Kd.R_tight rfl HO_11.out); rintro e w62 ⟨rfl, hy0, hb, hkp⟩; refine ⟨_, rfl, ?_⟩; replace HO_8 := asd (Kd.R_mono (ok' := fun k_ => some k_ ≠ (.slice Ao61 t538.length co61 : Value).ownBlock) (Kd.R_keptB (HO_8.out) hkp (fun k_ hk_ hs_ => (hk_) hs_)) (fun k_ hk_ => hk_.1)); replace BK520 := asd (blk_kept (bkp BK520) hkp (fun hs_ => (fun e_ => (Kd.R_ne HO_11.out BK520.out (by decide)) e_) hs_)); replace HO_11 := asd (Kd.R_reok rfl hy0 (fun k_ e_ => HO_11.out.1 k_ e_)); replace HB := asd (hb); (try clear hb); (try clear hkp); (try clear hy0)) | ((with_reducible refine gate_callee (f := 28) rfl ?_); refine goesL_ (some 77) rfl rfl Try.func28 (by kernel_rfl) rfl #[.slice Ao61 t551.length co61, .int .i64 1] rfl (by (try simp only [List.map_toArray, List.map_cons, List.map_nil]); first | done | (rw [show t551.length = t538.length from (Kd.R_reads' HO_11.out).1.symm] <;> rfl) | rfl | (simp only [List.length_drop, List.length_take]; rfl)) ?_; (with_reducible refine (laws_heldMatS.calls _ _ _ _ _ _ _ ?side1 ?side2 A54.out).mono ?_); (case side1 => exact ks (Kd.R_reads' HO_11.out).2.2); (case side2 => rw [show t551.length = t538.length from (Kd.R_reads' HO_11.out).1.symm]; exact (Kd.R_reads' HO_11.out).2.1); rintro e w' ⟨rfl, ⟨nd, rfl⟩⟩; refine ⟨_, rfl, ?_⟩; have hcz63_0 : w62.cell? ⟨gb520, 0, none⟩ = some (.int .i64 a1_0) := bcl BK520 0; have hcz63_1 : w62.cell? ⟨gb520, 1, none⟩ = some (.int .i64 a1_1) := bcl BK520 1; have hcz63_2 : w62.cell? ⟨gb520, 2, none⟩ = some (.int .i64 a1_2) := bcl BK520 2; have hfz63_0 := blk_frozen BK520.out 0; have hfz63_1 := blk_frozen BK520.out 1; have hfz63_2 := blk_frozen BK520.out 2) | ((with_reducible refine gate_callee (f := 10) rfl ?_); refine gl 86 Try.func10 #[.agg #[.int .i64 a1_0, .int .i64 a1_1, .int .i64 a1_2]] ?_; (with_reducible refine (laws_toLattice.calls _ _ _ _ _ _ _ A57.out).mono ?_); rintro e w64 ⟨rfl, hb⟩; refine ⟨_, rfl, ?_⟩; replace HO_8 := asd (Kd.R_below (kr HO_8) hb); replace HO_11 := asd (Kd.R_below (kr HO_11) hb); replace BK520 := bB BK520 hb; replace HB := bS1 HB GE520 hb; (try clear hb)) | ((with_reducible refine gate_callee (f := 11) rfl ?_); refine gl 88 Try.func11 #[.slice A2 l2.length c2] ?_; (with_reducible refine (laws_toMotionS.calls _ _ _ _ _ _ ?side1 ?side2 A58.out).mono ?_); (case side1 => exact ks (Kd.C_below HR2.out HB.out)); (case side2 => exact HC2.out); rintro e w65 ⟨v557, rfl, ho0, hb⟩; refine ⟨_, rfl, ?_⟩; replace HO_8 := asd (Kd.R_below (kr HO_8) hb); replace HO_11 := asd (Kd.R_below (kr HO_11) hb); have HO558 := asd (Kd.R_lower ho0 (bsz1 HB GE520)); replace BK520 := bB BK520 hb; replace HB := bS1 HB GE520 hb; (try clear hb); (try clear hb2); (try clear hk); (try clear hi); (try clear ho0); obtain ⟨Ao66, co66, eo66⟩ := Kd.R_slice HO558.out; subst eo66) | ((with_reducible refine gate_callee (f := 25) rfl ?_); refine gl 89 Try.func25 #[.int .i64 a0, .agg #[.int .i64 t553, .int .i64 t554, .int .i64 t555], .slice Ao66 t556.length co66] ?_; (with_reducible refine (impl_PointPart.calls _ _ _ _ _ (fun k_ => some k_ = (.slice Ao66 t556.length co66 : Value).ownBlock) _ _ _ _ _ _ ?side1 A59.out).mono ?_); (case side1 => exact Kd.R_V (Kd.R_tight rfl (Kd.R_types (Kd.R_apart' (Kd.R_apart' (HO558.out) (Kd.R_typed HO_8.out) (by decide)) (Kd.R_typed HO_11.out) (by decide)) BK520.out (by decide)))); rintro e w67 ⟨v560, rfl, ho0, hb⟩; refine ⟨_, rfl, ?_⟩; replace HO558 := asd (Kd.R_below (kr HO558) hb); have HO561 := asd (Kd.R_lower (Kd.R_new' (Kd.R_new' (Kd.R_mono (ok' := fun k_ => True) ho0 (fun _ hk_ => trivial)) (Kd.R_lt (kr HO_8))) (Kd.R_lt (kr HO_11))) (bsz1 HB GE520)); replace HO_8 := asd (Kd.R_elder' (kr HO_8) (Kd.R_base ho0) hb); replace HO_11 := asd (Kd.R_elder' (kr HO_11) (Kd.R_base ho0) hb); replace BK520 := bB BK520 hb; replace HB := bS1 HB GE520 hb; (try clear hb); (try clear hb2); (try clear hk); (try clear hi); (try clear ho0)))
           (try simp only [Act.put, sA, sB, sC])
           go_cut [100] (fun v100 wc => ∃ (kq : Nat) (x100_59 : Bool), v100 = .bool x100_59 ∧ Aside0 (laws_FnExactPointPart.j2 kq t551 t550 x100_59 = some true) ∧ Aside0 (kq ≤ kj37) ∧ Aside0 (Kd.R k51 51 wc w.heap.size (fun _ => True) (.slice Ao61 t538.length co61) t551) ∧ Aside0 (wc.heap[gb520]? = some (.cells #[.int .i64 a1_0, .int .i64 a1_1, .int .i64 a1_2] 23 (0, 0))) ∧ Aside0 (Below w.heap.size w wc))
           case first =>
            have H := HC60.out
            clear HC60
            obtain ⟨t563, A68, H⟩ := ob H
            replace H : (if t563 = true then (laws_FnExactPointPart.j2 kj37 t551 t550 (t562 != t531)) else (laws_FnExactPointPart.j2 kj37 t551 t550 true)) = some true := H
            by_cases c69 : t563 = true
            ·subst c69
             have H1 : (laws_FnExactPointPart.j2 kj37 t551 t550 (t562 != t531)) = some true := by rw [if_pos rfl] at H; first | done | exact H
             clear H
             have H := H1
             clear H1
             have H' := Aside0.mk H
             clear H
             obtain ⟨Ao70, co70, eo70⟩ := Kd.R_slice HO561.out
             subst eo70
             obtain ⟨Ao71, co71, eo71⟩ := Kd.R_slice HO_8.out
             subst eo71
             go_wp2_with (first | ((with_reducible refine gate_callee (f := 26) rfl ?_); refine gl 94 Try.func26 #[.slice Ao70 t559.length co70, .slice Ao71 t528.length co71] ?_; (with_reducible refine (laws_eqMatS.calls _ _ _ _ _ _ _ _ _ ?side1 ?side2 ?side3 ?side4 A68.out).mono ?_); (case side1 => exact ks (Kd.R_reads' HO561.out).2.2); (case side2 => exact (Kd.R_reads' HO561.out).2.1); (case side3 => exact ks (Kd.R_reads' HO_8.out).2.2); (case side4 => exact (Kd.R_reads' HO_8.out).2.1); rintro e w72 ⟨rfl, hb⟩; refine ⟨_, rfl, ?_⟩; replace HO_8 := asd (Kd.R_below (kr HO_8) hb); replace HO_11 := asd (Kd.R_below (kr HO_11) hb); replace HO558 := asd (Kd.R_below (kr HO558) hb); replace HO561 := asd (Kd.R_below (kr HO561) hb); replace BK520 := bB BK520 hb; replace HB := bS1 HB GE520 hb; (try clear hb)))
             go_meet
             case rel => exact ⟨_, ((t562 != t531)), (by first | rfl | (simp; done) | (simp [*]; done)), H', ⟨by have := HJ12.out; have := HJ37.out; first | omega | exact Nat.le_refl _⟩, ⟨by (with_reducible repeat (first | apply Kd.R_alloc | apply Kd.R_drewN | apply Kd.R_drew)); exact Kd.R_mono HO_11.out (fun _ hk => trivial)⟩, ⟨bkp BK520⟩, ⟨bbw1 HB GE520⟩⟩
            ·replace c69 := Bool.eq_false_iff.mpr c69
             subst c69
             have H1 : (laws_FnExactPointPart.j2 kj37 t551 t550 true) = some true := by rw [if_neg (show ¬ (false = true) by decide)] at H; first | done | exact H
             clear H
             have H := H1
             clear H1
             have H' := Aside0.mk H
             clear H
             obtain ⟨Ao73, co73, eo73⟩ := Kd.R_slice HO561.out
             subst eo73
             obtain ⟨Ao74, co74, eo74⟩ := Kd.R_slice HO_8.out
             subst eo74
             go_wp2_with (first | ((with_reducible refine gate_callee (f := 26) rfl ?_); refine gl 94 Try.func26 #[.slice Ao73 t559.length co73, .slice Ao74 t528.length co74] ?_; (with_reducible refine (laws_eqMatS.calls _ _ _ _ _ _ _ _ _ ?side1 ?side2 ?side3 ?side4 A68.out).mono ?_); (case side1 => exact ks (Kd.R_reads' HO561.out).2.2); (case side2 => exact (Kd.R_reads' HO561.out).2.1); (case side3 => exact ks (Kd.R_reads' HO_8.out).2.2); (case side4 => exact (Kd.R_reads' HO_8.out).2.1); rintro e w75 ⟨rfl, hb⟩; refine ⟨_, rfl, ?_⟩; replace HO_8 := asd (Kd.R_below (kr HO_8) hb); replace HO_11 := asd (Kd.R_below (kr HO_11) hb); replace HO558 := asd (Kd.R_below (kr HO558) hb); replace HO561 := asd (Kd.R_below (kr HO561) hb); replace BK520 := bB BK520 hb; replace HB := bS1 HB GE520 hb; (try clear hb)))
             go_meet
             case rel => exact ⟨_, (true), (by first | rfl | (simp; done) | (simp [*]; done)), H', ⟨by have := HJ12.out; have := HJ37.out; first | omega | exact Nat.le_refl _⟩, ⟨by (with_reducible repeat (first | apply Kd.R_alloc | apply Kd.R_drewN | apply Kd.R_drew)); exact Kd.R_mono HO_11.out (fun _ hk => trivial)⟩, ⟨bkp BK520⟩, ⟨bbw1 HB GE520⟩⟩
           case rest =>
            clear HC60
            try clear c1
            try clear c2
            try clear p2
            try clear c3
            try clear c4
            try clear c5
            try clear c5b0
            try clear c6
            try clear c7
            try clear c8
            try clear c10
            try clear c11
            try clear c13
            try clear c19
            try clear c24
            try clear c25
            try clear c26
            try clear c27
            try clear c28
            try clear c33
            try clear c36
            try clear c43
            try clear c43b0
            try clear c45
            try clear c52
            try clear c55
            try clear c55b0
            try clear c56
            try clear c56b0
            try clear c56b1
            try clear c69
            try clear hcz15_0
            try clear hcz15_1
            try clear hcz15_2
            try clear hcz21_0
            try clear hcz21_1
            try clear hcz21_2
            try clear hcz63_0
            try clear hcz63_1
            try clear hcz63_2
            try clear hfz15_0
            try clear hfz15_1
            try clear hfz15_2
            try clear hfz21_0
            try clear hfz21_1
            try clear hfz21_2
            try clear hfz63_0
            try clear hfz63_1
            try clear hfz63_2
            try clear p2
            obtain ⟨kq, x100_59, rfl, HA, HJ59, HO_11, BK520, HB⟩ := hcut
            have hl11_59 := (Kd.R_reads' HO_11.out).1
            rw [hl11_59] at HO_11
            (try simp only [hl11_59])
            (try simp only [hl11_59] at BK520)
            cases kq with
            | zero => exact absurd HA.out (by simp [laws_FnExactPointPart.j2])
            | succ kj59 =>
             have H := HA.out
             clear HA
             simp only [laws_FnExactPointPart.j2] at H
             by_cases c76 : x100_59 = true
             ·subst c76
              have H1 : (some false) = some true := by rw [if_pos rfl] at H; first | done | exact H
              clear H
              have H := H1
              clear H1
              exact absurd H (by simp)
             ·replace c76 := Bool.eq_false_iff.mpr c76
              subst c76
              have H1 : ((laws_heldMatS.f kj59 t551 1).bind fun t564 => (if t564 < 0 then (some false) else (if t564 = t550 then (some true) else (some false)))) = some true := by rw [if_neg (show ¬ (false = true) by decide)] at H; first | done | exact H
              clear H
              have H := H1
              clear H1
              obtain ⟨t564, A77, H⟩ := ob H
              replace H : (if t564 < 0 then (some false) else (if t564 = t550 then (some true) else (some false))) = some true := H
              by_cases c78 : t564 < 0
              ·rw [if_pos c78] at H
               have c78b0 : decide (t564 < 0) = true := decide_eq_true c78
               clear c78
               exact absurd H (by simp)
              ·rw [if_neg c78] at H
               have c78b0 : decide (t564 < 0) = false := decide_eq_false c78
               clear c78
               by_cases c79 : t564 = t550
               ·rw [if_pos c79] at H
                have c79b0 : (t564 == t550) = true := beq_iff_eq.mpr c79
                have c79b1 : (t564 != t550) = false := bne_eq_false_iff_eq.mpr c79
                clear c79
                clear H
                go_wp2_with (first | ((with_reducible refine gate_callee (f := 28) rfl ?_); refine gl 103 Try.func28 #[.slice Ao61 t551.length co61, .int .i64 1] ?_; (with_reducible refine (laws_heldMatS.calls _ _ _ _ _ _ _ ?side1 ?side2 A77.out).mono ?_); (case side1 => exact ks (Kd.R_reads' HO_11.out).2.2); (case side2 => exact (Kd.R_reads' HO_11.out).2.1); rintro e w' ⟨rfl, ⟨nd, rfl⟩⟩; refine ⟨_, rfl, ?_⟩))
                go_ret
                exact er (bbw1 HB GE520)
               ·rw [if_neg c79] at H
                have c79b0 : (t564 == t550) = false := beq_eq_false_iff_ne.mpr c79
                have c79b1 : (t564 != t550) = true := bne_iff_ne.mpr c79
                exact absurd H (by simp)
          ·rw [if_neg c56] at H
           have c56b0 : (t552 == t550) = false := beq_eq_false_iff_ne.mpr c56
           have c56b1 : (t552 != t550) = true := bne_iff_ne.mpr c56
           exact absurd H (by simp)
     ·replace c36 := Bool.eq_false_iff.mpr c36
      subst c36
      have H1 : (some false) = some true := by rw [if_neg (show ¬ (false = true) by decide)] at H; first | done | exact H
      clear H
      have H := H1
      clear H1
      exact absurd H (by simp)

/-- The one plain statement of laws_FnExactPointPart. -/
def laws_FnExactPointPart.Pure : Prop := ∀ (a0 : Int) (a1_0 : Int) (a1_1 : Int) (a1_2 : Int) (l2 : List (S60)), (Lit.int .i64 a0).wf = true → (Lit.int .i64 a1_0).wf = true → (Lit.int .i64 a1_1).wf = true → (Lit.int .i64 a1_2).wf = true → l2.length ≤ maxLen → (∀ x ∈ l2, (Lit.int .i64 x.f0.f0).wf = true ∧ (Lit.int .i64 x.f0.f1).wf = true ∧ (Lit.int .i64 x.f0.f2).wf = true ∧ (Lit.int .i64 x.f0.f3).wf = true ∧ (Lit.int .i64 x.f1.f0).wf = true ∧ (Lit.int .i64 x.f1.f1).wf = true) → ∃ k, laws_FnExactPointPart.f k a0 a1_0 a1_1 a1_2 l2 = some true
end Go.Proofs.Ytcchmdodifkloaa.PA
