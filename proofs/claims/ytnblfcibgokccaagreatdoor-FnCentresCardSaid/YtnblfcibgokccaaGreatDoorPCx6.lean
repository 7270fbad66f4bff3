/- Walks written by program: each Go function that the law reaches comes to the plain function beside it. -/
import Derived.Test.YtnblfcibgokccaaGreatDoorPCx0
import Derived.Test.YtnblfcibgokccaaGreatDoorPCx4
import Derived.Test.YtnblfcibgokccaaGreatDoorPCx5
namespace Go.Proofs.YtnblfcibgokccaaGreatDoor.PC
open Go.RowKit Go.Proofs.YtnblfcibgokccaaGreatDoorW.PrintWords Go.Proofs.YtnblfcibgokccaaGreatDoorW.PrintLast Go.Proofs.YtnblfcibgokccaaGreatDoorW.PrintMore
attribute [local go_sem] max2_int min2_int max_two min_two max_three min_three max_four min_four   -- for this text's walks alone
set_option linter.unusedVariables false
set_option linter.unusedSimpArgs false

/-! ### spec_l04Mats: function 122 -/
def spec_l04Mats.l0 : Nat → Int → List (S25) → Int → Option ((List (S25)))
 | 0, _, _, _ => none
 | k + 1, x0, x3, x4 => if x4 < 81 then ((spec_l04Keeps.f x0 (wrap64 ((wrap64 (Int.tdiv x4 27)) - 1)) (wrap64 ((Int.tmod (wrap64 (Int.tdiv x4 9)) 3) - 1)) (wrap64 ((Int.tmod (wrap64 (Int.tdiv x4 3)) 3) - 1)) (wrap64 ((Int.tmod x4 3) - 1))).bind fun t215 => (if t215 = true then (if x3.length < 4398046511104 then (spec_l04Mats.l0 k x0 (x3 ++ [(⟨wrap64 ((wrap64 (Int.tdiv x4 27)) - 1), wrap64 ((Int.tmod (wrap64 (Int.tdiv x4 9)) 3) - 1), wrap64 ((Int.tmod (wrap64 (Int.tdiv x4 3)) 3) - 1), wrap64 ((Int.tmod x4 3) - 1)⟩ : S25)]) (wrap64 (x4 + 1))) else (none)) else (spec_l04Mats.l0 k x0 x3 (wrap64 (x4 + 1))))) else (some x3)
def spec_l04Mats.f (k : Nat) (a0 : Int) : Option ((List (S25))) := spec_l04Mats.l0 k a0 (([] : List (S25))) 0
set_option maxHeartbeats 8000000 in
set_option maxRecDepth 100000 in
theorem spec_l04Mats.calls (k : Nat) (a0 : Int) (r : List (S25)) (w : World) (h : spec_l04Mats.f k a0 = some r) :
  Calls Tryz.prog 122 #[.int .i64 a0] w fun e w' => ∃ v0_ : Value, e = .returned (v0_) ∧ Kd.R k25 25 w' w.heap.size (fun _ => True) v0_ r ∧ Below w.heap.size w w' := by
 have hu25 := Tryz.underlying25
 have HB := asd (Below.refl w.heap.size w)
 have H : (spec_l04Mats.l0 k a0 (([] : List (S25))) 0) = some r := h
 clear h
 obtain ⟨y211, hy211⟩ : ∃ y_ : List (S25), y_ = (([] : List (S25))) := ⟨_, rfl⟩
 replace H : (spec_l04Mats.l0 k a0 y211 0) = some r := by first | (rw [hy211]; with_reducible exact H) | (have H2_ := (Option.bind_some _ _).symm.trans H; rw [hy211]; with_reducible exact H2_) | (have H2_ := (Option.bind_some _ _).symm.trans H; with_reducible exact H2_) | with_reducible exact H | (rw [hy211]; exact H) | exact H
 have Ny211 := Aside0.mk hy211
 clear hy211
 have H' := Aside0.mk H
 clear H
 go_enter Tryz.func122, Tryz.ntmps122
 go_wp2_with (first | ((with_reducible refine gd 6 rfl ?_); refine Kd.R_lit k25 _ 25 ?hg (N := 6) ?hd (xs := ([] : List (S25))) (inner := []) (ok := fun _ => True) (okp := fun _ => True) ?hr ?hp (fun _ hk => hk) trivial (Below.refl _ _) (Nat.le_refl _) (by simp) ?_; (case hd => rfl); (case hg => rfl); (case hr => first | (go_simp; done) | (go_simp; rfl)); (case hp => exact (Reps.none _ _)); intro v212 w2 ho3 hb hg_ hnew_; clear hg_ hnew_; (first | rw [← Ny211.out] at ho3 | (simp only [Int.reduceToNat] at ho3; rw [← Ny211.out] at ho3)); have HO213 := asd (Kd.R_lower ho3 (bsz0 HB)); replace HB := bS0 HB hb; clear hb ho3))
 go_loopg [3, 4] k (fun kq v3 v4 w' => ∃ (x3_1 : List (S25)) (x4_1 : Int), v4 = .int .i64 x4_1 ∧ Aside0 (spec_l04Mats.l0 kq a0 x3_1 x4_1 = some r) ∧ Aside0 (kq ≤ k) ∧ Aside0 (Kd.R k25 25 w' w.heap.size (fun _ => True) v3 x3_1) ∧ Aside0 (Below w.heap.size w w'))
 case atStart => exact ⟨(y211), (0), (by first | rfl | (simp; done) | (simp [*]; done)), H', ⟨Nat.le_refl _⟩, ⟨by (with_reducible repeat (first | apply Kd.R_alloc | apply Kd.R_drewN | apply Kd.R_drew)); exact HO213.out⟩, ⟨bbw0 HB⟩⟩
 case round =>
  clear H'
  try clear c1
  try clear p2
  obtain ⟨x3_1, x4_1, rfl, HA, HK1, HO_3, HB⟩ := hrel
  cases gk with
  | zero => exact absurd HA.out (by simp [spec_l04Mats.l0])
  | succ k1 =>
   have H := HA.out
   clear HA
   simp only [spec_l04Mats.l0] at H
   by_cases c4 : x4_1 < 81
   ·rw [if_pos c4] at H
    have c4b0 := decide_eq_true c4
    clear c4
    obtain ⟨t215, A5, H⟩ := ob H
    try dsimp only at H
    by_cases c6 : t215 = true
    ·subst c6
     replace H := ifT H
     by_cases c7 : x3_1.length < 4398046511104
     ·rw [if_pos c7] at H
      have LMc7 := Aside0.mk c7
      clear c7
      obtain ⟨y216, hy216⟩ : ∃ y_ : List (S25), y_ = (x3_1 ++ [(⟨wrap64 ((wrap64 (Int.tdiv x4_1 27)) - 1), wrap64 ((Int.tmod (wrap64 (Int.tdiv x4_1 9)) 3) - 1), wrap64 ((Int.tmod (wrap64 (Int.tdiv x4_1 3)) 3) - 1), wrap64 ((Int.tmod x4_1 3) - 1)⟩ : S25)]) := ⟨_, rfl⟩
      replace H : (spec_l04Mats.l0 k1 a0 y216 (wrap64 (x4_1 + 1))) = some r := by first | (rw [hy216]; with_reducible exact H) | (have H2_ := (Option.bind_some _ _).symm.trans H; rw [hy216]; with_reducible exact H2_) | (have H2_ := (Option.bind_some _ _).symm.trans H; with_reducible exact H2_) | with_reducible exact H | (rw [hy216]; exact H) | exact H
      have Ny216 := Aside0.mk hy216
      clear hy216
      have H' := Aside0.mk H
      clear H
      go_wp2_with (first | ((with_reducible refine gd 5 rfl ?_); refine bx #[.int .i64 0, .int .i64 0, .int .i64 0, .int .i64 0] 25 ?_; intro gb214 hg w8 BK214 hb; replace HO_3 := asd (Kd.R_below (Kd.R_elderB (kr HO_3) gb214 (Nat.le_of_eq hg.symm)) hb); have GE214 := ngw0 hg HB; replace HB := bS0 HB hb; clear hb hg; obtain ⟨hcz9_0, hcz9_1, hcz9_2, hcz9_3, hfz9_0, hfz9_1, hfz9_2, hfz9_3⟩ := bz4 BK214) | ((with_reducible refine gate_callee (f := 151) rfl ?_); refine gl 28 Tryz.func151 #[.int .i64 a0, .agg #[.int .i64 (wrap64 ((wrap64 (Int.tdiv x4_1 27)) - 1)), .int .i64 (wrap64 ((Int.tmod (wrap64 (Int.tdiv x4_1 9)) 3) - 1)), .int .i64 (wrap64 ((Int.tmod (wrap64 (Int.tdiv x4_1 3)) 3) - 1)), .int .i64 (wrap64 ((Int.tmod x4_1 3) - 1))]] ?_; (with_reducible refine (spec_l04Keeps.calls _ _ _ _ _ _ _ A5.out).mono ?_); rintro e w10 ⟨rfl, hb⟩; refine ⟨_, rfl, ?_⟩; replace HO_3 := asd (Kd.R_below (by (with_reducible repeat (first | apply Kd.R_alloc | apply Kd.R_drewN | apply Kd.R_drew)); exact (Kd.R_mono (rw4 (Kd.R_mono HO_3.out (fun k_ hk => (⟨hk, hk.2⟩ : _ ∧ k_ ≠ gb214)))) (fun _ h_ => h_.1))) hb); replace BK214 := asd (blk_below (g := gb214) (o := .cells #[.int .i64 (wrap64 ((wrap64 (Int.tdiv x4_1 27)) - 1)), .int .i64 (wrap64 ((Int.tmod (wrap64 (Int.tdiv x4_1 9)) 3) - 1)), .int .i64 (wrap64 ((Int.tmod (wrap64 (Int.tdiv x4_1 3)) 3) - 1)), .int .i64 (wrap64 ((Int.tmod x4_1 3) - 1))] 25 (0, 0)) (bq0 BK214) hb); replace HB := bS1 HB GE214 hb; (try clear hb); obtain ⟨hcz11_0, hcz11_1, hcz11_2, hcz11_3, hfz11_0, hfz11_1, hfz11_2, hfz11_3⟩ := bz4 BK214) | ((with_reducible refine gate_builtin (b := .append) (xs := #[.tmp 29, .tmp 31]) rfl ?_); at_builtin; refine Kd.R_append k25 (w0 := w) w.heap.size rfl (.tmp 29) (.tmp 31) 111 25 (.agg #[(.int .i64 0), (.int .i64 0), (.int .i64 0), (.int .i64 0)]) 32 rfl Tryz.underlying111 info25 rfl (by decide) (by omega) u3 x3_1 (⟨wrap64 ((wrap64 (Int.tdiv x4_1 27)) - 1), wrap64 ((Int.tmod (wrap64 (Int.tdiv x4_1 9)) 3) - 1), wrap64 ((Int.tmod (wrap64 (Int.tdiv x4_1 3)) 3) - 1), wrap64 ((Int.tmod x4_1 3) - 1)⟩ : S25) [.int .i64 (wrap64 ((wrap64 (Int.tdiv x4_1 27)) - 1)), .int .i64 (wrap64 ((Int.tmod (wrap64 (Int.tdiv x4_1 9)) 3) - 1)), .int .i64 (wrap64 ((Int.tmod (wrap64 (Int.tdiv x4_1 3)) 3) - 1)), .int .i64 (wrap64 ((Int.tmod x4_1 3) - 1))] (fun k_ => k_ ≠ gb214) (fun _ => False) rfl rfl ?aP (fun _ hk => hk.elim) ?aF ?aO ?aB ?aS ?aL ?_; (case aP => exact k25_mkM _ _ _ (⟨wrap64 ((wrap64 (Int.tdiv x4_1 27)) - 1), wrap64 ((Int.tmod (wrap64 (Int.tdiv x4_1 9)) 3) - 1), wrap64 ((Int.tmod (wrap64 (Int.tdiv x4_1 3)) 3) - 1), wrap64 ((Int.tmod x4_1 3) - 1)⟩ : S25)); (case aB => exact (bbw1 HB GE214)); (case aF => exact (fun k_ hk => Kd.freshB (g := gb214) (o := .cells #[.int .i64 (wrap64 ((wrap64 (Int.tdiv x4_1 27)) - 1)), .int .i64 (wrap64 ((Int.tmod (wrap64 (Int.tdiv x4_1 9)) 3) - 1)), .int .i64 (wrap64 ((Int.tmod (wrap64 (Int.tdiv x4_1 3)) 3) - 1)), .int .i64 (wrap64 ((Int.tmod x4_1 3) - 1))] 25 (0, 0)) (bkp BK214) k_ hk)); (case aO => exact (by (with_reducible repeat (first | apply Kd.R_alloc | apply Kd.R_drewN | apply Kd.R_drew)); exact Kd.R_mono HO_3.out (fun _ hk => hk.2))); (case aS => exact (bsz1 HB GE214)); (case aL => have := LMc7.out; omega); intro v217 w12 ho hb hg hat; rw [← Ny216.out] at ho; have n0_ := asd (blk_grown (g := gb214) (o := .cells #[.int .i64 (wrap64 ((wrap64 (Int.tdiv x4_1 27)) - 1)), .int .i64 (wrap64 ((Int.tmod (wrap64 (Int.tdiv x4_1 9)) 3) - 1)), .int .i64 (wrap64 ((Int.tmod (wrap64 (Int.tdiv x4_1 3)) 3) - 1)), .int .i64 (wrap64 ((Int.tmod x4_1 3) - 1))] 25 (0, 0)) (bkp BK214) hg (Kd.R_away HO_3.out (fun _ hk => hk.2))); have n1_ := asd (hb); have n2_ := asd (ho); clear BK214; clear HB; clear HO_3; have BK214 := n0_; have HB := n1_; have HO218 := n2_; clear n0_ n1_ n2_; clear ho hb hg hat))
      go_roundg k1
      case measure => have := HK1.out; omega
      case rel => exact ⟨(y216), (wrap64 (x4_1 + 1)), (by first | rfl | (simp; done) | (simp [*]; done)), H', ⟨by have := HK1.out; omega⟩, ⟨by (with_reducible repeat (first | apply Kd.R_alloc | apply Kd.R_drewN | apply Kd.R_drew)); exact Kd.R_mono HO218.out (fun _ hk => trivial)⟩, ⟨bbw1 HB GE214⟩⟩
     ·rw [if_neg c7] at H
      exact absurd H (by simp)
    ·replace c6 := Bool.eq_false_iff.mpr c6
     subst c6
     replace H := ifF H
     have H' := Aside0.mk H
     clear H
     go_wp2_with (first | ((with_reducible refine gd 5 rfl ?_); refine bx #[.int .i64 0, .int .i64 0, .int .i64 0, .int .i64 0] 25 ?_; intro gb214 hg w13 BK214 hb; replace HO_3 := asd (Kd.R_below (Kd.R_elderB (kr HO_3) gb214 (Nat.le_of_eq hg.symm)) hb); have GE214 := ngw0 hg HB; replace HB := bS0 HB hb; clear hb hg; obtain ⟨hcz14_0, hcz14_1, hcz14_2, hcz14_3, hfz14_0, hfz14_1, hfz14_2, hfz14_3⟩ := bz4 BK214) | ((with_reducible refine gate_callee (f := 151) rfl ?_); refine gl 28 Tryz.func151 #[.int .i64 a0, .agg #[.int .i64 (wrap64 ((wrap64 (Int.tdiv x4_1 27)) - 1)), .int .i64 (wrap64 ((Int.tmod (wrap64 (Int.tdiv x4_1 9)) 3) - 1)), .int .i64 (wrap64 ((Int.tmod (wrap64 (Int.tdiv x4_1 3)) 3) - 1)), .int .i64 (wrap64 ((Int.tmod x4_1 3) - 1))]] ?_; (with_reducible refine (spec_l04Keeps.calls _ _ _ _ _ _ _ A5.out).mono ?_); rintro e w15 ⟨rfl, hb⟩; refine ⟨_, rfl, ?_⟩; replace HO_3 := asd (Kd.R_below (by (with_reducible repeat (first | apply Kd.R_alloc | apply Kd.R_drewN | apply Kd.R_drew)); exact (Kd.R_mono (rw4 (Kd.R_mono HO_3.out (fun k_ hk => (⟨hk, hk.2⟩ : _ ∧ k_ ≠ gb214)))) (fun _ h_ => h_.1))) hb); replace BK214 := asd (blk_below (g := gb214) (o := .cells #[.int .i64 (wrap64 ((wrap64 (Int.tdiv x4_1 27)) - 1)), .int .i64 (wrap64 ((Int.tmod (wrap64 (Int.tdiv x4_1 9)) 3) - 1)), .int .i64 (wrap64 ((Int.tmod (wrap64 (Int.tdiv x4_1 3)) 3) - 1)), .int .i64 (wrap64 ((Int.tmod x4_1 3) - 1))] 25 (0, 0)) (bq0 BK214) hb); replace HB := bS1 HB GE214 hb; (try clear hb)))
     go_roundg k1
     case measure => have := HK1.out; omega
     case rel => exact ⟨(x3_1), (wrap64 (x4_1 + 1)), (by first | rfl | (simp; done) | (simp [*]; done)), H', ⟨by have := HK1.out; omega⟩, ⟨by (with_reducible repeat (first | apply Kd.R_alloc | apply Kd.R_drewN | apply Kd.R_drew)); exact Kd.R_mono HO_3.out (fun _ hk => trivial)⟩, ⟨bbw1 HB GE214⟩⟩
   ·rw [if_neg c4] at H
    have c4b0 := decide_eq_false c4
    clear c4
    obtain rfl := Option.some.inj H
    go_wp2
    go_ret
    exact ⟨_, by first | rfl | (simp [errW_none, errW_some] <;> rfl) | (simp [*, errW_none, errW_some] <;> rfl), by (with_reducible repeat (first | apply Kd.R_alloc | apply Kd.R_drewN | apply Kd.R_drew)); exact HO_3.out, bbw0 HB⟩
/-! ### spec_l04DrawMat: function 80 -/
def spec_l04DrawMat.f (k : Nat) (s0_0 : List Int) (s0_1 : Int) (s0_2 : Int) (a1 : Int) : Option (Int × Int × Int × Int × Int × Int) := (spec_IsFrame.f a1).bind fun t220 => (if t220 = true then ((spec_l04Mats.f k a1).bind fun t221 => ((spec_l01Next.f s0_0 s0_1 s0_2 (t221.length : Int)).bind fun bt224 => (if 0 ≤ bt224.1 then (if bt224.1 < (t221.length : Int) then (some ((rd_T25 t221 bt224.1).f0, (rd_T25 t221 bt224.1).f1, (rd_T25 t221 bt224.1).f2, (rd_T25 t221 bt224.1).f3, bt224.2.1, bt224.2.2)) else (none)) else (none)))) else ((spec_l02Unit.f).bind fun bt228 => (some (bt228.1, bt228.2.1, bt228.2.2.1, bt228.2.2.2, s0_1, s0_2))))
set_option maxHeartbeats 8000000 in
set_option maxRecDepth 100000 in
theorem spec_l04DrawMat.calls (k : Nat) (g : Nat) (s0_0 : List Int) (s0_1 : Int) (s0_2 : Int) (a1 : Int) (r1 : Int) (r2 : Int) (r3 : Int) (r4 : Int) (r5 : Int) (r6 : Int) (w0 w : World) (hI : IsS106 w0 w g s0_0 s0_1 s0_2) (hB : Below w0.heap.size w0 w) (h : spec_l04DrawMat.f k s0_0 s0_1 s0_2 a1 = some (r1, r2, r3, r4, r5, r6)) :
  Calls Tryz.prog 80 #[.pointer (some ⟨g, 0, none⟩), .int .i64 a1] w fun e w' => e = .returned (.agg #[.int .i64 r1, .int .i64 r2, .int .i64 r3, .int .i64 r4]) ∧ IsS106 w0 w' g s0_0 r5 r6 ∧ Below w0.heap.size w0 w' ∧ KeepBut w w' g none := by
 have hu25 := Tryz.underlying25
 have HI0 := Aside0.mk hI
 have HK := asd (KeepBut.refl w g none)
 have HL := Aside0.mk hB.size
 clear hI
 have HW0 := Aside0.mk hB.size
 have HB := Aside0.mk hB
 clear hB
 have H : ((spec_IsFrame.f a1).bind fun t220 => (if t220 = true then ((spec_l04Mats.f k a1).bind fun t221 => ((spec_l01Next.f s0_0 s0_1 s0_2 (t221.length : Int)).bind fun bt224 => (if 0 ≤ bt224.1 then (if bt224.1 < (t221.length : Int) then (some ((rd_T25 t221 bt224.1).f0, (rd_T25 t221 bt224.1).f1, (rd_T25 t221 bt224.1).f2, (rd_T25 t221 bt224.1).f3, bt224.2.1, bt224.2.2)) else (none)) else (none)))) else ((spec_l02Unit.f).bind fun bt228 => (some (bt228.1, bt228.2.1, bt228.2.2.1, bt228.2.2.2, s0_1, s0_2))))) = some (r1, r2, r3, r4, r5, r6) := h
 clear h
 obtain ⟨t220, A3, H⟩ := ob H
 try dsimp only at H
 by_cases c4 : t220 = true
 subst c4
 replace H := ifT H
 obtain ⟨t221, A5, H⟩ := ob H
 try dsimp only at H
 obtain ⟨⟨t224, t225, t226⟩, A6, H⟩ := ob H
 try dsimp only at H
 by_cases c7 : 0 ≤ t224
 rw [if_pos c7] at H
 have c7b0 := decide_eq_true c7
 clear c7
 by_cases c8 : t224 < (t221.length : Int)
 rw [if_pos c8] at H
 have c8b0 := decide_eq_true c8
 clear c8
 rotate_left
 ·rw [if_neg c8] at H
  exact absurd H (by simp)
 ·rw [if_neg c7] at H
  exact absurd H (by simp)
 replace c4 := Bool.eq_false_iff.mpr c4
 subst c4
 replace H := ifF H
 obtain ⟨⟨t228, t229, t230, t231⟩, A15, H⟩ := ob H
 try dsimp only at H
 rotate_left
 all_goals
  simp only [Option.some.injEq, Prod.mk.injEq] at H
  obtain ⟨rfl, rfl, rfl, rfl, rfl, rfl⟩ := H
  go_enter Tryz.func80, Tryz.ntmps80
  go_wp2_with (first | ((with_reducible refine gd 4 rfl ?_); refine bx #[.int .i64 0, .int .i64 0, .int .i64 0, .int .i64 0] 25 ?_; intro gb219 hg w9 BK219 hb; replace HB := asd (below_step (by repeat (first | (with_reducible first | exact HB.out | apply below_alloc | apply pw_below_drewN | apply below_drew1 | refine below_set ?_ (IsS106.ge HI0.out)) | exact HB.out)) hb); have GW219 := asd ((by rw [hg]; exact (keep_size (w := w) (g := g) (row := none) (by repeat (first | (with_reducible first | exact HK.out | apply KeepBut.set_ | apply keep_drewN | apply keep_drew | apply keep_alloc) | exact HK.out))) : w.heap.size ≤ gb219)); have GE219 := asd ((Nat.le_trans HW0.out (by rw [hg]; exact (keep_size (w := w) (g := g) (row := none) (by repeat (first | (with_reducible first | exact HK.out | apply KeepBut.set_ | apply keep_drewN | apply keep_drew | apply keep_alloc) | exact HK.out))) : w.heap.size ≤ gb219) : w0.heap.size ≤ gb219)); replace HK := asd (KeepBut.trans (by repeat (first | (with_reducible first | exact HK.out | apply KeepBut.set_ | apply keep_drewN | apply keep_drew | apply keep_alloc) | exact HK.out)) (KeepBut.of_below hb g none) (.inl rfl)); have NB0_219 := asd ((by rw [hg]; exact Nat.ne_of_lt (IsS106.lt (show IsS106 w0 _ g s0_0 s0_1 s0_2 from by repeat (first | (with_reducible first | exact HI0.out | apply IsS106.alloc | apply IsS106.drewN | apply IsS106.drew | apply IsS106.set_1 | apply IsS106.set_2) | exact HI0.out))) : g ≠ gb219)); have NB219_0 := asd ((by rw [hg]; exact Nat.ne_of_gt (IsS106.lt (show IsS106 w0 _ g s0_0 s0_1 s0_2 from by repeat (first | (with_reducible first | exact HI0.out | apply IsS106.alloc | apply IsS106.drewN | apply IsS106.drew | apply IsS106.set_1 | apply IsS106.set_2) | exact HI0.out))) : gb219 ≠ g)); replace HI0 := asd (IsS106.below (by repeat (first | (with_reducible first | exact HI0.out | apply IsS106.alloc | apply IsS106.drewN | apply IsS106.drew | apply IsS106.set_1 | apply IsS106.set_2) | exact HI0.out)) hb); clear hb hg) | ((with_reducible refine gate_callee (f := 121) rfl ?_); refine gl 7 Tryz.func121 #[.int .i64 a1] ?_; (with_reducible refine (spec_IsFrame.calls _ _ _ A3.out).mono ?_); rintro e w' ⟨rfl, ⟨nd, rfl⟩⟩; refine ⟨_, rfl, ?_⟩; (try (rw [drewN_self w9]; generalize hq_ : World.drewN w9 _ = w9; have n0_ : Aside0 (w9.heap[gb219]? = some (.cells #[.int .i64 0, .int .i64 0, .int .i64 0, .int .i64 0] 25 (0, 0))) := ⟨by rw [← hq_]; exact (bkp BK219)⟩; have n1_ : Aside0 (IsS106 w0 w9 g s0_0 s0_1 s0_2) := ⟨by rw [← hq_]; exact (by repeat (first | (with_reducible first | exact HI0.out | apply IsS106.alloc | apply IsS106.drewN | apply IsS106.drew | apply IsS106.set_1 | apply IsS106.set_2 | refine IsS106.far ?_ NB0_219.out _) | exact HI0.out))⟩; have n2_ : Aside0 (KeepBut w w9 g none) := ⟨by rw [← hq_]; exact (by repeat (first | (with_reducible first | exact HK.out | apply KeepBut.set_ | apply keep_drewN | apply keep_drew | apply keep_alloc | refine keep_far ?_ GW219.out _) | exact HK.out))⟩; have n3_ : Aside0 (Below w0.heap.size w0 w9) := ⟨by rw [← hq_]; exact (by repeat (first | (with_reducible first | exact HB.out | apply below_alloc | apply pw_below_drewN | apply below_drew1 | refine below_set ?_ (IsS106.ge HI0.out) | refine below_set ?_ GE219.out) | exact HB.out))⟩; clear BK219 HI0 HK HB hq_; have BK219 := n0_; have HI0 := n1_; have HK := n2_; have HB := n3_; clear n0_ n1_ n2_ n3_))) | ((with_reducible refine gate_callee (f := 122) rfl ?_); refine gl 11 Tryz.func122 #[.int .i64 a1] ?_; (with_reducible refine (spec_l04Mats.calls _ _ _ _ A5.out).mono ?_); rintro e w10 ⟨v222, rfl, ho0, hb⟩; refine ⟨_, rfl, ?_⟩; have HO223 := asd (Kd.R_lower (Kd.R_newB ho0 (g := gb219) (o := .cells #[.int .i64 0, .int .i64 0, .int .i64 0, .int .i64 0] 25 (0, 0)) (bkp BK219)) (keep_size (w := w) (g := g) (row := none) (by repeat (first | (with_reducible first | exact HK.out | apply KeepBut.set_ | apply keep_drewN | apply keep_drew | apply keep_alloc | refine keep_far ?_ GW219.out _) | exact HK.out)))); replace BK219 := bB BK219 hb; replace HK := asd (KeepBut.trans (by repeat (first | (with_reducible first | exact HK.out | apply KeepBut.set_ | apply keep_drewN | apply keep_drew | apply keep_alloc | refine keep_far ?_ GW219.out _) | exact HK.out)) (KeepBut.of_below hb g none) (.inl rfl)); replace HB := asd (below_step (by repeat (first | (with_reducible first | exact HB.out | apply below_alloc | apply pw_below_drewN | apply below_drew1 | refine below_set ?_ (IsS106.ge HI0.out) | refine below_set ?_ GE219.out) | exact HB.out)) hb); replace HI0 := asd (IsS106.below (by repeat (first | (with_reducible first | exact HI0.out | apply IsS106.alloc | apply IsS106.drewN | apply IsS106.drew | apply IsS106.set_1 | apply IsS106.set_2 | refine IsS106.far ?_ NB0_219.out _) | exact HI0.out)) hb); (try clear hb); (try clear hb2); (try clear hk); (try clear hi); (try clear ho0); obtain ⟨Ao11, co11, eo11⟩ := Kd.R_slice HO223.out; subst eo11) | ((with_reducible refine gate_callee (f := 45) rfl ?_); refine gl 16 Tryz.func45 #[.pointer (some ⟨g, 0, none⟩), .int .i64 (t221.length : Int)] ?_; (with_reducible refine (spec_l01Next.calls _ _ _ _ _ _ _ _ w0 _ ?side1 ?side2 A6.out).mono ?_); (case side1 => repeat (first | (with_reducible first | exact HI0.out | apply IsS106.alloc | apply IsS106.drewN | apply IsS106.drew | apply IsS106.set_1 | apply IsS106.set_2 | refine IsS106.far ?_ NB0_219.out _) | exact HI0.out)); (case side2 => repeat (first | (with_reducible first | exact HB.out | apply below_alloc | apply pw_below_drewN | apply below_drew1 | refine below_set ?_ (IsS106.ge HI0.out) | refine below_set ?_ GE219.out) | exact HB.out)); rintro e w12 ⟨rfl, hi, hb, hk⟩; refine ⟨_, rfl, ?_⟩; replace BK219 := asd (KeepBut.blk hk (g' := gb219) (o := .cells #[.int .i64 0, .int .i64 0, .int .i64 0, .int .i64 0] 25 (0, 0)) (bkp BK219) NB219_0.out (by simp)); replace HO223 := asd (Kd.R_mono (Kd.R_keep (IsS106.apart (show IsS106 w0 _ g s0_0 s0_1 s0_2 from by repeat (first | (with_reducible first | exact HI0.out | apply IsS106.alloc | apply IsS106.drewN | apply IsS106.drew | apply IsS106.set_1 | apply IsS106.set_2 | refine IsS106.far ?_ NB0_219.out _) | exact HI0.out)) (kr HO223) (by decide)) hk (fun _ h => h.2)) (fun _ h => h.1)); replace HK := asd (KeepBut.trans (by repeat (first | (with_reducible first | exact HK.out | apply KeepBut.set_ | apply keep_drewN | apply keep_drew | apply keep_alloc | refine keep_far ?_ GW219.out _) | exact HK.out)) hk (.inl rfl)); replace HB := asd (hb); replace HI0 := asd (hi); (try clear hb); (try clear hb2); (try clear hk); (try clear hi); have p227 : 0 ≤ (t224 : Int) := od; have q227 : t224 < (t221.length : Int) := od; obtain ⟨ad227, e227, hx227_0, hx227_1, hx227_2, hx227_3⟩ := at_T25 (Kd.R_reads' HO223.out).2.2 t224 p227 q227; cases e227; replace p227 := eq_true p227; replace q227 := eq_true q227; have hnb13 := NB219_0.out; have hnc13 := NB0_219.out; obtain ⟨hcz14_0, hcz14_1, hcz14_2, hcz14_3, hfz14_0, hfz14_1, hfz14_2, hfz14_3⟩ := bz4 BK219) | ((with_reducible refine gate_callee (f := 81) rfl ?_); refine gl 9 Tryz.func81 #[] ?_; (with_reducible refine (spec_l02Unit.calls _ _ _ _ _ A15.out).mono ?_); rintro e w17 ⟨rfl, hb⟩; refine ⟨_, rfl, ?_⟩; replace BK219 := bB BK219 hb; replace HK := asd (KeepBut.trans (by repeat (first | (with_reducible first | exact HK.out | apply KeepBut.set_ | apply keep_drewN | apply keep_drew | apply keep_alloc | refine keep_far ?_ GW219.out _) | exact HK.out)) (KeepBut.of_below hb g none) (.inl rfl)); replace HB := asd (below_step (by repeat (first | (with_reducible first | exact HB.out | apply below_alloc | apply pw_below_drewN | apply below_drew1 | refine below_set ?_ (IsS106.ge HI0.out) | refine below_set ?_ GE219.out) | exact HB.out)) hb); replace HI0 := asd (IsS106.below (by repeat (first | (with_reducible first | exact HI0.out | apply IsS106.alloc | apply IsS106.drewN | apply IsS106.drew | apply IsS106.set_1 | apply IsS106.set_2 | refine IsS106.far ?_ NB0_219.out _) | exact HI0.out)) hb); (try clear hb); have hnb18 := NB219_0.out; have hnc18 := NB0_219.out; obtain ⟨hcz19_0, hcz19_1, hcz19_2, hcz19_3, hfz19_0, hfz19_1, hfz19_2, hfz19_3⟩ := bz4 BK219))
 refine bodyPost_ret (results_cell_row rfl _ _ gb219 25 #[.int .i64 ((rd_T25 t221 t224).f0), .int .i64 ((rd_T25 t221 t224).f1), .int .i64 ((rd_T25 t221 t224).f2), .int .i64 ((rd_T25 t221 t224).f3)] (0, 0) _ rfl (bq0 BK219) Tryz.underlying25 rfl (by kernel_rfl)) rfl ?_
 rotate_left
 refine bodyPost_ret (results_cell_row rfl _ _ gb219 25 #[.int .i64 t228, .int .i64 t229, .int .i64 t230, .int .i64 t231] (0, 0) _ rfl (bq0 BK219) Tryz.underlying25 rfl (by kernel_rfl)) rfl ?_
 rotate_left
 all_goals
  exact ⟨by first | rfl | (simp [errW_none, errW_some] <;> rfl) | (simp [*, errW_none, errW_some] <;> rfl), by repeat (first | (with_reducible first | exact HI0.out | apply IsS106.alloc | apply IsS106.drewN | apply IsS106.drew | apply IsS106.set_1 | apply IsS106.set_2 | refine IsS106.far ?_ NB0_219.out _) | exact HI0.out), by repeat (first | (with_reducible first | exact HB.out | apply below_alloc | apply pw_below_drewN | apply below_drew1 | refine below_set ?_ (IsS106.ge HI0.out) | refine below_set ?_ GE219.out) | exact HB.out), by repeat (first | (with_reducible first | exact HK.out | apply KeepBut.set_ | apply keep_drewN | apply keep_drew | apply keep_alloc | refine keep_far ?_ GW219.out _) | exact HK.out)⟩
/-! ### spec_l01Draw: function 83 -/
def spec_l01Draw.f (s0_0 : List Int) (s0_1 : Int) (s0_2 : Int) : Option (Int × Int × Int × Int) := (spec_l01Next.f s0_0 s0_1 s0_2 40).bind fun bt233 => (if bt233.1 = 0 then ((spec_l01Pick.f s0_0 bt233.2.1 bt233.2.2 (([(-1000), 1000, 1001, 0] : List Int))).bind fun bt239 => ((spec_l01Pick.f s0_0 bt239.2.1 bt239.2.2 (([(-1001), 1000, 0] : List Int))).bind fun bt245 => (some (bt239.1, bt245.1, bt245.2.1, bt245.2.2)))) else ((spec_l01Pick.f s0_0 bt233.2.1 bt233.2.2 (([4, 9, 30] : List Int))).bind fun bt251 => ((spec_l01Next.f s0_0 bt251.2.1 bt251.2.2 (wrap64 ((wrap64 (2 * bt251.1)) + 1))).bind fun bt254 => ((spec_l01Next.f s0_0 bt254.2.1 bt254.2.2 (wrap64 ((wrap64 (2 * bt251.1)) + 1))).bind fun bt257 => (some (wrap64 (bt254.1 - bt251.1), wrap64 (bt257.1 - bt251.1), bt257.2.1, bt257.2.2))))))
set_option maxHeartbeats 8000000 in
set_option maxRecDepth 100000 in
theorem spec_l01Draw.calls (g : Nat) (s0_0 : List Int) (s0_1 : Int) (s0_2 : Int) (r1 : Int) (r2 : Int) (r3 : Int) (r4 : Int) (w0 w : World) (hI : IsS106 w0 w g s0_0 s0_1 s0_2) (hB : Below w0.heap.size w0 w) (h : spec_l01Draw.f s0_0 s0_1 s0_2 = some (r1, r2, r3, r4)) :
  Calls Tryz.prog 83 #[.pointer (some ⟨g, 0, none⟩)] w fun e w' => e = .returned (.agg #[.int .i64 r1, .int .i64 r2]) ∧ IsS106 w0 w' g s0_0 r3 r4 ∧ Below w0.heap.size w0 w' ∧ KeepBut w w' g none := by
 have hu27 := Tryz.underlying27
 have HI0 := Aside0.mk hI
 have HK := asd (KeepBut.refl w g none)
 have HL := Aside0.mk hB.size
 clear hI
 have HW0 := Aside0.mk hB.size
 have HB := Aside0.mk hB
 clear hB
 have H : ((spec_l01Next.f s0_0 s0_1 s0_2 40).bind fun bt233 => (if bt233.1 = 0 then ((spec_l01Pick.f s0_0 bt233.2.1 bt233.2.2 (([(-1000), 1000, 1001, 0] : List Int))).bind fun bt239 => ((spec_l01Pick.f s0_0 bt239.2.1 bt239.2.2 (([(-1001), 1000, 0] : List Int))).bind fun bt245 => (some (bt239.1, bt245.1, bt245.2.1, bt245.2.2)))) else ((spec_l01Pick.f s0_0 bt233.2.1 bt233.2.2 (([4, 9, 30] : List Int))).bind fun bt251 => ((spec_l01Next.f s0_0 bt251.2.1 bt251.2.2 (wrap64 ((wrap64 (2 * bt251.1)) + 1))).bind fun bt254 => ((spec_l01Next.f s0_0 bt254.2.1 bt254.2.2 (wrap64 ((wrap64 (2 * bt251.1)) + 1))).bind fun bt257 => (some (wrap64 (bt254.1 - bt251.1), wrap64 (bt257.1 - bt251.1), bt257.2.1, bt257.2.2))))))) = some (r1, r2, r3, r4) := h
 clear h
 obtain ⟨⟨t233, t234, t235⟩, A2, H⟩ := ob H
 try dsimp only at H
 by_cases c3 : t233 = 0
 rw [if_pos c3] at H
 have c3b0 : (t233 == 0) = true := beq_iff_eq.mpr c3
 have c3b1 : (t233 != 0) = false := bne_eq_false_iff_eq.mpr c3
 clear c3
 obtain ⟨y236, hy236⟩ : ∃ y_ : List Int, y_ = (([(-1000), 1000, 1001, 0] : List Int)) := ⟨_, rfl⟩
 replace H : ((spec_l01Pick.f s0_0 t234 t235 y236).bind fun bt239 => ((spec_l01Pick.f s0_0 bt239.2.1 bt239.2.2 (([(-1001), 1000, 0] : List Int))).bind fun bt245 => (some (bt239.1, bt245.1, bt245.2.1, bt245.2.2)))) = some (r1, r2, r3, r4) := by first | (rw [hy236]; with_reducible exact H) | (have H2_ := (Option.bind_some _ _).symm.trans H; rw [hy236]; with_reducible exact H2_) | (have H2_ := (Option.bind_some _ _).symm.trans H; with_reducible exact H2_) | with_reducible exact H | (rw [hy236]; exact H) | exact H
 have Ny236 := Aside0.mk hy236
 clear hy236
 obtain ⟨⟨t239, t240, t241⟩, A4, H⟩ := ob H
 try dsimp only at H
 obtain ⟨y242, hy242⟩ : ∃ y_ : List Int, y_ = (([(-1001), 1000, 0] : List Int)) := ⟨_, rfl⟩
 replace H : ((spec_l01Pick.f s0_0 t240 t241 y242).bind fun bt245 => (some (t239, bt245.1, bt245.2.1, bt245.2.2))) = some (r1, r2, r3, r4) := by first | (rw [hy242]; with_reducible exact H) | (have H2_ := (Option.bind_some _ _).symm.trans H; rw [hy242]; with_reducible exact H2_) | (have H2_ := (Option.bind_some _ _).symm.trans H; with_reducible exact H2_) | with_reducible exact H | (rw [hy242]; exact H) | exact H
 have Ny242 := Aside0.mk hy242
 clear hy242
 obtain ⟨⟨t245, t246, t247⟩, A5, H⟩ := ob H
 try dsimp only at H
 rotate_left
 rw [if_neg c3] at H
 have c3b0 : (t233 == 0) = false := beq_eq_false_iff_ne.mpr c3
 have c3b1 : (t233 != 0) = true := bne_iff_ne.mpr c3
 obtain ⟨y248, hy248⟩ : ∃ y_ : List Int, y_ = (([4, 9, 30] : List Int)) := ⟨_, rfl⟩
 replace H : ((spec_l01Pick.f s0_0 t234 t235 y248).bind fun bt251 => ((spec_l01Next.f s0_0 bt251.2.1 bt251.2.2 (wrap64 ((wrap64 (2 * bt251.1)) + 1))).bind fun bt254 => ((spec_l01Next.f s0_0 bt254.2.1 bt254.2.2 (wrap64 ((wrap64 (2 * bt251.1)) + 1))).bind fun bt257 => (some (wrap64 (bt254.1 - bt251.1), wrap64 (bt257.1 - bt251.1), bt257.2.1, bt257.2.2))))) = some (r1, r2, r3, r4) := by first | (rw [hy248]; with_reducible exact H) | (have H2_ := (Option.bind_some _ _).symm.trans H; rw [hy248]; with_reducible exact H2_) | (have H2_ := (Option.bind_some _ _).symm.trans H; with_reducible exact H2_) | with_reducible exact H | (rw [hy248]; exact H) | exact H
 have Ny248 := Aside0.mk hy248
 clear hy248
 obtain ⟨⟨t251, t252, t253⟩, A18, H⟩ := ob H
 try dsimp only at H
 obtain ⟨⟨t254, t255, t256⟩, A19, H⟩ := ob H
 try dsimp only at H
 obtain ⟨⟨t257, t258, t259⟩, A20, H⟩ := ob H
 try dsimp only at H
 rotate_left
 all_goals
  simp only [Option.some.injEq, Prod.mk.injEq] at H
  obtain ⟨rfl, rfl, rfl, rfl⟩ := H
  go_enter Tryz.func83, Tryz.ntmps83
  go_wp2_with (first | ((with_reducible refine gd 2 rfl ?_); refine bx #[.int .i64 0, .int .i64 0] 27 ?_; intro gb232 hg w6 BK232 hb; replace HB := asd (below_step (by repeat (first | (with_reducible first | exact HB.out | apply below_alloc | apply pw_below_drewN | apply below_drew1 | refine below_set ?_ (IsS106.ge HI0.out)) | exact HB.out)) hb); have GW232 := asd ((by rw [hg]; exact (keep_size (w := w) (g := g) (row := none) (by repeat (first | (with_reducible first | exact HK.out | apply KeepBut.set_ | apply keep_drewN | apply keep_drew | apply keep_alloc) | exact HK.out))) : w.heap.size ≤ gb232)); have GE232 := asd ((Nat.le_trans HW0.out (by rw [hg]; exact (keep_size (w := w) (g := g) (row := none) (by repeat (first | (with_reducible first | exact HK.out | apply KeepBut.set_ | apply keep_drewN | apply keep_drew | apply keep_alloc) | exact HK.out))) : w.heap.size ≤ gb232) : w0.heap.size ≤ gb232)); replace HK := asd (KeepBut.trans (by repeat (first | (with_reducible first | exact HK.out | apply KeepBut.set_ | apply keep_drewN | apply keep_drew | apply keep_alloc) | exact HK.out)) (KeepBut.of_below hb g none) (.inl rfl)); have NB0_232 := asd ((by rw [hg]; exact Nat.ne_of_lt (IsS106.lt (show IsS106 w0 _ g s0_0 s0_1 s0_2 from by repeat (first | (with_reducible first | exact HI0.out | apply IsS106.alloc | apply IsS106.drewN | apply IsS106.drew | apply IsS106.set_1 | apply IsS106.set_2) | exact HI0.out))) : g ≠ gb232)); have NB232_0 := asd ((by rw [hg]; exact Nat.ne_of_gt (IsS106.lt (show IsS106 w0 _ g s0_0 s0_1 s0_2 from by repeat (first | (with_reducible first | exact HI0.out | apply IsS106.alloc | apply IsS106.drewN | apply IsS106.drew | apply IsS106.set_1 | apply IsS106.set_2) | exact HI0.out))) : gb232 ≠ g)); replace HI0 := asd (IsS106.below (by repeat (first | (with_reducible first | exact HI0.out | apply IsS106.alloc | apply IsS106.drewN | apply IsS106.drew | apply IsS106.set_1 | apply IsS106.set_2) | exact HI0.out)) hb); clear hb hg) | ((with_reducible refine gate_callee (f := 45) rfl ?_); refine gl 5 Tryz.func45 #[.pointer (some ⟨g, 0, none⟩), .int .i64 40] ?_; (with_reducible refine (spec_l01Next.calls _ _ _ _ _ _ _ _ w0 _ ?side1 ?side2 A2.out).mono ?_); (case side1 => repeat (first | (with_reducible first | exact HI0.out | apply IsS106.alloc | apply IsS106.drewN | apply IsS106.drew | apply IsS106.set_1 | apply IsS106.set_2 | refine IsS106.far ?_ NB0_232.out _) | exact HI0.out)); (case side2 => repeat (first | (with_reducible first | exact HB.out | apply below_alloc | apply pw_below_drewN | apply below_drew1 | refine below_set ?_ (IsS106.ge HI0.out) | refine below_set ?_ GE232.out) | exact HB.out)); rintro e w7 ⟨rfl, hi, hb, hk⟩; refine ⟨_, rfl, ?_⟩; replace BK232 := asd (KeepBut.blk hk (g' := gb232) (o := .cells #[.int .i64 0, .int .i64 0] 27 (0, 0)) (bkp BK232) NB232_0.out (by simp)); replace HK := asd (KeepBut.trans (by repeat (first | (with_reducible first | exact HK.out | apply KeepBut.set_ | apply keep_drewN | apply keep_drew | apply keep_alloc | refine keep_far ?_ GW232.out _) | exact HK.out)) hk (.inl rfl)); replace HB := asd (hb); replace HI0 := asd (hi); (try clear hb); (try clear hb2); (try clear hk); (try clear hi)) | ((with_reducible refine gd 8 rfl ?_); refine Kd.R_lit (Kd.int .i64) _ 2 ?hg (N := 8) ?hd (xs := ([(-1000), 1000, 1001, 0] : List Int)) (inner := [.int .i64 (-1000), .int .i64 1000, .int .i64 1001, .int .i64 0]) (ok := fun _ => True) (okp := fun _ => True) ?hr ?hp (fun _ hk => hk) trivial (Below.refl _ _) (Nat.le_refl _) (by simp) ?_; (case hd => rfl); (case hg => rfl); (case hr => first | (go_simp; done) | (go_simp; rfl)); (case hp => exact (Reps.one (show Kd.M (Kd.int .i64) _ _ _ (-1000) [.int .i64 (-1000)] from rfl) (Reps.one (show Kd.M (Kd.int .i64) _ _ _ 1000 [.int .i64 1000] from rfl) (Reps.one (show Kd.M (Kd.int .i64) _ _ _ 1001 [.int .i64 1001] from rfl) (Reps.one (show Kd.M (Kd.int .i64) _ _ _ 0 [.int .i64 0] from rfl) (Reps.none _ _)))))); intro v237 w8 ho9 hb hg_ hnew_; clear hg_ hnew_; (first | rw [← Ny236.out] at ho9 | (simp only [Int.reduceToNat] at ho9; rw [← Ny236.out] at ho9)); have HO238 := asd (Kd.R_lower ho9 (keep_size (w := w) (g := g) (row := none) (by repeat (first | (with_reducible first | exact HK.out | apply KeepBut.set_ | apply keep_drewN | apply keep_drew | apply keep_alloc | refine keep_far ?_ GW232.out _) | exact HK.out)))); replace BK232 := bB BK232 hb; replace HK := asd (KeepBut.trans (by repeat (first | (with_reducible first | exact HK.out | apply KeepBut.set_ | apply keep_drewN | apply keep_drew | apply keep_alloc | refine keep_far ?_ GW232.out _) | exact HK.out)) (KeepBut.of_below hb g none) (.inl rfl)); replace HB := asd (below_step (by repeat (first | (with_reducible first | exact HB.out | apply below_alloc | apply pw_below_drewN | apply below_drew1 | refine below_set ?_ (IsS106.ge HI0.out) | refine below_set ?_ GE232.out) | exact HB.out)) hb); replace HI0 := asd (IsS106.below (by repeat (first | (with_reducible first | exact HI0.out | apply IsS106.alloc | apply IsS106.drewN | apply IsS106.drew | apply IsS106.set_1 | apply IsS106.set_2 | refine IsS106.far ?_ NB0_232.out _) | exact HI0.out)) hb); clear hb ho9; obtain ⟨Ao10, co10, eo10⟩ := Kd.R_slice HO238.out; subst eo10) | ((with_reducible refine gate_callee (f := 95) rfl ?_); refine gl 9 Tryz.func95 #[.pointer (some ⟨g, 0, none⟩), .slice Ao10 y236.length co10] ?_; (with_reducible refine (spec_l01Pick.calls _ _ _ _ _ _ _ _ _ _ w0 _ ?side1 ?side2 ?side3 ?side4 ?side5 A4.out).mono ?_); (case side1 => repeat (first | (with_reducible first | exact HI0.out | apply IsS106.alloc | apply IsS106.drewN | apply IsS106.drew | apply IsS106.set_1 | apply IsS106.set_2 | refine IsS106.far ?_ NB0_232.out _) | exact HI0.out)); (case side2 => repeat (first | (with_reducible first | exact HB.out | apply below_alloc | apply pw_below_drewN | apply below_drew1 | refine below_set ?_ (IsS106.ge HI0.out) | refine below_set ?_ GE232.out) | exact HB.out)); (case side3 => exact ks (Kd.R_reads' HO238.out).2.2); (case side4 => exact (Kd.R_reads' HO238.out).2.1); (case side5 => exact far_slice (IsS106.own_ne HI0.out HO238.out (by decide))); rintro e w11 ⟨rfl, hi, hb, hk⟩; refine ⟨_, rfl, ?_⟩; replace BK232 := asd (KeepBut.blk hk (g' := gb232) (o := .cells #[.int .i64 0, .int .i64 0] 27 (0, 0)) (bkp BK232) NB232_0.out (by simp)); replace HO238 := asd (Kd.R_mono (Kd.R_keep (IsS106.apart (show IsS106 w0 _ g s0_0 t234 t235 from by repeat (first | (with_reducible first | exact HI0.out | apply IsS106.alloc | apply IsS106.drewN | apply IsS106.drew | apply IsS106.set_1 | apply IsS106.set_2 | refine IsS106.far ?_ NB0_232.out _) | exact HI0.out)) (kr HO238) (by decide)) hk (fun _ h => h.2)) (fun _ h => h.1)); replace HK := asd (KeepBut.trans (by repeat (first | (with_reducible first | exact HK.out | apply KeepBut.set_ | apply keep_drewN | apply keep_drew | apply keep_alloc | refine keep_far ?_ GW232.out _) | exact HK.out)) hk (.inl rfl)); replace HB := asd (hb); replace HI0 := asd (hi); (try clear hb); (try clear hb2); (try clear hk); (try clear hi)) | ((with_reducible refine gd 11 rfl ?_); refine Kd.R_lit (Kd.int .i64) _ 2 ?hg (N := 11) ?hd (xs := ([(-1001), 1000, 0] : List Int)) (inner := [.int .i64 (-1001), .int .i64 1000, .int .i64 0]) (ok := fun _ => True) (okp := fun _ => True) ?hr ?hp (fun _ hk => hk) trivial (Below.refl _ _) (Nat.le_refl _) (by simp) ?_; (case hd => rfl); (case hg => rfl); (case hr => first | (go_simp; done) | (go_simp; rfl)); (case hp => exact (Reps.one (show Kd.M (Kd.int .i64) _ _ _ (-1001) [.int .i64 (-1001)] from rfl) (Reps.one (show Kd.M (Kd.int .i64) _ _ _ 1000 [.int .i64 1000] from rfl) (Reps.one (show Kd.M (Kd.int .i64) _ _ _ 0 [.int .i64 0] from rfl) (Reps.none _ _))))); intro v243 w12 ho13 hb hg_ hnew_; clear hg_ hnew_; (first | rw [← Ny242.out] at ho13 | (simp only [Int.reduceToNat] at ho13; rw [← Ny242.out] at ho13)); have HO244 := asd (Kd.R_lower (Kd.R_new' ho13 (Kd.R_lt (kr HO238))) (keep_size (w := w) (g := g) (row := none) (by repeat (first | (with_reducible first | exact HK.out | apply KeepBut.set_ | apply keep_drewN | apply keep_drew | apply keep_alloc | refine keep_far ?_ GW232.out _) | exact HK.out)))); replace HO238 := asd (Kd.R_elder' (kr HO238) (Kd.R_base ho13) hb); replace BK232 := bB BK232 hb; replace HK := asd (KeepBut.trans (by repeat (first | (with_reducible first | exact HK.out | apply KeepBut.set_ | apply keep_drewN | apply keep_drew | apply keep_alloc | refine keep_far ?_ GW232.out _) | exact HK.out)) (KeepBut.of_below hb g none) (.inl rfl)); replace HB := asd (below_step (by repeat (first | (with_reducible first | exact HB.out | apply below_alloc | apply pw_below_drewN | apply below_drew1 | refine below_set ?_ (IsS106.ge HI0.out) | refine below_set ?_ GE232.out) | exact HB.out)) hb); replace HI0 := asd (IsS106.below (by repeat (first | (with_reducible first | exact HI0.out | apply IsS106.alloc | apply IsS106.drewN | apply IsS106.drew | apply IsS106.set_1 | apply IsS106.set_2 | refine IsS106.far ?_ NB0_232.out _) | exact HI0.out)) hb); clear hb ho13; obtain ⟨Ao14, co14, eo14⟩ := Kd.R_slice HO244.out; subst eo14) | ((with_reducible refine gate_callee (f := 95) rfl ?_); refine gl 12 Tryz.func95 #[.pointer (some ⟨g, 0, none⟩), .slice Ao14 y242.length co14] ?_; (with_reducible refine (spec_l01Pick.calls _ _ _ _ _ _ _ _ _ _ w0 _ ?side1 ?side2 ?side3 ?side4 ?side5 A5.out).mono ?_); (case side1 => repeat (first | (with_reducible first | exact HI0.out | apply IsS106.alloc | apply IsS106.drewN | apply IsS106.drew | apply IsS106.set_1 | apply IsS106.set_2 | refine IsS106.far ?_ NB0_232.out _) | exact HI0.out)); (case side2 => repeat (first | (with_reducible first | exact HB.out | apply below_alloc | apply pw_below_drewN | apply below_drew1 | refine below_set ?_ (IsS106.ge HI0.out) | refine below_set ?_ GE232.out) | exact HB.out)); (case side3 => exact ks (Kd.R_reads' HO244.out).2.2); (case side4 => exact (Kd.R_reads' HO244.out).2.1); (case side5 => exact far_slice (IsS106.own_ne HI0.out HO244.out (by decide))); rintro e w15 ⟨rfl, hi, hb, hk⟩; refine ⟨_, rfl, ?_⟩; replace BK232 := asd (KeepBut.blk hk (g' := gb232) (o := .cells #[.int .i64 0, .int .i64 0] 27 (0, 0)) (bkp BK232) NB232_0.out (by simp)); replace HO238 := asd (Kd.R_mono (Kd.R_keep (IsS106.apart (show IsS106 w0 _ g s0_0 t240 t241 from by repeat (first | (with_reducible first | exact HI0.out | apply IsS106.alloc | apply IsS106.drewN | apply IsS106.drew | apply IsS106.set_1 | apply IsS106.set_2 | refine IsS106.far ?_ NB0_232.out _) | exact HI0.out)) (kr HO238) (by decide)) hk (fun _ h => h.2)) (fun _ h => h.1)); replace HO244 := asd (Kd.R_mono (Kd.R_keep (IsS106.apart (show IsS106 w0 _ g s0_0 t240 t241 from by repeat (first | (with_reducible first | exact HI0.out | apply IsS106.alloc | apply IsS106.drewN | apply IsS106.drew | apply IsS106.set_1 | apply IsS106.set_2 | refine IsS106.far ?_ NB0_232.out _) | exact HI0.out)) (kr HO244) (by decide)) hk (fun _ h => h.2)) (fun _ h => h.1)); replace HK := asd (KeepBut.trans (by repeat (first | (with_reducible first | exact HK.out | apply KeepBut.set_ | apply keep_drewN | apply keep_drew | apply keep_alloc | refine keep_far ?_ GW232.out _) | exact HK.out)) hk (.inl rfl)); replace HB := asd (hb); replace HI0 := asd (hi); (try clear hb); (try clear hb2); (try clear hk); (try clear hi); have hnb16 := NB232_0.out; have hnc16 := NB0_232.out; obtain ⟨hcz17_0, hcz17_1, hfz17_0, hfz17_1⟩ := bz2 BK232) | ((with_reducible refine gd 15 rfl ?_); refine Kd.R_lit (Kd.int .i64) _ 2 ?hg (N := 15) ?hd (xs := ([4, 9, 30] : List Int)) (inner := [.int .i64 4, .int .i64 9, .int .i64 30]) (ok := fun _ => True) (okp := fun _ => True) ?hr ?hp (fun _ hk => hk) trivial (Below.refl _ _) (Nat.le_refl _) (by simp) ?_; (case hd => rfl); (case hg => rfl); (case hr => first | (go_simp; done) | (go_simp; rfl)); (case hp => exact (Reps.one (show Kd.M (Kd.int .i64) _ _ _ 4 [.int .i64 4] from rfl) (Reps.one (show Kd.M (Kd.int .i64) _ _ _ 9 [.int .i64 9] from rfl) (Reps.one (show Kd.M (Kd.int .i64) _ _ _ 30 [.int .i64 30] from rfl) (Reps.none _ _))))); intro v249 w23 ho24 hb hg_ hnew_; clear hg_ hnew_; (first | rw [← Ny248.out] at ho24 | (simp only [Int.reduceToNat] at ho24; rw [← Ny248.out] at ho24)); have HO250 := asd (Kd.R_lower ho24 (keep_size (w := w) (g := g) (row := none) (by repeat (first | (with_reducible first | exact HK.out | apply KeepBut.set_ | apply keep_drewN | apply keep_drew | apply keep_alloc | refine keep_far ?_ GW232.out _) | exact HK.out)))); replace BK232 := bB BK232 hb; replace HK := asd (KeepBut.trans (by repeat (first | (with_reducible first | exact HK.out | apply KeepBut.set_ | apply keep_drewN | apply keep_drew | apply keep_alloc | refine keep_far ?_ GW232.out _) | exact HK.out)) (KeepBut.of_below hb g none) (.inl rfl)); replace HB := asd (below_step (by repeat (first | (with_reducible first | exact HB.out | apply below_alloc | apply pw_below_drewN | apply below_drew1 | refine below_set ?_ (IsS106.ge HI0.out) | refine below_set ?_ GE232.out) | exact HB.out)) hb); replace HI0 := asd (IsS106.below (by repeat (first | (with_reducible first | exact HI0.out | apply IsS106.alloc | apply IsS106.drewN | apply IsS106.drew | apply IsS106.set_1 | apply IsS106.set_2 | refine IsS106.far ?_ NB0_232.out _) | exact HI0.out)) hb); clear hb ho24; obtain ⟨Ao25, co25, eo25⟩ := Kd.R_slice HO250.out; subst eo25) | ((with_reducible refine gate_callee (f := 95) rfl ?_); refine gl 16 Tryz.func95 #[.pointer (some ⟨g, 0, none⟩), .slice Ao25 y248.length co25] ?_; (with_reducible refine (spec_l01Pick.calls _ _ _ _ _ _ _ _ _ _ w0 _ ?side1 ?side2 ?side3 ?side4 ?side5 A18.out).mono ?_); (case side1 => repeat (first | (with_reducible first | exact HI0.out | apply IsS106.alloc | apply IsS106.drewN | apply IsS106.drew | apply IsS106.set_1 | apply IsS106.set_2 | refine IsS106.far ?_ NB0_232.out _) | exact HI0.out)); (case side2 => repeat (first | (with_reducible first | exact HB.out | apply below_alloc | apply pw_below_drewN | apply below_drew1 | refine below_set ?_ (IsS106.ge HI0.out) | refine below_set ?_ GE232.out) | exact HB.out)); (case side3 => exact ks (Kd.R_reads' HO250.out).2.2); (case side4 => exact (Kd.R_reads' HO250.out).2.1); (case side5 => exact far_slice (IsS106.own_ne HI0.out HO250.out (by decide))); rintro e w26 ⟨rfl, hi, hb, hk⟩; refine ⟨_, rfl, ?_⟩; replace BK232 := asd (KeepBut.blk hk (g' := gb232) (o := .cells #[.int .i64 0, .int .i64 0] 27 (0, 0)) (bkp BK232) NB232_0.out (by simp)); replace HO250 := asd (Kd.R_mono (Kd.R_keep (IsS106.apart (show IsS106 w0 _ g s0_0 t234 t235 from by repeat (first | (with_reducible first | exact HI0.out | apply IsS106.alloc | apply IsS106.drewN | apply IsS106.drew | apply IsS106.set_1 | apply IsS106.set_2 | refine IsS106.far ?_ NB0_232.out _) | exact HI0.out)) (kr HO250) (by decide)) hk (fun _ h => h.2)) (fun _ h => h.1)); replace HK := asd (KeepBut.trans (by repeat (first | (with_reducible first | exact HK.out | apply KeepBut.set_ | apply keep_drewN | apply keep_drew | apply keep_alloc | refine keep_far ?_ GW232.out _) | exact HK.out)) hk (.inl rfl)); replace HB := asd (hb); replace HI0 := asd (hi); (try clear hb); (try clear hb2); (try clear hk); (try clear hi)) | ((with_reducible refine gate_callee (f := 45) rfl ?_); refine gl 21 Tryz.func45 #[.pointer (some ⟨g, 0, none⟩), .int .i64 (wrap64 ((wrap64 (2 * t251)) + 1))] ?_; (with_reducible refine (spec_l01Next.calls _ _ _ _ _ _ _ _ w0 _ ?side1 ?side2 A19.out).mono ?_); (case side1 => repeat (first | (with_reducible first | exact HI0.out | apply IsS106.alloc | apply IsS106.drewN | apply IsS106.drew | apply IsS106.set_1 | apply IsS106.set_2 | refine IsS106.far ?_ NB0_232.out _) | exact HI0.out)); (case side2 => repeat (first | (with_reducible first | exact HB.out | apply below_alloc | apply pw_below_drewN | apply below_drew1 | refine below_set ?_ (IsS106.ge HI0.out) | refine below_set ?_ GE232.out) | exact HB.out)); rintro e w27 ⟨rfl, hi, hb, hk⟩; refine ⟨_, rfl, ?_⟩; replace BK232 := asd (KeepBut.blk hk (g' := gb232) (o := .cells #[.int .i64 0, .int .i64 0] 27 (0, 0)) (bkp BK232) NB232_0.out (by simp)); replace HO250 := asd (Kd.R_mono (Kd.R_keep (IsS106.apart (show IsS106 w0 _ g s0_0 t252 t253 from by repeat (first | (with_reducible first | exact HI0.out | apply IsS106.alloc | apply IsS106.drewN | apply IsS106.drew | apply IsS106.set_1 | apply IsS106.set_2 | refine IsS106.far ?_ NB0_232.out _) | exact HI0.out)) (kr HO250) (by decide)) hk (fun _ h => h.2)) (fun _ h => h.1)); replace HK := asd (KeepBut.trans (by repeat (first | (with_reducible first | exact HK.out | apply KeepBut.set_ | apply keep_drewN | apply keep_drew | apply keep_alloc | refine keep_far ?_ GW232.out _) | exact HK.out)) hk (.inl rfl)); replace HB := asd (hb); replace HI0 := asd (hi); (try clear hb); (try clear hb2); (try clear hk); (try clear hi)) | ((with_reducible refine gate_callee (f := 45) rfl ?_); refine gl 28 Tryz.func45 #[.pointer (some ⟨g, 0, none⟩), .int .i64 (wrap64 ((wrap64 (2 * t251)) + 1))] ?_; (with_reducible refine (spec_l01Next.calls _ _ _ _ _ _ _ _ w0 _ ?side1 ?side2 A20.out).mono ?_); (case side1 => repeat (first | (with_reducible first | exact HI0.out | apply IsS106.alloc | apply IsS106.drewN | apply IsS106.drew | apply IsS106.set_1 | apply IsS106.set_2 | refine IsS106.far ?_ NB0_232.out _) | exact HI0.out)); (case side2 => repeat (first | (with_reducible first | exact HB.out | apply below_alloc | apply pw_below_drewN | apply below_drew1 | refine below_set ?_ (IsS106.ge HI0.out) | refine below_set ?_ GE232.out) | exact HB.out)); rintro e w28 ⟨rfl, hi, hb, hk⟩; refine ⟨_, rfl, ?_⟩; replace BK232 := asd (KeepBut.blk hk (g' := gb232) (o := .cells #[.int .i64 0, .int .i64 0] 27 (0, 0)) (bkp BK232) NB232_0.out (by simp)); replace HO250 := asd (Kd.R_mono (Kd.R_keep (IsS106.apart (show IsS106 w0 _ g s0_0 t255 t256 from by repeat (first | (with_reducible first | exact HI0.out | apply IsS106.alloc | apply IsS106.drewN | apply IsS106.drew | apply IsS106.set_1 | apply IsS106.set_2 | refine IsS106.far ?_ NB0_232.out _) | exact HI0.out)) (kr HO250) (by decide)) hk (fun _ h => h.2)) (fun _ h => h.1)); replace HK := asd (KeepBut.trans (by repeat (first | (with_reducible first | exact HK.out | apply KeepBut.set_ | apply keep_drewN | apply keep_drew | apply keep_alloc | refine keep_far ?_ GW232.out _) | exact HK.out)) hk (.inl rfl)); replace HB := asd (hb); replace HI0 := asd (hi); (try clear hb); (try clear hb2); (try clear hk); (try clear hi); have hnb29 := NB232_0.out; have hnc29 := NB0_232.out; obtain ⟨hcz30_0, hcz30_1, hfz30_0, hfz30_1⟩ := bz2 BK232))
 refine bodyPost_ret (results_cell_row rfl _ _ gb232 27 #[.int .i64 t239, .int .i64 t245] (0, 0) _ rfl (bq0 BK232) Tryz.underlying27 rfl (by kernel_rfl)) rfl ?_
 rotate_left
 refine bodyPost_ret (results_cell_row rfl _ _ gb232 27 #[.int .i64 (wrap64 (t254 - t251)), .int .i64 (wrap64 (t257 - t251))] (0, 0) _ rfl (bq0 BK232) Tryz.underlying27 rfl (by kernel_rfl)) rfl ?_
 rotate_left
 all_goals
  exact ⟨by first | rfl | (simp [errW_none, errW_some] <;> rfl) | (simp [*, errW_none, errW_some] <;> rfl), by repeat (first | (with_reducible first | exact HI0.out | apply IsS106.alloc | apply IsS106.drewN | apply IsS106.drew | apply IsS106.set_1 | apply IsS106.set_2 | refine IsS106.far ?_ NB0_232.out _) | exact HI0.out), by repeat (first | (with_reducible first | exact HB.out | apply below_alloc | apply pw_below_drewN | apply below_drew1 | refine below_set ?_ (IsS106.ge HI0.out) | refine below_set ?_ GE232.out) | exact HB.out), by repeat (first | (with_reducible first | exact HK.out | apply KeepBut.set_ | apply keep_drewN | apply keep_drew | apply keep_alloc | refine keep_far ?_ GW232.out _) | exact HK.out)⟩
/-! ### spec_l05Draw: function 32 -/
def spec_l05Draw.j0 : Nat → List Int → Int → Int → Int → Int → Int → Int → Option (Int × Int × Int × Int × Int × Int × Int × Int)
 | 0, _, _, _, _, _, _, _ => none
 | k + 1, x1000, x1001, x1002, x271000, x271001, x271002, x271003 => (spec_l01Next.f x1000 x1001 x1002 5).bind fun bt290 => (if bt290.1 = 0 then (some (x271000, x271001, x271002, x271003, 0, 0, bt290.2.1, bt290.2.2)) else ((spec_l01Draw.f x1000 bt290.2.1 bt290.2.2).bind fun bt293 => (some (x271000, x271001, x271002, x271003, bt293.1, bt293.2.1, bt293.2.2.1, bt293.2.2.2))))
def spec_l05Draw.f (k : Nat) (s0_0 : List Int) (s0_1 : Int) (s0_2 : Int) : Option (Int × Int × Int × Int × Int × Int × Int × Int) := (spec_l01Next.f s0_0 s0_1 s0_2 2).bind fun bt261 => ((spec_l04DrawMat.f k s0_0 bt261.2.1 bt261.2.2 bt261.1).bind fun bt264 => ((spec_l01Next.f s0_0 bt264.2.2.2.2.1 bt264.2.2.2.2.2 12).bind fun bt271 => (if bt271.1 = 0 then ((spec_l02Draw.f k s0_0 bt271.2.1 bt271.2.2).bind fun bt274 => (spec_l05Draw.j0 k s0_0 bt274.2.2.2.2.1 bt274.2.2.2.2.2 bt274.1 bt274.2.1 bt274.2.2.1 bt274.2.2.2.1)) else (if bt271.1 = 1 then ((spec_l02Unit.f).bind fun bt280 => (spec_l05Draw.j0 k s0_0 bt271.2.1 bt271.2.2 bt280.1 bt280.2.1 bt280.2.2.1 bt280.2.2.2)) else (if bt271.1 = 2 then ((spec_l02DrawFinite.f k s0_0 bt271.2.1 bt271.2.2).bind fun bt284 => (spec_l05Draw.j0 k s0_0 bt284.2.2.2.2.1 bt284.2.2.2.2.2 bt284.1 bt284.2.1 bt284.2.2.1 bt284.2.2.2.1)) else (spec_l05Draw.j0 k s0_0 bt271.2.1 bt271.2.2 bt264.1 bt264.2.1 bt264.2.2.1 bt264.2.2.2.1))))))
set_option maxHeartbeats 8000000 in
set_option maxRecDepth 100000 in
theorem spec_l05Draw.calls (k : Nat) (g : Nat) (s0_0 : List Int) (s0_1 : Int) (s0_2 : Int) (r1 : Int) (r2 : Int) (r3 : Int) (r4 : Int) (r5 : Int) (r6 : Int) (r7 : Int) (r8 : Int) (w0 w : World) (hI : IsS106 w0 w g s0_0 s0_1 s0_2) (hB : Below w0.heap.size w0 w) (h : spec_l05Draw.f k s0_0 s0_1 s0_2 = some (r1, r2, r3, r4, r5, r6, r7, r8)) :
  Calls Tryz.prog 32 #[.pointer (some ⟨g, 0, none⟩)] w fun e w' => e = .returned (.agg #[.int .i64 r1, .int .i64 r2, .int .i64 r3, .int .i64 r4, .int .i64 r5, .int .i64 r6]) ∧ IsS106 w0 w' g s0_0 r7 r8 ∧ Below w0.heap.size w0 w' ∧ KeepBut w w' g none := by
 have hu29 := Tryz.underlying29
 have hu25 := Tryz.underlying25
 have HI0 := Aside0.mk hI
 have HK := asd (KeepBut.refl w g none)
 have HL := Aside0.mk hB.size
 clear hI
 have HW0 := Aside0.mk hB.size
 have HB := Aside0.mk hB
 clear hB
 have H : ((spec_l01Next.f s0_0 s0_1 s0_2 2).bind fun bt261 => ((spec_l04DrawMat.f k s0_0 bt261.2.1 bt261.2.2 bt261.1).bind fun bt264 => ((spec_l01Next.f s0_0 bt264.2.2.2.2.1 bt264.2.2.2.2.2 12).bind fun bt271 => (if bt271.1 = 0 then ((spec_l02Draw.f k s0_0 bt271.2.1 bt271.2.2).bind fun bt274 => (spec_l05Draw.j0 k s0_0 bt274.2.2.2.2.1 bt274.2.2.2.2.2 bt274.1 bt274.2.1 bt274.2.2.1 bt274.2.2.2.1)) else (if bt271.1 = 1 then ((spec_l02Unit.f).bind fun bt280 => (spec_l05Draw.j0 k s0_0 bt271.2.1 bt271.2.2 bt280.1 bt280.2.1 bt280.2.2.1 bt280.2.2.2)) else (if bt271.1 = 2 then ((spec_l02DrawFinite.f k s0_0 bt271.2.1 bt271.2.2).bind fun bt284 => (spec_l05Draw.j0 k s0_0 bt284.2.2.2.2.1 bt284.2.2.2.2.2 bt284.1 bt284.2.1 bt284.2.2.1 bt284.2.2.2.1)) else (spec_l05Draw.j0 k s0_0 bt271.2.1 bt271.2.2 bt264.1 bt264.2.1 bt264.2.2.1 bt264.2.2.2.1))))))) = some (r1, r2, r3, r4, r5, r6, r7, r8) := h
 clear h
 obtain ⟨⟨t261, t262, t263⟩, A2, H⟩ := ob H
 try dsimp only at H
 obtain ⟨⟨t264, t265, t266, t267, t268, t269⟩, A3, H⟩ := ob H
 try dsimp only at H
 obtain ⟨⟨t271, t272, t273⟩, A4, H⟩ := ob H
 try dsimp only at H
 have HC5 := Aside0.mk H
 clear H
 go_enter Tryz.func32, Tryz.ntmps32
 go_upto_block 0 with (first | ((with_reducible refine gd 2 rfl ?_); refine bx #[.int .i64 0, .int .i64 0, .int .i64 0, .int .i64 0, .int .i64 0, .int .i64 0] 29 ?_; intro gb260 hg w6 BK260 hb; replace HB := asd (below_step (by repeat (first | (with_reducible first | exact HB.out | apply below_alloc | apply pw_below_drewN | apply below_drew1 | refine below_set ?_ (IsS106.ge HI0.out)) | exact HB.out)) hb); have GW260 := asd ((by rw [hg]; exact (keep_size (w := w) (g := g) (row := none) (by repeat (first | (with_reducible first | exact HK.out | apply KeepBut.set_ | apply keep_drewN | apply keep_drew | apply keep_alloc) | exact HK.out))) : w.heap.size ≤ gb260)); have GE260 := asd ((Nat.le_trans HW0.out (by rw [hg]; exact (keep_size (w := w) (g := g) (row := none) (by repeat (first | (with_reducible first | exact HK.out | apply KeepBut.set_ | apply keep_drewN | apply keep_drew | apply keep_alloc) | exact HK.out))) : w.heap.size ≤ gb260) : w0.heap.size ≤ gb260)); replace HK := asd (KeepBut.trans (by repeat (first | (with_reducible first | exact HK.out | apply KeepBut.set_ | apply keep_drewN | apply keep_drew | apply keep_alloc) | exact HK.out)) (KeepBut.of_below hb g none) (.inl rfl)); have NB0_260 := asd ((by rw [hg]; exact Nat.ne_of_lt (IsS106.lt (show IsS106 w0 _ g s0_0 s0_1 s0_2 from by repeat (first | (with_reducible first | exact HI0.out | apply IsS106.alloc | apply IsS106.drewN | apply IsS106.drew | apply IsS106.set_1 | apply IsS106.set_2) | exact HI0.out))) : g ≠ gb260)); have NB260_0 := asd ((by rw [hg]; exact Nat.ne_of_gt (IsS106.lt (show IsS106 w0 _ g s0_0 s0_1 s0_2 from by repeat (first | (with_reducible first | exact HI0.out | apply IsS106.alloc | apply IsS106.drewN | apply IsS106.drew | apply IsS106.set_1 | apply IsS106.set_2) | exact HI0.out))) : gb260 ≠ g)); replace HI0 := asd (IsS106.below (by repeat (first | (with_reducible first | exact HI0.out | apply IsS106.alloc | apply IsS106.drewN | apply IsS106.drew | apply IsS106.set_1 | apply IsS106.set_2) | exact HI0.out)) hb); clear hb hg) | ((with_reducible refine gate_callee (f := 45) rfl ?_); refine gl 6 Tryz.func45 #[.pointer (some ⟨g, 0, none⟩), .int .i64 2] ?_; (with_reducible refine (spec_l01Next.calls _ _ _ _ _ _ _ _ w0 _ ?side1 ?side2 A2.out).mono ?_); (case side1 => repeat (first | (with_reducible first | exact HI0.out | apply IsS106.alloc | apply IsS106.drewN | apply IsS106.drew | apply IsS106.set_1 | apply IsS106.set_2 | refine IsS106.far ?_ NB0_260.out _) | exact HI0.out)); (case side2 => repeat (first | (with_reducible first | exact HB.out | apply below_alloc | apply pw_below_drewN | apply below_drew1 | refine below_set ?_ (IsS106.ge HI0.out) | refine below_set ?_ GE260.out) | exact HB.out)); rintro e w7 ⟨rfl, hi, hb, hk⟩; refine ⟨_, rfl, ?_⟩; replace BK260 := asd (KeepBut.blk hk (g' := gb260) (o := .cells #[.int .i64 0, .int .i64 0, .int .i64 0, .int .i64 0, .int .i64 0, .int .i64 0] 29 (0, 0)) (bkp BK260) NB260_0.out (by simp)); replace HK := asd (KeepBut.trans (by repeat (first | (with_reducible first | exact HK.out | apply KeepBut.set_ | apply keep_drewN | apply keep_drew | apply keep_alloc | refine keep_far ?_ GW260.out _) | exact HK.out)) hk (.inl rfl)); replace HB := asd (hb); replace HI0 := asd (hi); (try clear hb); (try clear hb2); (try clear hk); (try clear hi)) | ((with_reducible refine gate_callee (f := 80) rfl ?_); refine gl 7 Tryz.func80 #[.pointer (some ⟨g, 0, none⟩), .int .i64 t261] ?_; (with_reducible refine (spec_l04DrawMat.calls _ _ _ _ _ _ _ _ _ _ _ _ w0 _ ?side1 ?side2 A3.out).mono ?_); (case side1 => repeat (first | (with_reducible first | exact HI0.out | apply IsS106.alloc | apply IsS106.drewN | apply IsS106.drew | apply IsS106.set_1 | apply IsS106.set_2 | refine IsS106.far ?_ NB0_260.out _) | exact HI0.out)); (case side2 => repeat (first | (with_reducible first | exact HB.out | apply below_alloc | apply pw_below_drewN | apply below_drew1 | refine below_set ?_ (IsS106.ge HI0.out) | refine below_set ?_ GE260.out) | exact HB.out)); rintro e w8 ⟨rfl, hi, hb, hk⟩; refine ⟨_, rfl, ?_⟩; replace BK260 := asd (KeepBut.blk hk (g' := gb260) (o := .cells #[.int .i64 0, .int .i64 0, .int .i64 0, .int .i64 0, .int .i64 0, .int .i64 0] 29 (0, 0)) (bkp BK260) NB260_0.out (by simp)); replace HK := asd (KeepBut.trans (by repeat (first | (with_reducible first | exact HK.out | apply KeepBut.set_ | apply keep_drewN | apply keep_drew | apply keep_alloc | refine keep_far ?_ GW260.out _) | exact HK.out)) hk (.inl rfl)); replace HB := asd (hb); replace HI0 := asd (hi); (try clear hb); (try clear hb2); (try clear hk); (try clear hi)) | ((with_reducible refine gd 3 rfl ?_); refine bx #[.int .i64 0, .int .i64 0, .int .i64 0, .int .i64 0] 25 ?_; intro gb270 hg w9 BK270 hb; replace HB := asd (below_step (by repeat (first | (with_reducible first | exact HB.out | apply below_alloc | apply pw_below_drewN | apply below_drew1 | refine below_set ?_ (IsS106.ge HI0.out) | refine below_set ?_ GE260.out) | exact HB.out)) hb); have GW270 := asd ((by rw [hg]; exact (keep_size (w := w) (g := g) (row := none) (by repeat (first | (with_reducible first | exact HK.out | apply KeepBut.set_ | apply keep_drewN | apply keep_drew | apply keep_alloc | refine keep_far ?_ GW260.out _) | exact HK.out))) : w.heap.size ≤ gb270)); have GE270 := asd ((Nat.le_trans HW0.out (by rw [hg]; exact (keep_size (w := w) (g := g) (row := none) (by repeat (first | (with_reducible first | exact HK.out | apply KeepBut.set_ | apply keep_drewN | apply keep_drew | apply keep_alloc | refine keep_far ?_ GW260.out _) | exact HK.out))) : w.heap.size ≤ gb270) : w0.heap.size ≤ gb270)); replace HK := asd (KeepBut.trans (by repeat (first | (with_reducible first | exact HK.out | apply KeepBut.set_ | apply keep_drewN | apply keep_drew | apply keep_alloc | refine keep_far ?_ GW260.out _) | exact HK.out)) (KeepBut.of_below hb g none) (.inl rfl)); have NB260_270 := nlt hg BK260; have NB270_260 := nsy (nlt hg BK260); replace BK260 := bB BK260 hb; have NB0_270 := asd ((by rw [hg]; exact Nat.ne_of_lt (IsS106.lt (show IsS106 w0 _ g s0_0 t268 t269 from by repeat (first | (with_reducible first | exact HI0.out | apply IsS106.alloc | apply IsS106.drewN | apply IsS106.drew | apply IsS106.set_1 | apply IsS106.set_2 | refine IsS106.far ?_ NB0_260.out _) | exact HI0.out))) : g ≠ gb270)); have NB270_0 := asd ((by rw [hg]; exact Nat.ne_of_gt (IsS106.lt (show IsS106 w0 _ g s0_0 t268 t269 from by repeat (first | (with_reducible first | exact HI0.out | apply IsS106.alloc | apply IsS106.drewN | apply IsS106.drew | apply IsS106.set_1 | apply IsS106.set_2 | refine IsS106.far ?_ NB0_260.out _) | exact HI0.out))) : gb270 ≠ g)); replace HI0 := asd (IsS106.below (by repeat (first | (with_reducible first | exact HI0.out | apply IsS106.alloc | apply IsS106.drewN | apply IsS106.drew | apply IsS106.set_1 | apply IsS106.set_2 | refine IsS106.far ?_ NB0_260.out _) | exact HI0.out)) hb); clear hb hg; have hnb10 := NB270_260.out; have hnc10 := NB260_270.out; have hnb11 := NB270_0.out; have hnc11 := NB0_270.out; obtain ⟨hcz12_0, hcz12_1, hcz12_2, hcz12_3, hfz12_0, hfz12_1, hfz12_2, hfz12_3⟩ := bz4 BK270) | ((with_reducible refine gate_callee (f := 45) rfl ?_); refine gl 9 Tryz.func45 #[.pointer (some ⟨g, 0, none⟩), .int .i64 12] ?_; (with_reducible refine (spec_l01Next.calls _ _ _ _ _ _ _ _ w0 _ ?side1 ?side2 A4.out).mono ?_); (case side1 => repeat (first | (with_reducible first | exact HI0.out | apply IsS106.alloc | apply IsS106.drewN | apply IsS106.drew | apply IsS106.set_1 | apply IsS106.set_2 | refine IsS106.far ?_ NB0_260.out _ | refine IsS106.far ?_ NB0_270.out _) | exact HI0.out)); (case side2 => repeat (first | (with_reducible first | exact HB.out | apply below_alloc | apply pw_below_drewN | apply below_drew1 | refine below_set ?_ (IsS106.ge HI0.out) | refine below_set ?_ GE260.out | refine below_set ?_ GE270.out) | exact HB.out)); rintro e w13 ⟨rfl, hi, hb, hk⟩; refine ⟨_, rfl, ?_⟩; replace BK260 := asd (KeepBut.blk hk (g' := gb260) (o := .cells #[.int .i64 0, .int .i64 0, .int .i64 0, .int .i64 0, .int .i64 0, .int .i64 0] 29 (0, 0)) (bq1 BK260 NB260_270) NB260_0.out (by simp)); replace BK270 := asd (KeepBut.blk hk (g' := gb270) (o := .cells #[.int .i64 t264, .int .i64 t265, .int .i64 t266, .int .i64 t267] 25 (0, 0)) (bq0 BK270) NB270_0.out (by simp)); replace HK := asd (KeepBut.trans (by repeat (first | (with_reducible first | exact HK.out | apply KeepBut.set_ | apply keep_drewN | apply keep_drew | apply keep_alloc | refine keep_far ?_ GW260.out _ | refine keep_far ?_ GW270.out _) | exact HK.out)) hk (.inl rfl)); replace HB := asd (hb); replace HI0 := asd (hi); (try clear hb); (try clear hb2); (try clear hk); (try clear hi)))
 (try simp only [Act.put, sA, sB, sC])
 go_cut [] (fun wc => ∃ (kq : Nat) (x1001_4 : Int) (x1002_4 : Int) (x271000_4 : Int) (x271001_4 : Int) (x271002_4 : Int) (x271003_4 : Int), Aside0 (spec_l05Draw.j0 kq s0_0 x1001_4 x1002_4 x271000_4 x271001_4 x271002_4 x271003_4 = some (r1, r2, r3, r4, r5, r6, r7, r8)) ∧ Aside0 (kq ≤ k) ∧ Aside0 (wc.heap[gb260]? = some (.cells #[.int .i64 0, .int .i64 0, .int .i64 0, .int .i64 0, .int .i64 0, .int .i64 0] 29 (0, 0))) ∧ Aside0 (wc.heap[gb270]? = some (.cells #[.int .i64 x271000_4, .int .i64 x271001_4, .int .i64 x271002_4, .int .i64 x271003_4] 25 (0, 0))) ∧ Aside0 (IsS106 w0 wc g s0_0 x1001_4 x1002_4) ∧ Aside0 (KeepBut w wc g none) ∧ Aside0 (Below w0.heap.size w0 wc))
 case first =>
  have H := HC5.out
  clear HC5
  by_cases c14 : t271 = 0
  ·rw [if_pos c14] at H
   have c14b0 : (t271 == 0) = true := beq_iff_eq.mpr c14
   have c14b1 : (t271 != 0) = false := bne_eq_false_iff_eq.mpr c14
   clear c14
   (first | rw [c14b0] | (simp only [i64_w, i32_w]; rw [c14b0]) | skip)
   obtain ⟨⟨t274, t275, t276, t277, t278, t279⟩, A15, H⟩ := ob H
   try dsimp only at H
   have H' := Aside0.mk H
   clear H
   go_wp2_with (first | ((with_reducible refine gate_callee (f := 50) rfl ?_); refine gl 13 Tryz.func50 #[.pointer (some ⟨g, 0, none⟩)] ?_; (with_reducible refine (spec_l02Draw.calls _ _ _ _ _ _ _ _ _ _ _ w0 _ ?side1 ?side2 A15.out).mono ?_); (case side1 => repeat (first | (with_reducible first | exact HI0.out | apply IsS106.alloc | apply IsS106.drewN | apply IsS106.drew | apply IsS106.set_1 | apply IsS106.set_2 | refine IsS106.far ?_ NB0_260.out _ | refine IsS106.far ?_ NB0_270.out _) | exact HI0.out)); (case side2 => repeat (first | (with_reducible first | exact HB.out | apply below_alloc | apply pw_below_drewN | apply below_drew1 | refine below_set ?_ (IsS106.ge HI0.out) | refine below_set ?_ GE260.out | refine below_set ?_ GE270.out) | exact HB.out)); rintro e w16 ⟨rfl, hi, hb, hk⟩; refine ⟨_, rfl, ?_⟩; replace BK260 := asd (KeepBut.blk hk (g' := gb260) (o := .cells #[.int .i64 0, .int .i64 0, .int .i64 0, .int .i64 0, .int .i64 0, .int .i64 0] 29 (0, 0)) (bkp BK260) NB260_0.out (by simp)); replace BK270 := asd (KeepBut.blk hk (g' := gb270) (o := .cells #[.int .i64 t264, .int .i64 t265, .int .i64 t266, .int .i64 t267] 25 (0, 0)) (bkp BK270) NB270_0.out (by simp)); replace HK := asd (KeepBut.trans (by repeat (first | (with_reducible first | exact HK.out | apply KeepBut.set_ | apply keep_drewN | apply keep_drew | apply keep_alloc | refine keep_far ?_ GW260.out _ | refine keep_far ?_ GW270.out _) | exact HK.out)) hk (.inl rfl)); replace HB := asd (hb); replace HI0 := asd (hi); (try clear hb); (try clear hb2); (try clear hk); (try clear hi); have hnb17 := NB270_260.out; have hnc17 := NB260_270.out; have hnb18 := NB270_0.out; have hnc18 := NB0_270.out; obtain ⟨hcz19_0, hcz19_1, hcz19_2, hcz19_3, hfz19_0, hfz19_1, hfz19_2, hfz19_3⟩ := bz4 BK270))
   go_meet
   case rel => exact ⟨_, (t278), (t279), (t274), (t275), (t276), (t277), H', ⟨by first | omega | exact Nat.le_refl _⟩, ⟨bq1 BK260 NB260_270⟩, ⟨bq0 BK270⟩, ⟨by repeat (first | (with_reducible first | exact HI0.out | apply IsS106.alloc | apply IsS106.drewN | apply IsS106.drew | apply IsS106.set_1 | apply IsS106.set_2 | refine IsS106.far ?_ NB0_260.out _ | refine IsS106.far ?_ NB0_270.out _) | exact HI0.out)⟩, ⟨by repeat (first | (with_reducible first | exact HK.out | apply KeepBut.set_ | apply keep_drewN | apply keep_drew | apply keep_alloc | refine keep_far ?_ GW260.out _ | refine keep_far ?_ GW270.out _) | exact HK.out)⟩, ⟨by repeat (first | (with_reducible first | exact HB.out | apply below_alloc | apply pw_below_drewN | apply below_drew1 | refine below_set ?_ (IsS106.ge HI0.out) | refine below_set ?_ GE260.out | refine below_set ?_ GE270.out) | exact HB.out)⟩⟩
  ·rw [if_neg c14] at H
   have c14b0 : (t271 == 0) = false := beq_eq_false_iff_ne.mpr c14
   have c14b1 : (t271 != 0) = true := bne_iff_ne.mpr c14
   (first | rw [c14b0] | (simp only [i64_w, i32_w]; rw [c14b0]) | skip)
   by_cases c20 : t271 = 1
   ·rw [if_pos c20] at H
    have c20b0 : (t271 == 1) = true := beq_iff_eq.mpr c20
    have c20b1 : (t271 != 1) = false := bne_eq_false_iff_eq.mpr c20
    clear c20
    obtain ⟨⟨t280, t281, t282, t283⟩, A21, H⟩ := ob H
    try dsimp only at H
    have H' := Aside0.mk H
    clear H
    go_wp2_with (first | ((with_reducible refine gate_callee (f := 81) rfl ?_); refine gl 16 Tryz.func81 #[] ?_; (with_reducible refine (spec_l02Unit.calls _ _ _ _ _ A21.out).mono ?_); rintro e w22 ⟨rfl, hb⟩; refine ⟨_, rfl, ?_⟩; replace BK260 := bB BK260 hb; replace BK270 := bB BK270 hb; replace HK := asd (KeepBut.trans (by repeat (first | (with_reducible first | exact HK.out | apply KeepBut.set_ | apply keep_drewN | apply keep_drew | apply keep_alloc | refine keep_far ?_ GW260.out _ | refine keep_far ?_ GW270.out _) | exact HK.out)) (KeepBut.of_below hb g none) (.inl rfl)); replace HB := asd (below_step (by repeat (first | (with_reducible first | exact HB.out | apply below_alloc | apply pw_below_drewN | apply below_drew1 | refine below_set ?_ (IsS106.ge HI0.out) | refine below_set ?_ GE260.out | refine below_set ?_ GE270.out) | exact HB.out)) hb); replace HI0 := asd (IsS106.below (by repeat (first | (with_reducible first | exact HI0.out | apply IsS106.alloc | apply IsS106.drewN | apply IsS106.drew | apply IsS106.set_1 | apply IsS106.set_2 | refine IsS106.far ?_ NB0_260.out _ | refine IsS106.far ?_ NB0_270.out _) | exact HI0.out)) hb); (try clear hb); have hnb23 := NB270_260.out; have hnc23 := NB260_270.out; have hnb24 := NB270_0.out; have hnc24 := NB0_270.out; obtain ⟨hcz25_0, hcz25_1, hcz25_2, hcz25_3, hfz25_0, hfz25_1, hfz25_2, hfz25_3⟩ := bz4 BK270))
    go_meet
    case rel => exact ⟨_, (t272), (t273), (t280), (t281), (t282), (t283), H', ⟨by first | omega | exact Nat.le_refl _⟩, ⟨bq1 BK260 NB260_270⟩, ⟨bq0 BK270⟩, ⟨by repeat (first | (with_reducible first | exact HI0.out | apply IsS106.alloc | apply IsS106.drewN | apply IsS106.drew | apply IsS106.set_1 | apply IsS106.set_2 | refine IsS106.far ?_ NB0_260.out _ | refine IsS106.far ?_ NB0_270.out _) | exact HI0.out)⟩, ⟨by repeat (first | (with_reducible first | exact HK.out | apply KeepBut.set_ | apply keep_drewN | apply keep_drew | apply keep_alloc | refine keep_far ?_ GW260.out _ | refine keep_far ?_ GW270.out _) | exact HK.out)⟩, ⟨by repeat (first | (with_reducible first | exact HB.out | apply below_alloc | apply pw_below_drewN | apply below_drew1 | refine below_set ?_ (IsS106.ge HI0.out) | refine below_set ?_ GE260.out | refine below_set ?_ GE270.out) | exact HB.out)⟩⟩
   ·rw [if_neg c20] at H
    have c20b0 : (t271 == 1) = false := beq_eq_false_iff_ne.mpr c20
    have c20b1 : (t271 != 1) = true := bne_iff_ne.mpr c20
    by_cases c26 : t271 = 2
    ·rw [if_pos c26] at H
     have c26b0 : (t271 == 2) = true := beq_iff_eq.mpr c26
     have c26b1 : (t271 != 2) = false := bne_eq_false_iff_eq.mpr c26
     clear c26
     obtain ⟨⟨t284, t285, t286, t287, t288, t289⟩, A27, H⟩ := ob H
     try dsimp only at H
     have H' := Aside0.mk H
     clear H
     go_wp2_with (first | ((with_reducible refine gate_callee (f := 82) rfl ?_); refine gl 20 Tryz.func82 #[.pointer (some ⟨g, 0, none⟩)] ?_; (with_reducible refine (spec_l02DrawFinite.calls _ _ _ _ _ _ _ _ _ _ _ w0 _ ?side1 ?side2 A27.out).mono ?_); (case side1 => repeat (first | (with_reducible first | exact HI0.out | apply IsS106.alloc | apply IsS106.drewN | apply IsS106.drew | apply IsS106.set_1 | apply IsS106.set_2 | refine IsS106.far ?_ NB0_260.out _ | refine IsS106.far ?_ NB0_270.out _) | exact HI0.out)); (case side2 => repeat (first | (with_reducible first | exact HB.out | apply below_alloc | apply pw_below_drewN | apply below_drew1 | refine below_set ?_ (IsS106.ge HI0.out) | refine below_set ?_ GE260.out | refine below_set ?_ GE270.out) | exact HB.out)); rintro e w28 ⟨rfl, hi, hb, hk⟩; refine ⟨_, rfl, ?_⟩; replace BK260 := asd (KeepBut.blk hk (g' := gb260) (o := .cells #[.int .i64 0, .int .i64 0, .int .i64 0, .int .i64 0, .int .i64 0, .int .i64 0] 29 (0, 0)) (bkp BK260) NB260_0.out (by simp)); replace BK270 := asd (KeepBut.blk hk (g' := gb270) (o := .cells #[.int .i64 t264, .int .i64 t265, .int .i64 t266, .int .i64 t267] 25 (0, 0)) (bkp BK270) NB270_0.out (by simp)); replace HK := asd (KeepBut.trans (by repeat (first | (with_reducible first | exact HK.out | apply KeepBut.set_ | apply keep_drewN | apply keep_drew | apply keep_alloc | refine keep_far ?_ GW260.out _ | refine keep_far ?_ GW270.out _) | exact HK.out)) hk (.inl rfl)); replace HB := asd (hb); replace HI0 := asd (hi); (try clear hb); (try clear hb2); (try clear hk); (try clear hi); have hnb29 := NB270_260.out; have hnc29 := NB260_270.out; have hnb30 := NB270_0.out; have hnc30 := NB0_270.out; obtain ⟨hcz31_0, hcz31_1, hcz31_2, hcz31_3, hfz31_0, hfz31_1, hfz31_2, hfz31_3⟩ := bz4 BK270))
     go_meet
     case rel => exact ⟨_, (t288), (t289), (t284), (t285), (t286), (t287), H', ⟨by first | omega | exact Nat.le_refl _⟩, ⟨bq1 BK260 NB260_270⟩, ⟨bq0 BK270⟩, ⟨by repeat (first | (with_reducible first | exact HI0.out | apply IsS106.alloc | apply IsS106.drewN | apply IsS106.drew | apply IsS106.set_1 | apply IsS106.set_2 | refine IsS106.far ?_ NB0_260.out _ | refine IsS106.far ?_ NB0_270.out _) | exact HI0.out)⟩, ⟨by repeat (first | (with_reducible first | exact HK.out | apply KeepBut.set_ | apply keep_drewN | apply keep_drew | apply keep_alloc | refine keep_far ?_ GW260.out _ | refine keep_far ?_ GW270.out _) | exact HK.out)⟩, ⟨by repeat (first | (with_reducible first | exact HB.out | apply below_alloc | apply pw_below_drewN | apply below_drew1 | refine below_set ?_ (IsS106.ge HI0.out) | refine below_set ?_ GE260.out | refine below_set ?_ GE270.out) | exact HB.out)⟩⟩
    ·rw [if_neg c26] at H
     have c26b0 : (t271 == 2) = false := beq_eq_false_iff_ne.mpr c26
     have c26b1 : (t271 != 2) = true := bne_iff_ne.mpr c26
     have H' := Aside0.mk H
     clear H
     go_wp2
     go_meet
     case rel => exact ⟨_, (t272), (t273), (t264), (t265), (t266), (t267), H', ⟨by first | omega | exact Nat.le_refl _⟩, ⟨bkp BK260⟩, ⟨bkp BK270⟩, ⟨by repeat (first | (with_reducible first | exact HI0.out | apply IsS106.alloc | apply IsS106.drewN | apply IsS106.drew | apply IsS106.set_1 | apply IsS106.set_2 | refine IsS106.far ?_ NB0_260.out _ | refine IsS106.far ?_ NB0_270.out _) | exact HI0.out)⟩, ⟨by repeat (first | (with_reducible first | exact HK.out | apply KeepBut.set_ | apply keep_drewN | apply keep_drew | apply keep_alloc | refine keep_far ?_ GW260.out _ | refine keep_far ?_ GW270.out _) | exact HK.out)⟩, ⟨by repeat (first | (with_reducible first | exact HB.out | apply below_alloc | apply pw_below_drewN | apply below_drew1 | refine below_set ?_ (IsS106.ge HI0.out) | refine below_set ?_ GE260.out | refine below_set ?_ GE270.out) | exact HB.out)⟩⟩
 case rest =>
  clear HC5
  try clear c1
  try clear c2
  try clear p2
  try clear c3
  try clear c4
  try clear c5
  try clear c8
  try clear c10
  try clear c11
  try clear c14
  try clear c14b0
  try clear c14b1
  try clear c17
  try clear c18
  try clear c20
  try clear c20b0
  try clear c20b1
  try clear c23
  try clear c24
  try clear c26
  try clear c26b0
  try clear c26b1
  try clear c29
  try clear c30
  try clear hcz12_0
  try clear hcz12_1
  try clear hcz12_2
  try clear hcz12_3
  try clear hcz19_0
  try clear hcz19_1
  try clear hcz19_2
  try clear hcz19_3
  try clear hcz25_0
  try clear hcz25_1
  try clear hcz25_2
  try clear hcz25_3
  try clear hcz31_0
  try clear hcz31_1
  try clear hcz31_2
  try clear hcz31_3
  try clear hfz12_0
  try clear hfz12_1
  try clear hfz12_2
  try clear hfz12_3
  try clear hfz19_0
  try clear hfz19_1
  try clear hfz19_2
  try clear hfz19_3
  try clear hfz25_0
  try clear hfz25_1
  try clear hfz25_2
  try clear hfz25_3
  try clear hfz31_0
  try clear hfz31_1
  try clear hfz31_2
  try clear hfz31_3
  obtain ⟨kq, x1001_4, x1002_4, x271000_4, x271001_4, x271002_4, x271003_4, HA, HJ4, BK260, BK270, HI0, HK, HB⟩ := hcut
  cases kq with
  | zero => exact absurd HA.out (by simp [spec_l05Draw.j0])
  | succ kj4 =>
   have H := HA.out
   clear HA
   simp only [spec_l05Draw.j0] at H
   obtain ⟨⟨t290, t291, t292⟩, A32, H⟩ := ob H
   try dsimp only at H
   by_cases c33 : t290 = 0
   ·rw [if_pos c33] at H
    have c33b0 : (t290 == 0) = true := beq_iff_eq.mpr c33
    have c33b1 : (t290 != 0) = false := bne_eq_false_iff_eq.mpr c33
    clear c33
    simp only [Option.some.injEq, Prod.mk.injEq] at H
    obtain ⟨rfl, rfl, rfl, rfl, rfl, rfl, rfl, rfl⟩ := H
    go_wp2_with (first | ((with_reducible refine gate_callee (f := 45) rfl ?_); refine gl 22 Tryz.func45 #[.pointer (some ⟨g, 0, none⟩), .int .i64 5] ?_; (with_reducible refine (spec_l01Next.calls _ _ _ _ _ _ _ _ w0 _ ?side1 ?side2 A32.out).mono ?_); (case side1 => repeat (first | (with_reducible first | exact HI0.out | apply IsS106.alloc | apply IsS106.drewN | apply IsS106.drew | apply IsS106.set_1 | apply IsS106.set_2 | refine IsS106.far ?_ NB0_260.out _ | refine IsS106.far ?_ NB0_270.out _) | exact HI0.out)); (case side2 => repeat (first | (with_reducible first | exact HB.out | apply below_alloc | apply pw_below_drewN | apply below_drew1 | refine below_set ?_ (IsS106.ge HI0.out) | refine below_set ?_ GE260.out | refine below_set ?_ GE270.out) | exact HB.out)); rintro e w34 ⟨rfl, hi, hb, hk⟩; refine ⟨_, rfl, ?_⟩; replace BK260 := asd (KeepBut.blk hk (g' := gb260) (o := .cells #[.int .i64 0, .int .i64 0, .int .i64 0, .int .i64 0, .int .i64 0, .int .i64 0] 29 (0, 0)) (bkp BK260) NB260_0.out (by simp)); replace BK270 := asd (KeepBut.blk hk (g' := gb270) (o := .cells #[.int .i64 x271000_4, .int .i64 x271001_4, .int .i64 x271002_4, .int .i64 x271003_4] 25 (0, 0)) (bkp BK270) NB270_0.out (by simp)); replace HK := asd (KeepBut.trans (by repeat (first | (with_reducible first | exact HK.out | apply KeepBut.set_ | apply keep_drewN | apply keep_drew | apply keep_alloc | refine keep_far ?_ GW260.out _ | refine keep_far ?_ GW270.out _) | exact HK.out)) hk (.inl rfl)); replace HB := asd (hb); replace HI0 := asd (hi); (try clear hb); (try clear hb2); (try clear hk); (try clear hi); have hnb35 := NB270_260.out; have hnc35 := NB260_270.out; have hnb36 := NB270_0.out; have hnc36 := NB0_270.out; obtain ⟨hcz37_0, hcz37_1, hcz37_2, hcz37_3, hfz37_0, hfz37_1, hfz37_2, hfz37_3⟩ := bz4 BK270; have hnb38 := NB260_0.out; have hnc38 := NB0_260.out; obtain ⟨hcz39_0, hcz39_1, hcz39_2, hcz39_3, hcz39_4, hcz39_5, hfz39_0, hfz39_1, hfz39_2, hfz39_3, hfz39_4, hfz39_5⟩ := bz6 BK260))
    refine bodyPost_ret (results_cell_row rfl _ _ gb260 29 #[.int .i64 x271000_4, .int .i64 x271001_4, .int .i64 x271002_4, .int .i64 x271003_4, .int .i64 0, .int .i64 0] (0, 0) _ rfl (bq0 BK260) Tryz.underlying29 rfl (by kernel_rfl)) rfl ?_
    exact ⟨by first | rfl | (simp [errW_none, errW_some] <;> rfl) | (simp [*, errW_none, errW_some] <;> rfl), by repeat (first | (with_reducible first | exact HI0.out | apply IsS106.alloc | apply IsS106.drewN | apply IsS106.drew | apply IsS106.set_1 | apply IsS106.set_2 | refine IsS106.far ?_ NB0_260.out _ | refine IsS106.far ?_ NB0_270.out _) | exact HI0.out), by repeat (first | (with_reducible first | exact HB.out | apply below_alloc | apply pw_below_drewN | apply below_drew1 | refine below_set ?_ (IsS106.ge HI0.out) | refine below_set ?_ GE260.out | refine below_set ?_ GE270.out) | exact HB.out), by repeat (first | (with_reducible first | exact HK.out | apply KeepBut.set_ | apply keep_drewN | apply keep_drew | apply keep_alloc | refine keep_far ?_ GW260.out _ | refine keep_far ?_ GW270.out _) | exact HK.out)⟩
   ·rw [if_neg c33] at H
    have c33b0 : (t290 == 0) = false := beq_eq_false_iff_ne.mpr c33
    have c33b1 : (t290 != 0) = true := bne_iff_ne.mpr c33
    obtain ⟨⟨t293, t294, t295, t296⟩, A40, H⟩ := ob H
    try dsimp only at H
    simp only [Option.some.injEq, Prod.mk.injEq] at H
    obtain ⟨rfl, rfl, rfl, rfl, rfl, rfl, rfl, rfl⟩ := H
    try go_wp2_with (first | ((with_reducible refine gate_callee (f := 45) rfl ?_); refine gl 22 Tryz.func45 #[.pointer (some ⟨g, 0, none⟩), .int .i64 5] ?_; (with_reducible refine (spec_l01Next.calls _ _ _ _ _ _ _ _ w0 _ ?side1 ?side2 A32.out).mono ?_); (case side1 => repeat (first | (with_reducible first | exact HI0.out | apply IsS106.alloc | apply IsS106.drewN | apply IsS106.drew | apply IsS106.set_1 | apply IsS106.set_2 | refine IsS106.far ?_ NB0_260.out _ | refine IsS106.far ?_ NB0_270.out _) | exact HI0.out)); (case side2 => repeat (first | (with_reducible first | exact HB.out | apply below_alloc | apply pw_below_drewN | apply below_drew1 | refine below_set ?_ (IsS106.ge HI0.out) | refine below_set ?_ GE260.out | refine below_set ?_ GE270.out) | exact HB.out)); rintro e w41 ⟨rfl, hi, hb, hk⟩; refine ⟨_, rfl, ?_⟩; replace BK260 := asd (KeepBut.blk hk (g' := gb260) (o := .cells #[.int .i64 0, .int .i64 0, .int .i64 0, .int .i64 0, .int .i64 0, .int .i64 0] 29 (0, 0)) (bkp BK260) NB260_0.out (by simp)); replace BK270 := asd (KeepBut.blk hk (g' := gb270) (o := .cells #[.int .i64 x271000_4, .int .i64 x271001_4, .int .i64 x271002_4, .int .i64 x271003_4] 25 (0, 0)) (bkp BK270) NB270_0.out (by simp)); replace HK := asd (KeepBut.trans (by repeat (first | (with_reducible first | exact HK.out | apply KeepBut.set_ | apply keep_drewN | apply keep_drew | apply keep_alloc | refine keep_far ?_ GW260.out _ | refine keep_far ?_ GW270.out _) | exact HK.out)) hk (.inl rfl)); replace HB := asd (hb); replace HI0 := asd (hi); (try clear hb); (try clear hb2); (try clear hk); (try clear hi)))
    replace BK260 := asd (blk_drew BK260.out)
    replace BK270 := asd (blk_drew BK270.out)
    replace HI0 := asd (IsS106.drew HI0.out)
    replace HK := asd (keep_drew HK.out)
    replace HB := asd (below_drew1 HB.out)
    refine sh 5 (eb4 BK270) (fun hHeld => ?_)
    generalize w41.drew = w42 at BK260 BK270 HI0 HK HB hHeld ⊢
    refine pure_ (i := 1) (N := some 27) (v := ?_) (a' := ?_) #[false, true, false, false, false] rfl rfl (by kernel_rfl) (fun _ _ _ h => h) (Or.inl ⟨by rfl, ?_⟩) ?_ ?_
    rotate_left
    ·intro w'
     go_simp
     with_reducible rfl
    rotate_left
    ·simp only [Act.put, sA, sB, sC, i64_w, i32_w]
     rfl
    refine take_ (i := 0) (N := some 26) (v := ?_) (a' := ?_) (bT 5 2) rfl rfl (by kernel_rfl) (fun _ _ _ h => h) (Or.inl ⟨by rfl, ?_⟩) hHeld ?_ ?_
    rotate_left
    ·rintro w' ⟨s0, s1, s2, s3⟩
     go_simp
     with_reducible rfl
    rotate_left
    ·simp only [Act.put, sA, sB, sC, i64_w, i32_w]
     rfl
    refine one_ (i := 2) (N := some 28) (bT 5 3) rfl rfl (by kernel_rfl) (by decide) (fun K hK => ?_)
    refine gs Tryz.func83 #[.pointer (some ⟨g, 0, none⟩)] ?_
    with_reducible refine (spec_l01Draw.calls _ _ _ _ _ _ _ _ w0 _ ?side1 ?side2 A40.out).mono ?_
    (case side1 => repeat (first | (with_reducible first | exact HI0.out | apply IsS106.alloc | apply IsS106.drewN | apply IsS106.drew | apply IsS106.set_1 | apply IsS106.set_2 | refine IsS106.far ?_ NB0_260.out _ | refine IsS106.far ?_ NB0_270.out _) | exact HI0.out))
    (case side2 => repeat (first | (with_reducible first | exact HB.out | apply below_alloc | apply pw_below_drewN | apply below_drew1 | refine below_set ?_ (IsS106.ge HI0.out) | refine below_set ?_ GE260.out | refine below_set ?_ GE270.out) | exact HB.out))
    rintro e w43 ⟨rfl, hi, hb, hk⟩
    refine ⟨_, rfl, ?_⟩
    replace BK260 := asd (KeepBut.blk hk (g' := gb260) (o := .cells #[.int .i64 0, .int .i64 0, .int .i64 0, .int .i64 0, .int .i64 0, .int .i64 0] 29 (0, 0)) (bkp BK260) NB260_0.out (by simp))
    replace BK270 := asd (KeepBut.blk hk (g' := gb270) (o := .cells #[.int .i64 x271000_4, .int .i64 x271001_4, .int .i64 x271002_4, .int .i64 x271003_4] 25 (0, 0)) (bkp BK270) NB270_0.out (by simp))
    replace HK := asd (KeepBut.trans (by repeat (first | (with_reducible first | exact HK.out | apply KeepBut.set_ | apply keep_drewN | apply keep_drew | apply keep_alloc | refine keep_far ?_ GW260.out _ | refine keep_far ?_ GW270.out _) | exact HK.out)) hk (.inl rfl))
    replace HB := asd (hb)
    replace HI0 := asd (hi)
    (try clear hb)
    (try clear hb2)
    (try clear hk)
    (try clear hi)
    refine hK.out _ _ (eb4 BK270).out (fun hHeld => ?_)
    clear hK K
    refine norm_ (a' := ?_) ?_ ?_
    rotate_left
    ·show Act.put _ (some 28) _ = _
     simp only [Act.put, sA, sB, sC, i64_w, i32_w]
     rfl
    refine pure_ (i := 3) (N := some 29) (v := ?_) (a' := ?_) (bT 5 4) rfl rfl (by kernel_rfl) (fun _ _ _ h => h) (Or.inl ⟨by rfl, ?_⟩) ?_ ?_
    rotate_left
    ·intro w'
     go_simp
     with_reducible rfl
    rotate_left
    ·simp only [Act.put, sA, sB, sC, i64_w, i32_w]
     rfl
    refine one_ (i := 4) (N := none) (bT 5 5) rfl rfl (by kernel_rfl) (by decide) (fun K hK => ?_)
    have hs44 : w43.cell? ⟨gb260, 0, none⟩ = some (.int .i64 0) := bcl BK260 0
    have hfs44 := blk_frozen BK260.out 0
    have hns44_1 := NB270_260.out
    have hms44_1 := NB260_270.out
    have hs45 : w43.cell? ⟨gb260, 1, none⟩ = some (.int .i64 0) := bcl BK260 1
    have hfs45 := blk_frozen BK260.out 1
    have hns45_1 := NB270_260.out
    have hms45_1 := NB260_270.out
    have hs46 : w43.cell? ⟨gb260, 2, none⟩ = some (.int .i64 0) := bcl BK260 2
    have hfs46 := blk_frozen BK260.out 2
    have hns46_1 := NB270_260.out
    have hms46_1 := NB260_270.out
    have hs47 : w43.cell? ⟨gb260, 3, none⟩ = some (.int .i64 0) := bcl BK260 3
    have hfs47 := blk_frozen BK260.out 3
    have hns47_1 := NB270_260.out
    have hms47_1 := NB260_270.out
    have hs48 : w43.cell? ⟨gb260, 4, none⟩ = some (.int .i64 0) := bcl BK260 4
    have hfs48 := blk_frozen BK260.out 4
    have hns48_1 := NB270_260.out
    have hms48_1 := NB260_270.out
    have hs49 : w43.cell? ⟨gb260, 5, none⟩ = some (.int .i64 0) := bcl BK260 5
    have hfs49 := blk_frozen BK260.out 5
    have hns49_1 := NB270_260.out
    have hms49_1 := NB260_270.out
    refine skip_ (w1 := ?_) (by rfl) rfl ?_ ?_
    rotate_left
    ·go_simp
     rfl
    refine hK.out _ _ ⟨(cf6 NB270_260 (hHeld.1)), (cf6 NB270_260 (hHeld.2.1)), (cf6 NB270_260 (hHeld.2.2.1)), (cf6 NB270_260 (hHeld.2.2.2))⟩ (fun hHeld => ?_)
    clear hK K
    refine done_ (by kernel_rfl) ?_
    try go_wp2
    refine bodyPost_ret (results_cell_row rfl _ _ gb260 29 #[.int .i64 x271000_4, .int .i64 x271001_4, .int .i64 x271002_4, .int .i64 x271003_4, .int .i64 t293, .int .i64 t294] (0, 0) _ rfl (bq0 BK260) Tryz.underlying29 rfl (by kernel_rfl)) rfl ?_
    exact ⟨by first | rfl | (simp [errW_none, errW_some] <;> rfl) | (simp [*, errW_none, errW_some] <;> rfl), by repeat (first | (with_reducible first | exact HI0.out | apply IsS106.alloc | apply IsS106.drewN | apply IsS106.drew | apply IsS106.set_1 | apply IsS106.set_2 | refine IsS106.far ?_ NB0_260.out _ | refine IsS106.far ?_ NB0_270.out _) | exact HI0.out), by repeat (first | (with_reducible first | exact HB.out | apply below_alloc | apply pw_below_drewN | apply below_drew1 | refine below_set ?_ (IsS106.ge HI0.out) | refine below_set ?_ GE260.out | refine below_set ?_ GE270.out) | exact HB.out), by repeat (first | (with_reducible first | exact HK.out | apply KeepBut.set_ | apply keep_drewN | apply keep_drew | apply keep_alloc | refine keep_far ?_ GW260.out _ | refine keep_far ?_ GW270.out _) | exact HK.out)⟩
/-! ### spec_l01From: function 33 -/
def spec_l01From.l0 : Nat → List Int → Int → List Int → Int → Int → Option (List Int × Int × Int)
 | 0, _, _, _, _, _ => none
 | k + 1, x0, x4, x298000, x298001, x298002 => if x4 < (x0.length : Int) then (if x4 < 64 then (if 0 ≤ x4 then (spec_l01From.l0 k x0 (wrap64 (x4 + 1)) x298000 x298001 (Int.tmod (wrap64 ((wrap64 (x298002 * 73)) + (wrap64 (rd x0 x4)))) 2147483647)) else (none)) else (some (x298000, x298001, x298002))) else (some (x298000, x298001, x298002))
def spec_l01From.f (k : Nat) (l0 : List Int) : Option (List Int × Int × Int) := spec_l01From.l0 k l0 0 l0 0 93001
def spec_l01From.T5 : Bool × List (List Nat × List Nat) := (true, [([], []), ([], []), ([1], [1]), ([2], [2]), ([3], [3]), ([4], [4]), ([], []), ([], []), ([6, 7], [6, 7]), ([8], [8]), ([9], [9]), ([5, 10], [5, 10]), ([11], [11]), ([0, 0, 1, 2, 3, 4, 5, 6, 7, 8, 9, 10, 11, 12], [0]), ([13, 0, 1, 2, 3, 4, 5, 6, 7, 8, 9, 10, 11, 12], [13]), ([14, 12, 0, 1, 2, 3, 4, 5, 6, 7, 8, 9, 10, 11, 12], [12, 14])])
def spec_l01From.B5 : List Nat := [0, 0, 2, 6, 14, 30, 0, 0, 192, 448, 960, 2046, 4094, 8191, 16383, 32767]
theorem spec_l01From.tab5 : rtab .any (opsOf Tryz.f33 5) = spec_l01From.T5 := by kernel_rfl
theorem spec_l01From.bits5 : waitsOk spec_l01From.T5.2 spec_l01From.B5 = true := by kernel_rfl
set_option maxHeartbeats 8000000 in
set_option maxRecDepth 100000 in
theorem spec_l01From.calls (k : Nat) (A0 : Option Addr) (c0 : Nat) (l0 : List Int) (r1 : List Int) (r2 : Int) (r3 : Int) (w0 w : World) (hB : Below w0.heap.size w0 w) (hr0 : Kd.C (Kd.int .u8) w0 A0 l0.length l0) (hc0 : l0.length ≤ c0) (h : spec_l01From.f k l0 = some (r1, r2, r3)) :
  Calls Tryz.prog 33 #[.slice A0 l0.length c0] w fun e w' => ∃ g_ : Nat, e = .returned (.pointer (some ⟨g_, 0, none⟩)) ∧ IsS106 w0 w' g_ r1 r2 r3 ∧ Below w0.heap.size w0 w' ∧ Below w.heap.size w w' := by
 have hu106 := Tryz.underlying106
 have HR0 := Aside0.mk hr0
 have HC0 := Aside0.mk hc0
 clear hr0 hc0
 have HBW := asd (Below.refl w.heap.size w)
 have HW0 := Aside0.mk hB.size
 have HB := Aside0.mk hB
 clear hB
 have H : (spec_l01From.l0 k l0 0 l0 0 93001) = some (r1, r2, r3) := h
 clear h
 have H' := Aside0.mk H
 clear H
 go_enter Tryz.func33, Tryz.ntmps33
 go_wp2_with (first | ((with_reducible refine gd 7 rfl ?_); refine bx #[.slice A0 l0.length c0, .int .i64 0, .int .i64 93001] 106 ?_; intro gb297 hg w2 BK297 hb; replace HB := bS0 HB hb; have GW297 := asd ((by rw [hg]; exact (below_size (by repeat (first | (with_reducible first | exact HBW.out | apply below_alloc | apply pw_below_drewN | apply below_drew1) | exact HBW.out))) : w.heap.size ≤ gb297)); have GE297 := asd ((Nat.le_trans HW0.out (by rw [hg]; exact (below_size (by repeat (first | (with_reducible first | exact HBW.out | apply below_alloc | apply pw_below_drewN | apply below_drew1) | exact HBW.out))) : w.heap.size ≤ gb297) : w0.heap.size ≤ gb297)); replace HBW := asd (below_step HBW.out hb); clear hb hg))
 go_loopg [4] k (fun kq v4 w' => ∃ (x4_1 : Int) (x298002_1 : Int), v4 = .int .i64 x4_1 ∧ Aside0 (spec_l01From.l0 kq l0 x4_1 l0 0 x298002_1 = some (r1, r2, r3)) ∧ Aside0 (kq ≤ k) ∧ Aside0 (w'.heap[gb297]? = some (.cells #[(.slice A0 l0.length c0), .int .i64 0, .int .i64 x298002_1] 106 (0, 0))) ∧ Aside0 (Below w0.heap.size w0 w') ∧ Aside0 (Below w.heap.size w w'))
 case atStart => exact ⟨(0), (93001), (by first | rfl | (simp; done) | (simp [*]; done)), H', ⟨Nat.le_refl _⟩, ⟨bkp BK297⟩, ⟨bbw1 HB GE297⟩, ⟨by repeat (first | (with_reducible first | exact HBW.out | apply below_alloc | apply pw_below_drewN | apply below_drew1 | refine below_set ?_ GW297.out) | exact HBW.out)⟩⟩
 case round =>
  clear H'
  try clear p2
  obtain ⟨x4_1, x298002_1, rfl, HA, HK1, BK297, HB, HBW⟩ := hrel
  cases gk with
  | zero => exact absurd HA.out (by simp [spec_l01From.l0])
  | succ k1 =>
   have H := HA.out
   clear HA
   simp only [spec_l01From.l0] at H
   by_cases c3 : x4_1 < (l0.length : Int)
   rw [if_pos c3] at H
   have c3b0 := decide_eq_true c3
   clear c3
   by_cases c4 : x4_1 < 64
   rw [if_pos c4] at H
   have c4b0 := decide_eq_true c4
   clear c4
   by_cases c5 : 0 ≤ x4_1
   rw [if_pos c5] at H
   have c5b0 := decide_eq_true c5
   clear c5
   have H' := Aside0.mk H
   clear H
   rotate_left
   ·rw [if_neg c5] at H
    exact absurd H (by simp)
   rw [if_neg c4] at H
   have c4b0 := decide_eq_false c4
   clear c4
   rotate_left
   rw [if_neg c3] at H
   have c3b0 := decide_eq_false c3
   clear c3
   rotate_left
   ·try go_wp2
    have n0_ := asd (blk_drew BK297.out)
    replace HBW := asd (below_drew1 HBW.out)
    have n1_ := asd (below_drew1 HB.out)
    clear BK297
    clear HB
    have BK297 := n0_
    have HB := n1_
    clear n0_ n1_
    have p298 : 0 ≤ (x4_1 : Int) := od
    have q298 : x4_1 < (l0.length : Int) := od
    obtain ⟨ad298, e298, hx298_0⟩ := Kd.at_int HR0.out x4_1 p298 q298
    have hw298_0 := hx298_0
    cases e298
    replace hx298_0 := pw_cell_below HB.out hx298_0
    replace p298 := eq_true p298
    replace q298 := eq_true q298
    refine start_ (n := 16) (S := fun w' => w'.cell? ⟨gb297, 0, none⟩ = some (.slice (some ad298) l0.length c0) ∧ w'.cell? ⟨gb297, 1, none⟩ = some (.int .i64 0) ∧ w'.cell? ⟨gb297, 2, none⟩ = some (.int .i64 x298002_1) ∧ w'.cell? (ad298.add (x4_1).toNat) = some (.int .u8 (rd l0 x4_1))) (ds := [15]) (bT 16 0) (by kernel_rfl) rfl rfl ⟨bcl BK297 0, bcl BK297 1, bcl BK297 2, (xb HB hw298_0)⟩ (fun hHeld => ?_); refine with_tabW spec_l01From.tab5 spec_l01From.bits5 (fun HT_ HW_ => ?_)
    generalize wr.drew = w6 at HBW BK297 HB hx298_0 hHeld ⊢
    refine pu 0 (some 18) (bT 16 1) HT_ ?_
    refine pu 1 (some 19) (bT 16 2) HT_ ?_
    refine pu 2 (some 20) (bT 16 3) HT_ ?_
    refine pu 3 (some 21) (bT 16 4) HT_ ?_
    refine pu 6 (some 24) (bs 16 79) HT_ ?_
    refine pu 7 (some 25) (bs 16 207) HT_ ?_
    refine pu 8 (some 26) (bs 16 463) HT_ ?_
    refine ta 4 (some 22) (bs 16 479) HT_ HW_ hHeld ?_
    refine pu 5 (some 23) (bT 16 9) HT_ ?_
    refine ta 9 (some 27) (bT 16 10) HT_ HW_ hHeld ?_
    refine pu 10 (some 28) (bT 16 11) HT_ ?_
    refine pu 11 (some 29) (bT 16 12) HT_ ?_
    refine pu 12 (some 30) (bT 16 13) HT_ ?_
    refine pu 13 (some 31) (bT 16 14) HT_ ?_
    refine pu 14 (some 32) (bT 16 15) HT_ ?_
    refine last_ (i := 15) (N := none) (bT 16 16) rfl rfl (one_of HT_.out (by kernel_rfl)) (by decide) (fun K hK => ?_)
    have hs7 : w6.cell? ⟨gb297, 2, none⟩ = some (.int .i64 x298002_1) := bcl BK297 2
    have hfs7 := blk_frozen BK297.out 2
    refine skip_ (w1 := ?_) (by rfl) rfl ?_ ?_
    rotate_left
    ·go_simp
     rfl
    refine hK.out _ _ ?_
    clear hK K
    refine done_ (done_of HT_.out (by kernel_rfl)) ?_
    try go_wp2
    go_roundg k1
    case measure => have := HK1.out; omega
    case rel => exact ⟨(wrap64 (x4_1 + 1)), (Int.tmod (wrap64 ((wrap64 (x298002_1 * 73)) + (wrap64 (rd l0 x4_1)))) 2147483647), (by first | rfl | (simp; done) | (simp [*]; done)), H', ⟨by have := HK1.out; omega⟩, ⟨bq0 BK297⟩, ⟨bbw1 HB GE297⟩, ⟨by repeat (first | (with_reducible first | exact HBW.out | apply below_alloc | apply pw_below_drewN | apply below_drew1 | refine below_set ?_ GW297.out) | exact HBW.out)⟩⟩
   rotate_left 2
   all_goals
    simp only [Option.some.injEq, Prod.mk.injEq] at H
    obtain ⟨rfl, rfl, rfl⟩ := H
    go_wp2
    go_ret
    exact ⟨_, rfl, (show IsS106 w0 _ gb297 l0 0 x298002_1 from ⟨_, _, by (with_reducible repeat (first | refine blk_drewN ?_ _ | refine blk_drew ?_ | refine blk_alloc ?_ _)); exact BK297.out, GE297.out, HR0.out⟩), by repeat (first | (with_reducible first | exact HB.out | apply below_alloc | apply pw_below_drewN | apply below_drew1 | refine below_set ?_ GE297.out) | exact HB.out), by repeat (first | (with_reducible first | exact HBW.out | apply below_alloc | apply pw_below_drewN | apply below_drew1 | refine below_set ?_ GW297.out) | exact HBW.out)⟩
/-! ### spec_DrawCentreOf: function 7 -/
def spec_DrawCentreOf.f (k : Nat) (l0 : List Int) : Option (Int × Int × Int × Int × Int × Int) := (spec_l01From.f k l0).bind fun bt300 => ((spec_l05Draw.f k bt300.1 bt300.2.1 bt300.2.2).bind fun bt304 => (some (bt304.1, bt304.2.1, bt304.2.2.1, bt304.2.2.2.1, bt304.2.2.2.2.1, bt304.2.2.2.2.2.1)))
set_option maxHeartbeats 8000000 in
set_option maxRecDepth 100000 in
theorem spec_DrawCentreOf.calls (k : Nat) (A0 : Option Addr) (c0 : Nat) (l0 : List Int) (r1 : Int) (r2 : Int) (r3 : Int) (r4 : Int) (r5 : Int) (r6 : Int) (w : World) (hr0 : Kd.C (Kd.int .u8) w A0 l0.length l0) (hc0 : l0.length ≤ c0) (h : spec_DrawCentreOf.f k l0 = some (r1, r2, r3, r4, r5, r6)) :
  Calls Tryz.prog 7 #[.slice A0 l0.length c0] w fun e w' => e = .returned (.agg #[.int .i64 r1, .int .i64 r2, .int .i64 r3, .int .i64 r4, .int .i64 r5, .int .i64 r6]) ∧ Below w.heap.size w w' := by
 have hu29 := Tryz.underlying29
 have HR0 := Aside0.mk hr0
 have HC0 := Aside0.mk hc0
 clear hr0 hc0
 have HB := asd (Below.refl w.heap.size w)
 have H : ((spec_l01From.f k l0).bind fun bt300 => ((spec_l05Draw.f k bt300.1 bt300.2.1 bt300.2.2).bind fun bt304 => (some (bt304.1, bt304.2.1, bt304.2.2.1, bt304.2.2.2.1, bt304.2.2.2.2.1, bt304.2.2.2.2.2.1)))) = some (r1, r2, r3, r4, r5, r6) := h
 clear h
 obtain ⟨⟨t300, t301, t302⟩, A2, H⟩ := ob H
 try dsimp only at H
 obtain ⟨⟨t304, t305, t306, t307, t308, t309, t310, t311⟩, A3, H⟩ := ob H
 try dsimp only at H
 simp only [Option.some.injEq, Prod.mk.injEq] at H
 obtain ⟨rfl, rfl, rfl, rfl, rfl, rfl⟩ := H
 go_enter Tryz.func7, Tryz.ntmps7
 go_wp2_with (first | ((with_reducible refine gd 2 rfl ?_); refine bx #[.int .i64 0, .int .i64 0, .int .i64 0, .int .i64 0, .int .i64 0, .int .i64 0] 29 ?_; intro gb299 hg w4 BK299 hb; have GE299 := ngw0 hg HB; replace HB := bS0 HB hb; clear hb hg) | ((with_reducible refine gate_callee (f := 33) rfl ?_); refine gl 4 Tryz.func33 #[.slice A0 l0.length c0] ?_; (with_reducible refine (spec_l01From.calls _ _ _ _ _ _ _ w _ ?side1 ?side2 ?side3 A2.out).mono ?_); (case side1 => repeat (first | (with_reducible first | exact HB.out | apply below_alloc | apply pw_below_drewN | apply below_drew1 | refine below_set ?_ GE299.out) | exact HB.out)); (case side2 => exact HR0.out); (case side3 => exact HC0.out); rintro e w5 ⟨g303, rfl, hi, hb, hb2⟩; refine ⟨_, rfl, ?_⟩; replace HB := asd (hb); have HI303 := asd (hi); have NB303_299 := asd (IsS106.ne_blk hi (bbl BK299 hb2) (by decide)); have NB299_303 := asd (Ne.symm (IsS106.ne_blk hi (bbl BK299 hb2) (by decide))); replace BK299 := asd (bbl BK299 hb2); (try clear hb); (try clear hb2); (try clear hk); (try clear hi)) | ((with_reducible refine gate_callee (f := 32) rfl ?_); refine gl 5 Tryz.func32 #[.pointer (some ⟨g303, 0, none⟩)] ?_; (with_reducible refine (spec_l05Draw.calls _ _ _ _ _ _ _ _ _ _ _ _ _ w _ ?side1 ?side2 A3.out).mono ?_); (case side1 => repeat (first | (with_reducible first | exact HI303.out | apply IsS106.alloc | apply IsS106.drewN | apply IsS106.drew | apply IsS106.set_1 | apply IsS106.set_2 | refine IsS106.far ?_ NB303_299.out _) | exact HI303.out)); (case side2 => repeat (first | (with_reducible first | exact HB.out | apply below_alloc | apply pw_below_drewN | apply below_drew1 | refine below_set ?_ (IsS106.ge HI303.out) | refine below_set ?_ GE299.out) | exact HB.out)); rintro e w6 ⟨rfl, hi, hb, hk⟩; refine ⟨_, rfl, ?_⟩; replace BK299 := asd (KeepBut.blk hk (g' := gb299) (o := .cells #[.int .i64 0, .int .i64 0, .int .i64 0, .int .i64 0, .int .i64 0, .int .i64 0] 29 (0, 0)) (bkp BK299) NB299_303.out (by simp)); replace HB := asd (hb); replace HI303 := asd (hi); (try clear hb); (try clear hb2); (try clear hk); (try clear hi); have hnb7 := NB299_303.out; have hnc7 := NB303_299.out; obtain ⟨hcz8_0, hcz8_1, hcz8_2, hcz8_3, hcz8_4, hcz8_5, hfz8_0, hfz8_1, hfz8_2, hfz8_3, hfz8_4, hfz8_5⟩ := bz6 BK299))
 refine bodyPost_ret (results_cell_row rfl _ _ gb299 29 #[.int .i64 t304, .int .i64 t305, .int .i64 t306, .int .i64 t307, .int .i64 t308, .int .i64 t309] (0, 0) _ rfl (bq0 BK299) Tryz.underlying29 rfl (by kernel_rfl)) rfl ?_
 exact ⟨by first | rfl | (simp [errW_none, errW_some] <;> rfl) | (simp [*, errW_none, errW_some] <;> rfl), by repeat (first | (with_reducible first | exact HB.out | apply below_alloc | apply pw_below_drewN | apply below_drew1 | refine below_set ?_ (IsS106.ge HI303.out) | refine below_set ?_ GE299.out) | exact HB.out)⟩
/-! ### impl_within: function 68 -/
def impl_within.f (a0 : Int) (a1 : Int) (a2 : Int) : Option (Bool) := if a0 ≥ a1 then (some (decide (a0 ≤ a2))) else (some false)
set_option maxHeartbeats 8000000 in
set_option maxRecDepth 100000 in
theorem impl_within.calls (a0 : Int) (a1 : Int) (a2 : Int) (r : Bool) (w : World) (h : impl_within.f a0 a1 a2 = some r) :
  Calls Tryz.prog 68 #[.int .i64 a0, .int .i64 a1, .int .i64 a2] w fun e w' => e = .returned (.bool r) ∧ Drawn0 w w' := by
 have H : (if a0 ≥ a1 then (some (decide (a0 ≤ a2))) else (some false)) = some r := h
 clear h
 by_cases c4 : a0 ≥ a1
 ·rw [if_pos c4] at H
  have c4b0 : decide (a1 ≤ a0) = true := decide_eq_true c4
  clear c4
  obtain rfl := Option.some.inj H
  go_enter Tryz.func68, Tryz.ntmps68
  go_wp2
  go_ret
  exact ⟨by first | rfl | (simp; done) | (simp [*]; done), by repeat (first | exact Drawn0.refl _ | apply Drawn0.step)⟩
 ·rw [if_neg c4] at H
  have c4b0 : decide (a1 ≤ a0) = false := decide_eq_false c4
  clear c4
  obtain rfl := Option.some.inj H
  go_enter Tryz.func68, Tryz.ntmps68
  go_wp2
  go_ret
  exact ⟨by first | rfl | (simp; done) | (simp [*]; done), by repeat (first | exact Drawn0.refl _ | apply Drawn0.step)⟩
/-! ### impl_isCoordinate: function 88 -/
def impl_isCoordinate.f (a0 : Int) : Option (Bool) := (impl_within.f a0 (-1000) 1000).bind fun t312 => (some t312)
set_option maxHeartbeats 8000000 in
set_option maxRecDepth 100000 in
theorem impl_isCoordinate.calls (a0 : Int) (r : Bool) (w : World) (h : impl_isCoordinate.f a0 = some r) :
  Calls Tryz.prog 88 #[.int .i64 a0] w fun e w' => e = .returned (.bool r) ∧ Drawn0 w w' := by
 have H : ((impl_within.f a0 (-1000) 1000).bind fun t312 => (some t312)) = some r := h
 clear h
 obtain ⟨t312, A2, H⟩ := ob H
 try dsimp only at H
 obtain rfl := Option.some.inj H
 go_enter Tryz.func88, Tryz.ntmps88
 go_wp2_with (first | ((with_reducible refine gate_callee (f := 68) rfl ?_); refine gl 4 Tryz.func68 #[.int .i64 a0, .int .i64 (-1000), .int .i64 1000] ?_; (with_reducible refine (impl_within.calls _ _ _ _ _ A2.out).mono ?_); rintro e w' ⟨rfl, ⟨nd, rfl⟩⟩; refine ⟨_, rfl, ?_⟩))
 go_ret
 exact ⟨by first | rfl | (simp; done) | (simp [*]; done), by repeat (first | exact Drawn0.refl _ | apply Drawn0.step)⟩
/-! ### impl_IsVec: function 37 -/
def impl_IsVec.f (a0_0 : Int) (a0_1 : Int) : Option (Bool) := (impl_isCoordinate.f a0_0).bind fun t314 => (if t314 = true then ((impl_isCoordinate.f a0_1).bind fun t315 => (some t315)) else (some false))
set_option maxHeartbeats 8000000 in
set_option maxRecDepth 100000 in
theorem impl_IsVec.calls (a0_0 : Int) (a0_1 : Int) (r : Bool) (w : World) (h : impl_IsVec.f a0_0 a0_1 = some r) :
  Calls Tryz.prog 37 #[.agg #[.int .i64 a0_0, .int .i64 a0_1]] w fun e w' => e = .returned (.bool r) ∧ Below w.heap.size w w' := by
 have hu27 := Tryz.underlying27
 have HB := asd (Below.refl w.heap.size w)
 have H : ((impl_isCoordinate.f a0_0).bind fun t314 => (if t314 = true then ((impl_isCoordinate.f a0_1).bind fun t315 => (some t315)) else (some false))) = some r := h
 clear h
 obtain ⟨t314, A2, H⟩ := ob H
 try dsimp only at H
 by_cases c3 : t314 = true
 subst c3
 replace H := ifT H
 obtain ⟨t315, A4, H⟩ := ob H
 try dsimp only at H
 obtain rfl := Option.some.inj H
 rotate_left
 replace c3 := Bool.eq_false_iff.mpr c3
 subst c3
 replace H := ifF H
 obtain rfl := Option.some.inj H
 rotate_left
 all_goals
  go_enter Tryz.func37, Tryz.ntmps37
  go_wp2_with (first | ((with_reducible refine gd 1 rfl ?_); refine bx #[.int .i64 a0_0, .int .i64 a0_1] 27 ?_; intro gb313 hg w5 BK313 hb; have GE313 := ngw0 hg HB; replace HB := bS0 HB hb; clear hb hg; obtain ⟨hcz6_0, hcz6_1, hfz6_0, hfz6_1⟩ := bz2 BK313) | ((with_reducible refine gate_callee (f := 88) rfl ?_); refine gl 5 Tryz.func88 #[.int .i64 a0_0] ?_; (with_reducible refine (impl_isCoordinate.calls _ _ _ A2.out).mono ?_); rintro e w' ⟨rfl, ⟨nd, rfl⟩⟩; refine ⟨_, rfl, ?_⟩) | (go_at_call 88; (with_reducible refine (impl_isCoordinate.calls _ _ _ A4.out).mono ?_); rintro e w' ⟨rfl, ⟨nd, rfl⟩⟩))
  go_ret
  exact er (bbw1 HB GE313)
/-! ### impl_Mat_det: function 86 -/
def impl_Mat_det.f (a0_0 : Int) (a0_1 : Int) (a0_2 : Int) (a0_3 : Int) : Option (Int) := some (wrap64 ((wrap64 (a0_0 * a0_3)) - (wrap64 (a0_1 * a0_2))))
set_option maxHeartbeats 8000000 in
set_option maxRecDepth 100000 in
theorem impl_Mat_det.calls (a0_0 : Int) (a0_1 : Int) (a0_2 : Int) (a0_3 : Int) (r : Int) (w : World) (h : impl_Mat_det.f a0_0 a0_1 a0_2 a0_3 = some r) :
  Calls Tryz.prog 86 #[.agg #[.int .i64 a0_0, .int .i64 a0_1, .int .i64 a0_2, .int .i64 a0_3]] w fun e w' => e = .returned (.int .i64 r) ∧ Below w.heap.size w w' := by
 have hu25 := Tryz.underlying25
 have HB := asd (Below.refl w.heap.size w)
 have H : (some (wrap64 ((wrap64 (a0_0 * a0_3)) - (wrap64 (a0_1 * a0_2))))) = some r := h
 clear h
 obtain rfl := Option.some.inj H
 go_enter Tryz.func86, Tryz.ntmps86
 go_wp2_with (first | ((with_reducible refine gd 1 rfl ?_); refine bx #[.int .i64 a0_0, .int .i64 a0_1, .int .i64 a0_2, .int .i64 a0_3] 25 ?_; intro gb316 hg w2 BK316 hb; have GE316 := ngw0 hg HB; replace HB := bS0 HB hb; clear hb hg; obtain ⟨hcz3_0, hcz3_1, hcz3_2, hcz3_3, hfz3_0, hfz3_1, hfz3_2, hfz3_3⟩ := bz4 BK316))
 go_ret
 exact er (bbw1 HB GE316)
/-! ### impl_Mat_isSmall: function 96 -/
def impl_Mat_isSmall.f (a0_0 : Int) (a0_1 : Int) (a0_2 : Int) (a0_3 : Int) : Option (Bool) := (impl_isCoordinate.f a0_0).bind fun t318 => (if t318 = true then ((impl_isCoordinate.f a0_1).bind fun t319 => (if t319 = true then ((impl_isCoordinate.f a0_2).bind fun t320 => (if t320 = true then ((impl_isCoordinate.f a0_3).bind fun t321 => (some t321)) else (some false))) else (some false))) else (some false))
set_option maxHeartbeats 8000000 in
set_option maxRecDepth 100000 in
theorem impl_Mat_isSmall.calls (a0_0 : Int) (a0_1 : Int) (a0_2 : Int) (a0_3 : Int) (r : Bool) (w : World) (h : impl_Mat_isSmall.f a0_0 a0_1 a0_2 a0_3 = some r) :
  Calls Tryz.prog 96 #[.agg #[.int .i64 a0_0, .int .i64 a0_1, .int .i64 a0_2, .int .i64 a0_3]] w fun e w' => e = .returned (.bool r) ∧ Below w.heap.size w w' := by
 have hu25 := Tryz.underlying25
 have HB := asd (Below.refl w.heap.size w)
 have H : ((impl_isCoordinate.f a0_0).bind fun t318 => (if t318 = true then ((impl_isCoordinate.f a0_1).bind fun t319 => (if t319 = true then ((impl_isCoordinate.f a0_2).bind fun t320 => (if t320 = true then ((impl_isCoordinate.f a0_3).bind fun t321 => (some t321)) else (some false))) else (some false))) else (some false))) = some r := h
 clear h
 obtain ⟨t318, A2, H⟩ := ob H
 try dsimp only at H
 by_cases c3 : t318 = true
 subst c3
 replace H := ifT H
 obtain ⟨t319, A4, H⟩ := ob H
 try dsimp only at H
 by_cases c5 : t319 = true
 subst c5
 replace H := ifT H
 obtain ⟨t320, A6, H⟩ := ob H
 try dsimp only at H
 by_cases c7 : t320 = true
 subst c7
 replace H := ifT H
 obtain ⟨t321, A8, H⟩ := ob H
 try dsimp only at H
 obtain rfl := Option.some.inj H
 rotate_left
 replace c7 := Bool.eq_false_iff.mpr c7
 subst c7
 replace H := ifF H
 obtain rfl := Option.some.inj H
 rotate_left
 replace c5 := Bool.eq_false_iff.mpr c5
 subst c5
 replace H := ifF H
 obtain rfl := Option.some.inj H
 rotate_left
 replace c3 := Bool.eq_false_iff.mpr c3
 subst c3
 replace H := ifF H
 obtain rfl := Option.some.inj H
 rotate_left
 all_goals
  go_enter Tryz.func96, Tryz.ntmps96
  go_wp2_with (first | ((with_reducible refine gd 1 rfl ?_); refine bx #[.int .i64 a0_0, .int .i64 a0_1, .int .i64 a0_2, .int .i64 a0_3] 25 ?_; intro gb317 hg w9 BK317 hb; have GE317 := ngw0 hg HB; replace HB := bS0 HB hb; clear hb hg; obtain ⟨hcz10_0, hcz10_1, hcz10_2, hcz10_3, hfz10_0, hfz10_1, hfz10_2, hfz10_3⟩ := bz4 BK317) | ((with_reducible refine gate_callee (f := 88) rfl ?_); refine gl 5 Tryz.func88 #[.int .i64 a0_0] ?_; (with_reducible refine (impl_isCoordinate.calls _ _ _ A2.out).mono ?_); rintro e w' ⟨rfl, ⟨nd, rfl⟩⟩; refine ⟨_, rfl, ?_⟩) | (go_at_call 88; (with_reducible refine (impl_isCoordinate.calls _ _ _ A4.out).mono ?_); rintro e w' ⟨rfl, ⟨nd, rfl⟩⟩) | (go_at_call 88; (with_reducible refine (impl_isCoordinate.calls _ _ _ A6.out).mono ?_); rintro e w' ⟨rfl, ⟨nd, rfl⟩⟩) | (go_at_call 88; (with_reducible refine (impl_isCoordinate.calls _ _ _ A8.out).mono ?_); rintro e w' ⟨rfl, ⟨nd, rfl⟩⟩))
  go_ret
  exact er (bbw1 HB GE317)
/-! ### impl_IsMat: function 52 -/
def impl_IsMat.f (a0_0 : Int) (a0_1 : Int) (a0_2 : Int) (a0_3 : Int) : Option (Bool) := (impl_Mat_isSmall.f a0_0 a0_1 a0_2 a0_3).bind fun t323 => (if t323 = true then ((impl_Mat_det.f a0_0 a0_1 a0_2 a0_3).bind fun t324 => (if t324 = 1 then (some true) else ((impl_Mat_det.f a0_0 a0_1 a0_2 a0_3).bind fun t325 => (some (t325 == (-1)))))) else (some false))
set_option maxHeartbeats 8000000 in
set_option maxRecDepth 100000 in
theorem impl_IsMat.calls (a0_0 : Int) (a0_1 : Int) (a0_2 : Int) (a0_3 : Int) (r : Bool) (w : World) (h : impl_IsMat.f a0_0 a0_1 a0_2 a0_3 = some r) :
  Calls Tryz.prog 52 #[.agg #[.int .i64 a0_0, .int .i64 a0_1, .int .i64 a0_2, .int .i64 a0_3]] w fun e w' => e = .returned (.bool r) ∧ Below w.heap.size w w' := by
 have hu25 := Tryz.underlying25
 have HB := asd (Below.refl w.heap.size w)
 have H : ((impl_Mat_isSmall.f a0_0 a0_1 a0_2 a0_3).bind fun t323 => (if t323 = true then ((impl_Mat_det.f a0_0 a0_1 a0_2 a0_3).bind fun t324 => (if t324 = 1 then (some true) else ((impl_Mat_det.f a0_0 a0_1 a0_2 a0_3).bind fun t325 => (some (t325 == (-1)))))) else (some false))) = some r := h
 clear h
 obtain ⟨t323, A2, H⟩ := ob H
 try dsimp only at H
 by_cases c3 : t323 = true
 ·subst c3
  replace H := ifT H
  obtain ⟨t324, A4, H⟩ := ob H
  try dsimp only at H
  by_cases c5 : t324 = 1
  ·rw [if_pos c5] at H
   have c5b0 : (t324 == 1) = true := beq_iff_eq.mpr c5
   have c5b1 : (t324 != 1) = false := bne_eq_false_iff_eq.mpr c5
   clear c5
   obtain rfl := Option.some.inj H
   go_enter Tryz.func52, Tryz.ntmps52
   go_wp2_with (first | ((with_reducible refine gd 1 rfl ?_); refine bx #[.int .i64 a0_0, .int .i64 a0_1, .int .i64 a0_2, .int .i64 a0_3] 25 ?_; intro gb322 hg w6 BK322 hb; have GE322 := ngw0 hg HB; replace HB := bS0 HB hb; clear hb hg; obtain ⟨hcz7_0, hcz7_1, hcz7_2, hcz7_3, hfz7_0, hfz7_1, hfz7_2, hfz7_3⟩ := bz4 BK322) | ((with_reducible refine gate_callee (f := 96) rfl ?_); refine gl 4 Tryz.func96 #[.agg #[.int .i64 a0_0, .int .i64 a0_1, .int .i64 a0_2, .int .i64 a0_3]] ?_; (with_reducible refine (impl_Mat_isSmall.calls _ _ _ _ _ _ A2.out).mono ?_); rintro e w8 ⟨rfl, hb⟩; refine ⟨_, rfl, ?_⟩; replace BK322 := bB BK322 hb; replace HB := bS1 HB GE322 hb; (try clear hb); obtain ⟨hcz9_0, hcz9_1, hcz9_2, hcz9_3, hfz9_0, hfz9_1, hfz9_2, hfz9_3⟩ := bz4 BK322) | (go_at_call 86; (with_reducible refine (impl_Mat_det.calls _ _ _ _ _ _ A4.out).mono ?_); rintro e w10 ⟨rfl, hb⟩; replace BK322 := bB BK322 hb; replace HB := bS1 HB GE322 hb; (try clear hb)))
   go_ret
   exact er (bbw1 HB GE322)
  ·rw [if_neg c5] at H
   have c5b0 : (t324 == 1) = false := beq_eq_false_iff_ne.mpr c5
   have c5b1 : (t324 != 1) = true := bne_iff_ne.mpr c5
   obtain ⟨t325, A11, H⟩ := ob H
   try dsimp only at H
   have e_ : t324 = t325 := Option.some.inj (A4.out.symm.trans A11.out)
   subst e_
   obtain rfl := Option.some.inj H
   go_enter Tryz.func52, Tryz.ntmps52
   go_wp2_with (first | ((with_reducible refine gd 1 rfl ?_); refine bx #[.int .i64 a0_0, .int .i64 a0_1, .int .i64 a0_2, .int .i64 a0_3] 25 ?_; intro gb322 hg w12 BK322 hb; have GE322 := ngw0 hg HB; replace HB := bS0 HB hb; clear hb hg; obtain ⟨hcz13_0, hcz13_1, hcz13_2, hcz13_3, hfz13_0, hfz13_1, hfz13_2, hfz13_3⟩ := bz4 BK322) | ((with_reducible refine gate_callee (f := 96) rfl ?_); refine gl 4 Tryz.func96 #[.agg #[.int .i64 a0_0, .int .i64 a0_1, .int .i64 a0_2, .int .i64 a0_3]] ?_; (with_reducible refine (impl_Mat_isSmall.calls _ _ _ _ _ _ A2.out).mono ?_); rintro e w14 ⟨rfl, hb⟩; refine ⟨_, rfl, ?_⟩; replace BK322 := bB BK322 hb; replace HB := bS1 HB GE322 hb; (try clear hb); obtain ⟨hcz15_0, hcz15_1, hcz15_2, hcz15_3, hfz15_0, hfz15_1, hfz15_2, hfz15_3⟩ := bz4 BK322) | (go_at_call 86; (with_reducible refine (impl_Mat_det.calls _ _ _ _ _ _ A4.out).mono ?_); rintro e w16 ⟨rfl, hb⟩; replace BK322 := bB BK322 hb; replace HB := bS1 HB GE322 hb; (try clear hb); obtain ⟨hcz17_0, hcz17_1, hcz17_2, hcz17_3, hfz17_0, hfz17_1, hfz17_2, hfz17_3⟩ := bz4 BK322) | (go_at_call 86; (with_reducible refine (impl_Mat_det.calls _ _ _ _ _ _ A11.out).mono ?_); rintro e w18 ⟨rfl, hb⟩; replace BK322 := bB BK322 hb; replace HB := bS1 HB GE322 hb; (try clear hb)))
   go_ret
   exact er (bbw1 HB GE322)
 ·replace c3 := Bool.eq_false_iff.mpr c3
  subst c3
  replace H := ifF H
  obtain rfl := Option.some.inj H
  go_enter Tryz.func52, Tryz.ntmps52
  go_wp2_with (first | ((with_reducible refine gd 1 rfl ?_); refine bx #[.int .i64 a0_0, .int .i64 a0_1, .int .i64 a0_2, .int .i64 a0_3] 25 ?_; intro gb322 hg w19 BK322 hb; have GE322 := ngw0 hg HB; replace HB := bS0 HB hb; clear hb hg; obtain ⟨hcz20_0, hcz20_1, hcz20_2, hcz20_3, hfz20_0, hfz20_1, hfz20_2, hfz20_3⟩ := bz4 BK322) | ((with_reducible refine gate_callee (f := 96) rfl ?_); refine gl 4 Tryz.func96 #[.agg #[.int .i64 a0_0, .int .i64 a0_1, .int .i64 a0_2, .int .i64 a0_3]] ?_; (with_reducible refine (impl_Mat_isSmall.calls _ _ _ _ _ _ A2.out).mono ?_); rintro e w21 ⟨rfl, hb⟩; refine ⟨_, rfl, ?_⟩; replace BK322 := bB BK322 hb; replace HB := bS1 HB GE322 hb; (try clear hb)))
  go_ret
  exact er (bbw1 HB GE322)
/-! ### impl_unit: function 85 -/
def impl_unit.f  : Option (Int × Int × Int × Int) := some (1, 0, 0, 1)
set_option maxHeartbeats 8000000 in
set_option maxRecDepth 100000 in
theorem impl_unit.calls  (r1 : Int) (r2 : Int) (r3 : Int) (r4 : Int) (w : World) (h : impl_unit.f  = some (r1, r2, r3, r4)) :
  Calls Tryz.prog 85 #[] w fun e w' => e = .returned (.agg #[.int .i64 r1, .int .i64 r2, .int .i64 r3, .int .i64 r4]) ∧ Below w.heap.size w w' := by
 have hu25 := Tryz.underlying25
 have HB := asd (Below.refl w.heap.size w)
 have H : (some (1, 0, 0, 1)) = some (r1, r2, r3, r4) := h
 clear h
 simp only [Option.some.injEq, Prod.mk.injEq] at H
 obtain ⟨rfl, rfl, rfl, rfl⟩ := H
 go_enter Tryz.func85, Tryz.ntmps85
 go_wp2_with (first | ((with_reducible refine gd 0 rfl ?_); refine bx #[.int .i64 0, .int .i64 0, .int .i64 0, .int .i64 0] 25 ?_; intro gb326 hg w1 BK326 hb; have GE326 := ngw0 hg HB; replace HB := bS0 HB hb; clear hb hg; obtain ⟨hcz2_0, hcz2_1, hcz2_2, hcz2_3, hfz2_0, hfz2_1, hfz2_2, hfz2_3⟩ := bz4 BK326))
 refine bodyPost_ret (results_cell_row rfl _ _ gb326 25 #[.int .i64 1, .int .i64 0, .int .i64 0, .int .i64 1] (0, 0) _ rfl (bq0 BK326) Tryz.underlying25 rfl (by kernel_rfl)) rfl ?_
 exact er (bbw1 HB GE326)

end Go.Proofs.YtnblfcibgokccaaGreatDoor.PC
