import Derived.Test.YtdodghjnlekgeaaGreatPAx0
import Derived.Test.YtdodghjnlekgeaaGreatPAx10
import Derived.Test.YtdodghjnlekgeaaGreatPAx14
import Derived.Test.YtdodghjnlekgeaaGreatPAx16
namespace Go.Proofs.YtdodghjnlekgeaaGreat.PA
open Go.RowKit Go.Proofs.YtdodghjnlekgeaaGreatW.PrintWords Go.Proofs.YtdodghjnlekgeaaGreatW.PrintLast Go.Proofs.YtdodghjnlekgeaaGreatW.PrintMore
attribute [local go_sem] max2_int min2_int max_two min_two max_three min_three max_four min_four   -- for this text's walks alone
set_option linter.unusedVariables false
set_option linter.unusedSimpArgs false
def impl_latticeMats.app (m : S46) (x y : Int) : Int × Int := (impl_Mat_apply.f m.f0 m.f1 m.f2 m.f3 x y).getD (0, 0)
def impl_latticeMats.hasB (a b c : Int) (t : Int × Int) : Bool := (impl_Lattice_has.f a b c t.1 t.2).getD false
def impl_latticeMats.keep (a b c : Int) (m : S46) : Bool := impl_latticeMats.hasB a b c (impl_latticeMats.app m a 0) && impl_latticeMats.hasB a b c (impl_latticeMats.app m b c)
theorem impl_latticeMats.app_eq (m : S46) (x y : Int) : impl_Mat_apply.f m.f0 m.f1 m.f2 m.f3 x y = some ((impl_latticeMats.app m x y).1, (impl_latticeMats.app m x y).2) := rfl
theorem impl_latticeMats.has_eq (a b c : Int) (ha : a ≠ 0) (hc : c ≠ 0) (t : Int × Int) : impl_Lattice_has.f a b c t.1 t.2 = some (impl_latticeMats.hasB a b c t) := by
 have : (impl_Lattice_has.f a b c t.1 t.2).isSome = true := by
  simp [impl_Lattice_has.f, impl_Lattice_reduce.f, impl_mod.f, ha, hc]
 obtain ⟨r, hr⟩ := Option.isSome_iff_exists.1 this
 unfold impl_latticeMats.hasB
 rw [hr]; rfl
def impl_latticeMats.f (k : Nat) (a0 : Int) (a1_0 : Int) (a1_1 : Int) (a1_2 : Int) : Option (List S46) := if a1_0 = 0 then none else (if a1_2 = 0 then none else ((impl_pointMats.f k a0).bind fun l => some (l.filter (impl_latticeMats.keep a1_0 a1_1 a1_2))))
abbrev impl_latticeMats.Held (W : World) (a b c : Int) (L U V B : Nat) (x : S46) (w' : World) : Prop := Below W.heap.size W w' ∧ w'.cell? ⟨L, 0, none⟩ = some (.int .i64 a) ∧ w'.cell? ⟨L, 1, none⟩ = some (.int .i64 b) ∧ w'.cell? ⟨L, 2, none⟩ = some (.int .i64 c) ∧ w'.cell? ⟨U, 0, none⟩ = some (.int .i64 a) ∧ w'.cell? ⟨U, 1, none⟩ = some (.int .i64 0) ∧ w'.cell? ⟨V, 0, none⟩ = some (.int .i64 b) ∧ w'.cell? ⟨V, 1, none⟩ = some (.int .i64 c) ∧ w'.cell? ⟨B, 0, none⟩ = some (.int .i64 x.f0) ∧ w'.cell? ⟨B, 1, none⟩ = some (.int .i64 x.f1) ∧ w'.cell? ⟨B, 2, none⟩ = some (.int .i64 x.f2) ∧ w'.cell? ⟨B, 3, none⟩ = some (.int .i64 x.f3)
theorem impl_latticeMats.held_below {W : World} {a b c : Int} {L U V B : Nat} {x : S46} {w w' : World} (h : impl_latticeMats.Held W a b c L U V B x w) (hb : Below w.heap.size w w') : impl_latticeMats.Held W a b c L U V B x w' := by
 obtain ⟨h0, s0, s1, s2, s3, s4, s5, s6, s7, s8, s9, s10⟩ := h
 exact ⟨below_then h0 h0.size hb, (hb.cell (World.block_lt_of_cell? w _ s0)).trans s0, (hb.cell (World.block_lt_of_cell? w _ s1)).trans s1, (hb.cell (World.block_lt_of_cell? w _ s2)).trans s2, (hb.cell (World.block_lt_of_cell? w _ s3)).trans s3, (hb.cell (World.block_lt_of_cell? w _ s4)).trans s4, (hb.cell (World.block_lt_of_cell? w _ s5)).trans s5, (hb.cell (World.block_lt_of_cell? w _ s6)).trans s6, (hb.cell (World.block_lt_of_cell? w _ s7)).trans s7, (hb.cell (World.block_lt_of_cell? w _ s8)).trans s8, (hb.cell (World.block_lt_of_cell? w _ s9)).trans s9, (hb.cell (World.block_lt_of_cell? w _ s10)).trans s10⟩
theorem impl_latticeMats.held_drew {W : World} {a b c : Int} {L U V B : Nat} {x : S46} {w : World} (h : impl_latticeMats.Held W a b c L U V B x w) : impl_latticeMats.Held W a b c L U V B x w.drew := ⟨below_drew1 h.1, h.2⟩
set_option maxHeartbeats 40000000 in
set_option maxRecDepth 100000 in
theorem impl_latticeMats.pred (a b c : Int) (L U V : Nat) (W : World) (hl0 : W.cell? ⟨L, 0, none⟩ = some (.int .i64 a)) (hl1 : W.cell? ⟨L, 1, none⟩ = some (.int .i64 b)) (hl2 : W.cell? ⟨L, 2, none⟩ = some (.int .i64 c)) (hu0 : W.cell? ⟨U, 0, none⟩ = some (.int .i64 a)) (hu1 : W.cell? ⟨U, 1, none⟩ = some (.int .i64 0)) (hv0 : W.cell? ⟨V, 0, none⟩ = some (.int .i64 b)) (hv1 : W.cell? ⟨V, 1, none⟩ = some (.int .i64 c)) (ha : a ≠ 0) (hc : c ≠ 0) (x : S46) :
  Calls Tryz.prog 105 (#[.agg #[.int .i64 x.f0, .int .i64 x.f1, .int .i64 x.f2, .int .i64 x.f3]] ++ #[.pointer (some ⟨L, 0, none⟩), .pointer (some ⟨U, 0, none⟩), .pointer (some ⟨V, 0, none⟩)]) W fun e w' => e = .returned (.bool (!(impl_latticeMats.keep a b c x))) ∧ Below W.heap.size W w' := by
 show Calls Tryz.prog 105 #[.agg #[.int .i64 x.f0, .int .i64 x.f1, .int .i64 x.f2, .int .i64 x.f3], .pointer (some ⟨L, 0, none⟩), .pointer (some ⟨U, 0, none⟩), .pointer (some ⟨V, 0, none⟩)] W _
 have hu33 := Tryz.underlying46
 have hu34 := Tryz.underlying38
 have hu31 := Tryz.underlying29
 have A1 := asd (impl_latticeMats.app_eq x a 0)
 have A2 := asd (impl_latticeMats.has_eq a b c ha hc (impl_latticeMats.app x a 0))
 have A3 := asd (impl_latticeMats.app_eq x b c)
 have A4 := asd (impl_latticeMats.has_eq a b c ha hc (impl_latticeMats.app x b c))
 unfold impl_latticeMats.keep
 generalize impl_latticeMats.app x a 0 = p1 at A1 A2 ⊢
 generalize impl_latticeMats.app x b c = p2 at A3 A4 ⊢
 generalize impl_latticeMats.hasB a b c p1 = r1 at A2 ⊢
 generalize impl_latticeMats.hasB a b c p2 = r2 at A4 ⊢
 have hb0 := below_alloc (Below.refl W.heap.size W) (.cells #[.int .i64 x.f0, .int .i64 x.f1, .int .i64 x.f2, .int .i64 x.f3] 46)
 have hS0 : impl_latticeMats.Held W a b c L U V W.heap.size x (W.alloc (.cells #[.int .i64 x.f0, .int .i64 x.f1, .int .i64 x.f2, .int .i64 x.f3] 46)) :=
  ⟨hb0, (hb0.cell (World.block_lt_of_cell? W _ hl0)).trans hl0, (hb0.cell (World.block_lt_of_cell? W _ hl1)).trans hl1, (hb0.cell (World.block_lt_of_cell? W _ hl2)).trans hl2, (hb0.cell (World.block_lt_of_cell? W _ hu0)).trans hu0, (hb0.cell (World.block_lt_of_cell? W _ hu1)).trans hu1, (hb0.cell (World.block_lt_of_cell? W _ hv0)).trans hv0, (hb0.cell (World.block_lt_of_cell? W _ hv1)).trans hv1, by simp, by simp, by simp, by simp⟩
 have C1 := asd (fun (w' : World) (h : impl_latticeMats.Held W a b c L U V W.heap.size x w') => (impl_Mat_apply.calls _ _ _ _ _ _ _ _ _ A1.out).mono (fun e w'' (he : _ ∧ _) => (⟨he.1, impl_latticeMats.held_below h he.2⟩ : _ ∧ impl_latticeMats.Held W a b c L U V W.heap.size x w'')))
 have C2 := asd (fun (w' : World) (h : impl_latticeMats.Held W a b c L U V W.heap.size x w') => (impl_Lattice_has.calls _ _ _ _ _ _ _ A2.out).mono (fun e w'' (he : _ ∧ _) => (⟨he.1, impl_latticeMats.held_below h he.2⟩ : _ ∧ impl_latticeMats.Held W a b c L U V W.heap.size x w'')))
 have C3 := asd (fun (w' : World) (h : impl_latticeMats.Held W a b c L U V W.heap.size x w') => (impl_Mat_apply.calls _ _ _ _ _ _ _ _ _ A3.out).mono (fun e w'' (he : _ ∧ _) => (⟨he.1, impl_latticeMats.held_below h he.2⟩ : _ ∧ impl_latticeMats.Held W a b c L U V W.heap.size x w'')))
 have C4 := asd (fun (w' : World) (h : impl_latticeMats.Held W a b c L U V W.heap.size x w') => (impl_Lattice_has.calls _ _ _ _ _ _ _ A4.out).mono (fun e w'' (he : _ ∧ _) => (⟨he.1, impl_latticeMats.held_below h he.2⟩ : _ ∧ impl_latticeMats.Held W a b c L U V W.heap.size x w'')))
 clear hl0 hl1 hl2 hu0 hu1 hv0 hv1 ha hc hb0
 have hS1 := hS0
 obtain ⟨sb, s0, s1, s2, s3, s4, s5, s6, s7, s8, s9, s10⟩ := hS0
 cases r1 with
 | false =>
  go_enter Tryz.func105, Tryz.ntmps105
  go_wp2
  refine wp_region_held_drew (S := (fun w' => Below W.heap.size W w' ∧ w'.cell? ⟨L, 0, none⟩ = some (.int .i64 a) ∧ w'.cell? ⟨L, 1, none⟩ = some (.int .i64 b) ∧ w'.cell? ⟨L, 2, none⟩ = some (.int .i64 c) ∧ w'.cell? ⟨U, 0, none⟩ = some (.int .i64 a) ∧ w'.cell? ⟨U, 1, none⟩ = some (.int .i64 0) ∧ w'.cell? ⟨V, 0, none⟩ = some (.int .i64 b) ∧ w'.cell? ⟨V, 1, none⟩ = some (.int .i64 c) ∧ w'.cell? ⟨W.heap.size, 0, none⟩ = some (.int .i64 x.f0) ∧ w'.cell? ⟨W.heap.size, 1, none⟩ = some (.int .i64 x.f1) ∧ w'.cell? ⟨W.heap.size, 2, none⟩ = some (.int .i64 x.f2) ∧ w'.cell? ⟨W.heap.size, 3, none⟩ = some (.int .i64 x.f3))) (by kernel_rfl) (impl_latticeMats.held_drew hS1) (fun hHeld => ?_)
  refine wpAnyH_take (i := 0) (v := ?_) rfl (by kernel_rfl) (by kernel_rfl) (by kernel_rfl) (fun _ _ _ h => h) (Or.inl ⟨by rfl, ?_⟩) (by assumption) ?_
  rotate_left
  ·intro w' hSw; (try dsimp only at hSw); go_simp; first | done | with_reducible rfl
  rotate_left
  try simp only [Act.put, sA, sB, sC]
  refine wpAnyH_take (i := 1) (v := ?_) rfl (by kernel_rfl) (by kernel_rfl) (by kernel_rfl) (fun _ _ _ h => h) (Or.inl ⟨by rfl, ?_⟩) (by assumption) ?_
  rotate_left
  ·intro w' hSw; (try dsimp only at hSw); go_simp; first | done | with_reducible rfl
  rotate_left
  try simp only [Act.put, sA, sB, sC]
  refine wpAnyH_take (i := 2) (v := ?_) rfl (by kernel_rfl) (by kernel_rfl) (by kernel_rfl) (fun _ _ _ h => h) (Or.inl ⟨by rfl, ?_⟩) (by assumption) ?_
  rotate_left
  ·intro w' hSw; (try dsimp only at hSw); go_simp; first | done | with_reducible rfl
  rotate_left
  try simp only [Act.put, sA, sB, sC]
  refine wpAnyH_ready (rs := [3]) (by kernel_rfl) (by simp) ?_
  refine AllReadyH.cons rfl (fun K hK => ?_) AllReadyH.nil
  go_simp
  go_at_call 84
  (with_reducible refine (C1.out _ ?_).mono ?_)
  (assumption)
  rintro e w' ⟨rfl, hS'⟩
  refine hK.out _ _ (hS') (fun hHeld => ?_)
  clear hK K
  try simp only [Act.put, sA, sB, sC]
  refine wpAnyH_ready (rs := [4]) (by kernel_rfl) (by simp) ?_
  refine AllReadyH.cons rfl (fun K hK => ?_) AllReadyH.nil
  go_simp
  go_at_call 106
  (with_reducible refine (C2.out _ ?_).mono ?_)
  (assumption)
  rintro e w' ⟨rfl, hS'⟩
  refine hK.out _ _ (hS') (fun hHeld => ?_)
  clear hK K
  try simp only [Act.put, sA, sB, sC]
  refine wpAnyH_take (i := 5) (oi := { dst := some 11, op := _, type := _, pos := _, after := _, guard := _ }) (v := ?_) rfl (by kernel_rfl) (by kernel_rfl) (by kernel_rfl) (fun _ _ _ h => h) (Or.inl ⟨by rfl, ?_⟩) (by assumption) ?_
  rotate_left
  ·intro w' hSw; (try dsimp only at hSw); go_simp; first | done | with_reducible rfl
  rotate_left
  try simp only [Act.put, sA, sB, sC]
  refine wpAnyH_take (i := 6) (oi := { dst := some 12, op := _, type := _, pos := _, after := _, guard := _ }) (v := ?_) rfl (by kernel_rfl) (by kernel_rfl) (by kernel_rfl) (fun _ _ _ h => h) (Or.inl ⟨by rfl, ?_⟩) (by assumption) ?_
  rotate_left
  ·intro w' hSw; (try dsimp only at hSw); go_simp; first | done | with_reducible rfl
  rotate_left
  try simp only [Act.put, sA, sB, sC]
  refine wpAnyH_take (i := 7) (oi := { dst := some 13, op := _, type := _, pos := _, after := _, guard := _ }) (v := _) rfl (by kernel_rfl) (by kernel_rfl) (by kernel_rfl) (fun _ _ _ h => h) (Or.inr ⟨by rfl, rfl⟩) (by assumption) ?_
  try simp only [Act.put, sA, sB, sC]
  refine wpAnyH_take (i := 8) (oi := { dst := some 14, op := _, type := _, pos := _, after := _, guard := _ }) (v := _) rfl (by kernel_rfl) (by kernel_rfl) (by kernel_rfl) (fun _ _ _ h => h) (Or.inr ⟨by rfl, rfl⟩) (by assumption) ?_
  try simp only [Act.put, sA, sB, sC]
  refine wpAnyH_take (i := 9) (oi := { dst := some 15, op := _, type := _, pos := _, after := _, guard := _ }) (v := _) rfl (by kernel_rfl) (by kernel_rfl) (by kernel_rfl) (fun _ _ _ h => h) (Or.inr ⟨by rfl, rfl⟩) (by assumption) ?_
  try simp only [Act.put, sA, sB, sC]
  refine wpAnyH_take (i := 10) (oi := { dst := some 16, op := _, type := _, pos := _, after := _, guard := _ }) (v := _) rfl (by kernel_rfl) (by kernel_rfl) (by kernel_rfl) (fun _ _ _ h => h) (Or.inr ⟨by rfl, rfl⟩) (by assumption) ?_
  try simp only [Act.put, sA, sB, sC]
  refine wpAnyH_take (i := 11) (oi := { dst := some 17, op := _, type := _, pos := _, after := _, guard := _ }) (v := _) rfl (by kernel_rfl) (by kernel_rfl) (by kernel_rfl) (fun _ _ _ h => h) (Or.inr ⟨by rfl, rfl⟩) (by assumption) ?_
  try simp only [Act.put, sA, sB, sC]
  refine wpAnyH_take (i := 12) (oi := { dst := some 18, op := Op.unOp UnOp.not _ (Operand.tmp 17), type := _, pos := _, after := _, guard := _ }) (v := _) rfl (by kernel_rfl) (by kernel_rfl) (by kernel_rfl) (fun _ _ _ h => h) (Or.inr ⟨by rfl, rfl⟩) (by assumption) ?_
  try simp only [Act.put, sA, sB, sC]
  refine wpAnyH_take (i := 13) (oi := { dst := some 19, op := Op.pick (Operand.tmp 12) (Operand.const (Value.bool true)) (Operand.tmp 18), type := _, pos := _, after := _, guard := _ }) (v := ?_) rfl (by kernel_rfl) (by kernel_rfl) (by kernel_rfl) (fun _ _ _ h => h) (Or.inl ⟨by rfl, ?_⟩) (by assumption) ?_
  rotate_left
  ·intro w' hSw; (try dsimp only at hSw); go_simp; first | done | with_reducible rfl
  rotate_left
  try simp only [Act.put, sA, sB, sC]
  refine wpAnyH_take (i := 14) (oi := { dst := some 5, op := Op.assign (Operand.tmp 19), type := _, pos := _, after := _, guard := _ }) (v := ?_) rfl (by kernel_rfl) (by kernel_rfl) (by kernel_rfl) (fun _ _ _ h => h) (Or.inl ⟨by rfl, ?_⟩) (by assumption) ?_
  rotate_left
  ·intro w' hSw; (try dsimp only at hSw); go_simp; first | done | with_reducible rfl
  rotate_left
  try simp only [Act.put, sA, sB, sC]
  refine wpAnyH_done (by kernel_rfl) ?_ _
  all_goals go_wp2
  all_goals go_ret
  all_goals exact ⟨by first | rfl | (cases r2 <;> rfl), (show impl_latticeMats.Held W a b c L U V W.heap.size x _ by assumption).1⟩
 | true =>
  go_enter Tryz.func105, Tryz.ntmps105
  go_wp2
  first | (go_region_held3 (fun w' => Below W.heap.size W w' ∧ w'.cell? ⟨L, 0, none⟩ = some (.int .i64 a) ∧ w'.cell? ⟨L, 1, none⟩ = some (.int .i64 b) ∧ w'.cell? ⟨L, 2, none⟩ = some (.int .i64 c) ∧ w'.cell? ⟨U, 0, none⟩ = some (.int .i64 a) ∧ w'.cell? ⟨U, 1, none⟩ = some (.int .i64 0) ∧ w'.cell? ⟨V, 0, none⟩ = some (.int .i64 b) ∧ w'.cell? ⟨V, 1, none⟩ = some (.int .i64 c) ∧ w'.cell? ⟨W.heap.size, 0, none⟩ = some (.int .i64 x.f0) ∧ w'.cell? ⟨W.heap.size, 1, none⟩ = some (.int .i64 x.f1) ∧ w'.cell? ⟨W.heap.size, 2, none⟩ = some (.int .i64 x.f2) ∧ w'.cell? ⟨W.heap.size, 3, none⟩ = some (.int .i64 x.f3)) (first | assumption | exact impl_latticeMats.held_drew hS1 | go_keep)
   (first | (go_at_call 84; (with_reducible refine (C1.out _ ?_).mono ?_); (assumption); rintro e w' ⟨rfl, hS'⟩) | (go_at_call 106; (with_reducible refine (C2.out _ ?_).mono ?_); (assumption); rintro e w' ⟨rfl, hS'⟩) | (go_at_call 84; (with_reducible refine (C3.out _ ?_).mono ?_); (assumption); rintro e w' ⟨rfl, hS'⟩) | (go_at_call 106; (with_reducible refine (C4.out _ ?_).mono ?_); (assumption); rintro e w' ⟨rfl, hS'⟩))) | (fail "held3")
  all_goals go_wp2
  all_goals go_ret
  all_goals exact ⟨by first | rfl | (cases r2 <;> rfl), (show impl_latticeMats.Held W a b c L U V W.heap.size x _ by assumption).1⟩
set_option maxHeartbeats 4000000 in
set_option maxRecDepth 100000 in
theorem impl_latticeMats.calls (k : Nat) (a0 : Int) (a1_0 : Int) (a1_1 : Int) (a1_2 : Int) (r : List S46) (w : World) (h : impl_latticeMats.f k a0 a1_0 a1_1 a1_2 = some r) :
  Calls Tryz.prog 70 #[.int .i64 a0, .agg #[.int .i64 a1_0, .int .i64 a1_1, .int .i64 a1_2]] w fun e w' => ∃ v0_ : Value, e = .returned (v0_) ∧ Kd.R k46 46 w' w.heap.size (fun _ => True) v0_ r ∧ Below w.heap.size w w' := by
 have hu34 := Tryz.underlying38
 have hu31 := Tryz.underlying29
 unfold impl_latticeMats.f at h
 by_cases ha : a1_0 = 0
 ·rw [if_pos ha] at h; cases h
 rw [if_neg ha] at h
 by_cases hc : a1_2 = 0
 ·rw [if_pos hc] at h; cases h
 rw [if_neg hc] at h
 obtain ⟨l, h1, h2⟩ := Option.bind_eq_some_iff.1 h
 have hr := Option.some.inj h2
 subst hr
 have A1 := Aside0.mk h1
 have HA := Aside0.mk ha
 have HC := Aside0.mk hc
 have ABS := asd (show impl_Lattice_basis.f a1_0 a1_1 a1_2 = some (a1_0, 0, a1_1, a1_2) from rfl)
 clear h h1 h2 ha hc
 have eg : ∀ args w, (callFunc 105 args).run Tryz.prog w = .ok (.enter 105 args) w := enters_of Tryz.func105 (by kernel_rfl) rfl
 have EG := Aside0.mk eg
 clear eg
 go_enter Tryz.func70, Tryz.ntmps70
 go_wp2_with (first | (go_at_call 102; (with_reducible refine (impl_Lattice_basis.calls _ _ _ _ _ _ _ _ ABS.out).mono ?_); rintro e w2 ⟨rfl, hb2⟩; have HB2 := asd (below_then (below_alloc (Below.refl w.heap.size w) _) (below_alloc (Below.refl w.heap.size w) _).size hb2); have HL := Aside0.mk hb2; clear hb2) | (go_at_call 104; (with_reducible refine (impl_pointMats.calls _ _ _ _ A1.out).mono ?_); rintro e w3 ⟨v0, rfl, hR, hb3⟩; have HR3 := Aside0.mk hR; have HB3 := Aside0.mk hb3; clear hR hb3))
 obtain ⟨wA, hwA⟩ : ∃ wA, wA = (w2.alloc (.cells #[.int .i64 a1_0, .int .i64 0] 38)).alloc (.cells #[.int .i64 a1_1, .int .i64 a1_2] 38) := ⟨_, rfl⟩
 have hAB : Below w2.heap.size w2 wA := by rw [hwA]; exact below_alloc (below_alloc (Below.refl _ _) _) _
 have hl : ∀ o v, (w.alloc (.cells #[.int .i64 a1_0, .int .i64 a1_1, .int .i64 a1_2] 29)).cell? ⟨w.heap.size, o, none⟩ = some v → wA.cell? ⟨w.heap.size, o, none⟩ = some v := fun o v hv => by
  have h1 : w2.cell? ⟨w.heap.size, o, none⟩ = some v := (HL.out.cell (p := ⟨w.heap.size, o, none⟩) (by simp)).trans hv
  exact (hAB.cell (World.block_lt_of_cell? w2 _ h1)).trans h1
 have hl0 := hl 0 (.int .i64 a1_0) (by simp)
 have hl1 := hl 1 (.int .i64 a1_1) (by simp)
 have hl2 := hl 2 (.int .i64 a1_2) (by simp)
 have hu0 : wA.cell? ⟨w2.heap.size, 0, none⟩ = some (.int .i64 a1_0) := by rw [hwA]; simp
 have hu1 : wA.cell? ⟨w2.heap.size, 1, none⟩ = some (.int .i64 0) := by rw [hwA]; simp
 have hv0 : wA.cell? ⟨w2.heap.size + 1, 0, none⟩ = some (.int .i64 a1_1) := by rw [hwA]; simp
 have hv1 : wA.cell? ⟨w2.heap.size + 1, 1, none⟩ = some (.int .i64 a1_2) := by rw [hwA]; simp
 have hBA : Below w.heap.size w wA := below_then HB2.out HB2.out.size hAB
 have HR4 := HR3.out
 have HB4 := HB3.out
 rw [← hwA] at HR4 HB4
 have up : ∀ (W : World) (p : Addr) (v : Value), Below wA.heap.size wA W → wA.cell? p = some v → W.cell? p = some v := fun W p v hb h => (hb.cell (World.block_lt_of_cell? wA _ h)).trans h
 refine (impl_Mat_103.calls (fun x => !(impl_latticeMats.keep a1_0 a1_1 a1_2 x)) 105 #[.pointer (some ⟨w.heap.size, 0, none⟩), .pointer (some ⟨w2.heap.size, 0, none⟩), .pointer (some ⟨w2.heap.size + 1, 0, none⟩)] EG.out (fun k_ => wA.heap.size ≤ k_) v0 l wA w3 HB4 (Kd.R_mono (Kd.R_bound HR4) (fun k_ hk => hk.2.1)) (fun x W hb _ => impl_latticeMats.pred a1_0 a1_1 a1_2 w.heap.size w2.heap.size (w2.heap.size + 1) W (up W _ _ hb hl0) (up W _ _ hb hl1) (up W _ _ hb hl2) (up W _ _ hb hu0) (up W _ _ hb hu1) (up W _ _ hb hv0) (up W _ _ hb hv1) HA.out HC.out x)).mono ?_
 rintro e w4 ⟨v', rfl, hR4, hb4, _⟩
 have HR5 := Aside0.mk hR4
 have HB5 := Aside0.mk hb4
 have HBA := Aside0.mk hBA
 clear hl hl0 hl1 hl2 hu0 hu1 hv0 hv1 hAB hBA HR4 HB4 up hR4 hb4 hwA
 go_wp2
 go_ret
 refine ⟨_, rfl, ?_, below_then HBA.out HBA.out.size HB5.out⟩
 have hf : (l.filter fun x => !(!(impl_latticeMats.keep a1_0 a1_1 a1_2 x))) = l.filter (impl_latticeMats.keep a1_0 a1_1 a1_2) := by congr 1; funext x; simp
 have := HR5.out
 rw [hf] at this
 exact Kd.R_mono (Kd.R_lower this HBA.out.size) (fun _ _ => trivial)
end Go.Proofs.YtdodghjnlekgeaaGreat.PA
