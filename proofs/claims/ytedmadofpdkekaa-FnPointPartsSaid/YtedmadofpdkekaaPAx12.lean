import Derived.Test.YtedmadofpdkekaaPAx0
import Derived.Test.YtedmadofpdkekaaPAx5
import Derived.Test.YtedmadofpdkekaaPAx11
namespace Go.Proofs.Ytedmadofpdkekaa.PA
open Go.RowKit Go.Proofs.YtedmadofpdkekaaW.PrintWords Go.Proofs.YtedmadofpdkekaaW.PrintLast Go.Proofs.YtedmadofpdkekaaW.PrintMore
attribute [local go_sem] max2_int min2_int max_two min_two max_three min_three max_four min_four   -- for this text's walks alone
set_option linter.unusedVariables false
set_option maxHeartbeats 8000000
set_option maxRecDepth 100000
set_option linter.unusedSimpArgs false
def spec_DrawPointPart.f (k : Nat) (l0 : List Int) : Option (Int × Int × Int × Int × (List (S55))) := (spec_l01From.f k l0).bind fun Ac => ((spec_l06Draw.f k Ac.1 Ac.2.1 Ac.2.2).bind fun Aa => (some (Aa.1, Aa.2.1, Aa.2.2.1, Aa.2.2.2.1, Aa.2.2.2.2.1)))
theorem spec_DrawPointPart.calls (k : Nat) (A0 : Option Addr) (c0 : Nat) (l0 : List Int) (r1 : Int) (r2 : Int) (r3 : Int) (r4 : Int) (r5 : List (S55)) (w : World) (hr0 : Kd.C (Kd.int .u8) w A0 l0.length l0) (hc0 : l0.length ≤ c0) (h : spec_DrawPointPart.f k l0 = some (r1, r2, r3, r4, r5)) :
  Calls Try.prog 5 #[.slice A0 l0.length c0] w fun e w' => ∃ v4_ : Value, e = .returned (.tuple #[.int .i64 r1, .agg #[.int .i64 r2, .int .i64 r3, .int .i64 r4], v4_]) ∧ Kd.R k55 55 w' w.heap.size (fun _ => True) v4_ r5 ∧ Below w.heap.size w w' := by
 have hu25 := Try.underlying25
 have HR0 := Aside0.mk hr0
 have As := Aside0.mk hc0
 clear hr0 hc0
 have HB := asd (Below.refl w.heap.size w)
 have H : ((spec_l01From.f k l0).bind fun Ac => ((spec_l06Draw.f k Ac.1 Ac.2.1 Ac.2.2).bind fun Aa => (some (Aa.1, Aa.2.1, Aa.2.2.1, Aa.2.2.2.1, Aa.2.2.2.2.1)))) = some (r1, r2, r3, r4, r5) := h
 clear h
 obtain ⟨⟨At, Au, Av⟩, A2, H⟩ := ob H
 try dsimp only at H
 obtain ⟨⟨Aw, Ai, Aj, Ak, Ax, Ay, Az⟩, A3, H⟩ := ob H
 try dsimp only at H
 simp only [Option.some.injEq, Prod.mk.injEq] at H
 obtain ⟨rfl, rfl, rfl, rfl, rfl⟩ := H
 go_enter Try.func5, Try.ntmps5
 go_wp2_with (first | ((with_reducible refine gd 3 rfl ?_); refine bx #[.int .i64 0, .int .i64 0, .int .i64 0] 25 ?_; intro Ag hg w4 Ab hb; have Af := ngw0 hg HB; replace HB := bS0 HB hb; clear hb hg) | ((with_reducible refine gate_callee (f := 15) rfl ?_); refine gl 6 Try.func15 #[.slice A0 l0.length c0] ?_; (with_reducible refine (spec_l01From.calls _ _ _ _ _ _ _ w _ ?side1 ?side2 ?side3 A2.out).mono ?_); (case side1 => repeat (first | (with_reducible first | exact HB.out | apply qo | apply qn | apply qm | refine ql ?_ Af.out) | exact HB.out)); (case side2 => exact HR0.out); (case side3 => exact As.out); rintro e w5 ⟨g460, rfl, hi, hb, hb2⟩; refine ⟨_, rfl, ?_⟩; replace HB := asd (hb); have HI460 := asd (hi); have Ad := asd (IsS64.ne_blk hi (bbl Ab hb2) (by decide)); have Ae := asd (Ne.symm (IsS64.ne_blk hi (bbl Ab hb2) (by decide))); replace Ab := asd (bbl Ab hb2); (try clear hb); (try clear hb2); (try clear hk); (try clear hi)) | ((with_reducible refine gate_callee (f := 14) rfl ?_); refine gl 7 Try.func14 #[.pointer (some ⟨g460, 0, none⟩)] ?_; (with_reducible refine (spec_l06Draw.calls _ _ _ _ _ _ _ _ _ _ _ _ w _ ?side1 ?side2 A3.out).mono ?_); (case side1 => repeat (first | (with_reducible first | exact HI460.out | apply qc | apply qb | apply qf | apply qd | apply qe | refine qa ?_ Ad.out _) | exact HI460.out)); (case side2 => repeat (first | (with_reducible first | exact HB.out | apply qo | apply qn | apply qm | refine ql ?_ (IsS64.ge HI460.out) | refine ql ?_ Af.out) | exact HB.out)); rintro e w6 ⟨v466, rfl, Ar, hi, hb, hk⟩; refine ⟨_, rfl, ?_⟩; replace Ab := asd (KeepBut.blk hk (g' := Ag) (o := .cells #[.int .i64 0, .int .i64 0, .int .i64 0] 25 (0, 0)) (bkp Ab) Ae.out (by simp)); have Ah := asd (Kd.R_lower Ar (below_size (by repeat (first | (with_reducible first | exact HB.out | apply qo | apply qn | apply qm | refine ql ?_ (IsS64.ge HI460.out) | refine ql ?_ Af.out) | exact HB.out)))); replace HB := asd (hb); replace HI460 := asd (hi); (try clear hb); (try clear hb2); (try clear hk); (try clear hi); (try clear Ar); have AA := Ae.out; have AB := Ad.out; obtain ⟨Al, Am, An, Ao, Ap, Aq⟩ := bz3 Ab))
 refine bodyPost_ret (results_list (rs := [.tmp 2, .cell 3 25, .tmp 4]) rfl (by simp) (.tmp (.cell Ag 25 #[.int .i64 Ai, .int .i64 Aj, .int .i64 Ak] (0, 0) _ rfl (bq0 Ab) Try.underlying25 rfl (by kernel_rfl) (.tmp .nil)))) rfl ?_
 exact ⟨_, by first | rfl | (simp [errW_none, errW_some] <;> rfl) | (simp [*, errW_none, errW_some] <;> rfl), by (with_reducible repeat (first | apply Kd.R_alloc | apply Kd.R_drewN | apply Kd.R_drew)); exact Kd.R_mono (rw3 (Kd.R_types Ah.out Ab.out (by decide))) (fun _ hk => trivial), by repeat (first | (with_reducible first | exact HB.out | apply qo | apply qn | apply qm | refine ql ?_ (IsS64.ge HI460.out) | refine ql ?_ Af.out) | exact HB.out)⟩
def impl_within.f (a0 : Int) (a1 : Int) (a2 : Int) : Option (Bool) := if a0 ≥ a1 then (some (decide (a0 ≤ a2))) else (some false)
theorem impl_within.calls (a0 : Int) (a1 : Int) (a2 : Int) (r : Bool) (w : World) (h : impl_within.f a0 a1 a2 = some r) :
  Calls Try.prog 73 #[.int .i64 a0, .int .i64 a1, .int .i64 a2] w fun e w' => e = .returned (.bool r) ∧ Drawn0 w w' := by
 have H : (if a0 ≥ a1 then (some (decide (a0 ≤ a2))) else (some false)) = some r := h
 clear h
 by_cases c4 : a0 ≥ a1
 ·rw [if_pos c4] at H;have Aa : decide (a1 ≤ a0) = true := qp c4;clear c4;obtain rfl := Option.some.inj H;go_enter Try.func73, Try.ntmps73
  go_wp2
  go_ret
  exact ⟨by first | rfl | (simp; done) | (simp [*]; done), by repeat (first | exact Drawn0.refl _ | apply Drawn0.step)⟩
 ·rw [if_neg c4] at H;have Aa : decide (a1 ≤ a0) = false := qq c4;clear c4;obtain rfl := Option.some.inj H;go_enter Try.func73, Try.ntmps73
  go_wp2
  go_ret
  exact ⟨by first | rfl | (simp; done) | (simp [*]; done), by repeat (first | exact Drawn0.refl _ | apply Drawn0.step)⟩
def impl_IsFrame.f (a0 : Int) : Option (Bool) := (impl_within.f a0 0 1).bind fun Aa => (some Aa)
theorem impl_IsFrame.calls (a0 : Int) (r : Bool) (w : World) (h : impl_IsFrame.f a0 = some r) :
  Calls Try.prog 53 #[.int .i64 a0] w fun e w' => e = .returned (.bool r) ∧ Drawn0 w w' := by
 have H : ((impl_within.f a0 0 1).bind fun Aa => (some Aa)) = some r := h
 clear h
 obtain ⟨Aa, A2, H⟩ := ob H
 try dsimp only at H
 obtain rfl := Option.some.inj H
 go_enter Try.func53, Try.ntmps53
 go_wp2_with (first | ((with_reducible refine gate_callee (f := 73) rfl ?_); refine gl 4 Try.func73 #[.int .i64 a0, .int .i64 0, .int .i64 1] ?_; (with_reducible refine (impl_within.calls _ _ _ _ _ A2.out).mono ?_); rintro e w' ⟨rfl, ⟨nd, rfl⟩⟩; refine ⟨_, rfl, ?_⟩))
 go_ret
 exact ⟨by first | rfl | (simp; done) | (simp [*]; done), by repeat (first | exact Drawn0.refl _ | apply Drawn0.step)⟩
def impl_Lattice_index.f (Aa : Int) (Ac : Int) (Ab : Int) : Option (Int) := some (wrap64 (Aa * Ab))
theorem impl_Lattice_index.calls (Aa : Int) (Ac : Int) (Ab : Int) (r : Int) (w : World) (h : impl_Lattice_index.f Aa Ac Ab = some r) :
  Calls Try.prog 74 #[.agg #[.int .i64 Aa, .int .i64 Ac, .int .i64 Ab]] w fun e w' => e = .returned (.int .i64 r) ∧ Below w.heap.size w w' := by
 have hu25 := Try.underlying25
 have HB := asd (Below.refl w.heap.size w)
 have H : (some (wrap64 (Aa * Ab))) = some r := h
 clear h
 obtain rfl := Option.some.inj H
 go_enter Try.func74, Try.ntmps74
 go_wp2_with (first | ((with_reducible refine gd 1 rfl ?_); refine bx #[.int .i64 Aa, .int .i64 Ac, .int .i64 Ab] 25 ?_; intro Al hg w2 Ad hb; have Ae := ngw0 hg HB; replace HB := bS0 HB hb; clear hb hg; obtain ⟨Af, Ag, Ah, Ai, Aj, Ak⟩ := bz3 Ad))
 go_ret
 exact er (bbw1 HB Ae)
def impl_IsLattice.f (Aa : Int) (Ab : Int) (Ac : Int) : Option (Bool) := (impl_within.f Aa 1 64).bind fun Ad => (if Ad = true then ((impl_within.f Ac 1 64).bind fun Ae => (if Ae = true then ((impl_within.f Ab 0 (wrap64 (Aa - 1))).bind fun Af => (if Af = true then ((impl_Lattice_index.f Aa Ab Ac).bind fun Ah => (some (decide (Ah ≤ 64)))) else (some false))) else (some false))) else (some false))
theorem impl_IsLattice.calls (Aa : Int) (Ab : Int) (Ac : Int) (r : Bool) (w : World) (h : impl_IsLattice.f Aa Ab Ac = some r) :
  Calls Try.prog 54 #[.agg #[.int .i64 Aa, .int .i64 Ab, .int .i64 Ac]] w fun e w' => e = .returned (.bool r) ∧ Below w.heap.size w w' := by
 have hu25 := Try.underlying25
 have HB := asd (Below.refl w.heap.size w)
 have H : ((impl_within.f Aa 1 64).bind fun Ad => (if Ad = true then ((impl_within.f Ac 1 64).bind fun Ae => (if Ae = true then ((impl_within.f Ab 0 (wrap64 (Aa - 1))).bind fun Af => (if Af = true then ((impl_Lattice_index.f Aa Ab Ac).bind fun Ah => (some (decide (Ah ≤ 64)))) else (some false))) else (some false))) else (some false))) = some r := h
 clear h
 obtain ⟨Ad, A2, H⟩ := ob H
 try dsimp only at H
 by_cases c3 : Ad = true
 subst c3
 replace H := ifT H
 obtain ⟨Ae, A4, H⟩ := ob H
 try dsimp only at H
 by_cases c5 : Ae = true
 subst c5
 replace H := ifT H
 obtain ⟨Af, A6, H⟩ := ob H
 try dsimp only at H
 by_cases c7 : Af = true
 subst c7
 replace H := ifT H
 obtain ⟨Ah, A8, H⟩ := ob H
 try dsimp only at H
 obtain rfl := Option.some.inj H
 rotate_left
 replace c7 := Bool.eq_false_iff.mpr c7
 subst c7
 replace H := ifF H
 obtain rfl := Option.some.inj H
 rotate_left
 replace c5 := Bool.eq_false_iff.mpr c5
 subst c5
 replace H := ifF H
 obtain rfl := Option.some.inj H
 rotate_left
 replace c3 := Bool.eq_false_iff.mpr c3
 subst c3
 replace H := ifF H
 obtain rfl := Option.some.inj H
 rotate_left
 all_goals
  go_enter Try.func54, Try.ntmps54
  go_wp2_with (first | ((with_reducible refine gd 1 rfl ?_); refine bx #[.int .i64 Aa, .int .i64 Ab, .int .i64 Ac] 25 ?_; intro Ap hg w9 Ag hb; have Ai := ngw0 hg HB; replace HB := bS0 HB hb; clear hb hg; obtain ⟨Aj, Ak, Al, Am, An, Ao⟩ := bz3 Ag) | ((with_reducible refine gate_callee (f := 73) rfl ?_); refine gl 5 Try.func73 #[.int .i64 Aa, .int .i64 1, .int .i64 64] ?_; (with_reducible refine (impl_within.calls _ _ _ _ _ A2.out).mono ?_); rintro e w' ⟨rfl, ⟨nd, rfl⟩⟩; refine ⟨_, rfl, ?_⟩) | (go_at_call 73; (with_reducible refine (impl_within.calls _ _ _ _ _ A4.out).mono ?_); rintro e w' ⟨rfl, ⟨nd, rfl⟩⟩) | (go_at_call 73; (with_reducible refine (impl_within.calls _ _ _ _ _ A6.out).mono ?_); rintro e w' ⟨rfl, ⟨nd, rfl⟩⟩) | (go_at_call 74; (with_reducible refine (impl_Lattice_index.calls _ _ _ _ _ A8.out).mono ?_); rintro e Aq ⟨rfl, hb⟩; replace Ag := bB Ag hb; replace HB := bS1 HB Ai hb; (try clear hb)));go_ret
  exact er (bbw1 HB Ai)
def impl_frameCode.f (a0 : Int) (Ab : Int) (Ac : Int) (Ad : Int) : Option (Int) := (impl_IsFrame.f a0).bind fun Ag => (if Ag = true then ((impl_IsLattice.f Ab Ac Ad).bind fun Ah => (if Ah = true then (some 0) else (some 1))) else (some 1))
theorem impl_frameCode.calls (a0 : Int) (Ab : Int) (Ac : Int) (Ad : Int) (r : Int) (w : World) (h : impl_frameCode.f a0 Ab Ac Ad = some r) :
  Calls Try.prog 33 #[.int .i64 a0, .agg #[.int .i64 Ab, .int .i64 Ac, .int .i64 Ad]] w fun e w' => e = .returned (.int .i64 r) ∧ Below w.heap.size w w' := by
 have hu25 := Try.underlying25
 have HB := asd (Below.refl w.heap.size w)
 have H : ((impl_IsFrame.f a0).bind fun Ag => (if Ag = true then ((impl_IsLattice.f Ab Ac Ad).bind fun Ah => (if Ah = true then (some 0) else (some 1))) else (some 1))) = some r := h
 clear h
 obtain ⟨Ag, A3, H⟩ := ob H
 try dsimp only at H
 by_cases c4 : Ag = true
 subst c4
 replace H := ifT H
 obtain ⟨Ah, A5, H⟩ := ob H
 try dsimp only at H
 by_cases c6 : Ah = true
 subst c6
 replace H := ifT H
 obtain rfl := Option.some.inj H
 rotate_left
 replace c6 := Bool.eq_false_iff.mpr c6
 subst c6
 replace H := ifF H
 obtain rfl := Option.some.inj H
 rotate_left
 replace c4 := Bool.eq_false_iff.mpr c4
 subst c4
 replace H := ifF H
 obtain rfl := Option.some.inj H
 rotate_left
 all_goals
  go_enter Try.func33, Try.ntmps33
 rotate_left 2
 ·go_wp2_with (first | ((with_reducible refine gd 3 rfl ?_); refine bx #[.int .i64 Ab, .int .i64 Ac, .int .i64 Ad] 25 ?_; intro Ae hg Ao Aa hb; have Af := ngw0 hg HB; replace HB := bS0 HB hb; clear hb hg) | ((with_reducible refine gate_callee (f := 53) rfl ?_); refine gl 6 Try.func53 #[.int .i64 a0] ?_; (with_reducible refine (impl_IsFrame.calls _ _ _ A3.out).mono ?_); rintro e w' ⟨rfl, ⟨nd, rfl⟩⟩; refine ⟨_, rfl, ?_⟩));go_ret
  exact er (bbw1 HB Af)
 all_goals
  go_wp2_with (first | ((with_reducible refine gd 3 rfl ?_); refine bx #[.int .i64 Ab, .int .i64 Ac, .int .i64 Ad] 25 ?_; intro Ae hg w7 Aa hb; have Af := ngw0 hg HB; replace HB := bS0 HB hb; clear hb hg) | ((with_reducible refine gate_callee (f := 53) rfl ?_); refine gl 6 Try.func53 #[.int .i64 a0] ?_; (with_reducible refine (impl_IsFrame.calls _ _ _ A3.out).mono ?_); rintro e w' ⟨rfl, ⟨nd, rfl⟩⟩; refine ⟨_, rfl, ?_⟩; have Ai : w7.cell? ⟨Ae, 0, none⟩ = some (.int .i64 Ab) := bcl Aa 0; have Aj : w7.cell? ⟨Ae, 1, none⟩ = some (.int .i64 Ac) := bcl Aa 1; have Ak : w7.cell? ⟨Ae, 2, none⟩ = some (.int .i64 Ad) := bcl Aa 2; have Al := blk_frozen Aa.out 0; have Am := blk_frozen Aa.out 1; have An := blk_frozen Aa.out 2) | (go_at_call 54; (with_reducible refine (impl_IsLattice.calls _ _ _ _ _ A5.out).mono ?_); rintro e w9 ⟨rfl, hb⟩; replace Aa := bB Aa hb; replace HB := bS1 HB Af hb; (try clear hb)));go_ret
  exact er (bbw1 HB Af)
def impl_unit.f  : Option (Int × Int × Int × Int) := some (1, 0, 0, 1)
theorem impl_unit.calls  (r1 : Int) (r2 : Int) (r3 : Int) (r4 : Int) (w : World) (h : impl_unit.f  = some (r1, r2, r3, r4)) :
  Calls Try.prog 40 #[] w fun e w' => e = .returned (.agg #[.int .i64 r1, .int .i64 r2, .int .i64 r3, .int .i64 r4]) ∧ Below w.heap.size w w' := by
 have hu51 := Try.underlying51
 have HB := asd (Below.refl w.heap.size w)
 have H : (some (1, 0, 0, 1)) = some (r1, r2, r3, r4) := h
 clear h
 simp only [Option.some.injEq, Prod.mk.injEq] at H
 obtain ⟨rfl, rfl, rfl, rfl⟩ := H
 go_enter Try.func40, Try.ntmps40
 go_wp2_with (first | ((with_reducible refine gd 0 rfl ?_); refine bx #[.int .i64 0, .int .i64 0, .int .i64 0, .int .i64 0] 51 ?_; intro Ab hg w1 Aa hb; have Ac := ngw0 hg HB; replace HB := bS0 HB hb; clear hb hg; obtain ⟨Ad, Ae, Af, Ag, Ah, Ai, Aj, Ak⟩ := bz4 Aa))
 refine bodyPost_ret (results_cell_row rfl _ _ Ab 51 #[.int .i64 1, .int .i64 0, .int .i64 0, .int .i64 1] (0, 0) _ rfl (bq0 Aa) Try.underlying51 rfl (by kernel_rfl)) rfl ?_
 exact er (bbw1 HB Ac)
def impl_Lattice_basis.f (Ak : Int) (Al : Int) (Am : Int) : Option (Int × Int × Int × Int) := some (Ak, 0, Al, Am)
def impl_Lattice_basis.T1 : Bool × List (List Nat × List Nat) := (true, [([], []), ([0], [0]), ([1], [1]), ([], []), ([3], [3]), ([], []), ([5], [5]), ([4, 6], [4, 6]), ([2, 0, 1, 2], [2]), ([7, 8, 0, 1, 2, 3, 4, 5, 6, 7, 8], [7])])
def impl_Lattice_basis.B1 : List Nat := [0, 1, 3, 0, 8, 0, 32, 120, 7, 511]
theorem impl_Lattice_basis.tab1 : rtab .any (opsOf Try.f75 1) = impl_Lattice_basis.T1 := by kernel_rfl
theorem impl_Lattice_basis.bits1 : waitsOk impl_Lattice_basis.T1.2 impl_Lattice_basis.B1 = true := by kernel_rfl
theorem impl_Lattice_basis.calls (Ak : Int) (Al : Int) (Am : Int) (r1 : Int) (r2 : Int) (r3 : Int) (r4 : Int) (w : World) (h : impl_Lattice_basis.f Ak Al Am = some (r1, r2, r3, r4)) :
  Calls Try.prog 75 #[.agg #[.int .i64 Ak, .int .i64 Al, .int .i64 Am]] w fun e w' => e = .returned (.tuple #[.agg #[.int .i64 r1, .int .i64 r2], .agg #[.int .i64 r3, .int .i64 r4]]) ∧ Below w.heap.size w w' := by
 have hu25 := Try.underlying25
 have hu53 := Try.underlying53
 have HB := asd (Below.refl w.heap.size w)
 have H : (some (Ak, 0, Al, Am)) = some (r1, r2, r3, r4) := h
 clear h
 simp only [Option.some.injEq, Prod.mk.injEq] at H
 obtain ⟨rfl, rfl, rfl, rfl⟩ := H
 go_enter Try.func75, Try.ntmps75
 try go_wp2_with (first | ((with_reducible refine gd 1 rfl ?_); refine bx #[.int .i64 Ak, .int .i64 Al, .int .i64 Am] 25 ?_; intro AH hg w2 Ae hb; have Aj := ngw0 hg HB; replace HB := bS0 HB hb; clear hb hg) | ((with_reducible refine gd 2 rfl ?_); refine bx #[.int .i64 0, .int .i64 0] 53 ?_; intro An hg w3 Af hb; have Ao := ngw1 hg HB Aj; replace HB := bS1 HB Aj hb; have Aa := nlt hg Ae; have Ah := nsy (nlt hg Ae); replace Ae := bB Ae hb; clear hb hg) | ((with_reducible refine gd 3 rfl ?_); refine bx #[.int .i64 0, .int .i64 0] 53 ?_; intro Ap hg w4 Ag hb; have Aq := ngw2 hg HB Aj Ao; replace HB := bS2 HB Aj Ao hb; have Ab := nlt hg Ae; have Ai := nsy (nlt hg Ae); replace Ae := bB Ae hb; have Ac := nlt hg Af; have Ad := nsy (nlt hg Af); replace Af := bB Af hb; clear hb hg))
 replace Ae := asd (blk_drew Ae.out)
 replace Af := asd (blk_drew Af.out)
 replace Ag := asd (blk_drew Ag.out)
 replace HB := asd (qm HB.out)
 refine sh 10 (eb3 Ae) (fun hHeld => ?_); refine with_tabW impl_Lattice_basis.tab1 impl_Lattice_basis.bits1 (fun HT_ HW_ => ?_)
 generalize w4.drew = w5 at Ae Af Ag HB hHeld ⊢
 refine pu 0 (some 4) (bT 10 1) HT_ ?_
 refine pu 3 (some 7) (bs 10 9) HT_ ?_
 refine pu 5 (some 9) (bs 10 41) HT_ ?_
 refine ta 1 (some 5) (bs 10 43) HT_ HW_ hHeld ?_
 refine pu 2 (some 6) (bs 10 47) HT_ ?_
 refine ta 4 (some 8) (bT 10 6) HT_ HW_ hHeld ?_
 refine ta 6 (some 10) (bT 10 7) HT_ HW_ hHeld ?_
 refine pu 7 (some 11) (bT 10 8) HT_ ?_
 refine ro 8 (none) (bT 10 9) HT_ (fun K hK => ?_)
 have hs6 : w5.cell? ⟨An, 0, none⟩ = some (.int .i64 0) := bcl Af 0
 have hfs6 := blk_frozen Af.out 0
 have Ar := Aa.out
 have As := Ad.out
 have At := Ah.out
 have Au := Ac.out
 have hs7 : w5.cell? ⟨An, 1, none⟩ = some (.int .i64 0) := bcl Af 1
 have hfs7 := blk_frozen Af.out 1
 have Av := Aa.out
 have Aw := Ad.out
 have Ax := Ah.out
 have Ay := Ac.out
 refine skip_ (w1 := ?_) (by rfl) rfl ?_ ?_
 rotate_left
 ·go_simp;rfl
 refine hK.out _ _ ⟨(cf2 Aa (hHeld.1)), (cf2 Aa (hHeld.2.1)), (cf2 Aa (hHeld.2.2))⟩ (fun hHeld => ?_)
 clear hK K
 refine ro 9 (none) (bT 10 10) HT_ (fun K hK => ?_)
 have hs8 : w5.cell? ⟨Ap, 0, none⟩ = some (.int .i64 0) := bcl Ag 0
 have hfs8 := blk_frozen Ag.out 0
 have Az := Ab.out
 have AA := Ac.out
 have AB := Ai.out
 have AC := Ad.out
 have hs9 : w5.cell? ⟨Ap, 1, none⟩ = some (.int .i64 0) := bcl Ag 1
 have hfs9 := blk_frozen Ag.out 1
 have AD := Ab.out
 have AE := Ac.out
 have AF := Ai.out
 have AG := Ad.out
 refine skip_ (w1 := ?_) (by rfl) rfl ?_ ?_
 rotate_left
 ·go_simp;rfl
 refine hK.out _ _ ⟨(cf2 Ab (hHeld.1)), (cf2 Ab (hHeld.2.1)), (cf2 Ab (hHeld.2.2))⟩ (fun hHeld => ?_)
 clear hK K
 refine done_ (done_of HT_.out (by kernel_rfl)) ?_
 try go_wp2
 refine bodyPost_ret (results_cc rfl _ _ An Ap 53 53 #[.int .i64 Ak, .int .i64 0] #[.int .i64 Al, .int .i64 Am] (0, 0) (0, 0) _ _ rfl (bq1 Af Ac) Try.underlying53 rfl (by kernel_rfl) rfl (bq1 Ag Ad) Try.underlying53 rfl (by kernel_rfl)) rfl ?_
 exact er (bbw3 HB Aj Ao Aq)
def impl_Mat_93.f (p : S51 → Bool) (l : List S51) : Int := match l.findIdx? p with | some i => i | none => -1
theorem impl_Mat_93.rd_get (l : List S51) (j : Nat) (h : j < l.length) : rd_T51 l (j : Int) = l[j] := by
 unfold rd_T51; rw [Int.toNat_natCast]; simp [List.getD, h]
theorem impl_Mat_93.hit (p : S51 → Bool) (l : List S51) (x : Int) (h0 : 0 ≤ x) (hx : x < l.length) (h : p (rd_T51 l x) = true) (hb : ∀ j : Nat, (j : Int) < x → p (rd_T51 l (j : Int)) = false) : impl_Mat_93.f p l = x := by
 obtain ⟨k, rfl⟩ := Int.eq_ofNat_of_zero_le h0
 have hk : k < l.length := by omega
 rw [impl_Mat_93.rd_get l k hk] at h
 unfold impl_Mat_93.f
 have : l.findIdx? p = some k := by
  rw [List.findIdx?_eq_some_iff_getElem];refine ⟨hk, h, fun j hj => ?_⟩;have := hb j (by omega);rw [impl_Mat_93.rd_get l j (by omega)] at this;simpa using this
 rw [this]
theorem impl_Mat_93.miss (p : S51 → Bool) (l : List S51) (hb : ∀ j : Nat, (j : Int) < l.length → p (rd_T51 l (j : Int)) = false) : impl_Mat_93.f p l = -1 := by
 unfold impl_Mat_93.f
 have : l.findIdx? p = none := by
  rw [List.findIdx?_eq_none_iff];intro x hx;obtain ⟨j, hj, rfl⟩ := List.getElem_of_mem hx;have := hb j (by omega);rw [impl_Mat_93.rd_get l j hj] at this;exact this
 rw [this]
set_option maxHeartbeats 2000000 in
theorem impl_Mat_93.calls_some (p : S51 → Bool) (g : Nat) (lb : Array Value) (eg : ∀ args w, (callFunc g args).run Try.prog w = .ok (.enter g args) w) (ad : Addr) (c : Nat) (l : List S51) (w : World) (hr : Kd.C k51 w (some ad) l.length l)
  (hp : ∀ (x : S51) (W : World), Below w.heap.size w W → Calls Try.prog g (#[.agg #[.int .i64 x.f0, .int .i64 x.f1, .int .i64 x.f2, .int .i64 x.f3]] ++ lb) W fun e w' => e = .returned (.bool (p x)) ∧ Below w.heap.size w w') :
  Calls Try.prog 93 #[.slice (some ad) l.length c, .func (.func g) #[] lb] w fun e w' => e = .returned (.int .i64 (impl_Mat_93.f p l)) ∧ Below w.heap.size w w' := by
 have hu33 := Try.underlying51
 have hbig := Kd.C_max hr
 have HR := Aside0.mk hr
 have HP := Aside0.mk hp
 clear hr hp
 have hbig' : l.length ≤ 9223372036854775807 := hbig
 have HBIG := Aside0.mk hbig'
 clear hbig hbig'
 go_enter Try.func93, Try.ntmps93
 go_wp2
 go_loopg [5, 8] l.length (fun gg _ s8 wr => ∃ x : Int, s8 = .int .i64 x ∧ Aside0 (0 ≤ x ∧ x ≤ l.length ∧ (l.length : Int) - x ≤ gg) ∧ Aside0 (Below w.heap.size w wr) ∧ Aside0 (∀ j : Nat, (j : Int) < x → p (rd_T51 l (j : Int)) = false))
 case atStart => exact ⟨0, rfl, ⟨by omega⟩, ⟨Below.refl _ w⟩, ⟨fun j hj => absurd hj (by omega)⟩⟩
 case round =>
  obtain ⟨x, rfl, HX, BW, AA⟩ := hrel;by_cases c4 : x < (l.length : Int)
  ·have Aa : decide (x < (l.length : Int)) = true := qp c4;have Ab : decide (0 ≤ x) = true := qp HX.out.1;have hcall := HP.out (rd_T51 l x) wr BW.out;obtain ⟨ad', e', hx0, hx1, hx2, hx3⟩ := at_T51 HR.out x HX.out.1 c4;cases e'
   replace hx0 := (BW.out.cell (World.block_lt_of_cell? w _ hx0)).trans hx0;replace hx1 := (BW.out.cell (World.block_lt_of_cell? w _ hx1)).trans hx1;replace hx2 := (BW.out.cell (World.block_lt_of_cell? w _ hx2)).trans hx2;replace hx3 := (BW.out.cell (World.block_lt_of_cell? w _ hx3)).trans hx3;have C4 := Aside0.mk c4;clear c4;generalize hy : rd_T51 l x = y at hcall hx0 hx1 hx2 hx3;have HY := Aside0.mk hy;clear hy;have p5 : 0 ≤ x := HX.out.1;have p215 := eq_true p5;have q215 : (x < (l.length : Int)) = True := eq_true C4.out;clear p5;cases hq : p y with
   | true =>
    rw [hq] at hcall;have HQ := Aside0.mk hq;clear hq;go_wp2_with (go_at_fn g; refine hcall.mono ?_; rintro e w' ⟨rfl, hb'⟩);go_ret
    refine ⟨?_, hb'⟩;rw [impl_Mat_93.hit p l x HX.out.1 C4.out (by rw [HY.out]; exact HQ.out) AA.out];rfl
   | false =>
    rw [hq] at hcall;have HQ := Aside0.mk hq;clear hq;go_wp2_with (go_at_fn g; refine hcall.mono ?_; rintro e w' ⟨rfl, hb'⟩);have hw : wrap64 (x + 1) = x + 1 := by
     have h1 := HX.out; have h2 := HBIG.out; have h3 := C4.out;unfold wrap64; omega
    go_roundg ((l.length : Int) - (x + 1)).toNat
    case measure => have h1 := HX.out; have h3 := C4.out; omega
    case rel =>
     refine ⟨wrap64 (x + 1), rfl, ⟨?_⟩, ⟨hb'⟩, ⟨fun j hj => ?_⟩⟩
     ·have h1 := HX.out; have h3 := C4.out; rw [hw]; omega
     ·rw [hw] at hj;by_cases e : (j : Int) = x
      ·rw [e, HY.out]; exact HQ.out
      ·exact AA.out j (by omega)
  ·have Aa : decide (x < (l.length : Int)) = false := qq c4;have hxe : x = l.length := by have := HX.out; omega
   have C4 := Aside0.mk hxe;clear c4 hxe;go_wp2
   go_ret
   refine ⟨?_, BW.out⟩;rw [impl_Mat_93.miss p l (by rw [← C4.out]; exact AA.out)];rfl
set_option maxHeartbeats 2000000 in
theorem impl_Mat_93.calls_empty (p : S51 → Bool) (A : Option Addr) (c : Nat) (fv : Value) (w : World) :
  Calls Try.prog 93 #[.slice A 0 c, fv] w fun e w' => e = .returned (.int .i64 (impl_Mat_93.f p [])) ∧ Below w.heap.size w w' := by
 go_enter Try.func93, Try.ntmps93
 go_wp2
 go_loopg [5, 8] 0 (fun _ _ s8 wr => s8 = .int .i64 0 ∧ wr = w)
 case atStart => exact ⟨rfl, rfl⟩
 case round =>
  obtain ⟨rfl, rfl⟩ := hrel;go_wp2
  go_ret
  exact ⟨rfl, Below.refl _ _⟩
theorem impl_Mat_93.calls (p : S51 → Bool) (g : Nat) (lb : Array Value) (eg : ∀ args w, (callFunc g args).run Try.prog w = .ok (.enter g args) w) (A : Option Addr) (c : Nat) (l : List S51) (w : World) (hr : Kd.C k51 w A l.length l)
  (hp : ∀ (x : S51) (W : World), Below w.heap.size w W → Calls Try.prog g (#[.agg #[.int .i64 x.f0, .int .i64 x.f1, .int .i64 x.f2, .int .i64 x.f3]] ++ lb) W fun e w' => e = .returned (.bool (p x)) ∧ Below w.heap.size w w') :
  Calls Try.prog 93 #[.slice A l.length c, .func (.func g) #[] lb] w fun e w' => e = .returned (.int .i64 (impl_Mat_93.f p l)) ∧ Below w.heap.size w w' := by
 cases l with
 | nil => exact impl_Mat_93.calls_empty p A c _ w
 | cons x xs =>
  obtain ⟨ad, rfl, _⟩ := hr.2.2 (by simp);exact impl_Mat_93.calls_some p g lb eg ad c (x :: xs) w hr hp
def impl_Mat_76.Inv (p : S51 → Bool) (l : List S51) (i j : Int) (m : List S51) : Prop :=
 m.length = l.length ∧ m.take i.toNat = (l.take j.toNat).filter (fun x => !p x) ∧ ∀ t : Nat, j ≤ t → rd_T51 m (t : Int) = rd_T51 l (t : Int)
theorem impl_Mat_76.rd_get (l : List S51) (j : Nat) (h : j < l.length) : rd_T51 l (j : Int) = l[j] := by
 unfold rd_T51; rw [Int.toNat_natCast]; simp [List.getD, h]
theorem impl_Mat_76.inv_start (p : S51 → Bool) (l : List S51) (k : Nat) (hk : k < l.length) (h : p l[k] = true) (hb : ∀ (j : Nat) (hj : j < k), p (l[j]'(Nat.lt_trans hj hk)) = false) : impl_Mat_76.Inv p l (k : Int) ((k : Int) + 1) l := by
 refine ⟨rfl, ?_, fun t _ => rfl⟩
 have e : ((k : Int) + 1).toNat = k + 1 := by omega
 rw [Int.toNat_natCast, e, List.take_succ_eq_append_getElem hk, List.filter_append]
 have e2 : (l.take k).filter (fun x => !p x) = l.take k := by
  rw [List.filter_eq_self];intro x hx;obtain ⟨j, hj, rfl⟩ := List.getElem_of_mem hx;have hj' : j < k := by rw [List.length_take] at hj; omega
  rw [List.getElem_take, hb j hj']; rfl
 rw [e2]; simp [h]
theorem impl_Mat_76.inv_keep (p : S51 → Bool) (l m : List S51) (i j : Int) (h0 : 0 ≤ i) (hij : i < j) (hj : j < l.length) (h : impl_Mat_76.Inv p l i j m) (hp : p (rd_T51 m j) = false) : impl_Mat_76.Inv p l (i + 1) (j + 1) (m.set i.toNat (rd_T51 m j)) := by
 obtain ⟨h1, h2, h3⟩ := h
 obtain ⟨i, rfl⟩ := Int.eq_ofNat_of_zero_le h0
 obtain ⟨j, rfl⟩ := Int.eq_ofNat_of_zero_le (show 0 ≤ j by omega)
 have hjl : j < l.length := by omega
 have him : i < m.length := by omega
 have e1 : ((i : Int) + 1).toNat = i + 1 := by omega
 have e2 : ((j : Int) + 1).toNat = j + 1 := by omega
 have e3 := h3 j (by omega)
 rw [Int.toNat_natCast] at h2 ⊢
 rw [Int.toNat_natCast] at h2
 refine ⟨by simpa using h1, ?_, fun t ht => ?_⟩
 ·rw [e1, e2, List.take_succ_eq_append_getElem hjl, List.filter_append, ← h2, List.take_succ_eq_append_getElem (by simpa using him)];rw [e3, impl_Mat_76.rd_get l j hjl] at hp ⊢;congr 1
  ·rw [List.take_set_of_le (by omega)]
  ·simp [hp]
 ·have := h3 t (by omega);unfold rd_T51 at this ⊢;rw [Int.toNat_natCast] at this ⊢;simp only [List.getD] at this ⊢;rw [List.getElem?_set_ne (by omega)];exact this
theorem impl_Mat_76.inv_skip (p : S51 → Bool) (l m : List S51) (i j : Int) (h0 : 0 ≤ i) (hij : i < j) (hj : j < l.length) (h : impl_Mat_76.Inv p l i j m) (hp : p (rd_T51 m j) = true) : impl_Mat_76.Inv p l i (j + 1) m := by
 obtain ⟨h1, h2, h3⟩ := h
 obtain ⟨j, rfl⟩ := Int.eq_ofNat_of_zero_le (show 0 ≤ j by omega)
 have hjl : j < l.length := by omega
 have e2 : ((j : Int) + 1).toNat = j + 1 := by omega
 have e3 := h3 j (by omega)
 rw [Int.toNat_natCast] at h2
 refine ⟨h1, ?_, fun t ht => h3 t (by omega)⟩
 rw [e2, List.take_succ_eq_append_getElem hjl, List.filter_append, ← h2]
 rw [e3, impl_Mat_76.rd_get l j hjl] at hp
 simp [hp]
theorem impl_Mat_76.set_cells_append (b : Nat) : ∀ (xs ys : List Value) (o : Nat) (w : World), w.setCells b o (xs ++ ys) = (w.setCells b o xs).setCells b (o + xs.length) ys
 | [], _, _, _ => rfl
 | x :: xs, ys, o, w => by
  have := impl_Mat_76.set_cells_append b xs ys (o + 1) (w.setCell ⟨b, o, none⟩ x)
  rw [List.cons_append, World.setCells, World.setCells, this, List.length_cons]; congr 1; omega
theorem impl_Mat_76.zeros (n : Nat) : (Builtin.zeroCells #[.int .i64 0, .int .i64 0, .int .i64 0, .int .i64 0] n).toList = List.replicate (n * 4) (Value.int .i64 0) := by
 apply List.ext_getElem
 ·simp [Builtin.zeroCells]
 ·intro i h1 h2;simp only [Builtin.zeroCells, Array.toList_map, Array.toList_range, List.getElem_map, List.getElem_range, List.getElem_replicate];have : i % 4 < 4 := Nat.mod_lt _ (by decide);have h4 : i % 4 = 0 ∨ i % 4 = 1 ∨ i % 4 = 2 ∨ i % 4 = 3 := by omega
  show (#[Value.int .i64 0, .int .i64 0, .int .i64 0, .int .i64 0] : Array Value)[i % 4]! = _
  rcases h4 with h | h | h | h <;> rw [h] <;> rfl
theorem impl_Mat_76.clear_row {g n cap base : Nat} {ok : Nat → Prop} (d : Nat) : ∀ (W : World) (i : Nat) (xs : List S51), Kd.R k51 51 W base ok (.slice (some ⟨g, 0, none⟩) n cap) xs → i + d = n →
  ∃ xs', xs'.take i = xs.take i ∧ xs'.length = xs.length ∧ Kd.R k51 51 (W.setCells g (i * 4) (List.replicate (d * 4) (.int .i64 0))) base ok (.slice (some ⟨g, 0, none⟩) n cap) xs' ∧ W.grownBy (W.setCells g (i * 4) (List.replicate (d * 4) (.int .i64 0))) (some g) := by
 induction d with
 | zero => intro W i xs h e; exact ⟨xs, rfl, rfl, h, ⟨rfl, rfl, rfl, Nat.le_refl _, fun _ _ _ => rfl⟩⟩
 | succ d ih =>
  intro W i xs h e;have hn := (Kd.R_reads' h).1;obtain ⟨ce, hcl, hM, hcc, hfr⟩ := Kd.R_elem h z51 (i : Int) (by omega) (by omega);have HP := Kd.R_seg h (i : Int) (by omega) (by omega) (seg := [.int .i64 0, .int .i64 0, .int .i64 0, .int .i64 0]) (j := 0) hcl hcc (show 4 ≤ 4 from by decide) (x' := z51) (by
   obtain rfl := k51_openM hM;exact k51_mkM _ _ _ z51) (fun _ hk => hk)
  rw [Int.toNat_natCast] at HP;obtain ⟨h1, h2⟩ := HP;obtain ⟨xs', q1, q2, q3, q4⟩ := ih _ (i + 1) _ h1 (by omega);have e1 : List.replicate ((d + 1) * 4) (Value.int .i64 0) = [.int .i64 0, .int .i64 0, .int .i64 0, .int .i64 0] ++ List.replicate (d * 4) (.int .i64 0) := by
   rw [show (d + 1) * 4 = 4 + d * 4 by omega, ← List.replicate_append_replicate]; rfl
  have e2 : (W.setCells g (i * 4) (List.replicate ((d + 1) * 4) (.int .i64 0))) = ((W.setCells g (i * (k51).sz + 0) [.int .i64 0, .int .i64 0, .int .i64 0, .int .i64 0]).setCells g ((i + 1) * 4) (List.replicate (d * 4) (.int .i64 0))) := by
   rw [e1, impl_Mat_76.set_cells_append]; congr 1; show i * 4 + 4 = (i + 1) * 4; omega
  rw [e2];refine ⟨xs', ?_, by simpa using q2, q3, h2.trans q4⟩;have := congrArg (List.take i) q1;rw [List.take_take, List.take_take, Nat.min_eq_left (Nat.le_succ i)] at this;rw [this, List.take_set_of_le (Nat.le_refl _)]
theorem impl_Mat_76.cells_of_row {g n cap base : Nat} {ok : Nat → Prop} {W : World} {xs : List S51} (h : Kd.R k51 51 W base ok (.slice (some ⟨g, 0, none⟩) n cap) xs) (t : Nat) (ht : t < n * 4) : (W.cell? ⟨g, t, none⟩).isSome = true ∧ W.frozen? ⟨g, t, none⟩ = false := by
 obtain ⟨ce, hcl, hM, hcc, hfr⟩ := Kd.R_elem h z51 ((t / 4 : Nat) : Int) (by omega) (by omega)
 rw [Int.toNat_natCast, show (k51).sz = 4 from rfl] at hcc hfr
 have e : t / 4 * 4 + t % 4 = t := by omega
 have hl : ce.length = 4 := hcl
 have hr : t % 4 < ce.length := by rw [hl]; omega
 have h1 := hcc (t % 4) _ (List.getElem?_eq_getElem hr)
 have h2 := hfr (t % 4)
 rw [e] at h1 h2
 exact ⟨by rw [h1]; rfl, h2⟩
theorem impl_Mat_76.zero_run (W : World) : (zeroValue 51).run Try.prog W = .ok (.agg #[.int .i64 0, .int .i64 0, .int .i64 0, .int .i64 0]) W := by
 have := info51
 cases h : Try.prog.info? 51 with
 | none => rw [h] at this; cases this
 | some i =>
  rw [h] at this;simp only [Option.map_some, Option.some.injEq, Prod.mk.injEq] at this;simp [zeroValue, typeInfo, h, this.1]
theorem impl_Mat_76.clear_run {g n c base : Nat} {ok : Nat → Prop} {W : World} {xs : List S51} (h : Kd.R k51 51 W base ok (.slice (some ⟨g, 0, none⟩) n c) xs) (i : Nat) (hi : i < n) (ty : TypeId) (c' : Nat) :
  (Builtin.clear_ #[29] ty #[.slice (some ⟨g, i * 4, none⟩) (n - i) c']).run Try.prog W = .ok (.tuple #[]) (W.setCells g (i * 4) (List.replicate ((n - i) * 4) (.int .i64 0))) := by
 have hst := run_storeCells_cells (P := Try.prog) g (i * 4) (List.replicate ((n - i) * 4) (.int .i64 0)) 0 W (fun j hj => (impl_Mat_76.cells_of_row h (i * 4 + 0 + j) (by rw [List.length_replicate] at hj; omega)).1) (fun j hj => (impl_Mat_76.cells_of_row h (i * 4 + 0 + j) (by rw [List.length_replicate] at hj; omega)).2) (by intro v hv; rw [List.eq_of_mem_replicate hv]; rfl)
 simp only [Nat.add_zero] at hst
 have hz := impl_Mat_76.zeros (n - i)
 obtain ⟨q, hq⟩ : ∃ q, n - i = q + 1 := ⟨n - i - 1, by omega⟩
 rw [hq] at hst hz ⊢
 simp [Builtin.clear_, run_underlying Try.underlying29, impl_Mat_76.zero_run, Value.cells, hz, hst]
set_option maxHeartbeats 4000000 in
theorem impl_Mat_76.calls (p : S51 → Bool) (g : Nat) (lb : Array Value) (eg : ∀ args w, (callFunc g args).run Try.prog w = .ok (.enter g args) w) (P0_ : Nat → Prop) (u0_ : Value) (l : List S51) (w0 w : World) (hB : Below w0.heap.size w0 w) (ho : Kd.R k51 51 w w0.heap.size P0_ u0_ l)
  (hp : ∀ (x : S51) (W : World), Below w0.heap.size w0 W → Kept w W P0_ → Calls Try.prog g (#[.agg #[.int .i64 x.f0, .int .i64 x.f1, .int .i64 x.f2, .int .i64 x.f3]] ++ lb) W fun e w' => e = .returned (.bool (p x)) ∧ Below W.heap.size W w') :
  Calls Try.prog 76 #[u0_, .func (.func g) #[] lb] w fun e w' => ∃ v', e = .returned v' ∧ Kd.R k51 51 w' w0.heap.size (fun k_ => P0_ k_ ∨ w.heap.size ≤ k_) v' (l.filter fun x => !p x) ∧ Below w0.heap.size w0 w' ∧ Kept w w' P0_ := by
 have hu33 := Try.underlying51
 obtain ⟨A0, c0, e0, hlc, hC⟩ := Kd.R_reads ho
 subst e0
 have HI := impl_Mat_93.calls p g lb eg A0 c0 l w hC (fun x W hb => (hp x W (below_then hB hB.size hb) (Kept.of_below hb _)).mono fun e w' ⟨he, hb'⟩ => ⟨he, below_then hb hb.size hb'⟩)
 have HO := asd (show Kd.R k51 51 w w0.heap.size (fun k_ => P0_ k_ ∨ w.heap.size ≤ k_) (.slice A0 l.length c0) l from Kd.R_mono ho (fun k_ hk => .inl hk))
 have HP := Aside0.mk hp
 have HB := Aside0.mk hB
 have HBIG := asd (show l.length ≤ 9223372036854775807 from Kd.C_max hC)
 unfold impl_Mat_93.f at HI
 clear ho hp hB hC hlc
 cases hf : l.findIdx? p with
 | none =>
  rw [hf] at HI;have hall : (l.filter fun x => !p x) = l := by
   rw [List.filter_eq_self];intro x hx;have := List.findIdx?_eq_none_iff.1 hf x hx;simp [this]
  rw [hall];clear hf hall;replace HI : Calls Try.prog 93 #[.slice A0 l.length c0, .func (.func g) #[] lb] w fun e w' => e = .returned (.int .i64 (-1)) ∧ Below w.heap.size w w' := HI;go_enter Try.func76, Try.ntmps76
  go_wp2_with (go_at_call 93; refine HI.mono ?_; rintro e w' ⟨rfl, hb'⟩);go_ret
  exact ⟨_, rfl, Kd.R_below HO.out hb', below_then HB.out HB.out.size hb', Kept.of_below hb' _⟩
 | some k =>
  rw [hf] at HI;obtain ⟨hk, hpk, hbk⟩ := List.findIdx?_eq_some_iff_getElem.1 hf;have HS := asd (impl_Mat_76.inv_start p l k hk hpk (fun j hj => by simpa using hbk j hj));have HK := Aside0.mk hk;clear hf hpk hbk;replace HI : Calls Try.prog 93 #[.slice A0 l.length c0, .func (.func g) #[] lb] w fun e w' => e = .returned (.int .i64 (k : Int)) ∧ Below w.heap.size w w' := HI;have hne1 : ((k : Int) == -1) = false := beq_eq_false_iff_ne.2 (by omega);obtain ⟨go, co, eo, gb, gl, cl, HG⟩ := Kd.R_form HO.out (by omega);injection eo with ea_ en_ ec_;subst ea_;subst ec_;clear en_ gl HG cl;have HKW := asd (show wrap64 ((k : Int) + 1) = (k : Int) + 1 by have := HBIG.out; unfold wrap64; omega);clear hk;go_enter Try.func76, Try.ntmps76
  go_wp2_with (go_at_call 93; refine HI.mono ?_; rintro e w' ⟨rfl, hb'⟩);go_loopg [5, 6, 7] l.length (fun gg s5 s6 _ wr => ∃ (i j : Int) (m : List S51), s5 = .int .i64 i ∧ s6 = .int .i64 j ∧ Aside0 (0 ≤ i ∧ i < j ∧ j ≤ l.length ∧ (l.length : Int) - j ≤ gg) ∧ Aside0 (impl_Mat_76.Inv p l i j m) ∧ Aside0 (Kd.R k51 51 wr w0.heap.size (fun k_ => P0_ k_ ∨ w.heap.size ≤ k_) (.slice (some ⟨go, 0, none⟩) l.length c0) m) ∧ Aside0 (Kept w wr P0_) ∧ Aside0 (Below w0.heap.size w0 wr))
  case atStart => exact ⟨k, wrap64 ((k : Int) + 1), l, rfl, rfl, ⟨by have := HK.out; rw [HKW.out]; omega⟩, ⟨by rw [HKW.out]; exact HS.out⟩, ⟨Kd.R_below HO.out hb'⟩, ⟨Kept.of_below hb' _⟩, ⟨below_then HB.out HB.out.size hb'⟩⟩
  case round =>
   clear HI;obtain ⟨i, j, m, rfl, rfl, HX, HV, HR, HKP, HBW⟩ := hrel;by_cases c4 : j < (l.length : Int)
   ·have Aa : decide (j < (l.length : Int)) = true := qp c4;have Ab : decide (0 ≤ j) = true := qp (by have := HX.out; omega);obtain ⟨ce, hcl, hM, hcc, hfr⟩ := Kd.R_elem HR.out z51 j (by have := HX.out; omega) c4;obtain rfl := k51_openM hM;have hx0 : wr.cell? ⟨go, j.toNat * 4, none⟩ = some (.int .i64 ((rd_T51 m j).f0)) := hcc 0 _ rfl;have hx1 : wr.cell? ⟨go, j.toNat * 4 + 1, none⟩ = some (.int .i64 ((rd_T51 m j).f1)) := hcc 1 _ rfl;have hx2 : wr.cell? ⟨go, j.toNat * 4 + 2, none⟩ = some (.int .i64 ((rd_T51 m j).f2)) := hcc 2 _ rfl;have hx3 : wr.cell? ⟨go, j.toNat * 4 + 3, none⟩ = some (.int .i64 ((rd_T51 m j).f3)) := hcc 3 _ rfl;clear hcl hcc hfr hM;have C4 := Aside0.mk c4;have p215 : (0 ≤ j) = True := eq_true (by have := HX.out; omega);have q215 : (j < (l.length : Int)) = True := eq_true c4;clear c4;generalize hy : rd_T51 m j = y at hx0 hx1 hx2 hx3;have HY := Aside0.mk hy;clear hy;have hI : 0 ≤ i ∧ i < (l.length : Int) := by have h1 := HX.out; have h2 := C4.out; omega
    have p300 : (0 ≤ i) = True := eq_true hI.1;have q300 : (i < (l.length : Int)) = True := eq_true hI.2;have Ac : decide (0 ≤ i) = true := qp hI.1;have Ad : decide (i < (l.length : Int)) = true := qp hI.2;have HI := Aside0.mk hI;clear hI;have hcall := HP.out y (wr.alloc (.cells #[.int .i64 y.f0, .int .i64 y.f1, .int .i64 y.f2, .int .i64 y.f3] 51)) (qo HBW.out _) (Kept.alloc HKP.out _);cases hq : p y with
    | true =>
     rw [hq] at hcall;have HQ := Aside0.mk hq;clear hq;go_wp2_with (go_at_fn g; refine hcall.mono ?_; rintro e w2 ⟨rfl, hb2⟩);go_roundg ((l.length : Int) - (j + 1)).toNat
     case measure => have h1 := HX.out; have h3 := C4.out; omega
     case rel =>
      have hw : wrap64 (j + 1) = j + 1 := by
       have h1 := HX.out; have h2 := HBIG.out; have h3 := C4.out;unfold wrap64; omega
      have hb1 := Kept.below (Kept.alloc HKP.out (.cells #[.int .i64 y.f0, .int .i64 y.f1, .int .i64 y.f2, .int .i64 y.f3] 51)) hb2;have hbb := below_then (qo HBW.out (.cells #[.int .i64 y.f0, .int .i64 y.f1, .int .i64 y.f2, .int .i64 y.f3] 51)) (qo HBW.out _).size hb2;refine ⟨i, wrap64 (j + 1), m, rfl, rfl, ⟨?_⟩, ⟨?_⟩, ⟨Kd.R_below (Kd.R_alloc HR.out _) hb2⟩, ⟨hb1⟩, ⟨hbb⟩⟩
      ·have h1 := HX.out; have h3 := C4.out; rw [hw]; omega
      ·rw [hw]; exact impl_Mat_76.inv_skip p l m i j HX.out.1 HX.out.2.1 C4.out HV.out (by rw [HY.out]; exact HQ.out)
    | false =>
     rw [hq] at hcall;have HQ := Aside0.mk hq;clear hq;go_wp2_with (go_at_fn g; refine hcall.mono ?_; rintro e w2 ⟨rfl, hb2⟩; have hz0 : w2.cell? ⟨wr.heap.size, 0, none⟩ = some (.int .i64 y.f0) := (hb2.cell (p := ⟨wr.heap.size, 0, none⟩) (by simp)).trans (by simp); have hz1 : w2.cell? ⟨wr.heap.size, 1, none⟩ = some (.int .i64 y.f1) := (hb2.cell (p := ⟨wr.heap.size, 1, none⟩) (by simp)).trans (by simp); have hz2 : w2.cell? ⟨wr.heap.size, 2, none⟩ = some (.int .i64 y.f2) := (hb2.cell (p := ⟨wr.heap.size, 2, none⟩) (by simp)).trans (by simp); have hz3 : w2.cell? ⟨wr.heap.size, 3, none⟩ = some (.int .i64 y.f3) := (hb2.cell (p := ⟨wr.heap.size, 3, none⟩) (by simp)).trans (by simp); have HR2 := asd (Kd.R_below (Kd.R_alloc HR.out (.cells #[.int .i64 y.f0, .int .i64 y.f1, .int .i64 y.f2, .int .i64 y.f3] 51)) hb2); obtain ⟨ce2, hcl2, hM2, hcc2, hfr2⟩ := Kd.R_elem HR2.out z51 i HI.out.1 HI.out.2; obtain rfl := k51_openM hM2; have hS2 := Kd.R_seg HR2.out i HI.out.1 HI.out.2 (seg := [.int .i64 y.f0, .int .i64 y.f1, .int .i64 y.f2, .int .i64 y.f3]) (j := 0) hcl2 hcc2 (show 4 ≤ 4 from by decide) (x' := y) (k51_mkM _ _ _ y) (fun _ hk => hk); have HS2 := Aside0.mk hS2; clear hS2; have hu0 := hcc2 0 _ rfl; have hu1 := hcc2 1 _ rfl; have hu2 := hcc2 2 _ rfl; have hu3 := hcc2 3 _ rfl; have hv0 := hfr2 0; have hv1 := hfr2 1; have hv2 := hfr2 2; have hv3 := hfr2 3; simp only [show (k51).sz = 4 from rfl, Nat.add_zero] at hu0 hu1 hu2 hu3 hv0 hv1 hv2 hv3; clear hcl2 hcc2 hfr2 hM2);go_roundg ((l.length : Int) - (j + 1)).toNat
     case measure => have h1 := HX.out; have h3 := C4.out; omega
     case rel =>
      have hw : wrap64 (j + 1) = j + 1 := by
       have h1 := HX.out; have h2 := HBIG.out; have h3 := C4.out;unfold wrap64; omega
      have hw2 : wrap64 (i + 1) = i + 1 := by
       have h1 := HX.out; have h2 := HBIG.out; have h3 := C4.out;unfold wrap64; omega
      have hb1 := Kept.below (Kept.alloc HKP.out (.cells #[.int .i64 y.f0, .int .i64 y.f1, .int .i64 y.f2, .int .i64 y.f3] 51)) hb2;have hbb := below_then (qo HBW.out (.cells #[.int .i64 y.f0, .int .i64 y.f1, .int .i64 y.f2, .int .i64 y.f3] 51)) (qo HBW.out _).size hb2;refine ⟨wrap64 (i + 1), wrap64 (j + 1), m.set i.toNat y, rfl, rfl, ⟨?_⟩, ⟨?_⟩, ⟨HS2.out.1⟩, ⟨Kept.of_grown HS2.out.2 hb1 (fun k_ e_ => HR2.out.1 k_ e_)⟩, ⟨?_⟩⟩
      ·have h1 := HX.out; have h3 := C4.out; rw [hw, hw2]; omega
      ·have := impl_Mat_76.inv_keep p l m i j HX.out.1 HX.out.2.1 C4.out HV.out (by rw [HY.out]; exact HQ.out);rw [hw, hw2]; rw [HY.out] at this; exact this
      ·exact ql (ql (ql (ql hbb gb) gb) gb) gb
   ·have Aa : decide (j < (l.length : Int)) = false := qq c4;have hje : j = l.length := by have := HX.out; omega
    obtain ⟨i, rfl⟩ := Int.eq_ofNat_of_zero_le HX.out.1;have hil : i < l.length := by have := HX.out; omega
    have HJ := Aside0.mk hje;have HIL := Aside0.mk hil;have hlc := (Kd.R_reads' HR.out).2.1;have hcl : ∀ ty, (Builtin.clear_ #[29] ty #[.slice (some ⟨go, i * 4, none⟩) (l.length - i) (c0 - i)]).run Try.prog wr = .ok (.tuple #[]) (wr.setCells go (i * 4) (List.replicate ((l.length - i) * 4) (.int .i64 0))) := fun ty => impl_Mat_76.clear_run HR.out i hil ty _;clear c4 hje;go_wp2
    go_ret
    obtain ⟨xs', q1, q2, q3, q4⟩ := impl_Mat_76.clear_row (l.length - i) wr i m HR.out (by have := HIL.out; omega);have hv := HV.out;have hm := hv.1;have hR := Kd.R_take q3 (m := i) (by rw [q2, hm]; have := HIL.out; omega);have hfin : xs'.take i = l.filter fun x => !p x := by
     have h2 := hv.2.1;rw [Int.toNat_natCast, HJ.out, Int.toNat_natCast, List.take_length] at h2;rw [q1, h2]
    rw [hfin] at hR;exact ⟨_, rfl, hR, HBW.out.grown q4 HBW.out.size (fun k_ e_ => by injection e_ with e_; subst e_; exact gb), Kept.of_grown q4 HKP.out (fun k_ e_ => HR.out.1 k_ e_)⟩
def impl_Mat_apply.f (Af : Int) (Ag : Int) (Ah : Int) (Ai : Int) (Ab : Int) (Ac : Int) : Option (Int × Int) := some (wrap64 ((wrap64 (Af * Ab)) + (wrap64 (Ag * Ac))), wrap64 ((wrap64 (Ah * Ab)) + (wrap64 (Ai * Ac))))
theorem impl_Mat_apply.calls (Af : Int) (Ag : Int) (Ah : Int) (Ai : Int) (Ab : Int) (Ac : Int) (r1 : Int) (r2 : Int) (w : World) (h : impl_Mat_apply.f Af Ag Ah Ai Ab Ac = some (r1, r2)) :
  Calls Try.prog 80 #[.agg #[.int .i64 Af, .int .i64 Ag, .int .i64 Ah, .int .i64 Ai], .agg #[.int .i64 Ab, .int .i64 Ac]] w fun e w' => e = .returned (.agg #[.int .i64 r1, .int .i64 r2]) ∧ Below w.heap.size w w' := by
 have hu51 := Try.underlying51
 have hu53 := Try.underlying53
 have HB := asd (Below.refl w.heap.size w)
 have H : (some (wrap64 ((wrap64 (Af * Ab)) + (wrap64 (Ag * Ac))), wrap64 ((wrap64 (Ah * Ab)) + (wrap64 (Ai * Ac))))) = some (r1, r2) := h
 clear h
 simp only [Option.some.injEq, Prod.mk.injEq] at H
 obtain ⟨rfl, rfl⟩ := H
 go_enter Try.func80, Try.ntmps80
 go_wp2_with (first | ((with_reducible refine gd 2 rfl ?_); refine bx #[.int .i64 Af, .int .i64 Ag, .int .i64 Ah, .int .i64 Ai] 51 ?_; intro AJ hg w3 Aa hb; have Ad := ngw0 hg HB; replace HB := bS0 HB hb; clear hb hg) | ((with_reducible refine gd 3 rfl ?_); refine bx #[.int .i64 Ab, .int .i64 Ac] 53 ?_; intro AK hg w4 Ae hb; have Ap := ngw1 hg HB Ad; replace HB := bS1 HB Ad hb; have Aj := nlt hg Aa; have Ak := nsy (nlt hg Aa); replace Aa := bB Aa hb; clear hb hg) | ((with_reducible refine gd 4 rfl ?_); refine bx #[.int .i64 0, .int .i64 0] 53 ?_; intro Ar hg w5 Aq hb; have As := ngw2 hg HB Ad Ap; replace HB := bS2 HB Ad Ap hb; have Al := nlt hg Aa; have Am := nsy (nlt hg Aa); replace Aa := bB Aa hb; have An := nlt hg Ae; have Ao := nsy (nlt hg Ae); replace Ae := bB Ae hb; clear hb hg; have AL := Aj.out; have AM := Ak.out; have AN := Al.out; have AO := Am.out; obtain ⟨AB, AC, AD, AE, AF, AG, AH, AI⟩ := bz4 Aa; have AP := An.out; have AQ := Ao.out; obtain ⟨At, Au, Av, Aw⟩ := bz2 Ae; obtain ⟨Ax, Ay, Az, AA⟩ := bz2 Aq))
 refine bodyPost_ret (results_cell_row rfl _ _ Ar 53 #[.int .i64 (wrap64 ((wrap64 (Af * Ab)) + (wrap64 (Ag * Ac)))), .int .i64 (wrap64 ((wrap64 (Ah * Ab)) + (wrap64 (Ai * Ac))))] (0, 0) _ rfl (bq0 Aq) Try.underlying53 rfl (by kernel_rfl)) rfl ?_
 exact er (bbw3 HB Ad Ap As)
def impl_norm.f (a0 : Int) (Aa : Int) (Ab : Int) : Option (Int) := some (wrap64 ((wrap64 ((wrap64 (Aa * Aa)) + (wrap64 ((wrap64 (a0 * Aa)) * Ab)))) + (wrap64 (Ab * Ab))))
theorem impl_norm.calls (a0 : Int) (Aa : Int) (Ab : Int) (r : Int) (w : World) (h : impl_norm.f a0 Aa Ab = some r) :
  Calls Try.prog 94 #[.int .i64 a0, .agg #[.int .i64 Aa, .int .i64 Ab]] w fun e w' => e = .returned (.int .i64 r) ∧ Below w.heap.size w w' := by
 have hu53 := Try.underlying53
 have HB := asd (Below.refl w.heap.size w)
 have H : (some (wrap64 ((wrap64 ((wrap64 (Aa * Aa)) + (wrap64 ((wrap64 (a0 * Aa)) * Ab)))) + (wrap64 (Ab * Ab))))) = some r := h
 clear h
 obtain rfl := Option.some.inj H
 go_enter Try.func94, Try.ntmps94
 go_wp2_with (first | ((with_reducible refine gd 3 rfl ?_); refine bx #[.int .i64 Aa, .int .i64 Ab] 53 ?_; intro Ai hg w3 Ac hb; have Ad := ngw0 hg HB; replace HB := bS0 HB hb; clear hb hg; obtain ⟨Ae, Af, Ag, Ah⟩ := bz2 Ac))
 go_ret
 exact er (bbw1 HB Ad)
def impl_pointMats.l0 : Nat → Int → List (S51) → Int → Option ((List (S51)))
 | 0, _, _, _ => none
 | k + 1, x0, x3, AD => if AD < 81 then ((impl_Mat_apply.f (wrap64 ((wrap64 (Int.tdiv AD 27)) - 1)) (wrap64 ((Int.tmod (wrap64 (Int.tdiv AD 9)) 3) - 1)) (wrap64 ((Int.tmod (wrap64 (Int.tdiv AD 3)) 3) - 1)) (wrap64 ((Int.tmod AD 3) - 1)) 1 0).bind fun AX => ((impl_Mat_apply.f (wrap64 ((wrap64 (Int.tdiv AD 27)) - 1)) (wrap64 ((Int.tmod (wrap64 (Int.tdiv AD 9)) 3) - 1)) (wrap64 ((Int.tmod (wrap64 (Int.tdiv AD 3)) 3) - 1)) (wrap64 ((Int.tmod AD 3) - 1)) 0 1).bind fun AY => ((impl_Mat_apply.f (wrap64 ((wrap64 (Int.tdiv AD 27)) - 1)) (wrap64 ((Int.tmod (wrap64 (Int.tdiv AD 9)) 3) - 1)) (wrap64 ((Int.tmod (wrap64 (Int.tdiv AD 3)) 3) - 1)) (wrap64 ((Int.tmod AD 3) - 1)) 1 1).bind fun AZ => ((impl_norm.f x0 AX.1 AX.2).bind fun AM => (if AM = 1 then ((impl_norm.f x0 AY.1 AY.2).bind fun AN => (if AN = 1 then ((impl_norm.f x0 AZ.1 AZ.2).bind fun AO => (if AO = (wrap64 (2 + x0)) then (if x3.length < 4398046511104 then (impl_pointMats.l0 k x0 (x3 ++ [(⟨wrap64 ((wrap64 (Int.tdiv AD 27)) - 1), wrap64 ((Int.tmod (wrap64 (Int.tdiv AD 9)) 3) - 1), wrap64 ((Int.tmod (wrap64 (Int.tdiv AD 3)) 3) - 1), wrap64 ((Int.tmod AD 3) - 1)⟩ : S51)]) (wrap64 (AD + 1))) else (none)) else (impl_pointMats.l0 k x0 x3 (wrap64 (AD + 1))))) else (impl_pointMats.l0 k x0 x3 (wrap64 (AD + 1))))) else (impl_pointMats.l0 k x0 x3 (wrap64 (AD + 1)))))))) else (some x3)
def impl_pointMats.f (k : Nat) (a0 : Int) : Option ((List (S51))) := impl_pointMats.l0 k a0 (([] : List (S51))) 0
def impl_pointMats.T6 : Bool × List (List Nat × List Nat) := (true, [([], []), ([], []), ([0, 1], [0, 1]), ([], []), ([], []), ([3, 4, 2], [3, 4]), ([], []), ([], []), ([6, 7, 5], [6, 7]), ([], []), ([], []), ([], []), ([9, 2, 8, 0, 1, 2, 9, 10, 11], [2, 9]), ([10, 5, 12, 0, 1, 2, 3, 4, 5, 9, 10, 11, 12], [5, 10]), ([11, 8, 13, 0, 1, 2, 3, 4, 5, 6, 7, 8, 9, 10, 11, 12, 13], [8, 11])])
def impl_pointMats.B6 : List Nat := [0, 0, 3, 0, 0, 31, 0, 0, 255, 0, 0, 0, 4095, 8191, 16383]
theorem impl_pointMats.tab6 : rtab .any (opsOf Try.f77 6) = impl_pointMats.T6 := by kernel_rfl
theorem impl_pointMats.bits6 : waitsOk impl_pointMats.T6.2 impl_pointMats.B6 = true := by kernel_rfl
theorem impl_pointMats.calls (k : Nat) (a0 : Int) (r : List (S51)) (w : World) (h : impl_pointMats.f k a0 = some r) :
  Calls Try.prog 77 #[.int .i64 a0] w fun e w' => ∃ v0_ : Value, e = .returned (v0_) ∧ Kd.R k51 51 w' w.heap.size (fun _ => True) v0_ r ∧ Below w.heap.size w w' := by
 have hu51 := Try.underlying51
 have hu53 := Try.underlying53
 have HB := asd (Below.refl w.heap.size w)
 have H : (impl_pointMats.l0 k a0 (([] : List (S51))) 0) = some r := h
 clear h
 obtain ⟨A9, AK⟩ : ∃ y_ : List (S51), y_ = (([] : List (S51))) := ⟨_, rfl⟩
 replace H : (impl_pointMats.l0 k a0 A9 0) = some r := by first | (rw [AK]; with_reducible exact H) | (have H2_ := (Option.bind_some _ _).symm.trans H; rw [AK]; with_reducible exact H2_) | (have H2_ := (Option.bind_some _ _).symm.trans H; with_reducible exact H2_) | with_reducible exact H | (rw [AK]; exact H) | exact H
 have A0 := Aside0.mk AK
 clear AK
 have H' := Aside0.mk H
 clear H
 go_enter Try.func77, Try.ntmps77
 go_wp2_with (first | ((with_reducible refine gd 9 rfl ?_); refine Kd.R_lit k51 _ 51 ?hg (N := 9) ?hd (xs := ([] : List (S51))) (inner := []) (ok := fun _ => True) (okp := fun _ => True) ?hr ?hp (fun _ hk => hk) trivial (Below.refl _ _) (Nat.le_refl _) (by simp) ?_; (case hd => rfl); (case hg => rfl); (case hr => first | (go_simp; done) | (go_simp; rfl)); (case hp => exact (Reps.none _ _)); intro v489 w2 Ba hb hg_ hnew_; clear hg_ hnew_; (first | rw [← A0.out] at Ba | (simp only [Int.reduceToNat] at Ba; rw [← A0.out] at Ba)); have Bb := asd (Kd.R_lower Ba (bsz0 HB)); replace HB := bS0 HB hb; clear hb Ba))
 go_loopg [3, 10] k (fun kq v3 v10 w' => ∃ (AH : List (S51)) (Aa : Int), v10 = .int .i64 Aa ∧ Aside0 (impl_pointMats.l0 kq a0 AH Aa = some r) ∧ Aside0 (kq ≤ k) ∧ Aside0 (Kd.R k51 51 w' w.heap.size (fun _ => True) v3 AH) ∧ Aside0 (Below w.heap.size w w'))
 case atStart => exact ⟨(A9), (0), (by first | rfl | (simp; done) | (simp [*]; done)), H', ⟨Nat.le_refl _⟩, ⟨by (with_reducible repeat (first | apply Kd.R_alloc | apply Kd.R_drewN | apply Kd.R_drew)); exact Bb.out⟩, ⟨bbw0 HB⟩⟩
 case round =>
  clear H';obtain ⟨AH, Aa, rfl, HA, CH, Af, HB⟩ := hrel;cases gk with
  | zero => exact absurd HA.out (by simp [impl_pointMats.l0])
  | succ k1 =>
   have H := HA.out;clear HA;simp only [impl_pointMats.l0] at H;by_cases c4 : Aa < 81
   ·rw [if_pos c4] at H;have CI := qp c4;clear c4;obtain ⟨⟨AI, AJ⟩, A5, H⟩ := ob H;(try dsimp only at H);obtain ⟨⟨AQ, AR⟩, A6, H⟩ := ob H;(try dsimp only at H);obtain ⟨⟨AS, AT⟩, A7, H⟩ := ob H;(try dsimp only at H);have Hq_ := Aside0.mk H;clear H;try go_wp2_with (first | ((with_reducible refine gd 5 rfl ?_); refine bx #[.int .i64 0, .int .i64 0, .int .i64 0, .int .i64 0] 51 ?_; intro Ak hg Db Ab hb; replace Af := asd (Kd.R_below (Kd.R_elderB (kr Af) Ak (Nat.le_of_eq hg.symm)) hb); have Aj := ngw0 hg HB; replace HB := bS0 HB hb; clear hb hg; obtain ⟨Bk, Bl, Bm, Bn, Bo, Bp, Bq, Br⟩ := bz4 Ab))
    obtain ⟨Bs, h_w17⟩ : ∃ w_, ((((Db.setCell ⟨Ak, 0, none⟩ (.int .i64 (wrap64 ((wrap64 (Int.tdiv Aa 27)) - 1)))).setCell ⟨Ak, 1, none⟩ (.int .i64 (wrap64 ((Int.tmod (wrap64 (Int.tdiv Aa 9)) 3) - 1)))).setCell ⟨Ak, 2, none⟩ (.int .i64 (wrap64 ((Int.tmod (wrap64 (Int.tdiv Aa 3)) 3) - 1)))).setCell ⟨Ak, 3, none⟩ (.int .i64 (wrap64 ((Int.tmod Aa 3) - 1)))) = w_ := ⟨_, rfl⟩;replace Af : Aside0 (Kd.R k51 51 Bs w.heap.size (fun k_ => k_ ≠ Ak) u3 AH) := by rw [← h_w17]; exact ⟨by (with_reducible repeat (first | apply Kd.R_alloc | apply Kd.R_drewN | apply Kd.R_drew)); exact Kd.R_mono (rw4 (Kd.R_mono Af.out (fun k_ hk => (⟨hk, hk.2⟩ : _ ∧ k_ ≠ Ak)))) (fun _ hk => hk.1.2)⟩
    replace Ab : Aside0 (Bs.heap[Ak]? = some (.cells #[.int .i64 (wrap64 ((wrap64 (Int.tdiv Aa 27)) - 1)), .int .i64 (wrap64 ((Int.tmod (wrap64 (Int.tdiv Aa 9)) 3) - 1)), .int .i64 (wrap64 ((Int.tmod (wrap64 (Int.tdiv Aa 3)) 3) - 1)), .int .i64 (wrap64 ((Int.tmod Aa 3) - 1))] 51 (0, 0))) := by rw [← h_w17]; exact ⟨bq0 Ab⟩
    replace HB : Aside0 (Below w.heap.size w Bs) := by rw [← h_w17]; exact ⟨bbw1 HB Aj⟩
    (try rw [h_w17]); clear h_w17
    replace Af := asd (Kd.R_drew Af.out);replace Ab := asd (blk_drew Ab.out);replace HB := asd (qm HB.out);refine start_ (n := 15) (S := fun w' => True) (ds := []) (bT 15 0) (by kernel_rfl) rfl rfl trivial (fun hHeld => ?_); refine with_tabW impl_pointMats.tab6 impl_pointMats.bits6 (fun HT_ HW_ => ?_);generalize Bs.drew = De at Af Ab HB hHeld ⊢;refine inv_at [0, 1, 2, 3, 4, 5, 6, 7, 8, 9, 10, 11, 12, 13, 14] (fun a0_ b a w' => ∃ (Ac : Nat) (Ad : Nat) (Ae : Nat) (m9_ : Value) (m10_ : Value) (m11_ : Value), a = putSel a0_ b [(0, 28, .agg #[.int .i64 (wrap64 ((wrap64 (Int.tdiv Aa 27)) - 1)), .int .i64 (wrap64 ((Int.tmod (wrap64 (Int.tdiv Aa 9)) 3) - 1)), .int .i64 (wrap64 ((Int.tmod (wrap64 (Int.tdiv Aa 3)) 3) - 1)), .int .i64 (wrap64 ((Int.tmod Aa 3) - 1))]), (1, 29, .agg #[.int .i64 1, .int .i64 0]), (2, 30, .agg #[.int .i64 AI, .int .i64 AJ]), (3, 31, .agg #[.int .i64 (wrap64 ((wrap64 (Int.tdiv Aa 27)) - 1)), .int .i64 (wrap64 ((Int.tmod (wrap64 (Int.tdiv Aa 9)) 3) - 1)), .int .i64 (wrap64 ((Int.tmod (wrap64 (Int.tdiv Aa 3)) 3) - 1)), .int .i64 (wrap64 ((Int.tmod Aa 3) - 1))]), (4, 32, .agg #[.int .i64 0, .int .i64 1]), (5, 33, .agg #[.int .i64 AQ, .int .i64 AR]), (6, 34, .agg #[.int .i64 (wrap64 ((wrap64 (Int.tdiv Aa 27)) - 1)), .int .i64 (wrap64 ((Int.tmod (wrap64 (Int.tdiv Aa 9)) 3) - 1)), .int .i64 (wrap64 ((Int.tmod (wrap64 (Int.tdiv Aa 3)) 3) - 1)), .int .i64 (wrap64 ((Int.tmod Aa 3) - 1))]), (7, 35, .agg #[.int .i64 1, .int .i64 1]), (8, 36, .agg #[.int .i64 AS, .int .i64 AT]), (9, 6, m9_), (10, 7, m10_), (11, 8, m11_)] ∧ (Kd.R k51 51 w' w.heap.size (fun k_ => k_ ≠ Ak) u3 AH) ∧ (w'.heap[Ak]? = some (.cells #[.int .i64 (wrap64 ((wrap64 (Int.tdiv Aa 27)) - 1)), .int .i64 (wrap64 ((Int.tmod (wrap64 (Int.tdiv Aa 9)) 3) - 1)), .int .i64 (wrap64 ((Int.tmod (wrap64 (Int.tdiv Aa 3)) 3) - 1)), .int .i64 (wrap64 ((Int.tmod Aa 3) - 1))] 51 (0, 0))) ∧ (Below w.heap.size w w') ∧ (b 9 = true → b 10 = true → Ad ≠ Ac) ∧ (b 9 = true → b 10 = true → Ac ≠ Ad) ∧ (b 9 = true → b 11 = true → Ae ≠ Ac) ∧ (b 9 = true → b 11 = true → Ac ≠ Ae) ∧ (b 10 = true → b 11 = true → Ae ≠ Ad) ∧ (b 10 = true → b 11 = true → Ad ≠ Ae) ∧ (b 9 = true → b 12 = false → w'.heap[Ac]? = some (.cells #[.int .i64 0, .int .i64 0] 53 (0, 0))) ∧ (b 9 = true → w.heap.size ≤ Ac) ∧ (b 9 = true → w.heap.size ≤ Ac) ∧ (b 9 = true → Ak ≠ Ac) ∧ (b 9 = true → Ac ≠ Ak) ∧ (b 10 = true → b 13 = false → w'.heap[Ad]? = some (.cells #[.int .i64 0, .int .i64 0] 53 (0, 0))) ∧ (b 10 = true → w.heap.size ≤ Ad) ∧ (b 10 = true → w.heap.size ≤ Ad) ∧ (b 10 = true → Ak ≠ Ad) ∧ (b 10 = true → Ad ≠ Ak) ∧ (b 11 = true → b 14 = false → w'.heap[Ae]? = some (.cells #[.int .i64 0, .int .i64 0] 53 (0, 0))) ∧ (b 11 = true → w.heap.size ≤ Ae) ∧ (b 11 = true → w.heap.size ≤ Ae) ∧ (b 11 = true → Ak ≠ Ae) ∧ (b 11 = true → Ae ≠ Ak) ∧ (b 12 = true → w'.heap[Ac]? = some (.cells #[.int .i64 AI, .int .i64 AJ] 53 (0, 0))) ∧ (b 13 = true → w'.heap[Ad]? = some (.cells #[.int .i64 AQ, .int .i64 AR] 53 (0, 0))) ∧ (b 14 = true → w'.heap[Ae]? = some (.cells #[.int .i64 AS, .int .i64 AT] 53 (0, 0))) ∧ (b 9 = true → (m9_ : Value) = .pointer (some ⟨Ac, 0, none⟩)) ∧ (b 10 = true → (m10_ : Value) = .pointer (some ⟨Ad, 0, none⟩)) ∧ (b 11 = true → (m11_ : Value) = .pointer (some ⟨Ae, 0, none⟩))) HT_.out HW_.out (by kernel_rfl) (by kernel_rfl) ?_ ?_ ?_
    ·exact ⟨0, 0, 0, .bool false, .bool false, .bool false, by simp only [putSel, Bool.false_eq_true, if_false], Af.out, Ab.out, HB.out, fun h_ => absurd h_ (by decide), fun h_ => absurd h_ (by decide), fun h_ => absurd h_ (by decide), fun h_ => absurd h_ (by decide), fun h_ => absurd h_ (by decide), fun h_ => absurd h_ (by decide), fun h_ => absurd h_ (by decide), fun h_ => absurd h_ (by decide), fun h_ => absurd h_ (by decide), fun h_ => absurd h_ (by decide), fun h_ => absurd h_ (by decide), fun h_ => absurd h_ (by decide), fun h_ => absurd h_ (by decide), fun h_ => absurd h_ (by decide), fun h_ => absurd h_ (by decide), fun h_ => absurd h_ (by decide), fun h_ => absurd h_ (by decide), fun h_ => absurd h_ (by decide), fun h_ => absurd h_ (by decide), fun h_ => absurd h_ (by decide), fun h_ => absurd h_ (by decide), fun h_ => absurd h_ (by decide), fun h_ => absurd h_ (by decide), fun h_ => absurd h_ (by decide), fun h_ => absurd h_ (by decide), fun h_ => absurd h_ (by decide), fun h_ => absurd h_ (by decide)⟩
    ·skip
     clear Ab HB Af;refine steps_cons ?_ ?_
     ·rintro b a w' ⟨Ac, Ad, Ae, m9_, m10_, m11_, ha, Q_HO_3, Q_BK491, Q_HB, Q_NB499_498, Q_NB498_499, Q_NB500_498, Q_NB498_500, Q_NB500_499, Q_NB499_500, Q_BK498, Q_GW498, Q_GE498, Q_NB491_498, Q_NB498_491, Q_BK499, Q_GW499, Q_GE499, Q_NB491_499, Q_NB499_491, Q_BK500, Q_GW500, Q_GE500, Q_NB491_500, Q_NB500_491, Q_BK498_e12, Q_BK499_e13, Q_BK500_e14, Q_X9_, Q_X10_, Q_X11_⟩ hb_ hon hoff;refine ⟨_, rfl, fun K hK => ?_⟩;have e5 : a.tmps[5]? = some (.pointer (some ⟨Ak, 0, none⟩)) := by rw [ha]; exact (putSel_off rfl).trans rfl
      replace ha := Aside0.mk ha;have Af := Aside0.mk Q_HO_3;have Ab := Aside0.mk Q_BK491;have HB := Aside0.mk Q_HB;have hc0_ : w'.cell? ⟨Ak, 0, none⟩ = some (.int .i64 (wrap64 ((wrap64 (Int.tdiv Aa 27)) - 1))) := bcl Ab 0;have hc1_ : w'.cell? ⟨Ak, 1, none⟩ = some (.int .i64 (wrap64 ((Int.tmod (wrap64 (Int.tdiv Aa 9)) 3) - 1))) := bcl Ab 1;have hc2_ : w'.cell? ⟨Ak, 2, none⟩ = some (.int .i64 (wrap64 ((Int.tmod (wrap64 (Int.tdiv Aa 3)) 3) - 1))) := bcl Ab 2;have hc3_ : w'.cell? ⟨Ak, 3, none⟩ = some (.int .i64 (wrap64 ((Int.tmod Aa 3) - 1))) := bcl Ab 3;refine value_ (w1 := w') (v := .agg #[.int .i64 (wrap64 ((wrap64 (Int.tdiv Aa 27)) - 1)), .int .i64 (wrap64 ((Int.tmod (wrap64 (Int.tdiv Aa 9)) 3) - 1)), .int .i64 (wrap64 ((Int.tmod (wrap64 (Int.tdiv Aa 3)) 3) - 1)), .int .i64 (wrap64 ((Int.tmod Aa 3) - 1))]) (by rfl) rfl ?_ ?_
      ·go_simp;(try simp only [i64_w]);try rfl
      refine hK.out _ _ ⟨Ac, Ad, Ae, m9_, m10_, m11_, (by rw [ha.out]; exact putSel_upk 0 hb_ rfl rfl rfl), Q_HO_3, Q_BK491, Q_HB, Q_NB499_498, Q_NB498_499, Q_NB500_498, Q_NB498_500, Q_NB500_499, Q_NB499_500, Q_BK498, Q_GW498, Q_GE498, Q_NB491_498, Q_NB498_491, Q_BK499, Q_GW499, Q_GE499, Q_NB491_499, Q_NB499_491, Q_BK500, Q_GW500, Q_GE500, Q_NB491_500, Q_NB500_491, fun h0_ => absurd ((hoff 12 (by kernel_rfl)).symm.trans h0_) (by decide), fun h0_ => absurd ((hoff 13 (by kernel_rfl)).symm.trans h0_) (by decide), fun h0_ => absurd ((hoff 14 (by kernel_rfl)).symm.trans h0_) (by decide), Q_X9_, Q_X10_, Q_X11_⟩
     refine steps_cons ?_ ?_
     ·rintro b a w' ⟨Ac, Ad, Ae, m9_, m10_, m11_, ha, Q_HO_3, Q_BK491, Q_HB, Q_NB499_498, Q_NB498_499, Q_NB500_498, Q_NB498_500, Q_NB500_499, Q_NB499_500, Q_BK498, Q_GW498, Q_GE498, Q_NB491_498, Q_NB498_491, Q_BK499, Q_GW499, Q_GE499, Q_NB491_499, Q_NB499_491, Q_BK500, Q_GW500, Q_GE500, Q_NB491_500, Q_NB500_491, Q_BK498_e12, Q_BK499_e13, Q_BK500_e14, Q_X9_, Q_X10_, Q_X11_⟩ hb_ hon hoff;refine ⟨_, rfl, fun K hK => ?_⟩;replace ha := Aside0.mk ha;have Af := Aside0.mk Q_HO_3;have Ab := Aside0.mk Q_BK491;have HB := Aside0.mk Q_HB;refine value_ (w1 := w') (v := .agg #[.int .i64 1, .int .i64 0]) (by rfl) rfl ?_ ?_
      ·go_simp;(try simp only [i64_w]);try rfl
      refine hK.out _ _ ⟨Ac, Ad, Ae, m9_, m10_, m11_, (by rw [ha.out]; exact putSel_upk 1 hb_ rfl rfl rfl), Q_HO_3, Q_BK491, Q_HB, Q_NB499_498, Q_NB498_499, Q_NB500_498, Q_NB498_500, Q_NB500_499, Q_NB499_500, Q_BK498, Q_GW498, Q_GE498, Q_NB491_498, Q_NB498_491, Q_BK499, Q_GW499, Q_GE499, Q_NB491_499, Q_NB499_491, Q_BK500, Q_GW500, Q_GE500, Q_NB491_500, Q_NB500_491, fun h0_ => absurd ((hoff 12 (by kernel_rfl)).symm.trans h0_) (by decide), fun h0_ => absurd ((hoff 13 (by kernel_rfl)).symm.trans h0_) (by decide), fun h0_ => absurd ((hoff 14 (by kernel_rfl)).symm.trans h0_) (by decide), Q_X9_, Q_X10_, Q_X11_⟩
     refine steps_cons ?_ ?_
     ·rintro b a w' ⟨Ac, Ad, Ae, m9_, m10_, m11_, ha, Q_HO_3, Q_BK491, Q_HB, Q_NB499_498, Q_NB498_499, Q_NB500_498, Q_NB498_500, Q_NB500_499, Q_NB499_500, Q_BK498, Q_GW498, Q_GE498, Q_NB491_498, Q_NB498_491, Q_BK499, Q_GW499, Q_GE499, Q_NB491_499, Q_NB499_491, Q_BK500, Q_GW500, Q_GE500, Q_NB491_500, Q_NB500_491, Q_BK498_e12, Q_BK499_e13, Q_BK500_e14, Q_X9_, Q_X10_, Q_X11_⟩ hb_ hon hoff;refine ⟨_, rfl, fun K hK => ?_⟩;have e28 : a.tmps[28]? = some (.agg #[.int .i64 (wrap64 ((wrap64 (Int.tdiv Aa 27)) - 1)), .int .i64 (wrap64 ((Int.tmod (wrap64 (Int.tdiv Aa 9)) 3) - 1)), .int .i64 (wrap64 ((Int.tmod (wrap64 (Int.tdiv Aa 3)) 3) - 1)), .int .i64 (wrap64 ((Int.tmod Aa 3) - 1))]) := by rw [ha]; exact putSel_on (e := (0, 28, .agg #[.int .i64 (wrap64 ((wrap64 (Int.tdiv Aa 27)) - 1)), .int .i64 (wrap64 ((Int.tmod (wrap64 (Int.tdiv Aa 9)) 3) - 1)), .int .i64 (wrap64 ((Int.tmod (wrap64 (Int.tdiv Aa 3)) 3) - 1)), .int .i64 (wrap64 ((Int.tmod Aa 3) - 1))])) 0 rfl rfl (hon 0 (by kernel_rfl)) rfl
      have e29 : a.tmps[29]? = some (.agg #[.int .i64 1, .int .i64 0]) := by rw [ha]; exact putSel_on (e := (1, 29, .agg #[.int .i64 1, .int .i64 0])) 1 rfl rfl (hon 1 (by kernel_rfl)) rfl
      replace ha := Aside0.mk ha;have Af := Aside0.mk Q_HO_3;have Ab := Aside0.mk Q_BK491;have HB := Aside0.mk Q_HB;refine goes_ Try.func80 (by kernel_rfl) rfl #[.agg #[.int .i64 (wrap64 ((wrap64 (Int.tdiv Aa 27)) - 1)), .int .i64 (wrap64 ((Int.tmod (wrap64 (Int.tdiv Aa 9)) 3) - 1)), .int .i64 (wrap64 ((Int.tmod (wrap64 (Int.tdiv Aa 3)) 3) - 1)), .int .i64 (wrap64 ((Int.tmod Aa 3) - 1))], .agg #[.int .i64 1, .int .i64 0]] (by rfl) rfl rfl (by first | (simp only [List.map_toArray, List.map_cons, List.map_nil, Act.eval, Array.getD_eq_getD_getElem?, Option.getD_some, e28, e29]; done) | (simp only [List.map_toArray, List.map_cons, List.map_nil, Act.eval, Array.getD_eq_getD_getElem?, Option.getD_some, e28, e29]; rfl)) ?_;with_reducible refine (impl_Mat_apply.calls _ _ _ _ _ _ _ _ _ A5.out).mono ?_
      rintro e AP ⟨rfl, hb⟩;refine ⟨_, rfl, ?_⟩;have AE := asd (Kd.R_below (kr Af) hb);have AF := bB Ab hb;have AG := bS1 HB Aj hb;have z_BK498 := fun (h0_ : b 9 = true) (h1_ : b 12 = false) => (show AP.heap[Ac]? = some (.cells #[.int .i64 0, .int .i64 0] 53 (0, 0)) from by first | exact (blk_below (g := Ac) (o := .cells #[.int .i64 0, .int .i64 0] 53 (0, 0)) (by (with_reducible repeat (first | refine blk_drewN ?_ _ | refine blk_drew ?_ | refine blk_alloc ?_ _)); exact (Q_BK498 h0_ h1_)) hb));have z_BK499 := fun (h0_ : b 10 = true) (h1_ : b 13 = false) => (show AP.heap[Ad]? = some (.cells #[.int .i64 0, .int .i64 0] 53 (0, 0)) from by first | exact (blk_below (g := Ad) (o := .cells #[.int .i64 0, .int .i64 0] 53 (0, 0)) (by (with_reducible repeat (first | refine blk_drewN ?_ _ | refine blk_drew ?_ | refine blk_alloc ?_ _)); exact (Q_BK499 h0_ h1_)) hb));have z_BK500 := fun (h0_ : b 11 = true) (h1_ : b 14 = false) => (show AP.heap[Ae]? = some (.cells #[.int .i64 0, .int .i64 0] 53 (0, 0)) from by first | exact (blk_below (g := Ae) (o := .cells #[.int .i64 0, .int .i64 0] 53 (0, 0)) (by (with_reducible repeat (first | refine blk_drewN ?_ _ | refine blk_drew ?_ | refine blk_alloc ?_ _)); exact (Q_BK500 h0_ h1_)) hb));clear Af;clear Ab;clear HB;have Af := AE;have Ab := AF;have HB := AG;clear AE AF AG;(try clear hb);(try clear hb2);(try clear hk);(try clear hi);refine hK.out _ _ ⟨Ac, Ad, Ae, m9_, m10_, m11_, (by rw [ha.out]; exact putSel_upk 2 hb_ rfl rfl rfl), (kr Af), (bkp Ab), (bbw1 HB Aj), Q_NB499_498, Q_NB498_499, Q_NB500_498, Q_NB498_500, Q_NB500_499, Q_NB499_500, z_BK498, Q_GW498, Q_GE498, Q_NB491_498, Q_NB498_491, z_BK499, Q_GW499, Q_GE499, Q_NB491_499, Q_NB499_491, z_BK500, Q_GW500, Q_GE500, Q_NB491_500, Q_NB500_491, fun h0_ => absurd ((hoff 12 (by kernel_rfl)).symm.trans h0_) (by decide), fun h0_ => absurd ((hoff 13 (by kernel_rfl)).symm.trans h0_) (by decide), fun h0_ => absurd ((hoff 14 (by kernel_rfl)).symm.trans h0_) (by decide), Q_X9_, Q_X10_, Q_X11_⟩
     refine steps_cons ?_ ?_
     ·rintro b a w' ⟨Ac, Ad, Ae, m9_, m10_, m11_, ha, Q_HO_3, Q_BK491, Q_HB, Q_NB499_498, Q_NB498_499, Q_NB500_498, Q_NB498_500, Q_NB500_499, Q_NB499_500, Q_BK498, Q_GW498, Q_GE498, Q_NB491_498, Q_NB498_491, Q_BK499, Q_GW499, Q_GE499, Q_NB491_499, Q_NB499_491, Q_BK500, Q_GW500, Q_GE500, Q_NB491_500, Q_NB500_491, Q_BK498_e12, Q_BK499_e13, Q_BK500_e14, Q_X9_, Q_X10_, Q_X11_⟩ hb_ hon hoff;refine ⟨_, rfl, fun K hK => ?_⟩;have e5 : a.tmps[5]? = some (.pointer (some ⟨Ak, 0, none⟩)) := by rw [ha]; exact (putSel_off rfl).trans rfl
      replace ha := Aside0.mk ha;have Af := Aside0.mk Q_HO_3;have Ab := Aside0.mk Q_BK491;have HB := Aside0.mk Q_HB;have hc0_ : w'.cell? ⟨Ak, 0, none⟩ = some (.int .i64 (wrap64 ((wrap64 (Int.tdiv Aa 27)) - 1))) := bcl Ab 0;have hc1_ : w'.cell? ⟨Ak, 1, none⟩ = some (.int .i64 (wrap64 ((Int.tmod (wrap64 (Int.tdiv Aa 9)) 3) - 1))) := bcl Ab 1;have hc2_ : w'.cell? ⟨Ak, 2, none⟩ = some (.int .i64 (wrap64 ((Int.tmod (wrap64 (Int.tdiv Aa 3)) 3) - 1))) := bcl Ab 2;have hc3_ : w'.cell? ⟨Ak, 3, none⟩ = some (.int .i64 (wrap64 ((Int.tmod Aa 3) - 1))) := bcl Ab 3;refine value_ (w1 := w') (v := .agg #[.int .i64 (wrap64 ((wrap64 (Int.tdiv Aa 27)) - 1)), .int .i64 (wrap64 ((Int.tmod (wrap64 (Int.tdiv Aa 9)) 3) - 1)), .int .i64 (wrap64 ((Int.tmod (wrap64 (Int.tdiv Aa 3)) 3) - 1)), .int .i64 (wrap64 ((Int.tmod Aa 3) - 1))]) (by rfl) rfl ?_ ?_
      ·go_simp;(try simp only [i64_w]);try rfl
      refine hK.out _ _ ⟨Ac, Ad, Ae, m9_, m10_, m11_, (by rw [ha.out]; exact putSel_upk 3 hb_ rfl rfl rfl), Q_HO_3, Q_BK491, Q_HB, Q_NB499_498, Q_NB498_499, Q_NB500_498, Q_NB498_500, Q_NB500_499, Q_NB499_500, Q_BK498, Q_GW498, Q_GE498, Q_NB491_498, Q_NB498_491, Q_BK499, Q_GW499, Q_GE499, Q_NB491_499, Q_NB499_491, Q_BK500, Q_GW500, Q_GE500, Q_NB491_500, Q_NB500_491, fun h0_ => absurd ((hoff 12 (by kernel_rfl)).symm.trans h0_) (by decide), fun h0_ => absurd ((hoff 13 (by kernel_rfl)).symm.trans h0_) (by decide), fun h0_ => absurd ((hoff 14 (by kernel_rfl)).symm.trans h0_) (by decide), Q_X9_, Q_X10_, Q_X11_⟩
     refine steps_cons ?_ ?_
     ·rintro b a w' ⟨Ac, Ad, Ae, m9_, m10_, m11_, ha, Q_HO_3, Q_BK491, Q_HB, Q_NB499_498, Q_NB498_499, Q_NB500_498, Q_NB498_500, Q_NB500_499, Q_NB499_500, Q_BK498, Q_GW498, Q_GE498, Q_NB491_498, Q_NB498_491, Q_BK499, Q_GW499, Q_GE499, Q_NB491_499, Q_NB499_491, Q_BK500, Q_GW500, Q_GE500, Q_NB491_500, Q_NB500_491, Q_BK498_e12, Q_BK499_e13, Q_BK500_e14, Q_X9_, Q_X10_, Q_X11_⟩ hb_ hon hoff;refine ⟨_, rfl, fun K hK => ?_⟩;replace ha := Aside0.mk ha;have Af := Aside0.mk Q_HO_3;have Ab := Aside0.mk Q_BK491;have HB := Aside0.mk Q_HB;refine value_ (w1 := w') (v := .agg #[.int .i64 0, .int .i64 1]) (by rfl) rfl ?_ ?_
      ·go_simp;(try simp only [i64_w]);try rfl
      refine hK.out _ _ ⟨Ac, Ad, Ae, m9_, m10_, m11_, (by rw [ha.out]; exact putSel_upk 4 hb_ rfl rfl rfl), Q_HO_3, Q_BK491, Q_HB, Q_NB499_498, Q_NB498_499, Q_NB500_498, Q_NB498_500, Q_NB500_499, Q_NB499_500, Q_BK498, Q_GW498, Q_GE498, Q_NB491_498, Q_NB498_491, Q_BK499, Q_GW499, Q_GE499, Q_NB491_499, Q_NB499_491, Q_BK500, Q_GW500, Q_GE500, Q_NB491_500, Q_NB500_491, fun h0_ => absurd ((hoff 12 (by kernel_rfl)).symm.trans h0_) (by decide), fun h0_ => absurd ((hoff 13 (by kernel_rfl)).symm.trans h0_) (by decide), fun h0_ => absurd ((hoff 14 (by kernel_rfl)).symm.trans h0_) (by decide), Q_X9_, Q_X10_, Q_X11_⟩
     refine steps_cons ?_ ?_
     ·rintro b a w' ⟨Ac, Ad, Ae, m9_, m10_, m11_, ha, Q_HO_3, Q_BK491, Q_HB, Q_NB499_498, Q_NB498_499, Q_NB500_498, Q_NB498_500, Q_NB500_499, Q_NB499_500, Q_BK498, Q_GW498, Q_GE498, Q_NB491_498, Q_NB498_491, Q_BK499, Q_GW499, Q_GE499, Q_NB491_499, Q_NB499_491, Q_BK500, Q_GW500, Q_GE500, Q_NB491_500, Q_NB500_491, Q_BK498_e12, Q_BK499_e13, Q_BK500_e14, Q_X9_, Q_X10_, Q_X11_⟩ hb_ hon hoff;refine ⟨_, rfl, fun K hK => ?_⟩;have e31 : a.tmps[31]? = some (.agg #[.int .i64 (wrap64 ((wrap64 (Int.tdiv Aa 27)) - 1)), .int .i64 (wrap64 ((Int.tmod (wrap64 (Int.tdiv Aa 9)) 3) - 1)), .int .i64 (wrap64 ((Int.tmod (wrap64 (Int.tdiv Aa 3)) 3) - 1)), .int .i64 (wrap64 ((Int.tmod Aa 3) - 1))]) := by rw [ha]; exact putSel_on (e := (3, 31, .agg #[.int .i64 (wrap64 ((wrap64 (Int.tdiv Aa 27)) - 1)), .int .i64 (wrap64 ((Int.tmod (wrap64 (Int.tdiv Aa 9)) 3) - 1)), .int .i64 (wrap64 ((Int.tmod (wrap64 (Int.tdiv Aa 3)) 3) - 1)), .int .i64 (wrap64 ((Int.tmod Aa 3) - 1))])) 3 rfl rfl (hon 3 (by kernel_rfl)) rfl
      have e32 : a.tmps[32]? = some (.agg #[.int .i64 0, .int .i64 1]) := by rw [ha]; exact putSel_on (e := (4, 32, .agg #[.int .i64 0, .int .i64 1])) 4 rfl rfl (hon 4 (by kernel_rfl)) rfl
      replace ha := Aside0.mk ha;have Af := Aside0.mk Q_HO_3;have Ab := Aside0.mk Q_BK491;have HB := Aside0.mk Q_HB;refine goes_ Try.func80 (by kernel_rfl) rfl #[.agg #[.int .i64 (wrap64 ((wrap64 (Int.tdiv Aa 27)) - 1)), .int .i64 (wrap64 ((Int.tmod (wrap64 (Int.tdiv Aa 9)) 3) - 1)), .int .i64 (wrap64 ((Int.tmod (wrap64 (Int.tdiv Aa 3)) 3) - 1)), .int .i64 (wrap64 ((Int.tmod Aa 3) - 1))], .agg #[.int .i64 0, .int .i64 1]] (by rfl) rfl rfl (by first | (simp only [List.map_toArray, List.map_cons, List.map_nil, Act.eval, Array.getD_eq_getD_getElem?, Option.getD_some, e31, e32]; done) | (simp only [List.map_toArray, List.map_cons, List.map_nil, Act.eval, Array.getD_eq_getD_getElem?, Option.getD_some, e31, e32]; rfl)) ?_;with_reducible refine (impl_Mat_apply.calls _ _ _ _ _ _ _ _ _ A6.out).mono ?_
      rintro e CJ ⟨rfl, hb⟩;refine ⟨_, rfl, ?_⟩;have AE := asd (Kd.R_below (kr Af) hb);have AF := bB Ab hb;have AG := bS1 HB Aj hb;have z_BK498 := fun (h0_ : b 9 = true) (h1_ : b 12 = false) => (show CJ.heap[Ac]? = some (.cells #[.int .i64 0, .int .i64 0] 53 (0, 0)) from by first | exact (blk_below (g := Ac) (o := .cells #[.int .i64 0, .int .i64 0] 53 (0, 0)) (by (with_reducible repeat (first | refine blk_drewN ?_ _ | refine blk_drew ?_ | refine blk_alloc ?_ _)); exact (Q_BK498 h0_ h1_)) hb));have z_BK499 := fun (h0_ : b 10 = true) (h1_ : b 13 = false) => (show CJ.heap[Ad]? = some (.cells #[.int .i64 0, .int .i64 0] 53 (0, 0)) from by first | exact (blk_below (g := Ad) (o := .cells #[.int .i64 0, .int .i64 0] 53 (0, 0)) (by (with_reducible repeat (first | refine blk_drewN ?_ _ | refine blk_drew ?_ | refine blk_alloc ?_ _)); exact (Q_BK499 h0_ h1_)) hb));have z_BK500 := fun (h0_ : b 11 = true) (h1_ : b 14 = false) => (show CJ.heap[Ae]? = some (.cells #[.int .i64 0, .int .i64 0] 53 (0, 0)) from by first | exact (blk_below (g := Ae) (o := .cells #[.int .i64 0, .int .i64 0] 53 (0, 0)) (by (with_reducible repeat (first | refine blk_drewN ?_ _ | refine blk_drew ?_ | refine blk_alloc ?_ _)); exact (Q_BK500 h0_ h1_)) hb));clear Af;clear Ab;clear HB;have Af := AE;have Ab := AF;have HB := AG;clear AE AF AG;(try clear hb);(try clear hb2);(try clear hk);(try clear hi);refine hK.out _ _ ⟨Ac, Ad, Ae, m9_, m10_, m11_, (by rw [ha.out]; exact putSel_upk 5 hb_ rfl rfl rfl), (kr Af), (bkp Ab), (bbw1 HB Aj), Q_NB499_498, Q_NB498_499, Q_NB500_498, Q_NB498_500, Q_NB500_499, Q_NB499_500, z_BK498, Q_GW498, Q_GE498, Q_NB491_498, Q_NB498_491, z_BK499, Q_GW499, Q_GE499, Q_NB491_499, Q_NB499_491, z_BK500, Q_GW500, Q_GE500, Q_NB491_500, Q_NB500_491, fun h0_ => absurd ((hoff 12 (by kernel_rfl)).symm.trans h0_) (by decide), fun h0_ => absurd ((hoff 13 (by kernel_rfl)).symm.trans h0_) (by decide), fun h0_ => absurd ((hoff 14 (by kernel_rfl)).symm.trans h0_) (by decide), Q_X9_, Q_X10_, Q_X11_⟩
     refine steps_cons ?_ ?_
     ·rintro b a w' ⟨Ac, Ad, Ae, m9_, m10_, m11_, ha, Q_HO_3, Q_BK491, Q_HB, Q_NB499_498, Q_NB498_499, Q_NB500_498, Q_NB498_500, Q_NB500_499, Q_NB499_500, Q_BK498, Q_GW498, Q_GE498, Q_NB491_498, Q_NB498_491, Q_BK499, Q_GW499, Q_GE499, Q_NB491_499, Q_NB499_491, Q_BK500, Q_GW500, Q_GE500, Q_NB491_500, Q_NB500_491, Q_BK498_e12, Q_BK499_e13, Q_BK500_e14, Q_X9_, Q_X10_, Q_X11_⟩ hb_ hon hoff;refine ⟨_, rfl, fun K hK => ?_⟩;have e5 : a.tmps[5]? = some (.pointer (some ⟨Ak, 0, none⟩)) := by rw [ha]; exact (putSel_off rfl).trans rfl
      replace ha := Aside0.mk ha;have Af := Aside0.mk Q_HO_3;have Ab := Aside0.mk Q_BK491;have HB := Aside0.mk Q_HB;have hc0_ : w'.cell? ⟨Ak, 0, none⟩ = some (.int .i64 (wrap64 ((wrap64 (Int.tdiv Aa 27)) - 1))) := bcl Ab 0;have hc1_ : w'.cell? ⟨Ak, 1, none⟩ = some (.int .i64 (wrap64 ((Int.tmod (wrap64 (Int.tdiv Aa 9)) 3) - 1))) := bcl Ab 1;have hc2_ : w'.cell? ⟨Ak, 2, none⟩ = some (.int .i64 (wrap64 ((Int.tmod (wrap64 (Int.tdiv Aa 3)) 3) - 1))) := bcl Ab 2;have hc3_ : w'.cell? ⟨Ak, 3, none⟩ = some (.int .i64 (wrap64 ((Int.tmod Aa 3) - 1))) := bcl Ab 3;refine value_ (w1 := w') (v := .agg #[.int .i64 (wrap64 ((wrap64 (Int.tdiv Aa 27)) - 1)), .int .i64 (wrap64 ((Int.tmod (wrap64 (Int.tdiv Aa 9)) 3) - 1)), .int .i64 (wrap64 ((Int.tmod (wrap64 (Int.tdiv Aa 3)) 3) - 1)), .int .i64 (wrap64 ((Int.tmod Aa 3) - 1))]) (by rfl) rfl ?_ ?_
      ·go_simp;(try simp only [i64_w]);try rfl
      refine hK.out _ _ ⟨Ac, Ad, Ae, m9_, m10_, m11_, (by rw [ha.out]; exact putSel_upk 6 hb_ rfl rfl rfl), Q_HO_3, Q_BK491, Q_HB, Q_NB499_498, Q_NB498_499, Q_NB500_498, Q_NB498_500, Q_NB500_499, Q_NB499_500, Q_BK498, Q_GW498, Q_GE498, Q_NB491_498, Q_NB498_491, Q_BK499, Q_GW499, Q_GE499, Q_NB491_499, Q_NB499_491, Q_BK500, Q_GW500, Q_GE500, Q_NB491_500, Q_NB500_491, fun h0_ => absurd ((hoff 12 (by kernel_rfl)).symm.trans h0_) (by decide), fun h0_ => absurd ((hoff 13 (by kernel_rfl)).symm.trans h0_) (by decide), fun h0_ => absurd ((hoff 14 (by kernel_rfl)).symm.trans h0_) (by decide), Q_X9_, Q_X10_, Q_X11_⟩
     refine steps_cons ?_ ?_
     ·rintro b a w' ⟨Ac, Ad, Ae, m9_, m10_, m11_, ha, Q_HO_3, Q_BK491, Q_HB, Q_NB499_498, Q_NB498_499, Q_NB500_498, Q_NB498_500, Q_NB500_499, Q_NB499_500, Q_BK498, Q_GW498, Q_GE498, Q_NB491_498, Q_NB498_491, Q_BK499, Q_GW499, Q_GE499, Q_NB491_499, Q_NB499_491, Q_BK500, Q_GW500, Q_GE500, Q_NB491_500, Q_NB500_491, Q_BK498_e12, Q_BK499_e13, Q_BK500_e14, Q_X9_, Q_X10_, Q_X11_⟩ hb_ hon hoff;refine ⟨_, rfl, fun K hK => ?_⟩;replace ha := Aside0.mk ha;have Af := Aside0.mk Q_HO_3;have Ab := Aside0.mk Q_BK491;have HB := Aside0.mk Q_HB;refine value_ (w1 := w') (v := .agg #[.int .i64 1, .int .i64 1]) (by rfl) rfl ?_ ?_
      ·go_simp;(try simp only [i64_w]);try rfl
      refine hK.out _ _ ⟨Ac, Ad, Ae, m9_, m10_, m11_, (by rw [ha.out]; exact putSel_upk 7 hb_ rfl rfl rfl), Q_HO_3, Q_BK491, Q_HB, Q_NB499_498, Q_NB498_499, Q_NB500_498, Q_NB498_500, Q_NB500_499, Q_NB499_500, Q_BK498, Q_GW498, Q_GE498, Q_NB491_498, Q_NB498_491, Q_BK499, Q_GW499, Q_GE499, Q_NB491_499, Q_NB499_491, Q_BK500, Q_GW500, Q_GE500, Q_NB491_500, Q_NB500_491, fun h0_ => absurd ((hoff 12 (by kernel_rfl)).symm.trans h0_) (by decide), fun h0_ => absurd ((hoff 13 (by kernel_rfl)).symm.trans h0_) (by decide), fun h0_ => absurd ((hoff 14 (by kernel_rfl)).symm.trans h0_) (by decide), Q_X9_, Q_X10_, Q_X11_⟩
     refine steps_cons ?_ ?_
     ·rintro b a w' ⟨Ac, Ad, Ae, m9_, m10_, m11_, ha, Q_HO_3, Q_BK491, Q_HB, Q_NB499_498, Q_NB498_499, Q_NB500_498, Q_NB498_500, Q_NB500_499, Q_NB499_500, Q_BK498, Q_GW498, Q_GE498, Q_NB491_498, Q_NB498_491, Q_BK499, Q_GW499, Q_GE499, Q_NB491_499, Q_NB499_491, Q_BK500, Q_GW500, Q_GE500, Q_NB491_500, Q_NB500_491, Q_BK498_e12, Q_BK499_e13, Q_BK500_e14, Q_X9_, Q_X10_, Q_X11_⟩ hb_ hon hoff;refine ⟨_, rfl, fun K hK => ?_⟩;have e34 : a.tmps[34]? = some (.agg #[.int .i64 (wrap64 ((wrap64 (Int.tdiv Aa 27)) - 1)), .int .i64 (wrap64 ((Int.tmod (wrap64 (Int.tdiv Aa 9)) 3) - 1)), .int .i64 (wrap64 ((Int.tmod (wrap64 (Int.tdiv Aa 3)) 3) - 1)), .int .i64 (wrap64 ((Int.tmod Aa 3) - 1))]) := by rw [ha]; exact putSel_on (e := (6, 34, .agg #[.int .i64 (wrap64 ((wrap64 (Int.tdiv Aa 27)) - 1)), .int .i64 (wrap64 ((Int.tmod (wrap64 (Int.tdiv Aa 9)) 3) - 1)), .int .i64 (wrap64 ((Int.tmod (wrap64 (Int.tdiv Aa 3)) 3) - 1)), .int .i64 (wrap64 ((Int.tmod Aa 3) - 1))])) 6 rfl rfl (hon 6 (by kernel_rfl)) rfl
      have e35 : a.tmps[35]? = some (.agg #[.int .i64 1, .int .i64 1]) := by rw [ha]; exact putSel_on (e := (7, 35, .agg #[.int .i64 1, .int .i64 1])) 7 rfl rfl (hon 7 (by kernel_rfl)) rfl
      replace ha := Aside0.mk ha;have Af := Aside0.mk Q_HO_3;have Ab := Aside0.mk Q_BK491;have HB := Aside0.mk Q_HB;refine goes_ Try.func80 (by kernel_rfl) rfl #[.agg #[.int .i64 (wrap64 ((wrap64 (Int.tdiv Aa 27)) - 1)), .int .i64 (wrap64 ((Int.tmod (wrap64 (Int.tdiv Aa 9)) 3) - 1)), .int .i64 (wrap64 ((Int.tmod (wrap64 (Int.tdiv Aa 3)) 3) - 1)), .int .i64 (wrap64 ((Int.tmod Aa 3) - 1))], .agg #[.int .i64 1, .int .i64 1]] (by rfl) rfl rfl (by first | (simp only [List.map_toArray, List.map_cons, List.map_nil, Act.eval, Array.getD_eq_getD_getElem?, Option.getD_some, e34, e35]; done) | (simp only [List.map_toArray, List.map_cons, List.map_nil, Act.eval, Array.getD_eq_getD_getElem?, Option.getD_some, e34, e35]; rfl)) ?_;with_reducible refine (impl_Mat_apply.calls _ _ _ _ _ _ _ _ _ A7.out).mono ?_
      rintro e CK ⟨rfl, hb⟩;refine ⟨_, rfl, ?_⟩;have AE := asd (Kd.R_below (kr Af) hb);have AF := bB Ab hb;have AG := bS1 HB Aj hb;have z_BK498 := fun (h0_ : b 9 = true) (h1_ : b 12 = false) => (show CK.heap[Ac]? = some (.cells #[.int .i64 0, .int .i64 0] 53 (0, 0)) from by first | exact (blk_below (g := Ac) (o := .cells #[.int .i64 0, .int .i64 0] 53 (0, 0)) (by (with_reducible repeat (first | refine blk_drewN ?_ _ | refine blk_drew ?_ | refine blk_alloc ?_ _)); exact (Q_BK498 h0_ h1_)) hb));have z_BK499 := fun (h0_ : b 10 = true) (h1_ : b 13 = false) => (show CK.heap[Ad]? = some (.cells #[.int .i64 0, .int .i64 0] 53 (0, 0)) from by first | exact (blk_below (g := Ad) (o := .cells #[.int .i64 0, .int .i64 0] 53 (0, 0)) (by (with_reducible repeat (first | refine blk_drewN ?_ _ | refine blk_drew ?_ | refine blk_alloc ?_ _)); exact (Q_BK499 h0_ h1_)) hb));have z_BK500 := fun (h0_ : b 11 = true) (h1_ : b 14 = false) => (show CK.heap[Ae]? = some (.cells #[.int .i64 0, .int .i64 0] 53 (0, 0)) from by first | exact (blk_below (g := Ae) (o := .cells #[.int .i64 0, .int .i64 0] 53 (0, 0)) (by (with_reducible repeat (first | refine blk_drewN ?_ _ | refine blk_drew ?_ | refine blk_alloc ?_ _)); exact (Q_BK500 h0_ h1_)) hb));clear Af;clear Ab;clear HB;have Af := AE;have Ab := AF;have HB := AG;clear AE AF AG;(try clear hb);(try clear hb2);(try clear hk);(try clear hi);refine hK.out _ _ ⟨Ac, Ad, Ae, m9_, m10_, m11_, (by rw [ha.out]; exact putSel_upk 8 hb_ rfl rfl rfl), (kr Af), (bkp Ab), (bbw1 HB Aj), Q_NB499_498, Q_NB498_499, Q_NB500_498, Q_NB498_500, Q_NB500_499, Q_NB499_500, z_BK498, Q_GW498, Q_GE498, Q_NB491_498, Q_NB498_491, z_BK499, Q_GW499, Q_GE499, Q_NB491_499, Q_NB499_491, z_BK500, Q_GW500, Q_GE500, Q_NB491_500, Q_NB500_491, fun h0_ => absurd ((hoff 12 (by kernel_rfl)).symm.trans h0_) (by decide), fun h0_ => absurd ((hoff 13 (by kernel_rfl)).symm.trans h0_) (by decide), fun h0_ => absurd ((hoff 14 (by kernel_rfl)).symm.trans h0_) (by decide), Q_X9_, Q_X10_, Q_X11_⟩
     refine steps_cons ?_ ?_
     ·rintro b a w' ⟨Ac, Ad, Ae, m9_, m10_, m11_, ha, Q_HO_3, Q_BK491, Q_HB, Q_NB499_498, Q_NB498_499, Q_NB500_498, Q_NB498_500, Q_NB500_499, Q_NB499_500, Q_BK498, Q_GW498, Q_GE498, Q_NB491_498, Q_NB498_491, Q_BK499, Q_GW499, Q_GE499, Q_NB491_499, Q_NB499_491, Q_BK500, Q_GW500, Q_GE500, Q_NB491_500, Q_NB500_491, Q_BK498_e12, Q_BK499_e13, Q_BK500_e14, Q_X9_, Q_X10_, Q_X11_⟩ hb_ hon hoff;refine ⟨_, rfl, fun K hK => ?_⟩;replace ha := Aside0.mk ha;have Af := Aside0.mk Q_HO_3;have Ab := Aside0.mk Q_BK491;have HB := Aside0.mk Q_HB;refine box_step ?hg (N := 6) ?hd (cs := #[.int .i64 0, .int .i64 0]) (t := 53) ?hr ?_; (case hd => rfl); (case hg => rfl); (case hr => first | (go_simp; done) | (go_simp; rfl));intro Ac hg AP hbox hb;have AE := asd (Kd.R_below (kr Af) hb);have AF := bB Ab hb;have AG := bS1 HB Aj hb;have AU := asd (hbox);have AV := ngw1 hg HB Aj;have AW := ngw1 hg HB Aj;have A1 := nlt hg Ab;have A2 := nsy (nlt hg Ab);have z_NB499_498 := fun (h0_ : up b 9 9 = true) (h1_ : up b 9 10 = true) => (show Ad ≠ Ac from ((by rw [hg]; exact Nat.ne_of_lt (by cases hq_ : b 13 with | false => exact blk_lt (g := Ad) (Q_BK499 h1_ hq_) | true => exact blk_lt (g := Ad) (Q_BK499_e13 hq_)) : Ad ≠ Ac)));have z_NB498_499 := fun (h0_ : up b 9 9 = true) (h1_ : up b 9 10 = true) => (show Ac ≠ Ad from ((by rw [hg]; exact Nat.ne_of_gt (by cases hq_ : b 13 with | false => exact blk_lt (g := Ad) (Q_BK499 h1_ hq_) | true => exact blk_lt (g := Ad) (Q_BK499_e13 hq_)) : Ac ≠ Ad)));have z_NB500_498 := fun (h0_ : up b 9 9 = true) (h1_ : up b 9 11 = true) => (show Ae ≠ Ac from ((by rw [hg]; exact Nat.ne_of_lt (by cases hq_ : b 14 with | false => exact blk_lt (g := Ae) (Q_BK500 h1_ hq_) | true => exact blk_lt (g := Ae) (Q_BK500_e14 hq_)) : Ae ≠ Ac)));have z_NB498_500 := fun (h0_ : up b 9 9 = true) (h1_ : up b 9 11 = true) => (show Ac ≠ Ae from ((by rw [hg]; exact Nat.ne_of_gt (by cases hq_ : b 14 with | false => exact blk_lt (g := Ae) (Q_BK500 h1_ hq_) | true => exact blk_lt (g := Ae) (Q_BK500_e14 hq_)) : Ac ≠ Ae)));have z_BK499 := fun (h0_ : b 10 = true) (h1_ : b 13 = false) => (show AP.heap[Ad]? = some (.cells #[.int .i64 0, .int .i64 0] 53 (0, 0)) from by first | exact (blk_below (g := Ad) (o := .cells #[.int .i64 0, .int .i64 0] 53 (0, 0)) (by (with_reducible repeat (first | refine blk_drewN ?_ _ | refine blk_drew ?_ | refine blk_alloc ?_ _)); exact (Q_BK499 h0_ h1_)) hb));have z_BK500 := fun (h0_ : b 11 = true) (h1_ : b 14 = false) => (show AP.heap[Ae]? = some (.cells #[.int .i64 0, .int .i64 0] 53 (0, 0)) from by first | exact (blk_below (g := Ae) (o := .cells #[.int .i64 0, .int .i64 0] 53 (0, 0)) (by (with_reducible repeat (first | refine blk_drewN ?_ _ | refine blk_drew ?_ | refine blk_alloc ?_ _)); exact (Q_BK500 h0_ h1_)) hb));clear Af;clear Ab;clear HB;have Af := AE;have Ab := AF;have HB := AG;have Ai := AU;have AA := AV;have Ax := AW;have Aq := A1;have Aw := A2;clear AE AF AG AU AV AW A1 A2;clear hb hbox hg;refine hK.out _ _ ⟨Ac, Ad, Ae, (.pointer (some ⟨Ac, 0, none⟩)), m10_, m11_, (by rw [ha.out]; exact putSel_upk 9 hb_ rfl rfl rfl), (kr Af), (bkp Ab), (bbw2 HB Aj Ax), @z_NB499_498, @z_NB498_499, @z_NB500_498, @z_NB498_500, Q_NB500_499, Q_NB499_500, fun _ _ => (bkp Ai), fun _ => AA.out, fun _ => Ax.out, fun _ => Aq.out, fun _ => Aw.out, z_BK499, Q_GW499, Q_GE499, Q_NB491_499, Q_NB499_491, z_BK500, Q_GW500, Q_GE500, Q_NB491_500, Q_NB500_491, fun h0_ => absurd ((hoff 12 (by kernel_rfl)).symm.trans h0_) (by decide), fun h0_ => absurd ((hoff 13 (by kernel_rfl)).symm.trans h0_) (by decide), fun h0_ => absurd ((hoff 14 (by kernel_rfl)).symm.trans h0_) (by decide), fun _ => rfl, Q_X10_, Q_X11_⟩
     refine steps_cons ?_ ?_
     ·rintro b a w' ⟨Ac, Ad, Ae, m9_, m10_, m11_, ha, Q_HO_3, Q_BK491, Q_HB, Q_NB499_498, Q_NB498_499, Q_NB500_498, Q_NB498_500, Q_NB500_499, Q_NB499_500, Q_BK498, Q_GW498, Q_GE498, Q_NB491_498, Q_NB498_491, Q_BK499, Q_GW499, Q_GE499, Q_NB491_499, Q_NB499_491, Q_BK500, Q_GW500, Q_GE500, Q_NB491_500, Q_NB500_491, Q_BK498_e12, Q_BK499_e13, Q_BK500_e14, Q_X9_, Q_X10_, Q_X11_⟩ hb_ hon hoff;refine ⟨_, rfl, fun K hK => ?_⟩;replace ha := Aside0.mk ha;have Af := Aside0.mk Q_HO_3;have Ab := Aside0.mk Q_BK491;have HB := Aside0.mk Q_HB;refine box_step ?hg (N := 7) ?hd (cs := #[.int .i64 0, .int .i64 0]) (t := 53) ?hr ?_; (case hd => rfl); (case hg => rfl); (case hr => first | (go_simp; done) | (go_simp; rfl));intro Ad hg AP hbox hb;have AE := asd (Kd.R_below (kr Af) hb);have AF := bB Ab hb;have AG := bS1 HB Aj hb;have AU := asd (hbox);have AV := ngw1 hg HB Aj;have AW := ngw1 hg HB Aj;have A1 := nlt hg Ab;have A2 := nsy (nlt hg Ab);have z_NB499_498 := fun (h0_ : up b 10 9 = true) (h1_ : up b 10 10 = true) => (show Ad ≠ Ac from ((by rw [hg]; exact Nat.ne_of_gt (by cases hq_ : b 12 with | false => exact blk_lt (g := Ac) (Q_BK498 h0_ hq_) | true => exact blk_lt (g := Ac) (Q_BK498_e12 hq_)) : Ad ≠ Ac)));have z_NB498_499 := fun (h0_ : up b 10 9 = true) (h1_ : up b 10 10 = true) => (show Ac ≠ Ad from ((by rw [hg]; exact Nat.ne_of_lt (by cases hq_ : b 12 with | false => exact blk_lt (g := Ac) (Q_BK498 h0_ hq_) | true => exact blk_lt (g := Ac) (Q_BK498_e12 hq_)) : Ac ≠ Ad)));have z_NB500_499 := fun (h0_ : up b 10 10 = true) (h1_ : up b 10 11 = true) => (show Ae ≠ Ad from ((by rw [hg]; exact Nat.ne_of_lt (by cases hq_ : b 14 with | false => exact blk_lt (g := Ae) (Q_BK500 h1_ hq_) | true => exact blk_lt (g := Ae) (Q_BK500_e14 hq_)) : Ae ≠ Ad)));have z_NB499_500 := fun (h0_ : up b 10 10 = true) (h1_ : up b 10 11 = true) => (show Ad ≠ Ae from ((by rw [hg]; exact Nat.ne_of_gt (by cases hq_ : b 14 with | false => exact blk_lt (g := Ae) (Q_BK500 h1_ hq_) | true => exact blk_lt (g := Ae) (Q_BK500_e14 hq_)) : Ad ≠ Ae)));have z_BK498 := fun (h0_ : b 9 = true) (h1_ : b 12 = false) => (show AP.heap[Ac]? = some (.cells #[.int .i64 0, .int .i64 0] 53 (0, 0)) from by first | exact (blk_below (g := Ac) (o := .cells #[.int .i64 0, .int .i64 0] 53 (0, 0)) (by (with_reducible repeat (first | refine blk_drewN ?_ _ | refine blk_drew ?_ | refine blk_alloc ?_ _)); exact (Q_BK498 h0_ h1_)) hb));have z_BK500 := fun (h0_ : b 11 = true) (h1_ : b 14 = false) => (show AP.heap[Ae]? = some (.cells #[.int .i64 0, .int .i64 0] 53 (0, 0)) from by first | exact (blk_below (g := Ae) (o := .cells #[.int .i64 0, .int .i64 0] 53 (0, 0)) (by (with_reducible repeat (first | refine blk_drewN ?_ _ | refine blk_drew ?_ | refine blk_alloc ?_ _)); exact (Q_BK500 h0_ h1_)) hb));clear Af;clear Ab;clear HB;have Af := AE;have Ab := AF;have HB := AG;have Ag := AU;have AB := AV;have Ay := AW;have Al := A1;have Ao := A2;clear AE AF AG AU AV AW A1 A2;clear hb hbox hg;refine hK.out _ _ ⟨Ac, Ad, Ae, m9_, (.pointer (some ⟨Ad, 0, none⟩)), m11_, (by rw [ha.out]; exact putSel_upk 10 hb_ rfl rfl rfl), (kr Af), (bkp Ab), (bbw2 HB Aj Ay), @z_NB499_498, @z_NB498_499, Q_NB500_498, Q_NB498_500, @z_NB500_499, @z_NB499_500, z_BK498, Q_GW498, Q_GE498, Q_NB491_498, Q_NB498_491, fun _ _ => (bkp Ag), fun _ => AB.out, fun _ => Ay.out, fun _ => Al.out, fun _ => Ao.out, z_BK500, Q_GW500, Q_GE500, Q_NB491_500, Q_NB500_491, fun h0_ => absurd ((hoff 12 (by kernel_rfl)).symm.trans h0_) (by decide), fun h0_ => absurd ((hoff 13 (by kernel_rfl)).symm.trans h0_) (by decide), fun h0_ => absurd ((hoff 14 (by kernel_rfl)).symm.trans h0_) (by decide), Q_X9_, fun _ => rfl, Q_X11_⟩
     refine steps_cons ?_ ?_
     ·rintro b a w' ⟨Ac, Ad, Ae, m9_, m10_, m11_, ha, Q_HO_3, Q_BK491, Q_HB, Q_NB499_498, Q_NB498_499, Q_NB500_498, Q_NB498_500, Q_NB500_499, Q_NB499_500, Q_BK498, Q_GW498, Q_GE498, Q_NB491_498, Q_NB498_491, Q_BK499, Q_GW499, Q_GE499, Q_NB491_499, Q_NB499_491, Q_BK500, Q_GW500, Q_GE500, Q_NB491_500, Q_NB500_491, Q_BK498_e12, Q_BK499_e13, Q_BK500_e14, Q_X9_, Q_X10_, Q_X11_⟩ hb_ hon hoff;refine ⟨_, rfl, fun K hK => ?_⟩;replace ha := Aside0.mk ha;have Af := Aside0.mk Q_HO_3;have Ab := Aside0.mk Q_BK491;have HB := Aside0.mk Q_HB;refine box_step ?hg (N := 8) ?hd (cs := #[.int .i64 0, .int .i64 0]) (t := 53) ?hr ?_; (case hd => rfl); (case hg => rfl); (case hr => first | (go_simp; done) | (go_simp; rfl));intro Ae hg AP hbox hb;have AE := asd (Kd.R_below (kr Af) hb);have AF := bB Ab hb;have AG := bS1 HB Aj hb;have AU := asd (hbox);have AV := ngw1 hg HB Aj;have AW := ngw1 hg HB Aj;have A1 := nlt hg Ab;have A2 := nsy (nlt hg Ab);have z_NB500_498 := fun (h0_ : up b 11 9 = true) (h1_ : up b 11 11 = true) => (show Ae ≠ Ac from ((by rw [hg]; exact Nat.ne_of_gt (by cases hq_ : b 12 with | false => exact blk_lt (g := Ac) (Q_BK498 h0_ hq_) | true => exact blk_lt (g := Ac) (Q_BK498_e12 hq_)) : Ae ≠ Ac)));have z_NB498_500 := fun (h0_ : up b 11 9 = true) (h1_ : up b 11 11 = true) => (show Ac ≠ Ae from ((by rw [hg]; exact Nat.ne_of_lt (by cases hq_ : b 12 with | false => exact blk_lt (g := Ac) (Q_BK498 h0_ hq_) | true => exact blk_lt (g := Ac) (Q_BK498_e12 hq_)) : Ac ≠ Ae)));have z_NB500_499 := fun (h0_ : up b 11 10 = true) (h1_ : up b 11 11 = true) => (show Ae ≠ Ad from ((by rw [hg]; exact Nat.ne_of_gt (by cases hq_ : b 13 with | false => exact blk_lt (g := Ad) (Q_BK499 h0_ hq_) | true => exact blk_lt (g := Ad) (Q_BK499_e13 hq_)) : Ae ≠ Ad)));have z_NB499_500 := fun (h0_ : up b 11 10 = true) (h1_ : up b 11 11 = true) => (show Ad ≠ Ae from ((by rw [hg]; exact Nat.ne_of_lt (by cases hq_ : b 13 with | false => exact blk_lt (g := Ad) (Q_BK499 h0_ hq_) | true => exact blk_lt (g := Ad) (Q_BK499_e13 hq_)) : Ad ≠ Ae)));have z_BK498 := fun (h0_ : b 9 = true) (h1_ : b 12 = false) => (show AP.heap[Ac]? = some (.cells #[.int .i64 0, .int .i64 0] 53 (0, 0)) from by first | exact (blk_below (g := Ac) (o := .cells #[.int .i64 0, .int .i64 0] 53 (0, 0)) (by (with_reducible repeat (first | refine blk_drewN ?_ _ | refine blk_drew ?_ | refine blk_alloc ?_ _)); exact (Q_BK498 h0_ h1_)) hb));have z_BK499 := fun (h0_ : b 10 = true) (h1_ : b 13 = false) => (show AP.heap[Ad]? = some (.cells #[.int .i64 0, .int .i64 0] 53 (0, 0)) from by first | exact (blk_below (g := Ad) (o := .cells #[.int .i64 0, .int .i64 0] 53 (0, 0)) (by (with_reducible repeat (first | refine blk_drewN ?_ _ | refine blk_drew ?_ | refine blk_alloc ?_ _)); exact (Q_BK499 h0_ h1_)) hb));clear Af;clear Ab;clear HB;have Af := AE;have Ab := AF;have HB := AG;have Ah := AU;have AC := AV;have Az := AW;have Ap := A1;have Ar := A2;clear AE AF AG AU AV AW A1 A2;clear hb hbox hg;refine hK.out _ _ ⟨Ac, Ad, Ae, m9_, m10_, (.pointer (some ⟨Ae, 0, none⟩)), (by rw [ha.out]; exact putSel_upk 11 hb_ rfl rfl rfl), (kr Af), (bkp Ab), (bbw2 HB Aj Az), Q_NB499_498, Q_NB498_499, @z_NB500_498, @z_NB498_500, @z_NB500_499, @z_NB499_500, z_BK498, Q_GW498, Q_GE498, Q_NB491_498, Q_NB498_491, z_BK499, Q_GW499, Q_GE499, Q_NB491_499, Q_NB499_491, fun _ _ => (bkp Ah), fun _ => AC.out, fun _ => Az.out, fun _ => Ap.out, fun _ => Ar.out, fun h0_ => absurd ((hoff 12 (by kernel_rfl)).symm.trans h0_) (by decide), fun h0_ => absurd ((hoff 13 (by kernel_rfl)).symm.trans h0_) (by decide), fun h0_ => absurd ((hoff 14 (by kernel_rfl)).symm.trans h0_) (by decide), Q_X9_, Q_X10_, fun _ => rfl⟩
     refine steps_cons ?_ ?_
     ·rintro b a w' ⟨Ac, Ad, Ae, m9_, m10_, m11_, ha, Q_HO_3, Q_BK491, Q_HB, Q_NB499_498, Q_NB498_499, Q_NB500_498, Q_NB498_500, Q_NB500_499, Q_NB499_500, Q_BK498, Q_GW498, Q_GE498, Q_NB491_498, Q_NB498_491, Q_BK499, Q_GW499, Q_GE499, Q_NB491_499, Q_NB499_491, Q_BK500, Q_GW500, Q_GE500, Q_NB491_500, Q_NB500_491, Q_BK498_e12, Q_BK499_e13, Q_BK500_e14, Q_X9_, Q_X10_, Q_X11_⟩ hb_ hon hoff;refine ⟨_, rfl, fun K hK => ?_⟩;have e6 : a.tmps[6]? = some (m9_) := by rw [ha]; exact putSel_on (e := (9, 6, m9_)) 9 rfl rfl (hon 9 (by kernel_rfl)) rfl
      rw [Q_X9_ (hon 9 (by kernel_rfl))] at e6;have e30 : a.tmps[30]? = some (.agg #[.int .i64 AI, .int .i64 AJ]) := by rw [ha]; exact putSel_on (e := (2, 30, .agg #[.int .i64 AI, .int .i64 AJ])) 2 rfl rfl (hon 2 (by kernel_rfl)) rfl
      replace ha := Aside0.mk ha;have Af := Aside0.mk Q_HO_3;have Ab := Aside0.mk Q_BK491;have HB := Aside0.mk Q_HB;have As := asd (Q_NB499_498 (hon 9 (by kernel_rfl)) (hon 10 (by kernel_rfl)));have At := asd (Q_NB498_499 (hon 9 (by kernel_rfl)) (hon 10 (by kernel_rfl)));have Au := asd (Q_NB500_498 (hon 9 (by kernel_rfl)) (hon 11 (by kernel_rfl)));have Av := asd (Q_NB498_500 (hon 9 (by kernel_rfl)) (hon 11 (by kernel_rfl)));have Am := asd (Q_NB500_499 (hon 10 (by kernel_rfl)) (hon 11 (by kernel_rfl)));have An := asd (Q_NB499_500 (hon 10 (by kernel_rfl)) (hon 11 (by kernel_rfl)));have Ai := asd (Q_BK498 (hon 9 (by kernel_rfl)) hb_);have AA := asd (Q_GW498 (hon 9 (by kernel_rfl)));have Ax := asd (Q_GE498 (hon 9 (by kernel_rfl)));have Aq := asd (Q_NB491_498 (hon 9 (by kernel_rfl)));have Aw := asd (Q_NB498_491 (hon 9 (by kernel_rfl)));have Ag := asd (Q_BK499 (hon 10 (by kernel_rfl)) (hoff 13 (by kernel_rfl)));have AB := asd (Q_GW499 (hon 10 (by kernel_rfl)));have Ay := asd (Q_GE499 (hon 10 (by kernel_rfl)));have Al := asd (Q_NB491_499 (hon 10 (by kernel_rfl)));have Ao := asd (Q_NB499_491 (hon 10 (by kernel_rfl)));have Ah := asd (Q_BK500 (hon 11 (by kernel_rfl)) (hoff 14 (by kernel_rfl)));have AC := asd (Q_GW500 (hon 11 (by kernel_rfl)));have Az := asd (Q_GE500 (hon 11 (by kernel_rfl)));have Ap := asd (Q_NB491_500 (hon 11 (by kernel_rfl)));have Ar := asd (Q_NB500_491 (hon 11 (by kernel_rfl)));have hs26 : w'.cell? ⟨Ac, 0, none⟩ = some (.int .i64 0) := bcl Ai 0;have hfs26 := blk_frozen Ai.out 0;have Bt := Aq.out;have Bu := As.out;have Bv := Au.out;have Bw := Aw.out;have Bx := At.out;have By := Av.out;have hs27 : w'.cell? ⟨Ac, 1, none⟩ = some (.int .i64 0) := bcl Ai 1;have hfs27 := blk_frozen Ai.out 1;have Bz := Aq.out;have BA := As.out;have BB := Au.out;have BC := Aw.out;have BD := At.out;have BE := Av.out;refine skip_ (w1 := ?_) (by rfl) rfl ?_ ?_;rotate_left
      ·go_simp;rfl
      refine hK.out _ _ ⟨Ac, Ad, Ae, m9_, m10_, m11_, (by rw [ha.out]; exact putSel_none (v := undef) rfl), (by (with_reducible repeat (first | apply Kd.R_alloc | apply Kd.R_drewN | apply Kd.R_drew)); exact Kd.R_mono (rw2 (Kd.R_types Af.out Ai.out (by decide))) (fun _ hk => hk.1)), (bq1 Ab Aq), (bbw4 HB Aj Ax Ay Az), fun _ _ => As.out, fun _ _ => At.out, fun _ _ => Au.out, fun _ _ => Av.out, fun _ _ => Am.out, fun _ _ => An.out, fun _ h1_ => absurd ((up_self b 12).symm.trans h1_) (by decide), fun _ => AA.out, fun _ => Ax.out, fun _ => Aq.out, fun _ => Aw.out, fun _ _ => (bq1 Ag As), fun _ => AB.out, fun _ => Ay.out, fun _ => Al.out, fun _ => Ao.out, fun _ _ => (bq1 Ah Au), fun _ => AC.out, fun _ => Az.out, fun _ => Ap.out, fun _ => Ar.out, fun _ => (bq0 Ai), fun h0_ => absurd ((hoff 13 (by kernel_rfl)).symm.trans h0_) (by decide), fun h0_ => absurd ((hoff 14 (by kernel_rfl)).symm.trans h0_) (by decide), Q_X9_, Q_X10_, Q_X11_⟩
     refine steps_cons ?_ ?_
     ·rintro b a w' ⟨Ac, Ad, Ae, m9_, m10_, m11_, ha, Q_HO_3, Q_BK491, Q_HB, Q_NB499_498, Q_NB498_499, Q_NB500_498, Q_NB498_500, Q_NB500_499, Q_NB499_500, Q_BK498, Q_GW498, Q_GE498, Q_NB491_498, Q_NB498_491, Q_BK499, Q_GW499, Q_GE499, Q_NB491_499, Q_NB499_491, Q_BK500, Q_GW500, Q_GE500, Q_NB491_500, Q_NB500_491, Q_BK498_e12, Q_BK499_e13, Q_BK500_e14, Q_X9_, Q_X10_, Q_X11_⟩ hb_ hon hoff;refine ⟨_, rfl, fun K hK => ?_⟩;have e7 : a.tmps[7]? = some (m10_) := by rw [ha]; exact putSel_on (e := (10, 7, m10_)) 10 rfl rfl (hon 10 (by kernel_rfl)) rfl
      rw [Q_X10_ (hon 10 (by kernel_rfl))] at e7;have e33 : a.tmps[33]? = some (.agg #[.int .i64 AQ, .int .i64 AR]) := by rw [ha]; exact putSel_on (e := (5, 33, .agg #[.int .i64 AQ, .int .i64 AR])) 5 rfl rfl (hon 5 (by kernel_rfl)) rfl
      replace ha := Aside0.mk ha;have Af := Aside0.mk Q_HO_3;have Ab := Aside0.mk Q_BK491;have HB := Aside0.mk Q_HB;have As := asd (Q_NB499_498 (hon 9 (by kernel_rfl)) (hon 10 (by kernel_rfl)));have At := asd (Q_NB498_499 (hon 9 (by kernel_rfl)) (hon 10 (by kernel_rfl)));have Au := asd (Q_NB500_498 (hon 9 (by kernel_rfl)) (hon 11 (by kernel_rfl)));have Av := asd (Q_NB498_500 (hon 9 (by kernel_rfl)) (hon 11 (by kernel_rfl)));have Am := asd (Q_NB500_499 (hon 10 (by kernel_rfl)) (hon 11 (by kernel_rfl)));have An := asd (Q_NB499_500 (hon 10 (by kernel_rfl)) (hon 11 (by kernel_rfl)));have AA := asd (Q_GW498 (hon 9 (by kernel_rfl)));have Ax := asd (Q_GE498 (hon 9 (by kernel_rfl)));have Aq := asd (Q_NB491_498 (hon 9 (by kernel_rfl)));have Aw := asd (Q_NB498_491 (hon 9 (by kernel_rfl)));have Ag := asd (Q_BK499 (hon 10 (by kernel_rfl)) hb_);have AB := asd (Q_GW499 (hon 10 (by kernel_rfl)));have Ay := asd (Q_GE499 (hon 10 (by kernel_rfl)));have Al := asd (Q_NB491_499 (hon 10 (by kernel_rfl)));have Ao := asd (Q_NB499_491 (hon 10 (by kernel_rfl)));have Ah := asd (Q_BK500 (hon 11 (by kernel_rfl)) (hoff 14 (by kernel_rfl)));have AC := asd (Q_GW500 (hon 11 (by kernel_rfl)));have Az := asd (Q_GE500 (hon 11 (by kernel_rfl)));have Ap := asd (Q_NB491_500 (hon 11 (by kernel_rfl)));have Ar := asd (Q_NB500_491 (hon 11 (by kernel_rfl)));have Ai := asd (Q_BK498_e12 (hon 12 (by kernel_rfl)));have hs28 : w'.cell? ⟨Ad, 0, none⟩ = some (.int .i64 0) := bcl Ag 0;have hfs28 := blk_frozen Ag.out 0;have BF := Al.out;have BG := At.out;have BH := Am.out;have BI := Ao.out;have BJ := As.out;have BK := An.out;have hs29 : w'.cell? ⟨Ad, 1, none⟩ = some (.int .i64 0) := bcl Ag 1;have hfs29 := blk_frozen Ag.out 1;have BL := Al.out;have BM := At.out;have BN := Am.out;have BO := Ao.out;have BP := As.out;have BQ := An.out;refine skip_ (w1 := ?_) (by rfl) rfl ?_ ?_;rotate_left
      ·go_simp;rfl
      refine hK.out _ _ ⟨Ac, Ad, Ae, m9_, m10_, m11_, (by rw [ha.out]; exact putSel_none (v := undef) rfl), (by (with_reducible repeat (first | apply Kd.R_alloc | apply Kd.R_drewN | apply Kd.R_drew)); exact Kd.R_mono (rw2 (Kd.R_types Af.out Ag.out (by decide))) (fun _ hk => hk.1)), (bq1 Ab Al), (bbw4 HB Aj Ax Ay Az), fun _ _ => As.out, fun _ _ => At.out, fun _ _ => Au.out, fun _ _ => Av.out, fun _ _ => Am.out, fun _ _ => An.out, fun _ h1_ => absurd ((hon 12 (by kernel_rfl)).symm.trans h1_) (by decide), fun _ => AA.out, fun _ => Ax.out, fun _ => Aq.out, fun _ => Aw.out, fun _ h1_ => absurd ((up_self b 13).symm.trans h1_) (by decide), fun _ => AB.out, fun _ => Ay.out, fun _ => Al.out, fun _ => Ao.out, fun _ _ => (bq1 Ah Am), fun _ => AC.out, fun _ => Az.out, fun _ => Ap.out, fun _ => Ar.out, fun _ => (bq1 Ai At), fun _ => (bq0 Ag), fun h0_ => absurd ((hoff 14 (by kernel_rfl)).symm.trans h0_) (by decide), Q_X9_, Q_X10_, Q_X11_⟩
     refine steps_cons ?_ ?_
     ·rintro b a w' ⟨Ac, Ad, Ae, m9_, m10_, m11_, ha, Q_HO_3, Q_BK491, Q_HB, Q_NB499_498, Q_NB498_499, Q_NB500_498, Q_NB498_500, Q_NB500_499, Q_NB499_500, Q_BK498, Q_GW498, Q_GE498, Q_NB491_498, Q_NB498_491, Q_BK499, Q_GW499, Q_GE499, Q_NB491_499, Q_NB499_491, Q_BK500, Q_GW500, Q_GE500, Q_NB491_500, Q_NB500_491, Q_BK498_e12, Q_BK499_e13, Q_BK500_e14, Q_X9_, Q_X10_, Q_X11_⟩ hb_ hon hoff;refine ⟨_, rfl, fun K hK => ?_⟩;have e8 : a.tmps[8]? = some (m11_) := by rw [ha]; exact putSel_on (e := (11, 8, m11_)) 11 rfl rfl (hon 11 (by kernel_rfl)) rfl
      rw [Q_X11_ (hon 11 (by kernel_rfl))] at e8;have e36 : a.tmps[36]? = some (.agg #[.int .i64 AS, .int .i64 AT]) := by rw [ha]; exact putSel_on (e := (8, 36, .agg #[.int .i64 AS, .int .i64 AT])) 8 rfl rfl (hon 8 (by kernel_rfl)) rfl
      replace ha := Aside0.mk ha;have Af := Aside0.mk Q_HO_3;have Ab := Aside0.mk Q_BK491;have HB := Aside0.mk Q_HB;have As := asd (Q_NB499_498 (hon 9 (by kernel_rfl)) (hon 10 (by kernel_rfl)));have At := asd (Q_NB498_499 (hon 9 (by kernel_rfl)) (hon 10 (by kernel_rfl)));have Au := asd (Q_NB500_498 (hon 9 (by kernel_rfl)) (hon 11 (by kernel_rfl)));have Av := asd (Q_NB498_500 (hon 9 (by kernel_rfl)) (hon 11 (by kernel_rfl)));have Am := asd (Q_NB500_499 (hon 10 (by kernel_rfl)) (hon 11 (by kernel_rfl)));have An := asd (Q_NB499_500 (hon 10 (by kernel_rfl)) (hon 11 (by kernel_rfl)));have AA := asd (Q_GW498 (hon 9 (by kernel_rfl)));have Ax := asd (Q_GE498 (hon 9 (by kernel_rfl)));have Aq := asd (Q_NB491_498 (hon 9 (by kernel_rfl)));have Aw := asd (Q_NB498_491 (hon 9 (by kernel_rfl)));have AB := asd (Q_GW499 (hon 10 (by kernel_rfl)));have Ay := asd (Q_GE499 (hon 10 (by kernel_rfl)));have Al := asd (Q_NB491_499 (hon 10 (by kernel_rfl)));have Ao := asd (Q_NB499_491 (hon 10 (by kernel_rfl)));have Ah := asd (Q_BK500 (hon 11 (by kernel_rfl)) hb_);have AC := asd (Q_GW500 (hon 11 (by kernel_rfl)));have Az := asd (Q_GE500 (hon 11 (by kernel_rfl)));have Ap := asd (Q_NB491_500 (hon 11 (by kernel_rfl)));have Ar := asd (Q_NB500_491 (hon 11 (by kernel_rfl)));have Ai := asd (Q_BK498_e12 (hon 12 (by kernel_rfl)));have Ag := asd (Q_BK499_e13 (hon 13 (by kernel_rfl)));have hs30 : w'.cell? ⟨Ae, 0, none⟩ = some (.int .i64 0) := bcl Ah 0;have hfs30 := blk_frozen Ah.out 0;have BR := Ap.out;have BS := Av.out;have BT := An.out;have BU := Ar.out;have BV := Au.out;have BW := Am.out;have hs31 : w'.cell? ⟨Ae, 1, none⟩ = some (.int .i64 0) := bcl Ah 1;have hfs31 := blk_frozen Ah.out 1;have BX := Ap.out;have BY := Av.out;have BZ := An.out;have B0 := Ar.out;have B3 := Au.out;have B8 := Am.out;refine skip_ (w1 := ?_) (by rfl) rfl ?_ ?_;rotate_left
      ·go_simp;rfl
      refine hK.out _ _ ⟨Ac, Ad, Ae, m9_, m10_, m11_, (by rw [ha.out]; exact putSel_none (v := undef) rfl), (by (with_reducible repeat (first | apply Kd.R_alloc | apply Kd.R_drewN | apply Kd.R_drew)); exact Kd.R_mono (rw2 (Kd.R_types Af.out Ah.out (by decide))) (fun _ hk => hk.1)), (bq1 Ab Ap), (bbw4 HB Aj Ax Ay Az), fun _ _ => As.out, fun _ _ => At.out, fun _ _ => Au.out, fun _ _ => Av.out, fun _ _ => Am.out, fun _ _ => An.out, fun _ h1_ => absurd ((hon 12 (by kernel_rfl)).symm.trans h1_) (by decide), fun _ => AA.out, fun _ => Ax.out, fun _ => Aq.out, fun _ => Aw.out, fun _ h1_ => absurd ((hon 13 (by kernel_rfl)).symm.trans h1_) (by decide), fun _ => AB.out, fun _ => Ay.out, fun _ => Al.out, fun _ => Ao.out, fun _ h1_ => absurd ((up_self b 14).symm.trans h1_) (by decide), fun _ => AC.out, fun _ => Az.out, fun _ => Ap.out, fun _ => Ar.out, fun _ => (bq1 Ai Av), fun _ => (bq1 Ag An), fun _ => (bq0 Ah), Q_X9_, Q_X10_, Q_X11_⟩
     exact steps_nil
    rintro b a Df hall ⟨Ac, Ad, Ae, m9_, m10_, m11_, ha, Q_HO_3, Q_BK491, Q_HB, Q_NB499_498, Q_NB498_499, Q_NB500_498, Q_NB498_500, Q_NB500_499, Q_NB499_500, Q_BK498, Q_GW498, Q_GE498, Q_NB491_498, Q_NB498_491, Q_BK499, Q_GW499, Q_GE499, Q_NB491_499, Q_NB499_491, Q_BK500, Q_GW500, Q_GE500, Q_NB491_500, Q_NB500_491, Q_BK498_e12, Q_BK499_e13, Q_BK500_e14, Q_X9_, Q_X10_, Q_X11_⟩;clear Ab HB Af;have hb0_ := hall 0 (by kernel_rfl);have hb1_ := hall 1 (by kernel_rfl);have hb2_ := hall 2 (by kernel_rfl);have hb3_ := hall 3 (by kernel_rfl);have hb4_ := hall 4 (by kernel_rfl);have hb5_ := hall 5 (by kernel_rfl);have hb6_ := hall 6 (by kernel_rfl);have hb7_ := hall 7 (by kernel_rfl);have hb8_ := hall 8 (by kernel_rfl);have hb9_ := hall 9 (by kernel_rfl);have hb10_ := hall 10 (by kernel_rfl);have hb11_ := hall 11 (by kernel_rfl);have hb12_ := hall 12 (by kernel_rfl);have hb13_ := hall 13 (by kernel_rfl);have hb14_ := hall 14 (by kernel_rfl);subst ha;obtain rfl := Q_X9_ hb9_;obtain rfl := Q_X10_ hb10_;obtain rfl := Q_X11_ hb11_;simp only [putSel, hb0_, hb1_, hb2_, hb3_, hb4_, hb5_, hb6_, hb7_, hb8_, hb9_, hb10_, hb11_, hb12_, hb13_, hb14_, if_true, Act.put, sA, sB, sC];have Af := Aside0.mk Q_HO_3;clear Q_HO_3;have Ab := Aside0.mk Q_BK491;clear Q_BK491;have HB := Aside0.mk Q_HB;clear Q_HB;have As := asd (Q_NB499_498 hb9_ hb10_);clear Q_NB499_498;have At := asd (Q_NB498_499 hb9_ hb10_);clear Q_NB498_499;have Au := asd (Q_NB500_498 hb9_ hb11_);clear Q_NB500_498;have Av := asd (Q_NB498_500 hb9_ hb11_);clear Q_NB498_500;have Am := asd (Q_NB500_499 hb10_ hb11_);clear Q_NB500_499;have An := asd (Q_NB499_500 hb10_ hb11_);clear Q_NB499_500;clear Q_BK498;have AA := asd (Q_GW498 hb9_);clear Q_GW498;have Ax := asd (Q_GE498 hb9_);clear Q_GE498;have Aq := asd (Q_NB491_498 hb9_);clear Q_NB491_498;have Aw := asd (Q_NB498_491 hb9_);clear Q_NB498_491;clear Q_BK499;have AB := asd (Q_GW499 hb10_);clear Q_GW499;have Ay := asd (Q_GE499 hb10_);clear Q_GE499;have Al := asd (Q_NB491_499 hb10_);clear Q_NB491_499;have Ao := asd (Q_NB499_491 hb10_);clear Q_NB499_491;clear Q_BK500;have AC := asd (Q_GW500 hb11_);clear Q_GW500;have Az := asd (Q_GE500 hb11_);clear Q_GE500;have Ap := asd (Q_NB491_500 hb11_);clear Q_NB491_500;have Ar := asd (Q_NB500_491 hb11_);clear Q_NB500_491;have Ai := asd (Q_BK498_e12 hb12_);clear Q_BK498_e12;have Ag := asd (Q_BK499_e13 hb13_);clear Q_BK499_e13;have Ah := asd (Q_BK500_e14 hb14_);clear Q_BK500_e14;clear hall hb0_ hb1_ hb2_ hb3_ hb4_ hb5_ hb6_ hb7_ hb8_ hb9_ hb10_ hb11_ hb12_ hb13_ hb14_;have CO := Aw.out;have CP := Aq.out;have CQ := At.out;have CR := As.out;have CS := Av.out;have CT := Au.out;obtain ⟨Ca, Cb, Cc, Cd⟩ := bz2 Ai;have H := Hq_.out;clear Hq_;obtain ⟨AM, A8, H⟩ := ob H;(try dsimp only at H);by_cases c9 : AM = 1
    rw [if_pos c9] at H;have CL : (AM == 1) = true := beq_iff_eq.mpr c9;have CM : (AM != 1) = false := bne_eq_false_iff_eq.mpr c9;clear c9;obtain ⟨AN, CN, H⟩ := ob H;(try dsimp only at H);by_cases A3 : AN = 1
    rw [if_pos A3] at H;have Bc : (AN == 1) = true := beq_iff_eq.mpr A3;have Bd : (AN != 1) = false := bne_eq_false_iff_eq.mpr A3;clear A3;obtain ⟨AO, CU, H⟩ := ob H;(try dsimp only at H);by_cases A4 : AO = (wrap64 (2 + a0))
    rw [if_pos A4] at H;have Be : (AO == (wrap64 (2 + a0))) = true := beq_iff_eq.mpr A4;have Bf : (AO != (wrap64 (2 + a0))) = false := bne_eq_false_iff_eq.mpr A4;clear A4;by_cases Ce : AH.length < 4398046511104
    rw [if_pos Ce] at H;have Bg := Aside0.mk Ce;clear Ce;obtain ⟨Bh, AL⟩ : ∃ y_ : List (S51), y_ = (AH ++ [(⟨wrap64 ((wrap64 (Int.tdiv Aa 27)) - 1), wrap64 ((Int.tmod (wrap64 (Int.tdiv Aa 9)) 3) - 1), wrap64 ((Int.tmod (wrap64 (Int.tdiv Aa 3)) 3) - 1), wrap64 ((Int.tmod Aa 3) - 1)⟩ : S51)]) := ⟨_, rfl⟩;replace H : (impl_pointMats.l0 k1 a0 Bh (wrap64 (Aa + 1))) = some r := by first | (rw [AL]; with_reducible exact H) | (have H2_ := (Option.bind_some _ _).symm.trans H; rw [AL]; with_reducible exact H2_) | (have H2_ := (Option.bind_some _ _).symm.trans H; with_reducible exact H2_) | with_reducible exact H | (rw [AL]; exact H) | exact H
    have Bi := Aside0.mk AL;clear AL;have H' := Aside0.mk H;clear H;rotate_left
    ·rw [if_neg Ce] at H;exact absurd H (by simp)
    rw [if_neg A4] at H;have Be : (AO == (wrap64 (2 + a0))) = false := beq_eq_false_iff_ne.mpr A4;have Bf : (AO != (wrap64 (2 + a0))) = true := bne_iff_ne.mpr A4;have H' := Aside0.mk H;clear H;rotate_left;rw [if_neg A3] at H;have Bc : (AN == 1) = false := beq_eq_false_iff_ne.mpr A3;have Bd : (AN != 1) = true := bne_iff_ne.mpr A3;have H' := Aside0.mk H;clear H;rotate_left;rw [if_neg c9] at H;have CL : (AM == 1) = false := beq_eq_false_iff_ne.mpr c9;have CM : (AM != 1) = true := bne_iff_ne.mpr c9;have H' := Aside0.mk H;clear H;rotate_left;try go_wp2_with (first | ((with_reducible refine gate_callee (f := 94) rfl ?_); refine gl 39 Try.func94 #[.int .i64 a0, .agg #[.int .i64 AI, .int .i64 AJ]] ?_; (with_reducible refine (impl_norm.calls _ _ _ _ _ A8.out).mono ?_); rintro e Dg ⟨rfl, hb⟩; refine ⟨_, rfl, ?_⟩; replace Af := asd (Kd.R_below (kr Af) hb); replace Ab := bB Ab hb; replace Ai := bB Ai hb; replace Ag := bB Ag hb; replace Ah := bB Ah hb; replace HB := bS4 HB Aj Ax Ay Az hb; (try clear hb); have CV := Ao.out; have CW := Al.out; have CX := An.out; have CY := Am.out; obtain ⟨Cf, Cg, Ch, Ci⟩ := bz2 Ag) | (go_at_call 94; (with_reducible refine (impl_norm.calls _ _ _ _ _ CN.out).mono ?_); rintro e Dh ⟨rfl, hb⟩; replace Af := asd (Kd.R_below (kr Af) hb); replace Ab := bB Ab hb; replace Ai := bB Ai hb; replace Ag := bB Ag hb; replace Ah := bB Ah hb; replace HB := bS4 HB Aj Ax Ay Az hb; (try clear hb); have CZ := Ar.out; have C0 := Ap.out; obtain ⟨Cj, Ck, Cl, Cm⟩ := bz2 Ah) | (go_at_call 94; (with_reducible refine (impl_norm.calls _ _ _ _ _ CU.out).mono ?_); rintro e Di ⟨rfl, hb⟩; replace Af := asd (Kd.R_below (kr Af) hb); replace Ab := bB Ab hb; replace Ai := bB Ai hb; replace Ag := bB Ag hb; replace Ah := bB Ah hb; replace HB := bS4 HB Aj Ax Ay Az hb; (try clear hb); obtain ⟨Cn, Co, Cp, Cq, Cr, Cs, Ct, Cu⟩ := bz4 Ab) | ((with_reducible refine gate_builtin (b := .append) (xs := #[.tmp 55, .tmp 57]) rfl ?_); at_builtin; refine Kd.R_append k51 (w0 := w) w.heap.size rfl (.tmp 55) (.tmp 57) 29 51 (.agg #[(.int .i64 0), (.int .i64 0), (.int .i64 0), (.int .i64 0)]) 32 rfl Try.underlying29 info51 rfl (by decide) (by omega) u3 AH (⟨wrap64 ((wrap64 (Int.tdiv Aa 27)) - 1), wrap64 ((Int.tmod (wrap64 (Int.tdiv Aa 9)) 3) - 1), wrap64 ((Int.tmod (wrap64 (Int.tdiv Aa 3)) 3) - 1), wrap64 ((Int.tmod Aa 3) - 1)⟩ : S51) [.int .i64 (wrap64 ((wrap64 (Int.tdiv Aa 27)) - 1)), .int .i64 (wrap64 ((Int.tmod (wrap64 (Int.tdiv Aa 9)) 3) - 1)), .int .i64 (wrap64 ((Int.tmod (wrap64 (Int.tdiv Aa 3)) 3) - 1)), .int .i64 (wrap64 ((Int.tmod Aa 3) - 1))] (fun k_ => k_ ≠ Ak) (fun _ => False) rfl rfl ?aP (fun _ hk => hk.elim) ?aF ?aO ?aB ?aS ?aL ?_; (case aP => exact k51_mkM _ _ _ (⟨wrap64 ((wrap64 (Int.tdiv Aa 27)) - 1), wrap64 ((Int.tmod (wrap64 (Int.tdiv Aa 9)) 3) - 1), wrap64 ((Int.tmod (wrap64 (Int.tdiv Aa 3)) 3) - 1), wrap64 ((Int.tmod Aa 3) - 1)⟩ : S51)); (case aB => exact (bbw4 HB Aj Ax Ay Az)); (case aF => exact (fun k_ hk => Kd.freshB (g := Ak) (o := .cells #[.int .i64 (wrap64 ((wrap64 (Int.tdiv Aa 27)) - 1)), .int .i64 (wrap64 ((Int.tmod (wrap64 (Int.tdiv Aa 9)) 3) - 1)), .int .i64 (wrap64 ((Int.tmod (wrap64 (Int.tdiv Aa 3)) 3) - 1)), .int .i64 (wrap64 ((Int.tmod Aa 3) - 1))] 51 (0, 0)) (bkp Ab) k_ hk)); (case aO => exact (kr Af)); (case aS => exact (bsz4 HB Aj Ax Ay Az)); (case aL => have := Bg.out; omega); intro v505 Dj ho hb hg hat; rw [← Bi.out] at ho; have AE := asd (blk_grown (g := Ak) (o := .cells #[.int .i64 (wrap64 ((wrap64 (Int.tdiv Aa 27)) - 1)), .int .i64 (wrap64 ((Int.tmod (wrap64 (Int.tdiv Aa 9)) 3) - 1)), .int .i64 (wrap64 ((Int.tmod (wrap64 (Int.tdiv Aa 3)) 3) - 1)), .int .i64 (wrap64 ((Int.tmod Aa 3) - 1))] 51 (0, 0)) (bkp Ab) hg (Kd.R_away Af.out (fun _ hk => hk))); have AF := asd (blk_grown (g := Ac) (o := .cells #[.int .i64 AI, .int .i64 AJ] 53 (0, 0)) (bkp Ai) hg (Kd.R_ne Af.out Ai.out (by decide))); have AG := asd (blk_grown (g := Ad) (o := .cells #[.int .i64 AQ, .int .i64 AR] 53 (0, 0)) (bkp Ag) hg (Kd.R_ne Af.out Ag.out (by decide))); have AU := asd (blk_grown (g := Ae) (o := .cells #[.int .i64 AS, .int .i64 AT] 53 (0, 0)) (bkp Ah) hg (Kd.R_ne Af.out Ah.out (by decide))); have AV := asd (hb); have AW := asd (ho); clear Ab; clear Ai; clear Ag; clear Ah; clear HB; clear Af; have Ab := AE; have Ai := AF; have Ag := AG; have Ah := AU; have HB := AV; have Bj := AW; clear AE AF AG AU AV AW; clear ho hb hg hat))
    rotate_left;try go_wp2_with (first | ((with_reducible refine gate_callee (f := 94) rfl ?_); refine gl 39 Try.func94 #[.int .i64 a0, .agg #[.int .i64 AI, .int .i64 AJ]] ?_; (with_reducible refine (impl_norm.calls _ _ _ _ _ A8.out).mono ?_); rintro e Dk ⟨rfl, hb⟩; refine ⟨_, rfl, ?_⟩; replace Af := asd (Kd.R_below (kr Af) hb); replace Ab := bB Ab hb; replace Ai := bB Ai hb; replace Ag := bB Ag hb; replace Ah := bB Ah hb; replace HB := bS4 HB Aj Ax Ay Az hb; (try clear hb); have C1 := Ao.out; have C2 := Al.out; have C3 := An.out; have C4 := Am.out; obtain ⟨Cv, Cw, Cx, Cy⟩ := bz2 Ag) | (go_at_call 94; (with_reducible refine (impl_norm.calls _ _ _ _ _ CN.out).mono ?_); rintro e Dl ⟨rfl, hb⟩; replace Af := asd (Kd.R_below (kr Af) hb); replace Ab := bB Ab hb; replace Ai := bB Ai hb; replace Ag := bB Ag hb; replace Ah := bB Ah hb; replace HB := bS4 HB Aj Ax Ay Az hb; (try clear hb); have C5 := Ar.out; have C6 := Ap.out; obtain ⟨Cz, CA, CB, CC⟩ := bz2 Ah) | (go_at_call 94; (with_reducible refine (impl_norm.calls _ _ _ _ _ CU.out).mono ?_); rintro e Dm ⟨rfl, hb⟩; replace Af := asd (Kd.R_below (kr Af) hb); replace Ab := bB Ab hb; replace Ai := bB Ai hb; replace Ag := bB Ag hb; replace Ah := bB Ah hb; replace HB := bS4 HB Aj Ax Ay Az hb; (try clear hb)))
    rotate_left;try go_wp2_with (first | ((with_reducible refine gate_callee (f := 94) rfl ?_); refine gl 39 Try.func94 #[.int .i64 a0, .agg #[.int .i64 AI, .int .i64 AJ]] ?_; (with_reducible refine (impl_norm.calls _ _ _ _ _ A8.out).mono ?_); rintro e Dn ⟨rfl, hb⟩; refine ⟨_, rfl, ?_⟩; replace Af := asd (Kd.R_below (kr Af) hb); replace Ab := bB Ab hb; replace Ai := bB Ai hb; replace Ag := bB Ag hb; replace Ah := bB Ah hb; replace HB := bS4 HB Aj Ax Ay Az hb; (try clear hb); have C7 := Ao.out; have C8 := Al.out; have C9 := An.out; have Da := Am.out; obtain ⟨CD, CE, CF, CG⟩ := bz2 Ag) | (go_at_call 94; (with_reducible refine (impl_norm.calls _ _ _ _ _ CN.out).mono ?_); rintro e Dc ⟨rfl, hb⟩; replace Af := asd (Kd.R_below (kr Af) hb); replace Ab := bB Ab hb; replace Ai := bB Ai hb; replace Ag := bB Ag hb; replace Ah := bB Ah hb; replace HB := bS4 HB Aj Ax Ay Az hb; (try clear hb)))
    rotate_left;try go_wp2_with (first | ((with_reducible refine gate_callee (f := 94) rfl ?_); refine gl 39 Try.func94 #[.int .i64 a0, .agg #[.int .i64 AI, .int .i64 AJ]] ?_; (with_reducible refine (impl_norm.calls _ _ _ _ _ A8.out).mono ?_); rintro e Dd ⟨rfl, hb⟩; refine ⟨_, rfl, ?_⟩; replace Af := asd (Kd.R_below (kr Af) hb); replace Ab := bB Ab hb; replace Ai := bB Ai hb; replace Ag := bB Ag hb; replace Ah := bB Ah hb; replace HB := bS4 HB Aj Ax Ay Az hb; (try clear hb)))
    rotate_left;all_goals
     go_roundg k1
     case measure => have := CH.out; omega
    ·case rel => exact ⟨(Bh), (wrap64 (Aa + 1)), (by first | rfl | (simp; done) | (simp [*]; done)), H', ⟨by have := CH.out; omega⟩, ⟨by (with_reducible repeat (first | apply Kd.R_alloc | apply Kd.R_drewN | apply Kd.R_drew)); exact Kd.R_mono Bj.out (fun _ hk => trivial)⟩, ⟨bbw4 HB Aj Ax Ay Az⟩⟩
    rotate_left 3;all_goals
     case rel => exact ⟨(AH), (wrap64 (Aa + 1)), (by first | rfl | (simp; done) | (simp [*]; done)), H', ⟨by have := CH.out; omega⟩, ⟨by (with_reducible repeat (first | apply Kd.R_alloc | apply Kd.R_drewN | apply Kd.R_drew)); exact Kd.R_mono Af.out (fun _ hk => trivial)⟩, ⟨bbw4 HB Aj Ax Ay Az⟩⟩
   ·rw [if_neg c4] at H;have CI := qq c4;clear c4;obtain rfl := Option.some.inj H;go_wp2
    go_ret
    exact ⟨_, by first | rfl | (simp [errW_none, errW_some] <;> rfl) | (simp [*, errW_none, errW_some] <;> rfl), by (with_reducible repeat (first | apply Kd.R_alloc | apply Kd.R_drewN | apply Kd.R_drew)); exact Af.out, bbw0 HB⟩
def impl_mod.f (a0 : Int) (a1 : Int) : Option (Int) := if a1 = 0 then (none) else (some (Int.tmod (wrap64 ((Int.tmod a0 a1) + a1)) a1))
theorem impl_mod.calls (a0 : Int) (a1 : Int) (r : Int) (w : World) (h : impl_mod.f a0 a1 = some r) :
  Calls Try.prog 82 #[.int .i64 a0, .int .i64 a1] w fun e w' => e = .returned (.int .i64 r) ∧ Drawn0 w w' := by
 have H : (if a1 = 0 then (none) else (some (Int.tmod (wrap64 ((Int.tmod a0 a1) + a1)) a1))) = some r := h
 clear h
 by_cases c3 : a1 = 0
 ·rw [if_pos c3] at H;exact absurd H (by simp)
 ·rw [if_neg c3] at H;have Aa : (a1 == 0) = false := beq_eq_false_iff_ne.mpr c3;have Ab : (a1 != 0) = true := bne_iff_ne.mpr c3;obtain rfl := Option.some.inj H;go_enter Try.func82, Try.ntmps82
  go_wp2
  go_ret
  exact ⟨by first | rfl | (simp; done) | (simp [*]; done), by repeat (first | exact Drawn0.refl _ | apply Drawn0.step)⟩
end Go.Proofs.Ytedmadofpdkekaa.PA
