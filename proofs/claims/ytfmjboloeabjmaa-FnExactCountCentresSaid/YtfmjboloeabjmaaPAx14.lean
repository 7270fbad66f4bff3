/- Walks written by program: each Go function that the law reaches comes to the plain function beside it. -/
import Derived.Test.YtfmjboloeabjmaaPAx0
import Derived.Test.YtfmjboloeabjmaaPAx2
import Derived.Test.YtfmjboloeabjmaaPAx3
import Derived.Test.YtfmjboloeabjmaaPAx12
import Derived.Test.YtfmjboloeabjmaaPAx13
namespace Go.Proofs.Ytfmjboloeabjmaa.PA
open Go.RowKit Go.Proofs.YtfmjboloeabjmaaW.PrintWords Go.Proofs.YtfmjboloeabjmaaW.PrintLast Go.Proofs.YtfmjboloeabjmaaW.PrintMore
attribute [local go_sem] max2_int min2_int max_two min_two max_three min_three max_four min_four   -- for this text's walks alone
set_option linter.unusedVariables false
set_option linter.unusedSimpArgs false

attribute [local go_sem high] eqA40
/-! ### impl_compareMotions: function 58 -/
def impl_compareMotions.f (k : Nat) (a0_0 : Int) (a0_1 : Int) (a0_2 : Int) (a0_3 : Int) (a0_4 : Int) (a0_5 : Int) (a1_0 : Int) (a1_1 : Int) (a1_2 : Int) (a1_3 : Int) (a1_4 : Int) (a1_5 : Int) : Option (Int) := (impl_compareMats.f k a0_0 a0_1 a0_2 a0_3 a1_0 a1_1 a1_2 a1_3).bind fun t457 => (if t457 = 0 then ((impl_compareVecs.f k a0_4 a0_5 a1_4 a1_5).bind fun t458 => (some t458)) else (some t457))
set_option maxHeartbeats 8000000 in
set_option maxRecDepth 100000 in
theorem impl_compareMotions.calls (k : Nat) (a0_0 : Int) (a0_1 : Int) (a0_2 : Int) (a0_3 : Int) (a0_4 : Int) (a0_5 : Int) (a1_0 : Int) (a1_1 : Int) (a1_2 : Int) (a1_3 : Int) (a1_4 : Int) (a1_5 : Int) (r : Int) (w : World) (h : impl_compareMotions.f k a0_0 a0_1 a0_2 a0_3 a0_4 a0_5 a1_0 a1_1 a1_2 a1_3 a1_4 a1_5 = some r) :
  Calls Try.prog 58 #[.agg #[.int .i64 a0_0, .int .i64 a0_1, .int .i64 a0_2, .int .i64 a0_3, .int .i64 a0_4, .int .i64 a0_5], .agg #[.int .i64 a1_0, .int .i64 a1_1, .int .i64 a1_2, .int .i64 a1_3, .int .i64 a1_4, .int .i64 a1_5]] w fun e w' => e = .returned (.int .i64 r) ∧ Below w.heap.size w w' := by
 have hu44 := Try.underlying44
 have hu40 := Try.underlying40
 have hu42 := Try.underlying42
 have HB := asd (Below.refl w.heap.size w)
 have H : ((impl_compareMats.f k a0_0 a0_1 a0_2 a0_3 a1_0 a1_1 a1_2 a1_3).bind fun t457 => (if t457 = 0 then ((impl_compareVecs.f k a0_4 a0_5 a1_4 a1_5).bind fun t458 => (some t458)) else (some t457))) = some r := h
 clear h
 obtain ⟨t457, A3, H⟩ := ob H
 try dsimp only at H
 by_cases c4 : t457 = 0
 ·rw [if_pos c4] at H
  have c4b0 : (t457 == 0) = true := beq_iff_eq.mpr c4
  have c4b1 : (t457 != 0) = false := bne_eq_false_iff_eq.mpr c4
  clear c4
  obtain ⟨t458, A5, H⟩ := ob H
  try dsimp only at H
  obtain rfl := Option.some.inj H
  go_enter Try.func58, Try.ntmps58
  go_wp2_with (first | ((with_reducible refine gd 2 rfl ?_); refine bx #[.int .i64 a0_0, .int .i64 a0_1, .int .i64 a0_2, .int .i64 a0_3, .int .i64 a0_4, .int .i64 a0_5] 44 ?_; intro gb455 hg w6 BK455 hb; have GE455 := ngw0 hg HB; replace HB := bS0 HB hb; clear hb hg) | ((with_reducible refine gd 3 rfl ?_); refine bx #[.int .i64 a1_0, .int .i64 a1_1, .int .i64 a1_2, .int .i64 a1_3, .int .i64 a1_4, .int .i64 a1_5] 44 ?_; intro gb456 hg w7 BK456 hb; have GE456 := ngw1 hg HB GE455; replace HB := bS1 HB GE455 hb; have NB455_456 := nlt hg BK455; have NB456_455 := nsy (nlt hg BK455); replace BK455 := bB BK455 hb; clear hb hg; have hnb8 := NB455_456.out; have hnc8 := NB456_455.out; obtain ⟨hcz9_0, hcz9_1, hcz9_2, hcz9_3, hcz9_4, hcz9_5, hfz9_0, hfz9_1, hfz9_2, hfz9_3, hfz9_4, hfz9_5⟩ := bz6 BK455; obtain ⟨hcz10_0, hcz10_1, hcz10_2, hcz10_3, hcz10_4, hcz10_5, hfz10_0, hfz10_1, hfz10_2, hfz10_3, hfz10_4, hfz10_5⟩ := bz6 BK456) | ((with_reducible refine gate_callee (f := 79) rfl ?_); refine gl 10 Try.func79 #[.agg #[.int .i64 a0_0, .int .i64 a0_1, .int .i64 a0_2, .int .i64 a0_3], .agg #[.int .i64 a1_0, .int .i64 a1_1, .int .i64 a1_2, .int .i64 a1_3]] ?_; (with_reducible refine (impl_compareMats.calls _ _ _ _ _ _ _ _ _ _ _ A3.out).mono ?_); rintro e w11 ⟨rfl, hb⟩; refine ⟨_, rfl, ?_⟩; replace BK455 := bB BK455 hb; replace BK456 := bB BK456 hb; replace HB := bS2 HB GE455 GE456 hb; (try clear hb); obtain ⟨hcz12_0, hcz12_1, hcz12_2, hcz12_3, hcz12_4, hcz12_5, hfz12_0, hfz12_1, hfz12_2, hfz12_3, hfz12_4, hfz12_5⟩ := bz6 BK455; obtain ⟨hcz13_0, hcz13_1, hcz13_2, hcz13_3, hcz13_4, hcz13_5, hfz13_0, hfz13_1, hfz13_2, hfz13_3, hfz13_4, hfz13_5⟩ := bz6 BK456) | ((with_reducible refine gate_callee (f := 80) rfl ?_); refine gl 18 Try.func80 #[.agg #[.int .i64 a0_4, .int .i64 a0_5], .agg #[.int .i64 a1_4, .int .i64 a1_5]] ?_; (with_reducible refine (impl_compareVecs.calls _ _ _ _ _ _ _ A5.out).mono ?_); rintro e w14 ⟨rfl, hb⟩; refine ⟨_, rfl, ?_⟩; replace BK455 := bB BK455 hb; replace BK456 := bB BK456 hb; replace HB := bS2 HB GE455 GE456 hb; (try clear hb)))
  go_ret
  exact er (bbw2 HB GE455 GE456)
 ·rw [if_neg c4] at H
  have c4b0 : (t457 == 0) = false := beq_eq_false_iff_ne.mpr c4
  have c4b1 : (t457 != 0) = true := bne_iff_ne.mpr c4
  obtain rfl := Option.some.inj H
  go_enter Try.func58, Try.ntmps58
  go_wp2_with (first | ((with_reducible refine gd 2 rfl ?_); refine bx #[.int .i64 a0_0, .int .i64 a0_1, .int .i64 a0_2, .int .i64 a0_3, .int .i64 a0_4, .int .i64 a0_5] 44 ?_; intro gb455 hg w15 BK455 hb; have GE455 := ngw0 hg HB; replace HB := bS0 HB hb; clear hb hg) | ((with_reducible refine gd 3 rfl ?_); refine bx #[.int .i64 a1_0, .int .i64 a1_1, .int .i64 a1_2, .int .i64 a1_3, .int .i64 a1_4, .int .i64 a1_5] 44 ?_; intro gb456 hg w16 BK456 hb; have GE456 := ngw1 hg HB GE455; replace HB := bS1 HB GE455 hb; have NB455_456 := nlt hg BK455; have NB456_455 := nsy (nlt hg BK455); replace BK455 := bB BK455 hb; clear hb hg; have hnb17 := NB455_456.out; have hnc17 := NB456_455.out; obtain ⟨hcz18_0, hcz18_1, hcz18_2, hcz18_3, hcz18_4, hcz18_5, hfz18_0, hfz18_1, hfz18_2, hfz18_3, hfz18_4, hfz18_5⟩ := bz6 BK455; obtain ⟨hcz19_0, hcz19_1, hcz19_2, hcz19_3, hcz19_4, hcz19_5, hfz19_0, hfz19_1, hfz19_2, hfz19_3, hfz19_4, hfz19_5⟩ := bz6 BK456) | ((with_reducible refine gate_callee (f := 79) rfl ?_); refine gl 10 Try.func79 #[.agg #[.int .i64 a0_0, .int .i64 a0_1, .int .i64 a0_2, .int .i64 a0_3], .agg #[.int .i64 a1_0, .int .i64 a1_1, .int .i64 a1_2, .int .i64 a1_3]] ?_; (with_reducible refine (impl_compareMats.calls _ _ _ _ _ _ _ _ _ _ _ A3.out).mono ?_); rintro e w20 ⟨rfl, hb⟩; refine ⟨_, rfl, ?_⟩; replace BK455 := bB BK455 hb; replace BK456 := bB BK456 hb; replace HB := bS2 HB GE455 GE456 hb; (try clear hb)))
  go_ret
  exact er (bbw2 HB GE455 GE456)
/-! ### impl_Lattice_reduceMotion: function 59 -/
def impl_Lattice_reduceMotion.f (a0_0 : Int) (a0_1 : Int) (a0_2 : Int) (a1_0 : Int) (a1_1 : Int) (a1_2 : Int) (a1_3 : Int) (a1_4 : Int) (a1_5 : Int) : Option (Int × Int × Int × Int × Int × Int) := (impl_Lattice_reduce.f a0_0 a0_1 a0_2 a1_4 a1_5).bind fun bt462 => (some (a1_0, a1_1, a1_2, a1_3, bt462.1, bt462.2))
def impl_Lattice_reduceMotion.T1 : Bool × List (List Nat × List Nat) := (true, [([], []), ([0], [0]), ([], []), ([], []), ([3], [3]), ([2, 4], [2, 4]), ([1, 5], [1, 5]), ([6, 5, 0, 1, 2, 3, 4, 5, 6], [6])])
def impl_Lattice_reduceMotion.B1 : List Nat := [0, 1, 0, 0, 8, 28, 63, 127]
theorem impl_Lattice_reduceMotion.tab1 : rtab .any (opsOf Try.f59 1) = impl_Lattice_reduceMotion.T1 := by kernel_rfl
theorem impl_Lattice_reduceMotion.bits1 : waitsOk impl_Lattice_reduceMotion.T1.2 impl_Lattice_reduceMotion.B1 = true := by kernel_rfl
set_option maxHeartbeats 8000000 in
set_option maxRecDepth 100000 in
theorem impl_Lattice_reduceMotion.calls (a0_0 : Int) (a0_1 : Int) (a0_2 : Int) (a1_0 : Int) (a1_1 : Int) (a1_2 : Int) (a1_3 : Int) (a1_4 : Int) (a1_5 : Int) (r1 : Int) (r2 : Int) (r3 : Int) (r4 : Int) (r5 : Int) (r6 : Int) (w : World) (h : impl_Lattice_reduceMotion.f a0_0 a0_1 a0_2 a1_0 a1_1 a1_2 a1_3 a1_4 a1_5 = some (r1, r2, r3, r4, r5, r6)) :
  Calls Try.prog 59 #[.agg #[.int .i64 a0_0, .int .i64 a0_1, .int .i64 a0_2], .agg #[.int .i64 a1_0, .int .i64 a1_1, .int .i64 a1_2, .int .i64 a1_3, .int .i64 a1_4, .int .i64 a1_5]] w fun e w' => e = .returned (.agg #[.int .i64 r1, .int .i64 r2, .int .i64 r3, .int .i64 r4, .int .i64 r5, .int .i64 r6]) ∧ Below w.heap.size w w' := by
 have hu28 := Try.underlying28
 have hu44 := Try.underlying44
 have hu40 := Try.underlying40
 have hu42 := Try.underlying42
 have HB := asd (Below.refl w.heap.size w)
 have H : ((impl_Lattice_reduce.f a0_0 a0_1 a0_2 a1_4 a1_5).bind fun bt462 => (some (a1_0, a1_1, a1_2, a1_3, bt462.1, bt462.2))) = some (r1, r2, r3, r4, r5, r6) := h
 clear h
 obtain ⟨⟨t462, t463⟩, A3, H⟩ := ob H
 try dsimp only at H
 simp only [Option.some.injEq, Prod.mk.injEq] at H
 obtain ⟨rfl, rfl, rfl, rfl, rfl, rfl⟩ := H
 go_enter Try.func59, Try.ntmps59
 try go_wp2_with (first | ((with_reducible refine gd 2 rfl ?_); refine bx #[.int .i64 a0_0, .int .i64 a0_1, .int .i64 a0_2] 28 ?_; intro gb459 hg w4 BK459 hb; have GE459 := ngw0 hg HB; replace HB := bS0 HB hb; clear hb hg) | ((with_reducible refine gd 3 rfl ?_); refine bx #[.int .i64 a1_0, .int .i64 a1_1, .int .i64 a1_2, .int .i64 a1_3, .int .i64 a1_4, .int .i64 a1_5] 44 ?_; intro gb460 hg w5 BK460 hb; have GE460 := ngw1 hg HB GE459; replace HB := bS1 HB GE459 hb; have NB459_460 := nlt hg BK459; have NB460_459 := nsy (nlt hg BK459); replace BK459 := bB BK459 hb; clear hb hg) | ((with_reducible refine gd 4 rfl ?_); refine bx #[.int .i64 0, .int .i64 0, .int .i64 0, .int .i64 0, .int .i64 0, .int .i64 0] 44 ?_; intro gb461 hg w6 BK461 hb; have GE461 := ngw2 hg HB GE459 GE460; replace HB := bS2 HB GE459 GE460 hb; have NB459_461 := nlt hg BK459; have NB461_459 := nsy (nlt hg BK459); replace BK459 := bB BK459 hb; have NB460_461 := nlt hg BK460; have NB461_460 := nsy (nlt hg BK460); replace BK460 := bB BK460 hb; clear hb hg))
 replace BK459 := asd (blk_drew BK459.out)
 replace BK460 := asd (blk_drew BK460.out)
 replace BK461 := asd (blk_drew BK461.out)
 replace HB := asd (below_drew1 HB.out)
 refine sh 8 (cb6 BK460 (eb3 BK459)) (fun hHeld => ?_); refine with_tabW impl_Lattice_reduceMotion.tab1 impl_Lattice_reduceMotion.bits1 (fun HT_ HW_ => ?_)
 generalize w6.drew = w7 at BK459 BK460 BK461 HB hHeld ⊢
 refine pu 0 (some 5) (bT 8 1) HT_ ?_
 refine pu 3 (some 8) (bs 8 9) HT_ ?_
 refine ta 1 (some 6) (bs 8 11) HT_ HW_ hHeld ?_
 refine ta 2 (some 7) (bT 8 4) HT_ HW_ hHeld ?_
 refine ta 4 (some 9) (bT 8 5) HT_ HW_ hHeld ?_
 refine ro 5 (some 10) (bT 8 6) HT_ (fun K hK => ?_)
 refine gs Try.func21 #[.agg #[.int .i64 a0_0, .int .i64 a0_1, .int .i64 a0_2], .agg #[.int .i64 a1_4, .int .i64 a1_5]] ?_
 with_reducible refine (impl_Lattice_reduce.calls _ _ _ _ _ _ _ _ A3.out).mono ?_
 rintro e w8 ⟨rfl, hb⟩
 refine ⟨_, rfl, ?_⟩
 replace BK459 := bB BK459 hb
 replace BK460 := bB BK460 hb
 replace BK461 := bB BK461 hb
 replace HB := bS3 HB GE459 GE460 GE461 hb
 (try clear hb)
 (try clear hb2)
 (try clear hk)
 (try clear hi)
 refine hK.out _ _ (cb6 BK460 (eb3 BK459)).out (fun hHeld => ?_)
 clear hK K
 refine norm_ (a' := ?_) ?_ ?_
 rotate_left
 ·show Act.put _ (some 10) _ = _
  simp only [Act.put, sA, sB, sC, i64_w, i32_w]
  rfl
 refine pu 6 (some 11) (bT 8 7) HT_ ?_
 refine ro 7 (none) (bT 8 8) HT_ (fun K hK => ?_)
 have hs9 : w8.cell? ⟨gb461, 0, none⟩ = some (.int .i64 0) := bcl BK461 0
 have hfs9 := blk_frozen BK461.out 0
 have hns9_0 := NB459_461.out
 have hns9_1 := NB460_461.out
 have hms9_0 := NB461_459.out
 have hms9_1 := NB461_460.out
 have hs10 : w8.cell? ⟨gb461, 1, none⟩ = some (.int .i64 0) := bcl BK461 1
 have hfs10 := blk_frozen BK461.out 1
 have hns10_0 := NB459_461.out
 have hns10_1 := NB460_461.out
 have hms10_0 := NB461_459.out
 have hms10_1 := NB461_460.out
 have hs11 : w8.cell? ⟨gb461, 2, none⟩ = some (.int .i64 0) := bcl BK461 2
 have hfs11 := blk_frozen BK461.out 2
 have hns11_0 := NB459_461.out
 have hns11_1 := NB460_461.out
 have hms11_0 := NB461_459.out
 have hms11_1 := NB461_460.out
 have hs12 : w8.cell? ⟨gb461, 3, none⟩ = some (.int .i64 0) := bcl BK461 3
 have hfs12 := blk_frozen BK461.out 3
 have hns12_0 := NB459_461.out
 have hns12_1 := NB460_461.out
 have hms12_0 := NB461_459.out
 have hms12_1 := NB461_460.out
 have hs13 : w8.cell? ⟨gb461, 4, none⟩ = some (.int .i64 0) := bcl BK461 4
 have hfs13 := blk_frozen BK461.out 4
 have hns13_0 := NB459_461.out
 have hns13_1 := NB460_461.out
 have hms13_0 := NB461_459.out
 have hms13_1 := NB461_460.out
 have hs14 : w8.cell? ⟨gb461, 5, none⟩ = some (.int .i64 0) := bcl BK461 5
 have hfs14 := blk_frozen BK461.out 5
 have hns14_0 := NB459_461.out
 have hns14_1 := NB460_461.out
 have hms14_0 := NB461_459.out
 have hms14_1 := NB461_460.out
 refine skip_ (w1 := ?_) (by rfl) rfl ?_ ?_
 rotate_left
 ·go_simp
  rfl
 refine hK.out _ _ ⟨(cf6 NB460_461 (hHeld.1)), (cf6 NB460_461 (hHeld.2.1)), (cf6 NB460_461 (hHeld.2.2.1)), (cf6 NB460_461 (hHeld.2.2.2.1)), (cf6 NB460_461 (hHeld.2.2.2.2.1)), (cf6 NB460_461 (hHeld.2.2.2.2.2.1)), (cf6 NB459_461 (hHeld.2.2.2.2.2.2.1)), (cf6 NB459_461 (hHeld.2.2.2.2.2.2.2.1)), (cf6 NB459_461 (hHeld.2.2.2.2.2.2.2.2))⟩ (fun hHeld => ?_)
 clear hK K
 refine done_ (done_of HT_.out (by kernel_rfl)) ?_
 try go_wp2
 refine bodyPost_ret (results_cell_row rfl _ _ gb461 44 #[.int .i64 a1_0, .int .i64 a1_1, .int .i64 a1_2, .int .i64 a1_3, .int .i64 t462, .int .i64 t463] (0, 0) _ rfl (bq0 BK461) Try.underlying44 rfl (by kernel_rfl)) rfl ?_
 exact er (bbw3 HB GE459 GE460 GE461)
/-! ### impl_Vec_add: function 18 -/
def impl_Vec_add.f (a0_0 : Int) (a0_1 : Int) (a1_0 : Int) (a1_1 : Int) : Option (Int × Int) := some (wrap64 (a0_0 + a1_0), wrap64 (a0_1 + a1_1))
set_option maxHeartbeats 8000000 in
set_option maxRecDepth 100000 in
theorem impl_Vec_add.calls (a0_0 : Int) (a0_1 : Int) (a1_0 : Int) (a1_1 : Int) (r1 : Int) (r2 : Int) (w : World) (h : impl_Vec_add.f a0_0 a0_1 a1_0 a1_1 = some (r1, r2)) :
  Calls Try.prog 18 #[.agg #[.int .i64 a0_0, .int .i64 a0_1], .agg #[.int .i64 a1_0, .int .i64 a1_1]] w fun e w' => e = .returned (.agg #[.int .i64 r1, .int .i64 r2]) ∧ Below w.heap.size w w' := by
 have hu42 := Try.underlying42
 have HB := asd (Below.refl w.heap.size w)
 have H : (some (wrap64 (a0_0 + a1_0), wrap64 (a0_1 + a1_1))) = some (r1, r2) := h
 clear h
 simp only [Option.some.injEq, Prod.mk.injEq] at H
 obtain ⟨rfl, rfl⟩ := H
 go_enter Try.func18, Try.ntmps18
 go_wp2_with (first | ((with_reducible refine gd 2 rfl ?_); refine bx #[.int .i64 a0_0, .int .i64 a0_1] 42 ?_; intro gb464 hg w3 BK464 hb; have GE464 := ngw0 hg HB; replace HB := bS0 HB hb; clear hb hg) | ((with_reducible refine gd 3 rfl ?_); refine bx #[.int .i64 a1_0, .int .i64 a1_1] 42 ?_; intro gb465 hg w4 BK465 hb; have GE465 := ngw1 hg HB GE464; replace HB := bS1 HB GE464 hb; have NB464_465 := nlt hg BK464; have NB465_464 := nsy (nlt hg BK464); replace BK464 := bB BK464 hb; clear hb hg) | ((with_reducible refine gd 4 rfl ?_); refine bx #[.int .i64 0, .int .i64 0] 42 ?_; intro gb466 hg w5 BK466 hb; have GE466 := ngw2 hg HB GE464 GE465; replace HB := bS2 HB GE464 GE465 hb; have NB464_466 := nlt hg BK464; have NB466_464 := nsy (nlt hg BK464); replace BK464 := bB BK464 hb; have NB465_466 := nlt hg BK465; have NB466_465 := nsy (nlt hg BK465); replace BK465 := bB BK465 hb; clear hb hg; have hnb6 := NB464_465.out; have hnc6 := NB465_464.out; have hnb7 := NB464_466.out; have hnc7 := NB466_464.out; obtain ⟨hcz8_0, hcz8_1, hfz8_0, hfz8_1⟩ := bz2 BK464; have hnb9 := NB465_466.out; have hnc9 := NB466_465.out; obtain ⟨hcz10_0, hcz10_1, hfz10_0, hfz10_1⟩ := bz2 BK465; obtain ⟨hcz11_0, hcz11_1, hfz11_0, hfz11_1⟩ := bz2 BK466))
 refine bodyPost_ret (results_cell_row rfl _ _ gb466 42 #[.int .i64 (wrap64 (a0_0 + a1_0)), .int .i64 (wrap64 (a0_1 + a1_1))] (0, 0) _ rfl (bq0 BK466) Try.underlying42 rfl (by kernel_rfl)) rfl ?_
 exact er (bbw3 HB GE464 GE465 GE466)
/-! ### impl_Mat_times: function 81 -/
def impl_Mat_times.f (a0_0 : Int) (a0_1 : Int) (a0_2 : Int) (a0_3 : Int) (a1_0 : Int) (a1_1 : Int) (a1_2 : Int) (a1_3 : Int) : Option (Int × Int × Int × Int) := some (wrap64 ((wrap64 (a0_0 * a1_0)) + (wrap64 (a0_1 * a1_2))), wrap64 ((wrap64 (a0_0 * a1_1)) + (wrap64 (a0_1 * a1_3))), wrap64 ((wrap64 (a0_2 * a1_0)) + (wrap64 (a0_3 * a1_2))), wrap64 ((wrap64 (a0_2 * a1_1)) + (wrap64 (a0_3 * a1_3))))
set_option maxHeartbeats 8000000 in
set_option maxRecDepth 100000 in
theorem impl_Mat_times.calls (a0_0 : Int) (a0_1 : Int) (a0_2 : Int) (a0_3 : Int) (a1_0 : Int) (a1_1 : Int) (a1_2 : Int) (a1_3 : Int) (r1 : Int) (r2 : Int) (r3 : Int) (r4 : Int) (w : World) (h : impl_Mat_times.f a0_0 a0_1 a0_2 a0_3 a1_0 a1_1 a1_2 a1_3 = some (r1, r2, r3, r4)) :
  Calls Try.prog 81 #[.agg #[.int .i64 a0_0, .int .i64 a0_1, .int .i64 a0_2, .int .i64 a0_3], .agg #[.int .i64 a1_0, .int .i64 a1_1, .int .i64 a1_2, .int .i64 a1_3]] w fun e w' => e = .returned (.agg #[.int .i64 r1, .int .i64 r2, .int .i64 r3, .int .i64 r4]) ∧ Below w.heap.size w w' := by
 have hu40 := Try.underlying40
 have HB := asd (Below.refl w.heap.size w)
 have H : (some (wrap64 ((wrap64 (a0_0 * a1_0)) + (wrap64 (a0_1 * a1_2))), wrap64 ((wrap64 (a0_0 * a1_1)) + (wrap64 (a0_1 * a1_3))), wrap64 ((wrap64 (a0_2 * a1_0)) + (wrap64 (a0_3 * a1_2))), wrap64 ((wrap64 (a0_2 * a1_1)) + (wrap64 (a0_3 * a1_3))))) = some (r1, r2, r3, r4) := h
 clear h
 simp only [Option.some.injEq, Prod.mk.injEq] at H
 obtain ⟨rfl, rfl, rfl, rfl⟩ := H
 go_enter Try.func81, Try.ntmps81
 go_wp2_with (first | ((with_reducible refine gd 2 rfl ?_); refine bx #[.int .i64 a0_0, .int .i64 a0_1, .int .i64 a0_2, .int .i64 a0_3] 40 ?_; intro gb467 hg w3 BK467 hb; have GE467 := ngw0 hg HB; replace HB := bS0 HB hb; clear hb hg) | ((with_reducible refine gd 3 rfl ?_); refine bx #[.int .i64 a1_0, .int .i64 a1_1, .int .i64 a1_2, .int .i64 a1_3] 40 ?_; intro gb468 hg w4 BK468 hb; have GE468 := ngw1 hg HB GE467; replace HB := bS1 HB GE467 hb; have NB467_468 := nlt hg BK467; have NB468_467 := nsy (nlt hg BK467); replace BK467 := bB BK467 hb; clear hb hg) | ((with_reducible refine gd 4 rfl ?_); refine bx #[.int .i64 0, .int .i64 0, .int .i64 0, .int .i64 0] 40 ?_; intro gb469 hg w5 BK469 hb; have GE469 := ngw2 hg HB GE467 GE468; replace HB := bS2 HB GE467 GE468 hb; have NB467_469 := nlt hg BK467; have NB469_467 := nsy (nlt hg BK467); replace BK467 := bB BK467 hb; have NB468_469 := nlt hg BK468; have NB469_468 := nsy (nlt hg BK468); replace BK468 := bB BK468 hb; clear hb hg; have hnb6 := NB467_468.out; have hnc6 := NB468_467.out; have hnb7 := NB467_469.out; have hnc7 := NB469_467.out; obtain ⟨hcz8_0, hcz8_1, hcz8_2, hcz8_3, hfz8_0, hfz8_1, hfz8_2, hfz8_3⟩ := bz4 BK467; have hnb9 := NB468_469.out; have hnc9 := NB469_468.out; obtain ⟨hcz10_0, hcz10_1, hcz10_2, hcz10_3, hfz10_0, hfz10_1, hfz10_2, hfz10_3⟩ := bz4 BK468; obtain ⟨hcz11_0, hcz11_1, hcz11_2, hcz11_3, hfz11_0, hfz11_1, hfz11_2, hfz11_3⟩ := bz4 BK469))
 refine bodyPost_ret (results_cell_row rfl _ _ gb469 40 #[.int .i64 (wrap64 ((wrap64 (a0_0 * a1_0)) + (wrap64 (a0_1 * a1_2)))), .int .i64 (wrap64 ((wrap64 (a0_0 * a1_1)) + (wrap64 (a0_1 * a1_3)))), .int .i64 (wrap64 ((wrap64 (a0_2 * a1_0)) + (wrap64 (a0_3 * a1_2)))), .int .i64 (wrap64 ((wrap64 (a0_2 * a1_1)) + (wrap64 (a0_3 * a1_3))))] (0, 0) _ rfl (bq0 BK469) Try.underlying40 rfl (by kernel_rfl)) rfl ?_
 exact er (bbw3 HB GE467 GE468 GE469)
/-! ### impl_Motion_times: function 60 -/
def impl_Motion_times.f (a0_0 : Int) (a0_1 : Int) (a0_2 : Int) (a0_3 : Int) (a0_4 : Int) (a0_5 : Int) (a1_0 : Int) (a1_1 : Int) (a1_2 : Int) (a1_3 : Int) (a1_4 : Int) (a1_5 : Int) : Option (Int × Int × Int × Int × Int × Int) := (impl_Mat_times.f a0_0 a0_1 a0_2 a0_3 a1_0 a1_1 a1_2 a1_3).bind fun bt473 => ((impl_Mat_apply.f a0_0 a0_1 a0_2 a0_3 a1_4 a1_5).bind fun bt477 => ((impl_Vec_add.f bt477.1 bt477.2 a0_4 a0_5).bind fun bt479 => (some (bt473.1, bt473.2.1, bt473.2.2.1, bt473.2.2.2, bt479.1, bt479.2))))
def impl_Motion_times.T1 : Bool × List (List Nat × List Nat) := (true, [([], []), ([0], [0]), ([], []), ([2], [2]), ([1, 3], [1, 3]), ([], []), ([5], [5]), ([], []), ([7], [7]), ([6, 8, 4], [6, 8]), ([], []), ([10], [10]), ([9, 11, 9], [9, 11]), ([4, 12], [4, 12]), ([13, 12, 0, 1, 2, 3, 4, 5, 6, 7, 8, 9, 10, 11, 12, 13], [13])])
def impl_Motion_times.B1 : List Nat := [0, 1, 0, 4, 15, 0, 32, 0, 128, 511, 0, 1024, 4095, 8191, 16383]
theorem impl_Motion_times.tab1 : rtab .any (opsOf Try.f60 1) = impl_Motion_times.T1 := by kernel_rfl
theorem impl_Motion_times.bits1 : waitsOk impl_Motion_times.T1.2 impl_Motion_times.B1 = true := by kernel_rfl
set_option maxHeartbeats 8000000 in
set_option maxRecDepth 100000 in
theorem impl_Motion_times.calls (a0_0 : Int) (a0_1 : Int) (a0_2 : Int) (a0_3 : Int) (a0_4 : Int) (a0_5 : Int) (a1_0 : Int) (a1_1 : Int) (a1_2 : Int) (a1_3 : Int) (a1_4 : Int) (a1_5 : Int) (r1 : Int) (r2 : Int) (r3 : Int) (r4 : Int) (r5 : Int) (r6 : Int) (w : World) (h : impl_Motion_times.f a0_0 a0_1 a0_2 a0_3 a0_4 a0_5 a1_0 a1_1 a1_2 a1_3 a1_4 a1_5 = some (r1, r2, r3, r4, r5, r6)) :
  Calls Try.prog 60 #[.agg #[.int .i64 a0_0, .int .i64 a0_1, .int .i64 a0_2, .int .i64 a0_3, .int .i64 a0_4, .int .i64 a0_5], .agg #[.int .i64 a1_0, .int .i64 a1_1, .int .i64 a1_2, .int .i64 a1_3, .int .i64 a1_4, .int .i64 a1_5]] w fun e w' => e = .returned (.agg #[.int .i64 r1, .int .i64 r2, .int .i64 r3, .int .i64 r4, .int .i64 r5, .int .i64 r6]) ∧ Below w.heap.size w w' := by
 have hu44 := Try.underlying44
 have hu40 := Try.underlying40
 have hu42 := Try.underlying42
 have HB := asd (Below.refl w.heap.size w)
 have H : ((impl_Mat_times.f a0_0 a0_1 a0_2 a0_3 a1_0 a1_1 a1_2 a1_3).bind fun bt473 => ((impl_Mat_apply.f a0_0 a0_1 a0_2 a0_3 a1_4 a1_5).bind fun bt477 => ((impl_Vec_add.f bt477.1 bt477.2 a0_4 a0_5).bind fun bt479 => (some (bt473.1, bt473.2.1, bt473.2.2.1, bt473.2.2.2, bt479.1, bt479.2))))) = some (r1, r2, r3, r4, r5, r6) := h
 clear h
 obtain ⟨⟨t473, t474, t475, t476⟩, A3, H⟩ := ob H
 try dsimp only at H
 obtain ⟨⟨t477, t478⟩, A4, H⟩ := ob H
 try dsimp only at H
 obtain ⟨⟨t479, t480⟩, A5, H⟩ := ob H
 try dsimp only at H
 simp only [Option.some.injEq, Prod.mk.injEq] at H
 obtain ⟨rfl, rfl, rfl, rfl, rfl, rfl⟩ := H
 go_enter Try.func60, Try.ntmps60
 try go_wp2_with (first | ((with_reducible refine gd 2 rfl ?_); refine bx #[.int .i64 a0_0, .int .i64 a0_1, .int .i64 a0_2, .int .i64 a0_3, .int .i64 a0_4, .int .i64 a0_5] 44 ?_; intro gb470 hg w6 BK470 hb; have GE470 := ngw0 hg HB; replace HB := bS0 HB hb; clear hb hg) | ((with_reducible refine gd 3 rfl ?_); refine bx #[.int .i64 a1_0, .int .i64 a1_1, .int .i64 a1_2, .int .i64 a1_3, .int .i64 a1_4, .int .i64 a1_5] 44 ?_; intro gb471 hg w7 BK471 hb; have GE471 := ngw1 hg HB GE470; replace HB := bS1 HB GE470 hb; have NB470_471 := nlt hg BK470; have NB471_470 := nsy (nlt hg BK470); replace BK470 := bB BK470 hb; clear hb hg) | ((with_reducible refine gd 4 rfl ?_); refine bx #[.int .i64 0, .int .i64 0, .int .i64 0, .int .i64 0, .int .i64 0, .int .i64 0] 44 ?_; intro gb472 hg w8 BK472 hb; have GE472 := ngw2 hg HB GE470 GE471; replace HB := bS2 HB GE470 GE471 hb; have NB470_472 := nlt hg BK470; have NB472_470 := nsy (nlt hg BK470); replace BK470 := bB BK470 hb; have NB471_472 := nlt hg BK471; have NB472_471 := nsy (nlt hg BK471); replace BK471 := bB BK471 hb; clear hb hg))
 replace BK470 := asd (blk_drew BK470.out)
 replace BK471 := asd (blk_drew BK471.out)
 replace BK472 := asd (blk_drew BK472.out)
 replace HB := asd (below_drew1 HB.out)
 refine sh 15 (cb6 BK470 (eb6 BK471)) (fun hHeld => ?_); refine with_tabW impl_Motion_times.tab1 impl_Motion_times.bits1 (fun HT_ HW_ => ?_)
 generalize w8.drew = w9 at BK470 BK471 BK472 HB hHeld ⊢
 refine pu 0 (some 5) (bT 15 1) HT_ ?_
 refine pu 2 (some 7) (bs 15 5) HT_ ?_
 refine pu 5 (some 10) (bs 15 37) HT_ ?_
 refine pu 7 (some 12) (bs 15 165) HT_ ?_
 refine pu 10 (some 15) (bs 15 1189) HT_ ?_
 refine ta 1 (some 6) (bs 15 1191) HT_ HW_ hHeld ?_
 refine ta 3 (some 8) (bs 15 1199) HT_ HW_ hHeld ?_
 refine ta 6 (some 11) (bs 15 1263) HT_ HW_ hHeld ?_
 refine ta 8 (some 13) (bs 15 1519) HT_ HW_ hHeld ?_
 refine ta 11 (some 16) (bs 15 3567) HT_ HW_ hHeld ?_
 refine ro 4 (some 9) (bs 15 3583) HT_ (fun K hK => ?_)
 refine gs Try.func81 #[.agg #[.int .i64 a0_0, .int .i64 a0_1, .int .i64 a0_2, .int .i64 a0_3], .agg #[.int .i64 a1_0, .int .i64 a1_1, .int .i64 a1_2, .int .i64 a1_3]] ?_
 with_reducible refine (impl_Mat_times.calls _ _ _ _ _ _ _ _ _ _ _ _ _ A3.out).mono ?_
 rintro e w10 ⟨rfl, hb⟩
 refine ⟨_, rfl, ?_⟩
 replace BK470 := bB BK470 hb
 replace BK471 := bB BK471 hb
 replace BK472 := bB BK472 hb
 replace HB := bS3 HB GE470 GE471 GE472 hb
 (try clear hb)
 (try clear hb2)
 (try clear hk)
 (try clear hi)
 refine hK.out _ _ (cb6 BK470 (eb6 BK471)).out (fun hHeld => ?_)
 clear hK K
 refine norm_ (a' := ?_) ?_ ?_
 rotate_left
 ·show Act.put _ (some 9) _ = _
  simp only [Act.put, sA, sB, sC, i64_w, i32_w]
  rfl
 refine ro 9 (some 14) (bT 15 12) HT_ (fun K hK => ?_)
 refine gs Try.func77 #[.agg #[.int .i64 a0_0, .int .i64 a0_1, .int .i64 a0_2, .int .i64 a0_3], .agg #[.int .i64 a1_4, .int .i64 a1_5]] ?_
 with_reducible refine (impl_Mat_apply.calls _ _ _ _ _ _ _ _ _ A4.out).mono ?_
 rintro e w11 ⟨rfl, hb⟩
 refine ⟨_, rfl, ?_⟩
 replace BK470 := bB BK470 hb
 replace BK471 := bB BK471 hb
 replace BK472 := bB BK472 hb
 replace HB := bS3 HB GE470 GE471 GE472 hb
 (try clear hb)
 (try clear hb2)
 (try clear hk)
 (try clear hi)
 refine hK.out _ _ (cb6 BK470 (eb6 BK471)).out (fun hHeld => ?_)
 clear hK K
 refine norm_ (a' := ?_) ?_ ?_
 rotate_left
 ·show Act.put _ (some 14) _ = _
  simp only [Act.put, sA, sB, sC, i64_w, i32_w]
  rfl
 refine ro 12 (some 17) (bT 15 13) HT_ (fun K hK => ?_)
 refine gs Try.func18 #[.agg #[.int .i64 t477, .int .i64 t478], .agg #[.int .i64 a0_4, .int .i64 a0_5]] ?_
 with_reducible refine (impl_Vec_add.calls _ _ _ _ _ _ _ A5.out).mono ?_
 rintro e w12 ⟨rfl, hb⟩
 refine ⟨_, rfl, ?_⟩
 replace BK470 := bB BK470 hb
 replace BK471 := bB BK471 hb
 replace BK472 := bB BK472 hb
 replace HB := bS3 HB GE470 GE471 GE472 hb
 (try clear hb)
 (try clear hb2)
 (try clear hk)
 (try clear hi)
 refine hK.out _ _ (cb6 BK470 (eb6 BK471)).out (fun hHeld => ?_)
 clear hK K
 refine norm_ (a' := ?_) ?_ ?_
 rotate_left
 ·show Act.put _ (some 17) _ = _
  simp only [Act.put, sA, sB, sC, i64_w, i32_w]
  rfl
 refine pu 13 (some 18) (bT 15 14) HT_ ?_
 refine ro 14 (none) (bT 15 15) HT_ (fun K hK => ?_)
 have hs13 : w12.cell? ⟨gb472, 0, none⟩ = some (.int .i64 0) := bcl BK472 0
 have hfs13 := blk_frozen BK472.out 0
 have hns13_0 := NB470_472.out
 have hns13_1 := NB471_472.out
 have hms13_0 := NB472_470.out
 have hms13_1 := NB472_471.out
 have hs14 : w12.cell? ⟨gb472, 1, none⟩ = some (.int .i64 0) := bcl BK472 1
 have hfs14 := blk_frozen BK472.out 1
 have hns14_0 := NB470_472.out
 have hns14_1 := NB471_472.out
 have hms14_0 := NB472_470.out
 have hms14_1 := NB472_471.out
 have hs15 : w12.cell? ⟨gb472, 2, none⟩ = some (.int .i64 0) := bcl BK472 2
 have hfs15 := blk_frozen BK472.out 2
 have hns15_0 := NB470_472.out
 have hns15_1 := NB471_472.out
 have hms15_0 := NB472_470.out
 have hms15_1 := NB472_471.out
 have hs16 : w12.cell? ⟨gb472, 3, none⟩ = some (.int .i64 0) := bcl BK472 3
 have hfs16 := blk_frozen BK472.out 3
 have hns16_0 := NB470_472.out
 have hns16_1 := NB471_472.out
 have hms16_0 := NB472_470.out
 have hms16_1 := NB472_471.out
 have hs17 : w12.cell? ⟨gb472, 4, none⟩ = some (.int .i64 0) := bcl BK472 4
 have hfs17 := blk_frozen BK472.out 4
 have hns17_0 := NB470_472.out
 have hns17_1 := NB471_472.out
 have hms17_0 := NB472_470.out
 have hms17_1 := NB472_471.out
 have hs18 : w12.cell? ⟨gb472, 5, none⟩ = some (.int .i64 0) := bcl BK472 5
 have hfs18 := blk_frozen BK472.out 5
 have hns18_0 := NB470_472.out
 have hns18_1 := NB471_472.out
 have hms18_0 := NB472_470.out
 have hms18_1 := NB472_471.out
 refine skip_ (w1 := ?_) (by rfl) rfl ?_ ?_
 rotate_left
 ·go_simp
  rfl
 refine hK.out _ _ ⟨(cf6 NB470_472 (hHeld.1)), (cf6 NB470_472 (hHeld.2.1)), (cf6 NB470_472 (hHeld.2.2.1)), (cf6 NB470_472 (hHeld.2.2.2.1)), (cf6 NB470_472 (hHeld.2.2.2.2.1)), (cf6 NB470_472 (hHeld.2.2.2.2.2.1)), (cf6 NB471_472 (hHeld.2.2.2.2.2.2.1)), (cf6 NB471_472 (hHeld.2.2.2.2.2.2.2.1)), (cf6 NB471_472 (hHeld.2.2.2.2.2.2.2.2.1)), (cf6 NB471_472 (hHeld.2.2.2.2.2.2.2.2.2.1)), (cf6 NB471_472 (hHeld.2.2.2.2.2.2.2.2.2.2.1)), (cf6 NB471_472 (hHeld.2.2.2.2.2.2.2.2.2.2.2))⟩ (fun hHeld => ?_)
 clear hK K
 refine done_ (done_of HT_.out (by kernel_rfl)) ?_
 try go_wp2
 refine bodyPost_ret (results_cell_row rfl _ _ gb472 44 #[.int .i64 t473, .int .i64 t474, .int .i64 t475, .int .i64 t476, .int .i64 t479, .int .i64 t480] (0, 0) _ rfl (bq0 BK472) Try.underlying44 rfl (by kernel_rfl)) rfl ?_
 exact er (bbw3 HB GE470 GE471 GE472)

attribute [local go_sem high] eqA42
/-! ### mapMo: function 99999 -/
theorem mapMo.wide : (match Try.prog.underlying 44 with | some (.array _ _) | some (.struct _) => true | _ => false) = true := by rw [Try.underlying44]
set_option maxRecDepth 100000 in
theorem mapMo.law : Go.Maps.Keyed Try.prog 44 := Go.Maps.Keyed.of_law (deep_law_laid (P := Try.prog) (by kernel_rfl) (m := 3) (by omega) (of_decide_eq_true (by kernel_rfl)) (by kernel_rfl) mapMo.wide)
def mapMo.enc (x : S44) : Value := .agg #[.int .i64 x.f0.f0, .int .i64 x.f0.f1, .int .i64 x.f0.f2, .int .i64 x.f0.f3, .int .i64 x.f1.f0, .int .i64 x.f1.f1]
def mapMo.lits (x : S44) : List Lit := [.int .i64 x.f0.f0, .int .i64 x.f0.f1, .int .i64 x.f0.f2, .int .i64 x.f0.f3, .int .i64 x.f1.f0, .int .i64 x.f1.f1]
/-- Do a motion's numbers fit? -/
def mapMo.wf (x : S44) : Bool := (mapMo.lits x).all Lit.wf
def mapMo.kl (x : S44) : Lit := .string (keyBytes (mapMo.lits x))
theorem mapMo.hkey (x : S44) (h : mapMo.wf x = true) : keyOf Try.prog 44 (mapMo.enc x) = some (mapMo.kl x) := by
 simp only [mapMo.wf, mapMo.lits, List.all_cons, List.all_nil, Bool.and_true, Bool.and_eq_true] at h
 obtain ⟨h0, h1, h2, h3, h4, h5⟩ := h
 have k2 : ∀ (d : Nat) (n : Int), (Lit.int .i64 n).wf = true → Try.prog.keyLits (d + 1) 2 [.int .i64 n] = some [.int .i64 n] := fun d n hn => by
  simp [Program.keyLits, Try.underlying2, hn]
 have k34 : ∀ (d : Nat) (a b : Int), (Lit.int .i64 a).wf = true → (Lit.int .i64 b).wf = true → Try.prog.keyLits (d + 2) 42 [.int .i64 a, .int .i64 b] = some [.int .i64 a, .int .i64 b] := fun d a b ha hb => by
  unfold Program.keyLits
  rw [Try.underlying42]
  have c : Try.prog.cellsOf 42 = 2 := by kernel_rfl
  have c2 : Try.prog.cellsOf 2 = 1 := by kernel_rfl
  simp [c, c2, k2, ha, hb]
 have k33 : ∀ (d : Nat) (a b c e : Int), (Lit.int .i64 a).wf = true → (Lit.int .i64 b).wf = true → (Lit.int .i64 c).wf = true → (Lit.int .i64 e).wf = true → Try.prog.keyLits (d + 2) 40 [.int .i64 a, .int .i64 b, .int .i64 c, .int .i64 e] = some [.int .i64 a, .int .i64 b, .int .i64 c, .int .i64 e] := fun d a b c e ha hb hc he => by
  unfold Program.keyLits
  rw [Try.underlying40]
  have c' : Try.prog.cellsOf 40 = 4 := by kernel_rfl
  have c2 : Try.prog.cellsOf 2 = 1 := by kernel_rfl
  simp [c', c2, k2, ha, hb, hc, he]
 have hf : (mapMo.enc x).formed Try.prog 44 = true := by
  simp [Value.formed, mapMo.enc, Try.underlying44, show Try.prog.cellsOf 44 = 6 by kernel_rfl]
 have hk : Try.prog.keyType 44 = true := by kernel_rfl
 have hs : ∃ m, Try.prog.types.size = m + 2 := ⟨Try.prog.types.size - 2, by have : (2 : Nat) ≤ Try.prog.types.size := of_decide_eq_true (by kernel_rfl); omega⟩
 obtain ⟨m, hm⟩ := hs
 unfold keyOf
 rw [Try.underlying44, hm]
 dsimp only
 rw [hk, hf]
 unfold Program.keyLits
 rw [Try.underlying44]
 have c : Try.prog.cellsOf 44 = 6 := by kernel_rfl
 have c33 : Try.prog.cellsOf 40 = 4 := by kernel_rfl
 have c34 : Try.prog.cellsOf 42 = 2 := by kernel_rfl
 simp [mapMo.enc, Value.cells, c, c33, c34, k33, k34, h0, h1, h2, h3, h4, h5, mapMo.kl, mapMo.lits]
/-- Are two motions the same? -/
def mapMo.eqB (x y : S44) : Bool := x.f0.f0 == y.f0.f0 && (x.f0.f1 == y.f0.f1 && (x.f0.f2 == y.f0.f2 && (x.f0.f3 == y.f0.f3 && (x.f1.f0 == y.f1.f0 && x.f1.f1 == y.f1.f1))))
theorem mapMo.eqB_iff (x y : S44) : mapMo.eqB x y = true ↔ x = y := by
 obtain ⟨⟨a, b, c, d⟩, e, f⟩ := x
 obtain ⟨⟨a', b', c', d'⟩, e', f'⟩ := y
 simp only [mapMo.eqB, Bool.and_eq_true, beq_iff_eq]
 constructor
 ·rintro ⟨rfl, rfl, rfl, rfl, rfl, rfl⟩; rfl
 ·intro h; cases h; exact ⟨rfl, rfl, rfl, rfl, rfl, rfl⟩
theorem mapMo.enc_inj {x y : S44} (h : mapMo.enc x = mapMo.enc y) : x = y := by
 obtain ⟨⟨a, b, c, d⟩, e, f⟩ := x
 obtain ⟨⟨a', b', c', d'⟩, e', f'⟩ := y
 simp only [mapMo.enc, Value.agg.injEq, Array.mk.injEq, List.cons.injEq, Value.int.injEq, true_and, and_true] at h
 obtain ⟨rfl, rfl, rfl, rfl, rfl, rfl⟩ := h
 rfl
theorem mapMo.kl_inj {x y : S44} (hx : mapMo.wf x = true) (hy : mapMo.wf y = true) (h : mapMo.kl x = mapMo.kl y) : x = y := by
 have e1 := mapMo.hkey x hx
 have e2 := mapMo.hkey y hy
 rw [← h] at e2
 exact mapMo.enc_inj (mapMo.law.inj e1 e2)
/-- What the map reads as. -/
def mapMo.setD (xs : List S44) (D : DataW Unit) : DataW Unit := xs.foldl (fun D x => D.put (mapMo.kl x) (.lit (.bool true))) D
theorem mapMo.setD_at (y : S44) (hy : mapMo.wf y = true) : ∀ (xs : List S44) (D : DataW Unit) (b : Bool), (∀ x ∈ xs, mapMo.wf x = true) → Go.Maps.IsMap D → D.atKey (mapMo.kl y) (.lit (.bool false)) = .lit (.bool b) →
  (mapMo.setD xs D).atKey (mapMo.kl y) (.lit (.bool false)) = .lit (.bool (b || xs.any fun x => mapMo.eqB x y))
 | [], D, b, _, _, h => by simpa [mapMo.setD] using h
 | x :: xs, D, b, hw, hD, h => by
  have hx := hw x (List.mem_cons_self)
  have ih := mapMo.setD_at y hy xs (D.put (mapMo.kl x) (.lit (.bool true))) (b || mapMo.eqB x y) (fun z hz => hw z (List.mem_cons_of_mem _ hz)) (hD.put _ _) (by
   by_cases e : x = y
   ·subst e
    rw [Go.Maps.atKey_put_same hD (mapMo.law.key (mapMo.hkey x hx))]
    rw [(mapMo.eqB_iff x x).2 rfl, Bool.or_true]
   ·rw [Go.Maps.atKey_put_other (fun g => e (mapMo.kl_inj hx hy g.symm)), h]
    have : mapMo.eqB x y = false := Bool.eq_false_iff.2 (fun g => e ((mapMo.eqB_iff x y).1 g))
    rw [this, Bool.or_false])
  rw [List.any_cons, ← Bool.or_assoc]
  exact ih
/-- Block B is a map of the call's own whose keys are the motions of a list. -/
def mapMo.MS (w : World) (B : Nat) (xs : List S44) : Prop := (∀ x ∈ xs, mapMo.wf x = true) ∧ w.ownsMap Try.prog 44 (plainElem (H := Unit) Try.prog 4) B xs.length (mapMo.setD xs (.map []))
set_option maxRecDepth 100000 in
theorem mapMo.plain_inv {v : Value} {b : Bool} {ps : List MemPlace} (h : plainElem (H := Unit) Try.prog 4 v = some (.lit (.bool b), ps)) : v = .bool b := by
 unfold plainElem at h
 rw [Try.underlying4] at h
 cases v <;> simp at h
 rw [h.1]
theorem mapMo.MS_run {w : World} {B : Nat} {xs : List S44} (h : mapMo.MS w B xs) (y : S44) (hy : mapMo.wf y = true) :
  (Instr.lookup 88 (.map (some B)) (mapMo.enc y) false).run Try.prog w = .ok (.bool (xs.any fun x => mapMo.eqB x y)) w := by
 obtain ⟨v, ps, hrun, hv⟩ := h.2.lookup (e := 4) mapMo.law Try.underlying88 (z := .bool false) (by kernel_rfl) (plainElem_bool Try.underlying4 false) (mapMo.hkey y hy)
 rw [mapMo.setD_at y hy xs (.map []) false h.1 Go.Maps.isMap_empty rfl, Bool.false_or] at hv
 rw [hrun, mapMo.plain_inv hv]
theorem mapMo.MS_ne {w : World} {B : Nat} {xs : List S44} (h : mapMo.MS w B xs) {g : Nat} {cs : Array Value} {t : TypeId} {p : Nat × Nat} (b : w.heap[g]? = some (.cells cs t p)) : B ≠ g := by
 obtain ⟨-, es, clock, hb, -⟩ := h
 rintro rfl
 rw [hb] at b
 cases b
theorem mapMo.MS_move {w w1 : World} {B : Nat} {xs : List S44} (h : mapMo.MS w B xs) (hm : w1.heap[B]? = w.heap[B]?) : mapMo.MS w1 B xs := by
 obtain ⟨h0, es, clock, hb, r⟩ := h
 exact ⟨h0, es, clock, hm.trans hb, r⟩
theorem mapMo.MS_below {w w1 : World} {B : Nat} {xs : List S44} (h : mapMo.MS w B xs) (hb : Below w.heap.size w w1) : mapMo.MS w1 B xs := mapMo.MS_move h (hb.block B h.2.lt)
theorem mapMo.MS_alloc {w : World} {B : Nat} {xs : List S44} (h : mapMo.MS w B xs) (o : Obj) : mapMo.MS (w.alloc o) B xs := mapMo.MS_below h (below_alloc (Below.refl _ _) _)
theorem mapMo.MS_drewN {w : World} {B : Nat} {xs : List S44} (h : mapMo.MS w B xs) (n : Nat) : mapMo.MS (w.drewN n) B xs := h
theorem mapMo.MS_drew {w : World} {B : Nat} {xs : List S44} (h : mapMo.MS w B xs) : mapMo.MS w.drew B xs := h
theorem mapMo.MS_set {w : World} {B : Nat} {xs : List S44} {g j : Nat} {v : Value} (h : mapMo.MS w B xs) (hne : B ≠ g) : mapMo.MS (w.setCell ⟨g, j, none⟩ v) B xs := mapMo.MS_move h (Below.heap_setCell w _ v B hne)
theorem mapMo.MS_over {w w1 : World} {B : Nat} {xs : List S44} (h : mapMo.MS w B xs) {v : Value} {e' : Nat} (hty : ∀ k, v.ownBlock = some k → ∃ cells, w.heap[k]? = some (.cells cells e' (0, 0))) (hg : w.grownBy w1 v.ownBlock) : mapMo.MS w1 B xs :=
 mapMo.MS_move h (hg.block B h.2.lt (fun e => by obtain ⟨cs, hc⟩ := hty B e.symm; exact mapMo.MS_ne h hc rfl))
theorem mapMo.R_map {α : Type} {d : Kd α} {e : Nat} {w w1 : World} {base : Nat} {ok : Nat → Prop} {v : Value} {l : List α} (h : d.R e w base ok v l) {B : Nat} {xs : List S44} (hM : mapMo.MS w B xs) (hg : w.grownBy w1 (some B)) : d.R e w1 base ok v l :=
 Kd.R_mono (Kd.R_move (Kd.R_bound h) (fun k hk => by
  obtain ⟨_, _, hlt, _, _, cs, hc⟩ := hk
  exact hg.block k hlt (fun e => (mapMo.MS_ne hM hc) (Option.some.inj e).symm))) (fun _ hk => hk.1)
/-- Is a motion among the map's keys? (Its numbers must fit.) -/
def mapMo.has (_ : Nat) (xs : List S44) (y0 y1 y2 y3 y4 y5 : Int) : Option Bool := if mapMo.wf ⟨⟨y0, y1, y2, y3⟩, ⟨y4, y5⟩⟩ = true then some (xs.any fun x => mapMo.eqB x ⟨⟨y0, y1, y2, y3⟩, ⟨y4, y5⟩⟩) else none
theorem mapMo.has_mono : ∀ (xs : List S44) (y0 y1 y2 y3 y4 y5 : Int) (k : Nat), LeO (mapMo.has k xs y0 y1 y2 y3 y4 y5) (mapMo.has (k + 1) xs y0 y1 y2 y3 y4 y5) := fun _ _ _ _ _ _ _ _ => LeO.refl _
theorem mapMo.has_inv {k : Nat} {xs : List S44} {y0 y1 y2 y3 y4 y5 : Int} {r : Bool} (A : mapMo.has k xs y0 y1 y2 y3 y4 y5 = some r) : mapMo.wf ⟨⟨y0, y1, y2, y3⟩, ⟨y4, y5⟩⟩ = true ∧ (xs.any fun x => mapMo.eqB x ⟨⟨y0, y1, y2, y3⟩, ⟨y4, y5⟩⟩) = r := by
 unfold mapMo.has at A
 by_cases h : mapMo.wf ⟨⟨y0, y1, y2, y3⟩, ⟨y4, y5⟩⟩ = true
 ·rw [if_pos h] at A; exact ⟨h, Option.some.inj A⟩
 ·rw [if_neg h] at A; cases A
theorem mapMo.blk_put {w w1 : World} {g : Nat} {cs : Array Value} {t : TypeId} (h : w.heap[g]? = some (.cells cs t (0, 0))) {B : Nat} {xs : List S44} (hM : mapMo.MS w B xs) (hg : w.grownBy w1 (some B)) : w1.heap[g]? = some (.cells cs t (0, 0)) :=
 (hg.block g (blk_lt h) (fun e => mapMo.MS_ne hM h (Option.some.inj e).symm)).trans h
theorem mapMo.below_put {w W w1 : World} {g : Nat} (h : Below w.heap.size w W) (hB : w.heap.size ≤ g) (hg : W.grownBy w1 (some g)) : Below w.heap.size w w1 :=
 h.trans ⟨hg.os, hg.tape, hg.output, hg.size, fun i hi => hg.block i (Nat.lt_of_lt_of_le hi h.size) (fun e => by have := Option.some.inj e; omega)⟩
section
variable {ops : Array Oper} {rest : List Oper} {o : Oper} {a : Act} {Q : Exit → Act → World → Prop} {Kc : Act → World → Prop} {W : World}
theorem mapMo.make_event (hgd : o.guard = none) {N : Tmp} (_hd : o.dst = some N) (hrun : (execOp a.eval o).run Try.prog W = .ok (.value (.map (some W.heap.size))) (W.alloc (.map #[] 0)))
  (h : ∀ g, g = W.heap.size → ∀ w1, mapMo.MS w1 g [] → Below W.heap.size W w1 → wpList Try.prog ops Q rest (a.put o.dst (.map (some g))) w1) : wpList Try.prog ops Q (o :: rest) a W :=
 Kd.event_run hgd hrun (h _ rfl _ ⟨fun _ hx => absurd hx (by simp), World.ownsMap_made W _ _ _⟩ (below_alloc (Below.refl _ _) _))
theorem mapMo.put_event (hgd : o.guard = none) (m x v : Operand) (hop : o.op = Op.mapUpdate 88 m x v) {B : Nat} {xs : List S44} (hm : a.eval m = .map (some B)) (hM : mapMo.MS W B xs) (y : S44) (hx : a.eval x = mapMo.enc y) (hv : a.eval v = .bool true) (hy : mapMo.wf y = true) (hn : xs.length < 2932031007402)
  (h : ∀ w1, mapMo.MS w1 B (xs ++ [y]) → W.grownBy w1 (some B) → wpList Try.prog ops Q rest (a.put o.dst undef) w1) : wpList Try.prog ops Q (o :: rest) a W :=
 wpList_mapUpdate_own W hgd m x v 88 hop 44 4 mapMo.law Try.underlying88 (plainElem (H := Unit) Try.prog 4) B xs.length _ hm hM.2 (by unfold maxLen; omega) _ _ _ hx hv (mapMo.hkey y hy) _ [] (plainElem_bool Try.underlying4 true)
  (fun w' h1 h2 => h w' ⟨fun z hz => by
   rcases List.mem_append.1 hz with hz | hz
   ·exact hM.1 z hz
   ·rw [List.mem_singleton.1 hz]; exact hy, by
   rw [List.length_append]
   unfold mapMo.setD at h1 ⊢
   rw [List.foldl_append]
   exact h1⟩ h2)
theorem mapMo.gate_ins {t : TypeId} {m x v : Operand} (_h : o.op = Op.insert t m x v) (h : wpList Try.prog ops Q (o :: rest) a W) : wpList Try.prog ops Q (o :: rest) a W := h
/-- An entry of a map that is written out. -/
theorem mapMo.ins_event (hgd : o.guard = none) (m x v : Operand) (hop : o.op = Op.insert 88 m x v) {B : Nat} {xs : List S44} (hm : a.eval m = .map (some B)) (hM : mapMo.MS W B xs) (y : S44) (hx : a.eval x = mapMo.enc y) (hv : a.eval v = .bool true) (hy : mapMo.wf y = true) (hn : xs.length < 2932031007402)
  (h : ∀ w1, mapMo.MS w1 B (xs ++ [y]) → W.grownBy w1 (some B) → wpList Try.prog ops Q rest (a.put o.dst undef) w1) : wpList Try.prog ops Q (o :: rest) a W := by
 refine wpList_plain hgd fun K' hK' => ?_
 obtain ⟨w', hrun, r1, r2⟩ := hM.2.update mapMo.law Try.underlying88 (R := plainElem (H := Unit) Try.prog 4) (by unfold maxLen; omega) (mapMo.hkey y hy) (plainElem_bool Try.underlying4 true)
 unfold Oper.wp
 simp [execOp, hop, hm, hx, hv, hrun, Result.andThen]
 refine hK' _ _ (h w' ⟨fun z hz => ?_, ?_⟩ r2)
 ·rcases List.mem_append.1 hz with hz | hz
  ·exact hM.1 z hz
  ·rw [List.mem_singleton.1 hz]; exact hy
 ·rw [List.length_append]
  unfold mapMo.setD at r1 ⊢
  rw [List.foldl_append]
  exact r1
theorem mapMo.get_has {k : Nat} {xs : List S44} {y0 y1 y2 y3 y4 y5 : Int} {r : Bool} (A : mapMo.has k xs y0 y1 y2 y3 y4 y5 = some r) (hgd : o.guard = none) (m x : Operand) (hop : o.op = Op.lookup 88 m x false) {B : Nat} (hm : a.eval m = .map (some B)) (hM : mapMo.MS W B xs) (hx : a.eval x = mapMo.enc ⟨⟨y0, y1, y2, y3⟩, ⟨y4, y5⟩⟩)
  (h : wpList Try.prog ops Q rest (a.put o.dst (.bool r)) W) : wpList Try.prog ops Q (o :: rest) a W := by
 obtain ⟨hy, hr⟩ := mapMo.has_inv A
 subst hr
 exact Kd.event_run hgd (by simp [execOp, hop, hm, hx, mapMo.MS_run hM _ hy, Result.andThen]) h
theorem mapMo.get_call {k : Nat} {xs : List S44} {y0 y1 y2 y3 y4 y5 : Int} {r : Bool} (A : mapMo.has k xs y0 y1 y2 y3 y4 y5 = some r) (hgd : o.guard = none) (m x : Operand) (hop : o.op = Op.lookup 88 m x false) {B : Nat} (hm : a.eval m = .map (some B)) (hM : mapMo.MS W B xs) (hx : a.eval x = mapMo.enc ⟨⟨y0, y1, y2, y3⟩, ⟨y4, y5⟩⟩)
  (h : ∀ w1, Below W.heap.size W w1 → wpList Try.prog ops Q rest (a.put o.dst (.bool r)) w1) : wpList Try.prog ops Q (o :: rest) a W := mapMo.get_has A hgd m x hop hm hM hx (h W (Below.refl _ _))
theorem mapMo.get_step {k : Nat} {xs : List S44} {y0 y1 y2 y3 y4 y5 : Int} {r : Bool} (A : mapMo.has k xs y0 y1 y2 y3 y4 y5 = some r) (hw : Region.wanted o (yielded ops a.tmps) = true) {N : Option Tmp} (hN : o.dst = N) (m x : Operand) (hop : o.op = Op.lookup 88 m x false) {B : Nat} (hm : a.eval m = .map (some B)) (hM : mapMo.MS W B xs) (hx : a.eval x = mapMo.enc ⟨⟨y0, y1, y2, y3⟩, ⟨y4, y5⟩⟩)
  (h : Kc (a.put N (.bool r)) W) : if Region.wanted o (yielded ops a.tmps) = true then Oper.wp Try.prog o a W Kc Q else Kc (a.put N undef) W := by
 obtain ⟨hy, hr⟩ := mapMo.has_inv A
 subst hr
 subst hN
 exact event_step hw (by simp [execOp, hop, hm, hx, mapMo.MS_run hM _ hy, Result.andThen]) h
end
end Go.Proofs.Ytfmjboloeabjmaa.PA
