import Derived.Test.YtdodghjnlekgeaaGreatPAx0
import Derived.Test.YtdodghjnlekgeaaGreatPAx10
namespace Go.Proofs.YtdodghjnlekgeaaGreat.PA
open Go.RowKit Go.Proofs.YtdodghjnlekgeaaGreatW.PrintWords Go.Proofs.YtdodghjnlekgeaaGreatW.PrintLast Go.Proofs.YtdodghjnlekgeaaGreatW.PrintMore
attribute [local go_sem] max2_int min2_int max_two min_two max_three min_three max_four min_four   -- for this text's walks alone
set_option linter.unusedVariables false
set_option maxHeartbeats 8000000
set_option maxRecDepth 100000
set_option linter.unusedSimpArgs false
def impl_Lattice_reduceMotion.f (a0_0 : Int) (a0_1 : Int) (a0_2 : Int) (a1_0 : Int) (a1_1 : Int) (a1_2 : Int) (a1_3 : Int) (a1_4 : Int) (a1_5 : Int) : Option (Int × Int × Int × Int × Int × Int) := (impl_Lattice_reduce.f a0_0 a0_1 a0_2 a1_4 a1_5).bind fun bt414 => (some (a1_0, a1_1, a1_2, a1_3, bt414.1, bt414.2))
def impl_Lattice_reduceMotion.T1 : Bool × List (List Nat × List Nat) := (true, [([], []), ([0], [0]), ([], []), ([], []), ([3], [3]), ([2, 4], [2, 4]), ([1, 5], [1, 5]), ([6, 5, 0, 1, 2, 3, 4, 5, 6], [6])])
def impl_Lattice_reduceMotion.B1 : List Nat := [0, 1, 0, 0, 8, 28, 63, 127]
theorem impl_Lattice_reduceMotion.tab1 : rtab .any (opsOf Tryz.f72 1) = impl_Lattice_reduceMotion.T1 := by kernel_rfl
theorem impl_Lattice_reduceMotion.bits1 : waitsOk impl_Lattice_reduceMotion.T1.2 impl_Lattice_reduceMotion.B1 = true := by kernel_rfl
theorem impl_Lattice_reduceMotion.calls (a0_0 : Int) (a0_1 : Int) (a0_2 : Int) (a1_0 : Int) (a1_1 : Int) (a1_2 : Int) (a1_3 : Int) (a1_4 : Int) (a1_5 : Int) (r1 : Int) (r2 : Int) (r3 : Int) (r4 : Int) (r5 : Int) (r6 : Int) (w : World) (h : impl_Lattice_reduceMotion.f a0_0 a0_1 a0_2 a1_0 a1_1 a1_2 a1_3 a1_4 a1_5 = some (r1, r2, r3, r4, r5, r6)) :
  Calls Tryz.prog 72 #[.agg #[.int .i64 a0_0, .int .i64 a0_1, .int .i64 a0_2], .agg #[.int .i64 a1_0, .int .i64 a1_1, .int .i64 a1_2, .int .i64 a1_3, .int .i64 a1_4, .int .i64 a1_5]] w fun e w' => e = .returned (.agg #[.int .i64 r1, .int .i64 r2, .int .i64 r3, .int .i64 r4, .int .i64 r5, .int .i64 r6]) ∧ Below w.heap.size w w' := by
 have hu29 := Tryz.underlying29
 have hu48 := Tryz.underlying48
 have hu46 := Tryz.underlying46
 have hu38 := Tryz.underlying38
 have HB := asd (Below.refl w.heap.size w)
 have H : ((impl_Lattice_reduce.f a0_0 a0_1 a0_2 a1_4 a1_5).bind fun bt414 => (some (a1_0, a1_1, a1_2, a1_3, bt414.1, bt414.2))) = some (r1, r2, r3, r4, r5, r6) := h
 clear h
 obtain ⟨⟨t414, t415⟩, A3, H⟩ := ob H
 try dsimp only at H
 simp only [Option.some.injEq, Prod.mk.injEq] at H
 obtain ⟨rfl, rfl, rfl, rfl, rfl, rfl⟩ := H
 go_enter Tryz.func72, Tryz.ntmps72
 try go_wp2_with (first | ((with_reducible refine gd 2 rfl ?_); refine bx #[.int .i64 a0_0, .int .i64 a0_1, .int .i64 a0_2] 29 ?_; intro gb411 hg w4 BK411 hb; have GE411 := ngw0 hg HB; replace HB := bS0 HB hb; clear hb hg) | ((with_reducible refine gd 3 rfl ?_); refine bx #[.int .i64 a1_0, .int .i64 a1_1, .int .i64 a1_2, .int .i64 a1_3, .int .i64 a1_4, .int .i64 a1_5] 48 ?_; intro gb412 hg w5 BK412 hb; have GE412 := ngw1 hg HB GE411; replace HB := bS1 HB GE411 hb; have NB411_412 := nlt hg BK411; have NB412_411 := nsy (nlt hg BK411); replace BK411 := bB BK411 hb; clear hb hg) | ((with_reducible refine gd 4 rfl ?_); refine bx #[.int .i64 0, .int .i64 0, .int .i64 0, .int .i64 0, .int .i64 0, .int .i64 0] 48 ?_; intro gb413 hg w6 BK413 hb; have GE413 := ngw2 hg HB GE411 GE412; replace HB := bS2 HB GE411 GE412 hb; have NB411_413 := nlt hg BK411; have NB413_411 := nsy (nlt hg BK411); replace BK411 := bB BK411 hb; have NB412_413 := nlt hg BK412; have NB413_412 := nsy (nlt hg BK412); replace BK412 := bB BK412 hb; clear hb hg))
 replace BK411 := asd (blk_drew BK411.out)
 replace BK412 := asd (blk_drew BK412.out)
 replace BK413 := asd (blk_drew BK413.out)
 replace HB := asd (below_drew1 HB.out)
 refine sh 8 (cb6 BK412 (eb3 BK411)) (fun hHeld => ?_); refine with_tabW impl_Lattice_reduceMotion.tab1 impl_Lattice_reduceMotion.bits1 (fun HT_ HW_ => ?_)
 generalize w6.drew = w7 at BK411 BK412 BK413 HB hHeld ⊢
 refine pu 0 (some 5) (bT 8 1) HT_ ?_
 refine pu 3 (some 8) (bs 8 9) HT_ ?_
 refine ta 1 (some 6) (bs 8 11) HT_ HW_ hHeld ?_
 refine ta 2 (some 7) (bT 8 4) HT_ HW_ hHeld ?_
 refine ta 4 (some 9) (bT 8 5) HT_ HW_ hHeld ?_
 refine ro 5 (some 10) (bT 8 6) HT_ (fun K hK => ?_)
 refine gs Tryz.func107 #[.agg #[.int .i64 a0_0, .int .i64 a0_1, .int .i64 a0_2], .agg #[.int .i64 a1_4, .int .i64 a1_5]] ?_
 with_reducible refine (impl_Lattice_reduce.calls _ _ _ _ _ _ _ _ A3.out).mono ?_
 rintro e w8 ⟨rfl, hb⟩
 refine ⟨_, rfl, ?_⟩
 replace BK411 := bB BK411 hb
 replace BK412 := bB BK412 hb
 replace BK413 := bB BK413 hb
 replace HB := bS3 HB GE411 GE412 GE413 hb
 (try clear hb)
 (try clear hb2)
 (try clear hk)
 (try clear hi)
 refine hK.out _ _ (cb6 BK412 (eb3 BK411)).out (fun hHeld => ?_)
 clear hK K
 refine norm_ (a' := ?_) ?_ ?_
 rotate_left
 ·show Act.put _ (some 10) _ = _
  simp only [Act.put, sA, sB, sC, i64_w, i32_w]
  rfl
 refine pu 6 (some 11) (bT 8 7) HT_ ?_
 refine ro 7 (none) (bT 8 8) HT_ (fun K hK => ?_)
 have hs9 : w8.cell? ⟨gb413, 0, none⟩ = some (.int .i64 0) := bcl BK413 0
 have hfs9 := blk_frozen BK413.out 0
 have hns9_0 := NB411_413.out
 have hns9_1 := NB412_413.out
 have hms9_0 := NB413_411.out
 have hms9_1 := NB413_412.out
 have hs10 : w8.cell? ⟨gb413, 1, none⟩ = some (.int .i64 0) := bcl BK413 1
 have hfs10 := blk_frozen BK413.out 1
 have hns10_0 := NB411_413.out
 have hns10_1 := NB412_413.out
 have hms10_0 := NB413_411.out
 have hms10_1 := NB413_412.out
 have hs11 : w8.cell? ⟨gb413, 2, none⟩ = some (.int .i64 0) := bcl BK413 2
 have hfs11 := blk_frozen BK413.out 2
 have hns11_0 := NB411_413.out
 have hns11_1 := NB412_413.out
 have hms11_0 := NB413_411.out
 have hms11_1 := NB413_412.out
 have hs12 : w8.cell? ⟨gb413, 3, none⟩ = some (.int .i64 0) := bcl BK413 3
 have hfs12 := blk_frozen BK413.out 3
 have hns12_0 := NB411_413.out
 have hns12_1 := NB412_413.out
 have hms12_0 := NB413_411.out
 have hms12_1 := NB413_412.out
 have hs13 : w8.cell? ⟨gb413, 4, none⟩ = some (.int .i64 0) := bcl BK413 4
 have hfs13 := blk_frozen BK413.out 4
 have hns13_0 := NB411_413.out
 have hns13_1 := NB412_413.out
 have hms13_0 := NB413_411.out
 have hms13_1 := NB413_412.out
 have hs14 : w8.cell? ⟨gb413, 5, none⟩ = some (.int .i64 0) := bcl BK413 5
 have hfs14 := blk_frozen BK413.out 5
 have hns14_0 := NB411_413.out
 have hns14_1 := NB412_413.out
 have hms14_0 := NB413_411.out
 have hms14_1 := NB413_412.out
 refine skip_ (w1 := ?_) (by rfl) rfl ?_ ?_
 rotate_left
 ·go_simp
  rfl
 refine hK.out _ _ ⟨(cf6 NB412_413 (hHeld.1)), (cf6 NB412_413 (hHeld.2.1)), (cf6 NB412_413 (hHeld.2.2.1)), (cf6 NB412_413 (hHeld.2.2.2.1)), (cf6 NB412_413 (hHeld.2.2.2.2.1)), (cf6 NB412_413 (hHeld.2.2.2.2.2.1)), (cf6 NB411_413 (hHeld.2.2.2.2.2.2.1)), (cf6 NB411_413 (hHeld.2.2.2.2.2.2.2.1)), (cf6 NB411_413 (hHeld.2.2.2.2.2.2.2.2))⟩ (fun hHeld => ?_)
 clear hK K
 refine done_ (done_of HT_.out (by kernel_rfl)) ?_
 try go_wp2
 refine bodyPost_ret (results_cell_row rfl _ _ gb413 48 #[.int .i64 a1_0, .int .i64 a1_1, .int .i64 a1_2, .int .i64 a1_3, .int .i64 t414, .int .i64 t415] (0, 0) _ rfl (bq0 BK413) Tryz.underlying48 rfl (by kernel_rfl)) rfl ?_
 exact er (bbw3 HB GE411 GE412 GE413)
def impl_Vec_add.f (a0_0 : Int) (a0_1 : Int) (a1_0 : Int) (a1_1 : Int) : Option (Int × Int) := some (wrap64 (a0_0 + a1_0), wrap64 (a0_1 + a1_1))
theorem impl_Vec_add.calls (a0_0 : Int) (a0_1 : Int) (a1_0 : Int) (a1_1 : Int) (r1 : Int) (r2 : Int) (w : World) (h : impl_Vec_add.f a0_0 a0_1 a1_0 a1_1 = some (r1, r2)) :
  Calls Tryz.prog 83 #[.agg #[.int .i64 a0_0, .int .i64 a0_1], .agg #[.int .i64 a1_0, .int .i64 a1_1]] w fun e w' => e = .returned (.agg #[.int .i64 r1, .int .i64 r2]) ∧ Below w.heap.size w w' := by
 have hu38 := Tryz.underlying38
 have HB := asd (Below.refl w.heap.size w)
 have H : (some (wrap64 (a0_0 + a1_0), wrap64 (a0_1 + a1_1))) = some (r1, r2) := h
 clear h
 simp only [Option.some.injEq, Prod.mk.injEq] at H
 obtain ⟨rfl, rfl⟩ := H
 go_enter Tryz.func83, Tryz.ntmps83
 go_wp2_with (first | ((with_reducible refine gd 2 rfl ?_); refine bx #[.int .i64 a0_0, .int .i64 a0_1] 38 ?_; intro gb416 hg w3 BK416 hb; have GE416 := ngw0 hg HB; replace HB := bS0 HB hb; clear hb hg) | ((with_reducible refine gd 3 rfl ?_); refine bx #[.int .i64 a1_0, .int .i64 a1_1] 38 ?_; intro gb417 hg w4 BK417 hb; have GE417 := ngw1 hg HB GE416; replace HB := bS1 HB GE416 hb; have NB416_417 := nlt hg BK416; have NB417_416 := nsy (nlt hg BK416); replace BK416 := bB BK416 hb; clear hb hg) | ((with_reducible refine gd 4 rfl ?_); refine bx #[.int .i64 0, .int .i64 0] 38 ?_; intro gb418 hg w5 BK418 hb; have GE418 := ngw2 hg HB GE416 GE417; replace HB := bS2 HB GE416 GE417 hb; have NB416_418 := nlt hg BK416; have NB418_416 := nsy (nlt hg BK416); replace BK416 := bB BK416 hb; have NB417_418 := nlt hg BK417; have NB418_417 := nsy (nlt hg BK417); replace BK417 := bB BK417 hb; clear hb hg; have hnb6 := NB416_417.out; have hnc6 := NB417_416.out; have hnb7 := NB416_418.out; have hnc7 := NB418_416.out; obtain ⟨hcz8_0, hcz8_1, hfz8_0, hfz8_1⟩ := bz2 BK416; have hnb9 := NB417_418.out; have hnc9 := NB418_417.out; obtain ⟨hcz10_0, hcz10_1, hfz10_0, hfz10_1⟩ := bz2 BK417; obtain ⟨hcz11_0, hcz11_1, hfz11_0, hfz11_1⟩ := bz2 BK418))
 refine bodyPost_ret (results_cell_row rfl _ _ gb418 38 #[.int .i64 (wrap64 (a0_0 + a1_0)), .int .i64 (wrap64 (a0_1 + a1_1))] (0, 0) _ rfl (bq0 BK418) Tryz.underlying38 rfl (by kernel_rfl)) rfl ?_
 exact er (bbw3 HB GE416 GE417 GE418)
def impl_Mat_apply.f (a0_0 : Int) (a0_1 : Int) (a0_2 : Int) (a0_3 : Int) (a1_0 : Int) (a1_1 : Int) : Option (Int × Int) := some (wrap64 ((wrap64 (a0_0 * a1_0)) + (wrap64 (a0_1 * a1_1))), wrap64 ((wrap64 (a0_2 * a1_0)) + (wrap64 (a0_3 * a1_1))))
theorem impl_Mat_apply.calls (a0_0 : Int) (a0_1 : Int) (a0_2 : Int) (a0_3 : Int) (a1_0 : Int) (a1_1 : Int) (r1 : Int) (r2 : Int) (w : World) (h : impl_Mat_apply.f a0_0 a0_1 a0_2 a0_3 a1_0 a1_1 = some (r1, r2)) :
  Calls Tryz.prog 84 #[.agg #[.int .i64 a0_0, .int .i64 a0_1, .int .i64 a0_2, .int .i64 a0_3], .agg #[.int .i64 a1_0, .int .i64 a1_1]] w fun e w' => e = .returned (.agg #[.int .i64 r1, .int .i64 r2]) ∧ Below w.heap.size w w' := by
 have hu46 := Tryz.underlying46
 have hu38 := Tryz.underlying38
 have HB := asd (Below.refl w.heap.size w)
 have H : (some (wrap64 ((wrap64 (a0_0 * a1_0)) + (wrap64 (a0_1 * a1_1))), wrap64 ((wrap64 (a0_2 * a1_0)) + (wrap64 (a0_3 * a1_1))))) = some (r1, r2) := h
 clear h
 simp only [Option.some.injEq, Prod.mk.injEq] at H
 obtain ⟨rfl, rfl⟩ := H
 go_enter Tryz.func84, Tryz.ntmps84
 go_wp2_with (first | ((with_reducible refine gd 2 rfl ?_); refine bx #[.int .i64 a0_0, .int .i64 a0_1, .int .i64 a0_2, .int .i64 a0_3] 46 ?_; intro gb419 hg w3 BK419 hb; have GE419 := ngw0 hg HB; replace HB := bS0 HB hb; clear hb hg) | ((with_reducible refine gd 3 rfl ?_); refine bx #[.int .i64 a1_0, .int .i64 a1_1] 38 ?_; intro gb420 hg w4 BK420 hb; have GE420 := ngw1 hg HB GE419; replace HB := bS1 HB GE419 hb; have NB419_420 := nlt hg BK419; have NB420_419 := nsy (nlt hg BK419); replace BK419 := bB BK419 hb; clear hb hg) | ((with_reducible refine gd 4 rfl ?_); refine bx #[.int .i64 0, .int .i64 0] 38 ?_; intro gb421 hg w5 BK421 hb; have GE421 := ngw2 hg HB GE419 GE420; replace HB := bS2 HB GE419 GE420 hb; have NB419_421 := nlt hg BK419; have NB421_419 := nsy (nlt hg BK419); replace BK419 := bB BK419 hb; have NB420_421 := nlt hg BK420; have NB421_420 := nsy (nlt hg BK420); replace BK420 := bB BK420 hb; clear hb hg; have hnb6 := NB419_420.out; have hnc6 := NB420_419.out; have hnb7 := NB419_421.out; have hnc7 := NB421_419.out; obtain ⟨hcz8_0, hcz8_1, hcz8_2, hcz8_3, hfz8_0, hfz8_1, hfz8_2, hfz8_3⟩ := bz4 BK419; have hnb9 := NB420_421.out; have hnc9 := NB421_420.out; obtain ⟨hcz10_0, hcz10_1, hfz10_0, hfz10_1⟩ := bz2 BK420; obtain ⟨hcz11_0, hcz11_1, hfz11_0, hfz11_1⟩ := bz2 BK421))
 refine bodyPost_ret (results_cell_row rfl _ _ gb421 38 #[.int .i64 (wrap64 ((wrap64 (a0_0 * a1_0)) + (wrap64 (a0_1 * a1_1)))), .int .i64 (wrap64 ((wrap64 (a0_2 * a1_0)) + (wrap64 (a0_3 * a1_1))))] (0, 0) _ rfl (bq0 BK421) Tryz.underlying38 rfl (by kernel_rfl)) rfl ?_
 exact er (bbw3 HB GE419 GE420 GE421)
def impl_Mat_times.f (a0_0 : Int) (a0_1 : Int) (a0_2 : Int) (a0_3 : Int) (a1_0 : Int) (a1_1 : Int) (a1_2 : Int) (a1_3 : Int) : Option (Int × Int × Int × Int) := some (wrap64 ((wrap64 (a0_0 * a1_0)) + (wrap64 (a0_1 * a1_2))), wrap64 ((wrap64 (a0_0 * a1_1)) + (wrap64 (a0_1 * a1_3))), wrap64 ((wrap64 (a0_2 * a1_0)) + (wrap64 (a0_3 * a1_2))), wrap64 ((wrap64 (a0_2 * a1_1)) + (wrap64 (a0_3 * a1_3))))
theorem impl_Mat_times.calls (a0_0 : Int) (a0_1 : Int) (a0_2 : Int) (a0_3 : Int) (a1_0 : Int) (a1_1 : Int) (a1_2 : Int) (a1_3 : Int) (r1 : Int) (r2 : Int) (r3 : Int) (r4 : Int) (w : World) (h : impl_Mat_times.f a0_0 a0_1 a0_2 a0_3 a1_0 a1_1 a1_2 a1_3 = some (r1, r2, r3, r4)) :
  Calls Tryz.prog 108 #[.agg #[.int .i64 a0_0, .int .i64 a0_1, .int .i64 a0_2, .int .i64 a0_3], .agg #[.int .i64 a1_0, .int .i64 a1_1, .int .i64 a1_2, .int .i64 a1_3]] w fun e w' => e = .returned (.agg #[.int .i64 r1, .int .i64 r2, .int .i64 r3, .int .i64 r4]) ∧ Below w.heap.size w w' := by
 have hu46 := Tryz.underlying46
 have HB := asd (Below.refl w.heap.size w)
 have H : (some (wrap64 ((wrap64 (a0_0 * a1_0)) + (wrap64 (a0_1 * a1_2))), wrap64 ((wrap64 (a0_0 * a1_1)) + (wrap64 (a0_1 * a1_3))), wrap64 ((wrap64 (a0_2 * a1_0)) + (wrap64 (a0_3 * a1_2))), wrap64 ((wrap64 (a0_2 * a1_1)) + (wrap64 (a0_3 * a1_3))))) = some (r1, r2, r3, r4) := h
 clear h
 simp only [Option.some.injEq, Prod.mk.injEq] at H
 obtain ⟨rfl, rfl, rfl, rfl⟩ := H
 go_enter Tryz.func108, Tryz.ntmps108
 go_wp2_with (first | ((with_reducible refine gd 2 rfl ?_); refine bx #[.int .i64 a0_0, .int .i64 a0_1, .int .i64 a0_2, .int .i64 a0_3] 46 ?_; intro gb422 hg w3 BK422 hb; have GE422 := ngw0 hg HB; replace HB := bS0 HB hb; clear hb hg) | ((with_reducible refine gd 3 rfl ?_); refine bx #[.int .i64 a1_0, .int .i64 a1_1, .int .i64 a1_2, .int .i64 a1_3] 46 ?_; intro gb423 hg w4 BK423 hb; have GE423 := ngw1 hg HB GE422; replace HB := bS1 HB GE422 hb; have NB422_423 := nlt hg BK422; have NB423_422 := nsy (nlt hg BK422); replace BK422 := bB BK422 hb; clear hb hg) | ((with_reducible refine gd 4 rfl ?_); refine bx #[.int .i64 0, .int .i64 0, .int .i64 0, .int .i64 0] 46 ?_; intro gb424 hg w5 BK424 hb; have GE424 := ngw2 hg HB GE422 GE423; replace HB := bS2 HB GE422 GE423 hb; have NB422_424 := nlt hg BK422; have NB424_422 := nsy (nlt hg BK422); replace BK422 := bB BK422 hb; have NB423_424 := nlt hg BK423; have NB424_423 := nsy (nlt hg BK423); replace BK423 := bB BK423 hb; clear hb hg; have hnb6 := NB422_423.out; have hnc6 := NB423_422.out; have hnb7 := NB422_424.out; have hnc7 := NB424_422.out; obtain ⟨hcz8_0, hcz8_1, hcz8_2, hcz8_3, hfz8_0, hfz8_1, hfz8_2, hfz8_3⟩ := bz4 BK422; have hnb9 := NB423_424.out; have hnc9 := NB424_423.out; obtain ⟨hcz10_0, hcz10_1, hcz10_2, hcz10_3, hfz10_0, hfz10_1, hfz10_2, hfz10_3⟩ := bz4 BK423; obtain ⟨hcz11_0, hcz11_1, hcz11_2, hcz11_3, hfz11_0, hfz11_1, hfz11_2, hfz11_3⟩ := bz4 BK424))
 refine bodyPost_ret (results_cell_row rfl _ _ gb424 46 #[.int .i64 (wrap64 ((wrap64 (a0_0 * a1_0)) + (wrap64 (a0_1 * a1_2)))), .int .i64 (wrap64 ((wrap64 (a0_0 * a1_1)) + (wrap64 (a0_1 * a1_3)))), .int .i64 (wrap64 ((wrap64 (a0_2 * a1_0)) + (wrap64 (a0_3 * a1_2)))), .int .i64 (wrap64 ((wrap64 (a0_2 * a1_1)) + (wrap64 (a0_3 * a1_3))))] (0, 0) _ rfl (bq0 BK424) Tryz.underlying46 rfl (by kernel_rfl)) rfl ?_
 exact er (bbw3 HB GE422 GE423 GE424)
def impl_Motion_times.f (a0_0 : Int) (a0_1 : Int) (a0_2 : Int) (a0_3 : Int) (a0_4 : Int) (a0_5 : Int) (a1_0 : Int) (a1_1 : Int) (a1_2 : Int) (a1_3 : Int) (a1_4 : Int) (a1_5 : Int) : Option (Int × Int × Int × Int × Int × Int) := (impl_Mat_times.f a0_0 a0_1 a0_2 a0_3 a1_0 a1_1 a1_2 a1_3).bind fun bt428 => ((impl_Mat_apply.f a0_0 a0_1 a0_2 a0_3 a1_4 a1_5).bind fun bt432 => ((impl_Vec_add.f bt432.1 bt432.2 a0_4 a0_5).bind fun bt434 => (some (bt428.1, bt428.2.1, bt428.2.2.1, bt428.2.2.2, bt434.1, bt434.2))))
def impl_Motion_times.T1 : Bool × List (List Nat × List Nat) := (true, [([], []), ([0], [0]), ([], []), ([2], [2]), ([1, 3], [1, 3]), ([], []), ([5], [5]), ([], []), ([7], [7]), ([6, 8, 4], [6, 8]), ([], []), ([10], [10]), ([9, 11, 9], [9, 11]), ([4, 12], [4, 12]), ([13, 12, 0, 1, 2, 3, 4, 5, 6, 7, 8, 9, 10, 11, 12, 13], [13])])
def impl_Motion_times.B1 : List Nat := [0, 1, 0, 4, 15, 0, 32, 0, 128, 511, 0, 1024, 4095, 8191, 16383]
theorem impl_Motion_times.tab1 : rtab .any (opsOf Tryz.f73 1) = impl_Motion_times.T1 := by kernel_rfl
theorem impl_Motion_times.bits1 : waitsOk impl_Motion_times.T1.2 impl_Motion_times.B1 = true := by kernel_rfl
theorem impl_Motion_times.calls (a0_0 : Int) (a0_1 : Int) (a0_2 : Int) (a0_3 : Int) (a0_4 : Int) (a0_5 : Int) (a1_0 : Int) (a1_1 : Int) (a1_2 : Int) (a1_3 : Int) (a1_4 : Int) (a1_5 : Int) (r1 : Int) (r2 : Int) (r3 : Int) (r4 : Int) (r5 : Int) (r6 : Int) (w : World) (h : impl_Motion_times.f a0_0 a0_1 a0_2 a0_3 a0_4 a0_5 a1_0 a1_1 a1_2 a1_3 a1_4 a1_5 = some (r1, r2, r3, r4, r5, r6)) :
  Calls Tryz.prog 73 #[.agg #[.int .i64 a0_0, .int .i64 a0_1, .int .i64 a0_2, .int .i64 a0_3, .int .i64 a0_4, .int .i64 a0_5], .agg #[.int .i64 a1_0, .int .i64 a1_1, .int .i64 a1_2, .int .i64 a1_3, .int .i64 a1_4, .int .i64 a1_5]] w fun e w' => e = .returned (.agg #[.int .i64 r1, .int .i64 r2, .int .i64 r3, .int .i64 r4, .int .i64 r5, .int .i64 r6]) ∧ Below w.heap.size w w' := by
 have hu48 := Tryz.underlying48
 have hu46 := Tryz.underlying46
 have hu38 := Tryz.underlying38
 have HB := asd (Below.refl w.heap.size w)
 have H : ((impl_Mat_times.f a0_0 a0_1 a0_2 a0_3 a1_0 a1_1 a1_2 a1_3).bind fun bt428 => ((impl_Mat_apply.f a0_0 a0_1 a0_2 a0_3 a1_4 a1_5).bind fun bt432 => ((impl_Vec_add.f bt432.1 bt432.2 a0_4 a0_5).bind fun bt434 => (some (bt428.1, bt428.2.1, bt428.2.2.1, bt428.2.2.2, bt434.1, bt434.2))))) = some (r1, r2, r3, r4, r5, r6) := h
 clear h
 obtain ⟨⟨t428, t429, t430, t431⟩, A3, H⟩ := ob H
 try dsimp only at H
 obtain ⟨⟨t432, t433⟩, A4, H⟩ := ob H
 try dsimp only at H
 obtain ⟨⟨t434, t435⟩, A5, H⟩ := ob H
 try dsimp only at H
 simp only [Option.some.injEq, Prod.mk.injEq] at H
 obtain ⟨rfl, rfl, rfl, rfl, rfl, rfl⟩ := H
 go_enter Tryz.func73, Tryz.ntmps73
 try go_wp2_with (first | ((with_reducible refine gd 2 rfl ?_); refine bx #[.int .i64 a0_0, .int .i64 a0_1, .int .i64 a0_2, .int .i64 a0_3, .int .i64 a0_4, .int .i64 a0_5] 48 ?_; intro gb425 hg w6 BK425 hb; have GE425 := ngw0 hg HB; replace HB := bS0 HB hb; clear hb hg) | ((with_reducible refine gd 3 rfl ?_); refine bx #[.int .i64 a1_0, .int .i64 a1_1, .int .i64 a1_2, .int .i64 a1_3, .int .i64 a1_4, .int .i64 a1_5] 48 ?_; intro gb426 hg w7 BK426 hb; have GE426 := ngw1 hg HB GE425; replace HB := bS1 HB GE425 hb; have NB425_426 := nlt hg BK425; have NB426_425 := nsy (nlt hg BK425); replace BK425 := bB BK425 hb; clear hb hg) | ((with_reducible refine gd 4 rfl ?_); refine bx #[.int .i64 0, .int .i64 0, .int .i64 0, .int .i64 0, .int .i64 0, .int .i64 0] 48 ?_; intro gb427 hg w8 BK427 hb; have GE427 := ngw2 hg HB GE425 GE426; replace HB := bS2 HB GE425 GE426 hb; have NB425_427 := nlt hg BK425; have NB427_425 := nsy (nlt hg BK425); replace BK425 := bB BK425 hb; have NB426_427 := nlt hg BK426; have NB427_426 := nsy (nlt hg BK426); replace BK426 := bB BK426 hb; clear hb hg))
 replace BK425 := asd (blk_drew BK425.out)
 replace BK426 := asd (blk_drew BK426.out)
 replace BK427 := asd (blk_drew BK427.out)
 replace HB := asd (below_drew1 HB.out)
 refine sh 15 (cb6 BK425 (eb6 BK426)) (fun hHeld => ?_); refine with_tabW impl_Motion_times.tab1 impl_Motion_times.bits1 (fun HT_ HW_ => ?_)
 generalize w8.drew = w9 at BK425 BK426 BK427 HB hHeld ⊢
 refine pu 0 (some 5) (bT 15 1) HT_ ?_
 refine pu 2 (some 7) (bs 15 5) HT_ ?_
 refine pu 5 (some 10) (bs 15 37) HT_ ?_
 refine pu 7 (some 12) (bs 15 165) HT_ ?_
 refine pu 10 (some 15) (bs 15 1189) HT_ ?_
 refine ta 1 (some 6) (bs 15 1191) HT_ HW_ hHeld ?_
 refine ta 3 (some 8) (bs 15 1199) HT_ HW_ hHeld ?_
 refine ta 6 (some 11) (bs 15 1263) HT_ HW_ hHeld ?_
 refine ta 8 (some 13) (bs 15 1519) HT_ HW_ hHeld ?_
 refine ta 11 (some 16) (bs 15 3567) HT_ HW_ hHeld ?_
 refine ro 4 (some 9) (bs 15 3583) HT_ (fun K hK => ?_)
 refine gs Tryz.func108 #[.agg #[.int .i64 a0_0, .int .i64 a0_1, .int .i64 a0_2, .int .i64 a0_3], .agg #[.int .i64 a1_0, .int .i64 a1_1, .int .i64 a1_2, .int .i64 a1_3]] ?_
 with_reducible refine (impl_Mat_times.calls _ _ _ _ _ _ _ _ _ _ _ _ _ A3.out).mono ?_
 rintro e w10 ⟨rfl, hb⟩
 refine ⟨_, rfl, ?_⟩
 replace BK425 := bB BK425 hb
 replace BK426 := bB BK426 hb
 replace BK427 := bB BK427 hb
 replace HB := bS3 HB GE425 GE426 GE427 hb
 (try clear hb)
 (try clear hb2)
 (try clear hk)
 (try clear hi)
 refine hK.out _ _ (cb6 BK425 (eb6 BK426)).out (fun hHeld => ?_)
 clear hK K
 refine norm_ (a' := ?_) ?_ ?_
 rotate_left
 ·show Act.put _ (some 9) _ = _
  simp only [Act.put, sA, sB, sC, i64_w, i32_w]
  rfl
 refine ro 9 (some 14) (bT 15 12) HT_ (fun K hK => ?_)
 refine gs Tryz.func84 #[.agg #[.int .i64 a0_0, .int .i64 a0_1, .int .i64 a0_2, .int .i64 a0_3], .agg #[.int .i64 a1_4, .int .i64 a1_5]] ?_
 with_reducible refine (impl_Mat_apply.calls _ _ _ _ _ _ _ _ _ A4.out).mono ?_
 rintro e w11 ⟨rfl, hb⟩
 refine ⟨_, rfl, ?_⟩
 replace BK425 := bB BK425 hb
 replace BK426 := bB BK426 hb
 replace BK427 := bB BK427 hb
 replace HB := bS3 HB GE425 GE426 GE427 hb
 (try clear hb)
 (try clear hb2)
 (try clear hk)
 (try clear hi)
 refine hK.out _ _ (cb6 BK425 (eb6 BK426)).out (fun hHeld => ?_)
 clear hK K
 refine norm_ (a' := ?_) ?_ ?_
 rotate_left
 ·show Act.put _ (some 14) _ = _
  simp only [Act.put, sA, sB, sC, i64_w, i32_w]
  rfl
 refine ro 12 (some 17) (bT 15 13) HT_ (fun K hK => ?_)
 refine gs Tryz.func83 #[.agg #[.int .i64 t432, .int .i64 t433], .agg #[.int .i64 a0_4, .int .i64 a0_5]] ?_
 with_reducible refine (impl_Vec_add.calls _ _ _ _ _ _ _ A5.out).mono ?_
 rintro e w12 ⟨rfl, hb⟩
 refine ⟨_, rfl, ?_⟩
 replace BK425 := bB BK425 hb
 replace BK426 := bB BK426 hb
 replace BK427 := bB BK427 hb
 replace HB := bS3 HB GE425 GE426 GE427 hb
 (try clear hb)
 (try clear hb2)
 (try clear hk)
 (try clear hi)
 refine hK.out _ _ (cb6 BK425 (eb6 BK426)).out (fun hHeld => ?_)
 clear hK K
 refine norm_ (a' := ?_) ?_ ?_
 rotate_left
 ·show Act.put _ (some 17) _ = _
  simp only [Act.put, sA, sB, sC, i64_w, i32_w]
  rfl
 refine pu 13 (some 18) (bT 15 14) HT_ ?_
 refine ro 14 (none) (bT 15 15) HT_ (fun K hK => ?_)
 have hs13 : w12.cell? ⟨gb427, 0, none⟩ = some (.int .i64 0) := bcl BK427 0
 have hfs13 := blk_frozen BK427.out 0
 have hns13_0 := NB425_427.out
 have hns13_1 := NB426_427.out
 have hms13_0 := NB427_425.out
 have hms13_1 := NB427_426.out
 have hs14 : w12.cell? ⟨gb427, 1, none⟩ = some (.int .i64 0) := bcl BK427 1
 have hfs14 := blk_frozen BK427.out 1
 have hns14_0 := NB425_427.out
 have hns14_1 := NB426_427.out
 have hms14_0 := NB427_425.out
 have hms14_1 := NB427_426.out
 have hs15 : w12.cell? ⟨gb427, 2, none⟩ = some (.int .i64 0) := bcl BK427 2
 have hfs15 := blk_frozen BK427.out 2
 have hns15_0 := NB425_427.out
 have hns15_1 := NB426_427.out
 have hms15_0 := NB427_425.out
 have hms15_1 := NB427_426.out
 have hs16 : w12.cell? ⟨gb427, 3, none⟩ = some (.int .i64 0) := bcl BK427 3
 have hfs16 := blk_frozen BK427.out 3
 have hns16_0 := NB425_427.out
 have hns16_1 := NB426_427.out
 have hms16_0 := NB427_425.out
 have hms16_1 := NB427_426.out
 have hs17 : w12.cell? ⟨gb427, 4, none⟩ = some (.int .i64 0) := bcl BK427 4
 have hfs17 := blk_frozen BK427.out 4
 have hns17_0 := NB425_427.out
 have hns17_1 := NB426_427.out
 have hms17_0 := NB427_425.out
 have hms17_1 := NB427_426.out
 have hs18 : w12.cell? ⟨gb427, 5, none⟩ = some (.int .i64 0) := bcl BK427 5
 have hfs18 := blk_frozen BK427.out 5
 have hns18_0 := NB425_427.out
 have hns18_1 := NB426_427.out
 have hms18_0 := NB427_425.out
 have hms18_1 := NB427_426.out
 refine skip_ (w1 := ?_) (by rfl) rfl ?_ ?_
 rotate_left
 ·go_simp
  rfl
 refine hK.out _ _ ⟨(cf6 NB425_427 (hHeld.1)), (cf6 NB425_427 (hHeld.2.1)), (cf6 NB425_427 (hHeld.2.2.1)), (cf6 NB425_427 (hHeld.2.2.2.1)), (cf6 NB425_427 (hHeld.2.2.2.2.1)), (cf6 NB425_427 (hHeld.2.2.2.2.2.1)), (cf6 NB426_427 (hHeld.2.2.2.2.2.2.1)), (cf6 NB426_427 (hHeld.2.2.2.2.2.2.2.1)), (cf6 NB426_427 (hHeld.2.2.2.2.2.2.2.2.1)), (cf6 NB426_427 (hHeld.2.2.2.2.2.2.2.2.2.1)), (cf6 NB426_427 (hHeld.2.2.2.2.2.2.2.2.2.2.1)), (cf6 NB426_427 (hHeld.2.2.2.2.2.2.2.2.2.2.2))⟩ (fun hHeld => ?_)
 clear hK K
 refine done_ (done_of HT_.out (by kernel_rfl)) ?_
 try go_wp2
 refine bodyPost_ret (results_cell_row rfl _ _ gb427 48 #[.int .i64 t428, .int .i64 t429, .int .i64 t430, .int .i64 t431, .int .i64 t434, .int .i64 t435] (0, 0) _ rfl (bq0 BK427) Tryz.underlying48 rfl (by kernel_rfl)) rfl ?_
 exact er (bbw3 HB GE425 GE426 GE427)
def impl_compareNumbers.l0 : Nat → List Int → List Int → Int → Int → Option (Int)
 | 0, _, _, _, _ => none
 | k + 1, x0, x1, x7, x8 => if x8 < x7 then (if 0 ≤ x8 then (if x8 < (x0.length : Int) then (if x8 < (x1.length : Int) then (if (rd x0 x8) = (rd x1 x8) then (impl_compareNumbers.l0 k x0 x1 x7 (wrap64 (x8 + 1))) else (if (rd x0 x8) < (rd x1 x8) then (some (-1)) else (some 1))) else (none)) else (none)) else (none)) else (some 0)
def impl_compareNumbers.f (k : Nat) (l0 : List Int) (l1 : List Int) : Option (Int) := impl_compareNumbers.l0 k l0 l1 (l0.length : Int) 0
theorem impl_compareNumbers.calls (k : Nat) (A0 : Option Addr) (c0 : Nat) (l0 : List Int) (A1 : Option Addr) (c1 : Nat) (l1 : List Int) (r : Int) (w : World) (hr0 : Kd.C (Kd.int .i64) w A0 l0.length l0) (hc0 : l0.length ≤ c0) (hr1 : Kd.C (Kd.int .i64) w A1 l1.length l1) (hc1 : l1.length ≤ c1) (h : impl_compareNumbers.f k l0 l1 = some r) :
  Calls Tryz.prog 133 #[.slice A0 l0.length c0, .slice A1 l1.length c1] w fun e w' => e = .returned (.int .i64 r) ∧ Drawn0 w w' := by
 have HR0 := Aside0.mk hr0
 have HC0 := Aside0.mk hc0
 clear hr0 hc0
 have HR1 := Aside0.mk hr1
 have HC1 := Aside0.mk hc1
 clear hr1 hc1
 have H : (impl_compareNumbers.l0 k l0 l1 (l0.length : Int) 0) = some r := h
 clear h
 have H' := Aside0.mk H
 clear H
 go_enter Tryz.func133, Tryz.ntmps133
 go_wp2
 repeat (go_quiet (fail); try go_wp2)
 go_loopg [8] k (fun kq v8 w' => ∃ (x8_1 : Int), v8 = .int .i64 x8_1 ∧ Aside0 (impl_compareNumbers.l0 kq l0 l1 (l0.length : Int) x8_1 = some r) ∧ Aside0 (kq ≤ k) ∧ Drawn0 w w')
 case atStart => exact ⟨(0), (by first | rfl | (simp; done) | (simp [*]; done)), H', ⟨Nat.le_refl _⟩, by repeat (first | exact Drawn0.refl _ | apply Drawn0.step)⟩
 case round =>
  clear H'
  try clear c1
  try clear p2
  obtain ⟨x8_1, rfl, HA, HK1, ⟨m1, rfl⟩⟩ := hrel
  cases gk with
  | zero => exact absurd HA.out (by simp [impl_compareNumbers.l0])
  | succ k1 =>
   have H := HA.out
   clear HA
   simp only [impl_compareNumbers.l0] at H
   by_cases c3 : x8_1 < (l0.length : Int)
   rw [if_pos c3] at H
   have c3b0 := decide_eq_true c3
   clear c3
   by_cases c4 : 0 ≤ x8_1
   rw [if_pos c4] at H
   have c4b0 := decide_eq_true c4
   clear c4
   by_cases c5 : x8_1 < (l0.length : Int)
   rw [if_pos c5] at H
   have c5b0 := decide_eq_true c5
   clear c5
   by_cases c6 : x8_1 < (l1.length : Int)
   rw [if_pos c6] at H
   have c6b0 := decide_eq_true c6
   clear c6
   by_cases c7 : (rd l0 x8_1) = (rd l1 x8_1)
   rw [if_pos c7] at H
   have c7b0 : ((rd l0 x8_1) == (rd l1 x8_1)) = true := beq_iff_eq.mpr c7
   have c7b1 : ((rd l0 x8_1) != (rd l1 x8_1)) = false := bne_eq_false_iff_eq.mpr c7
   clear c7
   have H' := Aside0.mk H
   clear H
   rotate_left
   rw [if_neg c7] at H
   have c7b0 : ((rd l0 x8_1) == (rd l1 x8_1)) = false := beq_eq_false_iff_ne.mpr c7
   have c7b1 : ((rd l0 x8_1) != (rd l1 x8_1)) = true := bne_iff_ne.mpr c7
   by_cases c8 : (rd l0 x8_1) < (rd l1 x8_1)
   rw [if_pos c8] at H
   have c8b0 := decide_eq_true c8
   clear c8
   obtain rfl := Option.some.inj H
   rotate_left
   rw [if_neg c8] at H
   have c8b0 := decide_eq_false c8
   clear c8
   obtain rfl := Option.some.inj H
   rotate_left
   ·rw [if_neg c6] at H
    exact absurd H (by simp)
   ·rw [if_neg c5] at H
    exact absurd H (by simp)
   ·rw [if_neg c4] at H
    exact absurd H (by simp)
   rw [if_neg c3] at H
   have c3b0 := decide_eq_false c3
   clear c3
   obtain rfl := Option.some.inj H
   rotate_left
   rotate_left 3
   ·go_wp2
    repeat (go_quiet (fail); try go_wp2)
    go_ret
    exact ⟨by first | rfl | (simp; done) | (simp [*]; done), by repeat (first | exact Drawn0.refl _ | apply Drawn0.step)⟩
   all_goals
    have p436 : 0 ≤ (x8_1 : Int) := od
    have q436 : x8_1 < (l0.length : Int) := od
    obtain ⟨ad436, e436, hx436_0⟩ := Kd.at_int HR0.out x8_1 p436 q436
    cases e436
    replace p436 := eq_true p436
    replace q436 := eq_true q436
    have p437 : 0 ≤ (x8_1 : Int) := od
    have q437 : x8_1 < (l1.length : Int) := od
    obtain ⟨ad437, e437, hx437_0⟩ := Kd.at_int HR1.out x8_1 p437 q437
    cases e437
    replace p437 := eq_true p437
    replace q437 := eq_true q437
   ·go_wp2
    repeat (go_quiet (fail); try go_wp2)
    go_roundg k1
    case measure => have := HK1.out; omega
    case rel => exact ⟨(wrap64 (x8_1 + 1)), (by first | rfl | (simp; done) | (simp [*]; done)), H', ⟨by have := HK1.out; omega⟩, by repeat (first | exact Drawn0.refl _ | apply Drawn0.step)⟩
   rotate_left 2
   all_goals
    have p438 : 0 ≤ (x8_1 : Int) := od
    have q438 : x8_1 < (l0.length : Int) := od
    obtain ⟨ad438, e438, hx438_0⟩ := Kd.at_int HR0.out x8_1 p438 q438
    obtain rfl : ad436 = ad438 := (by injection e438)
    replace p438 := eq_true p438
    replace q438 := eq_true q438
    have p439 : 0 ≤ (x8_1 : Int) := od
    have q439 : x8_1 < (l1.length : Int) := od
    obtain ⟨ad439, e439, hx439_0⟩ := Kd.at_int HR1.out x8_1 p439 q439
    obtain rfl : ad437 = ad439 := (by injection e439)
    replace p439 := eq_true p439
    replace q439 := eq_true q439
    go_wp2
    repeat (go_quiet (fail); try go_wp2)
    go_ret
    exact ⟨by first | rfl | (simp; done) | (simp [*]; done), by repeat (first | exact Drawn0.refl _ | apply Drawn0.step)⟩
def impl_compareMats.f (k : Nat) (a0_0 : Int) (a0_1 : Int) (a0_2 : Int) (a0_3 : Int) (a1_0 : Int) (a1_1 : Int) (a1_2 : Int) (a1_3 : Int) : Option (Int) := (impl_compareNumbers.f k (([a0_0, a0_1, a0_2, a0_3] : List Int)) (([a1_0, a1_1, a1_2, a1_3] : List Int))).bind fun t448 => (some t448)
theorem impl_compareMats.calls (k : Nat) (a0_0 : Int) (a0_1 : Int) (a0_2 : Int) (a0_3 : Int) (a1_0 : Int) (a1_1 : Int) (a1_2 : Int) (a1_3 : Int) (r : Int) (w : World) (h : impl_compareMats.f k a0_0 a0_1 a0_2 a0_3 a1_0 a1_1 a1_2 a1_3 = some r) :
  Calls Tryz.prog 111 #[.agg #[.int .i64 a0_0, .int .i64 a0_1, .int .i64 a0_2, .int .i64 a0_3], .agg #[.int .i64 a1_0, .int .i64 a1_1, .int .i64 a1_2, .int .i64 a1_3]] w fun e w' => e = .returned (.int .i64 r) ∧ Below w.heap.size w w' := by
 have hu46 := Tryz.underlying46
 have HB := asd (Below.refl w.heap.size w)
 have H : ((impl_compareNumbers.f k (([a0_0, a0_1, a0_2, a0_3] : List Int)) (([a1_0, a1_1, a1_2, a1_3] : List Int))).bind fun t448 => (some t448)) = some r := h
 clear h
 obtain ⟨y442, hy442⟩ : ∃ y_ : List Int, y_ = (([a0_0, a0_1, a0_2, a0_3] : List Int)) := ⟨_, rfl⟩
 replace H : ((impl_compareNumbers.f k y442 (([a1_0, a1_1, a1_2, a1_3] : List Int))).bind fun t448 => (some t448)) = some r := by first | (rw [hy442]; with_reducible exact H) | (have H2_ := (Option.bind_some _ _).symm.trans H; rw [hy442]; with_reducible exact H2_) | (have H2_ := (Option.bind_some _ _).symm.trans H; with_reducible exact H2_) | with_reducible exact H | (rw [hy442]; exact H) | exact H
 have Ny442 := Aside0.mk hy442
 clear hy442
 obtain ⟨y445, hy445⟩ : ∃ y_ : List Int, y_ = (([a1_0, a1_1, a1_2, a1_3] : List Int)) := ⟨_, rfl⟩
 replace H : ((impl_compareNumbers.f k y442 y445).bind fun t448 => (some t448)) = some r := by first | (rw [hy445]; with_reducible exact H) | (have H2_ := (Option.bind_some _ _).symm.trans H; rw [hy445]; with_reducible exact H2_) | (have H2_ := (Option.bind_some _ _).symm.trans H; with_reducible exact H2_) | with_reducible exact H | (rw [hy445]; exact H) | exact H
 have Ny445 := Aside0.mk hy445
 clear hy445
 obtain ⟨t448, A3, H⟩ := ob H
 try dsimp only at H
 obtain rfl := Option.some.inj H
 go_enter Tryz.func111, Tryz.ntmps111
 go_wp2_with (first | ((with_reducible refine gd 2 rfl ?_); refine bx #[.int .i64 a0_0, .int .i64 a0_1, .int .i64 a0_2, .int .i64 a0_3] 46 ?_; intro gb440 hg w4 BK440 hb; have GE440 := ngw0 hg HB; replace HB := bS0 HB hb; clear hb hg) | ((with_reducible refine gd 3 rfl ?_); refine bx #[.int .i64 a1_0, .int .i64 a1_1, .int .i64 a1_2, .int .i64 a1_3] 46 ?_; intro gb441 hg w5 BK441 hb; have GE441 := ngw1 hg HB GE440; replace HB := bS1 HB GE440 hb; have NB440_441 := nlt hg BK440; have NB441_440 := nsy (nlt hg BK440); replace BK440 := bB BK440 hb; clear hb hg; have hnb6 := NB440_441.out; have hnc6 := NB441_440.out; obtain ⟨hcz7_0, hcz7_1, hcz7_2, hcz7_3, hfz7_0, hfz7_1, hfz7_2, hfz7_3⟩ := bz4 BK440) | ((with_reducible refine gd 13 rfl ?_); refine Kd.R_lit (Kd.int .i64) _ 2 ?hg (N := 13) ?hd (xs := ([a0_0, a0_1, a0_2, a0_3] : List Int)) (inner := [.int .i64 a0_0, .int .i64 a0_1, .int .i64 a0_2, .int .i64 a0_3]) (ok := fun _ => True) (okp := fun _ => True) ?hr ?hp (fun _ hk => hk) trivial (Below.refl _ _) (Nat.le_refl _) (by simp) ?_; (case hd => rfl); (case hg => rfl); (case hr => first | (go_simp; done) | (go_simp; rfl)); (case hp => exact (Reps.one (show Kd.M (Kd.int .i64) _ _ _ a0_0 [.int .i64 a0_0] from rfl) (Reps.one (show Kd.M (Kd.int .i64) _ _ _ a0_1 [.int .i64 a0_1] from rfl) (Reps.one (show Kd.M (Kd.int .i64) _ _ _ a0_2 [.int .i64 a0_2] from rfl) (Reps.one (show Kd.M (Kd.int .i64) _ _ _ a0_3 [.int .i64 a0_3] from rfl) (Reps.none _ _)))))); intro v443 w8 ho9 hb hg_ hnew_; clear hg_ hnew_; (first | rw [← Ny442.out] at ho9 | (simp only [Int.reduceToNat] at ho9; rw [← Ny442.out] at ho9)); have HO444 := asd (Kd.R_lower ho9 (bsz2 HB GE440 GE441)); replace BK440 := bB BK440 hb; replace BK441 := bB BK441 hb; replace HB := bS2 HB GE440 GE441 hb; clear hb ho9; obtain ⟨hcz10_0, hcz10_1, hcz10_2, hcz10_3, hfz10_0, hfz10_1, hfz10_2, hfz10_3⟩ := bz4 BK441) | ((with_reducible refine gd 22 rfl ?_); refine Kd.R_lit (Kd.int .i64) _ 2 ?hg (N := 22) ?hd (xs := ([a1_0, a1_1, a1_2, a1_3] : List Int)) (inner := [.int .i64 a1_0, .int .i64 a1_1, .int .i64 a1_2, .int .i64 a1_3]) (ok := fun _ => True) (okp := fun _ => True) ?hr ?hp (fun _ hk => hk) trivial (Below.refl _ _) (Nat.le_refl _) (by simp) ?_; (case hd => rfl); (case hg => rfl); (case hr => first | (go_simp; done) | (go_simp; rfl)); (case hp => exact (Reps.one (show Kd.M (Kd.int .i64) _ _ _ a1_0 [.int .i64 a1_0] from rfl) (Reps.one (show Kd.M (Kd.int .i64) _ _ _ a1_1 [.int .i64 a1_1] from rfl) (Reps.one (show Kd.M (Kd.int .i64) _ _ _ a1_2 [.int .i64 a1_2] from rfl) (Reps.one (show Kd.M (Kd.int .i64) _ _ _ a1_3 [.int .i64 a1_3] from rfl) (Reps.none _ _)))))); intro v446 w11 ho12 hb hg_ hnew_; clear hg_ hnew_; (first | rw [← Ny445.out] at ho12 | (simp only [Int.reduceToNat] at ho12; rw [← Ny445.out] at ho12)); have HO447 := asd (Kd.R_lower (Kd.R_new' ho12 (Kd.R_lt (kr HO444))) (bsz2 HB GE440 GE441)); replace HO444 := asd (Kd.R_elder' (kr HO444) (Kd.R_base ho12) hb); replace BK440 := bB BK440 hb; replace BK441 := bB BK441 hb; replace HB := bS2 HB GE440 GE441 hb; clear hb ho12; obtain ⟨Ao13, co13, eo13⟩ := Kd.R_slice HO444.out; subst eo13; obtain ⟨Ao14, co14, eo14⟩ := Kd.R_slice HO447.out; subst eo14) | ((with_reducible refine gate_callee (f := 133) rfl ?_); refine gl 23 Tryz.func133 #[.slice Ao13 y442.length co13, .slice Ao14 y445.length co14] ?_; (with_reducible refine (impl_compareNumbers.calls _ _ _ _ _ _ _ _ _ ?side1 ?side2 ?side3 ?side4 A3.out).mono ?_); (case side1 => exact ks (Kd.R_reads' HO444.out).2.2); (case side2 => exact (Kd.R_reads' HO444.out).2.1); (case side3 => exact ks (Kd.R_reads' HO447.out).2.2); (case side4 => exact (Kd.R_reads' HO447.out).2.1); rintro e w' ⟨rfl, ⟨nd, rfl⟩⟩; refine ⟨_, rfl, ?_⟩))
 go_ret
 exact er (bbw2 HB GE440 GE441)
def impl_compareVecs.f (k : Nat) (a0_0 : Int) (a0_1 : Int) (a1_0 : Int) (a1_1 : Int) : Option (Int) := (impl_compareNumbers.f k (([a0_0, a0_1] : List Int)) (([a1_0, a1_1] : List Int))).bind fun t457 => (some t457)
theorem impl_compareVecs.calls (k : Nat) (a0_0 : Int) (a0_1 : Int) (a1_0 : Int) (a1_1 : Int) (r : Int) (w : World) (h : impl_compareVecs.f k a0_0 a0_1 a1_0 a1_1 = some r) :
  Calls Tryz.prog 112 #[.agg #[.int .i64 a0_0, .int .i64 a0_1], .agg #[.int .i64 a1_0, .int .i64 a1_1]] w fun e w' => e = .returned (.int .i64 r) ∧ Below w.heap.size w w' := by
 have hu38 := Tryz.underlying38
 have HB := asd (Below.refl w.heap.size w)
 have H : ((impl_compareNumbers.f k (([a0_0, a0_1] : List Int)) (([a1_0, a1_1] : List Int))).bind fun t457 => (some t457)) = some r := h
 clear h
 obtain ⟨y451, hy451⟩ : ∃ y_ : List Int, y_ = (([a0_0, a0_1] : List Int)) := ⟨_, rfl⟩
 replace H : ((impl_compareNumbers.f k y451 (([a1_0, a1_1] : List Int))).bind fun t457 => (some t457)) = some r := by first | (rw [hy451]; with_reducible exact H) | (have H2_ := (Option.bind_some _ _).symm.trans H; rw [hy451]; with_reducible exact H2_) | (have H2_ := (Option.bind_some _ _).symm.trans H; with_reducible exact H2_) | with_reducible exact H | (rw [hy451]; exact H) | exact H
 have Ny451 := Aside0.mk hy451
 clear hy451
 obtain ⟨y454, hy454⟩ : ∃ y_ : List Int, y_ = (([a1_0, a1_1] : List Int)) := ⟨_, rfl⟩
 replace H : ((impl_compareNumbers.f k y451 y454).bind fun t457 => (some t457)) = some r := by first | (rw [hy454]; with_reducible exact H) | (have H2_ := (Option.bind_some _ _).symm.trans H; rw [hy454]; with_reducible exact H2_) | (have H2_ := (Option.bind_some _ _).symm.trans H; with_reducible exact H2_) | with_reducible exact H | (rw [hy454]; exact H) | exact H
 have Ny454 := Aside0.mk hy454
 clear hy454
 obtain ⟨t457, A3, H⟩ := ob H
 try dsimp only at H
 obtain rfl := Option.some.inj H
 go_enter Tryz.func112, Tryz.ntmps112
 go_wp2_with (first | ((with_reducible refine gd 2 rfl ?_); refine bx #[.int .i64 a0_0, .int .i64 a0_1] 38 ?_; intro gb449 hg w4 BK449 hb; have GE449 := ngw0 hg HB; replace HB := bS0 HB hb; clear hb hg) | ((with_reducible refine gd 3 rfl ?_); refine bx #[.int .i64 a1_0, .int .i64 a1_1] 38 ?_; intro gb450 hg w5 BK450 hb; have GE450 := ngw1 hg HB GE449; replace HB := bS1 HB GE449 hb; have NB449_450 := nlt hg BK449; have NB450_449 := nsy (nlt hg BK449); replace BK449 := bB BK449 hb; clear hb hg; have hnb6 := NB449_450.out; have hnc6 := NB450_449.out; obtain ⟨hcz7_0, hcz7_1, hfz7_0, hfz7_1⟩ := bz2 BK449) | ((with_reducible refine gd 9 rfl ?_); refine Kd.R_lit (Kd.int .i64) _ 2 ?hg (N := 9) ?hd (xs := ([a0_0, a0_1] : List Int)) (inner := [.int .i64 a0_0, .int .i64 a0_1]) (ok := fun _ => True) (okp := fun _ => True) ?hr ?hp (fun _ hk => hk) trivial (Below.refl _ _) (Nat.le_refl _) (by simp) ?_; (case hd => rfl); (case hg => rfl); (case hr => first | (go_simp; done) | (go_simp; rfl)); (case hp => exact (Reps.one (show Kd.M (Kd.int .i64) _ _ _ a0_0 [.int .i64 a0_0] from rfl) (Reps.one (show Kd.M (Kd.int .i64) _ _ _ a0_1 [.int .i64 a0_1] from rfl) (Reps.none _ _)))); intro v452 w8 ho9 hb hg_ hnew_; clear hg_ hnew_; (first | rw [← Ny451.out] at ho9 | (simp only [Int.reduceToNat] at ho9; rw [← Ny451.out] at ho9)); have HO453 := asd (Kd.R_lower ho9 (bsz2 HB GE449 GE450)); replace BK449 := bB BK449 hb; replace BK450 := bB BK450 hb; replace HB := bS2 HB GE449 GE450 hb; clear hb ho9; obtain ⟨hcz10_0, hcz10_1, hfz10_0, hfz10_1⟩ := bz2 BK450) | ((with_reducible refine gd 14 rfl ?_); refine Kd.R_lit (Kd.int .i64) _ 2 ?hg (N := 14) ?hd (xs := ([a1_0, a1_1] : List Int)) (inner := [.int .i64 a1_0, .int .i64 a1_1]) (ok := fun _ => True) (okp := fun _ => True) ?hr ?hp (fun _ hk => hk) trivial (Below.refl _ _) (Nat.le_refl _) (by simp) ?_; (case hd => rfl); (case hg => rfl); (case hr => first | (go_simp; done) | (go_simp; rfl)); (case hp => exact (Reps.one (show Kd.M (Kd.int .i64) _ _ _ a1_0 [.int .i64 a1_0] from rfl) (Reps.one (show Kd.M (Kd.int .i64) _ _ _ a1_1 [.int .i64 a1_1] from rfl) (Reps.none _ _)))); intro v455 w11 ho12 hb hg_ hnew_; clear hg_ hnew_; (first | rw [← Ny454.out] at ho12 | (simp only [Int.reduceToNat] at ho12; rw [← Ny454.out] at ho12)); have HO456 := asd (Kd.R_lower (Kd.R_new' ho12 (Kd.R_lt (kr HO453))) (bsz2 HB GE449 GE450)); replace HO453 := asd (Kd.R_elder' (kr HO453) (Kd.R_base ho12) hb); replace BK449 := bB BK449 hb; replace BK450 := bB BK450 hb; replace HB := bS2 HB GE449 GE450 hb; clear hb ho12; obtain ⟨Ao13, co13, eo13⟩ := Kd.R_slice HO453.out; subst eo13; obtain ⟨Ao14, co14, eo14⟩ := Kd.R_slice HO456.out; subst eo14) | ((with_reducible refine gate_callee (f := 133) rfl ?_); refine gl 15 Tryz.func133 #[.slice Ao13 y451.length co13, .slice Ao14 y454.length co14] ?_; (with_reducible refine (impl_compareNumbers.calls _ _ _ _ _ _ _ _ _ ?side1 ?side2 ?side3 ?side4 A3.out).mono ?_); (case side1 => exact ks (Kd.R_reads' HO453.out).2.2); (case side2 => exact (Kd.R_reads' HO453.out).2.1); (case side3 => exact ks (Kd.R_reads' HO456.out).2.2); (case side4 => exact (Kd.R_reads' HO456.out).2.1); rintro e w' ⟨rfl, ⟨nd, rfl⟩⟩; refine ⟨_, rfl, ?_⟩))
 go_ret
 exact er (bbw2 HB GE449 GE450)
def impl_compareMotions.f (k : Nat) (a0_0 : Int) (a0_1 : Int) (a0_2 : Int) (a0_3 : Int) (a0_4 : Int) (a0_5 : Int) (a1_0 : Int) (a1_1 : Int) (a1_2 : Int) (a1_3 : Int) (a1_4 : Int) (a1_5 : Int) : Option (Int) := (impl_compareMats.f k a0_0 a0_1 a0_2 a0_3 a1_0 a1_1 a1_2 a1_3).bind fun t460 => (if t460 = 0 then ((impl_compareVecs.f k a0_4 a0_5 a1_4 a1_5).bind fun t461 => (some t461)) else (some t460))
theorem impl_compareMotions.calls (k : Nat) (a0_0 : Int) (a0_1 : Int) (a0_2 : Int) (a0_3 : Int) (a0_4 : Int) (a0_5 : Int) (a1_0 : Int) (a1_1 : Int) (a1_2 : Int) (a1_3 : Int) (a1_4 : Int) (a1_5 : Int) (r : Int) (w : World) (h : impl_compareMotions.f k a0_0 a0_1 a0_2 a0_3 a0_4 a0_5 a1_0 a1_1 a1_2 a1_3 a1_4 a1_5 = some r) :
  Calls Tryz.prog 75 #[.agg #[.int .i64 a0_0, .int .i64 a0_1, .int .i64 a0_2, .int .i64 a0_3, .int .i64 a0_4, .int .i64 a0_5], .agg #[.int .i64 a1_0, .int .i64 a1_1, .int .i64 a1_2, .int .i64 a1_3, .int .i64 a1_4, .int .i64 a1_5]] w fun e w' => e = .returned (.int .i64 r) ∧ Below w.heap.size w w' := by
 have hu48 := Tryz.underlying48
 have hu46 := Tryz.underlying46
 have hu38 := Tryz.underlying38
 have HB := asd (Below.refl w.heap.size w)
 have H : ((impl_compareMats.f k a0_0 a0_1 a0_2 a0_3 a1_0 a1_1 a1_2 a1_3).bind fun t460 => (if t460 = 0 then ((impl_compareVecs.f k a0_4 a0_5 a1_4 a1_5).bind fun t461 => (some t461)) else (some t460))) = some r := h
 clear h
 obtain ⟨t460, A3, H⟩ := ob H
 try dsimp only at H
 by_cases c4 : t460 = 0
 ·rw [if_pos c4] at H
  have c4b0 : (t460 == 0) = true := beq_iff_eq.mpr c4
  have c4b1 : (t460 != 0) = false := bne_eq_false_iff_eq.mpr c4
  clear c4
  obtain ⟨t461, A5, H⟩ := ob H
  try dsimp only at H
  obtain rfl := Option.some.inj H
  go_enter Tryz.func75, Tryz.ntmps75
  go_wp2_with (first | ((with_reducible refine gd 2 rfl ?_); refine bx #[.int .i64 a0_0, .int .i64 a0_1, .int .i64 a0_2, .int .i64 a0_3, .int .i64 a0_4, .int .i64 a0_5] 48 ?_; intro gb458 hg w6 BK458 hb; have GE458 := ngw0 hg HB; replace HB := bS0 HB hb; clear hb hg) | ((with_reducible refine gd 3 rfl ?_); refine bx #[.int .i64 a1_0, .int .i64 a1_1, .int .i64 a1_2, .int .i64 a1_3, .int .i64 a1_4, .int .i64 a1_5] 48 ?_; intro gb459 hg w7 BK459 hb; have GE459 := ngw1 hg HB GE458; replace HB := bS1 HB GE458 hb; have NB458_459 := nlt hg BK458; have NB459_458 := nsy (nlt hg BK458); replace BK458 := bB BK458 hb; clear hb hg; have hnb8 := NB458_459.out; have hnc8 := NB459_458.out; obtain ⟨hcz9_0, hcz9_1, hcz9_2, hcz9_3, hcz9_4, hcz9_5, hfz9_0, hfz9_1, hfz9_2, hfz9_3, hfz9_4, hfz9_5⟩ := bz6 BK458; obtain ⟨hcz10_0, hcz10_1, hcz10_2, hcz10_3, hcz10_4, hcz10_5, hfz10_0, hfz10_1, hfz10_2, hfz10_3, hfz10_4, hfz10_5⟩ := bz6 BK459) | ((with_reducible refine gate_callee (f := 111) rfl ?_); refine gl 10 Tryz.func111 #[.agg #[.int .i64 a0_0, .int .i64 a0_1, .int .i64 a0_2, .int .i64 a0_3], .agg #[.int .i64 a1_0, .int .i64 a1_1, .int .i64 a1_2, .int .i64 a1_3]] ?_; (with_reducible refine (impl_compareMats.calls _ _ _ _ _ _ _ _ _ _ _ A3.out).mono ?_); rintro e w11 ⟨rfl, hb⟩; refine ⟨_, rfl, ?_⟩; replace BK458 := bB BK458 hb; replace BK459 := bB BK459 hb; replace HB := bS2 HB GE458 GE459 hb; (try clear hb); obtain ⟨hcz12_0, hcz12_1, hcz12_2, hcz12_3, hcz12_4, hcz12_5, hfz12_0, hfz12_1, hfz12_2, hfz12_3, hfz12_4, hfz12_5⟩ := bz6 BK458; obtain ⟨hcz13_0, hcz13_1, hcz13_2, hcz13_3, hcz13_4, hcz13_5, hfz13_0, hfz13_1, hfz13_2, hfz13_3, hfz13_4, hfz13_5⟩ := bz6 BK459) | ((with_reducible refine gate_callee (f := 112) rfl ?_); refine gl 18 Tryz.func112 #[.agg #[.int .i64 a0_4, .int .i64 a0_5], .agg #[.int .i64 a1_4, .int .i64 a1_5]] ?_; (with_reducible refine (impl_compareVecs.calls _ _ _ _ _ _ _ A5.out).mono ?_); rintro e w14 ⟨rfl, hb⟩; refine ⟨_, rfl, ?_⟩; replace BK458 := bB BK458 hb; replace BK459 := bB BK459 hb; replace HB := bS2 HB GE458 GE459 hb; (try clear hb)))
  go_ret
  exact er (bbw2 HB GE458 GE459)
 ·rw [if_neg c4] at H
  have c4b0 : (t460 == 0) = false := beq_eq_false_iff_ne.mpr c4
  have c4b1 : (t460 != 0) = true := bne_iff_ne.mpr c4
  obtain rfl := Option.some.inj H
  go_enter Tryz.func75, Tryz.ntmps75
  go_wp2_with (first | ((with_reducible refine gd 2 rfl ?_); refine bx #[.int .i64 a0_0, .int .i64 a0_1, .int .i64 a0_2, .int .i64 a0_3, .int .i64 a0_4, .int .i64 a0_5] 48 ?_; intro gb458 hg w15 BK458 hb; have GE458 := ngw0 hg HB; replace HB := bS0 HB hb; clear hb hg) | ((with_reducible refine gd 3 rfl ?_); refine bx #[.int .i64 a1_0, .int .i64 a1_1, .int .i64 a1_2, .int .i64 a1_3, .int .i64 a1_4, .int .i64 a1_5] 48 ?_; intro gb459 hg w16 BK459 hb; have GE459 := ngw1 hg HB GE458; replace HB := bS1 HB GE458 hb; have NB458_459 := nlt hg BK458; have NB459_458 := nsy (nlt hg BK458); replace BK458 := bB BK458 hb; clear hb hg; have hnb17 := NB458_459.out; have hnc17 := NB459_458.out; obtain ⟨hcz18_0, hcz18_1, hcz18_2, hcz18_3, hcz18_4, hcz18_5, hfz18_0, hfz18_1, hfz18_2, hfz18_3, hfz18_4, hfz18_5⟩ := bz6 BK458; obtain ⟨hcz19_0, hcz19_1, hcz19_2, hcz19_3, hcz19_4, hcz19_5, hfz19_0, hfz19_1, hfz19_2, hfz19_3, hfz19_4, hfz19_5⟩ := bz6 BK459) | ((with_reducible refine gate_callee (f := 111) rfl ?_); refine gl 10 Tryz.func111 #[.agg #[.int .i64 a0_0, .int .i64 a0_1, .int .i64 a0_2, .int .i64 a0_3], .agg #[.int .i64 a1_0, .int .i64 a1_1, .int .i64 a1_2, .int .i64 a1_3]] ?_; (with_reducible refine (impl_compareMats.calls _ _ _ _ _ _ _ _ _ _ _ A3.out).mono ?_); rintro e w20 ⟨rfl, hb⟩; refine ⟨_, rfl, ?_⟩; replace BK458 := bB BK458 hb; replace BK459 := bB BK459 hb; replace HB := bS2 HB GE458 GE459 hb; (try clear hb)))
  go_ret
  exact er (bbw2 HB GE458 GE459)
section
open Go Go.Sort Go.Shelf
theorem impl_Motion_74.C_int_block {W : World} {g : Nat} {xs : List Int} {t : TypeId} {fr : Nat × Nat} (h : W.heap[g]? = some (.cells (xs.map (Value.int .i64)).toArray t fr)) (hl : xs.length ≤ 9223372036854775807) : Kd.C (Kd.int .i64) W (some ⟨g, 0, none⟩) xs.length xs := by
 refine ⟨rfl, hl, fun _ => ⟨⟨g, 0, none⟩, rfl, fun j x hx => ⟨[.int .i64 x], rfl, rfl, fun i u hu => ?_⟩⟩⟩
 cases i with
 | succ i => simp at hu
 | zero =>
  simp only [List.getElem?_cons_zero, Option.some.injEq] at hu
  subst hu
  have e : (⟨g, 0, none⟩ : Addr).add (j * (Kd.int .i64).sz + 0) = ⟨g, j, none⟩ := by
   show (⟨g, 0, none⟩ : Addr).add (j * 1 + 0) = _
   unfold Addr.add
   split <;> simp_all
  rw [e, cell_of_row W g j _ t fr h]
  simp [List.getElem?_map, hx]
theorem impl_Motion_74.heap_alloc1 (W : World) (o : Obj) (g : Nat) (hg : g < W.heap.size) : (W.alloc o).heap[g]? = W.heap[g]? := Below.heap_alloc W o g hg
theorem impl_Motion_74.size_alloc (W : World) (o : Obj) : (W.alloc o).heap.size = W.heap.size + 1 := by simp
theorem impl_Motion_74.alloc4_2 (W : World) (a b c d : Obj) : ((((W.alloc a).alloc b).alloc c).alloc d).heap[W.heap.size + 1 + 1]? = some c := by
 have := blk_alloc (blk_new ((W.alloc a).alloc b) c) d
 rwa [impl_Motion_74.size_alloc, impl_Motion_74.size_alloc] at this
theorem impl_Motion_74.alloc4_3 (W : World) (a b c d : Obj) : ((((W.alloc a).alloc b).alloc c).alloc d).heap[W.heap.size + 1 + 1 + 1]? = some d := by
 have := blk_new (((W.alloc a).alloc b).alloc c) d
 rwa [impl_Motion_74.size_alloc, impl_Motion_74.size_alloc, impl_Motion_74.size_alloc] at this
set_option maxHeartbeats 4000000 in
theorem impl_Motion_74.cmpMats (k : Nat) (x0 x1 x2 x3 y0 y1 y2 y3 r : Int) (W : World) (h : impl_compareMats.f k x0 x1 x2 x3 y0 y1 y2 y3 = some r) :
  Calls Tryz.prog 111 #[.agg #[.int .i64 x0, .int .i64 x1, .int .i64 x2, .int .i64 x3], .agg #[.int .i64 y0, .int .i64 y1, .int .i64 y2, .int .i64 y3]] W fun e w' => e = .returned (.int .i64 r) ∧ ∃ q os, w' = grow (W.drewN q) os := by
 obtain ⟨t, A, H⟩ := Option.bind_eq_some_iff.1 h
 obtain rfl := Option.some.inj H
 have A := Aside0.mk A
 clear h H
 have hu_ := Tryz.underlying46
 go_enter Tryz.func111, Tryz.ntmps111
 go_wp2_with (go_at_call 133; refine (impl_compareNumbers.calls k _ 4 [x0, x1, x2, x3] _ 4 [y0, y1, y2, y3] _ _ (impl_Motion_74.C_int_block (t := 2) (fr := (0, 0)) (impl_Motion_74.alloc4_2 W _ _ _ _) (by simp)) (Nat.le_refl _) (impl_Motion_74.C_int_block (t := 2) (fr := (0, 0)) (impl_Motion_74.alloc4_3 W _ _ _ _) (by simp)) (Nat.le_refl _) A.out).mono ?_; rintro e w' ⟨rfl, ⟨nd, rfl⟩⟩)
 go_ret
 exact ⟨rfl, nd, _, by rw [alloc_eq_grow, alloc_eq_grow, alloc_eq_grow, alloc_eq_grow, grow_grow, grow_grow, grow_grow]; rfl⟩
set_option maxHeartbeats 4000000 in
theorem impl_Motion_74.cmpVecs (k : Nat) (x0 x1 y0 y1 r : Int) (W : World) (h : impl_compareVecs.f k x0 x1 y0 y1 = some r) :
  Calls Tryz.prog 112 #[.agg #[.int .i64 x0, .int .i64 x1], .agg #[.int .i64 y0, .int .i64 y1]] W fun e w' => e = .returned (.int .i64 r) ∧ ∃ q os, w' = grow (W.drewN q) os := by
 obtain ⟨t, A, H⟩ := Option.bind_eq_some_iff.1 h
 obtain rfl := Option.some.inj H
 have A := Aside0.mk A
 clear h H
 have hu_ := Tryz.underlying38
 go_enter Tryz.func112, Tryz.ntmps112
 go_wp2_with (go_at_call 133; refine (impl_compareNumbers.calls k _ 2 [x0, x1] _ 2 [y0, y1] _ _ (impl_Motion_74.C_int_block (t := 2) (fr := (0, 0)) (impl_Motion_74.alloc4_2 W _ _ _ _) (by simp)) (Nat.le_refl _) (impl_Motion_74.C_int_block (t := 2) (fr := (0, 0)) (impl_Motion_74.alloc4_3 W _ _ _ _) (by simp)) (Nat.le_refl _) A.out).mono ?_; rintro e w' ⟨rfl, ⟨nd, rfl⟩⟩)
 go_ret
 exact ⟨rfl, nd, _, by rw [alloc_eq_grow, alloc_eq_grow, alloc_eq_grow, alloc_eq_grow, grow_grow, grow_grow, grow_grow]; rfl⟩
theorem impl_Motion_74.gblk {W : World} {g : Nat} {o : Obj} (q : Nat) (os : Array Obj) (h : W.heap[g]? = some o) : (grow (W.drewN q) os).heap[g]? = some o := by
 have hlt := blk_lt h
 show (W.heap ++ os)[g]? = some o
 rw [Array.getElem?_append_left hlt]; exact h
theorem impl_Motion_74.boxed2 (W : World) (a b : Obj) : ((W.alloc a).alloc b).heap[W.heap.size]? = some a ∧ ((W.alloc a).alloc b).heap[W.heap.size + 1]? = some b := by
 refine ⟨blk_alloc (blk_new W a) b, ?_⟩
 have := blk_new (W.alloc a) b
 rwa [impl_Motion_74.size_alloc] at this
theorem impl_Motion_74.cells6 {W : World} {g : Nat} {v0 v1 v2 v3 v4 v5 : Value} {t : TypeId} {fr : Nat × Nat} (h : W.heap[g]? = some (.cells #[v0, v1, v2, v3, v4, v5] t fr)) : W.cell? ⟨g, 0, none⟩ = some v0 ∧ W.cell? ⟨g, 1, none⟩ = some v1 ∧ W.cell? ⟨g, 2, none⟩ = some v2 ∧ W.cell? ⟨g, 3, none⟩ = some v3 ∧ W.cell? ⟨g, 4, none⟩ = some v4 ∧ W.cell? ⟨g, 5, none⟩ = some v5 := by
 refine ⟨?_, ?_, ?_, ?_, ?_, ?_⟩ <;> exact cell_of_row W g _ _ t fr h
theorem impl_Motion_74.grow_drewN (W : World) (os : Array Obj) (q : Nat) : (grow W os).drewN q = grow (W.drewN q) os := rfl
set_option maxHeartbeats 4000000 in
theorem impl_Motion_74.cmpMotions (k : Nat) (x y : S48) (r : Int) (W : World) (h : impl_compareMotions.f k x.f0.f0 x.f0.f1 x.f0.f2 x.f0.f3 x.f1.f0 x.f1.f1 y.f0.f0 y.f0.f1 y.f0.f2 y.f0.f3 y.f1.f0 y.f1.f1 = some r) :
  Calls Tryz.prog 75 #[.agg #[.int .i64 x.f0.f0, .int .i64 x.f0.f1, .int .i64 x.f0.f2, .int .i64 x.f0.f3, .int .i64 x.f1.f0, .int .i64 x.f1.f1], .agg #[.int .i64 y.f0.f0, .int .i64 y.f0.f1, .int .i64 y.f0.f2, .int .i64 y.f0.f3, .int .i64 y.f1.f0, .int .i64 y.f1.f1]] W fun e w' => e = .returned (.int .i64 r) ∧ ∃ q os, w' = grow (W.drewN q) os := by
 obtain ⟨t, A, H⟩ := Option.bind_eq_some_iff.1 h
 have A := Aside0.mk A
 clear h
 have hu48 := Tryz.underlying48
 have hu46 := Tryz.underlying46
 have hu38 := Tryz.underlying38
 by_cases c : t = 0
 ·rw [if_pos c] at H
  obtain ⟨t2, B, H⟩ := Option.bind_eq_some_iff.1 H
  obtain rfl := Option.some.inj H
  have B := Aside0.mk B
  have cb : (t == 0) = true := beq_iff_eq.mpr c
  have cb2 : (t != 0) = false := bne_eq_false_iff_eq.mpr c
  clear H c
  go_enter Tryz.func75, Tryz.ntmps75
  go_wp2_with (first | (go_at_call 111; refine (impl_Motion_74.cmpMats k _ _ _ _ _ _ _ _ _ _ A.out).mono ?_; rintro e w' ⟨rfl, q1, os1, rfl⟩; obtain ⟨b0, b1⟩ := impl_Motion_74.boxed2 W (.cells #[.int .i64 x.f0.f0, .int .i64 x.f0.f1, .int .i64 x.f0.f2, .int .i64 x.f0.f3, .int .i64 x.f1.f0, .int .i64 x.f1.f1] 48) (.cells #[.int .i64 y.f0.f0, .int .i64 y.f0.f1, .int .i64 y.f0.f2, .int .i64 y.f0.f3, .int .i64 y.f1.f0, .int .i64 y.f1.f1] 48); obtain ⟨c0, c1, c2, c3, c4, c5⟩ := impl_Motion_74.cells6 (impl_Motion_74.gblk q1 os1 b0); obtain ⟨d0, d1, d2, d3, d4, d5⟩ := impl_Motion_74.cells6 (impl_Motion_74.gblk q1 os1 b1); clear b0 b1) | (go_at_call 112; refine (impl_Motion_74.cmpVecs k _ _ _ _ _ _ B.out).mono ?_; rintro e w' ⟨rfl, q2, os2, rfl⟩))
  go_ret
  exact ⟨rfl, q1 + q2, _, by rw [alloc_eq_grow, alloc_eq_grow]; simp only [impl_Motion_74.grow_drewN, grow_grow, World.drewN_drewN]; rfl⟩
 ·rw [if_neg c] at H
  obtain rfl := Option.some.inj H
  have cb : (t == 0) = false := beq_eq_false_iff_ne.mpr c
  have cb2 : (t != 0) = true := bne_iff_ne.mpr c
  clear H c
  go_enter Tryz.func75, Tryz.ntmps75
  go_wp2_with (go_at_call 111; refine (impl_Motion_74.cmpMats k _ _ _ _ _ _ _ _ _ _ A.out).mono ?_; rintro e w' ⟨rfl, q1, os1, rfl⟩)
  go_ret
  exact ⟨rfl, q1, _, by rw [alloc_eq_grow, alloc_eq_grow]; simp only [impl_Motion_74.grow_drewN, grow_grow]; rfl⟩
instance : Inhabited S48 := ⟨⟨⟨0, 0, 0, 0⟩, ⟨0, 0⟩⟩⟩
def impl_Motion_74.encMo (x : S48) : List Value := [.int .i64 x.f0.f0, .int .i64 x.f0.f1, .int .i64 x.f0.f2, .int .i64 x.f0.f3, .int .i64 x.f1.f0, .int .i64 x.f1.f1]
def impl_Motion_74.cmpL : List (Int × Int) → Int
 | [] => 0
 | p :: r => if p.1 = p.2 then impl_Motion_74.cmpL r else if p.1 < p.2 then -1 else 1
def impl_Motion_74.cfMo (x y : S48) : Int := if impl_Motion_74.cmpL [(x.f0.f0, y.f0.f0), (x.f0.f1, y.f0.f1), (x.f0.f2, y.f0.f2), (x.f0.f3, y.f0.f3)] = 0 then impl_Motion_74.cmpL [(x.f1.f0, y.f1.f0), (x.f1.f1, y.f1.f1)] else impl_Motion_74.cmpL [(x.f0.f0, y.f0.f0), (x.f0.f1, y.f0.f1), (x.f0.f2, y.f0.f2), (x.f0.f3, y.f0.f3)]
theorem impl_Motion_74.cmpNum (l m : List Int) (hl : l.length = m.length) (h8 : l.length ≤ 100) (d : Nat) : ∀ (k i : Nat), i ≤ l.length → l.length - i = d → d < k → impl_compareNumbers.l0 k l m (l.length : Int) i = some (impl_Motion_74.cmpL ((l.drop i).zip (m.drop i))) := by
 induction d with
 | zero =>
  intro k i hi hd hk
  obtain ⟨k, rfl⟩ : ∃ j, k = j + 1 := ⟨k - 1, by omega⟩
  simp only [impl_compareNumbers.l0]
  rw [if_neg (by omega), List.drop_eq_nil_of_le (by omega)]; rfl
 | succ d ih =>
  intro k i hi hd hk
  obtain ⟨k, rfl⟩ : ∃ j, k = j + 1 := ⟨k - 1, by omega⟩
  have h1 : i < l.length := by omega
  have h2 : i < m.length := by omega
  have r1 : Go.Proofs.YtdodghjnlekgeaaGreatW.PrintWords.rd l (i : Int) = l[i] := by unfold Go.Proofs.YtdodghjnlekgeaaGreatW.PrintWords.rd; rw [Int.toNat_natCast]; simp [List.getD, h1]
  have r2 : Go.Proofs.YtdodghjnlekgeaaGreatW.PrintWords.rd m (i : Int) = m[i] := by unfold Go.Proofs.YtdodghjnlekgeaaGreatW.PrintWords.rd; rw [Int.toNat_natCast]; simp [List.getD, h2]
  have c1 : (i : Int) < (l.length : Int) := by omega
  have c2 : (0 : Int) ≤ (i : Int) := by omega
  have c3 : (i : Int) < (m.length : Int) := by omega
  have c4 : i + 1 ≤ l.length := by omega
  have c5 : l.length - (i + 1) = d := by omega
  have c6 : d < k := by omega
  have c7 : (i : Int) ≤ 100 := by omega
  rw [List.drop_eq_getElem_cons h1, List.drop_eq_getElem_cons h2, List.zip_cons_cons]
  simp only [impl_compareNumbers.l0, impl_Motion_74.cmpL]
  have hw : wrap64 ((i : Int) + 1) = ((i + 1 : Nat) : Int) := by clear ih r1 r2 hl h8 hd hk c1 c3 c4 c5 c6 h1 h2 hi; unfold wrap64; omega
  rw [if_pos c1, if_pos c2, if_pos c1, if_pos c3, r1, r2, hw]
  by_cases e : l[i] = m[i]
  ·rw [if_pos e, if_pos e]; exact ih k (i + 1) c4 c5 c6
  ·rw [if_neg e, if_neg e]
   by_cases e2 : l[i] < m[i]
   ·rw [if_pos e2, if_pos e2]
   ·rw [if_neg e2, if_neg e2]
theorem impl_Motion_74.cfMo_eq (k : Nat) (hk : 5 ≤ k) (x y : S48) : impl_compareMotions.f k x.f0.f0 x.f0.f1 x.f0.f2 x.f0.f3 x.f1.f0 x.f1.f1 y.f0.f0 y.f0.f1 y.f0.f2 y.f0.f3 y.f1.f0 y.f1.f1 = some (impl_Motion_74.cfMo x y) := by
 have h4 : impl_compareNumbers.f k [x.f0.f0, x.f0.f1, x.f0.f2, x.f0.f3] [y.f0.f0, y.f0.f1, y.f0.f2, y.f0.f3] = some (impl_Motion_74.cmpL [(x.f0.f0, y.f0.f0), (x.f0.f1, y.f0.f1), (x.f0.f2, y.f0.f2), (x.f0.f3, y.f0.f3)]) :=
  impl_Motion_74.cmpNum [x.f0.f0, x.f0.f1, x.f0.f2, x.f0.f3] [y.f0.f0, y.f0.f1, y.f0.f2, y.f0.f3] rfl (by simp) 4 k 0 (by omega) rfl (by omega)
 have h2 : impl_compareNumbers.f k [x.f1.f0, x.f1.f1] [y.f1.f0, y.f1.f1] = some (impl_Motion_74.cmpL [(x.f1.f0, y.f1.f0), (x.f1.f1, y.f1.f1)]) :=
  impl_Motion_74.cmpNum [x.f1.f0, x.f1.f1] [y.f1.f0, y.f1.f1] rfl (by simp) 2 k 0 (by omega) rfl (by omega)
 unfold impl_compareMotions.f impl_compareMats.f impl_compareVecs.f impl_Motion_74.cfMo
 rw [h4, h2]
 simp only [Option.bind_some]
 split <;> rfl
theorem impl_Motion_74.cf_neg (x y : S48) : impl_Motion_74.cfMo x y < 0 ↔ (x.f0.f0 < y.f0.f0 ∨ (x.f0.f0 = y.f0.f0 ∧ (x.f0.f1 < y.f0.f1 ∨ (x.f0.f1 = y.f0.f1 ∧ (x.f0.f2 < y.f0.f2 ∨ (x.f0.f2 = y.f0.f2 ∧ (x.f0.f3 < y.f0.f3 ∨ (x.f0.f3 = y.f0.f3 ∧ (x.f1.f0 < y.f1.f0 ∨ (x.f1.f0 = y.f1.f0 ∧ x.f1.f1 < y.f1.f1)))))))))) := by
 unfold impl_Motion_74.cfMo
 simp only [impl_Motion_74.cmpL]
 by_cases e0 : x.f0.f0 = y.f0.f0
 ·by_cases e1 : x.f0.f1 = y.f0.f1
  ·by_cases e2 : x.f0.f2 = y.f0.f2
   ·by_cases e3 : x.f0.f3 = y.f0.f3
    ·simp only [if_pos e0, if_pos e1, if_pos e2, if_pos e3, if_true]
     by_cases e4 : x.f1.f0 = y.f1.f0
     ·rw [if_pos e4]; split <;> (try split) <;> omega
     ·rw [if_neg e4]; split <;> omega
    ·simp only [if_pos e0, if_pos e1, if_pos e2, if_neg e3]; split <;> (try split) <;> omega
   ·simp only [if_pos e0, if_pos e1, if_neg e2]; split <;> (try split) <;> omega
  ·simp only [if_pos e0, if_neg e1]; split <;> (try split) <;> omega
 ·simp only [if_neg e0]; split <;> (try split) <;> omega
theorem impl_Motion_74.swoMo : SWO (ltOf impl_Motion_74.cfMo) where
 irrefl x := by unfold ltOf; rw [decide_eq_false_iff_not, impl_Motion_74.cf_neg]; omega
 trans x y z h1 h2 := by unfold ltOf at *; rw [decide_eq_true_eq, impl_Motion_74.cf_neg] at *; omega
 ntrans x y z h1 h2 := by unfold ltOf at *; rw [decide_eq_false_iff_not, impl_Motion_74.cf_neg] at *; omega
theorem impl_Motion_74.totMo (x y : S48) (h1 : ltOf impl_Motion_74.cfMo x y = false) (h2 : ltOf impl_Motion_74.cfMo y x = false) : x = y := by
 unfold ltOf at h1 h2
 rw [decide_eq_false_iff_not, impl_Motion_74.cf_neg] at h1 h2
 obtain ⟨⟨a0, a1, a2, a3⟩, ⟨a4, a5⟩⟩ := x
 obtain ⟨⟨b0, b1, b2, b3⟩, ⟨b4, b5⟩⟩ := y
 dsimp only at h1 h2
 have e0 : a0 = b0 := by omega
 have e1 : a1 = b1 := by omega
 have e2 : a2 = b2 := by omega
 have e3 : a3 = b3 := by omega
 have e4 : a4 = b4 := by omega
 have e5 : a5 = b5 := by omega
 subst e0 e1 e2 e3 e4 e5
 rfl
theorem impl_Motion_74.cmpLaysMo (blk off size : Nat) (w : World) : CmpLays Tryz.prog 75 #[] impl_Motion_74.encMo 6 impl_Motion_74.cfMo blk off size w :=
 fun _ _ _ _ x y => impl_Motion_74.cmpMotions 20 x y (impl_Motion_74.cfMo x y) _ (impl_Motion_74.cfMo_eq 20 (by omega) x y)
def impl_Motion_74.srtMo (xs : List S48) : List S48 := xs.mergeSort fun x y => !(ltOf impl_Motion_74.cfMo) y x
def impl_Motion_74.sortMo_ren : Go.Shelf.Ren := ⟨fun | 6 => 74 | 15 => 110 | 14 => 109 | 28 => 131 | 29 => 132 | 20 => 123 | 21 => 124 | 22 => 125 | 23 => 126 | 24 => 127 | 25 => 128 | 26 => 129 | 27 => 130 | 46 => 136 | 47 => 137 | 48 => 138 | 49 => 139 | 50 => 140 | 57 => 141 | n => n, fun | 22 => 26 | 24 => 48 | 25 => 95 | 3 => 3 | 39 => 117 | 0 => 0 | 53 => 132 | 55 => 134 | 4 => 4 | 46 => 125 | 45 => 124 | 50 => 129 | 5 => 5 | 9 => 9 | 66 => 139 | 70 => 143 | 76 => 145 | 77 => 146 | n => n, fun n => n⟩
theorem impl_Motion_74.sortMo_lays : SlLaysF0.n6 Tryz.prog impl_Motion_74.sortMo_ren := {
 mixed := by kernel_rfl,
 f6 := ⟨Tryz.f74.name, by decide, Tryz.func74.trans (congrArg some (by kernel_rfl))⟩,
 f14 := ⟨Tryz.f109.name, by decide, Tryz.func109.trans (congrArg some (by kernel_rfl))⟩,
 f15 := Tryz.func110.trans (congrArg some (by kernel_rfl)),
 f20 := ⟨Tryz.f123.name, by decide, Tryz.func123.trans (congrArg some (by kernel_rfl))⟩,
 f21 := ⟨Tryz.f124.name, by decide, Tryz.func124.trans (congrArg some (by kernel_rfl))⟩,
 f22 := ⟨Tryz.f125.name, by decide, Tryz.func125.trans (congrArg some (by kernel_rfl))⟩,
 f23 := ⟨Tryz.f126.name, by decide, Tryz.func126.trans (congrArg some (by kernel_rfl))⟩,
 f24 := ⟨Tryz.f127.name, by decide, Tryz.func127.trans (congrArg some (by kernel_rfl))⟩,
 f25 := ⟨Tryz.f128.name, by decide, Tryz.func128.trans (congrArg some (by kernel_rfl))⟩,
 f26 := ⟨Tryz.f129.name, by decide, Tryz.func129.trans (congrArg some (by kernel_rfl))⟩,
 f27 := ⟨Tryz.f130.name, by decide, Tryz.func130.trans (congrArg some (by kernel_rfl))⟩,
 f28 := Tryz.func131.trans (congrArg some (by kernel_rfl)),
 f29 := Tryz.func132.trans (congrArg some (by kernel_rfl)),
 f46 := ⟨Tryz.f136.name, by decide, Tryz.func136.trans (congrArg some (by kernel_rfl))⟩,
 f47 := Tryz.func137.trans (congrArg some (by kernel_rfl)),
 f48 := Tryz.func138.trans (congrArg some (by kernel_rfl)),
 f49 := ⟨Tryz.f139.name, by decide, Tryz.func139.trans (congrArg some (by kernel_rfl))⟩,
 f50 := ⟨Tryz.f140.name, by decide, Tryz.func140.trans (congrArg some (by kernel_rfl))⟩,
 f57 := ⟨Tryz.f141.name, by decide, Tryz.func141.trans (congrArg some (by kernel_rfl))⟩,
 t0 := Tryz.underlying0,
 a0 := Tryz.isAgg0,
 z0 := Tryz.sizeOf0,
 v0 := Tryz.zeroValue0,
 t3 := Tryz.underlying3,
 a3 := Tryz.isAgg3,
 z3 := Tryz.sizeOf3,
 v3 := Tryz.zeroValue3,
 t4 := Tryz.underlying4,
 a4 := Tryz.isAgg4,
 z4 := Tryz.sizeOf4,
 v4 := Tryz.zeroValue4,
 t5 := Tryz.underlying5,
 a5 := Tryz.isAgg5,
 z5 := Tryz.sizeOf5,
 v5 := Tryz.zeroValue5,
 t9 := Tryz.underlying9,
 a9 := Tryz.isAgg9,
 z9 := Tryz.sizeOf9,
 v9 := Tryz.zeroValue9,
 t22 := Tryz.underlying26,
 a22 := Tryz.isAgg26,
 z22 := Tryz.sizeOf26,
 v22 := Tryz.zeroValue26,
 t25 := Tryz.underlying95,
 a25 := Tryz.isAgg95,
 z25 := Tryz.sizeOf95,
 v25 := Tryz.zeroValue95,
 t39 := Tryz.underlying117,
 a39 := Tryz.isAgg117,
 z39 := Tryz.sizeOf117,
 v39 := Tryz.zeroValue117,
 t45 := Tryz.underlying124,
 a45 := Tryz.isAgg124,
 z45 := Tryz.sizeOf124,
 v45 := Tryz.zeroValue124,
 t46 := Tryz.underlying125,
 a46 := Tryz.isAgg125,
 z46 := Tryz.sizeOf125,
 v46 := Tryz.zeroValue125,
 t50 := Tryz.underlying129,
 a50 := Tryz.isAgg129,
 z50 := Tryz.sizeOf129,
 v50 := Tryz.zeroValue129,
 t53 := Tryz.underlying132,
 a53 := Tryz.isAgg132,
 z53 := Tryz.sizeOf132,
 v53 := Tryz.zeroValue132,
 t55 := Tryz.underlying134,
 a55 := Tryz.isAgg134,
 z55 := Tryz.sizeOf134,
 v55 := Tryz.zeroValue134,
 t66 := Tryz.underlying139,
 a66 := Tryz.isAgg139,
 z66 := Tryz.sizeOf139,
 v66 := Tryz.zeroValue139,
 t70 := Tryz.underlying143,
 a70 := Tryz.isAgg143,
 z70 := Tryz.sizeOf143,
 v70 := Tryz.zeroValue143,
 t76 := Tryz.underlying145,
 a76 := Tryz.isAgg145,
 z76 := Tryz.sizeOf145,
 v76 := Tryz.zeroValue145,
 t77 := Tryz.underlying146,
 a77 := Tryz.isAgg146,
 z77 := Tryz.sizeOf146,
 v77 := Tryz.zeroValue146 }
theorem impl_Motion_74.enc_len (x : S48) : (impl_Motion_74.encMo x).length = 6 := rfl
theorem impl_Motion_74.enc_one (x : S48) : ∀ v ∈ impl_Motion_74.encMo x, v.oneCell' = true := by
 intro v hv
 simp only [impl_Motion_74.encMo, List.mem_cons, List.not_mem_nil, or_false] at hv
 rcases hv with rfl | rfl | rfl | rfl | rfl | rfl <;> rfl
theorem impl_Motion_74.flat_at (d : Array S48) (t : Nat) (h : t < d.size * 6) : (flatK impl_Motion_74.encMo 6 d)[t]! = (impl_Motion_74.encMo d[t / 6]!)[t % 6]! := get_flatK impl_Motion_74.encMo 6 d t h
theorem impl_Motion_74.reps_at {R : S48 → List Value → Prop} (hR : ∀ x cs, R x cs → cs = impl_Motion_74.encMo x) {xs : List S48} {inner : List Value} (h : Reps R 6 xs inner) (t : Nat) (ht : t < xs.length * 6) : inner[t]? = some ((impl_Motion_74.encMo xs.toArray[t / 6]!)[t % 6]!) := by
 have hj : t / 6 < xs.length := by omega
 have hx : xs[t / 6]? = some xs[t / 6] := List.getElem?_eq_getElem hj
 have hc := hR _ _ (h.2 _ _ hx)
 have h6 : t % 6 < 6 := Nat.mod_lt _ (by omega)
 have e1 : inner[t]? = ((inner.drop (t / 6 * 6)).take 6)[t % 6]? := by
  rw [List.getElem?_take_of_lt h6, List.getElem?_drop]
  congr 1; omega
 have e2 : xs.toArray[t / 6]! = xs[t / 6] := by simp [hj]
 rw [e1, hc, e2]
 have h7 : t % 6 < (impl_Motion_74.encMo xs[t / 6]).length := by rw [impl_Motion_74.enc_len]; exact h6
 rw [List.getElem?_eq_getElem h7]
 congr 1
 simp [h7]
theorem impl_Motion_74.heap_sorted (W : World) (g m : Nat) (d : Array S48) (os : Array Obj) (cur : Array Value) (hg : W.heap[g]? = some (.cells cur 48 (0, 0))) :
  (sortWorldK impl_Motion_74.encMo 6 W g 0 m d os).heap[g]? = some (.cells (putCells id 0 (flatK impl_Motion_74.encMo 6 d) cur) 48 (0, 0)) := by
 have hlt := blk_lt hg
 unfold sortWorldK grow putRowK putRow mapBlock
 show ((W.heap.modify g (onCells (putCells id 0 (flatK impl_Motion_74.encMo 6 d)))) ++ os)[g]? = _
 rw [Array.getElem?_append_left (by simpa using hlt), Array.getElem?_modify]
 rw [if_pos rfl, hg]
 rfl
theorem impl_Motion_74.heap_other (W : World) (g m k : Nat) (d : Array S48) (os : Array Obj) (hk : k < W.heap.size) (hne : k ≠ g) : (sortWorldK impl_Motion_74.encMo 6 W g 0 m d os).heap[k]? = W.heap[k]? := by
 unfold sortWorldK grow putRowK putRow mapBlock
 show ((W.heap.modify g (onCells (putCells id 0 (flatK impl_Motion_74.encMo 6 d)))) ++ os)[k]? = _
 rw [Array.getElem?_append_left (by simpa using hk), Array.getElem?_modify, if_neg (Ne.symm hne)]
theorem impl_Motion_74.srt_length (xs : List S48) : (impl_Motion_74.srtMo xs).length = xs.length := List.length_mergeSort _
theorem impl_Motion_74.srt_nil : impl_Motion_74.srtMo [] = [] := List.eq_nil_of_length_eq_zero (impl_Motion_74.srt_length [])
theorem impl_Motion_74.sorted_row {W : World} {base : Nat} {ok : Nat → Prop} {g cap m : Nat} {cur : Array Value} {ys : List S48} (os : Array Obj) (h0 : ∀ k, (Value.slice (some ⟨g, 0, none⟩) ys.length cap).ownBlock = some k → ok k) (hb : base ≤ g) (hg : W.heap[g]? = some (.cells cur 48 (0, 0))) (hnc : ys.length ≤ cap) (hcm : cap ≤ maxLen) (hcs : cur.size = cap * 6) :
  Kd.R k48 48 (sortWorldK impl_Motion_74.encMo 6 W g 0 m ys.toArray os) base ok (.slice (some ⟨g, 0, none⟩) ys.length cap) ys := by
 have hfs : (flatK impl_Motion_74.encMo 6 ys.toArray).size = ys.length * 6 := by simp
 refine ⟨h0, (flatK impl_Motion_74.encMo 6 ys.toArray).toList, ⟨by simp; rfl, .inr ⟨g, cap, _, rfl, hb, impl_Motion_74.heap_sorted W g m ys.toArray os cur hg, hnc, hcm, by simp [putCells, hcs]; rfl, ?_⟩⟩, ?_⟩
 ·apply List.ext_getElem?
  intro t
  show (List.take (ys.length * 6) _)[t]? = _
  by_cases ht : t < ys.length * 6
  ·have htc : t < cur.size := by rw [hcs]; exact Nat.lt_of_lt_of_le ht (Nat.mul_le_mul_right 6 hnc)
   have ht' : t < (flatK impl_Motion_74.encMo 6 ys.toArray).size := by rw [hfs]; exact ht
   rw [List.getElem?_take_of_lt ht]
   simp [putCells, htc, hfs, ht]
  ·rw [List.getElem?_eq_none (by rw [List.length_take]; omega), List.getElem?_eq_none (by simp; omega)]
 ·refine ⟨by simp; rfl, fun j p hp => ?_⟩
  have hj : j < ys.length := (List.getElem?_eq_some_iff.1 hp).1
  have hpj : ys[j] = p := (List.getElem?_eq_some_iff.1 hp).2
  have e : ((flatK impl_Motion_74.encMo 6 ys.toArray).toList.drop (j * 6)).take 6 = impl_Motion_74.encMo p := by
   apply List.ext_getElem?
   intro t
   by_cases ht : t < 6
   ·have h1 : j * 6 + t < (flatK impl_Motion_74.encMo 6 ys.toArray).size := by rw [hfs]; omega
    have h2 : j * 6 + t < ys.toArray.size * 6 := by simpa using (show j * 6 + t < ys.length * 6 by omega)
    have h3 := impl_Motion_74.flat_at ys.toArray (j * 6 + t) h2
    rw [List.getElem?_take_of_lt ht, List.getElem?_drop]
    have h4 : (flatK impl_Motion_74.encMo 6 ys.toArray).toList[j * 6 + t]? = some ((flatK impl_Motion_74.encMo 6 ys.toArray)[j * 6 + t]!) := by
     rw [Array.getElem?_toList, getElem!_pos (flatK impl_Motion_74.encMo 6 ys.toArray) (j * 6 + t) h1]; exact Array.getElem?_eq_getElem h1
    rw [h4, h3, show (j * 6 + t) / 6 = j by omega, show (j * 6 + t) % 6 = t by omega]
    have h5 : ys.toArray[j]! = p := by rw [← hpj]; simp [hj]
    rw [h5]
    have h6 : t < (impl_Motion_74.encMo p).length := by rw [impl_Motion_74.enc_len]; exact ht
    rw [List.getElem?_eq_getElem h6]
    congr 1
    simp [h6]
   ·rw [List.getElem?_eq_none (by rw [List.length_take]; omega), List.getElem?_eq_none (by rw [impl_Motion_74.enc_len]; omega)]
  show k48.M _ _ _ p (((flatK impl_Motion_74.encMo 6 ys.toArray).toList.drop (j * 6)).take 6)
  rw [e]
  exact k48_mkM _ _ _ p
theorem impl_Motion_74.sortR {W : World} {base : Nat} {ok : Nat → Prop} {v : Value} {xs : List S48} (HR : Kd.R k48 48 W base ok v xs) (hn : xs.length < 4611686018427387904) :
  Calls Tryz.prog 74 #[v, .func (.func 75) #[] #[]] W fun e w' => e = .returned (.tuple #[]) ∧ Kd.R k48 48 w' base ok v (impl_Motion_74.srtMo xs) ∧ W.grownBy w' v.ownBlock := by
 obtain ⟨h0, inner, ⟨hil, hown⟩, hr⟩ := HR
 have hsz : k48.sz = 6 := rfl
 rcases hown with ⟨rfl, hz⟩ | ⟨g, cap, cur, rfl, hb, hg, hnc, hcm, hcs, htk⟩
 ·have hx : xs = [] := List.eq_nil_of_length_eq_zero hz
  subst hx
  refine (AnyF.slices_SortFunc_none (P := Tryz.prog) (ρ := impl_Motion_74.sortMo_ren) impl_Motion_74.sortMo_lays none 0 (.func (.func 75) #[] #[]) W).mono ?_
  rintro e w' ⟨rfl, rfl⟩
  refine ⟨rfl, ?_, ⟨rfl, rfl, rfl, Nat.le_refl _, fun _ _ _ => rfl⟩⟩
  rw [impl_Motion_74.srt_nil]; exact Kd.R_nil k48 48 _ _ _
 ·by_cases hz : xs.length = 0
  ·have hx : xs = [] := List.eq_nil_of_length_eq_zero hz
   subst hx
   refine (AnyF.slices_SortFunc_none (P := Tryz.prog) (ρ := impl_Motion_74.sortMo_ren) impl_Motion_74.sortMo_lays (some ⟨g, 0, none⟩) cap (.func (.func 75) #[] #[]) W).mono ?_
   rintro e w' ⟨rfl, rfl⟩
   refine ⟨rfl, ?_, ⟨rfl, rfl, rfl, Nat.le_refl _, fun _ _ _ => rfl⟩⟩
   rw [impl_Motion_74.srt_nil]
   exact ⟨h0, inner, ⟨hil, .inr ⟨g, cap, cur, rfl, hb, hg, hnc, hcm, hcs, htk⟩⟩, hr⟩
  ·have eg : ∀ args w, (callFunc 75 args).run Tryz.prog w = .ok (.enter 75 args) w := enters_of Tryz.func75 (by kernel_rfl) rfl
   have hH : HoldsK impl_Motion_74.encMo 6 W g 0 xs.toArray := by
    intro t ht
    have ht6 : t < xs.length * 6 := by simpa using ht
    have h1 := impl_Motion_74.reps_at (fun x cs h => k48_openM h) hr t ht6
    have h2 : cur[t]? = inner[t]? := by
     rw [← htk, hsz, List.getElem?_take_of_lt ht6, Array.getElem?_toList]
    have h3 := impl_Motion_74.flat_at xs.toArray t (by simpa using ht6)
    rw [Nat.zero_add]
    refine ⟨?_, blk_frozen hg t⟩
    rw [cell_of_row W g t cur 48 (0, 0) hg, h2, h1]
    exact congrArg some h3.symm
   have hcon := AnyQ.slices_SortFunc_total (P := Tryz.prog) (ρ := impl_Motion_74.sortMo_ren) impl_Motion_74.sortMo_lays 6 Tryz.isAgg48 Tryz.sizeOf48 impl_Motion_74.encMo impl_Motion_74.enc_len impl_Motion_74.enc_one impl_Motion_74.cfMo impl_Motion_74.swoMo 75 #[] g 0 cap xs.toArray W eg (impl_Motion_74.cmpLaysMo g 0 xs.toArray.size W) hH (blk_lt hg) (by simpa using hn) impl_Motion_74.totMo
   have hcon : Calls Tryz.prog 74 #[.slice (some ⟨g, 0, none⟩) xs.length cap, .func (.func 75) #[] #[]] W _ := hcon
   refine hcon.mono ?_
   rintro e w' ⟨rfl, m, os, rfl⟩
   refine ⟨rfl, ?_, ⟨rfl, rfl, rfl, ?_, ?_⟩⟩
   ·have := impl_Motion_74.sorted_row (W := W) (base := base) (ok := ok) (g := g) (cap := cap) (m := m) (cur := cur) (ys := impl_Motion_74.srtMo xs) os (by rw [impl_Motion_74.srt_length]; exact h0) hb hg (by rw [impl_Motion_74.srt_length]; exact hnc) hcm hcs
    rw [impl_Motion_74.srt_length] at this
    exact this
   ·show W.heap.size ≤ (W.heap.modify g _ ++ os).size
    simp
   ·intro k hk hne
    exact impl_Motion_74.heap_other W g m k _ os hk (fun h => hne (by subst h; rfl))
end
theorem mapMo.wide : (match Tryz.prog.underlying 48 with | some (.array _ _) | some (.struct _) => true | _ => false) = true := by rw [Tryz.underlying48]
theorem mapMo.law : Go.Maps.Keyed Tryz.prog 48 := Go.Maps.Keyed.of_law (deep_law_laid (P := Tryz.prog) (by kernel_rfl) (m := 3) (by omega) (of_decide_eq_true (by kernel_rfl)) (by kernel_rfl) mapMo.wide)
def mapMo.enc (x : S48) : Value := .agg #[.int .i64 x.f0.f0, .int .i64 x.f0.f1, .int .i64 x.f0.f2, .int .i64 x.f0.f3, .int .i64 x.f1.f0, .int .i64 x.f1.f1]
def mapMo.lits (x : S48) : List Lit := [.int .i64 x.f0.f0, .int .i64 x.f0.f1, .int .i64 x.f0.f2, .int .i64 x.f0.f3, .int .i64 x.f1.f0, .int .i64 x.f1.f1]
def mapMo.wf (x : S48) : Bool := (mapMo.lits x).all Lit.wf
def mapMo.kl (x : S48) : Lit := .string (keyBytes (mapMo.lits x))
theorem mapMo.hkey (x : S48) (h : mapMo.wf x = true) : keyOf Tryz.prog 48 (mapMo.enc x) = some (mapMo.kl x) := by
 simp only [mapMo.wf, mapMo.lits, List.all_cons, List.all_nil, Bool.and_true, Bool.and_eq_true] at h
 obtain ⟨h0, h1, h2, h3, h4, h5⟩ := h
 have k2 : ∀ (d : Nat) (n : Int), (Lit.int .i64 n).wf = true → Tryz.prog.keyLits (d + 1) 2 [.int .i64 n] = some [.int .i64 n] := fun d n hn => by
  simp [Program.keyLits, Tryz.underlying2, hn]
 have k34 : ∀ (d : Nat) (a b : Int), (Lit.int .i64 a).wf = true → (Lit.int .i64 b).wf = true → Tryz.prog.keyLits (d + 2) 38 [.int .i64 a, .int .i64 b] = some [.int .i64 a, .int .i64 b] := fun d a b ha hb => by
  unfold Program.keyLits
  rw [Tryz.underlying38]
  have c : Tryz.prog.cellsOf 38 = 2 := by kernel_rfl
  have c2 : Tryz.prog.cellsOf 2 = 1 := by kernel_rfl
  simp [c, c2, k2, ha, hb]
 have k33 : ∀ (d : Nat) (a b c e : Int), (Lit.int .i64 a).wf = true → (Lit.int .i64 b).wf = true → (Lit.int .i64 c).wf = true → (Lit.int .i64 e).wf = true → Tryz.prog.keyLits (d + 2) 46 [.int .i64 a, .int .i64 b, .int .i64 c, .int .i64 e] = some [.int .i64 a, .int .i64 b, .int .i64 c, .int .i64 e] := fun d a b c e ha hb hc he => by
  unfold Program.keyLits
  rw [Tryz.underlying46]
  have c' : Tryz.prog.cellsOf 46 = 4 := by kernel_rfl
  have c2 : Tryz.prog.cellsOf 2 = 1 := by kernel_rfl
  simp [c', c2, k2, ha, hb, hc, he]
 have hf : (mapMo.enc x).formed Tryz.prog 48 = true := by
  simp [Value.formed, mapMo.enc, Tryz.underlying48, show Tryz.prog.cellsOf 48 = 6 by kernel_rfl]
 have hk : Tryz.prog.keyType 48 = true := by kernel_rfl
 have hs : ∃ m, Tryz.prog.types.size = m + 2 := ⟨Tryz.prog.types.size - 2, by have : (2 : Nat) ≤ Tryz.prog.types.size := of_decide_eq_true (by kernel_rfl); omega⟩
 obtain ⟨m, hm⟩ := hs
 unfold keyOf
 rw [Tryz.underlying48, hm]
 dsimp only
 rw [hk, hf]
 unfold Program.keyLits
 rw [Tryz.underlying48]
 have c : Tryz.prog.cellsOf 48 = 6 := by kernel_rfl
 have c33 : Tryz.prog.cellsOf 46 = 4 := by kernel_rfl
 have c34 : Tryz.prog.cellsOf 38 = 2 := by kernel_rfl
 simp [mapMo.enc, Value.cells, c, c33, c34, k33, k34, h0, h1, h2, h3, h4, h5, mapMo.kl, mapMo.lits]
def mapMo.eqB (x y : S48) : Bool := x.f0.f0 == y.f0.f0 && (x.f0.f1 == y.f0.f1 && (x.f0.f2 == y.f0.f2 && (x.f0.f3 == y.f0.f3 && (x.f1.f0 == y.f1.f0 && x.f1.f1 == y.f1.f1))))
theorem mapMo.eqB_iff (x y : S48) : mapMo.eqB x y = true ↔ x = y := by
 obtain ⟨⟨a, b, c, d⟩, e, f⟩ := x
 obtain ⟨⟨a', b', c', d'⟩, e', f'⟩ := y
 simp only [mapMo.eqB, Bool.and_eq_true, beq_iff_eq]
 constructor
 ·rintro ⟨rfl, rfl, rfl, rfl, rfl, rfl⟩; rfl
 ·intro h; cases h; exact ⟨rfl, rfl, rfl, rfl, rfl, rfl⟩
theorem mapMo.enc_inj {x y : S48} (h : mapMo.enc x = mapMo.enc y) : x = y := by
 obtain ⟨⟨a, b, c, d⟩, e, f⟩ := x
 obtain ⟨⟨a', b', c', d'⟩, e', f'⟩ := y
 simp only [mapMo.enc, Value.agg.injEq, Array.mk.injEq, List.cons.injEq, Value.int.injEq, true_and, and_true] at h
 obtain ⟨rfl, rfl, rfl, rfl, rfl, rfl⟩ := h
 rfl
theorem mapMo.kl_inj {x y : S48} (hx : mapMo.wf x = true) (hy : mapMo.wf y = true) (h : mapMo.kl x = mapMo.kl y) : x = y := by
 have e1 := mapMo.hkey x hx
 have e2 := mapMo.hkey y hy
 rw [← h] at e2
 exact mapMo.enc_inj (mapMo.law.inj e1 e2)
def mapMo.setD (xs : List S48) (D : DataW Unit) : DataW Unit := xs.foldl (fun D x => D.put (mapMo.kl x) (.lit (.bool true))) D
theorem mapMo.setD_at (y : S48) (hy : mapMo.wf y = true) : ∀ (xs : List S48) (D : DataW Unit) (b : Bool), (∀ x ∈ xs, mapMo.wf x = true) → Go.Maps.IsMap D → D.atKey (mapMo.kl y) (.lit (.bool false)) = .lit (.bool b) →
  (mapMo.setD xs D).atKey (mapMo.kl y) (.lit (.bool false)) = .lit (.bool (b || xs.any fun x => mapMo.eqB x y))
 | [], D, b, _, _, h => by simpa [mapMo.setD] using h
 | x :: xs, D, b, hw, hD, h => by
  have hx := hw x (List.mem_cons_self)
  have ih := mapMo.setD_at y hy xs (D.put (mapMo.kl x) (.lit (.bool true))) (b || mapMo.eqB x y) (fun z hz => hw z (List.mem_cons_of_mem _ hz)) (hD.put _ _) (by
   by_cases e : x = y
   ·subst e
    rw [Go.Maps.atKey_put_same hD (mapMo.law.key (mapMo.hkey x hx))]
    rw [(mapMo.eqB_iff x x).2 rfl, Bool.or_true]
   ·rw [Go.Maps.atKey_put_other (fun g => e (mapMo.kl_inj hx hy g.symm)), h]
    have : mapMo.eqB x y = false := Bool.eq_false_iff.2 (fun g => e ((mapMo.eqB_iff x y).1 g))
    rw [this, Bool.or_false])
  rw [List.any_cons, ← Bool.or_assoc]
  exact ih
def mapMo.MS (w : World) (B : Nat) (xs : List S48) : Prop := (∀ x ∈ xs, mapMo.wf x = true) ∧ w.ownsMap Tryz.prog 48 (plainElem (H := Unit) Tryz.prog 4) B xs.length (mapMo.setD xs (.map []))
theorem mapMo.plain_inv {v : Value} {b : Bool} {ps : List MemPlace} (h : plainElem (H := Unit) Tryz.prog 4 v = some (.lit (.bool b), ps)) : v = .bool b := by
 unfold plainElem at h
 rw [Tryz.underlying4] at h
 cases v <;> simp at h
 rw [h.1]
theorem mapMo.MS_run {w : World} {B : Nat} {xs : List S48} (h : mapMo.MS w B xs) (y : S48) (hy : mapMo.wf y = true) :
  (Instr.lookup 79 (.map (some B)) (mapMo.enc y) false).run Tryz.prog w = .ok (.bool (xs.any fun x => mapMo.eqB x y)) w := by
 obtain ⟨v, ps, hrun, hv⟩ := h.2.lookup (e := 4) mapMo.law Tryz.underlying79 (z := .bool false) (by kernel_rfl) (plainElem_bool Tryz.underlying4 false) (mapMo.hkey y hy)
 rw [mapMo.setD_at y hy xs (.map []) false h.1 Go.Maps.isMap_empty rfl, Bool.false_or] at hv
 rw [hrun, mapMo.plain_inv hv]
theorem mapMo.MS_ne {w : World} {B : Nat} {xs : List S48} (h : mapMo.MS w B xs) {g : Nat} {cs : Array Value} {t : TypeId} {p : Nat × Nat} (b : w.heap[g]? = some (.cells cs t p)) : B ≠ g := by
 obtain ⟨-, es, clock, hb, -⟩ := h
 rintro rfl
 rw [hb] at b
 cases b
theorem mapMo.MS_move {w w1 : World} {B : Nat} {xs : List S48} (h : mapMo.MS w B xs) (hm : w1.heap[B]? = w.heap[B]?) : mapMo.MS w1 B xs := by
 obtain ⟨h0, es, clock, hb, r⟩ := h
 exact ⟨h0, es, clock, hm.trans hb, r⟩
theorem mapMo.MS_below {w w1 : World} {B : Nat} {xs : List S48} (h : mapMo.MS w B xs) (hb : Below w.heap.size w w1) : mapMo.MS w1 B xs := mapMo.MS_move h (hb.block B h.2.lt)
theorem mapMo.MS_alloc {w : World} {B : Nat} {xs : List S48} (h : mapMo.MS w B xs) (o : Obj) : mapMo.MS (w.alloc o) B xs := mapMo.MS_below h (below_alloc (Below.refl _ _) _)
theorem mapMo.MS_drewN {w : World} {B : Nat} {xs : List S48} (h : mapMo.MS w B xs) (n : Nat) : mapMo.MS (w.drewN n) B xs := h
theorem mapMo.MS_drew {w : World} {B : Nat} {xs : List S48} (h : mapMo.MS w B xs) : mapMo.MS w.drew B xs := h
theorem mapMo.MS_set {w : World} {B : Nat} {xs : List S48} {g j : Nat} {v : Value} (h : mapMo.MS w B xs) (hne : B ≠ g) : mapMo.MS (w.setCell ⟨g, j, none⟩ v) B xs := mapMo.MS_move h (Below.heap_setCell w _ v B hne)
theorem mapMo.MS_over {w w1 : World} {B : Nat} {xs : List S48} (h : mapMo.MS w B xs) {v : Value} {e' : Nat} (hty : ∀ k, v.ownBlock = some k → ∃ cells, w.heap[k]? = some (.cells cells e' (0, 0))) (hg : w.grownBy w1 v.ownBlock) : mapMo.MS w1 B xs :=
 mapMo.MS_move h (hg.block B h.2.lt (fun e => by obtain ⟨cs, hc⟩ := hty B e.symm; exact mapMo.MS_ne h hc rfl))
theorem mapMo.R_map {α : Type} {d : Kd α} {e : Nat} {w w1 : World} {base : Nat} {ok : Nat → Prop} {v : Value} {l : List α} (h : d.R e w base ok v l) {B : Nat} {xs : List S48} (hM : mapMo.MS w B xs) (hg : w.grownBy w1 (some B)) : d.R e w1 base ok v l :=
 Kd.R_mono (Kd.R_move (Kd.R_bound h) (fun k hk => by
  obtain ⟨_, _, hlt, _, _, cs, hc⟩ := hk
  exact hg.block k hlt (fun e => (mapMo.MS_ne hM hc) (Option.some.inj e).symm))) (fun _ hk => hk.1)
def mapMo.has (_ : Nat) (xs : List S48) (y0 y1 y2 y3 y4 y5 : Int) : Option Bool := if mapMo.wf ⟨⟨y0, y1, y2, y3⟩, ⟨y4, y5⟩⟩ = true then some (xs.any fun x => mapMo.eqB x ⟨⟨y0, y1, y2, y3⟩, ⟨y4, y5⟩⟩) else none
theorem mapMo.has_mono : ∀ (xs : List S48) (y0 y1 y2 y3 y4 y5 : Int) (k : Nat), LeO (mapMo.has k xs y0 y1 y2 y3 y4 y5) (mapMo.has (k + 1) xs y0 y1 y2 y3 y4 y5) := fun _ _ _ _ _ _ _ _ => LeO.refl _
theorem mapMo.has_inv {k : Nat} {xs : List S48} {y0 y1 y2 y3 y4 y5 : Int} {r : Bool} (A : mapMo.has k xs y0 y1 y2 y3 y4 y5 = some r) : mapMo.wf ⟨⟨y0, y1, y2, y3⟩, ⟨y4, y5⟩⟩ = true ∧ (xs.any fun x => mapMo.eqB x ⟨⟨y0, y1, y2, y3⟩, ⟨y4, y5⟩⟩) = r := by
 unfold mapMo.has at A
 by_cases h : mapMo.wf ⟨⟨y0, y1, y2, y3⟩, ⟨y4, y5⟩⟩ = true
 ·rw [if_pos h] at A; exact ⟨h, Option.some.inj A⟩
 ·rw [if_neg h] at A; cases A
theorem mapMo.blk_put {w w1 : World} {g : Nat} {cs : Array Value} {t : TypeId} (h : w.heap[g]? = some (.cells cs t (0, 0))) {B : Nat} {xs : List S48} (hM : mapMo.MS w B xs) (hg : w.grownBy w1 (some B)) : w1.heap[g]? = some (.cells cs t (0, 0)) :=
 (hg.block g (blk_lt h) (fun e => mapMo.MS_ne hM h (Option.some.inj e).symm)).trans h
theorem mapMo.below_put {w W w1 : World} {g : Nat} (h : Below w.heap.size w W) (hB : w.heap.size ≤ g) (hg : W.grownBy w1 (some g)) : Below w.heap.size w w1 :=
 h.trans ⟨hg.os, hg.tape, hg.output, hg.size, fun i hi => hg.block i (Nat.lt_of_lt_of_le hi h.size) (fun e => by have := Option.some.inj e; omega)⟩
section
variable {ops : Array Oper} {rest : List Oper} {o : Oper} {a : Act} {Q : Exit → Act → World → Prop} {Kc : Act → World → Prop} {W : World}
theorem mapMo.make_event (hgd : o.guard = none) {N : Tmp} (_hd : o.dst = some N) (hrun : (execOp a.eval o).run Tryz.prog W = .ok (.value (.map (some W.heap.size))) (W.alloc (.map #[] 0)))
  (h : ∀ g, g = W.heap.size → ∀ w1, mapMo.MS w1 g [] → Below W.heap.size W w1 → wpList Tryz.prog ops Q rest (a.put o.dst (.map (some g))) w1) : wpList Tryz.prog ops Q (o :: rest) a W :=
 Kd.event_run hgd hrun (h _ rfl _ ⟨fun _ hx => absurd hx (by simp), World.ownsMap_made W _ _ _⟩ (below_alloc (Below.refl _ _) _))
theorem mapMo.put_event (hgd : o.guard = none) (m x v : Operand) (hop : o.op = Op.mapUpdate 79 m x v) {B : Nat} {xs : List S48} (hm : a.eval m = .map (some B)) (hM : mapMo.MS W B xs) (y : S48) (hx : a.eval x = mapMo.enc y) (hv : a.eval v = .bool true) (hy : mapMo.wf y = true) (hn : xs.length < 2932031007402)
  (h : ∀ w1, mapMo.MS w1 B (xs ++ [y]) → W.grownBy w1 (some B) → wpList Tryz.prog ops Q rest (a.put o.dst undef) w1) : wpList Tryz.prog ops Q (o :: rest) a W :=
 wpList_mapUpdate_own W hgd m x v 79 hop 48 4 mapMo.law Tryz.underlying79 (plainElem (H := Unit) Tryz.prog 4) B xs.length _ hm hM.2 (by unfold maxLen; omega) _ _ _ hx hv (mapMo.hkey y hy) _ [] (plainElem_bool Tryz.underlying4 true)
  (fun w' h1 h2 => h w' ⟨fun z hz => by
   rcases List.mem_append.1 hz with hz | hz
   ·exact hM.1 z hz
   ·rw [List.mem_singleton.1 hz]; exact hy, by
   rw [List.length_append]
   unfold mapMo.setD at h1 ⊢
   rw [List.foldl_append]
   exact h1⟩ h2)
theorem mapMo.gate_ins {t : TypeId} {m x v : Operand} (_h : o.op = Op.insert t m x v) (h : wpList Tryz.prog ops Q (o :: rest) a W) : wpList Tryz.prog ops Q (o :: rest) a W := h
theorem mapMo.ins_event (hgd : o.guard = none) (m x v : Operand) (hop : o.op = Op.insert 79 m x v) {B : Nat} {xs : List S48} (hm : a.eval m = .map (some B)) (hM : mapMo.MS W B xs) (y : S48) (hx : a.eval x = mapMo.enc y) (hv : a.eval v = .bool true) (hy : mapMo.wf y = true) (hn : xs.length < 2932031007402)
  (h : ∀ w1, mapMo.MS w1 B (xs ++ [y]) → W.grownBy w1 (some B) → wpList Tryz.prog ops Q rest (a.put o.dst undef) w1) : wpList Tryz.prog ops Q (o :: rest) a W := by
 refine wpList_plain hgd fun K' hK' => ?_
 obtain ⟨w', hrun, r1, r2⟩ := hM.2.update mapMo.law Tryz.underlying79 (R := plainElem (H := Unit) Tryz.prog 4) (by unfold maxLen; omega) (mapMo.hkey y hy) (plainElem_bool Tryz.underlying4 true)
 unfold Oper.wp
 simp [execOp, hop, hm, hx, hv, hrun, Result.andThen]
 refine hK' _ _ (h w' ⟨fun z hz => ?_, ?_⟩ r2)
 ·rcases List.mem_append.1 hz with hz | hz
  ·exact hM.1 z hz
  ·rw [List.mem_singleton.1 hz]; exact hy
 ·rw [List.length_append]
  unfold mapMo.setD at r1 ⊢
  rw [List.foldl_append]
  exact r1
theorem mapMo.get_has {k : Nat} {xs : List S48} {y0 y1 y2 y3 y4 y5 : Int} {r : Bool} (A : mapMo.has k xs y0 y1 y2 y3 y4 y5 = some r) (hgd : o.guard = none) (m x : Operand) (hop : o.op = Op.lookup 79 m x false) {B : Nat} (hm : a.eval m = .map (some B)) (hM : mapMo.MS W B xs) (hx : a.eval x = mapMo.enc ⟨⟨y0, y1, y2, y3⟩, ⟨y4, y5⟩⟩)
  (h : wpList Tryz.prog ops Q rest (a.put o.dst (.bool r)) W) : wpList Tryz.prog ops Q (o :: rest) a W := by
 obtain ⟨hy, hr⟩ := mapMo.has_inv A
 subst hr
 exact Kd.event_run hgd (by simp [execOp, hop, hm, hx, mapMo.MS_run hM _ hy, Result.andThen]) h
theorem mapMo.get_call {k : Nat} {xs : List S48} {y0 y1 y2 y3 y4 y5 : Int} {r : Bool} (A : mapMo.has k xs y0 y1 y2 y3 y4 y5 = some r) (hgd : o.guard = none) (m x : Operand) (hop : o.op = Op.lookup 79 m x false) {B : Nat} (hm : a.eval m = .map (some B)) (hM : mapMo.MS W B xs) (hx : a.eval x = mapMo.enc ⟨⟨y0, y1, y2, y3⟩, ⟨y4, y5⟩⟩)
  (h : ∀ w1, Below W.heap.size W w1 → wpList Tryz.prog ops Q rest (a.put o.dst (.bool r)) w1) : wpList Tryz.prog ops Q (o :: rest) a W := mapMo.get_has A hgd m x hop hm hM hx (h W (Below.refl _ _))
theorem mapMo.get_step {k : Nat} {xs : List S48} {y0 y1 y2 y3 y4 y5 : Int} {r : Bool} (A : mapMo.has k xs y0 y1 y2 y3 y4 y5 = some r) (hw : Region.wanted o (yielded ops a.tmps) = true) {N : Option Tmp} (hN : o.dst = N) (m x : Operand) (hop : o.op = Op.lookup 79 m x false) {B : Nat} (hm : a.eval m = .map (some B)) (hM : mapMo.MS W B xs) (hx : a.eval x = mapMo.enc ⟨⟨y0, y1, y2, y3⟩, ⟨y4, y5⟩⟩)
  (h : Kc (a.put N (.bool r)) W) : if Region.wanted o (yielded ops a.tmps) = true then Oper.wp Tryz.prog o a W Kc Q else Kc (a.put N undef) W := by
 obtain ⟨hy, hr⟩ := mapMo.has_inv A
 subst hr
 subst hN
 exact event_step hw (by simp [execOp, hop, hm, hx, mapMo.MS_run hM _ hy, Result.andThen]) h
end
end Go.Proofs.YtdodghjnlekgeaaGreat.PA
