/- Walks written by program: each Go function that the law reaches comes to the plain function beside it. -/
import Derived.Test.YtedmadofpdkekaaGreatPAx0
import Derived.Test.YtedmadofpdkekaaGreatPAx3
import Derived.Test.YtedmadofpdkekaaGreatPAx6
import Derived.Test.YtedmadofpdkekaaGreatPAx8
import Derived.Test.YtedmadofpdkekaaGreatPAx11
import Derived.Test.YtedmadofpdkekaaGreatPAx12
import Derived.Test.YtedmadofpdkekaaGreatPAx13
namespace Go.Proofs.YtedmadofpdkekaaGreat.PA
open Go.RowKit Go.Proofs.YtedmadofpdkekaaGreatW.PrintWords Go.Proofs.YtedmadofpdkekaaGreatW.PrintLast Go.Proofs.YtedmadofpdkekaaGreatW.PrintMore
attribute [local go_sem] max2_int min2_int max_two min_two max_three min_three max_four min_four   -- for this text's walks alone
set_option linter.unusedVariables false
set_option linter.unusedSimpArgs false

attribute [local go_sem high] eqA31
/-! ### spec_l11Invariant: function 25 -/
def spec_l11Invariant.l0 : Nat → Int → Int → Int → Int → Int → Int → Option (Int × Int)
 | 0, _, _, _, _, _, _ => none
 | k + 1, x9, x515000, x515001, x515002, x521000, x521001 => (spec_l01Scale.f x521000 x521001 x9).bind fun bt521 => ((spec_l03Has.f x515000 x515001 x515002 bt521.1 bt521.2).bind fun t524 => (if t524 = true then (some (bt521.1, bt521.2)) else (spec_l11Invariant.l0 k (wrap64 (x9 + 1)) x515000 x515001 x515002 x521000 x521001)))
def spec_l11Invariant.f (k : Nat) (a0_0 : Int) (a0_1 : Int) (a0_2 : Int) (a1_0 : Int) (a1_1 : Int) (a1_2 : Int) (a1_3 : Int) (a2 : Int) : Option (Int × Int) := (spec_l02Axis.f k (wrap64 (a2 * a1_0)) (wrap64 (a2 * a1_1)) (wrap64 (a2 * a1_2)) (wrap64 (a2 * a1_3))).bind fun bt518 => (spec_l11Invariant.l0 k 1 a0_0 a0_1 a0_2 bt518.1 bt518.2)
set_option maxHeartbeats 8000000 in
set_option maxRecDepth 100000 in
theorem spec_l11Invariant.calls (k : Nat) (a0_0 : Int) (a0_1 : Int) (a0_2 : Int) (a1_0 : Int) (a1_1 : Int) (a1_2 : Int) (a1_3 : Int) (a2 : Int) (r1 : Int) (r2 : Int) (w : World) (h : spec_l11Invariant.f k a0_0 a0_1 a0_2 a1_0 a1_1 a1_2 a1_3 a2 = some (r1, r2)) :
  Calls Tryz.prog 25 #[.agg #[.int .i64 a0_0, .int .i64 a0_1, .int .i64 a0_2], .agg #[.int .i64 a1_0, .int .i64 a1_1, .int .i64 a1_2, .int .i64 a1_3], .int .i64 a2] w fun e w' => e = .returned (.agg #[.int .i64 r1, .int .i64 r2]) ∧ Below w.heap.size w w' := by
 have hu25 := Tryz.underlying25
 have hu27 := Tryz.underlying27
 have hu31 := Tryz.underlying31
 have HB := asd (Below.refl w.heap.size w)
 have H : ((spec_l02Axis.f k (wrap64 (a2 * a1_0)) (wrap64 (a2 * a1_1)) (wrap64 (a2 * a1_2)) (wrap64 (a2 * a1_3))).bind fun bt518 => (spec_l11Invariant.l0 k 1 a0_0 a0_1 a0_2 bt518.1 bt518.2)) = some (r1, r2) := h
 clear h
 obtain ⟨⟨t518, t519⟩, A4, H⟩ := ob H
 try dsimp only at H
 have H' := Aside0.mk H
 clear H
 go_enter Tryz.func25, Tryz.ntmps25
 go_wp2_with (first | ((with_reducible refine gd 3 rfl ?_); refine bx #[.int .i64 a0_0, .int .i64 a0_1, .int .i64 a0_2] 25 ?_; intro gb514 hg w5 BK514 hb; have GE514 := ngw0 hg HB; replace HB := bS0 HB hb; clear hb hg) | ((with_reducible refine gd 4 rfl ?_); refine bx #[.int .i64 a1_0, .int .i64 a1_1, .int .i64 a1_2, .int .i64 a1_3] 27 ?_; intro gb515 hg w6 BK515 hb; have GE515 := ngw1 hg HB GE514; replace HB := bS1 HB GE514 hb; have NB514_515 := nlt hg BK514; have NB515_514 := nsy (nlt hg BK514); replace BK514 := bB BK514 hb; clear hb hg) | ((with_reducible refine gd 6 rfl ?_); refine bx #[.int .i64 0, .int .i64 0] 31 ?_; intro gb516 hg w7 BK516 hb; have GE516 := ngw2 hg HB GE514 GE515; replace HB := bS2 HB GE514 GE515 hb; have NB514_516 := nlt hg BK514; have NB516_514 := nsy (nlt hg BK514); replace BK514 := bB BK514 hb; have NB515_516 := nlt hg BK515; have NB516_515 := nsy (nlt hg BK515); replace BK515 := bB BK515 hb; clear hb hg; have hnb8 := NB515_514.out; have hnc8 := NB514_515.out; have hnb9 := NB515_516.out; have hnc9 := NB516_515.out; obtain ⟨hcz10_0, hcz10_1, hcz10_2, hcz10_3, hfz10_0, hfz10_1, hfz10_2, hfz10_3⟩ := bz4 BK515) | ((with_reducible refine gd 7 rfl ?_); refine bx #[.int .i64 0, .int .i64 0, .int .i64 0, .int .i64 0] 27 ?_; intro gb517 hg w11 BK517 hb; have GE517 := ngw3 hg HB GE514 GE515 GE516; replace HB := bS3 HB GE514 GE515 GE516 hb; have NB514_517 := nlt hg BK514; have NB517_514 := nsy (nlt hg BK514); replace BK514 := bB BK514 hb; have NB515_517 := nlt hg BK515; have NB517_515 := nsy (nlt hg BK515); replace BK515 := bB BK515 hb; have NB516_517 := nlt hg BK516; have NB517_516 := nsy (nlt hg BK516); replace BK516 := bB BK516 hb; clear hb hg; have hnb12 := NB517_514.out; have hnc12 := NB514_517.out; have hnb13 := NB517_515.out; have hnc13 := NB515_517.out; have hnb14 := NB517_516.out; have hnc14 := NB516_517.out; obtain ⟨hcz15_0, hcz15_1, hcz15_2, hcz15_3, hfz15_0, hfz15_1, hfz15_2, hfz15_3⟩ := bz4 BK517) | ((with_reducible refine gate_callee (f := 53) rfl ?_); refine gl 29 Tryz.func53 #[.agg #[.int .i64 (wrap64 (a2 * a1_0)), .int .i64 (wrap64 (a2 * a1_1)), .int .i64 (wrap64 (a2 * a1_2)), .int .i64 (wrap64 (a2 * a1_3))]] ?_; (with_reducible refine (spec_l02Axis.calls _ _ _ _ _ _ _ _ A4.out).mono ?_); rintro e w16 ⟨rfl, hb⟩; refine ⟨_, rfl, ?_⟩; replace BK514 := asd (blk_below (g := gb514) (o := .cells #[.int .i64 a0_0, .int .i64 a0_1, .int .i64 a0_2] 25 (0, 0)) (bq1 BK514 NB514_517) hb); replace BK515 := asd (blk_below (g := gb515) (o := .cells #[.int .i64 a1_0, .int .i64 a1_1, .int .i64 a1_2, .int .i64 a1_3] 27 (0, 0)) (bq1 BK515 NB515_517) hb); replace BK516 := asd (blk_below (g := gb516) (o := .cells #[.int .i64 0, .int .i64 0] 31 (0, 0)) (bq1 BK516 NB516_517) hb); replace BK517 := asd (blk_below (g := gb517) (o := .cells #[.int .i64 (wrap64 (a2 * a1_0)), .int .i64 (wrap64 (a2 * a1_1)), .int .i64 (wrap64 (a2 * a1_2)), .int .i64 (wrap64 (a2 * a1_3))] 27 (0, 0)) (bq0 BK517) hb); replace HB := bS4 HB GE514 GE515 GE516 GE517 hb; (try clear hb)) | ((with_reducible refine gd 8 rfl ?_); refine bx #[.int .i64 0, .int .i64 0] 31 ?_; intro gb520 hg w17 BK520 hb; have GE520 := ngw4 hg HB GE514 GE515 GE516 GE517; replace HB := bS4 HB GE514 GE515 GE516 GE517 hb; have NB514_520 := nlt hg BK514; have NB520_514 := nsy (nlt hg BK514); replace BK514 := bB BK514 hb; have NB515_520 := nlt hg BK515; have NB520_515 := nsy (nlt hg BK515); replace BK515 := bB BK515 hb; have NB516_520 := nlt hg BK516; have NB520_516 := nsy (nlt hg BK516); replace BK516 := bB BK516 hb; have NB517_520 := nlt hg BK517; have NB520_517 := nsy (nlt hg BK517); replace BK517 := bB BK517 hb; clear hb hg; have hnb18 := NB520_514.out; have hnc18 := NB514_520.out; have hnb19 := NB520_515.out; have hnc19 := NB515_520.out; have hnb20 := NB520_516.out; have hnc20 := NB516_520.out; have hnb21 := NB520_517.out; have hnc21 := NB517_520.out; obtain ⟨hcz22_0, hcz22_1, hfz22_0, hfz22_1⟩ := bz2 BK520))
 go_loopg [9] k (fun kq v9 w' => ∃ (x9_1 : Int) (x517000_1 : Int) (x517001_1 : Int), v9 = .int .i64 x9_1 ∧ Aside0 (spec_l11Invariant.l0 kq x9_1 a0_0 a0_1 a0_2 t518 t519 = some (r1, r2)) ∧ Aside0 (kq ≤ k) ∧ Aside0 (w'.heap[gb514]? = some (.cells #[.int .i64 a0_0, .int .i64 a0_1, .int .i64 a0_2] 25 (0, 0))) ∧ Aside0 (w'.heap[gb515]? = some (.cells #[.int .i64 a1_0, .int .i64 a1_1, .int .i64 a1_2, .int .i64 a1_3] 27 (0, 0))) ∧ Aside0 (w'.heap[gb516]? = some (.cells #[.int .i64 x517000_1, .int .i64 x517001_1] 31 (0, 0))) ∧ Aside0 (w'.heap[gb517]? = some (.cells #[.int .i64 (wrap64 (a2 * a1_0)), .int .i64 (wrap64 (a2 * a1_1)), .int .i64 (wrap64 (a2 * a1_2)), .int .i64 (wrap64 (a2 * a1_3))] 27 (0, 0))) ∧ Aside0 (w'.heap[gb520]? = some (.cells #[.int .i64 t518, .int .i64 t519] 31 (0, 0))) ∧ Aside0 (Below w.heap.size w w'))
 case atStart => exact ⟨(1), (0), (0), (by first | rfl | (simp; done) | (simp [*]; done)), H', ⟨Nat.le_refl _⟩, ⟨bq1 BK514 NB514_520⟩, ⟨bq1 BK515 NB515_520⟩, ⟨bq1 BK516 NB516_520⟩, ⟨bq1 BK517 NB517_520⟩, ⟨bq0 BK520⟩, ⟨by repeat (first | (with_reducible first | exact HB.out | apply below_alloc | apply pw_below_drewN | apply below_drew1 | refine below_set ?_ GE514.out | refine below_set ?_ GE515.out | refine below_set ?_ GE516.out | refine below_set ?_ GE517.out | refine below_set ?_ GE520.out) | exact HB.out)⟩⟩
 case round =>
  clear H'
  try clear c1
  try clear c2
  try clear p2
  try clear c5
  try clear p6
  try clear c8
  try clear c9
  try clear c12
  try clear c13
  try clear c14
  try clear c18
  try clear c19
  try clear c20
  try clear c21
  try clear hcz10_0
  try clear hcz10_1
  try clear hcz10_2
  try clear hcz10_3
  try clear hcz15_0
  try clear hcz15_1
  try clear hcz15_2
  try clear hcz15_3
  try clear hcz22_0
  try clear hcz22_1
  try clear hfz10_0
  try clear hfz10_1
  try clear hfz10_2
  try clear hfz10_3
  try clear hfz15_0
  try clear hfz15_1
  try clear hfz15_2
  try clear hfz15_3
  try clear hfz22_0
  try clear hfz22_1
  obtain ⟨x9_1, x517000_1, x517001_1, rfl, HA, HK1, BK514, BK515, BK516, BK517, BK520, HB⟩ := hrel
  cases gk with
  | zero => exact absurd HA.out (by simp [spec_l11Invariant.l0])
  | succ k1 =>
   have H := HA.out
   clear HA
   simp only [spec_l11Invariant.l0] at H
   obtain ⟨⟨t521, t522⟩, A23, H⟩ := ob H
   try dsimp only at H
   obtain ⟨t524, A24, H⟩ := ob H
   try dsimp only at H
   by_cases c25 : t524 = true
   subst c25
   replace H := ifT H
   rotate_left
   replace c25 := Bool.eq_false_iff.mpr c25
   subst c25
   replace H := ifF H
   have H' := Aside0.mk H
   clear H
   rotate_left
   simp only [Option.some.injEq, Prod.mk.injEq] at H
   obtain ⟨rfl, rfl⟩ := H
   rotate_left 2
   all_goals
    have hnb26 := NB520_514.out
    have hnc26 := NB514_520.out
    have hnb27 := NB520_515.out
    have hnc27 := NB515_520.out
    have hnb28 := NB520_516.out
    have hnc28 := NB516_520.out
    have hnb29 := NB520_517.out
    have hnc29 := NB517_520.out
    obtain ⟨hcz30_0, hcz30_1, hfz30_0, hfz30_1⟩ := bz2 BK520
   ·go_wp2_with (first | ((with_reducible refine gate_callee (f := 54) rfl ?_); refine gl 34 Tryz.func54 #[.agg #[.int .i64 t518, .int .i64 t519], .int .i64 x9_1] ?_; (with_reducible refine (spec_l01Scale.calls _ _ _ _ _ _ A23.out).mono ?_); rintro e w31 ⟨rfl, hb⟩; refine ⟨_, rfl, ?_⟩; replace BK514 := bB BK514 hb; replace BK515 := bB BK515 hb; replace BK516 := bB BK516 hb; replace BK517 := bB BK517 hb; replace BK520 := bB BK520 hb; replace HB := asd (below_step (by repeat (first | (with_reducible first | exact HB.out | apply below_alloc | apply pw_below_drewN | apply below_drew1 | refine below_set ?_ GE514.out | refine below_set ?_ GE515.out | refine below_set ?_ GE516.out | refine below_set ?_ GE517.out | refine below_set ?_ GE520.out) | exact HB.out)) hb); (try clear hb)) | ((with_reducible refine gd 10 rfl ?_); refine bx #[.int .i64 0, .int .i64 0] 31 ?_; intro gb523 hg w32 BK523 hb; have GW523 := asd ((by rw [hg]; exact (below_size (by repeat (first | (with_reducible first | exact HB.out | apply below_alloc | apply pw_below_drewN | apply below_drew1 | refine below_set ?_ GE514.out | refine below_set ?_ GE515.out | refine below_set ?_ GE516.out | refine below_set ?_ GE517.out | refine below_set ?_ GE520.out) | exact HB.out))) : w.heap.size ≤ gb523)); have GE523 := asd ((by rw [hg]; exact (below_size (by repeat (first | (with_reducible first | exact HB.out | apply below_alloc | apply pw_below_drewN | apply below_drew1 | refine below_set ?_ GE514.out | refine below_set ?_ GE515.out | refine below_set ?_ GE516.out | refine below_set ?_ GE517.out | refine below_set ?_ GE520.out) | exact HB.out))) : w.heap.size ≤ gb523)); replace HB := asd (below_step (by repeat (first | (with_reducible first | exact HB.out | apply below_alloc | apply pw_below_drewN | apply below_drew1 | refine below_set ?_ GE514.out | refine below_set ?_ GE515.out | refine below_set ?_ GE516.out | refine below_set ?_ GE517.out | refine below_set ?_ GE520.out) | exact HB.out)) hb); have NB514_523 := nlt hg BK514; have NB523_514 := nsy (nlt hg BK514); replace BK514 := bB BK514 hb; have NB515_523 := nlt hg BK515; have NB523_515 := nsy (nlt hg BK515); replace BK515 := bB BK515 hb; have NB516_523 := nlt hg BK516; have NB523_516 := nsy (nlt hg BK516); replace BK516 := bB BK516 hb; have NB517_523 := nlt hg BK517; have NB523_517 := nsy (nlt hg BK517); replace BK517 := bB BK517 hb; have NB520_523 := nlt hg BK520; have NB523_520 := nsy (nlt hg BK520); replace BK520 := bB BK520 hb; clear hb hg; have hnb33 := NB523_514.out; have hnc33 := NB514_523.out; have hnb34 := NB523_515.out; have hnc34 := NB515_523.out; have hnb35 := NB523_516.out; have hnc35 := NB516_523.out; have hnb36 := NB523_517.out; have hnc36 := NB517_523.out; have hnb37 := NB523_520.out; have hnc37 := NB520_523.out; obtain ⟨hcz38_0, hcz38_1, hfz38_0, hfz38_1⟩ := bz2 BK523; have hnb39 := NB514_515.out; have hnc39 := NB515_514.out; have hnb40 := NB514_516.out; have hnc40 := NB516_514.out; have hnb41 := NB514_517.out; have hnc41 := NB517_514.out; obtain ⟨hcz42_0, hcz42_1, hcz42_2, hfz42_0, hfz42_1, hfz42_2⟩ := bz3 BK514) | ((with_reducible refine gate_callee (f := 55) rfl ?_); refine gl 37 Tryz.func55 #[.agg #[.int .i64 a0_0, .int .i64 a0_1, .int .i64 a0_2], .agg #[.int .i64 t521, .int .i64 t522]] ?_; (with_reducible refine (spec_l03Has.calls _ _ _ _ _ _ _ A24.out).mono ?_); rintro e w43 ⟨rfl, hb⟩; refine ⟨_, rfl, ?_⟩; replace BK514 := asd (blk_below (g := gb514) (o := .cells #[.int .i64 a0_0, .int .i64 a0_1, .int .i64 a0_2] 25 (0, 0)) (bq1 BK514 NB514_523) hb); replace BK515 := asd (blk_below (g := gb515) (o := .cells #[.int .i64 a1_0, .int .i64 a1_1, .int .i64 a1_2, .int .i64 a1_3] 27 (0, 0)) (bq1 BK515 NB515_523) hb); replace BK516 := asd (blk_below (g := gb516) (o := .cells #[.int .i64 x517000_1, .int .i64 x517001_1] 31 (0, 0)) (bq1 BK516 NB516_523) hb); replace BK517 := asd (blk_below (g := gb517) (o := .cells #[.int .i64 (wrap64 (a2 * a1_0)), .int .i64 (wrap64 (a2 * a1_1)), .int .i64 (wrap64 (a2 * a1_2)), .int .i64 (wrap64 (a2 * a1_3))] 27 (0, 0)) (bq1 BK517 NB517_523) hb); replace BK520 := asd (blk_below (g := gb520) (o := .cells #[.int .i64 t518, .int .i64 t519] 31 (0, 0)) (bq1 BK520 NB520_523) hb); replace BK523 := asd (blk_below (g := gb523) (o := .cells #[.int .i64 t521, .int .i64 t522] 31 (0, 0)) (bq0 BK523) hb); replace HB := asd (below_step (by repeat (first | (with_reducible first | exact HB.out | apply below_alloc | apply pw_below_drewN | apply below_drew1 | refine below_set ?_ GE514.out | refine below_set ?_ GE515.out | refine below_set ?_ GE516.out | refine below_set ?_ GE517.out | refine below_set ?_ GE520.out | refine below_set ?_ GE523.out) | exact HB.out)) hb); (try clear hb); obtain ⟨hcz44_0, hcz44_1, hfz44_0, hfz44_1⟩ := bz2 BK523; have hnb45 := NB516_515.out; have hnc45 := NB515_516.out; have hnb46 := NB516_517.out; have hnc46 := NB517_516.out; obtain ⟨hcz47_0, hcz47_1, hfz47_0, hfz47_1⟩ := bz2 BK516))
    refine bodyPost_ret (results_cell_row rfl _ _ gb516 31 #[.int .i64 t521, .int .i64 t522] (0, 0) _ rfl (bq0 BK516) Tryz.underlying31 rfl (by kernel_rfl)) rfl ?_
    exact ⟨by first | rfl | (simp [errW_none, errW_some] <;> rfl) | (simp [*, errW_none, errW_some] <;> rfl), by repeat (first | (with_reducible first | exact HB.out | apply below_alloc | apply pw_below_drewN | apply below_drew1 | refine below_set ?_ GE514.out | refine below_set ?_ GE515.out | refine below_set ?_ GE516.out | refine below_set ?_ GE517.out | refine below_set ?_ GE520.out | refine below_set ?_ GE523.out) | exact HB.out)⟩
   ·go_wp2_with (first | ((with_reducible refine gate_callee (f := 54) rfl ?_); refine gl 34 Tryz.func54 #[.agg #[.int .i64 t518, .int .i64 t519], .int .i64 x9_1] ?_; (with_reducible refine (spec_l01Scale.calls _ _ _ _ _ _ A23.out).mono ?_); rintro e w53 ⟨rfl, hb⟩; refine ⟨_, rfl, ?_⟩; replace BK514 := bB BK514 hb; replace BK515 := bB BK515 hb; replace BK516 := bB BK516 hb; replace BK517 := bB BK517 hb; replace BK520 := bB BK520 hb; replace HB := asd (below_step (by repeat (first | (with_reducible first | exact HB.out | apply below_alloc | apply pw_below_drewN | apply below_drew1 | refine below_set ?_ GE514.out | refine below_set ?_ GE515.out | refine below_set ?_ GE516.out | refine below_set ?_ GE517.out | refine below_set ?_ GE520.out) | exact HB.out)) hb); (try clear hb)) | ((with_reducible refine gd 10 rfl ?_); refine bx #[.int .i64 0, .int .i64 0] 31 ?_; intro gb523 hg w54 BK523 hb; have GW523 := asd ((by rw [hg]; exact (below_size (by repeat (first | (with_reducible first | exact HB.out | apply below_alloc | apply pw_below_drewN | apply below_drew1 | refine below_set ?_ GE514.out | refine below_set ?_ GE515.out | refine below_set ?_ GE516.out | refine below_set ?_ GE517.out | refine below_set ?_ GE520.out) | exact HB.out))) : w.heap.size ≤ gb523)); have GE523 := asd ((by rw [hg]; exact (below_size (by repeat (first | (with_reducible first | exact HB.out | apply below_alloc | apply pw_below_drewN | apply below_drew1 | refine below_set ?_ GE514.out | refine below_set ?_ GE515.out | refine below_set ?_ GE516.out | refine below_set ?_ GE517.out | refine below_set ?_ GE520.out) | exact HB.out))) : w.heap.size ≤ gb523)); replace HB := asd (below_step (by repeat (first | (with_reducible first | exact HB.out | apply below_alloc | apply pw_below_drewN | apply below_drew1 | refine below_set ?_ GE514.out | refine below_set ?_ GE515.out | refine below_set ?_ GE516.out | refine below_set ?_ GE517.out | refine below_set ?_ GE520.out) | exact HB.out)) hb); have NB514_523 := nlt hg BK514; have NB523_514 := nsy (nlt hg BK514); replace BK514 := bB BK514 hb; have NB515_523 := nlt hg BK515; have NB523_515 := nsy (nlt hg BK515); replace BK515 := bB BK515 hb; have NB516_523 := nlt hg BK516; have NB523_516 := nsy (nlt hg BK516); replace BK516 := bB BK516 hb; have NB517_523 := nlt hg BK517; have NB523_517 := nsy (nlt hg BK517); replace BK517 := bB BK517 hb; have NB520_523 := nlt hg BK520; have NB523_520 := nsy (nlt hg BK520); replace BK520 := bB BK520 hb; clear hb hg; have hnb55 := NB523_514.out; have hnc55 := NB514_523.out; have hnb56 := NB523_515.out; have hnc56 := NB515_523.out; have hnb57 := NB523_516.out; have hnc57 := NB516_523.out; have hnb58 := NB523_517.out; have hnc58 := NB517_523.out; have hnb59 := NB523_520.out; have hnc59 := NB520_523.out; obtain ⟨hcz60_0, hcz60_1, hfz60_0, hfz60_1⟩ := bz2 BK523; have hnb61 := NB514_515.out; have hnc61 := NB515_514.out; have hnb62 := NB514_516.out; have hnc62 := NB516_514.out; have hnb63 := NB514_517.out; have hnc63 := NB517_514.out; obtain ⟨hcz64_0, hcz64_1, hcz64_2, hfz64_0, hfz64_1, hfz64_2⟩ := bz3 BK514) | ((with_reducible refine gate_callee (f := 55) rfl ?_); refine gl 37 Tryz.func55 #[.agg #[.int .i64 a0_0, .int .i64 a0_1, .int .i64 a0_2], .agg #[.int .i64 t521, .int .i64 t522]] ?_; (with_reducible refine (spec_l03Has.calls _ _ _ _ _ _ _ A24.out).mono ?_); rintro e w65 ⟨rfl, hb⟩; refine ⟨_, rfl, ?_⟩; replace BK514 := asd (blk_below (g := gb514) (o := .cells #[.int .i64 a0_0, .int .i64 a0_1, .int .i64 a0_2] 25 (0, 0)) (bq1 BK514 NB514_523) hb); replace BK515 := asd (blk_below (g := gb515) (o := .cells #[.int .i64 a1_0, .int .i64 a1_1, .int .i64 a1_2, .int .i64 a1_3] 27 (0, 0)) (bq1 BK515 NB515_523) hb); replace BK516 := asd (blk_below (g := gb516) (o := .cells #[.int .i64 x517000_1, .int .i64 x517001_1] 31 (0, 0)) (bq1 BK516 NB516_523) hb); replace BK517 := asd (blk_below (g := gb517) (o := .cells #[.int .i64 (wrap64 (a2 * a1_0)), .int .i64 (wrap64 (a2 * a1_1)), .int .i64 (wrap64 (a2 * a1_2)), .int .i64 (wrap64 (a2 * a1_3))] 27 (0, 0)) (bq1 BK517 NB517_523) hb); replace BK520 := asd (blk_below (g := gb520) (o := .cells #[.int .i64 t518, .int .i64 t519] 31 (0, 0)) (bq1 BK520 NB520_523) hb); replace BK523 := asd (blk_below (g := gb523) (o := .cells #[.int .i64 t521, .int .i64 t522] 31 (0, 0)) (bq0 BK523) hb); replace HB := asd (below_step (by repeat (first | (with_reducible first | exact HB.out | apply below_alloc | apply pw_below_drewN | apply below_drew1 | refine below_set ?_ GE514.out | refine below_set ?_ GE515.out | refine below_set ?_ GE516.out | refine below_set ?_ GE517.out | refine below_set ?_ GE520.out | refine below_set ?_ GE523.out) | exact HB.out)) hb); (try clear hb)))
    go_roundg k1
    case measure => have := HK1.out; omega
    case rel => exact ⟨(wrap64 (x9_1 + 1)), (x517000_1), (x517001_1), (by first | rfl | (simp; done) | (simp [*]; done)), H', ⟨by have := HK1.out; omega⟩, ⟨bkp BK514⟩, ⟨bkp BK515⟩, ⟨bkp BK516⟩, ⟨bkp BK517⟩, ⟨bkp BK520⟩, ⟨by repeat (first | (with_reducible first | exact HB.out | apply below_alloc | apply pw_below_drewN | apply below_drew1 | refine below_set ?_ GE514.out | refine below_set ?_ GE515.out | refine below_set ?_ GE516.out | refine below_set ?_ GE517.out | refine below_set ?_ GE520.out | refine below_set ?_ GE523.out) | exact HB.out)⟩⟩
/-! ### spec_InvariantVec: function 7 -/
def spec_InvariantVec.f (k : Nat) (a0 : Int) (a1_0 : Int) (a1_1 : Int) (a1_2 : Int) (a2_0 : Int) (a2_1 : Int) (a2_2 : Int) (a2_3 : Int) : Option (Int × Int × Int) := (spec_l11Mirror.f k a0 a1_0 a1_1 a1_2 a2_0 a2_1 a2_2 a2_3).bind fun t528 => ((spec_l06Code.f a0 a1_0 a1_1 a1_2 t528).bind fun t529 => (if t529 = 0 then ((spec_l11Invariant.f k a1_0 a1_1 a1_2 a2_0 a2_1 a2_2 a2_3 1).bind fun bt530 => (some (bt530.1, bt530.2, 0))) else (some (0, 0, t529))))
def spec_InvariantVec.T1 : Bool × List (List Nat × List Nat) := (true, [([], []), ([], []), ([], []), ([], []), ([], []), ([2, 3, 4], [2, 3, 4]), ([0, 1, 5, 5], [0, 1, 5]), ([6, 6, 0, 1, 2, 3, 4, 5, 6], [6])])
def spec_InvariantVec.B1 : List Nat := [0, 0, 0, 0, 0, 28, 63, 127]
theorem spec_InvariantVec.tab1 : rtab .any (opsOf Tryz.f7 1) = spec_InvariantVec.T1 := by kernel_rfl
theorem spec_InvariantVec.bits1 : waitsOk spec_InvariantVec.T1.2 spec_InvariantVec.B1 = true := by kernel_rfl
set_option maxHeartbeats 8000000 in
set_option maxRecDepth 100000 in
theorem spec_InvariantVec.calls (k : Nat) (a0 : Int) (a1_0 : Int) (a1_1 : Int) (a1_2 : Int) (a2_0 : Int) (a2_1 : Int) (a2_2 : Int) (a2_3 : Int) (r1 : Int) (r2 : Int) (r3 : Int) (w : World) (h : spec_InvariantVec.f k a0 a1_0 a1_1 a1_2 a2_0 a2_1 a2_2 a2_3 = some (r1, r2, r3)) :
  Calls Tryz.prog 7 #[.int .i64 a0, .agg #[.int .i64 a1_0, .int .i64 a1_1, .int .i64 a1_2], .agg #[.int .i64 a2_0, .int .i64 a2_1, .int .i64 a2_2, .int .i64 a2_3]] w fun e w' => e = .returned (.tuple #[.agg #[.int .i64 r1, .int .i64 r2], .int .i64 r3]) ∧ Below w.heap.size w w' := by
 have hu25 := Tryz.underlying25
 have hu27 := Tryz.underlying27
 have hu31 := Tryz.underlying31
 have HB := asd (Below.refl w.heap.size w)
 have H : ((spec_l11Mirror.f k a0 a1_0 a1_1 a1_2 a2_0 a2_1 a2_2 a2_3).bind fun t528 => ((spec_l06Code.f a0 a1_0 a1_1 a1_2 t528).bind fun t529 => (if t529 = 0 then ((spec_l11Invariant.f k a1_0 a1_1 a1_2 a2_0 a2_1 a2_2 a2_3 1).bind fun bt530 => (some (bt530.1, bt530.2, 0))) else (some (0, 0, t529))))) = some (r1, r2, r3) := h
 clear h
 obtain ⟨t528, A4, H⟩ := ob H
 try dsimp only at H
 obtain ⟨t529, A5, H⟩ := ob H
 try dsimp only at H
 by_cases c6 : t529 = 0
 rw [if_pos c6] at H
 have c6b0 : (t529 == 0) = true := beq_iff_eq.mpr c6
 have c6b1 : (t529 != 0) = false := bne_eq_false_iff_eq.mpr c6
 clear c6
 obtain ⟨⟨t530, t531⟩, A7, H⟩ := ob H
 try dsimp only at H
 rotate_left
 rw [if_neg c6] at H
 have c6b0 : (t529 == 0) = false := beq_eq_false_iff_ne.mpr c6
 have c6b1 : (t529 != 0) = true := bne_iff_ne.mpr c6
 rotate_left
 all_goals
  simp only [Option.some.injEq, Prod.mk.injEq] at H
  obtain ⟨rfl, rfl, rfl⟩ := H
  go_enter Tryz.func7, Tryz.ntmps7
  try go_wp2_with (first | ((with_reducible refine gd 4 rfl ?_); refine bx #[.int .i64 a1_0, .int .i64 a1_1, .int .i64 a1_2] 25 ?_; intro gb525 hg w8 BK525 hb; have GE525 := ngw0 hg HB; replace HB := bS0 HB hb; clear hb hg) | ((with_reducible refine gd 5 rfl ?_); refine bx #[.int .i64 a2_0, .int .i64 a2_1, .int .i64 a2_2, .int .i64 a2_3] 27 ?_; intro gb526 hg w9 BK526 hb; have GE526 := ngw1 hg HB GE525; replace HB := bS1 HB GE525 hb; have NB525_526 := nlt hg BK525; have NB526_525 := nsy (nlt hg BK525); replace BK525 := bB BK525 hb; clear hb hg) | ((with_reducible refine gd 6 rfl ?_); refine bx #[.int .i64 0, .int .i64 0] 31 ?_; intro gb527 hg w10 BK527 hb; have GE527 := ngw2 hg HB GE525 GE526; replace HB := bS2 HB GE525 GE526 hb; have NB525_527 := nlt hg BK525; have NB527_525 := nsy (nlt hg BK525); replace BK525 := bB BK525 hb; have NB526_527 := nlt hg BK526; have NB527_526 := nsy (nlt hg BK526); replace BK526 := bB BK526 hb; clear hb hg))
  replace BK525 := asd (blk_drew BK525.out)
  replace BK526 := asd (blk_drew BK526.out)
  replace BK527 := asd (blk_drew BK527.out)
  replace HB := asd (below_drew1 HB.out)
  refine sh 8 (cb3 BK525 (eb4 BK526)) (fun hHeld => ?_); refine with_tabW spec_InvariantVec.tab1 spec_InvariantVec.bits1 (fun HT_ HW_ => ?_)
  generalize w10.drew = w11 at BK525 BK526 BK527 HB hHeld ⊢
  refine pu 0 (some 9) (bT 8 1) HT_ ?_
  refine pu 2 (some 11) (bs 8 5) HT_ ?_
  refine ta 1 (some 10) (bT 8 3) HT_ HW_ hHeld ?_
  refine ta 3 (some 12) (bT 8 4) HT_ HW_ hHeld ?_
  refine ta 4 (some 13) (bT 8 5) HT_ HW_ hHeld ?_
  refine ro 5 (some 14) (bT 8 6) HT_ (fun K hK => ?_)
  refine gs Tryz.func24 #[.int .i64 a0, .agg #[.int .i64 a1_0, .int .i64 a1_1, .int .i64 a1_2], .agg #[.int .i64 a2_0, .int .i64 a2_1, .int .i64 a2_2, .int .i64 a2_3]] ?_
  with_reducible refine (spec_l11Mirror.calls _ _ _ _ _ _ _ _ _ _ _ A4.out).mono ?_
  rintro e w12 ⟨rfl, hb⟩
  refine ⟨_, rfl, ?_⟩
  replace BK525 := bB BK525 hb
  replace BK526 := bB BK526 hb
  replace BK527 := bB BK527 hb
  replace HB := bS3 HB GE525 GE526 GE527 hb
  (try clear hb)
  (try clear hb2)
  (try clear hk)
  (try clear hi)
  refine hK.out _ _ (cb3 BK525 (eb4 BK526)).out (fun hHeld => ?_)
  clear hK K
  refine norm_ (a' := ?_) ?_ ?_
  rotate_left
  ·show Act.put _ (some 14) _ = _
   simp only [Act.put, sA, sB, sC, i64_w, i32_w]
   rfl
  refine ro 6 (some 15) (bT 8 7) HT_ (fun K hK => ?_)
  refine gs Tryz.func23 #[.int .i64 a0, .agg #[.int .i64 a1_0, .int .i64 a1_1, .int .i64 a1_2], .bool t528] ?_
  with_reducible refine (spec_l06Code.calls _ _ _ _ _ _ _ A5.out).mono ?_
  rintro e w13 ⟨rfl, hb⟩
  refine ⟨_, rfl, ?_⟩
  replace BK525 := bB BK525 hb
  replace BK526 := bB BK526 hb
  replace BK527 := bB BK527 hb
  replace HB := bS3 HB GE525 GE526 GE527 hb
  (try clear hb)
  (try clear hb2)
  (try clear hk)
  (try clear hi)
  refine hK.out _ _ (cb3 BK525 (eb4 BK526)).out (fun hHeld => ?_)
  clear hK K
  refine norm_ (a' := ?_) ?_ ?_
  rotate_left
  ·show Act.put _ (some 15) _ = _
   simp only [Act.put, sA, sB, sC, i64_w, i32_w]
   rfl
  refine pu 7 (some 8) (bT 8 8) HT_ ?_
  refine done_ (done_of HT_.out (by kernel_rfl)) ?_
 ·have hnb14 := NB525_526.out
  have hnc14 := NB526_525.out
  have hnb15 := NB525_527.out
  have hnc15 := NB527_525.out
  obtain ⟨hcz16_0, hcz16_1, hcz16_2, hfz16_0, hfz16_1, hfz16_2⟩ := bz3 BK525
  have hnb17 := NB526_527.out
  have hnc17 := NB527_526.out
  obtain ⟨hcz18_0, hcz18_1, hcz18_2, hcz18_3, hfz18_0, hfz18_1, hfz18_2, hfz18_3⟩ := bz4 BK526
  try go_wp2_with (first | ((with_reducible refine gate_callee (f := 25) rfl ?_); refine gl 22 Tryz.func25 #[.agg #[.int .i64 a1_0, .int .i64 a1_1, .int .i64 a1_2], .agg #[.int .i64 a2_0, .int .i64 a2_1, .int .i64 a2_2, .int .i64 a2_3], .int .i64 1] ?_; (with_reducible refine (spec_l11Invariant.calls _ _ _ _ _ _ _ _ _ _ _ _ A7.out).mono ?_); rintro e w19 ⟨rfl, hb⟩; refine ⟨_, rfl, ?_⟩; replace BK525 := bB BK525 hb; replace BK526 := bB BK526 hb; replace BK527 := bB BK527 hb; replace HB := bS3 HB GE525 GE526 GE527 hb; (try clear hb); obtain ⟨hcz20_0, hcz20_1, hfz20_0, hfz20_1⟩ := bz2 BK527))
  refine bodyPost_ret (results_ct rfl _ _ gb527 31 #[.int .i64 t530, .int .i64 t531] (0, 0) _ rfl (bq0 BK527) Tryz.underlying31 rfl (by kernel_rfl)) rfl ?_
  exact er (bbw3 HB GE525 GE526 GE527)
 ·have hnb27 := NB527_525.out
  have hnc27 := NB525_527.out
  have hnb28 := NB527_526.out
  have hnc28 := NB526_527.out
  obtain ⟨hcz29_0, hcz29_1, hfz29_0, hfz29_1⟩ := bz2 BK527
  try go_wp2
  refine bodyPost_ret (results_ct rfl _ _ gb527 31 #[.int .i64 0, .int .i64 0] (0, 0) _ rfl (bq0 BK527) Tryz.underlying31 rfl (by kernel_rfl)) rfl ?_
  exact er (bbw3 HB GE525 GE526 GE527)
/-! ### impl_det: function 44 -/
def impl_det.f (a0_0 : Int) (a0_1 : Int) (a1_0 : Int) (a1_1 : Int) : Option (Int) := some (wrap64 ((wrap64 (a0_0 * a1_1)) - (wrap64 (a0_1 * a1_0))))
set_option maxHeartbeats 8000000 in
set_option maxRecDepth 100000 in
theorem impl_det.calls (a0_0 : Int) (a0_1 : Int) (a1_0 : Int) (a1_1 : Int) (r : Int) (w : World) (h : impl_det.f a0_0 a0_1 a1_0 a1_1 = some r) :
  Calls Tryz.prog 44 #[.agg #[.int .i64 a0_0, .int .i64 a0_1], .agg #[.int .i64 a1_0, .int .i64 a1_1]] w fun e w' => e = .returned (.int .i64 r) ∧ Below w.heap.size w w' := by
 have hu31 := Tryz.underlying31
 have HB := asd (Below.refl w.heap.size w)
 have H : (some (wrap64 ((wrap64 (a0_0 * a1_1)) - (wrap64 (a0_1 * a1_0))))) = some r := h
 clear h
 obtain rfl := Option.some.inj H
 go_enter Tryz.func44, Tryz.ntmps44
 go_wp2_with (first | ((with_reducible refine gd 2 rfl ?_); refine bx #[.int .i64 a0_0, .int .i64 a0_1] 31 ?_; intro gb532 hg w3 BK532 hb; have GE532 := ngw0 hg HB; replace HB := bS0 HB hb; clear hb hg) | ((with_reducible refine gd 3 rfl ?_); refine bx #[.int .i64 a1_0, .int .i64 a1_1] 31 ?_; intro gb533 hg w4 BK533 hb; have GE533 := ngw1 hg HB GE532; replace HB := bS1 HB GE532 hb; have NB532_533 := nlt hg BK532; have NB533_532 := nsy (nlt hg BK532); replace BK532 := bB BK532 hb; clear hb hg; have hnb5 := NB532_533.out; have hnc5 := NB533_532.out; obtain ⟨hcz6_0, hcz6_1, hfz6_0, hfz6_1⟩ := bz2 BK532; obtain ⟨hcz7_0, hcz7_1, hfz7_0, hfz7_1⟩ := bz2 BK533))
 go_ret
 exact er (bbw2 HB GE532 GE533)
/-! ### impl_Mat_negative: function 56 -/
def impl_Mat_negative.f (a0_0 : Int) (a0_1 : Int) (a0_2 : Int) (a0_3 : Int) : Option (Int × Int × Int × Int) := some (wrap64 (-a0_0), wrap64 (-a0_1), wrap64 (-a0_2), wrap64 (-a0_3))
set_option maxHeartbeats 8000000 in
set_option maxRecDepth 100000 in
theorem impl_Mat_negative.calls (a0_0 : Int) (a0_1 : Int) (a0_2 : Int) (a0_3 : Int) (r1 : Int) (r2 : Int) (r3 : Int) (r4 : Int) (w : World) (h : impl_Mat_negative.f a0_0 a0_1 a0_2 a0_3 = some (r1, r2, r3, r4)) :
  Calls Tryz.prog 56 #[.agg #[.int .i64 a0_0, .int .i64 a0_1, .int .i64 a0_2, .int .i64 a0_3]] w fun e w' => e = .returned (.agg #[.int .i64 r1, .int .i64 r2, .int .i64 r3, .int .i64 r4]) ∧ Below w.heap.size w w' := by
 have hu27 := Tryz.underlying27
 have HB := asd (Below.refl w.heap.size w)
 have H : (some (wrap64 (-a0_0), wrap64 (-a0_1), wrap64 (-a0_2), wrap64 (-a0_3))) = some (r1, r2, r3, r4) := h
 clear h
 simp only [Option.some.injEq, Prod.mk.injEq] at H
 obtain ⟨rfl, rfl, rfl, rfl⟩ := H
 go_enter Tryz.func56, Tryz.ntmps56
 go_wp2_with (first | ((with_reducible refine gd 1 rfl ?_); refine bx #[.int .i64 a0_0, .int .i64 a0_1, .int .i64 a0_2, .int .i64 a0_3] 27 ?_; intro gb534 hg w2 BK534 hb; have GE534 := ngw0 hg HB; replace HB := bS0 HB hb; clear hb hg) | ((with_reducible refine gd 2 rfl ?_); refine bx #[.int .i64 0, .int .i64 0, .int .i64 0, .int .i64 0] 27 ?_; intro gb535 hg w3 BK535 hb; have GE535 := ngw1 hg HB GE534; replace HB := bS1 HB GE534 hb; have NB534_535 := nlt hg BK534; have NB535_534 := nsy (nlt hg BK534); replace BK534 := bB BK534 hb; clear hb hg; have hnb4 := NB534_535.out; have hnc4 := NB535_534.out; obtain ⟨hcz5_0, hcz5_1, hcz5_2, hcz5_3, hfz5_0, hfz5_1, hfz5_2, hfz5_3⟩ := bz4 BK534; obtain ⟨hcz6_0, hcz6_1, hcz6_2, hcz6_3, hfz6_0, hfz6_1, hfz6_2, hfz6_3⟩ := bz4 BK535))
 refine bodyPost_ret (results_cell_row rfl _ _ gb535 27 #[.int .i64 (wrap64 (-a0_0)), .int .i64 (wrap64 (-a0_1)), .int .i64 (wrap64 (-a0_2)), .int .i64 (wrap64 (-a0_3))] (0, 0) _ rfl (bq0 BK535) Tryz.underlying27 rfl (by kernel_rfl)) rfl ?_
 exact er (bbw2 HB GE534 GE535)
/-! ### impl_Lattice_isCentred: function 26 -/
def impl_Lattice_isCentred.f (k : Nat) (a0_0 : Int) (a0_1 : Int) (a0_2 : Int) (a1_0 : Int) (a1_1 : Int) (a1_2 : Int) (a1_3 : Int) : Option (Bool) := (impl_Mat_axis.f k a1_0 a1_1 a1_2 a1_3).bind fun bt538 => ((impl_Lattice_multipleIn.f k a0_0 a0_1 a0_2 bt538.1 bt538.2).bind fun bt540 => ((impl_Mat_negative.f a1_0 a1_1 a1_2 a1_3).bind fun bt542 => ((impl_Mat_axis.f k bt542.1 bt542.2.1 bt542.2.2.1 bt542.2.2.2).bind fun bt546 => ((impl_Lattice_multipleIn.f k a0_0 a0_1 a0_2 bt546.1 bt546.2).bind fun bt548 => ((impl_det.f bt540.1 bt540.2 bt548.1 bt548.2).bind fun t550 => ((impl_Lattice_index.f a0_0 a0_1 a0_2).bind fun t551 => (some ((mx t550 (wrap64 (-t550))) != t551))))))))
def impl_Lattice_isCentred.T1 : Bool × List (List Nat × List Nat) := (true, [([], []), ([], []), ([1], [1]), ([0, 2, 2], [0, 2]), ([], []), ([], []), ([5, 3], [5]), ([6, 6], [6]), ([4, 7, 7], [4, 7]), ([3, 8, 8], [3, 8]), ([9, 9, 0, 1, 2, 3, 4, 5, 6, 7, 8, 9], [9])])
def impl_Lattice_isCentred.B1 : List Nat := [0, 0, 2, 7, 0, 0, 47, 111, 255, 511, 1023]
theorem impl_Lattice_isCentred.tab1 : rtab .any (opsOf Tryz.f26 1) = impl_Lattice_isCentred.T1 := by kernel_rfl
theorem impl_Lattice_isCentred.bits1 : waitsOk impl_Lattice_isCentred.T1.2 impl_Lattice_isCentred.B1 = true := by kernel_rfl
set_option maxHeartbeats 8000000 in
set_option maxRecDepth 100000 in
theorem impl_Lattice_isCentred.calls (k : Nat) (a0_0 : Int) (a0_1 : Int) (a0_2 : Int) (a1_0 : Int) (a1_1 : Int) (a1_2 : Int) (a1_3 : Int) (r : Bool) (w : World) (h : impl_Lattice_isCentred.f k a0_0 a0_1 a0_2 a1_0 a1_1 a1_2 a1_3 = some r) :
  Calls Tryz.prog 26 #[.agg #[.int .i64 a0_0, .int .i64 a0_1, .int .i64 a0_2], .agg #[.int .i64 a1_0, .int .i64 a1_1, .int .i64 a1_2, .int .i64 a1_3]] w fun e w' => e = .returned (.bool r) ∧ Below w.heap.size w w' := by
 have hu25 := Tryz.underlying25
 have hu27 := Tryz.underlying27
 have HB := asd (Below.refl w.heap.size w)
 have H : ((impl_Mat_axis.f k a1_0 a1_1 a1_2 a1_3).bind fun bt538 => ((impl_Lattice_multipleIn.f k a0_0 a0_1 a0_2 bt538.1 bt538.2).bind fun bt540 => ((impl_Mat_negative.f a1_0 a1_1 a1_2 a1_3).bind fun bt542 => ((impl_Mat_axis.f k bt542.1 bt542.2.1 bt542.2.2.1 bt542.2.2.2).bind fun bt546 => ((impl_Lattice_multipleIn.f k a0_0 a0_1 a0_2 bt546.1 bt546.2).bind fun bt548 => ((impl_det.f bt540.1 bt540.2 bt548.1 bt548.2).bind fun t550 => ((impl_Lattice_index.f a0_0 a0_1 a0_2).bind fun t551 => (some ((mx t550 (wrap64 (-t550))) != t551))))))))) = some r := h
 clear h
 obtain ⟨⟨t538, t539⟩, A3, H⟩ := ob H
 try dsimp only at H
 obtain ⟨⟨t540, t541⟩, A4, H⟩ := ob H
 try dsimp only at H
 obtain ⟨⟨t542, t543, t544, t545⟩, A5, H⟩ := ob H
 try dsimp only at H
 obtain ⟨⟨t546, t547⟩, A6, H⟩ := ob H
 try dsimp only at H
 obtain ⟨⟨t548, t549⟩, A7, H⟩ := ob H
 try dsimp only at H
 obtain ⟨t550, A8, H⟩ := ob H
 try dsimp only at H
 obtain ⟨ji9, hji9⟩ : ∃ j_ : Int, (mx t550 (wrap64 (-t550))) = j_ := ⟨_, rfl⟩
 replace H : ((impl_Lattice_index.f a0_0 a0_1 a0_2).bind fun t551 => (some ((ji9) != t551))) = some r := by first | (rw [hji9] at H; first | done | exact H) | (simp only [hji9] at H ⊢; exact H)
 (try rw [hji9] at A3)
 (try rw [hji9] at A4)
 (try rw [hji9] at A5)
 (try rw [hji9] at A6)
 (try rw [hji9] at A7)
 (try rw [hji9] at A8)
 have hji9_ : (if t550 < (wrap64 (-t550)) then (wrap64 (-t550)) else t550) = ji9 := hji9
 obtain ⟨t551, A10, H⟩ := ob H
 try dsimp only at H
 obtain rfl := Option.some.inj H
 go_enter Tryz.func26, Tryz.ntmps26
 try go_wp2_with (first | ((with_reducible refine gd 2 rfl ?_); refine bx #[.int .i64 a0_0, .int .i64 a0_1, .int .i64 a0_2] 25 ?_; intro gb536 hg w11 BK536 hb; have GE536 := ngw0 hg HB; replace HB := bS0 HB hb; clear hb hg) | ((with_reducible refine gd 3 rfl ?_); refine bx #[.int .i64 a1_0, .int .i64 a1_1, .int .i64 a1_2, .int .i64 a1_3] 27 ?_; intro gb537 hg w12 BK537 hb; have GE537 := ngw1 hg HB GE536; replace HB := bS1 HB GE536 hb; have NB536_537 := nlt hg BK536; have NB537_536 := nsy (nlt hg BK536); replace BK536 := bB BK536 hb; clear hb hg))
 replace BK536 := asd (blk_drew BK536.out)
 replace BK537 := asd (blk_drew BK537.out)
 replace HB := asd (below_drew1 HB.out)
 refine sh 11 (cb3 BK536 (eb4 BK537)) (fun hHeld => ?_); refine with_tabW impl_Lattice_isCentred.tab1 impl_Lattice_isCentred.bits1 (fun HT_ HW_ => ?_)
 generalize w12.drew = w13 at BK536 BK537 HB hHeld ⊢
 refine ta 0 (some 6) (bT 11 1) HT_ HW_ hHeld ?_
 refine ta 1 (some 7) (bT 11 2) HT_ HW_ hHeld ?_
 refine ta 4 (some 10) (bs 11 19) HT_ HW_ hHeld ?_
 refine ta 5 (some 11) (bs 11 51) HT_ HW_ hHeld ?_
 refine ro 2 (some 8) (bs 11 55) HT_ (fun K hK => ?_)
 refine gs Tryz.func22 #[.agg #[.int .i64 a1_0, .int .i64 a1_1, .int .i64 a1_2, .int .i64 a1_3]] ?_
 with_reducible refine (impl_Mat_axis.calls _ _ _ _ _ _ _ _ A3.out).mono ?_
 rintro e w14 ⟨rfl, hb⟩
 refine ⟨_, rfl, ?_⟩
 replace BK536 := bB BK536 hb
 replace BK537 := bB BK537 hb
 replace HB := bS2 HB GE536 GE537 hb
 (try clear hb)
 (try clear hb2)
 (try clear hk)
 (try clear hi)
 refine hK.out _ _ (cb3 BK536 (eb4 BK537)).out (fun hHeld => ?_)
 clear hK K
 refine norm_ (a' := ?_) ?_ ?_
 rotate_left
 ·show Act.put _ (some 8) _ = _
  simp only [Act.put, sA, sB, sC, i64_w, i32_w]
  rfl
 refine ro 3 (some 9) (bT 11 6) HT_ (fun K hK => ?_)
 refine gs Tryz.func21 #[.agg #[.int .i64 a0_0, .int .i64 a0_1, .int .i64 a0_2], .agg #[.int .i64 t538, .int .i64 t539]] ?_
 with_reducible refine (impl_Lattice_multipleIn.calls _ _ _ _ _ _ _ _ _ A4.out).mono ?_
 rintro e w15 ⟨rfl, hb⟩
 refine ⟨_, rfl, ?_⟩
 replace BK536 := bB BK536 hb
 replace BK537 := bB BK537 hb
 replace HB := bS2 HB GE536 GE537 hb
 (try clear hb)
 (try clear hb2)
 (try clear hk)
 (try clear hi)
 refine hK.out _ _ (cb3 BK536 (eb4 BK537)).out (fun hHeld => ?_)
 clear hK K
 refine norm_ (a' := ?_) ?_ ?_
 rotate_left
 ·show Act.put _ (some 9) _ = _
  simp only [Act.put, sA, sB, sC, i64_w, i32_w]
  rfl
 refine ro 6 (some 12) (bT 11 7) HT_ (fun K hK => ?_)
 refine gs Tryz.func56 #[.agg #[.int .i64 a1_0, .int .i64 a1_1, .int .i64 a1_2, .int .i64 a1_3]] ?_
 with_reducible refine (impl_Mat_negative.calls _ _ _ _ _ _ _ _ _ A5.out).mono ?_
 rintro e w16 ⟨rfl, hb⟩
 refine ⟨_, rfl, ?_⟩
 replace BK536 := bB BK536 hb
 replace BK537 := bB BK537 hb
 replace HB := bS2 HB GE536 GE537 hb
 (try clear hb)
 (try clear hb2)
 (try clear hk)
 (try clear hi)
 refine hK.out _ _ (cb3 BK536 (eb4 BK537)).out (fun hHeld => ?_)
 clear hK K
 refine norm_ (a' := ?_) ?_ ?_
 rotate_left
 ·show Act.put _ (some 12) _ = _
  simp only [Act.put, sA, sB, sC, i64_w, i32_w]
  rfl
 refine ro 7 (some 13) (bT 11 8) HT_ (fun K hK => ?_)
 refine gs Tryz.func22 #[.agg #[.int .i64 t542, .int .i64 t543, .int .i64 t544, .int .i64 t545]] ?_
 with_reducible refine (impl_Mat_axis.calls _ _ _ _ _ _ _ _ A6.out).mono ?_
 rintro e w17 ⟨rfl, hb⟩
 refine ⟨_, rfl, ?_⟩
 replace BK536 := bB BK536 hb
 replace BK537 := bB BK537 hb
 replace HB := bS2 HB GE536 GE537 hb
 (try clear hb)
 (try clear hb2)
 (try clear hk)
 (try clear hi)
 refine hK.out _ _ (cb3 BK536 (eb4 BK537)).out (fun hHeld => ?_)
 clear hK K
 refine norm_ (a' := ?_) ?_ ?_
 rotate_left
 ·show Act.put _ (some 13) _ = _
  simp only [Act.put, sA, sB, sC, i64_w, i32_w]
  rfl
 refine ro 8 (some 14) (bT 11 9) HT_ (fun K hK => ?_)
 refine gs Tryz.func21 #[.agg #[.int .i64 a0_0, .int .i64 a0_1, .int .i64 a0_2], .agg #[.int .i64 t546, .int .i64 t547]] ?_
 with_reducible refine (impl_Lattice_multipleIn.calls _ _ _ _ _ _ _ _ _ A7.out).mono ?_
 rintro e w18 ⟨rfl, hb⟩
 refine ⟨_, rfl, ?_⟩
 replace BK536 := bB BK536 hb
 replace BK537 := bB BK537 hb
 replace HB := bS2 HB GE536 GE537 hb
 (try clear hb)
 (try clear hb2)
 (try clear hk)
 (try clear hi)
 refine hK.out _ _ (cb3 BK536 (eb4 BK537)).out (fun hHeld => ?_)
 clear hK K
 refine norm_ (a' := ?_) ?_ ?_
 rotate_left
 ·show Act.put _ (some 14) _ = _
  simp only [Act.put, sA, sB, sC, i64_w, i32_w]
  rfl
 refine ro 9 (some 15) (bT 11 10) HT_ (fun K hK => ?_)
 refine gs Tryz.func44 #[.agg #[.int .i64 t540, .int .i64 t541], .agg #[.int .i64 t548, .int .i64 t549]] ?_
 with_reducible refine (impl_det.calls _ _ _ _ _ _ A8.out).mono ?_
 rintro e w19 ⟨rfl, hb⟩
 refine ⟨_, rfl, ?_⟩
 replace BK536 := bB BK536 hb
 replace BK537 := bB BK537 hb
 replace HB := bS2 HB GE536 GE537 hb
 (try clear hb)
 (try clear hb2)
 (try clear hk)
 (try clear hi)
 refine hK.out _ _ (cb3 BK536 (eb4 BK537)).out (fun hHeld => ?_)
 clear hK K
 refine norm_ (a' := ?_) ?_ ?_
 rotate_left
 ·show Act.put _ (some 15) _ = _
  simp only [Act.put, sA, sB, sC, i64_w, i32_w]
  rfl
 refine pu 10 (some 5) (bT 11 11) HT_ ?_
 refine done_ (done_of HT_.out (by kernel_rfl)) ?_
 have hnb20 := NB536_537.out
 have hnc20 := NB537_536.out
 obtain ⟨hcz21_0, hcz21_1, hcz21_2, hfz21_0, hfz21_1, hfz21_2⟩ := bz3 BK536
 try go_wp2_with (first | ((with_reducible refine gate_callee (f := 57) rfl ?_); refine gl 21 Tryz.func57 #[.agg #[.int .i64 a0_0, .int .i64 a0_1, .int .i64 a0_2]] ?_; (with_reducible refine (impl_Lattice_index.calls _ _ _ _ _ A10.out).mono ?_); rintro e w22 ⟨rfl, hb⟩; refine ⟨_, rfl, ?_⟩; replace BK536 := bB BK536 hb; replace BK537 := bB BK537 hb; replace HB := bS2 HB GE536 GE537 hb; (try clear hb)))
 go_ret
 exact ⟨by first | rfl | (simp [errW_none, errW_some] <;> rfl) | (simp only [← hji9]; first | rfl | (simp [errW_none, errW_some] <;> rfl)) | (simp [*, errW_none, errW_some] <;> rfl), bbw2 HB GE536 GE537⟩
/-! ### impl_IsCentred: function 8 -/
def impl_IsCentred.f (k : Nat) (a0 : Int) (a1_0 : Int) (a1_1 : Int) (a1_2 : Int) (a2_0 : Int) (a2_1 : Int) (a2_2 : Int) (a2_3 : Int) : Option (Bool × Int) := (impl_mirrorCode.f k a0 a1_0 a1_1 a1_2 a2_0 a2_1 a2_2 a2_3).bind fun t554 => (if t554 = 0 then ((impl_Lattice_isCentred.f k a1_0 a1_1 a1_2 a2_0 a2_1 a2_2 a2_3).bind fun t555 => (some (t555, 0))) else (some (false, t554)))
set_option maxHeartbeats 8000000 in
set_option maxRecDepth 100000 in
theorem impl_IsCentred.calls (k : Nat) (a0 : Int) (a1_0 : Int) (a1_1 : Int) (a1_2 : Int) (a2_0 : Int) (a2_1 : Int) (a2_2 : Int) (a2_3 : Int) (r1 : Bool) (r2 : Int) (w : World) (h : impl_IsCentred.f k a0 a1_0 a1_1 a1_2 a2_0 a2_1 a2_2 a2_3 = some (r1, r2)) :
  Calls Tryz.prog 8 #[.int .i64 a0, .agg #[.int .i64 a1_0, .int .i64 a1_1, .int .i64 a1_2], .agg #[.int .i64 a2_0, .int .i64 a2_1, .int .i64 a2_2, .int .i64 a2_3]] w fun e w' => e = .returned (.tuple #[.bool r1, .int .i64 r2]) ∧ Below w.heap.size w w' := by
 have hu25 := Tryz.underlying25
 have hu27 := Tryz.underlying27
 have HB := asd (Below.refl w.heap.size w)
 have H : ((impl_mirrorCode.f k a0 a1_0 a1_1 a1_2 a2_0 a2_1 a2_2 a2_3).bind fun t554 => (if t554 = 0 then ((impl_Lattice_isCentred.f k a1_0 a1_1 a1_2 a2_0 a2_1 a2_2 a2_3).bind fun t555 => (some (t555, 0))) else (some (false, t554)))) = some (r1, r2) := h
 clear h
 obtain ⟨t554, A4, H⟩ := ob H
 try dsimp only at H
 by_cases c5 : t554 = 0
 ·rw [if_pos c5] at H
  have c5b0 : (t554 == 0) = true := beq_iff_eq.mpr c5
  have c5b1 : (t554 != 0) = false := bne_eq_false_iff_eq.mpr c5
  clear c5
  obtain ⟨t555, A6, H⟩ := ob H
  try dsimp only at H
  simp only [Option.some.injEq, Prod.mk.injEq] at H
  obtain ⟨rfl, rfl⟩ := H
  go_enter Tryz.func8, Tryz.ntmps8
  go_wp2_with (first | ((with_reducible refine gd 4 rfl ?_); refine bx #[.int .i64 a1_0, .int .i64 a1_1, .int .i64 a1_2] 25 ?_; intro gb552 hg w7 BK552 hb; have GE552 := ngw0 hg HB; replace HB := bS0 HB hb; clear hb hg) | ((with_reducible refine gd 5 rfl ?_); refine bx #[.int .i64 a2_0, .int .i64 a2_1, .int .i64 a2_2, .int .i64 a2_3] 27 ?_; intro gb553 hg w8 BK553 hb; have GE553 := ngw1 hg HB GE552; replace HB := bS1 HB GE552 hb; have NB552_553 := nlt hg BK552; have NB553_552 := nsy (nlt hg BK552); replace BK552 := bB BK552 hb; clear hb hg; have hnb9 := NB552_553.out; have hnc9 := NB553_552.out; obtain ⟨hcz10_0, hcz10_1, hcz10_2, hfz10_0, hfz10_1, hfz10_2⟩ := bz3 BK552; obtain ⟨hcz11_0, hcz11_1, hcz11_2, hcz11_3, hfz11_0, hfz11_1, hfz11_2, hfz11_3⟩ := bz4 BK553) | ((with_reducible refine gate_callee (f := 20) rfl ?_); refine gl 12 Tryz.func20 #[.int .i64 a0, .agg #[.int .i64 a1_0, .int .i64 a1_1, .int .i64 a1_2], .agg #[.int .i64 a2_0, .int .i64 a2_1, .int .i64 a2_2, .int .i64 a2_3]] ?_; (with_reducible refine (impl_mirrorCode.calls _ _ _ _ _ _ _ _ _ _ _ A4.out).mono ?_); rintro e w12 ⟨rfl, hb⟩; refine ⟨_, rfl, ?_⟩; replace BK552 := bB BK552 hb; replace BK553 := bB BK553 hb; replace HB := bS2 HB GE552 GE553 hb; (try clear hb); obtain ⟨hcz13_0, hcz13_1, hcz13_2, hfz13_0, hfz13_1, hfz13_2⟩ := bz3 BK552; obtain ⟨hcz14_0, hcz14_1, hcz14_2, hcz14_3, hfz14_0, hfz14_1, hfz14_2, hfz14_3⟩ := bz4 BK553) | ((with_reducible refine gate_callee (f := 26) rfl ?_); refine gl 18 Tryz.func26 #[.agg #[.int .i64 a1_0, .int .i64 a1_1, .int .i64 a1_2], .agg #[.int .i64 a2_0, .int .i64 a2_1, .int .i64 a2_2, .int .i64 a2_3]] ?_; (with_reducible refine (impl_Lattice_isCentred.calls _ _ _ _ _ _ _ _ _ _ A6.out).mono ?_); rintro e w15 ⟨rfl, hb⟩; refine ⟨_, rfl, ?_⟩; replace BK552 := bB BK552 hb; replace BK553 := bB BK553 hb; replace HB := bS2 HB GE552 GE553 hb; (try clear hb)))
  go_ret2
  exact er (bbw2 HB GE552 GE553)
 ·rw [if_neg c5] at H
  have c5b0 : (t554 == 0) = false := beq_eq_false_iff_ne.mpr c5
  have c5b1 : (t554 != 0) = true := bne_iff_ne.mpr c5
  simp only [Option.some.injEq, Prod.mk.injEq] at H
  obtain ⟨rfl, rfl⟩ := H
  go_enter Tryz.func8, Tryz.ntmps8
  go_wp2_with (first | ((with_reducible refine gd 4 rfl ?_); refine bx #[.int .i64 a1_0, .int .i64 a1_1, .int .i64 a1_2] 25 ?_; intro gb552 hg w16 BK552 hb; have GE552 := ngw0 hg HB; replace HB := bS0 HB hb; clear hb hg) | ((with_reducible refine gd 5 rfl ?_); refine bx #[.int .i64 a2_0, .int .i64 a2_1, .int .i64 a2_2, .int .i64 a2_3] 27 ?_; intro gb553 hg w17 BK553 hb; have GE553 := ngw1 hg HB GE552; replace HB := bS1 HB GE552 hb; have NB552_553 := nlt hg BK552; have NB553_552 := nsy (nlt hg BK552); replace BK552 := bB BK552 hb; clear hb hg; have hnb18 := NB552_553.out; have hnc18 := NB553_552.out; obtain ⟨hcz19_0, hcz19_1, hcz19_2, hfz19_0, hfz19_1, hfz19_2⟩ := bz3 BK552; obtain ⟨hcz20_0, hcz20_1, hcz20_2, hcz20_3, hfz20_0, hfz20_1, hfz20_2, hfz20_3⟩ := bz4 BK553) | ((with_reducible refine gate_callee (f := 20) rfl ?_); refine gl 12 Tryz.func20 #[.int .i64 a0, .agg #[.int .i64 a1_0, .int .i64 a1_1, .int .i64 a1_2], .agg #[.int .i64 a2_0, .int .i64 a2_1, .int .i64 a2_2, .int .i64 a2_3]] ?_; (with_reducible refine (impl_mirrorCode.calls _ _ _ _ _ _ _ _ _ _ _ A4.out).mono ?_); rintro e w21 ⟨rfl, hb⟩; refine ⟨_, rfl, ?_⟩; replace BK552 := bB BK552 hb; replace BK553 := bB BK553 hb; replace HB := bS2 HB GE552 GE553 hb; (try clear hb)))
  go_ret2
  exact er (bbw2 HB GE552 GE553)
/-! ### spec_l01Det: function 58 -/
def spec_l01Det.f (a0_0 : Int) (a0_1 : Int) (a1_0 : Int) (a1_1 : Int) : Option (Int) := some (wrap64 ((wrap64 (a0_0 * a1_1)) - (wrap64 (a0_1 * a1_0))))
set_option maxHeartbeats 8000000 in
set_option maxRecDepth 100000 in
theorem spec_l01Det.calls (a0_0 : Int) (a0_1 : Int) (a1_0 : Int) (a1_1 : Int) (r : Int) (w : World) (h : spec_l01Det.f a0_0 a0_1 a1_0 a1_1 = some r) :
  Calls Tryz.prog 58 #[.agg #[.int .i64 a0_0, .int .i64 a0_1], .agg #[.int .i64 a1_0, .int .i64 a1_1]] w fun e w' => e = .returned (.int .i64 r) ∧ Below w.heap.size w w' := by
 have hu31 := Tryz.underlying31
 have HB := asd (Below.refl w.heap.size w)
 have H : (some (wrap64 ((wrap64 (a0_0 * a1_1)) - (wrap64 (a0_1 * a1_0))))) = some r := h
 clear h
 obtain rfl := Option.some.inj H
 go_enter Tryz.func58, Tryz.ntmps58
 go_wp2_with (first | ((with_reducible refine gd 2 rfl ?_); refine bx #[.int .i64 a0_0, .int .i64 a0_1] 31 ?_; intro gb556 hg w3 BK556 hb; have GE556 := ngw0 hg HB; replace HB := bS0 HB hb; clear hb hg) | ((with_reducible refine gd 3 rfl ?_); refine bx #[.int .i64 a1_0, .int .i64 a1_1] 31 ?_; intro gb557 hg w4 BK557 hb; have GE557 := ngw1 hg HB GE556; replace HB := bS1 HB GE556 hb; have NB556_557 := nlt hg BK556; have NB557_556 := nsy (nlt hg BK556); replace BK556 := bB BK556 hb; clear hb hg; have hnb5 := NB556_557.out; have hnc5 := NB557_556.out; obtain ⟨hcz6_0, hcz6_1, hfz6_0, hfz6_1⟩ := bz2 BK556; obtain ⟨hcz7_0, hcz7_1, hfz7_0, hfz7_1⟩ := bz2 BK557))
 go_ret
 exact er (bbw2 HB GE556 GE557)
/-! ### spec_l11Centred: function 27 -/
def spec_l11Centred.f (k : Nat) (a0_0 : Int) (a0_1 : Int) (a0_2 : Int) (a1_0 : Int) (a1_1 : Int) (a1_2 : Int) (a1_3 : Int) : Option (Bool) := (spec_l11Invariant.f k a0_0 a0_1 a0_2 a1_0 a1_1 a1_2 a1_3 1).bind fun bt560 => ((spec_l11Invariant.f k a0_0 a0_1 a0_2 a1_0 a1_1 a1_2 a1_3 (-1)).bind fun bt562 => ((spec_l01Det.f bt560.1 bt560.2 bt562.1 bt562.2).bind fun t564 => (some ((mx t564 (wrap64 (-t564))) != (wrap64 (a0_0 * a0_2))))))
def spec_l11Centred.T1 : Bool × List (List Nat × List Nat) := (true, [([], []), ([], []), ([0, 1], [0, 1]), ([], []), ([], []), ([3, 4, 2], [3, 4]), ([2, 5, 5], [2, 5]), ([6, 6, 0, 1, 2, 3, 4, 5, 6], [6])])
def spec_l11Centred.B1 : List Nat := [0, 0, 3, 0, 0, 31, 63, 127]
theorem spec_l11Centred.tab1 : rtab .any (opsOf Tryz.f27 1) = spec_l11Centred.T1 := by kernel_rfl
theorem spec_l11Centred.bits1 : waitsOk spec_l11Centred.T1.2 spec_l11Centred.B1 = true := by kernel_rfl
set_option maxHeartbeats 8000000 in
set_option maxRecDepth 100000 in
theorem spec_l11Centred.calls (k : Nat) (a0_0 : Int) (a0_1 : Int) (a0_2 : Int) (a1_0 : Int) (a1_1 : Int) (a1_2 : Int) (a1_3 : Int) (r : Bool) (w : World) (h : spec_l11Centred.f k a0_0 a0_1 a0_2 a1_0 a1_1 a1_2 a1_3 = some r) :
  Calls Tryz.prog 27 #[.agg #[.int .i64 a0_0, .int .i64 a0_1, .int .i64 a0_2], .agg #[.int .i64 a1_0, .int .i64 a1_1, .int .i64 a1_2, .int .i64 a1_3]] w fun e w' => e = .returned (.bool r) ∧ Below w.heap.size w w' := by
 have hu25 := Tryz.underlying25
 have hu27 := Tryz.underlying27
 have HB := asd (Below.refl w.heap.size w)
 have H : ((spec_l11Invariant.f k a0_0 a0_1 a0_2 a1_0 a1_1 a1_2 a1_3 1).bind fun bt560 => ((spec_l11Invariant.f k a0_0 a0_1 a0_2 a1_0 a1_1 a1_2 a1_3 (-1)).bind fun bt562 => ((spec_l01Det.f bt560.1 bt560.2 bt562.1 bt562.2).bind fun t564 => (some ((mx t564 (wrap64 (-t564))) != (wrap64 (a0_0 * a0_2))))))) = some r := h
 clear h
 obtain ⟨⟨t560, t561⟩, A3, H⟩ := ob H
 try dsimp only at H
 obtain ⟨⟨t562, t563⟩, A4, H⟩ := ob H
 try dsimp only at H
 obtain ⟨t564, A5, H⟩ := ob H
 try dsimp only at H
 obtain ⟨ji6, hji6⟩ : ∃ j_ : Int, (mx t564 (wrap64 (-t564))) = j_ := ⟨_, rfl⟩
 replace H : (some ((ji6) != (wrap64 (a0_0 * a0_2)))) = some r := by first | (rw [hji6] at H; first | done | exact H) | (simp only [hji6] at H ⊢; exact H)
 (try rw [hji6] at A3)
 (try rw [hji6] at A4)
 (try rw [hji6] at A5)
 have hji6_ : (if t564 < (wrap64 (-t564)) then (wrap64 (-t564)) else t564) = ji6 := hji6
 obtain rfl := Option.some.inj H
 go_enter Tryz.func27, Tryz.ntmps27
 try go_wp2_with (first | ((with_reducible refine gd 2 rfl ?_); refine bx #[.int .i64 a0_0, .int .i64 a0_1, .int .i64 a0_2] 25 ?_; intro gb558 hg w7 BK558 hb; have GE558 := ngw0 hg HB; replace HB := bS0 HB hb; clear hb hg) | ((with_reducible refine gd 3 rfl ?_); refine bx #[.int .i64 a1_0, .int .i64 a1_1, .int .i64 a1_2, .int .i64 a1_3] 27 ?_; intro gb559 hg w8 BK559 hb; have GE559 := ngw1 hg HB GE558; replace HB := bS1 HB GE558 hb; have NB558_559 := nlt hg BK558; have NB559_558 := nsy (nlt hg BK558); replace BK558 := bB BK558 hb; clear hb hg))
 replace BK558 := asd (blk_drew BK558.out)
 replace BK559 := asd (blk_drew BK559.out)
 replace HB := asd (below_drew1 HB.out)
 refine sh 8 (cb3 BK558 (eb4 BK559)) (fun hHeld => ?_); refine with_tabW spec_l11Centred.tab1 spec_l11Centred.bits1 (fun HT_ HW_ => ?_)
 generalize w8.drew = w9 at BK558 BK559 HB hHeld ⊢
 refine ta 0 (some 6) (bT 8 1) HT_ HW_ hHeld ?_
 refine ta 1 (some 7) (bT 8 2) HT_ HW_ hHeld ?_
 refine ta 3 (some 9) (bs 8 11) HT_ HW_ hHeld ?_
 refine ta 4 (some 10) (bs 8 27) HT_ HW_ hHeld ?_
 refine ro 2 (some 8) (bT 8 5) HT_ (fun K hK => ?_)
 refine gs Tryz.func25 #[.agg #[.int .i64 a0_0, .int .i64 a0_1, .int .i64 a0_2], .agg #[.int .i64 a1_0, .int .i64 a1_1, .int .i64 a1_2, .int .i64 a1_3], .int .i64 1] ?_
 with_reducible refine (spec_l11Invariant.calls _ _ _ _ _ _ _ _ _ _ _ _ A3.out).mono ?_
 rintro e w10 ⟨rfl, hb⟩
 refine ⟨_, rfl, ?_⟩
 replace BK558 := bB BK558 hb
 replace BK559 := bB BK559 hb
 replace HB := bS2 HB GE558 GE559 hb
 (try clear hb)
 (try clear hb2)
 (try clear hk)
 (try clear hi)
 refine hK.out _ _ (cb3 BK558 (eb4 BK559)).out (fun hHeld => ?_)
 clear hK K
 refine norm_ (a' := ?_) ?_ ?_
 rotate_left
 ·show Act.put _ (some 8) _ = _
  simp only [Act.put, sA, sB, sC, i64_w, i32_w]
  rfl
 refine ro 5 (some 11) (bT 8 6) HT_ (fun K hK => ?_)
 refine gs Tryz.func25 #[.agg #[.int .i64 a0_0, .int .i64 a0_1, .int .i64 a0_2], .agg #[.int .i64 a1_0, .int .i64 a1_1, .int .i64 a1_2, .int .i64 a1_3], .int .i64 (-1)] ?_
 with_reducible refine (spec_l11Invariant.calls _ _ _ _ _ _ _ _ _ _ _ _ A4.out).mono ?_
 rintro e w11 ⟨rfl, hb⟩
 refine ⟨_, rfl, ?_⟩
 replace BK558 := bB BK558 hb
 replace BK559 := bB BK559 hb
 replace HB := bS2 HB GE558 GE559 hb
 (try clear hb)
 (try clear hb2)
 (try clear hk)
 (try clear hi)
 refine hK.out _ _ (cb3 BK558 (eb4 BK559)).out (fun hHeld => ?_)
 clear hK K
 refine norm_ (a' := ?_) ?_ ?_
 rotate_left
 ·show Act.put _ (some 11) _ = _
  simp only [Act.put, sA, sB, sC, i64_w, i32_w]
  rfl
 refine ro 6 (some 12) (bT 8 7) HT_ (fun K hK => ?_)
 refine gs Tryz.func58 #[.agg #[.int .i64 t560, .int .i64 t561], .agg #[.int .i64 t562, .int .i64 t563]] ?_
 with_reducible refine (spec_l01Det.calls _ _ _ _ _ _ A5.out).mono ?_
 rintro e w12 ⟨rfl, hb⟩
 refine ⟨_, rfl, ?_⟩
 replace BK558 := bB BK558 hb
 replace BK559 := bB BK559 hb
 replace HB := bS2 HB GE558 GE559 hb
 (try clear hb)
 (try clear hb2)
 (try clear hk)
 (try clear hi)
 refine hK.out _ _ (cb3 BK558 (eb4 BK559)).out (fun hHeld => ?_)
 clear hK K
 refine norm_ (a' := ?_) ?_ ?_
 rotate_left
 ·show Act.put _ (some 12) _ = _
  simp only [Act.put, sA, sB, sC, i64_w, i32_w]
  rfl
 refine pu 7 (some 5) (bT 8 8) HT_ ?_
 refine done_ (done_of HT_.out (by kernel_rfl)) ?_
 have hnb13 := NB558_559.out
 have hnc13 := NB559_558.out
 obtain ⟨hcz14_0, hcz14_1, hcz14_2, hfz14_0, hfz14_1, hfz14_2⟩ := bz3 BK558
 try go_wp2
 go_ret
 exact ⟨by first | rfl | (simp [errW_none, errW_some] <;> rfl) | (simp only [← hji6]; first | rfl | (simp [errW_none, errW_some] <;> rfl)) | (simp [*, errW_none, errW_some] <;> rfl), bbw2 HB GE558 GE559⟩
/-! ### spec_IsCentred: function 9 -/
def spec_IsCentred.f (k : Nat) (a0 : Int) (a1_0 : Int) (a1_1 : Int) (a1_2 : Int) (a2_0 : Int) (a2_1 : Int) (a2_2 : Int) (a2_3 : Int) : Option (Bool × Int) := (spec_l11Mirror.f k a0 a1_0 a1_1 a1_2 a2_0 a2_1 a2_2 a2_3).bind fun t567 => ((spec_l06Code.f a0 a1_0 a1_1 a1_2 t567).bind fun t568 => (if t568 = 0 then ((spec_l11Centred.f k a1_0 a1_1 a1_2 a2_0 a2_1 a2_2 a2_3).bind fun t569 => (some (t569, 0))) else (some (false, t568))))
def spec_IsCentred.T1 : Bool × List (List Nat × List Nat) := (true, [([], []), ([], []), ([], []), ([], []), ([], []), ([2, 3, 4], [2, 3, 4]), ([0, 1, 5, 5], [0, 1, 5]), ([6, 6, 0, 1, 2, 3, 4, 5, 6], [6])])
def spec_IsCentred.B1 : List Nat := [0, 0, 0, 0, 0, 28, 63, 127]
theorem spec_IsCentred.tab1 : rtab .any (opsOf Tryz.f9 1) = spec_IsCentred.T1 := by kernel_rfl
theorem spec_IsCentred.bits1 : waitsOk spec_IsCentred.T1.2 spec_IsCentred.B1 = true := by kernel_rfl
set_option maxHeartbeats 8000000 in
set_option maxRecDepth 100000 in
theorem spec_IsCentred.calls (k : Nat) (a0 : Int) (a1_0 : Int) (a1_1 : Int) (a1_2 : Int) (a2_0 : Int) (a2_1 : Int) (a2_2 : Int) (a2_3 : Int) (r1 : Bool) (r2 : Int) (w : World) (h : spec_IsCentred.f k a0 a1_0 a1_1 a1_2 a2_0 a2_1 a2_2 a2_3 = some (r1, r2)) :
  Calls Tryz.prog 9 #[.int .i64 a0, .agg #[.int .i64 a1_0, .int .i64 a1_1, .int .i64 a1_2], .agg #[.int .i64 a2_0, .int .i64 a2_1, .int .i64 a2_2, .int .i64 a2_3]] w fun e w' => e = .returned (.tuple #[.bool r1, .int .i64 r2]) ∧ Below w.heap.size w w' := by
 have hu25 := Tryz.underlying25
 have hu27 := Tryz.underlying27
 have HB := asd (Below.refl w.heap.size w)
 have H : ((spec_l11Mirror.f k a0 a1_0 a1_1 a1_2 a2_0 a2_1 a2_2 a2_3).bind fun t567 => ((spec_l06Code.f a0 a1_0 a1_1 a1_2 t567).bind fun t568 => (if t568 = 0 then ((spec_l11Centred.f k a1_0 a1_1 a1_2 a2_0 a2_1 a2_2 a2_3).bind fun t569 => (some (t569, 0))) else (some (false, t568))))) = some (r1, r2) := h
 clear h
 obtain ⟨t567, A4, H⟩ := ob H
 try dsimp only at H
 obtain ⟨t568, A5, H⟩ := ob H
 try dsimp only at H
 by_cases c6 : t568 = 0
 rw [if_pos c6] at H
 have c6b0 : (t568 == 0) = true := beq_iff_eq.mpr c6
 have c6b1 : (t568 != 0) = false := bne_eq_false_iff_eq.mpr c6
 clear c6
 obtain ⟨t569, A7, H⟩ := ob H
 try dsimp only at H
 rotate_left
 rw [if_neg c6] at H
 have c6b0 : (t568 == 0) = false := beq_eq_false_iff_ne.mpr c6
 have c6b1 : (t568 != 0) = true := bne_iff_ne.mpr c6
 rotate_left
 all_goals
  simp only [Option.some.injEq, Prod.mk.injEq] at H
  obtain ⟨rfl, rfl⟩ := H
  go_enter Tryz.func9, Tryz.ntmps9
  try go_wp2_with (first | ((with_reducible refine gd 4 rfl ?_); refine bx #[.int .i64 a1_0, .int .i64 a1_1, .int .i64 a1_2] 25 ?_; intro gb565 hg w8 BK565 hb; have GE565 := ngw0 hg HB; replace HB := bS0 HB hb; clear hb hg) | ((with_reducible refine gd 5 rfl ?_); refine bx #[.int .i64 a2_0, .int .i64 a2_1, .int .i64 a2_2, .int .i64 a2_3] 27 ?_; intro gb566 hg w9 BK566 hb; have GE566 := ngw1 hg HB GE565; replace HB := bS1 HB GE565 hb; have NB565_566 := nlt hg BK565; have NB566_565 := nsy (nlt hg BK565); replace BK565 := bB BK565 hb; clear hb hg))
  replace BK565 := asd (blk_drew BK565.out)
  replace BK566 := asd (blk_drew BK566.out)
  replace HB := asd (below_drew1 HB.out)
  refine sh 8 (cb3 BK565 (eb4 BK566)) (fun hHeld => ?_); refine with_tabW spec_IsCentred.tab1 spec_IsCentred.bits1 (fun HT_ HW_ => ?_)
  generalize w9.drew = w10 at BK565 BK566 HB hHeld ⊢
  refine pu 0 (some 9) (bT 8 1) HT_ ?_
  refine pu 2 (some 11) (bs 8 5) HT_ ?_
  refine ta 1 (some 10) (bT 8 3) HT_ HW_ hHeld ?_
  refine ta 3 (some 12) (bT 8 4) HT_ HW_ hHeld ?_
  refine ta 4 (some 13) (bT 8 5) HT_ HW_ hHeld ?_
  refine ro 5 (some 14) (bT 8 6) HT_ (fun K hK => ?_)
  refine gs Tryz.func24 #[.int .i64 a0, .agg #[.int .i64 a1_0, .int .i64 a1_1, .int .i64 a1_2], .agg #[.int .i64 a2_0, .int .i64 a2_1, .int .i64 a2_2, .int .i64 a2_3]] ?_
  with_reducible refine (spec_l11Mirror.calls _ _ _ _ _ _ _ _ _ _ _ A4.out).mono ?_
  rintro e w11 ⟨rfl, hb⟩
  refine ⟨_, rfl, ?_⟩
  replace BK565 := bB BK565 hb
  replace BK566 := bB BK566 hb
  replace HB := bS2 HB GE565 GE566 hb
  (try clear hb)
  (try clear hb2)
  (try clear hk)
  (try clear hi)
  refine hK.out _ _ (cb3 BK565 (eb4 BK566)).out (fun hHeld => ?_)
  clear hK K
  refine norm_ (a' := ?_) ?_ ?_
  rotate_left
  ·show Act.put _ (some 14) _ = _
   simp only [Act.put, sA, sB, sC, i64_w, i32_w]
   rfl
  refine ro 6 (some 15) (bT 8 7) HT_ (fun K hK => ?_)
  refine gs Tryz.func23 #[.int .i64 a0, .agg #[.int .i64 a1_0, .int .i64 a1_1, .int .i64 a1_2], .bool t567] ?_
  with_reducible refine (spec_l06Code.calls _ _ _ _ _ _ _ A5.out).mono ?_
  rintro e w12 ⟨rfl, hb⟩
  refine ⟨_, rfl, ?_⟩
  replace BK565 := bB BK565 hb
  replace BK566 := bB BK566 hb
  replace HB := bS2 HB GE565 GE566 hb
  (try clear hb)
  (try clear hb2)
  (try clear hk)
  (try clear hi)
  refine hK.out _ _ (cb3 BK565 (eb4 BK566)).out (fun hHeld => ?_)
  clear hK K
  refine norm_ (a' := ?_) ?_ ?_
  rotate_left
  ·show Act.put _ (some 15) _ = _
   simp only [Act.put, sA, sB, sC, i64_w, i32_w]
   rfl
  refine pu 7 (some 8) (bT 8 8) HT_ ?_
  refine done_ (done_of HT_.out (by kernel_rfl)) ?_
 ·have hnb13 := NB565_566.out
  have hnc13 := NB566_565.out
  obtain ⟨hcz14_0, hcz14_1, hcz14_2, hfz14_0, hfz14_1, hfz14_2⟩ := bz3 BK565
  obtain ⟨hcz15_0, hcz15_1, hcz15_2, hcz15_3, hfz15_0, hfz15_1, hfz15_2, hfz15_3⟩ := bz4 BK566
  try go_wp2_with (first | ((with_reducible refine gate_callee (f := 27) rfl ?_); refine gl 21 Tryz.func27 #[.agg #[.int .i64 a1_0, .int .i64 a1_1, .int .i64 a1_2], .agg #[.int .i64 a2_0, .int .i64 a2_1, .int .i64 a2_2, .int .i64 a2_3]] ?_; (with_reducible refine (spec_l11Centred.calls _ _ _ _ _ _ _ _ _ _ A7.out).mono ?_); rintro e w16 ⟨rfl, hb⟩; refine ⟨_, rfl, ?_⟩; replace BK565 := bB BK565 hb; replace BK566 := bB BK566 hb; replace HB := bS2 HB GE565 GE566 hb; (try clear hb)))
  go_ret2
  exact er (bbw2 HB GE565 GE566)
 ·try go_wp2
  go_ret2
  exact er (bbw2 HB GE565 GE566)

end Go.Proofs.YtedmadofpdkekaaGreat.PA
