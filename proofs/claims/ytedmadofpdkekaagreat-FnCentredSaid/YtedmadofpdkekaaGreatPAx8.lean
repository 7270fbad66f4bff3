/- Walks written by program: each Go function that the law reaches comes to the plain function beside it. -/
import Derived.Test.YtedmadofpdkekaaGreatPAx0
import Derived.Test.YtedmadofpdkekaaGreatPAx5
import Derived.Test.YtedmadofpdkekaaGreatPAx6
import Derived.Test.YtedmadofpdkekaaGreatPAx7
namespace Go.Proofs.YtedmadofpdkekaaGreat.PA
open Go.RowKit Go.Proofs.YtedmadofpdkekaaGreatW.PrintWords Go.Proofs.YtedmadofpdkekaaGreatW.PrintLast Go.Proofs.YtedmadofpdkekaaGreatW.PrintMore
attribute [local go_sem] max2_int min2_int max_two min_two max_three min_three max_four min_four   -- for this text's walks alone
set_option linter.unusedVariables false
set_option linter.unusedSimpArgs false

/-! ### spec_l06DrawMotion: function 46 -/
def spec_l06DrawMotion.f (k : Nat) (s0_0 : List Int) (s0_1 : Int) (s0_2 : Int) (a1 : Int) (a2_0 : Int) (a2_1 : Int) (a2_2 : Int) : Option (Int × Int × Int × Int × Int × Int × Int × Int) := (spec_l02Unit.f).bind fun bt257 => ((spec_l04Code.f a1 a2_0 a2_1 a2_2).bind fun t262 => (if t262 = 0 then ((spec_l04Stable.f k a1 a2_0 a2_1 a2_2).bind fun t263 => ((spec_l01Next.f s0_0 s0_1 s0_2 (t263.length : Int)).bind fun bt266 => (if 0 ≤ bt266.1 then (if bt266.1 < (t263.length : Int) then ((spec_l01Next.f s0_0 bt266.2.1 bt266.2.2 9).bind fun bt270 => ((spec_l01Next.f s0_0 bt270.2.1 bt270.2.2 9).bind fun bt273 => (some ((rd_T27 t263 bt266.1).f0, (rd_T27 t263 bt266.1).f1, (rd_T27 t263 bt266.1).f2, (rd_T27 t263 bt266.1).f3, wrap64 (bt270.1 - 4), wrap64 (bt273.1 - 4), bt273.2.1, bt273.2.2)))) else (none)) else (none)))) else ((spec_l01Next.f s0_0 s0_1 s0_2 9).bind fun bt276 => ((spec_l01Next.f s0_0 bt276.2.1 bt276.2.2 9).bind fun bt279 => (some (bt257.1, bt257.2.1, bt257.2.2.1, bt257.2.2.2, wrap64 (bt276.1 - 4), wrap64 (bt279.1 - 4), bt279.2.1, bt279.2.2))))))
def spec_l06DrawMotion.T5 : Bool × List (List Nat × List Nat) := (true, [([], []), ([], []), ([1], [1]), ([2], [2]), ([], []), ([4, 2], [4]), ([5], [5]), ([3, 6], [3, 6]), ([0, 7], [0, 7]), ([8, 5, 0, 1, 2, 3, 4, 5, 6, 7, 8], [8])])
def spec_l06DrawMotion.B5 : List Nat := [0, 0, 2, 6, 0, 22, 54, 126, 255, 511]
theorem spec_l06DrawMotion.tab5 : rtab .any (opsOf Tryz.f46 5) = spec_l06DrawMotion.T5 := by kernel_rfl
theorem spec_l06DrawMotion.bits5 : waitsOk spec_l06DrawMotion.T5.2 spec_l06DrawMotion.B5 = true := by kernel_rfl
set_option maxHeartbeats 8000000 in
set_option maxRecDepth 100000 in
theorem spec_l06DrawMotion.calls (k : Nat) (g : Nat) (s0_0 : List Int) (s0_1 : Int) (s0_2 : Int) (a1 : Int) (a2_0 : Int) (a2_1 : Int) (a2_2 : Int) (r1 : Int) (r2 : Int) (r3 : Int) (r4 : Int) (r5 : Int) (r6 : Int) (r7 : Int) (r8 : Int) (w0 w : World) (hI : IsS75 w0 w g s0_0 s0_1 s0_2) (hB : Below w0.heap.size w0 w) (h : spec_l06DrawMotion.f k s0_0 s0_1 s0_2 a1 a2_0 a2_1 a2_2 = some (r1, r2, r3, r4, r5, r6, r7, r8)) :
  Calls Tryz.prog 46 #[.pointer (some ⟨g, 0, none⟩), .int .i64 a1, .agg #[.int .i64 a2_0, .int .i64 a2_1, .int .i64 a2_2]] w fun e w' => e = .returned (.agg #[.int .i64 r1, .int .i64 r2, .int .i64 r3, .int .i64 r4, .int .i64 r5, .int .i64 r6]) ∧ IsS75 w0 w' g s0_0 r7 r8 ∧ Below w0.heap.size w0 w' ∧ KeepBut w w' g none := by
 have hu25 := Tryz.underlying25
 have hu37 := Tryz.underlying37
 have hu27 := Tryz.underlying27
 have hu31 := Tryz.underlying31
 have HI0 := Aside0.mk hI
 have HK := asd (KeepBut.refl w g none)
 have HL := Aside0.mk hB.size
 clear hI
 have HW0 := Aside0.mk hB.size
 have HB := Aside0.mk hB
 clear hB
 have H : ((spec_l02Unit.f).bind fun bt257 => ((spec_l04Code.f a1 a2_0 a2_1 a2_2).bind fun t262 => (if t262 = 0 then ((spec_l04Stable.f k a1 a2_0 a2_1 a2_2).bind fun t263 => ((spec_l01Next.f s0_0 s0_1 s0_2 (t263.length : Int)).bind fun bt266 => (if 0 ≤ bt266.1 then (if bt266.1 < (t263.length : Int) then ((spec_l01Next.f s0_0 bt266.2.1 bt266.2.2 9).bind fun bt270 => ((spec_l01Next.f s0_0 bt270.2.1 bt270.2.2 9).bind fun bt273 => (some ((rd_T27 t263 bt266.1).f0, (rd_T27 t263 bt266.1).f1, (rd_T27 t263 bt266.1).f2, (rd_T27 t263 bt266.1).f3, wrap64 (bt270.1 - 4), wrap64 (bt273.1 - 4), bt273.2.1, bt273.2.2)))) else (none)) else (none)))) else ((spec_l01Next.f s0_0 s0_1 s0_2 9).bind fun bt276 => ((spec_l01Next.f s0_0 bt276.2.1 bt276.2.2 9).bind fun bt279 => (some (bt257.1, bt257.2.1, bt257.2.2.1, bt257.2.2.2, wrap64 (bt276.1 - 4), wrap64 (bt279.1 - 4), bt279.2.1, bt279.2.2))))))) = some (r1, r2, r3, r4, r5, r6, r7, r8) := h
 clear h
 obtain ⟨⟨t257, t258, t259, t260⟩, A4, H⟩ := ob H
 try dsimp only at H
 obtain ⟨t262, A5, H⟩ := ob H
 try dsimp only at H
 by_cases c6 : t262 = 0
 ·rw [if_pos c6] at H
  have c6b0 : (t262 == 0) = true := beq_iff_eq.mpr c6
  have c6b1 : (t262 != 0) = false := bne_eq_false_iff_eq.mpr c6
  clear c6
  obtain ⟨t263, A7, H⟩ := ob H
  try dsimp only at H
  obtain ⟨⟨t266, t267, t268⟩, A8, H⟩ := ob H
  try dsimp only at H
  by_cases c9 : 0 ≤ t266
  ·rw [if_pos c9] at H
   have c9b0 := decide_eq_true c9
   clear c9
   by_cases c10 : t266 < (t263.length : Int)
   ·rw [if_pos c10] at H
    have c10b0 := decide_eq_true c10
    clear c10
    obtain ⟨⟨t270, t271, t272⟩, A11, H⟩ := ob H
    try dsimp only at H
    obtain ⟨⟨t273, t274, t275⟩, A12, H⟩ := ob H
    try dsimp only at H
    simp only [Option.some.injEq, Prod.mk.injEq] at H
    obtain ⟨rfl, rfl, rfl, rfl, rfl, rfl, rfl, rfl⟩ := H
    go_enter Tryz.func46, Tryz.ntmps46
    try go_wp2_with (first | ((with_reducible refine gd 5 rfl ?_); refine bx #[.int .i64 a2_0, .int .i64 a2_1, .int .i64 a2_2] 25 ?_; intro gb255 hg w13 BK255 hb; replace HB := asd (below_step (by repeat (first | (with_reducible first | exact HB.out | apply below_alloc | apply pw_below_drewN | apply below_drew1 | refine below_set ?_ (IsS75.ge HI0.out)) | exact HB.out)) hb); have GW255 := asd ((by rw [hg]; exact (keep_size (w := w) (g := g) (row := none) (by repeat (first | (with_reducible first | exact HK.out | apply KeepBut.set_ | apply keep_drewN | apply keep_drew | apply keep_alloc) | exact HK.out))) : w.heap.size ≤ gb255)); have GE255 := asd ((Nat.le_trans HW0.out (by rw [hg]; exact (keep_size (w := w) (g := g) (row := none) (by repeat (first | (with_reducible first | exact HK.out | apply KeepBut.set_ | apply keep_drewN | apply keep_drew | apply keep_alloc) | exact HK.out))) : w.heap.size ≤ gb255) : w0.heap.size ≤ gb255)); replace HK := asd (KeepBut.trans (by repeat (first | (with_reducible first | exact HK.out | apply KeepBut.set_ | apply keep_drewN | apply keep_drew | apply keep_alloc) | exact HK.out)) (KeepBut.of_below hb g none) (.inl rfl)); have NB0_255 := asd ((by rw [hg]; exact Nat.ne_of_lt (IsS75.lt (show IsS75 w0 _ g s0_0 s0_1 s0_2 from by repeat (first | (with_reducible first | exact HI0.out | apply IsS75.alloc | apply IsS75.drewN | apply IsS75.drew | apply IsS75.set_1 | apply IsS75.set_2) | exact HI0.out))) : g ≠ gb255)); have NB255_0 := asd ((by rw [hg]; exact Nat.ne_of_gt (IsS75.lt (show IsS75 w0 _ g s0_0 s0_1 s0_2 from by repeat (first | (with_reducible first | exact HI0.out | apply IsS75.alloc | apply IsS75.drewN | apply IsS75.drew | apply IsS75.set_1 | apply IsS75.set_2) | exact HI0.out))) : gb255 ≠ g)); replace HI0 := asd (IsS75.below (by repeat (first | (with_reducible first | exact HI0.out | apply IsS75.alloc | apply IsS75.drewN | apply IsS75.drew | apply IsS75.set_1 | apply IsS75.set_2) | exact HI0.out)) hb); clear hb hg) | ((with_reducible refine gd 6 rfl ?_); refine bx #[.int .i64 0, .int .i64 0, .int .i64 0, .int .i64 0, .int .i64 0, .int .i64 0] 37 ?_; intro gb256 hg w14 BK256 hb; replace HB := asd (below_step (by repeat (first | (with_reducible first | exact HB.out | apply below_alloc | apply pw_below_drewN | apply below_drew1 | refine below_set ?_ (IsS75.ge HI0.out) | refine below_set ?_ GE255.out) | exact HB.out)) hb); have GW256 := asd ((by rw [hg]; exact (keep_size (w := w) (g := g) (row := none) (by repeat (first | (with_reducible first | exact HK.out | apply KeepBut.set_ | apply keep_drewN | apply keep_drew | apply keep_alloc | refine keep_far ?_ GW255.out _) | exact HK.out))) : w.heap.size ≤ gb256)); have GE256 := asd ((Nat.le_trans HW0.out (by rw [hg]; exact (keep_size (w := w) (g := g) (row := none) (by repeat (first | (with_reducible first | exact HK.out | apply KeepBut.set_ | apply keep_drewN | apply keep_drew | apply keep_alloc | refine keep_far ?_ GW255.out _) | exact HK.out))) : w.heap.size ≤ gb256) : w0.heap.size ≤ gb256)); replace HK := asd (KeepBut.trans (by repeat (first | (with_reducible first | exact HK.out | apply KeepBut.set_ | apply keep_drewN | apply keep_drew | apply keep_alloc | refine keep_far ?_ GW255.out _) | exact HK.out)) (KeepBut.of_below hb g none) (.inl rfl)); have NB255_256 := nlt hg BK255; have NB256_255 := nsy (nlt hg BK255); replace BK255 := bB BK255 hb; have NB0_256 := asd ((by rw [hg]; exact Nat.ne_of_lt (IsS75.lt (show IsS75 w0 _ g s0_0 s0_1 s0_2 from by repeat (first | (with_reducible first | exact HI0.out | apply IsS75.alloc | apply IsS75.drewN | apply IsS75.drew | apply IsS75.set_1 | apply IsS75.set_2 | refine IsS75.far ?_ NB0_255.out _) | exact HI0.out))) : g ≠ gb256)); have NB256_0 := asd ((by rw [hg]; exact Nat.ne_of_gt (IsS75.lt (show IsS75 w0 _ g s0_0 s0_1 s0_2 from by repeat (first | (with_reducible first | exact HI0.out | apply IsS75.alloc | apply IsS75.drewN | apply IsS75.drew | apply IsS75.set_1 | apply IsS75.set_2 | refine IsS75.far ?_ NB0_255.out _) | exact HI0.out))) : gb256 ≠ g)); replace HI0 := asd (IsS75.below (by repeat (first | (with_reducible first | exact HI0.out | apply IsS75.alloc | apply IsS75.drewN | apply IsS75.drew | apply IsS75.set_1 | apply IsS75.set_2 | refine IsS75.far ?_ NB0_255.out _) | exact HI0.out)) hb); clear hb hg) | ((with_reducible refine gate_callee (f := 81) rfl ?_); refine gl 9 Tryz.func81 #[] ?_; (with_reducible refine (spec_l02Unit.calls _ _ _ _ _ A4.out).mono ?_); rintro e w15 ⟨rfl, hb⟩; refine ⟨_, rfl, ?_⟩; replace BK255 := bB BK255 hb; replace BK256 := bB BK256 hb; replace HK := asd (KeepBut.trans (by repeat (first | (with_reducible first | exact HK.out | apply KeepBut.set_ | apply keep_drewN | apply keep_drew | apply keep_alloc | refine keep_far ?_ GW255.out _ | refine keep_far ?_ GW256.out _) | exact HK.out)) (KeepBut.of_below hb g none) (.inl rfl)); replace HB := asd (below_step (by repeat (first | (with_reducible first | exact HB.out | apply below_alloc | apply pw_below_drewN | apply below_drew1 | refine below_set ?_ (IsS75.ge HI0.out) | refine below_set ?_ GE255.out | refine below_set ?_ GE256.out) | exact HB.out)) hb); replace HI0 := asd (IsS75.below (by repeat (first | (with_reducible first | exact HI0.out | apply IsS75.alloc | apply IsS75.drewN | apply IsS75.drew | apply IsS75.set_1 | apply IsS75.set_2 | refine IsS75.far ?_ NB0_255.out _ | refine IsS75.far ?_ NB0_256.out _) | exact HI0.out)) hb); (try clear hb)) | ((with_reducible refine gd 7 rfl ?_); refine bx #[.int .i64 0, .int .i64 0, .int .i64 0, .int .i64 0] 27 ?_; intro gb261 hg w16 BK261 hb; replace HB := asd (below_step (by repeat (first | (with_reducible first | exact HB.out | apply below_alloc | apply pw_below_drewN | apply below_drew1 | refine below_set ?_ (IsS75.ge HI0.out) | refine below_set ?_ GE255.out | refine below_set ?_ GE256.out) | exact HB.out)) hb); have GW261 := asd ((by rw [hg]; exact (keep_size (w := w) (g := g) (row := none) (by repeat (first | (with_reducible first | exact HK.out | apply KeepBut.set_ | apply keep_drewN | apply keep_drew | apply keep_alloc | refine keep_far ?_ GW255.out _ | refine keep_far ?_ GW256.out _) | exact HK.out))) : w.heap.size ≤ gb261)); have GE261 := asd ((Nat.le_trans HW0.out (by rw [hg]; exact (keep_size (w := w) (g := g) (row := none) (by repeat (first | (with_reducible first | exact HK.out | apply KeepBut.set_ | apply keep_drewN | apply keep_drew | apply keep_alloc | refine keep_far ?_ GW255.out _ | refine keep_far ?_ GW256.out _) | exact HK.out))) : w.heap.size ≤ gb261) : w0.heap.size ≤ gb261)); replace HK := asd (KeepBut.trans (by repeat (first | (with_reducible first | exact HK.out | apply KeepBut.set_ | apply keep_drewN | apply keep_drew | apply keep_alloc | refine keep_far ?_ GW255.out _ | refine keep_far ?_ GW256.out _) | exact HK.out)) (KeepBut.of_below hb g none) (.inl rfl)); have NB255_261 := nlt hg BK255; have NB261_255 := nsy (nlt hg BK255); replace BK255 := bB BK255 hb; have NB256_261 := nlt hg BK256; have NB261_256 := nsy (nlt hg BK256); replace BK256 := bB BK256 hb; have NB0_261 := asd ((by rw [hg]; exact Nat.ne_of_lt (IsS75.lt (show IsS75 w0 _ g s0_0 s0_1 s0_2 from by repeat (first | (with_reducible first | exact HI0.out | apply IsS75.alloc | apply IsS75.drewN | apply IsS75.drew | apply IsS75.set_1 | apply IsS75.set_2 | refine IsS75.far ?_ NB0_255.out _ | refine IsS75.far ?_ NB0_256.out _) | exact HI0.out))) : g ≠ gb261)); have NB261_0 := asd ((by rw [hg]; exact Nat.ne_of_gt (IsS75.lt (show IsS75 w0 _ g s0_0 s0_1 s0_2 from by repeat (first | (with_reducible first | exact HI0.out | apply IsS75.alloc | apply IsS75.drewN | apply IsS75.drew | apply IsS75.set_1 | apply IsS75.set_2 | refine IsS75.far ?_ NB0_255.out _ | refine IsS75.far ?_ NB0_256.out _) | exact HI0.out))) : gb261 ≠ g)); replace HI0 := asd (IsS75.below (by repeat (first | (with_reducible first | exact HI0.out | apply IsS75.alloc | apply IsS75.drewN | apply IsS75.drew | apply IsS75.set_1 | apply IsS75.set_2 | refine IsS75.far ?_ NB0_255.out _ | refine IsS75.far ?_ NB0_256.out _) | exact HI0.out)) hb); clear hb hg; have hnb17 := NB261_255.out; have hnc17 := NB255_261.out; have hnb18 := NB261_256.out; have hnc18 := NB256_261.out; have hnb19 := NB261_0.out; have hnc19 := NB0_261.out; obtain ⟨hcz20_0, hcz20_1, hcz20_2, hcz20_3, hfz20_0, hfz20_1, hfz20_2, hfz20_3⟩ := bz4 BK261; have hnb21 := NB255_256.out; have hnc21 := NB256_255.out; have hnb22 := NB255_0.out; have hnc22 := NB0_255.out; obtain ⟨hcz23_0, hcz23_1, hcz23_2, hfz23_0, hfz23_1, hfz23_2⟩ := bz3 BK255) | ((with_reducible refine gate_callee (f := 52) rfl ?_); refine gl 12 Tryz.func52 #[.int .i64 a1, .agg #[.int .i64 a2_0, .int .i64 a2_1, .int .i64 a2_2]] ?_; (with_reducible refine (spec_l04Code.calls _ _ _ _ _ _ A5.out).mono ?_); rintro e w24 ⟨rfl, hb⟩; refine ⟨_, rfl, ?_⟩; replace BK255 := asd (blk_below (g := gb255) (o := .cells #[.int .i64 a2_0, .int .i64 a2_1, .int .i64 a2_2] 25 (0, 0)) (bq1 BK255 NB255_261) hb); replace BK256 := asd (blk_below (g := gb256) (o := .cells #[.int .i64 0, .int .i64 0, .int .i64 0, .int .i64 0, .int .i64 0, .int .i64 0] 37 (0, 0)) (bq1 BK256 NB256_261) hb); replace BK261 := asd (blk_below (g := gb261) (o := .cells #[.int .i64 t257, .int .i64 t258, .int .i64 t259, .int .i64 t260] 27 (0, 0)) (bq0 BK261) hb); replace HK := asd (KeepBut.trans (by repeat (first | (with_reducible first | exact HK.out | apply KeepBut.set_ | apply keep_drewN | apply keep_drew | apply keep_alloc | refine keep_far ?_ GW255.out _ | refine keep_far ?_ GW256.out _ | refine keep_far ?_ GW261.out _) | exact HK.out)) (KeepBut.of_below hb g none) (.inl rfl)); replace HB := asd (below_step (by repeat (first | (with_reducible first | exact HB.out | apply below_alloc | apply pw_below_drewN | apply below_drew1 | refine below_set ?_ (IsS75.ge HI0.out) | refine below_set ?_ GE255.out | refine below_set ?_ GE256.out | refine below_set ?_ GE261.out) | exact HB.out)) hb); replace HI0 := asd (IsS75.below (show IsS75 w0 ((((w16.setCell ⟨gb261, 0, none⟩ (.int .i64 t257)).setCell ⟨gb261, 1, none⟩ (.int .i64 t258)).setCell ⟨gb261, 2, none⟩ (.int .i64 t259)).setCell ⟨gb261, 3, none⟩ (.int .i64 t260)) g s0_0 s0_1 s0_2 from by repeat (first | (with_reducible first | exact HI0.out | apply IsS75.alloc | apply IsS75.drewN | apply IsS75.drew | apply IsS75.set_1 | apply IsS75.set_2 | refine IsS75.far ?_ NB0_255.out _ | refine IsS75.far ?_ NB0_256.out _ | refine IsS75.far ?_ NB0_261.out _) | exact HI0.out)) hb); (try clear hb); obtain ⟨hcz25_0, hcz25_1, hcz25_2, hfz25_0, hfz25_1, hfz25_2⟩ := bz3 BK255) | ((with_reducible refine gate_callee (f := 82) rfl ?_); refine gl 16 Tryz.func82 #[.int .i64 a1, .agg #[.int .i64 a2_0, .int .i64 a2_1, .int .i64 a2_2]] ?_; (with_reducible refine (spec_l04Stable.calls _ _ _ _ _ _ _ A7.out).mono ?_); rintro e w26 ⟨v264, rfl, ho0, hb⟩; refine ⟨_, rfl, ?_⟩; have HO265 := asd (Kd.R_lower (Kd.R_newB ho0 (g := gb261) (o := .cells #[.int .i64 t257, .int .i64 t258, .int .i64 t259, .int .i64 t260] 27 (0, 0)) (bkp BK261)) (keep_size (w := w) (g := g) (row := none) (by repeat (first | (with_reducible first | exact HK.out | apply KeepBut.set_ | apply keep_drewN | apply keep_drew | apply keep_alloc | refine keep_far ?_ GW255.out _ | refine keep_far ?_ GW256.out _ | refine keep_far ?_ GW261.out _) | exact HK.out)))); replace BK255 := bB BK255 hb; replace BK256 := bB BK256 hb; replace BK261 := bB BK261 hb; replace HK := asd (KeepBut.trans (by repeat (first | (with_reducible first | exact HK.out | apply KeepBut.set_ | apply keep_drewN | apply keep_drew | apply keep_alloc | refine keep_far ?_ GW255.out _ | refine keep_far ?_ GW256.out _ | refine keep_far ?_ GW261.out _) | exact HK.out)) (KeepBut.of_below hb g none) (.inl rfl)); replace HB := asd (below_step (by repeat (first | (with_reducible first | exact HB.out | apply below_alloc | apply pw_below_drewN | apply below_drew1 | refine below_set ?_ (IsS75.ge HI0.out) | refine below_set ?_ GE255.out | refine below_set ?_ GE256.out | refine below_set ?_ GE261.out) | exact HB.out)) hb); replace HI0 := asd (IsS75.below (by repeat (first | (with_reducible first | exact HI0.out | apply IsS75.alloc | apply IsS75.drewN | apply IsS75.drew | apply IsS75.set_1 | apply IsS75.set_2 | refine IsS75.far ?_ NB0_255.out _ | refine IsS75.far ?_ NB0_256.out _ | refine IsS75.far ?_ NB0_261.out _) | exact HI0.out)) hb); (try clear hb); (try clear hb2); (try clear hk); (try clear hi); (try clear ho0); obtain ⟨Ao27, co27, eo27⟩ := Kd.R_slice HO265.out; subst eo27) | ((with_reducible refine gate_callee (f := 59) rfl ?_); refine gl 21 Tryz.func59 #[.pointer (some ⟨g, 0, none⟩), .int .i64 (t263.length : Int)] ?_; (with_reducible refine (spec_l01Next.calls _ _ _ _ _ _ _ _ w0 _ ?side1 ?side2 A8.out).mono ?_); (case side1 => repeat (first | (with_reducible first | exact HI0.out | apply IsS75.alloc | apply IsS75.drewN | apply IsS75.drew | apply IsS75.set_1 | apply IsS75.set_2 | refine IsS75.far ?_ NB0_255.out _ | refine IsS75.far ?_ NB0_256.out _ | refine IsS75.far ?_ NB0_261.out _) | exact HI0.out)); (case side2 => repeat (first | (with_reducible first | exact HB.out | apply below_alloc | apply pw_below_drewN | apply below_drew1 | refine below_set ?_ (IsS75.ge HI0.out) | refine below_set ?_ GE255.out | refine below_set ?_ GE256.out | refine below_set ?_ GE261.out) | exact HB.out)); rintro e w28 ⟨rfl, hi, hb, hk⟩; refine ⟨_, rfl, ?_⟩; replace BK255 := asd (KeepBut.blk hk (g' := gb255) (o := .cells #[.int .i64 a2_0, .int .i64 a2_1, .int .i64 a2_2] 25 (0, 0)) (bkp BK255) NB255_0.out (by simp)); replace BK256 := asd (KeepBut.blk hk (g' := gb256) (o := .cells #[.int .i64 0, .int .i64 0, .int .i64 0, .int .i64 0, .int .i64 0, .int .i64 0] 37 (0, 0)) (bkp BK256) NB256_0.out (by simp)); replace BK261 := asd (KeepBut.blk hk (g' := gb261) (o := .cells #[.int .i64 t257, .int .i64 t258, .int .i64 t259, .int .i64 t260] 27 (0, 0)) (bkp BK261) NB261_0.out (by simp)); replace HO265 := asd (Kd.R_mono (Kd.R_keep (IsS75.apart (show IsS75 w0 _ g s0_0 s0_1 s0_2 from by repeat (first | (with_reducible first | exact HI0.out | apply IsS75.alloc | apply IsS75.drewN | apply IsS75.drew | apply IsS75.set_1 | apply IsS75.set_2 | refine IsS75.far ?_ NB0_255.out _ | refine IsS75.far ?_ NB0_256.out _ | refine IsS75.far ?_ NB0_261.out _) | exact HI0.out)) (kr HO265) (by decide)) hk (fun _ h => h.2)) (fun _ h => h.1)); replace HK := asd (KeepBut.trans (by repeat (first | (with_reducible first | exact HK.out | apply KeepBut.set_ | apply keep_drewN | apply keep_drew | apply keep_alloc | refine keep_far ?_ GW255.out _ | refine keep_far ?_ GW256.out _ | refine keep_far ?_ GW261.out _) | exact HK.out)) hk (.inl rfl)); replace HB := asd (hb); replace HI0 := asd (hi); (try clear hb); (try clear hb2); (try clear hk); (try clear hi); have p269 : 0 ≤ (t266 : Int) := od; have q269 : t266 < (t263.length : Int) := od; obtain ⟨ad269, e269, hx269_0, hx269_1, hx269_2, hx269_3⟩ := at_T27 (Kd.R_reads' HO265.out).2.2 t266 p269 q269; cases e269; replace p269 := eq_true p269; replace q269 := eq_true q269; obtain ⟨hcz29_0, hcz29_1, hcz29_2, hcz29_3, hfz29_0, hfz29_1, hfz29_2, hfz29_3⟩ := bz4 BK261))
    obtain ⟨w30, h_w30⟩ : ∃ w_, ((((w28.setCell ⟨gb261, 0, none⟩ (.int .i64 ((rd_T27 t263 t266).f0))).setCell ⟨gb261, 1, none⟩ (.int .i64 ((rd_T27 t263 t266).f1))).setCell ⟨gb261, 2, none⟩ (.int .i64 ((rd_T27 t263 t266).f2))).setCell ⟨gb261, 3, none⟩ (.int .i64 ((rd_T27 t263 t266).f3))) = w_ := ⟨_, rfl⟩
    replace HO265 : Aside0 (Kd.R k27 27 w30 w.heap.size (fun k_ => k_ ≠ gb261) (.slice (some ad269) t263.length co27) t263) := by rw [← h_w30]; exact ⟨by (with_reducible repeat (first | apply Kd.R_alloc | apply Kd.R_drewN | apply Kd.R_drew)); exact Kd.R_mono (rw4 (Kd.R_mono HO265.out (fun k_ hk => (⟨hk, hk.2⟩ : _ ∧ k_ ≠ gb261)))) (fun _ hk => hk.1.2)⟩
    replace BK255 : Aside0 (w30.heap[gb255]? = some (.cells #[.int .i64 a2_0, .int .i64 a2_1, .int .i64 a2_2] 25 (0, 0))) := by rw [← h_w30]; exact ⟨bq1 BK255 NB255_261⟩
    replace BK256 : Aside0 (w30.heap[gb256]? = some (.cells #[.int .i64 0, .int .i64 0, .int .i64 0, .int .i64 0, .int .i64 0, .int .i64 0] 37 (0, 0))) := by rw [← h_w30]; exact ⟨bq1 BK256 NB256_261⟩
    replace BK261 : Aside0 (w30.heap[gb261]? = some (.cells #[.int .i64 ((rd_T27 t263 t266).f0), .int .i64 ((rd_T27 t263 t266).f1), .int .i64 ((rd_T27 t263 t266).f2), .int .i64 ((rd_T27 t263 t266).f3)] 27 (0, 0))) := by rw [← h_w30]; exact ⟨bq0 BK261⟩
    replace HK : Aside0 (KeepBut w w30 g none) := by rw [← h_w30]; exact ⟨by repeat (first | (with_reducible first | exact HK.out | apply KeepBut.set_ | apply keep_drewN | apply keep_drew | apply keep_alloc | refine keep_far ?_ GW255.out _ | refine keep_far ?_ GW256.out _ | refine keep_far ?_ GW261.out _) | exact HK.out)⟩
    replace HB : Aside0 (Below w0.heap.size w0 w30) := by rw [← h_w30]; exact ⟨by repeat (first | (with_reducible first | exact HB.out | apply below_alloc | apply pw_below_drewN | apply below_drew1 | refine below_set ?_ (IsS75.ge HI0.out) | refine below_set ?_ GE255.out | refine below_set ?_ GE256.out | refine below_set ?_ GE261.out) | exact HB.out)⟩
    replace HI0 : Aside0 (IsS75 w0 w30 g s0_0 t267 t268) := by rw [← h_w30]; exact ⟨by repeat (first | (with_reducible first | exact HI0.out | apply IsS75.alloc | apply IsS75.drewN | apply IsS75.drew | apply IsS75.set_1 | apply IsS75.set_2 | refine IsS75.far ?_ NB0_255.out _ | refine IsS75.far ?_ NB0_256.out _ | refine IsS75.far ?_ NB0_261.out _) | exact HI0.out)⟩
    (try rw [h_w30]); clear h_w30
    replace HO265 := asd (Kd.R_drew HO265.out)
    replace BK255 := asd (blk_drew BK255.out)
    replace BK256 := asd (blk_drew BK256.out)
    replace BK261 := asd (blk_drew BK261.out)
    replace HI0 := asd (IsS75.drew HI0.out)
    replace HK := asd (keep_drew HK.out)
    replace HB := asd (below_drew1 HB.out)
    refine sh 10 (eb4 BK261) (fun hHeld => ?_); refine with_tabW spec_l06DrawMotion.tab5 spec_l06DrawMotion.bits5 (fun HT_ HW_ => ?_)
    generalize w30.drew = w31 at HO265 BK255 BK256 BK261 HI0 HK HB hHeld ⊢
    refine pu 1 (some 25) (bs 10 2) HT_ ?_
    refine pu 4 (some 28) (bs 10 18) HT_ ?_
    refine ta 0 (some 24) (bs 10 19) HT_ HW_ hHeld ?_
    refine ro 2 (some 26) (bs 10 23) HT_ (fun K hK => ?_)
    refine gs Tryz.func59 #[.pointer (some ⟨g, 0, none⟩), .int .i64 9] ?_
    with_reducible refine (spec_l01Next.calls _ _ _ _ _ _ _ _ w0 _ ?side1 ?side2 A11.out).mono ?_
    (case side1 => repeat (first | (with_reducible first | exact HI0.out | apply IsS75.alloc | apply IsS75.drewN | apply IsS75.drew | apply IsS75.set_1 | apply IsS75.set_2 | refine IsS75.far ?_ NB0_255.out _ | refine IsS75.far ?_ NB0_256.out _ | refine IsS75.far ?_ NB0_261.out _) | exact HI0.out))
    (case side2 => repeat (first | (with_reducible first | exact HB.out | apply below_alloc | apply pw_below_drewN | apply below_drew1 | refine below_set ?_ (IsS75.ge HI0.out) | refine below_set ?_ GE255.out | refine below_set ?_ GE256.out | refine below_set ?_ GE261.out) | exact HB.out))
    rintro e w32 ⟨rfl, hi, hb, hk⟩
    refine ⟨_, rfl, ?_⟩
    replace BK255 := asd (KeepBut.blk hk (g' := gb255) (o := .cells #[.int .i64 a2_0, .int .i64 a2_1, .int .i64 a2_2] 25 (0, 0)) (bkp BK255) NB255_0.out (by simp))
    replace BK256 := asd (KeepBut.blk hk (g' := gb256) (o := .cells #[.int .i64 0, .int .i64 0, .int .i64 0, .int .i64 0, .int .i64 0, .int .i64 0] 37 (0, 0)) (bkp BK256) NB256_0.out (by simp))
    replace BK261 := asd (KeepBut.blk hk (g' := gb261) (o := .cells #[.int .i64 ((rd_T27 t263 t266).f0), .int .i64 ((rd_T27 t263 t266).f1), .int .i64 ((rd_T27 t263 t266).f2), .int .i64 ((rd_T27 t263 t266).f3)] 27 (0, 0)) (bkp BK261) NB261_0.out (by simp))
    replace HO265 := asd (Kd.R_mono (Kd.R_keep (IsS75.apart (show IsS75 w0 _ g s0_0 t267 t268 from by repeat (first | (with_reducible first | exact HI0.out | apply IsS75.alloc | apply IsS75.drewN | apply IsS75.drew | apply IsS75.set_1 | apply IsS75.set_2 | refine IsS75.far ?_ NB0_255.out _ | refine IsS75.far ?_ NB0_256.out _ | refine IsS75.far ?_ NB0_261.out _) | exact HI0.out)) (kr HO265) (by decide)) hk (fun _ h => h.2)) (fun _ h => h.1))
    replace HK := asd (KeepBut.trans (by repeat (first | (with_reducible first | exact HK.out | apply KeepBut.set_ | apply keep_drewN | apply keep_drew | apply keep_alloc | refine keep_far ?_ GW255.out _ | refine keep_far ?_ GW256.out _ | refine keep_far ?_ GW261.out _) | exact HK.out)) hk (.inl rfl))
    replace HB := asd (hb)
    replace HI0 := asd (hi)
    (try clear hb)
    (try clear hb2)
    (try clear hk)
    (try clear hi)
    refine hK.out _ _ (eb4 BK261).out (fun hHeld => ?_)
    clear hK K
    refine norm_ (a' := ?_) ?_ ?_
    rotate_left
    ·show Act.put _ (some 26) _ = _
     simp only [Act.put, sA, sB, sC, i64_w, i32_w]
     rfl
    refine pu 3 (some 27) (bT 10 5) HT_ ?_
    refine ro 5 (some 29) (bT 10 6) HT_ (fun K hK => ?_)
    refine gs Tryz.func59 #[.pointer (some ⟨g, 0, none⟩), .int .i64 9] ?_
    with_reducible refine (spec_l01Next.calls _ _ _ _ _ _ _ _ w0 _ ?side1 ?side2 A12.out).mono ?_
    (case side1 => repeat (first | (with_reducible first | exact HI0.out | apply IsS75.alloc | apply IsS75.drewN | apply IsS75.drew | apply IsS75.set_1 | apply IsS75.set_2 | refine IsS75.far ?_ NB0_255.out _ | refine IsS75.far ?_ NB0_256.out _ | refine IsS75.far ?_ NB0_261.out _) | exact HI0.out))
    (case side2 => repeat (first | (with_reducible first | exact HB.out | apply below_alloc | apply pw_below_drewN | apply below_drew1 | refine below_set ?_ (IsS75.ge HI0.out) | refine below_set ?_ GE255.out | refine below_set ?_ GE256.out | refine below_set ?_ GE261.out) | exact HB.out))
    rintro e w33 ⟨rfl, hi, hb, hk⟩
    refine ⟨_, rfl, ?_⟩
    replace BK255 := asd (KeepBut.blk hk (g' := gb255) (o := .cells #[.int .i64 a2_0, .int .i64 a2_1, .int .i64 a2_2] 25 (0, 0)) (bkp BK255) NB255_0.out (by simp))
    replace BK256 := asd (KeepBut.blk hk (g' := gb256) (o := .cells #[.int .i64 0, .int .i64 0, .int .i64 0, .int .i64 0, .int .i64 0, .int .i64 0] 37 (0, 0)) (bkp BK256) NB256_0.out (by simp))
    replace BK261 := asd (KeepBut.blk hk (g' := gb261) (o := .cells #[.int .i64 ((rd_T27 t263 t266).f0), .int .i64 ((rd_T27 t263 t266).f1), .int .i64 ((rd_T27 t263 t266).f2), .int .i64 ((rd_T27 t263 t266).f3)] 27 (0, 0)) (bkp BK261) NB261_0.out (by simp))
    replace HO265 := asd (Kd.R_mono (Kd.R_keep (IsS75.apart (show IsS75 w0 _ g s0_0 t271 t272 from by repeat (first | (with_reducible first | exact HI0.out | apply IsS75.alloc | apply IsS75.drewN | apply IsS75.drew | apply IsS75.set_1 | apply IsS75.set_2 | refine IsS75.far ?_ NB0_255.out _ | refine IsS75.far ?_ NB0_256.out _ | refine IsS75.far ?_ NB0_261.out _) | exact HI0.out)) (kr HO265) (by decide)) hk (fun _ h => h.2)) (fun _ h => h.1))
    replace HK := asd (KeepBut.trans (by repeat (first | (with_reducible first | exact HK.out | apply KeepBut.set_ | apply keep_drewN | apply keep_drew | apply keep_alloc | refine keep_far ?_ GW255.out _ | refine keep_far ?_ GW256.out _ | refine keep_far ?_ GW261.out _) | exact HK.out)) hk (.inl rfl))
    replace HB := asd (hb)
    replace HI0 := asd (hi)
    (try clear hb)
    (try clear hb2)
    (try clear hk)
    (try clear hi)
    refine hK.out _ _ (eb4 BK261).out (fun hHeld => ?_)
    clear hK K
    refine norm_ (a' := ?_) ?_ ?_
    rotate_left
    ·show Act.put _ (some 29) _ = _
     simp only [Act.put, sA, sB, sC, i64_w, i32_w]
     rfl
    refine pu 6 (some 30) (bT 10 7) HT_ ?_
    refine pu 7 (some 31) (bT 10 8) HT_ ?_
    refine pu 8 (some 32) (bT 10 9) HT_ ?_
    refine ro 9 (none) (bT 10 10) HT_ (fun K hK => ?_)
    have hs34 : w33.cell? ⟨gb256, 0, none⟩ = some (.int .i64 0) := bcl BK256 0
    have hfs34 := blk_frozen BK256.out 0
    have hns34_0 := NB255_256.out
    have hns34_2 := NB261_256.out
    have hms34_0 := NB256_255.out
    have hms34_2 := NB256_261.out
    have hs35 : w33.cell? ⟨gb256, 1, none⟩ = some (.int .i64 0) := bcl BK256 1
    have hfs35 := blk_frozen BK256.out 1
    have hns35_0 := NB255_256.out
    have hns35_2 := NB261_256.out
    have hms35_0 := NB256_255.out
    have hms35_2 := NB256_261.out
    have hs36 : w33.cell? ⟨gb256, 2, none⟩ = some (.int .i64 0) := bcl BK256 2
    have hfs36 := blk_frozen BK256.out 2
    have hns36_0 := NB255_256.out
    have hns36_2 := NB261_256.out
    have hms36_0 := NB256_255.out
    have hms36_2 := NB256_261.out
    have hs37 : w33.cell? ⟨gb256, 3, none⟩ = some (.int .i64 0) := bcl BK256 3
    have hfs37 := blk_frozen BK256.out 3
    have hns37_0 := NB255_256.out
    have hns37_2 := NB261_256.out
    have hms37_0 := NB256_255.out
    have hms37_2 := NB256_261.out
    have hs38 : w33.cell? ⟨gb256, 4, none⟩ = some (.int .i64 0) := bcl BK256 4
    have hfs38 := blk_frozen BK256.out 4
    have hns38_0 := NB255_256.out
    have hns38_2 := NB261_256.out
    have hms38_0 := NB256_255.out
    have hms38_2 := NB256_261.out
    have hs39 : w33.cell? ⟨gb256, 5, none⟩ = some (.int .i64 0) := bcl BK256 5
    have hfs39 := blk_frozen BK256.out 5
    have hns39_0 := NB255_256.out
    have hns39_2 := NB261_256.out
    have hms39_0 := NB256_255.out
    have hms39_2 := NB256_261.out
    refine skip_ (w1 := ?_) (by rfl) rfl ?_ ?_
    rotate_left
    ·go_simp
     rfl
    refine hK.out _ _ ⟨(cf6 NB261_256 (hHeld.1)), (cf6 NB261_256 (hHeld.2.1)), (cf6 NB261_256 (hHeld.2.2.1)), (cf6 NB261_256 (hHeld.2.2.2))⟩ (fun hHeld => ?_)
    clear hK K
    refine done_ (done_of HT_.out (by kernel_rfl)) ?_
    try go_wp2
    refine bodyPost_ret (results_cell_row rfl _ _ gb256 37 #[.int .i64 ((rd_T27 t263 t266).f0), .int .i64 ((rd_T27 t263 t266).f1), .int .i64 ((rd_T27 t263 t266).f2), .int .i64 ((rd_T27 t263 t266).f3), .int .i64 (wrap64 (t270 - 4)), .int .i64 (wrap64 (t273 - 4))] (0, 0) _ rfl (bq0 BK256) Tryz.underlying37 rfl (by kernel_rfl)) rfl ?_
    exact ⟨by first | rfl | (simp [errW_none, errW_some] <;> rfl) | (simp [*, errW_none, errW_some] <;> rfl), by repeat (first | (with_reducible first | exact HI0.out | apply IsS75.alloc | apply IsS75.drewN | apply IsS75.drew | apply IsS75.set_1 | apply IsS75.set_2 | refine IsS75.far ?_ NB0_255.out _ | refine IsS75.far ?_ NB0_256.out _ | refine IsS75.far ?_ NB0_261.out _) | exact HI0.out), by repeat (first | (with_reducible first | exact HB.out | apply below_alloc | apply pw_below_drewN | apply below_drew1 | refine below_set ?_ (IsS75.ge HI0.out) | refine below_set ?_ GE255.out | refine below_set ?_ GE256.out | refine below_set ?_ GE261.out) | exact HB.out), by repeat (first | (with_reducible first | exact HK.out | apply KeepBut.set_ | apply keep_drewN | apply keep_drew | apply keep_alloc | refine keep_far ?_ GW255.out _ | refine keep_far ?_ GW256.out _ | refine keep_far ?_ GW261.out _) | exact HK.out)⟩
   ·rw [if_neg c10] at H
    exact absurd H (by simp)
  ·rw [if_neg c9] at H
   exact absurd H (by simp)
 ·rw [if_neg c6] at H
  have c6b0 : (t262 == 0) = false := beq_eq_false_iff_ne.mpr c6
  have c6b1 : (t262 != 0) = true := bne_iff_ne.mpr c6
  obtain ⟨⟨t276, t277, t278⟩, A40, H⟩ := ob H
  try dsimp only at H
  obtain ⟨⟨t279, t280, t281⟩, A41, H⟩ := ob H
  try dsimp only at H
  simp only [Option.some.injEq, Prod.mk.injEq] at H
  obtain ⟨rfl, rfl, rfl, rfl, rfl, rfl, rfl, rfl⟩ := H
  go_enter Tryz.func46, Tryz.ntmps46
  try go_wp2_with (first | ((with_reducible refine gd 5 rfl ?_); refine bx #[.int .i64 a2_0, .int .i64 a2_1, .int .i64 a2_2] 25 ?_; intro gb255 hg w42 BK255 hb; replace HB := asd (below_step (by repeat (first | (with_reducible first | exact HB.out | apply below_alloc | apply pw_below_drewN | apply below_drew1 | refine below_set ?_ (IsS75.ge HI0.out)) | exact HB.out)) hb); have GW255 := asd ((by rw [hg]; exact (keep_size (w := w) (g := g) (row := none) (by repeat (first | (with_reducible first | exact HK.out | apply KeepBut.set_ | apply keep_drewN | apply keep_drew | apply keep_alloc) | exact HK.out))) : w.heap.size ≤ gb255)); have GE255 := asd ((Nat.le_trans HW0.out (by rw [hg]; exact (keep_size (w := w) (g := g) (row := none) (by repeat (first | (with_reducible first | exact HK.out | apply KeepBut.set_ | apply keep_drewN | apply keep_drew | apply keep_alloc) | exact HK.out))) : w.heap.size ≤ gb255) : w0.heap.size ≤ gb255)); replace HK := asd (KeepBut.trans (by repeat (first | (with_reducible first | exact HK.out | apply KeepBut.set_ | apply keep_drewN | apply keep_drew | apply keep_alloc) | exact HK.out)) (KeepBut.of_below hb g none) (.inl rfl)); have NB0_255 := asd ((by rw [hg]; exact Nat.ne_of_lt (IsS75.lt (show IsS75 w0 _ g s0_0 s0_1 s0_2 from by repeat (first | (with_reducible first | exact HI0.out | apply IsS75.alloc | apply IsS75.drewN | apply IsS75.drew | apply IsS75.set_1 | apply IsS75.set_2) | exact HI0.out))) : g ≠ gb255)); have NB255_0 := asd ((by rw [hg]; exact Nat.ne_of_gt (IsS75.lt (show IsS75 w0 _ g s0_0 s0_1 s0_2 from by repeat (first | (with_reducible first | exact HI0.out | apply IsS75.alloc | apply IsS75.drewN | apply IsS75.drew | apply IsS75.set_1 | apply IsS75.set_2) | exact HI0.out))) : gb255 ≠ g)); replace HI0 := asd (IsS75.below (by repeat (first | (with_reducible first | exact HI0.out | apply IsS75.alloc | apply IsS75.drewN | apply IsS75.drew | apply IsS75.set_1 | apply IsS75.set_2) | exact HI0.out)) hb); clear hb hg) | ((with_reducible refine gd 6 rfl ?_); refine bx #[.int .i64 0, .int .i64 0, .int .i64 0, .int .i64 0, .int .i64 0, .int .i64 0] 37 ?_; intro gb256 hg w43 BK256 hb; replace HB := asd (below_step (by repeat (first | (with_reducible first | exact HB.out | apply below_alloc | apply pw_below_drewN | apply below_drew1 | refine below_set ?_ (IsS75.ge HI0.out) | refine below_set ?_ GE255.out) | exact HB.out)) hb); have GW256 := asd ((by rw [hg]; exact (keep_size (w := w) (g := g) (row := none) (by repeat (first | (with_reducible first | exact HK.out | apply KeepBut.set_ | apply keep_drewN | apply keep_drew | apply keep_alloc | refine keep_far ?_ GW255.out _) | exact HK.out))) : w.heap.size ≤ gb256)); have GE256 := asd ((Nat.le_trans HW0.out (by rw [hg]; exact (keep_size (w := w) (g := g) (row := none) (by repeat (first | (with_reducible first | exact HK.out | apply KeepBut.set_ | apply keep_drewN | apply keep_drew | apply keep_alloc | refine keep_far ?_ GW255.out _) | exact HK.out))) : w.heap.size ≤ gb256) : w0.heap.size ≤ gb256)); replace HK := asd (KeepBut.trans (by repeat (first | (with_reducible first | exact HK.out | apply KeepBut.set_ | apply keep_drewN | apply keep_drew | apply keep_alloc | refine keep_far ?_ GW255.out _) | exact HK.out)) (KeepBut.of_below hb g none) (.inl rfl)); have NB255_256 := nlt hg BK255; have NB256_255 := nsy (nlt hg BK255); replace BK255 := bB BK255 hb; have NB0_256 := asd ((by rw [hg]; exact Nat.ne_of_lt (IsS75.lt (show IsS75 w0 _ g s0_0 s0_1 s0_2 from by repeat (first | (with_reducible first | exact HI0.out | apply IsS75.alloc | apply IsS75.drewN | apply IsS75.drew | apply IsS75.set_1 | apply IsS75.set_2 | refine IsS75.far ?_ NB0_255.out _) | exact HI0.out))) : g ≠ gb256)); have NB256_0 := asd ((by rw [hg]; exact Nat.ne_of_gt (IsS75.lt (show IsS75 w0 _ g s0_0 s0_1 s0_2 from by repeat (first | (with_reducible first | exact HI0.out | apply IsS75.alloc | apply IsS75.drewN | apply IsS75.drew | apply IsS75.set_1 | apply IsS75.set_2 | refine IsS75.far ?_ NB0_255.out _) | exact HI0.out))) : gb256 ≠ g)); replace HI0 := asd (IsS75.below (by repeat (first | (with_reducible first | exact HI0.out | apply IsS75.alloc | apply IsS75.drewN | apply IsS75.drew | apply IsS75.set_1 | apply IsS75.set_2 | refine IsS75.far ?_ NB0_255.out _) | exact HI0.out)) hb); clear hb hg) | ((with_reducible refine gate_callee (f := 81) rfl ?_); refine gl 9 Tryz.func81 #[] ?_; (with_reducible refine (spec_l02Unit.calls _ _ _ _ _ A4.out).mono ?_); rintro e w44 ⟨rfl, hb⟩; refine ⟨_, rfl, ?_⟩; replace BK255 := bB BK255 hb; replace BK256 := bB BK256 hb; replace HK := asd (KeepBut.trans (by repeat (first | (with_reducible first | exact HK.out | apply KeepBut.set_ | apply keep_drewN | apply keep_drew | apply keep_alloc | refine keep_far ?_ GW255.out _ | refine keep_far ?_ GW256.out _) | exact HK.out)) (KeepBut.of_below hb g none) (.inl rfl)); replace HB := asd (below_step (by repeat (first | (with_reducible first | exact HB.out | apply below_alloc | apply pw_below_drewN | apply below_drew1 | refine below_set ?_ (IsS75.ge HI0.out) | refine below_set ?_ GE255.out | refine below_set ?_ GE256.out) | exact HB.out)) hb); replace HI0 := asd (IsS75.below (by repeat (first | (with_reducible first | exact HI0.out | apply IsS75.alloc | apply IsS75.drewN | apply IsS75.drew | apply IsS75.set_1 | apply IsS75.set_2 | refine IsS75.far ?_ NB0_255.out _ | refine IsS75.far ?_ NB0_256.out _) | exact HI0.out)) hb); (try clear hb)) | ((with_reducible refine gd 7 rfl ?_); refine bx #[.int .i64 0, .int .i64 0, .int .i64 0, .int .i64 0] 27 ?_; intro gb261 hg w45 BK261 hb; replace HB := asd (below_step (by repeat (first | (with_reducible first | exact HB.out | apply below_alloc | apply pw_below_drewN | apply below_drew1 | refine below_set ?_ (IsS75.ge HI0.out) | refine below_set ?_ GE255.out | refine below_set ?_ GE256.out) | exact HB.out)) hb); have GW261 := asd ((by rw [hg]; exact (keep_size (w := w) (g := g) (row := none) (by repeat (first | (with_reducible first | exact HK.out | apply KeepBut.set_ | apply keep_drewN | apply keep_drew | apply keep_alloc | refine keep_far ?_ GW255.out _ | refine keep_far ?_ GW256.out _) | exact HK.out))) : w.heap.size ≤ gb261)); have GE261 := asd ((Nat.le_trans HW0.out (by rw [hg]; exact (keep_size (w := w) (g := g) (row := none) (by repeat (first | (with_reducible first | exact HK.out | apply KeepBut.set_ | apply keep_drewN | apply keep_drew | apply keep_alloc | refine keep_far ?_ GW255.out _ | refine keep_far ?_ GW256.out _) | exact HK.out))) : w.heap.size ≤ gb261) : w0.heap.size ≤ gb261)); replace HK := asd (KeepBut.trans (by repeat (first | (with_reducible first | exact HK.out | apply KeepBut.set_ | apply keep_drewN | apply keep_drew | apply keep_alloc | refine keep_far ?_ GW255.out _ | refine keep_far ?_ GW256.out _) | exact HK.out)) (KeepBut.of_below hb g none) (.inl rfl)); have NB255_261 := nlt hg BK255; have NB261_255 := nsy (nlt hg BK255); replace BK255 := bB BK255 hb; have NB256_261 := nlt hg BK256; have NB261_256 := nsy (nlt hg BK256); replace BK256 := bB BK256 hb; have NB0_261 := asd ((by rw [hg]; exact Nat.ne_of_lt (IsS75.lt (show IsS75 w0 _ g s0_0 s0_1 s0_2 from by repeat (first | (with_reducible first | exact HI0.out | apply IsS75.alloc | apply IsS75.drewN | apply IsS75.drew | apply IsS75.set_1 | apply IsS75.set_2 | refine IsS75.far ?_ NB0_255.out _ | refine IsS75.far ?_ NB0_256.out _) | exact HI0.out))) : g ≠ gb261)); have NB261_0 := asd ((by rw [hg]; exact Nat.ne_of_gt (IsS75.lt (show IsS75 w0 _ g s0_0 s0_1 s0_2 from by repeat (first | (with_reducible first | exact HI0.out | apply IsS75.alloc | apply IsS75.drewN | apply IsS75.drew | apply IsS75.set_1 | apply IsS75.set_2 | refine IsS75.far ?_ NB0_255.out _ | refine IsS75.far ?_ NB0_256.out _) | exact HI0.out))) : gb261 ≠ g)); replace HI0 := asd (IsS75.below (by repeat (first | (with_reducible first | exact HI0.out | apply IsS75.alloc | apply IsS75.drewN | apply IsS75.drew | apply IsS75.set_1 | apply IsS75.set_2 | refine IsS75.far ?_ NB0_255.out _ | refine IsS75.far ?_ NB0_256.out _) | exact HI0.out)) hb); clear hb hg; have hnb46 := NB261_255.out; have hnc46 := NB255_261.out; have hnb47 := NB261_256.out; have hnc47 := NB256_261.out; have hnb48 := NB261_0.out; have hnc48 := NB0_261.out; obtain ⟨hcz49_0, hcz49_1, hcz49_2, hcz49_3, hfz49_0, hfz49_1, hfz49_2, hfz49_3⟩ := bz4 BK261; have hnb50 := NB255_256.out; have hnc50 := NB256_255.out; have hnb51 := NB255_0.out; have hnc51 := NB0_255.out; obtain ⟨hcz52_0, hcz52_1, hcz52_2, hfz52_0, hfz52_1, hfz52_2⟩ := bz3 BK255) | ((with_reducible refine gate_callee (f := 52) rfl ?_); refine gl 12 Tryz.func52 #[.int .i64 a1, .agg #[.int .i64 a2_0, .int .i64 a2_1, .int .i64 a2_2]] ?_; (with_reducible refine (spec_l04Code.calls _ _ _ _ _ _ A5.out).mono ?_); rintro e w53 ⟨rfl, hb⟩; refine ⟨_, rfl, ?_⟩; replace BK255 := asd (blk_below (g := gb255) (o := .cells #[.int .i64 a2_0, .int .i64 a2_1, .int .i64 a2_2] 25 (0, 0)) (bq1 BK255 NB255_261) hb); replace BK256 := asd (blk_below (g := gb256) (o := .cells #[.int .i64 0, .int .i64 0, .int .i64 0, .int .i64 0, .int .i64 0, .int .i64 0] 37 (0, 0)) (bq1 BK256 NB256_261) hb); replace BK261 := asd (blk_below (g := gb261) (o := .cells #[.int .i64 t257, .int .i64 t258, .int .i64 t259, .int .i64 t260] 27 (0, 0)) (bq0 BK261) hb); replace HK := asd (KeepBut.trans (by repeat (first | (with_reducible first | exact HK.out | apply KeepBut.set_ | apply keep_drewN | apply keep_drew | apply keep_alloc | refine keep_far ?_ GW255.out _ | refine keep_far ?_ GW256.out _ | refine keep_far ?_ GW261.out _) | exact HK.out)) (KeepBut.of_below hb g none) (.inl rfl)); replace HB := asd (below_step (by repeat (first | (with_reducible first | exact HB.out | apply below_alloc | apply pw_below_drewN | apply below_drew1 | refine below_set ?_ (IsS75.ge HI0.out) | refine below_set ?_ GE255.out | refine below_set ?_ GE256.out | refine below_set ?_ GE261.out) | exact HB.out)) hb); replace HI0 := asd (IsS75.below (show IsS75 w0 ((((w45.setCell ⟨gb261, 0, none⟩ (.int .i64 t257)).setCell ⟨gb261, 1, none⟩ (.int .i64 t258)).setCell ⟨gb261, 2, none⟩ (.int .i64 t259)).setCell ⟨gb261, 3, none⟩ (.int .i64 t260)) g s0_0 s0_1 s0_2 from by repeat (first | (with_reducible first | exact HI0.out | apply IsS75.alloc | apply IsS75.drewN | apply IsS75.drew | apply IsS75.set_1 | apply IsS75.set_2 | refine IsS75.far ?_ NB0_255.out _ | refine IsS75.far ?_ NB0_256.out _ | refine IsS75.far ?_ NB0_261.out _) | exact HI0.out)) hb); (try clear hb)))
  replace BK255 := asd (blk_drew BK255.out)
  replace BK256 := asd (blk_drew BK256.out)
  replace BK261 := asd (blk_drew BK261.out)
  replace HI0 := asd (IsS75.drew HI0.out)
  replace HK := asd (keep_drew HK.out)
  replace HB := asd (below_drew1 HB.out)
  refine sh 10 (eb4 BK261) (fun hHeld => ?_); refine with_tabW spec_l06DrawMotion.tab5 spec_l06DrawMotion.bits5 (fun HT_ HW_ => ?_)
  generalize w53.drew = w54 at BK255 BK256 BK261 HI0 HK HB hHeld ⊢
  refine pu 1 (some 25) (bs 10 2) HT_ ?_
  refine pu 4 (some 28) (bs 10 18) HT_ ?_
  refine ta 0 (some 24) (bs 10 19) HT_ HW_ hHeld ?_
  refine ro 2 (some 26) (bs 10 23) HT_ (fun K hK => ?_)
  refine gs Tryz.func59 #[.pointer (some ⟨g, 0, none⟩), .int .i64 9] ?_
  with_reducible refine (spec_l01Next.calls _ _ _ _ _ _ _ _ w0 _ ?side1 ?side2 A40.out).mono ?_
  (case side1 => repeat (first | (with_reducible first | exact HI0.out | apply IsS75.alloc | apply IsS75.drewN | apply IsS75.drew | apply IsS75.set_1 | apply IsS75.set_2 | refine IsS75.far ?_ NB0_255.out _ | refine IsS75.far ?_ NB0_256.out _ | refine IsS75.far ?_ NB0_261.out _) | exact HI0.out))
  (case side2 => repeat (first | (with_reducible first | exact HB.out | apply below_alloc | apply pw_below_drewN | apply below_drew1 | refine below_set ?_ (IsS75.ge HI0.out) | refine below_set ?_ GE255.out | refine below_set ?_ GE256.out | refine below_set ?_ GE261.out) | exact HB.out))
  rintro e w55 ⟨rfl, hi, hb, hk⟩
  refine ⟨_, rfl, ?_⟩
  replace BK255 := asd (KeepBut.blk hk (g' := gb255) (o := .cells #[.int .i64 a2_0, .int .i64 a2_1, .int .i64 a2_2] 25 (0, 0)) (bkp BK255) NB255_0.out (by simp))
  replace BK256 := asd (KeepBut.blk hk (g' := gb256) (o := .cells #[.int .i64 0, .int .i64 0, .int .i64 0, .int .i64 0, .int .i64 0, .int .i64 0] 37 (0, 0)) (bkp BK256) NB256_0.out (by simp))
  replace BK261 := asd (KeepBut.blk hk (g' := gb261) (o := .cells #[.int .i64 t257, .int .i64 t258, .int .i64 t259, .int .i64 t260] 27 (0, 0)) (bkp BK261) NB261_0.out (by simp))
  replace HK := asd (KeepBut.trans (by repeat (first | (with_reducible first | exact HK.out | apply KeepBut.set_ | apply keep_drewN | apply keep_drew | apply keep_alloc | refine keep_far ?_ GW255.out _ | refine keep_far ?_ GW256.out _ | refine keep_far ?_ GW261.out _) | exact HK.out)) hk (.inl rfl))
  replace HB := asd (hb)
  replace HI0 := asd (hi)
  (try clear hb)
  (try clear hb2)
  (try clear hk)
  (try clear hi)
  refine hK.out _ _ (eb4 BK261).out (fun hHeld => ?_)
  clear hK K
  refine norm_ (a' := ?_) ?_ ?_
  rotate_left
  ·show Act.put _ (some 26) _ = _
   simp only [Act.put, sA, sB, sC, i64_w, i32_w]
   rfl
  refine pu 3 (some 27) (bT 10 5) HT_ ?_
  refine ro 5 (some 29) (bT 10 6) HT_ (fun K hK => ?_)
  refine gs Tryz.func59 #[.pointer (some ⟨g, 0, none⟩), .int .i64 9] ?_
  with_reducible refine (spec_l01Next.calls _ _ _ _ _ _ _ _ w0 _ ?side1 ?side2 A41.out).mono ?_
  (case side1 => repeat (first | (with_reducible first | exact HI0.out | apply IsS75.alloc | apply IsS75.drewN | apply IsS75.drew | apply IsS75.set_1 | apply IsS75.set_2 | refine IsS75.far ?_ NB0_255.out _ | refine IsS75.far ?_ NB0_256.out _ | refine IsS75.far ?_ NB0_261.out _) | exact HI0.out))
  (case side2 => repeat (first | (with_reducible first | exact HB.out | apply below_alloc | apply pw_below_drewN | apply below_drew1 | refine below_set ?_ (IsS75.ge HI0.out) | refine below_set ?_ GE255.out | refine below_set ?_ GE256.out | refine below_set ?_ GE261.out) | exact HB.out))
  rintro e w56 ⟨rfl, hi, hb, hk⟩
  refine ⟨_, rfl, ?_⟩
  replace BK255 := asd (KeepBut.blk hk (g' := gb255) (o := .cells #[.int .i64 a2_0, .int .i64 a2_1, .int .i64 a2_2] 25 (0, 0)) (bkp BK255) NB255_0.out (by simp))
  replace BK256 := asd (KeepBut.blk hk (g' := gb256) (o := .cells #[.int .i64 0, .int .i64 0, .int .i64 0, .int .i64 0, .int .i64 0, .int .i64 0] 37 (0, 0)) (bkp BK256) NB256_0.out (by simp))
  replace BK261 := asd (KeepBut.blk hk (g' := gb261) (o := .cells #[.int .i64 t257, .int .i64 t258, .int .i64 t259, .int .i64 t260] 27 (0, 0)) (bkp BK261) NB261_0.out (by simp))
  replace HK := asd (KeepBut.trans (by repeat (first | (with_reducible first | exact HK.out | apply KeepBut.set_ | apply keep_drewN | apply keep_drew | apply keep_alloc | refine keep_far ?_ GW255.out _ | refine keep_far ?_ GW256.out _ | refine keep_far ?_ GW261.out _) | exact HK.out)) hk (.inl rfl))
  replace HB := asd (hb)
  replace HI0 := asd (hi)
  (try clear hb)
  (try clear hb2)
  (try clear hk)
  (try clear hi)
  refine hK.out _ _ (eb4 BK261).out (fun hHeld => ?_)
  clear hK K
  refine norm_ (a' := ?_) ?_ ?_
  rotate_left
  ·show Act.put _ (some 29) _ = _
   simp only [Act.put, sA, sB, sC, i64_w, i32_w]
   rfl
  refine pu 6 (some 30) (bT 10 7) HT_ ?_
  refine pu 7 (some 31) (bT 10 8) HT_ ?_
  refine pu 8 (some 32) (bT 10 9) HT_ ?_
  refine ro 9 (none) (bT 10 10) HT_ (fun K hK => ?_)
  have hs57 : w56.cell? ⟨gb256, 0, none⟩ = some (.int .i64 0) := bcl BK256 0
  have hfs57 := blk_frozen BK256.out 0
  have hns57_0 := NB255_256.out
  have hns57_2 := NB261_256.out
  have hms57_0 := NB256_255.out
  have hms57_2 := NB256_261.out
  have hs58 : w56.cell? ⟨gb256, 1, none⟩ = some (.int .i64 0) := bcl BK256 1
  have hfs58 := blk_frozen BK256.out 1
  have hns58_0 := NB255_256.out
  have hns58_2 := NB261_256.out
  have hms58_0 := NB256_255.out
  have hms58_2 := NB256_261.out
  have hs59 : w56.cell? ⟨gb256, 2, none⟩ = some (.int .i64 0) := bcl BK256 2
  have hfs59 := blk_frozen BK256.out 2
  have hns59_0 := NB255_256.out
  have hns59_2 := NB261_256.out
  have hms59_0 := NB256_255.out
  have hms59_2 := NB256_261.out
  have hs60 : w56.cell? ⟨gb256, 3, none⟩ = some (.int .i64 0) := bcl BK256 3
  have hfs60 := blk_frozen BK256.out 3
  have hns60_0 := NB255_256.out
  have hns60_2 := NB261_256.out
  have hms60_0 := NB256_255.out
  have hms60_2 := NB256_261.out
  have hs61 : w56.cell? ⟨gb256, 4, none⟩ = some (.int .i64 0) := bcl BK256 4
  have hfs61 := blk_frozen BK256.out 4
  have hns61_0 := NB255_256.out
  have hns61_2 := NB261_256.out
  have hms61_0 := NB256_255.out
  have hms61_2 := NB256_261.out
  have hs62 : w56.cell? ⟨gb256, 5, none⟩ = some (.int .i64 0) := bcl BK256 5
  have hfs62 := blk_frozen BK256.out 5
  have hns62_0 := NB255_256.out
  have hns62_2 := NB261_256.out
  have hms62_0 := NB256_255.out
  have hms62_2 := NB256_261.out
  refine skip_ (w1 := ?_) (by rfl) rfl ?_ ?_
  rotate_left
  ·go_simp
   rfl
  refine hK.out _ _ ⟨(cf6 NB261_256 (hHeld.1)), (cf6 NB261_256 (hHeld.2.1)), (cf6 NB261_256 (hHeld.2.2.1)), (cf6 NB261_256 (hHeld.2.2.2))⟩ (fun hHeld => ?_)
  clear hK K
  refine done_ (done_of HT_.out (by kernel_rfl)) ?_
  try go_wp2
  refine bodyPost_ret (results_cell_row rfl _ _ gb256 37 #[.int .i64 t257, .int .i64 t258, .int .i64 t259, .int .i64 t260, .int .i64 (wrap64 (t276 - 4)), .int .i64 (wrap64 (t279 - 4))] (0, 0) _ rfl (bq0 BK256) Tryz.underlying37 rfl (by kernel_rfl)) rfl ?_
  exact ⟨by first | rfl | (simp [errW_none, errW_some] <;> rfl) | (simp [*, errW_none, errW_some] <;> rfl), by repeat (first | (with_reducible first | exact HI0.out | apply IsS75.alloc | apply IsS75.drewN | apply IsS75.drew | apply IsS75.set_1 | apply IsS75.set_2 | refine IsS75.far ?_ NB0_255.out _ | refine IsS75.far ?_ NB0_256.out _ | refine IsS75.far ?_ NB0_261.out _) | exact HI0.out), by repeat (first | (with_reducible first | exact HB.out | apply below_alloc | apply pw_below_drewN | apply below_drew1 | refine below_set ?_ (IsS75.ge HI0.out) | refine below_set ?_ GE255.out | refine below_set ?_ GE256.out | refine below_set ?_ GE261.out) | exact HB.out), by repeat (first | (with_reducible first | exact HK.out | apply KeepBut.set_ | apply keep_drewN | apply keep_drew | apply keep_alloc | refine keep_far ?_ GW255.out _ | refine keep_far ?_ GW256.out _ | refine keep_far ?_ GW261.out _) | exact HK.out)⟩

/-! ### spec_l11DrawMirror: function 18 -/
def spec_l11DrawMirror.l0 : Nat → Int → Int → List Int → Int → Int → Int → Int → Int → Int → Int → Int → Int → Option (Int × Int × Int × Int × Int × Int × Int × Int × Int × Int)
 | 0, _, _, _, _, _, _, _, _, _, _, _, _ => none
 | k + 1, x5, x8, x1000, x1001, x1002, x291000, x291001, x291002, x300000, x300001, x300002, x300003 => if x8 < 4 then ((spec_l02Det.f x300000 x300001 x300002 x300003).bind fun t300 => (if t300 = 1 then ((spec_l06DrawMotion.f k x1000 x1001 x1002 x5 x291000 x291001 x291002).bind fun bt301 => (spec_l11DrawMirror.l0 k x5 (wrap64 (x8 + 1)) x1000 bt301.2.2.2.2.2.2.1 bt301.2.2.2.2.2.2.2 x291000 x291001 x291002 bt301.1 bt301.2.1 bt301.2.2.1 bt301.2.2.2.1)) else (some (x5, x291000, x291001, x291002, x300000, x300001, x300002, x300003, x1001, x1002)))) else (some (x5, x291000, x291001, x291002, x300000, x300001, x300002, x300003, x1001, x1002))
def spec_l11DrawMirror.f (k : Nat) (s0_0 : List Int) (s0_1 : Int) (s0_2 : Int) : Option (Int × Int × Int × Int × Int × Int × Int × Int × Int × Int) := (spec_l06DrawLattice.f s0_0 s0_1 s0_2).bind fun bt284 => ((spec_l06DrawMotion.f k s0_0 bt284.2.2.2.2.1 bt284.2.2.2.2.2 bt284.1 bt284.2.1 bt284.2.2.1 bt284.2.2.2.1).bind fun bt291 => (spec_l11DrawMirror.l0 k bt284.1 0 s0_0 bt291.2.2.2.2.2.2.1 bt291.2.2.2.2.2.2.2 bt284.2.1 bt284.2.2.1 bt284.2.2.2.1 bt291.1 bt291.2.1 bt291.2.2.1 bt291.2.2.2.1))
theorem spec_l11DrawMirror.fld0 (v0 v1 v2 v3 v4 v5 : Value) (w : World) : (Instr.field 37 (.agg #[v0, v1, v2, v3, v4, v5]) 0).run Tryz.prog w = .ok (.agg #[v0, v1, v2, v3]) w := by
 unfold Instr.field
 simp [go_sem, asAgg, Result.andThen]
attribute [local go_sem] spec_l11DrawMirror.fld0
set_option maxHeartbeats 8000000 in
set_option maxRecDepth 100000 in
theorem spec_l11DrawMirror.calls (k : Nat) (g : Nat) (s0_0 : List Int) (s0_1 : Int) (s0_2 : Int) (r1 : Int) (r2 : Int) (r3 : Int) (r4 : Int) (r5 : Int) (r6 : Int) (r7 : Int) (r8 : Int) (r9 : Int) (r10 : Int) (w0 w : World) (hI : IsS75 w0 w g s0_0 s0_1 s0_2) (hB : Below w0.heap.size w0 w) (h : spec_l11DrawMirror.f k s0_0 s0_1 s0_2 = some (r1, r2, r3, r4, r5, r6, r7, r8, r9, r10)) :
  Calls Tryz.prog 18 #[.pointer (some ⟨g, 0, none⟩)] w fun e w' => e = .returned (.tuple #[.int .i64 r1, .agg #[.int .i64 r2, .int .i64 r3, .int .i64 r4], .agg #[.int .i64 r5, .int .i64 r6, .int .i64 r7, .int .i64 r8]]) ∧ IsS75 w0 w' g s0_0 r9 r10 ∧ Below w0.heap.size w0 w' ∧ KeepBut w w' g none := by
 have hu25 := Tryz.underlying25
 have hu27 := Tryz.underlying27
 have HI0 := Aside0.mk hI
 have HK := asd (KeepBut.refl w g none)
 have HL := Aside0.mk hB.size
 clear hI
 have HW0 := Aside0.mk hB.size
 have HB := Aside0.mk hB
 clear hB
 have H : ((spec_l06DrawLattice.f s0_0 s0_1 s0_2).bind fun bt284 => ((spec_l06DrawMotion.f k s0_0 bt284.2.2.2.2.1 bt284.2.2.2.2.2 bt284.1 bt284.2.1 bt284.2.2.1 bt284.2.2.2.1).bind fun bt291 => (spec_l11DrawMirror.l0 k bt284.1 0 s0_0 bt291.2.2.2.2.2.2.1 bt291.2.2.2.2.2.2.2 bt284.2.1 bt284.2.2.1 bt284.2.2.2.1 bt291.1 bt291.2.1 bt291.2.2.1 bt291.2.2.2.1))) = some (r1, r2, r3, r4, r5, r6, r7, r8, r9, r10) := h
 clear h
 obtain ⟨⟨t284, t285, t286, t287, t288, t289⟩, A2, H⟩ := ob H
 try dsimp only at H
 obtain ⟨⟨t291, t292, t293, t294, t295, t296, t297, t298⟩, A3, H⟩ := ob H
 try dsimp only at H
 have H' := Aside0.mk H
 clear H
 go_enter Tryz.func18, Tryz.ntmps18
 go_wp2_with (first | ((with_reducible refine gd 3 rfl ?_); refine bx #[.int .i64 0, .int .i64 0, .int .i64 0] 25 ?_; intro gb282 hg w4 BK282 hb; replace HB := asd (below_step (by repeat (first | (with_reducible first | exact HB.out | apply below_alloc | apply pw_below_drewN | apply below_drew1 | refine below_set ?_ (IsS75.ge HI0.out)) | exact HB.out)) hb); have GW282 := asd ((by rw [hg]; exact (keep_size (w := w) (g := g) (row := none) (by repeat (first | (with_reducible first | exact HK.out | apply KeepBut.set_ | apply keep_drewN | apply keep_drew | apply keep_alloc) | exact HK.out))) : w.heap.size ≤ gb282)); have GE282 := asd ((Nat.le_trans HW0.out (by rw [hg]; exact (keep_size (w := w) (g := g) (row := none) (by repeat (first | (with_reducible first | exact HK.out | apply KeepBut.set_ | apply keep_drewN | apply keep_drew | apply keep_alloc) | exact HK.out))) : w.heap.size ≤ gb282) : w0.heap.size ≤ gb282)); replace HK := asd (KeepBut.trans (by repeat (first | (with_reducible first | exact HK.out | apply KeepBut.set_ | apply keep_drewN | apply keep_drew | apply keep_alloc) | exact HK.out)) (KeepBut.of_below hb g none) (.inl rfl)); have NB0_282 := asd ((by rw [hg]; exact Nat.ne_of_lt (IsS75.lt (show IsS75 w0 _ g s0_0 s0_1 s0_2 from by repeat (first | (with_reducible first | exact HI0.out | apply IsS75.alloc | apply IsS75.drewN | apply IsS75.drew | apply IsS75.set_1 | apply IsS75.set_2) | exact HI0.out))) : g ≠ gb282)); have NB282_0 := asd ((by rw [hg]; exact Nat.ne_of_gt (IsS75.lt (show IsS75 w0 _ g s0_0 s0_1 s0_2 from by repeat (first | (with_reducible first | exact HI0.out | apply IsS75.alloc | apply IsS75.drewN | apply IsS75.drew | apply IsS75.set_1 | apply IsS75.set_2) | exact HI0.out))) : gb282 ≠ g)); replace HI0 := asd (IsS75.below (by repeat (first | (with_reducible first | exact HI0.out | apply IsS75.alloc | apply IsS75.drewN | apply IsS75.drew | apply IsS75.set_1 | apply IsS75.set_2) | exact HI0.out)) hb); clear hb hg) | ((with_reducible refine gd 4 rfl ?_); refine bx #[.int .i64 0, .int .i64 0, .int .i64 0, .int .i64 0] 27 ?_; intro gb283 hg w5 BK283 hb; replace HB := asd (below_step (by repeat (first | (with_reducible first | exact HB.out | apply below_alloc | apply pw_below_drewN | apply below_drew1 | refine below_set ?_ (IsS75.ge HI0.out) | refine below_set ?_ GE282.out) | exact HB.out)) hb); have GW283 := asd ((by rw [hg]; exact (keep_size (w := w) (g := g) (row := none) (by repeat (first | (with_reducible first | exact HK.out | apply KeepBut.set_ | apply keep_drewN | apply keep_drew | apply keep_alloc | refine keep_far ?_ GW282.out _) | exact HK.out))) : w.heap.size ≤ gb283)); have GE283 := asd ((Nat.le_trans HW0.out (by rw [hg]; exact (keep_size (w := w) (g := g) (row := none) (by repeat (first | (with_reducible first | exact HK.out | apply KeepBut.set_ | apply keep_drewN | apply keep_drew | apply keep_alloc | refine keep_far ?_ GW282.out _) | exact HK.out))) : w.heap.size ≤ gb283) : w0.heap.size ≤ gb283)); replace HK := asd (KeepBut.trans (by repeat (first | (with_reducible first | exact HK.out | apply KeepBut.set_ | apply keep_drewN | apply keep_drew | apply keep_alloc | refine keep_far ?_ GW282.out _) | exact HK.out)) (KeepBut.of_below hb g none) (.inl rfl)); have NB282_283 := nlt hg BK282; have NB283_282 := nsy (nlt hg BK282); replace BK282 := bB BK282 hb; have NB0_283 := asd ((by rw [hg]; exact Nat.ne_of_lt (IsS75.lt (show IsS75 w0 _ g s0_0 s0_1 s0_2 from by repeat (first | (with_reducible first | exact HI0.out | apply IsS75.alloc | apply IsS75.drewN | apply IsS75.drew | apply IsS75.set_1 | apply IsS75.set_2 | refine IsS75.far ?_ NB0_282.out _) | exact HI0.out))) : g ≠ gb283)); have NB283_0 := asd ((by rw [hg]; exact Nat.ne_of_gt (IsS75.lt (show IsS75 w0 _ g s0_0 s0_1 s0_2 from by repeat (first | (with_reducible first | exact HI0.out | apply IsS75.alloc | apply IsS75.drewN | apply IsS75.drew | apply IsS75.set_1 | apply IsS75.set_2 | refine IsS75.far ?_ NB0_282.out _) | exact HI0.out))) : gb283 ≠ g)); replace HI0 := asd (IsS75.below (by repeat (first | (with_reducible first | exact HI0.out | apply IsS75.alloc | apply IsS75.drewN | apply IsS75.drew | apply IsS75.set_1 | apply IsS75.set_2 | refine IsS75.far ?_ NB0_282.out _) | exact HI0.out)) hb); clear hb hg) | ((with_reducible refine gate_callee (f := 45) rfl ?_); refine gl 11 Tryz.func45 #[.pointer (some ⟨g, 0, none⟩)] ?_; (with_reducible refine (spec_l06DrawLattice.calls _ _ _ _ _ _ _ _ _ _ w0 _ ?side1 ?side2 A2.out).mono ?_); (case side1 => repeat (first | (with_reducible first | exact HI0.out | apply IsS75.alloc | apply IsS75.drewN | apply IsS75.drew | apply IsS75.set_1 | apply IsS75.set_2 | refine IsS75.far ?_ NB0_282.out _ | refine IsS75.far ?_ NB0_283.out _) | exact HI0.out)); (case side2 => repeat (first | (with_reducible first | exact HB.out | apply below_alloc | apply pw_below_drewN | apply below_drew1 | refine below_set ?_ (IsS75.ge HI0.out) | refine below_set ?_ GE282.out | refine below_set ?_ GE283.out) | exact HB.out)); rintro e w6 ⟨rfl, hi, hb, hk⟩; refine ⟨_, rfl, ?_⟩; replace BK282 := asd (KeepBut.blk hk (g' := gb282) (o := .cells #[.int .i64 0, .int .i64 0, .int .i64 0] 25 (0, 0)) (bkp BK282) NB282_0.out (by simp)); replace BK283 := asd (KeepBut.blk hk (g' := gb283) (o := .cells #[.int .i64 0, .int .i64 0, .int .i64 0, .int .i64 0] 27 (0, 0)) (bkp BK283) NB283_0.out (by simp)); replace HK := asd (KeepBut.trans (by repeat (first | (with_reducible first | exact HK.out | apply KeepBut.set_ | apply keep_drewN | apply keep_drew | apply keep_alloc | refine keep_far ?_ GW282.out _ | refine keep_far ?_ GW283.out _) | exact HK.out)) hk (.inl rfl)); replace HB := asd (hb); replace HI0 := asd (hi); (try clear hb); (try clear hb2); (try clear hk); (try clear hi)) | ((with_reducible refine gd 6 rfl ?_); refine bx #[.int .i64 0, .int .i64 0, .int .i64 0] 25 ?_; intro gb290 hg w7 BK290 hb; replace HB := asd (below_step (by repeat (first | (with_reducible first | exact HB.out | apply below_alloc | apply pw_below_drewN | apply below_drew1 | refine below_set ?_ (IsS75.ge HI0.out) | refine below_set ?_ GE282.out | refine below_set ?_ GE283.out) | exact HB.out)) hb); have GW290 := asd ((by rw [hg]; exact (keep_size (w := w) (g := g) (row := none) (by repeat (first | (with_reducible first | exact HK.out | apply KeepBut.set_ | apply keep_drewN | apply keep_drew | apply keep_alloc | refine keep_far ?_ GW282.out _ | refine keep_far ?_ GW283.out _) | exact HK.out))) : w.heap.size ≤ gb290)); have GE290 := asd ((Nat.le_trans HW0.out (by rw [hg]; exact (keep_size (w := w) (g := g) (row := none) (by repeat (first | (with_reducible first | exact HK.out | apply KeepBut.set_ | apply keep_drewN | apply keep_drew | apply keep_alloc | refine keep_far ?_ GW282.out _ | refine keep_far ?_ GW283.out _) | exact HK.out))) : w.heap.size ≤ gb290) : w0.heap.size ≤ gb290)); replace HK := asd (KeepBut.trans (by repeat (first | (with_reducible first | exact HK.out | apply KeepBut.set_ | apply keep_drewN | apply keep_drew | apply keep_alloc | refine keep_far ?_ GW282.out _ | refine keep_far ?_ GW283.out _) | exact HK.out)) (KeepBut.of_below hb g none) (.inl rfl)); have NB282_290 := nlt hg BK282; have NB290_282 := nsy (nlt hg BK282); replace BK282 := bB BK282 hb; have NB283_290 := nlt hg BK283; have NB290_283 := nsy (nlt hg BK283); replace BK283 := bB BK283 hb; have NB0_290 := asd ((by rw [hg]; exact Nat.ne_of_lt (IsS75.lt (show IsS75 w0 _ g s0_0 t288 t289 from by repeat (first | (with_reducible first | exact HI0.out | apply IsS75.alloc | apply IsS75.drewN | apply IsS75.drew | apply IsS75.set_1 | apply IsS75.set_2 | refine IsS75.far ?_ NB0_282.out _ | refine IsS75.far ?_ NB0_283.out _) | exact HI0.out))) : g ≠ gb290)); have NB290_0 := asd ((by rw [hg]; exact Nat.ne_of_gt (IsS75.lt (show IsS75 w0 _ g s0_0 t288 t289 from by repeat (first | (with_reducible first | exact HI0.out | apply IsS75.alloc | apply IsS75.drewN | apply IsS75.drew | apply IsS75.set_1 | apply IsS75.set_2 | refine IsS75.far ?_ NB0_282.out _ | refine IsS75.far ?_ NB0_283.out _) | exact HI0.out))) : gb290 ≠ g)); replace HI0 := asd (IsS75.below (by repeat (first | (with_reducible first | exact HI0.out | apply IsS75.alloc | apply IsS75.drewN | apply IsS75.drew | apply IsS75.set_1 | apply IsS75.set_2 | refine IsS75.far ?_ NB0_282.out _ | refine IsS75.far ?_ NB0_283.out _) | exact HI0.out)) hb); clear hb hg; have hnb8 := NB290_282.out; have hnc8 := NB282_290.out; have hnb9 := NB290_283.out; have hnc9 := NB283_290.out; have hnb10 := NB290_0.out; have hnc10 := NB0_290.out; obtain ⟨hcz11_0, hcz11_1, hcz11_2, hfz11_0, hfz11_1, hfz11_2⟩ := bz3 BK290) | ((with_reducible refine gate_callee (f := 46) rfl ?_); refine gl 17 Tryz.func46 #[.pointer (some ⟨g, 0, none⟩), .int .i64 t284, .agg #[.int .i64 t285, .int .i64 t286, .int .i64 t287]] ?_; (with_reducible refine (spec_l06DrawMotion.calls _ _ _ _ _ _ _ _ _ _ _ _ _ _ _ _ _ w0 _ ?side1 ?side2 A3.out).mono ?_); (case side1 => repeat (first | (with_reducible first | exact HI0.out | apply IsS75.alloc | apply IsS75.drewN | apply IsS75.drew | apply IsS75.set_1 | apply IsS75.set_2 | refine IsS75.far ?_ NB0_282.out _ | refine IsS75.far ?_ NB0_283.out _ | refine IsS75.far ?_ NB0_290.out _) | exact HI0.out)); (case side2 => repeat (first | (with_reducible first | exact HB.out | apply below_alloc | apply pw_below_drewN | apply below_drew1 | refine below_set ?_ (IsS75.ge HI0.out) | refine below_set ?_ GE282.out | refine below_set ?_ GE283.out | refine below_set ?_ GE290.out) | exact HB.out)); rintro e w12 ⟨rfl, hi, hb, hk⟩; refine ⟨_, rfl, ?_⟩; replace BK282 := asd (KeepBut.blk hk (g' := gb282) (o := .cells #[.int .i64 0, .int .i64 0, .int .i64 0] 25 (0, 0)) (bq1 BK282 NB282_290) NB282_0.out (by simp)); replace BK283 := asd (KeepBut.blk hk (g' := gb283) (o := .cells #[.int .i64 0, .int .i64 0, .int .i64 0, .int .i64 0] 27 (0, 0)) (bq1 BK283 NB283_290) NB283_0.out (by simp)); replace BK290 := asd (KeepBut.blk hk (g' := gb290) (o := .cells #[.int .i64 t285, .int .i64 t286, .int .i64 t287] 25 (0, 0)) (bq0 BK290) NB290_0.out (by simp)); replace HK := asd (KeepBut.trans (by repeat (first | (with_reducible first | exact HK.out | apply KeepBut.set_ | apply keep_drewN | apply keep_drew | apply keep_alloc | refine keep_far ?_ GW282.out _ | refine keep_far ?_ GW283.out _ | refine keep_far ?_ GW290.out _) | exact HK.out)) hk (.inl rfl)); replace HB := asd (hb); replace HI0 := asd (hi); (try clear hb); (try clear hb2); (try clear hk); (try clear hi)) | ((with_reducible refine gd 7 rfl ?_); refine bx #[.int .i64 0, .int .i64 0, .int .i64 0, .int .i64 0] 27 ?_; intro gb299 hg w13 BK299 hb; replace HB := asd (below_step (by repeat (first | (with_reducible first | exact HB.out | apply below_alloc | apply pw_below_drewN | apply below_drew1 | refine below_set ?_ (IsS75.ge HI0.out) | refine below_set ?_ GE282.out | refine below_set ?_ GE283.out | refine below_set ?_ GE290.out) | exact HB.out)) hb); have GW299 := asd ((by rw [hg]; exact (keep_size (w := w) (g := g) (row := none) (by repeat (first | (with_reducible first | exact HK.out | apply KeepBut.set_ | apply keep_drewN | apply keep_drew | apply keep_alloc | refine keep_far ?_ GW282.out _ | refine keep_far ?_ GW283.out _ | refine keep_far ?_ GW290.out _) | exact HK.out))) : w.heap.size ≤ gb299)); have GE299 := asd ((Nat.le_trans HW0.out (by rw [hg]; exact (keep_size (w := w) (g := g) (row := none) (by repeat (first | (with_reducible first | exact HK.out | apply KeepBut.set_ | apply keep_drewN | apply keep_drew | apply keep_alloc | refine keep_far ?_ GW282.out _ | refine keep_far ?_ GW283.out _ | refine keep_far ?_ GW290.out _) | exact HK.out))) : w.heap.size ≤ gb299) : w0.heap.size ≤ gb299)); replace HK := asd (KeepBut.trans (by repeat (first | (with_reducible first | exact HK.out | apply KeepBut.set_ | apply keep_drewN | apply keep_drew | apply keep_alloc | refine keep_far ?_ GW282.out _ | refine keep_far ?_ GW283.out _ | refine keep_far ?_ GW290.out _) | exact HK.out)) (KeepBut.of_below hb g none) (.inl rfl)); have NB282_299 := nlt hg BK282; have NB299_282 := nsy (nlt hg BK282); replace BK282 := bB BK282 hb; have NB283_299 := nlt hg BK283; have NB299_283 := nsy (nlt hg BK283); replace BK283 := bB BK283 hb; have NB290_299 := nlt hg BK290; have NB299_290 := nsy (nlt hg BK290); replace BK290 := bB BK290 hb; have NB0_299 := asd ((by rw [hg]; exact Nat.ne_of_lt (IsS75.lt (show IsS75 w0 _ g s0_0 t297 t298 from by repeat (first | (with_reducible first | exact HI0.out | apply IsS75.alloc | apply IsS75.drewN | apply IsS75.drew | apply IsS75.set_1 | apply IsS75.set_2 | refine IsS75.far ?_ NB0_282.out _ | refine IsS75.far ?_ NB0_283.out _ | refine IsS75.far ?_ NB0_290.out _) | exact HI0.out))) : g ≠ gb299)); have NB299_0 := asd ((by rw [hg]; exact Nat.ne_of_gt (IsS75.lt (show IsS75 w0 _ g s0_0 t297 t298 from by repeat (first | (with_reducible first | exact HI0.out | apply IsS75.alloc | apply IsS75.drewN | apply IsS75.drew | apply IsS75.set_1 | apply IsS75.set_2 | refine IsS75.far ?_ NB0_282.out _ | refine IsS75.far ?_ NB0_283.out _ | refine IsS75.far ?_ NB0_290.out _) | exact HI0.out))) : gb299 ≠ g)); replace HI0 := asd (IsS75.below (by repeat (first | (with_reducible first | exact HI0.out | apply IsS75.alloc | apply IsS75.drewN | apply IsS75.drew | apply IsS75.set_1 | apply IsS75.set_2 | refine IsS75.far ?_ NB0_282.out _ | refine IsS75.far ?_ NB0_283.out _ | refine IsS75.far ?_ NB0_290.out _) | exact HI0.out)) hb); clear hb hg; have hnb14 := NB299_282.out; have hnc14 := NB282_299.out; have hnb15 := NB299_283.out; have hnc15 := NB283_299.out; have hnb16 := NB299_290.out; have hnc16 := NB290_299.out; have hnb17 := NB299_0.out; have hnc17 := NB0_299.out; obtain ⟨hcz18_0, hcz18_1, hcz18_2, hcz18_3, hfz18_0, hfz18_1, hfz18_2, hfz18_3⟩ := bz4 BK299))
 go_loopg [8] k (fun kq v8 w' => ∃ (x8_1 : Int) (x1001_1 : Int) (x1002_1 : Int) (x300000_1 : Int) (x300001_1 : Int) (x300002_1 : Int) (x300003_1 : Int), v8 = .int .i64 x8_1 ∧ Aside0 (spec_l11DrawMirror.l0 kq t284 x8_1 s0_0 x1001_1 x1002_1 t285 t286 t287 x300000_1 x300001_1 x300002_1 x300003_1 = some (r1, r2, r3, r4, r5, r6, r7, r8, r9, r10)) ∧ Aside0 (kq ≤ k) ∧ Aside0 (w'.heap[gb282]? = some (.cells #[.int .i64 0, .int .i64 0, .int .i64 0] 25 (0, 0))) ∧ Aside0 (w'.heap[gb283]? = some (.cells #[.int .i64 0, .int .i64 0, .int .i64 0, .int .i64 0] 27 (0, 0))) ∧ Aside0 (w'.heap[gb290]? = some (.cells #[.int .i64 t285, .int .i64 t286, .int .i64 t287] 25 (0, 0))) ∧ Aside0 (w'.heap[gb299]? = some (.cells #[.int .i64 x300000_1, .int .i64 x300001_1, .int .i64 x300002_1, .int .i64 x300003_1] 27 (0, 0))) ∧ Aside0 (IsS75 w0 w' g s0_0 x1001_1 x1002_1) ∧ Aside0 (KeepBut w w' g none) ∧ Aside0 (Below w0.heap.size w0 w'))
 case atStart => exact ⟨(0), (t297), (t298), (t291), (t292), (t293), (t294), (by first | rfl | (simp; done) | (simp [*]; done)), H', ⟨Nat.le_refl _⟩, ⟨bq1 BK282 NB282_299⟩, ⟨bq1 BK283 NB283_299⟩, ⟨bq1 BK290 NB290_299⟩, ⟨bq0 BK299⟩, ⟨by repeat (first | (with_reducible first | exact HI0.out | apply IsS75.alloc | apply IsS75.drewN | apply IsS75.drew | apply IsS75.set_1 | apply IsS75.set_2 | refine IsS75.far ?_ NB0_282.out _ | refine IsS75.far ?_ NB0_283.out _ | refine IsS75.far ?_ NB0_290.out _ | refine IsS75.far ?_ NB0_299.out _) | exact HI0.out)⟩, ⟨by repeat (first | (with_reducible first | exact HK.out | apply KeepBut.set_ | apply keep_drewN | apply keep_drew | apply keep_alloc | refine keep_far ?_ GW282.out _ | refine keep_far ?_ GW283.out _ | refine keep_far ?_ GW290.out _ | refine keep_far ?_ GW299.out _) | exact HK.out)⟩, ⟨by repeat (first | (with_reducible first | exact HB.out | apply below_alloc | apply pw_below_drewN | apply below_drew1 | refine below_set ?_ (IsS75.ge HI0.out) | refine below_set ?_ GE282.out | refine below_set ?_ GE283.out | refine below_set ?_ GE290.out | refine below_set ?_ GE299.out) | exact HB.out)⟩⟩
 case round =>
  clear H'
  try clear c1
  try clear p2
  try clear c4
  try clear c8
  try clear c9
  try clear c10
  try clear c14
  try clear c15
  try clear c16
  try clear c17
  try clear c18
  try clear hcz11_0
  try clear hcz11_1
  try clear hcz11_2
  try clear hcz18_0
  try clear hcz18_1
  try clear hcz18_2
  try clear hcz18_3
  try clear hfz11_0
  try clear hfz11_1
  try clear hfz11_2
  try clear hfz18_0
  try clear hfz18_1
  try clear hfz18_2
  try clear hfz18_3
  obtain ⟨x8_1, x1001_1, x1002_1, x300000_1, x300001_1, x300002_1, x300003_1, rfl, HA, HK1, BK282, BK283, BK290, BK299, HI0, HK, HB⟩ := hrel
  cases gk with
  | zero => exact absurd HA.out (by simp [spec_l11DrawMirror.l0])
  | succ k1 =>
   have H := HA.out
   clear HA
   simp only [spec_l11DrawMirror.l0] at H
   by_cases c19 : x8_1 < 4
   rw [if_pos c19] at H
   have c19b0 := decide_eq_true c19
   clear c19
   obtain ⟨t300, A20, H⟩ := ob H
   try dsimp only at H
   by_cases c21 : t300 = 1
   rw [if_pos c21] at H
   have c21b0 : (t300 == 1) = true := beq_iff_eq.mpr c21
   have c21b1 : (t300 != 1) = false := bne_eq_false_iff_eq.mpr c21
   clear c21
   obtain ⟨⟨t301, t302, t303, t304, t305, t306, t307, t308⟩, A22, H⟩ := ob H
   try dsimp only at H
   have H' := Aside0.mk H
   clear H
   rotate_left
   rw [if_neg c21] at H
   have c21b0 : (t300 == 1) = false := beq_eq_false_iff_ne.mpr c21
   have c21b1 : (t300 != 1) = true := bne_iff_ne.mpr c21
   rotate_left
   rw [if_neg c19] at H
   have c19b0 := decide_eq_false c19
   clear c19
   rotate_left
   ·have hnb23 := NB299_282.out
    have hnc23 := NB282_299.out
    have hnb24 := NB299_283.out
    have hnc24 := NB283_299.out
    have hnb25 := NB299_290.out
    have hnc25 := NB290_299.out
    have hnb26 := NB299_0.out
    have hnc26 := NB0_299.out
    obtain ⟨hcz27_0, hcz27_1, hcz27_2, hcz27_3, hfz27_0, hfz27_1, hfz27_2, hfz27_3⟩ := bz4 BK299
    go_wp2_with (first | (go_at_call 33; (with_reducible refine (spec_l02Det.calls _ _ _ _ _ _ A20.out).mono ?_); rintro e w28 ⟨rfl, hb⟩; replace BK282 := bB BK282 hb; replace BK283 := bB BK283 hb; replace BK290 := bB BK290 hb; replace BK299 := bB BK299 hb; replace HK := asd (KeepBut.trans (by repeat (first | (with_reducible first | exact HK.out | apply KeepBut.set_ | apply keep_drewN | apply keep_drew | apply keep_alloc | refine keep_far ?_ GW282.out _ | refine keep_far ?_ GW283.out _ | refine keep_far ?_ GW290.out _ | refine keep_far ?_ GW299.out _) | exact HK.out)) (KeepBut.of_below hb g none) (.inl rfl)); replace HB := asd (below_step (by repeat (first | (with_reducible first | exact HB.out | apply below_alloc | apply pw_below_drewN | apply below_drew1 | refine below_set ?_ (IsS75.ge HI0.out) | refine below_set ?_ GE282.out | refine below_set ?_ GE283.out | refine below_set ?_ GE290.out | refine below_set ?_ GE299.out) | exact HB.out)) hb); replace HI0 := asd (IsS75.below (by repeat (first | (with_reducible first | exact HI0.out | apply IsS75.alloc | apply IsS75.drewN | apply IsS75.drew | apply IsS75.set_1 | apply IsS75.set_2 | refine IsS75.far ?_ NB0_282.out _ | refine IsS75.far ?_ NB0_283.out _ | refine IsS75.far ?_ NB0_290.out _ | refine IsS75.far ?_ NB0_299.out _) | exact HI0.out)) hb); (try clear hb); have hnb29 := NB290_282.out; have hnc29 := NB282_290.out; have hnb30 := NB290_283.out; have hnc30 := NB283_290.out; have hnb31 := NB290_0.out; have hnc31 := NB0_290.out; obtain ⟨hcz32_0, hcz32_1, hcz32_2, hfz32_0, hfz32_1, hfz32_2⟩ := bz3 BK290) | ((with_reducible refine gate_callee (f := 46) rfl ?_); refine gl 31 Tryz.func46 #[.pointer (some ⟨g, 0, none⟩), .int .i64 t284, .agg #[.int .i64 t285, .int .i64 t286, .int .i64 t287]] ?_; (with_reducible refine (spec_l06DrawMotion.calls _ _ _ _ _ _ _ _ _ _ _ _ _ _ _ _ _ w0 _ ?side1 ?side2 A22.out).mono ?_); (case side1 => repeat (first | (with_reducible first | exact HI0.out | apply IsS75.alloc | apply IsS75.drewN | apply IsS75.drew | apply IsS75.set_1 | apply IsS75.set_2 | refine IsS75.far ?_ NB0_282.out _ | refine IsS75.far ?_ NB0_283.out _ | refine IsS75.far ?_ NB0_290.out _ | refine IsS75.far ?_ NB0_299.out _) | exact HI0.out)); (case side2 => repeat (first | (with_reducible first | exact HB.out | apply below_alloc | apply pw_below_drewN | apply below_drew1 | refine below_set ?_ (IsS75.ge HI0.out) | refine below_set ?_ GE282.out | refine below_set ?_ GE283.out | refine below_set ?_ GE290.out | refine below_set ?_ GE299.out) | exact HB.out)); rintro e w33 ⟨rfl, hi, hb, hk⟩; refine ⟨_, rfl, ?_⟩; replace BK282 := asd (KeepBut.blk hk (g' := gb282) (o := .cells #[.int .i64 0, .int .i64 0, .int .i64 0] 25 (0, 0)) (bkp BK282) NB282_0.out (by simp)); replace BK283 := asd (KeepBut.blk hk (g' := gb283) (o := .cells #[.int .i64 0, .int .i64 0, .int .i64 0, .int .i64 0] 27 (0, 0)) (bkp BK283) NB283_0.out (by simp)); replace BK290 := asd (KeepBut.blk hk (g' := gb290) (o := .cells #[.int .i64 t285, .int .i64 t286, .int .i64 t287] 25 (0, 0)) (bkp BK290) NB290_0.out (by simp)); replace BK299 := asd (KeepBut.blk hk (g' := gb299) (o := .cells #[.int .i64 x300000_1, .int .i64 x300001_1, .int .i64 x300002_1, .int .i64 x300003_1] 27 (0, 0)) (bkp BK299) NB299_0.out (by simp)); replace HK := asd (KeepBut.trans (by repeat (first | (with_reducible first | exact HK.out | apply KeepBut.set_ | apply keep_drewN | apply keep_drew | apply keep_alloc | refine keep_far ?_ GW282.out _ | refine keep_far ?_ GW283.out _ | refine keep_far ?_ GW290.out _ | refine keep_far ?_ GW299.out _) | exact HK.out)) hk (.inl rfl)); replace HB := asd (hb); replace HI0 := asd (hi); (try clear hb); (try clear hb2); (try clear hk); (try clear hi); obtain ⟨hcz34_0, hcz34_1, hcz34_2, hcz34_3, hfz34_0, hfz34_1, hfz34_2, hfz34_3⟩ := bz4 BK299))
    go_roundg k1
    case measure => have := HK1.out; omega
    case rel => exact ⟨(wrap64 (x8_1 + 1)), (t307), (t308), (t301), (t302), (t303), (t304), (by first | rfl | (simp; done) | (simp [*]; done)), H', ⟨by have := HK1.out; omega⟩, ⟨bq1 BK282 NB282_299⟩, ⟨bq1 BK283 NB283_299⟩, ⟨bq1 BK290 NB290_299⟩, ⟨bq0 BK299⟩, ⟨by repeat (first | (with_reducible first | exact HI0.out | apply IsS75.alloc | apply IsS75.drewN | apply IsS75.drew | apply IsS75.set_1 | apply IsS75.set_2 | refine IsS75.far ?_ NB0_282.out _ | refine IsS75.far ?_ NB0_283.out _ | refine IsS75.far ?_ NB0_290.out _ | refine IsS75.far ?_ NB0_299.out _) | exact HI0.out)⟩, ⟨by repeat (first | (with_reducible first | exact HK.out | apply KeepBut.set_ | apply keep_drewN | apply keep_drew | apply keep_alloc | refine keep_far ?_ GW282.out _ | refine keep_far ?_ GW283.out _ | refine keep_far ?_ GW290.out _ | refine keep_far ?_ GW299.out _) | exact HK.out)⟩, ⟨by repeat (first | (with_reducible first | exact HB.out | apply below_alloc | apply pw_below_drewN | apply below_drew1 | refine below_set ?_ (IsS75.ge HI0.out) | refine below_set ?_ GE282.out | refine below_set ?_ GE283.out | refine below_set ?_ GE290.out | refine below_set ?_ GE299.out) | exact HB.out)⟩⟩
   rotate_left 2
   all_goals
    simp only [Option.some.injEq, Prod.mk.injEq] at H
    obtain ⟨rfl, rfl, rfl, rfl, rfl, rfl, rfl, rfl, rfl, rfl⟩ := H
   have hnb35 := NB299_282.out
   have hnc35 := NB282_299.out
   have hnb36 := NB299_283.out
   have hnc36 := NB283_299.out
   have hnb37 := NB299_290.out
   have hnc37 := NB290_299.out
   have hnb38 := NB299_0.out
   have hnc38 := NB0_299.out
   obtain ⟨hcz39_0, hcz39_1, hcz39_2, hcz39_3, hfz39_0, hfz39_1, hfz39_2, hfz39_3⟩ := bz4 BK299
   try go_wp2_with (first | (go_at_call 33; (with_reducible refine (spec_l02Det.calls _ _ _ _ _ _ A20.out).mono ?_); rintro e w40 ⟨rfl, hb⟩; replace BK282 := bB BK282 hb; replace BK283 := bB BK283 hb; replace BK290 := bB BK290 hb; replace BK299 := bB BK299 hb; replace HK := asd (KeepBut.trans (by repeat (first | (with_reducible first | exact HK.out | apply KeepBut.set_ | apply keep_drewN | apply keep_drew | apply keep_alloc | refine keep_far ?_ GW282.out _ | refine keep_far ?_ GW283.out _ | refine keep_far ?_ GW290.out _ | refine keep_far ?_ GW299.out _) | exact HK.out)) (KeepBut.of_below hb g none) (.inl rfl)); replace HB := asd (below_step (by repeat (first | (with_reducible first | exact HB.out | apply below_alloc | apply pw_below_drewN | apply below_drew1 | refine below_set ?_ (IsS75.ge HI0.out) | refine below_set ?_ GE282.out | refine below_set ?_ GE283.out | refine below_set ?_ GE290.out | refine below_set ?_ GE299.out) | exact HB.out)) hb); replace HI0 := asd (IsS75.below (by repeat (first | (with_reducible first | exact HI0.out | apply IsS75.alloc | apply IsS75.drewN | apply IsS75.drew | apply IsS75.set_1 | apply IsS75.set_2 | refine IsS75.far ?_ NB0_282.out _ | refine IsS75.far ?_ NB0_283.out _ | refine IsS75.far ?_ NB0_290.out _ | refine IsS75.far ?_ NB0_299.out _) | exact HI0.out)) hb); (try clear hb)))
   rotate_left
   try go_wp2
   rotate_left
   all_goals
    replace BK282 := asd (blk_drew BK282.out)
    replace BK283 := asd (blk_drew BK283.out)
    replace BK290 := asd (blk_drew BK290.out)
    replace BK299 := asd (blk_drew BK299.out)
    replace HI0 := asd (IsS75.drew HI0.out)
    replace HK := asd (keep_drew HK.out)
    replace HB := asd (below_drew1 HB.out)
    refine sh 6 (cb3 BK290 (eb4 BK299)) (fun hHeld => ?_)
   generalize w40.drew = w41 at BK282 BK283 BK290 BK299 HI0 HK HB hHeld ⊢
   rotate_left
   generalize wr.drew = w41 at BK282 BK283 BK290 BK299 HI0 HK HB hHeld ⊢
   rotate_left
   all_goals
    refine pure_ (i := 0) (N := some 33) (v := ?_) (a' := ?_) (bT 6 1) rfl rfl (by kernel_rfl) (fun _ _ _ h => h) (Or.inl ⟨by rfl, ?_⟩) ?_ ?_
    rotate_left
    ·intro w'
     go_simp
     with_reducible rfl
    rotate_left
    ·simp only [Act.put, sA, sB, sC, i64_w, i32_w]
     rfl
    refine pure_ (i := 3) (N := some 2) (v := ?_) (a' := ?_) (bs 6 9) rfl rfl (by kernel_rfl) (fun _ _ _ h => h) (Or.inl ⟨by rfl, ?_⟩) ?_ ?_
    rotate_left
    ·intro w'
     go_simp
     with_reducible rfl
    rotate_left
    ·simp only [Act.put, sA, sB, sC, i64_w, i32_w]
     rfl
    refine take_ (i := 1) (N := some 34) (v := ?_) (a' := ?_) (bs 6 11) rfl rfl (by kernel_rfl) (fun _ _ _ h => h) (Or.inl ⟨by rfl, ?_⟩) hHeld ?_ ?_
    rotate_left
    ·rintro w' ⟨s0, s1, s2, s3, s4, s5, s6⟩
     go_simp
     with_reducible rfl
    rotate_left
    ·simp only [Act.put, sA, sB, sC, i64_w, i32_w]
     rfl
    refine take_ (i := 2) (N := some 35) (v := ?_) (a' := ?_) (bT 6 4) rfl rfl (by kernel_rfl) (fun _ _ _ h => h) (Or.inl ⟨by rfl, ?_⟩) hHeld ?_ ?_
    rotate_left
    ·rintro w' ⟨s0, s1, s2, s3, s4, s5, s6⟩
     go_simp
     with_reducible rfl
    rotate_left
    ·simp only [Act.put, sA, sB, sC, i64_w, i32_w]
     rfl
    refine one_ (i := 4) (N := none) (bT 6 5) rfl rfl (by kernel_rfl) (by decide) (fun K hK => ?_)
    have hs42 : w41.cell? ⟨gb282, 0, none⟩ = some (.int .i64 0) := bcl BK282 0
    have hfs42 := blk_frozen BK282.out 0
    have hns42_1 := NB283_282.out
    have hns42_2 := NB290_282.out
    have hns42_3 := NB299_282.out
    have hms42_1 := NB282_283.out
    have hms42_2 := NB282_290.out
    have hms42_3 := NB282_299.out
    have hs43 : w41.cell? ⟨gb282, 1, none⟩ = some (.int .i64 0) := bcl BK282 1
    have hfs43 := blk_frozen BK282.out 1
    have hns43_1 := NB283_282.out
    have hns43_2 := NB290_282.out
    have hns43_3 := NB299_282.out
    have hms43_1 := NB282_283.out
    have hms43_2 := NB282_290.out
    have hms43_3 := NB282_299.out
    have hs44 : w41.cell? ⟨gb282, 2, none⟩ = some (.int .i64 0) := bcl BK282 2
    have hfs44 := blk_frozen BK282.out 2
    have hns44_1 := NB283_282.out
    have hns44_2 := NB290_282.out
    have hns44_3 := NB299_282.out
    have hms44_1 := NB282_283.out
    have hms44_2 := NB282_290.out
    have hms44_3 := NB282_299.out
    refine skip_ (w1 := ?_) (by rfl) rfl ?_ ?_
    rotate_left
    ·go_simp
     rfl
    refine hK.out _ _ ⟨(cf3 NB290_282 (hHeld.1)), (cf3 NB290_282 (hHeld.2.1)), (cf3 NB290_282 (hHeld.2.2.1)), (cf3 NB299_282 (hHeld.2.2.2.1)), (cf3 NB299_282 (hHeld.2.2.2.2.1)), (cf3 NB299_282 (hHeld.2.2.2.2.2.1)), (cf3 NB299_282 (hHeld.2.2.2.2.2.2))⟩ (fun hHeld => ?_)
    clear hK K
    refine one_ (i := 5) (N := none) (bT 6 6) rfl rfl (by kernel_rfl) (by decide) (fun K hK => ?_)
    have hs45 : w41.cell? ⟨gb283, 0, none⟩ = some (.int .i64 0) := bcl BK283 0
    have hfs45 := blk_frozen BK283.out 0
    have hns45_0 := NB282_283.out
    have hns45_2 := NB290_283.out
    have hns45_3 := NB299_283.out
    have hms45_0 := NB283_282.out
    have hms45_2 := NB283_290.out
    have hms45_3 := NB283_299.out
    have hs46 : w41.cell? ⟨gb283, 1, none⟩ = some (.int .i64 0) := bcl BK283 1
    have hfs46 := blk_frozen BK283.out 1
    have hns46_0 := NB282_283.out
    have hns46_2 := NB290_283.out
    have hns46_3 := NB299_283.out
    have hms46_0 := NB283_282.out
    have hms46_2 := NB283_290.out
    have hms46_3 := NB283_299.out
    have hs47 : w41.cell? ⟨gb283, 2, none⟩ = some (.int .i64 0) := bcl BK283 2
    have hfs47 := blk_frozen BK283.out 2
    have hns47_0 := NB282_283.out
    have hns47_2 := NB290_283.out
    have hns47_3 := NB299_283.out
    have hms47_0 := NB283_282.out
    have hms47_2 := NB283_290.out
    have hms47_3 := NB283_299.out
    have hs48 : w41.cell? ⟨gb283, 3, none⟩ = some (.int .i64 0) := bcl BK283 3
    have hfs48 := blk_frozen BK283.out 3
    have hns48_0 := NB282_283.out
    have hns48_2 := NB290_283.out
    have hns48_3 := NB299_283.out
    have hms48_0 := NB283_282.out
    have hms48_2 := NB283_290.out
    have hms48_3 := NB283_299.out
    refine skip_ (w1 := ?_) (by rfl) rfl ?_ ?_
    rotate_left
    ·go_simp
     rfl
    refine hK.out _ _ ⟨(cf4 NB290_283 (hHeld.1)), (cf4 NB290_283 (hHeld.2.1)), (cf4 NB290_283 (hHeld.2.2.1)), (cf4 NB299_283 (hHeld.2.2.2.1)), (cf4 NB299_283 (hHeld.2.2.2.2.1)), (cf4 NB299_283 (hHeld.2.2.2.2.2.1)), (cf4 NB299_283 (hHeld.2.2.2.2.2.2))⟩ (fun hHeld => ?_)
    clear hK K
    refine done_ (by kernel_rfl) ?_
    try go_wp2
    refine bodyPost_ret (results_list (rs := [.tmp 2, .cell 3 25, .cell 4 27]) rfl (by simp) (.tmp (.cell gb282 25 #[.int .i64 t285, .int .i64 t286, .int .i64 t287] (0, 0) _ rfl (bq1 BK282 NB282_283) Tryz.underlying25 rfl (by kernel_rfl) (.cell gb283 27 #[.int .i64 x300000_1, .int .i64 x300001_1, .int .i64 x300002_1, .int .i64 x300003_1] (0, 0) _ rfl (bq1 BK283 NB283_282) Tryz.underlying27 rfl (by kernel_rfl) .nil)))) rfl ?_
    exact ⟨by first | rfl | (simp [errW_none, errW_some] <;> rfl) | (simp [*, errW_none, errW_some] <;> rfl), by repeat (first | (with_reducible first | exact HI0.out | apply IsS75.alloc | apply IsS75.drewN | apply IsS75.drew | apply IsS75.set_1 | apply IsS75.set_2 | refine IsS75.far ?_ NB0_282.out _ | refine IsS75.far ?_ NB0_283.out _ | refine IsS75.far ?_ NB0_290.out _ | refine IsS75.far ?_ NB0_299.out _) | exact HI0.out), by repeat (first | (with_reducible first | exact HB.out | apply below_alloc | apply pw_below_drewN | apply below_drew1 | refine below_set ?_ (IsS75.ge HI0.out) | refine below_set ?_ GE282.out | refine below_set ?_ GE283.out | refine below_set ?_ GE290.out | refine below_set ?_ GE299.out) | exact HB.out), by repeat (first | (with_reducible first | exact HK.out | apply KeepBut.set_ | apply keep_drewN | apply keep_drew | apply keep_alloc | refine keep_far ?_ GW282.out _ | refine keep_far ?_ GW283.out _ | refine keep_far ?_ GW290.out _ | refine keep_far ?_ GW299.out _) | exact HK.out)⟩
/-! ### spec_l01From: function 19 -/
def spec_l01From.l0 : Nat → List Int → Int → List Int → Int → Int → Option (List Int × Int × Int)
 | 0, _, _, _, _, _ => none
 | k + 1, x0, x4, x310000, x310001, x310002 => if x4 < (x0.length : Int) then (if x4 < 64 then (if 0 ≤ x4 then (spec_l01From.l0 k x0 (wrap64 (x4 + 1)) x310000 x310001 (Int.tmod (wrap64 ((wrap64 (x310002 * 73)) + (wrap64 (rd x0 x4)))) 2147483647)) else (none)) else (some (x310000, x310001, x310002))) else (some (x310000, x310001, x310002))
def spec_l01From.f (k : Nat) (l0 : List Int) : Option (List Int × Int × Int) := spec_l01From.l0 k l0 0 l0 0 93001
def spec_l01From.T5 : Bool × List (List Nat × List Nat) := (true, [([], []), ([], []), ([1], [1]), ([2], [2]), ([3], [3]), ([4], [4]), ([], []), ([], []), ([6, 7], [6, 7]), ([8], [8]), ([9], [9]), ([5, 10], [5, 10]), ([11], [11]), ([0, 0, 1, 2, 3, 4, 5, 6, 7, 8, 9, 10, 11, 12], [0]), ([13, 0, 1, 2, 3, 4, 5, 6, 7, 8, 9, 10, 11, 12], [13]), ([14, 12, 0, 1, 2, 3, 4, 5, 6, 7, 8, 9, 10, 11, 12], [12, 14])])
def spec_l01From.B5 : List Nat := [0, 0, 2, 6, 14, 30, 0, 0, 192, 448, 960, 2046, 4094, 8191, 16383, 32767]
theorem spec_l01From.tab5 : rtab .any (opsOf Tryz.f19 5) = spec_l01From.T5 := by kernel_rfl
theorem spec_l01From.bits5 : waitsOk spec_l01From.T5.2 spec_l01From.B5 = true := by kernel_rfl
set_option maxHeartbeats 8000000 in
set_option maxRecDepth 100000 in
theorem spec_l01From.calls (k : Nat) (A0 : Option Addr) (c0 : Nat) (l0 : List Int) (r1 : List Int) (r2 : Int) (r3 : Int) (w0 w : World) (hB : Below w0.heap.size w0 w) (hr0 : Kd.C (Kd.int .u8) w0 A0 l0.length l0) (hc0 : l0.length ≤ c0) (h : spec_l01From.f k l0 = some (r1, r2, r3)) :
  Calls Tryz.prog 19 #[.slice A0 l0.length c0] w fun e w' => ∃ g_ : Nat, e = .returned (.pointer (some ⟨g_, 0, none⟩)) ∧ IsS75 w0 w' g_ r1 r2 r3 ∧ Below w0.heap.size w0 w' ∧ Below w.heap.size w w' := by
 have hu75 := Tryz.underlying75
 have HR0 := Aside0.mk hr0
 have HC0 := Aside0.mk hc0
 clear hr0 hc0
 have HBW := asd (Below.refl w.heap.size w)
 have HW0 := Aside0.mk hB.size
 have HB := Aside0.mk hB
 clear hB
 have H : (spec_l01From.l0 k l0 0 l0 0 93001) = some (r1, r2, r3) := h
 clear h
 have H' := Aside0.mk H
 clear H
 go_enter Tryz.func19, Tryz.ntmps19
 go_wp2_with (first | ((with_reducible refine gd 7 rfl ?_); refine bx #[.slice A0 l0.length c0, .int .i64 0, .int .i64 93001] 75 ?_; intro gb309 hg w2 BK309 hb; replace HB := bS0 HB hb; have GW309 := asd ((by rw [hg]; exact (below_size (by repeat (first | (with_reducible first | exact HBW.out | apply below_alloc | apply pw_below_drewN | apply below_drew1) | exact HBW.out))) : w.heap.size ≤ gb309)); have GE309 := asd ((Nat.le_trans HW0.out (by rw [hg]; exact (below_size (by repeat (first | (with_reducible first | exact HBW.out | apply below_alloc | apply pw_below_drewN | apply below_drew1) | exact HBW.out))) : w.heap.size ≤ gb309) : w0.heap.size ≤ gb309)); replace HBW := asd (below_step HBW.out hb); clear hb hg))
 go_loopg [4] k (fun kq v4 w' => ∃ (x4_1 : Int) (x310002_1 : Int), v4 = .int .i64 x4_1 ∧ Aside0 (spec_l01From.l0 kq l0 x4_1 l0 0 x310002_1 = some (r1, r2, r3)) ∧ Aside0 (kq ≤ k) ∧ Aside0 (w'.heap[gb309]? = some (.cells #[(.slice A0 l0.length c0), .int .i64 0, .int .i64 x310002_1] 75 (0, 0))) ∧ Aside0 (Below w0.heap.size w0 w') ∧ Aside0 (Below w.heap.size w w'))
 case atStart => exact ⟨(0), (93001), (by first | rfl | (simp; done) | (simp [*]; done)), H', ⟨Nat.le_refl _⟩, ⟨bkp BK309⟩, ⟨bbw1 HB GE309⟩, ⟨by repeat (first | (with_reducible first | exact HBW.out | apply below_alloc | apply pw_below_drewN | apply below_drew1 | refine below_set ?_ GW309.out) | exact HBW.out)⟩⟩
 case round =>
  clear H'
  try clear c1
  try clear p2
  obtain ⟨x4_1, x310002_1, rfl, HA, HK1, BK309, HB, HBW⟩ := hrel
  cases gk with
  | zero => exact absurd HA.out (by simp [spec_l01From.l0])
  | succ k1 =>
   have H := HA.out
   clear HA
   simp only [spec_l01From.l0] at H
   by_cases c3 : x4_1 < (l0.length : Int)
   rw [if_pos c3] at H
   have c3b0 := decide_eq_true c3
   clear c3
   by_cases c4 : x4_1 < 64
   rw [if_pos c4] at H
   have c4b0 := decide_eq_true c4
   clear c4
   by_cases c5 : 0 ≤ x4_1
   rw [if_pos c5] at H
   have c5b0 := decide_eq_true c5
   clear c5
   have H' := Aside0.mk H
   clear H
   rotate_left
   ·rw [if_neg c5] at H
    exact absurd H (by simp)
   rw [if_neg c4] at H
   have c4b0 := decide_eq_false c4
   clear c4
   rotate_left
   rw [if_neg c3] at H
   have c3b0 := decide_eq_false c3
   clear c3
   rotate_left
   ·try go_wp2
    have n0_ := asd (blk_drew BK309.out)
    replace HBW := asd (below_drew1 HBW.out)
    have n1_ := asd (below_drew1 HB.out)
    clear BK309
    clear HB
    have BK309 := n0_
    have HB := n1_
    clear n0_ n1_
    have p310 : 0 ≤ (x4_1 : Int) := od
    have q310 : x4_1 < (l0.length : Int) := od
    obtain ⟨ad310, e310, hx310_0⟩ := Kd.at_int HR0.out x4_1 p310 q310
    have hw310_0 := hx310_0
    cases e310
    replace hx310_0 := pw_cell_below HB.out hx310_0
    replace p310 := eq_true p310
    replace q310 := eq_true q310
    refine start_ (n := 16) (S := fun w' => w'.cell? ⟨gb309, 0, none⟩ = some (.slice (some ad310) l0.length c0) ∧ w'.cell? ⟨gb309, 1, none⟩ = some (.int .i64 0) ∧ w'.cell? ⟨gb309, 2, none⟩ = some (.int .i64 x310002_1) ∧ w'.cell? (ad310.add (x4_1).toNat) = some (.int .u8 (rd l0 x4_1))) (ds := [15]) (bT 16 0) (by kernel_rfl) rfl rfl ⟨bcl BK309 0, bcl BK309 1, bcl BK309 2, (xb HB hw310_0)⟩ (fun hHeld => ?_); refine with_tabW spec_l01From.tab5 spec_l01From.bits5 (fun HT_ HW_ => ?_)
    generalize wr.drew = w6 at HBW BK309 HB hx310_0 hHeld ⊢
    refine pu 0 (some 18) (bT 16 1) HT_ ?_
    refine pu 1 (some 19) (bT 16 2) HT_ ?_
    refine pu 2 (some 20) (bT 16 3) HT_ ?_
    refine pu 3 (some 21) (bT 16 4) HT_ ?_
    refine pu 6 (some 24) (bs 16 79) HT_ ?_
    refine pu 7 (some 25) (bs 16 207) HT_ ?_
    refine pu 8 (some 26) (bs 16 463) HT_ ?_
    refine ta 4 (some 22) (bs 16 479) HT_ HW_ hHeld ?_
    refine pu 5 (some 23) (bT 16 9) HT_ ?_
    refine ta 9 (some 27) (bT 16 10) HT_ HW_ hHeld ?_
    refine pu 10 (some 28) (bT 16 11) HT_ ?_
    refine pu 11 (some 29) (bT 16 12) HT_ ?_
    refine pu 12 (some 30) (bT 16 13) HT_ ?_
    refine pu 13 (some 31) (bT 16 14) HT_ ?_
    refine pu 14 (some 32) (bT 16 15) HT_ ?_
    refine last_ (i := 15) (N := none) (bT 16 16) rfl rfl (one_of HT_.out (by kernel_rfl)) (by decide) (fun K hK => ?_)
    have hs7 : w6.cell? ⟨gb309, 2, none⟩ = some (.int .i64 x310002_1) := bcl BK309 2
    have hfs7 := blk_frozen BK309.out 2
    refine skip_ (w1 := ?_) (by rfl) rfl ?_ ?_
    rotate_left
    ·go_simp
     rfl
    refine hK.out _ _ ?_
    clear hK K
    refine done_ (done_of HT_.out (by kernel_rfl)) ?_
    try go_wp2
    go_roundg k1
    case measure => have := HK1.out; omega
    case rel => exact ⟨(wrap64 (x4_1 + 1)), (Int.tmod (wrap64 ((wrap64 (x310002_1 * 73)) + (wrap64 (rd l0 x4_1)))) 2147483647), (by first | rfl | (simp; done) | (simp [*]; done)), H', ⟨by have := HK1.out; omega⟩, ⟨bq0 BK309⟩, ⟨bbw1 HB GE309⟩, ⟨by repeat (first | (with_reducible first | exact HBW.out | apply below_alloc | apply pw_below_drewN | apply below_drew1 | refine below_set ?_ GW309.out) | exact HBW.out)⟩⟩
   rotate_left 2
   all_goals
    simp only [Option.some.injEq, Prod.mk.injEq] at H
    obtain ⟨rfl, rfl, rfl⟩ := H
    go_wp2
    go_ret
    exact ⟨_, rfl, (show IsS75 w0 _ gb309 l0 0 x310002_1 from ⟨_, _, by (with_reducible repeat (first | refine blk_drewN ?_ _ | refine blk_drew ?_ | refine blk_alloc ?_ _)); exact BK309.out, GE309.out, HR0.out⟩), by repeat (first | (with_reducible first | exact HB.out | apply below_alloc | apply pw_below_drewN | apply below_drew1 | refine below_set ?_ GE309.out) | exact HB.out), by repeat (first | (with_reducible first | exact HBW.out | apply below_alloc | apply pw_below_drewN | apply below_drew1 | refine below_set ?_ GW309.out) | exact HBW.out)⟩
/-! ### spec_DrawInvariantVec: function 5 -/
def spec_DrawInvariantVec.f (k : Nat) (l0 : List Int) : Option (Int × Int × Int × Int × Int × Int × Int × Int) := (spec_l01From.f k l0).bind fun bt313 => ((spec_l11DrawMirror.f k bt313.1 bt313.2.1 bt313.2.2).bind fun bt317 => (some (bt317.1, bt317.2.1, bt317.2.2.1, bt317.2.2.2.1, bt317.2.2.2.2.1, bt317.2.2.2.2.2.1, bt317.2.2.2.2.2.2.1, bt317.2.2.2.2.2.2.2.1)))
set_option maxHeartbeats 8000000 in
set_option maxRecDepth 100000 in
theorem spec_DrawInvariantVec.calls (k : Nat) (A0 : Option Addr) (c0 : Nat) (l0 : List Int) (r1 : Int) (r2 : Int) (r3 : Int) (r4 : Int) (r5 : Int) (r6 : Int) (r7 : Int) (r8 : Int) (w : World) (hr0 : Kd.C (Kd.int .u8) w A0 l0.length l0) (hc0 : l0.length ≤ c0) (h : spec_DrawInvariantVec.f k l0 = some (r1, r2, r3, r4, r5, r6, r7, r8)) :
  Calls Tryz.prog 5 #[.slice A0 l0.length c0] w fun e w' => e = .returned (.tuple #[.int .i64 r1, .agg #[.int .i64 r2, .int .i64 r3, .int .i64 r4], .agg #[.int .i64 r5, .int .i64 r6, .int .i64 r7, .int .i64 r8]]) ∧ Below w.heap.size w w' := by
 have hu25 := Tryz.underlying25
 have hu27 := Tryz.underlying27
 have HR0 := Aside0.mk hr0
 have HC0 := Aside0.mk hc0
 clear hr0 hc0
 have HB := asd (Below.refl w.heap.size w)
 have H : ((spec_l01From.f k l0).bind fun bt313 => ((spec_l11DrawMirror.f k bt313.1 bt313.2.1 bt313.2.2).bind fun bt317 => (some (bt317.1, bt317.2.1, bt317.2.2.1, bt317.2.2.2.1, bt317.2.2.2.2.1, bt317.2.2.2.2.2.1, bt317.2.2.2.2.2.2.1, bt317.2.2.2.2.2.2.2.1)))) = some (r1, r2, r3, r4, r5, r6, r7, r8) := h
 clear h
 obtain ⟨⟨t313, t314, t315⟩, A2, H⟩ := ob H
 try dsimp only at H
 obtain ⟨⟨t317, t318, t319, t320, t321, t322, t323, t324, t325, t326⟩, A3, H⟩ := ob H
 try dsimp only at H
 simp only [Option.some.injEq, Prod.mk.injEq] at H
 obtain ⟨rfl, rfl, rfl, rfl, rfl, rfl, rfl, rfl⟩ := H
 go_enter Tryz.func5, Tryz.ntmps5
 go_wp2_with (first | ((with_reducible refine gd 3 rfl ?_); refine bx #[.int .i64 0, .int .i64 0, .int .i64 0] 25 ?_; intro gb311 hg w4 BK311 hb; have GE311 := ngw0 hg HB; replace HB := bS0 HB hb; clear hb hg) | ((with_reducible refine gd 4 rfl ?_); refine bx #[.int .i64 0, .int .i64 0, .int .i64 0, .int .i64 0] 27 ?_; intro gb312 hg w5 BK312 hb; have GE312 := ngw1 hg HB GE311; replace HB := bS1 HB GE311 hb; have NB311_312 := nlt hg BK311; have NB312_311 := nsy (nlt hg BK311); replace BK311 := bB BK311 hb; clear hb hg) | ((with_reducible refine gate_callee (f := 19) rfl ?_); refine gl 6 Tryz.func19 #[.slice A0 l0.length c0] ?_; (with_reducible refine (spec_l01From.calls _ _ _ _ _ _ _ w _ ?side1 ?side2 ?side3 A2.out).mono ?_); (case side1 => repeat (first | (with_reducible first | exact HB.out | apply below_alloc | apply pw_below_drewN | apply below_drew1 | refine below_set ?_ GE311.out | refine below_set ?_ GE312.out) | exact HB.out)); (case side2 => exact HR0.out); (case side3 => exact HC0.out); rintro e w6 ⟨g316, rfl, hi, hb, hb2⟩; refine ⟨_, rfl, ?_⟩; replace HB := asd (hb); have HI316 := asd (hi); have NB316_311 := asd (IsS75.ne_blk hi (bbl BK311 hb2) (by decide)); have NB311_316 := asd (Ne.symm (IsS75.ne_blk hi (bbl BK311 hb2) (by decide))); replace BK311 := asd (bbl BK311 hb2); have NB316_312 := asd (IsS75.ne_blk hi (bbl BK312 hb2) (by decide)); have NB312_316 := asd (Ne.symm (IsS75.ne_blk hi (bbl BK312 hb2) (by decide))); replace BK312 := asd (bbl BK312 hb2); (try clear hb); (try clear hb2); (try clear hk); (try clear hi)) | ((with_reducible refine gate_callee (f := 18) rfl ?_); refine gl 7 Tryz.func18 #[.pointer (some ⟨g316, 0, none⟩)] ?_; (with_reducible refine (spec_l11DrawMirror.calls _ _ _ _ _ _ _ _ _ _ _ _ _ _ _ w _ ?side1 ?side2 A3.out).mono ?_); (case side1 => repeat (first | (with_reducible first | exact HI316.out | apply IsS75.alloc | apply IsS75.drewN | apply IsS75.drew | apply IsS75.set_1 | apply IsS75.set_2 | refine IsS75.far ?_ NB316_311.out _ | refine IsS75.far ?_ NB316_312.out _) | exact HI316.out)); (case side2 => repeat (first | (with_reducible first | exact HB.out | apply below_alloc | apply pw_below_drewN | apply below_drew1 | refine below_set ?_ (IsS75.ge HI316.out) | refine below_set ?_ GE311.out | refine below_set ?_ GE312.out) | exact HB.out)); rintro e w7 ⟨rfl, hi, hb, hk⟩; refine ⟨_, rfl, ?_⟩; replace BK311 := asd (KeepBut.blk hk (g' := gb311) (o := .cells #[.int .i64 0, .int .i64 0, .int .i64 0] 25 (0, 0)) (bkp BK311) NB311_316.out (by simp)); replace BK312 := asd (KeepBut.blk hk (g' := gb312) (o := .cells #[.int .i64 0, .int .i64 0, .int .i64 0, .int .i64 0] 27 (0, 0)) (bkp BK312) NB312_316.out (by simp)); replace HB := asd (hb); replace HI316 := asd (hi); (try clear hb); (try clear hb2); (try clear hk); (try clear hi); have hnb8 := NB311_312.out; have hnc8 := NB312_311.out; have hnb9 := NB311_316.out; have hnc9 := NB316_311.out; obtain ⟨hcz10_0, hcz10_1, hcz10_2, hfz10_0, hfz10_1, hfz10_2⟩ := bz3 BK311; have hnb11 := NB312_316.out; have hnc11 := NB316_312.out; obtain ⟨hcz12_0, hcz12_1, hcz12_2, hcz12_3, hfz12_0, hfz12_1, hfz12_2, hfz12_3⟩ := bz4 BK312))
 refine bodyPost_ret (results_list (rs := [.tmp 2, .cell 3 25, .cell 4 27]) rfl (by simp) (.tmp (.cell gb311 25 #[.int .i64 t318, .int .i64 t319, .int .i64 t320] (0, 0) _ rfl (bq1 BK311 NB311_312) Tryz.underlying25 rfl (by kernel_rfl) (.cell gb312 27 #[.int .i64 t321, .int .i64 t322, .int .i64 t323, .int .i64 t324] (0, 0) _ rfl (bq1 BK312 NB312_311) Tryz.underlying27 rfl (by kernel_rfl) .nil)))) rfl ?_
 exact ⟨by first | rfl | (simp [errW_none, errW_some] <;> rfl) | (simp [*, errW_none, errW_some] <;> rfl), by repeat (first | (with_reducible first | exact HB.out | apply below_alloc | apply pw_below_drewN | apply below_drew1 | refine below_set ?_ (IsS75.ge HI316.out) | refine below_set ?_ GE311.out | refine below_set ?_ GE312.out) | exact HB.out)⟩
/-! ### impl_within: function 94 -/
def impl_within.f (a0 : Int) (a1 : Int) (a2 : Int) : Option (Bool) := if a0 ≥ a1 then (some (decide (a0 ≤ a2))) else (some false)
set_option maxHeartbeats 8000000 in
set_option maxRecDepth 100000 in
theorem impl_within.calls (a0 : Int) (a1 : Int) (a2 : Int) (r : Bool) (w : World) (h : impl_within.f a0 a1 a2 = some r) :
  Calls Tryz.prog 94 #[.int .i64 a0, .int .i64 a1, .int .i64 a2] w fun e w' => e = .returned (.bool r) ∧ Drawn0 w w' := by
 have H : (if a0 ≥ a1 then (some (decide (a0 ≤ a2))) else (some false)) = some r := h
 clear h
 by_cases c4 : a0 ≥ a1
 ·rw [if_pos c4] at H
  have c4b0 : decide (a1 ≤ a0) = true := decide_eq_true c4
  clear c4
  obtain rfl := Option.some.inj H
  go_enter Tryz.func94, Tryz.ntmps94
  go_wp2
  go_ret
  exact ⟨by first | rfl | (simp; done) | (simp [*]; done), by repeat (first | exact Drawn0.refl _ | apply Drawn0.step)⟩
 ·rw [if_neg c4] at H
  have c4b0 : decide (a1 ≤ a0) = false := decide_eq_false c4
  clear c4
  obtain rfl := Option.some.inj H
  go_enter Tryz.func94, Tryz.ntmps94
  go_wp2
  go_ret
  exact ⟨by first | rfl | (simp; done) | (simp [*]; done), by repeat (first | exact Drawn0.refl _ | apply Drawn0.step)⟩
/-! ### impl_IsFrame: function 61 -/
def impl_IsFrame.f (a0 : Int) : Option (Bool) := (impl_within.f a0 0 1).bind fun t327 => (some t327)
set_option maxHeartbeats 8000000 in
set_option maxRecDepth 100000 in
theorem impl_IsFrame.calls (a0 : Int) (r : Bool) (w : World) (h : impl_IsFrame.f a0 = some r) :
  Calls Tryz.prog 61 #[.int .i64 a0] w fun e w' => e = .returned (.bool r) ∧ Drawn0 w w' := by
 have H : ((impl_within.f a0 0 1).bind fun t327 => (some t327)) = some r := h
 clear h
 obtain ⟨t327, A2, H⟩ := ob H
 try dsimp only at H
 obtain rfl := Option.some.inj H
 go_enter Tryz.func61, Tryz.ntmps61
 go_wp2_with (first | ((with_reducible refine gate_callee (f := 94) rfl ?_); refine gl 4 Tryz.func94 #[.int .i64 a0, .int .i64 0, .int .i64 1] ?_; (with_reducible refine (impl_within.calls _ _ _ _ _ A2.out).mono ?_); rintro e w' ⟨rfl, ⟨nd, rfl⟩⟩; refine ⟨_, rfl, ?_⟩))
 go_ret
 exact ⟨by first | rfl | (simp; done) | (simp [*]; done), by repeat (first | exact Drawn0.refl _ | apply Drawn0.step)⟩
/-! ### impl_Lattice_index: function 57 -/
def impl_Lattice_index.f (a0_0 : Int) (a0_1 : Int) (a0_2 : Int) : Option (Int) := some (wrap64 (a0_0 * a0_2))
set_option maxHeartbeats 8000000 in
set_option maxRecDepth 100000 in
theorem impl_Lattice_index.calls (a0_0 : Int) (a0_1 : Int) (a0_2 : Int) (r : Int) (w : World) (h : impl_Lattice_index.f a0_0 a0_1 a0_2 = some r) :
  Calls Tryz.prog 57 #[.agg #[.int .i64 a0_0, .int .i64 a0_1, .int .i64 a0_2]] w fun e w' => e = .returned (.int .i64 r) ∧ Below w.heap.size w w' := by
 have hu25 := Tryz.underlying25
 have HB := asd (Below.refl w.heap.size w)
 have H : (some (wrap64 (a0_0 * a0_2))) = some r := h
 clear h
 obtain rfl := Option.some.inj H
 go_enter Tryz.func57, Tryz.ntmps57
 go_wp2_with (first | ((with_reducible refine gd 1 rfl ?_); refine bx #[.int .i64 a0_0, .int .i64 a0_1, .int .i64 a0_2] 25 ?_; intro gb328 hg w2 BK328 hb; have GE328 := ngw0 hg HB; replace HB := bS0 HB hb; clear hb hg; obtain ⟨hcz3_0, hcz3_1, hcz3_2, hfz3_0, hfz3_1, hfz3_2⟩ := bz3 BK328))
 go_ret
 exact er (bbw1 HB GE328)

end Go.Proofs.YtedmadofpdkekaaGreat.PA
