/- Walks written by program: each Go function that the law reaches comes to the plain function beside it. -/
import Derived.Test.YtdodghjnlekgeaaPAx0
namespace Go.Proofs.Ytdodghjnlekgeaa.PA
open Go.RowKit Go.Proofs.YtdodghjnlekgeaaW.PrintWords Go.Proofs.YtdodghjnlekgeaaW.PrintLast Go.Proofs.YtdodghjnlekgeaaW.PrintMore
attribute [local go_sem] max2_int min2_int max_two min_two max_three min_three max_four min_four   -- for this text's walks alone
set_option linter.unusedVariables false
set_option linter.unusedSimpArgs false

/-! ### impl_standardMotions: function 13 -/
def impl_standardMotions.f (a0 : ByteArray) (a1 : Int) : Option (Int × (List (S41)) × Bool) := if a0.toList = ([112, 49] : List UInt8) then (some (0, ([] : List (S41)), true)) else (if a0.toList = ([112, 50] : List UInt8) then (some (0, (([(⟨(⟨(-1), 0, 0, (-1)⟩ : S37), (⟨0, 0⟩ : S39)⟩ : S41)] : List (S41))), true)) else (if a0.toList = ([112, 109] : List UInt8) then (some (0, (([(⟨(⟨1, 0, 0, (-1)⟩ : S37), (⟨0, 0⟩ : S39)⟩ : S41)] : List (S41))), true)) else (if a0.toList = ([112, 103] : List UInt8) then (some (0, (([(⟨(⟨1, 0, 0, (-1)⟩ : S37), (⟨a1, 0⟩ : S39)⟩ : S41)] : List (S41))), true)) else (if a0.toList = ([99, 109] : List UInt8) then (some (0, (([(⟨(⟨0, 1, 1, 0⟩ : S37), (⟨0, 0⟩ : S39)⟩ : S41)] : List (S41))), true)) else (if a0.toList = ([112, 109, 109] : List UInt8) then (some (0, (([(⟨(⟨1, 0, 0, (-1)⟩ : S37), (⟨0, 0⟩ : S39)⟩ : S41), (⟨(⟨(-1), 0, 0, (-1)⟩ : S37), (⟨0, 0⟩ : S39)⟩ : S41)] : List (S41))), true)) else (if a0.toList = ([112, 109, 103] : List UInt8) then (some (0, (([(⟨(⟨1, 0, 0, (-1)⟩ : S37), (⟨a1, 0⟩ : S39)⟩ : S41), (⟨(⟨(-1), 0, 0, (-1)⟩ : S37), (⟨0, 0⟩ : S39)⟩ : S41)] : List (S41))), true)) else (if a0.toList = ([112, 103, 103] : List UInt8) then (some (0, (([(⟨(⟨1, 0, 0, (-1)⟩ : S37), (⟨a1, a1⟩ : S39)⟩ : S41), (⟨(⟨(-1), 0, 0, (-1)⟩ : S37), (⟨0, 0⟩ : S39)⟩ : S41)] : List (S41))), true)) else (if a0.toList = ([99, 109, 109] : List UInt8) then (some (0, (([(⟨(⟨0, 1, 1, 0⟩ : S37), (⟨0, 0⟩ : S39)⟩ : S41), (⟨(⟨(-1), 0, 0, (-1)⟩ : S37), (⟨0, 0⟩ : S39)⟩ : S41)] : List (S41))), true)) else (if a0.toList = ([112, 52] : List UInt8) then (some (0, (([(⟨(⟨0, (-1), 1, 0⟩ : S37), (⟨0, 0⟩ : S39)⟩ : S41)] : List (S41))), true)) else (if a0.toList = ([112, 52, 109] : List UInt8) then (some (0, (([(⟨(⟨0, (-1), 1, 0⟩ : S37), (⟨0, 0⟩ : S39)⟩ : S41), (⟨(⟨1, 0, 0, (-1)⟩ : S37), (⟨0, 0⟩ : S39)⟩ : S41)] : List (S41))), true)) else (if a0.toList = ([112, 52, 103] : List UInt8) then (some (0, (([(⟨(⟨0, (-1), 1, 0⟩ : S37), (⟨0, 0⟩ : S39)⟩ : S41), (⟨(⟨1, 0, 0, (-1)⟩ : S37), (⟨a1, a1⟩ : S39)⟩ : S41)] : List (S41))), true)) else (if a0.toList = ([112, 51] : List UInt8) then (some (1, (([(⟨(⟨(-1), (-1), 1, 0⟩ : S37), (⟨0, 0⟩ : S39)⟩ : S41)] : List (S41))), true)) else (if a0.toList = ([112, 51, 109, 49] : List UInt8) then (some (1, (([(⟨(⟨(-1), (-1), 1, 0⟩ : S37), (⟨0, 0⟩ : S39)⟩ : S41), (⟨(⟨0, 1, 1, 0⟩ : S37), (⟨0, 0⟩ : S39)⟩ : S41)] : List (S41))), true)) else (if a0.toList = ([112, 51, 49, 109] : List UInt8) then (some (1, (([(⟨(⟨(-1), (-1), 1, 0⟩ : S37), (⟨0, 0⟩ : S39)⟩ : S41), (⟨(⟨1, 1, 0, (-1)⟩ : S37), (⟨0, 0⟩ : S39)⟩ : S41)] : List (S41))), true)) else (if a0.toList = ([112, 54] : List UInt8) then (some (1, (([(⟨(⟨0, (-1), 1, 1⟩ : S37), (⟨0, 0⟩ : S39)⟩ : S41)] : List (S41))), true)) else (if a0.toList = ([112, 54, 109] : List UInt8) then (some (1, (([(⟨(⟨0, (-1), 1, 1⟩ : S37), (⟨0, 0⟩ : S39)⟩ : S41), (⟨(⟨0, 1, 1, 0⟩ : S37), (⟨0, 0⟩ : S39)⟩ : S41)] : List (S41))), true)) else (some (0, ([] : List (S41)), false))))))))))))))))))
set_option maxHeartbeats 8000000 in
set_option maxRecDepth 100000 in
theorem impl_standardMotions.calls (a0 : ByteArray) (a1 : Int) (r1 : Int) (r2 : List (S41)) (r3 : Bool) (w : World) (h : impl_standardMotions.f a0 a1 = some (r1, r2, r3)) :
  Calls Try.prog 13 #[.string a0, .int .i64 a1] w fun e w' => ∃ v1_ : Value, e = .returned (.tuple #[.int .i64 r1, v1_, .bool r3]) ∧ Kd.R k41 41 w' w.heap.size (fun _ => True) v1_ r2 ∧ Below w.heap.size w w' := by
 have hu39 := Try.underlying39
 have hu37 := Try.underlying37
 have hu41 := Try.underlying41
 have HB := asd (Below.refl w.heap.size w)
 have H : (if a0.toList = ([112, 49] : List UInt8) then (some (0, ([] : List (S41)), true)) else (if a0.toList = ([112, 50] : List UInt8) then (some (0, (([(⟨(⟨(-1), 0, 0, (-1)⟩ : S37), (⟨0, 0⟩ : S39)⟩ : S41)] : List (S41))), true)) else (if a0.toList = ([112, 109] : List UInt8) then (some (0, (([(⟨(⟨1, 0, 0, (-1)⟩ : S37), (⟨0, 0⟩ : S39)⟩ : S41)] : List (S41))), true)) else (if a0.toList = ([112, 103] : List UInt8) then (some (0, (([(⟨(⟨1, 0, 0, (-1)⟩ : S37), (⟨a1, 0⟩ : S39)⟩ : S41)] : List (S41))), true)) else (if a0.toList = ([99, 109] : List UInt8) then (some (0, (([(⟨(⟨0, 1, 1, 0⟩ : S37), (⟨0, 0⟩ : S39)⟩ : S41)] : List (S41))), true)) else (if a0.toList = ([112, 109, 109] : List UInt8) then (some (0, (([(⟨(⟨1, 0, 0, (-1)⟩ : S37), (⟨0, 0⟩ : S39)⟩ : S41), (⟨(⟨(-1), 0, 0, (-1)⟩ : S37), (⟨0, 0⟩ : S39)⟩ : S41)] : List (S41))), true)) else (if a0.toList = ([112, 109, 103] : List UInt8) then (some (0, (([(⟨(⟨1, 0, 0, (-1)⟩ : S37), (⟨a1, 0⟩ : S39)⟩ : S41), (⟨(⟨(-1), 0, 0, (-1)⟩ : S37), (⟨0, 0⟩ : S39)⟩ : S41)] : List (S41))), true)) else (if a0.toList = ([112, 103, 103] : List UInt8) then (some (0, (([(⟨(⟨1, 0, 0, (-1)⟩ : S37), (⟨a1, a1⟩ : S39)⟩ : S41), (⟨(⟨(-1), 0, 0, (-1)⟩ : S37), (⟨0, 0⟩ : S39)⟩ : S41)] : List (S41))), true)) else (if a0.toList = ([99, 109, 109] : List UInt8) then (some (0, (([(⟨(⟨0, 1, 1, 0⟩ : S37), (⟨0, 0⟩ : S39)⟩ : S41), (⟨(⟨(-1), 0, 0, (-1)⟩ : S37), (⟨0, 0⟩ : S39)⟩ : S41)] : List (S41))), true)) else (if a0.toList = ([112, 52] : List UInt8) then (some (0, (([(⟨(⟨0, (-1), 1, 0⟩ : S37), (⟨0, 0⟩ : S39)⟩ : S41)] : List (S41))), true)) else (if a0.toList = ([112, 52, 109] : List UInt8) then (some (0, (([(⟨(⟨0, (-1), 1, 0⟩ : S37), (⟨0, 0⟩ : S39)⟩ : S41), (⟨(⟨1, 0, 0, (-1)⟩ : S37), (⟨0, 0⟩ : S39)⟩ : S41)] : List (S41))), true)) else (if a0.toList = ([112, 52, 103] : List UInt8) then (some (0, (([(⟨(⟨0, (-1), 1, 0⟩ : S37), (⟨0, 0⟩ : S39)⟩ : S41), (⟨(⟨1, 0, 0, (-1)⟩ : S37), (⟨a1, a1⟩ : S39)⟩ : S41)] : List (S41))), true)) else (if a0.toList = ([112, 51] : List UInt8) then (some (1, (([(⟨(⟨(-1), (-1), 1, 0⟩ : S37), (⟨0, 0⟩ : S39)⟩ : S41)] : List (S41))), true)) else (if a0.toList = ([112, 51, 109, 49] : List UInt8) then (some (1, (([(⟨(⟨(-1), (-1), 1, 0⟩ : S37), (⟨0, 0⟩ : S39)⟩ : S41), (⟨(⟨0, 1, 1, 0⟩ : S37), (⟨0, 0⟩ : S39)⟩ : S41)] : List (S41))), true)) else (if a0.toList = ([112, 51, 49, 109] : List UInt8) then (some (1, (([(⟨(⟨(-1), (-1), 1, 0⟩ : S37), (⟨0, 0⟩ : S39)⟩ : S41), (⟨(⟨1, 1, 0, (-1)⟩ : S37), (⟨0, 0⟩ : S39)⟩ : S41)] : List (S41))), true)) else (if a0.toList = ([112, 54] : List UInt8) then (some (1, (([(⟨(⟨0, (-1), 1, 1⟩ : S37), (⟨0, 0⟩ : S39)⟩ : S41)] : List (S41))), true)) else (if a0.toList = ([112, 54, 109] : List UInt8) then (some (1, (([(⟨(⟨0, (-1), 1, 1⟩ : S37), (⟨0, 0⟩ : S39)⟩ : S41), (⟨(⟨0, 1, 1, 0⟩ : S37), (⟨0, 0⟩ : S39)⟩ : S41)] : List (S41))), true)) else (some (0, ([] : List (S41)), false))))))))))))))))))) = some (r1, r2, r3) := h
 clear h
 have HP_ := Aside0.mk H
 clear H
 go_enter Try.func13, Try.ntmps13
 go_upto_block 0 with (first | ((with_reducible refine gd 7 rfl ?_); refine bx #[.int .i64 0, .int .i64 0] 39 ?_; intro gb274 hg w584 BK274 hb; have GE274 := ngw0 hg HB; replace HB := bS0 HB hb; clear hb hg) | ((with_reducible refine gd 8 rfl ?_); refine bx #[.int .i64 0, .int .i64 0] 39 ?_; intro gb275 hg w585 BK275 hb; have GE275 := ngw1 hg HB GE274; replace HB := bS1 HB GE274 hb; have NB274_275 := nlt hg BK274; have NB275_274 := nsy (nlt hg BK274); replace BK274 := bB BK274 hb; clear hb hg; have hnb586 := NB274_275.out; have hnc586 := NB275_274.out; obtain ⟨hcz587_0, hcz587_1, hfz587_0, hfz587_1⟩ := bz2 BK274; obtain ⟨hcz588_0, hcz588_1, hfz588_0, hfz588_1⟩ := bz2 BK275) | ((with_reducible refine gd 9 rfl ?_); refine bx #[.int .i64 0, .int .i64 0, .int .i64 0, .int .i64 0, .int .i64 0, .int .i64 0] 41 ?_; intro gb276 hg w589 BK276 hb; have GE276 := ngw2 hg HB GE274 GE275; replace HB := bS2 HB GE274 GE275 hb; have NB274_276 := asd ((by rw [hg]; exact Nat.ne_of_lt (blk_lt (g := gb274) (o := .cells #[.int .i64 a1, .int .i64 0] 39 (0, 0)) (bq1 BK274 NB274_275)) : gb274 ≠ gb276)); have NB276_274 := asd ((by rw [hg]; exact Nat.ne_of_gt (blk_lt (g := gb274) (o := .cells #[.int .i64 a1, .int .i64 0] 39 (0, 0)) (bq1 BK274 NB274_275)) : gb276 ≠ gb274)); replace BK274 := asd (blk_below (g := gb274) (o := .cells #[.int .i64 a1, .int .i64 0] 39 (0, 0)) (bq1 BK274 NB274_275) hb); have NB275_276 := asd ((by rw [hg]; exact Nat.ne_of_lt (blk_lt (g := gb275) (o := .cells #[.int .i64 a1, .int .i64 a1] 39 (0, 0)) (bq1 BK275 NB275_274)) : gb275 ≠ gb276)); have NB276_275 := asd ((by rw [hg]; exact Nat.ne_of_gt (blk_lt (g := gb275) (o := .cells #[.int .i64 a1, .int .i64 a1] 39 (0, 0)) (bq1 BK275 NB275_274)) : gb276 ≠ gb275)); replace BK275 := asd (blk_below (g := gb275) (o := .cells #[.int .i64 a1, .int .i64 a1] 39 (0, 0)) (bq1 BK275 NB275_274) hb); clear hb hg; have hnb590 := NB276_274.out; have hnc590 := NB274_276.out; have hnb591 := NB276_275.out; have hnc591 := NB275_276.out; obtain ⟨hcz592_0, hcz592_1, hcz592_2, hcz592_3, hcz592_4, hcz592_5, hfz592_0, hfz592_1, hfz592_2, hfz592_3, hfz592_4, hfz592_5⟩ := bz6 BK276) | ((with_reducible refine gd 10 rfl ?_); refine bx #[.int .i64 0, .int .i64 0, .int .i64 0, .int .i64 0] 37 ?_; intro gb277 hg w593 BK277 hb; have GE277 := ngw3 hg HB GE274 GE275 GE276; replace HB := bS3 HB GE274 GE275 GE276 hb; have NB274_277 := asd ((by rw [hg]; exact Nat.ne_of_lt (blk_lt (g := gb274) (o := .cells #[.int .i64 a1, .int .i64 0] 39 (0, 0)) (bq1 BK274 NB274_276)) : gb274 ≠ gb277)); have NB277_274 := asd ((by rw [hg]; exact Nat.ne_of_gt (blk_lt (g := gb274) (o := .cells #[.int .i64 a1, .int .i64 0] 39 (0, 0)) (bq1 BK274 NB274_276)) : gb277 ≠ gb274)); replace BK274 := asd (blk_below (g := gb274) (o := .cells #[.int .i64 a1, .int .i64 0] 39 (0, 0)) (bq1 BK274 NB274_276) hb); have NB275_277 := asd ((by rw [hg]; exact Nat.ne_of_lt (blk_lt (g := gb275) (o := .cells #[.int .i64 a1, .int .i64 a1] 39 (0, 0)) (bq1 BK275 NB275_276)) : gb275 ≠ gb277)); have NB277_275 := asd ((by rw [hg]; exact Nat.ne_of_gt (blk_lt (g := gb275) (o := .cells #[.int .i64 a1, .int .i64 a1] 39 (0, 0)) (bq1 BK275 NB275_276)) : gb277 ≠ gb275)); replace BK275 := asd (blk_below (g := gb275) (o := .cells #[.int .i64 a1, .int .i64 a1] 39 (0, 0)) (bq1 BK275 NB275_276) hb); have NB276_277 := asd ((by rw [hg]; exact Nat.ne_of_lt (blk_lt (g := gb276) (o := .cells #[.int .i64 (-1), .int .i64 0, .int .i64 0, .int .i64 (-1), .int .i64 0, .int .i64 0] 41 (0, 0)) (bq0 BK276)) : gb276 ≠ gb277)); have NB277_276 := asd ((by rw [hg]; exact Nat.ne_of_gt (blk_lt (g := gb276) (o := .cells #[.int .i64 (-1), .int .i64 0, .int .i64 0, .int .i64 (-1), .int .i64 0, .int .i64 0] 41 (0, 0)) (bq0 BK276)) : gb277 ≠ gb276)); replace BK276 := asd (blk_below (g := gb276) (o := .cells #[.int .i64 (-1), .int .i64 0, .int .i64 0, .int .i64 (-1), .int .i64 0, .int .i64 0] 41 (0, 0)) (bq0 BK276) hb); clear hb hg) | ((with_reducible refine gd 11 rfl ?_); refine bx #[.int .i64 0, .int .i64 0, .int .i64 0, .int .i64 0] 37 ?_; intro gb278 hg w594 BK278 hb; have GE278 := ngw4 hg HB GE274 GE275 GE276 GE277; replace HB := bS4 HB GE274 GE275 GE276 GE277 hb; have NB274_278 := nlt hg BK274; have NB278_274 := nsy (nlt hg BK274); replace BK274 := bB BK274 hb; have NB275_278 := nlt hg BK275; have NB278_275 := nsy (nlt hg BK275); replace BK275 := bB BK275 hb; have NB276_278 := nlt hg BK276; have NB278_276 := nsy (nlt hg BK276); replace BK276 := bB BK276 hb; have NB277_278 := nlt hg BK277; have NB278_277 := nsy (nlt hg BK277); replace BK277 := bB BK277 hb; clear hb hg; have hnb595 := NB277_274.out; have hnc595 := NB274_277.out; have hnb596 := NB277_275.out; have hnc596 := NB275_277.out; have hnb597 := NB277_276.out; have hnc597 := NB276_277.out; have hnb598 := NB277_278.out; have hnc598 := NB278_277.out; obtain ⟨hcz599_0, hcz599_1, hcz599_2, hcz599_3, hfz599_0, hfz599_1, hfz599_2, hfz599_3⟩ := bz4 BK277; have hnb600 := NB278_274.out; have hnc600 := NB274_278.out; have hnb601 := NB278_275.out; have hnc601 := NB275_278.out; have hnb602 := NB278_276.out; have hnc602 := NB276_278.out; obtain ⟨hcz603_0, hcz603_1, hcz603_2, hcz603_3, hfz603_0, hfz603_1, hfz603_2, hfz603_3⟩ := bz4 BK278) | ((with_reducible refine gd 12 rfl ?_); refine bx #[.int .i64 0, .int .i64 0, .int .i64 0, .int .i64 0, .int .i64 0, .int .i64 0] 41 ?_; intro gb279 hg w604 BK279 hb; have GW279 := asd ((by rw [hg]; exact (below_size (by repeat (first | (with_reducible first | exact HB.out | apply below_alloc | apply pw_below_drewN | apply below_drew1 | refine below_set ?_ GE274.out | refine below_set ?_ GE275.out | refine below_set ?_ GE276.out | refine below_set ?_ GE277.out | refine below_set ?_ GE278.out) | exact HB.out))) : w.heap.size ≤ gb279)); have GE279 := asd ((by rw [hg]; exact (below_size (by repeat (first | (with_reducible first | exact HB.out | apply below_alloc | apply pw_below_drewN | apply below_drew1 | refine below_set ?_ GE274.out | refine below_set ?_ GE275.out | refine below_set ?_ GE276.out | refine below_set ?_ GE277.out | refine below_set ?_ GE278.out) | exact HB.out))) : w.heap.size ≤ gb279)); replace HB := asd (below_step (by repeat (first | (with_reducible first | exact HB.out | apply below_alloc | apply pw_below_drewN | apply below_drew1 | refine below_set ?_ GE274.out | refine below_set ?_ GE275.out | refine below_set ?_ GE276.out | refine below_set ?_ GE277.out | refine below_set ?_ GE278.out) | exact HB.out)) hb); have NB274_279 := asd ((by rw [hg]; exact Nat.ne_of_lt (blk_lt (g := gb274) (o := .cells #[.int .i64 a1, .int .i64 0] 39 (0, 0)) (bq2 BK274 NB274_278 NB274_277)) : gb274 ≠ gb279)); have NB279_274 := asd ((by rw [hg]; exact Nat.ne_of_gt (blk_lt (g := gb274) (o := .cells #[.int .i64 a1, .int .i64 0] 39 (0, 0)) (bq2 BK274 NB274_278 NB274_277)) : gb279 ≠ gb274)); replace BK274 := asd (blk_below (g := gb274) (o := .cells #[.int .i64 a1, .int .i64 0] 39 (0, 0)) (bq2 BK274 NB274_278 NB274_277) hb); have NB275_279 := asd ((by rw [hg]; exact Nat.ne_of_lt (blk_lt (g := gb275) (o := .cells #[.int .i64 a1, .int .i64 a1] 39 (0, 0)) (bq2 BK275 NB275_278 NB275_277)) : gb275 ≠ gb279)); have NB279_275 := asd ((by rw [hg]; exact Nat.ne_of_gt (blk_lt (g := gb275) (o := .cells #[.int .i64 a1, .int .i64 a1] 39 (0, 0)) (bq2 BK275 NB275_278 NB275_277)) : gb279 ≠ gb275)); replace BK275 := asd (blk_below (g := gb275) (o := .cells #[.int .i64 a1, .int .i64 a1] 39 (0, 0)) (bq2 BK275 NB275_278 NB275_277) hb); have NB276_279 := asd ((by rw [hg]; exact Nat.ne_of_lt (blk_lt (g := gb276) (o := .cells #[.int .i64 (-1), .int .i64 0, .int .i64 0, .int .i64 (-1), .int .i64 0, .int .i64 0] 41 (0, 0)) (bq2 BK276 NB276_278 NB276_277)) : gb276 ≠ gb279)); have NB279_276 := asd ((by rw [hg]; exact Nat.ne_of_gt (blk_lt (g := gb276) (o := .cells #[.int .i64 (-1), .int .i64 0, .int .i64 0, .int .i64 (-1), .int .i64 0, .int .i64 0] 41 (0, 0)) (bq2 BK276 NB276_278 NB276_277)) : gb279 ≠ gb276)); replace BK276 := asd (blk_below (g := gb276) (o := .cells #[.int .i64 (-1), .int .i64 0, .int .i64 0, .int .i64 (-1), .int .i64 0, .int .i64 0] 41 (0, 0)) (bq2 BK276 NB276_278 NB276_277) hb); have NB277_279 := asd ((by rw [hg]; exact Nat.ne_of_lt (blk_lt (g := gb277) (o := .cells #[.int .i64 1, .int .i64 0, .int .i64 0, .int .i64 (-1)] 37 (0, 0)) (bq1 BK277 NB277_278)) : gb277 ≠ gb279)); have NB279_277 := asd ((by rw [hg]; exact Nat.ne_of_gt (blk_lt (g := gb277) (o := .cells #[.int .i64 1, .int .i64 0, .int .i64 0, .int .i64 (-1)] 37 (0, 0)) (bq1 BK277 NB277_278)) : gb279 ≠ gb277)); replace BK277 := asd (blk_below (g := gb277) (o := .cells #[.int .i64 1, .int .i64 0, .int .i64 0, .int .i64 (-1)] 37 (0, 0)) (bq1 BK277 NB277_278) hb); have NB278_279 := asd ((by rw [hg]; exact Nat.ne_of_lt (blk_lt (g := gb278) (o := .cells #[.int .i64 0, .int .i64 1, .int .i64 1, .int .i64 0] 37 (0, 0)) (bq1 BK278 NB278_277)) : gb278 ≠ gb279)); have NB279_278 := asd ((by rw [hg]; exact Nat.ne_of_gt (blk_lt (g := gb278) (o := .cells #[.int .i64 0, .int .i64 1, .int .i64 1, .int .i64 0] 37 (0, 0)) (bq1 BK278 NB278_277)) : gb279 ≠ gb278)); replace BK278 := asd (blk_below (g := gb278) (o := .cells #[.int .i64 0, .int .i64 1, .int .i64 1, .int .i64 0] 37 (0, 0)) (bq1 BK278 NB278_277) hb); clear hb hg) | ((with_reducible refine gd 13 rfl ?_); refine bx #[.int .i64 0, .int .i64 0, .int .i64 0, .int .i64 0, .int .i64 0, .int .i64 0] 41 ?_; intro gb280 hg w605 BK280 hb; have GW280 := asd ((by rw [hg]; exact (below_size (by repeat (first | (with_reducible first | exact HB.out | apply below_alloc | apply pw_below_drewN | apply below_drew1 | refine below_set ?_ GE274.out | refine below_set ?_ GE275.out | refine below_set ?_ GE276.out | refine below_set ?_ GE277.out | refine below_set ?_ GE278.out | refine below_set ?_ GE279.out) | exact HB.out))) : w.heap.size ≤ gb280)); have GE280 := asd ((by rw [hg]; exact (below_size (by repeat (first | (with_reducible first | exact HB.out | apply below_alloc | apply pw_below_drewN | apply below_drew1 | refine below_set ?_ GE274.out | refine below_set ?_ GE275.out | refine below_set ?_ GE276.out | refine below_set ?_ GE277.out | refine below_set ?_ GE278.out | refine below_set ?_ GE279.out) | exact HB.out))) : w.heap.size ≤ gb280)); replace HB := asd (below_step (by repeat (first | (with_reducible first | exact HB.out | apply below_alloc | apply pw_below_drewN | apply below_drew1 | refine below_set ?_ GE274.out | refine below_set ?_ GE275.out | refine below_set ?_ GE276.out | refine below_set ?_ GE277.out | refine below_set ?_ GE278.out | refine below_set ?_ GE279.out) | exact HB.out)) hb); have NB274_280 := nlt hg BK274; have NB280_274 := nsy (nlt hg BK274); replace BK274 := bB BK274 hb; have NB275_280 := nlt hg BK275; have NB280_275 := nsy (nlt hg BK275); replace BK275 := bB BK275 hb; have NB276_280 := nlt hg BK276; have NB280_276 := nsy (nlt hg BK276); replace BK276 := bB BK276 hb; have NB277_280 := nlt hg BK277; have NB280_277 := nsy (nlt hg BK277); replace BK277 := bB BK277 hb; have NB278_280 := nlt hg BK278; have NB280_278 := nsy (nlt hg BK278); replace BK278 := bB BK278 hb; have NB279_280 := nlt hg BK279; have NB280_279 := nsy (nlt hg BK279); replace BK279 := bB BK279 hb; clear hb hg) | ((with_reducible refine gd 14 rfl ?_); refine bx #[.int .i64 0, .int .i64 0, .int .i64 0, .int .i64 0, .int .i64 0, .int .i64 0] 41 ?_; intro gb281 hg w606 BK281 hb; have GW281 := asd ((by rw [hg]; exact (below_size (by repeat (first | (with_reducible first | exact HB.out | apply below_alloc | apply pw_below_drewN | apply below_drew1 | refine below_set ?_ GE274.out | refine below_set ?_ GE275.out | refine below_set ?_ GE276.out | refine below_set ?_ GE277.out | refine below_set ?_ GE278.out | refine below_set ?_ GE279.out | refine below_set ?_ GE280.out) | exact HB.out))) : w.heap.size ≤ gb281)); have GE281 := asd ((by rw [hg]; exact (below_size (by repeat (first | (with_reducible first | exact HB.out | apply below_alloc | apply pw_below_drewN | apply below_drew1 | refine below_set ?_ GE274.out | refine below_set ?_ GE275.out | refine below_set ?_ GE276.out | refine below_set ?_ GE277.out | refine below_set ?_ GE278.out | refine below_set ?_ GE279.out | refine below_set ?_ GE280.out) | exact HB.out))) : w.heap.size ≤ gb281)); replace HB := asd (below_step (by repeat (first | (with_reducible first | exact HB.out | apply below_alloc | apply pw_below_drewN | apply below_drew1 | refine below_set ?_ GE274.out | refine below_set ?_ GE275.out | refine below_set ?_ GE276.out | refine below_set ?_ GE277.out | refine below_set ?_ GE278.out | refine below_set ?_ GE279.out | refine below_set ?_ GE280.out) | exact HB.out)) hb); have NB274_281 := nlt hg BK274; have NB281_274 := nsy (nlt hg BK274); replace BK274 := bB BK274 hb; have NB275_281 := nlt hg BK275; have NB281_275 := nsy (nlt hg BK275); replace BK275 := bB BK275 hb; have NB276_281 := nlt hg BK276; have NB281_276 := nsy (nlt hg BK276); replace BK276 := bB BK276 hb; have NB277_281 := nlt hg BK277; have NB281_277 := nsy (nlt hg BK277); replace BK277 := bB BK277 hb; have NB278_281 := nlt hg BK278; have NB281_278 := nsy (nlt hg BK278); replace BK278 := bB BK278 hb; have NB279_281 := nlt hg BK279; have NB281_279 := nsy (nlt hg BK279); replace BK279 := bB BK279 hb; have NB280_281 := nlt hg BK280; have NB281_280 := nsy (nlt hg BK280); replace BK280 := bB BK280 hb; clear hb hg; have hnb607 := NB279_274.out; have hnc607 := NB274_279.out; have hnb608 := NB279_275.out; have hnc608 := NB275_279.out; have hnb609 := NB279_276.out; have hnc609 := NB276_279.out; have hnb610 := NB279_277.out; have hnc610 := NB277_279.out; have hnb611 := NB279_278.out; have hnc611 := NB278_279.out; have hnb612 := NB279_280.out; have hnc612 := NB280_279.out; have hnb613 := NB279_281.out; have hnc613 := NB281_279.out; obtain ⟨hcz614_0, hcz614_1, hcz614_2, hcz614_3, hcz614_4, hcz614_5, hfz614_0, hfz614_1, hfz614_2, hfz614_3, hfz614_4, hfz614_5⟩ := bz6 BK279; have hnb615 := NB280_274.out; have hnc615 := NB274_280.out; have hnb616 := NB280_275.out; have hnc616 := NB275_280.out; have hnb617 := NB280_276.out; have hnc617 := NB276_280.out; have hnb618 := NB280_277.out; have hnc618 := NB277_280.out; have hnb619 := NB280_278.out; have hnc619 := NB278_280.out; have hnb620 := NB280_281.out; have hnc620 := NB281_280.out; obtain ⟨hcz621_0, hcz621_1, hcz621_2, hcz621_3, hcz621_4, hcz621_5, hfz621_0, hfz621_1, hfz621_2, hfz621_3, hfz621_4, hfz621_5⟩ := bz6 BK280; have hnb622 := NB281_274.out; have hnc622 := NB274_281.out; have hnb623 := NB281_275.out; have hnc623 := NB275_281.out; have hnb624 := NB281_276.out; have hnc624 := NB276_281.out; have hnb625 := NB281_277.out; have hnc625 := NB277_281.out; have hnb626 := NB281_278.out; have hnc626 := NB278_281.out; obtain ⟨hcz627_0, hcz627_1, hcz627_2, hcz627_3, hcz627_4, hcz627_5, hfz627_0, hfz627_1, hfz627_2, hfz627_3, hfz627_4, hfz627_5⟩ := bz6 BK281))
 obtain ⟨w628, h_w628⟩ : ∃ w_, ((((((((((((((((((w606.setCell ⟨gb279, 0, none⟩ (.int .i64 0)).setCell ⟨gb279, 1, none⟩ (.int .i64 (-1))).setCell ⟨gb279, 2, none⟩ (.int .i64 1)).setCell ⟨gb279, 3, none⟩ (.int .i64 0)).setCell ⟨gb279, 4, none⟩ (.int .i64 0)).setCell ⟨gb279, 5, none⟩ (.int .i64 0)).setCell ⟨gb280, 0, none⟩ (.int .i64 (-1))).setCell ⟨gb280, 1, none⟩ (.int .i64 (-1))).setCell ⟨gb280, 2, none⟩ (.int .i64 1)).setCell ⟨gb280, 3, none⟩ (.int .i64 0)).setCell ⟨gb280, 4, none⟩ (.int .i64 0)).setCell ⟨gb280, 5, none⟩ (.int .i64 0)).setCell ⟨gb281, 0, none⟩ (.int .i64 0)).setCell ⟨gb281, 1, none⟩ (.int .i64 (-1))).setCell ⟨gb281, 2, none⟩ (.int .i64 1)).setCell ⟨gb281, 3, none⟩ (.int .i64 1)).setCell ⟨gb281, 4, none⟩ (.int .i64 0)).setCell ⟨gb281, 5, none⟩ (.int .i64 0)) = w_ := ⟨_, rfl⟩
 replace BK274 : Aside0 (w628.heap[gb274]? = some (.cells #[.int .i64 a1, .int .i64 0] 39 (0, 0))) := by rw [← h_w628]; exact ⟨bq3 BK274 NB274_281 NB274_280 NB274_279⟩
 replace BK275 : Aside0 (w628.heap[gb275]? = some (.cells #[.int .i64 a1, .int .i64 a1] 39 (0, 0))) := by rw [← h_w628]; exact ⟨bq3 BK275 NB275_281 NB275_280 NB275_279⟩
 replace BK276 : Aside0 (w628.heap[gb276]? = some (.cells #[.int .i64 (-1), .int .i64 0, .int .i64 0, .int .i64 (-1), .int .i64 0, .int .i64 0] 41 (0, 0))) := by rw [← h_w628]; exact ⟨bq3 BK276 NB276_281 NB276_280 NB276_279⟩
 replace BK277 : Aside0 (w628.heap[gb277]? = some (.cells #[.int .i64 1, .int .i64 0, .int .i64 0, .int .i64 (-1)] 37 (0, 0))) := by rw [← h_w628]; exact ⟨bq3 BK277 NB277_281 NB277_280 NB277_279⟩
 replace BK278 : Aside0 (w628.heap[gb278]? = some (.cells #[.int .i64 0, .int .i64 1, .int .i64 1, .int .i64 0] 37 (0, 0))) := by rw [← h_w628]; exact ⟨bq3 BK278 NB278_281 NB278_280 NB278_279⟩
 replace BK279 : Aside0 (w628.heap[gb279]? = some (.cells #[.int .i64 0, .int .i64 (-1), .int .i64 1, .int .i64 0, .int .i64 0, .int .i64 0] 41 (0, 0))) := by rw [← h_w628]; exact ⟨bq2 BK279 NB279_281 NB279_280⟩
 replace BK280 : Aside0 (w628.heap[gb280]? = some (.cells #[.int .i64 (-1), .int .i64 (-1), .int .i64 1, .int .i64 0, .int .i64 0, .int .i64 0] 41 (0, 0))) := by rw [← h_w628]; exact ⟨bq2 BK280 NB280_281 NB280_279⟩
 replace BK281 : Aside0 (w628.heap[gb281]? = some (.cells #[.int .i64 0, .int .i64 (-1), .int .i64 1, .int .i64 1, .int .i64 0, .int .i64 0] 41 (0, 0))) := by rw [← h_w628]; exact ⟨bq2 BK281 NB281_280 NB281_279⟩
 replace HB : Aside0 (Below w.heap.size w w628) := by rw [← h_w628]; exact ⟨by repeat (first | (with_reducible first | exact HB.out | apply below_alloc | apply pw_below_drewN | apply below_drew1 | refine below_set ?_ GE274.out | refine below_set ?_ GE275.out | refine below_set ?_ GE276.out | refine below_set ?_ GE277.out | refine below_set ?_ GE278.out | refine below_set ?_ GE279.out | refine below_set ?_ GE280.out | refine below_set ?_ GE281.out) | exact HB.out)⟩
 (try rw [h_w628]); clear h_w628
 have hP274_0 : w628.cell? ⟨gb274, 0, none⟩ = some (.int .i64 a1) := bcl BK274 0
 have hQ274_0 := blk_frozen BK274.out 0
 have hP274_1 : w628.cell? ⟨gb274, 1, none⟩ = some (.int .i64 0) := bcl BK274 1
 have hQ274_1 := blk_frozen BK274.out 1
 have hP275_0 : w628.cell? ⟨gb275, 0, none⟩ = some (.int .i64 a1) := bcl BK275 0
 have hQ275_0 := blk_frozen BK275.out 0
 have hP275_1 : w628.cell? ⟨gb275, 1, none⟩ = some (.int .i64 a1) := bcl BK275 1
 have hQ275_1 := blk_frozen BK275.out 1
 have hP276_0 : w628.cell? ⟨gb276, 0, none⟩ = some (.int .i64 (-1)) := bcl BK276 0
 have hQ276_0 := blk_frozen BK276.out 0
 have hP276_1 : w628.cell? ⟨gb276, 1, none⟩ = some (.int .i64 0) := bcl BK276 1
 have hQ276_1 := blk_frozen BK276.out 1
 have hP276_2 : w628.cell? ⟨gb276, 2, none⟩ = some (.int .i64 0) := bcl BK276 2
 have hQ276_2 := blk_frozen BK276.out 2
 have hP276_3 : w628.cell? ⟨gb276, 3, none⟩ = some (.int .i64 (-1)) := bcl BK276 3
 have hQ276_3 := blk_frozen BK276.out 3
 have hP276_4 : w628.cell? ⟨gb276, 4, none⟩ = some (.int .i64 0) := bcl BK276 4
 have hQ276_4 := blk_frozen BK276.out 4
 have hP276_5 : w628.cell? ⟨gb276, 5, none⟩ = some (.int .i64 0) := bcl BK276 5
 have hQ276_5 := blk_frozen BK276.out 5
 have hP277_0 : w628.cell? ⟨gb277, 0, none⟩ = some (.int .i64 1) := bcl BK277 0
 have hQ277_0 := blk_frozen BK277.out 0
 have hP277_1 : w628.cell? ⟨gb277, 1, none⟩ = some (.int .i64 0) := bcl BK277 1
 have hQ277_1 := blk_frozen BK277.out 1
 have hP277_2 : w628.cell? ⟨gb277, 2, none⟩ = some (.int .i64 0) := bcl BK277 2
 have hQ277_2 := blk_frozen BK277.out 2
 have hP277_3 : w628.cell? ⟨gb277, 3, none⟩ = some (.int .i64 (-1)) := bcl BK277 3
 have hQ277_3 := blk_frozen BK277.out 3
 have hP278_0 : w628.cell? ⟨gb278, 0, none⟩ = some (.int .i64 0) := bcl BK278 0
 have hQ278_0 := blk_frozen BK278.out 0
 have hP278_1 : w628.cell? ⟨gb278, 1, none⟩ = some (.int .i64 1) := bcl BK278 1
 have hQ278_1 := blk_frozen BK278.out 1
 have hP278_2 : w628.cell? ⟨gb278, 2, none⟩ = some (.int .i64 1) := bcl BK278 2
 have hQ278_2 := blk_frozen BK278.out 2
 have hP278_3 : w628.cell? ⟨gb278, 3, none⟩ = some (.int .i64 0) := bcl BK278 3
 have hQ278_3 := blk_frozen BK278.out 3
 have hP279_0 : w628.cell? ⟨gb279, 0, none⟩ = some (.int .i64 0) := bcl BK279 0
 have hQ279_0 := blk_frozen BK279.out 0
 have hP279_1 : w628.cell? ⟨gb279, 1, none⟩ = some (.int .i64 (-1)) := bcl BK279 1
 have hQ279_1 := blk_frozen BK279.out 1
 have hP279_2 : w628.cell? ⟨gb279, 2, none⟩ = some (.int .i64 1) := bcl BK279 2
 have hQ279_2 := blk_frozen BK279.out 2
 have hP279_3 : w628.cell? ⟨gb279, 3, none⟩ = some (.int .i64 0) := bcl BK279 3
 have hQ279_3 := blk_frozen BK279.out 3
 have hP279_4 : w628.cell? ⟨gb279, 4, none⟩ = some (.int .i64 0) := bcl BK279 4
 have hQ279_4 := blk_frozen BK279.out 4
 have hP279_5 : w628.cell? ⟨gb279, 5, none⟩ = some (.int .i64 0) := bcl BK279 5
 have hQ279_5 := blk_frozen BK279.out 5
 have hP280_0 : w628.cell? ⟨gb280, 0, none⟩ = some (.int .i64 (-1)) := bcl BK280 0
 have hQ280_0 := blk_frozen BK280.out 0
 have hP280_1 : w628.cell? ⟨gb280, 1, none⟩ = some (.int .i64 (-1)) := bcl BK280 1
 have hQ280_1 := blk_frozen BK280.out 1
 have hP280_2 : w628.cell? ⟨gb280, 2, none⟩ = some (.int .i64 1) := bcl BK280 2
 have hQ280_2 := blk_frozen BK280.out 2
 have hP280_3 : w628.cell? ⟨gb280, 3, none⟩ = some (.int .i64 0) := bcl BK280 3
 have hQ280_3 := blk_frozen BK280.out 3
 have hP280_4 : w628.cell? ⟨gb280, 4, none⟩ = some (.int .i64 0) := bcl BK280 4
 have hQ280_4 := blk_frozen BK280.out 4
 have hP280_5 : w628.cell? ⟨gb280, 5, none⟩ = some (.int .i64 0) := bcl BK280 5
 have hQ280_5 := blk_frozen BK280.out 5
 have hP281_0 : w628.cell? ⟨gb281, 0, none⟩ = some (.int .i64 0) := bcl BK281 0
 have hQ281_0 := blk_frozen BK281.out 0
 have hP281_1 : w628.cell? ⟨gb281, 1, none⟩ = some (.int .i64 (-1)) := bcl BK281 1
 have hQ281_1 := blk_frozen BK281.out 1
 have hP281_2 : w628.cell? ⟨gb281, 2, none⟩ = some (.int .i64 1) := bcl BK281 2
 have hQ281_2 := blk_frozen BK281.out 2
 have hP281_3 : w628.cell? ⟨gb281, 3, none⟩ = some (.int .i64 1) := bcl BK281 3
 have hQ281_3 := blk_frozen BK281.out 3
 have hP281_4 : w628.cell? ⟨gb281, 4, none⟩ = some (.int .i64 0) := bcl BK281 4
 have hQ281_4 := blk_frozen BK281.out 4
 have hP281_5 : w628.cell? ⟨gb281, 5, none⟩ = some (.int .i64 0) := bcl BK281 5
 have hQ281_5 := blk_frozen BK281.out 5
 have H := HP_.out
 clear HP_
 by_cases c3 : a0.toList = ([112, 49] : List UInt8)
 ·rw [if_pos c3] at H
  have c3b0 : (a0.toList == ([112, 49] : List UInt8)) = true := beq_iff_eq.mpr c3
  have c3b1 : (a0.toList != ([112, 49] : List UInt8)) = false := bne_eq_false_iff_eq.mpr c3
  clear c3
  simp only [Option.some.injEq, Prod.mk.injEq] at H
  obtain ⟨rfl, rfl, rfl⟩ := H
  go_wp2
  go_ret3
  exact ⟨_, by first | rfl | (simp [errW_none, errW_some] <;> rfl) | (simp [*, errW_none, errW_some] <;> rfl), by first | exact Kd.R_nil _ _ _ _ _ | exact Kd.N_nil _ _ _ _ _ | exact Kd.V_nil _ _ _ _ _ | exact Kd.Q_nil _ _ _ _ _ | exact Kd.S_nil _ _ _ _ _, by repeat (first | (with_reducible first | exact HB.out | apply below_alloc | apply pw_below_drewN | apply below_drew1 | refine below_set ?_ GE274.out | refine below_set ?_ GE275.out | refine below_set ?_ GE276.out | refine below_set ?_ GE277.out | refine below_set ?_ GE278.out | refine below_set ?_ GE279.out | refine below_set ?_ GE280.out | refine below_set ?_ GE281.out) | exact HB.out)⟩
 ·rw [if_neg c3] at H
  have c3b0 : (a0.toList == ([112, 49] : List UInt8)) = false := beq_eq_false_iff_ne.mpr c3
  have c3b1 : (a0.toList != ([112, 49] : List UInt8)) = true := bne_iff_ne.mpr c3
  by_cases c48 : a0.toList = ([112, 50] : List UInt8)
  ·rw [if_pos c48] at H
   have c48b0 : (a0.toList == ([112, 50] : List UInt8)) = true := beq_iff_eq.mpr c48
   have c48b1 : (a0.toList != ([112, 50] : List UInt8)) = false := bne_eq_false_iff_eq.mpr c48
   clear c48
   obtain ⟨y282, hy282⟩ : ∃ y_ : List (S41), y_ = (([(⟨(⟨(-1), 0, 0, (-1)⟩ : S37), (⟨0, 0⟩ : S39)⟩ : S41)] : List (S41))) := ⟨_, rfl⟩
   replace H : (some (0, y282, true)) = some (r1, r2, r3) := by first | (rw [hy282]; with_reducible exact H) | (have H2_ := (Option.bind_some _ _).symm.trans H; rw [hy282]; with_reducible exact H2_) | (have H2_ := (Option.bind_some _ _).symm.trans H; with_reducible exact H2_) | with_reducible exact H | (rw [hy282]; exact H) | exact H
   have Ny282 := Aside0.mk hy282
   clear hy282
   simp only [Option.some.injEq, Prod.mk.injEq] at H
   obtain ⟨rfl, rfl, rfl⟩ := H
   go_wp2_with (first | ((with_reducible refine gd 38 rfl ?_); refine Kd.R_lit k41 _ 41 ?hg (N := 38) ?hd (xs := ([(⟨(⟨(-1), 0, 0, (-1)⟩ : S37), (⟨0, 0⟩ : S39)⟩ : S41)] : List (S41))) (inner := [.int .i64 (-1), .int .i64 0, .int .i64 0, .int .i64 (-1), .int .i64 0, .int .i64 0]) (ok := fun _ => True) (okp := fun _ => True) ?hr ?hp (fun _ hk => hk) trivial (Below.refl _ _) (Nat.le_refl _) (by simp) ?_; (case hd => rfl); (case hg => rfl); (case hr => first | (go_simp; done) | (go_simp; rfl)); (case hp => exact (Reps.c6 (show Kd.M k41 _ _ _ (⟨(⟨(-1), 0, 0, (-1)⟩ : S37), (⟨0, 0⟩ : S39)⟩ : S41) [.int .i64 (-1), .int .i64 0, .int .i64 0, .int .i64 (-1), .int .i64 0, .int .i64 0] from (k41_mkM _ _ _ (⟨(⟨(-1), 0, 0, (-1)⟩ : S37), (⟨0, 0⟩ : S39)⟩ : S41) )) (Reps.none _ _))); intro v283 w94 ho95 hb hg_ hnew_; clear hg_ hnew_; (first | rw [← Ny282.out] at ho95 | (simp only [Int.reduceToNat] at ho95; rw [← Ny282.out] at ho95)); have HO284 := asd (Kd.R_lower ho95 (bsz0 HB)); replace HB := bS0 HB hb; clear hb ho95))
   go_ret3
   exact ⟨_, by first | rfl | (simp [errW_none, errW_some] <;> rfl) | (simp [*, errW_none, errW_some] <;> rfl), by (with_reducible repeat (first | apply Kd.R_alloc | apply Kd.R_drewN | apply Kd.R_drew)); exact Kd.R_mono HO284.out (fun _ hk => trivial), by repeat (first | (with_reducible first | exact HB.out | apply below_alloc | apply pw_below_drewN | apply below_drew1 | refine below_set ?_ GE274.out | refine below_set ?_ GE275.out | refine below_set ?_ GE276.out | refine below_set ?_ GE277.out | refine below_set ?_ GE278.out | refine below_set ?_ GE279.out | refine below_set ?_ GE280.out | refine below_set ?_ GE281.out) | exact HB.out)⟩
  ·rw [if_neg c48] at H
   have c48b0 : (a0.toList == ([112, 50] : List UInt8)) = false := beq_eq_false_iff_ne.mpr c48
   have c48b1 : (a0.toList != ([112, 50] : List UInt8)) = true := bne_iff_ne.mpr c48
   by_cases c96 : a0.toList = ([112, 109] : List UInt8)
   ·rw [if_pos c96] at H
    have c96b0 : (a0.toList == ([112, 109] : List UInt8)) = true := beq_iff_eq.mpr c96
    have c96b1 : (a0.toList != ([112, 109] : List UInt8)) = false := bne_eq_false_iff_eq.mpr c96
    clear c96
    obtain ⟨y285, hy285⟩ : ∃ y_ : List (S41), y_ = (([(⟨(⟨1, 0, 0, (-1)⟩ : S37), (⟨0, 0⟩ : S39)⟩ : S41)] : List (S41))) := ⟨_, rfl⟩
    replace H : (some (0, y285, true)) = some (r1, r2, r3) := by first | (rw [hy285]; with_reducible exact H) | (have H2_ := (Option.bind_some _ _).symm.trans H; rw [hy285]; with_reducible exact H2_) | (have H2_ := (Option.bind_some _ _).symm.trans H; with_reducible exact H2_) | with_reducible exact H | (rw [hy285]; exact H) | exact H
    have Ny285 := Aside0.mk hy285
    clear hy285
    simp only [Option.some.injEq, Prod.mk.injEq] at H
    obtain ⟨rfl, rfl, rfl⟩ := H
    go_wp2_with (first | ((with_reducible refine gd 43 rfl ?_); refine Kd.R_lit k41 _ 41 ?hg (N := 43) ?hd (xs := ([(⟨(⟨1, 0, 0, (-1)⟩ : S37), (⟨0, 0⟩ : S39)⟩ : S41)] : List (S41))) (inner := [.int .i64 1, .int .i64 0, .int .i64 0, .int .i64 (-1), .int .i64 0, .int .i64 0]) (ok := fun _ => True) (okp := fun _ => True) ?hr ?hp (fun _ hk => hk) trivial (Below.refl _ _) (Nat.le_refl _) (by simp) ?_; (case hd => rfl); (case hg => rfl); (case hr => first | (go_simp; done) | (go_simp; rfl)); (case hp => exact (Reps.c6 (show Kd.M k41 _ _ _ (⟨(⟨1, 0, 0, (-1)⟩ : S37), (⟨0, 0⟩ : S39)⟩ : S41) [.int .i64 1, .int .i64 0, .int .i64 0, .int .i64 (-1), .int .i64 0, .int .i64 0] from (k41_mkM _ _ _ (⟨(⟨1, 0, 0, (-1)⟩ : S37), (⟨0, 0⟩ : S39)⟩ : S41) )) (Reps.none _ _))); intro v286 w142 ho143 hb hg_ hnew_; clear hg_ hnew_; (first | rw [← Ny285.out] at ho143 | (simp only [Int.reduceToNat] at ho143; rw [← Ny285.out] at ho143)); have HO287 := asd (Kd.R_lower ho143 (bsz0 HB)); replace HB := bS0 HB hb; clear hb ho143))
    go_ret3
    exact ⟨_, by first | rfl | (simp [errW_none, errW_some] <;> rfl) | (simp [*, errW_none, errW_some] <;> rfl), by (with_reducible repeat (first | apply Kd.R_alloc | apply Kd.R_drewN | apply Kd.R_drew)); exact Kd.R_mono HO287.out (fun _ hk => trivial), by repeat (first | (with_reducible first | exact HB.out | apply below_alloc | apply pw_below_drewN | apply below_drew1 | refine below_set ?_ GE274.out | refine below_set ?_ GE275.out | refine below_set ?_ GE276.out | refine below_set ?_ GE277.out | refine below_set ?_ GE278.out | refine below_set ?_ GE279.out | refine below_set ?_ GE280.out | refine below_set ?_ GE281.out) | exact HB.out)⟩
   ·rw [if_neg c96] at H
    have c96b0 : (a0.toList == ([112, 109] : List UInt8)) = false := beq_eq_false_iff_ne.mpr c96
    have c96b1 : (a0.toList != ([112, 109] : List UInt8)) = true := bne_iff_ne.mpr c96
    by_cases c144 : a0.toList = ([112, 103] : List UInt8)
    ·rw [if_pos c144] at H
     have c144b0 : (a0.toList == ([112, 103] : List UInt8)) = true := beq_iff_eq.mpr c144
     have c144b1 : (a0.toList != ([112, 103] : List UInt8)) = false := bne_eq_false_iff_eq.mpr c144
     clear c144
     obtain ⟨y288, hy288⟩ : ∃ y_ : List (S41), y_ = (([(⟨(⟨1, 0, 0, (-1)⟩ : S37), (⟨a1, 0⟩ : S39)⟩ : S41)] : List (S41))) := ⟨_, rfl⟩
     replace H : (some (0, y288, true)) = some (r1, r2, r3) := by first | (rw [hy288]; with_reducible exact H) | (have H2_ := (Option.bind_some _ _).symm.trans H; rw [hy288]; with_reducible exact H2_) | (have H2_ := (Option.bind_some _ _).symm.trans H; with_reducible exact H2_) | with_reducible exact H | (rw [hy288]; exact H) | exact H
     have Ny288 := Aside0.mk hy288
     clear hy288
     simp only [Option.some.injEq, Prod.mk.injEq] at H
     obtain ⟨rfl, rfl, rfl⟩ := H
     go_wp2_with (first | ((with_reducible refine gd 49 rfl ?_); refine Kd.R_lit k41 _ 41 ?hg (N := 49) ?hd (xs := ([(⟨(⟨1, 0, 0, (-1)⟩ : S37), (⟨a1, 0⟩ : S39)⟩ : S41)] : List (S41))) (inner := [.int .i64 1, .int .i64 0, .int .i64 0, .int .i64 (-1), .int .i64 a1, .int .i64 0]) (ok := fun _ => True) (okp := fun _ => True) ?hr ?hp (fun _ hk => hk) trivial (Below.refl _ _) (Nat.le_refl _) (by simp) ?_; (case hd => rfl); (case hg => rfl); (case hr => first | (go_simp; done) | (go_simp; rfl)); (case hp => exact (Reps.c6 (show Kd.M k41 _ _ _ (⟨(⟨1, 0, 0, (-1)⟩ : S37), (⟨a1, 0⟩ : S39)⟩ : S41) [.int .i64 1, .int .i64 0, .int .i64 0, .int .i64 (-1), .int .i64 a1, .int .i64 0] from (k41_mkM _ _ _ (⟨(⟨1, 0, 0, (-1)⟩ : S37), (⟨a1, 0⟩ : S39)⟩ : S41) )) (Reps.none _ _))); intro v289 w191 ho192 hb hg_ hnew_; clear hg_ hnew_; (first | rw [← Ny288.out] at ho192 | (simp only [Int.reduceToNat] at ho192; rw [← Ny288.out] at ho192)); have HO290 := asd (Kd.R_lower ho192 (bsz0 HB)); replace HB := bS0 HB hb; clear hb ho192))
     go_ret3
     exact ⟨_, by first | rfl | (simp [errW_none, errW_some] <;> rfl) | (simp [*, errW_none, errW_some] <;> rfl), by (with_reducible repeat (first | apply Kd.R_alloc | apply Kd.R_drewN | apply Kd.R_drew)); exact Kd.R_mono HO290.out (fun _ hk => trivial), by repeat (first | (with_reducible first | exact HB.out | apply below_alloc | apply pw_below_drewN | apply below_drew1 | refine below_set ?_ GE274.out | refine below_set ?_ GE275.out | refine below_set ?_ GE276.out | refine below_set ?_ GE277.out | refine below_set ?_ GE278.out | refine below_set ?_ GE279.out | refine below_set ?_ GE280.out | refine below_set ?_ GE281.out) | exact HB.out)⟩
    ·rw [if_neg c144] at H
     have c144b0 : (a0.toList == ([112, 103] : List UInt8)) = false := beq_eq_false_iff_ne.mpr c144
     have c144b1 : (a0.toList != ([112, 103] : List UInt8)) = true := bne_iff_ne.mpr c144
     by_cases c193 : a0.toList = ([99, 109] : List UInt8)
     ·rw [if_pos c193] at H
      have c193b0 : (a0.toList == ([99, 109] : List UInt8)) = true := beq_iff_eq.mpr c193
      have c193b1 : (a0.toList != ([99, 109] : List UInt8)) = false := bne_eq_false_iff_eq.mpr c193
      clear c193
      obtain ⟨y291, hy291⟩ : ∃ y_ : List (S41), y_ = (([(⟨(⟨0, 1, 1, 0⟩ : S37), (⟨0, 0⟩ : S39)⟩ : S41)] : List (S41))) := ⟨_, rfl⟩
      replace H : (some (0, y291, true)) = some (r1, r2, r3) := by first | (rw [hy291]; with_reducible exact H) | (have H2_ := (Option.bind_some _ _).symm.trans H; rw [hy291]; with_reducible exact H2_) | (have H2_ := (Option.bind_some _ _).symm.trans H; with_reducible exact H2_) | with_reducible exact H | (rw [hy291]; exact H) | exact H
      have Ny291 := Aside0.mk hy291
      clear hy291
      simp only [Option.some.injEq, Prod.mk.injEq] at H
      obtain ⟨rfl, rfl, rfl⟩ := H
      go_wp2_with (first | ((with_reducible refine gd 54 rfl ?_); refine Kd.R_lit k41 _ 41 ?hg (N := 54) ?hd (xs := ([(⟨(⟨0, 1, 1, 0⟩ : S37), (⟨0, 0⟩ : S39)⟩ : S41)] : List (S41))) (inner := [.int .i64 0, .int .i64 1, .int .i64 1, .int .i64 0, .int .i64 0, .int .i64 0]) (ok := fun _ => True) (okp := fun _ => True) ?hr ?hp (fun _ hk => hk) trivial (Below.refl _ _) (Nat.le_refl _) (by simp) ?_; (case hd => rfl); (case hg => rfl); (case hr => first | (go_simp; done) | (go_simp; rfl)); (case hp => exact (Reps.c6 (show Kd.M k41 _ _ _ (⟨(⟨0, 1, 1, 0⟩ : S37), (⟨0, 0⟩ : S39)⟩ : S41) [.int .i64 0, .int .i64 1, .int .i64 1, .int .i64 0, .int .i64 0, .int .i64 0] from (k41_mkM _ _ _ (⟨(⟨0, 1, 1, 0⟩ : S37), (⟨0, 0⟩ : S39)⟩ : S41) )) (Reps.none _ _))); intro v292 w239 ho240 hb hg_ hnew_; clear hg_ hnew_; (first | rw [← Ny291.out] at ho240 | (simp only [Int.reduceToNat] at ho240; rw [← Ny291.out] at ho240)); have HO293 := asd (Kd.R_lower ho240 (bsz0 HB)); replace HB := bS0 HB hb; clear hb ho240))
      go_ret3
      exact ⟨_, by first | rfl | (simp [errW_none, errW_some] <;> rfl) | (simp [*, errW_none, errW_some] <;> rfl), by (with_reducible repeat (first | apply Kd.R_alloc | apply Kd.R_drewN | apply Kd.R_drew)); exact Kd.R_mono HO293.out (fun _ hk => trivial), by repeat (first | (with_reducible first | exact HB.out | apply below_alloc | apply pw_below_drewN | apply below_drew1 | refine below_set ?_ GE274.out | refine below_set ?_ GE275.out | refine below_set ?_ GE276.out | refine below_set ?_ GE277.out | refine below_set ?_ GE278.out | refine below_set ?_ GE279.out | refine below_set ?_ GE280.out | refine below_set ?_ GE281.out) | exact HB.out)⟩
     ·rw [if_neg c193] at H
      have c193b0 : (a0.toList == ([99, 109] : List UInt8)) = false := beq_eq_false_iff_ne.mpr c193
      have c193b1 : (a0.toList != ([99, 109] : List UInt8)) = true := bne_iff_ne.mpr c193
      by_cases c241 : a0.toList = ([112, 109, 109] : List UInt8)
      ·rw [if_pos c241] at H
       have c241b0 : (a0.toList == ([112, 109, 109] : List UInt8)) = true := beq_iff_eq.mpr c241
       have c241b1 : (a0.toList != ([112, 109, 109] : List UInt8)) = false := bne_eq_false_iff_eq.mpr c241
       clear c241
       obtain ⟨y294, hy294⟩ : ∃ y_ : List (S41), y_ = (([(⟨(⟨1, 0, 0, (-1)⟩ : S37), (⟨0, 0⟩ : S39)⟩ : S41), (⟨(⟨(-1), 0, 0, (-1)⟩ : S37), (⟨0, 0⟩ : S39)⟩ : S41)] : List (S41))) := ⟨_, rfl⟩
       replace H : (some (0, y294, true)) = some (r1, r2, r3) := by first | (rw [hy294]; with_reducible exact H) | (have H2_ := (Option.bind_some _ _).symm.trans H; rw [hy294]; with_reducible exact H2_) | (have H2_ := (Option.bind_some _ _).symm.trans H; with_reducible exact H2_) | with_reducible exact H | (rw [hy294]; exact H) | exact H
       have Ny294 := Aside0.mk hy294
       clear hy294
       simp only [Option.some.injEq, Prod.mk.injEq] at H
       obtain ⟨rfl, rfl, rfl⟩ := H
       go_wp2_with (first | ((with_reducible refine gd 60 rfl ?_); refine Kd.R_lit k41 _ 41 ?hg (N := 60) ?hd (xs := ([(⟨(⟨1, 0, 0, (-1)⟩ : S37), (⟨0, 0⟩ : S39)⟩ : S41), (⟨(⟨(-1), 0, 0, (-1)⟩ : S37), (⟨0, 0⟩ : S39)⟩ : S41)] : List (S41))) (inner := [.int .i64 1, .int .i64 0, .int .i64 0, .int .i64 (-1), .int .i64 0, .int .i64 0, .int .i64 (-1), .int .i64 0, .int .i64 0, .int .i64 (-1), .int .i64 0, .int .i64 0]) (ok := fun _ => True) (okp := fun _ => True) ?hr ?hp (fun _ hk => hk) trivial (Below.refl _ _) (Nat.le_refl _) (by simp) ?_; (case hd => rfl); (case hg => rfl); (case hr => first | (go_simp; done) | (go_simp; rfl)); (case hp => exact (Reps.c6 (show Kd.M k41 _ _ _ (⟨(⟨1, 0, 0, (-1)⟩ : S37), (⟨0, 0⟩ : S39)⟩ : S41) [.int .i64 1, .int .i64 0, .int .i64 0, .int .i64 (-1), .int .i64 0, .int .i64 0] from (k41_mkM _ _ _ (⟨(⟨1, 0, 0, (-1)⟩ : S37), (⟨0, 0⟩ : S39)⟩ : S41) )) (Reps.c6 (show Kd.M k41 _ _ _ (⟨(⟨(-1), 0, 0, (-1)⟩ : S37), (⟨0, 0⟩ : S39)⟩ : S41) [.int .i64 (-1), .int .i64 0, .int .i64 0, .int .i64 (-1), .int .i64 0, .int .i64 0] from (k41_mkM _ _ _ (⟨(⟨(-1), 0, 0, (-1)⟩ : S37), (⟨0, 0⟩ : S39)⟩ : S41) )) (Reps.none _ _)))); intro v295 w288 ho289 hb hg_ hnew_; clear hg_ hnew_; (first | rw [← Ny294.out] at ho289 | (simp only [Int.reduceToNat] at ho289; rw [← Ny294.out] at ho289)); have HO296 := asd (Kd.R_lower ho289 (bsz0 HB)); replace HB := bS0 HB hb; clear hb ho289))
       go_ret3
       exact ⟨_, by first | rfl | (simp [errW_none, errW_some] <;> rfl) | (simp [*, errW_none, errW_some] <;> rfl), by (with_reducible repeat (first | apply Kd.R_alloc | apply Kd.R_drewN | apply Kd.R_drew)); exact Kd.R_mono HO296.out (fun _ hk => trivial), by repeat (first | (with_reducible first | exact HB.out | apply below_alloc | apply pw_below_drewN | apply below_drew1 | refine below_set ?_ GE274.out | refine below_set ?_ GE275.out | refine below_set ?_ GE276.out | refine below_set ?_ GE277.out | refine below_set ?_ GE278.out | refine below_set ?_ GE279.out | refine below_set ?_ GE280.out | refine below_set ?_ GE281.out) | exact HB.out)⟩
      ·rw [if_neg c241] at H
       have c241b0 : (a0.toList == ([112, 109, 109] : List UInt8)) = false := beq_eq_false_iff_ne.mpr c241
       have c241b1 : (a0.toList != ([112, 109, 109] : List UInt8)) = true := bne_iff_ne.mpr c241
       by_cases c290 : a0.toList = ([112, 109, 103] : List UInt8)
       ·rw [if_pos c290] at H
        have c290b0 : (a0.toList == ([112, 109, 103] : List UInt8)) = true := beq_iff_eq.mpr c290
        have c290b1 : (a0.toList != ([112, 109, 103] : List UInt8)) = false := bne_eq_false_iff_eq.mpr c290
        clear c290
        obtain ⟨y297, hy297⟩ : ∃ y_ : List (S41), y_ = (([(⟨(⟨1, 0, 0, (-1)⟩ : S37), (⟨a1, 0⟩ : S39)⟩ : S41), (⟨(⟨(-1), 0, 0, (-1)⟩ : S37), (⟨0, 0⟩ : S39)⟩ : S41)] : List (S41))) := ⟨_, rfl⟩
        replace H : (some (0, y297, true)) = some (r1, r2, r3) := by first | (rw [hy297]; with_reducible exact H) | (have H2_ := (Option.bind_some _ _).symm.trans H; rw [hy297]; with_reducible exact H2_) | (have H2_ := (Option.bind_some _ _).symm.trans H; with_reducible exact H2_) | with_reducible exact H | (rw [hy297]; exact H) | exact H
        have Ny297 := Aside0.mk hy297
        clear hy297
        simp only [Option.some.injEq, Prod.mk.injEq] at H
        obtain ⟨rfl, rfl, rfl⟩ := H
        go_wp2_with (first | ((with_reducible refine gd 67 rfl ?_); refine Kd.R_lit k41 _ 41 ?hg (N := 67) ?hd (xs := ([(⟨(⟨1, 0, 0, (-1)⟩ : S37), (⟨a1, 0⟩ : S39)⟩ : S41), (⟨(⟨(-1), 0, 0, (-1)⟩ : S37), (⟨0, 0⟩ : S39)⟩ : S41)] : List (S41))) (inner := [.int .i64 1, .int .i64 0, .int .i64 0, .int .i64 (-1), .int .i64 a1, .int .i64 0, .int .i64 (-1), .int .i64 0, .int .i64 0, .int .i64 (-1), .int .i64 0, .int .i64 0]) (ok := fun _ => True) (okp := fun _ => True) ?hr ?hp (fun _ hk => hk) trivial (Below.refl _ _) (Nat.le_refl _) (by simp) ?_; (case hd => rfl); (case hg => rfl); (case hr => first | (go_simp; done) | (go_simp; rfl)); (case hp => exact (Reps.c6 (show Kd.M k41 _ _ _ (⟨(⟨1, 0, 0, (-1)⟩ : S37), (⟨a1, 0⟩ : S39)⟩ : S41) [.int .i64 1, .int .i64 0, .int .i64 0, .int .i64 (-1), .int .i64 a1, .int .i64 0] from (k41_mkM _ _ _ (⟨(⟨1, 0, 0, (-1)⟩ : S37), (⟨a1, 0⟩ : S39)⟩ : S41) )) (Reps.c6 (show Kd.M k41 _ _ _ (⟨(⟨(-1), 0, 0, (-1)⟩ : S37), (⟨0, 0⟩ : S39)⟩ : S41) [.int .i64 (-1), .int .i64 0, .int .i64 0, .int .i64 (-1), .int .i64 0, .int .i64 0] from (k41_mkM _ _ _ (⟨(⟨(-1), 0, 0, (-1)⟩ : S37), (⟨0, 0⟩ : S39)⟩ : S41) )) (Reps.none _ _)))); intro v298 w338 ho339 hb hg_ hnew_; clear hg_ hnew_; (first | rw [← Ny297.out] at ho339 | (simp only [Int.reduceToNat] at ho339; rw [← Ny297.out] at ho339)); have HO299 := asd (Kd.R_lower ho339 (bsz0 HB)); replace HB := bS0 HB hb; clear hb ho339))
        go_ret3
        exact ⟨_, by first | rfl | (simp [errW_none, errW_some] <;> rfl) | (simp [*, errW_none, errW_some] <;> rfl), by (with_reducible repeat (first | apply Kd.R_alloc | apply Kd.R_drewN | apply Kd.R_drew)); exact Kd.R_mono HO299.out (fun _ hk => trivial), by repeat (first | (with_reducible first | exact HB.out | apply below_alloc | apply pw_below_drewN | apply below_drew1 | refine below_set ?_ GE274.out | refine below_set ?_ GE275.out | refine below_set ?_ GE276.out | refine below_set ?_ GE277.out | refine below_set ?_ GE278.out | refine below_set ?_ GE279.out | refine below_set ?_ GE280.out | refine below_set ?_ GE281.out) | exact HB.out)⟩
       ·rw [if_neg c290] at H
        have c290b0 : (a0.toList == ([112, 109, 103] : List UInt8)) = false := beq_eq_false_iff_ne.mpr c290
        have c290b1 : (a0.toList != ([112, 109, 103] : List UInt8)) = true := bne_iff_ne.mpr c290
        by_cases c340 : a0.toList = ([112, 103, 103] : List UInt8)
        ·rw [if_pos c340] at H
         have c340b0 : (a0.toList == ([112, 103, 103] : List UInt8)) = true := beq_iff_eq.mpr c340
         have c340b1 : (a0.toList != ([112, 103, 103] : List UInt8)) = false := bne_eq_false_iff_eq.mpr c340
         clear c340
         obtain ⟨y300, hy300⟩ : ∃ y_ : List (S41), y_ = (([(⟨(⟨1, 0, 0, (-1)⟩ : S37), (⟨a1, a1⟩ : S39)⟩ : S41), (⟨(⟨(-1), 0, 0, (-1)⟩ : S37), (⟨0, 0⟩ : S39)⟩ : S41)] : List (S41))) := ⟨_, rfl⟩
         replace H : (some (0, y300, true)) = some (r1, r2, r3) := by first | (rw [hy300]; with_reducible exact H) | (have H2_ := (Option.bind_some _ _).symm.trans H; rw [hy300]; with_reducible exact H2_) | (have H2_ := (Option.bind_some _ _).symm.trans H; with_reducible exact H2_) | with_reducible exact H | (rw [hy300]; exact H) | exact H
         have Ny300 := Aside0.mk hy300
         clear hy300
         simp only [Option.some.injEq, Prod.mk.injEq] at H
         obtain ⟨rfl, rfl, rfl⟩ := H
         go_wp2_with (first | ((with_reducible refine gd 74 rfl ?_); refine Kd.R_lit k41 _ 41 ?hg (N := 74) ?hd (xs := ([(⟨(⟨1, 0, 0, (-1)⟩ : S37), (⟨a1, a1⟩ : S39)⟩ : S41), (⟨(⟨(-1), 0, 0, (-1)⟩ : S37), (⟨0, 0⟩ : S39)⟩ : S41)] : List (S41))) (inner := [.int .i64 1, .int .i64 0, .int .i64 0, .int .i64 (-1), .int .i64 a1, .int .i64 a1, .int .i64 (-1), .int .i64 0, .int .i64 0, .int .i64 (-1), .int .i64 0, .int .i64 0]) (ok := fun _ => True) (okp := fun _ => True) ?hr ?hp (fun _ hk => hk) trivial (Below.refl _ _) (Nat.le_refl _) (by simp) ?_; (case hd => rfl); (case hg => rfl); (case hr => first | (go_simp; done) | (go_simp; rfl)); (case hp => exact (Reps.c6 (show Kd.M k41 _ _ _ (⟨(⟨1, 0, 0, (-1)⟩ : S37), (⟨a1, a1⟩ : S39)⟩ : S41) [.int .i64 1, .int .i64 0, .int .i64 0, .int .i64 (-1), .int .i64 a1, .int .i64 a1] from (k41_mkM _ _ _ (⟨(⟨1, 0, 0, (-1)⟩ : S37), (⟨a1, a1⟩ : S39)⟩ : S41) )) (Reps.c6 (show Kd.M k41 _ _ _ (⟨(⟨(-1), 0, 0, (-1)⟩ : S37), (⟨0, 0⟩ : S39)⟩ : S41) [.int .i64 (-1), .int .i64 0, .int .i64 0, .int .i64 (-1), .int .i64 0, .int .i64 0] from (k41_mkM _ _ _ (⟨(⟨(-1), 0, 0, (-1)⟩ : S37), (⟨0, 0⟩ : S39)⟩ : S41) )) (Reps.none _ _)))); intro v301 w388 ho389 hb hg_ hnew_; clear hg_ hnew_; (first | rw [← Ny300.out] at ho389 | (simp only [Int.reduceToNat] at ho389; rw [← Ny300.out] at ho389)); have HO302 := asd (Kd.R_lower ho389 (bsz0 HB)); replace HB := bS0 HB hb; clear hb ho389))
         go_ret3
         exact ⟨_, by first | rfl | (simp [errW_none, errW_some] <;> rfl) | (simp [*, errW_none, errW_some] <;> rfl), by (with_reducible repeat (first | apply Kd.R_alloc | apply Kd.R_drewN | apply Kd.R_drew)); exact Kd.R_mono HO302.out (fun _ hk => trivial), by repeat (first | (with_reducible first | exact HB.out | apply below_alloc | apply pw_below_drewN | apply below_drew1 | refine below_set ?_ GE274.out | refine below_set ?_ GE275.out | refine below_set ?_ GE276.out | refine below_set ?_ GE277.out | refine below_set ?_ GE278.out | refine below_set ?_ GE279.out | refine below_set ?_ GE280.out | refine below_set ?_ GE281.out) | exact HB.out)⟩
        ·rw [if_neg c340] at H
         have c340b0 : (a0.toList == ([112, 103, 103] : List UInt8)) = false := beq_eq_false_iff_ne.mpr c340
         have c340b1 : (a0.toList != ([112, 103, 103] : List UInt8)) = true := bne_iff_ne.mpr c340
         by_cases c390 : a0.toList = ([99, 109, 109] : List UInt8)
         ·rw [if_pos c390] at H
          have c390b0 : (a0.toList == ([99, 109, 109] : List UInt8)) = true := beq_iff_eq.mpr c390
          have c390b1 : (a0.toList != ([99, 109, 109] : List UInt8)) = false := bne_eq_false_iff_eq.mpr c390
          clear c390
          obtain ⟨y303, hy303⟩ : ∃ y_ : List (S41), y_ = (([(⟨(⟨0, 1, 1, 0⟩ : S37), (⟨0, 0⟩ : S39)⟩ : S41), (⟨(⟨(-1), 0, 0, (-1)⟩ : S37), (⟨0, 0⟩ : S39)⟩ : S41)] : List (S41))) := ⟨_, rfl⟩
          replace H : (some (0, y303, true)) = some (r1, r2, r3) := by first | (rw [hy303]; with_reducible exact H) | (have H2_ := (Option.bind_some _ _).symm.trans H; rw [hy303]; with_reducible exact H2_) | (have H2_ := (Option.bind_some _ _).symm.trans H; with_reducible exact H2_) | with_reducible exact H | (rw [hy303]; exact H) | exact H
          have Ny303 := Aside0.mk hy303
          clear hy303
          simp only [Option.some.injEq, Prod.mk.injEq] at H
          obtain ⟨rfl, rfl, rfl⟩ := H
          go_wp2_with (first | ((with_reducible refine gd 80 rfl ?_); refine Kd.R_lit k41 _ 41 ?hg (N := 80) ?hd (xs := ([(⟨(⟨0, 1, 1, 0⟩ : S37), (⟨0, 0⟩ : S39)⟩ : S41), (⟨(⟨(-1), 0, 0, (-1)⟩ : S37), (⟨0, 0⟩ : S39)⟩ : S41)] : List (S41))) (inner := [.int .i64 0, .int .i64 1, .int .i64 1, .int .i64 0, .int .i64 0, .int .i64 0, .int .i64 (-1), .int .i64 0, .int .i64 0, .int .i64 (-1), .int .i64 0, .int .i64 0]) (ok := fun _ => True) (okp := fun _ => True) ?hr ?hp (fun _ hk => hk) trivial (Below.refl _ _) (Nat.le_refl _) (by simp) ?_; (case hd => rfl); (case hg => rfl); (case hr => first | (go_simp; done) | (go_simp; rfl)); (case hp => exact (Reps.c6 (show Kd.M k41 _ _ _ (⟨(⟨0, 1, 1, 0⟩ : S37), (⟨0, 0⟩ : S39)⟩ : S41) [.int .i64 0, .int .i64 1, .int .i64 1, .int .i64 0, .int .i64 0, .int .i64 0] from (k41_mkM _ _ _ (⟨(⟨0, 1, 1, 0⟩ : S37), (⟨0, 0⟩ : S39)⟩ : S41) )) (Reps.c6 (show Kd.M k41 _ _ _ (⟨(⟨(-1), 0, 0, (-1)⟩ : S37), (⟨0, 0⟩ : S39)⟩ : S41) [.int .i64 (-1), .int .i64 0, .int .i64 0, .int .i64 (-1), .int .i64 0, .int .i64 0] from (k41_mkM _ _ _ (⟨(⟨(-1), 0, 0, (-1)⟩ : S37), (⟨0, 0⟩ : S39)⟩ : S41) )) (Reps.none _ _)))); intro v304 w437 ho438 hb hg_ hnew_; clear hg_ hnew_; (first | rw [← Ny303.out] at ho438 | (simp only [Int.reduceToNat] at ho438; rw [← Ny303.out] at ho438)); have HO305 := asd (Kd.R_lower ho438 (bsz0 HB)); replace HB := bS0 HB hb; clear hb ho438))
          go_ret3
          exact ⟨_, by first | rfl | (simp [errW_none, errW_some] <;> rfl) | (simp [*, errW_none, errW_some] <;> rfl), by (with_reducible repeat (first | apply Kd.R_alloc | apply Kd.R_drewN | apply Kd.R_drew)); exact Kd.R_mono HO305.out (fun _ hk => trivial), by repeat (first | (with_reducible first | exact HB.out | apply below_alloc | apply pw_below_drewN | apply below_drew1 | refine below_set ?_ GE274.out | refine below_set ?_ GE275.out | refine below_set ?_ GE276.out | refine below_set ?_ GE277.out | refine below_set ?_ GE278.out | refine below_set ?_ GE279.out | refine below_set ?_ GE280.out | refine below_set ?_ GE281.out) | exact HB.out)⟩
         ·rw [if_neg c390] at H
          have c390b0 : (a0.toList == ([99, 109, 109] : List UInt8)) = false := beq_eq_false_iff_ne.mpr c390
          have c390b1 : (a0.toList != ([99, 109, 109] : List UInt8)) = true := bne_iff_ne.mpr c390
          by_cases c439 : a0.toList = ([112, 52] : List UInt8)
          ·rw [if_pos c439] at H
           have c439b0 : (a0.toList == ([112, 52] : List UInt8)) = true := beq_iff_eq.mpr c439
           have c439b1 : (a0.toList != ([112, 52] : List UInt8)) = false := bne_eq_false_iff_eq.mpr c439
           clear c439
           obtain ⟨y306, hy306⟩ : ∃ y_ : List (S41), y_ = (([(⟨(⟨0, (-1), 1, 0⟩ : S37), (⟨0, 0⟩ : S39)⟩ : S41)] : List (S41))) := ⟨_, rfl⟩
           replace H : (some (0, y306, true)) = some (r1, r2, r3) := by first | (rw [hy306]; with_reducible exact H) | (have H2_ := (Option.bind_some _ _).symm.trans H; rw [hy306]; with_reducible exact H2_) | (have H2_ := (Option.bind_some _ _).symm.trans H; with_reducible exact H2_) | with_reducible exact H | (rw [hy306]; exact H) | exact H
           have Ny306 := Aside0.mk hy306
           clear hy306
           simp only [Option.some.injEq, Prod.mk.injEq] at H
           obtain ⟨rfl, rfl, rfl⟩ := H
           go_wp2_with (first | ((with_reducible refine gd 84 rfl ?_); refine Kd.R_lit k41 _ 41 ?hg (N := 84) ?hd (xs := ([(⟨(⟨0, (-1), 1, 0⟩ : S37), (⟨0, 0⟩ : S39)⟩ : S41)] : List (S41))) (inner := [.int .i64 0, .int .i64 (-1), .int .i64 1, .int .i64 0, .int .i64 0, .int .i64 0]) (ok := fun _ => True) (okp := fun _ => True) ?hr ?hp (fun _ hk => hk) trivial (Below.refl _ _) (Nat.le_refl _) (by simp) ?_; (case hd => rfl); (case hg => rfl); (case hr => first | (go_simp; done) | (go_simp; rfl)); (case hp => exact (Reps.c6 (show Kd.M k41 _ _ _ (⟨(⟨0, (-1), 1, 0⟩ : S37), (⟨0, 0⟩ : S39)⟩ : S41) [.int .i64 0, .int .i64 (-1), .int .i64 1, .int .i64 0, .int .i64 0, .int .i64 0] from (k41_mkM _ _ _ (⟨(⟨0, (-1), 1, 0⟩ : S37), (⟨0, 0⟩ : S39)⟩ : S41) )) (Reps.none _ _))); intro v307 w484 ho485 hb hg_ hnew_; clear hg_ hnew_; (first | rw [← Ny306.out] at ho485 | (simp only [Int.reduceToNat] at ho485; rw [← Ny306.out] at ho485)); have HO308 := asd (Kd.R_lower ho485 (bsz0 HB)); replace HB := bS0 HB hb; clear hb ho485))
           go_ret3
           exact ⟨_, by first | rfl | (simp [errW_none, errW_some] <;> rfl) | (simp [*, errW_none, errW_some] <;> rfl), by (with_reducible repeat (first | apply Kd.R_alloc | apply Kd.R_drewN | apply Kd.R_drew)); exact Kd.R_mono HO308.out (fun _ hk => trivial), by repeat (first | (with_reducible first | exact HB.out | apply below_alloc | apply pw_below_drewN | apply below_drew1 | refine below_set ?_ GE274.out | refine below_set ?_ GE275.out | refine below_set ?_ GE276.out | refine below_set ?_ GE277.out | refine below_set ?_ GE278.out | refine below_set ?_ GE279.out | refine below_set ?_ GE280.out | refine below_set ?_ GE281.out) | exact HB.out)⟩
          ·rw [if_neg c439] at H
           have c439b0 : (a0.toList == ([112, 52] : List UInt8)) = false := beq_eq_false_iff_ne.mpr c439
           have c439b1 : (a0.toList != ([112, 52] : List UInt8)) = true := bne_iff_ne.mpr c439
           by_cases c486 : a0.toList = ([112, 52, 109] : List UInt8)
           ·rw [if_pos c486] at H
            have c486b0 : (a0.toList == ([112, 52, 109] : List UInt8)) = true := beq_iff_eq.mpr c486
            have c486b1 : (a0.toList != ([112, 52, 109] : List UInt8)) = false := bne_eq_false_iff_eq.mpr c486
            clear c486
            obtain ⟨y309, hy309⟩ : ∃ y_ : List (S41), y_ = (([(⟨(⟨0, (-1), 1, 0⟩ : S37), (⟨0, 0⟩ : S39)⟩ : S41), (⟨(⟨1, 0, 0, (-1)⟩ : S37), (⟨0, 0⟩ : S39)⟩ : S41)] : List (S41))) := ⟨_, rfl⟩
            replace H : (some (0, y309, true)) = some (r1, r2, r3) := by first | (rw [hy309]; with_reducible exact H) | (have H2_ := (Option.bind_some _ _).symm.trans H; rw [hy309]; with_reducible exact H2_) | (have H2_ := (Option.bind_some _ _).symm.trans H; with_reducible exact H2_) | with_reducible exact H | (rw [hy309]; exact H) | exact H
            have Ny309 := Aside0.mk hy309
            clear hy309
            simp only [Option.some.injEq, Prod.mk.injEq] at H
            obtain ⟨rfl, rfl, rfl⟩ := H
            go_wp2_with (first | ((with_reducible refine gd 90 rfl ?_); refine Kd.R_lit k41 _ 41 ?hg (N := 90) ?hd (xs := ([(⟨(⟨0, (-1), 1, 0⟩ : S37), (⟨0, 0⟩ : S39)⟩ : S41), (⟨(⟨1, 0, 0, (-1)⟩ : S37), (⟨0, 0⟩ : S39)⟩ : S41)] : List (S41))) (inner := [.int .i64 0, .int .i64 (-1), .int .i64 1, .int .i64 0, .int .i64 0, .int .i64 0, .int .i64 1, .int .i64 0, .int .i64 0, .int .i64 (-1), .int .i64 0, .int .i64 0]) (ok := fun _ => True) (okp := fun _ => True) ?hr ?hp (fun _ hk => hk) trivial (Below.refl _ _) (Nat.le_refl _) (by simp) ?_; (case hd => rfl); (case hg => rfl); (case hr => first | (go_simp; done) | (go_simp; rfl)); (case hp => exact (Reps.c6 (show Kd.M k41 _ _ _ (⟨(⟨0, (-1), 1, 0⟩ : S37), (⟨0, 0⟩ : S39)⟩ : S41) [.int .i64 0, .int .i64 (-1), .int .i64 1, .int .i64 0, .int .i64 0, .int .i64 0] from (k41_mkM _ _ _ (⟨(⟨0, (-1), 1, 0⟩ : S37), (⟨0, 0⟩ : S39)⟩ : S41) )) (Reps.c6 (show Kd.M k41 _ _ _ (⟨(⟨1, 0, 0, (-1)⟩ : S37), (⟨0, 0⟩ : S39)⟩ : S41) [.int .i64 1, .int .i64 0, .int .i64 0, .int .i64 (-1), .int .i64 0, .int .i64 0] from (k41_mkM _ _ _ (⟨(⟨1, 0, 0, (-1)⟩ : S37), (⟨0, 0⟩ : S39)⟩ : S41) )) (Reps.none _ _)))); intro v310 w532 ho533 hb hg_ hnew_; clear hg_ hnew_; (first | rw [← Ny309.out] at ho533 | (simp only [Int.reduceToNat] at ho533; rw [← Ny309.out] at ho533)); have HO311 := asd (Kd.R_lower ho533 (bsz0 HB)); replace HB := bS0 HB hb; clear hb ho533))
            go_ret3
            exact ⟨_, by first | rfl | (simp [errW_none, errW_some] <;> rfl) | (simp [*, errW_none, errW_some] <;> rfl), by (with_reducible repeat (first | apply Kd.R_alloc | apply Kd.R_drewN | apply Kd.R_drew)); exact Kd.R_mono HO311.out (fun _ hk => trivial), by repeat (first | (with_reducible first | exact HB.out | apply below_alloc | apply pw_below_drewN | apply below_drew1 | refine below_set ?_ GE274.out | refine below_set ?_ GE275.out | refine below_set ?_ GE276.out | refine below_set ?_ GE277.out | refine below_set ?_ GE278.out | refine below_set ?_ GE279.out | refine below_set ?_ GE280.out | refine below_set ?_ GE281.out) | exact HB.out)⟩
           ·rw [if_neg c486] at H
            have c486b0 : (a0.toList == ([112, 52, 109] : List UInt8)) = false := beq_eq_false_iff_ne.mpr c486
            have c486b1 : (a0.toList != ([112, 52, 109] : List UInt8)) = true := bne_iff_ne.mpr c486
            by_cases c534 : a0.toList = ([112, 52, 103] : List UInt8)
            ·rw [if_pos c534] at H
             have c534b0 : (a0.toList == ([112, 52, 103] : List UInt8)) = true := beq_iff_eq.mpr c534
             have c534b1 : (a0.toList != ([112, 52, 103] : List UInt8)) = false := bne_eq_false_iff_eq.mpr c534
             clear c534
             obtain ⟨y312, hy312⟩ : ∃ y_ : List (S41), y_ = (([(⟨(⟨0, (-1), 1, 0⟩ : S37), (⟨0, 0⟩ : S39)⟩ : S41), (⟨(⟨1, 0, 0, (-1)⟩ : S37), (⟨a1, a1⟩ : S39)⟩ : S41)] : List (S41))) := ⟨_, rfl⟩
             replace H : (some (0, y312, true)) = some (r1, r2, r3) := by first | (rw [hy312]; with_reducible exact H) | (have H2_ := (Option.bind_some _ _).symm.trans H; rw [hy312]; with_reducible exact H2_) | (have H2_ := (Option.bind_some _ _).symm.trans H; with_reducible exact H2_) | with_reducible exact H | (rw [hy312]; exact H) | exact H
             have Ny312 := Aside0.mk hy312
             clear hy312
             simp only [Option.some.injEq, Prod.mk.injEq] at H
             obtain ⟨rfl, rfl, rfl⟩ := H
             go_wp2_with (first | ((with_reducible refine gd 97 rfl ?_); refine Kd.R_lit k41 _ 41 ?hg (N := 97) ?hd (xs := ([(⟨(⟨0, (-1), 1, 0⟩ : S37), (⟨0, 0⟩ : S39)⟩ : S41), (⟨(⟨1, 0, 0, (-1)⟩ : S37), (⟨a1, a1⟩ : S39)⟩ : S41)] : List (S41))) (inner := [.int .i64 0, .int .i64 (-1), .int .i64 1, .int .i64 0, .int .i64 0, .int .i64 0, .int .i64 1, .int .i64 0, .int .i64 0, .int .i64 (-1), .int .i64 a1, .int .i64 a1]) (ok := fun _ => True) (okp := fun _ => True) ?hr ?hp (fun _ hk => hk) trivial (Below.refl _ _) (Nat.le_refl _) (by simp) ?_; (case hd => rfl); (case hg => rfl); (case hr => first | (go_simp; done) | (go_simp; rfl)); (case hp => exact (Reps.c6 (show Kd.M k41 _ _ _ (⟨(⟨0, (-1), 1, 0⟩ : S37), (⟨0, 0⟩ : S39)⟩ : S41) [.int .i64 0, .int .i64 (-1), .int .i64 1, .int .i64 0, .int .i64 0, .int .i64 0] from (k41_mkM _ _ _ (⟨(⟨0, (-1), 1, 0⟩ : S37), (⟨0, 0⟩ : S39)⟩ : S41) )) (Reps.c6 (show Kd.M k41 _ _ _ (⟨(⟨1, 0, 0, (-1)⟩ : S37), (⟨a1, a1⟩ : S39)⟩ : S41) [.int .i64 1, .int .i64 0, .int .i64 0, .int .i64 (-1), .int .i64 a1, .int .i64 a1] from (k41_mkM _ _ _ (⟨(⟨1, 0, 0, (-1)⟩ : S37), (⟨a1, a1⟩ : S39)⟩ : S41) )) (Reps.none _ _)))); intro v313 w581 ho582 hb hg_ hnew_; clear hg_ hnew_; (first | rw [← Ny312.out] at ho582 | (simp only [Int.reduceToNat] at ho582; rw [← Ny312.out] at ho582)); have HO314 := asd (Kd.R_lower ho582 (bsz0 HB)); replace HB := bS0 HB hb; clear hb ho582))
             go_ret3
             exact ⟨_, by first | rfl | (simp [errW_none, errW_some] <;> rfl) | (simp [*, errW_none, errW_some] <;> rfl), by (with_reducible repeat (first | apply Kd.R_alloc | apply Kd.R_drewN | apply Kd.R_drew)); exact Kd.R_mono HO314.out (fun _ hk => trivial), by repeat (first | (with_reducible first | exact HB.out | apply below_alloc | apply pw_below_drewN | apply below_drew1 | refine below_set ?_ GE274.out | refine below_set ?_ GE275.out | refine below_set ?_ GE276.out | refine below_set ?_ GE277.out | refine below_set ?_ GE278.out | refine below_set ?_ GE279.out | refine below_set ?_ GE280.out | refine below_set ?_ GE281.out) | exact HB.out)⟩
            ·rw [if_neg c534] at H
             have c534b0 : (a0.toList == ([112, 52, 103] : List UInt8)) = false := beq_eq_false_iff_ne.mpr c534
             have c534b1 : (a0.toList != ([112, 52, 103] : List UInt8)) = true := bne_iff_ne.mpr c534
             by_cases c583 : a0.toList = ([112, 51] : List UInt8)
             ·rw [if_pos c583] at H
              have c583b0 : (a0.toList == ([112, 51] : List UInt8)) = true := beq_iff_eq.mpr c583
              have c583b1 : (a0.toList != ([112, 51] : List UInt8)) = false := bne_eq_false_iff_eq.mpr c583
              clear c583
              obtain ⟨y315, hy315⟩ : ∃ y_ : List (S41), y_ = (([(⟨(⟨(-1), (-1), 1, 0⟩ : S37), (⟨0, 0⟩ : S39)⟩ : S41)] : List (S41))) := ⟨_, rfl⟩
              replace H : (some (1, y315, true)) = some (r1, r2, r3) := by first | (rw [hy315]; with_reducible exact H) | (have H2_ := (Option.bind_some _ _).symm.trans H; rw [hy315]; with_reducible exact H2_) | (have H2_ := (Option.bind_some _ _).symm.trans H; with_reducible exact H2_) | with_reducible exact H | (rw [hy315]; exact H) | exact H
              have Ny315 := Aside0.mk hy315
              clear hy315
              simp only [Option.some.injEq, Prod.mk.injEq] at H
              obtain ⟨rfl, rfl, rfl⟩ := H
              try go_wp2
              replace BK274 := asd (blk_drew BK274.out)
              replace BK275 := asd (blk_drew BK275.out)
              replace BK276 := asd (blk_drew BK276.out)
              replace BK277 := asd (blk_drew BK277.out)
              replace BK278 := asd (blk_drew BK278.out)
              replace BK279 := asd (blk_drew BK279.out)
              replace BK280 := asd (blk_drew BK280.out)
              replace BK281 := asd (blk_drew BK281.out)
              replace HB := asd (below_drew1 HB.out)
              refine sh 4 (eb6 BK280) (fun hHeld => ?_)
              generalize w628.drew = w629 at BK274 BK275 BK276 BK277 BK278 BK279 BK280 BK281 HB hHeld ⊢
              refine pure_ (i := 2) (N := some 16) (v := ?_) (a' := ?_) #[false, false, true, false] rfl rfl (by kernel_rfl) (fun _ _ _ h => h) (Or.inl ⟨by rfl, ?_⟩) ?_ ?_
              rotate_left
              ·intro w'
               go_simp
               with_reducible rfl
              rotate_left
              ·simp only [Act.put, sA, sB, sC, i64_w, i32_w]
               rfl
              refine take_ (i := 0) (N := some 100) (v := ?_) (a' := ?_) #[true, false, true, false] rfl rfl (by kernel_rfl) (fun _ _ _ h => h) (Or.inl ⟨by rfl, ?_⟩) hHeld ?_ ?_
              rotate_left
              ·rintro w' ⟨s0, s1, s2, s3, s4, s5⟩
               go_simp
               with_reducible rfl
              rotate_left
              ·simp only [Act.put, sA, sB, sC, i64_w, i32_w]
               rfl
              refine one_ (i := 1) (N := some 101) (bT 4 3) rfl rfl (by kernel_rfl) (by decide) (fun K hK => ?_)
              refine Kd.R_lit_step k41 _ 41 ?hg (N := 101) ?hd (xs := ([(⟨(⟨(-1), (-1), 1, 0⟩ : S37), (⟨0, 0⟩ : S39)⟩ : S41)] : List (S41))) (inner := [.int .i64 (-1), .int .i64 (-1), .int .i64 1, .int .i64 0, .int .i64 0, .int .i64 0]) (ok := fun _ => True) (okp := fun _ => True) ?hr ?hp (fun _ hk => hk) trivial (Below.refl _ _) (Nat.le_refl _) (by simp) ?_; (case hd => rfl); (case hg => rfl); (case hr => first | (go_simp; done) | (go_simp; rfl)); (case hp => exact (Reps.c6 (show Kd.M k41 _ _ _ (⟨(⟨(-1), (-1), 1, 0⟩ : S37), (⟨0, 0⟩ : S39)⟩ : S41) [.int .i64 (-1), .int .i64 (-1), .int .i64 1, .int .i64 0, .int .i64 0, .int .i64 0] from (k41_mkM _ _ _ (⟨(⟨(-1), (-1), 1, 0⟩ : S37), (⟨0, 0⟩ : S39)⟩ : S41) )) (Reps.none _ _)))
              intro v316 w630 ho631 hb hg_ hnew_
              clear hg_ hnew_
              (first | rw [← Ny315.out] at ho631 | (simp only [Int.reduceToNat] at ho631; rw [← Ny315.out] at ho631))
              have HO317 := asd (Kd.R_lower (Kd.R_newB (Kd.R_newB (Kd.R_newB (Kd.R_newB ho631 (g := gb276) (o := .cells #[.int .i64 (-1), .int .i64 0, .int .i64 0, .int .i64 (-1), .int .i64 0, .int .i64 0] 41 (0, 0)) (bkp BK276)) (g := gb279) (o := .cells #[.int .i64 0, .int .i64 (-1), .int .i64 1, .int .i64 0, .int .i64 0, .int .i64 0] 41 (0, 0)) (bkp BK279)) (g := gb280) (o := .cells #[.int .i64 (-1), .int .i64 (-1), .int .i64 1, .int .i64 0, .int .i64 0, .int .i64 0] 41 (0, 0)) (bkp BK280)) (g := gb281) (o := .cells #[.int .i64 0, .int .i64 (-1), .int .i64 1, .int .i64 1, .int .i64 0, .int .i64 0] 41 (0, 0)) (bkp BK281)) (below_size (by repeat (first | (with_reducible first | exact HB.out | apply below_alloc | apply pw_below_drewN | apply below_drew1 | refine below_set ?_ GE274.out | refine below_set ?_ GE275.out | refine below_set ?_ GE276.out | refine below_set ?_ GE277.out | refine below_set ?_ GE278.out | refine below_set ?_ GE279.out | refine below_set ?_ GE280.out | refine below_set ?_ GE281.out) | exact HB.out))))
              replace BK274 := bB BK274 hb
              replace BK275 := bB BK275 hb
              replace BK276 := bB BK276 hb
              replace BK277 := bB BK277 hb
              replace BK278 := bB BK278 hb
              replace BK279 := bB BK279 hb
              replace BK280 := bB BK280 hb
              replace BK281 := bB BK281 hb
              replace HB := asd (below_step (by repeat (first | (with_reducible first | exact HB.out | apply below_alloc | apply pw_below_drewN | apply below_drew1 | refine below_set ?_ GE274.out | refine below_set ?_ GE275.out | refine below_set ?_ GE276.out | refine below_set ?_ GE277.out | refine below_set ?_ GE278.out | refine below_set ?_ GE279.out | refine below_set ?_ GE280.out | refine below_set ?_ GE281.out) | exact HB.out)) hb)
              clear hb ho631
              refine hK.out _ _ (eb6 BK280).out (fun hHeld => ?_)
              clear hK K
              refine norm_ (a' := ?_) ?_ ?_
              rotate_left
              ·show Act.put _ (some 101) _ = _
               simp only [Act.put, sA, sB, sC, i64_w, i32_w]
               rfl
              refine pure_ (i := 3) (N := some 15) (v := ?_) (a' := ?_) (bT 4 4) rfl rfl (by kernel_rfl) (fun _ _ _ h => h) (Or.inl ⟨by rfl, ?_⟩) ?_ ?_
              rotate_left
              ·intro w'
               go_simp
               with_reducible rfl
              rotate_left
              ·simp only [Act.put, sA, sB, sC, i64_w, i32_w]
               rfl
              refine done_ (by kernel_rfl) ?_
              try go_wp2
              go_ret3
              exact ⟨_, by first | rfl | (simp [errW_none, errW_some] <;> rfl) | (simp [*, errW_none, errW_some] <;> rfl), by (with_reducible repeat (first | apply Kd.R_alloc | apply Kd.R_drewN | apply Kd.R_drew)); exact Kd.R_mono HO317.out (fun _ hk => trivial), by repeat (first | (with_reducible first | exact HB.out | apply below_alloc | apply pw_below_drewN | apply below_drew1 | refine below_set ?_ GE274.out | refine below_set ?_ GE275.out | refine below_set ?_ GE276.out | refine below_set ?_ GE277.out | refine below_set ?_ GE278.out | refine below_set ?_ GE279.out | refine below_set ?_ GE280.out | refine below_set ?_ GE281.out) | exact HB.out)⟩
             ·rw [if_neg c583] at H
              have c583b0 : (a0.toList == ([112, 51] : List UInt8)) = false := beq_eq_false_iff_ne.mpr c583
              have c583b1 : (a0.toList != ([112, 51] : List UInt8)) = true := bne_iff_ne.mpr c583
              by_cases c632 : a0.toList = ([112, 51, 109, 49] : List UInt8)
              ·rw [if_pos c632] at H
               have c632b0 : (a0.toList == ([112, 51, 109, 49] : List UInt8)) = true := beq_iff_eq.mpr c632
               have c632b1 : (a0.toList != ([112, 51, 109, 49] : List UInt8)) = false := bne_eq_false_iff_eq.mpr c632
               clear c632
               obtain ⟨y318, hy318⟩ : ∃ y_ : List (S41), y_ = (([(⟨(⟨(-1), (-1), 1, 0⟩ : S37), (⟨0, 0⟩ : S39)⟩ : S41), (⟨(⟨0, 1, 1, 0⟩ : S37), (⟨0, 0⟩ : S39)⟩ : S41)] : List (S41))) := ⟨_, rfl⟩
               replace H : (some (1, y318, true)) = some (r1, r2, r3) := by first | (rw [hy318]; with_reducible exact H) | (have H2_ := (Option.bind_some _ _).symm.trans H; rw [hy318]; with_reducible exact H2_) | (have H2_ := (Option.bind_some _ _).symm.trans H; with_reducible exact H2_) | with_reducible exact H | (rw [hy318]; exact H) | exact H
               have Ny318 := Aside0.mk hy318
               clear hy318
               simp only [Option.some.injEq, Prod.mk.injEq] at H
               obtain ⟨rfl, rfl, rfl⟩ := H
               try go_wp2
               replace BK274 := asd (blk_drew BK274.out)
               replace BK275 := asd (blk_drew BK275.out)
               replace BK276 := asd (blk_drew BK276.out)
               replace BK277 := asd (blk_drew BK277.out)
               replace BK278 := asd (blk_drew BK278.out)
               replace BK279 := asd (blk_drew BK279.out)
               replace BK280 := asd (blk_drew BK280.out)
               replace BK281 := asd (blk_drew BK281.out)
               replace HB := asd (below_drew1 HB.out)
               refine sh 6 (cb6 BK280 (eb4 BK278)) (fun hHeld => ?_)
               generalize w628.drew = w678 at BK274 BK275 BK276 BK277 BK278 BK279 BK280 BK281 HB hHeld ⊢
               refine pure_ (i := 4) (N := some 16) (v := ?_) (a' := ?_) (bs 6 16) rfl rfl (by kernel_rfl) (fun _ _ _ h => h) (Or.inl ⟨by rfl, ?_⟩) ?_ ?_
               rotate_left
               ·intro w'
                go_simp
                with_reducible rfl
               rotate_left
               ·simp only [Act.put, sA, sB, sC, i64_w, i32_w]
                rfl
               refine take_ (i := 0) (N := some 104) (v := ?_) (a' := ?_) (bs 6 17) rfl rfl (by kernel_rfl) (fun _ _ _ h => h) (Or.inl ⟨by rfl, ?_⟩) hHeld ?_ ?_
               rotate_left
               ·rintro w' ⟨s0, s1, s2, s3, s4, s5, s6, s7, s8, s9⟩
                go_simp
                with_reducible rfl
               rotate_left
               ·simp only [Act.put, sA, sB, sC, i64_w, i32_w]
                rfl
               refine take_ (i := 1) (N := some 105) (v := ?_) (a' := ?_) (bs 6 19) rfl rfl (by kernel_rfl) (fun _ _ _ h => h) (Or.inl ⟨by rfl, ?_⟩) hHeld ?_ ?_
               rotate_left
               ·rintro w' ⟨s0, s1, s2, s3, s4, s5, s6, s7, s8, s9⟩
                go_simp
                with_reducible rfl
               rotate_left
               ·simp only [Act.put, sA, sB, sC, i64_w, i32_w]
                rfl
               refine pure_ (i := 2) (N := some 106) (v := ?_) (a' := ?_) (bs 6 23) rfl rfl (by kernel_rfl) (fun _ _ _ h => h) (Or.inl ⟨by rfl, ?_⟩) ?_ ?_
               rotate_left
               ·intro w'
                go_simp
                with_reducible rfl
               rotate_left
               ·simp only [Act.put, sA, sB, sC, i64_w, i32_w]
                rfl
               refine one_ (i := 3) (N := some 107) (bT 6 5) rfl rfl (by kernel_rfl) (by decide) (fun K hK => ?_)
               refine Kd.R_lit_step k41 _ 41 ?hg (N := 107) ?hd (xs := ([(⟨(⟨(-1), (-1), 1, 0⟩ : S37), (⟨0, 0⟩ : S39)⟩ : S41), (⟨(⟨0, 1, 1, 0⟩ : S37), (⟨0, 0⟩ : S39)⟩ : S41)] : List (S41))) (inner := [.int .i64 (-1), .int .i64 (-1), .int .i64 1, .int .i64 0, .int .i64 0, .int .i64 0, .int .i64 0, .int .i64 1, .int .i64 1, .int .i64 0, .int .i64 0, .int .i64 0]) (ok := fun _ => True) (okp := fun _ => True) ?hr ?hp (fun _ hk => hk) trivial (Below.refl _ _) (Nat.le_refl _) (by simp) ?_; (case hd => rfl); (case hg => rfl); (case hr => first | (go_simp; done) | (go_simp; rfl)); (case hp => exact (Reps.c6 (show Kd.M k41 _ _ _ (⟨(⟨(-1), (-1), 1, 0⟩ : S37), (⟨0, 0⟩ : S39)⟩ : S41) [.int .i64 (-1), .int .i64 (-1), .int .i64 1, .int .i64 0, .int .i64 0, .int .i64 0] from (k41_mkM _ _ _ (⟨(⟨(-1), (-1), 1, 0⟩ : S37), (⟨0, 0⟩ : S39)⟩ : S41) )) (Reps.c6 (show Kd.M k41 _ _ _ (⟨(⟨0, 1, 1, 0⟩ : S37), (⟨0, 0⟩ : S39)⟩ : S41) [.int .i64 0, .int .i64 1, .int .i64 1, .int .i64 0, .int .i64 0, .int .i64 0] from (k41_mkM _ _ _ (⟨(⟨0, 1, 1, 0⟩ : S37), (⟨0, 0⟩ : S39)⟩ : S41) )) (Reps.none _ _))))
               intro v319 w679 ho680 hb hg_ hnew_
               clear hg_ hnew_
               (first | rw [← Ny318.out] at ho680 | (simp only [Int.reduceToNat] at ho680; rw [← Ny318.out] at ho680))
               have HO320 := asd (Kd.R_lower (Kd.R_newB (Kd.R_newB (Kd.R_newB (Kd.R_newB ho680 (g := gb276) (o := .cells #[.int .i64 (-1), .int .i64 0, .int .i64 0, .int .i64 (-1), .int .i64 0, .int .i64 0] 41 (0, 0)) (bkp BK276)) (g := gb279) (o := .cells #[.int .i64 0, .int .i64 (-1), .int .i64 1, .int .i64 0, .int .i64 0, .int .i64 0] 41 (0, 0)) (bkp BK279)) (g := gb280) (o := .cells #[.int .i64 (-1), .int .i64 (-1), .int .i64 1, .int .i64 0, .int .i64 0, .int .i64 0] 41 (0, 0)) (bkp BK280)) (g := gb281) (o := .cells #[.int .i64 0, .int .i64 (-1), .int .i64 1, .int .i64 1, .int .i64 0, .int .i64 0] 41 (0, 0)) (bkp BK281)) (below_size (by repeat (first | (with_reducible first | exact HB.out | apply below_alloc | apply pw_below_drewN | apply below_drew1 | refine below_set ?_ GE274.out | refine below_set ?_ GE275.out | refine below_set ?_ GE276.out | refine below_set ?_ GE277.out | refine below_set ?_ GE278.out | refine below_set ?_ GE279.out | refine below_set ?_ GE280.out | refine below_set ?_ GE281.out) | exact HB.out))))
               replace BK274 := bB BK274 hb
               replace BK275 := bB BK275 hb
               replace BK276 := bB BK276 hb
               replace BK277 := bB BK277 hb
               replace BK278 := bB BK278 hb
               replace BK279 := bB BK279 hb
               replace BK280 := bB BK280 hb
               replace BK281 := bB BK281 hb
               replace HB := asd (below_step (by repeat (first | (with_reducible first | exact HB.out | apply below_alloc | apply pw_below_drewN | apply below_drew1 | refine below_set ?_ GE274.out | refine below_set ?_ GE275.out | refine below_set ?_ GE276.out | refine below_set ?_ GE277.out | refine below_set ?_ GE278.out | refine below_set ?_ GE279.out | refine below_set ?_ GE280.out | refine below_set ?_ GE281.out) | exact HB.out)) hb)
               clear hb ho680
               refine hK.out _ _ (cb6 BK280 (eb4 BK278)).out (fun hHeld => ?_)
               clear hK K
               refine norm_ (a' := ?_) ?_ ?_
               rotate_left
               ·show Act.put _ (some 107) _ = _
                simp only [Act.put, sA, sB, sC, i64_w, i32_w]
                rfl
               refine pure_ (i := 5) (N := some 15) (v := ?_) (a' := ?_) (bT 6 6) rfl rfl (by kernel_rfl) (fun _ _ _ h => h) (Or.inl ⟨by rfl, ?_⟩) ?_ ?_
               rotate_left
               ·intro w'
                go_simp
                with_reducible rfl
               rotate_left
               ·simp only [Act.put, sA, sB, sC, i64_w, i32_w]
                rfl
               refine done_ (by kernel_rfl) ?_
               try go_wp2
               go_ret3
               exact ⟨_, by first | rfl | (simp [errW_none, errW_some] <;> rfl) | (simp [*, errW_none, errW_some] <;> rfl), by (with_reducible repeat (first | apply Kd.R_alloc | apply Kd.R_drewN | apply Kd.R_drew)); exact Kd.R_mono HO320.out (fun _ hk => trivial), by repeat (first | (with_reducible first | exact HB.out | apply below_alloc | apply pw_below_drewN | apply below_drew1 | refine below_set ?_ GE274.out | refine below_set ?_ GE275.out | refine below_set ?_ GE276.out | refine below_set ?_ GE277.out | refine below_set ?_ GE278.out | refine below_set ?_ GE279.out | refine below_set ?_ GE280.out | refine below_set ?_ GE281.out) | exact HB.out)⟩
              ·rw [if_neg c632] at H
               have c632b0 : (a0.toList == ([112, 51, 109, 49] : List UInt8)) = false := beq_eq_false_iff_ne.mpr c632
               have c632b1 : (a0.toList != ([112, 51, 109, 49] : List UInt8)) = true := bne_iff_ne.mpr c632
               by_cases c681 : a0.toList = ([112, 51, 49, 109] : List UInt8)
               ·rw [if_pos c681] at H
                have c681b0 : (a0.toList == ([112, 51, 49, 109] : List UInt8)) = true := beq_iff_eq.mpr c681
                have c681b1 : (a0.toList != ([112, 51, 49, 109] : List UInt8)) = false := bne_eq_false_iff_eq.mpr c681
                clear c681
                obtain ⟨y321, hy321⟩ : ∃ y_ : List (S41), y_ = (([(⟨(⟨(-1), (-1), 1, 0⟩ : S37), (⟨0, 0⟩ : S39)⟩ : S41), (⟨(⟨1, 1, 0, (-1)⟩ : S37), (⟨0, 0⟩ : S39)⟩ : S41)] : List (S41))) := ⟨_, rfl⟩
                replace H : (some (1, y321, true)) = some (r1, r2, r3) := by first | (rw [hy321]; with_reducible exact H) | (have H2_ := (Option.bind_some _ _).symm.trans H; rw [hy321]; with_reducible exact H2_) | (have H2_ := (Option.bind_some _ _).symm.trans H; with_reducible exact H2_) | with_reducible exact H | (rw [hy321]; exact H) | exact H
                have Ny321 := Aside0.mk hy321
                clear hy321
                simp only [Option.some.injEq, Prod.mk.injEq] at H
                obtain ⟨rfl, rfl, rfl⟩ := H
                try go_wp2
                replace BK274 := asd (blk_drew BK274.out)
                replace BK275 := asd (blk_drew BK275.out)
                replace BK276 := asd (blk_drew BK276.out)
                replace BK277 := asd (blk_drew BK277.out)
                replace BK278 := asd (blk_drew BK278.out)
                replace BK279 := asd (blk_drew BK279.out)
                replace BK280 := asd (blk_drew BK280.out)
                replace BK281 := asd (blk_drew BK281.out)
                replace HB := asd (below_drew1 HB.out)
                refine sh 6 (eb6 BK280) (fun hHeld => ?_)
                generalize w628.drew = w727 at BK274 BK275 BK276 BK277 BK278 BK279 BK280 BK281 HB hHeld ⊢
                refine pure_ (i := 1) (N := some 111) (v := ?_) (a' := ?_) (bs 6 2) rfl rfl (by kernel_rfl) (fun _ _ _ h => h) (Or.inl ⟨by rfl, ?_⟩) ?_ ?_
                rotate_left
                ·intro w'
                 go_simp
                 with_reducible rfl
                rotate_left
                ·simp only [Act.put, sA, sB, sC, i64_w, i32_w]
                 rfl
                refine pure_ (i := 2) (N := some 112) (v := ?_) (a' := ?_) (bs 6 6) rfl rfl (by kernel_rfl) (fun _ _ _ h => h) (Or.inl ⟨by rfl, ?_⟩) ?_ ?_
                rotate_left
                ·intro w'
                 go_simp
                 with_reducible rfl
                rotate_left
                ·simp only [Act.put, sA, sB, sC, i64_w, i32_w]
                 rfl
                refine pure_ (i := 4) (N := some 16) (v := ?_) (a' := ?_) (bs 6 22) rfl rfl (by kernel_rfl) (fun _ _ _ h => h) (Or.inl ⟨by rfl, ?_⟩) ?_ ?_
                rotate_left
                ·intro w'
                 go_simp
                 with_reducible rfl
                rotate_left
                ·simp only [Act.put, sA, sB, sC, i64_w, i32_w]
                 rfl
                refine take_ (i := 0) (N := some 110) (v := ?_) (a' := ?_) (bs 6 23) rfl rfl (by kernel_rfl) (fun _ _ _ h => h) (Or.inl ⟨by rfl, ?_⟩) hHeld ?_ ?_
                rotate_left
                ·rintro w' ⟨s0, s1, s2, s3, s4, s5⟩
                 go_simp
                 with_reducible rfl
                rotate_left
                ·simp only [Act.put, sA, sB, sC, i64_w, i32_w]
                 rfl
                refine one_ (i := 3) (N := some 113) (bT 6 5) rfl rfl (by kernel_rfl) (by decide) (fun K hK => ?_)
                refine Kd.R_lit_step k41 _ 41 ?hg (N := 113) ?hd (xs := ([(⟨(⟨(-1), (-1), 1, 0⟩ : S37), (⟨0, 0⟩ : S39)⟩ : S41), (⟨(⟨1, 1, 0, (-1)⟩ : S37), (⟨0, 0⟩ : S39)⟩ : S41)] : List (S41))) (inner := [.int .i64 (-1), .int .i64 (-1), .int .i64 1, .int .i64 0, .int .i64 0, .int .i64 0, .int .i64 1, .int .i64 1, .int .i64 0, .int .i64 (-1), .int .i64 0, .int .i64 0]) (ok := fun _ => True) (okp := fun _ => True) ?hr ?hp (fun _ hk => hk) trivial (Below.refl _ _) (Nat.le_refl _) (by simp) ?_; (case hd => rfl); (case hg => rfl); (case hr => first | (go_simp; done) | (go_simp; rfl)); (case hp => exact (Reps.c6 (show Kd.M k41 _ _ _ (⟨(⟨(-1), (-1), 1, 0⟩ : S37), (⟨0, 0⟩ : S39)⟩ : S41) [.int .i64 (-1), .int .i64 (-1), .int .i64 1, .int .i64 0, .int .i64 0, .int .i64 0] from (k41_mkM _ _ _ (⟨(⟨(-1), (-1), 1, 0⟩ : S37), (⟨0, 0⟩ : S39)⟩ : S41) )) (Reps.c6 (show Kd.M k41 _ _ _ (⟨(⟨1, 1, 0, (-1)⟩ : S37), (⟨0, 0⟩ : S39)⟩ : S41) [.int .i64 1, .int .i64 1, .int .i64 0, .int .i64 (-1), .int .i64 0, .int .i64 0] from (k41_mkM _ _ _ (⟨(⟨1, 1, 0, (-1)⟩ : S37), (⟨0, 0⟩ : S39)⟩ : S41) )) (Reps.none _ _))))
                intro v322 w728 ho729 hb hg_ hnew_
                clear hg_ hnew_
                (first | rw [← Ny321.out] at ho729 | (simp only [Int.reduceToNat] at ho729; rw [← Ny321.out] at ho729))
                have HO323 := asd (Kd.R_lower (Kd.R_newB (Kd.R_newB (Kd.R_newB (Kd.R_newB ho729 (g := gb276) (o := .cells #[.int .i64 (-1), .int .i64 0, .int .i64 0, .int .i64 (-1), .int .i64 0, .int .i64 0] 41 (0, 0)) (bkp BK276)) (g := gb279) (o := .cells #[.int .i64 0, .int .i64 (-1), .int .i64 1, .int .i64 0, .int .i64 0, .int .i64 0] 41 (0, 0)) (bkp BK279)) (g := gb280) (o := .cells #[.int .i64 (-1), .int .i64 (-1), .int .i64 1, .int .i64 0, .int .i64 0, .int .i64 0] 41 (0, 0)) (bkp BK280)) (g := gb281) (o := .cells #[.int .i64 0, .int .i64 (-1), .int .i64 1, .int .i64 1, .int .i64 0, .int .i64 0] 41 (0, 0)) (bkp BK281)) (below_size (by repeat (first | (with_reducible first | exact HB.out | apply below_alloc | apply pw_below_drewN | apply below_drew1 | refine below_set ?_ GE274.out | refine below_set ?_ GE275.out | refine below_set ?_ GE276.out | refine below_set ?_ GE277.out | refine below_set ?_ GE278.out | refine below_set ?_ GE279.out | refine below_set ?_ GE280.out | refine below_set ?_ GE281.out) | exact HB.out))))
                replace BK274 := bB BK274 hb
                replace BK275 := bB BK275 hb
                replace BK276 := bB BK276 hb
                replace BK277 := bB BK277 hb
                replace BK278 := bB BK278 hb
                replace BK279 := bB BK279 hb
                replace BK280 := bB BK280 hb
                replace BK281 := bB BK281 hb
                replace HB := asd (below_step (by repeat (first | (with_reducible first | exact HB.out | apply below_alloc | apply pw_below_drewN | apply below_drew1 | refine below_set ?_ GE274.out | refine below_set ?_ GE275.out | refine below_set ?_ GE276.out | refine below_set ?_ GE277.out | refine below_set ?_ GE278.out | refine below_set ?_ GE279.out | refine below_set ?_ GE280.out | refine below_set ?_ GE281.out) | exact HB.out)) hb)
                clear hb ho729
                refine hK.out _ _ (eb6 BK280).out (fun hHeld => ?_)
                clear hK K
                refine norm_ (a' := ?_) ?_ ?_
                rotate_left
                ·show Act.put _ (some 113) _ = _
                 simp only [Act.put, sA, sB, sC, i64_w, i32_w]
                 rfl
                refine pure_ (i := 5) (N := some 15) (v := ?_) (a' := ?_) (bT 6 6) rfl rfl (by kernel_rfl) (fun _ _ _ h => h) (Or.inl ⟨by rfl, ?_⟩) ?_ ?_
                rotate_left
                ·intro w'
                 go_simp
                 with_reducible rfl
                rotate_left
                ·simp only [Act.put, sA, sB, sC, i64_w, i32_w]
                 rfl
                refine done_ (by kernel_rfl) ?_
                try go_wp2
                go_ret3
                exact ⟨_, by first | rfl | (simp [errW_none, errW_some] <;> rfl) | (simp [*, errW_none, errW_some] <;> rfl), by (with_reducible repeat (first | apply Kd.R_alloc | apply Kd.R_drewN | apply Kd.R_drew)); exact Kd.R_mono HO323.out (fun _ hk => trivial), by repeat (first | (with_reducible first | exact HB.out | apply below_alloc | apply pw_below_drewN | apply below_drew1 | refine below_set ?_ GE274.out | refine below_set ?_ GE275.out | refine below_set ?_ GE276.out | refine below_set ?_ GE277.out | refine below_set ?_ GE278.out | refine below_set ?_ GE279.out | refine below_set ?_ GE280.out | refine below_set ?_ GE281.out) | exact HB.out)⟩
               ·rw [if_neg c681] at H
                have c681b0 : (a0.toList == ([112, 51, 49, 109] : List UInt8)) = false := beq_eq_false_iff_ne.mpr c681
                have c681b1 : (a0.toList != ([112, 51, 49, 109] : List UInt8)) = true := bne_iff_ne.mpr c681
                by_cases c730 : a0.toList = ([112, 54] : List UInt8)
                ·rw [if_pos c730] at H
                 have c730b0 : (a0.toList == ([112, 54] : List UInt8)) = true := beq_iff_eq.mpr c730
                 have c730b1 : (a0.toList != ([112, 54] : List UInt8)) = false := bne_eq_false_iff_eq.mpr c730
                 clear c730
                 obtain ⟨y324, hy324⟩ : ∃ y_ : List (S41), y_ = (([(⟨(⟨0, (-1), 1, 1⟩ : S37), (⟨0, 0⟩ : S39)⟩ : S41)] : List (S41))) := ⟨_, rfl⟩
                 replace H : (some (1, y324, true)) = some (r1, r2, r3) := by first | (rw [hy324]; with_reducible exact H) | (have H2_ := (Option.bind_some _ _).symm.trans H; rw [hy324]; with_reducible exact H2_) | (have H2_ := (Option.bind_some _ _).symm.trans H; with_reducible exact H2_) | with_reducible exact H | (rw [hy324]; exact H) | exact H
                 have Ny324 := Aside0.mk hy324
                 clear hy324
                 simp only [Option.some.injEq, Prod.mk.injEq] at H
                 obtain ⟨rfl, rfl, rfl⟩ := H
                 try go_wp2
                 replace BK274 := asd (blk_drew BK274.out)
                 replace BK275 := asd (blk_drew BK275.out)
                 replace BK276 := asd (blk_drew BK276.out)
                 replace BK277 := asd (blk_drew BK277.out)
                 replace BK278 := asd (blk_drew BK278.out)
                 replace BK279 := asd (blk_drew BK279.out)
                 replace BK280 := asd (blk_drew BK280.out)
                 replace BK281 := asd (blk_drew BK281.out)
                 replace HB := asd (below_drew1 HB.out)
                 refine sh 4 (eb6 BK281) (fun hHeld => ?_)
                 generalize w628.drew = w776 at BK274 BK275 BK276 BK277 BK278 BK279 BK280 BK281 HB hHeld ⊢
                 refine pure_ (i := 2) (N := some 16) (v := ?_) (a' := ?_) #[false, false, true, false] rfl rfl (by kernel_rfl) (fun _ _ _ h => h) (Or.inl ⟨by rfl, ?_⟩) ?_ ?_
                 rotate_left
                 ·intro w'
                  go_simp
                  with_reducible rfl
                 rotate_left
                 ·simp only [Act.put, sA, sB, sC, i64_w, i32_w]
                  rfl
                 refine take_ (i := 0) (N := some 116) (v := ?_) (a' := ?_) #[true, false, true, false] rfl rfl (by kernel_rfl) (fun _ _ _ h => h) (Or.inl ⟨by rfl, ?_⟩) hHeld ?_ ?_
                 rotate_left
                 ·rintro w' ⟨s0, s1, s2, s3, s4, s5⟩
                  go_simp
                  with_reducible rfl
                 rotate_left
                 ·simp only [Act.put, sA, sB, sC, i64_w, i32_w]
                  rfl
                 refine one_ (i := 1) (N := some 117) (bT 4 3) rfl rfl (by kernel_rfl) (by decide) (fun K hK => ?_)
                 refine Kd.R_lit_step k41 _ 41 ?hg (N := 117) ?hd (xs := ([(⟨(⟨0, (-1), 1, 1⟩ : S37), (⟨0, 0⟩ : S39)⟩ : S41)] : List (S41))) (inner := [.int .i64 0, .int .i64 (-1), .int .i64 1, .int .i64 1, .int .i64 0, .int .i64 0]) (ok := fun _ => True) (okp := fun _ => True) ?hr ?hp (fun _ hk => hk) trivial (Below.refl _ _) (Nat.le_refl _) (by simp) ?_; (case hd => rfl); (case hg => rfl); (case hr => first | (go_simp; done) | (go_simp; rfl)); (case hp => exact (Reps.c6 (show Kd.M k41 _ _ _ (⟨(⟨0, (-1), 1, 1⟩ : S37), (⟨0, 0⟩ : S39)⟩ : S41) [.int .i64 0, .int .i64 (-1), .int .i64 1, .int .i64 1, .int .i64 0, .int .i64 0] from (k41_mkM _ _ _ (⟨(⟨0, (-1), 1, 1⟩ : S37), (⟨0, 0⟩ : S39)⟩ : S41) )) (Reps.none _ _)))
                 intro v325 w777 ho778 hb hg_ hnew_
                 clear hg_ hnew_
                 (first | rw [← Ny324.out] at ho778 | (simp only [Int.reduceToNat] at ho778; rw [← Ny324.out] at ho778))
                 have HO326 := asd (Kd.R_lower (Kd.R_newB (Kd.R_newB (Kd.R_newB (Kd.R_newB ho778 (g := gb276) (o := .cells #[.int .i64 (-1), .int .i64 0, .int .i64 0, .int .i64 (-1), .int .i64 0, .int .i64 0] 41 (0, 0)) (bkp BK276)) (g := gb279) (o := .cells #[.int .i64 0, .int .i64 (-1), .int .i64 1, .int .i64 0, .int .i64 0, .int .i64 0] 41 (0, 0)) (bkp BK279)) (g := gb280) (o := .cells #[.int .i64 (-1), .int .i64 (-1), .int .i64 1, .int .i64 0, .int .i64 0, .int .i64 0] 41 (0, 0)) (bkp BK280)) (g := gb281) (o := .cells #[.int .i64 0, .int .i64 (-1), .int .i64 1, .int .i64 1, .int .i64 0, .int .i64 0] 41 (0, 0)) (bkp BK281)) (below_size (by repeat (first | (with_reducible first | exact HB.out | apply below_alloc | apply pw_below_drewN | apply below_drew1 | refine below_set ?_ GE274.out | refine below_set ?_ GE275.out | refine below_set ?_ GE276.out | refine below_set ?_ GE277.out | refine below_set ?_ GE278.out | refine below_set ?_ GE279.out | refine below_set ?_ GE280.out | refine below_set ?_ GE281.out) | exact HB.out))))
                 replace BK274 := bB BK274 hb
                 replace BK275 := bB BK275 hb
                 replace BK276 := bB BK276 hb
                 replace BK277 := bB BK277 hb
                 replace BK278 := bB BK278 hb
                 replace BK279 := bB BK279 hb
                 replace BK280 := bB BK280 hb
                 replace BK281 := bB BK281 hb
                 replace HB := asd (below_step (by repeat (first | (with_reducible first | exact HB.out | apply below_alloc | apply pw_below_drewN | apply below_drew1 | refine below_set ?_ GE274.out | refine below_set ?_ GE275.out | refine below_set ?_ GE276.out | refine below_set ?_ GE277.out | refine below_set ?_ GE278.out | refine below_set ?_ GE279.out | refine below_set ?_ GE280.out | refine below_set ?_ GE281.out) | exact HB.out)) hb)
                 clear hb ho778
                 refine hK.out _ _ (eb6 BK281).out (fun hHeld => ?_)
                 clear hK K
                 refine norm_ (a' := ?_) ?_ ?_
                 rotate_left
                 ·show Act.put _ (some 117) _ = _
                  simp only [Act.put, sA, sB, sC, i64_w, i32_w]
                  rfl
                 refine pure_ (i := 3) (N := some 15) (v := ?_) (a' := ?_) (bT 4 4) rfl rfl (by kernel_rfl) (fun _ _ _ h => h) (Or.inl ⟨by rfl, ?_⟩) ?_ ?_
                 rotate_left
                 ·intro w'
                  go_simp
                  with_reducible rfl
                 rotate_left
                 ·simp only [Act.put, sA, sB, sC, i64_w, i32_w]
                  rfl
                 refine done_ (by kernel_rfl) ?_
                 try go_wp2
                 go_ret3
                 exact ⟨_, by first | rfl | (simp [errW_none, errW_some] <;> rfl) | (simp [*, errW_none, errW_some] <;> rfl), by (with_reducible repeat (first | apply Kd.R_alloc | apply Kd.R_drewN | apply Kd.R_drew)); exact Kd.R_mono HO326.out (fun _ hk => trivial), by repeat (first | (with_reducible first | exact HB.out | apply below_alloc | apply pw_below_drewN | apply below_drew1 | refine below_set ?_ GE274.out | refine below_set ?_ GE275.out | refine below_set ?_ GE276.out | refine below_set ?_ GE277.out | refine below_set ?_ GE278.out | refine below_set ?_ GE279.out | refine below_set ?_ GE280.out | refine below_set ?_ GE281.out) | exact HB.out)⟩
                ·rw [if_neg c730] at H
                 have c730b0 : (a0.toList == ([112, 54] : List UInt8)) = false := beq_eq_false_iff_ne.mpr c730
                 have c730b1 : (a0.toList != ([112, 54] : List UInt8)) = true := bne_iff_ne.mpr c730
                 by_cases c779 : a0.toList = ([112, 54, 109] : List UInt8)
                 ·rw [if_pos c779] at H
                  have c779b0 : (a0.toList == ([112, 54, 109] : List UInt8)) = true := beq_iff_eq.mpr c779
                  have c779b1 : (a0.toList != ([112, 54, 109] : List UInt8)) = false := bne_eq_false_iff_eq.mpr c779
                  clear c779
                  obtain ⟨y327, hy327⟩ : ∃ y_ : List (S41), y_ = (([(⟨(⟨0, (-1), 1, 1⟩ : S37), (⟨0, 0⟩ : S39)⟩ : S41), (⟨(⟨0, 1, 1, 0⟩ : S37), (⟨0, 0⟩ : S39)⟩ : S41)] : List (S41))) := ⟨_, rfl⟩
                  replace H : (some (1, y327, true)) = some (r1, r2, r3) := by first | (rw [hy327]; with_reducible exact H) | (have H2_ := (Option.bind_some _ _).symm.trans H; rw [hy327]; with_reducible exact H2_) | (have H2_ := (Option.bind_some _ _).symm.trans H; with_reducible exact H2_) | with_reducible exact H | (rw [hy327]; exact H) | exact H
                  have Ny327 := Aside0.mk hy327
                  clear hy327
                  simp only [Option.some.injEq, Prod.mk.injEq] at H
                  obtain ⟨rfl, rfl, rfl⟩ := H
                  try go_wp2
                  replace BK274 := asd (blk_drew BK274.out)
                  replace BK275 := asd (blk_drew BK275.out)
                  replace BK276 := asd (blk_drew BK276.out)
                  replace BK277 := asd (blk_drew BK277.out)
                  replace BK278 := asd (blk_drew BK278.out)
                  replace BK279 := asd (blk_drew BK279.out)
                  replace BK280 := asd (blk_drew BK280.out)
                  replace BK281 := asd (blk_drew BK281.out)
                  replace HB := asd (below_drew1 HB.out)
                  refine sh 6 (cb6 BK281 (eb4 BK278)) (fun hHeld => ?_)
                  generalize w628.drew = w825 at BK274 BK275 BK276 BK277 BK278 BK279 BK280 BK281 HB hHeld ⊢
                  refine pure_ (i := 4) (N := some 16) (v := ?_) (a' := ?_) (bs 6 16) rfl rfl (by kernel_rfl) (fun _ _ _ h => h) (Or.inl ⟨by rfl, ?_⟩) ?_ ?_
                  rotate_left
                  ·intro w'
                   go_simp
                   with_reducible rfl
                  rotate_left
                  ·simp only [Act.put, sA, sB, sC, i64_w, i32_w]
                   rfl
                  refine take_ (i := 0) (N := some 120) (v := ?_) (a' := ?_) (bs 6 17) rfl rfl (by kernel_rfl) (fun _ _ _ h => h) (Or.inl ⟨by rfl, ?_⟩) hHeld ?_ ?_
                  rotate_left
                  ·rintro w' ⟨s0, s1, s2, s3, s4, s5, s6, s7, s8, s9⟩
                   go_simp
                   with_reducible rfl
                  rotate_left
                  ·simp only [Act.put, sA, sB, sC, i64_w, i32_w]
                   rfl
                  refine take_ (i := 1) (N := some 121) (v := ?_) (a' := ?_) (bs 6 19) rfl rfl (by kernel_rfl) (fun _ _ _ h => h) (Or.inl ⟨by rfl, ?_⟩) hHeld ?_ ?_
                  rotate_left
                  ·rintro w' ⟨s0, s1, s2, s3, s4, s5, s6, s7, s8, s9⟩
                   go_simp
                   with_reducible rfl
                  rotate_left
                  ·simp only [Act.put, sA, sB, sC, i64_w, i32_w]
                   rfl
                  refine pure_ (i := 2) (N := some 122) (v := ?_) (a' := ?_) (bs 6 23) rfl rfl (by kernel_rfl) (fun _ _ _ h => h) (Or.inl ⟨by rfl, ?_⟩) ?_ ?_
                  rotate_left
                  ·intro w'
                   go_simp
                   with_reducible rfl
                  rotate_left
                  ·simp only [Act.put, sA, sB, sC, i64_w, i32_w]
                   rfl
                  refine one_ (i := 3) (N := some 123) (bT 6 5) rfl rfl (by kernel_rfl) (by decide) (fun K hK => ?_)
                  refine Kd.R_lit_step k41 _ 41 ?hg (N := 123) ?hd (xs := ([(⟨(⟨0, (-1), 1, 1⟩ : S37), (⟨0, 0⟩ : S39)⟩ : S41), (⟨(⟨0, 1, 1, 0⟩ : S37), (⟨0, 0⟩ : S39)⟩ : S41)] : List (S41))) (inner := [.int .i64 0, .int .i64 (-1), .int .i64 1, .int .i64 1, .int .i64 0, .int .i64 0, .int .i64 0, .int .i64 1, .int .i64 1, .int .i64 0, .int .i64 0, .int .i64 0]) (ok := fun _ => True) (okp := fun _ => True) ?hr ?hp (fun _ hk => hk) trivial (Below.refl _ _) (Nat.le_refl _) (by simp) ?_; (case hd => rfl); (case hg => rfl); (case hr => first | (go_simp; done) | (go_simp; rfl)); (case hp => exact (Reps.c6 (show Kd.M k41 _ _ _ (⟨(⟨0, (-1), 1, 1⟩ : S37), (⟨0, 0⟩ : S39)⟩ : S41) [.int .i64 0, .int .i64 (-1), .int .i64 1, .int .i64 1, .int .i64 0, .int .i64 0] from (k41_mkM _ _ _ (⟨(⟨0, (-1), 1, 1⟩ : S37), (⟨0, 0⟩ : S39)⟩ : S41) )) (Reps.c6 (show Kd.M k41 _ _ _ (⟨(⟨0, 1, 1, 0⟩ : S37), (⟨0, 0⟩ : S39)⟩ : S41) [.int .i64 0, .int .i64 1, .int .i64 1, .int .i64 0, .int .i64 0, .int .i64 0] from (k41_mkM _ _ _ (⟨(⟨0, 1, 1, 0⟩ : S37), (⟨0, 0⟩ : S39)⟩ : S41) )) (Reps.none _ _))))
                  intro v328 w826 ho827 hb hg_ hnew_
                  clear hg_ hnew_
                  (first | rw [← Ny327.out] at ho827 | (simp only [Int.reduceToNat] at ho827; rw [← Ny327.out] at ho827))
                  have HO329 := asd (Kd.R_lower (Kd.R_newB (Kd.R_newB (Kd.R_newB (Kd.R_newB ho827 (g := gb276) (o := .cells #[.int .i64 (-1), .int .i64 0, .int .i64 0, .int .i64 (-1), .int .i64 0, .int .i64 0] 41 (0, 0)) (bkp BK276)) (g := gb279) (o := .cells #[.int .i64 0, .int .i64 (-1), .int .i64 1, .int .i64 0, .int .i64 0, .int .i64 0] 41 (0, 0)) (bkp BK279)) (g := gb280) (o := .cells #[.int .i64 (-1), .int .i64 (-1), .int .i64 1, .int .i64 0, .int .i64 0, .int .i64 0] 41 (0, 0)) (bkp BK280)) (g := gb281) (o := .cells #[.int .i64 0, .int .i64 (-1), .int .i64 1, .int .i64 1, .int .i64 0, .int .i64 0] 41 (0, 0)) (bkp BK281)) (below_size (by repeat (first | (with_reducible first | exact HB.out | apply below_alloc | apply pw_below_drewN | apply below_drew1 | refine below_set ?_ GE274.out | refine below_set ?_ GE275.out | refine below_set ?_ GE276.out | refine below_set ?_ GE277.out | refine below_set ?_ GE278.out | refine below_set ?_ GE279.out | refine below_set ?_ GE280.out | refine below_set ?_ GE281.out) | exact HB.out))))
                  replace BK274 := bB BK274 hb
                  replace BK275 := bB BK275 hb
                  replace BK276 := bB BK276 hb
                  replace BK277 := bB BK277 hb
                  replace BK278 := bB BK278 hb
                  replace BK279 := bB BK279 hb
                  replace BK280 := bB BK280 hb
                  replace BK281 := bB BK281 hb
                  replace HB := asd (below_step (by repeat (first | (with_reducible first | exact HB.out | apply below_alloc | apply pw_below_drewN | apply below_drew1 | refine below_set ?_ GE274.out | refine below_set ?_ GE275.out | refine below_set ?_ GE276.out | refine below_set ?_ GE277.out | refine below_set ?_ GE278.out | refine below_set ?_ GE279.out | refine below_set ?_ GE280.out | refine below_set ?_ GE281.out) | exact HB.out)) hb)
                  clear hb ho827
                  refine hK.out _ _ (cb6 BK281 (eb4 BK278)).out (fun hHeld => ?_)
                  clear hK K
                  refine norm_ (a' := ?_) ?_ ?_
                  rotate_left
                  ·show Act.put _ (some 123) _ = _
                   simp only [Act.put, sA, sB, sC, i64_w, i32_w]
                   rfl
                  refine pure_ (i := 5) (N := some 15) (v := ?_) (a' := ?_) (bT 6 6) rfl rfl (by kernel_rfl) (fun _ _ _ h => h) (Or.inl ⟨by rfl, ?_⟩) ?_ ?_
                  rotate_left
                  ·intro w'
                   go_simp
                   with_reducible rfl
                  rotate_left
                  ·simp only [Act.put, sA, sB, sC, i64_w, i32_w]
                   rfl
                  refine done_ (by kernel_rfl) ?_
                  try go_wp2
                  go_ret3
                  exact ⟨_, by first | rfl | (simp [errW_none, errW_some] <;> rfl) | (simp [*, errW_none, errW_some] <;> rfl), by (with_reducible repeat (first | apply Kd.R_alloc | apply Kd.R_drewN | apply Kd.R_drew)); exact Kd.R_mono HO329.out (fun _ hk => trivial), by repeat (first | (with_reducible first | exact HB.out | apply below_alloc | apply pw_below_drewN | apply below_drew1 | refine below_set ?_ GE274.out | refine below_set ?_ GE275.out | refine below_set ?_ GE276.out | refine below_set ?_ GE277.out | refine below_set ?_ GE278.out | refine below_set ?_ GE279.out | refine below_set ?_ GE280.out | refine below_set ?_ GE281.out) | exact HB.out)⟩
                 ·rw [if_neg c779] at H
                  have c779b0 : (a0.toList == ([112, 54, 109] : List UInt8)) = false := beq_eq_false_iff_ne.mpr c779
                  have c779b1 : (a0.toList != ([112, 54, 109] : List UInt8)) = true := bne_iff_ne.mpr c779
                  simp only [Option.some.injEq, Prod.mk.injEq] at H
                  obtain ⟨rfl, rfl, rfl⟩ := H
                  go_wp2
                  go_ret3
                  exact ⟨_, by first | rfl | (simp [errW_none, errW_some] <;> rfl) | (simp [*, errW_none, errW_some] <;> rfl), by first | exact Kd.R_nil _ _ _ _ _ | exact Kd.N_nil _ _ _ _ _ | exact Kd.V_nil _ _ _ _ _ | exact Kd.Q_nil _ _ _ _ _ | exact Kd.S_nil _ _ _ _ _, by repeat (first | (with_reducible first | exact HB.out | apply below_alloc | apply pw_below_drewN | apply below_drew1 | refine below_set ?_ GE274.out | refine below_set ?_ GE275.out | refine below_set ?_ GE276.out | refine below_set ?_ GE277.out | refine below_set ?_ GE278.out | refine below_set ?_ GE279.out | refine below_set ?_ GE280.out | refine below_set ?_ GE281.out) | exact HB.out)⟩
end Go.Proofs.Ytdodghjnlekgeaa.PA
