/- Walks written by program: each Go function that the law reaches comes to the plain function beside it. -/
import Derived.Test.YtdodghjnlekgeaaPAx0
namespace Go.Proofs.Ytdodghjnlekgeaa.PA
open Go.RowKit Go.Proofs.YtdodghjnlekgeaaW.PrintWords Go.Proofs.YtdodghjnlekgeaaW.PrintLast Go.Proofs.YtdodghjnlekgeaaW.PrintMore
attribute [local go_sem] max2_int min2_int max_two min_two max_three min_three max_four min_four   -- for this text's walks alone
set_option linter.unusedVariables false
set_option linter.unusedSimpArgs false

/-! ### spec_l13Motions: function 10 -/
def spec_l13Motions.f (a0 : ByteArray) (a1 : Int) : Option (Int × (List (S41)) × Bool) := if a0.toList = ([112, 49] : List UInt8) then (some (0, ([] : List (S41)), true)) else (if a0.toList = ([112, 50] : List UInt8) then (some (0, (([(⟨(⟨(-1), 0, 0, (-1)⟩ : S37), (⟨0, 0⟩ : S39)⟩ : S41)] : List (S41))), true)) else (if a0.toList = ([112, 109] : List UInt8) then (some (0, (([(⟨(⟨1, 0, 0, (-1)⟩ : S37), (⟨0, 0⟩ : S39)⟩ : S41)] : List (S41))), true)) else (if a0.toList = ([112, 103] : List UInt8) then (some (0, (([(⟨(⟨1, 0, 0, (-1)⟩ : S37), (⟨a1, 0⟩ : S39)⟩ : S41)] : List (S41))), true)) else (if a0.toList = ([99, 109] : List UInt8) then (some (0, (([(⟨(⟨0, 1, 1, 0⟩ : S37), (⟨0, 0⟩ : S39)⟩ : S41)] : List (S41))), true)) else (if a0.toList = ([112, 109, 109] : List UInt8) then (some (0, (([(⟨(⟨1, 0, 0, (-1)⟩ : S37), (⟨0, 0⟩ : S39)⟩ : S41), (⟨(⟨(-1), 0, 0, (-1)⟩ : S37), (⟨0, 0⟩ : S39)⟩ : S41)] : List (S41))), true)) else (if a0.toList = ([112, 109, 103] : List UInt8) then (some (0, (([(⟨(⟨1, 0, 0, (-1)⟩ : S37), (⟨a1, 0⟩ : S39)⟩ : S41), (⟨(⟨(-1), 0, 0, (-1)⟩ : S37), (⟨0, 0⟩ : S39)⟩ : S41)] : List (S41))), true)) else (if a0.toList = ([112, 103, 103] : List UInt8) then (some (0, (([(⟨(⟨1, 0, 0, (-1)⟩ : S37), (⟨a1, a1⟩ : S39)⟩ : S41), (⟨(⟨(-1), 0, 0, (-1)⟩ : S37), (⟨0, 0⟩ : S39)⟩ : S41)] : List (S41))), true)) else (if a0.toList = ([99, 109, 109] : List UInt8) then (some (0, (([(⟨(⟨0, 1, 1, 0⟩ : S37), (⟨0, 0⟩ : S39)⟩ : S41), (⟨(⟨(-1), 0, 0, (-1)⟩ : S37), (⟨0, 0⟩ : S39)⟩ : S41)] : List (S41))), true)) else (if a0.toList = ([112, 52] : List UInt8) then (some (0, (([(⟨(⟨0, (-1), 1, 0⟩ : S37), (⟨0, 0⟩ : S39)⟩ : S41)] : List (S41))), true)) else (if a0.toList = ([112, 52, 109] : List UInt8) then (some (0, (([(⟨(⟨0, (-1), 1, 0⟩ : S37), (⟨0, 0⟩ : S39)⟩ : S41), (⟨(⟨1, 0, 0, (-1)⟩ : S37), (⟨0, 0⟩ : S39)⟩ : S41)] : List (S41))), true)) else (if a0.toList = ([112, 52, 103] : List UInt8) then (some (0, (([(⟨(⟨0, (-1), 1, 0⟩ : S37), (⟨0, 0⟩ : S39)⟩ : S41), (⟨(⟨1, 0, 0, (-1)⟩ : S37), (⟨a1, a1⟩ : S39)⟩ : S41)] : List (S41))), true)) else (if a0.toList = ([112, 51] : List UInt8) then (some (1, (([(⟨(⟨(-1), (-1), 1, 0⟩ : S37), (⟨0, 0⟩ : S39)⟩ : S41)] : List (S41))), true)) else (if a0.toList = ([112, 51, 109, 49] : List UInt8) then (some (1, (([(⟨(⟨(-1), (-1), 1, 0⟩ : S37), (⟨0, 0⟩ : S39)⟩ : S41), (⟨(⟨0, 1, 1, 0⟩ : S37), (⟨0, 0⟩ : S39)⟩ : S41)] : List (S41))), true)) else (if a0.toList = ([112, 51, 49, 109] : List UInt8) then (some (1, (([(⟨(⟨(-1), (-1), 1, 0⟩ : S37), (⟨0, 0⟩ : S39)⟩ : S41), (⟨(⟨1, 1, 0, (-1)⟩ : S37), (⟨0, 0⟩ : S39)⟩ : S41)] : List (S41))), true)) else (if a0.toList = ([112, 54] : List UInt8) then (some (1, (([(⟨(⟨0, (-1), 1, 1⟩ : S37), (⟨0, 0⟩ : S39)⟩ : S41)] : List (S41))), true)) else (if a0.toList = ([112, 54, 109] : List UInt8) then (some (1, (([(⟨(⟨0, (-1), 1, 1⟩ : S37), (⟨0, 0⟩ : S39)⟩ : S41), (⟨(⟨0, 1, 1, 0⟩ : S37), (⟨0, 0⟩ : S39)⟩ : S41)] : List (S41))), true)) else (some (0, ([] : List (S41)), false))))))))))))))))))
def spec_l13Motions.T2 : Bool × List (List Nat × List Nat) := (true, [([], []), ([0], [0]), ([], []), ([2], [2]), ([1, 3], [1, 3]), ([], []), ([5], [5]), ([], []), ([], []), ([7, 8], [7, 8]), ([6, 9], [6, 9]), ([], []), ([], []), ([11, 4, 0, 1, 2, 3, 4, 11, 12], [4, 11]), ([12, 10, 13, 0, 1, 2, 3, 4, 5, 6, 7, 8, 9, 10, 11, 12, 13], [10, 12])])
def spec_l13Motions.B2 : List Nat := [0, 1, 0, 4, 15, 0, 32, 0, 0, 384, 992, 0, 0, 6175, 16383]
theorem spec_l13Motions.tab2 : rtab .any (opsOf Try.f10 2) = spec_l13Motions.T2 := by kernel_rfl
theorem spec_l13Motions.bits2 : waitsOk spec_l13Motions.T2.2 spec_l13Motions.B2 = true := by kernel_rfl
set_option maxHeartbeats 8000000 in
set_option maxRecDepth 100000 in
theorem spec_l13Motions.calls (a0 : ByteArray) (a1 : Int) (r1 : Int) (r2 : List (S41)) (r3 : Bool) (w : World) (h : spec_l13Motions.f a0 a1 = some (r1, r2, r3)) :
  Calls Try.prog 10 #[.string a0, .int .i64 a1] w fun e w' => ∃ v1_ : Value, e = .returned (.tuple #[.int .i64 r1, v1_, .bool r3]) ∧ Kd.R k41 41 w' w.heap.size (fun _ => True) v1_ r2 ∧ Below w.heap.size w w' := by
 have hu37 := Try.underlying37
 have hu41 := Try.underlying41
 have hu39 := Try.underlying39
 have HB := asd (Below.refl w.heap.size w)
 have H : (if a0.toList = ([112, 49] : List UInt8) then (some (0, ([] : List (S41)), true)) else (if a0.toList = ([112, 50] : List UInt8) then (some (0, (([(⟨(⟨(-1), 0, 0, (-1)⟩ : S37), (⟨0, 0⟩ : S39)⟩ : S41)] : List (S41))), true)) else (if a0.toList = ([112, 109] : List UInt8) then (some (0, (([(⟨(⟨1, 0, 0, (-1)⟩ : S37), (⟨0, 0⟩ : S39)⟩ : S41)] : List (S41))), true)) else (if a0.toList = ([112, 103] : List UInt8) then (some (0, (([(⟨(⟨1, 0, 0, (-1)⟩ : S37), (⟨a1, 0⟩ : S39)⟩ : S41)] : List (S41))), true)) else (if a0.toList = ([99, 109] : List UInt8) then (some (0, (([(⟨(⟨0, 1, 1, 0⟩ : S37), (⟨0, 0⟩ : S39)⟩ : S41)] : List (S41))), true)) else (if a0.toList = ([112, 109, 109] : List UInt8) then (some (0, (([(⟨(⟨1, 0, 0, (-1)⟩ : S37), (⟨0, 0⟩ : S39)⟩ : S41), (⟨(⟨(-1), 0, 0, (-1)⟩ : S37), (⟨0, 0⟩ : S39)⟩ : S41)] : List (S41))), true)) else (if a0.toList = ([112, 109, 103] : List UInt8) then (some (0, (([(⟨(⟨1, 0, 0, (-1)⟩ : S37), (⟨a1, 0⟩ : S39)⟩ : S41), (⟨(⟨(-1), 0, 0, (-1)⟩ : S37), (⟨0, 0⟩ : S39)⟩ : S41)] : List (S41))), true)) else (if a0.toList = ([112, 103, 103] : List UInt8) then (some (0, (([(⟨(⟨1, 0, 0, (-1)⟩ : S37), (⟨a1, a1⟩ : S39)⟩ : S41), (⟨(⟨(-1), 0, 0, (-1)⟩ : S37), (⟨0, 0⟩ : S39)⟩ : S41)] : List (S41))), true)) else (if a0.toList = ([99, 109, 109] : List UInt8) then (some (0, (([(⟨(⟨0, 1, 1, 0⟩ : S37), (⟨0, 0⟩ : S39)⟩ : S41), (⟨(⟨(-1), 0, 0, (-1)⟩ : S37), (⟨0, 0⟩ : S39)⟩ : S41)] : List (S41))), true)) else (if a0.toList = ([112, 52] : List UInt8) then (some (0, (([(⟨(⟨0, (-1), 1, 0⟩ : S37), (⟨0, 0⟩ : S39)⟩ : S41)] : List (S41))), true)) else (if a0.toList = ([112, 52, 109] : List UInt8) then (some (0, (([(⟨(⟨0, (-1), 1, 0⟩ : S37), (⟨0, 0⟩ : S39)⟩ : S41), (⟨(⟨1, 0, 0, (-1)⟩ : S37), (⟨0, 0⟩ : S39)⟩ : S41)] : List (S41))), true)) else (if a0.toList = ([112, 52, 103] : List UInt8) then (some (0, (([(⟨(⟨0, (-1), 1, 0⟩ : S37), (⟨0, 0⟩ : S39)⟩ : S41), (⟨(⟨1, 0, 0, (-1)⟩ : S37), (⟨a1, a1⟩ : S39)⟩ : S41)] : List (S41))), true)) else (if a0.toList = ([112, 51] : List UInt8) then (some (1, (([(⟨(⟨(-1), (-1), 1, 0⟩ : S37), (⟨0, 0⟩ : S39)⟩ : S41)] : List (S41))), true)) else (if a0.toList = ([112, 51, 109, 49] : List UInt8) then (some (1, (([(⟨(⟨(-1), (-1), 1, 0⟩ : S37), (⟨0, 0⟩ : S39)⟩ : S41), (⟨(⟨0, 1, 1, 0⟩ : S37), (⟨0, 0⟩ : S39)⟩ : S41)] : List (S41))), true)) else (if a0.toList = ([112, 51, 49, 109] : List UInt8) then (some (1, (([(⟨(⟨(-1), (-1), 1, 0⟩ : S37), (⟨0, 0⟩ : S39)⟩ : S41), (⟨(⟨1, 1, 0, (-1)⟩ : S37), (⟨0, 0⟩ : S39)⟩ : S41)] : List (S41))), true)) else (if a0.toList = ([112, 54] : List UInt8) then (some (1, (([(⟨(⟨0, (-1), 1, 1⟩ : S37), (⟨0, 0⟩ : S39)⟩ : S41)] : List (S41))), true)) else (if a0.toList = ([112, 54, 109] : List UInt8) then (some (1, (([(⟨(⟨0, (-1), 1, 1⟩ : S37), (⟨0, 0⟩ : S39)⟩ : S41), (⟨(⟨0, 1, 1, 0⟩ : S37), (⟨0, 0⟩ : S39)⟩ : S41)] : List (S41))), true)) else (some (0, ([] : List (S41)), false))))))))))))))))))) = some (r1, r2, r3) := h
 clear h
 have HP_ := Aside0.mk H
 clear H
 go_enter Try.func10, Try.ntmps10
 try go_wp2_with (first | ((with_reducible refine gd 7 rfl ?_); refine bx #[.int .i64 0, .int .i64 0, .int .i64 0, .int .i64 0, .int .i64 0, .int .i64 0] 41 ?_; intro gb101 hg w55 BK101 hb; have GE101 := ngw0 hg HB; replace HB := bS0 HB hb; clear hb hg) | ((with_reducible refine gd 8 rfl ?_); refine bx #[.int .i64 0, .int .i64 0, .int .i64 0, .int .i64 0, .int .i64 0, .int .i64 0] 41 ?_; intro gb102 hg w56 BK102 hb; have GE102 := ngw1 hg HB GE101; replace HB := bS1 HB GE101 hb; have NB101_102 := nlt hg BK101; have NB102_101 := nsy (nlt hg BK101); replace BK101 := bB BK101 hb; clear hb hg) | ((with_reducible refine gd 9 rfl ?_); refine bx #[.int .i64 0, .int .i64 0, .int .i64 0, .int .i64 0, .int .i64 0, .int .i64 0] 41 ?_; intro gb103 hg w57 BK103 hb; have GE103 := ngw2 hg HB GE101 GE102; replace HB := bS2 HB GE101 GE102 hb; have NB101_103 := nlt hg BK101; have NB103_101 := nsy (nlt hg BK101); replace BK101 := bB BK101 hb; have NB102_103 := nlt hg BK102; have NB103_102 := nsy (nlt hg BK102); replace BK102 := bB BK102 hb; clear hb hg; have hnb58 := NB101_102.out; have hnc58 := NB102_101.out; have hnb59 := NB101_103.out; have hnc59 := NB103_101.out; obtain ⟨hcz60_0, hcz60_1, hcz60_2, hcz60_3, hcz60_4, hcz60_5, hfz60_0, hfz60_1, hfz60_2, hfz60_3, hfz60_4, hfz60_5⟩ := bz6 BK101; have hnb61 := NB102_103.out; have hnc61 := NB103_102.out; obtain ⟨hcz62_0, hcz62_1, hcz62_2, hcz62_3, hcz62_4, hcz62_5, hfz62_0, hfz62_1, hfz62_2, hfz62_3, hfz62_4, hfz62_5⟩ := bz6 BK102; obtain ⟨hcz63_0, hcz63_1, hcz63_2, hcz63_3, hcz63_4, hcz63_5, hfz63_0, hfz63_1, hfz63_2, hfz63_3, hfz63_4, hfz63_5⟩ := bz6 BK103))
 obtain ⟨w64, h_w64⟩ : ∃ w_, ((((((((((((((((((w57.setCell ⟨gb101, 0, none⟩ (.int .i64 (-1))).setCell ⟨gb101, 1, none⟩ (.int .i64 0)).setCell ⟨gb101, 2, none⟩ (.int .i64 0)).setCell ⟨gb101, 3, none⟩ (.int .i64 (-1))).setCell ⟨gb101, 4, none⟩ (.int .i64 0)).setCell ⟨gb101, 5, none⟩ (.int .i64 0)).setCell ⟨gb102, 0, none⟩ (.int .i64 1)).setCell ⟨gb102, 1, none⟩ (.int .i64 0)).setCell ⟨gb102, 2, none⟩ (.int .i64 0)).setCell ⟨gb102, 3, none⟩ (.int .i64 (-1))).setCell ⟨gb102, 4, none⟩ (.int .i64 0)).setCell ⟨gb102, 5, none⟩ (.int .i64 0)).setCell ⟨gb103, 0, none⟩ (.int .i64 0)).setCell ⟨gb103, 1, none⟩ (.int .i64 1)).setCell ⟨gb103, 2, none⟩ (.int .i64 1)).setCell ⟨gb103, 3, none⟩ (.int .i64 0)).setCell ⟨gb103, 4, none⟩ (.int .i64 0)).setCell ⟨gb103, 5, none⟩ (.int .i64 0)) = w_ := ⟨_, rfl⟩
 replace BK101 : Aside0 (w64.heap[gb101]? = some (.cells #[.int .i64 (-1), .int .i64 0, .int .i64 0, .int .i64 (-1), .int .i64 0, .int .i64 0] 41 (0, 0))) := by rw [← h_w64]; exact ⟨bq2 BK101 NB101_103 NB101_102⟩
 replace BK102 : Aside0 (w64.heap[gb102]? = some (.cells #[.int .i64 1, .int .i64 0, .int .i64 0, .int .i64 (-1), .int .i64 0, .int .i64 0] 41 (0, 0))) := by rw [← h_w64]; exact ⟨bq2 BK102 NB102_103 NB102_101⟩
 replace BK103 : Aside0 (w64.heap[gb103]? = some (.cells #[.int .i64 0, .int .i64 1, .int .i64 1, .int .i64 0, .int .i64 0, .int .i64 0] 41 (0, 0))) := by rw [← h_w64]; exact ⟨bq2 BK103 NB103_102 NB103_101⟩
 replace HB : Aside0 (Below w.heap.size w w64) := by rw [← h_w64]; exact ⟨bbw3 HB GE101 GE102 GE103⟩
 (try rw [h_w64]); clear h_w64
 replace BK101 := asd (blk_drew BK101.out)
 replace BK102 := asd (blk_drew BK102.out)
 replace BK103 := asd (blk_drew BK103.out)
 replace HB := asd (below_drew1 HB.out)
 refine sh 15 (eb6 BK102) (fun hHeld => ?_); refine with_tabW spec_l13Motions.tab2 spec_l13Motions.bits2 (fun HT_ HW_ => ?_)
 generalize w64.drew = w65 at BK101 BK102 BK103 HB hHeld ⊢
 refine pu 0 (some 21) (bT 15 1) HT_ ?_
 refine pu 2 (some 23) (bs 15 5) HT_ ?_
 refine pu 3 (some 24) (bs 15 13) HT_ ?_
 refine pu 5 (some 26) (bs 15 45) HT_ ?_
 refine pu 7 (some 28) (bs 15 173) HT_ ?_
 refine pu 8 (some 29) (bs 15 429) HT_ ?_
 refine pu 9 (some 30) (bs 15 941) HT_ ?_
 refine ta 1 (some 22) (bs 15 943) HT_ HW_ hHeld ?_
 refine pu 4 (some 25) (bs 15 959) HT_ ?_
 refine ta 6 (some 27) (bT 15 10) HT_ HW_ hHeld ?_
 refine pu 10 (some 31) (bT 15 11) HT_ ?_
 refine join_ (σ := Nat × Nat) 2 (bT 15 13) (fun s_ => [(10, .pointer (some ⟨s_.1, 0, none⟩)), (11, .pointer (some ⟨s_.2, 0, none⟩))]) (fun s_ w' => (w'.cell? ⟨gb102, 0, none⟩ = some (.int .i64 1) ∧ w'.cell? ⟨gb102, 1, none⟩ = some (.int .i64 0) ∧ w'.cell? ⟨gb102, 2, none⟩ = some (.int .i64 0) ∧ w'.cell? ⟨gb102, 3, none⟩ = some (.int .i64 (-1)) ∧ w'.cell? ⟨gb102, 4, none⟩ = some (.int .i64 0) ∧ w'.cell? ⟨gb102, 5, none⟩ = some (.int .i64 0)) ∧ (w'.heap[gb101]? = some (.cells #[.int .i64 (-1), .int .i64 0, .int .i64 0, .int .i64 (-1), .int .i64 0, .int .i64 0] 41 (0, 0))) ∧ (w'.heap[gb102]? = some (.cells #[.int .i64 1, .int .i64 0, .int .i64 0, .int .i64 (-1), .int .i64 0, .int .i64 0] 41 (0, 0))) ∧ (w'.heap[gb103]? = some (.cells #[.int .i64 0, .int .i64 1, .int .i64 1, .int .i64 0, .int .i64 0, .int .i64 0] 41 (0, 0))) ∧ (w'.heap[s_.1]? = some (.cells #[.int .i64 0, .int .i64 0, .int .i64 0, .int .i64 0, .int .i64 0, .int .i64 0] 41 (0, 0))) ∧ (w'.heap[s_.2]? = some (.cells #[.int .i64 0, .int .i64 0, .int .i64 0, .int .i64 0, .int .i64 0, .int .i64 0] 41 (0, 0))) ∧ (w.heap.size ≤ s_.1) ∧ (w.heap.size ≤ s_.1) ∧ (gb101 ≠ s_.1) ∧ (s_.1 ≠ gb101) ∧ (gb102 ≠ s_.1) ∧ (s_.1 ≠ gb102) ∧ (gb103 ≠ s_.1) ∧ (s_.1 ≠ gb103) ∧ (s_.2 ≠ s_.1) ∧ (s_.1 ≠ s_.2) ∧ (w.heap.size ≤ s_.2) ∧ (w.heap.size ≤ s_.2) ∧ (gb101 ≠ s_.2) ∧ (s_.2 ≠ gb101) ∧ (gb102 ≠ s_.2) ∧ (s_.2 ≠ gb102) ∧ (gb103 ≠ s_.2) ∧ (s_.2 ≠ gb103) ∧ (Below w.heap.size w w')) ?_ ?_
 rotate_left
 ·intro hCont
  refine two_ (i := 11) (j := 12) (Ni := some 10) (Nj := some 11) (bT 15 12) (bs 15 6143) rfl rfl rfl rfl (two_of HT_.out (by kernel_rfl)) (by decide) (by decide) (fun K hK => ?_) (fun K hK => ?_)
  ·skip
   refine box_step ?hg (N := 10) ?hd (cs := #[.int .i64 0, .int .i64 0, .int .i64 0, .int .i64 0, .int .i64 0, .int .i64 0]) (t := 41) ?hr ?_; (case hd => rfl); (case hg => rfl); (case hr => first | (go_simp; done) | (go_simp; rfl))
   intro gb104 hg w66 hbox hb
   have BK104 := asd (hbox)
   have GW104 := ngw3 hg HB GE101 GE102 GE103
   have GE104 := ngw3 hg HB GE101 GE102 GE103
   replace HB := bS3 HB GE101 GE102 GE103 hb
   have NB101_104 := nlt hg BK101
   have NB104_101 := nsy (nlt hg BK101)
   replace BK101 := bB BK101 hb
   have NB102_104 := nlt hg BK102
   have NB104_102 := nsy (nlt hg BK102)
   replace BK102 := bB BK102 hb
   have NB103_104 := nlt hg BK103
   have NB104_103 := nsy (nlt hg BK103)
   replace BK103 := bB BK103 hb
   clear hb hbox hg
   refine hK.out _ _ (eb6 BK102).out (fun hHeld => ?_)
   clear hK K
   refine norm_ (a' := ?_) ?_ ?_
   rotate_left
   ·show Act.put _ (some 10) _ = _
    simp only [Act.put, sA, sB, sC, i64_w, i32_w]
    rfl
   refine ro 12 (some 11) (bT 15 13) HT_ (fun K hK => ?_)
   refine box_step ?hg (N := 11) ?hd (cs := #[.int .i64 0, .int .i64 0, .int .i64 0, .int .i64 0, .int .i64 0, .int .i64 0]) (t := 41) ?hr ?_; (case hd => rfl); (case hg => rfl); (case hr => first | (go_simp; done) | (go_simp; rfl))
   intro gb105 hg w67 hbox hb
   have BK105 := asd (hbox)
   have GW105 := ngw4 hg HB GE101 GE102 GE103 GE104
   have GE105 := ngw4 hg HB GE101 GE102 GE103 GE104
   replace HB := bS4 HB GE101 GE102 GE103 GE104 hb
   have NB101_105 := nlt hg BK101
   have NB105_101 := nsy (nlt hg BK101)
   replace BK101 := bB BK101 hb
   have NB102_105 := nlt hg BK102
   have NB105_102 := nsy (nlt hg BK102)
   replace BK102 := bB BK102 hb
   have NB103_105 := nlt hg BK103
   have NB105_103 := nsy (nlt hg BK103)
   replace BK103 := bB BK103 hb
   have NB104_105 := nlt hg BK104
   have NB105_104 := nsy (nlt hg BK104)
   replace BK104 := bB BK104 hb
   clear hb hbox hg
   refine hK.out _ _ (eb6 BK102).out (fun hHeld => ?_)
   clear hK K
   refine norm_ (a' := ?_) ?_ ?_
   rotate_left
   ·show Act.put _ (some 11) _ = _
    simp only [Act.put, sA, sB, sC, i64_w, i32_w]
    rfl
   exact norm_ (by simp only [putAll, Act.put, sA, sB, sC]) (hCont (gb104, gb105) _ ⟨hHeld, (bkp BK101), (bkp BK102), (bkp BK103), (bkp BK104), (bkp BK105), GW104.out, GE104.out, NB101_104.out, NB104_101.out, NB102_104.out, NB104_102.out, NB103_104.out, NB104_103.out, NB105_104.out, NB104_105.out, GW105.out, GE105.out, NB101_105.out, NB105_101.out, NB102_105.out, NB105_102.out, NB103_105.out, NB105_103.out, (by repeat (first | (with_reducible first | exact HB.out | apply below_alloc | apply pw_below_drewN | apply below_drew1 | refine below_set ?_ GE101.out | refine below_set ?_ GE102.out | refine below_set ?_ GE103.out | refine below_set ?_ GE104.out | refine below_set ?_ GE105.out) | exact HB.out))⟩)
  ·skip
   refine box_step ?hg (N := 11) ?hd (cs := #[.int .i64 0, .int .i64 0, .int .i64 0, .int .i64 0, .int .i64 0, .int .i64 0]) (t := 41) ?hr ?_; (case hd => rfl); (case hg => rfl); (case hr => first | (go_simp; done) | (go_simp; rfl))
   intro gb105 hg w66 hbox hb
   have BK105 := asd (hbox)
   have GW105 := ngw3 hg HB GE101 GE102 GE103
   have GE105 := ngw3 hg HB GE101 GE102 GE103
   replace HB := bS3 HB GE101 GE102 GE103 hb
   have NB101_105 := nlt hg BK101
   have NB105_101 := nsy (nlt hg BK101)
   replace BK101 := bB BK101 hb
   have NB102_105 := nlt hg BK102
   have NB105_102 := nsy (nlt hg BK102)
   replace BK102 := bB BK102 hb
   have NB103_105 := nlt hg BK103
   have NB105_103 := nsy (nlt hg BK103)
   replace BK103 := bB BK103 hb
   clear hb hbox hg
   refine hK.out _ _ (eb6 BK102).out (fun hHeld => ?_)
   clear hK K
   refine norm_ (a' := ?_) ?_ ?_
   rotate_left
   ·show Act.put _ (some 11) _ = _
    simp only [Act.put, sA, sB, sC, i64_w, i32_w]
    rfl
   refine ro 11 (some 10) (bT 15 13) HT_ (fun K hK => ?_)
   refine box_step ?hg (N := 10) ?hd (cs := #[.int .i64 0, .int .i64 0, .int .i64 0, .int .i64 0, .int .i64 0, .int .i64 0]) (t := 41) ?hr ?_; (case hd => rfl); (case hg => rfl); (case hr => first | (go_simp; done) | (go_simp; rfl))
   intro gb104 hg w67 hbox hb
   have BK104 := asd (hbox)
   have GW104 := ngw4 hg HB GE101 GE102 GE103 GE105
   have GE104 := ngw4 hg HB GE101 GE102 GE103 GE105
   replace HB := bS4 HB GE101 GE102 GE103 GE105 hb
   have NB101_104 := nlt hg BK101
   have NB104_101 := nsy (nlt hg BK101)
   replace BK101 := bB BK101 hb
   have NB102_104 := nlt hg BK102
   have NB104_102 := nsy (nlt hg BK102)
   replace BK102 := bB BK102 hb
   have NB103_104 := nlt hg BK103
   have NB104_103 := nsy (nlt hg BK103)
   replace BK103 := bB BK103 hb
   have NB105_104 := nlt hg BK105
   have NB104_105 := nsy (nlt hg BK105)
   replace BK105 := bB BK105 hb
   clear hb hbox hg
   refine hK.out _ _ (eb6 BK102).out (fun hHeld => ?_)
   clear hK K
   refine norm_ (a' := ?_) ?_ ?_
   rotate_left
   ·show Act.put _ (some 10) _ = _
    simp only [Act.put, sA, sB, sC, i64_w, i32_w]
    rfl
   exact norm_ (by simp only [putAll, Act.put, sA, sB, sC]) (hCont (gb104, gb105) _ ⟨hHeld, (bkp BK101), (bkp BK102), (bkp BK103), (bkp BK104), (bkp BK105), GW104.out, GE104.out, NB101_104.out, NB104_101.out, NB102_104.out, NB104_102.out, NB103_104.out, NB104_103.out, NB105_104.out, NB104_105.out, GW105.out, GE105.out, NB101_105.out, NB105_101.out, NB102_105.out, NB105_102.out, NB103_105.out, NB105_103.out, (by repeat (first | (with_reducible first | exact HB.out | apply below_alloc | apply pw_below_drewN | apply below_drew1 | refine below_set ?_ GE101.out | refine below_set ?_ GE102.out | refine below_set ?_ GE103.out | refine below_set ?_ GE105.out | refine below_set ?_ GE104.out) | exact HB.out))⟩)
 rintro ⟨gb104, gb105⟩ w68 ⟨hS_, h0_, h1_, h2_, h3_, h4_, h5_, h6_, h7_, h8_, h9_, h10_, h11_, h12_, h13_, h14_, h15_, h16_, h17_, h18_, h19_, h20_, h21_, h22_, h23_⟩
 have n0_ : Aside0 (w68.heap[gb101]? = some (.cells #[.int .i64 (-1), .int .i64 0, .int .i64 0, .int .i64 (-1), .int .i64 0, .int .i64 0] 41 (0, 0))) := ⟨h0_⟩
 have n1_ : Aside0 (w68.heap[gb102]? = some (.cells #[.int .i64 1, .int .i64 0, .int .i64 0, .int .i64 (-1), .int .i64 0, .int .i64 0] 41 (0, 0))) := ⟨h1_⟩
 have n2_ : Aside0 (w68.heap[gb103]? = some (.cells #[.int .i64 0, .int .i64 1, .int .i64 1, .int .i64 0, .int .i64 0, .int .i64 0] 41 (0, 0))) := ⟨h2_⟩
 have n3_ : Aside0 (w68.heap[gb104]? = some (.cells #[.int .i64 0, .int .i64 0, .int .i64 0, .int .i64 0, .int .i64 0, .int .i64 0] 41 (0, 0))) := ⟨h3_⟩
 have n4_ : Aside0 (w68.heap[gb105]? = some (.cells #[.int .i64 0, .int .i64 0, .int .i64 0, .int .i64 0, .int .i64 0, .int .i64 0] 41 (0, 0))) := ⟨h4_⟩
 have n5_ : Aside0 (w.heap.size ≤ gb104) := ⟨h5_⟩
 have n6_ : Aside0 (w.heap.size ≤ gb104) := ⟨h6_⟩
 have n7_ : Aside0 (gb101 ≠ gb104) := ⟨h7_⟩
 have n8_ : Aside0 (gb104 ≠ gb101) := ⟨h8_⟩
 have n9_ : Aside0 (gb102 ≠ gb104) := ⟨h9_⟩
 have n10_ : Aside0 (gb104 ≠ gb102) := ⟨h10_⟩
 have n11_ : Aside0 (gb103 ≠ gb104) := ⟨h11_⟩
 have n12_ : Aside0 (gb104 ≠ gb103) := ⟨h12_⟩
 have n13_ : Aside0 (gb105 ≠ gb104) := ⟨h13_⟩
 have n14_ : Aside0 (gb104 ≠ gb105) := ⟨h14_⟩
 have n15_ : Aside0 (w.heap.size ≤ gb105) := ⟨h15_⟩
 have n16_ : Aside0 (w.heap.size ≤ gb105) := ⟨h16_⟩
 have n17_ : Aside0 (gb101 ≠ gb105) := ⟨h17_⟩
 have n18_ : Aside0 (gb105 ≠ gb101) := ⟨h18_⟩
 have n19_ : Aside0 (gb102 ≠ gb105) := ⟨h19_⟩
 have n20_ : Aside0 (gb105 ≠ gb102) := ⟨h20_⟩
 have n21_ : Aside0 (gb103 ≠ gb105) := ⟨h21_⟩
 have n22_ : Aside0 (gb105 ≠ gb103) := ⟨h22_⟩
 have n23_ : Aside0 (Below w.heap.size w w68) := ⟨h23_⟩
 clear BK101
 clear BK102
 clear BK103
 clear HB
 clear h0_ h1_ h2_ h3_ h4_ h5_ h6_ h7_ h8_ h9_ h10_ h11_ h12_ h13_ h14_ h15_ h16_ h17_ h18_ h19_ h20_ h21_ h22_ h23_
 have BK101 := n0_
 have BK102 := n1_
 have BK103 := n2_
 have BK104 := n3_
 have BK105 := n4_
 have GW104 := n5_
 have GE104 := n6_
 have NB101_104 := n7_
 have NB104_101 := n8_
 have NB102_104 := n9_
 have NB104_102 := n10_
 have NB103_104 := n11_
 have NB104_103 := n12_
 have NB105_104 := n13_
 have NB104_105 := n14_
 have GW105 := n15_
 have GE105 := n16_
 have NB101_105 := n17_
 have NB105_101 := n18_
 have NB102_105 := n19_
 have NB105_102 := n20_
 have NB103_105 := n21_
 have NB105_103 := n22_
 have HB := n23_
 clear n0_ n1_ n2_ n3_ n4_ n5_ n6_ n7_ n8_ n9_ n10_ n11_ n12_ n13_ n14_ n15_ n16_ n17_ n18_ n19_ n20_ n21_ n22_ n23_
 have hHeld : w68.cell? ⟨gb102, 0, none⟩ = some (.int .i64 1) ∧ w68.cell? ⟨gb102, 1, none⟩ = some (.int .i64 0) ∧ w68.cell? ⟨gb102, 2, none⟩ = some (.int .i64 0) ∧ w68.cell? ⟨gb102, 3, none⟩ = some (.int .i64 (-1)) ∧ w68.cell? ⟨gb102, 4, none⟩ = some (.int .i64 0) ∧ w68.cell? ⟨gb102, 5, none⟩ = some (.int .i64 0) := hS_
 refine norm_ (a' := ?_) ?_ ?_
 rotate_left
 ·simp only [putAll, Act.put, sA, sB, sC]
  rfl
 refine ro 13 (none) (bT 15 14) HT_ (fun K hK => ?_)
 have hs69 : w68.cell? ⟨gb104, 0, none⟩ = some (.int .i64 0) := bcl BK104 0
 have hfs69 := blk_frozen BK104.out 0
 have hns69_0 := NB101_104.out
 have hns69_1 := NB102_104.out
 have hns69_2 := NB103_104.out
 have hns69_4 := NB105_104.out
 have hms69_0 := NB104_101.out
 have hms69_1 := NB104_102.out
 have hms69_2 := NB104_103.out
 have hms69_4 := NB104_105.out
 have hs70 : w68.cell? ⟨gb104, 1, none⟩ = some (.int .i64 0) := bcl BK104 1
 have hfs70 := blk_frozen BK104.out 1
 have hns70_0 := NB101_104.out
 have hns70_1 := NB102_104.out
 have hns70_2 := NB103_104.out
 have hns70_4 := NB105_104.out
 have hms70_0 := NB104_101.out
 have hms70_1 := NB104_102.out
 have hms70_2 := NB104_103.out
 have hms70_4 := NB104_105.out
 have hs71 : w68.cell? ⟨gb104, 2, none⟩ = some (.int .i64 0) := bcl BK104 2
 have hfs71 := blk_frozen BK104.out 2
 have hns71_0 := NB101_104.out
 have hns71_1 := NB102_104.out
 have hns71_2 := NB103_104.out
 have hns71_4 := NB105_104.out
 have hms71_0 := NB104_101.out
 have hms71_1 := NB104_102.out
 have hms71_2 := NB104_103.out
 have hms71_4 := NB104_105.out
 have hs72 : w68.cell? ⟨gb104, 3, none⟩ = some (.int .i64 0) := bcl BK104 3
 have hfs72 := blk_frozen BK104.out 3
 have hns72_0 := NB101_104.out
 have hns72_1 := NB102_104.out
 have hns72_2 := NB103_104.out
 have hns72_4 := NB105_104.out
 have hms72_0 := NB104_101.out
 have hms72_1 := NB104_102.out
 have hms72_2 := NB104_103.out
 have hms72_4 := NB104_105.out
 have hs73 : w68.cell? ⟨gb104, 4, none⟩ = some (.int .i64 0) := bcl BK104 4
 have hfs73 := blk_frozen BK104.out 4
 have hns73_0 := NB101_104.out
 have hns73_1 := NB102_104.out
 have hns73_2 := NB103_104.out
 have hns73_4 := NB105_104.out
 have hms73_0 := NB104_101.out
 have hms73_1 := NB104_102.out
 have hms73_2 := NB104_103.out
 have hms73_4 := NB104_105.out
 have hs74 : w68.cell? ⟨gb104, 5, none⟩ = some (.int .i64 0) := bcl BK104 5
 have hfs74 := blk_frozen BK104.out 5
 have hns74_0 := NB101_104.out
 have hns74_1 := NB102_104.out
 have hns74_2 := NB103_104.out
 have hns74_4 := NB105_104.out
 have hms74_0 := NB104_101.out
 have hms74_1 := NB104_102.out
 have hms74_2 := NB104_103.out
 have hms74_4 := NB104_105.out
 refine skip_ (w1 := ?_) (by rfl) rfl ?_ ?_
 rotate_left
 ·go_simp
  rfl
 refine hK.out _ _ ⟨(cf6 NB102_104 (hHeld.1)), (cf6 NB102_104 (hHeld.2.1)), (cf6 NB102_104 (hHeld.2.2.1)), (cf6 NB102_104 (hHeld.2.2.2.1)), (cf6 NB102_104 (hHeld.2.2.2.2.1)), (cf6 NB102_104 (hHeld.2.2.2.2.2))⟩ (fun hHeld => ?_)
 clear hK K
 refine ro 14 (none) (bT 15 15) HT_ (fun K hK => ?_)
 have hs75 : w68.cell? ⟨gb105, 0, none⟩ = some (.int .i64 0) := bcl BK105 0
 have hfs75 := blk_frozen BK105.out 0
 have hns75_0 := NB101_105.out
 have hns75_1 := NB102_105.out
 have hns75_2 := NB103_105.out
 have hns75_3 := NB104_105.out
 have hms75_0 := NB105_101.out
 have hms75_1 := NB105_102.out
 have hms75_2 := NB105_103.out
 have hms75_3 := NB105_104.out
 have hs76 : w68.cell? ⟨gb105, 1, none⟩ = some (.int .i64 0) := bcl BK105 1
 have hfs76 := blk_frozen BK105.out 1
 have hns76_0 := NB101_105.out
 have hns76_1 := NB102_105.out
 have hns76_2 := NB103_105.out
 have hns76_3 := NB104_105.out
 have hms76_0 := NB105_101.out
 have hms76_1 := NB105_102.out
 have hms76_2 := NB105_103.out
 have hms76_3 := NB105_104.out
 have hs77 : w68.cell? ⟨gb105, 2, none⟩ = some (.int .i64 0) := bcl BK105 2
 have hfs77 := blk_frozen BK105.out 2
 have hns77_0 := NB101_105.out
 have hns77_1 := NB102_105.out
 have hns77_2 := NB103_105.out
 have hns77_3 := NB104_105.out
 have hms77_0 := NB105_101.out
 have hms77_1 := NB105_102.out
 have hms77_2 := NB105_103.out
 have hms77_3 := NB105_104.out
 have hs78 : w68.cell? ⟨gb105, 3, none⟩ = some (.int .i64 0) := bcl BK105 3
 have hfs78 := blk_frozen BK105.out 3
 have hns78_0 := NB101_105.out
 have hns78_1 := NB102_105.out
 have hns78_2 := NB103_105.out
 have hns78_3 := NB104_105.out
 have hms78_0 := NB105_101.out
 have hms78_1 := NB105_102.out
 have hms78_2 := NB105_103.out
 have hms78_3 := NB105_104.out
 have hs79 : w68.cell? ⟨gb105, 4, none⟩ = some (.int .i64 0) := bcl BK105 4
 have hfs79 := blk_frozen BK105.out 4
 have hns79_0 := NB101_105.out
 have hns79_1 := NB102_105.out
 have hns79_2 := NB103_105.out
 have hns79_3 := NB104_105.out
 have hms79_0 := NB105_101.out
 have hms79_1 := NB105_102.out
 have hms79_2 := NB105_103.out
 have hms79_3 := NB105_104.out
 have hs80 : w68.cell? ⟨gb105, 5, none⟩ = some (.int .i64 0) := bcl BK105 5
 have hfs80 := blk_frozen BK105.out 5
 have hns80_0 := NB101_105.out
 have hns80_1 := NB102_105.out
 have hns80_2 := NB103_105.out
 have hns80_3 := NB104_105.out
 have hms80_0 := NB105_101.out
 have hms80_1 := NB105_102.out
 have hms80_2 := NB105_103.out
 have hms80_3 := NB105_104.out
 refine skip_ (w1 := ?_) (by rfl) rfl ?_ ?_
 rotate_left
 ·go_simp
  rfl
 refine hK.out _ _ ⟨(cf6 NB102_105 (hHeld.1)), (cf6 NB102_105 (hHeld.2.1)), (cf6 NB102_105 (hHeld.2.2.1)), (cf6 NB102_105 (hHeld.2.2.2.1)), (cf6 NB102_105 (hHeld.2.2.2.2.1)), (cf6 NB102_105 (hHeld.2.2.2.2.2))⟩ (fun hHeld => ?_)
 clear hK K
 refine done_ (done_of HT_.out (by kernel_rfl)) ?_
 go_upto_block 0 with (first | ((with_reducible refine gd 12 rfl ?_); refine bx #[.int .i64 0, .int .i64 0, .int .i64 0, .int .i64 0, .int .i64 0, .int .i64 0] 41 ?_; intro gb106 hg w81 BK106 hb; have GW106 := asd ((by rw [hg]; exact (below_size (by repeat (first | (with_reducible first | exact HB.out | apply below_alloc | apply pw_below_drewN | apply below_drew1 | refine below_set ?_ GE101.out | refine below_set ?_ GE102.out | refine below_set ?_ GE103.out | refine below_set ?_ GE104.out | refine below_set ?_ GE105.out) | exact HB.out))) : w.heap.size ≤ gb106)); have GE106 := asd ((by rw [hg]; exact (below_size (by repeat (first | (with_reducible first | exact HB.out | apply below_alloc | apply pw_below_drewN | apply below_drew1 | refine below_set ?_ GE101.out | refine below_set ?_ GE102.out | refine below_set ?_ GE103.out | refine below_set ?_ GE104.out | refine below_set ?_ GE105.out) | exact HB.out))) : w.heap.size ≤ gb106)); replace HB := asd (below_step (by repeat (first | (with_reducible first | exact HB.out | apply below_alloc | apply pw_below_drewN | apply below_drew1 | refine below_set ?_ GE101.out | refine below_set ?_ GE102.out | refine below_set ?_ GE103.out | refine below_set ?_ GE104.out | refine below_set ?_ GE105.out) | exact HB.out)) hb); have NB101_106 := asd ((by rw [hg]; exact Nat.ne_of_lt (blk_lt (g := gb101) (o := .cells #[.int .i64 (-1), .int .i64 0, .int .i64 0, .int .i64 (-1), .int .i64 0, .int .i64 0] 41 (0, 0)) (bq2 BK101 NB101_105 NB101_104)) : gb101 ≠ gb106)); have NB106_101 := asd ((by rw [hg]; exact Nat.ne_of_gt (blk_lt (g := gb101) (o := .cells #[.int .i64 (-1), .int .i64 0, .int .i64 0, .int .i64 (-1), .int .i64 0, .int .i64 0] 41 (0, 0)) (bq2 BK101 NB101_105 NB101_104)) : gb106 ≠ gb101)); replace BK101 := asd (blk_below (g := gb101) (o := .cells #[.int .i64 (-1), .int .i64 0, .int .i64 0, .int .i64 (-1), .int .i64 0, .int .i64 0] 41 (0, 0)) (bq2 BK101 NB101_105 NB101_104) hb); have NB102_106 := asd ((by rw [hg]; exact Nat.ne_of_lt (blk_lt (g := gb102) (o := .cells #[.int .i64 1, .int .i64 0, .int .i64 0, .int .i64 (-1), .int .i64 0, .int .i64 0] 41 (0, 0)) (bq2 BK102 NB102_105 NB102_104)) : gb102 ≠ gb106)); have NB106_102 := asd ((by rw [hg]; exact Nat.ne_of_gt (blk_lt (g := gb102) (o := .cells #[.int .i64 1, .int .i64 0, .int .i64 0, .int .i64 (-1), .int .i64 0, .int .i64 0] 41 (0, 0)) (bq2 BK102 NB102_105 NB102_104)) : gb106 ≠ gb102)); replace BK102 := asd (blk_below (g := gb102) (o := .cells #[.int .i64 1, .int .i64 0, .int .i64 0, .int .i64 (-1), .int .i64 0, .int .i64 0] 41 (0, 0)) (bq2 BK102 NB102_105 NB102_104) hb); have NB103_106 := asd ((by rw [hg]; exact Nat.ne_of_lt (blk_lt (g := gb103) (o := .cells #[.int .i64 0, .int .i64 1, .int .i64 1, .int .i64 0, .int .i64 0, .int .i64 0] 41 (0, 0)) (bq2 BK103 NB103_105 NB103_104)) : gb103 ≠ gb106)); have NB106_103 := asd ((by rw [hg]; exact Nat.ne_of_gt (blk_lt (g := gb103) (o := .cells #[.int .i64 0, .int .i64 1, .int .i64 1, .int .i64 0, .int .i64 0, .int .i64 0] 41 (0, 0)) (bq2 BK103 NB103_105 NB103_104)) : gb106 ≠ gb103)); replace BK103 := asd (blk_below (g := gb103) (o := .cells #[.int .i64 0, .int .i64 1, .int .i64 1, .int .i64 0, .int .i64 0, .int .i64 0] 41 (0, 0)) (bq2 BK103 NB103_105 NB103_104) hb); have NB104_106 := asd ((by rw [hg]; exact Nat.ne_of_lt (blk_lt (g := gb104) (o := .cells #[.int .i64 1, .int .i64 0, .int .i64 0, .int .i64 (-1), .int .i64 a1, .int .i64 0] 41 (0, 0)) (bq1 BK104 NB104_105)) : gb104 ≠ gb106)); have NB106_104 := asd ((by rw [hg]; exact Nat.ne_of_gt (blk_lt (g := gb104) (o := .cells #[.int .i64 1, .int .i64 0, .int .i64 0, .int .i64 (-1), .int .i64 a1, .int .i64 0] 41 (0, 0)) (bq1 BK104 NB104_105)) : gb106 ≠ gb104)); replace BK104 := asd (blk_below (g := gb104) (o := .cells #[.int .i64 1, .int .i64 0, .int .i64 0, .int .i64 (-1), .int .i64 a1, .int .i64 0] 41 (0, 0)) (bq1 BK104 NB104_105) hb); have NB105_106 := asd ((by rw [hg]; exact Nat.ne_of_lt (blk_lt (g := gb105) (o := .cells #[.int .i64 1, .int .i64 0, .int .i64 0, .int .i64 (-1), .int .i64 a1, .int .i64 a1] 41 (0, 0)) (bq1 BK105 NB105_104)) : gb105 ≠ gb106)); have NB106_105 := asd ((by rw [hg]; exact Nat.ne_of_gt (blk_lt (g := gb105) (o := .cells #[.int .i64 1, .int .i64 0, .int .i64 0, .int .i64 (-1), .int .i64 a1, .int .i64 a1] 41 (0, 0)) (bq1 BK105 NB105_104)) : gb106 ≠ gb105)); replace BK105 := asd (blk_below (g := gb105) (o := .cells #[.int .i64 1, .int .i64 0, .int .i64 0, .int .i64 (-1), .int .i64 a1, .int .i64 a1] 41 (0, 0)) (bq1 BK105 NB105_104) hb); clear hb hg) | ((with_reducible refine gd 13 rfl ?_); refine bx #[.int .i64 0, .int .i64 0, .int .i64 0, .int .i64 0, .int .i64 0, .int .i64 0] 41 ?_; intro gb107 hg w82 BK107 hb; have GW107 := asd ((by rw [hg]; exact (below_size (by repeat (first | (with_reducible first | exact HB.out | apply below_alloc | apply pw_below_drewN | apply below_drew1 | refine below_set ?_ GE101.out | refine below_set ?_ GE102.out | refine below_set ?_ GE103.out | refine below_set ?_ GE104.out | refine below_set ?_ GE105.out | refine below_set ?_ GE106.out) | exact HB.out))) : w.heap.size ≤ gb107)); have GE107 := asd ((by rw [hg]; exact (below_size (by repeat (first | (with_reducible first | exact HB.out | apply below_alloc | apply pw_below_drewN | apply below_drew1 | refine below_set ?_ GE101.out | refine below_set ?_ GE102.out | refine below_set ?_ GE103.out | refine below_set ?_ GE104.out | refine below_set ?_ GE105.out | refine below_set ?_ GE106.out) | exact HB.out))) : w.heap.size ≤ gb107)); replace HB := asd (below_step (by repeat (first | (with_reducible first | exact HB.out | apply below_alloc | apply pw_below_drewN | apply below_drew1 | refine below_set ?_ GE101.out | refine below_set ?_ GE102.out | refine below_set ?_ GE103.out | refine below_set ?_ GE104.out | refine below_set ?_ GE105.out | refine below_set ?_ GE106.out) | exact HB.out)) hb); have NB101_107 := nlt hg BK101; have NB107_101 := nsy (nlt hg BK101); replace BK101 := bB BK101 hb; have NB102_107 := nlt hg BK102; have NB107_102 := nsy (nlt hg BK102); replace BK102 := bB BK102 hb; have NB103_107 := nlt hg BK103; have NB107_103 := nsy (nlt hg BK103); replace BK103 := bB BK103 hb; have NB104_107 := nlt hg BK104; have NB107_104 := nsy (nlt hg BK104); replace BK104 := bB BK104 hb; have NB105_107 := nlt hg BK105; have NB107_105 := nsy (nlt hg BK105); replace BK105 := bB BK105 hb; have NB106_107 := nlt hg BK106; have NB107_106 := nsy (nlt hg BK106); replace BK106 := bB BK106 hb; clear hb hg) | ((with_reducible refine gd 14 rfl ?_); refine bx #[.int .i64 0, .int .i64 0, .int .i64 0, .int .i64 0, .int .i64 0, .int .i64 0] 41 ?_; intro gb108 hg w83 BK108 hb; have GW108 := asd ((by rw [hg]; exact (below_size (by repeat (first | (with_reducible first | exact HB.out | apply below_alloc | apply pw_below_drewN | apply below_drew1 | refine below_set ?_ GE101.out | refine below_set ?_ GE102.out | refine below_set ?_ GE103.out | refine below_set ?_ GE104.out | refine below_set ?_ GE105.out | refine below_set ?_ GE106.out | refine below_set ?_ GE107.out) | exact HB.out))) : w.heap.size ≤ gb108)); have GE108 := asd ((by rw [hg]; exact (below_size (by repeat (first | (with_reducible first | exact HB.out | apply below_alloc | apply pw_below_drewN | apply below_drew1 | refine below_set ?_ GE101.out | refine below_set ?_ GE102.out | refine below_set ?_ GE103.out | refine below_set ?_ GE104.out | refine below_set ?_ GE105.out | refine below_set ?_ GE106.out | refine below_set ?_ GE107.out) | exact HB.out))) : w.heap.size ≤ gb108)); replace HB := asd (below_step (by repeat (first | (with_reducible first | exact HB.out | apply below_alloc | apply pw_below_drewN | apply below_drew1 | refine below_set ?_ GE101.out | refine below_set ?_ GE102.out | refine below_set ?_ GE103.out | refine below_set ?_ GE104.out | refine below_set ?_ GE105.out | refine below_set ?_ GE106.out | refine below_set ?_ GE107.out) | exact HB.out)) hb); have NB101_108 := nlt hg BK101; have NB108_101 := nsy (nlt hg BK101); replace BK101 := bB BK101 hb; have NB102_108 := nlt hg BK102; have NB108_102 := nsy (nlt hg BK102); replace BK102 := bB BK102 hb; have NB103_108 := nlt hg BK103; have NB108_103 := nsy (nlt hg BK103); replace BK103 := bB BK103 hb; have NB104_108 := nlt hg BK104; have NB108_104 := nsy (nlt hg BK104); replace BK104 := bB BK104 hb; have NB105_108 := nlt hg BK105; have NB108_105 := nsy (nlt hg BK105); replace BK105 := bB BK105 hb; have NB106_108 := nlt hg BK106; have NB108_106 := nsy (nlt hg BK106); replace BK106 := bB BK106 hb; have NB107_108 := nlt hg BK107; have NB108_107 := nsy (nlt hg BK107); replace BK107 := bB BK107 hb; clear hb hg; have hnb84 := NB106_101.out; have hnc84 := NB101_106.out; have hnb85 := NB106_102.out; have hnc85 := NB102_106.out; have hnb86 := NB106_103.out; have hnc86 := NB103_106.out; have hnb87 := NB106_104.out; have hnc87 := NB104_106.out; have hnb88 := NB106_105.out; have hnc88 := NB105_106.out; have hnb89 := NB106_107.out; have hnc89 := NB107_106.out; have hnb90 := NB106_108.out; have hnc90 := NB108_106.out; obtain ⟨hcz91_0, hcz91_1, hcz91_2, hcz91_3, hcz91_4, hcz91_5, hfz91_0, hfz91_1, hfz91_2, hfz91_3, hfz91_4, hfz91_5⟩ := bz6 BK106; have hnb92 := NB107_101.out; have hnc92 := NB101_107.out; have hnb93 := NB107_102.out; have hnc93 := NB102_107.out; have hnb94 := NB107_103.out; have hnc94 := NB103_107.out; have hnb95 := NB107_104.out; have hnc95 := NB104_107.out; have hnb96 := NB107_105.out; have hnc96 := NB105_107.out; have hnb97 := NB107_108.out; have hnc97 := NB108_107.out; obtain ⟨hcz98_0, hcz98_1, hcz98_2, hcz98_3, hcz98_4, hcz98_5, hfz98_0, hfz98_1, hfz98_2, hfz98_3, hfz98_4, hfz98_5⟩ := bz6 BK107; have hnb99 := NB108_101.out; have hnc99 := NB101_108.out; have hnb100 := NB108_102.out; have hnc100 := NB102_108.out; have hnb101 := NB108_103.out; have hnc101 := NB103_108.out; have hnb102 := NB108_104.out; have hnc102 := NB104_108.out; have hnb103 := NB108_105.out; have hnc103 := NB105_108.out; obtain ⟨hcz104_0, hcz104_1, hcz104_2, hcz104_3, hcz104_4, hcz104_5, hfz104_0, hfz104_1, hfz104_2, hfz104_3, hfz104_4, hfz104_5⟩ := bz6 BK108))
 obtain ⟨w105, h_w105⟩ : ∃ w_, ((((((((((((((((((w83.setCell ⟨gb106, 0, none⟩ (.int .i64 0)).setCell ⟨gb106, 1, none⟩ (.int .i64 (-1))).setCell ⟨gb106, 2, none⟩ (.int .i64 1)).setCell ⟨gb106, 3, none⟩ (.int .i64 0)).setCell ⟨gb106, 4, none⟩ (.int .i64 0)).setCell ⟨gb106, 5, none⟩ (.int .i64 0)).setCell ⟨gb107, 0, none⟩ (.int .i64 (-1))).setCell ⟨gb107, 1, none⟩ (.int .i64 (-1))).setCell ⟨gb107, 2, none⟩ (.int .i64 1)).setCell ⟨gb107, 3, none⟩ (.int .i64 0)).setCell ⟨gb107, 4, none⟩ (.int .i64 0)).setCell ⟨gb107, 5, none⟩ (.int .i64 0)).setCell ⟨gb108, 0, none⟩ (.int .i64 0)).setCell ⟨gb108, 1, none⟩ (.int .i64 (-1))).setCell ⟨gb108, 2, none⟩ (.int .i64 1)).setCell ⟨gb108, 3, none⟩ (.int .i64 1)).setCell ⟨gb108, 4, none⟩ (.int .i64 0)).setCell ⟨gb108, 5, none⟩ (.int .i64 0)) = w_ := ⟨_, rfl⟩
 replace BK101 : Aside0 (w105.heap[gb101]? = some (.cells #[.int .i64 (-1), .int .i64 0, .int .i64 0, .int .i64 (-1), .int .i64 0, .int .i64 0] 41 (0, 0))) := by rw [← h_w105]; exact ⟨bq3 BK101 NB101_108 NB101_107 NB101_106⟩
 replace BK102 : Aside0 (w105.heap[gb102]? = some (.cells #[.int .i64 1, .int .i64 0, .int .i64 0, .int .i64 (-1), .int .i64 0, .int .i64 0] 41 (0, 0))) := by rw [← h_w105]; exact ⟨bq3 BK102 NB102_108 NB102_107 NB102_106⟩
 replace BK103 : Aside0 (w105.heap[gb103]? = some (.cells #[.int .i64 0, .int .i64 1, .int .i64 1, .int .i64 0, .int .i64 0, .int .i64 0] 41 (0, 0))) := by rw [← h_w105]; exact ⟨bq3 BK103 NB103_108 NB103_107 NB103_106⟩
 replace BK104 : Aside0 (w105.heap[gb104]? = some (.cells #[.int .i64 1, .int .i64 0, .int .i64 0, .int .i64 (-1), .int .i64 a1, .int .i64 0] 41 (0, 0))) := by rw [← h_w105]; exact ⟨bq3 BK104 NB104_108 NB104_107 NB104_106⟩
 replace BK105 : Aside0 (w105.heap[gb105]? = some (.cells #[.int .i64 1, .int .i64 0, .int .i64 0, .int .i64 (-1), .int .i64 a1, .int .i64 a1] 41 (0, 0))) := by rw [← h_w105]; exact ⟨bq3 BK105 NB105_108 NB105_107 NB105_106⟩
 replace BK106 : Aside0 (w105.heap[gb106]? = some (.cells #[.int .i64 0, .int .i64 (-1), .int .i64 1, .int .i64 0, .int .i64 0, .int .i64 0] 41 (0, 0))) := by rw [← h_w105]; exact ⟨bq2 BK106 NB106_108 NB106_107⟩
 replace BK107 : Aside0 (w105.heap[gb107]? = some (.cells #[.int .i64 (-1), .int .i64 (-1), .int .i64 1, .int .i64 0, .int .i64 0, .int .i64 0] 41 (0, 0))) := by rw [← h_w105]; exact ⟨bq2 BK107 NB107_108 NB107_106⟩
 replace BK108 : Aside0 (w105.heap[gb108]? = some (.cells #[.int .i64 0, .int .i64 (-1), .int .i64 1, .int .i64 1, .int .i64 0, .int .i64 0] 41 (0, 0))) := by rw [← h_w105]; exact ⟨bq2 BK108 NB108_107 NB108_106⟩
 replace HB : Aside0 (Below w.heap.size w w105) := by rw [← h_w105]; exact ⟨by repeat (first | (with_reducible first | exact HB.out | apply below_alloc | apply pw_below_drewN | apply below_drew1 | refine below_set ?_ GE101.out | refine below_set ?_ GE102.out | refine below_set ?_ GE103.out | refine below_set ?_ GE104.out | refine below_set ?_ GE105.out | refine below_set ?_ GE106.out | refine below_set ?_ GE107.out | refine below_set ?_ GE108.out) | exact HB.out)⟩
 (try rw [h_w105]); clear h_w105
 have hP101_0 : w105.cell? ⟨gb101, 0, none⟩ = some (.int .i64 (-1)) := bcl BK101 0
 have hQ101_0 := blk_frozen BK101.out 0
 have hP101_1 : w105.cell? ⟨gb101, 1, none⟩ = some (.int .i64 0) := bcl BK101 1
 have hQ101_1 := blk_frozen BK101.out 1
 have hP101_2 : w105.cell? ⟨gb101, 2, none⟩ = some (.int .i64 0) := bcl BK101 2
 have hQ101_2 := blk_frozen BK101.out 2
 have hP101_3 : w105.cell? ⟨gb101, 3, none⟩ = some (.int .i64 (-1)) := bcl BK101 3
 have hQ101_3 := blk_frozen BK101.out 3
 have hP101_4 : w105.cell? ⟨gb101, 4, none⟩ = some (.int .i64 0) := bcl BK101 4
 have hQ101_4 := blk_frozen BK101.out 4
 have hP101_5 : w105.cell? ⟨gb101, 5, none⟩ = some (.int .i64 0) := bcl BK101 5
 have hQ101_5 := blk_frozen BK101.out 5
 have hP102_0 : w105.cell? ⟨gb102, 0, none⟩ = some (.int .i64 1) := bcl BK102 0
 have hQ102_0 := blk_frozen BK102.out 0
 have hP102_1 : w105.cell? ⟨gb102, 1, none⟩ = some (.int .i64 0) := bcl BK102 1
 have hQ102_1 := blk_frozen BK102.out 1
 have hP102_2 : w105.cell? ⟨gb102, 2, none⟩ = some (.int .i64 0) := bcl BK102 2
 have hQ102_2 := blk_frozen BK102.out 2
 have hP102_3 : w105.cell? ⟨gb102, 3, none⟩ = some (.int .i64 (-1)) := bcl BK102 3
 have hQ102_3 := blk_frozen BK102.out 3
 have hP102_4 : w105.cell? ⟨gb102, 4, none⟩ = some (.int .i64 0) := bcl BK102 4
 have hQ102_4 := blk_frozen BK102.out 4
 have hP102_5 : w105.cell? ⟨gb102, 5, none⟩ = some (.int .i64 0) := bcl BK102 5
 have hQ102_5 := blk_frozen BK102.out 5
 have hP103_0 : w105.cell? ⟨gb103, 0, none⟩ = some (.int .i64 0) := bcl BK103 0
 have hQ103_0 := blk_frozen BK103.out 0
 have hP103_1 : w105.cell? ⟨gb103, 1, none⟩ = some (.int .i64 1) := bcl BK103 1
 have hQ103_1 := blk_frozen BK103.out 1
 have hP103_2 : w105.cell? ⟨gb103, 2, none⟩ = some (.int .i64 1) := bcl BK103 2
 have hQ103_2 := blk_frozen BK103.out 2
 have hP103_3 : w105.cell? ⟨gb103, 3, none⟩ = some (.int .i64 0) := bcl BK103 3
 have hQ103_3 := blk_frozen BK103.out 3
 have hP103_4 : w105.cell? ⟨gb103, 4, none⟩ = some (.int .i64 0) := bcl BK103 4
 have hQ103_4 := blk_frozen BK103.out 4
 have hP103_5 : w105.cell? ⟨gb103, 5, none⟩ = some (.int .i64 0) := bcl BK103 5
 have hQ103_5 := blk_frozen BK103.out 5
 have hP104_0 : w105.cell? ⟨gb104, 0, none⟩ = some (.int .i64 1) := bcl BK104 0
 have hQ104_0 := blk_frozen BK104.out 0
 have hP104_1 : w105.cell? ⟨gb104, 1, none⟩ = some (.int .i64 0) := bcl BK104 1
 have hQ104_1 := blk_frozen BK104.out 1
 have hP104_2 : w105.cell? ⟨gb104, 2, none⟩ = some (.int .i64 0) := bcl BK104 2
 have hQ104_2 := blk_frozen BK104.out 2
 have hP104_3 : w105.cell? ⟨gb104, 3, none⟩ = some (.int .i64 (-1)) := bcl BK104 3
 have hQ104_3 := blk_frozen BK104.out 3
 have hP104_4 : w105.cell? ⟨gb104, 4, none⟩ = some (.int .i64 a1) := bcl BK104 4
 have hQ104_4 := blk_frozen BK104.out 4
 have hP104_5 : w105.cell? ⟨gb104, 5, none⟩ = some (.int .i64 0) := bcl BK104 5
 have hQ104_5 := blk_frozen BK104.out 5
 have hP105_0 : w105.cell? ⟨gb105, 0, none⟩ = some (.int .i64 1) := bcl BK105 0
 have hQ105_0 := blk_frozen BK105.out 0
 have hP105_1 : w105.cell? ⟨gb105, 1, none⟩ = some (.int .i64 0) := bcl BK105 1
 have hQ105_1 := blk_frozen BK105.out 1
 have hP105_2 : w105.cell? ⟨gb105, 2, none⟩ = some (.int .i64 0) := bcl BK105 2
 have hQ105_2 := blk_frozen BK105.out 2
 have hP105_3 : w105.cell? ⟨gb105, 3, none⟩ = some (.int .i64 (-1)) := bcl BK105 3
 have hQ105_3 := blk_frozen BK105.out 3
 have hP105_4 : w105.cell? ⟨gb105, 4, none⟩ = some (.int .i64 a1) := bcl BK105 4
 have hQ105_4 := blk_frozen BK105.out 4
 have hP105_5 : w105.cell? ⟨gb105, 5, none⟩ = some (.int .i64 a1) := bcl BK105 5
 have hQ105_5 := blk_frozen BK105.out 5
 have hP106_0 : w105.cell? ⟨gb106, 0, none⟩ = some (.int .i64 0) := bcl BK106 0
 have hQ106_0 := blk_frozen BK106.out 0
 have hP106_1 : w105.cell? ⟨gb106, 1, none⟩ = some (.int .i64 (-1)) := bcl BK106 1
 have hQ106_1 := blk_frozen BK106.out 1
 have hP106_2 : w105.cell? ⟨gb106, 2, none⟩ = some (.int .i64 1) := bcl BK106 2
 have hQ106_2 := blk_frozen BK106.out 2
 have hP106_3 : w105.cell? ⟨gb106, 3, none⟩ = some (.int .i64 0) := bcl BK106 3
 have hQ106_3 := blk_frozen BK106.out 3
 have hP106_4 : w105.cell? ⟨gb106, 4, none⟩ = some (.int .i64 0) := bcl BK106 4
 have hQ106_4 := blk_frozen BK106.out 4
 have hP106_5 : w105.cell? ⟨gb106, 5, none⟩ = some (.int .i64 0) := bcl BK106 5
 have hQ106_5 := blk_frozen BK106.out 5
 have hP107_0 : w105.cell? ⟨gb107, 0, none⟩ = some (.int .i64 (-1)) := bcl BK107 0
 have hQ107_0 := blk_frozen BK107.out 0
 have hP107_1 : w105.cell? ⟨gb107, 1, none⟩ = some (.int .i64 (-1)) := bcl BK107 1
 have hQ107_1 := blk_frozen BK107.out 1
 have hP107_2 : w105.cell? ⟨gb107, 2, none⟩ = some (.int .i64 1) := bcl BK107 2
 have hQ107_2 := blk_frozen BK107.out 2
 have hP107_3 : w105.cell? ⟨gb107, 3, none⟩ = some (.int .i64 0) := bcl BK107 3
 have hQ107_3 := blk_frozen BK107.out 3
 have hP107_4 : w105.cell? ⟨gb107, 4, none⟩ = some (.int .i64 0) := bcl BK107 4
 have hQ107_4 := blk_frozen BK107.out 4
 have hP107_5 : w105.cell? ⟨gb107, 5, none⟩ = some (.int .i64 0) := bcl BK107 5
 have hQ107_5 := blk_frozen BK107.out 5
 have hP108_0 : w105.cell? ⟨gb108, 0, none⟩ = some (.int .i64 0) := bcl BK108 0
 have hQ108_0 := blk_frozen BK108.out 0
 have hP108_1 : w105.cell? ⟨gb108, 1, none⟩ = some (.int .i64 (-1)) := bcl BK108 1
 have hQ108_1 := blk_frozen BK108.out 1
 have hP108_2 : w105.cell? ⟨gb108, 2, none⟩ = some (.int .i64 1) := bcl BK108 2
 have hQ108_2 := blk_frozen BK108.out 2
 have hP108_3 : w105.cell? ⟨gb108, 3, none⟩ = some (.int .i64 1) := bcl BK108 3
 have hQ108_3 := blk_frozen BK108.out 3
 have hP108_4 : w105.cell? ⟨gb108, 4, none⟩ = some (.int .i64 0) := bcl BK108 4
 have hQ108_4 := blk_frozen BK108.out 4
 have hP108_5 : w105.cell? ⟨gb108, 5, none⟩ = some (.int .i64 0) := bcl BK108 5
 have hQ108_5 := blk_frozen BK108.out 5
 have H := HP_.out
 clear HP_
 by_cases c3 : a0.toList = ([112, 49] : List UInt8)
 ·rw [if_pos c3] at H
  have c3b0 : (a0.toList == ([112, 49] : List UInt8)) = true := beq_iff_eq.mpr c3
  have c3b1 : (a0.toList != ([112, 49] : List UInt8)) = false := bne_eq_false_iff_eq.mpr c3
  clear c3
  simp only [Option.some.injEq, Prod.mk.injEq] at H
  obtain ⟨rfl, rfl, rfl⟩ := H
  go_wp2
  go_ret3
  exact ⟨_, by first | rfl | (simp [errW_none, errW_some] <;> rfl) | (simp [*, errW_none, errW_some] <;> rfl), by first | exact Kd.R_nil _ _ _ _ _ | exact Kd.N_nil _ _ _ _ _ | exact Kd.V_nil _ _ _ _ _ | exact Kd.Q_nil _ _ _ _ _ | exact Kd.S_nil _ _ _ _ _, by repeat (first | (with_reducible first | exact HB.out | apply below_alloc | apply pw_below_drewN | apply below_drew1 | refine below_set ?_ GE101.out | refine below_set ?_ GE102.out | refine below_set ?_ GE103.out | refine below_set ?_ GE104.out | refine below_set ?_ GE105.out | refine below_set ?_ GE106.out | refine below_set ?_ GE107.out | refine below_set ?_ GE108.out) | exact HB.out)⟩
 ·rw [if_neg c3] at H
  have c3b0 : (a0.toList == ([112, 49] : List UInt8)) = false := beq_eq_false_iff_ne.mpr c3
  have c3b1 : (a0.toList != ([112, 49] : List UInt8)) = true := bne_iff_ne.mpr c3
  by_cases c54 : a0.toList = ([112, 50] : List UInt8)
  ·rw [if_pos c54] at H
   have c54b0 : (a0.toList == ([112, 50] : List UInt8)) = true := beq_iff_eq.mpr c54
   have c54b1 : (a0.toList != ([112, 50] : List UInt8)) = false := bne_eq_false_iff_eq.mpr c54
   clear c54
   obtain ⟨y109, hy109⟩ : ∃ y_ : List (S41), y_ = (([(⟨(⟨(-1), 0, 0, (-1)⟩ : S37), (⟨0, 0⟩ : S39)⟩ : S41)] : List (S41))) := ⟨_, rfl⟩
   replace H : (some (0, y109, true)) = some (r1, r2, r3) := by first | (rw [hy109]; with_reducible exact H) | (have H2_ := (Option.bind_some _ _).symm.trans H; rw [hy109]; with_reducible exact H2_) | (have H2_ := (Option.bind_some _ _).symm.trans H; with_reducible exact H2_) | with_reducible exact H | (rw [hy109]; exact H) | exact H
   have Ny109 := Aside0.mk hy109
   clear hy109
   simp only [Option.some.injEq, Prod.mk.injEq] at H
   obtain ⟨rfl, rfl, rfl⟩ := H
   try go_wp2
   replace BK101 := asd (blk_drew BK101.out)
   replace BK102 := asd (blk_drew BK102.out)
   replace BK103 := asd (blk_drew BK103.out)
   replace BK104 := asd (blk_drew BK104.out)
   replace BK105 := asd (blk_drew BK105.out)
   replace BK106 := asd (blk_drew BK106.out)
   replace BK107 := asd (blk_drew BK107.out)
   replace BK108 := asd (blk_drew BK108.out)
   replace HB := asd (below_drew1 HB.out)
   refine sh 5 (eb6 BK101) (fun hHeld => ?_)
   generalize w105.drew = w106 at BK101 BK102 BK103 BK104 BK105 BK106 BK107 BK108 HB hHeld ⊢
   refine pure_ (i := 2) (N := some 4) (v := ?_) (a' := ?_) #[false, false, true, false, false] rfl rfl (by kernel_rfl) (fun _ _ _ h => h) (Or.inl ⟨by rfl, ?_⟩) ?_ ?_
   rotate_left
   ·intro w'
    go_simp
    with_reducible rfl
   rotate_left
   ·simp only [Act.put, sA, sB, sC, i64_w, i32_w]
    rfl
   refine take_ (i := 0) (N := some 43) (v := ?_) (a' := ?_) #[true, false, true, false, false] rfl rfl (by kernel_rfl) (fun _ _ _ h => h) (Or.inl ⟨by rfl, ?_⟩) hHeld ?_ ?_
   rotate_left
   ·rintro w' ⟨s0, s1, s2, s3, s4, s5⟩
    go_simp
    with_reducible rfl
   rotate_left
   ·simp only [Act.put, sA, sB, sC, i64_w, i32_w]
    rfl
   refine one_ (i := 1) (N := some 44) (bT 5 3) rfl rfl (by kernel_rfl) (by decide) (fun K hK => ?_)
   refine Kd.R_lit_step k41 _ 41 ?hg (N := 44) ?hd (xs := ([(⟨(⟨(-1), 0, 0, (-1)⟩ : S37), (⟨0, 0⟩ : S39)⟩ : S41)] : List (S41))) (inner := [.int .i64 (-1), .int .i64 0, .int .i64 0, .int .i64 (-1), .int .i64 0, .int .i64 0]) (ok := fun _ => True) (okp := fun _ => True) ?hr ?hp (fun _ hk => hk) trivial (Below.refl _ _) (Nat.le_refl _) (by simp) ?_; (case hd => rfl); (case hg => rfl); (case hr => first | (go_simp; done) | (go_simp; rfl)); (case hp => exact (Reps.c6 (show Kd.M k41 _ _ _ (⟨(⟨(-1), 0, 0, (-1)⟩ : S37), (⟨0, 0⟩ : S39)⟩ : S41) [.int .i64 (-1), .int .i64 0, .int .i64 0, .int .i64 (-1), .int .i64 0, .int .i64 0] from (k41_mkM _ _ _ (⟨(⟨(-1), 0, 0, (-1)⟩ : S37), (⟨0, 0⟩ : S39)⟩ : S41) )) (Reps.none _ _)))
   intro v110 w107 ho108 hb hg_ hnew_
   clear hg_ hnew_
   (first | rw [← Ny109.out] at ho108 | (simp only [Int.reduceToNat] at ho108; rw [← Ny109.out] at ho108))
   have HO111 := asd (Kd.R_lower (Kd.R_newB (Kd.R_newB (Kd.R_newB (Kd.R_newB (Kd.R_newB (Kd.R_newB (Kd.R_newB (Kd.R_newB ho108 (g := gb101) (o := .cells #[.int .i64 (-1), .int .i64 0, .int .i64 0, .int .i64 (-1), .int .i64 0, .int .i64 0] 41 (0, 0)) (bkp BK101)) (g := gb102) (o := .cells #[.int .i64 1, .int .i64 0, .int .i64 0, .int .i64 (-1), .int .i64 0, .int .i64 0] 41 (0, 0)) (bkp BK102)) (g := gb103) (o := .cells #[.int .i64 0, .int .i64 1, .int .i64 1, .int .i64 0, .int .i64 0, .int .i64 0] 41 (0, 0)) (bkp BK103)) (g := gb104) (o := .cells #[.int .i64 1, .int .i64 0, .int .i64 0, .int .i64 (-1), .int .i64 a1, .int .i64 0] 41 (0, 0)) (bkp BK104)) (g := gb105) (o := .cells #[.int .i64 1, .int .i64 0, .int .i64 0, .int .i64 (-1), .int .i64 a1, .int .i64 a1] 41 (0, 0)) (bkp BK105)) (g := gb106) (o := .cells #[.int .i64 0, .int .i64 (-1), .int .i64 1, .int .i64 0, .int .i64 0, .int .i64 0] 41 (0, 0)) (bkp BK106)) (g := gb107) (o := .cells #[.int .i64 (-1), .int .i64 (-1), .int .i64 1, .int .i64 0, .int .i64 0, .int .i64 0] 41 (0, 0)) (bkp BK107)) (g := gb108) (o := .cells #[.int .i64 0, .int .i64 (-1), .int .i64 1, .int .i64 1, .int .i64 0, .int .i64 0] 41 (0, 0)) (bkp BK108)) (below_size (by repeat (first | (with_reducible first | exact HB.out | apply below_alloc | apply pw_below_drewN | apply below_drew1 | refine below_set ?_ GE101.out | refine below_set ?_ GE102.out | refine below_set ?_ GE103.out | refine below_set ?_ GE104.out | refine below_set ?_ GE105.out | refine below_set ?_ GE106.out | refine below_set ?_ GE107.out | refine below_set ?_ GE108.out) | exact HB.out))))
   replace BK101 := bB BK101 hb
   replace BK102 := bB BK102 hb
   replace BK103 := bB BK103 hb
   replace BK104 := bB BK104 hb
   replace BK105 := bB BK105 hb
   replace BK106 := bB BK106 hb
   replace BK107 := bB BK107 hb
   replace BK108 := bB BK108 hb
   replace HB := asd (below_step (by repeat (first | (with_reducible first | exact HB.out | apply below_alloc | apply pw_below_drewN | apply below_drew1 | refine below_set ?_ GE101.out | refine below_set ?_ GE102.out | refine below_set ?_ GE103.out | refine below_set ?_ GE104.out | refine below_set ?_ GE105.out | refine below_set ?_ GE106.out | refine below_set ?_ GE107.out | refine below_set ?_ GE108.out) | exact HB.out)) hb)
   clear hb ho108
   refine hK.out _ _ (eb6 BK101).out (fun hHeld => ?_)
   clear hK K
   refine norm_ (a' := ?_) ?_ ?_
   rotate_left
   ·show Act.put _ (some 44) _ = _
    simp only [Act.put, sA, sB, sC, i64_w, i32_w]
    rfl
   refine pure_ (i := 3) (N := some 5) (v := ?_) (a' := ?_) (bT 5 4) rfl rfl (by kernel_rfl) (fun _ _ _ h => h) (Or.inl ⟨by rfl, ?_⟩) ?_ ?_
   rotate_left
   ·intro w'
    go_simp
    with_reducible rfl
   rotate_left
   ·simp only [Act.put, sA, sB, sC, i64_w, i32_w]
    rfl
   refine pure_ (i := 4) (N := some 6) (v := ?_) (a' := ?_) (bT 5 5) rfl rfl (by kernel_rfl) (fun _ _ _ h => h) (Or.inl ⟨by rfl, ?_⟩) ?_ ?_
   rotate_left
   ·intro w'
    go_simp
    with_reducible rfl
   rotate_left
   ·simp only [Act.put, sA, sB, sC, i64_w, i32_w]
    rfl
   refine done_ (by kernel_rfl) ?_
   try go_wp2
   go_ret3
   exact ⟨_, by first | rfl | (simp [errW_none, errW_some] <;> rfl) | (simp [*, errW_none, errW_some] <;> rfl), by (with_reducible repeat (first | apply Kd.R_alloc | apply Kd.R_drewN | apply Kd.R_drew)); exact Kd.R_mono HO111.out (fun _ hk => trivial), by repeat (first | (with_reducible first | exact HB.out | apply below_alloc | apply pw_below_drewN | apply below_drew1 | refine below_set ?_ GE101.out | refine below_set ?_ GE102.out | refine below_set ?_ GE103.out | refine below_set ?_ GE104.out | refine below_set ?_ GE105.out | refine below_set ?_ GE106.out | refine below_set ?_ GE107.out | refine below_set ?_ GE108.out) | exact HB.out)⟩
  ·rw [if_neg c54] at H
   have c54b0 : (a0.toList == ([112, 50] : List UInt8)) = false := beq_eq_false_iff_ne.mpr c54
   have c54b1 : (a0.toList != ([112, 50] : List UInt8)) = true := bne_iff_ne.mpr c54
   by_cases c109 : a0.toList = ([112, 109] : List UInt8)
   ·rw [if_pos c109] at H
    have c109b0 : (a0.toList == ([112, 109] : List UInt8)) = true := beq_iff_eq.mpr c109
    have c109b1 : (a0.toList != ([112, 109] : List UInt8)) = false := bne_eq_false_iff_eq.mpr c109
    clear c109
    obtain ⟨y112, hy112⟩ : ∃ y_ : List (S41), y_ = (([(⟨(⟨1, 0, 0, (-1)⟩ : S37), (⟨0, 0⟩ : S39)⟩ : S41)] : List (S41))) := ⟨_, rfl⟩
    replace H : (some (0, y112, true)) = some (r1, r2, r3) := by first | (rw [hy112]; with_reducible exact H) | (have H2_ := (Option.bind_some _ _).symm.trans H; rw [hy112]; with_reducible exact H2_) | (have H2_ := (Option.bind_some _ _).symm.trans H; with_reducible exact H2_) | with_reducible exact H | (rw [hy112]; exact H) | exact H
    have Ny112 := Aside0.mk hy112
    clear hy112
    simp only [Option.some.injEq, Prod.mk.injEq] at H
    obtain ⟨rfl, rfl, rfl⟩ := H
    try go_wp2
    replace BK101 := asd (blk_drew BK101.out)
    replace BK102 := asd (blk_drew BK102.out)
    replace BK103 := asd (blk_drew BK103.out)
    replace BK104 := asd (blk_drew BK104.out)
    replace BK105 := asd (blk_drew BK105.out)
    replace BK106 := asd (blk_drew BK106.out)
    replace BK107 := asd (blk_drew BK107.out)
    replace BK108 := asd (blk_drew BK108.out)
    replace HB := asd (below_drew1 HB.out)
    refine sh 5 (eb6 BK102) (fun hHeld => ?_)
    generalize w105.drew = w161 at BK101 BK102 BK103 BK104 BK105 BK106 BK107 BK108 HB hHeld ⊢
    refine pure_ (i := 2) (N := some 4) (v := ?_) (a' := ?_) #[false, false, true, false, false] rfl rfl (by kernel_rfl) (fun _ _ _ h => h) (Or.inl ⟨by rfl, ?_⟩) ?_ ?_
    rotate_left
    ·intro w'
     go_simp
     with_reducible rfl
    rotate_left
    ·simp only [Act.put, sA, sB, sC, i64_w, i32_w]
     rfl
    refine take_ (i := 0) (N := some 47) (v := ?_) (a' := ?_) #[true, false, true, false, false] rfl rfl (by kernel_rfl) (fun _ _ _ h => h) (Or.inl ⟨by rfl, ?_⟩) hHeld ?_ ?_
    rotate_left
    ·rintro w' ⟨s0, s1, s2, s3, s4, s5⟩
     go_simp
     with_reducible rfl
    rotate_left
    ·simp only [Act.put, sA, sB, sC, i64_w, i32_w]
     rfl
    refine one_ (i := 1) (N := some 48) (bT 5 3) rfl rfl (by kernel_rfl) (by decide) (fun K hK => ?_)
    refine Kd.R_lit_step k41 _ 41 ?hg (N := 48) ?hd (xs := ([(⟨(⟨1, 0, 0, (-1)⟩ : S37), (⟨0, 0⟩ : S39)⟩ : S41)] : List (S41))) (inner := [.int .i64 1, .int .i64 0, .int .i64 0, .int .i64 (-1), .int .i64 0, .int .i64 0]) (ok := fun _ => True) (okp := fun _ => True) ?hr ?hp (fun _ hk => hk) trivial (Below.refl _ _) (Nat.le_refl _) (by simp) ?_; (case hd => rfl); (case hg => rfl); (case hr => first | (go_simp; done) | (go_simp; rfl)); (case hp => exact (Reps.c6 (show Kd.M k41 _ _ _ (⟨(⟨1, 0, 0, (-1)⟩ : S37), (⟨0, 0⟩ : S39)⟩ : S41) [.int .i64 1, .int .i64 0, .int .i64 0, .int .i64 (-1), .int .i64 0, .int .i64 0] from (k41_mkM _ _ _ (⟨(⟨1, 0, 0, (-1)⟩ : S37), (⟨0, 0⟩ : S39)⟩ : S41) )) (Reps.none _ _)))
    intro v113 w162 ho163 hb hg_ hnew_
    clear hg_ hnew_
    (first | rw [← Ny112.out] at ho163 | (simp only [Int.reduceToNat] at ho163; rw [← Ny112.out] at ho163))
    have HO114 := asd (Kd.R_lower (Kd.R_newB (Kd.R_newB (Kd.R_newB (Kd.R_newB (Kd.R_newB (Kd.R_newB (Kd.R_newB (Kd.R_newB ho163 (g := gb101) (o := .cells #[.int .i64 (-1), .int .i64 0, .int .i64 0, .int .i64 (-1), .int .i64 0, .int .i64 0] 41 (0, 0)) (bkp BK101)) (g := gb102) (o := .cells #[.int .i64 1, .int .i64 0, .int .i64 0, .int .i64 (-1), .int .i64 0, .int .i64 0] 41 (0, 0)) (bkp BK102)) (g := gb103) (o := .cells #[.int .i64 0, .int .i64 1, .int .i64 1, .int .i64 0, .int .i64 0, .int .i64 0] 41 (0, 0)) (bkp BK103)) (g := gb104) (o := .cells #[.int .i64 1, .int .i64 0, .int .i64 0, .int .i64 (-1), .int .i64 a1, .int .i64 0] 41 (0, 0)) (bkp BK104)) (g := gb105) (o := .cells #[.int .i64 1, .int .i64 0, .int .i64 0, .int .i64 (-1), .int .i64 a1, .int .i64 a1] 41 (0, 0)) (bkp BK105)) (g := gb106) (o := .cells #[.int .i64 0, .int .i64 (-1), .int .i64 1, .int .i64 0, .int .i64 0, .int .i64 0] 41 (0, 0)) (bkp BK106)) (g := gb107) (o := .cells #[.int .i64 (-1), .int .i64 (-1), .int .i64 1, .int .i64 0, .int .i64 0, .int .i64 0] 41 (0, 0)) (bkp BK107)) (g := gb108) (o := .cells #[.int .i64 0, .int .i64 (-1), .int .i64 1, .int .i64 1, .int .i64 0, .int .i64 0] 41 (0, 0)) (bkp BK108)) (below_size (by repeat (first | (with_reducible first | exact HB.out | apply below_alloc | apply pw_below_drewN | apply below_drew1 | refine below_set ?_ GE101.out | refine below_set ?_ GE102.out | refine below_set ?_ GE103.out | refine below_set ?_ GE104.out | refine below_set ?_ GE105.out | refine below_set ?_ GE106.out | refine below_set ?_ GE107.out | refine below_set ?_ GE108.out) | exact HB.out))))
    replace BK101 := bB BK101 hb
    replace BK102 := bB BK102 hb
    replace BK103 := bB BK103 hb
    replace BK104 := bB BK104 hb
    replace BK105 := bB BK105 hb
    replace BK106 := bB BK106 hb
    replace BK107 := bB BK107 hb
    replace BK108 := bB BK108 hb
    replace HB := asd (below_step (by repeat (first | (with_reducible first | exact HB.out | apply below_alloc | apply pw_below_drewN | apply below_drew1 | refine below_set ?_ GE101.out | refine below_set ?_ GE102.out | refine below_set ?_ GE103.out | refine below_set ?_ GE104.out | refine below_set ?_ GE105.out | refine below_set ?_ GE106.out | refine below_set ?_ GE107.out | refine below_set ?_ GE108.out) | exact HB.out)) hb)
    clear hb ho163
    refine hK.out _ _ (eb6 BK102).out (fun hHeld => ?_)
    clear hK K
    refine norm_ (a' := ?_) ?_ ?_
    rotate_left
    ·show Act.put _ (some 48) _ = _
     simp only [Act.put, sA, sB, sC, i64_w, i32_w]
     rfl
    refine pure_ (i := 3) (N := some 5) (v := ?_) (a' := ?_) (bT 5 4) rfl rfl (by kernel_rfl) (fun _ _ _ h => h) (Or.inl ⟨by rfl, ?_⟩) ?_ ?_
    rotate_left
    ·intro w'
     go_simp
     with_reducible rfl
    rotate_left
    ·simp only [Act.put, sA, sB, sC, i64_w, i32_w]
     rfl
    refine pure_ (i := 4) (N := some 6) (v := ?_) (a' := ?_) (bT 5 5) rfl rfl (by kernel_rfl) (fun _ _ _ h => h) (Or.inl ⟨by rfl, ?_⟩) ?_ ?_
    rotate_left
    ·intro w'
     go_simp
     with_reducible rfl
    rotate_left
    ·simp only [Act.put, sA, sB, sC, i64_w, i32_w]
     rfl
    refine done_ (by kernel_rfl) ?_
    try go_wp2
    go_ret3
    exact ⟨_, by first | rfl | (simp [errW_none, errW_some] <;> rfl) | (simp [*, errW_none, errW_some] <;> rfl), by (with_reducible repeat (first | apply Kd.R_alloc | apply Kd.R_drewN | apply Kd.R_drew)); exact Kd.R_mono HO114.out (fun _ hk => trivial), by repeat (first | (with_reducible first | exact HB.out | apply below_alloc | apply pw_below_drewN | apply below_drew1 | refine below_set ?_ GE101.out | refine below_set ?_ GE102.out | refine below_set ?_ GE103.out | refine below_set ?_ GE104.out | refine below_set ?_ GE105.out | refine below_set ?_ GE106.out | refine below_set ?_ GE107.out | refine below_set ?_ GE108.out) | exact HB.out)⟩
   ·rw [if_neg c109] at H
    have c109b0 : (a0.toList == ([112, 109] : List UInt8)) = false := beq_eq_false_iff_ne.mpr c109
    have c109b1 : (a0.toList != ([112, 109] : List UInt8)) = true := bne_iff_ne.mpr c109
    by_cases c164 : a0.toList = ([112, 103] : List UInt8)
    ·rw [if_pos c164] at H
     have c164b0 : (a0.toList == ([112, 103] : List UInt8)) = true := beq_iff_eq.mpr c164
     have c164b1 : (a0.toList != ([112, 103] : List UInt8)) = false := bne_eq_false_iff_eq.mpr c164
     clear c164
     obtain ⟨y115, hy115⟩ : ∃ y_ : List (S41), y_ = (([(⟨(⟨1, 0, 0, (-1)⟩ : S37), (⟨a1, 0⟩ : S39)⟩ : S41)] : List (S41))) := ⟨_, rfl⟩
     replace H : (some (0, y115, true)) = some (r1, r2, r3) := by first | (rw [hy115]; with_reducible exact H) | (have H2_ := (Option.bind_some _ _).symm.trans H; rw [hy115]; with_reducible exact H2_) | (have H2_ := (Option.bind_some _ _).symm.trans H; with_reducible exact H2_) | with_reducible exact H | (rw [hy115]; exact H) | exact H
     have Ny115 := Aside0.mk hy115
     clear hy115
     simp only [Option.some.injEq, Prod.mk.injEq] at H
     obtain ⟨rfl, rfl, rfl⟩ := H
     try go_wp2
     replace BK101 := asd (blk_drew BK101.out)
     replace BK102 := asd (blk_drew BK102.out)
     replace BK103 := asd (blk_drew BK103.out)
     replace BK104 := asd (blk_drew BK104.out)
     replace BK105 := asd (blk_drew BK105.out)
     replace BK106 := asd (blk_drew BK106.out)
     replace BK107 := asd (blk_drew BK107.out)
     replace BK108 := asd (blk_drew BK108.out)
     replace HB := asd (below_drew1 HB.out)
     refine sh 5 (eb6 BK104) (fun hHeld => ?_)
     generalize w105.drew = w216 at BK101 BK102 BK103 BK104 BK105 BK106 BK107 BK108 HB hHeld ⊢
     refine pure_ (i := 2) (N := some 4) (v := ?_) (a' := ?_) #[false, false, true, false, false] rfl rfl (by kernel_rfl) (fun _ _ _ h => h) (Or.inl ⟨by rfl, ?_⟩) ?_ ?_
     rotate_left
     ·intro w'
      go_simp
      with_reducible rfl
     rotate_left
     ·simp only [Act.put, sA, sB, sC, i64_w, i32_w]
      rfl
     refine take_ (i := 0) (N := some 51) (v := ?_) (a' := ?_) #[true, false, true, false, false] rfl rfl (by kernel_rfl) (fun _ _ _ h => h) (Or.inl ⟨by rfl, ?_⟩) hHeld ?_ ?_
     rotate_left
     ·rintro w' ⟨s0, s1, s2, s3, s4, s5⟩
      go_simp
      with_reducible rfl
     rotate_left
     ·simp only [Act.put, sA, sB, sC, i64_w, i32_w]
      rfl
     refine one_ (i := 1) (N := some 52) (bT 5 3) rfl rfl (by kernel_rfl) (by decide) (fun K hK => ?_)
     refine Kd.R_lit_step k41 _ 41 ?hg (N := 52) ?hd (xs := ([(⟨(⟨1, 0, 0, (-1)⟩ : S37), (⟨a1, 0⟩ : S39)⟩ : S41)] : List (S41))) (inner := [.int .i64 1, .int .i64 0, .int .i64 0, .int .i64 (-1), .int .i64 a1, .int .i64 0]) (ok := fun _ => True) (okp := fun _ => True) ?hr ?hp (fun _ hk => hk) trivial (Below.refl _ _) (Nat.le_refl _) (by simp) ?_; (case hd => rfl); (case hg => rfl); (case hr => first | (go_simp; done) | (go_simp; rfl)); (case hp => exact (Reps.c6 (show Kd.M k41 _ _ _ (⟨(⟨1, 0, 0, (-1)⟩ : S37), (⟨a1, 0⟩ : S39)⟩ : S41) [.int .i64 1, .int .i64 0, .int .i64 0, .int .i64 (-1), .int .i64 a1, .int .i64 0] from (k41_mkM _ _ _ (⟨(⟨1, 0, 0, (-1)⟩ : S37), (⟨a1, 0⟩ : S39)⟩ : S41) )) (Reps.none _ _)))
     intro v116 w217 ho218 hb hg_ hnew_
     clear hg_ hnew_
     (first | rw [← Ny115.out] at ho218 | (simp only [Int.reduceToNat] at ho218; rw [← Ny115.out] at ho218))
     have HO117 := asd (Kd.R_lower (Kd.R_newB (Kd.R_newB (Kd.R_newB (Kd.R_newB (Kd.R_newB (Kd.R_newB (Kd.R_newB (Kd.R_newB ho218 (g := gb101) (o := .cells #[.int .i64 (-1), .int .i64 0, .int .i64 0, .int .i64 (-1), .int .i64 0, .int .i64 0] 41 (0, 0)) (bkp BK101)) (g := gb102) (o := .cells #[.int .i64 1, .int .i64 0, .int .i64 0, .int .i64 (-1), .int .i64 0, .int .i64 0] 41 (0, 0)) (bkp BK102)) (g := gb103) (o := .cells #[.int .i64 0, .int .i64 1, .int .i64 1, .int .i64 0, .int .i64 0, .int .i64 0] 41 (0, 0)) (bkp BK103)) (g := gb104) (o := .cells #[.int .i64 1, .int .i64 0, .int .i64 0, .int .i64 (-1), .int .i64 a1, .int .i64 0] 41 (0, 0)) (bkp BK104)) (g := gb105) (o := .cells #[.int .i64 1, .int .i64 0, .int .i64 0, .int .i64 (-1), .int .i64 a1, .int .i64 a1] 41 (0, 0)) (bkp BK105)) (g := gb106) (o := .cells #[.int .i64 0, .int .i64 (-1), .int .i64 1, .int .i64 0, .int .i64 0, .int .i64 0] 41 (0, 0)) (bkp BK106)) (g := gb107) (o := .cells #[.int .i64 (-1), .int .i64 (-1), .int .i64 1, .int .i64 0, .int .i64 0, .int .i64 0] 41 (0, 0)) (bkp BK107)) (g := gb108) (o := .cells #[.int .i64 0, .int .i64 (-1), .int .i64 1, .int .i64 1, .int .i64 0, .int .i64 0] 41 (0, 0)) (bkp BK108)) (below_size (by repeat (first | (with_reducible first | exact HB.out | apply below_alloc | apply pw_below_drewN | apply below_drew1 | refine below_set ?_ GE101.out | refine below_set ?_ GE102.out | refine below_set ?_ GE103.out | refine below_set ?_ GE104.out | refine below_set ?_ GE105.out | refine below_set ?_ GE106.out | refine below_set ?_ GE107.out | refine below_set ?_ GE108.out) | exact HB.out))))
     replace BK101 := bB BK101 hb
     replace BK102 := bB BK102 hb
     replace BK103 := bB BK103 hb
     replace BK104 := bB BK104 hb
     replace BK105 := bB BK105 hb
     replace BK106 := bB BK106 hb
     replace BK107 := bB BK107 hb
     replace BK108 := bB BK108 hb
     replace HB := asd (below_step (by repeat (first | (with_reducible first | exact HB.out | apply below_alloc | apply pw_below_drewN | apply below_drew1 | refine below_set ?_ GE101.out | refine below_set ?_ GE102.out | refine below_set ?_ GE103.out | refine below_set ?_ GE104.out | refine below_set ?_ GE105.out | refine below_set ?_ GE106.out | refine below_set ?_ GE107.out | refine below_set ?_ GE108.out) | exact HB.out)) hb)
     clear hb ho218
     refine hK.out _ _ (eb6 BK104).out (fun hHeld => ?_)
     clear hK K
     refine norm_ (a' := ?_) ?_ ?_
     rotate_left
     ·show Act.put _ (some 52) _ = _
      simp only [Act.put, sA, sB, sC, i64_w, i32_w]
      rfl
     refine pure_ (i := 3) (N := some 5) (v := ?_) (a' := ?_) (bT 5 4) rfl rfl (by kernel_rfl) (fun _ _ _ h => h) (Or.inl ⟨by rfl, ?_⟩) ?_ ?_
     rotate_left
     ·intro w'
      go_simp
      with_reducible rfl
     rotate_left
     ·simp only [Act.put, sA, sB, sC, i64_w, i32_w]
      rfl
     refine pure_ (i := 4) (N := some 6) (v := ?_) (a' := ?_) (bT 5 5) rfl rfl (by kernel_rfl) (fun _ _ _ h => h) (Or.inl ⟨by rfl, ?_⟩) ?_ ?_
     rotate_left
     ·intro w'
      go_simp
      with_reducible rfl
     rotate_left
     ·simp only [Act.put, sA, sB, sC, i64_w, i32_w]
      rfl
     refine done_ (by kernel_rfl) ?_
     try go_wp2
     go_ret3
     exact ⟨_, by first | rfl | (simp [errW_none, errW_some] <;> rfl) | (simp [*, errW_none, errW_some] <;> rfl), by (with_reducible repeat (first | apply Kd.R_alloc | apply Kd.R_drewN | apply Kd.R_drew)); exact Kd.R_mono HO117.out (fun _ hk => trivial), by repeat (first | (with_reducible first | exact HB.out | apply below_alloc | apply pw_below_drewN | apply below_drew1 | refine below_set ?_ GE101.out | refine below_set ?_ GE102.out | refine below_set ?_ GE103.out | refine below_set ?_ GE104.out | refine below_set ?_ GE105.out | refine below_set ?_ GE106.out | refine below_set ?_ GE107.out | refine below_set ?_ GE108.out) | exact HB.out)⟩
    ·rw [if_neg c164] at H
     have c164b0 : (a0.toList == ([112, 103] : List UInt8)) = false := beq_eq_false_iff_ne.mpr c164
     have c164b1 : (a0.toList != ([112, 103] : List UInt8)) = true := bne_iff_ne.mpr c164
     by_cases c219 : a0.toList = ([99, 109] : List UInt8)
     ·rw [if_pos c219] at H
      have c219b0 : (a0.toList == ([99, 109] : List UInt8)) = true := beq_iff_eq.mpr c219
      have c219b1 : (a0.toList != ([99, 109] : List UInt8)) = false := bne_eq_false_iff_eq.mpr c219
      clear c219
      obtain ⟨y118, hy118⟩ : ∃ y_ : List (S41), y_ = (([(⟨(⟨0, 1, 1, 0⟩ : S37), (⟨0, 0⟩ : S39)⟩ : S41)] : List (S41))) := ⟨_, rfl⟩
      replace H : (some (0, y118, true)) = some (r1, r2, r3) := by first | (rw [hy118]; with_reducible exact H) | (have H2_ := (Option.bind_some _ _).symm.trans H; rw [hy118]; with_reducible exact H2_) | (have H2_ := (Option.bind_some _ _).symm.trans H; with_reducible exact H2_) | with_reducible exact H | (rw [hy118]; exact H) | exact H
      have Ny118 := Aside0.mk hy118
      clear hy118
      simp only [Option.some.injEq, Prod.mk.injEq] at H
      obtain ⟨rfl, rfl, rfl⟩ := H
      try go_wp2
      replace BK101 := asd (blk_drew BK101.out)
      replace BK102 := asd (blk_drew BK102.out)
      replace BK103 := asd (blk_drew BK103.out)
      replace BK104 := asd (blk_drew BK104.out)
      replace BK105 := asd (blk_drew BK105.out)
      replace BK106 := asd (blk_drew BK106.out)
      replace BK107 := asd (blk_drew BK107.out)
      replace BK108 := asd (blk_drew BK108.out)
      replace HB := asd (below_drew1 HB.out)
      refine sh 5 (eb6 BK103) (fun hHeld => ?_)
      generalize w105.drew = w271 at BK101 BK102 BK103 BK104 BK105 BK106 BK107 BK108 HB hHeld ⊢
      refine pure_ (i := 2) (N := some 4) (v := ?_) (a' := ?_) #[false, false, true, false, false] rfl rfl (by kernel_rfl) (fun _ _ _ h => h) (Or.inl ⟨by rfl, ?_⟩) ?_ ?_
      rotate_left
      ·intro w'
       go_simp
       with_reducible rfl
      rotate_left
      ·simp only [Act.put, sA, sB, sC, i64_w, i32_w]
       rfl
      refine take_ (i := 0) (N := some 55) (v := ?_) (a' := ?_) #[true, false, true, false, false] rfl rfl (by kernel_rfl) (fun _ _ _ h => h) (Or.inl ⟨by rfl, ?_⟩) hHeld ?_ ?_
      rotate_left
      ·rintro w' ⟨s0, s1, s2, s3, s4, s5⟩
       go_simp
       with_reducible rfl
      rotate_left
      ·simp only [Act.put, sA, sB, sC, i64_w, i32_w]
       rfl
      refine one_ (i := 1) (N := some 56) (bT 5 3) rfl rfl (by kernel_rfl) (by decide) (fun K hK => ?_)
      refine Kd.R_lit_step k41 _ 41 ?hg (N := 56) ?hd (xs := ([(⟨(⟨0, 1, 1, 0⟩ : S37), (⟨0, 0⟩ : S39)⟩ : S41)] : List (S41))) (inner := [.int .i64 0, .int .i64 1, .int .i64 1, .int .i64 0, .int .i64 0, .int .i64 0]) (ok := fun _ => True) (okp := fun _ => True) ?hr ?hp (fun _ hk => hk) trivial (Below.refl _ _) (Nat.le_refl _) (by simp) ?_; (case hd => rfl); (case hg => rfl); (case hr => first | (go_simp; done) | (go_simp; rfl)); (case hp => exact (Reps.c6 (show Kd.M k41 _ _ _ (⟨(⟨0, 1, 1, 0⟩ : S37), (⟨0, 0⟩ : S39)⟩ : S41) [.int .i64 0, .int .i64 1, .int .i64 1, .int .i64 0, .int .i64 0, .int .i64 0] from (k41_mkM _ _ _ (⟨(⟨0, 1, 1, 0⟩ : S37), (⟨0, 0⟩ : S39)⟩ : S41) )) (Reps.none _ _)))
      intro v119 w272 ho273 hb hg_ hnew_
      clear hg_ hnew_
      (first | rw [← Ny118.out] at ho273 | (simp only [Int.reduceToNat] at ho273; rw [← Ny118.out] at ho273))
      have HO120 := asd (Kd.R_lower (Kd.R_newB (Kd.R_newB (Kd.R_newB (Kd.R_newB (Kd.R_newB (Kd.R_newB (Kd.R_newB (Kd.R_newB ho273 (g := gb101) (o := .cells #[.int .i64 (-1), .int .i64 0, .int .i64 0, .int .i64 (-1), .int .i64 0, .int .i64 0] 41 (0, 0)) (bkp BK101)) (g := gb102) (o := .cells #[.int .i64 1, .int .i64 0, .int .i64 0, .int .i64 (-1), .int .i64 0, .int .i64 0] 41 (0, 0)) (bkp BK102)) (g := gb103) (o := .cells #[.int .i64 0, .int .i64 1, .int .i64 1, .int .i64 0, .int .i64 0, .int .i64 0] 41 (0, 0)) (bkp BK103)) (g := gb104) (o := .cells #[.int .i64 1, .int .i64 0, .int .i64 0, .int .i64 (-1), .int .i64 a1, .int .i64 0] 41 (0, 0)) (bkp BK104)) (g := gb105) (o := .cells #[.int .i64 1, .int .i64 0, .int .i64 0, .int .i64 (-1), .int .i64 a1, .int .i64 a1] 41 (0, 0)) (bkp BK105)) (g := gb106) (o := .cells #[.int .i64 0, .int .i64 (-1), .int .i64 1, .int .i64 0, .int .i64 0, .int .i64 0] 41 (0, 0)) (bkp BK106)) (g := gb107) (o := .cells #[.int .i64 (-1), .int .i64 (-1), .int .i64 1, .int .i64 0, .int .i64 0, .int .i64 0] 41 (0, 0)) (bkp BK107)) (g := gb108) (o := .cells #[.int .i64 0, .int .i64 (-1), .int .i64 1, .int .i64 1, .int .i64 0, .int .i64 0] 41 (0, 0)) (bkp BK108)) (below_size (by repeat (first | (with_reducible first | exact HB.out | apply below_alloc | apply pw_below_drewN | apply below_drew1 | refine below_set ?_ GE101.out | refine below_set ?_ GE102.out | refine below_set ?_ GE103.out | refine below_set ?_ GE104.out | refine below_set ?_ GE105.out | refine below_set ?_ GE106.out | refine below_set ?_ GE107.out | refine below_set ?_ GE108.out) | exact HB.out))))
      replace BK101 := bB BK101 hb
      replace BK102 := bB BK102 hb
      replace BK103 := bB BK103 hb
      replace BK104 := bB BK104 hb
      replace BK105 := bB BK105 hb
      replace BK106 := bB BK106 hb
      replace BK107 := bB BK107 hb
      replace BK108 := bB BK108 hb
      replace HB := asd (below_step (by repeat (first | (with_reducible first | exact HB.out | apply below_alloc | apply pw_below_drewN | apply below_drew1 | refine below_set ?_ GE101.out | refine below_set ?_ GE102.out | refine below_set ?_ GE103.out | refine below_set ?_ GE104.out | refine below_set ?_ GE105.out | refine below_set ?_ GE106.out | refine below_set ?_ GE107.out | refine below_set ?_ GE108.out) | exact HB.out)) hb)
      clear hb ho273
      refine hK.out _ _ (eb6 BK103).out (fun hHeld => ?_)
      clear hK K
      refine norm_ (a' := ?_) ?_ ?_
      rotate_left
      ·show Act.put _ (some 56) _ = _
       simp only [Act.put, sA, sB, sC, i64_w, i32_w]
       rfl
      refine pure_ (i := 3) (N := some 5) (v := ?_) (a' := ?_) (bT 5 4) rfl rfl (by kernel_rfl) (fun _ _ _ h => h) (Or.inl ⟨by rfl, ?_⟩) ?_ ?_
      rotate_left
      ·intro w'
       go_simp
       with_reducible rfl
      rotate_left
      ·simp only [Act.put, sA, sB, sC, i64_w, i32_w]
       rfl
      refine pure_ (i := 4) (N := some 6) (v := ?_) (a' := ?_) (bT 5 5) rfl rfl (by kernel_rfl) (fun _ _ _ h => h) (Or.inl ⟨by rfl, ?_⟩) ?_ ?_
      rotate_left
      ·intro w'
       go_simp
       with_reducible rfl
      rotate_left
      ·simp only [Act.put, sA, sB, sC, i64_w, i32_w]
       rfl
      refine done_ (by kernel_rfl) ?_
      try go_wp2
      go_ret3
      exact ⟨_, by first | rfl | (simp [errW_none, errW_some] <;> rfl) | (simp [*, errW_none, errW_some] <;> rfl), by (with_reducible repeat (first | apply Kd.R_alloc | apply Kd.R_drewN | apply Kd.R_drew)); exact Kd.R_mono HO120.out (fun _ hk => trivial), by repeat (first | (with_reducible first | exact HB.out | apply below_alloc | apply pw_below_drewN | apply below_drew1 | refine below_set ?_ GE101.out | refine below_set ?_ GE102.out | refine below_set ?_ GE103.out | refine below_set ?_ GE104.out | refine below_set ?_ GE105.out | refine below_set ?_ GE106.out | refine below_set ?_ GE107.out | refine below_set ?_ GE108.out) | exact HB.out)⟩
     ·rw [if_neg c219] at H
      have c219b0 : (a0.toList == ([99, 109] : List UInt8)) = false := beq_eq_false_iff_ne.mpr c219
      have c219b1 : (a0.toList != ([99, 109] : List UInt8)) = true := bne_iff_ne.mpr c219
      by_cases c274 : a0.toList = ([112, 109, 109] : List UInt8)
      ·rw [if_pos c274] at H
       have c274b0 : (a0.toList == ([112, 109, 109] : List UInt8)) = true := beq_iff_eq.mpr c274
       have c274b1 : (a0.toList != ([112, 109, 109] : List UInt8)) = false := bne_eq_false_iff_eq.mpr c274
       clear c274
       obtain ⟨y121, hy121⟩ : ∃ y_ : List (S41), y_ = (([(⟨(⟨1, 0, 0, (-1)⟩ : S37), (⟨0, 0⟩ : S39)⟩ : S41), (⟨(⟨(-1), 0, 0, (-1)⟩ : S37), (⟨0, 0⟩ : S39)⟩ : S41)] : List (S41))) := ⟨_, rfl⟩
       replace H : (some (0, y121, true)) = some (r1, r2, r3) := by first | (rw [hy121]; with_reducible exact H) | (have H2_ := (Option.bind_some _ _).symm.trans H; rw [hy121]; with_reducible exact H2_) | (have H2_ := (Option.bind_some _ _).symm.trans H; with_reducible exact H2_) | with_reducible exact H | (rw [hy121]; exact H) | exact H
       have Ny121 := Aside0.mk hy121
       clear hy121
       simp only [Option.some.injEq, Prod.mk.injEq] at H
       obtain ⟨rfl, rfl, rfl⟩ := H
       try go_wp2
       replace BK101 := asd (blk_drew BK101.out)
       replace BK102 := asd (blk_drew BK102.out)
       replace BK103 := asd (blk_drew BK103.out)
       replace BK104 := asd (blk_drew BK104.out)
       replace BK105 := asd (blk_drew BK105.out)
       replace BK106 := asd (blk_drew BK106.out)
       replace BK107 := asd (blk_drew BK107.out)
       replace BK108 := asd (blk_drew BK108.out)
       replace HB := asd (below_drew1 HB.out)
       refine sh 6 (cb6 BK102 (eb6 BK101)) (fun hHeld => ?_)
       generalize w105.drew = w326 at BK101 BK102 BK103 BK104 BK105 BK106 BK107 BK108 HB hHeld ⊢
       refine pure_ (i := 3) (N := some 4) (v := ?_) (a' := ?_) (bs 6 8) rfl rfl (by kernel_rfl) (fun _ _ _ h => h) (Or.inl ⟨by rfl, ?_⟩) ?_ ?_
       rotate_left
       ·intro w'
        go_simp
        with_reducible rfl
       rotate_left
       ·simp only [Act.put, sA, sB, sC, i64_w, i32_w]
        rfl
       refine take_ (i := 0) (N := some 59) (v := ?_) (a' := ?_) (bs 6 9) rfl rfl (by kernel_rfl) (fun _ _ _ h => h) (Or.inl ⟨by rfl, ?_⟩) hHeld ?_ ?_
       rotate_left
       ·rintro w' ⟨s0, s1, s2, s3, s4, s5, s6, s7, s8, s9, s10, s11⟩
        go_simp
        with_reducible rfl
       rotate_left
       ·simp only [Act.put, sA, sB, sC, i64_w, i32_w]
        rfl
       refine take_ (i := 1) (N := some 60) (v := ?_) (a' := ?_) (bs 6 11) rfl rfl (by kernel_rfl) (fun _ _ _ h => h) (Or.inl ⟨by rfl, ?_⟩) hHeld ?_ ?_
       rotate_left
       ·rintro w' ⟨s0, s1, s2, s3, s4, s5, s6, s7, s8, s9, s10, s11⟩
        go_simp
        with_reducible rfl
       rotate_left
       ·simp only [Act.put, sA, sB, sC, i64_w, i32_w]
        rfl
       refine one_ (i := 2) (N := some 61) (bT 6 4) rfl rfl (by kernel_rfl) (by decide) (fun K hK => ?_)
       refine Kd.R_lit_step k41 _ 41 ?hg (N := 61) ?hd (xs := ([(⟨(⟨1, 0, 0, (-1)⟩ : S37), (⟨0, 0⟩ : S39)⟩ : S41), (⟨(⟨(-1), 0, 0, (-1)⟩ : S37), (⟨0, 0⟩ : S39)⟩ : S41)] : List (S41))) (inner := [.int .i64 1, .int .i64 0, .int .i64 0, .int .i64 (-1), .int .i64 0, .int .i64 0, .int .i64 (-1), .int .i64 0, .int .i64 0, .int .i64 (-1), .int .i64 0, .int .i64 0]) (ok := fun _ => True) (okp := fun _ => True) ?hr ?hp (fun _ hk => hk) trivial (Below.refl _ _) (Nat.le_refl _) (by simp) ?_; (case hd => rfl); (case hg => rfl); (case hr => first | (go_simp; done) | (go_simp; rfl)); (case hp => exact (Reps.c6 (show Kd.M k41 _ _ _ (⟨(⟨1, 0, 0, (-1)⟩ : S37), (⟨0, 0⟩ : S39)⟩ : S41) [.int .i64 1, .int .i64 0, .int .i64 0, .int .i64 (-1), .int .i64 0, .int .i64 0] from (k41_mkM _ _ _ (⟨(⟨1, 0, 0, (-1)⟩ : S37), (⟨0, 0⟩ : S39)⟩ : S41) )) (Reps.c6 (show Kd.M k41 _ _ _ (⟨(⟨(-1), 0, 0, (-1)⟩ : S37), (⟨0, 0⟩ : S39)⟩ : S41) [.int .i64 (-1), .int .i64 0, .int .i64 0, .int .i64 (-1), .int .i64 0, .int .i64 0] from (k41_mkM _ _ _ (⟨(⟨(-1), 0, 0, (-1)⟩ : S37), (⟨0, 0⟩ : S39)⟩ : S41) )) (Reps.none _ _))))
       intro v122 w327 ho328 hb hg_ hnew_
       clear hg_ hnew_
       (first | rw [← Ny121.out] at ho328 | (simp only [Int.reduceToNat] at ho328; rw [← Ny121.out] at ho328))
       have HO123 := asd (Kd.R_lower (Kd.R_newB (Kd.R_newB (Kd.R_newB (Kd.R_newB (Kd.R_newB (Kd.R_newB (Kd.R_newB (Kd.R_newB ho328 (g := gb101) (o := .cells #[.int .i64 (-1), .int .i64 0, .int .i64 0, .int .i64 (-1), .int .i64 0, .int .i64 0] 41 (0, 0)) (bkp BK101)) (g := gb102) (o := .cells #[.int .i64 1, .int .i64 0, .int .i64 0, .int .i64 (-1), .int .i64 0, .int .i64 0] 41 (0, 0)) (bkp BK102)) (g := gb103) (o := .cells #[.int .i64 0, .int .i64 1, .int .i64 1, .int .i64 0, .int .i64 0, .int .i64 0] 41 (0, 0)) (bkp BK103)) (g := gb104) (o := .cells #[.int .i64 1, .int .i64 0, .int .i64 0, .int .i64 (-1), .int .i64 a1, .int .i64 0] 41 (0, 0)) (bkp BK104)) (g := gb105) (o := .cells #[.int .i64 1, .int .i64 0, .int .i64 0, .int .i64 (-1), .int .i64 a1, .int .i64 a1] 41 (0, 0)) (bkp BK105)) (g := gb106) (o := .cells #[.int .i64 0, .int .i64 (-1), .int .i64 1, .int .i64 0, .int .i64 0, .int .i64 0] 41 (0, 0)) (bkp BK106)) (g := gb107) (o := .cells #[.int .i64 (-1), .int .i64 (-1), .int .i64 1, .int .i64 0, .int .i64 0, .int .i64 0] 41 (0, 0)) (bkp BK107)) (g := gb108) (o := .cells #[.int .i64 0, .int .i64 (-1), .int .i64 1, .int .i64 1, .int .i64 0, .int .i64 0] 41 (0, 0)) (bkp BK108)) (below_size (by repeat (first | (with_reducible first | exact HB.out | apply below_alloc | apply pw_below_drewN | apply below_drew1 | refine below_set ?_ GE101.out | refine below_set ?_ GE102.out | refine below_set ?_ GE103.out | refine below_set ?_ GE104.out | refine below_set ?_ GE105.out | refine below_set ?_ GE106.out | refine below_set ?_ GE107.out | refine below_set ?_ GE108.out) | exact HB.out))))
       replace BK101 := bB BK101 hb
       replace BK102 := bB BK102 hb
       replace BK103 := bB BK103 hb
       replace BK104 := bB BK104 hb
       replace BK105 := bB BK105 hb
       replace BK106 := bB BK106 hb
       replace BK107 := bB BK107 hb
       replace BK108 := bB BK108 hb
       replace HB := asd (below_step (by repeat (first | (with_reducible first | exact HB.out | apply below_alloc | apply pw_below_drewN | apply below_drew1 | refine below_set ?_ GE101.out | refine below_set ?_ GE102.out | refine below_set ?_ GE103.out | refine below_set ?_ GE104.out | refine below_set ?_ GE105.out | refine below_set ?_ GE106.out | refine below_set ?_ GE107.out | refine below_set ?_ GE108.out) | exact HB.out)) hb)
       clear hb ho328
       refine hK.out _ _ (cb6 BK102 (eb6 BK101)).out (fun hHeld => ?_)
       clear hK K
       refine norm_ (a' := ?_) ?_ ?_
       rotate_left
       ·show Act.put _ (some 61) _ = _
        simp only [Act.put, sA, sB, sC, i64_w, i32_w]
        rfl
       refine pure_ (i := 4) (N := some 5) (v := ?_) (a' := ?_) (bT 6 5) rfl rfl (by kernel_rfl) (fun _ _ _ h => h) (Or.inl ⟨by rfl, ?_⟩) ?_ ?_
       rotate_left
       ·intro w'
        go_simp
        with_reducible rfl
       rotate_left
       ·simp only [Act.put, sA, sB, sC, i64_w, i32_w]
        rfl
       refine pure_ (i := 5) (N := some 6) (v := ?_) (a' := ?_) (bT 6 6) rfl rfl (by kernel_rfl) (fun _ _ _ h => h) (Or.inl ⟨by rfl, ?_⟩) ?_ ?_
       rotate_left
       ·intro w'
        go_simp
        with_reducible rfl
       rotate_left
       ·simp only [Act.put, sA, sB, sC, i64_w, i32_w]
        rfl
       refine done_ (by kernel_rfl) ?_
       try go_wp2
       go_ret3
       exact ⟨_, by first | rfl | (simp [errW_none, errW_some] <;> rfl) | (simp [*, errW_none, errW_some] <;> rfl), by (with_reducible repeat (first | apply Kd.R_alloc | apply Kd.R_drewN | apply Kd.R_drew)); exact Kd.R_mono HO123.out (fun _ hk => trivial), by repeat (first | (with_reducible first | exact HB.out | apply below_alloc | apply pw_below_drewN | apply below_drew1 | refine below_set ?_ GE101.out | refine below_set ?_ GE102.out | refine below_set ?_ GE103.out | refine below_set ?_ GE104.out | refine below_set ?_ GE105.out | refine below_set ?_ GE106.out | refine below_set ?_ GE107.out | refine below_set ?_ GE108.out) | exact HB.out)⟩
      ·rw [if_neg c274] at H
       have c274b0 : (a0.toList == ([112, 109, 109] : List UInt8)) = false := beq_eq_false_iff_ne.mpr c274
       have c274b1 : (a0.toList != ([112, 109, 109] : List UInt8)) = true := bne_iff_ne.mpr c274
       by_cases c329 : a0.toList = ([112, 109, 103] : List UInt8)
       ·rw [if_pos c329] at H
        have c329b0 : (a0.toList == ([112, 109, 103] : List UInt8)) = true := beq_iff_eq.mpr c329
        have c329b1 : (a0.toList != ([112, 109, 103] : List UInt8)) = false := bne_eq_false_iff_eq.mpr c329
        clear c329
        obtain ⟨y124, hy124⟩ : ∃ y_ : List (S41), y_ = (([(⟨(⟨1, 0, 0, (-1)⟩ : S37), (⟨a1, 0⟩ : S39)⟩ : S41), (⟨(⟨(-1), 0, 0, (-1)⟩ : S37), (⟨0, 0⟩ : S39)⟩ : S41)] : List (S41))) := ⟨_, rfl⟩
        replace H : (some (0, y124, true)) = some (r1, r2, r3) := by first | (rw [hy124]; with_reducible exact H) | (have H2_ := (Option.bind_some _ _).symm.trans H; rw [hy124]; with_reducible exact H2_) | (have H2_ := (Option.bind_some _ _).symm.trans H; with_reducible exact H2_) | with_reducible exact H | (rw [hy124]; exact H) | exact H
        have Ny124 := Aside0.mk hy124
        clear hy124
        simp only [Option.some.injEq, Prod.mk.injEq] at H
        obtain ⟨rfl, rfl, rfl⟩ := H
        try go_wp2
        replace BK101 := asd (blk_drew BK101.out)
        replace BK102 := asd (blk_drew BK102.out)
        replace BK103 := asd (blk_drew BK103.out)
        replace BK104 := asd (blk_drew BK104.out)
        replace BK105 := asd (blk_drew BK105.out)
        replace BK106 := asd (blk_drew BK106.out)
        replace BK107 := asd (blk_drew BK107.out)
        replace BK108 := asd (blk_drew BK108.out)
        replace HB := asd (below_drew1 HB.out)
        refine sh 6 (cb6 BK104 (eb6 BK101)) (fun hHeld => ?_)
        generalize w105.drew = w381 at BK101 BK102 BK103 BK104 BK105 BK106 BK107 BK108 HB hHeld ⊢
        refine pure_ (i := 3) (N := some 4) (v := ?_) (a' := ?_) (bs 6 8) rfl rfl (by kernel_rfl) (fun _ _ _ h => h) (Or.inl ⟨by rfl, ?_⟩) ?_ ?_
        rotate_left
        ·intro w'
         go_simp
         with_reducible rfl
        rotate_left
        ·simp only [Act.put, sA, sB, sC, i64_w, i32_w]
         rfl
        refine take_ (i := 0) (N := some 64) (v := ?_) (a' := ?_) (bs 6 9) rfl rfl (by kernel_rfl) (fun _ _ _ h => h) (Or.inl ⟨by rfl, ?_⟩) hHeld ?_ ?_
        rotate_left
        ·rintro w' ⟨s0, s1, s2, s3, s4, s5, s6, s7, s8, s9, s10, s11⟩
         go_simp
         with_reducible rfl
        rotate_left
        ·simp only [Act.put, sA, sB, sC, i64_w, i32_w]
         rfl
        refine take_ (i := 1) (N := some 65) (v := ?_) (a' := ?_) (bs 6 11) rfl rfl (by kernel_rfl) (fun _ _ _ h => h) (Or.inl ⟨by rfl, ?_⟩) hHeld ?_ ?_
        rotate_left
        ·rintro w' ⟨s0, s1, s2, s3, s4, s5, s6, s7, s8, s9, s10, s11⟩
         go_simp
         with_reducible rfl
        rotate_left
        ·simp only [Act.put, sA, sB, sC, i64_w, i32_w]
         rfl
        refine one_ (i := 2) (N := some 66) (bT 6 4) rfl rfl (by kernel_rfl) (by decide) (fun K hK => ?_)
        refine Kd.R_lit_step k41 _ 41 ?hg (N := 66) ?hd (xs := ([(⟨(⟨1, 0, 0, (-1)⟩ : S37), (⟨a1, 0⟩ : S39)⟩ : S41), (⟨(⟨(-1), 0, 0, (-1)⟩ : S37), (⟨0, 0⟩ : S39)⟩ : S41)] : List (S41))) (inner := [.int .i64 1, .int .i64 0, .int .i64 0, .int .i64 (-1), .int .i64 a1, .int .i64 0, .int .i64 (-1), .int .i64 0, .int .i64 0, .int .i64 (-1), .int .i64 0, .int .i64 0]) (ok := fun _ => True) (okp := fun _ => True) ?hr ?hp (fun _ hk => hk) trivial (Below.refl _ _) (Nat.le_refl _) (by simp) ?_; (case hd => rfl); (case hg => rfl); (case hr => first | (go_simp; done) | (go_simp; rfl)); (case hp => exact (Reps.c6 (show Kd.M k41 _ _ _ (⟨(⟨1, 0, 0, (-1)⟩ : S37), (⟨a1, 0⟩ : S39)⟩ : S41) [.int .i64 1, .int .i64 0, .int .i64 0, .int .i64 (-1), .int .i64 a1, .int .i64 0] from (k41_mkM _ _ _ (⟨(⟨1, 0, 0, (-1)⟩ : S37), (⟨a1, 0⟩ : S39)⟩ : S41) )) (Reps.c6 (show Kd.M k41 _ _ _ (⟨(⟨(-1), 0, 0, (-1)⟩ : S37), (⟨0, 0⟩ : S39)⟩ : S41) [.int .i64 (-1), .int .i64 0, .int .i64 0, .int .i64 (-1), .int .i64 0, .int .i64 0] from (k41_mkM _ _ _ (⟨(⟨(-1), 0, 0, (-1)⟩ : S37), (⟨0, 0⟩ : S39)⟩ : S41) )) (Reps.none _ _))))
        intro v125 w382 ho383 hb hg_ hnew_
        clear hg_ hnew_
        (first | rw [← Ny124.out] at ho383 | (simp only [Int.reduceToNat] at ho383; rw [← Ny124.out] at ho383))
        have HO126 := asd (Kd.R_lower (Kd.R_newB (Kd.R_newB (Kd.R_newB (Kd.R_newB (Kd.R_newB (Kd.R_newB (Kd.R_newB (Kd.R_newB ho383 (g := gb101) (o := .cells #[.int .i64 (-1), .int .i64 0, .int .i64 0, .int .i64 (-1), .int .i64 0, .int .i64 0] 41 (0, 0)) (bkp BK101)) (g := gb102) (o := .cells #[.int .i64 1, .int .i64 0, .int .i64 0, .int .i64 (-1), .int .i64 0, .int .i64 0] 41 (0, 0)) (bkp BK102)) (g := gb103) (o := .cells #[.int .i64 0, .int .i64 1, .int .i64 1, .int .i64 0, .int .i64 0, .int .i64 0] 41 (0, 0)) (bkp BK103)) (g := gb104) (o := .cells #[.int .i64 1, .int .i64 0, .int .i64 0, .int .i64 (-1), .int .i64 a1, .int .i64 0] 41 (0, 0)) (bkp BK104)) (g := gb105) (o := .cells #[.int .i64 1, .int .i64 0, .int .i64 0, .int .i64 (-1), .int .i64 a1, .int .i64 a1] 41 (0, 0)) (bkp BK105)) (g := gb106) (o := .cells #[.int .i64 0, .int .i64 (-1), .int .i64 1, .int .i64 0, .int .i64 0, .int .i64 0] 41 (0, 0)) (bkp BK106)) (g := gb107) (o := .cells #[.int .i64 (-1), .int .i64 (-1), .int .i64 1, .int .i64 0, .int .i64 0, .int .i64 0] 41 (0, 0)) (bkp BK107)) (g := gb108) (o := .cells #[.int .i64 0, .int .i64 (-1), .int .i64 1, .int .i64 1, .int .i64 0, .int .i64 0] 41 (0, 0)) (bkp BK108)) (below_size (by repeat (first | (with_reducible first | exact HB.out | apply below_alloc | apply pw_below_drewN | apply below_drew1 | refine below_set ?_ GE101.out | refine below_set ?_ GE102.out | refine below_set ?_ GE103.out | refine below_set ?_ GE104.out | refine below_set ?_ GE105.out | refine below_set ?_ GE106.out | refine below_set ?_ GE107.out | refine below_set ?_ GE108.out) | exact HB.out))))
        replace BK101 := bB BK101 hb
        replace BK102 := bB BK102 hb
        replace BK103 := bB BK103 hb
        replace BK104 := bB BK104 hb
        replace BK105 := bB BK105 hb
        replace BK106 := bB BK106 hb
        replace BK107 := bB BK107 hb
        replace BK108 := bB BK108 hb
        replace HB := asd (below_step (by repeat (first | (with_reducible first | exact HB.out | apply below_alloc | apply pw_below_drewN | apply below_drew1 | refine below_set ?_ GE101.out | refine below_set ?_ GE102.out | refine below_set ?_ GE103.out | refine below_set ?_ GE104.out | refine below_set ?_ GE105.out | refine below_set ?_ GE106.out | refine below_set ?_ GE107.out | refine below_set ?_ GE108.out) | exact HB.out)) hb)
        clear hb ho383
        refine hK.out _ _ (cb6 BK104 (eb6 BK101)).out (fun hHeld => ?_)
        clear hK K
        refine norm_ (a' := ?_) ?_ ?_
        rotate_left
        ·show Act.put _ (some 66) _ = _
         simp only [Act.put, sA, sB, sC, i64_w, i32_w]
         rfl
        refine pure_ (i := 4) (N := some 5) (v := ?_) (a' := ?_) (bT 6 5) rfl rfl (by kernel_rfl) (fun _ _ _ h => h) (Or.inl ⟨by rfl, ?_⟩) ?_ ?_
        rotate_left
        ·intro w'
         go_simp
         with_reducible rfl
        rotate_left
        ·simp only [Act.put, sA, sB, sC, i64_w, i32_w]
         rfl
        refine pure_ (i := 5) (N := some 6) (v := ?_) (a' := ?_) (bT 6 6) rfl rfl (by kernel_rfl) (fun _ _ _ h => h) (Or.inl ⟨by rfl, ?_⟩) ?_ ?_
        rotate_left
        ·intro w'
         go_simp
         with_reducible rfl
        rotate_left
        ·simp only [Act.put, sA, sB, sC, i64_w, i32_w]
         rfl
        refine done_ (by kernel_rfl) ?_
        try go_wp2
        go_ret3
        exact ⟨_, by first | rfl | (simp [errW_none, errW_some] <;> rfl) | (simp [*, errW_none, errW_some] <;> rfl), by (with_reducible repeat (first | apply Kd.R_alloc | apply Kd.R_drewN | apply Kd.R_drew)); exact Kd.R_mono HO126.out (fun _ hk => trivial), by repeat (first | (with_reducible first | exact HB.out | apply below_alloc | apply pw_below_drewN | apply below_drew1 | refine below_set ?_ GE101.out | refine below_set ?_ GE102.out | refine below_set ?_ GE103.out | refine below_set ?_ GE104.out | refine below_set ?_ GE105.out | refine below_set ?_ GE106.out | refine below_set ?_ GE107.out | refine below_set ?_ GE108.out) | exact HB.out)⟩
       ·rw [if_neg c329] at H
        have c329b0 : (a0.toList == ([112, 109, 103] : List UInt8)) = false := beq_eq_false_iff_ne.mpr c329
        have c329b1 : (a0.toList != ([112, 109, 103] : List UInt8)) = true := bne_iff_ne.mpr c329
        by_cases c384 : a0.toList = ([112, 103, 103] : List UInt8)
        ·rw [if_pos c384] at H
         have c384b0 : (a0.toList == ([112, 103, 103] : List UInt8)) = true := beq_iff_eq.mpr c384
         have c384b1 : (a0.toList != ([112, 103, 103] : List UInt8)) = false := bne_eq_false_iff_eq.mpr c384
         clear c384
         obtain ⟨y127, hy127⟩ : ∃ y_ : List (S41), y_ = (([(⟨(⟨1, 0, 0, (-1)⟩ : S37), (⟨a1, a1⟩ : S39)⟩ : S41), (⟨(⟨(-1), 0, 0, (-1)⟩ : S37), (⟨0, 0⟩ : S39)⟩ : S41)] : List (S41))) := ⟨_, rfl⟩
         replace H : (some (0, y127, true)) = some (r1, r2, r3) := by first | (rw [hy127]; with_reducible exact H) | (have H2_ := (Option.bind_some _ _).symm.trans H; rw [hy127]; with_reducible exact H2_) | (have H2_ := (Option.bind_some _ _).symm.trans H; with_reducible exact H2_) | with_reducible exact H | (rw [hy127]; exact H) | exact H
         have Ny127 := Aside0.mk hy127
         clear hy127
         simp only [Option.some.injEq, Prod.mk.injEq] at H
         obtain ⟨rfl, rfl, rfl⟩ := H
         try go_wp2
         replace BK101 := asd (blk_drew BK101.out)
         replace BK102 := asd (blk_drew BK102.out)
         replace BK103 := asd (blk_drew BK103.out)
         replace BK104 := asd (blk_drew BK104.out)
         replace BK105 := asd (blk_drew BK105.out)
         replace BK106 := asd (blk_drew BK106.out)
         replace BK107 := asd (blk_drew BK107.out)
         replace BK108 := asd (blk_drew BK108.out)
         replace HB := asd (below_drew1 HB.out)
         refine sh 6 (cb6 BK105 (eb6 BK101)) (fun hHeld => ?_)
         generalize w105.drew = w436 at BK101 BK102 BK103 BK104 BK105 BK106 BK107 BK108 HB hHeld ⊢
         refine pure_ (i := 3) (N := some 4) (v := ?_) (a' := ?_) (bs 6 8) rfl rfl (by kernel_rfl) (fun _ _ _ h => h) (Or.inl ⟨by rfl, ?_⟩) ?_ ?_
         rotate_left
         ·intro w'
          go_simp
          with_reducible rfl
         rotate_left
         ·simp only [Act.put, sA, sB, sC, i64_w, i32_w]
          rfl
         refine take_ (i := 0) (N := some 69) (v := ?_) (a' := ?_) (bs 6 9) rfl rfl (by kernel_rfl) (fun _ _ _ h => h) (Or.inl ⟨by rfl, ?_⟩) hHeld ?_ ?_
         rotate_left
         ·rintro w' ⟨s0, s1, s2, s3, s4, s5, s6, s7, s8, s9, s10, s11⟩
          go_simp
          with_reducible rfl
         rotate_left
         ·simp only [Act.put, sA, sB, sC, i64_w, i32_w]
          rfl
         refine take_ (i := 1) (N := some 70) (v := ?_) (a' := ?_) (bs 6 11) rfl rfl (by kernel_rfl) (fun _ _ _ h => h) (Or.inl ⟨by rfl, ?_⟩) hHeld ?_ ?_
         rotate_left
         ·rintro w' ⟨s0, s1, s2, s3, s4, s5, s6, s7, s8, s9, s10, s11⟩
          go_simp
          with_reducible rfl
         rotate_left
         ·simp only [Act.put, sA, sB, sC, i64_w, i32_w]
          rfl
         refine one_ (i := 2) (N := some 71) (bT 6 4) rfl rfl (by kernel_rfl) (by decide) (fun K hK => ?_)
         refine Kd.R_lit_step k41 _ 41 ?hg (N := 71) ?hd (xs := ([(⟨(⟨1, 0, 0, (-1)⟩ : S37), (⟨a1, a1⟩ : S39)⟩ : S41), (⟨(⟨(-1), 0, 0, (-1)⟩ : S37), (⟨0, 0⟩ : S39)⟩ : S41)] : List (S41))) (inner := [.int .i64 1, .int .i64 0, .int .i64 0, .int .i64 (-1), .int .i64 a1, .int .i64 a1, .int .i64 (-1), .int .i64 0, .int .i64 0, .int .i64 (-1), .int .i64 0, .int .i64 0]) (ok := fun _ => True) (okp := fun _ => True) ?hr ?hp (fun _ hk => hk) trivial (Below.refl _ _) (Nat.le_refl _) (by simp) ?_; (case hd => rfl); (case hg => rfl); (case hr => first | (go_simp; done) | (go_simp; rfl)); (case hp => exact (Reps.c6 (show Kd.M k41 _ _ _ (⟨(⟨1, 0, 0, (-1)⟩ : S37), (⟨a1, a1⟩ : S39)⟩ : S41) [.int .i64 1, .int .i64 0, .int .i64 0, .int .i64 (-1), .int .i64 a1, .int .i64 a1] from (k41_mkM _ _ _ (⟨(⟨1, 0, 0, (-1)⟩ : S37), (⟨a1, a1⟩ : S39)⟩ : S41) )) (Reps.c6 (show Kd.M k41 _ _ _ (⟨(⟨(-1), 0, 0, (-1)⟩ : S37), (⟨0, 0⟩ : S39)⟩ : S41) [.int .i64 (-1), .int .i64 0, .int .i64 0, .int .i64 (-1), .int .i64 0, .int .i64 0] from (k41_mkM _ _ _ (⟨(⟨(-1), 0, 0, (-1)⟩ : S37), (⟨0, 0⟩ : S39)⟩ : S41) )) (Reps.none _ _))))
         intro v128 w437 ho438 hb hg_ hnew_
         clear hg_ hnew_
         (first | rw [← Ny127.out] at ho438 | (simp only [Int.reduceToNat] at ho438; rw [← Ny127.out] at ho438))
         have HO129 := asd (Kd.R_lower (Kd.R_newB (Kd.R_newB (Kd.R_newB (Kd.R_newB (Kd.R_newB (Kd.R_newB (Kd.R_newB (Kd.R_newB ho438 (g := gb101) (o := .cells #[.int .i64 (-1), .int .i64 0, .int .i64 0, .int .i64 (-1), .int .i64 0, .int .i64 0] 41 (0, 0)) (bkp BK101)) (g := gb102) (o := .cells #[.int .i64 1, .int .i64 0, .int .i64 0, .int .i64 (-1), .int .i64 0, .int .i64 0] 41 (0, 0)) (bkp BK102)) (g := gb103) (o := .cells #[.int .i64 0, .int .i64 1, .int .i64 1, .int .i64 0, .int .i64 0, .int .i64 0] 41 (0, 0)) (bkp BK103)) (g := gb104) (o := .cells #[.int .i64 1, .int .i64 0, .int .i64 0, .int .i64 (-1), .int .i64 a1, .int .i64 0] 41 (0, 0)) (bkp BK104)) (g := gb105) (o := .cells #[.int .i64 1, .int .i64 0, .int .i64 0, .int .i64 (-1), .int .i64 a1, .int .i64 a1] 41 (0, 0)) (bkp BK105)) (g := gb106) (o := .cells #[.int .i64 0, .int .i64 (-1), .int .i64 1, .int .i64 0, .int .i64 0, .int .i64 0] 41 (0, 0)) (bkp BK106)) (g := gb107) (o := .cells #[.int .i64 (-1), .int .i64 (-1), .int .i64 1, .int .i64 0, .int .i64 0, .int .i64 0] 41 (0, 0)) (bkp BK107)) (g := gb108) (o := .cells #[.int .i64 0, .int .i64 (-1), .int .i64 1, .int .i64 1, .int .i64 0, .int .i64 0] 41 (0, 0)) (bkp BK108)) (below_size (by repeat (first | (with_reducible first | exact HB.out | apply below_alloc | apply pw_below_drewN | apply below_drew1 | refine below_set ?_ GE101.out | refine below_set ?_ GE102.out | refine below_set ?_ GE103.out | refine below_set ?_ GE104.out | refine below_set ?_ GE105.out | refine below_set ?_ GE106.out | refine below_set ?_ GE107.out | refine below_set ?_ GE108.out) | exact HB.out))))
         replace BK101 := bB BK101 hb
         replace BK102 := bB BK102 hb
         replace BK103 := bB BK103 hb
         replace BK104 := bB BK104 hb
         replace BK105 := bB BK105 hb
         replace BK106 := bB BK106 hb
         replace BK107 := bB BK107 hb
         replace BK108 := bB BK108 hb
         replace HB := asd (below_step (by repeat (first | (with_reducible first | exact HB.out | apply below_alloc | apply pw_below_drewN | apply below_drew1 | refine below_set ?_ GE101.out | refine below_set ?_ GE102.out | refine below_set ?_ GE103.out | refine below_set ?_ GE104.out | refine below_set ?_ GE105.out | refine below_set ?_ GE106.out | refine below_set ?_ GE107.out | refine below_set ?_ GE108.out) | exact HB.out)) hb)
         clear hb ho438
         refine hK.out _ _ (cb6 BK105 (eb6 BK101)).out (fun hHeld => ?_)
         clear hK K
         refine norm_ (a' := ?_) ?_ ?_
         rotate_left
         ·show Act.put _ (some 71) _ = _
          simp only [Act.put, sA, sB, sC, i64_w, i32_w]
          rfl
         refine pure_ (i := 4) (N := some 5) (v := ?_) (a' := ?_) (bT 6 5) rfl rfl (by kernel_rfl) (fun _ _ _ h => h) (Or.inl ⟨by rfl, ?_⟩) ?_ ?_
         rotate_left
         ·intro w'
          go_simp
          with_reducible rfl
         rotate_left
         ·simp only [Act.put, sA, sB, sC, i64_w, i32_w]
          rfl
         refine pure_ (i := 5) (N := some 6) (v := ?_) (a' := ?_) (bT 6 6) rfl rfl (by kernel_rfl) (fun _ _ _ h => h) (Or.inl ⟨by rfl, ?_⟩) ?_ ?_
         rotate_left
         ·intro w'
          go_simp
          with_reducible rfl
         rotate_left
         ·simp only [Act.put, sA, sB, sC, i64_w, i32_w]
          rfl
         refine done_ (by kernel_rfl) ?_
         try go_wp2
         go_ret3
         exact ⟨_, by first | rfl | (simp [errW_none, errW_some] <;> rfl) | (simp [*, errW_none, errW_some] <;> rfl), by (with_reducible repeat (first | apply Kd.R_alloc | apply Kd.R_drewN | apply Kd.R_drew)); exact Kd.R_mono HO129.out (fun _ hk => trivial), by repeat (first | (with_reducible first | exact HB.out | apply below_alloc | apply pw_below_drewN | apply below_drew1 | refine below_set ?_ GE101.out | refine below_set ?_ GE102.out | refine below_set ?_ GE103.out | refine below_set ?_ GE104.out | refine below_set ?_ GE105.out | refine below_set ?_ GE106.out | refine below_set ?_ GE107.out | refine below_set ?_ GE108.out) | exact HB.out)⟩
        ·rw [if_neg c384] at H
         have c384b0 : (a0.toList == ([112, 103, 103] : List UInt8)) = false := beq_eq_false_iff_ne.mpr c384
         have c384b1 : (a0.toList != ([112, 103, 103] : List UInt8)) = true := bne_iff_ne.mpr c384
         by_cases c439 : a0.toList = ([99, 109, 109] : List UInt8)
         ·rw [if_pos c439] at H
          have c439b0 : (a0.toList == ([99, 109, 109] : List UInt8)) = true := beq_iff_eq.mpr c439
          have c439b1 : (a0.toList != ([99, 109, 109] : List UInt8)) = false := bne_eq_false_iff_eq.mpr c439
          clear c439
          obtain ⟨y130, hy130⟩ : ∃ y_ : List (S41), y_ = (([(⟨(⟨0, 1, 1, 0⟩ : S37), (⟨0, 0⟩ : S39)⟩ : S41), (⟨(⟨(-1), 0, 0, (-1)⟩ : S37), (⟨0, 0⟩ : S39)⟩ : S41)] : List (S41))) := ⟨_, rfl⟩
          replace H : (some (0, y130, true)) = some (r1, r2, r3) := by first | (rw [hy130]; with_reducible exact H) | (have H2_ := (Option.bind_some _ _).symm.trans H; rw [hy130]; with_reducible exact H2_) | (have H2_ := (Option.bind_some _ _).symm.trans H; with_reducible exact H2_) | with_reducible exact H | (rw [hy130]; exact H) | exact H
          have Ny130 := Aside0.mk hy130
          clear hy130
          simp only [Option.some.injEq, Prod.mk.injEq] at H
          obtain ⟨rfl, rfl, rfl⟩ := H
          try go_wp2
          replace BK101 := asd (blk_drew BK101.out)
          replace BK102 := asd (blk_drew BK102.out)
          replace BK103 := asd (blk_drew BK103.out)
          replace BK104 := asd (blk_drew BK104.out)
          replace BK105 := asd (blk_drew BK105.out)
          replace BK106 := asd (blk_drew BK106.out)
          replace BK107 := asd (blk_drew BK107.out)
          replace BK108 := asd (blk_drew BK108.out)
          replace HB := asd (below_drew1 HB.out)
          refine sh 6 (cb6 BK103 (eb6 BK101)) (fun hHeld => ?_)
          generalize w105.drew = w491 at BK101 BK102 BK103 BK104 BK105 BK106 BK107 BK108 HB hHeld ⊢
          refine pure_ (i := 3) (N := some 4) (v := ?_) (a' := ?_) (bs 6 8) rfl rfl (by kernel_rfl) (fun _ _ _ h => h) (Or.inl ⟨by rfl, ?_⟩) ?_ ?_
          rotate_left
          ·intro w'
           go_simp
           with_reducible rfl
          rotate_left
          ·simp only [Act.put, sA, sB, sC, i64_w, i32_w]
           rfl
          refine take_ (i := 0) (N := some 74) (v := ?_) (a' := ?_) (bs 6 9) rfl rfl (by kernel_rfl) (fun _ _ _ h => h) (Or.inl ⟨by rfl, ?_⟩) hHeld ?_ ?_
          rotate_left
          ·rintro w' ⟨s0, s1, s2, s3, s4, s5, s6, s7, s8, s9, s10, s11⟩
           go_simp
           with_reducible rfl
          rotate_left
          ·simp only [Act.put, sA, sB, sC, i64_w, i32_w]
           rfl
          refine take_ (i := 1) (N := some 75) (v := ?_) (a' := ?_) (bs 6 11) rfl rfl (by kernel_rfl) (fun _ _ _ h => h) (Or.inl ⟨by rfl, ?_⟩) hHeld ?_ ?_
          rotate_left
          ·rintro w' ⟨s0, s1, s2, s3, s4, s5, s6, s7, s8, s9, s10, s11⟩
           go_simp
           with_reducible rfl
          rotate_left
          ·simp only [Act.put, sA, sB, sC, i64_w, i32_w]
           rfl
          refine one_ (i := 2) (N := some 76) (bT 6 4) rfl rfl (by kernel_rfl) (by decide) (fun K hK => ?_)
          refine Kd.R_lit_step k41 _ 41 ?hg (N := 76) ?hd (xs := ([(⟨(⟨0, 1, 1, 0⟩ : S37), (⟨0, 0⟩ : S39)⟩ : S41), (⟨(⟨(-1), 0, 0, (-1)⟩ : S37), (⟨0, 0⟩ : S39)⟩ : S41)] : List (S41))) (inner := [.int .i64 0, .int .i64 1, .int .i64 1, .int .i64 0, .int .i64 0, .int .i64 0, .int .i64 (-1), .int .i64 0, .int .i64 0, .int .i64 (-1), .int .i64 0, .int .i64 0]) (ok := fun _ => True) (okp := fun _ => True) ?hr ?hp (fun _ hk => hk) trivial (Below.refl _ _) (Nat.le_refl _) (by simp) ?_; (case hd => rfl); (case hg => rfl); (case hr => first | (go_simp; done) | (go_simp; rfl)); (case hp => exact (Reps.c6 (show Kd.M k41 _ _ _ (⟨(⟨0, 1, 1, 0⟩ : S37), (⟨0, 0⟩ : S39)⟩ : S41) [.int .i64 0, .int .i64 1, .int .i64 1, .int .i64 0, .int .i64 0, .int .i64 0] from (k41_mkM _ _ _ (⟨(⟨0, 1, 1, 0⟩ : S37), (⟨0, 0⟩ : S39)⟩ : S41) )) (Reps.c6 (show Kd.M k41 _ _ _ (⟨(⟨(-1), 0, 0, (-1)⟩ : S37), (⟨0, 0⟩ : S39)⟩ : S41) [.int .i64 (-1), .int .i64 0, .int .i64 0, .int .i64 (-1), .int .i64 0, .int .i64 0] from (k41_mkM _ _ _ (⟨(⟨(-1), 0, 0, (-1)⟩ : S37), (⟨0, 0⟩ : S39)⟩ : S41) )) (Reps.none _ _))))
          intro v131 w492 ho493 hb hg_ hnew_
          clear hg_ hnew_
          (first | rw [← Ny130.out] at ho493 | (simp only [Int.reduceToNat] at ho493; rw [← Ny130.out] at ho493))
          have HO132 := asd (Kd.R_lower (Kd.R_newB (Kd.R_newB (Kd.R_newB (Kd.R_newB (Kd.R_newB (Kd.R_newB (Kd.R_newB (Kd.R_newB ho493 (g := gb101) (o := .cells #[.int .i64 (-1), .int .i64 0, .int .i64 0, .int .i64 (-1), .int .i64 0, .int .i64 0] 41 (0, 0)) (bkp BK101)) (g := gb102) (o := .cells #[.int .i64 1, .int .i64 0, .int .i64 0, .int .i64 (-1), .int .i64 0, .int .i64 0] 41 (0, 0)) (bkp BK102)) (g := gb103) (o := .cells #[.int .i64 0, .int .i64 1, .int .i64 1, .int .i64 0, .int .i64 0, .int .i64 0] 41 (0, 0)) (bkp BK103)) (g := gb104) (o := .cells #[.int .i64 1, .int .i64 0, .int .i64 0, .int .i64 (-1), .int .i64 a1, .int .i64 0] 41 (0, 0)) (bkp BK104)) (g := gb105) (o := .cells #[.int .i64 1, .int .i64 0, .int .i64 0, .int .i64 (-1), .int .i64 a1, .int .i64 a1] 41 (0, 0)) (bkp BK105)) (g := gb106) (o := .cells #[.int .i64 0, .int .i64 (-1), .int .i64 1, .int .i64 0, .int .i64 0, .int .i64 0] 41 (0, 0)) (bkp BK106)) (g := gb107) (o := .cells #[.int .i64 (-1), .int .i64 (-1), .int .i64 1, .int .i64 0, .int .i64 0, .int .i64 0] 41 (0, 0)) (bkp BK107)) (g := gb108) (o := .cells #[.int .i64 0, .int .i64 (-1), .int .i64 1, .int .i64 1, .int .i64 0, .int .i64 0] 41 (0, 0)) (bkp BK108)) (below_size (by repeat (first | (with_reducible first | exact HB.out | apply below_alloc | apply pw_below_drewN | apply below_drew1 | refine below_set ?_ GE101.out | refine below_set ?_ GE102.out | refine below_set ?_ GE103.out | refine below_set ?_ GE104.out | refine below_set ?_ GE105.out | refine below_set ?_ GE106.out | refine below_set ?_ GE107.out | refine below_set ?_ GE108.out) | exact HB.out))))
          replace BK101 := bB BK101 hb
          replace BK102 := bB BK102 hb
          replace BK103 := bB BK103 hb
          replace BK104 := bB BK104 hb
          replace BK105 := bB BK105 hb
          replace BK106 := bB BK106 hb
          replace BK107 := bB BK107 hb
          replace BK108 := bB BK108 hb
          replace HB := asd (below_step (by repeat (first | (with_reducible first | exact HB.out | apply below_alloc | apply pw_below_drewN | apply below_drew1 | refine below_set ?_ GE101.out | refine below_set ?_ GE102.out | refine below_set ?_ GE103.out | refine below_set ?_ GE104.out | refine below_set ?_ GE105.out | refine below_set ?_ GE106.out | refine below_set ?_ GE107.out | refine below_set ?_ GE108.out) | exact HB.out)) hb)
          clear hb ho493
          refine hK.out _ _ (cb6 BK103 (eb6 BK101)).out (fun hHeld => ?_)
          clear hK K
          refine norm_ (a' := ?_) ?_ ?_
          rotate_left
          ·show Act.put _ (some 76) _ = _
           simp only [Act.put, sA, sB, sC, i64_w, i32_w]
           rfl
          refine pure_ (i := 4) (N := some 5) (v := ?_) (a' := ?_) (bT 6 5) rfl rfl (by kernel_rfl) (fun _ _ _ h => h) (Or.inl ⟨by rfl, ?_⟩) ?_ ?_
          rotate_left
          ·intro w'
           go_simp
           with_reducible rfl
          rotate_left
          ·simp only [Act.put, sA, sB, sC, i64_w, i32_w]
           rfl
          refine pure_ (i := 5) (N := some 6) (v := ?_) (a' := ?_) (bT 6 6) rfl rfl (by kernel_rfl) (fun _ _ _ h => h) (Or.inl ⟨by rfl, ?_⟩) ?_ ?_
          rotate_left
          ·intro w'
           go_simp
           with_reducible rfl
          rotate_left
          ·simp only [Act.put, sA, sB, sC, i64_w, i32_w]
           rfl
          refine done_ (by kernel_rfl) ?_
          try go_wp2
          go_ret3
          exact ⟨_, by first | rfl | (simp [errW_none, errW_some] <;> rfl) | (simp [*, errW_none, errW_some] <;> rfl), by (with_reducible repeat (first | apply Kd.R_alloc | apply Kd.R_drewN | apply Kd.R_drew)); exact Kd.R_mono HO132.out (fun _ hk => trivial), by repeat (first | (with_reducible first | exact HB.out | apply below_alloc | apply pw_below_drewN | apply below_drew1 | refine below_set ?_ GE101.out | refine below_set ?_ GE102.out | refine below_set ?_ GE103.out | refine below_set ?_ GE104.out | refine below_set ?_ GE105.out | refine below_set ?_ GE106.out | refine below_set ?_ GE107.out | refine below_set ?_ GE108.out) | exact HB.out)⟩
         ·rw [if_neg c439] at H
          have c439b0 : (a0.toList == ([99, 109, 109] : List UInt8)) = false := beq_eq_false_iff_ne.mpr c439
          have c439b1 : (a0.toList != ([99, 109, 109] : List UInt8)) = true := bne_iff_ne.mpr c439
          by_cases c494 : a0.toList = ([112, 52] : List UInt8)
          ·rw [if_pos c494] at H
           have c494b0 : (a0.toList == ([112, 52] : List UInt8)) = true := beq_iff_eq.mpr c494
           have c494b1 : (a0.toList != ([112, 52] : List UInt8)) = false := bne_eq_false_iff_eq.mpr c494
           clear c494
           obtain ⟨y133, hy133⟩ : ∃ y_ : List (S41), y_ = (([(⟨(⟨0, (-1), 1, 0⟩ : S37), (⟨0, 0⟩ : S39)⟩ : S41)] : List (S41))) := ⟨_, rfl⟩
           replace H : (some (0, y133, true)) = some (r1, r2, r3) := by first | (rw [hy133]; with_reducible exact H) | (have H2_ := (Option.bind_some _ _).symm.trans H; rw [hy133]; with_reducible exact H2_) | (have H2_ := (Option.bind_some _ _).symm.trans H; with_reducible exact H2_) | with_reducible exact H | (rw [hy133]; exact H) | exact H
           have Ny133 := Aside0.mk hy133
           clear hy133
           simp only [Option.some.injEq, Prod.mk.injEq] at H
           obtain ⟨rfl, rfl, rfl⟩ := H
           try go_wp2
           replace BK101 := asd (blk_drew BK101.out)
           replace BK102 := asd (blk_drew BK102.out)
           replace BK103 := asd (blk_drew BK103.out)
           replace BK104 := asd (blk_drew BK104.out)
           replace BK105 := asd (blk_drew BK105.out)
           replace BK106 := asd (blk_drew BK106.out)
           replace BK107 := asd (blk_drew BK107.out)
           replace BK108 := asd (blk_drew BK108.out)
           replace HB := asd (below_drew1 HB.out)
           refine sh 5 (eb6 BK106) (fun hHeld => ?_)
           generalize w105.drew = w546 at BK101 BK102 BK103 BK104 BK105 BK106 BK107 BK108 HB hHeld ⊢
           refine pure_ (i := 2) (N := some 4) (v := ?_) (a' := ?_) #[false, false, true, false, false] rfl rfl (by kernel_rfl) (fun _ _ _ h => h) (Or.inl ⟨by rfl, ?_⟩) ?_ ?_
           rotate_left
           ·intro w'
            go_simp
            with_reducible rfl
           rotate_left
           ·simp only [Act.put, sA, sB, sC, i64_w, i32_w]
            rfl
           refine take_ (i := 0) (N := some 79) (v := ?_) (a' := ?_) #[true, false, true, false, false] rfl rfl (by kernel_rfl) (fun _ _ _ h => h) (Or.inl ⟨by rfl, ?_⟩) hHeld ?_ ?_
           rotate_left
           ·rintro w' ⟨s0, s1, s2, s3, s4, s5⟩
            go_simp
            with_reducible rfl
           rotate_left
           ·simp only [Act.put, sA, sB, sC, i64_w, i32_w]
            rfl
           refine one_ (i := 1) (N := some 80) (bT 5 3) rfl rfl (by kernel_rfl) (by decide) (fun K hK => ?_)
           refine Kd.R_lit_step k41 _ 41 ?hg (N := 80) ?hd (xs := ([(⟨(⟨0, (-1), 1, 0⟩ : S37), (⟨0, 0⟩ : S39)⟩ : S41)] : List (S41))) (inner := [.int .i64 0, .int .i64 (-1), .int .i64 1, .int .i64 0, .int .i64 0, .int .i64 0]) (ok := fun _ => True) (okp := fun _ => True) ?hr ?hp (fun _ hk => hk) trivial (Below.refl _ _) (Nat.le_refl _) (by simp) ?_; (case hd => rfl); (case hg => rfl); (case hr => first | (go_simp; done) | (go_simp; rfl)); (case hp => exact (Reps.c6 (show Kd.M k41 _ _ _ (⟨(⟨0, (-1), 1, 0⟩ : S37), (⟨0, 0⟩ : S39)⟩ : S41) [.int .i64 0, .int .i64 (-1), .int .i64 1, .int .i64 0, .int .i64 0, .int .i64 0] from (k41_mkM _ _ _ (⟨(⟨0, (-1), 1, 0⟩ : S37), (⟨0, 0⟩ : S39)⟩ : S41) )) (Reps.none _ _)))
           intro v134 w547 ho548 hb hg_ hnew_
           clear hg_ hnew_
           (first | rw [← Ny133.out] at ho548 | (simp only [Int.reduceToNat] at ho548; rw [← Ny133.out] at ho548))
           have HO135 := asd (Kd.R_lower (Kd.R_newB (Kd.R_newB (Kd.R_newB (Kd.R_newB (Kd.R_newB (Kd.R_newB (Kd.R_newB (Kd.R_newB ho548 (g := gb101) (o := .cells #[.int .i64 (-1), .int .i64 0, .int .i64 0, .int .i64 (-1), .int .i64 0, .int .i64 0] 41 (0, 0)) (bkp BK101)) (g := gb102) (o := .cells #[.int .i64 1, .int .i64 0, .int .i64 0, .int .i64 (-1), .int .i64 0, .int .i64 0] 41 (0, 0)) (bkp BK102)) (g := gb103) (o := .cells #[.int .i64 0, .int .i64 1, .int .i64 1, .int .i64 0, .int .i64 0, .int .i64 0] 41 (0, 0)) (bkp BK103)) (g := gb104) (o := .cells #[.int .i64 1, .int .i64 0, .int .i64 0, .int .i64 (-1), .int .i64 a1, .int .i64 0] 41 (0, 0)) (bkp BK104)) (g := gb105) (o := .cells #[.int .i64 1, .int .i64 0, .int .i64 0, .int .i64 (-1), .int .i64 a1, .int .i64 a1] 41 (0, 0)) (bkp BK105)) (g := gb106) (o := .cells #[.int .i64 0, .int .i64 (-1), .int .i64 1, .int .i64 0, .int .i64 0, .int .i64 0] 41 (0, 0)) (bkp BK106)) (g := gb107) (o := .cells #[.int .i64 (-1), .int .i64 (-1), .int .i64 1, .int .i64 0, .int .i64 0, .int .i64 0] 41 (0, 0)) (bkp BK107)) (g := gb108) (o := .cells #[.int .i64 0, .int .i64 (-1), .int .i64 1, .int .i64 1, .int .i64 0, .int .i64 0] 41 (0, 0)) (bkp BK108)) (below_size (by repeat (first | (with_reducible first | exact HB.out | apply below_alloc | apply pw_below_drewN | apply below_drew1 | refine below_set ?_ GE101.out | refine below_set ?_ GE102.out | refine below_set ?_ GE103.out | refine below_set ?_ GE104.out | refine below_set ?_ GE105.out | refine below_set ?_ GE106.out | refine below_set ?_ GE107.out | refine below_set ?_ GE108.out) | exact HB.out))))
           replace BK101 := bB BK101 hb
           replace BK102 := bB BK102 hb
           replace BK103 := bB BK103 hb
           replace BK104 := bB BK104 hb
           replace BK105 := bB BK105 hb
           replace BK106 := bB BK106 hb
           replace BK107 := bB BK107 hb
           replace BK108 := bB BK108 hb
           replace HB := asd (below_step (by repeat (first | (with_reducible first | exact HB.out | apply below_alloc | apply pw_below_drewN | apply below_drew1 | refine below_set ?_ GE101.out | refine below_set ?_ GE102.out | refine below_set ?_ GE103.out | refine below_set ?_ GE104.out | refine below_set ?_ GE105.out | refine below_set ?_ GE106.out | refine below_set ?_ GE107.out | refine below_set ?_ GE108.out) | exact HB.out)) hb)
           clear hb ho548
           refine hK.out _ _ (eb6 BK106).out (fun hHeld => ?_)
           clear hK K
           refine norm_ (a' := ?_) ?_ ?_
           rotate_left
           ·show Act.put _ (some 80) _ = _
            simp only [Act.put, sA, sB, sC, i64_w, i32_w]
            rfl
           refine pure_ (i := 3) (N := some 5) (v := ?_) (a' := ?_) (bT 5 4) rfl rfl (by kernel_rfl) (fun _ _ _ h => h) (Or.inl ⟨by rfl, ?_⟩) ?_ ?_
           rotate_left
           ·intro w'
            go_simp
            with_reducible rfl
           rotate_left
           ·simp only [Act.put, sA, sB, sC, i64_w, i32_w]
            rfl
           refine pure_ (i := 4) (N := some 6) (v := ?_) (a' := ?_) (bT 5 5) rfl rfl (by kernel_rfl) (fun _ _ _ h => h) (Or.inl ⟨by rfl, ?_⟩) ?_ ?_
           rotate_left
           ·intro w'
            go_simp
            with_reducible rfl
           rotate_left
           ·simp only [Act.put, sA, sB, sC, i64_w, i32_w]
            rfl
           refine done_ (by kernel_rfl) ?_
           try go_wp2
           go_ret3
           exact ⟨_, by first | rfl | (simp [errW_none, errW_some] <;> rfl) | (simp [*, errW_none, errW_some] <;> rfl), by (with_reducible repeat (first | apply Kd.R_alloc | apply Kd.R_drewN | apply Kd.R_drew)); exact Kd.R_mono HO135.out (fun _ hk => trivial), by repeat (first | (with_reducible first | exact HB.out | apply below_alloc | apply pw_below_drewN | apply below_drew1 | refine below_set ?_ GE101.out | refine below_set ?_ GE102.out | refine below_set ?_ GE103.out | refine below_set ?_ GE104.out | refine below_set ?_ GE105.out | refine below_set ?_ GE106.out | refine below_set ?_ GE107.out | refine below_set ?_ GE108.out) | exact HB.out)⟩
          ·rw [if_neg c494] at H
           have c494b0 : (a0.toList == ([112, 52] : List UInt8)) = false := beq_eq_false_iff_ne.mpr c494
           have c494b1 : (a0.toList != ([112, 52] : List UInt8)) = true := bne_iff_ne.mpr c494
           by_cases c549 : a0.toList = ([112, 52, 109] : List UInt8)
           ·rw [if_pos c549] at H
            have c549b0 : (a0.toList == ([112, 52, 109] : List UInt8)) = true := beq_iff_eq.mpr c549
            have c549b1 : (a0.toList != ([112, 52, 109] : List UInt8)) = false := bne_eq_false_iff_eq.mpr c549
            clear c549
            obtain ⟨y136, hy136⟩ : ∃ y_ : List (S41), y_ = (([(⟨(⟨0, (-1), 1, 0⟩ : S37), (⟨0, 0⟩ : S39)⟩ : S41), (⟨(⟨1, 0, 0, (-1)⟩ : S37), (⟨0, 0⟩ : S39)⟩ : S41)] : List (S41))) := ⟨_, rfl⟩
            replace H : (some (0, y136, true)) = some (r1, r2, r3) := by first | (rw [hy136]; with_reducible exact H) | (have H2_ := (Option.bind_some _ _).symm.trans H; rw [hy136]; with_reducible exact H2_) | (have H2_ := (Option.bind_some _ _).symm.trans H; with_reducible exact H2_) | with_reducible exact H | (rw [hy136]; exact H) | exact H
            have Ny136 := Aside0.mk hy136
            clear hy136
            simp only [Option.some.injEq, Prod.mk.injEq] at H
            obtain ⟨rfl, rfl, rfl⟩ := H
            try go_wp2
            replace BK101 := asd (blk_drew BK101.out)
            replace BK102 := asd (blk_drew BK102.out)
            replace BK103 := asd (blk_drew BK103.out)
            replace BK104 := asd (blk_drew BK104.out)
            replace BK105 := asd (blk_drew BK105.out)
            replace BK106 := asd (blk_drew BK106.out)
            replace BK107 := asd (blk_drew BK107.out)
            replace BK108 := asd (blk_drew BK108.out)
            replace HB := asd (below_drew1 HB.out)
            refine sh 6 (cb6 BK106 (eb6 BK102)) (fun hHeld => ?_)
            generalize w105.drew = w601 at BK101 BK102 BK103 BK104 BK105 BK106 BK107 BK108 HB hHeld ⊢
            refine pure_ (i := 3) (N := some 4) (v := ?_) (a' := ?_) (bs 6 8) rfl rfl (by kernel_rfl) (fun _ _ _ h => h) (Or.inl ⟨by rfl, ?_⟩) ?_ ?_
            rotate_left
            ·intro w'
             go_simp
             with_reducible rfl
            rotate_left
            ·simp only [Act.put, sA, sB, sC, i64_w, i32_w]
             rfl
            refine take_ (i := 0) (N := some 83) (v := ?_) (a' := ?_) (bs 6 9) rfl rfl (by kernel_rfl) (fun _ _ _ h => h) (Or.inl ⟨by rfl, ?_⟩) hHeld ?_ ?_
            rotate_left
            ·rintro w' ⟨s0, s1, s2, s3, s4, s5, s6, s7, s8, s9, s10, s11⟩
             go_simp
             with_reducible rfl
            rotate_left
            ·simp only [Act.put, sA, sB, sC, i64_w, i32_w]
             rfl
            refine take_ (i := 1) (N := some 84) (v := ?_) (a' := ?_) (bs 6 11) rfl rfl (by kernel_rfl) (fun _ _ _ h => h) (Or.inl ⟨by rfl, ?_⟩) hHeld ?_ ?_
            rotate_left
            ·rintro w' ⟨s0, s1, s2, s3, s4, s5, s6, s7, s8, s9, s10, s11⟩
             go_simp
             with_reducible rfl
            rotate_left
            ·simp only [Act.put, sA, sB, sC, i64_w, i32_w]
             rfl
            refine one_ (i := 2) (N := some 85) (bT 6 4) rfl rfl (by kernel_rfl) (by decide) (fun K hK => ?_)
            refine Kd.R_lit_step k41 _ 41 ?hg (N := 85) ?hd (xs := ([(⟨(⟨0, (-1), 1, 0⟩ : S37), (⟨0, 0⟩ : S39)⟩ : S41), (⟨(⟨1, 0, 0, (-1)⟩ : S37), (⟨0, 0⟩ : S39)⟩ : S41)] : List (S41))) (inner := [.int .i64 0, .int .i64 (-1), .int .i64 1, .int .i64 0, .int .i64 0, .int .i64 0, .int .i64 1, .int .i64 0, .int .i64 0, .int .i64 (-1), .int .i64 0, .int .i64 0]) (ok := fun _ => True) (okp := fun _ => True) ?hr ?hp (fun _ hk => hk) trivial (Below.refl _ _) (Nat.le_refl _) (by simp) ?_; (case hd => rfl); (case hg => rfl); (case hr => first | (go_simp; done) | (go_simp; rfl)); (case hp => exact (Reps.c6 (show Kd.M k41 _ _ _ (⟨(⟨0, (-1), 1, 0⟩ : S37), (⟨0, 0⟩ : S39)⟩ : S41) [.int .i64 0, .int .i64 (-1), .int .i64 1, .int .i64 0, .int .i64 0, .int .i64 0] from (k41_mkM _ _ _ (⟨(⟨0, (-1), 1, 0⟩ : S37), (⟨0, 0⟩ : S39)⟩ : S41) )) (Reps.c6 (show Kd.M k41 _ _ _ (⟨(⟨1, 0, 0, (-1)⟩ : S37), (⟨0, 0⟩ : S39)⟩ : S41) [.int .i64 1, .int .i64 0, .int .i64 0, .int .i64 (-1), .int .i64 0, .int .i64 0] from (k41_mkM _ _ _ (⟨(⟨1, 0, 0, (-1)⟩ : S37), (⟨0, 0⟩ : S39)⟩ : S41) )) (Reps.none _ _))))
            intro v137 w602 ho603 hb hg_ hnew_
            clear hg_ hnew_
            (first | rw [← Ny136.out] at ho603 | (simp only [Int.reduceToNat] at ho603; rw [← Ny136.out] at ho603))
            have HO138 := asd (Kd.R_lower (Kd.R_newB (Kd.R_newB (Kd.R_newB (Kd.R_newB (Kd.R_newB (Kd.R_newB (Kd.R_newB (Kd.R_newB ho603 (g := gb101) (o := .cells #[.int .i64 (-1), .int .i64 0, .int .i64 0, .int .i64 (-1), .int .i64 0, .int .i64 0] 41 (0, 0)) (bkp BK101)) (g := gb102) (o := .cells #[.int .i64 1, .int .i64 0, .int .i64 0, .int .i64 (-1), .int .i64 0, .int .i64 0] 41 (0, 0)) (bkp BK102)) (g := gb103) (o := .cells #[.int .i64 0, .int .i64 1, .int .i64 1, .int .i64 0, .int .i64 0, .int .i64 0] 41 (0, 0)) (bkp BK103)) (g := gb104) (o := .cells #[.int .i64 1, .int .i64 0, .int .i64 0, .int .i64 (-1), .int .i64 a1, .int .i64 0] 41 (0, 0)) (bkp BK104)) (g := gb105) (o := .cells #[.int .i64 1, .int .i64 0, .int .i64 0, .int .i64 (-1), .int .i64 a1, .int .i64 a1] 41 (0, 0)) (bkp BK105)) (g := gb106) (o := .cells #[.int .i64 0, .int .i64 (-1), .int .i64 1, .int .i64 0, .int .i64 0, .int .i64 0] 41 (0, 0)) (bkp BK106)) (g := gb107) (o := .cells #[.int .i64 (-1), .int .i64 (-1), .int .i64 1, .int .i64 0, .int .i64 0, .int .i64 0] 41 (0, 0)) (bkp BK107)) (g := gb108) (o := .cells #[.int .i64 0, .int .i64 (-1), .int .i64 1, .int .i64 1, .int .i64 0, .int .i64 0] 41 (0, 0)) (bkp BK108)) (below_size (by repeat (first | (with_reducible first | exact HB.out | apply below_alloc | apply pw_below_drewN | apply below_drew1 | refine below_set ?_ GE101.out | refine below_set ?_ GE102.out | refine below_set ?_ GE103.out | refine below_set ?_ GE104.out | refine below_set ?_ GE105.out | refine below_set ?_ GE106.out | refine below_set ?_ GE107.out | refine below_set ?_ GE108.out) | exact HB.out))))
            replace BK101 := bB BK101 hb
            replace BK102 := bB BK102 hb
            replace BK103 := bB BK103 hb
            replace BK104 := bB BK104 hb
            replace BK105 := bB BK105 hb
            replace BK106 := bB BK106 hb
            replace BK107 := bB BK107 hb
            replace BK108 := bB BK108 hb
            replace HB := asd (below_step (by repeat (first | (with_reducible first | exact HB.out | apply below_alloc | apply pw_below_drewN | apply below_drew1 | refine below_set ?_ GE101.out | refine below_set ?_ GE102.out | refine below_set ?_ GE103.out | refine below_set ?_ GE104.out | refine below_set ?_ GE105.out | refine below_set ?_ GE106.out | refine below_set ?_ GE107.out | refine below_set ?_ GE108.out) | exact HB.out)) hb)
            clear hb ho603
            refine hK.out _ _ (cb6 BK106 (eb6 BK102)).out (fun hHeld => ?_)
            clear hK K
            refine norm_ (a' := ?_) ?_ ?_
            rotate_left
            ·show Act.put _ (some 85) _ = _
             simp only [Act.put, sA, sB, sC, i64_w, i32_w]
             rfl
            refine pure_ (i := 4) (N := some 5) (v := ?_) (a' := ?_) (bT 6 5) rfl rfl (by kernel_rfl) (fun _ _ _ h => h) (Or.inl ⟨by rfl, ?_⟩) ?_ ?_
            rotate_left
            ·intro w'
             go_simp
             with_reducible rfl
            rotate_left
            ·simp only [Act.put, sA, sB, sC, i64_w, i32_w]
             rfl
            refine pure_ (i := 5) (N := some 6) (v := ?_) (a' := ?_) (bT 6 6) rfl rfl (by kernel_rfl) (fun _ _ _ h => h) (Or.inl ⟨by rfl, ?_⟩) ?_ ?_
            rotate_left
            ·intro w'
             go_simp
             with_reducible rfl
            rotate_left
            ·simp only [Act.put, sA, sB, sC, i64_w, i32_w]
             rfl
            refine done_ (by kernel_rfl) ?_
            try go_wp2
            go_ret3
            exact ⟨_, by first | rfl | (simp [errW_none, errW_some] <;> rfl) | (simp [*, errW_none, errW_some] <;> rfl), by (with_reducible repeat (first | apply Kd.R_alloc | apply Kd.R_drewN | apply Kd.R_drew)); exact Kd.R_mono HO138.out (fun _ hk => trivial), by repeat (first | (with_reducible first | exact HB.out | apply below_alloc | apply pw_below_drewN | apply below_drew1 | refine below_set ?_ GE101.out | refine below_set ?_ GE102.out | refine below_set ?_ GE103.out | refine below_set ?_ GE104.out | refine below_set ?_ GE105.out | refine below_set ?_ GE106.out | refine below_set ?_ GE107.out | refine below_set ?_ GE108.out) | exact HB.out)⟩
           ·rw [if_neg c549] at H
            have c549b0 : (a0.toList == ([112, 52, 109] : List UInt8)) = false := beq_eq_false_iff_ne.mpr c549
            have c549b1 : (a0.toList != ([112, 52, 109] : List UInt8)) = true := bne_iff_ne.mpr c549
            by_cases c604 : a0.toList = ([112, 52, 103] : List UInt8)
            ·rw [if_pos c604] at H
             have c604b0 : (a0.toList == ([112, 52, 103] : List UInt8)) = true := beq_iff_eq.mpr c604
             have c604b1 : (a0.toList != ([112, 52, 103] : List UInt8)) = false := bne_eq_false_iff_eq.mpr c604
             clear c604
             obtain ⟨y139, hy139⟩ : ∃ y_ : List (S41), y_ = (([(⟨(⟨0, (-1), 1, 0⟩ : S37), (⟨0, 0⟩ : S39)⟩ : S41), (⟨(⟨1, 0, 0, (-1)⟩ : S37), (⟨a1, a1⟩ : S39)⟩ : S41)] : List (S41))) := ⟨_, rfl⟩
             replace H : (some (0, y139, true)) = some (r1, r2, r3) := by first | (rw [hy139]; with_reducible exact H) | (have H2_ := (Option.bind_some _ _).symm.trans H; rw [hy139]; with_reducible exact H2_) | (have H2_ := (Option.bind_some _ _).symm.trans H; with_reducible exact H2_) | with_reducible exact H | (rw [hy139]; exact H) | exact H
             have Ny139 := Aside0.mk hy139
             clear hy139
             simp only [Option.some.injEq, Prod.mk.injEq] at H
             obtain ⟨rfl, rfl, rfl⟩ := H
             try go_wp2
             replace BK101 := asd (blk_drew BK101.out)
             replace BK102 := asd (blk_drew BK102.out)
             replace BK103 := asd (blk_drew BK103.out)
             replace BK104 := asd (blk_drew BK104.out)
             replace BK105 := asd (blk_drew BK105.out)
             replace BK106 := asd (blk_drew BK106.out)
             replace BK107 := asd (blk_drew BK107.out)
             replace BK108 := asd (blk_drew BK108.out)
             replace HB := asd (below_drew1 HB.out)
             refine sh 6 (cb6 BK106 (eb6 BK105)) (fun hHeld => ?_)
             generalize w105.drew = w656 at BK101 BK102 BK103 BK104 BK105 BK106 BK107 BK108 HB hHeld ⊢
             refine pure_ (i := 3) (N := some 4) (v := ?_) (a' := ?_) (bs 6 8) rfl rfl (by kernel_rfl) (fun _ _ _ h => h) (Or.inl ⟨by rfl, ?_⟩) ?_ ?_
             rotate_left
             ·intro w'
              go_simp
              with_reducible rfl
             rotate_left
             ·simp only [Act.put, sA, sB, sC, i64_w, i32_w]
              rfl
             refine take_ (i := 0) (N := some 88) (v := ?_) (a' := ?_) (bs 6 9) rfl rfl (by kernel_rfl) (fun _ _ _ h => h) (Or.inl ⟨by rfl, ?_⟩) hHeld ?_ ?_
             rotate_left
             ·rintro w' ⟨s0, s1, s2, s3, s4, s5, s6, s7, s8, s9, s10, s11⟩
              go_simp
              with_reducible rfl
             rotate_left
             ·simp only [Act.put, sA, sB, sC, i64_w, i32_w]
              rfl
             refine take_ (i := 1) (N := some 89) (v := ?_) (a' := ?_) (bs 6 11) rfl rfl (by kernel_rfl) (fun _ _ _ h => h) (Or.inl ⟨by rfl, ?_⟩) hHeld ?_ ?_
             rotate_left
             ·rintro w' ⟨s0, s1, s2, s3, s4, s5, s6, s7, s8, s9, s10, s11⟩
              go_simp
              with_reducible rfl
             rotate_left
             ·simp only [Act.put, sA, sB, sC, i64_w, i32_w]
              rfl
             refine one_ (i := 2) (N := some 90) (bT 6 4) rfl rfl (by kernel_rfl) (by decide) (fun K hK => ?_)
             refine Kd.R_lit_step k41 _ 41 ?hg (N := 90) ?hd (xs := ([(⟨(⟨0, (-1), 1, 0⟩ : S37), (⟨0, 0⟩ : S39)⟩ : S41), (⟨(⟨1, 0, 0, (-1)⟩ : S37), (⟨a1, a1⟩ : S39)⟩ : S41)] : List (S41))) (inner := [.int .i64 0, .int .i64 (-1), .int .i64 1, .int .i64 0, .int .i64 0, .int .i64 0, .int .i64 1, .int .i64 0, .int .i64 0, .int .i64 (-1), .int .i64 a1, .int .i64 a1]) (ok := fun _ => True) (okp := fun _ => True) ?hr ?hp (fun _ hk => hk) trivial (Below.refl _ _) (Nat.le_refl _) (by simp) ?_; (case hd => rfl); (case hg => rfl); (case hr => first | (go_simp; done) | (go_simp; rfl)); (case hp => exact (Reps.c6 (show Kd.M k41 _ _ _ (⟨(⟨0, (-1), 1, 0⟩ : S37), (⟨0, 0⟩ : S39)⟩ : S41) [.int .i64 0, .int .i64 (-1), .int .i64 1, .int .i64 0, .int .i64 0, .int .i64 0] from (k41_mkM _ _ _ (⟨(⟨0, (-1), 1, 0⟩ : S37), (⟨0, 0⟩ : S39)⟩ : S41) )) (Reps.c6 (show Kd.M k41 _ _ _ (⟨(⟨1, 0, 0, (-1)⟩ : S37), (⟨a1, a1⟩ : S39)⟩ : S41) [.int .i64 1, .int .i64 0, .int .i64 0, .int .i64 (-1), .int .i64 a1, .int .i64 a1] from (k41_mkM _ _ _ (⟨(⟨1, 0, 0, (-1)⟩ : S37), (⟨a1, a1⟩ : S39)⟩ : S41) )) (Reps.none _ _))))
             intro v140 w657 ho658 hb hg_ hnew_
             clear hg_ hnew_
             (first | rw [← Ny139.out] at ho658 | (simp only [Int.reduceToNat] at ho658; rw [← Ny139.out] at ho658))
             have HO141 := asd (Kd.R_lower (Kd.R_newB (Kd.R_newB (Kd.R_newB (Kd.R_newB (Kd.R_newB (Kd.R_newB (Kd.R_newB (Kd.R_newB ho658 (g := gb101) (o := .cells #[.int .i64 (-1), .int .i64 0, .int .i64 0, .int .i64 (-1), .int .i64 0, .int .i64 0] 41 (0, 0)) (bkp BK101)) (g := gb102) (o := .cells #[.int .i64 1, .int .i64 0, .int .i64 0, .int .i64 (-1), .int .i64 0, .int .i64 0] 41 (0, 0)) (bkp BK102)) (g := gb103) (o := .cells #[.int .i64 0, .int .i64 1, .int .i64 1, .int .i64 0, .int .i64 0, .int .i64 0] 41 (0, 0)) (bkp BK103)) (g := gb104) (o := .cells #[.int .i64 1, .int .i64 0, .int .i64 0, .int .i64 (-1), .int .i64 a1, .int .i64 0] 41 (0, 0)) (bkp BK104)) (g := gb105) (o := .cells #[.int .i64 1, .int .i64 0, .int .i64 0, .int .i64 (-1), .int .i64 a1, .int .i64 a1] 41 (0, 0)) (bkp BK105)) (g := gb106) (o := .cells #[.int .i64 0, .int .i64 (-1), .int .i64 1, .int .i64 0, .int .i64 0, .int .i64 0] 41 (0, 0)) (bkp BK106)) (g := gb107) (o := .cells #[.int .i64 (-1), .int .i64 (-1), .int .i64 1, .int .i64 0, .int .i64 0, .int .i64 0] 41 (0, 0)) (bkp BK107)) (g := gb108) (o := .cells #[.int .i64 0, .int .i64 (-1), .int .i64 1, .int .i64 1, .int .i64 0, .int .i64 0] 41 (0, 0)) (bkp BK108)) (below_size (by repeat (first | (with_reducible first | exact HB.out | apply below_alloc | apply pw_below_drewN | apply below_drew1 | refine below_set ?_ GE101.out | refine below_set ?_ GE102.out | refine below_set ?_ GE103.out | refine below_set ?_ GE104.out | refine below_set ?_ GE105.out | refine below_set ?_ GE106.out | refine below_set ?_ GE107.out | refine below_set ?_ GE108.out) | exact HB.out))))
             replace BK101 := bB BK101 hb
             replace BK102 := bB BK102 hb
             replace BK103 := bB BK103 hb
             replace BK104 := bB BK104 hb
             replace BK105 := bB BK105 hb
             replace BK106 := bB BK106 hb
             replace BK107 := bB BK107 hb
             replace BK108 := bB BK108 hb
             replace HB := asd (below_step (by repeat (first | (with_reducible first | exact HB.out | apply below_alloc | apply pw_below_drewN | apply below_drew1 | refine below_set ?_ GE101.out | refine below_set ?_ GE102.out | refine below_set ?_ GE103.out | refine below_set ?_ GE104.out | refine below_set ?_ GE105.out | refine below_set ?_ GE106.out | refine below_set ?_ GE107.out | refine below_set ?_ GE108.out) | exact HB.out)) hb)
             clear hb ho658
             refine hK.out _ _ (cb6 BK106 (eb6 BK105)).out (fun hHeld => ?_)
             clear hK K
             refine norm_ (a' := ?_) ?_ ?_
             rotate_left
             ·show Act.put _ (some 90) _ = _
              simp only [Act.put, sA, sB, sC, i64_w, i32_w]
              rfl
             refine pure_ (i := 4) (N := some 5) (v := ?_) (a' := ?_) (bT 6 5) rfl rfl (by kernel_rfl) (fun _ _ _ h => h) (Or.inl ⟨by rfl, ?_⟩) ?_ ?_
             rotate_left
             ·intro w'
              go_simp
              with_reducible rfl
             rotate_left
             ·simp only [Act.put, sA, sB, sC, i64_w, i32_w]
              rfl
             refine pure_ (i := 5) (N := some 6) (v := ?_) (a' := ?_) (bT 6 6) rfl rfl (by kernel_rfl) (fun _ _ _ h => h) (Or.inl ⟨by rfl, ?_⟩) ?_ ?_
             rotate_left
             ·intro w'
              go_simp
              with_reducible rfl
             rotate_left
             ·simp only [Act.put, sA, sB, sC, i64_w, i32_w]
              rfl
             refine done_ (by kernel_rfl) ?_
             try go_wp2
             go_ret3
             exact ⟨_, by first | rfl | (simp [errW_none, errW_some] <;> rfl) | (simp [*, errW_none, errW_some] <;> rfl), by (with_reducible repeat (first | apply Kd.R_alloc | apply Kd.R_drewN | apply Kd.R_drew)); exact Kd.R_mono HO141.out (fun _ hk => trivial), by repeat (first | (with_reducible first | exact HB.out | apply below_alloc | apply pw_below_drewN | apply below_drew1 | refine below_set ?_ GE101.out | refine below_set ?_ GE102.out | refine below_set ?_ GE103.out | refine below_set ?_ GE104.out | refine below_set ?_ GE105.out | refine below_set ?_ GE106.out | refine below_set ?_ GE107.out | refine below_set ?_ GE108.out) | exact HB.out)⟩
            ·rw [if_neg c604] at H
             have c604b0 : (a0.toList == ([112, 52, 103] : List UInt8)) = false := beq_eq_false_iff_ne.mpr c604
             have c604b1 : (a0.toList != ([112, 52, 103] : List UInt8)) = true := bne_iff_ne.mpr c604
             by_cases c659 : a0.toList = ([112, 51] : List UInt8)
             ·rw [if_pos c659] at H
              have c659b0 : (a0.toList == ([112, 51] : List UInt8)) = true := beq_iff_eq.mpr c659
              have c659b1 : (a0.toList != ([112, 51] : List UInt8)) = false := bne_eq_false_iff_eq.mpr c659
              clear c659
              obtain ⟨y142, hy142⟩ : ∃ y_ : List (S41), y_ = (([(⟨(⟨(-1), (-1), 1, 0⟩ : S37), (⟨0, 0⟩ : S39)⟩ : S41)] : List (S41))) := ⟨_, rfl⟩
              replace H : (some (1, y142, true)) = some (r1, r2, r3) := by first | (rw [hy142]; with_reducible exact H) | (have H2_ := (Option.bind_some _ _).symm.trans H; rw [hy142]; with_reducible exact H2_) | (have H2_ := (Option.bind_some _ _).symm.trans H; with_reducible exact H2_) | with_reducible exact H | (rw [hy142]; exact H) | exact H
              have Ny142 := Aside0.mk hy142
              clear hy142
              simp only [Option.some.injEq, Prod.mk.injEq] at H
              obtain ⟨rfl, rfl, rfl⟩ := H
              try go_wp2
              replace BK101 := asd (blk_drew BK101.out)
              replace BK102 := asd (blk_drew BK102.out)
              replace BK103 := asd (blk_drew BK103.out)
              replace BK104 := asd (blk_drew BK104.out)
              replace BK105 := asd (blk_drew BK105.out)
              replace BK106 := asd (blk_drew BK106.out)
              replace BK107 := asd (blk_drew BK107.out)
              replace BK108 := asd (blk_drew BK108.out)
              replace HB := asd (below_drew1 HB.out)
              refine sh 5 (eb6 BK107) (fun hHeld => ?_)
              generalize w105.drew = w711 at BK101 BK102 BK103 BK104 BK105 BK106 BK107 BK108 HB hHeld ⊢
              refine pure_ (i := 2) (N := some 4) (v := ?_) (a' := ?_) #[false, false, true, false, false] rfl rfl (by kernel_rfl) (fun _ _ _ h => h) (Or.inl ⟨by rfl, ?_⟩) ?_ ?_
              rotate_left
              ·intro w'
               go_simp
               with_reducible rfl
              rotate_left
              ·simp only [Act.put, sA, sB, sC, i64_w, i32_w]
               rfl
              refine take_ (i := 0) (N := some 93) (v := ?_) (a' := ?_) #[true, false, true, false, false] rfl rfl (by kernel_rfl) (fun _ _ _ h => h) (Or.inl ⟨by rfl, ?_⟩) hHeld ?_ ?_
              rotate_left
              ·rintro w' ⟨s0, s1, s2, s3, s4, s5⟩
               go_simp
               with_reducible rfl
              rotate_left
              ·simp only [Act.put, sA, sB, sC, i64_w, i32_w]
               rfl
              refine one_ (i := 1) (N := some 94) (bT 5 3) rfl rfl (by kernel_rfl) (by decide) (fun K hK => ?_)
              refine Kd.R_lit_step k41 _ 41 ?hg (N := 94) ?hd (xs := ([(⟨(⟨(-1), (-1), 1, 0⟩ : S37), (⟨0, 0⟩ : S39)⟩ : S41)] : List (S41))) (inner := [.int .i64 (-1), .int .i64 (-1), .int .i64 1, .int .i64 0, .int .i64 0, .int .i64 0]) (ok := fun _ => True) (okp := fun _ => True) ?hr ?hp (fun _ hk => hk) trivial (Below.refl _ _) (Nat.le_refl _) (by simp) ?_; (case hd => rfl); (case hg => rfl); (case hr => first | (go_simp; done) | (go_simp; rfl)); (case hp => exact (Reps.c6 (show Kd.M k41 _ _ _ (⟨(⟨(-1), (-1), 1, 0⟩ : S37), (⟨0, 0⟩ : S39)⟩ : S41) [.int .i64 (-1), .int .i64 (-1), .int .i64 1, .int .i64 0, .int .i64 0, .int .i64 0] from (k41_mkM _ _ _ (⟨(⟨(-1), (-1), 1, 0⟩ : S37), (⟨0, 0⟩ : S39)⟩ : S41) )) (Reps.none _ _)))
              intro v143 w712 ho713 hb hg_ hnew_
              clear hg_ hnew_
              (first | rw [← Ny142.out] at ho713 | (simp only [Int.reduceToNat] at ho713; rw [← Ny142.out] at ho713))
              have HO144 := asd (Kd.R_lower (Kd.R_newB (Kd.R_newB (Kd.R_newB (Kd.R_newB (Kd.R_newB (Kd.R_newB (Kd.R_newB (Kd.R_newB ho713 (g := gb101) (o := .cells #[.int .i64 (-1), .int .i64 0, .int .i64 0, .int .i64 (-1), .int .i64 0, .int .i64 0] 41 (0, 0)) (bkp BK101)) (g := gb102) (o := .cells #[.int .i64 1, .int .i64 0, .int .i64 0, .int .i64 (-1), .int .i64 0, .int .i64 0] 41 (0, 0)) (bkp BK102)) (g := gb103) (o := .cells #[.int .i64 0, .int .i64 1, .int .i64 1, .int .i64 0, .int .i64 0, .int .i64 0] 41 (0, 0)) (bkp BK103)) (g := gb104) (o := .cells #[.int .i64 1, .int .i64 0, .int .i64 0, .int .i64 (-1), .int .i64 a1, .int .i64 0] 41 (0, 0)) (bkp BK104)) (g := gb105) (o := .cells #[.int .i64 1, .int .i64 0, .int .i64 0, .int .i64 (-1), .int .i64 a1, .int .i64 a1] 41 (0, 0)) (bkp BK105)) (g := gb106) (o := .cells #[.int .i64 0, .int .i64 (-1), .int .i64 1, .int .i64 0, .int .i64 0, .int .i64 0] 41 (0, 0)) (bkp BK106)) (g := gb107) (o := .cells #[.int .i64 (-1), .int .i64 (-1), .int .i64 1, .int .i64 0, .int .i64 0, .int .i64 0] 41 (0, 0)) (bkp BK107)) (g := gb108) (o := .cells #[.int .i64 0, .int .i64 (-1), .int .i64 1, .int .i64 1, .int .i64 0, .int .i64 0] 41 (0, 0)) (bkp BK108)) (below_size (by repeat (first | (with_reducible first | exact HB.out | apply below_alloc | apply pw_below_drewN | apply below_drew1 | refine below_set ?_ GE101.out | refine below_set ?_ GE102.out | refine below_set ?_ GE103.out | refine below_set ?_ GE104.out | refine below_set ?_ GE105.out | refine below_set ?_ GE106.out | refine below_set ?_ GE107.out | refine below_set ?_ GE108.out) | exact HB.out))))
              replace BK101 := bB BK101 hb
              replace BK102 := bB BK102 hb
              replace BK103 := bB BK103 hb
              replace BK104 := bB BK104 hb
              replace BK105 := bB BK105 hb
              replace BK106 := bB BK106 hb
              replace BK107 := bB BK107 hb
              replace BK108 := bB BK108 hb
              replace HB := asd (below_step (by repeat (first | (with_reducible first | exact HB.out | apply below_alloc | apply pw_below_drewN | apply below_drew1 | refine below_set ?_ GE101.out | refine below_set ?_ GE102.out | refine below_set ?_ GE103.out | refine below_set ?_ GE104.out | refine below_set ?_ GE105.out | refine below_set ?_ GE106.out | refine below_set ?_ GE107.out | refine below_set ?_ GE108.out) | exact HB.out)) hb)
              clear hb ho713
              refine hK.out _ _ (eb6 BK107).out (fun hHeld => ?_)
              clear hK K
              refine norm_ (a' := ?_) ?_ ?_
              rotate_left
              ·show Act.put _ (some 94) _ = _
               simp only [Act.put, sA, sB, sC, i64_w, i32_w]
               rfl
              refine pure_ (i := 3) (N := some 5) (v := ?_) (a' := ?_) (bT 5 4) rfl rfl (by kernel_rfl) (fun _ _ _ h => h) (Or.inl ⟨by rfl, ?_⟩) ?_ ?_
              rotate_left
              ·intro w'
               go_simp
               with_reducible rfl
              rotate_left
              ·simp only [Act.put, sA, sB, sC, i64_w, i32_w]
               rfl
              refine pure_ (i := 4) (N := some 6) (v := ?_) (a' := ?_) (bT 5 5) rfl rfl (by kernel_rfl) (fun _ _ _ h => h) (Or.inl ⟨by rfl, ?_⟩) ?_ ?_
              rotate_left
              ·intro w'
               go_simp
               with_reducible rfl
              rotate_left
              ·simp only [Act.put, sA, sB, sC, i64_w, i32_w]
               rfl
              refine done_ (by kernel_rfl) ?_
              try go_wp2
              go_ret3
              exact ⟨_, by first | rfl | (simp [errW_none, errW_some] <;> rfl) | (simp [*, errW_none, errW_some] <;> rfl), by (with_reducible repeat (first | apply Kd.R_alloc | apply Kd.R_drewN | apply Kd.R_drew)); exact Kd.R_mono HO144.out (fun _ hk => trivial), by repeat (first | (with_reducible first | exact HB.out | apply below_alloc | apply pw_below_drewN | apply below_drew1 | refine below_set ?_ GE101.out | refine below_set ?_ GE102.out | refine below_set ?_ GE103.out | refine below_set ?_ GE104.out | refine below_set ?_ GE105.out | refine below_set ?_ GE106.out | refine below_set ?_ GE107.out | refine below_set ?_ GE108.out) | exact HB.out)⟩
             ·rw [if_neg c659] at H
              have c659b0 : (a0.toList == ([112, 51] : List UInt8)) = false := beq_eq_false_iff_ne.mpr c659
              have c659b1 : (a0.toList != ([112, 51] : List UInt8)) = true := bne_iff_ne.mpr c659
              by_cases c714 : a0.toList = ([112, 51, 109, 49] : List UInt8)
              ·rw [if_pos c714] at H
               have c714b0 : (a0.toList == ([112, 51, 109, 49] : List UInt8)) = true := beq_iff_eq.mpr c714
               have c714b1 : (a0.toList != ([112, 51, 109, 49] : List UInt8)) = false := bne_eq_false_iff_eq.mpr c714
               clear c714
               obtain ⟨y145, hy145⟩ : ∃ y_ : List (S41), y_ = (([(⟨(⟨(-1), (-1), 1, 0⟩ : S37), (⟨0, 0⟩ : S39)⟩ : S41), (⟨(⟨0, 1, 1, 0⟩ : S37), (⟨0, 0⟩ : S39)⟩ : S41)] : List (S41))) := ⟨_, rfl⟩
               replace H : (some (1, y145, true)) = some (r1, r2, r3) := by first | (rw [hy145]; with_reducible exact H) | (have H2_ := (Option.bind_some _ _).symm.trans H; rw [hy145]; with_reducible exact H2_) | (have H2_ := (Option.bind_some _ _).symm.trans H; with_reducible exact H2_) | with_reducible exact H | (rw [hy145]; exact H) | exact H
               have Ny145 := Aside0.mk hy145
               clear hy145
               simp only [Option.some.injEq, Prod.mk.injEq] at H
               obtain ⟨rfl, rfl, rfl⟩ := H
               try go_wp2
               replace BK101 := asd (blk_drew BK101.out)
               replace BK102 := asd (blk_drew BK102.out)
               replace BK103 := asd (blk_drew BK103.out)
               replace BK104 := asd (blk_drew BK104.out)
               replace BK105 := asd (blk_drew BK105.out)
               replace BK106 := asd (blk_drew BK106.out)
               replace BK107 := asd (blk_drew BK107.out)
               replace BK108 := asd (blk_drew BK108.out)
               replace HB := asd (below_drew1 HB.out)
               refine sh 6 (cb6 BK107 (eb6 BK103)) (fun hHeld => ?_)
               generalize w105.drew = w766 at BK101 BK102 BK103 BK104 BK105 BK106 BK107 BK108 HB hHeld ⊢
               refine pure_ (i := 3) (N := some 4) (v := ?_) (a' := ?_) (bs 6 8) rfl rfl (by kernel_rfl) (fun _ _ _ h => h) (Or.inl ⟨by rfl, ?_⟩) ?_ ?_
               rotate_left
               ·intro w'
                go_simp
                with_reducible rfl
               rotate_left
               ·simp only [Act.put, sA, sB, sC, i64_w, i32_w]
                rfl
               refine take_ (i := 0) (N := some 97) (v := ?_) (a' := ?_) (bs 6 9) rfl rfl (by kernel_rfl) (fun _ _ _ h => h) (Or.inl ⟨by rfl, ?_⟩) hHeld ?_ ?_
               rotate_left
               ·rintro w' ⟨s0, s1, s2, s3, s4, s5, s6, s7, s8, s9, s10, s11⟩
                go_simp
                with_reducible rfl
               rotate_left
               ·simp only [Act.put, sA, sB, sC, i64_w, i32_w]
                rfl
               refine take_ (i := 1) (N := some 98) (v := ?_) (a' := ?_) (bs 6 11) rfl rfl (by kernel_rfl) (fun _ _ _ h => h) (Or.inl ⟨by rfl, ?_⟩) hHeld ?_ ?_
               rotate_left
               ·rintro w' ⟨s0, s1, s2, s3, s4, s5, s6, s7, s8, s9, s10, s11⟩
                go_simp
                with_reducible rfl
               rotate_left
               ·simp only [Act.put, sA, sB, sC, i64_w, i32_w]
                rfl
               refine one_ (i := 2) (N := some 99) (bT 6 4) rfl rfl (by kernel_rfl) (by decide) (fun K hK => ?_)
               refine Kd.R_lit_step k41 _ 41 ?hg (N := 99) ?hd (xs := ([(⟨(⟨(-1), (-1), 1, 0⟩ : S37), (⟨0, 0⟩ : S39)⟩ : S41), (⟨(⟨0, 1, 1, 0⟩ : S37), (⟨0, 0⟩ : S39)⟩ : S41)] : List (S41))) (inner := [.int .i64 (-1), .int .i64 (-1), .int .i64 1, .int .i64 0, .int .i64 0, .int .i64 0, .int .i64 0, .int .i64 1, .int .i64 1, .int .i64 0, .int .i64 0, .int .i64 0]) (ok := fun _ => True) (okp := fun _ => True) ?hr ?hp (fun _ hk => hk) trivial (Below.refl _ _) (Nat.le_refl _) (by simp) ?_; (case hd => rfl); (case hg => rfl); (case hr => first | (go_simp; done) | (go_simp; rfl)); (case hp => exact (Reps.c6 (show Kd.M k41 _ _ _ (⟨(⟨(-1), (-1), 1, 0⟩ : S37), (⟨0, 0⟩ : S39)⟩ : S41) [.int .i64 (-1), .int .i64 (-1), .int .i64 1, .int .i64 0, .int .i64 0, .int .i64 0] from (k41_mkM _ _ _ (⟨(⟨(-1), (-1), 1, 0⟩ : S37), (⟨0, 0⟩ : S39)⟩ : S41) )) (Reps.c6 (show Kd.M k41 _ _ _ (⟨(⟨0, 1, 1, 0⟩ : S37), (⟨0, 0⟩ : S39)⟩ : S41) [.int .i64 0, .int .i64 1, .int .i64 1, .int .i64 0, .int .i64 0, .int .i64 0] from (k41_mkM _ _ _ (⟨(⟨0, 1, 1, 0⟩ : S37), (⟨0, 0⟩ : S39)⟩ : S41) )) (Reps.none _ _))))
               intro v146 w767 ho768 hb hg_ hnew_
               clear hg_ hnew_
               (first | rw [← Ny145.out] at ho768 | (simp only [Int.reduceToNat] at ho768; rw [← Ny145.out] at ho768))
               have HO147 := asd (Kd.R_lower (Kd.R_newB (Kd.R_newB (Kd.R_newB (Kd.R_newB (Kd.R_newB (Kd.R_newB (Kd.R_newB (Kd.R_newB ho768 (g := gb101) (o := .cells #[.int .i64 (-1), .int .i64 0, .int .i64 0, .int .i64 (-1), .int .i64 0, .int .i64 0] 41 (0, 0)) (bkp BK101)) (g := gb102) (o := .cells #[.int .i64 1, .int .i64 0, .int .i64 0, .int .i64 (-1), .int .i64 0, .int .i64 0] 41 (0, 0)) (bkp BK102)) (g := gb103) (o := .cells #[.int .i64 0, .int .i64 1, .int .i64 1, .int .i64 0, .int .i64 0, .int .i64 0] 41 (0, 0)) (bkp BK103)) (g := gb104) (o := .cells #[.int .i64 1, .int .i64 0, .int .i64 0, .int .i64 (-1), .int .i64 a1, .int .i64 0] 41 (0, 0)) (bkp BK104)) (g := gb105) (o := .cells #[.int .i64 1, .int .i64 0, .int .i64 0, .int .i64 (-1), .int .i64 a1, .int .i64 a1] 41 (0, 0)) (bkp BK105)) (g := gb106) (o := .cells #[.int .i64 0, .int .i64 (-1), .int .i64 1, .int .i64 0, .int .i64 0, .int .i64 0] 41 (0, 0)) (bkp BK106)) (g := gb107) (o := .cells #[.int .i64 (-1), .int .i64 (-1), .int .i64 1, .int .i64 0, .int .i64 0, .int .i64 0] 41 (0, 0)) (bkp BK107)) (g := gb108) (o := .cells #[.int .i64 0, .int .i64 (-1), .int .i64 1, .int .i64 1, .int .i64 0, .int .i64 0] 41 (0, 0)) (bkp BK108)) (below_size (by repeat (first | (with_reducible first | exact HB.out | apply below_alloc | apply pw_below_drewN | apply below_drew1 | refine below_set ?_ GE101.out | refine below_set ?_ GE102.out | refine below_set ?_ GE103.out | refine below_set ?_ GE104.out | refine below_set ?_ GE105.out | refine below_set ?_ GE106.out | refine below_set ?_ GE107.out | refine below_set ?_ GE108.out) | exact HB.out))))
               replace BK101 := bB BK101 hb
               replace BK102 := bB BK102 hb
               replace BK103 := bB BK103 hb
               replace BK104 := bB BK104 hb
               replace BK105 := bB BK105 hb
               replace BK106 := bB BK106 hb
               replace BK107 := bB BK107 hb
               replace BK108 := bB BK108 hb
               replace HB := asd (below_step (by repeat (first | (with_reducible first | exact HB.out | apply below_alloc | apply pw_below_drewN | apply below_drew1 | refine below_set ?_ GE101.out | refine below_set ?_ GE102.out | refine below_set ?_ GE103.out | refine below_set ?_ GE104.out | refine below_set ?_ GE105.out | refine below_set ?_ GE106.out | refine below_set ?_ GE107.out | refine below_set ?_ GE108.out) | exact HB.out)) hb)
               clear hb ho768
               refine hK.out _ _ (cb6 BK107 (eb6 BK103)).out (fun hHeld => ?_)
               clear hK K
               refine norm_ (a' := ?_) ?_ ?_
               rotate_left
               ·show Act.put _ (some 99) _ = _
                simp only [Act.put, sA, sB, sC, i64_w, i32_w]
                rfl
               refine pure_ (i := 4) (N := some 5) (v := ?_) (a' := ?_) (bT 6 5) rfl rfl (by kernel_rfl) (fun _ _ _ h => h) (Or.inl ⟨by rfl, ?_⟩) ?_ ?_
               rotate_left
               ·intro w'
                go_simp
                with_reducible rfl
               rotate_left
               ·simp only [Act.put, sA, sB, sC, i64_w, i32_w]
                rfl
               refine pure_ (i := 5) (N := some 6) (v := ?_) (a' := ?_) (bT 6 6) rfl rfl (by kernel_rfl) (fun _ _ _ h => h) (Or.inl ⟨by rfl, ?_⟩) ?_ ?_
               rotate_left
               ·intro w'
                go_simp
                with_reducible rfl
               rotate_left
               ·simp only [Act.put, sA, sB, sC, i64_w, i32_w]
                rfl
               refine done_ (by kernel_rfl) ?_
               try go_wp2
               go_ret3
               exact ⟨_, by first | rfl | (simp [errW_none, errW_some] <;> rfl) | (simp [*, errW_none, errW_some] <;> rfl), by (with_reducible repeat (first | apply Kd.R_alloc | apply Kd.R_drewN | apply Kd.R_drew)); exact Kd.R_mono HO147.out (fun _ hk => trivial), by repeat (first | (with_reducible first | exact HB.out | apply below_alloc | apply pw_below_drewN | apply below_drew1 | refine below_set ?_ GE101.out | refine below_set ?_ GE102.out | refine below_set ?_ GE103.out | refine below_set ?_ GE104.out | refine below_set ?_ GE105.out | refine below_set ?_ GE106.out | refine below_set ?_ GE107.out | refine below_set ?_ GE108.out) | exact HB.out)⟩
              ·rw [if_neg c714] at H
               have c714b0 : (a0.toList == ([112, 51, 109, 49] : List UInt8)) = false := beq_eq_false_iff_ne.mpr c714
               have c714b1 : (a0.toList != ([112, 51, 109, 49] : List UInt8)) = true := bne_iff_ne.mpr c714
               by_cases c769 : a0.toList = ([112, 51, 49, 109] : List UInt8)
               ·rw [if_pos c769] at H
                have c769b0 : (a0.toList == ([112, 51, 49, 109] : List UInt8)) = true := beq_iff_eq.mpr c769
                have c769b1 : (a0.toList != ([112, 51, 49, 109] : List UInt8)) = false := bne_eq_false_iff_eq.mpr c769
                clear c769
                obtain ⟨y148, hy148⟩ : ∃ y_ : List (S41), y_ = (([(⟨(⟨(-1), (-1), 1, 0⟩ : S37), (⟨0, 0⟩ : S39)⟩ : S41), (⟨(⟨1, 1, 0, (-1)⟩ : S37), (⟨0, 0⟩ : S39)⟩ : S41)] : List (S41))) := ⟨_, rfl⟩
                replace H : (some (1, y148, true)) = some (r1, r2, r3) := by first | (rw [hy148]; with_reducible exact H) | (have H2_ := (Option.bind_some _ _).symm.trans H; rw [hy148]; with_reducible exact H2_) | (have H2_ := (Option.bind_some _ _).symm.trans H; with_reducible exact H2_) | with_reducible exact H | (rw [hy148]; exact H) | exact H
                have Ny148 := Aside0.mk hy148
                clear hy148
                simp only [Option.some.injEq, Prod.mk.injEq] at H
                obtain ⟨rfl, rfl, rfl⟩ := H
                try go_wp2
                replace BK101 := asd (blk_drew BK101.out)
                replace BK102 := asd (blk_drew BK102.out)
                replace BK103 := asd (blk_drew BK103.out)
                replace BK104 := asd (blk_drew BK104.out)
                replace BK105 := asd (blk_drew BK105.out)
                replace BK106 := asd (blk_drew BK106.out)
                replace BK107 := asd (blk_drew BK107.out)
                replace BK108 := asd (blk_drew BK108.out)
                replace HB := asd (below_drew1 HB.out)
                refine sh 7 (eb6 BK107) (fun hHeld => ?_)
                generalize w105.drew = w821 at BK101 BK102 BK103 BK104 BK105 BK106 BK107 BK108 HB hHeld ⊢
                refine pure_ (i := 1) (N := some 103) (v := ?_) (a' := ?_) (bs 7 2) rfl rfl (by kernel_rfl) (fun _ _ _ h => h) (Or.inl ⟨by rfl, ?_⟩) ?_ ?_
                rotate_left
                ·intro w'
                 go_simp
                 with_reducible rfl
                rotate_left
                ·simp only [Act.put, sA, sB, sC, i64_w, i32_w]
                 rfl
                refine pure_ (i := 2) (N := some 104) (v := ?_) (a' := ?_) (bs 7 6) rfl rfl (by kernel_rfl) (fun _ _ _ h => h) (Or.inl ⟨by rfl, ?_⟩) ?_ ?_
                rotate_left
                ·intro w'
                 go_simp
                 with_reducible rfl
                rotate_left
                ·simp only [Act.put, sA, sB, sC, i64_w, i32_w]
                 rfl
                refine pure_ (i := 4) (N := some 4) (v := ?_) (a' := ?_) (bs 7 22) rfl rfl (by kernel_rfl) (fun _ _ _ h => h) (Or.inl ⟨by rfl, ?_⟩) ?_ ?_
                rotate_left
                ·intro w'
                 go_simp
                 with_reducible rfl
                rotate_left
                ·simp only [Act.put, sA, sB, sC, i64_w, i32_w]
                 rfl
                refine take_ (i := 0) (N := some 102) (v := ?_) (a' := ?_) (bs 7 23) rfl rfl (by kernel_rfl) (fun _ _ _ h => h) (Or.inl ⟨by rfl, ?_⟩) hHeld ?_ ?_
                rotate_left
                ·rintro w' ⟨s0, s1, s2, s3, s4, s5⟩
                 go_simp
                 with_reducible rfl
                rotate_left
                ·simp only [Act.put, sA, sB, sC, i64_w, i32_w]
                 rfl
                refine one_ (i := 3) (N := some 105) (bT 7 5) rfl rfl (by kernel_rfl) (by decide) (fun K hK => ?_)
                refine Kd.R_lit_step k41 _ 41 ?hg (N := 105) ?hd (xs := ([(⟨(⟨(-1), (-1), 1, 0⟩ : S37), (⟨0, 0⟩ : S39)⟩ : S41), (⟨(⟨1, 1, 0, (-1)⟩ : S37), (⟨0, 0⟩ : S39)⟩ : S41)] : List (S41))) (inner := [.int .i64 (-1), .int .i64 (-1), .int .i64 1, .int .i64 0, .int .i64 0, .int .i64 0, .int .i64 1, .int .i64 1, .int .i64 0, .int .i64 (-1), .int .i64 0, .int .i64 0]) (ok := fun _ => True) (okp := fun _ => True) ?hr ?hp (fun _ hk => hk) trivial (Below.refl _ _) (Nat.le_refl _) (by simp) ?_; (case hd => rfl); (case hg => rfl); (case hr => first | (go_simp; done) | (go_simp; rfl)); (case hp => exact (Reps.c6 (show Kd.M k41 _ _ _ (⟨(⟨(-1), (-1), 1, 0⟩ : S37), (⟨0, 0⟩ : S39)⟩ : S41) [.int .i64 (-1), .int .i64 (-1), .int .i64 1, .int .i64 0, .int .i64 0, .int .i64 0] from (k41_mkM _ _ _ (⟨(⟨(-1), (-1), 1, 0⟩ : S37), (⟨0, 0⟩ : S39)⟩ : S41) )) (Reps.c6 (show Kd.M k41 _ _ _ (⟨(⟨1, 1, 0, (-1)⟩ : S37), (⟨0, 0⟩ : S39)⟩ : S41) [.int .i64 1, .int .i64 1, .int .i64 0, .int .i64 (-1), .int .i64 0, .int .i64 0] from (k41_mkM _ _ _ (⟨(⟨1, 1, 0, (-1)⟩ : S37), (⟨0, 0⟩ : S39)⟩ : S41) )) (Reps.none _ _))))
                intro v149 w822 ho823 hb hg_ hnew_
                clear hg_ hnew_
                (first | rw [← Ny148.out] at ho823 | (simp only [Int.reduceToNat] at ho823; rw [← Ny148.out] at ho823))
                have HO150 := asd (Kd.R_lower (Kd.R_newB (Kd.R_newB (Kd.R_newB (Kd.R_newB (Kd.R_newB (Kd.R_newB (Kd.R_newB (Kd.R_newB ho823 (g := gb101) (o := .cells #[.int .i64 (-1), .int .i64 0, .int .i64 0, .int .i64 (-1), .int .i64 0, .int .i64 0] 41 (0, 0)) (bkp BK101)) (g := gb102) (o := .cells #[.int .i64 1, .int .i64 0, .int .i64 0, .int .i64 (-1), .int .i64 0, .int .i64 0] 41 (0, 0)) (bkp BK102)) (g := gb103) (o := .cells #[.int .i64 0, .int .i64 1, .int .i64 1, .int .i64 0, .int .i64 0, .int .i64 0] 41 (0, 0)) (bkp BK103)) (g := gb104) (o := .cells #[.int .i64 1, .int .i64 0, .int .i64 0, .int .i64 (-1), .int .i64 a1, .int .i64 0] 41 (0, 0)) (bkp BK104)) (g := gb105) (o := .cells #[.int .i64 1, .int .i64 0, .int .i64 0, .int .i64 (-1), .int .i64 a1, .int .i64 a1] 41 (0, 0)) (bkp BK105)) (g := gb106) (o := .cells #[.int .i64 0, .int .i64 (-1), .int .i64 1, .int .i64 0, .int .i64 0, .int .i64 0] 41 (0, 0)) (bkp BK106)) (g := gb107) (o := .cells #[.int .i64 (-1), .int .i64 (-1), .int .i64 1, .int .i64 0, .int .i64 0, .int .i64 0] 41 (0, 0)) (bkp BK107)) (g := gb108) (o := .cells #[.int .i64 0, .int .i64 (-1), .int .i64 1, .int .i64 1, .int .i64 0, .int .i64 0] 41 (0, 0)) (bkp BK108)) (below_size (by repeat (first | (with_reducible first | exact HB.out | apply below_alloc | apply pw_below_drewN | apply below_drew1 | refine below_set ?_ GE101.out | refine below_set ?_ GE102.out | refine below_set ?_ GE103.out | refine below_set ?_ GE104.out | refine below_set ?_ GE105.out | refine below_set ?_ GE106.out | refine below_set ?_ GE107.out | refine below_set ?_ GE108.out) | exact HB.out))))
                replace BK101 := bB BK101 hb
                replace BK102 := bB BK102 hb
                replace BK103 := bB BK103 hb
                replace BK104 := bB BK104 hb
                replace BK105 := bB BK105 hb
                replace BK106 := bB BK106 hb
                replace BK107 := bB BK107 hb
                replace BK108 := bB BK108 hb
                replace HB := asd (below_step (by repeat (first | (with_reducible first | exact HB.out | apply below_alloc | apply pw_below_drewN | apply below_drew1 | refine below_set ?_ GE101.out | refine below_set ?_ GE102.out | refine below_set ?_ GE103.out | refine below_set ?_ GE104.out | refine below_set ?_ GE105.out | refine below_set ?_ GE106.out | refine below_set ?_ GE107.out | refine below_set ?_ GE108.out) | exact HB.out)) hb)
                clear hb ho823
                refine hK.out _ _ (eb6 BK107).out (fun hHeld => ?_)
                clear hK K
                refine norm_ (a' := ?_) ?_ ?_
                rotate_left
                ·show Act.put _ (some 105) _ = _
                 simp only [Act.put, sA, sB, sC, i64_w, i32_w]
                 rfl
                refine pure_ (i := 5) (N := some 5) (v := ?_) (a' := ?_) (bT 7 6) rfl rfl (by kernel_rfl) (fun _ _ _ h => h) (Or.inl ⟨by rfl, ?_⟩) ?_ ?_
                rotate_left
                ·intro w'
                 go_simp
                 with_reducible rfl
                rotate_left
                ·simp only [Act.put, sA, sB, sC, i64_w, i32_w]
                 rfl
                refine pure_ (i := 6) (N := some 6) (v := ?_) (a' := ?_) (bT 7 7) rfl rfl (by kernel_rfl) (fun _ _ _ h => h) (Or.inl ⟨by rfl, ?_⟩) ?_ ?_
                rotate_left
                ·intro w'
                 go_simp
                 with_reducible rfl
                rotate_left
                ·simp only [Act.put, sA, sB, sC, i64_w, i32_w]
                 rfl
                refine done_ (by kernel_rfl) ?_
                try go_wp2
                go_ret3
                exact ⟨_, by first | rfl | (simp [errW_none, errW_some] <;> rfl) | (simp [*, errW_none, errW_some] <;> rfl), by (with_reducible repeat (first | apply Kd.R_alloc | apply Kd.R_drewN | apply Kd.R_drew)); exact Kd.R_mono HO150.out (fun _ hk => trivial), by repeat (first | (with_reducible first | exact HB.out | apply below_alloc | apply pw_below_drewN | apply below_drew1 | refine below_set ?_ GE101.out | refine below_set ?_ GE102.out | refine below_set ?_ GE103.out | refine below_set ?_ GE104.out | refine below_set ?_ GE105.out | refine below_set ?_ GE106.out | refine below_set ?_ GE107.out | refine below_set ?_ GE108.out) | exact HB.out)⟩
               ·rw [if_neg c769] at H
                have c769b0 : (a0.toList == ([112, 51, 49, 109] : List UInt8)) = false := beq_eq_false_iff_ne.mpr c769
                have c769b1 : (a0.toList != ([112, 51, 49, 109] : List UInt8)) = true := bne_iff_ne.mpr c769
                by_cases c824 : a0.toList = ([112, 54] : List UInt8)
                ·rw [if_pos c824] at H
                 have c824b0 : (a0.toList == ([112, 54] : List UInt8)) = true := beq_iff_eq.mpr c824
                 have c824b1 : (a0.toList != ([112, 54] : List UInt8)) = false := bne_eq_false_iff_eq.mpr c824
                 clear c824
                 obtain ⟨y151, hy151⟩ : ∃ y_ : List (S41), y_ = (([(⟨(⟨0, (-1), 1, 1⟩ : S37), (⟨0, 0⟩ : S39)⟩ : S41)] : List (S41))) := ⟨_, rfl⟩
                 replace H : (some (1, y151, true)) = some (r1, r2, r3) := by first | (rw [hy151]; with_reducible exact H) | (have H2_ := (Option.bind_some _ _).symm.trans H; rw [hy151]; with_reducible exact H2_) | (have H2_ := (Option.bind_some _ _).symm.trans H; with_reducible exact H2_) | with_reducible exact H | (rw [hy151]; exact H) | exact H
                 have Ny151 := Aside0.mk hy151
                 clear hy151
                 simp only [Option.some.injEq, Prod.mk.injEq] at H
                 obtain ⟨rfl, rfl, rfl⟩ := H
                 try go_wp2
                 replace BK101 := asd (blk_drew BK101.out)
                 replace BK102 := asd (blk_drew BK102.out)
                 replace BK103 := asd (blk_drew BK103.out)
                 replace BK104 := asd (blk_drew BK104.out)
                 replace BK105 := asd (blk_drew BK105.out)
                 replace BK106 := asd (blk_drew BK106.out)
                 replace BK107 := asd (blk_drew BK107.out)
                 replace BK108 := asd (blk_drew BK108.out)
                 replace HB := asd (below_drew1 HB.out)
                 refine sh 5 (eb6 BK108) (fun hHeld => ?_)
                 generalize w105.drew = w876 at BK101 BK102 BK103 BK104 BK105 BK106 BK107 BK108 HB hHeld ⊢
                 refine pure_ (i := 2) (N := some 4) (v := ?_) (a' := ?_) #[false, false, true, false, false] rfl rfl (by kernel_rfl) (fun _ _ _ h => h) (Or.inl ⟨by rfl, ?_⟩) ?_ ?_
                 rotate_left
                 ·intro w'
                  go_simp
                  with_reducible rfl
                 rotate_left
                 ·simp only [Act.put, sA, sB, sC, i64_w, i32_w]
                  rfl
                 refine take_ (i := 0) (N := some 108) (v := ?_) (a' := ?_) #[true, false, true, false, false] rfl rfl (by kernel_rfl) (fun _ _ _ h => h) (Or.inl ⟨by rfl, ?_⟩) hHeld ?_ ?_
                 rotate_left
                 ·rintro w' ⟨s0, s1, s2, s3, s4, s5⟩
                  go_simp
                  with_reducible rfl
                 rotate_left
                 ·simp only [Act.put, sA, sB, sC, i64_w, i32_w]
                  rfl
                 refine one_ (i := 1) (N := some 109) (bT 5 3) rfl rfl (by kernel_rfl) (by decide) (fun K hK => ?_)
                 refine Kd.R_lit_step k41 _ 41 ?hg (N := 109) ?hd (xs := ([(⟨(⟨0, (-1), 1, 1⟩ : S37), (⟨0, 0⟩ : S39)⟩ : S41)] : List (S41))) (inner := [.int .i64 0, .int .i64 (-1), .int .i64 1, .int .i64 1, .int .i64 0, .int .i64 0]) (ok := fun _ => True) (okp := fun _ => True) ?hr ?hp (fun _ hk => hk) trivial (Below.refl _ _) (Nat.le_refl _) (by simp) ?_; (case hd => rfl); (case hg => rfl); (case hr => first | (go_simp; done) | (go_simp; rfl)); (case hp => exact (Reps.c6 (show Kd.M k41 _ _ _ (⟨(⟨0, (-1), 1, 1⟩ : S37), (⟨0, 0⟩ : S39)⟩ : S41) [.int .i64 0, .int .i64 (-1), .int .i64 1, .int .i64 1, .int .i64 0, .int .i64 0] from (k41_mkM _ _ _ (⟨(⟨0, (-1), 1, 1⟩ : S37), (⟨0, 0⟩ : S39)⟩ : S41) )) (Reps.none _ _)))
                 intro v152 w877 ho878 hb hg_ hnew_
                 clear hg_ hnew_
                 (first | rw [← Ny151.out] at ho878 | (simp only [Int.reduceToNat] at ho878; rw [← Ny151.out] at ho878))
                 have HO153 := asd (Kd.R_lower (Kd.R_newB (Kd.R_newB (Kd.R_newB (Kd.R_newB (Kd.R_newB (Kd.R_newB (Kd.R_newB (Kd.R_newB ho878 (g := gb101) (o := .cells #[.int .i64 (-1), .int .i64 0, .int .i64 0, .int .i64 (-1), .int .i64 0, .int .i64 0] 41 (0, 0)) (bkp BK101)) (g := gb102) (o := .cells #[.int .i64 1, .int .i64 0, .int .i64 0, .int .i64 (-1), .int .i64 0, .int .i64 0] 41 (0, 0)) (bkp BK102)) (g := gb103) (o := .cells #[.int .i64 0, .int .i64 1, .int .i64 1, .int .i64 0, .int .i64 0, .int .i64 0] 41 (0, 0)) (bkp BK103)) (g := gb104) (o := .cells #[.int .i64 1, .int .i64 0, .int .i64 0, .int .i64 (-1), .int .i64 a1, .int .i64 0] 41 (0, 0)) (bkp BK104)) (g := gb105) (o := .cells #[.int .i64 1, .int .i64 0, .int .i64 0, .int .i64 (-1), .int .i64 a1, .int .i64 a1] 41 (0, 0)) (bkp BK105)) (g := gb106) (o := .cells #[.int .i64 0, .int .i64 (-1), .int .i64 1, .int .i64 0, .int .i64 0, .int .i64 0] 41 (0, 0)) (bkp BK106)) (g := gb107) (o := .cells #[.int .i64 (-1), .int .i64 (-1), .int .i64 1, .int .i64 0, .int .i64 0, .int .i64 0] 41 (0, 0)) (bkp BK107)) (g := gb108) (o := .cells #[.int .i64 0, .int .i64 (-1), .int .i64 1, .int .i64 1, .int .i64 0, .int .i64 0] 41 (0, 0)) (bkp BK108)) (below_size (by repeat (first | (with_reducible first | exact HB.out | apply below_alloc | apply pw_below_drewN | apply below_drew1 | refine below_set ?_ GE101.out | refine below_set ?_ GE102.out | refine below_set ?_ GE103.out | refine below_set ?_ GE104.out | refine below_set ?_ GE105.out | refine below_set ?_ GE106.out | refine below_set ?_ GE107.out | refine below_set ?_ GE108.out) | exact HB.out))))
                 replace BK101 := bB BK101 hb
                 replace BK102 := bB BK102 hb
                 replace BK103 := bB BK103 hb
                 replace BK104 := bB BK104 hb
                 replace BK105 := bB BK105 hb
                 replace BK106 := bB BK106 hb
                 replace BK107 := bB BK107 hb
                 replace BK108 := bB BK108 hb
                 replace HB := asd (below_step (by repeat (first | (with_reducible first | exact HB.out | apply below_alloc | apply pw_below_drewN | apply below_drew1 | refine below_set ?_ GE101.out | refine below_set ?_ GE102.out | refine below_set ?_ GE103.out | refine below_set ?_ GE104.out | refine below_set ?_ GE105.out | refine below_set ?_ GE106.out | refine below_set ?_ GE107.out | refine below_set ?_ GE108.out) | exact HB.out)) hb)
                 clear hb ho878
                 refine hK.out _ _ (eb6 BK108).out (fun hHeld => ?_)
                 clear hK K
                 refine norm_ (a' := ?_) ?_ ?_
                 rotate_left
                 ·show Act.put _ (some 109) _ = _
                  simp only [Act.put, sA, sB, sC, i64_w, i32_w]
                  rfl
                 refine pure_ (i := 3) (N := some 5) (v := ?_) (a' := ?_) (bT 5 4) rfl rfl (by kernel_rfl) (fun _ _ _ h => h) (Or.inl ⟨by rfl, ?_⟩) ?_ ?_
                 rotate_left
                 ·intro w'
                  go_simp
                  with_reducible rfl
                 rotate_left
                 ·simp only [Act.put, sA, sB, sC, i64_w, i32_w]
                  rfl
                 refine pure_ (i := 4) (N := some 6) (v := ?_) (a' := ?_) (bT 5 5) rfl rfl (by kernel_rfl) (fun _ _ _ h => h) (Or.inl ⟨by rfl, ?_⟩) ?_ ?_
                 rotate_left
                 ·intro w'
                  go_simp
                  with_reducible rfl
                 rotate_left
                 ·simp only [Act.put, sA, sB, sC, i64_w, i32_w]
                  rfl
                 refine done_ (by kernel_rfl) ?_
                 try go_wp2
                 go_ret3
                 exact ⟨_, by first | rfl | (simp [errW_none, errW_some] <;> rfl) | (simp [*, errW_none, errW_some] <;> rfl), by (with_reducible repeat (first | apply Kd.R_alloc | apply Kd.R_drewN | apply Kd.R_drew)); exact Kd.R_mono HO153.out (fun _ hk => trivial), by repeat (first | (with_reducible first | exact HB.out | apply below_alloc | apply pw_below_drewN | apply below_drew1 | refine below_set ?_ GE101.out | refine below_set ?_ GE102.out | refine below_set ?_ GE103.out | refine below_set ?_ GE104.out | refine below_set ?_ GE105.out | refine below_set ?_ GE106.out | refine below_set ?_ GE107.out | refine below_set ?_ GE108.out) | exact HB.out)⟩
                ·rw [if_neg c824] at H
                 have c824b0 : (a0.toList == ([112, 54] : List UInt8)) = false := beq_eq_false_iff_ne.mpr c824
                 have c824b1 : (a0.toList != ([112, 54] : List UInt8)) = true := bne_iff_ne.mpr c824
                 by_cases c879 : a0.toList = ([112, 54, 109] : List UInt8)
                 ·rw [if_pos c879] at H
                  have c879b0 : (a0.toList == ([112, 54, 109] : List UInt8)) = true := beq_iff_eq.mpr c879
                  have c879b1 : (a0.toList != ([112, 54, 109] : List UInt8)) = false := bne_eq_false_iff_eq.mpr c879
                  clear c879
                  obtain ⟨y154, hy154⟩ : ∃ y_ : List (S41), y_ = (([(⟨(⟨0, (-1), 1, 1⟩ : S37), (⟨0, 0⟩ : S39)⟩ : S41), (⟨(⟨0, 1, 1, 0⟩ : S37), (⟨0, 0⟩ : S39)⟩ : S41)] : List (S41))) := ⟨_, rfl⟩
                  replace H : (some (1, y154, true)) = some (r1, r2, r3) := by first | (rw [hy154]; with_reducible exact H) | (have H2_ := (Option.bind_some _ _).symm.trans H; rw [hy154]; with_reducible exact H2_) | (have H2_ := (Option.bind_some _ _).symm.trans H; with_reducible exact H2_) | with_reducible exact H | (rw [hy154]; exact H) | exact H
                  have Ny154 := Aside0.mk hy154
                  clear hy154
                  simp only [Option.some.injEq, Prod.mk.injEq] at H
                  obtain ⟨rfl, rfl, rfl⟩ := H
                  try go_wp2
                  replace BK101 := asd (blk_drew BK101.out)
                  replace BK102 := asd (blk_drew BK102.out)
                  replace BK103 := asd (blk_drew BK103.out)
                  replace BK104 := asd (blk_drew BK104.out)
                  replace BK105 := asd (blk_drew BK105.out)
                  replace BK106 := asd (blk_drew BK106.out)
                  replace BK107 := asd (blk_drew BK107.out)
                  replace BK108 := asd (blk_drew BK108.out)
                  replace HB := asd (below_drew1 HB.out)
                  refine sh 6 (cb6 BK108 (eb6 BK103)) (fun hHeld => ?_)
                  generalize w105.drew = w931 at BK101 BK102 BK103 BK104 BK105 BK106 BK107 BK108 HB hHeld ⊢
                  refine pure_ (i := 3) (N := some 4) (v := ?_) (a' := ?_) (bs 6 8) rfl rfl (by kernel_rfl) (fun _ _ _ h => h) (Or.inl ⟨by rfl, ?_⟩) ?_ ?_
                  rotate_left
                  ·intro w'
                   go_simp
                   with_reducible rfl
                  rotate_left
                  ·simp only [Act.put, sA, sB, sC, i64_w, i32_w]
                   rfl
                  refine take_ (i := 0) (N := some 112) (v := ?_) (a' := ?_) (bs 6 9) rfl rfl (by kernel_rfl) (fun _ _ _ h => h) (Or.inl ⟨by rfl, ?_⟩) hHeld ?_ ?_
                  rotate_left
                  ·rintro w' ⟨s0, s1, s2, s3, s4, s5, s6, s7, s8, s9, s10, s11⟩
                   go_simp
                   with_reducible rfl
                  rotate_left
                  ·simp only [Act.put, sA, sB, sC, i64_w, i32_w]
                   rfl
                  refine take_ (i := 1) (N := some 113) (v := ?_) (a' := ?_) (bs 6 11) rfl rfl (by kernel_rfl) (fun _ _ _ h => h) (Or.inl ⟨by rfl, ?_⟩) hHeld ?_ ?_
                  rotate_left
                  ·rintro w' ⟨s0, s1, s2, s3, s4, s5, s6, s7, s8, s9, s10, s11⟩
                   go_simp
                   with_reducible rfl
                  rotate_left
                  ·simp only [Act.put, sA, sB, sC, i64_w, i32_w]
                   rfl
                  refine one_ (i := 2) (N := some 114) (bT 6 4) rfl rfl (by kernel_rfl) (by decide) (fun K hK => ?_)
                  refine Kd.R_lit_step k41 _ 41 ?hg (N := 114) ?hd (xs := ([(⟨(⟨0, (-1), 1, 1⟩ : S37), (⟨0, 0⟩ : S39)⟩ : S41), (⟨(⟨0, 1, 1, 0⟩ : S37), (⟨0, 0⟩ : S39)⟩ : S41)] : List (S41))) (inner := [.int .i64 0, .int .i64 (-1), .int .i64 1, .int .i64 1, .int .i64 0, .int .i64 0, .int .i64 0, .int .i64 1, .int .i64 1, .int .i64 0, .int .i64 0, .int .i64 0]) (ok := fun _ => True) (okp := fun _ => True) ?hr ?hp (fun _ hk => hk) trivial (Below.refl _ _) (Nat.le_refl _) (by simp) ?_; (case hd => rfl); (case hg => rfl); (case hr => first | (go_simp; done) | (go_simp; rfl)); (case hp => exact (Reps.c6 (show Kd.M k41 _ _ _ (⟨(⟨0, (-1), 1, 1⟩ : S37), (⟨0, 0⟩ : S39)⟩ : S41) [.int .i64 0, .int .i64 (-1), .int .i64 1, .int .i64 1, .int .i64 0, .int .i64 0] from (k41_mkM _ _ _ (⟨(⟨0, (-1), 1, 1⟩ : S37), (⟨0, 0⟩ : S39)⟩ : S41) )) (Reps.c6 (show Kd.M k41 _ _ _ (⟨(⟨0, 1, 1, 0⟩ : S37), (⟨0, 0⟩ : S39)⟩ : S41) [.int .i64 0, .int .i64 1, .int .i64 1, .int .i64 0, .int .i64 0, .int .i64 0] from (k41_mkM _ _ _ (⟨(⟨0, 1, 1, 0⟩ : S37), (⟨0, 0⟩ : S39)⟩ : S41) )) (Reps.none _ _))))
                  intro v155 w932 ho933 hb hg_ hnew_
                  clear hg_ hnew_
                  (first | rw [← Ny154.out] at ho933 | (simp only [Int.reduceToNat] at ho933; rw [← Ny154.out] at ho933))
                  have HO156 := asd (Kd.R_lower (Kd.R_newB (Kd.R_newB (Kd.R_newB (Kd.R_newB (Kd.R_newB (Kd.R_newB (Kd.R_newB (Kd.R_newB ho933 (g := gb101) (o := .cells #[.int .i64 (-1), .int .i64 0, .int .i64 0, .int .i64 (-1), .int .i64 0, .int .i64 0] 41 (0, 0)) (bkp BK101)) (g := gb102) (o := .cells #[.int .i64 1, .int .i64 0, .int .i64 0, .int .i64 (-1), .int .i64 0, .int .i64 0] 41 (0, 0)) (bkp BK102)) (g := gb103) (o := .cells #[.int .i64 0, .int .i64 1, .int .i64 1, .int .i64 0, .int .i64 0, .int .i64 0] 41 (0, 0)) (bkp BK103)) (g := gb104) (o := .cells #[.int .i64 1, .int .i64 0, .int .i64 0, .int .i64 (-1), .int .i64 a1, .int .i64 0] 41 (0, 0)) (bkp BK104)) (g := gb105) (o := .cells #[.int .i64 1, .int .i64 0, .int .i64 0, .int .i64 (-1), .int .i64 a1, .int .i64 a1] 41 (0, 0)) (bkp BK105)) (g := gb106) (o := .cells #[.int .i64 0, .int .i64 (-1), .int .i64 1, .int .i64 0, .int .i64 0, .int .i64 0] 41 (0, 0)) (bkp BK106)) (g := gb107) (o := .cells #[.int .i64 (-1), .int .i64 (-1), .int .i64 1, .int .i64 0, .int .i64 0, .int .i64 0] 41 (0, 0)) (bkp BK107)) (g := gb108) (o := .cells #[.int .i64 0, .int .i64 (-1), .int .i64 1, .int .i64 1, .int .i64 0, .int .i64 0] 41 (0, 0)) (bkp BK108)) (below_size (by repeat (first | (with_reducible first | exact HB.out | apply below_alloc | apply pw_below_drewN | apply below_drew1 | refine below_set ?_ GE101.out | refine below_set ?_ GE102.out | refine below_set ?_ GE103.out | refine below_set ?_ GE104.out | refine below_set ?_ GE105.out | refine below_set ?_ GE106.out | refine below_set ?_ GE107.out | refine below_set ?_ GE108.out) | exact HB.out))))
                  replace BK101 := bB BK101 hb
                  replace BK102 := bB BK102 hb
                  replace BK103 := bB BK103 hb
                  replace BK104 := bB BK104 hb
                  replace BK105 := bB BK105 hb
                  replace BK106 := bB BK106 hb
                  replace BK107 := bB BK107 hb
                  replace BK108 := bB BK108 hb
                  replace HB := asd (below_step (by repeat (first | (with_reducible first | exact HB.out | apply below_alloc | apply pw_below_drewN | apply below_drew1 | refine below_set ?_ GE101.out | refine below_set ?_ GE102.out | refine below_set ?_ GE103.out | refine below_set ?_ GE104.out | refine below_set ?_ GE105.out | refine below_set ?_ GE106.out | refine below_set ?_ GE107.out | refine below_set ?_ GE108.out) | exact HB.out)) hb)
                  clear hb ho933
                  refine hK.out _ _ (cb6 BK108 (eb6 BK103)).out (fun hHeld => ?_)
                  clear hK K
                  refine norm_ (a' := ?_) ?_ ?_
                  rotate_left
                  ·show Act.put _ (some 114) _ = _
                   simp only [Act.put, sA, sB, sC, i64_w, i32_w]
                   rfl
                  refine pure_ (i := 4) (N := some 5) (v := ?_) (a' := ?_) (bT 6 5) rfl rfl (by kernel_rfl) (fun _ _ _ h => h) (Or.inl ⟨by rfl, ?_⟩) ?_ ?_
                  rotate_left
                  ·intro w'
                   go_simp
                   with_reducible rfl
                  rotate_left
                  ·simp only [Act.put, sA, sB, sC, i64_w, i32_w]
                   rfl
                  refine pure_ (i := 5) (N := some 6) (v := ?_) (a' := ?_) (bT 6 6) rfl rfl (by kernel_rfl) (fun _ _ _ h => h) (Or.inl ⟨by rfl, ?_⟩) ?_ ?_
                  rotate_left
                  ·intro w'
                   go_simp
                   with_reducible rfl
                  rotate_left
                  ·simp only [Act.put, sA, sB, sC, i64_w, i32_w]
                   rfl
                  refine done_ (by kernel_rfl) ?_
                  try go_wp2
                  go_ret3
                  exact ⟨_, by first | rfl | (simp [errW_none, errW_some] <;> rfl) | (simp [*, errW_none, errW_some] <;> rfl), by (with_reducible repeat (first | apply Kd.R_alloc | apply Kd.R_drewN | apply Kd.R_drew)); exact Kd.R_mono HO156.out (fun _ hk => trivial), by repeat (first | (with_reducible first | exact HB.out | apply below_alloc | apply pw_below_drewN | apply below_drew1 | refine below_set ?_ GE101.out | refine below_set ?_ GE102.out | refine below_set ?_ GE103.out | refine below_set ?_ GE104.out | refine below_set ?_ GE105.out | refine below_set ?_ GE106.out | refine below_set ?_ GE107.out | refine below_set ?_ GE108.out) | exact HB.out)⟩
                 ·rw [if_neg c879] at H
                  have c879b0 : (a0.toList == ([112, 54, 109] : List UInt8)) = false := beq_eq_false_iff_ne.mpr c879
                  have c879b1 : (a0.toList != ([112, 54, 109] : List UInt8)) = true := bne_iff_ne.mpr c879
                  simp only [Option.some.injEq, Prod.mk.injEq] at H
                  obtain ⟨rfl, rfl, rfl⟩ := H
                  go_wp2
                  go_ret3
                  exact ⟨_, by first | rfl | (simp [errW_none, errW_some] <;> rfl) | (simp [*, errW_none, errW_some] <;> rfl), by first | exact Kd.R_nil _ _ _ _ _ | exact Kd.N_nil _ _ _ _ _ | exact Kd.V_nil _ _ _ _ _ | exact Kd.Q_nil _ _ _ _ _ | exact Kd.S_nil _ _ _ _ _, by repeat (first | (with_reducible first | exact HB.out | apply below_alloc | apply pw_below_drewN | apply below_drew1 | refine below_set ?_ GE101.out | refine below_set ?_ GE102.out | refine below_set ?_ GE103.out | refine below_set ?_ GE104.out | refine below_set ?_ GE105.out | refine below_set ?_ GE106.out | refine below_set ?_ GE107.out | refine below_set ?_ GE108.out) | exact HB.out)⟩
end Go.Proofs.Ytdodghjnlekgeaa.PA
