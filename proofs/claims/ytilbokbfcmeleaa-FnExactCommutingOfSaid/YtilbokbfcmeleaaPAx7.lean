/- Walks written by program: each Go function that the law reaches comes to the plain function beside it. -/
import Derived.Test.YtilbokbfcmeleaaPAx0
import Derived.Test.YtilbokbfcmeleaaPAx6
namespace Go.Proofs.Ytilbokbfcmeleaa.PA
open Go.RowKit Go.Proofs.YtilbokbfcmeleaaW.PrintWords Go.Proofs.YtilbokbfcmeleaaW.PrintLast Go.Proofs.YtilbokbfcmeleaaW.PrintMore
attribute [local go_sem] max2_int min2_int max_two min_two max_three min_three max_four min_four   -- for this text's walks alone
set_option linter.unusedVariables false
set_option linter.unusedSimpArgs false

/-! ### spec_l04Keeps: function 93 -/
def spec_l04Keeps.f (a0 : Int) (a1_0 : Int) (a1_1 : Int) (a1_2 : Int) (a1_3 : Int) : Option (Bool) := (spec_l04Norm.f a0 a1_0 a1_2).bind fun t213 => (if t213 = 1 then ((spec_l04Norm.f a0 a1_1 a1_3).bind fun t214 => (if t214 = 1 then ((spec_l01Add.f a1_0 a1_2 a1_1 a1_3).bind fun bt215 => ((spec_l04Norm.f a0 bt215.1 bt215.2).bind fun t217 => (some (t217 == (wrap64 (2 + a0)))))) else (some false))) else (some false))
def spec_l04Keeps.T1 : Bool × List (List Nat × List Nat) := (true, [([], []), ([0], [0]), ([], []), ([2], [2]), ([1, 3], [1, 3]), ([], []), ([5], [5]), ([], []), ([7], [7]), ([6, 8], [6, 8]), ([], []), ([], []), ([10, 4, 0, 1, 2, 3, 4, 10, 11], [4, 10]), ([11, 9, 12, 0, 1, 2, 3, 4, 5, 6, 7, 8, 9, 10, 11, 12], [9, 11])])
def spec_l04Keeps.B1 : List Nat := [0, 1, 0, 4, 15, 0, 32, 0, 128, 480, 0, 0, 3103, 8191]
theorem spec_l04Keeps.tab1 : rtab .any (opsOf Try.f93 1) = spec_l04Keeps.T1 := by kernel_rfl
theorem spec_l04Keeps.bits1 : waitsOk spec_l04Keeps.T1.2 spec_l04Keeps.B1 = true := by kernel_rfl
set_option maxHeartbeats 8000000 in
set_option maxRecDepth 100000 in
theorem spec_l04Keeps.calls (a0 : Int) (a1_0 : Int) (a1_1 : Int) (a1_2 : Int) (a1_3 : Int) (r : Bool) (w : World) (h : spec_l04Keeps.f a0 a1_0 a1_1 a1_2 a1_3 = some r) :
  Calls Try.prog 93 #[.int .i64 a0, .agg #[.int .i64 a1_0, .int .i64 a1_1, .int .i64 a1_2, .int .i64 a1_3]] w fun e w' => e = .returned (.bool r) ∧ Below w.heap.size w w' := by
 have hu44 := Try.underlying44
 have hu46 := Try.underlying46
 have HB := asd (Below.refl w.heap.size w)
 have H : ((spec_l04Norm.f a0 a1_0 a1_2).bind fun t213 => (if t213 = 1 then ((spec_l04Norm.f a0 a1_1 a1_3).bind fun t214 => (if t214 = 1 then ((spec_l01Add.f a1_0 a1_2 a1_1 a1_3).bind fun bt215 => ((spec_l04Norm.f a0 bt215.1 bt215.2).bind fun t217 => (some (t217 == (wrap64 (2 + a0)))))) else (some false))) else (some false))) = some r := h
 clear h
 obtain ⟨t213, A3, H⟩ := ob H
 try dsimp only at H
 by_cases c4 : t213 = 1
 rw [if_pos c4] at H
 have c4b0 : (t213 == 1) = true := beq_iff_eq.mpr c4
 have c4b1 : (t213 != 1) = false := bne_eq_false_iff_eq.mpr c4
 clear c4
 obtain ⟨t214, A5, H⟩ := ob H
 try dsimp only at H
 by_cases c6 : t214 = 1
 rw [if_pos c6] at H
 have c6b0 : (t214 == 1) = true := beq_iff_eq.mpr c6
 have c6b1 : (t214 != 1) = false := bne_eq_false_iff_eq.mpr c6
 clear c6
 obtain ⟨⟨t215, t216⟩, A7, H⟩ := ob H
 try dsimp only at H
 obtain ⟨t217, A8, H⟩ := ob H
 try dsimp only at H
 obtain rfl := Option.some.inj H
 rotate_left
 rw [if_neg c6] at H
 have c6b0 : (t214 == 1) = false := beq_eq_false_iff_ne.mpr c6
 have c6b1 : (t214 != 1) = true := bne_iff_ne.mpr c6
 obtain rfl := Option.some.inj H
 rotate_left
 rw [if_neg c4] at H
 have c4b0 : (t213 == 1) = false := beq_eq_false_iff_ne.mpr c4
 have c4b1 : (t213 != 1) = true := bne_iff_ne.mpr c4
 obtain rfl := Option.some.inj H
 rotate_left
 all_goals
  go_enter Try.func93, Try.ntmps93
  try go_wp2_with (first | ((with_reducible refine gd 3 rfl ?_); refine bx #[.int .i64 a1_0, .int .i64 a1_1, .int .i64 a1_2, .int .i64 a1_3] 44 ?_; intro gb210 hg w9 BK210 hb; have GE210 := ngw0 hg HB; replace HB := bS0 HB hb; clear hb hg))
  replace BK210 := asd (blk_drew BK210.out)
  replace HB := asd (below_drew1 HB.out)
  refine sh 14 (eb4 BK210) (fun hHeld => ?_); refine with_tabW spec_l04Keeps.tab1 spec_l04Keeps.bits1 (fun HT_ HW_ => ?_)
  generalize w9.drew = w10 at BK210 HB hHeld ⊢
  refine pu 0 (some 7) (bT 14 1) HT_ ?_
  refine pu 2 (some 9) (bs 14 5) HT_ ?_
  refine pu 5 (some 12) (bs 14 37) HT_ ?_
  refine pu 7 (some 14) (bs 14 165) HT_ ?_
  refine ta 1 (some 8) (bs 14 167) HT_ HW_ hHeld ?_
  refine ta 3 (some 10) (bs 14 175) HT_ HW_ hHeld ?_
  refine pu 4 (some 11) (bs 14 191) HT_ ?_
  refine ta 6 (some 13) (bT 14 8) HT_ HW_ hHeld ?_
  refine ta 8 (some 15) (bT 14 9) HT_ HW_ hHeld ?_
  refine pu 9 (some 16) (bT 14 10) HT_ ?_
  refine join_ (σ := Nat × Nat) 2 (bT 14 12) (fun s_ => [(5, .pointer (some ⟨s_.1, 0, none⟩)), (6, .pointer (some ⟨s_.2, 0, none⟩))]) (fun s_ w' => (w'.cell? ⟨gb210, 0, none⟩ = some (.int .i64 a1_0) ∧ w'.cell? ⟨gb210, 1, none⟩ = some (.int .i64 a1_1) ∧ w'.cell? ⟨gb210, 2, none⟩ = some (.int .i64 a1_2) ∧ w'.cell? ⟨gb210, 3, none⟩ = some (.int .i64 a1_3)) ∧ (w'.heap[gb210]? = some (.cells #[.int .i64 a1_0, .int .i64 a1_1, .int .i64 a1_2, .int .i64 a1_3] 44 (0, 0))) ∧ (w'.heap[s_.1]? = some (.cells #[.int .i64 0, .int .i64 0] 46 (0, 0))) ∧ (w'.heap[s_.2]? = some (.cells #[.int .i64 0, .int .i64 0] 46 (0, 0))) ∧ (w.heap.size ≤ s_.1) ∧ (w.heap.size ≤ s_.1) ∧ (gb210 ≠ s_.1) ∧ (s_.1 ≠ gb210) ∧ (s_.2 ≠ s_.1) ∧ (s_.1 ≠ s_.2) ∧ (w.heap.size ≤ s_.2) ∧ (w.heap.size ≤ s_.2) ∧ (gb210 ≠ s_.2) ∧ (s_.2 ≠ gb210) ∧ (Below w.heap.size w w')) ?_ ?_
  rotate_left
  ·intro hCont
   refine two_ (i := 10) (j := 11) (Ni := some 5) (Nj := some 6) (bT 14 11) (bs 14 3071) rfl rfl rfl rfl (two_of HT_.out (by kernel_rfl)) (by decide) (by decide) (fun K hK => ?_) (fun K hK => ?_)
   ·skip
    refine box_step ?hg (N := 5) ?hd (cs := #[.int .i64 0, .int .i64 0]) (t := 46) ?hr ?_; (case hd => rfl); (case hg => rfl); (case hr => first | (go_simp; done) | (go_simp; rfl))
    intro gb211 hg w11 hbox hb
    have BK211 := asd (hbox)
    have GW211 := ngw1 hg HB GE210
    have GE211 := ngw1 hg HB GE210
    replace HB := bS1 HB GE210 hb
    have NB210_211 := nlt hg BK210
    have NB211_210 := nsy (nlt hg BK210)
    replace BK210 := bB BK210 hb
    clear hb hbox hg
    refine hK.out _ _ (eb4 BK210).out (fun hHeld => ?_)
    clear hK K
    refine norm_ (a' := ?_) ?_ ?_
    rotate_left
    ·show Act.put _ (some 5) _ = _
     simp only [Act.put, sA, sB, sC, i64_w, i32_w]
     rfl
    refine ro 11 (some 6) (bT 14 12) HT_ (fun K hK => ?_)
    refine box_step ?hg (N := 6) ?hd (cs := #[.int .i64 0, .int .i64 0]) (t := 46) ?hr ?_; (case hd => rfl); (case hg => rfl); (case hr => first | (go_simp; done) | (go_simp; rfl))
    intro gb212 hg w12 hbox hb
    have BK212 := asd (hbox)
    have GW212 := ngw2 hg HB GE210 GE211
    have GE212 := ngw2 hg HB GE210 GE211
    replace HB := bS2 HB GE210 GE211 hb
    have NB210_212 := nlt hg BK210
    have NB212_210 := nsy (nlt hg BK210)
    replace BK210 := bB BK210 hb
    have NB211_212 := nlt hg BK211
    have NB212_211 := nsy (nlt hg BK211)
    replace BK211 := bB BK211 hb
    clear hb hbox hg
    refine hK.out _ _ (eb4 BK210).out (fun hHeld => ?_)
    clear hK K
    refine norm_ (a' := ?_) ?_ ?_
    rotate_left
    ·show Act.put _ (some 6) _ = _
     simp only [Act.put, sA, sB, sC, i64_w, i32_w]
     rfl
    exact norm_ (by simp only [putAll, Act.put, sA, sB, sC]) (hCont (gb211, gb212) _ ⟨hHeld, (bkp BK210), (bkp BK211), (bkp BK212), GW211.out, GE211.out, NB210_211.out, NB211_210.out, NB212_211.out, NB211_212.out, GW212.out, GE212.out, NB210_212.out, NB212_210.out, (bbw3 HB GE210 GE211 GE212)⟩)
   ·skip
    refine box_step ?hg (N := 6) ?hd (cs := #[.int .i64 0, .int .i64 0]) (t := 46) ?hr ?_; (case hd => rfl); (case hg => rfl); (case hr => first | (go_simp; done) | (go_simp; rfl))
    intro gb212 hg w11 hbox hb
    have BK212 := asd (hbox)
    have GW212 := ngw1 hg HB GE210
    have GE212 := ngw1 hg HB GE210
    replace HB := bS1 HB GE210 hb
    have NB210_212 := nlt hg BK210
    have NB212_210 := nsy (nlt hg BK210)
    replace BK210 := bB BK210 hb
    clear hb hbox hg
    refine hK.out _ _ (eb4 BK210).out (fun hHeld => ?_)
    clear hK K
    refine norm_ (a' := ?_) ?_ ?_
    rotate_left
    ·show Act.put _ (some 6) _ = _
     simp only [Act.put, sA, sB, sC, i64_w, i32_w]
     rfl
    refine ro 10 (some 5) (bT 14 12) HT_ (fun K hK => ?_)
    refine box_step ?hg (N := 5) ?hd (cs := #[.int .i64 0, .int .i64 0]) (t := 46) ?hr ?_; (case hd => rfl); (case hg => rfl); (case hr => first | (go_simp; done) | (go_simp; rfl))
    intro gb211 hg w12 hbox hb
    have BK211 := asd (hbox)
    have GW211 := ngw2 hg HB GE210 GE212
    have GE211 := ngw2 hg HB GE210 GE212
    replace HB := bS2 HB GE210 GE212 hb
    have NB210_211 := nlt hg BK210
    have NB211_210 := nsy (nlt hg BK210)
    replace BK210 := bB BK210 hb
    have NB212_211 := nlt hg BK212
    have NB211_212 := nsy (nlt hg BK212)
    replace BK212 := bB BK212 hb
    clear hb hbox hg
    refine hK.out _ _ (eb4 BK210).out (fun hHeld => ?_)
    clear hK K
    refine norm_ (a' := ?_) ?_ ?_
    rotate_left
    ·show Act.put _ (some 5) _ = _
     simp only [Act.put, sA, sB, sC, i64_w, i32_w]
     rfl
    exact norm_ (by simp only [putAll, Act.put, sA, sB, sC]) (hCont (gb211, gb212) _ ⟨hHeld, (bkp BK210), (bkp BK211), (bkp BK212), GW211.out, GE211.out, NB210_211.out, NB211_210.out, NB212_211.out, NB211_212.out, GW212.out, GE212.out, NB210_212.out, NB212_210.out, (bbw3 HB GE210 GE212 GE211)⟩)
  rintro ⟨gb211, gb212⟩ w13 ⟨hS_, h0_, h1_, h2_, h3_, h4_, h5_, h6_, h7_, h8_, h9_, h10_, h11_, h12_, h13_⟩
  have n0_ : Aside0 (w13.heap[gb210]? = some (.cells #[.int .i64 a1_0, .int .i64 a1_1, .int .i64 a1_2, .int .i64 a1_3] 44 (0, 0))) := ⟨h0_⟩
  have n1_ : Aside0 (w13.heap[gb211]? = some (.cells #[.int .i64 0, .int .i64 0] 46 (0, 0))) := ⟨h1_⟩
  have n2_ : Aside0 (w13.heap[gb212]? = some (.cells #[.int .i64 0, .int .i64 0] 46 (0, 0))) := ⟨h2_⟩
  have n3_ : Aside0 (w.heap.size ≤ gb211) := ⟨h3_⟩
  have n4_ : Aside0 (w.heap.size ≤ gb211) := ⟨h4_⟩
  have n5_ : Aside0 (gb210 ≠ gb211) := ⟨h5_⟩
  have n6_ : Aside0 (gb211 ≠ gb210) := ⟨h6_⟩
  have n7_ : Aside0 (gb212 ≠ gb211) := ⟨h7_⟩
  have n8_ : Aside0 (gb211 ≠ gb212) := ⟨h8_⟩
  have n9_ : Aside0 (w.heap.size ≤ gb212) := ⟨h9_⟩
  have n10_ : Aside0 (w.heap.size ≤ gb212) := ⟨h10_⟩
  have n11_ : Aside0 (gb210 ≠ gb212) := ⟨h11_⟩
  have n12_ : Aside0 (gb212 ≠ gb210) := ⟨h12_⟩
  have n13_ : Aside0 (Below w.heap.size w w13) := ⟨h13_⟩
  clear BK210
  clear HB
  clear h0_ h1_ h2_ h3_ h4_ h5_ h6_ h7_ h8_ h9_ h10_ h11_ h12_ h13_
  have BK210 := n0_
  have BK211 := n1_
  have BK212 := n2_
  have GW211 := n3_
  have GE211 := n4_
  have NB210_211 := n5_
  have NB211_210 := n6_
  have NB212_211 := n7_
  have NB211_212 := n8_
  have GW212 := n9_
  have GE212 := n10_
  have NB210_212 := n11_
  have NB212_210 := n12_
  have HB := n13_
  clear n0_ n1_ n2_ n3_ n4_ n5_ n6_ n7_ n8_ n9_ n10_ n11_ n12_ n13_
  have hHeld : w13.cell? ⟨gb210, 0, none⟩ = some (.int .i64 a1_0) ∧ w13.cell? ⟨gb210, 1, none⟩ = some (.int .i64 a1_1) ∧ w13.cell? ⟨gb210, 2, none⟩ = some (.int .i64 a1_2) ∧ w13.cell? ⟨gb210, 3, none⟩ = some (.int .i64 a1_3) := hS_
  refine norm_ (a' := ?_) ?_ ?_
  rotate_left
  ·simp only [putAll, Act.put, sA, sB, sC]
   rfl
  refine ro 12 (none) (bT 14 13) HT_ (fun K hK => ?_)
  have hs14 : w13.cell? ⟨gb211, 0, none⟩ = some (.int .i64 0) := bcl BK211 0
  have hfs14 := blk_frozen BK211.out 0
  have hns14_0 := NB210_211.out
  have hns14_2 := NB212_211.out
  have hms14_0 := NB211_210.out
  have hms14_2 := NB211_212.out
  have hs15 : w13.cell? ⟨gb211, 1, none⟩ = some (.int .i64 0) := bcl BK211 1
  have hfs15 := blk_frozen BK211.out 1
  have hns15_0 := NB210_211.out
  have hns15_2 := NB212_211.out
  have hms15_0 := NB211_210.out
  have hms15_2 := NB211_212.out
  refine skip_ (w1 := ?_) (by rfl) rfl ?_ ?_
  rotate_left
  ·go_simp
   rfl
  refine hK.out _ _ ⟨(cf2 NB210_211 (hHeld.1)), (cf2 NB210_211 (hHeld.2.1)), (cf2 NB210_211 (hHeld.2.2.1)), (cf2 NB210_211 (hHeld.2.2.2))⟩ (fun hHeld => ?_)
  clear hK K
  refine ro 13 (none) (bT 14 14) HT_ (fun K hK => ?_)
  have hs16 : w13.cell? ⟨gb212, 0, none⟩ = some (.int .i64 0) := bcl BK212 0
  have hfs16 := blk_frozen BK212.out 0
  have hns16_0 := NB210_212.out
  have hns16_1 := NB211_212.out
  have hms16_0 := NB212_210.out
  have hms16_1 := NB212_211.out
  have hs17 : w13.cell? ⟨gb212, 1, none⟩ = some (.int .i64 0) := bcl BK212 1
  have hfs17 := blk_frozen BK212.out 1
  have hns17_0 := NB210_212.out
  have hns17_1 := NB211_212.out
  have hms17_0 := NB212_210.out
  have hms17_1 := NB212_211.out
  refine skip_ (w1 := ?_) (by rfl) rfl ?_ ?_
  rotate_left
  ·go_simp
   rfl
  refine hK.out _ _ ⟨(cf2 NB210_212 (hHeld.1)), (cf2 NB210_212 (hHeld.2.1)), (cf2 NB210_212 (hHeld.2.2.1)), (cf2 NB210_212 (hHeld.2.2.2))⟩ (fun hHeld => ?_)
  clear hK K
  refine done_ (done_of HT_.out (by kernel_rfl)) ?_
  have hnb18 := NB211_210.out
  have hnc18 := NB210_211.out
  have hnb19 := NB211_212.out
  have hnc19 := NB212_211.out
  obtain ⟨hcz20_0, hcz20_1, hfz20_0, hfz20_1⟩ := bz2 BK211
 try go_wp2_with (first | ((with_reducible refine gate_callee (f := 107) rfl ?_); refine gl 19 Try.func107 #[.int .i64 a0, .agg #[.int .i64 a1_0, .int .i64 a1_2]] ?_; (with_reducible refine (spec_l04Norm.calls _ _ _ _ _ A3.out).mono ?_); rintro e w21 ⟨rfl, hb⟩; refine ⟨_, rfl, ?_⟩; replace BK210 := asd (blk_below (g := gb210) (o := .cells #[.int .i64 a1_0, .int .i64 a1_1, .int .i64 a1_2, .int .i64 a1_3] 44 (0, 0)) (bq2 BK210 NB210_212 NB210_211) hb); replace BK211 := asd (blk_below (g := gb211) (o := .cells #[.int .i64 a1_0, .int .i64 a1_2] 46 (0, 0)) (bq1 BK211 NB211_212) hb); replace BK212 := asd (blk_below (g := gb212) (o := .cells #[.int .i64 a1_1, .int .i64 a1_3] 46 (0, 0)) (bq1 BK212 NB212_211) hb); replace HB := bS3 HB GE210 GE211 GE212 hb; (try clear hb); have hnb22 := NB212_210.out; have hnc22 := NB210_212.out; obtain ⟨hcz23_0, hcz23_1, hfz23_0, hfz23_1⟩ := bz2 BK212) | (go_at_call 107; (with_reducible refine (spec_l04Norm.calls _ _ _ _ _ A5.out).mono ?_); rintro e w24 ⟨rfl, hb⟩; replace BK210 := bB BK210 hb; replace BK211 := bB BK211 hb; replace BK212 := bB BK212 hb; replace HB := bS3 HB GE210 GE211 GE212 hb; (try clear hb); obtain ⟨hcz25_0, hcz25_1, hfz25_0, hfz25_1⟩ := bz2 BK211; obtain ⟨hcz26_0, hcz26_1, hfz26_0, hfz26_1⟩ := bz2 BK212) | (go_at_call 62; (with_reducible refine (spec_l01Add.calls _ _ _ _ _ _ _ A7.out).mono ?_); rintro e w27 ⟨rfl, hb⟩; replace BK210 := bB BK210 hb; replace BK211 := bB BK211 hb; replace BK212 := bB BK212 hb; replace HB := bS3 HB GE210 GE211 GE212 hb; (try clear hb)) | (go_at_call 107; (with_reducible refine (spec_l04Norm.calls _ _ _ _ _ A8.out).mono ?_); rintro e w28 ⟨rfl, hb⟩; replace BK210 := bB BK210 hb; replace BK211 := bB BK211 hb; replace BK212 := bB BK212 hb; replace HB := bS3 HB GE210 GE211 GE212 hb; (try clear hb)))
 rotate_left
 try go_wp2_with (first | ((with_reducible refine gate_callee (f := 107) rfl ?_); refine gl 19 Try.func107 #[.int .i64 a0, .agg #[.int .i64 a1_0, .int .i64 a1_2]] ?_; (with_reducible refine (spec_l04Norm.calls _ _ _ _ _ A3.out).mono ?_); rintro e w41 ⟨rfl, hb⟩; refine ⟨_, rfl, ?_⟩; replace BK210 := asd (blk_below (g := gb210) (o := .cells #[.int .i64 a1_0, .int .i64 a1_1, .int .i64 a1_2, .int .i64 a1_3] 44 (0, 0)) (bq2 BK210 NB210_212 NB210_211) hb); replace BK211 := asd (blk_below (g := gb211) (o := .cells #[.int .i64 a1_0, .int .i64 a1_2] 46 (0, 0)) (bq1 BK211 NB211_212) hb); replace BK212 := asd (blk_below (g := gb212) (o := .cells #[.int .i64 a1_1, .int .i64 a1_3] 46 (0, 0)) (bq1 BK212 NB212_211) hb); replace HB := bS3 HB GE210 GE211 GE212 hb; (try clear hb); have hnb42 := NB212_210.out; have hnc42 := NB210_212.out; obtain ⟨hcz43_0, hcz43_1, hfz43_0, hfz43_1⟩ := bz2 BK212) | (go_at_call 107; (with_reducible refine (spec_l04Norm.calls _ _ _ _ _ A5.out).mono ?_); rintro e w44 ⟨rfl, hb⟩; replace BK210 := bB BK210 hb; replace BK211 := bB BK211 hb; replace BK212 := bB BK212 hb; replace HB := bS3 HB GE210 GE211 GE212 hb; (try clear hb)))
 rotate_left
 try go_wp2_with (first | ((with_reducible refine gate_callee (f := 107) rfl ?_); refine gl 19 Try.func107 #[.int .i64 a0, .agg #[.int .i64 a1_0, .int .i64 a1_2]] ?_; (with_reducible refine (spec_l04Norm.calls _ _ _ _ _ A3.out).mono ?_); rintro e w57 ⟨rfl, hb⟩; refine ⟨_, rfl, ?_⟩; replace BK210 := asd (blk_below (g := gb210) (o := .cells #[.int .i64 a1_0, .int .i64 a1_1, .int .i64 a1_2, .int .i64 a1_3] 44 (0, 0)) (bq2 BK210 NB210_212 NB210_211) hb); replace BK211 := asd (blk_below (g := gb211) (o := .cells #[.int .i64 a1_0, .int .i64 a1_2] 46 (0, 0)) (bq1 BK211 NB211_212) hb); replace BK212 := asd (blk_below (g := gb212) (o := .cells #[.int .i64 a1_1, .int .i64 a1_3] 46 (0, 0)) (bq1 BK212 NB212_211) hb); replace HB := bS3 HB GE210 GE211 GE212 hb; (try clear hb)))
 rotate_left
 all_goals
  go_ret
  exact er (bbw3 HB GE210 GE211 GE212)
/-! ### spec_IsPointMat: function 71 -/
def spec_IsPointMat.f (a0 : Int) (a1_0 : Int) (a1_1 : Int) (a1_2 : Int) (a1_3 : Int) : Option (Bool) := (spec_IsFrame.f a0).bind fun t219 => (if t219 = true then ((spec_IsMat.f a1_0 a1_1 a1_2 a1_3).bind fun t220 => (if t220 = true then ((spec_l04Keeps.f a0 a1_0 a1_1 a1_2 a1_3).bind fun t221 => (some t221)) else (some false))) else (some false))
set_option maxHeartbeats 8000000 in
set_option maxRecDepth 100000 in
theorem spec_IsPointMat.calls (a0 : Int) (a1_0 : Int) (a1_1 : Int) (a1_2 : Int) (a1_3 : Int) (r : Bool) (w : World) (h : spec_IsPointMat.f a0 a1_0 a1_1 a1_2 a1_3 = some r) :
  Calls Try.prog 71 #[.int .i64 a0, .agg #[.int .i64 a1_0, .int .i64 a1_1, .int .i64 a1_2, .int .i64 a1_3]] w fun e w' => e = .returned (.bool r) ∧ Below w.heap.size w w' := by
 have hu44 := Try.underlying44
 have HB := asd (Below.refl w.heap.size w)
 have H : ((spec_IsFrame.f a0).bind fun t219 => (if t219 = true then ((spec_IsMat.f a1_0 a1_1 a1_2 a1_3).bind fun t220 => (if t220 = true then ((spec_l04Keeps.f a0 a1_0 a1_1 a1_2 a1_3).bind fun t221 => (some t221)) else (some false))) else (some false))) = some r := h
 clear h
 obtain ⟨t219, A3, H⟩ := ob H
 try dsimp only at H
 by_cases c4 : t219 = true
 ·subst c4
  replace H := ifT H
  obtain ⟨t220, A5, H⟩ := ob H
  try dsimp only at H
  by_cases c6 : t220 = true
  ·subst c6
   replace H := ifT H
   obtain ⟨t221, A7, H⟩ := ob H
   try dsimp only at H
   obtain rfl := Option.some.inj H
   go_enter Try.func71, Try.ntmps71
   go_wp2_with (first | ((with_reducible refine gd 3 rfl ?_); refine bx #[.int .i64 a1_0, .int .i64 a1_1, .int .i64 a1_2, .int .i64 a1_3] 44 ?_; intro gb218 hg w8 BK218 hb; have GE218 := ngw0 hg HB; replace HB := bS0 HB hb; clear hb hg) | ((with_reducible refine gate_callee (f := 69) rfl ?_); refine gl 6 Try.func69 #[.int .i64 a0] ?_; (with_reducible refine (spec_IsFrame.calls _ _ _ A3.out).mono ?_); rintro e w' ⟨rfl, ⟨nd, rfl⟩⟩; refine ⟨_, rfl, ?_⟩; have hcz9_0 : w8.cell? ⟨gb218, 0, none⟩ = some (.int .i64 a1_0) := bcl BK218 0; have hcz9_1 : w8.cell? ⟨gb218, 1, none⟩ = some (.int .i64 a1_1) := bcl BK218 1; have hcz9_2 : w8.cell? ⟨gb218, 2, none⟩ = some (.int .i64 a1_2) := bcl BK218 2; have hcz9_3 : w8.cell? ⟨gb218, 3, none⟩ = some (.int .i64 a1_3) := bcl BK218 3; have hfz9_0 := blk_frozen BK218.out 0; have hfz9_1 := blk_frozen BK218.out 1; have hfz9_2 := blk_frozen BK218.out 2; have hfz9_3 := blk_frozen BK218.out 3) | (go_at_call 92; (with_reducible refine (spec_IsMat.calls _ _ _ _ _ _ A5.out).mono ?_); rintro e w10 ⟨rfl, hb⟩; replace BK218 := bB BK218 hb; replace HB := bS1 HB GE218 hb; (try clear hb); obtain ⟨hcz11_0, hcz11_1, hcz11_2, hcz11_3, hfz11_0, hfz11_1, hfz11_2, hfz11_3⟩ := bz4 BK218) | (go_at_call 93; (with_reducible refine (spec_l04Keeps.calls _ _ _ _ _ _ _ A7.out).mono ?_); rintro e w12 ⟨rfl, hb⟩; replace BK218 := bB BK218 hb; replace HB := bS1 HB GE218 hb; (try clear hb)))
   go_ret
   exact er (bbw1 HB GE218)
  ·replace c6 := Bool.eq_false_iff.mpr c6
   subst c6
   replace H := ifF H
   obtain rfl := Option.some.inj H
   go_enter Try.func71, Try.ntmps71
   go_wp2_with (first | ((with_reducible refine gd 3 rfl ?_); refine bx #[.int .i64 a1_0, .int .i64 a1_1, .int .i64 a1_2, .int .i64 a1_3] 44 ?_; intro gb218 hg w13 BK218 hb; have GE218 := ngw0 hg HB; replace HB := bS0 HB hb; clear hb hg) | ((with_reducible refine gate_callee (f := 69) rfl ?_); refine gl 6 Try.func69 #[.int .i64 a0] ?_; (with_reducible refine (spec_IsFrame.calls _ _ _ A3.out).mono ?_); rintro e w' ⟨rfl, ⟨nd, rfl⟩⟩; refine ⟨_, rfl, ?_⟩; have hcz14_0 : w13.cell? ⟨gb218, 0, none⟩ = some (.int .i64 a1_0) := bcl BK218 0; have hcz14_1 : w13.cell? ⟨gb218, 1, none⟩ = some (.int .i64 a1_1) := bcl BK218 1; have hcz14_2 : w13.cell? ⟨gb218, 2, none⟩ = some (.int .i64 a1_2) := bcl BK218 2; have hcz14_3 : w13.cell? ⟨gb218, 3, none⟩ = some (.int .i64 a1_3) := bcl BK218 3; have hfz14_0 := blk_frozen BK218.out 0; have hfz14_1 := blk_frozen BK218.out 1; have hfz14_2 := blk_frozen BK218.out 2; have hfz14_3 := blk_frozen BK218.out 3) | (go_at_call 92; (with_reducible refine (spec_IsMat.calls _ _ _ _ _ _ A5.out).mono ?_); rintro e w15 ⟨rfl, hb⟩; replace BK218 := bB BK218 hb; replace HB := bS1 HB GE218 hb; (try clear hb)))
   go_ret
   exact er (bbw1 HB GE218)
 ·replace c4 := Bool.eq_false_iff.mpr c4
  subst c4
  replace H := ifF H
  obtain rfl := Option.some.inj H
  go_enter Try.func71, Try.ntmps71
  go_wp2_with (first | ((with_reducible refine gd 3 rfl ?_); refine bx #[.int .i64 a1_0, .int .i64 a1_1, .int .i64 a1_2, .int .i64 a1_3] 44 ?_; intro gb218 hg w16 BK218 hb; have GE218 := ngw0 hg HB; replace HB := bS0 HB hb; clear hb hg) | ((with_reducible refine gate_callee (f := 69) rfl ?_); refine gl 6 Try.func69 #[.int .i64 a0] ?_; (with_reducible refine (spec_IsFrame.calls _ _ _ A3.out).mono ?_); rintro e w' ⟨rfl, ⟨nd, rfl⟩⟩; refine ⟨_, rfl, ?_⟩))
  go_ret
  exact er (bbw1 HB GE218)
/-! ### spec_l03Basis: function 59 -/
def spec_l03Basis.f (a0_0 : Int) (a0_1 : Int) (a0_2 : Int) : Option ((List (S46))) := some (([(⟨a0_0, 0⟩ : S46), (⟨a0_1, a0_2⟩ : S46)] : List (S46)))
set_option maxHeartbeats 8000000 in
set_option maxRecDepth 100000 in
theorem spec_l03Basis.calls (a0_0 : Int) (a0_1 : Int) (a0_2 : Int) (r : List (S46)) (w : World) (h : spec_l03Basis.f a0_0 a0_1 a0_2 = some r) :
  Calls Try.prog 59 #[.agg #[.int .i64 a0_0, .int .i64 a0_1, .int .i64 a0_2]] w fun e w' => ∃ v0_ : Value, e = .returned (v0_) ∧ Kd.R k46 46 w' w.heap.size (fun _ => True) v0_ r ∧ Below w.heap.size w w' := by
 have hu29 := Try.underlying29
 have hu46 := Try.underlying46
 have HB := asd (Below.refl w.heap.size w)
 have H : (some (([(⟨a0_0, 0⟩ : S46), (⟨a0_1, a0_2⟩ : S46)] : List (S46)))) = some r := h
 clear h
 obtain ⟨y223, hy223⟩ : ∃ y_ : List (S46), y_ = (([(⟨a0_0, 0⟩ : S46), (⟨a0_1, a0_2⟩ : S46)] : List (S46))) := ⟨_, rfl⟩
 replace H : (some y223) = some r := by first | (rw [hy223]; with_reducible exact H) | (have H2_ := (Option.bind_some _ _).symm.trans H; rw [hy223]; with_reducible exact H2_) | (have H2_ := (Option.bind_some _ _).symm.trans H; with_reducible exact H2_) | with_reducible exact H | (rw [hy223]; exact H) | exact H
 have Ny223 := Aside0.mk hy223
 clear hy223
 obtain rfl := Option.some.inj H
 go_enter Try.func59, Try.ntmps59
 go_wp2_with (first | ((with_reducible refine gd 1 rfl ?_); refine bx #[.int .i64 a0_0, .int .i64 a0_1, .int .i64 a0_2] 29 ?_; intro gb222 hg w2 BK222 hb; have GE222 := ngw0 hg HB; replace HB := bS0 HB hb; clear hb hg; obtain ⟨hcz3_0, hcz3_1, hcz3_2, hfz3_0, hfz3_1, hfz3_2⟩ := bz3 BK222) | ((with_reducible refine gd 11 rfl ?_); refine Kd.R_lit k46 _ 46 ?hg (N := 11) ?hd (xs := ([(⟨a0_0, 0⟩ : S46), (⟨a0_1, a0_2⟩ : S46)] : List (S46))) (inner := [.int .i64 a0_0, .int .i64 0, .int .i64 a0_1, .int .i64 a0_2]) (ok := fun _ => True) (okp := fun _ => True) ?hr ?hp (fun _ hk => hk) trivial (Below.refl _ _) (Nat.le_refl _) (by simp) ?_; (case hd => rfl); (case hg => rfl); (case hr => first | (go_simp; done) | (go_simp; rfl)); (case hp => exact (Reps.c2 (show Kd.M k46 _ _ _ (⟨a0_0, 0⟩ : S46) [.int .i64 a0_0, .int .i64 0] from (k46_mkM _ _ _ (⟨a0_0, 0⟩ : S46) )) (Reps.c2 (show Kd.M k46 _ _ _ (⟨a0_1, a0_2⟩ : S46) [.int .i64 a0_1, .int .i64 a0_2] from (k46_mkM _ _ _ (⟨a0_1, a0_2⟩ : S46) )) (Reps.none _ _)))); intro v224 w4 ho5 hb hg_ hnew_; clear hg_ hnew_; (first | rw [← Ny223.out] at ho5 | (simp only [Int.reduceToNat] at ho5; rw [← Ny223.out] at ho5)); have HO225 := asd (Kd.R_lower ho5 (bsz1 HB GE222)); replace BK222 := bB BK222 hb; replace HB := bS1 HB GE222 hb; clear hb ho5))
 go_ret
 exact ⟨_, by first | rfl | (simp [errW_none, errW_some] <;> rfl) | (simp [*, errW_none, errW_some] <;> rfl), by (with_reducible repeat (first | apply Kd.R_alloc | apply Kd.R_drewN | apply Kd.R_drew)); exact HO225.out, bbw1 HB GE222⟩
/-! ### spec_l02Apply: function 79 -/
def spec_l02Apply.f (a0_0 : Int) (a0_1 : Int) (a0_2 : Int) (a0_3 : Int) (a1_0 : Int) (a1_1 : Int) : Option (Int × Int) := some (wrap64 ((wrap64 (a0_0 * a1_0)) + (wrap64 (a0_1 * a1_1))), wrap64 ((wrap64 (a0_2 * a1_0)) + (wrap64 (a0_3 * a1_1))))
set_option maxHeartbeats 8000000 in
set_option maxRecDepth 100000 in
theorem spec_l02Apply.calls (a0_0 : Int) (a0_1 : Int) (a0_2 : Int) (a0_3 : Int) (a1_0 : Int) (a1_1 : Int) (r1 : Int) (r2 : Int) (w : World) (h : spec_l02Apply.f a0_0 a0_1 a0_2 a0_3 a1_0 a1_1 = some (r1, r2)) :
  Calls Try.prog 79 #[.agg #[.int .i64 a0_0, .int .i64 a0_1, .int .i64 a0_2, .int .i64 a0_3], .agg #[.int .i64 a1_0, .int .i64 a1_1]] w fun e w' => e = .returned (.agg #[.int .i64 r1, .int .i64 r2]) ∧ Below w.heap.size w w' := by
 have hu44 := Try.underlying44
 have hu46 := Try.underlying46
 have HB := asd (Below.refl w.heap.size w)
 have H : (some (wrap64 ((wrap64 (a0_0 * a1_0)) + (wrap64 (a0_1 * a1_1))), wrap64 ((wrap64 (a0_2 * a1_0)) + (wrap64 (a0_3 * a1_1))))) = some (r1, r2) := h
 clear h
 simp only [Option.some.injEq, Prod.mk.injEq] at H
 obtain ⟨rfl, rfl⟩ := H
 go_enter Try.func79, Try.ntmps79
 go_wp2_with (first | ((with_reducible refine gd 2 rfl ?_); refine bx #[.int .i64 a0_0, .int .i64 a0_1, .int .i64 a0_2, .int .i64 a0_3] 44 ?_; intro gb226 hg w3 BK226 hb; have GE226 := ngw0 hg HB; replace HB := bS0 HB hb; clear hb hg) | ((with_reducible refine gd 3 rfl ?_); refine bx #[.int .i64 a1_0, .int .i64 a1_1] 46 ?_; intro gb227 hg w4 BK227 hb; have GE227 := ngw1 hg HB GE226; replace HB := bS1 HB GE226 hb; have NB226_227 := nlt hg BK226; have NB227_226 := nsy (nlt hg BK226); replace BK226 := bB BK226 hb; clear hb hg) | ((with_reducible refine gd 4 rfl ?_); refine bx #[.int .i64 0, .int .i64 0] 46 ?_; intro gb228 hg w5 BK228 hb; have GE228 := ngw2 hg HB GE226 GE227; replace HB := bS2 HB GE226 GE227 hb; have NB226_228 := nlt hg BK226; have NB228_226 := nsy (nlt hg BK226); replace BK226 := bB BK226 hb; have NB227_228 := nlt hg BK227; have NB228_227 := nsy (nlt hg BK227); replace BK227 := bB BK227 hb; clear hb hg; have hnb6 := NB226_227.out; have hnc6 := NB227_226.out; have hnb7 := NB226_228.out; have hnc7 := NB228_226.out; obtain ⟨hcz8_0, hcz8_1, hcz8_2, hcz8_3, hfz8_0, hfz8_1, hfz8_2, hfz8_3⟩ := bz4 BK226; have hnb9 := NB227_228.out; have hnc9 := NB228_227.out; obtain ⟨hcz10_0, hcz10_1, hfz10_0, hfz10_1⟩ := bz2 BK227; obtain ⟨hcz11_0, hcz11_1, hfz11_0, hfz11_1⟩ := bz2 BK228))
 refine bodyPost_ret (results_cell_row rfl _ _ gb228 46 #[.int .i64 (wrap64 ((wrap64 (a0_0 * a1_0)) + (wrap64 (a0_1 * a1_1)))), .int .i64 (wrap64 ((wrap64 (a0_2 * a1_0)) + (wrap64 (a0_3 * a1_1))))] (0, 0) _ rfl (bq0 BK228) Try.underlying46 rfl (by kernel_rfl)) rfl ?_
 exact er (bbw3 HB GE226 GE227 GE228)
/-! ### spec_l01Scale: function 63 -/
def spec_l01Scale.f (a0_0 : Int) (a0_1 : Int) (a1 : Int) : Option (Int × Int) := some (wrap64 (a1 * a0_0), wrap64 (a1 * a0_1))
set_option maxHeartbeats 8000000 in
set_option maxRecDepth 100000 in
theorem spec_l01Scale.calls (a0_0 : Int) (a0_1 : Int) (a1 : Int) (r1 : Int) (r2 : Int) (w : World) (h : spec_l01Scale.f a0_0 a0_1 a1 = some (r1, r2)) :
  Calls Try.prog 63 #[.agg #[.int .i64 a0_0, .int .i64 a0_1], .int .i64 a1] w fun e w' => e = .returned (.agg #[.int .i64 r1, .int .i64 r2]) ∧ Below w.heap.size w w' := by
 have hu46 := Try.underlying46
 have HB := asd (Below.refl w.heap.size w)
 have H : (some (wrap64 (a1 * a0_0), wrap64 (a1 * a0_1))) = some (r1, r2) := h
 clear h
 simp only [Option.some.injEq, Prod.mk.injEq] at H
 obtain ⟨rfl, rfl⟩ := H
 go_enter Try.func63, Try.ntmps63
 go_wp2_with (first | ((with_reducible refine gd 2 rfl ?_); refine bx #[.int .i64 a0_0, .int .i64 a0_1] 46 ?_; intro gb229 hg w3 BK229 hb; have GE229 := ngw0 hg HB; replace HB := bS0 HB hb; clear hb hg) | ((with_reducible refine gd 4 rfl ?_); refine bx #[.int .i64 0, .int .i64 0] 46 ?_; intro gb230 hg w4 BK230 hb; have GE230 := ngw1 hg HB GE229; replace HB := bS1 HB GE229 hb; have NB229_230 := nlt hg BK229; have NB230_229 := nsy (nlt hg BK229); replace BK229 := bB BK229 hb; clear hb hg; have hnb5 := NB229_230.out; have hnc5 := NB230_229.out; obtain ⟨hcz6_0, hcz6_1, hfz6_0, hfz6_1⟩ := bz2 BK229; obtain ⟨hcz7_0, hcz7_1, hfz7_0, hfz7_1⟩ := bz2 BK230))
 refine bodyPost_ret (results_cell_row rfl _ _ gb230 46 #[.int .i64 (wrap64 (a1 * a0_0)), .int .i64 (wrap64 (a1 * a0_1))] (0, 0) _ rfl (bq0 BK230) Try.underlying46 rfl (by kernel_rfl)) rfl ?_
 exact er (bbw2 HB GE229 GE230)
/-! ### spec_l01Mod: function 90 -/
def spec_l01Mod.f (a0 : Int) (a1 : Int) : Option (Int) := if a1 = 0 then (none) else (if (Int.tmod a0 a1) < 0 then (some (wrap64 ((Int.tmod a0 a1) + a1))) else (some (Int.tmod a0 a1)))
set_option maxHeartbeats 8000000 in
set_option maxRecDepth 100000 in
theorem spec_l01Mod.calls (a0 : Int) (a1 : Int) (r : Int) (w : World) (h : spec_l01Mod.f a0 a1 = some r) :
  Calls Try.prog 90 #[.int .i64 a0, .int .i64 a1] w fun e w' => e = .returned (.int .i64 r) ∧ Drawn0 w w' := by
 have H : (if a1 = 0 then (none) else (if (Int.tmod a0 a1) < 0 then (some (wrap64 ((Int.tmod a0 a1) + a1))) else (some (Int.tmod a0 a1)))) = some r := h
 clear h
 by_cases c3 : a1 = 0
 ·rw [if_pos c3] at H
  exact absurd H (by simp)
 rw [if_neg c3] at H
 have c3b0 : (a1 == 0) = false := beq_eq_false_iff_ne.mpr c3
 have c3b1 : (a1 != 0) = true := bne_iff_ne.mpr c3
 by_cases c4 : (Int.tmod a0 a1) < 0
 rw [if_pos c4] at H
 have c4b0 := decide_eq_true c4
 clear c4
 obtain rfl := Option.some.inj H
 rotate_left
 rw [if_neg c4] at H
 have c4b0 := decide_eq_false c4
 clear c4
 obtain rfl := Option.some.inj H
 rotate_left
 all_goals
  go_enter Try.func90, Try.ntmps90
  go_wp2
  go_ret
  exact ⟨by first | rfl | (simp; done) | (simp [*]; done), by repeat (first | exact Drawn0.refl _ | apply Drawn0.step)⟩
/-! ### spec_l01Divisor: function 106 -/
def spec_l01Divisor.f : Nat → Int → Int → Option (Int)
 | 0, _, _ => none
 | k + 1, a0, a1 => if a1 = 0 then (some (mx a0 (wrap64 (-a0)))) else ((spec_l01Divisor.f k a1 (Int.tmod a0 a1)).bind fun t231 => (some t231))
set_option maxHeartbeats 8000000 in
set_option maxRecDepth 100000 in
theorem spec_l01Divisor.calls (k : Nat) : ∀ (a0 : Int) (a1 : Int) (r : Int) (w : World) (h : spec_l01Divisor.f k a0 a1 = some r),
  Calls Try.prog 106 #[.int .i64 a0, .int .i64 a1] w fun e w' => e = .returned (.int .i64 r) ∧ Below w.heap.size w w' := by
 induction k using Nat.strongRecOn with
 | _ k ih =>
 intro a0 a1 r w h
 cases k with
 | zero => exact absurd h (by simp [spec_l01Divisor.f])
 | succ k =>
 simp only [spec_l01Divisor.f] at h
 have HB := asd (Below.refl w.heap.size w)
 have H : (if a1 = 0 then (some (mx a0 (wrap64 (-a0)))) else ((spec_l01Divisor.f k a1 (Int.tmod a0 a1)).bind fun t231 => (some t231))) = some r := h
 clear h
 by_cases c3 : a1 = 0
 ·rw [if_pos c3] at H
  have c3b0 : (a1 == 0) = true := beq_iff_eq.mpr c3
  have c3b1 : (a1 != 0) = false := bne_eq_false_iff_eq.mpr c3
  clear c3
  obtain ⟨ji4, hji4⟩ : ∃ j_ : Int, (mx a0 (wrap64 (-a0))) = j_ := ⟨_, rfl⟩
  replace H : (some ji4) = some r := by first | (rw [hji4] at H; first | done | exact H) | (simp only [hji4] at H ⊢; exact H)
  have hji4_ : (if a0 < (wrap64 (-a0)) then (wrap64 (-a0)) else a0) = ji4 := hji4
  obtain rfl := Option.some.inj H
  go_enter Try.func106, Try.ntmps106
  go_wp2
  go_ret
  exact ⟨by first | rfl | (simp [errW_none, errW_some] <;> rfl) | (simp only [← hji4]; first | rfl | (simp [errW_none, errW_some] <;> rfl)) | (simp [*, errW_none, errW_some] <;> rfl), bbw0 HB⟩
 ·rw [if_neg c3] at H
  have c3b0 : (a1 == 0) = false := beq_eq_false_iff_ne.mpr c3
  have c3b1 : (a1 != 0) = true := bne_iff_ne.mpr c3
  obtain ⟨t231, A5, H⟩ := ob H
  try dsimp only at H
  obtain rfl := Option.some.inj H
  go_enter Try.func106, Try.ntmps106
  go_wp2_with (first | ((with_reducible refine gate_callee (f := 106) rfl ?_); refine gl 15 Try.func106 #[.int .i64 a1, .int .i64 (Int.tmod a0 a1)] ?_; (with_reducible refine (ih k (by omega) a1 (Int.tmod a0 a1) t231 _ A5.out).mono ?_); rintro e w6 ⟨rfl, hb⟩; refine ⟨_, rfl, ?_⟩; replace HB := bS0 HB hb; (try clear hb)))
  go_ret
  exact er (bbw0 HB)
/-! ### spec_l03Hermite: function 94 -/
mutual
def spec_l03Hermite.l0 : Nat → List (S46) → Int → Int → Int → Int → Option (Int × Int × Int)
 | 0, _, _, _, _, _ => none
 | k + 1, x0, x4, x5, x234000, x234001 => if x5 < (x0.length : Int) then (if 0 ≤ x5 then (spec_l03Hermite.l1 k x0 x4 x5 x234000 x234001 ((rd_T46 x0 x5).f0) ((rd_T46 x0 x5).f1)) else (none)) else (if x234001 < 0 then ((spec_l01Scale.f x234000 x234001 (-1)).bind fun bt239 => (if x4 > 0 then ((spec_l01Mod.f bt239.1 x4).bind fun t241 => (some (x4, t241, bt239.2))) else (some (x4, bt239.1, bt239.2)))) else (if x4 > 0 then ((spec_l01Mod.f x234000 x4).bind fun t242 => (some (x4, t242, x234001))) else (some (x4, x234000, x234001))))
def spec_l03Hermite.l1 : Nat → List (S46) → Int → Int → Int → Int → Int → Int → Option (Int × Int × Int)
 | 0, _, _, _, _, _, _, _ => none
 | k + 1, x0, x4, x5, x234000, x234001, x236000, x236001 => if x236001 = 0 then ((spec_l01Divisor.f k x4 x236000).bind fun t237 => (if t237 > 0 then ((spec_l01Mod.f x234000 t237).bind fun t238 => (spec_l03Hermite.l0 k x0 t237 (wrap64 (x5 + 1)) t238 x234001)) else (spec_l03Hermite.l0 k x0 t237 (wrap64 (x5 + 1)) x234000 x234001))) else (spec_l03Hermite.l1 k x0 x4 x5 x236000 x236001 (wrap64 (x234000 - (wrap64 ((wrap64 (Int.tdiv x234001 x236001)) * x236000)))) (wrap64 (x234001 - (wrap64 ((wrap64 (Int.tdiv x234001 x236001)) * x236001)))))
end
def spec_l03Hermite.f (k : Nat) (l0 : List (S46)) : Option (Int × Int × Int) := spec_l03Hermite.l0 k l0 0 0 0 0
set_option maxHeartbeats 8000000 in
set_option maxRecDepth 100000 in
theorem spec_l03Hermite.calls (k : Nat) (A0 : Option Addr) (c0 : Nat) (l0 : List (S46)) (r1 : Int) (r2 : Int) (r3 : Int) (w : World) (hr0 : Kd.C k46 w A0 l0.length l0) (hc0 : l0.length ≤ c0) (h : spec_l03Hermite.f k l0 = some (r1, r2, r3)) :
  Calls Try.prog 94 #[.slice A0 l0.length c0] w fun e w' => e = .returned (.agg #[.int .i64 r1, .int .i64 r2, .int .i64 r3]) ∧ Below w.heap.size w w' := by
 have hu29 := Try.underlying29
 have hu46 := Try.underlying46
 have HR0 := Aside0.mk hr0
 have HC0 := Aside0.mk hc0
 clear hr0 hc0
 have HB := asd (Below.refl w.heap.size w)
 have H : (spec_l03Hermite.l0 k l0 0 0 0 0) = some (r1, r2, r3) := h
 clear h
 have H' := Aside0.mk H
 clear H
 go_enter Try.func94, Try.ntmps94
 go_wp2_with (first | ((with_reducible refine gd 2 rfl ?_); refine bx #[.int .i64 0, .int .i64 0, .int .i64 0] 29 ?_; intro gb232 hg w2 BK232 hb; have GE232 := ngw0 hg HB; replace HB := bS0 HB hb; clear hb hg) | ((with_reducible refine gd 3 rfl ?_); refine bx #[.int .i64 0, .int .i64 0] 46 ?_; intro gb233 hg w3 BK233 hb; have GE233 := ngw1 hg HB GE232; replace HB := bS1 HB GE232 hb; have NB232_233 := nlt hg BK232; have NB233_232 := nsy (nlt hg BK232); replace BK232 := bB BK232 hb; clear hb hg; have hnb4 := NB233_232.out; have hnc4 := NB232_233.out; obtain ⟨hcz5_0, hcz5_1, hfz5_0, hfz5_1⟩ := bz2 BK233))
 go_loopg [4, 5] k (fun kq v4 v5 w' => ∃ (x4_1 : Int) (x5_1 : Int) (x234000_1 : Int) (x234001_1 : Int), v4 = .int .i64 x4_1 ∧ v5 = .int .i64 x5_1 ∧ Aside0 (spec_l03Hermite.l0 kq l0 x4_1 x5_1 x234000_1 x234001_1 = some (r1, r2, r3)) ∧ Aside0 (kq ≤ k) ∧ Aside0 (w'.heap[gb232]? = some (.cells #[.int .i64 0, .int .i64 0, .int .i64 0] 29 (0, 0))) ∧ Aside0 (w'.heap[gb233]? = some (.cells #[.int .i64 x234000_1, .int .i64 x234001_1] 46 (0, 0))) ∧ Aside0 (Below w.heap.size w w'))
 case atStart => exact ⟨(0), (0), (0), (0), (by first | rfl | (simp; done) | (simp [*]; done)), (by first | rfl | (simp; done) | (simp [*]; done)), H', ⟨Nat.le_refl _⟩, ⟨bq1 BK232 NB232_233⟩, ⟨bq0 BK233⟩, ⟨bbw2 HB GE232 GE233⟩⟩
 case round =>
  clear H'
  try clear p2
  try clear c4
  try clear hcz5_0
  try clear hcz5_1
  try clear hfz5_0
  try clear hfz5_1
  obtain ⟨x4_1, x5_1, x234000_1, x234001_1, rfl, rfl, HA, HK1, BK232, BK233, HB⟩ := hrel
  cases gk with
  | zero => exact absurd HA.out (by simp [spec_l03Hermite.l0])
  | succ k1 =>
   have H := HA.out
   clear HA
   simp only [spec_l03Hermite.l0] at H
   by_cases c6 : x5_1 < (l0.length : Int)
   ·rw [if_pos c6] at H
    have c6b0 := decide_eq_true c6
    clear c6
    by_cases c7 : 0 ≤ x5_1
    ·rw [if_pos c7] at H
     have c7b0 := decide_eq_true c7
     clear c7
     have H' := Aside0.mk H
     clear H
     obtain ⟨p234, q234, ad234, e234, hx234_0, hx234_1⟩ := at_T46x HR0.out HB x5_1
     cases e234
     go_wp2_with (first | ((with_reducible refine gd 6 rfl ?_); refine bx #[.int .i64 0, .int .i64 0] 46 ?_; intro gb235 hg w8 BK235 hb; have GE235 := ngw2 hg HB GE232 GE233; replace HB := bS2 HB GE232 GE233 hb; have NB232_235 := nlt hg BK232; have NB235_232 := nsy (nlt hg BK232); replace BK232 := bB BK232 hb; have NB233_235 := nlt hg BK233; have NB235_233 := nsy (nlt hg BK233); replace BK233 := bB BK233 hb; clear hb hg; have hnb9 := NB235_232.out; have hnc9 := NB232_235.out; have hnb10 := NB235_233.out; have hnc10 := NB233_235.out; obtain ⟨hcz11_0, hcz11_1, hfz11_0, hfz11_1⟩ := bz2 BK235))
     go_loopg [] k1 (fun kq w' => ∃ (x234000_2 : Int) (x234001_2 : Int) (x236000_2 : Int) (x236001_2 : Int), Aside0 (spec_l03Hermite.l1 kq l0 x4_1 x5_1 x234000_2 x234001_2 x236000_2 x236001_2 = some (r1, r2, r3)) ∧ Aside0 (kq ≤ k1) ∧ Aside0 (w'.heap[gb232]? = some (.cells #[.int .i64 0, .int .i64 0, .int .i64 0] 29 (0, 0))) ∧ Aside0 (w'.heap[gb233]? = some (.cells #[.int .i64 x234000_2, .int .i64 x234001_2] 46 (0, 0))) ∧ Aside0 (w'.heap[gb235]? = some (.cells #[.int .i64 x236000_2, .int .i64 x236001_2] 46 (0, 0))) ∧ Aside0 (Below w.heap.size w w'))
     case atStart => exact ⟨(x234000_1), (x234001_1), ((rd_T46 l0 x5_1).f0), ((rd_T46 l0 x5_1).f1), H', ⟨Nat.le_refl _⟩, ⟨bq1 BK232 NB232_235⟩, ⟨bq1 BK233 NB233_235⟩, ⟨bq0 BK235⟩, ⟨bbw3 HB GE232 GE233 GE235⟩⟩
     case round =>
      clear H'
      try clear c1
      try clear p2
      try clear q2
      try clear hx2
      try clear c4
      try clear c6
      try clear c6b0
      try clear c7
      try clear c7b0
      try clear c9
      try clear c10
      try clear hcz11_0
      try clear hcz11_1
      try clear hcz5_0
      try clear hcz5_1
      try clear hfz11_0
      try clear hfz11_1
      try clear hfz5_0
      try clear hfz5_1
      try clear hx234_0
      try clear hx234_1
      try clear p2
      try clear p234
      try clear q234
      obtain ⟨x234000_2, x234001_2, x236000_2, x236001_2, HA, HK2, BK232, BK233, BK235, HB⟩ := hrel
      cases gk with
      | zero => exact absurd HA.out (by simp [spec_l03Hermite.l1])
      | succ k2 =>
       have H := HA.out
       clear HA
       simp only [spec_l03Hermite.l1] at H
       by_cases c12 : x236001_2 = 0
       ·rw [if_pos c12] at H
        have c12b0 : (x236001_2 == 0) = true := beq_iff_eq.mpr c12
        have c12b1 : (x236001_2 != 0) = false := bne_eq_false_iff_eq.mpr c12
        clear c12
        obtain ⟨t237, A13, H⟩ := ob H
        try dsimp only at H
        by_cases c14 : t237 > 0
        ·rw [if_pos c14] at H
         have c14b0 : decide (0 < t237) = true := decide_eq_true c14
         clear c14
         obtain ⟨t238, A15, H⟩ := ob H
         try dsimp only at H
         have H' := Aside0.mk H
         clear H
         have hnb16 := NB235_232.out
         have hnc16 := NB232_235.out
         have hnb17 := NB235_233.out
         have hnc17 := NB233_235.out
         obtain ⟨hcz18_0, hcz18_1, hfz18_0, hfz18_1⟩ := bz2 BK235
         go_wp2_with (first | ((with_reducible refine gate_callee (f := 106) rfl ?_); refine gl 48 Try.func106 #[.int .i64 x4_1, .int .i64 x236000_2] ?_; (with_reducible refine (spec_l01Divisor.calls _ _ _ _ _ A13.out).mono ?_); rintro e w19 ⟨rfl, hb⟩; refine ⟨_, rfl, ?_⟩; replace BK232 := bB BK232 hb; replace BK233 := bB BK233 hb; replace BK235 := bB BK235 hb; replace HB := bS3 HB GE232 GE233 GE235 hb; (try clear hb); have hnb20 := NB233_232.out; have hnc20 := NB232_233.out; obtain ⟨hcz21_0, hcz21_1, hfz21_0, hfz21_1⟩ := bz2 BK233) | ((with_reducible refine gate_callee (f := 90) rfl ?_); refine gl 54 Try.func90 #[.int .i64 x234000_2, .int .i64 t237] ?_; (with_reducible refine (spec_l01Mod.calls _ _ _ _ A15.out).mono ?_); rintro e w' ⟨rfl, ⟨nd, rfl⟩⟩; refine ⟨_, rfl, ?_⟩; (try (rw [drewN_self w19]; generalize hq_ : World.drewN w19 _ = w19; have n0_ : Aside0 (w19.heap[gb232]? = some (.cells #[.int .i64 0, .int .i64 0, .int .i64 0] 29 (0, 0))) := ⟨by rw [← hq_]; exact (bkp BK232)⟩; have n1_ : Aside0 (w19.heap[gb233]? = some (.cells #[.int .i64 x234000_2, .int .i64 x234001_2] 46 (0, 0))) := ⟨by rw [← hq_]; exact (bkp BK233)⟩; have n2_ : Aside0 (w19.heap[gb235]? = some (.cells #[.int .i64 x236000_2, .int .i64 x236001_2] 46 (0, 0))) := ⟨by rw [← hq_]; exact (bkp BK235)⟩; have n3_ : Aside0 (Below w.heap.size w w19) := ⟨by rw [← hq_]; exact (bbw3 HB GE232 GE233 GE235)⟩; clear BK232 BK233 BK235 HB hq_; have BK232 := n0_; have BK233 := n1_; have BK235 := n2_; have HB := n3_; clear n0_ n1_ n2_ n3_)); have hcz22_0 : w19.cell? ⟨gb233, 0, none⟩ = some (.int .i64 x234000_2) := bcl BK233 0; have hcz22_1 : w19.cell? ⟨gb233, 1, none⟩ = some (.int .i64 x234001_2) := bcl BK233 1; have hfz22_0 := blk_frozen BK233.out 0; have hfz22_1 := blk_frozen BK233.out 1))
         go_roundg k2
         case measure => have := HK1.out; have := HK2.out; omega
         case rel => exact ⟨(t237), (wrap64 (x5_1 + 1)), (t238), (x234001_2), (by first | rfl | (simp; done) | (simp [*]; done)), (by first | rfl | (simp; done) | (simp [*]; done)), H', ⟨by have := HK1.out; have := HK2.out; omega⟩, ⟨bq1 BK232 NB232_233⟩, ⟨bq0 BK233⟩, ⟨bbw3 HB GE232 GE233 GE235⟩⟩
        ·rw [if_neg c14] at H
         have c14b0 : decide (0 < t237) = false := decide_eq_false c14
         clear c14
         have H' := Aside0.mk H
         clear H
         have hnb23 := NB235_232.out
         have hnc23 := NB232_235.out
         have hnb24 := NB235_233.out
         have hnc24 := NB233_235.out
         obtain ⟨hcz25_0, hcz25_1, hfz25_0, hfz25_1⟩ := bz2 BK235
         go_wp2_with (first | ((with_reducible refine gate_callee (f := 106) rfl ?_); refine gl 48 Try.func106 #[.int .i64 x4_1, .int .i64 x236000_2] ?_; (with_reducible refine (spec_l01Divisor.calls _ _ _ _ _ A13.out).mono ?_); rintro e w26 ⟨rfl, hb⟩; refine ⟨_, rfl, ?_⟩; replace BK232 := bB BK232 hb; replace BK233 := bB BK233 hb; replace BK235 := bB BK235 hb; replace HB := bS3 HB GE232 GE233 GE235 hb; (try clear hb)))
         go_roundg k2
         case measure => have := HK1.out; have := HK2.out; omega
         case rel => exact ⟨(t237), (wrap64 (x5_1 + 1)), (x234000_2), (x234001_2), (by first | rfl | (simp; done) | (simp [*]; done)), (by first | rfl | (simp; done) | (simp [*]; done)), H', ⟨by have := HK1.out; have := HK2.out; omega⟩, ⟨bkp BK232⟩, ⟨bkp BK233⟩, ⟨bbw3 HB GE232 GE233 GE235⟩⟩
       ·rw [if_neg c12] at H
        have c12b0 : (x236001_2 == 0) = false := beq_eq_false_iff_ne.mpr c12
        have c12b1 : (x236001_2 != 0) = true := bne_iff_ne.mpr c12
        have H' := Aside0.mk H
        clear H
        have hnb27 := NB235_232.out
        have hnc27 := NB232_235.out
        have hnb28 := NB235_233.out
        have hnc28 := NB233_235.out
        obtain ⟨hcz29_0, hcz29_1, hfz29_0, hfz29_1⟩ := bz2 BK235
        have hnb30 := NB233_232.out
        have hnc30 := NB232_233.out
        obtain ⟨hcz31_0, hcz31_1, hfz31_0, hfz31_1⟩ := bz2 BK233
        go_wp2_with (first | ((with_reducible refine gd 8 rfl ?_); refine bx #[.int .i64 0, .int .i64 0] 46 ?_; intro gb236 hg w32 BK236 hb; have GE236 := ngw3 hg HB GE232 GE233 GE235; replace HB := bS3 HB GE232 GE233 GE235 hb; have NB232_236 := nlt hg BK232; have NB236_232 := nsy (nlt hg BK232); replace BK232 := bB BK232 hb; have NB233_236 := nlt hg BK233; have NB236_233 := nsy (nlt hg BK233); replace BK233 := bB BK233 hb; have NB235_236 := nlt hg BK235; have NB236_235 := nsy (nlt hg BK235); replace BK235 := bB BK235 hb; clear hb hg; have hnb33 := NB236_232.out; have hnc33 := NB232_236.out; have hnb34 := NB236_233.out; have hnc34 := NB233_236.out; have hnb35 := NB236_235.out; have hnc35 := NB235_236.out; obtain ⟨hcz36_0, hcz36_1, hfz36_0, hfz36_1⟩ := bz2 BK236; obtain ⟨hcz37_0, hcz37_1, hfz37_0, hfz37_1⟩ := bz2 BK235; obtain ⟨hcz38_0, hcz38_1, hfz38_0, hfz38_1⟩ := bz2 BK233))
        go_roundg k2
        case measure => have := HK1.out; have := HK2.out; omega
        case rel => exact ⟨(x236000_2), (x236001_2), (wrap64 (x234000_2 - (wrap64 ((wrap64 (Int.tdiv x234001_2 x236001_2)) * x236000_2)))), (wrap64 (x234001_2 - (wrap64 ((wrap64 (Int.tdiv x234001_2 x236001_2)) * x236001_2)))), H', ⟨by have := HK1.out; have := HK2.out; omega⟩, ⟨bq3 BK232 NB232_235 NB232_233 NB232_236⟩, ⟨bq2 BK233 NB233_235 NB233_236⟩, ⟨bq2 BK235 NB235_233 NB235_236⟩, ⟨bbw4 HB GE232 GE233 GE235 GE236⟩⟩
    ·rw [if_neg c7] at H
     exact absurd H (by simp)
   ·rw [if_neg c6] at H
    have c6b0 := decide_eq_false c6
    clear c6
    by_cases c39 : x234001_1 < 0
    ·rw [if_pos c39] at H
     have c39b0 := decide_eq_true c39
     clear c39
     obtain ⟨⟨t239, t240⟩, A40, H⟩ := ob H
     try dsimp only at H
     by_cases c41 : x4_1 > 0
     ·rw [if_pos c41] at H
      have c41b0 : decide (0 < x4_1) = true := decide_eq_true c41
      clear c41
      obtain ⟨t241, A42, H⟩ := ob H
      try dsimp only at H
      simp only [Option.some.injEq, Prod.mk.injEq] at H
      obtain ⟨rfl, rfl, rfl⟩ := H
      have hnb43 := NB233_232.out
      have hnc43 := NB232_233.out
      obtain ⟨hcz44_0, hcz44_1, hfz44_0, hfz44_1⟩ := bz2 BK233
      go_wp2_with (first | ((with_reducible refine gate_callee (f := 63) rfl ?_); refine gl 60 Try.func63 #[.agg #[.int .i64 x234000_1, .int .i64 x234001_1], .int .i64 (-1)] ?_; (with_reducible refine (spec_l01Scale.calls _ _ _ _ _ _ A40.out).mono ?_); rintro e w45 ⟨rfl, hb⟩; refine ⟨_, rfl, ?_⟩; replace BK232 := bB BK232 hb; replace BK233 := bB BK233 hb; replace HB := bS2 HB GE232 GE233 hb; (try clear hb); obtain ⟨hcz46_0, hcz46_1, hfz46_0, hfz46_1⟩ := bz2 BK233) | ((with_reducible refine gate_callee (f := 90) rfl ?_); refine gl 66 Try.func90 #[.int .i64 t239, .int .i64 x4_1] ?_; (with_reducible refine (spec_l01Mod.calls _ _ _ _ A42.out).mono ?_); rintro e w' ⟨rfl, ⟨nd, rfl⟩⟩; refine ⟨_, rfl, ?_⟩; have hcz47_0 : w45.cell? ⟨gb232, 0, none⟩ = some (.int .i64 0) := bcl BK232 0; have hcz47_1 : w45.cell? ⟨gb232, 1, none⟩ = some (.int .i64 0) := bcl BK232 1; have hcz47_2 : w45.cell? ⟨gb232, 2, none⟩ = some (.int .i64 0) := bcl BK232 2; have hfz47_0 := blk_frozen BK232.out 0; have hfz47_1 := blk_frozen BK232.out 1; have hfz47_2 := blk_frozen BK232.out 2))
      refine bodyPost_ret (results_cell_row rfl _ _ gb232 29 #[.int .i64 x4_1, .int .i64 t241, .int .i64 t240] (0, 0) _ rfl (bq1 BK232 NB232_233) Try.underlying29 rfl (by kernel_rfl)) rfl ?_
      exact er (bbw2 HB GE232 GE233)
     ·rw [if_neg c41] at H
      have c41b0 : decide (0 < x4_1) = false := decide_eq_false c41
      clear c41
      simp only [Option.some.injEq, Prod.mk.injEq] at H
      obtain ⟨rfl, rfl, rfl⟩ := H
      have hnb48 := NB233_232.out
      have hnc48 := NB232_233.out
      obtain ⟨hcz49_0, hcz49_1, hfz49_0, hfz49_1⟩ := bz2 BK233
      go_wp2_with (first | ((with_reducible refine gate_callee (f := 63) rfl ?_); refine gl 60 Try.func63 #[.agg #[.int .i64 x234000_1, .int .i64 x234001_1], .int .i64 (-1)] ?_; (with_reducible refine (spec_l01Scale.calls _ _ _ _ _ _ A40.out).mono ?_); rintro e w50 ⟨rfl, hb⟩; refine ⟨_, rfl, ?_⟩; replace BK232 := bB BK232 hb; replace BK233 := bB BK233 hb; replace HB := bS2 HB GE232 GE233 hb; (try clear hb); obtain ⟨hcz51_0, hcz51_1, hfz51_0, hfz51_1⟩ := bz2 BK233; obtain ⟨hcz52_0, hcz52_1, hcz52_2, hfz52_0, hfz52_1, hfz52_2⟩ := bz3 BK232))
      refine bodyPost_ret (results_cell_row rfl _ _ gb232 29 #[.int .i64 x4_1, .int .i64 t239, .int .i64 t240] (0, 0) _ rfl (bq1 BK232 NB232_233) Try.underlying29 rfl (by kernel_rfl)) rfl ?_
      exact er (bbw2 HB GE232 GE233)
    ·rw [if_neg c39] at H
     have c39b0 := decide_eq_false c39
     clear c39
     by_cases c53 : x4_1 > 0
     ·rw [if_pos c53] at H
      have c53b0 : decide (0 < x4_1) = true := decide_eq_true c53
      clear c53
      obtain ⟨t242, A54, H⟩ := ob H
      try dsimp only at H
      simp only [Option.some.injEq, Prod.mk.injEq] at H
      obtain ⟨rfl, rfl, rfl⟩ := H
      have hnb55 := NB233_232.out
      have hnc55 := NB232_233.out
      obtain ⟨hcz56_0, hcz56_1, hfz56_0, hfz56_1⟩ := bz2 BK233
      go_wp2_with (first | ((with_reducible refine gate_callee (f := 90) rfl ?_); refine gl 66 Try.func90 #[.int .i64 x234000_1, .int .i64 x4_1] ?_; (with_reducible refine (spec_l01Mod.calls _ _ _ _ A54.out).mono ?_); rintro e w' ⟨rfl, ⟨nd, rfl⟩⟩; refine ⟨_, rfl, ?_⟩; (try (rw [drewN_self wr]; generalize hq_ : World.drewN wr _ = wr; have n0_ : Aside0 (wr.heap[gb232]? = some (.cells #[.int .i64 0, .int .i64 0, .int .i64 0] 29 (0, 0))) := ⟨by rw [← hq_]; exact (bkp BK232)⟩; have n1_ : Aside0 (wr.heap[gb233]? = some (.cells #[.int .i64 x234000_1, .int .i64 x234001_1] 46 (0, 0))) := ⟨by rw [← hq_]; exact (bkp BK233)⟩; have n2_ : Aside0 (Below w.heap.size w wr) := ⟨by rw [← hq_]; exact (bbw2 HB GE232 GE233)⟩; clear BK232 BK233 HB hq_; have BK232 := n0_; have BK233 := n1_; have HB := n2_; clear n0_ n1_ n2_)); have hcz57_0 : wr.cell? ⟨gb233, 0, none⟩ = some (.int .i64 x234000_1) := bcl BK233 0; have hcz57_1 : wr.cell? ⟨gb233, 1, none⟩ = some (.int .i64 x234001_1) := bcl BK233 1; have hfz57_0 := blk_frozen BK233.out 0; have hfz57_1 := blk_frozen BK233.out 1; have hcz58_0 : wr.cell? ⟨gb232, 0, none⟩ = some (.int .i64 0) := bcl BK232 0; have hcz58_1 : wr.cell? ⟨gb232, 1, none⟩ = some (.int .i64 0) := bcl BK232 1; have hcz58_2 : wr.cell? ⟨gb232, 2, none⟩ = some (.int .i64 0) := bcl BK232 2; have hfz58_0 := blk_frozen BK232.out 0; have hfz58_1 := blk_frozen BK232.out 1; have hfz58_2 := blk_frozen BK232.out 2))
      refine bodyPost_ret (results_cell_row rfl _ _ gb232 29 #[.int .i64 x4_1, .int .i64 t242, .int .i64 x234001_1] (0, 0) _ rfl (bq1 BK232 NB232_233) Try.underlying29 rfl (by kernel_rfl)) rfl ?_
      exact er (bbw2 HB GE232 GE233)
     ·rw [if_neg c53] at H
      have c53b0 : decide (0 < x4_1) = false := decide_eq_false c53
      clear c53
      simp only [Option.some.injEq, Prod.mk.injEq] at H
      obtain ⟨rfl, rfl, rfl⟩ := H
      have hnb59 := NB233_232.out
      have hnc59 := NB232_233.out
      obtain ⟨hcz60_0, hcz60_1, hfz60_0, hfz60_1⟩ := bz2 BK233
      obtain ⟨hcz61_0, hcz61_1, hcz61_2, hfz61_0, hfz61_1, hfz61_2⟩ := bz3 BK232
      go_wp2
      refine bodyPost_ret (results_cell_row rfl _ _ gb232 29 #[.int .i64 x4_1, .int .i64 x234000_1, .int .i64 x234001_1] (0, 0) _ rfl (bq0 BK232) Try.underlying29 rfl (by kernel_rfl)) rfl ?_
      exact er (bbw2 HB GE232 GE233)
end Go.Proofs.Ytilbokbfcmeleaa.PA
