/- Walks written by program: each Go function that the law reaches comes to the plain function beside it. -/
import Derived.Test.YtedmadofpdkekaaGreatPAx0
import Derived.Test.YtedmadofpdkekaaGreatPAx1
import Derived.Test.YtedmadofpdkekaaGreatPAx6
namespace Go.Proofs.YtedmadofpdkekaaGreat.PA
open Go.RowKit Go.Proofs.YtedmadofpdkekaaGreatW.PrintWords Go.Proofs.YtedmadofpdkekaaGreatW.PrintLast Go.Proofs.YtedmadofpdkekaaGreatW.PrintMore
attribute [local go_sem] max2_int min2_int max_two min_two max_three min_three max_four min_four   -- for this text's walks alone
set_option linter.unusedVariables false
set_option linter.unusedSimpArgs false

/-! ### spec_l04Keeps: function 96 -/
def spec_l04Keeps.f (a0 : Int) (a1_0 : Int) (a1_1 : Int) (a1_2 : Int) (a1_3 : Int) : Option (Bool) := (spec_l04Norm.f a0 a1_0 a1_2).bind fun t227 => (if t227 = 1 then ((spec_l04Norm.f a0 a1_1 a1_3).bind fun t228 => (if t228 = 1 then ((spec_l01Add.f a1_0 a1_2 a1_1 a1_3).bind fun bt229 => ((spec_l04Norm.f a0 bt229.1 bt229.2).bind fun t231 => (some (t231 == (wrap64 (2 + a0)))))) else (some false))) else (some false))
def spec_l04Keeps.T1 : Bool × List (List Nat × List Nat) := (true, [([], []), ([0], [0]), ([], []), ([2], [2]), ([1, 3], [1, 3]), ([], []), ([5], [5]), ([], []), ([7], [7]), ([6, 8], [6, 8]), ([], []), ([], []), ([10, 4, 0, 1, 2, 3, 4, 10, 11], [4, 10]), ([11, 9, 12, 0, 1, 2, 3, 4, 5, 6, 7, 8, 9, 10, 11, 12], [9, 11])])
def spec_l04Keeps.B1 : List Nat := [0, 1, 0, 4, 15, 0, 32, 0, 128, 480, 0, 0, 3103, 8191]
theorem spec_l04Keeps.tab1 : rtab .any (opsOf Tryz.f96 1) = spec_l04Keeps.T1 := by kernel_rfl
theorem spec_l04Keeps.bits1 : waitsOk spec_l04Keeps.T1.2 spec_l04Keeps.B1 = true := by kernel_rfl
set_option maxHeartbeats 8000000 in
set_option maxRecDepth 100000 in
theorem spec_l04Keeps.calls (a0 : Int) (a1_0 : Int) (a1_1 : Int) (a1_2 : Int) (a1_3 : Int) (r : Bool) (w : World) (h : spec_l04Keeps.f a0 a1_0 a1_1 a1_2 a1_3 = some r) :
  Calls Tryz.prog 96 #[.int .i64 a0, .agg #[.int .i64 a1_0, .int .i64 a1_1, .int .i64 a1_2, .int .i64 a1_3]] w fun e w' => e = .returned (.bool r) ∧ Below w.heap.size w w' := by
 have hu27 := Tryz.underlying27
 have hu31 := Tryz.underlying31
 have HB := asd (Below.refl w.heap.size w)
 have H : ((spec_l04Norm.f a0 a1_0 a1_2).bind fun t227 => (if t227 = 1 then ((spec_l04Norm.f a0 a1_1 a1_3).bind fun t228 => (if t228 = 1 then ((spec_l01Add.f a1_0 a1_2 a1_1 a1_3).bind fun bt229 => ((spec_l04Norm.f a0 bt229.1 bt229.2).bind fun t231 => (some (t231 == (wrap64 (2 + a0)))))) else (some false))) else (some false))) = some r := h
 clear h
 obtain ⟨t227, A3, H⟩ := ob H
 try dsimp only at H
 by_cases c4 : t227 = 1
 rw [if_pos c4] at H
 have c4b0 : (t227 == 1) = true := beq_iff_eq.mpr c4
 have c4b1 : (t227 != 1) = false := bne_eq_false_iff_eq.mpr c4
 clear c4
 obtain ⟨t228, A5, H⟩ := ob H
 try dsimp only at H
 by_cases c6 : t228 = 1
 rw [if_pos c6] at H
 have c6b0 : (t228 == 1) = true := beq_iff_eq.mpr c6
 have c6b1 : (t228 != 1) = false := bne_eq_false_iff_eq.mpr c6
 clear c6
 obtain ⟨⟨t229, t230⟩, A7, H⟩ := ob H
 try dsimp only at H
 obtain ⟨t231, A8, H⟩ := ob H
 try dsimp only at H
 obtain rfl := Option.some.inj H
 rotate_left
 rw [if_neg c6] at H
 have c6b0 : (t228 == 1) = false := beq_eq_false_iff_ne.mpr c6
 have c6b1 : (t228 != 1) = true := bne_iff_ne.mpr c6
 obtain rfl := Option.some.inj H
 rotate_left
 rw [if_neg c4] at H
 have c4b0 : (t227 == 1) = false := beq_eq_false_iff_ne.mpr c4
 have c4b1 : (t227 != 1) = true := bne_iff_ne.mpr c4
 obtain rfl := Option.some.inj H
 rotate_left
 all_goals
  go_enter Tryz.func96, Tryz.ntmps96
  try go_wp2_with (first | ((with_reducible refine gd 3 rfl ?_); refine bx #[.int .i64 a1_0, .int .i64 a1_1, .int .i64 a1_2, .int .i64 a1_3] 27 ?_; intro gb224 hg w9 BK224 hb; have GE224 := ngw0 hg HB; replace HB := bS0 HB hb; clear hb hg))
  replace BK224 := asd (blk_drew BK224.out)
  replace HB := asd (below_drew1 HB.out)
  refine sh 14 (eb4 BK224) (fun hHeld => ?_); refine with_tabW spec_l04Keeps.tab1 spec_l04Keeps.bits1 (fun HT_ HW_ => ?_)
  generalize w9.drew = w10 at BK224 HB hHeld ⊢
  refine pu 0 (some 7) (bT 14 1) HT_ ?_
  refine pu 2 (some 9) (bs 14 5) HT_ ?_
  refine pu 5 (some 12) (bs 14 37) HT_ ?_
  refine pu 7 (some 14) (bs 14 165) HT_ ?_
  refine ta 1 (some 8) (bs 14 167) HT_ HW_ hHeld ?_
  refine ta 3 (some 10) (bs 14 175) HT_ HW_ hHeld ?_
  refine pu 4 (some 11) (bs 14 191) HT_ ?_
  refine ta 6 (some 13) (bT 14 8) HT_ HW_ hHeld ?_
  refine ta 8 (some 15) (bT 14 9) HT_ HW_ hHeld ?_
  refine pu 9 (some 16) (bT 14 10) HT_ ?_
  refine join_ (σ := Nat × Nat) 2 (bT 14 12) (fun s_ => [(5, .pointer (some ⟨s_.1, 0, none⟩)), (6, .pointer (some ⟨s_.2, 0, none⟩))]) (fun s_ w' => (w'.cell? ⟨gb224, 0, none⟩ = some (.int .i64 a1_0) ∧ w'.cell? ⟨gb224, 1, none⟩ = some (.int .i64 a1_1) ∧ w'.cell? ⟨gb224, 2, none⟩ = some (.int .i64 a1_2) ∧ w'.cell? ⟨gb224, 3, none⟩ = some (.int .i64 a1_3)) ∧ (w'.heap[gb224]? = some (.cells #[.int .i64 a1_0, .int .i64 a1_1, .int .i64 a1_2, .int .i64 a1_3] 27 (0, 0))) ∧ (w'.heap[s_.1]? = some (.cells #[.int .i64 0, .int .i64 0] 31 (0, 0))) ∧ (w'.heap[s_.2]? = some (.cells #[.int .i64 0, .int .i64 0] 31 (0, 0))) ∧ (w.heap.size ≤ s_.1) ∧ (w.heap.size ≤ s_.1) ∧ (gb224 ≠ s_.1) ∧ (s_.1 ≠ gb224) ∧ (s_.2 ≠ s_.1) ∧ (s_.1 ≠ s_.2) ∧ (w.heap.size ≤ s_.2) ∧ (w.heap.size ≤ s_.2) ∧ (gb224 ≠ s_.2) ∧ (s_.2 ≠ gb224) ∧ (Below w.heap.size w w')) ?_ ?_
  rotate_left
  ·intro hCont
   refine two_ (i := 10) (j := 11) (Ni := some 5) (Nj := some 6) (bT 14 11) (bs 14 3071) rfl rfl rfl rfl (two_of HT_.out (by kernel_rfl)) (by decide) (by decide) (fun K hK => ?_) (fun K hK => ?_)
   ·skip
    refine box_step ?hg (N := 5) ?hd (cs := #[.int .i64 0, .int .i64 0]) (t := 31) ?hr ?_; (case hd => rfl); (case hg => rfl); (case hr => first | (go_simp; done) | (go_simp; rfl))
    intro gb225 hg w11 hbox hb
    have BK225 := asd (hbox)
    have GW225 := ngw1 hg HB GE224
    have GE225 := ngw1 hg HB GE224
    replace HB := bS1 HB GE224 hb
    have NB224_225 := nlt hg BK224
    have NB225_224 := nsy (nlt hg BK224)
    replace BK224 := bB BK224 hb
    clear hb hbox hg
    refine hK.out _ _ (eb4 BK224).out (fun hHeld => ?_)
    clear hK K
    refine norm_ (a' := ?_) ?_ ?_
    rotate_left
    ·show Act.put _ (some 5) _ = _
     simp only [Act.put, sA, sB, sC, i64_w, i32_w]
     rfl
    refine ro 11 (some 6) (bT 14 12) HT_ (fun K hK => ?_)
    refine box_step ?hg (N := 6) ?hd (cs := #[.int .i64 0, .int .i64 0]) (t := 31) ?hr ?_; (case hd => rfl); (case hg => rfl); (case hr => first | (go_simp; done) | (go_simp; rfl))
    intro gb226 hg w12 hbox hb
    have BK226 := asd (hbox)
    have GW226 := ngw2 hg HB GE224 GE225
    have GE226 := ngw2 hg HB GE224 GE225
    replace HB := bS2 HB GE224 GE225 hb
    have NB224_226 := nlt hg BK224
    have NB226_224 := nsy (nlt hg BK224)
    replace BK224 := bB BK224 hb
    have NB225_226 := nlt hg BK225
    have NB226_225 := nsy (nlt hg BK225)
    replace BK225 := bB BK225 hb
    clear hb hbox hg
    refine hK.out _ _ (eb4 BK224).out (fun hHeld => ?_)
    clear hK K
    refine norm_ (a' := ?_) ?_ ?_
    rotate_left
    ·show Act.put _ (some 6) _ = _
     simp only [Act.put, sA, sB, sC, i64_w, i32_w]
     rfl
    exact norm_ (by simp only [putAll, Act.put, sA, sB, sC]) (hCont (gb225, gb226) _ ⟨hHeld, (bkp BK224), (bkp BK225), (bkp BK226), GW225.out, GE225.out, NB224_225.out, NB225_224.out, NB226_225.out, NB225_226.out, GW226.out, GE226.out, NB224_226.out, NB226_224.out, (bbw3 HB GE224 GE225 GE226)⟩)
   ·skip
    refine box_step ?hg (N := 6) ?hd (cs := #[.int .i64 0, .int .i64 0]) (t := 31) ?hr ?_; (case hd => rfl); (case hg => rfl); (case hr => first | (go_simp; done) | (go_simp; rfl))
    intro gb226 hg w11 hbox hb
    have BK226 := asd (hbox)
    have GW226 := ngw1 hg HB GE224
    have GE226 := ngw1 hg HB GE224
    replace HB := bS1 HB GE224 hb
    have NB224_226 := nlt hg BK224
    have NB226_224 := nsy (nlt hg BK224)
    replace BK224 := bB BK224 hb
    clear hb hbox hg
    refine hK.out _ _ (eb4 BK224).out (fun hHeld => ?_)
    clear hK K
    refine norm_ (a' := ?_) ?_ ?_
    rotate_left
    ·show Act.put _ (some 6) _ = _
     simp only [Act.put, sA, sB, sC, i64_w, i32_w]
     rfl
    refine ro 10 (some 5) (bT 14 12) HT_ (fun K hK => ?_)
    refine box_step ?hg (N := 5) ?hd (cs := #[.int .i64 0, .int .i64 0]) (t := 31) ?hr ?_; (case hd => rfl); (case hg => rfl); (case hr => first | (go_simp; done) | (go_simp; rfl))
    intro gb225 hg w12 hbox hb
    have BK225 := asd (hbox)
    have GW225 := ngw2 hg HB GE224 GE226
    have GE225 := ngw2 hg HB GE224 GE226
    replace HB := bS2 HB GE224 GE226 hb
    have NB224_225 := nlt hg BK224
    have NB225_224 := nsy (nlt hg BK224)
    replace BK224 := bB BK224 hb
    have NB226_225 := nlt hg BK226
    have NB225_226 := nsy (nlt hg BK226)
    replace BK226 := bB BK226 hb
    clear hb hbox hg
    refine hK.out _ _ (eb4 BK224).out (fun hHeld => ?_)
    clear hK K
    refine norm_ (a' := ?_) ?_ ?_
    rotate_left
    ·show Act.put _ (some 5) _ = _
     simp only [Act.put, sA, sB, sC, i64_w, i32_w]
     rfl
    exact norm_ (by simp only [putAll, Act.put, sA, sB, sC]) (hCont (gb225, gb226) _ ⟨hHeld, (bkp BK224), (bkp BK225), (bkp BK226), GW225.out, GE225.out, NB224_225.out, NB225_224.out, NB226_225.out, NB225_226.out, GW226.out, GE226.out, NB224_226.out, NB226_224.out, (bbw3 HB GE224 GE226 GE225)⟩)
  rintro ⟨gb225, gb226⟩ w13 ⟨hS_, h0_, h1_, h2_, h3_, h4_, h5_, h6_, h7_, h8_, h9_, h10_, h11_, h12_, h13_⟩
  have n0_ : Aside0 (w13.heap[gb224]? = some (.cells #[.int .i64 a1_0, .int .i64 a1_1, .int .i64 a1_2, .int .i64 a1_3] 27 (0, 0))) := ⟨h0_⟩
  have n1_ : Aside0 (w13.heap[gb225]? = some (.cells #[.int .i64 0, .int .i64 0] 31 (0, 0))) := ⟨h1_⟩
  have n2_ : Aside0 (w13.heap[gb226]? = some (.cells #[.int .i64 0, .int .i64 0] 31 (0, 0))) := ⟨h2_⟩
  have n3_ : Aside0 (w.heap.size ≤ gb225) := ⟨h3_⟩
  have n4_ : Aside0 (w.heap.size ≤ gb225) := ⟨h4_⟩
  have n5_ : Aside0 (gb224 ≠ gb225) := ⟨h5_⟩
  have n6_ : Aside0 (gb225 ≠ gb224) := ⟨h6_⟩
  have n7_ : Aside0 (gb226 ≠ gb225) := ⟨h7_⟩
  have n8_ : Aside0 (gb225 ≠ gb226) := ⟨h8_⟩
  have n9_ : Aside0 (w.heap.size ≤ gb226) := ⟨h9_⟩
  have n10_ : Aside0 (w.heap.size ≤ gb226) := ⟨h10_⟩
  have n11_ : Aside0 (gb224 ≠ gb226) := ⟨h11_⟩
  have n12_ : Aside0 (gb226 ≠ gb224) := ⟨h12_⟩
  have n13_ : Aside0 (Below w.heap.size w w13) := ⟨h13_⟩
  clear BK224
  clear HB
  clear h0_ h1_ h2_ h3_ h4_ h5_ h6_ h7_ h8_ h9_ h10_ h11_ h12_ h13_
  have BK224 := n0_
  have BK225 := n1_
  have BK226 := n2_
  have GW225 := n3_
  have GE225 := n4_
  have NB224_225 := n5_
  have NB225_224 := n6_
  have NB226_225 := n7_
  have NB225_226 := n8_
  have GW226 := n9_
  have GE226 := n10_
  have NB224_226 := n11_
  have NB226_224 := n12_
  have HB := n13_
  clear n0_ n1_ n2_ n3_ n4_ n5_ n6_ n7_ n8_ n9_ n10_ n11_ n12_ n13_
  have hHeld : w13.cell? ⟨gb224, 0, none⟩ = some (.int .i64 a1_0) ∧ w13.cell? ⟨gb224, 1, none⟩ = some (.int .i64 a1_1) ∧ w13.cell? ⟨gb224, 2, none⟩ = some (.int .i64 a1_2) ∧ w13.cell? ⟨gb224, 3, none⟩ = some (.int .i64 a1_3) := hS_
  refine norm_ (a' := ?_) ?_ ?_
  rotate_left
  ·simp only [putAll, Act.put, sA, sB, sC]
   rfl
  refine ro 12 (none) (bT 14 13) HT_ (fun K hK => ?_)
  have hs14 : w13.cell? ⟨gb225, 0, none⟩ = some (.int .i64 0) := bcl BK225 0
  have hfs14 := blk_frozen BK225.out 0
  have hns14_0 := NB224_225.out
  have hns14_2 := NB226_225.out
  have hms14_0 := NB225_224.out
  have hms14_2 := NB225_226.out
  have hs15 : w13.cell? ⟨gb225, 1, none⟩ = some (.int .i64 0) := bcl BK225 1
  have hfs15 := blk_frozen BK225.out 1
  have hns15_0 := NB224_225.out
  have hns15_2 := NB226_225.out
  have hms15_0 := NB225_224.out
  have hms15_2 := NB225_226.out
  refine skip_ (w1 := ?_) (by rfl) rfl ?_ ?_
  rotate_left
  ·go_simp
   rfl
  refine hK.out _ _ ⟨(cf2 NB224_225 (hHeld.1)), (cf2 NB224_225 (hHeld.2.1)), (cf2 NB224_225 (hHeld.2.2.1)), (cf2 NB224_225 (hHeld.2.2.2))⟩ (fun hHeld => ?_)
  clear hK K
  refine ro 13 (none) (bT 14 14) HT_ (fun K hK => ?_)
  have hs16 : w13.cell? ⟨gb226, 0, none⟩ = some (.int .i64 0) := bcl BK226 0
  have hfs16 := blk_frozen BK226.out 0
  have hns16_0 := NB224_226.out
  have hns16_1 := NB225_226.out
  have hms16_0 := NB226_224.out
  have hms16_1 := NB226_225.out
  have hs17 : w13.cell? ⟨gb226, 1, none⟩ = some (.int .i64 0) := bcl BK226 1
  have hfs17 := blk_frozen BK226.out 1
  have hns17_0 := NB224_226.out
  have hns17_1 := NB225_226.out
  have hms17_0 := NB226_224.out
  have hms17_1 := NB226_225.out
  refine skip_ (w1 := ?_) (by rfl) rfl ?_ ?_
  rotate_left
  ·go_simp
   rfl
  refine hK.out _ _ ⟨(cf2 NB224_226 (hHeld.1)), (cf2 NB224_226 (hHeld.2.1)), (cf2 NB224_226 (hHeld.2.2.1)), (cf2 NB224_226 (hHeld.2.2.2))⟩ (fun hHeld => ?_)
  clear hK K
  refine done_ (done_of HT_.out (by kernel_rfl)) ?_
  have hnb18 := NB225_224.out
  have hnc18 := NB224_225.out
  have hnb19 := NB225_226.out
  have hnc19 := NB226_225.out
  obtain ⟨hcz20_0, hcz20_1, hfz20_0, hfz20_1⟩ := bz2 BK225
 try go_wp2_with (first | ((with_reducible refine gate_callee (f := 110) rfl ?_); refine gl 19 Tryz.func110 #[.int .i64 a0, .agg #[.int .i64 a1_0, .int .i64 a1_2]] ?_; (with_reducible refine (spec_l04Norm.calls _ _ _ _ _ A3.out).mono ?_); rintro e w21 ⟨rfl, hb⟩; refine ⟨_, rfl, ?_⟩; replace BK224 := asd (blk_below (g := gb224) (o := .cells #[.int .i64 a1_0, .int .i64 a1_1, .int .i64 a1_2, .int .i64 a1_3] 27 (0, 0)) (bq2 BK224 NB224_226 NB224_225) hb); replace BK225 := asd (blk_below (g := gb225) (o := .cells #[.int .i64 a1_0, .int .i64 a1_2] 31 (0, 0)) (bq1 BK225 NB225_226) hb); replace BK226 := asd (blk_below (g := gb226) (o := .cells #[.int .i64 a1_1, .int .i64 a1_3] 31 (0, 0)) (bq1 BK226 NB226_225) hb); replace HB := bS3 HB GE224 GE225 GE226 hb; (try clear hb); have hnb22 := NB226_224.out; have hnc22 := NB224_226.out; obtain ⟨hcz23_0, hcz23_1, hfz23_0, hfz23_1⟩ := bz2 BK226) | (go_at_call 110; (with_reducible refine (spec_l04Norm.calls _ _ _ _ _ A5.out).mono ?_); rintro e w24 ⟨rfl, hb⟩; replace BK224 := bB BK224 hb; replace BK225 := bB BK225 hb; replace BK226 := bB BK226 hb; replace HB := bS3 HB GE224 GE225 GE226 hb; (try clear hb); obtain ⟨hcz25_0, hcz25_1, hfz25_0, hfz25_1⟩ := bz2 BK225; obtain ⟨hcz26_0, hcz26_1, hfz26_0, hfz26_1⟩ := bz2 BK226) | (go_at_call 101; (with_reducible refine (spec_l01Add.calls _ _ _ _ _ _ _ A7.out).mono ?_); rintro e w27 ⟨rfl, hb⟩; replace BK224 := bB BK224 hb; replace BK225 := bB BK225 hb; replace BK226 := bB BK226 hb; replace HB := bS3 HB GE224 GE225 GE226 hb; (try clear hb)) | (go_at_call 110; (with_reducible refine (spec_l04Norm.calls _ _ _ _ _ A8.out).mono ?_); rintro e w28 ⟨rfl, hb⟩; replace BK224 := bB BK224 hb; replace BK225 := bB BK225 hb; replace BK226 := bB BK226 hb; replace HB := bS3 HB GE224 GE225 GE226 hb; (try clear hb)))
 rotate_left
 try go_wp2_with (first | ((with_reducible refine gate_callee (f := 110) rfl ?_); refine gl 19 Tryz.func110 #[.int .i64 a0, .agg #[.int .i64 a1_0, .int .i64 a1_2]] ?_; (with_reducible refine (spec_l04Norm.calls _ _ _ _ _ A3.out).mono ?_); rintro e w41 ⟨rfl, hb⟩; refine ⟨_, rfl, ?_⟩; replace BK224 := asd (blk_below (g := gb224) (o := .cells #[.int .i64 a1_0, .int .i64 a1_1, .int .i64 a1_2, .int .i64 a1_3] 27 (0, 0)) (bq2 BK224 NB224_226 NB224_225) hb); replace BK225 := asd (blk_below (g := gb225) (o := .cells #[.int .i64 a1_0, .int .i64 a1_2] 31 (0, 0)) (bq1 BK225 NB225_226) hb); replace BK226 := asd (blk_below (g := gb226) (o := .cells #[.int .i64 a1_1, .int .i64 a1_3] 31 (0, 0)) (bq1 BK226 NB226_225) hb); replace HB := bS3 HB GE224 GE225 GE226 hb; (try clear hb); have hnb42 := NB226_224.out; have hnc42 := NB224_226.out; obtain ⟨hcz43_0, hcz43_1, hfz43_0, hfz43_1⟩ := bz2 BK226) | (go_at_call 110; (with_reducible refine (spec_l04Norm.calls _ _ _ _ _ A5.out).mono ?_); rintro e w44 ⟨rfl, hb⟩; replace BK224 := bB BK224 hb; replace BK225 := bB BK225 hb; replace BK226 := bB BK226 hb; replace HB := bS3 HB GE224 GE225 GE226 hb; (try clear hb)))
 rotate_left
 try go_wp2_with (first | ((with_reducible refine gate_callee (f := 110) rfl ?_); refine gl 19 Tryz.func110 #[.int .i64 a0, .agg #[.int .i64 a1_0, .int .i64 a1_2]] ?_; (with_reducible refine (spec_l04Norm.calls _ _ _ _ _ A3.out).mono ?_); rintro e w57 ⟨rfl, hb⟩; refine ⟨_, rfl, ?_⟩; replace BK224 := asd (blk_below (g := gb224) (o := .cells #[.int .i64 a1_0, .int .i64 a1_1, .int .i64 a1_2, .int .i64 a1_3] 27 (0, 0)) (bq2 BK224 NB224_226 NB224_225) hb); replace BK225 := asd (blk_below (g := gb225) (o := .cells #[.int .i64 a1_0, .int .i64 a1_2] 31 (0, 0)) (bq1 BK225 NB225_226) hb); replace BK226 := asd (blk_below (g := gb226) (o := .cells #[.int .i64 a1_1, .int .i64 a1_3] 31 (0, 0)) (bq1 BK226 NB226_225) hb); replace HB := bS3 HB GE224 GE225 GE226 hb; (try clear hb)))
 rotate_left
 all_goals
  go_ret
  exact er (bbw3 HB GE224 GE225 GE226)

attribute [local go_sem high] eqA25
/-! ### spec_l04Mats: function 105 -/
def spec_l04Mats.l0 : Nat → Int → List (S27) → Int → Option ((List (S27)))
 | 0, _, _, _ => none
 | k + 1, x0, x3, x4 => if x4 < 81 then ((spec_l04Keeps.f x0 (wrap64 ((wrap64 (Int.tdiv x4 27)) - 1)) (wrap64 ((Int.tmod (wrap64 (Int.tdiv x4 9)) 3) - 1)) (wrap64 ((Int.tmod (wrap64 (Int.tdiv x4 3)) 3) - 1)) (wrap64 ((Int.tmod x4 3) - 1))).bind fun t236 => (if t236 = true then (if x3.length < 4398046511104 then (spec_l04Mats.l0 k x0 (x3 ++ [(⟨wrap64 ((wrap64 (Int.tdiv x4 27)) - 1), wrap64 ((Int.tmod (wrap64 (Int.tdiv x4 9)) 3) - 1), wrap64 ((Int.tmod (wrap64 (Int.tdiv x4 3)) 3) - 1), wrap64 ((Int.tmod x4 3) - 1)⟩ : S27)]) (wrap64 (x4 + 1))) else (none)) else (spec_l04Mats.l0 k x0 x3 (wrap64 (x4 + 1))))) else (some x3)
def spec_l04Mats.f (k : Nat) (a0 : Int) : Option ((List (S27))) := spec_l04Mats.l0 k a0 (([] : List (S27))) 0
set_option maxHeartbeats 8000000 in
set_option maxRecDepth 100000 in
theorem spec_l04Mats.calls (k : Nat) (a0 : Int) (r : List (S27)) (w : World) (h : spec_l04Mats.f k a0 = some r) :
  Calls Tryz.prog 105 #[.int .i64 a0] w fun e w' => ∃ v0_ : Value, e = .returned (v0_) ∧ Kd.R k27 27 w' w.heap.size (fun _ => True) v0_ r ∧ Below w.heap.size w w' := by
 have hu27 := Tryz.underlying27
 have HB := asd (Below.refl w.heap.size w)
 have H : (spec_l04Mats.l0 k a0 (([] : List (S27))) 0) = some r := h
 clear h
 obtain ⟨y232, hy232⟩ : ∃ y_ : List (S27), y_ = (([] : List (S27))) := ⟨_, rfl⟩
 replace H : (spec_l04Mats.l0 k a0 y232 0) = some r := by first | (rw [hy232]; with_reducible exact H) | (have H2_ := (Option.bind_some _ _).symm.trans H; rw [hy232]; with_reducible exact H2_) | (have H2_ := (Option.bind_some _ _).symm.trans H; with_reducible exact H2_) | with_reducible exact H | (rw [hy232]; exact H) | exact H
 have Ny232 := Aside0.mk hy232
 clear hy232
 have H' := Aside0.mk H
 clear H
 go_enter Tryz.func105, Tryz.ntmps105
 go_wp2_with (first | ((with_reducible refine gd 6 rfl ?_); refine Kd.R_lit k27 _ 27 ?hg (N := 6) ?hd (xs := ([] : List (S27))) (inner := []) (ok := fun _ => True) (okp := fun _ => True) ?hr ?hp (fun _ hk => hk) trivial (Below.refl _ _) (Nat.le_refl _) (by simp) ?_; (case hd => rfl); (case hg => rfl); (case hr => first | (go_simp; done) | (go_simp; rfl)); (case hp => exact (Reps.none _ _)); intro v233 w2 ho3 hb hg_ hnew_; clear hg_ hnew_; (first | rw [← Ny232.out] at ho3 | (simp only [Int.reduceToNat] at ho3; rw [← Ny232.out] at ho3)); have HO234 := asd (Kd.R_lower ho3 (bsz0 HB)); replace HB := bS0 HB hb; clear hb ho3))
 go_loopg [3, 4] k (fun kq v3 v4 w' => ∃ (x3_1 : List (S27)) (x4_1 : Int), v4 = .int .i64 x4_1 ∧ Aside0 (spec_l04Mats.l0 kq a0 x3_1 x4_1 = some r) ∧ Aside0 (kq ≤ k) ∧ Aside0 (Kd.R k27 27 w' w.heap.size (fun _ => True) v3 x3_1) ∧ Aside0 (Below w.heap.size w w'))
 case atStart => exact ⟨(y232), (0), (by first | rfl | (simp; done) | (simp [*]; done)), H', ⟨Nat.le_refl _⟩, ⟨by (with_reducible repeat (first | apply Kd.R_alloc | apply Kd.R_drewN | apply Kd.R_drew)); exact HO234.out⟩, ⟨bbw0 HB⟩⟩
 case round =>
  clear H'
  try clear c1
  try clear p2
  obtain ⟨x3_1, x4_1, rfl, HA, HK1, HO_3, HB⟩ := hrel
  cases gk with
  | zero => exact absurd HA.out (by simp [spec_l04Mats.l0])
  | succ k1 =>
   have H := HA.out
   clear HA
   simp only [spec_l04Mats.l0] at H
   by_cases c4 : x4_1 < 81
   ·rw [if_pos c4] at H
    have c4b0 := decide_eq_true c4
    clear c4
    obtain ⟨t236, A5, H⟩ := ob H
    try dsimp only at H
    by_cases c6 : t236 = true
    ·subst c6
     replace H := ifT H
     by_cases c7 : x3_1.length < 4398046511104
     ·rw [if_pos c7] at H
      have LMc7 := Aside0.mk c7
      clear c7
      obtain ⟨y237, hy237⟩ : ∃ y_ : List (S27), y_ = (x3_1 ++ [(⟨wrap64 ((wrap64 (Int.tdiv x4_1 27)) - 1), wrap64 ((Int.tmod (wrap64 (Int.tdiv x4_1 9)) 3) - 1), wrap64 ((Int.tmod (wrap64 (Int.tdiv x4_1 3)) 3) - 1), wrap64 ((Int.tmod x4_1 3) - 1)⟩ : S27)]) := ⟨_, rfl⟩
      replace H : (spec_l04Mats.l0 k1 a0 y237 (wrap64 (x4_1 + 1))) = some r := by first | (rw [hy237]; with_reducible exact H) | (have H2_ := (Option.bind_some _ _).symm.trans H; rw [hy237]; with_reducible exact H2_) | (have H2_ := (Option.bind_some _ _).symm.trans H; with_reducible exact H2_) | with_reducible exact H | (rw [hy237]; exact H) | exact H
      have Ny237 := Aside0.mk hy237
      clear hy237
      have H' := Aside0.mk H
      clear H
      go_wp2_with (first | ((with_reducible refine gd 5 rfl ?_); refine bx #[.int .i64 0, .int .i64 0, .int .i64 0, .int .i64 0] 27 ?_; intro gb235 hg w8 BK235 hb; replace HO_3 := asd (Kd.R_below (Kd.R_elderB (kr HO_3) gb235 (Nat.le_of_eq hg.symm)) hb); have GE235 := ngw0 hg HB; replace HB := bS0 HB hb; clear hb hg; obtain ⟨hcz9_0, hcz9_1, hcz9_2, hcz9_3, hfz9_0, hfz9_1, hfz9_2, hfz9_3⟩ := bz4 BK235) | ((with_reducible refine gate_callee (f := 96) rfl ?_); refine gl 28 Tryz.func96 #[.int .i64 a0, .agg #[.int .i64 (wrap64 ((wrap64 (Int.tdiv x4_1 27)) - 1)), .int .i64 (wrap64 ((Int.tmod (wrap64 (Int.tdiv x4_1 9)) 3) - 1)), .int .i64 (wrap64 ((Int.tmod (wrap64 (Int.tdiv x4_1 3)) 3) - 1)), .int .i64 (wrap64 ((Int.tmod x4_1 3) - 1))]] ?_; (with_reducible refine (spec_l04Keeps.calls _ _ _ _ _ _ _ A5.out).mono ?_); rintro e w10 ⟨rfl, hb⟩; refine ⟨_, rfl, ?_⟩; replace HO_3 := asd (Kd.R_below (by (with_reducible repeat (first | apply Kd.R_alloc | apply Kd.R_drewN | apply Kd.R_drew)); exact (Kd.R_mono (rw4 (Kd.R_mono HO_3.out (fun k_ hk => (⟨hk, hk.2⟩ : _ ∧ k_ ≠ gb235)))) (fun _ h_ => h_.1))) hb); replace BK235 := asd (blk_below (g := gb235) (o := .cells #[.int .i64 (wrap64 ((wrap64 (Int.tdiv x4_1 27)) - 1)), .int .i64 (wrap64 ((Int.tmod (wrap64 (Int.tdiv x4_1 9)) 3) - 1)), .int .i64 (wrap64 ((Int.tmod (wrap64 (Int.tdiv x4_1 3)) 3) - 1)), .int .i64 (wrap64 ((Int.tmod x4_1 3) - 1))] 27 (0, 0)) (bq0 BK235) hb); replace HB := bS1 HB GE235 hb; (try clear hb); obtain ⟨hcz11_0, hcz11_1, hcz11_2, hcz11_3, hfz11_0, hfz11_1, hfz11_2, hfz11_3⟩ := bz4 BK235) | ((with_reducible refine gate_builtin (b := .append) (xs := #[.tmp 29, .tmp 31]) rfl ?_); at_builtin; refine Kd.R_append k27 (w0 := w) w.heap.size rfl (.tmp 29) (.tmp 31) 77 27 (.agg #[(.int .i64 0), (.int .i64 0), (.int .i64 0), (.int .i64 0)]) 32 rfl Tryz.underlying77 info27 rfl (by decide) (by omega) u3 x3_1 (⟨wrap64 ((wrap64 (Int.tdiv x4_1 27)) - 1), wrap64 ((Int.tmod (wrap64 (Int.tdiv x4_1 9)) 3) - 1), wrap64 ((Int.tmod (wrap64 (Int.tdiv x4_1 3)) 3) - 1), wrap64 ((Int.tmod x4_1 3) - 1)⟩ : S27) [.int .i64 (wrap64 ((wrap64 (Int.tdiv x4_1 27)) - 1)), .int .i64 (wrap64 ((Int.tmod (wrap64 (Int.tdiv x4_1 9)) 3) - 1)), .int .i64 (wrap64 ((Int.tmod (wrap64 (Int.tdiv x4_1 3)) 3) - 1)), .int .i64 (wrap64 ((Int.tmod x4_1 3) - 1))] (fun k_ => k_ ≠ gb235) (fun _ => False) rfl rfl ?aP (fun _ hk => hk.elim) ?aF ?aO ?aB ?aS ?aL ?_; (case aP => exact k27_mkM _ _ _ (⟨wrap64 ((wrap64 (Int.tdiv x4_1 27)) - 1), wrap64 ((Int.tmod (wrap64 (Int.tdiv x4_1 9)) 3) - 1), wrap64 ((Int.tmod (wrap64 (Int.tdiv x4_1 3)) 3) - 1), wrap64 ((Int.tmod x4_1 3) - 1)⟩ : S27)); (case aB => exact (bbw1 HB GE235)); (case aF => exact (fun k_ hk => Kd.freshB (g := gb235) (o := .cells #[.int .i64 (wrap64 ((wrap64 (Int.tdiv x4_1 27)) - 1)), .int .i64 (wrap64 ((Int.tmod (wrap64 (Int.tdiv x4_1 9)) 3) - 1)), .int .i64 (wrap64 ((Int.tmod (wrap64 (Int.tdiv x4_1 3)) 3) - 1)), .int .i64 (wrap64 ((Int.tmod x4_1 3) - 1))] 27 (0, 0)) (bkp BK235) k_ hk)); (case aO => exact (by (with_reducible repeat (first | apply Kd.R_alloc | apply Kd.R_drewN | apply Kd.R_drew)); exact Kd.R_mono HO_3.out (fun _ hk => hk.2))); (case aS => exact (bsz1 HB GE235)); (case aL => have := LMc7.out; omega); intro v238 w12 ho hb hg hat; rw [← Ny237.out] at ho; have n0_ := asd (blk_grown (g := gb235) (o := .cells #[.int .i64 (wrap64 ((wrap64 (Int.tdiv x4_1 27)) - 1)), .int .i64 (wrap64 ((Int.tmod (wrap64 (Int.tdiv x4_1 9)) 3) - 1)), .int .i64 (wrap64 ((Int.tmod (wrap64 (Int.tdiv x4_1 3)) 3) - 1)), .int .i64 (wrap64 ((Int.tmod x4_1 3) - 1))] 27 (0, 0)) (bkp BK235) hg (Kd.R_away HO_3.out (fun _ hk => hk.2))); have n1_ := asd (hb); have n2_ := asd (ho); clear BK235; clear HB; clear HO_3; have BK235 := n0_; have HB := n1_; have HO239 := n2_; clear n0_ n1_ n2_; clear ho hb hg hat))
      go_roundg k1
      case measure => have := HK1.out; omega
      case rel => exact ⟨(y237), (wrap64 (x4_1 + 1)), (by first | rfl | (simp; done) | (simp [*]; done)), H', ⟨by have := HK1.out; omega⟩, ⟨by (with_reducible repeat (first | apply Kd.R_alloc | apply Kd.R_drewN | apply Kd.R_drew)); exact Kd.R_mono HO239.out (fun _ hk => trivial)⟩, ⟨bbw1 HB GE235⟩⟩
     ·rw [if_neg c7] at H
      exact absurd H (by simp)
    ·replace c6 := Bool.eq_false_iff.mpr c6
     subst c6
     replace H := ifF H
     have H' := Aside0.mk H
     clear H
     go_wp2_with (first | ((with_reducible refine gd 5 rfl ?_); refine bx #[.int .i64 0, .int .i64 0, .int .i64 0, .int .i64 0] 27 ?_; intro gb235 hg w13 BK235 hb; replace HO_3 := asd (Kd.R_below (Kd.R_elderB (kr HO_3) gb235 (Nat.le_of_eq hg.symm)) hb); have GE235 := ngw0 hg HB; replace HB := bS0 HB hb; clear hb hg; obtain ⟨hcz14_0, hcz14_1, hcz14_2, hcz14_3, hfz14_0, hfz14_1, hfz14_2, hfz14_3⟩ := bz4 BK235) | ((with_reducible refine gate_callee (f := 96) rfl ?_); refine gl 28 Tryz.func96 #[.int .i64 a0, .agg #[.int .i64 (wrap64 ((wrap64 (Int.tdiv x4_1 27)) - 1)), .int .i64 (wrap64 ((Int.tmod (wrap64 (Int.tdiv x4_1 9)) 3) - 1)), .int .i64 (wrap64 ((Int.tmod (wrap64 (Int.tdiv x4_1 3)) 3) - 1)), .int .i64 (wrap64 ((Int.tmod x4_1 3) - 1))]] ?_; (with_reducible refine (spec_l04Keeps.calls _ _ _ _ _ _ _ A5.out).mono ?_); rintro e w15 ⟨rfl, hb⟩; refine ⟨_, rfl, ?_⟩; replace HO_3 := asd (Kd.R_below (by (with_reducible repeat (first | apply Kd.R_alloc | apply Kd.R_drewN | apply Kd.R_drew)); exact (Kd.R_mono (rw4 (Kd.R_mono HO_3.out (fun k_ hk => (⟨hk, hk.2⟩ : _ ∧ k_ ≠ gb235)))) (fun _ h_ => h_.1))) hb); replace BK235 := asd (blk_below (g := gb235) (o := .cells #[.int .i64 (wrap64 ((wrap64 (Int.tdiv x4_1 27)) - 1)), .int .i64 (wrap64 ((Int.tmod (wrap64 (Int.tdiv x4_1 9)) 3) - 1)), .int .i64 (wrap64 ((Int.tmod (wrap64 (Int.tdiv x4_1 3)) 3) - 1)), .int .i64 (wrap64 ((Int.tmod x4_1 3) - 1))] 27 (0, 0)) (bq0 BK235) hb); replace HB := bS1 HB GE235 hb; (try clear hb)))
     go_roundg k1
     case measure => have := HK1.out; omega
     case rel => exact ⟨(x3_1), (wrap64 (x4_1 + 1)), (by first | rfl | (simp; done) | (simp [*]; done)), H', ⟨by have := HK1.out; omega⟩, ⟨by (with_reducible repeat (first | apply Kd.R_alloc | apply Kd.R_drewN | apply Kd.R_drew)); exact Kd.R_mono HO_3.out (fun _ hk => trivial)⟩, ⟨bbw1 HB GE235⟩⟩
   ·rw [if_neg c4] at H
    have c4b0 := decide_eq_false c4
    clear c4
    obtain rfl := Option.some.inj H
    go_wp2
    go_ret
    exact ⟨_, by first | rfl | (simp [errW_none, errW_some] <;> rfl) | (simp [*, errW_none, errW_some] <;> rfl), by (with_reducible repeat (first | apply Kd.R_alloc | apply Kd.R_drewN | apply Kd.R_drew)); exact HO_3.out, bbw0 HB⟩
/-! ### spec_l04Stable: function 82 -/
def spec_l04Stable.l0 : Nat → List (S27) → List (S27) → Int → Int → Int → Int → Option ((List (S27)))
 | 0, _, _, _, _, _, _ => none
 | k + 1, x5, x6, x7, x241000, x241001, x241002 => if x7 < (x5.length : Int) then (if 0 ≤ x7 then ((spec_l04Image.f k ((rd_T27 x5 x7).f0) ((rd_T27 x5 x7).f1) ((rd_T27 x5 x7).f2) ((rd_T27 x5 x7).f3) x241000 x241001 x241002).bind fun bt248 => (if (bt248.1 == x241000 && (bt248.2.1 == x241001 && (bt248.2.2 == x241002))) = true then (if x6.length < 4398046511104 then (spec_l04Stable.l0 k x5 (x6 ++ [(⟨(rd_T27 x5 x7).f0, (rd_T27 x5 x7).f1, (rd_T27 x5 x7).f2, (rd_T27 x5 x7).f3⟩ : S27)]) (wrap64 (x7 + 1)) x241000 x241001 x241002) else (none)) else (spec_l04Stable.l0 k x5 x6 (wrap64 (x7 + 1)) x241000 x241001 x241002))) else (none)) else (some x6)
def spec_l04Stable.f (k : Nat) (a0 : Int) (a1_0 : Int) (a1_1 : Int) (a1_2 : Int) : Option ((List (S27))) := (spec_l04Mats.f k a0).bind fun t241 => (spec_l04Stable.l0 k t241 (([] : List (S27))) 0 a1_0 a1_1 a1_2)
def spec_l04Stable.T6 : Bool × List (List Nat × List Nat) := (true, [([], []), ([], []), ([0, 1], [0, 1]), ([2], [2]), ([], []), ([3, 4], [3, 4]), ([], []), ([5, 6], [5, 6])])
def spec_l04Stable.B6 : List Nat := [0, 0, 3, 7, 0, 31, 0, 127]
theorem spec_l04Stable.tab6 : rtab .any (opsOf Tryz.f82 6) = spec_l04Stable.T6 := by kernel_rfl
theorem spec_l04Stable.bits6 : waitsOk spec_l04Stable.T6.2 spec_l04Stable.B6 = true := by kernel_rfl
set_option maxHeartbeats 8000000 in
set_option maxRecDepth 100000 in
theorem spec_l04Stable.calls (k : Nat) (a0 : Int) (a1_0 : Int) (a1_1 : Int) (a1_2 : Int) (r : List (S27)) (w : World) (h : spec_l04Stable.f k a0 a1_0 a1_1 a1_2 = some r) :
  Calls Tryz.prog 82 #[.int .i64 a0, .agg #[.int .i64 a1_0, .int .i64 a1_1, .int .i64 a1_2]] w fun e w' => ∃ v0_ : Value, e = .returned (v0_) ∧ Kd.R k27 27 w' w.heap.size (fun _ => True) v0_ r ∧ Below w.heap.size w w' := by
 have hu25 := Tryz.underlying25
 have hu27 := Tryz.underlying27
 have HB := asd (Below.refl w.heap.size w)
 have H : ((spec_l04Mats.f k a0).bind fun t241 => (spec_l04Stable.l0 k t241 (([] : List (S27))) 0 a1_0 a1_1 a1_2)) = some r := h
 clear h
 obtain ⟨t241, A3, H⟩ := ob H
 try dsimp only at H
 obtain ⟨y244, hy244⟩ : ∃ y_ : List (S27), y_ = (([] : List (S27))) := ⟨_, rfl⟩
 replace H : (spec_l04Stable.l0 k t241 y244 0 a1_0 a1_1 a1_2) = some r := by first | (rw [hy244]; with_reducible exact H) | (have H2_ := (Option.bind_some _ _).symm.trans H; rw [hy244]; with_reducible exact H2_) | (have H2_ := (Option.bind_some _ _).symm.trans H; with_reducible exact H2_) | with_reducible exact H | (rw [hy244]; exact H) | exact H
 have Ny244 := Aside0.mk hy244
 clear hy244
 have H' := Aside0.mk H
 clear H
 go_enter Tryz.func82, Tryz.ntmps82
 go_wp2_with (first | ((with_reducible refine gd 3 rfl ?_); refine bx #[.int .i64 a1_0, .int .i64 a1_1, .int .i64 a1_2] 25 ?_; intro gb240 hg w4 BK240 hb; have GE240 := ngw0 hg HB; replace HB := bS0 HB hb; clear hb hg) | ((with_reducible refine gate_callee (f := 105) rfl ?_); refine gl 9 Tryz.func105 #[.int .i64 a0] ?_; (with_reducible refine (spec_l04Mats.calls _ _ _ _ A3.out).mono ?_); rintro e w5 ⟨v242, rfl, ho0, hb⟩; refine ⟨_, rfl, ?_⟩; have HO243 := asd (Kd.R_lower ho0 (bsz1 HB GE240)); replace BK240 := bB BK240 hb; replace HB := bS1 HB GE240 hb; (try clear hb); (try clear hb2); (try clear hk); (try clear hi); (try clear ho0)) | ((with_reducible refine gd 10 rfl ?_); refine Kd.R_lit k27 _ 27 ?hg (N := 10) ?hd (xs := ([] : List (S27))) (inner := []) (ok := fun _ => True) (okp := fun _ => True) ?hr ?hp (fun _ hk => hk) trivial (Below.refl _ _) (Nat.le_refl _) (by simp) ?_; (case hd => rfl); (case hg => rfl); (case hr => first | (go_simp; done) | (go_simp; rfl)); (case hp => exact (Reps.none _ _)); intro v245 w6 ho7 hb hg_ hnew_; clear hg_ hnew_; (first | rw [← Ny244.out] at ho7 | (simp only [Int.reduceToNat] at ho7; rw [← Ny244.out] at ho7)); have HO246 := asd (Kd.R_lower (Kd.R_new' ho7 (Kd.R_lt (kr HO243))) (bsz1 HB GE240)); replace HO243 := asd (Kd.R_elder' (kr HO243) (Kd.R_base ho7) hb); replace BK240 := bB BK240 hb; replace HB := bS1 HB GE240 hb; clear hb ho7))
 go_loopg [6, 7] k (fun kq v6 v7 w' => ∃ (x6_1 : List (S27)) (x7_1 : Int), v7 = .int .i64 x7_1 ∧ Aside0 (spec_l04Stable.l0 kq t241 x6_1 x7_1 a1_0 a1_1 a1_2 = some r) ∧ Aside0 (kq ≤ k) ∧ Aside0 (Kd.R k27 27 w' w.heap.size (fun k_ => some k_ ≠ (v6 : Value).ownBlock) v242 t241) ∧ Aside0 (Kd.R k27 27 w' w.heap.size (fun k_ => some k_ ≠ (v242 : Value).ownBlock) v6 x6_1) ∧ Aside0 (w'.heap[gb240]? = some (.cells #[.int .i64 a1_0, .int .i64 a1_1, .int .i64 a1_2] 25 (0, 0))) ∧ Aside0 (Below w.heap.size w w'))
 case atStart => exact ⟨(y244), (0), (by first | rfl | (simp; done) | (simp [*]; done)), H', ⟨Nat.le_refl _⟩, ⟨by (with_reducible repeat (first | apply Kd.R_alloc | apply Kd.R_drewN | apply Kd.R_drew)); exact Kd.R_mono HO243.out (fun _ hk => hk.2)⟩, ⟨by (with_reducible repeat (first | apply Kd.R_alloc | apply Kd.R_drewN | apply Kd.R_drew)); exact Kd.R_mono HO246.out (fun _ hk => hk.2)⟩, ⟨bkp BK240⟩, ⟨bbw1 HB GE240⟩⟩
 case round =>
  clear H'
  try clear c1
  try clear p2
  obtain ⟨x6_1, x7_1, rfl, HA, HK1, HO_5, HO_6, BK240, HB⟩ := hrel
  cases gk with
  | zero => exact absurd HA.out (by simp [spec_l04Stable.l0])
  | succ k1 =>
   have H := HA.out
   clear HA
   simp only [spec_l04Stable.l0] at H
   by_cases c8 : x7_1 < (t241.length : Int)
   rw [if_pos c8] at H
   have c8b0 := decide_eq_true c8
   clear c8
   by_cases c9 : 0 ≤ x7_1
   rw [if_pos c9] at H
   have c9b0 := decide_eq_true c9
   clear c9
   obtain ⟨⟨t248, t249, t250⟩, A10, H⟩ := ob H
   try dsimp only at H
   by_cases c11 : (t248 == a1_0 && (t249 == a1_1 && (t250 == a1_2))) = true
   rw [if_pos c11] at H
   have c11b0 := c11
   (try (have c11b1 : decide (t248 = a1_0 && (t249 == a1_1 && (t250 == a1_2))) = true := by simpa using c11))
   (try (have c11b2 : (t248 == a1_0 && (t249 == a1_1 && (t250 == a1_2))) = true := by simpa using c11))
   clear c11
   by_cases c12 : x6_1.length < 4398046511104
   rw [if_pos c12] at H
   have LMc12 := Aside0.mk c12
   clear c12
   obtain ⟨y252, hy252⟩ : ∃ y_ : List (S27), y_ = (x6_1 ++ [(⟨(rd_T27 t241 x7_1).f0, (rd_T27 t241 x7_1).f1, (rd_T27 t241 x7_1).f2, (rd_T27 t241 x7_1).f3⟩ : S27)]) := ⟨_, rfl⟩
   replace H : (spec_l04Stable.l0 k1 t241 y252 (wrap64 (x7_1 + 1)) a1_0 a1_1 a1_2) = some r := by first | (rw [hy252]; with_reducible exact H) | (have H2_ := (Option.bind_some _ _).symm.trans H; rw [hy252]; with_reducible exact H2_) | (have H2_ := (Option.bind_some _ _).symm.trans H; with_reducible exact H2_) | with_reducible exact H | (rw [hy252]; exact H) | exact H
   have Ny252 := Aside0.mk hy252
   clear hy252
   have H' := Aside0.mk H
   clear H
   rotate_left
   ·rw [if_neg c12] at H
    exact absurd H (by simp)
   rw [if_neg c11] at H
   have c11b0 : (t248 == a1_0 && (t249 == a1_1 && (t250 == a1_2))) = false := by simpa using c11
   (try (have c11b1 : decide (t248 = a1_0 && (t249 == a1_1 && (t250 == a1_2))) = false := by simpa using c11))
   (try (have c11b2 : (t248 == a1_0 && (t249 == a1_1 && (t250 == a1_2))) = false := by simpa using c11))
   (try (have c11b3 : ¬ (t248 = a1_0 && (t249 == a1_1 && (t250 == a1_2))) := by simpa using c11))
   clear c11
   have H' := Aside0.mk H
   clear H
   rotate_left
   ·rw [if_neg c9] at H
    exact absurd H (by simp)
   rw [if_neg c8] at H
   have c8b0 := decide_eq_false c8
   clear c8
   obtain rfl := Option.some.inj H
   rotate_left
   all_goals
    obtain ⟨Ao13, co13, eo13⟩ := Kd.R_slice HO_5.out
    subst eo13
   rotate_left 2
   ·go_wp2
    go_ret
    exact ⟨_, by first | rfl | (simp [errW_none, errW_some] <;> rfl) | (simp [*, errW_none, errW_some] <;> rfl), by (with_reducible repeat (first | apply Kd.R_alloc | apply Kd.R_drewN | apply Kd.R_drew)); exact Kd.R_mono HO_6.out (fun _ hk => trivial), bbw1 HB GE240⟩
   all_goals
    try go_wp2
    replace HO_5 := asd (Kd.R_drew HO_5.out)
    replace HO_6 := asd (Kd.R_drew HO_6.out)
    replace BK240 := asd (blk_drew BK240.out)
    replace HB := asd (below_drew1 HB.out)
    have p247 : 0 ≤ (x7_1 : Int) := od
    have q247 : x7_1 < (t241.length : Int) := od
    obtain ⟨ad247, e247, hx247_0, hx247_1, hx247_2, hx247_3⟩ := at_T27 (Kd.R_reads' HO_5.out).2.2 x7_1 p247 q247
    cases e247
    replace p247 := eq_true p247
    replace q247 := eq_true q247
    refine sh 8 (cb3 BK240 (c1 hx247_0 (c1 hx247_1 (c1 hx247_2 (e1 hx247_3))))) (fun hHeld => ?_); refine with_tabW spec_l04Stable.tab6 spec_l04Stable.bits6 (fun HT_ HW_ => ?_)
    generalize wr.drew = w14 at HO_5 HO_6 BK240 HB hx247_0 hx247_1 hx247_2 hx247_3 hHeld ⊢
    refine pu 0 (some 17) (bT 8 1) HT_ ?_
    refine pu 1 (some 18) (bT 8 2) HT_ ?_
    refine pu 2 (some 19) (bT 8 3) HT_ ?_
    refine ta 3 (some 20) (bT 8 4) HT_ HW_ hHeld ?_
    refine ta 4 (some 21) (bT 8 5) HT_ HW_ hHeld ?_
    refine ta 6 (some 23) (bs 8 95) HT_ HW_ hHeld ?_
    refine ro 5 (some 22) (bT 8 7) HT_ (fun K hK => ?_)
    refine gs Tryz.func67 #[.agg #[.int .i64 ((rd_T27 t241 x7_1).f0), .int .i64 ((rd_T27 t241 x7_1).f1), .int .i64 ((rd_T27 t241 x7_1).f2), .int .i64 ((rd_T27 t241 x7_1).f3)], .agg #[.int .i64 a1_0, .int .i64 a1_1, .int .i64 a1_2]] ?_
    with_reducible refine (spec_l04Image.calls _ _ _ _ _ _ _ _ _ _ _ _ A10.out).mono ?_
    rintro e w15 ⟨rfl, hb⟩
    have HS3_ := hbc hb (hHeld.2.2.2.1)
    have HS4_ := hbc hb (hHeld.2.2.2.2.1)
    have HS5_ := hbc hb (hHeld.2.2.2.2.2.1)
    have HS6_ := hbc hb (hHeld.2.2.2.2.2.2)
    refine ⟨_, rfl, ?_⟩
    replace HO_5 := asd (Kd.R_below (kr HO_5) hb)
    replace HO_6 := asd (Kd.R_below (kr HO_6) hb)
    replace BK240 := bB BK240 hb
    replace HB := bS1 HB GE240 hb
    (try clear hb)
    (try clear hb2)
    (try clear hk)
    (try clear hi)
    refine hK.out _ _ ⟨bcl BK240 0, bcl BK240 1, bcl BK240 2, HS3_, HS4_, HS5_, HS6_⟩ (fun hHeld => ?_)
    clear hK K
    refine norm_ (a' := ?_) ?_ ?_
    rotate_left
    ·show Act.put _ (some 22) _ = _
     simp only [Act.put, sA, sB, sC, i64_w, i32_w]
     rfl
    refine pu 7 (some 24) (bT 8 8) HT_ ?_
    refine done_ (done_of HT_.out (by kernel_rfl)) ?_
   ·have p251 : 0 ≤ (x7_1 : Int) := od
    have q251 : x7_1 < (t241.length : Int) := od
    obtain ⟨ad251, e251, hx251_0, hx251_1, hx251_2, hx251_3⟩ := at_T27 (Kd.R_reads' HO_5.out).2.2 x7_1 p251 q251
    obtain rfl : ad247 = ad251 := (by injection e251)
    replace p251 := eq_true p251
    replace q251 := eq_true q251
    try go_wp2_with (first | ((with_reducible refine gate_builtin (b := .append) (xs := #[.tmp 25, .tmp 30]) rfl ?_); at_builtin; refine Kd.R_append k27 (w0 := w) w.heap.size rfl (.tmp 25) (.tmp 30) 77 27 (.agg #[(.int .i64 0), (.int .i64 0), (.int .i64 0), (.int .i64 0)]) 32 rfl Tryz.underlying77 info27 rfl (by decide) (by omega) u6 x6_1 (⟨(rd_T27 t241 x7_1).f0, (rd_T27 t241 x7_1).f1, (rd_T27 t241 x7_1).f2, (rd_T27 t241 x7_1).f3⟩ : S27) [.int .i64 ((rd_T27 t241 x7_1).f0), .int .i64 ((rd_T27 t241 x7_1).f1), .int .i64 ((rd_T27 t241 x7_1).f2), .int .i64 ((rd_T27 t241 x7_1).f3)] (fun k_ => some k_ ≠ (.slice (some ad247) t241.length co13 : Value).ownBlock) (fun _ => False) rfl rfl ?aP (fun _ hk => hk.elim) ?aF ?aO ?aB ?aS ?aL ?_; (case aP => exact k27_mkM _ _ _ (⟨(rd_T27 t241 x7_1).f0, (rd_T27 t241 x7_1).f1, (rd_T27 t241 x7_1).f2, (rd_T27 t241 x7_1).f3⟩ : S27)); (case aB => exact (bbw1 HB GE240)); (case aF => exact (fun k_ hk => Kd.fresh' (Kd.R_lt (kr HO_5)) k_ hk)); (case aO => exact (kr HO_6)); (case aS => exact (bsz1 HB GE240)); (case aL => have := LMc12.out; omega); intro v253 w16 ho hb hg hat; rw [← Ny252.out] at ho; have n0_ := asd (Kd.R_after (ok := (fun _ => True)) (by (with_reducible repeat (first | apply Kd.R_alloc | apply Kd.R_drewN | apply Kd.R_drew)); exact Kd.R_mono HO_5.out (fun _ hk => ⟨trivial, hk⟩)) hg hat); have n1_ := asd (blk_grown (g := gb240) (o := .cells #[.int .i64 a1_0, .int .i64 a1_1, .int .i64 a1_2] 25 (0, 0)) (bkp BK240) hg (Kd.R_ne HO_6.out BK240.out (by decide))); have n2_ := asd (hb); have n3_ := asd (ho); clear HO_5; clear BK240; clear HB; clear HO_6; have HO_5 := n0_; have BK240 := n1_; have HB := n2_; have HO254 := n3_; clear n0_ n1_ n2_ n3_; clear ho hb hg hat))
    go_roundg k1
    case measure => have := HK1.out; omega
    case rel => exact ⟨(y252), (wrap64 (x7_1 + 1)), (by first | rfl | (simp; done) | (simp [*]; done)), H', ⟨by have := HK1.out; omega⟩, ⟨by (with_reducible repeat (first | apply Kd.R_alloc | apply Kd.R_drewN | apply Kd.R_drew)); exact Kd.R_mono HO_5.out (fun _ hk => hk.2)⟩, ⟨by (with_reducible repeat (first | apply Kd.R_alloc | apply Kd.R_drewN | apply Kd.R_drew)); exact HO254.out⟩, ⟨bkp BK240⟩, ⟨bbw1 HB GE240⟩⟩
   ·try go_wp2
    go_roundg k1
    case measure => have := HK1.out; omega
    case rel => exact ⟨(x6_1), (wrap64 (x7_1 + 1)), (by first | rfl | (simp; done) | (simp [*]; done)), H', ⟨by have := HK1.out; omega⟩, ⟨by (with_reducible repeat (first | apply Kd.R_alloc | apply Kd.R_drewN | apply Kd.R_drew)); exact HO_5.out⟩, ⟨by (with_reducible repeat (first | apply Kd.R_alloc | apply Kd.R_drewN | apply Kd.R_drew)); exact HO_6.out⟩, ⟨bkp BK240⟩, ⟨bbw1 HB GE240⟩⟩

end Go.Proofs.YtedmadofpdkekaaGreat.PA
