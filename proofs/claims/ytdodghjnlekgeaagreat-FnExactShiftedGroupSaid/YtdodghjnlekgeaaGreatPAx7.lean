/- Walks written by program: each Go function that the law reaches comes to the plain function beside it. -/
import Derived.Test.YtdodghjnlekgeaaGreatPAx0
import Derived.Test.YtdodghjnlekgeaaGreatPAx6
namespace Go.Proofs.YtdodghjnlekgeaaGreat.PA
open Go.RowKit Go.Proofs.YtdodghjnlekgeaaGreatW.PrintWords Go.Proofs.YtdodghjnlekgeaaGreatW.PrintLast Go.Proofs.YtdodghjnlekgeaaGreatW.PrintMore
attribute [local go_sem] max2_int min2_int max_two min_two max_three min_three max_four min_four   -- for this text's walks alone
set_option linter.unusedVariables false
set_option linter.unusedSimpArgs false

/-! ### spec_l04Keeps: function 93 -/
def spec_l04Keeps.f (a0 : Int) (a1_0 : Int) (a1_1 : Int) (a1_2 : Int) (a1_3 : Int) : Option (Bool) := (spec_l04Norm.f a0 a1_0 a1_2).bind fun t190 => (if t190 = 1 then ((spec_l04Norm.f a0 a1_1 a1_3).bind fun t191 => (if t191 = 1 then ((spec_l01Add.f a1_0 a1_2 a1_1 a1_3).bind fun bt192 => ((spec_l04Norm.f a0 bt192.1 bt192.2).bind fun t194 => (some (t194 == (wrap64 (2 + a0)))))) else (some false))) else (some false))
def spec_l04Keeps.T1 : Bool × List (List Nat × List Nat) := (true, [([], []), ([0], [0]), ([], []), ([2], [2]), ([1, 3], [1, 3]), ([], []), ([5], [5]), ([], []), ([7], [7]), ([6, 8], [6, 8]), ([], []), ([], []), ([10, 4, 0, 1, 2, 3, 4, 10, 11], [4, 10]), ([11, 9, 12, 0, 1, 2, 3, 4, 5, 6, 7, 8, 9, 10, 11, 12], [9, 11])])
def spec_l04Keeps.B1 : List Nat := [0, 1, 0, 4, 15, 0, 32, 0, 128, 480, 0, 0, 3103, 8191]
theorem spec_l04Keeps.tab1 : rtab .any (opsOf Tryz.f93 1) = spec_l04Keeps.T1 := by kernel_rfl
theorem spec_l04Keeps.bits1 : waitsOk spec_l04Keeps.T1.2 spec_l04Keeps.B1 = true := by kernel_rfl
set_option maxHeartbeats 8000000 in
set_option maxRecDepth 100000 in
theorem spec_l04Keeps.calls (a0 : Int) (a1_0 : Int) (a1_1 : Int) (a1_2 : Int) (a1_3 : Int) (r : Bool) (w : World) (h : spec_l04Keeps.f a0 a1_0 a1_1 a1_2 a1_3 = some r) :
  Calls Tryz.prog 93 #[.int .i64 a0, .agg #[.int .i64 a1_0, .int .i64 a1_1, .int .i64 a1_2, .int .i64 a1_3]] w fun e w' => e = .returned (.bool r) ∧ Below w.heap.size w w' := by
 have hu46 := Tryz.underlying46
 have hu38 := Tryz.underlying38
 have HB := asd (Below.refl w.heap.size w)
 have H : ((spec_l04Norm.f a0 a1_0 a1_2).bind fun t190 => (if t190 = 1 then ((spec_l04Norm.f a0 a1_1 a1_3).bind fun t191 => (if t191 = 1 then ((spec_l01Add.f a1_0 a1_2 a1_1 a1_3).bind fun bt192 => ((spec_l04Norm.f a0 bt192.1 bt192.2).bind fun t194 => (some (t194 == (wrap64 (2 + a0)))))) else (some false))) else (some false))) = some r := h
 clear h
 obtain ⟨t190, A3, H⟩ := ob H
 try dsimp only at H
 by_cases c4 : t190 = 1
 rw [if_pos c4] at H
 have c4b0 : (t190 == 1) = true := beq_iff_eq.mpr c4
 have c4b1 : (t190 != 1) = false := bne_eq_false_iff_eq.mpr c4
 clear c4
 obtain ⟨t191, A5, H⟩ := ob H
 try dsimp only at H
 by_cases c6 : t191 = 1
 rw [if_pos c6] at H
 have c6b0 : (t191 == 1) = true := beq_iff_eq.mpr c6
 have c6b1 : (t191 != 1) = false := bne_eq_false_iff_eq.mpr c6
 clear c6
 obtain ⟨⟨t192, t193⟩, A7, H⟩ := ob H
 try dsimp only at H
 obtain ⟨t194, A8, H⟩ := ob H
 try dsimp only at H
 obtain rfl := Option.some.inj H
 rotate_left
 rw [if_neg c6] at H
 have c6b0 : (t191 == 1) = false := beq_eq_false_iff_ne.mpr c6
 have c6b1 : (t191 != 1) = true := bne_iff_ne.mpr c6
 obtain rfl := Option.some.inj H
 rotate_left
 rw [if_neg c4] at H
 have c4b0 : (t190 == 1) = false := beq_eq_false_iff_ne.mpr c4
 have c4b1 : (t190 != 1) = true := bne_iff_ne.mpr c4
 obtain rfl := Option.some.inj H
 rotate_left
 all_goals
  go_enter Tryz.func93, Tryz.ntmps93
  try go_wp2_with (first | ((with_reducible refine gd 3 rfl ?_); refine bx #[.int .i64 a1_0, .int .i64 a1_1, .int .i64 a1_2, .int .i64 a1_3] 46 ?_; intro gb187 hg w9 BK187 hb; have GE187 := ngw0 hg HB; replace HB := bS0 HB hb; clear hb hg))
  replace BK187 := asd (blk_drew BK187.out)
  replace HB := asd (below_drew1 HB.out)
  refine sh 14 (eb4 BK187) (fun hHeld => ?_); refine with_tabW spec_l04Keeps.tab1 spec_l04Keeps.bits1 (fun HT_ HW_ => ?_)
  generalize w9.drew = w10 at BK187 HB hHeld ⊢
  refine pu 0 (some 7) (bT 14 1) HT_ ?_
  refine pu 2 (some 9) (bs 14 5) HT_ ?_
  refine pu 5 (some 12) (bs 14 37) HT_ ?_
  refine pu 7 (some 14) (bs 14 165) HT_ ?_
  refine ta 1 (some 8) (bs 14 167) HT_ HW_ hHeld ?_
  refine ta 3 (some 10) (bs 14 175) HT_ HW_ hHeld ?_
  refine pu 4 (some 11) (bs 14 191) HT_ ?_
  refine ta 6 (some 13) (bT 14 8) HT_ HW_ hHeld ?_
  refine ta 8 (some 15) (bT 14 9) HT_ HW_ hHeld ?_
  refine pu 9 (some 16) (bT 14 10) HT_ ?_
  refine join_ (σ := Nat × Nat) 2 (bT 14 12) (fun s_ => [(5, .pointer (some ⟨s_.1, 0, none⟩)), (6, .pointer (some ⟨s_.2, 0, none⟩))]) (fun s_ w' => (w'.cell? ⟨gb187, 0, none⟩ = some (.int .i64 a1_0) ∧ w'.cell? ⟨gb187, 1, none⟩ = some (.int .i64 a1_1) ∧ w'.cell? ⟨gb187, 2, none⟩ = some (.int .i64 a1_2) ∧ w'.cell? ⟨gb187, 3, none⟩ = some (.int .i64 a1_3)) ∧ (w'.heap[gb187]? = some (.cells #[.int .i64 a1_0, .int .i64 a1_1, .int .i64 a1_2, .int .i64 a1_3] 46 (0, 0))) ∧ (w'.heap[s_.1]? = some (.cells #[.int .i64 0, .int .i64 0] 38 (0, 0))) ∧ (w'.heap[s_.2]? = some (.cells #[.int .i64 0, .int .i64 0] 38 (0, 0))) ∧ (w.heap.size ≤ s_.1) ∧ (w.heap.size ≤ s_.1) ∧ (gb187 ≠ s_.1) ∧ (s_.1 ≠ gb187) ∧ (s_.2 ≠ s_.1) ∧ (s_.1 ≠ s_.2) ∧ (w.heap.size ≤ s_.2) ∧ (w.heap.size ≤ s_.2) ∧ (gb187 ≠ s_.2) ∧ (s_.2 ≠ gb187) ∧ (Below w.heap.size w w')) ?_ ?_
  rotate_left
  ·intro hCont
   refine two_ (i := 10) (j := 11) (Ni := some 5) (Nj := some 6) (bT 14 11) (bs 14 3071) rfl rfl rfl rfl (two_of HT_.out (by kernel_rfl)) (by decide) (by decide) (fun K hK => ?_) (fun K hK => ?_)
   ·skip
    refine box_step ?hg (N := 5) ?hd (cs := #[.int .i64 0, .int .i64 0]) (t := 38) ?hr ?_; (case hd => rfl); (case hg => rfl); (case hr => first | (go_simp; done) | (go_simp; rfl))
    intro gb188 hg w11 hbox hb
    have BK188 := asd (hbox)
    have GW188 := ngw1 hg HB GE187
    have GE188 := ngw1 hg HB GE187
    replace HB := bS1 HB GE187 hb
    have NB187_188 := nlt hg BK187
    have NB188_187 := nsy (nlt hg BK187)
    replace BK187 := bB BK187 hb
    clear hb hbox hg
    refine hK.out _ _ (eb4 BK187).out (fun hHeld => ?_)
    clear hK K
    refine norm_ (a' := ?_) ?_ ?_
    rotate_left
    ·show Act.put _ (some 5) _ = _
     simp only [Act.put, sA, sB, sC, i64_w, i32_w]
     rfl
    refine ro 11 (some 6) (bT 14 12) HT_ (fun K hK => ?_)
    refine box_step ?hg (N := 6) ?hd (cs := #[.int .i64 0, .int .i64 0]) (t := 38) ?hr ?_; (case hd => rfl); (case hg => rfl); (case hr => first | (go_simp; done) | (go_simp; rfl))
    intro gb189 hg w12 hbox hb
    have BK189 := asd (hbox)
    have GW189 := ngw2 hg HB GE187 GE188
    have GE189 := ngw2 hg HB GE187 GE188
    replace HB := bS2 HB GE187 GE188 hb
    have NB187_189 := nlt hg BK187
    have NB189_187 := nsy (nlt hg BK187)
    replace BK187 := bB BK187 hb
    have NB188_189 := nlt hg BK188
    have NB189_188 := nsy (nlt hg BK188)
    replace BK188 := bB BK188 hb
    clear hb hbox hg
    refine hK.out _ _ (eb4 BK187).out (fun hHeld => ?_)
    clear hK K
    refine norm_ (a' := ?_) ?_ ?_
    rotate_left
    ·show Act.put _ (some 6) _ = _
     simp only [Act.put, sA, sB, sC, i64_w, i32_w]
     rfl
    exact norm_ (by simp only [putAll, Act.put, sA, sB, sC]) (hCont (gb188, gb189) _ ⟨hHeld, (bkp BK187), (bkp BK188), (bkp BK189), GW188.out, GE188.out, NB187_188.out, NB188_187.out, NB189_188.out, NB188_189.out, GW189.out, GE189.out, NB187_189.out, NB189_187.out, (bbw3 HB GE187 GE188 GE189)⟩)
   ·skip
    refine box_step ?hg (N := 6) ?hd (cs := #[.int .i64 0, .int .i64 0]) (t := 38) ?hr ?_; (case hd => rfl); (case hg => rfl); (case hr => first | (go_simp; done) | (go_simp; rfl))
    intro gb189 hg w11 hbox hb
    have BK189 := asd (hbox)
    have GW189 := ngw1 hg HB GE187
    have GE189 := ngw1 hg HB GE187
    replace HB := bS1 HB GE187 hb
    have NB187_189 := nlt hg BK187
    have NB189_187 := nsy (nlt hg BK187)
    replace BK187 := bB BK187 hb
    clear hb hbox hg
    refine hK.out _ _ (eb4 BK187).out (fun hHeld => ?_)
    clear hK K
    refine norm_ (a' := ?_) ?_ ?_
    rotate_left
    ·show Act.put _ (some 6) _ = _
     simp only [Act.put, sA, sB, sC, i64_w, i32_w]
     rfl
    refine ro 10 (some 5) (bT 14 12) HT_ (fun K hK => ?_)
    refine box_step ?hg (N := 5) ?hd (cs := #[.int .i64 0, .int .i64 0]) (t := 38) ?hr ?_; (case hd => rfl); (case hg => rfl); (case hr => first | (go_simp; done) | (go_simp; rfl))
    intro gb188 hg w12 hbox hb
    have BK188 := asd (hbox)
    have GW188 := ngw2 hg HB GE187 GE189
    have GE188 := ngw2 hg HB GE187 GE189
    replace HB := bS2 HB GE187 GE189 hb
    have NB187_188 := nlt hg BK187
    have NB188_187 := nsy (nlt hg BK187)
    replace BK187 := bB BK187 hb
    have NB189_188 := nlt hg BK189
    have NB188_189 := nsy (nlt hg BK189)
    replace BK189 := bB BK189 hb
    clear hb hbox hg
    refine hK.out _ _ (eb4 BK187).out (fun hHeld => ?_)
    clear hK K
    refine norm_ (a' := ?_) ?_ ?_
    rotate_left
    ·show Act.put _ (some 5) _ = _
     simp only [Act.put, sA, sB, sC, i64_w, i32_w]
     rfl
    exact norm_ (by simp only [putAll, Act.put, sA, sB, sC]) (hCont (gb188, gb189) _ ⟨hHeld, (bkp BK187), (bkp BK188), (bkp BK189), GW188.out, GE188.out, NB187_188.out, NB188_187.out, NB189_188.out, NB188_189.out, GW189.out, GE189.out, NB187_189.out, NB189_187.out, (bbw3 HB GE187 GE189 GE188)⟩)
  rintro ⟨gb188, gb189⟩ w13 ⟨hS_, h0_, h1_, h2_, h3_, h4_, h5_, h6_, h7_, h8_, h9_, h10_, h11_, h12_, h13_⟩
  have n0_ : Aside0 (w13.heap[gb187]? = some (.cells #[.int .i64 a1_0, .int .i64 a1_1, .int .i64 a1_2, .int .i64 a1_3] 46 (0, 0))) := ⟨h0_⟩
  have n1_ : Aside0 (w13.heap[gb188]? = some (.cells #[.int .i64 0, .int .i64 0] 38 (0, 0))) := ⟨h1_⟩
  have n2_ : Aside0 (w13.heap[gb189]? = some (.cells #[.int .i64 0, .int .i64 0] 38 (0, 0))) := ⟨h2_⟩
  have n3_ : Aside0 (w.heap.size ≤ gb188) := ⟨h3_⟩
  have n4_ : Aside0 (w.heap.size ≤ gb188) := ⟨h4_⟩
  have n5_ : Aside0 (gb187 ≠ gb188) := ⟨h5_⟩
  have n6_ : Aside0 (gb188 ≠ gb187) := ⟨h6_⟩
  have n7_ : Aside0 (gb189 ≠ gb188) := ⟨h7_⟩
  have n8_ : Aside0 (gb188 ≠ gb189) := ⟨h8_⟩
  have n9_ : Aside0 (w.heap.size ≤ gb189) := ⟨h9_⟩
  have n10_ : Aside0 (w.heap.size ≤ gb189) := ⟨h10_⟩
  have n11_ : Aside0 (gb187 ≠ gb189) := ⟨h11_⟩
  have n12_ : Aside0 (gb189 ≠ gb187) := ⟨h12_⟩
  have n13_ : Aside0 (Below w.heap.size w w13) := ⟨h13_⟩
  clear BK187
  clear HB
  clear h0_ h1_ h2_ h3_ h4_ h5_ h6_ h7_ h8_ h9_ h10_ h11_ h12_ h13_
  have BK187 := n0_
  have BK188 := n1_
  have BK189 := n2_
  have GW188 := n3_
  have GE188 := n4_
  have NB187_188 := n5_
  have NB188_187 := n6_
  have NB189_188 := n7_
  have NB188_189 := n8_
  have GW189 := n9_
  have GE189 := n10_
  have NB187_189 := n11_
  have NB189_187 := n12_
  have HB := n13_
  clear n0_ n1_ n2_ n3_ n4_ n5_ n6_ n7_ n8_ n9_ n10_ n11_ n12_ n13_
  have hHeld : w13.cell? ⟨gb187, 0, none⟩ = some (.int .i64 a1_0) ∧ w13.cell? ⟨gb187, 1, none⟩ = some (.int .i64 a1_1) ∧ w13.cell? ⟨gb187, 2, none⟩ = some (.int .i64 a1_2) ∧ w13.cell? ⟨gb187, 3, none⟩ = some (.int .i64 a1_3) := hS_
  refine norm_ (a' := ?_) ?_ ?_
  rotate_left
  ·simp only [putAll, Act.put, sA, sB, sC]
   rfl
  refine ro 12 (none) (bT 14 13) HT_ (fun K hK => ?_)
  have hs14 : w13.cell? ⟨gb188, 0, none⟩ = some (.int .i64 0) := bcl BK188 0
  have hfs14 := blk_frozen BK188.out 0
  have hns14_0 := NB187_188.out
  have hns14_2 := NB189_188.out
  have hms14_0 := NB188_187.out
  have hms14_2 := NB188_189.out
  have hs15 : w13.cell? ⟨gb188, 1, none⟩ = some (.int .i64 0) := bcl BK188 1
  have hfs15 := blk_frozen BK188.out 1
  have hns15_0 := NB187_188.out
  have hns15_2 := NB189_188.out
  have hms15_0 := NB188_187.out
  have hms15_2 := NB188_189.out
  refine skip_ (w1 := ?_) (by rfl) rfl ?_ ?_
  rotate_left
  ·go_simp
   rfl
  refine hK.out _ _ ⟨(cf NB187_188 ((cf NB187_188 (hHeld.1)))), (cf NB187_188 ((cf NB187_188 (hHeld.2.1)))), (cf NB187_188 ((cf NB187_188 (hHeld.2.2.1)))), (cf NB187_188 ((cf NB187_188 (hHeld.2.2.2))))⟩ (fun hHeld => ?_)
  clear hK K
  refine ro 13 (none) (bT 14 14) HT_ (fun K hK => ?_)
  have hs16 : w13.cell? ⟨gb189, 0, none⟩ = some (.int .i64 0) := bcl BK189 0
  have hfs16 := blk_frozen BK189.out 0
  have hns16_0 := NB187_189.out
  have hns16_1 := NB188_189.out
  have hms16_0 := NB189_187.out
  have hms16_1 := NB189_188.out
  have hs17 : w13.cell? ⟨gb189, 1, none⟩ = some (.int .i64 0) := bcl BK189 1
  have hfs17 := blk_frozen BK189.out 1
  have hns17_0 := NB187_189.out
  have hns17_1 := NB188_189.out
  have hms17_0 := NB189_187.out
  have hms17_1 := NB189_188.out
  refine skip_ (w1 := ?_) (by rfl) rfl ?_ ?_
  rotate_left
  ·go_simp
   rfl
  refine hK.out _ _ ⟨(cf NB187_189 ((cf NB187_189 (hHeld.1)))), (cf NB187_189 ((cf NB187_189 (hHeld.2.1)))), (cf NB187_189 ((cf NB187_189 (hHeld.2.2.1)))), (cf NB187_189 ((cf NB187_189 (hHeld.2.2.2))))⟩ (fun hHeld => ?_)
  clear hK K
  refine done_ (done_of HT_.out (by kernel_rfl)) ?_
  have hnb18 := NB188_187.out
  have hnc18 := NB187_188.out
  have hnb19 := NB188_189.out
  have hnc19 := NB189_188.out
  obtain ⟨hcz20_0, hcz20_1, hfz20_0, hfz20_1⟩ := bz2 BK188
 try go_wp2_with (first | ((with_reducible refine gate_callee (f := 118) rfl ?_); refine gl 19 Tryz.func118 #[.int .i64 a0, .agg #[.int .i64 a1_0, .int .i64 a1_2]] ?_; (with_reducible refine (spec_l04Norm.calls _ _ _ _ _ A3.out).mono ?_); rintro e w21 ⟨rfl, hb⟩; refine ⟨_, rfl, ?_⟩; replace BK187 := asd (blk_below (g := gb187) (o := .cells #[.int .i64 a1_0, .int .i64 a1_1, .int .i64 a1_2, .int .i64 a1_3] 46 (0, 0)) (bq2 BK187 NB187_189 NB187_188) hb); replace BK188 := asd (blk_below (g := gb188) (o := .cells #[.int .i64 a1_0, .int .i64 a1_2] 38 (0, 0)) (bq1 BK188 NB188_189) hb); replace BK189 := asd (blk_below (g := gb189) (o := .cells #[.int .i64 a1_1, .int .i64 a1_3] 38 (0, 0)) (bq1 BK189 NB189_188) hb); replace HB := bS3 HB GE187 GE188 GE189 hb; (try clear hb); have hnb22 := NB189_187.out; have hnc22 := NB187_189.out; obtain ⟨hcz23_0, hcz23_1, hfz23_0, hfz23_1⟩ := bz2 BK189) | (go_at_call 118; (with_reducible refine (spec_l04Norm.calls _ _ _ _ _ A5.out).mono ?_); rintro e w24 ⟨rfl, hb⟩; replace BK187 := bB BK187 hb; replace BK188 := bB BK188 hb; replace BK189 := bB BK189 hb; replace HB := bS3 HB GE187 GE188 GE189 hb; (try clear hb); obtain ⟨hcz25_0, hcz25_1, hfz25_0, hfz25_1⟩ := bz2 BK188; obtain ⟨hcz26_0, hcz26_1, hfz26_0, hfz26_1⟩ := bz2 BK189) | (go_at_call 41; (with_reducible refine (spec_l01Add.calls _ _ _ _ _ _ _ A7.out).mono ?_); rintro e w27 ⟨rfl, hb⟩; replace BK187 := bB BK187 hb; replace BK188 := bB BK188 hb; replace BK189 := bB BK189 hb; replace HB := bS3 HB GE187 GE188 GE189 hb; (try clear hb)) | (go_at_call 118; (with_reducible refine (spec_l04Norm.calls _ _ _ _ _ A8.out).mono ?_); rintro e w28 ⟨rfl, hb⟩; replace BK187 := bB BK187 hb; replace BK188 := bB BK188 hb; replace BK189 := bB BK189 hb; replace HB := bS3 HB GE187 GE188 GE189 hb; (try clear hb)))
 rotate_left
 try go_wp2_with (first | ((with_reducible refine gate_callee (f := 118) rfl ?_); refine gl 19 Tryz.func118 #[.int .i64 a0, .agg #[.int .i64 a1_0, .int .i64 a1_2]] ?_; (with_reducible refine (spec_l04Norm.calls _ _ _ _ _ A3.out).mono ?_); rintro e w41 ⟨rfl, hb⟩; refine ⟨_, rfl, ?_⟩; replace BK187 := asd (blk_below (g := gb187) (o := .cells #[.int .i64 a1_0, .int .i64 a1_1, .int .i64 a1_2, .int .i64 a1_3] 46 (0, 0)) (bq2 BK187 NB187_189 NB187_188) hb); replace BK188 := asd (blk_below (g := gb188) (o := .cells #[.int .i64 a1_0, .int .i64 a1_2] 38 (0, 0)) (bq1 BK188 NB188_189) hb); replace BK189 := asd (blk_below (g := gb189) (o := .cells #[.int .i64 a1_1, .int .i64 a1_3] 38 (0, 0)) (bq1 BK189 NB189_188) hb); replace HB := bS3 HB GE187 GE188 GE189 hb; (try clear hb); have hnb42 := NB189_187.out; have hnc42 := NB187_189.out; obtain ⟨hcz43_0, hcz43_1, hfz43_0, hfz43_1⟩ := bz2 BK189) | (go_at_call 118; (with_reducible refine (spec_l04Norm.calls _ _ _ _ _ A5.out).mono ?_); rintro e w44 ⟨rfl, hb⟩; replace BK187 := bB BK187 hb; replace BK188 := bB BK188 hb; replace BK189 := bB BK189 hb; replace HB := bS3 HB GE187 GE188 GE189 hb; (try clear hb)))
 rotate_left
 try go_wp2_with (first | ((with_reducible refine gate_callee (f := 118) rfl ?_); refine gl 19 Tryz.func118 #[.int .i64 a0, .agg #[.int .i64 a1_0, .int .i64 a1_2]] ?_; (with_reducible refine (spec_l04Norm.calls _ _ _ _ _ A3.out).mono ?_); rintro e w57 ⟨rfl, hb⟩; refine ⟨_, rfl, ?_⟩; replace BK187 := asd (blk_below (g := gb187) (o := .cells #[.int .i64 a1_0, .int .i64 a1_1, .int .i64 a1_2, .int .i64 a1_3] 46 (0, 0)) (bq2 BK187 NB187_189 NB187_188) hb); replace BK188 := asd (blk_below (g := gb188) (o := .cells #[.int .i64 a1_0, .int .i64 a1_2] 38 (0, 0)) (bq1 BK188 NB188_189) hb); replace BK189 := asd (blk_below (g := gb189) (o := .cells #[.int .i64 a1_1, .int .i64 a1_3] 38 (0, 0)) (bq1 BK189 NB189_188) hb); replace HB := bS3 HB GE187 GE188 GE189 hb; (try clear hb)))
 rotate_left
 all_goals
  go_ret
  exact er (bbw3 HB GE187 GE188 GE189)
/-! ### spec_IsPointMat: function 61 -/
def spec_IsPointMat.f (a0 : Int) (a1_0 : Int) (a1_1 : Int) (a1_2 : Int) (a1_3 : Int) : Option (Bool) := (spec_IsFrame.f a0).bind fun t196 => (if t196 = true then ((spec_IsMat.f a1_0 a1_1 a1_2 a1_3).bind fun t197 => (if t197 = true then ((spec_l04Keeps.f a0 a1_0 a1_1 a1_2 a1_3).bind fun t198 => (some t198)) else (some false))) else (some false))
set_option maxHeartbeats 8000000 in
set_option maxRecDepth 100000 in
theorem spec_IsPointMat.calls (a0 : Int) (a1_0 : Int) (a1_1 : Int) (a1_2 : Int) (a1_3 : Int) (r : Bool) (w : World) (h : spec_IsPointMat.f a0 a1_0 a1_1 a1_2 a1_3 = some r) :
  Calls Tryz.prog 61 #[.int .i64 a0, .agg #[.int .i64 a1_0, .int .i64 a1_1, .int .i64 a1_2, .int .i64 a1_3]] w fun e w' => e = .returned (.bool r) ∧ Below w.heap.size w w' := by
 have hu46 := Tryz.underlying46
 have HB := asd (Below.refl w.heap.size w)
 have H : ((spec_IsFrame.f a0).bind fun t196 => (if t196 = true then ((spec_IsMat.f a1_0 a1_1 a1_2 a1_3).bind fun t197 => (if t197 = true then ((spec_l04Keeps.f a0 a1_0 a1_1 a1_2 a1_3).bind fun t198 => (some t198)) else (some false))) else (some false))) = some r := h
 clear h
 obtain ⟨t196, A3, H⟩ := ob H
 try dsimp only at H
 by_cases c4 : t196 = true
 ·subst c4
  replace H := ifT H
  obtain ⟨t197, A5, H⟩ := ob H
  try dsimp only at H
  by_cases c6 : t197 = true
  ·subst c6
   replace H := ifT H
   obtain ⟨t198, A7, H⟩ := ob H
   try dsimp only at H
   obtain rfl := Option.some.inj H
   go_enter Tryz.func61, Tryz.ntmps61
   go_wp2_with (first | ((with_reducible refine gd 3 rfl ?_); refine bx #[.int .i64 a1_0, .int .i64 a1_1, .int .i64 a1_2, .int .i64 a1_3] 46 ?_; intro gb195 hg w8 BK195 hb; have GE195 := ngw0 hg HB; replace HB := bS0 HB hb; clear hb hg) | ((with_reducible refine gate_callee (f := 90) rfl ?_); refine gl 6 Tryz.func90 #[.int .i64 a0] ?_; (with_reducible refine (spec_IsFrame.calls _ _ _ A3.out).mono ?_); rintro e w' ⟨rfl, ⟨nd, rfl⟩⟩; refine ⟨_, rfl, ?_⟩; have hcz9_0 : w8.cell? ⟨gb195, 0, none⟩ = some (.int .i64 a1_0) := bcl BK195 0; have hcz9_1 : w8.cell? ⟨gb195, 1, none⟩ = some (.int .i64 a1_1) := bcl BK195 1; have hcz9_2 : w8.cell? ⟨gb195, 2, none⟩ = some (.int .i64 a1_2) := bcl BK195 2; have hcz9_3 : w8.cell? ⟨gb195, 3, none⟩ = some (.int .i64 a1_3) := bcl BK195 3; have hfz9_0 := blk_frozen BK195.out 0; have hfz9_1 := blk_frozen BK195.out 1; have hfz9_2 := blk_frozen BK195.out 2; have hfz9_3 := blk_frozen BK195.out 3) | (go_at_call 92; (with_reducible refine (spec_IsMat.calls _ _ _ _ _ _ A5.out).mono ?_); rintro e w10 ⟨rfl, hb⟩; replace BK195 := bB BK195 hb; replace HB := bS1 HB GE195 hb; (try clear hb); obtain ⟨hcz11_0, hcz11_1, hcz11_2, hcz11_3, hfz11_0, hfz11_1, hfz11_2, hfz11_3⟩ := bz4 BK195) | (go_at_call 93; (with_reducible refine (spec_l04Keeps.calls _ _ _ _ _ _ _ A7.out).mono ?_); rintro e w12 ⟨rfl, hb⟩; replace BK195 := bB BK195 hb; replace HB := bS1 HB GE195 hb; (try clear hb)))
   go_ret
   exact er (bbw1 HB GE195)
  ·replace c6 := Bool.eq_false_iff.mpr c6
   subst c6
   replace H := ifF H
   obtain rfl := Option.some.inj H
   go_enter Tryz.func61, Tryz.ntmps61
   go_wp2_with (first | ((with_reducible refine gd 3 rfl ?_); refine bx #[.int .i64 a1_0, .int .i64 a1_1, .int .i64 a1_2, .int .i64 a1_3] 46 ?_; intro gb195 hg w13 BK195 hb; have GE195 := ngw0 hg HB; replace HB := bS0 HB hb; clear hb hg) | ((with_reducible refine gate_callee (f := 90) rfl ?_); refine gl 6 Tryz.func90 #[.int .i64 a0] ?_; (with_reducible refine (spec_IsFrame.calls _ _ _ A3.out).mono ?_); rintro e w' ⟨rfl, ⟨nd, rfl⟩⟩; refine ⟨_, rfl, ?_⟩; have hcz14_0 : w13.cell? ⟨gb195, 0, none⟩ = some (.int .i64 a1_0) := bcl BK195 0; have hcz14_1 : w13.cell? ⟨gb195, 1, none⟩ = some (.int .i64 a1_1) := bcl BK195 1; have hcz14_2 : w13.cell? ⟨gb195, 2, none⟩ = some (.int .i64 a1_2) := bcl BK195 2; have hcz14_3 : w13.cell? ⟨gb195, 3, none⟩ = some (.int .i64 a1_3) := bcl BK195 3; have hfz14_0 := blk_frozen BK195.out 0; have hfz14_1 := blk_frozen BK195.out 1; have hfz14_2 := blk_frozen BK195.out 2; have hfz14_3 := blk_frozen BK195.out 3) | (go_at_call 92; (with_reducible refine (spec_IsMat.calls _ _ _ _ _ _ A5.out).mono ?_); rintro e w15 ⟨rfl, hb⟩; replace BK195 := bB BK195 hb; replace HB := bS1 HB GE195 hb; (try clear hb)))
   go_ret
   exact er (bbw1 HB GE195)
 ·replace c4 := Bool.eq_false_iff.mpr c4
  subst c4
  replace H := ifF H
  obtain rfl := Option.some.inj H
  go_enter Tryz.func61, Tryz.ntmps61
  go_wp2_with (first | ((with_reducible refine gd 3 rfl ?_); refine bx #[.int .i64 a1_0, .int .i64 a1_1, .int .i64 a1_2, .int .i64 a1_3] 46 ?_; intro gb195 hg w16 BK195 hb; have GE195 := ngw0 hg HB; replace HB := bS0 HB hb; clear hb hg) | ((with_reducible refine gate_callee (f := 90) rfl ?_); refine gl 6 Tryz.func90 #[.int .i64 a0] ?_; (with_reducible refine (spec_IsFrame.calls _ _ _ A3.out).mono ?_); rintro e w' ⟨rfl, ⟨nd, rfl⟩⟩; refine ⟨_, rfl, ?_⟩))
  go_ret
  exact er (bbw1 HB GE195)
/-! ### spec_l02Apply: function 43 -/
def spec_l02Apply.f (a0_0 : Int) (a0_1 : Int) (a0_2 : Int) (a0_3 : Int) (a1_0 : Int) (a1_1 : Int) : Option (Int × Int) := some (wrap64 ((wrap64 (a0_0 * a1_0)) + (wrap64 (a0_1 * a1_1))), wrap64 ((wrap64 (a0_2 * a1_0)) + (wrap64 (a0_3 * a1_1))))
set_option maxHeartbeats 8000000 in
set_option maxRecDepth 100000 in
theorem spec_l02Apply.calls (a0_0 : Int) (a0_1 : Int) (a0_2 : Int) (a0_3 : Int) (a1_0 : Int) (a1_1 : Int) (r1 : Int) (r2 : Int) (w : World) (h : spec_l02Apply.f a0_0 a0_1 a0_2 a0_3 a1_0 a1_1 = some (r1, r2)) :
  Calls Tryz.prog 43 #[.agg #[.int .i64 a0_0, .int .i64 a0_1, .int .i64 a0_2, .int .i64 a0_3], .agg #[.int .i64 a1_0, .int .i64 a1_1]] w fun e w' => e = .returned (.agg #[.int .i64 r1, .int .i64 r2]) ∧ Below w.heap.size w w' := by
 have hu46 := Tryz.underlying46
 have hu38 := Tryz.underlying38
 have HB := asd (Below.refl w.heap.size w)
 have H : (some (wrap64 ((wrap64 (a0_0 * a1_0)) + (wrap64 (a0_1 * a1_1))), wrap64 ((wrap64 (a0_2 * a1_0)) + (wrap64 (a0_3 * a1_1))))) = some (r1, r2) := h
 clear h
 simp only [Option.some.injEq, Prod.mk.injEq] at H
 obtain ⟨rfl, rfl⟩ := H
 go_enter Tryz.func43, Tryz.ntmps43
 go_wp2_with (first | ((with_reducible refine gd 2 rfl ?_); refine bx #[.int .i64 a0_0, .int .i64 a0_1, .int .i64 a0_2, .int .i64 a0_3] 46 ?_; intro gb199 hg w3 BK199 hb; have GE199 := ngw0 hg HB; replace HB := bS0 HB hb; clear hb hg) | ((with_reducible refine gd 3 rfl ?_); refine bx #[.int .i64 a1_0, .int .i64 a1_1] 38 ?_; intro gb200 hg w4 BK200 hb; have GE200 := ngw1 hg HB GE199; replace HB := bS1 HB GE199 hb; have NB199_200 := nlt hg BK199; have NB200_199 := nsy (nlt hg BK199); replace BK199 := bB BK199 hb; clear hb hg) | ((with_reducible refine gd 4 rfl ?_); refine bx #[.int .i64 0, .int .i64 0] 38 ?_; intro gb201 hg w5 BK201 hb; have GE201 := ngw2 hg HB GE199 GE200; replace HB := bS2 HB GE199 GE200 hb; have NB199_201 := nlt hg BK199; have NB201_199 := nsy (nlt hg BK199); replace BK199 := bB BK199 hb; have NB200_201 := nlt hg BK200; have NB201_200 := nsy (nlt hg BK200); replace BK200 := bB BK200 hb; clear hb hg; have hnb6 := NB199_200.out; have hnc6 := NB200_199.out; have hnb7 := NB199_201.out; have hnc7 := NB201_199.out; obtain ⟨hcz8_0, hcz8_1, hcz8_2, hcz8_3, hfz8_0, hfz8_1, hfz8_2, hfz8_3⟩ := bz4 BK199; have hnb9 := NB200_201.out; have hnc9 := NB201_200.out; obtain ⟨hcz10_0, hcz10_1, hfz10_0, hfz10_1⟩ := bz2 BK200; obtain ⟨hcz11_0, hcz11_1, hfz11_0, hfz11_1⟩ := bz2 BK201))
 refine bodyPost_ret (results_cell_row rfl _ _ gb201 38 #[.int .i64 (wrap64 ((wrap64 (a0_0 * a1_0)) + (wrap64 (a0_1 * a1_1)))), .int .i64 (wrap64 ((wrap64 (a0_2 * a1_0)) + (wrap64 (a0_3 * a1_1))))] (0, 0) _ rfl (bq0 BK201) Tryz.underlying38 rfl (by kernel_rfl)) rfl ?_
 exact er (bbw3 HB GE199 GE200 GE201)
/-! ### spec_l03Basis: function 94 -/
def spec_l03Basis.f (a0_0 : Int) (a0_1 : Int) (a0_2 : Int) : Option ((List (S38))) := some (([(⟨a0_0, 0⟩ : S38), (⟨a0_1, a0_2⟩ : S38)] : List (S38)))
set_option maxHeartbeats 8000000 in
set_option maxRecDepth 100000 in
theorem spec_l03Basis.calls (a0_0 : Int) (a0_1 : Int) (a0_2 : Int) (r : List (S38)) (w : World) (h : spec_l03Basis.f a0_0 a0_1 a0_2 = some r) :
  Calls Tryz.prog 94 #[.agg #[.int .i64 a0_0, .int .i64 a0_1, .int .i64 a0_2]] w fun e w' => ∃ v0_ : Value, e = .returned (v0_) ∧ Kd.R k38 38 w' w.heap.size (fun _ => True) v0_ r ∧ Below w.heap.size w w' := by
 have hu29 := Tryz.underlying29
 have hu38 := Tryz.underlying38
 have HB := asd (Below.refl w.heap.size w)
 have H : (some (([(⟨a0_0, 0⟩ : S38), (⟨a0_1, a0_2⟩ : S38)] : List (S38)))) = some r := h
 clear h
 obtain ⟨y203, hy203⟩ : ∃ y_ : List (S38), y_ = (([(⟨a0_0, 0⟩ : S38), (⟨a0_1, a0_2⟩ : S38)] : List (S38))) := ⟨_, rfl⟩
 replace H : (some y203) = some r := by first | (rw [hy203]; with_reducible exact H) | (have H2_ := (Option.bind_some _ _).symm.trans H; rw [hy203]; with_reducible exact H2_) | (have H2_ := (Option.bind_some _ _).symm.trans H; with_reducible exact H2_) | with_reducible exact H | (rw [hy203]; exact H) | exact H
 have Ny203 := Aside0.mk hy203
 clear hy203
 obtain rfl := Option.some.inj H
 go_enter Tryz.func94, Tryz.ntmps94
 go_wp2_with (first | ((with_reducible refine gd 1 rfl ?_); refine bx #[.int .i64 a0_0, .int .i64 a0_1, .int .i64 a0_2] 29 ?_; intro gb202 hg w2 BK202 hb; have GE202 := ngw0 hg HB; replace HB := bS0 HB hb; clear hb hg; obtain ⟨hcz3_0, hcz3_1, hcz3_2, hfz3_0, hfz3_1, hfz3_2⟩ := bz3 BK202) | ((with_reducible refine gd 11 rfl ?_); refine Kd.R_lit k38 _ 38 ?hg (N := 11) ?hd (xs := ([(⟨a0_0, 0⟩ : S38), (⟨a0_1, a0_2⟩ : S38)] : List (S38))) (inner := [.int .i64 a0_0, .int .i64 0, .int .i64 a0_1, .int .i64 a0_2]) (ok := fun _ => True) (okp := fun _ => True) ?hr ?hp (fun _ hk => hk) trivial (Below.refl _ _) (Nat.le_refl _) (by simp) ?_; (case hd => rfl); (case hg => rfl); (case hr => first | (go_simp; done) | (go_simp; rfl)); (case hp => exact (Reps.c2 (show Kd.M k38 _ _ _ (⟨a0_0, 0⟩ : S38) [.int .i64 a0_0, .int .i64 0] from (k38_mkM _ _ _ (⟨a0_0, 0⟩ : S38) )) (Reps.c2 (show Kd.M k38 _ _ _ (⟨a0_1, a0_2⟩ : S38) [.int .i64 a0_1, .int .i64 a0_2] from (k38_mkM _ _ _ (⟨a0_1, a0_2⟩ : S38) )) (Reps.none _ _)))); intro v204 w4 ho5 hb hg_ hnew_; clear hg_ hnew_; (first | rw [← Ny203.out] at ho5 | (simp only [Int.reduceToNat] at ho5; rw [← Ny203.out] at ho5)); have HO205 := asd (Kd.R_lower ho5 (bsz1 HB GE202)); replace BK202 := bB BK202 hb; replace HB := bS1 HB GE202 hb; clear hb ho5))
 go_ret
 exact ⟨_, by first | rfl | (simp [errW_none, errW_some] <;> rfl) | (simp [*, errW_none, errW_some] <;> rfl), by (with_reducible repeat (first | apply Kd.R_alloc | apply Kd.R_drewN | apply Kd.R_drew)); exact HO205.out, bbw1 HB GE202⟩
/-! ### spec_l01Scale: function 42 -/
def spec_l01Scale.f (a0_0 : Int) (a0_1 : Int) (a1 : Int) : Option (Int × Int) := some (wrap64 (a1 * a0_0), wrap64 (a1 * a0_1))
set_option maxHeartbeats 8000000 in
set_option maxRecDepth 100000 in
theorem spec_l01Scale.calls (a0_0 : Int) (a0_1 : Int) (a1 : Int) (r1 : Int) (r2 : Int) (w : World) (h : spec_l01Scale.f a0_0 a0_1 a1 = some (r1, r2)) :
  Calls Tryz.prog 42 #[.agg #[.int .i64 a0_0, .int .i64 a0_1], .int .i64 a1] w fun e w' => e = .returned (.agg #[.int .i64 r1, .int .i64 r2]) ∧ Below w.heap.size w w' := by
 have hu38 := Tryz.underlying38
 have HB := asd (Below.refl w.heap.size w)
 have H : (some (wrap64 (a1 * a0_0), wrap64 (a1 * a0_1))) = some (r1, r2) := h
 clear h
 simp only [Option.some.injEq, Prod.mk.injEq] at H
 obtain ⟨rfl, rfl⟩ := H
 go_enter Tryz.func42, Tryz.ntmps42
 go_wp2_with (first | ((with_reducible refine gd 2 rfl ?_); refine bx #[.int .i64 a0_0, .int .i64 a0_1] 38 ?_; intro gb206 hg w3 BK206 hb; have GE206 := ngw0 hg HB; replace HB := bS0 HB hb; clear hb hg) | ((with_reducible refine gd 4 rfl ?_); refine bx #[.int .i64 0, .int .i64 0] 38 ?_; intro gb207 hg w4 BK207 hb; have GE207 := ngw1 hg HB GE206; replace HB := bS1 HB GE206 hb; have NB206_207 := nlt hg BK206; have NB207_206 := nsy (nlt hg BK206); replace BK206 := bB BK206 hb; clear hb hg; have hnb5 := NB206_207.out; have hnc5 := NB207_206.out; obtain ⟨hcz6_0, hcz6_1, hfz6_0, hfz6_1⟩ := bz2 BK206; obtain ⟨hcz7_0, hcz7_1, hfz7_0, hfz7_1⟩ := bz2 BK207))
 refine bodyPost_ret (results_cell_row rfl _ _ gb207 38 #[.int .i64 (wrap64 (a1 * a0_0)), .int .i64 (wrap64 (a1 * a0_1))] (0, 0) _ rfl (bq0 BK207) Tryz.underlying38 rfl (by kernel_rfl)) rfl ?_
 exact er (bbw2 HB GE206 GE207)
/-! ### spec_l01Divisor: function 119 -/
def spec_l01Divisor.f : Nat → Int → Int → Option (Int)
 | 0, _, _ => none
 | k + 1, a0, a1 => if a1 = 0 then (some (mx a0 (wrap64 (-a0)))) else ((spec_l01Divisor.f k a1 (Int.tmod a0 a1)).bind fun t208 => (some t208))
set_option maxHeartbeats 8000000 in
set_option maxRecDepth 100000 in
theorem spec_l01Divisor.calls (k : Nat) : ∀ (a0 : Int) (a1 : Int) (r : Int) (w : World) (h : spec_l01Divisor.f k a0 a1 = some r),
  Calls Tryz.prog 119 #[.int .i64 a0, .int .i64 a1] w fun e w' => e = .returned (.int .i64 r) ∧ Below w.heap.size w w' := by
 induction k using Nat.strongRecOn with
 | _ k ih =>
 intro a0 a1 r w h
 cases k with
 | zero => exact absurd h (by simp [spec_l01Divisor.f])
 | succ k =>
 simp only [spec_l01Divisor.f] at h
 have HB := asd (Below.refl w.heap.size w)
 have H : (if a1 = 0 then (some (mx a0 (wrap64 (-a0)))) else ((spec_l01Divisor.f k a1 (Int.tmod a0 a1)).bind fun t208 => (some t208))) = some r := h
 clear h
 by_cases c3 : a1 = 0
 ·rw [if_pos c3] at H
  have c3b0 : (a1 == 0) = true := beq_iff_eq.mpr c3
  have c3b1 : (a1 != 0) = false := bne_eq_false_iff_eq.mpr c3
  clear c3
  obtain ⟨ji4, hji4⟩ : ∃ j_ : Int, (mx a0 (wrap64 (-a0))) = j_ := ⟨_, rfl⟩
  replace H : (some ji4) = some r := by first | (rw [hji4] at H; first | done | exact H) | (simp only [hji4] at H ⊢; exact H)
  have hji4_ : (if a0 < (wrap64 (-a0)) then (wrap64 (-a0)) else a0) = ji4 := hji4
  obtain rfl := Option.some.inj H
  go_enter Tryz.func119, Tryz.ntmps119
  go_wp2
  go_ret
  exact ⟨by first | rfl | (simp [errW_none, errW_some] <;> rfl) | (simp only [← hji4]; first | rfl | (simp [errW_none, errW_some] <;> rfl)) | (simp [*, errW_none, errW_some] <;> rfl), bbw0 HB⟩
 ·rw [if_neg c3] at H
  have c3b0 : (a1 == 0) = false := beq_eq_false_iff_ne.mpr c3
  have c3b1 : (a1 != 0) = true := bne_iff_ne.mpr c3
  obtain ⟨t208, A5, H⟩ := ob H
  try dsimp only at H
  obtain rfl := Option.some.inj H
  go_enter Tryz.func119, Tryz.ntmps119
  go_wp2_with (first | ((with_reducible refine gate_callee (f := 119) rfl ?_); refine gl 15 Tryz.func119 #[.int .i64 a1, .int .i64 (Int.tmod a0 a1)] ?_; (with_reducible refine (ih k (by omega) a1 (Int.tmod a0 a1) t208 _ A5.out).mono ?_); rintro e w6 ⟨rfl, hb⟩; refine ⟨_, rfl, ?_⟩; replace HB := bS0 HB hb; (try clear hb)))
  go_ret
  exact er (bbw0 HB)
/-! ### spec_l03Hermite: function 95 -/
mutual
def spec_l03Hermite.l0 : Nat → List (S38) → Int → Int → Int → Int → Option (Int × Int × Int)
 | 0, _, _, _, _, _ => none
 | k + 1, x0, x4, x5, x211000, x211001 => if x5 < (x0.length : Int) then (if 0 ≤ x5 then (spec_l03Hermite.l1 k x0 x4 x5 x211000 x211001 ((rd_T38 x0 x5).f0) ((rd_T38 x0 x5).f1)) else (none)) else (if x211001 < 0 then ((spec_l01Scale.f x211000 x211001 (-1)).bind fun bt216 => (if x4 > 0 then ((spec_l01Mod.f bt216.1 x4).bind fun t218 => (some (x4, t218, bt216.2))) else (some (x4, bt216.1, bt216.2)))) else (if x4 > 0 then ((spec_l01Mod.f x211000 x4).bind fun t219 => (some (x4, t219, x211001))) else (some (x4, x211000, x211001))))
def spec_l03Hermite.l1 : Nat → List (S38) → Int → Int → Int → Int → Int → Int → Option (Int × Int × Int)
 | 0, _, _, _, _, _, _, _ => none
 | k + 1, x0, x4, x5, x211000, x211001, x213000, x213001 => if x213001 = 0 then ((spec_l01Divisor.f k x4 x213000).bind fun t214 => (if t214 > 0 then ((spec_l01Mod.f x211000 t214).bind fun t215 => (spec_l03Hermite.l0 k x0 t214 (wrap64 (x5 + 1)) t215 x211001)) else (spec_l03Hermite.l0 k x0 t214 (wrap64 (x5 + 1)) x211000 x211001))) else (spec_l03Hermite.l1 k x0 x4 x5 x213000 x213001 (wrap64 (x211000 - (wrap64 ((wrap64 (Int.tdiv x211001 x213001)) * x213000)))) (wrap64 (x211001 - (wrap64 ((wrap64 (Int.tdiv x211001 x213001)) * x213001)))))
end
def spec_l03Hermite.f (k : Nat) (l0 : List (S38)) : Option (Int × Int × Int) := spec_l03Hermite.l0 k l0 0 0 0 0
set_option maxHeartbeats 8000000 in
set_option maxRecDepth 100000 in
theorem spec_l03Hermite.calls (k : Nat) (A0 : Option Addr) (c0 : Nat) (l0 : List (S38)) (r1 : Int) (r2 : Int) (r3 : Int) (w : World) (hr0 : Kd.C k38 w A0 l0.length l0) (hc0 : l0.length ≤ c0) (h : spec_l03Hermite.f k l0 = some (r1, r2, r3)) :
  Calls Tryz.prog 95 #[.slice A0 l0.length c0] w fun e w' => e = .returned (.agg #[.int .i64 r1, .int .i64 r2, .int .i64 r3]) ∧ Below w.heap.size w w' := by
 have hu29 := Tryz.underlying29
 have hu38 := Tryz.underlying38
 have HR0 := Aside0.mk hr0
 have HC0 := Aside0.mk hc0
 clear hr0 hc0
 have HB := asd (Below.refl w.heap.size w)
 have H : (spec_l03Hermite.l0 k l0 0 0 0 0) = some (r1, r2, r3) := h
 clear h
 have H' := Aside0.mk H
 clear H
 go_enter Tryz.func95, Tryz.ntmps95
 go_wp2_with (first | ((with_reducible refine gd 2 rfl ?_); refine bx #[.int .i64 0, .int .i64 0, .int .i64 0] 29 ?_; intro gb209 hg w2 BK209 hb; have GE209 := ngw0 hg HB; replace HB := bS0 HB hb; clear hb hg) | ((with_reducible refine gd 3 rfl ?_); refine bx #[.int .i64 0, .int .i64 0] 38 ?_; intro gb210 hg w3 BK210 hb; have GE210 := ngw1 hg HB GE209; replace HB := bS1 HB GE209 hb; have NB209_210 := nlt hg BK209; have NB210_209 := nsy (nlt hg BK209); replace BK209 := bB BK209 hb; clear hb hg; have hnb4 := NB210_209.out; have hnc4 := NB209_210.out; obtain ⟨hcz5_0, hcz5_1, hfz5_0, hfz5_1⟩ := bz2 BK210))
 go_loopg [4, 5] k (fun kq v4 v5 w' => ∃ (x4_1 : Int) (x5_1 : Int) (x211000_1 : Int) (x211001_1 : Int), v4 = .int .i64 x4_1 ∧ v5 = .int .i64 x5_1 ∧ Aside0 (spec_l03Hermite.l0 kq l0 x4_1 x5_1 x211000_1 x211001_1 = some (r1, r2, r3)) ∧ Aside0 (kq ≤ k) ∧ Aside0 (w'.heap[gb209]? = some (.cells #[.int .i64 0, .int .i64 0, .int .i64 0] 29 (0, 0))) ∧ Aside0 (w'.heap[gb210]? = some (.cells #[.int .i64 x211000_1, .int .i64 x211001_1] 38 (0, 0))) ∧ Aside0 (Below w.heap.size w w'))
 case atStart => exact ⟨(0), (0), (0), (0), (by first | rfl | (simp; done) | (simp [*]; done)), (by first | rfl | (simp; done) | (simp [*]; done)), H', ⟨Nat.le_refl _⟩, ⟨bq1 BK209 NB209_210⟩, ⟨bq0 BK210⟩, ⟨bbw2 HB GE209 GE210⟩⟩
 case round =>
  clear H'
  try clear p2
  try clear c4
  try clear hcz5_0
  try clear hcz5_1
  try clear hfz5_0
  try clear hfz5_1
  obtain ⟨x4_1, x5_1, x211000_1, x211001_1, rfl, rfl, HA, HK1, BK209, BK210, HB⟩ := hrel
  cases gk with
  | zero => exact absurd HA.out (by simp [spec_l03Hermite.l0])
  | succ k1 =>
   have H := HA.out
   clear HA
   simp only [spec_l03Hermite.l0] at H
   by_cases c6 : x5_1 < (l0.length : Int)
   ·rw [if_pos c6] at H
    have c6b0 := decide_eq_true c6
    clear c6
    by_cases c7 : 0 ≤ x5_1
    ·rw [if_pos c7] at H
     have c7b0 := decide_eq_true c7
     clear c7
     have H' := Aside0.mk H
     clear H
     obtain ⟨p211, q211, ad211, e211, hx211_0, hx211_1⟩ := at_T38x HR0.out HB x5_1
     cases e211
     go_wp2_with (first | ((with_reducible refine gd 6 rfl ?_); refine bx #[.int .i64 0, .int .i64 0] 38 ?_; intro gb212 hg w8 BK212 hb; have GE212 := ngw2 hg HB GE209 GE210; replace HB := bS2 HB GE209 GE210 hb; have NB209_212 := nlt hg BK209; have NB212_209 := nsy (nlt hg BK209); replace BK209 := bB BK209 hb; have NB210_212 := nlt hg BK210; have NB212_210 := nsy (nlt hg BK210); replace BK210 := bB BK210 hb; clear hb hg; have hnb9 := NB212_209.out; have hnc9 := NB209_212.out; have hnb10 := NB212_210.out; have hnc10 := NB210_212.out; obtain ⟨hcz11_0, hcz11_1, hfz11_0, hfz11_1⟩ := bz2 BK212))
     go_loopg [] k1 (fun kq w' => ∃ (x211000_2 : Int) (x211001_2 : Int) (x213000_2 : Int) (x213001_2 : Int), Aside0 (spec_l03Hermite.l1 kq l0 x4_1 x5_1 x211000_2 x211001_2 x213000_2 x213001_2 = some (r1, r2, r3)) ∧ Aside0 (kq ≤ k1) ∧ Aside0 (w'.heap[gb209]? = some (.cells #[.int .i64 0, .int .i64 0, .int .i64 0] 29 (0, 0))) ∧ Aside0 (w'.heap[gb210]? = some (.cells #[.int .i64 x211000_2, .int .i64 x211001_2] 38 (0, 0))) ∧ Aside0 (w'.heap[gb212]? = some (.cells #[.int .i64 x213000_2, .int .i64 x213001_2] 38 (0, 0))) ∧ Aside0 (Below w.heap.size w w'))
     case atStart => exact ⟨(x211000_1), (x211001_1), ((rd_T38 l0 x5_1).f0), ((rd_T38 l0 x5_1).f1), H', ⟨Nat.le_refl _⟩, ⟨bq1 BK209 NB209_212⟩, ⟨bq1 BK210 NB210_212⟩, ⟨bq0 BK212⟩, ⟨bbw3 HB GE209 GE210 GE212⟩⟩
     case round =>
      clear H'
      try clear c1
      try clear p2
      try clear q2
      try clear hx2
      try clear c4
      try clear c6
      try clear c6b0
      try clear c7
      try clear c7b0
      try clear c9
      try clear c10
      try clear hcz11_0
      try clear hcz11_1
      try clear hcz5_0
      try clear hcz5_1
      try clear hfz11_0
      try clear hfz11_1
      try clear hfz5_0
      try clear hfz5_1
      try clear hx211_0
      try clear hx211_1
      try clear p2
      try clear p211
      try clear q211
      obtain ⟨x211000_2, x211001_2, x213000_2, x213001_2, HA, HK2, BK209, BK210, BK212, HB⟩ := hrel
      cases gk with
      | zero => exact absurd HA.out (by simp [spec_l03Hermite.l1])
      | succ k2 =>
       have H := HA.out
       clear HA
       simp only [spec_l03Hermite.l1] at H
       by_cases c12 : x213001_2 = 0
       ·rw [if_pos c12] at H
        have c12b0 : (x213001_2 == 0) = true := beq_iff_eq.mpr c12
        have c12b1 : (x213001_2 != 0) = false := bne_eq_false_iff_eq.mpr c12
        clear c12
        obtain ⟨t214, A13, H⟩ := ob H
        try dsimp only at H
        by_cases c14 : t214 > 0
        ·rw [if_pos c14] at H
         have c14b0 : decide (0 < t214) = true := decide_eq_true c14
         clear c14
         obtain ⟨t215, A15, H⟩ := ob H
         try dsimp only at H
         have H' := Aside0.mk H
         clear H
         have hnb16 := NB212_209.out
         have hnc16 := NB209_212.out
         have hnb17 := NB212_210.out
         have hnc17 := NB210_212.out
         obtain ⟨hcz18_0, hcz18_1, hfz18_0, hfz18_1⟩ := bz2 BK212
         go_wp2_with (first | ((with_reducible refine gate_callee (f := 119) rfl ?_); refine gl 48 Tryz.func119 #[.int .i64 x4_1, .int .i64 x213000_2] ?_; (with_reducible refine (spec_l01Divisor.calls _ _ _ _ _ A13.out).mono ?_); rintro e w19 ⟨rfl, hb⟩; refine ⟨_, rfl, ?_⟩; replace BK209 := bB BK209 hb; replace BK210 := bB BK210 hb; replace BK212 := bB BK212 hb; replace HB := bS3 HB GE209 GE210 GE212 hb; (try clear hb); have hnb20 := NB210_209.out; have hnc20 := NB209_210.out; obtain ⟨hcz21_0, hcz21_1, hfz21_0, hfz21_1⟩ := bz2 BK210) | ((with_reducible refine gate_callee (f := 96) rfl ?_); refine gl 54 Tryz.func96 #[.int .i64 x211000_2, .int .i64 t214] ?_; (with_reducible refine (spec_l01Mod.calls _ _ _ _ A15.out).mono ?_); rintro e w' ⟨rfl, ⟨nd, rfl⟩⟩; refine ⟨_, rfl, ?_⟩; (try (rw [drewN_self w19]; generalize hq_ : World.drewN w19 _ = w19; have n0_ : Aside0 (w19.heap[gb209]? = some (.cells #[.int .i64 0, .int .i64 0, .int .i64 0] 29 (0, 0))) := ⟨by rw [← hq_]; exact (bkp BK209)⟩; have n1_ : Aside0 (w19.heap[gb210]? = some (.cells #[.int .i64 x211000_2, .int .i64 x211001_2] 38 (0, 0))) := ⟨by rw [← hq_]; exact (bkp BK210)⟩; have n2_ : Aside0 (w19.heap[gb212]? = some (.cells #[.int .i64 x213000_2, .int .i64 x213001_2] 38 (0, 0))) := ⟨by rw [← hq_]; exact (bkp BK212)⟩; have n3_ : Aside0 (Below w.heap.size w w19) := ⟨by rw [← hq_]; exact (bbw3 HB GE209 GE210 GE212)⟩; clear BK209 BK210 BK212 HB hq_; have BK209 := n0_; have BK210 := n1_; have BK212 := n2_; have HB := n3_; clear n0_ n1_ n2_ n3_)); have hcz22_0 : w19.cell? ⟨gb210, 0, none⟩ = some (.int .i64 x211000_2) := bcl BK210 0; have hcz22_1 : w19.cell? ⟨gb210, 1, none⟩ = some (.int .i64 x211001_2) := bcl BK210 1; have hfz22_0 := blk_frozen BK210.out 0; have hfz22_1 := blk_frozen BK210.out 1))
         go_roundg k2
         case measure => have := HK1.out; have := HK2.out; omega
         case rel => exact ⟨(t214), (wrap64 (x5_1 + 1)), (t215), (x211001_2), (by first | rfl | (simp; done) | (simp [*]; done)), (by first | rfl | (simp; done) | (simp [*]; done)), H', ⟨by have := HK1.out; have := HK2.out; omega⟩, ⟨bq1 BK209 NB209_210⟩, ⟨bq0 BK210⟩, ⟨bbw3 HB GE209 GE210 GE212⟩⟩
        ·rw [if_neg c14] at H
         have c14b0 : decide (0 < t214) = false := decide_eq_false c14
         clear c14
         have H' := Aside0.mk H
         clear H
         have hnb23 := NB212_209.out
         have hnc23 := NB209_212.out
         have hnb24 := NB212_210.out
         have hnc24 := NB210_212.out
         obtain ⟨hcz25_0, hcz25_1, hfz25_0, hfz25_1⟩ := bz2 BK212
         go_wp2_with (first | ((with_reducible refine gate_callee (f := 119) rfl ?_); refine gl 48 Tryz.func119 #[.int .i64 x4_1, .int .i64 x213000_2] ?_; (with_reducible refine (spec_l01Divisor.calls _ _ _ _ _ A13.out).mono ?_); rintro e w26 ⟨rfl, hb⟩; refine ⟨_, rfl, ?_⟩; replace BK209 := bB BK209 hb; replace BK210 := bB BK210 hb; replace BK212 := bB BK212 hb; replace HB := bS3 HB GE209 GE210 GE212 hb; (try clear hb)))
         go_roundg k2
         case measure => have := HK1.out; have := HK2.out; omega
         case rel => exact ⟨(t214), (wrap64 (x5_1 + 1)), (x211000_2), (x211001_2), (by first | rfl | (simp; done) | (simp [*]; done)), (by first | rfl | (simp; done) | (simp [*]; done)), H', ⟨by have := HK1.out; have := HK2.out; omega⟩, ⟨bkp BK209⟩, ⟨bkp BK210⟩, ⟨bbw3 HB GE209 GE210 GE212⟩⟩
       ·rw [if_neg c12] at H
        have c12b0 : (x213001_2 == 0) = false := beq_eq_false_iff_ne.mpr c12
        have c12b1 : (x213001_2 != 0) = true := bne_iff_ne.mpr c12
        have H' := Aside0.mk H
        clear H
        have hnb27 := NB212_209.out
        have hnc27 := NB209_212.out
        have hnb28 := NB212_210.out
        have hnc28 := NB210_212.out
        obtain ⟨hcz29_0, hcz29_1, hfz29_0, hfz29_1⟩ := bz2 BK212
        have hnb30 := NB210_209.out
        have hnc30 := NB209_210.out
        obtain ⟨hcz31_0, hcz31_1, hfz31_0, hfz31_1⟩ := bz2 BK210
        go_wp2_with (first | ((with_reducible refine gd 8 rfl ?_); refine bx #[.int .i64 0, .int .i64 0] 38 ?_; intro gb213 hg w32 BK213 hb; have GE213 := ngw3 hg HB GE209 GE210 GE212; replace HB := bS3 HB GE209 GE210 GE212 hb; have NB209_213 := nlt hg BK209; have NB213_209 := nsy (nlt hg BK209); replace BK209 := bB BK209 hb; have NB210_213 := nlt hg BK210; have NB213_210 := nsy (nlt hg BK210); replace BK210 := bB BK210 hb; have NB212_213 := nlt hg BK212; have NB213_212 := nsy (nlt hg BK212); replace BK212 := bB BK212 hb; clear hb hg; have hnb33 := NB213_209.out; have hnc33 := NB209_213.out; have hnb34 := NB213_210.out; have hnc34 := NB210_213.out; have hnb35 := NB213_212.out; have hnc35 := NB212_213.out; obtain ⟨hcz36_0, hcz36_1, hfz36_0, hfz36_1⟩ := bz2 BK213; obtain ⟨hcz37_0, hcz37_1, hfz37_0, hfz37_1⟩ := bz2 BK212; obtain ⟨hcz38_0, hcz38_1, hfz38_0, hfz38_1⟩ := bz2 BK210))
        go_roundg k2
        case measure => have := HK1.out; have := HK2.out; omega
        case rel => exact ⟨(x213000_2), (x213001_2), (wrap64 (x211000_2 - (wrap64 ((wrap64 (Int.tdiv x211001_2 x213001_2)) * x213000_2)))), (wrap64 (x211001_2 - (wrap64 ((wrap64 (Int.tdiv x211001_2 x213001_2)) * x213001_2)))), H', ⟨by have := HK1.out; have := HK2.out; omega⟩, ⟨bq3 BK209 NB209_212 NB209_210 NB209_213⟩, ⟨bq2 BK210 NB210_212 NB210_213⟩, ⟨bq2 BK212 NB212_210 NB212_213⟩, ⟨bbw4 HB GE209 GE210 GE212 GE213⟩⟩
    ·rw [if_neg c7] at H
     exact absurd H (by simp)
   ·rw [if_neg c6] at H
    have c6b0 := decide_eq_false c6
    clear c6
    by_cases c39 : x211001_1 < 0
    ·rw [if_pos c39] at H
     have c39b0 := decide_eq_true c39
     clear c39
     obtain ⟨⟨t216, t217⟩, A40, H⟩ := ob H
     try dsimp only at H
     by_cases c41 : x4_1 > 0
     ·rw [if_pos c41] at H
      have c41b0 : decide (0 < x4_1) = true := decide_eq_true c41
      clear c41
      obtain ⟨t218, A42, H⟩ := ob H
      try dsimp only at H
      simp only [Option.some.injEq, Prod.mk.injEq] at H
      obtain ⟨rfl, rfl, rfl⟩ := H
      have hnb43 := NB210_209.out
      have hnc43 := NB209_210.out
      obtain ⟨hcz44_0, hcz44_1, hfz44_0, hfz44_1⟩ := bz2 BK210
      go_wp2_with (first | ((with_reducible refine gate_callee (f := 42) rfl ?_); refine gl 60 Tryz.func42 #[.agg #[.int .i64 x211000_1, .int .i64 x211001_1], .int .i64 (-1)] ?_; (with_reducible refine (spec_l01Scale.calls _ _ _ _ _ _ A40.out).mono ?_); rintro e w45 ⟨rfl, hb⟩; refine ⟨_, rfl, ?_⟩; replace BK209 := bB BK209 hb; replace BK210 := bB BK210 hb; replace HB := bS2 HB GE209 GE210 hb; (try clear hb); obtain ⟨hcz46_0, hcz46_1, hfz46_0, hfz46_1⟩ := bz2 BK210) | ((with_reducible refine gate_callee (f := 96) rfl ?_); refine gl 66 Tryz.func96 #[.int .i64 t216, .int .i64 x4_1] ?_; (with_reducible refine (spec_l01Mod.calls _ _ _ _ A42.out).mono ?_); rintro e w' ⟨rfl, ⟨nd, rfl⟩⟩; refine ⟨_, rfl, ?_⟩; have hcz47_0 : w45.cell? ⟨gb209, 0, none⟩ = some (.int .i64 0) := bcl BK209 0; have hcz47_1 : w45.cell? ⟨gb209, 1, none⟩ = some (.int .i64 0) := bcl BK209 1; have hcz47_2 : w45.cell? ⟨gb209, 2, none⟩ = some (.int .i64 0) := bcl BK209 2; have hfz47_0 := blk_frozen BK209.out 0; have hfz47_1 := blk_frozen BK209.out 1; have hfz47_2 := blk_frozen BK209.out 2))
      refine bodyPost_ret (results_cell_row rfl _ _ gb209 29 #[.int .i64 x4_1, .int .i64 t218, .int .i64 t217] (0, 0) _ rfl (bq1 BK209 NB209_210) Tryz.underlying29 rfl (by kernel_rfl)) rfl ?_
      exact er (bbw2 HB GE209 GE210)
     ·rw [if_neg c41] at H
      have c41b0 : decide (0 < x4_1) = false := decide_eq_false c41
      clear c41
      simp only [Option.some.injEq, Prod.mk.injEq] at H
      obtain ⟨rfl, rfl, rfl⟩ := H
      have hnb48 := NB210_209.out
      have hnc48 := NB209_210.out
      obtain ⟨hcz49_0, hcz49_1, hfz49_0, hfz49_1⟩ := bz2 BK210
      go_wp2_with (first | ((with_reducible refine gate_callee (f := 42) rfl ?_); refine gl 60 Tryz.func42 #[.agg #[.int .i64 x211000_1, .int .i64 x211001_1], .int .i64 (-1)] ?_; (with_reducible refine (spec_l01Scale.calls _ _ _ _ _ _ A40.out).mono ?_); rintro e w50 ⟨rfl, hb⟩; refine ⟨_, rfl, ?_⟩; replace BK209 := bB BK209 hb; replace BK210 := bB BK210 hb; replace HB := bS2 HB GE209 GE210 hb; (try clear hb); obtain ⟨hcz51_0, hcz51_1, hfz51_0, hfz51_1⟩ := bz2 BK210; obtain ⟨hcz52_0, hcz52_1, hcz52_2, hfz52_0, hfz52_1, hfz52_2⟩ := bz3 BK209))
      refine bodyPost_ret (results_cell_row rfl _ _ gb209 29 #[.int .i64 x4_1, .int .i64 t216, .int .i64 t217] (0, 0) _ rfl (bq1 BK209 NB209_210) Tryz.underlying29 rfl (by kernel_rfl)) rfl ?_
      exact er (bbw2 HB GE209 GE210)
    ·rw [if_neg c39] at H
     have c39b0 := decide_eq_false c39
     clear c39
     by_cases c53 : x4_1 > 0
     ·rw [if_pos c53] at H
      have c53b0 : decide (0 < x4_1) = true := decide_eq_true c53
      clear c53
      obtain ⟨t219, A54, H⟩ := ob H
      try dsimp only at H
      simp only [Option.some.injEq, Prod.mk.injEq] at H
      obtain ⟨rfl, rfl, rfl⟩ := H
      have hnb55 := NB210_209.out
      have hnc55 := NB209_210.out
      obtain ⟨hcz56_0, hcz56_1, hfz56_0, hfz56_1⟩ := bz2 BK210
      go_wp2_with (first | ((with_reducible refine gate_callee (f := 96) rfl ?_); refine gl 66 Tryz.func96 #[.int .i64 x211000_1, .int .i64 x4_1] ?_; (with_reducible refine (spec_l01Mod.calls _ _ _ _ A54.out).mono ?_); rintro e w' ⟨rfl, ⟨nd, rfl⟩⟩; refine ⟨_, rfl, ?_⟩; (try (rw [drewN_self wr]; generalize hq_ : World.drewN wr _ = wr; have n0_ : Aside0 (wr.heap[gb209]? = some (.cells #[.int .i64 0, .int .i64 0, .int .i64 0] 29 (0, 0))) := ⟨by rw [← hq_]; exact (bkp BK209)⟩; have n1_ : Aside0 (wr.heap[gb210]? = some (.cells #[.int .i64 x211000_1, .int .i64 x211001_1] 38 (0, 0))) := ⟨by rw [← hq_]; exact (bkp BK210)⟩; have n2_ : Aside0 (Below w.heap.size w wr) := ⟨by rw [← hq_]; exact (bbw2 HB GE209 GE210)⟩; clear BK209 BK210 HB hq_; have BK209 := n0_; have BK210 := n1_; have HB := n2_; clear n0_ n1_ n2_)); have hcz57_0 : wr.cell? ⟨gb210, 0, none⟩ = some (.int .i64 x211000_1) := bcl BK210 0; have hcz57_1 : wr.cell? ⟨gb210, 1, none⟩ = some (.int .i64 x211001_1) := bcl BK210 1; have hfz57_0 := blk_frozen BK210.out 0; have hfz57_1 := blk_frozen BK210.out 1; have hcz58_0 : wr.cell? ⟨gb209, 0, none⟩ = some (.int .i64 0) := bcl BK209 0; have hcz58_1 : wr.cell? ⟨gb209, 1, none⟩ = some (.int .i64 0) := bcl BK209 1; have hcz58_2 : wr.cell? ⟨gb209, 2, none⟩ = some (.int .i64 0) := bcl BK209 2; have hfz58_0 := blk_frozen BK209.out 0; have hfz58_1 := blk_frozen BK209.out 1; have hfz58_2 := blk_frozen BK209.out 2))
      refine bodyPost_ret (results_cell_row rfl _ _ gb209 29 #[.int .i64 x4_1, .int .i64 t219, .int .i64 x211001_1] (0, 0) _ rfl (bq1 BK209 NB209_210) Tryz.underlying29 rfl (by kernel_rfl)) rfl ?_
      exact er (bbw2 HB GE209 GE210)
     ·rw [if_neg c53] at H
      have c53b0 : decide (0 < x4_1) = false := decide_eq_false c53
      clear c53
      simp only [Option.some.injEq, Prod.mk.injEq] at H
      obtain ⟨rfl, rfl, rfl⟩ := H
      have hnb59 := NB210_209.out
      have hnc59 := NB209_210.out
      obtain ⟨hcz60_0, hcz60_1, hfz60_0, hfz60_1⟩ := bz2 BK210
      obtain ⟨hcz61_0, hcz61_1, hcz61_2, hfz61_0, hfz61_1, hfz61_2⟩ := bz3 BK209
      go_wp2
      refine bodyPost_ret (results_cell_row rfl _ _ gb209 29 #[.int .i64 x4_1, .int .i64 x211000_1, .int .i64 x211001_1] (0, 0) _ rfl (bq0 BK209) Tryz.underlying29 rfl (by kernel_rfl)) rfl ?_
      exact er (bbw2 HB GE209 GE210)
end Go.Proofs.YtdodghjnlekgeaaGreat.PA
