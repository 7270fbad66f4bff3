/- Walks written by program: each Go function that the law reaches comes to the plain function beside it. -/
import Derived.Test.YtndfnaehpdkaiaaPBx0
import Derived.Test.YtndfnaehpdkaiaaPBx5
namespace Go.Proofs.Ytndfnaehpdkaiaa.PB
open Go.RowKit Go.Proofs.YtndfnaehpdkaiaaW.PrintWords Go.Proofs.YtndfnaehpdkaiaaW.PrintLast Go.Proofs.YtndfnaehpdkaiaaW.PrintMore
attribute [local go_sem] max2_int min2_int max_two min_two max_three min_three max_four min_four   -- for this text's walks alone
set_option linter.unusedVariables false
set_option linter.unusedSimpArgs false

/-! ### spec_l04Keeps: function 75 -/
def spec_l04Keeps.f (a0 : Int) (a1_0 : Int) (a1_1 : Int) (a1_2 : Int) (a1_3 : Int) : Option (Bool) := (spec_l04Norm.f a0 a1_0 a1_2).bind fun t140 => (if t140 = 1 then ((spec_l04Norm.f a0 a1_1 a1_3).bind fun t141 => (if t141 = 1 then ((spec_l01Add.f a1_0 a1_2 a1_1 a1_3).bind fun bt142 => ((spec_l04Norm.f a0 bt142.1 bt142.2).bind fun t144 => (some (t144 == (wrap64 (2 + a0)))))) else (some false))) else (some false))
def spec_l04Keeps.T1 : Bool × List (List Nat × List Nat) := (true, [([], []), ([0], [0]), ([], []), ([2], [2]), ([1, 3], [1, 3]), ([], []), ([5], [5]), ([], []), ([7], [7]), ([6, 8], [6, 8]), ([], []), ([], []), ([10, 4, 0, 1, 2, 3, 4, 10, 11], [4, 10]), ([11, 9, 12, 0, 1, 2, 3, 4, 5, 6, 7, 8, 9, 10, 11, 12], [9, 11])])
def spec_l04Keeps.B1 : List Nat := [0, 1, 0, 4, 15, 0, 32, 0, 128, 480, 0, 0, 3103, 8191]
theorem spec_l04Keeps.tab1 : rtab .any (opsOf Try.f75 1) = spec_l04Keeps.T1 := by kernel_rfl
theorem spec_l04Keeps.bits1 : waitsOk spec_l04Keeps.T1.2 spec_l04Keeps.B1 = true := by kernel_rfl
set_option maxHeartbeats 8000000 in
set_option maxRecDepth 100000 in
theorem spec_l04Keeps.calls (a0 : Int) (a1_0 : Int) (a1_1 : Int) (a1_2 : Int) (a1_3 : Int) (r : Bool) (w : World) (h : spec_l04Keeps.f a0 a1_0 a1_1 a1_2 a1_3 = some r) :
  Calls Try.prog 75 #[.int .i64 a0, .agg #[.int .i64 a1_0, .int .i64 a1_1, .int .i64 a1_2, .int .i64 a1_3]] w fun e w' => e = .returned (.bool r) ∧ Below w.heap.size w w' := by
 have hu33 := Try.underlying33
 have hu34 := Try.underlying34
 have HB := Aside0.mk (Below.refl w.heap.size w)
 have H : ((spec_l04Norm.f a0 a1_0 a1_2).bind fun t140 => (if t140 = 1 then ((spec_l04Norm.f a0 a1_1 a1_3).bind fun t141 => (if t141 = 1 then ((spec_l01Add.f a1_0 a1_2 a1_1 a1_3).bind fun bt142 => ((spec_l04Norm.f a0 bt142.1 bt142.2).bind fun t144 => (some (t144 == (wrap64 (2 + a0)))))) else (some false))) else (some false))) = some r := h
 clear h
 replace H := Option.bind_eq_some_iff.mp H
 obtain ⟨t140, A30, H⟩ := H
 replace H : (if t140 = 1 then ((spec_l04Norm.f a0 a1_1 a1_3).bind fun t141 => (if t141 = 1 then ((spec_l01Add.f a1_0 a1_2 a1_1 a1_3).bind fun bt142 => ((spec_l04Norm.f a0 bt142.1 bt142.2).bind fun t144 => (some (t144 == (wrap64 (2 + a0)))))) else (some false))) else (some false)) = some r := H
 have A3 := Aside0.mk A30
 clear A30
 by_cases c4 : t140 = 1
 ·rw [if_pos c4] at H
  have c4b0 : (t140 == 1) = true := beq_iff_eq.mpr c4
  have c4b1 : (t140 != 1) = false := bne_eq_false_iff_eq.mpr c4
  clear c4
  replace H := Option.bind_eq_some_iff.mp H
  obtain ⟨t141, A50, H⟩ := H
  replace H : (if t141 = 1 then ((spec_l01Add.f a1_0 a1_2 a1_1 a1_3).bind fun bt142 => ((spec_l04Norm.f a0 bt142.1 bt142.2).bind fun t144 => (some (t144 == (wrap64 (2 + a0)))))) else (some false)) = some r := H
  have A5 := Aside0.mk A50
  clear A50
  by_cases c6 : t141 = 1
  ·rw [if_pos c6] at H
   have c6b0 : (t141 == 1) = true := beq_iff_eq.mpr c6
   have c6b1 : (t141 != 1) = false := bne_eq_false_iff_eq.mpr c6
   clear c6
   replace H := Option.bind_eq_some_iff.mp H
   obtain ⟨⟨t142, t143⟩, A70, H⟩ := H
   replace H : ((spec_l04Norm.f a0 t142 t143).bind fun t144 => (some (t144 == (wrap64 (2 + a0))))) = some r := H
   have A7 := Aside0.mk A70
   clear A70
   replace H := Option.bind_eq_some_iff.mp H
   obtain ⟨t144, A80, H⟩ := H
   replace H : (some (t144 == (wrap64 (2 + a0)))) = some r := H
   have A8 := Aside0.mk A80
   clear A80
   obtain rfl := Option.some.inj H
   go_enter Try.func75, Try.ntmps75
   try go_wp2_with (first | ((with_reducible refine gate_dst (N := 3) rfl ?_); refine box_event ?hg (N := 3) ?hd (cs := #[.int .i64 a1_0, .int .i64 a1_1, .int .i64 a1_2, .int .i64 a1_3]) (t := 33) ?hr ?_; (case hd => rfl); (case hg => rfl); (case hr => first | (go_simp; done) | (go_simp; rfl)); intro gb137 hg w9 hbox hb; have BK137 := Aside0.mk (hbox); have GW137 := ngw0 hg HB; have GE137 := ngw0 hg HB; replace HB := Aside0.mk (bst0 HB hb); clear hb hbox hg))
   replace BK137 := Aside0.mk (blk_drew BK137.out)
   replace HB := Aside0.mk (below_drew1 HB.out)
   refine start_ (n := 14) (S := fun w' => w'.cell? ⟨gb137, 0, none⟩ = some (.int .i64 a1_0) ∧ w'.cell? ⟨gb137, 1, none⟩ = some (.int .i64 a1_1) ∧ w'.cell? ⟨gb137, 2, none⟩ = some (.int .i64 a1_2) ∧ w'.cell? ⟨gb137, 3, none⟩ = some (.int .i64 a1_3)) (ds := []) (bt 14 0) (by kernel_rfl) rfl rfl ⟨bcl BK137 0, bcl BK137 1, bcl BK137 2, bcl BK137 3⟩ (fun hHeld => ?_); refine with_tabW spec_l04Keeps.tab1 spec_l04Keeps.bits1 (fun HT_ HW_ => ?_)
   generalize w9.drew = w10 at BK137 HB hHeld ⊢
   refine pu 0 (some 7) (bt 14 1) HT_ ?_
   refine pu 2 (some 9) #[true, false, true, false, false, false, false, false, false, false, false, false, false, false] HT_ ?_
   refine pu 5 (some 12) #[true, false, true, false, false, true, false, false, false, false, false, false, false, false] HT_ ?_
   refine pu 7 (some 14) #[true, false, true, false, false, true, false, true, false, false, false, false, false, false] HT_ ?_
   refine ta 1 (some 8) #[true, true, true, false, false, true, false, true, false, false, false, false, false, false] HT_ HW_ hHeld ?_
   refine ta 3 (some 10) #[true, true, true, true, false, true, false, true, false, false, false, false, false, false] HT_ HW_ hHeld ?_
   refine pu 4 (some 11) #[true, true, true, true, true, true, false, true, false, false, false, false, false, false] HT_ ?_
   refine ta 6 (some 13) (bt 14 8) HT_ HW_ hHeld ?_
   refine ta 8 (some 15) (bt 14 9) HT_ HW_ hHeld ?_
   refine pu 9 (some 16) (bt 14 10) HT_ ?_
   refine join_ (σ := Nat × Nat) 2 (bt 14 12) (fun s_ => [(5, .pointer (some ⟨s_.1, 0, none⟩)), (6, .pointer (some ⟨s_.2, 0, none⟩))]) (fun s_ w' => (w'.cell? ⟨gb137, 0, none⟩ = some (.int .i64 a1_0) ∧ w'.cell? ⟨gb137, 1, none⟩ = some (.int .i64 a1_1) ∧ w'.cell? ⟨gb137, 2, none⟩ = some (.int .i64 a1_2) ∧ w'.cell? ⟨gb137, 3, none⟩ = some (.int .i64 a1_3)) ∧ (w'.heap[gb137]? = some (.cells #[.int .i64 a1_0, .int .i64 a1_1, .int .i64 a1_2, .int .i64 a1_3] 33 (0, 0))) ∧ (w'.heap[s_.1]? = some (.cells #[.int .i64 0, .int .i64 0] 34 (0, 0))) ∧ (w'.heap[s_.2]? = some (.cells #[.int .i64 0, .int .i64 0] 34 (0, 0))) ∧ (w.heap.size ≤ s_.1) ∧ (w.heap.size ≤ s_.1) ∧ (gb137 ≠ s_.1) ∧ (s_.1 ≠ gb137) ∧ (s_.2 ≠ s_.1) ∧ (s_.1 ≠ s_.2) ∧ (w.heap.size ≤ s_.2) ∧ (w.heap.size ≤ s_.2) ∧ (gb137 ≠ s_.2) ∧ (s_.2 ≠ gb137) ∧ (Below w.heap.size w w')) ?_ ?_
   rotate_left
   ·intro hCont
    refine two_ (i := 10) (j := 11) (Ni := some 5) (Nj := some 6) (bt 14 11) #[true, true, true, true, true, true, true, true, true, true, false, true, false, false] rfl rfl rfl rfl (two_of HT_.out (by kernel_rfl)) (by decide) (by decide) (fun K hK => ?_) (fun K hK => ?_)
    ·skip
     refine box_step ?hg (N := 5) ?hd (cs := #[.int .i64 0, .int .i64 0]) (t := 34) ?hr ?_; (case hd => rfl); (case hg => rfl); (case hr => first | (go_simp; done) | (go_simp; rfl))
     intro gb138 hg w11 hbox hb
     have BK138 := Aside0.mk (hbox)
     have GW138 := ngw1 hg HB GE137
     have GE138 := ngw1 hg HB GE137
     replace HB := Aside0.mk (bst1 HB GE137 hb)
     have NB137_138 := nlt hg BK137
     have NB138_137 := nsy (nlt hg BK137)
     replace BK137 := Aside0.mk (bbl BK137 hb)
     clear hb hbox hg
     refine hK.out _ _ ⟨bcl BK137 0, bcl BK137 1, bcl BK137 2, bcl BK137 3⟩ (fun hHeld => ?_)
     clear hK K
     refine norm_ (a' := ?_) ?_ ?_
     rotate_left
     ·show Act.put _ (some 5) _ = _
      simp only [Act.put, sA, sB, sC, i64_w, i32_w]
      rfl
     refine one_ (i := 11) (N := some 6) (bt 14 12) rfl rfl (one_of HT_.out (by kernel_rfl)) (by decide) (fun K hK => ?_)
     refine box_step ?hg (N := 6) ?hd (cs := #[.int .i64 0, .int .i64 0]) (t := 34) ?hr ?_; (case hd => rfl); (case hg => rfl); (case hr => first | (go_simp; done) | (go_simp; rfl))
     intro gb139 hg w12 hbox hb
     have BK139 := Aside0.mk (hbox)
     have GW139 := ngw2 hg HB GE137 GE138
     have GE139 := ngw2 hg HB GE137 GE138
     replace HB := Aside0.mk (bst2 HB GE137 GE138 hb)
     have NB137_139 := nlt hg BK137
     have NB139_137 := nsy (nlt hg BK137)
     replace BK137 := Aside0.mk (bbl BK137 hb)
     have NB138_139 := nlt hg BK138
     have NB139_138 := nsy (nlt hg BK138)
     replace BK138 := Aside0.mk (bbl BK138 hb)
     clear hb hbox hg
     refine hK.out _ _ ⟨bcl BK137 0, bcl BK137 1, bcl BK137 2, bcl BK137 3⟩ (fun hHeld => ?_)
     clear hK K
     refine norm_ (a' := ?_) ?_ ?_
     rotate_left
     ·show Act.put _ (some 6) _ = _
      simp only [Act.put, sA, sB, sC, i64_w, i32_w]
      rfl
     exact norm_ (by simp only [putAll, Act.put, sA, sB, sC]) (hCont (gb138, gb139) _ ⟨hHeld, (bkp BK137), (bkp BK138), (bkp BK139), GW138.out, GE138.out, NB137_138.out, NB138_137.out, NB139_138.out, NB138_139.out, GW139.out, GE139.out, NB137_139.out, NB139_137.out, (bbw3 HB GE137 GE138 GE139)⟩)
    ·skip
     refine box_step ?hg (N := 6) ?hd (cs := #[.int .i64 0, .int .i64 0]) (t := 34) ?hr ?_; (case hd => rfl); (case hg => rfl); (case hr => first | (go_simp; done) | (go_simp; rfl))
     intro gb139 hg w11 hbox hb
     have BK139 := Aside0.mk (hbox)
     have GW139 := ngw1 hg HB GE137
     have GE139 := ngw1 hg HB GE137
     replace HB := Aside0.mk (bst1 HB GE137 hb)
     have NB137_139 := nlt hg BK137
     have NB139_137 := nsy (nlt hg BK137)
     replace BK137 := Aside0.mk (bbl BK137 hb)
     clear hb hbox hg
     refine hK.out _ _ ⟨bcl BK137 0, bcl BK137 1, bcl BK137 2, bcl BK137 3⟩ (fun hHeld => ?_)
     clear hK K
     refine norm_ (a' := ?_) ?_ ?_
     rotate_left
     ·show Act.put _ (some 6) _ = _
      simp only [Act.put, sA, sB, sC, i64_w, i32_w]
      rfl
     refine one_ (i := 10) (N := some 5) (bt 14 12) rfl rfl (one_of HT_.out (by kernel_rfl)) (by decide) (fun K hK => ?_)
     refine box_step ?hg (N := 5) ?hd (cs := #[.int .i64 0, .int .i64 0]) (t := 34) ?hr ?_; (case hd => rfl); (case hg => rfl); (case hr => first | (go_simp; done) | (go_simp; rfl))
     intro gb138 hg w12 hbox hb
     have BK138 := Aside0.mk (hbox)
     have GW138 := ngw2 hg HB GE137 GE139
     have GE138 := ngw2 hg HB GE137 GE139
     replace HB := Aside0.mk (bst2 HB GE137 GE139 hb)
     have NB137_138 := nlt hg BK137
     have NB138_137 := nsy (nlt hg BK137)
     replace BK137 := Aside0.mk (bbl BK137 hb)
     have NB139_138 := nlt hg BK139
     have NB138_139 := nsy (nlt hg BK139)
     replace BK139 := Aside0.mk (bbl BK139 hb)
     clear hb hbox hg
     refine hK.out _ _ ⟨bcl BK137 0, bcl BK137 1, bcl BK137 2, bcl BK137 3⟩ (fun hHeld => ?_)
     clear hK K
     refine norm_ (a' := ?_) ?_ ?_
     rotate_left
     ·show Act.put _ (some 5) _ = _
      simp only [Act.put, sA, sB, sC, i64_w, i32_w]
      rfl
     exact norm_ (by simp only [putAll, Act.put, sA, sB, sC]) (hCont (gb138, gb139) _ ⟨hHeld, (bkp BK137), (bkp BK138), (bkp BK139), GW138.out, GE138.out, NB137_138.out, NB138_137.out, NB139_138.out, NB138_139.out, GW139.out, GE139.out, NB137_139.out, NB139_137.out, (bbw3 HB GE137 GE139 GE138)⟩)
   rintro ⟨gb138, gb139⟩ w13 ⟨hS_, h0_, h1_, h2_, h3_, h4_, h5_, h6_, h7_, h8_, h9_, h10_, h11_, h12_, h13_⟩
   have n0_ : Aside0 (w13.heap[gb137]? = some (.cells #[.int .i64 a1_0, .int .i64 a1_1, .int .i64 a1_2, .int .i64 a1_3] 33 (0, 0))) := ⟨h0_⟩
   have n1_ : Aside0 (w13.heap[gb138]? = some (.cells #[.int .i64 0, .int .i64 0] 34 (0, 0))) := ⟨h1_⟩
   have n2_ : Aside0 (w13.heap[gb139]? = some (.cells #[.int .i64 0, .int .i64 0] 34 (0, 0))) := ⟨h2_⟩
   have n3_ : Aside0 (w.heap.size ≤ gb138) := ⟨h3_⟩
   have n4_ : Aside0 (w.heap.size ≤ gb138) := ⟨h4_⟩
   have n5_ : Aside0 (gb137 ≠ gb138) := ⟨h5_⟩
   have n6_ : Aside0 (gb138 ≠ gb137) := ⟨h6_⟩
   have n7_ : Aside0 (gb139 ≠ gb138) := ⟨h7_⟩
   have n8_ : Aside0 (gb138 ≠ gb139) := ⟨h8_⟩
   have n9_ : Aside0 (w.heap.size ≤ gb139) := ⟨h9_⟩
   have n10_ : Aside0 (w.heap.size ≤ gb139) := ⟨h10_⟩
   have n11_ : Aside0 (gb137 ≠ gb139) := ⟨h11_⟩
   have n12_ : Aside0 (gb139 ≠ gb137) := ⟨h12_⟩
   have n13_ : Aside0 (Below w.heap.size w w13) := ⟨h13_⟩
   clear BK137
   clear HB
   clear h0_ h1_ h2_ h3_ h4_ h5_ h6_ h7_ h8_ h9_ h10_ h11_ h12_ h13_
   have BK137 := n0_
   have BK138 := n1_
   have BK139 := n2_
   have GW138 := n3_
   have GE138 := n4_
   have NB137_138 := n5_
   have NB138_137 := n6_
   have NB139_138 := n7_
   have NB138_139 := n8_
   have GW139 := n9_
   have GE139 := n10_
   have NB137_139 := n11_
   have NB139_137 := n12_
   have HB := n13_
   clear n0_ n1_ n2_ n3_ n4_ n5_ n6_ n7_ n8_ n9_ n10_ n11_ n12_ n13_
   have hHeld : w13.cell? ⟨gb137, 0, none⟩ = some (.int .i64 a1_0) ∧ w13.cell? ⟨gb137, 1, none⟩ = some (.int .i64 a1_1) ∧ w13.cell? ⟨gb137, 2, none⟩ = some (.int .i64 a1_2) ∧ w13.cell? ⟨gb137, 3, none⟩ = some (.int .i64 a1_3) := hS_
   refine norm_ (a' := ?_) ?_ ?_
   rotate_left
   ·simp only [putAll, Act.put, sA, sB, sC]
    rfl
   refine one_ (i := 12) (N := none) (bt 14 13) rfl rfl (one_of HT_.out (by kernel_rfl)) (by decide) (fun K hK => ?_)
   have hs14 : w13.cell? ⟨gb138, 0, none⟩ = some (.int .i64 0) := bcl BK138 0
   have hfs14 := blk_frozen BK138.out 0
   have hns14_0 := NB137_138.out
   have hns14_2 := NB139_138.out
   have hms14_0 := NB138_137.out
   have hms14_2 := NB138_139.out
   have hs15 : w13.cell? ⟨gb138, 1, none⟩ = some (.int .i64 0) := bcl BK138 1
   have hfs15 := blk_frozen BK138.out 1
   have hns15_0 := NB137_138.out
   have hns15_2 := NB139_138.out
   have hms15_0 := NB138_137.out
   have hms15_2 := NB138_139.out
   refine skip_ (w1 := ?_) (by rfl) rfl ?_ ?_
   rotate_left
   ·go_simp
    rfl
   refine hK.out _ _ ⟨((cell_far (p := ⟨gb138, _, none⟩) NB137_138.out _).trans (((cell_far (p := ⟨gb138, _, none⟩) NB137_138.out _).trans (hHeld.1)))), ((cell_far (p := ⟨gb138, _, none⟩) NB137_138.out _).trans (((cell_far (p := ⟨gb138, _, none⟩) NB137_138.out _).trans (hHeld.2.1)))), ((cell_far (p := ⟨gb138, _, none⟩) NB137_138.out _).trans (((cell_far (p := ⟨gb138, _, none⟩) NB137_138.out _).trans (hHeld.2.2.1)))), ((cell_far (p := ⟨gb138, _, none⟩) NB137_138.out _).trans (((cell_far (p := ⟨gb138, _, none⟩) NB137_138.out _).trans (hHeld.2.2.2))))⟩ (fun hHeld => ?_)
   clear hK K
   refine one_ (i := 13) (N := none) (bt 14 14) rfl rfl (one_of HT_.out (by kernel_rfl)) (by decide) (fun K hK => ?_)
   have hs16 : w13.cell? ⟨gb139, 0, none⟩ = some (.int .i64 0) := bcl BK139 0
   have hfs16 := blk_frozen BK139.out 0
   have hns16_0 := NB137_139.out
   have hns16_1 := NB138_139.out
   have hms16_0 := NB139_137.out
   have hms16_1 := NB139_138.out
   have hs17 : w13.cell? ⟨gb139, 1, none⟩ = some (.int .i64 0) := bcl BK139 1
   have hfs17 := blk_frozen BK139.out 1
   have hns17_0 := NB137_139.out
   have hns17_1 := NB138_139.out
   have hms17_0 := NB139_137.out
   have hms17_1 := NB139_138.out
   refine skip_ (w1 := ?_) (by rfl) rfl ?_ ?_
   rotate_left
   ·go_simp
    rfl
   refine hK.out _ _ ⟨((cell_far (p := ⟨gb139, _, none⟩) NB137_139.out _).trans (((cell_far (p := ⟨gb139, _, none⟩) NB137_139.out _).trans (hHeld.1)))), ((cell_far (p := ⟨gb139, _, none⟩) NB137_139.out _).trans (((cell_far (p := ⟨gb139, _, none⟩) NB137_139.out _).trans (hHeld.2.1)))), ((cell_far (p := ⟨gb139, _, none⟩) NB137_139.out _).trans (((cell_far (p := ⟨gb139, _, none⟩) NB137_139.out _).trans (hHeld.2.2.1)))), ((cell_far (p := ⟨gb139, _, none⟩) NB137_139.out _).trans (((cell_far (p := ⟨gb139, _, none⟩) NB137_139.out _).trans (hHeld.2.2.2))))⟩ (fun hHeld => ?_)
   clear hK K
   refine done_ (done_of HT_.out (by kernel_rfl)) ?_
   have hnb18 := NB138_137.out
   have hnc18 := NB137_138.out
   have hnb19 := NB138_139.out
   have hnc19 := NB139_138.out
   obtain ⟨hcz20_0, hcz20_1, hfz20_0, hfz20_1⟩ := bz2 BK138
   try go_wp2_with (first | ((with_reducible refine gate_callee (f := 118) rfl ?_); refine goesL_ (some 19) rfl rfl Try.func118 (by kernel_rfl) rfl #[.int .i64 a0, .agg #[.int .i64 a1_0, .int .i64 a1_2]] rfl (by (try simp only [List.map_toArray, List.map_cons, List.map_nil]); first | done | rfl | (simp only [List.length_drop, List.length_take]; rfl)) ?_; (with_reducible refine (spec_l04Norm.calls a0 a1_0 a1_2 t140 _ A3.out).mono ?_); rintro e w21 ⟨rfl, hb⟩; refine ⟨_, rfl, ?_⟩; replace BK137 := Aside0.mk (blk_below (g := gb137) (o := .cells #[.int .i64 a1_0, .int .i64 a1_1, .int .i64 a1_2, .int .i64 a1_3] 33 (0, 0)) (by (with_reducible repeat (first | refine blk_drewN ?_ _ | refine blk_drew ?_ | refine blk_alloc ?_ _)); refine blk_far ?_ NB137_139.out _; (with_reducible repeat (first | refine blk_drewN ?_ _ | refine blk_drew ?_ | refine blk_alloc ?_ _)); refine blk_far ?_ NB137_139.out _; (with_reducible repeat (first | refine blk_drewN ?_ _ | refine blk_drew ?_ | refine blk_alloc ?_ _)); refine blk_far ?_ NB137_138.out _; (with_reducible repeat (first | refine blk_drewN ?_ _ | refine blk_drew ?_ | refine blk_alloc ?_ _)); refine blk_far ?_ NB137_138.out _; (with_reducible repeat (first | refine blk_drewN ?_ _ | refine blk_drew ?_ | refine blk_alloc ?_ _)); exact BK137.out) hb); replace BK138 := Aside0.mk (blk_below (g := gb138) (o := .cells #[.int .i64 a1_0, .int .i64 a1_2] 34 (0, 0)) (by (with_reducible repeat (first | refine blk_drewN ?_ _ | refine blk_drew ?_ | refine blk_alloc ?_ _)); refine blk_far ?_ NB138_139.out _; (with_reducible repeat (first | refine blk_drewN ?_ _ | refine blk_drew ?_ | refine blk_alloc ?_ _)); refine blk_far ?_ NB138_139.out _; (with_reducible repeat (first | refine blk_drewN ?_ _ | refine blk_drew ?_ | refine blk_alloc ?_ _)); refine blk_put (cs := #[.int .i64 a1_0, .int .i64 0]) ?_ 1 _ rfl; (with_reducible repeat (first | refine blk_drewN ?_ _ | refine blk_drew ?_ | refine blk_alloc ?_ _)); refine blk_put (cs := #[.int .i64 0, .int .i64 0]) ?_ 0 _ rfl; (with_reducible repeat (first | refine blk_drewN ?_ _ | refine blk_drew ?_ | refine blk_alloc ?_ _)); exact BK138.out) hb); replace BK139 := Aside0.mk (blk_below (g := gb139) (o := .cells #[.int .i64 a1_1, .int .i64 a1_3] 34 (0, 0)) (by (with_reducible repeat (first | refine blk_drewN ?_ _ | refine blk_drew ?_ | refine blk_alloc ?_ _)); refine blk_put (cs := #[.int .i64 a1_1, .int .i64 0]) ?_ 1 _ rfl; (with_reducible repeat (first | refine blk_drewN ?_ _ | refine blk_drew ?_ | refine blk_alloc ?_ _)); refine blk_put (cs := #[.int .i64 0, .int .i64 0]) ?_ 0 _ rfl; (with_reducible repeat (first | refine blk_drewN ?_ _ | refine blk_drew ?_ | refine blk_alloc ?_ _)); refine blk_far ?_ NB139_138.out _; (with_reducible repeat (first | refine blk_drewN ?_ _ | refine blk_drew ?_ | refine blk_alloc ?_ _)); refine blk_far ?_ NB139_138.out _; (with_reducible repeat (first | refine blk_drewN ?_ _ | refine blk_drew ?_ | refine blk_alloc ?_ _)); exact BK139.out) hb); replace HB := Aside0.mk (bst3 HB GE137 GE138 GE139 hb); (try clear hb); (try clear hb2); (try clear hk); (try clear hi); have hnb22 := NB139_137.out; have hnc22 := NB137_139.out; obtain ⟨hcz23_0, hcz23_1, hfz23_0, hfz23_1⟩ := bz2 BK139) | (go_at_call 118; (with_reducible refine (spec_l04Norm.calls a0 a1_1 a1_3 t141 _ A5.out).mono ?_); rintro e w24 ⟨rfl, hb⟩; replace BK137 := Aside0.mk (bbl BK137 hb); replace BK138 := Aside0.mk (bbl BK138 hb); replace BK139 := Aside0.mk (bbl BK139 hb); replace HB := Aside0.mk (bst3 HB GE137 GE138 GE139 hb); (try clear hb); (try clear hb2); (try clear hk); (try clear hi); obtain ⟨hcz25_0, hcz25_1, hfz25_0, hfz25_1⟩ := bz2 BK138; obtain ⟨hcz26_0, hcz26_1, hfz26_0, hfz26_1⟩ := bz2 BK139) | (go_at_call 111; (with_reducible refine (spec_l01Add.calls a1_0 a1_2 a1_1 a1_3 t142 t143 _ A7.out).mono ?_); rintro e w27 ⟨rfl, hb⟩; replace BK137 := Aside0.mk (bbl BK137 hb); replace BK138 := Aside0.mk (bbl BK138 hb); replace BK139 := Aside0.mk (bbl BK139 hb); replace HB := Aside0.mk (bst3 HB GE137 GE138 GE139 hb); (try clear hb); (try clear hb2); (try clear hk); (try clear hi)) | (go_at_call 118; (with_reducible refine (spec_l04Norm.calls a0 t142 t143 t144 _ A8.out).mono ?_); rintro e w28 ⟨rfl, hb⟩; replace BK137 := Aside0.mk (bbl BK137 hb); replace BK138 := Aside0.mk (bbl BK138 hb); replace BK139 := Aside0.mk (bbl BK139 hb); replace HB := Aside0.mk (bst3 HB GE137 GE138 GE139 hb); (try clear hb); (try clear hb2); (try clear hk); (try clear hi)))
   go_ret
   exact ⟨by first | rfl | (simp [errW_none, errW_some] <;> rfl) | (simp [*, errW_none, errW_some] <;> rfl), bbw3 HB GE137 GE138 GE139⟩
  ·rw [if_neg c6] at H
   have c6b0 : (t141 == 1) = false := beq_eq_false_iff_ne.mpr c6
   have c6b1 : (t141 != 1) = true := bne_iff_ne.mpr c6
   obtain rfl := Option.some.inj H
   go_enter Try.func75, Try.ntmps75
   try go_wp2_with (first | ((with_reducible refine gate_dst (N := 3) rfl ?_); refine box_event ?hg (N := 3) ?hd (cs := #[.int .i64 a1_0, .int .i64 a1_1, .int .i64 a1_2, .int .i64 a1_3]) (t := 33) ?hr ?_; (case hd => rfl); (case hg => rfl); (case hr => first | (go_simp; done) | (go_simp; rfl)); intro gb137 hg w29 hbox hb; have BK137 := Aside0.mk (hbox); have GW137 := ngw0 hg HB; have GE137 := ngw0 hg HB; replace HB := Aside0.mk (bst0 HB hb); clear hb hbox hg))
   replace BK137 := Aside0.mk (blk_drew BK137.out)
   replace HB := Aside0.mk (below_drew1 HB.out)
   refine start_ (n := 14) (S := fun w' => w'.cell? ⟨gb137, 0, none⟩ = some (.int .i64 a1_0) ∧ w'.cell? ⟨gb137, 1, none⟩ = some (.int .i64 a1_1) ∧ w'.cell? ⟨gb137, 2, none⟩ = some (.int .i64 a1_2) ∧ w'.cell? ⟨gb137, 3, none⟩ = some (.int .i64 a1_3)) (ds := []) (bt 14 0) (by kernel_rfl) rfl rfl ⟨bcl BK137 0, bcl BK137 1, bcl BK137 2, bcl BK137 3⟩ (fun hHeld => ?_); refine with_tabW spec_l04Keeps.tab1 spec_l04Keeps.bits1 (fun HT_ HW_ => ?_)
   generalize w29.drew = w30 at BK137 HB hHeld ⊢
   refine pu 0 (some 7) (bt 14 1) HT_ ?_
   refine pu 2 (some 9) #[true, false, true, false, false, false, false, false, false, false, false, false, false, false] HT_ ?_
   refine pu 5 (some 12) #[true, false, true, false, false, true, false, false, false, false, false, false, false, false] HT_ ?_
   refine pu 7 (some 14) #[true, false, true, false, false, true, false, true, false, false, false, false, false, false] HT_ ?_
   refine ta 1 (some 8) #[true, true, true, false, false, true, false, true, false, false, false, false, false, false] HT_ HW_ hHeld ?_
   refine ta 3 (some 10) #[true, true, true, true, false, true, false, true, false, false, false, false, false, false] HT_ HW_ hHeld ?_
   refine pu 4 (some 11) #[true, true, true, true, true, true, false, true, false, false, false, false, false, false] HT_ ?_
   refine ta 6 (some 13) (bt 14 8) HT_ HW_ hHeld ?_
   refine ta 8 (some 15) (bt 14 9) HT_ HW_ hHeld ?_
   refine pu 9 (some 16) (bt 14 10) HT_ ?_
   refine join_ (σ := Nat × Nat) 2 (bt 14 12) (fun s_ => [(5, .pointer (some ⟨s_.1, 0, none⟩)), (6, .pointer (some ⟨s_.2, 0, none⟩))]) (fun s_ w' => (w'.cell? ⟨gb137, 0, none⟩ = some (.int .i64 a1_0) ∧ w'.cell? ⟨gb137, 1, none⟩ = some (.int .i64 a1_1) ∧ w'.cell? ⟨gb137, 2, none⟩ = some (.int .i64 a1_2) ∧ w'.cell? ⟨gb137, 3, none⟩ = some (.int .i64 a1_3)) ∧ (w'.heap[gb137]? = some (.cells #[.int .i64 a1_0, .int .i64 a1_1, .int .i64 a1_2, .int .i64 a1_3] 33 (0, 0))) ∧ (w'.heap[s_.1]? = some (.cells #[.int .i64 0, .int .i64 0] 34 (0, 0))) ∧ (w'.heap[s_.2]? = some (.cells #[.int .i64 0, .int .i64 0] 34 (0, 0))) ∧ (w.heap.size ≤ s_.1) ∧ (w.heap.size ≤ s_.1) ∧ (gb137 ≠ s_.1) ∧ (s_.1 ≠ gb137) ∧ (s_.2 ≠ s_.1) ∧ (s_.1 ≠ s_.2) ∧ (w.heap.size ≤ s_.2) ∧ (w.heap.size ≤ s_.2) ∧ (gb137 ≠ s_.2) ∧ (s_.2 ≠ gb137) ∧ (Below w.heap.size w w')) ?_ ?_
   rotate_left
   ·intro hCont
    refine two_ (i := 10) (j := 11) (Ni := some 5) (Nj := some 6) (bt 14 11) #[true, true, true, true, true, true, true, true, true, true, false, true, false, false] rfl rfl rfl rfl (two_of HT_.out (by kernel_rfl)) (by decide) (by decide) (fun K hK => ?_) (fun K hK => ?_)
    ·skip
     refine box_step ?hg (N := 5) ?hd (cs := #[.int .i64 0, .int .i64 0]) (t := 34) ?hr ?_; (case hd => rfl); (case hg => rfl); (case hr => first | (go_simp; done) | (go_simp; rfl))
     intro gb138 hg w31 hbox hb
     have BK138 := Aside0.mk (hbox)
     have GW138 := ngw1 hg HB GE137
     have GE138 := ngw1 hg HB GE137
     replace HB := Aside0.mk (bst1 HB GE137 hb)
     have NB137_138 := nlt hg BK137
     have NB138_137 := nsy (nlt hg BK137)
     replace BK137 := Aside0.mk (bbl BK137 hb)
     clear hb hbox hg
     refine hK.out _ _ ⟨bcl BK137 0, bcl BK137 1, bcl BK137 2, bcl BK137 3⟩ (fun hHeld => ?_)
     clear hK K
     refine norm_ (a' := ?_) ?_ ?_
     rotate_left
     ·show Act.put _ (some 5) _ = _
      simp only [Act.put, sA, sB, sC, i64_w, i32_w]
      rfl
     refine one_ (i := 11) (N := some 6) (bt 14 12) rfl rfl (one_of HT_.out (by kernel_rfl)) (by decide) (fun K hK => ?_)
     refine box_step ?hg (N := 6) ?hd (cs := #[.int .i64 0, .int .i64 0]) (t := 34) ?hr ?_; (case hd => rfl); (case hg => rfl); (case hr => first | (go_simp; done) | (go_simp; rfl))
     intro gb139 hg w32 hbox hb
     have BK139 := Aside0.mk (hbox)
     have GW139 := ngw2 hg HB GE137 GE138
     have GE139 := ngw2 hg HB GE137 GE138
     replace HB := Aside0.mk (bst2 HB GE137 GE138 hb)
     have NB137_139 := nlt hg BK137
     have NB139_137 := nsy (nlt hg BK137)
     replace BK137 := Aside0.mk (bbl BK137 hb)
     have NB138_139 := nlt hg BK138
     have NB139_138 := nsy (nlt hg BK138)
     replace BK138 := Aside0.mk (bbl BK138 hb)
     clear hb hbox hg
     refine hK.out _ _ ⟨bcl BK137 0, bcl BK137 1, bcl BK137 2, bcl BK137 3⟩ (fun hHeld => ?_)
     clear hK K
     refine norm_ (a' := ?_) ?_ ?_
     rotate_left
     ·show Act.put _ (some 6) _ = _
      simp only [Act.put, sA, sB, sC, i64_w, i32_w]
      rfl
     exact norm_ (by simp only [putAll, Act.put, sA, sB, sC]) (hCont (gb138, gb139) _ ⟨hHeld, (bkp BK137), (bkp BK138), (bkp BK139), GW138.out, GE138.out, NB137_138.out, NB138_137.out, NB139_138.out, NB138_139.out, GW139.out, GE139.out, NB137_139.out, NB139_137.out, (bbw3 HB GE137 GE138 GE139)⟩)
    ·skip
     refine box_step ?hg (N := 6) ?hd (cs := #[.int .i64 0, .int .i64 0]) (t := 34) ?hr ?_; (case hd => rfl); (case hg => rfl); (case hr => first | (go_simp; done) | (go_simp; rfl))
     intro gb139 hg w31 hbox hb
     have BK139 := Aside0.mk (hbox)
     have GW139 := ngw1 hg HB GE137
     have GE139 := ngw1 hg HB GE137
     replace HB := Aside0.mk (bst1 HB GE137 hb)
     have NB137_139 := nlt hg BK137
     have NB139_137 := nsy (nlt hg BK137)
     replace BK137 := Aside0.mk (bbl BK137 hb)
     clear hb hbox hg
     refine hK.out _ _ ⟨bcl BK137 0, bcl BK137 1, bcl BK137 2, bcl BK137 3⟩ (fun hHeld => ?_)
     clear hK K
     refine norm_ (a' := ?_) ?_ ?_
     rotate_left
     ·show Act.put _ (some 6) _ = _
      simp only [Act.put, sA, sB, sC, i64_w, i32_w]
      rfl
     refine one_ (i := 10) (N := some 5) (bt 14 12) rfl rfl (one_of HT_.out (by kernel_rfl)) (by decide) (fun K hK => ?_)
     refine box_step ?hg (N := 5) ?hd (cs := #[.int .i64 0, .int .i64 0]) (t := 34) ?hr ?_; (case hd => rfl); (case hg => rfl); (case hr => first | (go_simp; done) | (go_simp; rfl))
     intro gb138 hg w32 hbox hb
     have BK138 := Aside0.mk (hbox)
     have GW138 := ngw2 hg HB GE137 GE139
     have GE138 := ngw2 hg HB GE137 GE139
     replace HB := Aside0.mk (bst2 HB GE137 GE139 hb)
     have NB137_138 := nlt hg BK137
     have NB138_137 := nsy (nlt hg BK137)
     replace BK137 := Aside0.mk (bbl BK137 hb)
     have NB139_138 := nlt hg BK139
     have NB138_139 := nsy (nlt hg BK139)
     replace BK139 := Aside0.mk (bbl BK139 hb)
     clear hb hbox hg
     refine hK.out _ _ ⟨bcl BK137 0, bcl BK137 1, bcl BK137 2, bcl BK137 3⟩ (fun hHeld => ?_)
     clear hK K
     refine norm_ (a' := ?_) ?_ ?_
     rotate_left
     ·show Act.put _ (some 5) _ = _
      simp only [Act.put, sA, sB, sC, i64_w, i32_w]
      rfl
     exact norm_ (by simp only [putAll, Act.put, sA, sB, sC]) (hCont (gb138, gb139) _ ⟨hHeld, (bkp BK137), (bkp BK138), (bkp BK139), GW138.out, GE138.out, NB137_138.out, NB138_137.out, NB139_138.out, NB138_139.out, GW139.out, GE139.out, NB137_139.out, NB139_137.out, (bbw3 HB GE137 GE139 GE138)⟩)
   rintro ⟨gb138, gb139⟩ w33 ⟨hS_, h0_, h1_, h2_, h3_, h4_, h5_, h6_, h7_, h8_, h9_, h10_, h11_, h12_, h13_⟩
   have n0_ : Aside0 (w33.heap[gb137]? = some (.cells #[.int .i64 a1_0, .int .i64 a1_1, .int .i64 a1_2, .int .i64 a1_3] 33 (0, 0))) := ⟨h0_⟩
   have n1_ : Aside0 (w33.heap[gb138]? = some (.cells #[.int .i64 0, .int .i64 0] 34 (0, 0))) := ⟨h1_⟩
   have n2_ : Aside0 (w33.heap[gb139]? = some (.cells #[.int .i64 0, .int .i64 0] 34 (0, 0))) := ⟨h2_⟩
   have n3_ : Aside0 (w.heap.size ≤ gb138) := ⟨h3_⟩
   have n4_ : Aside0 (w.heap.size ≤ gb138) := ⟨h4_⟩
   have n5_ : Aside0 (gb137 ≠ gb138) := ⟨h5_⟩
   have n6_ : Aside0 (gb138 ≠ gb137) := ⟨h6_⟩
   have n7_ : Aside0 (gb139 ≠ gb138) := ⟨h7_⟩
   have n8_ : Aside0 (gb138 ≠ gb139) := ⟨h8_⟩
   have n9_ : Aside0 (w.heap.size ≤ gb139) := ⟨h9_⟩
   have n10_ : Aside0 (w.heap.size ≤ gb139) := ⟨h10_⟩
   have n11_ : Aside0 (gb137 ≠ gb139) := ⟨h11_⟩
   have n12_ : Aside0 (gb139 ≠ gb137) := ⟨h12_⟩
   have n13_ : Aside0 (Below w.heap.size w w33) := ⟨h13_⟩
   clear BK137
   clear HB
   clear h0_ h1_ h2_ h3_ h4_ h5_ h6_ h7_ h8_ h9_ h10_ h11_ h12_ h13_
   have BK137 := n0_
   have BK138 := n1_
   have BK139 := n2_
   have GW138 := n3_
   have GE138 := n4_
   have NB137_138 := n5_
   have NB138_137 := n6_
   have NB139_138 := n7_
   have NB138_139 := n8_
   have GW139 := n9_
   have GE139 := n10_
   have NB137_139 := n11_
   have NB139_137 := n12_
   have HB := n13_
   clear n0_ n1_ n2_ n3_ n4_ n5_ n6_ n7_ n8_ n9_ n10_ n11_ n12_ n13_
   have hHeld : w33.cell? ⟨gb137, 0, none⟩ = some (.int .i64 a1_0) ∧ w33.cell? ⟨gb137, 1, none⟩ = some (.int .i64 a1_1) ∧ w33.cell? ⟨gb137, 2, none⟩ = some (.int .i64 a1_2) ∧ w33.cell? ⟨gb137, 3, none⟩ = some (.int .i64 a1_3) := hS_
   refine norm_ (a' := ?_) ?_ ?_
   rotate_left
   ·simp only [putAll, Act.put, sA, sB, sC]
    rfl
   refine one_ (i := 12) (N := none) (bt 14 13) rfl rfl (one_of HT_.out (by kernel_rfl)) (by decide) (fun K hK => ?_)
   have hs34 : w33.cell? ⟨gb138, 0, none⟩ = some (.int .i64 0) := bcl BK138 0
   have hfs34 := blk_frozen BK138.out 0
   have hns34_0 := NB137_138.out
   have hns34_2 := NB139_138.out
   have hms34_0 := NB138_137.out
   have hms34_2 := NB138_139.out
   have hs35 : w33.cell? ⟨gb138, 1, none⟩ = some (.int .i64 0) := bcl BK138 1
   have hfs35 := blk_frozen BK138.out 1
   have hns35_0 := NB137_138.out
   have hns35_2 := NB139_138.out
   have hms35_0 := NB138_137.out
   have hms35_2 := NB138_139.out
   refine skip_ (w1 := ?_) (by rfl) rfl ?_ ?_
   rotate_left
   ·go_simp
    rfl
   refine hK.out _ _ ⟨((cell_far (p := ⟨gb138, _, none⟩) NB137_138.out _).trans (((cell_far (p := ⟨gb138, _, none⟩) NB137_138.out _).trans (hHeld.1)))), ((cell_far (p := ⟨gb138, _, none⟩) NB137_138.out _).trans (((cell_far (p := ⟨gb138, _, none⟩) NB137_138.out _).trans (hHeld.2.1)))), ((cell_far (p := ⟨gb138, _, none⟩) NB137_138.out _).trans (((cell_far (p := ⟨gb138, _, none⟩) NB137_138.out _).trans (hHeld.2.2.1)))), ((cell_far (p := ⟨gb138, _, none⟩) NB137_138.out _).trans (((cell_far (p := ⟨gb138, _, none⟩) NB137_138.out _).trans (hHeld.2.2.2))))⟩ (fun hHeld => ?_)
   clear hK K
   refine one_ (i := 13) (N := none) (bt 14 14) rfl rfl (one_of HT_.out (by kernel_rfl)) (by decide) (fun K hK => ?_)
   have hs36 : w33.cell? ⟨gb139, 0, none⟩ = some (.int .i64 0) := bcl BK139 0
   have hfs36 := blk_frozen BK139.out 0
   have hns36_0 := NB137_139.out
   have hns36_1 := NB138_139.out
   have hms36_0 := NB139_137.out
   have hms36_1 := NB139_138.out
   have hs37 : w33.cell? ⟨gb139, 1, none⟩ = some (.int .i64 0) := bcl BK139 1
   have hfs37 := blk_frozen BK139.out 1
   have hns37_0 := NB137_139.out
   have hns37_1 := NB138_139.out
   have hms37_0 := NB139_137.out
   have hms37_1 := NB139_138.out
   refine skip_ (w1 := ?_) (by rfl) rfl ?_ ?_
   rotate_left
   ·go_simp
    rfl
   refine hK.out _ _ ⟨((cell_far (p := ⟨gb139, _, none⟩) NB137_139.out _).trans (((cell_far (p := ⟨gb139, _, none⟩) NB137_139.out _).trans (hHeld.1)))), ((cell_far (p := ⟨gb139, _, none⟩) NB137_139.out _).trans (((cell_far (p := ⟨gb139, _, none⟩) NB137_139.out _).trans (hHeld.2.1)))), ((cell_far (p := ⟨gb139, _, none⟩) NB137_139.out _).trans (((cell_far (p := ⟨gb139, _, none⟩) NB137_139.out _).trans (hHeld.2.2.1)))), ((cell_far (p := ⟨gb139, _, none⟩) NB137_139.out _).trans (((cell_far (p := ⟨gb139, _, none⟩) NB137_139.out _).trans (hHeld.2.2.2))))⟩ (fun hHeld => ?_)
   clear hK K
   refine done_ (done_of HT_.out (by kernel_rfl)) ?_
   have hnb38 := NB138_137.out
   have hnc38 := NB137_138.out
   have hnb39 := NB138_139.out
   have hnc39 := NB139_138.out
   obtain ⟨hcz40_0, hcz40_1, hfz40_0, hfz40_1⟩ := bz2 BK138
   try go_wp2_with (first | ((with_reducible refine gate_callee (f := 118) rfl ?_); refine goesL_ (some 19) rfl rfl Try.func118 (by kernel_rfl) rfl #[.int .i64 a0, .agg #[.int .i64 a1_0, .int .i64 a1_2]] rfl (by (try simp only [List.map_toArray, List.map_cons, List.map_nil]); first | done | rfl | (simp only [List.length_drop, List.length_take]; rfl)) ?_; (with_reducible refine (spec_l04Norm.calls a0 a1_0 a1_2 t140 _ A3.out).mono ?_); rintro e w41 ⟨rfl, hb⟩; refine ⟨_, rfl, ?_⟩; replace BK137 := Aside0.mk (blk_below (g := gb137) (o := .cells #[.int .i64 a1_0, .int .i64 a1_1, .int .i64 a1_2, .int .i64 a1_3] 33 (0, 0)) (by (with_reducible repeat (first | refine blk_drewN ?_ _ | refine blk_drew ?_ | refine blk_alloc ?_ _)); refine blk_far ?_ NB137_139.out _; (with_reducible repeat (first | refine blk_drewN ?_ _ | refine blk_drew ?_ | refine blk_alloc ?_ _)); refine blk_far ?_ NB137_139.out _; (with_reducible repeat (first | refine blk_drewN ?_ _ | refine blk_drew ?_ | refine blk_alloc ?_ _)); refine blk_far ?_ NB137_138.out _; (with_reducible repeat (first | refine blk_drewN ?_ _ | refine blk_drew ?_ | refine blk_alloc ?_ _)); refine blk_far ?_ NB137_138.out _; (with_reducible repeat (first | refine blk_drewN ?_ _ | refine blk_drew ?_ | refine blk_alloc ?_ _)); exact BK137.out) hb); replace BK138 := Aside0.mk (blk_below (g := gb138) (o := .cells #[.int .i64 a1_0, .int .i64 a1_2] 34 (0, 0)) (by (with_reducible repeat (first | refine blk_drewN ?_ _ | refine blk_drew ?_ | refine blk_alloc ?_ _)); refine blk_far ?_ NB138_139.out _; (with_reducible repeat (first | refine blk_drewN ?_ _ | refine blk_drew ?_ | refine blk_alloc ?_ _)); refine blk_far ?_ NB138_139.out _; (with_reducible repeat (first | refine blk_drewN ?_ _ | refine blk_drew ?_ | refine blk_alloc ?_ _)); refine blk_put (cs := #[.int .i64 a1_0, .int .i64 0]) ?_ 1 _ rfl; (with_reducible repeat (first | refine blk_drewN ?_ _ | refine blk_drew ?_ | refine blk_alloc ?_ _)); refine blk_put (cs := #[.int .i64 0, .int .i64 0]) ?_ 0 _ rfl; (with_reducible repeat (first | refine blk_drewN ?_ _ | refine blk_drew ?_ | refine blk_alloc ?_ _)); exact BK138.out) hb); replace BK139 := Aside0.mk (blk_below (g := gb139) (o := .cells #[.int .i64 a1_1, .int .i64 a1_3] 34 (0, 0)) (by (with_reducible repeat (first | refine blk_drewN ?_ _ | refine blk_drew ?_ | refine blk_alloc ?_ _)); refine blk_put (cs := #[.int .i64 a1_1, .int .i64 0]) ?_ 1 _ rfl; (with_reducible repeat (first | refine blk_drewN ?_ _ | refine blk_drew ?_ | refine blk_alloc ?_ _)); refine blk_put (cs := #[.int .i64 0, .int .i64 0]) ?_ 0 _ rfl; (with_reducible repeat (first | refine blk_drewN ?_ _ | refine blk_drew ?_ | refine blk_alloc ?_ _)); refine blk_far ?_ NB139_138.out _; (with_reducible repeat (first | refine blk_drewN ?_ _ | refine blk_drew ?_ | refine blk_alloc ?_ _)); refine blk_far ?_ NB139_138.out _; (with_reducible repeat (first | refine blk_drewN ?_ _ | refine blk_drew ?_ | refine blk_alloc ?_ _)); exact BK139.out) hb); replace HB := Aside0.mk (bst3 HB GE137 GE138 GE139 hb); (try clear hb); (try clear hb2); (try clear hk); (try clear hi); have hnb42 := NB139_137.out; have hnc42 := NB137_139.out; obtain ⟨hcz43_0, hcz43_1, hfz43_0, hfz43_1⟩ := bz2 BK139) | (go_at_call 118; (with_reducible refine (spec_l04Norm.calls a0 a1_1 a1_3 t141 _ A5.out).mono ?_); rintro e w44 ⟨rfl, hb⟩; replace BK137 := Aside0.mk (bbl BK137 hb); replace BK138 := Aside0.mk (bbl BK138 hb); replace BK139 := Aside0.mk (bbl BK139 hb); replace HB := Aside0.mk (bst3 HB GE137 GE138 GE139 hb); (try clear hb); (try clear hb2); (try clear hk); (try clear hi)))
   go_ret
   exact ⟨by first | rfl | (simp [errW_none, errW_some] <;> rfl) | (simp [*, errW_none, errW_some] <;> rfl), bbw3 HB GE137 GE138 GE139⟩
 ·rw [if_neg c4] at H
  have c4b0 : (t140 == 1) = false := beq_eq_false_iff_ne.mpr c4
  have c4b1 : (t140 != 1) = true := bne_iff_ne.mpr c4
  obtain rfl := Option.some.inj H
  go_enter Try.func75, Try.ntmps75
  try go_wp2_with (first | ((with_reducible refine gate_dst (N := 3) rfl ?_); refine box_event ?hg (N := 3) ?hd (cs := #[.int .i64 a1_0, .int .i64 a1_1, .int .i64 a1_2, .int .i64 a1_3]) (t := 33) ?hr ?_; (case hd => rfl); (case hg => rfl); (case hr => first | (go_simp; done) | (go_simp; rfl)); intro gb137 hg w45 hbox hb; have BK137 := Aside0.mk (hbox); have GW137 := ngw0 hg HB; have GE137 := ngw0 hg HB; replace HB := Aside0.mk (bst0 HB hb); clear hb hbox hg))
  replace BK137 := Aside0.mk (blk_drew BK137.out)
  replace HB := Aside0.mk (below_drew1 HB.out)
  refine start_ (n := 14) (S := fun w' => w'.cell? ⟨gb137, 0, none⟩ = some (.int .i64 a1_0) ∧ w'.cell? ⟨gb137, 1, none⟩ = some (.int .i64 a1_1) ∧ w'.cell? ⟨gb137, 2, none⟩ = some (.int .i64 a1_2) ∧ w'.cell? ⟨gb137, 3, none⟩ = some (.int .i64 a1_3)) (ds := []) (bt 14 0) (by kernel_rfl) rfl rfl ⟨bcl BK137 0, bcl BK137 1, bcl BK137 2, bcl BK137 3⟩ (fun hHeld => ?_); refine with_tabW spec_l04Keeps.tab1 spec_l04Keeps.bits1 (fun HT_ HW_ => ?_)
  generalize w45.drew = w46 at BK137 HB hHeld ⊢
  refine pu 0 (some 7) (bt 14 1) HT_ ?_
  refine pu 2 (some 9) #[true, false, true, false, false, false, false, false, false, false, false, false, false, false] HT_ ?_
  refine pu 5 (some 12) #[true, false, true, false, false, true, false, false, false, false, false, false, false, false] HT_ ?_
  refine pu 7 (some 14) #[true, false, true, false, false, true, false, true, false, false, false, false, false, false] HT_ ?_
  refine ta 1 (some 8) #[true, true, true, false, false, true, false, true, false, false, false, false, false, false] HT_ HW_ hHeld ?_
  refine ta 3 (some 10) #[true, true, true, true, false, true, false, true, false, false, false, false, false, false] HT_ HW_ hHeld ?_
  refine pu 4 (some 11) #[true, true, true, true, true, true, false, true, false, false, false, false, false, false] HT_ ?_
  refine ta 6 (some 13) (bt 14 8) HT_ HW_ hHeld ?_
  refine ta 8 (some 15) (bt 14 9) HT_ HW_ hHeld ?_
  refine pu 9 (some 16) (bt 14 10) HT_ ?_
  refine join_ (σ := Nat × Nat) 2 (bt 14 12) (fun s_ => [(5, .pointer (some ⟨s_.1, 0, none⟩)), (6, .pointer (some ⟨s_.2, 0, none⟩))]) (fun s_ w' => (w'.cell? ⟨gb137, 0, none⟩ = some (.int .i64 a1_0) ∧ w'.cell? ⟨gb137, 1, none⟩ = some (.int .i64 a1_1) ∧ w'.cell? ⟨gb137, 2, none⟩ = some (.int .i64 a1_2) ∧ w'.cell? ⟨gb137, 3, none⟩ = some (.int .i64 a1_3)) ∧ (w'.heap[gb137]? = some (.cells #[.int .i64 a1_0, .int .i64 a1_1, .int .i64 a1_2, .int .i64 a1_3] 33 (0, 0))) ∧ (w'.heap[s_.1]? = some (.cells #[.int .i64 0, .int .i64 0] 34 (0, 0))) ∧ (w'.heap[s_.2]? = some (.cells #[.int .i64 0, .int .i64 0] 34 (0, 0))) ∧ (w.heap.size ≤ s_.1) ∧ (w.heap.size ≤ s_.1) ∧ (gb137 ≠ s_.1) ∧ (s_.1 ≠ gb137) ∧ (s_.2 ≠ s_.1) ∧ (s_.1 ≠ s_.2) ∧ (w.heap.size ≤ s_.2) ∧ (w.heap.size ≤ s_.2) ∧ (gb137 ≠ s_.2) ∧ (s_.2 ≠ gb137) ∧ (Below w.heap.size w w')) ?_ ?_
  rotate_left
  ·intro hCont
   refine two_ (i := 10) (j := 11) (Ni := some 5) (Nj := some 6) (bt 14 11) #[true, true, true, true, true, true, true, true, true, true, false, true, false, false] rfl rfl rfl rfl (two_of HT_.out (by kernel_rfl)) (by decide) (by decide) (fun K hK => ?_) (fun K hK => ?_)
   ·skip
    refine box_step ?hg (N := 5) ?hd (cs := #[.int .i64 0, .int .i64 0]) (t := 34) ?hr ?_; (case hd => rfl); (case hg => rfl); (case hr => first | (go_simp; done) | (go_simp; rfl))
    intro gb138 hg w47 hbox hb
    have BK138 := Aside0.mk (hbox)
    have GW138 := ngw1 hg HB GE137
    have GE138 := ngw1 hg HB GE137
    replace HB := Aside0.mk (bst1 HB GE137 hb)
    have NB137_138 := nlt hg BK137
    have NB138_137 := nsy (nlt hg BK137)
    replace BK137 := Aside0.mk (bbl BK137 hb)
    clear hb hbox hg
    refine hK.out _ _ ⟨bcl BK137 0, bcl BK137 1, bcl BK137 2, bcl BK137 3⟩ (fun hHeld => ?_)
    clear hK K
    refine norm_ (a' := ?_) ?_ ?_
    rotate_left
    ·show Act.put _ (some 5) _ = _
     simp only [Act.put, sA, sB, sC, i64_w, i32_w]
     rfl
    refine one_ (i := 11) (N := some 6) (bt 14 12) rfl rfl (one_of HT_.out (by kernel_rfl)) (by decide) (fun K hK => ?_)
    refine box_step ?hg (N := 6) ?hd (cs := #[.int .i64 0, .int .i64 0]) (t := 34) ?hr ?_; (case hd => rfl); (case hg => rfl); (case hr => first | (go_simp; done) | (go_simp; rfl))
    intro gb139 hg w48 hbox hb
    have BK139 := Aside0.mk (hbox)
    have GW139 := ngw2 hg HB GE137 GE138
    have GE139 := ngw2 hg HB GE137 GE138
    replace HB := Aside0.mk (bst2 HB GE137 GE138 hb)
    have NB137_139 := nlt hg BK137
    have NB139_137 := nsy (nlt hg BK137)
    replace BK137 := Aside0.mk (bbl BK137 hb)
    have NB138_139 := nlt hg BK138
    have NB139_138 := nsy (nlt hg BK138)
    replace BK138 := Aside0.mk (bbl BK138 hb)
    clear hb hbox hg
    refine hK.out _ _ ⟨bcl BK137 0, bcl BK137 1, bcl BK137 2, bcl BK137 3⟩ (fun hHeld => ?_)
    clear hK K
    refine norm_ (a' := ?_) ?_ ?_
    rotate_left
    ·show Act.put _ (some 6) _ = _
     simp only [Act.put, sA, sB, sC, i64_w, i32_w]
     rfl
    exact norm_ (by simp only [putAll, Act.put, sA, sB, sC]) (hCont (gb138, gb139) _ ⟨hHeld, (bkp BK137), (bkp BK138), (bkp BK139), GW138.out, GE138.out, NB137_138.out, NB138_137.out, NB139_138.out, NB138_139.out, GW139.out, GE139.out, NB137_139.out, NB139_137.out, (bbw3 HB GE137 GE138 GE139)⟩)
   ·skip
    refine box_step ?hg (N := 6) ?hd (cs := #[.int .i64 0, .int .i64 0]) (t := 34) ?hr ?_; (case hd => rfl); (case hg => rfl); (case hr => first | (go_simp; done) | (go_simp; rfl))
    intro gb139 hg w47 hbox hb
    have BK139 := Aside0.mk (hbox)
    have GW139 := ngw1 hg HB GE137
    have GE139 := ngw1 hg HB GE137
    replace HB := Aside0.mk (bst1 HB GE137 hb)
    have NB137_139 := nlt hg BK137
    have NB139_137 := nsy (nlt hg BK137)
    replace BK137 := Aside0.mk (bbl BK137 hb)
    clear hb hbox hg
    refine hK.out _ _ ⟨bcl BK137 0, bcl BK137 1, bcl BK137 2, bcl BK137 3⟩ (fun hHeld => ?_)
    clear hK K
    refine norm_ (a' := ?_) ?_ ?_
    rotate_left
    ·show Act.put _ (some 6) _ = _
     simp only [Act.put, sA, sB, sC, i64_w, i32_w]
     rfl
    refine one_ (i := 10) (N := some 5) (bt 14 12) rfl rfl (one_of HT_.out (by kernel_rfl)) (by decide) (fun K hK => ?_)
    refine box_step ?hg (N := 5) ?hd (cs := #[.int .i64 0, .int .i64 0]) (t := 34) ?hr ?_; (case hd => rfl); (case hg => rfl); (case hr => first | (go_simp; done) | (go_simp; rfl))
    intro gb138 hg w48 hbox hb
    have BK138 := Aside0.mk (hbox)
    have GW138 := ngw2 hg HB GE137 GE139
    have GE138 := ngw2 hg HB GE137 GE139
    replace HB := Aside0.mk (bst2 HB GE137 GE139 hb)
    have NB137_138 := nlt hg BK137
    have NB138_137 := nsy (nlt hg BK137)
    replace BK137 := Aside0.mk (bbl BK137 hb)
    have NB139_138 := nlt hg BK139
    have NB138_139 := nsy (nlt hg BK139)
    replace BK139 := Aside0.mk (bbl BK139 hb)
    clear hb hbox hg
    refine hK.out _ _ ⟨bcl BK137 0, bcl BK137 1, bcl BK137 2, bcl BK137 3⟩ (fun hHeld => ?_)
    clear hK K
    refine norm_ (a' := ?_) ?_ ?_
    rotate_left
    ·show Act.put _ (some 5) _ = _
     simp only [Act.put, sA, sB, sC, i64_w, i32_w]
     rfl
    exact norm_ (by simp only [putAll, Act.put, sA, sB, sC]) (hCont (gb138, gb139) _ ⟨hHeld, (bkp BK137), (bkp BK138), (bkp BK139), GW138.out, GE138.out, NB137_138.out, NB138_137.out, NB139_138.out, NB138_139.out, GW139.out, GE139.out, NB137_139.out, NB139_137.out, (bbw3 HB GE137 GE139 GE138)⟩)
  rintro ⟨gb138, gb139⟩ w49 ⟨hS_, h0_, h1_, h2_, h3_, h4_, h5_, h6_, h7_, h8_, h9_, h10_, h11_, h12_, h13_⟩
  have n0_ : Aside0 (w49.heap[gb137]? = some (.cells #[.int .i64 a1_0, .int .i64 a1_1, .int .i64 a1_2, .int .i64 a1_3] 33 (0, 0))) := ⟨h0_⟩
  have n1_ : Aside0 (w49.heap[gb138]? = some (.cells #[.int .i64 0, .int .i64 0] 34 (0, 0))) := ⟨h1_⟩
  have n2_ : Aside0 (w49.heap[gb139]? = some (.cells #[.int .i64 0, .int .i64 0] 34 (0, 0))) := ⟨h2_⟩
  have n3_ : Aside0 (w.heap.size ≤ gb138) := ⟨h3_⟩
  have n4_ : Aside0 (w.heap.size ≤ gb138) := ⟨h4_⟩
  have n5_ : Aside0 (gb137 ≠ gb138) := ⟨h5_⟩
  have n6_ : Aside0 (gb138 ≠ gb137) := ⟨h6_⟩
  have n7_ : Aside0 (gb139 ≠ gb138) := ⟨h7_⟩
  have n8_ : Aside0 (gb138 ≠ gb139) := ⟨h8_⟩
  have n9_ : Aside0 (w.heap.size ≤ gb139) := ⟨h9_⟩
  have n10_ : Aside0 (w.heap.size ≤ gb139) := ⟨h10_⟩
  have n11_ : Aside0 (gb137 ≠ gb139) := ⟨h11_⟩
  have n12_ : Aside0 (gb139 ≠ gb137) := ⟨h12_⟩
  have n13_ : Aside0 (Below w.heap.size w w49) := ⟨h13_⟩
  clear BK137
  clear HB
  clear h0_ h1_ h2_ h3_ h4_ h5_ h6_ h7_ h8_ h9_ h10_ h11_ h12_ h13_
  have BK137 := n0_
  have BK138 := n1_
  have BK139 := n2_
  have GW138 := n3_
  have GE138 := n4_
  have NB137_138 := n5_
  have NB138_137 := n6_
  have NB139_138 := n7_
  have NB138_139 := n8_
  have GW139 := n9_
  have GE139 := n10_
  have NB137_139 := n11_
  have NB139_137 := n12_
  have HB := n13_
  clear n0_ n1_ n2_ n3_ n4_ n5_ n6_ n7_ n8_ n9_ n10_ n11_ n12_ n13_
  have hHeld : w49.cell? ⟨gb137, 0, none⟩ = some (.int .i64 a1_0) ∧ w49.cell? ⟨gb137, 1, none⟩ = some (.int .i64 a1_1) ∧ w49.cell? ⟨gb137, 2, none⟩ = some (.int .i64 a1_2) ∧ w49.cell? ⟨gb137, 3, none⟩ = some (.int .i64 a1_3) := hS_
  refine norm_ (a' := ?_) ?_ ?_
  rotate_left
  ·simp only [putAll, Act.put, sA, sB, sC]
   rfl
  refine one_ (i := 12) (N := none) (bt 14 13) rfl rfl (one_of HT_.out (by kernel_rfl)) (by decide) (fun K hK => ?_)
  have hs50 : w49.cell? ⟨gb138, 0, none⟩ = some (.int .i64 0) := bcl BK138 0
  have hfs50 := blk_frozen BK138.out 0
  have hns50_0 := NB137_138.out
  have hns50_2 := NB139_138.out
  have hms50_0 := NB138_137.out
  have hms50_2 := NB138_139.out
  have hs51 : w49.cell? ⟨gb138, 1, none⟩ = some (.int .i64 0) := bcl BK138 1
  have hfs51 := blk_frozen BK138.out 1
  have hns51_0 := NB137_138.out
  have hns51_2 := NB139_138.out
  have hms51_0 := NB138_137.out
  have hms51_2 := NB138_139.out
  refine skip_ (w1 := ?_) (by rfl) rfl ?_ ?_
  rotate_left
  ·go_simp
   rfl
  refine hK.out _ _ ⟨((cell_far (p := ⟨gb138, _, none⟩) NB137_138.out _).trans (((cell_far (p := ⟨gb138, _, none⟩) NB137_138.out _).trans (hHeld.1)))), ((cell_far (p := ⟨gb138, _, none⟩) NB137_138.out _).trans (((cell_far (p := ⟨gb138, _, none⟩) NB137_138.out _).trans (hHeld.2.1)))), ((cell_far (p := ⟨gb138, _, none⟩) NB137_138.out _).trans (((cell_far (p := ⟨gb138, _, none⟩) NB137_138.out _).trans (hHeld.2.2.1)))), ((cell_far (p := ⟨gb138, _, none⟩) NB137_138.out _).trans (((cell_far (p := ⟨gb138, _, none⟩) NB137_138.out _).trans (hHeld.2.2.2))))⟩ (fun hHeld => ?_)
  clear hK K
  refine one_ (i := 13) (N := none) (bt 14 14) rfl rfl (one_of HT_.out (by kernel_rfl)) (by decide) (fun K hK => ?_)
  have hs52 : w49.cell? ⟨gb139, 0, none⟩ = some (.int .i64 0) := bcl BK139 0
  have hfs52 := blk_frozen BK139.out 0
  have hns52_0 := NB137_139.out
  have hns52_1 := NB138_139.out
  have hms52_0 := NB139_137.out
  have hms52_1 := NB139_138.out
  have hs53 : w49.cell? ⟨gb139, 1, none⟩ = some (.int .i64 0) := bcl BK139 1
  have hfs53 := blk_frozen BK139.out 1
  have hns53_0 := NB137_139.out
  have hns53_1 := NB138_139.out
  have hms53_0 := NB139_137.out
  have hms53_1 := NB139_138.out
  refine skip_ (w1 := ?_) (by rfl) rfl ?_ ?_
  rotate_left
  ·go_simp
   rfl
  refine hK.out _ _ ⟨((cell_far (p := ⟨gb139, _, none⟩) NB137_139.out _).trans (((cell_far (p := ⟨gb139, _, none⟩) NB137_139.out _).trans (hHeld.1)))), ((cell_far (p := ⟨gb139, _, none⟩) NB137_139.out _).trans (((cell_far (p := ⟨gb139, _, none⟩) NB137_139.out _).trans (hHeld.2.1)))), ((cell_far (p := ⟨gb139, _, none⟩) NB137_139.out _).trans (((cell_far (p := ⟨gb139, _, none⟩) NB137_139.out _).trans (hHeld.2.2.1)))), ((cell_far (p := ⟨gb139, _, none⟩) NB137_139.out _).trans (((cell_far (p := ⟨gb139, _, none⟩) NB137_139.out _).trans (hHeld.2.2.2))))⟩ (fun hHeld => ?_)
  clear hK K
  refine done_ (done_of HT_.out (by kernel_rfl)) ?_
  have hnb54 := NB138_137.out
  have hnc54 := NB137_138.out
  have hnb55 := NB138_139.out
  have hnc55 := NB139_138.out
  obtain ⟨hcz56_0, hcz56_1, hfz56_0, hfz56_1⟩ := bz2 BK138
  try go_wp2_with (first | ((with_reducible refine gate_callee (f := 118) rfl ?_); refine goesL_ (some 19) rfl rfl Try.func118 (by kernel_rfl) rfl #[.int .i64 a0, .agg #[.int .i64 a1_0, .int .i64 a1_2]] rfl (by (try simp only [List.map_toArray, List.map_cons, List.map_nil]); first | done | rfl | (simp only [List.length_drop, List.length_take]; rfl)) ?_; (with_reducible refine (spec_l04Norm.calls a0 a1_0 a1_2 t140 _ A3.out).mono ?_); rintro e w57 ⟨rfl, hb⟩; refine ⟨_, rfl, ?_⟩; replace BK137 := Aside0.mk (blk_below (g := gb137) (o := .cells #[.int .i64 a1_0, .int .i64 a1_1, .int .i64 a1_2, .int .i64 a1_3] 33 (0, 0)) (by (with_reducible repeat (first | refine blk_drewN ?_ _ | refine blk_drew ?_ | refine blk_alloc ?_ _)); refine blk_far ?_ NB137_139.out _; (with_reducible repeat (first | refine blk_drewN ?_ _ | refine blk_drew ?_ | refine blk_alloc ?_ _)); refine blk_far ?_ NB137_139.out _; (with_reducible repeat (first | refine blk_drewN ?_ _ | refine blk_drew ?_ | refine blk_alloc ?_ _)); refine blk_far ?_ NB137_138.out _; (with_reducible repeat (first | refine blk_drewN ?_ _ | refine blk_drew ?_ | refine blk_alloc ?_ _)); refine blk_far ?_ NB137_138.out _; (with_reducible repeat (first | refine blk_drewN ?_ _ | refine blk_drew ?_ | refine blk_alloc ?_ _)); exact BK137.out) hb); replace BK138 := Aside0.mk (blk_below (g := gb138) (o := .cells #[.int .i64 a1_0, .int .i64 a1_2] 34 (0, 0)) (by (with_reducible repeat (first | refine blk_drewN ?_ _ | refine blk_drew ?_ | refine blk_alloc ?_ _)); refine blk_far ?_ NB138_139.out _; (with_reducible repeat (first | refine blk_drewN ?_ _ | refine blk_drew ?_ | refine blk_alloc ?_ _)); refine blk_far ?_ NB138_139.out _; (with_reducible repeat (first | refine blk_drewN ?_ _ | refine blk_drew ?_ | refine blk_alloc ?_ _)); refine blk_put (cs := #[.int .i64 a1_0, .int .i64 0]) ?_ 1 _ rfl; (with_reducible repeat (first | refine blk_drewN ?_ _ | refine blk_drew ?_ | refine blk_alloc ?_ _)); refine blk_put (cs := #[.int .i64 0, .int .i64 0]) ?_ 0 _ rfl; (with_reducible repeat (first | refine blk_drewN ?_ _ | refine blk_drew ?_ | refine blk_alloc ?_ _)); exact BK138.out) hb); replace BK139 := Aside0.mk (blk_below (g := gb139) (o := .cells #[.int .i64 a1_1, .int .i64 a1_3] 34 (0, 0)) (by (with_reducible repeat (first | refine blk_drewN ?_ _ | refine blk_drew ?_ | refine blk_alloc ?_ _)); refine blk_put (cs := #[.int .i64 a1_1, .int .i64 0]) ?_ 1 _ rfl; (with_reducible repeat (first | refine blk_drewN ?_ _ | refine blk_drew ?_ | refine blk_alloc ?_ _)); refine blk_put (cs := #[.int .i64 0, .int .i64 0]) ?_ 0 _ rfl; (with_reducible repeat (first | refine blk_drewN ?_ _ | refine blk_drew ?_ | refine blk_alloc ?_ _)); refine blk_far ?_ NB139_138.out _; (with_reducible repeat (first | refine blk_drewN ?_ _ | refine blk_drew ?_ | refine blk_alloc ?_ _)); refine blk_far ?_ NB139_138.out _; (with_reducible repeat (first | refine blk_drewN ?_ _ | refine blk_drew ?_ | refine blk_alloc ?_ _)); exact BK139.out) hb); replace HB := Aside0.mk (bst3 HB GE137 GE138 GE139 hb); (try clear hb); (try clear hb2); (try clear hk); (try clear hi)))
  go_ret
  exact ⟨by first | rfl | (simp [errW_none, errW_some] <;> rfl) | (simp [*, errW_none, errW_some] <;> rfl), bbw3 HB GE137 GE138 GE139⟩

/-! ### spec_IsPointMat: function 39 -/
def spec_IsPointMat.f (a0 : Int) (a1_0 : Int) (a1_1 : Int) (a1_2 : Int) (a1_3 : Int) : Option (Bool) := (spec_IsFrame.f a0).bind fun t146 => (if t146 = true then ((spec_IsMat.f a1_0 a1_1 a1_2 a1_3).bind fun t147 => (if t147 = true then ((spec_l04Keeps.f a0 a1_0 a1_1 a1_2 a1_3).bind fun t148 => (some t148)) else (some false))) else (some false))
set_option maxHeartbeats 8000000 in
set_option maxRecDepth 100000 in
theorem spec_IsPointMat.calls (a0 : Int) (a1_0 : Int) (a1_1 : Int) (a1_2 : Int) (a1_3 : Int) (r : Bool) (w : World) (h : spec_IsPointMat.f a0 a1_0 a1_1 a1_2 a1_3 = some r) :
  Calls Try.prog 39 #[.int .i64 a0, .agg #[.int .i64 a1_0, .int .i64 a1_1, .int .i64 a1_2, .int .i64 a1_3]] w fun e w' => e = .returned (.bool r) ∧ Below w.heap.size w w' := by
 have hu33 := Try.underlying33
 have HB := Aside0.mk (Below.refl w.heap.size w)
 have H : ((spec_IsFrame.f a0).bind fun t146 => (if t146 = true then ((spec_IsMat.f a1_0 a1_1 a1_2 a1_3).bind fun t147 => (if t147 = true then ((spec_l04Keeps.f a0 a1_0 a1_1 a1_2 a1_3).bind fun t148 => (some t148)) else (some false))) else (some false))) = some r := h
 clear h
 replace H := Option.bind_eq_some_iff.mp H
 obtain ⟨t146, A30, H⟩ := H
 replace H : (if t146 = true then ((spec_IsMat.f a1_0 a1_1 a1_2 a1_3).bind fun t147 => (if t147 = true then ((spec_l04Keeps.f a0 a1_0 a1_1 a1_2 a1_3).bind fun t148 => (some t148)) else (some false))) else (some false)) = some r := H
 have A3 := Aside0.mk A30
 clear A30
 by_cases c4 : t146 = true
 ·subst c4
  have H1 : ((spec_IsMat.f a1_0 a1_1 a1_2 a1_3).bind fun t147 => (if t147 = true then ((spec_l04Keeps.f a0 a1_0 a1_1 a1_2 a1_3).bind fun t148 => (some t148)) else (some false))) = some r := by rw [if_pos rfl] at H; first | done | exact H
  clear H
  have H := H1
  clear H1
  replace H := Option.bind_eq_some_iff.mp H
  obtain ⟨t147, A50, H⟩ := H
  replace H : (if t147 = true then ((spec_l04Keeps.f a0 a1_0 a1_1 a1_2 a1_3).bind fun t148 => (some t148)) else (some false)) = some r := H
  have A5 := Aside0.mk A50
  clear A50
  by_cases c6 : t147 = true
  ·subst c6
   have H1 : ((spec_l04Keeps.f a0 a1_0 a1_1 a1_2 a1_3).bind fun t148 => (some t148)) = some r := by rw [if_pos rfl] at H; first | done | exact H
   clear H
   have H := H1
   clear H1
   replace H := Option.bind_eq_some_iff.mp H
   obtain ⟨t148, A70, H⟩ := H
   replace H : (some t148) = some r := H
   have A7 := Aside0.mk A70
   clear A70
   obtain rfl := Option.some.inj H
   go_enter Try.func39, Try.ntmps39
   go_wp2_with (first | ((with_reducible refine gate_dst (N := 3) rfl ?_); refine box_event ?hg (N := 3) ?hd (cs := #[.int .i64 a1_0, .int .i64 a1_1, .int .i64 a1_2, .int .i64 a1_3]) (t := 33) ?hr ?_; (case hd => rfl); (case hg => rfl); (case hr => first | (go_simp; done) | (go_simp; rfl)); intro gb145 hg w8 hbox hb; have BK145 := Aside0.mk (hbox); have GW145 := ngw0 hg HB; have GE145 := ngw0 hg HB; replace HB := Aside0.mk (bst0 HB hb); clear hb hbox hg) | ((with_reducible refine gate_callee (f := 72) rfl ?_); refine goesL_ (some 6) rfl rfl Try.func72 (by kernel_rfl) rfl #[.int .i64 a0] rfl (by (try simp only [List.map_toArray, List.map_cons, List.map_nil]); first | done | rfl | (simp only [List.length_drop, List.length_take]; rfl)) ?_; (with_reducible refine (spec_IsFrame.calls a0 true _ A3.out).mono ?_); rintro e w' ⟨rfl, ⟨nd, rfl⟩⟩; refine ⟨_, rfl, ?_⟩; have hcz9_0 : w8.cell? ⟨gb145, 0, none⟩ = some (.int .i64 a1_0) := bcl BK145 0; have hcz9_1 : w8.cell? ⟨gb145, 1, none⟩ = some (.int .i64 a1_1) := bcl BK145 1; have hcz9_2 : w8.cell? ⟨gb145, 2, none⟩ = some (.int .i64 a1_2) := bcl BK145 2; have hcz9_3 : w8.cell? ⟨gb145, 3, none⟩ = some (.int .i64 a1_3) := bcl BK145 3; have hfz9_0 := blk_frozen BK145.out 0; have hfz9_1 := blk_frozen BK145.out 1; have hfz9_2 := blk_frozen BK145.out 2; have hfz9_3 := blk_frozen BK145.out 3) | (go_at_call 74; (with_reducible refine (spec_IsMat.calls a1_0 a1_1 a1_2 a1_3 true _ A5.out).mono ?_); rintro e w10 ⟨rfl, hb⟩; replace BK145 := Aside0.mk (bbl BK145 hb); replace HB := Aside0.mk (bst1 HB GE145 hb); (try clear hb); (try clear hb2); (try clear hk); (try clear hi); obtain ⟨hcz11_0, hcz11_1, hcz11_2, hcz11_3, hfz11_0, hfz11_1, hfz11_2, hfz11_3⟩ := bz4 BK145) | (go_at_call 75; (with_reducible refine (spec_l04Keeps.calls a0 a1_0 a1_1 a1_2 a1_3 t148 _ A7.out).mono ?_); rintro e w12 ⟨rfl, hb⟩; replace BK145 := Aside0.mk (bbl BK145 hb); replace HB := Aside0.mk (bst1 HB GE145 hb); (try clear hb); (try clear hb2); (try clear hk); (try clear hi)))
   go_ret
   exact ⟨by first | rfl | (simp [errW_none, errW_some] <;> rfl) | (simp [*, errW_none, errW_some] <;> rfl), bbw1 HB GE145⟩
  ·replace c6 := Bool.eq_false_iff.mpr c6
   subst c6
   have H1 : (some false) = some r := by rw [if_neg (show ¬ (false = true) by decide)] at H; first | done | exact H
   clear H
   have H := H1
   clear H1
   obtain rfl := Option.some.inj H
   go_enter Try.func39, Try.ntmps39
   go_wp2_with (first | ((with_reducible refine gate_dst (N := 3) rfl ?_); refine box_event ?hg (N := 3) ?hd (cs := #[.int .i64 a1_0, .int .i64 a1_1, .int .i64 a1_2, .int .i64 a1_3]) (t := 33) ?hr ?_; (case hd => rfl); (case hg => rfl); (case hr => first | (go_simp; done) | (go_simp; rfl)); intro gb145 hg w13 hbox hb; have BK145 := Aside0.mk (hbox); have GW145 := ngw0 hg HB; have GE145 := ngw0 hg HB; replace HB := Aside0.mk (bst0 HB hb); clear hb hbox hg) | ((with_reducible refine gate_callee (f := 72) rfl ?_); refine goesL_ (some 6) rfl rfl Try.func72 (by kernel_rfl) rfl #[.int .i64 a0] rfl (by (try simp only [List.map_toArray, List.map_cons, List.map_nil]); first | done | rfl | (simp only [List.length_drop, List.length_take]; rfl)) ?_; (with_reducible refine (spec_IsFrame.calls a0 true _ A3.out).mono ?_); rintro e w' ⟨rfl, ⟨nd, rfl⟩⟩; refine ⟨_, rfl, ?_⟩; have hcz14_0 : w13.cell? ⟨gb145, 0, none⟩ = some (.int .i64 a1_0) := bcl BK145 0; have hcz14_1 : w13.cell? ⟨gb145, 1, none⟩ = some (.int .i64 a1_1) := bcl BK145 1; have hcz14_2 : w13.cell? ⟨gb145, 2, none⟩ = some (.int .i64 a1_2) := bcl BK145 2; have hcz14_3 : w13.cell? ⟨gb145, 3, none⟩ = some (.int .i64 a1_3) := bcl BK145 3; have hfz14_0 := blk_frozen BK145.out 0; have hfz14_1 := blk_frozen BK145.out 1; have hfz14_2 := blk_frozen BK145.out 2; have hfz14_3 := blk_frozen BK145.out 3) | (go_at_call 74; (with_reducible refine (spec_IsMat.calls a1_0 a1_1 a1_2 a1_3 false _ A5.out).mono ?_); rintro e w15 ⟨rfl, hb⟩; replace BK145 := Aside0.mk (bbl BK145 hb); replace HB := Aside0.mk (bst1 HB GE145 hb); (try clear hb); (try clear hb2); (try clear hk); (try clear hi)))
   go_ret
   exact ⟨by first | rfl | (simp [errW_none, errW_some] <;> rfl) | (simp [*, errW_none, errW_some] <;> rfl), bbw1 HB GE145⟩
 ·replace c4 := Bool.eq_false_iff.mpr c4
  subst c4
  have H1 : (some false) = some r := by rw [if_neg (show ¬ (false = true) by decide)] at H; first | done | exact H
  clear H
  have H := H1
  clear H1
  obtain rfl := Option.some.inj H
  go_enter Try.func39, Try.ntmps39
  go_wp2_with (first | ((with_reducible refine gate_dst (N := 3) rfl ?_); refine box_event ?hg (N := 3) ?hd (cs := #[.int .i64 a1_0, .int .i64 a1_1, .int .i64 a1_2, .int .i64 a1_3]) (t := 33) ?hr ?_; (case hd => rfl); (case hg => rfl); (case hr => first | (go_simp; done) | (go_simp; rfl)); intro gb145 hg w16 hbox hb; have BK145 := Aside0.mk (hbox); have GW145 := ngw0 hg HB; have GE145 := ngw0 hg HB; replace HB := Aside0.mk (bst0 HB hb); clear hb hbox hg) | ((with_reducible refine gate_callee (f := 72) rfl ?_); refine goesL_ (some 6) rfl rfl Try.func72 (by kernel_rfl) rfl #[.int .i64 a0] rfl (by (try simp only [List.map_toArray, List.map_cons, List.map_nil]); first | done | rfl | (simp only [List.length_drop, List.length_take]; rfl)) ?_; (with_reducible refine (spec_IsFrame.calls a0 false _ A3.out).mono ?_); rintro e w' ⟨rfl, ⟨nd, rfl⟩⟩; refine ⟨_, rfl, ?_⟩))
  go_ret
  exact ⟨by first | rfl | (simp [errW_none, errW_some] <;> rfl) | (simp [*, errW_none, errW_some] <;> rfl), bbw1 HB GE145⟩

/-! ### spec_l03Basis: function 76 -/
def spec_l03Basis.f (a0_0 : Int) (a0_1 : Int) (a0_2 : Int) : Option ((List (S34))) := some (([(⟨a0_0, 0⟩ : S34), (⟨a0_1, a0_2⟩ : S34)] : List (S34)))
set_option maxHeartbeats 8000000 in
set_option maxRecDepth 100000 in
theorem spec_l03Basis.calls (a0_0 : Int) (a0_1 : Int) (a0_2 : Int) (r : List (S34)) (w : World) (h : spec_l03Basis.f a0_0 a0_1 a0_2 = some r) :
  Calls Try.prog 76 #[.agg #[.int .i64 a0_0, .int .i64 a0_1, .int .i64 a0_2]] w fun e w' => ∃ v0_ : Value, e = .returned (v0_) ∧ Kd.R k34 34 w' w.heap.size (fun _ => True) v0_ r ∧ Below w.heap.size w w' := by
 have hu31 := Try.underlying31
 have hu34 := Try.underlying34
 have HB := Aside0.mk (Below.refl w.heap.size w)
 have H : (some (([(⟨a0_0, 0⟩ : S34), (⟨a0_1, a0_2⟩ : S34)] : List (S34)))) = some r := h
 clear h
 obtain ⟨y150, hy150⟩ : ∃ y_ : List (S34), y_ = (([(⟨a0_0, 0⟩ : S34), (⟨a0_1, a0_2⟩ : S34)] : List (S34))) := ⟨_, rfl⟩
 replace H : (some y150) = some r := by first | (rw [hy150]; with_reducible exact H) | (have H2_ := (Option.bind_some _ _).symm.trans H; rw [hy150]; with_reducible exact H2_) | (have H2_ := (Option.bind_some _ _).symm.trans H; with_reducible exact H2_) | with_reducible exact H | (rw [hy150]; exact H) | exact H
 have Ny150 := Aside0.mk hy150
 clear hy150
 obtain rfl := Option.some.inj H
 go_enter Try.func76, Try.ntmps76
 go_wp2_with (first | ((with_reducible refine gate_dst (N := 1) rfl ?_); refine box_event ?hg (N := 1) ?hd (cs := #[.int .i64 a0_0, .int .i64 a0_1, .int .i64 a0_2]) (t := 31) ?hr ?_; (case hd => rfl); (case hg => rfl); (case hr => first | (go_simp; done) | (go_simp; rfl)); intro gb149 hg w2 hbox hb; have BK149 := Aside0.mk (hbox); have GW149 := ngw0 hg HB; have GE149 := ngw0 hg HB; replace HB := Aside0.mk (bst0 HB hb); clear hb hbox hg; obtain ⟨hcz3_0, hcz3_1, hcz3_2, hfz3_0, hfz3_1, hfz3_2⟩ := bz3 BK149) | ((with_reducible refine gate_dst (N := 11) rfl ?_); refine Kd.R_lit k34 _ 34 ?hg (N := 11) ?hd (xs := ([(⟨a0_0, 0⟩ : S34), (⟨a0_1, a0_2⟩ : S34)] : List (S34))) (inner := [.int .i64 a0_0, .int .i64 0, .int .i64 a0_1, .int .i64 a0_2]) (ok := fun _ => True) (okp := fun _ => True) ?hr ?hp (fun _ hk => hk) trivial (Below.refl _ _) (Nat.le_refl _) (by simp) ?_; (case hd => rfl); (case hg => rfl); (case hr => first | (go_simp; done) | (go_simp; rfl)); (case hp => exact (Reps.c2 (show Kd.M k34 _ _ _ (⟨a0_0, 0⟩ : S34) [.int .i64 a0_0, .int .i64 0] from (k34_mkM _ _ _ (⟨a0_0, 0⟩ : S34) )) (Reps.c2 (show Kd.M k34 _ _ _ (⟨a0_1, a0_2⟩ : S34) [.int .i64 a0_1, .int .i64 a0_2] from (k34_mkM _ _ _ (⟨a0_1, a0_2⟩ : S34) )) (Reps.none _ _)))); intro v151 w4 ho5 hb hg_ hnew_; clear hg_ hnew_; (first | rw [← Ny150.out] at ho5 | (simp only [Int.reduceToNat] at ho5; rw [← Ny150.out] at ho5)); have HO152 := Aside0.mk (Kd.R_lower ho5 (bsz1 HB GE149)); replace BK149 := Aside0.mk (bbl BK149 hb); replace HB := Aside0.mk (bst1 HB GE149 hb); clear hb ho5))
 go_ret
 exact ⟨_, by first | rfl | (simp [errW_none, errW_some] <;> rfl) | (simp [*, errW_none, errW_some] <;> rfl), by (with_reducible repeat (first | apply Kd.R_alloc | apply Kd.R_drewN | apply Kd.R_drew)); exact HO152.out, bbw1 HB GE149⟩

/-! ### spec_l01Scale: function 90 -/
def spec_l01Scale.f (a0_0 : Int) (a0_1 : Int) (a1 : Int) : Option (Int × Int) := some (wrap64 (a1 * a0_0), wrap64 (a1 * a0_1))
set_option maxHeartbeats 8000000 in
set_option maxRecDepth 100000 in
theorem spec_l01Scale.calls (a0_0 : Int) (a0_1 : Int) (a1 : Int) (r1 : Int) (r2 : Int) (w : World) (h : spec_l01Scale.f a0_0 a0_1 a1 = some (r1, r2)) :
  Calls Try.prog 90 #[.agg #[.int .i64 a0_0, .int .i64 a0_1], .int .i64 a1] w fun e w' => e = .returned (.agg #[.int .i64 r1, .int .i64 r2]) ∧ Below w.heap.size w w' := by
 have hu34 := Try.underlying34
 have HB := Aside0.mk (Below.refl w.heap.size w)
 have H : (some (wrap64 (a1 * a0_0), wrap64 (a1 * a0_1))) = some (r1, r2) := h
 clear h
 simp only [Option.some.injEq, Prod.mk.injEq] at H
 obtain ⟨rfl, rfl⟩ := H
 go_enter Try.func90, Try.ntmps90
 go_wp2_with (first | ((with_reducible refine gate_dst (N := 2) rfl ?_); refine box_event ?hg (N := 2) ?hd (cs := #[.int .i64 a0_0, .int .i64 a0_1]) (t := 34) ?hr ?_; (case hd => rfl); (case hg => rfl); (case hr => first | (go_simp; done) | (go_simp; rfl)); intro gb153 hg w3 hbox hb; have BK153 := Aside0.mk (hbox); have GW153 := ngw0 hg HB; have GE153 := ngw0 hg HB; replace HB := Aside0.mk (bst0 HB hb); clear hb hbox hg) | ((with_reducible refine gate_dst (N := 4) rfl ?_); refine box_event ?hg (N := 4) ?hd (cs := #[.int .i64 0, .int .i64 0]) (t := 34) ?hr ?_; (case hd => rfl); (case hg => rfl); (case hr => first | (go_simp; done) | (go_simp; rfl)); intro gb154 hg w4 hbox hb; have BK154 := Aside0.mk (hbox); have GW154 := ngw1 hg HB GE153; have GE154 := ngw1 hg HB GE153; replace HB := Aside0.mk (bst1 HB GE153 hb); have NB153_154 := nlt hg BK153; have NB154_153 := nsy (nlt hg BK153); replace BK153 := Aside0.mk (bbl BK153 hb); clear hb hbox hg; have hnb5 := NB153_154.out; have hnc5 := NB154_153.out; obtain ⟨hcz6_0, hcz6_1, hfz6_0, hfz6_1⟩ := bz2 BK153; obtain ⟨hcz7_0, hcz7_1, hfz7_0, hfz7_1⟩ := bz2 BK154))
 refine bodyPost_ret (results_cell_row rfl _ _ gb154 34 #[.int .i64 (wrap64 (a1 * a0_0)), .int .i64 (wrap64 (a1 * a0_1))] (0, 0) _ rfl (by (with_reducible repeat (first | refine blk_drewN ?_ _ | refine blk_drew ?_ | refine blk_alloc ?_ _)); refine blk_put (cs := #[.int .i64 (wrap64 (a1 * a0_0)), .int .i64 0]) ?_ 1 _ rfl; (with_reducible repeat (first | refine blk_drewN ?_ _ | refine blk_drew ?_ | refine blk_alloc ?_ _)); refine blk_put (cs := #[.int .i64 0, .int .i64 0]) ?_ 0 _ rfl; (with_reducible repeat (first | refine blk_drewN ?_ _ | refine blk_drew ?_ | refine blk_alloc ?_ _)); exact BK154.out) Try.underlying34 rfl (by kernel_rfl)) rfl ?_
 exact ⟨by first | rfl | (simp [errW_none, errW_some] <;> rfl) | (simp [*, errW_none, errW_some] <;> rfl), bbw2 HB GE153 GE154⟩

/-! ### spec_l01Divisor: function 101 -/
def spec_l01Divisor.f : Nat → Int → Int → Option (Int)
 | 0, _, _ => none
 | k + 1, a0, a1 => if a1 = 0 then (some (mx a0 (wrap64 (-a0)))) else ((spec_l01Divisor.f k a1 (Int.tmod a0 a1)).bind fun t155 => (some t155))
set_option maxHeartbeats 8000000 in
set_option maxRecDepth 100000 in
theorem spec_l01Divisor.calls (k : Nat) : ∀ (a0 : Int) (a1 : Int) (r : Int) (w : World) (h : spec_l01Divisor.f k a0 a1 = some r),
  Calls Try.prog 101 #[.int .i64 a0, .int .i64 a1] w fun e w' => e = .returned (.int .i64 r) ∧ Below w.heap.size w w' := by
 induction k using Nat.strongRecOn with
 | _ k ih =>
 intro a0 a1 r w h
 cases k with
 | zero => exact absurd h (by simp [spec_l01Divisor.f])
 | succ k =>
 simp only [spec_l01Divisor.f] at h
 have HB := Aside0.mk (Below.refl w.heap.size w)
 have H : (if a1 = 0 then (some (mx a0 (wrap64 (-a0)))) else ((spec_l01Divisor.f k a1 (Int.tmod a0 a1)).bind fun t155 => (some t155))) = some r := h
 clear h
 by_cases c3 : a1 = 0
 ·rw [if_pos c3] at H
  have c3b0 : (a1 == 0) = true := beq_iff_eq.mpr c3
  have c3b1 : (a1 != 0) = false := bne_eq_false_iff_eq.mpr c3
  clear c3
  obtain ⟨ji4, hji4⟩ : ∃ j_ : Int, (mx a0 (wrap64 (-a0))) = j_ := ⟨_, rfl⟩
  replace H : (some ji4) = some r := by first | (rw [hji4] at H; first | done | exact H) | (simp only [hji4] at H ⊢; exact H)
  have hji4_ : (if a0 < (wrap64 (-a0)) then (wrap64 (-a0)) else a0) = ji4 := hji4
  obtain rfl := Option.some.inj H
  go_enter Try.func101, Try.ntmps101
  go_wp2
  go_ret
  exact ⟨by first | rfl | (simp [errW_none, errW_some] <;> rfl) | (simp only [← hji4]; first | rfl | (simp [errW_none, errW_some] <;> rfl)) | (simp [*, errW_none, errW_some] <;> rfl), bbw0 HB⟩
 ·rw [if_neg c3] at H
  have c3b0 : (a1 == 0) = false := beq_eq_false_iff_ne.mpr c3
  have c3b1 : (a1 != 0) = true := bne_iff_ne.mpr c3
  replace H := Option.bind_eq_some_iff.mp H
  obtain ⟨t155, A50, H⟩ := H
  replace H : (some t155) = some r := H
  have A5 := Aside0.mk A50
  clear A50
  obtain rfl := Option.some.inj H
  go_enter Try.func101, Try.ntmps101
  go_wp2_with (first | ((with_reducible refine gate_callee (f := 101) rfl ?_); refine goesL_ (some 15) rfl rfl Try.func101 (by kernel_rfl) rfl #[.int .i64 a1, .int .i64 (Int.tmod a0 a1)] rfl (by (try simp only [List.map_toArray, List.map_cons, List.map_nil]); first | done | rfl | (simp only [List.length_drop, List.length_take]; rfl)) ?_; (with_reducible refine (ih k (by omega) a1 (Int.tmod a0 a1) t155 _ A5.out).mono ?_); rintro e w6 ⟨rfl, hb⟩; refine ⟨_, rfl, ?_⟩; replace HB := Aside0.mk (bst0 HB hb); (try clear hb); (try clear hb2); (try clear hk); (try clear hi)))
  go_ret
  exact ⟨by first | rfl | (simp [errW_none, errW_some] <;> rfl) | (simp [*, errW_none, errW_some] <;> rfl), bbw0 HB⟩

/-! ### spec_l01Mod: function 102 -/
def spec_l01Mod.f (a0 : Int) (a1 : Int) : Option (Int) := if a1 = 0 then (none) else (if (Int.tmod a0 a1) < 0 then (some (wrap64 ((Int.tmod a0 a1) + a1))) else (some (Int.tmod a0 a1)))
set_option maxHeartbeats 8000000 in
set_option maxRecDepth 100000 in
theorem spec_l01Mod.calls (a0 : Int) (a1 : Int) (r : Int) (w : World) (h : spec_l01Mod.f a0 a1 = some r) :
  Calls Try.prog 102 #[.int .i64 a0, .int .i64 a1] w fun e w' => e = .returned (.int .i64 r) ∧ Drawn0 w w' := by
 have H : (if a1 = 0 then (none) else (if (Int.tmod a0 a1) < 0 then (some (wrap64 ((Int.tmod a0 a1) + a1))) else (some (Int.tmod a0 a1)))) = some r := h
 clear h
 by_cases c3 : a1 = 0
 ·rw [if_pos c3] at H
  exact absurd H (by simp)
 ·rw [if_neg c3] at H
  have c3b0 : (a1 == 0) = false := beq_eq_false_iff_ne.mpr c3
  have c3b1 : (a1 != 0) = true := bne_iff_ne.mpr c3
  by_cases c4 : (Int.tmod a0 a1) < 0
  ·rw [if_pos c4] at H
   have c4b0 : decide ((Int.tmod a0 a1) < 0) = true := decide_eq_true c4
   clear c4
   obtain rfl := Option.some.inj H
   go_enter Try.func102, Try.ntmps102
   go_wp2
   go_ret
   exact ⟨by first | rfl | (simp; done) | (simp [*]; done), by repeat (first | exact Drawn0.refl _ | apply Drawn0.step)⟩
  ·rw [if_neg c4] at H
   have c4b0 : decide ((Int.tmod a0 a1) < 0) = false := decide_eq_false c4
   clear c4
   obtain rfl := Option.some.inj H
   go_enter Try.func102, Try.ntmps102
   go_wp2
   go_ret
   exact ⟨by first | rfl | (simp; done) | (simp [*]; done), by repeat (first | exact Drawn0.refl _ | apply Drawn0.step)⟩

/-! ### spec_l03Hermite: function 77 -/
mutual
def spec_l03Hermite.l0 : Nat → List (S34) → Int → Int → Int → Int → Option (Int × Int × Int)
 | 0, _, _, _, _, _ => none
 | k + 1, x0, x4, x5, x158000, x158001 => if x5 < (x0.length : Int) then (if 0 ≤ x5 then (spec_l03Hermite.l1 k x0 x4 x5 x158000 x158001 ((rd_T34 x0 x5).f0) ((rd_T34 x0 x5).f1)) else (none)) else (if x158001 < 0 then ((spec_l01Scale.f x158000 x158001 (-1)).bind fun bt163 => (if x4 > 0 then ((spec_l01Mod.f bt163.1 x4).bind fun t165 => (some (x4, t165, bt163.2))) else (some (x4, bt163.1, bt163.2)))) else (if x4 > 0 then ((spec_l01Mod.f x158000 x4).bind fun t166 => (some (x4, t166, x158001))) else (some (x4, x158000, x158001))))
def spec_l03Hermite.l1 : Nat → List (S34) → Int → Int → Int → Int → Int → Int → Option (Int × Int × Int)
 | 0, _, _, _, _, _, _, _ => none
 | k + 1, x0, x4, x5, x158000, x158001, x160000, x160001 => if x160001 = 0 then ((spec_l01Divisor.f k x4 x160000).bind fun t161 => (if t161 > 0 then ((spec_l01Mod.f x158000 t161).bind fun t162 => (spec_l03Hermite.l0 k x0 t161 (wrap64 (x5 + 1)) t162 x158001)) else (spec_l03Hermite.l0 k x0 t161 (wrap64 (x5 + 1)) x158000 x158001))) else (spec_l03Hermite.l1 k x0 x4 x5 x160000 x160001 (wrap64 (x158000 - (wrap64 ((wrap64 (Int.tdiv x158001 x160001)) * x160000)))) (wrap64 (x158001 - (wrap64 ((wrap64 (Int.tdiv x158001 x160001)) * x160001)))))
end
def spec_l03Hermite.f (k : Nat) (l0 : List (S34)) : Option (Int × Int × Int) := spec_l03Hermite.l0 k l0 0 0 0 0
set_option maxHeartbeats 8000000 in
set_option maxRecDepth 100000 in
theorem spec_l03Hermite.calls (k : Nat) (A0 : Option Addr) (c0 : Nat) (l0 : List (S34)) (r1 : Int) (r2 : Int) (r3 : Int) (w : World) (hr0 : Kd.C k34 w A0 l0.length l0) (hc0 : l0.length ≤ c0) (h : spec_l03Hermite.f k l0 = some (r1, r2, r3)) :
  Calls Try.prog 77 #[.slice A0 l0.length c0] w fun e w' => e = .returned (.agg #[.int .i64 r1, .int .i64 r2, .int .i64 r3]) ∧ Below w.heap.size w w' := by
 have hu31 := Try.underlying31
 have hu34 := Try.underlying34
 have HR0 := Aside0.mk hr0
 have HC0 := Aside0.mk hc0
 clear hr0 hc0
 have HB := Aside0.mk (Below.refl w.heap.size w)
 have H : (spec_l03Hermite.l0 k l0 0 0 0 0) = some (r1, r2, r3) := h
 clear h
 have H' := Aside0.mk H
 clear H
 go_enter Try.func77, Try.ntmps77
 go_wp2_with (first | ((with_reducible refine gate_dst (N := 2) rfl ?_); refine box_event ?hg (N := 2) ?hd (cs := #[.int .i64 0, .int .i64 0, .int .i64 0]) (t := 31) ?hr ?_; (case hd => rfl); (case hg => rfl); (case hr => first | (go_simp; done) | (go_simp; rfl)); intro gb156 hg w2 hbox hb; have BK156 := Aside0.mk (hbox); have GW156 := ngw0 hg HB; have GE156 := ngw0 hg HB; replace HB := Aside0.mk (bst0 HB hb); clear hb hbox hg) | ((with_reducible refine gate_dst (N := 3) rfl ?_); refine box_event ?hg (N := 3) ?hd (cs := #[.int .i64 0, .int .i64 0]) (t := 34) ?hr ?_; (case hd => rfl); (case hg => rfl); (case hr => first | (go_simp; done) | (go_simp; rfl)); intro gb157 hg w3 hbox hb; have BK157 := Aside0.mk (hbox); have GW157 := ngw1 hg HB GE156; have GE157 := ngw1 hg HB GE156; replace HB := Aside0.mk (bst1 HB GE156 hb); have NB156_157 := nlt hg BK156; have NB157_156 := nsy (nlt hg BK156); replace BK156 := Aside0.mk (bbl BK156 hb); clear hb hbox hg; have hnb4 := NB157_156.out; have hnc4 := NB156_157.out; obtain ⟨hcz5_0, hcz5_1, hfz5_0, hfz5_1⟩ := bz2 BK157))
 go_loopg [4, 5] k (fun kq v4 v5 w' => ∃ (x4_1 : Int) (x5_1 : Int) (x158000_1 : Int) (x158001_1 : Int), v4 = .int .i64 x4_1 ∧ v5 = .int .i64 x5_1 ∧ Aside0 (spec_l03Hermite.l0 kq l0 x4_1 x5_1 x158000_1 x158001_1 = some (r1, r2, r3)) ∧ Aside0 (kq ≤ k) ∧ Aside0 (w'.heap[gb156]? = some (.cells #[.int .i64 0, .int .i64 0, .int .i64 0] 31 (0, 0))) ∧ Aside0 (w'.heap[gb157]? = some (.cells #[.int .i64 x158000_1, .int .i64 x158001_1] 34 (0, 0))) ∧ Aside0 (Below w.heap.size w w'))
 case atStart => exact ⟨(0), (0), (0), (0), (by first | rfl | (simp; done) | (simp [*]; done)), (by first | rfl | (simp; done) | (simp [*]; done)), H', ⟨Nat.le_refl _⟩, ⟨by (with_reducible repeat (first | refine blk_drewN ?_ _ | refine blk_drew ?_ | refine blk_alloc ?_ _)); refine blk_far ?_ NB156_157.out _; (with_reducible repeat (first | refine blk_drewN ?_ _ | refine blk_drew ?_ | refine blk_alloc ?_ _)); refine blk_far ?_ NB156_157.out _; (with_reducible repeat (first | refine blk_drewN ?_ _ | refine blk_drew ?_ | refine blk_alloc ?_ _)); exact BK156.out⟩, ⟨by (with_reducible repeat (first | refine blk_drewN ?_ _ | refine blk_drew ?_ | refine blk_alloc ?_ _)); refine blk_put (cs := #[.int .i64 0, .int .i64 0]) ?_ 1 _ rfl; (with_reducible repeat (first | refine blk_drewN ?_ _ | refine blk_drew ?_ | refine blk_alloc ?_ _)); refine blk_put (cs := #[.int .i64 0, .int .i64 0]) ?_ 0 _ rfl; (with_reducible repeat (first | refine blk_drewN ?_ _ | refine blk_drew ?_ | refine blk_alloc ?_ _)); exact BK157.out⟩, ⟨bbw2 HB GE156 GE157⟩⟩
 case round =>
  clear H'
  try clear p2
  try clear c4
  try clear hcz5_0
  try clear hcz5_1
  try clear hfz5_0
  try clear hfz5_1
  obtain ⟨x4_1, x5_1, x158000_1, x158001_1, rfl, rfl, HA, HK1, BK156, BK157, HB⟩ := hrel
  cases gk with
  | zero => exact absurd HA.out (by simp [spec_l03Hermite.l0])
  | succ k1 =>
   have H := HA.out
   clear HA
   simp only [spec_l03Hermite.l0] at H
   by_cases c6 : x5_1 < (l0.length : Int)
   ·rw [if_pos c6] at H
    have c6b0 : decide (x5_1 < (l0.length : Int)) = true := decide_eq_true c6
    clear c6
    by_cases c7 : 0 ≤ x5_1
    ·rw [if_pos c7] at H
     have c7b0 : decide (0 ≤ x5_1) = true := decide_eq_true c7
     clear c7
     have H' := Aside0.mk H
     clear H
     have p158 : 0 ≤ (x5_1 : Int) := of_decide_eq_true (by first | (with_reducible assumption) | assumption)
     have q158 : x5_1 < (l0.length : Int) := of_decide_eq_true (by first | (with_reducible assumption) | assumption)
     obtain ⟨ad158, e158, hx158_0, hx158_1⟩ := at_T34 HR0.out x5_1 p158 q158
     cases e158
     replace hx158_0 := (HB.out.cell (World.block_lt_of_cell? w _ hx158_0)).trans hx158_0
     replace hx158_1 := (HB.out.cell (World.block_lt_of_cell? w _ hx158_1)).trans hx158_1
     replace p158 := eq_true p158
     replace q158 := eq_true q158
     go_wp2_with (first | ((with_reducible refine gate_dst (N := 6) rfl ?_); refine box_event ?hg (N := 6) ?hd (cs := #[.int .i64 0, .int .i64 0]) (t := 34) ?hr ?_; (case hd => rfl); (case hg => rfl); (case hr => first | (go_simp; done) | (go_simp; rfl)); intro gb159 hg w8 hbox hb; have BK159 := Aside0.mk (hbox); have GW159 := ngw2 hg HB GE156 GE157; have GE159 := ngw2 hg HB GE156 GE157; replace HB := Aside0.mk (bst2 HB GE156 GE157 hb); have NB156_159 := nlt hg BK156; have NB159_156 := nsy (nlt hg BK156); replace BK156 := Aside0.mk (bbl BK156 hb); have NB157_159 := nlt hg BK157; have NB159_157 := nsy (nlt hg BK157); replace BK157 := Aside0.mk (bbl BK157 hb); clear hb hbox hg; have hnb9 := NB159_156.out; have hnc9 := NB156_159.out; have hnb10 := NB159_157.out; have hnc10 := NB157_159.out; obtain ⟨hcz11_0, hcz11_1, hfz11_0, hfz11_1⟩ := bz2 BK159))
     go_loopg [] k1 (fun kq w' => ∃ (x158000_2 : Int) (x158001_2 : Int) (x160000_2 : Int) (x160001_2 : Int), Aside0 (spec_l03Hermite.l1 kq l0 x4_1 x5_1 x158000_2 x158001_2 x160000_2 x160001_2 = some (r1, r2, r3)) ∧ Aside0 (kq ≤ k1) ∧ Aside0 (w'.heap[gb156]? = some (.cells #[.int .i64 0, .int .i64 0, .int .i64 0] 31 (0, 0))) ∧ Aside0 (w'.heap[gb157]? = some (.cells #[.int .i64 x158000_2, .int .i64 x158001_2] 34 (0, 0))) ∧ Aside0 (w'.heap[gb159]? = some (.cells #[.int .i64 x160000_2, .int .i64 x160001_2] 34 (0, 0))) ∧ Aside0 (Below w.heap.size w w'))
     case atStart => exact ⟨(x158000_1), (x158001_1), ((rd_T34 l0 x5_1).f0), ((rd_T34 l0 x5_1).f1), H', ⟨Nat.le_refl _⟩, ⟨by (with_reducible repeat (first | refine blk_drewN ?_ _ | refine blk_drew ?_ | refine blk_alloc ?_ _)); refine blk_far ?_ NB156_159.out _; (with_reducible repeat (first | refine blk_drewN ?_ _ | refine blk_drew ?_ | refine blk_alloc ?_ _)); refine blk_far ?_ NB156_159.out _; (with_reducible repeat (first | refine blk_drewN ?_ _ | refine blk_drew ?_ | refine blk_alloc ?_ _)); exact BK156.out⟩, ⟨by (with_reducible repeat (first | refine blk_drewN ?_ _ | refine blk_drew ?_ | refine blk_alloc ?_ _)); refine blk_far ?_ NB157_159.out _; (with_reducible repeat (first | refine blk_drewN ?_ _ | refine blk_drew ?_ | refine blk_alloc ?_ _)); refine blk_far ?_ NB157_159.out _; (with_reducible repeat (first | refine blk_drewN ?_ _ | refine blk_drew ?_ | refine blk_alloc ?_ _)); exact BK157.out⟩, ⟨by (with_reducible repeat (first | refine blk_drewN ?_ _ | refine blk_drew ?_ | refine blk_alloc ?_ _)); refine blk_put (cs := #[.int .i64 ((rd_T34 l0 x5_1).f0), .int .i64 0]) ?_ 1 _ rfl; (with_reducible repeat (first | refine blk_drewN ?_ _ | refine blk_drew ?_ | refine blk_alloc ?_ _)); refine blk_put (cs := #[.int .i64 0, .int .i64 0]) ?_ 0 _ rfl; (with_reducible repeat (first | refine blk_drewN ?_ _ | refine blk_drew ?_ | refine blk_alloc ?_ _)); exact BK159.out⟩, ⟨bbw3 HB GE156 GE157 GE159⟩⟩
     case round =>
      clear H'
      try clear c1
      try clear p1
      try clear q1
      try clear hx1
      try clear p2
      try clear c4
      try clear c6
      try clear c6b0
      try clear c7
      try clear c7b0
      try clear c9
      try clear c10
      try clear hcz11_0
      try clear hcz11_1
      try clear hcz5_0
      try clear hcz5_1
      try clear hfz11_0
      try clear hfz11_1
      try clear hfz5_0
      try clear hfz5_1
      try clear hx158_0
      try clear hx158_1
      try clear p158
      try clear p2
      try clear q158
      obtain ⟨x158000_2, x158001_2, x160000_2, x160001_2, HA, HK2, BK156, BK157, BK159, HB⟩ := hrel
      cases gk with
      | zero => exact absurd HA.out (by simp [spec_l03Hermite.l1])
      | succ k2 =>
       have H := HA.out
       clear HA
       simp only [spec_l03Hermite.l1] at H
       by_cases c12 : x160001_2 = 0
       ·rw [if_pos c12] at H
        have c12b0 : (x160001_2 == 0) = true := beq_iff_eq.mpr c12
        have c12b1 : (x160001_2 != 0) = false := bne_eq_false_iff_eq.mpr c12
        clear c12
        replace H := Option.bind_eq_some_iff.mp H
        obtain ⟨t161, A130, H⟩ := H
        replace H : (if t161 > 0 then ((spec_l01Mod.f x158000_2 t161).bind fun t162 => (spec_l03Hermite.l0 k2 l0 t161 (wrap64 (x5_1 + 1)) t162 x158001_2)) else (spec_l03Hermite.l0 k2 l0 t161 (wrap64 (x5_1 + 1)) x158000_2 x158001_2)) = some (r1, r2, r3) := H
        have A13 := Aside0.mk A130
        clear A130
        by_cases c14 : t161 > 0
        ·rw [if_pos c14] at H
         have c14b0 : decide (0 < t161) = true := decide_eq_true c14
         clear c14
         replace H := Option.bind_eq_some_iff.mp H
         obtain ⟨t162, A150, H⟩ := H
         replace H : (spec_l03Hermite.l0 k2 l0 t161 (wrap64 (x5_1 + 1)) t162 x158001_2) = some (r1, r2, r3) := H
         have A15 := Aside0.mk A150
         clear A150
         have H' := Aside0.mk H
         clear H
         have hnb16 := NB159_156.out
         have hnc16 := NB156_159.out
         have hnb17 := NB159_157.out
         have hnc17 := NB157_159.out
         obtain ⟨hcz18_0, hcz18_1, hfz18_0, hfz18_1⟩ := bz2 BK159
         go_wp2_with (first | ((with_reducible refine gate_callee (f := 101) rfl ?_); refine goesL_ (some 48) rfl rfl Try.func101 (by kernel_rfl) rfl #[.int .i64 x4_1, .int .i64 x160000_2] rfl (by (try simp only [List.map_toArray, List.map_cons, List.map_nil]); first | done | rfl | (simp only [List.length_drop, List.length_take]; rfl)) ?_; (with_reducible refine (spec_l01Divisor.calls k2 x4_1 x160000_2 t161 _ A13.out).mono ?_); rintro e w19 ⟨rfl, hb⟩; refine ⟨_, rfl, ?_⟩; replace BK156 := Aside0.mk (bbl BK156 hb); replace BK157 := Aside0.mk (bbl BK157 hb); replace BK159 := Aside0.mk (bbl BK159 hb); replace HB := Aside0.mk (bst3 HB GE156 GE157 GE159 hb); (try clear hb); (try clear hb2); (try clear hk); (try clear hi); have hnb20 := NB157_156.out; have hnc20 := NB156_157.out; obtain ⟨hcz21_0, hcz21_1, hfz21_0, hfz21_1⟩ := bz2 BK157) | ((with_reducible refine gate_callee (f := 102) rfl ?_); refine goesL_ (some 54) rfl rfl Try.func102 (by kernel_rfl) rfl #[.int .i64 x158000_2, .int .i64 t161] rfl (by (try simp only [List.map_toArray, List.map_cons, List.map_nil]); first | done | rfl | (simp only [List.length_drop, List.length_take]; rfl)) ?_; (with_reducible refine (spec_l01Mod.calls x158000_2 t161 t162 _ A15.out).mono ?_); rintro e w' ⟨rfl, ⟨nd, rfl⟩⟩; refine ⟨_, rfl, ?_⟩; (try (rw [drewN_self w19]; generalize hq_ : World.drewN w19 _ = w19; have n0_ : Aside0 (w19.heap[gb156]? = some (.cells #[.int .i64 0, .int .i64 0, .int .i64 0] 31 (0, 0))) := ⟨by rw [← hq_]; exact (bkp BK156)⟩; have n1_ : Aside0 (w19.heap[gb157]? = some (.cells #[.int .i64 x158000_2, .int .i64 x158001_2] 34 (0, 0))) := ⟨by rw [← hq_]; exact (bkp BK157)⟩; have n2_ : Aside0 (w19.heap[gb159]? = some (.cells #[.int .i64 x160000_2, .int .i64 x160001_2] 34 (0, 0))) := ⟨by rw [← hq_]; exact (bkp BK159)⟩; have n3_ : Aside0 (Below w.heap.size w w19) := ⟨by rw [← hq_]; exact (bbw3 HB GE156 GE157 GE159)⟩; clear BK156 BK157 BK159 HB hq_; have BK156 := n0_; have BK157 := n1_; have BK159 := n2_; have HB := n3_; clear n0_ n1_ n2_ n3_)); have hcz22_0 : w19.cell? ⟨gb157, 0, none⟩ = some (.int .i64 x158000_2) := bcl BK157 0; have hcz22_1 : w19.cell? ⟨gb157, 1, none⟩ = some (.int .i64 x158001_2) := bcl BK157 1; have hfz22_0 := blk_frozen BK157.out 0; have hfz22_1 := blk_frozen BK157.out 1))
         go_roundg k2
         case measure => have := HK1.out; have := HK2.out; omega
         case rel => exact ⟨(t161), (wrap64 (x5_1 + 1)), (t162), (x158001_2), (by first | rfl | (simp; done) | (simp [*]; done)), (by first | rfl | (simp; done) | (simp [*]; done)), H', ⟨by have := HK1.out; have := HK2.out; omega⟩, ⟨by (with_reducible repeat (first | refine blk_drewN ?_ _ | refine blk_drew ?_ | refine blk_alloc ?_ _)); refine blk_far ?_ NB156_157.out _; (with_reducible repeat (first | refine blk_drewN ?_ _ | refine blk_drew ?_ | refine blk_alloc ?_ _)); exact BK156.out⟩, ⟨by (with_reducible repeat (first | refine blk_drewN ?_ _ | refine blk_drew ?_ | refine blk_alloc ?_ _)); refine blk_put (cs := #[.int .i64 x158000_2, .int .i64 x158001_2]) ?_ 0 _ rfl; (with_reducible repeat (first | refine blk_drewN ?_ _ | refine blk_drew ?_ | refine blk_alloc ?_ _)); exact BK157.out⟩, ⟨bbw3 HB GE156 GE157 GE159⟩⟩
        ·rw [if_neg c14] at H
         have c14b0 : decide (0 < t161) = false := decide_eq_false c14
         clear c14
         have H' := Aside0.mk H
         clear H
         have hnb23 := NB159_156.out
         have hnc23 := NB156_159.out
         have hnb24 := NB159_157.out
         have hnc24 := NB157_159.out
         obtain ⟨hcz25_0, hcz25_1, hfz25_0, hfz25_1⟩ := bz2 BK159
         go_wp2_with (first | ((with_reducible refine gate_callee (f := 101) rfl ?_); refine goesL_ (some 48) rfl rfl Try.func101 (by kernel_rfl) rfl #[.int .i64 x4_1, .int .i64 x160000_2] rfl (by (try simp only [List.map_toArray, List.map_cons, List.map_nil]); first | done | rfl | (simp only [List.length_drop, List.length_take]; rfl)) ?_; (with_reducible refine (spec_l01Divisor.calls k2 x4_1 x160000_2 t161 _ A13.out).mono ?_); rintro e w26 ⟨rfl, hb⟩; refine ⟨_, rfl, ?_⟩; replace BK156 := Aside0.mk (bbl BK156 hb); replace BK157 := Aside0.mk (bbl BK157 hb); replace BK159 := Aside0.mk (bbl BK159 hb); replace HB := Aside0.mk (bst3 HB GE156 GE157 GE159 hb); (try clear hb); (try clear hb2); (try clear hk); (try clear hi)))
         go_roundg k2
         case measure => have := HK1.out; have := HK2.out; omega
         case rel => exact ⟨(t161), (wrap64 (x5_1 + 1)), (x158000_2), (x158001_2), (by first | rfl | (simp; done) | (simp [*]; done)), (by first | rfl | (simp; done) | (simp [*]; done)), H', ⟨by have := HK1.out; have := HK2.out; omega⟩, ⟨bkp BK156⟩, ⟨bkp BK157⟩, ⟨bbw3 HB GE156 GE157 GE159⟩⟩
       ·rw [if_neg c12] at H
        have c12b0 : (x160001_2 == 0) = false := beq_eq_false_iff_ne.mpr c12
        have c12b1 : (x160001_2 != 0) = true := bne_iff_ne.mpr c12
        have H' := Aside0.mk H
        clear H
        have hnb27 := NB159_156.out
        have hnc27 := NB156_159.out
        have hnb28 := NB159_157.out
        have hnc28 := NB157_159.out
        obtain ⟨hcz29_0, hcz29_1, hfz29_0, hfz29_1⟩ := bz2 BK159
        have hnb30 := NB157_156.out
        have hnc30 := NB156_157.out
        obtain ⟨hcz31_0, hcz31_1, hfz31_0, hfz31_1⟩ := bz2 BK157
        go_wp2_with (first | ((with_reducible refine gate_dst (N := 8) rfl ?_); refine box_event ?hg (N := 8) ?hd (cs := #[.int .i64 0, .int .i64 0]) (t := 34) ?hr ?_; (case hd => rfl); (case hg => rfl); (case hr => first | (go_simp; done) | (go_simp; rfl)); intro gb160 hg w32 hbox hb; have BK160 := Aside0.mk (hbox); have GW160 := ngw3 hg HB GE156 GE157 GE159; have GE160 := ngw3 hg HB GE156 GE157 GE159; replace HB := Aside0.mk (bst3 HB GE156 GE157 GE159 hb); have NB156_160 := nlt hg BK156; have NB160_156 := nsy (nlt hg BK156); replace BK156 := Aside0.mk (bbl BK156 hb); have NB157_160 := nlt hg BK157; have NB160_157 := nsy (nlt hg BK157); replace BK157 := Aside0.mk (bbl BK157 hb); have NB159_160 := nlt hg BK159; have NB160_159 := nsy (nlt hg BK159); replace BK159 := Aside0.mk (bbl BK159 hb); clear hb hbox hg; have hnb33 := NB160_156.out; have hnc33 := NB156_160.out; have hnb34 := NB160_157.out; have hnc34 := NB157_160.out; have hnb35 := NB160_159.out; have hnc35 := NB159_160.out; obtain ⟨hcz36_0, hcz36_1, hfz36_0, hfz36_1⟩ := bz2 BK160; obtain ⟨hcz37_0, hcz37_1, hfz37_0, hfz37_1⟩ := bz2 BK159; obtain ⟨hcz38_0, hcz38_1, hfz38_0, hfz38_1⟩ := bz2 BK157))
        go_roundg k2
        case measure => have := HK1.out; have := HK2.out; omega
        case rel => exact ⟨(x160000_2), (x160001_2), (wrap64 (x158000_2 - (wrap64 ((wrap64 (Int.tdiv x158001_2 x160001_2)) * x160000_2)))), (wrap64 (x158001_2 - (wrap64 ((wrap64 (Int.tdiv x158001_2 x160001_2)) * x160001_2)))), H', ⟨by have := HK1.out; have := HK2.out; omega⟩, ⟨by (with_reducible repeat (first | refine blk_drewN ?_ _ | refine blk_drew ?_ | refine blk_alloc ?_ _)); refine blk_far ?_ NB156_159.out _; (with_reducible repeat (first | refine blk_drewN ?_ _ | refine blk_drew ?_ | refine blk_alloc ?_ _)); refine blk_far ?_ NB156_159.out _; (with_reducible repeat (first | refine blk_drewN ?_ _ | refine blk_drew ?_ | refine blk_alloc ?_ _)); refine blk_far ?_ NB156_157.out _; (with_reducible repeat (first | refine blk_drewN ?_ _ | refine blk_drew ?_ | refine blk_alloc ?_ _)); refine blk_far ?_ NB156_157.out _; (with_reducible repeat (first | refine blk_drewN ?_ _ | refine blk_drew ?_ | refine blk_alloc ?_ _)); refine blk_far ?_ NB156_160.out _; (with_reducible repeat (first | refine blk_drewN ?_ _ | refine blk_drew ?_ | refine blk_alloc ?_ _)); refine blk_far ?_ NB156_160.out _; (with_reducible repeat (first | refine blk_drewN ?_ _ | refine blk_drew ?_ | refine blk_alloc ?_ _)); exact BK156.out⟩, ⟨by (with_reducible repeat (first | refine blk_drewN ?_ _ | refine blk_drew ?_ | refine blk_alloc ?_ _)); refine blk_far ?_ NB157_159.out _; (with_reducible repeat (first | refine blk_drewN ?_ _ | refine blk_drew ?_ | refine blk_alloc ?_ _)); refine blk_far ?_ NB157_159.out _; (with_reducible repeat (first | refine blk_drewN ?_ _ | refine blk_drew ?_ | refine blk_alloc ?_ _)); refine blk_put (cs := #[.int .i64 x160000_2, .int .i64 x158001_2]) ?_ 1 _ rfl; (with_reducible repeat (first | refine blk_drewN ?_ _ | refine blk_drew ?_ | refine blk_alloc ?_ _)); refine blk_put (cs := #[.int .i64 x158000_2, .int .i64 x158001_2]) ?_ 0 _ rfl; (with_reducible repeat (first | refine blk_drewN ?_ _ | refine blk_drew ?_ | refine blk_alloc ?_ _)); refine blk_far ?_ NB157_160.out _; (with_reducible repeat (first | refine blk_drewN ?_ _ | refine blk_drew ?_ | refine blk_alloc ?_ _)); refine blk_far ?_ NB157_160.out _; (with_reducible repeat (first | refine blk_drewN ?_ _ | refine blk_drew ?_ | refine blk_alloc ?_ _)); exact BK157.out⟩, ⟨by (with_reducible repeat (first | refine blk_drewN ?_ _ | refine blk_drew ?_ | refine blk_alloc ?_ _)); refine blk_put (cs := #[.int .i64 (wrap64 (x158000_2 - (wrap64 ((wrap64 (Int.tdiv x158001_2 x160001_2)) * x160000_2)))), .int .i64 x160001_2]) ?_ 1 _ rfl; (with_reducible repeat (first | refine blk_drewN ?_ _ | refine blk_drew ?_ | refine blk_alloc ?_ _)); refine blk_put (cs := #[.int .i64 x160000_2, .int .i64 x160001_2]) ?_ 0 _ rfl; (with_reducible repeat (first | refine blk_drewN ?_ _ | refine blk_drew ?_ | refine blk_alloc ?_ _)); refine blk_far ?_ NB159_157.out _; (with_reducible repeat (first | refine blk_drewN ?_ _ | refine blk_drew ?_ | refine blk_alloc ?_ _)); refine blk_far ?_ NB159_157.out _; (with_reducible repeat (first | refine blk_drewN ?_ _ | refine blk_drew ?_ | refine blk_alloc ?_ _)); refine blk_far ?_ NB159_160.out _; (with_reducible repeat (first | refine blk_drewN ?_ _ | refine blk_drew ?_ | refine blk_alloc ?_ _)); refine blk_far ?_ NB159_160.out _; (with_reducible repeat (first | refine blk_drewN ?_ _ | refine blk_drew ?_ | refine blk_alloc ?_ _)); exact BK159.out⟩, ⟨bbw4 HB GE156 GE157 GE159 GE160⟩⟩
    ·rw [if_neg c7] at H
     exact absurd H (by simp)
   ·rw [if_neg c6] at H
    have c6b0 : decide (x5_1 < (l0.length : Int)) = false := decide_eq_false c6
    clear c6
    by_cases c39 : x158001_1 < 0
    ·rw [if_pos c39] at H
     have c39b0 : decide (x158001_1 < 0) = true := decide_eq_true c39
     clear c39
     replace H := Option.bind_eq_some_iff.mp H
     obtain ⟨⟨t163, t164⟩, A400, H⟩ := H
     replace H : (if x4_1 > 0 then ((spec_l01Mod.f t163 x4_1).bind fun t165 => (some (x4_1, t165, t164))) else (some (x4_1, t163, t164))) = some (r1, r2, r3) := H
     have A40 := Aside0.mk A400
     clear A400
     by_cases c41 : x4_1 > 0
     ·rw [if_pos c41] at H
      have c41b0 : decide (0 < x4_1) = true := decide_eq_true c41
      clear c41
      replace H := Option.bind_eq_some_iff.mp H
      obtain ⟨t165, A420, H⟩ := H
      replace H : (some (x4_1, t165, t164)) = some (r1, r2, r3) := H
      have A42 := Aside0.mk A420
      clear A420
      simp only [Option.some.injEq, Prod.mk.injEq] at H
      obtain ⟨rfl, rfl, rfl⟩ := H
      have hnb43 := NB157_156.out
      have hnc43 := NB156_157.out
      obtain ⟨hcz44_0, hcz44_1, hfz44_0, hfz44_1⟩ := bz2 BK157
      go_wp2_with (first | ((with_reducible refine gate_callee (f := 90) rfl ?_); refine goesL_ (some 60) rfl rfl Try.func90 (by kernel_rfl) rfl #[.agg #[.int .i64 x158000_1, .int .i64 x158001_1], .int .i64 (-1)] rfl (by (try simp only [List.map_toArray, List.map_cons, List.map_nil]); first | done | rfl | (simp only [List.length_drop, List.length_take]; rfl)) ?_; (with_reducible refine (spec_l01Scale.calls x158000_1 x158001_1 (-1) t163 t164 _ A40.out).mono ?_); rintro e w45 ⟨rfl, hb⟩; refine ⟨_, rfl, ?_⟩; replace BK156 := Aside0.mk (bbl BK156 hb); replace BK157 := Aside0.mk (bbl BK157 hb); replace HB := Aside0.mk (bst2 HB GE156 GE157 hb); (try clear hb); (try clear hb2); (try clear hk); (try clear hi); obtain ⟨hcz46_0, hcz46_1, hfz46_0, hfz46_1⟩ := bz2 BK157) | ((with_reducible refine gate_callee (f := 102) rfl ?_); refine goesL_ (some 66) rfl rfl Try.func102 (by kernel_rfl) rfl #[.int .i64 t163, .int .i64 x4_1] rfl (by (try simp only [List.map_toArray, List.map_cons, List.map_nil]); first | done | rfl | (simp only [List.length_drop, List.length_take]; rfl)) ?_; (with_reducible refine (spec_l01Mod.calls t163 x4_1 t165 _ A42.out).mono ?_); rintro e w' ⟨rfl, ⟨nd, rfl⟩⟩; refine ⟨_, rfl, ?_⟩; have hcz47_0 : w45.cell? ⟨gb156, 0, none⟩ = some (.int .i64 0) := bcl BK156 0; have hcz47_1 : w45.cell? ⟨gb156, 1, none⟩ = some (.int .i64 0) := bcl BK156 1; have hcz47_2 : w45.cell? ⟨gb156, 2, none⟩ = some (.int .i64 0) := bcl BK156 2; have hfz47_0 := blk_frozen BK156.out 0; have hfz47_1 := blk_frozen BK156.out 1; have hfz47_2 := blk_frozen BK156.out 2))
      refine bodyPost_ret (results_cell_row rfl _ _ gb156 31 #[.int .i64 x4_1, .int .i64 t165, .int .i64 t164] (0, 0) _ rfl (by (with_reducible repeat (first | refine blk_drewN ?_ _ | refine blk_drew ?_ | refine blk_alloc ?_ _)); refine blk_put (cs := #[.int .i64 x4_1, .int .i64 t165, .int .i64 0]) ?_ 2 _ rfl; (with_reducible repeat (first | refine blk_drewN ?_ _ | refine blk_drew ?_ | refine blk_alloc ?_ _)); refine blk_put (cs := #[.int .i64 x4_1, .int .i64 0, .int .i64 0]) ?_ 1 _ rfl; (with_reducible repeat (first | refine blk_drewN ?_ _ | refine blk_drew ?_ | refine blk_alloc ?_ _)); refine blk_put (cs := #[.int .i64 0, .int .i64 0, .int .i64 0]) ?_ 0 _ rfl; (with_reducible repeat (first | refine blk_drewN ?_ _ | refine blk_drew ?_ | refine blk_alloc ?_ _)); refine blk_far ?_ NB156_157.out _; (with_reducible repeat (first | refine blk_drewN ?_ _ | refine blk_drew ?_ | refine blk_alloc ?_ _)); refine blk_far ?_ NB156_157.out _; (with_reducible repeat (first | refine blk_drewN ?_ _ | refine blk_drew ?_ | refine blk_alloc ?_ _)); refine blk_far ?_ NB156_157.out _; (with_reducible repeat (first | refine blk_drewN ?_ _ | refine blk_drew ?_ | refine blk_alloc ?_ _)); exact BK156.out) Try.underlying31 rfl (by kernel_rfl)) rfl ?_
      exact ⟨by first | rfl | (simp [errW_none, errW_some] <;> rfl) | (simp [*, errW_none, errW_some] <;> rfl), bbw2 HB GE156 GE157⟩
     ·rw [if_neg c41] at H
      have c41b0 : decide (0 < x4_1) = false := decide_eq_false c41
      clear c41
      simp only [Option.some.injEq, Prod.mk.injEq] at H
      obtain ⟨rfl, rfl, rfl⟩ := H
      have hnb48 := NB157_156.out
      have hnc48 := NB156_157.out
      obtain ⟨hcz49_0, hcz49_1, hfz49_0, hfz49_1⟩ := bz2 BK157
      go_wp2_with (first | ((with_reducible refine gate_callee (f := 90) rfl ?_); refine goesL_ (some 60) rfl rfl Try.func90 (by kernel_rfl) rfl #[.agg #[.int .i64 x158000_1, .int .i64 x158001_1], .int .i64 (-1)] rfl (by (try simp only [List.map_toArray, List.map_cons, List.map_nil]); first | done | rfl | (simp only [List.length_drop, List.length_take]; rfl)) ?_; (with_reducible refine (spec_l01Scale.calls x158000_1 x158001_1 (-1) t163 t164 _ A40.out).mono ?_); rintro e w50 ⟨rfl, hb⟩; refine ⟨_, rfl, ?_⟩; replace BK156 := Aside0.mk (bbl BK156 hb); replace BK157 := Aside0.mk (bbl BK157 hb); replace HB := Aside0.mk (bst2 HB GE156 GE157 hb); (try clear hb); (try clear hb2); (try clear hk); (try clear hi); obtain ⟨hcz51_0, hcz51_1, hfz51_0, hfz51_1⟩ := bz2 BK157; obtain ⟨hcz52_0, hcz52_1, hcz52_2, hfz52_0, hfz52_1, hfz52_2⟩ := bz3 BK156))
      refine bodyPost_ret (results_cell_row rfl _ _ gb156 31 #[.int .i64 x4_1, .int .i64 t163, .int .i64 t164] (0, 0) _ rfl (by (with_reducible repeat (first | refine blk_drewN ?_ _ | refine blk_drew ?_ | refine blk_alloc ?_ _)); refine blk_put (cs := #[.int .i64 x4_1, .int .i64 t163, .int .i64 0]) ?_ 2 _ rfl; (with_reducible repeat (first | refine blk_drewN ?_ _ | refine blk_drew ?_ | refine blk_alloc ?_ _)); refine blk_put (cs := #[.int .i64 x4_1, .int .i64 0, .int .i64 0]) ?_ 1 _ rfl; (with_reducible repeat (first | refine blk_drewN ?_ _ | refine blk_drew ?_ | refine blk_alloc ?_ _)); refine blk_put (cs := #[.int .i64 0, .int .i64 0, .int .i64 0]) ?_ 0 _ rfl; (with_reducible repeat (first | refine blk_drewN ?_ _ | refine blk_drew ?_ | refine blk_alloc ?_ _)); refine blk_far ?_ NB156_157.out _; (with_reducible repeat (first | refine blk_drewN ?_ _ | refine blk_drew ?_ | refine blk_alloc ?_ _)); refine blk_far ?_ NB156_157.out _; (with_reducible repeat (first | refine blk_drewN ?_ _ | refine blk_drew ?_ | refine blk_alloc ?_ _)); exact BK156.out) Try.underlying31 rfl (by kernel_rfl)) rfl ?_
      exact ⟨by first | rfl | (simp [errW_none, errW_some] <;> rfl) | (simp [*, errW_none, errW_some] <;> rfl), bbw2 HB GE156 GE157⟩
    ·rw [if_neg c39] at H
     have c39b0 : decide (x158001_1 < 0) = false := decide_eq_false c39
     clear c39
     by_cases c53 : x4_1 > 0
     ·rw [if_pos c53] at H
      have c53b0 : decide (0 < x4_1) = true := decide_eq_true c53
      clear c53
      replace H := Option.bind_eq_some_iff.mp H
      obtain ⟨t166, A540, H⟩ := H
      replace H : (some (x4_1, t166, x158001_1)) = some (r1, r2, r3) := H
      have A54 := Aside0.mk A540
      clear A540
      simp only [Option.some.injEq, Prod.mk.injEq] at H
      obtain ⟨rfl, rfl, rfl⟩ := H
      have hnb55 := NB157_156.out
      have hnc55 := NB156_157.out
      obtain ⟨hcz56_0, hcz56_1, hfz56_0, hfz56_1⟩ := bz2 BK157
      go_wp2_with (first | ((with_reducible refine gate_callee (f := 102) rfl ?_); refine goesL_ (some 66) rfl rfl Try.func102 (by kernel_rfl) rfl #[.int .i64 x158000_1, .int .i64 x4_1] rfl (by (try simp only [List.map_toArray, List.map_cons, List.map_nil]); first | done | rfl | (simp only [List.length_drop, List.length_take]; rfl)) ?_; (with_reducible refine (spec_l01Mod.calls x158000_1 x4_1 t166 _ A54.out).mono ?_); rintro e w' ⟨rfl, ⟨nd, rfl⟩⟩; refine ⟨_, rfl, ?_⟩; (try (rw [drewN_self wr]; generalize hq_ : World.drewN wr _ = wr; have n0_ : Aside0 (wr.heap[gb156]? = some (.cells #[.int .i64 0, .int .i64 0, .int .i64 0] 31 (0, 0))) := ⟨by rw [← hq_]; exact (bkp BK156)⟩; have n1_ : Aside0 (wr.heap[gb157]? = some (.cells #[.int .i64 x158000_1, .int .i64 x158001_1] 34 (0, 0))) := ⟨by rw [← hq_]; exact (bkp BK157)⟩; have n2_ : Aside0 (Below w.heap.size w wr) := ⟨by rw [← hq_]; exact (bbw2 HB GE156 GE157)⟩; clear BK156 BK157 HB hq_; have BK156 := n0_; have BK157 := n1_; have HB := n2_; clear n0_ n1_ n2_)); have hcz57_0 : wr.cell? ⟨gb157, 0, none⟩ = some (.int .i64 x158000_1) := bcl BK157 0; have hcz57_1 : wr.cell? ⟨gb157, 1, none⟩ = some (.int .i64 x158001_1) := bcl BK157 1; have hfz57_0 := blk_frozen BK157.out 0; have hfz57_1 := blk_frozen BK157.out 1; have hcz58_0 : wr.cell? ⟨gb156, 0, none⟩ = some (.int .i64 0) := bcl BK156 0; have hcz58_1 : wr.cell? ⟨gb156, 1, none⟩ = some (.int .i64 0) := bcl BK156 1; have hcz58_2 : wr.cell? ⟨gb156, 2, none⟩ = some (.int .i64 0) := bcl BK156 2; have hfz58_0 := blk_frozen BK156.out 0; have hfz58_1 := blk_frozen BK156.out 1; have hfz58_2 := blk_frozen BK156.out 2))
      refine bodyPost_ret (results_cell_row rfl _ _ gb156 31 #[.int .i64 x4_1, .int .i64 t166, .int .i64 x158001_1] (0, 0) _ rfl (by (with_reducible repeat (first | refine blk_drewN ?_ _ | refine blk_drew ?_ | refine blk_alloc ?_ _)); refine blk_put (cs := #[.int .i64 x4_1, .int .i64 t166, .int .i64 0]) ?_ 2 _ rfl; (with_reducible repeat (first | refine blk_drewN ?_ _ | refine blk_drew ?_ | refine blk_alloc ?_ _)); refine blk_put (cs := #[.int .i64 x4_1, .int .i64 0, .int .i64 0]) ?_ 1 _ rfl; (with_reducible repeat (first | refine blk_drewN ?_ _ | refine blk_drew ?_ | refine blk_alloc ?_ _)); refine blk_put (cs := #[.int .i64 0, .int .i64 0, .int .i64 0]) ?_ 0 _ rfl; (with_reducible repeat (first | refine blk_drewN ?_ _ | refine blk_drew ?_ | refine blk_alloc ?_ _)); refine blk_far ?_ NB156_157.out _; (with_reducible repeat (first | refine blk_drewN ?_ _ | refine blk_drew ?_ | refine blk_alloc ?_ _)); exact BK156.out) Try.underlying31 rfl (by kernel_rfl)) rfl ?_
      exact ⟨by first | rfl | (simp [errW_none, errW_some] <;> rfl) | (simp [*, errW_none, errW_some] <;> rfl), bbw2 HB GE156 GE157⟩
     ·rw [if_neg c53] at H
      have c53b0 : decide (0 < x4_1) = false := decide_eq_false c53
      clear c53
      simp only [Option.some.injEq, Prod.mk.injEq] at H
      obtain ⟨rfl, rfl, rfl⟩ := H
      have hnb59 := NB157_156.out
      have hnc59 := NB156_157.out
      obtain ⟨hcz60_0, hcz60_1, hfz60_0, hfz60_1⟩ := bz2 BK157
      obtain ⟨hcz61_0, hcz61_1, hcz61_2, hfz61_0, hfz61_1, hfz61_2⟩ := bz3 BK156
      go_wp2
      refine bodyPost_ret (results_cell_row rfl _ _ gb156 31 #[.int .i64 x4_1, .int .i64 x158000_1, .int .i64 x158001_1] (0, 0) _ rfl (by (with_reducible repeat (first | refine blk_drewN ?_ _ | refine blk_drew ?_ | refine blk_alloc ?_ _)); refine blk_put (cs := #[.int .i64 x4_1, .int .i64 x158000_1, .int .i64 0]) ?_ 2 _ rfl; (with_reducible repeat (first | refine blk_drewN ?_ _ | refine blk_drew ?_ | refine blk_alloc ?_ _)); refine blk_put (cs := #[.int .i64 x4_1, .int .i64 0, .int .i64 0]) ?_ 1 _ rfl; (with_reducible repeat (first | refine blk_drewN ?_ _ | refine blk_drew ?_ | refine blk_alloc ?_ _)); refine blk_put (cs := #[.int .i64 0, .int .i64 0, .int .i64 0]) ?_ 0 _ rfl; (with_reducible repeat (first | refine blk_drewN ?_ _ | refine blk_drew ?_ | refine blk_alloc ?_ _)); exact BK156.out) Try.underlying31 rfl (by kernel_rfl)) rfl ?_
      exact ⟨by first | rfl | (simp [errW_none, errW_some] <;> rfl) | (simp [*, errW_none, errW_some] <;> rfl), bbw2 HB GE156 GE157⟩

/-! ### spec_l02Apply: function 78 -/
def spec_l02Apply.f (a0_0 : Int) (a0_1 : Int) (a0_2 : Int) (a0_3 : Int) (a1_0 : Int) (a1_1 : Int) : Option (Int × Int) := some (wrap64 ((wrap64 (a0_0 * a1_0)) + (wrap64 (a0_1 * a1_1))), wrap64 ((wrap64 (a0_2 * a1_0)) + (wrap64 (a0_3 * a1_1))))
set_option maxHeartbeats 8000000 in
set_option maxRecDepth 100000 in
theorem spec_l02Apply.calls (a0_0 : Int) (a0_1 : Int) (a0_2 : Int) (a0_3 : Int) (a1_0 : Int) (a1_1 : Int) (r1 : Int) (r2 : Int) (w : World) (h : spec_l02Apply.f a0_0 a0_1 a0_2 a0_3 a1_0 a1_1 = some (r1, r2)) :
  Calls Try.prog 78 #[.agg #[.int .i64 a0_0, .int .i64 a0_1, .int .i64 a0_2, .int .i64 a0_3], .agg #[.int .i64 a1_0, .int .i64 a1_1]] w fun e w' => e = .returned (.agg #[.int .i64 r1, .int .i64 r2]) ∧ Below w.heap.size w w' := by
 have hu33 := Try.underlying33
 have hu34 := Try.underlying34
 have HB := Aside0.mk (Below.refl w.heap.size w)
 have H : (some (wrap64 ((wrap64 (a0_0 * a1_0)) + (wrap64 (a0_1 * a1_1))), wrap64 ((wrap64 (a0_2 * a1_0)) + (wrap64 (a0_3 * a1_1))))) = some (r1, r2) := h
 clear h
 simp only [Option.some.injEq, Prod.mk.injEq] at H
 obtain ⟨rfl, rfl⟩ := H
 go_enter Try.func78, Try.ntmps78
 go_wp2_with (first | ((with_reducible refine gate_dst (N := 2) rfl ?_); refine box_event ?hg (N := 2) ?hd (cs := #[.int .i64 a0_0, .int .i64 a0_1, .int .i64 a0_2, .int .i64 a0_3]) (t := 33) ?hr ?_; (case hd => rfl); (case hg => rfl); (case hr => first | (go_simp; done) | (go_simp; rfl)); intro gb167 hg w3 hbox hb; have BK167 := Aside0.mk (hbox); have GW167 := ngw0 hg HB; have GE167 := ngw0 hg HB; replace HB := Aside0.mk (bst0 HB hb); clear hb hbox hg) | ((with_reducible refine gate_dst (N := 3) rfl ?_); refine box_event ?hg (N := 3) ?hd (cs := #[.int .i64 a1_0, .int .i64 a1_1]) (t := 34) ?hr ?_; (case hd => rfl); (case hg => rfl); (case hr => first | (go_simp; done) | (go_simp; rfl)); intro gb168 hg w4 hbox hb; have BK168 := Aside0.mk (hbox); have GW168 := ngw1 hg HB GE167; have GE168 := ngw1 hg HB GE167; replace HB := Aside0.mk (bst1 HB GE167 hb); have NB167_168 := nlt hg BK167; have NB168_167 := nsy (nlt hg BK167); replace BK167 := Aside0.mk (bbl BK167 hb); clear hb hbox hg) | ((with_reducible refine gate_dst (N := 4) rfl ?_); refine box_event ?hg (N := 4) ?hd (cs := #[.int .i64 0, .int .i64 0]) (t := 34) ?hr ?_; (case hd => rfl); (case hg => rfl); (case hr => first | (go_simp; done) | (go_simp; rfl)); intro gb169 hg w5 hbox hb; have BK169 := Aside0.mk (hbox); have GW169 := ngw2 hg HB GE167 GE168; have GE169 := ngw2 hg HB GE167 GE168; replace HB := Aside0.mk (bst2 HB GE167 GE168 hb); have NB167_169 := nlt hg BK167; have NB169_167 := nsy (nlt hg BK167); replace BK167 := Aside0.mk (bbl BK167 hb); have NB168_169 := nlt hg BK168; have NB169_168 := nsy (nlt hg BK168); replace BK168 := Aside0.mk (bbl BK168 hb); clear hb hbox hg; have hnb6 := NB167_168.out; have hnc6 := NB168_167.out; have hnb7 := NB167_169.out; have hnc7 := NB169_167.out; obtain ⟨hcz8_0, hcz8_1, hcz8_2, hcz8_3, hfz8_0, hfz8_1, hfz8_2, hfz8_3⟩ := bz4 BK167; have hnb9 := NB168_169.out; have hnc9 := NB169_168.out; obtain ⟨hcz10_0, hcz10_1, hfz10_0, hfz10_1⟩ := bz2 BK168; obtain ⟨hcz11_0, hcz11_1, hfz11_0, hfz11_1⟩ := bz2 BK169))
 refine bodyPost_ret (results_cell_row rfl _ _ gb169 34 #[.int .i64 (wrap64 ((wrap64 (a0_0 * a1_0)) + (wrap64 (a0_1 * a1_1)))), .int .i64 (wrap64 ((wrap64 (a0_2 * a1_0)) + (wrap64 (a0_3 * a1_1))))] (0, 0) _ rfl (by (with_reducible repeat (first | refine blk_drewN ?_ _ | refine blk_drew ?_ | refine blk_alloc ?_ _)); refine blk_put (cs := #[.int .i64 (wrap64 ((wrap64 (a0_0 * a1_0)) + (wrap64 (a0_1 * a1_1)))), .int .i64 0]) ?_ 1 _ rfl; (with_reducible repeat (first | refine blk_drewN ?_ _ | refine blk_drew ?_ | refine blk_alloc ?_ _)); refine blk_put (cs := #[.int .i64 0, .int .i64 0]) ?_ 0 _ rfl; (with_reducible repeat (first | refine blk_drewN ?_ _ | refine blk_drew ?_ | refine blk_alloc ?_ _)); exact BK169.out) Try.underlying34 rfl (by kernel_rfl)) rfl ?_
 exact ⟨by first | rfl | (simp [errW_none, errW_some] <;> rfl) | (simp [*, errW_none, errW_some] <;> rfl), bbw3 HB GE167 GE168 GE169⟩
end Go.Proofs.Ytndfnaehpdkaiaa.PB
