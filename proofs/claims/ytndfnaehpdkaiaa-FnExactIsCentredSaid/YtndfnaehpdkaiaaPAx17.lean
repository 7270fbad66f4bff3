/- Walks written by program: each Go function that the law reaches comes to the plain function beside it. -/
import Derived.Test.YtndfnaehpdkaiaaPAx0
import Derived.Test.YtndfnaehpdkaiaaPAx5
import Derived.Test.YtndfnaehpdkaiaaPAx6
import Derived.Test.YtndfnaehpdkaiaaPAx8
import Derived.Test.YtndfnaehpdkaiaaPAx18
namespace Go.Proofs.Ytndfnaehpdkaiaa.PA
open Go.RowKit Go.Proofs.YtndfnaehpdkaiaaW.PrintWords Go.Proofs.YtndfnaehpdkaiaaW.PrintLast Go.Proofs.YtndfnaehpdkaiaaW.PrintMore
attribute [local go_sem] max2_int min2_int max_two min_two max_three min_three max_four min_four   -- for this text's walks alone
set_option linter.unusedVariables false
set_option linter.unusedSimpArgs false

/-! ### spec_l11Mirror: function 51 -/
def spec_l11Mirror.f (k : Nat) (a0 : Int) (a1_0 : Int) (a1_1 : Int) (a1_2 : Int) (a2_0 : Int) (a2_1 : Int) (a2_2 : Int) (a2_3 : Int) : Option (Bool) := (spec_IsSuitable.f k a0 a1_0 a1_1 a1_2 a2_0 a2_1 a2_2 a2_3 0 0).bind fun t494 => (if t494 = true then ((spec_l02Det.f a2_0 a2_1 a2_2 a2_3).bind fun t495 => (some (t495 == (-1)))) else (some false))
set_option maxHeartbeats 8000000 in
set_option maxRecDepth 100000 in
theorem spec_l11Mirror.calls (k : Nat) (a0 : Int) (a1_0 : Int) (a1_1 : Int) (a1_2 : Int) (a2_0 : Int) (a2_1 : Int) (a2_2 : Int) (a2_3 : Int) (r : Bool) (w : World) (h : spec_l11Mirror.f k a0 a1_0 a1_1 a1_2 a2_0 a2_1 a2_2 a2_3 = some r) :
  Calls Try.prog 51 #[.int .i64 a0, .agg #[.int .i64 a1_0, .int .i64 a1_1, .int .i64 a1_2], .agg #[.int .i64 a2_0, .int .i64 a2_1, .int .i64 a2_2, .int .i64 a2_3]] w fun e w' => e = .returned (.bool r) ∧ Below w.heap.size w w' := by
 have hu31 := Try.underlying31
 have hu33 := Try.underlying33
 have hu36 := Try.underlying36
 have HB := Aside0.mk (Below.refl w.heap.size w)
 have H : ((spec_IsSuitable.f k a0 a1_0 a1_1 a1_2 a2_0 a2_1 a2_2 a2_3 0 0).bind fun t494 => (if t494 = true then ((spec_l02Det.f a2_0 a2_1 a2_2 a2_3).bind fun t495 => (some (t495 == (-1)))) else (some false))) = some r := h
 clear h
 replace H := Option.bind_eq_some_iff.mp H
 obtain ⟨t494, A40, H⟩ := H
 replace H : (if t494 = true then ((spec_l02Det.f a2_0 a2_1 a2_2 a2_3).bind fun t495 => (some (t495 == (-1)))) else (some false)) = some r := H
 have A4 := Aside0.mk A40
 clear A40
 by_cases c5 : t494 = true
 ·subst c5
  have H1 : ((spec_l02Det.f a2_0 a2_1 a2_2 a2_3).bind fun t495 => (some (t495 == (-1)))) = some r := by rw [if_pos rfl] at H; first | done | exact H
  clear H
  have H := H1
  clear H1
  replace H := Option.bind_eq_some_iff.mp H
  obtain ⟨t495, A60, H⟩ := H
  replace H : (some (t495 == (-1))) = some r := H
  have A6 := Aside0.mk A60
  clear A60
  obtain rfl := Option.some.inj H
  go_enter Try.func51, Try.ntmps51
  go_wp2_with (first | ((with_reducible refine gate_dst (N := 4) rfl ?_); refine box_event ?hg (N := 4) ?hd (cs := #[.int .i64 a1_0, .int .i64 a1_1, .int .i64 a1_2]) (t := 31) ?hr ?_; (case hd => rfl); (case hg => rfl); (case hr => first | (go_simp; done) | (go_simp; rfl)); intro gb492 hg w7 hbox hb; have n0_ := Aside0.mk (bst0 HB hb); have n1_ := Aside0.mk (hbox); have n2_ := ngw0 hg HB; have n3_ := n2_; clear HB; have HB := n0_; have BK492 := n1_; have GW492 := n2_; have GE492 := n3_; clear n0_ n1_ n2_ n3_; clear hb hbox hg) | ((with_reducible refine gate_dst (N := 5) rfl ?_); refine box_event ?hg (N := 5) ?hd (cs := #[.int .i64 a2_0, .int .i64 a2_1, .int .i64 a2_2, .int .i64 a2_3]) (t := 33) ?hr ?_; (case hd => rfl); (case hg => rfl); (case hr => first | (go_simp; done) | (go_simp; rfl)); intro gb493 hg w8 hbox hb; have n0_ := Aside0.mk (bbl BK492 hb); have n1_ := Aside0.mk (bst1 HB GE492 hb); have n2_ := Aside0.mk (hbox); have n3_ := ngw1 hg HB GE492; have n4_ := n3_; have n5_ := nlt hg BK492; have n6_ := nsy (nlt hg BK492); clear BK492; clear HB; have BK492 := n0_; have HB := n1_; have BK493 := n2_; have GW493 := n3_; have GE493 := n4_; have NB492_493 := n5_; have NB493_492 := n6_; clear n0_ n1_ n2_ n3_ n4_ n5_ n6_; clear hb hbox hg; have hnb9 := NB492_493.out; have hnc9 := NB493_492.out; have hcz10_0 : w8.cell? ⟨gb492, 0, none⟩ = some (.int .i64 a1_0) := bcl BK492 0; have hcz10_1 : w8.cell? ⟨gb492, 1, none⟩ = some (.int .i64 a1_1) := bcl BK492 1; have hcz10_2 : w8.cell? ⟨gb492, 2, none⟩ = some (.int .i64 a1_2) := bcl BK492 2; have hfz10_0 := blk_frozen BK492.out 0; have hfz10_1 := blk_frozen BK492.out 1; have hfz10_2 := blk_frozen BK492.out 2; have hcz11_0 : w8.cell? ⟨gb493, 0, none⟩ = some (.int .i64 a2_0) := bcl BK493 0; have hcz11_1 : w8.cell? ⟨gb493, 1, none⟩ = some (.int .i64 a2_1) := bcl BK493 1; have hcz11_2 : w8.cell? ⟨gb493, 2, none⟩ = some (.int .i64 a2_2) := bcl BK493 2; have hcz11_3 : w8.cell? ⟨gb493, 3, none⟩ = some (.int .i64 a2_3) := bcl BK493 3; have hfz11_0 := blk_frozen BK493.out 0; have hfz11_1 := blk_frozen BK493.out 1; have hfz11_2 := blk_frozen BK493.out 2; have hfz11_3 := blk_frozen BK493.out 3) | ((with_reducible refine gate_callee (f := 11) rfl ?_); refine goesL_ (some 11) rfl rfl Try.func11 (by kernel_rfl) rfl #[.int .i64 a0, .agg #[.int .i64 a1_0, .int .i64 a1_1, .int .i64 a1_2], .agg #[.int .i64 a2_0, .int .i64 a2_1, .int .i64 a2_2, .int .i64 a2_3, .int .i64 0, .int .i64 0]] rfl (by (try simp only [List.map_toArray, List.map_cons, List.map_nil]); first | done | rfl | (simp only [List.length_drop, List.length_take]; rfl)) ?_; (with_reducible refine (spec_IsSuitable.calls k a0 a1_0 a1_1 a1_2 a2_0 a2_1 a2_2 a2_3 0 0 true _ A4.out).mono ?_); rintro e w12 ⟨rfl, hb⟩; refine ⟨_, rfl, ?_⟩; have n0_ := Aside0.mk (bbl BK492 hb); have n1_ := Aside0.mk (bbl BK493 hb); have n2_ := Aside0.mk (bst2 HB GE492 GE493 hb); clear BK492; clear BK493; clear HB; have BK492 := n0_; have BK493 := n1_; have HB := n2_; clear n0_ n1_ n2_; (try clear hb); (try clear hb2); (try clear hk); (try clear hi); have hcz13_0 : w12.cell? ⟨gb493, 0, none⟩ = some (.int .i64 a2_0) := bcl BK493 0; have hcz13_1 : w12.cell? ⟨gb493, 1, none⟩ = some (.int .i64 a2_1) := bcl BK493 1; have hcz13_2 : w12.cell? ⟨gb493, 2, none⟩ = some (.int .i64 a2_2) := bcl BK493 2; have hcz13_3 : w12.cell? ⟨gb493, 3, none⟩ = some (.int .i64 a2_3) := bcl BK493 3; have hfz13_0 := blk_frozen BK493.out 0; have hfz13_1 := blk_frozen BK493.out 1; have hfz13_2 := blk_frozen BK493.out 2; have hfz13_3 := blk_frozen BK493.out 3) | (go_at_call 58; (with_reducible refine (spec_l02Det.calls a2_0 a2_1 a2_2 a2_3 t495 _ A6.out).mono ?_); rintro e w14 ⟨rfl, hb⟩; have n0_ := Aside0.mk (bbl BK492 hb); have n1_ := Aside0.mk (bbl BK493 hb); have n2_ := Aside0.mk (bst2 HB GE492 GE493 hb); clear BK492; clear BK493; clear HB; have BK492 := n0_; have BK493 := n1_; have HB := n2_; clear n0_ n1_ n2_; (try clear hb); (try clear hb2); (try clear hk); (try clear hi)))
  go_ret
  exact ⟨by first | rfl | (simp [errW_none, errW_some] <;> rfl) | (simp [*, errW_none, errW_some] <;> rfl), bbw2 HB GE492 GE493⟩
 ·replace c5 := Bool.eq_false_iff.mpr c5
  subst c5
  have H1 : (some false) = some r := by rw [if_neg (show ¬ (false = true) by decide)] at H; first | done | exact H
  clear H
  have H := H1
  clear H1
  obtain rfl := Option.some.inj H
  go_enter Try.func51, Try.ntmps51
  go_wp2_with (first | ((with_reducible refine gate_dst (N := 4) rfl ?_); refine box_event ?hg (N := 4) ?hd (cs := #[.int .i64 a1_0, .int .i64 a1_1, .int .i64 a1_2]) (t := 31) ?hr ?_; (case hd => rfl); (case hg => rfl); (case hr => first | (go_simp; done) | (go_simp; rfl)); intro gb492 hg w15 hbox hb; have n0_ := Aside0.mk (bst0 HB hb); have n1_ := Aside0.mk (hbox); have n2_ := ngw0 hg HB; have n3_ := n2_; clear HB; have HB := n0_; have BK492 := n1_; have GW492 := n2_; have GE492 := n3_; clear n0_ n1_ n2_ n3_; clear hb hbox hg) | ((with_reducible refine gate_dst (N := 5) rfl ?_); refine box_event ?hg (N := 5) ?hd (cs := #[.int .i64 a2_0, .int .i64 a2_1, .int .i64 a2_2, .int .i64 a2_3]) (t := 33) ?hr ?_; (case hd => rfl); (case hg => rfl); (case hr => first | (go_simp; done) | (go_simp; rfl)); intro gb493 hg w16 hbox hb; have n0_ := Aside0.mk (bbl BK492 hb); have n1_ := Aside0.mk (bst1 HB GE492 hb); have n2_ := Aside0.mk (hbox); have n3_ := ngw1 hg HB GE492; have n4_ := n3_; have n5_ := nlt hg BK492; have n6_ := nsy (nlt hg BK492); clear BK492; clear HB; have BK492 := n0_; have HB := n1_; have BK493 := n2_; have GW493 := n3_; have GE493 := n4_; have NB492_493 := n5_; have NB493_492 := n6_; clear n0_ n1_ n2_ n3_ n4_ n5_ n6_; clear hb hbox hg; have hnb17 := NB492_493.out; have hnc17 := NB493_492.out; have hcz18_0 : w16.cell? ⟨gb492, 0, none⟩ = some (.int .i64 a1_0) := bcl BK492 0; have hcz18_1 : w16.cell? ⟨gb492, 1, none⟩ = some (.int .i64 a1_1) := bcl BK492 1; have hcz18_2 : w16.cell? ⟨gb492, 2, none⟩ = some (.int .i64 a1_2) := bcl BK492 2; have hfz18_0 := blk_frozen BK492.out 0; have hfz18_1 := blk_frozen BK492.out 1; have hfz18_2 := blk_frozen BK492.out 2; have hcz19_0 : w16.cell? ⟨gb493, 0, none⟩ = some (.int .i64 a2_0) := bcl BK493 0; have hcz19_1 : w16.cell? ⟨gb493, 1, none⟩ = some (.int .i64 a2_1) := bcl BK493 1; have hcz19_2 : w16.cell? ⟨gb493, 2, none⟩ = some (.int .i64 a2_2) := bcl BK493 2; have hcz19_3 : w16.cell? ⟨gb493, 3, none⟩ = some (.int .i64 a2_3) := bcl BK493 3; have hfz19_0 := blk_frozen BK493.out 0; have hfz19_1 := blk_frozen BK493.out 1; have hfz19_2 := blk_frozen BK493.out 2; have hfz19_3 := blk_frozen BK493.out 3) | ((with_reducible refine gate_callee (f := 11) rfl ?_); refine goesL_ (some 11) rfl rfl Try.func11 (by kernel_rfl) rfl #[.int .i64 a0, .agg #[.int .i64 a1_0, .int .i64 a1_1, .int .i64 a1_2], .agg #[.int .i64 a2_0, .int .i64 a2_1, .int .i64 a2_2, .int .i64 a2_3, .int .i64 0, .int .i64 0]] rfl (by (try simp only [List.map_toArray, List.map_cons, List.map_nil]); first | done | rfl | (simp only [List.length_drop, List.length_take]; rfl)) ?_; (with_reducible refine (spec_IsSuitable.calls k a0 a1_0 a1_1 a1_2 a2_0 a2_1 a2_2 a2_3 0 0 false _ A4.out).mono ?_); rintro e w20 ⟨rfl, hb⟩; refine ⟨_, rfl, ?_⟩; have n0_ := Aside0.mk (bbl BK492 hb); have n1_ := Aside0.mk (bbl BK493 hb); have n2_ := Aside0.mk (bst2 HB GE492 GE493 hb); clear BK492; clear BK493; clear HB; have BK492 := n0_; have BK493 := n1_; have HB := n2_; clear n0_ n1_ n2_; (try clear hb); (try clear hb2); (try clear hk); (try clear hi)))
  go_ret
  exact ⟨by first | rfl | (simp [errW_none, errW_some] <;> rfl) | (simp [*, errW_none, errW_some] <;> rfl), bbw2 HB GE492 GE493⟩

/-! ### impl_mirrorCode: function 53 -/
def impl_mirrorCode.f (k : Nat) (a0 : Int) (a1_0 : Int) (a1_1 : Int) (a1_2 : Int) (a2_0 : Int) (a2_1 : Int) (a2_2 : Int) (a2_3 : Int) : Option (Int) := (impl_frameCode.f a0 a1_0 a1_1 a1_2).bind fun t543 => (if t543 = 0 then ((impl_latticeMats.f k a0 a1_0 a1_1 a1_2).bind fun t544 => ((impl_Mat_82.f k t544 a2_0 a2_1 a2_2 a2_3).bind fun t547 => (if t547 = true then ((impl_Mat_isReflection.f k a2_0 a2_1 a2_2 a2_3).bind fun t548 => (if t548 = true then (some 0) else (some 2))) else (some 2)))) else (some t543))
def impl_mirrorCode.T4 : Bool × List (List Nat × List Nat) := (true, [([], []), ([], []), ([0, 1], [0, 1]), ([], []), ([2, 3, 2], [2, 3]), ([4], [4]), ([5, 4], [5]), ([6], [6]), ([7, 6, 6], [6, 7]), ([8, 6], [6, 8]), ([6, 9], [6, 9])])
def impl_mirrorCode.B4 : List Nat := [0, 0, 3, 0, 15, 31, 63, 127, 255, 511, 1023]
theorem impl_mirrorCode.tab4 : rtab .any (opsOf Try.f53 4) = impl_mirrorCode.T4 := by kernel_rfl
theorem impl_mirrorCode.bits4 : waitsOk impl_mirrorCode.T4.2 impl_mirrorCode.B4 = true := by kernel_rfl
set_option maxHeartbeats 8000000 in
set_option maxRecDepth 100000 in
theorem impl_mirrorCode.calls (k : Nat) (a0 : Int) (a1_0 : Int) (a1_1 : Int) (a1_2 : Int) (a2_0 : Int) (a2_1 : Int) (a2_2 : Int) (a2_3 : Int) (r : Int) (w : World) (h : impl_mirrorCode.f k a0 a1_0 a1_1 a1_2 a2_0 a2_1 a2_2 a2_3 = some r) :
  Calls Try.prog 53 #[.int .i64 a0, .agg #[.int .i64 a1_0, .int .i64 a1_1, .int .i64 a1_2], .agg #[.int .i64 a2_0, .int .i64 a2_1, .int .i64 a2_2, .int .i64 a2_3]] w fun e w' => e = .returned (.int .i64 r) ∧ Below w.heap.size w w' := by
 have hu31 := Try.underlying31
 have hu33 := Try.underlying33
 have HB := Aside0.mk (Below.refl w.heap.size w)
 have H : ((impl_frameCode.f a0 a1_0 a1_1 a1_2).bind fun t543 => (if t543 = 0 then ((impl_latticeMats.f k a0 a1_0 a1_1 a1_2).bind fun t544 => ((impl_Mat_82.f k t544 a2_0 a2_1 a2_2 a2_3).bind fun t547 => (if t547 = true then ((impl_Mat_isReflection.f k a2_0 a2_1 a2_2 a2_3).bind fun t548 => (if t548 = true then (some 0) else (some 2))) else (some 2)))) else (some t543))) = some r := h
 clear h
 replace H := Option.bind_eq_some_iff.mp H
 obtain ⟨t543, A40, H⟩ := H
 replace H : (if t543 = 0 then ((impl_latticeMats.f k a0 a1_0 a1_1 a1_2).bind fun t544 => ((impl_Mat_82.f k t544 a2_0 a2_1 a2_2 a2_3).bind fun t547 => (if t547 = true then ((impl_Mat_isReflection.f k a2_0 a2_1 a2_2 a2_3).bind fun t548 => (if t548 = true then (some 0) else (some 2))) else (some 2)))) else (some t543)) = some r := H
 have A4 := Aside0.mk A40
 clear A40
 by_cases c5 : t543 = 0
 ·rw [if_pos c5] at H
  have c5b0 : (t543 == 0) = true := beq_iff_eq.mpr c5
  have c5b1 : (t543 != 0) = false := bne_eq_false_iff_eq.mpr c5
  clear c5
  replace H := Option.bind_eq_some_iff.mp H
  obtain ⟨t544, A60, H⟩ := H
  replace H : ((impl_Mat_82.f k t544 a2_0 a2_1 a2_2 a2_3).bind fun t547 => (if t547 = true then ((impl_Mat_isReflection.f k a2_0 a2_1 a2_2 a2_3).bind fun t548 => (if t548 = true then (some 0) else (some 2))) else (some 2))) = some r := H
  have A6 := Aside0.mk A60
  clear A60
  replace H := Option.bind_eq_some_iff.mp H
  obtain ⟨t547, A70, H⟩ := H
  replace H : (if t547 = true then ((impl_Mat_isReflection.f k a2_0 a2_1 a2_2 a2_3).bind fun t548 => (if t548 = true then (some 0) else (some 2))) else (some 2)) = some r := H
  have A7 := Aside0.mk A70
  clear A70
  by_cases c8 : t547 = true
  ·subst c8
   have H1 : ((impl_Mat_isReflection.f k a2_0 a2_1 a2_2 a2_3).bind fun t548 => (if t548 = true then (some 0) else (some 2))) = some r := by rw [if_pos rfl] at H; first | done | exact H
   clear H
   have H := H1
   clear H1
   replace H := Option.bind_eq_some_iff.mp H
   obtain ⟨t548, A90, H⟩ := H
   replace H : (if t548 = true then (some 0) else (some 2)) = some r := H
   have A9 := Aside0.mk A90
   clear A90
   by_cases c10 : t548 = true
   ·subst c10
    have H1 : (some 0) = some r := by rw [if_pos rfl] at H; first | done | exact H
    clear H
    have H := H1
    clear H1
    obtain rfl := Option.some.inj H
    go_enter Try.func53, Try.ntmps53
    try go_wp2_with (first | ((with_reducible refine gate_dst (N := 4) rfl ?_); refine box_event ?hg (N := 4) ?hd (cs := #[.int .i64 a1_0, .int .i64 a1_1, .int .i64 a1_2]) (t := 31) ?hr ?_; (case hd => rfl); (case hg => rfl); (case hr => first | (go_simp; done) | (go_simp; rfl)); intro gb541 hg w11 hbox hb; have n0_ := Aside0.mk (bst0 HB hb); have n1_ := Aside0.mk (hbox); have n2_ := ngw0 hg HB; have n3_ := n2_; clear HB; have HB := n0_; have BK541 := n1_; have GW541 := n2_; have GE541 := n3_; clear n0_ n1_ n2_ n3_; clear hb hbox hg) | ((with_reducible refine gate_dst (N := 5) rfl ?_); refine box_event ?hg (N := 5) ?hd (cs := #[.int .i64 a2_0, .int .i64 a2_1, .int .i64 a2_2, .int .i64 a2_3]) (t := 33) ?hr ?_; (case hd => rfl); (case hg => rfl); (case hr => first | (go_simp; done) | (go_simp; rfl)); intro gb542 hg w12 hbox hb; have n0_ := Aside0.mk (bbl BK541 hb); have n1_ := Aside0.mk (bst1 HB GE541 hb); have n2_ := Aside0.mk (hbox); have n3_ := ngw1 hg HB GE541; have n4_ := n3_; have n5_ := nlt hg BK541; have n6_ := nsy (nlt hg BK541); clear BK541; clear HB; have BK541 := n0_; have HB := n1_; have BK542 := n2_; have GW542 := n3_; have GE542 := n4_; have NB541_542 := n5_; have NB542_541 := n6_; clear n0_ n1_ n2_ n3_ n4_ n5_ n6_; clear hb hbox hg; have hnb13 := NB541_542.out; have hnc13 := NB542_541.out; have hcz14_0 : w12.cell? ⟨gb541, 0, none⟩ = some (.int .i64 a1_0) := bcl BK541 0; have hcz14_1 : w12.cell? ⟨gb541, 1, none⟩ = some (.int .i64 a1_1) := bcl BK541 1; have hcz14_2 : w12.cell? ⟨gb541, 2, none⟩ = some (.int .i64 a1_2) := bcl BK541 2; have hfz14_0 := blk_frozen BK541.out 0; have hfz14_1 := blk_frozen BK541.out 1; have hfz14_2 := blk_frozen BK541.out 2) | ((with_reducible refine gate_callee (f := 43) rfl ?_); refine goesL_ (some 10) rfl rfl Try.func43 (by kernel_rfl) rfl #[.int .i64 a0, .agg #[.int .i64 a1_0, .int .i64 a1_1, .int .i64 a1_2]] rfl (by (try simp only [List.map_toArray, List.map_cons, List.map_nil]); first | done | rfl | (simp only [List.length_drop, List.length_take]; rfl)) ?_; (with_reducible refine (impl_frameCode.calls a0 a1_0 a1_1 a1_2 t543 _ A4.out).mono ?_); rintro e w15 ⟨rfl, hb⟩; refine ⟨_, rfl, ?_⟩; have n0_ := Aside0.mk (bbl BK541 hb); have n1_ := Aside0.mk (bbl BK542 hb); have n2_ := Aside0.mk (bst2 HB GE541 GE542 hb); clear BK541; clear BK542; clear HB; have BK541 := n0_; have BK542 := n1_; have HB := n2_; clear n0_ n1_ n2_; (try clear hb); (try clear hb2); (try clear hk); (try clear hi)))
    have n0_ := Aside0.mk (blk_drew BK541.out)
    have n1_ := Aside0.mk (blk_drew BK542.out)
    have n2_ := Aside0.mk (below_drew1 HB.out)
    clear BK541
    clear BK542
    clear HB
    have BK541 := n0_
    have BK542 := n1_
    have HB := n2_
    clear n0_ n1_ n2_
    refine start_ (n := 11) (S := fun w' => w'.cell? ⟨gb541, 0, none⟩ = some (.int .i64 a1_0) ∧ w'.cell? ⟨gb541, 1, none⟩ = some (.int .i64 a1_1) ∧ w'.cell? ⟨gb541, 2, none⟩ = some (.int .i64 a1_2) ∧ w'.cell? ⟨gb542, 0, none⟩ = some (.int .i64 a2_0) ∧ w'.cell? ⟨gb542, 1, none⟩ = some (.int .i64 a2_1) ∧ w'.cell? ⟨gb542, 2, none⟩ = some (.int .i64 a2_2) ∧ w'.cell? ⟨gb542, 3, none⟩ = some (.int .i64 a2_3)) (ds := []) #[false, false, false, false, false, false, false, false, false, false, false] (by kernel_rfl) rfl rfl ⟨bcl BK541 0, bcl BK541 1, bcl BK541 2, bcl BK542 0, bcl BK542 1, bcl BK542 2, bcl BK542 3⟩ (fun hHeld => ?_); refine with_tabW impl_mirrorCode.tab4 impl_mirrorCode.bits4 (fun HT_ HW_ => ?_)
    generalize w15.drew = w16 at BK541 BK542 HB hHeld ⊢
    refine pure_ (i := 0) (N := some 14) (v := ?_) (a' := ?_) #[true, false, false, false, false, false, false, false, false, false, false] rfl rfl (any_of HT_.out (by kernel_rfl)) (fun _ _ _ h => h) (Or.inl ⟨by rfl, ?_⟩) ?_ ?_
    rotate_left
    ·intro w'
     go_simp
     with_reducible rfl
    rotate_left
    ·simp only [Act.put, sA, sB, sC, i64_w, i32_w]
     rfl
    refine take_ (i := 1) (N := some 15) (v := ?_) (a' := ?_) #[true, true, false, false, false, false, false, false, false, false, false] rfl rfl (take_ofW HT_.out HW_.out (by kernel_rfl)) (fun _ _ _ h => h) (Or.inl ⟨by rfl, ?_⟩) hHeld ?_ ?_
    rotate_left
    ·rintro w' ⟨s0, s1, s2, s3, s4, s5, s6⟩
     go_simp
     with_reducible rfl
    rotate_left
    ·simp only [Act.put, sA, sB, sC, i64_w, i32_w]
     rfl
    refine take_ (i := 3) (N := some 17) (v := ?_) (a' := ?_) #[true, true, false, true, false, false, false, false, false, false, false] rfl rfl (take_ofW HT_.out HW_.out (by kernel_rfl)) (fun _ _ _ h => h) (Or.inl ⟨by rfl, ?_⟩) hHeld ?_ ?_
    rotate_left
    ·rintro w' ⟨s0, s1, s2, s3, s4, s5, s6⟩
     go_simp
     with_reducible rfl
    rotate_left
    ·simp only [Act.put, sA, sB, sC, i64_w, i32_w]
     rfl
    refine one_ (i := 2) (N := some 16) #[true, true, true, true, false, false, false, false, false, false, false] rfl rfl (one_of HT_.out (by kernel_rfl)) (by decide) (fun K hK => ?_)
    refine goes_ Try.func83 (by kernel_rfl) rfl #[.int .i64 a0, .agg #[.int .i64 a1_0, .int .i64 a1_1, .int .i64 a1_2]] (by rfl) rfl rfl (by (try simp only [List.map_toArray, List.map_cons, List.map_nil]); first | done | rfl | (simp only [List.length_drop, List.length_take]; rfl)) ?_
    with_reducible refine (impl_latticeMats.calls k a0 a1_0 a1_1 a1_2 t544 _ A6.out).mono ?_
    rintro e w17 ⟨v545, rfl, ho0, hb⟩
    refine ⟨_, rfl, ?_⟩
    have n0_ := Aside0.mk (Kd.R_lower (Kd.R_newB ho0 (g := gb542) (o := .cells #[.int .i64 a2_0, .int .i64 a2_1, .int .i64 a2_2, .int .i64 a2_3] 33 (0, 0)) (bkp BK542)) (bsz2 HB GE541 GE542))
    have n1_ := Aside0.mk (bbl BK541 hb)
    have n2_ := Aside0.mk (bbl BK542 hb)
    have n3_ := Aside0.mk (bst2 HB GE541 GE542 hb)
    clear BK541
    clear BK542
    clear HB
    have HO546 := n0_
    have BK541 := n1_
    have BK542 := n2_
    have HB := n3_
    clear n0_ n1_ n2_ n3_
    (try clear hb)
    (try clear hb2)
    (try clear hk)
    (try clear hi)
    (try clear ho0)
    obtain ⟨Ao18, co18, eo18⟩ := Kd.R_slice HO546.out
    (first | subst eo18 | (injection eo18 with f1_ f2_ f3_; have f4_ := f1_.symm; have f5_ := f3_.symm; clear f1_ f2_ f3_; subst f4_; subst f5_))
    refine hK.out _ _ ⟨bcl BK541 0, bcl BK541 1, bcl BK541 2, bcl BK542 0, bcl BK542 1, bcl BK542 2, bcl BK542 3⟩ (fun hHeld => ?_)
    clear hK K
    refine norm_ (a' := ?_) ?_ ?_
    rotate_left
    ·show Act.put _ (some 16) _ = _
     simp only [Act.put, sA, sB, sC, i64_w, i32_w]
     rfl
    refine one_ (i := 4) (N := some 18) #[true, true, true, true, true, false, false, false, false, false, false] rfl rfl (one_of HT_.out (by kernel_rfl)) (by decide) (fun K hK => ?_)
    refine goes_ Try.func82 (by kernel_rfl) rfl #[.slice Ao18 t544.length co18, .agg #[.int .i64 a2_0, .int .i64 a2_1, .int .i64 a2_2, .int .i64 a2_3]] (by rfl) rfl rfl (by (try simp only [List.map_toArray, List.map_cons, List.map_nil]); first | done | rfl | (simp only [List.length_drop, List.length_take]; rfl)) ?_
    with_reducible refine (impl_Mat_82.calls k _ _ t544 a2_0 a2_1 a2_2 a2_3 true _ ?side1 ?side2 A7.out).mono ?_
    (case side1 => repeat (first | exact (Kd.R_reads' HO546.out).2.2 | (with_reducible refine Kd.C_alloc ?_ _) | (with_reducible refine Kd.C_drewN ?_ _) | (with_reducible refine Kd.C_drew ?_)))
    (case side2 => exact (Kd.R_reads' HO546.out).2.1)
    rintro e w19 ⟨rfl, hb⟩
    refine ⟨_, rfl, ?_⟩
    have n0_ := Aside0.mk (Kd.R_below (by (with_reducible repeat (first | apply Kd.R_alloc | apply Kd.R_drewN | apply Kd.R_drew)); exact HO546.out) hb)
    have n1_ := Aside0.mk (bbl BK541 hb)
    have n2_ := Aside0.mk (bbl BK542 hb)
    have n3_ := Aside0.mk (bst2 HB GE541 GE542 hb)
    clear HO546
    clear BK541
    clear BK542
    clear HB
    have HO546 := n0_
    have BK541 := n1_
    have BK542 := n2_
    have HB := n3_
    clear n0_ n1_ n2_ n3_
    (try clear hb)
    (try clear hb2)
    (try clear hk)
    (try clear hi)
    refine hK.out _ _ ⟨bcl BK541 0, bcl BK541 1, bcl BK541 2, bcl BK542 0, bcl BK542 1, bcl BK542 2, bcl BK542 3⟩ (fun hHeld => ?_)
    clear hK K
    refine norm_ (a' := ?_) ?_ ?_
    rotate_left
    ·show Act.put _ (some 18) _ = _
     simp only [Act.put, sA, sB, sC, i64_w, i32_w]
     rfl
    refine pure_ (i := 5) (N := some 19) (v := ?_) (a' := ?_) #[true, true, true, true, true, true, false, false, false, false, false] rfl rfl (any_of HT_.out (by kernel_rfl)) (fun _ _ _ h => h) (Or.inl ⟨by rfl, ?_⟩) ?_ ?_
    rotate_left
    ·intro w'
     go_simp
     with_reducible rfl
    rotate_left
    ·simp only [Act.put, sA, sB, sC, i64_w, i32_w]
     rfl
    refine pure_ (i := 6) (N := some 20) (v := ?_) (a' := ?_) #[true, true, true, true, true, true, true, false, false, false, false] rfl rfl (any_of HT_.out (by kernel_rfl)) (fun _ _ _ h => h) (Or.inl ⟨by rfl, ?_⟩) ?_ ?_
    rotate_left
    ·intro w'
     go_simp
     with_reducible rfl
    rotate_left
    ·simp only [Act.put, sA, sB, sC, i64_w, i32_w]
     rfl
    refine take_ (i := 7) (N := some 21) (v := ?_) (a' := ?_) #[true, true, true, true, true, true, true, true, false, false, false] rfl rfl (take_ofW HT_.out HW_.out (by kernel_rfl)) (fun _ _ _ h => h) (Or.inl ⟨by rfl, ?_⟩) hHeld ?_ ?_
    rotate_left
    ·rintro w' ⟨s0, s1, s2, s3, s4, s5, s6⟩
     go_simp
     with_reducible rfl
    rotate_left
    ·simp only [Act.put, sA, sB, sC, i64_w, i32_w]
     rfl
    refine one_ (i := 8) (N := some 22) #[true, true, true, true, true, true, true, true, true, false, false] rfl rfl (one_of HT_.out (by kernel_rfl)) (by decide) (fun K hK => ?_)
    refine goes_ Try.func92 (by kernel_rfl) rfl #[.agg #[.int .i64 a2_0, .int .i64 a2_1, .int .i64 a2_2, .int .i64 a2_3]] (by rfl) rfl rfl (by (try simp only [List.map_toArray, List.map_cons, List.map_nil]); first | done | rfl | (simp only [List.length_drop, List.length_take]; rfl)) ?_
    with_reducible refine (impl_Mat_isReflection.calls k a2_0 a2_1 a2_2 a2_3 true _ A9.out).mono ?_
    rintro e w20 ⟨rfl, hb⟩
    refine ⟨_, rfl, ?_⟩
    have n0_ := Aside0.mk (Kd.R_below (by (with_reducible repeat (first | apply Kd.R_alloc | apply Kd.R_drewN | apply Kd.R_drew)); exact HO546.out) hb)
    have n1_ := Aside0.mk (bbl BK541 hb)
    have n2_ := Aside0.mk (bbl BK542 hb)
    have n3_ := Aside0.mk (bst2 HB GE541 GE542 hb)
    clear HO546
    clear BK541
    clear BK542
    clear HB
    have HO546 := n0_
    have BK541 := n1_
    have BK542 := n2_
    have HB := n3_
    clear n0_ n1_ n2_ n3_
    (try clear hb)
    (try clear hb2)
    (try clear hk)
    (try clear hi)
    refine hK.out _ _ ⟨bcl BK541 0, bcl BK541 1, bcl BK541 2, bcl BK542 0, bcl BK542 1, bcl BK542 2, bcl BK542 3⟩ (fun hHeld => ?_)
    clear hK K
    refine norm_ (a' := ?_) ?_ ?_
    rotate_left
    ·show Act.put _ (some 22) _ = _
     simp only [Act.put, sA, sB, sC, i64_w, i32_w]
     rfl
    refine pure_ (i := 9) (N := some 23) (v := ?_) (a' := ?_) #[true, true, true, true, true, true, true, true, true, true, false] rfl rfl (any_of HT_.out (by kernel_rfl)) (fun _ _ _ h => h) (Or.inl ⟨by rfl, ?_⟩) ?_ ?_
    rotate_left
    ·intro w'
     go_simp
     with_reducible rfl
    rotate_left
    ·simp only [Act.put, sA, sB, sC, i64_w, i32_w]
     rfl
    refine pure_ (i := 10) (N := some 24) (v := ?_) (a' := ?_) #[true, true, true, true, true, true, true, true, true, true, true] rfl rfl (any_of HT_.out (by kernel_rfl)) (fun _ _ _ h => h) (Or.inl ⟨by rfl, ?_⟩) ?_ ?_
    rotate_left
    ·intro w'
     go_simp
     with_reducible rfl
    rotate_left
    ·simp only [Act.put, sA, sB, sC, i64_w, i32_w]
     rfl
    refine done_ (done_of HT_.out (by kernel_rfl)) ?_
    try go_wp2
    go_ret
    exact ⟨by first | rfl | (simp [errW_none, errW_some] <;> rfl) | (simp [*, errW_none, errW_some] <;> rfl), bbw2 HB GE541 GE542⟩
   ·replace c10 := Bool.eq_false_iff.mpr c10
    subst c10
    have H1 : (some 2) = some r := by rw [if_neg (show ¬ (false = true) by decide)] at H; first | done | exact H
    clear H
    have H := H1
    clear H1
    obtain rfl := Option.some.inj H
    go_enter Try.func53, Try.ntmps53
    try go_wp2_with (first | ((with_reducible refine gate_dst (N := 4) rfl ?_); refine box_event ?hg (N := 4) ?hd (cs := #[.int .i64 a1_0, .int .i64 a1_1, .int .i64 a1_2]) (t := 31) ?hr ?_; (case hd => rfl); (case hg => rfl); (case hr => first | (go_simp; done) | (go_simp; rfl)); intro gb541 hg w21 hbox hb; have n0_ := Aside0.mk (bst0 HB hb); have n1_ := Aside0.mk (hbox); have n2_ := ngw0 hg HB; have n3_ := n2_; clear HB; have HB := n0_; have BK541 := n1_; have GW541 := n2_; have GE541 := n3_; clear n0_ n1_ n2_ n3_; clear hb hbox hg) | ((with_reducible refine gate_dst (N := 5) rfl ?_); refine box_event ?hg (N := 5) ?hd (cs := #[.int .i64 a2_0, .int .i64 a2_1, .int .i64 a2_2, .int .i64 a2_3]) (t := 33) ?hr ?_; (case hd => rfl); (case hg => rfl); (case hr => first | (go_simp; done) | (go_simp; rfl)); intro gb542 hg w22 hbox hb; have n0_ := Aside0.mk (bbl BK541 hb); have n1_ := Aside0.mk (bst1 HB GE541 hb); have n2_ := Aside0.mk (hbox); have n3_ := ngw1 hg HB GE541; have n4_ := n3_; have n5_ := nlt hg BK541; have n6_ := nsy (nlt hg BK541); clear BK541; clear HB; have BK541 := n0_; have HB := n1_; have BK542 := n2_; have GW542 := n3_; have GE542 := n4_; have NB541_542 := n5_; have NB542_541 := n6_; clear n0_ n1_ n2_ n3_ n4_ n5_ n6_; clear hb hbox hg; have hnb23 := NB541_542.out; have hnc23 := NB542_541.out; have hcz24_0 : w22.cell? ⟨gb541, 0, none⟩ = some (.int .i64 a1_0) := bcl BK541 0; have hcz24_1 : w22.cell? ⟨gb541, 1, none⟩ = some (.int .i64 a1_1) := bcl BK541 1; have hcz24_2 : w22.cell? ⟨gb541, 2, none⟩ = some (.int .i64 a1_2) := bcl BK541 2; have hfz24_0 := blk_frozen BK541.out 0; have hfz24_1 := blk_frozen BK541.out 1; have hfz24_2 := blk_frozen BK541.out 2) | ((with_reducible refine gate_callee (f := 43) rfl ?_); refine goesL_ (some 10) rfl rfl Try.func43 (by kernel_rfl) rfl #[.int .i64 a0, .agg #[.int .i64 a1_0, .int .i64 a1_1, .int .i64 a1_2]] rfl (by (try simp only [List.map_toArray, List.map_cons, List.map_nil]); first | done | rfl | (simp only [List.length_drop, List.length_take]; rfl)) ?_; (with_reducible refine (impl_frameCode.calls a0 a1_0 a1_1 a1_2 t543 _ A4.out).mono ?_); rintro e w25 ⟨rfl, hb⟩; refine ⟨_, rfl, ?_⟩; have n0_ := Aside0.mk (bbl BK541 hb); have n1_ := Aside0.mk (bbl BK542 hb); have n2_ := Aside0.mk (bst2 HB GE541 GE542 hb); clear BK541; clear BK542; clear HB; have BK541 := n0_; have BK542 := n1_; have HB := n2_; clear n0_ n1_ n2_; (try clear hb); (try clear hb2); (try clear hk); (try clear hi)))
    have n0_ := Aside0.mk (blk_drew BK541.out)
    have n1_ := Aside0.mk (blk_drew BK542.out)
    have n2_ := Aside0.mk (below_drew1 HB.out)
    clear BK541
    clear BK542
    clear HB
    have BK541 := n0_
    have BK542 := n1_
    have HB := n2_
    clear n0_ n1_ n2_
    refine start_ (n := 11) (S := fun w' => w'.cell? ⟨gb541, 0, none⟩ = some (.int .i64 a1_0) ∧ w'.cell? ⟨gb541, 1, none⟩ = some (.int .i64 a1_1) ∧ w'.cell? ⟨gb541, 2, none⟩ = some (.int .i64 a1_2) ∧ w'.cell? ⟨gb542, 0, none⟩ = some (.int .i64 a2_0) ∧ w'.cell? ⟨gb542, 1, none⟩ = some (.int .i64 a2_1) ∧ w'.cell? ⟨gb542, 2, none⟩ = some (.int .i64 a2_2) ∧ w'.cell? ⟨gb542, 3, none⟩ = some (.int .i64 a2_3)) (ds := []) #[false, false, false, false, false, false, false, false, false, false, false] (by kernel_rfl) rfl rfl ⟨bcl BK541 0, bcl BK541 1, bcl BK541 2, bcl BK542 0, bcl BK542 1, bcl BK542 2, bcl BK542 3⟩ (fun hHeld => ?_); refine with_tabW impl_mirrorCode.tab4 impl_mirrorCode.bits4 (fun HT_ HW_ => ?_)
    generalize w25.drew = w26 at BK541 BK542 HB hHeld ⊢
    refine pure_ (i := 0) (N := some 14) (v := ?_) (a' := ?_) #[true, false, false, false, false, false, false, false, false, false, false] rfl rfl (any_of HT_.out (by kernel_rfl)) (fun _ _ _ h => h) (Or.inl ⟨by rfl, ?_⟩) ?_ ?_
    rotate_left
    ·intro w'
     go_simp
     with_reducible rfl
    rotate_left
    ·simp only [Act.put, sA, sB, sC, i64_w, i32_w]
     rfl
    refine take_ (i := 1) (N := some 15) (v := ?_) (a' := ?_) #[true, true, false, false, false, false, false, false, false, false, false] rfl rfl (take_ofW HT_.out HW_.out (by kernel_rfl)) (fun _ _ _ h => h) (Or.inl ⟨by rfl, ?_⟩) hHeld ?_ ?_
    rotate_left
    ·rintro w' ⟨s0, s1, s2, s3, s4, s5, s6⟩
     go_simp
     with_reducible rfl
    rotate_left
    ·simp only [Act.put, sA, sB, sC, i64_w, i32_w]
     rfl
    refine take_ (i := 3) (N := some 17) (v := ?_) (a' := ?_) #[true, true, false, true, false, false, false, false, false, false, false] rfl rfl (take_ofW HT_.out HW_.out (by kernel_rfl)) (fun _ _ _ h => h) (Or.inl ⟨by rfl, ?_⟩) hHeld ?_ ?_
    rotate_left
    ·rintro w' ⟨s0, s1, s2, s3, s4, s5, s6⟩
     go_simp
     with_reducible rfl
    rotate_left
    ·simp only [Act.put, sA, sB, sC, i64_w, i32_w]
     rfl
    refine one_ (i := 2) (N := some 16) #[true, true, true, true, false, false, false, false, false, false, false] rfl rfl (one_of HT_.out (by kernel_rfl)) (by decide) (fun K hK => ?_)
    refine goes_ Try.func83 (by kernel_rfl) rfl #[.int .i64 a0, .agg #[.int .i64 a1_0, .int .i64 a1_1, .int .i64 a1_2]] (by rfl) rfl rfl (by (try simp only [List.map_toArray, List.map_cons, List.map_nil]); first | done | rfl | (simp only [List.length_drop, List.length_take]; rfl)) ?_
    with_reducible refine (impl_latticeMats.calls k a0 a1_0 a1_1 a1_2 t544 _ A6.out).mono ?_
    rintro e w27 ⟨v545, rfl, ho0, hb⟩
    refine ⟨_, rfl, ?_⟩
    have n0_ := Aside0.mk (Kd.R_lower (Kd.R_newB ho0 (g := gb542) (o := .cells #[.int .i64 a2_0, .int .i64 a2_1, .int .i64 a2_2, .int .i64 a2_3] 33 (0, 0)) (bkp BK542)) (bsz2 HB GE541 GE542))
    have n1_ := Aside0.mk (bbl BK541 hb)
    have n2_ := Aside0.mk (bbl BK542 hb)
    have n3_ := Aside0.mk (bst2 HB GE541 GE542 hb)
    clear BK541
    clear BK542
    clear HB
    have HO546 := n0_
    have BK541 := n1_
    have BK542 := n2_
    have HB := n3_
    clear n0_ n1_ n2_ n3_
    (try clear hb)
    (try clear hb2)
    (try clear hk)
    (try clear hi)
    (try clear ho0)
    obtain ⟨Ao28, co28, eo28⟩ := Kd.R_slice HO546.out
    (first | subst eo28 | (injection eo28 with f1_ f2_ f3_; have f4_ := f1_.symm; have f5_ := f3_.symm; clear f1_ f2_ f3_; subst f4_; subst f5_))
    refine hK.out _ _ ⟨bcl BK541 0, bcl BK541 1, bcl BK541 2, bcl BK542 0, bcl BK542 1, bcl BK542 2, bcl BK542 3⟩ (fun hHeld => ?_)
    clear hK K
    refine norm_ (a' := ?_) ?_ ?_
    rotate_left
    ·show Act.put _ (some 16) _ = _
     simp only [Act.put, sA, sB, sC, i64_w, i32_w]
     rfl
    refine one_ (i := 4) (N := some 18) #[true, true, true, true, true, false, false, false, false, false, false] rfl rfl (one_of HT_.out (by kernel_rfl)) (by decide) (fun K hK => ?_)
    refine goes_ Try.func82 (by kernel_rfl) rfl #[.slice Ao28 t544.length co28, .agg #[.int .i64 a2_0, .int .i64 a2_1, .int .i64 a2_2, .int .i64 a2_3]] (by rfl) rfl rfl (by (try simp only [List.map_toArray, List.map_cons, List.map_nil]); first | done | rfl | (simp only [List.length_drop, List.length_take]; rfl)) ?_
    with_reducible refine (impl_Mat_82.calls k _ _ t544 a2_0 a2_1 a2_2 a2_3 true _ ?side1 ?side2 A7.out).mono ?_
    (case side1 => repeat (first | exact (Kd.R_reads' HO546.out).2.2 | (with_reducible refine Kd.C_alloc ?_ _) | (with_reducible refine Kd.C_drewN ?_ _) | (with_reducible refine Kd.C_drew ?_)))
    (case side2 => exact (Kd.R_reads' HO546.out).2.1)
    rintro e w29 ⟨rfl, hb⟩
    refine ⟨_, rfl, ?_⟩
    have n0_ := Aside0.mk (Kd.R_below (by (with_reducible repeat (first | apply Kd.R_alloc | apply Kd.R_drewN | apply Kd.R_drew)); exact HO546.out) hb)
    have n1_ := Aside0.mk (bbl BK541 hb)
    have n2_ := Aside0.mk (bbl BK542 hb)
    have n3_ := Aside0.mk (bst2 HB GE541 GE542 hb)
    clear HO546
    clear BK541
    clear BK542
    clear HB
    have HO546 := n0_
    have BK541 := n1_
    have BK542 := n2_
    have HB := n3_
    clear n0_ n1_ n2_ n3_
    (try clear hb)
    (try clear hb2)
    (try clear hk)
    (try clear hi)
    refine hK.out _ _ ⟨bcl BK541 0, bcl BK541 1, bcl BK541 2, bcl BK542 0, bcl BK542 1, bcl BK542 2, bcl BK542 3⟩ (fun hHeld => ?_)
    clear hK K
    refine norm_ (a' := ?_) ?_ ?_
    rotate_left
    ·show Act.put _ (some 18) _ = _
     simp only [Act.put, sA, sB, sC, i64_w, i32_w]
     rfl
    refine pure_ (i := 5) (N := some 19) (v := ?_) (a' := ?_) #[true, true, true, true, true, true, false, false, false, false, false] rfl rfl (any_of HT_.out (by kernel_rfl)) (fun _ _ _ h => h) (Or.inl ⟨by rfl, ?_⟩) ?_ ?_
    rotate_left
    ·intro w'
     go_simp
     with_reducible rfl
    rotate_left
    ·simp only [Act.put, sA, sB, sC, i64_w, i32_w]
     rfl
    refine pure_ (i := 6) (N := some 20) (v := ?_) (a' := ?_) #[true, true, true, true, true, true, true, false, false, false, false] rfl rfl (any_of HT_.out (by kernel_rfl)) (fun _ _ _ h => h) (Or.inl ⟨by rfl, ?_⟩) ?_ ?_
    rotate_left
    ·intro w'
     go_simp
     with_reducible rfl
    rotate_left
    ·simp only [Act.put, sA, sB, sC, i64_w, i32_w]
     rfl
    refine take_ (i := 7) (N := some 21) (v := ?_) (a' := ?_) #[true, true, true, true, true, true, true, true, false, false, false] rfl rfl (take_ofW HT_.out HW_.out (by kernel_rfl)) (fun _ _ _ h => h) (Or.inl ⟨by rfl, ?_⟩) hHeld ?_ ?_
    rotate_left
    ·rintro w' ⟨s0, s1, s2, s3, s4, s5, s6⟩
     go_simp
     with_reducible rfl
    rotate_left
    ·simp only [Act.put, sA, sB, sC, i64_w, i32_w]
     rfl
    refine one_ (i := 8) (N := some 22) #[true, true, true, true, true, true, true, true, true, false, false] rfl rfl (one_of HT_.out (by kernel_rfl)) (by decide) (fun K hK => ?_)
    refine goes_ Try.func92 (by kernel_rfl) rfl #[.agg #[.int .i64 a2_0, .int .i64 a2_1, .int .i64 a2_2, .int .i64 a2_3]] (by rfl) rfl rfl (by (try simp only [List.map_toArray, List.map_cons, List.map_nil]); first | done | rfl | (simp only [List.length_drop, List.length_take]; rfl)) ?_
    with_reducible refine (impl_Mat_isReflection.calls k a2_0 a2_1 a2_2 a2_3 false _ A9.out).mono ?_
    rintro e w30 ⟨rfl, hb⟩
    refine ⟨_, rfl, ?_⟩
    have n0_ := Aside0.mk (Kd.R_below (by (with_reducible repeat (first | apply Kd.R_alloc | apply Kd.R_drewN | apply Kd.R_drew)); exact HO546.out) hb)
    have n1_ := Aside0.mk (bbl BK541 hb)
    have n2_ := Aside0.mk (bbl BK542 hb)
    have n3_ := Aside0.mk (bst2 HB GE541 GE542 hb)
    clear HO546
    clear BK541
    clear BK542
    clear HB
    have HO546 := n0_
    have BK541 := n1_
    have BK542 := n2_
    have HB := n3_
    clear n0_ n1_ n2_ n3_
    (try clear hb)
    (try clear hb2)
    (try clear hk)
    (try clear hi)
    refine hK.out _ _ ⟨bcl BK541 0, bcl BK541 1, bcl BK541 2, bcl BK542 0, bcl BK542 1, bcl BK542 2, bcl BK542 3⟩ (fun hHeld => ?_)
    clear hK K
    refine norm_ (a' := ?_) ?_ ?_
    rotate_left
    ·show Act.put _ (some 22) _ = _
     simp only [Act.put, sA, sB, sC, i64_w, i32_w]
     rfl
    refine pure_ (i := 9) (N := some 23) (v := ?_) (a' := ?_) #[true, true, true, true, true, true, true, true, true, true, false] rfl rfl (any_of HT_.out (by kernel_rfl)) (fun _ _ _ h => h) (Or.inl ⟨by rfl, ?_⟩) ?_ ?_
    rotate_left
    ·intro w'
     go_simp
     with_reducible rfl
    rotate_left
    ·simp only [Act.put, sA, sB, sC, i64_w, i32_w]
     rfl
    refine pure_ (i := 10) (N := some 24) (v := ?_) (a' := ?_) #[true, true, true, true, true, true, true, true, true, true, true] rfl rfl (any_of HT_.out (by kernel_rfl)) (fun _ _ _ h => h) (Or.inl ⟨by rfl, ?_⟩) ?_ ?_
    rotate_left
    ·intro w'
     go_simp
     with_reducible rfl
    rotate_left
    ·simp only [Act.put, sA, sB, sC, i64_w, i32_w]
     rfl
    refine done_ (done_of HT_.out (by kernel_rfl)) ?_
    try go_wp2
    go_ret
    exact ⟨by first | rfl | (simp [errW_none, errW_some] <;> rfl) | (simp [*, errW_none, errW_some] <;> rfl), bbw2 HB GE541 GE542⟩
  ·replace c8 := Bool.eq_false_iff.mpr c8
   subst c8
   have H1 : (some 2) = some r := by rw [if_neg (show ¬ (false = true) by decide)] at H; first | done | exact H
   clear H
   have H := H1
   clear H1
   obtain rfl := Option.some.inj H
   go_enter Try.func53, Try.ntmps53
   try go_wp2_with (first | ((with_reducible refine gate_dst (N := 4) rfl ?_); refine box_event ?hg (N := 4) ?hd (cs := #[.int .i64 a1_0, .int .i64 a1_1, .int .i64 a1_2]) (t := 31) ?hr ?_; (case hd => rfl); (case hg => rfl); (case hr => first | (go_simp; done) | (go_simp; rfl)); intro gb541 hg w31 hbox hb; have n0_ := Aside0.mk (bst0 HB hb); have n1_ := Aside0.mk (hbox); have n2_ := ngw0 hg HB; have n3_ := n2_; clear HB; have HB := n0_; have BK541 := n1_; have GW541 := n2_; have GE541 := n3_; clear n0_ n1_ n2_ n3_; clear hb hbox hg) | ((with_reducible refine gate_dst (N := 5) rfl ?_); refine box_event ?hg (N := 5) ?hd (cs := #[.int .i64 a2_0, .int .i64 a2_1, .int .i64 a2_2, .int .i64 a2_3]) (t := 33) ?hr ?_; (case hd => rfl); (case hg => rfl); (case hr => first | (go_simp; done) | (go_simp; rfl)); intro gb542 hg w32 hbox hb; have n0_ := Aside0.mk (bbl BK541 hb); have n1_ := Aside0.mk (bst1 HB GE541 hb); have n2_ := Aside0.mk (hbox); have n3_ := ngw1 hg HB GE541; have n4_ := n3_; have n5_ := nlt hg BK541; have n6_ := nsy (nlt hg BK541); clear BK541; clear HB; have BK541 := n0_; have HB := n1_; have BK542 := n2_; have GW542 := n3_; have GE542 := n4_; have NB541_542 := n5_; have NB542_541 := n6_; clear n0_ n1_ n2_ n3_ n4_ n5_ n6_; clear hb hbox hg; have hnb33 := NB541_542.out; have hnc33 := NB542_541.out; have hcz34_0 : w32.cell? ⟨gb541, 0, none⟩ = some (.int .i64 a1_0) := bcl BK541 0; have hcz34_1 : w32.cell? ⟨gb541, 1, none⟩ = some (.int .i64 a1_1) := bcl BK541 1; have hcz34_2 : w32.cell? ⟨gb541, 2, none⟩ = some (.int .i64 a1_2) := bcl BK541 2; have hfz34_0 := blk_frozen BK541.out 0; have hfz34_1 := blk_frozen BK541.out 1; have hfz34_2 := blk_frozen BK541.out 2) | ((with_reducible refine gate_callee (f := 43) rfl ?_); refine goesL_ (some 10) rfl rfl Try.func43 (by kernel_rfl) rfl #[.int .i64 a0, .agg #[.int .i64 a1_0, .int .i64 a1_1, .int .i64 a1_2]] rfl (by (try simp only [List.map_toArray, List.map_cons, List.map_nil]); first | done | rfl | (simp only [List.length_drop, List.length_take]; rfl)) ?_; (with_reducible refine (impl_frameCode.calls a0 a1_0 a1_1 a1_2 t543 _ A4.out).mono ?_); rintro e w35 ⟨rfl, hb⟩; refine ⟨_, rfl, ?_⟩; have n0_ := Aside0.mk (bbl BK541 hb); have n1_ := Aside0.mk (bbl BK542 hb); have n2_ := Aside0.mk (bst2 HB GE541 GE542 hb); clear BK541; clear BK542; clear HB; have BK541 := n0_; have BK542 := n1_; have HB := n2_; clear n0_ n1_ n2_; (try clear hb); (try clear hb2); (try clear hk); (try clear hi)))
   have n0_ := Aside0.mk (blk_drew BK541.out)
   have n1_ := Aside0.mk (blk_drew BK542.out)
   have n2_ := Aside0.mk (below_drew1 HB.out)
   clear BK541
   clear BK542
   clear HB
   have BK541 := n0_
   have BK542 := n1_
   have HB := n2_
   clear n0_ n1_ n2_
   refine start_ (n := 11) (S := fun w' => w'.cell? ⟨gb541, 0, none⟩ = some (.int .i64 a1_0) ∧ w'.cell? ⟨gb541, 1, none⟩ = some (.int .i64 a1_1) ∧ w'.cell? ⟨gb541, 2, none⟩ = some (.int .i64 a1_2) ∧ w'.cell? ⟨gb542, 0, none⟩ = some (.int .i64 a2_0) ∧ w'.cell? ⟨gb542, 1, none⟩ = some (.int .i64 a2_1) ∧ w'.cell? ⟨gb542, 2, none⟩ = some (.int .i64 a2_2) ∧ w'.cell? ⟨gb542, 3, none⟩ = some (.int .i64 a2_3)) (ds := []) #[false, false, false, false, false, false, false, false, false, false, false] (by kernel_rfl) rfl rfl ⟨bcl BK541 0, bcl BK541 1, bcl BK541 2, bcl BK542 0, bcl BK542 1, bcl BK542 2, bcl BK542 3⟩ (fun hHeld => ?_); refine with_tabW impl_mirrorCode.tab4 impl_mirrorCode.bits4 (fun HT_ HW_ => ?_)
   generalize w35.drew = w36 at BK541 BK542 HB hHeld ⊢
   refine pure_ (i := 0) (N := some 14) (v := ?_) (a' := ?_) #[true, false, false, false, false, false, false, false, false, false, false] rfl rfl (any_of HT_.out (by kernel_rfl)) (fun _ _ _ h => h) (Or.inl ⟨by rfl, ?_⟩) ?_ ?_
   rotate_left
   ·intro w'
    go_simp
    with_reducible rfl
   rotate_left
   ·simp only [Act.put, sA, sB, sC, i64_w, i32_w]
    rfl
   refine take_ (i := 1) (N := some 15) (v := ?_) (a' := ?_) #[true, true, false, false, false, false, false, false, false, false, false] rfl rfl (take_ofW HT_.out HW_.out (by kernel_rfl)) (fun _ _ _ h => h) (Or.inl ⟨by rfl, ?_⟩) hHeld ?_ ?_
   rotate_left
   ·rintro w' ⟨s0, s1, s2, s3, s4, s5, s6⟩
    go_simp
    with_reducible rfl
   rotate_left
   ·simp only [Act.put, sA, sB, sC, i64_w, i32_w]
    rfl
   refine take_ (i := 3) (N := some 17) (v := ?_) (a' := ?_) #[true, true, false, true, false, false, false, false, false, false, false] rfl rfl (take_ofW HT_.out HW_.out (by kernel_rfl)) (fun _ _ _ h => h) (Or.inl ⟨by rfl, ?_⟩) hHeld ?_ ?_
   rotate_left
   ·rintro w' ⟨s0, s1, s2, s3, s4, s5, s6⟩
    go_simp
    with_reducible rfl
   rotate_left
   ·simp only [Act.put, sA, sB, sC, i64_w, i32_w]
    rfl
   refine one_ (i := 2) (N := some 16) #[true, true, true, true, false, false, false, false, false, false, false] rfl rfl (one_of HT_.out (by kernel_rfl)) (by decide) (fun K hK => ?_)
   refine goes_ Try.func83 (by kernel_rfl) rfl #[.int .i64 a0, .agg #[.int .i64 a1_0, .int .i64 a1_1, .int .i64 a1_2]] (by rfl) rfl rfl (by (try simp only [List.map_toArray, List.map_cons, List.map_nil]); first | done | rfl | (simp only [List.length_drop, List.length_take]; rfl)) ?_
   with_reducible refine (impl_latticeMats.calls k a0 a1_0 a1_1 a1_2 t544 _ A6.out).mono ?_
   rintro e w37 ⟨v545, rfl, ho0, hb⟩
   refine ⟨_, rfl, ?_⟩
   have n0_ := Aside0.mk (Kd.R_lower (Kd.R_newB ho0 (g := gb542) (o := .cells #[.int .i64 a2_0, .int .i64 a2_1, .int .i64 a2_2, .int .i64 a2_3] 33 (0, 0)) (bkp BK542)) (bsz2 HB GE541 GE542))
   have n1_ := Aside0.mk (bbl BK541 hb)
   have n2_ := Aside0.mk (bbl BK542 hb)
   have n3_ := Aside0.mk (bst2 HB GE541 GE542 hb)
   clear BK541
   clear BK542
   clear HB
   have HO546 := n0_
   have BK541 := n1_
   have BK542 := n2_
   have HB := n3_
   clear n0_ n1_ n2_ n3_
   (try clear hb)
   (try clear hb2)
   (try clear hk)
   (try clear hi)
   (try clear ho0)
   obtain ⟨Ao38, co38, eo38⟩ := Kd.R_slice HO546.out
   (first | subst eo38 | (injection eo38 with f1_ f2_ f3_; have f4_ := f1_.symm; have f5_ := f3_.symm; clear f1_ f2_ f3_; subst f4_; subst f5_))
   refine hK.out _ _ ⟨bcl BK541 0, bcl BK541 1, bcl BK541 2, bcl BK542 0, bcl BK542 1, bcl BK542 2, bcl BK542 3⟩ (fun hHeld => ?_)
   clear hK K
   refine norm_ (a' := ?_) ?_ ?_
   rotate_left
   ·show Act.put _ (some 16) _ = _
    simp only [Act.put, sA, sB, sC, i64_w, i32_w]
    rfl
   refine one_ (i := 4) (N := some 18) #[true, true, true, true, true, false, false, false, false, false, false] rfl rfl (one_of HT_.out (by kernel_rfl)) (by decide) (fun K hK => ?_)
   refine goes_ Try.func82 (by kernel_rfl) rfl #[.slice Ao38 t544.length co38, .agg #[.int .i64 a2_0, .int .i64 a2_1, .int .i64 a2_2, .int .i64 a2_3]] (by rfl) rfl rfl (by (try simp only [List.map_toArray, List.map_cons, List.map_nil]); first | done | rfl | (simp only [List.length_drop, List.length_take]; rfl)) ?_
   with_reducible refine (impl_Mat_82.calls k _ _ t544 a2_0 a2_1 a2_2 a2_3 false _ ?side1 ?side2 A7.out).mono ?_
   (case side1 => repeat (first | exact (Kd.R_reads' HO546.out).2.2 | (with_reducible refine Kd.C_alloc ?_ _) | (with_reducible refine Kd.C_drewN ?_ _) | (with_reducible refine Kd.C_drew ?_)))
   (case side2 => exact (Kd.R_reads' HO546.out).2.1)
   rintro e w39 ⟨rfl, hb⟩
   refine ⟨_, rfl, ?_⟩
   have n0_ := Aside0.mk (Kd.R_below (by (with_reducible repeat (first | apply Kd.R_alloc | apply Kd.R_drewN | apply Kd.R_drew)); exact HO546.out) hb)
   have n1_ := Aside0.mk (bbl BK541 hb)
   have n2_ := Aside0.mk (bbl BK542 hb)
   have n3_ := Aside0.mk (bst2 HB GE541 GE542 hb)
   clear HO546
   clear BK541
   clear BK542
   clear HB
   have HO546 := n0_
   have BK541 := n1_
   have BK542 := n2_
   have HB := n3_
   clear n0_ n1_ n2_ n3_
   (try clear hb)
   (try clear hb2)
   (try clear hk)
   (try clear hi)
   refine hK.out _ _ ⟨bcl BK541 0, bcl BK541 1, bcl BK541 2, bcl BK542 0, bcl BK542 1, bcl BK542 2, bcl BK542 3⟩ (fun hHeld => ?_)
   clear hK K
   refine norm_ (a' := ?_) ?_ ?_
   rotate_left
   ·show Act.put _ (some 18) _ = _
    simp only [Act.put, sA, sB, sC, i64_w, i32_w]
    rfl
   refine pure_ (i := 5) (N := some 19) (v := ?_) (a' := ?_) #[true, true, true, true, true, true, false, false, false, false, false] rfl rfl (any_of HT_.out (by kernel_rfl)) (fun _ _ _ h => h) (Or.inl ⟨by rfl, ?_⟩) ?_ ?_
   rotate_left
   ·intro w'
    go_simp
    with_reducible rfl
   rotate_left
   ·simp only [Act.put, sA, sB, sC, i64_w, i32_w]
    rfl
   refine pure_ (i := 6) (N := some 20) (v := ?_) (a' := ?_) #[true, true, true, true, true, true, true, false, false, false, false] rfl rfl (any_of HT_.out (by kernel_rfl)) (fun _ _ _ h => h) (Or.inl ⟨by rfl, ?_⟩) ?_ ?_
   rotate_left
   ·intro w'
    go_simp
    with_reducible rfl
   rotate_left
   ·simp only [Act.put, sA, sB, sC, i64_w, i32_w]
    rfl
   refine pure_ (i := 7) (N := some 21) (v := undef) (a' := ?_) #[true, true, true, true, true, true, true, true, false, false, false] rfl rfl (any_of HT_.out (by kernel_rfl)) (fun _ _ _ h => h) (Or.inr ⟨by rfl, rfl⟩) ?_ ?_
   rotate_left
   ·simp only [Act.put, sA, sB, sC, i64_w, i32_w]
    rfl
   refine pure_ (i := 8) (N := some 22) (v := undef) (a' := ?_) #[true, true, true, true, true, true, true, true, true, false, false] rfl rfl (any_of HT_.out (by kernel_rfl)) (fun _ _ _ h => h) (Or.inr ⟨by rfl, rfl⟩) ?_ ?_
   rotate_left
   ·simp only [Act.put, sA, sB, sC, i64_w, i32_w]
    rfl
   refine pure_ (i := 9) (N := some 23) (v := undef) (a' := ?_) #[true, true, true, true, true, true, true, true, true, true, false] rfl rfl (any_of HT_.out (by kernel_rfl)) (fun _ _ _ h => h) (Or.inr ⟨by rfl, rfl⟩) ?_ ?_
   rotate_left
   ·simp only [Act.put, sA, sB, sC, i64_w, i32_w]
    rfl
   refine pure_ (i := 10) (N := some 24) (v := ?_) (a' := ?_) #[true, true, true, true, true, true, true, true, true, true, true] rfl rfl (any_of HT_.out (by kernel_rfl)) (fun _ _ _ h => h) (Or.inl ⟨by rfl, ?_⟩) ?_ ?_
   rotate_left
   ·intro w'
    go_simp
    with_reducible rfl
   rotate_left
   ·simp only [Act.put, sA, sB, sC, i64_w, i32_w]
    rfl
   refine done_ (done_of HT_.out (by kernel_rfl)) ?_
   try go_wp2
   go_ret
   exact ⟨by first | rfl | (simp [errW_none, errW_some] <;> rfl) | (simp [*, errW_none, errW_some] <;> rfl), bbw2 HB GE541 GE542⟩
 ·rw [if_neg c5] at H
  have c5b0 : (t543 == 0) = false := beq_eq_false_iff_ne.mpr c5
  have c5b1 : (t543 != 0) = true := bne_iff_ne.mpr c5
  obtain rfl := Option.some.inj H
  go_enter Try.func53, Try.ntmps53
  go_wp2_with (first | ((with_reducible refine gate_dst (N := 4) rfl ?_); refine box_event ?hg (N := 4) ?hd (cs := #[.int .i64 a1_0, .int .i64 a1_1, .int .i64 a1_2]) (t := 31) ?hr ?_; (case hd => rfl); (case hg => rfl); (case hr => first | (go_simp; done) | (go_simp; rfl)); intro gb541 hg w40 hbox hb; have n0_ := Aside0.mk (bst0 HB hb); have n1_ := Aside0.mk (hbox); have n2_ := ngw0 hg HB; have n3_ := n2_; clear HB; have HB := n0_; have BK541 := n1_; have GW541 := n2_; have GE541 := n3_; clear n0_ n1_ n2_ n3_; clear hb hbox hg) | ((with_reducible refine gate_dst (N := 5) rfl ?_); refine box_event ?hg (N := 5) ?hd (cs := #[.int .i64 a2_0, .int .i64 a2_1, .int .i64 a2_2, .int .i64 a2_3]) (t := 33) ?hr ?_; (case hd => rfl); (case hg => rfl); (case hr => first | (go_simp; done) | (go_simp; rfl)); intro gb542 hg w41 hbox hb; have n0_ := Aside0.mk (bbl BK541 hb); have n1_ := Aside0.mk (bst1 HB GE541 hb); have n2_ := Aside0.mk (hbox); have n3_ := ngw1 hg HB GE541; have n4_ := n3_; have n5_ := nlt hg BK541; have n6_ := nsy (nlt hg BK541); clear BK541; clear HB; have BK541 := n0_; have HB := n1_; have BK542 := n2_; have GW542 := n3_; have GE542 := n4_; have NB541_542 := n5_; have NB542_541 := n6_; clear n0_ n1_ n2_ n3_ n4_ n5_ n6_; clear hb hbox hg; have hnb42 := NB541_542.out; have hnc42 := NB542_541.out; have hcz43_0 : w41.cell? ⟨gb541, 0, none⟩ = some (.int .i64 a1_0) := bcl BK541 0; have hcz43_1 : w41.cell? ⟨gb541, 1, none⟩ = some (.int .i64 a1_1) := bcl BK541 1; have hcz43_2 : w41.cell? ⟨gb541, 2, none⟩ = some (.int .i64 a1_2) := bcl BK541 2; have hfz43_0 := blk_frozen BK541.out 0; have hfz43_1 := blk_frozen BK541.out 1; have hfz43_2 := blk_frozen BK541.out 2) | ((with_reducible refine gate_callee (f := 43) rfl ?_); refine goesL_ (some 10) rfl rfl Try.func43 (by kernel_rfl) rfl #[.int .i64 a0, .agg #[.int .i64 a1_0, .int .i64 a1_1, .int .i64 a1_2]] rfl (by (try simp only [List.map_toArray, List.map_cons, List.map_nil]); first | done | rfl | (simp only [List.length_drop, List.length_take]; rfl)) ?_; (with_reducible refine (impl_frameCode.calls a0 a1_0 a1_1 a1_2 t543 _ A4.out).mono ?_); rintro e w44 ⟨rfl, hb⟩; refine ⟨_, rfl, ?_⟩; have n0_ := Aside0.mk (bbl BK541 hb); have n1_ := Aside0.mk (bbl BK542 hb); have n2_ := Aside0.mk (bst2 HB GE541 GE542 hb); clear BK541; clear BK542; clear HB; have BK541 := n0_; have BK542 := n1_; have HB := n2_; clear n0_ n1_ n2_; (try clear hb); (try clear hb2); (try clear hk); (try clear hi)))
  go_ret
  exact ⟨by first | rfl | (simp [errW_none, errW_some] <;> rfl) | (simp [*, errW_none, errW_some] <;> rfl), bbw2 HB GE541 GE542⟩

/-! ### impl_Lattice_multipleIn: function 54 -/
def impl_Lattice_multipleIn.l0 : Nat → Int → Int → Int → Int → Int → Int → Int → Option (Int × Int)
 | 0, _, _, _, _, _, _, _ => none
 | k + 1, x553000, x553001, x553002, x554000, x554001, x556000, x556001 => (impl_Lattice_has.f x553000 x553001 x553002 x556000 x556001).bind fun t556 => (if t556 = true then (some (x556000, x556001)) else ((impl_Vec_add.f x556000 x556001 x554000 x554001).bind fun bt557 => (impl_Lattice_multipleIn.l0 k x553000 x553001 x553002 x554000 x554001 bt557.1 bt557.2)))
def impl_Lattice_multipleIn.f (k : Nat) (a0_0 : Int) (a0_1 : Int) (a0_2 : Int) (a1_0 : Int) (a1_1 : Int) : Option (Int × Int) := impl_Lattice_multipleIn.l0 k a0_0 a0_1 a0_2 a1_0 a1_1 a1_0 a1_1
set_option maxHeartbeats 8000000 in
set_option maxRecDepth 100000 in
theorem impl_Lattice_multipleIn.calls (k : Nat) (a0_0 : Int) (a0_1 : Int) (a0_2 : Int) (a1_0 : Int) (a1_1 : Int) (r1 : Int) (r2 : Int) (w : World) (h : impl_Lattice_multipleIn.f k a0_0 a0_1 a0_2 a1_0 a1_1 = some (r1, r2)) :
  Calls Try.prog 54 #[.agg #[.int .i64 a0_0, .int .i64 a0_1, .int .i64 a0_2], .agg #[.int .i64 a1_0, .int .i64 a1_1]] w fun e w' => e = .returned (.agg #[.int .i64 r1, .int .i64 r2]) ∧ Below w.heap.size w w' := by
 have hu31 := Try.underlying31
 have hu34 := Try.underlying34
 have HB := Aside0.mk (Below.refl w.heap.size w)
 have H : (impl_Lattice_multipleIn.l0 k a0_0 a0_1 a0_2 a1_0 a1_1 a1_0 a1_1) = some (r1, r2) := h
 clear h
 have H' := Aside0.mk H
 clear H
 go_enter Try.func54, Try.ntmps54
 go_wp2_with (first | ((with_reducible refine gate_dst (N := 2) rfl ?_); refine box_event ?hg (N := 2) ?hd (cs := #[.int .i64 a0_0, .int .i64 a0_1, .int .i64 a0_2]) (t := 31) ?hr ?_; (case hd => rfl); (case hg => rfl); (case hr => first | (go_simp; done) | (go_simp; rfl)); intro gb552 hg w3 hbox hb; have n0_ := Aside0.mk (bst0 HB hb); have n1_ := Aside0.mk (hbox); have n2_ := ngw0 hg HB; have n3_ := n2_; clear HB; have HB := n0_; have BK552 := n1_; have GW552 := n2_; have GE552 := n3_; clear n0_ n1_ n2_ n3_; clear hb hbox hg) | ((with_reducible refine gate_dst (N := 3) rfl ?_); refine box_event ?hg (N := 3) ?hd (cs := #[.int .i64 a1_0, .int .i64 a1_1]) (t := 34) ?hr ?_; (case hd => rfl); (case hg => rfl); (case hr => first | (go_simp; done) | (go_simp; rfl)); intro gb553 hg w4 hbox hb; have n0_ := Aside0.mk (bbl BK552 hb); have n1_ := Aside0.mk (bst1 HB GE552 hb); have n2_ := Aside0.mk (hbox); have n3_ := ngw1 hg HB GE552; have n4_ := n3_; have n5_ := nlt hg BK552; have n6_ := nsy (nlt hg BK552); clear BK552; clear HB; have BK552 := n0_; have HB := n1_; have BK553 := n2_; have GW553 := n3_; have GE553 := n4_; have NB552_553 := n5_; have NB553_552 := n6_; clear n0_ n1_ n2_ n3_ n4_ n5_ n6_; clear hb hbox hg) | ((with_reducible refine gate_dst (N := 4) rfl ?_); refine box_event ?hg (N := 4) ?hd (cs := #[.int .i64 0, .int .i64 0]) (t := 34) ?hr ?_; (case hd => rfl); (case hg => rfl); (case hr => first | (go_simp; done) | (go_simp; rfl)); intro gb554 hg w5 hbox hb; have n0_ := Aside0.mk (bbl BK552 hb); have n1_ := Aside0.mk (bbl BK553 hb); have n2_ := Aside0.mk (bst2 HB GE552 GE553 hb); have n3_ := Aside0.mk (hbox); have n4_ := ngw2 hg HB GE552 GE553; have n5_ := n4_; have n6_ := nlt hg BK552; have n7_ := nsy (nlt hg BK552); have n8_ := nlt hg BK553; have n9_ := nsy (nlt hg BK553); clear BK552; clear BK553; clear HB; have BK552 := n0_; have BK553 := n1_; have HB := n2_; have BK554 := n3_; have GW554 := n4_; have GE554 := n5_; have NB552_554 := n6_; have NB554_552 := n7_; have NB553_554 := n8_; have NB554_553 := n9_; clear n0_ n1_ n2_ n3_ n4_ n5_ n6_ n7_ n8_ n9_; clear hb hbox hg; have hnb6 := NB553_552.out; have hnc6 := NB552_553.out; have hnb7 := NB553_554.out; have hnc7 := NB554_553.out; have hcz8_0 : w5.cell? ⟨gb553, 0, none⟩ = some (.int .i64 a1_0) := bcl BK553 0; have hcz8_1 : w5.cell? ⟨gb553, 1, none⟩ = some (.int .i64 a1_1) := bcl BK553 1; have hfz8_0 := blk_frozen BK553.out 0; have hfz8_1 := blk_frozen BK553.out 1) | ((with_reducible refine gate_dst (N := 5) rfl ?_); refine box_event ?hg (N := 5) ?hd (cs := #[.int .i64 0, .int .i64 0]) (t := 34) ?hr ?_; (case hd => rfl); (case hg => rfl); (case hr => first | (go_simp; done) | (go_simp; rfl)); intro gb555 hg w9 hbox hb; have n0_ := Aside0.mk (bbl BK552 hb); have n1_ := Aside0.mk (bbl BK553 hb); have n2_ := Aside0.mk (bbl BK554 hb); have n3_ := Aside0.mk (bst3 HB GE552 GE553 GE554 hb); have n4_ := Aside0.mk (hbox); have n5_ := ngw3 hg HB GE552 GE553 GE554; have n6_ := n5_; have n7_ := nlt hg BK552; have n8_ := nsy (nlt hg BK552); have n9_ := nlt hg BK553; have n10_ := nsy (nlt hg BK553); have n11_ := nlt hg BK554; have n12_ := nsy (nlt hg BK554); clear BK552; clear BK553; clear BK554; clear HB; have BK552 := n0_; have BK553 := n1_; have BK554 := n2_; have HB := n3_; have BK555 := n4_; have GW555 := n5_; have GE555 := n6_; have NB552_555 := n7_; have NB555_552 := n8_; have NB553_555 := n9_; have NB555_553 := n10_; have NB554_555 := n11_; have NB555_554 := n12_; clear n0_ n1_ n2_ n3_ n4_ n5_ n6_ n7_ n8_ n9_ n10_ n11_ n12_; clear hb hbox hg; have hnb10 := NB555_552.out; have hnc10 := NB552_555.out; have hnb11 := NB555_553.out; have hnc11 := NB553_555.out; have hnb12 := NB555_554.out; have hnc12 := NB554_555.out; have hcz13_0 : w9.cell? ⟨gb555, 0, none⟩ = some (.int .i64 0) := bcl BK555 0; have hcz13_1 : w9.cell? ⟨gb555, 1, none⟩ = some (.int .i64 0) := bcl BK555 1; have hfz13_0 := blk_frozen BK555.out 0; have hfz13_1 := blk_frozen BK555.out 1))
 go_loopg [] k (fun kq w' => ∃ (x556000_1 : Int) (x556001_1 : Int), Aside0 (impl_Lattice_multipleIn.l0 kq a0_0 a0_1 a0_2 a1_0 a1_1 x556000_1 x556001_1 = some (r1, r2)) ∧ Aside0 (kq ≤ k) ∧ Aside0 (w'.heap[gb552]? = some (.cells #[.int .i64 a0_0, .int .i64 a0_1, .int .i64 a0_2] 31 (0, 0))) ∧ Aside0 (w'.heap[gb553]? = some (.cells #[.int .i64 a1_0, .int .i64 a1_1] 34 (0, 0))) ∧ Aside0 (w'.heap[gb554]? = some (.cells #[.int .i64 0, .int .i64 0] 34 (0, 0))) ∧ Aside0 (w'.heap[gb555]? = some (.cells #[.int .i64 x556000_1, .int .i64 x556001_1] 34 (0, 0))) ∧ Aside0 (Below w.heap.size w w'))
 case atStart => exact ⟨(a1_0), (a1_1), H', ⟨Nat.le_refl _⟩, ⟨by (with_reducible repeat (first | refine blk_drewN ?_ _ | refine blk_drew ?_ | refine blk_alloc ?_ _)); refine blk_far ?_ NB552_555.out _; (with_reducible repeat (first | refine blk_drewN ?_ _ | refine blk_drew ?_ | refine blk_alloc ?_ _)); refine blk_far ?_ NB552_555.out _; (with_reducible repeat (first | refine blk_drewN ?_ _ | refine blk_drew ?_ | refine blk_alloc ?_ _)); exact BK552.out⟩, ⟨by (with_reducible repeat (first | refine blk_drewN ?_ _ | refine blk_drew ?_ | refine blk_alloc ?_ _)); refine blk_far ?_ NB553_555.out _; (with_reducible repeat (first | refine blk_drewN ?_ _ | refine blk_drew ?_ | refine blk_alloc ?_ _)); refine blk_far ?_ NB553_555.out _; (with_reducible repeat (first | refine blk_drewN ?_ _ | refine blk_drew ?_ | refine blk_alloc ?_ _)); exact BK553.out⟩, ⟨by (with_reducible repeat (first | refine blk_drewN ?_ _ | refine blk_drew ?_ | refine blk_alloc ?_ _)); refine blk_far ?_ NB554_555.out _; (with_reducible repeat (first | refine blk_drewN ?_ _ | refine blk_drew ?_ | refine blk_alloc ?_ _)); refine blk_far ?_ NB554_555.out _; (with_reducible repeat (first | refine blk_drewN ?_ _ | refine blk_drew ?_ | refine blk_alloc ?_ _)); exact BK554.out⟩, ⟨by (with_reducible repeat (first | refine blk_drewN ?_ _ | refine blk_drew ?_ | refine blk_alloc ?_ _)); refine blk_put (cs := #[.int .i64 a1_0, .int .i64 0]) ?_ 1 _ rfl; (with_reducible repeat (first | refine blk_drewN ?_ _ | refine blk_drew ?_ | refine blk_alloc ?_ _)); refine blk_put (cs := #[.int .i64 0, .int .i64 0]) ?_ 0 _ rfl; (with_reducible repeat (first | refine blk_drewN ?_ _ | refine blk_drew ?_ | refine blk_alloc ?_ _)); exact BK555.out⟩, ⟨bbw4 HB GE552 GE553 GE554 GE555⟩⟩
 case round =>
  clear H'
  try clear c1
  try clear p2
  try clear c5
  try clear c6
  try clear c7
  try clear c10
  try clear c11
  try clear c12
  try clear hcz13_0
  try clear hcz13_1
  try clear hcz8_0
  try clear hcz8_1
  try clear hfz13_0
  try clear hfz13_1
  try clear hfz8_0
  try clear hfz8_1
  obtain ⟨x556000_1, x556001_1, HA, HK1, BK552, BK553, BK554, BK555, HB⟩ := hrel
  cases gk with
  | zero => exact absurd HA.out (by simp [impl_Lattice_multipleIn.l0])
  | succ k1 =>
   have H := HA.out
   clear HA
   simp only [impl_Lattice_multipleIn.l0] at H
   replace H := Option.bind_eq_some_iff.mp H
   obtain ⟨t556, A140, H⟩ := H
   replace H : (if t556 = true then (some (x556000_1, x556001_1)) else ((impl_Vec_add.f x556000_1 x556001_1 a1_0 a1_1).bind fun bt557 => (impl_Lattice_multipleIn.l0 k1 a0_0 a0_1 a0_2 a1_0 a1_1 bt557.1 bt557.2))) = some (r1, r2) := H
   have A14 := Aside0.mk A140
   clear A140
   by_cases c15 : t556 = true
   ·subst c15
    have H1 : (some (x556000_1, x556001_1)) = some (r1, r2) := by rw [if_pos rfl] at H; first | done | exact H
    clear H
    have H := H1
    clear H1
    simp only [Option.some.injEq, Prod.mk.injEq] at H
    obtain ⟨rfl, rfl⟩ := H
    have hnb16 := NB552_553.out
    have hnc16 := NB553_552.out
    have hnb17 := NB552_554.out
    have hnc17 := NB554_552.out
    have hnb18 := NB552_555.out
    have hnc18 := NB555_552.out
    have hcz19_0 : wr.cell? ⟨gb552, 0, none⟩ = some (.int .i64 a0_0) := bcl BK552 0
    have hcz19_1 : wr.cell? ⟨gb552, 1, none⟩ = some (.int .i64 a0_1) := bcl BK552 1
    have hcz19_2 : wr.cell? ⟨gb552, 2, none⟩ = some (.int .i64 a0_2) := bcl BK552 2
    have hfz19_0 := blk_frozen BK552.out 0
    have hfz19_1 := blk_frozen BK552.out 1
    have hfz19_2 := blk_frozen BK552.out 2
    have hnb20 := NB555_553.out
    have hnc20 := NB553_555.out
    have hnb21 := NB555_554.out
    have hnc21 := NB554_555.out
    have hcz22_0 : wr.cell? ⟨gb555, 0, none⟩ = some (.int .i64 x556000_1) := bcl BK555 0
    have hcz22_1 : wr.cell? ⟨gb555, 1, none⟩ = some (.int .i64 x556001_1) := bcl BK555 1
    have hfz22_0 := blk_frozen BK555.out 0
    have hfz22_1 := blk_frozen BK555.out 1
    go_wp2_with (first | ((with_reducible refine gate_callee (f := 93) rfl ?_); refine goesL_ (some 9) rfl rfl Try.func93 (by kernel_rfl) rfl #[.agg #[.int .i64 a0_0, .int .i64 a0_1, .int .i64 a0_2], .agg #[.int .i64 x556000_1, .int .i64 x556001_1]] rfl (by (try simp only [List.map_toArray, List.map_cons, List.map_nil]); first | done | rfl | (simp only [List.length_drop, List.length_take]; rfl)) ?_; (with_reducible refine (impl_Lattice_has.calls a0_0 a0_1 a0_2 x556000_1 x556001_1 true _ A14.out).mono ?_); rintro e w23 ⟨rfl, hb⟩; refine ⟨_, rfl, ?_⟩; have n0_ := Aside0.mk (bbl BK552 hb); have n1_ := Aside0.mk (bbl BK553 hb); have n2_ := Aside0.mk (bbl BK554 hb); have n3_ := Aside0.mk (bbl BK555 hb); have n4_ := Aside0.mk (bst4 HB GE552 GE553 GE554 GE555 hb); clear BK552; clear BK553; clear BK554; clear BK555; clear HB; have BK552 := n0_; have BK553 := n1_; have BK554 := n2_; have BK555 := n3_; have HB := n4_; clear n0_ n1_ n2_ n3_ n4_; (try clear hb); (try clear hb2); (try clear hk); (try clear hi); have hcz24_0 : w23.cell? ⟨gb555, 0, none⟩ = some (.int .i64 x556000_1) := bcl BK555 0; have hcz24_1 : w23.cell? ⟨gb555, 1, none⟩ = some (.int .i64 x556001_1) := bcl BK555 1; have hfz24_0 := blk_frozen BK555.out 0; have hfz24_1 := blk_frozen BK555.out 1; have hnb25 := NB554_553.out; have hnc25 := NB553_554.out; have hcz26_0 : w23.cell? ⟨gb554, 0, none⟩ = some (.int .i64 0) := bcl BK554 0; have hcz26_1 : w23.cell? ⟨gb554, 1, none⟩ = some (.int .i64 0) := bcl BK554 1; have hfz26_0 := blk_frozen BK554.out 0; have hfz26_1 := blk_frozen BK554.out 1))
    refine bodyPost_ret (results_cell_row rfl _ _ gb554 34 #[.int .i64 x556000_1, .int .i64 x556001_1] (0, 0) _ rfl (by (with_reducible repeat (first | refine blk_drewN ?_ _ | refine blk_drew ?_ | refine blk_alloc ?_ _)); refine blk_put (cs := #[.int .i64 x556000_1, .int .i64 0]) ?_ 1 _ rfl; (with_reducible repeat (first | refine blk_drewN ?_ _ | refine blk_drew ?_ | refine blk_alloc ?_ _)); refine blk_put (cs := #[.int .i64 0, .int .i64 0]) ?_ 0 _ rfl; (with_reducible repeat (first | refine blk_drewN ?_ _ | refine blk_drew ?_ | refine blk_alloc ?_ _)); exact BK554.out) Try.underlying34 rfl (by kernel_rfl)) rfl ?_
    exact ⟨by first | rfl | (simp [errW_none, errW_some] <;> rfl) | (simp [*, errW_none, errW_some] <;> rfl), bbw4 HB GE552 GE553 GE554 GE555⟩
   ·replace c15 := Bool.eq_false_iff.mpr c15
    subst c15
    have H1 : ((impl_Vec_add.f x556000_1 x556001_1 a1_0 a1_1).bind fun bt557 => (impl_Lattice_multipleIn.l0 k1 a0_0 a0_1 a0_2 a1_0 a1_1 bt557.1 bt557.2)) = some (r1, r2) := by rw [if_neg (show ¬ (false = true) by decide)] at H; first | done | exact H
    clear H
    have H := H1
    clear H1
    replace H := Option.bind_eq_some_iff.mp H
    obtain ⟨⟨t557, t558⟩, A270, H⟩ := H
    replace H : (impl_Lattice_multipleIn.l0 k1 a0_0 a0_1 a0_2 a1_0 a1_1 t557 t558) = some (r1, r2) := H
    have A27 := Aside0.mk A270
    clear A270
    have H' := Aside0.mk H
    clear H
    have hnb28 := NB552_553.out
    have hnc28 := NB553_552.out
    have hnb29 := NB552_554.out
    have hnc29 := NB554_552.out
    have hnb30 := NB552_555.out
    have hnc30 := NB555_552.out
    have hcz31_0 : wr.cell? ⟨gb552, 0, none⟩ = some (.int .i64 a0_0) := bcl BK552 0
    have hcz31_1 : wr.cell? ⟨gb552, 1, none⟩ = some (.int .i64 a0_1) := bcl BK552 1
    have hcz31_2 : wr.cell? ⟨gb552, 2, none⟩ = some (.int .i64 a0_2) := bcl BK552 2
    have hfz31_0 := blk_frozen BK552.out 0
    have hfz31_1 := blk_frozen BK552.out 1
    have hfz31_2 := blk_frozen BK552.out 2
    have hnb32 := NB555_553.out
    have hnc32 := NB553_555.out
    have hnb33 := NB555_554.out
    have hnc33 := NB554_555.out
    have hcz34_0 : wr.cell? ⟨gb555, 0, none⟩ = some (.int .i64 x556000_1) := bcl BK555 0
    have hcz34_1 : wr.cell? ⟨gb555, 1, none⟩ = some (.int .i64 x556001_1) := bcl BK555 1
    have hfz34_0 := blk_frozen BK555.out 0
    have hfz34_1 := blk_frozen BK555.out 1
    go_wp2_with (first | ((with_reducible refine gate_callee (f := 93) rfl ?_); refine goesL_ (some 9) rfl rfl Try.func93 (by kernel_rfl) rfl #[.agg #[.int .i64 a0_0, .int .i64 a0_1, .int .i64 a0_2], .agg #[.int .i64 x556000_1, .int .i64 x556001_1]] rfl (by (try simp only [List.map_toArray, List.map_cons, List.map_nil]); first | done | rfl | (simp only [List.length_drop, List.length_take]; rfl)) ?_; (with_reducible refine (impl_Lattice_has.calls a0_0 a0_1 a0_2 x556000_1 x556001_1 false _ A14.out).mono ?_); rintro e w35 ⟨rfl, hb⟩; refine ⟨_, rfl, ?_⟩; have n0_ := Aside0.mk (bbl BK552 hb); have n1_ := Aside0.mk (bbl BK553 hb); have n2_ := Aside0.mk (bbl BK554 hb); have n3_ := Aside0.mk (bbl BK555 hb); have n4_ := Aside0.mk (bst4 HB GE552 GE553 GE554 GE555 hb); clear BK552; clear BK553; clear BK554; clear BK555; clear HB; have BK552 := n0_; have BK553 := n1_; have BK554 := n2_; have BK555 := n3_; have HB := n4_; clear n0_ n1_ n2_ n3_ n4_; (try clear hb); (try clear hb2); (try clear hk); (try clear hi); have hcz36_0 : w35.cell? ⟨gb555, 0, none⟩ = some (.int .i64 x556000_1) := bcl BK555 0; have hcz36_1 : w35.cell? ⟨gb555, 1, none⟩ = some (.int .i64 x556001_1) := bcl BK555 1; have hfz36_0 := blk_frozen BK555.out 0; have hfz36_1 := blk_frozen BK555.out 1; have hnb37 := NB553_554.out; have hnc37 := NB554_553.out; have hcz38_0 : w35.cell? ⟨gb553, 0, none⟩ = some (.int .i64 a1_0) := bcl BK553 0; have hcz38_1 : w35.cell? ⟨gb553, 1, none⟩ = some (.int .i64 a1_1) := bcl BK553 1; have hfz38_0 := blk_frozen BK553.out 0; have hfz38_1 := blk_frozen BK553.out 1) | ((with_reducible refine gate_callee (f := 94) rfl ?_); refine goesL_ (some 13) rfl rfl Try.func94 (by kernel_rfl) rfl #[.agg #[.int .i64 x556000_1, .int .i64 x556001_1], .agg #[.int .i64 a1_0, .int .i64 a1_1]] rfl (by (try simp only [List.map_toArray, List.map_cons, List.map_nil]); first | done | rfl | (simp only [List.length_drop, List.length_take]; rfl)) ?_; (with_reducible refine (impl_Vec_add.calls x556000_1 x556001_1 a1_0 a1_1 t557 t558 _ A27.out).mono ?_); rintro e w39 ⟨rfl, hb⟩; refine ⟨_, rfl, ?_⟩; have n0_ := Aside0.mk (bbl BK552 hb); have n1_ := Aside0.mk (bbl BK553 hb); have n2_ := Aside0.mk (bbl BK554 hb); have n3_ := Aside0.mk (bbl BK555 hb); have n4_ := Aside0.mk (bst4 HB GE552 GE553 GE554 GE555 hb); clear BK552; clear BK553; clear BK554; clear BK555; clear HB; have BK552 := n0_; have BK553 := n1_; have BK554 := n2_; have BK555 := n3_; have HB := n4_; clear n0_ n1_ n2_ n3_ n4_; (try clear hb); (try clear hb2); (try clear hk); (try clear hi); have hcz40_0 : w39.cell? ⟨gb555, 0, none⟩ = some (.int .i64 x556000_1) := bcl BK555 0; have hcz40_1 : w39.cell? ⟨gb555, 1, none⟩ = some (.int .i64 x556001_1) := bcl BK555 1; have hfz40_0 := blk_frozen BK555.out 0; have hfz40_1 := blk_frozen BK555.out 1))
    go_roundg k1
    case measure => have := HK1.out; omega
    case rel => exact ⟨(t557), (t558), H', ⟨by have := HK1.out; omega⟩, ⟨by (with_reducible repeat (first | refine blk_drewN ?_ _ | refine blk_drew ?_ | refine blk_alloc ?_ _)); refine blk_far ?_ NB552_555.out _; (with_reducible repeat (first | refine blk_drewN ?_ _ | refine blk_drew ?_ | refine blk_alloc ?_ _)); refine blk_far ?_ NB552_555.out _; (with_reducible repeat (first | refine blk_drewN ?_ _ | refine blk_drew ?_ | refine blk_alloc ?_ _)); exact BK552.out⟩, ⟨by (with_reducible repeat (first | refine blk_drewN ?_ _ | refine blk_drew ?_ | refine blk_alloc ?_ _)); refine blk_far ?_ NB553_555.out _; (with_reducible repeat (first | refine blk_drewN ?_ _ | refine blk_drew ?_ | refine blk_alloc ?_ _)); refine blk_far ?_ NB553_555.out _; (with_reducible repeat (first | refine blk_drewN ?_ _ | refine blk_drew ?_ | refine blk_alloc ?_ _)); exact BK553.out⟩, ⟨by (with_reducible repeat (first | refine blk_drewN ?_ _ | refine blk_drew ?_ | refine blk_alloc ?_ _)); refine blk_far ?_ NB554_555.out _; (with_reducible repeat (first | refine blk_drewN ?_ _ | refine blk_drew ?_ | refine blk_alloc ?_ _)); refine blk_far ?_ NB554_555.out _; (with_reducible repeat (first | refine blk_drewN ?_ _ | refine blk_drew ?_ | refine blk_alloc ?_ _)); exact BK554.out⟩, ⟨by (with_reducible repeat (first | refine blk_drewN ?_ _ | refine blk_drew ?_ | refine blk_alloc ?_ _)); refine blk_put (cs := #[.int .i64 t557, .int .i64 x556001_1]) ?_ 1 _ rfl; (with_reducible repeat (first | refine blk_drewN ?_ _ | refine blk_drew ?_ | refine blk_alloc ?_ _)); refine blk_put (cs := #[.int .i64 x556000_1, .int .i64 x556001_1]) ?_ 0 _ rfl; (with_reducible repeat (first | refine blk_drewN ?_ _ | refine blk_drew ?_ | refine blk_alloc ?_ _)); exact BK555.out⟩, ⟨bbw4 HB GE552 GE553 GE554 GE555⟩⟩
end Go.Proofs.Ytndfnaehpdkaiaa.PA
