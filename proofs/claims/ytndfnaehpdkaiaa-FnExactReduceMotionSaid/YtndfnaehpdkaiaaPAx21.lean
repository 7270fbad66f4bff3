/- Walks written by program: each Go function that the law reaches comes to the plain function beside it. -/
import Derived.Test.YtndfnaehpdkaiaaPAx0
import Derived.Test.YtndfnaehpdkaiaaPAx8
import Derived.Test.YtndfnaehpdkaiaaPAx10
import Derived.Test.YtndfnaehpdkaiaaPAx17
import Derived.Test.YtndfnaehpdkaiaaPAx18
import Derived.Test.YtndfnaehpdkaiaaPAx20
namespace Go.Proofs.Ytndfnaehpdkaiaa.PA
open Go.RowKit Go.Proofs.YtndfnaehpdkaiaaW.PrintWords Go.Proofs.YtndfnaehpdkaiaaW.PrintLast Go.Proofs.YtndfnaehpdkaiaaW.PrintMore
attribute [local go_sem] max2_int min2_int max_two min_two max_three min_three max_four min_four   -- for this text's walks alone
set_option linter.unusedVariables false
set_option linter.unusedSimpArgs false

/-! ### laws_FnExactReduceMotion: function 4 -/
def laws_FnExactReduceMotion.f (k : Nat) (a0 : Int) (a1_0 : Int) (a1_1 : Int) (a1_2 : Int) (a2_0 : Int) (a2_1 : Int) (a2_2 : Int) (a2_3 : Int) (a2_4 : Int) (a2_5 : Int) : Option (Bool) := (laws_toLattice.f a1_0 a1_1 a1_2).bind fun bt335 => ((laws_toMotion.f a2_0 a2_1 a2_2 a2_3 a2_4 a2_5).bind fun bt338 => ((spec_ReduceMotion.f k a0 bt335.1 bt335.2.1 bt335.2.2 bt338.1 bt338.2.1 bt338.2.2.1 bt338.2.2.2.1 bt338.2.2.2.2.1 bt338.2.2.2.2.2).bind fun bt344 => ((laws_toLattice.f a1_0 a1_1 a1_2).bind fun bt352 => ((laws_toMotion.f a2_0 a2_1 a2_2 a2_3 a2_4 a2_5).bind fun bt355 => ((impl_ReduceMotion.f k a0 bt352.1 bt352.2.1 bt352.2.2 bt355.1 bt355.2.1 bt355.2.2.1 bt355.2.2.2.1 bt355.2.2.2.2.1 bt355.2.2.2.2.2).bind fun bt361 => ((laws_eqMotion.f bt361.1 bt361.2.1 bt361.2.2.1 bt361.2.2.2.1 bt361.2.2.2.2.1 bt361.2.2.2.2.2.1 bt344.1 bt344.2.1 bt344.2.2.1 bt344.2.2.2.1 bt344.2.2.2.2.1 bt344.2.2.2.2.2.1).bind fun t369 => (if t369 = true then (if bt361.2.2.2.2.2.2 = bt344.2.2.2.2.2.2 then (some true) else (some false)) else (some false))))))))
def laws_FnExactReduceMotion.T1 : Bool × List (List Nat × List Nat) := (true, [([], []), ([], []), ([1], [1]), ([], []), ([3, 2], [3]), ([0, 2, 4, 4], [0, 2, 4]), ([5], [5]), ([6], [6]), ([6], [6]), ([], []), ([9, 7, 5, 0, 1, 2, 3, 4, 5, 6, 7, 9], [7, 9]), ([8, 10, 0, 1, 2, 3, 4, 5, 6, 7, 8, 9, 10], [8])])
def laws_FnExactReduceMotion.B1 : List Nat := [0, 0, 2, 0, 14, 31, 63, 127, 127, 0, 767, 2047]
theorem laws_FnExactReduceMotion.tab1 : rtab .any (opsOf Try.f4 1) = laws_FnExactReduceMotion.T1 := by kernel_rfl
theorem laws_FnExactReduceMotion.bits1 : waitsOk laws_FnExactReduceMotion.T1.2 laws_FnExactReduceMotion.B1 = true := by kernel_rfl
def laws_FnExactReduceMotion.T2 : Bool × List (List Nat × List Nat) := (true, [([], []), ([], []), ([1], [1]), ([], []), ([3, 2], [3]), ([0, 2, 4, 4], [0, 2, 4]), ([5], [5]), ([6], [6]), ([6], [6]), ([], []), ([9, 7, 5, 0, 1, 2, 3, 4, 5, 6, 7, 9], [7, 9]), ([8, 10, 0, 1, 2, 3, 4, 5, 6, 7, 8, 9, 10], [8])])
def laws_FnExactReduceMotion.B2 : List Nat := [0, 0, 2, 0, 14, 31, 63, 127, 127, 0, 767, 2047]
theorem laws_FnExactReduceMotion.tab2 : rtab .any (opsOf Try.f4 2) = laws_FnExactReduceMotion.T2 := by kernel_rfl
theorem laws_FnExactReduceMotion.bits2 : waitsOk laws_FnExactReduceMotion.T2.2 laws_FnExactReduceMotion.B2 = true := by kernel_rfl
set_option maxHeartbeats 8000000 in
set_option maxRecDepth 100000 in
theorem laws_FnExactReduceMotion.calls (k : Nat) (a0 : Int) (a1_0 : Int) (a1_1 : Int) (a1_2 : Int) (a2_0 : Int) (a2_1 : Int) (a2_2 : Int) (a2_3 : Int) (a2_4 : Int) (a2_5 : Int) (w : World) (h : laws_FnExactReduceMotion.f k a0 a1_0 a1_1 a1_2 a2_0 a2_1 a2_2 a2_3 a2_4 a2_5 = some true) :
    Calls Try.prog 4 #[.int .i64 a0, .agg #[.int .i64 a1_0, .int .i64 a1_1, .int .i64 a1_2], .agg #[.int .i64 a2_0, .int .i64 a2_1, .int .i64 a2_2, .int .i64 a2_3, .int .i64 a2_4, .int .i64 a2_5]] w fun e w' => e = .returned (.bool true) ∧ Below w.heap.size w w' := by
  have hu23 := Try.underlying23
  have hu29 := Try.underlying29
  have hu36 := Try.underlying36
  have HB := Aside0.mk (Below.refl w.heap.size w)
  have H : ((laws_toLattice.f a1_0 a1_1 a1_2).bind fun bt335 => ((laws_toMotion.f a2_0 a2_1 a2_2 a2_3 a2_4 a2_5).bind fun bt338 => ((spec_ReduceMotion.f k a0 bt335.1 bt335.2.1 bt335.2.2 bt338.1 bt338.2.1 bt338.2.2.1 bt338.2.2.2.1 bt338.2.2.2.2.1 bt338.2.2.2.2.2).bind fun bt344 => ((laws_toLattice.f a1_0 a1_1 a1_2).bind fun bt352 => ((laws_toMotion.f a2_0 a2_1 a2_2 a2_3 a2_4 a2_5).bind fun bt355 => ((impl_ReduceMotion.f k a0 bt352.1 bt352.2.1 bt352.2.2 bt355.1 bt355.2.1 bt355.2.2.1 bt355.2.2.2.1 bt355.2.2.2.2.1 bt355.2.2.2.2.2).bind fun bt361 => ((laws_eqMotion.f bt361.1 bt361.2.1 bt361.2.2.1 bt361.2.2.2.1 bt361.2.2.2.2.1 bt361.2.2.2.2.2.1 bt344.1 bt344.2.1 bt344.2.2.1 bt344.2.2.2.1 bt344.2.2.2.2.1 bt344.2.2.2.2.2.1).bind fun t369 => (if t369 = true then (if bt361.2.2.2.2.2.2 = bt344.2.2.2.2.2.2 then (some true) else (some false)) else (some false))))))))) = some true := h
  clear h
  replace H := Option.bind_eq_some_iff.mp H
  obtain ⟨⟨t335, t336, t337⟩, A40, H⟩ := H
  replace H : ((laws_toMotion.f a2_0 a2_1 a2_2 a2_3 a2_4 a2_5).bind fun bt338 => ((spec_ReduceMotion.f k a0 t335 t336 t337 bt338.1 bt338.2.1 bt338.2.2.1 bt338.2.2.2.1 bt338.2.2.2.2.1 bt338.2.2.2.2.2).bind fun bt344 => ((laws_toLattice.f a1_0 a1_1 a1_2).bind fun bt352 => ((laws_toMotion.f a2_0 a2_1 a2_2 a2_3 a2_4 a2_5).bind fun bt355 => ((impl_ReduceMotion.f k a0 bt352.1 bt352.2.1 bt352.2.2 bt355.1 bt355.2.1 bt355.2.2.1 bt355.2.2.2.1 bt355.2.2.2.2.1 bt355.2.2.2.2.2).bind fun bt361 => ((laws_eqMotion.f bt361.1 bt361.2.1 bt361.2.2.1 bt361.2.2.2.1 bt361.2.2.2.2.1 bt361.2.2.2.2.2.1 bt344.1 bt344.2.1 bt344.2.2.1 bt344.2.2.2.1 bt344.2.2.2.2.1 bt344.2.2.2.2.2.1).bind fun t369 => (if t369 = true then (if bt361.2.2.2.2.2.2 = bt344.2.2.2.2.2.2 then (some true) else (some false)) else (some false)))))))) = some true := H
  have A4 := Aside0.mk A40
  clear A40
  replace H := Option.bind_eq_some_iff.mp H
  obtain ⟨⟨t338, t339, t340, t341, t342, t343⟩, A50, H⟩ := H
  replace H : ((spec_ReduceMotion.f k a0 t335 t336 t337 t338 t339 t340 t341 t342 t343).bind fun bt344 => ((laws_toLattice.f a1_0 a1_1 a1_2).bind fun bt352 => ((laws_toMotion.f a2_0 a2_1 a2_2 a2_3 a2_4 a2_5).bind fun bt355 => ((impl_ReduceMotion.f k a0 bt352.1 bt352.2.1 bt352.2.2 bt355.1 bt355.2.1 bt355.2.2.1 bt355.2.2.2.1 bt355.2.2.2.2.1 bt355.2.2.2.2.2).bind fun bt361 => ((laws_eqMotion.f bt361.1 bt361.2.1 bt361.2.2.1 bt361.2.2.2.1 bt361.2.2.2.2.1 bt361.2.2.2.2.2.1 bt344.1 bt344.2.1 bt344.2.2.1 bt344.2.2.2.1 bt344.2.2.2.2.1 bt344.2.2.2.2.2.1).bind fun t369 => (if t369 = true then (if bt361.2.2.2.2.2.2 = bt344.2.2.2.2.2.2 then (some true) else (some false)) else (some false))))))) = some true := H
  have A5 := Aside0.mk A50
  clear A50
  replace H := Option.bind_eq_some_iff.mp H
  obtain ⟨⟨t344, t345, t346, t347, t348, t349, t350⟩, A60, H⟩ := H
  replace H : ((laws_toLattice.f a1_0 a1_1 a1_2).bind fun bt352 => ((laws_toMotion.f a2_0 a2_1 a2_2 a2_3 a2_4 a2_5).bind fun bt355 => ((impl_ReduceMotion.f k a0 bt352.1 bt352.2.1 bt352.2.2 bt355.1 bt355.2.1 bt355.2.2.1 bt355.2.2.2.1 bt355.2.2.2.2.1 bt355.2.2.2.2.2).bind fun bt361 => ((laws_eqMotion.f bt361.1 bt361.2.1 bt361.2.2.1 bt361.2.2.2.1 bt361.2.2.2.2.1 bt361.2.2.2.2.2.1 t344 t345 t346 t347 t348 t349).bind fun t369 => (if t369 = true then (if bt361.2.2.2.2.2.2 = t350 then (some true) else (some false)) else (some false)))))) = some true := H
  have A6 := Aside0.mk A60
  clear A60
  replace H := Option.bind_eq_some_iff.mp H
  obtain ⟨⟨t352, t353, t354⟩, A70, H⟩ := H
  replace H : ((laws_toMotion.f a2_0 a2_1 a2_2 a2_3 a2_4 a2_5).bind fun bt355 => ((impl_ReduceMotion.f k a0 t352 t353 t354 bt355.1 bt355.2.1 bt355.2.2.1 bt355.2.2.2.1 bt355.2.2.2.2.1 bt355.2.2.2.2.2).bind fun bt361 => ((laws_eqMotion.f bt361.1 bt361.2.1 bt361.2.2.1 bt361.2.2.2.1 bt361.2.2.2.2.1 bt361.2.2.2.2.2.1 t344 t345 t346 t347 t348 t349).bind fun t369 => (if t369 = true then (if bt361.2.2.2.2.2.2 = t350 then (some true) else (some false)) else (some false))))) = some true := H
  have A7 := Aside0.mk A70
  clear A70
  replace H := Option.bind_eq_some_iff.mp H
  obtain ⟨⟨t355, t356, t357, t358, t359, t360⟩, A80, H⟩ := H
  replace H : ((impl_ReduceMotion.f k a0 t352 t353 t354 t355 t356 t357 t358 t359 t360).bind fun bt361 => ((laws_eqMotion.f bt361.1 bt361.2.1 bt361.2.2.1 bt361.2.2.2.1 bt361.2.2.2.2.1 bt361.2.2.2.2.2.1 t344 t345 t346 t347 t348 t349).bind fun t369 => (if t369 = true then (if bt361.2.2.2.2.2.2 = t350 then (some true) else (some false)) else (some false)))) = some true := H
  have A8 := Aside0.mk A80
  clear A80
  replace H := Option.bind_eq_some_iff.mp H
  obtain ⟨⟨t361, t362, t363, t364, t365, t366, t367⟩, A90, H⟩ := H
  replace H : ((laws_eqMotion.f t361 t362 t363 t364 t365 t366 t344 t345 t346 t347 t348 t349).bind fun t369 => (if t369 = true then (if t367 = t350 then (some true) else (some false)) else (some false))) = some true := H
  have A9 := Aside0.mk A90
  clear A90
  replace H := Option.bind_eq_some_iff.mp H
  obtain ⟨t369, A100, H⟩ := H
  replace H : (if t369 = true then (if t367 = t350 then (some true) else (some false)) else (some false)) = some true := H
  have A10 := Aside0.mk A100
  clear A100
  by_cases c11 : t369 = true
  · subst c11
    have H1 : (if t367 = t350 then (some true) else (some false)) = some true := by rw [if_pos rfl] at H; first | done | exact H
    clear H
    have H := H1
    clear H1
    by_cases c12 : t367 = t350
    · rw [if_pos c12] at H
      have c12b0 : (t367 == t350) = true := beq_iff_eq.mpr c12
      have c12b1 : (t367 != t350) = false := bne_eq_false_iff_eq.mpr c12
      clear c12
      clear H
      go_enter Try.func4, Try.ntmps4
      try go_wp2_with (first | ((with_reducible refine gate_dst (N := 4) rfl ?_); refine box_event ?hg (N := 4) ?hd (cs := #[.int .i64 a1_0, .int .i64 a1_1, .int .i64 a1_2]) (t := 23) ?hr ?_; (case hd => rfl); (case hg => rfl); (case hr => first | (go_simp; done) | (go_simp; rfl)); intro gb333 hg w13 hbox hb; have n0_ := Aside0.mk (bst0 HB hb); have n1_ := Aside0.mk (hbox); have n2_ := Aside0.mk ((by rw [hg]; exact (bsz0 HB) : w.heap.size ≤ gb333)); have n3_ := Aside0.mk ((by rw [hg]; exact (bsz0 HB) : w.heap.size ≤ gb333)); clear HB; have HB := n0_; have BK333 := n1_; have GW333 := n2_; have GE333 := n3_; clear n0_ n1_ n2_ n3_; clear hb hbox hg) | ((with_reducible refine gate_dst (N := 5) rfl ?_); refine box_event ?hg (N := 5) ?hd (cs := #[.int .i64 a2_0, .int .i64 a2_1, .int .i64 a2_2, .int .i64 a2_3, .int .i64 a2_4, .int .i64 a2_5]) (t := 29) ?hr ?_; (case hd => rfl); (case hg => rfl); (case hr => first | (go_simp; done) | (go_simp; rfl)); intro gb334 hg w14 hbox hb; have n0_ := Aside0.mk (bbl BK333 hb); have n1_ := Aside0.mk (bst1 HB GE333 hb); have n2_ := Aside0.mk (hbox); have n3_ := Aside0.mk ((by rw [hg]; exact (bsz1 HB GE333) : w.heap.size ≤ gb334)); have n4_ := Aside0.mk ((by rw [hg]; exact (bsz1 HB GE333) : w.heap.size ≤ gb334)); have n5_ := Aside0.mk ((by rw [hg]; exact Nat.ne_of_lt (blt BK333) : gb333 ≠ gb334)); have n6_ := Aside0.mk ((by rw [hg]; exact Nat.ne_of_gt (blt BK333) : gb334 ≠ gb333)); clear BK333; clear HB; have BK333 := n0_; have HB := n1_; have BK334 := n2_; have GW334 := n3_; have GE334 := n4_; have NB333_334 := n5_; have NB334_333 := n6_; clear n0_ n1_ n2_ n3_ n4_ n5_ n6_; clear hb hbox hg))
      have n0_ := Aside0.mk (blk_drew BK333.out)
      have n1_ := Aside0.mk (blk_drew BK334.out)
      have n2_ := Aside0.mk (below_drew1 HB.out)
      clear BK333
      clear BK334
      clear HB
      have BK333 := n0_
      have BK334 := n1_
      have HB := n2_
      clear n0_ n1_ n2_
      refine start_ (n := 12) (S := fun w' => w'.cell? ⟨gb333, 0, none⟩ = some (.int .i64 a1_0) ∧ w'.cell? ⟨gb333, 1, none⟩ = some (.int .i64 a1_1) ∧ w'.cell? ⟨gb333, 2, none⟩ = some (.int .i64 a1_2) ∧ w'.cell? ⟨gb334, 0, none⟩ = some (.int .i64 a2_0) ∧ w'.cell? ⟨gb334, 1, none⟩ = some (.int .i64 a2_1) ∧ w'.cell? ⟨gb334, 2, none⟩ = some (.int .i64 a2_2) ∧ w'.cell? ⟨gb334, 3, none⟩ = some (.int .i64 a2_3) ∧ w'.cell? ⟨gb334, 4, none⟩ = some (.int .i64 a2_4) ∧ w'.cell? ⟨gb334, 5, none⟩ = some (.int .i64 a2_5)) (ds := []) #[false, false, false, false, false, false, false, false, false, false, false, false] (by kernel_rfl) rfl rfl ⟨bcl BK333 0, bcl BK333 1, bcl BK333 2, bcl BK334 0, bcl BK334 1, bcl BK334 2, bcl BK334 3, bcl BK334 4, bcl BK334 5⟩ (fun hHeld => ?_); refine with_tabW laws_FnExactReduceMotion.tab1 laws_FnExactReduceMotion.bits1 (fun HT_ HW_ => ?_)
      generalize w14.drew = w15 at BK333 BK334 HB hHeld ⊢
      refine pure_ (i := 0) (N := some 12) (v := ?_) (a' := ?_) #[true, false, false, false, false, false, false, false, false, false, false, false] rfl rfl (any_of HT_.out (by kernel_rfl)) (fun _ _ _ h => h) (Or.inl ⟨by rfl, ?_⟩) ?_ ?_
      rotate_left
      · intro w'
        go_simp
        with_reducible rfl
      rotate_left
      · simp only [Act.put, List.setIfInBounds_toArray, List.set_cons_zero, List.set_cons_succ, i64_w, i32_w]
        rfl
      refine take_ (i := 1) (N := some 13) (v := ?_) (a' := ?_) #[true, true, false, false, false, false, false, false, false, false, false, false] rfl rfl (take_ofW HT_.out HW_.out (by kernel_rfl)) (fun _ _ _ h => h) (Or.inl ⟨by rfl, ?_⟩) hHeld ?_ ?_
      rotate_left
      · rintro w' ⟨s0, s1, s2, s3, s4, s5, s6, s7, s8⟩
        go_simp
        with_reducible rfl
      rotate_left
      · simp only [Act.put, List.setIfInBounds_toArray, List.set_cons_zero, List.set_cons_succ, i64_w, i32_w]
        rfl
      refine take_ (i := 3) (N := some 15) (v := ?_) (a' := ?_) #[true, true, false, true, false, false, false, false, false, false, false, false] rfl rfl (take_ofW HT_.out HW_.out (by kernel_rfl)) (fun _ _ _ h => h) (Or.inl ⟨by rfl, ?_⟩) hHeld ?_ ?_
      rotate_left
      · rintro w' ⟨s0, s1, s2, s3, s4, s5, s6, s7, s8⟩
        go_simp
        with_reducible rfl
      rotate_left
      · simp only [Act.put, List.setIfInBounds_toArray, List.set_cons_zero, List.set_cons_succ, i64_w, i32_w]
        rfl
      refine join_ (σ := Nat) 2 #[true, true, true, true, true, true, true, true, true, true, false, false] (fun s_ => [(14, .agg #[.int .i64 t335, .int .i64 t336, .int .i64 t337]), (16, .agg #[.int .i64 t338, .int .i64 t339, .int .i64 t340, .int .i64 t341, .int .i64 t342, .int .i64 t343]), (17, .tuple #[.agg #[.int .i64 t344, .int .i64 t345, .int .i64 t346, .int .i64 t347, .int .i64 t348, .int .i64 t349], .int .i64 t350]), (7, .pointer (some ⟨s_, 0, none⟩)), (11, .tuple #[.agg #[.int .i64 t344, .int .i64 t345, .int .i64 t346, .int .i64 t347, .int .i64 t348, .int .i64 t349], .int .i64 t350]), (18, .agg #[.int .i64 t344, .int .i64 t345, .int .i64 t346, .int .i64 t347, .int .i64 t348, .int .i64 t349]), (19, .int .i64 t350)]) (fun s_ w' => (w'.cell? ⟨gb333, 0, none⟩ = some (.int .i64 a1_0) ∧ w'.cell? ⟨gb333, 1, none⟩ = some (.int .i64 a1_1) ∧ w'.cell? ⟨gb333, 2, none⟩ = some (.int .i64 a1_2) ∧ w'.cell? ⟨gb334, 0, none⟩ = some (.int .i64 a2_0) ∧ w'.cell? ⟨gb334, 1, none⟩ = some (.int .i64 a2_1) ∧ w'.cell? ⟨gb334, 2, none⟩ = some (.int .i64 a2_2) ∧ w'.cell? ⟨gb334, 3, none⟩ = some (.int .i64 a2_3) ∧ w'.cell? ⟨gb334, 4, none⟩ = some (.int .i64 a2_4) ∧ w'.cell? ⟨gb334, 5, none⟩ = some (.int .i64 a2_5)) ∧ (w'.heap[gb333]? = some (.cells #[.int .i64 a1_0, .int .i64 a1_1, .int .i64 a1_2] 23 (0, 0))) ∧ (w'.heap[gb334]? = some (.cells #[.int .i64 a2_0, .int .i64 a2_1, .int .i64 a2_2, .int .i64 a2_3, .int .i64 a2_4, .int .i64 a2_5] 29 (0, 0))) ∧ (w'.heap[s_]? = some (.cells #[.int .i64 0, .int .i64 0, .int .i64 0, .int .i64 0, .int .i64 0, .int .i64 0] 36 (0, 0))) ∧ (w.heap.size ≤ s_) ∧ (w.heap.size ≤ s_) ∧ (gb333 ≠ s_) ∧ (s_ ≠ gb333) ∧ (gb334 ≠ s_) ∧ (s_ ≠ gb334) ∧ (Below w.heap.size w w')) ?_ ?_
      rotate_left
      · intro hCont
        refine two_ (i := 2) (j := 9) (Ni := some 14) (Nj := some 7) #[true, true, true, true, false, false, false, false, false, false, false, false] #[true, true, false, true, false, false, false, false, false, true, false, false] rfl rfl rfl rfl (two_of HT_.out (by kernel_rfl)) (by decide) (by decide) (fun K hK => ?_) (fun K hK => ?_)
        · skip
          refine goes_ Try.func12 (by kernel_rfl) rfl #[.agg #[.int .i64 a1_0, .int .i64 a1_1, .int .i64 a1_2]] (by rfl) rfl rfl (by (try simp only [List.map_toArray, List.map_cons, List.map_nil]); first | done | rfl | (simp only [List.length_drop, List.length_take]; rfl)) ?_
          with_reducible refine (laws_toLattice.calls a1_0 a1_1 a1_2 t335 t336 t337 _ A4.out).mono ?_
          rintro e w16 ⟨rfl, hb⟩
          refine ⟨_, rfl, ?_⟩
          have n0_ := Aside0.mk (bbl BK333 hb)
          have n1_ := Aside0.mk (bbl BK334 hb)
          have n2_ := Aside0.mk (bst2 HB GE333 GE334 hb)
          clear BK333
          clear BK334
          clear HB
          have BK333 := n0_
          have BK334 := n1_
          have HB := n2_
          clear n0_ n1_ n2_
          (try clear hb)
          (try clear hb2)
          (try clear hk)
          (try clear hi)
          refine hK.out _ _ ⟨bcl BK333 0, bcl BK333 1, bcl BK333 2, bcl BK334 0, bcl BK334 1, bcl BK334 2, bcl BK334 3, bcl BK334 4, bcl BK334 5⟩ (fun hHeld => ?_)
          clear hK K
          refine norm_ (a' := ?_) ?_ ?_
          rotate_left
          · show Act.put _ (some 14) _ = _
            simp only [Act.put, List.setIfInBounds_toArray, List.set_cons_zero, List.set_cons_succ, i64_w, i32_w]
            rfl
          refine two_ (i := 4) (j := 9) (Ni := some 16) (Nj := some 7) #[true, true, true, true, true, false, false, false, false, false, false, false] #[true, true, true, true, false, false, false, false, false, true, false, false] rfl rfl rfl rfl (two_of HT_.out (by kernel_rfl)) (by decide) (by decide) (fun K hK => ?_) (fun K hK => ?_)
          · skip
            refine goes_ Try.func13 (by kernel_rfl) rfl #[.agg #[.int .i64 a2_0, .int .i64 a2_1, .int .i64 a2_2, .int .i64 a2_3, .int .i64 a2_4, .int .i64 a2_5]] (by rfl) rfl rfl (by (try simp only [List.map_toArray, List.map_cons, List.map_nil]); first | done | rfl | (simp only [List.length_drop, List.length_take]; rfl)) ?_
            with_reducible refine (laws_toMotion.calls a2_0 a2_1 a2_2 a2_3 a2_4 a2_5 t338 t339 t340 t341 t342 t343 _ A5.out).mono ?_
            rintro e w17 ⟨rfl, hb⟩
            refine ⟨_, rfl, ?_⟩
            have n0_ := Aside0.mk (bbl BK333 hb)
            have n1_ := Aside0.mk (bbl BK334 hb)
            have n2_ := Aside0.mk (bst2 HB GE333 GE334 hb)
            clear BK333
            clear BK334
            clear HB
            have BK333 := n0_
            have BK334 := n1_
            have HB := n2_
            clear n0_ n1_ n2_
            (try clear hb)
            (try clear hb2)
            (try clear hk)
            (try clear hi)
            refine hK.out _ _ ⟨bcl BK333 0, bcl BK333 1, bcl BK333 2, bcl BK334 0, bcl BK334 1, bcl BK334 2, bcl BK334 3, bcl BK334 4, bcl BK334 5⟩ (fun hHeld => ?_)
            clear hK K
            refine norm_ (a' := ?_) ?_ ?_
            rotate_left
            · show Act.put _ (some 16) _ = _
              simp only [Act.put, List.setIfInBounds_toArray, List.set_cons_zero, List.set_cons_succ, i64_w, i32_w]
              rfl
            refine two_ (i := 5) (j := 9) (Ni := some 17) (Nj := some 7) #[true, true, true, true, true, true, false, false, false, false, false, false] #[true, true, true, true, true, false, false, false, false, true, false, false] rfl rfl rfl rfl (two_of HT_.out (by kernel_rfl)) (by decide) (by decide) (fun K hK => ?_) (fun K hK => ?_)
            · skip
              refine goes_ Try.func15 (by kernel_rfl) rfl #[.int .i64 a0, .agg #[.int .i64 t335, .int .i64 t336, .int .i64 t337], .agg #[.int .i64 t338, .int .i64 t339, .int .i64 t340, .int .i64 t341, .int .i64 t342, .int .i64 t343]] (by rfl) rfl rfl (by (try simp only [List.map_toArray, List.map_cons, List.map_nil]); first | done | rfl | (simp only [List.length_drop, List.length_take]; rfl)) ?_
              with_reducible refine (spec_ReduceMotion.calls k a0 t335 t336 t337 t338 t339 t340 t341 t342 t343 t344 t345 t346 t347 t348 t349 t350 _ A6.out).mono ?_
              rintro e w18 ⟨rfl, hb⟩
              refine ⟨_, rfl, ?_⟩
              have n0_ := Aside0.mk (bbl BK333 hb)
              have n1_ := Aside0.mk (bbl BK334 hb)
              have n2_ := Aside0.mk (bst2 HB GE333 GE334 hb)
              clear BK333
              clear BK334
              clear HB
              have BK333 := n0_
              have BK334 := n1_
              have HB := n2_
              clear n0_ n1_ n2_
              (try clear hb)
              (try clear hb2)
              (try clear hk)
              (try clear hi)
              refine hK.out _ _ ⟨bcl BK333 0, bcl BK333 1, bcl BK333 2, bcl BK334 0, bcl BK334 1, bcl BK334 2, bcl BK334 3, bcl BK334 4, bcl BK334 5⟩ (fun hHeld => ?_)
              clear hK K
              refine norm_ (a' := ?_) ?_ ?_
              rotate_left
              · show Act.put _ (some 17) _ = _
                simp only [Act.put, List.setIfInBounds_toArray, List.set_cons_zero, List.set_cons_succ, i64_w, i32_w]
                rfl
              refine pure_ (i := 6) (N := some 11) (v := ?_) (a' := ?_) #[true, true, true, true, true, true, true, false, false, false, false, false] rfl rfl (any_of HT_.out (by kernel_rfl)) (fun _ _ _ h => h) (Or.inl ⟨by rfl, ?_⟩) ?_ ?_
              rotate_left
              · intro w'
                go_simp
                with_reducible rfl
              rotate_left
              · simp only [Act.put, List.setIfInBounds_toArray, List.set_cons_zero, List.set_cons_succ, i64_w, i32_w]
                rfl
              refine pure_ (i := 7) (N := some 18) (v := ?_) (a' := ?_) #[true, true, true, true, true, true, true, true, false, false, false, false] rfl rfl (any_of HT_.out (by kernel_rfl)) (fun _ _ _ h => h) (Or.inl ⟨by rfl, ?_⟩) ?_ ?_
              rotate_left
              · intro w'
                go_simp
                with_reducible rfl
              rotate_left
              · simp only [Act.put, List.setIfInBounds_toArray, List.set_cons_zero, List.set_cons_succ, i64_w, i32_w]
                rfl
              refine pure_ (i := 8) (N := some 19) (v := ?_) (a' := ?_) #[true, true, true, true, true, true, true, true, true, false, false, false] rfl rfl (any_of HT_.out (by kernel_rfl)) (fun _ _ _ h => h) (Or.inl ⟨by rfl, ?_⟩) ?_ ?_
              rotate_left
              · intro w'
                go_simp
                with_reducible rfl
              rotate_left
              · simp only [Act.put, List.setIfInBounds_toArray, List.set_cons_zero, List.set_cons_succ, i64_w, i32_w]
                rfl
              refine one_ (i := 9) (N := some 7) #[true, true, true, true, true, true, true, true, true, true, false, false] rfl rfl (one_of HT_.out (by kernel_rfl)) (by decide) (fun K hK => ?_)
              refine box_step ?hg (N := 7) ?hd (cs := #[.int .i64 0, .int .i64 0, .int .i64 0, .int .i64 0, .int .i64 0, .int .i64 0]) (t := 36) ?hr ?_; (case hd => rfl); (case hg => rfl); (case hr => first | (go_simp; done) | (go_simp; rfl))
              intro gb351 hg w19 hbox hb
              have n0_ := Aside0.mk (bbl BK333 hb)
              have n1_ := Aside0.mk (bbl BK334 hb)
              have n2_ := Aside0.mk (bst2 HB GE333 GE334 hb)
              have n3_ := Aside0.mk (hbox)
              have n4_ := Aside0.mk ((by rw [hg]; exact (bsz2 HB GE333 GE334) : w.heap.size ≤ gb351))
              have n5_ := Aside0.mk ((by rw [hg]; exact (bsz2 HB GE333 GE334) : w.heap.size ≤ gb351))
              have n6_ := Aside0.mk ((by rw [hg]; exact Nat.ne_of_lt (blt BK333) : gb333 ≠ gb351))
              have n7_ := Aside0.mk ((by rw [hg]; exact Nat.ne_of_gt (blt BK333) : gb351 ≠ gb333))
              have n8_ := Aside0.mk ((by rw [hg]; exact Nat.ne_of_lt (blt BK334) : gb334 ≠ gb351))
              have n9_ := Aside0.mk ((by rw [hg]; exact Nat.ne_of_gt (blt BK334) : gb351 ≠ gb334))
              clear BK333
              clear BK334
              clear HB
              have BK333 := n0_
              have BK334 := n1_
              have HB := n2_
              have BK351 := n3_
              have GW351 := n4_
              have GE351 := n5_
              have NB333_351 := n6_
              have NB351_333 := n7_
              have NB334_351 := n8_
              have NB351_334 := n9_
              clear n0_ n1_ n2_ n3_ n4_ n5_ n6_ n7_ n8_ n9_
              clear hb hbox hg
              refine hK.out _ _ ⟨bcl BK333 0, bcl BK333 1, bcl BK333 2, bcl BK334 0, bcl BK334 1, bcl BK334 2, bcl BK334 3, bcl BK334 4, bcl BK334 5⟩ (fun hHeld => ?_)
              clear hK K
              refine norm_ (a' := ?_) ?_ ?_
              rotate_left
              · show Act.put _ (some 7) _ = _
                simp only [Act.put, List.setIfInBounds_toArray, List.set_cons_zero, List.set_cons_succ, i64_w, i32_w]
                rfl
              exact norm_ (by simp only [putAll, Act.put, List.setIfInBounds_toArray, List.set_cons_zero, List.set_cons_succ]) (hCont (gb351) _ ⟨hHeld, (bkp BK333), (bkp BK334), (bkp BK351), GW351.out, GE351.out, NB333_351.out, NB351_333.out, NB334_351.out, NB351_334.out, (bbw3 HB GE333 GE334 GE351)⟩)
            · skip
              refine box_step ?hg (N := 7) ?hd (cs := #[.int .i64 0, .int .i64 0, .int .i64 0, .int .i64 0, .int .i64 0, .int .i64 0]) (t := 36) ?hr ?_; (case hd => rfl); (case hg => rfl); (case hr => first | (go_simp; done) | (go_simp; rfl))
              intro gb351 hg w18 hbox hb
              have n0_ := Aside0.mk (bbl BK333 hb)
              have n1_ := Aside0.mk (bbl BK334 hb)
              have n2_ := Aside0.mk (bst2 HB GE333 GE334 hb)
              have n3_ := Aside0.mk (hbox)
              have n4_ := Aside0.mk ((by rw [hg]; exact (bsz2 HB GE333 GE334) : w.heap.size ≤ gb351))
              have n5_ := Aside0.mk ((by rw [hg]; exact (bsz2 HB GE333 GE334) : w.heap.size ≤ gb351))
              have n6_ := Aside0.mk ((by rw [hg]; exact Nat.ne_of_lt (blt BK333) : gb333 ≠ gb351))
              have n7_ := Aside0.mk ((by rw [hg]; exact Nat.ne_of_gt (blt BK333) : gb351 ≠ gb333))
              have n8_ := Aside0.mk ((by rw [hg]; exact Nat.ne_of_lt (blt BK334) : gb334 ≠ gb351))
              have n9_ := Aside0.mk ((by rw [hg]; exact Nat.ne_of_gt (blt BK334) : gb351 ≠ gb334))
              clear BK333
              clear BK334
              clear HB
              have BK333 := n0_
              have BK334 := n1_
              have HB := n2_
              have BK351 := n3_
              have GW351 := n4_
              have GE351 := n5_
              have NB333_351 := n6_
              have NB351_333 := n7_
              have NB334_351 := n8_
              have NB351_334 := n9_
              clear n0_ n1_ n2_ n3_ n4_ n5_ n6_ n7_ n8_ n9_
              clear hb hbox hg
              refine hK.out _ _ ⟨bcl BK333 0, bcl BK333 1, bcl BK333 2, bcl BK334 0, bcl BK334 1, bcl BK334 2, bcl BK334 3, bcl BK334 4, bcl BK334 5⟩ (fun hHeld => ?_)
              clear hK K
              refine norm_ (a' := ?_) ?_ ?_
              rotate_left
              · show Act.put _ (some 7) _ = _
                simp only [Act.put, List.setIfInBounds_toArray, List.set_cons_zero, List.set_cons_succ, i64_w, i32_w]
                rfl
              refine one_ (i := 5) (N := some 17) #[true, true, true, true, true, true, false, false, false, true, false, false] rfl rfl (one_of HT_.out (by kernel_rfl)) (by decide) (fun K hK => ?_)
              refine goes_ Try.func15 (by kernel_rfl) rfl #[.int .i64 a0, .agg #[.int .i64 t335, .int .i64 t336, .int .i64 t337], .agg #[.int .i64 t338, .int .i64 t339, .int .i64 t340, .int .i64 t341, .int .i64 t342, .int .i64 t343]] (by rfl) rfl rfl (by (try simp only [List.map_toArray, List.map_cons, List.map_nil]); first | done | rfl | (simp only [List.length_drop, List.length_take]; rfl)) ?_
              with_reducible refine (spec_ReduceMotion.calls k a0 t335 t336 t337 t338 t339 t340 t341 t342 t343 t344 t345 t346 t347 t348 t349 t350 _ A6.out).mono ?_
              rintro e w19 ⟨rfl, hb⟩
              refine ⟨_, rfl, ?_⟩
              have n0_ := Aside0.mk (bbl BK333 hb)
              have n1_ := Aside0.mk (bbl BK334 hb)
              have n2_ := Aside0.mk (bbl BK351 hb)
              have n3_ := Aside0.mk (bst3 HB GE333 GE334 GE351 hb)
              clear BK333
              clear BK334
              clear BK351
              clear HB
              have BK333 := n0_
              have BK334 := n1_
              have BK351 := n2_
              have HB := n3_
              clear n0_ n1_ n2_ n3_
              (try clear hb)
              (try clear hb2)
              (try clear hk)
              (try clear hi)
              refine hK.out _ _ ⟨bcl BK333 0, bcl BK333 1, bcl BK333 2, bcl BK334 0, bcl BK334 1, bcl BK334 2, bcl BK334 3, bcl BK334 4, bcl BK334 5⟩ (fun hHeld => ?_)
              clear hK K
              refine norm_ (a' := ?_) ?_ ?_
              rotate_left
              · show Act.put _ (some 17) _ = _
                simp only [Act.put, List.setIfInBounds_toArray, List.set_cons_zero, List.set_cons_succ, i64_w, i32_w]
                rfl
              refine pure_ (i := 6) (N := some 11) (v := ?_) (a' := ?_) #[true, true, true, true, true, true, true, false, false, true, false, false] rfl rfl (any_of HT_.out (by kernel_rfl)) (fun _ _ _ h => h) (Or.inl ⟨by rfl, ?_⟩) ?_ ?_
              rotate_left
              · intro w'
                go_simp
                with_reducible rfl
              rotate_left
              · simp only [Act.put, List.setIfInBounds_toArray, List.set_cons_zero, List.set_cons_succ, i64_w, i32_w]
                rfl
              refine pure_ (i := 7) (N := some 18) (v := ?_) (a' := ?_) #[true, true, true, true, true, true, true, true, false, true, false, false] rfl rfl (any_of HT_.out (by kernel_rfl)) (fun _ _ _ h => h) (Or.inl ⟨by rfl, ?_⟩) ?_ ?_
              rotate_left
              · intro w'
                go_simp
                with_reducible rfl
              rotate_left
              · simp only [Act.put, List.setIfInBounds_toArray, List.set_cons_zero, List.set_cons_succ, i64_w, i32_w]
                rfl
              refine pure_ (i := 8) (N := some 19) (v := ?_) (a' := ?_) #[true, true, true, true, true, true, true, true, true, true, false, false] rfl rfl (any_of HT_.out (by kernel_rfl)) (fun _ _ _ h => h) (Or.inl ⟨by rfl, ?_⟩) ?_ ?_
              rotate_left
              · intro w'
                go_simp
                with_reducible rfl
              rotate_left
              · simp only [Act.put, List.setIfInBounds_toArray, List.set_cons_zero, List.set_cons_succ, i64_w, i32_w]
                rfl
              exact norm_ (by simp only [putAll, Act.put, List.setIfInBounds_toArray, List.set_cons_zero, List.set_cons_succ]) (hCont (gb351) _ ⟨hHeld, (bkp BK333), (bkp BK334), (bkp BK351), GW351.out, GE351.out, NB333_351.out, NB351_333.out, NB334_351.out, NB351_334.out, (bbw3 HB GE333 GE334 GE351)⟩)
          · skip
            refine box_step ?hg (N := 7) ?hd (cs := #[.int .i64 0, .int .i64 0, .int .i64 0, .int .i64 0, .int .i64 0, .int .i64 0]) (t := 36) ?hr ?_; (case hd => rfl); (case hg => rfl); (case hr => first | (go_simp; done) | (go_simp; rfl))
            intro gb351 hg w17 hbox hb
            have n0_ := Aside0.mk (bbl BK333 hb)
            have n1_ := Aside0.mk (bbl BK334 hb)
            have n2_ := Aside0.mk (bst2 HB GE333 GE334 hb)
            have n3_ := Aside0.mk (hbox)
            have n4_ := Aside0.mk ((by rw [hg]; exact (bsz2 HB GE333 GE334) : w.heap.size ≤ gb351))
            have n5_ := Aside0.mk ((by rw [hg]; exact (bsz2 HB GE333 GE334) : w.heap.size ≤ gb351))
            have n6_ := Aside0.mk ((by rw [hg]; exact Nat.ne_of_lt (blt BK333) : gb333 ≠ gb351))
            have n7_ := Aside0.mk ((by rw [hg]; exact Nat.ne_of_gt (blt BK333) : gb351 ≠ gb333))
            have n8_ := Aside0.mk ((by rw [hg]; exact Nat.ne_of_lt (blt BK334) : gb334 ≠ gb351))
            have n9_ := Aside0.mk ((by rw [hg]; exact Nat.ne_of_gt (blt BK334) : gb351 ≠ gb334))
            clear BK333
            clear BK334
            clear HB
            have BK333 := n0_
            have BK334 := n1_
            have HB := n2_
            have BK351 := n3_
            have GW351 := n4_
            have GE351 := n5_
            have NB333_351 := n6_
            have NB351_333 := n7_
            have NB334_351 := n8_
            have NB351_334 := n9_
            clear n0_ n1_ n2_ n3_ n4_ n5_ n6_ n7_ n8_ n9_
            clear hb hbox hg
            refine hK.out _ _ ⟨bcl BK333 0, bcl BK333 1, bcl BK333 2, bcl BK334 0, bcl BK334 1, bcl BK334 2, bcl BK334 3, bcl BK334 4, bcl BK334 5⟩ (fun hHeld => ?_)
            clear hK K
            refine norm_ (a' := ?_) ?_ ?_
            rotate_left
            · show Act.put _ (some 7) _ = _
              simp only [Act.put, List.setIfInBounds_toArray, List.set_cons_zero, List.set_cons_succ, i64_w, i32_w]
              rfl
            refine one_ (i := 4) (N := some 16) #[true, true, true, true, true, false, false, false, false, true, false, false] rfl rfl (one_of HT_.out (by kernel_rfl)) (by decide) (fun K hK => ?_)
            refine goes_ Try.func13 (by kernel_rfl) rfl #[.agg #[.int .i64 a2_0, .int .i64 a2_1, .int .i64 a2_2, .int .i64 a2_3, .int .i64 a2_4, .int .i64 a2_5]] (by rfl) rfl rfl (by (try simp only [List.map_toArray, List.map_cons, List.map_nil]); first | done | rfl | (simp only [List.length_drop, List.length_take]; rfl)) ?_
            with_reducible refine (laws_toMotion.calls a2_0 a2_1 a2_2 a2_3 a2_4 a2_5 t338 t339 t340 t341 t342 t343 _ A5.out).mono ?_
            rintro e w18 ⟨rfl, hb⟩
            refine ⟨_, rfl, ?_⟩
            have n0_ := Aside0.mk (bbl BK333 hb)
            have n1_ := Aside0.mk (bbl BK334 hb)
            have n2_ := Aside0.mk (bbl BK351 hb)
            have n3_ := Aside0.mk (bst3 HB GE333 GE334 GE351 hb)
            clear BK333
            clear BK334
            clear BK351
            clear HB
            have BK333 := n0_
            have BK334 := n1_
            have BK351 := n2_
            have HB := n3_
            clear n0_ n1_ n2_ n3_
            (try clear hb)
            (try clear hb2)
            (try clear hk)
            (try clear hi)
            refine hK.out _ _ ⟨bcl BK333 0, bcl BK333 1, bcl BK333 2, bcl BK334 0, bcl BK334 1, bcl BK334 2, bcl BK334 3, bcl BK334 4, bcl BK334 5⟩ (fun hHeld => ?_)
            clear hK K
            refine norm_ (a' := ?_) ?_ ?_
            rotate_left
            · show Act.put _ (some 16) _ = _
              simp only [Act.put, List.setIfInBounds_toArray, List.set_cons_zero, List.set_cons_succ, i64_w, i32_w]
              rfl
            refine one_ (i := 5) (N := some 17) #[true, true, true, true, true, true, false, false, false, true, false, false] rfl rfl (one_of HT_.out (by kernel_rfl)) (by decide) (fun K hK => ?_)
            refine goes_ Try.func15 (by kernel_rfl) rfl #[.int .i64 a0, .agg #[.int .i64 t335, .int .i64 t336, .int .i64 t337], .agg #[.int .i64 t338, .int .i64 t339, .int .i64 t340, .int .i64 t341, .int .i64 t342, .int .i64 t343]] (by rfl) rfl rfl (by (try simp only [List.map_toArray, List.map_cons, List.map_nil]); first | done | rfl | (simp only [List.length_drop, List.length_take]; rfl)) ?_
            with_reducible refine (spec_ReduceMotion.calls k a0 t335 t336 t337 t338 t339 t340 t341 t342 t343 t344 t345 t346 t347 t348 t349 t350 _ A6.out).mono ?_
            rintro e w19 ⟨rfl, hb⟩
            refine ⟨_, rfl, ?_⟩
            have n0_ := Aside0.mk (bbl BK333 hb)
            have n1_ := Aside0.mk (bbl BK334 hb)
            have n2_ := Aside0.mk (bbl BK351 hb)
            have n3_ := Aside0.mk (bst3 HB GE333 GE334 GE351 hb)
            clear BK333
            clear BK334
            clear BK351
            clear HB
            have BK333 := n0_
            have BK334 := n1_
            have BK351 := n2_
            have HB := n3_
            clear n0_ n1_ n2_ n3_
            (try clear hb)
            (try clear hb2)
            (try clear hk)
            (try clear hi)
            refine hK.out _ _ ⟨bcl BK333 0, bcl BK333 1, bcl BK333 2, bcl BK334 0, bcl BK334 1, bcl BK334 2, bcl BK334 3, bcl BK334 4, bcl BK334 5⟩ (fun hHeld => ?_)
            clear hK K
            refine norm_ (a' := ?_) ?_ ?_
            rotate_left
            · show Act.put _ (some 17) _ = _
              simp only [Act.put, List.setIfInBounds_toArray, List.set_cons_zero, List.set_cons_succ, i64_w, i32_w]
              rfl
            refine pure_ (i := 6) (N := some 11) (v := ?_) (a' := ?_) #[true, true, true, true, true, true, true, false, false, true, false, false] rfl rfl (any_of HT_.out (by kernel_rfl)) (fun _ _ _ h => h) (Or.inl ⟨by rfl, ?_⟩) ?_ ?_
            rotate_left
            · intro w'
              go_simp
              with_reducible rfl
            rotate_left
            · simp only [Act.put, List.setIfInBounds_toArray, List.set_cons_zero, List.set_cons_succ, i64_w, i32_w]
              rfl
            refine pure_ (i := 7) (N := some 18) (v := ?_) (a' := ?_) #[true, true, true, true, true, true, true, true, false, true, false, false] rfl rfl (any_of HT_.out (by kernel_rfl)) (fun _ _ _ h => h) (Or.inl ⟨by rfl, ?_⟩) ?_ ?_
            rotate_left
            · intro w'
              go_simp
              with_reducible rfl
            rotate_left
            · simp only [Act.put, List.setIfInBounds_toArray, List.set_cons_zero, List.set_cons_succ, i64_w, i32_w]
              rfl
            refine pure_ (i := 8) (N := some 19) (v := ?_) (a' := ?_) #[true, true, true, true, true, true, true, true, true, true, false, false] rfl rfl (any_of HT_.out (by kernel_rfl)) (fun _ _ _ h => h) (Or.inl ⟨by rfl, ?_⟩) ?_ ?_
            rotate_left
            · intro w'
              go_simp
              with_reducible rfl
            rotate_left
            · simp only [Act.put, List.setIfInBounds_toArray, List.set_cons_zero, List.set_cons_succ, i64_w, i32_w]
              rfl
            exact norm_ (by simp only [putAll, Act.put, List.setIfInBounds_toArray, List.set_cons_zero, List.set_cons_succ]) (hCont (gb351) _ ⟨hHeld, (bkp BK333), (bkp BK334), (bkp BK351), GW351.out, GE351.out, NB333_351.out, NB351_333.out, NB334_351.out, NB351_334.out, (bbw3 HB GE333 GE334 GE351)⟩)
        · skip
          refine box_step ?hg (N := 7) ?hd (cs := #[.int .i64 0, .int .i64 0, .int .i64 0, .int .i64 0, .int .i64 0, .int .i64 0]) (t := 36) ?hr ?_; (case hd => rfl); (case hg => rfl); (case hr => first | (go_simp; done) | (go_simp; rfl))
          intro gb351 hg w16 hbox hb
          have n0_ := Aside0.mk (bbl BK333 hb)
          have n1_ := Aside0.mk (bbl BK334 hb)
          have n2_ := Aside0.mk (bst2 HB GE333 GE334 hb)
          have n3_ := Aside0.mk (hbox)
          have n4_ := Aside0.mk ((by rw [hg]; exact (bsz2 HB GE333 GE334) : w.heap.size ≤ gb351))
          have n5_ := Aside0.mk ((by rw [hg]; exact (bsz2 HB GE333 GE334) : w.heap.size ≤ gb351))
          have n6_ := Aside0.mk ((by rw [hg]; exact Nat.ne_of_lt (blt BK333) : gb333 ≠ gb351))
          have n7_ := Aside0.mk ((by rw [hg]; exact Nat.ne_of_gt (blt BK333) : gb351 ≠ gb333))
          have n8_ := Aside0.mk ((by rw [hg]; exact Nat.ne_of_lt (blt BK334) : gb334 ≠ gb351))
          have n9_ := Aside0.mk ((by rw [hg]; exact Nat.ne_of_gt (blt BK334) : gb351 ≠ gb334))
          clear BK333
          clear BK334
          clear HB
          have BK333 := n0_
          have BK334 := n1_
          have HB := n2_
          have BK351 := n3_
          have GW351 := n4_
          have GE351 := n5_
          have NB333_351 := n6_
          have NB351_333 := n7_
          have NB334_351 := n8_
          have NB351_334 := n9_
          clear n0_ n1_ n2_ n3_ n4_ n5_ n6_ n7_ n8_ n9_
          clear hb hbox hg
          refine hK.out _ _ ⟨bcl BK333 0, bcl BK333 1, bcl BK333 2, bcl BK334 0, bcl BK334 1, bcl BK334 2, bcl BK334 3, bcl BK334 4, bcl BK334 5⟩ (fun hHeld => ?_)
          clear hK K
          refine norm_ (a' := ?_) ?_ ?_
          rotate_left
          · show Act.put _ (some 7) _ = _
            simp only [Act.put, List.setIfInBounds_toArray, List.set_cons_zero, List.set_cons_succ, i64_w, i32_w]
            rfl
          refine one_ (i := 2) (N := some 14) #[true, true, true, true, false, false, false, false, false, true, false, false] rfl rfl (one_of HT_.out (by kernel_rfl)) (by decide) (fun K hK => ?_)
          refine goes_ Try.func12 (by kernel_rfl) rfl #[.agg #[.int .i64 a1_0, .int .i64 a1_1, .int .i64 a1_2]] (by rfl) rfl rfl (by (try simp only [List.map_toArray, List.map_cons, List.map_nil]); first | done | rfl | (simp only [List.length_drop, List.length_take]; rfl)) ?_
          with_reducible refine (laws_toLattice.calls a1_0 a1_1 a1_2 t335 t336 t337 _ A4.out).mono ?_
          rintro e w17 ⟨rfl, hb⟩
          refine ⟨_, rfl, ?_⟩
          have n0_ := Aside0.mk (bbl BK333 hb)
          have n1_ := Aside0.mk (bbl BK334 hb)
          have n2_ := Aside0.mk (bbl BK351 hb)
          have n3_ := Aside0.mk (bst3 HB GE333 GE334 GE351 hb)
          clear BK333
          clear BK334
          clear BK351
          clear HB
          have BK333 := n0_
          have BK334 := n1_
          have BK351 := n2_
          have HB := n3_
          clear n0_ n1_ n2_ n3_
          (try clear hb)
          (try clear hb2)
          (try clear hk)
          (try clear hi)
          refine hK.out _ _ ⟨bcl BK333 0, bcl BK333 1, bcl BK333 2, bcl BK334 0, bcl BK334 1, bcl BK334 2, bcl BK334 3, bcl BK334 4, bcl BK334 5⟩ (fun hHeld => ?_)
          clear hK K
          refine norm_ (a' := ?_) ?_ ?_
          rotate_left
          · show Act.put _ (some 14) _ = _
            simp only [Act.put, List.setIfInBounds_toArray, List.set_cons_zero, List.set_cons_succ, i64_w, i32_w]
            rfl
          refine one_ (i := 4) (N := some 16) #[true, true, true, true, true, false, false, false, false, true, false, false] rfl rfl (one_of HT_.out (by kernel_rfl)) (by decide) (fun K hK => ?_)
          refine goes_ Try.func13 (by kernel_rfl) rfl #[.agg #[.int .i64 a2_0, .int .i64 a2_1, .int .i64 a2_2, .int .i64 a2_3, .int .i64 a2_4, .int .i64 a2_5]] (by rfl) rfl rfl (by (try simp only [List.map_toArray, List.map_cons, List.map_nil]); first | done | rfl | (simp only [List.length_drop, List.length_take]; rfl)) ?_
          with_reducible refine (laws_toMotion.calls a2_0 a2_1 a2_2 a2_3 a2_4 a2_5 t338 t339 t340 t341 t342 t343 _ A5.out).mono ?_
          rintro e w18 ⟨rfl, hb⟩
          refine ⟨_, rfl, ?_⟩
          have n0_ := Aside0.mk (bbl BK333 hb)
          have n1_ := Aside0.mk (bbl BK334 hb)
          have n2_ := Aside0.mk (bbl BK351 hb)
          have n3_ := Aside0.mk (bst3 HB GE333 GE334 GE351 hb)
          clear BK333
          clear BK334
          clear BK351
          clear HB
          have BK333 := n0_
          have BK334 := n1_
          have BK351 := n2_
          have HB := n3_
          clear n0_ n1_ n2_ n3_
          (try clear hb)
          (try clear hb2)
          (try clear hk)
          (try clear hi)
          refine hK.out _ _ ⟨bcl BK333 0, bcl BK333 1, bcl BK333 2, bcl BK334 0, bcl BK334 1, bcl BK334 2, bcl BK334 3, bcl BK334 4, bcl BK334 5⟩ (fun hHeld => ?_)
          clear hK K
          refine norm_ (a' := ?_) ?_ ?_
          rotate_left
          · show Act.put _ (some 16) _ = _
            simp only [Act.put, List.setIfInBounds_toArray, List.set_cons_zero, List.set_cons_succ, i64_w, i32_w]
            rfl
          refine one_ (i := 5) (N := some 17) #[true, true, true, true, true, true, false, false, false, true, false, false] rfl rfl (one_of HT_.out (by kernel_rfl)) (by decide) (fun K hK => ?_)
          refine goes_ Try.func15 (by kernel_rfl) rfl #[.int .i64 a0, .agg #[.int .i64 t335, .int .i64 t336, .int .i64 t337], .agg #[.int .i64 t338, .int .i64 t339, .int .i64 t340, .int .i64 t341, .int .i64 t342, .int .i64 t343]] (by rfl) rfl rfl (by (try simp only [List.map_toArray, List.map_cons, List.map_nil]); first | done | rfl | (simp only [List.length_drop, List.length_take]; rfl)) ?_
          with_reducible refine (spec_ReduceMotion.calls k a0 t335 t336 t337 t338 t339 t340 t341 t342 t343 t344 t345 t346 t347 t348 t349 t350 _ A6.out).mono ?_
          rintro e w19 ⟨rfl, hb⟩
          refine ⟨_, rfl, ?_⟩
          have n0_ := Aside0.mk (bbl BK333 hb)
          have n1_ := Aside0.mk (bbl BK334 hb)
          have n2_ := Aside0.mk (bbl BK351 hb)
          have n3_ := Aside0.mk (bst3 HB GE333 GE334 GE351 hb)
          clear BK333
          clear BK334
          clear BK351
          clear HB
          have BK333 := n0_
          have BK334 := n1_
          have BK351 := n2_
          have HB := n3_
          clear n0_ n1_ n2_ n3_
          (try clear hb)
          (try clear hb2)
          (try clear hk)
          (try clear hi)
          refine hK.out _ _ ⟨bcl BK333 0, bcl BK333 1, bcl BK333 2, bcl BK334 0, bcl BK334 1, bcl BK334 2, bcl BK334 3, bcl BK334 4, bcl BK334 5⟩ (fun hHeld => ?_)
          clear hK K
          refine norm_ (a' := ?_) ?_ ?_
          rotate_left
          · show Act.put _ (some 17) _ = _
            simp only [Act.put, List.setIfInBounds_toArray, List.set_cons_zero, List.set_cons_succ, i64_w, i32_w]
            rfl
          refine pure_ (i := 6) (N := some 11) (v := ?_) (a' := ?_) #[true, true, true, true, true, true, true, false, false, true, false, false] rfl rfl (any_of HT_.out (by kernel_rfl)) (fun _ _ _ h => h) (Or.inl ⟨by rfl, ?_⟩) ?_ ?_
          rotate_left
          · intro w'
            go_simp
            with_reducible rfl
          rotate_left
          · simp only [Act.put, List.setIfInBounds_toArray, List.set_cons_zero, List.set_cons_succ, i64_w, i32_w]
            rfl
          refine pure_ (i := 7) (N := some 18) (v := ?_) (a' := ?_) #[true, true, true, true, true, true, true, true, false, true, false, false] rfl rfl (any_of HT_.out (by kernel_rfl)) (fun _ _ _ h => h) (Or.inl ⟨by rfl, ?_⟩) ?_ ?_
          rotate_left
          · intro w'
            go_simp
            with_reducible rfl
          rotate_left
          · simp only [Act.put, List.setIfInBounds_toArray, List.set_cons_zero, List.set_cons_succ, i64_w, i32_w]
            rfl
          refine pure_ (i := 8) (N := some 19) (v := ?_) (a' := ?_) #[true, true, true, true, true, true, true, true, true, true, false, false] rfl rfl (any_of HT_.out (by kernel_rfl)) (fun _ _ _ h => h) (Or.inl ⟨by rfl, ?_⟩) ?_ ?_
          rotate_left
          · intro w'
            go_simp
            with_reducible rfl
          rotate_left
          · simp only [Act.put, List.setIfInBounds_toArray, List.set_cons_zero, List.set_cons_succ, i64_w, i32_w]
            rfl
          exact norm_ (by simp only [putAll, Act.put, List.setIfInBounds_toArray, List.set_cons_zero, List.set_cons_succ]) (hCont (gb351) _ ⟨hHeld, (bkp BK333), (bkp BK334), (bkp BK351), GW351.out, GE351.out, NB333_351.out, NB351_333.out, NB334_351.out, NB351_334.out, (bbw3 HB GE333 GE334 GE351)⟩)
      rintro gb351 w20 ⟨hS_, h0_, h1_, h2_, h3_, h4_, h5_, h6_, h7_, h8_, h9_⟩
      have n0_ : Aside0 (w20.heap[gb333]? = some (.cells #[.int .i64 a1_0, .int .i64 a1_1, .int .i64 a1_2] 23 (0, 0))) := ⟨h0_⟩
      have n1_ : Aside0 (w20.heap[gb334]? = some (.cells #[.int .i64 a2_0, .int .i64 a2_1, .int .i64 a2_2, .int .i64 a2_3, .int .i64 a2_4, .int .i64 a2_5] 29 (0, 0))) := ⟨h1_⟩
      have n2_ : Aside0 (w20.heap[gb351]? = some (.cells #[.int .i64 0, .int .i64 0, .int .i64 0, .int .i64 0, .int .i64 0, .int .i64 0] 36 (0, 0))) := ⟨h2_⟩
      have n3_ : Aside0 (w.heap.size ≤ gb351) := ⟨h3_⟩
      have n4_ : Aside0 (w.heap.size ≤ gb351) := ⟨h4_⟩
      have n5_ : Aside0 (gb333 ≠ gb351) := ⟨h5_⟩
      have n6_ : Aside0 (gb351 ≠ gb333) := ⟨h6_⟩
      have n7_ : Aside0 (gb334 ≠ gb351) := ⟨h7_⟩
      have n8_ : Aside0 (gb351 ≠ gb334) := ⟨h8_⟩
      have n9_ : Aside0 (Below w.heap.size w w20) := ⟨h9_⟩
      clear BK333
      clear BK334
      clear HB
      clear h0_ h1_ h2_ h3_ h4_ h5_ h6_ h7_ h8_ h9_
      have BK333 := n0_
      have BK334 := n1_
      have BK351 := n2_
      have GW351 := n3_
      have GE351 := n4_
      have NB333_351 := n5_
      have NB351_333 := n6_
      have NB334_351 := n7_
      have NB351_334 := n8_
      have HB := n9_
      clear n0_ n1_ n2_ n3_ n4_ n5_ n6_ n7_ n8_ n9_
      have hHeld : w20.cell? ⟨gb333, 0, none⟩ = some (.int .i64 a1_0) ∧ w20.cell? ⟨gb333, 1, none⟩ = some (.int .i64 a1_1) ∧ w20.cell? ⟨gb333, 2, none⟩ = some (.int .i64 a1_2) ∧ w20.cell? ⟨gb334, 0, none⟩ = some (.int .i64 a2_0) ∧ w20.cell? ⟨gb334, 1, none⟩ = some (.int .i64 a2_1) ∧ w20.cell? ⟨gb334, 2, none⟩ = some (.int .i64 a2_2) ∧ w20.cell? ⟨gb334, 3, none⟩ = some (.int .i64 a2_3) ∧ w20.cell? ⟨gb334, 4, none⟩ = some (.int .i64 a2_4) ∧ w20.cell? ⟨gb334, 5, none⟩ = some (.int .i64 a2_5) := hS_
      refine norm_ (a' := ?_) ?_ ?_
      rotate_left
      · simp only [putAll, Act.put, List.setIfInBounds_toArray, List.set_cons_zero, List.set_cons_succ]
        rfl
      refine one_ (i := 10) (N := none) #[true, true, true, true, true, true, true, true, true, true, true, false] rfl rfl (one_of HT_.out (by kernel_rfl)) (by decide) (fun K hK => ?_)
      have hs21 : w20.cell? ⟨gb351, 0, none⟩ = some (.int .i64 0) := bcl BK351 0
      have hfs21 := blk_frozen BK351.out 0
      have hns21_0 := NB333_351.out
      have hns21_1 := NB334_351.out
      have hms21_0 := NB351_333.out
      have hms21_1 := NB351_334.out
      have hs22 : w20.cell? ⟨gb351, 1, none⟩ = some (.int .i64 0) := bcl BK351 1
      have hfs22 := blk_frozen BK351.out 1
      have hns22_0 := NB333_351.out
      have hns22_1 := NB334_351.out
      have hms22_0 := NB351_333.out
      have hms22_1 := NB351_334.out
      have hs23 : w20.cell? ⟨gb351, 2, none⟩ = some (.int .i64 0) := bcl BK351 2
      have hfs23 := blk_frozen BK351.out 2
      have hns23_0 := NB333_351.out
      have hns23_1 := NB334_351.out
      have hms23_0 := NB351_333.out
      have hms23_1 := NB351_334.out
      have hs24 : w20.cell? ⟨gb351, 3, none⟩ = some (.int .i64 0) := bcl BK351 3
      have hfs24 := blk_frozen BK351.out 3
      have hns24_0 := NB333_351.out
      have hns24_1 := NB334_351.out
      have hms24_0 := NB351_333.out
      have hms24_1 := NB351_334.out
      have hs25 : w20.cell? ⟨gb351, 4, none⟩ = some (.int .i64 0) := bcl BK351 4
      have hfs25 := blk_frozen BK351.out 4
      have hns25_0 := NB333_351.out
      have hns25_1 := NB334_351.out
      have hms25_0 := NB351_333.out
      have hms25_1 := NB351_334.out
      have hs26 : w20.cell? ⟨gb351, 5, none⟩ = some (.int .i64 0) := bcl BK351 5
      have hfs26 := blk_frozen BK351.out 5
      have hns26_0 := NB333_351.out
      have hns26_1 := NB334_351.out
      have hms26_0 := NB351_333.out
      have hms26_1 := NB351_334.out
      refine skip_ (w1 := ?_) (by rfl) rfl ?_ ?_
      rotate_left
      · go_simp
        rfl
      refine hK.out _ _ ⟨((cell_far (p := ⟨gb351, _, none⟩) NB333_351.out _).trans (((cell_far (p := ⟨gb351, _, none⟩) NB333_351.out _).trans (((cell_far (p := ⟨gb351, _, none⟩) NB333_351.out _).trans (((cell_far (p := ⟨gb351, _, none⟩) NB333_351.out _).trans (((cell_far (p := ⟨gb351, _, none⟩) NB333_351.out _).trans (((cell_far (p := ⟨gb351, _, none⟩) NB333_351.out _).trans (hHeld.1)))))))))))), ((cell_far (p := ⟨gb351, _, none⟩) NB333_351.out _).trans (((cell_far (p := ⟨gb351, _, none⟩) NB333_351.out _).trans (((cell_far (p := ⟨gb351, _, none⟩) NB333_351.out _).trans (((cell_far (p := ⟨gb351, _, none⟩) NB333_351.out _).trans (((cell_far (p := ⟨gb351, _, none⟩) NB333_351.out _).trans (((cell_far (p := ⟨gb351, _, none⟩) NB333_351.out _).trans (hHeld.2.1)))))))))))), ((cell_far (p := ⟨gb351, _, none⟩) NB333_351.out _).trans (((cell_far (p := ⟨gb351, _, none⟩) NB333_351.out _).trans (((cell_far (p := ⟨gb351, _, none⟩) NB333_351.out _).trans (((cell_far (p := ⟨gb351, _, none⟩) NB333_351.out _).trans (((cell_far (p := ⟨gb351, _, none⟩) NB333_351.out _).trans (((cell_far (p := ⟨gb351, _, none⟩) NB333_351.out _).trans (hHeld.2.2.1)))))))))))), ((cell_far (p := ⟨gb351, _, none⟩) NB334_351.out _).trans (((cell_far (p := ⟨gb351, _, none⟩) NB334_351.out _).trans (((cell_far (p := ⟨gb351, _, none⟩) NB334_351.out _).trans (((cell_far (p := ⟨gb351, _, none⟩) NB334_351.out _).trans (((cell_far (p := ⟨gb351, _, none⟩) NB334_351.out _).trans (((cell_far (p := ⟨gb351, _, none⟩) NB334_351.out _).trans (hHeld.2.2.2.1)))))))))))), ((cell_far (p := ⟨gb351, _, none⟩) NB334_351.out _).trans (((cell_far (p := ⟨gb351, _, none⟩) NB334_351.out _).trans (((cell_far (p := ⟨gb351, _, none⟩) NB334_351.out _).trans (((cell_far (p := ⟨gb351, _, none⟩) NB334_351.out _).trans (((cell_far (p := ⟨gb351, _, none⟩) NB334_351.out _).trans (((cell_far (p := ⟨gb351, _, none⟩) NB334_351.out _).trans (hHeld.2.2.2.2.1)))))))))))), ((cell_far (p := ⟨gb351, _, none⟩) NB334_351.out _).trans (((cell_far (p := ⟨gb351, _, none⟩) NB334_351.out _).trans (((cell_far (p := ⟨gb351, _, none⟩) NB334_351.out _).trans (((cell_far (p := ⟨gb351, _, none⟩) NB334_351.out _).trans (((cell_far (p := ⟨gb351, _, none⟩) NB334_351.out _).trans (((cell_far (p := ⟨gb351, _, none⟩) NB334_351.out _).trans (hHeld.2.2.2.2.2.1)))))))))))), ((cell_far (p := ⟨gb351, _, none⟩) NB334_351.out _).trans (((cell_far (p := ⟨gb351, _, none⟩) NB334_351.out _).trans (((cell_far (p := ⟨gb351, _, none⟩) NB334_351.out _).trans (((cell_far (p := ⟨gb351, _, none⟩) NB334_351.out _).trans (((cell_far (p := ⟨gb351, _, none⟩) NB334_351.out _).trans (((cell_far (p := ⟨gb351, _, none⟩) NB334_351.out _).trans (hHeld.2.2.2.2.2.2.1)))))))))))), ((cell_far (p := ⟨gb351, _, none⟩) NB334_351.out _).trans (((cell_far (p := ⟨gb351, _, none⟩) NB334_351.out _).trans (((cell_far (p := ⟨gb351, _, none⟩) NB334_351.out _).trans (((cell_far (p := ⟨gb351, _, none⟩) NB334_351.out _).trans (((cell_far (p := ⟨gb351, _, none⟩) NB334_351.out _).trans (((cell_far (p := ⟨gb351, _, none⟩) NB334_351.out _).trans (hHeld.2.2.2.2.2.2.2.1)))))))))))), ((cell_far (p := ⟨gb351, _, none⟩) NB334_351.out _).trans (((cell_far (p := ⟨gb351, _, none⟩) NB334_351.out _).trans (((cell_far (p := ⟨gb351, _, none⟩) NB334_351.out _).trans (((cell_far (p := ⟨gb351, _, none⟩) NB334_351.out _).trans (((cell_far (p := ⟨gb351, _, none⟩) NB334_351.out _).trans (((cell_far (p := ⟨gb351, _, none⟩) NB334_351.out _).trans (hHeld.2.2.2.2.2.2.2.2))))))))))))⟩ (fun hHeld => ?_)
      clear hK K
      refine pure_ (i := 11) (N := some 8) (v := ?_) (a' := ?_) #[true, true, true, true, true, true, true, true, true, true, true, true] rfl rfl (any_of HT_.out (by kernel_rfl)) (fun _ _ _ h => h) (Or.inl ⟨by rfl, ?_⟩) ?_ ?_
      rotate_left
      · intro w'
        go_simp
        with_reducible rfl
      rotate_left
      · simp only [Act.put, List.setIfInBounds_toArray, List.set_cons_zero, List.set_cons_succ, i64_w, i32_w]
        rfl
      refine done_ (done_of HT_.out (by kernel_rfl)) ?_
      try go_wp2
      have n0_ : Aside0 (((((((w20.setCell ⟨gb351, 0, none⟩ (.int .i64 t344)).setCell ⟨gb351, 1, none⟩ (.int .i64 t345)).setCell ⟨gb351, 2, none⟩ (.int .i64 t346)).setCell ⟨gb351, 3, none⟩ (.int .i64 t347)).setCell ⟨gb351, 4, none⟩ (.int .i64 t348)).setCell ⟨gb351, 5, none⟩ (.int .i64 t349)).heap[gb333]? = some (.cells #[.int .i64 a1_0, .int .i64 a1_1, .int .i64 a1_2] 23 (0, 0))) := ⟨by (with_reducible repeat (first | refine blk_drewN ?_ _ | refine blk_drew ?_ | refine blk_alloc ?_ _)); refine blk_far ?_ NB333_351.out _; (with_reducible repeat (first | refine blk_drewN ?_ _ | refine blk_drew ?_ | refine blk_alloc ?_ _)); refine blk_far ?_ NB333_351.out _; (with_reducible repeat (first | refine blk_drewN ?_ _ | refine blk_drew ?_ | refine blk_alloc ?_ _)); refine blk_far ?_ NB333_351.out _; (with_reducible repeat (first | refine blk_drewN ?_ _ | refine blk_drew ?_ | refine blk_alloc ?_ _)); refine blk_far ?_ NB333_351.out _; (with_reducible repeat (first | refine blk_drewN ?_ _ | refine blk_drew ?_ | refine blk_alloc ?_ _)); refine blk_far ?_ NB333_351.out _; (with_reducible repeat (first | refine blk_drewN ?_ _ | refine blk_drew ?_ | refine blk_alloc ?_ _)); refine blk_far ?_ NB333_351.out _; (with_reducible repeat (first | refine blk_drewN ?_ _ | refine blk_drew ?_ | refine blk_alloc ?_ _)); exact BK333.out⟩
      have n1_ : Aside0 (((((((w20.setCell ⟨gb351, 0, none⟩ (.int .i64 t344)).setCell ⟨gb351, 1, none⟩ (.int .i64 t345)).setCell ⟨gb351, 2, none⟩ (.int .i64 t346)).setCell ⟨gb351, 3, none⟩ (.int .i64 t347)).setCell ⟨gb351, 4, none⟩ (.int .i64 t348)).setCell ⟨gb351, 5, none⟩ (.int .i64 t349)).heap[gb334]? = some (.cells #[.int .i64 a2_0, .int .i64 a2_1, .int .i64 a2_2, .int .i64 a2_3, .int .i64 a2_4, .int .i64 a2_5] 29 (0, 0))) := ⟨by (with_reducible repeat (first | refine blk_drewN ?_ _ | refine blk_drew ?_ | refine blk_alloc ?_ _)); refine blk_far ?_ NB334_351.out _; (with_reducible repeat (first | refine blk_drewN ?_ _ | refine blk_drew ?_ | refine blk_alloc ?_ _)); refine blk_far ?_ NB334_351.out _; (with_reducible repeat (first | refine blk_drewN ?_ _ | refine blk_drew ?_ | refine blk_alloc ?_ _)); refine blk_far ?_ NB334_351.out _; (with_reducible repeat (first | refine blk_drewN ?_ _ | refine blk_drew ?_ | refine blk_alloc ?_ _)); refine blk_far ?_ NB334_351.out _; (with_reducible repeat (first | refine blk_drewN ?_ _ | refine blk_drew ?_ | refine blk_alloc ?_ _)); refine blk_far ?_ NB334_351.out _; (with_reducible repeat (first | refine blk_drewN ?_ _ | refine blk_drew ?_ | refine blk_alloc ?_ _)); refine blk_far ?_ NB334_351.out _; (with_reducible repeat (first | refine blk_drewN ?_ _ | refine blk_drew ?_ | refine blk_alloc ?_ _)); exact BK334.out⟩
      have n2_ : Aside0 (((((((w20.setCell ⟨gb351, 0, none⟩ (.int .i64 t344)).setCell ⟨gb351, 1, none⟩ (.int .i64 t345)).setCell ⟨gb351, 2, none⟩ (.int .i64 t346)).setCell ⟨gb351, 3, none⟩ (.int .i64 t347)).setCell ⟨gb351, 4, none⟩ (.int .i64 t348)).setCell ⟨gb351, 5, none⟩ (.int .i64 t349)).heap[gb351]? = some (.cells #[.int .i64 t344, .int .i64 t345, .int .i64 t346, .int .i64 t347, .int .i64 t348, .int .i64 t349] 36 (0, 0))) := ⟨by (with_reducible repeat (first | refine blk_drewN ?_ _ | refine blk_drew ?_ | refine blk_alloc ?_ _)); refine blk_put (cs := #[.int .i64 t344, .int .i64 t345, .int .i64 t346, .int .i64 t347, .int .i64 t348, .int .i64 0]) ?_ 5 _ rfl; (with_reducible repeat (first | refine blk_drewN ?_ _ | refine blk_drew ?_ | refine blk_alloc ?_ _)); refine blk_put (cs := #[.int .i64 t344, .int .i64 t345, .int .i64 t346, .int .i64 t347, .int .i64 0, .int .i64 0]) ?_ 4 _ rfl; (with_reducible repeat (first | refine blk_drewN ?_ _ | refine blk_drew ?_ | refine blk_alloc ?_ _)); refine blk_put (cs := #[.int .i64 t344, .int .i64 t345, .int .i64 t346, .int .i64 0, .int .i64 0, .int .i64 0]) ?_ 3 _ rfl; (with_reducible repeat (first | refine blk_drewN ?_ _ | refine blk_drew ?_ | refine blk_alloc ?_ _)); refine blk_put (cs := #[.int .i64 t344, .int .i64 t345, .int .i64 0, .int .i64 0, .int .i64 0, .int .i64 0]) ?_ 2 _ rfl; (with_reducible repeat (first | refine blk_drewN ?_ _ | refine blk_drew ?_ | refine blk_alloc ?_ _)); refine blk_put (cs := #[.int .i64 t344, .int .i64 0, .int .i64 0, .int .i64 0, .int .i64 0, .int .i64 0]) ?_ 1 _ rfl; (with_reducible repeat (first | refine blk_drewN ?_ _ | refine blk_drew ?_ | refine blk_alloc ?_ _)); refine blk_put (cs := #[.int .i64 0, .int .i64 0, .int .i64 0, .int .i64 0, .int .i64 0, .int .i64 0]) ?_ 0 _ rfl; (with_reducible repeat (first | refine blk_drewN ?_ _ | refine blk_drew ?_ | refine blk_alloc ?_ _)); exact BK351.out⟩
      have n3_ : Aside0 (Below w.heap.size w ((((((w20.setCell ⟨gb351, 0, none⟩ (.int .i64 t344)).setCell ⟨gb351, 1, none⟩ (.int .i64 t345)).setCell ⟨gb351, 2, none⟩ (.int .i64 t346)).setCell ⟨gb351, 3, none⟩ (.int .i64 t347)).setCell ⟨gb351, 4, none⟩ (.int .i64 t348)).setCell ⟨gb351, 5, none⟩ (.int .i64 t349))) := ⟨bbw3 HB GE333 GE334 GE351⟩
      (try clear BK333)
      (try clear BK334)
      (try clear BK351)
      (try clear HB)
      generalize ((((((w20.setCell ⟨gb351, 0, none⟩ (.int .i64 t344)).setCell ⟨gb351, 1, none⟩ (.int .i64 t345)).setCell ⟨gb351, 2, none⟩ (.int .i64 t346)).setCell ⟨gb351, 3, none⟩ (.int .i64 t347)).setCell ⟨gb351, 4, none⟩ (.int .i64 t348)).setCell ⟨gb351, 5, none⟩ (.int .i64 t349)) = w27 at n0_ n1_ n2_ n3_ ⊢
      have BK333 := n0_
      have BK334 := n1_
      have BK351 := n2_
      have HB := n3_
      clear n0_ n1_ n2_ n3_
      have n0_ := Aside0.mk (blk_drew BK333.out)
      have n1_ := Aside0.mk (blk_drew BK334.out)
      have n2_ := Aside0.mk (blk_drew BK351.out)
      have n3_ := Aside0.mk (below_drew1 HB.out)
      clear BK333
      clear BK334
      clear BK351
      clear HB
      have BK333 := n0_
      have BK334 := n1_
      have BK351 := n2_
      have HB := n3_
      clear n0_ n1_ n2_ n3_
      refine start_ (n := 12) (S := fun w' => w'.cell? ⟨gb333, 0, none⟩ = some (.int .i64 a1_0) ∧ w'.cell? ⟨gb333, 1, none⟩ = some (.int .i64 a1_1) ∧ w'.cell? ⟨gb333, 2, none⟩ = some (.int .i64 a1_2) ∧ w'.cell? ⟨gb334, 0, none⟩ = some (.int .i64 a2_0) ∧ w'.cell? ⟨gb334, 1, none⟩ = some (.int .i64 a2_1) ∧ w'.cell? ⟨gb334, 2, none⟩ = some (.int .i64 a2_2) ∧ w'.cell? ⟨gb334, 3, none⟩ = some (.int .i64 a2_3) ∧ w'.cell? ⟨gb334, 4, none⟩ = some (.int .i64 a2_4) ∧ w'.cell? ⟨gb334, 5, none⟩ = some (.int .i64 a2_5)) (ds := []) #[false, false, false, false, false, false, false, false, false, false, false, false] (by kernel_rfl) rfl rfl ⟨bcl BK333 0, bcl BK333 1, bcl BK333 2, bcl BK334 0, bcl BK334 1, bcl BK334 2, bcl BK334 3, bcl BK334 4, bcl BK334 5⟩ (fun hHeld => ?_); refine with_tabW laws_FnExactReduceMotion.tab2 laws_FnExactReduceMotion.bits2 (fun HT_ HW_ => ?_)
      generalize w27.drew = w28 at BK333 BK334 BK351 HB hHeld ⊢
      refine pure_ (i := 0) (N := some 21) (v := ?_) (a' := ?_) #[true, false, false, false, false, false, false, false, false, false, false, false] rfl rfl (any_of HT_.out (by kernel_rfl)) (fun _ _ _ h => h) (Or.inl ⟨by rfl, ?_⟩) ?_ ?_
      rotate_left
      · intro w'
        go_simp
        with_reducible rfl
      rotate_left
      · simp only [Act.put, List.setIfInBounds_toArray, List.set_cons_zero, List.set_cons_succ, i64_w, i32_w]
        rfl
      refine take_ (i := 1) (N := some 22) (v := ?_) (a' := ?_) #[true, true, false, false, false, false, false, false, false, false, false, false] rfl rfl (take_ofW HT_.out HW_.out (by kernel_rfl)) (fun _ _ _ h => h) (Or.inl ⟨by rfl, ?_⟩) hHeld ?_ ?_
      rotate_left
      · rintro w' ⟨s0, s1, s2, s3, s4, s5, s6, s7, s8⟩
        go_simp
        with_reducible rfl
      rotate_left
      · simp only [Act.put, List.setIfInBounds_toArray, List.set_cons_zero, List.set_cons_succ, i64_w, i32_w]
        rfl
      refine take_ (i := 3) (N := some 24) (v := ?_) (a' := ?_) #[true, true, false, true, false, false, false, false, false, false, false, false] rfl rfl (take_ofW HT_.out HW_.out (by kernel_rfl)) (fun _ _ _ h => h) (Or.inl ⟨by rfl, ?_⟩) hHeld ?_ ?_
      rotate_left
      · rintro w' ⟨s0, s1, s2, s3, s4, s5, s6, s7, s8⟩
        go_simp
        with_reducible rfl
      rotate_left
      · simp only [Act.put, List.setIfInBounds_toArray, List.set_cons_zero, List.set_cons_succ, i64_w, i32_w]
        rfl
      refine join_ (σ := Nat) 2 #[true, true, true, true, true, true, true, true, true, true, false, false] (fun s_ => [(23, .agg #[.int .i64 t352, .int .i64 t353, .int .i64 t354]), (25, .agg #[.int .i64 t355, .int .i64 t356, .int .i64 t357, .int .i64 t358, .int .i64 t359, .int .i64 t360]), (26, .tuple #[.agg #[.int .i64 t361, .int .i64 t362, .int .i64 t363, .int .i64 t364, .int .i64 t365, .int .i64 t366], .int .i64 t367]), (9, .pointer (some ⟨s_, 0, none⟩)), (20, .tuple #[.agg #[.int .i64 t361, .int .i64 t362, .int .i64 t363, .int .i64 t364, .int .i64 t365, .int .i64 t366], .int .i64 t367]), (27, .agg #[.int .i64 t361, .int .i64 t362, .int .i64 t363, .int .i64 t364, .int .i64 t365, .int .i64 t366]), (28, .int .i64 t367)]) (fun s_ w' => (w'.cell? ⟨gb333, 0, none⟩ = some (.int .i64 a1_0) ∧ w'.cell? ⟨gb333, 1, none⟩ = some (.int .i64 a1_1) ∧ w'.cell? ⟨gb333, 2, none⟩ = some (.int .i64 a1_2) ∧ w'.cell? ⟨gb334, 0, none⟩ = some (.int .i64 a2_0) ∧ w'.cell? ⟨gb334, 1, none⟩ = some (.int .i64 a2_1) ∧ w'.cell? ⟨gb334, 2, none⟩ = some (.int .i64 a2_2) ∧ w'.cell? ⟨gb334, 3, none⟩ = some (.int .i64 a2_3) ∧ w'.cell? ⟨gb334, 4, none⟩ = some (.int .i64 a2_4) ∧ w'.cell? ⟨gb334, 5, none⟩ = some (.int .i64 a2_5)) ∧ (w'.heap[gb333]? = some (.cells #[.int .i64 a1_0, .int .i64 a1_1, .int .i64 a1_2] 23 (0, 0))) ∧ (w'.heap[gb334]? = some (.cells #[.int .i64 a2_0, .int .i64 a2_1, .int .i64 a2_2, .int .i64 a2_3, .int .i64 a2_4, .int .i64 a2_5] 29 (0, 0))) ∧ (w'.heap[gb351]? = some (.cells #[.int .i64 t344, .int .i64 t345, .int .i64 t346, .int .i64 t347, .int .i64 t348, .int .i64 t349] 36 (0, 0))) ∧ (w'.heap[s_]? = some (.cells #[.int .i64 0, .int .i64 0, .int .i64 0, .int .i64 0, .int .i64 0, .int .i64 0] 36 (0, 0))) ∧ (w.heap.size ≤ s_) ∧ (w.heap.size ≤ s_) ∧ (gb333 ≠ s_) ∧ (s_ ≠ gb333) ∧ (gb334 ≠ s_) ∧ (s_ ≠ gb334) ∧ (gb351 ≠ s_) ∧ (s_ ≠ gb351) ∧ (Below w.heap.size w w')) ?_ ?_
      rotate_left
      · intro hCont
        refine two_ (i := 2) (j := 9) (Ni := some 23) (Nj := some 9) #[true, true, true, true, false, false, false, false, false, false, false, false] #[true, true, false, true, false, false, false, false, false, true, false, false] rfl rfl rfl rfl (two_of HT_.out (by kernel_rfl)) (by decide) (by decide) (fun K hK => ?_) (fun K hK => ?_)
        · skip
          refine goes_ Try.func12 (by kernel_rfl) rfl #[.agg #[.int .i64 a1_0, .int .i64 a1_1, .int .i64 a1_2]] (by rfl) rfl rfl (by (try simp only [List.map_toArray, List.map_cons, List.map_nil]); first | done | rfl | (simp only [List.length_drop, List.length_take]; rfl)) ?_
          with_reducible refine (laws_toLattice.calls a1_0 a1_1 a1_2 t352 t353 t354 _ A7.out).mono ?_
          rintro e w29 ⟨rfl, hb⟩
          refine ⟨_, rfl, ?_⟩
          have n0_ := Aside0.mk (bbl BK333 hb)
          have n1_ := Aside0.mk (bbl BK334 hb)
          have n2_ := Aside0.mk (bbl BK351 hb)
          have n3_ := Aside0.mk (bst3 HB GE333 GE334 GE351 hb)
          clear BK333
          clear BK334
          clear BK351
          clear HB
          have BK333 := n0_
          have BK334 := n1_
          have BK351 := n2_
          have HB := n3_
          clear n0_ n1_ n2_ n3_
          (try clear hb)
          (try clear hb2)
          (try clear hk)
          (try clear hi)
          refine hK.out _ _ ⟨bcl BK333 0, bcl BK333 1, bcl BK333 2, bcl BK334 0, bcl BK334 1, bcl BK334 2, bcl BK334 3, bcl BK334 4, bcl BK334 5⟩ (fun hHeld => ?_)
          clear hK K
          refine norm_ (a' := ?_) ?_ ?_
          rotate_left
          · show Act.put _ (some 23) _ = _
            simp only [Act.put, List.setIfInBounds_toArray, List.set_cons_zero, List.set_cons_succ, i64_w, i32_w]
            rfl
          refine two_ (i := 4) (j := 9) (Ni := some 25) (Nj := some 9) #[true, true, true, true, true, false, false, false, false, false, false, false] #[true, true, true, true, false, false, false, false, false, true, false, false] rfl rfl rfl rfl (two_of HT_.out (by kernel_rfl)) (by decide) (by decide) (fun K hK => ?_) (fun K hK => ?_)
          · skip
            refine goes_ Try.func13 (by kernel_rfl) rfl #[.agg #[.int .i64 a2_0, .int .i64 a2_1, .int .i64 a2_2, .int .i64 a2_3, .int .i64 a2_4, .int .i64 a2_5]] (by rfl) rfl rfl (by (try simp only [List.map_toArray, List.map_cons, List.map_nil]); first | done | rfl | (simp only [List.length_drop, List.length_take]; rfl)) ?_
            with_reducible refine (laws_toMotion.calls a2_0 a2_1 a2_2 a2_3 a2_4 a2_5 t355 t356 t357 t358 t359 t360 _ A8.out).mono ?_
            rintro e w30 ⟨rfl, hb⟩
            refine ⟨_, rfl, ?_⟩
            have n0_ := Aside0.mk (bbl BK333 hb)
            have n1_ := Aside0.mk (bbl BK334 hb)
            have n2_ := Aside0.mk (bbl BK351 hb)
            have n3_ := Aside0.mk (bst3 HB GE333 GE334 GE351 hb)
            clear BK333
            clear BK334
            clear BK351
            clear HB
            have BK333 := n0_
            have BK334 := n1_
            have BK351 := n2_
            have HB := n3_
            clear n0_ n1_ n2_ n3_
            (try clear hb)
            (try clear hb2)
            (try clear hk)
            (try clear hi)
            refine hK.out _ _ ⟨bcl BK333 0, bcl BK333 1, bcl BK333 2, bcl BK334 0, bcl BK334 1, bcl BK334 2, bcl BK334 3, bcl BK334 4, bcl BK334 5⟩ (fun hHeld => ?_)
            clear hK K
            refine norm_ (a' := ?_) ?_ ?_
            rotate_left
            · show Act.put _ (some 25) _ = _
              simp only [Act.put, List.setIfInBounds_toArray, List.set_cons_zero, List.set_cons_succ, i64_w, i32_w]
              rfl
            refine two_ (i := 5) (j := 9) (Ni := some 26) (Nj := some 9) #[true, true, true, true, true, true, false, false, false, false, false, false] #[true, true, true, true, true, false, false, false, false, true, false, false] rfl rfl rfl rfl (two_of HT_.out (by kernel_rfl)) (by decide) (by decide) (fun K hK => ?_) (fun K hK => ?_)
            · skip
              refine goes_ Try.func16 (by kernel_rfl) rfl #[.int .i64 a0, .agg #[.int .i64 t352, .int .i64 t353, .int .i64 t354], .agg #[.int .i64 t355, .int .i64 t356, .int .i64 t357, .int .i64 t358, .int .i64 t359, .int .i64 t360]] (by rfl) rfl rfl (by (try simp only [List.map_toArray, List.map_cons, List.map_nil]); first | done | rfl | (simp only [List.length_drop, List.length_take]; rfl)) ?_
              with_reducible refine (impl_ReduceMotion.calls k a0 t352 t353 t354 t355 t356 t357 t358 t359 t360 t361 t362 t363 t364 t365 t366 t367 _ A9.out).mono ?_
              rintro e w31 ⟨rfl, hb⟩
              refine ⟨_, rfl, ?_⟩
              have n0_ := Aside0.mk (bbl BK333 hb)
              have n1_ := Aside0.mk (bbl BK334 hb)
              have n2_ := Aside0.mk (bbl BK351 hb)
              have n3_ := Aside0.mk (bst3 HB GE333 GE334 GE351 hb)
              clear BK333
              clear BK334
              clear BK351
              clear HB
              have BK333 := n0_
              have BK334 := n1_
              have BK351 := n2_
              have HB := n3_
              clear n0_ n1_ n2_ n3_
              (try clear hb)
              (try clear hb2)
              (try clear hk)
              (try clear hi)
              refine hK.out _ _ ⟨bcl BK333 0, bcl BK333 1, bcl BK333 2, bcl BK334 0, bcl BK334 1, bcl BK334 2, bcl BK334 3, bcl BK334 4, bcl BK334 5⟩ (fun hHeld => ?_)
              clear hK K
              refine norm_ (a' := ?_) ?_ ?_
              rotate_left
              · show Act.put _ (some 26) _ = _
                simp only [Act.put, List.setIfInBounds_toArray, List.set_cons_zero, List.set_cons_succ, i64_w, i32_w]
                rfl
              refine pure_ (i := 6) (N := some 20) (v := ?_) (a' := ?_) #[true, true, true, true, true, true, true, false, false, false, false, false] rfl rfl (any_of HT_.out (by kernel_rfl)) (fun _ _ _ h => h) (Or.inl ⟨by rfl, ?_⟩) ?_ ?_
              rotate_left
              · intro w'
                go_simp
                with_reducible rfl
              rotate_left
              · simp only [Act.put, List.setIfInBounds_toArray, List.set_cons_zero, List.set_cons_succ, i64_w, i32_w]
                rfl
              refine pure_ (i := 7) (N := some 27) (v := ?_) (a' := ?_) #[true, true, true, true, true, true, true, true, false, false, false, false] rfl rfl (any_of HT_.out (by kernel_rfl)) (fun _ _ _ h => h) (Or.inl ⟨by rfl, ?_⟩) ?_ ?_
              rotate_left
              · intro w'
                go_simp
                with_reducible rfl
              rotate_left
              · simp only [Act.put, List.setIfInBounds_toArray, List.set_cons_zero, List.set_cons_succ, i64_w, i32_w]
                rfl
              refine pure_ (i := 8) (N := some 28) (v := ?_) (a' := ?_) #[true, true, true, true, true, true, true, true, true, false, false, false] rfl rfl (any_of HT_.out (by kernel_rfl)) (fun _ _ _ h => h) (Or.inl ⟨by rfl, ?_⟩) ?_ ?_
              rotate_left
              · intro w'
                go_simp
                with_reducible rfl
              rotate_left
              · simp only [Act.put, List.setIfInBounds_toArray, List.set_cons_zero, List.set_cons_succ, i64_w, i32_w]
                rfl
              refine one_ (i := 9) (N := some 9) #[true, true, true, true, true, true, true, true, true, true, false, false] rfl rfl (one_of HT_.out (by kernel_rfl)) (by decide) (fun K hK => ?_)
              refine box_step ?hg (N := 9) ?hd (cs := #[.int .i64 0, .int .i64 0, .int .i64 0, .int .i64 0, .int .i64 0, .int .i64 0]) (t := 36) ?hr ?_; (case hd => rfl); (case hg => rfl); (case hr => first | (go_simp; done) | (go_simp; rfl))
              intro gb368 hg w32 hbox hb
              have n0_ := Aside0.mk (bbl BK333 hb)
              have n1_ := Aside0.mk (bbl BK334 hb)
              have n2_ := Aside0.mk (bbl BK351 hb)
              have n3_ := Aside0.mk (bst3 HB GE333 GE334 GE351 hb)
              have n4_ := Aside0.mk (hbox)
              have n5_ := Aside0.mk ((by rw [hg]; exact (bsz3 HB GE333 GE334 GE351) : w.heap.size ≤ gb368))
              have n6_ := Aside0.mk ((by rw [hg]; exact (bsz3 HB GE333 GE334 GE351) : w.heap.size ≤ gb368))
              have n7_ := Aside0.mk ((by rw [hg]; exact Nat.ne_of_lt (blt BK333) : gb333 ≠ gb368))
              have n8_ := Aside0.mk ((by rw [hg]; exact Nat.ne_of_gt (blt BK333) : gb368 ≠ gb333))
              have n9_ := Aside0.mk ((by rw [hg]; exact Nat.ne_of_lt (blt BK334) : gb334 ≠ gb368))
              have n10_ := Aside0.mk ((by rw [hg]; exact Nat.ne_of_gt (blt BK334) : gb368 ≠ gb334))
              have n11_ := Aside0.mk ((by rw [hg]; exact Nat.ne_of_lt (blt BK351) : gb351 ≠ gb368))
              have n12_ := Aside0.mk ((by rw [hg]; exact Nat.ne_of_gt (blt BK351) : gb368 ≠ gb351))
              clear BK333
              clear BK334
              clear BK351
              clear HB
              have BK333 := n0_
              have BK334 := n1_
              have BK351 := n2_
              have HB := n3_
              have BK368 := n4_
              have GW368 := n5_
              have GE368 := n6_
              have NB333_368 := n7_
              have NB368_333 := n8_
              have NB334_368 := n9_
              have NB368_334 := n10_
              have NB351_368 := n11_
              have NB368_351 := n12_
              clear n0_ n1_ n2_ n3_ n4_ n5_ n6_ n7_ n8_ n9_ n10_ n11_ n12_
              clear hb hbox hg
              refine hK.out _ _ ⟨bcl BK333 0, bcl BK333 1, bcl BK333 2, bcl BK334 0, bcl BK334 1, bcl BK334 2, bcl BK334 3, bcl BK334 4, bcl BK334 5⟩ (fun hHeld => ?_)
              clear hK K
              refine norm_ (a' := ?_) ?_ ?_
              rotate_left
              · show Act.put _ (some 9) _ = _
                simp only [Act.put, List.setIfInBounds_toArray, List.set_cons_zero, List.set_cons_succ, i64_w, i32_w]
                rfl
              exact norm_ (by simp only [putAll, Act.put, List.setIfInBounds_toArray, List.set_cons_zero, List.set_cons_succ]) (hCont (gb368) _ ⟨hHeld, (bkp BK333), (bkp BK334), (bkp BK351), (bkp BK368), GW368.out, GE368.out, NB333_368.out, NB368_333.out, NB334_368.out, NB368_334.out, NB351_368.out, NB368_351.out, (bbw4 HB GE333 GE334 GE351 GE368)⟩)
            · skip
              refine box_step ?hg (N := 9) ?hd (cs := #[.int .i64 0, .int .i64 0, .int .i64 0, .int .i64 0, .int .i64 0, .int .i64 0]) (t := 36) ?hr ?_; (case hd => rfl); (case hg => rfl); (case hr => first | (go_simp; done) | (go_simp; rfl))
              intro gb368 hg w31 hbox hb
              have n0_ := Aside0.mk (bbl BK333 hb)
              have n1_ := Aside0.mk (bbl BK334 hb)
              have n2_ := Aside0.mk (bbl BK351 hb)
              have n3_ := Aside0.mk (bst3 HB GE333 GE334 GE351 hb)
              have n4_ := Aside0.mk (hbox)
              have n5_ := Aside0.mk ((by rw [hg]; exact (bsz3 HB GE333 GE334 GE351) : w.heap.size ≤ gb368))
              have n6_ := Aside0.mk ((by rw [hg]; exact (bsz3 HB GE333 GE334 GE351) : w.heap.size ≤ gb368))
              have n7_ := Aside0.mk ((by rw [hg]; exact Nat.ne_of_lt (blt BK333) : gb333 ≠ gb368))
              have n8_ := Aside0.mk ((by rw [hg]; exact Nat.ne_of_gt (blt BK333) : gb368 ≠ gb333))
              have n9_ := Aside0.mk ((by rw [hg]; exact Nat.ne_of_lt (blt BK334) : gb334 ≠ gb368))
              have n10_ := Aside0.mk ((by rw [hg]; exact Nat.ne_of_gt (blt BK334) : gb368 ≠ gb334))
              have n11_ := Aside0.mk ((by rw [hg]; exact Nat.ne_of_lt (blt BK351) : gb351 ≠ gb368))
              have n12_ := Aside0.mk ((by rw [hg]; exact Nat.ne_of_gt (blt BK351) : gb368 ≠ gb351))
              clear BK333
              clear BK334
              clear BK351
              clear HB
              have BK333 := n0_
              have BK334 := n1_
              have BK351 := n2_
              have HB := n3_
              have BK368 := n4_
              have GW368 := n5_
              have GE368 := n6_
              have NB333_368 := n7_
              have NB368_333 := n8_
              have NB334_368 := n9_
              have NB368_334 := n10_
              have NB351_368 := n11_
              have NB368_351 := n12_
              clear n0_ n1_ n2_ n3_ n4_ n5_ n6_ n7_ n8_ n9_ n10_ n11_ n12_
              clear hb hbox hg
              refine hK.out _ _ ⟨bcl BK333 0, bcl BK333 1, bcl BK333 2, bcl BK334 0, bcl BK334 1, bcl BK334 2, bcl BK334 3, bcl BK334 4, bcl BK334 5⟩ (fun hHeld => ?_)
              clear hK K
              refine norm_ (a' := ?_) ?_ ?_
              rotate_left
              · show Act.put _ (some 9) _ = _
                simp only [Act.put, List.setIfInBounds_toArray, List.set_cons_zero, List.set_cons_succ, i64_w, i32_w]
                rfl
              refine one_ (i := 5) (N := some 26) #[true, true, true, true, true, true, false, false, false, true, false, false] rfl rfl (one_of HT_.out (by kernel_rfl)) (by decide) (fun K hK => ?_)
              refine goes_ Try.func16 (by kernel_rfl) rfl #[.int .i64 a0, .agg #[.int .i64 t352, .int .i64 t353, .int .i64 t354], .agg #[.int .i64 t355, .int .i64 t356, .int .i64 t357, .int .i64 t358, .int .i64 t359, .int .i64 t360]] (by rfl) rfl rfl (by (try simp only [List.map_toArray, List.map_cons, List.map_nil]); first | done | rfl | (simp only [List.length_drop, List.length_take]; rfl)) ?_
              with_reducible refine (impl_ReduceMotion.calls k a0 t352 t353 t354 t355 t356 t357 t358 t359 t360 t361 t362 t363 t364 t365 t366 t367 _ A9.out).mono ?_
              rintro e w32 ⟨rfl, hb⟩
              refine ⟨_, rfl, ?_⟩
              have n0_ := Aside0.mk (bbl BK333 hb)
              have n1_ := Aside0.mk (bbl BK334 hb)
              have n2_ := Aside0.mk (bbl BK351 hb)
              have n3_ := Aside0.mk (bbl BK368 hb)
              have n4_ := Aside0.mk (bst4 HB GE333 GE334 GE351 GE368 hb)
              clear BK333
              clear BK334
              clear BK351
              clear BK368
              clear HB
              have BK333 := n0_
              have BK334 := n1_
              have BK351 := n2_
              have BK368 := n3_
              have HB := n4_
              clear n0_ n1_ n2_ n3_ n4_
              (try clear hb)
              (try clear hb2)
              (try clear hk)
              (try clear hi)
              refine hK.out _ _ ⟨bcl BK333 0, bcl BK333 1, bcl BK333 2, bcl BK334 0, bcl BK334 1, bcl BK334 2, bcl BK334 3, bcl BK334 4, bcl BK334 5⟩ (fun hHeld => ?_)
              clear hK K
              refine norm_ (a' := ?_) ?_ ?_
              rotate_left
              · show Act.put _ (some 26) _ = _
                simp only [Act.put, List.setIfInBounds_toArray, List.set_cons_zero, List.set_cons_succ, i64_w, i32_w]
                rfl
              refine pure_ (i := 6) (N := some 20) (v := ?_) (a' := ?_) #[true, true, true, true, true, true, true, false, false, true, false, false] rfl rfl (any_of HT_.out (by kernel_rfl)) (fun _ _ _ h => h) (Or.inl ⟨by rfl, ?_⟩) ?_ ?_
              rotate_left
              · intro w'
                go_simp
                with_reducible rfl
              rotate_left
              · simp only [Act.put, List.setIfInBounds_toArray, List.set_cons_zero, List.set_cons_succ, i64_w, i32_w]
                rfl
              refine pure_ (i := 7) (N := some 27) (v := ?_) (a' := ?_) #[true, true, true, true, true, true, true, true, false, true, false, false] rfl rfl (any_of HT_.out (by kernel_rfl)) (fun _ _ _ h => h) (Or.inl ⟨by rfl, ?_⟩) ?_ ?_
              rotate_left
              · intro w'
                go_simp
                with_reducible rfl
              rotate_left
              · simp only [Act.put, List.setIfInBounds_toArray, List.set_cons_zero, List.set_cons_succ, i64_w, i32_w]
                rfl
              refine pure_ (i := 8) (N := some 28) (v := ?_) (a' := ?_) #[true, true, true, true, true, true, true, true, true, true, false, false] rfl rfl (any_of HT_.out (by kernel_rfl)) (fun _ _ _ h => h) (Or.inl ⟨by rfl, ?_⟩) ?_ ?_
              rotate_left
              · intro w'
                go_simp
                with_reducible rfl
              rotate_left
              · simp only [Act.put, List.setIfInBounds_toArray, List.set_cons_zero, List.set_cons_succ, i64_w, i32_w]
                rfl
              exact norm_ (by simp only [putAll, Act.put, List.setIfInBounds_toArray, List.set_cons_zero, List.set_cons_succ]) (hCont (gb368) _ ⟨hHeld, (bkp BK333), (bkp BK334), (bkp BK351), (bkp BK368), GW368.out, GE368.out, NB333_368.out, NB368_333.out, NB334_368.out, NB368_334.out, NB351_368.out, NB368_351.out, (bbw4 HB GE333 GE334 GE351 GE368)⟩)
          · skip
            refine box_step ?hg (N := 9) ?hd (cs := #[.int .i64 0, .int .i64 0, .int .i64 0, .int .i64 0, .int .i64 0, .int .i64 0]) (t := 36) ?hr ?_; (case hd => rfl); (case hg => rfl); (case hr => first | (go_simp; done) | (go_simp; rfl))
            intro gb368 hg w30 hbox hb
            have n0_ := Aside0.mk (bbl BK333 hb)
            have n1_ := Aside0.mk (bbl BK334 hb)
            have n2_ := Aside0.mk (bbl BK351 hb)
            have n3_ := Aside0.mk (bst3 HB GE333 GE334 GE351 hb)
            have n4_ := Aside0.mk (hbox)
            have n5_ := Aside0.mk ((by rw [hg]; exact (bsz3 HB GE333 GE334 GE351) : w.heap.size ≤ gb368))
            have n6_ := Aside0.mk ((by rw [hg]; exact (bsz3 HB GE333 GE334 GE351) : w.heap.size ≤ gb368))
            have n7_ := Aside0.mk ((by rw [hg]; exact Nat.ne_of_lt (blt BK333) : gb333 ≠ gb368))
            have n8_ := Aside0.mk ((by rw [hg]; exact Nat.ne_of_gt (blt BK333) : gb368 ≠ gb333))
            have n9_ := Aside0.mk ((by rw [hg]; exact Nat.ne_of_lt (blt BK334) : gb334 ≠ gb368))
            have n10_ := Aside0.mk ((by rw [hg]; exact Nat.ne_of_gt (blt BK334) : gb368 ≠ gb334))
            have n11_ := Aside0.mk ((by rw [hg]; exact Nat.ne_of_lt (blt BK351) : gb351 ≠ gb368))
            have n12_ := Aside0.mk ((by rw [hg]; exact Nat.ne_of_gt (blt BK351) : gb368 ≠ gb351))
            clear BK333
            clear BK334
            clear BK351
            clear HB
            have BK333 := n0_
            have BK334 := n1_
            have BK351 := n2_
            have HB := n3_
            have BK368 := n4_
            have GW368 := n5_
            have GE368 := n6_
            have NB333_368 := n7_
            have NB368_333 := n8_
            have NB334_368 := n9_
            have NB368_334 := n10_
            have NB351_368 := n11_
            have NB368_351 := n12_
            clear n0_ n1_ n2_ n3_ n4_ n5_ n6_ n7_ n8_ n9_ n10_ n11_ n12_
            clear hb hbox hg
            refine hK.out _ _ ⟨bcl BK333 0, bcl BK333 1, bcl BK333 2, bcl BK334 0, bcl BK334 1, bcl BK334 2, bcl BK334 3, bcl BK334 4, bcl BK334 5⟩ (fun hHeld => ?_)
            clear hK K
            refine norm_ (a' := ?_) ?_ ?_
            rotate_left
            · show Act.put _ (some 9) _ = _
              simp only [Act.put, List.setIfInBounds_toArray, List.set_cons_zero, List.set_cons_succ, i64_w, i32_w]
              rfl
            refine one_ (i := 4) (N := some 25) #[true, true, true, true, true, false, false, false, false, true, false, false] rfl rfl (one_of HT_.out (by kernel_rfl)) (by decide) (fun K hK => ?_)
            refine goes_ Try.func13 (by kernel_rfl) rfl #[.agg #[.int .i64 a2_0, .int .i64 a2_1, .int .i64 a2_2, .int .i64 a2_3, .int .i64 a2_4, .int .i64 a2_5]] (by rfl) rfl rfl (by (try simp only [List.map_toArray, List.map_cons, List.map_nil]); first | done | rfl | (simp only [List.length_drop, List.length_take]; rfl)) ?_
            with_reducible refine (laws_toMotion.calls a2_0 a2_1 a2_2 a2_3 a2_4 a2_5 t355 t356 t357 t358 t359 t360 _ A8.out).mono ?_
            rintro e w31 ⟨rfl, hb⟩
            refine ⟨_, rfl, ?_⟩
            have n0_ := Aside0.mk (bbl BK333 hb)
            have n1_ := Aside0.mk (bbl BK334 hb)
            have n2_ := Aside0.mk (bbl BK351 hb)
            have n3_ := Aside0.mk (bbl BK368 hb)
            have n4_ := Aside0.mk (bst4 HB GE333 GE334 GE351 GE368 hb)
            clear BK333
            clear BK334
            clear BK351
            clear BK368
            clear HB
            have BK333 := n0_
            have BK334 := n1_
            have BK351 := n2_
            have BK368 := n3_
            have HB := n4_
            clear n0_ n1_ n2_ n3_ n4_
            (try clear hb)
            (try clear hb2)
            (try clear hk)
            (try clear hi)
            refine hK.out _ _ ⟨bcl BK333 0, bcl BK333 1, bcl BK333 2, bcl BK334 0, bcl BK334 1, bcl BK334 2, bcl BK334 3, bcl BK334 4, bcl BK334 5⟩ (fun hHeld => ?_)
            clear hK K
            refine norm_ (a' := ?_) ?_ ?_
            rotate_left
            · show Act.put _ (some 25) _ = _
              simp only [Act.put, List.setIfInBounds_toArray, List.set_cons_zero, List.set_cons_succ, i64_w, i32_w]
              rfl
            refine one_ (i := 5) (N := some 26) #[true, true, true, true, true, true, false, false, false, true, false, false] rfl rfl (one_of HT_.out (by kernel_rfl)) (by decide) (fun K hK => ?_)
            refine goes_ Try.func16 (by kernel_rfl) rfl #[.int .i64 a0, .agg #[.int .i64 t352, .int .i64 t353, .int .i64 t354], .agg #[.int .i64 t355, .int .i64 t356, .int .i64 t357, .int .i64 t358, .int .i64 t359, .int .i64 t360]] (by rfl) rfl rfl (by (try simp only [List.map_toArray, List.map_cons, List.map_nil]); first | done | rfl | (simp only [List.length_drop, List.length_take]; rfl)) ?_
            with_reducible refine (impl_ReduceMotion.calls k a0 t352 t353 t354 t355 t356 t357 t358 t359 t360 t361 t362 t363 t364 t365 t366 t367 _ A9.out).mono ?_
            rintro e w32 ⟨rfl, hb⟩
            refine ⟨_, rfl, ?_⟩
            have n0_ := Aside0.mk (bbl BK333 hb)
            have n1_ := Aside0.mk (bbl BK334 hb)
            have n2_ := Aside0.mk (bbl BK351 hb)
            have n3_ := Aside0.mk (bbl BK368 hb)
            have n4_ := Aside0.mk (bst4 HB GE333 GE334 GE351 GE368 hb)
            clear BK333
            clear BK334
            clear BK351
            clear BK368
            clear HB
            have BK333 := n0_
            have BK334 := n1_
            have BK351 := n2_
            have BK368 := n3_
            have HB := n4_
            clear n0_ n1_ n2_ n3_ n4_
            (try clear hb)
            (try clear hb2)
            (try clear hk)
            (try clear hi)
            refine hK.out _ _ ⟨bcl BK333 0, bcl BK333 1, bcl BK333 2, bcl BK334 0, bcl BK334 1, bcl BK334 2, bcl BK334 3, bcl BK334 4, bcl BK334 5⟩ (fun hHeld => ?_)
            clear hK K
            refine norm_ (a' := ?_) ?_ ?_
            rotate_left
            · show Act.put _ (some 26) _ = _
              simp only [Act.put, List.setIfInBounds_toArray, List.set_cons_zero, List.set_cons_succ, i64_w, i32_w]
              rfl
            refine pure_ (i := 6) (N := some 20) (v := ?_) (a' := ?_) #[true, true, true, true, true, true, true, false, false, true, false, false] rfl rfl (any_of HT_.out (by kernel_rfl)) (fun _ _ _ h => h) (Or.inl ⟨by rfl, ?_⟩) ?_ ?_
            rotate_left
            · intro w'
              go_simp
              with_reducible rfl
            rotate_left
            · simp only [Act.put, List.setIfInBounds_toArray, List.set_cons_zero, List.set_cons_succ, i64_w, i32_w]
              rfl
            refine pure_ (i := 7) (N := some 27) (v := ?_) (a' := ?_) #[true, true, true, true, true, true, true, true, false, true, false, false] rfl rfl (any_of HT_.out (by kernel_rfl)) (fun _ _ _ h => h) (Or.inl ⟨by rfl, ?_⟩) ?_ ?_
            rotate_left
            · intro w'
              go_simp
              with_reducible rfl
            rotate_left
            · simp only [Act.put, List.setIfInBounds_toArray, List.set_cons_zero, List.set_cons_succ, i64_w, i32_w]
              rfl
            refine pure_ (i := 8) (N := some 28) (v := ?_) (a' := ?_) #[true, true, true, true, true, true, true, true, true, true, false, false] rfl rfl (any_of HT_.out (by kernel_rfl)) (fun _ _ _ h => h) (Or.inl ⟨by rfl, ?_⟩) ?_ ?_
            rotate_left
            · intro w'
              go_simp
              with_reducible rfl
            rotate_left
            · simp only [Act.put, List.setIfInBounds_toArray, List.set_cons_zero, List.set_cons_succ, i64_w, i32_w]
              rfl
            exact norm_ (by simp only [putAll, Act.put, List.setIfInBounds_toArray, List.set_cons_zero, List.set_cons_succ]) (hCont (gb368) _ ⟨hHeld, (bkp BK333), (bkp BK334), (bkp BK351), (bkp BK368), GW368.out, GE368.out, NB333_368.out, NB368_333.out, NB334_368.out, NB368_334.out, NB351_368.out, NB368_351.out, (bbw4 HB GE333 GE334 GE351 GE368)⟩)
        · skip
          refine box_step ?hg (N := 9) ?hd (cs := #[.int .i64 0, .int .i64 0, .int .i64 0, .int .i64 0, .int .i64 0, .int .i64 0]) (t := 36) ?hr ?_; (case hd => rfl); (case hg => rfl); (case hr => first | (go_simp; done) | (go_simp; rfl))
          intro gb368 hg w29 hbox hb
          have n0_ := Aside0.mk (bbl BK333 hb)
          have n1_ := Aside0.mk (bbl BK334 hb)
          have n2_ := Aside0.mk (bbl BK351 hb)
          have n3_ := Aside0.mk (bst3 HB GE333 GE334 GE351 hb)
          have n4_ := Aside0.mk (hbox)
          have n5_ := Aside0.mk ((by rw [hg]; exact (bsz3 HB GE333 GE334 GE351) : w.heap.size ≤ gb368))
          have n6_ := Aside0.mk ((by rw [hg]; exact (bsz3 HB GE333 GE334 GE351) : w.heap.size ≤ gb368))
          have n7_ := Aside0.mk ((by rw [hg]; exact Nat.ne_of_lt (blt BK333) : gb333 ≠ gb368))
          have n8_ := Aside0.mk ((by rw [hg]; exact Nat.ne_of_gt (blt BK333) : gb368 ≠ gb333))
          have n9_ := Aside0.mk ((by rw [hg]; exact Nat.ne_of_lt (blt BK334) : gb334 ≠ gb368))
          have n10_ := Aside0.mk ((by rw [hg]; exact Nat.ne_of_gt (blt BK334) : gb368 ≠ gb334))
          have n11_ := Aside0.mk ((by rw [hg]; exact Nat.ne_of_lt (blt BK351) : gb351 ≠ gb368))
          have n12_ := Aside0.mk ((by rw [hg]; exact Nat.ne_of_gt (blt BK351) : gb368 ≠ gb351))
          clear BK333
          clear BK334
          clear BK351
          clear HB
          have BK333 := n0_
          have BK334 := n1_
          have BK351 := n2_
          have HB := n3_
          have BK368 := n4_
          have GW368 := n5_
          have GE368 := n6_
          have NB333_368 := n7_
          have NB368_333 := n8_
          have NB334_368 := n9_
          have NB368_334 := n10_
          have NB351_368 := n11_
          have NB368_351 := n12_
          clear n0_ n1_ n2_ n3_ n4_ n5_ n6_ n7_ n8_ n9_ n10_ n11_ n12_
          clear hb hbox hg
          refine hK.out _ _ ⟨bcl BK333 0, bcl BK333 1, bcl BK333 2, bcl BK334 0, bcl BK334 1, bcl BK334 2, bcl BK334 3, bcl BK334 4, bcl BK334 5⟩ (fun hHeld => ?_)
          clear hK K
          refine norm_ (a' := ?_) ?_ ?_
          rotate_left
          · show Act.put _ (some 9) _ = _
            simp only [Act.put, List.setIfInBounds_toArray, List.set_cons_zero, List.set_cons_succ, i64_w, i32_w]
            rfl
          refine one_ (i := 2) (N := some 23) #[true, true, true, true, false, false, false, false, false, true, false, false] rfl rfl (one_of HT_.out (by kernel_rfl)) (by decide) (fun K hK => ?_)
          refine goes_ Try.func12 (by kernel_rfl) rfl #[.agg #[.int .i64 a1_0, .int .i64 a1_1, .int .i64 a1_2]] (by rfl) rfl rfl (by (try simp only [List.map_toArray, List.map_cons, List.map_nil]); first | done | rfl | (simp only [List.length_drop, List.length_take]; rfl)) ?_
          with_reducible refine (laws_toLattice.calls a1_0 a1_1 a1_2 t352 t353 t354 _ A7.out).mono ?_
          rintro e w30 ⟨rfl, hb⟩
          refine ⟨_, rfl, ?_⟩
          have n0_ := Aside0.mk (bbl BK333 hb)
          have n1_ := Aside0.mk (bbl BK334 hb)
          have n2_ := Aside0.mk (bbl BK351 hb)
          have n3_ := Aside0.mk (bbl BK368 hb)
          have n4_ := Aside0.mk (bst4 HB GE333 GE334 GE351 GE368 hb)
          clear BK333
          clear BK334
          clear BK351
          clear BK368
          clear HB
          have BK333 := n0_
          have BK334 := n1_
          have BK351 := n2_
          have BK368 := n3_
          have HB := n4_
          clear n0_ n1_ n2_ n3_ n4_
          (try clear hb)
          (try clear hb2)
          (try clear hk)
          (try clear hi)
          refine hK.out _ _ ⟨bcl BK333 0, bcl BK333 1, bcl BK333 2, bcl BK334 0, bcl BK334 1, bcl BK334 2, bcl BK334 3, bcl BK334 4, bcl BK334 5⟩ (fun hHeld => ?_)
          clear hK K
          refine norm_ (a' := ?_) ?_ ?_
          rotate_left
          · show Act.put _ (some 23) _ = _
            simp only [Act.put, List.setIfInBounds_toArray, List.set_cons_zero, List.set_cons_succ, i64_w, i32_w]
            rfl
          refine one_ (i := 4) (N := some 25) #[true, true, true, true, true, false, false, false, false, true, false, false] rfl rfl (one_of HT_.out (by kernel_rfl)) (by decide) (fun K hK => ?_)
          refine goes_ Try.func13 (by kernel_rfl) rfl #[.agg #[.int .i64 a2_0, .int .i64 a2_1, .int .i64 a2_2, .int .i64 a2_3, .int .i64 a2_4, .int .i64 a2_5]] (by rfl) rfl rfl (by (try simp only [List.map_toArray, List.map_cons, List.map_nil]); first | done | rfl | (simp only [List.length_drop, List.length_take]; rfl)) ?_
          with_reducible refine (laws_toMotion.calls a2_0 a2_1 a2_2 a2_3 a2_4 a2_5 t355 t356 t357 t358 t359 t360 _ A8.out).mono ?_
          rintro e w31 ⟨rfl, hb⟩
          refine ⟨_, rfl, ?_⟩
          have n0_ := Aside0.mk (bbl BK333 hb)
          have n1_ := Aside0.mk (bbl BK334 hb)
          have n2_ := Aside0.mk (bbl BK351 hb)
          have n3_ := Aside0.mk (bbl BK368 hb)
          have n4_ := Aside0.mk (bst4 HB GE333 GE334 GE351 GE368 hb)
          clear BK333
          clear BK334
          clear BK351
          clear BK368
          clear HB
          have BK333 := n0_
          have BK334 := n1_
          have BK351 := n2_
          have BK368 := n3_
          have HB := n4_
          clear n0_ n1_ n2_ n3_ n4_
          (try clear hb)
          (try clear hb2)
          (try clear hk)
          (try clear hi)
          refine hK.out _ _ ⟨bcl BK333 0, bcl BK333 1, bcl BK333 2, bcl BK334 0, bcl BK334 1, bcl BK334 2, bcl BK334 3, bcl BK334 4, bcl BK334 5⟩ (fun hHeld => ?_)
          clear hK K
          refine norm_ (a' := ?_) ?_ ?_
          rotate_left
          · show Act.put _ (some 25) _ = _
            simp only [Act.put, List.setIfInBounds_toArray, List.set_cons_zero, List.set_cons_succ, i64_w, i32_w]
            rfl
          refine one_ (i := 5) (N := some 26) #[true, true, true, true, true, true, false, false, false, true, false, false] rfl rfl (one_of HT_.out (by kernel_rfl)) (by decide) (fun K hK => ?_)
          refine goes_ Try.func16 (by kernel_rfl) rfl #[.int .i64 a0, .agg #[.int .i64 t352, .int .i64 t353, .int .i64 t354], .agg #[.int .i64 t355, .int .i64 t356, .int .i64 t357, .int .i64 t358, .int .i64 t359, .int .i64 t360]] (by rfl) rfl rfl (by (try simp only [List.map_toArray, List.map_cons, List.map_nil]); first | done | rfl | (simp only [List.length_drop, List.length_take]; rfl)) ?_
          with_reducible refine (impl_ReduceMotion.calls k a0 t352 t353 t354 t355 t356 t357 t358 t359 t360 t361 t362 t363 t364 t365 t366 t367 _ A9.out).mono ?_
          rintro e w32 ⟨rfl, hb⟩
          refine ⟨_, rfl, ?_⟩
          have n0_ := Aside0.mk (bbl BK333 hb)
          have n1_ := Aside0.mk (bbl BK334 hb)
          have n2_ := Aside0.mk (bbl BK351 hb)
          have n3_ := Aside0.mk (bbl BK368 hb)
          have n4_ := Aside0.mk (bst4 HB GE333 GE334 GE351 GE368 hb)
          clear BK333
          clear BK334
          clear BK351
          clear BK368
          clear HB
          have BK333 := n0_
          have BK334 := n1_
          have BK351 := n2_
          have BK368 := n3_
          have HB := n4_
          clear n0_ n1_ n2_ n3_ n4_
          (try clear hb)
          (try clear hb2)
          (try clear hk)
          (try clear hi)
          refine hK.out _ _ ⟨bcl BK333 0, bcl BK333 1, bcl BK333 2, bcl BK334 0, bcl BK334 1, bcl BK334 2, bcl BK334 3, bcl BK334 4, bcl BK334 5⟩ (fun hHeld => ?_)
          clear hK K
          refine norm_ (a' := ?_) ?_ ?_
          rotate_left
          · show Act.put _ (some 26) _ = _
            simp only [Act.put, List.setIfInBounds_toArray, List.set_cons_zero, List.set_cons_succ, i64_w, i32_w]
            rfl
          refine pure_ (i := 6) (N := some 20) (v := ?_) (a' := ?_) #[true, true, true, true, true, true, true, false, false, true, false, false] rfl rfl (any_of HT_.out (by kernel_rfl)) (fun _ _ _ h => h) (Or.inl ⟨by rfl, ?_⟩) ?_ ?_
          rotate_left
          · intro w'
            go_simp
            with_reducible rfl
          rotate_left
          · simp only [Act.put, List.setIfInBounds_toArray, List.set_cons_zero, List.set_cons_succ, i64_w, i32_w]
            rfl
          refine pure_ (i := 7) (N := some 27) (v := ?_) (a' := ?_) #[true, true, true, true, true, true, true, true, false, true, false, false] rfl rfl (any_of HT_.out (by kernel_rfl)) (fun _ _ _ h => h) (Or.inl ⟨by rfl, ?_⟩) ?_ ?_
          rotate_left
          · intro w'
            go_simp
            with_reducible rfl
          rotate_left
          · simp only [Act.put, List.setIfInBounds_toArray, List.set_cons_zero, List.set_cons_succ, i64_w, i32_w]
            rfl
          refine pure_ (i := 8) (N := some 28) (v := ?_) (a' := ?_) #[true, true, true, true, true, true, true, true, true, true, false, false] rfl rfl (any_of HT_.out (by kernel_rfl)) (fun _ _ _ h => h) (Or.inl ⟨by rfl, ?_⟩) ?_ ?_
          rotate_left
          · intro w'
            go_simp
            with_reducible rfl
          rotate_left
          · simp only [Act.put, List.setIfInBounds_toArray, List.set_cons_zero, List.set_cons_succ, i64_w, i32_w]
            rfl
          exact norm_ (by simp only [putAll, Act.put, List.setIfInBounds_toArray, List.set_cons_zero, List.set_cons_succ]) (hCont (gb368) _ ⟨hHeld, (bkp BK333), (bkp BK334), (bkp BK351), (bkp BK368), GW368.out, GE368.out, NB333_368.out, NB368_333.out, NB334_368.out, NB368_334.out, NB351_368.out, NB368_351.out, (bbw4 HB GE333 GE334 GE351 GE368)⟩)
      rintro gb368 w33 ⟨hS_, h0_, h1_, h2_, h3_, h4_, h5_, h6_, h7_, h8_, h9_, h10_, h11_, h12_⟩
      have n0_ : Aside0 (w33.heap[gb333]? = some (.cells #[.int .i64 a1_0, .int .i64 a1_1, .int .i64 a1_2] 23 (0, 0))) := ⟨h0_⟩
      have n1_ : Aside0 (w33.heap[gb334]? = some (.cells #[.int .i64 a2_0, .int .i64 a2_1, .int .i64 a2_2, .int .i64 a2_3, .int .i64 a2_4, .int .i64 a2_5] 29 (0, 0))) := ⟨h1_⟩
      have n2_ : Aside0 (w33.heap[gb351]? = some (.cells #[.int .i64 t344, .int .i64 t345, .int .i64 t346, .int .i64 t347, .int .i64 t348, .int .i64 t349] 36 (0, 0))) := ⟨h2_⟩
      have n3_ : Aside0 (w33.heap[gb368]? = some (.cells #[.int .i64 0, .int .i64 0, .int .i64 0, .int .i64 0, .int .i64 0, .int .i64 0] 36 (0, 0))) := ⟨h3_⟩
      have n4_ : Aside0 (w.heap.size ≤ gb368) := ⟨h4_⟩
      have n5_ : Aside0 (w.heap.size ≤ gb368) := ⟨h5_⟩
      have n6_ : Aside0 (gb333 ≠ gb368) := ⟨h6_⟩
      have n7_ : Aside0 (gb368 ≠ gb333) := ⟨h7_⟩
      have n8_ : Aside0 (gb334 ≠ gb368) := ⟨h8_⟩
      have n9_ : Aside0 (gb368 ≠ gb334) := ⟨h9_⟩
      have n10_ : Aside0 (gb351 ≠ gb368) := ⟨h10_⟩
      have n11_ : Aside0 (gb368 ≠ gb351) := ⟨h11_⟩
      have n12_ : Aside0 (Below w.heap.size w w33) := ⟨h12_⟩
      clear BK333
      clear BK334
      clear BK351
      clear HB
      clear h0_ h1_ h2_ h3_ h4_ h5_ h6_ h7_ h8_ h9_ h10_ h11_ h12_
      have BK333 := n0_
      have BK334 := n1_
      have BK351 := n2_
      have BK368 := n3_
      have GW368 := n4_
      have GE368 := n5_
      have NB333_368 := n6_
      have NB368_333 := n7_
      have NB334_368 := n8_
      have NB368_334 := n9_
      have NB351_368 := n10_
      have NB368_351 := n11_
      have HB := n12_
      clear n0_ n1_ n2_ n3_ n4_ n5_ n6_ n7_ n8_ n9_ n10_ n11_ n12_
      have hHeld : w33.cell? ⟨gb333, 0, none⟩ = some (.int .i64 a1_0) ∧ w33.cell? ⟨gb333, 1, none⟩ = some (.int .i64 a1_1) ∧ w33.cell? ⟨gb333, 2, none⟩ = some (.int .i64 a1_2) ∧ w33.cell? ⟨gb334, 0, none⟩ = some (.int .i64 a2_0) ∧ w33.cell? ⟨gb334, 1, none⟩ = some (.int .i64 a2_1) ∧ w33.cell? ⟨gb334, 2, none⟩ = some (.int .i64 a2_2) ∧ w33.cell? ⟨gb334, 3, none⟩ = some (.int .i64 a2_3) ∧ w33.cell? ⟨gb334, 4, none⟩ = some (.int .i64 a2_4) ∧ w33.cell? ⟨gb334, 5, none⟩ = some (.int .i64 a2_5) := hS_
      refine norm_ (a' := ?_) ?_ ?_
      rotate_left
      · simp only [putAll, Act.put, List.setIfInBounds_toArray, List.set_cons_zero, List.set_cons_succ]
        rfl
      refine one_ (i := 10) (N := none) #[true, true, true, true, true, true, true, true, true, true, true, false] rfl rfl (one_of HT_.out (by kernel_rfl)) (by decide) (fun K hK => ?_)
      have hs34 : w33.cell? ⟨gb368, 0, none⟩ = some (.int .i64 0) := bcl BK368 0
      have hfs34 := blk_frozen BK368.out 0
      have hns34_0 := NB333_368.out
      have hns34_1 := NB334_368.out
      have hns34_2 := NB351_368.out
      have hms34_0 := NB368_333.out
      have hms34_1 := NB368_334.out
      have hms34_2 := NB368_351.out
      have hs35 : w33.cell? ⟨gb368, 1, none⟩ = some (.int .i64 0) := bcl BK368 1
      have hfs35 := blk_frozen BK368.out 1
      have hns35_0 := NB333_368.out
      have hns35_1 := NB334_368.out
      have hns35_2 := NB351_368.out
      have hms35_0 := NB368_333.out
      have hms35_1 := NB368_334.out
      have hms35_2 := NB368_351.out
      have hs36 : w33.cell? ⟨gb368, 2, none⟩ = some (.int .i64 0) := bcl BK368 2
      have hfs36 := blk_frozen BK368.out 2
      have hns36_0 := NB333_368.out
      have hns36_1 := NB334_368.out
      have hns36_2 := NB351_368.out
      have hms36_0 := NB368_333.out
      have hms36_1 := NB368_334.out
      have hms36_2 := NB368_351.out
      have hs37 : w33.cell? ⟨gb368, 3, none⟩ = some (.int .i64 0) := bcl BK368 3
      have hfs37 := blk_frozen BK368.out 3
      have hns37_0 := NB333_368.out
      have hns37_1 := NB334_368.out
      have hns37_2 := NB351_368.out
      have hms37_0 := NB368_333.out
      have hms37_1 := NB368_334.out
      have hms37_2 := NB368_351.out
      have hs38 : w33.cell? ⟨gb368, 4, none⟩ = some (.int .i64 0) := bcl BK368 4
      have hfs38 := blk_frozen BK368.out 4
      have hns38_0 := NB333_368.out
      have hns38_1 := NB334_368.out
      have hns38_2 := NB351_368.out
      have hms38_0 := NB368_333.out
      have hms38_1 := NB368_334.out
      have hms38_2 := NB368_351.out
      have hs39 : w33.cell? ⟨gb368, 5, none⟩ = some (.int .i64 0) := bcl BK368 5
      have hfs39 := blk_frozen BK368.out 5
      have hns39_0 := NB333_368.out
      have hns39_1 := NB334_368.out
      have hns39_2 := NB351_368.out
      have hms39_0 := NB368_333.out
      have hms39_1 := NB368_334.out
      have hms39_2 := NB368_351.out
      refine skip_ (w1 := ?_) (by rfl) rfl ?_ ?_
      rotate_left
      · go_simp
        rfl
      refine hK.out _ _ ⟨((cell_far (p := ⟨gb368, _, none⟩) NB333_368.out _).trans (((cell_far (p := ⟨gb368, _, none⟩) NB333_368.out _).trans (((cell_far (p := ⟨gb368, _, none⟩) NB333_368.out _).trans (((cell_far (p := ⟨gb368, _, none⟩) NB333_368.out _).trans (((cell_far (p := ⟨gb368, _, none⟩) NB333_368.out _).trans (((cell_far (p := ⟨gb368, _, none⟩) NB333_368.out _).trans (hHeld.1)))))))))))), ((cell_far (p := ⟨gb368, _, none⟩) NB333_368.out _).trans (((cell_far (p := ⟨gb368, _, none⟩) NB333_368.out _).trans (((cell_far (p := ⟨gb368, _, none⟩) NB333_368.out _).trans (((cell_far (p := ⟨gb368, _, none⟩) NB333_368.out _).trans (((cell_far (p := ⟨gb368, _, none⟩) NB333_368.out _).trans (((cell_far (p := ⟨gb368, _, none⟩) NB333_368.out _).trans (hHeld.2.1)))))))))))), ((cell_far (p := ⟨gb368, _, none⟩) NB333_368.out _).trans (((cell_far (p := ⟨gb368, _, none⟩) NB333_368.out _).trans (((cell_far (p := ⟨gb368, _, none⟩) NB333_368.out _).trans (((cell_far (p := ⟨gb368, _, none⟩) NB333_368.out _).trans (((cell_far (p := ⟨gb368, _, none⟩) NB333_368.out _).trans (((cell_far (p := ⟨gb368, _, none⟩) NB333_368.out _).trans (hHeld.2.2.1)))))))))))), ((cell_far (p := ⟨gb368, _, none⟩) NB334_368.out _).trans (((cell_far (p := ⟨gb368, _, none⟩) NB334_368.out _).trans (((cell_far (p := ⟨gb368, _, none⟩) NB334_368.out _).trans (((cell_far (p := ⟨gb368, _, none⟩) NB334_368.out _).trans (((cell_far (p := ⟨gb368, _, none⟩) NB334_368.out _).trans (((cell_far (p := ⟨gb368, _, none⟩) NB334_368.out _).trans (hHeld.2.2.2.1)))))))))))), ((cell_far (p := ⟨gb368, _, none⟩) NB334_368.out _).trans (((cell_far (p := ⟨gb368, _, none⟩) NB334_368.out _).trans (((cell_far (p := ⟨gb368, _, none⟩) NB334_368.out _).trans (((cell_far (p := ⟨gb368, _, none⟩) NB334_368.out _).trans (((cell_far (p := ⟨gb368, _, none⟩) NB334_368.out _).trans (((cell_far (p := ⟨gb368, _, none⟩) NB334_368.out _).trans (hHeld.2.2.2.2.1)))))))))))), ((cell_far (p := ⟨gb368, _, none⟩) NB334_368.out _).trans (((cell_far (p := ⟨gb368, _, none⟩) NB334_368.out _).trans (((cell_far (p := ⟨gb368, _, none⟩) NB334_368.out _).trans (((cell_far (p := ⟨gb368, _, none⟩) NB334_368.out _).trans (((cell_far (p := ⟨gb368, _, none⟩) NB334_368.out _).trans (((cell_far (p := ⟨gb368, _, none⟩) NB334_368.out _).trans (hHeld.2.2.2.2.2.1)))))))))))), ((cell_far (p := ⟨gb368, _, none⟩) NB334_368.out _).trans (((cell_far (p := ⟨gb368, _, none⟩) NB334_368.out _).trans (((cell_far (p := ⟨gb368, _, none⟩) NB334_368.out _).trans (((cell_far (p := ⟨gb368, _, none⟩) NB334_368.out _).trans (((cell_far (p := ⟨gb368, _, none⟩) NB334_368.out _).trans (((cell_far (p := ⟨gb368, _, none⟩) NB334_368.out _).trans (hHeld.2.2.2.2.2.2.1)))))))))))), ((cell_far (p := ⟨gb368, _, none⟩) NB334_368.out _).trans (((cell_far (p := ⟨gb368, _, none⟩) NB334_368.out _).trans (((cell_far (p := ⟨gb368, _, none⟩) NB334_368.out _).trans (((cell_far (p := ⟨gb368, _, none⟩) NB334_368.out _).trans (((cell_far (p := ⟨gb368, _, none⟩) NB334_368.out _).trans (((cell_far (p := ⟨gb368, _, none⟩) NB334_368.out _).trans (hHeld.2.2.2.2.2.2.2.1)))))))))))), ((cell_far (p := ⟨gb368, _, none⟩) NB334_368.out _).trans (((cell_far (p := ⟨gb368, _, none⟩) NB334_368.out _).trans (((cell_far (p := ⟨gb368, _, none⟩) NB334_368.out _).trans (((cell_far (p := ⟨gb368, _, none⟩) NB334_368.out _).trans (((cell_far (p := ⟨gb368, _, none⟩) NB334_368.out _).trans (((cell_far (p := ⟨gb368, _, none⟩) NB334_368.out _).trans (hHeld.2.2.2.2.2.2.2.2))))))))))))⟩ (fun hHeld => ?_)
      clear hK K
      refine pure_ (i := 11) (N := some 10) (v := ?_) (a' := ?_) #[true, true, true, true, true, true, true, true, true, true, true, true] rfl rfl (any_of HT_.out (by kernel_rfl)) (fun _ _ _ h => h) (Or.inl ⟨by rfl, ?_⟩) ?_ ?_
      rotate_left
      · intro w'
        go_simp
        with_reducible rfl
      rotate_left
      · simp only [Act.put, List.setIfInBounds_toArray, List.set_cons_zero, List.set_cons_succ, i64_w, i32_w]
        rfl
      refine done_ (done_of HT_.out (by kernel_rfl)) ?_
      have hnb40 := NB368_333.out
      have hnc40 := NB333_368.out
      have hnb41 := NB368_334.out
      have hnc41 := NB334_368.out
      have hnb42 := NB368_351.out
      have hnc42 := NB351_368.out
      have hcz43_0 : w33.cell? ⟨gb368, 0, none⟩ = some (.int .i64 0) := bcl BK368 0
      have hcz43_1 : w33.cell? ⟨gb368, 1, none⟩ = some (.int .i64 0) := bcl BK368 1
      have hcz43_2 : w33.cell? ⟨gb368, 2, none⟩ = some (.int .i64 0) := bcl BK368 2
      have hcz43_3 : w33.cell? ⟨gb368, 3, none⟩ = some (.int .i64 0) := bcl BK368 3
      have hcz43_4 : w33.cell? ⟨gb368, 4, none⟩ = some (.int .i64 0) := bcl BK368 4
      have hcz43_5 : w33.cell? ⟨gb368, 5, none⟩ = some (.int .i64 0) := bcl BK368 5
      have hfz43_0 := blk_frozen BK368.out 0
      have hfz43_1 := blk_frozen BK368.out 1
      have hfz43_2 := blk_frozen BK368.out 2
      have hfz43_3 := blk_frozen BK368.out 3
      have hfz43_4 := blk_frozen BK368.out 4
      have hfz43_5 := blk_frozen BK368.out 5
      have hnb44 := NB351_333.out
      have hnc44 := NB333_351.out
      have hnb45 := NB351_334.out
      have hnc45 := NB334_351.out
      have hcz46_0 : w33.cell? ⟨gb351, 0, none⟩ = some (.int .i64 t344) := bcl BK351 0
      have hcz46_1 : w33.cell? ⟨gb351, 1, none⟩ = some (.int .i64 t345) := bcl BK351 1
      have hcz46_2 : w33.cell? ⟨gb351, 2, none⟩ = some (.int .i64 t346) := bcl BK351 2
      have hcz46_3 : w33.cell? ⟨gb351, 3, none⟩ = some (.int .i64 t347) := bcl BK351 3
      have hcz46_4 : w33.cell? ⟨gb351, 4, none⟩ = some (.int .i64 t348) := bcl BK351 4
      have hcz46_5 : w33.cell? ⟨gb351, 5, none⟩ = some (.int .i64 t349) := bcl BK351 5
      have hfz46_0 := blk_frozen BK351.out 0
      have hfz46_1 := blk_frozen BK351.out 1
      have hfz46_2 := blk_frozen BK351.out 2
      have hfz46_3 := blk_frozen BK351.out 3
      have hfz46_4 := blk_frozen BK351.out 4
      have hfz46_5 := blk_frozen BK351.out 5
      try go_wp2_with (first | ((with_reducible refine gate_callee (f := 17) rfl ?_); refine goesL_ (some 31) rfl rfl Try.func17 (by kernel_rfl) rfl #[.agg #[.int .i64 t361, .int .i64 t362, .int .i64 t363, .int .i64 t364, .int .i64 t365, .int .i64 t366], .agg #[.int .i64 t344, .int .i64 t345, .int .i64 t346, .int .i64 t347, .int .i64 t348, .int .i64 t349]] rfl (by (try simp only [List.map_toArray, List.map_cons, List.map_nil]); first | done | rfl | (simp only [List.length_drop, List.length_take]; rfl)) ?_; (with_reducible refine (laws_eqMotion.calls t361 t362 t363 t364 t365 t366 t344 t345 t346 t347 t348 t349 true _ A10.out).mono ?_); rintro e w47 ⟨rfl, hb⟩; refine ⟨_, rfl, ?_⟩; have n0_ := Aside0.mk (blk_below (g := gb333) (o := .cells #[.int .i64 a1_0, .int .i64 a1_1, .int .i64 a1_2] 23 (0, 0)) (by (with_reducible repeat (first | refine blk_drewN ?_ _ | refine blk_drew ?_ | refine blk_alloc ?_ _)); refine blk_far ?_ NB333_368.out _; (with_reducible repeat (first | refine blk_drewN ?_ _ | refine blk_drew ?_ | refine blk_alloc ?_ _)); refine blk_far ?_ NB333_368.out _; (with_reducible repeat (first | refine blk_drewN ?_ _ | refine blk_drew ?_ | refine blk_alloc ?_ _)); refine blk_far ?_ NB333_368.out _; (with_reducible repeat (first | refine blk_drewN ?_ _ | refine blk_drew ?_ | refine blk_alloc ?_ _)); refine blk_far ?_ NB333_368.out _; (with_reducible repeat (first | refine blk_drewN ?_ _ | refine blk_drew ?_ | refine blk_alloc ?_ _)); refine blk_far ?_ NB333_368.out _; (with_reducible repeat (first | refine blk_drewN ?_ _ | refine blk_drew ?_ | refine blk_alloc ?_ _)); refine blk_far ?_ NB333_368.out _; (with_reducible repeat (first | refine blk_drewN ?_ _ | refine blk_drew ?_ | refine blk_alloc ?_ _)); exact BK333.out) hb); have n1_ := Aside0.mk (blk_below (g := gb334) (o := .cells #[.int .i64 a2_0, .int .i64 a2_1, .int .i64 a2_2, .int .i64 a2_3, .int .i64 a2_4, .int .i64 a2_5] 29 (0, 0)) (by (with_reducible repeat (first | refine blk_drewN ?_ _ | refine blk_drew ?_ | refine blk_alloc ?_ _)); refine blk_far ?_ NB334_368.out _; (with_reducible repeat (first | refine blk_drewN ?_ _ | refine blk_drew ?_ | refine blk_alloc ?_ _)); refine blk_far ?_ NB334_368.out _; (with_reducible repeat (first | refine blk_drewN ?_ _ | refine blk_drew ?_ | refine blk_alloc ?_ _)); refine blk_far ?_ NB334_368.out _; (with_reducible repeat (first | refine blk_drewN ?_ _ | refine blk_drew ?_ | refine blk_alloc ?_ _)); refine blk_far ?_ NB334_368.out _; (with_reducible repeat (first | refine blk_drewN ?_ _ | refine blk_drew ?_ | refine blk_alloc ?_ _)); refine blk_far ?_ NB334_368.out _; (with_reducible repeat (first | refine blk_drewN ?_ _ | refine blk_drew ?_ | refine blk_alloc ?_ _)); refine blk_far ?_ NB334_368.out _; (with_reducible repeat (first | refine blk_drewN ?_ _ | refine blk_drew ?_ | refine blk_alloc ?_ _)); exact BK334.out) hb); have n2_ := Aside0.mk (blk_below (g := gb351) (o := .cells #[.int .i64 t344, .int .i64 t345, .int .i64 t346, .int .i64 t347, .int .i64 t348, .int .i64 t349] 36 (0, 0)) (by (with_reducible repeat (first | refine blk_drewN ?_ _ | refine blk_drew ?_ | refine blk_alloc ?_ _)); refine blk_far ?_ NB351_368.out _; (with_reducible repeat (first | refine blk_drewN ?_ _ | refine blk_drew ?_ | refine blk_alloc ?_ _)); refine blk_far ?_ NB351_368.out _; (with_reducible repeat (first | refine blk_drewN ?_ _ | refine blk_drew ?_ | refine blk_alloc ?_ _)); refine blk_far ?_ NB351_368.out _; (with_reducible repeat (first | refine blk_drewN ?_ _ | refine blk_drew ?_ | refine blk_alloc ?_ _)); refine blk_far ?_ NB351_368.out _; (with_reducible repeat (first | refine blk_drewN ?_ _ | refine blk_drew ?_ | refine blk_alloc ?_ _)); refine blk_far ?_ NB351_368.out _; (with_reducible repeat (first | refine blk_drewN ?_ _ | refine blk_drew ?_ | refine blk_alloc ?_ _)); refine blk_far ?_ NB351_368.out _; (with_reducible repeat (first | refine blk_drewN ?_ _ | refine blk_drew ?_ | refine blk_alloc ?_ _)); exact BK351.out) hb); have n3_ := Aside0.mk (blk_below (g := gb368) (o := .cells #[.int .i64 t361, .int .i64 t362, .int .i64 t363, .int .i64 t364, .int .i64 t365, .int .i64 t366] 36 (0, 0)) (by (with_reducible repeat (first | refine blk_drewN ?_ _ | refine blk_drew ?_ | refine blk_alloc ?_ _)); refine blk_put (cs := #[.int .i64 t361, .int .i64 t362, .int .i64 t363, .int .i64 t364, .int .i64 t365, .int .i64 0]) ?_ 5 _ rfl; (with_reducible repeat (first | refine blk_drewN ?_ _ | refine blk_drew ?_ | refine blk_alloc ?_ _)); refine blk_put (cs := #[.int .i64 t361, .int .i64 t362, .int .i64 t363, .int .i64 t364, .int .i64 0, .int .i64 0]) ?_ 4 _ rfl; (with_reducible repeat (first | refine blk_drewN ?_ _ | refine blk_drew ?_ | refine blk_alloc ?_ _)); refine blk_put (cs := #[.int .i64 t361, .int .i64 t362, .int .i64 t363, .int .i64 0, .int .i64 0, .int .i64 0]) ?_ 3 _ rfl; (with_reducible repeat (first | refine blk_drewN ?_ _ | refine blk_drew ?_ | refine blk_alloc ?_ _)); refine blk_put (cs := #[.int .i64 t361, .int .i64 t362, .int .i64 0, .int .i64 0, .int .i64 0, .int .i64 0]) ?_ 2 _ rfl; (with_reducible repeat (first | refine blk_drewN ?_ _ | refine blk_drew ?_ | refine blk_alloc ?_ _)); refine blk_put (cs := #[.int .i64 t361, .int .i64 0, .int .i64 0, .int .i64 0, .int .i64 0, .int .i64 0]) ?_ 1 _ rfl; (with_reducible repeat (first | refine blk_drewN ?_ _ | refine blk_drew ?_ | refine blk_alloc ?_ _)); refine blk_put (cs := #[.int .i64 0, .int .i64 0, .int .i64 0, .int .i64 0, .int .i64 0, .int .i64 0]) ?_ 0 _ rfl; (with_reducible repeat (first | refine blk_drewN ?_ _ | refine blk_drew ?_ | refine blk_alloc ?_ _)); exact BK368.out) hb); have n4_ := Aside0.mk (bst4 HB GE333 GE334 GE351 GE368 hb); clear BK333; clear BK334; clear BK351; clear BK368; clear HB; have BK333 := n0_; have BK334 := n1_; have BK351 := n2_; have BK368 := n3_; have HB := n4_; clear n0_ n1_ n2_ n3_ n4_; (try clear hb); (try clear hb2); (try clear hk); (try clear hi)))
      go_ret
      exact ⟨by first | rfl | (simp [errW_none, errW_some] <;> rfl) | (simp [*, errW_none, errW_some] <;> rfl), bbw4 HB GE333 GE334 GE351 GE368⟩
    · rw [if_neg c12] at H
      have c12b0 : (t367 == t350) = false := beq_eq_false_iff_ne.mpr c12
      have c12b1 : (t367 != t350) = true := bne_iff_ne.mpr c12
      exact absurd H (by simp)
  · replace c11 := Bool.eq_false_iff.mpr c11
    subst c11
    have H1 : (some false) = some true := by rw [if_neg (show ¬ (false = true) by decide)] at H; first | done | exact H
    clear H
    have H := H1
    clear H1
    exact absurd H (by simp)

/-- The one plain statement of laws_FnExactReduceMotion. -/
def laws_FnExactReduceMotion.Pure : Prop := ∀ (a0 : Int) (a1_0 : Int) (a1_1 : Int) (a1_2 : Int) (a2_0 : Int) (a2_1 : Int) (a2_2 : Int) (a2_3 : Int) (a2_4 : Int) (a2_5 : Int), (Lit.int .i64 a0).wf = true → (Lit.int .i64 a1_0).wf = true → (Lit.int .i64 a1_1).wf = true → (Lit.int .i64 a1_2).wf = true → (Lit.int .i64 a2_0).wf = true → (Lit.int .i64 a2_1).wf = true → (Lit.int .i64 a2_2).wf = true → (Lit.int .i64 a2_3).wf = true → (Lit.int .i64 a2_4).wf = true → (Lit.int .i64 a2_5).wf = true → ∃ k, laws_FnExactReduceMotion.f k a0 a1_0 a1_1 a1_2 a2_0 a2_1 a2_2 a2_3 a2_4 a2_5 = some true
end Go.Proofs.Ytndfnaehpdkaiaa.PA
