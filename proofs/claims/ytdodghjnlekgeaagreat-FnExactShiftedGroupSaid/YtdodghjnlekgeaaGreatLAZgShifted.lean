/- Plain lemmas on a group between two shifts. -/
import Derived.Test.YtdodghjnlekgeaaGreatAid
import Derived.Test.YtdodghjnlekgeaaGreatPAx0
import Derived.Test.YtdodghjnlekgeaaGreatLAABasic
import Derived.Test.YtdodghjnlekgeaaGreatLAGLattice
import Derived.Test.YtdodghjnlekgeaaGreatLAPbSuit
import Derived.Test.YtdodghjnlekgeaaGreatLAUOrder
import Derived.Test.YtdodghjnlekgeaaGreatLAVGroup
import Derived.Test.YtdodghjnlekgeaaGreatLAWIsgroup
import Derived.Test.YtdodghjnlekgeaaGreatLAZfInsert
import Derived.Test.YtdodghjnlekgeaaGreatPAx0
import Derived.Test.YtdodghjnlekgeaaGreatPAx10
import Derived.Test.YtdodghjnlekgeaaGreatPAx11
import Derived.Test.YtdodghjnlekgeaaGreatPAx12
import Derived.Test.YtdodghjnlekgeaaGreatPAx13
import Derived.Test.YtdodghjnlekgeaaGreatPAx14
import Derived.Test.YtdodghjnlekgeaaGreatPAx17
import Derived.Test.YtdodghjnlekgeaaGreatPAx6
import Derived.Test.YtdodghjnlekgeaaGreatPAx7
namespace Go.Proofs.YtdodghjnlekgeaaGreat.LA
open Go.RowKit Go.Proofs.YtdodghjnlekgeaaGreat.PA Go.Proofs.YtdodghjnlekgeaaGreatW.PrintWords Go.Proofs.YtdodghjnlekgeaaGreatW.PrintLast Go.Proofs.YtdodghjnlekgeaaGreat.Aid
set_option linter.unusedVariables false
set_option linter.unusedSimpArgs false

/-- A motion of a group between two shifts, reduced. -/
def shT (v0 v1 : Int) (m : S48) : Int × Int := (m.f1.f0 + v0 - (m.f0.f0 * v0 + m.f0.f1 * v1), m.f1.f1 + v1 - (m.f0.f2 * v0 + m.f0.f3 * v1))
def shM (a b c v0 v1 : Int) (m : S48) : S48 := ⟨m.f0, ⟨(red a b c (shT v0 v1 m).1 (shT v0 v1 m).2).1, (red a b c (shT v0 v1 m).1 (shT v0 v1 m).2).2⟩⟩
theorem uneq {n x y q : Int} (h0 : 0 ≤ x) (h1 : x < n) (g0 : 0 ≤ y) (g1 : y < n) (h : (x + q) % n = (y + q) % n) : x = y := by
  rw [Int.emod_add_cancel_right, Int.emod_eq_of_lt h0 h1, Int.emod_eq_of_lt g0 g1] at h
  exact h
theorem shM_inj {fr a b c : Int} (h : FL fr a b c) (v0 v1 : Int) {m n : S48} (gm : Good fr a b c m) (gn : Good fr a b c n) (e : shM a b c v0 v1 m = shM a b c v0 v1 n) : m = n := by
  obtain ⟨⟨m0, m1, m2, m3⟩, ⟨m4, m5⟩⟩ := m
  obtain ⟨⟨n0, n1, n2, n3⟩, ⟨n4, n5⟩⟩ := n
  unfold shM at e
  injection e with e1 e2
  dsimp only at e1
  injection e1 with k0 k1 k2 k3
  subst k0 k1 k2 k3
  injection e2 with k4 k5
  have rm := red_range (x := m4) (y := m5) h.2
  have rn := red_range (x := n4) (y := n5) h.2
  have gm2 : red a b c m4 m5 = (m4, m5) := gm.2
  have gn2 : red a b c n4 n5 = (n4, n5) := gn.2
  rw [gm2] at rm
  rw [gn2] at rn
  unfold shT red at k4 k5
  dsimp only at rm rn k4 k5
  have e5 : m5 = n5 := uneq (q := v1 - (m2 * v0 + m3 * v1)) rm.2.1 rm.2.2 rn.2.1 rn.2.2 (by rw [← Int.add_sub_assoc, ← Int.add_sub_assoc]; exact k5)
  subst e5
  have e4 : m4 = n4 := uneq (q := v0 - (m0 * v0 + m1 * v1) - (m5 + v1 - (m2 * v0 + m3 * v1)) / c * b) rm.1.1 rm.1.2 rn.1.1 rn.1.2 (by rw [← Int.add_sub_assoc, ← Int.add_sub_assoc, ← Int.add_sub_assoc, ← Int.add_sub_assoc]; exact k4)
  subst e4
  rfl
theorem shift_eq {fr a b c : Int} (h : FL fr a b c) {v0 v1 : Int} (hv : (-1000 ≤ v0 ∧ v0 ≤ 1000) ∧ (-1000 ≤ v1 ∧ v1 ≤ 1000)) {m : S48} (g : Good fr a b c m) :
    ∃ p0 p1 : Int, (spec_l02Apply.f m.f0.f0 m.f0.f1 m.f0.f2 m.f0.f3 v0 v1 = some (p0, p1) ∧ spec_l01Scale.f p0 p1 (-1) = some (-p0, -p1) ∧ spec_l01Add.f v0 v1 (-p0) (-p1) = some (v0 - p0, v1 - p1) ∧ spec_l01Add.f m.f1.f0 m.f1.f1 (v0 - p0) (v1 - p1) = some (shT v0 v1 m)) ∧
      (impl_Mat_apply.f m.f0.f0 m.f0.f1 m.f0.f2 m.f0.f3 v0 v1 = some (p0, p1) ∧ impl_Vec_times.f p0 p1 (-1) = some (-p0, -p1) ∧ impl_Vec_add.f m.f1.f0 m.f1.f1 v0 v1 = some (m.f1.f0 + v0, m.f1.f1 + v1) ∧ impl_Vec_add.f (m.f1.f0 + v0) (m.f1.f1 + v1) (-p0) (-p1) = some (shT v0 v1 m)) ∧
      spec_l06Reduce.f a b c m.f0.f0 m.f0.f1 m.f0.f2 m.f0.f3 (shT v0 v1 m).1 (shT v0 v1 m).2 = some (m.f0.f0, m.f0.f1, m.f0.f2, m.f0.f3, (shM a b c v0 v1 m).f1.f0, (shM a b c v0 v1 m).f1.f1) ∧
      impl_Lattice_reduceMotion.f a b c m.f0.f0 m.f0.f1 m.f0.f2 m.f0.f3 (shT v0 v1 m).1 (shT v0 v1 m).2 = some (m.f0.f0, m.f0.f1, m.f0.f2, m.f0.f3, (shM a b c v0 v1 m).f1.f0, (shM a b c v0 v1 m).f1.f1) := by
  obtain ⟨⟨m0, m1, m2, m3⟩, ⟨m4, m4'⟩, m5, m5'⟩ := g.small h
  obtain ⟨⟨v2, v3⟩, v4, v5⟩ := hv
  have q1 := um (B := 1000) (x := v0) m0 (by omega)
  have q2 := um (B := 1000) (x := v1) m1 (by omega)
  have q3 := um (B := 1000) (x := v0) m2 (by omega)
  have q4 := um (B := 1000) (x := v1) m3 (by omega)
  have hm : Mod4 a b c (shT v0 v1 m).1 (shT v0 v1 m).2 := by
    unfold shT
    exact h.2.mod4 (by dsimp only; omega) (by dsimp only; omega) (by dsimp only; omega) (by dsimp only; omega)
  have hsr := spec_reduce_eq hm
  have hir := impl_reduce_eq hm
  refine ⟨m.f0.f0 * v0 + m.f0.f1 * v1, m.f0.f2 * v0 + m.f0.f3 * v1, ⟨?_, ?_, ?_, ?_⟩, ⟨?_, ?_, ?_, ?_⟩, ?_, ?_⟩
  · unfold spec_l02Apply.f
    rw [w64s (x := m.f0.f0 * v0) (by omega) (by omega), w64s (x := m.f0.f1 * v1) (by omega) (by omega), w64s (x := m.f0.f2 * v0) (by omega) (by omega), w64s (x := m.f0.f3 * v1) (by omega) (by omega), w64s (by omega) (by omega), w64s (by omega) (by omega)]
  · unfold spec_l01Scale.f
    rw [w64s (by omega) (by omega), w64s (by omega) (by omega), Int.neg_one_mul, Int.neg_one_mul]
  · unfold spec_l01Add.f
    rw [w64s (by omega) (by omega), w64s (by omega) (by omega)]; rfl
  · unfold spec_l01Add.f shT
    rw [w64s (by omega) (by omega), w64s (by omega) (by omega), Int.add_sub_assoc, Int.add_sub_assoc]
  · unfold impl_Mat_apply.f
    rw [w64s (x := m.f0.f0 * v0) (by omega) (by omega), w64s (x := m.f0.f1 * v1) (by omega) (by omega), w64s (x := m.f0.f2 * v0) (by omega) (by omega), w64s (x := m.f0.f3 * v1) (by omega) (by omega), w64s (by omega) (by omega), w64s (by omega) (by omega)]
  · unfold impl_Vec_times.f
    rw [w64s (by omega) (by omega), w64s (by omega) (by omega), Int.neg_one_mul, Int.neg_one_mul]
  · unfold impl_Vec_add.f
    rw [w64s (by omega) (by omega), w64s (by omega) (by omega)]
  · unfold impl_Vec_add.f shT
    rw [w64s (by omega) (by omega), w64s (by omega) (by omega)]; rfl
  · unfold spec_l06Reduce.f
    rw [hsr]; rfl
  · unfold impl_Lattice_reduceMotion.f
    rw [hir]; rfl
theorem shift_loop {fr a b c : Int} (h : FL fr a b c) {v0 v1 : Int} (hv : (-1000 ≤ v0 ∧ v0 ≤ 1000) ∧ (-1000 ≤ v1 ∧ v1 ≤ 1000)) (xs : List S48) (hl : xs.length ≤ 768) (hg : ∀ j (hj : j < xs.length), Good fr a b c xs[j]) (d : Nat) : ∀ (i : Nat) (x y : List S48), i ≤ xs.length → xs.length - i = d → x.length ≤ i → y.length = i → Incr x →
    ∃ r : List S48, r.length ≤ xs.length ∧ Incr r ∧ (∀ z, z ∈ r ↔ z ∈ x ∨ z ∈ (xs.drop i).map (shM a b c v0 v1)) ∧ Ev (fun k => spec_ShiftedGroup.l0 k xs x i a b c v0 v1) (r, 0) ∧ Ev (fun k => impl_shiftedGroup.l0 k y xs (xs.length : Int) i a b c v0 v1) (impl_Motion.srtMo (y ++ (xs.drop i).map (shM a b c v0 v1))) := by
  induction d with
  | zero =>
    intro i x y hi hd hx hy hs
    rw [List.drop_eq_nil_of_le (by omega), List.map_nil, List.append_nil]
    refine ⟨x, by omega, hs, fun z => by simp, Ev.one (fun k => ?_), Ev.one (fun k => ?_)⟩
    · simp only [spec_ShiftedGroup.l0]; rw [if_neg (by omega)]
    · simp only [impl_shiftedGroup.l0]; rw [if_neg (by omega), if_pos (by omega)]
  | succ d ih =>
    intro i x y hi hd hx hy hs
    have h1 : i < xs.length := by omega
    have hw : wrap64 ((i : Int) + 1) = ((i + 1 : Nat) : Int) := by rw [w64s (by omega) (by omega)]; omega
    obtain ⟨p0, p1, ⟨s1, s2, s3, s4⟩, ⟨t1, t2, t3, t4⟩, s5, t5⟩ := shift_eq h hv (hg i h1)
    obtain ⟨n1, n2, n3, n4⟩ := ins_incr x (by omega) hs (shM a b c v0 v1 xs[i])
    obtain ⟨r, r1, r2, r3, r4, r5⟩ := ih (i + 1) (spec_l06Insert.ins x (shM a b c v0 v1 xs[i])) (y ++ [shM a b c v0 v1 xs[i]]) (by omega) (by omega) (by omega) (by simp; omega) n2
    rw [List.drop_eq_getElem_cons h1, List.map_cons]
    refine ⟨r, r1, r2, fun z => ?_, Ev.step (fun k => ?_) r4, Ev.step (fun k => ?_) (by rw [List.append_assoc, List.singleton_append] at r5; exact r5)⟩
    · rw [r3, n3, List.mem_cons, or_assoc]
    · simp only [spec_ShiftedGroup.l0]
      rw [if_pos (by omega), if_pos (by omega), rd_mo xs i h1, s1]
      simp only [Option.bind_some, s2, s3, s4, s5, hw]
      exact if_pos ⟨by omega, n1⟩
    · simp only [impl_shiftedGroup.l0]
      rw [if_pos (by omega), if_pos (by omega), if_pos (by omega), rd_mo xs i h1, t3]
      simp only [Option.bind_some, t1, t2, t4, t5, hw]
      exact if_pos (by omega)
theorem both_ShiftedGroup (fr a b c : Int) (xs : List S48) (v0 v1 : Int) (hx : (xs.length : Int) ≤ 1048576) : ∃ r : List S48 × Int, (r.1.length : Int) ≤ 1048576 ∧ Ev (fun k => spec_ShiftedGroup.f k fr a b c xs v0 v1) r ∧ Ev (fun k => impl_ShiftedGroup.f k fr a b c xs v0 v1) r := by
  obtain ⟨g, ⟨K1, s1⟩, ⟨K2, s2⟩, hgood⟩ := groupCode_both fr a b c xs hx
  have s1 : ∀ k, K1 ≤ k → spec_IsGroup.f k fr a b c xs = some g := s1
  have s2 : ∀ k, K2 ≤ k → impl_groupCode.f k fr a b c [xs] = some (if FL fr a b c then (if g = true then 0 else 2) else 1) := s2
  have q := fun i => spec_l06Code_eq fr a b c i
  have hv : spec_IsVec.f v0 v1 = some (decide ((-1000 ≤ v0 ∧ v0 ≤ 1000) ∧ (-1000 ≤ v1 ∧ v1 ≤ 1000))) := by
    unfold spec_IsVec.f
    rw [l01In_eq, l01In_eq, Option.bind_some, Option.bind_some]
    by_cases e : -1000 ≤ v0 ∧ v0 ≤ 1000
    · rw [if_pos (decide_eq_true e)]; congr 1; rw [decide_eq_decide]; exact ⟨fun z => ⟨e, z⟩, fun z => z.2⟩
    · rw [if_neg (by rw [decide_eq_true_eq]; exact e)]; congr 1; exact (decide_eq_false (fun z => e z.1)).symm
  have hv2 : impl_IsVec.f v0 v1 = some (decide ((-1000 ≤ v0 ∧ v0 ≤ 1000) ∧ (-1000 ≤ v1 ∧ v1 ≤ 1000))) := by
    rw [impl_IsVec_eq]; rfl
  by_cases hf : FL fr a b c
  · rw [if_pos hf] at s2
    by_cases hgr : g = true
    · rw [if_pos hgr] at s2
      by_cases e : (-1000 ≤ v0 ∧ v0 ≤ 1000) ∧ (-1000 ≤ v1 ∧ v1 ≤ 1000)
      · obtain ⟨_, gg, gi, gl⟩ := hgood hgr
        obtain ⟨r, r1, r2, r3, ⟨K4, r4⟩, ⟨K5, r5⟩⟩ := shift_loop hf e xs gl gg xs.length 0 [] [] (by omega) rfl (by simp) rfl incr_nil
        have hnd : (xs.map (shM a b c v0 v1)).Nodup := by
          rw [List.Nodup, List.pairwise_map, List.pairwise_iff_getElem]
          intro i j hi hj hij he
          have := shM_inj hf v0 v1 (gg i hi) (gg j hj) he
          have h2 := gi i j hi hj hij
          rw [this] at h2
          exact ltM_irrefl _ h2
        have hr : r = impl_Motion.srtMo (xs.map (shM a b c v0 v1)) := incr_ext r2 (srt_incr _ hnd) (fun z => by rw [srt_mem, r3]; simp)
        have r4 : ∀ k, K4 ≤ k → spec_ShiftedGroup.l0 k xs [] 0 a b c v0 v1 = some (r, 0) := r4
        have r5 : ∀ k, K5 ≤ k → impl_shiftedGroup.l0 k [] xs (xs.length : Int) 0 a b c v0 v1 = some (impl_Motion.srtMo (xs.map (shM a b c v0 v1))) := r5
        rw [← hr] at r5
        refine ⟨(r, 0), by show (r.length : Int) ≤ 1048576; omega, ⟨K1 + K4 + 1, fun k hk => ?_⟩, ⟨K2 + K5, fun k hk => ?_⟩⟩
        · show spec_ShiftedGroup.f k fr a b c xs v0 v1 = _
          obtain ⟨m, rfl⟩ : ∃ m, k = m + 1 := ⟨k - 1, by omega⟩
          unfold spec_ShiftedGroup.f
          rw [s1 _ (by omega), Option.bind_some, if_pos hgr, hv, Option.bind_some, q, Option.bind_some, if_pos hf, if_pos (decide_eq_true e)]
          simp only [spec_ShiftedGroup.j0]
          rw [if_pos trivial]; exact r4 m (by omega)
        · show impl_ShiftedGroup.f k fr a b c xs v0 v1 = _
          unfold impl_ShiftedGroup.f impl_shiftedGroup.f
          rw [s2 _ (by omega), Option.bind_some, if_pos rfl, hv2, Option.bind_some, if_pos (decide_eq_true e), r5 k (by omega)]
          rfl
      · refine ⟨([], 2), by decide, ⟨K1 + 1, fun k hk => ?_⟩, ⟨K2, fun k hk => ?_⟩⟩
        · show spec_ShiftedGroup.f k fr a b c xs v0 v1 = _
          obtain ⟨m, rfl⟩ : ∃ m, k = m + 1 := ⟨k - 1, by omega⟩
          unfold spec_ShiftedGroup.f
          rw [s1 _ (by omega), Option.bind_some, if_pos hgr, hv, Option.bind_some, q, Option.bind_some, if_pos hf, if_neg (by rw [decide_eq_true_eq]; exact e)]
          simp only [spec_ShiftedGroup.j0]
          rw [if_neg (by decide)]
        · show impl_ShiftedGroup.f k fr a b c xs v0 v1 = _
          unfold impl_ShiftedGroup.f
          rw [s2 _ (by omega), Option.bind_some, if_pos rfl, hv2, Option.bind_some, if_neg (by rw [decide_eq_true_eq]; exact e)]
    · rw [if_neg hgr] at s2
      refine ⟨([], 2), by decide, ⟨K1 + 1, fun k hk => ?_⟩, ⟨K2, fun k hk => ?_⟩⟩
      · show spec_ShiftedGroup.f k fr a b c xs v0 v1 = _
        obtain ⟨m, rfl⟩ : ∃ m, k = m + 1 := ⟨k - 1, by omega⟩
        unfold spec_ShiftedGroup.f
        rw [s1 _ (by omega), Option.bind_some, if_neg hgr, q, Option.bind_some, if_pos hf, if_neg (by decide)]
        simp only [spec_ShiftedGroup.j0]
        rw [if_neg (by decide)]
      · show impl_ShiftedGroup.f k fr a b c xs v0 v1 = _
        unfold impl_ShiftedGroup.f
        rw [s2 _ (by omega), Option.bind_some, if_neg (by decide)]
  · rw [if_neg hf] at s2
    refine ⟨([], 1), by decide, ⟨K1 + 1, fun k hk => ?_⟩, ⟨K2, fun k hk => ?_⟩⟩
    · show spec_ShiftedGroup.f k fr a b c xs v0 v1 = _
      obtain ⟨m, rfl⟩ : ∃ m, k = m + 1 := ⟨k - 1, by omega⟩
      have hgf : ¬ g = true := fun z => hf (hgood z).1
      unfold spec_ShiftedGroup.f
      rw [s1 _ (by omega), Option.bind_some, if_neg hgf, q, Option.bind_some, if_neg hf]
      simp only [spec_ShiftedGroup.j0]
      rw [if_neg (by decide)]
    · show impl_ShiftedGroup.f k fr a b c xs v0 v1 = _
      unfold impl_ShiftedGroup.f
      rw [s2 _ (by omega), Option.bind_some, if_neg (by decide)]

end Go.Proofs.YtdodghjnlekgeaaGreat.LA
