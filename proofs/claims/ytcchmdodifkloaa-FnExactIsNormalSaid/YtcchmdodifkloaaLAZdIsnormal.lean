/- Plain lemmas on IsNormal: the loops over both groups. -/
import Derived.Test.YtcchmdodifkloaaAid
import Derived.Test.YtcchmdodifkloaaPAx0
import Derived.Test.YtcchmdodifkloaaLAABasic
import Derived.Test.YtcchmdodifkloaaLAGLattice
import Derived.Test.YtcchmdodifkloaaLAUOrder
import Derived.Test.YtcchmdodifkloaaLAVGroup
import Derived.Test.YtcchmdodifkloaaLAZbSubgroup
import Derived.Test.YtcchmdodifkloaaLAZcNormal
import Derived.Test.YtcchmdodifkloaaPAx0
import Derived.Test.YtcchmdodifkloaaPAx11
import Derived.Test.YtcchmdodifkloaaPAx22
import Derived.Test.YtcchmdodifkloaaPAx23
import Derived.Test.YtcchmdodifkloaaPAx5
import Derived.Test.YtcchmdodifkloaaPAx7
import Derived.Test.YtcchmdodifkloaaPAx9
namespace Go.Proofs.Ytcchmdodifkloaa.LA
open Go.RowKit Go.Proofs.Ytcchmdodifkloaa.PA Go.Proofs.YtcchmdodifkloaaW.PrintWords Go.Proofs.YtcchmdodifkloaaW.PrintLast Go.Proofs.Ytcchmdodifkloaa.Aid
set_option linter.unusedVariables false
set_option linter.unusedSimpArgs false

/-- A reduced motion. -/
def redM (a b c : Int) (m : S55) : S55 := ⟨m.f0, ⟨(red a b c m.f1.f0 m.f1.f1).1, (red a b c m.f1.f0 m.f1.f1).2⟩⟩
theorem conj_eq {fr a b c : Int} (h : FL fr a b c) {g m i : S55} (gg : Good fr a b c g) (gm : Good fr a b c m) (hi : Sm 2 300 i) :
    (∃ p0 p1 p2 p3 p4 p5, spec_l05Compose.f g.f0.f0 g.f0.f1 g.f0.f2 g.f0.f3 g.f1.f0 g.f1.f1 m.f0.f0 m.f0.f1 m.f0.f2 m.f0.f3 m.f1.f0 m.f1.f1 = some (p0, p1, p2, p3, p4, p5) ∧ spec_l15Product.f a b c p0 p1 p2 p3 p4 p5 i.f0.f0 i.f0.f1 i.f0.f2 i.f0.f3 i.f1.f0 i.f1.f1 = some ((redM a b c (comp g (comp m i))).f0.f0, (redM a b c (comp g (comp m i))).f0.f1, (redM a b c (comp g (comp m i))).f0.f2, (redM a b c (comp g (comp m i))).f0.f3, (redM a b c (comp g (comp m i))).f1.f0, (redM a b c (comp g (comp m i))).f1.f1)) ∧
    (∃ p0 p1 p2 p3 p4 p5, impl_Motion_times.f m.f0.f0 m.f0.f1 m.f0.f2 m.f0.f3 m.f1.f0 m.f1.f1 i.f0.f0 i.f0.f1 i.f0.f2 i.f0.f3 i.f1.f0 i.f1.f1 = some (p0, p1, p2, p3, p4, p5) ∧ impl_Lattice_compose.f a b c g.f0.f0 g.f0.f1 g.f0.f2 g.f0.f3 g.f1.f0 g.f1.f1 p0 p1 p2 p3 p4 p5 = some ((redM a b c (comp g (comp m i))).f0.f0, (redM a b c (comp g (comp m i))).f0.f1, (redM a b c (comp g (comp m i))).f0.f2, (redM a b c (comp g (comp m i))).f0.f3, (redM a b c (comp g (comp m i))).f1.f0, (redM a b c (comp g (comp m i))).f1.f1)) := by
  have sg : Sm 1 64 g := by
    obtain ⟨m1, ⟨m4, m4'⟩, m5, m5'⟩ := gg.small h
    exact ⟨m1, ⟨by omega, by omega⟩, by omega, by omega⟩
  have sm : Sm 1 64 m := by
    obtain ⟨m1, ⟨m4, m4'⟩, m5, m5'⟩ := gm.small h
    exact ⟨m1, ⟨by omega, by omega⟩, by omega, by omega⟩
  obtain ⟨c1, c2⟩ := comp_eq h gg gm
  have c3 : Sm 2 200 (comp g m) := c2
  have c4 : Sm 4 100000 (comp m i) := by
    obtain ⟨⟨m0, m1, m2, m3⟩, ⟨m4, m4'⟩, m5, m5'⟩ := sm
    obtain ⟨⟨n0, n1, n2, n3⟩, ⟨n4, n4'⟩, n5, n5'⟩ := hi
    have p1 := um (B := 2) m0 n0
    have p2 := um (B := 2) m1 n2
    have p3 := um (B := 2) m0 n1
    have p4 := um (B := 2) m1 n3
    have p5 := um (B := 2) m2 n0
    have p6 := um (B := 2) m3 n2
    have p7 := um (B := 2) m2 n1
    have p8 := um (B := 2) m3 n3
    have p9 := um (B := 300) (x := i.f1.f0) m0 (by omega)
    have p10 := um (B := 300) (x := i.f1.f1) m1 (by omega)
    have p11 := um (B := 300) (x := i.f1.f0) m2 (by omega)
    have p12 := um (B := 300) (x := i.f1.f1) m3 (by omega)
    unfold Sm comp
    dsimp only
    exact ⟨⟨⟨by omega, by omega⟩, ⟨by omega, by omega⟩, ⟨by omega, by omega⟩, by omega, by omega⟩, ⟨by omega, by omega⟩, by omega, by omega⟩
  obtain ⟨t1, -⟩ := times_eq (sm.more (by omega) (by omega)) (hi.more (by omega) (by omega) : Sm 4 100000 i)
  obtain ⟨t2, b2⟩ := times_eq (sg.more (by omega) (by omega)) c4
  obtain ⟨t3, -⟩ := times_eq (c3.more (by omega) (by omega) : Sm 4 100000 (comp g m)) (hi.more (by omega) (by omega) : Sm 4 100000 i)
  rw [comp_assoc] at t3
  obtain ⟨-, ⟨b4, b4'⟩, b5, b5'⟩ := b2
  have hm : Mod4 a b c (comp g (comp m i)).f1.f0 (comp g (comp m i)).f1.f1 := h.2.mod4 (by omega) (by omega) (by omega) (by omega)
  have hsr := spec_reduce_eq hm
  have hir := impl_reduce_eq hm
  refine ⟨⟨_, _, _, _, _, _, by rw [comp_same]; exact c1, ?_⟩, ⟨_, _, _, _, _, _, t1, ?_⟩⟩
  · unfold spec_l15Product.f
    rw [comp_same (comp g m) i, t3, Option.bind_some]
    unfold spec_l06Reduce.f
    simp only [Option.bind_some]
    rw [hsr]
    rfl
  · unfold impl_Lattice_compose.f
    rw [t2, Option.bind_some]
    unfold impl_Lattice_reduceMotion.f
    simp only [Option.bind_some]
    rw [hir]
    rfl
theorem normal_row {fr a b c : Int} (h : FL fr a b c) (gs hs : List S55) (lg : gs.length ≤ 48) (lh : hs.length ≤ 768) (gg : ∀ j (hj : j < gs.length), Good fr a b c gs[j]) (gh : ∀ j (hj : j < hs.length), Good fr a b c hs[j]) (ih : Incr hs) (i : Nat) (hi : i < gs.length)
    (v : S55) (sv : Sm 2 300 v) (ev : impl_Motion_inverse.f gs[i].f0.f0 gs[i].f0.f1 gs[i].f0.f2 gs[i].f0.f3 gs[i].f1.f0 gs[i].f1.f1 = some (v.f0.f0, v.f0.f1, v.f0.f2, v.f0.f3, v.f1.f0, v.f1.f1))
    (hr : ∃ r, Ev (fun k => spec_IsNormal.l0 k gs hs ((i + 1 : Nat) : Int) a b c) r ∧ Ev (fun k => impl_IsNormal.l0 k hs gs (gs.length : Int) ((i + 1 : Nat) : Int) a b c) r) (d : Nat) : ∀ j : Nat, j ≤ hs.length → hs.length - j = d →
    ∃ r, Ev (fun k => spec_IsNormal.l1 k gs hs i j a b c v.f0.f0 v.f0.f1 v.f0.f2 v.f0.f3 v.f1.f0 v.f1.f1) r ∧ Ev (fun k => impl_IsNormal.l1 k hs gs (gs.length : Int) i hs (hs.length : Int) j a b c gs[i].f0.f0 gs[i].f0.f1 gs[i].f0.f2 gs[i].f0.f3 gs[i].f1.f0 gs[i].f1.f1) r := by
  have hwi : wrap64 ((i : Int) + 1) = ((i + 1 : Nat) : Int) := by rw [w64s (by omega) (by omega)]; omega
  induction d with
  | zero =>
    intro j hj hd
    obtain ⟨r, h1, h2⟩ := hr
    refine ⟨r, Ev.step (fun k => ?_) h1, Ev.step (fun k => ?_) h2⟩
    · simp only [spec_IsNormal.l1]; rw [if_neg (by omega), hwi]
    · simp only [impl_IsNormal.l1]; rw [if_neg (by omega), hwi]
  | succ d ihd =>
    intro j hj hd
    have h1 : j < hs.length := by omega
    have hw : wrap64 ((j : Int) + 1) = ((j + 1 : Nat) : Int) := by rw [w64s (by omega) (by omega)]; omega
    obtain ⟨⟨p0, p1, p2, p3, p4, p5, c1, c2⟩, ⟨q0, q1, q2, q3, q4, q5, d1, d2⟩⟩ := conj_eq h (gg i hi) (gh j h1) sv
    have hh := fun k hk => spec_has6_eq hs (by omega) ih (redM a b c (comp gs[i] (comp hs[j] v))) k hk
    have hsp : ∀ k, 2000000 ≤ k → spec_IsNormal.l1 (k + 1) gs hs i j a b c v.f0.f0 v.f0.f1 v.f0.f2 v.f0.f3 v.f1.f0 v.f1.f1 = if impl_containsAll.hasB hs (redM a b c (comp gs[i] (comp hs[j] v))) = true then spec_IsNormal.l1 k gs hs i ((j + 1 : Nat) : Int) a b c v.f0.f0 v.f0.f1 v.f0.f2 v.f0.f3 v.f1.f0 v.f1.f1 else some (false, 0) := fun k hk => by
      have hk' := hh k hk
      simp only [spec_IsNormal.l1]
      rw [if_pos (by omega), if_pos (by omega), if_pos (by omega), if_pos (by omega), rd_mo _ _ hi, rd_mo _ _ h1, c1]
      simp only [Option.bind_some]
      rw [c2]
      simp only [Option.bind_some]
      rw [hk', Option.bind_some, hasB_any, hw]
    have him : ∀ k, hs.length < k → impl_IsNormal.l1 (k + 1) hs gs (gs.length : Int) i hs (hs.length : Int) j a b c gs[i].f0.f0 gs[i].f0.f1 gs[i].f0.f2 gs[i].f0.f3 gs[i].f1.f0 gs[i].f1.f1 = if impl_containsAll.hasB hs (redM a b c (comp gs[i] (comp hs[j] v))) = true then impl_IsNormal.l1 k hs gs (gs.length : Int) i hs (hs.length : Int) ((j + 1 : Nat) : Int) a b c gs[i].f0.f0 gs[i].f0.f1 gs[i].f0.f2 gs[i].f0.f3 gs[i].f1.f0 gs[i].f1.f1 else some (false, 0) := fun k hk => by
      simp only [impl_IsNormal.l1]
      rw [if_pos (by omega), if_pos (by omega), if_pos (by omega), ev]
      simp only [Option.bind_some]
      rw [rd_mo _ _ h1, d1]
      simp only [Option.bind_some]
      rw [d2]
      simp only [Option.bind_some]
      rw [impl_containsAll.has_eq hs (by omega) (redM a b c (comp gs[i] (comp hs[j] v))) hk, Option.bind_some, hw]
    by_cases hb : impl_containsAll.hasB hs (redM a b c (comp gs[i] (comp hs[j] v))) = true
    · obtain ⟨r, ⟨K1, r1⟩, ⟨K2, r2⟩⟩ := ihd (j + 1) (by omega) (by omega)
      refine ⟨r, ⟨K1 + 2000001, fun k hk => ?_⟩, ⟨K2 + hs.length + 2, fun k hk => ?_⟩⟩
      · obtain ⟨k, rfl⟩ : ∃ m, k = m + 1 := ⟨k - 1, by omega⟩
        exact (hsp k (by omega)).trans ((if_pos hb).trans (r1 k (by omega)))
      · obtain ⟨k, rfl⟩ : ∃ m, k = m + 1 := ⟨k - 1, by omega⟩
        exact (him k (by omega)).trans ((if_pos hb).trans (r2 k (by omega)))
    · refine ⟨(false, 0), ⟨2000001, fun k hk => ?_⟩, ⟨hs.length + 2, fun k hk => ?_⟩⟩
      · obtain ⟨k, rfl⟩ : ∃ m, k = m + 1 := ⟨k - 1, by omega⟩
        exact (hsp k (by omega)).trans (if_neg hb)
      · obtain ⟨k, rfl⟩ : ∃ m, k = m + 1 := ⟨k - 1, by omega⟩
        exact (him k (by omega)).trans (if_neg hb)
theorem normal_loop {fr a b c : Int} (h : FL fr a b c) (gs hs : List S55) (lg : gs.length ≤ 48) (lh : hs.length ≤ 768) (gg : ∀ j (hj : j < gs.length), Good fr a b c gs[j]) (gh : ∀ j (hj : j < hs.length), Good fr a b c hs[j]) (ih : Incr hs) (d : Nat) : ∀ i : Nat, i ≤ gs.length → gs.length - i = d →
    ∃ r, Ev (fun k => spec_IsNormal.l0 k gs hs (i : Int) a b c) r ∧ Ev (fun k => impl_IsNormal.l0 k hs gs (gs.length : Int) (i : Int) a b c) r := by
  induction d with
  | zero =>
    intro i hi hd
    refine ⟨(true, 0), Ev.one (fun k => ?_), Ev.one (fun k => ?_)⟩
    · simp only [spec_IsNormal.l0]; rw [if_neg (by omega)]
    · simp only [impl_IsNormal.l0]; rw [if_neg (by omega)]
  | succ d ihd =>
    intro i hi hd
    have h1 : i < gs.length := by omega
    obtain ⟨v, sv, ev⟩ := inv_small h (gg i h1)
    obtain ⟨r, r1, r2⟩ := normal_row h gs hs lg lh gg gh ih i h1 v sv ev (ihd (i + 1) (by omega) (by omega)) hs.length 0 (by omega) rfl
    refine ⟨r, Ev.step (fun k => ?_) r1, Ev.step (fun k => ?_) r2⟩
    · simp only [spec_IsNormal.l0]
      rw [if_pos (by omega), if_pos (by omega), rd_mo _ _ h1, inv_same, ev]
      rfl
    · simp only [impl_IsNormal.l0]
      rw [if_pos (by omega), if_pos (by omega), if_pos (by omega), rd_mo _ _ h1]
      rfl
theorem both_IsNormal (fr a b c : Int) (xs ys : List S55) (hx : (xs.length : Int) ≤ 1048576) (hy : (ys.length : Int) ≤ 1048576) : ∃ r, Ev (fun k => spec_IsNormal.f k fr a b c xs ys) r ∧ Ev (fun k => impl_IsNormal.f k fr a b c xs ys) r := by
  obtain ⟨e, ⟨K1, s1⟩, ⟨K2, s2⟩, g⟩ := subCode_both fr a b c xs ys hx hy
  have s1 : ∀ k, K1 ≤ k → spec_l15Code.f k fr a b c xs ys = some e := s1
  have s2 : ∀ k, K2 ≤ k → impl_subCode.f k fr a b c xs ys = some e := s2
  by_cases e0 : e = 0
  · obtain ⟨h, lx, gx, ix, gy, iy, ly, -⟩ := g e0
    obtain ⟨r, ⟨K3, r1⟩, ⟨K4, r2⟩⟩ := normal_loop h xs ys lx ly gx gy iy xs.length 0 (by omega) rfl
    refine ⟨r, ⟨K1 + K3, fun k hk => ?_⟩, ⟨K2 + K4, fun k hk => ?_⟩⟩
    · show spec_IsNormal.f k fr a b c xs ys = _
      unfold spec_IsNormal.f
      rw [s1 k (by omega), Option.bind_some, if_pos e0]; exact r1 k (by omega)
    · show impl_IsNormal.f k fr a b c xs ys = _
      unfold impl_IsNormal.f
      rw [s2 k (by omega), Option.bind_some, if_pos e0]; exact r2 k (by omega)
  · refine ⟨(false, e), ⟨K1, fun k hk => ?_⟩, ⟨K2, fun k hk => ?_⟩⟩
    · show spec_IsNormal.f k fr a b c xs ys = _
      unfold spec_IsNormal.f
      rw [s1 k hk, Option.bind_some, if_neg e0]
    · show impl_IsNormal.f k fr a b c xs ys = _
      unfold impl_IsNormal.f
      rw [s2 k hk, Option.bind_some, if_neg e0]

end Go.Proofs.Ytcchmdodifkloaa.LA
