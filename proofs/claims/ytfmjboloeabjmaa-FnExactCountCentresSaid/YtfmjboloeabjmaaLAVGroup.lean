/- Plain lemmas on groups: both sides answer alike whether a list of motions is a group. -/
import Derived.Test.YtfmjboloeabjmaaAid
import Derived.Test.YtfmjboloeabjmaaPAx0
import Derived.Test.YtfmjboloeabjmaaLAABasic
import Derived.Test.YtfmjboloeabjmaaLAGLattice
import Derived.Test.YtfmjboloeabjmaaLAPPoints
import Derived.Test.YtfmjboloeabjmaaLAPbSuit
import Derived.Test.YtfmjboloeabjmaaLAUOrder
import Derived.Test.YtfmjboloeabjmaaPAx0
import Derived.Test.YtfmjboloeabjmaaPAx12
import Derived.Test.YtfmjboloeabjmaaPAx14
import Derived.Test.YtfmjboloeabjmaaPAx15
import Derived.Test.YtfmjboloeabjmaaPAx7
import Derived.Test.YtfmjboloeabjmaaPAx8
namespace Go.Proofs.Ytfmjboloeabjmaa.LA
open Go.RowKit Go.Proofs.Ytfmjboloeabjmaa.PA Go.Proofs.YtfmjboloeabjmaaW.PrintWords Go.Proofs.YtfmjboloeabjmaaW.PrintLast Go.Proofs.Ytfmjboloeabjmaa.Aid
set_option linter.unusedVariables false
set_option linter.unusedSimpArgs false

/-- A motion of a list that both sides let in: its matrix keeps the lattice, its shift is a cell. -/
def Good (fr a b c : Int) (m : S44) : Prop := ((m.f0.f0, m.f0.f1, m.f0.f2, m.f0.f3) ∈ pmL fr ∧ KeepL a b c (m.f0.f0, m.f0.f1, m.f0.f2, m.f0.f3)) ∧ red a b c m.f1.f0 m.f1.f1 = (m.f1.f0, m.f1.f1)
instance (fr a b c : Int) (m : S44) : Decidable (Good fr a b c m) := by unfold Good; infer_instance
theorem Good.small {fr a b c : Int} (h : FL fr a b c) {m : S44} (g : Good fr a b c m) : ((-1 ≤ m.f0.f0 ∧ m.f0.f0 ≤ 1) ∧ (-1 ≤ m.f0.f1 ∧ m.f0.f1 ≤ 1) ∧ (-1 ≤ m.f0.f2 ∧ m.f0.f2 ≤ 1) ∧ (-1 ≤ m.f0.f3 ∧ m.f0.f3 ≤ 1)) ∧ (0 ≤ m.f1.f0 ∧ m.f1.f0 < 64) ∧ (0 ≤ m.f1.f1 ∧ m.f1.f1 < 64) := by
  have h1 := pm_small h.1 g.1.1
  have h2 := red_range (x := m.f1.f0) (y := m.f1.f1) h.2
  rw [g.2] at h2
  obtain ⟨l1, l2, l3, l4, l5, l6, _⟩ := h.2
  dsimp only at h1 h2
  exact ⟨h1, ⟨h2.1.1, by omega⟩, h2.2.1, by omega⟩
theorem lit_wf {x : Int} (h0 : -9223372036854775808 ≤ x) (h1 : x ≤ 9223372036854775807) : (Lit.int .i64 x).wf = true := by
  simp [Lit.wf, IntKind.min, IntKind.max, IntKind.bits, IntKind.signed]; omega
theorem wf_of {m : S44} (h0 : -1000000 ≤ m.f0.f0 ∧ m.f0.f0 ≤ 1000000) (h1 : -1000000 ≤ m.f0.f1 ∧ m.f0.f1 ≤ 1000000) (h2 : -1000000 ≤ m.f0.f2 ∧ m.f0.f2 ≤ 1000000) (h3 : -1000000 ≤ m.f0.f3 ∧ m.f0.f3 ≤ 1000000) (h4 : -1000000 ≤ m.f1.f0 ∧ m.f1.f0 ≤ 1000000) (h5 : -1000000 ≤ m.f1.f1 ∧ m.f1.f1 ≤ 1000000) : mapMo.wf m = true := by
  unfold mapMo.wf mapMo.lits
  rw [List.all_cons, List.all_cons, List.all_cons, List.all_cons, List.all_cons, List.all_cons, lit_wf (by omega) (by omega), lit_wf (by omega) (by omega), lit_wf (by omega) (by omega), lit_wf (by omega) (by omega), lit_wf (by omega) (by omega), lit_wf (by omega) (by omega)]
  rfl
theorem Good.wf {fr a b c : Int} (h : FL fr a b c) {m : S44} (g : Good fr a b c m) : mapMo.wf m = true := by
  obtain ⟨⟨h1, h2, h3, h4⟩, h5, h6⟩ := g.small h
  exact wf_of (by omega) (by omega) (by omega) (by omega) (by omega) (by omega)
theorem incr_of_adj {xs : List S44} (h : ∀ i (hi : i + 1 < xs.length), ltM (xs[i]'(by omega)) xs[i + 1]) : Incr xs := by
  intro i j hi hj hij
  obtain ⟨d, rfl⟩ : ∃ d, j = i + 1 + d := ⟨j - i - 1, by omega⟩
  induction d with
  | zero => exact h i hj
  | succ d ih => exact ltM_trans (ih (by omega) (by omega)) (h (i + 1 + d) hj)
/-- The program's reducing, whatever the vector: does it leave the vector? -/
theorem reduce_any {a b c : Int} (hl : Lat a b c) (x y : Int) : ∃ p q, impl_Lattice_reduce.f a b c x y = some (p, q) ∧ ((p = x ∧ q = y) ↔ red a b c x y = (x, y)) := by
  by_cases hb : (-1000000000 ≤ x ∧ x ≤ 1000000000) ∧ (-1000000000 ≤ y ∧ y ≤ 1000000000)
  · refine ⟨_, _, impl_reduce_eq (hl.mod4 hb.1.1 hb.1.2 hb.2.1 hb.2.2), ?_⟩
    rw [Prod.ext_iff]; exact Iff.rfl
  · obtain ⟨l1, l2, l3, l4, l5, l6, _⟩ := id hl
    have hr := red_range (x := x) (y := y) hl
    unfold impl_Lattice_reduce.f
    rw [impl_mod_eq y l3 (by omega)]
    simp only [Option.bind_some]
    rw [if_neg (by omega), impl_mod_eq _ l1 (by omega)]
    refine ⟨_, _, rfl, ?_⟩
    have z1 := Int.emod_nonneg y (show c ≠ 0 by omega)
    have z2 := Int.emod_lt_of_pos y (show 0 < c by omega)
    constructor
    · rintro ⟨e1, e2⟩
      exfalso
      have z3 := Int.emod_nonneg (wrap64 (x - wrap64 (wrap64 (Int.tdiv (wrap64 (y - y % c)) c) * b))) (show a ≠ 0 by omega)
      have z4 := Int.emod_lt_of_pos (wrap64 (x - wrap64 (wrap64 (Int.tdiv (wrap64 (y - y % c)) c) * b))) (show 0 < a by omega)
      rw [e1] at z3 z4
      rw [e2] at z1 z2
      omega
    · intro e
      exfalso
      rw [e] at hr
      dsimp only at hr
      omega
theorem comp_same (m n : S44) : spec_l05Compose.f m.f0.f0 m.f0.f1 m.f0.f2 m.f0.f3 m.f1.f0 m.f1.f1 n.f0.f0 n.f0.f1 n.f0.f2 n.f0.f3 n.f1.f0 n.f1.f1 = impl_Motion_times.f m.f0.f0 m.f0.f1 m.f0.f2 m.f0.f3 m.f1.f0 m.f1.f1 n.f0.f0 n.f0.f1 n.f0.f2 n.f0.f3 n.f1.f0 n.f1.f1 := rfl
theorem um {u x B : Int} (h : -1 ≤ u ∧ u ≤ 1) (hx : -B ≤ x ∧ x ≤ B) : -B ≤ u * x ∧ u * x ≤ B := by
  have : u = -1 ∨ u = 0 ∨ u = 1 := by omega
  rcases this with rfl | rfl | rfl <;> omega
/-- The product of two motions, before it is reduced. -/
def comp (m n : S44) : S44 := ⟨⟨m.f0.f0 * n.f0.f0 + m.f0.f1 * n.f0.f2, m.f0.f0 * n.f0.f1 + m.f0.f1 * n.f0.f3, m.f0.f2 * n.f0.f0 + m.f0.f3 * n.f0.f2, m.f0.f2 * n.f0.f1 + m.f0.f3 * n.f0.f3⟩, ⟨m.f0.f0 * n.f1.f0 + m.f0.f1 * n.f1.f1 + m.f1.f0, m.f0.f2 * n.f1.f0 + m.f0.f3 * n.f1.f1 + m.f1.f1⟩⟩
theorem comp_eq {fr a b c : Int} (h : FL fr a b c) {m n : S44} (gm : Good fr a b c m) (gn : Good fr a b c n) :
    impl_Motion_times.f m.f0.f0 m.f0.f1 m.f0.f2 m.f0.f3 m.f1.f0 m.f1.f1 n.f0.f0 n.f0.f1 n.f0.f2 n.f0.f3 n.f1.f0 n.f1.f1 = some ((comp m n).f0.f0, (comp m n).f0.f1, (comp m n).f0.f2, (comp m n).f0.f3, (comp m n).f1.f0, (comp m n).f1.f1) ∧
    (((-2 ≤ (comp m n).f0.f0 ∧ (comp m n).f0.f0 ≤ 2) ∧ (-2 ≤ (comp m n).f0.f1 ∧ (comp m n).f0.f1 ≤ 2) ∧ (-2 ≤ (comp m n).f0.f2 ∧ (comp m n).f0.f2 ≤ 2) ∧ (-2 ≤ (comp m n).f0.f3 ∧ (comp m n).f0.f3 ≤ 2)) ∧ (-200 ≤ (comp m n).f1.f0 ∧ (comp m n).f1.f0 ≤ 200) ∧ (-200 ≤ (comp m n).f1.f1 ∧ (comp m n).f1.f1 ≤ 200)) := by
  obtain ⟨⟨m0, m1, m2, m3⟩, ⟨m4, m4'⟩, m5, m5'⟩ := gm.small h
  obtain ⟨⟨n0, n1, n2, n3⟩, ⟨n4, n4'⟩, n5, n5'⟩ := gn.small h
  have p1 := um (B := 1) m0 n0
  have p2 := um (B := 1) m1 n2
  have p3 := um (B := 1) m0 n1
  have p4 := um (B := 1) m1 n3
  have p5 := um (B := 1) m2 n0
  have p6 := um (B := 1) m3 n2
  have p7 := um (B := 1) m2 n1
  have p8 := um (B := 1) m3 n3
  have p9 := um (B := 64) (x := n.f1.f0) m0 (by omega)
  have p10 := um (B := 64) (x := n.f1.f1) m1 (by omega)
  have p11 := um (B := 64) (x := n.f1.f0) m2 (by omega)
  have p12 := um (B := 64) (x := n.f1.f1) m3 (by omega)
  unfold impl_Motion_times.f impl_Mat_times.f impl_Mat_apply.f impl_Vec_add.f comp
  simp only [Option.bind_some]
  generalize m.f0.f0 * n.f0.f0 = q1 at *
  generalize m.f0.f1 * n.f0.f2 = q2 at *
  generalize m.f0.f0 * n.f0.f1 = q3 at *
  generalize m.f0.f1 * n.f0.f3 = q4 at *
  generalize m.f0.f2 * n.f0.f0 = q5 at *
  generalize m.f0.f3 * n.f0.f2 = q6 at *
  generalize m.f0.f2 * n.f0.f1 = q7 at *
  generalize m.f0.f3 * n.f0.f3 = q8 at *
  generalize m.f0.f0 * n.f1.f0 = q9 at *
  generalize m.f0.f1 * n.f1.f1 = q10 at *
  generalize m.f0.f2 * n.f1.f0 = q11 at *
  generalize m.f0.f3 * n.f1.f1 = q12 at *
  refine ⟨?_, ⟨⟨by omega, by omega⟩, ⟨by omega, by omega⟩, ⟨by omega, by omega⟩, by omega, by omega⟩, ⟨by omega, by omega⟩, by omega, by omega⟩
  rw [w64s (x := q1) (by omega) (by omega), w64s (x := q2) (by omega) (by omega), w64s (x := q3) (by omega) (by omega), w64s (x := q4) (by omega) (by omega), w64s (x := q5) (by omega) (by omega), w64s (x := q6) (by omega) (by omega), w64s (x := q7) (by omega) (by omega), w64s (x := q8) (by omega) (by omega), w64s (x := q9) (by omega) (by omega), w64s (x := q10) (by omega) (by omega), w64s (x := q11) (by omega) (by omega), w64s (x := q12) (by omega) (by omega),
    w64s (x := q1 + q2) (by omega) (by omega), w64s (x := q3 + q4) (by omega) (by omega), w64s (x := q5 + q6) (by omega) (by omega), w64s (x := q7 + q8) (by omega) (by omega), w64s (x := q9 + q10) (by omega) (by omega), w64s (x := q11 + q12) (by omega) (by omega), w64s (x := q9 + q10 + m.f1.f0) (by omega) (by omega), w64s (x := q11 + q12 + m.f1.f1) (by omega) (by omega)]
/-- The reduced product. -/
def prodM (a b c : Int) (m n : S44) : S44 := ⟨(comp m n).f0, ⟨(red a b c (comp m n).f1.f0 (comp m n).f1.f1).1, (red a b c (comp m n).f1.f0 (comp m n).f1.f1).2⟩⟩
theorem prod_wf {fr a b c : Int} (h : FL fr a b c) {m n : S44} (gm : Good fr a b c m) (gn : Good fr a b c n) : mapMo.wf (prodM a b c m n) = true := by
  obtain ⟨-, ⟨h1, h2, h3, h4⟩, -⟩ := comp_eq h gm gn
  have hr := red_range (x := (comp m n).f1.f0) (y := (comp m n).f1.f1) h.2
  obtain ⟨l1, l2, l3, l4, l5, l6, _⟩ := h.2
  unfold prodM
  exact wf_of (by dsimp only; omega) (by dsimp only; omega) (by dsimp only; omega) (by dsimp only; omega) (by dsimp only; omega) (by dsimp only; omega)
/-- What both sides do with a pair. -/
theorem pair_both {fr a b c : Int} (h : FL fr a b c) (xs : List S44) (hl : (xs.length : Int) ≤ 1048576) (hg : ∀ i (hi : i < xs.length), Good fr a b c xs[i]) (hs : Incr xs) (i : Nat) (hi : i < xs.length)
    (hr : ∃ r, Ev (fun k => spec_IsGroup.l1 k xs ((i + 1 : Nat) : Int) a b c) r ∧ Ev (fun k => impl_isGroup.l1 k xs xs xs (xs.length : Int) ((i + 1 : Nat) : Int) a b c) r) (d : Nat) : ∀ j : Nat, j ≤ xs.length → xs.length - j = d →
    ∃ r, Ev (fun k => spec_IsGroup.l2 k xs i j a b c) r ∧ Ev (fun k => impl_isGroup.l2 k xs xs xs (xs.length : Int) i xs (xs.length : Int) j a b c xs[i].f0.f0 xs[i].f0.f1 xs[i].f0.f2 xs[i].f0.f3 xs[i].f1.f0 xs[i].f1.f1) r := by
  have hwi : wrap64 ((i : Int) + 1) = ((i + 1 : Nat) : Int) := by rw [w64s (by omega) (by omega)]; omega
  induction d with
  | zero =>
    intro j hj hd
    obtain ⟨r, h1, h2⟩ := hr
    refine ⟨r, Ev.step (fun k => ?_) h1, Ev.step (fun k => ?_) h2⟩
    · simp only [spec_IsGroup.l2]; rw [if_neg (by omega), hwi]
    · simp only [impl_isGroup.l2]; rw [if_neg (by omega), hwi]
  | succ d ih =>
    intro j hj hd
    have h1 : j < xs.length := by omega
    have hw : wrap64 ((j : Int) + 1) = ((j + 1 : Nat) : Int) := by rw [w64s (by omega) (by omega)]; omega
    have gi := hg i hi
    have gj := hg j h1
    obtain ⟨ce, ⟨c1, c2, c3, c4⟩, c5, c6⟩ := comp_eq h gi gj
    have hm : Mod4 a b c (comp xs[i] xs[j]).f1.f0 (comp xs[i] xs[j]).f1.f1 := h.2.mod4 (by omega) (by omega) (by omega) (by omega)
    have hsr := spec_reduce_eq hm
    have hir := impl_reduce_eq hm
    have hh := fun k hk => spec_has6_eq xs hl hs (prodM a b c xs[i] xs[j]) k hk
    have hwf := prod_wf h gi gj
    have hsp : ∀ k, 2000000 ≤ k → spec_IsGroup.l2 (k + 1) xs i j a b c = if (xs.any fun x => mapMo.eqB x (prodM a b c xs[i] xs[j])) = true then spec_IsGroup.l2 k xs i ((j + 1 : Nat) : Int) a b c else some false := fun k hk => by
      have hk' := hh k hk
      simp only [spec_IsGroup.l2]
      rw [if_pos (by omega), if_pos (by omega), if_pos (by omega), if_pos (by omega), rd_mo _ _ hi, rd_mo _ _ h1, comp_same, ce]
      unfold spec_l06Reduce.f
      simp only [Option.bind_some]
      rw [hsr]
      simp only [Option.bind_some]
      have e : spec_l06Has.f k xs (comp xs[i] xs[j]).f0.f0 (comp xs[i] xs[j]).f0.f1 (comp xs[i] xs[j]).f0.f2 (comp xs[i] xs[j]).f0.f3 (red a b c (comp xs[i] xs[j]).f1.f0 (comp xs[i] xs[j]).f1.f1).1 (red a b c (comp xs[i] xs[j]).f1.f0 (comp xs[i] xs[j]).f1.f1).2 = _ := hk'
      rw [e, Option.bind_some, hw]
    have him : ∀ k, impl_isGroup.l2 (k + 1) xs xs xs (xs.length : Int) i xs (xs.length : Int) j a b c xs[i].f0.f0 xs[i].f0.f1 xs[i].f0.f2 xs[i].f0.f3 xs[i].f1.f0 xs[i].f1.f1 = if (xs.any fun x => mapMo.eqB x (prodM a b c xs[i] xs[j])) = true then impl_isGroup.l2 k xs xs xs (xs.length : Int) i xs (xs.length : Int) ((j + 1 : Nat) : Int) a b c xs[i].f0.f0 xs[i].f0.f1 xs[i].f0.f2 xs[i].f0.f3 xs[i].f1.f0 xs[i].f1.f1 else some false := fun k => by
      simp only [impl_isGroup.l2]
      rw [if_pos (by omega), if_pos (by omega), if_pos (by omega), rd_mo _ _ h1, ce]
      unfold impl_Lattice_reduceMotion.f
      simp only [Option.bind_some]
      rw [hir]
      simp only [Option.bind_some]
      have e : mapMo.has k xs (comp xs[i] xs[j]).f0.f0 (comp xs[i] xs[j]).f0.f1 (comp xs[i] xs[j]).f0.f2 (comp xs[i] xs[j]).f0.f3 (red a b c (comp xs[i] xs[j]).f1.f0 (comp xs[i] xs[j]).f1.f1).1 (red a b c (comp xs[i] xs[j]).f1.f0 (comp xs[i] xs[j]).f1.f1).2 = some (xs.any fun x => mapMo.eqB x (prodM a b c xs[i] xs[j])) := by
        unfold mapMo.has; exact if_pos hwf
      rw [e, Option.bind_some, hw]
    by_cases hb : (xs.any fun x => mapMo.eqB x (prodM a b c xs[i] xs[j])) = true
    · obtain ⟨r, ⟨K1, r1⟩, ⟨K2, r2⟩⟩ := ih (j + 1) (by omega) (by omega)
      refine ⟨r, ⟨K1 + 2000001, fun k hk => ?_⟩, ⟨K2 + 1, fun k hk => ?_⟩⟩
      · obtain ⟨k, rfl⟩ : ∃ m, k = m + 1 := ⟨k - 1, by omega⟩
        show spec_IsGroup.l2 (k + 1) xs i j a b c = _
        rw [hsp k (by omega), if_pos hb]; exact r1 k (by omega)
      · obtain ⟨k, rfl⟩ : ∃ m, k = m + 1 := ⟨k - 1, by omega⟩
        show impl_isGroup.l2 (k + 1) xs xs xs (xs.length : Int) i xs (xs.length : Int) j a b c _ _ _ _ _ _ = _
        rw [him k, if_pos hb]; exact r2 k (by omega)
    · refine ⟨false, ⟨2000001, fun k hk => ?_⟩, ⟨1, fun k hk => ?_⟩⟩
      · obtain ⟨k, rfl⟩ : ∃ m, k = m + 1 := ⟨k - 1, by omega⟩
        show spec_IsGroup.l2 (k + 1) xs i j a b c = _
        rw [hsp k (by omega), if_neg hb]
      · obtain ⟨k, rfl⟩ : ∃ m, k = m + 1 := ⟨k - 1, by omega⟩
        show impl_isGroup.l2 (k + 1) xs xs xs (xs.length : Int) i xs (xs.length : Int) j a b c _ _ _ _ _ _ = _
        rw [him k, if_neg hb]
theorem rows_both {fr a b c : Int} (h : FL fr a b c) (xs : List S44) (hl : (xs.length : Int) ≤ 1048576) (hg : ∀ i (hi : i < xs.length), Good fr a b c xs[i]) (hs : Incr xs) (d : Nat) : ∀ i : Nat, i ≤ xs.length → xs.length - i = d →
    ∃ r, Ev (fun k => spec_IsGroup.l1 k xs i a b c) r ∧ Ev (fun k => impl_isGroup.l1 k xs xs xs (xs.length : Int) i a b c) r := by
  induction d with
  | zero =>
    intro i hi hd
    refine ⟨true, Ev.one (fun k => ?_), Ev.one (fun k => ?_)⟩
    · simp only [spec_IsGroup.l1]; rw [if_neg (by omega)]
    · simp only [impl_isGroup.l1]; rw [if_neg (by omega)]
  | succ d ih =>
    intro i hi hd
    have h1 : i < xs.length := by omega
    obtain ⟨r, r1, r2⟩ := pair_both h xs hl hg hs i h1 (ih (i + 1) (by omega) (by omega)) xs.length 0 (by omega) rfl
    refine ⟨r, Ev.step (fun k => ?_) r1, Ev.step (fun k => ?_) r2⟩
    · simp only [spec_IsGroup.l1]; rw [if_pos (by omega)]; rfl
    · simp only [impl_isGroup.l1]; rw [if_pos (by omega), if_pos (by omega), if_pos (by omega), rd_mo _ _ h1]; rfl
/-- The first loop: both sides let the same lists in. -/
theorem list_both {fr a b c : Int} (h : FL fr a b c) (xs : List S44) (hl : (xs.length : Int) ≤ 1048576) (d : Nat) : ∀ i : Nat, i ≤ xs.length → xs.length - i = d → (∀ j (hj : j < xs.length), j < i → Good fr a b c xs[j]) → (∀ j (hj : j + 1 < xs.length), j + 1 < i → ltM (xs[j]'(by omega)) xs[j + 1]) →
    ∃ r, Ev (fun k => spec_IsGroup.l0 k fr xs i a b c) r ∧ Ev (fun k => impl_isGroup.l0 k xs ((lmL fr a b c).map mkM) (xs.take i) xs (xs.length : Int) i a b c) r ∧ (r = true → (∀ j (hj : j < xs.length), Good fr a b c xs[j]) ∧ Incr xs) := by
  induction d with
  | zero =>
    intro i hi hd hg hs
    obtain rfl : i = xs.length := by omega
    have hg' : ∀ j (hj : j < xs.length), Good fr a b c xs[j] := fun j hj => hg j hj hj
    have hI : Incr xs := incr_of_adj fun j hj => hs j hj (by omega)
    obtain ⟨r, ⟨K1, r1⟩, ⟨K2, r2⟩⟩ := rows_both h xs hl hg' hI xs.length 0 (by omega) rfl
    have hh := fun k hk => spec_has6_eq xs hl hI ⟨⟨1, 0, 0, 1⟩, ⟨0, 0⟩⟩ k hk
    have hwf : mapMo.wf ⟨⟨1, 0, 0, 1⟩, ⟨0, 0⟩⟩ = true := wf_of (by decide) (by decide) (by decide) (by decide) (by decide) (by decide)
    have hsp : ∀ k, 2000000 ≤ k → spec_IsGroup.l0 (k + 1) fr xs (xs.length : Int) a b c = if (xs.any fun x => mapMo.eqB x ⟨⟨1, 0, 0, 1⟩, ⟨0, 0⟩⟩) = true then spec_IsGroup.l1 k xs ((0 : Nat) : Int) a b c else some false := fun k hk => by
      have hk' := hh k hk
      dsimp only at hk'
      simp only [spec_IsGroup.l0, spec_l06Unit.f, spec_l02Unit.f, Option.bind_some]
      rw [if_neg (by omega), hk', Option.bind_some]; rfl
    have him : ∀ k, impl_isGroup.l0 (k + 1) xs ((lmL fr a b c).map mkM) (xs.take xs.length) xs (xs.length : Int) (xs.length : Int) a b c = if (xs.any fun x => mapMo.eqB x ⟨⟨1, 0, 0, 1⟩, ⟨0, 0⟩⟩) = true then impl_isGroup.l1 k xs xs xs (xs.length : Int) ((0 : Nat) : Int) a b c else some false := fun k => by
      have e : mapMo.has k xs 1 0 0 1 0 0 = some (xs.any fun x => mapMo.eqB x ⟨⟨1, 0, 0, 1⟩, ⟨0, 0⟩⟩) := by unfold mapMo.has; exact if_pos hwf
      simp only [impl_isGroup.l0, impl_unit.f, Option.bind_some]
      rw [if_neg (by omega), List.take_length, e, Option.bind_some]; rfl
    by_cases hb : (xs.any fun x => mapMo.eqB x ⟨⟨1, 0, 0, 1⟩, ⟨0, 0⟩⟩) = true
    · refine ⟨r, ⟨K1 + 2000001, fun k hk => ?_⟩, ⟨K2 + 1, fun k hk => ?_⟩, fun _ => ⟨hg', hI⟩⟩
      · obtain ⟨k, rfl⟩ : ∃ m, k = m + 1 := ⟨k - 1, by omega⟩
        show spec_IsGroup.l0 (k + 1) fr xs (xs.length : Int) a b c = _
        rw [hsp k (by omega), if_pos hb]; exact r1 k (by omega)
      · obtain ⟨k, rfl⟩ : ∃ m, k = m + 1 := ⟨k - 1, by omega⟩
        show impl_isGroup.l0 (k + 1) xs _ (xs.take xs.length) xs (xs.length : Int) (xs.length : Int) a b c = _
        rw [him k, if_pos hb]; exact r2 k (by omega)
    · refine ⟨false, ⟨2000001, fun k hk => ?_⟩, ⟨1, fun k hk => ?_⟩, fun e => by cases e⟩
      · obtain ⟨k, rfl⟩ : ∃ m, k = m + 1 := ⟨k - 1, by omega⟩
        show spec_IsGroup.l0 (k + 1) fr xs (xs.length : Int) a b c = _
        rw [hsp k (by omega), if_neg hb]
      · obtain ⟨k, rfl⟩ : ∃ m, k = m + 1 := ⟨k - 1, by omega⟩
        show impl_isGroup.l0 (k + 1) xs _ (xs.take xs.length) xs (xs.length : Int) (xs.length : Int) a b c = _
        rw [him k, if_neg hb]
  | succ d ih =>
    intro i hi hd hg hs
    have h1 : i < xs.length := by omega
    have hw : wrap64 ((i : Int) + 1) = ((i + 1 : Nat) : Int) := by rw [w64s (by omega) (by omega)]; omega
    have hsu := fun k hk => spec_IsSuitable_eq fr a b c xs[i].f0.f0 xs[i].f0.f1 xs[i].f0.f2 xs[i].f0.f3 xs[i].f1.f0 xs[i].f1.f1 k hk
    have hn := lm_len fr a b c
    have hco := fun k hk => containsM ((lmL fr a b c).map mkM) xs[i].f0.f0 xs[i].f0.f1 xs[i].f0.f2 xs[i].f0.f3 (by rw [List.length_map]; omega) k hk
    obtain ⟨p, q, hre, hpq⟩ := reduce_any h.2 xs[i].f1.f0 xs[i].f1.f1
    -- the two sides' first tests
    have hsp : ∀ k, 10000000 ≤ k → spec_IsGroup.l0 (k + 1) fr xs i a b c = if Good fr a b c xs[i] then (if (i : Int) > 0 then (if 0 ≤ wrap64 ((i : Int) - 1) then (if wrap64 ((i : Int) - 1) < (xs.length : Int) then ((spec_l05Less.f k ((rd_T44 xs (wrap64 ((i : Int) - 1))).f0.f0) ((rd_T44 xs (wrap64 ((i : Int) - 1))).f0.f1) ((rd_T44 xs (wrap64 ((i : Int) - 1))).f0.f2) ((rd_T44 xs (wrap64 ((i : Int) - 1))).f0.f3) ((rd_T44 xs (wrap64 ((i : Int) - 1))).f1.f0) ((rd_T44 xs (wrap64 ((i : Int) - 1))).f1.f1) xs[i].f0.f0 xs[i].f0.f1 xs[i].f0.f2 xs[i].f0.f3 xs[i].f1.f0 xs[i].f1.f1).bind fun t => if t = true then spec_IsGroup.l0 k fr xs ((i + 1 : Nat) : Int) a b c else some false) else none) else none) else spec_IsGroup.l0 k fr xs ((i + 1 : Nat) : Int) a b c) else some false := fun k hk => by
      simp only [spec_IsGroup.l0]
      rw [if_pos (by omega), if_pos (by omega), rd_mo _ _ h1, hsu k hk, Option.bind_some, hw]
      by_cases hsuit : Suit fr a b c xs[i].f0.f0 xs[i].f0.f1 xs[i].f0.f2 xs[i].f0.f3 xs[i].f1.f0 xs[i].f1.f1
      · rw [if_pos (by simp [h, hsuit])]
        obtain ⟨⟨x1, x2⟩, y1, y2⟩ := hsuit.2
        have hm : Mod4 a b c xs[i].f1.f0 xs[i].f1.f1 := h.2.mod4 (by omega) (by omega) (by omega) (by omega)
        unfold spec_l06Reduce.f
        rw [spec_reduce_eq hm]
        simp only [Option.bind_some]
        by_cases hr : red a b c xs[i].f1.f0 xs[i].f1.f1 = (xs[i].f1.f0, xs[i].f1.f1)
        · rw [if_neg (by rw [hr]; simp), if_pos (show Good fr a b c xs[i] from ⟨hsuit.1, hr⟩)]
        · rw [if_pos (by
            rw [Prod.ext_iff] at hr
            dsimp only at hr
            simp only [beq_self_eq_true, Bool.not_true, Bool.false_or, Bool.or_eq_true, Bool.not_eq_true', beq_eq_false_iff_ne]
            omega), if_neg (fun g => hr g.2)]
      · rw [if_neg (by simp [hsuit]), if_neg (fun g => hsuit ⟨g.1, by have := g.small h; exact ⟨⟨by omega, by omega⟩, by omega, by omega⟩⟩)]
    have him : ∀ k, 100 ≤ k → impl_isGroup.l0 (k + 1) xs ((lmL fr a b c).map mkM) (xs.take i) xs (xs.length : Int) i a b c = if Good fr a b c xs[i] then (if (i : Int) > 0 then (if 0 ≤ wrap64 ((i : Int) - 1) then (if wrap64 ((i : Int) - 1) < (xs.length : Int) then ((impl_compareMotions.f k ((rd_T44 xs (wrap64 ((i : Int) - 1))).f0.f0) ((rd_T44 xs (wrap64 ((i : Int) - 1))).f0.f1) ((rd_T44 xs (wrap64 ((i : Int) - 1))).f0.f2) ((rd_T44 xs (wrap64 ((i : Int) - 1))).f0.f3) ((rd_T44 xs (wrap64 ((i : Int) - 1))).f1.f0) ((rd_T44 xs (wrap64 ((i : Int) - 1))).f1.f1) xs[i].f0.f0 xs[i].f0.f1 xs[i].f0.f2 xs[i].f0.f3 xs[i].f1.f0 xs[i].f1.f1).bind fun t => if t ≥ 0 then some false else impl_isGroup.l0 k xs ((lmL fr a b c).map mkM) (xs.take (i + 1)) xs (xs.length : Int) ((i + 1 : Nat) : Int) a b c) else none) else none) else impl_isGroup.l0 k xs ((lmL fr a b c).map mkM) (xs.take (i + 1)) xs (xs.length : Int) ((i + 1 : Nat) : Int) a b c) else some false := fun k hk => by
      simp only [impl_isGroup.l0]
      rw [if_pos (by omega), if_pos (by omega), if_pos (by omega), rd_mo _ _ h1, hco k (by rw [List.length_map]; omega), Option.bind_some, tup_mk, hw]
      by_cases hmem : (xs[i].f0.f0, xs[i].f0.f1, xs[i].f0.f2, xs[i].f0.f3) ∈ lmL fr a b c
      · rw [if_pos (by simp [hmem]), hre, Option.bind_some]
        have hmem' := mem_lm.1 hmem
        dsimp only
        by_cases hr : red a b c xs[i].f1.f0 xs[i].f1.f1 = (xs[i].f1.f0, xs[i].f1.f1)
        · obtain ⟨e1, e2⟩ := hpq.2 hr
          have hG : Good fr a b c xs[i] := ⟨hmem', hr⟩
          have hc : (xs.take i).length < 2932031007402 ∧ mapMo.wf (⟨⟨xs[i].f0.f0, xs[i].f0.f1, xs[i].f0.f2, xs[i].f0.f3⟩, ⟨xs[i].f1.f0, xs[i].f1.f1⟩⟩ : S44) = true := ⟨by rw [List.length_take]; omega, hG.wf h⟩
          have ht : xs.take i ++ [(⟨⟨xs[i].f0.f0, xs[i].f0.f1, xs[i].f0.f2, xs[i].f0.f3⟩, ⟨xs[i].f1.f0, xs[i].f1.f1⟩⟩ : S44)] = xs.take (i + 1) := (List.take_succ_eq_append_getElem h1).symm
          rw [if_neg (by simp [e1, e2]), if_pos hG]
          simp only [if_pos hc, ht]
        · rw [if_pos (by
            have : ¬ (p = xs[i].f1.f0 ∧ q = xs[i].f1.f1) := fun e => hr (hpq.1 e)
            simp only [Bool.or_eq_true, Bool.not_eq_true', beq_eq_false_iff_ne]
            omega), if_neg (fun g => hr g.2)]
      · rw [if_neg (by simp [hmem]), if_neg (fun g => hmem (mem_lm.2 g.1))]
    by_cases hG : Good fr a b c xs[i]
    · have hg' : ∀ j (hj : j < xs.length), j < i + 1 → Good fr a b c xs[j] := fun j hj hji => by
        by_cases e : j = i
        · subst e; exact hG
        · exact hg j hj (by omega)
      by_cases h0 : i = 0
      · obtain ⟨r, ⟨K1, r1⟩, ⟨K2, r2⟩, r3⟩ := ih (i + 1) (by omega) (by omega) hg' (fun j hj hji => by omega)
        refine ⟨r, ⟨K1 + 10000001, fun k hk => ?_⟩, ⟨K2 + 101, fun k hk => ?_⟩, r3⟩
        · obtain ⟨k, rfl⟩ : ∃ m, k = m + 1 := ⟨k - 1, by omega⟩
          show spec_IsGroup.l0 (k + 1) fr xs i a b c = _
          rw [hsp k (by omega), if_pos hG, if_neg (by omega)]; exact r1 k (by omega)
        · obtain ⟨k, rfl⟩ : ∃ m, k = m + 1 := ⟨k - 1, by omega⟩
          show impl_isGroup.l0 (k + 1) xs _ (xs.take i) xs (xs.length : Int) i a b c = _
          rw [him k (by omega), if_pos hG, if_neg (by omega)]; exact r2 k (by omega)
      · obtain ⟨i, rfl⟩ : ∃ m, i = m + 1 := ⟨i - 1, by omega⟩
        have hp : wrap64 (((i + 1 : Nat) : Int) - 1) = (i : Int) := by rw [w64s (by omega) (by omega)]; omega
        have hi' : i < xs.length := by omega
        rw [hp, rd_mo _ _ hi'] at hsp him
        have sl := fun k hk => spec_less_eq xs[i] xs[i + 1] k hk
        have ic := fun k hk => impl_cmp_eq xs[i] xs[i + 1] k hk
        by_cases hlt : ltM xs[i] xs[i + 1]
        · obtain ⟨r, ⟨K1, r1⟩, ⟨K2, r2⟩, r3⟩ := ih (i + 1 + 1) (by omega) (by omega) hg' (fun j hj hji => by
            by_cases e : j = i
            · subst e; exact hlt
            · exact hs j hj (by omega))
          refine ⟨r, ⟨K1 + 10000001, fun k hk => ?_⟩, ⟨K2 + 101, fun k hk => ?_⟩, r3⟩
          · obtain ⟨k, rfl⟩ : ∃ m, k = m + 1 := ⟨k - 1, by omega⟩
            show spec_IsGroup.l0 (k + 1) fr xs ((i + 1 : Nat) : Int) a b c = _
            rw [hsp k (by omega), if_pos hG, if_pos (by omega), if_pos (by omega), if_pos (by omega), sl k (by omega), Option.bind_some, if_pos (by simp [hlt])]; exact r1 k (by omega)
          · obtain ⟨k, rfl⟩ : ∃ m, k = m + 1 := ⟨k - 1, by omega⟩
            obtain ⟨t, t1, t2⟩ := ic k (by omega)
            show impl_isGroup.l0 (k + 1) xs _ (xs.take (i + 1)) xs (xs.length : Int) ((i + 1 : Nat) : Int) a b c = _
            rw [him k (by omega), if_pos hG, if_pos (by omega), if_pos (by omega), if_pos (by omega), t1, Option.bind_some, if_neg (by have := t2.2 hlt; omega)]; exact r2 k (by omega)
        · refine ⟨false, ⟨10000001, fun k hk => ?_⟩, ⟨101, fun k hk => ?_⟩, fun e => by cases e⟩
          · obtain ⟨k, rfl⟩ : ∃ m, k = m + 1 := ⟨k - 1, by omega⟩
            show spec_IsGroup.l0 (k + 1) fr xs ((i + 1 : Nat) : Int) a b c = _
            rw [hsp k (by omega), if_pos hG, if_pos (by omega), if_pos (by omega), if_pos (by omega), sl k (by omega), Option.bind_some, if_neg (by simp [hlt])]
          · obtain ⟨k, rfl⟩ : ∃ m, k = m + 1 := ⟨k - 1, by omega⟩
            obtain ⟨t, t1, t2⟩ := ic k (by omega)
            show impl_isGroup.l0 (k + 1) xs _ (xs.take (i + 1)) xs (xs.length : Int) ((i + 1 : Nat) : Int) a b c = _
            rw [him k (by omega), if_pos hG, if_pos (by omega), if_pos (by omega), if_pos (by omega), t1, Option.bind_some, if_pos (by have : ¬ t < 0 := fun e => hlt (t2.1 e); omega)]
    · refine ⟨false, ⟨10000001, fun k hk => ?_⟩, ⟨101, fun k hk => ?_⟩, fun e => by cases e⟩
      · obtain ⟨k, rfl⟩ : ∃ m, k = m + 1 := ⟨k - 1, by omega⟩
        show spec_IsGroup.l0 (k + 1) fr xs i a b c = _
        rw [hsp k (by omega), if_neg hG]
      · obtain ⟨k, rfl⟩ : ∃ m, k = m + 1 := ⟨k - 1, by omega⟩
        show impl_isGroup.l0 (k + 1) xs _ (xs.take i) xs (xs.length : Int) i a b c = _
        rw [him k (by omega), if_neg hG]

end Go.Proofs.Ytfmjboloeabjmaa.LA
