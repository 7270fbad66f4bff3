/- Plain lemmas on groups: both sides answer alike whether a list of motions is a group. -/
import Derived.Test.YtdodghjnlekgeaaAid
import Derived.Test.YtdodghjnlekgeaaPAx0
import Derived.Test.YtdodghjnlekgeaaLAABasic
import Derived.Test.YtdodghjnlekgeaaLAGLattice
import Derived.Test.YtdodghjnlekgeaaLAPPoints
import Derived.Test.YtdodghjnlekgeaaLAUOrder
import Derived.Test.YtdodghjnlekgeaaPAx0
import Derived.Test.YtdodghjnlekgeaaPAx4
import Derived.Test.YtdodghjnlekgeaaPAx9
namespace Go.Proofs.Ytdodghjnlekgeaa.LA
open Go.RowKit Go.Proofs.Ytdodghjnlekgeaa.PA Go.Proofs.YtdodghjnlekgeaaW.PrintWords Go.Proofs.YtdodghjnlekgeaaW.PrintLast Go.Proofs.Ytdodghjnlekgeaa.Aid
set_option linter.unusedVariables false
set_option linter.unusedSimpArgs false

/-- A motion of a list that both sides let in: its matrix keeps the lattice, its shift is a cell. -/
def Good (fr a b c : Int) (m : S41) : Prop := ((m.f0.f0, m.f0.f1, m.f0.f2, m.f0.f3) ∈ pmL fr ∧ KeepL a b c (m.f0.f0, m.f0.f1, m.f0.f2, m.f0.f3)) ∧ red a b c m.f1.f0 m.f1.f1 = (m.f1.f0, m.f1.f1)
instance (fr a b c : Int) (m : S41) : Decidable (Good fr a b c m) := by unfold Good; infer_instance
theorem Good.small {fr a b c : Int} (h : FL fr a b c) {m : S41} (g : Good fr a b c m) : ((-1 ≤ m.f0.f0 ∧ m.f0.f0 ≤ 1) ∧ (-1 ≤ m.f0.f1 ∧ m.f0.f1 ≤ 1) ∧ (-1 ≤ m.f0.f2 ∧ m.f0.f2 ≤ 1) ∧ (-1 ≤ m.f0.f3 ∧ m.f0.f3 ≤ 1)) ∧ (0 ≤ m.f1.f0 ∧ m.f1.f0 < 64) ∧ (0 ≤ m.f1.f1 ∧ m.f1.f1 < 64) := by
  have h1 := pm_small h.1 g.1.1
  have h2 := red_range (x := m.f1.f0) (y := m.f1.f1) h.2
  rw [g.2] at h2
  obtain ⟨l1, l2, l3, l4, l5, l6, _⟩ := h.2
  dsimp only at h1 h2
  exact ⟨h1, ⟨h2.1.1, by omega⟩, h2.2.1, by omega⟩
theorem lit_wf {x : Int} (h0 : -9223372036854775808 ≤ x) (h1 : x ≤ 9223372036854775807) : (Lit.int .i64 x).wf = true := by
  simp [Lit.wf, IntKind.min, IntKind.max, IntKind.bits, IntKind.signed]; omega
theorem wf_of {m : S41} (h0 : -1000000 ≤ m.f0.f0 ∧ m.f0.f0 ≤ 1000000) (h1 : -1000000 ≤ m.f0.f1 ∧ m.f0.f1 ≤ 1000000) (h2 : -1000000 ≤ m.f0.f2 ∧ m.f0.f2 ≤ 1000000) (h3 : -1000000 ≤ m.f0.f3 ∧ m.f0.f3 ≤ 1000000) (h4 : -1000000 ≤ m.f1.f0 ∧ m.f1.f0 ≤ 1000000) (h5 : -1000000 ≤ m.f1.f1 ∧ m.f1.f1 ≤ 1000000) : mapMo.wf m = true := by
  unfold mapMo.wf mapMo.lits
  rw [List.all_cons, List.all_cons, List.all_cons, List.all_cons, List.all_cons, List.all_cons, lit_wf (by omega) (by omega), lit_wf (by omega) (by omega), lit_wf (by omega) (by omega), lit_wf (by omega) (by omega), lit_wf (by omega) (by omega), lit_wf (by omega) (by omega)]
  rfl
theorem Good.wf {fr a b c : Int} (h : FL fr a b c) {m : S41} (g : Good fr a b c m) : mapMo.wf m = true := by
  obtain ⟨⟨h1, h2, h3, h4⟩, h5, h6⟩ := g.small h
  exact wf_of (by omega) (by omega) (by omega) (by omega) (by omega) (by omega)
theorem incr_of_adj {xs : List S41} (h : ∀ i (hi : i + 1 < xs.length), ltM (xs[i]'(by omega)) xs[i + 1]) : Incr xs := by
  intro i j hi hj hij
  obtain ⟨d, rfl⟩ : ∃ d, j = i + 1 + d := ⟨j - i - 1, by omega⟩
  induction d with
  | zero => exact h i hj
  | succ d ih => exact ltM_trans (ih (by omega) (by omega)) (h (i + 1 + d) hj)
/-- The program's reducing, whatever the vector: does it leave the vector? -/
theorem reduce_any {a b c : Int} (hl : Lat a b c) (x y : Int) : ∃ p q, impl_Lattice_reduce.f a b c x y = some (p, q) ∧ ((p = x ∧ q = y) ↔ red a b c x y = (x, y)) := by
  by_cases hb : (-1000000000 ≤ x ∧ x ≤ 1000000000) ∧ (-1000000000 ≤ y ∧ y ≤ 1000000000)
  · refine ⟨_, _, impl_reduce_eq (hl.mod4 hb.1.1 hb.1.2 hb.2.1 hb.2.2), ?_⟩
    rw [Prod.ext_iff]; exact Iff.rfl
  · obtain ⟨l1, l2, l3, l4, l5, l6, _⟩ := id hl
    have hr := red_range (x := x) (y := y) hl
    unfold impl_Lattice_reduce.f
    rw [impl_mod_eq y l3 (by omega)]
    simp only [Option.bind_some]
    rw [if_neg (by omega), impl_mod_eq _ l1 (by omega)]
    refine ⟨_, _, rfl, ?_⟩
    have z1 := Int.emod_nonneg y (show c ≠ 0 by omega)
    have z2 := Int.emod_lt_of_pos y (show 0 < c by omega)
    constructor
    · rintro ⟨e1, e2⟩
      exfalso
      have z3 := Int.emod_nonneg (wrap64 (x - wrap64 (wrap64 (Int.tdiv (wrap64 (y - y % c)) c) * b))) (show a ≠ 0 by omega)
      have z4 := Int.emod_lt_of_pos (wrap64 (x - wrap64 (wrap64 (Int.tdiv (wrap64 (y - y % c)) c) * b))) (show 0 < a by omega)
      rw [e1] at z3 z4
      rw [e2] at z1 z2
      omega
    · intro e
      exfalso
      rw [e] at hr
      dsimp only at hr
      omega
theorem comp_same (m n : S41) : spec_l05Compose.f m.f0.f0 m.f0.f1 m.f0.f2 m.f0.f3 m.f1.f0 m.f1.f1 n.f0.f0 n.f0.f1 n.f0.f2 n.f0.f3 n.f1.f0 n.f1.f1 = impl_Motion_times.f m.f0.f0 m.f0.f1 m.f0.f2 m.f0.f3 m.f1.f0 m.f1.f1 n.f0.f0 n.f0.f1 n.f0.f2 n.f0.f3 n.f1.f0 n.f1.f1 := rfl
theorem um {u x B : Int} (h : -1 ≤ u ∧ u ≤ 1) (hx : -B ≤ x ∧ x ≤ B) : -B ≤ u * x ∧ u * x ≤ B := by
  have : u = -1 ∨ u = 0 ∨ u = 1 := by omega
  rcases this with rfl | rfl | rfl <;> omega
/-- The product of two motions, before it is reduced. -/
def comp (m n : S41) : S41 := ⟨⟨m.f0.f0 * n.f0.f0 + m.f0.f1 * n.f0.f2, m.f0.f0 * n.f0.f1 + m.f0.f1 * n.f0.f3, m.f0.f2 * n.f0.f0 + m.f0.f3 * n.f0.f2, m.f0.f2 * n.f0.f1 + m.f0.f3 * n.f0.f3⟩, ⟨m.f0.f0 * n.f1.f0 + m.f0.f1 * n.f1.f1 + m.f1.f0, m.f0.f2 * n.f1.f0 + m.f0.f3 * n.f1.f1 + m.f1.f1⟩⟩
theorem comp_eq {fr a b c : Int} (h : FL fr a b c) {m n : S41} (gm : Good fr a b c m) (gn : Good fr a b c n) :
    impl_Motion_times.f m.f0.f0 m.f0.f1 m.f0.f2 m.f0.f3 m.f1.f0 m.f1.f1 n.f0.f0 n.f0.f1 n.f0.f2 n.f0.f3 n.f1.f0 n.f1.f1 = some ((comp m n).f0.f0, (comp m n).f0.f1, (comp m n).f0.f2, (comp m n).f0.f3, (comp m n).f1.f0, (comp m n).f1.f1) ∧
    (((-2 ≤ (comp m n).f0.f0 ∧ (comp m n).f0.f0 ≤ 2) ∧ (-2 ≤ (comp m n).f0.f1 ∧ (comp m n).f0.f1 ≤ 2) ∧ (-2 ≤ (comp m n).f0.f2 ∧ (comp m n).f0.f2 ≤ 2) ∧ (-2 ≤ (comp m n).f0.f3 ∧ (comp m n).f0.f3 ≤ 2)) ∧ (-200 ≤ (comp m n).f1.f0 ∧ (comp m n).f1.f0 ≤ 200) ∧ (-200 ≤ (comp m n).f1.f1 ∧ (comp m n).f1.f1 ≤ 200)) := by
  obtain ⟨⟨m0, m1, m2, m3⟩, ⟨m4, m4'⟩, m5, m5'⟩ := gm.small h
  obtain ⟨⟨n0, n1, n2, n3⟩, ⟨n4, n4'⟩, n5, n5'⟩ := gn.small h
  have p1 := um (B := 1) m0 n0
  have p2 := um (B := 1) m1 n2
  have p3 := um (B := 1) m0 n1
  have p4 := um (B := 1) m1 n3
  have p5 := um (B := 1) m2 n0
  have p6 := um (B := 1) m3 n2
  have p7 := um (B := 1) m2 n1
  have p8 := um (B := 1) m3 n3
  have p9 := um (B := 64) (x := n.f1.f0) m0 (by omega)
  have p10 := um (B := 64) (x := n.f1.f1) m1 (by omega)
  have p11 := um (B := 64) (x := n.f1.f0) m2 (by omega)
  have p12 := um (B := 64) (x := n.f1.f1) m3 (by omega)
  unfold impl_Motion_times.f impl_Mat_times.f impl_Mat_apply.f impl_Vec_add.f comp
  simp only [Option.bind_some]
  generalize m.f0.f0 * n.f0.f0 = q1 at *
  generalize m.f0.f1 * n.f0.f2 = q2 at *
  generalize m.f0.f0 * n.f0.f1 = q3 at *
  generalize m.f0.f1 * n.f0.f3 = q4 at *
  generalize m.f0.f2 * n.f0.f0 = q5 at *
  generalize m.f0.f3 * n.f0.f2 = q6 at *
  generalize m.f0.f2 * n.f0.f1 = q7 at *
  generalize m.f0.f3 * n.f0.f3 = q8 at *
  generalize m.f0.f0 * n.f1.f0 = q9 at *
  generalize m.f0.f1 * n.f1.f1 = q10 at *
  generalize m.f0.f2 * n.f1.f0 = q11 at *
  generalize m.f0.f3 * n.f1.f1 = q12 at *
  refine ⟨?_, ⟨⟨by omega, by omega⟩, ⟨by omega, by omega⟩, ⟨by omega, by omega⟩, by omega, by omega⟩, ⟨by omega, by omega⟩, by omega, by omega⟩
  rw [w64s (x := q1) (by omega) (by omega), w64s (x := q2) (by omega) (by omega), w64s (x := q3) (by omega) (by omega), w64s (x := q4) (by omega) (by omega), w64s (x := q5) (by omega) (by omega), w64s (x := q6) (by omega) (by omega), w64s (x := q7) (by omega) (by omega), w64s (x := q8) (by omega) (by omega), w64s (x := q9) (by omega) (by omega), w64s (x := q10) (by omega) (by omega), w64s (x := q11) (by omega) (by omega), w64s (x := q12) (by omega) (by omega),
    w64s (x := q1 + q2) (by omega) (by omega), w64s (x := q3 + q4) (by omega) (by omega), w64s (x := q5 + q6) (by omega) (by omega), w64s (x := q7 + q8) (by omega) (by omega), w64s (x := q9 + q10) (by omega) (by omega), w64s (x := q11 + q12) (by omega) (by omega), w64s (x := q9 + q10 + m.f1.f0) (by omega) (by omega), w64s (x := q11 + q12 + m.f1.f1) (by omega) (by omega)]
/-- The reduced product. -/
def prodM (a b c : Int) (m n : S41) : S41 := ⟨(comp m n).f0, ⟨(red a b c (comp m n).f1.f0 (comp m n).f1.f1).1, (red a b c (comp m n).f1.f0 (comp m n).f1.f1).2⟩⟩
theorem prod_wf {fr a b c : Int} (h : FL fr a b c) {m n : S41} (gm : Good fr a b c m) (gn : Good fr a b c n) : mapMo.wf (prodM a b c m n) = true := by
  obtain ⟨-, ⟨h1, h2, h3, h4⟩, -⟩ := comp_eq h gm gn
  have hr := red_range (x := (comp m n).f1.f0) (y := (comp m n).f1.f1) h.2
  obtain ⟨l1, l2, l3, l4, l5, l6, _⟩ := h.2
  unfold prodM
  exact wf_of (by dsimp only; omega) (by dsimp only; omega) (by dsimp only; omega) (by dsimp only; omega) (by dsimp only; omega) (by dsimp only; omega)
end Go.Proofs.Ytdodghjnlekgeaa.LA
