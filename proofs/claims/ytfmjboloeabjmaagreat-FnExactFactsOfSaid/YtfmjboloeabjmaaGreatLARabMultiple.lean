import Derived.Test.YtfmjboloeabjmaaGreatAid
import Derived.Test.YtfmjboloeabjmaaGreatPAx0
import Derived.Test.YtfmjboloeabjmaaGreatLAABasic
import Derived.Test.YtfmjboloeabjmaaGreatLAGLattice
import Derived.Test.YtfmjboloeabjmaaGreatLAPPoints
import Derived.Test.YtfmjboloeabjmaaGreatLARMirror
import Derived.Test.YtfmjboloeabjmaaGreatPAx0
import Derived.Test.YtfmjboloeabjmaaGreatPAx15
import Derived.Test.YtfmjboloeabjmaaGreatPAx17
import Derived.Test.YtfmjboloeabjmaaGreatPAx18
namespace Go.Proofs.YtfmjboloeabjmaaGreat.LA
open Go.RowKit Go.Proofs.YtfmjboloeabjmaaGreat.PA Go.Proofs.YtfmjboloeabjmaaGreatW.PrintWords Go.Proofs.YtfmjboloeabjmaaGreatW.PrintLast Go.Proofs.YtfmjboloeabjmaaGreat.Aid
set_option linter.unusedVariables false
set_option linter.unusedSimpArgs false
theorem impl_mult {a b c x y : Int} (hl : Lat a b c) (hx : -2 ≤ x ∧ x ≤ 2) (hy : -2 ≤ y ∧ y ≤ 2) {p : Nat} (hp : Least a b c x y p) (d : Nat) : ∀ n : Nat, 1 ≤ n → n + d = p → Ev (fun k => impl_Lattice_multipleIn.l0 k a b c x y ((n : Int) * x) ((n : Int) * y)) ((p : Int) * x, (p : Int) * y) := by
  obtain ⟨⟨hp1, hp2⟩, hp3, hp4⟩ := hp
  induction d with
  | zero =>
    intro n h1 h2
    obtain rfl : n = p := by omega
    have p1 := small_mul (n := n) (by omega) hp2 hx.1 hx.2
    have p2 := small_mul (n := n) (by omega) hp2 hy.1 hy.2
    have hmod : Mod4 a b c ((n : Int) * x) ((n : Int) * y) := hl.mod4 (by omega) (by omega) (by omega) (by omega)
    refine Ev.one (fun k => ?_)
    simp only [impl_Lattice_multipleIn.l0]
    rw [impl_has_eq hmod, Option.bind_some, if_pos (by simp [hp3])]
  | succ d ih =>
    intro n h1 h2
    have p1 := small_mul (n := n) (by omega) (by omega) hx.1 hx.2
    have p2 := small_mul (n := n) (by omega) (by omega) hy.1 hy.2
    have hmod : Mod4 a b c ((n : Int) * x) ((n : Int) * y) := hl.mod4 (by omega) (by omega) (by omega) (by omega)
    have hr := hp4 n h1 (by omega)
    have e1 : (n : Int) * x + x = ((n + 1 : Nat) : Int) * x := by rw [Int.natCast_add, Int.add_mul]; omega
    have e2 : (n : Int) * y + y = ((n + 1 : Nat) : Int) * y := by rw [Int.natCast_add, Int.add_mul]; omega
    refine Ev.step (fun k => ?_) (ih (n + 1) (by omega) (by omega))
    simp only [impl_Lattice_multipleIn.l0, impl_Vec_add.f, Option.bind_some]
    rw [impl_has_eq hmod, Option.bind_some, if_neg (by simp [hr]), w64s (x := (n : Int) * x + x) (by omega) (by omega), w64s (x := (n : Int) * y + y) (by omega) (by omega), e1, e2]
theorem impl_mult1 {a b c x y : Int} (hl : Lat a b c) (hx : -2 ≤ x ∧ x ≤ 2) (hy : -2 ≤ y ∧ y ≤ 2) {p : Nat} (hp : Least a b c x y p) : Ev (fun k => impl_Lattice_multipleIn.f k a b c x y) ((p : Int) * x, (p : Int) * y) := by
  have h := impl_mult hl hx hy hp (p - 1) 1 (by omega) (by have := hp.1.1; omega)
  simp only [show ((1 : Nat) : Int) = 1 from rfl, Int.one_mul] at h
  exact h
theorem inv_impl {fr a b c : Int} (h : FL fr a b c) {m0 m1 m2 m3 : Int} (hm : (m0, m1, m2, m3) ∈ pmL fr) (hd : detM (m0, m1, m2, m3) = -1) {p n : Nat} (hp : Least a b c (axP (m0, m1, m2, m3)).1 (axP (m0, m1, m2, m3)).2 p) (hn : Least a b c (axN (m0, m1, m2, m3)).1 (axN (m0, m1, m2, m3)).2 n) :
      Ev (fun k => (impl_Mat_axis.f k m0 m1 m2 m3).bind fun t => impl_Lattice_multipleIn.f k a b c t.1 t.2) (p * (axP (m0, m1, m2, m3)).1, p * (axP (m0, m1, m2, m3)).2) ∧
      Ev (fun k => (impl_Mat_axis.f k (wrap64 (-m0)) (wrap64 (-m1)) (wrap64 (-m2)) (wrap64 (-m3))).bind fun t => impl_Lattice_multipleIn.f k a b c t.1 t.2) (n * (axN (m0, m1, m2, m3)).1, n * (axN (m0, m1, m2, m3)).2) := by
  have hA := pm_ax h.1 hm hd
  obtain ⟨-, -, -, -, ⟨b1, b2, b3, b4⟩, b5, b6, b7, b8⟩ := hA 0
  constructor
  · exact Ev.bind (f := fun k t => impl_Lattice_multipleIn.f k a b c t.1 t.2) (Ev.far 30 (g := fun k => impl_Mat_axis.f k m0 m1 m2 m3) fun k => (hA k).2.1) (impl_mult1 h.2 ⟨b1, b2⟩ ⟨b3, b4⟩ hp)
  · exact Ev.bind (f := fun k t => impl_Lattice_multipleIn.f k a b c t.1 t.2) (Ev.far 30 (g := fun k => impl_Mat_axis.f k (wrap64 (-m0)) (wrap64 (-m1)) (wrap64 (-m2)) (wrap64 (-m3))) fun k => (hA k).2.2.2.1) (impl_mult1 h.2 ⟨b5, b6⟩ ⟨b7, b8⟩ hn)
end Go.Proofs.YtfmjboloeabjmaaGreat.LA
