import Derived.Test.YtfmjboloeabjmaaGreatAid
import Derived.Test.YtfmjboloeabjmaaGreatPAx0
import Derived.Test.YtfmjboloeabjmaaGreatLAABasic
import Derived.Test.YtfmjboloeabjmaaGreatLAGLattice
import Derived.Test.YtfmjboloeabjmaaGreatLAOHermite
import Derived.Test.YtfmjboloeabjmaaGreatLAPPoints
import Derived.Test.YtfmjboloeabjmaaGreatPAx10
import Derived.Test.YtfmjboloeabjmaaGreatPAx11
import Derived.Test.YtfmjboloeabjmaaGreatPAx17
import Derived.Test.YtfmjboloeabjmaaGreatPAx18
import Derived.Test.YtfmjboloeabjmaaGreatPAx5
namespace Go.Proofs.YtfmjboloeabjmaaGreat.LA
open Go.RowKit Go.Proofs.YtfmjboloeabjmaaGreat.PA Go.Proofs.YtfmjboloeabjmaaGreatW.PrintWords Go.Proofs.YtfmjboloeabjmaaGreatW.PrintLast Go.Proofs.YtfmjboloeabjmaaGreat.Aid
set_option linter.unusedVariables false
set_option linter.unusedSimpArgs false
def detM (m : Int × Int × Int × Int) : Int := m.1 * m.2.2.2 - m.2.1 * m.2.2.1
theorem pm_refl0 (k : Nat) : ∀ m ∈ pmL 0, impl_Mat_isReflection.f (k + 30) m.1 m.2.1 m.2.2.1 m.2.2.2 = some (decide (detM m = -1)) := by
  intro m hm
  simp only [pmL, if_true, List.mem_cons, List.not_mem_nil, or_false] at hm
  rcases hm with rfl | rfl | rfl | rfl | rfl | rfl | rfl | rfl <;> kernel_rfl
theorem pm_refl1 (k : Nat) : ∀ m ∈ pmL 1, impl_Mat_isReflection.f (k + 30) m.1 m.2.1 m.2.2.1 m.2.2.2 = some (decide (detM m = -1)) := by
  intro m hm
  simp only [pmL, show ¬ (1 : Int) = 0 by decide, if_false, List.mem_cons, List.not_mem_nil, or_false] at hm
  rcases hm with rfl | rfl | rfl | rfl | rfl | rfl | rfl | rfl | rfl | rfl | rfl | rfl <;> kernel_rfl
theorem pm_refl {fr : Int} (hf : 0 ≤ fr ∧ fr ≤ 1) {m : Int × Int × Int × Int} (h : m ∈ pmL fr) (k : Nat) (hk : 30 ≤ k) : impl_Mat_isReflection.f k m.1 m.2.1 m.2.2.1 m.2.2.2 = some (decide (detM m = -1)) := by
  obtain ⟨j, rfl⟩ : ∃ j, k = j + 30 := ⟨k - 30, by omega⟩
  rcases fr01 hf with rfl | rfl
  · exact pm_refl0 j m h
  · exact pm_refl1 j m h
def axP (m : Int × Int × Int × Int) : Int × Int := (spec_l02Axis.f 30 m.1 m.2.1 m.2.2.1 m.2.2.2).getD (0, 0)
def axN (m : Int × Int × Int × Int) : Int × Int := (spec_l02Axis.f 30 (wrap64 (-1 * m.1)) (wrap64 (-1 * m.2.1)) (wrap64 (-1 * m.2.2.1)) (wrap64 (-1 * m.2.2.2))).getD (0, 0)
def AxOk (k : Nat) (m : Int × Int × Int × Int) : Prop :=
  spec_l02Axis.f (k + 30) (wrap64 (1 * m.1)) (wrap64 (1 * m.2.1)) (wrap64 (1 * m.2.2.1)) (wrap64 (1 * m.2.2.2)) = some (axP m) ∧
  impl_Mat_axis.f (k + 30) m.1 m.2.1 m.2.2.1 m.2.2.2 = some (axP m) ∧
  spec_l02Axis.f (k + 30) (wrap64 (-1 * m.1)) (wrap64 (-1 * m.2.1)) (wrap64 (-1 * m.2.2.1)) (wrap64 (-1 * m.2.2.2)) = some (axN m) ∧
  impl_Mat_axis.f (k + 30) (wrap64 (-m.1)) (wrap64 (-m.2.1)) (wrap64 (-m.2.2.1)) (wrap64 (-m.2.2.2)) = some (axN m) ∧
  (-2 ≤ (axP m).1 ∧ (axP m).1 ≤ 2 ∧ -2 ≤ (axP m).2 ∧ (axP m).2 ≤ 2) ∧ (-2 ≤ (axN m).1 ∧ (axN m).1 ≤ 2 ∧ -2 ≤ (axN m).2 ∧ (axN m).2 ≤ 2)
theorem pm_ax0 (k : Nat) : ∀ m ∈ pmL 0, detM m = -1 → AxOk k m := by
  intro m hm hd
  simp only [pmL, if_true, List.mem_cons, List.not_mem_nil, or_false] at hm
  rcases hm with rfl | rfl | rfl | rfl | rfl | rfl | rfl | rfl <;> first | (exact absurd hd (by decide)) | (exact ⟨by kernel_rfl, by kernel_rfl, by kernel_rfl, by kernel_rfl, by decide +kernel, by decide +kernel⟩)
theorem pm_ax1 (k : Nat) : ∀ m ∈ pmL 1, detM m = -1 → AxOk k m := by
  intro m hm hd
  simp only [pmL, show ¬ (1 : Int) = 0 by decide, if_false, List.mem_cons, List.not_mem_nil, or_false] at hm
  rcases hm with rfl | rfl | rfl | rfl | rfl | rfl | rfl | rfl | rfl | rfl | rfl | rfl <;> first | (exact absurd hd (by decide)) | (exact ⟨by kernel_rfl, by kernel_rfl, by kernel_rfl, by kernel_rfl, by decide +kernel, by decide +kernel⟩)
theorem pm_ax {fr : Int} (hf : 0 ≤ fr ∧ fr ≤ 1) {m : Int × Int × Int × Int} (h : m ∈ pmL fr) (hd : detM m = -1) (k : Nat) : AxOk k m := by
  rcases fr01 hf with rfl | rfl
  · exact pm_ax0 k m h hd
  · exact pm_ax1 k m h hd
theorem red_full {a b c x y : Int} (hl : Lat a b c) : red a b c (a * c * x) (a * c * y) = (0, 0) := by
  obtain ⟨l1, l2, l3, l4, l5, l6, _⟩ := hl
  rw [red_inL l3 l1]
  exact ⟨a * y, by ac_rfl, by
    have : a * c * x - a * y * b = a * (c * x - y * b) := by rw [Int.mul_sub, Int.mul_assoc, Int.mul_assoc]
    rw [this]; exact Int.dvd_mul_right _ _⟩
theorem small_mul {n x : Int} (h0 : 0 ≤ n) (h1 : n ≤ 64) (hx0 : -2 ≤ x) (hx1 : x ≤ 2) : -128 ≤ n * x ∧ n * x ≤ 128 := by
  have : (n * x).natAbs ≤ 64 * 2 := by rw [Int.natAbs_mul]; exact Nat.mul_le_mul (by omega) (by omega)
  omega
def Least (a b c x y : Int) (p : Nat) : Prop := (1 ≤ p ∧ (p : Int) ≤ 64) ∧ red a b c (p * x) (p * y) = (0, 0) ∧ ∀ j : Nat, 1 ≤ j → j < p → red a b c (j * x) (j * y) ≠ (0, 0)
theorem least_run {a b c x y : Int} (hl : Lat a b c) (d : Nat) : ∀ n : Nat, 1 ≤ n → ((n + d : Nat) : Int) = a * c → (∀ j : Nat, 1 ≤ j → j < n → red a b c (j * x) (j * y) ≠ (0, 0)) → ∃ p, Least a b c x y p := by
  have hm := hl.mul
  induction d with
  | zero =>
    intro n h1 h2 h3
    have hn : (n : Int) = a * c := by omega
    exact ⟨n, ⟨h1, by omega⟩, by rw [hn]; exact red_full hl, h3⟩
  | succ d ih =>
    intro n h1 h2 h3
    by_cases hr : red a b c ((n : Int) * x) ((n : Int) * y) = (0, 0)
    · exact ⟨n, ⟨h1, by omega⟩, hr, h3⟩
    · refine ih (n + 1) (by omega) (by omega) fun j h4 h5 => ?_
      by_cases e : j = n
      · rw [e]; exact hr
      · exact h3 j h4 (by omega)
theorem least_all {a b c : Int} (hl : Lat a b c) (x y : Int) : ∃ p, Least a b c x y p := by
  have hm := hl.mul
  exact least_run hl ((a * c).toNat - 1) 1 (by omega) (by omega) fun j h1 h2 => by omega
theorem spec_mult {a b c x y : Int} (hl : Lat a b c) (hx : -2 ≤ x ∧ x ≤ 2) (hy : -2 ≤ y ∧ y ≤ 2) {p : Nat} (hp : Least a b c x y p) (d : Nat) : ∀ n : Nat, 1 ≤ n → n + d = p → Ev (fun k => spec_l11Invariant.l0 k n a b c x y) ((p : Int) * x, (p : Int) * y) := by
  obtain ⟨⟨hp1, hp2⟩, hp3, hp4⟩ := hp
  induction d with
  | zero =>
    intro n h1 h2
    obtain rfl : n = p := by omega
    have p1 := small_mul (n := n) (by omega) hp2 hx.1 hx.2
    have p2 := small_mul (n := n) (by omega) hp2 hy.1 hy.2
    have hmod : Mod4 a b c ((n : Int) * x) ((n : Int) * y) := hl.mod4 (by omega) (by omega) (by omega) (by omega)
    refine Ev.one (fun k => ?_)
    simp only [spec_l11Invariant.l0, spec_l01Scale.f, Option.bind_some]
    rw [w64s (by omega) (by omega), w64s (by omega) (by omega), spec_has_eq hmod, Option.bind_some, if_pos (by simp [hp3])]
  | succ d ih =>
    intro n h1 h2
    have p1 := small_mul (n := n) (by omega) (by omega) hx.1 hx.2
    have p2 := small_mul (n := n) (by omega) (by omega) hy.1 hy.2
    have hmod : Mod4 a b c ((n : Int) * x) ((n : Int) * y) := hl.mod4 (by omega) (by omega) (by omega) (by omega)
    have hr := hp4 n h1 (by omega)
    have hw : wrap64 ((n : Int) + 1) = ((n + 1 : Nat) : Int) := by rw [w64s (by omega) (by omega)]; omega
    refine Ev.step (fun k => ?_) (ih (n + 1) (by omega) (by omega))
    simp only [spec_l11Invariant.l0, spec_l01Scale.f, Option.bind_some]
    rw [w64s (x := (n : Int) * x) (by omega) (by omega), w64s (x := (n : Int) * y) (by omega) (by omega), spec_has_eq hmod, Option.bind_some, if_neg (by simp [hr]), hw]
theorem inv_ev {fr a b c : Int} (h : FL fr a b c) {m0 m1 m2 m3 : Int} (hm : (m0, m1, m2, m3) ∈ pmL fr) (hd : detM (m0, m1, m2, m3) = -1) :
    ∃ p n : Nat, Least a b c (axP (m0, m1, m2, m3)).1 (axP (m0, m1, m2, m3)).2 p ∧ Least a b c (axN (m0, m1, m2, m3)).1 (axN (m0, m1, m2, m3)).2 n ∧
      Ev (fun k => spec_l11Invariant.f k a b c m0 m1 m2 m3 1) (p * (axP (m0, m1, m2, m3)).1, p * (axP (m0, m1, m2, m3)).2) ∧
      Ev (fun k => spec_l11Invariant.f k a b c m0 m1 m2 m3 (-1)) (n * (axN (m0, m1, m2, m3)).1, n * (axN (m0, m1, m2, m3)).2) := by
  have hA := pm_ax h.1 hm hd
  obtain ⟨-, -, -, -, ⟨b1, b2, b3, b4⟩, b5, b6, b7, b8⟩ := hA 0
  obtain ⟨p, hp⟩ := least_all h.2 (axP (m0, m1, m2, m3)).1 (axP (m0, m1, m2, m3)).2
  obtain ⟨n, hn⟩ := least_all h.2 (axN (m0, m1, m2, m3)).1 (axN (m0, m1, m2, m3)).2
  refine ⟨p, n, hp, hn, ?_, ?_⟩
  · exact Ev.bind (f := fun k t => spec_l11Invariant.l0 k 1 a b c t.1 t.2) (Ev.far 30 (g := fun k => spec_l02Axis.f k (wrap64 (1 * m0)) (wrap64 (1 * m1)) (wrap64 (1 * m2)) (wrap64 (1 * m3))) fun k => (hA k).1) (spec_mult h.2 ⟨b1, b2⟩ ⟨b3, b4⟩ hp (p - 1) 1 (by omega) (by have := hp.1.1; omega))
  · exact Ev.bind (f := fun k t => spec_l11Invariant.l0 k 1 a b c t.1 t.2) (Ev.far 30 (g := fun k => spec_l02Axis.f k (wrap64 (-1 * m0)) (wrap64 (-1 * m1)) (wrap64 (-1 * m2)) (wrap64 (-1 * m3))) fun k => (hA k).2.2.1) (spec_mult h.2 ⟨b5, b6⟩ ⟨b7, b8⟩ hn (n - 1) 1 (by omega) (by have := hn.1.1; omega))
end Go.Proofs.YtfmjboloeabjmaaGreat.LA
