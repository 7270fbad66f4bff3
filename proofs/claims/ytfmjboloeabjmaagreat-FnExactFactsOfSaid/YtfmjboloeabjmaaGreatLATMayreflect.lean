import Derived.Test.YtfmjboloeabjmaaGreatAid
import Derived.Test.YtfmjboloeabjmaaGreatPAx0
import Derived.Test.YtfmjboloeabjmaaGreatLAABasic
import Derived.Test.YtfmjboloeabjmaaGreatLAGLattice
import Derived.Test.YtfmjboloeabjmaaGreatLAOHermite
import Derived.Test.YtfmjboloeabjmaaGreatLAPPoints
import Derived.Test.YtfmjboloeabjmaaGreatLARMirror
import Derived.Test.YtfmjboloeabjmaaGreatLASCentred
import Derived.Test.YtfmjboloeabjmaaGreatPAx0
import Derived.Test.YtfmjboloeabjmaaGreatPAx11
import Derived.Test.YtfmjboloeabjmaaGreatPAx13
import Derived.Test.YtfmjboloeabjmaaGreatPAx15
import Derived.Test.YtfmjboloeabjmaaGreatPAx17
import Derived.Test.YtfmjboloeabjmaaGreatPAx18
import Derived.Test.YtfmjboloeabjmaaGreatPAx19
import Derived.Test.YtfmjboloeabjmaaGreatPAx5
namespace Go.Proofs.YtfmjboloeabjmaaGreat.LA
open Go.RowKit Go.Proofs.YtfmjboloeabjmaaGreat.PA Go.Proofs.YtfmjboloeabjmaaGreatW.PrintWords Go.Proofs.YtfmjboloeabjmaaGreatW.PrintLast Go.Proofs.YtfmjboloeabjmaaGreat.Aid
set_option linter.unusedVariables false
set_option linter.unusedSimpArgs false
def alC (m : Int × Int × Int × Int) : Int × Int := ((impl_alongAxis.f 40 m.1 m.2.1 m.2.2.1 m.2.2.2 1 0).getD 0, (impl_alongAxis.f 40 m.1 m.2.1 m.2.2.1 m.2.2.2 0 1).getD 0)
def rfL : List ((Int × Int × Int × Int) × (Int × Int) × (Int × Int) × (Int × Int)) :=
  [((-1, 0, 0, 1), (0, 1), (1, 0), (0, 2)), ((0, -1, -1, 0), (1, -1), (1, 1), (1, -1)), ((0, 1, 1, 0), (1, 1), (1, -1), (1, 1)), ((1, 0, 0, -1), (1, 0), (0, 1), (2, 0)),
   ((-1, -1, 0, 1), (1, -2), (1, 0), (0, -1)), ((-1, 0, 1, 1), (0, 1), (2, -1), (1, 2)), ((1, 0, -1, -1), (2, -1), (0, 1), (1, 0)), ((1, 1, 0, -1), (1, 0), (1, -2), (2, 1))]
theorem rf_row0 : ∀ m ∈ pmL 0, detM m = -1 → (m, axP m, axN m, alC m) ∈ rfL := by decide +kernel
theorem rf_row1 : ∀ m ∈ pmL 1, detM m = -1 → (m, axP m, axN m, alC m) ∈ rfL := by decide +kernel
theorem rf_row {fr : Int} (hf : 0 ≤ fr ∧ fr ≤ 1) {m : Int × Int × Int × Int} (h : m ∈ pmL fr) (hd : detM m = -1) : (m, axP m, axN m, alC m) ∈ rfL := by
  rcases fr01 hf with rfl | rfl
  · exact rf_row0 m h hd
  · exact rf_row1 m h hd
theorem rf_facts : ∀ r ∈ rfL, (1 + r.1.1 = r.2.2.2.1 * r.2.1.1 ∧ r.1.2.1 = r.2.2.2.2 * r.2.1.1 ∧ r.1.2.2.1 = r.2.2.2.1 * r.2.1.2 ∧ 1 + r.1.2.2.2 = r.2.2.2.2 * r.2.1.2) ∧ Int.gcd r.2.1.1 r.2.1.2 = 1 ∧
    (-2 ≤ r.2.2.2.1 ∧ r.2.2.2.1 ≤ 2 ∧ -2 ≤ r.2.2.2.2 ∧ r.2.2.2.2 ≤ 2) := by decide +kernel
theorem lin_bound {u v x y : Int} (hu : -2 ≤ u ∧ u ≤ 2) (hv : -2 ≤ v ∧ v ≤ 2) (hx : -1000 ≤ x ∧ x ≤ 1000) (hy : -1000 ≤ y ∧ y ≤ 1000) : -4000 ≤ u * x + v * y ∧ u * x + v * y ≤ 4000 := by
  have e1 : (u * x).natAbs ≤ 2 * 1000 := by rw [Int.natAbs_mul]; exact Nat.mul_le_mul (by omega) (by omega)
  have e2 : (v * y).natAbs ≤ 2 * 1000 := by rw [Int.natAbs_mul]; exact Nat.mul_le_mul (by omega) (by omega)
  omega
theorem small1 {u x : Int} (hu : -1 ≤ u ∧ u ≤ 1) (hx : -1000 ≤ x ∧ x ≤ 1000) : -1000 ≤ u * x ∧ u * x ≤ 1000 := by
  have e1 : (u * x).natAbs ≤ 1 * 1000 := by rw [Int.natAbs_mul]; exact Nat.mul_le_mul (by omega) (by omega)
  omega
theorem sum_axis {fr m0 m1 m2 m3 : Int} (hf : 0 ≤ fr ∧ fr ≤ 1) (h : (m0, m1, m2, m3) ∈ pmL fr) (hd : detM (m0, m1, m2, m3) = -1) (x y : Int) :
    x + (m0 * x + m1 * y) = (axP (m0, m1, m2, m3)).1 * ((alC (m0, m1, m2, m3)).1 * x + (alC (m0, m1, m2, m3)).2 * y) ∧ y + (m2 * x + m3 * y) = (axP (m0, m1, m2, m3)).2 * ((alC (m0, m1, m2, m3)).1 * x + (alC (m0, m1, m2, m3)).2 * y) := by
  obtain ⟨⟨f1, f2, f3, f4⟩, -, -⟩ := rf_facts _ (rf_row hf h hd)
  dsimp only at f1 f2 f3 f4
  generalize (alC (m0, m1, m2, m3)).1 = u at *
  generalize (alC (m0, m1, m2, m3)).2 = v at *
  generalize (axP (m0, m1, m2, m3)).1 = p at *
  generalize (axP (m0, m1, m2, m3)).2 = q at *
  constructor
  · have e1 : (1 + m0) * x = u * p * x := by rw [f1]
    have e2 : m1 * y = v * p * y := by rw [f2]
    rw [Int.add_mul, Int.one_mul] at e1
    rw [Int.mul_add, show p * (u * x) = u * p * x by ac_rfl, show p * (v * y) = v * p * y by ac_rfl]
    omega
  · have e1 : m2 * x = u * q * x := by rw [f3]
    have e2 : (1 + m3) * y = v * q * y := by rw [f4]
    rw [Int.add_mul, Int.one_mul] at e2
    rw [Int.mul_add, show q * (u * x) = u * q * x by ac_rfl, show q * (v * y) = v * q * y by ac_rfl]
    omega
theorem along_eq {fr m0 m1 m2 m3 x y : Int} (hf : 0 ≤ fr ∧ fr ≤ 1) (h : (m0, m1, m2, m3) ∈ pmL fr) (hd : detM (m0, m1, m2, m3) = -1) (hx : -1000 ≤ x ∧ x ≤ 1000) (hy : -1000 ≤ y ∧ y ≤ 1000) (k : Nat) :
    impl_alongAxis.f (k + 30) m0 m1 m2 m3 x y = some ((alC (m0, m1, m2, m3)).1 * x + (alC (m0, m1, m2, m3)).2 * y) := by
  obtain ⟨s1, s2⟩ := sum_axis hf h hd x y
  obtain ⟨t1, t2, t3, t4⟩ := pm_small hf h
  dsimp only at t1 t2 t3 t4
  obtain ⟨-, hg, hu⟩ := rf_facts _ (rf_row hf h hd)
  dsimp only at hg hu
  have a1 := small1 t1 hx
  have a2 := small1 t2 hy
  have a3 := small1 t3 hx
  have a4 := small1 t4 hy
  have hl := lin_bound ⟨hu.1, hu.2.1⟩ ⟨hu.2.2.1, hu.2.2.2⟩ hx hy
  unfold impl_alongAxis.f impl_Mat_apply.f impl_Vec_add.f
  simp only [Option.bind_some]
  have hax : impl_Mat_axis.f (k + 30) m0 m1 m2 m3 = some (axP (m0, m1, m2, m3)) := (pm_ax hf h hd k).2.1
  rw [hax, Option.bind_some]
  rw [w64s (x := m0 * x) (by omega) (by omega), w64s (x := m1 * y) (by omega) (by omega), w64s (x := m2 * x) (by omega) (by omega), w64s (x := m3 * y) (by omega) (by omega), w64s (x := m0 * x + m1 * y) (by omega) (by omega), w64s (x := m2 * x + m3 * y) (by omega) (by omega), w64s (x := x + (m0 * x + m1 * y)) (by omega) (by omega), w64s (x := y + (m2 * x + m3 * y)) (by omega) (by omega), s1, s2]
  by_cases e : (axP (m0, m1, m2, m3)).1 = 0
  · rw [if_pos e]
    have e2 : (axP (m0, m1, m2, m3)).2 ≠ 0 := by intro e2; rw [e, e2] at hg; cases hg
    rw [if_neg e2, Int.mul_tdiv_cancel_left _ e2, w64s (by omega) (by omega)]
  · rw [if_neg e, Int.mul_tdiv_cancel_left _ e, w64s (by omega) (by omega)]
def lmF (a b c x y : Int) : Nat → Nat → Nat
  | 0, n => n
  | f + 1, n => if red a b c (n * x) (n * y) = (0, 0) then n else lmF a b c x y f (n + 1)
theorem lmF_eq (a b c x y : Int) (p : Nat) (hp : red a b c (p * x) (p * y) = (0, 0)) : ∀ (f n : Nat), n ≤ p → p < n + f → (∀ j : Nat, n ≤ j → j < p → red a b c (j * x) (j * y) ≠ (0, 0)) → lmF a b c x y f n = p
  | 0, n, h1, h2, _ => by omega
  | f + 1, n, h1, h2, h3 => by
    unfold lmF
    by_cases e : n = p
    · rw [e, if_pos hp]
    · rw [if_neg (h3 n (by omega) (by omega))]
      exact lmF_eq a b c x y p hp f (n + 1) (by omega) (by omega) fun j h4 h5 => h3 j (by omega) h5
def okC (a b c : Int) (r : (Int × Int × Int × Int) × (Int × Int) × (Int × Int) × (Int × Int)) : Bool :=
  if KeepL a b c r.1 then
    (Int.gcd (r.2.2.2.1 * a) (r.2.2.2.1 * b + r.2.2.2.2 * c)) == (if ((lmF a b c r.2.1.1 r.2.1.2 65 1 * lmF a b c r.2.2.1.1 r.2.2.1.2 65 1 * (r.2.1.1 * r.2.2.1.2 - r.2.1.2 * r.2.2.1.1).natAbs : Nat) : Int) = a * c then 2 * lmF a b c r.2.1.1 r.2.1.2 65 1 else lmF a b c r.2.1.1 r.2.1.2 65 1)
  else true
def chkC : Bool := (List.range 64).all fun i => (List.range (64 / (i + 1))).all fun j => (List.range (i + 1)).all fun b => rfL.all fun r => okC ((i + 1 : Nat) : Int) (b : Int) ((j + 1 : Nat) : Int) r
set_option maxRecDepth 1000000 in
theorem chkC_true : chkC = true := by decide +kernel
theorem okC_at {a b c : Int} (hl : Lat a b c) (r) (hr : r ∈ rfL) : okC a b c r = true := by
  have hm := hl.mul
  obtain ⟨l1, l2, l3, l4, l5, l6, l7⟩ := hl
  have h := chkC_true
  unfold chkC at h
  rw [List.all_eq_true] at h
  have h1 := h (a.toNat - 1) (by rw [List.mem_range]; omega)
  rw [List.all_eq_true] at h1
  have h2 := h1 (c.toNat - 1) (by
    rw [List.mem_range, Nat.lt_div_iff_mul_lt (by omega)]
    have e : (a.toNat * c.toNat : Nat) ≤ 64 := by
      have : ((a.toNat * c.toNat : Nat) : Int) = a * c := by rw [Int.natCast_mul, Int.toNat_of_nonneg (by omega), Int.toNat_of_nonneg (by omega)]
      omega
    have e1 : a.toNat - 1 + 1 = a.toNat := by omega
    rw [e1, Nat.sub_mul, Nat.one_mul, Nat.mul_comm]
    omega)
  rw [List.all_eq_true] at h2
  have h3 := h2 b.toNat (by rw [List.mem_range]; omega)
  rw [List.all_eq_true] at h3
  have h4 := h3 r hr
  rwa [show ((a.toNat - 1 + 1 : Nat) : Int) = a by omega, show ((c.toNat - 1 + 1 : Nat) : Int) = c by omega, show ((b.toNat : Nat) : Int) = b by omega] at h4
theorem centB_eq {a b c : Int} (hl : Lat a b c) {p n : Nat} (hp : (p : Int) ≤ 64) (hn : (n : Int) ≤ 64) {x y u v : Int} (hx : -2 ≤ x ∧ x ≤ 2) (hy : -2 ≤ y ∧ y ≤ 2) (hu : -2 ≤ u ∧ u ≤ 2) (hv : -2 ≤ v ∧ v ≤ 2) :
    centB a c (p * x, p * y) (n * u, n * v) = decide (¬ ((p * n * (x * v - y * u).natAbs : Nat) : Int) = a * c) := by
  have hm := hl.mul
  have b1 := small_mul (n := p) (by omega) hp hx.1 hx.2
  have b2 := small_mul (n := p) (by omega) hp hy.1 hy.2
  have b3 := small_mul (n := n) (by omega) hn hu.1 hu.2
  have b4 := small_mul (n := n) (by omega) hn hv.1 hv.2
  have e1 : p * x * (n * v) - p * y * (n * u) = ((p * n : Nat) : Int) * (x * v - y * u) := by
    rw [Int.mul_sub, Int.natCast_mul]
    have q1 : p * x * (n * v) = p * n * (x * v) := by ac_rfl
    have q2 : p * y * (n * u) = p * n * (y * u) := by ac_rfl
    omega
  have e2 : ((((p * n : Nat) : Int) * (x * v - y * u)).natAbs : Nat) = p * n * (x * v - y * u).natAbs := by rw [Int.natAbs_mul, Int.natAbs_natCast]
  unfold centB
  dsimp only
  generalize p * x = X at *
  generalize p * y = Y at *
  generalize n * u = U at *
  generalize n * v = V at *
  have c1 : -1000000 ≤ X * V ∧ X * V ≤ 1000000 := mulb (by omega) (by omega) (by omega) (by omega)
  have c2 : -1000000 ≤ Y * U ∧ Y * U ≤ 1000000 := mulb (by omega) (by omega) (by omega) (by omega)
  rw [w64s (x := X * V) (by omega) (by omega), w64s (x := Y * U) (by omega) (by omega), w64s (x := X * V - Y * U) (by omega) (by omega), w64s (x := a * c) (by omega) (by omega), mx_abs (by omega) (by omega), e1, e2]
  rw [Bool.eq_iff_iff, bne_iff_ne, decide_eq_true_iff]
theorem step_eq {fr a b c : Int} (h : FL fr a b c) {m : Int × Int × Int × Int} (hm : m ∈ pmL fr) (hk : KeepL a b c m) (hd : detM m = -1) {p n : Nat} (p1 : 1 ≤ p) (p2 : (p : Int) ≤ 64) (n1 : 1 ≤ n) (n2 : (n : Int) ≤ 64)
    (hp : red a b c (p * (axP m).1) (p * (axP m).2) = (0, 0) ∧ ∀ j : Nat, 1 ≤ j → j < p → red a b c (j * (axP m).1) (j * (axP m).2) ≠ (0, 0))
    (hn : red a b c (n * (axN m).1) (n * (axN m).2) = (0, 0) ∧ ∀ j : Nat, 1 ≤ j → j < n → red a b c (j * (axN m).1) (j * (axN m).2) ≠ (0, 0)) :
    Int.gcd ((alC m).1 * a) ((alC m).1 * b + (alC m).2 * c) = if ((p * n * ((axP m).1 * (axN m).2 - (axP m).2 * (axN m).1).natAbs : Nat) : Int) = a * c then 2 * p else p := by
  have ho := okC_at h.2 _ (rf_row h.1 hm hd)
  unfold okC at ho
  dsimp only at ho
  rw [if_pos hk, lmF_eq a b c _ _ p hp.1 65 1 p1 (by omega) hp.2, lmF_eq a b c _ _ n hn.1 65 1 n1 (by omega) hn.2, beq_iff_eq] at ho
  exact ho
theorem impl_gcd_eq : ∀ (k : Nat) (a b : Int), b.natAbs < k → a.natAbs ≤ 4611686018427387904 → b.natAbs ≤ 4611686018427387904 → impl_gcd.f k a b = some (Int.gcd a b : Int)
  | 0, _, _, h, _, _ => absurd h (Nat.not_lt_zero _)
  | k + 1, a, b, h, ha, hb => by
    unfold impl_gcd.f impl_gcd.l0
    by_cases e : b = 0
    · rw [if_pos e, e, mx_abs (by omega) (by omega), Int.gcd_zero]
    · rw [if_neg e]
      have h1 : (Int.tmod a b).natAbs < b.natAbs := by rw [Int.natAbs_tmod]; exact Nat.mod_lt _ (by omega)
      have := impl_gcd_eq k b (Int.tmod a b) (by omega) hb (by omega)
      rw [gcd_step] at this
      exact this
theorem dvd_tmod (f g : Int) : ((Int.tmod f g == 0) : Bool) = decide (g ∣ f) := by
  rw [Bool.eq_iff_iff, beq_iff_eq, decide_eq_true_iff]
  exact ⟨Int.dvd_of_tmod_eq_zero, Int.tmod_eq_zero_of_dvd⟩
theorem dvd_emod_abs (f : Int) (g : Nat) : ((((f.natAbs : Nat) : Int) % (g : Int) == 0) : Bool) = decide ((g : Int) ∣ f) := by
  rw [Bool.eq_iff_iff, beq_iff_eq, decide_eq_true_iff]
  constructor
  · intro h; exact Int.dvd_natAbs.1 (Int.dvd_of_emod_eq_zero h)
  · intro h; exact Int.emod_eq_zero_of_dvd (Int.dvd_natAbs.2 h)
theorem impl_refl_eq {fr a b c : Int} (h : FL fr a b c) {m0 m1 m2 m3 x y : Int} (hm : (m0, m1, m2, m3) ∈ pmL fr) (hx : -1000 ≤ x ∧ x ≤ 1000) (hy : -1000 ≤ y ∧ y ≤ 1000) (hd : detM (m0, m1, m2, m3) = -1)
    (hg : Int.gcd ((alC (m0, m1, m2, m3)).1 * a) ((alC (m0, m1, m2, m3)).1 * b + (alC (m0, m1, m2, m3)).2 * c) ≠ 0) (k : Nat) (hk : 10000 ≤ k) :
    impl_Lattice_mayReflect.f k a b c m0 m1 m2 m3 x y = some (decide (((Int.gcd ((alC (m0, m1, m2, m3)).1 * a) ((alC (m0, m1, m2, m3)).1 * b + (alC (m0, m1, m2, m3)).2 * c) : Nat) : Int) ∣ (alC (m0, m1, m2, m3)).1 * x + (alC (m0, m1, m2, m3)).2 * y)) := by
  obtain ⟨l1, l2, l3, l4, l5, l6, l7⟩ := h.2
  obtain ⟨-, -, u1, u2, u3, u4⟩ := rf_facts _ (rf_row h.1 hm hd)
  dsimp only at u1 u2 u3 u4
  obtain ⟨j, rfl⟩ : ∃ j, k = j + 30 := ⟨k - 30, by omega⟩
  have b1 := lin_bound (y := 0) ⟨u1, u2⟩ ⟨u3, u4⟩ (show -1000 ≤ a ∧ a ≤ 1000 by omega) (by omega)
  have b2 := lin_bound ⟨u1, u2⟩ ⟨u3, u4⟩ (show -1000 ≤ b ∧ b ≤ 1000 by omega) (show -1000 ≤ c ∧ c ≤ 1000 by omega)
  unfold impl_Lattice_mayReflect.f impl_Lattice_basis.f
  have hr : impl_Mat_isReflection.f (j + 30) m0 m1 m2 m3 = some (decide (detM (m0, m1, m2, m3) = -1)) := pm_refl h.1 hm (j + 30) (by omega)
  rw [hr, Option.bind_some, if_pos (by simp [hd])]
  simp only [Option.bind_some]
  rw [along_eq h.1 hm hd hx hy, along_eq h.1 hm hd (show -1000 ≤ a ∧ a ≤ 1000 by omega) (show -1000 ≤ (0 : Int) ∧ (0 : Int) ≤ 1000 by omega), along_eq h.1 hm hd (show -1000 ≤ b ∧ b ≤ 1000 by omega) (show -1000 ≤ c ∧ c ≤ 1000 by omega)]
  simp only [Option.bind_some]
  rw [impl_gcd_eq _ _ _ (by omega) (by omega) (by omega), Option.bind_some, Int.mul_zero, Int.add_zero, if_neg (by omega), dvd_tmod]
theorem spec_refl_j0 {fr : Int} (hf : 0 ≤ fr ∧ fr ≤ 1) {m0 m1 m2 m3 x y : Int} (hm : (m0, m1, m2, m3) ∈ pmL fr) (hx : -1000 ≤ x ∧ x ≤ 1000) (hy : -1000 ≤ y ∧ y ≤ 1000) (hd : detM (m0, m1, m2, m3) = -1) (d : Nat) (hd1 : 1 ≤ d) (hd2 : d ≤ 128)
    {s t : Int} (hs : s = d * (axP (m0, m1, m2, m3)).1) (ht : t = d * (axP (m0, m1, m2, m3)).2) (k : Nat) (hk : 100000 ≤ k) :
    spec_l11Reflects.j0 k m0 m1 m2 m3 x y s t = some (decide ((d : Int) ∣ (alC (m0, m1, m2, m3)).1 * x + (alC (m0, m1, m2, m3)).2 * y)) := by
  obtain ⟨s1, s2⟩ := sum_axis hf hm hd x y
  obtain ⟨t1, t2, t3, t4⟩ := pm_small hf hm
  dsimp only at t1 t2 t3 t4
  obtain ⟨-, hg, u1, u2, u3, u4⟩ := rf_facts _ (rf_row hf hm hd)
  dsimp only at hg u1 u2 u3 u4
  have hl := lin_bound ⟨u1, u2⟩ ⟨u3, u4⟩ hx hy
  have a1 := small1 t1 hx
  have a2 := small1 t2 hy
  have a3 := small1 t3 hx
  have a4 := small1 t4 hy
  obtain ⟨-, -, -, -, ⟨b1, b2, b3, b4⟩, -⟩ := pm_ax hf hm hd 0
  have c1 : (s : Int).natAbs ≤ 128 * 2 := by rw [hs, Int.natAbs_mul, Int.natAbs_natCast]; exact Nat.mul_le_mul hd2 (by omega)
  have c2 : (t : Int).natAbs ≤ 128 * 2 := by rw [ht, Int.natAbs_mul, Int.natAbs_natCast]; exact Nat.mul_le_mul hd2 (by omega)
  obtain ⟨k, rfl⟩ : ∃ j, k = j + 1 := ⟨k - 1, by omega⟩
  unfold spec_l11Reflects.j0 spec_l05Twice.f spec_l02Apply.f spec_l01Add.f
  simp only [Option.bind_some]
  rw [w64s (x := m0 * x) (by omega) (by omega), w64s (x := m1 * y) (by omega) (by omega), w64s (x := m2 * x) (by omega) (by omega), w64s (x := m3 * y) (by omega) (by omega), w64s (x := m0 * x + m1 * y) (by omega) (by omega), w64s (x := m2 * x + m3 * y) (by omega) (by omega), w64s (x := m0 * x + m1 * y + x) (by omega) (by omega), w64s (x := m2 * x + m3 * y + y) (by omega) (by omega)]
  rw [spec_gcd_eq _ s t (by omega) (by omega) (by omega), spec_gcd_eq _ (m0 * x + m1 * y + x) _ (by omega) (by omega) (by omega)]
  simp only [Option.bind_some]
  have e1 : Int.gcd s t = d := by rw [hs, ht, Int.gcd_mul_left, hg, Nat.mul_one, Int.natAbs_natCast]
  have e2 : Int.gcd (m0 * x + m1 * y + x) (m2 * x + m3 * y + y) = ((alC (m0, m1, m2, m3)).1 * x + (alC (m0, m1, m2, m3)).2 * y).natAbs := by
    rw [Int.add_comm _ x, Int.add_comm _ y, s1, s2, Int.gcd_mul_right, hg, Nat.one_mul]
  rw [e1, e2, spec_mod_eq _ (by omega) (by omega), Option.bind_some, dvd_emod_abs]
end Go.Proofs.YtfmjboloeabjmaaGreat.LA
