/- Plain lemmas on the Hermite form of two vectors: it is the lattice itself if and only if the lattice holds both vectors. -/
import Derived.Test.YtfmjboloeabjmaaAid
import Derived.Test.YtfmjboloeabjmaaPAx0
import Derived.Test.YtfmjboloeabjmaaLAABasic
import Derived.Test.YtfmjboloeabjmaaLAGLattice
import Derived.Test.YtfmjboloeabjmaaPAx0
import Derived.Test.YtfmjboloeabjmaaPAx5
import Derived.Test.YtfmjboloeabjmaaPAx6
namespace Go.Proofs.Ytfmjboloeabjmaa.LA
open Go.RowKit Go.Proofs.Ytfmjboloeabjmaa.PA Go.Proofs.YtfmjboloeabjmaaW.PrintWords Go.Proofs.YtfmjboloeabjmaaW.PrintLast Go.Proofs.Ytfmjboloeabjmaa.Aid
set_option linter.unusedVariables false
set_option linter.unusedSimpArgs false

/-- Is a vector in a lattice? -/
def inL (a b c x y : Int) : Prop := ∃ q, y = q * c ∧ a ∣ x - q * b
theorem inL_sub {a b c x y x' y' : Int} (k : Int) (h : inL a b c x y) (h' : inL a b c x' y') : inL a b c (x - k * x') (y - k * y') := by
  obtain ⟨q, h1, h2⟩ := h
  obtain ⟨q', h3, h4⟩ := h'
  refine ⟨q - k * q', ?_, ?_⟩
  · rw [h1, h3, Int.sub_mul, Int.mul_assoc]
  · have : x - k * x' - (q - k * q') * b = (x - q * b) - k * (x' - q' * b) := by
      rw [Int.sub_mul, Int.mul_sub, Int.mul_assoc]; omega
    rw [this]
    exact Int.dvd_sub h2 (Int.dvd_trans h4 (Int.dvd_mul_left k _))
theorem inL_step {a b c x y x' y' : Int} (k : Int) : (inL a b c x y ∧ inL a b c x' y') ↔ (inL a b c x' y' ∧ inL a b c (x - k * x') (y - k * y')) := by
  constructor
  · rintro ⟨h, h'⟩; exact ⟨h', inL_sub k h h'⟩
  · rintro ⟨h', h⟩
    refine ⟨?_, h'⟩
    have := inL_sub (-k) h h'
    rw [Int.neg_mul, Int.neg_mul] at this
    rwa [show x - k * x' - -(k * x') = x by omega, show y - k * y' - -(k * y') = y by omega] at this
theorem inL_zero {a b c x : Int} (hc : 1 ≤ c) : inL a b c x 0 ↔ a ∣ x := by
  constructor
  · rintro ⟨q, h1, h2⟩
    have hq : q = 0 := by
      rcases Int.mul_eq_zero.1 h1.symm with h | h
      · exact h
      · omega
    rw [hq, Int.zero_mul, Int.sub_zero] at h2; exact h2
  · intro h
    exact ⟨0, by rw [Int.zero_mul], by rw [Int.zero_mul, Int.sub_zero]; exact h⟩
theorem inL_neg {a b c x y : Int} (h : inL a b c x y) : inL a b c (-x) (-y) := by
  obtain ⟨q, h1, h2⟩ := h
  refine ⟨-q, by rw [Int.neg_mul, h1], ?_⟩
  rw [show -x - -q * b = -(x - q * b) by rw [Int.neg_mul]; omega]
  exact (Int.dvd_neg).2 h2
theorem inL_neg_iff {a b c x y : Int} : inL a b c (-x) (-y) ↔ inL a b c x y := by
  constructor
  · intro h
    have := inL_neg h
    rwa [Int.neg_neg, Int.neg_neg] at this
  · exact inL_neg
theorem inL_emod {a b c x y n : Int} (hc : 1 ≤ c) (h : a ∣ n) : inL a b c (x % n) y ↔ inL a b c x y := by
  have h0 : inL a b c n 0 := (inL_zero hc).2 h
  have e : x % n = x - (x / n) * n := by have := Int.mul_ediv_add_emod x n; rw [Int.mul_comm] at this; omega
  constructor
  · intro h1
    have := inL_sub (-(x / n)) h1 h0
    rwa [e, Int.mul_zero, Int.sub_zero, show x - x / n * n - -(x / n) * n = x by rw [Int.neg_mul]; omega] at this
  · intro h1
    have := inL_sub (x / n) h1 h0
    rwa [Int.mul_zero, Int.sub_zero, ← e] at this
theorem red_inL {a b c x y : Int} (hc : 1 ≤ c) (ha : 1 ≤ a) : red a b c x y = (0, 0) ↔ inL a b c x y := by
  unfold red
  rw [Prod.ext_iff]
  show (x - y / c * b) % a = 0 ∧ y % c = 0 ↔ _
  constructor
  · rintro ⟨h1, h2⟩
    exact ⟨y / c, by have := Int.mul_ediv_add_emod y c; rw [Int.mul_comm] at this; omega, Int.dvd_of_emod_eq_zero h1⟩
  · rintro ⟨q, h1, h2⟩
    have : y / c = q := by rw [h1]; exact Int.mul_ediv_cancel _ (by omega)
    rw [this]
    exact ⟨Int.emod_eq_zero_of_dvd h2, by rw [h1]; exact Int.mul_emod_left _ _⟩
theorem red_diff {a b c x y : Int} (ha : 1 ≤ a) (hc : 1 ≤ c) : inL a b c (x - (red a b c x y).1) (y - (red a b c x y).2) := by
  unfold red
  have h1 := Int.mul_ediv_add_emod y c
  have h2 := Int.mul_ediv_add_emod (x - y / c * b) a
  refine ⟨y / c, by rw [Int.mul_comm] at h1; dsimp only; omega, ⟨(x - y / c * b) / a, by dsimp only; omega⟩⟩
theorem mx_abs {a : Int} (h0 : -4611686018427387904 ≤ a) (h1 : a ≤ 4611686018427387904) : mx a (wrap64 (-a)) = (a.natAbs : Int) := by
  rw [w64s (by omega) (by omega)]
  unfold mx
  split <;> omega
theorem gcd_step (a b : Int) : Int.gcd b (Int.tmod a b) = Int.gcd a b := by
  rw [Int.gcd_eq_natAbs_gcd_natAbs, Int.gcd_eq_natAbs_gcd_natAbs, Int.natAbs_tmod, Nat.gcd_comm a.natAbs b.natAbs]
  conv => rhs; rw [Nat.gcd_rec]
  exact Nat.gcd_comm _ _
theorem spec_gcd_eq : ∀ (k : Nat) (a b : Int), b.natAbs < k → a.natAbs ≤ 4611686018427387904 → b.natAbs ≤ 4611686018427387904 → spec_l01Divisor.f k a b = some (Int.gcd a b : Int)
  | 0, _, _, h, _, _ => absurd h (Nat.not_lt_zero _)
  | k + 1, a, b, h, ha, hb => by
    unfold spec_l01Divisor.f
    by_cases e : b = 0
    · rw [if_pos e, e, mx_abs (by omega) (by omega), Int.gcd_zero]
    · rw [if_neg e]
      have h1 : (Int.tmod a b).natAbs < b.natAbs := by rw [Int.natAbs_tmod]; exact Nat.mod_lt _ (by omega)
      rw [spec_gcd_eq k b (Int.tmod a b) (by omega) hb (by omega), gcd_step]
      rfl
theorem herm_size {px py vx vy : Int} {N : Nat} (h : px.natAbs * vy.natAbs + vx.natAbs * py.natAbs ≤ N) (hv : vy ≠ 0) :
    ((Int.tdiv py vy) * vx).natAbs ≤ N ∧ px.natAbs ≤ N ∧ ((Int.tdiv py vy) * vy).natAbs ≤ py.natAbs ∧ py - Int.tdiv py vy * vy = Int.tmod py vy ∧
    vx.natAbs * (py - Int.tdiv py vy * vy).natAbs + (px - Int.tdiv py vy * vx).natAbs * vy.natAbs ≤ px.natAbs * vy.natAbs + vx.natAbs * py.natAbs := by
  have hv' : 1 ≤ vy.natAbs := by omega
  have e1 : (Int.tdiv py vy).natAbs = py.natAbs / vy.natAbs := Int.natAbs_tdiv _ _
  have e2 : py - Int.tdiv py vy * vy = Int.tmod py vy := by have := Int.mul_tdiv_add_tmod py vy; rw [Int.mul_comm] at this; omega
  have e3 : (Int.tmod py vy).natAbs = py.natAbs % vy.natAbs := Int.natAbs_tmod _ _
  have e4 := Nat.div_add_mod py.natAbs vy.natAbs
  have q1 : py.natAbs / vy.natAbs ≤ py.natAbs := Nat.div_le_self _ _
  have q2 : py.natAbs / vy.natAbs * vx.natAbs ≤ py.natAbs * vx.natAbs := Nat.mul_le_mul_right _ q1
  have q3 : px.natAbs * 1 ≤ px.natAbs * vy.natAbs := Nat.mul_le_mul_left _ hv'
  have q4 : (px - Int.tdiv py vy * vx).natAbs ≤ px.natAbs + py.natAbs / vy.natAbs * vx.natAbs := by
    have : (Int.tdiv py vy * vx).natAbs = py.natAbs / vy.natAbs * vx.natAbs := by rw [Int.natAbs_mul, e1]
    omega
  refine ⟨?_, ?_, ?_, e2, ?_⟩
  · rw [Int.natAbs_mul, e1]
    rw [Nat.mul_comm vx.natAbs] at h
    omega
  · omega
  · rw [Int.natAbs_mul, e1, Nat.mul_comm]; omega
  · rw [e2, e3]
    have q5 := Nat.mul_le_mul_right vy.natAbs q4
    have q6 : vx.natAbs * py.natAbs = py.natAbs / vy.natAbs * vx.natAbs * vy.natAbs + vx.natAbs * (py.natAbs % vy.natAbs) := by
      conv => lhs; rw [← e4, Nat.mul_add]
      congr 1
      rw [Nat.mul_comm, Nat.mul_comm vy.natAbs, Nat.mul_assoc, Nat.mul_assoc, Nat.mul_comm vy.natAbs]
    rw [Nat.add_mul] at q5
    omega
theorem herm_det (px py vx vy k : Int) : (vx * (py - k * vy) - vy * (px - k * vx)).natAbs = (px * vy - py * vx).natAbs := by
  have : vx * (py - k * vy) - vy * (px - k * vx) = -(px * vy - py * vx) := by
    rw [Int.mul_sub, Int.mul_sub, Int.mul_comm vx py, Int.mul_comm vy px, show vx * (k * vy) = vy * (k * vx) by rw [Int.mul_left_comm, Int.mul_left_comm vy, Int.mul_comm vx]]
    omega
  rw [this, Int.natAbs_neg]
theorem herm_wraps {q x y' p y : Int} (h1 : q.natAbs ≤ 1000000000) (h2 : (q * x).natAbs ≤ 1000000000) (h3 : (q * y').natAbs ≤ 1000000000) (h4 : p.natAbs ≤ 1000000000) (h5 : y.natAbs ≤ 1000000000) : wrap64 (p - wrap64 (wrap64 q * x)) = p - q * x := by
  rw [w64s (x := q) (by omega) (by omega), w64s (x := q * x) (by omega) (by omega), w64s (by omega) (by omega)]
theorem herm_wraps' {q x y' p y : Int} (h1 : q.natAbs ≤ 1000000000) (h2 : (q * x).natAbs ≤ 1000000000) (h3 : (q * y').natAbs ≤ 1000000000) (h4 : p.natAbs ≤ 1000000000) (h5 : y.natAbs ≤ 1000000000) : wrap64 (y - wrap64 (wrap64 q * y')) = y - q * y' := by
  rw [w64s (x := q) (by omega) (by omega), w64s (x := q * y') (by omega) (by omega), w64s (by omega) (by omega)]
/-- The rounds of the reference's Euclid: how they end. -/
theorem herm_run (a b c : Int) : ∀ (n : Nat) (px py vx vy : Int) (N B Y : Nat), vy.natAbs ≤ n → vy.natAbs ≤ Y → py.natAbs ≤ Y → px.natAbs ≤ B → vx.natAbs ≤ B → px.natAbs * vy.natAbs + vx.natAbs * py.natAbs ≤ N → 2 * N ≤ B → B ≤ 1000000000 → Y ≤ 1000000000 →
    ∃ (j : Nat) (px' py' vx' : Int), j ≤ n ∧ (∀ k x0 x4 x5, spec_l03Hermite.l1 (k + j) x0 x4 x5 px py vx vy = spec_l03Hermite.l1 k x0 x4 x5 px' py' vx' 0) ∧ px'.natAbs ≤ B ∧ py'.natAbs ≤ Y ∧ vx'.natAbs ≤ B ∧ (py' * vx').natAbs = (px * vy - py * vx).natAbs ∧ ((inL a b c px py ∧ inL a b c vx vy) ↔ (inL a b c px' py' ∧ inL a b c vx' 0))
  | n, px, py, vx, vy, N, B, Y, h1, h2, h3, h4, h5, h6, h7, h8, h9 => by
    by_cases e : vy = 0
    · subst e
      refine ⟨0, px, py, vx, by omega, fun k x0 x4 x5 => rfl, h4, h3, h5, ?_, Iff.rfl⟩
      rw [Int.mul_zero, Int.zero_sub, Int.natAbs_neg]
    · obtain ⟨g1, g2, g3, g4, g5⟩ := herm_size h6 e
      match n, h1 with
      | 0, h1 => omega
      | n + 1, h1 =>
        have g6 : (py - Int.tdiv py vy * vy).natAbs < vy.natAbs := by rw [g4, Int.natAbs_tmod]; exact Nat.mod_lt _ (by omega)
        obtain ⟨j, px', py', vx', r1, r2, r3, r4, r5, r6, r7⟩ := herm_run a b c n vx vy (px - Int.tdiv py vy * vx) (py - Int.tdiv py vy * vy) N B Y (by omega) (by omega) h2 h5 (by omega) (by omega) h7 h8 h9
        refine ⟨j + 1, px', py', vx', by omega, fun k x0 x4 x5 => ?_, r3, r4, r5, ?_, ?_⟩
        · rw [← r2 k x0 x4 x5, ← Nat.add_assoc]
          conv => lhs; unfold spec_l03Hermite.l1
          rw [if_neg e]
          have q0 : (Int.tdiv py vy).natAbs ≤ py.natAbs := by rw [Int.natAbs_tdiv]; exact Nat.div_le_self _ _
          rw [herm_wraps (p := px) (y := py) (Nat.le_trans q0 (Nat.le_trans h3 h9)) (Nat.le_trans g1 (by omega)) (Nat.le_trans g3 (Nat.le_trans h3 h9)) (Nat.le_trans h4 h8) (Nat.le_trans h3 h9)]
          rw [herm_wraps' (p := px) (y := py) (Nat.le_trans q0 (Nat.le_trans h3 h9)) (Nat.le_trans g1 (by omega)) (Nat.le_trans g3 (Nat.le_trans h3 h9)) (Nat.le_trans h4 h8) (Nat.le_trans h3 h9)]
        · rw [r6, herm_det]
        · rw [← r7]
          exact inL_step _
theorem w0 : wrap64 0 = 0 := w64s (by omega) (by omega)
theorem w01 : wrap64 (0 + 1) = 1 := w64s (by omega) (by omega)
theorem w12 : wrap64 (1 + 1) = 2 := w64s (by omega) (by omega)
/-- The last steps of the reference's Hermite form. -/
theorem herm_end {a b c : Int} (hc : 1 ≤ c) (k : Nat) (v1 v2 : S42) (A px py : Int) (hA : 1 ≤ A) (hA1 : A ≤ 1000000000) (hp : px.natAbs ≤ 1000000000) (hy : py.natAbs ≤ 1000000000) :
    ∃ B, spec_l03Hermite.l0 (k + 1) [v1, v2] A 2 px py = some (A, B, (py.natAbs : Int)) ∧ 0 ≤ B ∧ B < A ∧ (a ∣ A → (inL a b c B py.natAbs ↔ inL a b c px py)) := by
  unfold spec_l03Hermite.l0
  rw [if_neg (by simp)]
  by_cases h : py < 0
  · rw [if_pos h]
    unfold spec_l01Scale.f
    simp only [Option.bind_some]
    rw [if_pos (by omega), show (-1 : Int) * px = -px by omega, show (-1 : Int) * py = -py by omega, w64s (x := -px) (by omega) (by omega), w64s (x := -py) (by omega) (by omega), spec_mod_eq _ hA hA1]
    refine ⟨-px % A, ?_, Int.emod_nonneg _ (by omega), Int.emod_lt_of_pos _ (by omega), fun hd => ?_⟩
    · simp only [Option.bind_some]; rw [show ((py.natAbs : Nat) : Int) = -py by omega]
    · rw [inL_emod hc hd, show ((py.natAbs : Nat) : Int) = -py by omega, inL_neg_iff]
  · rw [if_neg h, if_pos (by omega), spec_mod_eq _ hA hA1]
    refine ⟨px % A, ?_, Int.emod_nonneg _ (by omega), Int.emod_lt_of_pos _ (by omega), fun hd => ?_⟩
    · simp only [Option.bind_some]; rw [show ((py.natAbs : Nat) : Int) = py by omega]
    · rw [inL_emod hc hd, show ((py.natAbs : Nat) : Int) = py by omega]
/-- The Hermite form of two vectors that span the plane: its index is their determinant, and a lattice holds it if it holds the two. -/
theorem herm_two {a b c : Int} (ha : 1 ≤ a) (hc : 1 ≤ c) (v1 v2 : S42) (D : Nat) (h1 : v1.f0.natAbs ≤ 1000) (h2 : v1.f1.natAbs ≤ 1000) (h3 : v2.f0.natAbs ≤ 1000) (h4 : v2.f1.natAbs ≤ 1000) (hD : (v1.f0 * v2.f1 - v1.f1 * v2.f0).natAbs = D) (hD1 : 1 ≤ D) (k : Nat) (hk : 10000000 ≤ k) :
    ∃ A B C : Int, spec_l03Hermite.f k [v1, v2] = some (A, B, C) ∧ 1 ≤ A ∧ 1 ≤ C ∧ 0 ≤ B ∧ B < A ∧ A * C = D ∧ ((inL a b c A 0 ∧ inL a b c B C) ↔ (inL a b c v1.f0 v1.f1 ∧ inL a b c v2.f0 v2.f1)) := by
  obtain ⟨x1, y1⟩ := v1
  obtain ⟨x2, y2⟩ := v2
  dsimp only at *
  obtain ⟨k, rfl⟩ : ∃ m, k = m + 20 := ⟨k - 20, by omega⟩
  unfold spec_l03Hermite.f
  by_cases e1 : y1 = 0
  · -- the first vector lies along the first axis
    subst e1
    have e2 : y2 ≠ 0 := by
      intro h; subst h; rw [Int.mul_zero, Int.zero_mul] at hD; simp at hD; omega
    have e3 : x1 ≠ 0 := by
      intro h; subst h; rw [Int.zero_mul, Int.zero_mul] at hD; simp at hD; omega
    have hg : (Int.gcd 0 x1 : Int) = x1.natAbs := by rw [Int.gcd_zero_left]
    obtain ⟨B, r1, r2, r3, r4⟩ := herm_end (a := a) (b := b) (c := c) hc (k + 14) ⟨x1, 0⟩ ⟨x2, y2⟩ (x1.natAbs : Int) (x2 % (x1.natAbs : Int)) y2 (by omega) (by omega) (by have := Int.emod_nonneg x2 (show ((x1.natAbs : Nat) : Int) ≠ 0 by omega); have := Int.emod_lt_of_pos x2 (show 0 < ((x1.natAbs : Nat) : Int) by omega); omega) (by omega)
    refine ⟨(x1.natAbs : Int), B, (y2.natAbs : Int), ?_, by omega, by omega, r2, r3, ?_, ?_⟩
    · unfold spec_l03Hermite.l0
      rw [if_pos (by simp), if_pos (by omega)]
      show spec_l03Hermite.l1 _ _ 0 0 0 0 x1 0 = _
      unfold spec_l03Hermite.l1
      rw [if_pos rfl, spec_gcd_eq _ _ _ (by omega) (by omega) (by omega), hg]
      simp only [Option.bind_some]
      rw [if_pos (by omega), spec_mod_eq _ (by omega) (by omega), Int.zero_emod]
      simp only [Option.bind_some]
      unfold spec_l03Hermite.l0
      rw [w01, if_pos (by simp), if_pos (by omega)]
      show spec_l03Hermite.l1 _ _ _ 1 0 0 x2 y2 = _
      unfold spec_l03Hermite.l1
      rw [if_neg e2, Int.zero_tdiv, w0, Int.zero_mul, Int.zero_mul, w0, Int.sub_zero, w0]
      unfold spec_l03Hermite.l1
      rw [if_pos rfl, spec_gcd_eq _ _ _ (by omega) (by omega) (by omega), Int.gcd_zero, Int.natAbs_natCast]
      simp only [Option.bind_some]
      rw [if_pos (by omega), spec_mod_eq _ (by omega) (by omega)]
      simp only [Option.bind_some]
      rw [w12]
      exact r1
    · rw [← hD, Int.zero_mul, Int.sub_zero, Int.natAbs_mul]; simp
    · rw [inL_zero hc, inL_zero hc]
      constructor
      · rintro ⟨d, h⟩
        have := (r4 d).1 h
        rw [inL_emod hc d] at this
        exact ⟨Int.dvd_natAbs.1 d, this⟩
      · rintro ⟨d, h⟩
        have d' : a ∣ (x1.natAbs : Int) := Int.dvd_natAbs.2 d
        exact ⟨d', (r4 d').2 ((inL_emod hc d').2 h)⟩
  · obtain ⟨j, px, py, vx, j1, j2, j3, j4, j5, j6, j7⟩ := herm_run a b c 1000 x1 y1 x2 y2 2000000 4000000 1000 h4 h4 h2 (by omega) (by omega) (by
      have q1 : x1.natAbs * y2.natAbs ≤ 1000 * 1000 := Nat.mul_le_mul h1 h4
      have q2 : x2.natAbs * y1.natAbs ≤ 1000 * 1000 := Nat.mul_le_mul h3 h2
      omega) (by omega) (by omega) (by omega)
    have hD2 : py.natAbs * vx.natAbs = D := by rw [← Int.natAbs_mul, j6, hD]
    have e2 : 1 ≤ py.natAbs := Nat.one_le_iff_ne_zero.2 (fun h => by rw [h, Nat.zero_mul] at hD2; omega)
    have e3 : 1 ≤ vx.natAbs := Nat.one_le_iff_ne_zero.2 (fun h => by rw [h, Nat.mul_zero] at hD2; omega)
    have hg : (Int.gcd 0 vx : Int) = vx.natAbs := by rw [Int.gcd_zero_left]
    obtain ⟨t, ht⟩ : ∃ t, k + 16 = t + 1 + 1 + j := ⟨k + 14 - j, by omega⟩
    obtain ⟨B, r1, r2, r3, r4⟩ := herm_end (a := a) (b := b) (c := c) hc t ⟨x1, y1⟩ ⟨x2, y2⟩ (vx.natAbs : Int) (px % (vx.natAbs : Int)) py (by omega) (by omega) (by have := Int.emod_nonneg px (show ((vx.natAbs : Nat) : Int) ≠ 0 by omega); have := Int.emod_lt_of_pos px (show 0 < ((vx.natAbs : Nat) : Int) by omega); omega) (by omega)
    refine ⟨(vx.natAbs : Int), B, (py.natAbs : Int), ?_, by omega, by omega, r2, r3, ?_, ?_⟩
    · unfold spec_l03Hermite.l0
      rw [if_pos (by simp), if_pos (by omega)]
      show spec_l03Hermite.l1 _ _ 0 0 0 0 x1 y1 = _
      unfold spec_l03Hermite.l1
      rw [if_neg e1, Int.zero_tdiv, w0, Int.zero_mul, Int.zero_mul, w0, Int.sub_zero, w0]
      unfold spec_l03Hermite.l1
      rw [if_pos rfl, spec_gcd_eq _ _ _ (by omega) (by omega) (by omega), show ((Int.gcd 0 0 : Nat) : Int) = 0 from rfl]
      simp only [Option.bind_some]
      rw [if_neg (by omega)]
      unfold spec_l03Hermite.l0
      rw [w01, if_pos (by simp), if_pos (by omega)]
      show spec_l03Hermite.l1 (k + 16) _ 0 1 x1 y1 x2 y2 = _
      rw [ht, j2]
      unfold spec_l03Hermite.l1
      rw [if_pos rfl, spec_gcd_eq _ _ _ (by omega) (by omega) (by omega), hg]
      simp only [Option.bind_some]
      rw [if_pos (by omega), spec_mod_eq _ (by omega) (by omega)]
      simp only [Option.bind_some]
      rw [w12]
      exact r1
    · rw [← hD2, Int.natCast_mul, Int.mul_comm]
    · rw [j7, inL_zero hc, inL_zero hc]
      constructor
      · rintro ⟨d, h⟩
        have := (r4 d).1 h
        rw [inL_emod hc d] at this
        exact ⟨this, Int.dvd_natAbs.1 d⟩
      · rintro ⟨h, d⟩
        have d' : a ∣ (vx.natAbs : Int) := Int.dvd_natAbs.2 d
        exact ⟨d', (r4 d').2 ((inL_emod hc d').2 h)⟩
/-- The Hermite form of two vectors with a lattice's determinant is the lattice if and only if the lattice holds both. -/
theorem herm_same {a b c : Int} (hl : Lat a b c) (v1 v2 : S42) (h1 : v1.f0.natAbs ≤ 1000) (h2 : v1.f1.natAbs ≤ 1000) (h3 : v2.f0.natAbs ≤ 1000) (h4 : v2.f1.natAbs ≤ 1000) (hD : ((v1.f0 * v2.f1 - v1.f1 * v2.f0).natAbs : Int) = a * c) (k : Nat) (hk : 10000000 ≤ k) :
    ∃ A B C : Int, spec_l03Hermite.f k [v1, v2] = some (A, B, C) ∧ ((A = a ∧ B = b ∧ C = c) ↔ (red a b c v1.f0 v1.f1 = (0, 0) ∧ red a b c v2.f0 v2.f1 = (0, 0))) := by
  have hm := hl.mul
  obtain ⟨l1, l2, l3, l4, l5, l6, l7⟩ := hl
  obtain ⟨A, B, C, r1, r2, r3, r4, r5, r6, r7⟩ := herm_two (a := a) (b := b) (c := c) l1 l3 v1 v2 _ h1 h2 h3 h4 rfl (by omega) k hk
  refine ⟨A, B, C, r1, ?_⟩
  rw [red_inL l3 l1, red_inL l3 l1, ← r7]
  constructor
  · rintro ⟨rfl, rfl, rfl⟩
    exact ⟨⟨0, by rw [Int.zero_mul], by rw [Int.zero_mul, Int.sub_zero]; exact Int.dvd_refl _⟩, ⟨1, by rw [Int.one_mul], by rw [Int.one_mul, Int.sub_self]; exact Int.dvd_zero _⟩⟩
  · rintro ⟨d, q, d1, d2⟩
    rw [inL_zero l3] at d
    obtain ⟨s, hs⟩ := d
    have e : a * c * (s * q) = a * c * 1 := by
      rw [Int.mul_one, show a * c * (s * q) = a * s * (q * c) by ac_rfl, ← hs, ← d1, r6, hD]
    have e1 : s * q = 1 := Int.eq_of_mul_eq_mul_left (by omega) e
    have e2 : 0 < s := by
      apply Int.not_le.1; intro hn
      have : a * s ≤ a * 0 := Int.mul_le_mul_of_nonneg_left hn (by omega)
      omega
    have e3 : 0 < q := by
      apply Int.not_le.1; intro hn
      have : q * c ≤ 0 * c := Int.mul_le_mul_of_nonneg_right hn (by omega)
      omega
    have e4 : s = 1 := by
      have : s * 1 ≤ s * q := Int.mul_le_mul_of_nonneg_left (by omega) (by omega)
      omega
    have e5 : q = 1 := by rw [e4] at e1; omega
    rw [e4] at hs
    rw [e5] at d1 d2
    have ha : A = a := by omega
    have hc : C = c := by omega
    refine ⟨ha, ?_, hc⟩
    obtain ⟨z, hz⟩ := d2
    rw [ha] at r5
    have z0 : z = 0 := by
      rcases Int.lt_trichotomy z 0 with h | h | h
      · have : a * z ≤ a * (-1) := Int.mul_le_mul_of_nonneg_left (by omega) (by omega)
        omega
      · exact h
      · have : a * 1 ≤ a * z := Int.mul_le_mul_of_nonneg_left (by omega) (by omega)
        omega
    rw [z0] at hz
    omega

end Go.Proofs.Ytfmjboloeabjmaa.LA
