/- Plain lemmas on valid vectors and matrices, on the point matrices of a frame, and on those that map a lattice to itself. -/
import Derived.Test.YtfmjboloeabjmaaAid
import Derived.Test.YtfmjboloeabjmaaPAx0
import Derived.Test.YtfmjboloeabjmaaLAABasic
import Derived.Test.YtfmjboloeabjmaaLAGLattice
import Derived.Test.YtfmjboloeabjmaaLAOHermite
import Derived.Test.YtfmjboloeabjmaaPAx0
import Derived.Test.YtfmjboloeabjmaaPAx12
import Derived.Test.YtfmjboloeabjmaaPAx13
import Derived.Test.YtfmjboloeabjmaaPAx5
import Derived.Test.YtfmjboloeabjmaaPAx6
namespace Go.Proofs.Ytfmjboloeabjmaa.LA
open Go.RowKit Go.Proofs.Ytfmjboloeabjmaa.PA Go.Proofs.YtfmjboloeabjmaaW.PrintWords Go.Proofs.YtfmjboloeabjmaaW.PrintLast Go.Proofs.Ytfmjboloeabjmaa.Aid
set_option linter.unusedVariables false
set_option linter.unusedSimpArgs false

/-- A valid vector. -/
def IsV (x y : Int) : Prop := (-1000 ≤ x ∧ x ≤ 1000) ∧ (-1000 ≤ y ∧ y ≤ 1000)
instance (x y : Int) : Decidable (IsV x y) := by unfold IsV; infer_instance
theorem ifb (p : Prop) [Decidable p] (o : Option Bool) : (if (decide p) = true then o else some false) = if p then o else some false := by
  by_cases h : p <;> simp [h]
theorem mulb {a d : Int} (h1 : -1000 ≤ a) (h2 : a ≤ 1000) (h3 : -1000 ≤ d) (h4 : d ≤ 1000) : -1000000 ≤ a * d ∧ a * d ≤ 1000000 := by
  have : (a * d).natAbs ≤ 1000 * 1000 := by rw [Int.natAbs_mul]; exact Nat.mul_le_mul (by omega) (by omega)
  omega
/-- A valid matrix. -/
def IsM (a b c d : Int) : Prop := (IsV a b ∧ IsV c d) ∧ (a * d - b * c = 1 ∨ a * d - b * c = -1)
instance (a b c d : Int) : Decidable (IsM a b c d) := by unfold IsM; infer_instance
theorem det_w {a b c d : Int} (h : IsV a b ∧ IsV c d) : wrap64 (wrap64 (a * d) - wrap64 (b * c)) = a * d - b * c := by
  obtain ⟨⟨⟨h1, h2⟩, h3, h4⟩, ⟨h5, h6⟩, h7, h8⟩ := h
  have x := mulb h1 h2 h7 h8
  have y := mulb h3 h4 h5 h6
  rw [w64s (x := a * d) (by omega) (by omega), w64s (x := b * c) (by omega) (by omega), w64s (by omega) (by omega)]
/-- The norm of a vector. -/
def nrm (fr x y : Int) : Int := if fr = 1 then x * x + y * y + x * y else x * x + y * y
/-- Does a matrix not change norms? -/
def Keeps (fr a b c d : Int) : Prop := nrm fr a c = 1 ∧ nrm fr b d = 1 ∧ nrm fr (a + b) (c + d) = 2 + fr
instance (fr a b c d : Int) : Decidable (Keeps fr a b c d) := by unfold Keeps; infer_instance
theorem sq_nonneg (x : Int) : 0 ≤ x * x := by
  rcases Int.le_total 0 x with h | h
  · exact Int.mul_nonneg h h
  · exact Int.mul_nonneg_of_nonpos_of_nonpos h h
theorem sq_small {x : Int} (h : x * x ≤ 3) : -1 ≤ x ∧ x ≤ 1 := by
  have : x.natAbs * x.natAbs ≤ 3 := by
    have e : ((x.natAbs * x.natAbs : Nat) : Int) = x * x := by rw [Int.natCast_mul]; exact Int.natAbs_mul_self' x
    omega
  have h2 : x.natAbs < 2 := by
    apply Nat.not_le.1; intro h2
    have := Nat.mul_le_mul h2 h2
    omega
  omega
theorem nrm_small {fr x y : Int} (h : nrm fr x y = 1) : (-1 ≤ x ∧ x ≤ 1) ∧ (-1 ≤ y ∧ y ≤ 1) := by
  unfold nrm at h
  have hx := sq_nonneg x
  have hy := sq_nonneg y
  by_cases e : fr = 1
  · rw [if_pos e] at h
    have a1 := sq_nonneg (2 * x + y)
    have a2 := sq_nonneg (x + 2 * y)
    have e1 : (2 * x + y) * (2 * x + y) = 4 * (x * x) + 4 * (x * y) + y * y := by
      rw [Int.add_mul, Int.mul_add, Int.mul_add, Int.mul_comm y (2 * x)]
      have : 2 * x * (2 * x) = 2 * (2 * (x * x)) := by ac_rfl
      have : 2 * x * y = 2 * (x * y) := Int.mul_assoc _ _ _
      omega
    have e2 : (x + 2 * y) * (x + 2 * y) = x * x + 4 * (x * y) + 4 * (y * y) := by
      rw [Int.add_mul, Int.mul_add, Int.mul_add, Int.mul_comm (2 * y) x]
      have : 2 * y * (2 * y) = 2 * (2 * (y * y)) := by ac_rfl
      have : x * (2 * y) = 2 * (x * y) := Int.mul_left_comm _ _ _
      omega
    exact ⟨sq_small (by omega), sq_small (by omega)⟩
  · rw [if_neg e] at h
    exact ⟨sq_small (by omega), sq_small (by omega)⟩
theorem nrm_w {fr x y : Int} (hx0 : -2000 ≤ x) (hx1 : x ≤ 2000) (hy0 : -2000 ≤ y) (hy1 : y ≤ 2000) :
    wrap64 (wrap64 (wrap64 (x * x) + wrap64 (y * y)) + wrap64 (x * y)) = x * x + y * y + x * y ∧ wrap64 (wrap64 (x * x) + wrap64 (y * y)) = x * x + y * y := by
  have k : ∀ p q : Int, -2000 ≤ p → p ≤ 2000 → -2000 ≤ q → q ≤ 2000 → -4000000 ≤ p * q ∧ p * q ≤ 4000000 := fun p q h1 h2 h3 h4 => by
    have : (p * q).natAbs ≤ 2000 * 2000 := by rw [Int.natAbs_mul]; exact Nat.mul_le_mul (by omega) (by omega)
    omega
  have k1 := k x x hx0 hx1 hx0 hx1
  have k2 := k y y hy0 hy1 hy0 hy1
  have k3 := k x y hx0 hx1 hy0 hy1
  rw [w64s (x := x * x) (by omega) (by omega), w64s (x := y * y) (by omega) (by omega), w64s (x := x * y) (by omega) (by omega), w64s (x := x * x + y * y) (by omega) (by omega), w64s (by omega) (by omega)]
  exact ⟨rfl, rfl⟩
/-- The point matrices of a frame. -/
def pmL (fr : Int) : List (Int × Int × Int × Int) :=
  if fr = 0 then [(-1, 0, 0, -1), (-1, 0, 0, 1), (0, -1, -1, 0), (0, -1, 1, 0), (0, 1, -1, 0), (0, 1, 1, 0), (1, 0, 0, -1), (1, 0, 0, 1)]
  else [(-1, -1, 0, 1), (-1, -1, 1, 0), (-1, 0, 0, -1), (-1, 0, 1, 1), (0, -1, -1, 0), (0, -1, 1, 1), (0, 1, -1, -1), (0, 1, 1, 0), (1, 0, -1, -1), (1, 0, 0, 1), (1, 1, -1, 0), (1, 1, 0, -1)]
def unitR : List Int := [-1, 0, 1]
theorem mem_unitR {x : Int} (h : -1 ≤ x ∧ x ≤ 1) : x ∈ unitR := by
  have : x = -1 ∨ x = 0 ∨ x = 1 := by omega
  rcases this with rfl | rfl | rfl <;> decide
theorem pm_fin0 : ∀ a ∈ unitR, ∀ b ∈ unitR, ∀ c ∈ unitR, ∀ d ∈ unitR, Keeps 0 a b c d → (a, b, c, d) ∈ pmL 0 := by decide +kernel
theorem pm_fin1 : ∀ a ∈ unitR, ∀ b ∈ unitR, ∀ c ∈ unitR, ∀ d ∈ unitR, Keeps 1 a b c d → (a, b, c, d) ∈ pmL 1 := by decide +kernel
theorem pm_back0 : ∀ m ∈ pmL 0, IsM m.1 m.2.1 m.2.2.1 m.2.2.2 ∧ Keeps 0 m.1 m.2.1 m.2.2.1 m.2.2.2 := by decide +kernel
theorem pm_back1 : ∀ m ∈ pmL 1, IsM m.1 m.2.1 m.2.2.1 m.2.2.2 ∧ Keeps 1 m.1 m.2.1 m.2.2.1 m.2.2.2 := by decide +kernel
theorem pm_small0 : ∀ m ∈ pmL 0, (-1 ≤ m.1 ∧ m.1 ≤ 1) ∧ (-1 ≤ m.2.1 ∧ m.2.1 ≤ 1) ∧ (-1 ≤ m.2.2.1 ∧ m.2.2.1 ≤ 1) ∧ (-1 ≤ m.2.2.2 ∧ m.2.2.2 ≤ 1) := by decide +kernel
theorem pm_small1 : ∀ m ∈ pmL 1, (-1 ≤ m.1 ∧ m.1 ≤ 1) ∧ (-1 ≤ m.2.1 ∧ m.2.1 ≤ 1) ∧ (-1 ≤ m.2.2.1 ∧ m.2.2.1 ≤ 1) ∧ (-1 ≤ m.2.2.2 ∧ m.2.2.2 ≤ 1) := by decide +kernel
theorem fr01 {fr : Int} (hf : 0 ≤ fr ∧ fr ≤ 1) : fr = 0 ∨ fr = 1 := by omega
theorem mem_pm {fr a b c d : Int} (hf : 0 ≤ fr ∧ fr ≤ 1) : (a, b, c, d) ∈ pmL fr ↔ IsM a b c d ∧ Keeps fr a b c d := by
  constructor
  · intro h
    rcases fr01 hf with rfl | rfl
    · exact pm_back0 _ h
    · exact pm_back1 _ h
  · rintro ⟨h1, h2⟩
    have h3 := nrm_small h2.1
    have h4 := nrm_small h2.2.1
    rcases fr01 hf with rfl | rfl
    · exact pm_fin0 a (mem_unitR h3.1) b (mem_unitR h4.1) c (mem_unitR h3.2) d (mem_unitR h4.2) h2
    · exact pm_fin1 a (mem_unitR h3.1) b (mem_unitR h4.1) c (mem_unitR h3.2) d (mem_unitR h4.2) h2
theorem pm_small {fr : Int} (hf : 0 ≤ fr ∧ fr ≤ 1) {m : Int × Int × Int × Int} (h : m ∈ pmL fr) : (-1 ≤ m.1 ∧ m.1 ≤ 1) ∧ (-1 ≤ m.2.1 ∧ m.2.1 ≤ 1) ∧ (-1 ≤ m.2.2.1 ∧ m.2.2.1 ≤ 1) ∧ (-1 ≤ m.2.2.2 ∧ m.2.2.2 ≤ 1) := by
  rcases fr01 hf with rfl | rfl
  · exact pm_small0 m h
  · exact pm_small1 m h
theorem pm_len (fr : Int) : (pmL fr).length ≤ 12 := by unfold pmL; split <;> decide
def tupM (s : S40) : Int × Int × Int × Int := (s.f0, s.f1, s.f2, s.f3)
def mkM (m : Int × Int × Int × Int) : S40 := ⟨m.1, m.2.1, m.2.2.1, m.2.2.2⟩
theorem tup_mk (l : List (Int × Int × Int × Int)) : (l.map mkM).map tupM = l := by
  rw [List.map_map]
  conv => rhs; rw [← List.map_id l]
  exact List.map_congr_left fun m _ => rfl
theorem pointMats_at {fr : Int} (hf : 0 ≤ fr ∧ fr ≤ 1) (k : Nat) : impl_pointMats.f (k + 100) fr = some ((pmL fr).map mkM) := by
  rcases fr01 hf with rfl | rfl
  · kernel_rfl
  · kernel_rfl
/-- Does a matrix map a lattice into itself? -/
def KeepL (a b c : Int) (m : Int × Int × Int × Int) : Prop := red a b c (m.1 * a) (m.2.2.1 * a) = (0, 0) ∧ red a b c (m.1 * b + m.2.1 * c) (m.2.2.1 * b + m.2.2.2 * c) = (0, 0)
instance (a b c : Int) (m : Int × Int × Int × Int) : Decidable (KeepL a b c m) := by unfold KeepL; infer_instance
theorem unit_mul {u x : Int} (h : -1 ≤ u ∧ u ≤ 1) (hx0 : 0 ≤ x) (hx1 : x ≤ 64) : -64 ≤ u * x ∧ u * x ≤ 64 := by
  have : u = -1 ∨ u = 0 ∨ u = 1 := by omega
  rcases this with rfl | rfl | rfl <;> omega
theorem keepL_eq {fr a b c : Int} (hf : 0 ≤ fr ∧ fr ≤ 1) (hl : Lat a b c) {m : Int × Int × Int × Int} (h : m ∈ pmL fr) : impl_latticeMats.keep a b c (mkM m) = decide (KeepL a b c m) := by
  obtain ⟨s1, s2, s3, s4⟩ := pm_small hf h
  have hl' := hl
  obtain ⟨l1, l2, l3, l4, l5, l6, _⟩ := hl'
  have p1 := unit_mul s1 (show 0 ≤ a by omega) l2
  have p2 := unit_mul s3 (show 0 ≤ a by omega) l2
  have p3 := unit_mul s1 (show 0 ≤ b by omega) (show b ≤ 64 by omega)
  have p4 := unit_mul s2 (show 0 ≤ c by omega) l4
  have p5 := unit_mul s3 (show 0 ≤ b by omega) (show b ≤ 64 by omega)
  have p6 := unit_mul s4 (show 0 ≤ c by omega) l4
  unfold impl_latticeMats.keep impl_latticeMats.hasB impl_latticeMats.app impl_Mat_apply.f KeepL mkM
  dsimp only [Option.getD_some]
  rw [Int.mul_zero, Int.mul_zero, w0, w64s (x := m.1 * a) (by omega) (by omega), w64s (x := m.2.2.1 * a) (by omega) (by omega), w64s (x := m.1 * b) (by omega) (by omega), w64s (x := m.2.1 * c) (by omega) (by omega), w64s (x := m.2.2.1 * b) (by omega) (by omega), w64s (x := m.2.2.2 * c) (by omega) (by omega), Int.add_zero, Int.add_zero, w64s (x := m.1 * a) (by omega) (by omega), w64s (x := m.2.2.1 * a) (by omega) (by omega), w64s (x := m.1 * b + m.2.1 * c) (by omega) (by omega), w64s (x := m.2.2.1 * b + m.2.2.2 * c) (by omega) (by omega)]
  rw [impl_has_eq (hl.mod4 (by omega) (by omega) (by omega) (by omega)), impl_has_eq (hl.mod4 (by omega) (by omega) (by omega) (by omega))]
  simp only [Option.getD_some]
  rw [Bool.eq_iff_iff, Bool.and_eq_true, decide_eq_true_iff, decide_eq_true_iff]
  exact (decide_eq_true_iff (p := KeepL a b c m)).symm
/-- The point matrices that map a lattice to itself. -/
def lmL (fr a b c : Int) : List (Int × Int × Int × Int) := (pmL fr).filter fun m => decide (KeepL a b c m)
theorem latticeMats_eq {fr a b c : Int} (h : FL fr a b c) (k : Nat) (hk : 100 ≤ k) : impl_latticeMats.f k fr a b c = some ((lmL fr a b c).map mkM) := by
  obtain ⟨hf, hl⟩ := h
  obtain ⟨j, rfl⟩ : ∃ j, k = j + 100 := ⟨k - 100, by omega⟩
  unfold impl_latticeMats.f
  rw [if_neg (by have := hl.1; omega), if_neg (by have := hl.2.2.1; omega), pointMats_at hf, Option.bind_some, List.filter_map]
  unfold lmL
  congr 2
  exact List.filter_congr fun m hm => keepL_eq hf hl hm
theorem mem_lm {fr a b c : Int} {m : Int × Int × Int × Int} : m ∈ lmL fr a b c ↔ m ∈ pmL fr ∧ KeepL a b c m := by
  unfold lmL; rw [List.mem_filter, decide_eq_true_iff]
theorem lm_len (fr a b c : Int) : (lmL fr a b c).length ≤ 12 := Nat.le_trans (List.length_filter_le _ _) (pm_len fr)
theorem spec_image_eq {fr a b c : Int} (hf : 0 ≤ fr ∧ fr ≤ 1) (hl : Lat a b c) {m0 m1 m2 m3 : Int} (h : (m0, m1, m2, m3) ∈ pmL fr) (k : Nat) (hk : 10000000 ≤ k) :
    ∃ A B C, spec_l04Image.f k m0 m1 m2 m3 a b c = some (A, B, C) ∧ ((A = a ∧ B = b ∧ C = c) ↔ KeepL a b c (m0, m1, m2, m3)) := by
  obtain ⟨s1, s2, s3, s4⟩ := pm_small hf h
  have hd := ((mem_pm hf).1 h).1.2
  dsimp only at s1 s2 s3 s4
  have hl' := hl
  obtain ⟨l1, l2, l3, l4, l5, l6, _⟩ := hl'
  have p1 := unit_mul s1 (show 0 ≤ a by omega) l2
  have p2 := unit_mul s3 (show 0 ≤ a by omega) l2
  have p3 := unit_mul s1 (show 0 ≤ b by omega) (show b ≤ 64 by omega)
  have p4 := unit_mul s2 (show 0 ≤ c by omega) l4
  have p5 := unit_mul s3 (show 0 ≤ b by omega) (show b ≤ 64 by omega)
  have p6 := unit_mul s4 (show 0 ≤ c by omega) l4
  have hm := hl.mul
  have hdet : ((((m0 * a) * (m2 * b + m3 * c) - (m2 * a) * (m0 * b + m1 * c)).natAbs : Nat) : Int) = a * c := by
    have e : (m0 * a) * (m2 * b + m3 * c) - (m2 * a) * (m0 * b + m1 * c) = (m0 * m3 - m1 * m2) * (a * c) := by
      rw [Int.mul_add, Int.mul_add, Int.sub_mul]
      have e1 : m0 * a * (m2 * b) = m2 * a * (m0 * b) := by ac_rfl
      have e2 : m0 * a * (m3 * c) = m0 * m3 * (a * c) := by ac_rfl
      have e3 : m2 * a * (m1 * c) = m1 * m2 * (a * c) := by ac_rfl
      omega
    rw [e]
    rcases hd with hd | hd <;> rw [hd] <;> omega
  obtain ⟨A, B, C, r1, r2⟩ := herm_same hl ⟨m0 * a, m2 * a⟩ ⟨m0 * b + m1 * c, m2 * b + m3 * c⟩ (by dsimp only; omega) (by dsimp only; omega) (by dsimp only; omega) (by dsimp only; omega) hdet k hk
  refine ⟨A, B, C, ?_, r2⟩
  unfold spec_l04Image.f spec_l03Basis.f spec_l02Apply.f
  simp only [Option.bind_some, List.length_cons, List.length_nil]
  rw [if_pos (by decide), if_pos (by decide)]
  simp only [rd_T42, List.getD_cons_zero, List.getD_cons_succ, Int.toNat_zero, Int.toNat_one]
  rw [Int.mul_zero, Int.mul_zero, w0, w64s (x := m0 * a) (by omega) (by omega), w64s (x := m2 * a) (by omega) (by omega), w64s (x := m0 * b) (by omega) (by omega), w64s (x := m1 * c) (by omega) (by omega), w64s (x := m2 * b) (by omega) (by omega), w64s (x := m3 * c) (by omega) (by omega), Int.add_zero, Int.add_zero, w64s (x := m0 * a) (by omega) (by omega), w64s (x := m2 * a) (by omega) (by omega), w64s (x := m0 * b + m1 * c) (by omega) (by omega), w64s (x := m2 * b + m3 * c) (by omega) (by omega), r1]
  rfl

end Go.Proofs.Ytfmjboloeabjmaa.LA
