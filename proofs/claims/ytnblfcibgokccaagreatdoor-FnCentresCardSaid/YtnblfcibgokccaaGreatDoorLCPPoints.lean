/- Plain lemmas on valid vectors and matrices, on the point matrices of a frame, and on those that map a lattice to itself. -/
import Derived.Test.YtnblfcibgokccaaGreatDoorAid
import Derived.Test.YtnblfcibgokccaaGreatDoorPCx0
import Derived.Test.YtnblfcibgokccaaGreatDoorLCGLattice
import Derived.Test.YtnblfcibgokccaaGreatDoorPCx0
namespace Go.Proofs.YtnblfcibgokccaaGreatDoor.LC
open Go.RowKit Go.Proofs.YtnblfcibgokccaaGreatDoor.PC Go.Proofs.YtnblfcibgokccaaGreatDoorW.PrintWords Go.Proofs.YtnblfcibgokccaaGreatDoorW.PrintLast Go.Proofs.YtnblfcibgokccaaGreatDoor.Aid
set_option linter.unusedVariables false
set_option linter.unusedSimpArgs false

/-- A valid vector. -/
def IsV (x y : Int) : Prop := (-1000 ≤ x ∧ x ≤ 1000) ∧ (-1000 ≤ y ∧ y ≤ 1000)
instance (x y : Int) : Decidable (IsV x y) := by unfold IsV; infer_instance
theorem ifb (p : Prop) [Decidable p] (o : Option Bool) : (if (decide p) = true then o else some false) = if p then o else some false := by
  by_cases h : p <;> simp [h]
theorem mulb {a d : Int} (h1 : -1000 ≤ a) (h2 : a ≤ 1000) (h3 : -1000 ≤ d) (h4 : d ≤ 1000) : -1000000 ≤ a * d ∧ a * d ≤ 1000000 := by
  have : (a * d).natAbs ≤ 1000 * 1000 := by rw [Int.natAbs_mul]; exact Nat.mul_le_mul (by omega) (by omega)
  omega
/-- A valid matrix. -/
def IsM (a b c d : Int) : Prop := (IsV a b ∧ IsV c d) ∧ (a * d - b * c = 1 ∨ a * d - b * c = -1)
instance (a b c d : Int) : Decidable (IsM a b c d) := by unfold IsM; infer_instance
theorem det_w {a b c d : Int} (h : IsV a b ∧ IsV c d) : wrap64 (wrap64 (a * d) - wrap64 (b * c)) = a * d - b * c := by
  obtain ⟨⟨⟨h1, h2⟩, h3, h4⟩, ⟨h5, h6⟩, h7, h8⟩ := h
  have x := mulb h1 h2 h7 h8
  have y := mulb h3 h4 h5 h6
  rw [w64s (x := a * d) (by omega) (by omega), w64s (x := b * c) (by omega) (by omega), w64s (by omega) (by omega)]
/-- The norm of a vector. -/
def nrm (fr x y : Int) : Int := if fr = 1 then x * x + y * y + x * y else x * x + y * y
/-- Does a matrix not change norms? -/
def Keeps (fr a b c d : Int) : Prop := nrm fr a c = 1 ∧ nrm fr b d = 1 ∧ nrm fr (a + b) (c + d) = 2 + fr
instance (fr a b c d : Int) : Decidable (Keeps fr a b c d) := by unfold Keeps; infer_instance
theorem sq_nonneg (x : Int) : 0 ≤ x * x := by
  rcases Int.le_total 0 x with h | h
  · exact Int.mul_nonneg h h
  · exact Int.mul_nonneg_of_nonpos_of_nonpos h h
theorem sq_small {x : Int} (h : x * x ≤ 3) : -1 ≤ x ∧ x ≤ 1 := by
  have : x.natAbs * x.natAbs ≤ 3 := by
    have e : ((x.natAbs * x.natAbs : Nat) : Int) = x * x := by rw [Int.natCast_mul]; exact Int.natAbs_mul_self' x
    omega
  have h2 : x.natAbs < 2 := by
    apply Nat.not_le.1; intro h2
    have := Nat.mul_le_mul h2 h2
    omega
  omega
theorem nrm_small {fr x y : Int} (h : nrm fr x y = 1) : (-1 ≤ x ∧ x ≤ 1) ∧ (-1 ≤ y ∧ y ≤ 1) := by
  unfold nrm at h
  have hx := sq_nonneg x
  have hy := sq_nonneg y
  by_cases e : fr = 1
  · rw [if_pos e] at h
    have a1 := sq_nonneg (2 * x + y)
    have a2 := sq_nonneg (x + 2 * y)
    have e1 : (2 * x + y) * (2 * x + y) = 4 * (x * x) + 4 * (x * y) + y * y := by
      rw [Int.add_mul, Int.mul_add, Int.mul_add, Int.mul_comm y (2 * x)]
      have : 2 * x * (2 * x) = 2 * (2 * (x * x)) := by ac_rfl
      have : 2 * x * y = 2 * (x * y) := Int.mul_assoc _ _ _
      omega
    have e2 : (x + 2 * y) * (x + 2 * y) = x * x + 4 * (x * y) + 4 * (y * y) := by
      rw [Int.add_mul, Int.mul_add, Int.mul_add, Int.mul_comm (2 * y) x]
      have : 2 * y * (2 * y) = 2 * (2 * (y * y)) := by ac_rfl
      have : x * (2 * y) = 2 * (x * y) := Int.mul_left_comm _ _ _
      omega
    exact ⟨sq_small (by omega), sq_small (by omega)⟩
  · rw [if_neg e] at h
    exact ⟨sq_small (by omega), sq_small (by omega)⟩
theorem nrm_w {fr x y : Int} (hx0 : -2000 ≤ x) (hx1 : x ≤ 2000) (hy0 : -2000 ≤ y) (hy1 : y ≤ 2000) :
    wrap64 (wrap64 (wrap64 (x * x) + wrap64 (y * y)) + wrap64 (x * y)) = x * x + y * y + x * y ∧ wrap64 (wrap64 (x * x) + wrap64 (y * y)) = x * x + y * y := by
  have k : ∀ p q : Int, -2000 ≤ p → p ≤ 2000 → -2000 ≤ q → q ≤ 2000 → -4000000 ≤ p * q ∧ p * q ≤ 4000000 := fun p q h1 h2 h3 h4 => by
    have : (p * q).natAbs ≤ 2000 * 2000 := by rw [Int.natAbs_mul]; exact Nat.mul_le_mul (by omega) (by omega)
    omega
  have k1 := k x x hx0 hx1 hx0 hx1
  have k2 := k y y hy0 hy1 hy0 hy1
  have k3 := k x y hx0 hx1 hy0 hy1
  rw [w64s (x := x * x) (by omega) (by omega), w64s (x := y * y) (by omega) (by omega), w64s (x := x * y) (by omega) (by omega), w64s (x := x * x + y * y) (by omega) (by omega), w64s (by omega) (by omega)]
  exact ⟨rfl, rfl⟩
/-- The point matrices of a frame. -/
def pmL (fr : Int) : List (Int × Int × Int × Int) :=
  if fr = 0 then [(-1, 0, 0, -1), (-1, 0, 0, 1), (0, -1, -1, 0), (0, -1, 1, 0), (0, 1, -1, 0), (0, 1, 1, 0), (1, 0, 0, -1), (1, 0, 0, 1)]
  else [(-1, -1, 0, 1), (-1, -1, 1, 0), (-1, 0, 0, -1), (-1, 0, 1, 1), (0, -1, -1, 0), (0, -1, 1, 1), (0, 1, -1, -1), (0, 1, 1, 0), (1, 0, -1, -1), (1, 0, 0, 1), (1, 1, -1, 0), (1, 1, 0, -1)]
def unitR : List Int := [-1, 0, 1]
theorem mem_unitR {x : Int} (h : -1 ≤ x ∧ x ≤ 1) : x ∈ unitR := by
  have : x = -1 ∨ x = 0 ∨ x = 1 := by omega
  rcases this with rfl | rfl | rfl <;> decide
theorem pm_fin0 : ∀ a ∈ unitR, ∀ b ∈ unitR, ∀ c ∈ unitR, ∀ d ∈ unitR, Keeps 0 a b c d → (a, b, c, d) ∈ pmL 0 := by decide +kernel
theorem pm_fin1 : ∀ a ∈ unitR, ∀ b ∈ unitR, ∀ c ∈ unitR, ∀ d ∈ unitR, Keeps 1 a b c d → (a, b, c, d) ∈ pmL 1 := by decide +kernel
theorem pm_back0 : ∀ m ∈ pmL 0, IsM m.1 m.2.1 m.2.2.1 m.2.2.2 ∧ Keeps 0 m.1 m.2.1 m.2.2.1 m.2.2.2 := by decide +kernel
theorem pm_back1 : ∀ m ∈ pmL 1, IsM m.1 m.2.1 m.2.2.1 m.2.2.2 ∧ Keeps 1 m.1 m.2.1 m.2.2.1 m.2.2.2 := by decide +kernel
theorem pm_small0 : ∀ m ∈ pmL 0, (-1 ≤ m.1 ∧ m.1 ≤ 1) ∧ (-1 ≤ m.2.1 ∧ m.2.1 ≤ 1) ∧ (-1 ≤ m.2.2.1 ∧ m.2.2.1 ≤ 1) ∧ (-1 ≤ m.2.2.2 ∧ m.2.2.2 ≤ 1) := by decide +kernel
theorem pm_small1 : ∀ m ∈ pmL 1, (-1 ≤ m.1 ∧ m.1 ≤ 1) ∧ (-1 ≤ m.2.1 ∧ m.2.1 ≤ 1) ∧ (-1 ≤ m.2.2.1 ∧ m.2.2.1 ≤ 1) ∧ (-1 ≤ m.2.2.2 ∧ m.2.2.2 ≤ 1) := by decide +kernel
theorem fr01 {fr : Int} (hf : 0 ≤ fr ∧ fr ≤ 1) : fr = 0 ∨ fr = 1 := by omega
theorem mem_pm {fr a b c d : Int} (hf : 0 ≤ fr ∧ fr ≤ 1) : (a, b, c, d) ∈ pmL fr ↔ IsM a b c d ∧ Keeps fr a b c d := by
  constructor
  · intro h
    rcases fr01 hf with rfl | rfl
    · exact pm_back0 _ h
    · exact pm_back1 _ h
  · rintro ⟨h1, h2⟩
    have h3 := nrm_small h2.1
    have h4 := nrm_small h2.2.1
    rcases fr01 hf with rfl | rfl
    · exact pm_fin0 a (mem_unitR h3.1) b (mem_unitR h4.1) c (mem_unitR h3.2) d (mem_unitR h4.2) h2
    · exact pm_fin1 a (mem_unitR h3.1) b (mem_unitR h4.1) c (mem_unitR h3.2) d (mem_unitR h4.2) h2
theorem pm_small {fr : Int} (hf : 0 ≤ fr ∧ fr ≤ 1) {m : Int × Int × Int × Int} (h : m ∈ pmL fr) : (-1 ≤ m.1 ∧ m.1 ≤ 1) ∧ (-1 ≤ m.2.1 ∧ m.2.1 ≤ 1) ∧ (-1 ≤ m.2.2.1 ∧ m.2.2.1 ≤ 1) ∧ (-1 ≤ m.2.2.2 ∧ m.2.2.2 ≤ 1) := by
  rcases fr01 hf with rfl | rfl
  · exact pm_small0 m h
  · exact pm_small1 m h
theorem pm_len (fr : Int) : (pmL fr).length ≤ 12 := by unfold pmL; split <;> decide
/-- Does a matrix map a lattice into itself? -/
def KeepL (a b c : Int) (m : Int × Int × Int × Int) : Prop := red a b c (m.1 * a) (m.2.2.1 * a) = (0, 0) ∧ red a b c (m.1 * b + m.2.1 * c) (m.2.2.1 * b + m.2.2.2 * c) = (0, 0)
instance (a b c : Int) (m : Int × Int × Int × Int) : Decidable (KeepL a b c m) := by unfold KeepL; infer_instance
theorem unit_mul {u x : Int} (h : -1 ≤ u ∧ u ≤ 1) (hx0 : 0 ≤ x) (hx1 : x ≤ 64) : -64 ≤ u * x ∧ u * x ≤ 64 := by
  have : u = -1 ∨ u = 0 ∨ u = 1 := by omega
  rcases this with rfl | rfl | rfl <;> omega
end Go.Proofs.YtnblfcibgokccaaGreatDoor.LC
