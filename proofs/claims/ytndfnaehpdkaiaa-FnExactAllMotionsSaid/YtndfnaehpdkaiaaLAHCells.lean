/- Plain lemmas on the cells of a lattice and on the lattices with an index. -/
import Derived.Test.YtndfnaehpdkaiaaAid
import Derived.Test.YtndfnaehpdkaiaaPAx0
import Derived.Test.YtndfnaehpdkaiaaLAAdEv
import Derived.Test.YtndfnaehpdkaiaaPAx0
import Derived.Test.YtndfnaehpdkaiaaPAx15
namespace Go.Proofs.Ytndfnaehpdkaiaa.LA
open Go.RowKit Go.Proofs.Ytndfnaehpdkaiaa.PA Go.Proofs.YtndfnaehpdkaiaaW.PrintWords Go.Proofs.YtndfnaehpdkaiaaW.PrintLast Go.Proofs.Ytndfnaehpdkaiaa.Aid
set_option linter.unusedVariables false
set_option linter.unusedSimpArgs false

/-- One column of cells. -/
def col (x : Int) (j d : Nat) : List S34 := (List.range d).map fun i => ⟨x, ((j + i : Nat) : Int)⟩
theorem col_succ (x : Int) (j d : Nat) : col x j (d + 1) = (⟨x, (j : Int)⟩ : S34) :: col x (j + 1) d := by
  unfold col
  rw [List.range_succ_eq_map, List.map_cons, List.map_map]
  congr 1
  apply List.map_congr_left
  intro i _
  simp only [Function.comp]
  congr 2; omega
/-- Columns from x = i on. -/
def cols (c : Nat) : Nat → Nat → List S34
  | _, 0 => []
  | i, d + 1 => col (i : Int) 0 c ++ cols c (i + 1) d
/-- All cells. -/
def cellsL (a c : Int) : List S34 := cols c.toNat 0 a.toNat
theorem col_len (x : Int) (j d : Nat) : (col x j d).length = d := by simp [col]
theorem cols_len (c : Nat) : ∀ (d i : Nat), (cols c i d).length = d * c
  | 0, _ => by simp [cols]
  | d + 1, i => by simp [cols, cols_len c d, col_len, Nat.add_mul, Nat.add_comm]
theorem cols_mem (c : Nat) : ∀ (d i : Nat) (v : S34), v ∈ cols c i d → (i : Int) ≤ v.f0 ∧ v.f0 < i + d ∧ 0 ≤ v.f1 ∧ v.f1 < c
  | 0, _, v, h => by simp [cols] at h
  | d + 1, i, v, h => by
    rcases List.mem_append.1 h with h | h
    · obtain ⟨y, hy, rfl⟩ := List.mem_map.1 h
      have := List.mem_range.1 hy
      simp only
      omega
    · have := cols_mem c d (i + 1) v h
      omega
theorem cells_mem {a c : Int} (ha : 0 ≤ a) (hc : 0 ≤ c) {v : S34} (h : v ∈ cellsL a c) : 0 ≤ v.f0 ∧ v.f0 < a ∧ 0 ≤ v.f1 ∧ v.f1 < c := by
  have := cols_mem c.toNat a.toNat 0 v h
  omega
theorem cells_len {a c : Int} (ha : 0 ≤ a) (hc : 0 ≤ c) : ((cellsL a c).length : Int) = a * c := by
  unfold cellsL
  rw [cols_len]
  rw [Int.natCast_mul, Int.toNat_of_nonneg ha, Int.toNat_of_nonneg hc]
theorem spec_col (b : Int) (a c x : Int) (r : List S34) (d : Nat) : ∀ (j : Nat) (out : List S34), c - j = d → out.length + d < 1000000 → c ≤ 1000 → 
    Ev (fun k => spec_l03Cells.l0 k (out ++ col x j d) (wrap64 (x + 1)) a b c) r → Ev (fun k => spec_l03Cells.l1 k out x j a b c) r := by
  induction d with
  | zero =>
    intro j out hd _ _ h
    refine Ev.step (fun k => ?_) h
    simp only [spec_l03Cells.l1]
    rw [if_neg (by omega)]; simp [col]
  | succ d ih =>
    intro j out hd ho hc h
    have h' := ih (j + 1) (out ++ [⟨x, (j : Int)⟩]) (by omega) (by simp; omega) hc (by simpa [col_succ] using h)
    refine Ev.step (fun k => ?_) h'
    simp only [spec_l03Cells.l1]
    rw [if_pos (by omega), if_pos (by omega), w64s (by omega) (by omega)]; rfl
theorem spec_cols (b : Int) (a c : Int) (hc0 : 0 ≤ c) (hc : c ≤ 1000) (ha : a ≤ 1000) (d : Nat) : ∀ (i : Nat) (out : List S34), a - i = d → out.length + (d + 1) * 1000 < 10000000000 → (d = 0 ∨ out.length + d * 1000 < 900000) →
    Ev (fun k => spec_l03Cells.l0 k out i a b c) (out ++ cols c.toNat i d) := by
  induction d with
  | zero =>
    intro i out hd _ _
    refine Ev.one (fun k => ?_)
    simp only [spec_l03Cells.l0]
    rw [if_neg (by omega)]; simp [cols]
  | succ d ih =>
    intro i out hd ho ho'
    have h1 := ih (i + 1) (out ++ col (i : Int) 0 c.toNat) (by omega) (by simp [col_len]; omega) (by simp [col_len]; omega)
    have h2 := spec_col b a c i (out ++ cols c.toNat i (d + 1)) c.toNat 0 out (by omega) (by omega) hc (by
      rw [w64s (x := (i : Int) + 1) (by omega) (by omega)]
      simpa [cols, List.append_assoc] using h1)
    refine Ev.step (fun k => ?_) h2
    simp only [spec_l03Cells.l0]
    rw [if_pos (by omega)]; rfl
theorem spec_cells_ev {a c : Int} (b : Int) (ha : 1 ≤ a) (ha' : a ≤ 64) (hc : 1 ≤ c) (hc' : c ≤ 64) : Ev (fun k => spec_l03Cells.f k a b c) (cellsL a c) := by
  have := spec_cols b a c (by omega) (by omega) (by omega) a.toNat 0 [] (by omega) (by simp; omega) (by simp; omega)
  show Ev (fun k => spec_l03Cells.l0 k [] 0 a b c) _
  simpa [cellsL] using this
theorem impl_col (b : Int) (a c x n : Int) (r : List S34) (d : Nat) : ∀ (j : Nat) (out : List S34), c - j = d → out.length + d < 1000000 → c ≤ 1000 → 
    Ev (fun k => impl_Lattice_cells.l0 k (out ++ col x j d) n (wrap64 (x + 1)) a b c) r → Ev (fun k => impl_Lattice_cells.l1 k out x n x c j a b c) r := by
  induction d with
  | zero =>
    intro j out hd _ _ h
    refine Ev.step (fun k => ?_) h
    simp only [impl_Lattice_cells.l1]
    rw [if_neg (by omega)]; simp [col]
  | succ d ih =>
    intro j out hd ho hc h
    have h' := ih (j + 1) (out ++ [⟨x, (j : Int)⟩]) (by omega) (by simp; omega) hc (by simpa [col_succ] using h)
    refine Ev.step (fun k => ?_) h'
    simp only [impl_Lattice_cells.l1]
    rw [if_pos (by omega), if_pos (by omega), w64s (by omega) (by omega)]; rfl
theorem impl_cols (b : Int) (a c : Int) (hc0 : 0 ≤ c) (hc : c ≤ 1000) (ha : a ≤ 1000) (d : Nat) : ∀ (i : Nat) (out : List S34), a - i = d → out.length + (d + 1) * 1000 < 10000000000 → (d = 0 ∨ out.length + d * 1000 < 900000) →
    Ev (fun k => impl_Lattice_cells.l0 k out a i a b c) (out ++ cols c.toNat i d) := by
  induction d with
  | zero =>
    intro i out hd _ _
    refine Ev.one (fun k => ?_)
    simp only [impl_Lattice_cells.l0]
    rw [if_neg (by omega)]; simp [cols]
  | succ d ih =>
    intro i out hd ho ho'
    have h1 := ih (i + 1) (out ++ col (i : Int) 0 c.toNat) (by omega) (by simp [col_len]; omega) (by simp [col_len]; omega)
    have h2 := impl_col b a c i a (out ++ cols c.toNat i (d + 1)) c.toNat 0 out (by omega) (by omega) hc (by
      rw [w64s (x := (i : Int) + 1) (by omega) (by omega)]
      simpa [cols, List.append_assoc] using h1)
    refine Ev.step (fun k => ?_) h2
    simp only [impl_Lattice_cells.l0]
    rw [if_pos (by omega)]; rfl
theorem impl_cells_ev {a c : Int} (b : Int) (ha : 1 ≤ a) (ha' : a ≤ 64) (hc : 1 ≤ c) (hc' : c ≤ 64) : Ev (fun k => impl_Lattice_cells.f k a b c) (cellsL a c) := by
  have := impl_cols b a c (by omega) (by omega) (by omega) a.toNat 0 [] (by omega) (by simp; omega) (by simp; omega)
  show Ev (fun k => impl_Lattice_cells.l0 k [] a 0 a b c) _
  simpa [cellsL] using this

end Go.Proofs.Ytndfnaehpdkaiaa.LA
