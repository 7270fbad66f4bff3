/- Plain lemmas on the lattices with an index. -/
import Derived.Test.YtfkdcngpjppnbaaAid
import Derived.Test.YtfkdcngpjppnbaaPAx0
import Derived.Test.YtfkdcngpjppnbaaLAABasic
import Derived.Test.YtfkdcngpjppnbaaPAx0
import Derived.Test.YtfkdcngpjppnbaaPAx6
import Derived.Test.YtfkdcngpjppnbaaPAx7
namespace Go.Proofs.Ytfkdcngpjppnbaa.LA
open Go.RowKit Go.Proofs.Ytfkdcngpjppnbaa.PA Go.Proofs.YtfkdcngpjppnbaaW.PrintWords Go.Proofs.YtfkdcngpjppnbaaW.PrintLast Go.Proofs.Ytfkdcngpjppnbaa.Aid
set_option linter.unusedVariables false
set_option linter.unusedSimpArgs false

/-- The lattices with A = a and B from j on. -/
def srow (n : Int) (a : Int) (j d : Nat) : List S33 := (List.range d).map fun i => ⟨a, ((j + i : Nat) : Int), n / a⟩
theorem srow_succ (n a : Int) (j d : Nat) : srow n a j (d + 1) = (⟨a, (j : Int), n / a⟩ : S33) :: srow n a (j + 1) d := by
  unfold srow
  rw [List.range_succ_eq_map, List.map_cons, List.map_map]
  congr 1
  apply List.map_congr_left
  intro i _
  simp only [Function.comp]
  congr 2; omega
def srows (n : Int) : Nat → Nat → List S33
  | _, 0 => []
  | a, d + 1 => (if n % (a : Int) = 0 then srow n a 0 a else []) ++ srows n (a + 1) d
def subsL (n : Int) : List S33 := srows n 1 n.toNat
theorem srow_len (n a : Int) (j d : Nat) : (srow n a j d).length = d := by simp [srow]
theorem srows_len (n : Int) : ∀ (d a : Nat), a + d ≤ 65 → (srows n a d).length ≤ d * 64
  | 0, _, _ => by simp [srows]
  | d + 1, a, h => by
    have := srows_len n d (a + 1) (by omega)
    simp only [srows, List.length_append]
    split
    · rw [srow_len]; omega
    · simp; omega
theorem srows_mem (n : Int) (hn : 1 ≤ n) : ∀ (d a : Nat) (v : S33), 1 ≤ a → v ∈ srows n a d → 1 ≤ v.f0 ∧ 0 ≤ v.f1 ∧ v.f1 < v.f0 ∧ v.f0 * v.f2 = n ∧ v.f0 < a + d
  | 0, _, v, _, h => by simp [srows] at h
  | d + 1, a, v, ha, h => by
    rcases List.mem_append.1 h with h | h
    · by_cases hd : n % (a : Int) = 0
      · rw [if_pos hd] at h
        obtain ⟨y, hy, rfl⟩ := List.mem_map.1 h
        have := List.mem_range.1 hy
        refine ⟨by simp only; omega, by simp only; omega, by simp only; omega, ?_, by simp only; omega⟩
        exact Int.mul_ediv_cancel' (Int.dvd_of_emod_eq_zero hd)
      · rw [if_neg hd] at h; cases h
    · have := srows_mem n hn d (a + 1) v (by omega) h
      refine ⟨this.1, this.2.1, this.2.2.1, this.2.2.2.1, by omega⟩
theorem subs_mem {n : Int} (hn : 1 ≤ n) (hn' : n ≤ 64) {v : S33} (h : v ∈ subsL n) : Lat v.f0 v.f1 v.f2 ∧ v.f0 * v.f2 = n := by
  obtain ⟨h1, h2, h3, h4, h5⟩ := srows_mem n hn n.toNat 1 v (by omega) h
  have h6 : 1 ≤ v.f2 := by
    apply Int.not_lt.1
    intro h
    have : v.f0 * v.f2 ≤ v.f0 * 0 := Int.mul_le_mul_of_nonneg_left (by omega) (by omega)
    omega
  have h7 : 1 * v.f2 ≤ v.f0 * v.f2 := Int.mul_le_mul_of_nonneg_right h1 (by omega)
  exact ⟨⟨h1, by omega, h6, by omega, h2, by omega, by omega⟩, h4⟩
theorem subs_len {n : Int} (hn : 1 ≤ n) (hn' : n ≤ 64) : (subsL n).length ≤ 4096 := by
  have := srows_len n n.toNat 1 (by omega)
  unfold subsL; omega
theorem tmod_pos {n a : Int} (hn : 0 ≤ n) : Int.tmod n a = n % a := Int.tmod_eq_emod_of_nonneg hn
theorem tdiv_ok {n a : Int} (hn : 1 ≤ n) (hn' : n ≤ 64) (ha : 1 ≤ a) : wrap64 (Int.tdiv n a) = n / a := by
  rw [Int.tdiv_eq_ediv_of_nonneg (by omega)]
  have h1 := Int.ediv_nonneg (show 0 ≤ n by omega) (show 0 ≤ a by omega)
  have h2 := Int.ediv_le_self a (show 0 ≤ n by omega)
  exact w64s (by omega) (by omega)
theorem spec_srow (n : Int) (hn : 1 ≤ n) (hn' : n ≤ 64) (a : Nat) (ha : 1 ≤ a) (ha' : a ≤ 64) (hd : n % (a : Int) = 0) (r : List S33 × Int) (d : Nat) : ∀ (j : Nat) (out : List S33), a - j = d → j ≤ a → out.length + d < 1000000 →
    Ev (fun k => spec_SublatticesOf.l0 k n (out ++ srow n a j d) (wrap64 ((a : Int) + 1))) r → Ev (fun k => spec_SublatticesOf.l1 k n out a j) r := by
  induction d with
  | zero =>
    intro j out hd' hj _ h
    refine Ev.step (fun k => ?_) h
    simp only [spec_SublatticesOf.l1]
    rw [if_neg (by omega), tmod_pos (by omega), if_pos hd, if_neg (by omega)]; simp [srow]
  | succ d ih =>
    intro j out hd' hj ho h
    have h' := ih (j + 1) (out ++ [⟨(a : Int), (j : Int), n / a⟩]) (by omega) (by omega) (by simp; omega) (by simpa [srow_succ] using h)
    refine Ev.step (fun k => ?_) h'
    simp only [spec_SublatticesOf.l1]
    rw [if_neg (by omega), tmod_pos (by omega), if_pos hd, if_pos (by omega), if_pos (by omega), tdiv_ok hn hn' (by omega), w64s (by omega) (by omega)]; rfl
theorem spec_srows (n : Int) (hn : 1 ≤ n) (hn' : n ≤ 64) (d : Nat) : ∀ (a : Nat) (out : List S33), 1 ≤ a → a ≤ n + 1 → n + 1 - a = d → out.length + d * 64 < 100000 →
    Ev (fun k => spec_SublatticesOf.l0 k n out a) (out ++ srows n a d, 0) := by
  induction d with
  | zero =>
    intro a out h1 h2 hd _
    refine Ev.one (fun k => ?_)
    simp only [spec_SublatticesOf.l0]
    rw [if_neg (by omega)]; simp [srows]
  | succ d ih =>
    intro a out h1 h2 hd ho
    have hw : wrap64 ((a : Int) + 1) = ((a + 1 : Nat) : Int) := by rw [w64s (by omega) (by omega)]; omega
    have key : Ev (fun k => spec_SublatticesOf.l1 k n out a 0) (out ++ srows n a (d + 1), 0) := by
      by_cases hdv : n % (a : Int) = 0
      · refine spec_srow n hn hn' a h1 (by omega) hdv _ a 0 out (by omega) (by omega) (by omega) ?_
        have := ih (a + 1) (out ++ srow n a 0 a) (by omega) (by omega) (by omega) (by simp [srow_len]; omega)
        rw [hw]
        simpa [srows, hdv, List.append_assoc] using this
      · have := ih (a + 1) out (by omega) (by omega) (by omega) (by omega)
        have this' : Ev (fun k => spec_SublatticesOf.l0 k n out ((a + 1 : Nat) : Int)) (out ++ srows n a (d + 1), 0) := by simpa [srows, hdv] using this
        refine Ev.step (fun k => ?_) this'
        simp only [spec_SublatticesOf.l1]
        rw [if_neg (by omega), tmod_pos (by omega), if_neg hdv, hw]
    refine Ev.step (fun k => ?_) key
    simp only [spec_SublatticesOf.l0]
    rw [if_pos (by omega)]
theorem spec_subs_ev {n : Int} (hn : 1 ≤ n) (hn' : n ≤ 64) : Ev (fun k => spec_SublatticesOf.f k n) (subsL n, 0) := by
  have h := spec_srows n hn hn' n.toNat 1 [] (by omega) (by omega) (by omega) (by simp; omega)
  refine Ev.congr (fun k => ?_) h
  unfold spec_SublatticesOf.f
  rw [l01In_eq]
  simp only [Option.bind_some]
  rw [if_pos (by simp; omega)]; simp
theorem impl_srow (n : Int) (hn : 1 ≤ n) (hn' : n ≤ 64) (a : Nat) (ha : 1 ≤ a) (ha' : a ≤ 64) (hd : n % (a : Int) = 0) (r : List S33) (d : Nat) : ∀ (j : Nat) (out : List S33), a - j = d → j ≤ a → out.length + d < 1000000 →
    Ev (fun k => impl_sublattices.l0 k n (out ++ srow n a j d) (wrap64 ((a : Int) + 1))) r → Ev (fun k => impl_sublattices.l1 k n out a a j) r := by
  induction d with
  | zero =>
    intro j out hd' hj _ h
    refine Ev.step (fun k => ?_) h
    simp only [impl_sublattices.l1]
    rw [if_neg (by omega)]; simp [srow]
  | succ d ih =>
    intro j out hd' hj ho h
    have h' := ih (j + 1) (out ++ [⟨(a : Int), (j : Int), n / a⟩]) (by omega) (by omega) (by simp; omega) (by simpa [srow_succ] using h)
    refine Ev.step (fun k => ?_) h'
    simp only [impl_sublattices.l1]
    rw [if_pos (by omega), if_neg (by omega), tmod_pos (by omega), if_pos hd, if_pos (by omega), tdiv_ok hn hn' (by omega), w64s (by omega) (by omega)]; rfl
theorem impl_srow_no (n : Int) (hn : 1 ≤ n) (hn' : n ≤ 64) (a : Nat) (ha : 1 ≤ a) (ha' : a ≤ 64) (hd : ¬ n % (a : Int) = 0) (r : List S33) (out : List S33) (d : Nat) : ∀ (j : Nat), a - j = d → j ≤ a →
    Ev (fun k => impl_sublattices.l0 k n out (wrap64 ((a : Int) + 1))) r → Ev (fun k => impl_sublattices.l1 k n out a a j) r := by
  induction d with
  | zero =>
    intro j hd' hj h
    refine Ev.step (fun k => ?_) h
    simp only [impl_sublattices.l1]
    rw [if_neg (by omega)]
  | succ d ih =>
    intro j hd' hj h
    have h' := ih (j + 1) (by omega) (by omega) h
    refine Ev.step (fun k => ?_) h'
    simp only [impl_sublattices.l1]
    rw [if_pos (by omega), if_neg (by omega), tmod_pos (by omega), if_neg hd, w64s (by omega) (by omega)]; rfl
theorem impl_srows (n : Int) (hn : 1 ≤ n) (hn' : n ≤ 64) (d : Nat) : ∀ (a : Nat) (out : List S33), 1 ≤ a → a ≤ n + 1 → n + 1 - a = d → out.length + d * 64 < 100000 →
    Ev (fun k => impl_sublattices.l0 k n out a) (out ++ srows n a d) := by
  induction d with
  | zero =>
    intro a out h1 h2 hd _
    refine Ev.one (fun k => ?_)
    simp only [impl_sublattices.l0]
    rw [if_neg (by omega)]; simp [srows]
  | succ d ih =>
    intro a out h1 h2 hd ho
    have hw : wrap64 ((a : Int) + 1) = ((a + 1 : Nat) : Int) := by rw [w64s (by omega) (by omega)]; omega
    have key : Ev (fun k => impl_sublattices.l1 k n out a a 0) (out ++ srows n a (d + 1)) := by
      by_cases hdv : n % (a : Int) = 0
      · refine impl_srow n hn hn' a h1 (by omega) hdv _ a 0 out (by omega) (by omega) (by omega) ?_
        have := ih (a + 1) (out ++ srow n a 0 a) (by omega) (by omega) (by omega) (by simp [srow_len]; omega)
        rw [hw]
        simpa [srows, hdv, List.append_assoc] using this
      · refine impl_srow_no n hn hn' a h1 (by omega) hdv _ out a 0 (by omega) (by omega) ?_
        have := ih (a + 1) out (by omega) (by omega) (by omega) (by omega)
        rw [hw]
        simpa [srows, hdv] using this
    refine Ev.step (fun k => ?_) key
    simp only [impl_sublattices.l0]
    rw [if_pos (by omega)]
theorem impl_subs_ev {n : Int} (hn : 1 ≤ n) (hn' : n ≤ 64) : Ev (fun k => impl_sublattices.f k n) (subsL n) := by
  have h := impl_srows n hn hn' n.toNat 1 [] (by omega) (by omega) (by omega) (by simp; omega)
  refine Ev.congr (fun k => ?_) h
  unfold impl_sublattices.f
  simp

end Go.Proofs.Ytfkdcngpjppnbaa.LA
