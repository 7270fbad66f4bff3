/- Plain lemmas on counting colours and on recolouring. -/
import Derived.Test.YteeclbncpdafcaaAid
import Derived.Test.YteeclbncpdafcaaPAx0
import Derived.Test.YteeclbncpdafcaaLABLists
import Derived.Test.YteeclbncpdafcaaLAEPattern
import Derived.Test.YteeclbncpdafcaaPAx20
import Derived.Test.YteeclbncpdafcaaPAx21
import Derived.Test.YteeclbncpdafcaaPAx7
namespace Go.Proofs.Yteeclbncpdafcaa.LA
open Go.RowKit Go.Proofs.Yteeclbncpdafcaa.PA Go.Proofs.YteeclbncpdafcaaW.PrintWords Go.Proofs.YteeclbncpdafcaaW.PrintLast Go.Proofs.Yteeclbncpdafcaa.Aid
set_option linter.unusedVariables false
set_option linter.unusedSimpArgs false

/-- One count more. -/
def bump (n : List Int) (x : Int) : List Int := n.set x.toNat (rd n x + 1)
theorem bump_len (n : List Int) (x : Int) : (bump n x).length = n.length := by simp [bump]
theorem bump_le (n : List Int) (x : Int) (m : Int) (h : ∀ y ∈ n, 0 ≤ y ∧ y ≤ m) (hx : rd n x ≤ m) (h0 : 0 ≤ rd n x) : ∀ y ∈ bump n x, 0 ≤ y ∧ y ≤ m + 1 := by
  intro y hy
  unfold bump at hy
  rcases List.mem_or_eq_of_mem_set hy with h1 | rfl
  · have := h y h1; omega
  · omega
theorem both_count (l : List Int) (hl : (l.length : Int) ≤ 64) (hv : ∀ x ∈ l, 0 ≤ x ∧ x ≤ 9) (fr a b c : Int) (d : Nat) : ∀ (k i : Nat) (n : List Int), n.length = 10 → (∀ y ∈ n, 0 ≤ y ∧ y ≤ i) → i ≤ l.length → l.length - i = d → d < k →
    ∃ r, r.length = 10 ∧ spec_CountColours.l0 k n i fr a b c l = some (r, 0) ∧ impl_CountColours.l0 k n l (l.length : Int) i = some (r, 0) := by
  induction d with
  | zero =>
    intro k i n hn hy hi hd hk
    obtain ⟨k, rfl⟩ := succ_of_lt hk
    obtain rfl : i = l.length := by omega
    refine ⟨n, hn, ?_, ?_⟩
    · simp only [spec_CountColours.l0]; rw [if_neg (by omega)]
    · simp only [impl_CountColours.l0]; rw [if_neg (by omega)]
  | succ d ih =>
    intro k i n hn hy hi hd hk
    obtain ⟨k, rfl⟩ := succ_of_lt hk
    have hlt : (i : Int) < (l.length : Int) := by omega
    have hx := hv _ (rd_mem l i (by omega) hlt)
    have hr := hy _ (rd_mem n (rd l i) hx.1 (by omega))
    have hw : wrap64 ((i : Int) + 1) = ((i + 1 : Nat) : Int) := by rw [w64s (by omega) (by omega)]; omega
    have hw2 : wrap64 (rd n (rd l i) + 1) = rd n (rd l i) + 1 := w64s (by omega) (by omega)
    obtain ⟨r, hr1, h1, h2⟩ := ih k (i + 1) (bump n (rd l i)) (by rw [bump_len, hn]) (fun y hy' => by have := bump_le n (rd l i) i hy hr.2 hr.1 y hy'; omega) (by omega) (by omega) (by omega)
    refine ⟨r, hr1, ?_, ?_⟩
    · simp only [spec_CountColours.l0]
      rw [if_pos hlt, if_pos (by omega), if_pos hx.1, if_pos (by omega), hw, hw2]; exact h1
    · simp only [impl_CountColours.l0]
      rw [if_pos hlt, if_pos (by omega), if_pos hlt, if_pos hx.1, if_pos (by omega), hw, hw2]; exact h2
theorem both_CountColours (fr a b c : Int) (l : List Int) (hl : (l.length : Int) ≤ 1048576) {k : Nat} (hk : l.length < k) :
    ∃ r e, (r.length : Int) ≤ 10 ∧ spec_CountColours.f k fr a b c l = some (r, e) ∧ impl_CountColours.f k fr a b c l = some (r, e) := by
  unfold spec_CountColours.f impl_CountColours.f
  rw [spec_IsPattern_eq _ _ _ _ l hl hk, impl_IsPattern_eq]
  simp only [Option.bind_some]
  by_cases h : Pat fr a b c l
  · have hp : decide (Pat fr a b c l) = true := decide_eq_true h
    have h10 : (10 : Nat) ≤ 35184372088832 := by omega
    simp only [hp, if_true, if_pos h10]
    obtain ⟨r, hr, h1, h2⟩ := both_count l h.len h.2.2 fr a b c l.length k 0 (List.replicate 10 0) (by simp) (by intro y hy; have := List.eq_of_mem_replicate hy; subst this; simp) (by omega) (by omega) hk
    exact ⟨r, 0, by omega, h1, h2⟩
  · have hp : decide (Pat fr a b c l) = false := decide_eq_false h
    simp only [hp, Bool.false_eq_true, if_false]
    exact ⟨[], 1, by simp, rfl, rfl⟩
theorem spec_recolour_loop (q l : List Int) (hq : q.length = 10) (hl : (l.length : Int) ≤ 64) (hv : ∀ x ∈ l, 0 ≤ x ∧ x ≤ 9) (fr a b c : Int) (d : Nat) : ∀ (k i : Nat), i ≤ l.length → l.length - i = d → d < k →
    spec_Recolour.l0 k q i fr a b c l fr a b c ((l.take i).map (rd q)) = some (fr, a, b, c, l.map (rd q), 0) := by
  induction d with
  | zero =>
    intro k i hi hd hk
    obtain ⟨k, rfl⟩ := succ_of_lt hk
    obtain rfl : i = l.length := by omega
    simp only [spec_Recolour.l0]; rw [if_neg (by omega), List.take_length]
  | succ d ih =>
    intro k i hi hd hk
    obtain ⟨k, rfl⟩ := succ_of_lt hk
    have hlt : (i : Int) < (l.length : Int) := by omega
    have hx := hv _ (rd_mem l i (by omega) hlt)
    have hw : wrap64 ((i : Int) + 1) = ((i + 1 : Nat) : Int) := by rw [w64s (by omega) (by omega)]; omega
    have hi' : i < l.length := by omega
    simp only [spec_Recolour.l0]
    rw [if_pos hlt, if_pos (by omega), if_pos hx.1, if_pos (by omega), if_pos (by simp; omega), hw]
    have := ih k (i + 1) (by omega) (by omega) (by omega)
    rw [List.take_succ_eq_append_getElem hi', List.map_append] at this
    have e : rd l (i : Int) = l[i] := by rw [rd_nat]; simp [List.getD, hi']
    rw [e]; exact this
theorem impl_recolour_loop (q l : List Int) (hq : q.length = 10) (hl : (l.length : Int) ≤ 64) (hv : ∀ x ∈ l, 0 ≤ x ∧ x ≤ 9) (fr a b c : Int) (d : Nat) : ∀ (k i : Nat), i ≤ l.length → l.length - i = d → d < k →
    impl_Recolour.l0 k q l (l.length : Int) i fr a b c ((l.take i).map (rd q)) = some (fr, a, b, c, l.map (rd q), 0) := by
  induction d with
  | zero =>
    intro k i hi hd hk
    obtain ⟨k, rfl⟩ := succ_of_lt hk
    obtain rfl : i = l.length := by omega
    simp only [impl_Recolour.l0]; rw [if_neg (by omega), List.take_length]
  | succ d ih =>
    intro k i hi hd hk
    obtain ⟨k, rfl⟩ := succ_of_lt hk
    have hlt : (i : Int) < (l.length : Int) := by omega
    have hx := hv _ (rd_mem l i (by omega) hlt)
    have hw : wrap64 ((i : Int) + 1) = ((i + 1 : Nat) : Int) := by rw [w64s (by omega) (by omega)]; omega
    have hi' : i < l.length := by omega
    simp only [impl_Recolour.l0]
    rw [if_pos hlt, if_pos (by omega), if_pos hlt, if_pos hx.1, if_pos (by omega), if_pos (by simp; omega), hw]
    have := ih k (i + 1) (by omega) (by omega) (by omega)
    rw [List.take_succ_eq_append_getElem hi', List.map_append] at this
    have e : rd l (i : Int) = l[i] := by rw [rd_nat]; simp [List.getD, hi']
    rw [e]; exact this
theorem both_Recolour (fr a b c : Int) (l q : List Int) (hl : (l.length : Int) ≤ 1048576) (hq : (q.length : Int) ≤ 1048576) {k : Nat} (hk : l.length < k) (hk2 : q.length < k) :
    ∃ r, spec_Recolour.f (k + 1) fr a b c l q = some r ∧ impl_Recolour.f (k + 1) fr a b c l q = some r ∧ (r.2.2.2.2.1.length : Int) ≤ 64 := by
  unfold spec_Recolour.f impl_Recolour.f
  rw [spec_IsPattern_eq _ _ _ _ l hl (by omega), impl_IsPattern_eq]
  simp only [Option.bind_some, impl_Recolour.j0]
  by_cases h : Pat fr a b c l
  · have hp : decide (Pat fr a b c l) = true := decide_eq_true h
    simp only [hp, if_true]
    by_cases h2 : (q.length : Int) = 10
    · simp only [if_pos h2, l01Within_eq q 10 0 9 hq (show q.length < k + 1 by omega), allWithin_eq, Option.bind_some]
      by_cases h3 : ∀ x ∈ q, 0 ≤ x ∧ x ≤ 9
      · have e1 : decide ((∀ x ∈ q, 0 ≤ x ∧ x ≤ 9) ∧ (q.length : Int) ≤ 10) = true := decide_eq_true ⟨h3, by omega⟩
        have e2 : decide (∀ x ∈ q, 0 ≤ x ∧ x ≤ 9) = true := decide_eq_true h3
        rw [e1, e2]
        simp only [if_true, Bool.not_true, Bool.false_eq_true, if_false]
        exact ⟨(fr, a, b, c, l.map (rd q), 0), spec_recolour_loop q l (by omega) h.len h.2.2 fr a b c l.length (k + 1) 0 (by omega) (by omega) (by omega),
          impl_recolour_loop q l (by omega) h.len h.2.2 fr a b c l.length k 0 (by omega) (by omega) (by omega), by simpa using h.len⟩
      · have e1 : decide ((∀ x ∈ q, 0 ≤ x ∧ x ≤ 9) ∧ (q.length : Int) ≤ 10) = false := decide_eq_false (fun x => h3 x.1)
        have e2 : decide (∀ x ∈ q, 0 ≤ x ∧ x ≤ 9) = false := decide_eq_false h3
        rw [e1, e2]
        exact ⟨(0, 0, 0, 0, [], 2), by simp, by simp, by simp⟩
    · simp only [if_neg h2, if_true]
      exact ⟨(0, 0, 0, 0, [], 2), rfl, rfl, by simp⟩
  · have hp : decide (Pat fr a b c l) = false := decide_eq_false h
    simp only [hp, Bool.false_eq_true, if_false]
    exact ⟨(0, 0, 0, 0, [], 1), rfl, rfl, by simp⟩

end Go.Proofs.Yteeclbncpdafcaa.LA
