/- FnExactCountColours: the program and the reference count the colours of a pattern alike; the argument stays, and results share no memory. -/
import Derived.Test.YteeclbncpdafcaaAid
import Derived.Test.YteeclbncpdafcaaLABLists
import Derived.Test.YteeclbncpdafcaaLAEPattern
import Derived.Test.YteeclbncpdafcaaLAFColours
import Derived.Test.YteeclbncpdafcaaPAx7
import Derived.Test.YteeclbncpdafcaaPAx9
namespace Go.Proofs.Yteeclbncpdafcaa.Pure
open Go.RowKit Go.Proofs.Yteeclbncpdafcaa.PA Go.Proofs.YteeclbncpdafcaaW.PrintWords Go.Proofs.YteeclbncpdafcaaW.PrintLast Go.Proofs.Yteeclbncpdafcaa.Aid
open Go.Proofs.Yteeclbncpdafcaa.LA
set_option linter.unusedVariables false
set_option linter.unusedSimpArgs false

theorem FnExactCountColours : laws_FnExactCountColours.Pure := by
  intro fr a b c l _ _ _ _ hl _
  obtain ⟨m, hm⟩ : ∃ m : Nat, m = 1048580 := ⟨_, rfl⟩
  refine ⟨m + 3, ?_⟩
  unfold laws_FnExactCountColours.f
  rw [szPattern_eq _ _ _ _ l _ (by omega) (by omega) hl]
  by_cases hb : (1048576 : Int) < l.length
  · simp [hb]
  · have hl' : (l.length : Int) ≤ 1048576 := by omega
    have hno : ¬ (1048576 - (l.length : Int)) < 0 := by omega
    obtain ⟨r, e, hr, h1, h2⟩ := both_CountColours fr a b c l hl' (k := m + 3) (by omega)
    obtain ⟨r', e', hr', h1', h2'⟩ := both_CountColours fr a b c l hl' (k := m + 1) (by omega)
    have hee : r' = r ∧ e' = e := by
      have := at_rounds (fun k => impl_CountColours.mono fr a b c l k) (show m + 1 ≤ m + 3 by omega) h2'
      rw [h2] at this
      simpa [eq_comm] using this
    obtain ⟨rfl, rfl⟩ := hee
    obtain ⟨x1, m1, _, _⟩ := markPattern_eq fr a b c l 1 hl' (by omega) (k := m + 2) (by omega)
    obtain ⟨x2, m2, m3, m4⟩ := markInt64S_eq r' 1 (by omega) (by omega) (k := m + 1) (by omega)
    have m5 := heldInt64S_eq x2 1 (by omega) (by omega) (by rw [m3]; exact m4) (k := m + 1) (by omega)
    have m6 := heldInt64S_eq x2 1 (by omega) (by omega) (by rw [m3]; exact m4) (k := m) (by omega)
    have n1 : ¬ ((1 : Nat) : Int) + l.length < 0 := by omega
    have n2 : ¬ ((1 : Nat) : Int) + r'.length < 0 := by omega
    have t3 := toPattern_eq fr a b c l hl' (k := m + 3) (by omega)
    have t2 := toPattern_eq fr a b c l hl' (k := m + 2) (by omega)
    have t1 := toPattern_eq fr a b c l hl' (k := m + 1) (by omega)
    have q3 := eqInt64S_eq r' r' (by omega) (k := m + 3) (by omega)
    have q2 := eqInt64S_eq r' r' (by omega) (k := m + 2) (by omega)
    have q1 := eqInt64S_eq r' r' (by omega) (k := m + 1) (by omega)
    have p2 := eqPattern_eq fr a b c l fr a b c l hl' (k := m + 2) (by omega)
    rw [show ((1 : Nat) : Int) = 1 from rfl] at m1 m2 m5 m6 n1 n2
    simp only [if_neg hb, Option.bind_some, if_neg hno, t3, t2, t1, h1, h2, q3, q2, q1, p2, decide_true, if_true, bne_self_eq_false, laws_FnExactCountColours.j0, laws_FnExactCountColours.j1, laws_FnExactCountColours.j2, Bool.false_eq_true, if_false, and_self, m1, m2, m5, m6, if_neg n1, if_neg n2, h2', m3]

end Go.Proofs.Yteeclbncpdafcaa.Pure
