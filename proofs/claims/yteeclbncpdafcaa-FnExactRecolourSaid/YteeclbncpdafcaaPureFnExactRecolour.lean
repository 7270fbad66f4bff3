/- FnExactRecolour: the program and the reference recolour a pattern alike; the arguments stay, and results share no memory. -/
import Derived.Test.YteeclbncpdafcaaAid
import Derived.Test.YteeclbncpdafcaaLABLists
import Derived.Test.YteeclbncpdafcaaLAEPattern
import Derived.Test.YteeclbncpdafcaaLAFaRecolour
import Derived.Test.YteeclbncpdafcaaPAx21
import Derived.Test.YteeclbncpdafcaaPAx23
namespace Go.Proofs.Yteeclbncpdafcaa.Pure
open Go.RowKit Go.Proofs.Yteeclbncpdafcaa.PA Go.Proofs.YteeclbncpdafcaaW.PrintWords Go.Proofs.YteeclbncpdafcaaW.PrintLast Go.Proofs.Yteeclbncpdafcaa.Aid
open Go.Proofs.Yteeclbncpdafcaa.LA
set_option linter.unusedVariables false
set_option linter.unusedSimpArgs false

theorem FnExactRecolour : laws_FnExactRecolour.Pure := by
  intro fr a b c l q _ _ _ _ hl _ hq _
  obtain ⟨m, hm⟩ : ∃ m : Nat, m = 1048580 := ⟨_, rfl⟩
  refine ⟨m + 4, ?_⟩
  unfold laws_FnExactRecolour.f
  by_cases hbq : (q.length : Int) > 1048576
  · rw [if_pos hbq]
  rw [if_neg hbq, szPattern_eq _ _ _ _ l _ (by omega) (by omega) hl]
  by_cases hb : (1048576 : Int) < l.length
  · simp [hb]
  · have hl' : (l.length : Int) ≤ 1048576 := by omega
    have hq' : (q.length : Int) ≤ 1048576 := by omega
    have hno : ¬ (1048576 - (l.length : Int)) < 0 := by omega
    obtain ⟨r, h1, h2, hr⟩ := both_Recolour fr a b c l q hl' hq' (k := m + 3) (by omega) (by omega)
    obtain ⟨r', h1', h2', _⟩ := both_Recolour fr a b c l q hl' hq' (k := m + 1) (by omega) (by omega)
    have hee : r' = r := by
      have := at_rounds (fun k => impl_Recolour.mono fr a b c l q k) (show m + 1 + 1 ≤ m + 3 + 1 by omega) h2'
      rw [h2] at this
      simpa [eq_comm] using this
    subst hee
    obtain ⟨f', a', b', c', l', e'⟩ := r'
    obtain ⟨x1, m1, mx1, _⟩ := markPattern_eq fr a b c l 1 hl' (by omega) (k := m + 3) (by omega)
    obtain ⟨x2, m2, _, _⟩ := markInt64S_eq q (1 + l.length) (by omega) (by omega) (k := m + 3) (by omega)
    have hr' : (l'.length : Int) ≤ 64 := hr
    obtain ⟨x3, m3, m4, m5⟩ := markPattern_eq f' a' b' c' l' 1 (by omega) (by omega) (k := m + 2) (by omega)
    have m6 := heldPattern_eq f' a' b' c' x3 1 (by omega) (by omega) (by rw [m4]; exact m5) (k := m + 2) (by omega)
    have m7 := heldPattern_eq f' a' b' c' x3 1 (by omega) (by omega) (by rw [m4]; exact m5) (k := m + 1) (by omega)
    have n1 : ¬ ((1 + l.length : Nat) : Int) + q.length < 0 := by omega
    have n2 : ¬ (1 : Int) + l'.length < 0 := by omega
    have t4 := toPattern_eq fr a b c l hl' (k := m + 4) (by omega)
    have t3 := toPattern_eq fr a b c l hl' (k := m + 3) (by omega)
    have t2 := toPattern_eq fr a b c l hl' (k := m + 2) (by omega)
    have s4 := toInt64S_eq q hq' (k := m + 4) (by omega)
    have s3 := toInt64S_eq q hq' (k := m + 3) (by omega)
    have s2 := toInt64S_eq q hq' (k := m + 2) (by omega)
    have p4 := eqPattern_eq f' a' b' c' l' f' a' b' c' l' (by omega) (k := m + 4) (by omega)
    have p3 := eqPattern_eq f' a' b' c' l' f' a' b' c' l' (by omega) (k := m + 3) (by omega)
    have p2 := eqPattern_eq f' a' b' c' l' f' a' b' c' l' (by omega) (k := m + 2) (by omega)
    have o3 := eqPattern_eq fr a b c l fr a b c l hl' (k := m + 3) (by omega)
    have q3 := eqInt64S_eq q q hq' (k := m + 3) (by omega)
    rw [show ((1 : Nat) : Int) = 1 from rfl] at m1 m3 m6 m7
    rw [show ((1 + l.length : Nat) : Int) = 1 + (l.length : Int) by omega] at m2 n1
    simp only [if_neg hb, Option.bind_some, if_neg hno, t4, t3, t2, s4, s3, s2, h1, h2, p4, p3, p2, o3, q3, decide_true, if_true, bne_self_eq_false, laws_FnExactRecolour.j0, laws_FnExactRecolour.j1, laws_FnExactRecolour.j2, Bool.false_eq_true, if_false, and_self, m1, m2, m3, m6, m7, if_neg n1, if_neg n2, h2', m4]

end Go.Proofs.Yteeclbncpdafcaa.Pure
