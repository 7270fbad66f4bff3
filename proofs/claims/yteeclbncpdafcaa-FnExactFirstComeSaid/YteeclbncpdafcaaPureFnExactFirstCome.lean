/- FnExactFirstCome: the program and the reference rename the colours of a pattern in the order in which they first come; the argument stays, and results share no memory. -/
import Derived.Test.YteeclbncpdafcaaAid
import Derived.Test.YteeclbncpdafcaaLAEPattern
import Derived.Test.YteeclbncpdafcaaLAKFirstcome
import Derived.Test.YteeclbncpdafcaaPAx26
import Derived.Test.YteeclbncpdafcaaPAx27
import Derived.Test.YteeclbncpdafcaaPAx28
namespace Go.Proofs.Yteeclbncpdafcaa.Pure
open Go.RowKit Go.Proofs.Yteeclbncpdafcaa.PA Go.Proofs.YteeclbncpdafcaaW.PrintWords Go.Proofs.YteeclbncpdafcaaW.PrintLast Go.Proofs.Yteeclbncpdafcaa.Aid
open Go.Proofs.Yteeclbncpdafcaa.LA
set_option linter.unusedVariables false
set_option linter.unusedSimpArgs false

theorem FnExactFirstCome : laws_FnExactFirstCome.Pure := by
  intro fr a b c l _ _ _ _ hl _
  by_cases hb : (1048576 : Int) < l.length
  · refine ⟨1, ?_⟩
    unfold laws_FnExactFirstCome.f
    rw [szPattern_eq _ _ _ _ l _ (by omega) (by omega) hl]
    simp [hb]
  · have hl' : (l.length : Int) ≤ 1048576 := by omega
    obtain ⟨r, hr, ⟨K1, h1'⟩, ⟨K2, h2'⟩⟩ := both_FirstCome fr a b c l hl'
    have h1 : ∀ k, K1 ≤ k → spec_FirstCome.f k fr a b c l = some r := h1'
    have h2 : ∀ k, K2 ≤ k → impl_FirstCome.f k fr a b c l = some r := h2'
    obtain ⟨m, hm⟩ : ∃ m : Nat, m = 1048580 + K1 + K2 := ⟨_, rfl⟩
    refine ⟨m + 4, ?_⟩
    unfold laws_FnExactFirstCome.f
    rw [szPattern_eq _ _ _ _ l _ (by omega) (by omega) hl]
    have hno : ¬ (1048576 - (l.length : Int)) < 0 := by omega
    have s1 := h1 (m + 4) (by omega)
    have s2 := h2 (m + 4) (by omega)
    have s3 := h2 (m + 2) (by omega)
    obtain ⟨f', a', b', c', l', e'⟩ := r
    have hr' : l'.length ≤ l.length := hr
    obtain ⟨x1, m1, mx1, my1⟩ := markPattern_eq f' a' b' c' l' 1 (by omega) (by omega) (k := m + 3) (by omega)
    obtain ⟨x3, m3, m4, m5⟩ := markPattern_eq f' a' b' c' l' 1 (by omega) (by omega) (k := m + 2) (by omega)
    have m6 := heldPattern_eq f' a' b' c' x3 1 (by omega) (by omega) (by rw [m4]; exact m5) (k := m + 2) (by omega)
    have m7 := heldPattern_eq f' a' b' c' x3 1 (by omega) (by omega) (by rw [m4]; exact m5) (k := m + 1) (by omega)
    have n1 : ¬ (1 : Int) + l'.length < 0 := by omega
    have t4 := toPattern_eq fr a b c l hl' (k := m + 4) (by omega)
    have t3 := toPattern_eq fr a b c l hl' (k := m + 3) (by omega)
    have t2 := toPattern_eq fr a b c l hl' (k := m + 2) (by omega)
    have p4 := eqPattern_eq f' a' b' c' l' f' a' b' c' l' (by omega) (k := m + 4) (by omega)
    have p3 := eqPattern_eq f' a' b' c' l' f' a' b' c' l' (by omega) (k := m + 3) (by omega)
    have p2 := eqPattern_eq f' a' b' c' l' f' a' b' c' l' (by omega) (k := m + 2) (by omega)
    have o3 := eqPattern_eq fr a b c l fr a b c l hl' (k := m + 3) (by omega)
    have z1 := markPattern_eq fr a b c l 1 hl' (by omega) (k := m + 3) (by omega)
    obtain ⟨x9, z1, z2, z3⟩ := z1
    rw [show ((1 : Nat) : Int) = 1 from rfl] at m1 m3 m6 m7 z1
    have n2 : ¬ (1 : Int) + l.length < 0 := by omega
    simp only [if_neg hb, Option.bind_some, if_neg hno, t4, t3, t2, s1, s2, s3, p4, p3, p2, o3, decide_true, if_true, bne_self_eq_false, laws_FnExactFirstCome.j0, laws_FnExactFirstCome.j1, laws_FnExactFirstCome.j2, Bool.false_eq_true, if_false, and_self, m1, m3, m6, m7, z1, if_neg n1, if_neg n2, m4]

end Go.Proofs.Yteeclbncpdafcaa.Pure
