/- FnExactAllMotions: the program and the reference list the same motions; the results share no memory. -/
import Derived.Test.YtndfnaehpdkaiaaAid
import Derived.Test.YtndfnaehpdkaiaaLAABasic
import Derived.Test.YtndfnaehpdkaiaaLANMotions
import Derived.Test.YtndfnaehpdkaiaaLAQAllmotions
import Derived.Test.YtndfnaehpdkaiaaPAx15
import Derived.Test.YtndfnaehpdkaiaaPAx16
namespace Go.Proofs.Ytndfnaehpdkaiaa.Pure
open Go.RowKit Go.Proofs.Ytndfnaehpdkaiaa.PA Go.Proofs.YtndfnaehpdkaiaaW.PrintWords Go.Proofs.YtndfnaehpdkaiaaW.PrintLast Go.Proofs.Ytndfnaehpdkaiaa.Aid
open Go.Proofs.Ytndfnaehpdkaiaa.LA
set_option linter.unusedVariables false
set_option linter.unusedSimpArgs false

theorem FnExactAllMotions : laws_FnExactAllMotions.Pure := by
  intro fr a b c _ _ _ _
  obtain ⟨r, hr, ⟨K1, h1'⟩, ⟨K2, h2'⟩⟩ := both_AllMotions fr a b c
  have h1 : ∀ k, K1 ≤ k → spec_AllMotions.f k fr a b c = some r := h1'
  have h2 : ∀ k, K2 ≤ k → impl_AllMotions.f k fr a b c = some r := h2'
  obtain ⟨m, hm⟩ : ∃ m : Nat, m = 1048580 + K1 + K2 := ⟨_, rfl⟩
  refine ⟨m + 4, ?_⟩
  have s1 := h1 (m + 4) (by omega)
  have s2 := h2 (m + 4) (by omega)
  have s3 := h2 (m + 3) (by omega)
  obtain ⟨l, e⟩ := r
  have hr' : (l.length : Int) ≤ 768 := hr
  obtain ⟨x, m1, m2, m3⟩ := markMotionS_eq l 1 (by omega) (by omega) (k := m + 3) (by omega)
  have m6 := heldMotionS_eq x 1 (by omega) (by omega) (by rw [m2]; exact m3) (k := m + 3) (by omega)
  have m7 := heldMotionS_eq x 1 (by omega) (by omega) (by rw [m2]; exact m3) (k := m + 2) (by omega)
  have p4 := eqMotionS_refl l (by omega) (k := m + 4) (by omega)
  have p3 := eqMotionS_refl l (by omega) (k := m + 3) (by omega)
  have n1 : ¬ (1 : Int) + 6 * l.length < 0 := by omega
  rw [show ((1 : Nat) : Int) = 1 from rfl] at m1 m6 m7
  rw [m2] at m6 m7
  simp only [laws_FnExactAllMotions.f, toLattice_eq, Option.bind_some, s1, s2, s3, p4, p3, if_true, bne_self_eq_false, laws_FnExactAllMotions.j0, laws_FnExactAllMotions.j1, Bool.false_eq_true, if_false, m1, m6, m7, if_neg n1]

end Go.Proofs.Ytndfnaehpdkaiaa.Pure
