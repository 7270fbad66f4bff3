/- FnExactReadPattern: the program reads a pattern's text as the reference does, and results share no memory. -/
import Derived.Test.YtfhbhjlgepjlfaaDoorAid
import Derived.Test.YtfhbhjlgepjlfaaDoorLREPattern
import Derived.Test.YtfhbhjlgepjlfaaDoorLRZvReadpattern
import Derived.Test.YtfhbhjlgepjlfaaDoorPRx5
namespace Go.Proofs.YtfhbhjlgepjlfaaDoor.Pure
open Go.RowKit Go.Proofs.YtfhbhjlgepjlfaaDoor.PR Go.Proofs.YtfhbhjlgepjlfaaDoorW.PrintWords Go.Proofs.YtfhbhjlgepjlfaaDoorW.PrintLast Go.Proofs.YtfhbhjlgepjlfaaDoor.Aid
open Go.Proofs.YtfhbhjlgepjlfaaDoor.LR
set_option linter.unusedVariables false
set_option linter.unusedSimpArgs false

theorem FnExactReadPattern : laws_FnExactReadPattern.Pure := by
  intro s _
  obtain ⟨m, hm⟩ : ∃ m : Nat, m = 4000000 := ⟨_, rfl⟩
  refine ⟨m + 3, ?_⟩
  unfold laws_FnExactReadPattern.f
  by_cases hb : (s.size : Int) > 1048576
  · rw [if_pos hb]
  · rw [if_neg hb]
    obtain ⟨fr, a, b, c, l, e, h1, h2, hl, hr⟩ := ReadPattern_both s (by omega) (k := m + 3) (by omega)
    obtain ⟨fr', a', b', c', l', e', h1', h2', hl', hr'⟩ := ReadPattern_both s (by omega) (k := m + 2) (by omega)
    have hee : (fr', a', b', c', l', e') = (fr, a, b, c, l, e) := by rw [← hr, ← hr']
    simp only [Prod.mk.injEq] at hee
    obtain ⟨rfl, rfl, rfl, rfl, rfl, rfl⟩ := hee
    obtain ⟨x3, m3, m4, m5⟩ := markPattern_eq fr' a' b' c' l' 1 (by omega) (by omega) (k := m + 2) (by omega)
    have m6 := heldPattern_eq fr' a' b' c' x3 1 (by omega) (by omega) (by rw [m4]; exact m5) (k := m + 2) (by omega)
    have m7 := heldPattern_eq fr' a' b' c' x3 1 (by omega) (by omega) (by rw [m4]; exact m5) (k := m + 1) (by omega)
    have n2 : ¬ (1 : Int) + l'.length < 0 := by omega
    have p3 := eqPattern_eq fr' a' b' c' l' fr' a' b' c' l' (by omega) (k := m + 3) (by omega)
    have p2 := eqPattern_eq fr' a' b' c' l' fr' a' b' c' l' (by omega) (k := m + 2) (by omega)
    rw [show ((1 : Nat) : Int) = 1 from rfl] at m3 m6 m7
    simp only [h1, h2, h2', Option.bind_some, p3, p2, decide_true, if_true, bne_self_eq_false, laws_FnExactReadPattern.j0, laws_FnExactReadPattern.j1, Bool.false_eq_true, if_false, and_self, m3, m6, m7, if_neg n2, m4]

end Go.Proofs.YtfhbhjlgepjlfaaDoor.Pure
