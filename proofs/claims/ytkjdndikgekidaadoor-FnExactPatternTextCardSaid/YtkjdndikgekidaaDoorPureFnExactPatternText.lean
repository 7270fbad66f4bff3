/- FnExactPatternText: the program's text of a pattern, and its code, are the reference's. -/
import Derived.Test.YtkjdndikgekidaaDoorAid
import Derived.Test.YtkjdndikgekidaaDoorLAEPattern
import Derived.Test.YtkjdndikgekidaaDoorLAZqPatterntext
import Derived.Test.YtkjdndikgekidaaDoorPAx1
import Derived.Test.YtkjdndikgekidaaDoorPAx2
import Derived.Test.YtkjdndikgekidaaDoorPAx3
namespace Go.Proofs.YtkjdndikgekidaaDoor.Pure
open Go.RowKit Go.Proofs.YtkjdndikgekidaaDoor.PA Go.Proofs.YtkjdndikgekidaaDoorW.PrintWords Go.Proofs.YtkjdndikgekidaaDoorW.PrintLast Go.Proofs.YtkjdndikgekidaaDoor.Aid
open Go.Proofs.YtkjdndikgekidaaDoor.LA
set_option linter.unusedVariables false
set_option linter.unusedSimpArgs false

theorem FnExactPatternText : laws_FnExactPatternText.Pure := by
  intro fr a b c l _ _ _ _ hl _
  refine ⟨1048580, ?_⟩
  unfold laws_FnExactPatternText.f
  rw [szPattern_eq _ _ _ _ l _ (by omega) (by omega) hl]
  by_cases hb : (1048576 : Int) < l.length
  · simp [hb]
  · have hk : l.length < 1048580 := by omega
    have hk' : l.length < 1048579 := by omega
    have hl' : (l.length : Int) ≤ 1048576 := by omega
    have hno : ¬ (1048576 - (l.length : Int)) < 0 := by omega
    have hend : laws_FnExactPatternText.j0 1048580 false fr a b c l fr a b c l = some true := by
      rw [show (1048580 : Nat) = 1048579 + 1 from rfl]
      simp only [laws_FnExactPatternText.j0, toPattern_eq _ _ _ _ l hl' hk', Option.bind_some, eqPattern_eq _ _ _ _ l _ _ _ _ l hl' hk']
      simp
    have hboth : ∃ s, spec_PatternText.f 1048580 fr a b c l = some s ∧ impl_PatternText.f 1048580 fr a b c l = some s := by
      unfold spec_PatternText.f impl_PatternText.f
      rw [spec_IsPattern_eq _ _ _ _ l hl' hk, impl_IsPattern_eq]
      simp only [Option.bind_some]
      by_cases hp : Pat fr a b c l
      · obtain ⟨s, h1, h2⟩ := patternText_eq fr a b c l hp (k := 1048580) (by omega)
        rw [if_pos (by simpa using hp), if_pos (by simpa using hp), h1, h2]
        exact ⟨_, rfl, rfl⟩
      · rw [if_neg (by simpa using hp), if_neg (by simpa using hp)]
        exact ⟨_, rfl, rfl⟩
    obtain ⟨s, h1, h2⟩ := hboth
    simp only [if_neg hb, Option.bind_some, if_neg hno, toPattern_eq _ _ _ _ l hl' hk, h1, h2, if_pos, bne_self_eq_false]
    exact hend

end Go.Proofs.YtkjdndikgekidaaDoor.Pure
