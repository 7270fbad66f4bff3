/- FnExactCountCentres: the program counts the classes of centres by a map, the reference by a list in order: the same number and code; the argument stays. -/
import Derived.Test.YtfmjboloeabjmaaAid
import Derived.Test.YtfmjboloeabjmaaLAABasic
import Derived.Test.YtfmjboloeabjmaaLANMotions
import Derived.Test.YtfmjboloeabjmaaLAWIsgroup
import Derived.Test.YtfmjboloeabjmaaLAZzlCencount
import Derived.Test.YtfmjboloeabjmaaPAx0
import Derived.Test.YtfmjboloeabjmaaPAx11
import Derived.Test.YtfmjboloeabjmaaPAx17
import Derived.Test.YtfmjboloeabjmaaPAx18
namespace Go.Proofs.Ytfmjboloeabjmaa.Pure
open Go.RowKit Go.Proofs.Ytfmjboloeabjmaa.PA Go.Proofs.YtfmjboloeabjmaaW.PrintWords Go.Proofs.YtfmjboloeabjmaaW.PrintLast Go.Proofs.Ytfmjboloeabjmaa.Aid
open Go.Proofs.Ytfmjboloeabjmaa.LA
set_option linter.unusedVariables false
set_option linter.unusedSimpArgs false

theorem FnExactCountCentres : laws_FnExactCountCentres.Pure := by
  intro fr a b c l n _ _ _ _ hl _ _
  by_cases hb : (1048576 : Int) < l.length
  · refine ⟨1, ?_⟩
    unfold laws_FnExactCountCentres.f
    rw [szMotionS_eq l _ (by omega) (by omega) hl]
    simp [hb]
  · have hl' : (l.length : Int) ≤ 1048576 := by omega
    obtain ⟨⟨x0, x1⟩, ⟨K1, r1⟩, ⟨K2, r2⟩⟩ := both_CountCentres fr a b c n (l.map cvMo) (by rw [List.length_map]; exact hl')
    obtain ⟨m, hm⟩ : ∃ m : Nat, m = 1048580 + K1 + K2 := ⟨_, rfl⟩
    refine ⟨m + 1, ?_⟩
    have s1 : spec_CountCentres.f (m + 1) fr a b c (l.map cvMo) n = some (x0, x1) := r1 (m + 1) (by omega)
    have s2 : impl_CountCentres.f (m + 1) fr a b c (l.map cvMo) n = some (x0, x1) := r2 (m + 1) (by omega)
    have t1 := toMotionS_eq l hl' (k := m + 1) (by omega)
    have t2 := toMotionS_eq l hl' (k := m) (by omega)
    have e1 := eqMotionS_refl (l.map cvMo) (by rw [List.length_map]; exact hl') (k := m) (by rw [List.length_map]; omega)
    unfold laws_FnExactCountCentres.f
    rw [szMotionS_eq l _ (by omega) (by omega) hl]
    have hno : ¬ (1048576 - (l.length : Int)) < 0 := by omega
    simp only [if_neg hb, Option.bind_some, if_neg hno, toLattice_eq, t1, t2, s1, s2, e1, laws_FnExactCountCentres.j0, bne_self_eq_false, Bool.false_eq_true, if_false, if_true]

end Go.Proofs.Ytfmjboloeabjmaa.Pure
