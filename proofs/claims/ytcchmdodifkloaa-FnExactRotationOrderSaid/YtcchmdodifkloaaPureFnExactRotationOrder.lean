/- FnExactRotationOrder: the program tells a matrix's order by its trace, the reference by its powers: the same for every point matrix; the argument stays. -/
import Derived.Test.YtcchmdodifkloaaAid
import Derived.Test.YtcchmdodifkloaaLAABasic
import Derived.Test.YtcchmdodifkloaaLANMotions
import Derived.Test.YtcchmdodifkloaaLAWIsgroup
import Derived.Test.YtcchmdodifkloaaLAYRotation
import Derived.Test.YtcchmdodifkloaaPAx20
namespace Go.Proofs.Ytcchmdodifkloaa.Pure
open Go.RowKit Go.Proofs.Ytcchmdodifkloaa.PA Go.Proofs.YtcchmdodifkloaaW.PrintWords Go.Proofs.YtcchmdodifkloaaW.PrintLast Go.Proofs.Ytcchmdodifkloaa.Aid
open Go.Proofs.Ytcchmdodifkloaa.LA
set_option linter.unusedVariables false
set_option linter.unusedSimpArgs false

theorem FnExactRotationOrder : laws_FnExactRotationOrder.Pure := by
  intro fr a b c l _ _ _ _ hl _
  by_cases hb : (1048576 : Int) < l.length
  · refine ⟨1, ?_⟩
    unfold laws_FnExactRotationOrder.f
    rw [szMotionS_eq l _ (by omega) (by omega) hl]
    simp [hb]
  · have hl' : (l.length : Int) ≤ 1048576 := by omega
    obtain ⟨r, ⟨K1, r1⟩, ⟨K2, r2⟩⟩ := both_RotationOrder fr a b c (l.map cvMo) (by rw [List.length_map]; exact hl')
    obtain ⟨m, hm⟩ : ∃ m : Nat, m = 1048580 + K1 + K2 := ⟨_, rfl⟩
    refine ⟨m + 1, ?_⟩
    have s1 : spec_RotationOrder.f (m + 1) fr a b c (l.map cvMo) = some r := r1 (m + 1) (by omega)
    have s2 : impl_RotationOrder.f (m + 1) fr a b c (l.map cvMo) = some r := r2 (m + 1) (by omega)
    have t1 := toMotionS_eq l hl' (k := m + 1) (by omega)
    have t2 := toMotionS_eq l hl' (k := m) (by omega)
    have e1 := eqMotionS_refl (l.map cvMo) (by rw [List.length_map]; exact hl') (k := m) (by rw [List.length_map]; omega)
    unfold laws_FnExactRotationOrder.f
    rw [szMotionS_eq l _ (by omega) (by omega) hl]
    have hno : ¬ (1048576 - (l.length : Int)) < 0 := by omega
    simp only [if_neg hb, Option.bind_some, if_neg hno, toLattice_eq, t1, t2, s1, s2, e1, laws_FnExactRotationOrder.j0, bne_self_eq_false, Bool.false_eq_true, if_false, if_true]

end Go.Proofs.Ytcchmdodifkloaa.Pure
