import Derived.Test.YtfmjboloeabjmaaGreatAid
import Derived.Test.YtfmjboloeabjmaaGreatLAABasic
import Derived.Test.YtfmjboloeabjmaaGreatLANMotions
import Derived.Test.YtfmjboloeabjmaaGreatLAWIsgroup
import Derived.Test.YtfmjboloeabjmaaGreatLAZzjFacts
import Derived.Test.YtfmjboloeabjmaaGreatPAx0
import Derived.Test.YtfmjboloeabjmaaGreatPAx12
import Derived.Test.YtfmjboloeabjmaaGreatPAx21
namespace Go.Proofs.YtfmjboloeabjmaaGreat.Pure
open Go.RowKit Go.Proofs.YtfmjboloeabjmaaGreat.PA Go.Proofs.YtfmjboloeabjmaaGreatW.PrintWords Go.Proofs.YtfmjboloeabjmaaGreatW.PrintLast Go.Proofs.YtfmjboloeabjmaaGreat.Aid
open Go.Proofs.YtfmjboloeabjmaaGreat.LA
set_option linter.unusedVariables false
set_option linter.unusedSimpArgs false
theorem FnExactFactsOf : laws_FnExactFactsOf.Pure := by
  intro fr a b c l _ _ _ _ hl _
  by_cases hb : (1048576 : Int) < l.length
  · refine ⟨1, ?_⟩
    unfold laws_FnExactFactsOf.f
    rw [szMotionS_eq l _ (by omega) (by omega) hl]
    simp [hb]
  · have hl' : (l.length : Int) ≤ 1048576 := by omega
    obtain ⟨⟨x0, x1, x2, x3, x4, x5⟩, ⟨K1, r1⟩, ⟨K2, r2⟩⟩ := both_FactsOf fr a b c (l.map cvMo) (by rw [List.length_map]; exact hl')
    obtain ⟨m, hm⟩ : ∃ m : Nat, m = 1048580 + K1 + K2 := ⟨_, rfl⟩
    refine ⟨m + 1, ?_⟩
    have s1 : spec_FactsOf.f (m + 1) fr a b c (l.map cvMo) = some (x0, x1, x2, x3, x4, x5) := r1 (m + 1) (by omega)
    have s2 : impl_FactsOf.f (m + 1) fr a b c (l.map cvMo) = some (x0, x1, x2, x3, x4, x5) := r2 (m + 1) (by omega)
    have t1 := toMotionS_eq l hl' (k := m + 1) (by omega)
    have t2 := toMotionS_eq l hl' (k := m) (by omega)
    have e1 := eqMotionS_refl (l.map cvMo) (by rw [List.length_map]; exact hl') (k := m) (by rw [List.length_map]; omega)
    have e0 : laws_eqFacts.f x0 x1 x2 x3 x4 x0 x1 x2 x3 x4 = some true := by
      unfold laws_eqFacts.f
      rw [if_pos rfl, if_pos rfl, if_pos rfl, if_pos rfl, if_neg (by simp)]
    unfold laws_FnExactFactsOf.f
    rw [szMotionS_eq l _ (by omega) (by omega) hl]
    have hno : ¬ (1048576 - (l.length : Int)) < 0 := by omega
    simp only [if_neg hb, Option.bind_some, if_neg hno, toLattice_eq, t1, t2, s1, s2, e0, e1, laws_FnExactFactsOf.j0, bne_self_eq_false, Bool.false_eq_true, if_false, if_true]
end Go.Proofs.YtfmjboloeabjmaaGreat.Pure
