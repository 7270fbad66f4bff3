/- FnExactShiftsOf: the program and the reference give the same list; the argument stays; the result shares no memory with the argument or with another result. -/
import Derived.Test.YtcchmdodifkloaaAid
import Derived.Test.YtcchmdodifkloaaLAABasic
import Derived.Test.YtcchmdodifkloaaLANMotions
import Derived.Test.YtcchmdodifkloaaLANaVecs
import Derived.Test.YtcchmdodifkloaaLAWIsgroup
import Derived.Test.YtcchmdodifkloaaLAZShifts
import Derived.Test.YtcchmdodifkloaaPAx17
import Derived.Test.YtcchmdodifkloaaPAx18
namespace Go.Proofs.Ytcchmdodifkloaa.Pure
open Go.RowKit Go.Proofs.Ytcchmdodifkloaa.PA Go.Proofs.YtcchmdodifkloaaW.PrintWords Go.Proofs.YtcchmdodifkloaaW.PrintLast Go.Proofs.Ytcchmdodifkloaa.Aid
open Go.Proofs.Ytcchmdodifkloaa.LA
set_option linter.unusedVariables false
set_option linter.unusedSimpArgs false

theorem FnExactShiftsOf : laws_FnExactShiftsOf.Pure := by
  intro fr a b c l _ _ _ _ hl _
  by_cases hb : (1048576 : Int) < l.length
  · refine ⟨1, ?_⟩
    unfold laws_FnExactShiftsOf.f
    rw [szMotionS_eq l _ (by omega) (by omega) hl]
    simp [hb]
  · have hl' : (l.length : Int) ≤ 1048576 := by omega
    have hlm : ((l.map cvMo).length : Int) ≤ 1048576 := by rw [List.length_map]; exact hl'
    obtain ⟨⟨z, e⟩, hr, ⟨K1, r1⟩, ⟨K2, r2⟩⟩ := both_ShiftsOf fr a b c (l.map cvMo) hlm
    have hz : (z.length : Int) ≤ 1048576 := hr
    obtain ⟨m, hm⟩ : ∃ m : Nat, m = 1048580 + K1 + K2 := ⟨_, rfl⟩
    refine ⟨m + 4, ?_⟩
    have s1 : spec_ShiftsOf.f (m + 4) fr a b c (l.map cvMo) = some (z, e) := r1 (m + 4) (by omega)
    have s2 : impl_ShiftsOf.f (m + 4) fr a b c (l.map cvMo) = some (z, e) := r2 (m + 4) (by omega)
    have s3 : impl_ShiftsOf.f (m + 2) fr a b c (l.map cvMo) = some (z, e) := r2 (m + 2) (by omega)
    have t1 := toMotionS_eq l hl' (k := m + 4) (by omega)
    have t2 := toMotionS_eq l hl' (k := m + 3) (by omega)
    have t3 := toMotionS_eq l hl' (k := m + 2) (by omega)
    have e1 := eqMotionS_refl (l.map cvMo) hlm (k := m + 3) (by omega)
    obtain ⟨x0, m0, _, _⟩ := markMotionS_eq (l.map cvMo) 1 hlm (by omega) (k := m + 3) (by omega)
    obtain ⟨x, m1, m2, m3⟩ := markVecS_eq z 1 (by omega) (by omega) (k := m + 2) (by omega)
    have m6 := heldVecS_eq x 1 (by omega) (by omega) (by rw [m2]; exact m3) (k := m + 2) (by omega)
    have m7 := heldVecS_eq x 1 (by omega) (by omega) (by rw [m2]; exact m3) (k := m + 1) (by omega)
    have p4 := eqVecS_refl z (by omega) (k := m + 4) (by omega)
    have p3 := eqVecS_refl z (by omega) (k := m + 3) (by omega)
    have p2 := eqVecS_refl z (by omega) (k := m + 2) (by omega)
    have n0 : ¬ (1 : Int) + 6 * ((l.map cvMo).length : Int) < 0 := by omega
    have n1 : ¬ (1 : Int) + 2 * z.length < 0 := by omega
    rw [show ((1 : Nat) : Int) = 1 from rfl] at m0 m1 m6 m7
    rw [m2] at m6 m7
    unfold laws_FnExactShiftsOf.f
    rw [szMotionS_eq l _ (by omega) (by omega) hl]
    have hno : ¬ (1048576 - (l.length : Int)) < 0 := by omega
    simp only [if_neg hb, Option.bind_some, if_neg hno, toLattice_eq, t1, t2, t3, s1, s2, s3, e1, p4, p3, p2, laws_FnExactShiftsOf.j0, laws_FnExactShiftsOf.j1, laws_FnExactShiftsOf.j2, m0, m1, m6, m7, if_neg n0, if_neg n1, bne_self_eq_false, Bool.false_eq_true, if_false, if_true]

end Go.Proofs.Ytcchmdodifkloaa.Pure
