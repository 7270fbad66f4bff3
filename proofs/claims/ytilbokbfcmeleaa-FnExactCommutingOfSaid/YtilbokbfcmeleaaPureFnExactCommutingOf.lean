/- FnExactCommutingOf: the program and the reference give the same list; the argument stays; the result shares no memory with the argument or with another result. -/
import Derived.Test.YtilbokbfcmeleaaAid
import Derived.Test.YtilbokbfcmeleaaLAABasic
import Derived.Test.YtilbokbfcmeleaaLANMotions
import Derived.Test.YtilbokbfcmeleaaLAWIsgroup
import Derived.Test.YtilbokbfcmeleaaLAZoCommuting
import Derived.Test.YtilbokbfcmeleaaPAx0
import Derived.Test.YtilbokbfcmeleaaPAx10
import Derived.Test.YtilbokbfcmeleaaPAx15
import Derived.Test.YtilbokbfcmeleaaPAx16
namespace Go.Proofs.Ytilbokbfcmeleaa.Pure
open Go.RowKit Go.Proofs.Ytilbokbfcmeleaa.PA Go.Proofs.YtilbokbfcmeleaaW.PrintWords Go.Proofs.YtilbokbfcmeleaaW.PrintLast Go.Proofs.Ytilbokbfcmeleaa.Aid
open Go.Proofs.Ytilbokbfcmeleaa.LA
set_option linter.unusedVariables false
set_option linter.unusedSimpArgs false

theorem FnExactCommutingOf : laws_FnExactCommutingOf.Pure := by
  intro fr a b c l _ _ _ _ hl _
  by_cases hb : (1048576 : Int) < l.length
  · refine ⟨1, ?_⟩
    unfold laws_FnExactCommutingOf.f
    rw [szMotionS_eq l _ (by omega) (by omega) hl]
    simp [hb]
  · have hl' : (l.length : Int) ≤ 1048576 := by omega
    have hno : ¬ (1048576 - (l.length : Int)) < 0 := by omega
    have hlx : ((l.map cvMo).length : Int) ≤ 1048576 := by rw [List.length_map]; exact hl'
    obtain ⟨⟨z, e⟩, hz, ⟨K1, r1⟩, ⟨K2, r2⟩⟩ := both_CommutingOf fr a b c (l.map cvMo) hlx
    have hz : (z.length : Int) ≤ 1048576 := hz
    obtain ⟨n, hn⟩ : ∃ n : Nat, n = 1048580 + K1 + K2 := ⟨_, rfl⟩
    refine ⟨n + 4, ?_⟩
    have s1 : spec_CommutingOf.f (n + 4) fr a b c (l.map cvMo) = some (z, e) := r1 (n + 4) (by omega)
    have s2 : impl_CommutingOf.f (n + 4) fr a b c (l.map cvMo) = some (z, e) := r2 (n + 4) (by omega)
    have s3 : impl_CommutingOf.f (n + 2) fr a b c (l.map cvMo) = some (z, e) := r2 (n + 2) (by omega)
    have t1 := toMotionS_eq l hl' (k := n + 4) (by omega)
    have t3 := toMotionS_eq l hl' (k := n + 3) (by omega)
    have t5 := toMotionS_eq l hl' (k := n + 2) (by omega)
    have e1 := eqMotionS_refl (l.map cvMo) hlx (k := n + 3) (by omega)
    obtain ⟨x0, m0, _, _⟩ := markMotionS_eq (l.map cvMo) 1 hlx (by omega) (k := n + 3) (by omega)
    obtain ⟨x, m2, m3, m4⟩ := markMotionS_eq z 1 (by omega) (by omega) (k := n + 2) (by omega)
    have m6 := heldMotionS_eq x 1 (by omega) (by omega) (by rw [m3]; exact m4) (k := n + 2) (by omega)
    have m7 := heldMotionS_eq x 1 (by omega) (by omega) (by rw [m3]; exact m4) (k := n + 1) (by omega)
    have p4 := eqMotionS_refl z hz (k := n + 4) (by omega)
    have p3 := eqMotionS_refl z hz (k := n + 3) (by omega)
    have p2 := eqMotionS_refl z hz (k := n + 2) (by omega)
    have n0 : ¬ (1 : Int) + 6 * ((l.map cvMo).length : Int) < 0 := by omega
    have n1 : ¬ (1 : Int) + 6 * z.length < 0 := by omega
    rw [show ((1 : Nat) : Int) = 1 from rfl] at m0 m2 m6 m7
    rw [m3] at m6 m7
    unfold laws_FnExactCommutingOf.f
    rw [szMotionS_eq l _ (by omega) (by omega) hl, if_neg hb, Option.bind_some, if_neg hno]
    simp only [Option.bind_some, toLattice_eq, t1, t3, t5, s1, s2, s3, e1, p4, p3, p2, laws_FnExactCommutingOf.j0, laws_FnExactCommutingOf.j1, laws_FnExactCommutingOf.j2, m0, m2, m6, m7, if_neg n0, if_neg n1, bne_self_eq_false, Bool.false_eq_true, if_false, if_true]

end Go.Proofs.Ytilbokbfcmeleaa.Pure
