import Derived.Test.YtdodghjnlekgeaaGreatAid
import Derived.Test.YtdodghjnlekgeaaGreatLAABasic
import Derived.Test.YtdodghjnlekgeaaGreatLANMotions
import Derived.Test.YtdodghjnlekgeaaGreatLAWIsgroup
import Derived.Test.YtdodghjnlekgeaaGreatLAZlSquares
import Derived.Test.YtdodghjnlekgeaaGreatPAx0
import Derived.Test.YtdodghjnlekgeaaGreatPAx21
import Derived.Test.YtdodghjnlekgeaaGreatPAx22
namespace Go.Proofs.YtdodghjnlekgeaaGreat.Pure
open Go.RowKit Go.Proofs.YtdodghjnlekgeaaGreat.PA Go.Proofs.YtdodghjnlekgeaaGreatW.PrintWords Go.Proofs.YtdodghjnlekgeaaGreatW.PrintLast Go.Proofs.YtdodghjnlekgeaaGreat.Aid
open Go.Proofs.YtdodghjnlekgeaaGreat.LA
set_option linter.unusedVariables false
set_option linter.unusedSimpArgs false
theorem FnExactSquaresOf : laws_FnExactSquaresOf.Pure := by
  intro fr a b c l _ _ _ _ hl _
  by_cases hb : (1048576 : Int) < l.length
  · refine ⟨1, ?_⟩
    unfold laws_FnExactSquaresOf.f
    rw [szMotionS_eq l _ (by omega) (by omega) hl]
    simp [hb]
  · have hl' : (l.length : Int) ≤ 1048576 := by omega
    have hno : ¬ (1048576 - (l.length : Int)) < 0 := by omega
    have hlx : ((l.map cvMo).length : Int) ≤ 1048576 := by rw [List.length_map]; exact hl'
    obtain ⟨⟨z, e⟩, hz, ⟨K1, r1⟩, ⟨K2, r2⟩⟩ := both_SquaresOf fr a b c (l.map cvMo) hlx
    have hz : (z.length : Int) ≤ 1048576 := hz
    obtain ⟨n, hn⟩ : ∃ n : Nat, n = 1048580 + K1 + K2 := ⟨_, rfl⟩
    refine ⟨n + 4, ?_⟩
    have s1 : spec_SquaresOf.f (n + 4) fr a b c (l.map cvMo) = some (z, e) := r1 (n + 4) (by omega)
    have s2 : impl_SquaresOf.f (n + 4) fr a b c (l.map cvMo) = some (z, e) := r2 (n + 4) (by omega)
    have s3 : impl_SquaresOf.f (n + 2) fr a b c (l.map cvMo) = some (z, e) := r2 (n + 2) (by omega)
    have t1 := toMotionS_eq l hl' (k := n + 4) (by omega)
    have t3 := toMotionS_eq l hl' (k := n + 3) (by omega)
    have t5 := toMotionS_eq l hl' (k := n + 2) (by omega)
    have e1 := eqMotionS_refl (l.map cvMo) hlx (k := n + 3) (by omega)
    obtain ⟨x0, m0, _, _⟩ := markMotionS_eq (l.map cvMo) 1 hlx (by omega) (k := n + 3) (by omega)
    obtain ⟨x, m2, m3, m4⟩ := markMotionS_eq z 1 (by omega) (by omega) (k := n + 2) (by omega)
    have m6 := heldMotionS_eq x 1 (by omega) (by omega) (by rw [m3]; exact m4) (k := n + 2) (by omega)
    have m7 := heldMotionS_eq x 1 (by omega) (by omega) (by rw [m3]; exact m4) (k := n + 1) (by omega)
    have p4 := eqMotionS_refl z hz (k := n + 4) (by omega)
    have p3 := eqMotionS_refl z hz (k := n + 3) (by omega)
    have p2 := eqMotionS_refl z hz (k := n + 2) (by omega)
    have n0 : ¬ (1 : Int) + 6 * ((l.map cvMo).length : Int) < 0 := by omega
    have n1 : ¬ (1 : Int) + 6 * z.length < 0 := by omega
    rw [show ((1 : Nat) : Int) = 1 from rfl] at m0 m2 m6 m7
    rw [m3] at m6 m7
    unfold laws_FnExactSquaresOf.f
    rw [szMotionS_eq l _ (by omega) (by omega) hl, if_neg hb, Option.bind_some, if_neg hno]
    simp only [Option.bind_some, toLattice_eq, t1, t3, t5, s1, s2, s3, e1, p4, p3, p2, laws_FnExactSquaresOf.j0, laws_FnExactSquaresOf.j1, laws_FnExactSquaresOf.j2, m0, m2, m6, m7, if_neg n0, if_neg n1, bne_self_eq_false, Bool.false_eq_true, if_false, if_true]
end Go.Proofs.YtdodghjnlekgeaaGreat.Pure
