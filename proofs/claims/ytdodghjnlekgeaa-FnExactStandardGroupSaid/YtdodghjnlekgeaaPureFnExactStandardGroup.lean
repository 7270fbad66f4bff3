/- FnExactStandardGroup: the program and the reference give the same frame, lattice, list and code; the result shares no memory with another result. -/
import Derived.Test.YtdodghjnlekgeaaAid
import Derived.Test.YtdodghjnlekgeaaLANMotions
import Derived.Test.YtdodghjnlekgeaaLAZnStandard
import Derived.Test.YtdodghjnlekgeaaPAx11
import Derived.Test.YtdodghjnlekgeaaPAx12
import Derived.Test.YtdodghjnlekgeaaPAx7
namespace Go.Proofs.Ytdodghjnlekgeaa.Pure
open Go.RowKit Go.Proofs.Ytdodghjnlekgeaa.PA Go.Proofs.YtdodghjnlekgeaaW.PrintWords Go.Proofs.YtdodghjnlekgeaaW.PrintLast Go.Proofs.Ytdodghjnlekgeaa.Aid
open Go.Proofs.Ytdodghjnlekgeaa.LA
set_option linter.unusedVariables false
set_option linter.unusedSimpArgs false

theorem FnExactStandardGroup : laws_FnExactStandardGroup.Pure := by
  intro a n _ _
  by_cases hb : (a.size : Int) > 1048576
  · refine ⟨1, ?_⟩
    unfold laws_FnExactStandardGroup.f
    rw [if_pos hb]
  · obtain ⟨⟨fr, p, q, s, z, e⟩, hz, ⟨K1, r1⟩, ⟨K2, r2⟩⟩ := both_StandardGroup a n
    have hz : (z.length : Int) ≤ 1048576 := hz
    obtain ⟨n', hn⟩ : ∃ m : Nat, m = 1048580 + K1 + K2 := ⟨_, rfl⟩
    refine ⟨n' + 2, ?_⟩
    have s1 : spec_StandardGroup.f (n' + 2) a n = some (fr, p, q, s, z, e) := r1 (n' + 2) (by omega)
    have s2 : impl_StandardGroup.f (n' + 2) a n = some (fr, p, q, s, z, e) := r2 (n' + 2) (by omega)
    have s3 : impl_StandardGroup.f (n' + 1) a n = some (fr, p, q, s, z, e) := r2 (n' + 1) (by omega)
    obtain ⟨x, m2, m3, m4⟩ := markMotionS_eq z 1 (by omega) (by omega) (k := n' + 1) (by omega)
    have m6 := heldMotionS_eq x 1 (by omega) (by omega) (by rw [m3]; exact m4) (k := n' + 1) (by omega)
    have m7 := heldMotionS_eq x 1 (by omega) (by omega) (by rw [m3]; exact m4) (k := n') (by omega)
    have p2 := eqMotionS_refl z hz (k := n' + 2) (by omega)
    have p1 := eqMotionS_refl z hz (k := n' + 1) (by omega)
    have n1 : ¬ (1 : Int) + 6 * z.length < 0 := by omega
    rw [show ((1 : Nat) : Int) = 1 from rfl] at m2 m6 m7
    rw [m3] at m6 m7
    have el : laws_eqLattice.f p q s p q s = some true := by unfold laws_eqLattice.f; simp
    unfold laws_FnExactStandardGroup.f
    rw [if_neg hb]
    simp only [Option.bind_some, s1, s2, s3, p2, p1, el, laws_FnExactStandardGroup.j0, laws_FnExactStandardGroup.j1, m2, m6, m7, if_neg n1, bne_self_eq_false, Bool.false_eq_true, if_false, if_true]

end Go.Proofs.Ytdodghjnlekgeaa.Pure
