/- FnExactReadFrieze: the program reads a frieze's text as the reference does, and results share no memory. -/
import Derived.Test.YtfhbhjlgepjlfaaDoorAid
import Derived.Test.YtfhbhjlgepjlfaaDoorLFBLists
import Derived.Test.YtfhbhjlgepjlfaaDoorLFZtRead
import Derived.Test.YtfhbhjlgepjlfaaDoorLFZvReadpattern
import Derived.Test.YtfhbhjlgepjlfaaDoorLFZwReadfrieze
import Derived.Test.YtfhbhjlgepjlfaaDoorPFx2
namespace Go.Proofs.YtfhbhjlgepjlfaaDoor.Pure
open Go.RowKit Go.Proofs.YtfhbhjlgepjlfaaDoor.PF Go.Proofs.YtfhbhjlgepjlfaaDoorW.PrintWords Go.Proofs.YtfhbhjlgepjlfaaDoorW.PrintLast Go.Proofs.YtfhbhjlgepjlfaaDoor.Aid
open Go.Proofs.YtfhbhjlgepjlfaaDoor.LF
set_option linter.unusedVariables false
set_option linter.unusedSimpArgs false

theorem FnExactReadFrieze : laws_FnExactReadFrieze.Pure := by
  intro s _
  obtain ⟨m, hm⟩ : ∃ m : Nat, m = 7000000 := ⟨_, rfl⟩
  refine ⟨m + 3, ?_⟩
  unfold laws_FnExactReadFrieze.f
  by_cases hb : (s.size : Int) > 1048576
  · rw [if_pos hb]
  · rw [if_neg hb]
    have h1 := spec_RF s (by omega) (k := m + 3) (by omega)
    have h2 := impl_RF s (by omega) (k := m + 3) (by omega)
    have h2' := impl_RF s (by omega) (k := m + 2) (by omega)
    have hl : (rdFrz s).2.2.1.length ≤ 144 := by
      unfold rdFrz
      by_cases hc : Frz ((splitL 10 (LB s)).length - 1) (lastW (wds 10 s) 0 0) (cols (splitL 10 (LB s)).dropLast.flatten) ∧ txF (lastW (wds 10 s) 0 0).toNat 0 (cols (splitL 10 (LB s)).dropLast.flatten) = LB s
      · rw [if_pos hc]
        have := frz_mul hc.1.1 hc.1.2.1
        have := hc.1.2.2.1
        show (cols (splitL 10 (LB s)).dropLast.flatten).length ≤ 144
        omega
      · rw [if_neg hc]; simp
    obtain ⟨a, b, l, e, hr⟩ : ∃ a b l e, rdFrz s = (a, b, l, e) := ⟨_, _, _, _, rfl⟩
    rw [hr] at h1 h2 h2' hl
    simp only at hl
    obtain ⟨x3, m3, m4, m5⟩ := markInt64S_eq l 1 (by omega) (by omega) (k := m + 2) (by omega)
    have m6 := heldInt64S_eq x3 1 (by omega) (by omega) (by rw [m4]; exact m5) (k := m + 2) (by omega)
    have m7 := heldInt64S_eq x3 1 (by omega) (by omega) (by rw [m4]; exact m5) (k := m + 1) (by omega)
    have n2 : ¬ (1 : Int) + l.length < 0 := by omega
    have p3 := eqInt64S_eq l l (by omega) (k := m + 3) (by omega)
    have p2 := eqInt64S_eq l l (by omega) (k := m + 2) (by omega)
    rw [show ((1 : Nat) : Int) = 1 from rfl] at m3 m6 m7
    simp only [h1, h2, h2', Option.bind_some, laws_eqFrieze.f, laws_markFrieze.f, laws_heldFrieze.f, p3, p2, decide_true, if_true, bne_self_eq_false, laws_FnExactReadFrieze.j0, laws_FnExactReadFrieze.j1, Bool.false_eq_true, if_false, m3, m6, m7, if_neg n2, m4]

end Go.Proofs.YtfhbhjlgepjlfaaDoor.Pure
