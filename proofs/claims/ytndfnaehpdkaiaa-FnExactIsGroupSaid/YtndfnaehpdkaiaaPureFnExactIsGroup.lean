/- FnExactIsGroup: the program keeps the motions in a map, the reference searches the list: both answer the same; the argument stays. -/
import Derived.Test.YtndfnaehpdkaiaaAid
import Derived.Test.YtndfnaehpdkaiaaLBABasic
import Derived.Test.YtndfnaehpdkaiaaLBAbCodes
import Derived.Test.YtndfnaehpdkaiaaLBAdEv
import Derived.Test.YtndfnaehpdkaiaaLBNMotions
import Derived.Test.YtndfnaehpdkaiaaLBWIsgroup
import Derived.Test.YtndfnaehpdkaiaaPBx14
import Derived.Test.YtndfnaehpdkaiaaPBx9
namespace Go.Proofs.Ytndfnaehpdkaiaa.Pure
open Go.RowKit Go.Proofs.Ytndfnaehpdkaiaa.PB Go.Proofs.YtndfnaehpdkaiaaW.PrintWords Go.Proofs.YtndfnaehpdkaiaaW.PrintLast Go.Proofs.Ytndfnaehpdkaiaa.Aid
open Go.Proofs.Ytndfnaehpdkaiaa.LB
set_option linter.unusedVariables false
set_option linter.unusedSimpArgs false

theorem FnExactIsGroup : laws_FnExactIsGroup.Pure := by
  intro fr a b c l _ _ _ _ hl _
  by_cases hb : (1048576 : Int) < l.length
  · refine ⟨1, ?_⟩
    unfold laws_FnExactIsGroup.f
    rw [szMotionS_eq l _ (by omega) (by omega) hl]
    simp [hb]
  · have hl' : (l.length : Int) ≤ 1048576 := by omega
    obtain ⟨r, ⟨K1, r1⟩, r2, r3, -⟩ := isGroup_both fr a b c (l.map cvMo) (by rw [List.length_map]; exact hl')
    have hi : Ev (fun k => impl_IsGroup.f k fr a b c (l.map cvMo)) r := by
      by_cases h : FL fr a b c
      · refine Ev.congr (fun k => ?_) (Ev.some_ (r2 h) fun t => t)
        show impl_IsGroup.f k fr a b c (l.map cvMo) = _
        unfold impl_IsGroup.f
        rw [impl_frameCode_eq, if_pos h, Option.bind_some, if_pos rfl]
      · refine Ev.all (fun k => ?_)
        unfold impl_IsGroup.f
        rw [impl_frameCode_eq, if_neg h, Option.bind_some, if_neg (by decide), r3 h]
    obtain ⟨K2, r4⟩ := hi
    obtain ⟨m, hm⟩ : ∃ m : Nat, m = 1048580 + K1 + K2 := ⟨_, rfl⟩
    refine ⟨m, ?_⟩
    have s1 : spec_IsGroup.f m fr a b c (l.map cvMo) = some r := r1 m (by omega)
    have s2 : impl_IsGroup.f m fr a b c (l.map cvMo) = some r := r4 m (by omega)
    have t1 := toMotionS_eq l hl' (k := m) (by omega)
    have e1 := eqMotionS_refl (l.map cvMo) (by rw [List.length_map]; exact hl') (k := m) (by rw [List.length_map]; omega)
    unfold laws_FnExactIsGroup.f
    rw [szMotionS_eq l _ (by omega) (by omega) hl]
    have hno : ¬ (1048576 - (l.length : Int)) < 0 := by omega
    simp only [if_neg hb, Option.bind_some, if_neg hno, toLattice_eq, t1, s1, s2, e1, bne_self_eq_false, Bool.false_eq_true, if_false, if_true]

end Go.Proofs.Ytndfnaehpdkaiaa.Pure
