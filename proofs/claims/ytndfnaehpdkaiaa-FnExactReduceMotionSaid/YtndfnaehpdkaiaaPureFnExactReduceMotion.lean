/- FnExactReduceMotion: the program and the reference hold the same motions for suitable and reduce them alike. -/
import Derived.Test.YtndfnaehpdkaiaaAid
import Derived.Test.YtndfnaehpdkaiaaLAABasic
import Derived.Test.YtndfnaehpdkaiaaLAAbCodes
import Derived.Test.YtndfnaehpdkaiaaLAAcCodes
import Derived.Test.YtndfnaehpdkaiaaLAGLattice
import Derived.Test.YtndfnaehpdkaiaaLAPPoints
import Derived.Test.YtndfnaehpdkaiaaPAx10
import Derived.Test.YtndfnaehpdkaiaaPAx17
import Derived.Test.YtndfnaehpdkaiaaPAx18
import Derived.Test.YtndfnaehpdkaiaaPAx19
import Derived.Test.YtndfnaehpdkaiaaPAx20
import Derived.Test.YtndfnaehpdkaiaaPAx21
import Derived.Test.YtndfnaehpdkaiaaPAx8
import Derived.Test.YtndfnaehpdkaiaaPAx9
namespace Go.Proofs.Ytndfnaehpdkaiaa.Pure
open Go.RowKit Go.Proofs.Ytndfnaehpdkaiaa.PA Go.Proofs.YtndfnaehpdkaiaaW.PrintWords Go.Proofs.YtndfnaehpdkaiaaW.PrintLast Go.Proofs.Ytndfnaehpdkaiaa.Aid
open Go.Proofs.Ytndfnaehpdkaiaa.LA
set_option linter.unusedVariables false
set_option linter.unusedSimpArgs false

theorem FnExactReduceMotion : laws_FnExactReduceMotion.Pure := by
  intro fr a b c m0 m1 m2 m3 x y _ _ _ _ _ _ _ _ _ _
  refine ⟨10000000, ?_⟩
  unfold laws_FnExactReduceMotion.f laws_toLattice.f laws_toMotion.f laws_toMat.f laws_toVec.f
  simp only [Option.bind_some]
  unfold spec_ReduceMotion.f impl_ReduceMotion.f
  rw [spec_IsSuitable_eq _ _ _ _ _ _ _ _ _ _ _ (by omega), Option.bind_some, spec_l06Code_eq, impl_frameCode_eq]
  by_cases h : FL fr a b c
  · simp only [if_pos h, Option.bind_some, if_true]
    rw [impl_isSuitable_eq h _ _ _ _ _ _ _ (by omega)]
    by_cases hs : Suit fr a b c m0 m1 m2 m3 x y
    · obtain ⟨⟨x1, x2⟩, y1, y2⟩ := hs.2
      have hm : Mod4 a b c x y := h.2.mod4 (by omega) (by omega) (by omega) (by omega)
      simp only [h, hs, and_self, decide_true, if_true, Option.bind_some]
      unfold spec_l06Reduce.f impl_Lattice_reduceMotion.f
      rw [spec_reduce_eq hm, impl_reduce_eq hm]
      simp [laws_eqMotion.f, laws_eqMat.f, laws_eqVec.f]
    · simp [h, hs, laws_eqMotion.f, laws_eqMat.f, laws_eqVec.f]
  · simp [h, laws_eqMotion.f, laws_eqMat.f, laws_eqVec.f]

end Go.Proofs.Ytndfnaehpdkaiaa.Pure
