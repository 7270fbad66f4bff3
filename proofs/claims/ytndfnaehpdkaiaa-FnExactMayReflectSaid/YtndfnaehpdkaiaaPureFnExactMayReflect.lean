/- FnExactMayReflect: the greatest common divisor that the program divides by is the reference's step along the axis, at every lattice and reflection (told by a finite reckoning). -/
import Derived.Test.YtndfnaehpdkaiaaAid
import Derived.Test.YtndfnaehpdkaiaaLATMayreflect
import Derived.Test.YtndfnaehpdkaiaaPAx24
import Derived.Test.YtndfnaehpdkaiaaPAx5
import Derived.Test.YtndfnaehpdkaiaaPAx6
import Derived.Test.YtndfnaehpdkaiaaPAx7
namespace Go.Proofs.Ytndfnaehpdkaiaa.Pure
open Go.RowKit Go.Proofs.Ytndfnaehpdkaiaa.PA Go.Proofs.YtndfnaehpdkaiaaW.PrintWords Go.Proofs.YtndfnaehpdkaiaaW.PrintLast Go.Proofs.Ytndfnaehpdkaiaa.Aid
open Go.Proofs.Ytndfnaehpdkaiaa.LA
set_option linter.unusedVariables false
set_option linter.unusedSimpArgs false

theorem FnExactMayReflect : laws_FnExactMayReflect.Pure := by
  intro fr a b c m0 m1 m2 m3 x y _ _ _ _ _ _ _ _ _ _
  obtain ⟨r, ⟨K1, h1⟩, ⟨K2, h2⟩⟩ := both_MayReflect fr a b c m0 m1 m2 m3 x y
  refine ⟨K1 + K2, ?_⟩
  have g1 := h1 (K1 + K2) (by omega)
  have g2 := h2 (K1 + K2) (by omega)
  dsimp only at g1 g2
  unfold laws_FnExactMayReflect.f laws_toLattice.f laws_toMotion.f laws_toMat.f laws_toVec.f
  simp only [Option.bind_some, g1, g2]
  simp

end Go.Proofs.Ytndfnaehpdkaiaa.Pure
