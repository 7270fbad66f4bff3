/- FnExactInvariantVec: the program and the reference find the same least vector of the lattice along the axis. -/
import Derived.Test.YtndfnaehpdkaiaaAid
import Derived.Test.YtndfnaehpdkaiaaLARbInvariant
import Derived.Test.YtndfnaehpdkaiaaPAx12
import Derived.Test.YtndfnaehpdkaiaaPAx19
import Derived.Test.YtndfnaehpdkaiaaPAx5
import Derived.Test.YtndfnaehpdkaiaaPAx6
namespace Go.Proofs.Ytndfnaehpdkaiaa.Pure
open Go.RowKit Go.Proofs.Ytndfnaehpdkaiaa.PA Go.Proofs.YtndfnaehpdkaiaaW.PrintWords Go.Proofs.YtndfnaehpdkaiaaW.PrintLast Go.Proofs.Ytndfnaehpdkaiaa.Aid
open Go.Proofs.Ytndfnaehpdkaiaa.LA
set_option linter.unusedVariables false
set_option linter.unusedSimpArgs false

theorem FnExactInvariantVec : laws_FnExactInvariantVec.Pure := by
  intro fr a b c m0 m1 m2 m3 _ _ _ _ _ _ _ _
  obtain ⟨r, ⟨K1, h1⟩, ⟨K2, h2⟩⟩ := both_InvariantVec fr a b c m0 m1 m2 m3
  refine ⟨K1 + K2, ?_⟩
  have g1 := h1 (K1 + K2) (by omega)
  have g2 := h2 (K1 + K2) (by omega)
  dsimp only at g1 g2
  unfold laws_FnExactInvariantVec.f laws_toLattice.f laws_toMat.f
  simp only [Option.bind_some, g1, g2]
  simp [laws_eqVec.f]

end Go.Proofs.Ytndfnaehpdkaiaa.Pure
