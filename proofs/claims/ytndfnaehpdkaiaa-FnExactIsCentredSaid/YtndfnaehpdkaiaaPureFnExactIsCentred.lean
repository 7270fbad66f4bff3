/- FnExactIsCentred: the program and the reference compare the same determinant with the lattice's index. -/
import Derived.Test.YtndfnaehpdkaiaaAid
import Derived.Test.YtndfnaehpdkaiaaLASbCentred
import Derived.Test.YtndfnaehpdkaiaaPAx22
import Derived.Test.YtndfnaehpdkaiaaPAx5
import Derived.Test.YtndfnaehpdkaiaaPAx6
namespace Go.Proofs.Ytndfnaehpdkaiaa.Pure
open Go.RowKit Go.Proofs.Ytndfnaehpdkaiaa.PA Go.Proofs.YtndfnaehpdkaiaaW.PrintWords Go.Proofs.YtndfnaehpdkaiaaW.PrintLast Go.Proofs.Ytndfnaehpdkaiaa.Aid
open Go.Proofs.Ytndfnaehpdkaiaa.LA
set_option linter.unusedVariables false
set_option linter.unusedSimpArgs false

theorem FnExactIsCentred : laws_FnExactIsCentred.Pure := by
  intro fr a b c m0 m1 m2 m3 _ _ _ _ _ _ _ _
  obtain ⟨r, ⟨K1, h1⟩, ⟨K2, h2⟩⟩ := both_IsCentred fr a b c m0 m1 m2 m3
  refine ⟨K1 + K2, ?_⟩
  have g1 := h1 (K1 + K2) (by omega)
  have g2 := h2 (K1 + K2) (by omega)
  dsimp only at g1 g2
  unfold laws_FnExactIsCentred.f laws_toLattice.f laws_toMat.f
  simp only [Option.bind_some, g1, g2]
  simp

end Go.Proofs.Ytndfnaehpdkaiaa.Pure
