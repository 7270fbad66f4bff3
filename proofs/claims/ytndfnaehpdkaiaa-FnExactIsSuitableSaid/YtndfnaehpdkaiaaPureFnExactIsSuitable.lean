/- FnExactIsSuitable: the program looks the matrix up among the point matrices that keep the lattice, the reference compares the Hermite form of the images: both answer the same. -/
import Derived.Test.YtndfnaehpdkaiaaAid
import Derived.Test.YtndfnaehpdkaiaaLAPPoints
import Derived.Test.YtndfnaehpdkaiaaPAx10
import Derived.Test.YtndfnaehpdkaiaaPAx15
import Derived.Test.YtndfnaehpdkaiaaPAx8
import Derived.Test.YtndfnaehpdkaiaaPAx9
namespace Go.Proofs.Ytndfnaehpdkaiaa.Pure
open Go.RowKit Go.Proofs.Ytndfnaehpdkaiaa.PA Go.Proofs.YtndfnaehpdkaiaaW.PrintWords Go.Proofs.YtndfnaehpdkaiaaW.PrintLast Go.Proofs.Ytndfnaehpdkaiaa.Aid
open Go.Proofs.Ytndfnaehpdkaiaa.LA
set_option linter.unusedVariables false
set_option linter.unusedSimpArgs false

theorem FnExactIsSuitable : laws_FnExactIsSuitable.Pure := by
  intro fr a b c m0 m1 m2 m3 x y _ _ _ _ _ _ _ _ _ _
  refine ⟨10000000, ?_⟩
  unfold laws_FnExactIsSuitable.f laws_toLattice.f laws_toMotion.f laws_toMat.f laws_toVec.f
  simp only [Option.bind_some]
  rw [spec_IsSuitable_eq _ _ _ _ _ _ _ _ _ _ _ (by omega), impl_IsSuitable_eq _ _ _ _ _ _ _ _ _ _ _ (by omega)]
  simp

end Go.Proofs.Ytndfnaehpdkaiaa.Pure
