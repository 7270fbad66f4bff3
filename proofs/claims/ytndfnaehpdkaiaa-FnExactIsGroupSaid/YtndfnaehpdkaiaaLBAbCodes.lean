/- Plain lemmas on the codes of frames and lattices. -/
import Derived.Test.YtndfnaehpdkaiaaAid
import Derived.Test.YtndfnaehpdkaiaaPBx0
import Derived.Test.YtndfnaehpdkaiaaLBABasic
import Derived.Test.YtndfnaehpdkaiaaPBx10
import Derived.Test.YtndfnaehpdkaiaaPBx5
namespace Go.Proofs.Ytndfnaehpdkaiaa.LB
open Go.RowKit Go.Proofs.Ytndfnaehpdkaiaa.PB Go.Proofs.YtndfnaehpdkaiaaW.PrintWords Go.Proofs.YtndfnaehpdkaiaaW.PrintLast Go.Proofs.Ytndfnaehpdkaiaa.Aid
set_option linter.unusedVariables false
set_option linter.unusedSimpArgs false

theorem impl_frameCode_eq (fr a b c : Int) : impl_frameCode.f fr a b c = some (if FL fr a b c then 0 else 1) := by
  unfold impl_frameCode.f
  rw [impl_IsFrame_eq, impl_IsLattice_eq]
  simp only [Option.bind_some]
  by_cases h : 0 ≤ fr ∧ fr ≤ 1
  · rw [if_pos (by simp [h])]
    by_cases h2 : Lat a b c
    · simp [FL, h, h2]
    · simp [FL, h2]
  · rw [if_neg (by simpa using h), if_neg (fun x => h x.1)]
theorem spec_l04Code_eq (fr a b c : Int) : spec_l04Code.f fr a b c = some (if FL fr a b c then 0 else 1) := by
  unfold spec_l04Code.f
  rw [spec_IsFrame_eq, spec_IsLattice_eq]
  simp only [Option.bind_some]
  by_cases h : 0 ≤ fr ∧ fr ≤ 1
  · rw [if_pos (by simp [h])]
    by_cases h2 : Lat a b c
    · simp [FL, h, h2]
    · simp [FL, h2]
  · rw [if_neg (by simpa using h), if_neg (fun x => h x.1)]
end Go.Proofs.Ytndfnaehpdkaiaa.LB
