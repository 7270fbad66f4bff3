/- Plain lemmas on the codes of frames and lattices. -/
import Derived.Test.YtcchmdodifkloaaAid
import Derived.Test.YtcchmdodifkloaaPAx0
import Derived.Test.YtcchmdodifkloaaLAABasic
import Derived.Test.YtcchmdodifkloaaPAx11
import Derived.Test.YtcchmdodifkloaaPAx7
namespace Go.Proofs.Ytcchmdodifkloaa.LA
open Go.RowKit Go.Proofs.Ytcchmdodifkloaa.PA Go.Proofs.YtcchmdodifkloaaW.PrintWords Go.Proofs.YtcchmdodifkloaaW.PrintLast Go.Proofs.Ytcchmdodifkloaa.Aid
set_option linter.unusedVariables false
set_option linter.unusedSimpArgs false

theorem impl_frameCode_eq (fr a b c : Int) : impl_frameCode.f fr a b c = some (if FL fr a b c then 0 else 1) := by
  unfold impl_frameCode.f
  rw [impl_IsFrame_eq, impl_IsLattice_eq]
  simp only [Option.bind_some]
  by_cases h : 0 ≤ fr ∧ fr ≤ 1
  · rw [if_pos (by simp [h])]
    by_cases h2 : Lat a b c
    · simp [FL, h, h2]
    · simp [FL, h2]
  · rw [if_neg (by simpa using h), if_neg (fun x => h x.1)]
theorem spec_l04Code_eq (fr a b c : Int) : spec_l04Code.f fr a b c = some (if FL fr a b c then 0 else 1) := by
  unfold spec_l04Code.f
  rw [spec_IsFrame_eq, spec_IsLattice_eq]
  simp only [Option.bind_some]
  by_cases h : 0 ≤ fr ∧ fr ≤ 1
  · rw [if_pos (by simp [h])]
    by_cases h2 : Lat a b c
    · simp [FL, h, h2]
    · simp [FL, h2]
  · rw [if_neg (by simpa using h), if_neg (fun x => h x.1)]
theorem spec_l06Code_eq (fr a b c : Int) (i : Bool) : spec_l06Code.f fr a b c i = some (if FL fr a b c then (if i = true then 0 else 2) else 1) := by
  unfold spec_l06Code.f
  rw [spec_l04Code_eq]
  by_cases h : FL fr a b c
  · simp only [if_pos h, Option.bind_some]; cases i <;> rfl
  · simp only [if_neg h, Option.bind_some]; rfl

end Go.Proofs.Ytcchmdodifkloaa.LA
