/- A plain lemma on a code. -/
import Derived.Test.YtndfnaehpdkaiaaAid
import Derived.Test.YtndfnaehpdkaiaaPAx0
import Derived.Test.YtndfnaehpdkaiaaLAABasic
import Derived.Test.YtndfnaehpdkaiaaLAAbCodes
import Derived.Test.YtndfnaehpdkaiaaPAx16
namespace Go.Proofs.Ytndfnaehpdkaiaa.LA
open Go.RowKit Go.Proofs.Ytndfnaehpdkaiaa.PA Go.Proofs.YtndfnaehpdkaiaaW.PrintWords Go.Proofs.YtndfnaehpdkaiaaW.PrintLast Go.Proofs.Ytndfnaehpdkaiaa.Aid
set_option linter.unusedVariables false
set_option linter.unusedSimpArgs false

theorem spec_l06Code_eq (fr a b c : Int) (i : Bool) : spec_l06Code.f fr a b c i = some (if FL fr a b c then (if i = true then 0 else 2) else 1) := by
  unfold spec_l06Code.f
  rw [spec_l04Code_eq]
  by_cases h : FL fr a b c
  · simp only [if_pos h, Option.bind_some]; cases i <;> rfl
  · simp only [if_neg h, Option.bind_some]; rfl

end Go.Proofs.Ytndfnaehpdkaiaa.LA
