import Derived.Test.YtcchmdodifkloaaWInv
import Derived.Test.YtcchmdodifkloaaWFootNe
namespace Go.Proofs.YtcchmdodifkloaaW.PrintWords
open Go.RowKit
end Go.Proofs.YtcchmdodifkloaaW.PrintWords
namespace Go.Proofs.YtcchmdodifkloaaW.PrintLast
section
variable {ops : Array Oper} {a : Act} {o og : Oper} {g : Nat} {t : Tmp} {u : Bool}
end
end Go.Proofs.YtcchmdodifkloaaW.PrintLast
