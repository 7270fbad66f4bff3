/-
  No cell of these rows narrows 'for every input' (looked for: loops, veiled, ifaces, maps, wideKeys, modest, calm, conditions, laid).
  DERIVED. THE GIVEN ROWS OF THIS SEAT. 7 by the template 'for every input the law returns true; each argument reads behind the call as it read before'; 0 by the template 'total and deterministic' (their statements: YteeclbncpdafcaaTotals.lean).
  GIVEN WITH THE SEED: the statements are not yours to turn. If you find one false, say at which input.
  Laid BY PROGRAM, IN A SANDBOX (cutbox-rows.mjs): the forced cells as the released guide's own fill.sh prints them over the translation f95cef045e197d81… (all of the seat's roots in one cut). By AI agents, Wed Nov 11 2026. No macro, syntax, notation, axiom, sorry.
-/
import Derived.Test.YteeclbncpdafcaaChecked
import GoSem.Claim
import GoSem.ClaimJoined
import GoSem.ClaimMapViews
import Derived.JoinedTies
import Derived.KernelRfl
namespace Go.Proofs.Yteeclbncpdafcaa
/- THE CELL 'sum', in the pinned program and in every row, IS THE sha256 OF THE DUMP (.gsa) THAT YteeclbncpdafcaaProg.lean LOADS. Nothing in Lean hashes anything: it is a label: what it is worth is what the hold of that sum in a sandbox is worth. -/
noncomputable def Try.pinned : Pinned := { name := "yteeclbncpdafcaa", sum := "f95cef045e197d81e6c0b56e465a91328ccfcce694bb21ea4b9756ae7ba626fd", checked := Try.checked }
namespace Rows
def none {H : Type} : Left H := { results := [], args := [] }

/-- 'laws.FnExactIsPattern': WHATEVER THE INPUT: true; the input reads as it did. -/
def fnExactIsPatternSpec : ChangeSpec := { name := "fnExactIsPattern", fn := fun _ => fun
  | [d] => { results := [.lit (.bool true)], args := [d] }
  | _ => none }
def fnExactIsPatternRow : OpenClaim := { program := "yteeclbncpdafcaa", sum := "f95cef045e197d81e6c0b56e465a91328ccfcce694bb21ea4b9756ae7ba626fd", func := "loop.example/g00943/laws.FnExactIsPattern", spec := "fnExactIsPattern", unfollowed := true, recurses := true, apart := false }
def FnExactIsPatternSaid : Prop := fnExactIsPatternRow.holds Try.pinned (OpenSpec.ofChange fnExactIsPatternSpec)

/-- ITS FALSE NEIGHBOUR: 'it returns false'. Refute it at one input. -/
def fnExactIsPatternWrong : ChangeSpec := { name := "fnExactIsPattern", fn := fun _ => fun
  | [d] => { results := [.lit (.bool false)], args := [d] }
  | _ => none }
def FnExactIsPatternWrongFalsely : Prop := fnExactIsPatternRow.holds Try.pinned (OpenSpec.ofChange fnExactIsPatternWrong)

/-- 'laws.FnExactCountColours': WHATEVER THE INPUT: true; the input reads as it did. -/
def fnExactCountColoursSpec : ChangeSpec := { name := "fnExactCountColours", fn := fun _ => fun
  | [d] => { results := [.lit (.bool true)], args := [d] }
  | _ => none }
def fnExactCountColoursRow : OpenClaim := { program := "yteeclbncpdafcaa", sum := "f95cef045e197d81e6c0b56e465a91328ccfcce694bb21ea4b9756ae7ba626fd", func := "loop.example/g00943/laws.FnExactCountColours", spec := "fnExactCountColours", unfollowed := true, recurses := true, apart := false }
def FnExactCountColoursSaid : Prop := fnExactCountColoursRow.holds Try.pinned (OpenSpec.ofChange fnExactCountColoursSpec)

/-- ITS FALSE NEIGHBOUR: 'it returns false'. Refute it at one input. -/
def fnExactCountColoursWrong : ChangeSpec := { name := "fnExactCountColours", fn := fun _ => fun
  | [d] => { results := [.lit (.bool false)], args := [d] }
  | _ => none }
def FnExactCountColoursWrongFalsely : Prop := fnExactCountColoursRow.holds Try.pinned (OpenSpec.ofChange fnExactCountColoursWrong)

/-- 'laws.FnExactCountLean': WHATEVER THE INPUT: true; the input reads as it did. -/
def fnExactCountLeanSpec : ChangeSpec := { name := "fnExactCountLean", fn := fun _ => fun
  | [d1, d2, d3] => { results := [.lit (.bool true)], args := [d1, d2, d3] }
  | _ => none }
def fnExactCountLeanRow : OpenClaim := { program := "yteeclbncpdafcaa", sum := "f95cef045e197d81e6c0b56e465a91328ccfcce694bb21ea4b9756ae7ba626fd", func := "loop.example/g00943/laws.FnExactCountLean", spec := "fnExactCountLean", recurses := true, apart := false }
def FnExactCountLeanSaid : Prop := fnExactCountLeanRow.holds Try.pinned (OpenSpec.ofChange fnExactCountLeanSpec)

/-- ITS FALSE NEIGHBOUR: 'it returns false'. Refute it at one input. -/
def fnExactCountLeanWrong : ChangeSpec := { name := "fnExactCountLean", fn := fun _ => fun
  | [d1, d2, d3] => { results := [.lit (.bool false)], args := [d1, d2, d3] }
  | _ => none }
def FnExactCountLeanWrongFalsely : Prop := fnExactCountLeanRow.holds Try.pinned (OpenSpec.ofChange fnExactCountLeanWrong)

/-- 'laws.FnExactAllShifts': WHATEVER THE INPUT: true; the input reads as it did. -/
def fnExactAllShiftsSpec : ChangeSpec := { name := "fnExactAllShifts", fn := fun _ => fun
  | [d1, d2] => { results := [.lit (.bool true)], args := [d1, d2] }
  | _ => none }
def fnExactAllShiftsRow : OpenClaim := { program := "yteeclbncpdafcaa", sum := "f95cef045e197d81e6c0b56e465a91328ccfcce694bb21ea4b9756ae7ba626fd", func := "loop.example/g00943/laws.FnExactAllShifts", spec := "fnExactAllShifts", apart := false }
def FnExactAllShiftsSaid : Prop := fnExactAllShiftsRow.holds Try.pinned (OpenSpec.ofChange fnExactAllShiftsSpec)

/-- ITS FALSE NEIGHBOUR: 'it returns false'. Refute it at one input. -/
def fnExactAllShiftsWrong : ChangeSpec := { name := "fnExactAllShifts", fn := fun _ => fun
  | [d1, d2] => { results := [.lit (.bool false)], args := [d1, d2] }
  | _ => none }
def FnExactAllShiftsWrongFalsely : Prop := fnExactAllShiftsRow.holds Try.pinned (OpenSpec.ofChange fnExactAllShiftsWrong)

/-- 'laws.FnExactRecolour': WHATEVER THE INPUT: true; the input reads as it did. -/
def fnExactRecolourSpec : ChangeSpec := { name := "fnExactRecolour", fn := fun _ => fun
  | [d1, d2] => { results := [.lit (.bool true)], args := [d1, d2] }
  | _ => none }
def fnExactRecolourRow : OpenClaim := { program := "yteeclbncpdafcaa", sum := "f95cef045e197d81e6c0b56e465a91328ccfcce694bb21ea4b9756ae7ba626fd", func := "loop.example/g00943/laws.FnExactRecolour", spec := "fnExactRecolour", unfollowed := true, recurses := true, apart := false }
def FnExactRecolourSaid : Prop := fnExactRecolourRow.holds Try.pinned (OpenSpec.ofChange fnExactRecolourSpec)

/-- ITS FALSE NEIGHBOUR: 'it returns false'. Refute it at one input. -/
def fnExactRecolourWrong : ChangeSpec := { name := "fnExactRecolour", fn := fun _ => fun
  | [d1, d2] => { results := [.lit (.bool false)], args := [d1, d2] }
  | _ => none }
def FnExactRecolourWrongFalsely : Prop := fnExactRecolourRow.holds Try.pinned (OpenSpec.ofChange fnExactRecolourWrong)

/-- 'laws.FnExactFirstCome': WHATEVER THE INPUT: true; the input reads as it did. -/
def fnExactFirstComeSpec : ChangeSpec := { name := "fnExactFirstCome", fn := fun _ => fun
  | [d] => { results := [.lit (.bool true)], args := [d] }
  | _ => none }
def fnExactFirstComeRow : OpenClaim := { program := "yteeclbncpdafcaa", sum := "f95cef045e197d81e6c0b56e465a91328ccfcce694bb21ea4b9756ae7ba626fd", func := "loop.example/g00943/laws.FnExactFirstCome", spec := "fnExactFirstCome", unfollowed := true, recurses := true, apart := false }
def FnExactFirstComeSaid : Prop := fnExactFirstComeRow.holds Try.pinned (OpenSpec.ofChange fnExactFirstComeSpec)

/-- ITS FALSE NEIGHBOUR: 'it returns false'. Refute it at one input. -/
def fnExactFirstComeWrong : ChangeSpec := { name := "fnExactFirstCome", fn := fun _ => fun
  | [d] => { results := [.lit (.bool false)], args := [d] }
  | _ => none }
def FnExactFirstComeWrongFalsely : Prop := fnExactFirstComeRow.holds Try.pinned (OpenSpec.ofChange fnExactFirstComeWrong)

/-- 'laws.FnExactComparePatterns': WHATEVER THE INPUT: true; the input reads as it did. -/
def fnExactComparePatternsSpec : ChangeSpec := { name := "fnExactComparePatterns", fn := fun _ => fun
  | [d1, d2] => { results := [.lit (.bool true)], args := [d1, d2] }
  | _ => none }
def fnExactComparePatternsRow : OpenClaim := { program := "yteeclbncpdafcaa", sum := "f95cef045e197d81e6c0b56e465a91328ccfcce694bb21ea4b9756ae7ba626fd", func := "loop.example/g00943/laws.FnExactComparePatterns", spec := "fnExactComparePatterns", unfollowed := true, recurses := true, apart := false }
def FnExactComparePatternsSaid : Prop := fnExactComparePatternsRow.holds Try.pinned (OpenSpec.ofChange fnExactComparePatternsSpec)

/-- ITS FALSE NEIGHBOUR: 'it returns false'. Refute it at one input. -/
def fnExactComparePatternsWrong : ChangeSpec := { name := "fnExactComparePatterns", fn := fun _ => fun
  | [d1, d2] => { results := [.lit (.bool false)], args := [d1, d2] }
  | _ => none }
def FnExactComparePatternsWrongFalsely : Prop := fnExactComparePatternsRow.holds Try.pinned (OpenSpec.ofChange fnExactComparePatternsWrong)

/- THE SECOND FORM. 'bulk': how many values and letters a reading holds, each counted each time it is reached (what is shared counts as often as it is met; a slice's spare places count too). A statement '..UptoSaid' is the law's where the arguments, and the package variables that the reading takes, are together of bulk at most 1048576: NARROWER than '..Said'. Prove '..Said' where nothing that the law and all that it calls make is longer than what came in: it says more and counts as full. Else prove '..UptoSaid'. A law counts once. -/
mutual
def uptoBulk {H : Type} : DataW H → Nat
  | .lit (.string bytes) => bytes.length + 1
  | .lit _ => 1
  | .nil => 1
  | .ptr d => uptoBulk d + 1
  | .slice elems spare => uptoBulkAll elems + uptoBulkAll spare + 1
  | .agg parts => uptoBulkAll parts + 1
  | .iface _ d => uptoBulk d + 1
  | .map entries => uptoBulkEntries entries + 1
  | .held _ => 1
def uptoBulkAll {H : Type} : List (DataW H) → Nat
  | [] => 0
  | d :: r => uptoBulk d + uptoBulkAll r
def uptoBulkEntries {H : Type} : List (Lit × DataW H) → Nat
  | [] => 0
  | x :: r => uptoBulkEntry x + uptoBulkEntries r
def uptoBulkEntry {H : Type} : Lit × DataW H → Nat
  | (.string bytes, d) => bytes.length + uptoBulk d + 1
  | (_, d) => uptoBulk d + 1
 end
def uptoSmall : (H : Type) → List (DataW H) → Bool := fun _ ds => decide (uptoBulkAll ds ≤ 1048576)
def OpenSpec.upto (s : _root_.Go.ChangeSpec) : _root_.Go.OpenSpec := { _root_.Go.OpenSpec.ofChange s with cond := some uptoSmall }

/-- 'laws.FnExactIsPattern', WHERE WHAT IT READS IS OF BULK AT MOST 1048576: true; the input reads as it did. -/
def fnExactIsPatternUptoRow : OpenClaim := { program := "yteeclbncpdafcaa", sum := "f95cef045e197d81e6c0b56e465a91328ccfcce694bb21ea4b9756ae7ba626fd", func := "loop.example/g00943/laws.FnExactIsPattern", spec := "fnExactIsPattern", unfollowed := true, recurses := true, apart := false, narrowed := true }
def FnExactIsPatternUptoSaid : Prop := fnExactIsPatternUptoRow.holds Try.pinned (OpenSpec.upto fnExactIsPatternSpec)

/-- 'laws.FnExactCountColours', WHERE WHAT IT READS IS OF BULK AT MOST 1048576: true; the input reads as it did. -/
def fnExactCountColoursUptoRow : OpenClaim := { program := "yteeclbncpdafcaa", sum := "f95cef045e197d81e6c0b56e465a91328ccfcce694bb21ea4b9756ae7ba626fd", func := "loop.example/g00943/laws.FnExactCountColours", spec := "fnExactCountColours", unfollowed := true, recurses := true, apart := false, narrowed := true }
def FnExactCountColoursUptoSaid : Prop := fnExactCountColoursUptoRow.holds Try.pinned (OpenSpec.upto fnExactCountColoursSpec)

/-- 'laws.FnExactCountLean', WHERE WHAT IT READS IS OF BULK AT MOST 1048576: true; the input reads as it did. -/
def fnExactCountLeanUptoRow : OpenClaim := { program := "yteeclbncpdafcaa", sum := "f95cef045e197d81e6c0b56e465a91328ccfcce694bb21ea4b9756ae7ba626fd", func := "loop.example/g00943/laws.FnExactCountLean", spec := "fnExactCountLean", recurses := true, apart := false, narrowed := true }
def FnExactCountLeanUptoSaid : Prop := fnExactCountLeanUptoRow.holds Try.pinned (OpenSpec.upto fnExactCountLeanSpec)

/-- 'laws.FnExactAllShifts', WHERE WHAT IT READS IS OF BULK AT MOST 1048576: true; the input reads as it did. -/
def fnExactAllShiftsUptoRow : OpenClaim := { program := "yteeclbncpdafcaa", sum := "f95cef045e197d81e6c0b56e465a91328ccfcce694bb21ea4b9756ae7ba626fd", func := "loop.example/g00943/laws.FnExactAllShifts", spec := "fnExactAllShifts", apart := false, narrowed := true }
def FnExactAllShiftsUptoSaid : Prop := fnExactAllShiftsUptoRow.holds Try.pinned (OpenSpec.upto fnExactAllShiftsSpec)

/-- 'laws.FnExactRecolour', WHERE WHAT IT READS IS OF BULK AT MOST 1048576: true; the input reads as it did. -/
def fnExactRecolourUptoRow : OpenClaim := { program := "yteeclbncpdafcaa", sum := "f95cef045e197d81e6c0b56e465a91328ccfcce694bb21ea4b9756ae7ba626fd", func := "loop.example/g00943/laws.FnExactRecolour", spec := "fnExactRecolour", unfollowed := true, recurses := true, apart := false, narrowed := true }
def FnExactRecolourUptoSaid : Prop := fnExactRecolourUptoRow.holds Try.pinned (OpenSpec.upto fnExactRecolourSpec)

/-- 'laws.FnExactFirstCome', WHERE WHAT IT READS IS OF BULK AT MOST 1048576: true; the input reads as it did. -/
def fnExactFirstComeUptoRow : OpenClaim := { program := "yteeclbncpdafcaa", sum := "f95cef045e197d81e6c0b56e465a91328ccfcce694bb21ea4b9756ae7ba626fd", func := "loop.example/g00943/laws.FnExactFirstCome", spec := "fnExactFirstCome", unfollowed := true, recurses := true, apart := false, narrowed := true }
def FnExactFirstComeUptoSaid : Prop := fnExactFirstComeUptoRow.holds Try.pinned (OpenSpec.upto fnExactFirstComeSpec)

/-- 'laws.FnExactComparePatterns', WHERE WHAT IT READS IS OF BULK AT MOST 1048576: true; the input reads as it did. -/
def fnExactComparePatternsUptoRow : OpenClaim := { program := "yteeclbncpdafcaa", sum := "f95cef045e197d81e6c0b56e465a91328ccfcce694bb21ea4b9756ae7ba626fd", func := "loop.example/g00943/laws.FnExactComparePatterns", spec := "fnExactComparePatterns", unfollowed := true, recurses := true, apart := false, narrowed := true }
def FnExactComparePatternsUptoSaid : Prop := fnExactComparePatternsUptoRow.holds Try.pinned (OpenSpec.upto fnExactComparePatternsSpec)

end Rows
end Go.Proofs.Yteeclbncpdafcaa
