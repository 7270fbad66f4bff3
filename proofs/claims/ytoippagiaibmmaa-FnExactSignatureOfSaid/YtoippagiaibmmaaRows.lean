/-
  No cell of these rows narrows 'for every input' (looked for: loops, veiled, ifaces, maps, wideKeys, modest, calm, conditions, laid).
  DERIVED. THE GIVEN ROWS OF THIS SEAT. 7 by the template 'for every input the law returns true; each argument reads behind the call as it read before'; 0 by the template 'total and deterministic' (their statements: YtoippagiaibmmaaTotals.lean).
  GIVEN WITH THE SEED: the statements are not yours to turn. If you find one false, say at which input.
  Laid BY PROGRAM, IN A SANDBOX (cutbox-rows.mjs): the forced cells as the released guide's own fill.sh prints them over the translation 4f396329fbd6723f… (all of the seat's roots in one cut). By AI agents, Wed Nov 11 2026. No macro, syntax, notation, axiom, sorry.
-/
import Derived.Test.YtoippagiaibmmaaChecked
import GoSem.Claim
import GoSem.ClaimJoined
import GoSem.ClaimMapViews
import Derived.JoinedTies
import Derived.KernelRfl
namespace Go.Proofs.Ytoippagiaibmmaa
/- THE CELL 'sum', in the pinned program and in every row, IS THE sha256 OF THE DUMP (.gsa) THAT YtoippagiaibmmaaProg.lean LOADS. Nothing in Lean hashes anything: it is a label: what it is worth is what the hold of that sum in a sandbox is worth. -/
noncomputable def Try.pinned : Pinned := { name := "ytoippagiaibmmaa", sum := "4f396329fbd6723fcbecaa2f7b3b53fcfba72cba95ea56f738398b14d98e7f74", checked := Try.checked }
namespace Rows
def none {H : Type} : Left H := { results := [], args := [] }

/-- 'laws.FnExactPointOrder': WHATEVER THE INPUT: true; the input reads as it did. -/
def fnExactPointOrderSpec : ChangeSpec := { name := "fnExactPointOrder", fn := fun _ => fun
  | [d] => { results := [.lit (.bool true)], args := [d] }
  | _ => none }
def fnExactPointOrderRow : OpenClaim := { program := "ytoippagiaibmmaa", sum := "4f396329fbd6723fcbecaa2f7b3b53fcfba72cba95ea56f738398b14d98e7f74", func := "loop.example/g00943/laws.FnExactPointOrder", spec := "fnExactPointOrder", apart := false }
def FnExactPointOrderSaid : Prop := fnExactPointOrderRow.holds Try.pinned (OpenSpec.ofChange fnExactPointOrderSpec)

/-- ITS FALSE NEIGHBOUR: 'it returns false'. Refute it at one input. -/
def fnExactPointOrderWrong : ChangeSpec := { name := "fnExactPointOrder", fn := fun _ => fun
  | [d] => { results := [.lit (.bool false)], args := [d] }
  | _ => none }
def FnExactPointOrderWrongFalsely : Prop := fnExactPointOrderRow.holds Try.pinned (OpenSpec.ofChange fnExactPointOrderWrong)

/-- 'laws.FnExactNameOfSignature': WHATEVER THE INPUT: true; the input reads as it did. -/
def fnExactNameOfSignatureSpec : ChangeSpec := { name := "fnExactNameOfSignature", fn := fun _ => fun
  | [d] => { results := [.lit (.bool true)], args := [d] }
  | _ => none }
def fnExactNameOfSignatureRow : OpenClaim := { program := "ytoippagiaibmmaa", sum := "4f396329fbd6723fcbecaa2f7b3b53fcfba72cba95ea56f738398b14d98e7f74", func := "loop.example/g00943/laws.FnExactNameOfSignature", spec := "fnExactNameOfSignature", apart := false }
def FnExactNameOfSignatureSaid : Prop := fnExactNameOfSignatureRow.holds Try.pinned (OpenSpec.ofChange fnExactNameOfSignatureSpec)

/-- ITS FALSE NEIGHBOUR: 'it returns false'. Refute it at one input. -/
def fnExactNameOfSignatureWrong : ChangeSpec := { name := "fnExactNameOfSignature", fn := fun _ => fun
  | [d] => { results := [.lit (.bool false)], args := [d] }
  | _ => none }
def FnExactNameOfSignatureWrongFalsely : Prop := fnExactNameOfSignatureRow.holds Try.pinned (OpenSpec.ofChange fnExactNameOfSignatureWrong)

/-- 'laws.FnExactSignatureOf': WHATEVER THE INPUT: true; the input reads as it did. -/
def fnExactSignatureOfSpec : ChangeSpec := { name := "fnExactSignatureOf", fn := fun _ => fun
  | [d] => { results := [.lit (.bool true)], args := [d] }
  | _ => none }
def fnExactSignatureOfRow : OpenClaim := { program := "ytoippagiaibmmaa", sum := "4f396329fbd6723fcbecaa2f7b3b53fcfba72cba95ea56f738398b14d98e7f74", func := "loop.example/g00943/laws.FnExactSignatureOf", spec := "fnExactSignatureOf", apart := false }
def FnExactSignatureOfSaid : Prop := fnExactSignatureOfRow.holds Try.pinned (OpenSpec.ofChange fnExactSignatureOfSpec)

/-- ITS FALSE NEIGHBOUR: 'it returns false'. Refute it at one input. -/
def fnExactSignatureOfWrong : ChangeSpec := { name := "fnExactSignatureOf", fn := fun _ => fun
  | [d] => { results := [.lit (.bool false)], args := [d] }
  | _ => none }
def FnExactSignatureOfWrongFalsely : Prop := fnExactSignatureOfRow.holds Try.pinned (OpenSpec.ofChange fnExactSignatureOfWrong)

/-- 'laws.FnExactGroupNames': WHATEVER THE INPUT: true; the input reads as it did. -/
def fnExactGroupNamesSpec : ChangeSpec := { name := "fnExactGroupNames", fn := fun _ => fun
  | [] => { results := [.lit (.bool true)], args := [] }
  | _ => none }
def fnExactGroupNamesRow : OpenClaim := { program := "ytoippagiaibmmaa", sum := "4f396329fbd6723fcbecaa2f7b3b53fcfba72cba95ea56f738398b14d98e7f74", func := "loop.example/g00943/laws.FnExactGroupNames", spec := "fnExactGroupNames", apart := false }
def FnExactGroupNamesSaid : Prop := fnExactGroupNamesRow.holds Try.pinned (OpenSpec.ofChange fnExactGroupNamesSpec)

/-- ITS FALSE NEIGHBOUR: 'it returns false'. Refute it at one input. -/
def fnExactGroupNamesWrong : ChangeSpec := { name := "fnExactGroupNames", fn := fun _ => fun
  | [] => { results := [.lit (.bool false)], args := [] }
  | _ => none }
def FnExactGroupNamesWrongFalsely : Prop := fnExactGroupNamesRow.holds Try.pinned (OpenSpec.ofChange fnExactGroupNamesWrong)

/-- 'laws.FnExactSignatureCost': WHATEVER THE INPUT: true; the input reads as it did. -/
def fnExactSignatureCostSpec : ChangeSpec := { name := "fnExactSignatureCost", fn := fun _ => fun
  | [d] => { results := [.lit (.bool true)], args := [d] }
  | _ => none }
def fnExactSignatureCostRow : OpenClaim := { program := "ytoippagiaibmmaa", sum := "4f396329fbd6723fcbecaa2f7b3b53fcfba72cba95ea56f738398b14d98e7f74", func := "loop.example/g00943/laws.FnExactSignatureCost", spec := "fnExactSignatureCost", apart := false }
def FnExactSignatureCostSaid : Prop := fnExactSignatureCostRow.holds Try.pinned (OpenSpec.ofChange fnExactSignatureCostSpec)

/-- ITS FALSE NEIGHBOUR: 'it returns false'. Refute it at one input. -/
def fnExactSignatureCostWrong : ChangeSpec := { name := "fnExactSignatureCost", fn := fun _ => fun
  | [d] => { results := [.lit (.bool false)], args := [d] }
  | _ => none }
def FnExactSignatureCostWrongFalsely : Prop := fnExactSignatureCostRow.holds Try.pinned (OpenSpec.ofChange fnExactSignatureCostWrong)

/-- 'laws.FnExactIsFrieze': WHATEVER THE INPUT: true; the input reads as it did. -/
def fnExactIsFriezeSpec : ChangeSpec := { name := "fnExactIsFrieze", fn := fun _ => fun
  | [d] => { results := [.lit (.bool true)], args := [d] }
  | _ => none }
def fnExactIsFriezeRow : OpenClaim := { program := "ytoippagiaibmmaa", sum := "4f396329fbd6723fcbecaa2f7b3b53fcfba72cba95ea56f738398b14d98e7f74", func := "loop.example/g00943/laws.FnExactIsFrieze", spec := "fnExactIsFrieze", unfollowed := true, recurses := true, apart := false }
def FnExactIsFriezeSaid : Prop := fnExactIsFriezeRow.holds Try.pinned (OpenSpec.ofChange fnExactIsFriezeSpec)

/-- ITS FALSE NEIGHBOUR: 'it returns false'. Refute it at one input. -/
def fnExactIsFriezeWrong : ChangeSpec := { name := "fnExactIsFrieze", fn := fun _ => fun
  | [d] => { results := [.lit (.bool false)], args := [d] }
  | _ => none }
def FnExactIsFriezeWrongFalsely : Prop := fnExactIsFriezeRow.holds Try.pinned (OpenSpec.ofChange fnExactIsFriezeWrong)

/-- 'laws.FnExactCountPatterns': WHATEVER THE INPUT: true; the input reads as it did. -/
def fnExactCountPatternsSpec : ChangeSpec := { name := "fnExactCountPatterns", fn := fun _ => fun
  | [d1, d2, d3] => { results := [.lit (.bool true)], args := [d1, d2, d3] }
  | _ => none }
def fnExactCountPatternsRow : OpenClaim := { program := "ytoippagiaibmmaa", sum := "4f396329fbd6723fcbecaa2f7b3b53fcfba72cba95ea56f738398b14d98e7f74", func := "loop.example/g00943/laws.FnExactCountPatterns", spec := "fnExactCountPatterns", apart := false }
def FnExactCountPatternsSaid : Prop := fnExactCountPatternsRow.holds Try.pinned (OpenSpec.ofChange fnExactCountPatternsSpec)

/-- ITS FALSE NEIGHBOUR: 'it returns false'. Refute it at one input. -/
def fnExactCountPatternsWrong : ChangeSpec := { name := "fnExactCountPatterns", fn := fun _ => fun
  | [d1, d2, d3] => { results := [.lit (.bool false)], args := [d1, d2, d3] }
  | _ => none }
def FnExactCountPatternsWrongFalsely : Prop := fnExactCountPatternsRow.holds Try.pinned (OpenSpec.ofChange fnExactCountPatternsWrong)

/- THE SECOND FORM. 'bulk': how many values and letters a reading holds, each counted each time it is reached (what is shared counts as often as it is met; a slice's spare places count too). A statement '..UptoSaid' is the law's where the arguments, and the package variables that the reading takes, are together of bulk at most 1048576: NARROWER than '..Said'. Prove '..Said' where nothing that the law and all that it calls make is longer than what came in: it says more and counts as full. Else prove '..UptoSaid'. A law counts once. -/
mutual
def uptoBulk {H : Type} : DataW H → Nat
  | .lit (.string bytes) => bytes.length + 1
  | .lit _ => 1
  | .nil => 1
  | .ptr d => uptoBulk d + 1
  | .slice elems spare => uptoBulkAll elems + uptoBulkAll spare + 1
  | .agg parts => uptoBulkAll parts + 1
  | .iface _ d => uptoBulk d + 1
  | .map entries => uptoBulkEntries entries + 1
  | .held _ => 1
def uptoBulkAll {H : Type} : List (DataW H) → Nat
  | [] => 0
  | d :: r => uptoBulk d + uptoBulkAll r
def uptoBulkEntries {H : Type} : List (Lit × DataW H) → Nat
  | [] => 0
  | x :: r => uptoBulkEntry x + uptoBulkEntries r
def uptoBulkEntry {H : Type} : Lit × DataW H → Nat
  | (.string bytes, d) => bytes.length + uptoBulk d + 1
  | (_, d) => uptoBulk d + 1
 end
def uptoSmall : (H : Type) → List (DataW H) → Bool := fun _ ds => decide (uptoBulkAll ds ≤ 1048576)
def OpenSpec.upto (s : _root_.Go.ChangeSpec) : _root_.Go.OpenSpec := { _root_.Go.OpenSpec.ofChange s with cond := some uptoSmall }

/-- 'laws.FnExactPointOrder', WHERE WHAT IT READS IS OF BULK AT MOST 1048576: true; the input reads as it did. -/
def fnExactPointOrderUptoRow : OpenClaim := { program := "ytoippagiaibmmaa", sum := "4f396329fbd6723fcbecaa2f7b3b53fcfba72cba95ea56f738398b14d98e7f74", func := "loop.example/g00943/laws.FnExactPointOrder", spec := "fnExactPointOrder", apart := false, narrowed := true }
def FnExactPointOrderUptoSaid : Prop := fnExactPointOrderUptoRow.holds Try.pinned (OpenSpec.upto fnExactPointOrderSpec)

/-- 'laws.FnExactNameOfSignature', WHERE WHAT IT READS IS OF BULK AT MOST 1048576: true; the input reads as it did. -/
def fnExactNameOfSignatureUptoRow : OpenClaim := { program := "ytoippagiaibmmaa", sum := "4f396329fbd6723fcbecaa2f7b3b53fcfba72cba95ea56f738398b14d98e7f74", func := "loop.example/g00943/laws.FnExactNameOfSignature", spec := "fnExactNameOfSignature", apart := false, narrowed := true }
def FnExactNameOfSignatureUptoSaid : Prop := fnExactNameOfSignatureUptoRow.holds Try.pinned (OpenSpec.upto fnExactNameOfSignatureSpec)

/-- 'laws.FnExactSignatureOf', WHERE WHAT IT READS IS OF BULK AT MOST 1048576: true; the input reads as it did. -/
def fnExactSignatureOfUptoRow : OpenClaim := { program := "ytoippagiaibmmaa", sum := "4f396329fbd6723fcbecaa2f7b3b53fcfba72cba95ea56f738398b14d98e7f74", func := "loop.example/g00943/laws.FnExactSignatureOf", spec := "fnExactSignatureOf", apart := false, narrowed := true }
def FnExactSignatureOfUptoSaid : Prop := fnExactSignatureOfUptoRow.holds Try.pinned (OpenSpec.upto fnExactSignatureOfSpec)

/-- 'laws.FnExactGroupNames', WHERE WHAT IT READS IS OF BULK AT MOST 1048576: true; the input reads as it did. -/
def fnExactGroupNamesUptoRow : OpenClaim := { program := "ytoippagiaibmmaa", sum := "4f396329fbd6723fcbecaa2f7b3b53fcfba72cba95ea56f738398b14d98e7f74", func := "loop.example/g00943/laws.FnExactGroupNames", spec := "fnExactGroupNames", apart := false, narrowed := true }
def FnExactGroupNamesUptoSaid : Prop := fnExactGroupNamesUptoRow.holds Try.pinned (OpenSpec.upto fnExactGroupNamesSpec)

/-- 'laws.FnExactSignatureCost', WHERE WHAT IT READS IS OF BULK AT MOST 1048576: true; the input reads as it did. -/
def fnExactSignatureCostUptoRow : OpenClaim := { program := "ytoippagiaibmmaa", sum := "4f396329fbd6723fcbecaa2f7b3b53fcfba72cba95ea56f738398b14d98e7f74", func := "loop.example/g00943/laws.FnExactSignatureCost", spec := "fnExactSignatureCost", apart := false, narrowed := true }
def FnExactSignatureCostUptoSaid : Prop := fnExactSignatureCostUptoRow.holds Try.pinned (OpenSpec.upto fnExactSignatureCostSpec)

/-- 'laws.FnExactIsFrieze', WHERE WHAT IT READS IS OF BULK AT MOST 1048576: true; the input reads as it did. -/
def fnExactIsFriezeUptoRow : OpenClaim := { program := "ytoippagiaibmmaa", sum := "4f396329fbd6723fcbecaa2f7b3b53fcfba72cba95ea56f738398b14d98e7f74", func := "loop.example/g00943/laws.FnExactIsFrieze", spec := "fnExactIsFrieze", unfollowed := true, recurses := true, apart := false, narrowed := true }
def FnExactIsFriezeUptoSaid : Prop := fnExactIsFriezeUptoRow.holds Try.pinned (OpenSpec.upto fnExactIsFriezeSpec)

/-- 'laws.FnExactCountPatterns', WHERE WHAT IT READS IS OF BULK AT MOST 1048576: true; the input reads as it did. -/
def fnExactCountPatternsUptoRow : OpenClaim := { program := "ytoippagiaibmmaa", sum := "4f396329fbd6723fcbecaa2f7b3b53fcfba72cba95ea56f738398b14d98e7f74", func := "loop.example/g00943/laws.FnExactCountPatterns", spec := "fnExactCountPatterns", apart := false, narrowed := true }
def FnExactCountPatternsUptoSaid : Prop := fnExactCountPatternsUptoRow.holds Try.pinned (OpenSpec.upto fnExactCountPatternsSpec)

end Rows
end Go.Proofs.Ytoippagiaibmmaa
