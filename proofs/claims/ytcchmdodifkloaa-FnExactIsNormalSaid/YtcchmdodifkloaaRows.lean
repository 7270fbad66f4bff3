/-
  No cell of these rows narrows 'for every input' (looked for: loops, veiled, ifaces, maps, wideKeys, modest, calm, conditions, laid).
  DERIVED. THE GIVEN ROWS OF THIS SEAT. 5 by the template 'for every input the law returns true; each argument reads behind the call as it read before'; 0 by the template 'total and deterministic' (their statements: YtcchmdodifkloaaTotals.lean).
  GIVEN WITH THE SEED: the statements are not yours to turn. If you find one false, say at which input.
  Laid BY PROGRAM, IN A SANDBOX (cutbox-rows.mjs): the forced cells as the released guide's own fill.sh prints them over the translation 6eb6b0fc64a1a1bb… (all of the seat's roots in one cut). By AI agents, Wed Nov 11 2026. No macro, syntax, notation, axiom, sorry.
-/
import Derived.Test.YtcchmdodifkloaaChecked
import GoSem.Claim
import GoSem.ClaimJoined
import GoSem.ClaimMapViews
import Derived.JoinedTies
import Derived.KernelRfl
namespace Go.Proofs.Ytcchmdodifkloaa
/- THE CELL 'sum', in the pinned program and in every row, IS THE sha256 OF THE DUMP (.gsa) THAT YtcchmdodifkloaaProg.lean LOADS. Nothing in Lean hashes anything: it is a label: what it is worth is what the hold of that sum in a sandbox is worth. -/
noncomputable def Try.pinned : Pinned := { name := "ytcchmdodifkloaa", sum := "6eb6b0fc64a1a1bb2432f9c67638069f8f3a62ff8371fdfddc0f3bbd30d56e2d", checked := Try.checked }
namespace Rows
def none {H : Type} : Left H := { results := [], args := [] }

/-- 'laws.FnExactIsSubgroup': WHATEVER THE INPUT: true; the input reads as it did. -/
def fnExactIsSubgroupSpec : ChangeSpec := { name := "fnExactIsSubgroup", fn := fun _ => fun
  | [d1, d2, d3, d4] => { results := [.lit (.bool true)], args := [d1, d2, d3, d4] }
  | _ => none }
def fnExactIsSubgroupRow : OpenClaim := { program := "ytcchmdodifkloaa", sum := "6eb6b0fc64a1a1bb2432f9c67638069f8f3a62ff8371fdfddc0f3bbd30d56e2d", func := "loop.example/g00943/laws.FnExactIsSubgroup", spec := "fnExactIsSubgroup", unfollowed := true, recurses := true, plainKeys := false, apart := false }
def FnExactIsSubgroupSaid : Prop := fnExactIsSubgroupRow.holds Try.pinned (OpenSpec.ofChange fnExactIsSubgroupSpec)

/-- ITS FALSE NEIGHBOUR: 'it returns false'. Refute it at one input. -/
def fnExactIsSubgroupWrong : ChangeSpec := { name := "fnExactIsSubgroup", fn := fun _ => fun
  | [d1, d2, d3, d4] => { results := [.lit (.bool false)], args := [d1, d2, d3, d4] }
  | _ => none }
def FnExactIsSubgroupWrongFalsely : Prop := fnExactIsSubgroupRow.holds Try.pinned (OpenSpec.ofChange fnExactIsSubgroupWrong)

/-- 'laws.FnExactRotationOrder': WHATEVER THE INPUT: true; the input reads as it did. -/
def fnExactRotationOrderSpec : ChangeSpec := { name := "fnExactRotationOrder", fn := fun _ => fun
  | [d1, d2, d3] => { results := [.lit (.bool true)], args := [d1, d2, d3] }
  | _ => none }
def fnExactRotationOrderRow : OpenClaim := { program := "ytcchmdodifkloaa", sum := "6eb6b0fc64a1a1bb2432f9c67638069f8f3a62ff8371fdfddc0f3bbd30d56e2d", func := "loop.example/g00943/laws.FnExactRotationOrder", spec := "fnExactRotationOrder", unfollowed := true, recurses := true, plainKeys := false, apart := false }
def FnExactRotationOrderSaid : Prop := fnExactRotationOrderRow.holds Try.pinned (OpenSpec.ofChange fnExactRotationOrderSpec)

/-- ITS FALSE NEIGHBOUR: 'it returns false'. Refute it at one input. -/
def fnExactRotationOrderWrong : ChangeSpec := { name := "fnExactRotationOrder", fn := fun _ => fun
  | [d1, d2, d3] => { results := [.lit (.bool false)], args := [d1, d2, d3] }
  | _ => none }
def FnExactRotationOrderWrongFalsely : Prop := fnExactRotationOrderRow.holds Try.pinned (OpenSpec.ofChange fnExactRotationOrderWrong)

/-- 'laws.FnExactShiftsOf': WHATEVER THE INPUT: true; the input reads as it did. -/
def fnExactShiftsOfSpec : ChangeSpec := { name := "fnExactShiftsOf", fn := fun _ => fun
  | [d1, d2, d3] => { results := [.lit (.bool true)], args := [d1, d2, d3] }
  | _ => none }
def fnExactShiftsOfRow : OpenClaim := { program := "ytcchmdodifkloaa", sum := "6eb6b0fc64a1a1bb2432f9c67638069f8f3a62ff8371fdfddc0f3bbd30d56e2d", func := "loop.example/g00943/laws.FnExactShiftsOf", spec := "fnExactShiftsOf", unfollowed := true, recurses := true, plainKeys := false, apart := false }
def FnExactShiftsOfSaid : Prop := fnExactShiftsOfRow.holds Try.pinned (OpenSpec.ofChange fnExactShiftsOfSpec)

/-- ITS FALSE NEIGHBOUR: 'it returns false'. Refute it at one input. -/
def fnExactShiftsOfWrong : ChangeSpec := { name := "fnExactShiftsOf", fn := fun _ => fun
  | [d1, d2, d3] => { results := [.lit (.bool false)], args := [d1, d2, d3] }
  | _ => none }
def FnExactShiftsOfWrongFalsely : Prop := fnExactShiftsOfRow.holds Try.pinned (OpenSpec.ofChange fnExactShiftsOfWrong)

/-- 'laws.FnExactIsNormal': WHATEVER THE INPUT: true; the input reads as it did. -/
def fnExactIsNormalSpec : ChangeSpec := { name := "fnExactIsNormal", fn := fun _ => fun
  | [d1, d2, d3, d4] => { results := [.lit (.bool true)], args := [d1, d2, d3, d4] }
  | _ => none }
def fnExactIsNormalRow : OpenClaim := { program := "ytcchmdodifkloaa", sum := "6eb6b0fc64a1a1bb2432f9c67638069f8f3a62ff8371fdfddc0f3bbd30d56e2d", func := "loop.example/g00943/laws.FnExactIsNormal", spec := "fnExactIsNormal", unfollowed := true, recurses := true, plainKeys := false, apart := false }
def FnExactIsNormalSaid : Prop := fnExactIsNormalRow.holds Try.pinned (OpenSpec.ofChange fnExactIsNormalSpec)

/-- ITS FALSE NEIGHBOUR: 'it returns false'. Refute it at one input. -/
def fnExactIsNormalWrong : ChangeSpec := { name := "fnExactIsNormal", fn := fun _ => fun
  | [d1, d2, d3, d4] => { results := [.lit (.bool false)], args := [d1, d2, d3, d4] }
  | _ => none }
def FnExactIsNormalWrongFalsely : Prop := fnExactIsNormalRow.holds Try.pinned (OpenSpec.ofChange fnExactIsNormalWrong)

/-- 'laws.FnExactPointPart': WHATEVER THE INPUT: true; the input reads as it did. -/
def fnExactPointPartSpec : ChangeSpec := { name := "fnExactPointPart", fn := fun _ => fun
  | [d1, d2, d3] => { results := [.lit (.bool true)], args := [d1, d2, d3] }
  | _ => none }
def fnExactPointPartRow : OpenClaim := { program := "ytcchmdodifkloaa", sum := "6eb6b0fc64a1a1bb2432f9c67638069f8f3a62ff8371fdfddc0f3bbd30d56e2d", func := "loop.example/g00943/laws.FnExactPointPart", spec := "fnExactPointPart", unfollowed := true, recurses := true, plainKeys := false, apart := false }
def FnExactPointPartSaid : Prop := fnExactPointPartRow.holds Try.pinned (OpenSpec.ofChange fnExactPointPartSpec)

/-- ITS FALSE NEIGHBOUR: 'it returns false'. Refute it at one input. -/
def fnExactPointPartWrong : ChangeSpec := { name := "fnExactPointPart", fn := fun _ => fun
  | [d1, d2, d3] => { results := [.lit (.bool false)], args := [d1, d2, d3] }
  | _ => none }
def FnExactPointPartWrongFalsely : Prop := fnExactPointPartRow.holds Try.pinned (OpenSpec.ofChange fnExactPointPartWrong)

/- THE SECOND FORM. 'bulk': how many values and letters a reading holds, each counted each time it is reached (what is shared counts as often as it is met; a slice's spare places count too). A statement '..UptoSaid' is the law's where the arguments, and the package variables that the reading takes, are together of bulk at most 1048576: NARROWER than '..Said'. Prove '..Said' where nothing that the law and all that it calls make is longer than what came in: it says more and counts as full. Else prove '..UptoSaid'. A law counts once. -/
mutual
def uptoBulk {H : Type} : DataW H → Nat
  | .lit (.string bytes) => bytes.length + 1
  | .lit _ => 1
  | .nil => 1
  | .ptr d => uptoBulk d + 1
  | .slice elems spare => uptoBulkAll elems + uptoBulkAll spare + 1
  | .agg parts => uptoBulkAll parts + 1
  | .iface _ d => uptoBulk d + 1
  | .map entries => uptoBulkEntries entries + 1
  | .held _ => 1
def uptoBulkAll {H : Type} : List (DataW H) → Nat
  | [] => 0
  | d :: r => uptoBulk d + uptoBulkAll r
def uptoBulkEntries {H : Type} : List (Lit × DataW H) → Nat
  | [] => 0
  | x :: r => uptoBulkEntry x + uptoBulkEntries r
def uptoBulkEntry {H : Type} : Lit × DataW H → Nat
  | (.string bytes, d) => bytes.length + uptoBulk d + 1
  | (_, d) => uptoBulk d + 1
 end
def uptoSmall : (H : Type) → List (DataW H) → Bool := fun _ ds => decide (uptoBulkAll ds ≤ 1048576)
def OpenSpec.upto (s : _root_.Go.ChangeSpec) : _root_.Go.OpenSpec := { _root_.Go.OpenSpec.ofChange s with cond := some uptoSmall }

/-- 'laws.FnExactIsSubgroup', WHERE WHAT IT READS IS OF BULK AT MOST 1048576: true; the input reads as it did. -/
def fnExactIsSubgroupUptoRow : OpenClaim := { program := "ytcchmdodifkloaa", sum := "6eb6b0fc64a1a1bb2432f9c67638069f8f3a62ff8371fdfddc0f3bbd30d56e2d", func := "loop.example/g00943/laws.FnExactIsSubgroup", spec := "fnExactIsSubgroup", unfollowed := true, recurses := true, plainKeys := false, apart := false, narrowed := true }
def FnExactIsSubgroupUptoSaid : Prop := fnExactIsSubgroupUptoRow.holds Try.pinned (OpenSpec.upto fnExactIsSubgroupSpec)

/-- 'laws.FnExactRotationOrder', WHERE WHAT IT READS IS OF BULK AT MOST 1048576: true; the input reads as it did. -/
def fnExactRotationOrderUptoRow : OpenClaim := { program := "ytcchmdodifkloaa", sum := "6eb6b0fc64a1a1bb2432f9c67638069f8f3a62ff8371fdfddc0f3bbd30d56e2d", func := "loop.example/g00943/laws.FnExactRotationOrder", spec := "fnExactRotationOrder", unfollowed := true, recurses := true, plainKeys := false, apart := false, narrowed := true }
def FnExactRotationOrderUptoSaid : Prop := fnExactRotationOrderUptoRow.holds Try.pinned (OpenSpec.upto fnExactRotationOrderSpec)

/-- 'laws.FnExactShiftsOf', WHERE WHAT IT READS IS OF BULK AT MOST 1048576: true; the input reads as it did. -/
def fnExactShiftsOfUptoRow : OpenClaim := { program := "ytcchmdodifkloaa", sum := "6eb6b0fc64a1a1bb2432f9c67638069f8f3a62ff8371fdfddc0f3bbd30d56e2d", func := "loop.example/g00943/laws.FnExactShiftsOf", spec := "fnExactShiftsOf", unfollowed := true, recurses := true, plainKeys := false, apart := false, narrowed := true }
def FnExactShiftsOfUptoSaid : Prop := fnExactShiftsOfUptoRow.holds Try.pinned (OpenSpec.upto fnExactShiftsOfSpec)

/-- 'laws.FnExactIsNormal', WHERE WHAT IT READS IS OF BULK AT MOST 1048576: true; the input reads as it did. -/
def fnExactIsNormalUptoRow : OpenClaim := { program := "ytcchmdodifkloaa", sum := "6eb6b0fc64a1a1bb2432f9c67638069f8f3a62ff8371fdfddc0f3bbd30d56e2d", func := "loop.example/g00943/laws.FnExactIsNormal", spec := "fnExactIsNormal", unfollowed := true, recurses := true, plainKeys := false, apart := false, narrowed := true }
def FnExactIsNormalUptoSaid : Prop := fnExactIsNormalUptoRow.holds Try.pinned (OpenSpec.upto fnExactIsNormalSpec)

/-- 'laws.FnExactPointPart', WHERE WHAT IT READS IS OF BULK AT MOST 1048576: true; the input reads as it did. -/
def fnExactPointPartUptoRow : OpenClaim := { program := "ytcchmdodifkloaa", sum := "6eb6b0fc64a1a1bb2432f9c67638069f8f3a62ff8371fdfddc0f3bbd30d56e2d", func := "loop.example/g00943/laws.FnExactPointPart", spec := "fnExactPointPart", unfollowed := true, recurses := true, plainKeys := false, apart := false, narrowed := true }
def FnExactPointPartUptoSaid : Prop := fnExactPointPartUptoRow.holds Try.pinned (OpenSpec.upto fnExactPointPartSpec)

end Rows
end Go.Proofs.Ytcchmdodifkloaa
