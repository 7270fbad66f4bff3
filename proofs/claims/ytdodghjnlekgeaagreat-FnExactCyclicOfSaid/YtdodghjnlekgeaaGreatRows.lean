/-
  No cell of these rows narrows 'for every input' (looked for: loops, veiled, ifaces, maps, wideKeys, modest, calm, conditions, laid).
  DERIVED. THE GIVEN ROWS OF THIS SEAT. 5 by the template 'for every input the law returns true; each argument reads behind the call as it read before'; 0 by the template 'total and deterministic' (their statements: YtdodghjnlekgeaaGreatTotals.lean).
  GIVEN WITH THE SEED: the statements are not yours to turn. If you find one false, say at which input.
  Laid BY PROGRAM, IN A SANDBOX (cutbox-rows.mjs): the forced cells as the released guide's own fill.sh prints them over the translation 00846ec5c8428d6f… (all of the seat's roots in one cut). By AI agents, Wed Nov 11 2026. No macro, syntax, notation, axiom, sorry.
-/
import Derived.Test.YtdodghjnlekgeaaGreatChecked
import GoSem.Claim
import GoSem.ClaimJoined
import GoSem.ClaimMapViews
import Derived.JoinedTies
import Derived.KernelRfl
namespace Go.Proofs.YtdodghjnlekgeaaGreat
/- THE CELL 'sum', in the pinned program and in every row, IS THE sha256 OF THE DUMP (.gsa) THAT YtdodghjnlekgeaaGreatProg.lean LOADS. Nothing in Lean hashes anything: it is a label: what it is worth is what the hold of that sum in a sandbox is worth. -/
noncomputable def Tryz.pinned : Pinned := { name := "ytdodghjnlekgeaagreat", sum := "00846ec5c8428d6f28f5329cc5c112c5c2a1c90f16117c478cf3e9d97f298bb7", checked := Tryz.checked }
namespace Rows
def none {H : Type} : Left H := { results := [], args := [] }

/-- 'laws.FnExactCloseGroup': WHATEVER THE INPUT: true; the input reads as it did. -/
def fnExactCloseGroupSpec : ChangeSpec := { name := "fnExactCloseGroup", fn := fun _ => fun
  | [d1, d2, d3] => { results := [.lit (.bool true)], args := [d1, d2, d3] }
  | _ => none }
def fnExactCloseGroupRow : OpenClaim := { program := "ytdodghjnlekgeaagreat", sum := "00846ec5c8428d6f28f5329cc5c112c5c2a1c90f16117c478cf3e9d97f298bb7", func := "loop.example/g00943/laws.FnExactCloseGroup", spec := "fnExactCloseGroup", unfollowed := true, recurses := true, plainKeys := false, apart := false }
def FnExactCloseGroupSaid : Prop := fnExactCloseGroupRow.holds Tryz.pinned (OpenSpec.ofChange fnExactCloseGroupSpec)

/-- ITS FALSE NEIGHBOUR: 'it returns false'. Refute it at one input. -/
def fnExactCloseGroupWrong : ChangeSpec := { name := "fnExactCloseGroup", fn := fun _ => fun
  | [d1, d2, d3] => { results := [.lit (.bool false)], args := [d1, d2, d3] }
  | _ => none }
def FnExactCloseGroupWrongFalsely : Prop := fnExactCloseGroupRow.holds Tryz.pinned (OpenSpec.ofChange fnExactCloseGroupWrong)

/-- 'laws.FnExactShiftedGroup': WHATEVER THE INPUT: true; the input reads as it did. -/
def fnExactShiftedGroupSpec : ChangeSpec := { name := "fnExactShiftedGroup", fn := fun _ => fun
  | [d1, d2, d3, d4] => { results := [.lit (.bool true)], args := [d1, d2, d3, d4] }
  | _ => none }
def fnExactShiftedGroupRow : OpenClaim := { program := "ytdodghjnlekgeaagreat", sum := "00846ec5c8428d6f28f5329cc5c112c5c2a1c90f16117c478cf3e9d97f298bb7", func := "loop.example/g00943/laws.FnExactShiftedGroup", spec := "fnExactShiftedGroup", unfollowed := true, recurses := true, plainKeys := false, apart := false }
def FnExactShiftedGroupSaid : Prop := fnExactShiftedGroupRow.holds Tryz.pinned (OpenSpec.ofChange fnExactShiftedGroupSpec)

/-- ITS FALSE NEIGHBOUR: 'it returns false'. Refute it at one input. -/
def fnExactShiftedGroupWrong : ChangeSpec := { name := "fnExactShiftedGroup", fn := fun _ => fun
  | [d1, d2, d3, d4] => { results := [.lit (.bool false)], args := [d1, d2, d3, d4] }
  | _ => none }
def FnExactShiftedGroupWrongFalsely : Prop := fnExactShiftedGroupRow.holds Tryz.pinned (OpenSpec.ofChange fnExactShiftedGroupWrong)

/-- 'laws.FnExactCyclicOf': WHATEVER THE INPUT: true; the input reads as it did. -/
def fnExactCyclicOfSpec : ChangeSpec := { name := "fnExactCyclicOf", fn := fun _ => fun
  | [d1, d2, d3, d4] => { results := [.lit (.bool true)], args := [d1, d2, d3, d4] }
  | _ => none }
def fnExactCyclicOfRow : OpenClaim := { program := "ytdodghjnlekgeaagreat", sum := "00846ec5c8428d6f28f5329cc5c112c5c2a1c90f16117c478cf3e9d97f298bb7", func := "loop.example/g00943/laws.FnExactCyclicOf", spec := "fnExactCyclicOf", unfollowed := true, recurses := true, plainKeys := false, apart := false }
def FnExactCyclicOfSaid : Prop := fnExactCyclicOfRow.holds Tryz.pinned (OpenSpec.ofChange fnExactCyclicOfSpec)

/-- ITS FALSE NEIGHBOUR: 'it returns false'. Refute it at one input. -/
def fnExactCyclicOfWrong : ChangeSpec := { name := "fnExactCyclicOf", fn := fun _ => fun
  | [d1, d2, d3, d4] => { results := [.lit (.bool false)], args := [d1, d2, d3, d4] }
  | _ => none }
def FnExactCyclicOfWrongFalsely : Prop := fnExactCyclicOfRow.holds Tryz.pinned (OpenSpec.ofChange fnExactCyclicOfWrong)

/-- 'laws.FnExactSquaresOf': WHATEVER THE INPUT: true; the input reads as it did. -/
def fnExactSquaresOfSpec : ChangeSpec := { name := "fnExactSquaresOf", fn := fun _ => fun
  | [d1, d2, d3] => { results := [.lit (.bool true)], args := [d1, d2, d3] }
  | _ => none }
def fnExactSquaresOfRow : OpenClaim := { program := "ytdodghjnlekgeaagreat", sum := "00846ec5c8428d6f28f5329cc5c112c5c2a1c90f16117c478cf3e9d97f298bb7", func := "loop.example/g00943/laws.FnExactSquaresOf", spec := "fnExactSquaresOf", unfollowed := true, recurses := true, plainKeys := false, apart := false }
def FnExactSquaresOfSaid : Prop := fnExactSquaresOfRow.holds Tryz.pinned (OpenSpec.ofChange fnExactSquaresOfSpec)

/-- ITS FALSE NEIGHBOUR: 'it returns false'. Refute it at one input. -/
def fnExactSquaresOfWrong : ChangeSpec := { name := "fnExactSquaresOf", fn := fun _ => fun
  | [d1, d2, d3] => { results := [.lit (.bool false)], args := [d1, d2, d3] }
  | _ => none }
def FnExactSquaresOfWrongFalsely : Prop := fnExactSquaresOfRow.holds Tryz.pinned (OpenSpec.ofChange fnExactSquaresOfWrong)

/-- 'laws.FnExactCosetsOf': WHATEVER THE INPUT: true; the input reads as it did. -/
def fnExactCosetsOfSpec : ChangeSpec := { name := "fnExactCosetsOf", fn := fun _ => fun
  | [d1, d2, d3, d4] => { results := [.lit (.bool true)], args := [d1, d2, d3, d4] }
  | _ => none }
def fnExactCosetsOfRow : OpenClaim := { program := "ytdodghjnlekgeaagreat", sum := "00846ec5c8428d6f28f5329cc5c112c5c2a1c90f16117c478cf3e9d97f298bb7", func := "loop.example/g00943/laws.FnExactCosetsOf", spec := "fnExactCosetsOf", unfollowed := true, recurses := true, plainKeys := false, apart := false }
def FnExactCosetsOfSaid : Prop := fnExactCosetsOfRow.holds Tryz.pinned (OpenSpec.ofChange fnExactCosetsOfSpec)

/-- ITS FALSE NEIGHBOUR: 'it returns false'. Refute it at one input. -/
def fnExactCosetsOfWrong : ChangeSpec := { name := "fnExactCosetsOf", fn := fun _ => fun
  | [d1, d2, d3, d4] => { results := [.lit (.bool false)], args := [d1, d2, d3, d4] }
  | _ => none }
def FnExactCosetsOfWrongFalsely : Prop := fnExactCosetsOfRow.holds Tryz.pinned (OpenSpec.ofChange fnExactCosetsOfWrong)

/- THE SECOND FORM. 'bulk': how many values and letters a reading holds, each counted each time it is reached (what is shared counts as often as it is met; a slice's spare places count too). A statement '..UptoSaid' is the law's where the arguments, and the package variables that the reading takes, are together of bulk at most 1048576: NARROWER than '..Said'. Prove '..Said' where nothing that the law and all that it calls make is longer than what came in: it says more and counts as full. Else prove '..UptoSaid'. A law counts once. -/
mutual
def uptoBulk {H : Type} : DataW H → Nat
  | .lit (.string bytes) => bytes.length + 1
  | .lit _ => 1
  | .nil => 1
  | .ptr d => uptoBulk d + 1
  | .slice elems spare => uptoBulkAll elems + uptoBulkAll spare + 1
  | .agg parts => uptoBulkAll parts + 1
  | .iface _ d => uptoBulk d + 1
  | .map entries => uptoBulkEntries entries + 1
  | .held _ => 1
def uptoBulkAll {H : Type} : List (DataW H) → Nat
  | [] => 0
  | d :: r => uptoBulk d + uptoBulkAll r
def uptoBulkEntries {H : Type} : List (Lit × DataW H) → Nat
  | [] => 0
  | x :: r => uptoBulkEntry x + uptoBulkEntries r
def uptoBulkEntry {H : Type} : Lit × DataW H → Nat
  | (.string bytes, d) => bytes.length + uptoBulk d + 1
  | (_, d) => uptoBulk d + 1
 end
def uptoSmall : (H : Type) → List (DataW H) → Bool := fun _ ds => decide (uptoBulkAll ds ≤ 1048576)
def OpenSpec.upto (s : _root_.Go.ChangeSpec) : _root_.Go.OpenSpec := { _root_.Go.OpenSpec.ofChange s with cond := some uptoSmall }

/-- 'laws.FnExactCloseGroup', WHERE WHAT IT READS IS OF BULK AT MOST 1048576: true; the input reads as it did. -/
def fnExactCloseGroupUptoRow : OpenClaim := { program := "ytdodghjnlekgeaagreat", sum := "00846ec5c8428d6f28f5329cc5c112c5c2a1c90f16117c478cf3e9d97f298bb7", func := "loop.example/g00943/laws.FnExactCloseGroup", spec := "fnExactCloseGroup", unfollowed := true, recurses := true, plainKeys := false, apart := false, narrowed := true }
def FnExactCloseGroupUptoSaid : Prop := fnExactCloseGroupUptoRow.holds Tryz.pinned (OpenSpec.upto fnExactCloseGroupSpec)

/-- 'laws.FnExactShiftedGroup', WHERE WHAT IT READS IS OF BULK AT MOST 1048576: true; the input reads as it did. -/
def fnExactShiftedGroupUptoRow : OpenClaim := { program := "ytdodghjnlekgeaagreat", sum := "00846ec5c8428d6f28f5329cc5c112c5c2a1c90f16117c478cf3e9d97f298bb7", func := "loop.example/g00943/laws.FnExactShiftedGroup", spec := "fnExactShiftedGroup", unfollowed := true, recurses := true, plainKeys := false, apart := false, narrowed := true }
def FnExactShiftedGroupUptoSaid : Prop := fnExactShiftedGroupUptoRow.holds Tryz.pinned (OpenSpec.upto fnExactShiftedGroupSpec)

/-- 'laws.FnExactCyclicOf', WHERE WHAT IT READS IS OF BULK AT MOST 1048576: true; the input reads as it did. -/
def fnExactCyclicOfUptoRow : OpenClaim := { program := "ytdodghjnlekgeaagreat", sum := "00846ec5c8428d6f28f5329cc5c112c5c2a1c90f16117c478cf3e9d97f298bb7", func := "loop.example/g00943/laws.FnExactCyclicOf", spec := "fnExactCyclicOf", unfollowed := true, recurses := true, plainKeys := false, apart := false, narrowed := true }
def FnExactCyclicOfUptoSaid : Prop := fnExactCyclicOfUptoRow.holds Tryz.pinned (OpenSpec.upto fnExactCyclicOfSpec)

/-- 'laws.FnExactSquaresOf', WHERE WHAT IT READS IS OF BULK AT MOST 1048576: true; the input reads as it did. -/
def fnExactSquaresOfUptoRow : OpenClaim := { program := "ytdodghjnlekgeaagreat", sum := "00846ec5c8428d6f28f5329cc5c112c5c2a1c90f16117c478cf3e9d97f298bb7", func := "loop.example/g00943/laws.FnExactSquaresOf", spec := "fnExactSquaresOf", unfollowed := true, recurses := true, plainKeys := false, apart := false, narrowed := true }
def FnExactSquaresOfUptoSaid : Prop := fnExactSquaresOfUptoRow.holds Tryz.pinned (OpenSpec.upto fnExactSquaresOfSpec)

/-- 'laws.FnExactCosetsOf', WHERE WHAT IT READS IS OF BULK AT MOST 1048576: true; the input reads as it did. -/
def fnExactCosetsOfUptoRow : OpenClaim := { program := "ytdodghjnlekgeaagreat", sum := "00846ec5c8428d6f28f5329cc5c112c5c2a1c90f16117c478cf3e9d97f298bb7", func := "loop.example/g00943/laws.FnExactCosetsOf", spec := "fnExactCosetsOf", unfollowed := true, recurses := true, plainKeys := false, apart := false, narrowed := true }
def FnExactCosetsOfUptoSaid : Prop := fnExactCosetsOfUptoRow.holds Tryz.pinned (OpenSpec.upto fnExactCosetsOfSpec)

end Rows
end Go.Proofs.YtdodghjnlekgeaaGreat
