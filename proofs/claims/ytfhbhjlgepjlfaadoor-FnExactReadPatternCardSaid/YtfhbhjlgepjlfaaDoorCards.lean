/-
  DERIVED. GIVEN WITH THE SEED: THE CARDS: each row of YtfhbhjlgepjlfaaDoorRows.lean that lists a variable, with what it lists TIED to the program's text (the seventh form; the later family's looks); each row that meets fmt, with fmt's text TOLD by the authors' own Lean function (tested against real Go, not proved from fmt's source: count such statements apart). THE CARD IS WHAT COUNTS. Prove the row's statement (the work); the ties are given (YtfhbhjlgepjlfaaDoorTie.lean); close each card by the builder's one call (the guide's Derived/Test/ToyasCard.lean, 'card_holds'). Laid BY PROGRAM, IN A SANDBOX (cutbox-door.mjs). By AI agents, Wed Nov 11 2026. No macro, syntax, notation, axiom, sorry.
-/
import Derived.Test.YtfhbhjlgepjlfaaDoorRows
import GoSem.ClaimSeven
namespace Go.Proofs.YtfhbhjlgepjlfaaDoor
namespace Rows

/-- THE TIED CARD OF 'laws.FnExactReadFrieze'. -/
def fnExactReadFriezeCard : Claim7 := { stood := { row := fnExactReadFriezeRow, standIns := [], harness := (true, "12d95ab0c7de724b63da1d4a3c85235dda44452aa4f8f06c5178d9b83d280f87"), looks := true }, kinds := [], alts := [], laidByText := true, laidKinds := [.data, .pinned], laidTests := true, laidLooks := .later }
def FnExactReadFriezeCardSaid : Prop := Claim7.holds Tryd.pinned (.plain (OpenSpec.ofChange fnExactReadFriezeSpec)) fnExactReadFriezeCard

/-- THE TIED CARD OF 'laws.FnExactReadMotion'. -/
def fnExactReadMotionCard : Claim7 := { stood := { row := fnExactReadMotionRow, standIns := [], harness := (true, "12d95ab0c7de724b63da1d4a3c85235dda44452aa4f8f06c5178d9b83d280f87"), looks := true }, kinds := [], alts := [], laidByText := true, laidKinds := [.data, .data, .data, .data, .sentinel, .sentinel, .pinned], laidTests := true, laidLooks := .later }
def FnExactReadMotionCardSaid : Prop := Claim7.holds Tryd.pinned (.plain (OpenSpec.ofChange fnExactReadMotionSpec)) fnExactReadMotionCard

/-- THE TIED CARD OF 'laws.FnExactReadPattern'. -/
def fnExactReadPatternCard : Claim7 := { stood := { row := fnExactReadPatternRow, standIns := [], harness := (true, "12d95ab0c7de724b63da1d4a3c85235dda44452aa4f8f06c5178d9b83d280f87"), looks := true }, kinds := [], alts := [], laidByText := true, laidKinds := [.data, .data, .data, .data, .sentinel, .sentinel, .pinned], laidTests := true, laidLooks := .later }
def FnExactReadPatternCardSaid : Prop := Claim7.holds Tryd.pinned (.plain (OpenSpec.ofChange fnExactReadPatternSpec)) fnExactReadPatternCard

/-- THE SECOND FORM's CARD OF 'laws.FnExactReadFrieze'. -/
def fnExactReadFriezeUptoCard : Claim7 := { stood := { row := fnExactReadFriezeUptoRow, standIns := [], harness := (true, "12d95ab0c7de724b63da1d4a3c85235dda44452aa4f8f06c5178d9b83d280f87"), looks := true }, kinds := [], alts := [], laidByText := true, laidKinds := [.data, .pinned], laidTests := true, laidLooks := .later }
def FnExactReadFriezeUptoCardSaid : Prop := Claim7.holds Tryd.pinned (.plain (OpenSpec.upto fnExactReadFriezeSpec)) fnExactReadFriezeUptoCard

/-- THE SECOND FORM's CARD OF 'laws.FnExactReadMotion'. -/
def fnExactReadMotionUptoCard : Claim7 := { stood := { row := fnExactReadMotionUptoRow, standIns := [], harness := (true, "12d95ab0c7de724b63da1d4a3c85235dda44452aa4f8f06c5178d9b83d280f87"), looks := true }, kinds := [], alts := [], laidByText := true, laidKinds := [.data, .data, .data, .data, .sentinel, .sentinel, .pinned], laidTests := true, laidLooks := .later }
def FnExactReadMotionUptoCardSaid : Prop := Claim7.holds Tryd.pinned (.plain (OpenSpec.upto fnExactReadMotionSpec)) fnExactReadMotionUptoCard

/-- THE SECOND FORM's CARD OF 'laws.FnExactReadPattern'. -/
def fnExactReadPatternUptoCard : Claim7 := { stood := { row := fnExactReadPatternUptoRow, standIns := [], harness := (true, "12d95ab0c7de724b63da1d4a3c85235dda44452aa4f8f06c5178d9b83d280f87"), looks := true }, kinds := [], alts := [], laidByText := true, laidKinds := [.data, .data, .data, .data, .sentinel, .sentinel, .pinned], laidTests := true, laidLooks := .later }
def FnExactReadPatternUptoCardSaid : Prop := Claim7.holds Tryd.pinned (.plain (OpenSpec.upto fnExactReadPatternSpec)) fnExactReadPatternUptoCard
end Rows
end Go.Proofs.YtfhbhjlgepjlfaaDoor
