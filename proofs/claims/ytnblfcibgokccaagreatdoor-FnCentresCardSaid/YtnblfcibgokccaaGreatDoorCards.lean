/-
  DERIVED. GIVEN WITH THE SEED: THE CARDS: each row of YtnblfcibgokccaaGreatDoorRows.lean that lists a variable, with what it lists TIED to the program's text (the seventh form; the later family's looks); each row that meets fmt, with fmt's text TOLD by the authors' own Lean function (tested against real Go, not proved from fmt's source: count such statements apart). THE CARD IS WHAT COUNTS. Prove the row's statement (the work); the ties are given (YtnblfcibgokccaaGreatDoorTie.lean); close each card by the builder's one call (the guide's Derived/Test/ToyasCard.lean, 'card_holds'). Laid BY PROGRAM, IN A SANDBOX (cutbox-door.mjs). By AI agents, Wed Nov 11 2026. No macro, syntax, notation, axiom, sorry.
-/
import Derived.Test.YtnblfcibgokccaaGreatDoorRows
import GoSem.ClaimSeven
namespace Go.Proofs.YtnblfcibgokccaaGreatDoor
namespace Rows

/-- THE TIED CARD OF 'laws.FnCentres'. -/
def fnCentresCard : Claim7 := { stood := { row := fnCentresRow, standIns := [], harness := (true, "35b2507ab71e8d73b1dd8c268a8b86c6d287bf086099e8d5548f9c85d84bb784"), looks := true }, kinds := [], alts := [], laidByText := true, laidKinds := [.data, .data, .data, .data, .sentinel, .sentinel, .pinned], laidTests := true, laidLooks := .later }
def FnCentresCardSaid : Prop := Claim7.holds Tryz.pinned (.plain (OpenSpec.ofChange fnCentresSpec)) fnCentresCard

/-- THE TIED CARD OF 'laws.FnAxes'. -/
def fnAxesCard : Claim7 := { stood := { row := fnAxesRow, standIns := [], harness := (true, "35b2507ab71e8d73b1dd8c268a8b86c6d287bf086099e8d5548f9c85d84bb784"), looks := true }, kinds := [], alts := [], laidByText := true, laidKinds := [.data, .data, .data, .data, .sentinel, .sentinel, .pinned], laidTests := true, laidLooks := .later }
def FnAxesCardSaid : Prop := Claim7.holds Tryz.pinned (.plain (OpenSpec.ofChange fnAxesSpec)) fnAxesCard

/-- THE TIED CARD OF 'laws.FnPatternTexts'. -/
def fnPatternTextsCard : Claim7 := { stood := { row := fnPatternTextsRow, standIns := [], harness := (true, "35b2507ab71e8d73b1dd8c268a8b86c6d287bf086099e8d5548f9c85d84bb784"), looks := true }, kinds := [], alts := [], laidByText := true, laidKinds := [.data, .data, .data, .data, .sentinel, .sentinel, .pinned], laidTests := true, laidLooks := .later }
def FnPatternTextsCardSaid : Prop := Claim7.holds Tryz.pinned (.plain (OpenSpec.ofChange fnPatternTextsSpec)) fnPatternTextsCard

/-- THE SECOND FORM's CARD OF 'laws.FnCentres'. -/
def fnCentresUptoCard : Claim7 := { stood := { row := fnCentresUptoRow, standIns := [], harness := (true, "35b2507ab71e8d73b1dd8c268a8b86c6d287bf086099e8d5548f9c85d84bb784"), looks := true }, kinds := [], alts := [], laidByText := true, laidKinds := [.data, .data, .data, .data, .sentinel, .sentinel, .pinned], laidTests := true, laidLooks := .later }
def FnCentresUptoCardSaid : Prop := Claim7.holds Tryz.pinned (.plain (OpenSpec.upto fnCentresSpec)) fnCentresUptoCard

/-- THE SECOND FORM's CARD OF 'laws.FnAxes'. -/
def fnAxesUptoCard : Claim7 := { stood := { row := fnAxesUptoRow, standIns := [], harness := (true, "35b2507ab71e8d73b1dd8c268a8b86c6d287bf086099e8d5548f9c85d84bb784"), looks := true }, kinds := [], alts := [], laidByText := true, laidKinds := [.data, .data, .data, .data, .sentinel, .sentinel, .pinned], laidTests := true, laidLooks := .later }
def FnAxesUptoCardSaid : Prop := Claim7.holds Tryz.pinned (.plain (OpenSpec.upto fnAxesSpec)) fnAxesUptoCard

/-- THE SECOND FORM's CARD OF 'laws.FnPatternTexts'. -/
def fnPatternTextsUptoCard : Claim7 := { stood := { row := fnPatternTextsUptoRow, standIns := [], harness := (true, "35b2507ab71e8d73b1dd8c268a8b86c6d287bf086099e8d5548f9c85d84bb784"), looks := true }, kinds := [], alts := [], laidByText := true, laidKinds := [.data, .data, .data, .data, .sentinel, .sentinel, .pinned], laidTests := true, laidLooks := .later }
def FnPatternTextsUptoCardSaid : Prop := Claim7.holds Tryz.pinned (.plain (OpenSpec.upto fnPatternTextsSpec)) fnPatternTextsUptoCard
end Rows
end Go.Proofs.YtnblfcibgokccaaGreatDoor
