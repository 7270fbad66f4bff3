/-
  DERIVED. GIVEN WITH THE SEED: THE CARDS: each row of YtkjdndikgekidaaDoorRows.lean that lists a variable, with what it lists TIED to the program's text (the seventh form; the later family's looks); each row that meets fmt, with fmt's text TOLD by the authors' own Lean function (tested against real Go, not proved from fmt's source: count such statements apart). THE CARD IS WHAT COUNTS. Prove the row's statement (the work); the ties are given (YtkjdndikgekidaaDoorTie.lean); close each card by the builder's one call (the guide's Derived/Test/ToyasCard.lean, 'card_holds'). Laid BY PROGRAM, IN A SANDBOX (cutbox-door.mjs). By AI agents, Wed Nov 11 2026. No macro, syntax, notation, axiom, sorry.
-/
import Derived.Test.YtkjdndikgekidaaDoorRows
import GoSem.ClaimSeven
namespace Go.Proofs.YtkjdndikgekidaaDoor
namespace Rows

/-- THE TIED CARD OF 'laws.FnExactNameOfFacts'. -/
def fnExactNameOfFactsCard : Claim7 := { stood := { row := fnExactNameOfFactsRow, standIns := [], harness := (true, "c6e082494af46e99a3e675ec9c53d229b5d909c24214d9abd893f80fabd30d50"), looks := false }, kinds := [], alts := [], laidByText := true, laidKinds := [.data, .data, .data], laidTests := true, laidLooks := .later }
def FnExactNameOfFactsCardSaid : Prop := Claim7.holds Tryd.pinned (.plain (OpenSpec.ofChange fnExactNameOfFactsSpec)) fnExactNameOfFactsCard

/-- THE TIED CARD OF 'laws.FnExactFriezeText'. -/
def fnExactFriezeTextCard : Claim7 := { stood := { row := fnExactFriezeTextRow, standIns := [], harness := (true, "c6e082494af46e99a3e675ec9c53d229b5d909c24214d9abd893f80fabd30d50"), looks := false }, kinds := [], alts := [], laidByText := true, laidKinds := [.data, .data, .data], laidTests := true, laidLooks := .later }
def FnExactFriezeTextCardSaid : Prop := Claim7.holds Tryd.pinned (.plain (OpenSpec.ofChange fnExactFriezeTextSpec)) fnExactFriezeTextCard

/-- THE TIED CARD OF 'laws.FnExactMotionText'. -/
def fnExactMotionTextCard : Claim7 := { stood := { row := fnExactMotionTextRow, standIns := [], harness := (true, "c6e082494af46e99a3e675ec9c53d229b5d909c24214d9abd893f80fabd30d50"), looks := false }, kinds := [], alts := [], laidByText := true, laidKinds := [.data, .data, .data], laidTests := true, laidLooks := .later }
def FnExactMotionTextCardSaid : Prop := Claim7.holds Tryd.pinned (.plain (OpenSpec.ofChange fnExactMotionTextSpec)) fnExactMotionTextCard

/-- THE TIED CARD OF 'laws.FnExactPatternText'. -/
def fnExactPatternTextCard : Claim7 := { stood := { row := fnExactPatternTextRow, standIns := [], harness := (true, "c6e082494af46e99a3e675ec9c53d229b5d909c24214d9abd893f80fabd30d50"), looks := false }, kinds := [], alts := [], laidByText := true, laidKinds := [.data, .data, .data], laidTests := true, laidLooks := .later }
def FnExactPatternTextCardSaid : Prop := Claim7.holds Tryd.pinned (.plain (OpenSpec.ofChange fnExactPatternTextSpec)) fnExactPatternTextCard

/-- THE SECOND FORM's CARD OF 'laws.FnExactNameOfFacts'. -/
def fnExactNameOfFactsUptoCard : Claim7 := { stood := { row := fnExactNameOfFactsUptoRow, standIns := [], harness := (true, "c6e082494af46e99a3e675ec9c53d229b5d909c24214d9abd893f80fabd30d50"), looks := false }, kinds := [], alts := [], laidByText := true, laidKinds := [.data, .data, .data], laidTests := true, laidLooks := .later }
def FnExactNameOfFactsUptoCardSaid : Prop := Claim7.holds Tryd.pinned (.plain (OpenSpec.upto fnExactNameOfFactsSpec)) fnExactNameOfFactsUptoCard

/-- THE SECOND FORM's CARD OF 'laws.FnExactFriezeText'. -/
def fnExactFriezeTextUptoCard : Claim7 := { stood := { row := fnExactFriezeTextUptoRow, standIns := [], harness := (true, "c6e082494af46e99a3e675ec9c53d229b5d909c24214d9abd893f80fabd30d50"), looks := false }, kinds := [], alts := [], laidByText := true, laidKinds := [.data, .data, .data], laidTests := true, laidLooks := .later }
def FnExactFriezeTextUptoCardSaid : Prop := Claim7.holds Tryd.pinned (.plain (OpenSpec.upto fnExactFriezeTextSpec)) fnExactFriezeTextUptoCard

/-- THE SECOND FORM's CARD OF 'laws.FnExactMotionText'. -/
def fnExactMotionTextUptoCard : Claim7 := { stood := { row := fnExactMotionTextUptoRow, standIns := [], harness := (true, "c6e082494af46e99a3e675ec9c53d229b5d909c24214d9abd893f80fabd30d50"), looks := false }, kinds := [], alts := [], laidByText := true, laidKinds := [.data, .data, .data], laidTests := true, laidLooks := .later }
def FnExactMotionTextUptoCardSaid : Prop := Claim7.holds Tryd.pinned (.plain (OpenSpec.upto fnExactMotionTextSpec)) fnExactMotionTextUptoCard

/-- THE SECOND FORM's CARD OF 'laws.FnExactPatternText'. -/
def fnExactPatternTextUptoCard : Claim7 := { stood := { row := fnExactPatternTextUptoRow, standIns := [], harness := (true, "c6e082494af46e99a3e675ec9c53d229b5d909c24214d9abd893f80fabd30d50"), looks := false }, kinds := [], alts := [], laidByText := true, laidKinds := [.data, .data, .data], laidTests := true, laidLooks := .later }
def FnExactPatternTextUptoCardSaid : Prop := Claim7.holds Tryd.pinned (.plain (OpenSpec.upto fnExactPatternTextSpec)) fnExactPatternTextUptoCard
end Rows
end Go.Proofs.YtkjdndikgekidaaDoor
