/-
  DERIVED. GIVEN WITH THE SEED: THE CARDS: each row of YtnblfcibgokccaaDoorRows.lean that lists a variable, with what it lists TIED to the program's text (the seventh form; the later family's looks); each row that meets fmt, with fmt's text TOLD by the authors' own Lean function (tested against real Go, not proved from fmt's source: count such statements apart). THE CARD IS WHAT COUNTS. Prove the row's statement (the work); the ties are given (YtnblfcibgokccaaDoorTie.lean); close each card by the builder's one call (the guide's Derived/Test/ToyasCard.lean, 'card_holds'). Laid BY PROGRAM, IN A SANDBOX (cutbox-door.mjs). By AI agents, Wed Nov 11 2026. No macro, syntax, notation, axiom, sorry.
-/
import Derived.Test.YtnblfcibgokccaaDoorRows
import GoSem.ClaimSeven
namespace Go.Proofs.YtnblfcibgokccaaDoor
namespace Rows

/-- THE TIED CARD OF 'laws.FnExactFriezeText'. -/
def fnExactFriezeTextCard : Claim7 := { stood := { row := fnExactFriezeTextRow, standIns := [], harness := (true, "70106426933ce65bf264435fe6d57e662bef895c51d073b5382ec64dfbaef523"), looks := false }, kinds := [], alts := [], laidByText := true, laidKinds := [.data, .data, .data], laidTests := true, laidLooks := .later }
def FnExactFriezeTextCardSaid : Prop := Claim7.holds Tryd.pinned (.plain (OpenSpec.ofChange fnExactFriezeTextSpec)) fnExactFriezeTextCard

/-- THE TIED CARD OF 'laws.FnFriezeTexts'. -/
def fnFriezeTextsCard : Claim7 := { stood := { row := fnFriezeTextsRow, standIns := [], harness := (true, "70106426933ce65bf264435fe6d57e662bef895c51d073b5382ec64dfbaef523"), looks := false }, kinds := [], alts := [], laidByText := true, laidKinds := [.data, .data, .data, .data, .pinned], laidTests := true, laidLooks := .later }
def FnFriezeTextsCardSaid : Prop := Claim7.holds Tryd.pinned (.plain (OpenSpec.ofChange fnFriezeTextsSpec)) fnFriezeTextsCard

/-- THE SECOND FORM's CARD OF 'laws.FnExactFriezeText'. -/
def fnExactFriezeTextUptoCard : Claim7 := { stood := { row := fnExactFriezeTextUptoRow, standIns := [], harness := (true, "70106426933ce65bf264435fe6d57e662bef895c51d073b5382ec64dfbaef523"), looks := false }, kinds := [], alts := [], laidByText := true, laidKinds := [.data, .data, .data], laidTests := true, laidLooks := .later }
def FnExactFriezeTextUptoCardSaid : Prop := Claim7.holds Tryd.pinned (.plain (OpenSpec.upto fnExactFriezeTextSpec)) fnExactFriezeTextUptoCard

/-- THE SECOND FORM's CARD OF 'laws.FnFriezeTexts'. -/
def fnFriezeTextsUptoCard : Claim7 := { stood := { row := fnFriezeTextsUptoRow, standIns := [], harness := (true, "70106426933ce65bf264435fe6d57e662bef895c51d073b5382ec64dfbaef523"), looks := false }, kinds := [], alts := [], laidByText := true, laidKinds := [.data, .data, .data, .data, .pinned], laidTests := true, laidLooks := .later }
def FnFriezeTextsUptoCardSaid : Prop := Claim7.holds Tryd.pinned (.plain (OpenSpec.upto fnFriezeTextsSpec)) fnFriezeTextsUptoCard
end Rows
end Go.Proofs.YtnblfcibgokccaaDoor
