/-
  DERIVED. GIVEN WITH THE SEED: THE CARDS: each row of YtekhobchfhhofaaGreatDoorRows.lean that lists a variable, with what it lists TIED to the program's text (the seventh form; the later family's looks); each row that meets fmt, with fmt's text TOLD by the authors' own Lean function (tested against real Go, not proved from fmt's source: count such statements apart). THE CARD IS WHAT COUNTS. Prove the row's statement (the work); the ties are given (YtekhobchfhhofaaGreatDoorTie.lean); close each card by the builder's one call (the guide's Derived/Test/ToyasCard.lean, 'card_holds'). Laid BY PROGRAM, IN A SANDBOX (cutbox-door.mjs). By AI agents, Wed Nov 11 2026. No macro, syntax, notation, axiom, sorry.
-/
import Derived.Test.YtekhobchfhhofaaGreatDoorRows
import GoSem.ClaimSeven
namespace Go.Proofs.YtekhobchfhhofaaGreatDoor
namespace Rows

/-- THE TIED CARD OF 'chaselaw1.LettersCalled'. -/
def lettersCalledCard : Claim7 := { stood := { row := lettersCalledRow, standIns := [], harness := (true, "a0cbe165add24bf2407fc457d8b6a08d13240a44d2cf6c4a70ea35bb9ad7f4ab"), looks := false }, kinds := [], alts := [], laidByText := true, laidKinds := [.data, .listed, .data, .pinned], laidTests := true, laidLooks := .later }
def LettersCalledCardSaid : Prop := Claim7.holds Tryz.pinned (.plain (OpenSpec.ofChange lettersCalledSpec)) lettersCalledCard

/-- THE TIED CARD OF 'chaselaw1.ForestsGrown'. -/
def forestsGrownCard : Claim7 := { stood := { row := forestsGrownRow, standIns := [], harness := (true, "a0cbe165add24bf2407fc457d8b6a08d13240a44d2cf6c4a70ea35bb9ad7f4ab"), looks := false }, kinds := [], alts := [], laidByText := true, laidKinds := [.data, .listed, .data, .pinned], laidTests := true, laidLooks := .later }
def ForestsGrownCardSaid : Prop := Claim7.holds Tryz.pinned (.plain (OpenSpec.ofChange forestsGrownSpec)) forestsGrownCard

/-- THE SECOND FORM's CARD OF 'chaselaw1.LettersCalled'. -/
def lettersCalledUptoCard : Claim7 := { stood := { row := lettersCalledUptoRow, standIns := [], harness := (true, "a0cbe165add24bf2407fc457d8b6a08d13240a44d2cf6c4a70ea35bb9ad7f4ab"), looks := false }, kinds := [], alts := [], laidByText := true, laidKinds := [.data, .listed, .data, .pinned], laidTests := true, laidLooks := .later }
def LettersCalledUptoCardSaid : Prop := Claim7.holds Tryz.pinned (.plain (OpenSpec.upto lettersCalledSpec)) lettersCalledUptoCard

/-- THE SECOND FORM's CARD OF 'chaselaw1.ForestsGrown'. -/
def forestsGrownUptoCard : Claim7 := { stood := { row := forestsGrownUptoRow, standIns := [], harness := (true, "a0cbe165add24bf2407fc457d8b6a08d13240a44d2cf6c4a70ea35bb9ad7f4ab"), looks := false }, kinds := [], alts := [], laidByText := true, laidKinds := [.data, .listed, .data, .pinned], laidTests := true, laidLooks := .later }
def ForestsGrownUptoCardSaid : Prop := Claim7.holds Tryz.pinned (.plain (OpenSpec.upto forestsGrownSpec)) forestsGrownUptoCard
end Rows
end Go.Proofs.YtekhobchfhhofaaGreatDoor
