/-
  DERIVED. GIVEN WITH THE SEED: THE CARDS: each row of YthfpehmbellmcaaGreatDoorRows.lean that lists a variable, with what it lists TIED to the program's text (the seventh form; the later family's looks); each row that meets fmt, with fmt's text TOLD by the authors' own Lean function (tested against real Go, not proved from fmt's source: count such statements apart). THE CARD IS WHAT COUNTS. Prove the row's statement (the work); the ties are given (YthfpehmbellmcaaGreatDoorTie.lean); close each card by the builder's one call (the guide's Derived/Test/ToyasCard.lean, 'card_holds'). Laid BY PROGRAM, IN A SANDBOX (cutbox-door.mjs). By AI agents, Wed Nov 11 2026. No macro, syntax, notation, axiom, sorry.
-/
import Derived.Test.YthfpehmbellmcaaGreatDoorRows
import GoSem.ClaimSeven
namespace Go.Proofs.YthfpehmbellmcaaGreatDoor
namespace Rows

/-- THE TIED CARD OF 'chaselaw1.TextsPaged'. -/
def textsPagedCard : Claim7 := { stood := { row := textsPagedRow, standIns := [], harness := (true, "8727ad194e78bf7187e8a6345cdbf555c4935cb9facb62466bdd5ea9e1213ded"), looks := false }, kinds := [], alts := [], laidByText := true, laidKinds := [.data, .data, .data, .data, .pinned], laidTests := true, laidLooks := .later }
def TextsPagedCardSaid : Prop := Claim7.holds Tryz.pinned (.plain (OpenSpec.ofChange textsPagedSpec)) textsPagedCard

/-- THE TIED CARD OF 'chaselaw1.WordsPatched'. -/
def wordsPatchedCard : Claim7 := { stood := { row := wordsPatchedRow, standIns := [], harness := (true, "8727ad194e78bf7187e8a6345cdbf555c4935cb9facb62466bdd5ea9e1213ded"), looks := false }, kinds := [], alts := [], laidByText := true, laidKinds := [.data, .pinned], laidTests := true, laidLooks := .later }
def WordsPatchedCardSaid : Prop := Claim7.holds Tryz.pinned (.plain (OpenSpec.ofChange wordsPatchedSpec)) wordsPatchedCard

/-- THE TIED CARD OF 'chaselaw1.CommonFound'. -/
def commonFoundCard : Claim7 := { stood := { row := commonFoundRow, standIns := [], harness := (true, "8727ad194e78bf7187e8a6345cdbf555c4935cb9facb62466bdd5ea9e1213ded"), looks := false }, kinds := [], alts := [], laidByText := true, laidKinds := [.data, .pinned], laidTests := true, laidLooks := .later }
def CommonFoundCardSaid : Prop := Claim7.holds Tryz.pinned (.plain (OpenSpec.ofChange commonFoundSpec)) commonFoundCard

/-- THE SECOND FORM's CARD OF 'chaselaw1.TextsPaged'. -/
def textsPagedUptoCard : Claim7 := { stood := { row := textsPagedUptoRow, standIns := [], harness := (true, "8727ad194e78bf7187e8a6345cdbf555c4935cb9facb62466bdd5ea9e1213ded"), looks := false }, kinds := [], alts := [], laidByText := true, laidKinds := [.data, .data, .data, .data, .pinned], laidTests := true, laidLooks := .later }
def TextsPagedUptoCardSaid : Prop := Claim7.holds Tryz.pinned (.plain (OpenSpec.upto textsPagedSpec)) textsPagedUptoCard

/-- THE SECOND FORM's CARD OF 'chaselaw1.WordsPatched'. -/
def wordsPatchedUptoCard : Claim7 := { stood := { row := wordsPatchedUptoRow, standIns := [], harness := (true, "8727ad194e78bf7187e8a6345cdbf555c4935cb9facb62466bdd5ea9e1213ded"), looks := false }, kinds := [], alts := [], laidByText := true, laidKinds := [.data, .pinned], laidTests := true, laidLooks := .later }
def WordsPatchedUptoCardSaid : Prop := Claim7.holds Tryz.pinned (.plain (OpenSpec.upto wordsPatchedSpec)) wordsPatchedUptoCard

/-- THE SECOND FORM's CARD OF 'chaselaw1.CommonFound'. -/
def commonFoundUptoCard : Claim7 := { stood := { row := commonFoundUptoRow, standIns := [], harness := (true, "8727ad194e78bf7187e8a6345cdbf555c4935cb9facb62466bdd5ea9e1213ded"), looks := false }, kinds := [], alts := [], laidByText := true, laidKinds := [.data, .pinned], laidTests := true, laidLooks := .later }
def CommonFoundUptoCardSaid : Prop := Claim7.holds Tryz.pinned (.plain (OpenSpec.upto commonFoundSpec)) commonFoundUptoCard
end Rows
end Go.Proofs.YthfpehmbellmcaaGreatDoor
