/-
  DERIVED. GIVEN WITH THE SEED: THE CARDS: each row of YtidmphcocnaonaaGreatDoorRows.lean that lists a variable, with what it lists TIED to the program's text (the seventh form; the later family's looks); each row that meets fmt, with fmt's text TOLD by the authors' own Lean function (tested against real Go, not proved from fmt's source: count such statements apart). THE CARD IS WHAT COUNTS. Prove the row's statement (the work); the ties are given (YtidmphcocnaonaaGreatDoorTie.lean); close each card by the builder's one call (the guide's Derived/Test/ToyasCard.lean, 'card_holds'). Laid BY PROGRAM, IN A SANDBOX (cutbox-door.mjs). By AI agents, Wed Nov 11 2026. No macro, syntax, notation, axiom, sorry.
-/
import Derived.Test.YtidmphcocnaonaaGreatDoorRows
import GoSem.ClaimSeven
namespace Go.Proofs.YtidmphcocnaonaaGreatDoor
namespace Rows

/-- THE TIED CARD OF 'chaselaw1.TextsPaged'. -/
def textsPagedCard : Claim7 := { stood := { row := textsPagedRow, standIns := [], harness := (true, "5e72b20b84ef035415f3a71a7e5ad544b1b65d72fee04c2c3b14841130699687"), looks := true }, kinds := [], alts := [], laidByText := true, laidKinds := [.data, .data, .data, .data, .pinned], laidTests := true, laidLooks := .later }
def TextsPagedCardSaid : Prop := Claim7.holds Tryz.pinned (.plain (OpenSpec.ofChange textsPagedSpec)) textsPagedCard

/-- THE TIED CARD OF 'chaselaw1.FamiliesChosen'. -/
def familiesChosenCard : Claim7 := { stood := { row := familiesChosenRow, standIns := [], harness := (true, "5e72b20b84ef035415f3a71a7e5ad544b1b65d72fee04c2c3b14841130699687"), looks := true }, kinds := [], alts := [], laidByText := true, laidKinds := [.data, .data, .data, .data, .pinned], laidTests := true, laidLooks := .later }
def FamiliesChosenCardSaid : Prop := Claim7.holds Tryz.pinned (.plain (OpenSpec.ofChange familiesChosenSpec)) familiesChosenCard

/-- THE TIED CARD OF 'chaselaw1.DateReads'. -/
def dateReadsCard : Claim7 := { stood := { row := dateReadsRow, standIns := [], harness := (true, "5e72b20b84ef035415f3a71a7e5ad544b1b65d72fee04c2c3b14841130699687"), looks := true }, kinds := [], alts := [], laidByText := true, laidKinds := [.data, .data, .data, .data, .sentinel, .sentinel, .listed, .data, .pinned], laidTests := true, laidLooks := .later }
def DateReadsCardSaid : Prop := Claim7.holds Tryz.pinned (.plain (OpenSpec.ofChange dateReadsSpec)) dateReadsCard

/-- THE TIED CARD OF 'chaselaw1.LettersBetween'. -/
def lettersBetweenCard : Claim7 := { stood := { row := lettersBetweenRow, standIns := [], harness := (true, "5e72b20b84ef035415f3a71a7e5ad544b1b65d72fee04c2c3b14841130699687"), looks := true }, kinds := [], alts := [], laidByText := true, laidKinds := [.data, .listed, .data, .pinned], laidTests := true, laidLooks := .later }
def LettersBetweenCardSaid : Prop := Claim7.holds Tryz.pinned (.plain (OpenSpec.ofChange lettersBetweenSpec)) lettersBetweenCard

/-- THE SECOND FORM's CARD OF 'chaselaw1.TextsPaged'. -/
def textsPagedUptoCard : Claim7 := { stood := { row := textsPagedUptoRow, standIns := [], harness := (true, "5e72b20b84ef035415f3a71a7e5ad544b1b65d72fee04c2c3b14841130699687"), looks := true }, kinds := [], alts := [], laidByText := true, laidKinds := [.data, .data, .data, .data, .pinned], laidTests := true, laidLooks := .later }
def TextsPagedUptoCardSaid : Prop := Claim7.holds Tryz.pinned (.plain (OpenSpec.upto textsPagedSpec)) textsPagedUptoCard

/-- THE SECOND FORM's CARD OF 'chaselaw1.FamiliesChosen'. -/
def familiesChosenUptoCard : Claim7 := { stood := { row := familiesChosenUptoRow, standIns := [], harness := (true, "5e72b20b84ef035415f3a71a7e5ad544b1b65d72fee04c2c3b14841130699687"), looks := true }, kinds := [], alts := [], laidByText := true, laidKinds := [.data, .data, .data, .data, .pinned], laidTests := true, laidLooks := .later }
def FamiliesChosenUptoCardSaid : Prop := Claim7.holds Tryz.pinned (.plain (OpenSpec.upto familiesChosenSpec)) familiesChosenUptoCard

/-- THE SECOND FORM's CARD OF 'chaselaw1.DateReads'. -/
def dateReadsUptoCard : Claim7 := { stood := { row := dateReadsUptoRow, standIns := [], harness := (true, "5e72b20b84ef035415f3a71a7e5ad544b1b65d72fee04c2c3b14841130699687"), looks := true }, kinds := [], alts := [], laidByText := true, laidKinds := [.data, .data, .data, .data, .sentinel, .sentinel, .listed, .data, .pinned], laidTests := true, laidLooks := .later }
def DateReadsUptoCardSaid : Prop := Claim7.holds Tryz.pinned (.plain (OpenSpec.upto dateReadsSpec)) dateReadsUptoCard

/-- THE SECOND FORM's CARD OF 'chaselaw1.LettersBetween'. -/
def lettersBetweenUptoCard : Claim7 := { stood := { row := lettersBetweenUptoRow, standIns := [], harness := (true, "5e72b20b84ef035415f3a71a7e5ad544b1b65d72fee04c2c3b14841130699687"), looks := true }, kinds := [], alts := [], laidByText := true, laidKinds := [.data, .listed, .data, .pinned], laidTests := true, laidLooks := .later }
def LettersBetweenUptoCardSaid : Prop := Claim7.holds Tryz.pinned (.plain (OpenSpec.upto lettersBetweenSpec)) lettersBetweenUptoCard
end Rows
end Go.Proofs.YtidmphcocnaonaaGreatDoor
