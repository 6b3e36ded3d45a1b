/-
  DERIVED. GIVEN WITH THE SEED: THE CARDS: each row of YtehfjlpenlffmaaGreatDoorRows.lean that lists a variable, with what it lists TIED to the program's text (the seventh form; the later family's looks); each row that meets fmt, with fmt's text TOLD by the authors' own Lean function (tested against real Go, not proved from fmt's source: count such statements apart). THE CARD IS WHAT COUNTS. Prove the row's statement (the work); the ties are given (YtehfjlpenlffmaaGreatDoorTie.lean); close each card by the builder's one call (the guide's Derived/Test/ToyasCard.lean, 'card_holds'). Laid BY PROGRAM, IN A SANDBOX (cutbox-door.mjs). By AI agents, Wed Nov 11 2026. No macro, syntax, notation, axiom, sorry.
-/
import Derived.Test.YtehfjlpenlffmaaGreatDoorRows
import GoSem.ClaimSeven
namespace Go.Proofs.YtehfjlpenlffmaaGreatDoor
namespace Rows

/-- THE TIED CARD OF 'chaselaw1.ProductionsChecked'. -/
def productionsCheckedCard : Claim7 := { stood := { row := productionsCheckedRow, standIns := [], harness := (true, "d34910707635e65cb661324dbd342193dc7e7eb3d06cb7820918ce026f518228"), looks := false }, kinds := [], alts := [], laidByText := true, laidKinds := [.data, .data, .data, .data, .pinned], laidTests := true, laidLooks := .later }
def ProductionsCheckedCardSaid : Prop := Claim7.holds Tryz.pinned (.plain (OpenSpec.ofChange productionsCheckedSpec)) productionsCheckedCard

/-- THE TIED CARD OF 'chaselaw1.FamiliesChosen'. -/
def familiesChosenCard : Claim7 := { stood := { row := familiesChosenRow, standIns := [], harness := (true, "d34910707635e65cb661324dbd342193dc7e7eb3d06cb7820918ce026f518228"), looks := false }, kinds := [], alts := [], laidByText := true, laidKinds := [.data, .data, .data, .data, .pinned], laidTests := true, laidLooks := .later }
def FamiliesChosenCardSaid : Prop := Claim7.holds Tryz.pinned (.plain (OpenSpec.ofChange familiesChosenSpec)) familiesChosenCard

/-- THE TIED CARD OF 'chaselaw1.LetterChecks'. -/
def letterChecksCard : Claim7 := { stood := { row := letterChecksRow, standIns := [], harness := (true, "d34910707635e65cb661324dbd342193dc7e7eb3d06cb7820918ce026f518228"), looks := false }, kinds := [], alts := [], laidByText := true, laidKinds := [.data, .data, .data, .data, .listed, .data, .pinned], laidTests := true, laidLooks := .later }
def LetterChecksCardSaid : Prop := Claim7.holds Tryz.pinned (.plain (OpenSpec.ofChange letterChecksSpec)) letterChecksCard

/-- THE TIED CARD OF 'chaselaw1.ProductionsMade'. -/
def productionsMadeCard : Claim7 := { stood := { row := productionsMadeRow, standIns := [], harness := (true, "d34910707635e65cb661324dbd342193dc7e7eb3d06cb7820918ce026f518228"), looks := false }, kinds := [], alts := [], laidByText := true, laidKinds := [.data, .data, .data, .data, .pinned], laidTests := true, laidLooks := .later }
def ProductionsMadeCardSaid : Prop := Claim7.holds Tryz.pinned (.plain (OpenSpec.ofChange productionsMadeSpec)) productionsMadeCard

/-- THE SECOND FORM's CARD OF 'chaselaw1.ProductionsChecked'. -/
def productionsCheckedUptoCard : Claim7 := { stood := { row := productionsCheckedUptoRow, standIns := [], harness := (true, "d34910707635e65cb661324dbd342193dc7e7eb3d06cb7820918ce026f518228"), looks := false }, kinds := [], alts := [], laidByText := true, laidKinds := [.data, .data, .data, .data, .pinned], laidTests := true, laidLooks := .later }
def ProductionsCheckedUptoCardSaid : Prop := Claim7.holds Tryz.pinned (.plain (OpenSpec.upto productionsCheckedSpec)) productionsCheckedUptoCard

/-- THE SECOND FORM's CARD OF 'chaselaw1.FamiliesChosen'. -/
def familiesChosenUptoCard : Claim7 := { stood := { row := familiesChosenUptoRow, standIns := [], harness := (true, "d34910707635e65cb661324dbd342193dc7e7eb3d06cb7820918ce026f518228"), looks := false }, kinds := [], alts := [], laidByText := true, laidKinds := [.data, .data, .data, .data, .pinned], laidTests := true, laidLooks := .later }
def FamiliesChosenUptoCardSaid : Prop := Claim7.holds Tryz.pinned (.plain (OpenSpec.upto familiesChosenSpec)) familiesChosenUptoCard

/-- THE SECOND FORM's CARD OF 'chaselaw1.LetterChecks'. -/
def letterChecksUptoCard : Claim7 := { stood := { row := letterChecksUptoRow, standIns := [], harness := (true, "d34910707635e65cb661324dbd342193dc7e7eb3d06cb7820918ce026f518228"), looks := false }, kinds := [], alts := [], laidByText := true, laidKinds := [.data, .data, .data, .data, .listed, .data, .pinned], laidTests := true, laidLooks := .later }
def LetterChecksUptoCardSaid : Prop := Claim7.holds Tryz.pinned (.plain (OpenSpec.upto letterChecksSpec)) letterChecksUptoCard

/-- THE SECOND FORM's CARD OF 'chaselaw1.ProductionsMade'. -/
def productionsMadeUptoCard : Claim7 := { stood := { row := productionsMadeUptoRow, standIns := [], harness := (true, "d34910707635e65cb661324dbd342193dc7e7eb3d06cb7820918ce026f518228"), looks := false }, kinds := [], alts := [], laidByText := true, laidKinds := [.data, .data, .data, .data, .pinned], laidTests := true, laidLooks := .later }
def ProductionsMadeUptoCardSaid : Prop := Claim7.holds Tryz.pinned (.plain (OpenSpec.upto productionsMadeSpec)) productionsMadeUptoCard
end Rows
end Go.Proofs.YtehfjlpenlffmaaGreatDoor
