/-
  DERIVED. GIVEN WITH THE SEED: THE CARDS: each row of YtmpdnpljdcincaaGreatDoorRows.lean that lists a variable, with what it lists TIED to the program's text (the seventh form; the later family's looks); each row that meets fmt, with fmt's text TOLD by the authors' own Lean function (tested against real Go, not proved from fmt's source: count such statements apart). THE CARD IS WHAT COUNTS. Prove the row's statement (the work); the ties are given (YtmpdnpljdcincaaGreatDoorTie.lean); close each card by the builder's one call (the guide's Derived/Test/ToyasCard.lean, 'card_holds'). Laid BY PROGRAM, IN A SANDBOX (cutbox-door.mjs). By AI agents, Wed Nov 11 2026. No macro, syntax, notation, axiom, sorry.
-/
import Derived.Test.YtmpdnpljdcincaaGreatDoorRows
import GoSem.ClaimSeven
namespace Go.Proofs.YtmpdnpljdcincaaGreatDoor
namespace Rows

/-- THE TIED CARD OF 'chaselaw1.PagesReplaced'. -/
def pagesReplacedCard : Claim7 := { stood := { row := pagesReplacedRow, standIns := [], harness := (true, "af7b5fef46d418f56c8eb9c87a449355a8c845b23d296d513bcbb4d9fed6f52f"), looks := true }, kinds := [], alts := [], laidByText := true, laidKinds := [.data, .data, .data, .data, .pinned], laidTests := true, laidLooks := .later }
def PagesReplacedCardSaid : Prop := Claim7.holds Tryz.pinned (.plain (OpenSpec.ofChange pagesReplacedSpec)) pagesReplacedCard

/-- THE TIED CARD OF 'chaselaw1.VolumesCut'. -/
def volumesCutCard : Claim7 := { stood := { row := volumesCutRow, standIns := [], harness := (true, "af7b5fef46d418f56c8eb9c87a449355a8c845b23d296d513bcbb4d9fed6f52f"), looks := true }, kinds := [], alts := [], laidByText := true, laidKinds := [.data, .data, .data, .data, .pinned], laidTests := true, laidLooks := .later }
def VolumesCutCardSaid : Prop := Claim7.holds Tryz.pinned (.plain (OpenSpec.ofChange volumesCutSpec)) volumesCutCard

/-- THE TIED CARD OF 'chaselaw1.PagesFound'. -/
def pagesFoundCard : Claim7 := { stood := { row := pagesFoundRow, standIns := [], harness := (true, "af7b5fef46d418f56c8eb9c87a449355a8c845b23d296d513bcbb4d9fed6f52f"), looks := true }, kinds := [], alts := [], laidByText := true, laidKinds := [.data, .data, .data, .data, .sentinel, .sentinel, .pinned], laidTests := true, laidLooks := .later }
def PagesFoundCardSaid : Prop := Claim7.holds Tryz.pinned (.plain (OpenSpec.ofChange pagesFoundSpec)) pagesFoundCard

/-- THE SECOND FORM's CARD OF 'chaselaw1.PagesReplaced'. -/
def pagesReplacedUptoCard : Claim7 := { stood := { row := pagesReplacedUptoRow, standIns := [], harness := (true, "af7b5fef46d418f56c8eb9c87a449355a8c845b23d296d513bcbb4d9fed6f52f"), looks := true }, kinds := [], alts := [], laidByText := true, laidKinds := [.data, .data, .data, .data, .pinned], laidTests := true, laidLooks := .later }
def PagesReplacedUptoCardSaid : Prop := Claim7.holds Tryz.pinned (.plain (OpenSpec.upto pagesReplacedSpec)) pagesReplacedUptoCard

/-- THE SECOND FORM's CARD OF 'chaselaw1.VolumesCut'. -/
def volumesCutUptoCard : Claim7 := { stood := { row := volumesCutUptoRow, standIns := [], harness := (true, "af7b5fef46d418f56c8eb9c87a449355a8c845b23d296d513bcbb4d9fed6f52f"), looks := true }, kinds := [], alts := [], laidByText := true, laidKinds := [.data, .data, .data, .data, .pinned], laidTests := true, laidLooks := .later }
def VolumesCutUptoCardSaid : Prop := Claim7.holds Tryz.pinned (.plain (OpenSpec.upto volumesCutSpec)) volumesCutUptoCard

/-- THE SECOND FORM's CARD OF 'chaselaw1.PagesFound'. -/
def pagesFoundUptoCard : Claim7 := { stood := { row := pagesFoundUptoRow, standIns := [], harness := (true, "af7b5fef46d418f56c8eb9c87a449355a8c845b23d296d513bcbb4d9fed6f52f"), looks := true }, kinds := [], alts := [], laidByText := true, laidKinds := [.data, .data, .data, .data, .sentinel, .sentinel, .pinned], laidTests := true, laidLooks := .later }
def PagesFoundUptoCardSaid : Prop := Claim7.holds Tryz.pinned (.plain (OpenSpec.upto pagesFoundSpec)) pagesFoundUptoCard
end Rows
end Go.Proofs.YtmpdnpljdcincaaGreatDoor
