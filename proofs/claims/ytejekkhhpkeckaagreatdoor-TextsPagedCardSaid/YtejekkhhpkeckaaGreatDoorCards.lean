/-
  DERIVED. GIVEN WITH THE SEED: THE CARDS: each row of YtejekkhhpkeckaaGreatDoorRows.lean that lists a variable, with what it lists TIED to the program's text (the seventh form; the later family's looks); each row that meets fmt, with fmt's text TOLD by the authors' own Lean function (tested against real Go, not proved from fmt's source: count such statements apart). THE CARD IS WHAT COUNTS. Prove the row's statement (the work); the ties are given (YtejekkhhpkeckaaGreatDoorTie.lean); close each card by the builder's one call (the guide's Derived/Test/ToyasCard.lean, 'card_holds'). Laid BY PROGRAM, IN A SANDBOX (cutbox-door.mjs). By AI agents, Wed Nov 11 2026. No macro, syntax, notation, axiom, sorry.
-/
import Derived.Test.YtejekkhhpkeckaaGreatDoorRows
import GoSem.ClaimSeven
namespace Go.Proofs.YtejekkhhpkeckaaGreatDoor
namespace Rows

/-- THE TIED CARD OF 'chaselaw1.TextsPaged'. -/
def textsPagedCard : Claim7 := { stood := { row := textsPagedRow, standIns := [], harness := (true, "56e2c1944385aaf76e9beed23db1a4f3d603c71a2ade540821c34fc857ec3e2f"), looks := true }, kinds := [], alts := [], laidByText := true, laidKinds := [.data, .data, .data, .data, .pinned], laidTests := true, laidLooks := .later }
def TextsPagedCardSaid : Prop := Claim7.holds Tryz.pinned (.plain (OpenSpec.ofChange textsPagedSpec)) textsPagedCard

/-- THE TIED CARD OF 'chaselaw1.DateReads'. -/
def dateReadsCard : Claim7 := { stood := { row := dateReadsRow, standIns := [], harness := (true, "56e2c1944385aaf76e9beed23db1a4f3d603c71a2ade540821c34fc857ec3e2f"), looks := true }, kinds := [], alts := [], laidByText := true, laidKinds := [.data, .data, .data, .data, .sentinel, .sentinel, .listed, .data, .pinned], laidTests := true, laidLooks := .later }
def DateReadsCardSaid : Prop := Claim7.holds Tryz.pinned (.plain (OpenSpec.ofChange dateReadsSpec)) dateReadsCard

/-- THE SECOND FORM's CARD OF 'chaselaw1.TextsPaged'. -/
def textsPagedUptoCard : Claim7 := { stood := { row := textsPagedUptoRow, standIns := [], harness := (true, "56e2c1944385aaf76e9beed23db1a4f3d603c71a2ade540821c34fc857ec3e2f"), looks := true }, kinds := [], alts := [], laidByText := true, laidKinds := [.data, .data, .data, .data, .pinned], laidTests := true, laidLooks := .later }
def TextsPagedUptoCardSaid : Prop := Claim7.holds Tryz.pinned (.plain (OpenSpec.upto textsPagedSpec)) textsPagedUptoCard

/-- THE SECOND FORM's CARD OF 'chaselaw1.DateReads'. -/
def dateReadsUptoCard : Claim7 := { stood := { row := dateReadsUptoRow, standIns := [], harness := (true, "56e2c1944385aaf76e9beed23db1a4f3d603c71a2ade540821c34fc857ec3e2f"), looks := true }, kinds := [], alts := [], laidByText := true, laidKinds := [.data, .data, .data, .data, .sentinel, .sentinel, .listed, .data, .pinned], laidTests := true, laidLooks := .later }
def DateReadsUptoCardSaid : Prop := Claim7.holds Tryz.pinned (.plain (OpenSpec.upto dateReadsSpec)) dateReadsUptoCard
end Rows
end Go.Proofs.YtejekkhhpkeckaaGreatDoor
