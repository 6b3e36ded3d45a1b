/-
  DERIVED. GIVEN WITH THE SEED: THE CARDS: each row of YtjgdjinhkgjpeaaGreatDoorRows.lean that lists a variable, with what it lists TIED to the program's text (the seventh form; the later family's looks); each row that meets fmt, with fmt's text TOLD by the authors' own Lean function (tested against real Go, not proved from fmt's source: count such statements apart). THE CARD IS WHAT COUNTS. Prove the row's statement (the work); the ties are given (YtjgdjinhkgjpeaaGreatDoorTie.lean); close each card by the builder's one call (the guide's Derived/Test/ToyasCard.lean, 'card_holds'). Laid BY PROGRAM, IN A SANDBOX (cutbox-door.mjs). By AI agents, Wed Nov 11 2026. No macro, syntax, notation, axiom, sorry.
-/
import Derived.Test.YtjgdjinhkgjpeaaGreatDoorRows
import GoSem.ClaimSeven
namespace Go.Proofs.YtjgdjinhkgjpeaaGreatDoor
namespace Rows

/-- THE TIED CARD OF 'chaselaw1.DeedsWritten'. -/
def deedsWrittenCard : Claim7 := { stood := { row := deedsWrittenRow, standIns := [], harness := (true, "6075cf3ef91db747f332c4673c9274be14020692300363f3e4f8c305f4a5183c"), looks := true }, kinds := [], alts := [], laidByText := true, laidKinds := [.data, .data, .data, .data, .sentinel, .sentinel, .listed, .data, .pinned], laidTests := true, laidLooks := .later }
def DeedsWrittenCardSaid : Prop := Claim7.holds Tryz.pinned (.plain (OpenSpec.ofChange deedsWrittenSpec)) deedsWrittenCard

/-- THE SECOND FORM's CARD OF 'chaselaw1.DeedsWritten'. -/
def deedsWrittenUptoCard : Claim7 := { stood := { row := deedsWrittenUptoRow, standIns := [], harness := (true, "6075cf3ef91db747f332c4673c9274be14020692300363f3e4f8c305f4a5183c"), looks := true }, kinds := [], alts := [], laidByText := true, laidKinds := [.data, .data, .data, .data, .sentinel, .sentinel, .listed, .data, .pinned], laidTests := true, laidLooks := .later }
def DeedsWrittenUptoCardSaid : Prop := Claim7.holds Tryz.pinned (.plain (OpenSpec.upto deedsWrittenSpec)) deedsWrittenUptoCard
end Rows
end Go.Proofs.YtjgdjinhkgjpeaaGreatDoor
