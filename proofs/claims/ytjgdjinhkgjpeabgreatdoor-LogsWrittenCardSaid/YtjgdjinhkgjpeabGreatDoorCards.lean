/-
  DERIVED. GIVEN WITH THE SEED: THE CARDS: each row of YtjgdjinhkgjpeabGreatDoorRows.lean that lists a variable, with what it lists TIED to the program's text (the seventh form; the later family's looks); each row that meets fmt, with fmt's text TOLD by the authors' own Lean function (tested against real Go, not proved from fmt's source: count such statements apart). THE CARD IS WHAT COUNTS. Prove the row's statement (the work); the ties are given (YtjgdjinhkgjpeabGreatDoorTie.lean); close each card by the builder's one call (the guide's Derived/Test/ToyasCard.lean, 'card_holds'). Laid BY PROGRAM, IN A SANDBOX (cutbox-door.mjs). By AI agents, Wed Nov 11 2026. No macro, syntax, notation, axiom, sorry.
-/
import Derived.Test.YtjgdjinhkgjpeabGreatDoorRows
import GoSem.ClaimSeven
namespace Go.Proofs.YtjgdjinhkgjpeabGreatDoor
namespace Rows

/-- THE TIED CARD OF 'chaselaw1.LogsWritten'. -/
def logsWrittenCard : Claim7 := { stood := { row := logsWrittenRow, standIns := [], harness := (true, "f64671a1bbbcd243531c92cf499bf6270eb43b661afd24eb54036f809ad48e2c"), looks := true }, kinds := [], alts := [], laidByText := true, laidKinds := [.data, .data, .data, .data, .sentinel, .sentinel, .listed, .data, .pinned], laidTests := true, laidLooks := .later }
def LogsWrittenCardSaid : Prop := Claim7.holds Tryz.pinned (.plain (OpenSpec.ofChange logsWrittenSpec)) logsWrittenCard

/-- THE SECOND FORM's CARD OF 'chaselaw1.LogsWritten'. -/
def logsWrittenUptoCard : Claim7 := { stood := { row := logsWrittenUptoRow, standIns := [], harness := (true, "f64671a1bbbcd243531c92cf499bf6270eb43b661afd24eb54036f809ad48e2c"), looks := true }, kinds := [], alts := [], laidByText := true, laidKinds := [.data, .data, .data, .data, .sentinel, .sentinel, .listed, .data, .pinned], laidTests := true, laidLooks := .later }
def LogsWrittenUptoCardSaid : Prop := Claim7.holds Tryz.pinned (.plain (OpenSpec.upto logsWrittenSpec)) logsWrittenUptoCard
end Rows
end Go.Proofs.YtjgdjinhkgjpeabGreatDoor
