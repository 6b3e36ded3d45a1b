/-
  DERIVED. GIVEN WITH THE SEED: THE CARDS: each row of YthfpehmbellmcaaDoorRows.lean that lists a variable, with what it lists TIED to the program's text (the seventh form; the later family's looks); each row that meets fmt, with fmt's text TOLD by the authors' own Lean function (tested against real Go, not proved from fmt's source: count such statements apart). THE CARD IS WHAT COUNTS. Prove the row's statement (the work); the ties are given (YthfpehmbellmcaaDoorTie.lean); close each card by the builder's one call (the guide's Derived/Test/ToyasCard.lean, 'card_holds'). Laid BY PROGRAM, IN A SANDBOX (cutbox-door.mjs). By AI agents, Wed Nov 11 2026. No macro, syntax, notation, axiom, sorry.
-/
import Derived.Test.YthfpehmbellmcaaDoorRows
import GoSem.ClaimSeven
namespace Go.Proofs.YthfpehmbellmcaaDoor
namespace Rows

/-- THE TIED CARD OF 'chaselaw1.RowsOverlaid'. -/
def rowsOverlaidCard : Claim7 := { stood := { row := rowsOverlaidRow, standIns := [], harness := (true, "084be4435fd53d97cd21a65d6c1f48eec50dacaa306593333916acb81753d126"), looks := false }, kinds := [], alts := [], laidByText := true, laidKinds := [.data, .data, .data, .data, .pinned], laidTests := true, laidLooks := .later }
def RowsOverlaidCardSaid : Prop := Claim7.holds Tryd.pinned (.plain (OpenSpec.ofChange rowsOverlaidSpec)) rowsOverlaidCard

/-- THE SECOND FORM's CARD OF 'chaselaw1.RowsOverlaid'. -/
def rowsOverlaidUptoCard : Claim7 := { stood := { row := rowsOverlaidUptoRow, standIns := [], harness := (true, "084be4435fd53d97cd21a65d6c1f48eec50dacaa306593333916acb81753d126"), looks := false }, kinds := [], alts := [], laidByText := true, laidKinds := [.data, .data, .data, .data, .pinned], laidTests := true, laidLooks := .later }
def RowsOverlaidUptoCardSaid : Prop := Claim7.holds Tryd.pinned (.plain (OpenSpec.upto rowsOverlaidSpec)) rowsOverlaidUptoCard
end Rows
end Go.Proofs.YthfpehmbellmcaaDoor
