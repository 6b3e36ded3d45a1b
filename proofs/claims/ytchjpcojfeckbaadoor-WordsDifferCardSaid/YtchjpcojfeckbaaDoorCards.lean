/-
  DERIVED. GIVEN WITH THE SEED: THE CARDS: each row of YtchjpcojfeckbaaDoorRows.lean that lists a variable, with what it lists TIED to the program's text (the seventh form; the later family's looks); each row that meets fmt, with fmt's text TOLD by the authors' own Lean function (tested against real Go, not proved from fmt's source: count such statements apart). THE CARD IS WHAT COUNTS. Prove the row's statement (the work); the ties are given (YtchjpcojfeckbaaDoorTie.lean); close each card by the builder's one call (the guide's Derived/Test/ToyasCard.lean, 'card_holds'). Laid BY PROGRAM, IN A SANDBOX (cutbox-door.mjs). By AI agents, Wed Nov 11 2026. No macro, syntax, notation, axiom, sorry.
-/
import Derived.Test.YtchjpcojfeckbaaDoorRows
import GoSem.ClaimSeven
namespace Go.Proofs.YtchjpcojfeckbaaDoor
namespace Rows

/-- THE TIED CARD OF 'chaselaw1.WordsDiffer'. -/
def wordsDifferCard : Claim7 := { stood := { row := wordsDifferRow, standIns := [], harness := (true, "211ec08a6fa0337d167eb3f18548c7c3d94403fa2aa178ea6c19b93a02ea10f8"), looks := false }, kinds := [], alts := [], laidByText := true, laidKinds := [.data, .pinned], laidTests := true, laidLooks := .later }
def WordsDifferCardSaid : Prop := Claim7.holds Tryd.pinned (.plain (OpenSpec.ofChange wordsDifferSpec)) wordsDifferCard

/-- THE TIED CARD OF 'chaselaw1.RowsOverlaid'. -/
def rowsOverlaidCard : Claim7 := { stood := { row := rowsOverlaidRow, standIns := [], harness := (true, "211ec08a6fa0337d167eb3f18548c7c3d94403fa2aa178ea6c19b93a02ea10f8"), looks := false }, kinds := [], alts := [], laidByText := true, laidKinds := [.data, .data, .data, .data, .pinned], laidTests := true, laidLooks := .later }
def RowsOverlaidCardSaid : Prop := Claim7.holds Tryd.pinned (.plain (OpenSpec.ofChange rowsOverlaidSpec)) rowsOverlaidCard

/-- THE SECOND FORM's CARD OF 'chaselaw1.WordsDiffer'. -/
def wordsDifferUptoCard : Claim7 := { stood := { row := wordsDifferUptoRow, standIns := [], harness := (true, "211ec08a6fa0337d167eb3f18548c7c3d94403fa2aa178ea6c19b93a02ea10f8"), looks := false }, kinds := [], alts := [], laidByText := true, laidKinds := [.data, .pinned], laidTests := true, laidLooks := .later }
def WordsDifferUptoCardSaid : Prop := Claim7.holds Tryd.pinned (.plain (OpenSpec.upto wordsDifferSpec)) wordsDifferUptoCard

/-- THE SECOND FORM's CARD OF 'chaselaw1.RowsOverlaid'. -/
def rowsOverlaidUptoCard : Claim7 := { stood := { row := rowsOverlaidUptoRow, standIns := [], harness := (true, "211ec08a6fa0337d167eb3f18548c7c3d94403fa2aa178ea6c19b93a02ea10f8"), looks := false }, kinds := [], alts := [], laidByText := true, laidKinds := [.data, .data, .data, .data, .pinned], laidTests := true, laidLooks := .later }
def RowsOverlaidUptoCardSaid : Prop := Claim7.holds Tryd.pinned (.plain (OpenSpec.upto rowsOverlaidSpec)) rowsOverlaidUptoCard
end Rows
end Go.Proofs.YtchjpcojfeckbaaDoor
