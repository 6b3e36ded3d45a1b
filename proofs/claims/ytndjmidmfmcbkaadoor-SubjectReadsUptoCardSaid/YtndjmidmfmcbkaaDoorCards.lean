/-
  DERIVED. GIVEN WITH THE SEED: THE CARDS: each row of YtndjmidmfmcbkaaDoorRows.lean that lists a variable, with what it lists TIED to the program's text (the seventh form; the later family's looks); each row that meets fmt, with fmt's text TOLD by the authors' own Lean function (tested against real Go, not proved from fmt's source: count such statements apart). THE CARD IS WHAT COUNTS. Prove the row's statement (the work); the ties are given (YtndjmidmfmcbkaaDoorTie.lean); close each card by the builder's one call (the guide's Derived/Test/ToyasCard.lean, 'card_holds'). Laid BY PROGRAM, IN A SANDBOX (cutbox-door.mjs). By AI agents, Wed Nov 11 2026. No macro, syntax, notation, axiom, sorry.
-/
import Derived.Test.YtndjmidmfmcbkaaDoorRows
import GoSem.ClaimSeven
namespace Go.Proofs.YtndjmidmfmcbkaaDoor
namespace Rows

/-- THE TIED CARD OF 'chaselaw1.TermsMarked'. -/
def termsMarkedCard : Claim7 := { stood := { row := termsMarkedRow, standIns := [], harness := (true, "f3c3e1785deddc858da82996a3f1742cbeebe7dc7358f52d35c33ba4f6de7828"), looks := false }, kinds := [], alts := [], laidByText := true, laidKinds := [.data, .pinned], laidTests := true, laidLooks := .later }
def TermsMarkedCardSaid : Prop := Claim7.holds Tryd.pinned (.plain (OpenSpec.ofChange termsMarkedSpec)) termsMarkedCard

/-- THE TIED CARD OF 'chaselaw1.WordsDiffer'. -/
def wordsDifferCard : Claim7 := { stood := { row := wordsDifferRow, standIns := [], harness := (true, "f3c3e1785deddc858da82996a3f1742cbeebe7dc7358f52d35c33ba4f6de7828"), looks := false }, kinds := [], alts := [], laidByText := true, laidKinds := [.data, .pinned], laidTests := true, laidLooks := .later }
def WordsDifferCardSaid : Prop := Claim7.holds Tryd.pinned (.plain (OpenSpec.ofChange wordsDifferSpec)) wordsDifferCard

/-- THE TIED CARD OF 'chaselaw1.SubjectReads'. -/
def subjectReadsCard : Claim7 := { stood := { row := subjectReadsRow, standIns := [], harness := (true, "f3c3e1785deddc858da82996a3f1742cbeebe7dc7358f52d35c33ba4f6de7828"), looks := false }, kinds := [], alts := [], laidByText := true, laidKinds := [.data, .pinned], laidTests := true, laidLooks := .later }
def SubjectReadsCardSaid : Prop := Claim7.holds Tryd.pinned (.plain (OpenSpec.ofChange subjectReadsSpec)) subjectReadsCard

/-- THE TIED CARD OF 'chaselaw1.RowsOverlaid'. -/
def rowsOverlaidCard : Claim7 := { stood := { row := rowsOverlaidRow, standIns := [], harness := (true, "f3c3e1785deddc858da82996a3f1742cbeebe7dc7358f52d35c33ba4f6de7828"), looks := false }, kinds := [], alts := [], laidByText := true, laidKinds := [.data, .data, .data, .data, .pinned], laidTests := true, laidLooks := .later }
def RowsOverlaidCardSaid : Prop := Claim7.holds Tryd.pinned (.plain (OpenSpec.ofChange rowsOverlaidSpec)) rowsOverlaidCard

/-- THE SECOND FORM's CARD OF 'chaselaw1.TermsMarked'. -/
def termsMarkedUptoCard : Claim7 := { stood := { row := termsMarkedUptoRow, standIns := [], harness := (true, "f3c3e1785deddc858da82996a3f1742cbeebe7dc7358f52d35c33ba4f6de7828"), looks := false }, kinds := [], alts := [], laidByText := true, laidKinds := [.data, .pinned], laidTests := true, laidLooks := .later }
def TermsMarkedUptoCardSaid : Prop := Claim7.holds Tryd.pinned (.plain (OpenSpec.upto termsMarkedSpec)) termsMarkedUptoCard

/-- THE SECOND FORM's CARD OF 'chaselaw1.WordsDiffer'. -/
def wordsDifferUptoCard : Claim7 := { stood := { row := wordsDifferUptoRow, standIns := [], harness := (true, "f3c3e1785deddc858da82996a3f1742cbeebe7dc7358f52d35c33ba4f6de7828"), looks := false }, kinds := [], alts := [], laidByText := true, laidKinds := [.data, .pinned], laidTests := true, laidLooks := .later }
def WordsDifferUptoCardSaid : Prop := Claim7.holds Tryd.pinned (.plain (OpenSpec.upto wordsDifferSpec)) wordsDifferUptoCard

/-- THE SECOND FORM's CARD OF 'chaselaw1.SubjectReads'. -/
def subjectReadsUptoCard : Claim7 := { stood := { row := subjectReadsUptoRow, standIns := [], harness := (true, "f3c3e1785deddc858da82996a3f1742cbeebe7dc7358f52d35c33ba4f6de7828"), looks := false }, kinds := [], alts := [], laidByText := true, laidKinds := [.data, .pinned], laidTests := true, laidLooks := .later }
def SubjectReadsUptoCardSaid : Prop := Claim7.holds Tryd.pinned (.plain (OpenSpec.upto subjectReadsSpec)) subjectReadsUptoCard

/-- THE SECOND FORM's CARD OF 'chaselaw1.RowsOverlaid'. -/
def rowsOverlaidUptoCard : Claim7 := { stood := { row := rowsOverlaidUptoRow, standIns := [], harness := (true, "f3c3e1785deddc858da82996a3f1742cbeebe7dc7358f52d35c33ba4f6de7828"), looks := false }, kinds := [], alts := [], laidByText := true, laidKinds := [.data, .data, .data, .data, .pinned], laidTests := true, laidLooks := .later }
def RowsOverlaidUptoCardSaid : Prop := Claim7.holds Tryd.pinned (.plain (OpenSpec.upto rowsOverlaidSpec)) rowsOverlaidUptoCard
end Rows
end Go.Proofs.YtndjmidmfmcbkaaDoor
