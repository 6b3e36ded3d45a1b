/-
  DERIVED. GIVEN WITH THE SEED: THE CARDS: each row of YtpddiepfolfnoaaDoorRows.lean that lists a variable, with what it lists TIED to the program's text (the seventh form; the later family's looks); each row that meets fmt, with fmt's text TOLD by the authors' own Lean function (tested against real Go, not proved from fmt's source: count such statements apart). THE CARD IS WHAT COUNTS. Prove the row's statement (the work); the ties are given (YtpddiepfolfnoaaDoorTie.lean); close each card by the builder's one call (the guide's Derived/Test/ToyasCard.lean, 'card_holds'). Laid BY PROGRAM, IN A SANDBOX (cutbox-door.mjs). By AI agents, Wed Nov 11 2026. No macro, syntax, notation, axiom, sorry.
-/
import Derived.Test.YtpddiepfolfnoaaDoorRows
import GoSem.ClaimSeven
namespace Go.Proofs.YtpddiepfolfnoaaDoor
namespace Rows

/-- THE TIED CARD OF 'chaselaw1.TermsMarked'. -/
def termsMarkedCard : Claim7 := { stood := { row := termsMarkedRow, standIns := [], harness := (true, "9a0c198389169bf62a397c92950f6aad8fb398cf33cd2b2f26a38bf4ad3bacf3"), looks := true }, kinds := [], alts := [], laidByText := true, laidKinds := [.data, .pinned], laidTests := true, laidLooks := .later }
def TermsMarkedCardSaid : Prop := Claim7.holds Tryd.pinned (.plain (OpenSpec.ofChange termsMarkedSpec)) termsMarkedCard

/-- THE TIED CARD OF 'chaselaw1.SpansMixed'. -/
def spansMixedCard : Claim7 := { stood := { row := spansMixedRow, standIns := [], harness := (true, "9a0c198389169bf62a397c92950f6aad8fb398cf33cd2b2f26a38bf4ad3bacf3"), looks := true }, kinds := [], alts := [], laidByText := true, laidKinds := [.data, .pinned], laidTests := true, laidLooks := .later }
def SpansMixedCardSaid : Prop := Claim7.holds Tryd.pinned (.plain (OpenSpec.ofChange spansMixedSpec)) spansMixedCard

/-- THE TIED CARD OF 'chaselaw1.WordsRead'. -/
def wordsReadCard : Claim7 := { stood := { row := wordsReadRow, standIns := [], harness := (true, "9a0c198389169bf62a397c92950f6aad8fb398cf33cd2b2f26a38bf4ad3bacf3"), looks := true }, kinds := [], alts := [], laidByText := true, laidKinds := [.data, .pinned], laidTests := true, laidLooks := .later }
def WordsReadCardSaid : Prop := Claim7.holds Tryd.pinned (.plain (OpenSpec.ofChange wordsReadSpec)) wordsReadCard

/-- THE TIED CARD OF 'chaselaw1.PhrasesFound'. -/
def phrasesFoundCard : Claim7 := { stood := { row := phrasesFoundRow, standIns := [], harness := (true, "9a0c198389169bf62a397c92950f6aad8fb398cf33cd2b2f26a38bf4ad3bacf3"), looks := true }, kinds := [], alts := [], laidByText := true, laidKinds := [.data, .pinned], laidTests := true, laidLooks := .later }
def PhrasesFoundCardSaid : Prop := Claim7.holds Tryd.pinned (.plain (OpenSpec.ofChange phrasesFoundSpec)) phrasesFoundCard

/-- THE TIED CARD OF 'chaselaw1.TextsCovered'. -/
def textsCoveredCard : Claim7 := { stood := { row := textsCoveredRow, standIns := [], harness := (true, "9a0c198389169bf62a397c92950f6aad8fb398cf33cd2b2f26a38bf4ad3bacf3"), looks := true }, kinds := [], alts := [], laidByText := true, laidKinds := [.data, .pinned], laidTests := true, laidLooks := .later }
def TextsCoveredCardSaid : Prop := Claim7.holds Tryd.pinned (.plain (OpenSpec.ofChange textsCoveredSpec)) textsCoveredCard

/-- THE TIED CARD OF 'chaselaw1.WordsDiffer'. -/
def wordsDifferCard : Claim7 := { stood := { row := wordsDifferRow, standIns := [], harness := (true, "9a0c198389169bf62a397c92950f6aad8fb398cf33cd2b2f26a38bf4ad3bacf3"), looks := true }, kinds := [], alts := [], laidByText := true, laidKinds := [.data, .pinned], laidTests := true, laidLooks := .later }
def WordsDifferCardSaid : Prop := Claim7.holds Tryd.pinned (.plain (OpenSpec.ofChange wordsDifferSpec)) wordsDifferCard

/-- THE TIED CARD OF 'chaselaw1.SubjectReads'. -/
def subjectReadsCard : Claim7 := { stood := { row := subjectReadsRow, standIns := [], harness := (true, "9a0c198389169bf62a397c92950f6aad8fb398cf33cd2b2f26a38bf4ad3bacf3"), looks := true }, kinds := [], alts := [], laidByText := true, laidKinds := [.data, .pinned], laidTests := true, laidLooks := .later }
def SubjectReadsCardSaid : Prop := Claim7.holds Tryd.pinned (.plain (OpenSpec.ofChange subjectReadsSpec)) subjectReadsCard

/-- THE TIED CARD OF 'chaselaw1.RowsOverlaid'. -/
def rowsOverlaidCard : Claim7 := { stood := { row := rowsOverlaidRow, standIns := [], harness := (true, "9a0c198389169bf62a397c92950f6aad8fb398cf33cd2b2f26a38bf4ad3bacf3"), looks := true }, kinds := [], alts := [], laidByText := true, laidKinds := [.data, .data, .data, .data, .pinned], laidTests := true, laidLooks := .later }
def RowsOverlaidCardSaid : Prop := Claim7.holds Tryd.pinned (.plain (OpenSpec.ofChange rowsOverlaidSpec)) rowsOverlaidCard

/-- THE TIED CARD OF 'chaselaw1.NumbersWritten'. -/
def numbersWrittenCard : Claim7 := { stood := { row := numbersWrittenRow, standIns := [], harness := (true, "9a0c198389169bf62a397c92950f6aad8fb398cf33cd2b2f26a38bf4ad3bacf3"), looks := true }, kinds := [], alts := [], laidByText := true, laidKinds := [.data, .data, .data, .data, .sentinel, .sentinel, .pinned], laidTests := true, laidLooks := .later }
def NumbersWrittenCardSaid : Prop := Claim7.holds Tryd.pinned (.plain (OpenSpec.ofChange numbersWrittenSpec)) numbersWrittenCard

/-- THE SECOND FORM's CARD OF 'chaselaw1.TermsMarked'. -/
def termsMarkedUptoCard : Claim7 := { stood := { row := termsMarkedUptoRow, standIns := [], harness := (true, "9a0c198389169bf62a397c92950f6aad8fb398cf33cd2b2f26a38bf4ad3bacf3"), looks := true }, kinds := [], alts := [], laidByText := true, laidKinds := [.data, .pinned], laidTests := true, laidLooks := .later }
def TermsMarkedUptoCardSaid : Prop := Claim7.holds Tryd.pinned (.plain (OpenSpec.upto termsMarkedSpec)) termsMarkedUptoCard

/-- THE SECOND FORM's CARD OF 'chaselaw1.SpansMixed'. -/
def spansMixedUptoCard : Claim7 := { stood := { row := spansMixedUptoRow, standIns := [], harness := (true, "9a0c198389169bf62a397c92950f6aad8fb398cf33cd2b2f26a38bf4ad3bacf3"), looks := true }, kinds := [], alts := [], laidByText := true, laidKinds := [.data, .pinned], laidTests := true, laidLooks := .later }
def SpansMixedUptoCardSaid : Prop := Claim7.holds Tryd.pinned (.plain (OpenSpec.upto spansMixedSpec)) spansMixedUptoCard

/-- THE SECOND FORM's CARD OF 'chaselaw1.WordsRead'. -/
def wordsReadUptoCard : Claim7 := { stood := { row := wordsReadUptoRow, standIns := [], harness := (true, "9a0c198389169bf62a397c92950f6aad8fb398cf33cd2b2f26a38bf4ad3bacf3"), looks := true }, kinds := [], alts := [], laidByText := true, laidKinds := [.data, .pinned], laidTests := true, laidLooks := .later }
def WordsReadUptoCardSaid : Prop := Claim7.holds Tryd.pinned (.plain (OpenSpec.upto wordsReadSpec)) wordsReadUptoCard

/-- THE SECOND FORM's CARD OF 'chaselaw1.PhrasesFound'. -/
def phrasesFoundUptoCard : Claim7 := { stood := { row := phrasesFoundUptoRow, standIns := [], harness := (true, "9a0c198389169bf62a397c92950f6aad8fb398cf33cd2b2f26a38bf4ad3bacf3"), looks := true }, kinds := [], alts := [], laidByText := true, laidKinds := [.data, .pinned], laidTests := true, laidLooks := .later }
def PhrasesFoundUptoCardSaid : Prop := Claim7.holds Tryd.pinned (.plain (OpenSpec.upto phrasesFoundSpec)) phrasesFoundUptoCard

/-- THE SECOND FORM's CARD OF 'chaselaw1.TextsCovered'. -/
def textsCoveredUptoCard : Claim7 := { stood := { row := textsCoveredUptoRow, standIns := [], harness := (true, "9a0c198389169bf62a397c92950f6aad8fb398cf33cd2b2f26a38bf4ad3bacf3"), looks := true }, kinds := [], alts := [], laidByText := true, laidKinds := [.data, .pinned], laidTests := true, laidLooks := .later }
def TextsCoveredUptoCardSaid : Prop := Claim7.holds Tryd.pinned (.plain (OpenSpec.upto textsCoveredSpec)) textsCoveredUptoCard

/-- THE SECOND FORM's CARD OF 'chaselaw1.WordsDiffer'. -/
def wordsDifferUptoCard : Claim7 := { stood := { row := wordsDifferUptoRow, standIns := [], harness := (true, "9a0c198389169bf62a397c92950f6aad8fb398cf33cd2b2f26a38bf4ad3bacf3"), looks := true }, kinds := [], alts := [], laidByText := true, laidKinds := [.data, .pinned], laidTests := true, laidLooks := .later }
def WordsDifferUptoCardSaid : Prop := Claim7.holds Tryd.pinned (.plain (OpenSpec.upto wordsDifferSpec)) wordsDifferUptoCard

/-- THE SECOND FORM's CARD OF 'chaselaw1.SubjectReads'. -/
def subjectReadsUptoCard : Claim7 := { stood := { row := subjectReadsUptoRow, standIns := [], harness := (true, "9a0c198389169bf62a397c92950f6aad8fb398cf33cd2b2f26a38bf4ad3bacf3"), looks := true }, kinds := [], alts := [], laidByText := true, laidKinds := [.data, .pinned], laidTests := true, laidLooks := .later }
def SubjectReadsUptoCardSaid : Prop := Claim7.holds Tryd.pinned (.plain (OpenSpec.upto subjectReadsSpec)) subjectReadsUptoCard

/-- THE SECOND FORM's CARD OF 'chaselaw1.RowsOverlaid'. -/
def rowsOverlaidUptoCard : Claim7 := { stood := { row := rowsOverlaidUptoRow, standIns := [], harness := (true, "9a0c198389169bf62a397c92950f6aad8fb398cf33cd2b2f26a38bf4ad3bacf3"), looks := true }, kinds := [], alts := [], laidByText := true, laidKinds := [.data, .data, .data, .data, .pinned], laidTests := true, laidLooks := .later }
def RowsOverlaidUptoCardSaid : Prop := Claim7.holds Tryd.pinned (.plain (OpenSpec.upto rowsOverlaidSpec)) rowsOverlaidUptoCard

/-- THE SECOND FORM's CARD OF 'chaselaw1.NumbersWritten'. -/
def numbersWrittenUptoCard : Claim7 := { stood := { row := numbersWrittenUptoRow, standIns := [], harness := (true, "9a0c198389169bf62a397c92950f6aad8fb398cf33cd2b2f26a38bf4ad3bacf3"), looks := true }, kinds := [], alts := [], laidByText := true, laidKinds := [.data, .data, .data, .data, .sentinel, .sentinel, .pinned], laidTests := true, laidLooks := .later }
def NumbersWrittenUptoCardSaid : Prop := Claim7.holds Tryd.pinned (.plain (OpenSpec.upto numbersWrittenSpec)) numbersWrittenUptoCard
end Rows
end Go.Proofs.YtpddiepfolfnoaaDoor
