/-
  DERIVED. GIVEN WITH THE SEED: THE CARDS: each row of YtinffddgojhdfaaGreatDoorRows.lean that lists a variable, with what it lists TIED to the program's text (the seventh form; the later family's looks); each row that meets fmt, with fmt's text TOLD by the authors' own Lean function (tested against real Go, not proved from fmt's source: count such statements apart). THE CARD IS WHAT COUNTS. Prove the row's statement (the work); the ties are given (YtinffddgojhdfaaGreatDoorTie.lean); close each card by the builder's one call (the guide's Derived/Test/ToyasCard.lean, 'card_holds'). Laid BY PROGRAM, IN A SANDBOX (cutbox-door.mjs). By AI agents, Wed Nov 11 2026. No macro, syntax, notation, axiom, sorry.
-/
import Derived.Test.YtinffddgojhdfaaGreatDoorRows
import GoSem.ClaimSeven
namespace Go.Proofs.YtinffddgojhdfaaGreatDoor
namespace Rows

/-- THE TIED CARD OF 'chaselaw1.DeedChecks'. -/
def deedChecksCard : Claim7 := { stood := { row := deedChecksRow, standIns := [], harness := (true, "b3161e40708fe6579a7002e0bc4fb5696941059cf2abcb5874a4bcbf9bedc458"), looks := false }, kinds := [], alts := [], laidByText := true, laidKinds := [.data, .data, .data, .data, .pinned], laidTests := true, laidLooks := .later }
def DeedChecksCardSaid : Prop := Claim7.holds Tryz.pinned (.plain (OpenSpec.ofChange deedChecksSpec)) deedChecksCard

/-- THE TIED CARD OF 'chaselaw1.DeedAdds'. -/
def deedAddsCard : Claim7 := { stood := { row := deedAddsRow, standIns := [], harness := (true, "b3161e40708fe6579a7002e0bc4fb5696941059cf2abcb5874a4bcbf9bedc458"), looks := false }, kinds := [], alts := [], laidByText := true, laidKinds := [.data, .data, .data, .data, .pinned], laidTests := true, laidLooks := .later }
def DeedAddsCardSaid : Prop := Claim7.holds Tryz.pinned (.plain (OpenSpec.ofChange deedAddsSpec)) deedAddsCard

/-- THE TIED CARD OF 'chaselaw1.DeedMerges'. -/
def deedMergesCard : Claim7 := { stood := { row := deedMergesRow, standIns := [], harness := (true, "b3161e40708fe6579a7002e0bc4fb5696941059cf2abcb5874a4bcbf9bedc458"), looks := false }, kinds := [], alts := [], laidByText := true, laidKinds := [.data, .data, .data, .data, .pinned], laidTests := true, laidLooks := .later }
def DeedMergesCardSaid : Prop := Claim7.holds Tryz.pinned (.plain (OpenSpec.ofChange deedMergesSpec)) deedMergesCard

/-- THE SECOND FORM's CARD OF 'chaselaw1.DeedChecks'. -/
def deedChecksUptoCard : Claim7 := { stood := { row := deedChecksUptoRow, standIns := [], harness := (true, "b3161e40708fe6579a7002e0bc4fb5696941059cf2abcb5874a4bcbf9bedc458"), looks := false }, kinds := [], alts := [], laidByText := true, laidKinds := [.data, .data, .data, .data, .pinned], laidTests := true, laidLooks := .later }
def DeedChecksUptoCardSaid : Prop := Claim7.holds Tryz.pinned (.plain (OpenSpec.upto deedChecksSpec)) deedChecksUptoCard

/-- THE SECOND FORM's CARD OF 'chaselaw1.DeedAdds'. -/
def deedAddsUptoCard : Claim7 := { stood := { row := deedAddsUptoRow, standIns := [], harness := (true, "b3161e40708fe6579a7002e0bc4fb5696941059cf2abcb5874a4bcbf9bedc458"), looks := false }, kinds := [], alts := [], laidByText := true, laidKinds := [.data, .data, .data, .data, .pinned], laidTests := true, laidLooks := .later }
def DeedAddsUptoCardSaid : Prop := Claim7.holds Tryz.pinned (.plain (OpenSpec.upto deedAddsSpec)) deedAddsUptoCard

/-- THE SECOND FORM's CARD OF 'chaselaw1.DeedMerges'. -/
def deedMergesUptoCard : Claim7 := { stood := { row := deedMergesUptoRow, standIns := [], harness := (true, "b3161e40708fe6579a7002e0bc4fb5696941059cf2abcb5874a4bcbf9bedc458"), looks := false }, kinds := [], alts := [], laidByText := true, laidKinds := [.data, .data, .data, .data, .pinned], laidTests := true, laidLooks := .later }
def DeedMergesUptoCardSaid : Prop := Claim7.holds Tryz.pinned (.plain (OpenSpec.upto deedMergesSpec)) deedMergesUptoCard
end Rows
end Go.Proofs.YtinffddgojhdfaaGreatDoor
