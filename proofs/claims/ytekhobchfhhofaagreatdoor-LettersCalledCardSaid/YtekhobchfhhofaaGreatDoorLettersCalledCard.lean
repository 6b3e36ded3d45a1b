import Derived.Test.YtekhobchfhhofaaGreatDoorLettersCalledKd
namespace Go.Proofs.YtekhobchfhhofaaGreatDoor.lettersCalledDone
open Go.ChangeShapes Go.WideShapes Go.ChangeAt Go.RowKit Go.Lib
open Go.ChangeMaps (open_string shut_string)
set_option linter.unusedVariables false
set_option linter.unusedSimpArgs false
set_option linter.defProp false
theorem card:Rows.LettersCalledCardSaid:=
 Claim7.holds_tied_plain_at .later [] _ _ _ _ said (fun _ h=>by cases h) (by kernel_rfl) (fun _ h=>by cases h) lettersCalled_row_tie rfl ⟨rfl,rfl⟩ (by kernel_rfl) rfl (plain _ (by kernel_rfl)) qBt
#print axioms card
end Go.Proofs.YtekhobchfhhofaaGreatDoor.lettersCalledDone
