import Derived.Test.YtmpdnpljdcincaaGreatDoorVolumesCutKd
namespace Go.Proofs.YtmpdnpljdcincaaGreatDoor.volumesCutDone
open Go.ChangeShapes Go.WideShapes Go.ChangeAt Go.RowKit Go.Lib
open Go.ChangeMaps (open_string shut_string)
set_option linter.unusedVariables false
set_option linter.unusedSimpArgs false
set_option linter.defProp false
theorem card:Rows.VolumesCutCardSaid:=
 Claim7.holds_tied_plain_at .later [] _ _ _ _ said (fun _ h=>by cases h) (by kernel_rfl) (fun _ h=>by cases h) volumesCut_row_tie rfl ⟨rfl,rfl⟩ (by kernel_rfl) rfl (plain _ (by kernel_rfl)) qCw
#print axioms card
end Go.Proofs.YtmpdnpljdcincaaGreatDoor.volumesCutDone
