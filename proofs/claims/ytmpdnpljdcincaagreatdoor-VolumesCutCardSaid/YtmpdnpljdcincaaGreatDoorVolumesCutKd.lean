import Derived.Test.YtmpdnpljdcincaaGreatDoorVolumesCutKc
namespace Go.Proofs.YtmpdnpljdcincaaGreatDoor.volumesCutDone
open Go.ChangeShapes Go.WideShapes Go.ChangeAt Go.RowKit Go.Lib
open Go.ChangeMaps (open_string shut_string)
set_option linter.unusedVariables false
set_option linter.unusedSimpArgs false
set_option linter.defProp false
theorem qCw:false=Rows.volumesCutRow.goesBy Tryz.pinned.checked.prog:=by kernel_rfl
end Go.Proofs.YtmpdnpljdcincaaGreatDoor.volumesCutDone
