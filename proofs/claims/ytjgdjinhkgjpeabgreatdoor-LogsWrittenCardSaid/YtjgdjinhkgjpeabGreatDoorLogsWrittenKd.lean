import Derived.Test.YtjgdjinhkgjpeabGreatDoorLogsWrittenKc
namespace Go.Proofs.YtjgdjinhkgjpeabGreatDoor.logsWrittenDone
open Go.ChangeShapes Go.WideShapes Go.ChangeAt Go.RowKit Go.Lib
open Go.ChangeMaps (open_string shut_string)
set_option linter.unusedVariables false
set_option linter.unusedSimpArgs false
set_option linter.defProp false
theorem qzn:false=Rows.logsWrittenRow.goesBy Tryz.pinned.checked.prog:=by kernel_rfl
end Go.Proofs.YtjgdjinhkgjpeabGreatDoor.logsWrittenDone
