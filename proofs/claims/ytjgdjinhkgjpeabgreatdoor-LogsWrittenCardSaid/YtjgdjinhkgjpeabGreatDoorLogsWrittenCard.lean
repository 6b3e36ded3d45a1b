import Derived.Test.YtjgdjinhkgjpeabGreatDoorLogsWrittenKd
namespace Go.Proofs.YtjgdjinhkgjpeabGreatDoor.logsWrittenDone
open Go.ChangeShapes Go.WideShapes Go.ChangeAt Go.RowKit Go.Lib
open Go.ChangeMaps (open_string shut_string)
set_option linter.unusedVariables false
set_option linter.unusedSimpArgs false
set_option linter.defProp false
theorem card:Rows.LogsWrittenCardSaid:=
 Claim7.holds_tied_plain_at .later [] _ _ _ _ said (fun _ h=>by cases h) (by kernel_rfl) (fun _ h=>by cases h) logsWritten_row_tie rfl ⟨rfl,rfl⟩ (by kernel_rfl) rfl (plain _ (by kernel_rfl)) qzn
#print axioms card
end Go.Proofs.YtjgdjinhkgjpeabGreatDoor.logsWrittenDone
