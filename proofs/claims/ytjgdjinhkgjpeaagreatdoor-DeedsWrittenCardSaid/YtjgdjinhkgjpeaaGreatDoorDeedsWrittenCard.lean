import Derived.Test.YtjgdjinhkgjpeaaGreatDoorDeedsWrittenKd
import Derived.Test.YtjgdjinhkgjpeaaGreatDoorCards
import Derived.Test.YtjgdjinhkgjpeaaGreatDoorTie
import Derived.WalkKit
import Derived.ProofKit
import Derived.OpenShut
import Derived.ShutString
import Derived.ChangeOld
import Derived.Below
import Derived.Deep.DeepHandedRow
import Derived.Deep.DeepWitnessRowRef
import Derived.Lib.LaidTab
import Derived.Lib.LaidIn
import Derived.Lib.LaidU8T
import Derived.PinnedBridge
import Derived.Deep.DeepLaidRun
import Derived.Stop.LaidErr
import Derived.Shelf.Vars
namespace Go.Proofs.YtjgdjinhkgjpeaaGreatDoor.deedsWrittenDone
open Go.ChangeShapes Go.WideShapes Go.ChangeAt Go.RowKit Go.Lib
open Go.ChangeMaps (open_string shut_string)
set_option linter.unusedVariables false
set_option linter.unusedSimpArgs false
set_option linter.defProp false
theorem card:Rows.DeedsWrittenCardSaid:=
 Claim7.holds_tied_plain_at .later [] _ _ _ _ said (fun _ h=>by cases h) (by kernel_rfl) (fun _ h=>by cases h) deedsWritten_row_tie rfl ⟨rfl,rfl⟩ (by kernel_rfl) rfl (plain _ (by kernel_rfl)) qzj
#print axioms card
end Go.Proofs.YtjgdjinhkgjpeaaGreatDoor.deedsWrittenDone
