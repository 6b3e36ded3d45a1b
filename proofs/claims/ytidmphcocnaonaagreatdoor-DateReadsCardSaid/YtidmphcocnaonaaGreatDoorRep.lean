
/- strings.Repeat at this cut: turned from the library's own walks (Derived/Shelf/Strings: Builder1, Builder2, BuilderF, Repeat) to this program. -/
import Derived.Test.YtidmphcocnaonaaGreatDoorProg
import Derived.Test.YtidmphcocnaonaaGreatDoorLayMul
import Derived.Test.YtidmphcocnaonaaGreatDoorLayPrefix
import Derived.WalkKit
import Derived.OwnWalk
import Derived.Lib.Builder
import Derived.Lib.FrozenHead
import Derived.Lib.RepeatB
import Derived.Laws.Externs
import Derived.Shelf.Strings.Repeat
import Derived.Deep.LoopGhost
import Derived.Deep.DeepCutAuto
import Derived.Deep.DeepFit
import Derived.Deep.CutBlock
import Derived.KernelRfl
namespace Go.Proofs.YtidmphcocnaonaaGreatDoor
open Go.RowKit Go.Lib
set_option linter.unusedVariables false
set_option linter.unusedSimpArgs false
set_option linter.defProp false

end Go.Proofs.YtidmphcocnaonaaGreatDoor
