
/- The law RowsOverlaid: its walk. -/
import Derived.Test.YthfpehmbellmcaaDoorZ8
namespace Go.Proofs.YthfpehmbellmcaaDoor
open Go.RowKit
set_option linter.unusedVariables false
set_option linter.unusedSimpArgs false
set_option linter.defProp false

theorem rowsOverlaid_walk (a0 : Option Addr) (len0 cap0 : Nat) (z0 : List Int) (w : World) (h0 : IsRow .i64 w a0 len0 cap0 z0) (he : E4.ok w ∧ ∀ b, E4.bl b → b < w.heap.size) :
    Calls Tryd.prog 3 #[.slice a0 len0 cap0] w fun e w' => e = .returned (.bool true) ∧ Below w.heap.size w w' :=
  walk_of (rowsOverlaid_ok LoadRows_ok Overlay_ok) a0 len0 cap0 z0 w h0 he.1 he.2
end Go.Proofs.YthfpehmbellmcaaDoor
