/- A contract of the library at this translation: that it lies here (written by the kit's lay-plain). -/
import Derived.Shelf.Strings.Prefix
import Derived.Test.YthfpehmbellmcaaDoorProg
namespace Go.Proofs
open Go.Shelf
def Tryd.layPrefix_ren : Go.Shelf.Ren := ⟨fun | 99 => 52 | 206 => 63 | n => n, fun | 9 => 9 | 4 => 4 | 3 => 3 | n => n, fun | n => n⟩
theorem Tryd.layPrefix : Go.Proofs.Lays.n99 Tryd.prog Tryd.layPrefix_ren := {
  mixed := by kernel_rfl
  f99 := Tryd.func52.trans (congrArg some (by kernel_rfl))
  f206 := Tryd.func63.trans (congrArg some (by kernel_rfl))
  t3 := Tryd.underlying3
  a3 := Tryd.isAgg3
  z3 := Tryd.sizeOf3
  v3 := Tryd.zeroValue3
  t4 := Tryd.underlying4
  a4 := Tryd.isAgg4
  z4 := Tryd.sizeOf4
  v4 := Tryd.zeroValue4
  t9 := Tryd.underlying9
  a9 := Tryd.isAgg9
  z9 := Tryd.sizeOf9
  v9 := Tryd.zeroValue9 }
end Go.Proofs
