/- A contract of the library at this translation: that it lies here (written by the kit's lay-plain). -/
import Derived.Shelf.Small.Strs
import Derived.Test.YtndjmidmfmcbkaaDoorProg
namespace Go.Proofs
open Go.Shelf
def Tryd.layIndexByte_ren : Go.Shelf.Ren := ⟨fun | 137 => 115 | 217 => 153 | 266 => 181 | n => n, fun | 9 => 9 | 5 => 5 | 3 => 3 | n => n, fun | n => n⟩
theorem Tryd.layIndexByte : Go.Proofs.Lays.n137 Tryd.prog Tryd.layIndexByte_ren := {
  mixed := by kernel_rfl
  f137 := Tryd.func115.trans (congrArg some (by kernel_rfl))
  f217 := Tryd.func153.trans (congrArg some (by kernel_rfl))
  f266 := Tryd.func181.trans (congrArg some (by kernel_rfl))
  t3 := Tryd.underlying3
  a3 := Tryd.isAgg3
  z3 := Tryd.sizeOf3
  v3 := Tryd.zeroValue3
  t5 := Tryd.underlying5
  a5 := Tryd.isAgg5
  z5 := Tryd.sizeOf5
  v5 := Tryd.zeroValue5
  t9 := Tryd.underlying9
  a9 := Tryd.isAgg9
  z9 := Tryd.sizeOf9
  v9 := Tryd.zeroValue9 }
end Go.Proofs
