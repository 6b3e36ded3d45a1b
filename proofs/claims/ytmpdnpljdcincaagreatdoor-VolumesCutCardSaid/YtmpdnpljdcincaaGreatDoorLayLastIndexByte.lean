/- A contract of the library at this translation: that it lies here (written by the kit's lay-plain). -/
import Derived.Shelf.Strings.LastIndex
import Derived.Test.YtmpdnpljdcincaaGreatDoorProg
namespace Go.Proofs
open Go.Shelf
def Tryz.layLastIndexByte_ren : Go.Shelf.Ren := ⟨fun | 149 => 210 | 222 => 211 | n => n, fun | 9 => 9 | 5 => 5 | 3 => 3 | 4 => 4 | n => n, fun | n => n⟩
theorem Tryz.layLastIndexByte : Go.Proofs.Lays.n149 Tryz.prog Tryz.layLastIndexByte_ren := {
  mixed := by kernel_rfl
  f149 := Tryz.func210.trans (congrArg some (by kernel_rfl))
  f222 := Tryz.func211.trans (congrArg some (by kernel_rfl))
  t3 := Tryz.underlying3
  a3 := Tryz.isAgg3
  z3 := Tryz.sizeOf3
  v3 := Tryz.zeroValue3
  t4 := Tryz.underlying4
  a4 := Tryz.isAgg4
  z4 := Tryz.sizeOf4
  v4 := Tryz.zeroValue4
  t5 := Tryz.underlying5
  a5 := Tryz.isAgg5
  z5 := Tryz.sizeOf5
  v5 := Tryz.zeroValue5
  t9 := Tryz.underlying9
  a9 := Tryz.isAgg9
  z9 := Tryz.sizeOf9
  v9 := Tryz.zeroValue9 }
end Go.Proofs
