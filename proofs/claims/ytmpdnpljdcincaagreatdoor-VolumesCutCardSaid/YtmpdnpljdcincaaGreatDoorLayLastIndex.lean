/- A contract of the library at this translation: that it lies here (written by the kit's lay-plain). -/
import Derived.Shelf.Strings.LastIndex
import Derived.Test.YtmpdnpljdcincaaGreatDoorProg
namespace Go.Proofs
open Go.Shelf
def Tryz.layLastIndex_ren : Go.Shelf.Ren := ⟨fun | 148 => 166 | 222 => 211 | 223 => 212 | 269 => 252 | n => n, fun | 9 => 9 | 3 => 3 | 4 => 4 | 5 => 5 | 146 => 181 | 51 => 180 | 46 => 136 | n => n, fun | n => n⟩
theorem Tryz.layLastIndex : Go.Proofs.Lays.n148 Tryz.prog Tryz.layLastIndex_ren := {
  mixed := by kernel_rfl
  f148 := Tryz.func166.trans (congrArg some (by kernel_rfl))
  f222 := Tryz.func211.trans (congrArg some (by kernel_rfl))
  f223 := Tryz.func212.trans (congrArg some (by kernel_rfl))
  f269 := Tryz.func252.trans (congrArg some (by kernel_rfl))
  t3 := Tryz.underlying3
  a3 := Tryz.isAgg3
  z3 := Tryz.sizeOf3
  v3 := Tryz.zeroValue3
  t4 := Tryz.underlying4
  a4 := Tryz.isAgg4
  z4 := Tryz.sizeOf4
  v4 := Tryz.zeroValue4
  t5 := Tryz.underlying5
  a5 := Tryz.isAgg5
  z5 := Tryz.sizeOf5
  v5 := Tryz.zeroValue5
  t9 := Tryz.underlying9
  a9 := Tryz.isAgg9
  z9 := Tryz.sizeOf9
  v9 := Tryz.zeroValue9
  t46 := Tryz.underlying136
  a46 := Tryz.isAgg136
  z46 := Tryz.sizeOf136
  v46 := Tryz.zeroValue136
  t51 := Tryz.underlying180
  a51 := Tryz.isAgg180
  z51 := Tryz.sizeOf180
  v51 := Tryz.zeroValue180
  t146 := Tryz.underlying181
  a146 := Tryz.isAgg181
  z146 := Tryz.sizeOf181
  v146 := Tryz.zeroValue181 }
end Go.Proofs
