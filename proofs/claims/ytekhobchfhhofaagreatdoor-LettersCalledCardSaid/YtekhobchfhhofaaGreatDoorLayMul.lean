/- A contract of the library at this translation: that it lies here (written by the kit's lay-plain). -/
import Derived.Shelf.Bits.Mul64
import Derived.Test.YtekhobchfhhofaaGreatDoorProg
namespace Go.Proofs
open Go.Shelf
def Tryz.layMul_ren : Go.Shelf.Ren := ⟨fun | 212 => 87 | 263 => 155 | 264 => 156 | n => n, fun | 46 => 133 | 51 => 187 | 146 => 188 | 53 => 190 | 148 => 191 | n => n, fun | n => n⟩
theorem Tryz.layMul : Go.Proofs.Lays.n212 Tryz.prog Tryz.layMul_ren := {
  mixed := by kernel_rfl
  f212 := Tryz.func87.trans (congrArg some (by kernel_rfl))
  f263 := Tryz.func155.trans (congrArg some (by kernel_rfl))
  f264 := Tryz.func156.trans (congrArg some (by kernel_rfl))
  t46 := Tryz.underlying133
  a46 := Tryz.isAgg133
  z46 := Tryz.sizeOf133
  v46 := Tryz.zeroValue133
  t51 := Tryz.underlying187
  a51 := Tryz.isAgg187
  z51 := Tryz.sizeOf187
  v51 := Tryz.zeroValue187
  t53 := Tryz.underlying190
  a53 := Tryz.isAgg190
  z53 := Tryz.sizeOf190
  v53 := Tryz.zeroValue190
  t146 := Tryz.underlying188
  a146 := Tryz.isAgg188
  z146 := Tryz.sizeOf188
  v146 := Tryz.zeroValue188
  t148 := Tryz.underlying191
  a148 := Tryz.isAgg191
  z148 := Tryz.sizeOf191
  v148 := Tryz.zeroValue191 }
end Go.Proofs
