/- A contract of the library at this translation: that it lies here (written by the kit's lay-plain). -/
import Derived.Shelf.Bits.Mul64
import Derived.Test.YtndjmidmfmcbkaaGreatDoorProg
namespace Go.Proofs
open Go.Shelf
def Tryz.layMul_ren : Go.Shelf.Ren := ⟨fun | 212 => 146 | 263 => 222 | 264 => 223 | n => n, fun | 46 => 166 | 51 => 218 | 146 => 219 | 53 => 221 | 148 => 222 | n => n, fun | n => n⟩
theorem Tryz.layMul : Go.Proofs.Lays.n212 Tryz.prog Tryz.layMul_ren := {
  mixed := by kernel_rfl
  f212 := Tryz.func146.trans (congrArg some (by kernel_rfl))
  f263 := Tryz.func222.trans (congrArg some (by kernel_rfl))
  f264 := Tryz.func223.trans (congrArg some (by kernel_rfl))
  t46 := Tryz.underlying166
  a46 := Tryz.isAgg166
  z46 := Tryz.sizeOf166
  v46 := Tryz.zeroValue166
  t51 := Tryz.underlying218
  a51 := Tryz.isAgg218
  z51 := Tryz.sizeOf218
  v51 := Tryz.zeroValue218
  t53 := Tryz.underlying221
  a53 := Tryz.isAgg221
  z53 := Tryz.sizeOf221
  v53 := Tryz.zeroValue221
  t146 := Tryz.underlying219
  a146 := Tryz.isAgg219
  z146 := Tryz.sizeOf219
  v146 := Tryz.zeroValue219
  t148 := Tryz.underlying222
  a148 := Tryz.isAgg222
  z148 := Tryz.sizeOf222
  v148 := Tryz.zeroValue222 }
end Go.Proofs
