/- A contract of the library at this translation: that it lies here (written by the kit's lay-plain). -/
import Derived.Shelf.Bits.Mul64
import Derived.Test.YtndjmidmfmcbkaaDoorProg
namespace Go.Proofs
open Go.Shelf
def Tryd.layMul_ren : Go.Shelf.Ren := ⟨fun | 212 => 87 | 263 => 129 | 264 => 130 | n => n, fun | 46 => 118 | 51 => 168 | 146 => 169 | 53 => 171 | 148 => 172 | n => n, fun | n => n⟩
theorem Tryd.layMul : Go.Proofs.Lays.n212 Tryd.prog Tryd.layMul_ren := {
  mixed := by kernel_rfl
  f212 := Tryd.func87.trans (congrArg some (by kernel_rfl))
  f263 := Tryd.func129.trans (congrArg some (by kernel_rfl))
  f264 := Tryd.func130.trans (congrArg some (by kernel_rfl))
  t46 := Tryd.underlying118
  a46 := Tryd.isAgg118
  z46 := Tryd.sizeOf118
  v46 := Tryd.zeroValue118
  t51 := Tryd.underlying168
  a51 := Tryd.isAgg168
  z51 := Tryd.sizeOf168
  v51 := Tryd.zeroValue168
  t53 := Tryd.underlying171
  a53 := Tryd.isAgg171
  z53 := Tryd.sizeOf171
  v53 := Tryd.zeroValue171
  t146 := Tryd.underlying169
  a146 := Tryd.isAgg169
  z146 := Tryd.sizeOf169
  v146 := Tryd.zeroValue169
  t148 := Tryd.underlying172
  a148 := Tryd.isAgg172
  z148 := Tryd.sizeOf172
  v148 := Tryd.zeroValue172 }
end Go.Proofs
