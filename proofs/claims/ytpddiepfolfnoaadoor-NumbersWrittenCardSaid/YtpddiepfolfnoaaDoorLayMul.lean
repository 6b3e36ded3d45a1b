/- A contract of the library at this translation: that it lies here (written by the kit's lay-plain). -/
import Derived.Shelf.Bits.Mul64
import Derived.Test.YtpddiepfolfnoaaDoorProg
namespace Go.Proofs
open Go.Shelf
def Tryd.layMul_ren : Go.Shelf.Ren := ⟨fun | 212 => 156 | 263 => 204 | 264 => 205 | n => n, fun | 46 => 159 | 51 => 206 | 146 => 207 | 53 => 209 | 148 => 210 | n => n, fun | n => n⟩
theorem Tryd.layMul : Go.Proofs.Lays.n212 Tryd.prog Tryd.layMul_ren := {
  mixed := by kernel_rfl
  f212 := Tryd.func156.trans (congrArg some (by kernel_rfl))
  f263 := Tryd.func204.trans (congrArg some (by kernel_rfl))
  f264 := Tryd.func205.trans (congrArg some (by kernel_rfl))
  t46 := Tryd.underlying159
  a46 := Tryd.isAgg159
  z46 := Tryd.sizeOf159
  v46 := Tryd.zeroValue159
  t51 := Tryd.underlying206
  a51 := Tryd.isAgg206
  z51 := Tryd.sizeOf206
  v51 := Tryd.zeroValue206
  t53 := Tryd.underlying209
  a53 := Tryd.isAgg209
  z53 := Tryd.sizeOf209
  v53 := Tryd.zeroValue209
  t146 := Tryd.underlying207
  a146 := Tryd.isAgg207
  z146 := Tryd.sizeOf207
  v146 := Tryd.zeroValue207
  t148 := Tryd.underlying210
  a148 := Tryd.isAgg210
  z148 := Tryd.sizeOf210
  v148 := Tryd.zeroValue210 }
end Go.Proofs
