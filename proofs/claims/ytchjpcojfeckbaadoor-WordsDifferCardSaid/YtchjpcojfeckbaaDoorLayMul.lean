/- A contract of the library at this translation: that it lies here (written by the kit's lay-plain). -/
import Derived.Shelf.Bits.Mul64
import Derived.Test.YtchjpcojfeckbaaDoorProg
namespace Go.Proofs
open Go.Shelf
def Tryd.layMul_ren : Go.Shelf.Ren := ⟨fun | 212 => 95 | 263 => 117 | 264 => 118 | n => n, fun | 46 => 119 | 51 => 138 | 146 => 147 | 53 => 140 | 148 => 149 | n => n, fun | n => n⟩
theorem Tryd.layMul : Go.Proofs.Lays.n212 Tryd.prog Tryd.layMul_ren := {
  mixed := by kernel_rfl
  f212 := Tryd.func95.trans (congrArg some (by kernel_rfl))
  f263 := Tryd.func117.trans (congrArg some (by kernel_rfl))
  f264 := Tryd.func118.trans (congrArg some (by kernel_rfl))
  t46 := Tryd.underlying119
  a46 := Tryd.isAgg119
  z46 := Tryd.sizeOf119
  v46 := Tryd.zeroValue119
  t51 := Tryd.underlying138
  a51 := Tryd.isAgg138
  z51 := Tryd.sizeOf138
  v51 := Tryd.zeroValue138
  t53 := Tryd.underlying140
  a53 := Tryd.isAgg140
  z53 := Tryd.sizeOf140
  v53 := Tryd.zeroValue140
  t146 := Tryd.underlying147
  a146 := Tryd.isAgg147
  z146 := Tryd.sizeOf147
  v146 := Tryd.zeroValue147
  t148 := Tryd.underlying149
  a148 := Tryd.isAgg149
  z148 := Tryd.sizeOf149
  v148 := Tryd.zeroValue149 }
end Go.Proofs
