/- A contract of the library at this translation: that it lies here (written by the kit's lay-plain). -/
import Derived.Shelf.Lays
import Derived.Shelf.Strconv.Lower
import Derived.Test.YtjgdjinhkgjpeaaGreatDoorProg
namespace Go.Proofs
open Go.Shelf
def Tryz.layLowerS_ren : Go.Shelf.Ren := ⟨fun | 321 => 208 | n => n, fun | 5 => 5 | n => n, fun | n => n⟩
theorem Tryz.layLowerS : Go.Proofs.Lays.n321 Tryz.prog Tryz.layLowerS_ren := {
  mixed := by kernel_rfl
  f321 := Tryz.func208.trans (congrArg some (by kernel_rfl))
  t5 := Tryz.underlying5
  a5 := Tryz.isAgg5
  z5 := Tryz.sizeOf5
  v5 := Tryz.zeroValue5 }
end Go.Proofs
