/- A contract of the library at this translation: that it lies here (written by the kit's lay-plain). -/
import Derived.Shelf.SlIter.Sorted
import Derived.Ground.GgzProg
import Derived.Test.YtekhobchfhhofaaGreatDoorProg
namespace Go.Proofs
open Go.Shelf
def Tryz.laySorted_ren : Go.Shelf.Ren := ⟨fun | 6 => 71 | 8 => 146 | 9 => 147 | 11 => 204 | 13 => 151 | 12 => 205 | 23 => 218 | 24 => 219 | 14 => 244 | 15 => 245 | 16 => 246 | 17 => 247 | 18 => 248 | 19 => 249 | 20 => 124 | 21 => 250 | 22 => 251 | 25 => 271 | 26 => 255 | 27 => 256 | 28 => 272 | 29 => 273 | 30 => 183 | 31 => 279 | n => n, fun | 26 => 9 | 28 => 120 | 24 => 28 | 0 => 0 | 3 => 3 | 37 => 133 | 48 => 187 | 50 => 190 | 4 => 4 | 40 => 229 | 39 => 228 | 45 => 94 | 5 => 5 | 9 => 9 | 51 => 255 | 55 => 259 | 57 => 270 | 58 => 271 | 33 => 88 | n => n, fun | n => n⟩
theorem Tryz.laySorted : Go.Proofs.SlLaysZ.n6 Tryz.prog Tryz.laySorted_ren := {
  mixed := by kernel_rfl
  f6 := ⟨Tryz.f71.name, by decide, Tryz.func71.trans (congrArg some (by kernel_rfl))⟩
  f8 := ⟨Tryz.f146.name, by decide, Tryz.func146.trans (congrArg some (by kernel_rfl))⟩
  f11 := ⟨Tryz.f204.name, by decide, Tryz.func204.trans (congrArg some (by kernel_rfl))⟩
  t0 := Tryz.underlying0
  a0 := Tryz.isAgg0
  z0 := Tryz.sizeOf0
  v0 := Tryz.zeroValue0
  t24 := Tryz.underlying28
  a24 := Tryz.isAgg28
  z24 := Tryz.sizeOf28
  v24 := Tryz.zeroValue28
  t26 := Tryz.underlying9
  a26 := Tryz.isAgg9
  z26 := Tryz.sizeOf9
  v26 := Tryz.zeroValue9
  t28 := Tryz.underlying120
  a28 := Tryz.isAgg120
  z28 := Tryz.sizeOf120
  v28 := Tryz.zeroValue120
  i26 := by kernel_rfl }
end Go.Proofs
