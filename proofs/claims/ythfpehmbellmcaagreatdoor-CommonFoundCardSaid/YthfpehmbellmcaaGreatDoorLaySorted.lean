/- A contract of the library at this translation: that it lies here (written by the kit's lay-plain). -/
import Derived.Shelf.SlIter.Sorted
import Derived.Ground.GgzProg
import Derived.Test.YthfpehmbellmcaaGreatDoorProg
namespace Go.Proofs
open Go.Shelf
def Tryz.laySorted_ren : Go.Shelf.Ren := ⟨fun | 6 => 61 | 8 => 112 | 9 => 113 | 11 => 151 | 13 => 153 | 12 => 152 | 23 => 180 | 24 => 181 | 14 => 172 | 15 => 173 | 16 => 174 | 17 => 175 | 18 => 176 | 19 => 177 | 20 => 120 | 21 => 178 | 22 => 179 | 25 => 191 | 26 => 192 | 27 => 193 | 28 => 194 | 29 => 195 | 30 => 158 | 31 => 202 | n => n, fun | 26 => 9 | 28 => 96 | 24 => 27 | 0 => 0 | 3 => 3 | 37 => 102 | 48 => 150 | 50 => 153 | 4 => 4 | 40 => 183 | 39 => 182 | 45 => 98 | 5 => 5 | 9 => 9 | 51 => 193 | 55 => 197 | 57 => 203 | 58 => 204 | 33 => 66 | n => n, fun | n => n⟩
theorem Tryz.laySorted : Go.Proofs.SlLaysZ.n6 Tryz.prog Tryz.laySorted_ren := {
  mixed := by kernel_rfl
  f6 := ⟨Tryz.f61.name, by decide, Tryz.func61.trans (congrArg some (by kernel_rfl))⟩
  f8 := ⟨Tryz.f112.name, by decide, Tryz.func112.trans (congrArg some (by kernel_rfl))⟩
  f11 := ⟨Tryz.f151.name, by decide, Tryz.func151.trans (congrArg some (by kernel_rfl))⟩
  t0 := Tryz.underlying0
  a0 := Tryz.isAgg0
  z0 := Tryz.sizeOf0
  v0 := Tryz.zeroValue0
  t24 := Tryz.underlying27
  a24 := Tryz.isAgg27
  z24 := Tryz.sizeOf27
  v24 := Tryz.zeroValue27
  t26 := Tryz.underlying9
  a26 := Tryz.isAgg9
  z26 := Tryz.sizeOf9
  v26 := Tryz.zeroValue9
  t28 := Tryz.underlying96
  a28 := Tryz.isAgg96
  z28 := Tryz.sizeOf96
  v28 := Tryz.zeroValue96
  i26 := by kernel_rfl }
end Go.Proofs
