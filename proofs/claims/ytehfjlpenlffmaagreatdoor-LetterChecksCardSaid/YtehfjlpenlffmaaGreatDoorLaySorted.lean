/- A contract of the library at this translation: that it lies here (written by the kit's lay-plain). -/
import Derived.Shelf.SlIter.Sorted
import Derived.Ground.GgzProg
import Derived.Test.YtehfjlpenlffmaaGreatDoorProg
namespace Go.Proofs
open Go.Shelf
def Tryz.laySorted_ren : Go.Shelf.Ren := ⟨fun | 6 => 114 | 8 => 190 | 9 => 191 | 11 => 249 | 13 => 171 | 12 => 250 | 23 => 236 | 24 => 237 | 14 => 297 | 15 => 298 | 16 => 299 | 17 => 300 | 18 => 301 | 19 => 302 | 20 => 303 | 21 => 304 | 22 => 305 | 25 => 334 | 26 => 286 | 27 => 287 | 28 => 335 | 29 => 336 | 30 => 284 | 31 => 349 | n => n, fun | 26 => 9 | 28 => 143 | 24 => 58 | 0 => 0 | 3 => 3 | 37 => 158 | 48 => 212 | 50 => 215 | 4 => 4 | 40 => 234 | 39 => 233 | 45 => 184 | 5 => 5 | 9 => 9 | 51 => 278 | 55 => 282 | 57 => 311 | 58 => 312 | 33 => 94 | n => n, fun | n => n⟩
theorem Tryz.laySorted : Go.Proofs.SlLaysZ.n6 Tryz.prog Tryz.laySorted_ren := {
  mixed := by kernel_rfl
  f6 := ⟨Tryz.f114.name, by decide, Tryz.func114.trans (congrArg some (by kernel_rfl))⟩
  f8 := ⟨Tryz.f190.name, by decide, Tryz.func190.trans (congrArg some (by kernel_rfl))⟩
  f11 := ⟨Tryz.f249.name, by decide, Tryz.func249.trans (congrArg some (by kernel_rfl))⟩
  t0 := Tryz.underlying0
  a0 := Tryz.isAgg0
  z0 := Tryz.sizeOf0
  v0 := Tryz.zeroValue0
  t24 := Tryz.underlying58
  a24 := Tryz.isAgg58
  z24 := Tryz.sizeOf58
  v24 := Tryz.zeroValue58
  t26 := Tryz.underlying9
  a26 := Tryz.isAgg9
  z26 := Tryz.sizeOf9
  v26 := Tryz.zeroValue9
  t28 := Tryz.underlying143
  a28 := Tryz.isAgg143
  z28 := Tryz.sizeOf143
  v28 := Tryz.zeroValue143
  i26 := by kernel_rfl }
end Go.Proofs
