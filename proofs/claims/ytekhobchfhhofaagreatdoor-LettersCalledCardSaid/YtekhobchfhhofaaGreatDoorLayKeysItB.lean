/- A contract of the library at this translation: that it lies here (written by the kit's lay-plain). -/
import Derived.Shelf.SlIter.Sorted
import Derived.Shelf.SlIter.Nil
import Derived.Ground.GgzProg
import Derived.Test.YtekhobchfhhofaaGreatDoorProg
namespace Go.Proofs
open Go.Shelf
def Tryz.layKeysItB_ren : Go.Shelf.Ren := ⟨fun | 10 => 179 | n => n, fun | 33 => 88 | 23 => 114 | 0 => 0 | 4 => 4 | 26 => 9 | 3 => 4 | n => n, fun | n => n⟩
theorem Tryz.layKeysItB : Go.Proofs.SlLaysZ.n10 Tryz.prog Tryz.layKeysItB_ren := {
  mixed := by kernel_rfl
  f10 := ⟨Tryz.f179.name, by decide, Tryz.func179.trans (congrArg some (by kernel_rfl))⟩
  t0 := Tryz.underlying0
  a0 := Tryz.isAgg0
  z0 := Tryz.sizeOf0
  v0 := Tryz.zeroValue0
  t4 := Tryz.underlying4
  a4 := Tryz.isAgg4
  z4 := Tryz.sizeOf4
  v4 := Tryz.zeroValue4
  t23 := Tryz.underlying114
  a23 := Tryz.isAgg114
  z23 := Tryz.sizeOf114
  v23 := Tryz.zeroValue114
  t26 := Tryz.underlying9
  a26 := Tryz.isAgg9
  z26 := Tryz.sizeOf9
  v26 := Tryz.zeroValue9
  t33 := Tryz.underlying88
  a33 := Tryz.isAgg88
  z33 := Tryz.sizeOf88
  v33 := Tryz.zeroValue88 }
end Go.Proofs
