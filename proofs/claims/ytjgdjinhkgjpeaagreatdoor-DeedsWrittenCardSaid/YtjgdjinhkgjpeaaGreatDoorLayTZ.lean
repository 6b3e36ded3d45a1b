/- A contract of the library at this translation: that it lies here (written by the kit's lay-plain). -/
import Derived.Shelf.Lays7
import Derived.Shelf.Spec.TrailingZeros
import Derived.Test.YtjgdjinhkgjpeaaGreatDoorProg
namespace Go.Proofs
open Go.Shelf
def Tryz.layTZ_ren : Go.Shelf.Ren := ⟨fun | 27 => 180 | 28 => 204 | 29 => 205 | n => n, fun | 25 => 132 | 3 => 3 | 27 => 157 | 22 => 131 | 4 => 4 | 53 => 237 | 0 => 0 | 5 => 5 | 54 => 238 | n => n, fun | 0 => 8 | 1 => 9 | n => n⟩
theorem Tryz.layTZ : Go.Proofs.Lays7.n27 Tryz.prog Tryz.layTZ_ren := {
  mixed := by kernel_rfl
  f27 := Tryz.func180.trans (congrArg some (by kernel_rfl))
  f28 := Tryz.func204.trans (congrArg some (by kernel_rfl))
  f29 := Tryz.func205.trans (congrArg some (by kernel_rfl))
  t0 := Tryz.underlying0
  a0 := Tryz.isAgg0
  z0 := Tryz.sizeOf0
  v0 := Tryz.zeroValue0
  i0 := by kernel_rfl
  t3 := Tryz.underlying3
  a3 := Tryz.isAgg3
  z3 := Tryz.sizeOf3
  v3 := Tryz.zeroValue3
  i3 := by kernel_rfl
  t4 := Tryz.underlying4
  a4 := Tryz.isAgg4
  z4 := Tryz.sizeOf4
  v4 := Tryz.zeroValue4
  i4 := by kernel_rfl
  t5 := Tryz.underlying5
  a5 := Tryz.isAgg5
  z5 := Tryz.sizeOf5
  v5 := Tryz.zeroValue5
  i5 := by kernel_rfl
  t22 := Tryz.underlying131
  a22 := Tryz.isAgg131
  z22 := Tryz.sizeOf131
  v22 := Tryz.zeroValue131
  i22 := by kernel_rfl
  t25 := Tryz.underlying132
  a25 := Tryz.isAgg132
  z25 := Tryz.sizeOf132
  v25 := Tryz.zeroValue132
  i25 := by kernel_rfl
  t27 := Tryz.underlying157
  a27 := Tryz.isAgg157
  z27 := Tryz.sizeOf157
  v27 := Tryz.zeroValue157
  i27 := by kernel_rfl
  t53 := Tryz.underlying237
  a53 := Tryz.isAgg237
  z53 := Tryz.sizeOf237
  v53 := Tryz.zeroValue237
  i53 := by kernel_rfl
  t54 := Tryz.underlying238
  a54 := Tryz.isAgg238
  z54 := Tryz.sizeOf238
  g0 := by kernel_rfl
  g1 := by kernel_rfl }
end Go.Proofs
