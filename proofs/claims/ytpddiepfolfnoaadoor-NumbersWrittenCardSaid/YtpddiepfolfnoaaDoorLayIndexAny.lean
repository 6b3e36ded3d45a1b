/- A contract of the library at this translation: that it lies here (written by the kit's lay-plain). -/
import Derived.Shelf.Strings.IndexAnyAll
import Derived.Test.YtpddiepfolfnoaaDoorProg
namespace Go.Proofs
open Go.Shelf
def Tryd.layIndexAny_ren : Go.Shelf.Ren := ⟨fun | 153 => 148 | 152 => 197 | 226 => 198 | 227 => 179 | 228 => 199 | 137 => 164 | 119 => 231 | 224 => 216 | 225 => 215 | 217 => 211 | 266 => 253 | n => n, fun | 9 => 9 | 3 => 3 | 4 => 4 | 5 => 5 | 21 => 21 | 117 => 189 | 116 => 188 | 0 => 0 | 46 => 159 | 124 => 192 | n => n, fun | n => n⟩
theorem Tryd.layIndexAny : Go.Proofs.Lays.n153 Tryd.prog Tryd.layIndexAny_ren := {
  mixed := by kernel_rfl
  f119 := Tryd.func231.trans (congrArg some (by kernel_rfl))
  f137 := Tryd.func164.trans (congrArg some (by kernel_rfl))
  f152 := Tryd.func197.trans (congrArg some (by kernel_rfl))
  f153 := Tryd.func148.trans (congrArg some (by kernel_rfl))
  f217 := Tryd.func211.trans (congrArg some (by kernel_rfl))
  f224 := Tryd.func216.trans (congrArg some (by kernel_rfl))
  f225 := Tryd.func215.trans (congrArg some (by kernel_rfl))
  f226 := Tryd.func198.trans (congrArg some (by kernel_rfl))
  f227 := Tryd.func179.trans (congrArg some (by kernel_rfl))
  f228 := Tryd.func199.trans (congrArg some (by kernel_rfl))
  f266 := Tryd.func253.trans (congrArg some (by kernel_rfl))
  t0 := Tryd.underlying0
  a0 := Tryd.isAgg0
  z0 := Tryd.sizeOf0
  v0 := Tryd.zeroValue0
  t3 := Tryd.underlying3
  a3 := Tryd.isAgg3
  z3 := Tryd.sizeOf3
  v3 := Tryd.zeroValue3
  t4 := Tryd.underlying4
  a4 := Tryd.isAgg4
  z4 := Tryd.sizeOf4
  v4 := Tryd.zeroValue4
  t5 := Tryd.underlying5
  a5 := Tryd.isAgg5
  z5 := Tryd.sizeOf5
  v5 := Tryd.zeroValue5
  t9 := Tryd.underlying9
  a9 := Tryd.isAgg9
  z9 := Tryd.sizeOf9
  v9 := Tryd.zeroValue9
  t21 := Tryd.underlying21
  a21 := Tryd.isAgg21
  z21 := Tryd.sizeOf21
  v21 := Tryd.zeroValue21
  t46 := Tryd.underlying159
  a46 := Tryd.isAgg159
  z46 := Tryd.sizeOf159
  v46 := Tryd.zeroValue159
  t116 := Tryd.underlying188
  a116 := Tryd.isAgg188
  z116 := Tryd.sizeOf188
  t117 := Tryd.underlying189
  a117 := Tryd.isAgg189
  z117 := Tryd.sizeOf189
  v117 := Tryd.zeroValue189
  t124 := Tryd.underlying192
  a124 := Tryd.isAgg192
  z124 := Tryd.sizeOf192
  v124 := Tryd.zeroValue192 }
end Go.Proofs
