/- A contract of the library at this translation: that it lies here (written by the kit's lay-plain). -/
import Derived.Shelf.Strings.Cut
import Derived.Test.YtehfjlpenlffmaaGreatDoorProg
namespace Go.Proofs
open Go.Shelf
def Tryz.layCut_ren : Go.Shelf.Ren := ⟨fun | 145 => 241 | 220 => 293 | 219 => 275 | 217 => 319 | 225 => 320 | 224 => 321 | 267 => 322 | 266 => 340 | 314 => 341 | n => n, fun | 9 => 9 | 4 => 4 | 59 => 246 | 3 => 3 | 5 => 5 | 46 => 158 | 146 => 213 | 51 => 212 | n => n, fun | 1 => 1 | n => n⟩
theorem Tryz.layCut : Go.Proofs.Lays.n145 Tryz.prog Tryz.layCut_ren := {
  mixed := by kernel_rfl
  f145 := Tryz.func241.trans (congrArg some (by kernel_rfl))
  f217 := Tryz.func319.trans (congrArg some (by kernel_rfl))
  f219 := Tryz.func275.trans (congrArg some (by kernel_rfl))
  f220 := Tryz.func293.trans (congrArg some (by kernel_rfl))
  f224 := Tryz.func321.trans (congrArg some (by kernel_rfl))
  f225 := Tryz.func320.trans (congrArg some (by kernel_rfl))
  f266 := Tryz.func340.trans (congrArg some (by kernel_rfl))
  f267 := Tryz.func322.trans (congrArg some (by kernel_rfl))
  f314 := Tryz.func341.trans (congrArg some (by kernel_rfl))
  t3 := Tryz.underlying3
  a3 := Tryz.isAgg3
  z3 := Tryz.sizeOf3
  v3 := Tryz.zeroValue3
  t4 := Tryz.underlying4
  a4 := Tryz.isAgg4
  z4 := Tryz.sizeOf4
  v4 := Tryz.zeroValue4
  t5 := Tryz.underlying5
  a5 := Tryz.isAgg5
  z5 := Tryz.sizeOf5
  v5 := Tryz.zeroValue5
  t9 := Tryz.underlying9
  a9 := Tryz.isAgg9
  z9 := Tryz.sizeOf9
  v9 := Tryz.zeroValue9
  t46 := Tryz.underlying158
  a46 := Tryz.isAgg158
  z46 := Tryz.sizeOf158
  v46 := Tryz.zeroValue158
  t51 := Tryz.underlying212
  a51 := Tryz.isAgg212
  z51 := Tryz.sizeOf212
  v51 := Tryz.zeroValue212
  t59 := Tryz.underlying246
  a59 := Tryz.isAgg246
  z59 := Tryz.sizeOf246
  v59 := Tryz.zeroValue246
  t146 := Tryz.underlying213
  a146 := Tryz.isAgg213
  z146 := Tryz.sizeOf213
  v146 := Tryz.zeroValue213
  g1 := by kernel_rfl }
end Go.Proofs
