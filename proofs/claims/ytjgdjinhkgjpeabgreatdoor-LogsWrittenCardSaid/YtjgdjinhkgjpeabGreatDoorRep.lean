import Derived.Test.YtjgdjinhkgjpeabGreatDoorLayMul
import Derived.Test.YtjgdjinhkgjpeabGreatDoorLayPrefix
import Derived.WalkKit
import Derived.OwnWalk
import Derived.Lib.Builder
import Derived.Lib.FrozenHead
import Derived.Lib.RepeatB
import Derived.Laws.Externs
import Derived.Shelf.Strings.Repeat
import Derived.Deep.LoopGhost
import Derived.Deep.DeepCutAuto
import Derived.Deep.DeepFit
import Derived.Deep.CutBlock
import Derived.KernelRfl
set_option linter.unusedVariables false
set_option linter.unusedSimpArgs false
set_option linter.defProp false
namespace Go.Proofs.YtjgdjinhkgjpeabGreatDoor
open Nat renaming le_refl→zL,le_trans→zt,mul_le_mul_right→zP
open Option renaming map_eq_some_iff→zh
open _root_.Array renaming getElem?_eq_none→ym
open Go.Lib Go.RowKit
theorem qxy:(Tryz.prog.info? 5).map (fun i=>(i.zero,i.size,i.bytes))=some (some (.int .u8 0),1,1):=by kernel_rfl
theorem qrd:(Tryz.prog.info? 71).map (·.size)=some 2:=by kernel_rfl
theorem qvO:liesAt Tryz.prog Tryz.prog.depth 71 (2 / Tryz.prog.cellsOf 71) 0 71 1=true:=by kernel_rfl
theorem qlk (W:World) (q:Option Addr):(Builtin.unsafeString_ #[128,3] 9 #[.pointer q,.int .i64 0]).run Tryz.prog W=.ok (.string .empty) W:=Lib.run_unsafeString_none W _ _ _ q
theorem qfE:Tryz.prog.follows .mixedOrders=true:=by kernel_rfl
theorem qxx (x y:Nat) (hx:x < 18446744073709551616) (hy:y < 18446744073709551616) (w:World):Calls Tryz.prog 62 #[.int .u64 x,.int .u64 y] w fun e w'=>e=.returned (.tuple #[.int .u64 ((x * y / 18446744073709551616:Nat):Int),.int .u64 ((x * y % 18446744073709551616:Nat):Int)])∧w'=w:=Any.bits_Mul Tryz.layMul x y hx hy w
theorem qob (s p:ByteArray) (w:World):Calls Tryz.prog 63 #[.string s,.string p] w fun e w'=>e=.returned (.bool (Lib.hasPrefix s.data.toList p.data.toList))∧w'=w:=Any.strings_HasPrefix Tryz.layPrefix s p w
theorem qvP:Tryz.prog.cellsOf 5=1:=by kernel_rfl
theorem qxw:(Tryz.prog.info? 5).map (·.size)=some 1:=by kernel_rfl
set_option maxHeartbeats 1000000 in
set_option maxRecDepth 100000 in
theorem qtb (b:Nat) (w:World) (h0:w.cell? ⟨b,0,none⟩=some (.pointer (some ⟨b,0,none⟩))) :
  Calls Tryz.prog 75 #[.pointer (some ⟨b,0,none⟩)] w fun e w'=>e=.returned (.tuple #[])∧w'=w:=by
 obtain ⟨j,hj,_⟩:=zh.1 qrd
 go_enter Tryz.func75,Tryz.ntmps75
 go_wp2
 rw [Lib.run_neq_ptr_same w _ Tryz.underlying68 hj]
 go_wp2
 go_end0
 exact ⟨rfl,rfl⟩
set_option maxHeartbeats 1000000 in
set_option maxRecDepth 100000 in
theorem qmR (b:Nat) (w:World) (h0:w.cell? ⟨b,0,none⟩=some (.pointer none)) (hsh:w.shape? b=some (71,2)) (hfz:w.frozen? ⟨b,0,none⟩=false) :
  Calls Tryz.prog 75 #[.pointer (some ⟨b,0,none⟩)] w fun e w'=>e=.returned (.tuple #[])∧w'=w.setCell ⟨b,0,none⟩ (.pointer (some ⟨b,0,none⟩)):=by
 obtain ⟨j,hj,hjs⟩:=zh.1 qrd
 go_enter Tryz.func75,Tryz.ntmps75
 go_wp2
 rw [Lib.run_to_unsafe w ⟨b,0,none⟩ Tryz.underlying68 Tryz.underlying163 hj (by rw [hjs];decide) hsh (Nat.zero_lt_succ 1)]
 simp only [Result.andThen]
 rw [Oper.upon_value]
 go_wp2
 rw [run_callFunc_extern Tryz.func122 (by kernel_rfl) (by kernel_rfl) (by kernel_rfl) (e:=Extern.AbiNoEscape.same) (by kernel_rfl)]
 rw [Lib.run_noEscape]
 simp only [Result.andThen]
 rw [Oper.upon_value]
 go_wp2
 rw [Lib.run_from_unsafe w ⟨b,0,none⟩ Tryz.underlying163 Tryz.underlying68 hj hsh qvO]
 simp only [Result.andThen]
 rw [Oper.upon_value]
 go_wp2
 go_end0
 exact ⟨rfl,rfl⟩
theorem qll (B b:Nat) (bs:List Value) (w:World) (h:Lib.IsBuilderF 71 5 B b bs w) :
  Calls Tryz.prog 75 #[.pointer (some ⟨b,0,none⟩)] w fun e w'=>e=.returned (.tuple #[])∧(Lib.BuilderAtF 71 5 B b (.pointer (some ⟨b,0,none⟩)) bs w'∧Below B w w'):=by
 rcases h with h|h
 ·refine (qmR b w h.cell0 h.shape h.frozen0).mono ?_
  rintro e w' ⟨rfl,rfl⟩
  exact ⟨rfl,h.used _,(Below.refl B w).setCell (p:=⟨b,0,none⟩) h.1 _⟩
 ·refine (qtb b w h.cell0).mono ?_
  rintro e w' ⟨rfl,rfl⟩
  exact ⟨rfl,h,Below.refl B _⟩
set_option maxHeartbeats 1000000 in
set_option maxRecDepth 100000 in
theorem qvQ (B b:Nat) (bs:List Value) (w:World) (h:Lib.IsBuilderF 71 5 B b bs w) :
  Calls Tryz.prog 36 #[.pointer (some ⟨b,0,none⟩)] w fun e w'=>e=.returned (.int .i64 bs.length)∧w'=w:=by
 obtain ⟨p,hB,v,hbk,hown,hne⟩:∃ p,Lib.BuilderAtF 71 5 B b p bs w:=by
  rcases h with h|h
  ·exact ⟨_,h⟩
  ·exact ⟨_,h⟩
 obtain ⟨ao,cap,rfl⟩:∃ ao cap,v=.slice ao bs.length cap:=by
  rcases hown.2 with ⟨hv,h0⟩|⟨g,cap,cur,fz,hv,_⟩
  ·exact ⟨none,0,by rw [hv,h0]⟩
  ·exact ⟨_,_,hv⟩
 have c1:w.cell? ⟨b,1,none⟩=some (.slice ao bs.length cap):=by rw [Lib.cell_of_heap hbk];rfl
 have mixed:=qfE
 go_enter Tryz.func36,Tryz.ntmps36
 go_wp2
 go_ret
 exact ⟨rfl,rfl⟩
set_option maxHeartbeats 2000000 in
set_option maxRecDepth 100000 in
theorem qfF (B b:Nat) (bs:List Value) (s:ByteArray) (w:World) (h:Lib.IsBuilderF 71 5 B b bs w) (hlen:bs.length+s.size≤140737488355328) (hBw:B≤w.heap.size) :
  Calls Tryz.prog 34 #[.pointer (some ⟨b,0,none⟩),.string s] w fun e w'=>e=.returned (.tuple #[.int .i64 s.size,.nilIface])∧(Lib.BuilderAtF 71 5 B b (.pointer (some ⟨b,0,none⟩)) (bs++Lib.strCells s) w'∧Below B w w'):=by
 obtain ⟨i0,hi,hz0,hz1,hz2⟩:=info_parts qxy
 have mixed:=qfE
 go_enter Tryz.func34,Tryz.ntmps34
 go_wp2_with (go_at_call 75;refine (qll B b bs _ h).mono ?_)
 rintro e w1 ⟨rfl,h1,hb1⟩
 obtain ⟨hB,v,hbk,hown,hne⟩:=h1
 have c0:w1.cell? ⟨b,0,none⟩=some (.pointer (some ⟨b,0,none⟩)):=by rw [Lib.cell_of_heap hbk];rfl
 have c1:w1.cell? ⟨b,1,none⟩=some v:=by rw [Lib.cell_of_heap hbk];rfl
 go_wp2_with (at_builtin;refine Lib.wpList_append_own_stringF _ rfl _ _ 69 9 rfl B 5 i0 Tryz.underlying69 Tryz.underlying9 hi hz0 hz1 hz2 _ _ _ rfl hown s rfl ?c3 ?c4 ?c5 ?_)
 case c3=>unfold maxLen;omega
 case c4=>omega
 case c5=>have:=hb1.size;omega
 intro v' w2 hown' hgrow _
 have hlt:b < w1.heap.size:=by
  rcases Nat.lt_or_ge b w1.heap.size with h'|h'
  ·exact h'
  ·simp [ym h'] at hbk
 have hb2:w2.heap[b]?=some (.cells #[.pointer (some ⟨b,0,none⟩),v] 71 (0,0)):=by
  rw [hgrow.block b hlt (fun e=>hne e.symm)]
  exact hbk
 have d0:w2.cell? ⟨b,0,none⟩=some (.pointer (some ⟨b,0,none⟩)):=by rw [Lib.cell_of_heap hb2];rfl
 have d1:w2.cell? ⟨b,1,none⟩=some v:=by rw [Lib.cell_of_heap hb2];rfl
 have f1:w2.frozen? ⟨b,1,none⟩=false:=Lib.frozen_of_heap hb2 1
 obtain ⟨ao,n',cap,rfl⟩:∃ ao n' cap,v'=.slice ao n' cap:=by
  rcases hown'.2 with ⟨hv,_⟩|⟨g,cap,cur,fz,hv,_⟩
  ·exact ⟨_,_,_,hv⟩
  ·exact ⟨_,_,_,hv⟩
 go_wp2
 go_ret2
 refine ⟨rfl,?_,?_⟩
 ·exact Lib.BuilderAtF.put (T:=71) (e:=5) hB hb2 (bs':=bs++Lib.strCells s) (by simpa [Lib.strCells_length] using hown') (by decide)
 ·exact (hb1.grown hgrow (by have:=hb1.size;omega) (fun k hk=>(hown.lt k hk).1)).setCell (p:=⟨b,1,none⟩) hB _
set_option maxHeartbeats 1000000 in
set_option maxRecDepth 100000 in
theorem qp2 (B b:Nat) (l:List UInt8) (w:World) (h:Lib.IsBuilderF 71 5 B b (Lib.byteCells l) w) (h0:l≠[]) :
  Calls Tryz.prog 37 #[.pointer (some ⟨b,0,none⟩)] w fun e w'=>e=.returned (.string ⟨l.toArray⟩)∧(Lib.IsBuilderF 71 5 B b (Lib.byteCells l) w'∧Below B w w'):=by
 obtain ⟨p,hp,hAt⟩:∃ p,(p=.pointer none∨p=.pointer (some ⟨b,0,none⟩))∧Lib.BuilderAtF 71 5 B b p (Lib.byteCells l) w:=by
  rcases h with h|h
  ·exact ⟨_,.inl rfl,h⟩
  ·exact ⟨_,.inr rfl,h⟩
 obtain ⟨hB,v,hbk,hown,hne⟩:=hAt
 have hl0:l.length≠0:=by simpa using h0
 rw [Lib.byteCells_length] at hown
 obtain ⟨g,cap,cur,fz,rfl,hbg,hg,hfz,hnc,hcm,hcs,htake⟩:∃ g cap cur fz,v=.slice (some ⟨g,0,none⟩) l.length cap∧B≤g∧w.heap[g]?=some (.cells cur 5 fz)∧fz.2≤l.length * 1∧l.length≤cap∧cap≤maxLen∧cur.size=cap * 1∧cur.toList.take (l.length * 1)=Lib.byteCells l:=by
  rcases hown.2 with ⟨_,hz⟩|⟨g,cap,cur,fz,hv,r⟩
  ·exact absurd hz hl0
  ·exact ⟨g,cap,cur,fz,hv,r⟩
 have c1:w.drew.cell? ⟨b,1,none⟩=some (.slice (some ⟨g,0,none⟩) l.length cap):=by
  have:w.drew.heap[b]?=some (.cells #[p,.slice (some ⟨g,0,none⟩) l.length cap] 71 (0,0)):=hbk
  rw [Lib.cell_of_heap this];rfl
 have hSD:(Builtin.unsafeSliceData_ #[69] 128 #[.slice (some ⟨g,0,none⟩) l.length cap]).run Tryz.prog w.drew=.ok (.pointer (some ⟨g,0,none⟩)) w.drew:=
  Lib.run_unsafeSliceData_row _ _ _ _ _ _ (by omega)
 have hUS:(Builtin.unsafeString_ #[128,3] 9 #[.pointer (some ⟨g,0,none⟩),.int .i64 l.length]).run Tryz.prog w.drew=.ok (.string ⟨l.toArray⟩) (w.drew.freeze ⟨g,0,none⟩ l.length):=by
  refine Lib.run_unsafeString_row w.drew 128 3 9 5 Tryz.underlying128 qvP g cur.size (by have hg':w.drew.heap[g]?=some (.cells cur 5 fz):=hg;simp [World.shape?,hg']) l h0 (by omega) (by unfold maxLen at hcm;omega) ?_
  intro j x hx
  have:=hown.cells (g:=g) rfl j (.int .u8 x.toNat) (by simp [Lib.byteCells,hx])
  exact this
 have hkeep:Lib.IsBuilderF 71 5 B b (Lib.byteCells l) (w.drew.freeze ⟨g,0,none⟩ l.length):=by
  have hA:Lib.BuilderAtF 71 5 B b p (Lib.byteCells l) w.drew:=⟨hB,_,hbk,by rw [Lib.byteCells_length];exact hown,hne⟩
  have hF:=hA.froze (g:=g) (cap:=cap) (by rw [Lib.byteCells_length];exact c1)
  rw [Lib.byteCells_length] at hF
  rcases hp with rfl|rfl
  ·exact .inl hF
  ·exact .inr hF
 have mixed:=qfE
 go_enter Tryz.func37,Tryz.ntmps37
 go_wp2
 go_region_o
 all_goals (go_wp2;go_ret;exact ⟨rfl,hkeep,Lib.below_freeze (Below.drew (Below.refl B w)) (p:=⟨g,0,none⟩) hbg _⟩)
set_option maxHeartbeats 2000000 in
set_option maxRecDepth 100000 in
theorem qj8 (B b:Nat) (p:Value) (w:World) (hbk:w.heap[b]?=some (.cells #[p,.slice none 0 0] 71 (0,0))) (hA:Lib.BuilderAtF 71 5 B b p [] w) :
  Calls Tryz.prog 37 #[.pointer (some ⟨b,0,none⟩)] w fun e w'=>e=.returned (.string ⟨#[]⟩)∧(Lib.BuilderAtF 71 5 B b p [] w'∧Below B w w'):=by
 have hUS:=qlk
 have c1:w.drew.cell? ⟨b,1,none⟩=some (.slice none 0 0):=by
  have:w.drew.heap[b]?=some (.cells #[p,.slice none 0 0] 71 (0,0)):=hbk
  rw [Lib.cell_of_heap this];rfl
 have hSD:(Builtin.unsafeSliceData_ #[69] 128 #[.slice none 0 0]).run Tryz.prog w.drew=.ok (.pointer none) w.drew:=rfl
 have mixed:=qfE
 go_enter Tryz.func37,Tryz.ntmps37
 go_wp2
 go_region_o
 all_goals (go_wp2;go_ret;exact ⟨rfl,hA.drew,Below.drew (Below.refl B w)⟩)
set_option maxHeartbeats 2000000 in
set_option maxRecDepth 100000 in
theorem qin (B b g:Nat) (p:Value) (cur:Array Value) (w:World) (hBw:B≤w.heap.size) (hbk:w.heap[b]?=some (.cells #[p,.slice (some ⟨g,0,none⟩) 0 0] 71 (0,0))) (fz:Nat×Nat) (hg:w.heap[g]?=some (.cells cur 5 fz)) (hA:Lib.BuilderAtF 71 5 B b p [] w) :
  Calls Tryz.prog 37 #[.pointer (some ⟨b,0,none⟩)] w fun e w'=>e=.returned (.string ⟨#[]⟩)∧(Lib.BuilderAtF 71 5 B b p [] w'∧Below B w w'):=by
 have hUS:=qlk
 have hlt:b < w.heap.size:=by
  rcases Nat.lt_or_ge b w.heap.size with h'|h'
  ·exact h'
  ·simp [ym h'] at hbk
 have c1:w.drew.cell? ⟨b,1,none⟩=some (.slice (some ⟨g,0,none⟩) 0 0):=by
  have:w.drew.heap[b]?=some (.cells #[p,.slice (some ⟨g,0,none⟩) 0 0] 71 (0,0)):=hbk
  rw [Lib.cell_of_heap this];rfl
 have hSD:(Builtin.unsafeSliceData_ #[69] 128 #[.slice (some ⟨g,0,none⟩) 0 0]).run Tryz.prog w.drew=.ok (.pointer (some ⟨w.drew.heap.size,0,none⟩)) (w.drew.alloc (.view ⟨g,0,none⟩ 5)):=
  Lib.run_unsafeSliceData_zero w.drew _ _ 5 Tryz.underlying128 ⟨g,0,none⟩ 0 (5,cur.size) (by have hg':w.drew.heap[g]?=some (.cells cur 5 fz):=hg;simp [World.shape?,hg'])
 have c2:(w.drew.alloc (.view ⟨g,0,none⟩ 5)).cell? ⟨b,1,none⟩=some (.slice (some ⟨g,0,none⟩) 0 0):=by
  have:(w.drew.alloc (.view ⟨g,0,none⟩ 5)).heap[b]?=_:=(Lib.alloc_old w.drew _ b hlt).trans hbk
  rw [Lib.cell_of_heap this];rfl
 have c3:(w.alloc (.view ⟨g,0,none⟩ 5)).drew.cell? ⟨b,1,none⟩=some (.slice (some ⟨g,0,none⟩) 0 0):=c2
 have c0:w.cell? ⟨b,1,none⟩=some (.slice (some ⟨g,0,none⟩) 0 0):=c1
 have mixed:=qfE
 go_enter Tryz.func37,Tryz.ntmps37
 go_wp2
 go_region_o
 all_goals (go_wp2;go_ret;exact ⟨rfl,hA.drew.alloc _,(Below.drew (Below.refl B w)).alloc hBw _⟩)
set_option maxHeartbeats 2000000 in
set_option maxRecDepth 100000 in
theorem qjD (B b g cap:Nat) (p:Value) (w:World) (hc0:cap≠0) (hbk:w.heap[b]?=some (.cells #[p,.slice (some ⟨g,0,none⟩) 0 cap] 71 (0,0))) (hA:Lib.BuilderAtF 71 5 B b p [] w) :
  Calls Tryz.prog 37 #[.pointer (some ⟨b,0,none⟩)] w fun e w'=>e=.returned (.string ⟨#[]⟩)∧(Lib.BuilderAtF 71 5 B b p [] w'∧Below B w w'):=by
 have hUS:=qlk
 have c1:w.drew.cell? ⟨b,1,none⟩=some (.slice (some ⟨g,0,none⟩) 0 cap):=by
  have:w.drew.heap[b]?=some (.cells #[p,.slice (some ⟨g,0,none⟩) 0 cap] 71 (0,0)):=hbk
  rw [Lib.cell_of_heap this];rfl
 have hSD:(Builtin.unsafeSliceData_ #[69] 128 #[.slice (some ⟨g,0,none⟩) 0 cap]).run Tryz.prog w.drew=.ok (.pointer (some ⟨g,0,none⟩)) w.drew:=
  Lib.run_unsafeSliceData_row _ _ _ _ _ _ hc0
 clear hc0
 have mixed:=qfE
 go_enter Tryz.func37,Tryz.ntmps37
 go_wp2
 go_region_o
 all_goals (go_wp2;go_ret;exact ⟨rfl,hA.drew,Below.drew (Below.refl B w)⟩)
theorem qiW (B b:Nat) (w:World) (h:Lib.IsBuilderF 71 5 B b [] w) (hBw:B≤w.heap.size) :
  Calls Tryz.prog 37 #[.pointer (some ⟨b,0,none⟩)] w fun e w'=>e=.returned (.string ⟨#[]⟩)∧(Lib.IsBuilderF 71 5 B b [] w'∧Below B w w'):=by
 obtain ⟨p,hp,hA⟩:∃ p,(p=.pointer none∨p=.pointer (some ⟨b,0,none⟩))∧Lib.BuilderAtF 71 5 B b p [] w:=by
  rcases h with h|h
  ·exact ⟨_,.inl rfl,h⟩
  ·exact ⟨_,.inr rfl,h⟩
 have fin:∀ (e:Ending) (w':World),(e=.returned (.string ⟨#[]⟩)∧(Lib.BuilderAtF 71 5 B b p [] w'∧Below B w w'))→e=.returned (.string ⟨#[]⟩)∧(Lib.IsBuilderF 71 5 B b [] w'∧Below B w w'):=by
  rintro e w' ⟨he,hk,hb⟩
  rcases hp with rfl|rfl
  ·exact ⟨he,.inl hk,hb⟩
  ·exact ⟨he,.inr hk,hb⟩
 have hA':=hA
 obtain ⟨hB,v,hbk,hown,hne⟩:=hA
 rcases hown.2 with ⟨rfl,_⟩|⟨g,cap,cur,fz,rfl,hbg,hg,_,_,_,_,_⟩
 ·exact (qj8 B b p w hbk hA').mono fin
 ·by_cases hc0:cap=0
  ·subst hc0
   exact (qin B b g p cur w hBw hbk fz hg hA').mono fin
  ·exact (qjD B b g cap p w hc0 hbk hA').mono fin
theorem qj9 (B b:Nat) (l:List UInt8) (w:World) (h:Lib.IsBuilderF 71 5 B b (Lib.byteCells l) w) (hBw:B≤w.heap.size) :
  Calls Tryz.prog 37 #[.pointer (some ⟨b,0,none⟩)] w fun e w'=>e=.returned (.string ⟨l.toArray⟩)∧(Lib.IsBuilderF 71 5 B b (Lib.byteCells l) w'∧Below B w w'):=by
 cases l with
 |nil=>exact qiW B b w h hBw
 |cons x r=>exact qp2 B b (x :: r) w h (by simp)
set_option maxHeartbeats 2000000 in
set_option maxRecDepth 1000000 in
theorem qmQ (B b n:Nat) (w:World) (hB:B≤b) (hbk:w.heap[b]?=some (.cells #[.pointer (some ⟨b,0,none⟩),.slice none 0 0] 71 (0,0))) (hBw:B≤w.heap.size) (hn:n≤281474976710656) :
  Calls Tryz.prog 108 #[.pointer (some ⟨b,0,none⟩),.int .i64 n] w fun e w'=>e=.returned (.tuple #[])∧(Lib.BuilderAt 71 5 B b (.pointer (some ⟨b,0,none⟩)) [] w'∧Below B w w'):=by
 obtain ⟨cs,hrun,hle,hmax⟩:=Lib.run_makeNoZero (P:=Tryz.prog) w.drew #[3] 69 5 Tryz.underlying69 n hn
 have hw:IntKind.i64.wrap (IntKind.i64.wrap 0+(n:Int))=n:=by
  rw [IntKind.wrap_i64,IntKind.wrap_i64]
  omega
 have hcall:(callFunc 157 #[.int .i64 (IntKind.i64.wrap (IntKind.i64.wrap 0+(n:Int)))]).run Tryz.prog w.drew=.ok (.value (.slice (some ⟨w.drew.heap.size,0,none⟩) n cs.size)) (w.drew.drew.drew.alloc (.cells cs 5)):=by
  rw [hw,run_callFunc_extern Tryz.func157 (by kernel_rfl) (by kernel_rfl) (by kernel_rfl) (e:=Extern.BytealgMakeNoZero.makeNoZero #[3] #[69]) (by kernel_rfl),hrun]
  rfl
 have c1:w.drew.cell? ⟨b,1,none⟩=some (.slice none 0 0):=by
  have:w.drew.heap[b]?=_:=hbk
  rw [Lib.cell_of_heap this];rfl
 have c2:(w.alloc (.cells cs 5)).cell? ⟨b,1,none⟩=some (.slice none 0 0):=by
  have hlt:b < w.heap.size:=by
   rcases Nat.lt_or_ge b w.heap.size with h'|h'
   ·exact h'
   ·simp [ym h'] at hbk
  have:(w.alloc (.cells cs 5)).heap[b]?=_:=(Lib.alloc_old w _ b hlt).trans hbk
  rw [Lib.cell_of_heap this];rfl
 have f2:(w.alloc (.cells cs 5)).frozen? ⟨b,1,none⟩=false:=by
  have hlt:b < w.heap.size:=by
   rcases Nat.lt_or_ge b w.heap.size with h'|h'
   ·exact h'
   ·simp [ym h'] at hbk
  exact Lib.frozen_of_heap ((Lib.alloc_old w _ b hlt).trans hbk) 1
 have hcopy:∀ W:World,(Builtin.copy_ #[69,69] 3 #[.slice (some ⟨w.heap.size,0,none⟩) 0 cs.size,.slice none 0 0]).run Tryz.prog W=.ok (goInt 0) W:=
  fun W=>run_copy_none W 69 69 3 5 _ _ 0 cs.size 0 0 Tryz.underlying69 qxw rfl
 clear hw
 have mixed:=qfE
 go_enter Tryz.func108,Tryz.ntmps108
 go_wp2
 have hfin:=Lib.grown_fresh (T:=71) (e:=5) (cs:=cs) hB hbk hBw (hmax (by unfold maxLen;omega)) (by decide)
 go_region_o
 all_goals (go_wp2;go_end0;exact ⟨rfl,hfin⟩)
set_option maxHeartbeats 2000000 in
set_option maxRecDepth 1000000 in
theorem qmT (B b n:Nat) (w:World) (hB:B≤b) (hbk:w.heap[b]?=some (.cells #[.pointer none,.slice none 0 0] 71 (0,0))) (hBw:B≤w.heap.size) (hn:n≤281474976710656) :
  Calls Tryz.prog 64 #[.pointer (some ⟨b,0,none⟩),.int .i64 n] w fun e w'=>e=.returned (.tuple #[])∧(Lib.BuilderAt 71 5 B b (.pointer (some ⟨b,0,none⟩)) [] w'∧Below B w w'):=by
 have hbk1:(w.setCell ⟨b,0,none⟩ (.pointer (some ⟨b,0,none⟩))).heap[b]?=some (.cells #[.pointer (some ⟨b,0,none⟩),.slice none 0 0] 71 (0,0)):=by
  simp [World.setCell,Array.getElem?_modify,hbk]
 have c1:(w.setCell ⟨b,0,none⟩ (.pointer (some ⟨b,0,none⟩))).cell? ⟨b,1,none⟩=some (.slice none 0 0):=by rw [Lib.cell_of_heap hbk1];rfl
 have hb1:Below B w (w.setCell ⟨b,0,none⟩ (.pointer (some ⟨b,0,none⟩))):=(Below.refl B w).setCell (p:=⟨b,0,none⟩) hB _
 have mixed:=qfE
 go_enter Tryz.func64,Tryz.ntmps64
 have hU:Lib.BuilderAt 71 5 B b (.pointer (some ⟨b,0,none⟩)) [] (w.setCell ⟨b,0,none⟩ (.pointer (some ⟨b,0,none⟩))):=⟨hB,.slice none 0 0,hbk1,World.ownsRow_nil _ _ _ _,by simp [Value.ownBlock]⟩
 have c1':(w.setCell ⟨b,0,none⟩ (.pointer (some ⟨b,0,none⟩))).drew.cell? ⟨b,1,none⟩=some (.slice none 0 0):=c1
 go_wp2_with (go_at_call 75;refine (qmR b w (by rw [Lib.cell_of_heap hbk];rfl) (by simp [World.shape?,hbk]) (Lib.frozen_of_heap hbk 0)).mono ?_;rintro e w' ⟨rfl,rfl⟩)
 go_region_o
 all_goals go_wp2_with (go_at_call 108;refine (qmQ B b n (w.setCell ⟨b,0,none⟩ (.pointer (some ⟨b,0,none⟩))).drew hB hbk1 (by simpa [World.setCell,World.drew,-World.drew_eq] using hBw) hn).mono ?_;rintro e w' ⟨rfl,h1,h2⟩)
 all_goals first
  |(go_end0;exact ⟨rfl,h1,hb1.drew.trans h2⟩)
  |(go_end0;exact ⟨rfl,hU.drew,hb1.drew⟩)
set_option maxHeartbeats 1600000 in
set_option maxRecDepth 1000000 in
theorem qln (s:ByteArray) (c:Nat) (w:World) (hc2:2≤c) (hc:c≤9223372036854775807) (hlen:s.size * c≤140737488355328) (h0:0 < s.size) :
  Calls Tryz.prog 22 #[.string s,.int .i64 c] w fun e w'=>e=.returned (.string ⟨(Lib.repeatL s.data.toList c).toArray⟩)∧Below w.heap.size w w':=by
 have hsz:s.size≤140737488355328:=zt (Nat.le_mul_of_pos_right _ (by omega)) hlen
 have hMul:=qxx s.size c (by omega) (by omega) w
 rw [Nat.div_eq_of_lt (by omega:s.size * c < 18446744073709551616),Nat.mod_eq_of_lt (by omega:s.size * c < 18446744073709551616)] at hMul
 obtain ⟨n,hn⟩:∃ n,s.size * c=n:=⟨_,rfl⟩
 rw [hn] at hMul hlen
 have HN:Aside (s.size * c=n):=hn
 clear hn
 have hq8:wrap64 (8192 / (s.size:Int) * (s.size:Int))=((8192 / s.size * s.size:Nat):Int):=by
  have e:(8192:Int) / (s.size:Int) * (s.size:Int)=((8192 / s.size * s.size:Nat):Int):=by
   rw [Int.natCast_mul,Int.natCast_ediv]
   rfl
  have hle:8192 / s.size * s.size≤8192:=Nat.div_mul_le_self 8192 s.size
  rw [e]
  unfold wrap64
  omega
 go_enter Tryz.func22,Tryz.ntmps22
 go_upto_block 1 with (go_at_call 62;go_fit hMul;rintro e w' ⟨rfl,hw⟩;rw [hw])
 clear hMul
 go_cut [] (fun wx=>w=wx)
 case first=>
  go_upto_if 43 with fail
  go_cut [43] (fun s43 wx=>w=wx∧∃ B:Bool,s43=.bool B)
  case first=>
   go_wp2
   all_goals (go_meet;exact ⟨rfl,_,rfl⟩)
  case rest=>
   obtain ⟨rfl,B,rfl⟩:=hcut
   cases B
   ·go_wp2
    go_meet
    rfl
   ·go_wp2_with (go_at_call 63;refine (qob _ _ _).mono ?_;rintro e w' ⟨rfl,hw⟩;rw [hw])
    all_goals (first
     |(go_meet;rfl)
     |(go_ret;first
       |exact ⟨by rw [Lib.fast_ok _ 32 128 (by rfl) s c n HN.out (by omega) (by assumption)]<;>rfl,Below.refl _ _⟩
       |exact ⟨by rw [Lib.fast_ok _ 45 128 (by rfl) s c n HN.out (by omega) (by assumption)]<;>rfl,Below.refl _ _⟩
       |exact ⟨by rw [Lib.fast_ok _ 48 64 (by rfl) s c n HN.out (by omega) (by assumption)]<;>rfl,Below.refl _ _⟩
       |exact ⟨by rw [Lib.fast_ok _ 61 128 (by rfl) s c n HN.out (by omega) (by assumption)]<;>rfl,Below.refl _ _⟩
       |exact ⟨by rw [Lib.fast_ok _ 9 64 (by rfl) s c n HN.out (by omega) (by assumption)]<;>rfl,Below.refl _ _⟩))
 case rest=>
  obtain rfl:=hcut
  go_upto_if 96 with fail
  go_cut [8] (fun s8 wx=>w=wx∧∃ m:Nat,1≤m∧s8=.int .i64 ((m * s.size:Nat):Int))
  case first=>
   go_wp2
   ·go_meet
    exact ⟨rfl,1,zL _,by rw [Nat.one_mul]⟩
   ·go_meet
    refine ⟨rfl,8192 / s.size,?_,by rw [hq8]⟩
    rcases Nat.eq_zero_or_pos (8192 / s.size) with hz|hz
    ·rename_i hne
     have e0:(8192:Int) / (s.size:Int)=((8192 / s.size:Nat):Int):=by rw [Int.natCast_ediv];rfl
     first|rw [hq8,hz] at hne|rw [e0,hz] at hne
     simp at hne
    ·exact hz
   ·go_meet
    exact ⟨rfl,c,by omega,by rw [Nat.mul_comm,HN.out]⟩
  case rest=>
   obtain ⟨rfl,m,hm1,rfl⟩:=hcut
   clear hq8
   obtain ⟨CM,hCM⟩:∃ CM,m * s.size=CM:=⟨_,rfl⟩
   rw [hCM]
   have HCM:Aside (m * s.size=CM):=hCM
   clear hCM
   have b0:Below w.heap.size w (w.alloc (.cells #[.pointer none,.slice none 0 0] 71)):=(Below.refl _ w).alloc (zL _) _
   have cG:=qmT w.heap.size w.heap.size n (w.alloc (.cells #[.pointer none,.slice none 0 0] 71)) (zL _) (heap_alloc_new w _) b0.size (by omega)
   go_wp2_with (go_at_call 64;go_fit cG;rintro e W1 ⟨rfl,h1,b1⟩)
   clear cG
   have cW:=qfF w.heap.size w.heap.size [] s W1 (Lib.IsBuilderF.of (Or.inr h1)) (by simp;omega) (zt b0.size b1.size)
   go_wp2_with (go_at_call 34;go_fit cW;rintro e W2 ⟨rfl,h2,b2⟩)
   clear cW h1
   have h2':Lib.IsBuilderF 71 5 w.heap.size w.heap.size (Lib.byteCells (Lib.repeatL s.data.toList 1)) W2:=by
    rw [List.nil_append,Lib.strCells_eq] at h2
    rw [Lib.repeatL_one]
    exact Or.inr h2
   have b02:Below w.heap.size w W2:=b0.trans (b1.trans b2)
   clear h2 b0 b1 b2
   go_loopg [] (c - 1) (fun g wx=>∃ q:Nat,1≤q∧q+g=c∧Lib.IsBuilderF 71 5 w.heap.size w.heap.size (Lib.byteCells (Lib.repeatL s.data.toList q)) wx∧Below w.heap.size w wx)
   case atStart=>exact ⟨1,zL _,by omega,h2',b02⟩
   case round=>
    obtain ⟨q,hq1,hqg,hB,hbx⟩:=hrel
    obtain ⟨Q,hQ⟩:∃ Q,q * s.size=Q:=⟨_,rfl⟩
    have hlq:(Lib.byteCells (Lib.repeatL s.data.toList q)).length=Q:=by rw [Lib.byteCells_length,Lib.repeatL_length,← Lib.size_eq,hQ]
    have cLen:=qvQ w.heap.size w.heap.size _ wr hB
    rw [hlq] at cLen
    have hnc:c * s.size=n:=by rw [Nat.mul_comm];exact HN.out
    obtain ⟨S,hS⟩:∃ S:ByteArray,(⟨(Lib.repeatL s.data.toList q).toArray⟩:ByteArray)=S:=⟨_,rfl⟩
    have hSd:S.data.toList=Lib.repeatL s.data.toList q:=by rw [← hS]
    have hSz:S.size=Q:=by rw [Lib.size_eq,hSd,Lib.repeatL_length,← Lib.size_eq,hQ]
    have cStr:=qj9 w.heap.size w.heap.size (Lib.repeatL s.data.toList q) wr hB hbx.size
    rw [hS] at cStr
    cases gk with
    |zero=>
     obtain rfl:q=c:=by omega
     have hQn:¬ ((Q:Int) < (n:Int)):=by omega
     go_wp2_with (first
      |(go_at_call 36;go_fit cLen;rintro e w' ⟨rfl,hw⟩;rw [hw])
      |(go_at_call 37;go_fit cStr;rintro e W3 ⟨rfl,h3,b3⟩))
     go_ret
     exact ⟨by rw [hS]<;>rfl,hbx.trans b3⟩
    |succ g=>
     have hqc:q < c:=by omega
     obtain ⟨k,hk1,hkq,hkc,hmin⟩:=Lib.chunk_ok c q m s.size hq1 hqc hm1
     rw [hnc,hQ,HCM.out] at hmin
     obtain ⟨CH,hCH⟩:∃ CH,k * s.size=CH:=⟨_,rfl⟩
     rw [hCH] at hmin
     have hQn:(Q:Int) < (n:Int):=by
      have h1:(q+1) * s.size≤c * s.size:=zP _ hqc
      rw [Nat.succ_mul,hQ,hnc] at h1
      omega
     have hCHQ:CH≤Q:=by rw [← hCH,← hQ];exact zP _ hkq
     have hsum:Q+CH≤n:=by
      have h1:(q+k) * s.size≤c * s.size:=zP _ hkc
      rw [Nat.add_mul,hQ,hCH,hnc] at h1
      exact h1
     have hmin3:∀ (ts:Array TypeId) (t:TypeId) (W:World),(Builtin.min_ ts t #[.int .i64 ((n:Int) - (Q:Int)),.int .i64 (Q:Int),.int .i64 (CM:Int)]).run Tryz.prog W=.ok (.int .i64 (CH:Int)) W:=fun ts t W=>by
      rw [run_min_int3]
      congr 2
      rw [← hmin]
      omega
     clear hmin
     go_wp2_with (first
      |(go_at_call 36;go_fit cLen;rintro e w' ⟨rfl,hw⟩;rw [hw])
      |(go_at_call 37;go_fit cStr;rintro e W3 ⟨rfl,h3,b3⟩))
     have cWr:=qfF w.heap.size w.heap.size _ (S.extract 0 CH) W3 h3 (by
      rw [hlq,Lib.size_eq,Lib.extract_data,hSd]
      simp only [List.drop_zero,Nat.sub_zero,List.length_take,Lib.repeatL_length]
      omega) (zt hbx.size b3.size)
     go_wp2_with (go_at_call 34;go_fit cWr;rintro e W4 ⟨rfl,h4,b4⟩)
     go_roundg (c - (q+k))
     case measure=>omega
     case rel=>
      refine ⟨q+k,by omega,by omega,Or.inr ?_,hbx.trans (b3.trans b4)⟩
      rw [Lib.strCells_eq,← Lib.byteCells_append,Lib.extract_data,hSd] at h4
      simp only [List.drop_zero,Nat.sub_zero] at h4
      rw [← hCH,Lib.size_eq,Lib.step_ok _ _ _ hkq] at h4
      exact h4
set_option maxRecDepth 1000000 in
theorem qlm (s:ByteArray) (w:World) :
  Calls Tryz.prog 22 #[.string s,.int .i64 0] w fun e w'=>e=.returned (.string ⟨#[]⟩)∧w'=w:=by
 go_enter Tryz.func22,Tryz.ntmps22
 go_wp2
 go_ret
 exact ⟨rfl,rfl⟩
set_option maxRecDepth 1000000 in
theorem qmS (s:ByteArray) (w:World) :
  Calls Tryz.prog 22 #[.string s,.int .i64 1] w fun e w'=>e=.returned (.string s)∧w'=w:=by
 go_enter Tryz.func22,Tryz.ntmps22
 go_wp2
 go_ret
 exact ⟨rfl,rfl⟩
set_option maxHeartbeats 800000 in
set_option maxRecDepth 1000000 in
theorem qka (s:ByteArray) (c:Nat) (w:World) (hc2:2≤c) (hc:c≤9223372036854775807) (h0:s.size=0) :
  Calls Tryz.prog 22 #[.string s,.int .i64 c] w fun e w'=>e=.returned (.string ⟨#[]⟩)∧w'=w:=by
 have hMul:=qxx s.size c (by omega) (by omega) w
 rw [h0,Nat.zero_mul] at hMul
 go_enter Tryz.func22,Tryz.ntmps22
 go_wp2_with (go_at_call 62;go_fit hMul;rintro e w' ⟨rfl,hw⟩;rw [hw])
 go_ret
 exact ⟨rfl,rfl⟩
theorem qtc (s:ByteArray) (c:Nat) (w:World) (hc:c≤9223372036854775807) (hlen:s.size * c≤140737488355328) :
  Calls Tryz.prog 22 #[.string s,.int .i64 c] w fun e w'=>e=.returned (.string ⟨(Lib.repeatL s.data.toList c).toArray⟩)∧Below w.heap.size w w':=by
 match c,hc,hlen with
 |0,_,_=>exact (qlm s w).mono fun e w' ⟨he,hw⟩=>⟨he,hw ▸ Below.refl _ _⟩
 |1,_,_=>exact (qmS s w).mono fun e w' ⟨he,hw⟩=>⟨by rw [he,Lib.repeatL_one,Lib.mk_data],hw ▸ Below.refl _ _⟩
 |c+2,hc,hlen=>
  rcases Nat.eq_zero_or_pos s.size with h0|h0
  ·refine (qka s (c+2) w (by omega) hc h0).mono fun e w' ⟨he,hw⟩=>⟨?_,hw ▸ Below.refl _ _⟩
   have hnil:s.data.toList=[]:=List.eq_nil_of_length_eq_zero (by rw [← Lib.size_eq];exact h0)
   rw [he,hnil,Lib.repeatL_nil]
  ·exact qln s (c+2) w (by omega) hc hlen h0
end Go.Proofs.YtjgdjinhkgjpeabGreatDoor
