import Derived.Test.YtmpdnpljdcincaaGreatDoorZ8
import Derived.Test.YtmpdnpljdcincaaGreatDoorSpec
import Derived.Shelf.Strings.IndexAnyAll
import Derived.Shelf.Small.Utf8
import Derived.BigQuiet
import Derived.WalkMore
import Derived.Deep.QuietTactic
import Derived.Shelf.RegionOpenPlain
import Derived.Deep.LoopGhost
import Derived.Laws.Runes
import Derived.Laws.RangeString
import Derived.Lib.IndexBytes
import Derived.Laws.Strings3
import Derived.Test.YtmpdnpljdcincaaGreatDoorLaySplit
import Derived.Lib.SplitLaws
import Derived.Test.YtmpdnpljdcincaaGreatDoorLayIndexAny
import Derived.Test.YtmpdnpljdcincaaGreatDoorLayTrim
import Derived.Test.YtmpdnpljdcincaaGreatDoorLayTrimLeft
import Derived.Test.YtmpdnpljdcincaaGreatDoorLayCompare
import Derived.Test.YtmpdnpljdcincaaGreatDoorLayItoa
import Derived.Test.YtmpdnpljdcincaaGreatDoorLayAtoi
import Derived.Lib.AtoiErrMem
import Derived.Shelf.Strconv.Atoi
set_option linter.unusedVariables false
set_option linter.unusedSimpArgs false
set_option linter.defProp false
namespace Go.Proofs.YtmpdnpljdcincaaGreatDoor
open Nat renaming reduceAdd→zd
open Go.RowKit
def qk1:IC:=(sR [qO 2 (.mov (.c (.bool false)))] (sR [qM 3 0,qB 4 .geq 3 (.c (.int .u8 48)),qM 5 4,⟨some 6,.mov (.t 0),(some (5,true))⟩,⟨some 7,.bin .leq (.t 6) (.c (.int .u8 57)),(some (5,true))⟩,qO 8 (.pick (.t 5) (.t 7) (.c (.bool false))),qM 2 8] .ret))
def qkR:List IRes:=[.t 2]
theorem qo7:chkF Tryz.prog Tryz.f126 qk1 qkR 9=true:=by kernel_rfl
abbrev tStr:Nat:=9
def digB (c:UInt8):Bool:=decide (48≤(c.toNat:Int)) && decide ((c.toNat:Int)≤57)
section
variable {E:Envt}
theorem qs6 (c:UInt8):PCall Tryz.prog E 126 [.int .u8 (c.toNat:Nat)] (·=.bool (digB c)):=by
 refine qag mixed Tryz.func126 qo7 ?_
 simp only [a0,l0,OS.ao,List.map_cons,List.map_nil,List.length_cons,List.length_nil,List.cons_append,List.nil_append,Nat.reduceSub,zd,List.replicate_succ,List.replicate_zero,qk1,qkR,ZZ,WW,Ze,reduceCtorEq,zd,Nat.reduceMul,Nat.reduceLeDiff,Nat.reduceLT,Nat.reduceEqDiff]
 ((with_reducible and_intros)<;>try exact sc_)
def strE (l:List (List UInt8)):List (List PV):=l.map fun x=>[PV.str x]
theorem qai (l:List (List UInt8)):(strE l).length=l.length:=by simp [strE]
theorem qjR (l m:List (List UInt8)):strE (l++m)=strE l++strE m:=by simp [strE]
theorem qq5 (l:List (List UInt8)):strs l=.sl 1 (strE l):=rfl
theorem qjQ {l:List (List UInt8)} {k:Nat} {x:List UInt8} (h:l[k]?=some x):(strE l).getD k []=[.str x]:=qaC h
end
section
variable {E:Envt}
end
end Go.Proofs.YtmpdnpljdcincaaGreatDoor
namespace Go.Proofs.YtmpdnpljdcincaaGreatDoor
open Nat renaming le_refl→zM
open List renaming getElem?_of_mem→zW
open Bool renaming and_eq_true→zl,or_eq_true→zY
open _root_.Array renaming getElem?_eq_some_iff→zF
open Go.Lib Go.RowKit Go.Shelf
theorem qsN {s:ByteArray} {j:Nat} (h:j < s.size):s.get! j=s[j]'h:=by
 simp [ByteArray.get!,getElem!_pos,h]
 rfl
theorem qrH (s:ByteArray) (pos:Nat) (h:pos < s.size) (ha:128≤(s[pos]'h).toNat) :
  128≤(Utf8.decode s pos).1∧(Utf8.decode s pos).1≤1114111∧1≤(Utf8.decode s pos).2∧pos+(Utf8.decode s pos).2≤s.size∧∀ j (hj:j < s.size),pos≤j→j < pos+(Utf8.decode s pos).2→128≤(s[j]'hj).toNat:=by
 have g0:s.get! (pos+0)=s[pos]'h:=qsN h
 have hb:(s[pos]'h).toNat < 256:=(s[pos]'h).toNat_lt
 have hc:∀ k,(decide (pos+k < s.size) && ((s.get! (pos+k)).toNat / 64 == 2))=true→∃ hk:pos+k < s.size,128≤(s[pos+k]'hk).toNat:=by
  intro k hk
  simp only [zl,decide_eq_true_eq,beq_iff_eq] at hk
  refine ⟨hk.1,?_⟩
  have:=hk.2
  rw [qsN hk.1] at this
  omega
 have one:∀ j (hj:j < s.size),pos≤j→j < pos+1→128≤(s[j]'hj).toNat:=by
  intro j hj h1 h2
  obtain rfl:j=pos:=by omega
  exact ha
 have hw:∀ n,n≤4→(∀ k,1≤k→k < n→(decide (pos+k < s.size) && ((s.get! (pos+k)).toNat / 64 == 2))=true)→1≤n→pos+n≤s.size∧∀ j (hj:j < s.size),pos≤j→j < pos+n→128≤(s[j]'hj).toNat:=by
  intro n hn hk h1
  constructor
  ·by_cases e:n=1
   ·omega
   ·obtain ⟨hx,_⟩:=hc (n - 1) (hk (n - 1) (by omega) (by omega))
    omega
  ·intro j hj j1 j2
   by_cases e:j=pos
   ·subst e;exact ha
   ·obtain ⟨k,rfl⟩:∃ k,j=pos+k:=⟨j - pos,by omega⟩
    obtain ⟨_,hx⟩:=hc k (hk k (by omega) (by omega))
    exact hx
 unfold Utf8.decode
 simp only [g0]
 rw [if_neg (by omega)]
 split
 ·rename_i h1
  simp only [zl] at h1
  split
  ·rename_i h2
   refine ⟨by omega,by omega,(by show 1≤2;decide),?_⟩
   exact hw 2 (by decide) (fun k k1 k2=>by obtain rfl:k=1:=by omega
                                           simpa using h1.2) (by decide)
  ·exact ⟨by decide,by decide,by decide,by omega,one⟩
 ·split
  ·rename_i h1
   simp only [zl] at h1
   split
   ·rename_i h2
    simp only [zl,decide_eq_true_eq] at h2
    refine ⟨by omega,?_,(by show 1≤3;decide),?_⟩
    ·have:=h2.2
     rw [Utf8.valid] at this
     simp only [zY,zl,decide_eq_true_eq] at this
     omega
    ·exact hw 3 (by decide) (fun k k1 k2=>by
      rcases (show k=1∨k=2 by omega) with rfl|rfl
      ·simpa using h1.1.2
      ·simpa using h1.2) (by decide)
   ·exact ⟨by decide,by decide,by decide,by omega,one⟩
  ·split
   ·rename_i h1
    simp only [zl] at h1
    split
    ·rename_i h2
     simp only [zl,decide_eq_true_eq] at h2
     refine ⟨by omega,?_,(by show 1≤4;decide),?_⟩
     ·have:=h2.2
      rw [Utf8.valid] at this
      simp only [zY,zl,decide_eq_true_eq] at this
      omega
     ·exact hw 4 (by decide) (fun k k1 k2=>by
       rcases (show k=1∨k=2∨k=3 by omega) with rfl|rfl|rfl
       ·simpa using h1.1.1.2
       ·simpa using h1.1.2
       ·simpa using h1.2) (by decide)
    ·exact ⟨by decide,by decide,by decide,by omega,one⟩
   ·exact ⟨by decide,by decide,by decide,by omega,one⟩
theorem qlO {P:Program} (w:World) (g:Nat) (s:ByteArray) (pos:Nat) (ty:TypeId) (hg:w.heap[g]?=some (.stringIter s pos)) (h:pos < s.size) :
  (Instr.next (.pointer (some ⟨g,0,none⟩)) true ty).run P w=.ok (.tuple #[.bool true,.int .i64 pos,.int .i32 (Utf8.decode s pos).1]) { w with heap:=w.heap.setIfInBounds g (.stringIter s (pos+(Utf8.decode s pos).2)) }:=by
 simp only [Instr.next,getObj,setObj,Sem.run_bind,Sem.run,hg,Result.andThen,h,if_true]
 rfl
theorem qoi {P:Program} (w:World) (g:Nat) (s:ByteArray) (pos:Nat) (ty:TypeId) (hg:w.heap[g]?=some (.stringIter s pos)) (h:¬ pos < s.size) :
  (Instr.next (.pointer (some ⟨g,0,none⟩)) true ty).run P w=.ok (.tuple #[.bool false]) w:=by
 simp only [Instr.next,getObj,Sem.run_bind,Sem.run,hg,Result.andThen,h,if_false]
 rfl
theorem ql6 {l:List UInt8} {c:UInt8} (h:∀ b∈l,b≠c):Lib.indexByte l c=-1:=by
 have h1:=Lib.contains_iff_indexByte l c
 have h2:l.contains c=false:=by
  rw [Bool.eq_false_iff]
  intro h3
  exact h c (by simpa using h3) rfl
 rw [h2] at h1
 have h3:¬ (0:Int)≤Lib.indexByte l c:=of_decide_eq_false h1.symm
 have h4:-1≤Lib.indexByte l c:=by rw [← Lib.indexAny_one];exact Lib.indexAny_ge _ _
 omega
def Asc (s:ByteArray):Prop:=∀ (j:Nat) (b:UInt8),s.data.toList[j]?=some b→b.toNat < 128
theorem Asc.at' {s:ByteArray} (h:Asc s) {j:Nat} (hj:j < s.size):(s[j]'hj).toNat < 128:=h j _ (Lib.data_getElem? s j hj)
theorem Asc.rest {s:ByteArray} (h:Asc s) (i:Nat) {c:UInt8} (hc:128≤c.toNat):Lib.indexByte (s.extract i s.size).data.toList c=-1:=by
 refine ql6 fun b hb e=>?_
 have hb:=mem_extract hb
 obtain ⟨j,hj⟩:=zW hb
 have:=h j b hj
 rw [e] at this
 omega
theorem qqf {w wx:World} {s:ByteArray} {i:Nat} (hit:wx.heap[w.heap.size]?=some (.stringIter s i)) (hbl:Below w.heap.size w wx) (j:Nat) :
  ({ wx with heap:=wx.heap.setIfInBounds w.heap.size (.stringIter s j) }:World).heap[w.heap.size]?=some (.stringIter s j)∧Below w.heap.size w { wx with heap:=wx.heap.setIfInBounds w.heap.size (.stringIter s j) }:=by
 have hlt:w.heap.size < wx.heap.size:=(zF.1 hit).1
 refine ⟨by simp [hlt],hbl.os,hbl.tape,hbl.output,by simpa using hbl.size,fun b hb=>?_⟩
 rw [← hbl.block b hb]
 exact Array.getElem?_setIfInBounds_ne (by omega)
theorem qtq {s chars:ByteArray} (ha:Asc chars) {i n:Nat} (h:Lib.NoAny s.data.toList chars.data.toList i) (hn:∀ j (hj:j < s.size),i≤j→j < i+n→128≤(s[j]'hj).toNat):Lib.NoAny s.data.toList chars.data.toList (i+n):=by
 intro j b hj hb
 by_cases hji:j < i
 ·exact h j b hji hb
 ·have hjs:j < s.size:=by
   have:=(List.getElem?_eq_some_iff.1 hb).1
   rwa [← Lib.size_eq] at this
  have h1:=hn j hjs (by omega) hj
  have h2:s[j]'hjs=b:=by
   have:=Lib.data_getElem? s j hjs
   rw [this] at hb;exact Option.some.inj hb
  rw [h2] at h1
  rw [Bool.eq_false_iff]
  intro h3
  have h3:b∈chars.data.toList:=by simpa using h3
  obtain ⟨k,hk⟩:=zW h3
  have:=ha k b hk
  omega
theorem qrM {B:Nat} {a w:World} {n:Nat} (h:Below B a w):Below B a (w.drewN n):=⟨h.os,h.tape,h.output,h.size,h.block⟩
section
variable {P:Program} {ρ:Ren}
set_option maxHeartbeats 4000000 in
set_option maxRecDepth 1000000 in
theorem qpx (L:Lays.n152 P ρ) (s:ByteArray) (w:World) (hs:Asc s) :
  Calls P (ρ.f 152) #[.string s,.int .i32 65533] w fun e w'=>e=.returned (.int .i64 (-1))∧Below w.heap.size w w':=by
 have HA:Aside (Asc s):=hs
 clear hs
 have t3:=L.t3;have a3:=L.a3;have z3:=L.z3;have v3:=L.v3
 have t4:=L.t4;have a4:=L.a4;have z4:=L.z4;have v4:=L.v4
 have t5:=L.t5;have a5:=L.a5;have z5:=L.z5;have v5:=L.v5
 have t9:=L.t9;have a9:=L.a9;have z9:=L.z9;have v9:=L.v9
 have t21:=L.t21;have a21:=L.a21;have z21:=L.z21;have v21:=L.v21
 go_enter L.f152,Body.n152_ntmps ρ
 go_wp2
 go_loopg [5,6] s.size (fun g _ _ wx=>∃ i:Nat,i+g=s.size∧wx=w.iter s i)
 case atStart=>exact ⟨0,by omega,rfl⟩
 case round=>
  obtain ⟨i,hig,rfl⟩:=hrel
  cases gk with
  |zero=>
   obtain rfl:i=s.size:=by omega
   have hnx:=run_next_end (P:=P) w s s.size
   go_wp2
   go_ret
   exact ⟨rfl,(Below.refl _ _).alloc (zM _) _⟩
  |succ g=>
   have hi:i < s.size:=by omega
   have hx128:=HA.out.at' hi
   have hnx:=fun ty=>run_next_ascii (P:=P) w s i ty hi hx128
   have hne:(((s[i]'hi).toNat:Int) == 65533)=false:=beq_eq_false_iff_ne.2 (by omega)
   go_wp2
   go_roundg g
   case measure=>omega
   case rel=>exact ⟨i+1,by omega,rfl⟩
set_option maxHeartbeats 8000000 in
set_option maxRecDepth 1000000 in
theorem qpw (L:Lays.n152 P ρ) (s:ByteArray) (r:Int) (w:World) (hs:Asc s) (hz:s.size < 4611686018427387904) (h1:128≤r) (h2:r≤1114111) (h3:r≠65533) :
  Calls P (ρ.f 152) #[.string s,.int .i32 r] w fun e w'=>e=.returned (.int .i64 (-1))∧Below w.heap.size w w':=by
 have HA:Aside (Asc s):=hs
 clear hs
 have hne:(r == 65533)=false:=beq_eq_false_iff_ne.2 h3
 have hlt:decide (r < 128)=false:=decide_eq_false (by omega)
 have hle:decide (0≤r)=true:=decide_eq_true (by omega)
 have t3:=L.t3;have a3:=L.a3;have z3:=L.z3;have v3:=L.v3
 have t4:=L.t4;have a4:=L.a4;have z4:=L.z4;have v4:=L.v4
 have t5:=L.t5;have a5:=L.a5;have z5:=L.z5;have v5:=L.v5
 have t9:=L.t9;have a9:=L.a9;have z9:=L.z9;have v9:=L.v9
 have t21:=L.t21;have a21:=L.a21;have z21:=L.z21;have v21:=L.v21
 have mixed:=L.mixed
 have e119:∀ args w,(callFunc (ρ.f 119) args).run P w=.ok (.enter (ρ.f 119) args) w:=enters_of L.f119 (by kernel_rfl) rfl
 have e137:∀ args w,(callFunc (ρ.f 137) args).run P w=.ok (.enter (ρ.f 137) args) w:=enters_of L.f137 (by kernel_rfl) rfl
 by_cases hv:Lib.validRune r=true
 ·have hv2:Utf8.valid r=true:=by
   unfold Utf8.valid
   have h:=hv
   unfold Lib.validRune at h
   simp at h ⊢
   omega
  obtain ⟨m1,m2,m3⟩:=encode_facts r hv2 h1
  generalize hE:Utf8.encode r=rs at *
  obtain ⟨m,hm⟩:∃ m,rs.size=m+1:=⟨rs.size - 1,by omega⟩
  have hmr:m < rs.size:=by omega
  have m3':128≤(rs[m]'hmr).toNat:=by
   have h:=m3 (by omega)
   have e:rs.size - 1=m:=by omega
   simpa only [e] using h
  clear m3
  have w1:IntKind.i64.wrap ((rs.size:Int) - 1)=(m:Int):=by rw [wrap_small _ (by omega) (by omega)];omega
  have hx:=HA.out.rest (m+1) m3'
  have w4:m < s.size→IntKind.i64.wrap ((m:Int)+1)=(m:Int)+1:=fun _=>wrap_small _ (by omega) (by omega)
  clear hm m1 m2
  go_enter L.f152,Body.n152_ntmps ρ
  go_wp2_with (go_at_fn (ρ.f 119);refine (Any.utf8_ValidRune { L with } _ _).mono ?_;rintro e w' ⟨rfl,hw⟩;rw [hw])
  go_step3
  go_wp2
  go_loopg [9] 1 (fun g s9 wx=>g=1∧s9=.int .i64 (m:Int)∧wx=w)
  case atStart=>exact ⟨rfl,rfl,rfl⟩
  case round=>
   obtain ⟨rfl,rfl,rfl⟩:=hrel
   by_cases hin:m < s.size
   ·have w3:decide ((m:Int) < (s.size:Int))=true:=decide_eq_true (by omega)
    have hb:(((s[m]'hin).toNat:Int) == ((rs[m]'hmr).toNat:Int))=false:=beq_eq_false_iff_ne.2 (by have:=HA.out.at' hin;omega)
    have w4:=w4 hin
    have i3:(m:Int)+1≤(s.size:Int):=by omega
    have i4:¬ (s.size:Int) < (m:Int)+1:=by omega
    have i5:(0:Int)≤(m:Int)+1:=by omega
    have i6:((m:Int)+1).toNat=m+1:=by omega
    have i7:¬ (s.size:Int) < (m:Int):=by omega
    go_wp2_with fail
    go_step3
    go_wp2_with fail
    go_quiet_o (fail)
    go_wp2_with fail
    have hc:∀ W,Calls P (ρ.f 137) #[.string (s.extract (m+1) s.size),.int .u8 ((rs[m]'hmr).toNat:Int)] W fun e w'=>e=.returned (.int .i64 (-1))∧w'=W:=fun W=>by
     have h:=Any.strings_IndexByte (P:=P) (ρ:=ρ) { L with } (s.extract (m+1) s.size) ((rs[m]'hmr).toNat:Int) W
     rwa [show (((rs[m]'hmr).toNat:Int)).toNat.toUInt8=rs[m]'hmr from by simp,hx] at h
    go_quiet_o (exact (hc _).mono fun _ _ h=>⟨h.1,_,h.2⟩)
    go_wp2_with fail
    simp only [Exit.noGoto,Exit.inBlock,Exit.then]
    go_ret
    exact ⟨rfl,qrM (Below.refl _ _)⟩
   ·have w3:decide ((m:Int) < (s.size:Int))=false:=decide_eq_false (by omega)
    go_wp2
    rw [Exit.noGoto_ret]
    go_ret
    exact ⟨rfl,Below.refl _ _⟩
 ·have hv':Lib.validRune r=false:=Bool.eq_false_iff.2 hv
  go_enter L.f152,Body.n152_ntmps ρ
  go_wp2_with (go_at_fn (ρ.f 119);refine (Any.utf8_ValidRune { L with } _ _).mono ?_;rintro e w' ⟨rfl,rfl⟩)
  go_ret
  exact ⟨rfl,Below.refl _ _⟩
theorem qny (L:Lays.n152 P ρ) (s:ByteArray) (r:Int) (w:World) (hs:Asc s) (hz:s.size < 4611686018427387904) (h1:128≤r) (h2:r≤1114111) :
  Calls P (ρ.f 152) #[.string s,.int .i32 r] w fun e w'=>e=.returned (.int .i64 (-1))∧Below w.heap.size w w':=by
 by_cases h3:r=65533
 ·subst h3;exact qpx L s w hs
 ·exact qpw L s r w hs hz h1 h2 h3
set_option maxHeartbeats 8000000 in
set_option maxRecDepth 1000000 in
theorem qnB (L:Lays.n153 P ρ) (s chars:ByteArray) (w:World) (h2:2≤chars.size) (h8:s.size≤8) (hz:chars.size < 4611686018427387904) (hascii:Asc chars) :
  Calls P (ρ.f 153) #[.string s,.string chars] w fun e w'=>e=.returned (.int .i64 (Lib.indexAny s.data.toList chars.data.toList))∧Below w.heap.size w w':=by
 have HA:Aside (Asc chars):=hascii
 clear hascii
 have hemp:chars.toList.isEmpty=false:=by
  rw [Lib.toList_data]
  cases h:chars.data.toList with
  |nil=>have:=Lib.size_eq chars;rw [h,List.length_nil] at this;omega
  |cons _ _=>rfl
 have hn1:((chars.size:Int) == 1)=false:=beq_eq_false_iff_ne.2 (by omega)
 have h8z:decide ((8:Int) < (s.size:Int))=false:=decide_eq_false (by omega)
 have t3:=L.t3;have a3:=L.a3;have z3:=L.z3;have v3:=L.v3
 have t4:=L.t4;have a4:=L.a4;have z4:=L.z4;have v4:=L.v4
 have t5:=L.t5;have a5:=L.a5;have z5:=L.z5;have v5:=L.v5
 have t9:=L.t9;have a9:=L.a9;have z9:=L.z9;have v9:=L.v9
 have t21:=L.t21;have a21:=L.a21;have z21:=L.z21;have v21:=L.v21
 have e152:∀ args w,(callFunc (ρ.f 152) args).run P w=.ok (.enter (ρ.f 152) args) w:=enters_of L.f152 (by kernel_rfl) rfl
 have e226:∀ args w,(callFunc (ρ.f 226) args).run P w=.ok (.enter (ρ.f 226) args) w:=enters_of L.f226 (by kernel_rfl) rfl
 go_enter L.f153,Body.n153_ntmps ρ
 go_wp2_with (go_at_fn (ρ.f 226);refine (Any.strings_shouldUseASCIISet { L with } _ _).mono ?_;rintro e w' ⟨rfl,hw⟩;rw [hw,h8z])
 go_loopg [9,10] s.size (fun g _ _ wx=>∃ i:Nat,i≤s.size∧s.size - i≤g∧wx.heap[w.heap.size]?=some (.stringIter s i)∧Below w.heap.size w wx∧Lib.NoAny s.data.toList chars.data.toList i)
 case atStart=>exact ⟨0,by omega,by omega,by rw [World.iter_heap],(Below.refl _ _).alloc (zM _) _,Lib.NoAny.zero _ _⟩
 case round=>
  obtain ⟨i,his,hig,hit,hbl,hno⟩:=hrel
  have HN:Aside (Lib.NoAny s.data.toList chars.data.toList i):=hno
  clear hno
  by_cases hi:i < s.size
  ·obtain ⟨g,rfl⟩:∃ g,gk=g+1:=⟨gk - 1,by omega⟩
   by_cases hx128:(s[i]'hi).toNat < 128
   ·obtain ⟨x,hx⟩:∃ x:UInt8,s[i]'hi=x:=⟨_,rfl⟩
    have hnx:=fun ty=>qlO (P:=P) wr w.heap.size s i ty hit hi
    obtain ⟨k1,k2⟩:=qqf hit hbl (i+1)
    rw [decode_ascii s i hi hx128] at hnx
    simp only [hx] at hnx hx128
    have hxl:s.data.toList[i]?=some x:=by rw [← hx];exact Lib.data_getElem? s i hi
    generalize hW:({ wr with heap:=wr.heap.setIfInBounds w.heap.size (.stringIter s (i+1)) }:World)=W1 at *
    have Hx:Aside (s.data.toList[i]?=some x):=hxl
    clear hxl hx hW
    have hcon:=Lib.contains_iff_indexByte chars.data.toList x
    have hback:((x.toNat:Int)).toNat.toUInt8=x:=by simp
    cases hin:chars.data.toList.contains x
    ·rw [hin] at hcon
     have hlt:¬ ((0:Int)≤Lib.indexByte chars.data.toList x):=of_decide_eq_false hcon.symm
     clear hcon
     go_wp2_with (go_at_fn (ρ.f 152);refine (Any.strings_IndexRune_ascii { L with } _ _ _ (by omega) (by omega)).mono ?_;rintro e w' ⟨rfl,hw⟩;rw [hw,hback])
     go_roundg g
     case measure=>omega
     case rel=>exact ⟨i+1,by omega,by omega,k1,k2,HN.out.succ Hx.out hin⟩
    ·rw [hin] at hcon
     have hge:(0:Int)≤Lib.indexByte chars.data.toList x:=of_decide_eq_true hcon.symm
     clear hcon
     go_wp2_with (go_at_fn (ρ.f 152);refine (Any.strings_IndexRune_ascii { L with } _ _ _ (by omega) (by omega)).mono ?_;rintro e w' ⟨rfl,hw⟩;rw [hw,hback])
     go_ret
     exact ⟨by rw [Lib.indexAny_hit HN.out Hx.out hin];rfl,k2⟩
   ·obtain ⟨d1,d2,d3,d4,d5⟩:=qrH s i hi (by omega)
    have hnx:=fun ty=>qlO (P:=P) wr w.heap.size s i ty hit hi
    obtain ⟨k1,k2⟩:=qqf hit hbl (i+(Utf8.decode s i).2)
    generalize hW:({ wr with heap:=wr.heap.setIfInBounds w.heap.size (.stringIter s (i+(Utf8.decode s i).2)) }:World)=W1 at *
    have H5:Aside (Lib.NoAny s.data.toList chars.data.toList (i+(Utf8.decode s i).2)):=qtq HA.out HN.out d5
    clear d5 hW
    generalize (Utf8.decode s i).2=wd at *
    generalize hcc:(((Utf8.decode s i).1:Nat):Int)=cc at *
    have hc1:128≤cc:=by omega
    have hc2:cc≤1114111:=by omega
    clear hcc d1 d2
    have hneg:¬ (0:Int)≤-1:=by decide
    go_wp2_with (go_at_fn (ρ.f 152);refine (qny { L with } chars cc W1 HA.out hz hc1 hc2).mono ?_;rintro e w' ⟨rfl,hw⟩)
    go_roundg g
    case measure=>omega
    case rel=>exact ⟨i+wd,by omega,by omega,by rw [hw.block _ (zF.1 k1).1];exact k1,k2.trans (hw.mono k2.size),H5.out⟩
  ·obtain rfl:i=s.size:=by omega
   have hnx:=fun ty=>qoi (P:=P) _ _ s s.size ty hit (by omega)
   go_wp2
   go_ret
   exact ⟨by rw [Lib.indexAny_none (by rw [← Lib.size_eq];exact HN.out)];rfl,hbl⟩
theorem qqT (L:Lays.n153 P ρ) (h116:(P.info? (ρ.t 116)).map (fun i=>(i.zero,i.size))=some (some (.agg (Array.replicate 256 (.bool false))),256)) (s chars:ByteArray) (w:World) (hs:s.size < 4294967281) (hcs:chars.size < 4294967281) (hac:Asc chars) :
  Calls P (ρ.f 153) #[.string s,.string chars] w fun e w'=>e=.returned (.int .i64 (Lib.indexAny s.data.toList chars.data.toList))∧Below w.heap.size w w':=by
 by_cases h0:chars.size=0
 ·exact (Any.strings_IndexAny_none L s chars w h0).mono fun e w' ⟨h1,h2⟩=>⟨h1,h2 ▸ Below.refl _ _⟩
 by_cases h1:chars.size=1
 ·exact (Any.strings_IndexAny_one L s chars w h1 hac).mono fun e w' ⟨h1,h2⟩=>⟨h1,h2 ▸ Below.refl _ _⟩
 by_cases h8:s.size≤8
 ·exact qnB L s chars w (by omega) h8 (by omega) hac
 ·refine (Any.strings_IndexAny_long L (zero_of_info h116).1 (zero_of_info h116).2 s chars w (by omega) (by omega) hs hcs hac).mono fun e w' ⟨h1,h2⟩=>⟨h1,?_⟩
  rw [h2]
  exact ((Below.refl _ _).alloc (zM _) _).alloc (by simp) _
end
end Go.Proofs.YtmpdnpljdcincaaGreatDoor
namespace Go.Proofs.YtmpdnpljdcincaaGreatDoor
open Nat renaming le_refl→zM,reduceAdd→zd
open List renaming length_cons→zj
open Bool renaming and_eq_true→zl,or_eq_true→zY
open Go.RowKit
def splF (s:List UInt8) (c:UInt8):List (List UInt8):=(Lib.splitB ⟨#[c]⟩ 0 (Lib.countB ⟨s.toArray⟩ ⟨#[c]⟩) ⟨s.toArray⟩).map (·.data.toList)
theorem qlN (sep:ByteArray):∀ (k:Nat) (s:ByteArray),(Lib.splitB sep 0 k s).length≤k+1∧∀ x∈Lib.splitB sep 0 k s,x.size≤s.size:=by
 intro k
 induction k with
 |zero=>intro s;simp [Lib.splitB]
 |succ k ih=>
  intro s
  unfold Lib.splitB
  split
  ·simp
  ·have:=ih (s.extract ((Lib.indexB s sep).toNat+sep.size) s.size)
   refine ⟨by simp;omega,fun x hx=>?_⟩
   simp only [List.mem_cons] at hx
   rcases hx with rfl|hx
   ·simp;omega
   ·have:=this.2 x hx;simp at this;omega
theorem qwh (s:List UInt8) (c:UInt8):(splF s c).length≤s.length+1:=by
 have h1:=(qlN ⟨#[c]⟩ (Lib.countB ⟨s.toArray⟩ ⟨#[c]⟩) ⟨s.toArray⟩).1
 have h2:=Lib.countB_le ⟨#[c]⟩ (zM 1) (⟨s.toArray⟩:ByteArray).size ⟨s.toArray⟩ (zM _)
 rw [qeH] at h2
 simp only [splF,List.length_map]
 omega
theorem qwg (s:List UInt8) (c:UInt8):∀ x∈splF s c,x.length≤s.length:=by
 intro x hx
 simp only [splF,List.mem_map] at hx
 obtain ⟨y,hy,rfl⟩:=hx
 have:=(qlN ⟨#[c]⟩ (Lib.countB ⟨s.toArray⟩ ⟨#[c]⟩) ⟨s.toArray⟩).2 y hy
 rw [qeH] at this
 rw [Array.length_toList]
 exact this
theorem qnM {w:World} {U:Nat→Prop} {b:Nat}:∀ (l:List ByteArray) (off:Nat),(∀ i x,l[i]?=some x→w.cell? ⟨b,off+i,none⟩=some (.string x))→PRepE w U b 1 off ((l.map (·.data.toList)).map fun x=>[.str x])
 |[],off,h=>trivial
 |x :: r,off,h=>by
  refine ⟨rfl,⟨⟨.string x,by simpa using h 0 _ rfl,rfl,?_⟩,trivial⟩,qnM r (off+1) fun i u hu=>?_⟩
  ·simp [PRep]
  ·have:=h (i+1) u (by simpa using hu)
   rwa [show off+(i+1)=off+1+i from by omega] at this
theorem qyA:(Tryz.prog.info? 9).map (fun i=>(i.zero,i.size,i.bytes))=some (some (.string ByteArray.empty),1,16):=by kernel_rfl
theorem qxO (s:List UInt8) (c:UInt8) (hs:s.length≤1000000000):PCall Tryz.prog E0 209 [.str s,.str [c]] (·=strs (splF s c)):=by
 intro w U vs hU hE hEb hA
 obtain ⟨_,m,hm⟩:=hE
 simp only [PRepL,PRep] at hA
 obtain ⟨v,r,rfl,rfl,v2,r2,rfl,rfl,rfl⟩:=hA
 refine (Any.strings_Split Tryz.laySplit qyA ⟨s.toArray⟩ ⟨#[c]⟩ m w (by rw [qeH];omega) hm (zM 1)).mono ?_
 rintro e w' ⟨rfl,rfl⟩
 have hl:=Lib.splitB_all ⟨#[c]⟩ (zM 1) 0 _ (⟨s.toArray⟩:ByteArray) rfl
 refine ⟨_,_,rfl,rfl,?_,⟨rfl,rfl,rfl,by simp,fun k hk _=>Lib.alloc_old w _ k hk⟩⟩
 have hln:(List.map (fun x=>[PV.str x]) (splF s c)).length=Lib.countB ⟨s.toArray⟩ ⟨#[c]⟩+1:=by simp [splF,hl]
 refine ⟨some ⟨w.heap.size,0,none⟩,Lib.countB ⟨s.toArray⟩ ⟨#[c]⟩+1,by rw [hln],by rw [hln];exact zM _,fun _=>⟨w.heap.size,0,rfl,by simp,fun h=>by have:=hU _ h;omega,?_⟩⟩
 ·refine qnM _ 0 fun i x hx=>?_
  rw [Lib.cell_of_heap (heap_alloc_new w _)]
  simp [hx]
def qh0:IC:=(sR [qO 4 (.mov (.c (.bool false)))] (sR [qM 5 0,qM 6 1,qO 7 (.call 167 [.t 5,.t 6]),qB 8 .eql 7 (.c (.str [])),qM 4 8] .ret))
def qhS:List IRes:=[.t 4]
theorem qlI:chkF Tryz.prog Tryz.f127 qh0 qhS 9=true:=by kernel_rfl
def qrp (s of:List UInt8):Bool:=decide (Lib.trimS s of=[])
theorem dropW_nil {p:UInt8→Bool}:∀ {l:List UInt8},l.dropWhile p=[]↔l.all p=true
 |[]=>by simp
 |x :: r=>by
  simp only [List.dropWhile,List.all_cons]
  cases h:p x
  ·simp
  ·simpa using dropW_nil (l:=r)
theorem qjm (s of:List UInt8):qrp s of=s.all (fun c=>of.contains c):=by
 rw [Bool.eq_iff_iff,qrp,decide_eq_true_iff,Lib.trimS,Lib.trimLeftS,Lib.trimRightS,dropW_nil]
 constructor
 ·intro h
  have h2:∀ l:List UInt8,(l.dropWhile fun c=>of.contains c).all (fun c=>of.contains c)=true→l.all (fun c=>of.contains c)=true:=by
   intro l
   induction l with
   |nil=>simp
   |cons x r ih=>
    simp only [List.dropWhile]
    cases hx:of.contains x
    ·intro h;exact h
    ·intro h;simp only [List.all_cons,hx,Bool.true_and];exact ih h
  have:=h2 s.reverse (by simpa [List.all_reverse] using h)
  simpa [List.all_reverse] using this
 ·intro h
  have:(s.reverse.dropWhile fun c=>of.contains c)=[]:=dropW_nil.2 (by simpa [List.all_reverse] using h)
  rw [this]
  simp
section
variable {E:Envt}
def asc (l:List UInt8):Bool:=l.all fun b=>decide (b.toNat < 128)
theorem qvO {l:List UInt8} (h:asc l=true):∀ (j:Nat) b,(⟨l.toArray⟩:ByteArray).data.toList[j]?=some b→b.toNat < 128:=
 fun _ b hb=>of_decide_eq_true (List.all_eq_true.1 h b (List.mem_of_getElem? (by simpa using hb)))
theorem qrZ (s cs:List UInt8) (hs:s.length≤1000000000) (hcs:cs.length≤1000000) (h2:asc cs=true):PCall Tryz.prog E 141 [.str s,.str cs] (·=int (Lib.indexAny s cs)):=
 qbp rfl rfl fun w _=>(qqT Tryz.layIndexAny (by kernel_rfl) ⟨s.toArray⟩ ⟨cs.toArray⟩ w (by rw [qeH];omega) (by rw [qeH];omega) (qvO h2)).mono fun e w' h=>⟨h.1,qc0 h.2⟩
theorem qic (s cs:List UInt8) (hs:s.length≤1000000000) (hcs:cs.length≤1000000) (h2:asc cs=true):PCall Tryz.prog E 167 [.str s,.str cs] (·=.str (Lib.trimS s cs)):=
 qbp rfl rfl fun w _=>(Any.strings_Trim_laid Tryz.layTrim (by kernel_rfl) ⟨s.toArray⟩ ⟨cs.toArray⟩ w (by rw [qeH];omega) (by rw [qeH];omega) (qvO h2)).mono fun e w' h=>⟨h.1,qc0 h.2⟩
theorem qnw (s cs:List UInt8) (hcs:cs.length≤1000000) (h2:asc cs=true):PCall Tryz.prog E 144 [.str s,.str cs] (·=.str (Lib.trimLeftS s cs)):=
 qbp rfl rfl fun w _=>(Any.strings_TrimLeft_laid Tryz.layTrimLeft (by kernel_rfl) ⟨s.toArray⟩ ⟨cs.toArray⟩ w (by rw [qeH];omega) (qvO h2)).mono fun e w' h=>⟨h.1,qc0 h.2⟩
theorem qoN (s of:List UInt8) (hs:s.length≤1000000000) (ho:of.length≤1000) (ha:asc of=true):PCall Tryz.prog E 127 [.str s,.str of] (·=.bool (qrp s of)):=by
 refine qag mixed Tryz.func127 qlI ?_
 simp only [a0,l0,OS.ao,List.map_cons,List.map_nil,zj,List.length_nil,List.cons_append,List.nil_append,Nat.reduceSub,zd,List.replicate_succ,List.replicate_zero,qh0,qhS,ZZ,WW,Ze,reduceCtorEq,zd,Nat.reduceMul,Nat.reduceLeDiff,Nat.reduceLT,Nat.reduceEqDiff]
 refine use1 (qic s of hs (by omega) ha) rfl (.inl rfl) ?_
 refine zS ?_
 rfl
end
theorem qtP {P:Program} {w w':World} {n:String} {g:Nat} (hg:P.globalNamed n=some g) (hb:w'.heap[g]?=w.heap[g]?):w'.var? P n=w.var? P n:=by
 simp only [World.var?,hg,Option.bind_some,hb]
def E2:Envt where
 ok w:=Lib.TabIs Tryz.prog w "internal/strconv.uint64pow10" .u64 Lib.pow10Tab∧∃ ev,w.cell? ⟨4,0,none⟩=some ev∧(ev=.nilIface∨∃ te pe,ev=.iface te pe)
 bl b:=b=3∨b=4
 mono w w' hb h:=⟨(qtP (by kernel_rfl) (hb _ (.inl rfl))).trans h.1,h.2.imp fun ev h=>⟨(World.cell?_of_block (w:=w) (hb _ (.inr rfl))).trans h.1,h.2⟩⟩
theorem qw6 (w:World) (k:Nat) (os:Array Obj):Grow w (Sort.grow (w.drewN k) os) (fun _=>False):=⟨rfl,rfl,rfl,by simp [Sort.grow,World.drewN],fun b hb _=>by simp [Sort.grow,World.drewN,Array.getElem?_append_left hb]⟩
theorem qrY (n:Int) (h0:-9223372036854775808≤n) (h1:n≤9223372036854775807):PCall Tryz.prog E2 100 [int n] (·=.str (Lib.itoa n)):=
 qbp rfl rfl fun w hE=>(Any.strconv_Itoa Tryz.layItoa n h0 h1 w hE.1).mono fun e w' h=>⟨h.1,by obtain ⟨k,os,rfl⟩:=h.2;exact qw6 w k os⟩
theorem qAx (s:List UInt8) (hs:s.length≤18):PCall Tryz.prog E2 145 [.str s] (fun x=>∃ v,x=.tup [int ((Lib.atoi s).getD 0),.raw v]):=by
 intro w U vs hU hE hEb hA
 have:vs=[.string ⟨s.toArray⟩]:=(PRepL.valD rfl).1 hA
 subst this
 have hsz:(⟨s.toArray⟩:ByteArray).size≤18:=by rw [qeH];exact hs
 cases ha:Lib.atoi s with
 |some n=>
  refine (Any.strconv_Atoi { Tryz.layAtoi with } ⟨s.toArray⟩ n hsz (by simpa using ha) w).mono ?_
  rintro e w' ⟨rfl,t,rfl⟩
  exact ⟨_,_,rfl,⟨.nilIface,rfl⟩,⟨[_,_],rfl,_,_,rfl,rfl,_,_,rfl,⟨rfl,rfl⟩,rfl⟩,qc0 (Lib.bytesWorld_below _ _ _)⟩
 |none=>
  obtain ⟨ev,hv,hev⟩:=hE.2
  refine (Any.strconv_Atoi_err Tryz.layAtoi ⟨s.toArray⟩ hsz (by simpa using ha) ev w hv hev).mono ?_
  rintro e w' ⟨N,rfl,_,_,hb⟩
  exact ⟨_,_,rfl,⟨.iface _ _,rfl⟩,⟨[_,_],rfl,_,_,rfl,rfl,_,_,rfl,⟨rfl,rfl⟩,rfl⟩,qc0 hb⟩
def figL:List UInt8:=[48,49,50,51,52,53,54,55,56,57]
def qlR (c:UInt8):Bool:=decide ((c.toNat:Int) < 65) || decide ((90:Int) < (c.toNat:Int))
def qke (s:List UInt8):Bool:=(s.all fun c=>!qlR c) && inE s.length 1 8
def qd8 (p:List UInt8) (d:Int):Int:=qah [qak (!qke p) 3,qak (!inE d 4 9) 1]
def powF (d:Int):Int:=(10:Int) ^ d.toNat
def qmB (it:Int→List UInt8) (p:List UInt8) (d n:Int):List UInt8:=p++Lib.repeatL [48] (max 0 (d - (it n).length)).toNat++it n
def numG (it:Int→List UInt8) (p:List UInt8) (d n:Int):List UInt8×Int:=if qd8 p d=0 then (if inE n 1 (powF d - 1)=true then (qmB it p d n,0) else ([],1)) else ([],qd8 p d)
def quv (s:List UInt8):Bool:=(decide ((1:Int)≤s.length) && decide ((s.length:Int)≤8)) && qrp s capL
def nfF (p:List UInt8) (d:Int):Int:=if quv p=true then (if (decide (d < 4) || decide (9 < d))=true then 1 else 0) else 3
def nofG (it:Int→List UInt8) (p:List UInt8) (d n:Int):List UInt8×Int:=if nfF p d=0 then (if (decide (n < 1) || decide (powF d≤n))=true then ([],1) else (p++(it (powF d+n)).drop 1,0)) else ([],nfF p d)
def qlC (l:List UInt8):Nat:=l.foldl (fun n c=>10 * n+(c.toNat - 48)) 0
abbrev Four:=List UInt8×Int×Int×Int
def badF:Four:=([],0,0,9)
def qmT (t:List UInt8):Four:=
 if Lib.indexAny t figL < 0∨qd8 (t.take (Lib.indexAny t figL).toNat) (t.length - Lib.indexAny t figL)≠0 then badF
 else if (t.drop (Lib.indexAny t figL).toNat).all digB=false then badF
 else if qlC (t.drop (Lib.indexAny t figL).toNat)=0 then badF
 else (t.take (Lib.indexAny t figL).toNat,t.length - Lib.indexAny t figL,qlC (t.drop (Lib.indexAny t figL).toNat),0)
def qqp (it:Int→List UInt8) (t:List UInt8):Four:=
 if (decide (((Lib.trimLeftS t capL).length:Int)≤9) && qrp (Lib.trimLeftS t capL) figL)=true then
  (if (nofG it (t.take (t.length - (Lib.trimLeftS t capL).length)) (Lib.trimLeftS t capL).length ((Lib.atoi (Lib.trimLeftS t capL)).getD 0)).2=0∧(nofG it (t.take (t.length - (Lib.trimLeftS t capL).length)) (Lib.trimLeftS t capL).length ((Lib.atoi (Lib.trimLeftS t capL)).getD 0)).1=t
   then (t.take (t.length - (Lib.trimLeftS t capL).length),(Lib.trimLeftS t capL).length,(Lib.atoi (Lib.trimLeftS t capL)).getD 0,0) else badF)
 else badF
def dd:Nat→Nat→List UInt8
 |0,_=>[]
 |f+1,u=>if u < 10 then [UInt8.ofNat (48+u)] else dd f (u / 10)++[UInt8.ofNat (48+u % 10)]
theorem qAa:∀ (f u:Nat),u < 10 ^ f→0 < f→Lib.decDigits u=dd f u
 |0,u,_,h=>absurd h (by decide)
 |f+1,u,h,_=>by
  rw [Lib.decDigits,dd]
  by_cases hu:u < 10
  ·rw [dif_pos hu,if_pos hu]
  ·rw [dif_neg hu,if_neg hu]
   have hf:0 < f:=by
    rcases Nat.eq_zero_or_pos f with rfl|h'
    ·simp at h;omega
    ·exact h'
   rw [qAa f (u / 10) (by rw [Nat.pow_succ] at h;omega) hf]
def itD (n:Int):List UInt8:=if n < 0 then 45 :: dd 12 n.natAbs else dd 12 n.toNat
theorem qsJ {n:Int} (h0:-100000000000≤n) (h1:n≤100000000000):Lib.itoa n=itD n:=by
 unfold Lib.itoa itD
 split
 ·rw [qAa 12 _ (by omega) (by decide)]
 ·rw [qAa 12 _ (by omega) (by decide)]
theorem qjk {d:Int} (h:d≤9):1≤powF d∧powF d≤1000000000:=by
 unfold powF
 have h1:(10:Nat) ^ d.toNat≤10 ^ 9:=Nat.pow_le_pow_right (by decide) (by omega)
 have h2:1≤(10:Nat) ^ d.toNat:=Nat.one_le_pow _ _ (by decide)
 have h3:((10:Int) ^ d.toNat)=(((10:Nat) ^ d.toNat:Nat):Int):=by simp
 rw [h3]
 omega
theorem qh1 {p:List UInt8} {d:Int} (h:qd8 p d=0):4≤d∧d≤9∧p.length≤8:=by
 have hm:=qn1 h
 have h1:=hm (qak (!qke p) 3) (by simp)
 have h2:=hm (qak (!inE d 4 9) 1) (by simp)
 unfold qak at h1 h2
 split at h1
 ·cases h1
 split at h2
 ·cases h2
 rename_i a1 a2
 simp only [Bool.not_eq_true',Bool.not_eq_false] at a1 a2
 simp only [qke,inE,zl,decide_eq_true_eq] at a1 a2
 omega
theorem qsE {p:List UInt8} {d:Int} (h:nfF p d=0):4≤d∧d≤9∧p.length≤8:=by
 unfold nfF at h
 split at h
 ·rename_i h1
  split at h
  ·cases h
  ·rename_i h2
   simp only [zY,decide_eq_true_eq,not_or] at h2
   simp only [quv,zl,decide_eq_true_eq] at h1
   omega
 ·cases h
theorem qzC {p:List UInt8} {d n:Int} (h0:-100≤n) (h1:n≤1000000000):numG Lib.itoa p d n=numG itD p d n:=by
 unfold numG qmB
 rw [qsJ (by omega) (by omega)]
theorem quT {p:List UInt8} {d n:Int} (h1:n≤1000000000):nofG Lib.itoa p d n=nofG itD p d n:=by
 unfold nofG
 split
 ·rename_i h
  have:=qjk (qsE h).2.1
  split
  ·rfl
  ·rename_i h2
   simp only [zY,decide_eq_true_eq,not_or] at h2
   rw [qsJ (by omega) (by omega)]
 ·rfl
theorem qvN (l:List UInt8) (h:l.length≤9):-1000000000≤(Lib.atoi l).getD 0∧(Lib.atoi l).getD 0≤1000000000:=by
 have dig:∀ (l:List UInt8) (acc m:Nat),Lib.decFrom acc l=some m→m < (acc+1) * 10 ^ l.length:=by
  intro l
  induction l with
  |nil=>intro acc m h;simp [Lib.decFrom] at h;subst h;simp
  |cons b r ih=>
   intro acc m h
   simp only [Lib.decFrom] at h
   split at h
   ·rename_i dg hd
    have hdl:dg≤9:=by
     unfold Lib.digitVal at hd
     split at hd
     ·simp at hd;omega
     ·cases hd
    have:=ih _ _ h
    refine Nat.lt_of_lt_of_le this ?_
    rw [zj,Nat.pow_succ,Nat.mul_comm (10 ^ r.length) 10,← Nat.mul_assoc]
    exact Nat.mul_le_mul_right _ (by omega)
   ·cases h
 have dn:∀ (l:List UInt8) (m:Nat),l.length≤9→Lib.decNat l=some m→m < 1000000000:=by
  intro l m hl h
  unfold Lib.decNat at h
  split at h
  ·cases h
  ·have:=dig l 0 m h
   have h2:(10:Nat) ^ l.length≤10 ^ 9:=Nat.pow_le_pow_right (by decide) hl
   omega
 cases l with
 |nil=>simp [Lib.atoi]
 |cons b r=>
  have e:Lib.atoi (b :: r)=if b == 45 then (Lib.decNat r).map fun (m:Nat)=>-(m:Int) else if b == 43 then (Lib.decNat r).map fun (m:Nat)=>(m:Int) else (Lib.decNat (b :: r)).map fun (m:Nat)=>(m:Int):=rfl
  rw [e]
  have hr:r.length≤9:=by simp at h;omega
  by_cases h1:(b == 45)=true
  ·rw [if_pos h1]
   cases hh:Lib.decNat r with
   |none=>simp
   |some m=>have:=dn r m hr hh;simp;omega
  ·rw [if_neg h1]
   by_cases h2:(b == 43)=true
   ·rw [if_pos h2]
    cases hh:Lib.decNat r with
    |none=>simp
    |some m=>have:=dn r m hr hh;simp;omega
   ·rw [if_neg h2]
    cases hh:Lib.decNat (b :: r) with
    |none=>simp
    |some m=>have:=dn (b :: r) m h hh;simp;omega
def P6:List (List UInt8):=[[65,66],[65],[65,66,67,68,69,70,71,72],[65,66,67,68,69,70,71,72,73],[],[97]]
theorem qw9 (t:List UInt8):qqp Lib.itoa t=qqp itD t:=by
 unfold qqp
 split
 ·rename_i h
  simp only [zl,decide_eq_true_eq] at h
  have hb:=qvN (Lib.trimLeftS t capL) (by omega)
  rw [quT (by omega)]
 ·rfl
def T12:List (List UInt8):=[[],[65,66],[65,66,48,48,49],[65,66,48,48,48,48],[97,98,48,48,48,49],[65,66,48,48,48,48,49],[65,66,48,48,48,49,32],[65,66,67,68,69,70,71,72,73,48,48,48,49],[65,49,66,48,48,48,49],[65,66,48,48,48,48,48,48,48,48,48,49],[48,48,48,49],[65,66,57,57,57,57,57,57,57,57,57,57]]
theorem qur:∀ t∈T12,qmT t=qqp itD t∧asc t=true∧t.length≤20:=by decide +kernel
theorem quq:∀ p∈([[65,66],[67,68,69]]:List (List UInt8)),∀ d∈([4,6]:List Int),∀ n∈([1,2,3,4,5,6,7,8]:List Int),(nofG itD p d n).2=0∧qmT (nofG itD p d n).1=qqp itD (nofG itD p d n).1∧asc (nofG itD p d n).1=true∧(nofG itD p d n).1.length≤20:=by decide +kernel
end Go.Proofs.YtmpdnpljdcincaaGreatDoor
