import Derived.Test.YtehfjlpenlffmaaGreatDoorZ7
import Derived.Test.YtehfjlpenlffmaaGreatDoorLayIndex
import Derived.Test.YtehfjlpenlffmaaGreatDoorRep
import Derived.Test.YtehfjlpenlffmaaGreatDoorLayIndexByte
import Derived.Test.YtehfjlpenlffmaaGreatDoorSpec
import Derived.Shelf.Strings.IndexAnyAll
import Derived.Shelf.Small.Utf8
import Derived.BigQuiet
import Derived.WalkMore
import Derived.Deep.QuietTactic
import Derived.Shelf.RegionOpenPlain
import Derived.Deep.LoopGhost
import Derived.Laws.Runes
import Derived.Laws.RangeString
import Derived.Lib.IndexBytes
import Derived.Laws.Strings3
import Derived.Test.YtehfjlpenlffmaaGreatDoorLaySplit
import Derived.Lib.SplitLaws
import Derived.Test.YtehfjlpenlffmaaGreatDoorLayIndexAny
import Derived.Test.YtehfjlpenlffmaaGreatDoorLayTrim
import Derived.Test.YtehfjlpenlffmaaGreatDoorLayCompare
import Derived.Test.YtehfjlpenlffmaaGreatDoorLayCut
import Derived.Test.YtehfjlpenlffmaaGreatDoorLayItoa
import Derived.Lib.AtoiErrMem
import Derived.Shelf.Strconv.Atoi
import Derived.Test.YtehfjlpenlffmaaGreatDoorZ5
import Derived.Test.YtehfjlpenlffmaaGreatDoorZ4
set_option linter.unusedVariables false
set_option linter.unusedSimpArgs false
set_option linter.defProp false
namespace Go.Proofs.YtehfjlpenlffmaaGreatDoor
open Nat renaming reduceAdd→zd,reduceEqDiff→za,reduceLT→zf,reduceLeDiff→zb,reduceMul→ze,reduceSub→zu
open List renaming cons_append→zl,getD_eq_getElem?_getD→yh,length_cons→zi,length_map→zB,length_nil→zo,map_cons→zk,nil_append→zm,replicate_succ→zh,replicate_zero→zj
open Go.RowKit
def qyI (k:IntKind) (w:World) (a:Option Addr) (len cap:Nat) (zs:List Int):Prop:=
 (a=none∧len=0∧cap=0∧zs=[])∨
 ∃ x,a=some x∧len≤cap∧cap≤maxLen∧zs.length=cap∧(∀ i,i < zs.length→w.cell? (x.add i)=some (.int k (zs.getD i 0)))∧∀ n∈zs,(Lit.int k n).wf=true
theorem qqT {w:World} {U:Nat→Prop} {b:Nat}:∀ (l:List Int) (off:Nat),(∀ i,i < l.length→w.cell? ⟨b,off+i,none⟩=some (.int .i64 (l.getD i 0)))→PRepE w U b 1 off (l.map fun x=>[.int .i64 x])
 |[],off,h=>trivial
 |x :: r,off,h=>by
  refine ⟨rfl,⟨⟨_,by simpa using h 0 (by simp),rfl,rfl⟩,trivial⟩,qqT r (off+1) (fun i hi=>?_)⟩
  have:=h (i+1) (by simpa using hi)
  rw [show off+1+i=off+(i+1) from by omega]
  simpa using this
theorem qwa {w:World} {a:Option Addr} {len cap:Nat} {zs:List Int} (h:qyI .i64 w a len cap zs):PRep w (fun _=>False) (ints (zs.take len)) (.slice a len cap)∧(zs.take len).length≤9223372036854775807:=by
 rcases h with ⟨rfl,rfl,rfl,rfl⟩|⟨x,rfl,h1,h2,h3,h4,_⟩
 ·exact ⟨⟨none,0,rfl,by simp,fun h=>by simp at h⟩,by simp⟩
 ·have hl:(zs.take len).length=len:=by rw [List.length_take];omega
  refine ⟨⟨some x,cap,by rw [zB,hl],by rw [zB,hl];exact h1,fun hne=>?_⟩,by rw [hl];unfold maxLen at h2;omega⟩
  have h0:0 < len:=by
   rcases Nat.eq_zero_or_pos len with h'|h'
   ·subst h';simp at hne
   ·exact h'
  obtain ⟨b,off,spot⟩:=x
  have hc:=h4 0 (by omega)
  have hspot:spot=none:=by simpa [Addr.add] using World.cell?_spot hc
  subst hspot
  have hb:b < w.heap.size:=by
   have:=World.block_lt_of_cell? w _ hc
   simpa [Addr.add] using this
  refine ⟨b,off,rfl,hb,fun h=>h,qqT _ _ (fun i hi=>?_)⟩
  rw [hl] at hi
  have:=h4 i (by omega)
  rw [qcA] at this
  rw [this]
  congr 2
  rw [yh,yh,List.getElem?_take_of_lt hi]
theorem qzo {P:Program} {E:Envt} {f:FuncId} (h:∀ z:List Int,z.length≤9223372036854775807→PCall P E f [ints z] (·=.bool true)) (a0:Option Addr) (len0 cap0:Nat) (z0:List Int) (w:World) (h0:qyI .i64 w a0 len0 cap0 z0) (hok:E.ok w) (hbl:∀ b,E.bl b→b < w.heap.size) :
  Calls P f #[.slice a0 len0 cap0] w fun e w'=>e=.returned (.bool true)∧Below w.heap.size w w':=by
 obtain ⟨h1,h2⟩:=qwa h0
 refine (h _ h2 w (fun _=>False) [.slice a0 len0 cap0] (fun _ h=>h.elim) hok hbl ⟨_,[],rfl,h1,rfl⟩).mono ?_
 rintro e w' ⟨v,x,rfl,rfl,hv,hg⟩
 refine ⟨by rw [PRep.bool_eq hv],⟨hg.os,hg.tape,hg.output,hg.size,fun k hk=>hg.block k hk (fun h=>h)⟩⟩
theorem qhD (s:List UInt8):(⟨s.toArray⟩:ByteArray).size=s.length:=by simp [ByteArray.size]
section
variable {E:Envt}
theorem qwR (s:List UInt8) (n:Nat) (hn:n≤1000000) (hs:s.length≤1000000):PCall Tryz.prog E 44 [.str s,int n] (·=.str (Lib.repeatL s n)):=
 qbA rfl rfl fun w _=>(qtx ⟨s.toArray⟩ n w (by omega) (by rw [qhD];exact Nat.le_trans (Nat.mul_le_mul hs hn) (by decide))).mono fun e w' h=>⟨h.1,qiX h.2⟩
theorem qr0 (s p:List UInt8):PCall Tryz.prog E 132 [.str s,.str p] (·=.bool (Lib.hasPrefix s p)):=
 qbA rfl rfl fun w _=>(Any.strings_HasPrefix Tryz.layPrefix ⟨s.toArray⟩ ⟨p.toArray⟩ w).mono fun e w' h=>⟨h.1,by rw [h.2];exact Grow.refl _ _⟩
end
theorem qyJ (s t:List UInt8) (hs:s.length≤1000000000):PCall Tryz.prog E0 222 [.str s,.str t] (·=int (Lib.index s t)):=
 qbA rfl rfl fun w hE=>by
  obtain ⟨_,m,hm⟩:=hE
  exact (Any.strings_Index { Tryz.layIndex with } ⟨s.toArray⟩ ⟨t.toArray⟩ m w (by rw [qhD];omega) hm).mono fun e w' h=>⟨h.1,by rw [h.2];exact Grow.refl _ _⟩
def qdF:IC:=(sR [qT 11 .lss 10 9] (.seq (.cond (.t 11) .skip (.exit 0)) (.seq (.block 1 (sR [qX 12 1 8 10,qL 13 12,qM 6 13] (sR [qM 14 6,qB 15 .lss 14 (.c (.int .u8 32)),qM 16 15,⟨some 17,.mov (.t 1),(some (16,true))⟩,⟨some 18,.mov (.t 17),(some (16,true))⟩,⟨some 19,.mov (.t 6),(some (18,true))⟩,⟨some 20,.bin .eql (.t 19) (.c (.int .u8 10)),(some (18,true))⟩,⟨some 21,.pick (.t 18) (.t 20) (.c (.bool false)),(some (16,true))⟩,⟨some 22,.not (.t 21),(some (16,true))⟩,qO 23 (.pick (.t 16) (.t 22) (.c (.bool false))),qM 24 23,⟨some 25,.mov (.t 6),(some (24,false))⟩,⟨some 26,.bin .eql (.t 25) (.c (.int .u8 127)),(some (24,false))⟩,qO 27 (.pick (.t 24) (.c (.bool true)) (.t 26))] (.cond (.t 27) (sR [qO 4 (.mov (.c (.bool false)))] .ret) .skip)))) (.reg [qB 28 .add 10 (cI 1),qM 10 28]))))
def qeU:IC:=(sR [qO 4 (.mov (.c (.bool false)))] (.seq (sR [qM 7 0,qO 8 (.s2b 5 (.t 7)),qN 9 8,qO 10 (.mov (cI 0))] (.block 0 (.loop qdF))) (sR [qM 29 0,qO 30 (.call 208 [.t 29]),qM 4 30] .ret)))
def qeJ:List IRes:=[.t 4]
theorem qjj:chkF Tryz.prog Tryz.f147 qeU qeJ 31=true:=by kernel_rfl
theorem qnb {p:UInt8→Prop} (h:∀ n:Fin 256,p (UInt8.ofNat n.val)) (c:UInt8):p c:=by
 have:=h ⟨c.toNat,c.toNat_lt⟩
 simpa using this
def capL:List UInt8:=[65,66,67,68,69,70,71,72,73,74,75,76,77,78,79,80,81,82,83,84,85,86,87,88,89,90]
section
variable {E:Envt}
end
theorem qly (s:List UInt8) (feeds:Bool) (hs:s.length≤1000000000):PCall Tryz.prog E0 147 [.str s,.bool feeds] (·=.bool (visE s feeds)):=by
 refine qae mixed Tryz.func147 qjj ?_
 simp only [a0,l0,OS.ao,zk,List.map_nil,zi,zo,zl,zm,zu,zd,zh,zj,qeU,qeJ,ZZ,WW,Zd,reduceCtorEq,zd,ze,zb,zf,za]
 refine ⟨by omega,?_⟩
 have hln:(s.map fun q=>[PV.int .u8 (q.toNat:Nat)]).length=s.length:=by simp
 have hget:∀ k c,s[k]?=some c→(s.map fun q=>[PV.int .u8 (q.toNat:Nat)]).getD k []=[.int .u8 (c.toNat:Nat)]:=fun k c h=>qas h
 generalize (s.map fun q=>[PV.int .u8 (q.toNat:Nat)])=es at hln hget ⊢
 simp only [ZZ,WW,Zd,reduceCtorEq,zd,ze,zb,zf,za,hln]
 refine qad (fun n fr L=>∃ (k:Nat),k≤s.length∧n=s.length - k∧(((s.take k).all fun c=>!badB feeds c)=true)∧fr=(.p (.str s)::.p (.bool feeds)::oC (oB (.row (.l 8)::.p (int (s.length:Nat))::.p (int (k:Nat))::oE (oC []))))∧L=[(.l 8,.row es 5 1 false)]) (s.length) _ _ (by (simp only [ZZ,WW,Zd,reduceCtorEq,zd,ze,zb,zf,za];try trivial)) (by (simp only [ZZ,WW,Zd,reduceCtorEq,zd,ze,zb,zf,za];try trivial)) ⟨0,by omega,by omega,by simp,rfl,rfl⟩ ?_
 rintro n fr L ⟨k,hk,rfl,hall,rfl,rfl⟩
 simp only [qdF,ZZ,WW,Zd,reduceCtorEq,zd,ze,zb,zf,za]
 refine br ?_ ?_
 ·intro h
  have hlt:k < s.length:=by have:=of_decide_eq_true h;omega
  obtain ⟨c,hc⟩:∃ x,s[k]?=some x:=⟨_,List.getElem?_eq_getElem hlt⟩
  have hg:=hget k c hc
  have hnx:=qmr (p:=fun c=>!badB feeds c) hc
  simp only [ZZ,WW,Zd,reduceCtorEq,zd,ze,zb,zf,za,hg,hln]
  ((with_reducible and_intros)<;>try exact sc_)
  refine br ?_ ?_
  ·intro hb
   have hb:badB feeds c=true:=hb
   refine zS ?_
   have:(s.all fun c=>!badB feeds c)=false:=by
    rw [List.all_eq_false]
    exact ⟨c,List.mem_of_getElem? hc,by simp [hb]⟩
   simp [visE,this]
  ·intro hb
   have hb:badB feeds c=false:=hb
   refine zS ?_
   ((with_reducible and_intros)<;>try exact sc_)
   refine qac (s.length - (k+1)) _ _ (by omega) (by (simp only [ZZ,WW,Zd,reduceCtorEq,zd,ze,zb,zf,za];try trivial)) (by (simp only [ZZ,WW,Zd,reduceCtorEq,zd,ze,zb,zf,za];try trivial)) ⟨k+1,by omega,rfl,by rw [hnx,hall,hb];rfl,rfl,rfl⟩
 ·intro h
  have hge:s.length≤k:=by have:=of_decide_eq_false h;omega
  rw [List.take_of_length_le hge] at hall
  refine zS ?_
  refine use1 (qnM s (by omega)) rfl (.inl rfl) ?_
  refine zS ?_
  simp [visE,hall]
def qwD (s:List UInt8):Int:=if 20000 < s.length then 2 else if qgR s=true then 0 else 3
def ql1:IC:=(sR [qO 2 (.mov (.c (.bool false)))] (sR [qM 3 0,qB 4 .geq 3 (.c (.int .u8 48)),qM 5 4,⟨some 6,.mov (.t 0),(some (5,true))⟩,⟨some 7,.bin .leq (.t 6) (.c (.int .u8 57)),(some (5,true))⟩,qO 8 (.pick (.t 5) (.t 7) (.c (.bool false))),qM 2 8] .ret))
def qlN:List IRes:=[.t 2]
theorem qqh:chkF Tryz.prog Tryz.f139 ql1 qlN 9=true:=by kernel_rfl
abbrev tStr:Nat:=9
def digB (c:UInt8):Bool:=decide (48≤(c.toNat:Int)) && decide ((c.toNat:Int)≤57)
section
variable {E:Envt}
theorem qyQ (c:UInt8):PCall Tryz.prog E 139 [.int .u8 (c.toNat:Nat)] (·=.bool (digB c)):=by
 refine qae mixed Tryz.func139 qqh ?_
 simp only [a0,l0,OS.ao,zk,List.map_nil,zi,zo,zl,zm,zu,zd,zh,zj,ql1,qlN,ZZ,WW,Zd,reduceCtorEq,zd,ze,zb,zf,za]
 ((with_reducible and_intros)<;>try exact sc_)
def strE (l:List (List UInt8)):List (List PV):=l.map fun x=>[PV.str x]
theorem qag (l:List (List UInt8)):(strE l).length=l.length:=by simp [strE]
theorem qlE (l m:List (List UInt8)):strE (l++m)=strE l++strE m:=by simp [strE]
theorem qpp (l:List (List UInt8)):strs l=.sl 1 (strE l):=rfl
theorem qfH {l:List (List UInt8)} {k:Nat} {x:List UInt8} (h:l[k]?=some x):(strE l).getD k []=[.str x]:=qas h
end
section
variable {E:Envt}
end
end Go.Proofs.YtehfjlpenlffmaaGreatDoor
namespace Go.Proofs.YtehfjlpenlffmaaGreatDoor
open Go.Lib Go.RowKit Go.Shelf
theorem qnm {l:List UInt8} {c:UInt8} (h:∀ b∈l,b≠c):Lib.indexByte l c=-1:=by
 have h1:=Lib.contains_iff_indexByte l c
 have h2:l.contains c=false:=by
  rw [Bool.eq_false_iff]
  intro h3
  exact h c (by simpa using h3) rfl
 rw [h2] at h1
 have h3:¬ (0:Int)≤Lib.indexByte l c:=of_decide_eq_false h1.symm
 have h4:-1≤Lib.indexByte l c:=by rw [← Lib.indexAny_one];exact Lib.indexAny_ge _ _
 omega
def Asc (s:ByteArray):Prop:=∀ (j:Nat) (b:UInt8),s.data.toList[j]?=some b→b.toNat < 128
theorem Asc.rest {s:ByteArray} (h:Asc s) (i:Nat) {c:UInt8} (hc:128≤c.toNat):Lib.indexByte (s.extract i s.size).data.toList c=-1:=by
 refine qnm fun b hb e=>?_
 have hb:=mem_extract hb
 obtain ⟨j,hj⟩:=List.getElem?_of_mem hb
 have:=h j b hj
 rw [e] at this
 omega
section
variable {P:Program} {ρ:Ren}
end
end Go.Proofs.YtehfjlpenlffmaaGreatDoor
namespace Go.Proofs.YtehfjlpenlffmaaGreatDoor
open Nat renaming le_refl→zM,reduceAdd→zd,reduceEqDiff→za,reduceLT→zf,reduceLeDiff→zb,reduceMul→ze,reduceSub→zu
open List renaming cons_append→zl,length_cons→zi,length_nil→zo,map_cons→zk,map_nil→zr,mem_of_getElem?→zx,nil_append→zm,replicate_succ→zh,replicate_zero→zj
open Bool renaming true_and→ye
open Go.RowKit
def splF (s:List UInt8) (c:UInt8):List (List UInt8):=(Lib.splitB ⟨#[c]⟩ 0 (Lib.countB ⟨s.toArray⟩ ⟨#[c]⟩) ⟨s.toArray⟩).map (·.data.toList)
theorem qmX (sep:ByteArray):∀ (k:Nat) (s:ByteArray),(Lib.splitB sep 0 k s).length≤k+1∧∀ x∈Lib.splitB sep 0 k s,x.size≤s.size:=by
 intro k
 induction k with
 |zero=>intro s;simp [Lib.splitB]
 |succ k ih=>
  intro s
  unfold Lib.splitB
  split
  ·simp
  ·have:=ih (s.extract ((Lib.indexB s sep).toNat+sep.size) s.size)
   refine ⟨by simp;omega,fun x hx=>?_⟩
   simp only [List.mem_cons] at hx
   rcases hx with rfl|hx
   ·simp;omega
   ·have:=this.2 x hx;simp at this;omega
theorem qxg (s:List UInt8) (c:UInt8):(splF s c).length≤s.length+1:=by
 have h1:=(qmX ⟨#[c]⟩ (Lib.countB ⟨s.toArray⟩ ⟨#[c]⟩) ⟨s.toArray⟩).1
 have h2:=Lib.countB_le ⟨#[c]⟩ (zM 1) (⟨s.toArray⟩:ByteArray).size ⟨s.toArray⟩ (zM _)
 rw [qhD] at h2
 simp only [splF,List.length_map]
 omega
theorem qxf (s:List UInt8) (c:UInt8):∀ x∈splF s c,x.length≤s.length:=by
 intro x hx
 simp only [splF,List.mem_map] at hx
 obtain ⟨y,hy,rfl⟩:=hx
 have:=(qmX ⟨#[c]⟩ (Lib.countB ⟨s.toArray⟩ ⟨#[c]⟩) ⟨s.toArray⟩).2 y hy
 rw [qhD] at this
 rw [Array.length_toList]
 exact this
theorem qoY {w:World} {U:Nat→Prop} {b:Nat}:∀ (l:List ByteArray) (off:Nat),(∀ i x,l[i]?=some x→w.cell? ⟨b,off+i,none⟩=some (.string x))→PRepE w U b 1 off ((l.map (·.data.toList)).map fun x=>[.str x])
 |[],off,h=>trivial
 |x :: r,off,h=>by
  refine ⟨rfl,⟨⟨.string x,by simpa using h 0 _ rfl,rfl,?_⟩,trivial⟩,qoY r (off+1) fun i u hu=>?_⟩
  ·simp [PRep]
  ·have:=h (i+1) u (by simpa using hu)
   rwa [show off+(i+1)=off+1+i from by omega] at this
theorem qzz:(Tryz.prog.info? 9).map (fun i=>(i.zero,i.size,i.bytes))=some (some (.string ByteArray.empty),1,16):=by kernel_rfl
theorem qub (s:List UInt8) (c:UInt8) (hs:s.length≤1000000000):PCall Tryz.prog E0 242 [.str s,.str [c]] (·=strs (splF s c)):=by
 intro w U vs hU hE hEb hA
 obtain ⟨_,m,hm⟩:=hE
 simp only [PRepL,PRep] at hA
 obtain ⟨v,r,rfl,rfl,v2,r2,rfl,rfl,rfl⟩:=hA
 refine (Any.strings_Split Tryz.laySplit qzz ⟨s.toArray⟩ ⟨#[c]⟩ m w (by rw [qhD];omega) hm (zM 1)).mono ?_
 rintro e w' ⟨rfl,rfl⟩
 have hl:=Lib.splitB_all ⟨#[c]⟩ (zM 1) 0 _ (⟨s.toArray⟩:ByteArray) rfl
 refine ⟨_,_,rfl,rfl,?_,⟨rfl,rfl,rfl,by simp,fun k hk _=>Lib.alloc_old w _ k hk⟩⟩
 have hln:(List.map (fun x=>[PV.str x]) (splF s c)).length=Lib.countB ⟨s.toArray⟩ ⟨#[c]⟩+1:=by simp [splF,hl]
 refine ⟨some ⟨w.heap.size,0,none⟩,Lib.countB ⟨s.toArray⟩ ⟨#[c]⟩+1,by rw [hln],by rw [hln];exact zM _,fun _=>⟨w.heap.size,0,rfl,by simp,fun h=>by have:=hU _ h;omega,?_⟩⟩
 ·refine qoY _ 0 fun i x hx=>?_
  rw [Lib.cell_of_heap (heap_alloc_new w _)]
  simp [hx]
def qiW:IC:=(sR [qO 4 (.mov (.c (.bool false)))] (sR [qM 5 0,qM 6 1,qO 7 (.call 155 [.t 5,.t 6]),qB 8 .eql 7 (.c (.str [])),qM 4 8] .ret))
def qiL:List IRes:=[.t 4]
theorem qmO:chkF Tryz.prog Tryz.f143 qiW qiL 9=true:=by kernel_rfl
def qvV (s of:List UInt8):Bool:=decide (Lib.trimS s of=[])
theorem dropW_nil {p:UInt8→Bool}:∀ {l:List UInt8},l.dropWhile p=[]↔l.all p=true
 |[]=>by simp
 |x :: r=>by
  simp only [List.dropWhile,List.all_cons]
  cases h:p x
  ·simp
  ·simpa using dropW_nil (l:=r)
theorem qj8 (s of:List UInt8):qvV s of=s.all (fun c=>of.contains c):=by
 rw [Bool.eq_iff_iff,qvV,decide_eq_true_iff,Lib.trimS,Lib.trimLeftS,Lib.trimRightS,dropW_nil]
 constructor
 ·intro h
  have h2:∀ l:List UInt8,(l.dropWhile fun c=>of.contains c).all (fun c=>of.contains c)=true→l.all (fun c=>of.contains c)=true:=by
   intro l
   induction l with
   |nil=>simp
   |cons x r ih=>
    simp only [List.dropWhile]
    cases hx:of.contains x
    ·intro h;exact h
    ·intro h;simp only [List.all_cons,hx,ye];exact ih h
  have:=h2 s.reverse (by simpa [List.all_reverse] using h)
  simpa [List.all_reverse] using this
 ·intro h
  have:(s.reverse.dropWhile fun c=>of.contains c)=[]:=dropW_nil.2 (by simpa [List.all_reverse] using h)
  rw [this]
  simp
section
variable {E:Envt}
def asc (l:List UInt8):Bool:=l.all fun b=>decide (b.toNat < 128)
theorem qCu {l:List UInt8} (h:asc l=true):∀ (j:Nat) b,(⟨l.toArray⟩:ByteArray).data.toList[j]?=some b→b.toNat < 128:=
 fun _ b hb=>of_decide_eq_true (List.all_eq_true.1 h b (zx (by simpa using hb)))
theorem qgZ (s cs:List UInt8) (hs:s.length≤1000000000) (hcs:cs.length≤1000000) (h2:asc cs=true):PCall Tryz.prog E 155 [.str s,.str cs] (·=.str (Lib.trimS s cs)):=
 qbA rfl rfl fun w _=>(Any.strings_Trim_laid Tryz.layTrim (by kernel_rfl) ⟨s.toArray⟩ ⟨cs.toArray⟩ w (by rw [qhD];omega) (by rw [qhD];omega) (qCu h2)).mono fun e w' h=>⟨h.1,qiX h.2⟩
theorem qsy (s of:List UInt8) (hs:s.length≤1000000000) (ho:of.length≤1000) (ha:asc of=true):PCall Tryz.prog E 143 [.str s,.str of] (·=.bool (qvV s of)):=by
 refine qae mixed Tryz.func143 qmO ?_
 simp only [a0,l0,OS.ao,zk,zr,zi,zo,zl,zm,zu,zd,zh,zj,qiW,qiL,ZZ,WW,Zd,reduceCtorEq,zd,ze,zb,zf,za]
 refine use1 (qgZ s of hs (by omega) ha) rfl (.inl rfl) ?_
 refine zS ?_
 rfl
end
theorem quS {P:Program} {w w':World} {n:String} {g:Nat} (hg:P.globalNamed n=some g) (hb:w'.heap[g]?=w.heap[g]?):w'.var? P n=w.var? P n:=by
 simp only [World.var?,hg,Option.bind_some,hb]
theorem qx1 (w:World) (k:Nat) (os:Array Obj):Grow w (Sort.grow (w.drewN k) os) (fun _=>False):=⟨rfl,rfl,rfl,by simp [Sort.grow,World.drewN],fun b hb _=>by simp [Sort.grow,World.drewN,Array.getElem?_append_left hb]⟩
def qm1 (c:UInt8):Bool:=decide ((c.toNat:Int) < 65) || decide ((90:Int) < (c.toNat:Int))
def qk1 (s:List UInt8):Bool:=(s.all fun c=>!qm1 c) && inE s.length 1 8
def qfC (p:List UInt8) (d:Int):Int:=qaf [qah (!qk1 p) 3,qah (!inE d 4 9) 1]
def powF (d:Int):Int:=(10:Int) ^ d.toNat
def qw4 (it:Int→List UInt8) (p:List UInt8) (d n:Int):List UInt8:=p++Lib.repeatL [48] (max 0 (d - (it n).length)).toNat++it n
def numG (it:Int→List UInt8) (p:List UInt8) (d n:Int):List UInt8×Int:=if qfC p d=0 then (if inE n 1 (powF d - 1)=true then (qw4 it p d n,0) else ([],1)) else ([],qfC p d)
def qxC (s:List UInt8):Bool:=(decide ((1:Int)≤s.length) && decide ((s.length:Int)≤8)) && qvV s capL
def nfF (p:List UInt8) (d:Int):Int:=if qxC p=true then (if (decide (d < 4) || decide (9 < d))=true then 1 else 0) else 3
def dd:Nat→Nat→List UInt8
 |0,_=>[]
 |f+1,u=>if u < 10 then [UInt8.ofNat (48+u)] else dd f (u / 10)++[UInt8.ofNat (48+u % 10)]
theorem qAW:∀ (f u:Nat),u < 10 ^ f→0 < f→Lib.decDigits u=dd f u
 |0,u,_,h=>absurd h (by decide)
 |f+1,u,h,_=>by
  rw [Lib.decDigits,dd]
  by_cases hu:u < 10
  ·rw [dif_pos hu,if_pos hu]
  ·rw [dif_neg hu,if_neg hu]
   have hf:0 < f:=by
    rcases Nat.eq_zero_or_pos f with rfl|h'
    ·simp at h;omega
    ·exact h'
   rw [qAW f (u / 10) (by rw [Nat.pow_succ] at h;omega) hf]
def itD (n:Int):List UInt8:=if n < 0 then 45 :: dd 12 n.natAbs else dd 12 n.toNat
theorem qy8 {n:Int} (h0:-100000000000≤n) (h1:n≤100000000000):Lib.itoa n=itD n:=by
 unfold Lib.itoa itD
 split
 ·rw [qAW 12 _ (by omega) (by decide)]
 ·rw [qAW 12 _ (by omega) (by decide)]
theorem qmz {d:Int} (h:d≤9):1≤powF d∧powF d≤1000000000:=by
 unfold powF
 have h1:(10:Nat) ^ d.toNat≤10 ^ 9:=Nat.pow_le_pow_right (by decide) (by omega)
 have h2:1≤(10:Nat) ^ d.toNat:=Nat.one_le_pow _ _ (by decide)
 have h3:((10:Int) ^ d.toNat)=(((10:Nat) ^ d.toNat:Nat):Int):=by simp
 rw [h3]
 omega
theorem quB {p:List UInt8} {d:Int} (h:qfC p d=0):4≤d∧d≤9∧p.length≤8:=by
 have hm:=qiY h
 have h1:=hm (qah (!qk1 p) 3) (by simp)
 have h2:=hm (qah (!inE d 4 9) 1) (by simp)
 unfold qah at h1 h2
 split at h1
 ·cases h1
 split at h2
 ·cases h2
 rename_i a1 a2
 simp only [Bool.not_eq_true',Bool.not_eq_false] at a1 a2
 simp only [qk1,inE,Bool.and_eq_true,decide_eq_true_eq] at a1 a2
 omega
theorem qAr {p:List UInt8} {d n:Int} (h0:-100≤n) (h1:n≤1000000000):numG Lib.itoa p d n=numG itD p d n:=by
 unfold numG qw4
 rw [qy8 (by omega) (by omega)]
def P6:List (List UInt8):=[[65,66],[65],[65,66,67,68,69,70,71,72],[65,66,67,68,69,70,71,72,73],[],[97]]
def qhk:IC:=(sR [qT 6 .lss 5 4] (.seq (.cond (.t 6) .skip (.exit 0)) (.seq (.block 1 (.reg [qM 7 3,qB 8 .mul 7 (cI 10),qM 3 8])) (.reg [qB 9 .add 5 (cI 1),qM 5 9]))))
def qjB:IC:=(sR [qO 2 (.mov (cI 0))] (sR [qO 3 (.mov (cI 1))] (.seq (sR [qM 4 0,qO 5 (.mov (cI 0))] (.block 0 (.loop qhk))) (sR [qM 10 3,qM 2 10] .ret))))
def qjv:List IRes:=[.t 2]
theorem qno:chkF Tryz.prog Tryz.f54 qjB qjv 11=true:=by kernel_rfl
def qf8:IC:=(sR [qT 6 .lss 5 4] (.seq (.cond (.t 6) .skip (.exit 0)) (.seq (.block 1 (.reg [qM 7 3,qB 8 .mul 7 (cI 10),qM 3 8])) (.reg [qB 9 .add 5 (cI 1),qM 5 9]))))
def qik:IC:=(sR [qO 2 (.mov (cI 0))] (sR [qO 3 (.mov (cI 1))] (.seq (sR [qM 4 0,qO 5 (.mov (cI 0))] (.block 0 (.loop qf8))) (sR [qM 10 3,qM 2 10] .ret))))
def qhV:List IRes:=[.t 2]
theorem qmi:chkF Tryz.prog Tryz.f61 qik qhV 11=true:=by kernel_rfl
def qff:IC:=(sR [qT 7 .lss 6 5] (.seq (.cond (.t 7) .skip (.exit 0)) (.seq (.block 1 (sR [qM 8 6,qM 3 8] (sR [qM 9 0,qM 10 3,qO 11 (.idx (.t 9) (.t 10)),qB 12 .lss 11 (.c (.int .u8 65)),qM 13 12,⟨some 14,.mov (.t 0),(some (13,false))⟩,⟨some 15,.mov (.t 3),(some (13,false))⟩,⟨some 16,.idx (.t 14) (.t 15),(some (13,false))⟩,⟨some 17,.bin .gtr (.t 16) (.c (.int .u8 90)),(some (13,false))⟩,qO 18 (.pick (.t 13) (.c (.bool true)) (.t 17))] (.cond (.t 18) (sR [qO 2 (.mov (.c (.bool false)))] .ret) .skip)))) (.reg [qB 19 .add 6 (cI 1),qM 6 19]))))
def qhl:IC:=(sR [qO 2 (.mov (.c (.bool false)))] (.seq (sR [qM 4 0,qO 5 (.sln (.t 4)),qO 6 (.mov (cI 0))] (.block 0 (.loop qff))) (sR [qM 20 0,qO 21 (.sln (.t 20)),qO 22 (.call 51 [.t 21,.c (.int .i64 1),.c (.int .i64 8)]),qM 2 22] .ret)))
def qg3:List IRes:=[.t 2]
theorem qlg:chkF Tryz.prog Tryz.f137 qhl qg3 23=true:=by kernel_rfl
def qgG:IC:=(sR [qO 4 (.mov (cI 0))] (sR [qM 5 0,qO 6 (.call 137 [.t 5]),qO 7 (.not (.t 6)),qO 8 (.call 50 [.t 7,.c (.int .i64 3)]),qM 9 1,qO 10 (.call 51 [.t 9,.c (.int .i64 4),.c (.int .i64 9)]),qO 11 (.not (.t 10)),qO 12 (.call 50 [.t 11,.c (.int .i64 1)]),qO 13 (.bsl 1 [.t 8,.t 12]),qO 14 (.call 49 [.t 13]),qM 4 14] .ret))
def qgu:List IRes:=[.t 4]
theorem qkP:chkF Tryz.prog Tryz.f52 qgG qgu 15=true:=by kernel_rfl
def qhZ:IC:=(sR [qO 6 (.mov (.c (.str [])))] (sR [qM 8 2,qO 9 (.call 188 [.t 8]),qM 7 9] (sR [qM 10 0,qM 11 1,qM 12 7,qO 13 (.sln (.t 12)),qT 14 .sub 11 13,qO 15 (.mx (cI 0) (.t 14)),qO 16 (.call 44 [.c (.str [48]),.t 15]),qT 17 .add 10 16,qM 18 7,qT 19 .add 17 18,qM 6 19] .ret)))
def qhK:List IRes:=[.t 6]
theorem ql7:chkF Tryz.prog Tryz.f148 qhZ qhK 20=true:=by kernel_rfl
def qiS:IC:=(sR [qO 6 (.mov (.c (.str []))),qO 7 (.mov (cI 0))] (.seq (sR [qM 9 0,qM 10 1,qO 11 (.call 52 [.t 9,.t 10]),qM 8 11] (sR [qM 12 8,qB 13 .neq 12 (cI 0)] (.cond (.t 13) (sR [qM 14 8,qO 6 (.mov (.c (.str []))),qM 7 14] .ret) .skip))) (.seq (sR [qM 15 2,qM 16 1,qO 17 (.call 54 [.t 16]),qB 18 .sub 17 (cI 1),qO 19 (.call 51 [.t 15,.c (.int .i64 1),.t 18]),qO 20 (.not (.t 19))] (.cond (.t 20) (sR [qO 6 (.mov (.c (.str []))),qO 7 (.mov (cI 1))] .ret) .skip)) (sR [qM 21 0,qM 22 1,qM 23 2,qO 24 (.call 148 [.t 21,.t 22,.t 23]),qM 6 24,qO 7 (.mov (cI 0))] .ret))))
def qiI:List IRes:=[.t 6,.t 7]
theorem qmL:chkF Tryz.prog Tryz.f64 qiS qiI 25=true:=by kernel_rfl
def qgc:IC:=(sR [qO 0 (.mov (.c (.bool false)))] (sR [qO 4 (.call 64 [.c (.str [65,66]),.c (.int .i64 4),.c (.int .i64 7)]),qM 3 4,qO 5 (.ext 0 (.t 3)),qO 6 (.ext 1 (.t 3)),qM 1 5,qM 2 6] (sR [qM 7 2,qB 8 .eql 7 (cI 0),qM 9 8,⟨some 10,.mov (.t 1),(some (9,true))⟩,⟨some 11,.bin .eql (.t 10) (.c (.str [65,66,48,48,48,55])),(some (9,true))⟩,qO 12 (.pick (.t 9) (.t 11) (.c (.bool false))),qM 0 12] .ret)))
def qfU:List IRes:=[.t 0]
theorem qkr:chkF Tryz.prog Tryz.f14 qgc qfU 13=true:=by kernel_rfl
def qf7:IC:=(sR [qO 2 (.mov (.c (.bool false)))] (sR [qM 3 0,qO 4 (.sln (.t 3)),qB 5 .geq 4 (cI 1),qM 6 5,⟨some 7,.mov (.t 0),(some (6,true))⟩,⟨some 8,.sln (.t 7),(some (6,true))⟩,⟨some 9,.bin .leq (.t 8) (cI 8),(some (6,true))⟩,qO 10 (.pick (.t 6) (.t 9) (.c (.bool false))),qM 11 10,⟨some 12,.mov (.t 0),(some (11,true))⟩,⟨some 13,.call 143 [.t 12,.c (.str [65,66,67,68,69,70,71,72,73,74,75,76,77,78,79,80,81,82,83,84,85,86,87,88,89,90])],(some (11,true))⟩,qO 14 (.pick (.t 11) (.t 13) (.c (.bool false))),qM 2 14] .ret))
def qfQ:List IRes:=[.t 2]
theorem qkn:chkF Tryz.prog Tryz.f142 qf7 qfQ 15=true:=by kernel_rfl
def qd5:IC:=(sR [qO 4 (.mov (cI 0))] (.seq (sR [qM 5 0,qO 6 (.call 142 [.t 5]),qO 7 (.not (.t 6))] (.cond (.t 7) (sR [qO 4 (.mov (cI 3))] .ret) .skip)) (.seq (sR [qM 8 1,qB 9 .lss 8 (cI 4),qM 10 9,⟨some 11,.mov (.t 1),(some (10,false))⟩,⟨some 12,.bin .gtr (.t 11) (cI 9),(some (10,false))⟩,qO 13 (.pick (.t 10) (.c (.bool true)) (.t 12))] (.cond (.t 13) (sR [qO 4 (.mov (cI 1))] .ret) .skip)) (sR [qO 4 (.mov (cI 0))] .ret))))
def qdT:List IRes:=[.t 4]
theorem qix:chkF Tryz.prog Tryz.f56 qd5 qdT 14=true:=by kernel_rfl
section
variable {E:Envt}
theorem qy1 {i:Nat} (h:i≤9):1≤(10:Int) ^ i∧(10:Int) ^ i≤1000000000:=by
 have:=qmz (d:=(i:Int)) (by omega)
 simpa [powF] using this
theorem qpH (d:Int) (h0:0≤d) (h:d≤9):PCall Tryz.prog E 54 [int d] (·=int (powF d)):=by
 obtain ⟨m,rfl⟩:=Int.eq_ofNat_of_zero_le h0
 refine qae mixed Tryz.func54 qno ?_
 simp only [a0,l0,OS.ao,zk,zr,zi,zo,zl,zm,zu,zd,zh,zj,qjB,qjv,ZZ,WW,Zd,reduceCtorEq,zd,ze,zb,zf,za]
 refine qad (fun n fr L=>∃ (k:Nat),k≤m∧n=m - k∧fr=[oo,oo,oo,.p (int ((10:Int) ^ k)),.p (int (m:Nat)),.p (int (k:Nat)),oo,oo,oo,oo,oo]∧L=[]) (m) _ [] (by (simp only [ZZ,WW,Zd,reduceCtorEq,zd,ze,zb,zf,za];try trivial)) (by (simp only [ZZ,WW,Zd,reduceCtorEq,zd,ze,zb,zf,za];try trivial)) ⟨0,by omega,by omega,rfl,rfl⟩ ?_
 rintro n fr L ⟨k,hk,rfl,rfl,rfl⟩
 simp only [qhk,ZZ,WW,Zd,reduceCtorEq,zd,ze,zb,zf,za]
 refine br ?_ ?_
 ·intro h2
  have hlt:k < m:=by have:=of_decide_eq_true h2;omega
  have hb:=qy1 (i:=k) (by omega)
  have hp:(10:Int) ^ (k+1)=(10:Int) ^ k * 10:=by rw [Int.pow_succ]
  refine zS ?_
  ((with_reducible and_intros)<;>try exact sc_)
  refine qac (m - (k+1)) _ [] (by omega) (by (simp only [ZZ,WW,Zd,reduceCtorEq,zd,ze,zb,zf,za];try trivial)) zE_ ⟨k+1,by omega,rfl,rfl,rfl⟩
 ·intro h2
  have hge:k=m:=by have:=of_decide_eq_false h2;omega
  subst hge
  refine zS ?_
  rfl
theorem qn1 (d:Int) (h0:0≤d) (h:d≤9):PCall Tryz.prog E 61 [int d] (·=int (powF d)):=by
 obtain ⟨m,rfl⟩:=Int.eq_ofNat_of_zero_le h0
 refine qae mixed Tryz.func61 qmi ?_
 simp only [a0,l0,OS.ao,zk,zr,zi,zo,zl,zm,zu,zd,zh,zj,qik,qhV,ZZ,WW,Zd,reduceCtorEq,zd,ze,zb,zf,za]
 refine qad (fun n fr L=>∃ (k:Nat),k≤m∧n=m - k∧fr=[oo,oo,oo,.p (int ((10:Int) ^ k)),.p (int (m:Nat)),.p (int (k:Nat)),oo,oo,oo,oo,oo]∧L=[]) (m) _ [] (by (simp only [ZZ,WW,Zd,reduceCtorEq,zd,ze,zb,zf,za];try trivial)) (by (simp only [ZZ,WW,Zd,reduceCtorEq,zd,ze,zb,zf,za];try trivial)) ⟨0,by omega,by omega,rfl,rfl⟩ ?_
 rintro n fr L ⟨k,hk,rfl,rfl,rfl⟩
 simp only [qf8,ZZ,WW,Zd,reduceCtorEq,zd,ze,zb,zf,za]
 refine br ?_ ?_
 ·intro h2
  have hlt:k < m:=by have:=of_decide_eq_true h2;omega
  have hb:=qy1 (i:=k) (by omega)
  have hp:(10:Int) ^ (k+1)=(10:Int) ^ k * 10:=by rw [Int.pow_succ]
  refine zS ?_
  ((with_reducible and_intros)<;>try exact sc_)
  refine qac (m - (k+1)) _ [] (by omega) (by (simp only [ZZ,WW,Zd,reduceCtorEq,zd,ze,zb,zf,za];try trivial)) zE_ ⟨k+1,by omega,rfl,rfl,rfl⟩
 ·intro h2
  have hge:k=m:=by have:=of_decide_eq_false h2;omega
  subst hge
  refine zS ?_
  rfl
theorem qsC (s:List UInt8) (hs:s.length≤1000000000):PCall Tryz.prog E 137 [.str s] (·=.bool (qk1 s)):=by
 refine qae mixed Tryz.func137 qlg ?_
 simp only [a0,l0,OS.ao,zk,zr,zi,zo,zl,zm,zu,zd,zh,zj,qhl,qg3,ZZ,WW,Zd,reduceCtorEq,zd,ze,zb,zf,za]
 refine qad (fun n fr L=>∃ (k:Nat),k≤s.length∧n=s.length - k∧((s.take k).all (fun c=>!qm1 c)=true)∧fr=(.p (.str s)::oo::oo::oo::oo::.p (int (s.length:Nat))::.p (int (k:Nat))::oE [])∧L=[]) (s.length) _ [] (by (simp only [ZZ,WW,Zd,reduceCtorEq,zd,ze,zb,zf,za];try trivial)) (by (simp only [ZZ,WW,Zd,reduceCtorEq,zd,ze,zb,zf,za];try trivial)) ⟨0,by omega,by omega,by simp,rfl,rfl⟩ ?_
 rintro n fr L ⟨k,hk,rfl,hall,rfl,rfl⟩
 simp only [qff,ZZ,WW,Zd,reduceCtorEq,zd,ze,zb,zf,za]
 refine br ?_ ?_
 ·intro h2
  have hlt:k < s.length:=by have:=of_decide_eq_true h2;omega
  have hx:s[k]?=some (s.getD k 0):=by rw [List.getElem?_eq_getElem hlt];simp [List.getD,hlt]
  have hnx:=qmr (p:=fun c=>!qm1 c) hx
  refine zS ?_
  ((with_reducible and_intros)<;>try exact sc_)
  refine br ?_ ?_
  ·intro hb
   have hf:s.all (fun c=>!qm1 c)=false:=by
    rw [List.all_eq_false]
    refine ⟨s.getD k 0,zx hx,?_⟩
    rw [show qm1 (s.getD k 0)=true from hb]
    simp
   refine zS ?_
   rw [qk1,hf,Bool.false_and]
  ·intro hb
   refine zS ?_
   ((with_reducible and_intros)<;>try exact sc_)
   refine qac (s.length - (k+1)) _ [] (by omega) (by (simp only [ZZ,WW,Zd,reduceCtorEq,zd,ze,zb,zf,za];try trivial)) (by (simp only [ZZ,WW,Zd,reduceCtorEq,zd,ze,zb,zf,za];try trivial)) ⟨k+1,by omega,rfl,by rw [hnx,hall,show qm1 (s.getD k 0)=false from hb];rfl,rfl,rfl⟩
 ·intro h2
  have hge:k=s.length:=by have:=of_decide_eq_false h2;omega
  subst hge
  rw [List.take_length] at hall
  refine zS ?_
  refine use1 (qmS s.length 1 8) rfl (.inl rfl) ?_
  refine zS ?_
  rw [qk1,hall,ye]
theorem qkg (p:List UInt8) (d:Int) (hs:p.length≤1000000000):PCall Tryz.prog E 52 [.str p,int d] (·=int (qfC p d)):=by
 refine qae mixed Tryz.func52 qkP ?_
 simp only [a0,l0,OS.ao,zk,zr,zi,zo,zl,zm,zu,zd,zh,zj,qgG,qgu,ZZ,WW,Zd,reduceCtorEq,zd,ze,zb,zf,za]
 refine use1 (qsC p hs) rfl (.inl rfl) ?_
 refine zS ?_
 refine use1 (qav _ 3) rfl (.inl rfl) ?_
 refine zS ?_
 refine use1 (qmS d 4 9) rfl (.inl rfl) ?_
 refine zS ?_
 refine use1 (qav _ 1) rfl (.inl rfl) ?_
 refine zS ?_
 refine use1 (qbK [qah (!qk1 p) 3,qah (!inE d 4 9) 1] (by simp)) rfl (.inl rfl) ?_
 refine zS ?_
 rfl
end
theorem qxW {n:Int} (h0:0≤n) (h1:n≤100000000000):(Lib.itoa n).length≤20:=by
 rw [qy8 (by omega) h1]
 have:∀ f u,(dd f u).length≤f:=by
  intro f
  induction f with
  |zero=>intro u;simp [dd]
  |succ f ih=>
   intro u
   rw [dd]
   split
   ·simp
   ·have:=ih (u / 10);simp;omega
 unfold itD
 split
 ·omega
 ·have:=this 12 n.toNat;omega
theorem qsq {E:Envt} (s:List UInt8) (hs:s.length≤1000000000):PCall Tryz.prog E 142 [.str s] (·=.bool (qxC s)):=by
 refine qae mixed Tryz.func142 qkn ?_
 simp only [a0,l0,OS.ao,zk,zr,zi,zo,zl,zm,zu,zd,zh,zj,qf7,qfQ,ZZ,WW,Zd,reduceCtorEq,zd,ze,zb,zf,za]
 ((with_reducible and_intros)<;>try exact sc_)
 refine useG (fun _=>qsy s capL hs (by decide) (by decide)) rfl (.inl rfl) ?_
 refine zS ?_
 ((with_reducible and_intros)<;>try exact sc_)
theorem qj7 {E:Envt} (p:List UInt8) (d:Int) (hs:p.length≤1000000000):PCall Tryz.prog E 56 [.str p,int d] (·=int (nfF p d)):=by
 refine qae mixed Tryz.func56 qix ?_
 simp only [a0,l0,OS.ao,zk,zr,zi,zo,zl,zm,zu,zd,zh,zj,qd5,qdT,ZZ,WW,Zd,reduceCtorEq,zd,ze,zb,zf,za]
 refine use1 (qsq p hs) rfl (.inl rfl) ?_
 refine zS ?_
 unfold nfF
 refine br ?_ ?_
 ·intro h
  refine zS ?_
  rw [if_neg (by simpa using h)]
 ·intro h
  refine zS ?_
  rw [if_pos (by simpa using h)]
  ((with_reducible and_intros)<;>try exact sc_)
  refine br ?_ ?_
  ·intro h2
   refine zS ?_
   rw [if_pos h2]
  ·intro h2
   refine zS ?_
   rw [if_neg (by rw [h2];simp)]
section
variable {E:Envt}
end
def qcP:IC:=(sR [qO 2 (.nilr 9 1)] (.seq (sR [qM 3 0,qO 4 (.isn (.t 3))] (.cond (.t 4) (sR [qO 2 (.nilr 9 1)] .ret) .skip)) (sR [qO 5 (.bsr 9 1 []),qM 6 0,qO 7 (.app 9 1 16 (.t 5) (.t 6)),qM 2 7] .ret)))
def qcL:List IRes:=[.t 2]
theorem qgm:chkF Tryz.prog Tryz.f48 qcP qcL 8=true:=by kernel_rfl
section
variable {E:Envt}
abbrev qCF:Nat:=9
theorem qex (s:List UInt8) (n:Nat) (hn:n≤1000000) (hs:s.length≤1000000):PCall Tryz.prog E 44 [.str s,int n] (·=.str (Lib.repeatL s n)):=
 qbA rfl rfl fun w _=>(qtx ⟨s.toArray⟩ n w (by omega) (by rw [show (⟨s.toArray⟩:ByteArray).size=s.length from by simp [ByteArray.size]];exact Nat.le_trans (Nat.mul_le_mul hs hn) (by decide))).mono fun e w' h=>⟨h.1,qiX h.2⟩
theorem qr4 (es:List (List PV)) (hn:es.length≤1000000):FCall Tryz.prog E 48 [.sl 1 es] qCF 1 (·=es):=by
 unfold FCall
 refine qio mixed Tryz.func48 qgm ?_
 simp only [a0,l0,OS.ao,zk,zr,zi,zo,zl,zm,zu,zd,zh,zj,qcP,qcL,ZZ,WW,Zd,reduceCtorEq,zd,ze,zb,zf,za]
 intro b hb
 refine br ?_ ?_
 ·intro h
  have:=hb h
  refine zS ?_
  exact qle 2 [] rfl rfl this.symm
 ·intro h
  refine zS ?_
  exact ⟨by omega,qle 5 es rfl rfl rfl⟩
end
end Go.Proofs.YtehfjlpenlffmaaGreatDoor
namespace Go.Proofs.YtehfjlpenlffmaaGreatDoor
section
variable {E:Envt}
abbrev Par:=List UInt8×Int×Int
def t1:List UInt8:=[108,101,103,97,108,32,97,100,118,105,99,101]
def t2:List UInt8:=[112,114,105,118,105,108,101,103,101,100,32,97,110,100,32,99,111,110,102,105,100,101,110,116,105,97,108]
def p0:List Par:=[([97,105,100,64,111,117,114,115,46,100,101],1,3),([97,110,110,64,102,105,114,109,46,100,101],1,2),([108,97,119,64,111,117,114,115,46,100,101],1,1)]
def d0 (y:Int):List Par:=[([102,105,114,109,46,100,101],1,4),([120,46,102,105,114,109,46,100,101],y,2),([111,117,114,115,46,100,101],1,4)]
end
section
variable {E:Envt}
end
end Go.Proofs.YtehfjlpenlffmaaGreatDoor
