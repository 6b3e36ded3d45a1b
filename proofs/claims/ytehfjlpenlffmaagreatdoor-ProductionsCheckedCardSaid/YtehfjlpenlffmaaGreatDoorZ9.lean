import Derived.Test.YtehfjlpenlffmaaGreatDoorZ8
import Derived.Test.YtehfjlpenlffmaaGreatDoorZ4
import Derived.Test.YtehfjlpenlffmaaGreatDoorLayValid
import Derived.Test.YtehfjlpenlffmaaGreatDoorLayIndex
import Derived.Test.YtehfjlpenlffmaaGreatDoorRep
import Derived.Test.YtehfjlpenlffmaaGreatDoorLayIndexByte
import Derived.Test.YtehfjlpenlffmaaGreatDoorSpec
import Derived.Shelf.Strings.IndexAnyAll
import Derived.Shelf.Small.Utf8
import Derived.BigQuiet
import Derived.WalkMore
import Derived.Deep.QuietTactic
import Derived.Shelf.RegionOpenPlain
import Derived.Deep.LoopGhost
import Derived.Laws.Runes
import Derived.Laws.RangeString
import Derived.Lib.IndexBytes
import Derived.Laws.Strings3
import Derived.Test.YtehfjlpenlffmaaGreatDoorLaySplit
import Derived.Lib.SplitLaws
import Derived.Test.YtehfjlpenlffmaaGreatDoorLayIndexAny
import Derived.Test.YtehfjlpenlffmaaGreatDoorLayTrim
import Derived.Test.YtehfjlpenlffmaaGreatDoorLayCompare
import Derived.Test.YtehfjlpenlffmaaGreatDoorLayCut
import Derived.Test.YtehfjlpenlffmaaGreatDoorLayItoa
import Derived.Lib.AtoiErrMem
import Derived.Shelf.Strconv.Atoi
set_option linter.unusedVariables false
set_option linter.unusedSimpArgs false
set_option linter.defProp false
namespace Go.Proofs.YtehfjlpenlffmaaGreatDoor
open Nat renaming reduceSub→zp,reduceAdd→zd,reduceMul→ze,reduceLeDiff→zb,reduceLT→zf,reduceEqDiff→za
open List renaming map_cons→zj,map_nil→zo,length_cons→zi,length_nil→zn,cons_append→zl,nil_append→zm,replicate_succ→zh,replicate_zero→zk,getD→zt
open Go.RowKit
def E0:Envt where
 ok w:=Lib.Utf8Tabs 3 4 w∧∃ m:Int,w.cell? ⟨1,0,none⟩=some (.int .i64 m)
 bl b:=b=3∨b=4∨b=1
 mono w w' hb h:=by
  obtain ⟨⟨h1,h2⟩,m,h3⟩:=h
  have e1:=hb _ (.inl rfl)
  have e2:=hb _ (.inr (.inl rfl))
  have e3:=hb _ (.inr (.inr rfl))
  exact ⟨⟨fun c hc=>(World.cell?_of_block (w:=w) e1).trans (h1 c hc),fun i hi=>⟨(World.cell?_of_block (w:=w) e2).trans (h2 i hi).1,(World.cell?_of_block (w:=w) e2).trans (h2 i hi).2⟩⟩,m,(World.cell?_of_block (w:=w) e3).trans h3⟩
theorem qkv (s:List UInt8) (hs:s.length≤1000000000000):PCall Tryz.prog E0 208 [.str s] (·=.bool (Lib.validD s)):=
 qbW rfl rfl fun w hE=>(Any.utf8_ValidString Tryz.layValid ⟨s.toArray⟩ w (by simp [ByteArray.size];omega) hE.1).mono fun e w' h=>⟨by rw [h.1];rfl,qgP h.2⟩
def qgs:IC:=(.seq (.reg [qO 10 (.bin .lss (.t 9) (.t 8))]) (.seq (.cond (.t 10) .skip (.exit 0)) (.seq (.block 1 (.seq (.reg [qM 11 9,qM 5 11]) (.seq (.reg [qM 12 0,qM 13 5,qO 14 (.idx (.t 12) (.t 13)),qM 6 14]) (.seq (.reg [qM 15 6,qO 16 (.bin .lss (.t 15) (.c (.int .u8 32))),qM 17 16,⟨some 18,.mov (.t 1),(some (17,true))⟩,⟨some 19,.mov (.t 18),(some (17,true))⟩,⟨some 20,.mov (.t 6),(some (19,true))⟩,⟨some 21,.bin .eql (.t 20) (.c (.int .u8 10)),(some (19,true))⟩,⟨some 22,.pick (.t 19) (.t 21) (.c (.bool false)),(some (17,true))⟩,⟨some 23,.not (.t 22),(some (17,true))⟩,qO 24 (.pick (.t 17) (.t 23) (.c (.bool false))),qM 25 24,⟨some 26,.mov (.t 6),(some (25,false))⟩,⟨some 27,.bin .eql (.t 26) (.c (.int .u8 127)),(some (25,false))⟩,qO 28 (.pick (.t 25) (.c (.bool true)) (.t 27))]) (.cond (.t 28) (.seq (.reg [qO 4 (.mov (.c (.bool false)))]) .ret) .skip))))) (.reg [qO 29 (.bin .add (.t 9) (.c (.int .i64 1))),qM 9 29]))))
def qhT:IC:=(.seq (.reg [qO 4 (.mov (.c (.bool false)))]) (.seq (.seq (.reg [qM 7 0,qO 8 (.sln (.t 7)),qO 9 (.mov (.c (.int .i64 0)))]) (.block 0 (.loop qgs))) (.seq (.reg [qM 30 0,qO 31 (.call 208 [.t 30]),qM 4 31]) .ret)))
def qhI:List IRes:=[.t 4]
theorem qk6:chkF Tryz.prog Tryz.f141 qhT qhI 32=true:=by kernel_rfl
section
variable {E:Envt}
def sufE (s t:List UInt8):Bool:=decide ((t.length:Int)≤s.length) && decide (s.drop (s.length - t.length)=t)
def insE (s:List UInt8) (i:Int):Bool:=decide (i < s.length) && decide (((s.getD i.toNat 0).toNat:Int) / 64=2)
def badB (feeds:Bool) (c:UInt8):Bool:=(decide ((c.toNat:Int) < 32) && !(feeds && decide ((c.toNat:Int)=10))) || decide ((c.toNat:Int)=127)
def visE (s:List UInt8) (feeds:Bool):Bool:=(s.all fun c=>!badB feeds c) && Lib.validD s
theorem qjv {s:List UInt8} {k:Nat} {c:UInt8} {p:UInt8→Bool} (h:s[k]?=some c):(s.take (k+1)).all p=((s.take k).all p && p c):=by
 obtain ⟨hk,hx⟩:=List.getElem?_eq_some_iff.1 h
 rw [List.take_succ_eq_append_getElem hk,List.all_append,hx]
 simp
end
theorem qqD (s:List UInt8) (feeds:Bool) (hs:s.length≤1000000000):PCall Tryz.prog E0 141 [.str s,.bool feeds] (·=.bool (visE s feeds)):=by
 refine qag mixed Tryz.func141 qk6 ?_
 simp only [a0,l0,OS.ao,zj,zo,zi,zn,zl,zm,zp,zd,zh,zk,qhT,qhI,ZZ,WW,Ze,reduceCtorEq,zd,ze,zb,zf,za]
 refine qad (fun n fr L=>∃ (k:Nat),k≤s.length∧n=s.length - k∧(((s.take k).all fun c=>!badB feeds c)=true)∧fr=[.p (.str s),.p (.bool feeds),oo,oo,oo,oo,oo,oo,.p (int (s.length:Nat)),.p (int (k:Nat)),oo,oo,oo,oo,oo,oo,oo,oo,oo,oo,oo,oo,oo,oo,oo,oo,oo,oo,oo,oo,oo,oo]∧L=[]) (s.length) [.p (.str s),.p (.bool feeds),oo,oo,oo,oo,oo,oo,.p (int (s.length:Nat)),.p (int (0:Nat)),oo,oo,oo,oo,oo,oo,oo,oo,oo,oo,oo,oo,oo,oo,oo,oo,oo,oo,oo,oo,oo,oo] [] (by (simp only [ZZ,WW,Ze,reduceCtorEq,zd,ze,zb,zf,za];try trivial)) (by (simp only [ZZ,WW,Ze,reduceCtorEq,zd,ze,zb,zf,za];try trivial)) ⟨0,by omega,by omega,by simp,rfl,rfl⟩ ?_
 rintro n fr L ⟨k,hk,rfl,hall,rfl,rfl⟩
 simp only [qgs,ZZ,WW,Ze,reduceCtorEq,zd,ze,zb,zf,za]
 refine br ?_ ?_
 ·intro h
  have hlt:k < s.length:=by have:=of_decide_eq_true h;omega
  obtain ⟨c,hc⟩:∃ x,s[k]?=some x:=⟨_,List.getElem?_eq_getElem hlt⟩
  have hg:s.getD k 0=c:=by simp [zt,hc]
  have hnx:=qjv (p:=fun c=>!badB feeds c) hc
  simp only [ZZ,WW,Ze,reduceCtorEq,zd,ze,zb,zf,za,hg]
  ((repeat' (with_reducible apply And.intro))<;>try ((exact sc_)))
  refine br ?_ ?_
  ·intro hb
   have hb:badB feeds c=true:=hb
   simp only [ZZ,WW,Ze,reduceCtorEq,zd,ze,zb,zf,za]
   have:(s.all fun c=>!badB feeds c)=false:=by
    rw [List.all_eq_false]
    exact ⟨c,List.mem_of_getElem? hc,by simp [hb]⟩
   simp [visE,this]
  ·intro hb
   have hb:badB feeds c=false:=hb
   simp only [ZZ,WW,Ze,reduceCtorEq,zd,ze,zb,zf,za]
   ((repeat' (with_reducible apply And.intro))<;>try ((exact sc_)))
   refine qac (s.length - (k+1)) [.p (.str s),.p (.bool feeds),oo,oo,oo,oo,oo,oo,.p (int (s.length:Nat)),.p (int ((k+1):Nat)),oo,oo,oo,oo,oo,oo,oo,oo,oo,oo,oo,oo,oo,oo,oo,oo,oo,oo,oo,oo,oo,oo] [] (by omega) (by (simp only [ZZ,WW,Ze,reduceCtorEq,zd,ze,zb,zf,za];try trivial)) (by (simp only [ZZ,WW,Ze,reduceCtorEq,zd,ze,zb,zf,za];try trivial)) ⟨k+1,by omega,rfl,by rw [hnx,hall,hb];rfl,rfl,rfl⟩
 ·intro h
  have hge:s.length≤k:=by have:=of_decide_eq_false h;omega
  rw [List.take_of_length_le hge] at hall
  simp only [ZZ,WW,Ze,reduceCtorEq,zd,ze,zb,zf,za]
  refine use1 (qkv s (by omega)) rfl (.inl rfl) ?_
  simp only [ZZ,WW,Ze,reduceCtorEq,zd,ze,zb,zf,za]
  simp [visE,hall]
def qjy (s:List UInt8):Bool:=visE s true && (decide (s=[]) || sufE s [10])
def qby (s:List UInt8):Nat→Nat
 |0=>0
 |n+1=>if insE s ((n+1:Nat):Int)=true then qby s n else n+1
def fwdN (s:List UInt8):Nat→Nat→Nat
 |0,n=>n
 |f+1,n=>if insE s (n:Int)=true then fwdN s f (n+1) else n
theorem qks (s:List UInt8):∀ n,qby s n≤n
 |0=>Nat.le_refl _
 |n+1=>by
  unfold qby
  split
  ·have:=qks s n;omega
  ·exact Nat.le_refl _
theorem qoU (s:List UInt8):∀ f n,n≤fwdN s f n
 |0,n=>Nat.le_refl _
 |f+1,n=>by
  unfold fwdN
  split
  ·have:=qoU s f (n+1);omega
  ·exact Nat.le_refl _
def pntF (s:List UInt8) (p:Int×Int):Int×Int:=((qby s p.1.toNat:Nat),(fwdN s (s.length - p.2.toNat) p.2.toNat:Nat))
def qfd (s:List UInt8) (l:List (Int×Int)):List (Int×Int):=l.map (pntF s)
section
variable {E:Envt}
end
def bU (n:Nat) (g:Nat→UInt8):List (List PV):=(List.range n).map fun j=>[.int .u8 ((g j).toNat:Nat)]
theorem qyk (n:Nat) (g:Nat→UInt8):(bU n g).length=n:=by simp [bU]
theorem qyl {n i:Nat} {g:Nat→UInt8} (h:i < n):(bU n g).getD i []=[.int .u8 ((g i).toNat:Nat)]:=by
 simp [bU,zt,List.getElem?_map,List.getElem?_range h]
theorem qyj {n i:Nat} {g:Nat→UInt8} (c:UInt8):(bU n g).set i [.int .u8 (c.toNat:Nat)]=bU n (fun j=>if j=i then c else g j):=by
 apply List.ext_getElem?
 intro j
 by_cases hj:j < n
 ·by_cases he:j=i
  ·subst he
   rw [List.getElem?_set_self (by simpa [bU] using hj)]
   simp [bU,List.getElem?_range hj]
  ·rw [List.getElem?_set_ne (fun e=>he e.symm)]
   simp [bU,List.getElem?_range hj,he]
 ·rw [List.getElem?_eq_none (by simpa [bU] using hj),List.getElem?_eq_none (by simpa [bU] using hj)]
theorem qzW (s:List UInt8):(s.map fun q=>[PV.int .u8 (q.toNat:Nat)])=bU s.length (fun j=>s.getD j 0):=by
 apply List.ext_getElem?
 intro j
 by_cases hj:j < s.length
 ·simp [bU,List.getElem?_range hj,List.getElem?_eq_getElem hj,zt]
 ·rw [List.getElem?_eq_none (by simpa using hj),List.getElem?_eq_none (by simpa [bU] using hj)]
theorem qt6 (n:Nat) (g:Nat→UInt8):qiz (bU n g)=some ((List.range n).map g):=by
 have:∀ l:List Nat,qiz (l.map fun j=>[PV.int .u8 ((g j).toNat:Nat)])=some (l.map g):=by
  intro l
  induction l with
  |nil=>rfl
  |cons x r ih=>simp [qiz,ih]
 exact this _
def qhx (c:UInt8):Bool:=decide ((c.toNat:Int)=32) || decide ((c.toNat:Int)=10)
def redG (s:List UInt8) (m:Nat→Bool) (j:Nat):UInt8:=if (m j && !qhx (s.getD j 0))=true then 35 else s.getD j 0
theorem qvP {s:List UInt8} {m:Nat→Bool} {i:Nat} (h:qhx (redG s m i)=false):(fun j=>if j=i then 35 else redG s m j)=redG s (fun j=>m j || decide (j=i)):=by
 funext j
 by_cases hj:j=i
 ·subst hj
  have hb:qhx (s.getD j 0)=false:=by
   unfold redG at h
   split at h
   ·rename_i hc;simp at hc;exact hc.2
   ·exact h
  simp only [redG,if_true,hb];simp
 ·simp [redG,hj]
theorem qth {s:List UInt8} {m:Nat→Bool} {i:Nat} (h:qhx (redG s m i)=true):redG s m=redG s (fun j=>m j || decide (j=i)):=by
 funext j
 by_cases hj:j=i
 ·subst hj
  have hb:qhx (s.getD j 0)=true:=by
   unfold redG at h
   split at h
   ·exact absurd h (by decide)
   ·exact h
  simp only [redG,hb];simp
 ·simp [redG,hj]
def qc5 (s:List UInt8) (l:List (Int×Int)):List UInt8:=(List.range s.length).map (redG s (cov (qfd s l)))
def quv (k:IntKind) (w:World) (a:Option Addr) (len cap:Nat) (zs:List Int):Prop:=
 (a=none∧len=0∧cap=0∧zs=[])∨
 ∃ x,a=some x∧len≤cap∧cap≤maxLen∧zs.length=cap∧(∀ i,i < zs.length→w.cell? (x.add i)=some (.int k (zs.getD i 0)))∧∀ n∈zs,(Lit.int k n).wf=true
theorem qno {w:World} {U:Nat→Prop} {b:Nat}:∀ (l:List Int) (off:Nat),(∀ i,i < l.length→w.cell? ⟨b,off+i,none⟩=some (.int .i64 (l.getD i 0)))→PRepE w U b 1 off (l.map fun x=>[.int .i64 x])
 |[],off,h=>trivial
 |x :: r,off,h=>by
  refine ⟨rfl,⟨⟨_,by simpa using h 0 (by simp),rfl,rfl⟩,trivial⟩,qno r (off+1) (fun i hi=>?_)⟩
  have:=h (i+1) (by simpa using hi)
  rw [show off+1+i=off+(i+1) from by omega]
  simpa using this
theorem qrY {w:World} {a:Option Addr} {len cap:Nat} {zs:List Int} (h:quv .i64 w a len cap zs):PRep w (fun _=>False) (ints (zs.take len)) (.slice a len cap)∧(zs.take len).length≤9223372036854775807:=by
 rcases h with ⟨rfl,rfl,rfl,rfl⟩|⟨x,rfl,h1,h2,h3,h4,_⟩
 ·exact ⟨⟨none,0,rfl,by simp,fun h=>by simp at h⟩,by simp⟩
 ·have hl:(zs.take len).length=len:=by rw [List.length_take];omega
  refine ⟨⟨some x,cap,by rw [List.length_map,hl],by rw [List.length_map,hl];exact h1,fun hne=>?_⟩,by rw [hl];unfold maxLen at h2;omega⟩
  have h0:0 < len:=by
   rcases Nat.eq_zero_or_pos len with h'|h'
   ·subst h';simp at hne
   ·exact h'
  obtain ⟨b,off,spot⟩:=x
  have hc:=h4 0 (by omega)
  have hspot:spot=none:=by simpa [Addr.add] using World.cell?_spot hc
  subst hspot
  have hb:b < w.heap.size:=by
   have:=World.block_lt_of_cell? w _ hc
   simpa [Addr.add] using this
  refine ⟨b,off,rfl,hb,fun h=>h,qno _ _ (fun i hi=>?_)⟩
  rw [hl] at hi
  have:=h4 i (by omega)
  rw [qbD] at this
  rw [this]
  congr 2
  rw [List.getD_eq_getElem?_getD,List.getD_eq_getElem?_getD,List.getElem?_take_of_lt hi]
theorem qu3 {P:Program} {E:Envt} {f:FuncId} (h:∀ z:List Int,z.length≤9223372036854775807→PCall P E f [ints z] (·=.bool true)) (a0:Option Addr) (len0 cap0:Nat) (z0:List Int) (w:World) (h0:quv .i64 w a0 len0 cap0 z0) (hok:E.ok w) (hbl:∀ b,E.bl b→b < w.heap.size) :
  Calls P f #[.slice a0 len0 cap0] w fun e w'=>e=.returned (.bool true)∧Below w.heap.size w w':=by
 obtain ⟨h1,h2⟩:=qrY h0
 refine (h _ h2 w (fun _=>False) [.slice a0 len0 cap0] (fun _ h=>h.elim) hok hbl ⟨_,[],rfl,h1,rfl⟩).mono ?_
 rintro e w' ⟨v,x,rfl,rfl,hv,hg⟩
 refine ⟨by rw [PRep.bool_eq hv],⟨hg.os,hg.tape,hg.output,hg.size,fun k hk=>hg.block k hk (fun h=>h)⟩⟩
theorem qgB (s:List UInt8):(⟨s.toArray⟩:ByteArray).size=s.length:=by simp [ByteArray.size]
section
variable {E:Envt}
theorem qsC (s:List UInt8) (n:Nat) (hn:n≤1000000) (hs:s.length≤1000000):PCall Tryz.prog E 44 [.str s,int n] (·=.str (Lib.repeatL s n)):=
 qbW rfl rfl fun w _=>(qpC ⟨s.toArray⟩ n w (by omega) (by rw [qgB];exact Nat.le_trans (Nat.mul_le_mul hs hn) (by decide))).mono fun e w' h=>⟨h.1,qgP h.2⟩
end
theorem quw (s t:List UInt8) (hs:s.length≤1000000000):PCall Tryz.prog E0 222 [.str s,.str t] (·=int (Lib.index s t)):=
 qbW rfl rfl fun w hE=>by
  obtain ⟨_,m,hm⟩:=hE
  exact (Any.strings_Index { Tryz.layIndex with } ⟨s.toArray⟩ ⟨t.toArray⟩ m w (by rw [qgB];omega) hm).mono fun e w' h=>⟨h.1,by rw [h.2];exact Grow.refl _ _⟩
def qcZ:IC:=(.seq (.reg [qO 11 (.bin .lss (.t 10) (.t 9))]) (.seq (.cond (.t 11) .skip (.exit 0)) (.seq (.block 1 (.seq (.reg [qO 12 (.ixa 1 (.t 8) (.t 10)),qO 13 (.ld 1 false (.t 12)),qM 6 13]) (.seq (.reg [qM 14 6,qO 15 (.bin .lss (.t 14) (.c (.int .u8 32))),qM 16 15,⟨some 17,.mov (.t 1),(some (16,true))⟩,⟨some 18,.mov (.t 17),(some (16,true))⟩,⟨some 19,.mov (.t 6),(some (18,true))⟩,⟨some 20,.bin .eql (.t 19) (.c (.int .u8 10)),(some (18,true))⟩,⟨some 21,.pick (.t 18) (.t 20) (.c (.bool false)),(some (16,true))⟩,⟨some 22,.not (.t 21),(some (16,true))⟩,qO 23 (.pick (.t 16) (.t 22) (.c (.bool false))),qM 24 23,⟨some 25,.mov (.t 6),(some (24,false))⟩,⟨some 26,.bin .eql (.t 25) (.c (.int .u8 127)),(some (24,false))⟩,qO 27 (.pick (.t 24) (.c (.bool true)) (.t 26))]) (.cond (.t 27) (.seq (.reg [qO 4 (.mov (.c (.bool false)))]) .ret) .skip)))) (.reg [qO 28 (.bin .add (.t 10) (.c (.int .i64 1))),qM 10 28]))))
def qd3:IC:=(.seq (.reg [qO 4 (.mov (.c (.bool false)))]) (.seq (.seq (.reg [qM 7 0,qO 8 (.s2b 5 (.t 7)),qO 9 (.len (.t 8)),qO 10 (.mov (.c (.int .i64 0)))]) (.block 0 (.loop qcZ))) (.seq (.reg [qM 29 0,qO 30 (.call 208 [.t 29]),qM 4 30]) .ret)))
def qdT:List IRes:=[.t 4]
theorem qg9:chkF Tryz.prog Tryz.f147 qd3 qdT 31=true:=by kernel_rfl
theorem qj4 {p:UInt8→Prop} (h:∀ n:Fin 256,p (UInt8.ofNat n.val)) (c:UInt8):p c:=by
 have:=h ⟨c.toNat,c.toNat_lt⟩
 simpa using this
def capL:List UInt8:=[65,66,67,68,69,70,71,72,73,74,75,76,77,78,79,80,81,82,83,84,85,86,87,88,89,90]
section
variable {E:Envt}
end
theorem qiU (s:List UInt8) (feeds:Bool) (hs:s.length≤1000000000):PCall Tryz.prog E0 147 [.str s,.bool feeds] (·=.bool (visE s feeds)):=by
 refine qag mixed Tryz.func147 qg9 ?_
 simp only [a0,l0,OS.ao,zj,zo,zi,zn,zl,zm,zp,zd,zh,zk,qd3,qdT,ZZ,WW,Ze,reduceCtorEq,zd,ze,zb,zf,za]
 refine ⟨by omega,?_⟩
 have hln:(s.map fun q=>[PV.int .u8 (q.toNat:Nat)]).length=s.length:=by simp
 have hget:∀ k c,s[k]?=some c→(s.map fun q=>[PV.int .u8 (q.toNat:Nat)]).getD k []=[.int .u8 (c.toNat:Nat)]:=fun k c h=>qaH h
 generalize (s.map fun q=>[PV.int .u8 (q.toNat:Nat)])=es at hln hget ⊢
 simp only [ZZ,WW,Ze,reduceCtorEq,zd,ze,zb,zf,za,hln]
 refine qad (fun n fr L=>∃ (k:Nat),k≤s.length∧n=s.length - k∧(((s.take k).all fun c=>!badB feeds c)=true)∧fr=[.p (.str s),.p (.bool feeds),oo,oo,oo,oo,oo,oo,.row (.l 8),.p (int (s.length:Nat)),.p (int (k:Nat)),oo,oo,oo,oo,oo,oo,oo,oo,oo,oo,oo,oo,oo,oo,oo,oo,oo,oo,oo,oo]∧L=[(.l 8,.row es 5 1 false)]) (s.length) [.p (.str s),.p (.bool feeds),oo,oo,oo,oo,oo,oo,.row (.l 8),.p (int (s.length:Nat)),.p (int (0:Nat)),oo,oo,oo,oo,oo,oo,oo,oo,oo,oo,oo,oo,oo,oo,oo,oo,oo,oo,oo,oo] [(.l 8,.row es 5 1 false)] (by (simp only [ZZ,WW,Ze,reduceCtorEq,zd,ze,zb,zf,za];try trivial)) (by (simp only [ZZ,WW,Ze,reduceCtorEq,zd,ze,zb,zf,za];try trivial)) ⟨0,by omega,by omega,by simp,rfl,rfl⟩ ?_
 rintro n fr L ⟨k,hk,rfl,hall,rfl,rfl⟩
 simp only [qcZ,ZZ,WW,Ze,reduceCtorEq,zd,ze,zb,zf,za]
 refine br ?_ ?_
 ·intro h
  have hlt:k < s.length:=by have:=of_decide_eq_true h;omega
  obtain ⟨c,hc⟩:∃ x,s[k]?=some x:=⟨_,List.getElem?_eq_getElem hlt⟩
  have hg:=hget k c hc
  have hnx:=qjv (p:=fun c=>!badB feeds c) hc
  simp only [ZZ,WW,Ze,reduceCtorEq,zd,ze,zb,zf,za,hg,hln]
  ((repeat' (with_reducible apply And.intro))<;>try ((exact sc_)))
  refine br ?_ ?_
  ·intro hb
   have hb:badB feeds c=true:=hb
   simp only [ZZ,WW,Ze,reduceCtorEq,zd,ze,zb,zf,za]
   have:(s.all fun c=>!badB feeds c)=false:=by
    rw [List.all_eq_false]
    exact ⟨c,List.mem_of_getElem? hc,by simp [hb]⟩
   simp [visE,this]
  ·intro hb
   have hb:badB feeds c=false:=hb
   simp only [ZZ,WW,Ze,reduceCtorEq,zd,ze,zb,zf,za]
   ((repeat' (with_reducible apply And.intro))<;>try ((exact sc_)))
   refine qac (s.length - (k+1)) [.p (.str s),.p (.bool feeds),oo,oo,oo,oo,oo,oo,.row (.l 8),.p (int (s.length:Nat)),.p (int ((k+1):Nat)),oo,oo,oo,oo,oo,oo,oo,oo,oo,oo,oo,oo,oo,oo,oo,oo,oo,oo,oo,oo] [(.l 8,.row es 5 1 false)] (by omega) (by (simp only [ZZ,WW,Ze,reduceCtorEq,zd,ze,zb,zf,za];try trivial)) (by (simp only [ZZ,WW,Ze,reduceCtorEq,zd,ze,zb,zf,za];try trivial)) ⟨k+1,by omega,rfl,by rw [hnx,hall,hb];rfl,rfl,rfl⟩
 ·intro h
  have hge:s.length≤k:=by have:=of_decide_eq_false h;omega
  rw [List.take_of_length_le hge] at hall
  simp only [ZZ,WW,Ze,reduceCtorEq,zd,ze,zb,zf,za]
  refine use1 (qkv s (by omega)) rfl (.inl rfl) ?_
  simp only [ZZ,WW,Ze,reduceCtorEq,zd,ze,zb,zf,za]
  simp [visE,hall]
def qjc:IC:=(.seq (.reg [qO 2 (.mov (.c (.bool false)))]) (.seq (.reg [qM 3 0,qO 4 (.bin .geq (.t 3) (.c (.int .u8 48))),qM 5 4,⟨some 6,.mov (.t 0),(some (5,true))⟩,⟨some 7,.bin .leq (.t 6) (.c (.int .u8 57)),(some (5,true))⟩,qO 8 (.pick (.t 5) (.t 7) (.c (.bool false))),qM 2 8]) .ret))
def qi3:List IRes:=[.t 2]
theorem qmQ:chkF Tryz.prog Tryz.f139 qjc qi3 9=true:=by kernel_rfl
abbrev tStr:Nat:=9
def digB (c:UInt8):Bool:=decide (48≤(c.toNat:Int)) && decide ((c.toNat:Int)≤57)
section
variable {E:Envt}
theorem quD (c:UInt8):PCall Tryz.prog E 139 [.int .u8 (c.toNat:Nat)] (·=.bool (digB c)):=by
 refine qag mixed Tryz.func139 qmQ ?_
 simp only [a0,l0,OS.ao,zj,zo,zi,zn,zl,zm,zp,zd,zh,zk,qjc,qi3,ZZ,WW,Ze,reduceCtorEq,zd,ze,zb,zf,za]
 ((repeat' (with_reducible apply And.intro))<;>try ((exact sc_)))
def strE (l:List (List UInt8)):List (List PV):=l.map fun x=>[PV.str x]
theorem qal (l:List (List UInt8)):(strE l).length=l.length:=by simp [strE]
theorem qpr (l m:List (List UInt8)):strE (l++m)=strE l++strE m:=by simp [strE]
theorem qou (l:List (List UInt8)):strs l=.sl 1 (strE l):=rfl
theorem qic {l:List (List UInt8)} {k:Nat} {x:List UInt8} (h:l[k]?=some x):(strE l).getD k []=[.str x]:=qaH h
end
section
variable {E:Envt}
end
end Go.Proofs.YtehfjlpenlffmaaGreatDoor
namespace Go.Proofs.YtehfjlpenlffmaaGreatDoor
open Go.Lib Go.RowKit Go.Shelf
theorem qkb {l:List UInt8} {c:UInt8} (h:∀ b∈l,b≠c):Lib.indexByte l c=-1:=by
 have h1:=Lib.contains_iff_indexByte l c
 have h2:l.contains c=false:=by
  rw [Bool.eq_false_iff]
  intro h3
  exact h c (by simpa using h3) rfl
 rw [h2] at h1
 have h3:¬ (0:Int)≤Lib.indexByte l c:=of_decide_eq_false h1.symm
 have h4:-1≤Lib.indexByte l c:=by rw [← Lib.indexAny_one];exact Lib.indexAny_ge _ _
 omega
def Asc (s:ByteArray):Prop:=∀ (j:Nat) (b:UInt8),s.data.toList[j]?=some b→b.toNat < 128
theorem Asc.rest {s:ByteArray} (h:Asc s) (i:Nat) {c:UInt8} (hc:128≤c.toNat):Lib.indexByte (s.extract i s.size).data.toList c=-1:=by
 refine qkb fun b hb e=>?_
 have hb:=mem_extract hb
 obtain ⟨j,hj⟩:=List.getElem?_of_mem hb
 have:=h j b hj
 rw [e] at this
 omega
section
variable {P:Program} {ρ:Ren}
end
end Go.Proofs.YtehfjlpenlffmaaGreatDoor
namespace Go.Proofs.YtehfjlpenlffmaaGreatDoor
open Nat renaming reduceAdd→zd,reduceMul→ze,reduceLeDiff→zb,reduceEqDiff→za
open Go.RowKit
def splF (s:List UInt8) (c:UInt8):List (List UInt8):=(Lib.splitB ⟨#[c]⟩ 0 (Lib.countB ⟨s.toArray⟩ ⟨#[c]⟩) ⟨s.toArray⟩).map (·.data.toList)
theorem qjQ (sep:ByteArray):∀ (k:Nat) (s:ByteArray),(Lib.splitB sep 0 k s).length≤k+1∧∀ x∈Lib.splitB sep 0 k s,x.size≤s.size:=by
 intro k
 induction k with
 |zero=>intro s;simp [Lib.splitB]
 |succ k ih=>
  intro s
  unfold Lib.splitB
  split
  ·simp
  ·have:=ih (s.extract ((Lib.indexB s sep).toNat+sep.size) s.size)
   refine ⟨by simp;omega,fun x hx=>?_⟩
   simp only [List.mem_cons] at hx
   rcases hx with rfl|hx
   ·simp;omega
   ·have:=this.2 x hx;simp at this;omega
theorem qsY (s:List UInt8) (c:UInt8):(splF s c).length≤s.length+1:=by
 have h1:=(qjQ ⟨#[c]⟩ (Lib.countB ⟨s.toArray⟩ ⟨#[c]⟩) ⟨s.toArray⟩).1
 have h2:=Lib.countB_le ⟨#[c]⟩ (Nat.le_refl 1) (⟨s.toArray⟩:ByteArray).size ⟨s.toArray⟩ (Nat.le_refl _)
 rw [qgB] at h2
 simp only [splF,List.length_map]
 omega
theorem qsX (s:List UInt8) (c:UInt8):∀ x∈splF s c,x.length≤s.length:=by
 intro x hx
 simp only [splF,List.mem_map] at hx
 obtain ⟨y,hy,rfl⟩:=hx
 have:=(qjQ ⟨#[c]⟩ (Lib.countB ⟨s.toArray⟩ ⟨#[c]⟩) ⟨s.toArray⟩).2 y hy
 rw [qgB] at this
 rw [Array.length_toList]
 exact this
theorem qlz {w:World} {U:Nat→Prop} {b:Nat}:∀ (l:List ByteArray) (off:Nat),(∀ i x,l[i]?=some x→w.cell? ⟨b,off+i,none⟩=some (.string x))→PRepE w U b 1 off ((l.map (·.data.toList)).map fun x=>[.str x])
 |[],off,h=>trivial
 |x :: r,off,h=>by
  refine ⟨rfl,⟨⟨.string x,by simpa using h 0 _ rfl,rfl,?_⟩,trivial⟩,qlz r (off+1) fun i u hu=>?_⟩
  ·simp [PRep]
  ·have:=h (i+1) u (by simpa using hu)
   rwa [show off+(i+1)=off+1+i from by omega] at this
theorem qvd:(Tryz.prog.info? 9).map (fun i=>(i.zero,i.size,i.bytes))=some (some (.string ByteArray.empty),1,16):=by kernel_rfl
theorem qur (s:List UInt8) (c:UInt8) (hs:s.length≤1000000000):PCall Tryz.prog E0 242 [.str s,.str [c]] (·=strs (splF s c)):=by
 intro w U vs hU hE hEb hA
 obtain ⟨_,m,hm⟩:=hE
 simp only [PRepL,PRep] at hA
 obtain ⟨v,r,rfl,rfl,v2,r2,rfl,rfl,rfl⟩:=hA
 refine (Any.strings_Split Tryz.laySplit qvd ⟨s.toArray⟩ ⟨#[c]⟩ m w (by rw [qgB];omega) hm (Nat.le_refl 1)).mono ?_
 rintro e w' ⟨rfl,rfl⟩
 have hl:=Lib.splitB_all ⟨#[c]⟩ (Nat.le_refl 1) 0 _ (⟨s.toArray⟩:ByteArray) rfl
 refine ⟨_,_,rfl,rfl,?_,⟨rfl,rfl,rfl,by simp,fun k hk _=>Lib.alloc_old w _ k hk⟩⟩
 have hln:(List.map (fun x=>[PV.str x]) (splF s c)).length=Lib.countB ⟨s.toArray⟩ ⟨#[c]⟩+1:=by simp [splF,hl]
 refine ⟨some ⟨w.heap.size,0,none⟩,Lib.countB ⟨s.toArray⟩ ⟨#[c]⟩+1,by rw [hln],by rw [hln];exact Nat.le_refl _,fun _=>⟨w.heap.size,0,rfl,by simp,fun h=>by have:=hU _ h;omega,?_⟩⟩
 ·refine qlz _ 0 fun i x hx=>?_
  rw [Lib.cell_of_heap (heap_alloc_new w _)]
  simp [hx]
def qgO:IC:=(.seq (.reg [qO 4 (.mov (.c (.bool false)))]) (.seq (.reg [qM 5 0,qM 6 1,qO 7 (.call 155 [.t 5,.t 6]),qO 8 (.bin .eql (.t 7) (.c (.str []))),qM 4 8]) .ret))
def qgJ:List IRes:=[.t 4]
theorem qjM:chkF Tryz.prog Tryz.f143 qgO qgJ 9=true:=by kernel_rfl
def qrM (s of:List UInt8):Bool:=decide (Lib.trimS s of=[])
theorem dropW_nil {p:UInt8→Bool}:∀ {l:List UInt8},l.dropWhile p=[]↔l.all p=true
 |[]=>by simp
 |x :: r=>by
  simp only [List.dropWhile,List.all_cons]
  cases h:p x
  ·simp
  ·simpa using dropW_nil (l:=r)
theorem qhQ (s of:List UInt8):qrM s of=s.all (fun c=>of.contains c):=by
 rw [Bool.eq_iff_iff,qrM,decide_eq_true_iff,Lib.trimS,Lib.trimLeftS,Lib.trimRightS,dropW_nil]
 constructor
 ·intro h
  have h2:∀ l:List UInt8,(l.dropWhile fun c=>of.contains c).all (fun c=>of.contains c)=true→l.all (fun c=>of.contains c)=true:=by
   intro l
   induction l with
   |nil=>simp
   |cons x r ih=>
    simp only [List.dropWhile]
    cases hx:of.contains x
    ·intro h;exact h
    ·intro h;simp only [List.all_cons,hx,Bool.true_and];exact ih h
  have:=h2 s.reverse (by simpa [List.all_reverse] using h)
  simpa [List.all_reverse] using this
 ·intro h
  have:(s.reverse.dropWhile fun c=>of.contains c)=[]:=dropW_nil.2 (by simpa [List.all_reverse] using h)
  rw [this]
  simp
section
variable {E:Envt}
def asc (l:List UInt8):Bool:=l.all fun b=>decide (b.toNat < 128)
theorem qym {l:List UInt8} (h:asc l=true):∀ (j:Nat) b,(⟨l.toArray⟩:ByteArray).data.toList[j]?=some b→b.toNat < 128:=
 fun _ b hb=>of_decide_eq_true (List.all_eq_true.1 h b (List.mem_of_getElem? (by simpa using hb)))
theorem qgU (s cs:List UInt8) (hs:s.length≤1000000000) (hcs:cs.length≤1000000) (h2:asc cs=true):PCall Tryz.prog E 155 [.str s,.str cs] (·=.str (Lib.trimS s cs)):=
 qbW rfl rfl fun w _=>(Any.strings_Trim_laid Tryz.layTrim (by kernel_rfl) ⟨s.toArray⟩ ⟨cs.toArray⟩ w (by rw [qgB];omega) (by rw [qgB];omega) (qym h2)).mono fun e w' h=>⟨h.1,qgP h.2⟩
theorem qoL (s of:List UInt8) (hs:s.length≤1000000000) (ho:of.length≤1000) (ha:asc of=true):PCall Tryz.prog E 143 [.str s,.str of] (·=.bool (qrM s of)):=by
 refine qag mixed Tryz.func143 qjM ?_
 simp only [a0,l0,OS.ao,List.map_cons,List.map_nil,List.length_cons,List.length_nil,List.cons_append,List.nil_append,Nat.reduceSub,zd,List.replicate_succ,List.replicate_zero,qgO,qgJ,ZZ,WW,Ze,reduceCtorEq,zd,ze,zb,Nat.reduceLT,za]
 refine use1 (qgU s of hs (by omega) ha) rfl (.inl rfl) ?_
 simp only [ZZ,WW,Ze,reduceCtorEq,zd,ze,zb,Nat.reduceLT,za]
 rfl
end
theorem qqO {P:Program} {w w':World} {n:String} {g:Nat} (hg:P.globalNamed n=some g) (hb:w'.heap[g]?=w.heap[g]?):w'.var? P n=w.var? P n:=by
 simp only [World.var?,hg,Option.bind_some,hb]
theorem qtM (w:World) (k:Nat) (os:Array Obj):Grow w (Sort.grow (w.drewN k) os) (fun _=>False):=⟨rfl,rfl,rfl,by simp [Sort.grow,World.drewN],fun b hb _=>by simp [Sort.grow,World.drewN,Array.getElem?_append_left hb]⟩
def qjU (c:UInt8):Bool:=decide ((c.toNat:Int) < 65) || decide ((90:Int) < (c.toNat:Int))
def qiw (s:List UInt8):Bool:=(s.all fun c=>!qjU c) && inE s.length 1 8
def qe6 (p:List UInt8) (d:Int):Int:=qaf [qaj (!qiw p) 3,qaj (!inE d 4 9) 1]
def powF (d:Int):Int:=(10:Int) ^ d.toNat
def qsQ (it:Int→List UInt8) (p:List UInt8) (d n:Int):List UInt8:=p++Lib.repeatL [48] (max 0 (d - (it n).length)).toNat++it n
def numG (it:Int→List UInt8) (p:List UInt8) (d n:Int):List UInt8×Int:=if qe6 p d=0 then (if inE n 1 (powF d - 1)=true then (qsQ it p d n,0) else ([],1)) else ([],qe6 p d)
def qtl (s:List UInt8):Bool:=(decide ((1:Int)≤s.length) && decide ((s.length:Int)≤8)) && qrM s capL
def nfF (p:List UInt8) (d:Int):Int:=if qtl p=true then (if (decide (d < 4) || decide (9 < d))=true then 1 else 0) else 3
def dd:Nat→Nat→List UInt8
 |0,_=>[]
 |f+1,u=>if u < 10 then [UInt8.ofNat (48+u)] else dd f (u / 10)++[UInt8.ofNat (48+u % 10)]
theorem qwL:∀ (f u:Nat),u < 10 ^ f→0 < f→Lib.decDigits u=dd f u
 |0,u,_,h=>absurd h (by decide)
 |f+1,u,h,_=>by
  rw [Lib.decDigits,dd]
  by_cases hu:u < 10
  ·rw [dif_pos hu,if_pos hu]
  ·rw [dif_neg hu,if_neg hu]
   have hf:0 < f:=by
    rcases Nat.eq_zero_or_pos f with rfl|h'
    ·simp at h;omega
    ·exact h'
   rw [qwL f (u / 10) (by rw [Nat.pow_succ] at h;omega) hf]
def itD (n:Int):List UInt8:=if n < 0 then 45 :: dd 12 n.natAbs else dd 12 n.toNat
theorem quR {n:Int} (h0:-100000000000≤n) (h1:n≤100000000000):Lib.itoa n=itD n:=by
 unfold Lib.itoa itD
 split
 ·rw [qwL 12 _ (by omega) (by decide)]
 ·rw [qwL 12 _ (by omega) (by decide)]
theorem qkR {d:Int} (h:d≤9):1≤powF d∧powF d≤1000000000:=by
 unfold powF
 have h1:(10:Nat) ^ d.toNat≤10 ^ 9:=Nat.pow_le_pow_right (by decide) (by omega)
 have h2:1≤(10:Nat) ^ d.toNat:=Nat.one_le_pow _ _ (by decide)
 have h3:((10:Int) ^ d.toNat)=(((10:Nat) ^ d.toNat:Nat):Int):=by simp
 rw [h3]
 omega
theorem qqw {p:List UInt8} {d:Int} (h:qe6 p d=0):4≤d∧d≤9∧p.length≤8:=by
 have hm:=qlM h
 have h1:=hm (qaj (!qiw p) 3) (by simp)
 have h2:=hm (qaj (!inE d 4 9) 1) (by simp)
 unfold qaj at h1 h2
 split at h1
 ·cases h1
 split at h2
 ·cases h2
 rename_i a1 a2
 simp only [Bool.not_eq_true',Bool.not_eq_false] at a1 a2
 simp only [qiw,inE,Bool.and_eq_true,decide_eq_true_eq] at a1 a2
 omega
theorem qwe {p:List UInt8} {d n:Int} (h0:-100≤n) (h1:n≤1000000000):numG Lib.itoa p d n=numG itD p d n:=by
 unfold numG qsQ
 rw [quR (by omega) (by omega)]
end Go.Proofs.YtehfjlpenlffmaaGreatDoor
