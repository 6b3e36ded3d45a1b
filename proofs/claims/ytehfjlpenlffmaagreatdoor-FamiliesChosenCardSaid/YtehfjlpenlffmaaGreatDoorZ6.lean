import Derived.Test.YtehfjlpenlffmaaGreatDoorZ5
import Derived.Test.YtehfjlpenlffmaaGreatDoorZ4
import Derived.Test.YtehfjlpenlffmaaGreatDoorLayValid
import Derived.Test.YtehfjlpenlffmaaGreatDoorLayIndex
import Derived.Test.YtehfjlpenlffmaaGreatDoorRep
import Derived.Test.YtehfjlpenlffmaaGreatDoorLayIndexByte
import Derived.Test.YtehfjlpenlffmaaGreatDoorSpec
import Derived.Shelf.Strings.IndexAnyAll
import Derived.Shelf.Small.Utf8
import Derived.BigQuiet
import Derived.WalkMore
import Derived.Deep.QuietTactic
import Derived.Shelf.RegionOpenPlain
import Derived.Deep.LoopGhost
import Derived.Laws.Runes
import Derived.Laws.RangeString
import Derived.Lib.IndexBytes
import Derived.Laws.Strings3
import Derived.Test.YtehfjlpenlffmaaGreatDoorLaySplit
import Derived.Lib.SplitLaws
import Derived.Test.YtehfjlpenlffmaaGreatDoorLayIndexAny
import Derived.Test.YtehfjlpenlffmaaGreatDoorLayTrim
import Derived.Test.YtehfjlpenlffmaaGreatDoorLayCompare
import Derived.Test.YtehfjlpenlffmaaGreatDoorLayCut
set_option linter.unusedVariables false
set_option linter.unusedSimpArgs false
set_option linter.defProp false
namespace Go.Proofs.YtehfjlpenlffmaaGreatDoor
open Go.RowKit
def E0:Envt where
 ok w:=Lib.Utf8Tabs 3 4 w∧∃ m:Int,w.cell? ⟨1,0,none⟩=some (.int .i64 m)
 bl b:=b=3∨b=4∨b=1
 mono w w' hb h:=by
  obtain ⟨⟨h1,h2⟩,m,h3⟩:=h
  have e1:=hb _ (.inl rfl)
  have e2:=hb _ (.inr (.inl rfl))
  have e3:=hb _ (.inr (.inr rfl))
  exact ⟨⟨fun c hc=>(World.cell?_of_block (w:=w) e1).trans (h1 c hc),fun i hi=>⟨(World.cell?_of_block (w:=w) e2).trans (h2 i hi).1,(World.cell?_of_block (w:=w) e2).trans (h2 i hi).2⟩⟩,m,(World.cell?_of_block (w:=w) e3).trans h3⟩
theorem Valid_ok (s:List UInt8) (hs:s.length≤1000000000000):PCall Tryz.prog E0 208 [.str s] (·=.bool (Lib.validD s)):=
 pcall_flat rfl rfl fun w hE=>(Any.utf8_ValidString Tryz.layValid ⟨s.toArray⟩ w (by simp [ByteArray.size];omega) hE.1).mono fun e w' h=>⟨by rw [h.1];rfl,grow_below h.2⟩
def ir_internal_stringslite_HasSuffix:IC:=(.seq (.reg [qO 4 (.mov (.c (.bool false)))]) (.seq (.reg [qM 5 0,qO 6 (.sln (.t 5)),qM 7 1,qO 8 (.sln (.t 7)),qO 9 (.bin .geq (.t 6) (.t 8)),qM 10 9,⟨some 11,.mov (.t 0),(some (10,true))⟩,⟨some 12,.mov (.t 0),(some (10,true))⟩,⟨some 13,.sln (.t 12),(some (10,true))⟩,⟨some 14,.mov (.t 1),(some (10,true))⟩,⟨some 15,.sln (.t 14),(some (10,true))⟩,⟨some 16,.bin .sub (.t 13) (.t 15),(some (10,true))⟩,⟨some 17,.ssl (.t 11) (some (.t 16)) none,(some (10,true))⟩,⟨some 18,.mov (.t 1),(some (10,true))⟩,⟨some 19,.bin .eql (.t 17) (.t 18),(some (10,true))⟩,qO 20 (.pick (.t 10) (.t 19) (.c (.bool false))),qM 4 20]) .ret))
def rs_internal_stringslite_HasSuffix:List IRes:=[.t 4]
theorem ck_internal_stringslite_HasSuffix:chkF Tryz.prog Tryz.f245 ir_internal_stringslite_HasSuffix rs_internal_stringslite_HasSuffix 21=true:=by kernel_rfl
def ir_strings_HasSuffix:IC:=(.seq (.reg [qO 4 (.mov (.c (.bool false)))]) (.seq (.reg [qM 5 0,qM 6 1,qO 7 (.call 245 [.t 5,.t 6]),qM 4 7]) .ret))
def rs_strings_HasSuffix:List IRes:=[.t 4]
theorem ck_strings_HasSuffix:chkF Tryz.prog Tryz.f185 ir_strings_HasSuffix rs_strings_HasSuffix 8=true:=by kernel_rfl
def ir_base_Visible_L0:IC:=(.seq (.reg [qO 10 (.bin .lss (.t 9) (.t 8))]) (.seq (.cond (.t 10) .skip (.exit 0)) (.seq (.block 1 (.seq (.reg [qM 11 9,qM 5 11]) (.seq (.reg [qM 12 0,qM 13 5,qO 14 (.idx (.t 12) (.t 13)),qM 6 14]) (.seq (.reg [qM 15 6,qO 16 (.bin .lss (.t 15) (.c (.int .u8 32))),qM 17 16,⟨some 18,.mov (.t 1),(some (17,true))⟩,⟨some 19,.mov (.t 18),(some (17,true))⟩,⟨some 20,.mov (.t 6),(some (19,true))⟩,⟨some 21,.bin .eql (.t 20) (.c (.int .u8 10)),(some (19,true))⟩,⟨some 22,.pick (.t 19) (.t 21) (.c (.bool false)),(some (17,true))⟩,⟨some 23,.not (.t 22),(some (17,true))⟩,qO 24 (.pick (.t 17) (.t 23) (.c (.bool false))),qM 25 24,⟨some 26,.mov (.t 6),(some (25,false))⟩,⟨some 27,.bin .eql (.t 26) (.c (.int .u8 127)),(some (25,false))⟩,qO 28 (.pick (.t 25) (.c (.bool true)) (.t 27))]) (.cond (.t 28) (.seq (.reg [qO 4 (.mov (.c (.bool false)))]) .ret) .skip))))) (.reg [qO 29 (.bin .add (.t 9) (.c (.int .i64 1))),qM 9 29]))))
def ir_base_Visible:IC:=(.seq (.reg [qO 4 (.mov (.c (.bool false)))]) (.seq (.seq (.reg [qM 7 0,qO 8 (.sln (.t 7)),qO 9 (.mov (.c (.int .i64 0)))]) (.block 0 (.loop ir_base_Visible_L0))) (.seq (.reg [qM 30 0,qO 31 (.call 208 [.t 30]),qM 4 31]) .ret)))
def rs_base_Visible:List IRes:=[.t 4]
theorem ck_base_Visible:chkF Tryz.prog Tryz.f141 ir_base_Visible rs_base_Visible 32=true:=by kernel_rfl
def ir_base_Text:IC:=(.seq (.reg [qO 2 (.mov (.c (.bool false)))]) (.seq (.reg [qM 3 0,qO 4 (.call 141 [.t 3,.c (.bool true)]),qM 5 4,⟨some 6,.mov (.t 0),(some (5,true))⟩,⟨some 7,.bin .eql (.t 6) (.c (.str [])),(some (5,true))⟩,⟨some 8,.mov (.t 7),(some (5,true))⟩,⟨some 9,.mov (.t 0),(some (8,false))⟩,⟨some 10,.call 185 [.t 9,.c (.str [10])],(some (8,false))⟩,⟨some 11,.pick (.t 8) (.c (.bool true)) (.t 10),(some (5,true))⟩,qO 12 (.pick (.t 5) (.t 11) (.c (.bool false))),qM 2 12]) .ret))
def rs_base_Text:List IRes:=[.t 2]
theorem ck_base_Text:chkF Tryz.prog Tryz.f186 ir_base_Text rs_base_Text 13=true:=by kernel_rfl
section
variable {E:Envt}
def sufE (s t:List UInt8):Bool:=decide ((t.length:Int)≤s.length) && decide (s.drop (s.length - t.length)=t)
theorem sHasSuffix_ok (s t:List UInt8) (hs:s.length≤1000000000000):PCall Tryz.prog E 245 [.str s,.str t] (·=.bool (sufE s t)):=by
 refine pcallF mixed Tryz.func245 ck_internal_stringslite_HasSuffix ?_
 simp only [a0,l0,OS.ao,List.map_cons,List.map_nil,List.length_cons,List.length_nil,List.cons_append,List.nil_append,Nat.reduceSub,Nat.reduceAdd,List.replicate_succ,List.replicate_zero,ir_internal_stringslite_HasSuffix,rs_internal_stringslite_HasSuffix,ZZ,WW,Ze,reduceCtorEq,Nat.reduceAdd,Nat.reduceMul,Nat.reduceLeDiff,Nat.reduceLT,Nat.reduceEqDiff]
 ((repeat' (with_reducible apply And.intro))<;>try ((exact sc_)))
 rw [show ((s.length:Int) - t.length).toNat=s.length - t.length from by omega,List.take_length]
 rfl
theorem HasSuffix_ok (s t:List UInt8) (hs:s.length≤1000000000000):PCall Tryz.prog E 185 [.str s,.str t] (·=.bool (sufE s t)):=by
 refine pcallF mixed Tryz.func185 ck_strings_HasSuffix ?_
 simp only [a0,l0,OS.ao,List.map_cons,List.map_nil,List.length_cons,List.length_nil,List.cons_append,List.nil_append,Nat.reduceSub,Nat.reduceAdd,List.replicate_succ,List.replicate_zero,ir_strings_HasSuffix,rs_strings_HasSuffix,ZZ,WW,Ze,reduceCtorEq,Nat.reduceAdd,Nat.reduceMul,Nat.reduceLeDiff,Nat.reduceLT,Nat.reduceEqDiff]
 refine use1 (sHasSuffix_ok s t hs) rfl (.inl rfl) ?_
 simp only [ZZ,WW,Ze,reduceCtorEq,Nat.reduceAdd,Nat.reduceMul,Nat.reduceLeDiff,Nat.reduceLT,Nat.reduceEqDiff]
def badB (feeds:Bool) (c:UInt8):Bool:=(decide ((c.toNat:Int) < 32) && !(feeds && decide ((c.toNat:Int)=10))) || decide ((c.toNat:Int)=127)
def visE (s:List UInt8) (feeds:Bool):Bool:=(s.all fun c=>!badB feeds c) && Lib.validD s
theorem all_take {s:List UInt8} {k:Nat} {c:UInt8} {p:UInt8→Bool} (h:s[k]?=some c):(s.take (k+1)).all p=((s.take k).all p && p c):=by
 obtain ⟨hk,hx⟩:=List.getElem?_eq_some_iff.1 h
 rw [List.take_succ_eq_append_getElem hk,List.all_append,hx]
 simp
end
theorem Visible_ok (s:List UInt8) (feeds:Bool) (hs:s.length≤1000000000):PCall Tryz.prog E0 141 [.str s,.bool feeds] (·=.bool (visE s feeds)):=by
 refine pcallF mixed Tryz.func141 ck_base_Visible ?_
 simp only [a0,l0,OS.ao,List.map_cons,List.map_nil,List.length_cons,List.length_nil,List.cons_append,List.nil_append,Nat.reduceSub,Nat.reduceAdd,List.replicate_succ,List.replicate_zero,ir_base_Visible,rs_base_Visible,ZZ,WW,Ze,reduceCtorEq,Nat.reduceAdd,Nat.reduceMul,Nat.reduceLeDiff,Nat.reduceLT,Nat.reduceEqDiff]
 refine loop_intro (fun n fr L=>∃ (k:Nat),k≤s.length∧n=s.length - k∧(((s.take k).all fun c=>!badB feeds c)=true)∧fr=[.p (.str s),.p (.bool feeds),oo,oo,oo,oo,oo,oo,.p (int (s.length:Nat)),.p (int (k:Nat)),oo,oo,oo,oo,oo,oo,oo,oo,oo,oo,oo,oo,oo,oo,oo,oo,oo,oo,oo,oo,oo,oo]∧L=[]) (s.length) [.p (.str s),.p (.bool feeds),oo,oo,oo,oo,oo,oo,.p (int (s.length:Nat)),.p (int (0:Nat)),oo,oo,oo,oo,oo,oo,oo,oo,oo,oo,oo,oo,oo,oo,oo,oo,oo,oo,oo,oo,oo,oo] [] (by (simp only [ZZ,WW,Ze,reduceCtorEq,Nat.reduceAdd,Nat.reduceMul,Nat.reduceLeDiff,Nat.reduceLT,Nat.reduceEqDiff];try trivial)) (by (simp only [ZZ,WW,Ze,reduceCtorEq,Nat.reduceAdd,Nat.reduceMul,Nat.reduceLeDiff,Nat.reduceLT,Nat.reduceEqDiff];try trivial)) ⟨0,by omega,by omega,by simp,rfl,rfl⟩ ?_
 rintro n fr L ⟨k,hk,rfl,hall,rfl,rfl⟩
 simp only [ir_base_Visible_L0,ZZ,WW,Ze,reduceCtorEq,Nat.reduceAdd,Nat.reduceMul,Nat.reduceLeDiff,Nat.reduceLT,Nat.reduceEqDiff]
 refine br ?_ ?_
 ·intro h
  have hlt:k < s.length:=by have:=of_decide_eq_true h;omega
  obtain ⟨c,hc⟩:∃ x,s[k]?=some x:=⟨_,List.getElem?_eq_getElem hlt⟩
  have hg:s.getD k 0=c:=by simp [List.getD,hc]
  have hnx:=all_take (p:=fun c=>!badB feeds c) hc
  simp only [ZZ,WW,Ze,reduceCtorEq,Nat.reduceAdd,Nat.reduceMul,Nat.reduceLeDiff,Nat.reduceLT,Nat.reduceEqDiff,hg]
  ((repeat' (with_reducible apply And.intro))<;>try ((exact sc_)))
  refine br ?_ ?_
  ·intro hb
   have hb:badB feeds c=true:=hb
   simp only [ZZ,WW,Ze,reduceCtorEq,Nat.reduceAdd,Nat.reduceMul,Nat.reduceLeDiff,Nat.reduceLT,Nat.reduceEqDiff]
   have:(s.all fun c=>!badB feeds c)=false:=by
    rw [List.all_eq_false]
    exact ⟨c,List.mem_of_getElem? hc,by simp [hb]⟩
   simp [visE,this]
  ·intro hb
   have hb:badB feeds c=false:=hb
   simp only [ZZ,WW,Ze,reduceCtorEq,Nat.reduceAdd,Nat.reduceMul,Nat.reduceLeDiff,Nat.reduceLT,Nat.reduceEqDiff]
   ((repeat' (with_reducible apply And.intro))<;>try ((exact sc_)))
   refine end_round (s.length - (k+1)) [.p (.str s),.p (.bool feeds),oo,oo,oo,oo,oo,oo,.p (int (s.length:Nat)),.p (int ((k+1):Nat)),oo,oo,oo,oo,oo,oo,oo,oo,oo,oo,oo,oo,oo,oo,oo,oo,oo,oo,oo,oo,oo,oo] [] (by omega) (by (simp only [ZZ,WW,Ze,reduceCtorEq,Nat.reduceAdd,Nat.reduceMul,Nat.reduceLeDiff,Nat.reduceLT,Nat.reduceEqDiff];try trivial)) (by (simp only [ZZ,WW,Ze,reduceCtorEq,Nat.reduceAdd,Nat.reduceMul,Nat.reduceLeDiff,Nat.reduceLT,Nat.reduceEqDiff];try trivial)) ⟨k+1,by omega,rfl,by rw [hnx,hall,hb];rfl,rfl,rfl⟩
 ·intro h
  have hge:s.length≤k:=by have:=of_decide_eq_false h;omega
  rw [List.take_of_length_le hge] at hall
  simp only [ZZ,WW,Ze,reduceCtorEq,Nat.reduceAdd,Nat.reduceMul,Nat.reduceLeDiff,Nat.reduceLT,Nat.reduceEqDiff]
  refine use1 (Valid_ok s (by omega)) rfl (.inl rfl) ?_
  simp only [ZZ,WW,Ze,reduceCtorEq,Nat.reduceAdd,Nat.reduceMul,Nat.reduceLeDiff,Nat.reduceLT,Nat.reduceEqDiff]
  simp [visE,hall]
def textE (s:List UInt8):Bool:=visE s true && (decide (s=[]) || sufE s [10])
theorem Text_ok (s:List UInt8) (hs:s.length≤1000000000):PCall Tryz.prog E0 186 [.str s] (·=.bool (textE s)):=by
 refine pcallF mixed Tryz.func186 ck_base_Text ?_
 simp only [a0,l0,OS.ao,List.map_cons,List.map_nil,List.length_cons,List.length_nil,List.cons_append,List.nil_append,Nat.reduceSub,Nat.reduceAdd,List.replicate_succ,List.replicate_zero,ir_base_Text,rs_base_Text,ZZ,WW,Ze,reduceCtorEq,Nat.reduceAdd,Nat.reduceMul,Nat.reduceLeDiff,Nat.reduceLT,Nat.reduceEqDiff]
 refine use1 (Visible_ok s true hs) rfl (.inl rfl) ?_
 simp only [ZZ,WW,Ze,reduceCtorEq,Nat.reduceAdd,Nat.reduceMul,Nat.reduceLeDiff,Nat.reduceLT,Nat.reduceEqDiff]
 ((repeat' (with_reducible apply And.intro))<;>try ((exact sc_)))
 refine useG (fun _=>HasSuffix_ok s [10] (by omega)) rfl (.inl rfl) ?_
 simp only [ZZ,WW,Ze,reduceCtorEq,Nat.reduceAdd,Nat.reduceMul,Nat.reduceLeDiff,Nat.reduceLT,Nat.reduceEqDiff]
 ((repeat' (with_reducible apply And.intro))<;>try ((exact sc_)))
section
variable {E:Envt}
end
def IsRow (k:IntKind) (w:World) (a:Option Addr) (len cap:Nat) (zs:List Int):Prop:=
 (a=none∧len=0∧cap=0∧zs=[])∨
 ∃ x,a=some x∧len≤cap∧cap≤maxLen∧zs.length=cap∧(∀ i,i < zs.length→w.cell? (x.add i)=some (.int k (zs.getD i 0)))∧∀ n∈zs,(Lit.int k n).wf=true
theorem repE_ints {w:World} {U:Nat→Prop} {b:Nat}:∀ (l:List Int) (off:Nat),(∀ i,i < l.length→w.cell? ⟨b,off+i,none⟩=some (.int .i64 (l.getD i 0)))→PRepE w U b 1 off (l.map fun x=>[.int .i64 x])
 |[],off,h=>trivial
 |x :: r,off,h=>by
  refine ⟨rfl,⟨⟨_,by simpa using h 0 (by simp),rfl,rfl⟩,trivial⟩,repE_ints r (off+1) (fun i hi=>?_)⟩
  have:=h (i+1) (by simpa using hi)
  rw [show off+1+i=off+(i+1) from by omega]
  simpa using this
theorem isRow_rep {w:World} {a:Option Addr} {len cap:Nat} {zs:List Int} (h:IsRow .i64 w a len cap zs):PRep w (fun _=>False) (ints (zs.take len)) (.slice a len cap)∧(zs.take len).length≤9223372036854775807:=by
 rcases h with ⟨rfl,rfl,rfl,rfl⟩|⟨x,rfl,h1,h2,h3,h4,_⟩
 ·exact ⟨⟨none,0,rfl,by simp,fun h=>by simp at h⟩,by simp⟩
 ·have hl:(zs.take len).length=len:=by rw [List.length_take];omega
  refine ⟨⟨some x,cap,by rw [List.length_map,hl],by rw [List.length_map,hl];exact h1,fun hne=>?_⟩,by rw [hl];unfold maxLen at h2;omega⟩
  have h0:0 < len:=by
   rcases Nat.eq_zero_or_pos len with h'|h'
   ·subst h';simp at hne
   ·exact h'
  obtain ⟨b,off,spot⟩:=x
  have hc:=h4 0 (by omega)
  have hspot:spot=none:=by simpa [Addr.add] using World.cell?_spot hc
  subst hspot
  have hb:b < w.heap.size:=by
   have:=World.block_lt_of_cell? w _ hc
   simpa [Addr.add] using this
  refine ⟨b,off,rfl,hb,fun h=>h,repE_ints _ _ (fun i hi=>?_)⟩
  rw [hl] at hi
  have:=h4 i (by omega)
  rw [addr_addA] at this
  rw [this]
  congr 2
  rw [List.getD_eq_getElem?_getD,List.getD_eq_getElem?_getD,List.getElem?_take_of_lt hi]
theorem walk_of {P:Program} {E:Envt} {f:FuncId} (h:∀ z:List Int,z.length≤9223372036854775807→PCall P E f [ints z] (·=.bool true)) (a0:Option Addr) (len0 cap0:Nat) (z0:List Int) (w:World) (h0:IsRow .i64 w a0 len0 cap0 z0) (hok:E.ok w) (hbl:∀ b,E.bl b→b < w.heap.size) :
  Calls P f #[.slice a0 len0 cap0] w fun e w'=>e=.returned (.bool true)∧Below w.heap.size w w':=by
 obtain ⟨h1,h2⟩:=isRow_rep h0
 refine (h _ h2 w (fun _=>False) [.slice a0 len0 cap0] (fun _ h=>h.elim) hok hbl ⟨_,[],rfl,h1,rfl⟩).mono ?_
 rintro e w' ⟨v,x,rfl,rfl,hv,hg⟩
 refine ⟨by rw [PRep.bool_eq hv],⟨hg.os,hg.tape,hg.output,hg.size,fun k hk=>hg.block k hk (fun h=>h)⟩⟩
theorem ba_size (s:List UInt8):(⟨s.toArray⟩:ByteArray).size=s.length:=by simp [ByteArray.size]
section
variable {E:Envt}
theorem Repeat_ok (s:List UInt8) (n:Nat) (hn:n≤1000000) (hs:s.length≤1000000):PCall Tryz.prog E 44 [.str s,int n] (·=.str (Lib.repeatL s n)):=
 pcall_flat rfl rfl fun w _=>(r_Repeat ⟨s.toArray⟩ n w (by omega) (by rw [ba_size];exact Nat.le_trans (Nat.mul_le_mul hs hn) (by decide))).mono fun e w' h=>⟨h.1,grow_below h.2⟩
theorem HasPrefix_ok (s p:List UInt8):PCall Tryz.prog E 132 [.str s,.str p] (·=.bool (Lib.hasPrefix s p)):=
 pcall_flat rfl rfl fun w _=>(Any.strings_HasPrefix Tryz.layPrefix ⟨s.toArray⟩ ⟨p.toArray⟩ w).mono fun e w' h=>⟨h.1,by rw [h.2];exact Grow.refl _ _⟩
end
theorem Index_ok (s t:List UInt8) (hs:s.length≤1000000000):PCall Tryz.prog E0 222 [.str s,.str t] (·=int (Lib.index s t)):=
 pcall_flat rfl rfl fun w hE=>by
  obtain ⟨_,m,hm⟩:=hE
  exact (Any.strings_Index { Tryz.layIndex with } ⟨s.toArray⟩ ⟨t.toArray⟩ m w (by rw [ba_size];omega) hm).mono fun e w' h=>⟨h.1,by rw [h.2];exact Grow.refl _ _⟩
def ir_chaseref1_wellFormed_L0:IC:=(.seq (.reg [qO 11 (.bin .lss (.t 10) (.t 9))]) (.seq (.cond (.t 11) .skip (.exit 0)) (.seq (.block 1 (.seq (.reg [qO 12 (.ixa 1 (.t 8) (.t 10)),qO 13 (.ld 1 false (.t 12)),qM 6 13]) (.seq (.reg [qM 14 6,qO 15 (.bin .lss (.t 14) (.c (.int .u8 32))),qM 16 15,⟨some 17,.mov (.t 1),(some (16,true))⟩,⟨some 18,.mov (.t 17),(some (16,true))⟩,⟨some 19,.mov (.t 6),(some (18,true))⟩,⟨some 20,.bin .eql (.t 19) (.c (.int .u8 10)),(some (18,true))⟩,⟨some 21,.pick (.t 18) (.t 20) (.c (.bool false)),(some (16,true))⟩,⟨some 22,.not (.t 21),(some (16,true))⟩,qO 23 (.pick (.t 16) (.t 22) (.c (.bool false))),qM 24 23,⟨some 25,.mov (.t 6),(some (24,false))⟩,⟨some 26,.bin .eql (.t 25) (.c (.int .u8 127)),(some (24,false))⟩,qO 27 (.pick (.t 24) (.c (.bool true)) (.t 26))]) (.cond (.t 27) (.seq (.reg [qO 4 (.mov (.c (.bool false)))]) .ret) .skip)))) (.reg [qO 28 (.bin .add (.t 10) (.c (.int .i64 1))),qM 10 28]))))
def ir_chaseref1_wellFormed:IC:=(.seq (.reg [qO 4 (.mov (.c (.bool false)))]) (.seq (.seq (.reg [qM 7 0,qO 8 (.s2b 5 (.t 7)),qO 9 (.len (.t 8)),qO 10 (.mov (.c (.int .i64 0)))]) (.block 0 (.loop ir_chaseref1_wellFormed_L0))) (.seq (.reg [qM 29 0,qO 30 (.call 208 [.t 29]),qM 4 30]) .ret)))
def rs_chaseref1_wellFormed:List IRes:=[.t 4]
theorem ck_chaseref1_wellFormed:chkF Tryz.prog Tryz.f147 ir_chaseref1_wellFormed rs_chaseref1_wellFormed 31=true:=by kernel_rfl
theorem all256 {p:UInt8→Prop} (h:∀ n:Fin 256,p (UInt8.ofNat n.val)) (c:UInt8):p c:=by
 have:=h ⟨c.toNat,c.toNat_lt⟩
 simpa using this
def capL:List UInt8:=[65,66,67,68,69,70,71,72,73,74,75,76,77,78,79,80,81,82,83,84,85,86,87,88,89,90]
section
variable {E:Envt}
end
theorem wellFormed_ok (s:List UInt8) (feeds:Bool) (hs:s.length≤1000000000):PCall Tryz.prog E0 147 [.str s,.bool feeds] (·=.bool (visE s feeds)):=by
 refine pcallF mixed Tryz.func147 ck_chaseref1_wellFormed ?_
 simp only [a0,l0,OS.ao,List.map_cons,List.map_nil,List.length_cons,List.length_nil,List.cons_append,List.nil_append,Nat.reduceSub,Nat.reduceAdd,List.replicate_succ,List.replicate_zero,ir_chaseref1_wellFormed,rs_chaseref1_wellFormed,ZZ,WW,Ze,reduceCtorEq,Nat.reduceAdd,Nat.reduceMul,Nat.reduceLeDiff,Nat.reduceLT,Nat.reduceEqDiff]
 refine ⟨by omega,?_⟩
 have hln:(s.map fun q=>[PV.int .u8 (q.toNat:Nat)]).length=s.length:=by simp
 have hget:∀ k c,s[k]?=some c→(s.map fun q=>[PV.int .u8 (q.toNat:Nat)]).getD k []=[.int .u8 (c.toNat:Nat)]:=fun k c h=>getD_map h
 generalize (s.map fun q=>[PV.int .u8 (q.toNat:Nat)])=es at hln hget ⊢
 simp only [ZZ,WW,Ze,reduceCtorEq,Nat.reduceAdd,Nat.reduceMul,Nat.reduceLeDiff,Nat.reduceLT,Nat.reduceEqDiff,hln]
 refine loop_intro (fun n fr L=>∃ (k:Nat),k≤s.length∧n=s.length - k∧(((s.take k).all fun c=>!badB feeds c)=true)∧fr=[.p (.str s),.p (.bool feeds),oo,oo,oo,oo,oo,oo,.row (.l 8),.p (int (s.length:Nat)),.p (int (k:Nat)),oo,oo,oo,oo,oo,oo,oo,oo,oo,oo,oo,oo,oo,oo,oo,oo,oo,oo,oo,oo]∧L=[(.l 8,.row es 5 1 false)]) (s.length) [.p (.str s),.p (.bool feeds),oo,oo,oo,oo,oo,oo,.row (.l 8),.p (int (s.length:Nat)),.p (int (0:Nat)),oo,oo,oo,oo,oo,oo,oo,oo,oo,oo,oo,oo,oo,oo,oo,oo,oo,oo,oo,oo] [(.l 8,.row es 5 1 false)] (by (simp only [ZZ,WW,Ze,reduceCtorEq,Nat.reduceAdd,Nat.reduceMul,Nat.reduceLeDiff,Nat.reduceLT,Nat.reduceEqDiff];try trivial)) (by (simp only [ZZ,WW,Ze,reduceCtorEq,Nat.reduceAdd,Nat.reduceMul,Nat.reduceLeDiff,Nat.reduceLT,Nat.reduceEqDiff];try trivial)) ⟨0,by omega,by omega,by simp,rfl,rfl⟩ ?_
 rintro n fr L ⟨k,hk,rfl,hall,rfl,rfl⟩
 simp only [ir_chaseref1_wellFormed_L0,ZZ,WW,Ze,reduceCtorEq,Nat.reduceAdd,Nat.reduceMul,Nat.reduceLeDiff,Nat.reduceLT,Nat.reduceEqDiff]
 refine br ?_ ?_
 ·intro h
  have hlt:k < s.length:=by have:=of_decide_eq_true h;omega
  obtain ⟨c,hc⟩:∃ x,s[k]?=some x:=⟨_,List.getElem?_eq_getElem hlt⟩
  have hg:=hget k c hc
  have hnx:=all_take (p:=fun c=>!badB feeds c) hc
  simp only [ZZ,WW,Ze,reduceCtorEq,Nat.reduceAdd,Nat.reduceMul,Nat.reduceLeDiff,Nat.reduceLT,Nat.reduceEqDiff,hg,hln]
  ((repeat' (with_reducible apply And.intro))<;>try ((exact sc_)))
  refine br ?_ ?_
  ·intro hb
   have hb:badB feeds c=true:=hb
   simp only [ZZ,WW,Ze,reduceCtorEq,Nat.reduceAdd,Nat.reduceMul,Nat.reduceLeDiff,Nat.reduceLT,Nat.reduceEqDiff]
   have:(s.all fun c=>!badB feeds c)=false:=by
    rw [List.all_eq_false]
    exact ⟨c,List.mem_of_getElem? hc,by simp [hb]⟩
   simp [visE,this]
  ·intro hb
   have hb:badB feeds c=false:=hb
   simp only [ZZ,WW,Ze,reduceCtorEq,Nat.reduceAdd,Nat.reduceMul,Nat.reduceLeDiff,Nat.reduceLT,Nat.reduceEqDiff]
   ((repeat' (with_reducible apply And.intro))<;>try ((exact sc_)))
   refine end_round (s.length - (k+1)) [.p (.str s),.p (.bool feeds),oo,oo,oo,oo,oo,oo,.row (.l 8),.p (int (s.length:Nat)),.p (int ((k+1):Nat)),oo,oo,oo,oo,oo,oo,oo,oo,oo,oo,oo,oo,oo,oo,oo,oo,oo,oo,oo,oo] [(.l 8,.row es 5 1 false)] (by omega) (by (simp only [ZZ,WW,Ze,reduceCtorEq,Nat.reduceAdd,Nat.reduceMul,Nat.reduceLeDiff,Nat.reduceLT,Nat.reduceEqDiff];try trivial)) (by (simp only [ZZ,WW,Ze,reduceCtorEq,Nat.reduceAdd,Nat.reduceMul,Nat.reduceLeDiff,Nat.reduceLT,Nat.reduceEqDiff];try trivial)) ⟨k+1,by omega,rfl,by rw [hnx,hall,hb];rfl,rfl,rfl⟩
 ·intro h
  have hge:s.length≤k:=by have:=of_decide_eq_false h;omega
  rw [List.take_of_length_le hge] at hall
  simp only [ZZ,WW,Ze,reduceCtorEq,Nat.reduceAdd,Nat.reduceMul,Nat.reduceLeDiff,Nat.reduceLT,Nat.reduceEqDiff]
  refine use1 (Valid_ok s (by omega)) rfl (.inl rfl) ?_
  simp only [ZZ,WW,Ze,reduceCtorEq,Nat.reduceAdd,Nat.reduceMul,Nat.reduceLeDiff,Nat.reduceLT,Nat.reduceEqDiff]
  simp [visE,hall]
def ir_base_Digit:IC:=(.seq (.reg [qO 2 (.mov (.c (.bool false)))]) (.seq (.reg [qM 3 0,qO 4 (.bin .geq (.t 3) (.c (.int .u8 48))),qM 5 4,⟨some 6,.mov (.t 0),(some (5,true))⟩,⟨some 7,.bin .leq (.t 6) (.c (.int .u8 57)),(some (5,true))⟩,qO 8 (.pick (.t 5) (.t 7) (.c (.bool false))),qM 2 8]) .ret))
def rs_base_Digit:List IRes:=[.t 2]
theorem ck_base_Digit:chkF Tryz.prog Tryz.f139 ir_base_Digit rs_base_Digit 9=true:=by kernel_rfl
def digB (c:UInt8):Bool:=decide (48≤(c.toNat:Int)) && decide ((c.toNat:Int)≤57)
section
variable {E:Envt}
theorem Digit_ok (c:UInt8):PCall Tryz.prog E 139 [.int .u8 (c.toNat:Nat)] (·=.bool (digB c)):=by
 refine pcallF mixed Tryz.func139 ck_base_Digit ?_
 simp only [a0,l0,OS.ao,List.map_cons,List.map_nil,List.length_cons,List.length_nil,List.cons_append,List.nil_append,Nat.reduceSub,Nat.reduceAdd,List.replicate_succ,List.replicate_zero,ir_base_Digit,rs_base_Digit,ZZ,WW,Ze,reduceCtorEq,Nat.reduceAdd,Nat.reduceMul,Nat.reduceLeDiff,Nat.reduceLT,Nat.reduceEqDiff]
 ((repeat' (with_reducible apply And.intro))<;>try ((exact sc_)))
def strE (l:List (List UInt8)):List (List PV):=l.map fun x=>[PV.str x]
theorem strE_len (l:List (List UInt8)):(strE l).length=l.length:=by simp [strE]
theorem strE_app (l m:List (List UInt8)):strE (l++m)=strE l++strE m:=by simp [strE]
theorem strE_get {l:List (List UInt8)} {k:Nat} {x:List UInt8} (h:l[k]?=some x):(strE l).getD k []=[.str x]:=getD_map h
end
section
variable {E:Envt}
end
end Go.Proofs.YtehfjlpenlffmaaGreatDoor
namespace Go.Proofs.YtehfjlpenlffmaaGreatDoor
open Go.Lib Go.RowKit Go.Shelf
theorem indexByte_absent {l:List UInt8} {c:UInt8} (h:∀ b∈l,b≠c):Lib.indexByte l c=-1:=by
 have h1:=Lib.contains_iff_indexByte l c
 have h2:l.contains c=false:=by
  rw [Bool.eq_false_iff]
  intro h3
  exact h c (by simpa using h3) rfl
 rw [h2] at h1
 have h3:¬ (0:Int)≤Lib.indexByte l c:=of_decide_eq_false h1.symm
 have h4:-1≤Lib.indexByte l c:=by rw [← Lib.indexAny_one];exact Lib.indexAny_ge _ _
 omega
def Asc (s:ByteArray):Prop:=∀ (j:Nat) (b:UInt8),s.data.toList[j]?=some b→b.toNat < 128
theorem Asc.rest {s:ByteArray} (h:Asc s) (i:Nat) {c:UInt8} (hc:128≤c.toNat):Lib.indexByte (s.extract i s.size).data.toList c=-1:=by
 refine indexByte_absent fun b hb e=>?_
 have hb:=mem_extract hb
 obtain ⟨j,hj⟩:=List.getElem?_of_mem hb
 have:=h j b hj
 rw [e] at this
 omega
section
variable {P:Program} {ρ:Ren}
end
end Go.Proofs.YtehfjlpenlffmaaGreatDoor
namespace Go.Proofs.YtehfjlpenlffmaaGreatDoor
open Go.RowKit
def ir_chaseref1_made:IC:=(.seq (.reg [qO 4 (.mov (.c (.bool false)))]) (.seq (.reg [qM 5 0,qM 6 1,qO 7 (.call 155 [.t 5,.t 6]),qO 8 (.bin .eql (.t 7) (.c (.str []))),qM 4 8]) .ret))
def rs_chaseref1_made:List IRes:=[.t 4]
theorem ck_chaseref1_made:chkF Tryz.prog Tryz.f143 ir_chaseref1_made rs_chaseref1_made 9=true:=by kernel_rfl
def madeF (s of:List UInt8):Bool:=decide (Lib.trimS s of=[])
theorem dropW_nil {p:UInt8→Bool}:∀ {l:List UInt8},l.dropWhile p=[]↔l.all p=true
 |[]=>by simp
 |x :: r=>by
  simp only [List.dropWhile,List.all_cons]
  cases h:p x
  ·simp
  ·simpa using dropW_nil (l:=r)
theorem madeF_all (s of:List UInt8):madeF s of=s.all (fun c=>of.contains c):=by
 rw [Bool.eq_iff_iff,madeF,decide_eq_true_iff,Lib.trimS,Lib.trimLeftS,Lib.trimRightS,dropW_nil]
 constructor
 ·intro h
  have h2:∀ l:List UInt8,(l.dropWhile fun c=>of.contains c).all (fun c=>of.contains c)=true→l.all (fun c=>of.contains c)=true:=by
   intro l
   induction l with
   |nil=>simp
   |cons x r ih=>
    simp only [List.dropWhile]
    cases hx:of.contains x
    ·intro h;exact h
    ·intro h;simp only [List.all_cons,hx,Bool.true_and];exact ih h
  have:=h2 s.reverse (by simpa [List.all_reverse] using h)
  simpa [List.all_reverse] using this
 ·intro h
  have:(s.reverse.dropWhile fun c=>of.contains c)=[]:=dropW_nil.2 (by simpa [List.all_reverse] using h)
  rw [this]
  simp
section
variable {E:Envt}
def asc (l:List UInt8):Bool:=l.all fun b=>decide (b.toNat < 128)
theorem asc_at {l:List UInt8} (h:asc l=true):∀ (j:Nat) b,(⟨l.toArray⟩:ByteArray).data.toList[j]?=some b→b.toNat < 128:=
 fun _ b hb=>of_decide_eq_true (List.all_eq_true.1 h b (List.mem_of_getElem? (by simpa using hb)))
theorem TrimSet_ok (s cs:List UInt8) (hs:s.length≤1000000000) (hcs:cs.length≤1000000) (h2:asc cs=true):PCall Tryz.prog E 155 [.str s,.str cs] (·=.str (Lib.trimS s cs)):=
 pcall_flat rfl rfl fun w _=>(Any.strings_Trim_laid Tryz.layTrim (by kernel_rfl) ⟨s.toArray⟩ ⟨cs.toArray⟩ w (by rw [ba_size];omega) (by rw [ba_size];omega) (asc_at h2)).mono fun e w' h=>⟨h.1,grow_below h.2⟩
theorem made_ok (s of:List UInt8) (hs:s.length≤1000000000) (ho:of.length≤1000) (ha:asc of=true):PCall Tryz.prog E 143 [.str s,.str of] (·=.bool (madeF s of)):=by
 refine pcallF mixed Tryz.func143 ck_chaseref1_made ?_
 simp only [a0,l0,OS.ao,List.map_cons,List.map_nil,List.length_cons,List.length_nil,List.cons_append,List.nil_append,Nat.reduceSub,Nat.reduceAdd,List.replicate_succ,List.replicate_zero,ir_chaseref1_made,rs_chaseref1_made,ZZ,WW,Ze,reduceCtorEq,Nat.reduceAdd,Nat.reduceMul,Nat.reduceLeDiff,Nat.reduceLT,Nat.reduceEqDiff]
 refine use1 (TrimSet_ok s of hs (by omega) ha) rfl (.inl rfl) ?_
 simp only [ZZ,WW,Ze,reduceCtorEq,Nat.reduceAdd,Nat.reduceMul,Nat.reduceLeDiff,Nat.reduceLT,Nat.reduceEqDiff]
 rfl
end
def ir_base_small:IC:=(.seq (.reg [qO 2 (.mov (.c (.bool false)))]) (.seq (.reg [qM 3 0,qO 4 (.bin .geq (.t 3) (.c (.int .u8 97))),qM 5 4,⟨some 6,.mov (.t 0),(some (5,true))⟩,⟨some 7,.bin .leq (.t 6) (.c (.int .u8 122)),(some (5,true))⟩,qO 8 (.pick (.t 5) (.t 7) (.c (.bool false))),qM 2 8]) .ret))
def rs_base_small:List IRes:=[.t 2]
theorem ck_base_small:chkF Tryz.prog Tryz.f138 ir_base_small rs_base_small 9=true:=by kernel_rfl
def ir_base_Key_L0:IC:=(.seq (.reg [qO 18 (.bin .lss (.t 17) (.t 16))]) (.seq (.cond (.t 18) .skip (.exit 0)) (.seq (.block 1 (.seq (.reg [qM 19 17,qM 3 19]) (.seq (.reg [qM 20 0,qM 21 3,qO 22 (.idx (.t 20) (.t 21)),qM 4 22]) (.seq (.reg [qM 23 4,qO 24 (.call 138 [.t 23]),qO 25 (.not (.t 24)),qM 26 25,⟨some 27,.mov (.t 4),(some (26,true))⟩,⟨some 28,.call 139 [.t 27],(some (26,true))⟩,⟨some 29,.not (.t 28),(some (26,true))⟩,qO 30 (.pick (.t 26) (.t 29) (.c (.bool false))),qM 31 30,⟨some 32,.mov (.t 4),(some (31,true))⟩,⟨some 33,.bin .neq (.t 32) (.c (.int .u8 45)),(some (31,true))⟩,qO 34 (.pick (.t 31) (.t 33) (.c (.bool false))),qM 35 34,⟨some 36,.mov (.t 4),(some (35,true))⟩,⟨some 37,.bin .neq (.t 36) (.c (.int .u8 95)),(some (35,true))⟩,qO 38 (.pick (.t 35) (.t 37) (.c (.bool false)))]) (.cond (.t 38) (.seq (.reg [qO 2 (.mov (.c (.bool false)))]) .ret) .skip))))) (.reg [qO 39 (.bin .add (.t 17) (.c (.int .i64 1))),qM 17 39]))))
def ir_base_Key:IC:=(.seq (.reg [qO 2 (.mov (.c (.bool false)))]) (.seq (.seq (.reg [qM 5 0,qO 6 (.sln (.t 5)),qO 7 (.call 51 [.t 6,.c (.int .i64 1),.c (.int .i64 40)]),qO 8 (.not (.t 7)),qM 9 8,⟨some 10,.mov (.t 0),(some (9,false))⟩,⟨some 11,.idx (.t 10) (.c (.int .i64 0)),(some (9,false))⟩,⟨some 12,.call 138 [.t 11],(some (9,false))⟩,⟨some 13,.not (.t 12),(some (9,false))⟩,qO 14 (.pick (.t 9) (.c (.bool true)) (.t 13))]) (.cond (.t 14) (.seq (.reg [qO 2 (.mov (.c (.bool false)))]) .ret) .skip)) (.seq (.seq (.reg [qM 15 0,qO 16 (.sln (.t 15)),qO 17 (.mov (.c (.int .i64 0)))]) (.block 0 (.loop ir_base_Key_L0))) (.seq (.reg [qO 2 (.mov (.c (.bool true)))]) .ret))))
def rs_base_Key:List IRes:=[.t 2]
theorem ck_base_Key:chkF Tryz.prog Tryz.f53 ir_base_Key rs_base_Key 40=true:=by kernel_rfl
def smB (c:UInt8):Bool:=decide (97≤(c.toNat:Int)) && decide ((c.toNat:Int)≤122)
def kcB (c:UInt8):Bool:=((smB c || digB c) || decide (c=45)) || decide (c=95)
def keyB (s:List UInt8):Bool:=(inE s.length 1 40 && smB (s.headD 0)) && s.all kcB
def smSet:List UInt8:=[97,98,99,100,101,102,103,104,105,106,107,108,109,110,111,112,113,114,115,116,117,118,119,120,121,122]
def kcSet:List UInt8:=smSet++[48,49,50,51,52,53,54,55,56,57,45,95]
theorem smB_set (c:UInt8):smSet.contains c=smB c:=all256 (p:=fun c=>smSet.contains c=smB c) (by decide +kernel) c
theorem kcB_set (c:UInt8):kcSet.contains c=kcB c:=all256 (p:=fun c=>kcSet.contains c=kcB c) (by decide +kernel) c
theorem u8_45 (c:UInt8):decide ((c.toNat:Int)=45)=decide (c=45):=all256 (p:=fun c=>decide ((c.toNat:Int)=45)=decide (c=45)) (by decide +kernel) c
theorem u8_95 (c:UInt8):decide ((c.toNat:Int)=95)=decide (c=95):=all256 (p:=fun c=>decide ((c.toNat:Int)=95)=decide (c=95)) (by decide +kernel) c
section
variable {E:Envt}
theorem small_ok (c:UInt8):PCall Tryz.prog E 138 [.int .u8 (c.toNat:Nat)] (·=.bool (smB c)):=by
 refine pcallF mixed Tryz.func138 ck_base_small ?_
 simp only [a0,l0,OS.ao,List.map_cons,List.map_nil,List.length_cons,List.length_nil,List.cons_append,List.nil_append,Nat.reduceSub,Nat.reduceAdd,List.replicate_succ,List.replicate_zero,ir_base_small,rs_base_small,ZZ,WW,Ze,reduceCtorEq,Nat.reduceAdd,Nat.reduceMul,Nat.reduceLeDiff,Nat.reduceLT,Nat.reduceEqDiff]
 ((repeat' (with_reducible apply And.intro))<;>try ((exact sc_)))
theorem Key_ok (s:List UInt8) (hs:s.length≤1000000000):PCall Tryz.prog E 53 [.str s] (·=.bool (keyB s)):=by
 refine pcallF mixed Tryz.func53 ck_base_Key ?_
 simp only [a0,l0,OS.ao,List.map_cons,List.map_nil,List.length_cons,List.length_nil,List.cons_append,List.nil_append,Nat.reduceSub,Nat.reduceAdd,List.replicate_succ,List.replicate_zero,ir_base_Key,rs_base_Key,ZZ,WW,Ze,reduceCtorEq,Nat.reduceAdd,Nat.reduceMul,Nat.reduceLeDiff,Nat.reduceLT,Nat.reduceEqDiff]
 refine use1 (In_ok s.length 1 40) rfl (.inl rfl) ?_
 by_cases hi:inE s.length 1 40=true
 rotate_left
 ·have hi:inE s.length 1 40=false:=by simpa using hi
  have hk:keyB s=false:=by rw [keyB,hi];rfl
  rw [hi,hk]
  simp only [ZZ,WW,Ze,reduceCtorEq,Nat.reduceAdd,Nat.reduceMul,Nat.reduceLeDiff,Nat.reduceLT,Nat.reduceEqDiff]
  refine ⟨fun h=>h.elim,?_⟩
  refine useGC (fun h=>by cases h) (fun _=>?_)
  simp only [ZZ,WW,Ze,reduceCtorEq,Nat.reduceAdd,Nat.reduceMul,Nat.reduceLeDiff,Nat.reduceLT,Nat.reduceEqDiff]
 have hi2:=hi
 simp only [inE,Bool.and_eq_true,decide_eq_true_eq] at hi2
 obtain ⟨c0,hc0⟩:∃ c,s[0]?=some c:=⟨_,List.getElem?_eq_getElem (by omega)⟩
 have hd0:s.headD 0=c0:=by cases s with|nil=>simp at hc0|cons a r=>simpa using hc0
 have hg0:s.getD (Int.toNat 0) 0=c0:=by simp [List.getD,hc0]
 have hk:keyB s=(smB c0 && s.all kcB):=by rw [keyB,hi,hd0,Bool.true_and]
 rw [hi,hk]
 simp only [ZZ,WW,Ze,reduceCtorEq,Nat.reduceAdd,Nat.reduceMul,Nat.reduceLeDiff,Nat.reduceLT,Nat.reduceEqDiff,hg0]
 ((repeat' (with_reducible apply And.intro))<;>try ((exact sc_)))
 refine useG (fun _=>small_ok c0) rfl (.inl rfl) ?_
 simp only [ZZ,WW,Ze,reduceCtorEq,Nat.reduceAdd,Nat.reduceMul,Nat.reduceLeDiff,Nat.reduceLT,Nat.reduceEqDiff]
 refine br ?_ ?_
 ·intro h
  have h:smB c0=false:=by simpa using h
  simp only [ZZ,WW,Ze,reduceCtorEq,Nat.reduceAdd,Nat.reduceMul,Nat.reduceLeDiff,Nat.reduceLT,Nat.reduceEqDiff]
  rw [h]
  rfl
 intro h
 have h:smB c0=true:=by simpa using h
 rw [h,Bool.true_and]
 simp only [ZZ,WW,Ze,reduceCtorEq,Nat.reduceAdd,Nat.reduceMul,Nat.reduceLeDiff,Nat.reduceLT,Nat.reduceEqDiff]
 refine loop_intro (fun n fr L=>∃ (k:Nat),k≤s.length∧n=s.length - k∧(s.all kcB=(s.drop k).all kcB)∧fr=[.p (.str s),oo,oo,oo,oo,oo,oo,oo,oo,oo,oo,oo,oo,oo,oo,oo,.p (int (s.length:Nat)),.p (int (k:Nat)),oo,oo,oo,oo,oo,oo,oo,oo,oo,oo,oo,oo,oo,oo,oo,oo,oo,oo,oo,oo,oo,oo]∧L=[]) (s.length) [.p (.str s),oo,oo,oo,oo,oo,oo,oo,oo,oo,oo,oo,oo,oo,oo,oo,.p (int (s.length:Nat)),.p (int (0:Nat)),oo,oo,oo,oo,oo,oo,oo,oo,oo,oo,oo,oo,oo,oo,oo,oo,oo,oo,oo,oo,oo,oo] [] (by (simp only [ZZ,WW,Ze,reduceCtorEq,Nat.reduceAdd,Nat.reduceMul,Nat.reduceLeDiff,Nat.reduceLT,Nat.reduceEqDiff];try trivial)) (by (simp only [ZZ,WW,Ze,reduceCtorEq,Nat.reduceAdd,Nat.reduceMul,Nat.reduceLeDiff,Nat.reduceLT,Nat.reduceEqDiff];try trivial)) ⟨0,by omega,by omega,by simp,rfl,rfl⟩ ?_
 rintro n fr L ⟨k,hk,rfl,hf,rfl,rfl⟩
 simp only [ir_base_Key_L0,ZZ,WW,Ze,reduceCtorEq,Nat.reduceAdd,Nat.reduceMul,Nat.reduceLeDiff,Nat.reduceLT,Nat.reduceEqDiff]
 refine br ?_ ?_
 ·intro h2
  have hlt:k < s.length:=by have:=of_decide_eq_true h2;omega
  obtain ⟨c,hc⟩:∃ c,s[k]?=some c:=⟨_,List.getElem?_eq_getElem hlt⟩
  have hg:s.getD k 0=c:=by simp [List.getD,hc]
  have hdr:s.drop k=c :: s.drop (k+1):=by
   obtain ⟨hl,rfl⟩:=List.getElem?_eq_some_iff.1 hc
   exact List.drop_eq_getElem_cons hl
  rw [hdr,List.all_cons] at hf
  simp only [ZZ,WW,Ze,reduceCtorEq,Nat.reduceAdd,Nat.reduceMul,Nat.reduceLeDiff,Nat.reduceLT,Nat.reduceEqDiff,hg]
  ((repeat' (with_reducible apply And.intro))<;>try ((exact sc_)))
  refine use1 (small_ok c) rfl (.inl rfl) ?_
  simp only [ZZ,WW,Ze,reduceCtorEq,Nat.reduceAdd,Nat.reduceMul,Nat.reduceLeDiff,Nat.reduceLT,Nat.reduceEqDiff]
  refine useG (fun _=>Digit_ok c) rfl (.inl rfl) ?_
  have hkc:(!smB c && !digB c && !decide (c=45) && !decide (c=95))=!kcB c:=by
   unfold kcB
   cases smB c<;>cases digB c<;>cases decide (c=45)<;>cases decide (c=95)<;>rfl
  simp only [ZZ,WW,Ze,reduceCtorEq,Nat.reduceAdd,Nat.reduceMul,Nat.reduceLeDiff,Nat.reduceLT,Nat.reduceEqDiff,u8_45,u8_95,hkc]
  ((repeat' (with_reducible apply And.intro))<;>try ((exact sc_)))
  refine br ?_ ?_
  ·intro hb
   have hb:kcB c=false:=by simpa using hb
   rw [hf,hb]
   simp only [ZZ,WW,Ze,reduceCtorEq,Nat.reduceAdd,Nat.reduceMul,Nat.reduceLeDiff,Nat.reduceLT,Nat.reduceEqDiff]
   rfl
  ·intro hb
   have hb:kcB c=true:=by simpa using hb
   rw [hb,Bool.true_and] at hf
   simp only [ZZ,WW,Ze,reduceCtorEq,Nat.reduceAdd,Nat.reduceMul,Nat.reduceLeDiff,Nat.reduceLT,Nat.reduceEqDiff]
   ((repeat' (with_reducible apply And.intro))<;>try ((exact sc_)))
   refine end_round (s.length - (k+1)) [.p (.str s),oo,oo,oo,oo,oo,oo,oo,oo,oo,oo,oo,oo,oo,oo,oo,.p (int (s.length:Nat)),.p (int ((k+1):Nat)),oo,oo,oo,oo,oo,oo,oo,oo,oo,oo,oo,oo,oo,oo,oo,oo,oo,oo,oo,oo,oo,oo] [] (by omega) (by (simp only [ZZ,WW,Ze,reduceCtorEq,Nat.reduceAdd,Nat.reduceMul,Nat.reduceLeDiff,Nat.reduceLT,Nat.reduceEqDiff];try trivial)) (by (simp only [ZZ,WW,Ze,reduceCtorEq,Nat.reduceAdd,Nat.reduceMul,Nat.reduceLeDiff,Nat.reduceLT,Nat.reduceEqDiff];try trivial)) ⟨k+1,by omega,rfl,hf,rfl,rfl⟩
 ·intro h2
  have hge:k=s.length:=by have:=of_decide_eq_false h2;omega
  rw [hf,hge,List.drop_length]
  simp only [ZZ,WW,Ze,reduceCtorEq,Nat.reduceAdd,Nat.reduceMul,Nat.reduceLeDiff,Nat.reduceLT,Nat.reduceEqDiff]
end
end Go.Proofs.YtehfjlpenlffmaaGreatDoor
