import Derived.Test.YtehfjlpenlffmaaGreatDoorZ5
import Derived.Test.YtehfjlpenlffmaaGreatDoorZ3
import Derived.Test.YtehfjlpenlffmaaGreatDoorLayValid
import Derived.Test.YtehfjlpenlffmaaGreatDoorLayIndex
import Derived.Test.YtehfjlpenlffmaaGreatDoorRep
import Derived.Test.YtehfjlpenlffmaaGreatDoorLayIndexByte
import Derived.Lib.IndexMore
set_option linter.unusedVariables false
set_option linter.unusedSimpArgs false
set_option linter.defProp false
namespace Go.Proofs.YtehfjlpenlffmaaGreatDoor
open Go.RowKit
def E0:Envt where
 ok w:=Lib.Utf8Tabs 3 4 w∧∃ m:Int,w.cell? ⟨1,0,none⟩=some (.int .i64 m)
 bl b:=b=3∨b=4∨b=1
 mono w w' hb h:=by
  obtain ⟨⟨h1,h2⟩,m,h3⟩:=h
  have e1:=hb _ (.inl rfl)
  have e2:=hb _ (.inr (.inl rfl))
  have e3:=hb _ (.inr (.inr rfl))
  exact ⟨⟨fun c hc=>(World.cell?_of_block (w:=w) e1).trans (h1 c hc),fun i hi=>⟨(World.cell?_of_block (w:=w) e2).trans (h2 i hi).1,(World.cell?_of_block (w:=w) e2).trans (h2 i hi).2⟩⟩,m,(World.cell?_of_block (w:=w) e3).trans h3⟩
theorem Valid_ok (s:List UInt8) (hs:s.length≤1000000000000):PCall Tryz.prog E0 208 [.str s] (·=.bool (Lib.validD s)):=
 pcall_flat rfl rfl fun w hE=>(Any.utf8_ValidString Tryz.layValid ⟨s.toArray⟩ w (by simp [ByteArray.size];omega) hE.1).mono fun e w' h=>⟨by rw [h.1];rfl,grow_below h.2⟩
def ir_internal_stringslite_HasSuffix:IC:=(.seq (.reg [qO 4 (.mov (.c (.bool false)))]) (.seq (.reg [qM 5 0,qO 6 (.sln (.t 5)),qM 7 1,qO 8 (.sln (.t 7)),qO 9 (.bin .geq (.t 6) (.t 8)),qM 10 9,⟨some 11,.mov (.t 0),(some (10,true))⟩,⟨some 12,.mov (.t 0),(some (10,true))⟩,⟨some 13,.sln (.t 12),(some (10,true))⟩,⟨some 14,.mov (.t 1),(some (10,true))⟩,⟨some 15,.sln (.t 14),(some (10,true))⟩,⟨some 16,.bin .sub (.t 13) (.t 15),(some (10,true))⟩,⟨some 17,.ssl (.t 11) (some (.t 16)) none,(some (10,true))⟩,⟨some 18,.mov (.t 1),(some (10,true))⟩,⟨some 19,.bin .eql (.t 17) (.t 18),(some (10,true))⟩,qO 20 (.pick (.t 10) (.t 19) (.c (.bool false))),qM 4 20]) .ret))
def rs_internal_stringslite_HasSuffix:List IRes:=[.t 4]
theorem ck_internal_stringslite_HasSuffix:chkF Tryz.prog Tryz.f245 ir_internal_stringslite_HasSuffix rs_internal_stringslite_HasSuffix 21=true:=by kernel_rfl
def ir_strings_HasSuffix:IC:=(.seq (.reg [qO 4 (.mov (.c (.bool false)))]) (.seq (.reg [qM 5 0,qM 6 1,qO 7 (.call 245 [.t 5,.t 6]),qM 4 7]) .ret))
def rs_strings_HasSuffix:List IRes:=[.t 4]
theorem ck_strings_HasSuffix:chkF Tryz.prog Tryz.f185 ir_strings_HasSuffix rs_strings_HasSuffix 8=true:=by kernel_rfl
def ir_base_Visible_L0:IC:=(.seq (.reg [qO 10 (.bin .lss (.t 9) (.t 8))]) (.seq (.cond (.t 10) .skip (.exit 0)) (.seq (.block 1 (.seq (.reg [qM 11 9,qM 5 11]) (.seq (.reg [qM 12 0,qM 13 5,qO 14 (.idx (.t 12) (.t 13)),qM 6 14]) (.seq (.reg [qM 15 6,qO 16 (.bin .lss (.t 15) (.c (.int .u8 32))),qM 17 16,⟨some 18,.mov (.t 1),(some (17,true))⟩,⟨some 19,.mov (.t 18),(some (17,true))⟩,⟨some 20,.mov (.t 6),(some (19,true))⟩,⟨some 21,.bin .eql (.t 20) (.c (.int .u8 10)),(some (19,true))⟩,⟨some 22,.pick (.t 19) (.t 21) (.c (.bool false)),(some (17,true))⟩,⟨some 23,.not (.t 22),(some (17,true))⟩,qO 24 (.pick (.t 17) (.t 23) (.c (.bool false))),qM 25 24,⟨some 26,.mov (.t 6),(some (25,false))⟩,⟨some 27,.bin .eql (.t 26) (.c (.int .u8 127)),(some (25,false))⟩,qO 28 (.pick (.t 25) (.c (.bool true)) (.t 27))]) (.cond (.t 28) (.seq (.reg [qO 4 (.mov (.c (.bool false)))]) .ret) .skip))))) (.reg [qO 29 (.bin .add (.t 9) (.c (.int .i64 1))),qM 9 29]))))
def ir_base_Visible:IC:=(.seq (.reg [qO 4 (.mov (.c (.bool false)))]) (.seq (.seq (.reg [qM 7 0,qO 8 (.sln (.t 7)),qO 9 (.mov (.c (.int .i64 0)))]) (.block 0 (.loop ir_base_Visible_L0))) (.seq (.reg [qM 30 0,qO 31 (.call 208 [.t 30]),qM 4 31]) .ret)))
def rs_base_Visible:List IRes:=[.t 4]
theorem ck_base_Visible:chkF Tryz.prog Tryz.f141 ir_base_Visible rs_base_Visible 32=true:=by kernel_rfl
def ir_base_Text:IC:=(.seq (.reg [qO 2 (.mov (.c (.bool false)))]) (.seq (.reg [qM 3 0,qO 4 (.call 141 [.t 3,.c (.bool true)]),qM 5 4,⟨some 6,.mov (.t 0),(some (5,true))⟩,⟨some 7,.bin .eql (.t 6) (.c (.str [])),(some (5,true))⟩,⟨some 8,.mov (.t 7),(some (5,true))⟩,⟨some 9,.mov (.t 0),(some (8,false))⟩,⟨some 10,.call 185 [.t 9,.c (.str [10])],(some (8,false))⟩,⟨some 11,.pick (.t 8) (.c (.bool true)) (.t 10),(some (5,true))⟩,qO 12 (.pick (.t 5) (.t 11) (.c (.bool false))),qM 2 12]) .ret))
def rs_base_Text:List IRes:=[.t 2]
theorem ck_base_Text:chkF Tryz.prog Tryz.f186 ir_base_Text rs_base_Text 13=true:=by kernel_rfl
section
variable {E:Envt}
def sufE (s t:List UInt8):Bool:=decide ((t.length:Int)≤s.length) && decide (s.drop (s.length - t.length)=t)
theorem sHasSuffix_ok (s t:List UInt8) (hs:s.length≤1000000000000):PCall Tryz.prog E 245 [.str s,.str t] (·=.bool (sufE s t)):=by
 refine pcallF mixed Tryz.func245 ck_internal_stringslite_HasSuffix ?_
 simp only [a0,l0,OS.ao,List.map_cons,List.map_nil,List.length_cons,List.length_nil,List.cons_append,List.nil_append,Nat.reduceSub,Nat.reduceAdd,List.replicate_succ,List.replicate_zero,ir_internal_stringslite_HasSuffix,rs_internal_stringslite_HasSuffix,ZZ,WW,Ze,reduceCtorEq,Nat.reduceAdd,Nat.reduceMul,Nat.reduceLeDiff,Nat.reduceLT,Nat.reduceEqDiff]
 ((repeat' (with_reducible apply And.intro))<;>try ((exact sc_)))
 rw [show ((s.length:Int) - t.length).toNat=s.length - t.length from by omega,List.take_length]
 rfl
theorem HasSuffix_ok (s t:List UInt8) (hs:s.length≤1000000000000):PCall Tryz.prog E 185 [.str s,.str t] (·=.bool (sufE s t)):=by
 refine pcallF mixed Tryz.func185 ck_strings_HasSuffix ?_
 simp only [a0,l0,OS.ao,List.map_cons,List.map_nil,List.length_cons,List.length_nil,List.cons_append,List.nil_append,Nat.reduceSub,Nat.reduceAdd,List.replicate_succ,List.replicate_zero,ir_strings_HasSuffix,rs_strings_HasSuffix,ZZ,WW,Ze,reduceCtorEq,Nat.reduceAdd,Nat.reduceMul,Nat.reduceLeDiff,Nat.reduceLT,Nat.reduceEqDiff]
 refine use1 (sHasSuffix_ok s t hs) rfl (.inl rfl) ?_
 simp only [ZZ,WW,Ze,reduceCtorEq,Nat.reduceAdd,Nat.reduceMul,Nat.reduceLeDiff,Nat.reduceLT,Nat.reduceEqDiff]
def largeE (s:List UInt8):Int:=whenE (decide ((20000:Int) < s.length)) 2
def badB (feeds:Bool) (c:UInt8):Bool:=(decide ((c.toNat:Int) < 32) && !(feeds && decide ((c.toNat:Int)=10))) || decide ((c.toNat:Int)=127)
def visE (s:List UInt8) (feeds:Bool):Bool:=(s.all fun c=>!badB feeds c) && Lib.validD s
theorem all_take {s:List UInt8} {k:Nat} {c:UInt8} {p:UInt8→Bool} (h:s[k]?=some c):(s.take (k+1)).all p=((s.take k).all p && p c):=by
 obtain ⟨hk,hx⟩:=List.getElem?_eq_some_iff.1 h
 rw [List.take_succ_eq_append_getElem hk,List.all_append,hx]
 simp
end
theorem Visible_ok (s:List UInt8) (feeds:Bool) (hs:s.length≤1000000000):PCall Tryz.prog E0 141 [.str s,.bool feeds] (·=.bool (visE s feeds)):=by
 refine pcallF mixed Tryz.func141 ck_base_Visible ?_
 simp only [a0,l0,OS.ao,List.map_cons,List.map_nil,List.length_cons,List.length_nil,List.cons_append,List.nil_append,Nat.reduceSub,Nat.reduceAdd,List.replicate_succ,List.replicate_zero,ir_base_Visible,rs_base_Visible,ZZ,WW,Ze,reduceCtorEq,Nat.reduceAdd,Nat.reduceMul,Nat.reduceLeDiff,Nat.reduceLT,Nat.reduceEqDiff]
 refine loop_intro (fun n fr L=>∃ (k:Nat),k≤s.length∧n=s.length - k∧(((s.take k).all fun c=>!badB feeds c)=true)∧fr=[.p (.str s),.p (.bool feeds),oo,oo,oo,oo,oo,oo,.p (int (s.length:Nat)),.p (int (k:Nat)),oo,oo,oo,oo,oo,oo,oo,oo,oo,oo,oo,oo,oo,oo,oo,oo,oo,oo,oo,oo,oo,oo]∧L=[]) (s.length) [.p (.str s),.p (.bool feeds),oo,oo,oo,oo,oo,oo,.p (int (s.length:Nat)),.p (int (0:Nat)),oo,oo,oo,oo,oo,oo,oo,oo,oo,oo,oo,oo,oo,oo,oo,oo,oo,oo,oo,oo,oo,oo] [] (by (simp only [ZZ,WW,Ze,reduceCtorEq,Nat.reduceAdd,Nat.reduceMul,Nat.reduceLeDiff,Nat.reduceLT,Nat.reduceEqDiff];try trivial)) (by (simp only [ZZ,WW,Ze,reduceCtorEq,Nat.reduceAdd,Nat.reduceMul,Nat.reduceLeDiff,Nat.reduceLT,Nat.reduceEqDiff];try trivial)) ⟨0,by omega,by omega,by simp,rfl,rfl⟩ ?_
 rintro n fr L ⟨k,hk,rfl,hall,rfl,rfl⟩
 simp only [ir_base_Visible_L0,ZZ,WW,Ze,reduceCtorEq,Nat.reduceAdd,Nat.reduceMul,Nat.reduceLeDiff,Nat.reduceLT,Nat.reduceEqDiff]
 refine br ?_ ?_
 ·intro h
  have hlt:k < s.length:=by have:=of_decide_eq_true h;omega
  obtain ⟨c,hc⟩:∃ x,s[k]?=some x:=⟨_,List.getElem?_eq_getElem hlt⟩
  have hg:s.getD k 0=c:=by simp [List.getD,hc]
  have hnx:=all_take (p:=fun c=>!badB feeds c) hc
  simp only [ZZ,WW,Ze,reduceCtorEq,Nat.reduceAdd,Nat.reduceMul,Nat.reduceLeDiff,Nat.reduceLT,Nat.reduceEqDiff,hg]
  ((repeat' (with_reducible apply And.intro))<;>try ((exact sc_)))
  refine br ?_ ?_
  ·intro hb
   have hb:badB feeds c=true:=hb
   simp only [ZZ,WW,Ze,reduceCtorEq,Nat.reduceAdd,Nat.reduceMul,Nat.reduceLeDiff,Nat.reduceLT,Nat.reduceEqDiff]
   have:(s.all fun c=>!badB feeds c)=false:=by
    rw [List.all_eq_false]
    exact ⟨c,List.mem_of_getElem? hc,by simp [hb]⟩
   simp [visE,this]
  ·intro hb
   have hb:badB feeds c=false:=hb
   simp only [ZZ,WW,Ze,reduceCtorEq,Nat.reduceAdd,Nat.reduceMul,Nat.reduceLeDiff,Nat.reduceLT,Nat.reduceEqDiff]
   ((repeat' (with_reducible apply And.intro))<;>try ((exact sc_)))
   refine end_round (s.length - (k+1)) [.p (.str s),.p (.bool feeds),oo,oo,oo,oo,oo,oo,.p (int (s.length:Nat)),.p (int ((k+1):Nat)),oo,oo,oo,oo,oo,oo,oo,oo,oo,oo,oo,oo,oo,oo,oo,oo,oo,oo,oo,oo,oo,oo] [] (by omega) (by (simp only [ZZ,WW,Ze,reduceCtorEq,Nat.reduceAdd,Nat.reduceMul,Nat.reduceLeDiff,Nat.reduceLT,Nat.reduceEqDiff];try trivial)) (by (simp only [ZZ,WW,Ze,reduceCtorEq,Nat.reduceAdd,Nat.reduceMul,Nat.reduceLeDiff,Nat.reduceLT,Nat.reduceEqDiff];try trivial)) ⟨k+1,by omega,rfl,by rw [hnx,hall,hb];rfl,rfl,rfl⟩
 ·intro h
  have hge:s.length≤k:=by have:=of_decide_eq_false h;omega
  rw [List.take_of_length_le hge] at hall
  simp only [ZZ,WW,Ze,reduceCtorEq,Nat.reduceAdd,Nat.reduceMul,Nat.reduceLeDiff,Nat.reduceLT,Nat.reduceEqDiff]
  refine use1 (Valid_ok s (by omega)) rfl (.inl rfl) ?_
  simp only [ZZ,WW,Ze,reduceCtorEq,Nat.reduceAdd,Nat.reduceMul,Nat.reduceLeDiff,Nat.reduceLT,Nat.reduceEqDiff]
  simp [visE,hall]
def textE (s:List UInt8):Bool:=visE s true && (decide (s=[]) || sufE s [10])
theorem Text_ok (s:List UInt8) (hs:s.length≤1000000000):PCall Tryz.prog E0 186 [.str s] (·=.bool (textE s)):=by
 refine pcallF mixed Tryz.func186 ck_base_Text ?_
 simp only [a0,l0,OS.ao,List.map_cons,List.map_nil,List.length_cons,List.length_nil,List.cons_append,List.nil_append,Nat.reduceSub,Nat.reduceAdd,List.replicate_succ,List.replicate_zero,ir_base_Text,rs_base_Text,ZZ,WW,Ze,reduceCtorEq,Nat.reduceAdd,Nat.reduceMul,Nat.reduceLeDiff,Nat.reduceLT,Nat.reduceEqDiff]
 refine use1 (Visible_ok s true hs) rfl (.inl rfl) ?_
 simp only [ZZ,WW,Ze,reduceCtorEq,Nat.reduceAdd,Nat.reduceMul,Nat.reduceLeDiff,Nat.reduceLT,Nat.reduceEqDiff]
 ((repeat' (with_reducible apply And.intro))<;>try ((exact sc_)))
 refine useG (fun _=>HasSuffix_ok s [10] (by omega)) rfl (.inl rfl) ?_
 simp only [ZZ,WW,Ze,reduceCtorEq,Nat.reduceAdd,Nat.reduceMul,Nat.reduceLeDiff,Nat.reduceLT,Nat.reduceEqDiff]
 ((repeat' (with_reducible apply And.intro))<;>try ((exact sc_)))
section
variable {E:Envt}
end
def bU (n:Nat) (g:Nat→UInt8):List (List PV):=(List.range n).map fun j=>[.int .u8 ((g j).toNat:Nat)]
theorem bU_len (n:Nat) (g:Nat→UInt8):(bU n g).length=n:=by simp [bU]
theorem bU_get {n i:Nat} {g:Nat→UInt8} (h:i < n):(bU n g).getD i []=[.int .u8 ((g i).toNat:Nat)]:=by
 simp [bU,List.getD,List.getElem?_map,List.getElem?_range h]
theorem bU_set {n i:Nat} {g:Nat→UInt8} (c:UInt8):(bU n g).set i [.int .u8 (c.toNat:Nat)]=bU n (fun j=>if j=i then c else g j):=by
 apply List.ext_getElem?
 intro j
 by_cases hj:j < n
 ·by_cases he:j=i
  ·subst he
   rw [List.getElem?_set_self (by simpa [bU] using hj)]
   simp [bU,List.getElem?_range hj]
  ·rw [List.getElem?_set_ne (fun e=>he e.symm)]
   simp [bU,List.getElem?_range hj,he]
 ·rw [List.getElem?_eq_none (by simpa [bU] using hj),List.getElem?_eq_none (by simpa [bU] using hj)]
theorem bU_of (s:List UInt8):(s.map fun q=>[PV.int .u8 (q.toNat:Nat)])=bU s.length (fun j=>s.getD j 0):=by
 apply List.ext_getElem?
 intro j
 by_cases hj:j < s.length
 ·simp [bU,List.getElem?_range hj,List.getElem?_eq_getElem hj,List.getD]
 ·rw [List.getElem?_eq_none (by simpa using hj),List.getElem?_eq_none (by simpa [bU] using hj)]
theorem bytes_bU (n:Nat) (g:Nat→UInt8):bytesP (bU n g)=some ((List.range n).map g):=by
 have:∀ l:List Nat,bytesP (l.map fun j=>[PV.int .u8 ((g j).toNat:Nat)])=some (l.map g):=by
  intro l
  induction l with
  |nil=>rfl
  |cons x r ih=>simp [bytesP,ih]
 exact this _
def IsRow (k:IntKind) (w:World) (a:Option Addr) (len cap:Nat) (zs:List Int):Prop:=
 (a=none∧len=0∧cap=0∧zs=[])∨
 ∃ x,a=some x∧len≤cap∧cap≤maxLen∧zs.length=cap∧(∀ i,i < zs.length→w.cell? (x.add i)=some (.int k (zs.getD i 0)))∧∀ n∈zs,(Lit.int k n).wf=true
theorem repE_ints {w:World} {U:Nat→Prop} {b:Nat}:∀ (l:List Int) (off:Nat),(∀ i,i < l.length→w.cell? ⟨b,off+i,none⟩=some (.int .i64 (l.getD i 0)))→PRepE w U b 1 off (l.map fun x=>[.int .i64 x])
 |[],off,h=>trivial
 |x :: r,off,h=>by
  refine ⟨rfl,⟨⟨_,by simpa using h 0 (by simp),rfl,rfl⟩,trivial⟩,repE_ints r (off+1) (fun i hi=>?_)⟩
  have:=h (i+1) (by simpa using hi)
  rw [show off+1+i=off+(i+1) from by omega]
  simpa using this
theorem isRow_rep {w:World} {a:Option Addr} {len cap:Nat} {zs:List Int} (h:IsRow .i64 w a len cap zs):PRep w (fun _=>False) (ints (zs.take len)) (.slice a len cap)∧(zs.take len).length≤9223372036854775807:=by
 rcases h with ⟨rfl,rfl,rfl,rfl⟩|⟨x,rfl,h1,h2,h3,h4,_⟩
 ·exact ⟨⟨none,0,rfl,by simp,fun h=>by simp at h⟩,by simp⟩
 ·have hl:(zs.take len).length=len:=by rw [List.length_take];omega
  refine ⟨⟨some x,cap,by rw [List.length_map,hl],by rw [List.length_map,hl];exact h1,fun hne=>?_⟩,by rw [hl];unfold maxLen at h2;omega⟩
  have h0:0 < len:=by
   rcases Nat.eq_zero_or_pos len with h'|h'
   ·subst h';simp at hne
   ·exact h'
  obtain ⟨b,off,spot⟩:=x
  have hc:=h4 0 (by omega)
  have hspot:spot=none:=by simpa [Addr.add] using World.cell?_spot hc
  subst hspot
  have hb:b < w.heap.size:=by
   have:=World.block_lt_of_cell? w _ hc
   simpa [Addr.add] using this
  refine ⟨b,off,rfl,hb,fun h=>h,repE_ints _ _ (fun i hi=>?_)⟩
  rw [hl] at hi
  have:=h4 i (by omega)
  rw [addr_addA] at this
  rw [this]
  congr 2
  rw [List.getD_eq_getElem?_getD,List.getD_eq_getElem?_getD,List.getElem?_take_of_lt hi]
theorem walk_of {P:Program} {E:Envt} {f:FuncId} (h:∀ z:List Int,z.length≤9223372036854775807→PCall P E f [ints z] (·=.bool true)) (a0:Option Addr) (len0 cap0:Nat) (z0:List Int) (w:World) (h0:IsRow .i64 w a0 len0 cap0 z0) (hok:E.ok w) (hbl:∀ b,E.bl b→b < w.heap.size) :
  Calls P f #[.slice a0 len0 cap0] w fun e w'=>e=.returned (.bool true)∧Below w.heap.size w w':=by
 obtain ⟨h1,h2⟩:=isRow_rep h0
 refine (h _ h2 w (fun _=>False) [.slice a0 len0 cap0] (fun _ h=>h.elim) hok hbl ⟨_,[],rfl,h1,rfl⟩).mono ?_
 rintro e w' ⟨v,x,rfl,rfl,hv,hg⟩
 refine ⟨by rw [PRep.bool_eq hv],⟨hg.os,hg.tape,hg.output,hg.size,fun k hk=>hg.block k hk (fun h=>h)⟩⟩
theorem ba_size (s:List UInt8):(⟨s.toArray⟩:ByteArray).size=s.length:=by simp [ByteArray.size]
section
variable {E:Envt}
theorem IndexByte_ok (s:List UInt8) (c:UInt8):PCall Tryz.prog E 295 [.str s,.int .u8 (c.toNat:Nat)] (·=int (Lib.indexByte s c)):=
 pcall_flat rfl rfl fun w _=>(Any.strings_IndexByte Tryz.layIndexByte ⟨s.toArray⟩ (c.toNat:Nat) w).mono fun e w' h=>⟨by rw [h.1];simp [valX,valD],by rw [h.2];exact Grow.refl _ _⟩
theorem HasPrefix_ok (s p:List UInt8):PCall Tryz.prog E 132 [.str s,.str p] (·=.bool (Lib.hasPrefix s p)):=
 pcall_flat rfl rfl fun w _=>(Any.strings_HasPrefix Tryz.layPrefix ⟨s.toArray⟩ ⟨p.toArray⟩ w).mono fun e w' h=>⟨h.1,by rw [h.2];exact Grow.refl _ _⟩
end
theorem Index_ok (s t:List UInt8) (hs:s.length≤1000000000):PCall Tryz.prog E0 222 [.str s,.str t] (·=int (Lib.index s t)):=
 pcall_flat rfl rfl fun w hE=>by
  obtain ⟨_,m,hm⟩:=hE
  exact (Any.strings_Index { Tryz.layIndex with } ⟨s.toArray⟩ ⟨t.toArray⟩ m w (by rw [ba_size];omega) hm).mono fun e w' h=>⟨h.1,by rw [h.2];exact Grow.refl _ _⟩
def ir_base_Lower_L0:IC:=(.seq (.reg [qO 11 (.bin .lss (.t 10) (.t 9))]) (.seq (.cond (.t 11) .skip (.exit 0)) (.seq (.block 1 (.seq (.reg [qM 12 10,qO 13 (.ixa 1 (.t 8) (.t 10)),qO 14 (.ld 1 false (.t 13)),qM 4 12,qM 5 14]) (.seq (.reg [qM 15 5,qO 16 (.bin .geq (.t 15) (.c (.int .u8 65))),qM 17 16,⟨some 18,.mov (.t 5),(some (17,true))⟩,⟨some 19,.bin .leq (.t 18) (.c (.int .u8 90)),(some (17,true))⟩,qO 20 (.pick (.t 17) (.t 19) (.c (.bool false)))]) (.cond (.t 20) (.reg [qM 21 3,qM 22 4,qM 23 5,qO 24 (.bin .add (.t 23) (.c (.int .u8 32))),qO 25 (.ixa 1 (.t 21) (.t 22)),⟨none,.st 1 (.t 25) (.t 24),none⟩]) .skip)))) (.cut (.reg [qO 26 (.bin .add (.t 10) (.c (.int .i64 1))),qM 10 26])))))
def ir_base_Lower:IC:=(.seq (.reg [qO 2 (.mov (.c (.str [])))]) (.seq (.reg [qM 6 0,qO 7 (.s2b 5 (.t 6)),qM 3 7]) (.seq (.seq (.reg [qM 8 3,qO 9 (.len (.t 8)),qO 10 (.mov (.c (.int .i64 0)))]) (.block 0 (.loop ir_base_Lower_L0))) (.seq (.reg [qM 27 3,qO 28 (.b2s (.t 27)),qM 2 28]) .ret))))
def rs_base_Lower:List IRes:=[.t 2]
theorem ck_base_Lower:chkF Tryz.prog Tryz.f251 ir_base_Lower rs_base_Lower 29=true:=by kernel_rfl
def ir_chaseref1_wellFormed_L0:IC:=(.seq (.reg [qO 11 (.bin .lss (.t 10) (.t 9))]) (.seq (.cond (.t 11) .skip (.exit 0)) (.seq (.block 1 (.seq (.reg [qO 12 (.ixa 1 (.t 8) (.t 10)),qO 13 (.ld 1 false (.t 12)),qM 6 13]) (.seq (.reg [qM 14 6,qO 15 (.bin .lss (.t 14) (.c (.int .u8 32))),qM 16 15,⟨some 17,.mov (.t 1),(some (16,true))⟩,⟨some 18,.mov (.t 17),(some (16,true))⟩,⟨some 19,.mov (.t 6),(some (18,true))⟩,⟨some 20,.bin .eql (.t 19) (.c (.int .u8 10)),(some (18,true))⟩,⟨some 21,.pick (.t 18) (.t 20) (.c (.bool false)),(some (16,true))⟩,⟨some 22,.not (.t 21),(some (16,true))⟩,qO 23 (.pick (.t 16) (.t 22) (.c (.bool false))),qM 24 23,⟨some 25,.mov (.t 6),(some (24,false))⟩,⟨some 26,.bin .eql (.t 25) (.c (.int .u8 127)),(some (24,false))⟩,qO 27 (.pick (.t 24) (.c (.bool true)) (.t 26))]) (.cond (.t 27) (.seq (.reg [qO 4 (.mov (.c (.bool false)))]) .ret) .skip)))) (.reg [qO 28 (.bin .add (.t 10) (.c (.int .i64 1))),qM 10 28]))))
def ir_chaseref1_wellFormed:IC:=(.seq (.reg [qO 4 (.mov (.c (.bool false)))]) (.seq (.seq (.reg [qM 7 0,qO 8 (.s2b 5 (.t 7)),qO 9 (.len (.t 8)),qO 10 (.mov (.c (.int .i64 0)))]) (.block 0 (.loop ir_chaseref1_wellFormed_L0))) (.seq (.reg [qM 29 0,qO 30 (.call 208 [.t 29]),qM 4 30]) .ret)))
def rs_chaseref1_wellFormed:List IRes:=[.t 4]
theorem ck_chaseref1_wellFormed:chkF Tryz.prog Tryz.f147 ir_chaseref1_wellFormed rs_chaseref1_wellFormed 31=true:=by kernel_rfl
def ir_chaseref1_TextOf:IC:=(.seq (.reg [qO 2 (.mov (.c (.bool false)))]) (.seq (.reg [qM 3 0,qO 4 (.call 147 [.t 3,.c (.bool true)]),qM 5 4,⟨some 6,.mov (.t 0),(some (5,true))⟩,⟨some 7,.bin .eql (.t 6) (.c (.str [])),(some (5,true))⟩,⟨some 8,.mov (.t 7),(some (5,true))⟩,⟨some 9,.mov (.t 0),(some (8,false))⟩,⟨some 10,.call 185 [.t 9,.c (.str [10])],(some (8,false))⟩,⟨some 11,.pick (.t 8) (.c (.bool true)) (.t 10),(some (5,true))⟩,qO 12 (.pick (.t 5) (.t 11) (.c (.bool false))),qM 2 12]) .ret))
def rs_chaseref1_TextOf:List IRes:=[.t 2]
theorem ck_chaseref1_TextOf:chkF Tryz.prog Tryz.f181 ir_chaseref1_TextOf rs_chaseref1_TextOf 13=true:=by kernel_rfl
def ir_chaseref1_BodyFault:IC:=(.seq (.reg [qO 2 (.mov (.c (.int .i64 0)))]) (.seq (.seq (.reg [qM 3 0,qO 4 (.sln (.t 3)),qO 5 (.bin .gtr (.t 4) (.c (.int .i64 20000)))]) (.cond (.t 5) (.seq (.reg [qO 2 (.mov (.c (.int .i64 2)))]) .ret) .skip)) (.seq (.seq (.reg [qM 6 0,qO 7 (.call 181 [.t 6]),qO 8 (.not (.t 7))]) (.cond (.t 8) (.seq (.reg [qO 2 (.mov (.c (.int .i64 3)))]) .ret) .skip)) (.seq (.reg [qO 2 (.mov (.c (.int .i64 0)))]) .ret))))
def rs_chaseref1_BodyFault:List IRes:=[.t 2]
theorem ck_chaseref1_BodyFault:chkF Tryz.prog Tryz.f104 ir_chaseref1_BodyFault rs_chaseref1_BodyFault 9=true:=by kernel_rfl
def lowB (c:UInt8):UInt8:=if 65≤c.toNat∧c.toNat≤90 then c+32 else c
def lowF (s:List UInt8):List UInt8:=s.map lowB
theorem all256 {p:UInt8→Prop} (h:∀ n:Fin 256,p (UInt8.ofNat n.val)) (c:UInt8):p c:=by
 have:=h ⟨c.toNat,c.toNat_lt⟩
 simpa using this
theorem low_wrap (c:UInt8) (h1:65≤c.toNat) (h2:c.toNat≤90):IntKind.u8.wrap ((c.toNat:Int)+32)=(((lowB c).toNat:Nat):Int):=by
 have h3:(c+32).toNat=c.toNat+32:=by
  rw [UInt8.toNat_add]
  have:(32:UInt8).toNat=32:=rfl
  omega
 rw [lowB,if_pos ⟨h1,h2⟩,h3]
 have:IntKind.u8.wrap ((c.toNat:Int)+32)=((c.toNat:Int)+32) % 256:=rfl
 rw [this]
 omega
theorem low_same (c:UInt8) (h:¬ (65≤c.toNat∧c.toNat≤90)):lowB c=c:=by rw [lowB,if_neg h]
def smallL:List UInt8:=[97,98,99,100,101,102,103,104,105,106,107,108,109,110,111,112,113,114,115,116,117,118,119,120,121,122]
theorem range_getD (s:List UInt8) (f:UInt8→UInt8):(List.range s.length).map (fun j=>f (s.getD j 0))=s.map f:=by
 apply List.ext_getElem?
 intro j
 by_cases hj:j < s.length
 ·simp [List.getElem?_range hj,List.getElem?_eq_getElem hj,List.getD]
 ·rw [List.getElem?_eq_none (by simpa using hj),List.getElem?_eq_none (by simpa using hj)]
def lowG (s:List UInt8) (k:Nat) (j:Nat):UInt8:=if j < k then lowB (s.getD j 0) else s.getD j 0
theorem lowG_nx (s:List UInt8) (k:Nat):(fun j=>if j=k then lowB (s.getD k 0) else lowG s k j)=lowG s (k+1):=by
 funext j
 unfold lowG
 by_cases h:j=k
 ·subst h;simp
 ·simp only [h,if_false]
  by_cases h2:j < k
  ·rw [if_pos h2,if_pos (by omega)]
  ·rw [if_neg h2,if_neg (by omega)]
theorem lowG_at (s:List UInt8) (k:Nat):lowG s k k=s.getD k 0:=by simp [lowG]
theorem lowG_end (s:List UInt8):(List.range s.length).map (lowG s s.length)=lowF s:=by
 rw [lowF,← range_getD]
 refine List.map_congr_left fun j hj=>?_
 simp only [List.mem_range] at hj
 simp [lowG,hj]
section
variable {E:Envt}
theorem Lower_ok (s:List UInt8) (hs:s.length≤1000000000):PCall Tryz.prog E 251 [.str s] (·=.str (lowF s)):=by
 refine pcallF mixed Tryz.func251 ck_base_Lower ?_
 simp only [a0,l0,OS.ao,List.map_cons,List.map_nil,List.length_cons,List.length_nil,List.cons_append,List.nil_append,Nat.reduceSub,Nat.reduceAdd,List.replicate_succ,List.replicate_zero,ir_base_Lower,rs_base_Lower,ZZ,WW,Ze,reduceCtorEq,Nat.reduceAdd,Nat.reduceMul,Nat.reduceLeDiff,Nat.reduceLT,Nat.reduceEqDiff]
 refine ⟨by omega,?_⟩
 rw [bU_of]
 simp only [ZZ,WW,Ze,reduceCtorEq,Nat.reduceAdd,Nat.reduceMul,Nat.reduceLeDiff,Nat.reduceLT,Nat.reduceEqDiff,bU_len]
 refine loop_intro (fun n fr L=>∃ (k:Nat) (g:Nat→UInt8),k≤s.length∧n=s.length - k∧(g=lowG s k)∧fr=[oo,oo,oo,.row (.l 7),oo,oo,oo,oo,.row (.l 7),.p (int (s.length:Nat)),.p (int (k:Nat)),oo,oo,oo,oo,oo,oo,oo,oo,oo,oo,oo,oo,oo,oo,oo,oo,oo,oo]∧L=[(.l 7,.row (bU s.length g) 5 1 false)]) (s.length) [oo,oo,oo,.row (.l 7),oo,oo,oo,oo,.row (.l 7),.p (int (s.length:Nat)),.p (int (0:Nat)),oo,oo,oo,oo,oo,oo,oo,oo,oo,oo,oo,oo,oo,oo,oo,oo,oo,oo] [(.l 7,.row (bU s.length (fun j=>s.getD j 0)) 5 1 false)] (by (simp only [ZZ,WW,Ze,reduceCtorEq,Nat.reduceAdd,Nat.reduceMul,Nat.reduceLeDiff,Nat.reduceLT,Nat.reduceEqDiff];try trivial)) (by (simp only [ZZ,WW,Ze,reduceCtorEq,Nat.reduceAdd,Nat.reduceMul,Nat.reduceLeDiff,Nat.reduceLT,Nat.reduceEqDiff];try trivial)) ⟨0,fun j=>s.getD j 0,by omega,by omega,by funext j;simp [lowG],rfl,rfl⟩ ?_
 rintro n fr L ⟨k,g,hk,rfl,hg,rfl,rfl⟩
 simp only [ir_base_Lower_L0,ZZ,WW,Ze,reduceCtorEq,Nat.reduceAdd,Nat.reduceMul,Nat.reduceLeDiff,Nat.reduceLT,Nat.reduceEqDiff]
 refine br ?_ ?_
 ·intro h
  have hlt:k < s.length:=by have:=of_decide_eq_true h;omega
  have hgi:(bU s.length g).getD k []=[.int .u8 ((s.getD k 0).toNat:Nat)]:=by rw [bU_get hlt,hg,lowG_at]
  have hbl:=bU_len s.length g
  have hnx:=lowG_nx s k
  generalize hcc:s.getD k 0=c at hgi hnx
  have hset:(bU s.length g).set k [.int .u8 ((lowB c).toNat:Nat)]=bU s.length (fun j=>if j=k then lowB c else g j):=bU_set (lowB c)
  simp only [ZZ,WW,Ze,reduceCtorEq,Nat.reduceAdd,Nat.reduceMul,Nat.reduceLeDiff,Nat.reduceLT,Nat.reduceEqDiff,hgi,hbl]
  ((repeat' (with_reducible apply And.intro))<;>try ((exact sc_)))
  refine br ?_ ?_
  ·intro hc
   simp only [Bool.and_eq_true,decide_eq_true_eq] at hc
   have hw:=low_wrap c (by omega) (by omega)
   simp only [ZZ,WW,Ze,reduceCtorEq,Nat.reduceAdd,Nat.reduceMul,Nat.reduceLeDiff,Nat.reduceLT,Nat.reduceEqDiff,hbl,hgi,hw,hset]
   ((repeat' (with_reducible apply And.intro))<;>try ((exact sc_)))
   refine cut_same zE_ ?_
   simp only [ZZ,WW,Ze,reduceCtorEq,Nat.reduceAdd,Nat.reduceMul,Nat.reduceLeDiff,Nat.reduceLT,Nat.reduceEqDiff]
   ((repeat' (with_reducible apply And.intro))<;>try ((exact sc_)))
   refine end_round (s.length - (k+1)) [oo,oo,oo,.row (.l 7),oo,oo,oo,oo,.row (.l 7),.p (int (s.length:Nat)),.p (int ((k+1):Nat)),oo,oo,oo,oo,oo,oo,oo,oo,oo,oo,oo,oo,oo,oo,oo,oo,oo,oo] [(.l 7,.row (bU s.length (fun j=>if j=k then lowB c else g j)) 5 1 false)] (by omega) (by (simp only [ZZ,WW,Ze,reduceCtorEq,Nat.reduceAdd,Nat.reduceMul,Nat.reduceLeDiff,Nat.reduceLT,Nat.reduceEqDiff];try trivial)) (by (simp only [ZZ,WW,Ze,reduceCtorEq,Nat.reduceAdd,Nat.reduceMul,Nat.reduceLeDiff,Nat.reduceLT,Nat.reduceEqDiff];try trivial)) ⟨k+1,fun j=>if j=k then lowB c else g j,by omega,rfl,by rw [hg];exact hnx,rfl,rfl⟩
  ·intro hc
   have hsame:lowB c=c:=low_same c (by
    intro h2
    simp only [Bool.and_eq_false_iff,decide_eq_false_iff_not] at hc
    omega)
   have hsg:(fun j=>if j=k then lowB c else lowG s k j)=g:=by
    funext j
    by_cases hj:j=k
    ·subst hj
     rw [if_pos rfl,hsame,hg,lowG_at,hcc]
    ·rw [if_neg hj,hg]
   simp only [ZZ,WW,Ze,reduceCtorEq,Nat.reduceAdd,Nat.reduceMul,Nat.reduceLeDiff,Nat.reduceLT,Nat.reduceEqDiff]
   refine cut_same zE_ ?_
   simp only [ZZ,WW,Ze,reduceCtorEq,Nat.reduceAdd,Nat.reduceMul,Nat.reduceLeDiff,Nat.reduceLT,Nat.reduceEqDiff]
   ((repeat' (with_reducible apply And.intro))<;>try ((exact sc_)))
   refine end_round (s.length - (k+1)) [oo,oo,oo,.row (.l 7),oo,oo,oo,oo,.row (.l 7),.p (int (s.length:Nat)),.p (int ((k+1):Nat)),oo,oo,oo,oo,oo,oo,oo,oo,oo,oo,oo,oo,oo,oo,oo,oo,oo,oo] [(.l 7,.row (bU s.length g) 5 1 false)] (by omega) (by (simp only [ZZ,WW,Ze,reduceCtorEq,Nat.reduceAdd,Nat.reduceMul,Nat.reduceLeDiff,Nat.reduceLT,Nat.reduceEqDiff];try trivial)) (by (simp only [ZZ,WW,Ze,reduceCtorEq,Nat.reduceAdd,Nat.reduceMul,Nat.reduceLeDiff,Nat.reduceLT,Nat.reduceEqDiff];try trivial)) ⟨k+1,g,by omega,rfl,by rw [← hnx,hsg],rfl,rfl⟩
 ·intro h
  have hge:k=s.length:=by have:=of_decide_eq_false h;omega
  subst hge
  simp only [ZZ,WW,Ze,reduceCtorEq,Nat.reduceAdd,Nat.reduceMul,Nat.reduceLeDiff,Nat.reduceLT,Nat.reduceEqDiff,bytes_bU]
  rw [hg,lowG_end]
end
theorem wellFormed_ok (s:List UInt8) (feeds:Bool) (hs:s.length≤1000000000):PCall Tryz.prog E0 147 [.str s,.bool feeds] (·=.bool (visE s feeds)):=by
 refine pcallF mixed Tryz.func147 ck_chaseref1_wellFormed ?_
 simp only [a0,l0,OS.ao,List.map_cons,List.map_nil,List.length_cons,List.length_nil,List.cons_append,List.nil_append,Nat.reduceSub,Nat.reduceAdd,List.replicate_succ,List.replicate_zero,ir_chaseref1_wellFormed,rs_chaseref1_wellFormed,ZZ,WW,Ze,reduceCtorEq,Nat.reduceAdd,Nat.reduceMul,Nat.reduceLeDiff,Nat.reduceLT,Nat.reduceEqDiff]
 refine ⟨by omega,?_⟩
 have hln:(s.map fun q=>[PV.int .u8 (q.toNat:Nat)]).length=s.length:=by simp
 have hget:∀ k c,s[k]?=some c→(s.map fun q=>[PV.int .u8 (q.toNat:Nat)]).getD k []=[.int .u8 (c.toNat:Nat)]:=fun k c h=>getD_map h
 generalize (s.map fun q=>[PV.int .u8 (q.toNat:Nat)])=es at hln hget ⊢
 simp only [ZZ,WW,Ze,reduceCtorEq,Nat.reduceAdd,Nat.reduceMul,Nat.reduceLeDiff,Nat.reduceLT,Nat.reduceEqDiff,hln]
 refine loop_intro (fun n fr L=>∃ (k:Nat),k≤s.length∧n=s.length - k∧(((s.take k).all fun c=>!badB feeds c)=true)∧fr=[.p (.str s),.p (.bool feeds),oo,oo,oo,oo,oo,oo,.row (.l 8),.p (int (s.length:Nat)),.p (int (k:Nat)),oo,oo,oo,oo,oo,oo,oo,oo,oo,oo,oo,oo,oo,oo,oo,oo,oo,oo,oo,oo]∧L=[(.l 8,.row es 5 1 false)]) (s.length) [.p (.str s),.p (.bool feeds),oo,oo,oo,oo,oo,oo,.row (.l 8),.p (int (s.length:Nat)),.p (int (0:Nat)),oo,oo,oo,oo,oo,oo,oo,oo,oo,oo,oo,oo,oo,oo,oo,oo,oo,oo,oo,oo] [(.l 8,.row es 5 1 false)] (by (simp only [ZZ,WW,Ze,reduceCtorEq,Nat.reduceAdd,Nat.reduceMul,Nat.reduceLeDiff,Nat.reduceLT,Nat.reduceEqDiff];try trivial)) (by (simp only [ZZ,WW,Ze,reduceCtorEq,Nat.reduceAdd,Nat.reduceMul,Nat.reduceLeDiff,Nat.reduceLT,Nat.reduceEqDiff];try trivial)) ⟨0,by omega,by omega,by simp,rfl,rfl⟩ ?_
 rintro n fr L ⟨k,hk,rfl,hall,rfl,rfl⟩
 simp only [ir_chaseref1_wellFormed_L0,ZZ,WW,Ze,reduceCtorEq,Nat.reduceAdd,Nat.reduceMul,Nat.reduceLeDiff,Nat.reduceLT,Nat.reduceEqDiff]
 refine br ?_ ?_
 ·intro h
  have hlt:k < s.length:=by have:=of_decide_eq_true h;omega
  obtain ⟨c,hc⟩:∃ x,s[k]?=some x:=⟨_,List.getElem?_eq_getElem hlt⟩
  have hg:=hget k c hc
  have hnx:=all_take (p:=fun c=>!badB feeds c) hc
  simp only [ZZ,WW,Ze,reduceCtorEq,Nat.reduceAdd,Nat.reduceMul,Nat.reduceLeDiff,Nat.reduceLT,Nat.reduceEqDiff,hg,hln]
  ((repeat' (with_reducible apply And.intro))<;>try ((exact sc_)))
  refine br ?_ ?_
  ·intro hb
   have hb:badB feeds c=true:=hb
   simp only [ZZ,WW,Ze,reduceCtorEq,Nat.reduceAdd,Nat.reduceMul,Nat.reduceLeDiff,Nat.reduceLT,Nat.reduceEqDiff]
   have:(s.all fun c=>!badB feeds c)=false:=by
    rw [List.all_eq_false]
    exact ⟨c,List.mem_of_getElem? hc,by simp [hb]⟩
   simp [visE,this]
  ·intro hb
   have hb:badB feeds c=false:=hb
   simp only [ZZ,WW,Ze,reduceCtorEq,Nat.reduceAdd,Nat.reduceMul,Nat.reduceLeDiff,Nat.reduceLT,Nat.reduceEqDiff]
   ((repeat' (with_reducible apply And.intro))<;>try ((exact sc_)))
   refine end_round (s.length - (k+1)) [.p (.str s),.p (.bool feeds),oo,oo,oo,oo,oo,oo,.row (.l 8),.p (int (s.length:Nat)),.p (int ((k+1):Nat)),oo,oo,oo,oo,oo,oo,oo,oo,oo,oo,oo,oo,oo,oo,oo,oo,oo,oo,oo,oo] [(.l 8,.row es 5 1 false)] (by omega) (by (simp only [ZZ,WW,Ze,reduceCtorEq,Nat.reduceAdd,Nat.reduceMul,Nat.reduceLeDiff,Nat.reduceLT,Nat.reduceEqDiff];try trivial)) (by (simp only [ZZ,WW,Ze,reduceCtorEq,Nat.reduceAdd,Nat.reduceMul,Nat.reduceLeDiff,Nat.reduceLT,Nat.reduceEqDiff];try trivial)) ⟨k+1,by omega,rfl,by rw [hnx,hall,hb];rfl,rfl,rfl⟩
 ·intro h
  have hge:s.length≤k:=by have:=of_decide_eq_false h;omega
  rw [List.take_of_length_le hge] at hall
  simp only [ZZ,WW,Ze,reduceCtorEq,Nat.reduceAdd,Nat.reduceMul,Nat.reduceLeDiff,Nat.reduceLT,Nat.reduceEqDiff]
  refine use1 (Valid_ok s (by omega)) rfl (.inl rfl) ?_
  simp only [ZZ,WW,Ze,reduceCtorEq,Nat.reduceAdd,Nat.reduceMul,Nat.reduceLeDiff,Nat.reduceLT,Nat.reduceEqDiff]
  simp [visE,hall]
theorem TextOf_ok (s:List UInt8) (hs:s.length≤1000000000):PCall Tryz.prog E0 181 [.str s] (·=.bool (textE s)):=by
 refine pcallF mixed Tryz.func181 ck_chaseref1_TextOf ?_
 simp only [a0,l0,OS.ao,List.map_cons,List.map_nil,List.length_cons,List.length_nil,List.cons_append,List.nil_append,Nat.reduceSub,Nat.reduceAdd,List.replicate_succ,List.replicate_zero,ir_chaseref1_TextOf,rs_chaseref1_TextOf,ZZ,WW,Ze,reduceCtorEq,Nat.reduceAdd,Nat.reduceMul,Nat.reduceLeDiff,Nat.reduceLT,Nat.reduceEqDiff]
 refine use1 (wellFormed_ok s true hs) rfl (.inl rfl) ?_
 simp only [ZZ,WW,Ze,reduceCtorEq,Nat.reduceAdd,Nat.reduceMul,Nat.reduceLeDiff,Nat.reduceLT,Nat.reduceEqDiff]
 ((repeat' (with_reducible apply And.intro))<;>try ((exact sc_)))
 refine useG (fun _=>HasSuffix_ok s [10] (by omega)) rfl (.inl rfl) ?_
 simp only [ZZ,WW,Ze,reduceCtorEq,Nat.reduceAdd,Nat.reduceMul,Nat.reduceLeDiff,Nat.reduceLT,Nat.reduceEqDiff]
 ((repeat' (with_reducible apply And.intro))<;>try ((exact sc_)))
def bodyE (s:List UInt8):Int:=if 20000 < s.length then 2 else if textE s=true then 0 else 3
theorem BodyFault_ok (s:List UInt8) (hs:s.length≤1000000000):PCall Tryz.prog E0 104 [.str s] (·=int (bodyE s)):=by
 refine pcallF mixed Tryz.func104 ck_chaseref1_BodyFault ?_
 simp only [a0,l0,OS.ao,List.map_cons,List.map_nil,List.length_cons,List.length_nil,List.cons_append,List.nil_append,Nat.reduceSub,Nat.reduceAdd,List.replicate_succ,List.replicate_zero,ir_chaseref1_BodyFault,rs_chaseref1_BodyFault,ZZ,WW,Ze,reduceCtorEq,Nat.reduceAdd,Nat.reduceMul,Nat.reduceLeDiff,Nat.reduceLT,Nat.reduceEqDiff]
 refine br ?_ ?_
 ·intro h
  have h:=of_decide_eq_true h
  simp only [ZZ,WW,Ze,reduceCtorEq,Nat.reduceAdd,Nat.reduceMul,Nat.reduceLeDiff,Nat.reduceLT,Nat.reduceEqDiff]
  rw [bodyE,if_pos (by omega)]
 ·intro h
  have h:=of_decide_eq_false h
  simp only [ZZ,WW,Ze,reduceCtorEq,Nat.reduceAdd,Nat.reduceMul,Nat.reduceLeDiff,Nat.reduceLT,Nat.reduceEqDiff]
  refine use1 (TextOf_ok s hs) rfl (.inl rfl) ?_
  simp only [ZZ,WW,Ze,reduceCtorEq,Nat.reduceAdd,Nat.reduceMul,Nat.reduceLeDiff,Nat.reduceLT,Nat.reduceEqDiff]
  rw [bodyE,if_neg (by omega)]
  refine br ?_ ?_
  ·intro h2
   simp only [ZZ,WW,Ze,reduceCtorEq,Nat.reduceAdd,Nat.reduceMul,Nat.reduceLeDiff,Nat.reduceLT,Nat.reduceEqDiff]
   rw [if_neg (by simpa using h2)]
  ·intro h2
   simp only [ZZ,WW,Ze,reduceCtorEq,Nat.reduceAdd,Nat.reduceMul,Nat.reduceLeDiff,Nat.reduceLT,Nat.reduceEqDiff]
   rw [if_pos (by simpa using h2)]
end Go.Proofs.YtehfjlpenlffmaaGreatDoor
namespace Go.Proofs.YtehfjlpenlffmaaGreatDoor
end Go.Proofs.YtehfjlpenlffmaaGreatDoor
namespace Go.Proofs.YtehfjlpenlffmaaGreatDoor
open Go.RowKit
section
variable {E:Envt}
def idxF {α:Type} (q:α→Bool) (l:List α):Int:=match l.findIdx? q with|some i=>(i:Int)|none=>-1
theorem idxF_hit {α:Type} {q:α→Bool} {l:List α} {k:Nat} {x:α} (h:l[k]?=some x) (hx:q x=true) (hno:∀ y∈l.take k,q y=false):idxF q l=k:=by
 obtain ⟨hk,hxk⟩:=List.getElem?_eq_some_iff.1 h
 have:l.findIdx? q=some k:=by
  rw [List.findIdx?_eq_some_iff_getElem]
  refine ⟨hk,by rw [hxk];exact hx,fun j hj=>?_⟩
  have:=hno l[j] (by rw [List.mem_take_iff_getElem];exact ⟨j,by omega,rfl⟩)
  simp [this]
 simp [idxF,this]
theorem idxF_none {α:Type} {q:α→Bool} {l:List α} (hno:∀ y∈l,q y=false):idxF q l=-1:=by
 have:l.findIdx? q=none:=by rw [List.findIdx?_eq_none_iff];exact hno
 simp [idxF,this]
theorem idxF_any {α:Type} (q:α→Bool) (l:List α):decide ((0:Int)≤idxF q l)=l.any q:=by
 rw [← List.findIdx?_isSome]
 unfold idxF
 cases l.findIdx? q<;>simp
end
def ir_slices_IndexFunc_api_Address_api_Address_L0:IC:=(.seq (.reg [qO 9 (.bin .lss (.t 8) (.t 7))]) (.seq (.cond (.t 9) .skip (.exit 0)) (.seq (.block 1 (.seq (.reg [qM 10 8,qM 5 10]) (.seq (.reg [qM 11 1,qM 12 0,qM 13 5,qO 14 (.ixa 2 (.t 12) (.t 13)),qO 15 (.ld 2 true (.t 14)),qO 16 (.callv (.t 11) [.t 15])]) (.cond (.t 16) (.seq (.reg [qM 17 5,qM 4 17]) .ret) .skip)))) (.reg [qO 18 (.bin .add (.t 8) (.c (.int .i64 1))),qM 8 18]))))
def ir_slices_IndexFunc_api_Address_api_Address:IC:=(.seq (.reg [qO 4 (.mov (.c (.int .i64 0)))]) (.seq (.seq (.reg [qM 6 0,qO 7 (.len (.t 6)),qO 8 (.mov (.c (.int .i64 0)))]) (.block 0 (.loop ir_slices_IndexFunc_api_Address_api_Address_L0))) (.seq (.reg [qO 4 (.mov (.c (.int .i64 (-1))))]) .ret)))
def rs_slices_IndexFunc_api_Address_api_Address:List IRes:=[.t 4]
theorem ck_slices_IndexFunc_api_Address_api_Address:chkF Tryz.prog Tryz.f180 ir_slices_IndexFunc_api_Address_api_Address rs_slices_IndexFunc_api_Address_api_Address 19=true:=by kernel_rfl
def ir_slices_ContainsFunc_api_Address_api_Address:IC:=(.seq (.reg [qO 4 (.mov (.c (.bool false)))]) (.seq (.reg [qM 5 0,qM 6 1,qO 7 (.call 180 [.t 5,.t 6]),qO 8 (.bin .geq (.t 7) (.c (.int .i64 0))),qM 4 8]) .ret))
def rs_slices_ContainsFunc_api_Address_api_Address:List IRes:=[.t 4]
theorem ck_slices_ContainsFunc_api_Address_api_Address:chkF Tryz.prog Tryz.f102 ir_slices_ContainsFunc_api_Address_api_Address rs_slices_ContainsFunc_api_Address_api_Address 9=true:=by kernel_rfl
abbrev AdT:=List UInt8×List UInt8
def adC (q:AdT):List PV:=[.str q.1,.str q.2]
def adrE (l:List AdT):List (List PV):=l.map adC
theorem adrE_len (l:List AdT):(adrE l).length=l.length:=by simp [adrE]
theorem adrE_get {l:List AdT} {k:Nat} {x:AdT} (h:l[k]?=some x):(adrE l).getD k []=[.str x.1,.str x.2]:=getD_map h
section
variable {E:Envt}
theorem IndexFuncA_ok (l:List AdT) (f:FuncId) (ps:List PV) (q:AdT→Bool) (hl:l.length≤1000000000) (hfn:Unit→fnB Tryz.prog f=true) (hps:Zl [] (ps.map .p)=true) (hf:∀ x∈l,PCall Tryz.prog E f (.agg (adC x) :: ps) (·=.bool (q x))) (hn:∀ x,Zbh [] (.p (.agg (adC x)) :: ps.map .p)=some (.agg (adC x) :: ps)) (hr:∀ x,Zbj (.p (.agg (adC x)) :: ps.map .p)=true):PCall Tryz.prog E 180 [.sl 2 (adrE l),.clo f ps] (·=int (idxF q l)):=by
 refine pcallF mixed Tryz.func180 ck_slices_IndexFunc_api_Address_api_Address ?_
 simp only [a0,l0,OS.ao,List.map_cons,List.map_nil,List.length_cons,List.length_nil,List.cons_append,List.nil_append,Nat.reduceSub,Nat.reduceAdd,List.replicate_succ,List.replicate_zero,ir_slices_IndexFunc_api_Address_api_Address,rs_slices_IndexFunc_api_Address_api_Address,ZZ,WW,Ze,reduceCtorEq,Nat.reduceAdd,Nat.reduceMul,Nat.reduceLeDiff,Nat.reduceLT,Nat.reduceEqDiff]
 simp only [ZZ,WW,Ze,reduceCtorEq,Nat.reduceAdd,Nat.reduceMul,Nat.reduceLeDiff,Nat.reduceLT,Nat.reduceEqDiff,adrE_len]
 refine loop_intro (fun n fr L=>∃ (k:Nat),k≤l.length∧n=l.length - k∧(∀ x∈l.take k,q x=false)∧fr=[.p (.sl 2 (adrE l)),.p (.clo f ps),oo,oo,oo,oo,oo,.p (int (l.length:Nat)),.p (int (k:Nat)),oo,oo,oo,oo,oo,oo,oo,oo,oo,oo]∧L=[]) (l.length) [.p (.sl 2 (adrE l)),.p (.clo f ps),oo,oo,oo,oo,oo,.p (int (l.length:Nat)),.p (int (0:Nat)),oo,oo,oo,oo,oo,oo,oo,oo,oo,oo] [] (by simp only [adrE_len,ZZ,WW,Ze,reduceCtorEq,Nat.reduceAdd,Nat.reduceMul,Nat.reduceLeDiff,Nat.reduceLT,Nat.reduceEqDiff];try trivial) (by (simp only [ZZ,WW,Ze,reduceCtorEq,Nat.reduceAdd,Nat.reduceMul,Nat.reduceLeDiff,Nat.reduceLT,Nat.reduceEqDiff];try trivial)) ⟨0,by omega,by omega,by simp,rfl,rfl⟩ ?_
 rintro n fr L ⟨k,hk,rfl,hno,rfl,rfl⟩
 simp only [ir_slices_IndexFunc_api_Address_api_Address_L0,ZZ,WW,Ze,reduceCtorEq,Nat.reduceAdd,Nat.reduceMul,Nat.reduceLeDiff,Nat.reduceLT,Nat.reduceEqDiff]
 refine br ?_ ?_
 ·intro h
  have hlt:k < l.length:=by have:=of_decide_eq_true h;omega
  obtain ⟨x,hx⟩:∃ x,l[k]?=some x:=⟨_,List.getElem?_eq_getElem hlt⟩
  have hg:=adrE_get hx
  simp only [ZZ,WW,Ze,reduceCtorEq,Nat.reduceAdd,Nat.reduceMul,Nat.reduceLeDiff,Nat.reduceLT,Nat.reduceEqDiff,hg,adrE_len,hfn ()]
  refine ⟨⟨by omega,by omega⟩,by omega,hps,?_⟩
  refine use1 (hf x (List.mem_of_getElem? hx)) (hn x) (.inl (hr x)) ?_
  simp only [ZZ,WW,Ze,reduceCtorEq,Nat.reduceAdd,Nat.reduceMul,Nat.reduceLeDiff,Nat.reduceLT,Nat.reduceEqDiff]
  refine br ?_ ?_
  ·intro hq
   simp only [ZZ,WW,Ze,reduceCtorEq,Nat.reduceAdd,Nat.reduceMul,Nat.reduceLeDiff,Nat.reduceLT,Nat.reduceEqDiff]
   rw [idxF_hit hx hq hno]
  ·intro hq
   simp only [ZZ,WW,Ze,reduceCtorEq,Nat.reduceAdd,Nat.reduceMul,Nat.reduceLeDiff,Nat.reduceLT,Nat.reduceEqDiff]
   ((repeat' (with_reducible apply And.intro))<;>try ((exact sc_)))
   refine end_round (l.length - (k+1)) [.p (.sl 2 (adrE l)),.p (.clo f ps),oo,oo,oo,oo,oo,.p (int (l.length:Nat)),.p (int ((k+1):Nat)),oo,oo,oo,oo,oo,oo,oo,oo,oo,oo] [] (by omega) (by (simp only [ZZ,WW,Ze,reduceCtorEq,Nat.reduceAdd,Nat.reduceMul,Nat.reduceLeDiff,Nat.reduceLT,Nat.reduceEqDiff];try trivial)) (by (simp only [ZZ,WW,Ze,reduceCtorEq,Nat.reduceAdd,Nat.reduceMul,Nat.reduceLeDiff,Nat.reduceLT,Nat.reduceEqDiff];try trivial)) ⟨k+1,by omega,rfl,by rw [List.take_succ_eq_append_getElem hlt];intro y hy;rcases List.mem_append.1 hy with hy|hy;exact hno y hy;rw [List.mem_singleton] at hy;rw [hy,(List.getElem?_eq_some_iff.1 hx).2];exact hq,rfl,rfl⟩
 ·intro h
  have hge:l.length≤k:=by have:=of_decide_eq_false h;omega
  rw [List.take_of_length_le hge] at hno
  simp only [ZZ,WW,Ze,reduceCtorEq,Nat.reduceAdd,Nat.reduceMul,Nat.reduceLeDiff,Nat.reduceLT,Nat.reduceEqDiff]
  rw [idxF_none hno]
theorem ContainsFuncA_ok (l:List AdT) (f:FuncId) (ps:List PV) (q:AdT→Bool) (hl:l.length≤1000000000) (hfn:Unit→fnB Tryz.prog f=true) (hps:Zl [] (ps.map .p)=true) (hf:∀ x∈l,PCall Tryz.prog E f (.agg (adC x) :: ps) (·=.bool (q x))) (hn:∀ x,Zbh [] (.p (.agg (adC x)) :: ps.map .p)=some (.agg (adC x) :: ps)) (hr:∀ x,Zbj (.p (.agg (adC x)) :: ps.map .p)=true):PCall Tryz.prog E 102 [.sl 2 (adrE l),.clo f ps] (·=.bool (l.any q)):=by
 refine pcallF mixed Tryz.func102 ck_slices_ContainsFunc_api_Address_api_Address ?_
 simp only [a0,l0,OS.ao,List.map_cons,List.map_nil,List.length_cons,List.length_nil,List.cons_append,List.nil_append,Nat.reduceSub,Nat.reduceAdd,List.replicate_succ,List.replicate_zero,ir_slices_ContainsFunc_api_Address_api_Address,rs_slices_ContainsFunc_api_Address_api_Address,ZZ,WW,Ze,reduceCtorEq,Nat.reduceAdd,Nat.reduceMul,Nat.reduceLeDiff,Nat.reduceLT,Nat.reduceEqDiff]
 refine use1 (IndexFuncA_ok l f ps q hl hfn hps hf hn hr) rfl (.inl rfl) ?_
 simp only [ZZ,WW,Ze,reduceCtorEq,Nat.reduceAdd,Nat.reduceMul,Nat.reduceLeDiff,Nat.reduceLT,Nat.reduceEqDiff]
 rw [idxF_any]
end
end Go.Proofs.YtehfjlpenlffmaaGreatDoor
