import Derived.Test.YtekhobchfhhofaaGreatDoorZ6
import Derived.Test.YtekhobchfhhofaaGreatDoorLayValid
import Derived.Test.YtekhobchfhhofaaGreatDoorLayIndex
import Derived.Test.YtekhobchfhhofaaGreatDoorRep
import Derived.Test.YtekhobchfhhofaaGreatDoorLayIndexByte
set_option linter.unusedVariables false
set_option linter.unusedSimpArgs false
set_option linter.defProp false
namespace Go.Proofs.YtekhobchfhhofaaGreatDoor
open Nat renaming reduceAdd→zd,reduceEqDiff→zb,reduceLT→zf,reduceLeDiff→za,reduceMul→ze
open List renaming getD→zy,getElem?_eq_getElem→zh,getElem?_eq_none→zY,getElem?_eq_some_iff→zm,getElem?_range→ye,length_map→zX,mem_of_getElem?→zl,range→zz,take_of_length_le→zN,take_succ_eq_append_getElem→zI
open Bool renaming and_eq_true→zj
open Go.RowKit
def E0:Envt where
 ok w:=Lib.Utf8Tabs 0 1 w∧∃ m:Int,w.cell? ⟨2,0,none⟩=some (.int .i64 m)
 bl b:=b=0∨b=1∨b=2
 mono w w' hb h:=by
  obtain ⟨⟨h1,h2⟩,m,h3⟩:=h
  have e1:=hb _ (.inl rfl)
  have e2:=hb _ (.inr (.inl rfl))
  have e3:=hb _ (.inr (.inr rfl))
  exact ⟨⟨fun c hc=>(World.cell?_of_block (w:=w) e1).trans (h1 c hc),fun i hi=>⟨(World.cell?_of_block (w:=w) e2).trans (h2 i hi).1,(World.cell?_of_block (w:=w) e2).trans (h2 i hi).2⟩⟩,m,(World.cell?_of_block (w:=w) e3).trans h3⟩
theorem qlm (s:List UInt8) (hs:s.length≤1000000000000):PCall Tryz.prog E0 110 [.str s] (·=.bool (Lib.validD s)):=
 qc4 rfl rfl fun w hE=>(Any.utf8_ValidString Tryz.layValid ⟨s.toArray⟩ w (by simp [ByteArray.size];omega) hE.1).mono fun e w' h=>⟨by rw [h.1];rfl,qfI h.2⟩
abbrev qdn:IC:=(sR [qO 4 (.mov (.c (.bool false)))] (sR [qM 5 0,qO 6 (.sln (.t 5)),qM 7 1,qO 8 (.sln (.t 7)),qT 9 .geq 6 8,qM 10 9,⟨some 11,.mov (.t 0),(some (10,true))⟩,⟨some 12,.mov (.t 0),(some (10,true))⟩,⟨some 13,.sln (.t 12),(some (10,true))⟩,⟨some 14,.mov (.t 1),(some (10,true))⟩,⟨some 15,.sln (.t 14),(some (10,true))⟩,⟨some 16,.bin .sub (.t 13) (.t 15),(some (10,true))⟩,⟨some 17,.ssl (.t 11) (some (.t 16)) none,(some (10,true))⟩,⟨some 18,.mov (.t 1),(some (10,true))⟩,⟨some 19,.bin .eql (.t 17) (.t 18),(some (10,true))⟩,qO 20 (.pick (.t 10) (.t 19) (.c (.bool false))),qM 4 20] .ret))
theorem qdy:chkF Tryz.prog Tryz.f182 qdn [.t 4] 21=true:=by kernel_rfl
abbrev qhZ:IC:=(sR [qO 4 (.mov (.c (.bool false)))] (sR [qM 5 0,qM 6 1,jC 7 182 [.t 5,.t 6],qM 4 7] .ret))
theorem qib:chkF Tryz.prog Tryz.f123 qhZ [.t 4] 8=true:=by kernel_rfl
abbrev qjq:IC:=(sR [jI 2 0] (sR [qM 3 0,qO 4 (.sln (.t 3)),qB 5 .gtr 4 (cI 20000),jC 6 99 [.t 5,.c (.int .i64 2)],qM 2 6] .ret))
theorem qjF:chkF Tryz.prog Tryz.f199 qjq [.t 2] 7=true:=by kernel_rfl
def qeZ:IC:=(sR [qT 10 .lss 9 8] (.seq (jE 10) (.seq (.block 1 (sR [qM 11 9,qM 5 11] (sR [qM 12 0,qM 13 5,qO 14 (.idx (.t 12) (.t 13)),qM 6 14] (sR [qM 15 6,qB 16 .lss 15 (.c (.int .u8 32)),qM 17 16,⟨some 18,.mov (.t 1),(some (17,true))⟩,⟨some 19,.mov (.t 18),(some (17,true))⟩,⟨some 20,.mov (.t 6),(some (19,true))⟩,⟨some 21,.bin .eql (.t 20) (.c (.int .u8 10)),(some (19,true))⟩,⟨some 22,.pick (.t 19) (.t 21) (.c (.bool false)),(some (17,true))⟩,⟨some 23,.not (.t 22),(some (17,true))⟩,qO 24 (.pick (.t 17) (.t 23) (.c (.bool false))),qM 25 24,⟨some 26,.mov (.t 6),(some (25,false))⟩,⟨some 27,.bin .eql (.t 26) (.c (.int .u8 127)),(some (25,false))⟩,qO 28 (.pick (.t 25) (.c (.bool true)) (.t 27))] (jW 28 (sR [qO 4 (.mov (.c (.bool false)))] .ret)))))) (.reg [qB 29 .add 9 (cI 1),qM 9 29]))))
abbrev qlS:IC:=(sR [qO 4 (.mov (.c (.bool false)))] (.seq (sR [qM 7 0,qO 8 (.sln (.t 7)),jI 9 0] (.block 0 (.loop qeZ))) (sR [qM 30 0,jC 31 110 [.t 30],qM 4 31] .ret)))
theorem ql4:chkF Tryz.prog Tryz.f177 qlS [.t 4] 32=true:=by kernel_rfl
abbrev qpH:IC:=(sR [qO 2 (.mov (.c (.bool false)))] (sR [qM 3 0,jC 4 177 [.t 3,.c (.bool true)],qM 5 4,⟨some 6,.mov (.t 0),(some (5,true))⟩,⟨some 7,.bin .eql (.t 6) (.c (.str [])),(some (5,true))⟩,⟨some 8,.mov (.t 7),(some (5,true))⟩,⟨some 9,.mov (.t 0),(some (8,false))⟩,⟨some 10,.call 123 [.t 9,.c (.str [10])],(some (8,false))⟩,⟨some 11,.pick (.t 8) (.c (.bool true)) (.t 10),(some (5,true))⟩,qO 12 (.pick (.t 5) (.t 11) (.c (.bool false))),qM 2 12] .ret))
theorem qpU:chkF Tryz.prog Tryz.f178 qpH [.t 2] 13=true:=by kernel_rfl
abbrev qgH:IC:=(sR [jI 4 0] (sR [qM 5 0,jC 6 199 [.t 5],qM 7 0,jC 8 178 [.t 7],qO 9 (.not (.t 8)),jC 10 99 [.t 9,.c (.int .i64 3)],qM 11 1,qM 12 0,qO 13 (.sln (.t 12)),jC 14 200 [.t 11,.t 13],qO 15 (.bsl 1 [.t 6,.t 10,.t 14]),jC 16 38 [.t 15],qM 4 16] .ret))
theorem qgR:chkF Tryz.prog Tryz.f140 qgH [.t 4] 17=true:=by kernel_rfl
abbrev qiA:IC:=(sR [qO 4 (.mov (.c (.bool false)))] (sR [qM 5 1,qM 6 0,qO 7 (.sln (.t 6)),qT 8 .lss 5 7,qM 9 8,⟨some 10,.mov (.t 0),(some (9,true))⟩,⟨some 11,.mov (.t 1),(some (9,true))⟩,⟨some 12,.idx (.t 10) (.t 11),(some (9,true))⟩,⟨some 13,.bin .shr (.t 12) (.c (.int .u64 6)),(some (9,true))⟩,⟨some 14,.bin .eql (.t 13) (.c (.int .u8 2)),(some (9,true))⟩,qO 15 (.pick (.t 9) (.t 14) (.c (.bool false))),qM 4 15] .ret))
theorem qiS:chkF Tryz.prog Tryz.f201 qiA [.t 4] 16=true:=by kernel_rfl
def qdE:IC:=(.seq (sR [qM 27 0,wF 28 1 7,qL 29 28,jC 30 201 [.t 27,.t 29]] (.cond (.t 30) .skip (.exit 4))) (.block 5 (.reg [wF 31 1 7,qL 32 31,qB 33 .add 32 (cI 1),wF 34 1 7,qS 1 34 33])))
def qdF:IC:=(.seq (sR [wF 14 0 7,qL 15 14,qB 16 .gtr 15 (cI 0),qM 17 16,⟨some 18,.mov (.t 0),(some (17,true))⟩,⟨some 19,.fla 0 (.t 7),(some (17,true))⟩,⟨some 20,.ld 1 false (.t 19),(some (17,true))⟩,⟨some 21,.call 201 [.t 18,.t 20],(some (17,true))⟩,qO 22 (.pick (.t 17) (.t 21) (.c (.bool false)))] (.cond (.t 22) .skip (.exit 2))) (.block 3 (.reg [wF 23 0 7,qL 24 23,qB 25 .sub 24 (cI 1),wF 26 0 7,qS 1 26 25])))
def qdG:IC:=(sR [qT 11 .lss 10 9] (.seq (jE 11) (.seq (.block 1 (sR [qX 12 2 8 10,qO 13 (.ld 2 true (.t 12)),qO 7 (.alc 111 [.int .i64 0,.int .i64 0]),qS 2 7 13] (.seq (.block 2 (.loop qdF)) (.seq (.block 4 (.loop qdE)) (.reg [qM 35 5,qO 36 (.ld 2 true (.t 7)),qO 37 (.bsl 2 [.t 36]),qO 38 (.app 111 2 16 (.t 35) (.t 37)),qM 5 38]))))) (.reg [qB 39 .add 10 (cI 1),qM 10 39]))))
abbrev qiy:IC:=(sR [qO 4 (.mov (.c (.nl 2)))] (sR [qO 5 (.nilr 111 2)] (.seq (sR [qM 8 1,qN 9 8,jI 10 0] (.block 0 (.loop qdG))) (sR [qM 40 5,qM 4 40] .ret))))
theorem qiQ:chkF Tryz.prog Tryz.f141 qiy [.t 4] 41=true:=by kernel_rfl
def qdH:IC:=(.seq (sR [qM 29 10,wF 30 1 9,qL 31 30,qT 32 .lss 29 31] (.cond (.t 32) .skip (.exit 2))) (.seq (.block 3 (sR [qM 35 7,qM 36 10,qX 37 1 35 36,qL 38 37,qB 39 .neq 38 (.c (.int .u8 32)),qM 40 39,⟨some 41,.mov (.t 7),(some (40,true))⟩,⟨some 42,.mov (.t 10),(some (40,true))⟩,⟨some 43,.ixa 1 (.t 41) (.t 42),(some (40,true))⟩,⟨some 44,.ld 1 false (.t 43),(some (40,true))⟩,⟨some 45,.bin .neq (.t 44) (.c (.int .u8 10)),(some (40,true))⟩,qO 46 (.pick (.t 40) (.t 45) (.c (.bool false)))] (jW 46 (.reg [qM 47 7,qM 48 10,qX 49 1 47 48,⟨none,.st 1 (.t 49) (.c (.int .u8 35)),none⟩])))) (.cut (.reg [qM 33 10,qB 34 .add 33 (cI 1),qM 10 34]))))
def qdI:IC:=(sR [qT 24 .lss 23 22] (.seq (jE 24) (.seq (.block 1 (sR [qX 25 2 21 23,qO 26 (.ld 2 true (.t 25)),qO 9 (.alc 111 [.int .i64 0,.int .i64 0]),qS 2 9 26] (sR [wF 27 0 9,qL 28 27,qM 10 28] (.block 2 (.loop qdH))))) (.reg [qB 50 .add 23 (cI 1),qM 23 50]))))
abbrev qiC:IC:=(sR [qO 4 (.mov (.c (.str []))),jI 5 0] (.seq (sR [qM 11 0,qM 12 1,jC 13 140 [.t 11,.t 12],qM 6 13] (sR [qM 14 6,qB 15 .neq 14 (cI 0)] (jW 15 (sR [qM 16 6,qO 4 (.mov (.c (.str []))),qM 5 16] .ret)))) (sR [qM 17 0,qO 18 (.s2b 5 (.t 17)),qM 7 18] (.seq (sR [qM 19 0,qM 20 1,jC 21 141 [.t 19,.t 20],qN 22 21,jI 23 0] (.block 0 (.loop qdI))) (sR [qM 51 7,qO 52 (.b2s (.t 51)),qM 4 52,jI 5 0] .ret)))))
theorem qiU:chkF Tryz.prog Tryz.f69 qiC [.t 4,.t 5] 53=true:=by kernel_rfl
abbrev qga:IC:=(sR [qO 0 (.mov (.c (.bool false)))] (sR [qO 4 (.bld [.int .i64 0,.int .i64 0] [(0,1,.c (.int .i64 0)),(1,1,.c (.int .i64 1))]),qO 5 (.bsl 2 [.t 4]),jC 6 69 [.c (.str [97,98,10]),.t 5],qM 3 6,qO 7 (.ext 0 (.t 3)),qO 8 (.ext 1 (.t 3)),qM 1 7,qM 2 8] (sR [qM 9 2,qB 10 .eql 9 (cI 0),qM 11 10,⟨some 12,.mov (.t 1),(some (11,true))⟩,⟨some 13,.bin .eql (.t 12) (.c (.str [35,98,10])),(some (11,true))⟩,qO 14 (.pick (.t 11) (.t 13) (.c (.bool false))),qM 0 14] .ret)))
theorem qgi:chkF Tryz.prog Tryz.f17 qga [.t 0] 15=true:=by kernel_rfl
section
variable {E:Envt}
def sufE (s t:List UInt8):Bool:=decide ((t.length:Int)≤s.length) && decide (s.drop (s.length - t.length)=t)
theorem qje (s t:List UInt8) (hs:s.length≤1000000000000):PCall Tryz.prog E 182 [.str s,.str t] (·=.bool (sufE s t)):=by
 refine qag mixed Tryz.func182 qdy ?_
 refine zV ?_
 ((with_reducible and_intros)<;>try exact sc_)
 rw [show ((s.length:Int) - t.length).toNat=s.length - t.length from by omega,List.take_length]
 rfl
theorem qe2 (s t:List UInt8) (hs:s.length≤1000000000000):PCall Tryz.prog E 123 [.str s,.str t] (·=.bool (sufE s t)):=by
 refine qag mixed Tryz.func123 qib ?_
 refine zV ?_
 refine use1 (qje s t hs) rfl (.inl rfl) ?_
 simp only [ZZ,WW,Ze,reduceCtorEq,zd,ze,za,zf,zb]
def qlL (s:List UInt8):Int:=qap (decide ((20000:Int) < s.length)) 2
theorem qvX (s:List UInt8):PCall Tryz.prog E 199 [.str s] (·=int (qlL s)):=by
 refine qag mixed Tryz.func199 qjF ?_
 refine zV ?_
 refine use1 (qbC _ 2) rfl (.inl rfl) ?_
 refine zS ?_
 rfl
def insE (s:List UInt8) (i:Int):Bool:=decide (i < s.length) && decide (((s.getD i.toNat 0).toNat:Int) / 64=2)
theorem qpI (s:List UInt8) (i:Int) (hi:0≤i):PCall Tryz.prog E 201 [.str s,int i] (·=.bool (insE s i)):=by
 refine qag mixed Tryz.func201 qiS ?_
 refine zV ?_
 ((with_reducible and_intros)<;>try exact sc_)
 rw [show (2:Int) ^ min (Int.toNat 6) IntKind.u8.bits=64 from rfl,Int.fdiv_eq_ediv_of_nonneg _ (by omega)]
 rfl
def badB (feeds:Bool) (c:UInt8):Bool:=(decide ((c.toNat:Int) < 32) && !(feeds && decide ((c.toNat:Int)=10))) || decide ((c.toNat:Int)=127)
def visE (s:List UInt8) (feeds:Bool):Bool:=(s.all fun c=>!badB feeds c) && Lib.validD s
theorem qoG {s:List UInt8} {k:Nat} {c:UInt8} {p:UInt8→Bool} (h:s[k]?=some c):(s.take (k+1)).all p=((s.take k).all p && p c):=by
 obtain ⟨hk,hx⟩:=zm.1 h
 rw [zI hk,List.all_append,hx]
 simp
end
theorem qnt (s:List UInt8) (feeds:Bool) (hs:s.length≤1000000000):PCall Tryz.prog E0 177 [.str s,.bool feeds] (·=.bool (visE s feeds)):=by
 refine qag mixed Tryz.func177 ql4 ?_
 refine zV ?_
 refine qae (fun n fr L=>∃ (k:Nat),k≤s.length∧n=s.length - k∧(((s.take k).all fun c=>!badB feeds c)=true)∧fr=(.p (.str s)::.p (.bool feeds)::oC (oB (.p (int (s.length:Nat))::.p (int (k:Nat))::oE (oC (oB [])))))∧L=[]) (s.length) _ [] zF_ zF_ ⟨0,by omega,by omega,by simp,rfl,rfl⟩ ?_
 rintro n fr L ⟨k,hk,rfl,hall,rfl,rfl⟩
 simp only [qeZ,ZZ,WW,Ze,reduceCtorEq,zd,ze,za,zf,zb]
 refine br ?_ ?_
 ·intro h
  have hlt:k < s.length:=by have:=of_decide_eq_true h;omega
  obtain ⟨c,hc⟩:∃ x,s[k]?=some x:=⟨_,zh hlt⟩
  have hg:s.getD k 0=c:=by simp [zy,hc]
  have hnx:=qoG (p:=fun c=>!badB feeds c) hc
  simp only [ZZ,WW,Ze,reduceCtorEq,zd,ze,za,zf,zb,hg]
  ((with_reducible and_intros)<;>try exact sc_)
  refine br ?_ ?_
  ·intro hb
   have hb:badB feeds c=true:=hb
   refine zS ?_
   have:(s.all fun c=>!badB feeds c)=false:=by
    rw [List.all_eq_false]
    exact ⟨c,zl hc,by simp [hb]⟩
   simp [visE,this]
  ·intro hb
   have hb:badB feeds c=false:=hb
   refine zS ?_
   ((with_reducible and_intros)<;>try exact sc_)
   refine qab (s.length - (k+1)) _ [] (by omega) zF_ zF_ ⟨k+1,by omega,rfl,by rw [hnx,hall,hb];rfl,rfl,rfl⟩
 ·intro h
  have hge:s.length≤k:=by have:=of_decide_eq_false h;omega
  rw [zN hge] at hall
  refine zS ?_
  refine use1 (qlm s (by omega)) rfl (.inl rfl) ?_
  refine zS ?_
  simp [visE,hall]
def qkK (s:List UInt8):Bool:=visE s true && (decide (s=[]) || sufE s [10])
theorem quK (s:List UInt8) (hs:s.length≤1000000000):PCall Tryz.prog E0 178 [.str s] (·=.bool (qkK s)):=by
 refine qag mixed Tryz.func178 qpU ?_
 refine zV ?_
 refine use1 (qnt s true hs) rfl (.inl rfl) ?_
 refine zS ?_
 ((with_reducible and_intros)<;>try exact sc_)
 refine useG (fun _=>qe2 s [10] (by omega)) rfl (.inl rfl) ?_
 refine zS ?_
 ((with_reducible and_intros)<;>try exact sc_)
def tErr (s:List UInt8) (l:List (Int×Int)):Int:=qaf [qlL s,qap (!qkK s) 3,qg4 l s.length]
theorem qo2 (s:List UInt8) (l:List (Int×Int)) (hs:s.length≤1000000000) (hl:l.length≤1000000):PCall Tryz.prog E0 140 [.str s,sps l] (·=int (tErr s l)):=by
 refine qag mixed Tryz.func140 qgR ?_
 refine zV ?_
 refine use1 (qvX s) rfl (.inl rfl) ?_
 refine zS ?_
 refine use1 (quK s hs) rfl (.inl rfl) ?_
 refine zS ?_
 refine use1 (qbC _ 3) rfl (.inl rfl) ?_
 refine zS ?_
 refine use1 (qoW l s.length hl) rfl (.inl rfl) ?_
 refine zS ?_
 refine use1 (qbv [qlL s,qap (!qkK s) 3,qg4 l s.length] (by simp)) rfl (.inl rfl) ?_
 refine zS ?_
 rfl
def qoz (s:List UInt8):Nat→Nat
 |0=>0
 |n+1=>if insE s ((n+1:Nat):Int)=true then qoz s n else n+1
def fwdN (s:List UInt8):Nat→Nat→Nat
 |0,n=>n
 |f+1,n=>if insE s (n:Int)=true then fwdN s f (n+1) else n
theorem qt7 {s:List UInt8} {n:Nat} (h:insE s (n:Int)=true):n < s.length:=by
 simp only [insE,zj,decide_eq_true_eq] at h
 omega
theorem qua (s:List UInt8):∀ f n,n≤s.length→fwdN s f n≤s.length
 |0,n,h=>h
 |f+1,n,h=>by
  unfold fwdN
  split
  ·rename_i hi
   exact qua s f (n+1) (qt7 hi)
  ·exact h
def pntF (s:List UInt8) (p:Int×Int):Int×Int:=((qoz s p.1.toNat:Nat),(fwdN s (s.length - p.2.toNat) p.2.toNat:Nat))
def qeu (s:List UInt8) (l:List (Int×Int)):List (Int×Int):=l.map (pntF s)
section
variable {E:Envt}
theorem qtw (s:List UInt8) (l:List (Int×Int)) (hs:s.length≤1000000000) (hl:l.length≤1000000) (hb:∀ p∈l,0≤p.1∧p.1≤1000000000∧0≤p.2∧p.2≤s.length) :
  FCall Tryz.prog E 141 [.str s,sps l] qhS 2 (·=(qeu s l).map spn):=by
 unfold FCall
 refine qe1 mixed Tryz.func141 qiQ ?_
 refine zV ?_
 simp only [sps,ZZ,WW,Ze,reduceCtorEq,zd,ze,za,zf,zb]
 have hln:(l.map spn).length=l.length:=by simp
 have hget:∀ k p,l[k]?=some p→(l.map spn).getD k []=[int p.1,int p.2]:=fun k p hp=>qa5 hp
 generalize l.map spn=es at hln hget ⊢
 refine qae (fun n fr L=>∃ (k:Nat) (out:List (Int×Int)),k≤l.length∧n=l.length - k∧(out=(qeu s l).take k)∧fr=(.p (.str s)::oo::oo::oo::oo::.row (.l 5)::oo::oo::.p (.sl 2 es)::.p (int (l.length:Nat))::.p (int (k:Nat))::oE (oD (oC (oB []))))∧L=[(.l 5,.row (out.map spn) qhS 2 true)]) (l.length) _ _ (by simp only [hln,ZZ,WW,Ze,reduceCtorEq,zd,ze,za,zf,zb];try trivial) zF_ ⟨0,[],by omega,by omega,by simp,rfl,rfl⟩ ?_
 rintro n fr L ⟨k,out,hk,rfl,hout,rfl,rfl⟩
 simp only [qdG,ZZ,WW,Ze,reduceCtorEq,zd,ze,za,zf,zb]
 refine br ?_ ?_
 ·intro h
  have hlt:k < l.length:=by have:=of_decide_eq_true h;omega
  obtain ⟨p,hp⟩:∃ x,l[k]?=some x:=⟨_,zh hlt⟩
  have hg:=hget k p hp
  obtain ⟨hp1,hp2,hp3,hp4⟩:=hb p (zl hp)
  have hol:out.length≤k:=by rw [hout];simp;omega
  obtain ⟨a,ha⟩:=Int.eq_ofNat_of_zero_le hp1
  obtain ⟨b,hbb⟩:=Int.eq_ofNat_of_zero_le hp3
  have hpn:pntF s p=(((qoz s a:Nat):Int),((fwdN s (s.length - b) b:Nat):Int)):=by rw [show p=((a:Int),(b:Int)) from by rw [← ha,← hbb]];rfl
  have hbn:b≤s.length:=by omega
  rw [ha,hbb] at hg
  simp only [ZZ,WW,Ze,reduceCtorEq,zd,ze,za,zf,zb,hg,hln]
  ((with_reducible and_intros)<;>try exact sc_)
  refine qae (fun n fr L=>∃ (f:Nat),f=n∧(qoz s f=qoz s a)∧(f≤a)∧fr=(.p (.str s)::oo::oo::oo::oo::.row (.l 5)::oo::.adr (.l 7) 0::.p (.sl 2 es)::.p (int (l.length:Nat))::.p (int (k:Nat))::oE (oD (oC (oB []))))∧L=[(.l 5,.row (out.map spn) qhS 2 true),(.l 7,.box [.p (int (f:Nat)),.p (int (b:Nat))] qhS)]) (a) (.p (.str s)::oo::oo::oo::oo::.row (.l 5)::oo::.adr (.l 7) 0::.p (.sl 2 es)::.p (int (l.length:Nat))::.p (int (k:Nat))::oE (oD (oC (oB [])))) [(.l 5,.row (out.map spn) qhS 2 true),(.l 7,.box [.p (int (a:Nat)),.p (int (b:Nat))] qhS)] zF_ zF_ ⟨a,rfl,rfl,Nat.le_refl _,rfl,rfl⟩ ?_
  rintro n fr L ⟨f,rfl,hf,hfa,rfl,rfl⟩
  simp only [qdF,ZZ,WW,Ze,reduceCtorEq,zd,ze,za,zf,zb]
  refine useG (fun _=>qpI s (f:Nat) (by omega)) rfl (.inl rfl) ?_
  refine zS ?_
  refine br ?_ ?_
  ·intro hc
   simp only [zj,decide_eq_true_eq] at hc
   obtain ⟨g,rfl⟩:∃ g,f=g+1:=⟨f - 1,by omega⟩
   have hgg:((g+1:Nat):Int) - 1=(g:Nat):=by omega
   simp only [ZZ,WW,Ze,reduceCtorEq,zd,ze,za,zf,zb,hgg]
   ((with_reducible and_intros)<;>try exact sc_)
   refine qab ((g)) _ _ (by omega) zF_ zF_ ⟨g,rfl,by rw [← hf,qoz,if_pos hc.2],by omega,rfl,rfl⟩
  ·intro hc
   have hfn:f=qoz s a:=by
    rw [← hf]
    cases f with
    |zero=>rfl
    |succ g=>
     have:insE s ((g+1:Nat):Int)=false:=by simpa using hc
     rw [qoz,if_neg (by rw [this];simp)]
   rw [hfn]
   refine zS ?_
   refine qae (fun n fr L=>∃ (g:Nat),s.length - g=n∧(fwdN s (s.length - g) g=fwdN s (s.length - b) b)∧(g≤s.length)∧fr=(.p (.str s)::oo::oo::oo::oo::.row (.l 5)::oo::.adr (.l 7) 0::.p (.sl 2 es)::.p (int (l.length:Nat))::.p (int (k:Nat))::oE (oD (oC (oB []))))∧L=[(.l 5,.row (out.map spn) qhS 2 true),(.l 7,.box [.p (int (qoz s a:Nat)),.p (int (g:Nat))] qhS)]) (s.length - b) _ _ zF_ zF_ ⟨b,rfl,rfl,hbn,rfl,rfl⟩ ?_
   rintro n fr L ⟨g,rfl,hg2,hgb,rfl,rfl⟩
   simp only [qdE,ZZ,WW,Ze,reduceCtorEq,zd,ze,za,zf,zb]
   refine use1 (qpI s (g:Nat) (by omega)) rfl (.inl rfl) ?_
   refine zS ?_
   refine br ?_ ?_
   ·intro hc
    have hgl:=qt7 hc
    refine zS ?_
    ((with_reducible and_intros)<;>try exact sc_)
    refine qab (s.length - (g+1)) _ _ (by omega) zF_ zF_ ⟨g+1,rfl,by rw [← hg2,show s.length - g=(s.length - (g+1))+1 from by omega,fwdN,if_pos hc],by omega,rfl,rfl⟩
   ·intro hc
    have hgn:g=fwdN s (s.length - b) b:=by
     rw [← hg2]
     cases hh:s.length - g with
     |zero=>rfl
     |succ m=>rw [fwdN,if_neg (by rw [hc];simp)]
    rw [hgn]
    refine zS ?_
    simp only [zX]
    ((with_reducible and_intros)<;>try exact sc_)
    refine qab (l.length - (k+1)) _ _ (by omega) zF_ (by rw [List.map_append,hpn];simp only [spn,ZZ,WW,Ze,reduceCtorEq,zd,ze,za,zf,zb]) ⟨k+1,out++[pntF s p],by omega,rfl,by rw [hout,qeu,zI (by simpa using hlt)];congr 2;simp;rw [(zm.1 hp).2],rfl,rfl⟩
 ·intro h
  have hge:l.length≤k:=by have:=of_decide_eq_false h;omega
  have:(qeu s l).take k=qeu s l:=zN (by simp [qeu];exact hge)
  rw [this] at hout
  refine zS ?_
  exact qiM 5 _ rfl rfl (by rw [hout])
end
def bU (n:Nat) (g:Nat→UInt8):List (List PV):=(zz n).map fun j=>[.int .u8 ((g j).toNat:Nat)]
theorem qp2 (n:Nat) (g:Nat→UInt8):(bU n g).length=n:=by simp [bU]
theorem quC {n i:Nat} {g:Nat→UInt8} (h:i < n):(bU n g).getD i []=[.int .u8 ((g i).toNat:Nat)]:=by
 simp [bU,zy,List.getElem?_map,ye h]
theorem quB {n i:Nat} {g:Nat→UInt8} (c:UInt8):(bU n g).set i [.int .u8 (c.toNat:Nat)]=bU n (fun j=>if j=i then c else g j):=by
 apply List.ext_getElem?
 intro j
 by_cases hj:j < n
 ·by_cases he:j=i
  ·subst he
   rw [List.getElem?_set_self (by simpa [bU] using hj)]
   simp [bU,ye hj]
  ·rw [List.getElem?_set_ne (fun e=>he e.symm)]
   simp [bU,ye hj,he]
 ·rw [zY (by simpa [bU] using hj),zY (by simpa [bU] using hj)]
theorem qy9 (s:List UInt8):(s.map fun q=>[PV.int .u8 (q.toNat:Nat)])=bU s.length (fun j=>s.getD j 0):=by
 apply List.ext_getElem?
 intro j
 by_cases hj:j < s.length
 ·simp [bU,ye hj,zh hj,zy]
 ·rw [zY (by simpa using hj),zY (by simpa [bU] using hj)]
theorem qou (n:Nat) (g:Nat→UInt8):qin (bU n g)=some ((zz n).map g):=by
 have:∀ l:List Nat,qin (l.map fun j=>[PV.int .u8 ((g j).toNat:Nat)])=some (l.map g):=by
  intro l
  induction l with
  |nil=>rfl
  |cons x r ih=>simp [qin,ih]
 exact this _
def qjO (c:UInt8):Bool:=decide ((c.toNat:Int)=32) || decide ((c.toNat:Int)=10)
def redG (s:List UInt8) (m:Nat→Bool) (j:Nat):UInt8:=if (m j && !qjO (s.getD j 0))=true then 35 else s.getD j 0
theorem qyb {s:List UInt8} {m:Nat→Bool} {i:Nat} (h:qjO (redG s m i)=false):(fun j=>if j=i then 35 else redG s m j)=redG s (fun j=>m j || decide (j=i)):=by
 funext j
 by_cases hj:j=i
 ·subst hj
  have hb:qjO (s.getD j 0)=false:=by
   unfold redG at h
   split at h
   ·rename_i hc;simp at hc;exact hc.2
   ·exact h
  simp only [redG,if_true,hb];simp
 ·simp [redG,hj]
theorem qvz {s:List UInt8} {m:Nat→Bool} {i:Nat} (h:qjO (redG s m i)=true):redG s m=redG s (fun j=>m j || decide (j=i)):=by
 funext j
 by_cases hj:j=i
 ·subst hj
  have hb:qjO (s.getD j 0)=true:=by
   unfold redG at h
   split at h
   ·exact absurd h (by decide)
   ·exact h
  simp only [redG,hb];simp
 ·simp [redG,hj]
def qqx (s:List UInt8) (l:List (Int×Int)):List UInt8:=(zz s.length).map (redG s (cov (qeu s l)))
theorem qs3 {s:List UInt8} {l:List (Int×Int)} (h:tErr s l=0):s.length≤20000∧qkK s=true∧qg4 l s.length=0:=by
 have hm:=qnl h
 have h1:=hm (qlL s) (by simp)
 have h2:=hm (qap (!qkK s) 3) (by simp)
 have h3:=hm (qg4 l s.length) (by simp)
 refine ⟨?_,?_,h3⟩
 ·unfold qlL qap at h1
  split at h1
  ·cases h1
  ·rename_i hh;simp at hh;omega
 ·unfold qap at h2
  split at h2
  ·cases h2
  ·rename_i hh;simpa using hh
theorem quO (s:List UInt8) (l:List (Int×Int)) (hs:s.length≤1000000000) (hl:l.length≤1000000) :
  PCall Tryz.prog E0 69 [.str s,sps l] (·=.tup [.str (if tErr s l=0 then qqx s l else []),int (tErr s l)]):=by
 refine qag mixed Tryz.func69 qiU ?_
 refine zV ?_
 refine use1 (qo2 s l hs hl) rfl (.inl rfl) ?_
 refine zS ?_
 refine br ?_ ?_
 ·intro h
  have h:¬ tErr s l=0:=by simpa using h
  refine zS ?_
  rw [if_neg h]
 ·intro h
  have h:tErr s l=0:=by simpa using h
  obtain ⟨h1,h2,h3⟩:=qs3 h
  have h4:=qtc h3
  rw [if_pos h,h]
  refine zS ?_
  ((with_reducible and_intros)<;>try exact sc_)
  refine useF (qtw s l hs hl (fun p hp=>by have:=h4 p hp;omega)) rfl rfl ?_
  rintro es rfl
  have hpl:(qeu s l).length=l.length:=by simp [qeu]
  have hpb:∀ p∈qeu s l,0≤p.1∧0≤p.2∧p.2≤s.length:=by
   intro p hp
   obtain ⟨q,hq,rfl⟩:=List.mem_map.1 hp
   have:=h4 q hq
   have:=qua s (s.length - q.2.toNat) q.2.toNat (by omega)
   simp only [pntF]
   omega
  unfold qqx
  generalize qeu s l=ps at *
  have hln:(ps.map spn).length=l.length:=by simp [hpl]
  rw [qy9]
  simp only [ZZ,WW,Ze,reduceCtorEq,zd,ze,za,zf,zb,hln]
  have hget:∀ k p,ps[k]?=some p→(ps.map spn).getD k []=[int p.1,int p.2]:=fun k p hp=>qa5 hp
  generalize hes:ps.map spn=es at hln hget ⊢
  refine qae (fun n fr L=>∃ (k:Nat) (g:Nat→UInt8),k≤l.length∧n=l.length - k∧(g=redG s (cov (ps.take k)))∧fr=(oC (oB (oo::(.row (.l 18)::oD (oC (oo::(.row (.l 21)::.p (int (l.length:Nat))::.p (int (k:Nat))::oE (oD (oC (oo::[]))))))))))∧L=[(.l 18,.row (bU s.length g) 5 1 false),(.l 21,.row es qhS 2 true)]) (l.length) _ _ zF_ zF_ ⟨0,fun j=>s.getD j 0,by omega,by omega,by funext j;simp [redG,cov],rfl,rfl⟩ ?_
  rintro n fr L ⟨k,g,hk,rfl,hg,rfl,rfl⟩
  simp only [qdI,ZZ,WW,Ze,reduceCtorEq,zd,ze,za,zf,zb]
  refine br ?_ ?_
  ·intro h
   have hlt:k < ps.length:=by have:=of_decide_eq_true h;omega
   obtain ⟨p,hp⟩:∃ x,ps[k]?=some x:=⟨_,zh hlt⟩
   have hg1:=hget k p hp
   obtain ⟨hp1,hp3,hp4⟩:=hpb p (zl hp)
   obtain ⟨a,ha⟩:=Int.eq_ofNat_of_zero_le hp1
   obtain ⟨b,hbb⟩:=Int.eq_ofNat_of_zero_le hp3
   have hbn:b≤s.length:=by omega
   have hcv:=fun j=>qwl hp j
   rw [ha,hbb] at hg1 hcv
   simp only [ZZ,WW,Ze,reduceCtorEq,zd,ze,za,zf,zb,hg1,hln]
   ((with_reducible and_intros)<;>try exact sc_)
   refine qae (fun n fr L=>∃ (i:Nat) (g':Nat→UInt8),b - i=n∧(a≤i)∧(i≤max a b)∧(g'=redG s (fun j=>cov (ps.take k) j || (decide (a≤j) && decide (j < i))))∧fr=(oC (oB (oo::(.row (.l 18)::oo::.adr (.l 9) 0::.p (int (i:Nat))::oD (oB (.row (.l 21)::.p (int (l.length:Nat))::.p (int (k:Nat))::oE (oD (oC (oo::[])))))))))∧L=[(.l 18,.row (bU s.length g') 5 1 false),(.l 21,.row es qhS 2 true),(.l 9,.box [.p (int (a:Nat)),.p (int (b:Nat))] qhS)]) (b - a) (oC (oB (oo::(.row (.l 18)::oo::.adr (.l 9) 0::.p (int (a:Nat))::oD (oB (.row (.l 21)::.p (int (l.length:Nat))::.p (int (k:Nat))::oE (oD (oC (oo::[]))))))))) [(.l 18,.row (bU s.length g) 5 1 false),(.l 21,.row es qhS 2 true),(.l 9,.box [.p (int (a:Nat)),.p (int (b:Nat))] qhS)] zF_ zF_ ⟨a,g,rfl,Nat.le_refl _,by omega,by rw [hg];congr 1;funext j;simp;omega,rfl,rfl⟩ ?_
   rintro n fr L ⟨i,g',rfl,hi,him,hg',rfl,rfl⟩
   simp only [qdH,ZZ,WW,Ze,reduceCtorEq,zd,ze,za,zf,zb]
   refine br ?_ ?_
   ·intro h2
    have h2:=of_decide_eq_true h2
    have hib:i < b:=by omega
    have hgi:(bU s.length g').getD i []=[.int .u8 ((g' i).toNat:Nat)]:=quC (by omega)
    have hbl:=qp2 s.length g'
    have hset:(bU s.length g').set i [.int .u8 35]=bU s.length (fun j=>if j=i then 35 else g' j):=quB (35:UInt8)
    have hmm:(fun j=>(cov (ps.take k) j || (decide (a≤j) && decide (j < i))) || decide (j=i))=(fun j=>cov (ps.take k) j || (decide (a≤j) && decide (j < i+1))):=by
     funext j
     rw [Bool.or_assoc]
     congr 1
     by_cases hj:j=i
     ·subst hj;simp [hi]
     ·simp only [hj,decide_false,Bool.or_false]
      congr 1
      simp only [decide_eq_decide]
      omega
    simp only [ZZ,WW,Ze,reduceCtorEq,zd,ze,za,zf,zb,hgi,hbl]
    ((with_reducible and_intros)<;>try exact sc_)
    refine br ?_ ?_
    ·intro hc
     have hb:qjO (g' i)=false:=by
      simp only [zj,Bool.not_eq_true'] at hc
      simp [qjO,hc.1,hc.2]
     have hnx:=qyb (s:=s) (i:=i) (by rw [← hg'];exact hb)
     rw [← hg',hmm] at hnx
     simp only [ZZ,WW,Ze,reduceCtorEq,zd,ze,za,zf,zb,hgi,hbl,hset,hnx]
     ((with_reducible and_intros)<;>try exact sc_)
     refine qad zE_ ?_
     refine zS ?_
     ((with_reducible and_intros)<;>try exact sc_)
     refine qab (b - (i+1)) _ _ (by omega) zF_ zF_ ⟨i+1,redG s (fun j=>cov (ps.take k) j || (decide (a≤j) && decide (j < i+1))),rfl,by omega,by omega,rfl,rfl,rfl⟩
    ·intro hc
     have hb:qjO (g' i)=true:=by
      simp only [Bool.and_eq_false_iff,Bool.not_eq_false'] at hc
      rcases hc with hc|hc<;>simp [qjO,hc]
     have hnx:=qvz (s:=s) (i:=i) (by rw [← hg'];exact hb)
     rw [hmm] at hnx
     refine zS ?_
     refine qad zE_ ?_
     refine zS ?_
     ((with_reducible and_intros)<;>try exact sc_)
     refine qab (b - (i+1)) _ _ (by omega) zF_ zF_ ⟨i+1,g',rfl,by omega,by omega,by rw [hg'];exact hnx,rfl,rfl⟩
   ·intro h2
    have h2:=of_decide_eq_false h2
    have hnx:g'=redG s (cov (ps.take (k+1))):=by
     rw [hg']
     congr 1
     funext j
     rw [hcv]
     congr 1
     rw [Bool.eq_iff_iff,zj,zj,decide_eq_true_eq,decide_eq_true_eq,decide_eq_true_eq,decide_eq_true_eq]
     omega
    refine zS ?_
    ((with_reducible and_intros)<;>try exact sc_)
    refine qab (l.length - (k+1)) _ _ (by omega) zF_ zF_ ⟨k+1,g',by omega,rfl,hnx,rfl,rfl⟩
  ·intro h
   have hge:ps.length≤k:=by have:=of_decide_eq_false h;omega
   rw [zN hge] at hg
   simp only [ZZ,WW,Ze,reduceCtorEq,zd,ze,za,zf,zb,qou]
   rw [hg]
theorem qnU:PCall Tryz.prog E0 17 [] (·=.bool true):=by
 refine qag mixed Tryz.func17 qgi ?_
 refine zV ?_
 refine use1 (quO [97,98,10] [(0,1)] (by simp) (by simp)) rfl (.inl rfl) ?_
 have h1:tErr [97,98,10] [(0,1)]=0:=by decide +kernel
 have h2:qqx [97,98,10] [(0,1)]=[35,98,10]:=by decide +kernel
 rw [if_pos h1,h1,h2]
 refine zS ?_
 rfl
def qwT (k:IntKind) (w:World) (a:Option Addr) (len cap:Nat) (zs:List Int):Prop:=
 (a=none∧len=0∧cap=0∧zs=[])∨
 ∃ x,a=some x∧len≤cap∧cap≤maxLen∧zs.length=cap∧(∀ i,i < zs.length→w.cell? (x.add i)=some (.int k (zs.getD i 0)))∧∀ n∈zs,(Lit.int k n).wf=true
theorem qpi {w:World} {U:Nat→Prop} {b:Nat}:∀ (l:List Int) (off:Nat),(∀ i,i < l.length→w.cell? ⟨b,off+i,none⟩=some (.int .i64 (l.getD i 0)))→PRepE w U b 1 off (l.map fun x=>[.int .i64 x])
 |[],off,h=>trivial
 |x :: r,off,h=>by
  refine ⟨rfl,⟨⟨_,by simpa using h 0 (by simp),rfl,rfl⟩,trivial⟩,qpi r (off+1) (fun i hi=>?_)⟩
  have:=h (i+1) (by simpa using hi)
  rw [show off+1+i=off+(i+1) from by omega]
  simpa using this
theorem qt3 {w:World} {a:Option Addr} {len cap:Nat} {zs:List Int} (h:qwT .i64 w a len cap zs):PRep w (fun _=>False) (ints (zs.take len)) (.slice a len cap)∧(zs.take len).length≤9223372036854775807:=by
 rcases h with ⟨rfl,rfl,rfl,rfl⟩|⟨x,rfl,h1,h2,h3,h4,_⟩
 ·exact ⟨⟨none,0,rfl,by simp,fun h=>by simp at h⟩,by simp⟩
 ·have hl:(zs.take len).length=len:=by rw [List.length_take];omega
  refine ⟨⟨some x,cap,by rw [zX,hl],by rw [zX,hl];exact h1,fun hne=>?_⟩,by rw [hl];unfold maxLen at h2;omega⟩
  have h0:0 < len:=by
   rcases Nat.eq_zero_or_pos len with h'|h'
   ·subst h';simp at hne
   ·exact h'
  obtain ⟨b,off,spot⟩:=x
  have hc:=h4 0 (by omega)
  have hspot:spot=none:=by simpa [Addr.add] using World.cell?_spot hc
  subst hspot
  have hb:b < w.heap.size:=by
   have:=World.block_lt_of_cell? w _ hc
   simpa [Addr.add] using this
  refine ⟨b,off,rfl,hb,fun h=>h,qpi _ _ (fun i hi=>?_)⟩
  rw [hl] at hi
  have:=h4 i (by omega)
  rw [qbj] at this
  rw [this]
  congr 2
  rw [List.getD_eq_getElem?_getD,List.getD_eq_getElem?_getD,List.getElem?_take_of_lt hi]
theorem qxl {P:Program} {E:Envt} {f:FuncId} (h:∀ z:List Int,z.length≤9223372036854775807→PCall P E f [ints z] (·=.bool true)) (a0:Option Addr) (len0 cap0:Nat) (z0:List Int) (w:World) (h0:qwT .i64 w a0 len0 cap0 z0) (hok:E.ok w) (hbl:∀ b,E.bl b→b < w.heap.size) :
  Calls P f #[.slice a0 len0 cap0] w fun e w'=>e=.returned (.bool true)∧Below w.heap.size w w':=by
 obtain ⟨h1,h2⟩:=qt3 h0
 refine (h _ h2 w (fun _=>False) [.slice a0 len0 cap0] (fun _ h=>h.elim) hok hbl ⟨_,[],rfl,h1,rfl⟩).mono ?_
 rintro e w' ⟨v,x,rfl,rfl,hv,hg⟩
 refine ⟨by rw [PRep.bool_eq hv],⟨hg.os,hg.tape,hg.output,hg.size,fun k hk=>hg.block k hk (fun h=>h)⟩⟩
theorem qee (s:List UInt8):(⟨s.toArray⟩:ByteArray).size=s.length:=by simp [ByteArray.size]
section
variable {E:Envt}
theorem qhC (s:List UInt8) (c:UInt8):PCall Tryz.prog E 196 [.str s,.int .u8 (c.toNat:Nat)] (·=int (Lib.indexByte s c)):=
 qc4 rfl rfl fun w _=>(Any.strings_IndexByte Tryz.layIndexByte ⟨s.toArray⟩ (c.toNat:Nat) w).mono fun e w' h=>⟨by rw [h.1];simp [valX,valD],by rw [h.2];exact Grow.refl _ _⟩
theorem qe3 (s p:List UInt8):PCall Tryz.prog E 88 [.str s,.str p] (·=.bool (Lib.hasPrefix s p)):=
 qc4 rfl rfl fun w _=>(Any.strings_HasPrefix Tryz.layPrefix ⟨s.toArray⟩ ⟨p.toArray⟩ w).mono fun e w' h=>⟨h.1,by rw [h.2];exact Grow.refl _ _⟩
end
theorem qwU (s t:List UInt8) (hs:s.length≤1000000000):PCall Tryz.prog E0 192 [.str s,.str t] (·=int (Lib.index s t)):=
 qc4 rfl rfl fun w hE=>by
  obtain ⟨_,m,hm⟩:=hE
  exact (Any.strings_Index { Tryz.layIndex with } ⟨s.toArray⟩ ⟨t.toArray⟩ m w (by rw [qee];omega) hm).mono fun e w' h=>⟨h.1,by rw [h.2];exact Grow.refl _ _⟩
def qgB:IC:=(sR [qT 11 .lss 10 9] (.seq (jE 11) (.seq (.block 1 (sR [qM 12 10,qX 13 1 8 10,qL 14 13,qM 4 12,qM 5 14] (sR [qM 15 5,qB 16 .geq 15 (.c (.int .u8 65)),qM 17 16,⟨some 18,.mov (.t 5),(some (17,true))⟩,⟨some 19,.bin .leq (.t 18) (.c (.int .u8 90)),(some (17,true))⟩,qO 20 (.pick (.t 17) (.t 19) (.c (.bool false)))] (jW 20 (.reg [qM 21 3,qM 22 4,qM 23 5,qB 24 .add 23 (.c (.int .u8 32)),qX 25 1 21 22,qS 1 25 24]))))) (.cut (.reg [qB 26 .add 10 (cI 1),qM 10 26])))))
abbrev qoc:IC:=(sR [qO 2 (.mov (.c (.str [])))] (sR [qM 6 0,qO 7 (.s2b 5 (.t 6)),qM 3 7] (.seq (sR [qM 8 3,qN 9 8,jI 10 0] (.block 0 (.loop qgB))) (sR [qM 27 3,qO 28 (.b2s (.t 27)),qM 2 28] .ret))))
theorem qop:chkF Tryz.prog Tryz.f206 qoc [.t 2] 29=true:=by kernel_rfl
def qdW:IC:=(sR [qT 12 .lss 11 10] (.seq (jE 12) (.seq (.block 1 (sR [qM 13 11,qX 14 1 9 11,qL 15 14,qM 4 13,qM 5 15] (sR [qM 16 5,jC 17 196 [.c (.str [65,66,67,68,69,70,71,72,73,74,75,76,77,78,79,80,81,82,83,84,85,86,87,88,89,90]),.t 16],qM 6 17] (sR [qM 18 6,qB 19 .geq 18 (cI 0)] (jW 19 (.reg [qM 20 3,qM 21 4,qM 22 6,qO 23 (.idx (.c (.str [97,98,99,100,101,102,103,104,105,106,107,108,109,110,111,112,113,114,115,116,117,118,119,120,121,122])) (.t 22)),qX 24 1 20 21,qS 1 24 23])))))) (.cut (.reg [qB 25 .add 11 (cI 1),qM 11 25])))))
abbrev qjt:IC:=(sR [qO 2 (.mov (.c (.str [])))] (sR [qM 7 0,qO 8 (.s2b 5 (.t 7)),qM 3 8] (.seq (sR [qM 9 3,qN 10 9,jI 11 0] (.block 0 (.loop qdW))) (sR [qM 26 3,qO 27 (.b2s (.t 26)),qM 2 27] .ret))))
theorem qjI:chkF Tryz.prog Tryz.f138 qjt [.t 2] 28=true:=by kernel_rfl
def qcB:IC:=(sR [qT 11 .lss 10 9] (.seq (jE 11) (.seq (.block 1 (sR [qX 12 1 8 10,qL 13 12,qM 6 13] (sR [qM 14 6,qB 15 .lss 14 (.c (.int .u8 32)),qM 16 15,⟨some 17,.mov (.t 1),(some (16,true))⟩,⟨some 18,.mov (.t 17),(some (16,true))⟩,⟨some 19,.mov (.t 6),(some (18,true))⟩,⟨some 20,.bin .eql (.t 19) (.c (.int .u8 10)),(some (18,true))⟩,⟨some 21,.pick (.t 18) (.t 20) (.c (.bool false)),(some (16,true))⟩,⟨some 22,.not (.t 21),(some (16,true))⟩,qO 23 (.pick (.t 16) (.t 22) (.c (.bool false))),qM 24 23,⟨some 25,.mov (.t 6),(some (24,false))⟩,⟨some 26,.bin .eql (.t 25) (.c (.int .u8 127)),(some (24,false))⟩,qO 27 (.pick (.t 24) (.c (.bool true)) (.t 26))] (jW 27 (sR [qO 4 (.mov (.c (.bool false)))] .ret))))) (.reg [qB 28 .add 10 (cI 1),qM 10 28]))))
abbrev qf7:IC:=(sR [qO 4 (.mov (.c (.bool false)))] (.seq (sR [qM 7 0,qO 8 (.s2b 5 (.t 7)),qN 9 8,jI 10 0] (.block 0 (.loop qcB))) (sR [qM 29 0,jC 30 110 [.t 29],qM 4 30] .ret)))
theorem qgf:chkF Tryz.prog Tryz.f129 qf7 [.t 4] 31=true:=by kernel_rfl
abbrev qiH:IC:=(sR [qO 2 (.mov (.c (.bool false)))] (sR [qM 3 0,jC 4 129 [.t 3,.c (.bool true)],qM 5 4,⟨some 6,.mov (.t 0),(some (5,true))⟩,⟨some 7,.bin .eql (.t 6) (.c (.str [])),(some (5,true))⟩,⟨some 8,.mov (.t 7),(some (5,true))⟩,⟨some 9,.mov (.t 0),(some (8,false))⟩,⟨some 10,.call 123 [.t 9,.c (.str [10])],(some (8,false))⟩,⟨some 11,.pick (.t 8) (.c (.bool true)) (.t 10),(some (5,true))⟩,qO 12 (.pick (.t 5) (.t 11) (.c (.bool false))),qM 2 12] .ret))
theorem qiZ:chkF Tryz.prog Tryz.f132 qiH [.t 2] 13=true:=by kernel_rfl
abbrev qgO:IC:=(sR [jI 2 0] (.seq (sR [qM 3 0,qO 4 (.sln (.t 3)),qB 5 .gtr 4 (cI 20000)] (jW 5 (sR [jI 2 2] .ret))) (.seq (sR [qM 6 0,jC 7 132 [.t 6],qO 8 (.not (.t 7))] (jW 8 (sR [jI 2 3] .ret))) (sR [jI 2 0] .ret))))
theorem qgY:chkF Tryz.prog Tryz.f60 qgO [.t 2] 9=true:=by kernel_rfl
def lowB (c:UInt8):UInt8:=if 65≤c.toNat∧c.toNat≤90 then c+32 else c
def lowF (s:List UInt8):List UInt8:=s.map lowB
theorem qme {p:UInt8→Prop} (h:∀ n:Fin 256,p (UInt8.ofNat n.val)) (c:UInt8):p c:=by
 have:=h ⟨c.toNat,c.toNat_lt⟩
 simpa using this
theorem qvT (c:UInt8) (h1:65≤c.toNat) (h2:c.toNat≤90):IntKind.u8.wrap ((c.toNat:Int)+32)=(((lowB c).toNat:Nat):Int):=by
 have h3:(c+32).toNat=c.toNat+32:=by
  rw [UInt8.toNat_add]
  have:(32:UInt8).toNat=32:=rfl
  omega
 rw [lowB,if_pos ⟨h1,h2⟩,h3]
 have:IntKind.u8.wrap ((c.toNat:Int)+32)=((c.toNat:Int)+32) % 256:=rfl
 rw [this]
 omega
theorem qrC (c:UInt8) (h:¬ (65≤c.toNat∧c.toNat≤90)):lowB c=c:=by rw [lowB,if_neg h]
def capL:List UInt8:=[65,66,67,68,69,70,71,72,73,74,75,76,77,78,79,80,81,82,83,84,85,86,87,88,89,90]
def smallL:List UInt8:=[97,98,99,100,101,102,103,104,105,106,107,108,109,110,111,112,113,114,115,116,117,118,119,120,121,122]
theorem qy2 (c:UInt8):Lib.indexByte capL c=if 65≤c.toNat∧c.toNat≤90 then (c.toNat:Int) - 65 else -1:=
 qme (p:=fun c=>Lib.indexByte capL c=if 65≤c.toNat∧c.toNat≤90 then (c.toNat:Int) - 65 else -1) (by decide +kernel) c
theorem quu (c:UInt8):65≤c.toNat∧c.toNat≤90→smallL.getD ((c.toNat:Int) - 65).toNat 0=lowB c:=
 qme (p:=fun c=>65≤c.toNat∧c.toNat≤90→smallL.getD ((c.toNat:Int) - 65).toNat 0=lowB c) (by decide +kernel) c
theorem qse (s:List UInt8) (f:UInt8→UInt8):(zz s.length).map (fun j=>f (s.getD j 0))=s.map f:=by
 apply List.ext_getElem?
 intro j
 by_cases hj:j < s.length
 ·simp [ye hj,zh hj,zy]
 ·rw [zY (by simpa using hj),zY (by simpa using hj)]
def lowG (s:List UInt8) (k:Nat) (j:Nat):UInt8:=if j < k then lowB (s.getD j 0) else s.getD j 0
theorem qtR (s:List UInt8) (k:Nat):(fun j=>if j=k then lowB (s.getD k 0) else lowG s k j)=lowG s (k+1):=by
 funext j
 unfold lowG
 by_cases h:j=k
 ·subst h;simp
 ·simp only [h,if_false]
  by_cases h2:j < k
  ·rw [if_pos h2,if_pos (by omega)]
  ·rw [if_neg h2,if_neg (by omega)]
theorem qn3 (s:List UInt8) (k:Nat):lowG s k k=s.getD k 0:=by simp [lowG]
theorem qrE (s:List UInt8):(zz s.length).map (lowG s s.length)=lowF s:=by
 rw [lowF,← qse]
 refine List.map_congr_left fun j hj=>?_
 simp only [List.mem_range] at hj
 simp [lowG,hj]
theorem qvU (s:List UInt8):(lowF s).length=s.length:=by simp [lowF]
section
variable {E:Envt}
theorem qem (s:List UInt8) (hs:s.length≤1000000000):PCall Tryz.prog E 206 [.str s] (·=.str (lowF s)):=by
 refine qag mixed Tryz.func206 qop ?_
 refine zV ?_
 refine ⟨by omega,?_⟩
 rw [qy9]
 simp only [ZZ,WW,Ze,reduceCtorEq,zd,ze,za,zf,zb,qp2]
 refine qae (fun n fr L=>∃ (k:Nat) (g:Nat→UInt8),k≤s.length∧n=s.length - k∧(g=lowG s k)∧fr=(oo::oo::oo::.row (.l 7)::oo::oo::oo::oo::.row (.l 7)::.p (int (s.length:Nat))::.p (int (k:Nat))::oE (oB []))∧L=[(.l 7,.row (bU s.length g) 5 1 false)]) (s.length) _ _ zF_ zF_ ⟨0,fun j=>s.getD j 0,by omega,by omega,by funext j;simp [lowG],rfl,rfl⟩ ?_
 rintro n fr L ⟨k,g,hk,rfl,hg,rfl,rfl⟩
 simp only [qgB,ZZ,WW,Ze,reduceCtorEq,zd,ze,za,zf,zb]
 refine br ?_ ?_
 ·intro h
  have hlt:k < s.length:=by have:=of_decide_eq_true h;omega
  have hgi:(bU s.length g).getD k []=[.int .u8 ((s.getD k 0).toNat:Nat)]:=by rw [quC hlt,hg,qn3]
  have hbl:=qp2 s.length g
  have hnx:=qtR s k
  generalize hcc:s.getD k 0=c at hgi hnx
  have hset:(bU s.length g).set k [.int .u8 ((lowB c).toNat:Nat)]=bU s.length (fun j=>if j=k then lowB c else g j):=quB (lowB c)
  simp only [ZZ,WW,Ze,reduceCtorEq,zd,ze,za,zf,zb,hgi,hbl]
  ((with_reducible and_intros)<;>try exact sc_)
  refine br ?_ ?_
  ·intro hc
   simp only [zj,decide_eq_true_eq] at hc
   have hw:=qvT c (by omega) (by omega)
   simp only [ZZ,WW,Ze,reduceCtorEq,zd,ze,za,zf,zb,hbl,hgi,hw,hset]
   ((with_reducible and_intros)<;>try exact sc_)
   refine qad zE_ ?_
   refine zS ?_
   ((with_reducible and_intros)<;>try exact sc_)
   refine qab (s.length - (k+1)) _ _ (by omega) zF_ zF_ ⟨k+1,fun j=>if j=k then lowB c else g j,by omega,rfl,by rw [hg];exact hnx,rfl,rfl⟩
  ·intro hc
   have hsame:lowB c=c:=qrC c (by
    intro h2
    simp only [Bool.and_eq_false_iff,decide_eq_false_iff_not] at hc
    omega)
   have hsg:(fun j=>if j=k then lowB c else lowG s k j)=g:=by
    funext j
    by_cases hj:j=k
    ·subst hj
     rw [if_pos rfl,hsame,hg,qn3,hcc]
    ·rw [if_neg hj,hg]
   refine zS ?_
   refine qad zE_ ?_
   refine zS ?_
   ((with_reducible and_intros)<;>try exact sc_)
   refine qab (s.length - (k+1)) _ _ (by omega) zF_ zF_ ⟨k+1,g,by omega,rfl,by rw [← hnx,hsg],rfl,rfl⟩
 ·intro h
  have hge:k=s.length:=by have:=of_decide_eq_false h;omega
  subst hge
  simp only [ZZ,WW,Ze,reduceCtorEq,zd,ze,za,zf,zb,qou]
  rw [hg,qrE]
theorem qlJ (s:List UInt8) (hs:s.length≤1000000000):PCall Tryz.prog E 138 [.str s] (·=.str (lowF s)):=by
 refine qag mixed Tryz.func138 qjI ?_
 refine zV ?_
 refine ⟨by omega,?_⟩
 rw [qy9]
 simp only [ZZ,WW,Ze,reduceCtorEq,zd,ze,za,zf,zb,qp2]
 refine qae (fun n fr L=>∃ (k:Nat) (g:Nat→UInt8),k≤s.length∧n=s.length - k∧(g=lowG s k)∧fr=(oo::oo::oo::.row (.l 8)::oC (oo::(.row (.l 8)::.p (int (s.length:Nat))::.p (int (k:Nat))::oE [])))∧L=[(.l 8,.row (bU s.length g) 5 1 false)]) (s.length) _ _ zF_ zF_ ⟨0,fun j=>s.getD j 0,by omega,by omega,by funext j;simp [lowG],rfl,rfl⟩ ?_
 rintro n fr L ⟨k,g,hk,rfl,hg,rfl,rfl⟩
 simp only [qdW,ZZ,WW,Ze,reduceCtorEq,zd,ze,za,zf,zb]
 refine br ?_ ?_
 ·intro h
  have hlt:k < s.length:=by have:=of_decide_eq_true h;omega
  have hgi:(bU s.length g).getD k []=[.int .u8 ((s.getD k 0).toNat:Nat)]:=by rw [quC hlt,hg,qn3]
  have hbl:=qp2 s.length g
  have hnx:=qtR s k
  generalize hcc:s.getD k 0=c at hgi hnx
  have hset:(bU s.length g).set k [.int .u8 ((lowB c).toNat:Nat)]=bU s.length (fun j=>if j=k then lowB c else g j):=quB (lowB c)
  simp only [ZZ,WW,Ze,reduceCtorEq,zd,ze,za,zf,zb,hgi,hbl]
  ((with_reducible and_intros)<;>try exact sc_)
  refine use1 (qhC capL c) rfl (.inl rfl) ?_
  rw [qy2]
  refine zS ?_
  refine br ?_ ?_
  ·intro hc
   have hc:65≤c.toNat∧c.toNat≤90:=by
    by_cases hq:65≤c.toNat∧c.toNat≤90
    ·exact hq
    ·rw [if_neg hq] at hc;simp at hc
   have hw:=quu c hc
   rw [if_pos hc]
   unfold smallL at hw
   simp only [ZZ,WW,Ze,reduceCtorEq,zd,ze,za,zf,zb,hw,hbl,hgi,hset]
   ((with_reducible and_intros)<;>try exact sc_)
   refine qad zE_ ?_
   refine zS ?_
   ((with_reducible and_intros)<;>try exact sc_)
   refine qab (s.length - (k+1)) _ _ (by omega) zF_ zF_ ⟨k+1,fun j=>if j=k then lowB c else g j,by omega,rfl,by rw [hg];exact hnx,rfl,rfl⟩
  ·intro hc
   have hc:¬ (65≤c.toNat∧c.toNat≤90):=by
    intro hq
    rw [if_pos hq] at hc
    have:=of_decide_eq_false hc
    omega
   have hsame:lowB c=c:=qrC c hc
   have hsg:(fun j=>if j=k then lowB c else lowG s k j)=g:=by
    funext j
    by_cases hj:j=k
    ·subst hj
     rw [if_pos rfl,hsame,hg,qn3,hcc]
    ·rw [if_neg hj,hg]
   refine zS ?_
   refine qad zE_ ?_
   refine zS ?_
   ((with_reducible and_intros)<;>try exact sc_)
   refine qab (s.length - (k+1)) _ _ (by omega) zF_ zF_ ⟨k+1,g,by omega,rfl,by rw [← hnx,hsg],rfl,rfl⟩
 ·intro h
  have hge:k=s.length:=by have:=of_decide_eq_false h;omega
  subst hge
  simp only [ZZ,WW,Ze,reduceCtorEq,zd,ze,za,zf,zb,qou]
  rw [hg,qrE]
end
theorem qi8 (s:List UInt8) (feeds:Bool) (hs:s.length≤1000000000):PCall Tryz.prog E0 129 [.str s,.bool feeds] (·=.bool (visE s feeds)):=by
 refine qag mixed Tryz.func129 qgf ?_
 refine zV ?_
 refine ⟨by omega,?_⟩
 have hln:(s.map fun q=>[PV.int .u8 (q.toNat:Nat)]).length=s.length:=by simp
 have hget:∀ k c,s[k]?=some c→(s.map fun q=>[PV.int .u8 (q.toNat:Nat)]).getD k []=[.int .u8 (c.toNat:Nat)]:=fun k c h=>qa5 h
 generalize (s.map fun q=>[PV.int .u8 (q.toNat:Nat)])=es at hln hget ⊢
 simp only [ZZ,WW,Ze,reduceCtorEq,zd,ze,za,zf,zb,hln]
 refine qae (fun n fr L=>∃ (k:Nat),k≤s.length∧n=s.length - k∧(((s.take k).all fun c=>!badB feeds c)=true)∧fr=(.p (.str s)::.p (.bool feeds)::oC (oB (.row (.l 8)::.p (int (s.length:Nat))::.p (int (k:Nat))::oE (oC []))))∧L=[(.l 8,.row es 5 1 false)]) (s.length) _ _ zF_ zF_ ⟨0,by omega,by omega,by simp,rfl,rfl⟩ ?_
 rintro n fr L ⟨k,hk,rfl,hall,rfl,rfl⟩
 simp only [qcB,ZZ,WW,Ze,reduceCtorEq,zd,ze,za,zf,zb]
 refine br ?_ ?_
 ·intro h
  have hlt:k < s.length:=by have:=of_decide_eq_true h;omega
  obtain ⟨c,hc⟩:∃ x,s[k]?=some x:=⟨_,zh hlt⟩
  have hg:=hget k c hc
  have hnx:=qoG (p:=fun c=>!badB feeds c) hc
  simp only [ZZ,WW,Ze,reduceCtorEq,zd,ze,za,zf,zb,hg,hln]
  ((with_reducible and_intros)<;>try exact sc_)
  refine br ?_ ?_
  ·intro hb
   have hb:badB feeds c=true:=hb
   refine zS ?_
   have:(s.all fun c=>!badB feeds c)=false:=by
    rw [List.all_eq_false]
    exact ⟨c,zl hc,by simp [hb]⟩
   simp [visE,this]
  ·intro hb
   have hb:badB feeds c=false:=hb
   refine zS ?_
   ((with_reducible and_intros)<;>try exact sc_)
   refine qab (s.length - (k+1)) _ _ (by omega) zF_ zF_ ⟨k+1,by omega,rfl,by rw [hnx,hall,hb];rfl,rfl,rfl⟩
 ·intro h
  have hge:s.length≤k:=by have:=of_decide_eq_false h;omega
  rw [zN hge] at hall
  refine zS ?_
  refine use1 (qlm s (by omega)) rfl (.inl rfl) ?_
  refine zS ?_
  simp [visE,hall]
theorem quL (s:List UInt8) (hs:s.length≤1000000000):PCall Tryz.prog E0 132 [.str s] (·=.bool (qkK s)):=by
 refine qag mixed Tryz.func132 qiZ ?_
 refine zV ?_
 refine use1 (qi8 s true hs) rfl (.inl rfl) ?_
 refine zS ?_
 ((with_reducible and_intros)<;>try exact sc_)
 refine useG (fun _=>qe2 s [10] (by omega)) rfl (.inl rfl) ?_
 refine zS ?_
 ((with_reducible and_intros)<;>try exact sc_)
def qel (s:List UInt8):Int:=if 20000 < s.length then 2 else if qkK s=true then 0 else 3
theorem qqj (s:List UInt8) (hs:s.length≤1000000000):PCall Tryz.prog E0 60 [.str s] (·=int (qel s)):=by
 refine qag mixed Tryz.func60 qgY ?_
 refine zV ?_
 refine br ?_ ?_
 ·intro h
  have h:=of_decide_eq_true h
  refine zS ?_
  rw [qel,if_pos (by omega)]
 ·intro h
  have h:=of_decide_eq_false h
  refine zS ?_
  refine use1 (quL s hs) rfl (.inl rfl) ?_
  refine zS ?_
  rw [qel,if_neg (by omega)]
  refine br ?_ ?_
  ·intro h2
   refine zS ?_
   rw [if_neg (by simpa using h2)]
  ·intro h2
   refine zS ?_
   rw [if_pos (by simpa using h2)]
end Go.Proofs.YtekhobchfhhofaaGreatDoor
