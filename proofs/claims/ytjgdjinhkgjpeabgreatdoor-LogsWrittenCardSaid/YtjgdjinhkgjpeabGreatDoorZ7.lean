import Derived.Test.YtjgdjinhkgjpeabGreatDoorZ6
import Derived.Test.YtjgdjinhkgjpeabGreatDoorRep
import Derived.Test.YtjgdjinhkgjpeabGreatDoorLayIndexByte
import Derived.Test.YtjgdjinhkgjpeabGreatDoorSpec
import Derived.Shelf.Strings.IndexAnyAll
import Derived.Shelf.Small.Utf8
import Derived.BigQuiet
import Derived.WalkMore
import Derived.Deep.QuietTactic
import Derived.Shelf.RegionOpenPlain
import Derived.Laws.Runes
import Derived.Laws.RangeString
import Derived.Lib.IndexBytes
import Derived.Laws.Strings3
import Derived.Test.YtjgdjinhkgjpeabGreatDoorLaySplit
import Derived.Lib.SplitLaws
import Derived.Test.YtjgdjinhkgjpeabGreatDoorLayTrim
import Derived.Test.YtjgdjinhkgjpeabGreatDoorLayCompare
import Derived.Test.YtjgdjinhkgjpeabGreatDoorLayCut
import Derived.Lib.IndexMore
import Derived.Lib.ValidLaws
set_option linter.unusedVariables false
set_option linter.unusedSimpArgs false
set_option linter.defProp false
namespace Go.Proofs.YtjgdjinhkgjpeabGreatDoor
open Nat renaming reduceAdd→zd,reduceEqDiff→zb,reduceLT→zf,reduceLeDiff→za,reduceMul→ze
open List renaming getD→zC,getElem?_eq_getElem→zk,getElem?_eq_none→zR,map_append→zF,mem_of_getElem?→zn,take_of_length_le→zJ
open Go.RowKit
theorem qc5 (s:List UInt8):(⟨s.toArray⟩:ByteArray).size=s.length:=by simp [ByteArray.size]
section
variable {E:Envt}
theorem qgk (s:List UInt8) (c:UInt8):PCall Tryz.prog E 186 [.str s,.int .u8 (c.toNat:Nat)] (·=int (Lib.indexByte s c)):=
 qbK rfl rfl fun w _=>(Any.strings_IndexByte Tryz.layIndexByte ⟨s.toArray⟩ (c.toNat:Nat) w).mono fun e w' h=>⟨by rw [h.1];simp [valX,valD],by rw [h.2];exact Grow.refl _ _⟩
theorem qgl (s p:List UInt8):PCall Tryz.prog E 63 [.str s,.str p] (·=.bool (Lib.hasPrefix s p)):=
 qbK rfl rfl fun w _=>(Any.strings_HasPrefix Tryz.layPrefix ⟨s.toArray⟩ ⟨p.toArray⟩ w).mono fun e w' h=>⟨h.1,by rw [h.2];exact Grow.refl _ _⟩
end
theorem quu (s t:List UInt8) (hs:s.length≤1000000000):PCall Tryz.prog E0 118 [.str s,.str t] (·=int (Lib.index s t)):=
 qbK rfl rfl fun w hE=>by
  obtain ⟨_,m,hm⟩:=hE
  exact (Any.strings_Index { Tryz.layIndex with } ⟨s.toArray⟩ ⟨t.toArray⟩ m w (by rw [qc5];omega) hm).mono fun e w' h=>⟨h.1,by rw [h.2];exact Grow.refl _ _⟩
def qdg:IC:=(sR [qT 12 .lss 11 10] (.seq (jE 12) (.seq (.block 1 (sR [qM 13 11,qX 14 1 9 11,qL 15 14,qM 4 13,qM 5 15] (sR [qM 16 5,jC 17 186 [.c (.str [65,66,67,68,69,70,71,72,73,74,75,76,77,78,79,80,81,82,83,84,85,86,87,88,89,90]),.t 16],qM 6 17] (sR [qM 18 6,qB 19 .geq 18 (cI 0)] (jW 19 (.reg [qM 20 3,qM 21 4,qM 22 6,qO 23 (.idx (.c (.str [97,98,99,100,101,102,103,104,105,106,107,108,109,110,111,112,113,114,115,116,117,118,119,120,121,122])) (.t 22)),qX 24 1 20 21,qS 1 24 23])))))) (.cut (.reg [qB 25 .add 11 (cI 1),qM 11 25])))))
abbrev qhT:IC:=(sR [qO 2 (.mov (.c (.str [])))] (sR [qM 7 0,qO 8 (.s2b 5 (.t 7)),qM 3 8] (.seq (sR [qM 9 3,qN 10 9,jI 11 0] (.block 0 (.loop qdg))) (sR [qM 26 3,qO 27 (.b2s (.t 26)),qM 2 27] .ret))))
theorem qh5:chkF Tryz.prog Tryz.f151 qhT [.t 2] 28=true:=by kernel_rfl
def qbO:IC:=(sR [qT 11 .lss 10 9] (.seq (jE 11) (.seq (.block 1 (sR [qX 12 1 8 10,qL 13 12,qM 6 13] (sR [qM 14 6,qB 15 .lss 14 (.c (.int .u8 32)),qM 16 15,⟨some 17,.mov (.t 1),(some (16,true))⟩,⟨some 18,.mov (.t 17),(some (16,true))⟩,⟨some 19,.mov (.t 6),(some (18,true))⟩,⟨some 20,.bin .eql (.t 19) (.c (.int .u8 10)),(some (18,true))⟩,⟨some 21,.pick (.t 18) (.t 20) (.c (.bool false)),(some (16,true))⟩,⟨some 22,.not (.t 21),(some (16,true))⟩,qO 23 (.pick (.t 16) (.t 22) (.c (.bool false))),qM 24 23,⟨some 25,.mov (.t 6),(some (24,false))⟩,⟨some 26,.bin .eql (.t 25) (.c (.int .u8 127)),(some (24,false))⟩,qO 27 (.pick (.t 24) (.c (.bool true)) (.t 26))] (jW 27 (sR [qO 4 (.mov (.c (.bool false)))] .ret))))) (.reg [qB 28 .add 10 (cI 1),qM 10 28]))))
abbrev qeQ:IC:=(sR [qO 4 (.mov (.c (.bool false)))] (.seq (sR [qM 7 0,qO 8 (.s2b 5 (.t 7)),qN 9 8,jI 10 0] (.block 0 (.loop qbO))) (sR [qM 29 0,jC 30 110 [.t 29],qM 4 30] .ret)))
theorem qeX:chkF Tryz.prog Tryz.f68 qeQ [.t 4] 31=true:=by kernel_rfl
def lowB (c:UInt8):UInt8:=if 65≤c.toNat∧c.toNat≤90 then c+32 else c
def lowF (s:List UInt8):List UInt8:=s.map lowB
theorem qkU {p:UInt8→Prop} (h:∀ n:Fin 256,p (UInt8.ofNat n.val)) (c:UInt8):p c:=by
 have:=h ⟨c.toNat,c.toNat_lt⟩
 simpa using this
theorem qtv (c:UInt8) (h:¬ (65≤c.toNat∧c.toNat≤90)):lowB c=c:=by rw [lowB,if_neg h]
def capL:List UInt8:=[65,66,67,68,69,70,71,72,73,74,75,76,77,78,79,80,81,82,83,84,85,86,87,88,89,90]
def smallL:List UInt8:=[97,98,99,100,101,102,103,104,105,106,107,108,109,110,111,112,113,114,115,116,117,118,119,120,121,122]
theorem qwK (c:UInt8):Lib.indexByte capL c=if 65≤c.toNat∧c.toNat≤90 then (c.toNat:Int) - 65 else -1:=
 qkU (p:=fun c=>Lib.indexByte capL c=if 65≤c.toNat∧c.toNat≤90 then (c.toNat:Int) - 65 else -1) (by decide +kernel) c
theorem qr8 (c:UInt8):65≤c.toNat∧c.toNat≤90→smallL.getD ((c.toNat:Int) - 65).toNat 0=lowB c:=
 qkU (p:=fun c=>65≤c.toNat∧c.toNat≤90→smallL.getD ((c.toNat:Int) - 65).toNat 0=lowB c) (by decide +kernel) c
theorem qp1 (s:List UInt8) (f:UInt8→UInt8):(List.range s.length).map (fun j=>f (s.getD j 0))=s.map f:=by
 apply List.ext_getElem?
 intro j
 by_cases hj:j < s.length
 ·simp [List.getElem?_range hj,zk hj,zC]
 ·rw [zR (by simpa using hj),zR (by simpa using hj)]
def lowG (s:List UInt8) (k:Nat) (j:Nat):UInt8:=if j < k then lowB (s.getD j 0) else s.getD j 0
theorem qv8 (s:List UInt8) (k:Nat):(fun j=>if j=k then lowB (s.getD k 0) else lowG s k j)=lowG s (k+1):=by
 funext j
 unfold lowG
 by_cases h:j=k
 ·subst h;simp
 ·simp only [h,if_false]
  by_cases h2:j < k
  ·rw [if_pos h2,if_pos (by omega)]
  ·rw [if_neg h2,if_neg (by omega)]
theorem qry (s:List UInt8) (k:Nat):lowG s k k=s.getD k 0:=by simp [lowG]
theorem qtw (s:List UInt8):(List.range s.length).map (lowG s s.length)=lowF s:=by
 rw [lowF,← qp1]
 refine List.map_congr_left fun j hj=>?_
 simp only [List.mem_range] at hj
 simp [lowG,hj]
theorem qtx (s:List UInt8):(lowF s).length=s.length:=by simp [lowF]
section
variable {E:Envt}
set_option maxHeartbeats 2000000 in
theorem qjJ (s:List UInt8) (hs:s.length≤1000000000):PCall Tryz.prog E 151 [.str s] (·=.str (lowF s)):=by
 refine qah mixed Tryz.func151 qh5 ?_
 refine zV ?_
 refine ⟨by omega,?_⟩
 rw [qyc]
 simp only [ZZ,WW,Ze,reduceCtorEq,zd,ze,za,zf,zb,qsg]
 refine qad (fun n fr L=>∃ (k:Nat) (g:Nat→UInt8),k≤s.length∧n=s.length - k∧(g=lowG s k)∧fr=(oo::oo::oo::.row (.l 8)::oC (oo::(.row (.l 8)::.p (int (s.length:Nat))::.p (int (k:Nat))::oE [])))∧L=[(.l 8,.row (bU s.length g) 5 1 false)]) (s.length) (oo::oo::oo::.row (.l 8)::oC (oo::(.row (.l 8)::.p (int (s.length:Nat))::.p (int (0:Nat))::oE []))) [(.l 8,.row (bU s.length (fun j=>s.getD j 0)) 5 1 false)] zF_ zF_ ⟨0,fun j=>s.getD j 0,by omega,by omega,by funext j;simp [lowG],rfl,rfl⟩ ?_
 rintro n fr L ⟨k,g,hk,rfl,hg,rfl,rfl⟩
 simp only [qdg,ZZ,WW,Ze,reduceCtorEq,zd,ze,za,zf,zb]
 refine br ?_ ?_
 ·intro h
  have hlt:k < s.length:=by have:=of_decide_eq_true h;omega
  have hgi:(bU s.length g).getD k []=[.int .u8 ((s.getD k 0).toNat:Nat)]:=by rw [quR hlt,hg,qry]
  have hbl:=qsg s.length g
  have hnx:=qv8 s k
  generalize hcc:s.getD k 0=c at hgi hnx
  have hset:(bU s.length g).set k [.int .u8 ((lowB c).toNat:Nat)]=bU s.length (fun j=>if j=k then lowB c else g j):=quQ (lowB c)
  simp only [ZZ,WW,Ze,reduceCtorEq,zd,ze,za,zf,zb,hgi,hbl]
  ((with_reducible and_intros)<;>try exact sc_)
  refine use1 (qgk capL c) rfl (.inl rfl) ?_
  rw [qwK]
  refine zS ?_
  refine br ?_ ?_
  ·intro hc
   have hc:65≤c.toNat∧c.toNat≤90:=by
    by_cases hq:65≤c.toNat∧c.toNat≤90
    ·exact hq
    ·rw [if_neg hq] at hc;simp at hc
   have hw:=qr8 c hc
   rw [if_pos hc]
   unfold smallL at hw
   simp only [ZZ,WW,Ze,reduceCtorEq,zd,ze,za,zf,zb,hw,hbl,hgi,hset]
   ((with_reducible and_intros)<;>try exact sc_)
   refine qae zE_ ?_
   refine zS ?_
   ((with_reducible and_intros)<;>try exact sc_)
   refine qab (s.length - (k+1)) (oo::oo::oo::.row (.l 8)::oC (oo::(.row (.l 8)::.p (int (s.length:Nat))::.p (int ((k+1):Nat))::oE []))) [(.l 8,.row (bU s.length (fun j=>if j=k then lowB c else g j)) 5 1 false)] (by omega) zF_ zF_ ⟨k+1,fun j=>if j=k then lowB c else g j,by omega,rfl,by rw [hg];exact hnx,rfl,rfl⟩
  ·intro hc
   have hc:¬ (65≤c.toNat∧c.toNat≤90):=by
    intro hq
    rw [if_pos hq] at hc
    have:=of_decide_eq_false hc
    omega
   have hsame:lowB c=c:=qtv c hc
   have hsg:(fun j=>if j=k then lowB c else lowG s k j)=g:=by
    funext j
    by_cases hj:j=k
    ·subst hj
     rw [if_pos rfl,hsame,hg,qry,hcc]
    ·rw [if_neg hj,hg]
   refine zS ?_
   refine qae zE_ ?_
   refine zS ?_
   ((with_reducible and_intros)<;>try exact sc_)
   refine qab (s.length - (k+1)) (oo::oo::oo::.row (.l 8)::oC (oo::(.row (.l 8)::.p (int (s.length:Nat))::.p (int ((k+1):Nat))::oE []))) [(.l 8,.row (bU s.length g) 5 1 false)] (by omega) zF_ zF_ ⟨k+1,g,by omega,rfl,by rw [← hnx,hsg],rfl,rfl⟩
 ·intro h
  have hge:k=s.length:=by have:=of_decide_eq_false h;omega
  subst hge
  simp only [ZZ,WW,Ze,reduceCtorEq,zd,ze,za,zf,zb,qpF]
  rw [hg,qtw]
end
set_option maxHeartbeats 2000000 in
theorem qk1 (s:List UInt8) (feeds:Bool) (hs:s.length≤1000000000):PCall Tryz.prog E0 68 [.str s,.bool feeds] (·=.bool (visE s feeds)):=by
 refine qah mixed Tryz.func68 qeX ?_
 refine zV ?_
 refine ⟨by omega,?_⟩
 have hln:(s.map fun q=>[PV.int .u8 (q.toNat:Nat)]).length=s.length:=by simp
 have hget:∀ k c,s[k]?=some c→(s.map fun q=>[PV.int .u8 (q.toNat:Nat)]).getD k []=[.int .u8 (c.toNat:Nat)]:=fun k c h=>qaR h
 generalize (s.map fun q=>[PV.int .u8 (q.toNat:Nat)])=es at hln hget ⊢
 simp only [ZZ,WW,Ze,reduceCtorEq,zd,ze,za,zf,zb,hln]
 refine qad (fun n fr L=>∃ (k:Nat),k≤s.length∧n=s.length - k∧(((s.take k).all fun c=>!badB feeds c)=true)∧fr=(.p (.str s)::.p (.bool feeds)::oC (oB (.row (.l 8)::.p (int (s.length:Nat))::.p (int (k:Nat))::oE (oC []))))∧L=[(.l 8,.row es 5 1 false)]) (s.length) (.p (.str s)::.p (.bool feeds)::oC (oB (.row (.l 8)::.p (int (s.length:Nat))::.p (int (0:Nat))::oE (oC [])))) [(.l 8,.row es 5 1 false)] zF_ zF_ ⟨0,by omega,by omega,by simp,rfl,rfl⟩ ?_
 rintro n fr L ⟨k,hk,rfl,hall,rfl,rfl⟩
 simp only [qbO,ZZ,WW,Ze,reduceCtorEq,zd,ze,za,zf,zb]
 refine br ?_ ?_
 ·intro h
  have hlt:k < s.length:=by have:=of_decide_eq_true h;omega
  obtain ⟨c,hc⟩:∃ x,s[k]?=some x:=⟨_,zk hlt⟩
  have hg:=hget k c hc
  have hnx:=qmd (p:=fun c=>!badB feeds c) hc
  simp only [ZZ,WW,Ze,reduceCtorEq,zd,ze,za,zf,zb,hg,hln]
  ((with_reducible and_intros)<;>try exact sc_)
  refine br ?_ ?_
  ·intro hb
   have hb:badB feeds c=true:=hb
   refine zS ?_
   have:(s.all fun c=>!badB feeds c)=false:=by
    rw [List.all_eq_false]
    exact ⟨c,zn hc,by simp [hb]⟩
   simp [visE,this]
  ·intro hb
   have hb:badB feeds c=false:=hb
   refine zS ?_
   ((with_reducible and_intros)<;>try exact sc_)
   refine qab (s.length - (k+1)) (.p (.str s)::.p (.bool feeds)::oC (oB (.row (.l 8)::.p (int (s.length:Nat))::.p (int ((k+1):Nat))::oE (oC [])))) [(.l 8,.row es 5 1 false)] (by omega) zF_ zF_ ⟨k+1,by omega,rfl,by rw [hnx,hall,hb];rfl,rfl,rfl⟩
 ·intro h
  have hge:s.length≤k:=by have:=of_decide_eq_false h;omega
  rw [zJ hge] at hall
  refine zS ?_
  refine use1 (qpN s (by omega)) rfl (.inl rfl) ?_
  refine zS ?_
  simp [visE,hall]
abbrev qlK:IC:=(sR [qO 2 (.mov (.c (.bool false)))] (sR [qM 3 0,qB 4 .geq 3 (.c (.int .u8 48)),qM 5 4,⟨some 6,.mov (.t 0),(some (5,true))⟩,⟨some 7,.bin .leq (.t 6) (.c (.int .u8 57)),(some (5,true))⟩,qO 8 (.pick (.t 5) (.t 7) (.c (.bool false))),qM 2 8] .ret))
theorem qlY:chkF Tryz.prog Tryz.f126 qlK [.t 2] 9=true:=by kernel_rfl
abbrev qfT:IC:=(sR [qO 2 (.mov (.c (.bool false)))] (sR [qM 3 0,qB 4 .geq 3 (.c (.int .u8 128)),qM 5 4,⟨some 6,.mov (.t 0),(some (5,false))⟩,⟨some 7,.call 186 [.c (.str [97,98,99,100,101,102,103,104,105,106,107,108,109,110,111,112,113,114,115,116,117,118,119,120,121,122,65,66,67,68,69,70,71,72,73,74,75,76,77,78,79,80,81,82,83,84,85,86,87,88,89,90,48,49,50,51,52,53,54,55,56,57]),.t 6],(some (5,false))⟩,⟨some 8,.bin .geq (.t 7) (cI 0),(some (5,false))⟩,qO 9 (.pick (.t 5) (.c (.bool true)) (.t 8)),qM 2 9] .ret))
theorem qf7:chkF Tryz.prog Tryz.f215 qfT [.t 2] 10=true:=by kernel_rfl
def qb3:IC:=(.seq (sR [qM 18 5,qM 19 0,qO 20 (.sln (.t 19)),qT 21 .lss 18 20,qM 22 21,⟨some 23,.mov (.t 0),(some (22,true))⟩,⟨some 24,.mov (.t 5),(some (22,true))⟩,⟨some 25,.idx (.t 23) (.t 24),(some (22,true))⟩,⟨some 26,.call 215 [.t 25],(some (22,true))⟩,qO 27 (.pick (.t 22) (.t 26) (.c (.bool false)))] (.cond (.t 27) .skip (.exit 2))) (.block 3 (.reg [qM 28 5,qB 29 .add 28 (cI 1),qM 5 29])))
def qb4:IC:=(.seq (sR [qM 6 4,qM 7 0,qO 8 (.sln (.t 7)),qT 9 .lss 6 8] (jE 9)) (.seq (.block 1 (.seq (sR [qM 12 0,qM 13 4,qO 14 (.idx (.t 12) (.t 13)),jC 15 215 [.t 14],qO 16 (.not (.t 15))] (jW 16 (.exit 1))) (sR [qM 17 4,qM 5 17] (.seq (.block 2 (.loop qb3)) (sR [qM 30 3,qM 31 4,qM 32 5,qO 33 (.bld [.int .i64 0,.int .i64 0] [(0,1,.t 31),(1,1,.t 32)]),qO 34 (.bsl 2 [.t 33]),qO 35 (.app 92 2 16 (.t 30) (.t 34)),qM 3 35] (.reg [qM 36 5,qM 4 36])))))) (.cut (.reg [qM 10 4,qB 11 .add 10 (cI 1),qM 4 11]))))
abbrev qfl:IC:=(sR [qO 2 (.mov (.c (.nl 2)))] (sR [qO 3 (.nilr 92 2)] (.seq (sR [jI 4 0] (.block 0 (.loop qb4))) (sR [qM 37 3,qM 2 37] .ret))))
theorem qfs:chkF Tryz.prog Tryz.f189 qfl [.t 2] 38=true:=by kernel_rfl
def qcI:IC:=(sR [qT 10 .lss 9 8] (.seq (jE 10) (.seq (.block 1 (sR [qX 11 2 7 9,qO 12 (.ld 2 true (.t 11)),qO 5 (.alc 92 [.int .i64 0,.int .i64 0]),qS 2 5 12] (.reg [qM 13 3,qM 14 0,wF 15 0 5,qL 16 15,wF 17 1 5,qL 18 17,qO 19 (.ssl (.t 14) (some (.t 16)) (some (.t 18))),jC 20 151 [.t 19],qO 21 (.bsl 1 [.t 20]),qO 22 (.app 9 1 16 (.t 13) (.t 21)),qM 3 22]))) (.reg [qB 23 .add 9 (cI 1),qM 9 23]))))
abbrev qgM:IC:=(sR [qO 2 (.mov (.c (.nl 1)))] (sR [qO 3 (.nilr 9 1)] (.seq (sR [qM 6 0,jC 7 189 [.t 6],qN 8 7,jI 9 0] (.block 0 (.loop qcI))) (sR [qM 24 3,qM 2 24] .ret))))
theorem qgZ:chkF Tryz.prog Tryz.f153 qgM [.t 2] 25=true:=by kernel_rfl
abbrev tStr:Nat:=9
def digB (c:UInt8):Bool:=decide (48≤(c.toNat:Int)) && decide ((c.toNat:Int)≤57)
def letB (c:UInt8):Bool:=((decide (97≤(c.toNat:Int)) && decide ((c.toNat:Int)≤122) || decide (65≤(c.toNat:Int)) && decide ((c.toNat:Int)≤90)) || digB c) || decide (128≤(c.toNat:Int))
def qw3:List UInt8:=smallL++capL++[48,49,50,51,52,53,54,55,56,57]
theorem qfN (c:UInt8):letB c=Sp.isLet c:=qkU (p:=fun c=>letB c=Sp.isLet c) (by decide +kernel) c
theorem qrC (c:UInt8):(decide (128≤(c.toNat:Int)) || decide (0≤Lib.indexByte qw3 c))=letB c:=qkU (p:=fun c=>(decide (128≤(c.toNat:Int)) || decide (0≤Lib.indexByte qw3 c))=letB c) (by decide +kernel) c
section
variable {E:Envt}
theorem qpR (c:UInt8):PCall Tryz.prog E 126 [.int .u8 (c.toNat:Nat)] (·=.bool (digB c)):=by
 refine qah mixed Tryz.func126 qlY ?_
 refine zV ?_
 ((with_reducible and_intros)<;>try exact sc_)
theorem qjq (c:UInt8):PCall Tryz.prog E 215 [.int .u8 (c.toNat:Nat)] (·=.bool (letB c)):=by
 refine qah mixed Tryz.func215 qf7 ?_
 refine zV ?_
 ((with_reducible and_intros)<;>try exact sc_)
 refine useG (fun _=>qgk qw3 c) rfl (.inl rfl) ?_
 refine zS ?_
 ((with_reducible and_intros)<;>try exact sc_)
 rw [qrC]
def quV (t:List UInt8) (p:Nat×Nat):List UInt8:=lowF (Sp.part t p)
def qdU (t:List UInt8):List (List UInt8):=(Sp.spans t).map (quV t)
def strE (l:List (List UInt8)):List (List PV):=l.map fun x=>[PV.str x]
theorem qac (l:List (List UInt8)):(strE l).length=l.length:=by simp [strE]
theorem qdV (l m:List (List UInt8)):strE (l++m)=strE l++strE m:=by simp [strE]
theorem qbU (l:List (List UInt8)):strs l=.sl 1 (strE l):=rfl
theorem qaU {l:List (List UInt8)} {k:Nat} {x:List UInt8} (h:l[k]?=some x):(strE l).getD k []=[.str x]:=qaR h
theorem qeK (x:List UInt8):[[PV.str x]]=strE [x]:=rfl
def sp2 (p:Nat×Nat):Int×Int:=(((p.1:Nat):Int),((p.2:Nat):Int))
def qiF (t:List UInt8):List (Int×Int):=(Sp.spans t).map sp2
set_option maxHeartbeats 2000000 in
theorem qmv (t:List UInt8) (ht:t.length≤1000000000):PCall Tryz.prog E 189 [.str t] (·=sps (qiF t)):=by
 refine qah mixed Tryz.func189 qfs ?_
 refine zV ?_
 refine qad (fun n fr L=>∃ (i:Nat) (l:List (Int×Int)),t.length+1 - i=n∧(i≤t.length+1)∧(l.length≤i)∧(l++(Sp.wsp i none (t.drop i)).map sp2=qiF t)∧fr=(.p (.str t)::oo::oo::.row (.l 3)::.p (int (i:Nat))::oF (oo::[]))∧L=[(.l 3,.row (l.map spn) qbJ 2 true)]) (t.length+1 - 0) (.p (.str t)::oo::oo::.row (.l 3)::.p (int (0:Nat))::oF (oo::[])) [(.l 3,.row ([].map spn) qbJ 2 true)] zF_ zF_ ⟨0,[],rfl,by omega,by simp,rfl,rfl,rfl⟩ ?_
 rintro n fr L ⟨i,l,rfl,hi1,hll,hl,rfl,rfl⟩
 simp only [qb4,ZZ,WW,Ze,reduceCtorEq,zd,ze,za,zf,zb]
 refine br ?_ ?_
 ·intro h
  have hlt:i < t.length:=by have:=of_decide_eq_true h;omega
  have hgi:t.getD i 0=t[i]:=by simp [zC,hlt]
  refine zS ?_
  ((with_reducible and_intros)<;>try exact sc_)
  refine use1 (qjq (t.getD i 0)) rfl (.inl rfl) ?_
  rw [hgi]
  refine zS ?_
  refine br ?_ ?_
  ·intro hb
   have hb:Sp.isLet t[i]=false:=by rw [← qfN];simpa using hb
   have hnx:=Sp.wsp_non t i hlt _ rfl hb
   refine zS ?_
   refine qae zE_ ?_
   refine zS ?_
   ((with_reducible and_intros)<;>try exact sc_)
   refine qab (t.length+1 - (i+1)) (.p (.str t)::oo::oo::.row (.l 3)::.p (int ((i+1):Nat))::oF (oo::[])) [(.l 3,.row (l.map spn) qbJ 2 true)] (by omega) zF_ zF_ ⟨i+1,l,rfl,by omega,by omega,by rw [← hl,hnx],rfl,rfl⟩
  ·intro hb
   have hb:Sp.isLet t[i]=true:=by rw [← qfN];simpa using hb
   have hnx:=Sp.wsp_let t i none hlt _ rfl hb
   refine zS ?_
   refine qad (fun n fr L=>∃ (k:Nat),t.length - k=n∧(i≤k∧k≤t.length)∧(i < k→Sp.wsp i none (t.drop i)=Sp.wsp k (some i) (t.drop k))∧fr=(.p (.str t)::oo::oo::.row (.l 3)::.p (int (i:Nat))::.p (int (k:Nat))::oF [])∧L=[(.l 3,.row (l.map spn) qbJ 2 true)]) (t.length - i) (.p (.str t)::oo::oo::.row (.l 3)::.p (int (i:Nat))::.p (int (i:Nat))::oF []) [(.l 3,.row (l.map spn) qbJ 2 true)] zF_ zF_ ⟨i,rfl,by omega,by omega,rfl,rfl⟩ ?_
   rintro n fr L ⟨k,rfl,hk1,hk2,rfl,rfl⟩
   simp only [qb3,ZZ,WW,Ze,reduceCtorEq,zd,ze,za,zf,zb]
   ((with_reducible and_intros)<;>try exact sc_)
   refine useG (fun _=>qjq (t.getD k 0)) rfl (.inl rfl) ?_
   refine zS ?_
   ((with_reducible and_intros)<;>try exact sc_)
   refine br ?_ ?_
   ·intro hc
    simp only [Bool.and_eq_true,decide_eq_true_eq] at hc
    have hkl:k < t.length:=by omega
    have hlk:Sp.isLet t[k]=true:=by
     rw [← qfN,← hc.2]
     simp [zC,hkl]
    have hnx3:Sp.wsp i none (t.drop i)=Sp.wsp (k+1) (some i) (t.drop (k+1)):=by
     rcases Nat.lt_or_ge i k with h'|h'
     ·rw [hk2 h',Sp.wsp_let t k (some i) hkl _ rfl hlk]
      rfl
     ·have e:k=i:=by omega
      subst e
      exact hnx
    refine zS ?_
    ((with_reducible and_intros)<;>try exact sc_)
    refine qab (t.length - (k+1)) (.p (.str t)::oo::oo::.row (.l 3)::.p (int (i:Nat))::.p (int ((k+1):Nat))::oF []) [(.l 3,.row (l.map spn) qbJ 2 true)] (by omega) zF_ zF_ ⟨k+1,rfl,by omega,fun _=>hnx3,rfl,rfl⟩
   ·intro hc
    have hik:i < k:=by
     rcases Nat.lt_or_ge i k with h'|h'
     ·exact h'
     ·have e:k=i:=by omega
      subst e
      rw [show decide ((k:Int) < t.length)=true from by simp [hlt],Bool.true_and,hgi,qfN,hb] at hc
      cases hc
    have hnx2:Sp.wsp k (some i) (t.drop k)=(i,k) :: Sp.wsp (k+1) none (t.drop (k+1)):=by
     by_cases hh:k < t.length
     ·refine Sp.wsp_end t k i hh _ rfl ?_
      rw [show decide ((k:Int) < t.length)=true from by simp [hh],Bool.true_and,qfN] at hc
      rw [← hc]
      simp [zC,hh]
     ·exact Sp.wsp_fin t k i (by omega)
    refine zS ?_
    simp only [List.length_map]
    ((with_reducible and_intros)<;>try exact sc_)
    refine qae zE_ ?_
    refine zS ?_
    ((with_reducible and_intros)<;>try exact sc_)
    refine qab (t.length+1 - (k+1)) (.p (.str t)::oo::oo::.row (.l 3)::.p (int ((k+1):Nat))::oF (oo::[])) [(.l 3,.row ((l++[(((i:Nat):Int),((k:Nat):Int))]).map spn) qbJ 2 true)] (by omega) zF_ (by rw [zF];simp only [spn,ZZ,WW,Ze,reduceCtorEq,zd,ze,za,zf,zb]) ⟨k+1,l++[(((i:Nat):Int),((k:Nat):Int))],rfl,by omega,by rw [List.length_append];simp;omega,by rw [← hl,hk2 hik,hnx2];simp [sp2],rfl,rfl⟩
 ·intro h
  have hgt:t.length≤i:=by have:=of_decide_eq_false h;omega
  rw [Sp.wsp_out t i hgt] at hl
  simp only [List.map_nil,List.append_nil] at hl
  refine zS ?_
  rw [hl]
  rfl
end
theorem qsL (t:Sp.Bs):∀ (i:Nat) (f:Option Nat),(∀ a,f=some a→a≤i)→∀ p∈Sp.wsp i f t,p.1≤p.2∧p.2≤i+t.length:=by
 induction t with
 |nil=>
  intro i f hf p hp
  cases f with
  |none=>simp [Sp.wsp] at hp
  |some a=>simp [Sp.wsp] at hp;subst hp;have:=hf a rfl;simp;omega
 |cons c r ih=>
  intro i f hf p hp
  unfold Sp.wsp at hp
  split at hp
  ·have:=ih (i+1) _ (by rintro a ⟨⟩;cases f with|none=>simp|some b=>have:=hf b rfl;simp;omega) p hp
   simp;omega
  ·cases f with
   |none=>have:=ih (i+1) none (by simp) p hp;simp;omega
   |some a=>
    simp at hp
    rcases hp with rfl|hp
    ·have:=hf a rfl;simp;omega
    ·have:=ih (i+1) none (by simp) p hp;simp;omega
theorem qsM (t:Sp.Bs) (p:Nat×Nat) (hp:p∈Sp.spans t):p.1≤p.2∧p.2≤t.length:=by
 have:=qsL t 0 none (by simp) p hp
 omega
section
variable {E:Envt}
set_option maxHeartbeats 2000000 in
theorem qqo (t:List UInt8) (ht:t.length≤1000000000):PCall Tryz.prog E 153 [.str t] (·=strs (qdU t)):=by
 refine qah mixed Tryz.func153 qgZ ?_
 refine zV ?_
 refine use1 (qmv t ht) rfl (.inl rfl) ?_
 simp only [ZZ,WW,Ze,reduceCtorEq,zd,ze,za,zf,zb,sps]
 have hsl:=Sp.spans_len t
 have hln:((qiF t).map spn).length=(Sp.spans t).length:=by simp [qiF]
 have hget:∀ k p,(Sp.spans t)[k]?=some p→((qiF t).map spn).getD k []=[int (p.1:Nat),int (p.2:Nat)]:=fun k p hp=>by
  rw [show (qiF t).map spn=(Sp.spans t).map (fun p=>[int (p.1:Nat),int (p.2:Nat)]) from by simp [qiF,sp2,spn]]
  exact qaR hp
 generalize (qiF t).map spn=es at hln hget ⊢
 refine qad (fun n fr L=>∃ (k:Nat) (l:List (List UInt8)),k≤(Sp.spans t).length∧n=(Sp.spans t).length - k∧(l=((Sp.spans t).take k).map (quV t))∧fr=(.p (.str t)::oo::oo::.row (.l 3)::oo::oo::oo::.p (.sl 2 es)::.p (int ((Sp.spans t).length:Nat))::.p (int (k:Nat))::oD (oC (oB (oo::[]))))∧L=[(.l 3,.row (strE l) tStr 1 true)]) ((Sp.spans t).length) (.p (.str t)::oo::oo::.row (.l 3)::oo::oo::oo::.p (.sl 2 es)::.p (int ((Sp.spans t).length:Nat))::.p (int (0:Nat))::oD (oC (oB (oo::[])))) [(.l 3,.row (strE []) tStr 1 true)] (by simp only [hln,ZZ,WW,Ze,reduceCtorEq,zd,ze,za,zf,zb];try trivial) zF_ ⟨0,[],by omega,by omega,by simp,rfl,rfl⟩ ?_
 rintro n fr L ⟨k,l,hk,rfl,hl,rfl,rfl⟩
 simp only [qcI,ZZ,WW,Ze,reduceCtorEq,zd,ze,za,zf,zb]
 refine br ?_ ?_
 ·intro h
  have hlt:k < (Sp.spans t).length:=by have:=of_decide_eq_true h;omega
  obtain ⟨p,hp⟩:∃ x,(Sp.spans t)[k]?=some x:=⟨_,zk hlt⟩
  have hg:=hget k p hp
  obtain ⟨hp1,hp2⟩:=qsM t p (zn hp)
  have hlk:l.length=k:=by rw [hl];simp;omega
  simp only [ZZ,WW,Ze,reduceCtorEq,zd,ze,za,zf,zb,hg,hln]
  ((with_reducible and_intros)<;>try exact sc_)
  refine use1 (qjJ (Sp.part t (p.1,p.2)) (by have:=Sp.part_len t p.1 p.2;omega)) rfl (.inl rfl) ?_
  refine zS ?_
  simp only [qac,qeK,← qdV]
  ((with_reducible and_intros)<;>try exact sc_)
  refine qab ((Sp.spans t).length - (k+1)) (.p (.str t)::oo::oo::.row (.l 3)::oo::oo::oo::.p (.sl 2 es)::.p (int ((Sp.spans t).length:Nat))::.p (int ((k+1):Nat))::oD (oC (oB (oo::[])))) [(.l 3,.row (strE (l++[lowF (Sp.part t (p.1,p.2))])) tStr 1 true)] (by omega) zF_ zF_ ⟨k+1,l++[lowF (Sp.part t (p.1,p.2))],by omega,rfl,by rw [hl,List.take_succ_eq_append_getElem hlt,(List.getElem?_eq_some_iff.1 hp).2,zF];rfl,rfl,rfl⟩
 ·intro h
  have hge:(Sp.spans t).length≤k:=by have:=of_decide_eq_false h;omega
  rw [zJ hge] at hl
  refine zS ?_
  rw [qbU,hl]
  rfl
end
end Go.Proofs.YtjgdjinhkgjpeabGreatDoor
namespace Go.Proofs.YtjgdjinhkgjpeabGreatDoor
open Go.Lib Go.RowKit Go.Shelf
theorem qi3 {l:List UInt8} {c:UInt8} (h:∀ b∈l,b≠c):Lib.indexByte l c=-1:=by
 have h1:=Lib.contains_iff_indexByte l c
 have h2:l.contains c=false:=by
  rw [Bool.eq_false_iff]
  intro h3
  exact h c (by simpa using h3) rfl
 rw [h2] at h1
 have h3:¬ (0:Int)≤Lib.indexByte l c:=of_decide_eq_false h1.symm
 have h4:-1≤Lib.indexByte l c:=by rw [← Lib.indexAny_one];exact Lib.indexAny_ge _ _
 omega
def Asc (s:ByteArray):Prop:=∀ (j:Nat) (b:UInt8),s.data.toList[j]?=some b→b.toNat < 128
theorem Asc.rest {s:ByteArray} (h:Asc s) (i:Nat) {c:UInt8} (hc:128≤c.toNat):Lib.indexByte (s.extract i s.size).data.toList c=-1:=by
 refine qi3 fun b hb e=>?_
 have hb:=mem_extract hb
 obtain ⟨j,hj⟩:=List.getElem?_of_mem hb
 have:=h j b hj
 rw [e] at this
 omega
section
variable {P:Program} {ρ:Ren}
end
end Go.Proofs.YtjgdjinhkgjpeabGreatDoor
namespace Go.Proofs.YtjgdjinhkgjpeabGreatDoor
open Nat renaming le_refl→zL,reduceAdd→zd,reduceEqDiff→zb,reduceLT→zf,reduceLeDiff→za,reduceMul→ze
open List renaming getElem?_eq_getElem→zk,getElem?_eq_some_iff→zo,mem_of_getElem?→zn,take_length→z7,take_succ_eq_append_getElem→zI
open Go.RowKit
def splF (s:List UInt8) (c:UInt8):List (List UInt8):=(Lib.splitB ⟨#[c]⟩ 0 (Lib.countB ⟨s.toArray⟩ ⟨#[c]⟩) ⟨s.toArray⟩).map (·.data.toList)
theorem qdb (sep:ByteArray):∀ (k:Nat) (s:ByteArray),(Lib.splitB sep 0 k s).length≤k+1∧∀ x∈Lib.splitB sep 0 k s,x.size≤s.size:=by
 intro k
 induction k with
 |zero=>intro s;simp [Lib.splitB]
 |succ k ih=>
  intro s
  unfold Lib.splitB
  split
  ·simp
  ·have:=ih (s.extract ((Lib.indexB s sep).toNat+sep.size) s.size)
   refine ⟨by simp;omega,fun x hx=>?_⟩
   simp only [List.mem_cons] at hx
   rcases hx with rfl|hx
   ·simp;omega
   ·have:=this.2 x hx;simp at this;omega
theorem qdW (s:List UInt8) (c:UInt8):(splF s c).length≤s.length+1:=by
 have h1:=(qdb ⟨#[c]⟩ (Lib.countB ⟨s.toArray⟩ ⟨#[c]⟩) ⟨s.toArray⟩).1
 have h2:=Lib.countB_le ⟨#[c]⟩ (zL 1) (⟨s.toArray⟩:ByteArray).size ⟨s.toArray⟩ (zL _)
 rw [qc5] at h2
 simp only [splF,List.length_map]
 omega
theorem qgr (s:List UInt8) (c:UInt8):∀ x∈splF s c,x.length≤s.length:=by
 intro x hx
 simp only [splF,List.mem_map] at hx
 obtain ⟨y,hy,rfl⟩:=hx
 have:=(qdb ⟨#[c]⟩ (Lib.countB ⟨s.toArray⟩ ⟨#[c]⟩) ⟨s.toArray⟩).2 y hy
 rw [qc5] at this
 rw [Array.length_toList]
 exact this
theorem qim {w:World} {U:Nat→Prop} {b:Nat}:∀ (l:List ByteArray) (off:Nat),(∀ i x,l[i]?=some x→w.cell? ⟨b,off+i,none⟩=some (.string x))→PRepE w U b 1 off ((l.map (·.data.toList)).map fun x=>[.str x])
 |[],off,h=>trivial
 |x :: r,off,h=>by
  refine ⟨rfl,⟨⟨.string x,by simpa using h 0 _ rfl,rfl,?_⟩,trivial⟩,qim r (off+1) fun i u hu=>?_⟩
  ·simp [PRep]
  ·have:=h (i+1) u (by simpa using hu)
   rwa [show off+(i+1)=off+1+i from by omega] at this
theorem qnY:(Tryz.prog.info? 9).map (fun i=>(i.zero,i.size,i.bytes))=some (some (.string ByteArray.empty),1,16):=by kernel_rfl
theorem qe8 (s:List UInt8) (c:UInt8) (hs:s.length≤1000000000):PCall Tryz.prog E0 41 [.str s,.str [c]] (·=strs (splF s c)):=by
 intro w U vs hU hE hEb hA
 obtain ⟨_,m,hm⟩:=hE
 simp only [PRepL,PRep] at hA
 obtain ⟨v,r,rfl,rfl,v2,r2,rfl,rfl,rfl⟩:=hA
 refine (Any.strings_Split Tryz.laySplit qnY ⟨s.toArray⟩ ⟨#[c]⟩ m w (by rw [qc5];omega) hm (zL 1)).mono ?_
 rintro e w' ⟨rfl,rfl⟩
 have hl:=Lib.splitB_all ⟨#[c]⟩ (zL 1) 0 _ (⟨s.toArray⟩:ByteArray) rfl
 refine ⟨_,_,rfl,rfl,?_,⟨rfl,rfl,rfl,by simp,fun k hk _=>Lib.alloc_old w _ k hk⟩⟩
 have hln:(List.map (fun x=>[PV.str x]) (splF s c)).length=Lib.countB ⟨s.toArray⟩ ⟨#[c]⟩+1:=by simp [splF,hl]
 refine ⟨some ⟨w.heap.size,0,none⟩,Lib.countB ⟨s.toArray⟩ ⟨#[c]⟩+1,by rw [hln],by rw [hln];exact zL _,fun _=>⟨w.heap.size,0,rfl,by simp,fun h=>by have:=hU _ h;omega,?_⟩⟩
 ·refine qim _ 0 fun i x hx=>?_
  rw [Lib.cell_of_heap (heap_alloc_new w _)]
  simp [hx]
abbrev qiv:IC:=(sR [qO 4 (.mov (.c (.bool false)))] (sR [qM 5 0,qM 6 1,jC 7 69 [.t 5,.t 6],qB 8 .eql 7 (.c (.str [])),qM 4 8] .ret))
theorem qiB:chkF Tryz.prog Tryz.f67 qiv [.t 4] 9=true:=by kernel_rfl
def qqa (s of:List UInt8):Bool:=decide (Lib.trimS s of=[])
theorem dropW_nil {p:UInt8→Bool}:∀ {l:List UInt8},l.dropWhile p=[]↔l.all p=true
 |[]=>by simp
 |x :: r=>by
  simp only [List.dropWhile,List.all_cons]
  cases h:p x
  ·simp
  ·simpa using dropW_nil (l:=r)
theorem qjI (s of:List UInt8):qqa s of=s.all (fun c=>of.contains c):=by
 rw [Bool.eq_iff_iff,qqa,decide_eq_true_iff,Lib.trimS,Lib.trimLeftS,Lib.trimRightS,dropW_nil]
 constructor
 ·intro h
  have h2:∀ l:List UInt8,(l.dropWhile fun c=>of.contains c).all (fun c=>of.contains c)=true→l.all (fun c=>of.contains c)=true:=by
   intro l
   induction l with
   |nil=>simp
   |cons x r ih=>
    simp only [List.dropWhile]
    cases hx:of.contains x
    ·intro h;exact h
    ·intro h;simp only [List.all_cons,hx,Bool.true_and];exact ih h
  have:=h2 s.reverse (by simpa [List.all_reverse] using h)
  simpa [List.all_reverse] using this
 ·intro h
  have:(s.reverse.dropWhile fun c=>of.contains c)=[]:=dropW_nil.2 (by simpa [List.all_reverse] using h)
  rw [this]
  simp
section
variable {E:Envt}
def asc (l:List UInt8):Bool:=l.all fun b=>decide (b.toNat < 128)
theorem qyj {l:List UInt8} (h:asc l=true):∀ (j:Nat) b,(⟨l.toArray⟩:ByteArray).data.toList[j]?=some b→b.toNat < 128:=
 fun _ b hb=>of_decide_eq_true (List.all_eq_true.1 h b (zn (by simpa using hb)))
theorem qkX (s cs:List UInt8) (hs:s.length≤1000000000) (hcs:cs.length≤1000000) (h2:asc cs=true):PCall Tryz.prog E 69 [.str s,.str cs] (·=.str (Lib.trimS s cs)):=
 qbK rfl rfl fun w _=>(Any.strings_Trim_laid Tryz.layTrim (by kernel_rfl) ⟨s.toArray⟩ ⟨cs.toArray⟩ w (by rw [qc5];omega) (by rw [qc5];omega) (qyj h2)).mono fun e w' h=>⟨h.1,qdD h.2⟩
theorem qrw (s of:List UInt8) (hs:s.length≤1000000000) (ho:of.length≤1000) (ha:asc of=true):PCall Tryz.prog E 67 [.str s,.str of] (·=.bool (qqa s of)):=by
 refine qah mixed Tryz.func67 qiB ?_
 refine zV ?_
 refine use1 (qkX s of hs (by omega) ha) rfl (.inl rfl) ?_
 refine zS ?_
 rfl
def cutF (s p:List UInt8):List UInt8×List UInt8×Bool:=if 0≤Lib.index s p then (s.take (Lib.index s p).toNat,s.drop ((Lib.index s p).toNat+p.length),true) else (s,[],false)
end
theorem qpS (s p:List UInt8) (hs:s.length≤1000000000):PCall Tryz.prog E0 66 [.str s,.str p] (·=.tup [.str (cutF s p).1,.str (cutF s p).2.1,.bool (cutF s p).2.2]):=by
 intro w U vs hU hE hEb hA
 obtain ⟨_,m,hm⟩:=hE
 simp only [PRepL,PRep] at hA
 obtain ⟨v,r,rfl,rfl,v2,r2,rfl,rfl,rfl⟩:=hA
 refine (Any.strings_Cut Tryz.layCut ⟨s.toArray⟩ ⟨p.toArray⟩ m w (by rw [qc5];omega) hm).mono ?_
 rintro e w' ⟨rfl,n,rfl⟩
 exact ⟨_,_,rfl,rfl,⟨[_,_,_],rfl,_,_,rfl,rfl,_,_,rfl,rfl,_,_,rfl,rfl,rfl⟩,⟨rfl,rfl,rfl,zL _,fun _ _ _=>rfl⟩⟩
theorem qjm (s p:List UInt8):(cutF s p).1.length≤s.length∧(cutF s p).2.1.length≤s.length:=by
 unfold cutF
 split
 ·exact ⟨by simp;omega,by simp⟩
 ·simp
def qfc:IC:=(sR [qT 14 .lss 13 12] (.seq (jE 14) (.seq (.block 1 (sR [qM 15 13,qM 9 15] (sR [qM 16 0,qM 17 9,qO 18 (.idx (.t 16) (.t 17)),qM 10 18] (sR [qM 19 10,qB 20 .geq 19 (.c (.int .u8 97)),qM 21 20,⟨some 22,.mov (.t 10),(some (21,true))⟩,⟨some 23,.bin .leq (.t 22) (.c (.int .u8 122)),(some (21,true))⟩,qO 24 (.pick (.t 21) (.t 23) (.c (.bool false))),qO 25 (.not (.t 24)),qM 26 25,⟨some 27,.mov (.t 10),(some (26,true))⟩,⟨some 28,.call 126 [.t 27],(some (26,true))⟩,⟨some 29,.not (.t 28),(some (26,true))⟩,qO 30 (.pick (.t 26) (.t 29) (.c (.bool false))),qM 31 30,⟨some 32,.mov (.t 1),(some (31,true))⟩,⟨some 33,.mov (.t 10),(some (31,true))⟩,⟨some 34,.call 186 [.t 32,.t 33],(some (31,true))⟩,⟨some 35,.bin .lss (.t 34) (cI 0),(some (31,true))⟩,qO 36 (.pick (.t 31) (.t 35) (.c (.bool false)))] (jW 36 (sR [qO 8 (.mov (.c (.bool false)))] .ret)))))) (.reg [qB 37 .add 13 (cI 1),qM 13 37]))))
abbrev qlF:IC:=(sR [qO 8 (.mov (.c (.bool false)))] (.seq (sR [qM 11 0,qO 12 (.sln (.t 11)),jI 13 0] (.block 0 (.loop qfc))) (sR [qM 38 0,qO 39 (.sln (.t 38)),qM 40 2,qM 41 3,jC 42 71 [.t 39,.t 40,.t 41],qM 8 42] .ret)))
theorem qlT:chkF Tryz.prog Tryz.f164 qlF [.t 8] 43=true:=by kernel_rfl
def qdf:IC:=(sR [qT 11 .lss 10 9] (.seq (jE 11) (.seq (.block 1 (sR [qX 12 1 8 10,qL 13 12,qM 5 13] (sR [qM 14 5,jC 15 164 [.t 14,.c (.str [45]),.c (.int .i64 1),.c (.int .i64 30)],qO 16 (.not (.t 15))] (jW 16 (sR [qO 2 (.mov (.c (.bool false)))] .ret))))) (.reg [qB 17 .add 10 (cI 1),qM 10 17]))))
abbrev qhQ:IC:=(sR [qO 2 (.mov (.c (.bool false)))] (sR [qM 6 0,jC 7 41 [.t 6,.c (.str [46])],qM 3 7] (.seq (sR [qM 8 3,qN 9 8,jI 10 0] (.block 0 (.loop qdf))) (sR [qM 18 3,qN 19 18,qB 20 .gtr 19 (cI 1),qM 2 20] .ret))))
theorem qh2:chkF Tryz.prog Tryz.f165 qhQ [.t 2] 21=true:=by kernel_rfl
abbrev qi0:IC:=(sR [qO 2 (.mov (.c (.bool false)))] (sR [qM 7 0,jC 8 66 [.t 7,.c (.str [64])],qM 6 8,qO 9 (.ext 0 (.t 6)),qO 10 (.ext 1 (.t 6)),qO 11 (.ext 2 (.t 6)),qM 3 9,qM 4 10,qM 5 11] (.seq (sR [qM 12 5,qO 13 (.not (.t 12)),qM 14 13,⟨some 15,.mov (.t 0),(some (14,false))⟩,⟨some 16,.sln (.t 15),(some (14,false))⟩,⟨some 17,.bin .gtr (.t 16) (cI 80),(some (14,false))⟩,qO 18 (.pick (.t 14) (.c (.bool true)) (.t 17)),qM 19 18,⟨some 20,.mov (.t 3),(some (19,false))⟩,⟨some 21,.call 164 [.t 20,.c (.str [46,45,95,43]),.c (.int .i64 1),.c (.int .i64 40)],(some (19,false))⟩,⟨some 22,.not (.t 21),(some (19,false))⟩,qO 23 (.pick (.t 19) (.c (.bool true)) (.t 22))] (jW 23 (sR [qO 2 (.mov (.c (.bool false)))] .ret))) (sR [qM 24 4,jC 25 165 [.t 24],qM 2 25] .ret))))
theorem qi4:chkF Tryz.prog Tryz.f119 qi0 [.t 2] 26=true:=by kernel_rfl
def qc2:IC:=(sR [qT 42 .lss 41 40] (.seq (jE 42) (.seq (.block 1 (sR [qX 43 1 39 41,qL 44 43,qM 8 44] (sR [qM 45 8,qO 46 (.sln (.t 45)),qB 47 .lss 46 (cI 1),qM 48 47,⟨some 49,.mov (.t 8),(some (48,false))⟩,⟨some 50,.sln (.t 49),(some (48,false))⟩,⟨some 51,.bin .gtr (.t 50) (cI 30),(some (48,false))⟩,qO 52 (.pick (.t 48) (.c (.bool true)) (.t 51)),qM 53 52,⟨some 54,.mov (.t 8),(some (53,false))⟩,⟨some 55,.call 67 [.t 54,.c (.str [97,98,99,100,101,102,103,104,105,106,107,108,109,110,111,112,113,114,115,116,117,118,119,120,121,122,48,49,50,51,52,53,54,55,56,57,45])],(some (53,false))⟩,⟨some 56,.not (.t 55),(some (53,false))⟩,qO 57 (.pick (.t 53) (.c (.bool true)) (.t 56))] (jW 57 (sR [qO 2 (.mov (.c (.bool false)))] .ret))))) (.reg [qB 58 .add 41 (cI 1),qM 41 58]))))
abbrev qhm:IC:=(sR [qO 2 (.mov (.c (.bool false)))] (sR [qM 10 0,jC 11 66 [.t 10,.c (.str [64])],qM 9 11,qO 12 (.ext 0 (.t 9)),qO 13 (.ext 1 (.t 9)),qO 14 (.ext 2 (.t 9)),qM 3 12,qM 4 13,qM 5 14] (.seq (sR [qM 15 5,qO 16 (.not (.t 15)),qM 17 16,⟨some 18,.mov (.t 0),(some (17,false))⟩,⟨some 19,.sln (.t 18),(some (17,false))⟩,⟨some 20,.bin .gtr (.t 19) (cI 80),(some (17,false))⟩,qO 21 (.pick (.t 17) (.c (.bool true)) (.t 20)),qM 22 21,⟨some 23,.mov (.t 3),(some (22,false))⟩,⟨some 24,.sln (.t 23),(some (22,false))⟩,⟨some 25,.bin .lss (.t 24) (cI 1),(some (22,false))⟩,qO 26 (.pick (.t 22) (.c (.bool true)) (.t 25)),qM 27 26,⟨some 28,.mov (.t 3),(some (27,false))⟩,⟨some 29,.sln (.t 28),(some (27,false))⟩,⟨some 30,.bin .gtr (.t 29) (cI 40),(some (27,false))⟩,qO 31 (.pick (.t 27) (.c (.bool true)) (.t 30)),qM 32 31,⟨some 33,.mov (.t 3),(some (32,false))⟩,⟨some 34,.call 67 [.t 33,.c (.str [97,98,99,100,101,102,103,104,105,106,107,108,109,110,111,112,113,114,115,116,117,118,119,120,121,122,48,49,50,51,52,53,54,55,56,57,46,45,95,43])],(some (32,false))⟩,⟨some 35,.not (.t 34),(some (32,false))⟩,qO 36 (.pick (.t 32) (.c (.bool true)) (.t 35))] (jW 36 (sR [qO 2 (.mov (.c (.bool false)))] .ret))) (sR [qM 37 4,jC 38 41 [.t 37,.c (.str [46])],qM 6 38] (.seq (sR [qM 39 6,qN 40 39,jI 41 0] (.block 0 (.loop qc2))) (sR [qM 59 6,qN 60 59,qB 61 .gtr 60 (cI 1),qM 2 61] .ret))))))
theorem qhw:chkF Tryz.prog Tryz.f27 qhm [.t 2] 62=true:=by kernel_rfl
def inB (o:List UInt8) (c:UInt8):Bool:=((decide (97≤(c.toNat:Int)) && decide ((c.toNat:Int)≤122)) || digB c) || decide (0≤Lib.indexByte o c)
def allB (s o:List UInt8):Bool:=s.all (inB o)
def domF (s:List UInt8):Bool:=(splF s 46).all (fun x=>allB x [45] && inE x.length 1 30) && decide (1 < (splF s 46).length)
def qhc (s:List UInt8):Bool:=(((cutF s [64]).2.2 && decide ((s.length:Int)≤80)) && (allB (cutF s [64]).1 [46,45,95,43] && inE (cutF s [64]).1.length 1 40)) && domF (cutF s [64]).2.1
theorem qme {l:List UInt8} {p:UInt8→Bool} {k:Nat} {c:UInt8} (h:l[k]?=some c):(l.take (k+1)).all p=((l.take k).all p && p c):=qmd h
theorem qgi {α:Type} {l:List α} {p:α→Bool} {k:Nat} {c:α} (h:l[k]?=some c) (hp:p c=false):l.all p=false:=by
 rw [List.all_eq_false]
 exact ⟨c,zn h,by simp [hp]⟩
section
variable {E:Envt}
set_option maxHeartbeats 2000000 in
theorem quS (s o:List UInt8) (lo hi:Int) (hs:s.length≤1000000000):PCall Tryz.prog E 164 [.str s,.str o,int lo,int hi] (·=.bool (allB s o && inE s.length lo hi)):=by
 refine qah mixed Tryz.func164 qlT ?_
 refine zV ?_
 refine qad (fun n fr L=>∃ (k:Nat),k≤s.length∧n=s.length - k∧((s.take k).all (inB o)=true)∧fr=(.p (.str s)::.p (.str o)::.p (int lo)::.p (int hi)::oD (.p (int (s.length:Nat))::.p (int (k:Nat))::oE (oD (oC (oo::[])))))∧L=[]) (s.length) (.p (.str s)::.p (.str o)::.p (int lo)::.p (int hi)::oD (.p (int (s.length:Nat))::.p (int (0:Nat))::oE (oD (oC (oo::[]))))) [] zF_ zF_ ⟨0,by omega,by omega,by simp,rfl,rfl⟩ ?_
 rintro n fr L ⟨k,hk,rfl,ha,rfl,rfl⟩
 simp only [qfc,ZZ,WW,Ze,reduceCtorEq,zd,ze,za,zf,zb]
 refine br ?_ ?_
 ·intro h
  have hlt:k < s.length:=by have:=of_decide_eq_true h;omega
  obtain ⟨c,hc⟩:∃ c,s[k]?=some c:=⟨_,zk hlt⟩
  have hg:s.getD k 0=c:=by simp [List.getD,hc]
  simp only [ZZ,WW,Ze,reduceCtorEq,zd,ze,za,zf,zb,hg]
  ((with_reducible and_intros)<;>try exact sc_)
  refine useG (fun _=>qpR c) rfl (.inl rfl) ?_
  refine zS ?_
  ((with_reducible and_intros)<;>try exact sc_)
  refine useG (fun _=>qgk o c) rfl (.inl rfl) ?_
  refine zS ?_
  ((with_reducible and_intros)<;>try exact sc_)
  have hB:(((!(decide (97≤(c.toNat:Int)) && decide ((c.toNat:Int)≤122)) && !digB c)) && decide (Lib.indexByte o c < 0))=!inB o c:=by
   unfold inB
   have:decide (Lib.indexByte o c < 0)=!decide (0≤Lib.indexByte o c):=by
    by_cases h:0≤Lib.indexByte o c<;>simp [h]<;>omega
   rw [this]
   cases (decide (97≤(c.toNat:Int)) && decide ((c.toNat:Int)≤122))<;>cases digB c<;>simp
  refine br ?_ ?_
  ·intro hx
   have hf:inB o c=false:=by rw [hB] at hx;simpa using hx
   refine zS ?_
   rw [allB,qgi hc hf]
   rfl
  ·intro hx
   have hf:inB o c=true:=by rw [hB] at hx;simpa using hx
   refine zS ?_
   refine ⟨qai (by omega) (by omega),?_⟩
   refine qab (s.length - (k+1)) (.p (.str s)::.p (.str o)::.p (int lo)::.p (int hi)::oD (.p (int (s.length:Nat))::.p (int ((k+1):Nat))::oE (oD (oC (oo::[]))))) [] (by omega) zF_ zF_ ⟨k+1,by omega,rfl,by rw [qme hc,ha,hf];rfl,rfl,rfl⟩
 ·intro h
  have hge:k=s.length:=by have:=of_decide_eq_false h;omega
  subst hge
  rw [z7] at ha
  refine zS ?_
  refine use1 (qoW _ _ _) rfl (.inl rfl) ?_
  refine zS ?_
  rw [allB,ha]
  rfl
end
set_option maxHeartbeats 2000000 in
theorem qoV (s:List UInt8) (hs:s.length≤1000000000):PCall Tryz.prog E0 165 [.str s] (·=.bool (domF s)):=by
 refine qah mixed Tryz.func165 qh2 ?_
 refine zV ?_
 refine use1 (qe8 s 46 hs) rfl (.inl rfl) ?_
 rw [qbU]
 have hD:domF s=((splF s 46).all (fun x=>allB x [45] && inE x.length 1 30) && decide (1 < (splF s 46).length)):=rfl
 rw [hD]
 have hmem:=qgr s 46
 have hlen:=qdW s 46
 generalize splF s 46=ls at *
 simp only [ZZ,WW,Ze,reduceCtorEq,zd,ze,za,zf,zb,qac]
 refine qad (fun n fr L=>∃ (k:Nat),k≤ls.length∧n=ls.length - k∧((ls.take k).all (fun x=>allB x [45] && inE x.length 1 30)=true)∧fr=(oo::oo::oo::.p (.sl 1 (strE ls))::oo::oo::oo::oo::.p (.sl 1 (strE ls))::.p (int (ls.length:Nat))::.p (int (k:Nat))::oD (oB []))∧L=[]) (ls.length) (oo::oo::oo::.p (.sl 1 (strE ls))::oo::oo::oo::oo::.p (.sl 1 (strE ls))::.p (int (ls.length:Nat))::.p (int (0:Nat))::oD (oB [])) [] (by simp only [ZZ,WW,Ze,reduceCtorEq,zd,ze,za,zf,zb,qac];try trivial) zF_ ⟨0,by omega,by omega,by simp,rfl,rfl⟩ ?_
 rintro n fr L ⟨k,hk,rfl,ha,rfl,rfl⟩
 simp only [qdf,ZZ,WW,Ze,reduceCtorEq,zd,ze,za,zf,zb]
 refine br ?_ ?_
 ·intro h
  have hlt:k < ls.length:=by have:=of_decide_eq_true h;omega
  obtain ⟨x,hx⟩:∃ x,ls[k]?=some x:=⟨_,zk hlt⟩
  have hg:=qaU hx
  have hxl:=hmem x (zn hx)
  simp only [ZZ,WW,Ze,reduceCtorEq,zd,ze,za,zf,zb,hg,qac]
  ((with_reducible and_intros)<;>try exact sc_)
  refine use1 (quS x [45] 1 30 (by omega)) rfl (.inl rfl) ?_
  refine zS ?_
  refine br ?_ ?_
  ·intro hf
   have hf:(allB x [45] && inE x.length 1 30)=false:=by rwa [Bool.not_eq_true'] at hf
   refine zS ?_
   rw [qgi hx hf]
   rfl
  ·intro hf
   have hf:(allB x [45] && inE x.length 1 30)=true:=by rwa [Bool.not_eq_false'] at hf
   refine zS ?_
   refine ⟨qai (by omega) (by omega),?_⟩
   refine qab (ls.length - (k+1)) (oo::oo::oo::.p (.sl 1 (strE ls))::oo::oo::oo::oo::.p (.sl 1 (strE ls))::.p (int (ls.length:Nat))::.p (int ((k+1):Nat))::oD (oB [])) [] (by omega) zF_ zF_ ⟨k+1,by omega,rfl,by rw [zI hlt,List.all_append,ha,(zo.1 hx).2];simpa using hf,rfl,rfl⟩
 ·intro h
  have hge:k=ls.length:=by have:=of_decide_eq_false h;omega
  subst hge
  rw [z7] at ha
  simp only [ZZ,WW,Ze,reduceCtorEq,zd,ze,za,zf,zb,qac]
  rw [ha]
  simp
  omega
theorem qsx (s:List UInt8) (hs:s.length≤1000000000):PCall Tryz.prog E0 119 [.str s] (·=.bool (qhc s)):=by
 refine qah mixed Tryz.func119 qi4 ?_
 refine zV ?_
 refine use1 (qpS s [64] hs) rfl (.inl rfl) ?_
 have hc:=qjm s [64]
 unfold qhc
 generalize cutF s [64]=q at *
 refine zS ?_
 ((with_reducible and_intros)<;>try exact sc_)
 refine useG (fun _=>quS q.1 [46,45,95,43] 1 40 (by omega)) rfl (.inl rfl) ?_
 refine zS ?_
 ((with_reducible and_intros)<;>try exact sc_)
 refine br ?_ ?_
 ·intro h
  refine zS ?_
  congr 1
  symm
  cases h1:q.2.2<;>cases h2:(allB q.1 [46,45,95,43] && inE q.1.length 1 40)<;>simp [h1,h2] at h ⊢
  omega
 ·intro h
  refine zS ?_
  refine use1 (qoV q.2.1 (by omega)) rfl (.inl rfl) ?_
  refine zS ?_
  congr 1
  cases h1:q.2.2<;>cases h2:(allB q.1 [46,45,95,43] && inE q.1.length 1 40)<;>simp [h1,h2] at h ⊢
  omega
def nsL:List UInt8:=smallL++[48,49,50,51,52,53,54,55,56,57]
theorem qts (s:List UInt8):qqa s (nsL++[46,45,95,43])=allB s [46,45,95,43]:=by
 rw [qjI,allB]
 congr 1
 funext c
 exact qkU (p:=fun c=>(nsL++[46,45,95,43]).contains c=inB [46,45,95,43] c) (by decide +kernel) c
theorem qtt (s:List UInt8):qqa s (nsL++[45])=allB s [45]:=by
 rw [qjI,allB]
 congr 1
 funext c
 exact qkU (p:=fun c=>(nsL++[45]).contains c=inB [45] c) (by decide +kernel) c
set_option maxHeartbeats 2000000 in
theorem qnM (s:List UInt8) (hs:s.length≤1000000000):PCall Tryz.prog E0 27 [.str s] (·=.bool (qhc s)):=by
 refine qah mixed Tryz.func27 qhw ?_
 refine zV ?_
 refine use1 (qpS s [64] hs) rfl (.inl rfl) ?_
 have hc:=qjm s [64]
 unfold qhc
 generalize cutF s [64]=q at *
 refine zS ?_
 ((with_reducible and_intros)<;>try exact sc_)
 refine useG (fun _=>qrw q.1 (nsL++[46,45,95,43]) (by omega) (by decide) (by decide)) rfl (.inl rfl) ?_
 rw [qts]
 refine zS ?_
 ((with_reducible and_intros)<;>try exact sc_)
 refine br ?_ ?_
 ·intro h
  refine zS ?_
  congr 1
  symm
  cases h1:q.2.2<;>cases h2:allB q.1 [46,45,95,43]<;>simp [h1,h2,inE] at h ⊢
  omega
 intro h
 have hq:(((q.2.2 && decide ((s.length:Int)≤80)) && (allB q.1 [46,45,95,43] && inE q.1.length 1 40)) && domF q.2.1)=domF q.2.1:=by
  cases h1:q.2.2<;>cases h2:allB q.1 [46,45,95,43]<;>simp [h1,h2,inE] at h ⊢
  omega
 rw [hq]
 refine zS ?_
 refine use1 (qe8 q.2.1 46 (by omega)) rfl (.inl rfl) ?_
 rw [qbU]
 have hD:domF q.2.1=((splF q.2.1 46).all (fun x=>allB x [45] && inE x.length 1 30) && decide (1 < (splF q.2.1 46).length)):=rfl
 rw [hD]
 have hmem:=qgr q.2.1 46
 have hlen:=qdW q.2.1 46
 generalize splF q.2.1 46=ls at *
 simp only [ZZ,WW,Ze,reduceCtorEq,zd,ze,za,zf,zb,qac]
 refine qad (fun n fr L=>∃ (k:Nat),k≤ls.length∧n=ls.length - k∧((ls.take k).all (fun x=>allB x [45] && inE x.length 1 30)=true)∧fr=(oC (oB (.p (.sl 1 (strE ls))::oF (.p (.sl 1 (strE ls))::.p (int (ls.length:Nat))::.p (int (k:Nat))::oE (oC [])))))∧L=[]) (ls.length) (oC (oB (.p (.sl 1 (strE ls))::oF (.p (.sl 1 (strE ls))::.p (int (ls.length:Nat))::.p (int (0:Nat))::oE (oC []))))) [] (by simp only [ZZ,WW,Ze,reduceCtorEq,zd,ze,za,zf,zb,qac];try trivial) zF_ ⟨0,by omega,by omega,by simp,rfl,rfl⟩ ?_
 rintro n fr L ⟨k,hk,rfl,ha,rfl,rfl⟩
 simp only [qc2,ZZ,WW,Ze,reduceCtorEq,zd,ze,za,zf,zb]
 refine br ?_ ?_
 ·intro h
  have hlt:k < ls.length:=by have:=of_decide_eq_true h;omega
  obtain ⟨x,hx⟩:∃ x,ls[k]?=some x:=⟨_,zk hlt⟩
  have hg:=qaU hx
  have hxl:=hmem x (zn hx)
  simp only [ZZ,WW,Ze,reduceCtorEq,zd,ze,za,zf,zb,hg,qac]
  ((with_reducible and_intros)<;>try exact sc_)
  refine useG (fun _=>qrw x (nsL++[45]) (by omega) (by decide) (by decide)) rfl (.inl rfl) ?_
  rw [qtt]
  refine zS ?_
  ((with_reducible and_intros)<;>try exact sc_)
  refine br ?_ ?_
  ·intro hf
   have hf:(allB x [45] && inE x.length 1 30)=false:=by
    cases h2:allB x [45]<;>simp [h2,inE] at hf ⊢
    omega
   refine zS ?_
   rw [qgi hx hf]
   rfl
  ·intro hf
   have hf:(allB x [45] && inE x.length 1 30)=true:=by
    cases h2:allB x [45]<;>simp [h2,inE] at hf ⊢
    omega
   refine zS ?_
   refine ⟨qai (by omega) (by omega),?_⟩
   refine qab (ls.length - (k+1)) (oC (oB (.p (.sl 1 (strE ls))::oF (.p (.sl 1 (strE ls))::.p (int (ls.length:Nat))::.p (int ((k+1):Nat))::oE (oC []))))) [] (by omega) zF_ zF_ ⟨k+1,by omega,rfl,by rw [zI hlt,List.all_append,ha,(zo.1 hx).2];simpa using hf,rfl,rfl⟩
 ·intro h
  have hge:k=ls.length:=by have:=of_decide_eq_false h;omega
  subst hge
  rw [z7] at ha
  simp only [ZZ,WW,Ze,reduceCtorEq,zd,ze,za,zf,zb,qac]
  rw [ha]
  simp
  omega
end Go.Proofs.YtjgdjinhkgjpeabGreatDoor
namespace Go.Proofs.YtjgdjinhkgjpeabGreatDoor
theorem qru:∀ (kv:List (List UInt8×PV)) (s t:List UInt8) (v:PV),mpF (mpS kv s v) t=if s=t then some v else mpF kv t
 |[],s,t,v=>by simp [mpS,mpF]
 |p :: r,s,t,v=>by
  simp only [mpS]
  split
  ·rename_i h
   by_cases hs:s=t
   ·simp [mpF,hs]
   ·simp [mpF,hs,h]
  ·rename_i h
   simp only [mpF,qru r s t v]
   by_cases hp:p.1=t
   ·have:¬ s=t:=fun e=>h (hp.trans e.symm)
    simp [hp,this]
   ·simp [hp]
def qq4 (kv:List (List UInt8×PV)) (W:List (List UInt8)):Prop:=∀ w,mpD kv w (.bool false)=.bool (decide (w∈W))
theorem qmG:qq4 [] []:=fun w=>by simp [mpD,mpF]
theorem qcv {kv:List (List UInt8×PV)} {W:List (List UInt8)} (h:qq4 kv W) (s:List UInt8):qq4 (mpS kv s (.bool true)) (W++[s]):=fun w=>by
 have h:=h w
 unfold mpD at h ⊢
 rw [qru]
 by_cases hs:s=w
 ·simp [hs]
 ·have hw:¬ w=s:=fun e=>hs e.symm
  rw [if_neg hs,h]
  simp [hw]
theorem qpU (t:List UInt8):(qdU t).length≤t.length+1:=by
 have:=Sp.spans_len t
 simpa [qdU] using this
end Go.Proofs.YtjgdjinhkgjpeabGreatDoor
namespace Go.Proofs.YtjgdjinhkgjpeabGreatDoor
open Go.RowKit
abbrev qdt:IC:=(sR [qO 2 (.nilr 9 1)] (.seq (sR [qM 3 0,qO 4 (.isn (.t 3))] (jW 4 (sR [qO 2 (.nilr 9 1)] .ret))) (sR [qO 5 (.bsr 9 1 []),qM 6 0,qO 7 (.app 9 1 16 (.t 5) (.t 6)),qM 2 7] .ret)))
theorem qdw:chkF Tryz.prog Tryz.f21 qdt [.t 2] 8=true:=by kernel_rfl
section
variable {E:Envt}
abbrev qhG:Nat:=41
abbrev qyu:Nat:=9
theorem qkZ (s:List UInt8) (n:Nat) (hn:n≤1000000) (hs:s.length≤1000000):PCall Tryz.prog E 22 [.str s,int n] (·=.str (Lib.repeatL s n)):=
 qbK rfl rfl fun w _=>(qtc ⟨s.toArray⟩ n w (by omega) (by rw [show (⟨s.toArray⟩:ByteArray).size=s.length from by simp [ByteArray.size]];exact Nat.le_trans (Nat.mul_le_mul hs hn) (by decide))).mono fun e w' h=>⟨h.1,qdD h.2⟩
theorem qnO (es:List (List PV)) (hn:es.length≤1000000):FCall Tryz.prog E 21 [.sl 1 es] qyu 1 (·=es):=by
 unfold FCall
 refine qf0 mixed Tryz.func21 qdw ?_
 refine zV ?_
 intro b hb
 refine br ?_ ?_
 ·intro h
  have:=hb h
  refine zS ?_
  exact qke 2 [] rfl rfl this.symm
 ·intro h
  refine zS ?_
  exact ⟨by omega,qke 5 es rfl rfl rfl⟩
end
end Go.Proofs.YtjgdjinhkgjpeabGreatDoor
namespace Go.Proofs.YtjgdjinhkgjpeabGreatDoor
section
variable {E:Envt}
abbrev qaN:Nat:=48
abbrev Par:=List UInt8×Int×Int
def par (q:Par):List PV:=[.str q.1,int q.2.1,int q.2.2]
def t1:List UInt8:=[108,101,103,97,108,32,97,100,118,105,99,101]
def t0:List UInt8:=[99,97,114,101,102,117,108]
def t2:List UInt8:=[112,114,105,118,105,108,101,103,101,100,32,97,110,100,32,99,111,110,102,105,100,101,110,116,105,97,108]
def p0:List Par:=[([97,105,100,64,111,117,114,115,46,100,101],1,3),([97,110,110,64,102,105,114,109,46,100,101],1,2),([108,97,119,64,111,117,114,115,46,100,101],1,1)]
def d0 (y:Int):List Par:=[([102,105,114,109,46,100,101],1,4),([120,46,102,105,114,109,46,100,101],y,2),([111,117,114,115,46,100,101],1,4)]
end
section
variable {E:Envt}
end
end Go.Proofs.YtjgdjinhkgjpeabGreatDoor
