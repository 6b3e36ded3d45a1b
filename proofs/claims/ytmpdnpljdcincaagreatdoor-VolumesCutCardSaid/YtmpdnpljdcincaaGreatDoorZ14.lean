import Derived.Test.YtmpdnpljdcincaaGreatDoorZ13
import Derived.Test.YtmpdnpljdcincaaGreatDoorLayBitsLen
set_option linter.unusedVariables false
set_option linter.unusedSimpArgs false
set_option linter.defProp false
namespace Go.Proofs.YtmpdnpljdcincaaGreatDoor
open Nat renaming reduceAdd→zd,reduceEqDiff→za,reduceLT→zf,reduceLeDiff→zb,reduceMul→ze
open List renaming append_nil→z6,getD→zu,getElem?_eq_getElem→zg,getElem?_eq_some_iff→zk,getElem?_of_mem→zQ,length_map→zw,length_take→zJ,mem_of_getElem?→zm,mem_singleton→zy,take_append_drop→yt
open Go.RowKit
def qaP:IC:=(sR [qT 9 .lss 8 7] (.seq (jE 9) (.seq (.block 1 (sR [qM 10 8,qM 5 10] (sR [qM 11 1,qM 12 0,qM 13 5,qX 14 7 12 13,qO 15 (.ld 7 true (.t 14)),qO 16 (.callv (.t 11) [.t 15])] (jW 16 (sR [qM 17 5,qM 4 17] .ret))))) (.reg [qB 18 .add 8 (cI 1),qM 8 18]))))
abbrev qcj:IC:=(sR [jI 4 0] (.seq (sR [qM 6 0,qN 7 6,jI 8 0] (.block 0 (.loop qaP))) (sR [jI 4 (-1)] .ret)))
theorem qcl:chkF Tryz.prog Tryz.f202 qcj [.t 4] 19=true:=by kernel_rfl
abbrev qi0:IC:=(sR [qO 3 (.box 9 (.t 1)),jI 4 0] (sR [qM 5 0,qO 6 (.mkf 268 [.t 3]),jC 7 202 [.t 5,.t 6],qM 4 7] .ret))
theorem qji:chkF Tryz.prog Tryz.f238 qi0 [.t 4] 8=true:=by kernel_rfl
def qeo:IC:=(sR [qO 2 (.box 79 (.t 0)),qO 3 (.mov (.c (.bool false)))] (sR [qF 4 0 2,qL 5 4,qL 6 1,qT 7 .eql 5 6,qM 3 7] .ret))
theorem qhR:chkF Tryz.prog Tryz.f268 qeo [.t 3] 8=true:=by kernel_rfl
def qb0:IC:=(.seq (sR [qM 15 7,qB 16 .geq 15 (cI 0),qM 17 16,⟨some 18,.mov (.t 0),(some (17,true))⟩,⟨some 19,.mov (.t 1),(some (17,true))⟩,⟨some 20,.ixa 7 (.t 18) (.t 19),(some (17,true))⟩,⟨some 21,.fla 5 (.t 20),(some (17,true))⟩,⟨some 22,.ld 1 false (.t 21),(some (17,true))⟩,⟨some 23,.bin .neq (.t 22) (.c (.str [])),(some (17,true))⟩,qO 24 (.pick (.t 17) (.t 23) (.c (.bool false)))] (jE 24)) (.seq (.block 1 (sR [qM 32 6,qM 33 7,qO 34 (.bsl 1 [.t 33]),qO 35 (.app 3 1 8 (.t 32) (.t 34)),qM 6 35] (.seq (sR [qM 36 6,qN 37 36,qM 38 0,qN 39 38,qT 40 .gtr 37 39] (jW 40 (sR [qM 41 6,qM 4 41,qO 5 (.mov (.c (.bool false)))] .ret))) (sR [qM 42 0,qM 43 7,qX 44 7 42 43,qF 45 5 44,qL 46 45,qB 47 .eql 46 (.c (.str []))] (jW 47 (.exit 0)))))) (.reg [qM 25 0,qM 26 0,qM 27 7,qX 28 7 26 27,qF 29 5 28,qL 30 29,jC 31 238 [.t 25,.t 30],qM 7 31])))
abbrev qi1:IC:=(sR [qO 4 (.mov (.c (.nl 1))),qO 5 (.mov (.c (.bool false)))] (sR [qO 6 (.nilr 3 1)] (.seq (sR [qM 8 0,qM 9 0,qM 10 1,qX 11 7 9 10,qF 12 5 11,qL 13 12,jC 14 238 [.t 8,.t 13],qM 7 14] (.block 0 (.loop qb0))) (.cut (sR [qM 48 6,qM 4 48,qO 5 (.mov (.c (.bool true)))] .ret)))))
theorem qjj:chkF Tryz.prog Tryz.f242 qi1 [.t 4,.t 5] 49=true:=by kernel_rfl
abbrev qhJ:IC:=(sR [qO 4 (.mov (.c (.bool false)))] (sR [qM 8 0,qM 9 1,jC 10 242 [.t 8,.t 9],qM 7 10,qO 11 (.ext 0 (.t 7)),qO 12 (.ext 1 (.t 7)),qM 5 11,qM 6 12] (sR [qM 13 5,qM 14 1,jC 15 290 [.t 13,.t 14],qM 4 15] .ret)))
theorem qhQ:chkF Tryz.prog Tryz.f269 qhJ [.t 4] 16=true:=by kernel_rfl
def qcu:IC:=(sR [qT 20 .lss 19 18] (.seq (.cond (.t 20) .skip (.exit 2)) (.seq (.block 3 (sR [qM 21 19,qM 4 21] (.seq (sR [qM 22 0,qM 23 0,qM 24 4,qX 25 7 23 24,qF 26 5 25,qL 27 26,jC 28 238 [.t 22,.t 27],qM 5 28] (sR [qM 29 0,qM 30 4,qX 31 7 29 30,qF 32 5 31,qL 33 32,qB 34 .neq 33 (.c (.str [])),qM 35 34,⟨some 36,.mov (.t 5),(some (35,true))⟩,⟨some 37,.bin .geq (.t 36) (cI 0),(some (35,true))⟩,qO 38 (.pick (.t 35) (.t 37) (.c (.bool false))),qM 39 38,⟨some 40,.mov (.t 0),(some (39,true))⟩,⟨some 41,.mov (.t 5),(some (39,true))⟩,⟨some 42,.ixa 7 (.t 40) (.t 41),(some (39,true))⟩,⟨some 43,.fla 2 (.t 42),(some (39,true))⟩,⟨some 44,.ld 1 false (.t 43),(some (39,true))⟩,⟨some 45,.bin .neq (.t 44) (cI 1),(some (39,true))⟩,qO 46 (.pick (.t 39) (.t 45) (.c (.bool false))),qM 47 46,⟨some 48,.mov (.t 0),(some (47,true))⟩,⟨some 49,.mov (.t 5),(some (47,true))⟩,⟨some 50,.ixa 7 (.t 48) (.t 49),(some (47,true))⟩,⟨some 51,.fla 2 (.t 50),(some (47,true))⟩,⟨some 52,.ld 1 false (.t 51),(some (47,true))⟩,⟨some 53,.bin .neq (.t 52) (cI 3),(some (47,true))⟩,qO 54 (.pick (.t 47) (.t 53) (.c (.bool false)))] (jW 54 (sR [jI 2 16] .ret)))) (sR [qM 56 0,qM 57 4,jC 58 242 [.t 56,.t 57],qM 55 58,qO 59 (.ext 0 (.t 55)),qO 60 (.ext 1 (.t 55)),qM 6 59,qM 7 60] (sR [qM 61 6,qN 62 61,qB 63 .gtr 62 (cI 4)] (jW 63 (sR [jI 2 2] .ret))))))) (.reg [qB 64 .add 19 (cI 1),qM 19 64]))))
def qcv:IC:=(sR [qT 11 .lss 10 9] (.seq (jE 11) (.seq (.block 1 (sR [qM 12 10,qM 3 12] (sR [qM 13 0,qM 14 3,jC 15 269 [.t 13,.t 14]] (jW 15 (sR [jI 2 14] .ret))))) (.reg [qB 16 .add 10 (cI 1),qM 10 16]))))
abbrev qgy:IC:=(sR [jI 2 0] (.seq (sR [qM 8 0,qN 9 8,jI 10 0] (.block 0 (.loop qcv))) (.seq (sR [qM 17 0,qN 18 17,jI 19 0] (.block 2 (.loop qcu))) (sR [jI 2 0] .ret))))
theorem qgF:chkF Tryz.prog Tryz.f239 qgy [.t 2] 65=true:=by kernel_rfl
def qcb:IC:=(sR [qT 33 .lss 32 31] (.seq (.cond (.t 33) .skip (.exit 2)) (.seq (.block 3 (sR [qX 34 7 30 32,qO 35 (.ld 7 true (.t 34)),qO 8 (.alc 79 [.str [],.str [],.int .i64 0,.str [],.int .i64 0,.str [],.str []]),qS 7 8 35] (sR [qF 36 5 8,qL 37 36,qB 38 .neq 37 (.c (.str [])),qM 39 38,⟨some 40,.mov (.t 0),(some (39,true))⟩,⟨some 41,.fla 5 (.t 8),(some (39,true))⟩,⟨some 42,.ld 1 false (.t 41),(some (39,true))⟩,⟨some 43,.call 238 [.t 40,.t 42],(some (39,true))⟩,⟨some 44,.bin .lss (.t 43) (cI 0),(some (39,true))⟩,qO 45 (.pick (.t 39) (.t 44) (.c (.bool false)))] (jW 45 (sR [jI 2 8] .ret))))) (.reg [qB 46 .add 32 (cI 1),qM 32 46]))))
def qcc:IC:=(sR [qT 15 .lss 14 13] (.seq (jE 15) (.seq (.block 1 (sR [qX 16 7 12 14,qO 17 (.ld 7 true (.t 16)),qO 5 (.alc 79 [.str [],.str [],.int .i64 0,.str [],.int .i64 0,.str [],.str []]),qS 7 5 17] (.seq (sR [qO 18 (.ld 7 true (.t 5)),jC 19 237 [.t 18],qM 6 19] (sR [qM 20 6,qB 21 .neq 20 (cI 0)] (jW 21 (sR [qM 22 6,qM 2 22] .ret)))) (.seq (sR [qF 23 0 5,qL 24 23,qM 25 3,qT 26 .leq 24 25] (jW 26 (sR [jI 2 7] .ret))) (.reg [qF 27 0 5,qL 28 27,qM 3 28]))))) (.reg [qB 29 .add 14 (cI 1),qM 14 29]))))
abbrev qfW:IC:=(sR [jI 2 0] (.seq (sR [qM 9 0,qN 10 9,qB 11 .gtr 10 (cI 2000)] (jW 11 (sR [jI 2 2] .ret))) (sR [qO 3 (.mov (.c (.str [])))] (.seq (sR [qM 12 0,qN 13 12,jI 14 0] (.block 0 (.loop qcc))) (.seq (sR [qM 30 0,qN 31 30,jI 32 0] (.block 2 (.loop qcb))) (sR [qM 47 0,jC 48 239 [.t 47],qM 2 48] .ret))))))
theorem qf9:chkF Tryz.prog Tryz.f193 qfW [.t 2] 49=true:=by kernel_rfl
section
variable {E:Envt}
theorem qjw (l:List Itm) (f:FuncId) (ps:List PV) (q:Itm→Bool) (hl:l.length≤1000000000) (hfn:Unit→fnB Tryz.prog f=true) (hps:Zk [] (ps.map .p)=true) (hf:∀ x∈l,PCall Tryz.prog E f (.agg (itC x) :: ps) (·=.bool (q x))) (hn:∀ x,Zbg [] (.p (.agg (itC x)) :: ps.map .p)=some (.agg (itC x) :: ps)) (hr:∀ x,Zbi (.p (.agg (itC x)) :: ps.map .p)=true):PCall Tryz.prog E 202 [.sl 7 (itE l),.clo f ps] (·=int (idxF q l)):=by
 refine qag mixed Tryz.func202 qcl ?_
 refine zV ?_
 simp only [ZZ,WW,Zd,reduceCtorEq,zd,ze,zb,zf,za,qan]
 refine qac (fun n fr L=>∃ (k:Nat),k≤l.length∧n=l.length - k∧(∀ x∈l.take k,q x=false)∧fr=(.p (.sl 7 (itE l))::.p (.clo f ps)::oC (oo::(.p (int (l.length:Nat))::.p (int (k:Nat))::oD (oB []))))∧L=[]) (l.length) _ [] (by simp only [qan,ZZ,WW,Zd,reduceCtorEq,zd,ze,zb,zf,za];try trivial) zF_ ⟨0,by omega,by omega,by simp,rfl,rfl⟩ ?_
 rintro n fr L ⟨k,hk,rfl,hno,rfl,rfl⟩
 simp only [qaP,ZZ,WW,Zd,reduceCtorEq,zd,ze,zb,zf,za]
 refine br ?_ ?_
 ·intro h
  have hlt:k < l.length:=by have:=of_decide_eq_true h;omega
  obtain ⟨x,hx⟩:∃ x,l[k]?=some x:=⟨_,zg hlt⟩
  have hg:=qc6 hx
  simp only [itC] at hg
  simp only [ZZ,WW,Zd,reduceCtorEq,zd,ze,zb,zf,za,hg,qan,hfn ()]
  refine ⟨⟨by omega,by omega⟩,by omega,hps,?_⟩
  refine use1 (hf x (zm hx)) (hn x) (.inl (hr x)) ?_
  refine zS ?_
  refine br ?_ ?_
  ·intro hq
   refine zS ?_
   rw [qf6 hx hq hno]
  ·intro hq
   refine zS ?_
   ((with_reducible and_intros)<;>try exact sc_)
   refine qab (l.length - (k+1)) _ [] (by omega) zF_ zF_ ⟨k+1,by omega,rfl,by rw [List.take_succ_eq_append_getElem hlt];intro y hy;rcases List.mem_append.1 hy with hy|hy;exact hno y hy;rw [zy] at hy;rw [hy,(zk.1 hx).2];exact hq,rfl,rfl⟩
 ·intro h
  have hge:l.length≤k:=by have:=of_decide_eq_false h;omega
  rw [List.take_of_length_le hge] at hno
  refine zS ?_
  rw [qd2 hno]
theorem qtH (x:Itm) (s:List UInt8):PCall Tryz.prog E 268 [.agg (itC x),.ptr [.str s]] (·=.bool (decide (x.1=s))):=by
 simp only [itC]
 refine qag mixed Tryz.func268 qhR ?_
 simp only [a0,l0,OS.ao,XX,Nat.reduceSub,qeo,ZZ,WW,Zd,reduceCtorEq,zd,ze,zb,zf,za]
def plF (il:List Itm) (s:List UInt8):Int:=idxF (fun x=>decide (x.1=s)) il
theorem qm8 (il:List Itm) (s:List UInt8) (hl:il.length≤1000000):PCall Tryz.prog E 238 [.sl 7 (itE il),.str s] (·=int (plF il s)):=by
 refine qag mixed Tryz.func238 qji ?_
 refine zV ?_
 refine use1 (qjw il 268 [.ptr [.str s]] (fun x=>decide (x.1=s)) (by omega) (fun _=>by kernel_rfl) rfl (fun y _=>qtH y s) (fun _=>rfl) (fun _=>rfl)) rfl (.inr rfl) ?_
 refine zS ?_
 rfl
theorem qtJ {il:List Itm} (h:qbl il):plF il []=-1:=by
 refine qd2 fun x hx=>?_
 obtain ⟨i,hi⟩:=zQ hx
 rw [(h.2 i x hi).b1]
 simp [pid]
theorem qia {il:List Itm} (h:qbl il) {j:Nat} {y:Itm} (hy:il[j]?=some y):plF il (pid j)=j:=by
 have hjl:=(zk.1 hy).1
 have h20:=h.1
 refine qf6 hy (by rw [(h.2 j y hy).b1];simp) fun z hz=>?_
 obtain ⟨i,hi⟩:=zQ hz
 have hlt:i < j:=by have:=(zk.1 hi).1;rw [zJ] at this;omega
 rw [List.getElem?_take_of_lt hlt] at hi
 rw [(h.2 i z hi).b1,decide_eq_false_iff_not]
 intro e
 have:=qtM (by omega) (by omega) e
 omega
def upF (il:List Itm) (x:Itm):List Int:=if x.2.2.2.2.2.1=[] then [] else [plF il x.2.2.2.2.2.1]
theorem qhv (il:List Itm) (hP:qbl il) (i:Nat) (x:Itm) (hx:il[i]?=some x):PCall Tryz.prog E 242 [.sl 7 (itE il),int (i:Nat)] (·=.tup [.sl 1 (ixE (upF il x)),.bool true]):=by
 have hp:=hP.2 i x hx
 have h20:=hP.1
 have hil:=(zk.1 hx).1
 have hg:=qc6 hx
 simp only [itC] at hg
 refine qag mixed Tryz.func242 qjj ?_
 refine zV ?_
 simp only [ZZ,WW,Zd,reduceCtorEq,zd,ze,zb,zf,za,hg,qan]
 ((with_reducible and_intros)<;>try exact sc_)
 refine use1 (qm8 il x.2.2.2.2.2.1 (by omega)) rfl (.inl rfl) ?_
 refine zS ?_
 by_cases hq:x.2.2.2.2.2.1=[]
 ·have hpl:plF il x.2.2.2.2.2.1=-1:=by rw [hq];exact qtJ hP
  rw [upF,if_pos hq,hpl]
  refine qac (fun n fr L=>n=0∧fr=(.p (.sl 7 (itE il))::.p (int (i:Nat))::oo::oo::oo::oo::.row (.l 6)::.p (int (-1))::oF (oD (oo::[])))∧L=[(.l 6,.row [] 3 1 true)]) 0 _ _ zF_ zE_ ⟨rfl,rfl,rfl⟩ ?_
  rintro n fr L ⟨rfl,rfl,rfl⟩
  have n1:decide ((0:Int)≤-1)=false:=rfl
  simp only [qb0,ZZ,WW,Zd,reduceCtorEq,zd,ze,zb,zf,za]
  simp only [ZZ,WW,Zd,reduceCtorEq,zd,ze,zb,zf,za,hg,qan,n1]
  refine ⟨fun h=>h.elim,fun h=>h.elim,?_⟩
  refine qaj zE_ ?_
  refine zS ?_
  rfl
 ·obtain ⟨j,y,hj,hy,hy1,hy2,hpj⟩:=hp.b6.resolve_left hq
  have hpl:plF il x.2.2.2.2.2.1=(j:Nat):=by rw [hpj];exact qia hP hy
  have hjl:=(zk.1 hy).1
  have hgy:=qc6 hy
  simp only [itC] at hgy
  have hq2:decide (x.2.2.2.2.2.1=[])=false:=by simpa using hq
  have hy3:decide (y.2.2.2.2.2.1=[])=true:=by simpa using hy1
  rw [upF,if_neg hq,hpl]
  refine qac (fun n fr L=>n=0∧fr=(.p (.sl 7 (itE il))::.p (int (i:Nat))::oo::oo::oo::oo::.row (.l 6)::.p (int (j:Nat))::oF (oD (oo::[])))∧L=[(.l 6,.row [] 3 1 true)]) 0 _ _ zF_ zE_ ⟨rfl,rfl,rfl⟩ ?_
  rintro n fr L ⟨rfl,rfl,rfl⟩
  have p1:decide ((0:Int)≤((j:Nat):Int))=true:=by rw [decide_eq_true_eq];omega
  simp only [qb0,ZZ,WW,Zd,reduceCtorEq,zd,ze,zb,zf,za]
  simp only [ZZ,WW,Zd,reduceCtorEq,zd,ze,zb,zf,za,hg,hgy,qan,hq2,hy3,p1]
  ((with_reducible and_intros)<;>try exact sc_)
  refine br (fun h=>by have:=of_decide_eq_true h;omega) ?_
  intro _
  simp only [ZZ,WW,Zd,reduceCtorEq,zd,ze,zb,zf,za,hg,hgy,qan,hq2,hy3,p1]
  ((with_reducible and_intros)<;>try exact sc_)
  refine qaj zE_ ?_
  refine zS ?_
  rfl
theorem qsk (il:List Itm) (hP:qbl il) (i:Nat) (x:Itm) (hx:il[i]?=some x):PCall Tryz.prog E 269 [.sl 7 (itE il),int (i:Nat)] (·=.bool false):=by
 have hp:=hP.2 i x hx
 have h20:=hP.1
 refine qag mixed Tryz.func269 qhQ ?_
 refine zV ?_
 refine use1 (qhv il hP i x hx) rfl (.inl rfl) ?_
 refine zS ?_
 have hul:(upF il x).length≤1:=by unfold upF;split<;>simp
 refine use1 (qpQ (upF il x) (i:Nat) (by omega)) rfl (.inl rfl) ?_
 refine zS ?_
 have:((i:Nat):Int)∉upF il x:=by
  unfold upF
  split
  ·simp
  ·rename_i hq
   obtain ⟨j,y,hj,hy,hy1,hy2,hpj⟩:=hp.b6.resolve_left hq
   rw [hpj,qia hP hy,zy]
   omega
 rw [decide_eq_false this]
theorem qoi (il:List Itm) (hP:qbl il):PCall Tryz.prog E 239 [.sl 7 (itE il)] (·=int 0):=by
 have h20:=hP.1
 refine qag mixed Tryz.func239 qgF ?_
 refine zV ?_
 simp only [ZZ,WW,Zd,reduceCtorEq,zd,ze,zb,zf,za,qan]
 refine qac (fun n fr L=>∃ (k:Nat),k≤il.length∧n=il.length - k∧fr=(.p (.sl 7 (itE il))::oD (.p (int (il.length:Nat))::.p (int (k:Nat))::oF (oE (oC (oB [])))))∧L=[]) (il.length) _ [] (by simp only [ZZ,WW,Zd,reduceCtorEq,zd,ze,zb,zf,za,qan];try trivial) zF_ ⟨0,by omega,by omega,rfl,rfl⟩ ?_
 rintro n fr L ⟨k,hk,rfl,rfl,rfl⟩
 simp only [qcv,ZZ,WW,Zd,reduceCtorEq,zd,ze,zb,zf,za]
 refine br ?_ ?_
 ·intro h
  have hlt:k < il.length:=by have:=of_decide_eq_true h;omega
  obtain ⟨x,hx⟩:∃ x,il[k]?=some x:=⟨_,zg hlt⟩
  refine zS ?_
  refine use1 (qsk il hP k x hx) rfl (.inl rfl) ?_
  refine zS ?_
  ((with_reducible and_intros)<;>try exact sc_)
  refine qab (il.length - (k+1)) _ [] (by omega) zF_ zF_ ⟨k+1,by omega,rfl,rfl,rfl⟩
 intro h
 clear h
 simp only [ZZ,WW,Zd,reduceCtorEq,zd,ze,zb,zf,za,qan]
 refine qac (fun n fr L=>∃ (k:Nat),k≤il.length∧n=il.length - k∧fr=(.p (.sl 7 (itE il))::oE (oo::(.p (int (il.length:Nat))::.p (int (k:Nat))::oF (oD (oC (oo::[]))))))∧L=[]) (il.length) _ [] (by simp only [ZZ,WW,Zd,reduceCtorEq,zd,ze,zb,zf,za,qan];try trivial) zF_ ⟨0,by omega,by omega,rfl,rfl⟩ ?_
 rintro n fr L ⟨k,hk,rfl,rfl,rfl⟩
 simp only [qcu,ZZ,WW,Zd,reduceCtorEq,zd,ze,zb,zf,za]
 refine br ?_ ?_
 ·intro h
  have hlt:k < il.length:=by have:=of_decide_eq_true h;omega
  obtain ⟨x,hx⟩:∃ x,il[k]?=some x:=⟨_,zg hlt⟩
  have hp:=hP.2 k x hx
  have hg:=qc6 hx
  have hul:(upF il x).length≤1:=by unfold upF;split<;>simp
  have hul4:decide ((4:Int) < ((upF il x).length:Nat))=false:=by rw [decide_eq_false_iff_not];omega
  simp only [itC] at hg
  simp only [ZZ,WW,Zd,reduceCtorEq,zd,ze,zb,zf,za,hg,qan]
  ((with_reducible and_intros)<;>try exact sc_)
  refine use1 (qm8 il x.2.2.2.2.2.1 (by omega)) rfl (.inl rfl) ?_
  by_cases hq:x.2.2.2.2.2.1=[]
  ·have hq2:decide (x.2.2.2.2.2.1=[])=true:=by simpa using hq
   have hpl:plF il x.2.2.2.2.2.1=-1:=by rw [hq];exact qtJ hP
   have n1:decide ((0:Int)≤-1)=false:=rfl
   rw [hpl]
   have n2:(-1:Int).toNat=0:=rfl
   obtain ⟨x0,hx0⟩:∃ x0,il[0]?=some x0:=⟨_,zg (by omega)⟩
   have hg0:=qc6 hx0
   simp only [itC] at hg0
   simp only [ZZ,WW,Zd,reduceCtorEq,zd,ze,zb,zf,za,hg,hg0,qan,hq2,n1,n2]
   ((with_reducible and_intros)<;>try exact sc_)
   refine use1 (qhv il hP k x hx) rfl (.inl rfl) ?_
   simp only [ZZ,WW,Zd,reduceCtorEq,zd,ze,zb,zf,za,qfT,hul4]
   ((with_reducible and_intros)<;>try exact sc_)
   refine qab (il.length - (k+1)) _ [] (by omega) zF_ zF_ ⟨k+1,by omega,rfl,rfl,rfl⟩
  ·have hq2:decide (x.2.2.2.2.2.1=[])=false:=by simpa using hq
   obtain ⟨j,y,hj,hy,hy1,hy2,hpj⟩:=hp.b6.resolve_left hq
   have hpl:plF il x.2.2.2.2.2.1=(j:Nat):=by rw [hpj];exact qia hP hy
   have hgy:=qc6 hy
   simp only [itC] at hgy
   have p1:decide ((0:Int)≤((j:Nat):Int))=true:=by rw [decide_eq_true_eq];omega
   rw [hpl]
   rcases hy2 with h1|h1
   ·have h2:decide (y.2.2.1=1)=true:=by simpa using h1
    simp only [ZZ,WW,Zd,reduceCtorEq,zd,ze,zb,zf,za,hg,hgy,qan,hq2,p1,h2]
    ((with_reducible and_intros)<;>try exact sc_)
    refine use1 (qhv il hP k x hx) rfl (.inl rfl) ?_
    simp only [ZZ,WW,Zd,reduceCtorEq,zd,ze,zb,zf,za,qfT,hul4]
    ((with_reducible and_intros)<;>try exact sc_)
    refine qab (il.length - (k+1)) _ [] (by omega) zF_ zF_ ⟨k+1,by omega,rfl,rfl,rfl⟩
   ·have h2:decide (y.2.2.1=1)=false:=by rw [h1];rfl
    have h3:decide (y.2.2.1=3)=true:=by simpa using h1
    simp only [ZZ,WW,Zd,reduceCtorEq,zd,ze,zb,zf,za,hg,hgy,qan,hq2,p1,h2,h3]
    ((with_reducible and_intros)<;>try exact sc_)
    refine use1 (qhv il hP k x hx) rfl (.inl rfl) ?_
    simp only [ZZ,WW,Zd,reduceCtorEq,zd,ze,zb,zf,za,qfT,hul4]
    ((with_reducible and_intros)<;>try exact sc_)
    refine qab (il.length - (k+1)) _ [] (by omega) zF_ zF_ ⟨k+1,by omega,rfl,rfl,rfl⟩
 intro h
 simp only [ZZ,WW,Zd,reduceCtorEq,zd,ze,zb,zf,za]
end
theorem qy2:∀ i j:Fin 26,i < j→(bytesLess (pid j.val) (pid i.val) || decide (pid j.val=pid i.val))=false:=by decide +kernel
theorem qy3:∀ j:Fin 26,(bytesLess (pid j.val) [] || decide (pid j.val=[]))=false:=by decide +kernel
set_option maxRecDepth 100000 in
theorem qn6 (il:List Itm) (hP:qbl il):PCall Tryz.prog E0 193 [.sl 7 (itE il)] (·=int 0):=by
 have h20:=hP.1
 refine qag mixed Tryz.func193 qf9 ?_
 refine zV ?_
 have h2000:decide (2000 < (il.length:Int))=false:=by rw [decide_eq_false_iff_not];omega
 simp only [ZZ,WW,Zd,reduceCtorEq,zd,ze,zb,zf,za,qan,h2000]
 refine qac (fun n fr L=>∃ (k:Nat) (s:List UInt8),k≤il.length∧n=il.length - k∧((k=0∧s=[])∨∃ q,k=q+1∧s=pid q)∧fr=(.p (.sl 7 (itE il))::oo::oo::.p (.str s)::oD (.p (.sl 7 (itE il))::.p (int (il.length:Nat))::.p (int (k:Nat))::oF (oB [])))∧L=[]) (il.length) _ [] (by simp only [ZZ,WW,Zd,reduceCtorEq,zd,ze,zb,zf,za,qan];try trivial) zF_ ⟨0,[],by omega,by omega,.inl ⟨rfl,rfl⟩,rfl,rfl⟩ ?_
 rintro n fr L ⟨k,s,hk,rfl,hs,rfl,rfl⟩
 simp only [qcc,ZZ,WW,Zd,reduceCtorEq,zd,ze,zb,zf,za]
 refine br ?_ ?_
 ·intro h
  have hlt:k < il.length:=by have:=of_decide_eq_true h;omega
  obtain ⟨x,hx⟩:∃ x,il[k]?=some x:=⟨_,zg hlt⟩
  have hg:=qc6 hx
  obtain ⟨hz,hS⟩:=(hP.2 k x hx).right (by omega)
  have hci:=qpO x hS
  rw [hz] at hci
  have hb1:=(hP.2 k x hx).b1
  have hle:(bytesLess x.1 s || decide (x.1=s))=false:=by
   rw [hb1]
   rcases hs with ⟨_,rfl⟩|⟨q,hq,rfl⟩
   ·exact qy3 ⟨k,by omega⟩
   ·exact qy2 ⟨q,by omega⟩ ⟨k,by omega⟩ (by simp [Fin.lt_def];omega)
  simp only [itC] at hg hci
  simp only [ZZ,WW,Zd,reduceCtorEq,zd,ze,zb,zf,za,hg,qan]
  ((with_reducible and_intros)<;>try exact sc_)
  refine use1 hci rfl (.inl rfl) ?_
  simp only [ZZ,WW,Zd,reduceCtorEq,zd,ze,zb,zf,za,hle]
  refine br (fun h=>by simp at h) ?_
  intro _
  simp only [ZZ,WW,Zd,reduceCtorEq,zd,ze,zb,zf,za,hle]
  ((with_reducible and_intros)<;>try exact sc_)
  refine qab (il.length - (k+1)) _ [] (by omega) zF_ zF_ ⟨k+1,x.1,by omega,rfl,.inr ⟨k,rfl,hb1⟩,rfl,rfl⟩
 intro h
 clear h
 simp only [ZZ,WW,Zd,reduceCtorEq,zd,ze,zb,zf,za,qan]
 refine qac (fun n fr L=>∃ (k:Nat),k≤il.length∧n=il.length - k∧fr=(.p (.sl 7 (itE il))::oE (oD (oC (oo::(.p (.sl 7 (itE il))::.p (int (il.length:Nat))::.p (int (k:Nat))::oE [])))))∧L=[]) (il.length) _ [] (by simp only [ZZ,WW,Zd,reduceCtorEq,zd,ze,zb,zf,za,qan];try trivial) zF_ ⟨0,by omega,by omega,rfl,rfl⟩ ?_
 rintro n fr L ⟨k,hk,rfl,rfl,rfl⟩
 simp only [qcb,ZZ,WW,Zd,reduceCtorEq,zd,ze,zb,zf,za]
 refine br ?_ ?_
 ·intro h
  have hlt:k < il.length:=by have:=of_decide_eq_true h;omega
  obtain ⟨x,hx⟩:∃ x,il[k]?=some x:=⟨_,zg hlt⟩
  have hp:=hP.2 k x hx
  have hg:=qc6 hx
  simp only [itC] at hg
  by_cases hq:x.2.2.2.2.2.1=[]
  ·have hq2:decide (x.2.2.2.2.2.1=[])=true:=by simpa using hq
   simp only [ZZ,WW,Zd,reduceCtorEq,zd,ze,zb,zf,za,hg,qan,hq2]
   ((with_reducible and_intros)<;>try exact sc_)
   refine useG (r:=int 0) (fun h=>by cases h) rfl (.inl rfl) ?_
   refine zS ?_
   ((with_reducible and_intros)<;>try exact sc_)
   refine qab (il.length - (k+1)) _ [] (by omega) zF_ zF_ ⟨k+1,by omega,rfl,rfl,rfl⟩
  ·have hq2:decide (x.2.2.2.2.2.1=[])=false:=by simpa using hq
   obtain ⟨j,y,hj,hy,hy1,hy2,hpj⟩:=hp.b6.resolve_left hq
   have hpl:plF il x.2.2.2.2.2.1=(j:Nat):=by rw [hpj];exact qia hP hy
   have n1:decide (((j:Nat):Int) < 0)=false:=by rw [decide_eq_false_iff_not];omega
   simp only [ZZ,WW,Zd,reduceCtorEq,zd,ze,zb,zf,za,hg,qan,hq2]
   ((with_reducible and_intros)<;>try exact sc_)
   refine useG (fun _=>qm8 il x.2.2.2.2.2.1 (by omega)) rfl (.inl rfl) ?_
   rw [hpl]
   simp only [ZZ,WW,Zd,reduceCtorEq,zd,ze,zb,zf,za,n1]
   ((with_reducible and_intros)<;>try exact sc_)
   refine qab (il.length - (k+1)) _ [] (by omega) zF_ zF_ ⟨k+1,by omega,rfl,rfl,rfl⟩
 intro h
 clear h
 refine zS ?_
 refine use1 (qoi il hP) rfl (.inl rfl) ?_
 simp only [ZZ,WW,Zd,reduceCtorEq,zd,ze,zb,zf,za]
abbrev qim:IC:=(sR [qO 3 (.box 9 (.t 1)),qO 4 (.alc 79 [.str [],.str [],.int .i64 0,.str [],.int .i64 0,.str [],.str []]),qO 5 (.mov (.c (.bool false)))] (sR [qM 7 0,qO 8 (.mkf 203 [.t 3]),jC 9 202 [.t 7,.t 8],qM 6 9] (.seq (sR [qM 10 6,qB 11 .lss 10 (cI 0)] (jW 11 (sR [qO 12 (.bld [.str [],.str [],.int .i64 0,.str [],.int .i64 0,.str [],.str []] []),qS 7 4 12,qO 5 (.mov (.c (.bool false)))] .ret))) (sR [qM 13 0,qM 14 6,qX 15 7 13 14,qO 16 (.ld 7 true (.t 15)),qS 7 4 16,qO 5 (.mov (.c (.bool true)))] .ret))))
theorem qiy:chkF Tryz.prog Tryz.f152 qim [.c 4 7 true,.t 5] 17=true:=by kernel_rfl
def qdY:IC:=(sR [qO 2 (.box 79 (.t 0)),qO 3 (.mov (.c (.bool false)))] (sR [qF 4 0 2,qL 5 4,qL 6 1,qT 7 .eql 5 6,qM 3 7] .ret))
theorem qhk:chkF Tryz.prog Tryz.f203 qdY [.t 3] 8=true:=by kernel_rfl
def qbT:IC:=(sR [qT 22 .lss 21 20] (.seq (jE 22) (.seq (.block 1 (sR [qM 23 21,qX 24 3 19 21,qO 25 (.ld 3 true (.t 24)),qO 7 (.alc 130 [.str [],.int .i64 0,.nl 2]),qM 6 23,qS 3 7 25] (sR [qM 27 0,qF 28 0 7,qL 29 28,jC 30 152 [.t 27,.t 29],qM 26 30,qO 31 (.ext 0 (.t 26)),qO 32 (.ext 1 (.t 26)),qO 8 (.alc 79 [.str [],.str [],.int .i64 0,.str [],.int .i64 0,.str [],.str []]),qS 7 8 31,qM 9 32] (.seq (.block 2 (sR [qM 34 9,qO 35 (.not (.t 34)),qM 33 35] (.cond (.t 33) (sR [jI 4 8] .ret) (.seq (.drg [qM 37 6,qB 38 .gtr 37 (cI 0),qM 39 38,⟨some 40,.fla 0 (.t 7),(some (39,true))⟩,⟨some 41,.ld 1 false (.t 40),(some (39,true))⟩,⟨some 42,.mov (.t 1),(some (39,true))⟩,⟨some 43,.mov (.t 6),(some (39,true))⟩,⟨some 44,.bin .sub (.t 43) (cI 1),(some (39,true))⟩,⟨some 45,.ixa 3 (.t 42) (.t 44),(some (39,true))⟩,⟨some 46,.fla 0 (.t 45),(some (39,true))⟩,⟨some 47,.ld 1 false (.t 46),(some (39,true))⟩,⟨some 48,.bin .leq (.t 41) (.t 47),(some (39,true))⟩,qO 49 (.pick (.t 39) (.t 48) (.c (.bool false))),qM 36 49]) (.cond (.t 36) (sR [jI 4 7] .ret) (sR [qF 51 1 7,qL 52 51,qB 53 .lss 52 (cI 1),qM 54 53,⟨some 55,.fla 1 (.t 7),(some (54,false))⟩,⟨some 56,.ld 1 false (.t 55),(some (54,false))⟩,⟨some 57,.bin .gtr (.t 56) (cI 3),(some (54,false))⟩,qO 58 (.pick (.t 54) (.c (.bool true)) (.t 57)),qM 50 58] (.cond (.t 50) (sR [jI 4 4] .ret) (sR [qF 60 2 7,qL 61 60,qN 62 61,qB 63 .gtr 62 (cI 0),qM 64 63,⟨some 65,.fla 1 (.t 7),(some (64,true))⟩,⟨some 66,.ld 1 false (.t 65),(some (64,true))⟩,⟨some 67,.bin .neq (.t 66) (cI 1),(some (64,true))⟩,qO 68 (.pick (.t 64) (.t 67) (.c (.bool false))),qM 59 68] (jW 59 (sR [jI 4 3] .ret)))))))))) (sR [qF 69 2 7,qL 70 69,qF 71 6 8,qL 72 71,qO 73 (.sln (.t 72)),jC 74 194 [.t 70,.t 73],qM 10 74] (sR [qM 75 10,qB 76 .neq 75 (cI 0)] (jW 76 (sR [qM 77 10,qM 4 77] .ret)))))))) (.reg [qB 78 .add 21 (cI 1),qM 21 78]))))
abbrev qfd:IC:=(sR [jI 4 0] (.seq (sR [qM 11 0,jC 12 193 [.t 11],qM 5 12] (sR [qM 13 5,qB 14 .neq 13 (cI 0)] (jW 14 (sR [qM 15 5,qM 4 15] .ret)))) (.seq (sR [qM 16 1,qN 17 16,qB 18 .gtr 17 (cI 2000)] (jW 18 (sR [jI 4 2] .ret))) (.seq (sR [qM 19 1,qN 20 19,jI 21 0] (.block 0 (.loop qbT))) (sR [jI 4 0] .ret)))))
theorem qfk:chkF Tryz.prog Tryz.f148 qfd [.t 4] 79=true:=by kernel_rfl
def qbA:IC:=(sR [qT 10 .lss 9 8] (.seq (jE 10) (.seq (.block 1 (sR [qX 11 3 7 9,qO 12 (.ld 3 true (.t 11)),qO 6 (.alc 130 [.str [],.int .i64 0,.nl 2]),qS 3 6 12] (sR [qF 13 0 6,qL 14 13,qM 15 1,qT 16 .eql 14 15] (jW 16 (sR [qO 17 (.ld 3 true (.t 6)),qS 3 4 17] .ret))))) (.reg [qB 18 .add 9 (cI 1),qM 9 18]))))
abbrev qg7:IC:=(sR [qO 4 (.alc 130 [.str [],.int .i64 0,.nl 2])] (.seq (sR [qM 7 0,qN 8 7,jI 9 0] (.block 0 (.loop qbA))) (sR [qM 19 1,qO 20 (.bld [.str [],.int .i64 0,.nl 2] [(0,1,.t 19),(1,1,.c (.int .i64 3))]),qS 3 4 20] .ret)))
theorem qd5:chkF Tryz.prog Tryz.f151 qg7 [.c 4 3 true] 21=true:=by kernel_rfl
section
variable {E:Envt}
theorem qwz {il:List Itm} (hP:qbl il) (s:List UInt8):(itOf il s).2.2.2.2.2.2.length≤600:=by
 unfold itOf
 cases hg:getI il s with
 |none=>simp [it0]
 |some y=>
  obtain ⟨j,hj,_⟩:=qo4 hP hg
  exact (hP.2 j y hj).b7.1
theorem qsy (x:Itm) (s:List UInt8):PCall Tryz.prog E 203 [.agg (itC x),.ptr [.str s]] (·=.bool (decide (x.1=s))):=by
 simp only [itC]
 refine qag mixed Tryz.func203 qhk ?_
 simp only [a0,l0,OS.ao,XX,Nat.reduceSub,qdY,ZZ,WW,Zd,reduceCtorEq,zd,ze,zb,zf,za]
theorem qiV (il:List Itm) (hP:qbl il) (s:List UInt8):PCall Tryz.prog E 152 [.sl 7 (itE il),.str s] (·=.tup [.agg (itC (itOf il s)),.bool (getI il s).isSome]):=by
 have h20:=hP.1
 refine qag mixed Tryz.func152 qiy ?_
 refine zV ?_
 refine use1 (qjw il 203 [.ptr [.str s]] (fun x=>decide (x.1=s)) (by omega) (fun _=>by kernel_rfl) rfl (fun y _=>qsy y s) (fun _=>rfl) (fun _=>rfl)) rfl (.inr rfl) ?_
 cases hg:getI il s with
 |none=>
  rw [qd2 (quy hg)]
  refine zS ?_
  refine br ?_ (fun h=>by simp at h)
  intro _
  refine zS ?_
  rw [itOf,hg]
  rfl
 |some y=>
  obtain ⟨j,hj,rfl⟩:=qo4 hP hg
  have hjl:=(zk.1 hj).1
  have e:idxF (fun x:Itm=>decide (x.1=pid j)) il=(j:Nat):=qia hP hj
  have n1:decide (((j:Nat):Int) < 0)=false:=by rw [decide_eq_false_iff_not];omega
  have hgy:=qc6 hj
  simp only [itC] at hgy
  rw [e]
  simp only [ZZ,WW,Zd,reduceCtorEq,zd,ze,zb,zf,za,n1,hgy,qan]
  ((with_reducible and_intros)<;>try exact sc_)
  rw [itOf,hg]
  rfl
set_option maxRecDepth 100000 in
theorem qlH (il:List Itm) (hP:qbl il) (l:List Rul) (hl:l.length≤1000000) (hb:∀ r∈l,r.spans.length≤1000000):PCall Tryz.prog E0 148 [.sl 7 (itE il),.sl 3 (rlE l)] (·=int (rulF il l)):=by
 have h20:=hP.1
 refine qag mixed Tryz.func148 qfk ?_
 refine zV ?_
 refine use1 (qn6 il hP) rfl (.inl rfl) ?_
 refine zS ?_
 refine br (fun h=>by simp at h) ?_
 intro _
 simp only [ZZ,WW,Zd,reduceCtorEq,zd,ze,zb,zf,za,qbN]
 by_cases hL:2000 < l.length
 ·have h1:decide (2000 < (l.length:Int))=true:=by rw [decide_eq_true_eq];omega
  rw [rulF,if_pos hL,h1]
  refine br ?_ (fun h=>by cases h)
  intro _
  simp only [ZZ,WW,Zd,reduceCtorEq,zd,ze,zb,zf,za]
 have h1:decide (2000 < (l.length:Int))=false:=by rw [decide_eq_false_iff_not];omega
 rw [rulF,if_neg hL,h1]
 refine br (fun h=>by cases h) ?_
 intro _
 have hget:=fun {k:Nat} (h:k < l.length)=>qba _ k _ (qyN il l h)
 obtain ⟨G,hG⟩:∃ G,(List.range l.length).map (ruE il l)=G:=⟨_,rfl⟩
 have hGl:G.length=l.length:=by rw [← hG];simp
 rw [hG] at hget ⊢
 simp only [ZZ,WW,Zd,reduceCtorEq,zd,ze,zb,zf,za,qbN]
 refine qac (fun n fr L=>∃ (k:Nat),k≤l.length∧n=l.length - k∧(qai G=qai (G.drop k))∧fr=(.p (.sl 7 (itE il))::.p (.sl 3 (rlE l))::oE (oo::(.p (.sl 3 (rlE l))::.p (int (l.length:Nat))::.p (int (k:Nat))::oF (oE (oD (oo::[]))))))∧L=[]) (l.length) _ [] (by simp only [ZZ,WW,Zd,reduceCtorEq,zd,ze,zb,zf,za,qbN];try trivial) zF_ ⟨0,by omega,by omega,rfl,rfl,rfl⟩ ?_
 rintro n fr L ⟨k,hk,rfl,hF,rfl,rfl⟩
 simp only [qbT,ZZ,WW,Zd,reduceCtorEq,zd,ze,zb,zf,za]
 refine br ?_ ?_
 rotate_left
 ·intro h
  have hge:l.length≤k:=by have:=of_decide_eq_false h;omega
  refine zS ?_
  rw [hF,List.drop_eq_nil_of_le (by omega)]
  rfl
 intro h
 have hlt:k < l.length:=by have:=of_decide_eq_true h;omega
 obtain ⟨r,hr⟩:∃ r,l[k]?=some r:=⟨_,zg hlt⟩
 have hg:=qla hr
 have hrb:=hb r (zm hr)
 have hd:=hget hlt
 have hrd:l.getD k rl0=r:=by simp [zu,hr]
 have hy:=qwz hP r.id
 have hio:=qiV (E:=E0) il hP r.id
 have hnn:(getI il r.id).isNone=!(getI il r.id).isSome:=by cases getI il r.id<;>rfl
 have hru:ruE il l k=qai [qak (!(getI il r.id).isSome) 8,qak (decide (0 < k) && (bytesLess r.id (l.getD (k - 1) rl0).id || decide (r.id=(l.getD (k - 1) rl0).id))) 7,qak (!inE r.what 1 3) 4,qak (decide (0 < r.spans.length) && !decide (r.what=1)) 3,qfs r.spans ((itOf il r.id).2.2.2.2.2.2.length:Nat)]:=by
  rw [ruE,hrd,hnn]
  rfl
 simp only [itC] at hio
 generalize itOf il r.id=y at *
 generalize (getI il r.id).isSome=b at *
 simp only [ZZ,WW,Zd,reduceCtorEq,zd,ze,zb,zf,za,hg,qbN]
 ((with_reducible and_intros)<;>try exact sc_)
 refine use1 hio rfl (.inl rfl) ?_
 refine zS ?_
 cases b with
 |false=>
  have hz:ruE il l k=8:=hru
  refine br ?_ (fun h=>by cases h)
  intro _
  refine zS ?_
  rw [hF,hd,hz]
  rfl
 |true=>
 refine br (fun h=>by cases h) ?_
 intro _
 obtain ⟨u,hu⟩:∃ u,l[k - 1]?=some u:=⟨_,zg (by omega)⟩
 have hgu:=qla hu
 have hud:l.getD (k - 1) rl0=u:=by simp [zu,hu]
 have hk1:((k:Int) - 1).toNat=k - 1:=by omega
 have z1:decide ((0:Int) < (k:Int))=decide (0 < k):=decide_eq_decide.2 (by omega)
 have hls:decide ((0:Int) < (r.spans.length:Int))=decide (0 < r.spans.length):=decide_eq_decide.2 (by omega)
 have hwh:(decide (r.what < 1) || decide (3 < r.what))=!inE r.what 1 3:=by
  unfold inE
  rw [Bool.eq_iff_iff]
  simp only [Bool.or_eq_true,decide_eq_true_eq,Bool.not_eq_true',Bool.and_eq_false_iff,decide_eq_false_iff_not]
  omega
 rw [hud] at hru
 refine drg0 ?_
 simp only [ZZ,WW,Zd,reduceCtorEq,zd,ze,zb,zf,za,hk1,hgu,qbN,z1]
 refine ⟨?_,?_,?_,?_⟩
 iterate 3
  ·intro h
   have hp:=of_decide_eq_true h
   (repeat' (first|exact h|apply And.intro))<;>first|omega|exact qal (by omega) (by omega)
 generalize hc:(decide (0 < k) && (bytesLess r.id u.id || decide (r.id=u.id)))=c7 at *
 refine br ?_ ?_
 ·intro h7
  have hz:ruE il l k=7:=by rw [hru,h7];rfl
  refine zS ?_
  rw [hF,hd,hz]
  rfl
 intro h7
 rw [h7] at hru
 refine zS ?_
 rw [hwh]
 refine ⟨fun h=>by rw [h];rfl,?_⟩
 generalize hc4:(!inE r.what 1 3)=c4 at *
 refine br ?_ ?_
 ·intro h4
  have hz:ruE il l k=4:=by rw [hru,h4];rfl
  refine zS ?_
  rw [hF,hd,hz]
  rfl
 intro h4
 rw [h4] at hru
 simp only [ZZ,WW,Zd,reduceCtorEq,zd,ze,zb,zf,za,zw,hls]
 generalize hc3:(decide (0 < r.spans.length) && !decide (r.what=1))=c3 at *
 refine br ?_ ?_
 ·intro h3
  have hz:ruE il l k=3:=by rw [hru,h3];rfl
  refine zS ?_
  rw [hF,hd,hz]
  rfl
 intro h3
 rw [h3] at hru
 have hz:ruE il l k=qfs r.spans (y.2.2.2.2.2.2.length:Nat):=by
  rw [hru]
  simp only [qai,qak]
  generalize qfs r.spans _=s
  simp
  intro h
  exact h.symm
 refine zS ?_
 refine use1 (qn4 r.spans _ (by omega)) rfl (.inl rfl) ?_
 rw [← hz]
 refine zS ?_
 refine br ?_ ?_
 ·intro h2
  have h5:¬ ruE il l k=0:=by simpa using h2
  refine zS ?_
  rw [hF,hd,if_neg h5]
 ·intro h2
  have h5:ruE il l k=0:=by simpa using h2
  rw [if_pos h5] at hd
  refine zS ?_
  ((with_reducible and_intros)<;>try exact sc_)
  refine qab (l.length - (k+1)) _ [] (by omega) zF_ zF_ ⟨k+1,by omega,rfl,by rw [hF,hd],rfl,rfl⟩
end
def qaH:IC:=(.seq (.seq (.drg [qM 18 9,qM 19 1,qT 20 .gtr 18 19,qM 21 20,⟨some 22,.mov (.t 3),(some (21,true))⟩,⟨some 23,.mov (.t 0),(some (21,true))⟩,⟨some 24,.mov (.t 9),(some (21,true))⟩,⟨some 25,.ixa 2 (.t 23) (.t 24),(some (21,true))⟩,⟨some 26,.ld 2 true (.t 25),(some (21,true))⟩,⟨some 27,.mov (.t 0),(some (21,true))⟩,⟨some 28,.mov (.t 9),(some (21,true))⟩,⟨some 29,.bin .sub (.t 28) (cI 1),(some (21,true))⟩,⟨some 30,.ixa 2 (.t 27) (.t 29),(some (21,true))⟩,⟨some 31,.ld 2 true (.t 30),(some (21,true))⟩,⟨some 32,.callv (.t 22) [.t 26,.t 31],(some (21,true))⟩,⟨some 33,.bin .lss (.t 32) (cI 0),(some (21,true))⟩,qO 34 (.pick (.t 21) (.t 33) (.c (.bool false)))]) (.cond (.t 34) .skip (.exit 2))) (.seq (.block 3 (.drg [qM 37 0,qM 38 9,qM 39 0,qM 40 9,qB 41 .sub 40 (cI 1),qM 42 0,qM 43 9,qB 44 .sub 43 (cI 1),qX 45 2 42 44,qO 46 (.ld 2 true (.t 45)),qM 47 0,qM 48 9,qX 49 2 47 48,qO 50 (.ld 2 true (.t 49)),qX 51 2 37 38,qS 2 51 46,qX 52 2 39 41,qS 2 52 50])) (.reg [qM 35 9,qB 36 .sub 35 (cI 1),qM 9 36])))
def qaI:IC:=(.seq (sR [qM 12 8,qM 13 2,qT 14 .lss 12 13] (jE 14)) (.seq (.block 1 (sR [qM 17 8,qM 9 17] (.block 2 (.loop qaH)))) (.reg [qM 15 8,qB 16 .add 15 (cI 1),qM 8 16])))
def qaL:IC:=(sR [qM 10 1,qB 11 .add 10 (cI 1),qM 8 11] (.block 0 (.loop qaI)))
theorem qbP:chkF Tryz.prog Tryz.f273 qaL [] 53=true:=by kernel_rfl
def qaU:IC:=(.block 1 (sR [qM 21 2,qM 22 1,qT 23 .sub 21 22,qM 12 23] (.seq (sR [qM 24 12,qB 25 .leq 24 (cI 12)] (jW 25 (sR [qM 26 0,qM 27 1,qM 28 2,qM 29 4,jC 30 273 [.t 26,.t 27,.t 28,.t 29]] .ret))) (.seq (sR [qM 31 3,qB 32 .eql 31 (cI 0)] (jW 32 (sR [qM 33 0,qM 34 1,qM 35 2,qM 36 4,jC 37 274 [.t 33,.t 34,.t 35,.t 36]] .ret))) (.seq (sR [qM 38 10,qO 39 (.not (.t 38))] (jW 39 (sR [qM 40 0,qM 41 1,qM 42 2,qM 43 4,jC 44 275 [.t 40,.t 41,.t 42,.t 43]] (.reg [qM 45 3,qB 46 .sub 45 (cI 1),qM 3 46])))) (.cut (sR [qM 48 0,qM 49 1,qM 50 2,qM 51 4,jC 52 276 [.t 48,.t 49,.t 50,.t 51],qM 47 52,qO 53 (.ext 0 (.t 47)),qO 54 (.ext 1 (.t 47)),qM 13 53,qM 14 54] (.seq (sR [qM 55 14,qB 56 .eql 55 (cI 2)] (jW 56 (sR [qM 57 0,qM 58 1,qM 59 2,qM 60 4,jC 61 277 [.t 57,.t 58,.t 59,.t 60]] (sR [qM 62 2,qB 63 .sub 62 (cI 1),qM 64 13,qM 65 1,qT 66 .sub 64 65,qT 67 .sub 63 66,qM 13 67] (.reg [jI 14 1]))))) (.cut (.seq (sR [qM 68 10,qM 69 68,⟨some 70,.mov (.t 11),(some (69,true))⟩,qO 71 (.pick (.t 69) (.t 70) (.c (.bool false))),qM 72 71,⟨some 73,.mov (.t 14),(some (72,true))⟩,⟨some 74,.bin .eql (.t 73) (cI 1),(some (72,true))⟩,qO 75 (.pick (.t 72) (.t 74) (.c (.bool false)))] (jW 75 (sR [qM 76 0,qM 77 1,qM 78 2,qM 79 4,jC 80 278 [.t 76,.t 77,.t 78,.t 79]] (jW 80 .ret)))) (.cut (.seq (.seq (.drg [qM 81 1,qB 82 .gtr 81 (cI 0),qM 83 82,⟨some 84,.mov (.t 4),(some (83,true))⟩,⟨some 85,.mov (.t 0),(some (83,true))⟩,⟨some 86,.mov (.t 1),(some (83,true))⟩,⟨some 87,.bin .sub (.t 86) (cI 1),(some (83,true))⟩,⟨some 88,.ixa 2 (.t 85) (.t 87),(some (83,true))⟩,⟨some 89,.ld 2 true (.t 88),(some (83,true))⟩,⟨some 90,.mov (.t 0),(some (83,true))⟩,⟨some 91,.mov (.t 13),(some (83,true))⟩,⟨some 92,.ixa 2 (.t 90) (.t 91),(some (83,true))⟩,⟨some 93,.ld 2 true (.t 92),(some (83,true))⟩,⟨some 94,.callv (.t 84) [.t 89,.t 93],(some (83,true))⟩,⟨some 95,.bin .lss (.t 94) (cI 0),(some (83,true))⟩,⟨some 96,.not (.t 95),(some (83,true))⟩,qO 97 (.pick (.t 83) (.t 96) (.c (.bool false)))]) (jW 97 (sR [qM 98 0,qM 99 1,qM 100 2,qM 101 13,qM 102 4,jC 103 279 [.t 98,.t 99,.t 100,.t 101,.t 102],qM 15 103] (sR [qM 104 15,qM 1 104] (.exit 1))))) (sR [qM 106 0,qM 107 1,qM 108 2,qM 109 13,qM 110 4,jC 111 280 [.t 106,.t 107,.t 108,.t 109,.t 110],qM 105 111,qO 112 (.ext 0 (.t 105)),qO 113 (.ext 1 (.t 105)),qM 16 112,qM 17 113] (sR [qM 114 17,qM 11 114] (sR [qM 115 16,qM 116 1,qT 117 .sub 115 116,qM 118 2,qM 119 16,qT 120 .sub 118 119,qM 18 117,qM 19 120] (sR [qM 121 12,qB 122 .quo 121 (cI 8),qM 20 122] (sR [qM 123 18,qM 124 19,qT 125 .lss 123 124] (.cond (.t 125) (sR [qM 126 18,qM 127 20,qT 128 .geq 126 127,qM 10 128] (sR [qM 129 0,qM 130 1,qM 131 16,qM 132 3,qM 133 4,jC 134 246 [.t 129,.t 130,.t 131,.t 132,.t 133]] (.reg [qM 135 16,qB 136 .add 135 (cI 1),qM 1 136]))) (sR [qM 137 19,qM 138 20,qT 139 .geq 137 138,qM 10 139] (sR [qM 140 0,qM 141 16,qB 142 .add 141 (cI 1),qM 143 2,qM 144 3,qM 145 4,jC 146 246 [.t 140,.t 142,.t 143,.t 144,.t 145]] (.reg [qM 147 16,qM 2 147])))))))))))))))))))))
def qa8:IC:=(sR [qO 10 (.mov (.c (.bool true)))] (sR [qO 11 (.mov (.c (.bool true)))] (.block 0 (.loop qaU))))
theorem qcI:chkF Tryz.prog Tryz.f246 qa8 [] 148=true:=by kernel_rfl
def qaO:IC:=(sR [qM 5 0,qN 6 5,qM 4 6] (.reg [qM 7 0,qM 8 4,qM 9 4,qO 10 (.cvi .u64 (.t 9)),jC 11 133 [.t 10],qM 12 1,jC 13 246 [.t 7,.c (.int .i64 0),.t 8,.t 11,.t 12]]))
theorem qbV:chkF Tryz.prog Tryz.f198 qaO [] 14=true:=by kernel_rfl
abbrev ql6:Nat:=175
theorem qlA:∀ (ps:List PV) (L:Objs),Zk L (ps.map .p)=true
 |[],_=>rfl
 |_ :: r,L=>qlA r L
section
variable {E:Envt}
theorem qnV (x:Int) (h0:0≤x) (h1:x≤18446744073709551615):PCall Tryz.prog E 133 [.int .u64 x] (·=int (Lib.bitLen x.toNat:Nat)):=
 qbm rfl rfl fun w _=>(Any.bits_Len Tryz.layBitsLen x w h0 h1).mono fun e w' h=>⟨h.1,by rw [h.2];exact Grow.refl _ _⟩
theorem qnx {α:Type} (f0:α→List UInt8) (f1:α→List (List PV)) (cf:α→α→Int) (hO:OrdP (ltC cf)) (g:FuncId) (ps:List PV) (hg:Unit→fnB Tryz.prog g=true) (l:List α) (hl:l.length≤12) (hc:∀ x∈l,∀ y∈l,PCall Tryz.prog E g (.agg [.str (f0 x),.sl 1 (f1 x)] :: .agg [.str (f0 y),.sl 1 (f1 y)] :: ps) (·=int (cf x y)))
  (hn:∀ x y,Zbg [] (.p (.agg [.str (f0 x),.sl 1 (f1 x)]) :: .p (.agg [.str (f0 y),.sl 1 (f1 y)]) :: ps.map .p)=some (.agg [.str (f0 x),.sl 1 (f1 x)] :: .agg [.str (f0 y),.sl 1 (f1 y)] :: ps)) (hr:∀ x y,Zbi (.p (.agg [.str (f0 x),.sl 1 (f1 x)]) :: .p (.agg [.str (f0 y),.sl 1 (f1 y)]) :: ps.map .p)=true):RCall Tryz.prog E 273 ql6 2 (l.map (fun x=>([.str (f0 x),.sl 1 (f1 x)]:List PV))) [int 0,int (l.length:Nat),.clo g ps] (fun x es'=>x=.tup []∧∃ l':List α,es'=l'.map (fun x=>([.str (f0 x),.sl 1 (f1 x)]:List PV))∧l'.Perm l∧SrtP (ltC cf) l'):=by
 unfold RCall
 refine qep mixed Tryz.func273 qbP ?_
 simp only [a0,l0,OS.ao,XX,Nat.reduceSub,zw,qaL,ZZ,WW,Zd,reduceCtorEq,zd,ze,zb,zf,za]
 ((with_reducible and_intros)<;>try exact sc_)
 rw [show l.map (fun x=>([.str (f0 x),.sl 1 (f1 x)]:List PV))=(l.take 1++l.drop 1).map (fun x=>([.str (f0 x),.sl 1 (f1 x)]:List PV)) from by rw [yt]]
 refine qac (fun n fr L=>∃ (i:Nat) (P:List α) (C:List α),l.length - i=n∧(1≤i)∧(P.length=i∨l.length=0)∧((P++C).Perm l)∧(SrtP (ltC cf) P)∧fr=(.row (.b 0)::.p (int 0)::.p (int (l.length:Nat))::.p (.clo g ps)::oo::oo::oo::oo::.p (int (i:Nat))::oF (oD (oC [])))∧L=[(.b 0,.row ((P++C).map (fun x=>([.str (f0 x),.sl 1 (f1 x)]:List PV))) ql6 2 true)]) (l.length - 1) _ _ zF_ zF_ ⟨1,l.take 1,l.drop 1,rfl,by omega,by rw [zJ];omega,by rw [yt],by cases l with|nil=>exact List.Pairwise.nil|cons x r=>simp [SrtP],rfl,rfl⟩ ?_
 rintro n fr L ⟨i,P,C,rfl,hi,hP,hp,hs,rfl,rfl⟩
 simp only [qaI,ZZ,WW,Zd,reduceCtorEq,zd,ze,zb,zf,za]
 have hpl:P.length+C.length=l.length:=by rw [← List.length_append,hp.length_eq]
 refine br ?_ ?_
 rotate_left
 ·intro h
  have hge:l.length≤i:=by have:=of_decide_eq_false h;omega
  have hC:C=[]:=List.eq_nil_of_length_eq_zero (by omega)
  subst hC
  rw [z6] at hp ⊢
  refine zS ?_
  exact qjR _ rfl ⟨rfl,P,rfl,hp,hs⟩
 intro h
 have hlt:i < l.length:=by have:=of_decide_eq_true h;omega
 have hP:P.length=i:=by omega
 obtain ⟨x,R,rfl⟩:∃ x R,C=x :: R:=by
  cases C with
  |nil=>simp at hpl;omega
  |cons x R=>exact ⟨x,R,rfl⟩
 have hxl:x∈l:=hp.mem_iff.1 (by simp)
 refine zS ?_
 refine qac (fun n fr L=>∃ (j:Nat) (A:List α) (B:List α),j=n∧(A.length=j)∧(j+B.length=i)∧(SrtP (ltC cf) (A++B))∧(∀ b∈B,ltC cf x b=true)∧((A++x :: (B++R)).Perm l)∧fr=(.row (.b 0)::.p (int 0)::.p (int (l.length:Nat))::.p (.clo g ps)::oo::oo::oo::oo::.p (int (i:Nat))::.p (int (j:Nat))::oF (oD (oB (oo::[]))))∧L=[(.b 0,.row ((A++x :: (B++R)).map (fun x=>([.str (f0 x),.sl 1 (f1 x)]:List PV))) ql6 2 true)]) (i) _ _ zF_ zF_ ⟨i,P,[],rfl,hP,by simp,by rw [z6];exact hs,(fun b hb=>by cases hb),hp,rfl,rfl⟩ ?_
 rintro n fr L ⟨j,A,B,rfl,hj,hji,hsb,hb,hpb,rfl,rfl⟩
 simp only [qaH,ZZ,WW,Zd,reduceCtorEq,zd,ze,zb,zf,za]
 have hWl:((A++x :: (B++R)).map (fun x=>([.str (f0 x),.sl 1 (f1 x)]:List PV))).length=l.length:=by rw [zw,hpb.length_eq]
 rcases List.eq_nil_or_concat A with rfl|⟨A',y,hAy⟩
 ·simp only [List.length_nil] at hj
  subst hj
  generalize hW:(([]:List α)++x :: (B++R)).map (fun x=>([.str (f0 x),.sl 1 (f1 x)]:List PV))=W at *
  refine drg0 ?_
  have z00:decide ((0:Int) < ((0:Nat):Int))=false:=rfl
  simp only [ZZ,WW,Zd,reduceCtorEq,zd,ze,zb,zf,za,hWl,z00,Bool.false_eq_true,false_implies,hg ()]
  refine ⟨qlA _ _,qpZ (fun h=>by cases h) (fun _=>?_)⟩
  refine zS ?_
  ((with_reducible and_intros)<;>try exact sc_)
  rw [← hW]
  have hfin:SrtP (ltC cf) (([]:List α)++x :: B):=qkK hO hsb hb (.inl rfl)
  refine qab (l.length - (i+1)) _ _ (by omega) zF_ zF_ ⟨i+1,x :: B,R,rfl,by omega,.inl (by simp;omega),by simpa using hpb,hfin,rfl,rfl⟩
 ·obtain rfl:A=A'++[y]:=by rw [hAy];simp
  obtain ⟨q,rfl⟩:∃ q,j=q+1:=⟨A'.length,by rw [← hj];simp⟩
  have hq:A'.length=q:=by simpa using hj
  have hrow:(A'++[y])++x :: (B++R)=A'++y :: x :: (B++R):=by simp
  have hyl:y∈l:=hpb.mem_iff.1 (by simp)
  have e1:(((q+1:Nat):Int) - 1)=(q:Nat):=by omega
  have z0:decide ((0:Int) < ((q+1:Nat):Int))=true:=by rw [decide_eq_true_eq];omega
  rw [hrow] at hWl hpb ⊢
  obtain ⟨g1,g0⟩:=qrb (fun x=>([.str (f0 x),.sl 1 (f1 x)]:List PV)) A' (B++R) x y []
  have s1:=qra (fun x=>([.str (f0 x),.sl 1 (f1 x)]:List PV)) A' (B++R) x y
  rw [hq] at g1 g0 s1
  try simp only at g1 g0 s1
  generalize hW:(A'++y :: x :: (B++R)).map (fun x=>([.str (f0 x),.sl 1 (f1 x)]:List PV))=W at *
  refine drg0 ?_
  simp only [ZZ,WW,Zd,reduceCtorEq,zd,ze,zb,zf,za,hWl,e1,z0,g1,g0,hg ()]
  refine ⟨⟨by omega,by omega⟩,by omega,qal (by omega) (by omega),⟨by omega,by omega⟩,by omega,qlA _ _,?_⟩
  refine useG (fun _=>hc x hxl y hyl) ((qjt (hr x y) (L':=[])).trans (hn x y)) (.inl (hr x y)) ?_
  refine zS ?_
  refine br ?_ ?_
  ·intro hlt2
   have hxy:ltC cf x y=true:=hlt2
   obtain ⟨n1,n2⟩:=qrI hsb hb hxy
   refine drg0 ?_
   have g2:(W.set (q+1) [.str (f0 y),.sl 1 (f1 y)]).getD q []=[.str (f0 y),.sl 1 (f1 y)]:=by
    rw [zu,List.getElem?_set_ne (by omega)]
    exact g0
   simp only [ZZ,WW,Zd,reduceCtorEq,zd,ze,zb,zf,za,hWl,e1,g1,g0,g2,s1,List.length_set,qmL]
   ((with_reducible and_intros)<;>try exact sc_)
   refine qab ((q)) _ _ (by omega) zF_ zF_ ⟨q,A',y :: B,rfl,hq,by simp;omega,n1,n2,by simpa using (List.Perm.append_left A' (List.Perm.swap y x (B++R))).trans hpb,rfl,rfl⟩
  ·intro hlt2
   have hxy:ltC cf x y=false:=hlt2
   refine zS ?_
   ((with_reducible and_intros)<;>try exact sc_)
   rw [← hW]
   have hfin:SrtP (ltC cf) ((A'++[y])++x :: B):=qkK hO hsb hb (.inr ⟨A',y,rfl,hxy⟩)
   have hrow2:A'++y :: x :: (B++R)=((A'++[y])++x :: B)++R:=by simp
   rw [hrow2] at hpb ⊢
   refine qab (l.length - (i+1)) _ _ (by omega) zF_ zF_ ⟨i+1,(A'++[y])++x :: B,R,rfl,by omega,.inl (by simp;omega),hpb,hfin,rfl,rfl⟩
theorem qtU {α:Type} (f0:α→List UInt8) (f1:α→List (List PV)) (cf:α→α→Int) (hO:OrdP (ltC cf)) (g:FuncId) (ps:List PV) (hg:Unit→fnB Tryz.prog g=true) (l:List α) (hl:l.length≤12) (hc:∀ x∈l,∀ y∈l,PCall Tryz.prog E g (.agg [.str (f0 x),.sl 1 (f1 x)] :: .agg [.str (f0 y),.sl 1 (f1 y)] :: ps) (·=int (cf x y)))
  (hn:∀ x y,Zbg [] (.p (.agg [.str (f0 x),.sl 1 (f1 x)]) :: .p (.agg [.str (f0 y),.sl 1 (f1 y)]) :: ps.map .p)=some (.agg [.str (f0 x),.sl 1 (f1 x)] :: .agg [.str (f0 y),.sl 1 (f1 y)] :: ps)) (hr:∀ x y,Zbi (.p (.agg [.str (f0 x),.sl 1 (f1 x)]) :: .p (.agg [.str (f0 y),.sl 1 (f1 y)]) :: ps.map .p)=true) (lim:Nat):RCall Tryz.prog E 246 ql6 2 (l.map (fun x=>([.str (f0 x),.sl 1 (f1 x)]:List PV))) [int 0,int (l.length:Nat),int (lim:Nat),.clo g ps] (fun x es'=>x=.tup []∧∃ l':List α,es'=l'.map (fun x=>([.str (f0 x),.sl 1 (f1 x)]:List PV))∧l'.Perm l∧SrtP (ltC cf) l'):=by
 unfold RCall
 refine qep mixed Tryz.func246 qcI ?_
 simp only [a0,l0,OS.ao,XX,Nat.reduceSub,zw,qa8,ZZ,WW,Zd,reduceCtorEq,zd,ze,zb,zf,za]
 refine qac (fun n fr L=>(0:Nat)=n∧fr=(.row (.b 0)::.p (int 0)::.p (int (l.length:Nat))::.p (int (lim:Nat))::.p (.clo g ps)::oC (oo::(.p (.bool true)::.p (.bool true)::oG (oG (oD [])))))∧L=[(.b 0,.row (l.map (fun x=>([.str (f0 x),.sl 1 (f1 x)]:List PV))) ql6 2 true)]) ((0:Nat)) _ _ zF_ zF_ ⟨rfl,rfl,rfl⟩ ?_
 rintro n fr L ⟨rfl,rfl,rfl⟩
 simp only [qaU,ZZ,WW,Zd,reduceCtorEq,zd,ze,zb,zf,za]
 have h12:decide ((l.length:Int)≤12)=true:=by rw [decide_eq_true_eq];omega
 simp only [ZZ,WW,Zd,reduceCtorEq,zd,ze,zb,zf,za,h12,Int.sub_zero]
 refine ⟨qal (by omega) (by omega),?_⟩
 refine useR (qnx f0 f1 cf hO g ps hg l hl hc hn hr) rfl rfl rfl zE_ ?_
 rintro x es ⟨rfl,l',rfl,hp,hs⟩
 refine zS ?_
 exact qjR _ rfl ⟨rfl,l',rfl,hp,hs⟩
theorem qqR {α:Type} (f0:α→List UInt8) (f1:α→List (List PV)) (cf:α→α→Int) (hO:OrdP (ltC cf)) (g:FuncId) (ps:List PV) (hg:Unit→fnB Tryz.prog g=true) (l:List α) (hl:l.length≤12) (hc:∀ x∈l,∀ y∈l,PCall Tryz.prog E g (.agg [.str (f0 x),.sl 1 (f1 x)] :: .agg [.str (f0 y),.sl 1 (f1 y)] :: ps) (·=int (cf x y)))
  (hn:∀ x y,Zbg [] (.p (.agg [.str (f0 x),.sl 1 (f1 x)]) :: .p (.agg [.str (f0 y),.sl 1 (f1 y)]) :: ps.map .p)=some (.agg [.str (f0 x),.sl 1 (f1 x)] :: .agg [.str (f0 y),.sl 1 (f1 y)] :: ps)) (hr:∀ x y,Zbi (.p (.agg [.str (f0 x),.sl 1 (f1 x)]) :: .p (.agg [.str (f0 y),.sl 1 (f1 y)]) :: ps.map .p)=true):RCall Tryz.prog E 198 ql6 2 (l.map (fun x=>([.str (f0 x),.sl 1 (f1 x)]:List PV))) [.clo g ps] (fun x es'=>x=.tup []∧∃ l':List α,es'=l'.map (fun x=>([.str (f0 x),.sl 1 (f1 x)]:List PV))∧l'.Perm l∧SrtP (ltC cf) l'):=by
 have wr:IntKind.u64.wrap (l.length:Int)=l.length:=by simp [IntKind.wrap,IntKind.bits,IntKind.signed];omega
 unfold RCall
 refine qep mixed Tryz.func198 qbV ?_
 simp only [a0,l0,OS.ao,XX,Nat.reduceSub,zw,qaO,ZZ,WW,Zd,reduceCtorEq,zd,ze,zb,zf,za]
 rw [wr]
 refine use1 (qnV (l.length:Nat) (by omega) (by omega)) rfl (.inl rfl) ?_
 generalize Lib.bitLen _=lim
 refine zS ?_
 refine useR (qtU f0 f1 cf hO g ps hg l hl hc hn hr lim) rfl rfl rfl zE_ ?_
 rintro x es ⟨rfl,l',rfl,hp,hs⟩
 refine zS ?_
 exact qjR _ rfl ⟨rfl,l',rfl,hp,hs⟩
end
end Go.Proofs.YtmpdnpljdcincaaGreatDoor
