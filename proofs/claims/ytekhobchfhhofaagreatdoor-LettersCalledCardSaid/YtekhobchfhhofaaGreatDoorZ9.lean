import Derived.Test.YtekhobchfhhofaaGreatDoorZ8
import Derived.Lib.Strings
import Derived.Lib.Slices
import Derived.Lib.Walk
import Derived.Lib.MakeNoZero
import Derived.Laws.IdiomCopy
import Derived.Laws.BitsLemmas
import Derived.Lib.Join
import Derived.Test.YtekhobchfhhofaaGreatDoorLayDecode
set_option linter.unusedVariables false
set_option linter.unusedSimpArgs false
set_option linter.defProp false
namespace Go.Proofs.YtekhobchfhhofaaGreatDoor
open Nat renaming reduceAdd→zd,reduceEqDiff→zb,reduceLT→zf,reduceLeDiff→za,reduceMul→ze
open List renaming map_append→zG,mem_append→zr,mem_cons→zo,mem_singleton→zD,not_mem_nil→zu
abbrev qeF:IC:=(sR [qO 2 (.alc 30 [.nl 3,.nl 3,.nl 1,.nl 1])] (.seq (.drg [⟨none,.fz (.t 11),none⟩,⟨none,.hole 14,none⟩,⟨none,.hole 3,none⟩,qO 4 (.bld [.str [],.int .i64 0,.int .i64 0] [(0,1,.c (.str [97,105,100,64,111,117,114,115,46,100,101])),(1,1,.c (.int .i64 1)),(2,1,.c (.int .i64 3))]),qO 5 (.bld [.str [],.int .i64 0,.int .i64 0] [(0,1,.c (.str [97,110,110,64,102,105,114,109,46,100,101])),(1,1,.c (.int .i64 1)),(2,1,.c (.int .i64 2))]),qO 6 (.bld [.str [],.int .i64 0,.int .i64 0] [(0,1,.c (.str [108,97,119,64,111,117,114,115,46,100,101])),(1,1,.c (.int .i64 1)),(2,1,.c (.int .i64 1))]),qO 7 (.bsl 3 [.t 4,.t 5,.t 6]),qO 8 (.bld [.str [],.int .i64 0,.int .i64 0] [(0,1,.c (.str [102,105,114,109,46,100,101])),(1,1,.c (.int .i64 1)),(2,1,.c (.int .i64 4))]),qM 9 0,qO 10 (.bsl 1 [.c (.int .i64 2),.c (.int .i64 1)]),qO 11 (.dcall true 26 [.t 9,.t 10]),qO 12 (.bld [.str [],.int .i64 0,.int .i64 0] [(0,1,.c (.str [120,46,102,105,114,109,46,100,101])),(1,1,.t 11),(2,1,.c (.int .i64 2))]),qO 13 (.bld [.str [],.int .i64 0,.int .i64 0] [(0,1,.c (.str [111,117,114,115,46,100,101])),(1,1,.c (.int .i64 1)),(2,1,.c (.int .i64 4))]),qO 14 (.bsrd 72 3 [.t 8,.t 12,.t 13]),qO 15 (.bsl 1 [.c (.str [108,101,103,97,108,32,97,100,118,105,99,101])]),qO 16 (.bsl 1 [.c (.str [99,97,114,101,102,117,108]),.c (.str [108,101,103,97,108,32,97,100,118,105,99,101]),.c (.str [112,114,105,118,105,108,101,103,101,100,32,97,110,100,32,99,111,110,102,105,100,101,110,116,105,97,108])]),qO 17 (.bsl 1 [.t 15,.t 16,.c (.nl 1)]),qM 18 0,qO 19 (.dcall true 27 [.t 18,.c (.int .i64 3)]),qX 20 1 17 19,qO 21 (.ldl 1 false (.t 20)),qO 22 (.bsl 1 [.c (.str [97,108,108,64,102,105,114,109,46,100,101])]),qO 23 (.bsl 1 [.t 22,.c (.nl 1)]),qM 24 0,qO 25 (.dcall true 27 [.t 24,.c (.int .i64 2)]),qX 26 1 23 25,qO 27 (.ldl 1 false (.t 26)),qO 28 (.bldg [.nl 3,.nl 3,.nl 1,.nl 1] [(0,1,.t 7),(1,1,.t 14),(2,1,.t 21),(3,1,.t 27)]),qO 3 (.alcd 30 [.nl 3,.nl 3,.nl 1,.nl 1]),⟨none,.stg 4 (.t 3) (.t 28),none⟩]) (.seq (sR [qM 29 0,jC 30 28 [.t 29,.c (.int .i64 4)]] (jW 30 (.drg [wF 31 0 3,qO 32 (.ldl 1 false (.t 31)),qM 33 0,qO 34 (.dcall true 27 [.t 33,.c (.int .i64 2)]),qO 35 (.vsl 3 (.t 32) (some (.t 34)) none),wF 36 0 3,qS 1 36 35]))) (.cut (.seq (sR [qM 37 0,jC 38 28 [.t 37,.c (.int .i64 12)]] (jW 38 (sR [qM 39 0,jC 40 27 [.t 39,.c (.int .i64 6)]] (.block 0 (sR [qB 45 .eql 40 (cI 0),qM 44 45] (.cond (.t 44) (.reg [wF 46 0 3,qL 47 46,jC 48 29 [.t 47],qM 49 0,qO 50 (.bsl 1 [.c (.str [122,64,122,46,100,101]),.c (.str [97,64,97,46,100,101]),.c (.str [122])]),jC 51 30 [.t 49,.t 50],qM 52 0,jC 53 31 [.t 52,.c (.int .i64 0),.c (.int .i64 4)],qM 54 0,jC 55 31 [.t 54,.c (.int .i64 0),.c (.int .i64 5)],⟨none,.fz (.t 51),none⟩,⟨none,.fz (.t 53),none⟩,⟨none,.fz (.t 55),none⟩,qO 56 (.bld [.str [],.int .i64 0,.int .i64 0] [(0,1,.t 51),(1,1,.t 53),(2,1,.t 55)]),qO 57 (.bsl 3 [.t 56]),qO 58 (.app 70 3 32 (.t 48) (.t 57)),wF 59 0 3,qS 1 59 58,⟨none,.fz (.t 58),none⟩]) (sR [qB 61 .eql 40 (cI 1),qM 60 61] (.cond (.t 60) (.reg [wF 62 1 3,qL 63 62,⟨none,.fz (.t 63),none⟩,jC 64 32 [.t 63],qM 65 0,qO 66 (.bsl 1 [.c (.str [102,105,114,109,46,100,101]),.c (.str [100,101]),.c (.str [97,46,98]),.c (.str [])]),jC 67 30 [.t 65,.t 66],qM 68 0,jC 69 31 [.t 68,.c (.int .i64 0),.c (.int .i64 4)],qM 70 0,jC 71 31 [.t 70,.c (.int .i64 0),.c (.int .i64 5)],⟨none,.fz (.t 67),none⟩,⟨none,.fz (.t 69),none⟩,⟨none,.fz (.t 71),none⟩,qO 72 (.bld [.str [],.int .i64 0,.int .i64 0] [(0,1,.t 67),(1,1,.t 69),(2,1,.t 71)]),qO 73 (.bsl 3 [.t 72]),qO 74 (.app 72 3 32 (.t 64) (.t 73)),wF 75 1 3,qS 1 75 74,⟨none,.fz (.t 74),none⟩]) (sR [qB 77 .eql 40 (cI 2),qM 76 77] (.cond (.t 76) (.reg [wF 78 2 3,qL 79 78,jC 80 33 [.t 79],qM 81 0,jC 82 34 [.c (.str [122]),.c (.int .i64 60)],jC 83 34 [.c (.str [122]),.c (.int .i64 61)],qO 84 (.bsl 1 [.c (.str []),.c (.str [90,101,100]),.c (.str [122,101,100]),.c (.str [97]),.c (.str [122,255]),.t 82,.t 83]),jC 85 30 [.t 81,.t 84],⟨none,.fz (.t 85),none⟩,qO 86 (.bsl 1 [.t 85]),qO 87 (.app 9 1 16 (.t 80) (.t 86)),wF 88 2 3,qS 1 88 87,⟨none,.fz (.t 87),none⟩]) (sR [qB 90 .eql 40 (cI 3),qM 89 90] (.cond (.t 89) (.reg [wF 91 3 3,qL 92 91,jC 93 33 [.t 92],qM 94 0,qO 95 (.bsl 1 [.c (.str []),.c (.str [97,108,108,64,102,105,114,109,46,100,101]),.c (.str [122,111,101,64,102,105,114,109,46,100,101])]),jC 96 30 [.t 94,.t 95],⟨none,.fz (.t 96),none⟩,qO 97 (.bsl 1 [.t 96]),qO 98 (.app 9 1 16 (.t 93) (.t 97)),wF 99 3 3,qS 1 99 98,⟨none,.fz (.t 98),none⟩]) (.reg [wF 41 1 3,qL 42 41,jC 43 35 [.t 42]]))))))))))))) (.cut (sR [⟨none,.fz (.t 14),none⟩,qO 100 (.ld 4 true (.t 3)),qS 4 2 100] .ret)))))))
theorem qeK:chkF Tryz.prog Tryz.f5 qeF [.c 2 4 true] 101=true:=by kernel_rfl
section
variable {E:Envt}
abbrev qa0:Nat:=30
abbrev Par:=List UInt8×Int×Int
def par (q:Par):List PV:=[.str q.1,int q.2.1,int q.2.2]
def pS:List (List UInt8):=[[97,105,100,64,111,117,114,115,46,100,101],[97,110,110,64,102,105,114,109,46,100,101],[108,97,119,64,111,117,114,115,46,100,101],[122,64,122,46,100,101],[97,64,97,46,100,101],[122]]
def dS:List (List UInt8):=[[102,105,114,109,46,100,101],[120,46,102,105,114,109,46,100,101],[111,117,114,115,46,100,101],[100,101],[97,46,98],[]]
def t1:List UInt8:=[108,101,103,97,108,32,97,100,118,105,99,101]
def t0:List UInt8:=[99,97,114,101,102,117,108]
def t2:List UInt8:=[112,114,105,118,105,108,101,103,101,100,32,97,110,100,32,99,111,110,102,105,100,101,110,116,105,97,108]
def allF:List UInt8:=[97,108,108,64,102,105,114,109,46,100,101]
def p0:List Par:=[([97,105,100,64,111,117,114,115,46,100,101],1,3),([97,110,110,64,102,105,114,109,46,100,101],1,2),([108,97,119,64,111,117,114,115,46,100,101],1,1)]
def d0 (y:Int):List Par:=[([102,105,114,109,46,100,101],1,4),([120,46,102,105,114,109,46,100,101],y,2),([111,117,114,115,46,100,101],1,4)]
def circ (P D:List Par) (T X:List (List UInt8)):List PV:=[.sl 3 (P.map par),.sl 3 (D.map par),strs T,strs X]
def qpv (S:List (List UInt8)) (q:Par):Prop:=q.1∈S∧0≤q.2.1∧q.2.1≤4∧0≤q.2.2∧q.2.2≤5
def tS:List (List UInt8):=[[],[90,101,100],[122,101,100],[97],[122,255],Lib.repeatL [122] 60,Lib.repeatL [122] 61]
def xS:List (List UInt8):=[[],[97,108,108,64,102,105,114,109,46,100,101],[122,111,101,64,102,105,114,109,46,100,101]]
def CircOk (P D:List Par) (Ts X:List (List UInt8)):Prop:=
 P.length≤4∧(∀ p∈P,qpv pS p)∧D.length≤4∧(∀ p∈D,qpv dS p)∧(∃ T0∈[[t1],[t0,t1,t2],[]],Ts=T0∨∃ t∈tS,Ts=T0++[t])∧(∃ X0∈[[allF],[]],X=X0∨∃ t∈xS,X=X0++[t])
theorem qAH:∀ p∈p0,qpv pS p:=by
 intro p hp
 simp only [p0,zo,zu,or_false] at hp
 rcases hp with rfl|rfl|rfl<;>simp [qpv,pS]
theorem qBY {y:Int} (hy:0≤y∧y≤4):∀ p∈d0 y,qpv dS p:=by
 intro p hp
 simp only [d0,zo,zu,or_false] at hp
 rcases hp with rfl|rfl|rfl<;>simp [qpv,dS]<;>omega
set_option maxHeartbeats 4000000 in
theorem quZ (l:List Int) (k:Nat) (hk:k≤900000) (hl:l.length≤9223372036854775807) :
  qfY Tryz.prog E 5 T (stm l k) [] (fun x cs'=>∃ P D Ts X k',CircOk P D Ts X∧x=.agg (circ P D Ts X)∧cs'=stm l k'∧k'≤k+20):=by
 unfold qfY
 refine qim mixed Tryz.func5 qeK ?_
 refine zV ?_
 refine drg0 ?_
 refine zS ?_
 refine useD (qoL l k [2,1] (by omega) hl (by simp) (by simp)) ⟨_,_,2,rfl,by simp,rfl⟩ rfl rfl rfl zE_ (fun _=>⟨0,rfl⟩) ?_
 rintro x cs' ⟨y,rfl,hy,rfl⟩
 have hy':0≤y∧y≤4:=by simp at hy;omega
 simp only [ZZ,WW,Ze,reduceCtorEq,zd,ze,za,zf,zb,qlG]
 refine useD (qdN l (k+1) 3 (by omega) hl (by decide)) ⟨_,_,0,rfl,rfl⟩ rfl rfl rfl zE_ (fun _=>⟨0,rfl⟩) ?_
 rintro x cs' ⟨y2,rfl,rfl⟩
 obtain ⟨i,hi,hbi⟩:=qhw y2 3 (by omega)
 replace hbi:qeM y2 3=i:=hbi
 rw [hbi]
 obtain ⟨T0,hT0,hg⟩:∃ T0:List (List UInt8),T0∈[[t1],[t0,t1,t2],[]]∧([[PV.sl 1 [[.str [108,101,103,97,108,32,97,100,118,105,99,101]]]],[PV.sl 1 [[.str [99,97,114,101,102,117,108]],[.str [108,101,103,97,108,32,97,100,118,105,99,101]],[.str [112,114,105,118,105,108,101,103,101,100,32,97,110,100,32,99,111,110,102,105,100,101,110,116,105,97,108]]]],[PV.sl 1 []]]:List (List PV)).getD i []=[.sl 1 (T0.map fun x=>[PV.str x])]:=by
  match i,hi with
  |0,_=>exact ⟨[t1],by simp,rfl⟩
  |1,_=>exact ⟨[t0,t1,t2],by simp,rfl⟩
  |2,_=>exact ⟨[],by simp,rfl⟩
 simp only [ZZ,WW,Ze,reduceCtorEq,zd,ze,za,zf,zb,hg]
 ((with_reducible and_intros)<;>try exact sc_)
 refine useD (qdN l (k+1+1) 2 (by omega) hl (by decide)) ⟨_,_,0,rfl,rfl⟩ rfl rfl rfl zE_ (fun _=>⟨0,rfl⟩) ?_
 rintro x cs' ⟨y3,rfl,rfl⟩
 obtain ⟨j,hj,hbj⟩:=qhw y3 2 (by omega)
 replace hbj:qeM y3 2=j:=hbj
 rw [hbj]
 obtain ⟨X0,hX0,hg2⟩:∃ T0:List (List UInt8),T0∈[[allF],[]]∧([[PV.sl 1 [[.str [97,108,108,64,102,105,114,109,46,100,101]]]],[PV.sl 1 []]]:List (List PV)).getD j []=[.sl 1 (T0.map fun x=>[PV.str x])]:=by
  match j,hj with
  |0,_=>exact ⟨[allF],by simp,rfl⟩
  |1,_=>exact ⟨[],by simp,rfl⟩
 simp only [ZZ,WW,Ze,reduceCtorEq,zd,ze,za,zf,zb,hg2]
 ((with_reducible and_intros)<;>try exact sc_)
 refine useS (qgs l (k+1+1+1) 4 (by omega) hl (by decide)) rfl rfl rfl zE_ ?_
 rintro x cs' ⟨b,rfl,rfl⟩
 refine zS ?_
 refine qfl (fun fr L=>∃ (P:List Par) (k':Nat),P.length≤3∧(∀ p∈P,p∈p0)∧k'≤k+5∧fr=(.adr (.b 0) 0::oo::.adr (.l 2) 0::.adr (.l 3) 0::oD (oB (.row (.l 14)::oG (oE (oC (oB []))))))∧L=[(.b 0,.box ((stm l (k')).map .p) T),(.l 2,.box [.p (.nl 3),.p (.nl 3),.p (.nl 1),.p (.nl 1)] qa0),(.l 14,.row ((d0 y).map par) qdg 3 true),(.l 3,.box [.p (.sl 3 ((P).map par)),.row (.l 14),.p (.sl 1 ((T0).map fun x=>[PV.str x])),.p (.sl 1 ((X0).map fun x=>[PV.str x]))] qa0)]) ?_ ?_ ?_
 ·intro _
  refine zS ?_
  refine drg0 ?_
  refine zS ?_
  refine useD (qdN l (k+1+1+1+1) 2 (by omega) hl (by decide)) ⟨_,_,0,rfl,rfl⟩ rfl rfl rfl zE_ (fun _=>⟨0,rfl⟩) ?_
  rintro x cs' ⟨y4,rfl,rfl⟩
  obtain ⟨j2,hj2,hbj2⟩:=qhw y4 2 (by omega)
  replace hbj2:qeM y4 2=j2:=hbj2
  rw [hbj2]
  refine zS ?_
  ((with_reducible and_intros)<;>try exact sc_)
  refine qbn (.adr (.b 0) 0::oo::.adr (.l 2) 0::.adr (.l 3) 0::oD (oB (.row (.l 14)::oG (oE (oC (oB [])))))) [(.b 0,.box ((stm l (k+1+1+1+1+1)).map .p) T),(.l 2,.box [.p (.nl 3),.p (.nl 3),.p (.nl 1),.p (.nl 1)] qa0),(.l 14,.row ((d0 y).map par) qdg 3 true),(.l 3,.box [.p (.sl 3 ((p0.drop j2).map par)),.row (.l 14),.p (.sl 1 ((T0).map fun x=>[PV.str x])),.p (.sl 1 ((X0).map fun x=>[PV.str x]))] qa0)] zF_ (by simp only [ZZ,WW,Ze,reduceCtorEq,zd,ze,za,zf,zb];exact ⟨rfl,by rw [List.map_drop];rfl⟩) ⟨_,_,?_,fun p hp=>List.mem_of_mem_drop hp,by omega,rfl,rfl⟩
  simp [p0]
 ·intro _
  refine zS ?_
  refine qbn (.adr (.b 0) 0::oo::.adr (.l 2) 0::.adr (.l 3) 0::oD (oB (.row (.l 14)::oG (oE (oC (oB [])))))) [(.b 0,.box ((stm l (k+1+1+1+1)).map .p) T),(.l 2,.box [.p (.nl 3),.p (.nl 3),.p (.nl 1),.p (.nl 1)] qa0),(.l 14,.row ((d0 y).map par) qdg 3 true),(.l 3,.box [.p (.sl 3 ((p0).map par)),.row (.l 14),.p (.sl 1 ((T0).map fun x=>[PV.str x])),.p (.sl 1 ((X0).map fun x=>[PV.str x]))] qa0)] zF_ (by simp only [ZZ,WW,Ze,reduceCtorEq,zd,ze,za,zf,zb,par,p0,d0]) ⟨_,_,by decide,fun p hp=>hp,by omega,rfl,rfl⟩
 ·rintro fr L ⟨P,k',hP,hPm,hk',rfl,rfl⟩
  refine zS ?_
  have hPo:∀ p∈P,qpv pS p:=fun p hp=>qAH p (hPm p hp)
  have hDo:∀ p∈d0 y,qpv dS p:=qBY hy'
  have hTl:T0.length≤3:=by simp only [zo,zu,or_false] at hT0;rcases hT0 with rfl|rfl|rfl<;>simp
  have hXl:X0.length≤3:=by simp only [zo,zu,or_false] at hX0;rcases hX0 with rfl|rfl<;>simp
  clear hPm
  refine useS (qgs l k' 12 (by omega) hl (by decide)) rfl rfl rfl zE_ ?_
  rintro x cs' ⟨b2,rfl,rfl⟩
  refine zS ?_
  refine qfl (fun fr L=>∃ (P D:List Par) (Ts X:List (List UInt8)) (k':Nat),CircOk P D Ts X∧k'≤k+15∧((fr=(.adr (.b 0) 0::oo::.adr (.l 2) 0::.adr (.l 3) 0::oD (oB (.row (.l 14)::oG (oE (oC (oB []))))))∧L=[(.b 0,.box ((stm l (k')).map .p) T),(.l 2,.box [.p (.nl 3),.p (.nl 3),.p (.nl 1),.p (.nl 1)] qa0),(.l 14,.row ((D).map par) qdg 3 true),(.l 3,.box [.p (.sl 3 ((P).map par)),.row (.l 14),.p (.sl 1 ((Ts).map fun x=>[PV.str x])),.p (.sl 1 ((X).map fun x=>[PV.str x]))] qa0)])∨(fr=(.adr (.b 0) 0::oo::.adr (.l 2) 0::.adr (.l 3) 0::oG (oF (oo::[])))∧L=[(.b 0,.box ((stm l (k')).map .p) T),(.l 2,.box [.p (.nl 3),.p (.nl 3),.p (.nl 1),.p (.nl 1)] qa0),(.l 3,.box [.p (.sl 3 ((P).map par)),.p (.sl 3 ((D).map par)),.p (.sl 1 ((Ts).map fun x=>[PV.str x])),.p (.sl 1 ((X).map fun x=>[PV.str x]))] qa0)]))) ?_ ?_ ?_
  ·intro _
   refine zS ?_
   refine useS (qdN l (k'+1) 6 (by omega) hl (by decide)) rfl rfl rfl zE_ ?_
   rintro x cs' ⟨y6,rfl,rfl⟩
   generalize qeM y6 6=m
   refine zS ?_
   refine br ?_ ?_
   ·intro _
    refine zS ?_
    refine useF (quX (P.map par) (by simp;omega)) rfl rfl ?_
    rintro es rfl
    refine zS ?_
    refine useS (qbW l (k'+1+1) [[122,64,122,46,100,101],[97,64,97,46,100,101],[122]] (by omega) hl (by simp) (by simp)) rfl rfl rfl zE_ ?_
    rintro x cs' ⟨s,rfl,hs,rfl⟩
    refine zS ?_
    refine useS (qjU l (k'+1+1+1) 0 4 (by omega) hl (by decide) (by decide) (by decide)) rfl rfl rfl zE_ ?_
    rintro x cs' ⟨a,rfl,ha0,ha1,rfl⟩
    refine zS ?_
    refine useS (qjU l (k'+1+1+1+1) 0 5 (by omega) hl (by decide) (by decide) (by decide)) rfl rfl rfl zE_ ?_
    rintro x cs' ⟨c,rfl,hc0,hc1,rfl⟩
    refine zS ?_
    refine ⟨by simp;omega,qbn (.adr (.b 0) 0::oo::.adr (.l 2) 0::.adr (.l 3) 0::oD (oB (.row (.l 14)::oG (oE (oC (oB [])))))) [(.b 0,.box ((stm l (k'+1+1+1+1+1)).map .p) T),(.l 2,.box [.p (.nl 3),.p (.nl 3),.p (.nl 1),.p (.nl 1)] qa0),(.l 14,.row ((d0 y).map par) qdg 3 true),(.l 3,.box [.p (.sl 3 ((P++[(s,a,c)]).map par)),.row (.l 14),.p (.sl 1 ((T0).map fun x=>[PV.str x])),.p (.sl 1 ((X0).map fun x=>[PV.str x]))] qa0)] zF_ (by rw [zG];simp only [ZZ,WW,Ze,reduceCtorEq,zd,ze,za,zf,zb,par]) ⟨_,_,_,_,_,?_,by omega,.inl ⟨rfl,rfl⟩⟩⟩
    refine ⟨by simp;omega,fun p hp=>?_,by simp [d0],hDo,⟨T0,hT0,.inl rfl⟩,⟨X0,hX0,.inl rfl⟩⟩
    rcases zr.1 hp with h|h
    ·exact hPo p h
    ·simp only [zD] at h
     subst h
     exact ⟨by simp only [zo,zu,or_false] at hs;rcases hs with rfl|rfl|rfl<;>simp [pS],ha0,ha1,hc0,hc1⟩
   ·intro _
    refine zS ?_
    refine br ?_ ?_
    ·intro _
     refine zS ?_
     refine useF (quY ((d0 y).map par) (by simp [d0])) rfl rfl ?_
     rintro es rfl
     refine zS ?_
     refine useS (qbW l (k'+1+1) [[102,105,114,109,46,100,101],[100,101],[97,46,98],[]] (by omega) hl (by simp) (by simp)) rfl rfl rfl zE_ ?_
     rintro x cs' ⟨s,rfl,hs,rfl⟩
     refine zS ?_
     refine useS (qjU l (k'+1+1+1) 0 4 (by omega) hl (by decide) (by decide) (by decide)) rfl rfl rfl zE_ ?_
     rintro x cs' ⟨a,rfl,ha0,ha1,rfl⟩
     refine zS ?_
     refine useS (qjU l (k'+1+1+1+1) 0 5 (by omega) hl (by decide) (by decide) (by decide)) rfl rfl rfl zE_ ?_
     rintro x cs' ⟨c,rfl,hc0,hc1,rfl⟩
     refine zS ?_
     refine ⟨by simp [d0],qbn (.adr (.b 0) 0::oo::.adr (.l 2) 0::.adr (.l 3) 0::oG (oF (oo::[]))) [(.b 0,.box ((stm l (k'+1+1+1+1+1)).map .p) T),(.l 2,.box [.p (.nl 3),.p (.nl 3),.p (.nl 1),.p (.nl 1)] qa0),(.l 3,.box [.p (.sl 3 ((P).map par)),.p (.sl 3 ((d0 y++[(s,a,c)]).map par)),.p (.sl 1 ((T0).map fun x=>[PV.str x])),.p (.sl 1 ((X0).map fun x=>[PV.str x]))] qa0)] zF_ (by rw [zG];simp only [ZZ,WW,Ze,reduceCtorEq,zd,ze,za,zf,zb,par]) ⟨_,_,_,_,_,?_,by omega,.inr ⟨rfl,rfl⟩⟩⟩
     refine ⟨by omega,hPo,by simp [d0],fun p hp=>?_,⟨T0,hT0,.inl rfl⟩,⟨X0,hX0,.inl rfl⟩⟩
     rcases zr.1 hp with h|h
     ·exact hDo p h
     ·simp only [zD] at h
      subst h
      exact ⟨by simp only [zo,zu,or_false] at hs;rcases hs with rfl|rfl|rfl|rfl<;>simp [dS],ha0,ha1,hc0,hc1⟩
    ·intro _
     refine zS ?_
     refine br ?_ ?_
     ·intro _
      refine zS ?_
      refine useF (qjW (T0.map fun x=>[PV.str x]) (by simp;omega)) rfl rfl ?_
      rintro es rfl
      refine zS ?_
      refine use1 (qdc [122] 60 (by omega) (by simp)) rfl (.inl rfl) ?_
      refine zS ?_
      refine use1 (qdc [122] 61 (by omega) (by simp)) rfl (.inl rfl) ?_
      refine zS ?_
      refine useS (qbW l (k'+1+1) [[],[90,101,100],[122,101,100],[97],[122,255],Lib.repeatL [122] 60,Lib.repeatL [122] 61] (by omega) hl (by simp) (by simp)) rfl rfl rfl zE_ ?_
      rintro x cs' ⟨s,rfl,hs,rfl⟩
      refine zS ?_
      refine ⟨by simp;omega,qbn (.adr (.b 0) 0::oo::.adr (.l 2) 0::.adr (.l 3) 0::oD (oB (.row (.l 14)::oG (oE (oC (oB [])))))) [(.b 0,.box ((stm l (k'+1+1+1)).map .p) T),(.l 2,.box [.p (.nl 3),.p (.nl 3),.p (.nl 1),.p (.nl 1)] qa0),(.l 14,.row ((d0 y).map par) qdg 3 true),(.l 3,.box [.p (.sl 3 ((P).map par)),.row (.l 14),.p (.sl 1 ((T0++[s]).map fun x=>[PV.str x])),.p (.sl 1 ((X0).map fun x=>[PV.str x]))] qa0)] zF_ (by rw [zG];simp only [ZZ,WW,Ze,reduceCtorEq,zd,ze,za,zf,zb]) ⟨_,_,_,_,_,?_,by omega,.inl ⟨rfl,rfl⟩⟩⟩
      exact ⟨by omega,hPo,by simp [d0],hDo,⟨T0,hT0,.inr ⟨s,hs,rfl⟩⟩,⟨X0,hX0,.inl rfl⟩⟩
     ·intro _
      refine zS ?_
      refine br ?_ ?_
      ·intro _
       refine zS ?_
       refine useF (qjW (X0.map fun x=>[PV.str x]) (by simp;omega)) rfl rfl ?_
       rintro es rfl
       refine zS ?_
       refine useS (qbW l (k'+1+1) [[],[97,108,108,64,102,105,114,109,46,100,101],[122,111,101,64,102,105,114,109,46,100,101]] (by omega) hl (by simp) (by simp)) rfl rfl rfl zE_ ?_
       rintro x cs' ⟨s,rfl,hs,rfl⟩
       refine zS ?_
       refine ⟨by simp;omega,qbn (.adr (.b 0) 0::oo::.adr (.l 2) 0::.adr (.l 3) 0::oD (oB (.row (.l 14)::oG (oE (oC (oB [])))))) [(.b 0,.box ((stm l (k'+1+1+1)).map .p) T),(.l 2,.box [.p (.nl 3),.p (.nl 3),.p (.nl 1),.p (.nl 1)] qa0),(.l 14,.row ((d0 y).map par) qdg 3 true),(.l 3,.box [.p (.sl 3 ((P).map par)),.row (.l 14),.p (.sl 1 ((T0).map fun x=>[PV.str x])),.p (.sl 1 ((X0++[s]).map fun x=>[PV.str x]))] qa0)] zF_ (by rw [zG];simp only [ZZ,WW,Ze,reduceCtorEq,zd,ze,za,zf,zb]) ⟨_,_,_,_,_,?_,by omega,.inl ⟨rfl,rfl⟩⟩⟩
       exact ⟨by omega,hPo,by simp [d0],hDo,⟨T0,hT0,.inl rfl⟩,⟨X0,hX0,.inr ⟨s,hs,rfl⟩⟩⟩
      ·intro _
       refine zS ?_
       refine useR (qq3 _ _ _ _ _ _ _ _ _) rfl rfl rfl zE_ ?_
       rintro x es' rfl
       refine zS ?_
       refine qbn (.adr (.b 0) 0::oo::.adr (.l 2) 0::.adr (.l 3) 0::oD (oB (.row (.l 14)::oG (oE (oC (oB [])))))) [(.b 0,.box ((stm l (k'+1+1)).map .p) T),(.l 2,.box [.p (.nl 3),.p (.nl 3),.p (.nl 1),.p (.nl 1)] qa0),(.l 14,.row (((d0 y).reverse).map par) qdg 3 true),(.l 3,.box [.p (.sl 3 ((P).map par)),.row (.l 14),.p (.sl 1 ((T0).map fun x=>[PV.str x])),.p (.sl 1 ((X0).map fun x=>[PV.str x]))] qa0)] zF_ (by simp only [ZZ,WW,Ze,reduceCtorEq,zd,ze,za,zf,zb];rfl) ⟨_,_,_,_,_,?_,by omega,.inl ⟨rfl,rfl⟩⟩
       exact ⟨by omega,hPo,by simp [d0],fun p hp=>hDo p (List.mem_reverse.1 hp),⟨T0,hT0,.inl rfl⟩,⟨X0,hX0,.inl rfl⟩⟩
  ·intro _
   refine zS ?_
   refine qbn (.adr (.b 0) 0::oo::.adr (.l 2) 0::.adr (.l 3) 0::oD (oB (.row (.l 14)::oG (oE (oC (oB [])))))) [(.b 0,.box ((stm l (k'+1)).map .p) T),(.l 2,.box [.p (.nl 3),.p (.nl 3),.p (.nl 1),.p (.nl 1)] qa0),(.l 14,.row ((d0 y).map par) qdg 3 true),(.l 3,.box [.p (.sl 3 ((P).map par)),.row (.l 14),.p (.sl 1 ((T0).map fun x=>[PV.str x])),.p (.sl 1 ((X0).map fun x=>[PV.str x]))] qa0)] zF_ zE_ ⟨_,_,_,_,_,?_,by omega,.inl ⟨rfl,rfl⟩⟩
   exact ⟨by omega,hPo,by simp [d0],hDo,⟨T0,hT0,.inl rfl⟩,⟨X0,hX0,.inl rfl⟩⟩
  ·rintro fr L ⟨P,D,Ts,X,k2,hC,hk2,⟨rfl,rfl⟩|⟨rfl,rfl⟩⟩
   ·refine zS ?_
    exact qd0 (stm l k2) rfl ⟨P,D,Ts,X,k2,hC,rfl,rfl,by omega⟩
   ·refine zS ?_
    exact qd0 (stm l k2) rfl ⟨P,D,Ts,X,k2,hC,rfl,rfl,by omega⟩
end
section
variable {E:Envt}
end
def qcm:IC:=(sR [qT 7 .lss 6 5] (.seq (jE 7) (.seq (.block 1 (sR [qM 8 3,qM 9 0,qO 10 (.bsl 1 [.c (.str []),.c (.str []),.c (.str [62,32]),.c (.str [62,32]),.c (.str [62,32,62,32]),.c (.str [62]),.c (.str [62,62,32])]),jC 11 30 [.t 9,.t 10],qM 12 0,qO 13 (.bsl 1 [.c (.str [98,101,32,99,97,114,101,102,117,108]),.c (.str [116,104,105,115,32,105,115,32,108,101,103,97,108,32,97,100,118,105,99,101]),.c (.str [108,117,110,99,104,63]),.c (.str []),.c (.str [32]),.c (.str [66,101,32,32,67,97,114,101,102,117,108,32]),.c (.str [111,110,101,32,109,111,114,101]),.c (.str [112,114,105,118,105,108,101,103,101,100,32,97,110,100,32,99,111,110,102,105,100,101,110,116,105,97,108]),.c (.str [195,169,116,195,169,32,108,101,103,97,108,32,97,100,118,105,99,101])]),jC 14 30 [.t 12,.t 13],qT 15 .add 11 14,qB 16 .add 15 (.c (.str [10])),qT 17 .add 8 16,qM 3 17] (sR [qM 18 0,jC 19 28 [.t 18,.c (.int .i64 5)]] (jW 19 (.reg [qM 20 3,qM 21 0,qO 22 (.bsl 1 [.c (.str []),.c (.str [62,32])]),jC 23 30 [.t 21,.t 22],qM 24 0,qO 25 (.bsl 1 [.c (.str [66,111,32,119,114,111,116,101,58]),.c (.str [79,110,32,77,111,110,100,97,121,32,65,110,110,32,119,114,111,116,101,58]),.c (.str [119,114,111,116,101,58]),.c (.str [67,121,32,115,99,104,114,105,101,98,58]),.c (.str [45,45,45,45,45,79,114,105,103,105,110,97,108,32,77,101,115,115,97,103,101,45,45,45,45,45])]),jC 26 30 [.t 24,.t 25],qT 27 .add 23 26,qB 28 .add 27 (.c (.str [10])),qT 29 .add 20 28,qM 3 29]))))) (.cut (.reg [qB 30 .add 6 (cI 1),qM 6 30])))))
abbrev qfE:IC:=(sR [qO 2 (.mov (.c (.str [])))] (sR [qO 3 (.mov (.c (.str [])))] (.seq (sR [qM 4 0,jC 5 27 [.t 4,.c (.int .i64 7)],jI 6 0] (.block 0 (.loop qcm))) (sR [qM 31 3,qM 2 31] .ret))))
theorem qfT:chkF Tryz.prog Tryz.f161 qfE [.t 2] 32=true:=by kernel_rfl
section
variable {E:Envt}
def bA:List (List UInt8):=[[],[],[62,32],[62,32],[62,32,62,32],[62],[62,62,32]]
def bB:List (List UInt8):=[[98,101,32,99,97,114,101,102,117,108],[116,104,105,115,32,105,115,32,108,101,103,97,108,32,97,100,118,105,99,101],[108,117,110,99,104,63],[],[32],[66,101,32,32,67,97,114,101,102,117,108,32],[111,110,101,32,109,111,114,101],[112,114,105,118,105,108,101,103,101,100,32,97,110,100,32,99,111,110,102,105,100,101,110,116,105,97,108],[195,169,116,195,169,32,108,101,103,97,108,32,97,100,118,105,99,101]]
def bC:List (List UInt8):=[[],[62,32]]
def bD:List (List UInt8):=[[66,111,32,119,114,111,116,101,58],[79,110,32,77,111,110,100,97,121,32,65,110,110,32,119,114,111,116,101,58],[119,114,111,116,101,58],[67,121,32,115,99,104,114,105,101,98,58],[45,45,45,45,45,79,114,105,103,105,110,97,108,32,77,101,115,115,97,103,101,45,45,45,45,45]]
theorem qAu:∀ s∈bA,s.length≤60:=by decide
theorem qAt:∀ s∈bB,s.length≤60:=by decide
theorem qAs:∀ s∈bC,s.length≤60:=by decide
theorem qAr:∀ s∈bD,s.length≤60:=by decide
theorem qy6 (l:List Int) (k:Nat) (hk:k≤900000) (hl:l.length≤9223372036854775807) :
  qfY Tryz.prog E 161 T (stm l k) [] (fun x cs'=>∃ s k',x=.str s∧s.length≤2000∧cs'=stm l k'∧k'≤k+40):=by
 unfold qfY
 refine qim mixed Tryz.func161 qfT ?_
 refine zV ?_
 refine useS (qdN l k 7 (by omega) hl (by decide)) rfl rfl rfl zE_ ?_
 rintro x cs' ⟨y,rfl,rfl⟩
 have b1:=qgl y 7
 have b2:=qgm y 7 (by omega)
 generalize qeM y 7=m at *
 refine zS ?_
 refine qae (fun n fr L=>∃ (i k':Nat) (s:List UInt8),n=7 - i∧i≤7∧k'≤k+1+5 * i∧s.length≤250 * i∧fr=(.adr (.b 0) 0::oo::oo::.p (.str s)::oo::.p (int m)::.p (int (i:Nat))::oE (oD (oo::[])))∧L=[(.b 0,.box ((stm l k').map .p) T)]) 7 _ _ zF_ zE_ ⟨0,k+1,[],by omega,by omega,by omega,by simp,rfl,rfl⟩ ?_
 rintro n fr L ⟨i,k',s,rfl,hi,hk',hs,rfl,rfl⟩
 simp only [qcm,ZZ,WW,Ze,reduceCtorEq,zd,ze,za,zf,zb]
 refine br ?_ ?_
 ·intro h
  have hlt:(i:Int) < m:=of_decide_eq_true h
  refine zS ?_
  refine useS (qbW l k' bA (by omega) hl (by decide) (by decide)) rfl rfl rfl zE_ ?_
  rintro x cs' ⟨u,rfl,hu,rfl⟩
  have hu:=qAu u hu
  refine zS ?_
  refine useS (qbW l (k'+1) bB (by omega) hl (by decide) (by decide)) rfl rfl rfl zE_ ?_
  rintro x cs' ⟨v,rfl,hv,rfl⟩
  have hv:=qAt v hv
  refine zS ?_
  refine ⟨by simp;omega,by simp;omega,by simp;omega,?_⟩
  refine useS (qgs l (k'+1+1) 5 (by omega) hl (by decide)) rfl rfl rfl zE_ ?_
  rintro x cs' ⟨b,rfl,rfl⟩
  refine zS ?_
  refine br ?_ ?_
  ·intro _
   refine zS ?_
   refine useS (qbW l (k'+1+1+1) bC (by omega) hl (by decide) (by decide)) rfl rfl rfl zE_ ?_
   rintro x cs' ⟨u2,rfl,hu2,rfl⟩
   have hu2:=qAs u2 hu2
   refine zS ?_
   refine useS (qbW l (k'+1+1+1+1) bD (by omega) hl (by decide) (by decide)) rfl rfl rfl zE_ ?_
   rintro x cs' ⟨v2,rfl,hv2,rfl⟩
   have hv2:=qAr v2 hv2
   refine zS ?_
   refine ⟨by simp;omega,by simp;omega,by simp;omega,?_⟩
   refine qad zE_ ?_
   refine zS ?_
   refine ⟨qam (by omega) (by omega),qab (7 - (i+1)) (.adr (.b 0) 0::oo::oo::.p (.str (s++(u++v++[10])++(u2++v2++[10])))::oo::.p (int m)::.p (int ((i+1:Nat)))::oE (oD (oo::[]))) [(.b 0,.box ((stm l (k'+1+1+1+1+1)).map .p) T)] (by omega) zF_ zE_ ⟨i+1,k'+1+1+1+1+1,_,rfl,by omega,by omega,by simp;omega,rfl,rfl⟩⟩
  ·intro _
   refine zS ?_
   refine qad zE_ ?_
   refine zS ?_
   refine ⟨qam (by omega) (by omega),qab (7 - (i+1)) (.adr (.b 0) 0::oo::oo::.p (.str (s++(u++v++[10])))::oo::.p (int m)::.p (int ((i+1:Nat)))::oE (oD (oo::[]))) [(.b 0,.box ((stm l (k'+1+1+1)).map .p) T)] (by omega) zF_ zE_ ⟨i+1,k'+1+1+1,_,rfl,by omega,by omega,by simp;omega,rfl,rfl⟩⟩
 ·intro h
  refine zS ?_
  exact qd0 (stm l k') rfl ⟨s,k',rfl,by omega,rfl,by omega⟩
end
section
variable {E:Envt}
end
abbrev qiw:IC:=(sR [qO 4 (.mov (.c (.bool false)))] (sR [qM 5 0,qM 6 1,jC 7 192 [.t 5,.t 6],qB 8 .geq 7 (cI 0),qM 4 8] .ret))
theorem qiO:chkF Tryz.prog Tryz.f131 qiw [.t 4] 9=true:=by kernel_rfl
section
theorem qgt (s t:List UInt8) (hs:s.length≤1000000000):PCall Tryz.prog E0 131 [.str s,.str t] (·=.bool (decide (0≤Lib.index s t))):=by
 refine qag mixed Tryz.func131 qiO ?_
 refine zV ?_
 refine use1 (qwU s t hs) rfl (.inl rfl) ?_
 simp only [ZZ,WW,Ze,reduceCtorEq,zd,ze,za,zf,zb]
end
end Go.Proofs.YtekhobchfhhofaaGreatDoor
namespace Go.Proofs.YtekhobchfhhofaaGreatDoor
open Nat renaming lt_or_ge→yl,reduceAdd→zd,reduceEqDiff→zb,reduceLT→zf,reduceLeDiff→za,reduceMul→ze
open List renaming eq_nil_of_length_eq_zero→zw,getElem?_eq_getElem→zh,take_length→ya
open Option renaming map_eq_some_iff→zi
open _root_.Array renaming getElem?_eq_none→yq
open Go.RowKit
theorem qAq:(Tryz.prog.info? 5).map (fun i=>(i.zero,i.size,i.bytes))=some (some (.int .u8 0),1,1):=by kernel_rfl
theorem quA:(Tryz.prog.info? 140).map (·.size)=some 2:=by kernel_rfl
theorem qy7:liesAt Tryz.prog Tryz.prog.depth 140 (2 / Tryz.prog.cellsOf 140) 0 140 1=true:=by kernel_rfl
theorem qoA (W:World) (q:Option Addr):(Builtin.unsafeString_ #[193,3] 9 #[.pointer q,.int .i64 0]).run Tryz.prog W=.ok (.string .empty) W:=Lib.run_unsafeString_none W _ _ _ q
theorem qkr:Tryz.prog.follows .mixedOrders=true:=by kernel_rfl
theorem qy8:Tryz.prog.cellsOf 5=1:=by kernel_rfl
theorem qAp:(Tryz.prog.info? 5).map (·.size)=some 1:=by kernel_rfl
abbrev tSb:TypeId:=140
abbrev tU8:TypeId:=5
set_option maxHeartbeats 1000000 in
set_option maxRecDepth 100000 in
theorem qwB (b:Nat) (w:World) (h0:w.cell? ⟨b,0,none⟩=some (.pointer (some ⟨b,0,none⟩))) :
  Calls Tryz.prog 158 #[.pointer (some ⟨b,0,none⟩)] w fun e w'=>e=.returned (.tuple #[])∧w'=w:=by
 obtain ⟨j,hj,_⟩:=zi.1 quA
 go_enter Tryz.func158,Tryz.ntmps158
 go_wp2
 rw [Lib.run_neq_ptr_same w _ Tryz.underlying137 hj]
 go_wp2
 go_end0
 exact ⟨rfl,rfl⟩
set_option maxHeartbeats 1000000 in
set_option maxRecDepth 100000 in
theorem qpY (b:Nat) (w:World) (h0:w.cell? ⟨b,0,none⟩=some (.pointer none)) (hsh:w.shape? b=some (140,2)) (hfz:w.frozen? ⟨b,0,none⟩=false) :
  Calls Tryz.prog 158 #[.pointer (some ⟨b,0,none⟩)] w fun e w'=>e=.returned (.tuple #[])∧w'=w.setCell ⟨b,0,none⟩ (.pointer (some ⟨b,0,none⟩)):=by
 obtain ⟨j,hj,hjs⟩:=zi.1 quA
 go_enter Tryz.func158,Tryz.ntmps158
 go_wp2
 rw [Lib.run_to_unsafe w ⟨b,0,none⟩ Tryz.underlying137 Tryz.underlying236 hj (by rw [hjs];decide) hsh (Nat.zero_lt_succ 1)]
 simp only [Result.andThen]
 rw [Oper.upon_value]
 go_wp2
 rw [run_callFunc_extern Tryz.func221 (by kernel_rfl) (by kernel_rfl) (by kernel_rfl) (e:=Extern.AbiNoEscape.same) (by kernel_rfl)]
 rw [Lib.run_noEscape]
 simp only [Result.andThen]
 rw [Oper.upon_value]
 go_wp2
 rw [Lib.run_from_unsafe w ⟨b,0,none⟩ Tryz.underlying236 Tryz.underlying137 hj hsh qy7]
 simp only [Result.andThen]
 rw [Oper.upon_value]
 go_wp2
 go_end0
 exact ⟨rfl,rfl⟩
theorem b_cc (b:Nat) (bs:List Value) (w:World) (h:Lib.IsBuilder 140 5 0 b bs w) :
  Calls Tryz.prog 158 #[.pointer (some ⟨b,0,none⟩)] w fun e w'=>e=.returned (.tuple #[])∧qu0 140 5 b bs w w':=by
 rcases h with h|h
 ·refine (qpY b w h.cell0 h.shape h.frozen0).mono ?_
  rintro e w' ⟨rfl,rfl⟩
  exact ⟨rfl,qpW h⟩
 ·refine (qwB b w h.cell0).mono ?_
  rintro e w' ⟨rfl,rfl⟩
  exact ⟨rfl,qqU h⟩
set_option maxHeartbeats 2000000 in
set_option maxRecDepth 100000 in
theorem qmq (b:Nat) (s t:List UInt8) (w:World) (h:Lib.IsBuilder 140 5 0 b (Lib.byteCells s) w) (hlen:s.length+t.length≤140737488355328) :
  Calls Tryz.prog 90 #[.pointer (some ⟨b,0,none⟩),.string ⟨t.toArray⟩] w fun e w'=>e=.returned (.tuple #[.int .i64 t.length,.nilIface])∧SbPost 140 5 b (s++t) w w':=by
 obtain ⟨i0,hi,hz0,hz1,hz2⟩:=info_parts qAq
 have hsz:(⟨t.toArray⟩:ByteArray).size=t.length:=by simp [ByteArray.size]
 have hcl:Lib.strCells ⟨t.toArray⟩=Lib.byteCells t:=by simp [Lib.strCells,Lib.byteCells]
 generalize hst:(⟨t.toArray⟩:ByteArray)=st at hsz hcl ⊢
 rw [← hsz] at hlen ⊢
 go_enter Tryz.func90,Tryz.ntmps90
 go_wp2_with (go_at_call 158;refine (b_cc b _ _ h).mono ?_)
 rintro e w1 ⟨rfl,v,hbk,hown,hne,hG1,hbf⟩
 rw [Lib.byteCells_length] at hown
 have c0:w1.cell? ⟨b,0,none⟩=some (.pointer (some ⟨b,0,none⟩)):=by rw [Lib.cell_of_heap hbk];rfl
 have c1:w1.cell? ⟨b,1,none⟩=some v:=by rw [Lib.cell_of_heap hbk];rfl
 go_wp2_with (at_builtin;refine qmn rfl _ _ 138 9 rfl 0 5 i0 Tryz.underlying138 Tryz.underlying9 hi hz0 hz1 hz2 _ _ _ rfl hown st rfl (by unfold maxLen;omega) (by omega) (Nat.zero_le _) ?_)
 intro v' w2 hown' hgrow hat
 have hlt:=qnc hbk
 have hb2:w2.heap[b]?=some (.cells #[.pointer (some ⟨b,0,none⟩),v] 140 (0,0)):=by
  rw [hgrow.block b hlt (fun e=>hne e.symm)]
  exact hbk
 have d0:w2.cell? ⟨b,0,none⟩=some (.pointer (some ⟨b,0,none⟩)):=by rw [Lib.cell_of_heap hb2];rfl
 have d1:w2.cell? ⟨b,1,none⟩=some v:=by rw [Lib.cell_of_heap hb2];rfl
 have f1:w2.frozen? ⟨b,1,none⟩=false:=Lib.frozen_of_heap hb2 1
 have hP:SbPost 140 5 b (s++t) w (w2.setCell ⟨b,1,none⟩ v'):=
  qpe (by decide) hG1 hbf hbk hgrow hne hat (by first|(rw [hcl,hsz] at hown';simpa [Lib.byteCells] using hown')|simpa [Lib.byteCells] using hown')
 obtain ⟨ao,n',cap,rfl⟩:∃ ao n' cap,v'=.slice ao n' cap:=by
  rcases hown'.2 with ⟨hv,_⟩|⟨g,cap,cur,hv,_⟩
  ·exact ⟨_,_,_,hv⟩
  ·exact ⟨_,_,_,hv⟩
 go_wp2
 go_ret2
 exact ⟨by first|rfl|(rw [hsz];rfl),hP⟩
set_option maxHeartbeats 1000000 in
set_option maxRecDepth 100000 in
theorem qwC (B b:Nat) (l:List UInt8) (w:World) (h:Lib.IsBuilder 140 5 B b (Lib.byteCells l) w) (h0:l≠[]) :
  Calls Tryz.prog 92 #[.pointer (some ⟨b,0,none⟩)] w fun e w'=>e=.returned (.string ⟨l.toArray⟩)∧Grow w w' (fun x=>x=b∨qfk w 140 b x):=by
 obtain ⟨p,hB,v,hbk,hown,hne⟩:∃ p,Lib.BuilderAt 140 5 B b p (Lib.byteCells l) w:=by
  rcases h with h|h
  ·exact ⟨_,h⟩
  ·exact ⟨_,h⟩
 have hl0:l.length≠0:=by simpa using h0
 rw [Lib.byteCells_length] at hown
 obtain ⟨g,cap,cur,rfl,hbg,hg,hnc,hcm,hcs,htake⟩:∃ g cap cur,v=.slice (some ⟨g,0,none⟩) l.length cap∧B≤g∧w.heap[g]?=some (.cells cur 5 (0,0))∧l.length≤cap∧cap≤maxLen∧cur.size=cap * 1∧cur.toList.take (l.length * 1)=Lib.byteCells l:=by
  rcases hown.2 with ⟨_,hz⟩|⟨g,cap,cur,hv,r⟩
  ·exact absurd hz hl0
  ·exact ⟨g,cap,cur,hv,r⟩
 have c1:w.drew.cell? ⟨b,1,none⟩=some (.slice (some ⟨g,0,none⟩) l.length cap):=by
  have:w.drew.heap[b]?=some (.cells #[p,.slice (some ⟨g,0,none⟩) l.length cap] 140 (0,0)):=hbk
  rw [Lib.cell_of_heap this];rfl
 have hSD:(Builtin.unsafeSliceData_ #[138] 193 #[.slice (some ⟨g,0,none⟩) l.length cap]).run Tryz.prog w.drew=.ok (.pointer (some ⟨g,0,none⟩)) w.drew:=
  Lib.run_unsafeSliceData_row _ _ _ _ _ _ (by omega)
 have hUS:(Builtin.unsafeString_ #[193,3] 9 #[.pointer (some ⟨g,0,none⟩),.int .i64 l.length]).run Tryz.prog w.drew=.ok (.string ⟨l.toArray⟩) (w.drew.freeze ⟨g,0,none⟩ l.length):=by
  refine Lib.run_unsafeString_row w.drew 193 3 9 5 Tryz.underlying193 qy8 g cur.size (by have hg':w.drew.heap[g]?=some (.cells cur 5 (0,0)):=hg;simp [World.shape?,hg']) l h0 (by omega) (by unfold maxLen at hcm;omega) ?_
  intro j x hx
  have:=hown.cells (g:=g) rfl j (.int .u8 x.toNat) (by simp [Lib.byteCells,hx])
  exact this
 have mixed:=qkr
 go_enter Tryz.func92,Tryz.ntmps92
 go_wp2
 go_region_o
 all_goals (go_wp2;go_ret;exact ⟨rfl,qqL (.inr ⟨_,_,hbk,rfl⟩)⟩)
set_option maxHeartbeats 2000000 in
set_option maxRecDepth 100000 in
theorem qpZ (B b:Nat) (p:Value) (w:World) (hbk:w.heap[b]?=some (.cells #[p,.slice none 0 0] 140 (0,0))) :
  Calls Tryz.prog 92 #[.pointer (some ⟨b,0,none⟩)] w fun e w'=>e=.returned (.string ⟨#[]⟩)∧Grow w w' (fun x=>x=b∨qfk w 140 b x):=by
 have hUS:=qoA
 have c1:w.drew.cell? ⟨b,1,none⟩=some (.slice none 0 0):=by
  have:w.drew.heap[b]?=some (.cells #[p,.slice none 0 0] 140 (0,0)):=hbk
  rw [Lib.cell_of_heap this];rfl
 have hSD:(Builtin.unsafeSliceData_ #[138] 193 #[.slice none 0 0]).run Tryz.prog w.drew=.ok (.pointer none) w.drew:=rfl
 have mixed:=qkr
 go_enter Tryz.func92,Tryz.ntmps92
 go_wp2
 go_region_o
 all_goals (go_wp2;go_ret;exact ⟨rfl,(Grow.refl w _).drew⟩)
set_option maxHeartbeats 2000000 in
set_option maxRecDepth 100000 in
theorem ql7 (B b g:Nat) (p:Value) (cur:Array Value) (w:World) (hBw:B≤w.heap.size) (hbk:w.heap[b]?=some (.cells #[p,.slice (some ⟨g,0,none⟩) 0 0] 140 (0,0))) (hg:w.heap[g]?=some (.cells cur 5 (0,0))) :
  Calls Tryz.prog 92 #[.pointer (some ⟨b,0,none⟩)] w fun e w'=>e=.returned (.string ⟨#[]⟩)∧Grow w w' (fun x=>x=b∨qfk w 140 b x):=by
 have hUS:=qoA
 have hlt:b < w.heap.size:=by
  rcases yl b w.heap.size with h'|h'
  ·exact h'
  ·simp [yq h'] at hbk
 have c1:w.drew.cell? ⟨b,1,none⟩=some (.slice (some ⟨g,0,none⟩) 0 0):=by
  have:w.drew.heap[b]?=some (.cells #[p,.slice (some ⟨g,0,none⟩) 0 0] 140 (0,0)):=hbk
  rw [Lib.cell_of_heap this];rfl
 have hSD:(Builtin.unsafeSliceData_ #[138] 193 #[.slice (some ⟨g,0,none⟩) 0 0]).run Tryz.prog w.drew=.ok (.pointer (some ⟨w.drew.heap.size,0,none⟩)) (w.drew.alloc (.view ⟨g,0,none⟩ 5)):=
  Lib.run_unsafeSliceData_zero w.drew _ _ 5 Tryz.underlying193 ⟨g,0,none⟩ 0 (5,cur.size) (by have hg':w.drew.heap[g]?=some (.cells cur 5 (0,0)):=hg;simp [World.shape?,hg'])
 have c2:(w.drew.alloc (.view ⟨g,0,none⟩ 5)).cell? ⟨b,1,none⟩=some (.slice (some ⟨g,0,none⟩) 0 0):=by
  have:(w.drew.alloc (.view ⟨g,0,none⟩ 5)).heap[b]?=_:=(Lib.alloc_old w.drew _ b hlt).trans hbk
  rw [Lib.cell_of_heap this];rfl
 have c3:(w.alloc (.view ⟨g,0,none⟩ 5)).drew.cell? ⟨b,1,none⟩=some (.slice (some ⟨g,0,none⟩) 0 0):=c2
 have c0:w.cell? ⟨b,1,none⟩=some (.slice (some ⟨g,0,none⟩) 0 0):=c1
 have mixed:=qkr
 go_enter Tryz.func92,Tryz.ntmps92
 go_wp2
 go_region_o
 all_goals (go_wp2;go_ret;exact ⟨rfl,qqM⟩)
set_option maxHeartbeats 2000000 in
set_option maxRecDepth 100000 in
theorem qoB (B b g cap:Nat) (p:Value) (w:World) (hc0:cap≠0) (hbk:w.heap[b]?=some (.cells #[p,.slice (some ⟨g,0,none⟩) 0 cap] 140 (0,0))) :
  Calls Tryz.prog 92 #[.pointer (some ⟨b,0,none⟩)] w fun e w'=>e=.returned (.string ⟨#[]⟩)∧Grow w w' (fun x=>x=b∨qfk w 140 b x):=by
 have hUS:=qoA
 have c1:w.drew.cell? ⟨b,1,none⟩=some (.slice (some ⟨g,0,none⟩) 0 cap):=by
  have:w.drew.heap[b]?=some (.cells #[p,.slice (some ⟨g,0,none⟩) 0 cap] 140 (0,0)):=hbk
  rw [Lib.cell_of_heap this];rfl
 have hSD:(Builtin.unsafeSliceData_ #[138] 193 #[.slice (some ⟨g,0,none⟩) 0 cap]).run Tryz.prog w.drew=.ok (.pointer (some ⟨g,0,none⟩)) w.drew:=
  Lib.run_unsafeSliceData_row _ _ _ _ _ _ hc0
 clear hc0
 have mixed:=qkr
 go_enter Tryz.func92,Tryz.ntmps92
 go_wp2
 go_region_o
 all_goals (go_wp2;go_ret;exact ⟨rfl,(Grow.refl w _).drew⟩)
theorem qmJ (B b:Nat) (w:World) (h:Lib.IsBuilder 140 5 B b [] w) (hBw:B≤w.heap.size) :
  Calls Tryz.prog 92 #[.pointer (some ⟨b,0,none⟩)] w fun e w'=>e=.returned (.string ⟨#[]⟩)∧Grow w w' (fun x=>x=b∨qfk w 140 b x):=by
 obtain ⟨p,hB,v,hbk,hown,hne⟩:∃ p,Lib.BuilderAt 140 5 B b p [] w:=by
  rcases h with h|h
  ·exact ⟨_,h⟩
  ·exact ⟨_,h⟩
 rcases hown.2 with ⟨rfl,_⟩|⟨g,cap,cur,rfl,hbg,hg,_,_,_,_⟩
 ·exact qpZ B b p w hbk
 ·by_cases hc0:cap=0
  ·subst hc0
   exact ql7 B b g p cur w hBw hbk hg
  ·exact qoB B b g cap p w hc0 hbk
theorem qp0 (B b:Nat) (l:List UInt8) (w:World) (h:Lib.IsBuilder 140 5 B b (Lib.byteCells l) w) (hBw:B≤w.heap.size) :
  Calls Tryz.prog 92 #[.pointer (some ⟨b,0,none⟩)] w fun e w'=>e=.returned (.string ⟨l.toArray⟩)∧Grow w w' (fun x=>x=b∨qfk w 140 b x):=by
 cases l with
 |nil=>exact qmJ B b w h hBw
 |cons x r=>exact qwC B b (x :: r) w h (by simp)
set_option maxHeartbeats 2000000 in
set_option maxRecDepth 1000000 in
theorem qpX (B b n:Nat) (w:World) (hB:B≤b) (hbk:w.heap[b]?=some (.cells #[.pointer (some ⟨b,0,none⟩),.slice none 0 0] 140 (0,0))) (hBw:B≤w.heap.size) (hn:n≤281474976710656) :
  Calls Tryz.prog 159 #[.pointer (some ⟨b,0,none⟩),.int .i64 n] w fun e w'=>e=.returned (.tuple #[])∧SbPost 140 5 b [] w w':=by
 obtain ⟨cs,hrun,hle,hmax⟩:=Lib.run_makeNoZero (P:=Tryz.prog) w.drew #[3] 138 5 Tryz.underlying138 n hn
 have hw:IntKind.i64.wrap (IntKind.i64.wrap 0+(n:Int))=n:=by
  rw [IntKind.wrap_i64,IntKind.wrap_i64]
  omega
 have hcall:(callFunc 222 #[.int .i64 (IntKind.i64.wrap (IntKind.i64.wrap 0+(n:Int)))]).run Tryz.prog w.drew=.ok (.value (.slice (some ⟨w.drew.heap.size,0,none⟩) n cs.size)) (w.drew.drew.drew.alloc (.cells cs 5)):=by
  rw [hw,run_callFunc_extern Tryz.func222 (by kernel_rfl) (by kernel_rfl) (by kernel_rfl) (e:=Extern.BytealgMakeNoZero.makeNoZero #[3] #[138]) (by kernel_rfl),hrun]
  rfl
 have c1:w.drew.cell? ⟨b,1,none⟩=some (.slice none 0 0):=by
  have:w.drew.heap[b]?=_:=hbk
  rw [Lib.cell_of_heap this];rfl
 have c2:(w.alloc (.cells cs 5)).cell? ⟨b,1,none⟩=some (.slice none 0 0):=by
  have hlt:b < w.heap.size:=by
   rcases yl b w.heap.size with h'|h'
   ·exact h'
   ·simp [yq h'] at hbk
  have:(w.alloc (.cells cs 5)).heap[b]?=_:=(Lib.alloc_old w _ b hlt).trans hbk
  rw [Lib.cell_of_heap this];rfl
 have f2:(w.alloc (.cells cs 5)).frozen? ⟨b,1,none⟩=false:=by
  have hlt:b < w.heap.size:=by
   rcases yl b w.heap.size with h'|h'
   ·exact h'
   ·simp [yq h'] at hbk
  exact Lib.frozen_of_heap ((Lib.alloc_old w _ b hlt).trans hbk) 1
 have hcopy:∀ W:World,(Builtin.copy_ #[138,138] 3 #[.slice (some ⟨w.heap.size,0,none⟩) 0 cs.size,.slice none 0 0]).run Tryz.prog W=.ok (goInt 0) W:=
  fun W=>run_copy_none W 138 138 3 5 _ _ 0 cs.size 0 0 Tryz.underlying138 qAp rfl
 clear hw
 have mixed:=qkr
 go_enter Tryz.func159,Tryz.ntmps159
 go_wp2
 have hfin:=SbPost.of_grown (T:=140) (e:=5) (cs:=cs) (by decide) hbk (hmax (by unfold maxLen;omega))
 go_region_o
 all_goals (go_wp2;go_end0;exact ⟨rfl,hfin⟩)
set_option maxHeartbeats 2000000 in
set_option maxRecDepth 1000000 in
theorem qp1 (B b n:Nat) (w:World) (hB:B≤b) (hbk:w.heap[b]?=some (.cells #[.pointer none,.slice none 0 0] 140 (0,0))) (hBw:B≤w.heap.size) (hn:n≤281474976710656) :
  Calls Tryz.prog 89 #[.pointer (some ⟨b,0,none⟩),.int .i64 n] w fun e w'=>e=.returned (.tuple #[])∧SbPost 140 5 b [] w w':=by
 have hbk1:(w.setCell ⟨b,0,none⟩ (.pointer (some ⟨b,0,none⟩))).heap[b]?=some (.cells #[.pointer (some ⟨b,0,none⟩),.slice none 0 0] 140 (0,0)):=by
  simp [World.setCell,Array.getElem?_modify,hbk]
 have c1:(w.setCell ⟨b,0,none⟩ (.pointer (some ⟨b,0,none⟩))).cell? ⟨b,1,none⟩=some (.slice none 0 0):=by rw [Lib.cell_of_heap hbk1];rfl
 have mixed:=qkr
 go_enter Tryz.func89,Tryz.ntmps89
 have c1':(w.setCell ⟨b,0,none⟩ (.pointer (some ⟨b,0,none⟩))).drew.cell? ⟨b,1,none⟩=some (.slice none 0 0):=c1
 go_wp2_with (go_at_call 158;refine (qpY b w (by rw [Lib.cell_of_heap hbk];rfl) (by simp [World.shape?,hbk]) (Lib.frozen_of_heap hbk 0)).mono ?_;rintro e w' ⟨rfl,rfl⟩)
 go_region_o
 all_goals go_wp2_with (go_at_call 159;refine (qpX B b n (w.setCell ⟨b,0,none⟩ (.pointer (some ⟨b,0,none⟩))).drew hB hbk1 (by simpa [World.setCell,World.drew,-World.drew_eq] using hBw) hn).mono ?_;rintro e w' ⟨rfl,h1⟩)
 all_goals first
  |(go_end0;exact ⟨rfl,SbPost.behind hbk h1⟩)
  |(go_end0;exact ⟨rfl,SbPost.of_used hbk⟩)
def qeX:IC:=(sR [qT 66 .lss 65 64] (.seq (.cond (.t 66) .skip (.exit 3)) (.seq (.block 4 (sR [qX 67 1 63 65,qL 68 67,qM 10 68] (sR [qM 69 1,jC 70 90 [.t 8,.t 69]] (.reg [qM 71 10,jC 72 90 [.t 8,.t 71]])))) (.reg [qB 73 .add 65 (cI 1),qM 65 73]))))
def qeY:IC:=(sR [qT 42 .lss 41 40] (.seq (.cond (.t 42) .skip (.exit 1)) (.seq (.block 2 (sR [qX 43 1 39 41,qL 44 43,qM 7 44] (.seq (sR [qM 45 7,qO 46 (.sln (.t 45)),qM 47 5,qO 48 (.bin .sub (cI 9223372036854775807) (.t 47)),qT 49 .gtr 46 48] (jW 49 (.reg [qO 50 (.dead),⟨none,.dead,none⟩]))) (.cut (.reg [qM 51 5,qM 52 7,qO 53 (.sln (.t 52)),qT 54 .add 51 53,qM 5 54]))))) (.reg [qB 55 .add 41 (cI 1),qM 41 55]))))
abbrev qlR:IC:=(sR [qO 4 (.mov (.c (.str [])))] (.seq (sR [qM 11 0,qN 12 11] (.block 0 (sR [qB 14 .eql 12 (cI 0),qM 13 14] (.cond (.t 13) (sR [qO 4 (.mov (.c (.str [])))] .ret) (sR [qB 16 .eql 12 (cI 1),qM 15 16] (jW 15 (sR [qM 17 0,qO 18 (.ixa 1 (.t 17) (cI 0)),qL 19 18,qM 4 19] .ret))))))) (sR [jI 5 0] (.seq (sR [qM 20 1,qO 21 (.sln (.t 20)),qB 22 .gtr 21 (cI 0)] (jW 22 (.seq (sR [qM 23 1,qO 24 (.sln (.t 23)),qM 25 0,qN 26 25,qB 27 .sub 26 (cI 1),qO 28 (.bin .quo (cI 9223372036854775807) (.t 27)),qT 29 .geq 24 28] (jW 29 (.reg [qO 30 (.dead),⟨none,.dead,none⟩]))) (.cut (.reg [qM 31 5,qM 32 1,qO 33 (.sln (.t 32)),qM 34 0,qN 35 34,qB 36 .sub 35 (cI 1),qT 37 .mul 33 36,qT 38 .add 31 37,qM 5 38]))))) (.cut (.seq (sR [qM 39 0,qN 40 39,jI 41 0] (.block 1 (.loop qeY))) (sR [qO 8 (.alc 140 [.raw (.pointer none),.nl 1])] (sR [qM 56 5,jC 57 89 [.t 8,.t 56]] (sR [qM 58 0,qO 59 (.ixa 1 (.t 58) (cI 0)),qL 60 59,jC 61 90 [.t 8,.t 60]] (.seq (sR [qM 62 0,qO 63 (.vsl 1 (.t 62) (some (cI 1)) none),qN 64 63,jI 65 0] (.block 3 (.loop qeX))) (sR [jC 74 92 [.t 8],qM 4 74] .ret)))))))))))
theorem ql3:chkF Tryz.prog Tryz.f109 qlR [.t 4] 75=true:=by kernel_rfl
section
variable {E:Envt} {L:Objs} {k:Key} {i:Nat} {fr:List AV} {d:Option Nat} {is:List IOper} {Y:List PV} {K:List AV→Objs→Prop}
theorem qxn (i:Nat) (s t:List UInt8) (hat:SbAt L k i tSb tU8 s) (hki:k≠.l i) (hlen:s.length+t.length≤140737488355328)
  (hk:qaa Tryz.prog E Y is (Zg (fr.map (·.kill (.l i))) d (.p (.tup [int (t.length:Nat),.raw .nilIface]))) (qj1 L k i tSb tU8 (s++t)) K):qbr Tryz.prog E 90 [.adr k 0,.p (.str t)] L d fr (qd1 Tryz.prog E Y is K):=
 useW (vr:=[.string ⟨t.toArray⟩]) (x:=.tup [int (t.length:Nat),.raw .nilIface]) (v:=.tuple #[.int .i64 t.length,.nilIface]) i tSb tU8 s (s++t) hat hki (fun w U ι vs h=>by obtain ⟨v,r,rfl,h1,h2⟩:=h;simp only [ARep,PRep,ARepL] at h1 h2;rw [h1,h2]) (fun w U=>⟨[_,_],rfl,_,_,rfl,rfl,_,_,rfl,⟨rfl,rfl⟩,rfl⟩)
  (fun b w h _=>qmq b s t w h hlen) hk
theorem qAC (i:Nat) (n:Nat) (hat:SbAt L k i tSb tU8 []) (hf:Zas L k=some (.box [.p nilP,.p (.nl 1)] tSb)) (hki:k≠.l i) (hn:n≤281474976710656)
  (hk:qaa Tryz.prog E Y is (Zg (fr.map (·.kill (.l i))) d (.p (.tup []))) (qj1 L k i tSb tU8 []) K):qbr Tryz.prog E 89 [.adr k 0,.p (int (n:Nat))] L d fr (qd1 Tryz.prog E Y is K):=
 useW (vr:=[.int .i64 n]) (x:=.tup []) (v:=.tuple #[]) i tSb tU8 [] [] hat hki (fun w U ι vs h=>by obtain ⟨v,r,rfl,h1,h2⟩:=h;simp only [ARep,PRep,ARepL] at h1 h2;rw [h1,h2]) (fun w U=>⟨[],rfl,rfl⟩)
  (fun b w _ h=>qp1 0 b n w (Nat.zero_le _) (h hf) (Nat.zero_le _) hn) hk
theorem qAB (i:Nat) (s:List UInt8) (hat:SbAt L k i tSb tU8 s) (hki:k≠.l i)
  (hk:qaa Tryz.prog E Y is (Zg (fr.map (·.kill (.l i))) d (.p (.str s))) (qpP L k i) K):qbr Tryz.prog E 92 [.adr k 0] L d fr (qd1 Tryz.prog E Y is K):=
 qAz i tSb tU8 s hat hki (fun b w h=>qp0 0 b s w h (Nat.zero_le _)) hk
theorem qkA:∀ (l:List (List UInt8)) (k:Nat),Lib.lens (l.take k)≤Lib.lens l
 |[],k=>by simp
 |x :: r,0=>by simp [Lib.lens]
 |x :: r,k+1=>by have:=qkA r k;simp only [List.take_succ_cons,Lib.lens,List.map_cons,List.sum_cons] at *;omega
theorem qoM (l:List (List UInt8)) (sep:List UInt8) (hl:l.length≤1000000000) (hlen:(Lib.join l sep).length≤1000000000):PCall Tryz.prog E 109 [strs l,.str sep] (·=.str (Lib.join l sep)):=by
 refine qag mixed Tryz.func109 ql3 ?_
 refine zV ?_
 simp only [strs,ZZ,WW,Ze,reduceCtorEq,zd,ze,za,zf,zb]
 refine br ?_ ?_
 ·intro h
  have h0:l=[]:=by
   have:=of_decide_eq_true h
   simp at this
   exact this
  subst h0
  refine zS ?_
  rfl
 intro h
 have h0:l.length≠0:=by have:=of_decide_eq_false h;simpa using this
 refine zS ?_
 obtain ⟨x,r,rfl⟩:∃ x r,l=x :: r:=by cases l with|nil=>exact absurd rfl h0|cons x r=>exact ⟨x,r,rfl⟩
 refine br ?_ ?_
 ·intro h1
  have h1:r=[]:=zw (by have:=of_decide_eq_true h1;simp at this;omega)
  subst h1
  refine zS ?_
  refine ⟨by simp,by simp,?_⟩
  rw [Lib.join_one]
  rfl
 intro h1
 have h1:r.length≠0:=by have:=of_decide_eq_false h1;simp at this;omega
 have hJ:=Lib.join_length x r sep
 have hcl:(x :: r).length=r.length+1:=by simp
 have hmul:sep.length * r.length≤1000000000:=by omega
 have hll:Lib.lens (x :: r)≤1000000000:=by omega
 generalize hes:(x :: r).map (fun x=>[PV.str x])=es
 have hln:es.length=r.length+1:=by rw [← hes];simp
 have hget:∀ (k:Nat) (y:List UInt8),(x :: r)[k]?=some y→es.getD k []=[PV.str y]:=fun k y h=>by rw [← hes];exact qa5 h
 refine zS ?_
 refine qfl (fun fr L=>fr=(.p (.sl 1 es)::.p (.str sep)::oo::oo::oo::.p (int (sep.length * r.length:Nat))::oG (oC (oo::[])))∧L=[]) ?_ ?_ ?_
 ·intro hs
  have hs:0 < sep.length:=by have:=of_decide_eq_true hs;omega
  refine zS ?_
  have hq:((9223372036854775807:Int)).tdiv ((es.length:Int) - 1)=((9223372036854775807 / r.length:Nat):Int):=by
   rw [hln,Int.tdiv_eq_ediv_of_nonneg (by omega)]
   have:((r.length+1:Nat):Int) - 1=(r.length:Int):=by omega
   rw [this]
   rfl
  have hq2:9223372036≤9223372036854775807 / r.length:=(Nat.le_div_iff_mul_le (by omega)).2 (by omega)
  have he:(es.length:Int) - 1=(r.length:Int):=by omega
  have hp:(sep.length:Int) * (r.length:Int)=((sep.length * r.length:Nat):Int):=by simp
  have hq3:9223372036854775807 / r.length≤9223372036854775807:=Nat.div_le_self _ _
  have hsl:sep.length≤sep.length * r.length:=Nat.le_mul_of_pos_right _ (by omega)
  rw [hq]
  generalize 9223372036854775807 / r.length=q at *
  simp only [he]
  refine ⟨qam (by omega) (by omega),⟨by omega,qam (by omega) (by omega)⟩,?_⟩
  refine br (fun h=>absurd (of_decide_eq_true h) (by omega)) ?_
  intro _
  refine zS ?_
  refine qad zE_ ?_
  refine zS ?_
  simp only [he,hp]
  refine ⟨qam (by omega) (by omega),qam (by omega) (by omega),qam (by omega) (by omega),qbn _ [] (by simp only [Int.zero_add];(simp only [ZZ,WW,Ze,reduceCtorEq,zd,ze,za,zf,zb];try trivial)) zE_ ⟨rfl,rfl⟩⟩
 ·intro hs
  have hs:sep.length=0:=by have:=of_decide_eq_false hs;omega
  refine zS ?_
  exact qbn _ [] (by rw [hs];simp only [Nat.zero_mul];(simp only [ZZ,WW,Ze,reduceCtorEq,zd,ze,za,zf,zb];try trivial)) zE_ ⟨rfl,rfl⟩
 ·rintro fr L ⟨rfl,rfl⟩
  refine zS ?_
  refine qae (fun n fr L=>∃ (k:Nat) (m:Nat),k≤r.length+1∧n=r.length+1 - k∧(m=sep.length * r.length+Lib.lens ((x :: r).take k))∧fr=(.p (.sl 1 es)::.p (.str sep)::oo::oo::oo::.p (int (m:Nat))::oF (oo::(.p (.sl 1 es)::.p (int (es.length:Nat))::.p (int (k:Nat))::oF (oo::[]))))∧L=[]) (r.length+1) _ [] zF_ zF_ ⟨0,sep.length * r.length,by omega,by omega,by simp [Lib.lens],rfl,rfl⟩ ?_
  rintro n fr L ⟨k,m,hk,rfl,hm,rfl,rfl⟩
  simp only [qeY,ZZ,WW,Ze,reduceCtorEq,zd,ze,za,zf,zb]
  refine br ?_ ?_
  ·intro h
   have hlt:k < r.length+1:=by have:=of_decide_eq_true h;omega
   obtain ⟨y,hy⟩:∃ y,(x :: r)[k]?=some y:=⟨_,zh (by simpa using hlt)⟩
   have hg:=hget k y hy
   have hs1:=Lib.lens_take_succ (x :: r) k y hy
   have hs2:=qkA (x :: r) (k+1)
   simp only [ZZ,WW,Ze,reduceCtorEq,zd,ze,za,zf,zb,hg]
   refine ⟨⟨by omega,by omega⟩,by omega,qam (by omega) (by omega),?_⟩
   refine br (fun h=>absurd (of_decide_eq_true h) (by omega)) ?_
   intro _
   refine zS ?_
   refine qad zE_ ?_
   refine zS ?_
   refine ⟨qam (by omega) (by omega),qam (by omega) (by omega),?_⟩
   refine qab (r.length+1 - (k+1)) _ [] (by omega) zF_ zF_ ⟨k+1,m+y.length,by omega,rfl,by omega,rfl,rfl⟩
  ·intro h
   have hge:k=r.length+1:=by have:=of_decide_eq_false h;omega
   subst hge
   have hm':m≤1000000000:=by rw [hm,List.take_of_length_le (by simp)];omega
   refine zS ?_
   refine qAC 1000 m (.inl ⟨rfl,rfl⟩) rfl (by simp) (by omega) ?_
   have hg0:=hget 0 x rfl
   have hlx:Lib.lens (x :: r)=x.length+Lib.lens r:=by simp [Lib.lens]
   simp only [ZZ,WW,Ze,reduceCtorEq,zd,ze,za,zf,zb,qj1,Int.toNat_zero,hg0]
   refine ⟨⟨by omega,by omega⟩,by omega,?_⟩
   refine qxn 1000 [] x (.inr ⟨rfl,rfl⟩) (by simp) (by simp;omega) ?_
   simp only [ZZ,WW,Ze,reduceCtorEq,zd,ze,za,zf,zb,qj1]
   refine ⟨⟨by omega,by omega⟩,?_⟩
   have hd:(es.take es.length).drop 1=strE r:=by rw [ya,← hes];simp [strE]
   simp only [Int.toNat_one,hd,qac]
   refine qae (fun n fr L=>∃ (k:Nat) (s:List UInt8),k≤r.length∧n=r.length - k∧(s=x++Lib.joinTail sep (r.take k))∧fr=(oo::.p (.str sep)::oC (oB (.adr (.l 8) 0::oF (oE (oC (oB (.p (.sl 1 (strE r))::.p (int (r.length:Nat))::.p (int (k:Nat))::oD (oo::[]))))))))∧L=[(.l 8,.box [.adr (.l 8) 0,.row (.l 1000)] tSb),(.l 1000,.row (bytC s) tU8 1 true)]) (r.length) _ _ zF_ zF_ ⟨0,x,by omega,by omega,by simp [Lib.joinTail],rfl,rfl⟩ ?_
   rintro n fr L ⟨k,s,hk,rfl,hs,rfl,rfl⟩
   simp only [qeX,ZZ,WW,Ze,reduceCtorEq,zd,ze,za,zf,zb]
   refine br ?_ ?_
   ·intro h
    have hlt:k < r.length:=by have:=of_decide_eq_true h;omega
    obtain ⟨y,hy⟩:∃ y,r[k]?=some y:=⟨_,zh hlt⟩
    have hg:=qaD hy
    have hj1:=Lib.joinTail_take_succ sep r k y hy
    have hj2:=Lib.joinTail_take_le sep r (k+1)
    have hj3:=Lib.joinTail_length sep r
    have hj4:(Lib.joinTail sep (r.take (k+1))).length=(Lib.joinTail sep (r.take k)).length+sep.length+y.length:=by rw [hj1];simp;omega
    have hsl:s.length=x.length+(Lib.joinTail sep (r.take k)).length:=by rw [hs];simp
    simp only [ZZ,WW,Ze,reduceCtorEq,zd,ze,za,zf,zb,qac,hg]
    refine ⟨⟨by omega,by omega⟩,by omega,?_⟩
    refine qxn 1000 s sep (.inr ⟨rfl,rfl⟩) (by simp) (by omega) ?_
    simp only [ZZ,WW,Ze,reduceCtorEq,zd,ze,za,zf,zb,qj1]
    refine qxn 1000 (s++sep) y (.inr ⟨rfl,rfl⟩) (by simp) (by simp;omega) ?_
    simp only [ZZ,WW,Ze,reduceCtorEq,zd,ze,za,zf,zb,qj1]
    refine ⟨qam (by omega) (by omega),?_⟩
    refine qab (r.length - (k+1)) _ _ (by omega) zF_ zF_ ⟨k+1,s++sep++y,by omega,rfl,by rw [hj1,hs];simp,rfl,rfl⟩
   ·intro h
    have hge:k=r.length:=by have:=of_decide_eq_false h;omega
    subst hge
    refine zS ?_
    refine qAB 1000 s (.inr ⟨rfl,rfl⟩) (by simp) ?_
    refine zS ?_
    rw [hs,ya,Lib.join_cons]
end
def qbe:IC:=(sR [qT 9 .lss 8 7] (.seq (jE 9) (.seq (.block 1 (sR [qM 10 8,qM 5 10] (sR [qM 11 1,qM 12 0,qM 13 5,qX 14 1 12 13,qL 15 14,qO 16 (.callv (.t 11) [.t 15])] (jW 16 (sR [qM 17 5,qM 4 17] .ret))))) (.reg [qB 18 .add 8 (cI 1),qM 8 18]))))
abbrev qdm:IC:=(sR [jI 4 0] (.seq (sR [qM 6 0,qN 7 6,jI 8 0] (.block 0 (.loop qbe))) (sR [jI 4 (-1)] .ret)))
theorem qdx:chkF Tryz.prog Tryz.f134 qdm [.t 4] 19=true:=by kernel_rfl
abbrev qcP:IC:=(sR [qO 4 (.mov (.c (.bool false)))] (sR [qM 5 0,qM 6 1,jC 7 134 [.t 5,.t 6],qB 8 .geq 7 (cI 0),qM 4 8] .ret))
theorem qcW:chkF Tryz.prog Tryz.f64 qcP [.t 4] 9=true:=by kernel_rfl
section
variable {E:Envt}
def idxF {α:Type} (q:α→Bool) (l:List α):Int:=match l.findIdx? q with|some i=>(i:Int)|none=>-1
theorem qle {α:Type} {q:α→Bool} {l:List α} {k:Nat} {x:α} (h:l[k]?=some x) (hx:q x=true) (hno:∀ y∈l.take k,q y=false):idxF q l=k:=by
 obtain ⟨hk,hxk⟩:=List.getElem?_eq_some_iff.1 h
 have:l.findIdx? q=some k:=by
  rw [List.findIdx?_eq_some_iff_getElem]
  refine ⟨hk,by rw [hxk];exact hx,fun j hj=>?_⟩
  have:=hno l[j] (by rw [List.mem_take_iff_getElem];exact ⟨j,by omega,rfl⟩)
  simp [this]
 simp [idxF,this]
theorem qjx {α:Type} {q:α→Bool} {l:List α} (hno:∀ y∈l,q y=false):idxF q l=-1:=by
 have:l.findIdx? q=none:=by rw [List.findIdx?_eq_none_iff];exact hno
 simp [idxF,this]
theorem qlf {α:Type} (q:α→Bool) (l:List α):decide ((0:Int)≤idxF q l)=l.any q:=by
 rw [← List.findIdx?_isSome]
 unfold idxF
 cases l.findIdx? q<;>simp
end
section
variable {E:Envt}
end
theorem qep {s:List UInt8} (h:qel s=0):s.length≤20000∧qkK s=true:=by
 unfold qel at h
 split at h
 ·cases h
 ·split at h
  ·rename_i h1 h2;exact ⟨by omega,h2⟩
  ·cases h
section
variable {P:Program} {E:Envt} {w:World} {U:Nat→Prop}
theorem qus {z b:Nat}:∀ (es:List (List PV)) (vs:List Value) (off:Nat),(∀ x∈es,x.length=z)→PRepL w U es.flatten vs→(∀ v∈vs,v.oneCell'=true)→(∀ j u,vs[j]?=some u→w.cell? ⟨b,off+j,none⟩=some u)→PRepE w U b z off es:=by
 intro es
 induction es with
 |nil=>intros;simp [PRepE]
 |cons x r ih=>
  intro vs off hz hv h1 hc
  simp only [PRepE]
  have hx:=hz x (by simp)
  simp only [List.flatten_cons] at hv
  have ha:=hv.take x.length
  have hb:=hv.drop x.length
  rw [List.take_left] at ha
  rw [List.drop_left] at hb
  refine ⟨hx,PRepC.of ha (fun v hv=>h1 v (List.mem_of_mem_take hv)) (fun j u hu=>hc j u (by rw [List.getElem?_take] at hu;split at hu;exact hu;cases hu)),ih _ (off+z) (fun y hy=>hz y (by simp [hy])) hb (fun v hv=>h1 v (List.mem_of_mem_drop hv)) (fun j u hu=>?_)⟩
  rw [List.getElem?_drop] at hu
  have:=hc _ u hu
  rwa [hx,← Nat.add_assoc] at this
theorem qzS {f:FuncId} {args:List PV} {e z:Nat} {φ:List (List PV)→Prop} (h:FCall P E f args e z φ):PCall P E f args (fun x=>∃ es,x=.sl z es∧φ es):=by
 intro w U vs hU hE hEb hA
 refine (h w U vs undef hU hE (fun c hc=>⟨hEb c hc,fun h=>by cases h⟩) hA trivial).mono ?_
 rintro e' w' ⟨v,r,os',rfl,⟨es,rfl,hφ⟩,⟨us,hrow,h1,hl,hz,hb⟩,hg⟩
 refine ⟨v,.sl z es,rfl,⟨es,rfl,hφ⟩,?_,hg⟩
 have hcl:=fun g m c hv=>hrow.cells (g:=g) (m:=m) (c:=c) hv
 rcases hrow.2 with ⟨rfl,g2⟩|⟨g,cap,cur,fz,rfl,k2,k3,_⟩
 ·exact ⟨none,0,by rw [g2],by omega,fun hne=>absurd (zw g2) hne⟩
 ·refine ⟨_,cap,rfl,k3,fun _=>⟨g,0,rfl,(Array.getElem?_eq_some_iff.1 k2).1,fun hu=>?_,?_⟩⟩
  ·have h1:=hU g hu
   have h2:=hb g rfl
   omega
  ·refine qus es us 0 hz (PRepL.mono (fun c _ hu=>⟨rfl,fun h=>hu (.inl h)⟩) _ _ hl) h1 (fun j u hu=>?_)
   rw [Nat.zero_add]
   exact hcl g _ _ rfl j u hu
theorem qnV {f:FuncId} {args:List PV} {e z:Nat} {es:List (List PV)} (h:FCall P E f args e z (·=es)):PCall P E f args (·=.sl z es):=by
 intro w U vs hU hE hEb hA
 refine (qzS h w U vs hU hE hEb hA).mono ?_
 rintro e' w' ⟨v,x,h1,⟨es',rfl,rfl⟩,h2⟩
 exact ⟨v,_,h1,rfl,h2⟩
end
section
variable {E:Envt}
end
end Go.Proofs.YtekhobchfhhofaaGreatDoor
namespace Go.Proofs.YtekhobchfhhofaaGreatDoor
open Nat renaming reduceAdd→zd,reduceEqDiff→zb,reduceLT→zf,reduceLeDiff→za,reduceMul→ze
open List renaming getElem?_eq_getElem→zh,take_of_length_le→zN
def qbq:IC:=(sR [qT 14 .lss 13 12] (.seq (jE 14) (.seq (.block 1 (sR [qM 15 13,qM 5 15] (.seq (.drg [qM 16 0,qM 17 5,qX 18 1 16 17,qL 19 18,qM 20 1,qM 21 5,qX 22 1 20 21,qL 23 22,qT 24 .neq 19 23]) (jW 24 (sR [qO 4 (.mov (.c (.bool false)))] .ret))))) (.reg [qB 25 .add 13 (cI 1),qM 13 25]))))
abbrev qd7:IC:=(sR [qO 4 (.mov (.c (.bool false)))] (.seq (sR [qM 6 0,qN 7 6,qM 8 1,qN 9 8,qT 10 .neq 7 9] (jW 10 (sR [qO 4 (.mov (.c (.bool false)))] .ret))) (.seq (sR [qM 11 0,qN 12 11,jI 13 0] (.block 0 (.loop qbq))) (sR [qO 4 (.mov (.c (.bool true)))] .ret))))
theorem qeb:chkF Tryz.prog Tryz.f15 qd7 [.t 4] 26=true:=by kernel_rfl
section
variable {E:Envt}
theorem quV (l m:List (List UInt8)) (hl:l.length≤1000000000):PCall Tryz.prog E 15 [strs l,strs m] (·=.bool (decide (l=m))):=by
 refine qag mixed Tryz.func15 qeb ?_
 refine zV ?_
 simp only [strs,ZZ,WW,Ze,reduceCtorEq,zd,ze,za,zf,zb]
 have hln:(l.map fun x=>[PV.str x]).length=l.length:=by simp
 have hlm:(m.map fun x=>[PV.str x]).length=m.length:=by simp
 have hget:∀ k x,l[k]?=some x→(l.map fun x=>[PV.str x]).getD k []=[.str x]:=fun k p hp=>qa5 hp
 have hgem:∀ k x,m[k]?=some x→(m.map fun x=>[PV.str x]).getD k []=[.str x]:=fun k p hp=>qa5 hp
 generalize (l.map fun x=>[PV.str x])=es at *
 generalize (m.map fun x=>[PV.str x])=fs at *
 simp only [ZZ,WW,Ze,reduceCtorEq,zd,ze,za,zf,zb,hln,hlm]
 refine br ?_ ?_
 ·intro h
  have:¬ l=m:=by rintro rfl;simp at h
  refine zS ?_
  simp [this]
 intro h
 have hlen:l.length=m.length:=by have:(l.length:Int)=m.length:=by simpa using h
                                 omega
 refine zS ?_
 refine qae (fun n fr L=>∃ (k:Nat),k≤l.length∧n=l.length - k∧(l.take k=m.take k)∧fr=(.p (.sl 1 es)::.p (.sl 1 fs)::oD (oB (.p (int (l.length:Nat))::.p (int (k:Nat))::oD (oC []))))∧L=[]) (l.length) _ [] (by simp only [hln,ZZ,WW,Ze,reduceCtorEq,zd,ze,za,zf,zb];try trivial) zF_ ⟨0,by omega,by omega,by simp,rfl,rfl⟩ ?_
 rintro n fr L ⟨k,hk,rfl,hf,rfl,rfl⟩
 simp only [qbq,ZZ,WW,Ze,reduceCtorEq,zd,ze,za,zf,zb]
 refine br ?_ ?_
 ·intro h
  have hlt:k < l.length:=by have:=of_decide_eq_true h;omega
  obtain ⟨x,hx⟩:∃ x,l[k]?=some x:=⟨_,zh hlt⟩
  obtain ⟨y,hy⟩:∃ y,m[k]?=some y:=⟨_,zh (by omega)⟩
  have hg:=hget k x hx
  have hg2:=hgem k y hy
  refine zS ?_
  refine drg0 ?_
  simp only [ZZ,WW,Ze,reduceCtorEq,zd,ze,za,zf,zb,hg,hg2,hln,hlm]
  ((with_reducible and_intros)<;>try exact sc_)
  refine br ?_ ?_
  ·intro h2
   have:¬ l=m:=by
    rintro rfl
    rw [hx] at hy
    cases hy
    simp at h2
   refine zS ?_
   simp [this]
  ·intro h2
   have hxy:x=y:=by simpa using h2
   refine zS ?_
   ((with_reducible and_intros)<;>try exact sc_)
   refine qab (l.length - (k+1)) _ [] (by omega) zF_ zF_ ⟨k+1,by omega,rfl,by rw [List.take_add_one,List.take_add_one,hf,hx,hy,hxy],rfl,rfl⟩
 ·intro h
  have hge:l.length≤k:=by have:=of_decide_eq_false h;omega
  refine zS ?_
  rw [zN hge,zN (by omega)] at hf
  simp [hf]
end
end Go.Proofs.YtekhobchfhhofaaGreatDoor
