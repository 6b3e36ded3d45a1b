import Derived.Test.YtekhobchfhhofaaGreatDoorZ14
set_option linter.unusedVariables false
set_option linter.unusedSimpArgs false
set_option linter.defProp false
namespace Go.Proofs.YtekhobchfhhofaaGreatDoor
open Option.some renaming injEq→zg
open Nat renaming reduceAdd→zd,reduceBEq→z8,reduceDiv→z7,reduceEqDiff→zb,reduceLT→zf,reduceLeDiff→za,reduceMod→z6,reduceMul→ze
open List renaming cons_append→zH,getElem?_eq_getElem→zh,length_cons→zn,length_nil→zx,map_cons→zA,map_nil→yi,mem_cons→zo,mem_of_getElem?→zl,nil_append→zM,not_mem_nil→zu,replicate_succ→zZ,replicate_zero→yp
open Bool renaming false_eq_true→zp
open Option renaming isSome_none→zK,isSome_some→zJ,map_some→zt
open Go.RowKit
def qaW:IC:=(sR [qT 16 .lss 15 14] (.seq (jE 16) (.seq (.block 1 (sR [qX 17 3 13 15,qO 18 (.ld 3 true (.t 17)),qO 9 (.alc 200 [.int .i64 0,.str [],.bool false]),qS 3 9 18] (.seq (sR [wF 19 0 9,wF 20 1 19,qL 21 20,jC 22 168 [.t 21],qM 23 22,⟨some 24,.fla 2 (.t 9),(some (23,false))⟩,⟨some 25,.ld 1 false (.t 24),(some (23,false))⟩,qO 26 (.pick (.t 23) (.c (.bool true)) (.t 25)),qM 27 26,⟨some 28,.fla 0 (.t 9),(some (27,false))⟩,⟨some 29,.fla 0 (.t 28),(some (27,false))⟩,⟨some 30,.ld 1 false (.t 29),(some (27,false))⟩,⟨some 31,.mov (.t 6),(some (27,false))⟩,⟨some 32,.bin .neq (.t 30) (.t 31),(some (27,false))⟩,qO 33 (.pick (.t 27) (.c (.bool true)) (.t 32))] (jW 33 (.reg [qM 34 7,qO 35 (.callv (.t 34) [])]))) (.cut (sR [wF 36 0 9,wF 37 0 36,qL 38 37,qM 6 38] (sR [wF 39 2 9,qL 40 39,qO 41 (.not (.t 40))] (jW 41 (.reg [qL 42 4,wF 43 0 9,wF 44 1 43,qL 45 44,qO 46 (.bsl 1 [.t 45]),qO 47 (.app 9 1 16 (.t 42) (.t 46)),qS 1 4 47])))))))) (.cut (.reg [qB 48 .add 15 (cI 1),qM 15 48])))))
abbrev qhW:IC:=(sR [qO 2 (.mov (.c (.nl 1)))] (sR [qO 3 (.alc 28 [.nl 1]),qO 4 (.alc 28 [.nl 1])] (sR [qO 10 (.mkm 9 4),qO 5 (.alc 114 [.raw (.map none)]),qS 1 5 10] (sR [jI 6 0] (sR [qO 11 (.mkf 230 [.t 4,.t 5,.t 3]),qM 7 11] (.seq (sR [qM 12 0,jC 13 167 [.t 12],qN 14 13,jI 15 0] (.block 0 (.loop qaW))) (sR [qM 49 7,qO 50 (.callv (.t 49) [])] (sR [qL 51 3,qM 2 51] .ret))))))))
theorem qh8:chkF Tryz.prog Tryz.f169 qhW [.t 2] 52=true:=by kernel_rfl
def qaw:IC:=(.seq (sR [qL 4 0,jC 5 109 [.t 4,.c (.str [32])],jC 6 231 [.t 5],jC 7 206 [.t 6],qM 3 7] (sR [qM 8 3,qB 9 .neq 8 (.c (.str [])),qM 10 9,⟨some 11,.ld 1 false (.t 1),(some (10,true))⟩,⟨some 12,.mov (.t 3),(some (10,true))⟩,⟨some 13,.mpl false (.bool false) (.t 11) (.t 12),(some (10,true))⟩,⟨some 14,.not (.t 13),(some (10,true))⟩,qO 15 (.pick (.t 10) (.t 14) (.c (.bool false)))] (jW 15 (sR [qL 16 1,qM 17 3,⟨none,.mpu (.t 16) (.t 17) (.c (.bool true)),none⟩] (.reg [qL 18 2,qM 19 3,qO 20 (.bsl 1 [.t 19]),qO 21 (.app 9 1 16 (.t 18) (.t 20)),qS 1 2 21]))))) (.cut (.reg [⟨none,.st 1 (.t 0) (.c (.nl 1)),none⟩])))
theorem qaB:chkF Tryz.prog Tryz.f230 qaw [] 22=true:=by kernel_rfl
abbrev qhX:IC:=(sR [qO 2 (.mov (.c (.nl 1))),jI 3 0] (.seq (sR [qM 5 0,jC 6 119 [.t 5],qM 4 6] (sR [qM 7 4,qB 8 .neq 7 (cI 0)] (jW 8 (sR [qM 9 4,qO 2 (.mov (.c (.nl 1))),qM 3 9] .ret)))) (sR [qM 10 0,jC 11 169 [.t 10],qM 2 11,jI 3 0] .ret)))
theorem qh9:chkF Tryz.prog Tryz.f104 qhX [.t 2,.t 3] 12=true:=by kernel_rfl
abbrev tMap:Nat:=114
abbrev fPP:Nat:=230
def outP (o n:List (List UInt8)) (kv:List (List UInt8×PV)):Objs:=match o,n with
 |[],[]=>[(.l 3,.box [.p (.nl 1)] qfo),(.l 4,.box [.p (.nl 1)] qfo),(.l 5,.box [.mp (.l 10)] tMap),(.l 10,.map kv tStr qmo)]
 |[],w :: ws=>[(.l 3,.box [.p (.nl 1)] qfo),(.l 4,.box [.row (.l 47)] qfo),(.l 5,.box [.mp (.l 10)] tMap),(.l 10,.map kv tStr qmo),(.l 47,.row (strE (w :: ws)) tStr 1 true)]
 |x :: r,[]=>[(.l 3,.box [.row (.l 100)] qfo),(.l 4,.box [.p (.nl 1)] qfo),(.l 5,.box [.mp (.l 10)] tMap),(.l 10,.map kv tStr qmo),(.l 100,.row (strE (x :: r)) tStr 1 true)]
 |x :: r,w :: ws=>[(.l 3,.box [.row (.l 100)] qfo),(.l 4,.box [.row (.l 47)] qfo),(.l 5,.box [.mp (.l 10)] tMap),(.l 10,.map kv tStr qmo),(.l 100,.row (strE (x :: r)) tStr 1 true),(.l 47,.row (strE (w :: ws)) tStr 1 true)]
theorem qar (kv:List (List UInt8×PV)):outP [] [] kv=[(.l 3,.box [.p (.nl 1)] qfo),(.l 4,.box [.p (.nl 1)] qfo),(.l 5,.box [.mp (.l 10)] tMap),(.l 10,.map kv tStr qmo)]:=rfl
theorem qat (w:List UInt8) (ws:List (List UInt8)) (kv:List (List UInt8×PV)):outP [] (w :: ws) kv=[(.l 3,.box [.p (.nl 1)] qfo),(.l 4,.box [.row (.l 47)] qfo),(.l 5,.box [.mp (.l 10)] tMap),(.l 10,.map kv tStr qmo),(.l 47,.row (strE (w :: ws)) tStr 1 true)]:=rfl
theorem qau (x:List UInt8) (r:List (List UInt8)) (kv:List (List UInt8×PV)):outP (x :: r) [] kv=[(.l 3,.box [.row (.l 100)] qfo),(.l 4,.box [.p (.nl 1)] qfo),(.l 5,.box [.mp (.l 10)] tMap),(.l 10,.map kv tStr qmo),(.l 100,.row (strE (x :: r)) tStr 1 true)]:=rfl
theorem qav (x w:List UInt8) (r ws:List (List UInt8)) (kv:List (List UInt8×PV)):outP (x :: r) (w :: ws) kv=[(.l 3,.box [.row (.l 100)] qfo),(.l 4,.box [.row (.l 47)] qfo),(.l 5,.box [.mp (.l 10)] tMap),(.l 10,.map kv tStr qmo),(.l 100,.row (strE (x :: r)) tStr 1 true),(.l 47,.row (strE (w :: ws)) tStr 1 true)]:=rfl
theorem qxx (l:List (List UInt8)):∀ k,k≤l.length→wgt (stP l k).2.1≤wgt (l.take k):=by
 intro k
 induction k with
 |zero=>intro _;simp [stP,wgt]
 |succ k ih=>
  intro hk
  obtain ⟨x,hx⟩:∃ x,l[k]?=some x:=⟨_,zh (by omega)⟩
  have h1:=ih (by omega)
  have h2:=qei hx
  have h3:=qfZ hx
  rw [stP]
  simp only
  generalize hn:(if (qcY (txF l k) || (qF l k).2 || !decide (((qF l k).1:Int)=(stP l k).2.2))=true then [] else (stP l k).2.1)=n
  have hnl:wgt n≤wgt (l.take k):=by
   rw [← hn]
   split
   ·simp [wgt]
   ·exact h1
  split
  ·rw [qqm]
   simp only [wgt]
   omega
  ·omega
theorem qxw (l:List (List UInt8)):∀ k,(stP l k).1.length≤k:=by
 intro k
 induction k with
 |zero=>simp [stP]
 |succ k ih=>
  rw [stP]
  simp only
  split
  ·unfold endR
   split
   ·simp;exact ih
   ·omega
  ·omega
theorem qss (s:List UInt8):wgt (qbA s).1≤s.length+1:=by
 unfold qbA
 split
 ·simp [wgt]
 ·have h2:=qrh 10 (qbB s [10]).1
  rw [← qcG] at h2
  have:=qfL s [10]
  simp only
  omega
set_option maxHeartbeats 40000000 in
theorem qnX (s:List UInt8) (hs:s.length≤20000):PCall Tryz.prog E0 169 [.str s] (·=.sl 1 (strE (endR (stP (qbA s).1 (qbA s).1.length).1 (endS (stP (qbA s).1 (qbA s).1.length).2.1)))):=by
 refine qag mixed Tryz.func169 qh8 ?_
 refine zV ?_
 refine use1 (qxi s (by omega)) rfl (.inl rfl) ?_
 obtain ⟨hll,hlb⟩:=qlK s
 have hw:=qss s
 generalize (qbA s).1=l at *
 simp only [ZZ,WW,Ze,reduceCtorEq,zd,ze,za,zf,zb,qi6]
 refine qae (fun n fr L=>∃ (k:Nat) (kv:List (List UInt8×PV)),k≤l.length∧n=l.length - k∧qkL kv (stP l k).1∧fr=(oo::oo::oo::.adr (.l 3) 0::.adr (.l 4) 0::.adr (.l 5) 0::.p (int (stP l k).2.2)::.fn fPP [.l 4,.l 5,.l 3]::oC (oo::(.p (.sl 3 (apF l))::.p (int (l.length:Nat))::.p (int (k:Nat))::oF (oC []))))∧L=outP (stP l k).1 (stP l k).2.1 kv) l.length _ (outP [] [] []) zF_ (by simp only [ZZ,WW,Ze,reduceCtorEq,zd,ze,za,zf,zb,qar]) ⟨0,[],by omega,by omega,qg5,rfl,rfl⟩ ?_
 rintro n fr L ⟨k,kv,hk,rfl,hkv,rfl,rfl⟩
 have hol:=qxw l k
 have hnl:=qxx l k hk
 have hwk:=qdf k l
 have hs1:(stP l (k+1)).1=if (qcY (txF l k) || (qF l k).2 || !decide (((qF l k).1:Int)=(stP l k).2.2))=true then endR (stP l k).1 (endS (stP l k).2.1) else (stP l k).1:=rfl
 have hs2:(stP l (k+1)).2.1=if (!(qF l k).2)=true then (if (qcY (txF l k) || (qF l k).2 || !decide (((qF l k).1:Int)=(stP l k).2.2))=true then [] else (stP l k).2.1)++[txF l k] else (if (qcY (txF l k) || (qF l k).2 || !decide (((qF l k).1:Int)=(stP l k).2.2))=true then [] else (stP l k).2.1):=rfl
 have hs3:(stP l (k+1)).2.2=(qF l k).1:=rfl
 generalize ho:(stP l k).1=o at *
 generalize hn:(stP l k).2.1=now at *
 generalize hd:(stP l k).2.2=d at *
 have hnw:=qsW now
 have hjl:=qjm now
 have hsq:=qlp (qaV now)
 have hS:lowF (sqF (qaV now))=endS now:=rfl
 have hkvs:=hkv (endS now)
 rcases o with _|⟨y,r⟩<;>rcases now with _|⟨w,ws⟩
 ·skip
  simp only [qar,zo,zu,or_self,qaW,ZZ,WW,Ze,reduceCtorEq,zd,ze,za,zf,zb]
  refine br ?_ ?_
  ·intro h
   have hlt:k < l.length:=by have:=of_decide_eq_true h;omega
   obtain ⟨x,hx⟩:∃ x,l[k]?=some x:=⟨_,zh hlt⟩
   have hxb:=hlb x (zl hx)
   have htl:=qfZ hx
   have hws:=qei hx
   have hwk1:=qdf (k+1) l
   simp only [ZZ,WW,Ze,reduceCtorEq,zd,ze,za,zf,zb,qmc hlt,qi6,zo,zu,or_self]
   ((with_reducible and_intros)<;>try exact sc_)
   refine use1 (qgk (txF l k) (by omega)) rfl (.inl rfl) ?_
   refine zS ?_
   ((with_reducible and_intros)<;>try exact sc_)
   generalize he:(qcY (txF l k) || (qF l k).2 || !decide (((qF l k).1:Int)=d))=e at *
   refine qfl (fun fr L=>∃ kv',qkL kv' (if e=true then endR [] (endS []) else [])∧fr=(oo::oo::oo::.adr (.l 3) 0::.adr (.l 4) 0::.adr (.l 5) 0::oo::.fn fPP [.l 4,.l 5,.l 3]::oo::.adr (.l 9) 0::oo::oo::oo::.p (.sl 3 (apF l))::.p (int (l.length:Nat))::.p (int (k:Nat))::oF (oC []))∧L=(.l 9,.box [.p (int ((qF l k).1:Nat)),.p (.str (txF l k)),.p (.bool (qF l k).2)] tQ3) :: outP (if e=true then endR [] (endS []) else []) (if e=true then [] else []) kv') ?_ ?_ ?_
   ·intro he
    subst he
    refine zS ?_
    refine ⟨by kernel_rfl,?_⟩
    refine useI mixed 100 Tryz.func230 qaB ?_
    simp only [zA,yi,zn,zx,zH,zM,Nat.reduceSub,zd,zZ,yp,qaw,fwdI,renI,qbG,renL,mapO,bwd,fwd,rk,uk,AV.ren,AO.ren,qbR,qby,zJ,zK,zg,not_true,not_false,false_and,and_false,true_and,and_true,z6,z7,z8,zt,Zbk,zp,ZZ,WW,Ze,reduceCtorEq,zd,ze,za,zf,zb]
    refine use1 (qb3 [] (by omega) (by omega)) rfl (.inl rfl) ?_
    refine zS ?_
    refine use1 (qd3 (qaV []) (by omega)) rfl (.inl rfl) ?_
    refine zS ?_
    refine use1 (qem (sqF (qaV [])) (by omega)) rfl (.inl rfl) ?_
    rw [hS]
    simp only [ZZ,WW,Ze,reduceCtorEq,zd,ze,za,zf,zb,hkvs]
    ((with_reducible and_intros)<;>try exact sc_)
    refine br ?_ ?_
    ·intro h1
     have h1:endS []≠[]∧endS []∉[]:=by simpa using h1
     exact absurd qgc h1.1
    ·intro h1
     have h1:¬ (endS []≠[]∧endS []∉[]):=by
      rintro ⟨h2,h3⟩
      rw [decide_eq_false h2,decide_eq_false h3] at h1
      cases h1
     have hE:endR [] (endS [])=[]:=by rw [endR,if_neg h1]
     refine zS ?_
     refine qad zE_ ?_
     refine zS ?_
     ((with_reducible and_intros)<;>try exact sc_)
     refine ⟨none,?_⟩
     simp only [fwdI,renI,qbG,renL,mapO,bwd,fwd,rk,uk,AV.ren,AO.ren,qbR,qby,zJ,zK,zg,not_true,not_false,false_and,and_false,true_and,and_true,z6,z7,z8,zt,Zbk,zp,ZZ,WW,Ze,reduceCtorEq,zd,ze,za,zf,zb]
     rw [hE]
     simp only [ZZ,WW,Ze,reduceCtorEq,zd,ze,za,zf,zb,zo,zu,or_self]
     refine qbn _ _ ?_ ?_ ⟨_,hkv,rfl,rfl⟩
     ·(simp only [ZZ,WW,Ze,reduceCtorEq,zd,ze,za,zf,zb];try trivial)
     ·simp only [ZZ,WW,Ze,reduceCtorEq,zd,ze,za,zf,zb,qar,qat,qau,qav,qal,qaj,qak]
   ·intro he
    subst he
    simp only [zp,if_false]
    refine zS ?_
    refine qbn _ _ ?_ ?_ ⟨kv,hkv,rfl,rfl⟩
    ·(simp only [ZZ,WW,Ze,reduceCtorEq,zd,ze,za,zf,zb];try trivial)
    ·simp only [ZZ,WW,Ze,reduceCtorEq,zd,ze,za,zf,zb,qar,qat,qau,qav]
   ·rintro fr L ⟨kv',hkv',rfl,rfl⟩
    generalize (if e=true then endR [] (endS []) else [])=o' at *
    generalize hnn:(if e=true then [] else [])=n' at *
    have hnl2:n'.length≤30000:=by
     rw [← hnn]
     split
     ·simp
     ·first|(simp;done)|omega
    rcases o' with _|⟨y',r'⟩<;>rcases n' with _|⟨w',ws'⟩
    ·skip
     simp only [ZZ,WW,Ze,reduceCtorEq,zd,ze,za,zf,zb,qar,zo,zu,or_self]
     ((with_reducible and_intros)<;>try exact sc_)
     refine br ?_ ?_
     ·intro hc
      rw [if_pos hc] at hs2
      rw [zM] at hs2
      simp only [ZZ,WW,Ze,reduceCtorEq,zd,ze,za,zf,zb,qac]
      ((with_reducible and_intros)<;>try exact sc_)
      refine qad zE_ ?_
      refine zS ?_
      ((with_reducible and_intros)<;>try exact sc_)
      refine qab (l.length - (k+1)) _ (outP (stP l (k+1)).1 (stP l (k+1)).2.1 kv') (by omega) ?_ ?_ ⟨k+1,kv',by omega,rfl,by rw [hs1];exact hkv',rfl,rfl⟩
      ·rw [hs3]
       (simp only [ZZ,WW,Ze,reduceCtorEq,zd,ze,za,zf,zb];try trivial)
      ·rw [hs1,hs2]
       simp only [ZZ,WW,Ze,reduceCtorEq,zd,ze,za,zf,zb,qar,qat,qau,qav,qal,qaj,qak]
     ·intro hc
      rw [if_neg (by rw [hc];simp)] at hs2
      refine zS ?_
      refine qad zE_ ?_
      refine zS ?_
      ((with_reducible and_intros)<;>try exact sc_)
      refine qab (l.length - (k+1)) _ (outP (stP l (k+1)).1 (stP l (k+1)).2.1 kv') (by omega) ?_ ?_ ⟨k+1,kv',by omega,rfl,by rw [hs1];exact hkv',rfl,rfl⟩
      ·rw [hs3]
       (simp only [ZZ,WW,Ze,reduceCtorEq,zd,ze,za,zf,zb];try trivial)
      ·rw [hs1,hs2]
       simp only [ZZ,WW,Ze,reduceCtorEq,zd,ze,za,zf,zb,qar,qat,qau,qav,qal,qaj,qak]
    ·skip
     simp only [ZZ,WW,Ze,reduceCtorEq,zd,ze,za,zf,zb,qat,zo,zu,or_self]
     ((with_reducible and_intros)<;>try exact sc_)
     refine br ?_ ?_
     ·intro hc
      rw [if_pos hc] at hs2
      rw [zH] at hs2
      have hnl3:ws'.length+1≤30000:=hnl2
      simp only [ZZ,WW,Ze,reduceCtorEq,zd,ze,za,zf,zb,qac]
      ((with_reducible and_intros)<;>try exact sc_)
      refine qad zE_ ?_
      refine zS ?_
      ((with_reducible and_intros)<;>try exact sc_)
      refine qab (l.length - (k+1)) _ (outP (stP l (k+1)).1 (stP l (k+1)).2.1 kv') (by omega) ?_ ?_ ⟨k+1,kv',by omega,rfl,by rw [hs1];exact hkv',rfl,rfl⟩
      ·rw [hs3]
       (simp only [ZZ,WW,Ze,reduceCtorEq,zd,ze,za,zf,zb];try trivial)
      ·rw [hs1,hs2]
       simp only [ZZ,WW,Ze,reduceCtorEq,zd,ze,za,zf,zb,qar,qat,qau,qav,qal,qaj,qak]
     ·intro hc
      rw [if_neg (by rw [hc];simp)] at hs2
      refine zS ?_
      refine qad zE_ ?_
      refine zS ?_
      ((with_reducible and_intros)<;>try exact sc_)
      refine qab (l.length - (k+1)) _ (outP (stP l (k+1)).1 (stP l (k+1)).2.1 kv') (by omega) ?_ ?_ ⟨k+1,kv',by omega,rfl,by rw [hs1];exact hkv',rfl,rfl⟩
      ·rw [hs3]
       (simp only [ZZ,WW,Ze,reduceCtorEq,zd,ze,za,zf,zb];try trivial)
      ·rw [hs1,hs2]
       simp only [ZZ,WW,Ze,reduceCtorEq,zd,ze,za,zf,zb,qar,qat,qau,qav,qal,qaj,qak]
    ·skip
     simp only [ZZ,WW,Ze,reduceCtorEq,zd,ze,za,zf,zb,qau,zo,zu,or_self]
     ((with_reducible and_intros)<;>try exact sc_)
     refine br ?_ ?_
     ·intro hc
      rw [if_pos hc] at hs2
      rw [zM] at hs2
      simp only [ZZ,WW,Ze,reduceCtorEq,zd,ze,za,zf,zb,qac]
      ((with_reducible and_intros)<;>try exact sc_)
      refine qad zE_ ?_
      refine zS ?_
      ((with_reducible and_intros)<;>try exact sc_)
      refine qab (l.length - (k+1)) _ (outP (stP l (k+1)).1 (stP l (k+1)).2.1 kv') (by omega) ?_ ?_ ⟨k+1,kv',by omega,rfl,by rw [hs1];exact hkv',rfl,rfl⟩
      ·rw [hs3]
       (simp only [ZZ,WW,Ze,reduceCtorEq,zd,ze,za,zf,zb];try trivial)
      ·rw [hs1,hs2]
       simp only [ZZ,WW,Ze,reduceCtorEq,zd,ze,za,zf,zb,qar,qat,qau,qav,qal,qaj,qak]
     ·intro hc
      rw [if_neg (by rw [hc];simp)] at hs2
      refine zS ?_
      refine qad zE_ ?_
      refine zS ?_
      ((with_reducible and_intros)<;>try exact sc_)
      refine qab (l.length - (k+1)) _ (outP (stP l (k+1)).1 (stP l (k+1)).2.1 kv') (by omega) ?_ ?_ ⟨k+1,kv',by omega,rfl,by rw [hs1];exact hkv',rfl,rfl⟩
      ·rw [hs3]
       (simp only [ZZ,WW,Ze,reduceCtorEq,zd,ze,za,zf,zb];try trivial)
      ·rw [hs1,hs2]
       simp only [ZZ,WW,Ze,reduceCtorEq,zd,ze,za,zf,zb,qar,qat,qau,qav,qal,qaj,qak]
    ·skip
     simp only [ZZ,WW,Ze,reduceCtorEq,zd,ze,za,zf,zb,qav,zo,zu,or_self]
     ((with_reducible and_intros)<;>try exact sc_)
     refine br ?_ ?_
     ·intro hc
      rw [if_pos hc] at hs2
      rw [zH] at hs2
      have hnl3:ws'.length+1≤30000:=hnl2
      simp only [ZZ,WW,Ze,reduceCtorEq,zd,ze,za,zf,zb,qac]
      ((with_reducible and_intros)<;>try exact sc_)
      refine qad zE_ ?_
      refine zS ?_
      ((with_reducible and_intros)<;>try exact sc_)
      refine qab (l.length - (k+1)) _ (outP (stP l (k+1)).1 (stP l (k+1)).2.1 kv') (by omega) ?_ ?_ ⟨k+1,kv',by omega,rfl,by rw [hs1];exact hkv',rfl,rfl⟩
      ·rw [hs3]
       (simp only [ZZ,WW,Ze,reduceCtorEq,zd,ze,za,zf,zb];try trivial)
      ·rw [hs1,hs2]
       simp only [ZZ,WW,Ze,reduceCtorEq,zd,ze,za,zf,zb,qar,qat,qau,qav,qal,qaj,qak]
     ·intro hc
      rw [if_neg (by rw [hc];simp)] at hs2
      refine zS ?_
      refine qad zE_ ?_
      refine zS ?_
      ((with_reducible and_intros)<;>try exact sc_)
      refine qab (l.length - (k+1)) _ (outP (stP l (k+1)).1 (stP l (k+1)).2.1 kv') (by omega) ?_ ?_ ⟨k+1,kv',by omega,rfl,by rw [hs1];exact hkv',rfl,rfl⟩
      ·rw [hs3]
       (simp only [ZZ,WW,Ze,reduceCtorEq,zd,ze,za,zf,zb];try trivial)
      ·rw [hs1,hs2]
       simp only [ZZ,WW,Ze,reduceCtorEq,zd,ze,za,zf,zb,qar,qat,qau,qav,qal,qaj,qak]
  ·intro h
   have hge:k=l.length:=by have:=of_decide_eq_false h;omega
   subst hge
   refine zS ?_
   refine ⟨by kernel_rfl,?_⟩
   refine useI mixed 100 Tryz.func230 qaB ?_
   simp only [zA,yi,zn,zx,zH,zM,Nat.reduceSub,zd,zZ,yp,qaw,fwdI,renI,qbG,renL,mapO,bwd,fwd,rk,uk,AV.ren,AO.ren,qbR,qby,zJ,zK,zg,not_true,not_false,false_and,and_false,true_and,and_true,z6,z7,z8,zt,Zbk,zp,ZZ,WW,Ze,reduceCtorEq,zd,ze,za,zf,zb]
   refine use1 (qb3 [] (by omega) (by omega)) rfl (.inl rfl) ?_
   refine zS ?_
   refine use1 (qd3 (qaV []) (by omega)) rfl (.inl rfl) ?_
   refine zS ?_
   refine use1 (qem (sqF (qaV [])) (by omega)) rfl (.inl rfl) ?_
   rw [hS]
   simp only [ZZ,WW,Ze,reduceCtorEq,zd,ze,za,zf,zb,hkvs]
   ((with_reducible and_intros)<;>try exact sc_)
   refine br ?_ ?_
   ·intro h1
    have h1:endS []≠[]∧endS []∉[]:=by simpa using h1
    exact absurd qgc h1.1
   ·intro h1
    have h1:¬ (endS []≠[]∧endS []∉[]):=by
     rintro ⟨h2,h3⟩
     rw [decide_eq_false h2,decide_eq_false h3] at h1
     cases h1
    have hE:endR [] (endS [])=[]:=by rw [endR,if_neg h1]
    refine zS ?_
    refine qad zE_ ?_
    refine zS ?_
    ((with_reducible and_intros)<;>try exact sc_)
    refine ⟨none,?_⟩
    simp only [fwdI,renI,qbG,renL,mapO,bwd,fwd,rk,uk,AV.ren,AO.ren,qbR,qby,zJ,zK,zg,not_true,not_false,false_and,and_false,true_and,and_true,z6,z7,z8,zt,Zbk,zp,ZZ,WW,Ze,reduceCtorEq,zd,ze,za,zf,zb]
    rw [ho,hn,hE]
    try rw [qaj]
    try rfl
 ·skip
  simp only [qat,zo,zu,or_self,qaW,ZZ,WW,Ze,reduceCtorEq,zd,ze,za,zf,zb]
  refine br ?_ ?_
  ·intro h
   have hlt:k < l.length:=by have:=of_decide_eq_true h;omega
   obtain ⟨x,hx⟩:∃ x,l[k]?=some x:=⟨_,zh hlt⟩
   have hxb:=hlb x (zl hx)
   have htl:=qfZ hx
   have hws:=qei hx
   have hwk1:=qdf (k+1) l
   simp only [ZZ,WW,Ze,reduceCtorEq,zd,ze,za,zf,zb,qmc hlt,qi6,zo,zu,or_self]
   ((with_reducible and_intros)<;>try exact sc_)
   refine use1 (qgk (txF l k) (by omega)) rfl (.inl rfl) ?_
   refine zS ?_
   ((with_reducible and_intros)<;>try exact sc_)
   generalize he:(qcY (txF l k) || (qF l k).2 || !decide (((qF l k).1:Int)=d))=e at *
   refine qfl (fun fr L=>∃ kv',qkL kv' (if e=true then endR [] (endS (w :: ws)) else [])∧fr=(oo::oo::oo::.adr (.l 3) 0::.adr (.l 4) 0::.adr (.l 5) 0::oo::.fn fPP [.l 4,.l 5,.l 3]::oo::.adr (.l 9) 0::oo::oo::oo::.p (.sl 3 (apF l))::.p (int (l.length:Nat))::.p (int (k:Nat))::oF (oC []))∧L=(.l 9,.box [.p (int ((qF l k).1:Nat)),.p (.str (txF l k)),.p (.bool (qF l k).2)] tQ3) :: outP (if e=true then endR [] (endS (w :: ws)) else []) (if e=true then [] else (w :: ws)) kv') ?_ ?_ ?_
   ·intro he
    subst he
    refine zS ?_
    refine ⟨by kernel_rfl,?_⟩
    refine useI mixed 100 Tryz.func230 qaB ?_
    simp only [zA,yi,zn,zx,zH,zM,Nat.reduceSub,zd,zZ,yp,qaw,fwdI,renI,qbG,renL,mapO,bwd,fwd,rk,uk,AV.ren,AO.ren,qbR,qby,zJ,zK,zg,not_true,not_false,false_and,and_false,true_and,and_true,z6,z7,z8,zt,Zbk,zp,ZZ,WW,Ze,reduceCtorEq,zd,ze,za,zf,zb]
    refine use1 (qb3 (w :: ws) (by omega) (by omega)) rfl (.inr rfl) ?_
    refine zS ?_
    refine use1 (qd3 (qaV (w :: ws)) (by omega)) rfl (.inl rfl) ?_
    refine zS ?_
    refine use1 (qem (sqF (qaV (w :: ws))) (by omega)) rfl (.inl rfl) ?_
    rw [hS]
    simp only [ZZ,WW,Ze,reduceCtorEq,zd,ze,za,zf,zb,hkvs]
    ((with_reducible and_intros)<;>try exact sc_)
    refine br ?_ ?_
    ·intro h1
     have h1:endS (w :: ws)≠[]∧endS (w :: ws)∉[]:=by simpa using h1
     have hE:endR [] (endS (w :: ws))=[endS (w :: ws)]:=by simp only [endR,if_pos h1,zH,zM]
     have hK:=qbf hkv (endS (w :: ws))
     simp only [ZZ,WW,Ze,reduceCtorEq,zd,ze,za,zf,zb,qac]
     ((with_reducible and_intros)<;>try exact sc_)
     refine qad zE_ ?_
     refine zS ?_
     ((with_reducible and_intros)<;>try exact sc_)
     refine ⟨some 21,?_⟩
     simp only [fwdI,renI,qbG,renL,mapO,bwd,fwd,rk,uk,AV.ren,AO.ren,qbR,qby,zJ,zK,zg,not_true,not_false,false_and,and_false,true_and,and_true,z6,z7,z8,zt,Zbk,zp,ZZ,WW,Ze,reduceCtorEq,zd,ze,za,zf,zb]
     rw [hE]
     simp only [ZZ,WW,Ze,reduceCtorEq,zd,ze,za,zf,zb,zo,zu,or_self]
     refine qbn _ _ ?_ ?_ ⟨_,hK,rfl,rfl⟩
     ·(simp only [ZZ,WW,Ze,reduceCtorEq,zd,ze,za,zf,zb];try trivial)
     ·simp only [ZZ,WW,Ze,reduceCtorEq,zd,ze,za,zf,zb,qar,qat,qau,qav,qal,qaj,qak]
    ·intro h1
     have h1:¬ (endS (w :: ws)≠[]∧endS (w :: ws)∉[]):=by
      rintro ⟨h2,h3⟩
      rw [decide_eq_false h2,decide_eq_false h3] at h1
      cases h1
     have hE:endR [] (endS (w :: ws))=[]:=by rw [endR,if_neg h1]
     refine zS ?_
     refine qad zE_ ?_
     refine zS ?_
     ((with_reducible and_intros)<;>try exact sc_)
     refine ⟨none,?_⟩
     simp only [fwdI,renI,qbG,renL,mapO,bwd,fwd,rk,uk,AV.ren,AO.ren,qbR,qby,zJ,zK,zg,not_true,not_false,false_and,and_false,true_and,and_true,z6,z7,z8,zt,Zbk,zp,ZZ,WW,Ze,reduceCtorEq,zd,ze,za,zf,zb]
     rw [hE]
     simp only [ZZ,WW,Ze,reduceCtorEq,zd,ze,za,zf,zb,zo,zu,or_self]
     refine qbn _ _ ?_ ?_ ⟨_,hkv,rfl,rfl⟩
     ·(simp only [ZZ,WW,Ze,reduceCtorEq,zd,ze,za,zf,zb];try trivial)
     ·simp only [ZZ,WW,Ze,reduceCtorEq,zd,ze,za,zf,zb,qar,qat,qau,qav,qal,qaj,qak]
   ·intro he
    subst he
    simp only [zp,if_false]
    refine zS ?_
    refine qbn _ _ ?_ ?_ ⟨kv,hkv,rfl,rfl⟩
    ·(simp only [ZZ,WW,Ze,reduceCtorEq,zd,ze,za,zf,zb];try trivial)
    ·simp only [ZZ,WW,Ze,reduceCtorEq,zd,ze,za,zf,zb,qar,qat,qau,qav]
   ·rintro fr L ⟨kv',hkv',rfl,rfl⟩
    generalize (if e=true then endR [] (endS (w :: ws)) else [])=o' at *
    generalize hnn:(if e=true then [] else (w :: ws))=n' at *
    have hnl2:n'.length≤30000:=by
     rw [← hnn]
     split
     ·simp
     ·first|(simp;done)|omega
    rcases o' with _|⟨y',r'⟩<;>rcases n' with _|⟨w',ws'⟩
    ·skip
     simp only [ZZ,WW,Ze,reduceCtorEq,zd,ze,za,zf,zb,qar,zo,zu,or_self]
     ((with_reducible and_intros)<;>try exact sc_)
     refine br ?_ ?_
     ·intro hc
      rw [if_pos hc] at hs2
      rw [zM] at hs2
      simp only [ZZ,WW,Ze,reduceCtorEq,zd,ze,za,zf,zb,qac]
      ((with_reducible and_intros)<;>try exact sc_)
      refine qad zE_ ?_
      refine zS ?_
      ((with_reducible and_intros)<;>try exact sc_)
      refine qab (l.length - (k+1)) _ (outP (stP l (k+1)).1 (stP l (k+1)).2.1 kv') (by omega) ?_ ?_ ⟨k+1,kv',by omega,rfl,by rw [hs1];exact hkv',rfl,rfl⟩
      ·rw [hs3]
       (simp only [ZZ,WW,Ze,reduceCtorEq,zd,ze,za,zf,zb];try trivial)
      ·rw [hs1,hs2]
       simp only [ZZ,WW,Ze,reduceCtorEq,zd,ze,za,zf,zb,qar,qat,qau,qav,qal,qaj,qak]
     ·intro hc
      rw [if_neg (by rw [hc];simp)] at hs2
      refine zS ?_
      refine qad zE_ ?_
      refine zS ?_
      ((with_reducible and_intros)<;>try exact sc_)
      refine qab (l.length - (k+1)) _ (outP (stP l (k+1)).1 (stP l (k+1)).2.1 kv') (by omega) ?_ ?_ ⟨k+1,kv',by omega,rfl,by rw [hs1];exact hkv',rfl,rfl⟩
      ·rw [hs3]
       (simp only [ZZ,WW,Ze,reduceCtorEq,zd,ze,za,zf,zb];try trivial)
      ·rw [hs1,hs2]
       simp only [ZZ,WW,Ze,reduceCtorEq,zd,ze,za,zf,zb,qar,qat,qau,qav,qal,qaj,qak]
    ·skip
     simp only [ZZ,WW,Ze,reduceCtorEq,zd,ze,za,zf,zb,qat,zo,zu,or_self]
     ((with_reducible and_intros)<;>try exact sc_)
     refine br ?_ ?_
     ·intro hc
      rw [if_pos hc] at hs2
      rw [zH] at hs2
      have hnl3:ws'.length+1≤30000:=hnl2
      simp only [ZZ,WW,Ze,reduceCtorEq,zd,ze,za,zf,zb,qac]
      ((with_reducible and_intros)<;>try exact sc_)
      refine qad zE_ ?_
      refine zS ?_
      ((with_reducible and_intros)<;>try exact sc_)
      refine qab (l.length - (k+1)) _ (outP (stP l (k+1)).1 (stP l (k+1)).2.1 kv') (by omega) ?_ ?_ ⟨k+1,kv',by omega,rfl,by rw [hs1];exact hkv',rfl,rfl⟩
      ·rw [hs3]
       (simp only [ZZ,WW,Ze,reduceCtorEq,zd,ze,za,zf,zb];try trivial)
      ·rw [hs1,hs2]
       simp only [ZZ,WW,Ze,reduceCtorEq,zd,ze,za,zf,zb,qar,qat,qau,qav,qal,qaj,qak]
     ·intro hc
      rw [if_neg (by rw [hc];simp)] at hs2
      refine zS ?_
      refine qad zE_ ?_
      refine zS ?_
      ((with_reducible and_intros)<;>try exact sc_)
      refine qab (l.length - (k+1)) _ (outP (stP l (k+1)).1 (stP l (k+1)).2.1 kv') (by omega) ?_ ?_ ⟨k+1,kv',by omega,rfl,by rw [hs1];exact hkv',rfl,rfl⟩
      ·rw [hs3]
       (simp only [ZZ,WW,Ze,reduceCtorEq,zd,ze,za,zf,zb];try trivial)
      ·rw [hs1,hs2]
       simp only [ZZ,WW,Ze,reduceCtorEq,zd,ze,za,zf,zb,qar,qat,qau,qav,qal,qaj,qak]
    ·skip
     simp only [ZZ,WW,Ze,reduceCtorEq,zd,ze,za,zf,zb,qau,zo,zu,or_self]
     ((with_reducible and_intros)<;>try exact sc_)
     refine br ?_ ?_
     ·intro hc
      rw [if_pos hc] at hs2
      rw [zM] at hs2
      simp only [ZZ,WW,Ze,reduceCtorEq,zd,ze,za,zf,zb,qac]
      ((with_reducible and_intros)<;>try exact sc_)
      refine qad zE_ ?_
      refine zS ?_
      ((with_reducible and_intros)<;>try exact sc_)
      refine qab (l.length - (k+1)) _ (outP (stP l (k+1)).1 (stP l (k+1)).2.1 kv') (by omega) ?_ ?_ ⟨k+1,kv',by omega,rfl,by rw [hs1];exact hkv',rfl,rfl⟩
      ·rw [hs3]
       (simp only [ZZ,WW,Ze,reduceCtorEq,zd,ze,za,zf,zb];try trivial)
      ·rw [hs1,hs2]
       simp only [ZZ,WW,Ze,reduceCtorEq,zd,ze,za,zf,zb,qar,qat,qau,qav,qal,qaj,qak]
     ·intro hc
      rw [if_neg (by rw [hc];simp)] at hs2
      refine zS ?_
      refine qad zE_ ?_
      refine zS ?_
      ((with_reducible and_intros)<;>try exact sc_)
      refine qab (l.length - (k+1)) _ (outP (stP l (k+1)).1 (stP l (k+1)).2.1 kv') (by omega) ?_ ?_ ⟨k+1,kv',by omega,rfl,by rw [hs1];exact hkv',rfl,rfl⟩
      ·rw [hs3]
       (simp only [ZZ,WW,Ze,reduceCtorEq,zd,ze,za,zf,zb];try trivial)
      ·rw [hs1,hs2]
       simp only [ZZ,WW,Ze,reduceCtorEq,zd,ze,za,zf,zb,qar,qat,qau,qav,qal,qaj,qak]
    ·skip
     simp only [ZZ,WW,Ze,reduceCtorEq,zd,ze,za,zf,zb,qav,zo,zu,or_self]
     ((with_reducible and_intros)<;>try exact sc_)
     refine br ?_ ?_
     ·intro hc
      rw [if_pos hc] at hs2
      rw [zH] at hs2
      have hnl3:ws'.length+1≤30000:=hnl2
      simp only [ZZ,WW,Ze,reduceCtorEq,zd,ze,za,zf,zb,qac]
      ((with_reducible and_intros)<;>try exact sc_)
      refine qad zE_ ?_
      refine zS ?_
      ((with_reducible and_intros)<;>try exact sc_)
      refine qab (l.length - (k+1)) _ (outP (stP l (k+1)).1 (stP l (k+1)).2.1 kv') (by omega) ?_ ?_ ⟨k+1,kv',by omega,rfl,by rw [hs1];exact hkv',rfl,rfl⟩
      ·rw [hs3]
       (simp only [ZZ,WW,Ze,reduceCtorEq,zd,ze,za,zf,zb];try trivial)
      ·rw [hs1,hs2]
       simp only [ZZ,WW,Ze,reduceCtorEq,zd,ze,za,zf,zb,qar,qat,qau,qav,qal,qaj,qak]
     ·intro hc
      rw [if_neg (by rw [hc];simp)] at hs2
      refine zS ?_
      refine qad zE_ ?_
      refine zS ?_
      ((with_reducible and_intros)<;>try exact sc_)
      refine qab (l.length - (k+1)) _ (outP (stP l (k+1)).1 (stP l (k+1)).2.1 kv') (by omega) ?_ ?_ ⟨k+1,kv',by omega,rfl,by rw [hs1];exact hkv',rfl,rfl⟩
      ·rw [hs3]
       (simp only [ZZ,WW,Ze,reduceCtorEq,zd,ze,za,zf,zb];try trivial)
      ·rw [hs1,hs2]
       simp only [ZZ,WW,Ze,reduceCtorEq,zd,ze,za,zf,zb,qar,qat,qau,qav,qal,qaj,qak]
  ·intro h
   have hge:k=l.length:=by have:=of_decide_eq_false h;omega
   subst hge
   refine zS ?_
   refine ⟨by kernel_rfl,?_⟩
   refine useI mixed 100 Tryz.func230 qaB ?_
   simp only [zA,yi,zn,zx,zH,zM,Nat.reduceSub,zd,zZ,yp,qaw,fwdI,renI,qbG,renL,mapO,bwd,fwd,rk,uk,AV.ren,AO.ren,qbR,qby,zJ,zK,zg,not_true,not_false,false_and,and_false,true_and,and_true,z6,z7,z8,zt,Zbk,zp,ZZ,WW,Ze,reduceCtorEq,zd,ze,za,zf,zb]
   refine use1 (qb3 (w :: ws) (by omega) (by omega)) rfl (.inr rfl) ?_
   refine zS ?_
   refine use1 (qd3 (qaV (w :: ws)) (by omega)) rfl (.inl rfl) ?_
   refine zS ?_
   refine use1 (qem (sqF (qaV (w :: ws))) (by omega)) rfl (.inl rfl) ?_
   rw [hS]
   simp only [ZZ,WW,Ze,reduceCtorEq,zd,ze,za,zf,zb,hkvs]
   ((with_reducible and_intros)<;>try exact sc_)
   refine br ?_ ?_
   ·intro h1
    have h1:endS (w :: ws)≠[]∧endS (w :: ws)∉[]:=by simpa using h1
    have hE:endR [] (endS (w :: ws))=[endS (w :: ws)]:=by simp only [endR,if_pos h1,zH,zM]
    have hK:=qbf hkv (endS (w :: ws))
    simp only [ZZ,WW,Ze,reduceCtorEq,zd,ze,za,zf,zb,qac]
    ((with_reducible and_intros)<;>try exact sc_)
    refine qad zE_ ?_
    refine zS ?_
    ((with_reducible and_intros)<;>try exact sc_)
    refine ⟨some 21,?_⟩
    simp only [fwdI,renI,qbG,renL,mapO,bwd,fwd,rk,uk,AV.ren,AO.ren,qbR,qby,zJ,zK,zg,not_true,not_false,false_and,and_false,true_and,and_true,z6,z7,z8,zt,Zbk,zp,ZZ,WW,Ze,reduceCtorEq,zd,ze,za,zf,zb]
    rw [ho,hn,hE]
    try rw [qaj]
    try rfl
   ·intro h1
    have h1:¬ (endS (w :: ws)≠[]∧endS (w :: ws)∉[]):=by
     rintro ⟨h2,h3⟩
     rw [decide_eq_false h2,decide_eq_false h3] at h1
     cases h1
    have hE:endR [] (endS (w :: ws))=[]:=by rw [endR,if_neg h1]
    refine zS ?_
    refine qad zE_ ?_
    refine zS ?_
    ((with_reducible and_intros)<;>try exact sc_)
    refine ⟨none,?_⟩
    simp only [fwdI,renI,qbG,renL,mapO,bwd,fwd,rk,uk,AV.ren,AO.ren,qbR,qby,zJ,zK,zg,not_true,not_false,false_and,and_false,true_and,and_true,z6,z7,z8,zt,Zbk,zp,ZZ,WW,Ze,reduceCtorEq,zd,ze,za,zf,zb]
    rw [ho,hn,hE]
    try rw [qaj]
    try rfl
 ·skip
  have hol2:r.length+1≤k:=hol
  simp only [qau,zo,zu,or_self,qaW,ZZ,WW,Ze,reduceCtorEq,zd,ze,za,zf,zb]
  refine br ?_ ?_
  ·intro h
   have hlt:k < l.length:=by have:=of_decide_eq_true h;omega
   obtain ⟨x,hx⟩:∃ x,l[k]?=some x:=⟨_,zh hlt⟩
   have hxb:=hlb x (zl hx)
   have htl:=qfZ hx
   have hws:=qei hx
   have hwk1:=qdf (k+1) l
   simp only [ZZ,WW,Ze,reduceCtorEq,zd,ze,za,zf,zb,qmc hlt,qi6,zo,zu,or_self]
   ((with_reducible and_intros)<;>try exact sc_)
   refine use1 (qgk (txF l k) (by omega)) rfl (.inl rfl) ?_
   refine zS ?_
   ((with_reducible and_intros)<;>try exact sc_)
   generalize he:(qcY (txF l k) || (qF l k).2 || !decide (((qF l k).1:Int)=d))=e at *
   refine qfl (fun fr L=>∃ kv',qkL kv' (if e=true then endR (y :: r) (endS []) else (y :: r))∧fr=(oo::oo::oo::.adr (.l 3) 0::.adr (.l 4) 0::.adr (.l 5) 0::oo::.fn fPP [.l 4,.l 5,.l 3]::oo::.adr (.l 9) 0::oo::oo::oo::.p (.sl 3 (apF l))::.p (int (l.length:Nat))::.p (int (k:Nat))::oF (oC []))∧L=(.l 9,.box [.p (int ((qF l k).1:Nat)),.p (.str (txF l k)),.p (.bool (qF l k).2)] tQ3) :: outP (if e=true then endR (y :: r) (endS []) else (y :: r)) (if e=true then [] else []) kv') ?_ ?_ ?_
   ·intro he
    subst he
    refine zS ?_
    refine ⟨by kernel_rfl,?_⟩
    refine useI mixed 100 Tryz.func230 qaB ?_
    simp only [zA,yi,zn,zx,zH,zM,Nat.reduceSub,zd,zZ,yp,qaw,fwdI,renI,qbG,renL,mapO,bwd,fwd,rk,uk,AV.ren,AO.ren,qbR,qby,zJ,zK,zg,not_true,not_false,false_and,and_false,true_and,and_true,z6,z7,z8,zt,Zbk,zp,ZZ,WW,Ze,reduceCtorEq,zd,ze,za,zf,zb]
    refine use1 (qb3 [] (by omega) (by omega)) rfl (.inl rfl) ?_
    refine zS ?_
    refine use1 (qd3 (qaV []) (by omega)) rfl (.inl rfl) ?_
    refine zS ?_
    refine use1 (qem (sqF (qaV [])) (by omega)) rfl (.inl rfl) ?_
    rw [hS]
    simp only [ZZ,WW,Ze,reduceCtorEq,zd,ze,za,zf,zb,hkvs]
    ((with_reducible and_intros)<;>try exact sc_)
    refine br ?_ ?_
    ·intro h1
     have h1:endS []≠[]∧endS []∉(y :: r):=by simpa using h1
     exact absurd qgc h1.1
    ·intro h1
     have h1:¬ (endS []≠[]∧endS []∉(y :: r)):=by
      rintro ⟨h2,h3⟩
      rw [decide_eq_false h2,decide_eq_false h3] at h1
      cases h1
     have hE:endR (y :: r) (endS [])=(y :: r):=by rw [endR,if_neg h1]
     refine zS ?_
     refine qad zE_ ?_
     refine zS ?_
     ((with_reducible and_intros)<;>try exact sc_)
     refine ⟨some 100,?_⟩
     simp only [fwdI,renI,qbG,renL,mapO,bwd,fwd,rk,uk,AV.ren,AO.ren,qbR,qby,zJ,zK,zg,not_true,not_false,false_and,and_false,true_and,and_true,z6,z7,z8,zt,Zbk,zp,ZZ,WW,Ze,reduceCtorEq,zd,ze,za,zf,zb]
     rw [hE]
     simp only [ZZ,WW,Ze,reduceCtorEq,zd,ze,za,zf,zb,zo,zu,or_self]
     refine qbn _ _ ?_ ?_ ⟨_,hkv,rfl,rfl⟩
     ·(simp only [ZZ,WW,Ze,reduceCtorEq,zd,ze,za,zf,zb];try trivial)
     ·simp only [ZZ,WW,Ze,reduceCtorEq,zd,ze,za,zf,zb,qar,qat,qau,qav,qal,qaj,qak]
   ·intro he
    subst he
    simp only [zp,if_false]
    refine zS ?_
    refine qbn _ _ ?_ ?_ ⟨kv,hkv,rfl,rfl⟩
    ·(simp only [ZZ,WW,Ze,reduceCtorEq,zd,ze,za,zf,zb];try trivial)
    ·simp only [ZZ,WW,Ze,reduceCtorEq,zd,ze,za,zf,zb,qar,qat,qau,qav]
   ·rintro fr L ⟨kv',hkv',rfl,rfl⟩
    generalize (if e=true then endR (y :: r) (endS []) else (y :: r))=o' at *
    generalize hnn:(if e=true then [] else [])=n' at *
    have hnl2:n'.length≤30000:=by
     rw [← hnn]
     split
     ·simp
     ·first|(simp;done)|omega
    rcases o' with _|⟨y',r'⟩<;>rcases n' with _|⟨w',ws'⟩
    ·skip
     simp only [ZZ,WW,Ze,reduceCtorEq,zd,ze,za,zf,zb,qar,zo,zu,or_self]
     ((with_reducible and_intros)<;>try exact sc_)
     refine br ?_ ?_
     ·intro hc
      rw [if_pos hc] at hs2
      rw [zM] at hs2
      simp only [ZZ,WW,Ze,reduceCtorEq,zd,ze,za,zf,zb,qac]
      ((with_reducible and_intros)<;>try exact sc_)
      refine qad zE_ ?_
      refine zS ?_
      ((with_reducible and_intros)<;>try exact sc_)
      refine qab (l.length - (k+1)) _ (outP (stP l (k+1)).1 (stP l (k+1)).2.1 kv') (by omega) ?_ ?_ ⟨k+1,kv',by omega,rfl,by rw [hs1];exact hkv',rfl,rfl⟩
      ·rw [hs3]
       (simp only [ZZ,WW,Ze,reduceCtorEq,zd,ze,za,zf,zb];try trivial)
      ·rw [hs1,hs2]
       simp only [ZZ,WW,Ze,reduceCtorEq,zd,ze,za,zf,zb,qar,qat,qau,qav,qal,qaj,qak]
     ·intro hc
      rw [if_neg (by rw [hc];simp)] at hs2
      refine zS ?_
      refine qad zE_ ?_
      refine zS ?_
      ((with_reducible and_intros)<;>try exact sc_)
      refine qab (l.length - (k+1)) _ (outP (stP l (k+1)).1 (stP l (k+1)).2.1 kv') (by omega) ?_ ?_ ⟨k+1,kv',by omega,rfl,by rw [hs1];exact hkv',rfl,rfl⟩
      ·rw [hs3]
       (simp only [ZZ,WW,Ze,reduceCtorEq,zd,ze,za,zf,zb];try trivial)
      ·rw [hs1,hs2]
       simp only [ZZ,WW,Ze,reduceCtorEq,zd,ze,za,zf,zb,qar,qat,qau,qav,qal,qaj,qak]
    ·skip
     simp only [ZZ,WW,Ze,reduceCtorEq,zd,ze,za,zf,zb,qat,zo,zu,or_self]
     ((with_reducible and_intros)<;>try exact sc_)
     refine br ?_ ?_
     ·intro hc
      rw [if_pos hc] at hs2
      rw [zH] at hs2
      have hnl3:ws'.length+1≤30000:=hnl2
      simp only [ZZ,WW,Ze,reduceCtorEq,zd,ze,za,zf,zb,qac]
      ((with_reducible and_intros)<;>try exact sc_)
      refine qad zE_ ?_
      refine zS ?_
      ((with_reducible and_intros)<;>try exact sc_)
      refine qab (l.length - (k+1)) _ (outP (stP l (k+1)).1 (stP l (k+1)).2.1 kv') (by omega) ?_ ?_ ⟨k+1,kv',by omega,rfl,by rw [hs1];exact hkv',rfl,rfl⟩
      ·rw [hs3]
       (simp only [ZZ,WW,Ze,reduceCtorEq,zd,ze,za,zf,zb];try trivial)
      ·rw [hs1,hs2]
       simp only [ZZ,WW,Ze,reduceCtorEq,zd,ze,za,zf,zb,qar,qat,qau,qav,qal,qaj,qak]
     ·intro hc
      rw [if_neg (by rw [hc];simp)] at hs2
      refine zS ?_
      refine qad zE_ ?_
      refine zS ?_
      ((with_reducible and_intros)<;>try exact sc_)
      refine qab (l.length - (k+1)) _ (outP (stP l (k+1)).1 (stP l (k+1)).2.1 kv') (by omega) ?_ ?_ ⟨k+1,kv',by omega,rfl,by rw [hs1];exact hkv',rfl,rfl⟩
      ·rw [hs3]
       (simp only [ZZ,WW,Ze,reduceCtorEq,zd,ze,za,zf,zb];try trivial)
      ·rw [hs1,hs2]
       simp only [ZZ,WW,Ze,reduceCtorEq,zd,ze,za,zf,zb,qar,qat,qau,qav,qal,qaj,qak]
    ·skip
     simp only [ZZ,WW,Ze,reduceCtorEq,zd,ze,za,zf,zb,qau,zo,zu,or_self]
     ((with_reducible and_intros)<;>try exact sc_)
     refine br ?_ ?_
     ·intro hc
      rw [if_pos hc] at hs2
      rw [zM] at hs2
      simp only [ZZ,WW,Ze,reduceCtorEq,zd,ze,za,zf,zb,qac]
      ((with_reducible and_intros)<;>try exact sc_)
      refine qad zE_ ?_
      refine zS ?_
      ((with_reducible and_intros)<;>try exact sc_)
      refine qab (l.length - (k+1)) _ (outP (stP l (k+1)).1 (stP l (k+1)).2.1 kv') (by omega) ?_ ?_ ⟨k+1,kv',by omega,rfl,by rw [hs1];exact hkv',rfl,rfl⟩
      ·rw [hs3]
       (simp only [ZZ,WW,Ze,reduceCtorEq,zd,ze,za,zf,zb];try trivial)
      ·rw [hs1,hs2]
       simp only [ZZ,WW,Ze,reduceCtorEq,zd,ze,za,zf,zb,qar,qat,qau,qav,qal,qaj,qak]
     ·intro hc
      rw [if_neg (by rw [hc];simp)] at hs2
      refine zS ?_
      refine qad zE_ ?_
      refine zS ?_
      ((with_reducible and_intros)<;>try exact sc_)
      refine qab (l.length - (k+1)) _ (outP (stP l (k+1)).1 (stP l (k+1)).2.1 kv') (by omega) ?_ ?_ ⟨k+1,kv',by omega,rfl,by rw [hs1];exact hkv',rfl,rfl⟩
      ·rw [hs3]
       (simp only [ZZ,WW,Ze,reduceCtorEq,zd,ze,za,zf,zb];try trivial)
      ·rw [hs1,hs2]
       simp only [ZZ,WW,Ze,reduceCtorEq,zd,ze,za,zf,zb,qar,qat,qau,qav,qal,qaj,qak]
    ·skip
     simp only [ZZ,WW,Ze,reduceCtorEq,zd,ze,za,zf,zb,qav,zo,zu,or_self]
     ((with_reducible and_intros)<;>try exact sc_)
     refine br ?_ ?_
     ·intro hc
      rw [if_pos hc] at hs2
      rw [zH] at hs2
      have hnl3:ws'.length+1≤30000:=hnl2
      simp only [ZZ,WW,Ze,reduceCtorEq,zd,ze,za,zf,zb,qac]
      ((with_reducible and_intros)<;>try exact sc_)
      refine qad zE_ ?_
      refine zS ?_
      ((with_reducible and_intros)<;>try exact sc_)
      refine qab (l.length - (k+1)) _ (outP (stP l (k+1)).1 (stP l (k+1)).2.1 kv') (by omega) ?_ ?_ ⟨k+1,kv',by omega,rfl,by rw [hs1];exact hkv',rfl,rfl⟩
      ·rw [hs3]
       (simp only [ZZ,WW,Ze,reduceCtorEq,zd,ze,za,zf,zb];try trivial)
      ·rw [hs1,hs2]
       simp only [ZZ,WW,Ze,reduceCtorEq,zd,ze,za,zf,zb,qar,qat,qau,qav,qal,qaj,qak]
     ·intro hc
      rw [if_neg (by rw [hc];simp)] at hs2
      refine zS ?_
      refine qad zE_ ?_
      refine zS ?_
      ((with_reducible and_intros)<;>try exact sc_)
      refine qab (l.length - (k+1)) _ (outP (stP l (k+1)).1 (stP l (k+1)).2.1 kv') (by omega) ?_ ?_ ⟨k+1,kv',by omega,rfl,by rw [hs1];exact hkv',rfl,rfl⟩
      ·rw [hs3]
       (simp only [ZZ,WW,Ze,reduceCtorEq,zd,ze,za,zf,zb];try trivial)
      ·rw [hs1,hs2]
       simp only [ZZ,WW,Ze,reduceCtorEq,zd,ze,za,zf,zb,qar,qat,qau,qav,qal,qaj,qak]
  ·intro h
   have hge:k=l.length:=by have:=of_decide_eq_false h;omega
   subst hge
   refine zS ?_
   refine ⟨by kernel_rfl,?_⟩
   refine useI mixed 100 Tryz.func230 qaB ?_
   simp only [zA,yi,zn,zx,zH,zM,Nat.reduceSub,zd,zZ,yp,qaw,fwdI,renI,qbG,renL,mapO,bwd,fwd,rk,uk,AV.ren,AO.ren,qbR,qby,zJ,zK,zg,not_true,not_false,false_and,and_false,true_and,and_true,z6,z7,z8,zt,Zbk,zp,ZZ,WW,Ze,reduceCtorEq,zd,ze,za,zf,zb]
   refine use1 (qb3 [] (by omega) (by omega)) rfl (.inl rfl) ?_
   refine zS ?_
   refine use1 (qd3 (qaV []) (by omega)) rfl (.inl rfl) ?_
   refine zS ?_
   refine use1 (qem (sqF (qaV [])) (by omega)) rfl (.inl rfl) ?_
   rw [hS]
   simp only [ZZ,WW,Ze,reduceCtorEq,zd,ze,za,zf,zb,hkvs]
   ((with_reducible and_intros)<;>try exact sc_)
   refine br ?_ ?_
   ·intro h1
    have h1:endS []≠[]∧endS []∉(y :: r):=by simpa using h1
    exact absurd qgc h1.1
   ·intro h1
    have h1:¬ (endS []≠[]∧endS []∉(y :: r)):=by
     rintro ⟨h2,h3⟩
     rw [decide_eq_false h2,decide_eq_false h3] at h1
     cases h1
    have hE:endR (y :: r) (endS [])=(y :: r):=by rw [endR,if_neg h1]
    refine zS ?_
    refine qad zE_ ?_
    refine zS ?_
    ((with_reducible and_intros)<;>try exact sc_)
    refine ⟨some 100,?_⟩
    simp only [fwdI,renI,qbG,renL,mapO,bwd,fwd,rk,uk,AV.ren,AO.ren,qbR,qby,zJ,zK,zg,not_true,not_false,false_and,and_false,true_and,and_true,z6,z7,z8,zt,Zbk,zp,ZZ,WW,Ze,reduceCtorEq,zd,ze,za,zf,zb]
    rw [ho,hn,hE]
    try rw [qaj]
    try rfl
 ·skip
  have hol2:r.length+1≤k:=hol
  simp only [qav,zo,zu,or_self,qaW,ZZ,WW,Ze,reduceCtorEq,zd,ze,za,zf,zb]
  refine br ?_ ?_
  ·intro h
   have hlt:k < l.length:=by have:=of_decide_eq_true h;omega
   obtain ⟨x,hx⟩:∃ x,l[k]?=some x:=⟨_,zh hlt⟩
   have hxb:=hlb x (zl hx)
   have htl:=qfZ hx
   have hws:=qei hx
   have hwk1:=qdf (k+1) l
   simp only [ZZ,WW,Ze,reduceCtorEq,zd,ze,za,zf,zb,qmc hlt,qi6,zo,zu,or_self]
   ((with_reducible and_intros)<;>try exact sc_)
   refine use1 (qgk (txF l k) (by omega)) rfl (.inl rfl) ?_
   refine zS ?_
   ((with_reducible and_intros)<;>try exact sc_)
   generalize he:(qcY (txF l k) || (qF l k).2 || !decide (((qF l k).1:Int)=d))=e at *
   refine qfl (fun fr L=>∃ kv',qkL kv' (if e=true then endR (y :: r) (endS (w :: ws)) else (y :: r))∧fr=(oo::oo::oo::.adr (.l 3) 0::.adr (.l 4) 0::.adr (.l 5) 0::oo::.fn fPP [.l 4,.l 5,.l 3]::oo::.adr (.l 9) 0::oo::oo::oo::.p (.sl 3 (apF l))::.p (int (l.length:Nat))::.p (int (k:Nat))::oF (oC []))∧L=(.l 9,.box [.p (int ((qF l k).1:Nat)),.p (.str (txF l k)),.p (.bool (qF l k).2)] tQ3) :: outP (if e=true then endR (y :: r) (endS (w :: ws)) else (y :: r)) (if e=true then [] else (w :: ws)) kv') ?_ ?_ ?_
   ·intro he
    subst he
    refine zS ?_
    refine ⟨by kernel_rfl,?_⟩
    refine useI mixed 100 Tryz.func230 qaB ?_
    simp only [zA,yi,zn,zx,zH,zM,Nat.reduceSub,zd,zZ,yp,qaw,fwdI,renI,qbG,renL,mapO,bwd,fwd,rk,uk,AV.ren,AO.ren,qbR,qby,zJ,zK,zg,not_true,not_false,false_and,and_false,true_and,and_true,z6,z7,z8,zt,Zbk,zp,ZZ,WW,Ze,reduceCtorEq,zd,ze,za,zf,zb]
    refine use1 (qb3 (w :: ws) (by omega) (by omega)) rfl (.inr rfl) ?_
    refine zS ?_
    refine use1 (qd3 (qaV (w :: ws)) (by omega)) rfl (.inl rfl) ?_
    refine zS ?_
    refine use1 (qem (sqF (qaV (w :: ws))) (by omega)) rfl (.inl rfl) ?_
    rw [hS]
    simp only [ZZ,WW,Ze,reduceCtorEq,zd,ze,za,zf,zb,hkvs]
    ((with_reducible and_intros)<;>try exact sc_)
    refine br ?_ ?_
    ·intro h1
     have h1:endS (w :: ws)≠[]∧endS (w :: ws)∉(y :: r):=by simpa using h1
     have hE:endR (y :: r) (endS (w :: ws))=y :: (r++[endS (w :: ws)]):=by simp only [endR,if_pos h1,zH,zM]
     have hK:=qbf hkv (endS (w :: ws))
     simp only [ZZ,WW,Ze,reduceCtorEq,zd,ze,za,zf,zb,qac]
     ((with_reducible and_intros)<;>try exact sc_)
     refine qad zE_ ?_
     refine zS ?_
     ((with_reducible and_intros)<;>try exact sc_)
     refine ⟨some 100,?_⟩
     simp only [fwdI,renI,qbG,renL,mapO,bwd,fwd,rk,uk,AV.ren,AO.ren,qbR,qby,zJ,zK,zg,not_true,not_false,false_and,and_false,true_and,and_true,z6,z7,z8,zt,Zbk,zp,ZZ,WW,Ze,reduceCtorEq,zd,ze,za,zf,zb]
     rw [hE]
     simp only [ZZ,WW,Ze,reduceCtorEq,zd,ze,za,zf,zb,zo,zu,or_self]
     refine qbn _ _ ?_ ?_ ⟨_,hK,rfl,rfl⟩
     ·(simp only [ZZ,WW,Ze,reduceCtorEq,zd,ze,za,zf,zb];try trivial)
     ·simp only [ZZ,WW,Ze,reduceCtorEq,zd,ze,za,zf,zb,qar,qat,qau,qav,qal,qaj,qak]
    ·intro h1
     have h1:¬ (endS (w :: ws)≠[]∧endS (w :: ws)∉(y :: r)):=by
      rintro ⟨h2,h3⟩
      rw [decide_eq_false h2,decide_eq_false h3] at h1
      cases h1
     have hE:endR (y :: r) (endS (w :: ws))=(y :: r):=by rw [endR,if_neg h1]
     refine zS ?_
     refine qad zE_ ?_
     refine zS ?_
     ((with_reducible and_intros)<;>try exact sc_)
     refine ⟨some 100,?_⟩
     simp only [fwdI,renI,qbG,renL,mapO,bwd,fwd,rk,uk,AV.ren,AO.ren,qbR,qby,zJ,zK,zg,not_true,not_false,false_and,and_false,true_and,and_true,z6,z7,z8,zt,Zbk,zp,ZZ,WW,Ze,reduceCtorEq,zd,ze,za,zf,zb]
     rw [hE]
     simp only [ZZ,WW,Ze,reduceCtorEq,zd,ze,za,zf,zb,zo,zu,or_self]
     refine qbn _ _ ?_ ?_ ⟨_,hkv,rfl,rfl⟩
     ·(simp only [ZZ,WW,Ze,reduceCtorEq,zd,ze,za,zf,zb];try trivial)
     ·simp only [ZZ,WW,Ze,reduceCtorEq,zd,ze,za,zf,zb,qar,qat,qau,qav,qal,qaj,qak]
   ·intro he
    subst he
    simp only [zp,if_false]
    refine zS ?_
    refine qbn _ _ ?_ ?_ ⟨kv,hkv,rfl,rfl⟩
    ·(simp only [ZZ,WW,Ze,reduceCtorEq,zd,ze,za,zf,zb];try trivial)
    ·simp only [ZZ,WW,Ze,reduceCtorEq,zd,ze,za,zf,zb,qar,qat,qau,qav]
   ·rintro fr L ⟨kv',hkv',rfl,rfl⟩
    generalize (if e=true then endR (y :: r) (endS (w :: ws)) else (y :: r))=o' at *
    generalize hnn:(if e=true then [] else (w :: ws))=n' at *
    have hnl2:n'.length≤30000:=by
     rw [← hnn]
     split
     ·simp
     ·first|(simp;done)|omega
    rcases o' with _|⟨y',r'⟩<;>rcases n' with _|⟨w',ws'⟩
    ·skip
     simp only [ZZ,WW,Ze,reduceCtorEq,zd,ze,za,zf,zb,qar,zo,zu,or_self]
     ((with_reducible and_intros)<;>try exact sc_)
     refine br ?_ ?_
     ·intro hc
      rw [if_pos hc] at hs2
      rw [zM] at hs2
      simp only [ZZ,WW,Ze,reduceCtorEq,zd,ze,za,zf,zb,qac]
      ((with_reducible and_intros)<;>try exact sc_)
      refine qad zE_ ?_
      refine zS ?_
      ((with_reducible and_intros)<;>try exact sc_)
      refine qab (l.length - (k+1)) _ (outP (stP l (k+1)).1 (stP l (k+1)).2.1 kv') (by omega) ?_ ?_ ⟨k+1,kv',by omega,rfl,by rw [hs1];exact hkv',rfl,rfl⟩
      ·rw [hs3]
       (simp only [ZZ,WW,Ze,reduceCtorEq,zd,ze,za,zf,zb];try trivial)
      ·rw [hs1,hs2]
       simp only [ZZ,WW,Ze,reduceCtorEq,zd,ze,za,zf,zb,qar,qat,qau,qav,qal,qaj,qak]
     ·intro hc
      rw [if_neg (by rw [hc];simp)] at hs2
      refine zS ?_
      refine qad zE_ ?_
      refine zS ?_
      ((with_reducible and_intros)<;>try exact sc_)
      refine qab (l.length - (k+1)) _ (outP (stP l (k+1)).1 (stP l (k+1)).2.1 kv') (by omega) ?_ ?_ ⟨k+1,kv',by omega,rfl,by rw [hs1];exact hkv',rfl,rfl⟩
      ·rw [hs3]
       (simp only [ZZ,WW,Ze,reduceCtorEq,zd,ze,za,zf,zb];try trivial)
      ·rw [hs1,hs2]
       simp only [ZZ,WW,Ze,reduceCtorEq,zd,ze,za,zf,zb,qar,qat,qau,qav,qal,qaj,qak]
    ·skip
     simp only [ZZ,WW,Ze,reduceCtorEq,zd,ze,za,zf,zb,qat,zo,zu,or_self]
     ((with_reducible and_intros)<;>try exact sc_)
     refine br ?_ ?_
     ·intro hc
      rw [if_pos hc] at hs2
      rw [zH] at hs2
      have hnl3:ws'.length+1≤30000:=hnl2
      simp only [ZZ,WW,Ze,reduceCtorEq,zd,ze,za,zf,zb,qac]
      ((with_reducible and_intros)<;>try exact sc_)
      refine qad zE_ ?_
      refine zS ?_
      ((with_reducible and_intros)<;>try exact sc_)
      refine qab (l.length - (k+1)) _ (outP (stP l (k+1)).1 (stP l (k+1)).2.1 kv') (by omega) ?_ ?_ ⟨k+1,kv',by omega,rfl,by rw [hs1];exact hkv',rfl,rfl⟩
      ·rw [hs3]
       (simp only [ZZ,WW,Ze,reduceCtorEq,zd,ze,za,zf,zb];try trivial)
      ·rw [hs1,hs2]
       simp only [ZZ,WW,Ze,reduceCtorEq,zd,ze,za,zf,zb,qar,qat,qau,qav,qal,qaj,qak]
     ·intro hc
      rw [if_neg (by rw [hc];simp)] at hs2
      refine zS ?_
      refine qad zE_ ?_
      refine zS ?_
      ((with_reducible and_intros)<;>try exact sc_)
      refine qab (l.length - (k+1)) _ (outP (stP l (k+1)).1 (stP l (k+1)).2.1 kv') (by omega) ?_ ?_ ⟨k+1,kv',by omega,rfl,by rw [hs1];exact hkv',rfl,rfl⟩
      ·rw [hs3]
       (simp only [ZZ,WW,Ze,reduceCtorEq,zd,ze,za,zf,zb];try trivial)
      ·rw [hs1,hs2]
       simp only [ZZ,WW,Ze,reduceCtorEq,zd,ze,za,zf,zb,qar,qat,qau,qav,qal,qaj,qak]
    ·skip
     simp only [ZZ,WW,Ze,reduceCtorEq,zd,ze,za,zf,zb,qau,zo,zu,or_self]
     ((with_reducible and_intros)<;>try exact sc_)
     refine br ?_ ?_
     ·intro hc
      rw [if_pos hc] at hs2
      rw [zM] at hs2
      simp only [ZZ,WW,Ze,reduceCtorEq,zd,ze,za,zf,zb,qac]
      ((with_reducible and_intros)<;>try exact sc_)
      refine qad zE_ ?_
      refine zS ?_
      ((with_reducible and_intros)<;>try exact sc_)
      refine qab (l.length - (k+1)) _ (outP (stP l (k+1)).1 (stP l (k+1)).2.1 kv') (by omega) ?_ ?_ ⟨k+1,kv',by omega,rfl,by rw [hs1];exact hkv',rfl,rfl⟩
      ·rw [hs3]
       (simp only [ZZ,WW,Ze,reduceCtorEq,zd,ze,za,zf,zb];try trivial)
      ·rw [hs1,hs2]
       simp only [ZZ,WW,Ze,reduceCtorEq,zd,ze,za,zf,zb,qar,qat,qau,qav,qal,qaj,qak]
     ·intro hc
      rw [if_neg (by rw [hc];simp)] at hs2
      refine zS ?_
      refine qad zE_ ?_
      refine zS ?_
      ((with_reducible and_intros)<;>try exact sc_)
      refine qab (l.length - (k+1)) _ (outP (stP l (k+1)).1 (stP l (k+1)).2.1 kv') (by omega) ?_ ?_ ⟨k+1,kv',by omega,rfl,by rw [hs1];exact hkv',rfl,rfl⟩
      ·rw [hs3]
       (simp only [ZZ,WW,Ze,reduceCtorEq,zd,ze,za,zf,zb];try trivial)
      ·rw [hs1,hs2]
       simp only [ZZ,WW,Ze,reduceCtorEq,zd,ze,za,zf,zb,qar,qat,qau,qav,qal,qaj,qak]
    ·skip
     simp only [ZZ,WW,Ze,reduceCtorEq,zd,ze,za,zf,zb,qav,zo,zu,or_self]
     ((with_reducible and_intros)<;>try exact sc_)
     refine br ?_ ?_
     ·intro hc
      rw [if_pos hc] at hs2
      rw [zH] at hs2
      have hnl3:ws'.length+1≤30000:=hnl2
      simp only [ZZ,WW,Ze,reduceCtorEq,zd,ze,za,zf,zb,qac]
      ((with_reducible and_intros)<;>try exact sc_)
      refine qad zE_ ?_
      refine zS ?_
      ((with_reducible and_intros)<;>try exact sc_)
      refine qab (l.length - (k+1)) _ (outP (stP l (k+1)).1 (stP l (k+1)).2.1 kv') (by omega) ?_ ?_ ⟨k+1,kv',by omega,rfl,by rw [hs1];exact hkv',rfl,rfl⟩
      ·rw [hs3]
       (simp only [ZZ,WW,Ze,reduceCtorEq,zd,ze,za,zf,zb];try trivial)
      ·rw [hs1,hs2]
       simp only [ZZ,WW,Ze,reduceCtorEq,zd,ze,za,zf,zb,qar,qat,qau,qav,qal,qaj,qak]
     ·intro hc
      rw [if_neg (by rw [hc];simp)] at hs2
      refine zS ?_
      refine qad zE_ ?_
      refine zS ?_
      ((with_reducible and_intros)<;>try exact sc_)
      refine qab (l.length - (k+1)) _ (outP (stP l (k+1)).1 (stP l (k+1)).2.1 kv') (by omega) ?_ ?_ ⟨k+1,kv',by omega,rfl,by rw [hs1];exact hkv',rfl,rfl⟩
      ·rw [hs3]
       (simp only [ZZ,WW,Ze,reduceCtorEq,zd,ze,za,zf,zb];try trivial)
      ·rw [hs1,hs2]
       simp only [ZZ,WW,Ze,reduceCtorEq,zd,ze,za,zf,zb,qar,qat,qau,qav,qal,qaj,qak]
  ·intro h
   have hge:k=l.length:=by have:=of_decide_eq_false h;omega
   subst hge
   refine zS ?_
   refine ⟨by kernel_rfl,?_⟩
   refine useI mixed 100 Tryz.func230 qaB ?_
   simp only [zA,yi,zn,zx,zH,zM,Nat.reduceSub,zd,zZ,yp,qaw,fwdI,renI,qbG,renL,mapO,bwd,fwd,rk,uk,AV.ren,AO.ren,qbR,qby,zJ,zK,zg,not_true,not_false,false_and,and_false,true_and,and_true,z6,z7,z8,zt,Zbk,zp,ZZ,WW,Ze,reduceCtorEq,zd,ze,za,zf,zb]
   refine use1 (qb3 (w :: ws) (by omega) (by omega)) rfl (.inr rfl) ?_
   refine zS ?_
   refine use1 (qd3 (qaV (w :: ws)) (by omega)) rfl (.inl rfl) ?_
   refine zS ?_
   refine use1 (qem (sqF (qaV (w :: ws))) (by omega)) rfl (.inl rfl) ?_
   rw [hS]
   simp only [ZZ,WW,Ze,reduceCtorEq,zd,ze,za,zf,zb,hkvs]
   ((with_reducible and_intros)<;>try exact sc_)
   refine br ?_ ?_
   ·intro h1
    have h1:endS (w :: ws)≠[]∧endS (w :: ws)∉(y :: r):=by simpa using h1
    have hE:endR (y :: r) (endS (w :: ws))=y :: (r++[endS (w :: ws)]):=by simp only [endR,if_pos h1,zH,zM]
    have hK:=qbf hkv (endS (w :: ws))
    simp only [ZZ,WW,Ze,reduceCtorEq,zd,ze,za,zf,zb,qac]
    ((with_reducible and_intros)<;>try exact sc_)
    refine qad zE_ ?_
    refine zS ?_
    ((with_reducible and_intros)<;>try exact sc_)
    refine ⟨some 100,?_⟩
    simp only [fwdI,renI,qbG,renL,mapO,bwd,fwd,rk,uk,AV.ren,AO.ren,qbR,qby,zJ,zK,zg,not_true,not_false,false_and,and_false,true_and,and_true,z6,z7,z8,zt,Zbk,zp,ZZ,WW,Ze,reduceCtorEq,zd,ze,za,zf,zb]
    rw [ho,hn,hE]
    try rw [qaj]
    try rfl
   ·intro h1
    have h1:¬ (endS (w :: ws)≠[]∧endS (w :: ws)∉(y :: r)):=by
     rintro ⟨h2,h3⟩
     rw [decide_eq_false h2,decide_eq_false h3] at h1
     cases h1
    have hE:endR (y :: r) (endS (w :: ws))=(y :: r):=by rw [endR,if_neg h1]
    refine zS ?_
    refine qad zE_ ?_
    refine zS ?_
    ((with_reducible and_intros)<;>try exact sc_)
    refine ⟨some 100,?_⟩
    simp only [fwdI,renI,qbG,renL,mapO,bwd,fwd,rk,uk,AV.ren,AO.ren,qbR,qby,zJ,zK,zg,not_true,not_false,false_and,and_false,true_and,and_true,z6,z7,z8,zt,Zbk,zp,ZZ,WW,Ze,reduceCtorEq,zd,ze,za,zf,zb]
    rw [ho,hn,hE]
    try rw [qaj]
    try rfl
theorem qmN (s:List UInt8) (hs:s.length≤1000000000):PCall Tryz.prog E0 104 [.str s] (·=.tup [.sl 1 (strE (if qel s=0 then endR (stP (qbA s).1 (qbA s).1.length).1 (endS (stP (qbA s).1 (qbA s).1.length).2.1) else [])),int (qel s)]):=by
 refine qag mixed Tryz.func104 qh9 ?_
 refine zV ?_
 refine use1 (qht s hs) rfl (.inl rfl) ?_
 refine zS ?_
 refine br ?_ ?_
 ·intro h
  have h:¬ qel s=0:=by simpa using h
  refine zS ?_
  rw [if_neg h]
  rfl
 intro h
 have h:qel s=0:=by simpa using h
 have hs2:s.length≤20000:=(qep h).1
 rw [if_pos h,h]
 refine zS ?_
 refine use1 (qnX s hs2) rfl (.inl rfl) ?_
 simp only [ZZ,WW,Ze,reduceCtorEq,zd,ze,za,zf,zb]
end Go.Proofs.YtekhobchfhhofaaGreatDoor
