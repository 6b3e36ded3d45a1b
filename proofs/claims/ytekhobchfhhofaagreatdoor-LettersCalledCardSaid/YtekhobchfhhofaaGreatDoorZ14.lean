import Derived.Test.YtekhobchfhhofaaGreatDoorZ13
set_option linter.unusedVariables false
set_option linter.unusedSimpArgs false
set_option linter.defProp false
namespace Go.Proofs.YtekhobchfhhofaaGreatDoor
open Option.some renaming injEq→zg
open Nat renaming reduceAdd→zd,reduceBEq→z8,reduceDiv→z7,reduceEqDiff→zb,reduceLT→zf,reduceLeDiff→za,reduceMod→z6,reduceMul→ze
open List renaming cons_append→zH,getElem?_eq_getElem→zh,length_append→zq,length_cons→zn,length_nil→zx,map_cons→zA,map_nil→yi,mem_cons→zo,mem_of_getElem?→zl,nil_append→zM,not_mem_nil→zu,replicate_succ→zZ,replicate_zero→yp
open Bool renaming false_eq_true→zp
open Option renaming isSome_none→zK,isSome_some→zJ,map_some→zt
open Go.RowKit
def qbc:IC:=(sR [qT 18 .lss 17 16] (.seq (jE 18) (.seq (.block 1 (sR [qM 19 17,qX 20 2 15 17,qO 21 (.ld 2 true (.t 20)),qO 9 (.alc 176 [.int .i64 0,.str []]),qM 8 19,qS 2 9 21] (sR [wF 22 1 9,qL 23 22,jC 24 139 [.t 23],jC 25 138 [.t 24],qM 10 25] (.seq (sR [qM 26 7,qM 27 8,qX 28 1 26 27,qL 29 28,qM 30 29,⟨some 31,.mov (.t 10),(some (30,false))⟩,⟨some 32,.bin .eql (.t 31) (.c (.str [])),(some (30,false))⟩,qO 33 (.pick (.t 30) (.c (.bool true)) (.t 32)),qM 34 33,⟨some 35,.fla 0 (.t 9),(some (34,false))⟩,⟨some 36,.ld 1 false (.t 35),(some (34,false))⟩,⟨some 37,.mov (.t 5),(some (34,false))⟩,⟨some 38,.bin .neq (.t 36) (.t 37),(some (34,false))⟩,qO 39 (.pick (.t 34) (.c (.bool true)) (.t 38))] (jW 39 (.reg [qM 40 6,qO 41 (.callv (.t 40) [])]))) (.cut (.seq (sR [qM 42 7,qM 43 8,qX 44 1 42 43,qL 45 44,qO 46 (.not (.t 45)),qM 47 46,⟨some 48,.mov (.t 10),(some (47,true))⟩,⟨some 49,.bin .neq (.t 48) (.c (.str [])),(some (47,true))⟩,qO 50 (.pick (.t 47) (.t 49) (.c (.bool false)))] (jW 50 (.reg [qL 51 4,qB 52 .add 51 (.c (.str [32])),qM 53 10,qT 54 .add 52 53,jC 55 139 [.t 54],qS 1 4 55]))) (.cut (.reg [wF 56 0 9,qL 57 56,qM 5 57])))))))) (.reg [qB 58 .add 17 (cI 1),qM 17 58]))))
abbrev qe5:IC:=(sR [qO 2 (.mov (.c (.nl 1)))] (sR [qO 3 (.alc 28 [.nl 1])] (sR [qO 4 (.alc 9 [.str []]),⟨none,.st 1 (.t 4) (.c (.str [])),none⟩,jI 5 (-1)] (sR [qO 11 (.mkf 135 [.t 4,.t 3]),qM 6 11] (sR [qM 12 0,jC 13 136 [.t 12],qM 7 13] (.seq (sR [qM 14 0,jC 15 137 [.t 14],qN 16 15,jI 17 0] (.block 0 (.loop qbc))) (sR [qM 59 6,qO 60 (.callv (.t 59) [])] (sR [qL 61 3,qM 2 61] .ret))))))))
theorem qfd:chkF Tryz.prog Tryz.f65 qe5 [.t 2] 62=true:=by kernel_rfl
def qaJ:IC:=(.seq (sR [qL 2 0,qB 3 .neq 2 (.c (.str [])),qM 4 3,⟨some 5,.ld 1 false (.t 1),(some (4,true))⟩,⟨some 6,.ld 1 false (.t 0),(some (4,true))⟩,⟨some 7,.call 58 [.t 5,.t 6],(some (4,true))⟩,⟨some 8,.not (.t 7),(some (4,true))⟩,qO 9 (.pick (.t 4) (.t 8) (.c (.bool false)))] (jW 9 (.reg [qL 10 1,qL 11 0,qO 12 (.bsl 1 [.t 11]),qO 13 (.app 9 1 16 (.t 10) (.t 12)),qS 1 1 13]))) (.cut (.reg [⟨none,.st 1 (.t 0) (.c (.str [])),none⟩])))
theorem qaZ:chkF Tryz.prog Tryz.f135 qaJ [] 14=true:=by kernel_rfl
abbrev qfo:Nat:=28
abbrev fPE:Nat:=135
def endR (o:List (List UInt8)) (now:List UInt8):List (List UInt8):=if now≠[]∧now∉o then o++[now] else o
def stR (l:List (List UInt8)):Nat→List (List UInt8)×List UInt8×Int
 |0=>([],[],-1)
 |k+1=>
  let s:=lowF (sqF (txF l k))
  let st:=stR l k
  let e:=(qF l k).2 || decide (s=[]) || !decide (((qF l k).1:Int)=st.2.2)
  let o:=if e=true then endR st.1 st.2.1 else st.1
  let n:=if e=true then [] else st.2.1
  (o,if (!(qF l k).2 && !decide (s=[]))=true then sqF (n++32 :: s) else n,(qF l k).1)
def outL (o:List (List UInt8)) (now:List UInt8):Objs:=match o with
 |[]=>[(.l 3,.box [.p (.nl 1)] qfo),(.l 4,.box [.p (.str now)] tStr)]
 |x :: r=>[(.l 3,.box [.row (.l 100)] qfo),(.l 4,.box [.p (.str now)] tStr),(.l 100,.row (strE (x :: r)) tStr 1 true)]
theorem qek (now:List UInt8):outL [] now=[(.l 3,.box [.p (.nl 1)] qfo),(.l 4,.box [.p (.str now)] tStr)]:=rfl
theorem qb9 (y:List UInt8) (r:List (List UInt8)) (now:List UInt8):outL (y :: r) now=[(.l 3,.box [.row (.l 100)] qfo),(.l 4,.box [.p (.str now)] tStr),(.l 100,.row (strE (y :: r)) tStr 1 true)]:=rfl
theorem qaj (y:List UInt8) (r:List (List UInt8)) (x:List UInt8):strE (y :: r)++[[.str x]]=strE (y :: (r++[x])):=by simp [strE]
theorem qak (y:List UInt8) (r:List (List UInt8)) (x:List UInt8):strE (y :: r)++strE [x]=strE (y :: (r++[x])):=by simp [strE]
theorem qdf (n:Nat):∀ (l:List (List UInt8)),wgt (l.take n)≤wgt l:=by
 induction n with
 |zero=>intro l;simp [wgt]
 |succ n ih=>
  intro l
  cases l with
  |nil=>simp [wgt]
  |cons x r=>have:=ih r;simp only [List.take_succ_cons,wgt];omega
theorem qei {l:List (List UInt8)} {k:Nat} {x:List UInt8} (h:l[k]?=some x):wgt (l.take (k+1))=wgt (l.take k)+x.length+1:=by
 rw [List.take_add_one,h,qqm]
 simp [wgt]
 omega
theorem qfZ {l:List (List UInt8)} {k:Nat} {x:List UInt8} (h:l[k]?=some x):(txF l k).length≤x.length:=by
 have:=qrf _ x (Nat.le_refl _)
 have e:l.getD k []=x:=by simp [List.getD,h]
 unfold txF
 rw [e]
 omega
theorem qqp (l:List (List UInt8)):∀ k,k≤l.length→(stR l k).2.1.length≤wgt (l.take k):=by
 intro k
 induction k with
 |zero=>intro _;simp [stR,wgt]
 |succ k ih=>
  intro hk
  obtain ⟨x,hx⟩:∃ x,l[k]?=some x:=⟨_,zh (by omega)⟩
  have h1:=ih (by omega)
  have h2:=qei hx
  have h3:=qfZ hx
  have h4:=qlp (txF l k)
  rw [stR]
  simp only
  generalize hn:(if ((qF l k).2 || decide (lowF (sqF (txF l k))=[]) || !decide (((qF l k).1:Int)=(stR l k).2.2))=true then [] else (stR l k).2.1)=n
  have hnl:n.length≤wgt (l.take k):=by
   rw [← hn]
   split
   ·simp
   ·exact h1
  split
  ·have h5:=qlp (n++32 :: lowF (sqF (txF l k)))
   have h6:(lowF (sqF (txF l k))).length=(sqF (txF l k)).length:=by simp [lowF]
   rw [zq,zn,h6] at h5
   omega
  ·omega
theorem qs8 (l:List (List UInt8)):∀ k,(stR l k).1.length≤k:=by
 intro k
 induction k with
 |zero=>simp [stR]
 |succ k ih=>
  rw [stR]
  simp only
  split
  ·unfold endR
   split
   ·simp;exact ih
   ·omega
  ·omega
theorem qiq (s:List UInt8):wgt (qao s)≤s.length+1:=by
 unfold qao
 have:=qdf ((splF s 10).length - 1) (splF s 10)
 have h2:=qrh 10 s
 rw [← qcG] at h2
 omega
theorem qkJ (x:List UInt8):PCall Tryz.prog E0 58 [.sl 1 [],.str x] (·=.bool false):=(qbk [] x (by simp)).mono fun y h=>by rw [h];simp
set_option maxHeartbeats 4000000 in
theorem qmi (s:List UInt8) (hs:s.length≤20000):PCall Tryz.prog E0 65 [.str s] (·=.sl 1 (strE (endR (stR (qao s) (qao s).length).1 (stR (qao s) (qao s).length).2.1))):=by
 refine qag mixed Tryz.func65 qfd ?_
 refine zV ?_
 refine use1 (qoC s (by omega)) rfl (.inl rfl) ?_
 refine zS ?_
 refine use1 (qq4 s (by omega)) rfl (.inl rfl) ?_
 obtain ⟨hll,hlb⟩:=qft s
 have hw:=qiq s
 generalize qao s=l at *
 simp only [ZZ,WW,Ze,reduceCtorEq,zd,ze,za,zf,zb,qir]
 refine qae (fun n fr L=>∃ (k:Nat),k≤l.length∧n=l.length - k∧fr=(oo::oo::oo::.adr (.l 3) 0::.adr (.l 4) 0::.p (int (stR l k).2.2)::.fn fPE [.l 4,.l 3]::.p (.sl 1 (rowM l l.length))::oC (oB (oo::(.p (.sl 2 (quF l))::.p (int (l.length:Nat))::.p (int (k:Nat))::oF (oD (oC []))))))∧L=outL (stR l k).1 (stR l k).2.1) l.length _ (outL [] []) zF_ (by simp only [ZZ,WW,Ze,reduceCtorEq,zd,ze,za,zf,zb,outL]) ⟨0,by omega,by omega,rfl,rfl⟩ ?_
 rintro n fr L ⟨k,hk,rfl,rfl,rfl⟩
 have hol:=qs8 l k
 have hnl:=qqp l k hk
 have hwk:=qdf k l
 have hs1:(stR l (k+1)).1=if ((qF l k).2 || decide (lowF (sqF (txF l k))=[]) || !decide (((qF l k).1:Int)=(stR l k).2.2))=true then endR (stR l k).1 (stR l k).2.1 else (stR l k).1:=rfl
 have hs2:(stR l (k+1)).2.1=if (!(qF l k).2 && !decide (lowF (sqF (txF l k))=[]))=true then sqF ((if ((qF l k).2 || decide (lowF (sqF (txF l k))=[]) || !decide (((qF l k).1:Int)=(stR l k).2.2))=true then [] else (stR l k).2.1)++32 :: lowF (sqF (txF l k))) else (if ((qF l k).2 || decide (lowF (sqF (txF l k))=[]) || !decide (((qF l k).1:Int)=(stR l k).2.2))=true then [] else (stR l k).2.1):=rfl
 have hs3:(stR l (k+1)).2.2=(qF l k).1:=rfl
 generalize ho:(stR l k).1=o at *
 generalize hn:(stR l k).2.1=now at *
 generalize hd:(stR l k).2.2=d at *
 rcases o with _|⟨y,r⟩
 ·skip
  simp only [qek,zo,zu,or_self,qbc,ZZ,WW,Ze,reduceCtorEq,zd,ze,za,zf,zb]
  refine br ?_ ?_
  ·intro h
   have hlt:k < l.length:=by have:=of_decide_eq_true h;omega
   obtain ⟨x,hx⟩:∃ x,l[k]?=some x:=⟨_,zh hlt⟩
   have hxb:=hlb x (zl hx)
   have htl:=qfZ hx
   have hsl:=qlp (txF l k)
   have hll2:(lowF (sqF (txF l k))).length=(sqF (txF l k)).length:=by simp [lowF]
   have hws:=qei hx
   have hwk1:=qdf (k+1) l
   simp only [ZZ,WW,Ze,reduceCtorEq,zd,ze,za,zf,zb,qnR hlt,qir,zo,zu,or_self]
   ((with_reducible and_intros)<;>try exact sc_)
   refine use1 (qbK (txF l k) (by omega)) rfl (.inl rfl) ?_
   refine zS ?_
   refine use1 (qlJ (sqF (txF l k)) (by omega)) rfl (.inl rfl) ?_
   generalize hlow:lowF (sqF (txF l k))=t at *
   simp only [ZZ,WW,Ze,reduceCtorEq,zd,ze,za,zf,zb,qhJ hlt,qf3]
   ((with_reducible and_intros)<;>try exact sc_)
   generalize he:((qF l k).2 || decide (t=[]) || !decide (((qF l k).1:Int)=d))=e at *
   refine qfl (fun fr L=>fr=(oo::oo::oo::.adr (.l 3) 0::.adr (.l 4) 0::oo::.fn fPE [.l 4,.l 3]::.p (.sl 1 (rowM l l.length))::.p (int (k:Nat))::.adr (.l 9) 0::.p (.str t)::oo::oo::oo::oo::.p (.sl 2 (quF l))::.p (int (l.length:Nat))::.p (int (k:Nat))::oF (oD (oC [])))∧L=(.l 9,.box [.p (int ((qF l k).1:Nat)),.p (.str (txF l k))] tQ2) :: outL (if e=true then endR [] now else []) (if e=true then [] else now)) ?_ ?_ ?_
   ·intro he
    subst he
    refine zS ?_
    refine ⟨by kernel_rfl,?_⟩
    refine useI mixed 100 Tryz.func135 qaZ ?_
    simp only [zA,yi,zn,zx,zH,zM,Nat.reduceSub,zd,zZ,yp,qaJ,fwdI,renI,qbG,renL,mapO,bwd,fwd,rk,uk,AV.ren,AO.ren,qbR,qby,zJ,zK,zg,not_true,not_false,false_and,and_false,true_and,and_true,z6,z7,z8,zt,Zbk,zp,ZZ,WW,Ze,reduceCtorEq,zd,ze,za,zf,zb]
    refine useG (fun _=>qkJ now) rfl (.inl rfl) ?_
    refine zS ?_
    refine br ?_ ?_
    ·intro h1
     have h1:now≠[]:=by simpa using h1
     have hE:endR [] now=[now]:=by simp [endR,h1]
     refine zS ?_
     ((with_reducible and_intros)<;>try exact sc_)
     refine qad zE_ ?_
     refine zS ?_
     ((with_reducible and_intros)<;>try exact sc_)
     refine ⟨some 13,?_⟩
     simp only [fwdI,renI,qbG,renL,mapO,bwd,fwd,rk,uk,AV.ren,AO.ren,qbR,qby,zJ,zK,zg,not_true,not_false,false_and,and_false,true_and,and_true,z6,z7,z8,zt,Zbk,zp,ZZ,WW,Ze,reduceCtorEq,zd,ze,za,zf,zb]
     rw [hE]
     simp only [ZZ,WW,Ze,reduceCtorEq,zd,ze,za,zf,zb,zo,zu,or_self]
     refine qbn _ _ ?_ ?_ ⟨rfl,rfl⟩
     ·(simp only [ZZ,WW,Ze,reduceCtorEq,zd,ze,za,zf,zb];try trivial)
     ·simp only [ZZ,WW,Ze,reduceCtorEq,zd,ze,za,zf,zb,qb9,qal,qaj,qak]
    ·intro h1
     have h1:now=[]:=by simpa using h1
     have hE:endR [] now=[]:=by simp [endR,h1]
     refine zS ?_
     refine qad zE_ ?_
     refine zS ?_
     ((with_reducible and_intros)<;>try exact sc_)
     refine ⟨none,?_⟩
     simp only [fwdI,renI,qbG,renL,mapO,bwd,fwd,rk,uk,AV.ren,AO.ren,qbR,qby,zJ,zK,zg,not_true,not_false,false_and,and_false,true_and,and_true,z6,z7,z8,zt,Zbk,zp,ZZ,WW,Ze,reduceCtorEq,zd,ze,za,zf,zb]
     rw [hE]
     simp only [ZZ,WW,Ze,reduceCtorEq,zd,ze,za,zf,zb,zo,zu,or_self]
     refine qbn _ _ ?_ ?_ ⟨rfl,rfl⟩
     ·(simp only [ZZ,WW,Ze,reduceCtorEq,zd,ze,za,zf,zb];try trivial)
     ·simp only [ZZ,WW,Ze,reduceCtorEq,zd,ze,za,zf,zb,qek,qal,qaj,qak]
   ·intro he
    subst he
    simp only [zp,if_false]
    rw [qek]
    refine zS ?_
    refine qbn _ _ ?_ ?_ ⟨rfl,rfl⟩
    ·(simp only [ZZ,WW,Ze,reduceCtorEq,zd,ze,za,zf,zb];try trivial)
    ·simp only [ZZ,WW,Ze,reduceCtorEq,zd,ze,za,zf,zb]
   ·rintro fr L ⟨rfl,rfl⟩
    generalize (if e=true then endR [] now else [])=o' at *
    generalize hnn:(if e=true then [] else now)=n' at *
    have hnl2:n'.length≤now.length:=by rw [← hnn];split<;>simp
    rcases o' with _|⟨y',r'⟩
    ·skip
     simp only [ZZ,WW,Ze,reduceCtorEq,zd,ze,za,zf,zb,qek,qhJ hlt,qf3,zo,zu,or_self]
     ((with_reducible and_intros)<;>try exact sc_)
     refine br ?_ ?_
     ·intro hc
      rw [if_pos hc] at hs2
      refine zS ?_
      ((with_reducible and_intros)<;>try exact sc_)
      rw [show n'++[32]++t=n'++32 :: t from by simp]
      refine use1 (qbK (n'++32 :: t) (by simp only [zq,zn];omega)) rfl (.inl rfl) ?_
      refine zS ?_
      refine qad zE_ ?_
      refine zS ?_
      ((with_reducible and_intros)<;>try exact sc_)
      refine qab (l.length - (k+1)) _ (outL (stR l (k+1)).1 (stR l (k+1)).2.1) (by omega) ?_ ?_ ⟨k+1,by omega,rfl,rfl,rfl⟩
      ·rw [hs3]
       (simp only [ZZ,WW,Ze,reduceCtorEq,zd,ze,za,zf,zb];try trivial)
      ·rw [hs1,hs2]
       simp only [ZZ,WW,Ze,reduceCtorEq,zd,ze,za,zf,zb,qek]
     ·intro hc
      rw [if_neg (by rw [hc];simp)] at hs2
      refine zS ?_
      refine qad zE_ ?_
      refine zS ?_
      ((with_reducible and_intros)<;>try exact sc_)
      refine qab (l.length - (k+1)) _ (outL (stR l (k+1)).1 (stR l (k+1)).2.1) (by omega) ?_ ?_ ⟨k+1,by omega,rfl,rfl,rfl⟩
      ·rw [hs3]
       (simp only [ZZ,WW,Ze,reduceCtorEq,zd,ze,za,zf,zb];try trivial)
      ·rw [hs1,hs2]
       simp only [ZZ,WW,Ze,reduceCtorEq,zd,ze,za,zf,zb,qek]
    ·skip
     simp only [ZZ,WW,Ze,reduceCtorEq,zd,ze,za,zf,zb,qb9,qhJ hlt,qf3,zo,zu,or_self]
     ((with_reducible and_intros)<;>try exact sc_)
     refine br ?_ ?_
     ·intro hc
      rw [if_pos hc] at hs2
      refine zS ?_
      ((with_reducible and_intros)<;>try exact sc_)
      rw [show n'++[32]++t=n'++32 :: t from by simp]
      refine use1 (qbK (n'++32 :: t) (by simp only [zq,zn];omega)) rfl (.inl rfl) ?_
      refine zS ?_
      refine qad zE_ ?_
      refine zS ?_
      ((with_reducible and_intros)<;>try exact sc_)
      refine qab (l.length - (k+1)) _ (outL (stR l (k+1)).1 (stR l (k+1)).2.1) (by omega) ?_ ?_ ⟨k+1,by omega,rfl,rfl,rfl⟩
      ·rw [hs3]
       (simp only [ZZ,WW,Ze,reduceCtorEq,zd,ze,za,zf,zb];try trivial)
      ·rw [hs1,hs2]
       simp only [ZZ,WW,Ze,reduceCtorEq,zd,ze,za,zf,zb,qb9]
     ·intro hc
      rw [if_neg (by rw [hc];simp)] at hs2
      refine zS ?_
      refine qad zE_ ?_
      refine zS ?_
      ((with_reducible and_intros)<;>try exact sc_)
      refine qab (l.length - (k+1)) _ (outL (stR l (k+1)).1 (stR l (k+1)).2.1) (by omega) ?_ ?_ ⟨k+1,by omega,rfl,rfl,rfl⟩
      ·rw [hs3]
       (simp only [ZZ,WW,Ze,reduceCtorEq,zd,ze,za,zf,zb];try trivial)
      ·rw [hs1,hs2]
       simp only [ZZ,WW,Ze,reduceCtorEq,zd,ze,za,zf,zb,qb9]
  ·intro h
   have hge:k=l.length:=by have:=of_decide_eq_false h;omega
   subst hge
   refine zS ?_
   refine ⟨by kernel_rfl,?_⟩
   refine useI mixed 100 Tryz.func135 qaZ ?_
   simp only [zA,yi,zn,zx,zH,zM,Nat.reduceSub,zd,zZ,yp,qaJ,fwdI,renI,qbG,renL,mapO,bwd,fwd,rk,uk,AV.ren,AO.ren,qbR,qby,zJ,zK,zg,not_true,not_false,false_and,and_false,true_and,and_true,z6,z7,z8,zt,Zbk,zp,ZZ,WW,Ze,reduceCtorEq,zd,ze,za,zf,zb]
   refine useG (fun _=>qkJ now) rfl (.inl rfl) ?_
   refine zS ?_
   refine br ?_ ?_
   ·intro h1
    have h1:now≠[]:=by simpa using h1
    have hE:endR [] now=[now]:=by simp [endR,h1]
    refine zS ?_
    ((with_reducible and_intros)<;>try exact sc_)
    refine qad zE_ ?_
    refine zS ?_
    ((with_reducible and_intros)<;>try exact sc_)
    refine ⟨some 13,?_⟩
    simp only [fwdI,renI,qbG,renL,mapO,bwd,fwd,rk,uk,AV.ren,AO.ren,qbR,qby,zJ,zK,zg,not_true,not_false,false_and,and_false,true_and,and_true,z6,z7,z8,zt,Zbk,zp,ZZ,WW,Ze,reduceCtorEq,zd,ze,za,zf,zb]
    rw [ho,hn,hE]
    try rw [qaj]
    try rfl
   ·intro h1
    have h1:now=[]:=by simpa using h1
    have hE:endR [] now=[]:=by simp [endR,h1]
    refine zS ?_
    refine qad zE_ ?_
    refine zS ?_
    ((with_reducible and_intros)<;>try exact sc_)
    refine ⟨none,?_⟩
    simp only [fwdI,renI,qbG,renL,mapO,bwd,fwd,rk,uk,AV.ren,AO.ren,qbR,qby,zJ,zK,zg,not_true,not_false,false_and,and_false,true_and,and_true,z6,z7,z8,zt,Zbk,zp,ZZ,WW,Ze,reduceCtorEq,zd,ze,za,zf,zb]
    rw [ho,hn,hE]
    try rw [qaj]
    try rfl
 ·have hol2:r.length+1≤k:=hol
  simp only [qb9,zo,zu,or_self,qbc,ZZ,WW,Ze,reduceCtorEq,zd,ze,za,zf,zb]
  refine br ?_ ?_
  ·intro h
   have hlt:k < l.length:=by have:=of_decide_eq_true h;omega
   obtain ⟨x,hx⟩:∃ x,l[k]?=some x:=⟨_,zh hlt⟩
   have hxb:=hlb x (zl hx)
   have htl:=qfZ hx
   have hsl:=qlp (txF l k)
   have hll2:(lowF (sqF (txF l k))).length=(sqF (txF l k)).length:=by simp [lowF]
   have hws:=qei hx
   have hwk1:=qdf (k+1) l
   simp only [ZZ,WW,Ze,reduceCtorEq,zd,ze,za,zf,zb,qnR hlt,qir,zo,zu,or_self]
   ((with_reducible and_intros)<;>try exact sc_)
   refine use1 (qbK (txF l k) (by omega)) rfl (.inl rfl) ?_
   refine zS ?_
   refine use1 (qlJ (sqF (txF l k)) (by omega)) rfl (.inl rfl) ?_
   generalize hlow:lowF (sqF (txF l k))=t at *
   simp only [ZZ,WW,Ze,reduceCtorEq,zd,ze,za,zf,zb,qhJ hlt,qf3]
   ((with_reducible and_intros)<;>try exact sc_)
   generalize he:((qF l k).2 || decide (t=[]) || !decide (((qF l k).1:Int)=d))=e at *
   refine qfl (fun fr L=>fr=(oo::oo::oo::.adr (.l 3) 0::.adr (.l 4) 0::oo::.fn fPE [.l 4,.l 3]::.p (.sl 1 (rowM l l.length))::.p (int (k:Nat))::.adr (.l 9) 0::.p (.str t)::oo::oo::oo::oo::.p (.sl 2 (quF l))::.p (int (l.length:Nat))::.p (int (k:Nat))::oF (oD (oC [])))∧L=(.l 9,.box [.p (int ((qF l k).1:Nat)),.p (.str (txF l k))] tQ2) :: outL (if e=true then endR (y :: r) now else (y :: r)) (if e=true then [] else now)) ?_ ?_ ?_
   ·intro he
    subst he
    refine zS ?_
    refine ⟨by kernel_rfl,?_⟩
    refine useI mixed 100 Tryz.func135 qaZ ?_
    simp only [zA,yi,zn,zx,zH,zM,Nat.reduceSub,zd,zZ,yp,qaJ,fwdI,renI,qbG,renL,mapO,bwd,fwd,rk,uk,AV.ren,AO.ren,qbR,qby,zJ,zK,zg,not_true,not_false,false_and,and_false,true_and,and_true,z6,z7,z8,zt,Zbk,zp,ZZ,WW,Ze,reduceCtorEq,zd,ze,za,zf,zb]
    refine useG (fun _=>qbk (y :: r) now (by omega)) rfl (.inr rfl) ?_
    refine zS ?_
    refine br ?_ ?_
    ·intro h1
     have h1:now≠[]∧now∉y :: r:=by simpa using h1
     have hE:endR (y :: r) now=y :: (r++[now]):=by simp only [endR,if_pos h1,zH]
     simp only [ZZ,WW,Ze,reduceCtorEq,zd,ze,za,zf,zb,qac]
     ((with_reducible and_intros)<;>try exact sc_)
     refine qad zE_ ?_
     refine zS ?_
     ((with_reducible and_intros)<;>try exact sc_)
     refine ⟨some 100,?_⟩
     simp only [fwdI,renI,qbG,renL,mapO,bwd,fwd,rk,uk,AV.ren,AO.ren,qbR,qby,zJ,zK,zg,not_true,not_false,false_and,and_false,true_and,and_true,z6,z7,z8,zt,Zbk,zp,ZZ,WW,Ze,reduceCtorEq,zd,ze,za,zf,zb]
     rw [hE]
     simp only [ZZ,WW,Ze,reduceCtorEq,zd,ze,za,zf,zb,zo,zu,or_self]
     refine qbn _ _ ?_ ?_ ⟨rfl,rfl⟩
     ·(simp only [ZZ,WW,Ze,reduceCtorEq,zd,ze,za,zf,zb];try trivial)
     ·simp only [ZZ,WW,Ze,reduceCtorEq,zd,ze,za,zf,zb,qb9,qal,qaj,qak]
    ·intro h1
     have h1:¬ (now≠[]∧now∉y :: r):=by
      rintro ⟨h2,h3⟩
      rw [decide_eq_false h2,decide_eq_false h3] at h1
      cases h1
     have hE:endR (y :: r) now=y :: r:=by rw [endR,if_neg h1]
     refine zS ?_
     refine qad zE_ ?_
     refine zS ?_
     ((with_reducible and_intros)<;>try exact sc_)
     refine ⟨some 100,?_⟩
     simp only [fwdI,renI,qbG,renL,mapO,bwd,fwd,rk,uk,AV.ren,AO.ren,qbR,qby,zJ,zK,zg,not_true,not_false,false_and,and_false,true_and,and_true,z6,z7,z8,zt,Zbk,zp,ZZ,WW,Ze,reduceCtorEq,zd,ze,za,zf,zb]
     rw [hE]
     simp only [ZZ,WW,Ze,reduceCtorEq,zd,ze,za,zf,zb,zo,zu,or_self]
     refine qbn _ _ ?_ ?_ ⟨rfl,rfl⟩
     ·(simp only [ZZ,WW,Ze,reduceCtorEq,zd,ze,za,zf,zb];try trivial)
     ·simp only [ZZ,WW,Ze,reduceCtorEq,zd,ze,za,zf,zb,qb9,qal,qaj,qak]
   ·intro he
    subst he
    simp only [zp,if_false]
    rw [qb9]
    refine zS ?_
    refine qbn _ _ ?_ ?_ ⟨rfl,rfl⟩
    ·(simp only [ZZ,WW,Ze,reduceCtorEq,zd,ze,za,zf,zb];try trivial)
    ·simp only [ZZ,WW,Ze,reduceCtorEq,zd,ze,za,zf,zb]
   ·rintro fr L ⟨rfl,rfl⟩
    generalize (if e=true then endR (y :: r) now else (y :: r))=o' at *
    generalize hnn:(if e=true then [] else now)=n' at *
    have hnl2:n'.length≤now.length:=by rw [← hnn];split<;>simp
    rcases o' with _|⟨y',r'⟩
    ·skip
     simp only [ZZ,WW,Ze,reduceCtorEq,zd,ze,za,zf,zb,qek,qhJ hlt,qf3,zo,zu,or_self]
     ((with_reducible and_intros)<;>try exact sc_)
     refine br ?_ ?_
     ·intro hc
      rw [if_pos hc] at hs2
      refine zS ?_
      ((with_reducible and_intros)<;>try exact sc_)
      rw [show n'++[32]++t=n'++32 :: t from by simp]
      refine use1 (qbK (n'++32 :: t) (by simp only [zq,zn];omega)) rfl (.inl rfl) ?_
      refine zS ?_
      refine qad zE_ ?_
      refine zS ?_
      ((with_reducible and_intros)<;>try exact sc_)
      refine qab (l.length - (k+1)) _ (outL (stR l (k+1)).1 (stR l (k+1)).2.1) (by omega) ?_ ?_ ⟨k+1,by omega,rfl,rfl,rfl⟩
      ·rw [hs3]
       (simp only [ZZ,WW,Ze,reduceCtorEq,zd,ze,za,zf,zb];try trivial)
      ·rw [hs1,hs2]
       simp only [ZZ,WW,Ze,reduceCtorEq,zd,ze,za,zf,zb,qek]
     ·intro hc
      rw [if_neg (by rw [hc];simp)] at hs2
      refine zS ?_
      refine qad zE_ ?_
      refine zS ?_
      ((with_reducible and_intros)<;>try exact sc_)
      refine qab (l.length - (k+1)) _ (outL (stR l (k+1)).1 (stR l (k+1)).2.1) (by omega) ?_ ?_ ⟨k+1,by omega,rfl,rfl,rfl⟩
      ·rw [hs3]
       (simp only [ZZ,WW,Ze,reduceCtorEq,zd,ze,za,zf,zb];try trivial)
      ·rw [hs1,hs2]
       simp only [ZZ,WW,Ze,reduceCtorEq,zd,ze,za,zf,zb,qek]
    ·skip
     simp only [ZZ,WW,Ze,reduceCtorEq,zd,ze,za,zf,zb,qb9,qhJ hlt,qf3,zo,zu,or_self]
     ((with_reducible and_intros)<;>try exact sc_)
     refine br ?_ ?_
     ·intro hc
      rw [if_pos hc] at hs2
      refine zS ?_
      ((with_reducible and_intros)<;>try exact sc_)
      rw [show n'++[32]++t=n'++32 :: t from by simp]
      refine use1 (qbK (n'++32 :: t) (by simp only [zq,zn];omega)) rfl (.inl rfl) ?_
      refine zS ?_
      refine qad zE_ ?_
      refine zS ?_
      ((with_reducible and_intros)<;>try exact sc_)
      refine qab (l.length - (k+1)) _ (outL (stR l (k+1)).1 (stR l (k+1)).2.1) (by omega) ?_ ?_ ⟨k+1,by omega,rfl,rfl,rfl⟩
      ·rw [hs3]
       (simp only [ZZ,WW,Ze,reduceCtorEq,zd,ze,za,zf,zb];try trivial)
      ·rw [hs1,hs2]
       simp only [ZZ,WW,Ze,reduceCtorEq,zd,ze,za,zf,zb,qb9]
     ·intro hc
      rw [if_neg (by rw [hc];simp)] at hs2
      refine zS ?_
      refine qad zE_ ?_
      refine zS ?_
      ((with_reducible and_intros)<;>try exact sc_)
      refine qab (l.length - (k+1)) _ (outL (stR l (k+1)).1 (stR l (k+1)).2.1) (by omega) ?_ ?_ ⟨k+1,by omega,rfl,rfl,rfl⟩
      ·rw [hs3]
       (simp only [ZZ,WW,Ze,reduceCtorEq,zd,ze,za,zf,zb];try trivial)
      ·rw [hs1,hs2]
       simp only [ZZ,WW,Ze,reduceCtorEq,zd,ze,za,zf,zb,qb9]
  ·intro h
   have hge:k=l.length:=by have:=of_decide_eq_false h;omega
   subst hge
   refine zS ?_
   refine ⟨by kernel_rfl,?_⟩
   refine useI mixed 100 Tryz.func135 qaZ ?_
   simp only [zA,yi,zn,zx,zH,zM,Nat.reduceSub,zd,zZ,yp,qaJ,fwdI,renI,qbG,renL,mapO,bwd,fwd,rk,uk,AV.ren,AO.ren,qbR,qby,zJ,zK,zg,not_true,not_false,false_and,and_false,true_and,and_true,z6,z7,z8,zt,Zbk,zp,ZZ,WW,Ze,reduceCtorEq,zd,ze,za,zf,zb]
   refine useG (fun _=>qbk (y :: r) now (by omega)) rfl (.inr rfl) ?_
   refine zS ?_
   refine br ?_ ?_
   ·intro h1
    have h1:now≠[]∧now∉y :: r:=by simpa using h1
    have hE:endR (y :: r) now=y :: (r++[now]):=by simp only [endR,if_pos h1,zH]
    simp only [ZZ,WW,Ze,reduceCtorEq,zd,ze,za,zf,zb,qac]
    ((with_reducible and_intros)<;>try exact sc_)
    refine qad zE_ ?_
    refine zS ?_
    ((with_reducible and_intros)<;>try exact sc_)
    refine ⟨some 100,?_⟩
    simp only [fwdI,renI,qbG,renL,mapO,bwd,fwd,rk,uk,AV.ren,AO.ren,qbR,qby,zJ,zK,zg,not_true,not_false,false_and,and_false,true_and,and_true,z6,z7,z8,zt,Zbk,zp,ZZ,WW,Ze,reduceCtorEq,zd,ze,za,zf,zb]
    rw [ho,hn,hE]
    try rw [qaj]
    try rfl
   ·intro h1
    have h1:¬ (now≠[]∧now∉y :: r):=by
     rintro ⟨h2,h3⟩
     rw [decide_eq_false h2,decide_eq_false h3] at h1
     cases h1
    have hE:endR (y :: r) now=y :: r:=by rw [endR,if_neg h1]
    refine zS ?_
    refine qad zE_ ?_
    refine zS ?_
    ((with_reducible and_intros)<;>try exact sc_)
    refine ⟨some 100,?_⟩
    simp only [fwdI,renI,qbG,renL,mapO,bwd,fwd,rk,uk,AV.ren,AO.ren,qbR,qby,zJ,zK,zg,not_true,not_false,false_and,and_false,true_and,and_true,z6,z7,z8,zt,Zbk,zp,ZZ,WW,Ze,reduceCtorEq,zd,ze,za,zf,zb]
    rw [ho,hn,hE]
    try rw [qaj]
    try rfl
def endS (now:List (List UInt8)):List UInt8:=lowF (sqF (qaV now))
def stP (l:List (List UInt8)):Nat→List (List UInt8)×List (List UInt8)×Int
 |0=>([],[],0)
 |k+1=>
  let st:=stP l k
  let e:=qcY (txF l k) || (qF l k).2 || !decide (((qF l k).1:Int)=st.2.2)
  let o:=if e=true then endR st.1 (endS st.2.1) else st.1
  let n:=if e=true then [] else st.2.1
  (o,if (!(qF l k).2)=true then n++[txF l k] else n,(qF l k).1)
theorem qhn (n:List (List UInt8)):endS n=lowF (qaV ((n.map bits).flatten)):=by
 rw [endS,sqF,ql6]
theorem qwa (n:List (List UInt8)):isW ((n.map bits).flatten):=by
 intro w hw
 obtain ⟨b,hb,hw⟩:=List.mem_flatten.1 hw
 obtain ⟨x,_,rfl⟩:=List.mem_map.1 hb
 exact qox x w hw
theorem qzz {B C:List (List UInt8)} (hB:isW B) (hC:isW C):sqF (lowF (qaV B)++32 :: lowF (qaV C))=lowF (qaV (B++C)):=by
 rw [sqF,qoy,qr2,qr2,qkp hB,qkp hC,← List.map_append,← qrD]
theorem qwe (n:List (List UInt8)) (x:List UInt8) (h:lowF (sqF x)≠[]):endS (n++[x])=sqF (endS n++32 :: lowF (sqF x)):=by
 rw [qhn n,show lowF (sqF x)=lowF (qaV (bits x)) from rfl,qzz (qwa n) (qox x),qhn]
 simp
theorem qug (n:List (List UInt8)) (x:List UInt8) (h:lowF (sqF x)=[]):endS (n++[x])=endS n:=by
 have h2:bits x=[]:=(qs9 x).1 ((qrF _).1 h)
 rw [qhn,qhn]
 simp [h2]
theorem qgc:endS []=[]:=by
 rw [qhn]
 rfl
theorem qux (x:List UInt8):qcY x=decide (lowF (sqF x)=[]):=by
 rw [← qk5,Bool.eq_iff_iff,decide_eq_true_iff,decide_eq_true_iff,qrF]
theorem qwf (o:List (List UInt8)):endR o []=o:=by simp [endR]
theorem qx6 (l:List (List UInt8)):∀ k,(stP l k).1=(stR l k).1∧endS (stP l k).2.1=(stR l k).2.1∧((stP l k).2.2=(stR l k).2.2∨((stP l k).1=[]∧(stP l k).2.1=[])):=by
 intro k
 induction k with
 |zero=>exact ⟨rfl,qgc,.inr ⟨rfl,rfl⟩⟩
 |succ k ih=>
  obtain ⟨h1,h2,h3⟩:=ih
  rw [stP,stR]
  simp only
  rw [qux,← h1,← h2]
  generalize hP:(stP l k).1=o at *
  generalize hN:(stP l k).2.1=n at *
  generalize (stP l k).2.2=d at *
  generalize (stR l k).2.2=d' at *
  have hx:∀ (e e':Bool),(e=e'∨(o=[]∧n=[]))→((if e=true then endR o (endS n) else o)=(if e'=true then endR o (endS n) else o))∧endS (if e=true then [] else n)=(if e'=true then [] else endS n):=by
   intro e e' he
   rcases he with rfl|⟨rfl,rfl⟩
   ·cases e<;>simp [qgc]
   ·cases e<;>cases e'<;>simp [qgc,qwf]
  have hee:(decide (lowF (sqF (txF l k))=[]) || (qF l k).2 || !decide (((qF l k).1:Int)=d))=((qF l k).2 || decide (lowF (sqF (txF l k))=[]) || !decide (((qF l k).1:Int)=d'))∨(o=[]∧n=[]):=by
   rcases h3 with h3|h3
   ·left;rw [h3,Bool.or_comm (decide _) (qF l k).2]
   ·exact .inr h3
  obtain ⟨q1,q2⟩:=hx _ _ hee
  generalize (decide (lowF (sqF (txF l k))=[]) || (qF l k).2 || !decide (((qF l k).1:Int)=d))=e at *
  generalize ((qF l k).2 || decide (lowF (sqF (txF l k))=[]) || !decide (((qF l k).1:Int)=d'))=e' at *
  refine ⟨q1,?_,.inl (by trivial)⟩
  generalize (if e=true then [] else n)=n1 at *
  rw [← q2]
  cases hm:(qF l k).2 with
  |true=>simp
  |false=>
   by_cases ht:lowF (sqF (txF l k))=[]
   ·simp [ht,qug _ _ ht]
   ·simp [ht,qwe _ _ ht]
theorem qvl (l:List (List UInt8)) (k:Nat):endR (stP l k).1 (endS (stP l k).2.1)=endR (stR l k).1 (stR l k).2.1:=by
 obtain ⟨h1,h2,_⟩:=qx6 l k
 rw [h1,h2]
end Go.Proofs.YtekhobchfhhofaaGreatDoor
