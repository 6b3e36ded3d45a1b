import Derived.Test.YtjgdjinhkgjpeabGreatDoorZ11
set_option linter.unusedVariables false
set_option linter.unusedSimpArgs false
set_option linter.defProp false
namespace Go.Proofs.YtjgdjinhkgjpeabGreatDoor
open Option.some renaming injEq→zg
open Nat renaming le_refl→zL,reduceAdd→zd,reduceEqDiff→zb,reduceLT→zf,reduceLeDiff→za,reduceMul→ze
open List renaming cons_append→zT,getD→zC,getElem?_eq_getElem→zk,length_append→zm,length_cons→zl,length_nil→zr,map_append→zF,map_cons→zx,mem_cons→zG,mem_of_getElem?→zn,nil_append→zU,not_mem_nil→zW,replicate_succ→ya,take_length→z7
open Bool renaming false_eq_true→zK
open Option renaming isSome_none→zZ,isSome_some→zY,map_some→zA
open Go.RowKit
def qdh:IC:=(.seq (sR [qM 22 3,qN 23 22,qB 24 .gtr 23 (cI 0),qM 25 24,⟨some 26,.mov (.t 3),(some (25,true))⟩,⟨some 27,.mov (.t 3),(some (25,true))⟩,⟨some 28,.len (.t 27),(some (25,true))⟩,⟨some 29,.bin .sub (.t 28) (cI 1),(some (25,true))⟩,⟨some 30,.ixa 1 (.t 26) (.t 29),(some (25,true))⟩,⟨some 31,.ld 1 false (.t 30),(some (25,true))⟩,⟨some 32,.call 152 [.t 31],(some (25,true))⟩,⟨some 33,.bin .eql (.t 32) (.c (.str [])),(some (25,true))⟩,qO 34 (.pick (.t 25) (.t 33) (.c (.bool false)))] (.cond (.t 34) .skip (.exit 2))) (.block 3 (.reg [qM 35 3,qM 36 3,qN 37 36,qB 38 .sub 37 (cI 1),qO 39 (.trn 1 (.t 35) (.t 38)),qM 3 39])))
def qdi:IC:=(sR [qT 10 .lss 9 8] (.seq (jE 10) (.seq (.block 1 (sR [qX 11 2 7 9,qO 12 (.ld 2 true (.t 11)),qO 5 (.alc 186 [.int .i64 0,.str []]),qS 2 5 12] (sR [wF 13 0 5,qL 14 13,qB 15 .eql 14 (cI 0)] (jW 15 (.reg [qM 16 3,wF 17 1 5,qL 18 17,qO 19 (.bsl 1 [.t 18]),qO 20 (.app 9 1 16 (.t 16) (.t 19)),qM 3 20]))))) (.cut (.reg [qB 21 .add 9 (cI 1),qM 9 21])))))
abbrev qhU:IC:=(sR [qO 2 (.mov (.c (.str [])))] (sR [qO 3 (.nilr 9 1)] (.seq (sR [qM 6 0,jC 7 150 [.t 6],qN 8 7,jI 9 0] (.block 0 (.loop qdi))) (.seq (.block 2 (.loop qdh)) (.seq (sR [qM 40 3,qN 41 40,qB 42 .eql 41 (cI 0)] (jW 42 (sR [qO 2 (.mov (.c (.str [])))] .ret))) (sR [qM 43 3,jC 44 33 [.t 43,.c (.str [10])],qB 45 .add 44 (.c (.str [10])),qM 2 45] .ret))))))
theorem qh6:chkF Tryz.prog Tryz.f96 qhU [.t 2] 46=true:=by kernel_rfl
theorem qg9 (l:List (List UInt8)):(quF l).length=l.length:=qmz _ _
theorem qlo {l:List (List UInt8)} {k:Nat} (h:k < l.length):(quF l).getD k []=[int (qF l k).1,.str (txF l k)]:=qkp h
theorem qoR (s:List UInt8) (hs:s.length≤25000):PCall Tryz.prog E0 150 [.str s] (·=.sl 2 (quF (qal s))):=qri (qoS s hs)
theorem qlE (c:UInt8):∀ (l:List (List UInt8)),(Lib.join l [c]).length≤wgt l - 1
 |[]=>by simp [Lib.join_nil]
 |[x]=>by simp [Lib.join_one,wgt]
 |x :: y :: r=>by
  have:=qlE c (y :: r)
  rw [Lib.join_cons] at this ⊢
  simp only [wgt,Lib.joinTail,zx,List.flatten_cons,zm,zl,zr] at this ⊢
  omega
theorem quD (m:Nat):∀ (l:List (List UInt8)),(∀ x∈l,x.length≤m)→wgt l≤l.length * (m+1)
 |[],_=>by simp [wgt]
 |x :: r,h=>by
  have h1:=quD m r (fun y hy=>h y (by simp [hy]))
  have h2:=h x (by simp)
  simp only [wgt,zl,Nat.add_mul,Nat.one_mul]
  omega
def ownF (l:List (List UInt8)) (k:Nat):List (List UInt8):=((List.range k).filter fun j=>decide ((qF l j).1=0)).map (txF l)
theorem qmX (l:List (List UInt8)) (k:Nat):ownF l (k+1)=if (qF l k).1=0 then ownF l k++[txF l k] else ownF l k:=by
 unfold ownF
 rw [List.range_succ,List.filter_append,zF]
 by_cases h:(qF l k).1=0<;>simp [h]
theorem qpg (l:List (List UInt8)) (k:Nat):(ownF l k).length≤k:=by
 unfold ownF
 rw [List.length_map]
 exact Nat.le_trans (List.length_filter_le _ _) (by simp)
theorem qvV {l:List (List UInt8)} {m:Nat} (hb:∀ x∈l,x.length≤m) (k:Nat):∀ x∈ownF l k,x.length≤m:=by
 intro x hx
 unfold ownF at hx
 obtain ⟨j,_,rfl⟩:=List.mem_map.1 hx
 have:=qq3 hb j
 omega
def endB (ws:List (List UInt8)):Nat→Nat
 |0=>0
 |m+1=>if qiO (ws.getD m [])=true then endB ws m else m+1
def ownS (ws:List (List UInt8)):List UInt8:=if endB ws ws.length=0 then [] else Lib.join (ws.take (endB ws ws.length)) [10]++[10]
theorem qpZ (ws:List (List UInt8)) (m n:Nat) (h:n≤m):(strE (ws.take m)).take n=strE (ws.take n):=by
 rw [strE,strE,← List.map_take,List.take_take,Nat.min_eq_left h]
theorem qrF (ws:List (List UInt8)) (m:Nat) (hm:ws.length≤25001) (hb:∀ x∈ws,x.length≤25000):(Lib.join (ws.take m) [10]).length≤900000000:=by
 have h1:=qlE 10 (ws.take m)
 have h2:=quD 25000 (ws.take m) (fun x hx=>hb x (List.mem_of_mem_take hx))
 have h3:(ws.take m).length≤25001:=by simp;omega
 have h4:(ws.take m).length * (25000+1)≤25001 * 25001:=Nat.mul_le_mul h3 (zL _)
 omega
theorem int0 (n:Nat):decide ((n:Int)=0)=decide (n=0):=by simp
set_option maxHeartbeats 4000000 in
theorem quq (s:List UInt8) (hs:s.length≤25000):PCall Tryz.prog E0 96 [.str s] (·=.str (ownS (ownF (qal s) (qal s).length))):=by
 refine qah mixed Tryz.func96 qh6 ?_
 refine zV ?_
 refine use1 (qoR s hs) rfl (.inl rfl) ?_
 obtain ⟨hll,hlb⟩:=qei s
 generalize qal s=l at *
 simp only [ZZ,WW,Ze,reduceCtorEq,zd,ze,za,zf,zb,qg9]
 rw [show ([]:List (List PV))=strE (ownF l 0) from rfl]
 refine qad (fun n fr L=>∃ (k:Nat),k≤l.length∧n=l.length - k∧fr=(oo::oo::oo::.row (.l 3)::oo::oo::oo::.p (.sl 2 (quF l))::.p (int (l.length:Nat))::.p (int (k:Nat))::oF (oC []))∧L=[(.l 3,.row (strE (ownF l k)) tStr 1 true)]) (l.length) (oo::oo::oo::.row (.l 3)::oo::oo::oo::.p (.sl 2 (quF l))::.p (int (l.length:Nat))::.p (int (0:Nat))::oF (oC [])) [(.l 3,.row (strE (ownF l 0)) tStr 1 true)] (by simp only [ZZ,WW,Ze,reduceCtorEq,zd,ze,za,zf,zb,qac];try trivial) zF_ ⟨0,by omega,by omega,rfl,rfl⟩ ?_
 rintro n fr L ⟨k,hk,rfl,rfl,rfl⟩
 simp only [qdi,ZZ,WW,Ze,reduceCtorEq,zd,ze,za,zf,zb]
 refine br ?_ ?_
 ·intro h
  have hlt:k < l.length:=by have:=of_decide_eq_true h;omega
  have hol:=qpg l k
  have hos:=qmX l k
  simp only [ZZ,WW,Ze,reduceCtorEq,zd,ze,za,zf,zb,qlo hlt,qg9]
  ((with_reducible and_intros)<;>try exact sc_)
  rw [int0]
  refine br ?_ ?_
  ·intro h0
   have h0:(qF l k).1=0:=of_decide_eq_true h0
   rw [if_pos h0] at hos
   simp only [ZZ,WW,Ze,reduceCtorEq,zd,ze,za,zf,zb,qac]
   ((with_reducible and_intros)<;>try exact sc_)
   refine qae zE_ ?_
   refine zS ?_
   ((with_reducible and_intros)<;>try exact sc_)
   rw [qeK,← qdV,← hos]
   refine qab (l.length - (k+1)) (oo::oo::oo::.row (.l 3)::oo::oo::oo::.p (.sl 2 (quF l))::.p (int (l.length:Nat))::.p (int ((k+1):Nat))::oF (oC [])) [(.l 3,.row (strE (ownF l (k+1))) tStr 1 true)] (by omega) zF_ zF_ ⟨k+1,by omega,rfl,rfl,rfl⟩
  ·intro h0
   have h0:¬ (qF l k).1=0:=of_decide_eq_false h0
   rw [if_neg h0] at hos
   refine zS ?_
   refine qae zE_ ?_
   refine zS ?_
   ((with_reducible and_intros)<;>try exact sc_)
   rw [← hos]
   refine qab (l.length - (k+1)) (oo::oo::oo::.row (.l 3)::oo::oo::oo::.p (.sl 2 (quF l))::.p (int (l.length:Nat))::.p (int ((k+1):Nat))::oF (oC [])) [(.l 3,.row (strE (ownF l (k+1))) tStr 1 true)] (by omega) zF_ zF_ ⟨k+1,by omega,rfl,rfl,rfl⟩
 ·intro h
  have hge:k=l.length:=by have:=of_decide_eq_false h;omega
  subst hge
  have hol:=qpg l l.length
  have hob:=qvV (m:=25000) (fun x hx=>by have:=hlb x hx;omega) l.length
  generalize ownF l l.length=ws at *
  refine zS ?_
  rw [show strE ws=strE (ws.take ws.length) from by rw [z7]]
  refine qad (fun n fr L=>∃ (m:Nat),m=n∧(m≤ws.length)∧(endB ws ws.length=endB ws m)∧fr=(oo::oo::oo::.row (.l 3)::oF (oD (oB [])))∧L=[(.l 3,.row (strE (ws.take m)) tStr 1 true)]) ((ws.length)) (oo::oo::oo::.row (.l 3)::oF (oD (oB []))) [(.l 3,.row (strE (ws.take (ws.length))) tStr 1 true)] zF_ zF_ ⟨ws.length,rfl,by omega,rfl,rfl,rfl⟩ ?_
  rintro n fr L ⟨m,rfl,hmw,hme,rfl,rfl⟩
  simp only [qdh,ZZ,WW,Ze,reduceCtorEq,zd,ze,za,zf,zb]
  have htl:(strE (ws.take m)).length=m:=by rw [qac];simp;omega
  rcases m with _|m
  ·have hd:decide ((0:Int) < ((0:Nat):Int))=false:=by decide
   have hse:strE ([]:List (List UInt8))=[]:=rfl
   have hgz:∀ k,([]:List (List PV)).getD k []=[]:=fun k=>by simp
   have hfin:ownS ws=[]:=by rw [ownS,hme];rfl
   simp only [ZZ,WW,Ze,reduceCtorEq,zd,ze,za,zf,zb,hse,hd,hgz,false_implies,Bool.false_and,qfh]
   refine quY (fun hc=>by cases hc) (fun _=>?_)
   simp only [ZZ,WW,Ze,reduceCtorEq,zd,ze,za,zf,zb,hse,hd,hgz,false_implies,Bool.false_and,qfh]
   refine br (fun _=>?_) (fun hc=>by simp at hc)
   refine zS ?_
   rw [hfin]
  ·have hd:decide ((0:Int) < ((m+1:Nat):Int))=true:=decide_eq_true (by omega)
   have hn:(((m+1:Nat):Int) - 1).toNat=m:=by omega
   obtain ⟨x,hx⟩:∃ x,ws[m]?=some x:=⟨_,zk (by omega)⟩
   have hg:(strE (ws.take (m+1))).getD m []=[.str x]:=qaU (by rw [List.getElem?_take_of_lt (by omega)];exact hx)
   have hxb:=hob x (zn hx)
   have hxd:ws.getD m []=x:=by simp [zC,hx]
   simp only [ZZ,WW,Ze,reduceCtorEq,zd,ze,za,zf,zb,htl,hd,hn,hg]
   ((with_reducible and_intros)<;>try exact sc_)
   refine useG (fun _=>qbl x (by omega)) rfl (.inl rfl) ?_
   simp only [ZZ,WW,Ze,reduceCtorEq,zd,ze,za,zf,zb,qfh]
   rw [qk5]
   refine br ?_ ?_
   ·intro hb
    have hst:=qpZ ws (m+1) m (by omega)
    have hep:endB ws (m+1)=endB ws m:=by rw [endB,hxd,if_pos hb]
    simp only [ZZ,WW,Ze,reduceCtorEq,zd,ze,za,zf,zb,htl,hd,hn,hg,hst,qfh]
    ((with_reducible and_intros)<;>try exact sc_)
    refine qab ((m)) (oo::oo::oo::.row (.l 3)::oF (oD (oB []))) [(.l 3,.row (strE (ws.take (m))) tStr 1 true)] (by omega) zF_ zF_ ⟨m,rfl,by omega,by rw [hme,hep],rfl,rfl⟩
   ·intro hb
    have hep:endB ws (m+1)=m+1:=by rw [endB,hxd,if_neg (by rw [hb];simp)]
    have hfin:ownS ws=Lib.join (ws.take (m+1)) [10]++[10]:=by rw [ownS,hme,hep,if_neg (by omega)]
    have hz:decide (((m+1:Nat):Int)=0)=false:=decide_eq_false (by omega)
    simp only [ZZ,WW,Ze,reduceCtorEq,zd,ze,za,zf,zb,htl,hz,qfh]
    have hjb:=qrF ws (m+1) (by omega) hob
    refine use1 (qef (ws.take (m+1)) [10] (by simp;omega) (by omega)) rfl (.inr rfl) ?_
    simp only [ZZ,WW,Ze,reduceCtorEq,zd,ze,za,zf,zb,hfin]
    omega
def qbP:IC:=(.seq (sR [qM 23 8,jC 24 63 [.t 23,.c (.str [62])]] (.cond (.t 24) .skip (.exit 2))) (.block 3 (sR [qM 25 7,qB 26 .add 25 (cI 1),qM 7 26] (.reg [qM 27 8,qO 28 (.ssl (.t 27) (some (cI 1)) none),jC 29 82 [.t 28,.c (.str [32])],qM 8 29]))))
def qbQ:IC:=(sR [qT 15 .lss 14 13] (.seq (jE 15) (.seq (.block 1 (sR [qM 16 14,qX 17 2 12 14,qO 18 (.ld 2 true (.t 17)),qO 6 (.alc 186 [.int .i64 0,.str []]),qM 5 16,qS 2 6 18] (sR [jI 7 0] (sR [qM 19 3,qM 20 5,qX 21 1 19 20,qL 22 21,qM 8 22] (.seq (.block 2 (.loop qbP)) (.reg [qM 30 4,qM 31 7,wF 32 0 6,qL 33 32,qT 34 .neq 31 33,qO 35 (.bsl 1 [.t 34]),qO 36 (.app 4 1 1 (.t 30) (.t 35)),qM 4 36])))))) (.reg [qB 37 .add 14 (cI 1),qM 14 37]))))
abbrev qeR:IC:=(sR [qO 2 (.mov (.c (.nl 1)))] (sR [qM 9 0,jC 10 184 [.t 9],qM 3 10] (sR [qO 4 (.nilr 4 1)] (.seq (sR [qM 11 0,jC 12 150 [.t 11],qN 13 12,jI 14 0] (.block 0 (.loop qbQ))) (sR [qM 38 4,qM 2 38] .ret)))))
theorem qeY:chkF Tryz.prog Tryz.f149 qeR [.t 2] 39=true:=by kernel_rfl
theorem qyi (l:List (List UInt8)) (i d:Nat):∀ (n k:Nat),l.length - k≤n→atF l i k=some d→sgF l i < d:=by
 intro n
 induction n with
 |zero=>
  intro k hk h
  rw [atF] at h
  split at h
  ·omega
  ·cases h
 |succ n ih=>
  intro k hk h
  rw [atF] at h
  split at h
  ·split at h
   ·injection h with h;omega
   ·split at h
    ·exact ih (k+1) (by omega) h
    ·cases h
  ·cases h
theorem qvR (l:List (List UInt8)) (j:Nat):(!decide (((sgF l j:Nat):Int)=((qF l j).1:Nat)))=(qF l j).2:=by
 unfold qF
 split
 ·cases h:atF l j (j+1) with
  |none=>simp
  |some d=>
   have:=qyi l j d _ _ (zL _) h
   simp
   omega
 ·simp
def rowM (l:List (List UInt8)) (k:Nat):List (List PV):=tb k fun j=>[.bool (qF l j).2]
theorem qeN (l:List (List UInt8)) (k:Nat):(rowM l k).length=k:=qmz _ _
theorem qgu {l:List (List UInt8)} {n k:Nat} (h:k < n):(rowM l n).getD k []=[.bool (qF l k).2]:=qkp h
theorem qs4 (l:List (List UInt8)) (k:Nat):rowM l k++[[.bool (qF l k).2]]=rowM l (k+1):=by
 unfold rowM tb
 rw [List.range_succ,zF]
 rfl
abbrev qpY:Nat:=4
set_option maxHeartbeats 4000000 in
theorem ql7 (s:List UInt8) (hs:s.length≤25000):PCall Tryz.prog E0 149 [.str s] (·=.sl 1 (rowM (qal s) (qal s).length)):=by
 refine qah mixed Tryz.func149 qeY ?_
 refine zV ?_
 refine use1 (qkC s (by omega)) rfl (.inl rfl) ?_
 rw [qbU]
 refine zS ?_
 refine use1 (qoR s hs) rfl (.inl rfl) ?_
 obtain ⟨hll,hlb⟩:=qei s
 generalize qal s=l at *
 simp only [ZZ,WW,Ze,reduceCtorEq,zd,ze,za,zf,zb,qg9]
 rw [show ([]:List (List PV))=rowM l 0 from rfl]
 refine qad (fun n fr L=>∃ (k:Nat),k≤l.length∧n=l.length - k∧fr=(oo::oo::oo::.p (.sl 1 (strE l))::.row (.l 4)::oC (oB (oo::(.p (.sl 2 (quF l))::.p (int (l.length:Nat))::.p (int (k:Nat))::oE (oD [])))))∧L=[(.l 4,.row (rowM l k) qpY 1 true)]) (l.length) (oo::oo::oo::.p (.sl 1 (strE l))::.row (.l 4)::oC (oB (oo::(.p (.sl 2 (quF l))::.p (int (l.length:Nat))::.p (int (0:Nat))::oE (oD []))))) [(.l 4,.row (rowM l 0) qpY 1 true)] (by simp only [ZZ,WW,Ze,reduceCtorEq,zd,ze,za,zf,zb,qac];try trivial) zF_ ⟨0,by omega,by omega,rfl,rfl⟩ ?_
 rintro n fr L ⟨k,hk,rfl,rfl,rfl⟩
 simp only [qbQ,ZZ,WW,Ze,reduceCtorEq,zd,ze,za,zf,zb]
 refine br ?_ ?_
 ·intro h
  have hlt:k < l.length:=by have:=of_decide_eq_true h;omega
  obtain ⟨x,hx⟩:∃ x,l[k]?=some x:=⟨_,zk hlt⟩
  have hg:=qaU hx
  have hxb:=hlb x (zn hx)
  simp only [ZZ,WW,Ze,reduceCtorEq,zd,ze,za,zf,zb,hg,qac,qlo hlt,qg9]
  ((with_reducible and_intros)<;>try exact sc_)
  refine qad (fun n fr L=>∃ (d:Nat) (u:List UInt8),u.length=n∧(qeJ x=(d+(qeJ u).1,(qeJ u).2))∧(d+u.length≤x.length)∧fr=(oo::oo::oo::.p (.sl 1 (strE l))::.row (.l 4)::oo::.adr (.l 6) 0::.p (int (d:Nat))::.p (.str u)::oo::oo::oo::.p (.sl 2 (quF l))::.p (int (l.length:Nat))::.p (int (k:Nat))::oE (oD []))∧L=[(.l 4,.row (rowM l k) qpY 1 true),(.l 6,.box [.p (int ((qF l k).1:Nat)),.p (.str (txF l k))] tQ2)]) (x.length) (oo::oo::oo::.p (.sl 1 (strE l))::.row (.l 4)::oo::.adr (.l 6) 0::.p (int (0:Nat))::.p (.str x)::oo::oo::oo::.p (.sl 2 (quF l))::.p (int (l.length:Nat))::.p (int (k:Nat))::oE (oD [])) [(.l 4,.row (rowM l k) qpY 1 true),(.l 6,.box [.p (int ((qF l k).1:Nat)),.p (.str (txF l k))] tQ2)] zF_ zF_ ⟨0,x,rfl,by simp,by omega,rfl,rfl⟩ ?_
  rintro n fr L ⟨d,u,rfl,hst,hdb,rfl,rfl⟩
  simp only [qbP,ZZ,WW,Ze,reduceCtorEq,zd,ze,za,zf,zb]
  refine use1 (qgl u [62]) rfl (.inl rfl) ?_
  refine zS ?_
  refine br ?_ ?_
  ·intro h2
   have hlen:=qcM h2
   simp only [zl,zr] at hlen
   have hdec:=qfy h2
   have hy:=qjr h2
   refine zS ?_
   ((with_reducible and_intros)<;>try exact sc_)
   rw [z7,show Int.toNat 1=1 from rfl]
   refine use1 (qe7 (u.drop 1) [32] (by simp;omega) (by decide)) rfl (.inl rfl) ?_
   refine zS ?_
   ((with_reducible and_intros)<;>try exact sc_)
   refine qab (((qat (u.drop 1) [32]).1).length) (oo::oo::oo::.p (.sl 1 (strE l))::.row (.l 4)::oo::.adr (.l 6) 0::.p (int ((d+1):Nat))::.p (.str ((qat (u.drop 1) [32]).1))::oo::oo::oo::.p (.sl 2 (quF l))::.p (int (l.length:Nat))::.p (int (k:Nat))::oE (oD [])) [(.l 4,.row (rowM l k) qpY 1 true),(.l 6,.box [.p (int ((qF l k).1:Nat)),.p (.str (txF l k))] tQ2)] (by omega) zF_ zF_ ⟨d+1,(qat (u.drop 1) [32]).1,rfl,by rw [hst,hy];simp only;congr 1;omega,by omega,rfl,rfl⟩
  ·intro h2
   have hn:=qjb h2
   rw [hn] at hst
   simp only [Nat.add_zero] at hst
   have hsd:d=sgF l k:=by simp [sgF,zC,hx,hst]
   subst hsd
   simp only [ZZ,WW,Ze,reduceCtorEq,zd,ze,za,zf,zb,qeN]
   ((with_reducible and_intros)<;>try exact sc_)
   rw [qvR,qs4]
   refine qab (l.length - (k+1)) (oo::oo::oo::.p (.sl 1 (strE l))::.row (.l 4)::oC (oB (oo::(.p (.sl 2 (quF l))::.p (int (l.length:Nat))::.p (int ((k+1):Nat))::oE (oD []))))) [(.l 4,.row (rowM l (k+1)) qpY 1 true)] (by omega) zF_ zF_ ⟨k+1,by omega,rfl,rfl,rfl⟩
 ·intro h
  have hge:k=l.length:=by have:=of_decide_eq_false h;omega
  subst hge
  simp only [ZZ,WW,Ze,reduceCtorEq,zd,ze,za,zf,zb]
def qaX:IC:=(sR [qT 18 .lss 17 16] (.seq (jE 18) (.seq (.block 1 (sR [qM 19 17,qX 20 2 15 17,qO 21 (.ld 2 true (.t 20)),qO 9 (.alc 186 [.int .i64 0,.str []]),qM 8 19,qS 2 9 21] (sR [wF 22 1 9,qL 23 22,jC 24 152 [.t 23],jC 25 151 [.t 24],qM 10 25] (.seq (sR [qM 26 7,qM 27 8,qX 28 1 26 27,qL 29 28,qM 30 29,⟨some 31,.mov (.t 10),(some (30,false))⟩,⟨some 32,.bin .eql (.t 31) (.c (.str [])),(some (30,false))⟩,qO 33 (.pick (.t 30) (.c (.bool true)) (.t 32)),qM 34 33,⟨some 35,.fla 0 (.t 9),(some (34,false))⟩,⟨some 36,.ld 1 false (.t 35),(some (34,false))⟩,⟨some 37,.mov (.t 5),(some (34,false))⟩,⟨some 38,.bin .neq (.t 36) (.t 37),(some (34,false))⟩,qO 39 (.pick (.t 34) (.c (.bool true)) (.t 38))] (jW 39 (.reg [qM 40 6,qO 41 (.callv (.t 40) [])]))) (.cut (.seq (sR [qM 42 7,qM 43 8,qX 44 1 42 43,qL 45 44,qO 46 (.not (.t 45)),qM 47 46,⟨some 48,.mov (.t 10),(some (47,true))⟩,⟨some 49,.bin .neq (.t 48) (.c (.str [])),(some (47,true))⟩,qO 50 (.pick (.t 47) (.t 49) (.c (.bool false)))] (jW 50 (.reg [qL 51 4,qB 52 .add 51 (.c (.str [32])),qM 53 10,qT 54 .add 52 53,jC 55 152 [.t 54],qS 1 4 55]))) (.cut (.reg [wF 56 0 9,qL 57 56,qM 5 57])))))))) (.reg [qB 58 .add 17 (cI 1),qM 17 58]))))
abbrev qd7:IC:=(sR [qO 2 (.mov (.c (.nl 1)))] (sR [qO 3 (.alc 46 [.nl 1])] (sR [qO 4 (.alc 9 [.str []]),⟨none,.st 1 (.t 4) (.c (.str [])),none⟩,jI 5 (-1)] (sR [qO 11 (.mkf 148 [.t 4,.t 3]),qM 6 11] (sR [qM 12 0,jC 13 149 [.t 12],qM 7 13] (.seq (sR [qM 14 0,jC 15 150 [.t 14],qN 16 15,jI 17 0] (.block 0 (.loop qaX))) (sR [qM 59 6,qO 60 (.callv (.t 59) [])] (sR [qL 61 3,qM 2 61] .ret))))))))
theorem qea:chkF Tryz.prog Tryz.f93 qd7 [.t 2] 62=true:=by kernel_rfl
def qaz:IC:=(.seq (sR [qL 2 0,qB 3 .neq 2 (.c (.str [])),qM 4 3,⟨some 5,.ld 1 false (.t 1),(some (4,true))⟩,⟨some 6,.ld 1 false (.t 0),(some (4,true))⟩,⟨some 7,.call 43 [.t 5,.t 6],(some (4,true))⟩,⟨some 8,.not (.t 7),(some (4,true))⟩,qO 9 (.pick (.t 4) (.t 8) (.c (.bool false)))] (jW 9 (.reg [qL 10 1,qL 11 0,qO 12 (.bsl 1 [.t 11]),qO 13 (.app 9 1 16 (.t 10) (.t 12)),qS 1 1 13]))) (.cut (.reg [⟨none,.st 1 (.t 0) (.c (.str [])),none⟩])))
theorem qaK:chkF Tryz.prog Tryz.f148 qaz [] 14=true:=by kernel_rfl
abbrev qsE:Nat:=46
abbrev fPE:Nat:=148
def endR (o:List (List UInt8)) (now:List UInt8):List (List UInt8):=if now≠[]∧now∉o then o++[now] else o
def stR (l:List (List UInt8)):Nat→List (List UInt8)×List UInt8×Int
 |0=>([],[],-1)
 |k+1=>
  let s:=lowF (sqF (txF l k))
  let st:=stR l k
  let e:=(qF l k).2 || decide (s=[]) || !decide (((qF l k).1:Int)=st.2.2)
  let o:=if e=true then endR st.1 st.2.1 else st.1
  let n:=if e=true then [] else st.2.1
  (o,if (!(qF l k).2 && !decide (s=[]))=true then sqF (n++32 :: s) else n,(qF l k).1)
def outL (o:List (List UInt8)) (now:List UInt8):Objs:=match o with
 |[]=>[(.l 3,.box [.p (.nl 1)] qsE),(.l 4,.box [.p (.str now)] tStr)]
 |x :: r=>[(.l 3,.box [.row (.l 100)] qsE),(.l 4,.box [.p (.str now)] tStr),(.l 100,.row (strE (x :: r)) tStr 1 true)]
theorem qdz (now:List UInt8):outL [] now=[(.l 3,.box [.p (.nl 1)] qsE),(.l 4,.box [.p (.str now)] tStr)]:=rfl
theorem qbB (y:List UInt8) (r:List (List UInt8)) (now:List UInt8):outL (y :: r) now=[(.l 3,.box [.row (.l 100)] qsE),(.l 4,.box [.p (.str now)] tStr),(.l 100,.row (strE (y :: r)) tStr 1 true)]:=rfl
theorem qda (y:List UInt8) (r:List (List UInt8)) (x:List UInt8):strE (y :: r)++[[.str x]]=strE (y :: (r++[x])):=by simp [strE]
theorem qhI (y:List UInt8) (r:List (List UInt8)) (x:List UInt8):strE (y :: r)++strE [x]=strE (y :: (r++[x])):=by simp [strE]
theorem qgo (n:Nat):∀ (l:List (List UInt8)),wgt (l.take n)≤wgt l:=by
 induction n with
 |zero=>intro l;simp [wgt]
 |succ n ih=>
  intro l
  cases l with
  |nil=>simp [wgt]
  |cons x r=>have:=ih r;simp only [List.take_succ_cons,wgt];omega
theorem qi9 {l:List (List UInt8)} {k:Nat} {x:List UInt8} (h:l[k]?=some x):wgt (l.take (k+1))=wgt (l.take k)+x.length+1:=by
 rw [List.take_add_one,h,qqD]
 simp [wgt]
 omega
theorem qk2 {l:List (List UInt8)} {k:Nat} {x:List UInt8} (h:l[k]?=some x):(txF l k).length≤x.length:=by
 have:=qo4 _ x (zL _)
 have e:l.getD k []=x:=by simp [zC,h]
 unfold txF
 rw [e]
 omega
theorem qnX (l:List (List UInt8)):∀ k,k≤l.length→(stR l k).2.1.length≤wgt (l.take k):=by
 intro k
 induction k with
 |zero=>intro _;simp [stR,wgt]
 |succ k ih=>
  intro hk
  obtain ⟨x,hx⟩:∃ x,l[k]?=some x:=⟨_,zk (by omega)⟩
  have h1:=ih (by omega)
  have h2:=qi9 hx
  have h3:=qk2 hx
  have h4:=qk6 (txF l k)
  rw [stR]
  simp only
  generalize hn:(if ((qF l k).2 || decide (lowF (sqF (txF l k))=[]) || !decide (((qF l k).1:Int)=(stR l k).2.2))=true then [] else (stR l k).2.1)=n
  have hnl:n.length≤wgt (l.take k):=by
   rw [← hn]
   split
   ·simp
   ·exact h1
  split
  ·have h5:=qk6 (n++32 :: lowF (sqF (txF l k)))
   have h6:(lowF (sqF (txF l k))).length=(sqF (txF l k)).length:=by simp [lowF]
   rw [zm,zl,h6] at h5
   omega
  ·omega
theorem qqR (l:List (List UInt8)):∀ k,(stR l k).1.length≤k:=by
 intro k
 induction k with
 |zero=>simp [stR]
 |succ k ih=>
  rw [stR]
  simp only
  split
  ·unfold endR
   split
   ·simp;exact ih
   ·omega
  ·omega
theorem qg8 (s:List UInt8):wgt (qal s)≤s.length+1:=by
 unfold qal
 have:=qgo ((splF s 10).length - 1) (splF s 10)
 have h2:=qqV 10 s
 rw [← qbV] at h2
 omega
theorem qiT (x:List UInt8):PCall Tryz.prog E0 43 [.sl 1 [],.str x] (·=.bool false):=(qa2 [] x (by simp)).mono fun y h=>by rw [h];simp
set_option maxHeartbeats 4000000 in
theorem qj2 (s:List UInt8) (hs:s.length≤20000):PCall Tryz.prog E0 93 [.str s] (·=.sl 1 (strE (endR (stR (qal s) (qal s).length).1 (stR (qal s) (qal s).length).2.1))):=by
 refine qah mixed Tryz.func93 qea ?_
 refine zV ?_
 refine use1 (ql7 s (by omega)) rfl (.inl rfl) ?_
 refine zS ?_
 refine use1 (qoR s (by omega)) rfl (.inl rfl) ?_
 obtain ⟨hll,hlb⟩:=qei s
 have hw:=qg8 s
 generalize qal s=l at *
 simp only [ZZ,WW,Ze,reduceCtorEq,zd,ze,za,zf,zb,qg9]
 refine qad (fun n fr L=>∃ (k:Nat),k≤l.length∧n=l.length - k∧fr=(oo::oo::oo::.adr (.l 3) 0::.adr (.l 4) 0::.p (int (stR l k).2.2)::.fn fPE [.l 4,.l 3]::.p (.sl 1 (rowM l l.length))::oC (oB (oo::(.p (.sl 2 (quF l))::.p (int (l.length:Nat))::.p (int (k:Nat))::oF (oD (oC []))))))∧L=outL (stR l k).1 (stR l k).2.1) l.length (oo::oo::oo::.adr (.l 3) 0::.adr (.l 4) 0::.p (int (-1))::.fn fPE [.l 4,.l 3]::.p (.sl 1 (rowM l l.length))::oC (oB (oo::(.p (.sl 2 (quF l))::.p (int (l.length:Nat))::.p (int (0:Nat))::oF (oD (oC [])))))) (outL [] []) zF_ (by simp only [ZZ,WW,Ze,reduceCtorEq,zd,ze,za,zf,zb,outL]) ⟨0,by omega,by omega,rfl,rfl⟩ ?_
 rintro n fr L ⟨k,hk,rfl,rfl,rfl⟩
 have hol:=qqR l k
 have hnl:=qnX l k hk
 have hwk:=qgo k l
 have hs1:(stR l (k+1)).1=if ((qF l k).2 || decide (lowF (sqF (txF l k))=[]) || !decide (((qF l k).1:Int)=(stR l k).2.2))=true then endR (stR l k).1 (stR l k).2.1 else (stR l k).1:=rfl
 have hs2:(stR l (k+1)).2.1=if (!(qF l k).2 && !decide (lowF (sqF (txF l k))=[]))=true then sqF ((if ((qF l k).2 || decide (lowF (sqF (txF l k))=[]) || !decide (((qF l k).1:Int)=(stR l k).2.2))=true then [] else (stR l k).2.1)++32 :: lowF (sqF (txF l k))) else (if ((qF l k).2 || decide (lowF (sqF (txF l k))=[]) || !decide (((qF l k).1:Int)=(stR l k).2.2))=true then [] else (stR l k).2.1):=rfl
 have hs3:(stR l (k+1)).2.2=(qF l k).1:=rfl
 generalize ho:(stR l k).1=o at *
 generalize hn:(stR l k).2.1=now at *
 generalize hd:(stR l k).2.2=d at *
 rcases o with _|⟨y,r⟩
 ·skip
  simp only [qdz,zG,zW,or_self,qaX,ZZ,WW,Ze,reduceCtorEq,zd,ze,za,zf,zb]
  refine br ?_ ?_
  ·intro h
   have hlt:k < l.length:=by have:=of_decide_eq_true h;omega
   obtain ⟨x,hx⟩:∃ x,l[k]?=some x:=⟨_,zk hlt⟩
   have hxb:=hlb x (zn hx)
   have htl:=qk2 hx
   have hsl:=qk6 (txF l k)
   have hll2:(lowF (sqF (txF l k))).length=(sqF (txF l k)).length:=by simp [lowF]
   have hws:=qi9 hx
   have hwk1:=qgo (k+1) l
   simp only [ZZ,WW,Ze,reduceCtorEq,zd,ze,za,zf,zb,qlo hlt,qg9,zG,zW,or_self]
   ((with_reducible and_intros)<;>try exact sc_)
   refine use1 (qbl (txF l k) (by omega)) rfl (.inl rfl) ?_
   refine zS ?_
   refine use1 (qjJ (sqF (txF l k)) (by omega)) rfl (.inl rfl) ?_
   generalize hlow:lowF (sqF (txF l k))=t at *
   simp only [ZZ,WW,Ze,reduceCtorEq,zd,ze,za,zf,zb,qgu hlt,qeN]
   ((with_reducible and_intros)<;>try exact sc_)
   generalize he:((qF l k).2 || decide (t=[]) || !decide (((qF l k).1:Int)=d))=e at *
   refine qe3 (fun fr L=>fr=(oo::oo::oo::.adr (.l 3) 0::.adr (.l 4) 0::oo::.fn fPE [.l 4,.l 3]::.p (.sl 1 (rowM l l.length))::.p (int (k:Nat))::.adr (.l 9) 0::.p (.str t)::oo::oo::oo::oo::.p (.sl 2 (quF l))::.p (int (l.length:Nat))::.p (int (k:Nat))::oF (oD (oC [])))∧L=(.l 9,.box [.p (int ((qF l k).1:Nat)),.p (.str (txF l k))] tQ2) :: outL (if e=true then endR [] now else []) (if e=true then [] else now)) ?_ ?_ ?_
   ·intro he
    subst he
    refine zS ?_
    refine ⟨by kernel_rfl,?_⟩
    refine useI mixed 100 Tryz.func148 qaK ?_
    simp only [zx,List.map_nil,zl,zr,zT,zU,Nat.reduceSub,zd,ya,List.replicate_zero,qaz,fwdI,renI,qeF,renL,mapO,bwd,fwd,rk,uk,AV.ren,AO.ren,qfD,qd4,zY,zZ,zg,not_true,not_false,false_and,and_false,true_and,and_true,Nat.reduceMod,Nat.reduceDiv,Nat.reduceBEq,zA,Zbk,zK,ZZ,WW,Ze,reduceCtorEq,zd,ze,za,zf,zb]
    refine useG (fun _=>qiT now) rfl (.inl rfl) ?_
    refine zS ?_
    refine br ?_ ?_
    ·intro h1
     have h1:now≠[]:=by simpa using h1
     have hE:endR [] now=[now]:=by simp [endR,h1]
     refine zS ?_
     ((with_reducible and_intros)<;>try exact sc_)
     refine qae zE_ ?_
     refine zS ?_
     ((with_reducible and_intros)<;>try exact sc_)
     refine ⟨some 13,?_⟩
     simp only [fwdI,renI,qeF,renL,mapO,bwd,fwd,rk,uk,AV.ren,AO.ren,qfD,qd4,zY,zZ,zg,not_true,not_false,false_and,and_false,true_and,and_true,Nat.reduceMod,Nat.reduceDiv,Nat.reduceBEq,zA,Zbk,zK,ZZ,WW,Ze,reduceCtorEq,zd,ze,za,zf,zb]
     rw [hE]
     simp only [ZZ,WW,Ze,reduceCtorEq,zd,ze,za,zf,zb,zG,zW,or_self]
     refine qc9 _ _ ?_ ?_ ⟨rfl,rfl⟩
     ·(simp only [ZZ,WW,Ze,reduceCtorEq,zd,ze,za,zf,zb];try trivial)
     ·simp only [ZZ,WW,Ze,reduceCtorEq,zd,ze,za,zf,zb,qbB,qeK,qda,qhI]
    ·intro h1
     have h1:now=[]:=by simpa using h1
     have hE:endR [] now=[]:=by simp [endR,h1]
     refine zS ?_
     refine qae zE_ ?_
     refine zS ?_
     ((with_reducible and_intros)<;>try exact sc_)
     refine ⟨none,?_⟩
     simp only [fwdI,renI,qeF,renL,mapO,bwd,fwd,rk,uk,AV.ren,AO.ren,qfD,qd4,zY,zZ,zg,not_true,not_false,false_and,and_false,true_and,and_true,Nat.reduceMod,Nat.reduceDiv,Nat.reduceBEq,zA,Zbk,zK,ZZ,WW,Ze,reduceCtorEq,zd,ze,za,zf,zb]
     rw [hE]
     simp only [ZZ,WW,Ze,reduceCtorEq,zd,ze,za,zf,zb,zG,zW,or_self]
     refine qc9 _ _ ?_ ?_ ⟨rfl,rfl⟩
     ·(simp only [ZZ,WW,Ze,reduceCtorEq,zd,ze,za,zf,zb];try trivial)
     ·simp only [ZZ,WW,Ze,reduceCtorEq,zd,ze,za,zf,zb,qdz,qeK,qda,qhI]
   ·intro he
    subst he
    simp only [zK,if_false]
    rw [qdz]
    refine zS ?_
    refine qc9 _ _ ?_ ?_ ⟨rfl,rfl⟩
    ·(simp only [ZZ,WW,Ze,reduceCtorEq,zd,ze,za,zf,zb];try trivial)
    ·simp only [ZZ,WW,Ze,reduceCtorEq,zd,ze,za,zf,zb]
   ·rintro fr L ⟨rfl,rfl⟩
    generalize (if e=true then endR [] now else [])=o' at *
    generalize hnn:(if e=true then [] else now)=n' at *
    have hnl2:n'.length≤now.length:=by rw [← hnn];split<;>simp
    rcases o' with _|⟨y',r'⟩
    ·skip
     simp only [ZZ,WW,Ze,reduceCtorEq,zd,ze,za,zf,zb,qdz,qgu hlt,qeN,zG,zW,or_self]
     ((with_reducible and_intros)<;>try exact sc_)
     refine br ?_ ?_
     ·intro hc
      rw [if_pos hc] at hs2
      refine zS ?_
      ((with_reducible and_intros)<;>try exact sc_)
      rw [show n'++[32]++t=n'++32 :: t from by simp]
      refine use1 (qbl (n'++32 :: t) (by simp only [zm,zl];omega)) rfl (.inl rfl) ?_
      refine zS ?_
      refine qae zE_ ?_
      refine zS ?_
      ((with_reducible and_intros)<;>try exact sc_)
      refine qab (l.length - (k+1)) (oo::oo::oo::.adr (.l 3) 0::.adr (.l 4) 0::.p (int (stR l (k+1)).2.2)::.fn fPE [.l 4,.l 3]::.p (.sl 1 (rowM l l.length))::oC (oB (oo::(.p (.sl 2 (quF l))::.p (int (l.length:Nat))::.p (int (k+1:Nat))::oF (oD (oC [])))))) (outL (stR l (k+1)).1 (stR l (k+1)).2.1) (by omega) ?_ ?_ ⟨k+1,by omega,rfl,rfl,rfl⟩
      ·rw [hs3]
       (simp only [ZZ,WW,Ze,reduceCtorEq,zd,ze,za,zf,zb];try trivial)
      ·rw [hs1,hs2]
       simp only [ZZ,WW,Ze,reduceCtorEq,zd,ze,za,zf,zb,qdz]
     ·intro hc
      rw [if_neg (by rw [hc];simp)] at hs2
      refine zS ?_
      refine qae zE_ ?_
      refine zS ?_
      ((with_reducible and_intros)<;>try exact sc_)
      refine qab (l.length - (k+1)) (oo::oo::oo::.adr (.l 3) 0::.adr (.l 4) 0::.p (int (stR l (k+1)).2.2)::.fn fPE [.l 4,.l 3]::.p (.sl 1 (rowM l l.length))::oC (oB (oo::(.p (.sl 2 (quF l))::.p (int (l.length:Nat))::.p (int (k+1:Nat))::oF (oD (oC [])))))) (outL (stR l (k+1)).1 (stR l (k+1)).2.1) (by omega) ?_ ?_ ⟨k+1,by omega,rfl,rfl,rfl⟩
      ·rw [hs3]
       (simp only [ZZ,WW,Ze,reduceCtorEq,zd,ze,za,zf,zb];try trivial)
      ·rw [hs1,hs2]
       simp only [ZZ,WW,Ze,reduceCtorEq,zd,ze,za,zf,zb,qdz]
    ·skip
     simp only [ZZ,WW,Ze,reduceCtorEq,zd,ze,za,zf,zb,qbB,qgu hlt,qeN,zG,zW,or_self]
     ((with_reducible and_intros)<;>try exact sc_)
     refine br ?_ ?_
     ·intro hc
      rw [if_pos hc] at hs2
      refine zS ?_
      ((with_reducible and_intros)<;>try exact sc_)
      rw [show n'++[32]++t=n'++32 :: t from by simp]
      refine use1 (qbl (n'++32 :: t) (by simp only [zm,zl];omega)) rfl (.inl rfl) ?_
      refine zS ?_
      refine qae zE_ ?_
      refine zS ?_
      ((with_reducible and_intros)<;>try exact sc_)
      refine qab (l.length - (k+1)) (oo::oo::oo::.adr (.l 3) 0::.adr (.l 4) 0::.p (int (stR l (k+1)).2.2)::.fn fPE [.l 4,.l 3]::.p (.sl 1 (rowM l l.length))::oC (oB (oo::(.p (.sl 2 (quF l))::.p (int (l.length:Nat))::.p (int (k+1:Nat))::oF (oD (oC [])))))) (outL (stR l (k+1)).1 (stR l (k+1)).2.1) (by omega) ?_ ?_ ⟨k+1,by omega,rfl,rfl,rfl⟩
      ·rw [hs3]
       (simp only [ZZ,WW,Ze,reduceCtorEq,zd,ze,za,zf,zb];try trivial)
      ·rw [hs1,hs2]
       simp only [ZZ,WW,Ze,reduceCtorEq,zd,ze,za,zf,zb,qbB]
     ·intro hc
      rw [if_neg (by rw [hc];simp)] at hs2
      refine zS ?_
      refine qae zE_ ?_
      refine zS ?_
      ((with_reducible and_intros)<;>try exact sc_)
      refine qab (l.length - (k+1)) (oo::oo::oo::.adr (.l 3) 0::.adr (.l 4) 0::.p (int (stR l (k+1)).2.2)::.fn fPE [.l 4,.l 3]::.p (.sl 1 (rowM l l.length))::oC (oB (oo::(.p (.sl 2 (quF l))::.p (int (l.length:Nat))::.p (int (k+1:Nat))::oF (oD (oC [])))))) (outL (stR l (k+1)).1 (stR l (k+1)).2.1) (by omega) ?_ ?_ ⟨k+1,by omega,rfl,rfl,rfl⟩
      ·rw [hs3]
       (simp only [ZZ,WW,Ze,reduceCtorEq,zd,ze,za,zf,zb];try trivial)
      ·rw [hs1,hs2]
       simp only [ZZ,WW,Ze,reduceCtorEq,zd,ze,za,zf,zb,qbB]
  ·intro h
   have hge:k=l.length:=by have:=of_decide_eq_false h;omega
   subst hge
   refine zS ?_
   refine ⟨by kernel_rfl,?_⟩
   refine useI mixed 100 Tryz.func148 qaK ?_
   simp only [zx,List.map_nil,zl,zr,zT,zU,Nat.reduceSub,zd,ya,List.replicate_zero,qaz,fwdI,renI,qeF,renL,mapO,bwd,fwd,rk,uk,AV.ren,AO.ren,qfD,qd4,zY,zZ,zg,not_true,not_false,false_and,and_false,true_and,and_true,Nat.reduceMod,Nat.reduceDiv,Nat.reduceBEq,zA,Zbk,zK,ZZ,WW,Ze,reduceCtorEq,zd,ze,za,zf,zb]
   refine useG (fun _=>qiT now) rfl (.inl rfl) ?_
   refine zS ?_
   refine br ?_ ?_
   ·intro h1
    have h1:now≠[]:=by simpa using h1
    have hE:endR [] now=[now]:=by simp [endR,h1]
    refine zS ?_
    ((with_reducible and_intros)<;>try exact sc_)
    refine qae zE_ ?_
    refine zS ?_
    ((with_reducible and_intros)<;>try exact sc_)
    refine ⟨some 13,?_⟩
    simp only [fwdI,renI,qeF,renL,mapO,bwd,fwd,rk,uk,AV.ren,AO.ren,qfD,qd4,zY,zZ,zg,not_true,not_false,false_and,and_false,true_and,and_true,Nat.reduceMod,Nat.reduceDiv,Nat.reduceBEq,zA,Zbk,zK,ZZ,WW,Ze,reduceCtorEq,zd,ze,za,zf,zb]
    rw [ho,hn,hE]
    try rw [qda]
    try rfl
   ·intro h1
    have h1:now=[]:=by simpa using h1
    have hE:endR [] now=[]:=by simp [endR,h1]
    refine zS ?_
    refine qae zE_ ?_
    refine zS ?_
    ((with_reducible and_intros)<;>try exact sc_)
    refine ⟨none,?_⟩
    simp only [fwdI,renI,qeF,renL,mapO,bwd,fwd,rk,uk,AV.ren,AO.ren,qfD,qd4,zY,zZ,zg,not_true,not_false,false_and,and_false,true_and,and_true,Nat.reduceMod,Nat.reduceDiv,Nat.reduceBEq,zA,Zbk,zK,ZZ,WW,Ze,reduceCtorEq,zd,ze,za,zf,zb]
    rw [ho,hn,hE]
    try rw [qda]
    try rfl
 ·have hol2:r.length+1≤k:=hol
  simp only [qbB,zG,zW,or_self,qaX,ZZ,WW,Ze,reduceCtorEq,zd,ze,za,zf,zb]
  refine br ?_ ?_
  ·intro h
   have hlt:k < l.length:=by have:=of_decide_eq_true h;omega
   obtain ⟨x,hx⟩:∃ x,l[k]?=some x:=⟨_,zk hlt⟩
   have hxb:=hlb x (zn hx)
   have htl:=qk2 hx
   have hsl:=qk6 (txF l k)
   have hll2:(lowF (sqF (txF l k))).length=(sqF (txF l k)).length:=by simp [lowF]
   have hws:=qi9 hx
   have hwk1:=qgo (k+1) l
   simp only [ZZ,WW,Ze,reduceCtorEq,zd,ze,za,zf,zb,qlo hlt,qg9,zG,zW,or_self]
   ((with_reducible and_intros)<;>try exact sc_)
   refine use1 (qbl (txF l k) (by omega)) rfl (.inl rfl) ?_
   refine zS ?_
   refine use1 (qjJ (sqF (txF l k)) (by omega)) rfl (.inl rfl) ?_
   generalize hlow:lowF (sqF (txF l k))=t at *
   simp only [ZZ,WW,Ze,reduceCtorEq,zd,ze,za,zf,zb,qgu hlt,qeN]
   ((with_reducible and_intros)<;>try exact sc_)
   generalize he:((qF l k).2 || decide (t=[]) || !decide (((qF l k).1:Int)=d))=e at *
   refine qe3 (fun fr L=>fr=(oo::oo::oo::.adr (.l 3) 0::.adr (.l 4) 0::oo::.fn fPE [.l 4,.l 3]::.p (.sl 1 (rowM l l.length))::.p (int (k:Nat))::.adr (.l 9) 0::.p (.str t)::oo::oo::oo::oo::.p (.sl 2 (quF l))::.p (int (l.length:Nat))::.p (int (k:Nat))::oF (oD (oC [])))∧L=(.l 9,.box [.p (int ((qF l k).1:Nat)),.p (.str (txF l k))] tQ2) :: outL (if e=true then endR (y :: r) now else (y :: r)) (if e=true then [] else now)) ?_ ?_ ?_
   ·intro he
    subst he
    refine zS ?_
    refine ⟨by kernel_rfl,?_⟩
    refine useI mixed 100 Tryz.func148 qaK ?_
    simp only [zx,List.map_nil,zl,zr,zT,zU,Nat.reduceSub,zd,ya,List.replicate_zero,qaz,fwdI,renI,qeF,renL,mapO,bwd,fwd,rk,uk,AV.ren,AO.ren,qfD,qd4,zY,zZ,zg,not_true,not_false,false_and,and_false,true_and,and_true,Nat.reduceMod,Nat.reduceDiv,Nat.reduceBEq,zA,Zbk,zK,ZZ,WW,Ze,reduceCtorEq,zd,ze,za,zf,zb]
    refine useG (fun _=>qa2 (y :: r) now (by omega)) rfl (.inr rfl) ?_
    refine zS ?_
    refine br ?_ ?_
    ·intro h1
     have h1:now≠[]∧now∉y :: r:=by simpa using h1
     have hE:endR (y :: r) now=y :: (r++[now]):=by simp only [endR,if_pos h1,zT]
     simp only [ZZ,WW,Ze,reduceCtorEq,zd,ze,za,zf,zb,qac]
     ((with_reducible and_intros)<;>try exact sc_)
     refine qae zE_ ?_
     refine zS ?_
     ((with_reducible and_intros)<;>try exact sc_)
     refine ⟨some 100,?_⟩
     simp only [fwdI,renI,qeF,renL,mapO,bwd,fwd,rk,uk,AV.ren,AO.ren,qfD,qd4,zY,zZ,zg,not_true,not_false,false_and,and_false,true_and,and_true,Nat.reduceMod,Nat.reduceDiv,Nat.reduceBEq,zA,Zbk,zK,ZZ,WW,Ze,reduceCtorEq,zd,ze,za,zf,zb]
     rw [hE]
     simp only [ZZ,WW,Ze,reduceCtorEq,zd,ze,za,zf,zb,zG,zW,or_self]
     refine qc9 _ _ ?_ ?_ ⟨rfl,rfl⟩
     ·(simp only [ZZ,WW,Ze,reduceCtorEq,zd,ze,za,zf,zb];try trivial)
     ·simp only [ZZ,WW,Ze,reduceCtorEq,zd,ze,za,zf,zb,qbB,qeK,qda,qhI]
    ·intro h1
     have h1:¬ (now≠[]∧now∉y :: r):=by
      rintro ⟨h2,h3⟩
      rw [decide_eq_false h2,decide_eq_false h3] at h1
      cases h1
     have hE:endR (y :: r) now=y :: r:=by rw [endR,if_neg h1]
     refine zS ?_
     refine qae zE_ ?_
     refine zS ?_
     ((with_reducible and_intros)<;>try exact sc_)
     refine ⟨some 100,?_⟩
     simp only [fwdI,renI,qeF,renL,mapO,bwd,fwd,rk,uk,AV.ren,AO.ren,qfD,qd4,zY,zZ,zg,not_true,not_false,false_and,and_false,true_and,and_true,Nat.reduceMod,Nat.reduceDiv,Nat.reduceBEq,zA,Zbk,zK,ZZ,WW,Ze,reduceCtorEq,zd,ze,za,zf,zb]
     rw [hE]
     simp only [ZZ,WW,Ze,reduceCtorEq,zd,ze,za,zf,zb,zG,zW,or_self]
     refine qc9 _ _ ?_ ?_ ⟨rfl,rfl⟩
     ·(simp only [ZZ,WW,Ze,reduceCtorEq,zd,ze,za,zf,zb];try trivial)
     ·simp only [ZZ,WW,Ze,reduceCtorEq,zd,ze,za,zf,zb,qbB,qeK,qda,qhI]
   ·intro he
    subst he
    simp only [zK,if_false]
    rw [qbB]
    refine zS ?_
    refine qc9 _ _ ?_ ?_ ⟨rfl,rfl⟩
    ·(simp only [ZZ,WW,Ze,reduceCtorEq,zd,ze,za,zf,zb];try trivial)
    ·simp only [ZZ,WW,Ze,reduceCtorEq,zd,ze,za,zf,zb]
   ·rintro fr L ⟨rfl,rfl⟩
    generalize (if e=true then endR (y :: r) now else (y :: r))=o' at *
    generalize hnn:(if e=true then [] else now)=n' at *
    have hnl2:n'.length≤now.length:=by rw [← hnn];split<;>simp
    rcases o' with _|⟨y',r'⟩
    ·skip
     simp only [ZZ,WW,Ze,reduceCtorEq,zd,ze,za,zf,zb,qdz,qgu hlt,qeN,zG,zW,or_self]
     ((with_reducible and_intros)<;>try exact sc_)
     refine br ?_ ?_
     ·intro hc
      rw [if_pos hc] at hs2
      refine zS ?_
      ((with_reducible and_intros)<;>try exact sc_)
      rw [show n'++[32]++t=n'++32 :: t from by simp]
      refine use1 (qbl (n'++32 :: t) (by simp only [zm,zl];omega)) rfl (.inl rfl) ?_
      refine zS ?_
      refine qae zE_ ?_
      refine zS ?_
      ((with_reducible and_intros)<;>try exact sc_)
      refine qab (l.length - (k+1)) (oo::oo::oo::.adr (.l 3) 0::.adr (.l 4) 0::.p (int (stR l (k+1)).2.2)::.fn fPE [.l 4,.l 3]::.p (.sl 1 (rowM l l.length))::oC (oB (oo::(.p (.sl 2 (quF l))::.p (int (l.length:Nat))::.p (int (k+1:Nat))::oF (oD (oC [])))))) (outL (stR l (k+1)).1 (stR l (k+1)).2.1) (by omega) ?_ ?_ ⟨k+1,by omega,rfl,rfl,rfl⟩
      ·rw [hs3]
       (simp only [ZZ,WW,Ze,reduceCtorEq,zd,ze,za,zf,zb];try trivial)
      ·rw [hs1,hs2]
       simp only [ZZ,WW,Ze,reduceCtorEq,zd,ze,za,zf,zb,qdz]
     ·intro hc
      rw [if_neg (by rw [hc];simp)] at hs2
      refine zS ?_
      refine qae zE_ ?_
      refine zS ?_
      ((with_reducible and_intros)<;>try exact sc_)
      refine qab (l.length - (k+1)) (oo::oo::oo::.adr (.l 3) 0::.adr (.l 4) 0::.p (int (stR l (k+1)).2.2)::.fn fPE [.l 4,.l 3]::.p (.sl 1 (rowM l l.length))::oC (oB (oo::(.p (.sl 2 (quF l))::.p (int (l.length:Nat))::.p (int (k+1:Nat))::oF (oD (oC [])))))) (outL (stR l (k+1)).1 (stR l (k+1)).2.1) (by omega) ?_ ?_ ⟨k+1,by omega,rfl,rfl,rfl⟩
      ·rw [hs3]
       (simp only [ZZ,WW,Ze,reduceCtorEq,zd,ze,za,zf,zb];try trivial)
      ·rw [hs1,hs2]
       simp only [ZZ,WW,Ze,reduceCtorEq,zd,ze,za,zf,zb,qdz]
    ·skip
     simp only [ZZ,WW,Ze,reduceCtorEq,zd,ze,za,zf,zb,qbB,qgu hlt,qeN,zG,zW,or_self]
     ((with_reducible and_intros)<;>try exact sc_)
     refine br ?_ ?_
     ·intro hc
      rw [if_pos hc] at hs2
      refine zS ?_
      ((with_reducible and_intros)<;>try exact sc_)
      rw [show n'++[32]++t=n'++32 :: t from by simp]
      refine use1 (qbl (n'++32 :: t) (by simp only [zm,zl];omega)) rfl (.inl rfl) ?_
      refine zS ?_
      refine qae zE_ ?_
      refine zS ?_
      ((with_reducible and_intros)<;>try exact sc_)
      refine qab (l.length - (k+1)) (oo::oo::oo::.adr (.l 3) 0::.adr (.l 4) 0::.p (int (stR l (k+1)).2.2)::.fn fPE [.l 4,.l 3]::.p (.sl 1 (rowM l l.length))::oC (oB (oo::(.p (.sl 2 (quF l))::.p (int (l.length:Nat))::.p (int (k+1:Nat))::oF (oD (oC [])))))) (outL (stR l (k+1)).1 (stR l (k+1)).2.1) (by omega) ?_ ?_ ⟨k+1,by omega,rfl,rfl,rfl⟩
      ·rw [hs3]
       (simp only [ZZ,WW,Ze,reduceCtorEq,zd,ze,za,zf,zb];try trivial)
      ·rw [hs1,hs2]
       simp only [ZZ,WW,Ze,reduceCtorEq,zd,ze,za,zf,zb,qbB]
     ·intro hc
      rw [if_neg (by rw [hc];simp)] at hs2
      refine zS ?_
      refine qae zE_ ?_
      refine zS ?_
      ((with_reducible and_intros)<;>try exact sc_)
      refine qab (l.length - (k+1)) (oo::oo::oo::.adr (.l 3) 0::.adr (.l 4) 0::.p (int (stR l (k+1)).2.2)::.fn fPE [.l 4,.l 3]::.p (.sl 1 (rowM l l.length))::oC (oB (oo::(.p (.sl 2 (quF l))::.p (int (l.length:Nat))::.p (int (k+1:Nat))::oF (oD (oC [])))))) (outL (stR l (k+1)).1 (stR l (k+1)).2.1) (by omega) ?_ ?_ ⟨k+1,by omega,rfl,rfl,rfl⟩
      ·rw [hs3]
       (simp only [ZZ,WW,Ze,reduceCtorEq,zd,ze,za,zf,zb];try trivial)
      ·rw [hs1,hs2]
       simp only [ZZ,WW,Ze,reduceCtorEq,zd,ze,za,zf,zb,qbB]
  ·intro h
   have hge:k=l.length:=by have:=of_decide_eq_false h;omega
   subst hge
   refine zS ?_
   refine ⟨by kernel_rfl,?_⟩
   refine useI mixed 100 Tryz.func148 qaK ?_
   simp only [zx,List.map_nil,zl,zr,zT,zU,Nat.reduceSub,zd,ya,List.replicate_zero,qaz,fwdI,renI,qeF,renL,mapO,bwd,fwd,rk,uk,AV.ren,AO.ren,qfD,qd4,zY,zZ,zg,not_true,not_false,false_and,and_false,true_and,and_true,Nat.reduceMod,Nat.reduceDiv,Nat.reduceBEq,zA,Zbk,zK,ZZ,WW,Ze,reduceCtorEq,zd,ze,za,zf,zb]
   refine useG (fun _=>qa2 (y :: r) now (by omega)) rfl (.inr rfl) ?_
   refine zS ?_
   refine br ?_ ?_
   ·intro h1
    have h1:now≠[]∧now∉y :: r:=by simpa using h1
    have hE:endR (y :: r) now=y :: (r++[now]):=by simp only [endR,if_pos h1,zT]
    simp only [ZZ,WW,Ze,reduceCtorEq,zd,ze,za,zf,zb,qac]
    ((with_reducible and_intros)<;>try exact sc_)
    refine qae zE_ ?_
    refine zS ?_
    ((with_reducible and_intros)<;>try exact sc_)
    refine ⟨some 100,?_⟩
    simp only [fwdI,renI,qeF,renL,mapO,bwd,fwd,rk,uk,AV.ren,AO.ren,qfD,qd4,zY,zZ,zg,not_true,not_false,false_and,and_false,true_and,and_true,Nat.reduceMod,Nat.reduceDiv,Nat.reduceBEq,zA,Zbk,zK,ZZ,WW,Ze,reduceCtorEq,zd,ze,za,zf,zb]
    rw [ho,hn,hE]
    try rw [qda]
    try rfl
   ·intro h1
    have h1:¬ (now≠[]∧now∉y :: r):=by
     rintro ⟨h2,h3⟩
     rw [decide_eq_false h2,decide_eq_false h3] at h1
     cases h1
    have hE:endR (y :: r) now=y :: r:=by rw [endR,if_neg h1]
    refine zS ?_
    refine qae zE_ ?_
    refine zS ?_
    ((with_reducible and_intros)<;>try exact sc_)
    refine ⟨some 100,?_⟩
    simp only [fwdI,renI,qeF,renL,mapO,bwd,fwd,rk,uk,AV.ren,AO.ren,qfD,qd4,zY,zZ,zg,not_true,not_false,false_and,and_false,true_and,and_true,Nat.reduceMod,Nat.reduceDiv,Nat.reduceBEq,zA,Zbk,zK,ZZ,WW,Ze,reduceCtorEq,zd,ze,za,zf,zb]
    rw [ho,hn,hE]
    try rw [qda]
    try rfl
abbrev qhj:IC:=(sR [qO 2 (.mov (.c (.nl 1)))] (sR [qM 4 0,jC 5 21 [.t 4],qM 3 5] (sR [qM 6 3,jC 7 100 [.t 6]] (sR [qM 8 3,jC 9 101 [.t 8],qM 2 9] .ret))))
theorem qht:chkF Tryz.prog Tryz.f58 qhj [.t 2] 10=true:=by kernel_rfl
def qj4 (l:List (List UInt8)):List (List UInt8):=Lib.compact (l.mergeSort fun x y=>decide (x≤y))
theorem qmC {E:Envt} (l:List (List UInt8)) (hl:l.length≤1000000):PCall Tryz.prog E 58 [.sl 1 (strE l)] (·=.sl 1 (strE (qj4 l))):=by
 refine qah mixed Tryz.func58 qht ?_
 refine zV ?_
 refine useF (qnO (strE l) (by rw [qac];omega)) rfl rfl ?_
 rintro es rfl
 refine zS ?_
 refine useR (qqY tStr l (by omega)) rfl rfl rfl zE_ ?_
 rintro x es ⟨rfl,rfl⟩
 refine zS ?_
 refine quZ 1000 (l.mergeSort fun x y=>decide (x≤y)) (by rw [List.length_mergeSort];omega) rfl ?_
 refine zS ?_
 rfl
theorem qt2 (m:List (List UInt8)) (x:List UInt8):x∈Lib.compact m↔x∈m:=by
 unfold Lib.compact Lib.compactUpTo
 simp only [List.mem_map,List.mem_filter,List.mem_range]
 constructor
 ·rintro ⟨j,⟨hj,_⟩,rfl⟩
  rw [getElem!_pos m.toArray j (by simpa using hj)]
  simp
 ·intro hx
  have hlt:m.findIdx (· == x) < m.length:=List.findIdx_lt_length_of_exists ⟨x,hx,by simp⟩
  have hg:m[m.findIdx (· == x)]=x:=by simpa using List.findIdx_getElem (w:=hlt)
  refine ⟨m.findIdx (· == x),⟨hlt,?_⟩,?_⟩
  ·unfold Lib.keeps
   rw [decide_eq_true_iff,getElem!_pos m.toArray _ (by simpa using hlt),getElem!_pos m.toArray (m.findIdx (· == x) - 1) (by simp;omega)]
   simp only [List.getElem_toArray]
   rcases Nat.eq_zero_or_pos (m.findIdx (· == x)) with h0|h0
   ·exact .inl h0
   ·refine .inr fun e=>?_
    have h1:=List.not_of_lt_findIdx (xs:=m) (p:=(· == x)) (i:=m.findIdx (· == x) - 1) (by omega)
    rw [← e,hg] at h1
    simp at h1
  ·rw [getElem!_pos m.toArray _ (by simpa using hlt)]
   simpa using hg
theorem qks (l:List (List UInt8)) (x:List UInt8):x∈qj4 l↔x∈l:=by
 rw [qj4,qt2]
 exact (List.mergeSort_perm l _).mem_iff
theorem qmD (l:List (List UInt8)):(qj4 l).length≤l.length:=by
 have:=qkS (l.mergeSort fun x y=>decide (x≤y))
 rw [List.length_mergeSort] at this
 exact this
end Go.Proofs.YtjgdjinhkgjpeabGreatDoor
namespace Go.Proofs.YtjgdjinhkgjpeabGreatDoor
section
variable {E:Envt}
end
end Go.Proofs.YtjgdjinhkgjpeabGreatDoor
namespace Go.Proofs.YtjgdjinhkgjpeabGreatDoor
open Nat renaming reduceAdd→zd,reduceEqDiff→zb,reduceLT→zf,reduceLeDiff→za,reduceMul→ze
open Go.RowKit
def qb8:IC:=(sR [qT 18 .lss 17 16] (.seq (jE 18) (.seq (.block 1 (sR [qX 19 2 15 17,qO 20 (.ld 2 true (.t 19)),qO 5 (.alc 100 [.str [],.str []]),qS 2 5 20] (.reg [qM 21 3,wF 22 1 5,qL 23 22,qO 24 (.bsl 1 [.t 23]),qO 25 (.app 9 1 16 (.t 21) (.t 24)),qM 3 25]))) (.reg [qB 26 .add 17 (cI 1),qM 17 26]))))
abbrev qfo:IC:=(sR [qO 1 (.box 103 (.t 0)),qO 2 (.mov (.c (.nl 1)))] (sR [wF 6 2 1,wF 7 1 6,qL 8 7,qO 9 (.bsr 9 1 [.t 8]),qM 3 9] (.seq (sR [wF 10 4 1,qL 11 10,wF 12 5 1,qL 13 12,qO 14 (.bsl 1 [.t 11,.t 13]),jC 15 57 [.t 14],qN 16 15,jI 17 0] (.block 0 (.loop qb8))) (sR [qM 27 3,⟨none,.fz (.t 27),none⟩,jC 28 58 [.t 27],qM 2 28] .ret))))
theorem qfv:chkF Tryz.prog Tryz.f89 qfo [.t 2] 29=true:=by kernel_rfl
set_option maxHeartbeats 2000000 in
theorem qnJ {E:Envt} (m:Ltr) (hm:LtB m):PCall Tryz.prog E 89 [.agg (ltV m)] (·=.sl 1 (strE (qj4 (qoc m)))):=by
 obtain ⟨b1,b2,b3,b4,b5,b6,b7,b8,b9,b10,b11⟩:=hm
 refine qah mixed Tryz.func89 qfv ?_
 refine zV ?_
 simp only [ltV,ZZ,WW,Ze,reduceCtorEq,zd,ze,za,zf,zb]
 refine useF (qiE [m.tos,m.ccs] (by simp) (by simp [qgE];omega)) rfl rfl ?_
 rintro es rfl
 rw [cat2]
 have hAl:(m.tos++m.ccs).length≤200000:=by simp;omega
 unfold qoc
 generalize m.tos++m.ccs=A at *
 simp only [ZZ,WW,Ze,reduceCtorEq,zd,ze,za,zf,zb,qaY]
 have hR0:[[PV.str m.fr.2]]=strE (m.fr.2 :: (A.take 0).map (·.2)):=rfl
 rw [hR0]
 refine qad (fun n fr L=>∃ (k:Nat),k≤A.length∧n=A.length - k∧fr=(oo::oo::oo::.row (.l 9)::oD (oB (oo::(.row (.l 15)::.p (int (A.length:Nat))::.p (int (k:Nat))::oD (oB (oo::[]))))))∧L=[(.l 9,.row (strE (m.fr.2 :: (A.take k).map (·.2))) 9 1 true),(.l 15,.row (adrE A) tAdr 2 true)]) (A.length) (oo::oo::oo::.row (.l 9)::oD (oB (oo::(.row (.l 15)::.p (int (A.length:Nat))::.p (int (0:Nat))::oD (oB (oo::[])))))) [(.l 9,.row (strE (m.fr.2 :: (A.take 0).map (·.2))) 9 1 true),(.l 15,.row (adrE A) tAdr 2 true)] (by simp only [ZZ,WW,Ze,reduceCtorEq,zd,ze,za,zf,zb,qaY];try trivial) zF_ ⟨0,by omega,by omega,rfl,rfl⟩ ?_
 rintro n fr L ⟨k,hk,rfl,rfl,rfl⟩
 simp only [qb8,ZZ,WW,Ze,reduceCtorEq,zd,ze,za,zf,zb]
 refine br ?_ ?_
 ·intro h
  have hlt:k < A.length:=by have:=of_decide_eq_true h;omega
  obtain ⟨x,hx⟩:∃ x,A[k]?=some x:=⟨_,List.getElem?_eq_getElem hlt⟩
  have hg:=qmh hx
  have hq:strE (m.fr.2 :: (A.take k).map (·.2))++[[PV.str x.2]]=strE (m.fr.2 :: (A.take (k+1)).map (·.2)):=by rw [qeO _ hx,← List.cons_append,qdV];rfl
  have hql:(m.fr.2 :: (A.take k).map (·.2)).length=k+1:=by simp;omega
  simp only [ZZ,WW,Ze,reduceCtorEq,zd,ze,za,zf,zb,hg,qaY]
  simp only [qac,hql,ZZ,WW,Ze,reduceCtorEq,zd,ze,za,zf,zb]
  ((with_reducible and_intros)<;>try exact sc_)
  rw [hq]
  refine qab (A.length - (k+1)) (oo::oo::oo::.row (.l 9)::oD (oB (oo::(.row (.l 15)::.p (int (A.length:Nat))::.p (int ((k+1):Nat))::oD (oB (oo::[])))))) [(.l 9,.row (strE (m.fr.2 :: (A.take (k+1)).map (·.2))) 9 1 true),(.l 15,.row (adrE A) tAdr 2 true)] (by omega) zF_ zF_ ⟨k+1,by omega,rfl,rfl,rfl⟩
 intro h
 have hge:A.length≤k:=by have:=of_decide_eq_false h;omega
 rw [List.take_of_length_le hge]
 refine zS ?_
 refine use1 (qmC _ (by simp;omega)) rfl (.inl rfl) ?_
 simp only [ZZ,WW,Ze,reduceCtorEq,zd,ze,za,zf,zb]
def inE1 (l:List Int):List (List PV):=l.map fun x=>[int x]
theorem qd1 (l:List Int):(inE1 l).length=l.length:=by simp [inE1]
theorem qtL (l:List Int) (x:Int):inE1 l++[[int x]]=inE1 (l++[x]):=by simp [inE1]
end Go.Proofs.YtjgdjinhkgjpeabGreatDoor
