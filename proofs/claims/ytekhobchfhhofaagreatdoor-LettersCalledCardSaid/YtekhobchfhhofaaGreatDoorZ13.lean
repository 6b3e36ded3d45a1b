import Derived.Test.YtekhobchfhhofaaGreatDoorZ12
set_option linter.unusedVariables false
set_option linter.unusedSimpArgs false
set_option linter.defProp false
namespace Go.Proofs.YtekhobchfhhofaaGreatDoor
open Nat renaming le_refl→zO,reduceAdd→zd,reduceEqDiff→zb,reduceLT→zf,reduceLeDiff→za,reduceMul→ze
open List renaming flatten_cons→zQ,getD→zy,getElem?_eq_getElem→zh,length_cons→zn,length_nil→zx,map_append→zG,map_cons→zA,mem_of_getElem?→zl,mem_of_mem_take→ym,nil_append→zM,take_length→ya
open Bool renaming and_eq_true→zj,false_and→yo
open Go.RowKit
theorem qlj:bits []=[]:=by rw [bits,qcG];rfl
theorem qoy (a b:List UInt8):bits (a++32 :: b)=bits a++bits b:=by
 unfold bits
 rw [qcG,qcG,qcG,qw9,List.filter_append]
theorem ql6:∀ ws:List (List UInt8),bits (qaV ws)=(ws.map bits).flatten
 |[]=>by simp [qaV,Lib.join_nil,qlj]
 |[x]=>by simp [qaV,Lib.join_one]
 |x :: y :: r=>by
  have:=ql6 (y :: r)
  rw [qhO,qoy,this]
  simp
theorem qwz (s:List UInt8):wgt (bits s)≤s.length+1:=by
 unfold bits
 rw [qcG]
 have:=qmU (fun x:List UInt8=>!x.isEmpty) (sp 32 s)
 rw [qrh] at this
 exact this
theorem qlp (s:List UInt8):(sqF s).length≤s.length:=by
 have h1:=qjm (bits s)
 have h2:=qwz s
 unfold sqF
 omega
def isW (ws:List (List UInt8)):Prop:=∀ w∈ws,32∉w∧w≠[]
theorem qox (s:List UInt8):isW (bits s):=by
 intro w hw
 unfold bits at hw
 rw [qcG] at hw
 have h:=List.mem_filter.1 hw
 exact ⟨qxz 32 s w h.1,by intro e;subst e;simp at h⟩
theorem quy {w:List UInt8} (h1:32∉w) (h2:w≠[]):bits w=[w]:=by
 unfold bits
 rw [qcG,qzA h1]
 cases w with
 |nil=>exact absurd rfl h2
 |cons x r=>rfl
theorem qkp:∀ {ws:List (List UInt8)},isW ws→bits (qaV ws)=ws:=by
 intro ws h
 rw [ql6]
 induction ws with
 |nil=>rfl
 |cons x r ih=>
  have hx:=h x (by simp)
  rw [zA,zQ,quy hx.1 hx.2,ih (fun w hw=>h w (by simp [hw]))]
  rfl
theorem qt1 {ws:List (List UInt8)} (h:isW ws):qaV ws=[]↔ws=[]:=by
 constructor
 ·intro e
  have:=qkp h
  rw [e,qlj] at this
  exact this.symm
 ·rintro rfl;rfl
theorem qs9 (s:List UInt8):sqF s=[]↔bits s=[]:=qt1 (qox s)
theorem quz (s:List UInt8):bits s=[]↔s.all (fun c=>[(32:UInt8)].contains c)=true:=by
 induction s with
 |nil=>simp [qlj]
 |cons x s ih=>
  by_cases hx:x=32
  ·subst hx
   have:=qoy [] s
   rw [zM,qlj,zM] at this
   rw [this,ih]
   simp
  ·constructor
   ·intro h
    exfalso
    unfold bits at h
    rw [qcG,sp,if_neg hx] at h
    simp at h
   ·intro h
    simp [hx] at h
theorem qk5 (s:List UInt8):decide (sqF s=[])=qcY s:=by
 have h:qcY s=qsq s [32]:=rfl
 rw [h,qlI,Bool.eq_iff_iff,decide_eq_true_iff,qs9,quz]
theorem qz9 (c:UInt8):lowB c=32↔c=32:=by
 revert c
 refine qme ?_
 decide +kernel
theorem qzB (s:List UInt8):sp 32 (lowF s)=(sp 32 s).map lowF:=by
 induction s with
 |nil=>rfl
 |cons x s ih=>
  have e:lowF (x :: s)=lowB x :: lowF s:=rfl
  rw [e,sp,sp,ih]
  by_cases hx:x=32
  ·rw [if_pos hx,if_pos ((qz9 x).2 hx)];rfl
  ·rw [if_neg hx,if_neg (fun h=>hx ((qz9 x).1 h))]
   cases h:sp 32 s with
   |nil=>exact absurd h (qvb 32 s)
   |cons z r=>rfl
theorem qr2 (s:List UInt8):bits (lowF s)=(bits s).map lowF:=by
 unfold bits
 rw [qcG,qcG,qzB,List.filter_map]
 congr 1
 refine congrArg (fun f=>List.filter f _) ?_
 funext x
 cases x<;>rfl
theorem qrD:∀ ws:List (List UInt8),lowF (qaV ws)=qaV (ws.map lowF)
 |[]=>rfl
 |[x]=>by simp [qaV,Lib.join_one]
 |x :: y :: r=>by
  have:=qrD (y :: r)
  rw [qhO,zA,zA,qhO,← zA,← this]
  simp [lowF]
  rfl
theorem qrF (s:List UInt8):lowF s=[]↔s=[]:=by simp [lowF]
def qc6:IC:=(.seq (.seq (.drg [qM 68 12,qM 69 3,qN 70 69,qT 71 .lss 68 70,qM 72 71,⟨some 73,.mov (.t 3),(some (72,true))⟩,⟨some 74,.mov (.t 12),(some (72,true))⟩,⟨some 75,.ixa 2 (.t 73) (.t 74),(some (72,true))⟩,⟨some 76,.fla 1 (.t 75),(some (72,true))⟩,⟨some 77,.ld 1 false (.t 76),(some (72,true))⟩,⟨some 78,.pcall 0 139 [.t 77],(some (72,true))⟩,⟨some 79,.bin .eql (.t 78) (.c (.str [])),(some (72,true))⟩,qO 80 (.pick (.t 72) (.t 79) (.c (.bool false))),qM 81 80,⟨some 82,.mov (.t 7),(some (81,true))⟩,⟨some 83,.mov (.t 12),(some (81,true))⟩,⟨some 84,.ixa 1 (.t 82) (.t 83),(some (81,true))⟩,⟨some 85,.ld 1 false (.t 84),(some (81,true))⟩,⟨some 86,.fla 0 (.t 11),(some (81,true))⟩,⟨some 87,.ld 1 false (.t 86),(some (81,true))⟩,⟨some 88,.bin .leq (.t 85) (.t 87),(some (81,true))⟩,qO 89 (.pick (.t 81) (.t 88) (.c (.bool false)))]) (.cond (.t 89) .skip (.exit 8))) (.block 9 (.reg [qM 90 12,qB 91 .add 90 (cI 1),qM 12 91])))
def qc7:IC:=(sR [qT 58 .lss 57 56] (.seq (.cond (.t 58) .skip (.exit 6)) (.seq (.block 7 (sR [qM 59 57,qX 60 2 55 57,qO 61 (.ld 2 true (.t 60)),qO 11 (.alc 176 [.int .i64 0,.str []]),qM 10 59,qS 2 11 61] (.seq (sR [wF 62 1 11,qL 63 62,jC 64 195 [.t 63],qO 65 (.not (.t 64))] (jW 65 (.exit 7))) (sR [qM 66 10,qB 67 .add 66 (cI 1),qM 12 67] (.seq (.block 8 (.loop qc6)) (.seq (.drg [qM 92 12,qM 93 3,qN 94 93,qT 95 .lss 92 94,qM 96 95,⟨some 97,.mov (.t 7),(some (96,true))⟩,⟨some 98,.mov (.t 12),(some (96,true))⟩,⟨some 99,.ixa 1 (.t 97) (.t 98),(some (96,true))⟩,⟨some 100,.ld 1 false (.t 99),(some (96,true))⟩,⟨some 101,.fla 0 (.t 11),(some (96,true))⟩,⟨some 102,.ld 1 false (.t 101),(some (96,true))⟩,⟨some 103,.bin .gtr (.t 100) (.t 102),(some (96,true))⟩,qO 104 (.pick (.t 96) (.t 103) (.c (.bool false)))]) (jW 104 (.reg [qM 105 3,qM 106 10,qM 107 7,qM 108 12,qX 109 1 107 108,qL 110 109,qX 111 2 105 106,wF 112 0 111,qS 1 112 110])))))))) (.cut (.reg [qB 113 .add 57 (cI 1),qM 57 113])))))
def qc8:IC:=(sR [qT 45 .lss 44 43] (.seq (.cond (.t 45) .skip (.exit 4)) (.seq (.block 5 (sR [qM 46 44,qX 47 2 42 44,qO 48 (.ld 2 true (.t 47)),qO 9 (.alc 176 [.int .i64 0,.str []]),qM 8 46,qS 2 9 48] (.reg [qM 49 7,qM 50 8,wF 51 0 9,qL 52 51,qX 53 1 49 50,qS 1 53 52]))) (.reg [qB 54 .add 44 (cI 1),qM 44 54]))))
def qc9:IC:=(.seq (sR [wF 22 1 6,qL 23 22,jC 24 88 [.t 23,.c (.str [62])]] (.cond (.t 24) .skip (.exit 2))) (.block 3 (sR [wF 25 0 6,qL 26 25,qB 27 .add 26 (cI 1),wF 28 0 6,qS 1 28 27] (.reg [wF 29 1 6,qL 30 29,qO 31 (.ssl (.t 30) (some (cI 1)) none),jC 32 194 [.t 31,.c (.str [32])],wF 33 1 6,qS 1 33 32]))))
def qda:IC:=(sR [qT 17 .lss 16 15] (.seq (jE 17) (.seq (.block 1 (sR [qX 18 1 14 16,qL 19 18,qM 5 19] (sR [qM 20 5,qO 21 (.bld [.int .i64 0,.str []] [(1,1,.t 20)]),qO 6 (.alc 176 [.int .i64 0,.str []]),qS 2 6 21] (.seq (.block 2 (.loop qc9)) (.reg [qM 34 3,qO 35 (.ld 2 true (.t 6)),qO 36 (.bsl 2 [.t 35]),qO 37 (.app 176 2 24 (.t 34) (.t 36)),qM 3 37]))))) (.reg [qB 38 .add 16 (cI 1),qM 16 38]))))
abbrev qhk:IC:=(sR [qO 2 (.mov (.c (.nl 2)))] (sR [qO 3 (.nilr 176 2)] (.seq (sR [qM 13 0,jC 14 193 [.t 13],qN 15 14,jI 16 0] (.block 0 (.loop qda))) (sR [qM 39 3,qN 40 39,qO 41 (.mks 3 1 8 [.int .i64 0] (.t 40) (.t 40)),qM 7 41] (.seq (sR [qM 42 3,qN 43 42,jI 44 0] (.block 4 (.loop qc8))) (.seq (sR [qM 55 3,qN 56 55,jI 57 0] (.block 6 (.loop qc7))) (sR [qM 114 3,qM 2 114] .ret)))))))
theorem qhr:chkF Tryz.prog Tryz.f137 qhk [.t 2] 115=true:=by kernel_rfl
theorem qrG {s:List UInt8} (h:qkK s=true):qao s=(qbA s).1:=by
 by_cases h0:s=[]
 ·subst h0
  rw [qbA,if_pos rfl,qao,qcG]
  rfl
 ·have h1:sufE s [10]=true:=by
   simp only [qkK,h0,decide_false,Bool.false_or,zj] at h
   exact h.2
  have h2:=h1
  simp only [sufE,zj,decide_eq_true_eq,zn,zx] at h2
  have e:s=s.take (s.length - 1)++10 :: []:=by
   conv=>lhs;rw [← List.take_append_drop (s.length - 1) s]
   rw [h2.2]
  rw [qbA,if_neg h0]
  simp only [qbB,if_pos h1,zn,zx]
  rw [qao,qcG,qcG]
  generalize ht:s.take (s.length - (0+1))=t
  rw [show s.length - (0+1)=s.length - 1 from rfl] at ht
  rw [ht] at e
  rw [e,qw9]
  simp [sp]
theorem qx8 (s:List UInt8):qms s=hitF s:=by
 funext w
 unfold qms hitF
 rw [qk5]
theorem qzg (s:List UInt8):qsH s=qnA s:=by
 unfold qsH qnA
 rw [qx8,Bool.or_comm]
abbrev tQ2:Nat:=176
def rowO (l:List (List UInt8)) (k:Nat):List (List PV):=tb k fun j=>[int (sgF l j),.str (txF l j)]
theorem qnH (l:List (List UInt8)) (k:Nat):(rowO l k).length=k:=qja _ _
theorem qvq {l:List (List UInt8)} {n k:Nat} (h:k < n):(rowO l n).getD k []=[int (sgF l k),.str (txF l k)]:=qg1 h
theorem qvr {l:List (List UInt8)} {k d:Nat} {x t:List UInt8} (hx:l[k]?=some x) (h:qej x=(d,t)):rowO l k++[[int d,.str t]]=rowO l (k+1):=by
 unfold rowO tb
 rw [List.range_succ,zG]
 simp [sgF,txF,zy,hx,h]
def rowP (l:List (List UInt8)) (i:Nat):List (List PV):=tb l.length fun j=>if j < i then [int (qF l j).1,.str (txF l j)] else [int (sgF l j),.str (txF l j)]
theorem qto (l:List (List UInt8)):rowO l l.length=rowP l 0:=qeN fun j hj=>by simp
theorem qeP (l:List (List UInt8)) (k:Nat):(rowP l k).length=l.length:=qja _ _
theorem qk8 {l:List (List UInt8)} {i k:Nat} (h:k < l.length) (hik:i≤k):(rowP l i).getD k []=[int (sgF l k),.str (txF l k)]:=by
 rw [rowP,qg1 h,if_neg (by omega)]
theorem qvo {l:List (List UInt8)} {i d:Nat} (h:(qF l i).1=d):(rowP l i).set i [int d,.str (txF l i)]=rowP l (i+1):=by
 rw [rowP,qre]
 refine qeN fun j _=>?_
 by_cases e:j=i
 ·subst e;simp [h]
 ·simp only [if_neg e,show (j < i+1)=(j < i) from by simp;omega]
theorem qlz {l:List (List UInt8)} {i:Nat} (h:(qF l i).1=sgF l i):rowP l i=rowP l (i+1):=by
 refine qeN fun j _=>?_
 by_cases e:j=i
 ·subst e;simp [h]
 ·simp only [show (j < i+1)=(j < i) from by simp;omega]
def quF (l:List (List UInt8)):List (List PV):=tb l.length fun j=>[int (qF l j).1,.str (txF l j)]
theorem qvp (l:List (List UInt8)):rowP l l.length=quF l:=qeN fun j hj=>by simp [hj]
theorem qft (s:List UInt8):(qao s).length≤s.length∧∀ x∈qao s,x.length≤s.length:=by
 unfold qao
 have h2:=qf1 s 10
 exact ⟨by simp;omega,fun x hx=>qk6 s 10 x (ym hx)⟩
set_option maxHeartbeats 4000000 in
theorem qq5 (s:List UInt8) (hs:s.length≤25000):FCall Tryz.prog E0 137 [.str s] tQ2 2 (·=quF (qao s)):=by
 unfold FCall
 refine qe1 mixed Tryz.func137 qhr ?_
 refine zV ?_
 refine use1 (qne s (by omega)) rfl (.inl rfl) ?_
 rw [qbh]
 obtain ⟨hll,hlb⟩:=qft s
 generalize qao s=l at *
 simp only [ZZ,WW,Ze,reduceCtorEq,zd,ze,za,zf,zb,qac]
 rw [show ([]:List (List PV))=rowO l 0 from rfl]
 refine qae (fun n fr L=>∃ (k:Nat),k≤l.length∧n=l.length - k∧fr=(.p (.str s)::oo::oo::.row (.l 3)::oD (oB (.p (.sl 1 (strE l))::.p (int (l.length:Nat))::.p (int (k:Nat))::oG (oF (oB [])))))∧L=[(.l 3,.row (rowO l k) tQ2 2 true)]) (l.length) _ _ (by simp only [ZZ,WW,Ze,reduceCtorEq,zd,ze,za,zf,zb,qac];try trivial) zF_ ⟨0,by omega,by omega,rfl,rfl⟩ ?_
 rintro n fr L ⟨k,hk,rfl,rfl,rfl⟩
 simp only [qda,ZZ,WW,Ze,reduceCtorEq,zd,ze,za,zf,zb]
 refine br ?_ ?_
 ·intro h
  have hlt:k < l.length:=by have:=of_decide_eq_true h;omega
  obtain ⟨x,hx⟩:∃ x,l[k]?=some x:=⟨_,zh hlt⟩
  have hg:=qaD hx
  have hxb:=hlb x (zl hx)
  simp only [ZZ,WW,Ze,reduceCtorEq,zd,ze,za,zf,zb,hg,qac]
  ((with_reducible and_intros)<;>try exact sc_)
  refine qae (fun n fr L=>∃ (d:Nat) (u:List UInt8),u.length=n∧(qej x=(d+(qej u).1,(qej u).2))∧(d+u.length≤x.length)∧fr=(.p (.str s)::oo::oo::.row (.l 3)::oo::oo::.adr (.l 6) 0::oC (oB (oo::(.p (.sl 1 (strE l))::.p (int (l.length:Nat))::.p (int (k:Nat))::oG (oF (oB []))))))∧L=[(.l 3,.row (rowO l k) tQ2 2 true),(.l 6,.box [.p (int (d:Nat)),.p (.str u)] tQ2)]) (x.length) _ _ zF_ zF_ ⟨0,x,rfl,by simp,by omega,rfl,rfl⟩ ?_
  rintro n fr L ⟨d,u,rfl,hst,hdb,rfl,rfl⟩
  simp only [qc9,ZZ,WW,Ze,reduceCtorEq,zd,ze,za,zf,zb]
  refine use1 (qe3 u [62]) rfl (.inl rfl) ?_
  refine zS ?_
  refine br ?_ ?_
  ·intro h2
   have hlen:=qdw h2
   simp only [zn,zx] at hlen
   have hdec:=qfp h2
   have hy:=qjc h2
   refine zS ?_
   ((with_reducible and_intros)<;>try exact sc_)
   rw [ya,show Int.toNat 1=1 from rfl]
   refine use1 (qgq (u.drop 1) [32] (by simp;omega) (by decide)) rfl (.inl rfl) ?_
   refine zS ?_
   ((with_reducible and_intros)<;>try exact sc_)
   refine qab (((qcp (u.drop 1) [32]).1).length) _ _ (by omega) zF_ zF_ ⟨d+1,(qcp (u.drop 1) [32]).1,rfl,by rw [hst,hy];simp only;congr 1;omega,by omega,rfl,rfl⟩
  ·intro h2
   have hn:=qjd h2
   rw [hn] at hst
   simp only [Nat.add_zero] at hst
   simp only [ZZ,WW,Ze,reduceCtorEq,zd,ze,za,zf,zb,qnH]
   ((with_reducible and_intros)<;>try exact sc_)
   rw [qvr hx hst]
   refine qab (l.length - (k+1)) _ _ (by omega) zF_ zF_ ⟨k+1,by omega,rfl,rfl,rfl⟩
 ·intro h
  have hge:k=l.length:=by have:=of_decide_eq_false h;omega
  subst hge
  simp only [ZZ,WW,Ze,reduceCtorEq,zd,ze,za,zf,zb,qnH]
  refine ⟨⟨by omega,by omega,by omega⟩,?_⟩
  rw [qpf]
  refine qae (fun n fr L=>∃ (k:Nat),k≤l.length∧n=l.length - k∧fr=(.p (.str s)::oo::oo::.row (.l 3)::oo::oo::oo::.row (.l 41)::oF (oB (.row (.l 3)::.p (int (l.length:Nat))::.p (int (k:Nat))::oG (oC (oB [])))))∧L=[(.l 3,.row (rowO l l.length) tQ2 2 true),(.l 41,.row (rowS l k) tInt 1 true)]) (l.length) _ _ (by simp only [ZZ,WW,Ze,reduceCtorEq,zd,ze,za,zf,zb,qac];try trivial) zF_ ⟨0,by omega,by omega,rfl,rfl⟩ ?_
  rintro n fr L ⟨k,hk,rfl,rfl,rfl⟩
  simp only [qc8,ZZ,WW,Ze,reduceCtorEq,zd,ze,za,zf,zb]
  refine br ?_ ?_
  ·intro h
   have hlt:k < l.length:=by have:=of_decide_eq_true h;omega
   have hgS:(rowS l k).getD k []=[int 0]:=by rw [rowS,qg1 hlt];simp
   simp only [ZZ,WW,Ze,reduceCtorEq,zd,ze,za,zf,zb,qnH,qdP,qvq hlt,hgS]
   ((with_reducible and_intros)<;>try exact sc_)
   rw [qrl]
   refine qab (l.length - (k+1)) _ _ (by omega) zF_ zF_ ⟨k+1,by omega,rfl,rfl,rfl⟩
  ·intro h
   have hge:k=l.length:=by have:=of_decide_eq_false h;omega
   subst hge
   rw [qto]
   simp only [ZZ,WW,Ze,reduceCtorEq,zd,ze,za,zf,zb,qeP]
   refine qae (fun n fr L=>∃ (i:Nat),i≤l.length∧n=l.length - i∧fr=(.p (.str s)::oo::oo::.row (.l 3)::oo::oo::oo::.row (.l 41)::oF (oD (oC (oB (oo::(.row (.l 3)::.p (int (l.length:Nat))::.p (int (i:Nat))::oF (oE (oD (oo::[])))))))))∧L=[(.l 3,.row (rowP l i) tQ2 2 true),(.l 41,.row (rowS l l.length) tInt 1 true)]) (l.length) _ _ (by simp only [ZZ,WW,Ze,reduceCtorEq,zd,ze,za,zf,zb,qac];try trivial) zF_ ⟨0,by omega,by omega,rfl,rfl⟩ ?_
   rintro n fr L ⟨i,hi,rfl,rfl,rfl⟩
   simp only [qc7,ZZ,WW,Ze,reduceCtorEq,zd,ze,za,zf,zb]
   refine br ?_ ?_
   ·intro h
    have hlt:i < l.length:=by have:=of_decide_eq_true h;omega
    have hsb:=qo9 hlb i
    simp only [ZZ,WW,Ze,reduceCtorEq,zd,ze,za,zf,zb,qeP,qk8 hlt (zO i)]
    ((with_reducible and_intros)<;>try exact sc_)
    refine use1 (qmK (txF l i) (by omega)) rfl (.inl rfl) ?_
    rw [qzg]
    refine zS ?_
    refine br ?_ ?_
    ·intro hn
     have hn:qnA (txF l i)=false:=by simpa using hn
     have hq:(qF l i).1=sgF l i:=by simp [qF,hn]
     have hR:=qlz hq
     refine zS ?_
     refine qad zE_ ?_
     refine zS ?_
     ((with_reducible and_intros)<;>try exact sc_)
     rw [hR]
     refine qab (l.length - (i+1)) _ _ (by omega) zF_ zF_ ⟨i+1,by omega,rfl,rfl,rfl⟩
    ·intro hy
     have hy:qnA (txF l i)=true:=by simpa using hy
     refine zS ?_
     ((with_reducible and_intros)<;>try exact sc_)
     refine qae (fun n fr L=>∃ (k:Nat),l.length - k=n∧(atF l i (i+1)=atF l i k)∧(i < k∧k≤l.length)∧fr=(.p (.str s)::oo::oo::.row (.l 3)::oo::oo::oo::.row (.l 41)::oo::oo::.p (int (i:Nat))::.adr (.l 11) 0::.p (int (k:Nat))::oF (oD (oB (.row (.l 3)::.p (int (l.length:Nat))::.p (int (i:Nat))::oF (oE (oD (oo::[])))))))∧L=[(.l 3,.row (rowP l i) tQ2 2 true),(.l 41,.row (rowS l l.length) tInt 1 true),(.l 11,.box [.p (int (sgF l i:Nat)),.p (.str (txF l i))] tQ2)]) (l.length - (i+1)) _ _ zF_ zF_ ⟨i+1,rfl,rfl,by omega,rfl,rfl⟩ ?_
     rintro n fr L ⟨k,rfl,hat,hki,rfl,rfl⟩
     simp only [qc6,ZZ,WW,Ze,reduceCtorEq,zd,ze,za,zf,zb]
     have hsb2:=qo9 hlb k
     refine drg1 (x1:=.str (sqF (txF l k))) ?_
     by_cases hkn:k < l.length
     ·have hd:decide ((k:Int) < l.length)=true:=by simp;omega
      simp only [ZZ,WW,Ze,reduceCtorEq,zd,ze,za,zf,zb,qeP,qdP,qk8 hkn (by omega:i≤k),qhI hkn,hd]
      ((repeat' (with_reducible apply And.intro))<;>try (first|exact usep (qbK (txF l k) (by omega)) rfl (.inl rfl)|(exact sc_)))
      rw [qk5]
      refine br ?_ ?_
      ·intro hc
       have hc:qcY (txF l k)=true∧sgF l k≤sgF l i:=by simpa using hc
       have hn4:atF l i k=atF l i (k+1):=by rw [atF,dif_pos hkn,if_neg (by omega),if_pos hc.1]
       simp only [ZZ,WW,Ze,reduceCtorEq,zd,ze,za,zf,zb,qd4]
       ((with_reducible and_intros)<;>try exact sc_)
       refine qab (l.length - (k+1)) _ _ (by omega) zF_ zF_ ⟨k+1,rfl,by rw [hat,hn4],by omega,rfl,rfl⟩
      ·intro hc
       simp only [ZZ,WW,Ze,reduceCtorEq,zd,ze,za,zf,zb,qd4]
       refine drg0 ?_
       simp only [ZZ,WW,Ze,reduceCtorEq,zd,ze,za,zf,zb,qeP,qdP,qk8 hkn (by omega:i≤k),qhI hkn,hd]
       ((with_reducible and_intros)<;>try exact sc_)
       refine br ?_ ?_
       ·intro h3
        have h3:sgF l i < sgF l k:=by have:=of_decide_eq_true h3;omega
        have hq:(qF l i).1=sgF l k:=by
         have:atF l i k=some (sgF l k):=by rw [atF,dif_pos hkn,if_pos h3]
         simp [qF,hy,hat,this]
        have hR:=qvo hq
        simp only [ZZ,WW,Ze,reduceCtorEq,zd,ze,za,zf,zb,qd4,qeP,qdP,qk8 hlt (zO i),qhI hkn]
        rw [hR]
        ((with_reducible and_intros)<;>try exact sc_)
        refine qad zE_ ?_
        refine zS ?_
        ((with_reducible and_intros)<;>try exact sc_)
        refine qab (l.length - (i+1)) _ _ (by omega) zF_ zF_ ⟨i+1,by omega,rfl,rfl,rfl⟩
       ·intro h3
        have h3:¬ sgF l i < sgF l k:=by have:=of_decide_eq_false h3;omega
        have h5:qcY (txF l k)=false:=by
         cases hb:qcY (txF l k) with
         |false=>rfl
         |true=>rw [hb] at hc;simp at hc;omega
        have hq:(qF l i).1=sgF l i:=by
         have:atF l i k=none:=by rw [atF,dif_pos hkn,if_neg h3,if_neg (by rw [h5];simp)]
         simp [qF,hy,hat,this]
        have hR:=qlz hq
        simp only [ZZ,WW,Ze,reduceCtorEq,zd,ze,za,zf,zb,qd4]
        refine qad zE_ ?_
        refine zS ?_
        ((with_reducible and_intros)<;>try exact sc_)
        rw [hR]
        refine qab (l.length - (i+1)) _ _ (by omega) zF_ zF_ ⟨i+1,by omega,rfl,rfl,rfl⟩
     ·have hd:decide ((k:Int) < l.length)=false:=by simp;omega
      have hgn:(rowS l l.length).getD k []=[]:=by simp [zy,qdP,hkn]
      have hgp:(rowP l i).getD k []=[]:=by simp [zy,qeP,hkn]
      simp only [ZZ,WW,Ze,reduceCtorEq,zd,ze,za,zf,zb,qeP,qdP,hd,false_implies,yo,hgn,hgp]
      have hq:(qF l i).1=sgF l i:=by
       have:atF l i k=none:=by rw [atF,dif_neg hkn]
       simp [qF,hy,hat,this]
      have hR:=qlz hq
      refine drg0 ?_
      simp only [ZZ,WW,Ze,reduceCtorEq,zd,ze,za,zf,zb,qeP,qdP,hd,false_implies,yo,hgn,hgp,qd4]
      refine qad zE_ ?_
      refine zS ?_
      ((with_reducible and_intros)<;>try exact sc_)
      rw [hR]
      refine qab (l.length - (i+1)) _ _ (by omega) zF_ zF_ ⟨i+1,by omega,rfl,rfl,rfl⟩
   ·intro h
    have hge:i=l.length:=by have:=of_decide_eq_false h;omega
    subst hge
    rw [qvp]
    refine zS ?_
    exact qiM 3 _ rfl rfl rfl
def qgy:IC:=(.seq (sR [qM 31 5,qN 32 31,qB 33 .gtr 32 (cI 0),qM 34 33,⟨some 35,.mov (.t 5),(some (34,true))⟩,⟨some 36,.mov (.t 5),(some (34,true))⟩,⟨some 37,.len (.t 36),(some (34,true))⟩,⟨some 38,.bin .sub (.t 37) (cI 1),(some (34,true))⟩,⟨some 39,.ixa 1 (.t 35) (.t 38),(some (34,true))⟩,⟨some 40,.ld 1 false (.t 39),(some (34,true))⟩,⟨some 41,.call 168 [.t 40],(some (34,true))⟩,qO 42 (.pick (.t 34) (.t 41) (.c (.bool false)))] (.cond (.t 42) .skip (.exit 2))) (.block 3 (.reg [qM 43 5,qM 44 5,qN 45 44,qB 46 .sub 45 (cI 1),qO 47 (.trn 1 (.t 43) (.t 46)),qM 5 47])))
def qgz:IC:=(sR [qT 17 .lss 16 15] (.seq (jE 17) (.seq (.block 1 (sR [qX 18 3 14 16,qO 19 (.ld 3 true (.t 18)),qO 7 (.alc 200 [.int .i64 0,.str [],.bool false]),qS 3 7 19] (sR [wF 20 0 7,wF 21 0 20,qL 22 21,qB 23 .eql 22 (cI 0)] (jW 23 (.reg [qM 24 5,wF 25 0 7,wF 26 1 25,qL 27 26,qO 28 (.bsl 1 [.t 27]),qO 29 (.app 9 1 16 (.t 24) (.t 28)),qM 5 29]))))) (.cut (.reg [qB 30 .add 16 (cI 1),qM 16 30])))))
abbrev qn9:IC:=(sR [qO 2 (.mov (.c (.str []))),jI 3 0] (.seq (sR [qM 8 0,jC 9 119 [.t 8],qM 4 9] (sR [qM 10 4,qB 11 .neq 10 (cI 0)] (jW 11 (sR [qM 12 4,qO 2 (.mov (.c (.str []))),qM 3 12] .ret)))) (sR [qO 5 (.nilr 9 1)] (.seq (sR [qM 13 0,jC 14 167 [.t 13],qN 15 14,jI 16 0] (.block 0 (.loop qgz))) (.seq (.block 2 (.loop qgy)) (.seq (sR [qM 48 5,qN 49 48,qB 50 .eql 49 (cI 0)] (jW 50 (sR [qO 2 (.mov (.c (.str []))),jI 3 0] .ret))) (sR [qM 51 5,jC 52 109 [.t 51,.c (.str [10])],qB 53 .add 52 (.c (.str [10])),qM 2 53,jI 3 0] .ret)))))))
theorem qom:chkF Tryz.prog Tryz.f102 qn9 [.t 2,.t 3] 54=true:=by kernel_rfl
def qdX:IC:=(.seq (sR [qM 22 3,qN 23 22,qB 24 .gtr 23 (cI 0),qM 25 24,⟨some 26,.mov (.t 3),(some (25,true))⟩,⟨some 27,.mov (.t 3),(some (25,true))⟩,⟨some 28,.len (.t 27),(some (25,true))⟩,⟨some 29,.bin .sub (.t 28) (cI 1),(some (25,true))⟩,⟨some 30,.ixa 1 (.t 26) (.t 29),(some (25,true))⟩,⟨some 31,.ld 1 false (.t 30),(some (25,true))⟩,⟨some 32,.call 139 [.t 31],(some (25,true))⟩,⟨some 33,.bin .eql (.t 32) (.c (.str [])),(some (25,true))⟩,qO 34 (.pick (.t 25) (.t 33) (.c (.bool false)))] (.cond (.t 34) .skip (.exit 2))) (.block 3 (.reg [qM 35 3,qM 36 3,qN 37 36,qB 38 .sub 37 (cI 1),qO 39 (.trn 1 (.t 35) (.t 38)),qM 3 39])))
def qdY:IC:=(sR [qT 10 .lss 9 8] (.seq (jE 10) (.seq (.block 1 (sR [qX 11 2 7 9,qO 12 (.ld 2 true (.t 11)),qO 5 (.alc 176 [.int .i64 0,.str []]),qS 2 5 12] (sR [wF 13 0 5,qL 14 13,qB 15 .eql 14 (cI 0)] (jW 15 (.reg [qM 16 3,wF 17 1 5,qL 18 17,qO 19 (.bsl 1 [.t 18]),qO 20 (.app 9 1 16 (.t 16) (.t 19)),qM 3 20]))))) (.cut (.reg [qB 21 .add 9 (cI 1),qM 9 21])))))
abbrev qju:IC:=(sR [qO 2 (.mov (.c (.str [])))] (sR [qO 3 (.nilr 9 1)] (.seq (sR [qM 6 0,jC 7 137 [.t 6],qN 8 7,jI 9 0] (.block 0 (.loop qdY))) (.seq (.block 2 (.loop qdX)) (.seq (sR [qM 40 3,qN 41 40,qB 42 .eql 41 (cI 0)] (jW 42 (sR [qO 2 (.mov (.c (.str [])))] .ret))) (sR [qM 43 3,jC 44 109 [.t 43,.c (.str [10])],qB 45 .add 44 (.c (.str [10])),qM 2 45] .ret))))))
theorem qjJ:chkF Tryz.prog Tryz.f68 qju [.t 2] 46=true:=by kernel_rfl
theorem qi6 (l:List (List UInt8)):(apF l).length=l.length:=qja _ _
theorem qmc {l:List (List UInt8)} {k:Nat} (h:k < l.length):(apF l).getD k []=[int (qF l k).1,.str (txF l k),.bool (qF l k).2]:=qg1 h
theorem qir (l:List (List UInt8)):(quF l).length=l.length:=qja _ _
theorem qnR {l:List (List UInt8)} {k:Nat} (h:k < l.length):(quF l).getD k []=[int (qF l k).1,.str (txF l k)]:=qg1 h
theorem qxi (s:List UInt8) (hs:s.length≤25000):PCall Tryz.prog E0 167 [.str s] (·=.sl 3 (apF (qbA s).1)):=qnV (qwJ s hs)
theorem qq4 (s:List UInt8) (hs:s.length≤25000):PCall Tryz.prog E0 137 [.str s] (·=.sl 2 (quF (qao s))):=qnV (qq5 s hs)
theorem qn7 (c:UInt8):∀ (l:List (List UInt8)),(Lib.join l [c]).length≤wgt l - 1
 |[]=>by simp [Lib.join_nil]
 |[x]=>by simp [Lib.join_one,wgt]
 |x :: y :: r=>by
  have:=qn7 c (y :: r)
  rw [Lib.join_cons] at this ⊢
  simp only [wgt,Lib.joinTail,zA,zQ,List.length_append,zn,zx] at this ⊢
  omega
theorem qw5 (m:Nat):∀ (l:List (List UInt8)),(∀ x∈l,x.length≤m)→wgt l≤l.length * (m+1)
 |[],_=>by simp [wgt]
 |x :: r,h=>by
  have h1:=qw5 m r (fun y hy=>h y (by simp [hy]))
  have h2:=h x (by simp)
  simp only [wgt,zn,Nat.add_mul,Nat.one_mul]
  omega
def ownF (l:List (List UInt8)) (k:Nat):List (List UInt8):=((List.range k).filter fun j=>decide ((qF l j).1=0)).map (txF l)
theorem qlE (l:List (List UInt8)) (k:Nat):ownF l (k+1)=if (qF l k).1=0 then ownF l k++[txF l k] else ownF l k:=by
 unfold ownF
 rw [List.range_succ,List.filter_append,zG]
 by_cases h:(qF l k).1=0<;>simp [h]
theorem qla (l:List (List UInt8)) (k:Nat):(ownF l k).length≤k:=by
 unfold ownF
 rw [List.length_map]
 exact Nat.le_trans (List.length_filter_le _ _) (by simp)
theorem qtz {l:List (List UInt8)} {m:Nat} (hb:∀ x∈l,x.length≤m) (k:Nat):∀ x∈ownF l k,x.length≤m:=by
 intro x hx
 unfold ownF at hx
 obtain ⟨j,_,rfl⟩:=List.mem_map.1 hx
 have:=qo9 hb j
 omega
def endB (ws:List (List UInt8)):Nat→Nat
 |0=>0
 |m+1=>if qcY (ws.getD m [])=true then endB ws m else m+1
def ownS (ws:List (List UInt8)):List UInt8:=if endB ws ws.length=0 then [] else Lib.join (ws.take (endB ws ws.length)) [10]++[10]
theorem qmV (ws:List (List UInt8)) (m n:Nat) (h:n≤m):(strE (ws.take m)).take n=strE (ws.take n):=by
 rw [strE,strE,← List.map_take,List.take_take,Nat.min_eq_left h]
theorem qpD (ws:List (List UInt8)) (m:Nat) (hm:ws.length≤25001) (hb:∀ x∈ws,x.length≤25000):(Lib.join (ws.take m) [10]).length≤900000000:=by
 have h1:=qn7 10 (ws.take m)
 have h2:=qw5 25000 (ws.take m) (fun x hx=>hb x (ym hx))
 have h3:(ws.take m).length≤25001:=by simp;omega
 have h4:(ws.take m).length * (25000+1)≤25001 * 25001:=Nat.mul_le_mul h3 (zO _)
 omega
theorem int0 (n:Nat):decide ((n:Int)=0)=decide (n=0):=by simp
set_option maxHeartbeats 4000000 in
theorem qzn (s:List UInt8) (hs:s.length≤1000000000):PCall Tryz.prog E0 102 [.str s] (·=.tup [.str (if qel s=0 then ownS (ownF (qbA s).1 (qbA s).1.length) else []),int (qel s)]):=by
 refine qag mixed Tryz.func102 qom ?_
 refine zV ?_
 refine use1 (qht s hs) rfl (.inl rfl) ?_
 refine zS ?_
 refine br ?_ ?_
 ·intro h
  have h:¬ qel s=0:=by simpa using h
  refine zS ?_
  rw [if_neg h]
 intro h
 have h:qel s=0:=by simpa using h
 have hs2:s.length≤25000:=by have:=(qep h).1;omega
 rw [if_pos h,h]
 refine zS ?_
 refine use1 (qxi s hs2) rfl (.inl rfl) ?_
 obtain ⟨hll,hlb⟩:=qlK s
 generalize (qbA s).1=l at *
 simp only [ZZ,WW,Ze,reduceCtorEq,zd,ze,za,zf,zb,qi6]
 rw [show ([]:List (List PV))=strE (ownF l 0) from rfl]
 refine qae (fun n fr L=>∃ (k:Nat),k≤l.length∧n=l.length - k∧fr=(oC (oo::(.row (.l 5)::oD (.p (.sl 3 (apF l))::.p (int (l.length:Nat))::.p (int (k:Nat))::oF (oC (oo::[]))))))∧L=[(.l 5,.row (strE (ownF l k)) tStr 1 true)]) (l.length) _ _ (by simp only [ZZ,WW,Ze,reduceCtorEq,zd,ze,za,zf,zb,qac];try trivial) zF_ ⟨0,by omega,by omega,rfl,rfl⟩ ?_
 rintro n fr L ⟨k,hk,rfl,rfl,rfl⟩
 simp only [qgz,ZZ,WW,Ze,reduceCtorEq,zd,ze,za,zf,zb]
 refine br ?_ ?_
 ·intro h
  have hlt:k < l.length:=by have:=of_decide_eq_true h;omega
  have hol:=qla l k
  have hos:=qlE l k
  simp only [ZZ,WW,Ze,reduceCtorEq,zd,ze,za,zf,zb,qmc hlt,qi6]
  ((with_reducible and_intros)<;>try exact sc_)
  rw [int0]
  refine br ?_ ?_
  ·intro h0
   have h0:(qF l k).1=0:=of_decide_eq_true h0
   rw [if_pos h0] at hos
   simp only [ZZ,WW,Ze,reduceCtorEq,zd,ze,za,zf,zb,qac]
   ((with_reducible and_intros)<;>try exact sc_)
   refine qad zE_ ?_
   refine zS ?_
   ((with_reducible and_intros)<;>try exact sc_)
   rw [qal,← qdO,← hos]
   refine qab (l.length - (k+1)) _ _ (by omega) zF_ zF_ ⟨k+1,by omega,rfl,rfl,rfl⟩
  ·intro h0
   have h0:¬ (qF l k).1=0:=of_decide_eq_false h0
   rw [if_neg h0] at hos
   refine zS ?_
   refine qad zE_ ?_
   refine zS ?_
   ((with_reducible and_intros)<;>try exact sc_)
   rw [← hos]
   refine qab (l.length - (k+1)) _ _ (by omega) zF_ zF_ ⟨k+1,by omega,rfl,rfl,rfl⟩
 ·intro h
  have hge:k=l.length:=by have:=of_decide_eq_false h;omega
  subst hge
  have hol:=qla l l.length
  have hob:=qtz (m:=25000) (fun x hx=>by have:=hlb x hx;omega) l.length
  generalize ownF l l.length=ws at *
  refine zS ?_
  rw [show strE ws=strE (ws.take ws.length) from by rw [ya]]
  refine qae (fun n fr L=>∃ (m:Nat),m=n∧(m≤ws.length)∧(endB ws ws.length=endB ws m)∧fr=(oC (oo::(.row (.l 5)::oF (oE []))))∧L=[(.l 5,.row (strE (ws.take m)) tStr 1 true)]) ((ws.length)) _ _ zF_ zF_ ⟨ws.length,rfl,by omega,rfl,rfl,rfl⟩ ?_
  rintro n fr L ⟨m,rfl,hmw,hme,rfl,rfl⟩
  simp only [qgy,ZZ,WW,Ze,reduceCtorEq,zd,ze,za,zf,zb]
  have htl:(strE (ws.take m)).length=m:=by rw [qac];simp;omega
  rcases m with _|m
  ·have hd:decide ((0:Int) < ((0:Nat):Int))=false:=by decide
   have hse:strE ([]:List (List UInt8))=[]:=rfl
   have hgz:∀ k,([]:List (List PV)).getD k []=[]:=fun k=>by simp
   have hfin:ownS ws=[]:=by rw [ownS,hme];rfl
   simp only [ZZ,WW,Ze,reduceCtorEq,zd,ze,za,zf,zb,hse,hd,hgz,false_implies,yo,qd4]
   refine qsX (fun hc=>by cases hc) (fun _=>?_)
   simp only [ZZ,WW,Ze,reduceCtorEq,zd,ze,za,zf,zb,hse,hd,hgz,false_implies,yo,qd4]
   refine br (fun _=>?_) (fun hc=>by simp at hc)
   refine zS ?_
   rw [hfin]
  ·have hd:decide ((0:Int) < ((m+1:Nat):Int))=true:=decide_eq_true (by omega)
   have hn:(((m+1:Nat):Int) - 1).toNat=m:=by omega
   obtain ⟨x,hx⟩:∃ x,ws[m]?=some x:=⟨_,zh (by omega)⟩
   have hg:(strE (ws.take (m+1))).getD m []=[.str x]:=qaD (by rw [List.getElem?_take_of_lt (by omega)];exact hx)
   have hxb:=hob x (zl hx)
   have hxd:ws.getD m []=x:=by simp [zy,hx]
   simp only [ZZ,WW,Ze,reduceCtorEq,zd,ze,za,zf,zb,htl,hd,hn,hg]
   ((with_reducible and_intros)<;>try exact sc_)
   refine useG (fun _=>qgk x (by omega)) rfl (.inl rfl) ?_
   simp only [ZZ,WW,Ze,reduceCtorEq,zd,ze,za,zf,zb,qd4]
   refine br ?_ ?_
   ·intro hb
    have hst:=qmV ws (m+1) m (by omega)
    have hep:endB ws (m+1)=endB ws m:=by rw [endB,hxd,if_pos hb]
    simp only [ZZ,WW,Ze,reduceCtorEq,zd,ze,za,zf,zb,htl,hd,hn,hg,hst,qd4]
    ((with_reducible and_intros)<;>try exact sc_)
    refine qab ((m)) _ _ (by omega) zF_ zF_ ⟨m,rfl,by omega,by rw [hme,hep],rfl,rfl⟩
   ·intro hb
    have hep:endB ws (m+1)=m+1:=by rw [endB,hxd,if_neg (by rw [hb];simp)]
    have hfin:ownS ws=Lib.join (ws.take (m+1)) [10]++[10]:=by rw [ownS,hme,hep,if_neg (by omega)]
    have hz:decide (((m+1:Nat):Int)=0)=false:=decide_eq_false (by omega)
    simp only [ZZ,WW,Ze,reduceCtorEq,zd,ze,za,zf,zb,htl,hz,qd4]
    have hjb:=qpD ws (m+1) (by omega) hob
    refine use1 (qoM (ws.take (m+1)) [10] (by simp;omega) (by omega)) rfl (.inr rfl) ?_
    simp only [ZZ,WW,Ze,reduceCtorEq,zd,ze,za,zf,zb,hfin]
    omega
set_option maxHeartbeats 4000000 in
theorem qwO (s:List UInt8) (hs:s.length≤25000):PCall Tryz.prog E0 68 [.str s] (·=.str (ownS (ownF (qao s) (qao s).length))):=by
 refine qag mixed Tryz.func68 qjJ ?_
 refine zV ?_
 refine use1 (qq4 s hs) rfl (.inl rfl) ?_
 obtain ⟨hll,hlb⟩:=qft s
 generalize qao s=l at *
 simp only [ZZ,WW,Ze,reduceCtorEq,zd,ze,za,zf,zb,qir]
 rw [show ([]:List (List PV))=strE (ownF l 0) from rfl]
 refine qae (fun n fr L=>∃ (k:Nat),k≤l.length∧n=l.length - k∧fr=(oo::oo::oo::.row (.l 3)::oo::oo::oo::.p (.sl 2 (quF l))::.p (int (l.length:Nat))::.p (int (k:Nat))::oF (oC []))∧L=[(.l 3,.row (strE (ownF l k)) tStr 1 true)]) (l.length) _ _ (by simp only [ZZ,WW,Ze,reduceCtorEq,zd,ze,za,zf,zb,qac];try trivial) zF_ ⟨0,by omega,by omega,rfl,rfl⟩ ?_
 rintro n fr L ⟨k,hk,rfl,rfl,rfl⟩
 simp only [qdY,ZZ,WW,Ze,reduceCtorEq,zd,ze,za,zf,zb]
 refine br ?_ ?_
 ·intro h
  have hlt:k < l.length:=by have:=of_decide_eq_true h;omega
  have hol:=qla l k
  have hos:=qlE l k
  simp only [ZZ,WW,Ze,reduceCtorEq,zd,ze,za,zf,zb,qnR hlt,qir]
  ((with_reducible and_intros)<;>try exact sc_)
  rw [int0]
  refine br ?_ ?_
  ·intro h0
   have h0:(qF l k).1=0:=of_decide_eq_true h0
   rw [if_pos h0] at hos
   simp only [ZZ,WW,Ze,reduceCtorEq,zd,ze,za,zf,zb,qac]
   ((with_reducible and_intros)<;>try exact sc_)
   refine qad zE_ ?_
   refine zS ?_
   ((with_reducible and_intros)<;>try exact sc_)
   rw [qal,← qdO,← hos]
   refine qab (l.length - (k+1)) _ _ (by omega) zF_ zF_ ⟨k+1,by omega,rfl,rfl,rfl⟩
  ·intro h0
   have h0:¬ (qF l k).1=0:=of_decide_eq_false h0
   rw [if_neg h0] at hos
   refine zS ?_
   refine qad zE_ ?_
   refine zS ?_
   ((with_reducible and_intros)<;>try exact sc_)
   rw [← hos]
   refine qab (l.length - (k+1)) _ _ (by omega) zF_ zF_ ⟨k+1,by omega,rfl,rfl,rfl⟩
 ·intro h
  have hge:k=l.length:=by have:=of_decide_eq_false h;omega
  subst hge
  have hol:=qla l l.length
  have hob:=qtz (m:=25000) (fun x hx=>by have:=hlb x hx;omega) l.length
  generalize ownF l l.length=ws at *
  refine zS ?_
  rw [show strE ws=strE (ws.take ws.length) from by rw [ya]]
  refine qae (fun n fr L=>∃ (m:Nat),m=n∧(m≤ws.length)∧(endB ws ws.length=endB ws m)∧fr=(oo::oo::oo::.row (.l 3)::oF (oD (oB [])))∧L=[(.l 3,.row (strE (ws.take m)) tStr 1 true)]) ((ws.length)) _ _ zF_ zF_ ⟨ws.length,rfl,by omega,rfl,rfl,rfl⟩ ?_
  rintro n fr L ⟨m,rfl,hmw,hme,rfl,rfl⟩
  simp only [qdX,ZZ,WW,Ze,reduceCtorEq,zd,ze,za,zf,zb]
  have htl:(strE (ws.take m)).length=m:=by rw [qac];simp;omega
  rcases m with _|m
  ·have hd:decide ((0:Int) < ((0:Nat):Int))=false:=by decide
   have hse:strE ([]:List (List UInt8))=[]:=rfl
   have hgz:∀ k,([]:List (List PV)).getD k []=[]:=fun k=>by simp
   have hfin:ownS ws=[]:=by rw [ownS,hme];rfl
   simp only [ZZ,WW,Ze,reduceCtorEq,zd,ze,za,zf,zb,hse,hd,hgz,false_implies,yo,qd4]
   refine qsX (fun hc=>by cases hc) (fun _=>?_)
   simp only [ZZ,WW,Ze,reduceCtorEq,zd,ze,za,zf,zb,hse,hd,hgz,false_implies,yo,qd4]
   refine br (fun _=>?_) (fun hc=>by simp at hc)
   refine zS ?_
   rw [hfin]
  ·have hd:decide ((0:Int) < ((m+1:Nat):Int))=true:=decide_eq_true (by omega)
   have hn:(((m+1:Nat):Int) - 1).toNat=m:=by omega
   obtain ⟨x,hx⟩:∃ x,ws[m]?=some x:=⟨_,zh (by omega)⟩
   have hg:(strE (ws.take (m+1))).getD m []=[.str x]:=qaD (by rw [List.getElem?_take_of_lt (by omega)];exact hx)
   have hxb:=hob x (zl hx)
   have hxd:ws.getD m []=x:=by simp [zy,hx]
   simp only [ZZ,WW,Ze,reduceCtorEq,zd,ze,za,zf,zb,htl,hd,hn,hg]
   ((with_reducible and_intros)<;>try exact sc_)
   refine useG (fun _=>qbK x (by omega)) rfl (.inl rfl) ?_
   simp only [ZZ,WW,Ze,reduceCtorEq,zd,ze,za,zf,zb,qd4]
   rw [qk5]
   refine br ?_ ?_
   ·intro hb
    have hst:=qmV ws (m+1) m (by omega)
    have hep:endB ws (m+1)=endB ws m:=by rw [endB,hxd,if_pos hb]
    simp only [ZZ,WW,Ze,reduceCtorEq,zd,ze,za,zf,zb,htl,hd,hn,hg,hst,qd4]
    ((with_reducible and_intros)<;>try exact sc_)
    refine qab ((m)) _ _ (by omega) zF_ zF_ ⟨m,rfl,by omega,by rw [hme,hep],rfl,rfl⟩
   ·intro hb
    have hep:endB ws (m+1)=m+1:=by rw [endB,hxd,if_neg (by rw [hb];simp)]
    have hfin:ownS ws=Lib.join (ws.take (m+1)) [10]++[10]:=by rw [ownS,hme,hep,if_neg (by omega)]
    have hz:decide (((m+1:Nat):Int)=0)=false:=decide_eq_false (by omega)
    simp only [ZZ,WW,Ze,reduceCtorEq,zd,ze,za,zf,zb,htl,hz,qd4]
    have hjb:=qpD ws (m+1) (by omega) hob
    refine use1 (qoM (ws.take (m+1)) [10] (by simp;omega) (by omega)) rfl (.inr rfl) ?_
    simp only [ZZ,WW,Ze,reduceCtorEq,zd,ze,za,zf,zb,hfin]
    omega
def qcC:IC:=(.seq (sR [qM 23 8,jC 24 88 [.t 23,.c (.str [62])]] (.cond (.t 24) .skip (.exit 2))) (.block 3 (sR [qM 25 7,qB 26 .add 25 (cI 1),qM 7 26] (.reg [qM 27 8,qO 28 (.ssl (.t 27) (some (cI 1)) none),jC 29 194 [.t 28,.c (.str [32])],qM 8 29]))))
def qcD:IC:=(sR [qT 15 .lss 14 13] (.seq (jE 15) (.seq (.block 1 (sR [qM 16 14,qX 17 2 12 14,qO 18 (.ld 2 true (.t 17)),qO 6 (.alc 176 [.int .i64 0,.str []]),qM 5 16,qS 2 6 18] (sR [jI 7 0] (sR [qM 19 3,qM 20 5,qX 21 1 19 20,qL 22 21,qM 8 22] (.seq (.block 2 (.loop qcC)) (.reg [qM 30 4,qM 31 7,wF 32 0 6,qL 33 32,qT 34 .neq 31 33,qO 35 (.bsl 1 [.t 34]),qO 36 (.app 4 1 1 (.t 30) (.t 35)),qM 4 36])))))) (.reg [qB 37 .add 14 (cI 1),qM 14 37]))))
abbrev qf8:IC:=(sR [qO 2 (.mov (.c (.nl 1)))] (sR [qM 9 0,jC 10 193 [.t 9],qM 3 10] (sR [qO 4 (.nilr 4 1)] (.seq (sR [qM 11 0,jC 12 137 [.t 11],qN 13 12,jI 14 0] (.block 0 (.loop qcD))) (sR [qM 38 4,qM 2 38] .ret)))))
theorem qgg:chkF Tryz.prog Tryz.f136 qf8 [.t 2] 39=true:=by kernel_rfl
theorem qAv (l:List (List UInt8)) (i d:Nat):∀ (n k:Nat),l.length - k≤n→atF l i k=some d→sgF l i < d:=by
 intro n
 induction n with
 |zero=>
  intro k hk h
  rw [atF] at h
  split at h
  ·omega
  ·cases h
 |succ n ih=>
  intro k hk h
  rw [atF] at h
  split at h
  ·split at h
   ·injection h with h;omega
   ·split at h
    ·exact ih (k+1) (by omega) h
    ·cases h
  ·cases h
theorem qyg (l:List (List UInt8)) (j:Nat):(!decide (((sgF l j:Nat):Int)=((qF l j).1:Nat)))=(qF l j).2:=by
 unfold qF
 split
 ·cases h:atF l j (j+1) with
  |none=>simp
  |some d=>
   have:=qAv l j d _ _ (zO _) h
   simp
   omega
 ·simp
def rowM (l:List (List UInt8)) (k:Nat):List (List PV):=tb k fun j=>[.bool (qF l j).2]
theorem qf3 (l:List (List UInt8)) (k:Nat):(rowM l k).length=k:=qja _ _
theorem qhJ {l:List (List UInt8)} {n k:Nat} (h:k < n):(rowM l n).getD k []=[.bool (qF l k).2]:=qg1 h
theorem qvs (l:List (List UInt8)) (k:Nat):rowM l k++[[.bool (qF l k).2]]=rowM l (k+1):=by
 unfold rowM tb
 rw [List.range_succ,zG]
 rfl
abbrev qmo:Nat:=4
set_option maxHeartbeats 4000000 in
theorem qoC (s:List UInt8) (hs:s.length≤25000):PCall Tryz.prog E0 136 [.str s] (·=.sl 1 (rowM (qao s) (qao s).length)):=by
 refine qag mixed Tryz.func136 qgg ?_
 refine zV ?_
 refine use1 (qne s (by omega)) rfl (.inl rfl) ?_
 rw [qbh]
 refine zS ?_
 refine use1 (qq4 s hs) rfl (.inl rfl) ?_
 obtain ⟨hll,hlb⟩:=qft s
 generalize qao s=l at *
 simp only [ZZ,WW,Ze,reduceCtorEq,zd,ze,za,zf,zb,qir]
 rw [show ([]:List (List PV))=rowM l 0 from rfl]
 refine qae (fun n fr L=>∃ (k:Nat),k≤l.length∧n=l.length - k∧fr=(oo::oo::oo::.p (.sl 1 (strE l))::.row (.l 4)::oC (oB (oo::(.p (.sl 2 (quF l))::.p (int (l.length:Nat))::.p (int (k:Nat))::oE (oD [])))))∧L=[(.l 4,.row (rowM l k) qmo 1 true)]) (l.length) _ _ (by simp only [ZZ,WW,Ze,reduceCtorEq,zd,ze,za,zf,zb,qac];try trivial) zF_ ⟨0,by omega,by omega,rfl,rfl⟩ ?_
 rintro n fr L ⟨k,hk,rfl,rfl,rfl⟩
 simp only [qcD,ZZ,WW,Ze,reduceCtorEq,zd,ze,za,zf,zb]
 refine br ?_ ?_
 ·intro h
  have hlt:k < l.length:=by have:=of_decide_eq_true h;omega
  obtain ⟨x,hx⟩:∃ x,l[k]?=some x:=⟨_,zh hlt⟩
  have hg:=qaD hx
  have hxb:=hlb x (zl hx)
  simp only [ZZ,WW,Ze,reduceCtorEq,zd,ze,za,zf,zb,hg,qac,qnR hlt,qir]
  ((with_reducible and_intros)<;>try exact sc_)
  refine qae (fun n fr L=>∃ (d:Nat) (u:List UInt8),u.length=n∧(qej x=(d+(qej u).1,(qej u).2))∧(d+u.length≤x.length)∧fr=(oo::oo::oo::.p (.sl 1 (strE l))::.row (.l 4)::oo::.adr (.l 6) 0::.p (int (d:Nat))::.p (.str u)::oo::oo::oo::.p (.sl 2 (quF l))::.p (int (l.length:Nat))::.p (int (k:Nat))::oE (oD []))∧L=[(.l 4,.row (rowM l k) qmo 1 true),(.l 6,.box [.p (int ((qF l k).1:Nat)),.p (.str (txF l k))] tQ2)]) (x.length) _ _ zF_ zF_ ⟨0,x,rfl,by simp,by omega,rfl,rfl⟩ ?_
  rintro n fr L ⟨d,u,rfl,hst,hdb,rfl,rfl⟩
  simp only [qcC,ZZ,WW,Ze,reduceCtorEq,zd,ze,za,zf,zb]
  refine use1 (qe3 u [62]) rfl (.inl rfl) ?_
  refine zS ?_
  refine br ?_ ?_
  ·intro h2
   have hlen:=qdw h2
   simp only [zn,zx] at hlen
   have hdec:=qfp h2
   have hy:=qjc h2
   refine zS ?_
   ((with_reducible and_intros)<;>try exact sc_)
   rw [ya,show Int.toNat 1=1 from rfl]
   refine use1 (qgq (u.drop 1) [32] (by simp;omega) (by decide)) rfl (.inl rfl) ?_
   refine zS ?_
   ((with_reducible and_intros)<;>try exact sc_)
   refine qab (((qcp (u.drop 1) [32]).1).length) _ _ (by omega) zF_ zF_ ⟨d+1,(qcp (u.drop 1) [32]).1,rfl,by rw [hst,hy];simp only;congr 1;omega,by omega,rfl,rfl⟩
  ·intro h2
   have hn:=qjd h2
   rw [hn] at hst
   simp only [Nat.add_zero] at hst
   have hsd:d=sgF l k:=by simp [sgF,zy,hx,hst]
   subst hsd
   simp only [ZZ,WW,Ze,reduceCtorEq,zd,ze,za,zf,zb,qf3]
   ((with_reducible and_intros)<;>try exact sc_)
   rw [qyg,qvs]
   refine qab (l.length - (k+1)) _ _ (by omega) zF_ zF_ ⟨k+1,by omega,rfl,rfl,rfl⟩
 ·intro h
  have hge:k=l.length:=by have:=of_decide_eq_false h;omega
  subst hge
  simp only [ZZ,WW,Ze,reduceCtorEq,zd,ze,za,zf,zb]
end Go.Proofs.YtekhobchfhhofaaGreatDoor
