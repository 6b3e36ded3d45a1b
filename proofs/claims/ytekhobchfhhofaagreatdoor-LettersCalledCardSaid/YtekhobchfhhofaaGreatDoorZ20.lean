import Derived.Test.YtekhobchfhhofaaGreatDoorZ19
import Derived.Laws.Cover4
set_option linter.unusedVariables false
set_option linter.unusedSimpArgs false
set_option linter.defProp false
namespace Go.Proofs.YtekhobchfhhofaaGreatDoor
open Nat renaming reduceAdd→zd,reduceEqDiff→zb,reduceLT→zf,reduceLeDiff→za,reduceMul→ze
open List renaming getElem?_eq_getElem→zh,length_set→yn,mem_append→zr,mem_of_getElem?→zl,mem_or_eq_of_mem_set→yc,mem_singleton→zD
open Go.RowKit
def qbH:IC:=(sR [qT 62 .lss 61 60] (.seq (.cond (.t 62) .skip (.exit 4)) (.seq (.block 5 (sR [qX 63 1 59 61,qL 64 63,qM 13 64] (.reg [qM 65 11,qM 66 7,qM 67 13,qX 68 9 66 67,qO 69 (.ld 9 true (.t 68)),qO 70 (.bsl 9 [.t 69]),qO 71 (.app 45 9 160 (.t 65) (.t 70)),qM 11 71]))) (.reg [qB 72 .add 61 (cI 1),qM 61 72]))))
def qbI:IC:=(sR [qT 36 .lss 35 34] (.seq (.cond (.t 36) .skip (.exit 2)) (.seq (.block 3 (sR [qX 37 1 33 35,qL 38 37,qM 10 38] (sR [qM 39 8,qM 40 0,qO 41 (.bsl 1 [.c (.int .i64 0),.c (.int .i64 5),.c (.int .i64 30),.c (.int .i64 300)]),jC 42 26 [.t 40,.t 41],qT 43 .add 39 42,qM 8 43] (.reg [qM 44 7,qM 45 0,qM 46 5,qM 47 10,qX 48 1 46 47,qL 49 48,qM 50 8,qM 51 5,⟨none,.fz (.t 51),none⟩,jC 52 94 [.t 45,.t 49,.t 50,.t 51],⟨none,.fz (.t 52),none⟩,qO 53 (.bsl 9 [.t 52]),qO 54 (.app 45 9 160 (.t 44) (.t 53)),qM 7 54])))) (.reg [qB 55 .add 35 (cI 1),qM 35 55]))))
def qbJ:IC:=(sR [qT 19 .lss 18 17] (.seq (jE 19) (.seq (.block 1 (sR [qM 20 18,qM 6 20] (.reg [qM 21 5,qM 22 6,qO 23 (.bin .add (cI 97) (.t 22)),qO 24 (.cvi .i32 (.t 23)),qO 25 (.cvs (.t 24)),qO 26 (.bin .add (.c (.str [109])) (.t 25)),qO 27 (.bsl 1 [.t 26]),qO 28 (.app 9 1 16 (.t 21) (.t 27)),qM 5 28]))) (.reg [qB 29 .add 18 (cI 1),qM 18 29]))))
abbrev qey:IC:=(sR [qO 4 (.mov (.c (.nl 9)))] (sR [qO 5 (.nilr 9 1)] (.seq (sR [qM 14 0,qM 15 1,qB 16 .add 15 (cI 1),jC 17 27 [.t 14,.t 16],jI 18 0] (.block 0 (.loop qbJ))) (sR [qO 7 (.nilr 45 9)] (sR [jI 8 0] (.seq (sR [qM 30 0,qM 31 5,qN 32 31,jC 33 93 [.t 30,.t 32],qN 34 33,jI 35 0] (.block 2 (.loop qbI))) (sR [qO 11 (.nilr 45 9)] (.seq (sR [qM 56 0,qM 57 7,qN 58 57,jC 59 93 [.t 56,.t 58],qN 60 59,jI 61 0] (.block 4 (.loop qbH))) (sR [qM 73 11,qM 4 73] .ret)))))))))
theorem qeB:chkF Tryz.prog Tryz.f36 qey [.t 4] 74=true:=by kernel_rfl
abbrev qdZ:IC:=(sR [qO 4 (.mov (.c (.nl 9)))] (sR [qM 7 0,qM 8 1,jC 9 36 [.t 7,.t 8],qM 5 9] (.seq (sR [qM 10 0,jC 11 28 [.t 10,.c (.int .i64 10)],qM 12 11,⟨some 13,.mov (.t 5),(some (12,true))⟩,⟨some 14,.len (.t 13),(some (12,true))⟩,⟨some 15,.bin .gtr (.t 14) (cI 0),(some (12,true))⟩,qO 16 (.pick (.t 12) (.t 15) (.c (.bool false)))] (jW 16 (sR [qM 17 0,qM 18 5,qN 19 18,jC 20 27 [.t 17,.t 19],qM 6 20] (sR [qM 21 0,jC 22 28 [.t 21,.c (.int .i64 3)]] (.cond (.t 22) (.reg [qM 23 5,qM 24 6,qM 25 5,qO 26 (.ixa 9 (.t 25) (cI 0)),wF 27 0 26,qL 28 27,qX 29 9 23 24,wF 30 0 29,qS 1 30 28]) (.reg [qM 31 5,qM 32 6,qM 33 0,qM 34 5,qM 35 6,qX 36 9 34 35,qO 37 (.ld 9 true (.t 36)),jC 38 37 [.t 33,.t 37],qX 39 9 31 32,qS 9 39 38])))))) (.cut (sR [qM 40 5,qM 4 40] .ret)))))
theorem qd2:chkF Tryz.prog Tryz.f6 qdZ [.t 4] 41=true:=by kernel_rfl
theorem qyG (c:Int):(Utf8.encode c).data.toList.length≤4:=by
 rw [Array.length_toList]
 exact encode_size_le c
theorem qrB (l:List Ltr) (m:Ltr):ltE l++[[.str m.id,int m.at_,.str m.fr.1,.str m.fr.2,.sl 2 (adrE m.tos),.sl 2 (adrE m.ccs),.sl 1 (strE m.refs),.str m.sub,.str m.body]]=ltE (l++[m]):=by simp [ltE,ltV]
theorem qsO (l:List Int) (k:Nat) (most:Nat) (hmost:most≤20) (hk:k≤700000) (hl:l.length≤9223372036854775807) :
  qmf Tryz.prog E6 36 T (stm l k) [int (most:Nat)] qa4 9 (fun es cs'=>∃ (u:List Ltr) (k':Nat),es=ltE u∧u.length≤most∧(∀ m∈u,LtM 100 m)∧cs'=stm l k'∧k'≤k+10000):=by
 unfold qmf
 refine qe1 mixed Tryz.func36 qeB ?_
 refine zV ?_
 ((with_reducible and_intros)<;>try exact sc_)
 refine useS (qdN l k _ (by omega) hl (by omega)) rfl rfl rfl zE_ ?_
 rintro x cs' ⟨y,rfl,rfl⟩
 have b1:=qgl y ((most:Nat)+1)
 have b2:=qgm y ((most:Nat)+1) (by omega)
 obtain ⟨c,hc⟩:∃ c:Nat,qeM y ((most:Nat)+1)=(c:Nat):=⟨(qeM y ((most:Nat)+1)).toNat,by omega⟩
 rw [hc] at b1 b2 ⊢
 clear hc
 refine zS ?_
 have hR0:([]:List (List PV))=strE []:=rfl
 rw [hR0]
 refine qae (fun n fr L=>∃ (i:Nat) (ids:List (List UInt8)),i≤c∧n=c - i∧(ids.length=i)∧(∀ s∈ids,s.length≤100)∧fr=(.adr (.b 0) 0::oo::oo::oo::oo::.row (.l 5)::oD (oB (oo::(.p (int (c:Nat))::.p (int (i:Nat))::oF (oE (oC (oB (oo::[]))))))))∧L=[(.b 0,.box ((stm l (k+1)).map .p) T),(.l 5,.row (strE ids) qzw 1 true)]) (c) _ _ zF_ zF_ ⟨0,[],by omega,by omega,rfl,(fun s hs=>by cases hs),rfl,rfl⟩ ?_
 rintro n fr L ⟨i,ids,hi,rfl,hil,hib,rfl,rfl⟩
 simp only [qbJ,ZZ,WW,Ze,reduceCtorEq,zd,ze,za,zf,zb]
 refine br ?_ ?_
 ·intro h
  have hlt:i < c:=by have:=of_decide_eq_true h;omega
  have hE4:=qyG (IntKind.i32.wrap (97+((i:Nat):Int)))
  obtain ⟨id,hid,hidl⟩:∃ id,id=109 :: (Utf8.encode (IntKind.i32.wrap (97+((i:Nat):Int)))).data.toList∧id.length≤100:=⟨_,rfl,by simp only [List.length_cons];omega⟩
  simp only [ZZ,WW,Ze,reduceCtorEq,zd,ze,za,zf,zb,qac,hil]
  ((with_reducible and_intros)<;>try exact sc_)
  rw [← hid,show strE ids++[[PV.str id]]=strE (ids++[id]) from by rw [qdO];rfl]
  clear hid hE4
  refine qab (c - (i+1)) _ _ (by omega) zF_ zF_ ⟨i+1,ids++[id],by omega,rfl,by simp [hil],by intro s hs;rcases zr.1 hs with hs|hs;exact hib s hs;rw [zD] at hs;subst hs;exact hidl,rfl,rfl⟩
 intro h
 have hge:c=i:=by have:=of_decide_eq_false h;omega
 subst hge
 simp only [ZZ,WW,Ze,reduceCtorEq,zd,ze,za,zf,zb,qac,hil]
 refine qu3 (qr7 l (k+1) c (by omega) hl (by omega)) rfl rfl rfl zE_ ?_
 rintro es cs' ⟨o,k1,rfl,ho,hor,rfl,hk1⟩
 simp only [ZZ,WW,Ze,reduceCtorEq,zd,ze,za,zf,zb,qe0,ho]
 have hR1:([]:List (List PV))=ltE []:=rfl
 rw [hR1]
 refine qtS (fun n fr L=>∃ (j:Nat) (k':Nat) (at_:Int) (u:List Ltr),j≤c∧n=c - j∧(k'≤k1+101 * j)∧(0≤at_∧at_≤300 * j)∧(u.length=j)∧(∀ m∈u,LtM 100 m)∧fr=(.adr (.b 0) 0::oo::oo::oo::oo::.p (.sl 1 (strE ids))::oo::.row (.l 7)::.p (int at_)::oE (oD (.row (.l 33)::.p (int (c:Nat))::.p (int (j:Nat))::oF (oC (oB [])))))∧L=[(.b 0,.box ((stm l k').map .p) T),(.l 7,.row (ltE u) qa4 9 true),(.l 33,.row (inE1 o) qsd 1 true)]) (c) _ _ (ReOk.trans (qil (k:=.l 5) rfl) (by simp only [ZZ,WW,Ze,reduceCtorEq,zd,ze,za,zf,zb];exact qer zF_ zE_)) ⟨0,k1,0,[],by omega,by omega,by omega,⟨by omega,by omega⟩,rfl,(fun s hs=>by cases hs),rfl,rfl⟩ ?_
 rintro n fr L ⟨j,k',at_,u,hj,rfl,hk',hat,hul,hub,rfl,rfl⟩
 simp only [qbI,ZZ,WW,Ze,reduceCtorEq,zd,ze,za,zf,zb]
 refine br ?_ ?_
 ·intro h
  have hlt:j < c:=by have:=of_decide_eq_true h;omega
  obtain ⟨p,hp⟩:∃ p,o[j]?=some p:=⟨_,zh (by omega)⟩
  have hg:=qjw hp
  obtain ⟨hp0,hp1⟩:=hor p (zl hp)
  obtain ⟨q,rfl⟩:∃ q:Nat,p=(q:Nat):=⟨p.toNat,by omega⟩
  obtain ⟨id,hid⟩:∃ id,ids[q]?=some id:=⟨_,zh (by omega)⟩
  have hg2:=qaD hid
  have hidl:=hib id (zl hid)
  simp only [ZZ,WW,Ze,reduceCtorEq,zd,ze,za,zf,zb,hg,hg2,qe0,ho,qac,hil]
  ((with_reducible and_intros)<;>try exact sc_)
  refine useS (qoL l k' [0,5,30,300] (by omega) hl (by simp) (by simp)) rfl rfl rfl zE_ ?_
  rintro x cs' ⟨v,rfl,hv,rfl⟩
  have hv:0≤v∧v≤300:=by simp at hv;omega
  simp only [ZZ,WW,Ze,reduceCtorEq,zd,ze,za,zf,zb,hg,hg2,qe0,ho,qac,hil]
  ((with_reducible and_intros)<;>try exact sc_)
  refine useS (quR l (k'+1) id (at_+v) ids hidl (by omega) hib (by omega) hl) rfl rfl rfl zE_ ?_
  rintro x cs' ⟨m,k2,rfl,hm,rfl,hk2⟩
  simp only [ZZ,WW,Ze,reduceCtorEq,zd,ze,za,zf,zb,qaS,hul,ltV]
  ((with_reducible and_intros)<;>try exact sc_)
  rw [qrB u m]
  refine qab (c - (j+1)) _ _ (by omega) zF_ zF_ ⟨j+1,k2,at_+v,u++[m],by omega,rfl,by omega,by omega,by simp [hul],by intro s hs;rcases zr.1 hs with hs|hs;exact hub s hs;rw [zD] at hs;subst hs;exact hm.le (by omega),rfl,rfl⟩
 intro h
 have hge:c=j:=by have:=of_decide_eq_false h;omega
 subst hge
 simp only [ZZ,WW,Ze,reduceCtorEq,zd,ze,za,zf,zb,qaS,hul]
 refine qu3 (qr7 l k' c (by omega) hl (by omega)) rfl rfl rfl zE_ ?_
 rintro es cs' ⟨o2,k3,rfl,ho2,hor2,rfl,hk3⟩
 simp only [ZZ,WW,Ze,reduceCtorEq,zd,ze,za,zf,zb,qe0,ho2]
 have hR2:([]:List (List PV))=ltE []:=rfl
 rw [hR2]
 refine qae (fun n fr L=>∃ (e:Nat) (w:List Ltr),e≤c∧n=c - e∧(w.length=e)∧(∀ m∈w,LtM 100 m)∧fr=(.adr (.b 0) 0::oC (oB (.row (.l 7)::oo::oo::oo::.row (.l 11)::oF (oD (oC (oB (oo::(.row (.l 59)::.p (int (c:Nat))::.p (int (e:Nat))::oD (oC [])))))))))∧L=[(.b 0,.box ((stm l k3).map .p) T),(.l 7,.row (ltE u) qa4 9 true),(.l 11,.row (ltE w) qa4 9 true),(.l 59,.row (inE1 o2) qsd 1 true)]) (c) _ _ zF_ zF_ ⟨0,[],by omega,by omega,rfl,(fun s hs=>by cases hs),rfl,rfl⟩ ?_
 rintro n fr L ⟨e,w,he,rfl,hwl,hwb,rfl,rfl⟩
 simp only [qbH,ZZ,WW,Ze,reduceCtorEq,zd,ze,za,zf,zb]
 refine br ?_ ?_
 ·intro h
  have hlt:e < c:=by have:=of_decide_eq_true h;omega
  obtain ⟨p,hp⟩:∃ p,o2[e]?=some p:=⟨_,zh (by omega)⟩
  have hg:=qjw hp
  obtain ⟨hp0,hp1⟩:=hor2 p (zl hp)
  obtain ⟨q,rfl⟩:∃ q:Nat,p=(q:Nat):=⟨p.toNat,by omega⟩
  obtain ⟨m,hm⟩:∃ m,u[q]?=some m:=⟨_,zh (by omega)⟩
  have hg2:=qf4 hm
  simp only [ltV] at hg2
  have hmb:=hub m (zl hm)
  simp only [ZZ,WW,Ze,reduceCtorEq,zd,ze,za,zf,zb,hg,hg2,qe0,ho2,qaS,hul,hwl]
  ((with_reducible and_intros)<;>try exact sc_)
  rw [qrB w m]
  refine qab (c - (e+1)) _ _ (by omega) zF_ zF_ ⟨e+1,w++[m],by omega,rfl,by simp [hwl],by intro s hs;rcases zr.1 hs with hs|hs;exact hwb s hs;rw [zD] at hs;subst hs;exact hmb,rfl,rfl⟩
 intro h
 refine zS ?_
 exact qpM 11 _ (stm l k3) rfl rfl rfl ⟨w,k3,rfl,by omega,hwb,rfl,by omega⟩
theorem qtQ (u:List Ltr) (q:Nat) (m:Ltr):(ltE u).set q [.str m.id,int m.at_,.str m.fr.1,.str m.fr.2,.sl 2 (adrE m.tos),.sl 2 (adrE m.ccs),.sl 1 (strE m.refs),.str m.sub,.str m.body]=ltE (u.set q m):=by
 show (ltE u).set q (ltV m)=_
 simp [ltE]
theorem qoZ (l:List Int) (k:Nat) (most:Nat) (hmost:most≤20) (hk:k≤700000) (hl:l.length≤9223372036854775807) :
  qmf Tryz.prog E6 6 T (stm l k) [int (most:Nat)] qa4 9 (fun es cs'=>∃ (u:List Ltr) (k':Nat),es=ltE u∧u.length≤most∧(∀ m∈u,LtM 300 m)∧cs'=stm l k'∧k'≤k+10010):=by
 unfold qmf
 refine qe1 mixed Tryz.func6 qd2 ?_
 refine zV ?_
 refine qu3 (qsO l k most hmost hk hl) rfl rfl rfl zE_ ?_
 rintro es cs' ⟨u,k1,rfl,hu,hub,rfl,hk1⟩
 refine zS ?_
 refine useS (qgs l k1 10 (by omega) hl (by decide)) rfl rfl rfl zE_ ?_
 rintro x cs' ⟨b,rfl,rfl⟩
 simp only [ZZ,WW,Ze,reduceCtorEq,zd,ze,za,zf,zb,qaS]
 refine br ?_ ?_
 ·intro h
  have hpos:0 < u.length:=by
   rw [Bool.and_eq_true] at h
   have:=of_decide_eq_true h.2
   omega
  simp only [ZZ,WW,Ze,reduceCtorEq,zd,ze,za,zf,zb,qaS]
  refine useS (qdN l (k1+1) _ (by omega) hl (by omega)) rfl rfl rfl zE_ ?_
  rintro x cs' ⟨y,rfl,rfl⟩
  have b1:=qgl y (u.length:Nat)
  have b2:=qgm y (u.length:Nat) (by omega)
  obtain ⟨q,hq⟩:∃ q:Nat,qeM y (u.length:Nat)=(q:Nat):=⟨(qeM y (u.length:Nat)).toNat,by omega⟩
  rw [hq] at b1 b2 ⊢
  clear hq
  obtain ⟨m,hm⟩:∃ m,u[q]?=some m:=⟨_,zh (by omega)⟩
  have hg:=qf4 hm
  simp only [ltV] at hg
  have hmb:=hub m (zl hm)
  refine zS ?_
  refine useS (qgs l (k1+1+1) 3 (by omega) hl (by decide)) rfl rfl rfl zE_ ?_
  rintro x cs' ⟨b2,rfl,rfl⟩
  refine zS ?_
  refine br ?_ ?_
  ·intro _
   obtain ⟨m0,hm0⟩:∃ m,u[0]?=some m:=⟨_,zh (by omega)⟩
   have hg0:(ltE u).getD (Int.toNat 0) []=_:=qf4 hm0
   simp only [ltV] at hg0
   have hmb0:=hub m0 (zl hm0)
   simp only [ZZ,WW,Ze,reduceCtorEq,zd,ze,za,zf,zb,hg,hg0,qaS]
   have hs:=qtQ u q { m with id:=m0.id }
   simp only at hs
   rw [hs]
   refine ⟨⟨by omega,by omega⟩,(by simpa using hpos),⟨by omega,by omega⟩,by omega,?_⟩
   refine qad zE_ ?_
   refine zS ?_
   refine qpM 9 _ (stm l (k1+1+1+1)) rfl rfl rfl ⟨u.set q { m with id:=m0.id },_,rfl,by rw [yn];exact hu,fun s hs=>?_,rfl,by omega⟩
   rcases yc hs with hs|rfl
   ·exact (hub s hs).le (by omega)
   ·have hM:=hmb.le (M:=300) (by omega)
    exact ⟨hmb0.b1,hM.b2,hM.b3,hM.b4,hM.b5,hM.b6,hM.b7,hM.b8,hM.b9,hM.b10,hM.b11⟩
  ·intro _
   simp only [ZZ,WW,Ze,reduceCtorEq,zd,ze,za,zf,zb,hg,qaS]
   ((with_reducible and_intros)<;>try exact sc_)
   refine useS (qsK l (k1+1+1+1) m hmb (by omega) hl) rfl rfl rfl zE_ ?_
   rintro x cs' ⟨m',k3,rfl,hm',rfl,hk3⟩
   have hs:=qtQ u q m'
   simp only [ZZ,WW,Ze,reduceCtorEq,zd,ze,za,zf,zb,hg,qaS,ltV]
   ((with_reducible and_intros)<;>try exact sc_)
   rw [hs]
   refine qad zE_ ?_
   refine zS ?_
   refine qpM 9 _ (stm l k3) rfl rfl rfl ⟨u.set q m',_,rfl,by rw [yn];exact hu,fun s hs=>?_,rfl,by omega⟩
   rcases yc hs with hs|rfl
   ·exact (hub s hs).le (by omega)
   ·exact hm'
 ·intro _
  refine zS ?_
  refine qad zE_ ?_
  refine zS ?_
  exact qpM 9 _ (stm l (k1+1)) rfl rfl rfl ⟨u,_,rfl,hu,fun m hm=>(hub m hm).le (by omega),rfl,by omega⟩
end Go.Proofs.YtekhobchfhhofaaGreatDoor
