import Derived.Test.YtjgdjinhkgjpeabGreatDoorZ15
import Derived.Laws.Cover4
set_option linter.unusedVariables false
set_option linter.unusedSimpArgs false
set_option linter.defProp false
namespace Go.Proofs.YtjgdjinhkgjpeabGreatDoor
open Nat renaming reduceAdd→zd,reduceEqDiff→zb,reduceLT→zf,reduceLeDiff→za,reduceMul→ze
open List renaming getElem?_eq_getElem→zk,length_cons→zl,mem_append→zp,mem_cons→zG,mem_of_getElem?→zn,mem_singleton→zu,not_mem_nil→zW,take_of_length_le→zJ
open Go.RowKit
def qbi:IC:=(sR [qT 62 .lss 61 60] (.seq (.cond (.t 62) .skip (.exit 4)) (.seq (.block 5 (sR [qX 63 1 59 61,qL 64 63,qM 13 64] (.reg [qM 65 11,qM 66 7,qM 67 13,qX 68 9 66 67,qO 69 (.ld 9 true (.t 68)),qO 70 (.bsl 9 [.t 69]),qO 71 (.app 103 9 160 (.t 65) (.t 70)),qM 11 71]))) (.reg [qB 72 .add 61 (cI 1),qM 61 72]))))
def qbj:IC:=(sR [qT 36 .lss 35 34] (.seq (.cond (.t 36) .skip (.exit 2)) (.seq (.block 3 (sR [qX 37 1 33 35,qL 38 37,qM 10 38] (sR [qM 39 8,qM 40 0,qO 41 (.bsl 1 [.c (.int .i64 0),.c (.int .i64 5),.c (.int .i64 30),.c (.int .i64 300)]),jC 42 20 [.t 40,.t 41],qT 43 .add 39 42,qM 8 43] (.reg [qM 44 7,qM 45 0,qM 46 5,qM 47 10,qX 48 1 46 47,qL 49 48,qM 50 8,qM 51 5,⟨none,.fz (.t 51),none⟩,jC 52 60 [.t 45,.t 49,.t 50,.t 51],⟨none,.fz (.t 52),none⟩,qO 53 (.bsl 9 [.t 52]),qO 54 (.app 103 9 160 (.t 44) (.t 53)),qM 7 54])))) (.reg [qB 55 .add 35 (cI 1),qM 35 55]))))
def qbk:IC:=(sR [qT 19 .lss 18 17] (.seq (jE 19) (.seq (.block 1 (sR [qM 20 18,qM 6 20] (.reg [qM 21 5,qM 22 6,qO 23 (.bin .add (cI 97) (.t 22)),qO 24 (.cvi .i32 (.t 23)),qO 25 (.cvs (.t 24)),qO 26 (.bin .add (.c (.str [109])) (.t 25)),qO 27 (.bsl 1 [.t 26]),qO 28 (.app 9 1 16 (.t 21) (.t 27)),qM 5 28]))) (.reg [qB 29 .add 18 (cI 1),qM 18 29]))))
abbrev qdJ:IC:=(sR [qO 4 (.mov (.c (.nl 9)))] (sR [qO 5 (.nilr 9 1)] (.seq (sR [qM 14 0,qM 15 1,qB 16 .add 15 (cI 1),jC 17 17 [.t 14,.t 16],jI 18 0] (.block 0 (.loop qbk))) (sR [qO 7 (.nilr 103 9)] (sR [jI 8 0] (.seq (sR [qM 30 0,qM 31 5,qN 32 31,jC 33 59 [.t 30,.t 32],qN 34 33,jI 35 0] (.block 2 (.loop qbj))) (sR [qO 11 (.nilr 103 9)] (.seq (sR [qM 56 0,qM 57 7,qN 58 57,jC 59 59 [.t 56,.t 58],qN 60 59,jI 61 0] (.block 4 (.loop qbi))) (sR [qM 73 11,qM 4 73] .ret)))))))))
theorem qdN:chkF Tryz.prog Tryz.f15 qdJ [.t 4] 74=true:=by kernel_rfl
theorem qwm (c:Int):(Utf8.encode c).data.toList.length≤4:=by
 rw [Array.length_toList]
 exact encode_size_le c
theorem qpi (l:List Ltr) (m:Ltr):ltE l++[[.str m.id,int m.at_,.str m.fr.1,.str m.fr.2,.sl 2 (adrE m.tos),.sl 2 (adrE m.ccs),.sl 1 (strE m.refs),.str m.sub,.str m.body]]=ltE (l++[m]):=by simp [ltE,ltV]
set_option maxHeartbeats 2000000 in
theorem qqw (l:List Int) (k:Nat) (most:Nat) (hmost:most≤20) (hk:k≤700000) (hl:l.length≤9223372036854775807) :
  qih Tryz.prog E6 15 T (stm l k) [int (most:Nat)] qax 9 (fun es cs'=>∃ (u:List Ltr) (k':Nat),es=ltE u∧u.length≤most∧(∀ m∈u,LtM 100 m)∧cs'=stm l k'∧k'≤k+10000):=by
 unfold qih
 refine qf0 mixed Tryz.func15 qdN ?_
 refine zV ?_
 ((with_reducible and_intros)<;>try exact sc_)
 refine useS (qc6 l k _ (by omega) hl (by omega)) rfl rfl rfl zE_ ?_
 rintro x cs' ⟨y,rfl,rfl⟩
 have b1:=qd2 y ((most:Nat)+1)
 have b2:=qd3 y ((most:Nat)+1) (by omega)
 obtain ⟨c,hc⟩:∃ c:Nat,qeE y ((most:Nat)+1)=(c:Nat):=⟨(qeE y ((most:Nat)+1)).toNat,by omega⟩
 rw [hc] at b1 b2 ⊢
 clear hc
 refine zS ?_
 have hR0:([]:List (List PV))=strE []:=rfl
 rw [hR0]
 refine qad (fun n fr L=>∃ (i:Nat) (ids:List (List UInt8)),i≤c∧n=c - i∧(ids.length=i)∧(∀ s∈ids,s.length≤100)∧fr=(.adr (.b 0) 0::oo::oo::oo::oo::.row (.l 5)::oD (oB (oo::(.p (int (c:Nat))::.p (int (i:Nat))::oF (oE (oC (oB (oo::[]))))))))∧L=[(.b 0,.box ((stm l (k+1)).map .p) T),(.l 5,.row (strE ids) qsF 1 true)]) (c) (.adr (.b 0) 0::oo::oo::oo::oo::.row (.l 5)::oD (oB (oo::(.p (int (c:Nat))::.p (int (0:Nat))::oF (oE (oC (oB (oo::[])))))))) [(.b 0,.box ((stm l (k+1)).map .p) T),(.l 5,.row (strE []) qsF 1 true)] zF_ zF_ ⟨0,[],by omega,by omega,rfl,(fun s hs=>by cases hs),rfl,rfl⟩ ?_
 rintro n fr L ⟨i,ids,hi,rfl,hil,hib,rfl,rfl⟩
 simp only [qbk,ZZ,WW,Ze,reduceCtorEq,zd,ze,za,zf,zb]
 refine br ?_ ?_
 ·intro h
  have hlt:i < c:=by have:=of_decide_eq_true h;omega
  have hE4:=qwm (IntKind.i32.wrap (97+((i:Nat):Int)))
  obtain ⟨id,hid,hidl⟩:∃ id,id=109 :: (Utf8.encode (IntKind.i32.wrap (97+((i:Nat):Int)))).data.toList∧id.length≤100:=⟨_,rfl,by simp only [zl];omega⟩
  simp only [ZZ,WW,Ze,reduceCtorEq,zd,ze,za,zf,zb,qac,hil]
  ((with_reducible and_intros)<;>try exact sc_)
  rw [← hid,show strE ids++[[PV.str id]]=strE (ids++[id]) from by rw [qdV];rfl]
  clear hid hE4
  refine qab (c - (i+1)) (.adr (.b 0) 0::oo::oo::oo::oo::.row (.l 5)::oD (oB (oo::(.p (int (c:Nat))::.p (int ((i+1):Nat))::oF (oE (oC (oB (oo::[])))))))) [(.b 0,.box ((stm l (k+1)).map .p) T),(.l 5,.row (strE (ids++[id])) qsF 1 true)] (by omega) zF_ zF_ ⟨i+1,ids++[id],by omega,rfl,by simp [hil],by intro s hs;rcases zp.1 hs with hs|hs;exact hib s hs;rw [zu] at hs;subst hs;exact hidl,rfl,rfl⟩
 intro h
 have hge:c=i:=by have:=of_decide_eq_false h;omega
 subst hge
 simp only [ZZ,WW,Ze,reduceCtorEq,zd,ze,za,zf,zb,qac,hil]
 refine qqE (qpP l (k+1) c (by omega) hl (by omega)) rfl rfl rfl zE_ ?_
 rintro es cs' ⟨o,k1,rfl,ho,hor,rfl,hk1⟩
 simp only [ZZ,WW,Ze,reduceCtorEq,zd,ze,za,zf,zb,qd1,ho]
 have hR1:([]:List (List PV))=ltE []:=rfl
 rw [hR1]
 refine qis (fun n fr L=>∃ (j:Nat) (k':Nat) (at_:Int) (u:List Ltr),j≤c∧n=c - j∧(k'≤k1+101 * j)∧(0≤at_∧at_≤300 * j)∧(u.length=j)∧(∀ m∈u,LtM 100 m)∧fr=(.adr (.b 0) 0::oo::oo::oo::oo::.p (.sl 1 (strE ids))::oo::.row (.l 7)::.p (int at_)::oE (oD (.row (.l 33)::.p (int (c:Nat))::.p (int (j:Nat))::oF (oC (oB [])))))∧L=[(.b 0,.box ((stm l k').map .p) T),(.l 7,.row (ltE u) qax 9 true),(.l 33,.row (inE1 o) qii 1 true)]) (c) (.adr (.b 0) 0::oo::oo::oo::oo::.p (.sl 1 (strE ids))::oo::.row (.l 7)::.p (int 0)::oE (oD (.row (.l 33)::.p (int (c:Nat))::.p (int (0:Nat))::oF (oC (oB []))))) [(.b 0,.box ((stm l k1).map .p) T),(.l 7,.row (ltE []) qax 9 true),(.l 33,.row (inE1 o) qii 1 true)] (ReOk.trans (qdx (k:=.l 5) rfl) (by simp only [ZZ,WW,Ze,reduceCtorEq,zd,ze,za,zf,zb];exact qbq zF_ zE_)) ⟨0,k1,0,[],by omega,by omega,by omega,⟨by omega,by omega⟩,rfl,(fun s hs=>by cases hs),rfl,rfl⟩ ?_
 rintro n fr L ⟨j,k',at_,u,hj,rfl,hk',hat,hul,hub,rfl,rfl⟩
 simp only [qbj,ZZ,WW,Ze,reduceCtorEq,zd,ze,za,zf,zb]
 refine br ?_ ?_
 ·intro h
  have hlt:j < c:=by have:=of_decide_eq_true h;omega
  obtain ⟨p,hp⟩:∃ p,o[j]?=some p:=⟨_,zk (by omega)⟩
  have hg:=qhX hp
  obtain ⟨hp0,hp1⟩:=hor p (zn hp)
  obtain ⟨q,rfl⟩:∃ q:Nat,p=(q:Nat):=⟨p.toNat,by omega⟩
  obtain ⟨id,hid⟩:∃ id,ids[q]?=some id:=⟨_,zk (by omega)⟩
  have hg2:=qaU hid
  have hidl:=hib id (zn hid)
  simp only [ZZ,WW,Ze,reduceCtorEq,zd,ze,za,zf,zb,hg,hg2,qd1,ho,qac,hil]
  ((with_reducible and_intros)<;>try exact sc_)
  refine useS (qml l k' [0,5,30,300] (by omega) hl (by simp) (by simp)) rfl rfl rfl zE_ ?_
  rintro x cs' ⟨v,rfl,hv,rfl⟩
  have hv:0≤v∧v≤300:=by simp at hv;omega
  simp only [ZZ,WW,Ze,reduceCtorEq,zd,ze,za,zf,zb,hg,hg2,qd1,ho,qac,hil]
  ((with_reducible and_intros)<;>try exact sc_)
  refine useS (qsv l (k'+1) id (at_+v) ids hidl (by omega) hib (by omega) (by omega) hl) rfl rfl rfl zE_ ?_
  rintro x cs' ⟨m,k2,rfl,hm,rfl,hk2⟩
  simp only [ZZ,WW,Ze,reduceCtorEq,zd,ze,za,zf,zb,qfI,hul,ltV]
  ((with_reducible and_intros)<;>try exact sc_)
  rw [qpi u m]
  refine qab (c - (j+1)) (.adr (.b 0) 0::oo::oo::oo::oo::.p (.sl 1 (strE ids))::oo::.row (.l 7)::.p (int (at_+v))::oE (oD (.row (.l 33)::.p (int (c:Nat))::.p (int ((j+1):Nat))::oF (oC (oB []))))) [(.b 0,.box ((stm l (k2)).map .p) T),(.l 7,.row (ltE (u++[m])) qax 9 true),(.l 33,.row (inE1 o) qii 1 true)] (by omega) zF_ zF_ ⟨j+1,k2,at_+v,u++[m],by omega,rfl,by omega,by omega,by simp [hul],by intro s hs;rcases zp.1 hs with hs|hs;exact hub s hs;rw [zu] at hs;subst hs;exact hm.le (by omega),rfl,rfl⟩
 intro h
 have hge:c=j:=by have:=of_decide_eq_false h;omega
 subst hge
 simp only [ZZ,WW,Ze,reduceCtorEq,zd,ze,za,zf,zb,qfI,hul]
 refine qqE (qpP l k' c (by omega) hl (by omega)) rfl rfl rfl zE_ ?_
 rintro es cs' ⟨o2,k3,rfl,ho2,hor2,rfl,hk3⟩
 simp only [ZZ,WW,Ze,reduceCtorEq,zd,ze,za,zf,zb,qd1,ho2]
 have hR2:([]:List (List PV))=ltE []:=rfl
 rw [hR2]
 refine qad (fun n fr L=>∃ (e:Nat) (w:List Ltr),e≤c∧n=c - e∧(w.length=e)∧(∀ m∈w,LtM 100 m)∧fr=(.adr (.b 0) 0::oC (oB (.row (.l 7)::oo::oo::oo::.row (.l 11)::oF (oD (oC (oB (oo::(.row (.l 59)::.p (int (c:Nat))::.p (int (e:Nat))::oD (oC [])))))))))∧L=[(.b 0,.box ((stm l k3).map .p) T),(.l 7,.row (ltE u) qax 9 true),(.l 11,.row (ltE w) qax 9 true),(.l 59,.row (inE1 o2) qii 1 true)]) (c) (.adr (.b 0) 0::oC (oB (.row (.l 7)::oo::oo::oo::.row (.l 11)::oF (oD (oC (oB (oo::(.row (.l 59)::.p (int (c:Nat))::.p (int (0:Nat))::oD (oC []))))))))) [(.b 0,.box ((stm l k3).map .p) T),(.l 7,.row (ltE u) qax 9 true),(.l 11,.row (ltE []) qax 9 true),(.l 59,.row (inE1 o2) qii 1 true)] zF_ zF_ ⟨0,[],by omega,by omega,rfl,(fun s hs=>by cases hs),rfl,rfl⟩ ?_
 rintro n fr L ⟨e,w,he,rfl,hwl,hwb,rfl,rfl⟩
 simp only [qbi,ZZ,WW,Ze,reduceCtorEq,zd,ze,za,zf,zb]
 refine br ?_ ?_
 ·intro h
  have hlt:e < c:=by have:=of_decide_eq_true h;omega
  obtain ⟨p,hp⟩:∃ p,o2[e]?=some p:=⟨_,zk (by omega)⟩
  have hg:=qhX hp
  obtain ⟨hp0,hp1⟩:=hor2 p (zn hp)
  obtain ⟨q,rfl⟩:∃ q:Nat,p=(q:Nat):=⟨p.toNat,by omega⟩
  obtain ⟨m,hm⟩:∃ m,u[q]?=some m:=⟨_,zk (by omega)⟩
  have hg2:=qrx hm
  simp only [ltV] at hg2
  have hmb:=hub m (zn hm)
  simp only [ZZ,WW,Ze,reduceCtorEq,zd,ze,za,zf,zb,hg,hg2,qd1,ho2,qfI,hul,hwl]
  ((with_reducible and_intros)<;>try exact sc_)
  rw [qpi w m]
  refine qab (c - (e+1)) (.adr (.b 0) 0::oC (oB (.row (.l 7)::oo::oo::oo::.row (.l 11)::oF (oD (oC (oB (oo::(.row (.l 59)::.p (int (c:Nat))::.p (int ((e+1):Nat))::oD (oC []))))))))) [(.b 0,.box ((stm l k3).map .p) T),(.l 7,.row (ltE u) qax 9 true),(.l 11,.row (ltE (w++[m])) qax 9 true),(.l 59,.row (inE1 o2) qii 1 true)] (by omega) zF_ zF_ ⟨e+1,w++[m],by omega,rfl,by simp [hwl],by intro s hs;rcases zp.1 hs with hs|hs;exact hwb s hs;rw [zu] at hs;subst hs;exact hmb,rfl,rfl⟩
 intro h
 refine zS ?_
 exact qf2 11 _ (stm l k3) rfl rfl rfl ⟨w,k3,rfl,by omega,hwb,rfl,by omega⟩
theorem qxa {f:FuncId} {t:TypeId} {cs args:List PV} {e z:Nat} {ψ:List (List PV)→List PV→Prop} (h:qih Tryz.prog E6 f t cs args e z ψ):qih Tryz.prog E5 f t cs args e z ψ:=fun w U vs v0 hU hE hEb hA hO=>h w U vs v0 hU ⟨hE.1,hE.2.1,hE.2.2.2.2⟩ (fun c hc=>hEb c (by rcases hc with hc|rfl|rfl;exact .inl hc;exact .inr (.inl rfl);exact .inr (.inr (.inr (.inr rfl))))) hA hO
abbrev qen:IC:=(sR [qO 2 (.mov (.c (.nl 8)))] (sR [qO 5 (.bld [.str [],.int .i64 0,.int .i64 0] [(0,1,.c (.str [97,105,100,64,111,117,114,115,46,100,101])),(1,1,.c (.int .i64 1)),(2,1,.c (.int .i64 3))]),qO 6 (.bld [.str [],.int .i64 0,.int .i64 0] [(0,1,.c (.str [97,110,110,64,102,105,114,109,46,100,101])),(1,1,.c (.int .i64 1)),(2,1,.c (.int .i64 2))]),qO 7 (.bld [.str [],.int .i64 0,.int .i64 0] [(0,1,.c (.str [108,97,119,64,111,117,114,115,46,100,101])),(1,1,.c (.int .i64 1)),(2,1,.c (.int .i64 1))]),qO 8 (.bsl 3 [.t 5,.t 6,.t 7]),qO 9 (.bld [.str [],.int .i64 0,.int .i64 0] [(0,1,.c (.str [102,105,114,109,46,100,101])),(1,1,.c (.int .i64 1)),(2,1,.c (.int .i64 4))]),qO 10 (.bsl 3 [.t 9]),qO 11 (.bsl 1 [.c (.str [108,101,103,97,108,32,97,100,118,105,99,101])]),qO 12 (.bld [.nl 3,.nl 3,.nl 1,.nl 1] [(0,1,.t 8),(1,1,.t 10),(2,1,.t 11)]),qM 13 0,jC 14 15 [.t 13,.c (.int .i64 8)],⟨none,.fz (.t 14),none⟩,jC 15 14 [.t 12,.t 14,.c (.nl 2)],qM 3 15] (.seq (sR [qM 16 0,jC 17 16 [.t 16,.c (.int .i64 3)],qM 18 17,⟨some 19,.mov (.t 3),(some (18,true))⟩,⟨some 20,.len (.t 19),(some (18,true))⟩,⟨some 21,.bin .gtr (.t 20) (cI 0),(some (18,true))⟩,qO 22 (.pick (.t 18) (.t 21) (.c (.bool false)))] (jW 22 (sR [qM 23 3,qM 24 0,qM 25 3,qN 26 25,jC 27 17 [.t 24,.t 26],qX 28 8 23 27,qM 4 28] (sR [qM 29 0,jC 30 17 [.t 29,.c (.int .i64 8)]] (.block 0 (sR [qB 37 .eql 30 (cI 0),qM 36 37] (.cond (.t 36) (.drg [qM 38 4,qO 39 (.nck (.t 38)),wF 40 0 39,qO 41 (.ldl 1 false (.t 40)),qM 42 0,qO 43 (.dcall true 18 [.t 42,.c (.int .i64 (-1)),.c (.int .i64 1)]),qT 44 .add 41 43,qO 45 (.nck (.t 38)),wF 46 0 45,qS 1 46 44]) (sR [qB 48 .eql 30 (cI 1),qM 47 48] (.cond (.t 47) (.reg [qM 49 4,qM 50 0,qO 51 (.bsl 1 [.c (.str []),.c (.str [97,32,98]),.c (.str [109,97])]),jC 52 19 [.t 50,.t 51],qO 53 (.nck (.t 49)),wF 54 1 53,qS 1 54 52]) (sR [qB 56 .eql 30 (cI 2),qM 55 56] (.cond (.t 55) (.reg [qM 57 4,qM 58 0,qO 59 (.bsl 1 [.c (.int .i64 (-1)),.c (.int .i64 5761440),.c (.int .i64 5)]),jC 60 20 [.t 58,.t 59],qO 61 (.nck (.t 57)),wF 62 2 61,qS 1 62 60]) (sR [qB 64 .eql 30 (cI 3),qM 63 64] (.cond (.t 63) (.reg [qM 65 4,qM 66 0,qO 67 (.bsl 1 [.c (.str []),.c (.str [120])]),jC 68 19 [.t 66,.t 67],qO 69 (.nck (.t 65)),wF 70 3 69,qS 1 70 68]) (sR [qB 72 .eql 30 (cI 4),qM 71 72] (.cond (.t 71) (.reg [qM 73 4,qM 74 4,qO 75 (.nck (.t 74)),wF 76 4 75,qL 77 76,jC 78 21 [.t 77],qM 79 0,qO 80 (.bsl 1 [.c (.str []),.c (.str [97,64,97,46,100,101]),.c (.str [122,122,64,122,46,100,101])]),jC 81 19 [.t 79,.t 80],⟨none,.fz (.t 81),none⟩,qO 82 (.bsl 1 [.t 81]),qO 83 (.app 9 1 16 (.t 78) (.t 82)),⟨none,.re,none⟩,qO 84 (.nck (.t 73)),wF 85 4 84,qS 1 85 83]) (sR [qB 87 .eql 30 (cI 5),qM 86 87] (.cond (.t 86) (.reg [qM 88 4,qM 89 4,qM 90 0,jC 91 18 [.t 90,.c (.int .i64 0),.c (.int .i64 4)],qM 92 0,qO 93 (.bsl 1 [.c (.int .i64 0),.c (.int .i64 1),.c (.int .i64 1000),.c (.int .i64 1001)]),jC 94 20 [.t 92,.t 93],qO 95 (.nck (.t 88)),wF 96 5 95,qS 1 96 91,qO 97 (.nck (.t 89)),wF 98 7 97,qS 1 98 94]) (sR [qB 100 .eql 30 (cI 6),qM 99 100] (.cond (.t 99) (.reg [qM 101 4,qM 102 0,jC 103 22 [.c (.str [97]),.c (.int .i64 300)],jC 104 22 [.c (.str [97]),.c (.int .i64 301)],qO 105 (.bsl 1 [.c (.str []),.c (.str [32,120]),.c (.str [97,9,98]),.t 103,.t 104]),jC 106 19 [.t 102,.t 105],qO 107 (.nck (.t 101)),wF 108 6 107,qS 1 108 106]) (.reg [qM 31 4,qM 32 0,jC 33 17 [.t 32,.c (.int .i64 3)],qO 34 (.nck (.t 31)),wF 35 7 34,qS 1 35 33])))))))))))))))))))) (.cut (sR [qM 109 3,qM 2 109] .ret)))))
theorem qez:chkF Tryz.prog Tryz.f4 qen [.t 2] 110=true:=by kernel_rfl
def pRo:List Par:=[([97,105,100,64,111,117,114,115,46,100,101],1,3),([97,110,110,64,102,105,114,109,46,100,101],1,2),([108,97,119,64,111,117,114,115,46,100,101],1,1)]
def dRo:List Par:=[([102,105,114,109,46,100,101],1,4)]
def tRo:List (List UInt8):=[[108,101,103,97,108,32,97,100,118,105,99,101]]
theorem cbRo:CB pRo dRo tRo []:=⟨by decide,by decide,by decide,by decide,by decide,by decide,by decide,by simp⟩
theorem qpb {S:List Par}:∀ (n:Nat) (d:List UInt8) {p:Par},refD S n d=some p→p∈S
 |0,d,p,h=>(qiz h).1
 |n+1,d,p,h=>by
  rw [qjC] at h
  cases hf:qf1 S d with
  |some q=>
   rw [hf] at h
   cases h
   exact (qiz hf).1
  |none=>
   rw [hf] at h
   simp only at h
   split at h
   ·exact qpb n _ h
   ·cases h
theorem rlRo (x:List UInt8):0≤(qa4 pRo dRo x).1.2.2∧(qa4 pRo dRo x).1.2.2≤4:=by
 have hP:∀ p∈pRo,0≤p.2.2∧p.2.2≤4:=by decide
 have hD:∀ p∈dRo,0≤p.2.2∧p.2.2≤4:=by decide
 unfold qa4
 cases h1:qf1 pRo x with
 |some p=>exact hP p (qiz h1).1
 |none=>
  cases h2:refD dRo (qlQ x).length (qlQ x) with
  |some d=>exact hD d (qpb _ _ h2)
  |none=>exact ⟨by show (0:Int)≤0;omega,by show (0:Int)≤4;omega⟩
theorem qfJ (u:List Lr) (q:Nat) (r:Lr):(lrE u).set q [int r.no,.str r.id,int r.at_,.str r.fr,.sl 1 (strE r.tos),int r.kind,.str r.about,int r.spans]=lrE (u.set q r):=by
 show (lrE u).set q (lrV r)=_
 simp [lrE]
set_option maxRecDepth 100000 in
set_option maxHeartbeats 8000000 in
theorem qsp (l:List Int) (k:Nat) (hk:k≤600000) (hl:l.length≤9223372036854775807) :
  qih Tryz.prog E6 4 T (stm l k) [] tRow 8 (fun es cs'=>∃ (u:List Lr) (k':Nat),es=lrE u∧u.length≤8∧(∀ r∈u,LrT r)∧cs'=stm l k'∧k'≤k+10010):=by
 unfold qih
 refine qf0 mixed Tryz.func4 qez ?_
 refine zV ?_
 refine qqE (qqw l k 8 (by omega) (by omega) hl) rfl rfl rfl zE_ ?_
 rintro es cs' ⟨v,k1,rfl,hv,hvb,rfl,hk1⟩
 refine zS ?_
 refine useF (qur pRo dRo tRo [] v cbRo (by omega) hvb rlRo) rfl rfl ?_
 rintro es ⟨u,rfl,hul,hub0⟩
 have hub:∀ r∈u,LrT r:=fun r hr=>(hub0 r hr).1
 refine zS ?_
 refine useS (qgm l k1 3 (by omega) hl (by decide)) rfl rfl rfl zE_ ?_
 rintro x cs' ⟨b,rfl,rfl⟩
 simp only [ZZ,WW,Ze,reduceCtorEq,zd,ze,za,zf,zb,qav]
 refine br ?_ ?_
 ·intro h
  have hpos:0 < u.length:=by
   rw [Bool.and_eq_true] at h
   have:=of_decide_eq_true h.2
   omega
  simp only [ZZ,WW,Ze,reduceCtorEq,zd,ze,za,zf,zb,qav]
  refine useS (qc6 l (k1+1) _ (by omega) hl (by omega)) rfl rfl rfl zE_ ?_
  rintro x cs' ⟨y,rfl,rfl⟩
  have b1:=qd2 y (u.length:Nat)
  have b2:=qd3 y (u.length:Nat) (by omega)
  obtain ⟨i,hi⟩:∃ i:Nat,qeE y (u.length:Nat)=(i:Nat):=⟨(qeE y (u.length:Nat)).toNat,by omega⟩
  rw [hi] at b1 b2 ⊢
  clear hi
  obtain ⟨r,hr⟩:∃ r,u[i]?=some r:=⟨_,zk (by omega)⟩
  have hg:=qhd hr
  simp only [lrV] at hg
  have hrb:=hub r (zn hr)
  have hrn:=(hub0 r (zn hr)).2
  simp only [ZZ,WW,Ze,reduceCtorEq,zd,ze,za,zf,zb,qav]
  refine ⟨⟨by omega,by omega⟩,?_⟩
  have hdone:∀ (r':Lr) (k':Nat),LrT r'→k'≤k+10010→∃ (u':List Lr) (k'':Nat),lrE (u.set i r')=lrE u'∧u'.length≤8∧(∀ r∈u',LrT r)∧stm l k'=stm l k''∧k''≤k+10010:=fun r' k' h1 h2=>⟨u.set i r',k',rfl,by rw [List.length_set];omega,fun s hs=>by rcases List.mem_or_eq_of_mem_set hs with hs|rfl;exact hub s hs;exact h1,rfl,h2⟩
  refine useS (qc6 l (k1+1+1) 8 (by omega) hl (by decide)) rfl rfl rfl zE_ ?_
  rintro x cs' ⟨y2,rfl,rfl⟩
  generalize qeE y2 8=c
  refine zS ?_
  refine br ?_ ?_
  ·intro _
   refine drg0 ?_
   simp only [ZZ,WW,Ze,reduceCtorEq,zd,ze,za,zf,zb,hg,qav]
   refine ⟨by omega,?_⟩
   refine useD (qmk l (k1+1+1+1) (-1) 1 (by omega) hl (by decide) (by decide) (by decide)) ⟨_,_,0,rfl,by decide,by decide,rfl⟩ rfl rfl rfl zE_ (fun _=>⟨0,rfl⟩) ?_
   rintro x cs' ⟨v,rfl,hv0,hv1,rfl⟩
   simp only [ZZ,WW,Ze,reduceCtorEq,zd,ze,za,zf,zb,hg,qav]
   refine ⟨qai (by omega) (by omega),by omega,?_⟩
   have hs:=qfJ u i { r with no:=r.no+v }
   simp only at hs
   rw [hs]
   refine qae zE_ ?_
   refine zS ?_
   exact qf2 15 _ (stm l (k1+1+1+1+1)) rfl rfl rfl (hdone { r with no:=r.no+v } (k1+1+1+1+1) ⟨hrb.b1,hrb.b2,hrb.b3,hrb.b4,hrb.b5,(by show _≤r.no+v∧r.no+v≤_;omega),hrb.b7,hrb.b8,hrb.b9⟩ (by omega))
  intro _
  refine zS ?_
  refine br ?_ ?_
  ·intro _
   refine zS ?_
   refine useS (qcx l (k1+1+1+1) [[],[97,32,98],[109,97]] (by omega) hl (by simp) (by simp)) rfl rfl rfl zE_ ?_
   rintro x cs' ⟨v,rfl,hv,rfl⟩
   have hv:v.length≤10:=by simp only [zG,zW,or_false] at hv;rcases hv with rfl|rfl|rfl<;>decide
   simp only [ZZ,WW,Ze,reduceCtorEq,zd,ze,za,zf,zb,hg,qav]
   refine ⟨by omega,?_⟩
   have hs:=qfJ u i { r with id:=v }
   simp only at hs
   rw [hs]
   refine qae zE_ ?_
   refine zS ?_
   exact qf2 15 _ (stm l (k1+1+1+1+1)) rfl rfl rfl (hdone { r with id:=v } (k1+1+1+1+1) ⟨(by show v.length≤_;omega),hrb.b2,hrb.b3,hrb.b4,hrb.b5,hrb.b6,hrb.b7,hrb.b8,hrb.b9⟩ (by omega))
  intro _
  refine zS ?_
  refine br ?_ ?_
  ·intro _
   refine zS ?_
   refine useS (qml l (k1+1+1+1) [-1,5761440,5] (by omega) hl (by simp) (by simp)) rfl rfl rfl zE_ ?_
   rintro x cs' ⟨v,rfl,hv,rfl⟩
   have hv:-1≤v∧v≤5761440:=by simp only [zG,zW,or_false] at hv;rcases hv with rfl|rfl|rfl<;>decide
   simp only [ZZ,WW,Ze,reduceCtorEq,zd,ze,za,zf,zb,hg,qav]
   refine ⟨by omega,?_⟩
   have hs:=qfJ u i { r with at_:=v }
   simp only at hs
   rw [hs]
   refine qae zE_ ?_
   refine zS ?_
   exact qf2 15 _ (stm l (k1+1+1+1+1)) rfl rfl rfl (hdone { r with at_:=v } (k1+1+1+1+1) ⟨hrb.b1,hrb.b2,hrb.b3,hrb.b4,hrb.b5,hrb.b6,(by show _≤v∧v≤_;omega),hrb.b8,hrb.b9⟩ (by omega))
  intro _
  refine zS ?_
  refine br ?_ ?_
  ·intro _
   refine zS ?_
   refine useS (qcx l (k1+1+1+1) [[],[120]] (by omega) hl (by simp) (by simp)) rfl rfl rfl zE_ ?_
   rintro x cs' ⟨v,rfl,hv,rfl⟩
   have hv:v.length≤10:=by simp only [zG,zW,or_false] at hv;rcases hv with rfl|rfl<;>decide
   simp only [ZZ,WW,Ze,reduceCtorEq,zd,ze,za,zf,zb,hg,qav]
   refine ⟨by omega,?_⟩
   have hs:=qfJ u i { r with fr:=v }
   simp only at hs
   rw [hs]
   refine qae zE_ ?_
   refine zS ?_
   exact qf2 15 _ (stm l (k1+1+1+1+1)) rfl rfl rfl (hdone { r with fr:=v } (k1+1+1+1+1) ⟨hrb.b1,(by show v.length≤_;omega),hrb.b3,hrb.b4,hrb.b5,hrb.b6,hrb.b7,hrb.b8,hrb.b9⟩ (by omega))
  intro _
  refine zS ?_
  refine br ?_ ?_
  ·intro _
   simp only [ZZ,WW,Ze,reduceCtorEq,zd,ze,za,zf,zb,hg,qav]
   refine ⟨by omega,?_⟩
   refine useF (qnO (strE r.tos) (by rw [qac];have:=hrb.b3;omega)) rfl rfl ?_
   rintro es rfl
   refine zS ?_
   refine useS (qcx l (k1+1+1+1) [[],[97,64,97,46,100,101],[122,122,64,122,46,100,101]] (by omega) hl (by simp) (by simp)) rfl rfl rfl zE_ ?_
   rintro x cs' ⟨v,rfl,hv,rfl⟩
   have hv:v.length≤10:=by simp only [zG,zW,or_false] at hv;rcases hv with rfl|rfl|rfl<;>decide
   simp only [ZZ,WW,Ze,reduceCtorEq,zd,ze,za,zf,zb,hg,qac]
   refine ⟨by have:=hrb.b3;omega,?_⟩
   rw [show strE r.tos++[[PV.str v]]=strE (r.tos++[v]) from by rw [qdV];rfl,qky]
   refine ⟨_,_,qdx (k:=.l 78) rfl,?_⟩
   simp only [ZZ,WW,Ze,reduceCtorEq,zd,ze,za,zf,zb,hg,qav]
   refine ⟨by omega,?_⟩
   have hs:=qfJ u i { r with tos:=r.tos++[v] }
   simp only at hs
   rw [hs]
   refine qae zE_ ?_
   refine zS ?_
   exact qf2 15 _ (stm l (k1+1+1+1+1)) rfl rfl rfl (hdone { r with tos:=r.tos++[v] } (k1+1+1+1+1) ⟨hrb.b1,hrb.b2,(by show (r.tos++[v]).length≤_;rw [List.length_append];simp only [zl,List.length_nil];have:=hrb.b3;omega),(fun s hs=>by rcases zp.1 hs with hs|hs;exact hrb.b4 s hs;rw [zu] at hs;rw [hs];omega),hrb.b5,hrb.b6,hrb.b7,hrb.b8,hrb.b9⟩ (by omega))
  intro _
  refine zS ?_
  refine br ?_ ?_
  ·intro _
   refine zS ?_
   refine useS (qmk l (k1+1+1+1) 0 4 (by omega) hl (by decide) (by decide) (by decide)) rfl rfl rfl zE_ ?_
   rintro x cs' ⟨w,rfl,hw0,hw4,rfl⟩
   refine zS ?_
   refine useS (qml l (k1+1+1+1+1) [0,1,1000,1001] (by omega) hl (by simp) (by simp)) rfl rfl rfl zE_ ?_
   rintro x cs' ⟨v,rfl,hv,rfl⟩
   have hv:0≤v∧v≤1001:=by simp only [zG,zW,or_false] at hv;rcases hv with rfl|rfl|rfl|rfl<;>decide
   have hg2:((lrE u).set i [int r.no,.str r.id,int r.at_,.str r.fr,.sl 1 (strE r.tos),int w,.str r.about,int r.spans]).getD i []=[int r.no,.str r.id,int r.at_,.str r.fr,.sl 1 (strE r.tos),int w,.str r.about,int r.spans]:=by
    rw [List.getD_eq_getElem?_getD,List.getElem?_set_self (by rw [qav];omega)]
    rfl
   simp only [ZZ,WW,Ze,reduceCtorEq,zd,ze,za,zf,zb,hg,hg2,qav,List.set_set,List.length_set]
   refine ⟨by omega,by omega,?_⟩
   have hs:=qfJ u i { r with kind:=w,spans:=v }
   simp only at hs
   rw [hs]
   refine qae zE_ ?_
   refine zS ?_
   exact qf2 15 _ (stm l (k1+1+1+1+1+1)) rfl rfl rfl (hdone { r with kind:=w,spans:=v } (k1+1+1+1+1+1) ⟨hrb.b1,hrb.b2,hrb.b3,hrb.b4,hrb.b5,hrb.b6,hrb.b7,(by show _≤v∧v≤_;omega),(by show _≤w∧w≤_;omega)⟩ (by omega))
  intro _
  refine zS ?_
  refine br ?_ ?_
  ·intro _
   refine zS ?_
   refine use1 (qkZ [97] 300 (by omega) (by simp)) rfl (.inl rfl) ?_
   have g0:(Lib.repeatL [97] 300).length=300:=by rw [Lib.repeatL_length];rfl
   generalize Lib.repeatL [97] 300=r0 at g0 ⊢
   refine zS ?_
   refine use1 (qkZ [97] 301 (by omega) (by simp)) rfl (.inl rfl) ?_
   have g1:(Lib.repeatL [97] 301).length=301:=by rw [Lib.repeatL_length];rfl
   generalize Lib.repeatL [97] 301=r1 at g1 ⊢
   refine zS ?_
   refine useS (qcx l (k1+1+1+1) [[],[32,120],[97,9,98],r0,r1] (by omega) hl (by simp) (by simp)) rfl rfl rfl zE_ ?_
   rintro x cs' ⟨v,rfl,hv,rfl⟩
   have hv:v.length≤400:=by simp only [zG,zW,or_false] at hv;rcases hv with rfl|rfl|rfl|rfl|rfl<;>first|decide|omega
   simp only [ZZ,WW,Ze,reduceCtorEq,zd,ze,za,zf,zb,hg,qav]
   refine ⟨by omega,?_⟩
   have hs:=qfJ u i { r with about:=v }
   simp only at hs
   rw [hs]
   refine qae zE_ ?_
   refine zS ?_
   exact qf2 15 _ (stm l (k1+1+1+1+1)) rfl rfl rfl (hdone { r with about:=v } (k1+1+1+1+1) ⟨hrb.b1,hrb.b2,hrb.b3,hrb.b4,(by show v.length≤_;omega),hrb.b6,hrb.b7,hrb.b8,hrb.b9⟩ (by omega))
  intro _
  refine zS ?_
  refine useS (qc6 l (k1+1+1+1) 3 (by omega) hl (by decide)) rfl rfl rfl zE_ ?_
  rintro x cs' ⟨v,rfl,rfl⟩
  have v1:=qd2 v 3
  have v2:=qd3 v 3 (by omega)
  generalize qeE v 3=vv at *
  simp only [ZZ,WW,Ze,reduceCtorEq,zd,ze,za,zf,zb,hg,qav]
  refine ⟨by omega,?_⟩
  have hs:=qfJ u i { r with spans:=vv }
  simp only at hs
  rw [hs]
  refine qae zE_ ?_
  refine zS ?_
  exact qf2 15 _ (stm l (k1+1+1+1+1)) rfl rfl rfl (hdone { r with spans:=vv } (k1+1+1+1+1) ⟨hrb.b1,hrb.b2,hrb.b3,hrb.b4,hrb.b5,hrb.b6,hrb.b7,(by show _≤vv∧vv≤_;omega),hrb.b9⟩ (by omega))
 ·intro h
  refine zS ?_
  refine qae zE_ ?_
  refine zS ?_
  exact qf2 15 _ (stm l (k1+1)) rfl rfl rfl ⟨u,_,rfl,by omega,hub,rfl,by omega⟩
def qcK:IC:=(sR [qT 11 .lss 10 9] (.seq (jE 11) (.seq (.block 1 (sR [qX 12 8 8 10,qO 13 (.ld 8 true (.t 12)),qO 5 (.alc 54 [.int .i64 0,.str [],.int .i64 0,.str [],.nl 1,.int .i64 0,.str [],.int .i64 0]),qS 8 5 13] (sR [wF 14 4 5,qL 15 14,jC 16 33 [.t 15,.c (.str [59])],qM 6 16] (.seq (sR [qM 17 6,qB 18 .eql 17 (.c (.str []))] (jW 18 (.reg [qO 6 (.mov (.c (.str [45])))]))) (.cut (sR [qO 7 (.mov (.c (.str [102,117,108,108])))] (.seq (sR [wF 19 5 5,qL 20 19,qB 21 .eql 20 (cI 2)] (jW 21 (.reg [qO 7 (.mov (.c (.str [112,97,114,116])))]))) (.cut (.drg [wF 22 0 5,qL 23 22,qO 24 (.pcall 0 35 [.t 23]),wF 25 1 5,qL 26 25,wF 27 2 5,qL 28 27,qO 29 (.pcall 1 35 [.t 28]),qM 30 7,wF 31 7 5,qL 32 31,qO 33 (.pcall 2 35 [.t 32]),wF 34 3 5,qL 35 34,qM 36 6,wF 37 6 5,qL 38 37,qO 39 (.bsl 1 [.t 24,.t 26,.t 29,.t 30,.t 33,.t 35,.t 36,.t 38]),qO 40 (.pcall 3 33 [.t 39,.c (.str [32])]),qB 41 .add 40 (.c (.str [10])),jC 42 34 [.t 3,.t 41]]))))))))) (.reg [qB 43 .add 10 (cI 1),qM 10 43]))))
abbrev qgP:IC:=(sR [qO 2 (.mov (.c (.str [])))] (sR [qO 3 (.alc 71 [.raw (.pointer none),.nl 1])] (.seq (sR [qM 8 0,qN 9 8,jI 10 0] (.block 0 (.loop qcK))) (sR [jC 44 37 [.t 3],qM 2 44] .ret))))
theorem qg2:chkF Tryz.prog Tryz.f8 qgP [.t 2] 45=true:=by kernel_rfl
def qcj:IC:=(sR [qT 18 .lss 17 16] (.seq (jE 18) (.seq (.block 1 (sR [qX 19 8 15 17,qO 20 (.ld 8 true (.t 19)),qO 7 (.alc 54 [.int .i64 0,.str [],.int .i64 0,.str [],.nl 1,.int .i64 0,.str [],.int .i64 0]),qS 8 7 20] (sR [qO 8 (.mov (.c (.str [102,117,108,108]))),qO 9 (.mov (.c (.str [45])))] (.seq (sR [wF 21 5 7,qL 22 21,qB 23 .eql 22 (cI 2)] (jW 23 (.reg [qO 8 (.mov (.c (.str [112,97,114,116])))]))) (.cut (.seq (sR [wF 24 4 7,qL 25 24,qN 26 25,qB 27 .gtr 26 (cI 0)] (jW 27 (.reg [wF 28 4 7,qL 29 28,jC 30 33 [.t 29,.c (.str [59])],qM 9 30]))) (.cut (.seq (.drg [wF 31 0 7,qL 32 31,qO 33 (.pcall 0 35 [.t 32]),wF 34 1 7,qL 35 34,wF 36 2 7,qL 37 36,qO 38 (.pcall 1 35 [.t 37]),qM 39 8,wF 40 7 7,qL 41 40,qO 42 (.pcall 2 35 [.t 41]),wF 43 3 7,qL 44 43,qM 45 9,wF 46 6 7,qL 47 46,qO 48 (.bsl 1 [.t 33,.t 35,.t 38,.t 39,.t 42,.t 44,.t 45,.t 47]),qO 49 (.pcall 3 33 [.t 48,.c (.str [32])]),qB 50 .add 49 (.c (.str [10])),jC 51 34 [.t 5,.t 50]]) (sR [jC 52 36 [.t 5],qB 53 .gtr 52 (cI 200000)] (jW 53 (sR [qO 2 (.mov (.c (.str []))),jI 3 2] .ret))))))))))) (.reg [qB 54 .add 17 (cI 1),qM 17 54]))))
abbrev qfR:IC:=(sR [qO 2 (.mov (.c (.str []))),jI 3 0] (.seq (sR [qM 10 0,jC 11 6 [.t 10],qM 4 11] (sR [qM 12 4,qB 13 .neq 12 (cI 0)] (jW 13 (sR [qM 14 4,qO 2 (.mov (.c (.str []))),qM 3 14] .ret)))) (sR [qO 5 (.alc 71 [.raw (.pointer none),.nl 1])] (.seq (sR [qM 15 0,qN 16 15,jI 17 0] (.block 0 (.loop qcj))) (sR [jC 55 37 [.t 5],qM 2 55,jI 3 0] .ret)))))
theorem qf5:chkF Tryz.prog Tryz.f7 qfR [.t 2,.t 3] 56=true:=by kernel_rfl
def TxG (q:Nat) (s:List UInt8) (L:Objs):Prop:=(L=[(.l q,.box [.p nilP,.p (.nl 1)] tSb)]∧s=[])∨L=[(.l q,.box [.adr (.l q) 0,.row (.l 1000)] tSb),(.l 1000,.row (bytC s) tU8 1 true)]
theorem TxG.app {q:Nat} {s t:List UInt8}:TxG q (s++t) [(.l q,.box [.adr (.l q) 0,.row (.l 1000)] tSb),(.l 1000,.row (bytC (s++t)) tU8 1 true)]:=.inr rfl
set_option maxRecDepth 100000 in
set_option maxHeartbeats 4000000 in
theorem qiD (l:List Lr) (hB:∀ r∈l,LrT r) (hl:l.length≤3000):PCall Tryz.prog E5 8 [.sl 8 (lrE l)] (·=.str (lgT l)):=by
 refine qah mixed Tryz.func8 qg2 ?_
 refine zV ?_
 simp only [ZZ,WW,Ze,reduceCtorEq,zd,ze,za,zf,zb,qav]
 refine qis (fun m fr L=>∃ k,k≤l.length∧m=l.length - k∧fr=(.p (.sl 8 (lrE l))::oo::oo::.adr (.l 3) 0::oo::oo::oo::oo::.p (.sl 8 (lrE l))::.p (int (l.length:Nat))::.p (int (k:Nat))::oF (oB []))∧TxG 3 (lgT (l.take k)) L) l.length (.p (.sl 8 (lrE l))::oo::oo::.adr (.l 3) 0::oo::oo::oo::oo::.p (.sl 8 (lrE l))::.p (int (l.length:Nat))::.p (int (0:Nat))::oF (oB [])) _ (qxv (by simp only [ZZ,WW,Ze,reduceCtorEq,zd,ze,za,zf,zb,qav];try trivial)) ⟨0,by omega,by omega,rfl,.inl ⟨rfl,rfl⟩⟩ ?_
 rintro m fr L ⟨k,hk,rfl,rfl,hat⟩
 simp only [qcK,ZZ,WW,Ze,reduceCtorEq,zd,ze,za,zf,zb]
 refine br ?_ ?_
 ·intro h
  have hlt:k < l.length:=by have:=of_decide_eq_true h;omega
  obtain ⟨d,hd⟩:∃ d,l[k]?=some d:=⟨_,zk hlt⟩
  have hg:=qhd hd
  simp only [lrV] at hg
  have dB:=hB d (zn hd)
  have hn:=qpj hd
  have htj:=qnU dB
  have hto:=qnT dB
  have hjl:=qop dB hto
  have hll:=qoo dB
  have htl:=qon (l:=l.take k) fun x hx=>hB x (List.mem_of_mem_take hx)
  have htk:(l.take k).length≤3000:=by simp;omega
  have c3:=dB.b3
  have c6:=dB.b6
  have c7:=dB.b7
  have c8:=dB.b8
  generalize hs:lgT (l.take k)=s at *
  rcases hat with ⟨rfl,hs0⟩|rfl
  all_goals
   simp only [ZZ,WW,Ze,reduceCtorEq,zd,ze,za,zf,zb,hg,qav]
   refine ⟨⟨by omega,by omega⟩,hlt,?_⟩
   refine use1 (qef d.tos [59] (by omega) (by show (tjF d).length≤_;omega)) rfl (.inl rfl) ?_
   rw [show Lib.join d.tos [59]=tjF d from rfl]
   refine zS ?_
   refine br (fun h1=>?_) (fun h1=>?_)
   all_goals first
    |(have e1:toW d=[45]:=by unfold toW;rw [if_pos (of_decide_eq_true h1)])
    |(have e1:toW d=tjF d:=by unfold toW;rw [if_neg (of_decide_eq_false h1)])
   all_goals
    refine zS ?_
    refine qae zE_ ?_
    refine zS ?_
    rw [← e1]
    refine br (fun h2=>?_) (fun h2=>?_)
    all_goals first
     |(have e2:kdF d=[112,97,114,116]:=by unfold kdF;rw [if_pos (of_decide_eq_true h2)])
     |(have e2:kdF d=[102,117,108,108]:=by unfold kdF;rw [if_neg (of_decide_eq_false h2)])
    all_goals
     refine zS ?_
     refine qae zE_ ?_
     refine zS ?_
     refine ⟨[.str (Lib.itoa d.no),.str (Lib.itoa d.at_),.str (Lib.itoa d.spans),.str (Lib.join (wdF d (toW d)) [32])],?_⟩
     rw [← e2]
     refine zS ?_
     refine ⟨usep (qc8 d.no (by omega) (by omega)) rfl (.inl rfl),usep (qc8 d.at_ (by omega) (by omega)) rfl (.inl rfl),usep (qc8 d.spans (by omega) (by omega)) rfl (.inl rfl),usep (qef (wdF d (toW d)) [32] (by simp [wdF]) (by omega)) rfl (.inl rfl),?_⟩
     refine ⟨by omega,?_⟩
     rw [show Lib.join (wdF d (toW d)) [32]++[10]=lgL d from rfl]
     refine qpV (k:=.l 3) 1000 s (lgL d) ?_ (by simp) (by omega) ?_
     first
      |exact .inl ⟨rfl,hs0⟩
      |exact .inr ⟨rfl,rfl⟩
     simp only [ZZ,WW,Ze,reduceCtorEq,zd,ze,za,zf,zb,qgC]
     refine ⟨qai (by omega) (by omega),?_⟩
     refine qab (l.length - (k+1)) (.p (.sl 8 (lrE l))::oo::oo::.adr (.l 3) 0::oo::oo::oo::oo::.p (.sl 8 (lrE l))::.p (int (l.length:Nat))::.p (int (k+1:Nat))::oF (oB [])) [(.l 3,.box [.adr (.l 3) 0,.row (.l 1000)] tSb),(.l 1000,.row (bytC (s++lgL d)) tU8 1 true)] (by omega) zF_ zE_ ⟨k+1,by omega,rfl,rfl,.inr (by rw [hn])⟩
 ·intro h
  have hge:l.length≤k:=by have:=of_decide_eq_false h;omega
  rw [zJ hge] at hat
  rcases hat with ⟨rfl,hs0⟩|rfl
  ·refine zS ?_
   refine qqF 1000 [] (.inl ⟨rfl,rfl⟩) (by simp) ?_
   refine zS ?_
   rw [hs0]
  ·refine zS ?_
   refine qqF 1000 _ (.inr ⟨rfl,rfl⟩) (by simp) ?_
   simp only [ZZ,WW,Ze,reduceCtorEq,zd,ze,za,zf,zb]
def priL (l:List Lr):PV:=if ¬ qdd l=0 then .tup [.str [],int (qdd l)] else if 200000 < (lgT l).length then .tup [.str [],int 2] else .tup [.str (lgT l),int 0]
set_option maxRecDepth 100000 in
set_option maxHeartbeats 8000000 in
theorem qoT (l:List Lr) (hB:∀ r∈l,LrT r) (hl:l.length≤3000):PCall Tryz.prog E5 7 [.sl 8 (lrE l)] (·=priL l):=by
 refine qah mixed Tryz.func7 qf5 ?_
 refine zV ?_
 refine use1 (up5 (qgn l (fun r hr=>(hB r hr).B))) rfl (.inl rfl) ?_
 unfold priL
 refine zS ?_
 refine br ?_ ?_
 ·intro h
  have h:¬ qdd l=0:=by simpa using h
  refine zS ?_
  rw [if_pos h]
 intro h
 have h:qdd l=0:=by simpa using h
 rw [if_neg (fun e=>e h)]
 have hz:=(qik h).2
 simp only [ZZ,WW,Ze,reduceCtorEq,zd,ze,za,zf,zb,qav]
 refine qis (fun m fr L=>∃ k,k≤l.length∧m=l.length - k∧(lgT (l.take k)).length≤200000∧fr=(.p (.sl 8 (lrE l))::oo::oo::oo::oo::.adr (.l 5) 0::oD (oo::(.p (.sl 8 (lrE l))::.p (int (l.length:Nat))::.p (int (k:Nat))::oF (oC (oB [])))))∧TxG 5 (lgT (l.take k)) L) l.length (.p (.sl 8 (lrE l))::oo::oo::oo::oo::.adr (.l 5) 0::oD (oo::(.p (.sl 8 (lrE l))::.p (int (l.length:Nat))::.p (int (0:Nat))::oF (oC (oB []))))) _ (qxv (by simp only [ZZ,WW,Ze,reduceCtorEq,zd,ze,za,zf,zb,qav];try trivial)) ⟨0,by omega,by omega,by simp [lgT],rfl,.inl ⟨rfl,rfl⟩⟩ ?_
 rintro m fr L ⟨k,hk,rfl,htx,rfl,hat⟩
 simp only [qcj,ZZ,WW,Ze,reduceCtorEq,zd,ze,za,zf,zb]
 refine br ?_ ?_
 ·intro h0
  have hlt:k < l.length:=by have:=of_decide_eq_true h0;omega
  obtain ⟨d,hd⟩:∃ d,l[k]?=some d:=⟨_,zk hlt⟩
  have hg:=qhd hd
  simp only [lrV] at hg
  have hdm:=zn hd
  have dB:=hB d hdm
  have hn:=qpj hd
  have hmo:=qtA l (k+1)
  have htj:=qnU dB
  have hto:=qnT dB
  have htp:=qxc (hz d hdm)
  have hjl:=qop dB hto
  have hll:=qoo dB
  have c3:=dB.b3
  have c6:=dB.b6
  have c7:=dB.b7
  have c8:=dB.b8
  generalize hs:lgT (l.take k)=s at *
  rcases hat with ⟨rfl,hs0⟩|rfl
  all_goals
   simp only [ZZ,WW,Ze,reduceCtorEq,zd,ze,za,zf,zb,hg,qav]
   refine ⟨⟨by omega,by omega⟩,hlt,?_⟩
   refine br (fun h2=>?_) (fun h2=>?_)
   all_goals first
    |(have e2:kdF d=[112,97,114,116]:=by unfold kdF;rw [if_pos (of_decide_eq_true h2)])
    |(have e2:kdF d=[102,117,108,108]:=by unfold kdF;rw [if_neg (of_decide_eq_false h2)])
   all_goals
    refine zS ?_
    refine qae zE_ ?_
    simp only [ZZ,WW,Ze,reduceCtorEq,zd,ze,za,zf,zb,qac]
    rw [← e2]
    refine br (fun h1=>?_) (fun h1=>?_)
    ·have e1:toW d=tjF d:=by rw [htp,if_pos (of_decide_eq_true h1)]
     refine zS ?_
     refine use1 (qef d.tos [59] (by omega) (by show (tjF d).length≤_;omega)) rfl (.inl rfl) ?_
     rw [show Lib.join d.tos [59]=tjF d from rfl,← e1]
     refine zS ?_
     refine qae zE_ ?_
     refine zS ?_
     refine ⟨[.str (Lib.itoa d.no),.str (Lib.itoa d.at_),.str (Lib.itoa d.spans),.str (Lib.join (wdF d (toW d)) [32])],?_⟩
     refine zS ?_
     refine ⟨usep (qc8 d.no (by omega) (by omega)) rfl (.inl rfl),usep (qc8 d.at_ (by omega) (by omega)) rfl (.inl rfl),usep (qc8 d.spans (by omega) (by omega)) rfl (.inl rfl),usep (qef (wdF d (toW d)) [32] (by simp [wdF]) (by omega)) rfl (.inl rfl),?_⟩
     refine ⟨by omega,?_⟩
     rw [show Lib.join (wdF d (toW d)) [32]++[10]=lgL d from rfl]
     refine qpV (k:=.l 5) 1000 s (lgL d) ?_ (by simp) (by omega) ?_
     first
      |exact .inl ⟨rfl,hs0⟩
      |exact .inr ⟨rfl,rfl⟩
     simp only [ZZ,WW,Ze,reduceCtorEq,zd,ze,za,zf,zb,qgC]
     refine qw9 (k:=.l 5) 1000 (s++lgL d) (.inr ⟨rfl,rfl⟩) (by simp) ?_
     refine zS ?_
     refine br ?_ ?_
     ·intro h2
      have h2:200000 < (s++lgL d).length:=by have:=of_decide_eq_true h2;omega
      rw [hn] at hmo
      rw [if_pos (by omega)]
      simp only [ZZ,WW,Ze,reduceCtorEq,zd,ze,za,zf,zb]
     intro h2
     have h2:(s++lgL d).length≤200000:=by have:=of_decide_eq_false h2;omega
     refine zS ?_
     refine ⟨qai (by omega) (by omega),?_⟩
     refine qab (l.length - (k+1)) (.p (.sl 8 (lrE l))::oo::oo::oo::oo::.adr (.l 5) 0::oD (oo::(.p (.sl 8 (lrE l))::.p (int (l.length:Nat))::.p (int (k+1:Nat))::oF (oC (oB []))))) [(.l 5,.box [.adr (.l 5) 0,.row (.l 1000)] tSb),(.l 1000,.row (bytC (s++lgL d)) tU8 1 true)] (by omega) zF_ zE_ ⟨k+1,by omega,rfl,by rw [hn];exact h2,rfl,.inr (by rw [hn])⟩
    ·have e1:toW d=[45]:=by rw [htp,if_neg (of_decide_eq_false h1)]
     refine zS ?_
     rw [← e1]
     refine qae zE_ ?_
     refine zS ?_
     refine ⟨[.str (Lib.itoa d.no),.str (Lib.itoa d.at_),.str (Lib.itoa d.spans),.str (Lib.join (wdF d (toW d)) [32])],?_⟩
     refine zS ?_
     refine ⟨usep (qc8 d.no (by omega) (by omega)) rfl (.inl rfl),usep (qc8 d.at_ (by omega) (by omega)) rfl (.inl rfl),usep (qc8 d.spans (by omega) (by omega)) rfl (.inl rfl),usep (qef (wdF d (toW d)) [32] (by simp [wdF]) (by omega)) rfl (.inl rfl),?_⟩
     refine ⟨by omega,?_⟩
     rw [show Lib.join (wdF d (toW d)) [32]++[10]=lgL d from rfl]
     refine qpV (k:=.l 5) 1000 s (lgL d) ?_ (by simp) (by omega) ?_
     first
      |exact .inl ⟨rfl,hs0⟩
      |exact .inr ⟨rfl,rfl⟩
     simp only [ZZ,WW,Ze,reduceCtorEq,zd,ze,za,zf,zb,qgC]
     refine qw9 (k:=.l 5) 1000 (s++lgL d) (.inr ⟨rfl,rfl⟩) (by simp) ?_
     refine zS ?_
     refine br ?_ ?_
     ·intro h2
      have h2:200000 < (s++lgL d).length:=by have:=of_decide_eq_true h2;omega
      rw [hn] at hmo
      rw [if_pos (by omega)]
      simp only [ZZ,WW,Ze,reduceCtorEq,zd,ze,za,zf,zb]
     intro h2
     have h2:(s++lgL d).length≤200000:=by have:=of_decide_eq_false h2;omega
     refine zS ?_
     refine ⟨qai (by omega) (by omega),?_⟩
     refine qab (l.length - (k+1)) (.p (.sl 8 (lrE l))::oo::oo::oo::oo::.adr (.l 5) 0::oD (oo::(.p (.sl 8 (lrE l))::.p (int (l.length:Nat))::.p (int (k+1:Nat))::oF (oC (oB []))))) [(.l 5,.box [.adr (.l 5) 0,.row (.l 1000)] tSb),(.l 1000,.row (bytC (s++lgL d)) tU8 1 true)] (by omega) zF_ zE_ ⟨k+1,by omega,rfl,by rw [hn];exact h2,rfl,.inr (by rw [hn])⟩
 ·intro h1
  have hge:l.length≤k:=by have:=of_decide_eq_false h1;omega
  rw [zJ hge] at hat htx
  rw [if_neg (by omega)]
  rcases hat with ⟨rfl,hs0⟩|rfl
  ·refine zS ?_
   refine qqF 1000 [] (.inl ⟨rfl,rfl⟩) (by simp) ?_
   refine zS ?_
   rw [hs0]
  ·refine zS ?_
   refine qqF 1000 _ (.inr ⟨rfl,rfl⟩) (by simp) ?_
   simp only [ZZ,WW,Ze,reduceCtorEq,zd,ze,za,zf,zb]
end Go.Proofs.YtjgdjinhkgjpeabGreatDoor
namespace Go.Proofs.YtjgdjinhkgjpeabGreatDoor
open List renaming length_append→zm,length_take→yd
abbrev qdK:IC:=(sR [qO 6 (.mov (.c (.str [])))] (.seq (sR [qM 9 1,qB 10 .eql 9 (.c (.str [])),qM 11 10,⟨some 12,.mov (.t 2),(some (11,false))⟩,⟨some 13,.bin .eql (.t 12) (.c (.str [])),(some (11,false))⟩,qO 14 (.pick (.t 11) (.c (.bool true)) (.t 13))] (jW 14 (sR [qM 15 2,qM 6 15] .ret))) (sR [qM 16 0,qM 17 1,qO 18 (.sln (.t 17)),jC 19 17 [.t 16,.t 18],qM 7 19] (sR [qM 20 2,qM 21 0,qM 22 2,qO 23 (.sln (.t 22)),jC 24 17 [.t 21,.t 23],qO 25 (.idx (.t 20) (.t 24)),qM 8 25] (.seq (sR [qM 26 0,jC 27 17 [.t 26,.c (.int .i64 3)]] (.block 0 (sR [qB 29 .eql 27 (cI 0),qM 28 29] (.cond (.t 28) (.seq (.drg [qM 30 1,qM 31 7,qO 32 (.ssl (.t 30) none (some (.t 31))),qM 33 8,qO 34 (.cvi .i32 (.t 33)),qO 35 (.cvs (.t 34)),qT 36 .add 32 35,qM 37 1,qM 38 7,qB 39 .add 38 (cI 1),qO 40 (.ssl (.t 37) (some (.t 39)) none),qT 41 .add 36 40,qM 6 41]) .ret) (sR [qB 43 .eql 27 (cI 1),qM 42 43] (jW 42 (.seq (.drg [qM 44 1,qM 45 7,qO 46 (.ssl (.t 44) none (some (.t 45))),qM 47 8,qO 48 (.cvi .i32 (.t 47)),qO 49 (.cvs (.t 48)),qT 50 .add 46 49,qM 51 1,qM 52 7,qO 53 (.ssl (.t 51) (some (.t 52)) none),qT 54 .add 50 53,qM 6 54]) .ret))))))) (.seq (.drg [qM 55 1,qM 56 7,qO 57 (.ssl (.t 55) none (some (.t 56))),qM 58 1,qM 59 7,qB 60 .add 59 (cI 1),qO 61 (.ssl (.t 58) (some (.t 60)) none),qT 62 .add 57 61,qM 6 62]) .ret))))))
theorem qdO:chkF Tryz.prog Tryz.f38 qdK [.t 6] 63=true:=by kernel_rfl
section
variable {E:Envt}
theorem qx3 (c:Int):(Utf8.encode c).data.toList.length≤4:=by
 rw [Array.length_toList]
 exact encode_size_le c
set_option maxHeartbeats 2000000 in
theorem qqz (l:List Int) (k:Nat) (s t:List UInt8) (hk:k≤900000) (hl:l.length≤9223372036854775807) (hs:s.length≤100000000000) (ht:t.length≤1000000) :
  qeG Tryz.prog E 38 T (stm l k) [.str s,.str t] (fun x cs'=>∃ u k',x=.str u∧u.length≤s.length+t.length+10∧cs'=stm l k'∧k'≤k+3):=by
 unfold qeG
 refine qff mixed Tryz.func38 qdO ?_
 refine zV ?_
 ((with_reducible and_intros)<;>try exact sc_)
 refine br ?_ ?_
 ·intro _
  refine zS ?_
  exact qet (stm l k) rfl ⟨t,_,rfl,by omega,rfl,by omega⟩
 ·intro h
  simp only [Bool.or_eq_false_iff,decide_eq_false_iff_not] at h
  have hs0:0 < s.length:=List.length_pos_iff.2 h.1
  have ht0:0 < t.length:=List.length_pos_iff.2 h.2
  refine zS ?_
  refine useS (qc6 l k _ (by omega) hl (by omega)) rfl rfl rfl zE_ ?_
  rintro x cs' ⟨y,rfl,rfl⟩
  obtain ⟨i,hi,hy⟩:=qic y s.length hs0
  rw [hy]
  refine zS ?_
  refine useS (qc6 l (k+1) _ (by omega) hl (by omega)) rfl rfl rfl zE_ ?_
  rintro x cs' ⟨y2,rfl,rfl⟩
  obtain ⟨j,hj,hy2⟩:=qic y2 t.length ht0
  rw [hy2]
  refine zS ?_
  ((with_reducible and_intros)<;>try exact sc_)
  refine useS (qc6 l (k+1+1) _ (by omega) hl (by decide)) rfl rfl rfl zE_ ?_
  rintro x cs' ⟨y3,rfl,rfl⟩
  have hE4:=qx3 (IntKind.i32.wrap (((t.getD j 0).toNat:Nat):Int))
  have l1:(s.take i).length≤s.length:=by simp;omega
  have l2:∀ q,(s.drop q).length≤s.length:=by intro q;simp
  generalize qeE y3 3=z at *
  refine zS ?_
  refine br ?_ ?_
  ·intro _
   refine zS ?_
   refine drg0 ?_
   refine zS ?_
   ((with_reducible and_intros)<;>try exact sc_)
   all_goals first
    |exact qet (stm l (k+1+1+1)) rfl ⟨_,_,rfl,by simp only [zm,List.length_drop,yd];omega,rfl,by omega⟩
    |(simp only [zm,List.length_drop,yd];omega)
  ·intro _
   refine zS ?_
   refine br ?_ ?_
   ·intro _
    refine zS ?_
    refine drg0 ?_
    refine zS ?_
    ((with_reducible and_intros)<;>try exact sc_)
    all_goals first
     |exact qet (stm l (k+1+1+1)) rfl ⟨_,_,rfl,by simp only [zm,List.length_drop,yd];omega,rfl,by omega⟩
     |(simp only [zm,List.length_drop,yd];omega)
   ·intro _
    refine zS ?_
    refine drg0 ?_
    refine zS ?_
    ((with_reducible and_intros)<;>try exact sc_)
    all_goals first
     |exact qet (stm l (k+1+1+1)) rfl ⟨_,_,rfl,by simp only [zm,List.length_drop,yd];omega,rfl,by omega⟩
     |(simp only [zm,List.length_drop,yd];omega)
end
end Go.Proofs.YtjgdjinhkgjpeabGreatDoor
namespace Go.Proofs.YtjgdjinhkgjpeabGreatDoor
open Go.RowKit
abbrev qdA:IC:=(sR [qO 2 (.mov (.c (.str [])))] (sR [qM 5 0,jC 6 4 [.t 5],qM 3 6] (.seq (sR [qM 7 3,jC 8 5 [.t 7],qB 9 .neq 8 (cI 0)] (jW 9 (.reg [qO 3 (.mov (.c (.nl 8)))]))) (.cut (sR [qM 10 3,jC 11 8 [.t 10],qM 4 11] (.seq (sR [qM 12 0,jC 13 16 [.t 12,.c (.int .i64 2)]] (jW 13 (.reg [qM 14 0,qM 15 4,qM 16 0,qO 17 (.bsl 1 [.c (.str [32]),.c (.str [48]),.c (.str [45]),.c (.str [59]),.c (.str [10]),.c (.str [120])]),jC 18 19 [.t 16,.t 17],jC 19 38 [.t 14,.t 15,.t 18],qM 4 19]))) (.cut (.seq (sR [qM 20 0,jC 21 16 [.t 20,.c (.int .i64 8)]] (jW 21 (.reg [qM 22 4,qM 23 0,qO 24 (.bsl 1 [.c (.str [49,32,97,32,53,32,102,117,108,108,32,48,32,97,64,98,46,100,101,32,45,32,120,10]),.c (.str [49,32,97,32,53,32,102,117,108,108,32,48,32,97,64,98,46,100,101,32,45,32,10]),.c (.str [49,32,97,32,53,32,104,97,108,102,32,48,32,97,64,98,46,100,101,32,45,32,120,10]),.c (.str [48,49,32,97,32,53,32,102,117,108,108,32,48,32,97,64,98,46,100,101,32,45,32,120,10]),.c (.str [49,32,97,32,53,32,102,117,108,108,32,48,32,97,64,98,46,100,101,32,120,64,121,46,100,101,59,97,64,98,46,100,101,32,120,10]),.c (.str [49,32,97,32,53,32,112,97,114,116,32,49,32,97,64,98,46,100,101,32,45,32,97,32,98,32,32,99,10])]),jC 25 19 [.t 23,.t 24],qT 26 .add 22 25,qM 4 26]))) (.cut (sR [qM 27 4,qM 2 27] .ret))))))))))
theorem qdB:chkF Tryz.prog Tryz.f9 qdA [.t 2] 28=true:=by kernel_rfl
def SRA (l:List Int) (k:Nat) (fr:List AV) (L:Objs):Prop:=∃ (q:List Lr) (v:PV) (k2:Nat),q.length≤20∧(∀ r∈q,LrT r)∧k2≤k+11000∧(v=.sl 8 (lrE q)∨v=.nl 8∧q=[])∧fr=(.adr (.b 0) 0::oo::oo::.p v::oE (oD []))∧L=[(.b 0,.box ((stm l k2).map .p) T)]
def SRB (l:List Int) (k:Nat) (fr:List AV) (L:Objs):Prop:=∃ (q:List UInt8) (k2:Nat),q.length≤99000000000∧k2≤k+11010∧fr=(.adr (.b 0) 0::oo::oo::oo::.p (.str q)::oE (oC (oB (oo::[]))))∧L=[(.b 0,.box ((stm l k2).map .p) T)]
def SRC (l:List Int) (k:Nat) (fr:List AV) (L:Objs):Prop:=∃ (q:List UInt8) (k2:Nat),q.length≤100000000000∧k2≤k+11020∧fr=(oo::oo::oo::oo::.p (.str q)::oE (oC (oB (oo::[]))))∧L=[(.b 0,.box ((stm l k2).map .p) T)]
def rtW:List (List UInt8):=[[49,32,97,32,53,32,102,117,108,108,32,48,32,97,64,98,46,100,101,32,45,32,120,10],[49,32,97,32,53,32,102,117,108,108,32,48,32,97,64,98,46,100,101,32,45,32,10],[49,32,97,32,53,32,104,97,108,102,32,48,32,97,64,98,46,100,101,32,45,32,120,10],[48,49,32,97,32,53,32,102,117,108,108,32,48,32,97,64,98,46,100,101,32,45,32,120,10],[49,32,97,32,53,32,102,117,108,108,32,48,32,97,64,98,46,100,101,32,120,64,121,46,100,101,59,97,64,98,46,100,101,32,120,10],[49,32,97,32,53,32,112,97,114,116,32,49,32,97,64,98,46,100,101,32,45,32,97,32,98,32,32,99,10]]
theorem qvJ:∀ x∈rtW,x.length≤60:=by decide
set_option maxRecDepth 100000 in
set_option maxHeartbeats 4000000 in
theorem qoQ (l:List Int) (k:Nat) (hk:k≤500000) (hl:l.length≤9223372036854775807) :
  qeG Tryz.prog E5 9 T (stm l k) [] (fun x cs'=>∃ (q:List UInt8) (k':Nat),x=.str q∧q.length≤100000000000∧cs'=stm l k'∧k'≤k+11020):=by
 unfold qeG
 refine qff mixed Tryz.func9 qdB ?_
 refine zV ?_
 refine qqE (qxa (qsp l k (by omega) hl)) rfl rfl rfl zE_ ?_
 rintro es cs' ⟨u,k1,rfl,hu,hub,rfl,hk1⟩
 refine zS ?_
 refine use1 (up5 (qgj u (fun r hr=>(hub r hr).B))) rfl (.inr rfl) ?_
 refine zS ?_
 refine qe3 (SRA l k) ?_ ?_ ?_
 ·intro _
  refine zS ?_
  exact qc9 (.adr (.b 0) 0::oo::oo::.p (.nl 8)::oE (oD [])) [(.b 0,.box ((stm l k1).map .p) T)] zF_ zE_ ⟨[],_,k1,by simp,by simp,by omega,.inr ⟨rfl,rfl⟩,rfl,rfl⟩
 ·intro _
  refine zS ?_
  exact ⟨_,_,ReOk.trans (qdx (k:=.l 6) rfl) (by simp only [ZZ,WW,Ze,reduceCtorEq,Nat.reduceAdd,Nat.reduceMul,Nat.reduceLeDiff,Nat.reduceLT,Nat.reduceEqDiff];exact qbq (fr':=(.adr (.b 0) 0::oo::oo::.p (.sl 8 (lrE u))::oE (oD []))) (L':=[(.b 0,.box ((stm l k1).map .p) T)]) zF_ zE_),⟨u,_,k1,by omega,hub,by omega,.inl rfl,rfl,rfl⟩⟩
 rintro fr L ⟨q,v,k2,hq,hqb,hk2,hv,rfl,rfl⟩
 have htl:=qon hqb
 have hLT:=qiD q hqb (by omega)
 rcases hv with rfl|⟨rfl,rfl⟩
 all_goals
  refine zS ?_
  refine use1 hLT rfl (.inl rfl) ?_
  generalize lgT _=s at *
  refine zS ?_
  refine useS (qgm l k2 2 (by omega) hl (by decide)) rfl rfl rfl zE_ ?_
  rintro x cs' ⟨b,rfl,rfl⟩
  refine zS ?_
  refine qe3 (SRB l k) ?_ ?_ ?_
  ·intro _
   refine zS ?_
   refine useS (qcx l (k2+1) [[32],[48],[45],[59],[10],[120]] (by omega) hl (by simp) (by simp)) rfl rfl rfl zE_ ?_
   rintro x cs' ⟨c,rfl,hc,rfl⟩
   have hc:c.length≤1:=by simp only [List.mem_cons,List.not_mem_nil,or_false] at hc;rcases hc with rfl|rfl|rfl|rfl|rfl|rfl<;>decide
   refine zS ?_
   refine useS (qqz l (k2+1+1) s c (by omega) hl (by omega) (by omega)) rfl rfl rfl zE_ ?_
   rintro x cs' ⟨p,k3,rfl,hp,rfl,hk3⟩
   refine zS ?_
   exact qc9 (.adr (.b 0) 0::oo::oo::oo::.p (.str p)::oE (oC (oB (oo::[])))) [(.b 0,.box ((stm l k3).map .p) T)] zF_ zE_ ⟨p,k3,by omega,by omega,rfl,rfl⟩
  ·intro _
   refine zS ?_
   exact qc9 (.adr (.b 0) 0::oo::oo::oo::.p (.str s)::oE (oC (oB (oo::[])))) [(.b 0,.box ((stm l (k2+1)).map .p) T)] zF_ zE_ ⟨s,_,by omega,by omega,rfl,rfl⟩
  rintro fr L ⟨p,k3,hp,hk3,rfl,rfl⟩
  refine zS ?_
  refine useS (qgm l k3 8 (by omega) hl (by decide)) rfl rfl rfl zE_ ?_
  rintro x cs' ⟨b,rfl,rfl⟩
  refine zS ?_
  refine qe3 (SRC l k) ?_ ?_ ?_
  ·intro _
   refine zS ?_
   refine useS (qcx l (k3+1) rtW (by omega) hl (by decide) (by decide)) rfl rfl rfl zE_ ?_
   rintro x cs' ⟨c,rfl,hc,rfl⟩
   have hc:=qvJ c hc
   refine zS ?_
   refine ⟨by omega,?_⟩
   exact qc9 (oo::oo::oo::oo::.p (.str (p++c))::oE (oC (oB (oo::[])))) [(.b 0,.box ((stm l (k3+1+1)).map .p) T)] zF_ zE_ ⟨p++c,_,by rw [List.length_append];omega,by omega,rfl,rfl⟩
  ·intro _
   refine zS ?_
   exact qc9 (oo::oo::oo::oo::.p (.str p)::oE (oC (oB (oo::[])))) [(.b 0,.box ((stm l (k3+1)).map .p) T)] zF_ zE_ ⟨p,_,by omega,by omega,rfl,rfl⟩
  rintro fr L ⟨q,k4,hq,hk4,rfl,rfl⟩
  refine zS ?_
  exact qet (stm l k4) rfl ⟨q,k4,rfl,hq,rfl,hk4⟩
end Go.Proofs.YtjgdjinhkgjpeabGreatDoor
