import Derived.Test.YtmpdnpljdcincaaGreatDoorZ16
import Derived.Test.YtmpdnpljdcincaaGreatDoorZ17
import Derived.Test.YtmpdnpljdcincaaGreatDoorZ18
set_option linter.unusedVariables false
set_option linter.unusedSimpArgs false
set_option linter.defProp false
namespace Go.Proofs.YtmpdnpljdcincaaGreatDoor
open Nat renaming le_trans→yl,reduceAdd→zd,reduceEqDiff→za,reduceLT→zf,reduceLeDiff→zb,reduceMul→ze
open List renaming append_assoc→yh,getElem?_eq_getElem→zg,getElem?_eq_some_iff→zk,getElem?_of_mem→zQ,length_cons→zK,length_map→zw,length_take→zJ,map_append→zF,map_cons→zx,mem_append→zz,mem_cons→zC,mem_of_getElem?→zm,mem_singleton→zy,not_mem_nil→yj,take_of_length_le→zq,take_succ_eq_append_getElem→zo
open Go.RowKit
def qdv:IC:=(sR [qT 96 .lss 95 94] (.seq (.cond (.t 96) .skip (.exit 6)) (.seq (.block 7 (sR [qX 97 1 93 95,qL 98 97,qM 23 98] (sR [qM 99 19,qM 100 99,⟨some 101,.mov (.t 13),(some (100,false))⟩,⟨some 102,.mov (.t 23),(some (100,false))⟩,⟨some 103,.mpl false (.bool false) (.t 101) (.t 102),(some (100,false))⟩,qO 104 (.pick (.t 100) (.c (.bool true)) (.t 103)),qM 19 104] (sR [qM 105 1,qM 106 23,jC 107 151 [.t 105,.t 106],qO 24 (.alc 130 [.str [],.int .i64 0,.nl 2]),qS 3 24 107] (sR [qM 108 23,qF 109 0 21,qL 110 109,qM 111 12,qB 112 .add 111 (cI 1),qO 113 (.bld [.str [],.str [],.int .i64 0,.int .i64 0,.int .i64 0,.nl 1,.int .i64 0] [(0,1,.t 108),(1,1,.t 110),(3,1,.t 112),(6,1,.c (.int .i64 1))]),qO 25 (.alc 83 [.str [],.str [],.int .i64 0,.int .i64 0,.int .i64 0,.nl 1,.int .i64 0]),qS 7 25 113] (.seq (sR [qF 114 1 24,qL 115 114] (.block 8 (sR [qB 123 .eql 115 (cI 1),qM 122 123] (.cond (.t 122) (sR [qM 125 0,qM 126 23,jC 127 152 [.t 125,.t 126],qM 124 127,qO 128 (.ext 0 (.t 124)),qO 129 (.ext 1 (.t 124)),qO 26 (.alc 79 [.str [],.str [],.int .i64 0,.str [],.int .i64 0,.str [],.str []]),qS 7 26 128,qM 27 129] (.reg [qF 130 6 26,qL 131 130,qF 132 2 24,qL 133 132,jC 134 153 [.t 131,.t 133],jC 135 59 [.t 134],qF 136 2 25,⟨none,.st 1 (.t 136) (cI 1),none⟩,qF 137 5 25,qS 1 137 135])) (sR [qB 139 .eql 115 (cI 2),qM 138 139] (.cond (.t 138) (.drg [qF 140 3 6,qO 141 (.ldn 25 1 false (.t 140)),qO 142 (.bsl 1 [.t 141]),qO 143 (.bsl 1 [.t 142]),qF 144 2 25,⟨none,.stk 25 1 (.t 144) (cI 2),none⟩,qF 145 5 25,qS 1 145 143]) (.drg [qF 116 4 6,qO 117 (.ldn 25 1 false (.t 116)),qO 118 (.bsl 1 [.t 117]),qO 119 (.bsl 1 [.t 118]),qF 120 2 25,⟨none,.stk 25 1 (.t 120) (cI 3),none⟩,qF 121 5 25,qS 1 121 119]))))))) (.cut (sR [qM 146 12,qF 147 5 25,qL 148 147,qN 149 148,qT 150 .add 146 149,qM 12 150] (sR [qM 151 12,qF 152 4 25,qS 1 152 151] (.reg [qF 153 3 11,qL 154 153,qO 155 (.ld 7 true (.t 25)),qO 156 (.bsl 7 [.t 155]),qO 157 (.app 83 7 88 (.t 154) (.t 156)),qF 158 3 11,qS 1 158 157])))))))))) (.reg [qB 159 .add 95 (cI 1),qM 95 159]))))
def qdw:IC:=(sR [qT 89 .lss 88 87] (.seq (.cond (.t 89) .skip (.exit 4)) (.seq (.block 5 (sR [qX 90 2 86 88,qO 91 (.ld 2 true (.t 90)),qO 21 (.alc 175 [.str [],.nl 1]),qS 2 21 91] (sR [qF 92 1 21,qL 93 92,qN 94 93,jI 95 0] (.block 6 (.loop qdv))))) (.reg [qB 160 .add 88 (cI 1),qM 88 160]))))
def qdx:IC:=(sR [qT 64 .lss 63 62] (.seq (.cond (.t 64) .skip (.exit 2)) (.seq (.block 3 (sR [qX 65 7 61 63,qO 66 (.ld 7 true (.t 65)),qO 17 (.alc 83 [.str [],.str [],.int .i64 0,.int .i64 0,.int .i64 0,.nl 1,.int .i64 0]),qS 7 17 66] (sR [qM 67 13,qF 68 0 17,qL 69 68,⟨none,.mpu (.t 67) (.t 69) (.c (.bool true)),none⟩] (sR [qF 70 1 15,qL 71 70,qF 72 0 6,qL 73 72,qT 74 .eql 71 73] (jW 74 (.reg [qM 75 12,qF 76 4 17,qL 77 76,qO 78 (.mx (.t 75) (.t 77)),qM 12 78])))))) (.cut (.reg [qB 79 .add 63 (cI 1),qM 63 79])))))
def qdy:IC:=(sR [qT 57 .lss 56 55] (.seq (jE 57) (.seq (.block 1 (sR [qX 58 4 54 56,qO 59 (.ld 4 true (.t 58)),qO 15 (.alc 34 [.int .i64 0,.str [],.int .i64 0,.nl 7]),qS 4 15 59] (sR [qF 60 3 15,qL 61 60,qN 62 61,jI 63 0] (.block 2 (.loop qdx))))) (.reg [qB 80 .add 56 (cI 1),qM 56 80]))))
def qeJ:IC:=(sR [qO 6 (.box 132 (.t 2)),qO 8 (.alc 34 [.int .i64 0,.str [],.int .i64 0,.nl 7]),jI 9 0] (.seq (.seq (.drg [qM 28 0,qM 29 1,qO 30 (.pcall 0 148 [.t 28,.t 29]),qO 31 (.ld 6 true (.t 6)),qO 32 (.pcall 1 149 [.t 31]),qM 33 3,qO 34 (.pcall 2 26 [.t 33]),qO 35 (.bsl 1 [.t 30,.t 32,.t 34]),qO 36 (.pcall 3 147 [.t 35]),qM 10 36]) (sR [qM 37 10,qB 38 .neq 37 (cI 0)] (jW 38 (sR [qO 39 (.bld [.int .i64 0,.str [],.int .i64 0,.nl 7] []),qM 40 10,qS 4 8 39,qM 9 40] .ret)))) (.seq (sR [qM 41 3,qN 42 41,qB 43 .eql 42 (cI 200)] (jW 43 (sR [qO 44 (.bld [.int .i64 0,.str [],.int .i64 0,.nl 7] []),qS 4 8 44,jI 9 12] .ret))) (sR [qM 45 3,qN 46 45,qB 47 .add 46 (cI 1),qF 48 0 6,qL 49 48,qF 50 1 6,qL 51 50,qO 52 (.bld [.int .i64 0,.str [],.int .i64 0,.nl 7] [(0,1,.t 47),(1,1,.t 49),(2,1,.t 51)]),qO 11 (.alc 34 [.int .i64 0,.str [],.int .i64 0,.nl 7]),qS 4 11 52,⟨none,.re,none⟩] (sR [jI 12 0] (sR [qO 53 (.mkm 9 4),qM 13 53] (.seq (sR [qM 54 3,qN 55 54,jI 56 0] (.block 0 (.loop qdy))) (sR [qM 81 12,qM 18 81] (sR [qO 19 (.mov (.c (.bool false)))] (.seq (sR [qM 82 0,qM 83 1,qF 84 2 6,qL 85 84,jC 86 150 [.t 82,.t 83,.t 85],qN 87 86,jI 88 0] (.block 4 (.loop qdw))) (.seq (.block 9 (sR [qM 162 19,qM 161 162] (.cond (.t 161) (sR [qO 163 (.bld [.int .i64 0,.str [],.int .i64 0,.nl 7] []),qS 4 8 163,jI 9 6] .ret) (sR [qF 165 3 11,qL 166 165,qN 167 166,qB 168 .eql 167 (cI 0),qM 164 168] (.cond (.t 164) (sR [qO 169 (.bld [.int .i64 0,.str [],.int .i64 0,.nl 7] []),qS 4 8 169,jI 9 8] .ret) (sR [qM 171 12,qM 172 18,qT 173 .sub 171 172,qF 174 5 6,qL 175 174,qT 176 .gtr 173 175,qM 170 176] (.cond (.t 170) (sR [qO 177 (.bld [.int .i64 0,.str [],.int .i64 0,.nl 7] []),qS 4 8 177,jI 9 2] .ret) (sR [qM 179 12,qF 180 1 6,qL 181 180,jC 182 77 [.t 181],qT 183 .geq 179 182,qM 178 183] (jW 178 (sR [qO 184 (.bld [.int .i64 0,.str [],.int .i64 0,.nl 7] []),qS 4 8 184,jI 9 12] .ret)))))))))) (sR [⟨none,.re,none⟩,qO 185 (.ld 4 true (.t 11)),qS 4 8 185,jI 9 0] .ret))))))))))))
theorem qiA:chkF Tryz.prog Tryz.f105 qeJ [.c 8 4 true,.t 9] 186=true:=by kernel_rfl
section
variable {E:Envt}
theorem qot (l:List Rul) (hl:l.length≤1000000) (s:List UInt8):PCall Tryz.prog E 151 [.sl 3 (rlE l),.str s] (·=.agg (rlV (rlOf l s))):=by
 refine qag mixed Tryz.func151 qd5 ?_
 refine zV ?_
 simp only [ZZ,WW,Zd,reduceCtorEq,zd,ze,zb,zf,za,qbN]
 refine qac (fun n fr L=>∃ (k:Nat),k≤l.length∧n=l.length - k∧(l.find? (fun r=>decide (r.id=s))=(l.drop k).find? (fun r=>decide (r.id=s)))∧fr=(oo::.p (.str s)::oo::oo::.adr (.l 4) 0::oo::oo::.p (.sl 3 (rlE l))::.p (int (l.length:Nat))::.p (int (k:Nat))::oD (oB (oo::[])))∧L=[(.l 4,.box [.p (.str []),.p (int 0),.p (.nl 2)] 130)]) (l.length) _ _ (by simp only [ZZ,WW,Zd,reduceCtorEq,zd,ze,zb,zf,za,qbN];try trivial) zF_ ⟨0,by omega,by omega,rfl,rfl,rfl⟩ ?_
 rintro n fr L ⟨k,hk,rfl,hF,rfl,rfl⟩
 simp only [qbA,ZZ,WW,Zd,reduceCtorEq,zd,ze,zb,zf,za]
 refine br ?_ ?_
 ·intro h
  have hlt:k < l.length:=by have:=of_decide_eq_true h;omega
  obtain ⟨r,hr⟩:∃ r,l[k]?=some r:=⟨_,zg hlt⟩
  have hg:=qla hr
  have hd:l.drop k=r :: l.drop (k+1):=by rw [List.drop_eq_getElem_cons hlt,(zk.1 hr).2]
  rw [hd,List.find?_cons] at hF
  simp only [ZZ,WW,Zd,reduceCtorEq,zd,ze,zb,zf,za,hg,qbN]
  ((with_reducible and_intros)<;>try exact sc_)
  refine br ?_ ?_
  ·intro h2
   have h3:r.id=s:=by simpa using h2
   rw [decide_eq_true h3] at hF
   refine zS ?_
   unfold rlOf
   rw [hF]
   rfl
  ·intro h2
   have h3:¬ r.id=s:=by simpa using h2
   rw [decide_eq_false h3] at hF
   refine zS ?_
   ((with_reducible and_intros)<;>try exact sc_)
   refine qab (l.length - (k+1)) _ _ (by omega) zF_ zF_ ⟨k+1,by omega,rfl,hF,rfl,rfl⟩
 intro h
 have hge:l.length≤k:=by have:=of_decide_eq_false h;omega
 rw [List.drop_eq_nil_of_le hge] at hF
 refine zS ?_
 unfold rlOf
 rw [hF]
 rfl
end
theorem qsj {il:List Itm} {l:List Rul} (h:rulF il l=0) (s:List UInt8) (h1:(rlOf l s).what=1):(∀ p∈(rlOf l s).spans,0≤p.1∧p.1 < p.2∧p.2≤(qjx (itOf il s)).length):=by
 unfold rlOf at h1 ⊢
 cases hf:l.find? (fun r=>decide (r.id=s)) with
 |none=>rw [hf] at h1;cases h1
 |some r=>
  have hm:=List.mem_of_find?_eq_some hf
  have hs:r.id=s:=by simpa using List.find?_some hf
  obtain ⟨k,hk⟩:=zQ hm
  have hkl:=(zk.1 hk).1
  have h2:qai ((List.range l.length).map (ruE il l))=0:=by
   unfold rulF at h
   split at h
   ·cases h
   ·exact h
  have h3:=qaz h2 _ (List.mem_map.2 ⟨k,List.mem_range.2 hkl,rfl⟩)
  unfold ruE at h3
  have hd:l.getD k rl0=r:=by simp [List.getD,hk]
  rw [hd] at h3
  have h4:=qaz h3 (qfs r.spans (((getI il r.id).getD it0).2.2.2.2.2.2.length:Nat)) (by simp)
  rw [hs] at h4
  exact qtj h4
theorem qv8 {l:List Rul} (hb:∀ r∈l,r.spans.length≤1000000) (s:List UInt8):(rlOf l s).spans.length≤1000000:=by
 unfold rlOf
 cases hf:l.find? (fun r=>decide (r.id=s)) with
 |none=>simp
 |some r=>exact hb r (List.mem_of_find?_eq_some hf)
theorem qv0 {s:Stp} (h:setF s=0):(s.ord=1∨s.ord=2∨s.ord=3)∧4≤s.dig∧s.dig≤9:=by
 have z1:=qaz h (qd3 s.pre s.dig) (by simp)
 have z2:=qaz h (ordF s.ord) (by simp)
 refine ⟨?_,qlp z1⟩
 unfold ordF qak at z2
 split at z2
 ·cases z2
 ·rename_i h3
  have h4:inE s.ord 1 3=true:=by simpa using h3
  unfold inE at h4
  simp only [Bool.and_eq_true,Bool.not_eq_true',decide_eq_true_eq,decide_eq_false_iff_not] at h4
  omega
theorem qts:shE []=[]:=rfl
def twM (past:List Prd) (D:List (List UInt8×List UInt8)):Bool:=D.any fun q=>qh2 past q.2
set_option maxHeartbeats 8000000 in
set_option maxRecDepth 100000 in
theorem qvp (il:List Itm) (hP:qbl il) (h12:il.length≤12) (l:List Rul) (hl:l.length≤1000000) (hb:∀ r∈l,r.spans.length≤1000000) (s:Stp) (hs:StB s) (hm:-1000000000≤s.most∧s.most≤1000000000) (past:List Prd) (hpl:past.length≤1000) (hpB:∀ p∈past,PdB p) :
  qvl Tryz.prog E0 105 [.sl 7 (itE il),.sl 3 (rlE l),.agg (stV s)] tPrd 4 (pdE past) [] (fun x es'=>es'=pdE past∧x=.tup [.agg (pdV (pmP il l s past)),int (pmE il l s past)]):=by
 unfold qvl
 refine quz mixed Tryz.func105 qiA ?_
 simp only [a0P,a0,l0,OS.ao,XX,Nat.reduceSub,qeJ,stV,ZZ,WW,Zd,reduceCtorEq,zd,ze,zb,zf,za]
 have hsf:=qn5 s hs
 simp only [stV] at hsf
 have hend:∀ c:Int,c≠0→pmE il l s past=c→PV.tup [.agg [int 0,.str [],int 0,.sl 7 []],int c]=.tup [.agg (pdV (pmP il l s past)),int (pmE il l s past)]:=by
  intro c hc he
  unfold pmP
  rw [if_neg (by rw [he];exact hc),he]
  rfl
 refine ⟨[int (rulF il l),int (setF s),int (pdsF past),int (pmA il l s past)],?_⟩
 refine zS ?_
 refine ⟨usep (qlH il hP l hl hb) rfl (.inl rfl),usep hsf rfl (.inl rfl),usep (qeM past (by omega) hpB) rfl (.inr rfl),usep (qCY [_,_,_] (by simp)) rfl (.inl rfl),?_⟩
 refine br ?_ ?_
 ·intro h
  have h1:¬ pmA il l s past=0:=by simpa using h
  refine zS ?_
  exact qjR (pdE past) rfl ⟨rfl,hend _ h1 (by rw [pmE,if_neg h1])⟩
 intro h
 have hA:pmA il l s past=0:=by simpa using h
 have hr0:rulF il l=0:=qaz hA _ (by simp)
 have hs0:setF s=0:=qaz hA _ (by simp)
 have hd0:pdsF past=0:=qaz hA _ (by simp)
 have hE:pmE il l s past=if past.length=200 then 12 else pmB il l s past:=by rw [pmE,if_pos hA]
 clear h
 have e200:decide ((past.length:Int)=200)=decide (past.length=200):=decide_eq_decide.2 (by omega)
 simp only [ZZ,WW,Zd,reduceCtorEq,zd,ze,zb,zf,za,qaE,e200]
 refine br ?_ ?_
 ·intro h
  rw [if_pos (by simpa using h)] at hE
  refine zS ?_
  exact qjR (pdE past) rfl ⟨rfl,hend _ (by decide) hE⟩
 intro h
 rw [if_neg (by simpa using h)] at hE
 clear h e200
 obtain ⟨ho,hd4,hd9⟩:=qv0 hs0
 simp only [ZZ,WW,Zd,reduceCtorEq,zd,ze,zb,zf,za,qaE]
 ((with_reducible and_intros)<;>try exact sc_)
 rw [qaW]
 refine ⟨_,_,qtD (k:=.l 11) 3 157 qbw 7 7 (by simp) rfl rfl,?_⟩
 simp only [ZZ,WW,Zd,reduceCtorEq,zd,ze,zb,zf,za,qaE]
 refine qac (fun n fr L=>∃ (a:Nat) (kv:List (List UInt8×PV)) (nn:Int),a≤past.length∧n=past.length - a∧(nn=qql (past.take a) s.pre)∧(qtv kv (idsT (past.take a)))∧fr=(.p (.sl 7 (itE il))::.p (.sl 3 (rlE l))::oo::.row (.b 0)::oo::oo::.adr (.l 6) 0::oo::.adr (.l 8) 0::.p (int 0)::oo::.adr (.l 11) 0::.p (int nn)::.mp (.l 53)::oF (oD (.row (.b 0)::.p (int (past.length:Nat))::.p (int (a:Nat))::oG (oG (oo::[])))))∧L=[(.b 0,.row (pdE past) tPrd 4 true),(.l 6,.box [.p (.str s.pre),.p (int s.dig),.p (int s.ord),.p (.str s.slip),.p (.str s.skip),.p (int s.most)] 132),(.l 8,.box [.p (int 0),.p (.str []),.p (int 0),.p (.nl 7)] tPrd),(.l 11,.box [.p (int ((past.length:Nat)+1)),.p (.str s.pre),.p (int s.dig),.row (.l 157)] tPrd),(.l 157,.row (shE []) qbw 7 true),(.l 53,.map kv 9 4)]) (past.length) _ _ (by simp only [ZZ,WW,Zd,reduceCtorEq,zd,ze,zb,zf,za,qaE];try trivial) (by simp only [qts,ZZ,WW,Zd,reduceCtorEq,zd,ze,zb,zf,za]) ⟨0,[],0,by omega,by omega,rfl,qtu,rfl,rfl⟩ ?_
 rintro n fr L ⟨a,kv,nn,ha,rfl,hn,hkv,rfl,rfl⟩
 simp only [qdy,ZZ,WW,Zd,reduceCtorEq,zd,ze,zb,zf,za]
 refine br ?_ ?_
 ·intro h
  have hlt:a < past.length:=by have:=of_decide_eq_true h;omega
  obtain ⟨p,hp⟩:∃ p,past[a]?=some p:=⟨_,zg hlt⟩
  have hg:=qgW hp
  have hpm:=zm hp
  have hpB1:=hpB p hpm
  have hto:=qrw hd0 p hpm
  have hsl:=hpB1.shs
  simp only [pdV] at hg
  have htk:past.take (a+1)=past.take a++[p]:=by rw [zo hlt,(zk.1 hp).2]
  have hnb:=qnn (past:=past.take a) (fun q hq x hx=>(qrw hd0 q (List.mem_of_mem_take hq) x hx).2.2) s.pre
  simp only [ZZ,WW,Zd,reduceCtorEq,zd,ze,zb,zf,za,hg,qaE,qae]
  ((with_reducible and_intros)<;>try exact sc_)
  refine qac (fun n fr L=>∃ (b:Nat) (kw:List (List UInt8×PV)) (mm:Int),b≤p.shs.length∧n=p.shs.length - b∧(mm=(pagT (past.take a) s.pre++(if p.pre=s.pre then (p.shs.take b).map (·.to_) else [])).foldl max 0)∧(qtv kw (idsT (past.take a)++(p.shs.take b).map (·.id)))∧fr=(.p (.sl 7 (itE il))::.p (.sl 3 (rlE l))::oo::.row (.b 0)::oo::oo::.adr (.l 6) 0::oo::.adr (.l 8) 0::.p (int 0)::oo::.adr (.l 11) 0::.p (int mm)::.mp (.l 53)::oo::.adr (.l 15) 0::oF (oC (oB (.row (.b 0)::.p (int (past.length:Nat))::.p (int (a:Nat))::oo::oo::oo::oo::.p (.sl 7 (shE p.shs))::.p (int (p.shs.length:Nat))::.p (int (b:Nat))::oG (oF (oE (oD (oB []))))))))∧L=[(.b 0,.row (pdE past) tPrd 4 true),(.l 6,.box [.p (.str s.pre),.p (int s.dig),.p (int s.ord),.p (.str s.slip),.p (.str s.skip),.p (int s.most)] 132),(.l 8,.box [.p (int 0),.p (.str []),.p (int 0),.p (.nl 7)] tPrd),(.l 11,.box [.p (int ((past.length:Nat)+1)),.p (.str s.pre),.p (int s.dig),.row (.l 157)] tPrd),(.l 157,.row (shE []) qbw 7 true),(.l 53,.map kw 9 4),(.l 15,.box [.p (int p.no),.p (.str p.pre),.p (int p.dig),.p (.sl 7 (shE p.shs))] tPrd)]) (p.shs.length) _ _ (by simp only [ZZ,WW,Zd,reduceCtorEq,zd,ze,zb,zf,za,qae];try trivial) (by simp only [qts,ZZ,WW,Zd,reduceCtorEq,zd,ze,zb,zf,za]) ⟨0,kv,nn,by omega,by omega,(by rw [hn];simp [qql]),(by simpa using hkv),rfl,rfl⟩ ?_
  rintro n fr L ⟨b,kw,mm,hb,rfl,hm2,hkw,rfl,rfl⟩
  simp only [qdx,ZZ,WW,Zd,reduceCtorEq,zd,ze,zb,zf,za]
  refine br ?_ ?_
  ·intro h2
   have hbl:b < p.shs.length:=by have:=of_decide_eq_true h2;omega
   obtain ⟨x,hx⟩:∃ x,p.shs[b]?=some x:=⟨_,zg hbl⟩
   have hgx:=qa0 hx
   simp only [shV] at hgx
   have hbk:p.shs.take (b+1)=p.shs.take b++[x]:=by rw [zo hbl,(zk.1 hx).2]
   have hpu:=qtt hkw x.id
   rw [yh,show (p.shs.take b).map (·.id)++[x.id]=(p.shs.take (b+1)).map (·.id) from by rw [hbk];simp] at hpu
   simp only [ZZ,WW,Zd,reduceCtorEq,zd,ze,zb,zf,za,hgx,qae]
   ((with_reducible and_intros)<;>try exact sc_)
   refine br ?_ ?_
   ·intro h3
    have h4:p.pre=s.pre:=by simpa using h3
    have hm3:max mm x.to_=(pagT (past.take a) s.pre++(if p.pre=s.pre then (p.shs.take (b+1)).map (·.to_) else [])).foldl max 0:=by
     rw [if_pos h4] at hm2 ⊢
     rw [hbk,zF,← yh,hm2]
     exact (quG _ _ _).symm
    refine zS ?_
    refine qaF _ _ ReOk.refl ?_
    refine zS ?_
    ((with_reducible and_intros)<;>try exact sc_)
    refine qab (p.shs.length - (b+1)) _ _ (by omega) zF_ zF_ ⟨b+1,mpS kw x.id (.bool true),max mm x.to_,by omega,rfl,hm3,hpu,rfl,rfl⟩
   ·intro h3
    have h4:¬ p.pre=s.pre:=by simpa using h3
    refine zS ?_
    refine qaF _ _ ReOk.refl ?_
    refine zS ?_
    ((with_reducible and_intros)<;>try exact sc_)
    refine qab (p.shs.length - (b+1)) _ _ (by omega) zF_ zF_ ⟨b+1,mpS kw x.id (.bool true),mm,by omega,rfl,(by rw [if_neg h4] at hm2 ⊢;exact hm2),hpu,rfl,rfl⟩
  intro h2
  have hbl:p.shs.length≤b:=by have:=of_decide_eq_false h2;omega
  rw [zq hbl] at hm2 hkw
  refine zS ?_
  ((with_reducible and_intros)<;>try exact sc_)
  refine qab (past.length - (a+1)) _ _ (by omega) zF_ zF_ ⟨a+1,kw,mm,by omega,rfl,(by rw [hm2,htk,qql,pagT,pagT,List.flatMap_append];simp),(by rw [htk,idsT,List.flatMap_append];simpa [idsT] using hkw),rfl,rfl⟩
 intro h
 have hal:past.length≤a:=by have:=of_decide_eq_false h;omega
 rw [zq hal] at hn hkv
 obtain ⟨nb1,nb2⟩:=qnn (fun q hq x hx=>(qrw hd0 q hq x hx).2.2) s.pre
 rw [← hn] at nb1 nb2
 clear h hal
 refine zS ?_
 refine use1 (qqY il hP h12 l hl s.ord ho) rfl (.inl rfl) ?_
 obtain ⟨F,hF⟩:∃ F,chS il l s.ord=F:=⟨_,rfl⟩
 have hFl:F.length≤20:=by rw [← hF];exact yl (qrZ il l s.ord) hP.1
 have hpr:prsM il l s.ord=F.flatMap (famP il):=by rw [prsM,hF]
 rw [hF]
 clear hF
 simp only [ZZ,WW,Zd,reduceCtorEq,zd,ze,zb,zf,za,zw]
 refine qac (fun n fr L=>∃ (c:Nat) (D:List (List UInt8×List UInt8)),c≤F.length∧n=F.length - c∧(D=(F.take c).flatMap (famP il))∧fr=(.p (.sl 7 (itE il))::.p (.sl 3 (rlE l))::oo::.row (.b 0)::oo::oo::.adr (.l 6) 0::oo::.adr (.l 8) 0::.p (int 0)::oo::.adr (.l 11) 0::.p (int (nn+totM il l s D))::.mp (.l 53)::oo::oo::oo::oo::.p (int nn)::.p (.bool (twM past D))::oG (oB (.p (.sl 2 (F.map (encF il)))::.p (int (F.length:Nat))::.p (int (c:Nat))::oG (oF (oo::[])))))∧L=[(.b 0,.row (pdE past) tPrd 4 true),(.l 6,.box [.p (.str s.pre),.p (int s.dig),.p (int s.ord),.p (.str s.slip),.p (.str s.skip),.p (int s.most)] 132),(.l 8,.box [.p (int 0),.p (.str []),.p (int 0),.p (.nl 7)] tPrd),(.l 11,.box [.p (int ((past.length:Nat)+1)),.p (.str s.pre),.p (int s.dig),.row (.l 157)] tPrd),(.l 157,.row (shE (shsM il l s nn D)) qbw 7 true),(.l 53,.map kv 9 4)]) (F.length) _ _ (by simp only [totM,Int.add_zero,twM,List.any_nil,zw,ZZ,WW,Zd,reduceCtorEq,zd,ze,zb,zf,za];try trivial) (by simp only [shsM,ZZ,WW,Zd,reduceCtorEq,zd,ze,zb,zf,za]) ⟨0,[],by omega,by omega,rfl,rfl,rfl⟩ ?_
 rintro n fr L ⟨c,D,hc,rfl,hD,rfl,rfl⟩
 simp only [qdw,ZZ,WW,Zd,reduceCtorEq,zd,ze,zb,zf,za]
 refine br ?_ ?_
 ·intro h
  have hlt:c < F.length:=by have:=of_decide_eq_true h;omega
  obtain ⟨t,ht⟩:∃ t,F[c]?=some t:=⟨_,zg hlt⟩
  have hg:(F.map (encF il)).getD c []=encF il t:=qao ht
  have htk:F.take (c+1)=F.take c++[t]:=by rw [zo hlt,(zk.1 ht).2]
  have hIl:(t :: qfS il t).length≤21:=by have:=qfu il t;have:=hP.1;simp;omega
  have hfp:famP il t=(t :: qfS il t).map fun i=>(t,i):=rfl
  simp only [encF] at hg
  generalize t :: qfS il t=I at hg hIl hfp
  have hDl:D.length≤c * 21:=by
   rw [hD]
   have h1:=qlt (famP il) 21 (F.take c) fun x _=>yl (qrR il x) (by have:=hP.1;omega)
   rw [zJ] at h1
   have:min c F.length=c:=by omega
   rw [this] at h1
   exact h1
  have hDl2:D.length≤420:=yl hDl (by omega)
  simp only [ZZ,WW,Zd,reduceCtorEq,zd,ze,zb,zf,za,hg,zw,qaf]
  ((with_reducible and_intros)<;>try exact sc_)
  refine qac (fun n fr L=>∃ (d:Nat) (D2:List (List UInt8×List UInt8)),d≤I.length∧n=I.length - d∧(D2=D++(I.take d).map (fun i=>(t,i)))∧fr=(.p (.sl 7 (itE il))::.p (.sl 3 (rlE l))::oo::.row (.b 0)::oo::oo::.adr (.l 6) 0::oo::.adr (.l 8) 0::.p (int 0)::oo::.adr (.l 11) 0::.p (int (nn+totM il l s D2))::.mp (.l 53)::oo::oo::oo::oo::.p (int nn)::.p (.bool (twM past D2))::oo::.adr (.l 21) 0::oG (.p (.sl 2 (F.map (encF il)))::.p (int (F.length:Nat))::.p (int (c:Nat))::oo::oo::oo::oo::.p (.sl 1 (strE I))::.p (int (I.length:Nat))::.p (int (d:Nat))::oG (oE (oD (oB [])))))∧L=[(.b 0,.row (pdE past) tPrd 4 true),(.l 6,.box [.p (.str s.pre),.p (int s.dig),.p (int s.ord),.p (.str s.slip),.p (.str s.skip),.p (int s.most)] 132),(.l 8,.box [.p (int 0),.p (.str []),.p (int 0),.p (.nl 7)] tPrd),(.l 11,.box [.p (int ((past.length:Nat)+1)),.p (.str s.pre),.p (int s.dig),.row (.l 157)] tPrd),(.l 157,.row (shE (shsM il l s nn D2)) qbw 7 true),(.l 53,.map kv 9 4),(.l 21,.box [.p (.str t),.p (.sl 1 (strE I))] 175)]) (I.length) _ _ (by simp only [ZZ,WW,Zd,reduceCtorEq,zd,ze,zb,zf,za,qaf];try trivial) zF_ ⟨0,D,by omega,by omega,(by simp),rfl,rfl⟩ ?_
  rintro n fr L ⟨d,D2,hd,rfl,hD2,rfl,rfl⟩
  simp only [qdv,ZZ,WW,Zd,reduceCtorEq,zd,ze,zb,zf,za]
  refine br ?_ ?_
  ·intro h2
   have hdl:d < I.length:=by have:=of_decide_eq_true h2;omega
   obtain ⟨id,hid⟩:∃ id,I[d]?=some id:=⟨_,zg hdl⟩
   have hgi:=qc3 hid
   have hdk:I.take (d+1)=I.take d++[id]:=by rw [zo hdl,(zk.1 hid).2]
   have hD3:D2++[(t,id)]=D++(I.take (d+1)).map (fun i=>(t,i)):=by rw [hD2,hdk,zF,yh];rfl
   have hD2l:D2.length≤450:=by rw [hD2,List.length_append,zw,zJ];omega
   have tb1:=qmK hP l hs D2
   have tb2:=qmJ il l s D2
   have hkn:=hkv id
   rw [qwE] at hkn
   have etw:(twM past D2 || qh2 past id)=twM past (D2++[(t,id)]):=by simp [twM,List.any_append]
   have hRo:=qot (E:=E0) l hl id
   simp only [rlV] at hRo
   obtain ⟨g1,g2,g3⟩:=qtO hP l hs id
   have e12:nn+totM il l s D2+((pgR il l s id).length:Nat)=nn+totM il l s (D2++[(t,id)]):=by rw [qoj,Int.add_assoc]
   have esh:shE (shsM il l s nn D2)++[[.str id,.str t,int (kdR l id),int (nn+totM il l s D2+1),int (nn+totM il l s D2+((pgR il l s id).length:Nat)),.sl 1 (tbE (pgR il l s id)),int 1]]=shE (shsM il l s nn (D2++[(t,id)])):=by
    rw [qon,← qh6]
    rfl
   simp only [ZZ,WW,Zd,reduceCtorEq,zd,ze,zb,zf,za,hgi,qaf,hkn]
   ((with_reducible and_intros)<;>try exact sc_)
   refine use1 hRo rfl (.inl rfl) ?_
   simp only [etw]
   by_cases w1:(rlOf l id).what=1
   ·obtain ⟨r1,r2⟩:=qtC hP id (rlOf l id).spans
    obtain ⟨t1,t2,t3⟩:=qxG hP id
    have hIo:=qiV (E:=E0) il hP id
    have hRd:=qqT (qjx (itOf il id)) (rlOf l id).spans (by omega) (qv8 hb id) (by have:=qne _ _ (Nat.le_refl _) t2;unfold visE at this;exact (Bool.and_eq_true_iff.1 this).2) (qsj hr0 id w1)
    have hPg:=qoF (qsQ (qci (qjx (itOf il id)) (rlOf l id).spans) (by omega) r2)
    have hpg:pgsF (qfo (qel (qci (qjx (itOf il id)) (rlOf l id).spans)).1)=pgR il l s id:=by rw [pgR,if_pos w1]
    have hkd:kdR l id=1:=by rw [kdR,if_pos w1]
    rw [hpg] at hPg
    rw [hkd] at esh
    clear r1 r2 t1 t2 t3 hpg
    unfold qjx at hRd hPg
    simp only [itC] at hIo
    generalize itOf il id=y at *
    generalize qci y.2.2.2.2.2.2 (rlOf l id).spans=u at *
    generalize pgR il l s id=pg at *
    rw [e12] at esh
    simp only [sps] at hRd
    have w1d:decide ((rlOf l id).what=1)=true:=by rw [w1];rfl
    simp only [ZZ,WW,Zd,reduceCtorEq,zd,ze,zb,zf,za,w1d]
    refine ⟨qal (by omega) (by omega),?_⟩
    refine use1 hIo rfl (.inl rfl) ?_
    refine zS ?_
    refine use1 hRd rfl (.inl rfl) ?_
    refine zS ?_
    refine use1 hPg rfl (.inl rfl) ?_
    refine zS ?_
    refine qaF _ _ ReOk.refl ?_
    simp only [ZZ,WW,Zd,reduceCtorEq,zd,ze,zb,zf,za,qaC,qae,qhz,esh,e12]
    ((with_reducible and_intros)<;>try exact sc_)
    refine qab (I.length - (d+1)) _ _ (by omega) zF_ zF_ ⟨d+1,D2++[(t,id)],by omega,rfl,hD3,rfl,rfl⟩
   ·have w1d:decide ((rlOf l id).what=1)=false:=decide_eq_false w1
    by_cases w2:(rlOf l id).what=2
    ·have w2d:decide ((rlOf l id).what=2)=true:=by rw [w2];rfl
     have hpg:pgR il l s id=[[s.slip]]:=by rw [pgR,if_neg w1,if_pos w2]
     have hkd:kdR l id=2:=by rw [kdR,if_neg w1,if_pos w2]
     rw [hkd,hpg] at esh
     rw [hpg] at e12
     simp only [zK,List.length_nil,Nat.zero_add,tbE,strE,zx,List.map_nil] at esh e12
     rw [e12] at esh
     simp only [ZZ,WW,Zd,reduceCtorEq,zd,ze,zb,zf,za,w1d,w2d]
     refine ⟨qal (by omega) (by omega),?_⟩
     refine drg0 ?_
     refine zS ?_
     refine qaF _ _ ReOk.refl ?_
     simp only [ZZ,WW,Zd,reduceCtorEq,zd,ze,zb,zf,za,qae,qhz,esh,e12]
     ((with_reducible and_intros)<;>try exact sc_)
     refine qab (I.length - (d+1)) _ _ (by omega) zF_ zF_ ⟨d+1,D2++[(t,id)],by omega,rfl,hD3,rfl,rfl⟩
    ·have w2d:decide ((rlOf l id).what=2)=false:=decide_eq_false w2
     have hpg:pgR il l s id=[[s.skip]]:=by rw [pgR,if_neg w1,if_neg w2]
     have hkd:kdR l id=3:=by rw [kdR,if_neg w1,if_neg w2]
     rw [hkd,hpg] at esh
     rw [hpg] at e12
     simp only [zK,List.length_nil,Nat.zero_add,tbE,strE,zx,List.map_nil] at esh e12
     rw [e12] at esh
     simp only [ZZ,WW,Zd,reduceCtorEq,zd,ze,zb,zf,za,w1d,w2d]
     refine ⟨qal (by omega) (by omega),?_⟩
     refine drg0 ?_
     refine zS ?_
     refine qaF _ _ ReOk.refl ?_
     simp only [ZZ,WW,Zd,reduceCtorEq,zd,ze,zb,zf,za,qae,qhz,esh,e12]
     ((with_reducible and_intros)<;>try exact sc_)
     refine qab (I.length - (d+1)) _ _ (by omega) zF_ zF_ ⟨d+1,D2++[(t,id)],by omega,rfl,hD3,rfl,rfl⟩
  intro h2
  have hdl:I.length≤d:=by have:=of_decide_eq_false h2;omega
  rw [zq hdl,← hfp] at hD2
  refine zS ?_
  ((with_reducible and_intros)<;>try exact sc_)
  refine qab (F.length - (c+1)) _ _ (by omega) zF_ zF_ ⟨c+1,D2,by omega,rfl,by rw [hD2,htk,List.flatMap_append,hD];simp,rfl,rfl⟩
 intro h
 have hcl:F.length≤c:=by have:=of_decide_eq_false h;omega
 rw [zq hcl,← hpr] at hD
 clear h hcl
 subst hD
 have tb1:=qmK hP l hs (prsM il l s.ord)
 have tb2:=qmJ il l s (prsM il l s.ord)
 have tb3:=qm6 hP.1 l s.ord
 have hE2:pmE il l s past=if twM past (prsM il l s.ord)=true then 6 else if prsM il l s.ord=[] then 8 else if s.most < totM il l s (prsM il l s.ord) then 2 else if powF s.dig≤nn+totM il l s (prsM il l s.ord) then 12 else 0:=by
  rw [hE,hn]
  rfl
 have hfin:pmE il l s past=0→PV.tup [.agg [int ((past.length:Nat)+1),.str s.pre,int s.dig,.sl 7 (shE (shsM il l s nn (prsM il l s.ord)))],int 0]=.tup [.agg (pdV (pmP il l s past)),int (pmE il l s past)]:=by
  intro he
  unfold pmP
  rw [if_pos he,he,hn]
  rfl
 have hpw:=qle hd9
 generalize prsM il l s.ord=D at *
 refine zS ?_
 refine br ?_ ?_
 ·intro h
  rw [if_pos h] at hE2
  refine zS ?_
  exact qjR (pdE past) rfl ⟨rfl,hend _ (by decide) hE2⟩
 intro h
 rw [if_neg (by rw [h];simp)] at hE2
 clear h
 have e0:decide ((D.length:Int)=0)=decide (D=[]):=by
  rw [decide_eq_decide]
  cases D<;>simp
  omega
 simp only [ZZ,WW,Zd,reduceCtorEq,zd,ze,zb,zf,za,qae,qhz,e0]
 refine br ?_ ?_
 ·intro h
  rw [if_pos (by simpa using h)] at hE2
  refine zS ?_
  exact qjR (pdE past) rfl ⟨rfl,hend _ (by decide) hE2⟩
 intro h
 rw [if_neg (by simpa using h)] at hE2
 clear h e0
 have e1:decide (s.most < nn+totM il l s D - nn)=decide (s.most < totM il l s D):=decide_eq_decide.2 (by omega)
 simp only [ZZ,WW,Zd,reduceCtorEq,zd,ze,zb,zf,za,e1]
 refine ⟨qal (by omega) (by omega),?_⟩
 refine br ?_ ?_
 ·intro h
  rw [if_pos (by simpa using h)] at hE2
  refine zS ?_
  exact qjR (pdE past) rfl ⟨rfl,hend _ (by decide) hE2⟩
 intro h
 rw [if_neg (by simpa using h)] at hE2
 clear h e1
 refine zS ?_
 refine use1 (qk7 s.dig (by omega) (by omega)) rfl (.inl rfl) ?_
 refine zS ?_
 refine br ?_ ?_
 ·intro h
  rw [if_pos (by simpa using h)] at hE2
  refine zS ?_
  exact qjR (pdE past) rfl ⟨rfl,hend _ (by decide) hE2⟩
 intro h
 rw [if_neg (by simpa using h)] at hE2
 clear h
 refine zS ?_
 rw [qaW]
 refine ⟨_,_,qaN (k:=.l 157) rfl,?_⟩
 refine zS ?_
 exact qjR (pdE past) rfl ⟨rfl,hfin hE2⟩
section
variable {E:Envt}
end
def qbg:IC:=(sR [qT 24 .lss 23 22] (.seq (.cond (.t 24) .skip (.exit 2)) (.seq (.block 3 (sR [qX 25 3 21 23,qO 26 (.ld 3 true (.t 25)),qO 10 (.alc 130 [.str [],.int .i64 0,.nl 2]),qS 3 10 26] (sR [qM 27 0,jC 28 43 [.t 27,.c (.int .i64 2)]] (jW 28 (.reg [qM 29 8,qO 30 (.ld 3 true (.t 10)),qO 31 (.bsl 3 [.t 30]),qO 32 (.app 130 3 48 (.t 29) (.t 31)),qM 8 32]))))) (.cut (.reg [qB 33 .add 23 (cI 1),qM 23 33])))))
def qbh:IC:=(sR [qT 20 .lss 19 18] (.seq (jE 20) (.seq (.block 1 (sR [qO 8 (.nilr 130 3)] (.seq (sR [qM 21 6,qN 22 21,jI 23 0] (.block 2 (.loop qbg))) (sR [qM 34 0,qO 35 (.bsl 1 [.c (.str [65,66]),.c (.str [65,66]),.c (.str [67,68,69])]),jC 36 45 [.t 34,.t 35],qM 37 0,qO 38 (.bsl 1 [.c (.int .i64 4),.c (.int .i64 4),.c (.int .i64 6)]),jC 39 19 [.t 37,.t 38],qM 40 0,jC 41 97 [.t 40,.c (.int .i64 1),.c (.int .i64 3)],⟨none,.fz (.t 36),none⟩,⟨none,.fz (.t 39),none⟩,⟨none,.fz (.t 41),none⟩,qO 42 (.bld [.str [],.int .i64 0,.int .i64 0,.str [],.str [],.int .i64 0] [(0,1,.t 36),(1,1,.t 39),(2,1,.t 41),(3,1,.c (.str [119,105,116,104,104,101,108,100])),(4,1,.c (.str [110,111,116,32,119,97,110,116,101,100])),(5,1,.c (.int .i64 100))]),qO 11 (.alc 132 [.str [],.int .i64 0,.int .i64 0,.str [],.str [],.int .i64 0]),qS 6 11 42] (sR [qM 44 1,qM 45 8,qO 46 (.ld 6 true (.t 11)),qM 47 7,⟨none,.fz (.t 45),none⟩,jC 48 105 [.t 44,.t 45,.t 46,.t 47],qM 43 48,qO 49 (.ext 0 (.t 43)),qO 50 (.ext 1 (.t 43)),qO 12 (.alc 34 [.int .i64 0,.str [],.int .i64 0,.nl 7]),qS 4 12 49,qM 13 50] (sR [qM 51 13,qB 52 .eql 51 (cI 0)] (jW 52 (.reg [qM 53 7,qO 54 (.ld 4 true (.t 12)),qO 55 (.bsl 4 [.t 54]),qO 56 (.app 34 4 56 (.t 53) (.t 55)),qM 7 56])))))))) (.cut (.reg [qB 57 .add 19 (cI 1),qM 19 57])))))
abbrev qdG:IC:=(sR [qO 4 (.mov (.c (.nl 4))),qO 5 (.mov (.c (.nl 3)))] (sR [qM 14 0,qM 15 1,jC 16 104 [.t 14,.t 15],qM 6 16,⟨none,.re,none⟩] (sR [qO 7 (.nilr 34 4)] (.seq (sR [qM 17 0,jC 18 29 [.t 17,.c (.int .i64 3)],jI 19 0] (.block 0 (.loop qbh))) (sR [qM 58 7,qM 59 6,qM 4 58,qM 5 59] .ret)))))
theorem qdK:chkF Tryz.prog Tryz.f42 qdG [.t 4,.t 5] 60=true:=by kernel_rfl
theorem qwh {il:List Itm} (hP:qbl il):ItB il:=by
 intro x hx
 obtain ⟨i,hi⟩:=zQ hx
 obtain ⟨b1,b2,b3,b4,b5,b6,b7⟩:=hP.2 i x hi
 refine ⟨by rw [b1];simp [pid],?_,b3,?_,b5,?_,b7.1⟩
 ·rcases b2 with h|h<;>rw [h]<;>simp
 ·rcases b4 with h|h<;>rw [h]<;>simp
 ·rcases b6 with h|⟨j,y,_,_,_,_,h⟩<;>rw [h]<;>simp [pid]
abbrev wthS:List UInt8:=[119,105,116,104,104,101,108,100]
abbrev nwtS:List UInt8:=[110,111,116,32,119,97,110,116,101,100]
theorem qyP:rlE []=[]:=rfl
theorem qy8:pdE []=[]:=rfl
set_option maxHeartbeats 8000000 in
set_option maxRecDepth 100000 in
theorem ql0 (l:List Int) (k:Nat) (il:List Itm) (hP:qbl il) (h12:il.length≤12) (hk:k≤500000) (hl:l.length≤9223372036854775807) :
  STup Tryz.prog E0 42 T (stm l k) [.sl 7 (itE il)] tPrd 4 (fun es ps cs'=>∃ (o:List Prd) (u:List Rul) (k':Nat),es=pdE o∧ps=[.sl 3 (rlE u)]∧o.length≤3∧(∀ p∈o,PdB p∧PgP p)∧u.length≤il.length∧(∀ r∈u,RlM 5 r)∧cs'=stm l k'∧k'≤k+2000):=by
 unfold STup
 refine qxX (i:=4) (i2:=5) (is:=[]) mixed Tryz.func42 qdK ?_
 refine zV ?_
 refine qAl (qlI l k il (by omega) (qwh hP) (by omega) hl) rfl rfl rfl zE_ ?_
 rintro es cs' ⟨u,k1,rfl,hu,hub,rfl,hk1⟩
 refine zS ?_
 rw [qaW]
 refine ⟨_,_,qaN (k:=.l 16) rfl,?_⟩
 refine zS ?_
 refine useS (qco l k1 3 (by omega) hl (by omega)) rfl rfl rfl zE_ ?_
 rintro x cs' ⟨y,rfl,rfl⟩
 have y1:=qdd y 3
 have y2:=qde y 3 (by omega)
 obtain ⟨q,hq⟩:∃ q:Nat,qc2 y 3=(q:Nat):=⟨(qc2 y 3).toNat,by omega⟩
 rw [hq] at y1 y2 ⊢
 clear hq
 refine zS ?_
 have hRl:=hu
 refine qac (fun n fr L=>∃ (a:Nat) (k':Nat) (o:List Prd),a≤q∧n=q - a∧(k'≤k1+1+30 * a)∧(o.length≤a)∧(∀ p∈o,PdB p∧PgP p)∧fr=(.adr (.b 0) 0::.p (.sl 7 (itE il))::oo::oo::oo::oo::.p (.sl 3 (rlE u))::.row (.l 7)::oD (oB (.p (int (q:Nat))::.p (int (a:Nat))::oF (oD []))))∧L=[(.b 0,.box ((stm l k').map .p) T),(.l 7,.row (pdE o) tPrd 4 true)]) (q) _ _ zF_ (by simp only [qy8,ZZ,WW,Zd,reduceCtorEq,zd,ze,zb,zf,za]) ⟨0,k1+1,[],by omega,by omega,by omega,by simp,(fun p hp=>by cases hp),rfl,rfl⟩ ?_
 rintro n fr L ⟨a,k',o,ha,rfl,hk',hol,hoB,rfl,rfl⟩
 simp only [qbh,ZZ,WW,Zd,reduceCtorEq,zd,ze,zb,zf,za]
 refine br ?_ ?_
 rotate_left
 ·intro h
  have haq:q≤a:=by have:=of_decide_eq_false h;omega
  refine zS ?_
  exact quM 7 (pdE o) [.sl 3 (rlE u)] (stm l k') rfl rfl rfl rfl ⟨o,u,k',rfl,rfl,by omega,hoB,hu,hub,rfl,by omega⟩
 intro h
 have haq:a < q:=by have:=of_decide_eq_true h;omega
 simp only [ZZ,WW,Zd,reduceCtorEq,zd,ze,zb,zf,za,qbN]
 refine qac (fun n fr L=>∃ (b:Nat) (w:List Rul),b≤u.length∧n=u.length - b∧(w.length≤b)∧(∀ r∈w,RlM 5 r)∧fr=(.adr (.b 0) 0::.p (.sl 7 (itE il))::oo::oo::oo::oo::.p (.sl 3 (rlE u))::.row (.l 7)::.row (.l 8)::oD (oo::(.p (int (q:Nat))::.p (int (a:Nat))::oo::.p (.sl 3 (rlE u))::.p (int (u.length:Nat))::.p (int (b:Nat))::oF (oC []))))∧L=[(.b 0,.box ((stm l (k'+b)).map .p) T),(.l 7,.row (pdE o) tPrd 4 true),(.l 8,.row (rlE w) tRul 3 true)]) (u.length) _ _ (by simp only [ZZ,WW,Zd,reduceCtorEq,zd,ze,zb,zf,za,qbN];try trivial) (by simp only [qyP,Nat.add_zero,ZZ,WW,Zd,reduceCtorEq,zd,ze,zb,zf,za]) ⟨0,[],by omega,by omega,by simp,(fun r hr=>by cases hr),rfl,rfl⟩ ?_
 rintro n fr L ⟨b,w,hb,rfl,hwl,hwB,rfl,rfl⟩
 simp only [qbg,ZZ,WW,Zd,reduceCtorEq,zd,ze,zb,zf,za]
 refine br ?_ ?_
 ·intro h2
  have hbl:b < u.length:=by have:=of_decide_eq_true h2;omega
  obtain ⟨r,hr⟩:∃ r,u[b]?=some r:=⟨_,zg hbl⟩
  have hg:=qla hr
  have hrb:=hub r (zm hr)
  simp only [ZZ,WW,Zd,reduceCtorEq,zd,ze,zb,zf,za,hg,qbN]
  ((with_reducible and_intros)<;>try exact sc_)
  refine useS (qgo l (k'+b) 2 (by omega) hl (by decide)) rfl rfl rfl zE_ ?_
  rintro x cs' ⟨f,rfl,rfl⟩
  refine zS ?_
  refine br ?_ ?_
  ·intro _
   simp only [ZZ,WW,Zd,reduceCtorEq,zd,ze,zb,zf,za,qbN]
   ((with_reducible and_intros)<;>try exact sc_)
   refine qaF _ _ ReOk.refl ?_
   refine zS ?_
   ((with_reducible and_intros)<;>try exact sc_)
   rw [qmU w r.id r.what r.spans]
   refine qab (u.length - (b+1)) _ _ (by omega) zF_ zF_ ⟨b+1,w++[⟨r.id,r.what,r.spans⟩],by omega,rfl,(by simp;omega),(by intro y hy;rcases zz.1 hy with hy|hy;exact hwB y hy;rw [zy] at hy;subst hy;exact ⟨hrb.b1,hrb.b2⟩),rfl,rfl⟩
  ·intro _
   refine zS ?_
   refine qaF _ _ ReOk.refl ?_
   refine zS ?_
   ((with_reducible and_intros)<;>try exact sc_)
   refine qab (u.length - (b+1)) _ _ (by omega) zF_ zF_ ⟨b+1,w,by omega,rfl,by omega,hwB,rfl,rfl⟩
 intro h2
 have hbl:b=u.length:=by have:=of_decide_eq_false h2;omega
 subst hbl
 refine zS ?_
 refine useS (qgX l (k'+u.length) [[65,66],[65,66],[67,68,69]] (by omega) hl (by simp) (by simp)) rfl rfl rfl zE_ ?_
 rintro x cs' ⟨pr,rfl,hpr,rfl⟩
 have hpr:pr.length≤1000:=by simp only [zC,yj,or_false] at hpr;rcases hpr with rfl|rfl|rfl<;>decide
 refine zS ?_
 refine useS (qcM l (k'+u.length+1) [4,4,6] (by omega) hl (by simp) (by simp)) rfl rfl rfl zE_ ?_
 rintro x cs' ⟨dg,rfl,hdg,rfl⟩
 have hdg:-1000≤dg∧dg≤1000:=by simp only [zC,yj,or_false] at hdg;omega
 refine zS ?_
 refine useS (qr7 l (k'+u.length+1+1) 1 3 (by omega) hl (by omega) (by omega) (by omega)) rfl rfl rfl zE_ ?_
 rintro x cs' ⟨od,rfl,ho1,ho2,rfl⟩
 have hS:StB ⟨pr,dg,od,wthS,nwtS,100⟩:=⟨hpr,by simp,by simp⟩
 have hmk:=qvp il hP h12 w (by omega) (fun r hr=>yl (hwB r hr).b2 (by decide)) ⟨pr,dg,od,wthS,nwtS,100⟩ hS ⟨show (-1000000000:Int)≤100 by omega,show (100:Int)≤1000000000 by omega⟩ o (by omega) (fun p hp=>(hoB p hp).1)
 have hres:=qBR hP w hS hdg (past:=o) (by omega)
 simp only [stV,pdV] at hmk
 generalize pmP il w ⟨pr,dg,od,wthS,nwtS,100⟩ o=P at hmk hres
 generalize pmE il w ⟨pr,dg,od,wthS,nwtS,100⟩ o=er at hmk
 refine zS ?_
 refine qBF (k:=.l 7) (as0:=[_,_,_]) (as1:=[]) hmk rfl rfl rfl rfl rfl zE_ ?_
 rintro x es ⟨rfl,rfl⟩
 refine zS ?_
 refine br ?_ ?_
 ·intro _
  simp only [ZZ,WW,Zd,reduceCtorEq,zd,ze,zb,zf,za,qaE]
  ((with_reducible and_intros)<;>try exact sc_)
  refine qaF _ _ ReOk.refl ?_
  refine zS ?_
  ((with_reducible and_intros)<;>try exact sc_)
  have esn:pdE o++[[int P.no,.str P.pre,int P.dig,.sl 7 (shE P.shs)]]=pdE (o++[P]):=by rw [← qy9];rfl
  rw [esn]
  refine qab (q - (a+1)) _ _ (by omega) zF_ zF_ ⟨a+1,k'+u.length+1+1+1,o++[P],by omega,rfl,by omega,by simp;omega,by intro p hp;rcases zz.1 hp with hp|hp;exact hoB p hp;rw [zy] at hp;subst hp;exact hres,rfl,rfl⟩
 ·intro _
  refine zS ?_
  refine qaF _ _ ReOk.refl ?_
  refine zS ?_
  ((with_reducible and_intros)<;>try exact sc_)
  refine qab (q - (a+1)) _ _ (by omega) zF_ zF_ ⟨a+1,k'+u.length+1+1+1,o,by omega,rfl,by omega,by omega,hoB,rfl,rfl⟩
end Go.Proofs.YtmpdnpljdcincaaGreatDoor
