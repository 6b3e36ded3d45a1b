import Derived.Test.YtjgdjinhkgjpeabGreatDoorZ10
set_option linter.unusedVariables false
set_option linter.unusedSimpArgs false
set_option linter.defProp false
namespace Go.Proofs.YtjgdjinhkgjpeabGreatDoor
open Nat renaming le_refl→zL,reduceAdd→zd,reduceEqDiff→zb,reduceLT→zf,reduceLeDiff→za,reduceMul→ze
open List renaming drop_eq_nil_of_le→zX,getD→zC,getD_eq_getElem?_getD→yj,getElem?_eq_getElem→zk,getElem?_eq_some_iff→zo,length_append→zm,length_cons→zl,length_nil→zr,mem_append→zp,mem_of_getElem?→zn,mem_singleton→zu,nil_append→zU,range→zB,replicate→zD
open Bool renaming not_eq_false'→z6,not_eq_true'→zQ,or_eq_false_iff→yl
open Go.RowKit
def qaE:IC:=(sR [qT 9 .lss 8 7] (.seq (jE 9) (.seq (.block 1 (sR [qM 10 8,qM 5 10] (sR [qM 11 1,qM 12 0,qM 13 5,qX 14 8 12 13,qO 15 (.ld 8 true (.t 14)),qO 16 (.callv (.t 11) [.t 15])] (jW 16 (sR [qM 17 5,qM 4 17] .ret))))) (.reg [qB 18 .add 8 (cI 1),qM 8 18]))))
abbrev qbr:IC:=(sR [jI 4 0] (.seq (sR [qM 6 0,qN 7 6,jI 8 0] (.block 0 (.loop qaE))) (sR [jI 4 (-1)] .ret)))
theorem qbt:chkF Tryz.prog Tryz.f65 qbr [.t 4] 19=true:=by kernel_rfl
abbrev qbg:IC:=(sR [qO 4 (.mov (.c (.bool false)))] (sR [qM 5 0,qM 6 1,jC 7 65 [.t 5,.t 6],qB 8 .geq 7 (cI 0),qM 4 8] .ret))
theorem qbh:chkF Tryz.prog Tryz.f24 qbg [.t 4] 9=true:=by kernel_rfl
def qcl:IC:=(sR [qO 2 (.box 54 (.t 0)),qO 3 (.mov (.c (.bool false)))] (sR [wF 4 1 2,qL 5 4,wF 6 1 1,qL 7 6,qT 8 .eql 5 7,qM 3 8] .ret))
theorem qex:chkF Tryz.prog Tryz.f25 qcl [.t 3] 9=true:=by kernel_rfl
def qb6:IC:=(sR [qT 53 .lss 52 51] (.seq (.cond (.t 53) .skip (.exit 3)) (.seq (.block 4 (sR [qM 54 52,qX 55 1 50 52,qL 56 55,qM 5 54,qM 6 56] (.seq (sR [qM 57 6,jC 58 27 [.t 57],qO 59 (.not (.t 58))] (jW 59 (sR [jI 2 3] .ret))) (sR [qM 60 5,qB 61 .gtr 60 (cI 0),qM 62 61,⟨some 63,.mov (.t 6),(some (62,true))⟩,⟨some 64,.fla 4 (.t 4),(some (62,true))⟩,⟨some 65,.ld 1 false (.t 64),(some (62,true))⟩,⟨some 66,.mov (.t 5),(some (62,true))⟩,⟨some 67,.bin .sub (.t 66) (cI 1),(some (62,true))⟩,⟨some 68,.ixa 1 (.t 65) (.t 67),(some (62,true))⟩,⟨some 69,.ld 1 false (.t 68),(some (62,true))⟩,⟨some 70,.bin .leq (.t 63) (.t 69),(some (62,true))⟩,qO 71 (.pick (.t 62) (.t 70) (.c (.bool false)))] (jW 71 (sR [jI 2 7] .ret)))))) (.reg [qB 72 .add 52 (cI 1),qM 52 72]))))
def qb7:IC:=(sR [qT 13 .lss 12 11] (.seq (jE 13) (.seq (.block 1 (sR [qM 14 12,qX 15 8 10 12,qO 16 (.ld 8 true (.t 15)),qO 4 (.alc 54 [.int .i64 0,.str [],.int .i64 0,.str [],.nl 1,.int .i64 0,.str [],.int .i64 0]),qM 3 14,qS 8 4 16] (.seq (.block 2 (sR [wF 18 0 4,qL 19 18,qM 20 3,qB 21 .add 20 (cI 1),qT 22 .neq 19 21,qM 17 22] (.cond (.t 17) (sR [jI 2 1] .ret) (sR [wF 24 1 4,qL 25 24,jC 26 23 [.t 25],qO 27 (.not (.t 26)),qM 23 27] (.cond (.t 23) (sR [jI 2 3] .ret) (sR [qM 29 0,qM 30 3,qO 31 (.vsl 8 (.t 29) none (some (.t 30))),qO 32 (.mkf 25 [.t 4]),jC 33 24 [.t 31,.t 32],qM 28 33] (.cond (.t 28) (sR [jI 2 6] .ret) (sR [wF 35 2 4,qL 36 35,jC 37 26 [.t 36],qO 38 (.not (.t 37)),qM 34 38] (.cond (.t 34) (sR [jI 2 1] .ret) (sR [wF 40 3 4,qL 41 40,jC 42 27 [.t 41],qO 43 (.not (.t 42)),qM 39 43] (.cond (.t 39) (sR [jI 2 3] .ret) (sR [wF 45 4 4,qL 46 45,qN 47 46,qB 48 .gtr 47 (cI 100),qM 44 48] (jW 44 (sR [jI 2 2] .ret)))))))))))))) (.seq (sR [wF 49 4 4,qL 50 49,qN 51 50,jI 52 0] (.block 3 (.loop qb6))) (.block 5 (sR [wF 74 5 4,qL 75 74,qB 76 .neq 75 (cI 3),qM 77 76,⟨some 78,.fla 5 (.t 4),(some (77,true))⟩,⟨some 79,.ld 1 false (.t 78),(some (77,true))⟩,⟨some 80,.bin .neq (.t 79) (cI 2),(some (77,true))⟩,qO 81 (.pick (.t 77) (.t 80) (.c (.bool false))),qM 73 81] (.cond (.t 73) (sR [jI 2 4] .ret) (sR [wF 83 6 4,qL 84 83,jC 85 28 [.t 84],qO 86 (.not (.t 85)),qM 87 86,⟨some 88,.fla 6 (.t 4),(some (87,false))⟩,⟨some 89,.ld 1 false (.t 88),(some (87,false))⟩,⟨some 90,.sln (.t 89),(some (87,false))⟩,⟨some 91,.bin .lss (.t 90) (cI 1),(some (87,false))⟩,qO 92 (.pick (.t 87) (.c (.bool true)) (.t 91)),qM 93 92,⟨some 94,.fla 6 (.t 4),(some (93,false))⟩,⟨some 95,.ld 1 false (.t 94),(some (93,false))⟩,⟨some 96,.sln (.t 95),(some (93,false))⟩,⟨some 97,.bin .gtr (.t 96) (cI 300),(some (93,false))⟩,qO 98 (.pick (.t 93) (.c (.bool true)) (.t 97)),qM 82 98] (.cond (.t 82) (sR [jI 2 3] .ret) (.seq (sR [wF 100 5 4,qL 101 100,qB 102 .eql 101 (cI 3),qM 103 102,⟨some 104,.fla 7 (.t 4),(some (103,true))⟩,⟨some 105,.ld 1 false (.t 104),(some (103,true))⟩,⟨some 106,.bin .neq (.t 105) (cI 0),(some (103,true))⟩,qO 107 (.pick (.t 103) (.t 106) (.c (.bool false))),qM 99 107] (.cond (.t 99) .skip (.reg [wF 108 5 4,qL 109 108,qB 110 .eql 109 (cI 2),qM 111 110,⟨some 112,.fla 7 (.t 4),(some (111,true))⟩,⟨some 113,.ld 1 false (.t 112),(some (111,true))⟩,⟨some 114,.bin .lss (.t 113) (cI 1),(some (111,true))⟩,⟨some 115,.mov (.t 114),(some (111,true))⟩,⟨some 116,.fla 7 (.t 4),(some (115,false))⟩,⟨some 117,.ld 1 false (.t 116),(some (115,false))⟩,⟨some 118,.bin .gtr (.t 117) (cI 1000),(some (115,false))⟩,⟨some 119,.pick (.t 115) (.c (.bool true)) (.t 118),(some (111,true))⟩,qO 120 (.pick (.t 111) (.t 119) (.c (.bool false))),qM 99 120]))) (.cut (jW 99 (sR [jI 2 1] .ret))))))))))))) (.reg [qB 121 .add 12 (cI 1),qM 12 121]))))
abbrev qfn:IC:=(sR [jI 2 0] (.seq (sR [qM 7 0,qN 8 7,qB 9 .gtr 8 (cI 2000)] (jW 9 (sR [jI 2 2] .ret))) (.seq (sR [qM 10 0,qN 11 10,jI 12 0] (.block 0 (.loop qb7))) (sR [jI 2 0] .ret))))
theorem qfu:chkF Tryz.prog Tryz.f5 qfn [.t 2] 122=true:=by kernel_rfl
section
variable {E:Envt}
set_option maxHeartbeats 2000000 in
theorem qmn (l:List Lr) (f:FuncId) (ps:List PV) (q:Lr→Bool) (hl:l.length≤1000000000) (hfn:Unit→fnB Tryz.prog f=true) (hps:Zl [] (ps.map .p)=true) (hf:∀ x∈l,PCall Tryz.prog E f (.agg (lrV x) :: ps) (·=.bool (q x))) (hn:∀ x,Zbh [] (.p (.agg (lrV x)) :: ps.map .p)=some (.agg (lrV x) :: ps)) (hr:∀ x,Zbj (.p (.agg (lrV x)) :: ps.map .p)=true):PCall Tryz.prog E 65 [.sl 8 (lrE l),.clo f ps] (·=int (idxF q l)):=by
 refine qah mixed Tryz.func65 qbt ?_
 refine zV ?_
 simp only [ZZ,WW,Ze,reduceCtorEq,zd,ze,za,zf,zb,qav]
 refine qad (fun n fr L=>∃ (k:Nat),k≤l.length∧n=l.length - k∧(∀ x∈l.take k,q x=false)∧fr=(.p (.sl 8 (lrE l))::.p (.clo f ps)::oC (oo::(.p (int (l.length:Nat))::.p (int (k:Nat))::oD (oB []))))∧L=[]) (l.length) (.p (.sl 8 (lrE l))::.p (.clo f ps)::oC (oo::(.p (int (l.length:Nat))::.p (int (0:Nat))::oD (oB [])))) [] (by simp only [qav,ZZ,WW,Ze,reduceCtorEq,zd,ze,za,zf,zb];try trivial) zF_ ⟨0,by omega,by omega,by simp,rfl,rfl⟩ ?_
 rintro n fr L ⟨k,hk,rfl,hno,rfl,rfl⟩
 simp only [qaE,ZZ,WW,Ze,reduceCtorEq,zd,ze,za,zf,zb]
 refine br ?_ ?_
 ·intro h
  have hlt:k < l.length:=by have:=of_decide_eq_true h;omega
  obtain ⟨x,hx⟩:∃ x,l[k]?=some x:=⟨_,zk hlt⟩
  have hg:=qhd hx
  simp only [lrV] at hg
  simp only [ZZ,WW,Ze,reduceCtorEq,zd,ze,za,zf,zb,hg,qav,hfn ()]
  refine ⟨⟨by omega,by omega⟩,by omega,hps,?_⟩
  refine use1 (hf x (zn hx)) (hn x) (.inl (hr x)) ?_
  refine zS ?_
  refine br ?_ ?_
  ·intro hq
   refine zS ?_
   rw [qpp hx hq hno]
  ·intro hq
   refine zS ?_
   ((with_reducible and_intros)<;>try exact sc_)
   refine qab (l.length - (k+1)) (.p (.sl 8 (lrE l))::.p (.clo f ps)::oC (oo::(.p (int (l.length:Nat))::.p (int ((k+1):Nat))::oD (oB [])))) [] (by omega) zF_ zF_ ⟨k+1,by omega,rfl,by rw [List.take_succ_eq_append_getElem hlt];intro y hy;rcases zp.1 hy with hy|hy;exact hno y hy;rw [zu] at hy;rw [hy,(zo.1 hx).2];exact hq,rfl,rfl⟩
 ·intro h
  have hge:l.length≤k:=by have:=of_decide_eq_false h;omega
  rw [List.take_of_length_le hge] at hno
  refine zS ?_
  rw [qnd hno]
theorem qi8 (l:List Lr) (f:FuncId) (ps:List PV) (q:Lr→Bool) (hl:l.length≤1000000000) (hfn:Unit→fnB Tryz.prog f=true) (hps:Zl [] (ps.map .p)=true) (hf:∀ x∈l,PCall Tryz.prog E f (.agg (lrV x) :: ps) (·=.bool (q x))) (hn:∀ x,Zbh [] (.p (.agg (lrV x)) :: ps.map .p)=some (.agg (lrV x) :: ps)) (hr:∀ x,Zbj (.p (.agg (lrV x)) :: ps.map .p)=true):PCall Tryz.prog E 24 [.sl 8 (lrE l),.clo f ps] (·=.bool (l.any q)):=by
 refine qah mixed Tryz.func24 qbh ?_
 refine zV ?_
 refine use1 (qmn l f ps q hl hfn hps hf hn hr) rfl (.inl rfl) ?_
 refine zS ?_
 rw [qpq]
theorem qmj (x y:Lr):PCall Tryz.prog E 25 [.agg (lrV x),.ptr (lrV y)] (·=.bool (decide (x.id=y.id))):=by
 simp only [lrV]
 refine qah mixed Tryz.func25 qex ?_
 simp only [a0,l0,OS.ao,XX,Nat.reduceSub,qcl,ZZ,WW,Ze,reduceCtorEq,zd,ze,za,zf,zb]
end
set_option maxHeartbeats 8000000 in
set_option maxRecDepth 100000 in
theorem qgj (l:List Lr) (hB:∀ r∈l,LrB r):PCall Tryz.prog E0 5 [.sl 8 (lrE l)] (·=int (qdd l)):=by
 refine qah mixed Tryz.func5 qfu ?_
 refine zV ?_
 simp only [ZZ,WW,Ze,reduceCtorEq,zd,ze,za,zf,zb,qav]
 refine br ?_ ?_
 ·intro h
  have h1:=of_decide_eq_true h
  refine zS ?_
  rw [qdd,if_pos h1]
 intro h
 have h1:=of_decide_eq_false h
 have hle:l.length≤2000:=by omega
 rw [qo9 l h1]
 clear h
 simp only [ZZ,WW,Ze,reduceCtorEq,zd,ze,za,zf,zb,qav]
 have hget:=fun {k:Nat} (h:k < l.length)=>qcf _ k _ (qo2 (qdp l) h)
 generalize hG:(zB l.length).map (qdp l)=G at *
 have hGl:G.length=l.length:=by rw [← hG];simp
 refine qad (fun n fr L=>∃ (k:Nat),k≤l.length∧n=l.length - k∧(qar G=qar (G.drop k))∧fr=(.p (.sl 8 (lrE l))::oD (oo::(.p (.sl 8 (lrE l))::.p (int (l.length:Nat))::.p (int (k:Nat))::oG (oF (oD (oC (oo::[])))))))∧L=[]) (l.length) (.p (.sl 8 (lrE l))::oD (oo::(.p (.sl 8 (lrE l))::.p (int (l.length:Nat))::.p (int (0:Nat))::oG (oF (oD (oC (oo::[]))))))) [] (by simp only [ZZ,WW,Ze,reduceCtorEq,zd,ze,za,zf,zb,qav];try trivial) zF_ ⟨0,by omega,by omega,by simp,rfl,rfl⟩ ?_
 rintro n fr L ⟨k,hk,rfl,hf,rfl,rfl⟩
 simp only [qb7,ZZ,WW,Ze,reduceCtorEq,zd,ze,za,zf,zb]
 refine br ?_ ?_
 ·intro h
  have hlt:k < l.length:=by have:=of_decide_eq_true h;omega
  obtain ⟨r,hx⟩:∃ r,l[k]?=some r:=⟨_,zk hlt⟩
  have hg:=qhd hx
  simp only [lrV] at hg
  have hbx:=hB r (zn hx)
  have c1:=hbx.b1
  have c2:=hbx.b2
  have c3:=hbx.b3
  have c5:=hbx.b5
  have hd:=hget hlt
  have htk:=qtu l k
  have he:=qlf hx
  have htl:=qs5 hx
  simp only [ZZ,WW,Ze,reduceCtorEq,zd,ze,za,zf,zb,hg,qav]
  ((with_reducible and_intros)<;>try exact sc_)
  refine br ?_ ?_
  ·intro h7
   have hk:qdp l k=1:=by rw [he,h7];rfl
   refine zS ?_
   rw [hf,hd,hk]
   rfl
  intro h1
  refine zS ?_
  refine use1 (qlz r.id (by omega)) rfl (.inl rfl) ?_
  refine zS ?_
  refine br ?_ ?_
  ·intro h7
   have hk:qdp l k=3:=by rw [he,h1,h7];rfl
   refine zS ?_
   rw [hf,hd,hk]
   rfl
  intro h2
  simp only [ZZ,WW,Ze,reduceCtorEq,zd,ze,za,zf,zb,qav,htk]
  ((with_reducible and_intros)<;>try exact sc_)
  refine use1 (qi8 (l.take k) 25 [.ptr (lrV r)] (fun p=>decide (p.id=r.id)) (by simp;omega) (fun _=>by kernel_rfl) rfl (fun y _=>qmj y r) (fun _=>rfl) (fun _=>rfl)) rfl (.inr rfl) ?_
  refine zS ?_
  refine br ?_ ?_
  ·intro h7
   have hk:qdp l k=6:=by rw [he,h1,h2,h7];rfl
   refine zS ?_
   rw [hf,hd,hk]
   rfl
  intro h3
  have htl:=htl h1 h2 h3
  clear he
  refine zS ?_
  refine use1 (qqt r.at_) rfl (.inl rfl) ?_
  refine zS ?_
  refine br ?_ ?_
  ·intro h7
   have hk:qdp l k=1:=by rw [htl,rwE,rh3,h7];rfl
   refine zS ?_
   rw [hf,hd,hk]
   rfl
  intro h4
  refine zS ?_
  refine use1 (qnM r.fr (by omega)) rfl (.inl rfl) ?_
  refine zS ?_
  refine br ?_ ?_
  ·intro h7
   have hk:qdp l k=3:=by rw [htl,rwE,rh3,h4,h7];rfl
   refine zS ?_
   rw [hf,hd,hk]
   rfl
  intro h5
  simp only [ZZ,WW,Ze,reduceCtorEq,zd,ze,za,zf,zb,qac]
  refine br ?_ ?_
  ·intro h7
   have hk:qdp l k=2:=by rw [htl,rwE,rh3,h4,h5,h7];rfl
   refine zS ?_
   rw [hf,hd,hk]
   rfl
  intro h6
  rw [qxn h4 h5 h6] at htl
  have hq:(zB r.tos.length).map (pubE r.tos)=(zB r.tos.length).map (pubE r.tos):=rfl
  have hge2:=fun {j:Nat} (h:j < r.tos.length)=>qcf _ j _ (qo3 (pubE r.tos) h)
  have hT:toF r=qar ((zB r.tos.length).map (pubE r.tos)):=rfl
  clear hq
  generalize hG2:(zB r.tos.length).map (pubE r.tos)=T at *
  have hGl2:T.length=r.tos.length:=by rw [← hG2];simp
  simp only [ZZ,WW,Ze,reduceCtorEq,zd,ze,za,zf,zb,qac]
  refine qad (fun n fr L=>∃ (j:Nat),j≤r.tos.length∧n=r.tos.length - j∧(qar T=qar (T.drop j))∧fr=(.p (.sl 8 (lrE l))::oo::oo::.p (int (k:Nat))::.adr (.l 4) 0::oC (oo::(.p (.sl 8 (lrE l))::.p (int (l.length:Nat))::.p (int (k:Nat))::oF (oC (oo::(.p (.sl 1 (strE r.tos))::.p (int (r.tos.length:Nat))::.p (int (j:Nat))::oG (oC (oo::[]))))))))∧L=[(.l 4,.box [.p (int r.no),.p (.str r.id),.p (int r.at_),.p (.str r.fr),.p (.sl 1 (strE r.tos)),.p (int r.kind),.p (.str r.about),.p (int r.spans)] tRow)]) (r.tos.length) (.p (.sl 8 (lrE l))::oo::oo::.p (int (k:Nat))::.adr (.l 4) 0::oC (oo::(.p (.sl 8 (lrE l))::.p (int (l.length:Nat))::.p (int (k:Nat))::oF (oC (oo::(.p (.sl 1 (strE r.tos))::.p (int (r.tos.length:Nat))::.p (int (0:Nat))::oG (oC (oo::[])))))))) [(.l 4,.box [.p (int r.no),.p (.str r.id),.p (int r.at_),.p (.str r.fr),.p (.sl 1 (strE r.tos)),.p (int r.kind),.p (.str r.about),.p (int r.spans)] tRow)] (by simp only [ZZ,WW,Ze,reduceCtorEq,zd,ze,za,zf,zb,qac];try trivial) zF_ ⟨0,by omega,by omega,by simp,rfl,rfl⟩ ?_
  rintro n fr L ⟨j,hj,rfl,hf2,rfl,rfl⟩
  simp only [qb6,ZZ,WW,Ze,reduceCtorEq,zd,ze,za,zf,zb]
  refine br ?_ ?_
  ·intro h
   have hlt2:j < r.tos.length:=by have:=of_decide_eq_true h;omega
   obtain ⟨x,hx2⟩:∃ x,r.tos[j]?=some x:=⟨_,zk hlt2⟩
   have hgx:=qaU hx2
   have hxd:r.tos.getD j []=x:=by simp [zC,hx2]
   have hbs:=hbx.b4 x (zn hx2)
   have hd2:=hge2 hlt2
   simp only [ZZ,WW,Ze,reduceCtorEq,zd,ze,za,zf,zb,hgx,qac]
   ((with_reducible and_intros)<;>try exact sc_)
   refine use1 (qnM x (by omega)) rfl (.inl rfl) ?_
   refine zS ?_
   refine br ?_ ?_
   ·intro h7
    have hp:pubE r.tos j=3:=by rw [pubE,hxd,h7];rfl
    rw [hp] at hd2
    have hT2:toF r=3:=by rw [hT,hf2,hd2];rfl
    rw [hT2] at htl
    refine zS ?_
    rw [hf,hd,htl]
    rfl
   intro h7
   have hm:qhc x=true:=by rwa [z6] at h7
   obtain ⟨y,hy⟩:∃ y,r.tos[j - 1]?=some y:=⟨_,zk (by omega)⟩
   have hgy:=qaU hy
   have hyd:r.tos.getD (j - 1) []=y:=by simp [zC,hy]
   have hn1:((j:Int) - 1).toNat=j - 1:=by omega
   have hpe:pubE r.tos j=qar [qaO (!qhc x) 3,qaO (decide (0 < j) && (bytesLess x y || decide (x=y))) 7]:=by
    rw [pubE,hxd,hyd,leS]
   simp only [ZZ,WW,Ze,reduceCtorEq,zd,ze,za,zf,zb,hn1,hgy,qac]
   ((with_reducible and_intros)<;>try exact sc_)
   refine br ?_ ?_
   ·intro ho
    have ho:(decide (0 < j) && (bytesLess x y || decide (x=y)))=true:=by simpa using ho
    have hp:pubE r.tos j=7:=by rw [hpe,hm,ho];rfl
    rw [hp] at hd2
    have hT2:toF r=7:=by rw [hT,hf2,hd2];rfl
    rw [hT2] at htl
    refine zS ?_
    rw [hf,hd,htl]
    rfl
   intro ho
   have ho:(decide (0 < j) && (bytesLess x y || decide (x=y)))=false:=by
    have:decide (0 < (j:Int))=decide (0 < j):=by simp
    rwa [this] at ho
   have hp:pubE r.tos j=0:=by rw [hpe,hm,ho];rfl
   refine zS ?_
   refine ⟨qai (by omega) (by omega),?_⟩
   refine qab (r.tos.length - (j+1)) (.p (.sl 8 (lrE l))::oo::oo::.p (int (k:Nat))::.adr (.l 4) 0::oC (oo::(.p (.sl 8 (lrE l))::.p (int (l.length:Nat))::.p (int (k:Nat))::oF (oC (oo::(.p (.sl 1 (strE r.tos))::.p (int (r.tos.length:Nat))::.p (int ((j+1):Nat))::oG (oC (oo::[])))))))) [(.l 4,.box [.p (int r.no),.p (.str r.id),.p (int r.at_),.p (.str r.fr),.p (.sl 1 (strE r.tos)),.p (int r.kind),.p (.str r.about),.p (int r.spans)] tRow)] (by omega) zF_ zF_ ⟨j+1,by omega,rfl,by rw [hf2,hd2,if_pos hp],rfl,rfl⟩
  ·intro h
   have hge2':r.tos.length≤j:=by have:=of_decide_eq_false h;omega
   have hT0:toF r=0:=by rw [hT,hf2,zX (by omega)];rfl
   rw [hT0,if_pos rfl] at htl
   clear hf2 hge2 hT hG2 hGl2
   have hab:=abE r.about.length (qiH r.about)
   have hsp:=spE r.spans
   have hrt:rt3 r=qar [qaO (!decide (r.kind=3) && !decide (r.kind=2)) 4,qaO (!inE r.about.length 1 300 || !qiH r.about) 3,qaO (decide (r.kind=3) && !decide (r.spans=0) || decide (r.kind=2) && !inE r.spans 1 1000) 1]:=rfl
   refine zS ?_
   refine br ?_ ?_
   ·intro h7
    have hk:qdp l k=4:=by rw [htl,hrt,h7];rfl
    refine zS ?_
    rw [hf,hd,hk]
    rfl
   intro h7
   refine zS ?_
   refine use1 (qqr r.about (by omega)) rfl (.inl rfl) ?_
   refine zS ?_
   have e1:∀ b:Bool,b=false→(!b)=true:=by decide
   refine ⟨e1 _,e1 _,?_⟩
   rw [hab]
   refine br ?_ ?_
   ·intro h8
    have hk:qdp l k=3:=by rw [htl,hrt,h7,h8];rfl
    refine zS ?_
    rw [hf,hd,hk]
    rfl
   intro h8
   refine zS ?_
   refine br ?_ ?_
   ·intro h9
    have hk:qdp l k=1:=by rw [htl,hrt,h7,h8,h9];rfl
    refine zS ?_
    refine qae zE_ ?_
    refine zS ?_
    refine br ?_ ?_
    ·intro _
     refine zS ?_
     rw [hf,hd,hk]
     rfl
    ·intro h10
     rw [h9] at h10
     cases h10
   intro h9
   refine zS ?_
   refine ⟨fun h=>by rw [h];exact ⟨rfl,fun h2=>by rw [h2];rfl⟩,?_⟩
   rw [hsp]
   refine qae zE_ ?_
   refine zS ?_
   refine br ?_ ?_
   ·intro h10
    have hk:qdp l k=1:=by rw [htl,hrt,h7,h8,h9,h10];rfl
    refine zS ?_
    rw [hf,hd,hk]
    rfl
   intro h10
   have hk:qdp l k=0:=by rw [htl,hrt,h7,h8,h9,h10];rfl
   refine zS ?_
   ((with_reducible and_intros)<;>try exact sc_)
   refine qab (l.length - (k+1)) (.p (.sl 8 (lrE l))::oD (oo::(.p (.sl 8 (lrE l))::.p (int (l.length:Nat))::.p (int ((k+1):Nat))::oG (oF (oD (oC (oo::[]))))))) [] (by omega) zF_ zF_ ⟨k+1,by omega,rfl,by rw [hf,hd,if_pos hk],rfl,rfl⟩
 ·intro h
  have hge:l.length≤k:=by have:=of_decide_eq_false h;omega
  refine zS ?_
  rw [hf,zX (by omega)]
  rfl
def qcL:IC:=(sR [qT 31 .lss 30 29] (.seq (jE 31) (.seq (.block 1 (sR [qM 32 30,qX 33 1 28 30,qL 34 33,qM 7 32,qM 8 34] (sR [qM 35 8,jC 36 42 [.t 35,.c (.str [32]),.c (.int .i64 8)],qM 9 36] (.seq (sR [qM 37 9,qN 38 37,qB 39 .lss 38 (cI 8),qM 40 39,⟨some 41,.mov (.t 9),(some (40,false))⟩,⟨some 42,.vsl 1 (.t 41) none (some (cI 7)),(some (40,false))⟩,⟨some 43,.call 43 [.t 42,.c (.str [])],(some (40,false))⟩,qO 44 (.pick (.t 40) (.c (.bool true)) (.t 43))] (jW 44 (sR [qM 45 7,qO 2 (.mov (.c (.nl 8))),qM 3 45,jI 4 9] .ret))) (sR [qM 47 9,qO 48 (.ixa 1 (.t 47) (cI 0)),qL 49 48,jC 50 44 [.t 49,.c (.int .i64 9)],qM 46 50,qO 51 (.ext 0 (.t 46)),qO 52 (.ext 1 (.t 46)),qM 10 51,qM 11 52] (sR [qM 54 9,qO 55 (.ixa 1 (.t 54) (cI 2)),qL 56 55,jC 57 44 [.t 56,.c (.int .i64 9)],qM 53 57,qO 58 (.ext 0 (.t 53)),qO 59 (.ext 1 (.t 53)),qM 12 58,qM 13 59] (sR [qM 61 9,qO 62 (.ixa 1 (.t 61) (cI 4)),qL 63 62,jC 64 44 [.t 63,.c (.int .i64 9)],qM 60 64,qO 65 (.ext 0 (.t 60)),qO 66 (.ext 1 (.t 60)),qM 14 65,qM 15 66] (sR [qO 67 (.mkm 9 3),⟨none,.mpu (.t 67) (.c (.str [102,117,108,108])) (cI 3),none⟩,⟨none,.mpu (.t 67) (.c (.str [112,97,114,116])) (cI 2),none⟩,qM 68 67,qM 69 9,qO 70 (.ixa 1 (.t 69) (cI 3)),qL 71 70,qO 72 (.mpl false (.int .i64 0) (.t 68) (.t 71)),qM 16 72] (.seq (.drg [⟨none,.hole 17,none⟩,qM 73 10,qM 74 9,qO 75 (.ixa 1 (.t 74) (cI 1)),qL 76 75,qM 77 12,qM 78 16,qM 79 14,qM 80 9,qO 81 (.ixa 1 (.t 80) (cI 5)),qL 82 81,qM 83 9,qO 84 (.ixa 1 (.t 83) (cI 7)),qL 85 84,qO 86 (.bld [.int .i64 0,.str [],.int .i64 0,.str [],.nl 1,.int .i64 0,.str [],.int .i64 0] [(0,1,.t 73),(1,1,.t 76),(2,1,.t 77),(5,1,.t 78),(7,1,.t 79),(3,1,.t 82),(6,1,.t 85)]),qO 17 (.alcd 54 [.int .i64 0,.str [],.int .i64 0,.str [],.nl 1,.int .i64 0,.str [],.int .i64 0]),qS 8 17 86]) (.seq (sR [qM 87 9,qO 88 (.ixa 1 (.t 87) (cI 6)),qL 89 88,qB 90 .neq 89 (.c (.str [45]))] (jW 90 (.reg [qM 91 9,qO 92 (.ixa 1 (.t 91) (cI 6)),qL 93 92,jC 94 41 [.t 93,.c (.str [59])],wF 95 4 17,qS 1 95 94]))) (.cut (.seq (sR [qM 96 11,qO 97 (.not (.t 96)),qM 98 97,⟨some 99,.mov (.t 13),(some (98,false))⟩,⟨some 100,.not (.t 99),(some (98,false))⟩,qO 101 (.pick (.t 98) (.c (.bool true)) (.t 100)),qM 102 101,⟨some 103,.mov (.t 15),(some (102,false))⟩,⟨some 104,.not (.t 103),(some (102,false))⟩,qO 105 (.pick (.t 102) (.c (.bool true)) (.t 104)),qM 106 105,⟨some 107,.mov (.t 16),(some (106,false))⟩,⟨some 108,.bin .eql (.t 107) (cI 0),(some (106,false))⟩,qO 109 (.pick (.t 106) (.c (.bool true)) (.t 108))] (jW 109 (sR [qM 110 7,qO 2 (.mov (.c (.nl 8))),qM 3 110,jI 4 9] .ret))) (.reg [qM 111 6,qO 112 (.ld 8 true (.t 17)),qO 113 (.bsl 8 [.t 112]),qO 114 (.app 54 8 104 (.t 111) (.t 113)),qM 6 114]))))))))))))) (.reg [qB 115 .add 30 (cI 1),qM 30 115]))))
abbrev qgR:IC:=(sR [qO 2 (.mov (.c (.nl 8))),jI 3 0,jI 4 0] (.seq (sR [qM 19 0,qO 20 (.sln (.t 19)),qB 21 .gtr 20 (cI 200000)] (jW 21 (sR [qO 2 (.mov (.c (.nl 8))),jI 3 0,jI 4 2] .ret))) (sR [qM 22 0,jC 23 41 [.t 22,.c (.str [10])],qM 5 23] (sR [qO 6 (.nilr 54 8)] (.seq (sR [qM 24 5,qM 25 5,qN 26 25,qB 27 .sub 26 (cI 1),qO 28 (.vsl 1 (.t 24) none (some (.t 27))),qN 29 28,jI 30 0] (.block 0 (.loop qcL))) (.seq (sR [qM 116 5,qM 117 5,qN 118 117,qB 119 .sub 118 (cI 1),qX 120 1 116 119,qL 121 120,qB 122 .neq 121 (.c (.str []))] (jW 122 (sR [qM 123 5,qN 124 123,qB 125 .sub 124 (cI 1),qO 2 (.mov (.c (.nl 8))),qM 3 125,jI 4 9] .ret))) (.seq (sR [qM 126 6,jC 127 5 [.t 126],qM 18 127] (sR [qM 128 18,qB 129 .neq 128 (cI 0)] (jW 129 (sR [qM 130 18,qO 2 (.mov (.c (.nl 8))),jI 3 0,qM 4 130] .ret)))) (sR [qM 131 6,qM 2 131,jI 3 0,jI 4 0] .ret))))))))
theorem qg4:chkF Tryz.prog Tryz.f11 qgR [.t 2,.t 3,.t 4] 132=true:=by kernel_rfl
theorem qxU (x:List UInt8):mpD (mpS (mpS [] [102,117,108,108] (PV.int IntKind.i64 3)) [112,97,114,116] (PV.int IntKind.i64 2)) x (PV.int IntKind.i64 0)=int (if x=fulW then (3:Int) else if x=parW then 2 else 0):=by
 have e:mpS (mpS [] [102,117,108,108] (PV.int IntKind.i64 3)) [112,97,114,116] (PV.int IntKind.i64 2)=[(fulW,PV.int IntKind.i64 3),(parW,PV.int IntKind.i64 2)]:=rfl
 rw [e]
 by_cases h1:x=fulW
 ·rw [if_pos h1,h1]
  rfl
 ·rw [if_neg h1]
  by_cases h2:x=parW
  ·rw [if_pos h2,h2]
   rfl
  ·rw [if_neg h2]
   have h1':¬ fulW=x:=fun e=>h1 e.symm
   have h2':¬ parW=x:=fun e=>h2 e.symm
   simp [mpD,mpF,h1',h2',int]
set_option maxRecDepth 100000 in
set_option maxHeartbeats 2000000 in
theorem qqv (s:List UInt8) (hs:s.length≤100000000000):PCall Tryz.prog E5 11 [.str s] (·=perR (perF s)):=by
 refine qah mixed Tryz.func11 qg4 ?_
 refine zV ?_
 unfold perF
 ((with_reducible and_intros)<;>try exact sc_)
 refine br ?_ ?_
 ·intro h
  have h:200000 < s.length:=by have:=of_decide_eq_true h;omega
  rw [if_pos h]
  refine zS ?_
  rfl
 intro h
 have h:s.length≤200000:=by have:=of_decide_eq_false h;omega
 rw [if_neg (by omega)]
 refine zS ?_
 refine use1 (up5 (qe8 s 10 (by omega))) rfl (.inl rfl) ?_
 rw [qbU]
 obtain ⟨R,hR⟩:∃ R,gorF (splF s 10).dropLast 0 []=R:=⟨_,rfl⟩
 rw [hR]
 have hsl:=qdW s 10
 have hsm:=qgr s 10
 have hS0:0 < (splF s 10).length:=List.length_pos_iff.2 (by rw [qbV];exact qp0 10 s)
 generalize splF s 10=S at *
 have e1:(((S.length:Nat):Int) - 1).toNat=S.length - 1:=by omega
 have hdl:S.dropLast.length=S.length - 1:=List.length_dropLast ..
 simp only [ZZ,WW,Ze,reduceCtorEq,zd,ze,za,zf,zb,qac,e1,qu5]
 refine ⟨qai (by omega) (by omega),⟨by omega,by omega⟩,?_⟩
 refine qad (fun n fr L=>∃ (k:Nat) (q:List Lr),k≤S.dropLast.length∧n=S.dropLast.length - k∧(gorF (S.dropLast.drop k) k q=R)∧(∀ y∈q,LrB y)∧(q.length≤k)∧fr=(oC (oo::(.p (.sl 1 (strE S))::.row (.l 6)::oE (oC (oo::(.p (.sl 1 (strE S.dropLast))::.p (int (S.dropLast.length:Nat))::.p (int (k:Nat))::oG (oF (oC (oo::[])))))))))∧L=[(.l 6,.row (lrE q) tRow 8 true)]) (S.dropLast.length) (oC (oo::(.p (.sl 1 (strE S))::.row (.l 6)::oE (oC (oo::(.p (.sl 1 (strE S.dropLast))::.p (int (S.dropLast.length:Nat))::.p (int (0:Nat))::oG (oF (oC (oo::[]))))))))) [(.l 6,.row (lrE []) tRow 8 true)] (by simp only [qac,ZZ,WW,Ze,reduceCtorEq,zd,ze,za,zf,zb];try trivial) zF_ ⟨0,[],by omega,by omega,hR,(fun y hy=>by cases hy),by simp,rfl,rfl⟩ ?_
 rintro n fr L ⟨k,q,hk,rfl,hg,hqB,hql,rfl,rfl⟩
 simp only [qcL,ZZ,WW,Ze,reduceCtorEq,zd,ze,za,zf,zb]
 refine br ?_ ?_
 ·intro h1
  have hlt:k < S.dropLast.length:=by have:=of_decide_eq_true h1;omega
  obtain ⟨x,hx⟩:∃ x,S.dropLast[k]?=some x:=⟨_,zk hlt⟩
  have hgx:(strE S.dropLast).getD k []=[.str x]:=qaU hx
  have hxl:x.length≤200000:=Nat.le_trans (hsm x ((List.dropLast_sublist S).subset (zn hx))) h
  have hxw:∀ y∈spN x,y.length≤200000:=fun y hy=>Nat.le_trans (qnZ x y hy) hxl
  have hnext:gorF (S.dropLast.drop k) k q=match prL (spN x) with|none=>.error k|some d=>gorF (S.dropLast.drop (k+1)) (k+1) (q++[d]):=by
   obtain ⟨hlk,he⟩:=zo.1 hx
   rw [List.drop_eq_getElem_cons hlk,he]
   rfl
  simp only [ZZ,WW,Ze,reduceCtorEq,zd,ze,za,zf,zb,hgx,qac]
  refine ⟨⟨by omega,by omega⟩,hlt,?_⟩
  have hln:=qqX x
  refine use1 (up5 (qkY x (by omega))) rfl (.inl rfl) ?_
  generalize spN x=w at *
  have e7:Int.toNat 7=7:=rfl
  have hbad:prL w=none→PV.tup [.sl 8 [],int (k:Nat),int 9]=perR (perE S R):=by
   intro hp
   rw [← hg,hnext,hp]
   rfl
  have ht7:List.take 7 (strE w)=strE (w.take 7):=by simp [strE,List.map_take]
  have e1':∀ b:Bool,b=false→(!b)=true:=by decide
  simp only [ZZ,WW,Ze,reduceCtorEq,zd,ze,za,zf,zb,qac,e7,ht7]
  refine ⟨fun h=>⟨h,by omega,by rw [zQ,decide_eq_false_iff_not] at h;omega⟩,?_⟩
  refine useG (fun _=>up5 (qa2 (w.take 7) [] (by simp;omega))) rfl (.inl rfl) ?_
  refine zS ?_
  refine ⟨e1' _,?_⟩
  refine br ?_ ?_
  ·intro h
   have hp:prL w=none:=by
    refine qmU fun hc=>?_
    rw [Bool.or_eq_true,decide_eq_true_eq,decide_eq_true_eq] at h
    rcases h with h|h
    ·omega
    ·exact hc.2.1 h
   refine zS ?_
   exact hbad hp
  intro h
  rw [yl,decide_eq_false_iff_not,decide_eq_false_iff_not] at h
  have h8:w.length=8:=by omega
  have hk7:=h.2
  have e3:Int.toNat 3=3:=rfl
  have e0:Int.toNat 0=0:=rfl
  have e2:Int.toNat 2=2:=rfl
  have e4:Int.toNat 4=4:=rfl
  have e1:Int.toNat 1=1:=rfl
  have e5:Int.toNat 5=5:=rfl
  have e6:Int.toNat 6=6:=rfl
  have g0:=qbp (w:=w) (j:=0) (by omega)
  have g1:=qbp (w:=w) (j:=1) (by omega)
  have g2:=qbp (w:=w) (j:=2) (by omega)
  have g3:=qbp (w:=w) (j:=3) (by omega)
  have g4:=qbp (w:=w) (j:=4) (by omega)
  have g5:=qbp (w:=w) (j:=5) (by omega)
  have g6:=qbp (w:=w) (j:=6) (by omega)
  have g7:=qbp (w:=w) (j:=7) (by omega)
  have hgl:∀ j,(w.getD j []).length≤200000:=by
   intro j
   rw [yj]
   cases hj:w[j]? with
   |none=>simp
   |some x=>exact hxw x (zn hj)
  simp only [ZZ,WW,Ze,reduceCtorEq,zd,ze,za,zf,zb,qac,e0,g0]
  refine ⟨⟨by omega,by omega⟩,by omega,?_⟩
  refine use1 (qjH (w.getD 0 []) 9 (by have:=hgl 0;omega)) rfl (.inl rfl) ?_
  simp only [ZZ,WW,Ze,reduceCtorEq,zd,ze,za,zf,zb,qac,e2,g2]
  refine ⟨⟨by omega,by omega⟩,by omega,?_⟩
  refine use1 (qjH (w.getD 2 []) 9 (by have:=hgl 2;omega)) rfl (.inl rfl) ?_
  simp only [ZZ,WW,Ze,reduceCtorEq,zd,ze,za,zf,zb,qac,e4,g4]
  refine ⟨⟨by omega,by omega⟩,by omega,?_⟩
  refine use1 (qjH (w.getD 4 []) 9 (by have:=hgl 4;omega)) rfl (.inl rfl) ?_
  simp only [ZZ,WW,Ze,reduceCtorEq,zd,ze,za,zf,zb,qac,e3,g3]
  refine ⟨⟨by omega,by omega⟩,by omega,?_⟩
  obtain ⟨kd,hkd⟩:∃ kd,kd=if w.getD 3 []=fulW then (3:Int) else if w.getD 3 []=parW then 2 else 0:=⟨_,rfl⟩
  have hmp:mpD (mpS (mpS [] [102,117,108,108] (PV.int IntKind.i64 3)) [112,97,114,116] (PV.int IntKind.i64 2)) (w.getD 3 []) (PV.int IntKind.i64 0)=int kd:=by
   rw [hkd]
   exact qxU _
  rw [hmp]
  have hk0:kd=0↔¬ knR w:=by
   rw [hkd]
   unfold knR
   split
   ·simp_all
   ·split<;>simp_all
  have hkk:knR w→kd=if w.getD 3 []=parW then 2 else 3:=by
   intro h
   rw [hkd]
   rcases h with h|h
   ·rw [if_pos h,if_neg (by rw [h];decide)]
   ·rw [if_neg (by rw [h];decide),if_pos h,if_pos h]
  refine drg0 ?_
  simp only [ZZ,WW,Ze,reduceCtorEq,zd,ze,za,zf,zb,qac,e1,g1,e5,g5,e7,g7]
  refine ⟨⟨by omega,by omega⟩,by omega,⟨by omega,by omega⟩,by omega,⟨by omega,by omega⟩,by omega,?_⟩
  simp only [ZZ,WW,Ze,reduceCtorEq,zd,ze,za,zf,zb,qac,e6,g6]
  refine ⟨⟨by omega,by omega⟩,by omega,?_⟩
  have hgood:((qgD (w.getD 0 []) 9=true∧qgD (w.getD 2 []) 9=true∧qgD (w.getD 4 []) 9=true)∧kd≠0)↔(knR w∧nuR w):=by
   have a1:∀ s,qgD s 9=true↔nuF s:=fun s=>⟨(qly s).2,fun h=>((qly s).1 h).2⟩
   rw [a1,a1,a1]
   constructor
   ·rintro ⟨h1,h2⟩
    exact ⟨Classical.not_not.1 (fun h=>h2 (hk0.2 h)),h1⟩
   ·rintro ⟨h1,h2⟩
    exact ⟨h2,fun h=>hk0.1 h h1⟩
  have hb1:(((!qgD (w.getD 0 []) 9 || !qgD (w.getD 2 []) 9) || !qgD (w.getD 4 []) 9) || decide (kd=0))=true→prL w=none:=by
   intro hc
   refine qmU fun hx=>?_
   have:=hgood.2 ⟨hx.2.2.1,hx.2.2.2⟩
   rw [this.1.1,this.1.2.1,this.1.2.2,decide_eq_false this.2] at hc
   cases hc
  have hb2:(((!qgD (w.getD 0 []) 9 || !qgD (w.getD 2 []) 9) || !qgD (w.getD 4 []) 9) || decide (kd=0))=false→prL w=some (mkRw w)∧kd=(mkRw w).kind:=by
   intro hc
   rw [yl,yl,yl,z6,z6,z6,decide_eq_false_iff_not] at hc
   have:=hgood.1 ⟨⟨hc.1.1.1,hc.1.1.2,hc.1.2⟩,hc.2⟩
   exact ⟨qrf ⟨h8,hk7,this.1,this.2⟩,hkk this.1⟩
  refine br (fun h6=>?_) (fun h6=>?_)
  ·have t6:splF (w.getD 6 []) 59=if w.getD 6 []=[45] then [] else splF (w.getD 6 []) 59:=by rw [if_neg (by rw [zQ,decide_eq_false_iff_not] at h6;exact h6)]
   simp only [ZZ,WW,Ze,reduceCtorEq,zd,ze,za,zf,zb,qac,e6,g6]
   refine ⟨⟨by omega,by omega⟩,by omega,?_⟩
   refine use1 (up5 (qe8 (w.getD 6 []) 59 (by have:=hgl 6;omega))) rfl (.inl rfl) ?_
   rw [qbU]
   refine zS ?_
   refine qae zE_ ?_
   refine zS ?_
   refine ⟨e1' _,e1' _,e1' _,?_⟩
   refine br ?_ ?_
   ·intro hc
    refine zS ?_
    exact hbad (hb1 hc)
   intro hc
   obtain ⟨hp,hkr⟩:=hb2 hc
   have dB:=qrg hp hxw
   rw [hp,hg] at hnext
   have hn:R=gorF (S.dropLast.drop (k+1)) (k+1) (q++[mkRw w]):=hnext
   have hto:(mkRw w).tos=splF (w.getD 6 []) 59:=t6.symm
   have happ:lrE q++[[int (atV (w.getD 0 [])),.str (w.getD 1 []),int (atV (w.getD 2 [])),.str (w.getD 5 []),.sl 1 (strE (splF (w.getD 6 []) 59)),int kd,.str (w.getD 7 []),int (atV (w.getD 4 []))]]=lrE (q++[mkRw w]):=by
    rw [← qjg,hto,hkr]
    rfl
   simp only [ZZ,WW,Ze,reduceCtorEq,zd,ze,za,zf,zb,happ]
   refine ⟨by rw [qav];omega,qai (by omega) (by omega),?_⟩
   refine qab (S.dropLast.length - (k+1)) (oC (oo::(.p (.sl 1 (strE S))::.row (.l 6)::oE (oC (oo::(.p (.sl 1 (strE S.dropLast))::.p (int (S.dropLast.length:Nat))::.p (int ((k+1):Nat))::oG (oF (oC (oo::[]))))))))) [(.l 6,.row (lrE (q++[mkRw w])) tRow 8 true)] (by omega) zF_ zF_ ⟨k+1,q++[mkRw w],by omega,rfl,hn.symm,(fun y hy=>by rcases zp.1 hy with hy|hy;exact hqB y hy;rw [zu] at hy;rw [hy];exact dB),by rw [zm];simp only [zl,zr];omega,rfl,rfl⟩
  ·have t6:([]:List (List UInt8))=if w.getD 6 []=[45] then [] else splF (w.getD 6 []) 59:=by rw [if_pos (by rw [z6,decide_eq_true_eq] at h6;exact h6)]
   simp only [ZZ,WW,Ze,reduceCtorEq,zd,ze,za,zf,zb,qac,e6,g6]
   refine qae zE_ ?_
   refine zS ?_
   refine ⟨e1' _,e1' _,e1' _,?_⟩
   refine br ?_ ?_
   ·intro hc
    refine zS ?_
    exact hbad (hb1 hc)
   intro hc
   obtain ⟨hp,hkr⟩:=hb2 hc
   have dB:=qrg hp hxw
   rw [hp,hg] at hnext
   have hn:R=gorF (S.dropLast.drop (k+1)) (k+1) (q++[mkRw w]):=hnext
   have hto:(mkRw w).tos=[]:=t6.symm
   have happ:lrE q++[[int (atV (w.getD 0 [])),.str (w.getD 1 []),int (atV (w.getD 2 [])),.str (w.getD 5 []),.sl 1 (strE ([])),int kd,.str (w.getD 7 []),int (atV (w.getD 4 []))]]=lrE (q++[mkRw w]):=by
    rw [← qjg,hto,hkr]
    rfl
   have happ:lrE q++[[int (atV (w.getD 0 [])),.str (w.getD 1 []),int (atV (w.getD 2 [])),.str (w.getD 5 []),.sl 1 [],int kd,.str (w.getD 7 []),int (atV (w.getD 4 []))]]=lrE (q++[mkRw w]):=happ
   simp only [ZZ,WW,Ze,reduceCtorEq,zd,ze,za,zf,zb,happ]
   refine ⟨by rw [qav];omega,qai (by omega) (by omega),?_⟩
   refine qab (S.dropLast.length - (k+1)) (oC (oo::(.p (.sl 1 (strE S))::.row (.l 6)::oE (oC (oo::(.p (.sl 1 (strE S.dropLast))::.p (int (S.dropLast.length:Nat))::.p (int ((k+1):Nat))::oG (oF (oC (oo::[]))))))))) [(.l 6,.row (lrE (q++[mkRw w])) tRow 8 true)] (by omega) zF_ zF_ ⟨k+1,q++[mkRw w],by omega,rfl,hn.symm,(fun y hy=>by rcases zp.1 hy with hy|hy;exact hqB y hy;rw [zu] at hy;rw [hy];exact dB),by rw [zm];simp only [zl,zr];omega,rfl,rfl⟩
 ·intro h1
  have hge:S.dropLast.length≤k:=by have:=of_decide_eq_false h1;omega
  rw [zX hge] at hg
  have hg:Except.ok q=R:=hg
  rw [← hg]
  have hgl:S.getD (S.length - 1) []=S.getLastD []:=by
   rw [List.getLastD_eq_getLast?,List.getLast?_eq_getElem?,yj]
  have hsg:(strE S).getD (S.length - 1) []=[.str (S.getLastD [])]:=by rw [qbp (by omega),hgl]
  simp only [ZZ,WW,Ze,reduceCtorEq,zd,ze,za,zf,zb,qac,e1,hsg]
  refine ⟨qai (by omega) (by omega),⟨by omega,by omega⟩,by omega,?_⟩
  refine br ?_ ?_
  ·intro h2
   have h2:S.getLastD []≠[]:=by rw [zQ,decide_eq_false_iff_not] at h2;exact h2
   rw [qjE h2]
   simp only [ZZ,WW,Ze,reduceCtorEq,zd,ze,za,zf,zb,qac]
   refine ⟨qai (by omega) (by omega),?_⟩
   rfl
  intro h2
  have h2:S.getLastD []=[]:=by rw [z6,decide_eq_true_eq] at h2;exact h2
  rw [qoe h2]
  refine zS ?_
  refine use1 (up5 (qgj q hqB)) rfl (.inr rfl) ?_
  refine zS ?_
  refine br ?_ ?_
  ·intro h3
   have h3:¬ qdd q=0:=by simpa using h3
   rw [if_pos h3]
   refine zS ?_
   rfl
  ·intro h3
   have h3:qdd q=0:=by simpa using h3
   rw [if_neg (fun e=>e h3)]
   refine zS ?_
   rfl
section
variable {E:Envt}
end
theorem qoG (s p:List UInt8):(qat s p).1.length≤s.length:=by
 unfold qat
 split<;>simp
theorem qfy {s:List UInt8} (h:Lib.hasPrefix s [62]=true):(qat (s.drop 1) [32]).1.length < s.length:=by
 have h1:=qcM h
 have h2:=qoG (s.drop 1) [32]
 rw [List.length_drop] at h2
 simp only [zl,zr] at h1
 omega
def qeJ (s:List UInt8):Nat×List UInt8:=if h:Lib.hasPrefix s [62]=true then ((qeJ (qat (s.drop 1) [32]).1).1+1,(qeJ (qat (s.drop 1) [32]).1).2) else (0,s)
termination_by s.length
decreasing_by all_goals exact qfy h
theorem qjr {s:List UInt8} (h:Lib.hasPrefix s [62]=true):qeJ s=((qeJ (qat (s.drop 1) [32]).1).1+1,(qeJ (qat (s.drop 1) [32]).1).2):=by
 rw [qeJ,dif_pos h]
theorem qjb {s:List UInt8} (h:Lib.hasPrefix s [62]=false):qeJ s=(0,s):=by
 rw [qeJ,dif_neg (by rw [h];simp)]
theorem qo4:∀ (n:Nat) (s:List UInt8),s.length≤n→(qeJ s).1+(qeJ s).2.length≤s.length:=by
 intro n
 induction n with
 |zero=>
  intro s hs
  cases h:Lib.hasPrefix s [62] with
  |true=>have:=qfy h;omega
  |false=>rw [qjb h];simp
 |succ n ih=>
  intro s hs
  cases h:Lib.hasPrefix s [62] with
  |true=>
   have h1:=qfy h
   have:=ih (qat (s.drop 1) [32]).1 (by omega)
   rw [qjr h]
   simp only
   omega
  |false=>rw [qjb h];simp
def tb (n:Nat) (f:Nat→List PV):List (List PV):=(zB n).map f
theorem qmz (n:Nat) (f:Nat→List PV):(tb n f).length=n:=by simp [tb]
theorem qkp {n k:Nat} {f:Nat→List PV} (h:k < n):(tb n f).getD k []=f k:=by simp [tb,zC,h]
theorem qkq {n:Nat} {f g:Nat→List PV} (h:∀ j,j < n→f j=g j):tb n f=tb n g:=by
 unfold tb
 exact List.map_congr_left fun j hj=>h j (List.mem_range.1 hj)
theorem quE (n k:Nat) (f:Nat→List PV) (x:List PV):(tb n f).set k x=tb n fun j=>if j=k then x else f j:=by
 refine List.ext_getElem? fun j=>?_
 unfold tb
 rw [List.getElem?_set]
 by_cases hj:j < n
 ·by_cases e:k=j
  ·subst e;simp [hj]
  ·simp [hj,e,show ¬ j=k from fun h=>e h.symm]
 ·by_cases e:k=j
  ·subst e;simp [hj]
  ·simp [hj,e]
theorem qxd (n:Nat) (x:List PV):zD n x=tb n fun _=>x:=by
 refine List.ext_getElem? fun j=>?_
 by_cases hj:j < n
 ·simp [tb,hj]
 ·simp [tb,hj]
def q3 (d:Int) (t:List UInt8) (b:Bool):List PV:=[int d,.str t,.bool b]
def sgF (l:List (List UInt8)) (j:Nat):Nat:=(qeJ (l.getD j [])).1
def txF (l:List (List UInt8)) (j:Nat):List UInt8:=(qeJ (l.getD j [])).2
def rowS (l:List (List UInt8)) (k:Nat):List (List PV):=tb l.length fun j=>if j < k then [int (sgF l j)] else [int 0]
theorem qq8 (l:List (List UInt8)):zD l.length [int 0]=rowS l 0:=by
 rw [qxd]
 exact qkq fun j _=>by simp
theorem qeM (l:List (List UInt8)) (k:Nat):(rowS l k).length=l.length:=qmz _ _
theorem qsZ (l:List (List UInt8)) (k:Nat):(rowS l k).set k [int (sgF l k)]=rowS l (k+1):=by
 rw [rowS,quE]
 refine qkq fun j _=>?_
 by_cases e:j=k
 ·simp [e]
 ·simp only [if_neg e,show (j < k+1)=(j < k) from by simp;omega]
theorem qld {l:List (List UInt8)} {k:Nat} (h:k < l.length):(rowS l l.length).getD k []=[int (sgF l k)]:=by rw [rowS,qkp h];simp [h]
def atF (l:List (List UInt8)) (i k:Nat):Option Nat:=if h:k < l.length then (if sgF l i < sgF l k then some (sgF l k) else if qiO (txF l k)=true then atF l i (k+1) else none) else none
termination_by l.length - k
def qF (l:List (List UInt8)) (j:Nat):Nat×Bool:=if qq6 (txF l j)=true then (match atF l j (j+1) with|some d=>(d,true)|none=>(sgF l j,false)) else (sgF l j,false)
theorem qq3 {l:List (List UInt8)} {m:Nat} (hb:∀ x∈l,x.length≤m) (j:Nat):sgF l j+(txF l j).length≤m:=by
 have:=qo4 _ (l.getD j []) (zL _)
 unfold sgF txF
 by_cases hj:j < l.length
 ·have h2:=hb (l.getD j []) (by simp [zC,hj])
  omega
 ·have e:l.getD j []=[]:=by simp [zC,hj]
  rw [e] at this ⊢
  simp only [zr] at this
  omega
abbrev tInt:Nat:=3
theorem qjo:bits []=[]:=by rw [bits,qbV];rfl
theorem qpK (a b:List UInt8):bits (a++32 :: b)=bits a++bits b:=by
 unfold bits
 rw [qbV,qbV,qbV,quI,List.filter_append]
theorem qnw:∀ ws:List (List UInt8),bits (qdI ws)=(ws.map bits).flatten
 |[]=>by simp [qdI,Lib.join_nil,qjo]
 |[x]=>by simp [qdI,Lib.join_one]
 |x :: y :: r=>by
  have:=qnw (y :: r)
  rw [qkH,qpK,this]
  simp
theorem quc (s:List UInt8):wgt (bits s)≤s.length+1:=by
 unfold bits
 rw [qbV]
 have:=qkn (fun x:List UInt8=>!x.isEmpty) (sp 32 s)
 rw [qqV] at this
 exact this
theorem qk6 (s:List UInt8):(sqF s).length≤s.length:=by
 have h1:=qjL (bits s)
 have h2:=quc s
 unfold sqF
 omega
def isW (ws:List (List UInt8)):Prop:=∀ w∈ws,32∉w∧w≠[]
theorem qud (s:List UInt8):isW (bits s):=by
 intro w hw
 unfold bits at hw
 rw [qbV] at hw
 have h:=List.mem_filter.1 hw
 exact ⟨qvb 32 s w h.1,by intro e;subst e;simp at h⟩
theorem qsc {w:List UInt8} (h1:32∉w) (h2:w≠[]):bits w=[w]:=by
 unfold bits
 rw [qbV,qxf h1]
 cases w with
 |nil=>exact absurd rfl h2
 |cons x r=>rfl
theorem qqk:∀ {ws:List (List UInt8)},isW ws→bits (qdI ws)=ws:=by
 intro ws h
 rw [qnw]
 induction ws with
 |nil=>rfl
 |cons x r ih=>
  have hx:=h x (by simp)
  rw [List.map_cons,List.flatten_cons,qsc hx.1 hx.2,ih (fun w hw=>h w (by simp [hw]))]
  rfl
theorem qrG {ws:List (List UInt8)} (h:isW ws):qdI ws=[]↔ws=[]:=by
 constructor
 ·intro e
  have:=qqk h
  rw [e,qjo] at this
  exact this.symm
 ·rintro rfl;rfl
theorem qu9 (s:List UInt8):sqF s=[]↔bits s=[]:=qrG (qud s)
theorem qsd (s:List UInt8):bits s=[]↔s.all (fun c=>[(32:UInt8)].contains c)=true:=by
 induction s with
 |nil=>simp [qjo]
 |cons x s ih=>
  by_cases hx:x=32
  ·subst hx
   have:=qpK [] s
   rw [zU,qjo,zU] at this
   rw [this,ih]
   simp
  ·constructor
   ·intro h
    exfalso
    unfold bits at h
    rw [qbV,sp,if_neg hx] at h
    simp at h
   ·intro h
    simp [hx] at h
theorem qk5 (s:List UInt8):decide (sqF s=[])=qiO s:=by
 have h:qiO s=qqa s [32]:=rfl
 rw [h,qjI,Bool.eq_iff_iff,decide_eq_true_iff,qu9,qsd]
def qcm:IC:=(.seq (.seq (.drg [qM 68 12,qM 69 3,qN 70 69,qT 71 .lss 68 70,qM 72 71,⟨some 73,.mov (.t 3),(some (72,true))⟩,⟨some 74,.mov (.t 12),(some (72,true))⟩,⟨some 75,.ixa 2 (.t 73) (.t 74),(some (72,true))⟩,⟨some 76,.fla 1 (.t 75),(some (72,true))⟩,⟨some 77,.ld 1 false (.t 76),(some (72,true))⟩,⟨some 78,.pcall 0 152 [.t 77],(some (72,true))⟩,⟨some 79,.bin .eql (.t 78) (.c (.str [])),(some (72,true))⟩,qO 80 (.pick (.t 72) (.t 79) (.c (.bool false))),qM 81 80,⟨some 82,.mov (.t 7),(some (81,true))⟩,⟨some 83,.mov (.t 12),(some (81,true))⟩,⟨some 84,.ixa 1 (.t 82) (.t 83),(some (81,true))⟩,⟨some 85,.ld 1 false (.t 84),(some (81,true))⟩,⟨some 86,.fla 0 (.t 11),(some (81,true))⟩,⟨some 87,.ld 1 false (.t 86),(some (81,true))⟩,⟨some 88,.bin .leq (.t 85) (.t 87),(some (81,true))⟩,qO 89 (.pick (.t 81) (.t 88) (.c (.bool false)))]) (.cond (.t 89) .skip (.exit 8))) (.block 9 (.reg [qM 90 12,qB 91 .add 90 (cI 1),qM 12 91])))
def qcn:IC:=(sR [qT 58 .lss 57 56] (.seq (.cond (.t 58) .skip (.exit 6)) (.seq (.block 7 (sR [qM 59 57,qX 60 2 55 57,qO 61 (.ld 2 true (.t 60)),qO 11 (.alc 186 [.int .i64 0,.str []]),qM 10 59,qS 2 11 61] (.seq (sR [wF 62 1 11,qL 63 62,jC 64 185 [.t 63],qO 65 (.not (.t 64))] (jW 65 (.exit 7))) (sR [qM 66 10,qB 67 .add 66 (cI 1),qM 12 67] (.seq (.block 8 (.loop qcm)) (.seq (.drg [qM 92 12,qM 93 3,qN 94 93,qT 95 .lss 92 94,qM 96 95,⟨some 97,.mov (.t 7),(some (96,true))⟩,⟨some 98,.mov (.t 12),(some (96,true))⟩,⟨some 99,.ixa 1 (.t 97) (.t 98),(some (96,true))⟩,⟨some 100,.ld 1 false (.t 99),(some (96,true))⟩,⟨some 101,.fla 0 (.t 11),(some (96,true))⟩,⟨some 102,.ld 1 false (.t 101),(some (96,true))⟩,⟨some 103,.bin .gtr (.t 100) (.t 102),(some (96,true))⟩,qO 104 (.pick (.t 96) (.t 103) (.c (.bool false)))]) (jW 104 (.reg [qM 105 3,qM 106 10,qM 107 7,qM 108 12,qX 109 1 107 108,qL 110 109,qX 111 2 105 106,wF 112 0 111,qS 1 112 110])))))))) (.cut (.reg [qB 113 .add 57 (cI 1),qM 57 113])))))
def qco:IC:=(sR [qT 45 .lss 44 43] (.seq (.cond (.t 45) .skip (.exit 4)) (.seq (.block 5 (sR [qM 46 44,qX 47 2 42 44,qO 48 (.ld 2 true (.t 47)),qO 9 (.alc 186 [.int .i64 0,.str []]),qM 8 46,qS 2 9 48] (.reg [qM 49 7,qM 50 8,wF 51 0 9,qL 52 51,qX 53 1 49 50,qS 1 53 52]))) (.reg [qB 54 .add 44 (cI 1),qM 44 54]))))
def qcp:IC:=(.seq (sR [wF 22 1 6,qL 23 22,jC 24 63 [.t 23,.c (.str [62])]] (.cond (.t 24) .skip (.exit 2))) (.block 3 (sR [wF 25 0 6,qL 26 25,qB 27 .add 26 (cI 1),wF 28 0 6,qS 1 28 27] (.reg [wF 29 1 6,qL 30 29,qO 31 (.ssl (.t 30) (some (cI 1)) none),jC 32 82 [.t 31,.c (.str [32])],wF 33 1 6,qS 1 33 32]))))
def qcq:IC:=(sR [qT 17 .lss 16 15] (.seq (jE 17) (.seq (.block 1 (sR [qX 18 1 14 16,qL 19 18,qM 5 19] (sR [qM 20 5,qO 21 (.bld [.int .i64 0,.str []] [(1,1,.t 20)]),qO 6 (.alc 186 [.int .i64 0,.str []]),qS 2 6 21] (.seq (.block 2 (.loop qcp)) (.reg [qM 34 3,qO 35 (.ld 2 true (.t 6)),qO 36 (.bsl 2 [.t 35]),qO 37 (.app 186 2 24 (.t 34) (.t 36)),qM 3 37]))))) (.reg [qB 38 .add 16 (cI 1),qM 16 38]))))
abbrev qfX:IC:=(sR [qO 2 (.mov (.c (.nl 2)))] (sR [qO 3 (.nilr 186 2)] (.seq (sR [qM 13 0,jC 14 184 [.t 13],qN 15 14,jI 16 0] (.block 0 (.loop qcq))) (sR [qM 39 3,qN 40 39,qO 41 (.mks 3 1 8 [.int .i64 0] (.t 40) (.t 40)),qM 7 41] (.seq (sR [qM 42 3,qN 43 42,jI 44 0] (.block 4 (.loop qco))) (.seq (sR [qM 55 3,qN 56 55,jI 57 0] (.block 6 (.loop qcn))) (sR [qM 114 3,qM 2 114] .ret)))))))
theorem qgb:chkF Tryz.prog Tryz.f150 qfX [.t 2] 115=true:=by kernel_rfl
theorem qvK (s:List UInt8):qj7 s=hitF s:=by
 funext w
 unfold qj7 hitF
 rw [qk5]
theorem qwX (s:List UInt8):qqm s=qq6 s:=by
 unfold qqm qq6
 rw [qvK,Bool.or_comm]
abbrev tQ2:Nat:=186
def rowO (l:List (List UInt8)) (k:Nat):List (List PV):=tb k fun j=>[int (sgF l j),.str (txF l j)]
theorem qle (l:List (List UInt8)) (k:Nat):(rowO l k).length=k:=qmz _ _
theorem qs2 {l:List (List UInt8)} {n k:Nat} (h:k < n):(rowO l n).getD k []=[int (sgF l k),.str (txF l k)]:=qkp h
theorem qs3 {l:List (List UInt8)} {k d:Nat} {x t:List UInt8} (hx:l[k]?=some x) (h:qeJ x=(d,t)):rowO l k++[[int d,.str t]]=rowO l (k+1):=by
 unfold rowO tb
 rw [List.range_succ,List.map_append]
 simp [sgF,txF,zC,hx,h]
def rowP (l:List (List UInt8)) (i:Nat):List (List PV):=tb l.length fun j=>if j < i then [int (qF l j).1,.str (txF l j)] else [int (sgF l j),.str (txF l j)]
theorem qq9 (l:List (List UInt8)):rowO l l.length=rowP l 0:=qkq fun j hj=>by simp
theorem qdX (l:List (List UInt8)) (k:Nat):(rowP l k).length=l.length:=qmz _ _
theorem qjd {l:List (List UInt8)} {i k:Nat} (h:k < l.length) (hik:i≤k):(rowP l i).getD k []=[int (sgF l k),.str (txF l k)]:=by
 rw [rowP,qkp h,if_neg (by omega)]
theorem qs0 {l:List (List UInt8)} {i d:Nat} (h:(qF l i).1=d):(rowP l i).set i [int d,.str (txF l i)]=rowP l (i+1):=by
 rw [rowP,quE]
 refine qkq fun j _=>?_
 by_cases e:j=i
 ·subst e;simp [h]
 ·simp only [if_neg e,show (j < i+1)=(j < i) from by simp;omega]
theorem qjA {l:List (List UInt8)} {i:Nat} (h:(qF l i).1=sgF l i):rowP l i=rowP l (i+1):=by
 refine qkq fun j _=>?_
 by_cases e:j=i
 ·subst e;simp [h]
 ·simp only [show (j < i+1)=(j < i) from by simp;omega]
def quF (l:List (List UInt8)):List (List PV):=tb l.length fun j=>[int (qF l j).1,.str (txF l j)]
theorem qs1 (l:List (List UInt8)):rowP l l.length=quF l:=qkq fun j hj=>by simp [hj]
theorem qei (s:List UInt8):(qal s).length≤s.length∧∀ x∈qal s,x.length≤s.length:=by
 unfold qal
 have h2:=qdW s 10
 exact ⟨by simp;omega,fun x hx=>qgr s 10 x (List.mem_of_mem_take hx)⟩
set_option maxHeartbeats 4000000 in
theorem qoS (s:List UInt8) (hs:s.length≤25000):FCall Tryz.prog E0 150 [.str s] tQ2 2 (·=quF (qal s)):=by
 unfold FCall
 refine qf0 mixed Tryz.func150 qgb ?_
 refine zV ?_
 refine use1 (qkC s (by omega)) rfl (.inl rfl) ?_
 rw [qbU]
 obtain ⟨hll,hlb⟩:=qei s
 generalize qal s=l at *
 simp only [ZZ,WW,Ze,reduceCtorEq,zd,ze,za,zf,zb,qac]
 rw [show ([]:List (List PV))=rowO l 0 from rfl]
 refine qad (fun n fr L=>∃ (k:Nat),k≤l.length∧n=l.length - k∧fr=(.p (.str s)::oo::oo::.row (.l 3)::oD (oB (.p (.sl 1 (strE l))::.p (int (l.length:Nat))::.p (int (k:Nat))::oG (oF (oB [])))))∧L=[(.l 3,.row (rowO l k) tQ2 2 true)]) (l.length) (.p (.str s)::oo::oo::.row (.l 3)::oD (oB (.p (.sl 1 (strE l))::.p (int (l.length:Nat))::.p (int (0:Nat))::oG (oF (oB []))))) [(.l 3,.row (rowO l 0) tQ2 2 true)] (by simp only [ZZ,WW,Ze,reduceCtorEq,zd,ze,za,zf,zb,qac];try trivial) zF_ ⟨0,by omega,by omega,rfl,rfl⟩ ?_
 rintro n fr L ⟨k,hk,rfl,rfl,rfl⟩
 simp only [qcq,ZZ,WW,Ze,reduceCtorEq,zd,ze,za,zf,zb]
 refine br ?_ ?_
 ·intro h
  have hlt:k < l.length:=by have:=of_decide_eq_true h;omega
  obtain ⟨x,hx⟩:∃ x,l[k]?=some x:=⟨_,zk hlt⟩
  have hg:=qaU hx
  have hxb:=hlb x (zn hx)
  simp only [ZZ,WW,Ze,reduceCtorEq,zd,ze,za,zf,zb,hg,qac]
  ((with_reducible and_intros)<;>try exact sc_)
  refine qad (fun n fr L=>∃ (d:Nat) (u:List UInt8),u.length=n∧(qeJ x=(d+(qeJ u).1,(qeJ u).2))∧(d+u.length≤x.length)∧fr=(.p (.str s)::oo::oo::.row (.l 3)::oo::oo::.adr (.l 6) 0::oC (oB (oo::(.p (.sl 1 (strE l))::.p (int (l.length:Nat))::.p (int (k:Nat))::oG (oF (oB []))))))∧L=[(.l 3,.row (rowO l k) tQ2 2 true),(.l 6,.box [.p (int (d:Nat)),.p (.str u)] tQ2)]) (x.length) (.p (.str s)::oo::oo::.row (.l 3)::oo::oo::.adr (.l 6) 0::oC (oB (oo::(.p (.sl 1 (strE l))::.p (int (l.length:Nat))::.p (int (k:Nat))::oG (oF (oB [])))))) [(.l 3,.row (rowO l k) tQ2 2 true),(.l 6,.box [.p (int (0:Nat)),.p (.str x)] tQ2)] zF_ zF_ ⟨0,x,rfl,by simp,by omega,rfl,rfl⟩ ?_
  rintro n fr L ⟨d,u,rfl,hst,hdb,rfl,rfl⟩
  simp only [qcp,ZZ,WW,Ze,reduceCtorEq,zd,ze,za,zf,zb]
  refine use1 (qgl u [62]) rfl (.inl rfl) ?_
  refine zS ?_
  refine br ?_ ?_
  ·intro h2
   have hlen:=qcM h2
   simp only [zl,zr] at hlen
   have hdec:=qfy h2
   have hy:=qjr h2
   refine zS ?_
   ((with_reducible and_intros)<;>try exact sc_)
   rw [List.take_length,show Int.toNat 1=1 from rfl]
   refine use1 (qe7 (u.drop 1) [32] (by simp;omega) (by decide)) rfl (.inl rfl) ?_
   refine zS ?_
   ((with_reducible and_intros)<;>try exact sc_)
   refine qab (((qat (u.drop 1) [32]).1).length) (.p (.str s)::oo::oo::.row (.l 3)::oo::oo::.adr (.l 6) 0::oC (oB (oo::(.p (.sl 1 (strE l))::.p (int (l.length:Nat))::.p (int (k:Nat))::oG (oF (oB [])))))) [(.l 3,.row (rowO l k) tQ2 2 true),(.l 6,.box [.p (int ((d+1):Nat)),.p (.str ((qat (u.drop 1) [32]).1))] tQ2)] (by omega) zF_ zF_ ⟨d+1,(qat (u.drop 1) [32]).1,rfl,by rw [hst,hy];simp only;congr 1;omega,by omega,rfl,rfl⟩
  ·intro h2
   have hn:=qjb h2
   rw [hn] at hst
   simp only [Nat.add_zero] at hst
   simp only [ZZ,WW,Ze,reduceCtorEq,zd,ze,za,zf,zb,qle]
   ((with_reducible and_intros)<;>try exact sc_)
   rw [qs3 hx hst]
   refine qab (l.length - (k+1)) (.p (.str s)::oo::oo::.row (.l 3)::oD (oB (.p (.sl 1 (strE l))::.p (int (l.length:Nat))::.p (int ((k+1):Nat))::oG (oF (oB []))))) [(.l 3,.row (rowO l (k+1)) tQ2 2 true)] (by omega) zF_ zF_ ⟨k+1,by omega,rfl,rfl,rfl⟩
 ·intro h
  have hge:k=l.length:=by have:=of_decide_eq_false h;omega
  subst hge
  simp only [ZZ,WW,Ze,reduceCtorEq,zd,ze,za,zf,zb,qle]
  refine ⟨⟨by omega,by omega,by omega⟩,?_⟩
  rw [qq8]
  refine qad (fun n fr L=>∃ (k:Nat),k≤l.length∧n=l.length - k∧fr=(.p (.str s)::oo::oo::.row (.l 3)::oo::oo::oo::.row (.l 41)::oF (oB (.row (.l 3)::.p (int (l.length:Nat))::.p (int (k:Nat))::oG (oC (oB [])))))∧L=[(.l 3,.row (rowO l l.length) tQ2 2 true),(.l 41,.row (rowS l k) tInt 1 true)]) (l.length) (.p (.str s)::oo::oo::.row (.l 3)::oo::oo::oo::.row (.l 41)::oF (oB (.row (.l 3)::.p (int (l.length:Nat))::.p (int (0:Nat))::oG (oC (oB []))))) [(.l 3,.row (rowO l l.length) tQ2 2 true),(.l 41,.row (rowS l 0) tInt 1 true)] (by simp only [ZZ,WW,Ze,reduceCtorEq,zd,ze,za,zf,zb,qac];try trivial) zF_ ⟨0,by omega,by omega,rfl,rfl⟩ ?_
  rintro n fr L ⟨k,hk,rfl,rfl,rfl⟩
  simp only [qco,ZZ,WW,Ze,reduceCtorEq,zd,ze,za,zf,zb]
  refine br ?_ ?_
  ·intro h
   have hlt:k < l.length:=by have:=of_decide_eq_true h;omega
   have hgS:(rowS l k).getD k []=[int 0]:=by rw [rowS,qkp hlt];simp
   simp only [ZZ,WW,Ze,reduceCtorEq,zd,ze,za,zf,zb,qle,qeM,qs2 hlt,hgS]
   ((with_reducible and_intros)<;>try exact sc_)
   rw [qsZ]
   refine qab (l.length - (k+1)) (.p (.str s)::oo::oo::.row (.l 3)::oo::oo::oo::.row (.l 41)::oF (oB (.row (.l 3)::.p (int (l.length:Nat))::.p (int ((k+1):Nat))::oG (oC (oB []))))) [(.l 3,.row (rowO l l.length) tQ2 2 true),(.l 41,.row (rowS l (k+1)) tInt 1 true)] (by omega) zF_ zF_ ⟨k+1,by omega,rfl,rfl,rfl⟩
  ·intro h
   have hge:k=l.length:=by have:=of_decide_eq_false h;omega
   subst hge
   rw [qq9]
   simp only [ZZ,WW,Ze,reduceCtorEq,zd,ze,za,zf,zb,qdX]
   refine qad (fun n fr L=>∃ (i:Nat),i≤l.length∧n=l.length - i∧fr=(.p (.str s)::oo::oo::.row (.l 3)::oo::oo::oo::.row (.l 41)::oF (oD (oC (oB (oo::(.row (.l 3)::.p (int (l.length:Nat))::.p (int (i:Nat))::oF (oE (oD (oo::[])))))))))∧L=[(.l 3,.row (rowP l i) tQ2 2 true),(.l 41,.row (rowS l l.length) tInt 1 true)]) (l.length) (.p (.str s)::oo::oo::.row (.l 3)::oo::oo::oo::.row (.l 41)::oF (oD (oC (oB (oo::(.row (.l 3)::.p (int (l.length:Nat))::.p (int (0:Nat))::oF (oE (oD (oo::[]))))))))) [(.l 3,.row (rowP l 0) tQ2 2 true),(.l 41,.row (rowS l l.length) tInt 1 true)] (by simp only [ZZ,WW,Ze,reduceCtorEq,zd,ze,za,zf,zb,qac];try trivial) zF_ ⟨0,by omega,by omega,rfl,rfl⟩ ?_
   rintro n fr L ⟨i,hi,rfl,rfl,rfl⟩
   simp only [qcn,ZZ,WW,Ze,reduceCtorEq,zd,ze,za,zf,zb]
   refine br ?_ ?_
   ·intro h
    have hlt:i < l.length:=by have:=of_decide_eq_true h;omega
    have hsb:=qq3 hlb i
    simp only [ZZ,WW,Ze,reduceCtorEq,zd,ze,za,zf,zb,qdX,qjd hlt (zL i)]
    ((with_reducible and_intros)<;>try exact sc_)
    refine use1 (qkj (txF l i) (by omega)) rfl (.inl rfl) ?_
    rw [qwX]
    refine zS ?_
    refine br ?_ ?_
    ·intro hn
     have hn:qq6 (txF l i)=false:=by simpa using hn
     have hq:(qF l i).1=sgF l i:=by simp [qF,hn]
     have hR:=qjA hq
     refine zS ?_
     refine qae zE_ ?_
     refine zS ?_
     ((with_reducible and_intros)<;>try exact sc_)
     rw [hR]
     refine qab (l.length - (i+1)) (.p (.str s)::oo::oo::.row (.l 3)::oo::oo::oo::.row (.l 41)::oF (oD (oC (oB (oo::(.row (.l 3)::.p (int (l.length:Nat))::.p (int ((i+1):Nat))::oF (oE (oD (oo::[]))))))))) [(.l 3,.row (rowP l (i+1)) tQ2 2 true),(.l 41,.row (rowS l l.length) tInt 1 true)] (by omega) zF_ zF_ ⟨i+1,by omega,rfl,rfl,rfl⟩
    ·intro hy
     have hy:qq6 (txF l i)=true:=by simpa using hy
     refine zS ?_
     ((with_reducible and_intros)<;>try exact sc_)
     refine qad (fun n fr L=>∃ (k:Nat),l.length - k=n∧(atF l i (i+1)=atF l i k)∧(i < k∧k≤l.length)∧fr=(.p (.str s)::oo::oo::.row (.l 3)::oo::oo::oo::.row (.l 41)::oo::oo::.p (int (i:Nat))::.adr (.l 11) 0::.p (int (k:Nat))::oF (oD (oB (.row (.l 3)::.p (int (l.length:Nat))::.p (int (i:Nat))::oF (oE (oD (oo::[])))))))∧L=[(.l 3,.row (rowP l i) tQ2 2 true),(.l 41,.row (rowS l l.length) tInt 1 true),(.l 11,.box [.p (int (sgF l i:Nat)),.p (.str (txF l i))] tQ2)]) (l.length - (i+1)) (.p (.str s)::oo::oo::.row (.l 3)::oo::oo::oo::.row (.l 41)::oo::oo::.p (int (i:Nat))::.adr (.l 11) 0::.p (int ((i+1):Nat))::oF (oD (oB (.row (.l 3)::.p (int (l.length:Nat))::.p (int (i:Nat))::oF (oE (oD (oo::[]))))))) [(.l 3,.row (rowP l i) tQ2 2 true),(.l 41,.row (rowS l l.length) tInt 1 true),(.l 11,.box [.p (int (sgF l i:Nat)),.p (.str (txF l i))] tQ2)] zF_ zF_ ⟨i+1,rfl,rfl,by omega,rfl,rfl⟩ ?_
     rintro n fr L ⟨k,rfl,hat,hki,rfl,rfl⟩
     simp only [qcm,ZZ,WW,Ze,reduceCtorEq,zd,ze,za,zf,zb]
     have hsb2:=qq3 hlb k
     refine drg1 (x1:=.str (sqF (txF l k))) ?_
     by_cases hkn:k < l.length
     ·have hd:decide ((k:Int) < l.length)=true:=by simp;omega
      simp only [ZZ,WW,Ze,reduceCtorEq,zd,ze,za,zf,zb,qdX,qeM,qjd hkn (by omega:i≤k),qld hkn,hd]
      ((repeat' (with_reducible apply And.intro))<;>try (first|exact usep (qbl (txF l k) (by omega)) rfl (.inl rfl)|(exact sc_)))
      rw [qk5]
      refine br ?_ ?_
      ·intro hc
       have hc:qiO (txF l k)=true∧sgF l k≤sgF l i:=by simpa using hc
       have hn4:atF l i k=atF l i (k+1):=by rw [atF,dif_pos hkn,if_neg (by omega),if_pos hc.1]
       simp only [ZZ,WW,Ze,reduceCtorEq,zd,ze,za,zf,zb,qfh]
       ((with_reducible and_intros)<;>try exact sc_)
       refine qab (l.length - (k+1)) (.p (.str s)::oo::oo::.row (.l 3)::oo::oo::oo::.row (.l 41)::oo::oo::.p (int (i:Nat))::.adr (.l 11) 0::.p (int ((k+1):Nat))::oF (oD (oB (.row (.l 3)::.p (int (l.length:Nat))::.p (int (i:Nat))::oF (oE (oD (oo::[]))))))) [(.l 3,.row (rowP l i) tQ2 2 true),(.l 41,.row (rowS l l.length) tInt 1 true),(.l 11,.box [.p (int (sgF l i:Nat)),.p (.str (txF l i))] tQ2)] (by omega) zF_ zF_ ⟨k+1,rfl,by rw [hat,hn4],by omega,rfl,rfl⟩
      ·intro hc
       simp only [ZZ,WW,Ze,reduceCtorEq,zd,ze,za,zf,zb,qfh]
       refine drg0 ?_
       simp only [ZZ,WW,Ze,reduceCtorEq,zd,ze,za,zf,zb,qdX,qeM,qjd hkn (by omega:i≤k),qld hkn,hd]
       ((with_reducible and_intros)<;>try exact sc_)
       refine br ?_ ?_
       ·intro h3
        have h3:sgF l i < sgF l k:=by have:=of_decide_eq_true h3;omega
        have hq:(qF l i).1=sgF l k:=by
         have:atF l i k=some (sgF l k):=by rw [atF,dif_pos hkn,if_pos h3]
         simp [qF,hy,hat,this]
        have hR:=qs0 hq
        simp only [ZZ,WW,Ze,reduceCtorEq,zd,ze,za,zf,zb,qfh,qdX,qeM,qjd hlt (zL i),qld hkn]
        rw [hR]
        ((with_reducible and_intros)<;>try exact sc_)
        refine qae zE_ ?_
        refine zS ?_
        ((with_reducible and_intros)<;>try exact sc_)
        refine qab (l.length - (i+1)) (.p (.str s)::oo::oo::.row (.l 3)::oo::oo::oo::.row (.l 41)::oF (oD (oC (oB (oo::(.row (.l 3)::.p (int (l.length:Nat))::.p (int ((i+1):Nat))::oF (oE (oD (oo::[]))))))))) [(.l 3,.row (rowP l (i+1)) tQ2 2 true),(.l 41,.row (rowS l l.length) tInt 1 true)] (by omega) zF_ zF_ ⟨i+1,by omega,rfl,rfl,rfl⟩
       ·intro h3
        have h3:¬ sgF l i < sgF l k:=by have:=of_decide_eq_false h3;omega
        have h5:qiO (txF l k)=false:=by
         cases hb:qiO (txF l k) with
         |false=>rfl
         |true=>rw [hb] at hc;simp at hc;omega
        have hq:(qF l i).1=sgF l i:=by
         have:atF l i k=none:=by rw [atF,dif_pos hkn,if_neg h3,if_neg (by rw [h5];simp)]
         simp [qF,hy,hat,this]
        have hR:=qjA hq
        simp only [ZZ,WW,Ze,reduceCtorEq,zd,ze,za,zf,zb,qfh]
        refine qae zE_ ?_
        refine zS ?_
        ((with_reducible and_intros)<;>try exact sc_)
        rw [hR]
        refine qab (l.length - (i+1)) (.p (.str s)::oo::oo::.row (.l 3)::oo::oo::oo::.row (.l 41)::oF (oD (oC (oB (oo::(.row (.l 3)::.p (int (l.length:Nat))::.p (int ((i+1):Nat))::oF (oE (oD (oo::[]))))))))) [(.l 3,.row (rowP l (i+1)) tQ2 2 true),(.l 41,.row (rowS l l.length) tInt 1 true)] (by omega) zF_ zF_ ⟨i+1,by omega,rfl,rfl,rfl⟩
     ·have hd:decide ((k:Int) < l.length)=false:=by simp;omega
      have hgn:(rowS l l.length).getD k []=[]:=by simp [zC,qeM,hkn]
      have hgp:(rowP l i).getD k []=[]:=by simp [zC,qdX,hkn]
      simp only [ZZ,WW,Ze,reduceCtorEq,zd,ze,za,zf,zb,qdX,qeM,hd,false_implies,Bool.false_and,hgn,hgp]
      have hq:(qF l i).1=sgF l i:=by
       have:atF l i k=none:=by rw [atF,dif_neg hkn]
       simp [qF,hy,hat,this]
      have hR:=qjA hq
      refine drg0 ?_
      simp only [ZZ,WW,Ze,reduceCtorEq,zd,ze,za,zf,zb,qdX,qeM,hd,false_implies,Bool.false_and,hgn,hgp,qfh]
      refine qae zE_ ?_
      refine zS ?_
      ((with_reducible and_intros)<;>try exact sc_)
      rw [hR]
      refine qab (l.length - (i+1)) (.p (.str s)::oo::oo::.row (.l 3)::oo::oo::oo::.row (.l 41)::oF (oD (oC (oB (oo::(.row (.l 3)::.p (int (l.length:Nat))::.p (int ((i+1):Nat))::oF (oE (oD (oo::[]))))))))) [(.l 3,.row (rowP l (i+1)) tQ2 2 true),(.l 41,.row (rowS l l.length) tInt 1 true)] (by omega) zF_ zF_ ⟨i+1,by omega,rfl,rfl,rfl⟩
   ·intro h
    have hge:i=l.length:=by have:=of_decide_eq_false h;omega
    subst hge
    rw [qs1]
    refine zS ?_
    exact qke 3 _ rfl rfl rfl
end Go.Proofs.YtjgdjinhkgjpeabGreatDoor
