import Derived.Test.YtekhobchfhhofaaGreatDoorZ16
import Derived.Test.YtekhobchfhhofaaGreatDoorZ15
import Derived.Test.YtekhobchfhhofaaGreatDoorLaySorted
import Derived.Test.YtekhobchfhhofaaGreatDoorLayKeysItB
import Derived.Test.YtekhobchfhhofaaGreatDoorLayKeysB
import Derived.Test.YtekhobchfhhofaaGreatDoorLayFields
import Derived.Lib.ItoaLen
set_option linter.unusedVariables false
set_option linter.unusedSimpArgs false
set_option linter.defProp false
namespace Go.Proofs.YtekhobchfhhofaaGreatDoor
open Nat renaming reduceAdd→zd,reduceEqDiff→zb,reduceLT→zf,reduceLeDiff→za,reduceMul→ze
open List renaming drop_eq_nil_of_le→zU,getD→zy,getElem?_eq_getElem→zh,mem_append→zr,mem_of_getElem?→zl,range→zz,take_of_length_le→zN
open Go.RowKit
def qci:IC:=(sR [qT 62 .lss 61 60] (.seq (.cond (.t 62) .skip (.exit 3)) (.seq (.block 4 (sR [qM 63 61,qX 64 1 59 61,qL 65 64,qM 6 63,qM 7 65] (.block 5 (sR [qM 67 7,jC 68 52 [.t 67],qO 69 (.not (.t 68)),qM 66 69] (.cond (.t 66) (sR [jI 2 3] .ret) (sR [wF 71 6 1,qL 72 71,qM 73 6,qO 74 (.vsl 1 (.t 72) none (some (.t 73))),qM 75 7,jC 76 58 [.t 74,.t 75],qM 70 76] (.cond (.t 70) (sR [jI 2 6] .ret) (sR [qM 78 7,wF 79 0 1,qL 80 79,qT 81 .eql 78 80,qM 77 81] (jW 77 (sR [jI 2 14] .ret)))))))))) (.reg [qB 82 .add 61 (cI 1),qM 61 82]))))
def qcj:IC:=(sR [qT 41 .lss 40 39] (.seq (.cond (.t 41) .skip (.exit 1)) (.seq (.block 2 (sR [qM 42 40,qX 43 2 38 40,qO 44 (.ld 2 true (.t 43)),qO 5 (.alc 42 [.str [],.str []]),qM 4 42,qS 2 5 44] (.seq (sR [qO 45 (.ld 2 true (.t 5)),jC 46 54 [.t 45],qO 47 (.not (.t 46))] (jW 47 (sR [jI 2 3] .ret))) (sR [qM 48 3,qM 49 4,⟨none,.fz (.t 48),none⟩,qO 50 (.vsl 2 (.t 48) none (some (.t 49))),qO 51 (.mkf 57 [.t 5]),jC 52 56 [.t 50,.t 51]] (jW 52 (sR [jI 2 6] .ret)))))) (.reg [qB 53 .add 40 (cI 1),qM 40 53]))))
abbrev qfC:IC:=(sR [qO 1 (.box 45 (.t 0)),jI 2 0] (.seq (.block 0 (sR [wF 9 0 1,qL 10 9,jC 11 52 [.t 10],qO 12 (.not (.t 11)),qM 8 12] (.cond (.t 8) (sR [jI 2 3] .ret) (sR [wF 14 1 1,qL 15 14,jC 16 53 [.t 15],qO 17 (.not (.t 16)),qM 13 17] (.cond (.t 13) (sR [jI 2 1] .ret) (sR [wF 19 2 1,qO 20 (.ld 2 true (.t 19)),jC 21 54 [.t 20],qO 22 (.not (.t 21)),qM 18 22] (.cond (.t 18) (sR [jI 2 3] .ret) (sR [wF 24 4 1,qL 25 24,qN 26 25,wF 27 5 1,qL 28 27,qN 29 28,qT 30 .add 26 29,qB 31 .gtr 30 (cI 100),qM 23 31] (jW 23 (sR [jI 2 2] .ret)))))))))) (sR [wF 32 4 1,qL 33 32,wF 34 5 1,qL 35 34,qO 36 (.bsl 1 [.t 33,.t 35]),jC 37 55 [.t 36],qM 3 37] (.seq (sR [qM 38 3,qN 39 38,jI 40 0] (.block 1 (.loop qcj))) (.seq (sR [wF 54 6 1,qL 55 54,qN 56 55,qB 57 .gtr 56 (cI 50)] (jW 57 (sR [jI 2 2] .ret))) (.seq (sR [wF 58 6 1,qL 59 58,qN 60 59,jI 61 0] (.block 3 (.loop qci))) (.seq (.block 6 (sR [wF 84 7 1,qL 85 84,jC 86 59 [.t 85],qO 87 (.not (.t 86)),qM 88 87,⟨some 89,.fla 7 (.t 1),(some (88,false))⟩,⟨some 90,.ld 1 false (.t 89),(some (88,false))⟩,⟨some 91,.sln (.t 90),(some (88,false))⟩,⟨some 92,.bin .gtr (.t 91) (cI 200),(some (88,false))⟩,qO 93 (.pick (.t 88) (.c (.bool true)) (.t 92)),qM 83 93] (jW 83 (sR [jI 2 3] .ret)))) (sR [wF 94 8 1,qL 95 94,jC 96 60 [.t 95],qM 2 96] .ret))))))))
theorem qfR:chkF Tryz.prog Tryz.f13 qfC [.t 2] 97=true:=by kernel_rfl
def qcF:IC:=(sR [qO 2 (.box 42 (.t 0)),qO 3 (.mov (.c (.bool false)))] (sR [wF 4 1 2,qL 5 4,wF 6 1 1,qL 7 6,qT 8 .eql 5 7,qM 3 8] .ret))
theorem qeH:chkF Tryz.prog Tryz.f57 qcF [.t 3] 9=true:=by kernel_rfl
theorem qmk {E:Envt} (x y:AdT):PCall Tryz.prog E 57 [.agg (adC x),.ptr (adC y)] (·=.bool (decide (x.2=y.2))):=by
 simp only [adC]
 refine qag mixed Tryz.func57 qeH ?_
 simp only [a0,l0,OS.ao,XX,Nat.reduceSub,qcF,ZZ,WW,Ze,reduceCtorEq,zd,ze,za,zf,zb]
theorem quI (l:List AdT) (k:Nat):(adrE l).take k=adrE (l.take k):=by simp [adrE,List.map_take]
theorem qio (m:Ltr) (hm:LtB m):PCall Tryz.prog E0 13 [.agg (ltV m)] (·=int (letF m)):=by
 obtain ⟨b1,b2,b3,b4,b5,b6,b7,b8,b9,b10,b11⟩:=hm
 refine qag mixed Tryz.func13 qfR ?_
 refine zV ?_
 simp only [ltV,ZZ,WW,Ze,reduceCtorEq,zd,ze,za,zf,zb]
 refine use1 (qji m.id (by omega)) rfl (.inl rfl) ?_
 refine zS ?_
 refine br ?_ ?_
 ·intro h
  have h1:idB m.id=false:=by simpa using h
  refine zS ?_
  rw [letF,if_pos h1]
 intro h
 have h1:¬ idB m.id=false:=by simpa using h
 refine zS ?_
 refine use1 (qsM m.at_) rfl (.inl rfl) ?_
 refine zS ?_
 refine br ?_ ?_
 ·intro h
  have h2:inE m.at_ 0 5761439=false:=by simpa using h
  refine zS ?_
  rw [letF,if_neg h1,if_pos h2]
 intro h
 have h2:¬ inE m.at_ 0 5761439=false:=by simpa using h
 refine zS ?_
 refine use1 (qhE m.fr.1 m.fr.2 (by omega) (by omega)) rfl (.inl rfl) ?_
 refine zS ?_
 refine br ?_ ?_
 ·intro h
  have h3:adB m.fr=false:=by unfold adB;rwa [Bool.not_eq_true'] at h
  refine zS ?_
  rw [letF,if_neg h1,if_neg h2,if_pos h3]
 intro h
 have h3:¬ adB m.fr=false:=by unfold adB;rw [Bool.not_eq_false'] at h;rw [h];decide
 simp only [ZZ,WW,Ze,reduceCtorEq,zd,ze,za,zf,zb,qaE]
 ((with_reducible and_intros)<;>try exact sc_)
 refine br ?_ ?_
 ·intro h
  have h4:=of_decide_eq_true h
  refine zS ?_
  rw [letF,if_neg h1,if_neg h2,if_neg h3,if_pos h4]
 intro h
 have h4:=of_decide_eq_false h
 have hL:letF m=qaf [qqb (m.tos++m.ccs),qjX m]:=by rw [letF,if_neg h1,if_neg h2,if_neg h3,if_neg h4]
 rw [hL]
 clear hL h
 refine zS ?_
 refine useF (qhR [m.tos,m.ccs] (by simp) (by simp [qhU];omega)) rfl rfl ?_
 rintro es rfl
 rw [cat2]
 have hb:∀ a∈m.tos++m.ccs,a.1.length≤1000000∧a.2.length≤1000000:=fun a ha=>(zr.1 ha).elim (b5 a) (b7 a)
 have hAl:(m.tos++m.ccs).length≤2000000:=by simp;omega
 generalize m.tos++m.ccs=A at *
 simp only [ZZ,WW,Ze,reduceCtorEq,zd,ze,za,zf,zb,qaE]
 rw [qqb]
 have hget:=fun {k:Nat} (h:k < A.length)=>qaK _ k _ (qhG (adF1 A) h)
 generalize hG:(zz A.length).map (adF1 A)=G at *
 have hGl:G.length=A.length:=by rw [← hG];simp
 refine qtS (fun n fr L=>∃ (k:Nat),k≤A.length∧n=A.length - k∧(qaf G=qaf (G.drop k))∧fr=(oo::.adr (.l 1) 0::oo::.p (.sl 2 (adrE A))::oF (oB (.p (.sl 2 (adrE A))::.p (int (A.length:Nat))::.p (int (k:Nat))::oF (oE (oD [])))))∧L=[(.l 1,.box [.p (.str m.id),.p (int m.at_),.p (.str m.fr.1),.p (.str m.fr.2),.p (.sl 2 (adrE m.tos)),.p (.sl 2 (adrE m.ccs)),.p (.sl 1 (strE m.refs)),.p (.str m.sub),.p (.str m.body)] qa4)]) (A.length) _ _ (ReOk.trans (qil (k:=.l 37) rfl) (by simp only [ZZ,WW,Ze,reduceCtorEq,zd,ze,za,zf,zb];exact qer zF_ zE_)) ⟨0,by omega,by omega,by simp,rfl,rfl⟩ ?_
 rintro n fr L ⟨k,hk,rfl,hf,rfl,rfl⟩
 simp only [qcj,ZZ,WW,Ze,reduceCtorEq,zd,ze,za,zf,zb]
 refine br ?_ ?_
 ·intro h
  have hlt:k < A.length:=by have:=of_decide_eq_true h;omega
  obtain ⟨x,hx⟩:∃ x,A[k]?=some x:=⟨_,zh hlt⟩
  have hg:=qjR hx
  have hxd:A.getD k ([],[])=x:=by simp [zy,hx]
  have hbx:=hb x (zl hx)
  have hd:=hget hlt
  have htk:=quI A k
  have he:adF1 A k=qaf [qap (!(qn1 x.1 && qcN x.2)) 3,qap ((A.take k).any (fun p=>decide (p.2=x.2))) 6]:=by rw [adF1,hxd];rfl
  simp only [ZZ,WW,Ze,reduceCtorEq,zd,ze,za,zf,zb,hg,qaE]
  ((with_reducible and_intros)<;>try exact sc_)
  refine use1 (qhE x.1 x.2 (by omega) (by omega)) rfl (.inl rfl) ?_
  refine zS ?_
  refine br ?_ ?_
  ·intro h7
   have hk:adF1 A k=3:=by rw [he,h7];rfl
   refine zS ?_
   rw [qaq,hf,hd,hk]
   rfl
  intro h7
  simp only [ZZ,WW,Ze,reduceCtorEq,zd,ze,za,zf,zb,qaE,htk]
  ((with_reducible and_intros)<;>try exact sc_)
  refine use1 (qk2 (A.take k) 57 [.ptr (adC x)] (fun p=>decide (p.2=x.2)) (by simp;omega) (fun _=>by kernel_rfl) rfl (fun y _=>qmk y x) (fun _=>rfl) (fun _=>rfl)) rfl (.inr rfl) ?_
  refine zS ?_
  refine br ?_ ?_
  ·intro ho
   have hk:adF1 A k=6:=by rw [he,h7,ho];rfl
   refine zS ?_
   rw [qaq,hf,hd,hk]
   rfl
  intro ho
  have hk:adF1 A k=0:=by rw [he,h7,ho];rfl
  refine zS ?_
  ((with_reducible and_intros)<;>try exact sc_)
  refine qab (A.length - (k+1)) _ _ (by omega) zF_ zF_ ⟨k+1,by omega,rfl,by rw [hf,hd,if_pos hk],rfl,rfl⟩
 intro h
 have hge:A.length≤k:=by have:=of_decide_eq_false h;omega
 rw [show qaf [qaf G,qjX m]=qjX m from by rw [qaq,hf,zU (by omega)];rw [qcv,if_pos rfl,qaq,qcv];split<;>rename_i h<;>simp [h]]
 simp only [ZZ,WW,Ze,reduceCtorEq,zd,ze,za,zf,zb,qac]
 refine br ?_ ?_
 ·intro h
  have h5:=of_decide_eq_true h
  refine zS ?_
  rw [qjX,if_pos h5]
 intro h
 have h5:=of_decide_eq_false h
 rw [qjX,if_neg h5]
 clear h hf hget hG hGl
 simp only [ZZ,WW,Ze,reduceCtorEq,zd,ze,za,zf,zb,qac]
 rw [qqw]
 have hget:=fun {k:Nat} (h:k < m.refs.length)=>qaK _ k _ (qhG (qhT m.id m.refs) h)
 generalize hG:(zz m.refs.length).map (qhT m.id m.refs)=R at *
 have hGl:R.length=m.refs.length:=by rw [← hG];simp
 refine qae (fun n fr L=>∃ (j:Nat),j≤m.refs.length∧n=m.refs.length - j∧(qaf R=qaf (R.drop j))∧fr=(oo::.adr (.l 1) 0::oF (oE (oD (oo::(.p (.sl 1 (strE m.refs))::.p (int (m.refs.length:Nat))::.p (int (j:Nat))::oF (oB (oo::[])))))))∧L=[(.l 1,.box [.p (.str m.id),.p (int m.at_),.p (.str m.fr.1),.p (.str m.fr.2),.p (.sl 2 (adrE m.tos)),.p (.sl 2 (adrE m.ccs)),.p (.sl 1 (strE m.refs)),.p (.str m.sub),.p (.str m.body)] qa4)]) (m.refs.length) _ _ (by simp only [ZZ,WW,Ze,reduceCtorEq,zd,ze,za,zf,zb,qac];try trivial) zF_ ⟨0,by omega,by omega,by simp,rfl,rfl⟩ ?_
 rintro n fr L ⟨j,hj,rfl,hf,rfl,rfl⟩
 simp only [qci,ZZ,WW,Ze,reduceCtorEq,zd,ze,za,zf,zb]
 refine br ?_ ?_
 ·intro h
  have hlt:j < m.refs.length:=by have:=of_decide_eq_true h;omega
  obtain ⟨x,hx⟩:∃ x,m.refs[j]?=some x:=⟨_,zh hlt⟩
  have hg:=qaD hx
  have hxd:m.refs.getD j []=x:=by simp [zy,hx]
  have hbx:=b9 x (zl hx)
  have hd:=hget hlt
  have htk:=qo6 m.refs j
  have he:qhT m.id m.refs j=qaf [qap (!idB x) 3,qap (decide (x∈m.refs.take j)) 6,qap (decide (x=m.id)) 14]:=by rw [qhT,hxd]
  simp only [ZZ,WW,Ze,reduceCtorEq,zd,ze,za,zf,zb,hg,qac]
  ((with_reducible and_intros)<;>try exact sc_)
  refine use1 (qji x (by omega)) rfl (.inl rfl) ?_
  refine zS ?_
  refine br ?_ ?_
  ·intro h7
   have hk:qhT m.id m.refs j=3:=by rw [he,h7];rfl
   refine zS ?_
   rw [qaq,hf,hd,hk]
   rfl
  intro h7
  simp only [ZZ,WW,Ze,reduceCtorEq,zd,ze,za,zf,zb,htk,qac]
  ((with_reducible and_intros)<;>try exact sc_)
  refine use1 (qbk _ x (by rw [List.length_take];omega)) rfl (.inl rfl) ?_
  refine zS ?_
  refine br ?_ ?_
  ·intro ho
   have hk:qhT m.id m.refs j=6:=by rw [he,h7,ho];rfl
   refine zS ?_
   rw [qaq,hf,hd,hk]
   rfl
  intro ho
  refine zS ?_
  refine br ?_ ?_
  ·intro hq
   have hk:qhT m.id m.refs j=14:=by rw [he,h7,ho,hq];rfl
   refine zS ?_
   rw [qaq,hf,hd,hk]
   rfl
  intro hq
  have hk:qhT m.id m.refs j=0:=by rw [he,h7,ho,hq];rfl
  refine zS ?_
  ((with_reducible and_intros)<;>try exact sc_)
  refine qab (m.refs.length - (j+1)) _ _ (by omega) zF_ zF_ ⟨j+1,by omega,rfl,by rw [hf,hd,if_pos hk],rfl,rfl⟩
 intro h
 have hge:m.refs.length≤j:=by have:=of_decide_eq_false h;omega
 have hfin:qaf [qaf R,qg3 m.sub,qel m.body]=qaf [qg3 m.sub,qel m.body]:=by rw [qaq,hf,zU (by omega)];rfl
 rw [hfin]
 refine zS ?_
 refine use1 (qnv m.sub (by omega)) rfl (.inl rfl) ?_
 refine zS ?_
 refine ⟨fun h=>by rw [h];rfl,?_⟩
 rw [Bool.or_comm]
 refine br ?_ ?_
 ·intro h
  refine zS ?_
  rw [qaq,qg3,qap,if_pos h]
  rfl
 intro h
 have hs:qg3 m.sub=0:=by rw [qg3,qap,if_neg (by rw [h];decide)]
 refine zS ?_
 refine use1 (qqj m.body (by omega)) rfl (.inl rfl) ?_
 refine zS ?_
 rw [qaq,hs,if_pos rfl,qaq,qcv]
 split
 ·rename_i h;rw [h]
 ·rfl
def qa3:IC:=(sR [qT 9 .lss 8 7] (.seq (jE 9) (.seq (.block 1 (sR [qM 10 8,qM 5 10] (sR [qM 11 1,qM 12 0,qM 13 5,qX 14 9 12 13,qO 15 (.ld 9 true (.t 14)),qO 16 (.callv (.t 11) [.t 15])] (jW 16 (sR [qM 17 5,qM 4 17] .ret))))) (.reg [qB 18 .add 8 (cI 1),qM 8 18]))))
abbrev qcH:IC:=(sR [jI 4 0] (.seq (sR [qM 6 0,qN 7 6,jI 8 0] (.block 0 (.loop qa3))) (sR [jI 4 (-1)] .ret)))
theorem qcJ:chkF Tryz.prog Tryz.f114 qcH [.t 4] 19=true:=by kernel_rfl
abbrev qb4:IC:=(sR [qO 4 (.mov (.c (.bool false)))] (sR [qM 5 0,qM 6 1,jC 7 114 [.t 5,.t 6],qB 8 .geq 7 (cI 0),qM 4 8] .ret))
theorem qb6:chkF Tryz.prog Tryz.f46 qb4 [.t 4] 9=true:=by kernel_rfl
def qch:IC:=(sR [qO 2 (.box 45 (.t 0)),qO 3 (.mov (.c (.bool false)))] (sR [wF 4 0 2,qL 5 4,wF 6 0 1,qL 7 6,qT 8 .eql 5 7,qM 3 8] .ret))
theorem qez:chkF Tryz.prog Tryz.f47 qch [.t 3] 9=true:=by kernel_rfl
def qdl:IC:=(sR [qT 15 .lss 14 13] (.seq (jE 15) (.seq (.block 1 (sR [qX 16 9 12 14,qO 17 (.ld 9 true (.t 16)),qO 6 (.alc 45 [.str [],.int .i64 0,.str [],.str [],.nl 2,.nl 2,.nl 1,.str [],.str []]),qS 9 6 17] (.seq (.seq (.drg [qO 18 (.ld 9 true (.t 6)),qO 19 (.pcall 0 48 [.t 18]),qM 20 3,wF 21 0 6,qL 22 21,qO 23 (.mpl false (.bool false) (.t 20) (.t 22)),qO 24 (.pcall 1 99 [.t 23,.c (.int .i64 6)]),qO 25 (.bsl 1 [.t 19,.t 24]),qO 26 (.pcall 2 38 [.t 25]),qM 7 26]) (sR [qM 27 7,qB 28 .neq 27 (cI 0)] (jW 28 (sR [qM 29 7,qM 2 29] .ret)))) (sR [qM 30 3,wF 31 0 6,qL 32 31,⟨none,.mpu (.t 30) (.t 32) (.c (.bool true)),none⟩] (.reg [qM 33 4,wF 34 8 6,qL 35 34,qO 36 (.sln (.t 35)),qT 37 .add 33 36,qM 4 37]))))) (.reg [qB 38 .add 14 (cI 1),qM 14 38]))))
abbrev qhY:IC:=(sR [jI 2 0] (.seq (sR [qM 8 0,qN 9 8,qB 10 .gtr 9 (cI 2000)] (jW 10 (sR [jI 2 2] .ret))) (sR [qO 11 (.mkm 9 4),qM 3 11] (sR [jI 4 0] (.seq (sR [qM 12 0,qN 13 12,jI 14 0] (.block 0 (.loop qdl))) (sR [qM 39 4,qB 40 .gtr 39 (cI 500000),jC 41 99 [.t 40,.c (.int .i64 2)],qM 2 41] .ret))))))
theorem qia:chkF Tryz.prog Tryz.f40 qhY [.t 2] 42=true:=by kernel_rfl
def qbY:IC:=(sR [qT 33 .lss 32 31] (.seq (.cond (.t 33) .skip (.exit 2)) (.seq (.block 3 (sR [qX 34 9 30 32,qO 35 (.ld 9 true (.t 34)),qO 8 (.alc 45 [.str [],.int .i64 0,.str [],.str [],.nl 2,.nl 2,.nl 1,.str [],.str []]),qS 9 8 35] (.reg [qM 36 6,wF 37 8 8,qL 38 37,qO 39 (.sln (.t 38)),qT 40 .add 36 39,qM 6 40]))) (.reg [qB 41 .add 32 (cI 1),qM 32 41]))))
def qbZ:IC:=(sR [qT 15 .lss 14 13] (.seq (jE 15) (.seq (.block 1 (sR [qM 16 14,qX 17 9 12 14,qO 18 (.ld 9 true (.t 17)),qO 4 (.alc 45 [.str [],.int .i64 0,.str [],.str [],.nl 2,.nl 2,.nl 1,.str [],.str []]),qM 3 16,qS 9 4 18] (.seq (sR [qO 19 (.ld 9 true (.t 4)),jC 20 13 [.t 19],qM 5 20] (sR [qM 21 5,qB 22 .neq 21 (cI 0)] (jW 22 (sR [qM 23 5,qM 2 23] .ret)))) (sR [qM 24 0,qM 25 3,qO 26 (.vsl 9 (.t 24) none (some (.t 25))),qO 27 (.mkf 47 [.t 4]),jC 28 46 [.t 26,.t 27]] (jW 28 (sR [jI 2 6] .ret)))))) (.reg [qB 29 .add 14 (cI 1),qM 14 29]))))
abbrev qe6:IC:=(sR [jI 2 0] (.seq (sR [qM 9 0,qN 10 9,qB 11 .gtr 10 (cI 2000)] (jW 11 (sR [jI 2 2] .ret))) (.seq (sR [qM 12 0,qN 13 12,jI 14 0] (.block 0 (.loop qbZ))) (sR [jI 6 0] (.seq (sR [qM 30 0,qN 31 30,jI 32 0] (.block 2 (.loop qbY))) (.seq (sR [qM 42 6,qB 43 .gtr 42 (cI 500000)] (jW 43 (sR [jI 2 2] .ret))) (sR [jI 2 0] .ret)))))))
theorem qfe:chkF Tryz.prog Tryz.f10 qe6 [.t 2] 44=true:=by kernel_rfl
section
variable {E:Envt}
theorem qoQ (l:List Ltr) (f:FuncId) (ps:List PV) (q:Ltr→Bool) (hl:l.length≤1000000000) (hfn:Unit→fnB Tryz.prog f=true) (hps:Zl [] (ps.map .p)=true) (hf:∀ x∈l,PCall Tryz.prog E f (.agg (ltV x) :: ps) (·=.bool (q x))) (hn:∀ x,Zbh [] (.p (.agg (ltV x)) :: ps.map .p)=some (.agg (ltV x) :: ps)) (hr:∀ x,Zbj (.p (.agg (ltV x)) :: ps.map .p)=true):PCall Tryz.prog E 114 [.sl 9 (ltE l),.clo f ps] (·=int (idxF q l)):=by
 refine qag mixed Tryz.func114 qcJ ?_
 refine zV ?_
 simp only [ZZ,WW,Ze,reduceCtorEq,zd,ze,za,zf,zb,qaS]
 refine qae (fun n fr L=>∃ (k:Nat),k≤l.length∧n=l.length - k∧(∀ x∈l.take k,q x=false)∧fr=(.p (.sl 9 (ltE l))::.p (.clo f ps)::oC (oo::(.p (int (l.length:Nat))::.p (int (k:Nat))::oD (oB []))))∧L=[]) (l.length) _ [] (by simp only [qaS,ZZ,WW,Ze,reduceCtorEq,zd,ze,za,zf,zb];try trivial) zF_ ⟨0,by omega,by omega,by simp,rfl,rfl⟩ ?_
 rintro n fr L ⟨k,hk,rfl,hno,rfl,rfl⟩
 simp only [qa3,ZZ,WW,Ze,reduceCtorEq,zd,ze,za,zf,zb]
 refine br ?_ ?_
 ·intro h
  have hlt:k < l.length:=by have:=of_decide_eq_true h;omega
  obtain ⟨x,hx⟩:∃ x,l[k]?=some x:=⟨_,zh hlt⟩
  have hg:=qf4 hx
  simp only [ltV] at hg
  simp only [ZZ,WW,Ze,reduceCtorEq,zd,ze,za,zf,zb,hg,qaS,hfn ()]
  refine ⟨⟨by omega,by omega⟩,by omega,hps,?_⟩
  refine use1 (hf x (zl hx)) (hn x) (.inl (hr x)) ?_
  refine zS ?_
  refine br ?_ ?_
  ·intro hq
   refine zS ?_
   rw [qle hx hq hno]
  ·intro hq
   refine zS ?_
   ((with_reducible and_intros)<;>try exact sc_)
   refine qab (l.length - (k+1)) _ [] (by omega) zF_ zF_ ⟨k+1,by omega,rfl,by rw [List.take_succ_eq_append_getElem hlt];intro y hy;rcases zr.1 hy with hy|hy;exact hno y hy;rw [List.mem_singleton] at hy;rw [hy,(List.getElem?_eq_some_iff.1 hx).2];exact hq,rfl,rfl⟩
 ·intro h
  have hge:l.length≤k:=by have:=of_decide_eq_false h;omega
  rw [zN hge] at hno
  refine zS ?_
  rw [qjx hno]
theorem qk0 (l:List Ltr) (f:FuncId) (ps:List PV) (q:Ltr→Bool) (hl:l.length≤1000000000) (hfn:Unit→fnB Tryz.prog f=true) (hps:Zl [] (ps.map .p)=true) (hf:∀ x∈l,PCall Tryz.prog E f (.agg (ltV x) :: ps) (·=.bool (q x))) (hn:∀ x,Zbh [] (.p (.agg (ltV x)) :: ps.map .p)=some (.agg (ltV x) :: ps)) (hr:∀ x,Zbj (.p (.agg (ltV x)) :: ps.map .p)=true):PCall Tryz.prog E 46 [.sl 9 (ltE l),.clo f ps] (·=.bool (l.any q)):=by
 refine qag mixed Tryz.func46 qb6 ?_
 refine zV ?_
 refine use1 (qoQ l f ps q hl hfn hps hf hn hr) rfl (.inl rfl) ?_
 refine zS ?_
 rw [qlf]
theorem qkY (x y:Ltr):PCall Tryz.prog E 47 [.agg (ltV x),.ptr (ltV y)] (·=.bool (decide (x.id=y.id))):=by
 simp only [ltV]
 refine qag mixed Tryz.func47 qez ?_
 simp only [a0,l0,OS.ao,XX,Nat.reduceSub,qch,ZZ,WW,Ze,reduceCtorEq,zd,ze,za,zf,zb]
end
def lt0:Ltr:=⟨[],0,([],[]),[],[],[],[],[]⟩
theorem qtP (l:List Ltr) (h:¬ 2000 < (l.length:Int)):ltsF l=qaf [qaf ((zz l.length).map (qhd l lt0)),qap (decide (500000 < (qed l:Int))) 2]:=by rw [ltsF,if_neg h];rfl
theorem qvS (l:List Ltr) (k:Nat):(ltE l).take k=ltE (l.take k):=by simp [ltE,List.map_take]
theorem qoX (l:List Ltr) (hb:∀ m∈l,LtB m):PCall Tryz.prog E0 40 [.sl 9 (ltE l)] (·=int (ltsF l)):=by
 refine qag mixed Tryz.func40 qia ?_
 refine zV ?_
 simp only [ZZ,WW,Ze,reduceCtorEq,zd,ze,za,zf,zb,qaS]
 refine br ?_ ?_
 ·intro h
  have h1:=of_decide_eq_true h
  refine zS ?_
  rw [ltsF,if_pos h1]
 intro h
 have h1:=of_decide_eq_false h
 have hle:l.length≤2000:=by omega
 rw [qtP l h1]
 clear h
 have hbs:=qnq l (fun m hm=>(hb m hm).2.2.2.2.2.2.2.2.2.2)
 simp only [ZZ,WW,Ze,reduceCtorEq,zd,ze,za,zf,zb,qaS]
 have hget:=fun {k:Nat} (h:k < l.length)=>qaK _ k _ (qhG (qhd l lt0) h)
 generalize hG:(zz l.length).map (qhd l lt0)=G at *
 have hGl:G.length=l.length:=by rw [← hG];simp
 refine qae (fun n fr L=>∃ (k:Nat) (kv:List (List UInt8×PV)),k≤l.length∧n=l.length - k∧(qaf G=qaf (G.drop k))∧(qkL kv ((l.take k).map (·.id)))∧fr=(oo::oo::oo::.mp (.l 11)::.p (int (qed (l.take k):Nat))::oC (oB (oo::(.p (.sl 9 (ltE l))::.p (int (l.length:Nat))::.p (int (k:Nat))::oE (oD (oB (oo::[])))))))∧L=[(.l 11,.map kv 9 4)]) (l.length) _ _ (by simp only [ZZ,WW,Ze,reduceCtorEq,zd,ze,za,zf,zb,qaS,List.take_zero];try trivial) zF_ ⟨0,[],by omega,by omega,by simp,qg5,rfl,rfl⟩ ?_
 rintro n fr L ⟨k,kv,hk,rfl,hf,hkv,rfl,rfl⟩
 simp only [qdl,ZZ,WW,Ze,reduceCtorEq,zd,ze,za,zf,zb]
 refine br ?_ ?_
 ·intro h
  have hlt:k < l.length:=by have:=of_decide_eq_true h;omega
  obtain ⟨x,hx⟩:∃ x,l[k]?=some x:=⟨_,zh hlt⟩
  have hg:=qf4 hx
  simp only [ltV] at hg
  have hxd:l.getD k lt0=x:=by simp [zy,hx]
  have hbx:=hb x (zl hx)
  have hd:=hget hlt
  have hs0:=hbs k hk
  have hs1:=hbs (k+1) hlt
  have hsx:=qhv hx
  have hsn:mpD kv x.id (.bool false)=.bool ((l.take k).any (fun p=>decide (p.id=x.id))):=by rw [hkv x.id,quH]
  have he:qaf [letF x,qap ((l.take k).any (fun p=>decide (p.id=x.id))) 6]=qhd l lt0 k:=by rw [qhd,hxd]
  simp only [ZZ,WW,Ze,reduceCtorEq,zd,ze,za,zf,zb,hg,qaS]
  ((with_reducible and_intros)<;>try exact sc_)
  refine drg3 (x1:=int (letF x)) (x2:=int (qap ((l.take k).any (fun p=>decide (p.id=x.id))) 6)) (x3:=int (qhd l lt0 k)) ?_
  simp only [ZZ,WW,Ze,reduceCtorEq,zd,ze,za,zf,zb,hsn]
  ((repeat' (with_reducible apply And.intro))<;>try (first|exact usep (qjS x hbx) rfl (.inl rfl)|exact usep (qbC _ _) rfl (.inl rfl)|(rw [← he];exact usep (qbv [_,_] (by simp)) rfl (.inl rfl))|(exact sc_)))
  refine br ?_ ?_
  ·intro h7
   have:¬ qhd l lt0 k=0:=by simpa using h7
   refine zS ?_
   rw [qaq,hf,hd,if_neg this,if_neg this]
  intro h7
  have:qhd l lt0 k=0:=by simpa using h7
  refine zS ?_
  ((with_reducible and_intros)<;>try exact sc_)
  refine qab (l.length - (k+1)) (oo::oo::oo::.mp (.l 11)::.p (int (qed (l.take (k+1)):Nat))::oC (oB (oo::(.p (.sl 9 (ltE l))::.p (int (l.length:Nat))::.p (int ((k+1):Nat))::oE (oD (oB (oo::[]))))))) [(.l 11,.map (mpS kv x.id (.bool true)) 9 4)] (by omega) (by simp only [hsx,Int.natCast_add,ZZ,WW,Ze,reduceCtorEq,zd,ze,za,zf,zb];try trivial) zF_ ⟨k+1,mpS kv x.id (.bool true),by omega,rfl,by rw [hf,hd,if_pos this],by rw [qdk _ hx];exact qbf hkv x.id,rfl,rfl⟩
 intro h
 have hge:l.length≤k:=by have:=of_decide_eq_false h;omega
 have hkk:l.take k=l:=zN hge
 rw [qaq,hf,zU (by omega),qcv,if_pos rfl,qaq,qcv]
 simp only [ZZ,WW,Ze,reduceCtorEq,zd,ze,za,zf,zb,hkk]
 refine use1 (qbC _ 2) rfl (.inl rfl) ?_
 refine zS ?_
 split
 ·rename_i h;rw [h]
 ·rfl
theorem qmj (l:List Ltr) (hb:∀ m∈l,LtB m):PCall Tryz.prog E0 10 [.sl 9 (ltE l)] (·=int (ltsF l)):=by
 refine qag mixed Tryz.func10 qfe ?_
 refine zV ?_
 simp only [ZZ,WW,Ze,reduceCtorEq,zd,ze,za,zf,zb,qaS]
 refine br ?_ ?_
 ·intro h
  have h1:=of_decide_eq_true h
  refine zS ?_
  rw [ltsF,if_pos h1]
 intro h
 have h1:=of_decide_eq_false h
 have hle:l.length≤2000:=by omega
 rw [qtP l h1]
 clear h
 have hbs:=qnq l (fun m hm=>(hb m hm).2.2.2.2.2.2.2.2.2.2)
 simp only [ZZ,WW,Ze,reduceCtorEq,zd,ze,za,zf,zb,qaS]
 have hget:=fun {k:Nat} (h:k < l.length)=>qaK _ k _ (qhG (qhd l lt0) h)
 generalize hG:(zz l.length).map (qhd l lt0)=G at *
 have hGl:G.length=l.length:=by rw [← hG];simp
 refine qae (fun n fr L=>∃ (k:Nat),k≤l.length∧n=l.length - k∧(qaf G=qaf (G.drop k))∧fr=(.p (.sl 9 (ltE l))::oD (oB (oo::(.p (.sl 9 (ltE l))::.p (int (l.length:Nat))::.p (int (k:Nat))::oE (oD (oC (oo::[])))))))∧L=[]) (l.length) _ [] (by simp only [ZZ,WW,Ze,reduceCtorEq,zd,ze,za,zf,zb,qaS];try trivial) zF_ ⟨0,by omega,by omega,by simp,rfl,rfl⟩ ?_
 rintro n fr L ⟨k,hk,rfl,hf,rfl,rfl⟩
 simp only [qbZ,ZZ,WW,Ze,reduceCtorEq,zd,ze,za,zf,zb]
 refine br ?_ ?_
 ·intro h
  have hlt:k < l.length:=by have:=of_decide_eq_true h;omega
  obtain ⟨x,hx⟩:∃ x,l[k]?=some x:=⟨_,zh hlt⟩
  have hg:=qf4 hx
  simp only [ltV] at hg
  have hxd:l.getD k lt0=x:=by simp [zy,hx]
  have hbx:=hb x (zl hx)
  have hd:=hget hlt
  have htk:=qvS l k
  have he:qhd l lt0 k=qaf [letF x,qap ((l.take k).any (fun p=>decide (p.id=x.id))) 6]:=by rw [qhd,hxd]
  simp only [ZZ,WW,Ze,reduceCtorEq,zd,ze,za,zf,zb,hg,qaS]
  ((with_reducible and_intros)<;>try exact sc_)
  refine use1 (qio x hbx) rfl (.inl rfl) ?_
  refine zS ?_
  refine br ?_ ?_
  ·intro h7
   have h7:¬ letF x=0:=by simpa using h7
   have hk:qhd l lt0 k=letF x:=by rw [he,qaq,if_neg h7]
   refine zS ?_
   rw [qaq,hf,hd,hk,if_neg h7,if_neg h7]
  intro h7
  have h7:letF x=0:=by simpa using h7
  simp only [ZZ,WW,Ze,reduceCtorEq,zd,ze,za,zf,zb,qaS,htk]
  ((with_reducible and_intros)<;>try exact sc_)
  refine use1 (qk0 (l.take k) 47 [.ptr (ltV x)] (fun p=>decide (p.id=x.id)) (by simp;omega) (fun _=>by kernel_rfl) rfl (fun y _=>qkY y x) (fun _=>rfl) (fun _=>rfl)) rfl (.inr rfl) ?_
  refine zS ?_
  refine br ?_ ?_
  ·intro ho
   have hk:qhd l lt0 k=6:=by rw [he,h7,ho];rfl
   refine zS ?_
   rw [qaq,hf,hd,hk]
   rfl
  intro ho
  have hk:qhd l lt0 k=0:=by rw [he,h7,ho];rfl
  refine zS ?_
  ((with_reducible and_intros)<;>try exact sc_)
  refine qab (l.length - (k+1)) _ [] (by omega) zF_ zF_ ⟨k+1,by omega,rfl,by rw [hf,hd,if_pos hk],rfl,rfl⟩
 intro h
 have hge:l.length≤k:=by have:=of_decide_eq_false h;omega
 rw [qaq,hf,zU (by omega),qcv,if_pos rfl,qaq,qcv]
 clear hf hget hG hGl
 simp only [ZZ,WW,Ze,reduceCtorEq,zd,ze,za,zf,zb,qaS]
 refine qae (fun n fr L=>∃ (j:Nat),j≤l.length∧n=l.length - j∧fr=(oC (oB (.p (int (qed (l.take j):Nat))::oE (oC (oB (oo::(.p (.sl 9 (ltE l))::.p (int (l.length:Nat))::.p (int (j:Nat))::oD (oB (oo::[])))))))))∧L=[]) (l.length) _ [] (by simp only [ZZ,WW,Ze,reduceCtorEq,zd,ze,za,zf,zb,qaS,List.take_zero];try trivial) zF_ ⟨0,by omega,by omega,rfl,rfl⟩ ?_
 rintro n fr L ⟨j,hj,rfl,rfl,rfl⟩
 simp only [qbY,ZZ,WW,Ze,reduceCtorEq,zd,ze,za,zf,zb]
 refine br ?_ ?_
 ·intro h
  have hlt:j < l.length:=by have:=of_decide_eq_true h;omega
  obtain ⟨x,hx⟩:∃ x,l[j]?=some x:=⟨_,zh hlt⟩
  have hg:=qf4 hx
  simp only [ltV] at hg
  have hs0:=hbs j hj
  have hs1:=hbs (j+1) hlt
  have hsx:=qhv hx
  simp only [ZZ,WW,Ze,reduceCtorEq,zd,ze,za,zf,zb,hg,qaS]
  ((with_reducible and_intros)<;>try exact sc_)
  refine qab (l.length - (j+1)) _ [] (by omega) (by simp only [hsx,Int.natCast_add,ZZ,WW,Ze,reduceCtorEq,zd,ze,za,zf,zb];try trivial) zF_ ⟨j+1,by omega,rfl,rfl,rfl⟩
 intro h
 have hge:l.length≤j:=by have:=of_decide_eq_false h;omega
 have hkk:l.take j=l:=zN hge
 simp only [ZZ,WW,Ze,reduceCtorEq,zd,ze,za,zf,zb,hkk]
 refine br ?_ ?_
 ·intro h
  have hw:qap (decide (500000 < (qed l:Int))) 2=2:=by rw [qap,if_pos h]
  rw [hw]
  refine zS ?_
  rfl
 ·intro h
  have hw:qap (decide (500000 < (qed l:Int))) 2=0:=by rw [qap,if_neg (by rw [h];decide)]
  rw [hw]
  simp only [ZZ,WW,Ze,reduceCtorEq,zd,ze,za,zf,zb]
abbrev qiF:IC:=(sR [qO 2 (.mov (.c (.nl 1)))] (sR [qM 4 0,jC 5 33 [.t 4],qM 3 5] (sR [qM 6 3,jC 7 147 [.t 6]] (sR [qM 8 3,jC 9 154 [.t 8],qM 2 9] .ret))))
theorem qiX:chkF Tryz.prog Tryz.f81 qiF [.t 2] 10=true:=by kernel_rfl
def qmp (l:List (List UInt8)):List (List UInt8):=Lib.compact (l.mergeSort fun x y=>decide (x≤y))
theorem qte {E:Envt} (l:List (List UInt8)) (hl:l.length≤1000000):PCall Tryz.prog E 81 [.sl 1 (strE l)] (·=.sl 1 (strE (qmp l))):=by
 refine qag mixed Tryz.func81 qiX ?_
 refine zV ?_
 refine useF (qjW (strE l) (by rw [qac];omega)) rfl rfl ?_
 rintro es rfl
 refine zS ?_
 refine useR (qtf tStr l (by omega)) rfl rfl rfl zE_ ?_
 rintro x es ⟨rfl,rfl⟩
 refine zS ?_
 refine qxm 1000 (l.mergeSort fun x y=>decide (x≤y)) (by rw [List.length_mergeSort];omega) rfl ?_
 refine zS ?_
 rfl
theorem qwn (m:List (List UInt8)) (x:List UInt8):x∈Lib.compact m↔x∈m:=by
 unfold Lib.compact Lib.compactUpTo
 simp only [List.mem_map,List.mem_filter,List.mem_range]
 constructor
 ·rintro ⟨j,⟨hj,_⟩,rfl⟩
  rw [getElem!_pos m.toArray j (by simpa using hj)]
  simp
 ·intro hx
  have hlt:m.findIdx (· == x) < m.length:=List.findIdx_lt_length_of_exists ⟨x,hx,by simp⟩
  have hg:m[m.findIdx (· == x)]=x:=by simpa using List.findIdx_getElem (w:=hlt)
  refine ⟨m.findIdx (· == x),⟨hlt,?_⟩,?_⟩
  ·unfold Lib.keeps
   rw [decide_eq_true_iff,getElem!_pos m.toArray _ (by simpa using hlt),getElem!_pos m.toArray (m.findIdx (· == x) - 1) (by simp;omega)]
   simp only [List.getElem_toArray]
   rcases Nat.eq_zero_or_pos (m.findIdx (· == x)) with h0|h0
   ·exact .inl h0
   ·refine .inr fun e=>?_
    have h1:=List.not_of_lt_findIdx (xs:=m) (p:=(· == x)) (i:=m.findIdx (· == x) - 1) (by omega)
    rw [← e,hg] at h1
    simp at h1
  ·rw [getElem!_pos m.toArray _ (by simpa using hlt)]
   simpa using hg
theorem qmX (l:List (List UInt8)) (x:List UInt8):x∈qmp l↔x∈l:=by
 rw [qmp,qwn]
 exact (List.mergeSort_perm l _).mem_iff
theorem qo8 (l:List (List UInt8)):(qmp l).length≤l.length:=by
 have:=qno (l.mergeSort fun x y=>decide (x≤y))
 rw [List.length_mergeSort] at this
 exact this
end Go.Proofs.YtekhobchfhhofaaGreatDoor
namespace Go.Proofs.YtekhobchfhhofaaGreatDoor
section
variable {E:Envt}
end
end Go.Proofs.YtekhobchfhhofaaGreatDoor
namespace Go.Proofs.YtekhobchfhhofaaGreatDoor
open Nat renaming le_refl→zO,reduceAdd→zd,reduceEqDiff→zb,reduceLT→zf,reduceLeDiff→za,reduceMul→ze
open List renaming getD→zy,getElem?_eq_getElem→zh,getElem?_eq_some_iff→zm,getElem?_of_mem→zW,mem_append→zr,mem_of_getElem?→zl,mem_singleton→zD,take_length→ya
open Go.RowKit
def qef:IC:=(sR [qT 19 .lss 18 17] (.seq (jE 19) (.seq (.block 1 (sR [qX 20 2 16 18,qO 21 (.ld 2 true (.t 20)),qO 5 (.alc 42 [.str [],.str []]),qS 2 5 21] (.reg [qM 22 3,wF 23 1 5,qL 24 23,⟨none,.mpu (.t 22) (.t 24) (.c (.bool true)),none⟩]))) (.reg [qB 25 .add 18 (cI 1),qM 18 25]))))
abbrev qj8:IC:=(sR [qO 1 (.box 45 (.t 0)),qO 2 (.mov (.c (.raw (.map none))))] (sR [qO 6 (.mkm 9 4),wF 7 2 1,wF 8 1 7,qL 9 8,⟨none,.mpu (.t 6) (.t 9) (.c (.bool true)),none⟩,qM 10 6,qM 3 10] (.seq (sR [wF 11 4 1,qL 12 11,wF 13 5 1,qL 14 13,qO 15 (.bsl 1 [.t 12,.t 14]),jC 16 55 [.t 15],qN 17 16,jI 18 0] (.block 0 (.loop qef))) (sR [qM 26 3,qM 2 26] .ret))))
theorem qki:chkF Tryz.prog Tryz.f121 qj8 [.t 2] 27=true:=by kernel_rfl
def qcV:IC:=(sR [qT 18 .lss 17 16] (.seq (jE 18) (.seq (.block 1 (sR [qX 19 2 15 17,qO 20 (.ld 2 true (.t 19)),qO 5 (.alc 42 [.str [],.str []]),qS 2 5 20] (.reg [qM 21 3,wF 22 1 5,qL 23 22,qO 24 (.bsl 1 [.t 23]),qO 25 (.app 9 1 16 (.t 21) (.t 24)),qM 3 25]))) (.reg [qB 26 .add 17 (cI 1),qM 17 26]))))
abbrev qgN:IC:=(sR [qO 1 (.box 45 (.t 0)),qO 2 (.mov (.c (.nl 1)))] (sR [wF 6 2 1,wF 7 1 6,qL 8 7,qO 9 (.bsr 9 1 [.t 8]),qM 3 9] (.seq (sR [wF 10 4 1,qL 11 10,wF 12 5 1,qL 13 12,qO 14 (.bsl 1 [.t 11,.t 13]),jC 15 55 [.t 14],qN 16 15,jI 17 0] (.block 0 (.loop qcV))) (sR [qM 27 3,⟨none,.fz (.t 27),none⟩,jC 28 81 [.t 27],qM 2 28] .ret))))
theorem qgX:chkF Tryz.prog Tryz.f61 qgN [.t 2] 29=true:=by kernel_rfl
theorem qkH {E:Envt} (m:Ltr) (hm:LtB m):PCall Tryz.prog E 61 [.agg (ltV m)] (·=.sl 1 (strE (qmp (qj2 m)))):=by
 obtain ⟨b1,b2,b3,b4,b5,b6,b7,b8,b9,b10,b11⟩:=hm
 refine qag mixed Tryz.func61 qgX ?_
 refine zV ?_
 simp only [ltV,ZZ,WW,Ze,reduceCtorEq,zd,ze,za,zf,zb]
 refine useF (qhR [m.tos,m.ccs] (by simp) (by simp [qhU];omega)) rfl rfl ?_
 rintro es rfl
 rw [cat2]
 have hAl:(m.tos++m.ccs).length≤200000:=by simp;omega
 unfold qj2
 generalize m.tos++m.ccs=A at *
 simp only [ZZ,WW,Ze,reduceCtorEq,zd,ze,za,zf,zb,qaE]
 have hR0:[[PV.str m.fr.2]]=strE (m.fr.2 :: (A.take 0).map (·.2)):=rfl
 rw [hR0]
 refine qae (fun n fr L=>∃ (k:Nat),k≤A.length∧n=A.length - k∧fr=(oo::oo::oo::.row (.l 9)::oD (oB (oo::(.row (.l 15)::.p (int (A.length:Nat))::.p (int (k:Nat))::oD (oB (oo::[]))))))∧L=[(.l 9,.row (strE (m.fr.2 :: (A.take k).map (·.2))) 9 1 true),(.l 15,.row (adrE A) tAdr 2 true)]) (A.length) _ _ (by simp only [ZZ,WW,Ze,reduceCtorEq,zd,ze,za,zf,zb,qaE];try trivial) zF_ ⟨0,by omega,by omega,rfl,rfl⟩ ?_
 rintro n fr L ⟨k,hk,rfl,rfl,rfl⟩
 simp only [qcV,ZZ,WW,Ze,reduceCtorEq,zd,ze,za,zf,zb]
 refine br ?_ ?_
 ·intro h
  have hlt:k < A.length:=by have:=of_decide_eq_true h;omega
  obtain ⟨x,hx⟩:∃ x,A[k]?=some x:=⟨_,zh hlt⟩
  have hg:=qjR hx
  have hq:strE (m.fr.2 :: (A.take k).map (·.2))++[[PV.str x.2]]=strE (m.fr.2 :: (A.take (k+1)).map (·.2)):=by rw [qdk _ hx,← List.cons_append,qdO];rfl
  have hql:(m.fr.2 :: (A.take k).map (·.2)).length=k+1:=by simp;omega
  simp only [ZZ,WW,Ze,reduceCtorEq,zd,ze,za,zf,zb,hg,qaE]
  simp only [qac,hql,ZZ,WW,Ze,reduceCtorEq,zd,ze,za,zf,zb]
  ((with_reducible and_intros)<;>try exact sc_)
  rw [hq]
  refine qab (A.length - (k+1)) _ _ (by omega) zF_ zF_ ⟨k+1,by omega,rfl,rfl,rfl⟩
 intro h
 have hge:A.length≤k:=by have:=of_decide_eq_false h;omega
 rw [List.take_of_length_le hge]
 refine zS ?_
 refine use1 (qte _ (by simp;omega)) rfl (.inl rfl) ?_
 simp only [ZZ,WW,Ze,reduceCtorEq,zd,ze,za,zf,zb]
def inE1 (l:List Int):List (List PV):=l.map fun x=>[int x]
theorem qe0 (l:List Int):(inE1 l).length=l.length:=by simp [inE1]
theorem qv5 (l:List Int) (x:Int):inE1 l++[[int x]]=inE1 (l++[x]):=by simp [inE1]
abbrev qiz:IC:=(sR [qO 1 (.box 70 (.t 0)),qO 2 (.mov (.c (.bool false)))] (sR [wF 3 2 1,qL 4 3,qB 5 .eql 4 (cI 1),qM 6 5,⟨some 7,.fla 2 (.t 1),(some (6,false))⟩,⟨some 8,.ld 1 false (.t 7),(some (6,false))⟩,⟨some 9,.bin .eql (.t 8) (cI 3),(some (6,false))⟩,qO 10 (.pick (.t 6) (.c (.bool true)) (.t 9)),qM 2 10] .ret))
theorem qiR:chkF Tryz.prog Tryz.f101 qiz [.t 2] 11=true:=by kernel_rfl
abbrev qh4:IC:=(sR [qO 2 (.box 30 (.t 0)),qO 4 (.mov (.c (.bool false)))] (sR [wF 8 0 2,qL 9 8,wF 10 1 2,qL 11 10,qM 12 1,jC 13 133 [.t 9,.t 11,.t 12],qM 7 13,qO 14 (.ext 0 (.t 7)),qO 15 (.ext 1 (.t 7)),qO 5 (.alc 70 [.str [],.int .i64 0,.int .i64 0]),qS 3 5 14,qM 6 15] (sR [qM 16 6,qM 17 16,⟨some 18,.fla 2 (.t 5),(some (17,true))⟩,⟨some 19,.ld 1 false (.t 18),(some (17,true))⟩,⟨some 20,.bin .eql (.t 19) (cI 1),(some (17,true))⟩,⟨some 21,.mov (.t 20),(some (17,true))⟩,⟨some 22,.fla 2 (.t 5),(some (21,false))⟩,⟨some 23,.ld 1 false (.t 22),(some (21,false))⟩,⟨some 24,.bin .eql (.t 23) (cI 3),(some (21,false))⟩,⟨some 25,.pick (.t 21) (.c (.bool true)) (.t 24),(some (17,true))⟩,qO 26 (.pick (.t 17) (.t 25) (.c (.bool false))),qM 4 26] .ret)))
theorem qig:chkF Tryz.prog Tryz.f63 qh4 [.t 4] 27=true:=by kernel_rfl
abbrev qh2:IC:=(sR [qO 2 (.box 30 (.t 0)),jI 4 0] (sR [wF 8 0 2,qL 9 8,wF 10 1 2,qL 11 10,qM 12 1,jC 13 133 [.t 9,.t 11,.t 12],qM 7 13,qO 14 (.ext 0 (.t 7)),qO 15 (.ext 1 (.t 7)),qO 5 (.alc 70 [.str [],.int .i64 0,.int .i64 0]),qS 3 5 14,qM 6 15] (.seq (.block 0 (sR [wF 17 3 2,qL 18 17,qM 19 1,jC 20 58 [.t 18,.t 19],qM 16 20] (.cond (.t 16) (sR [jI 4 1] .ret) (sR [qM 22 6,qO 23 (.not (.t 22)),qM 24 23,⟨some 25,.fla 1 (.t 5),(some (24,false))⟩,⟨some 26,.ld 1 false (.t 25),(some (24,false))⟩,⟨some 27,.bin .neq (.t 26) (cI 1),(some (24,false))⟩,qO 28 (.pick (.t 24) (.c (.bool true)) (.t 27)),qM 21 28] (jW 21 (sR [jI 4 2] .ret)))))) (sR [jI 4 0] .ret))))
theorem qie:chkF Tryz.prog Tryz.f62 qh2 [.t 4] 29=true:=by kernel_rfl
def lawB (p:Par):Bool:=decide (p.2.2=1) || decide (p.2.2=3)
theorem qpC {E:Envt} (p:Par):PCall Tryz.prog E 101 [.agg [.str p.1,int p.2.1,int p.2.2]] (·=.bool (lawB p)):=by
 refine qag mixed Tryz.func101 qiR ?_
 refine zV ?_
 exact ⟨fun h=>by rw [h];rfl,rfl⟩
def strg (P D:List Par) (x:List UInt8):Bool:=!(qbo P D x).2 || !decide ((qbo P D x).1.2.1=1)
def lawy (P D:List Par) (x:List UInt8):Bool:=lawB (qbo P D x).1
def outF (P D:List Par) (X:List (List UInt8)) (x:List UInt8):Int:=if x∈X then 1 else if strg P D x=true then 2 else 0
theorem qty {P D:List Par} {x:List UInt8} (h:(qbo P D x).2=false):(qbo P D x).1=p00:=by
 unfold qbo at h ⊢
 cases h1:qfb P x with
 |some p=>rw [h1] at h;cases h
 |none=>
  rw [h1] at h
  cases h2:refD D (qkh x).length (qkh x) with
  |some d=>simp only [h2] at h;cases h
  |none=>rfl
theorem qsB (P D:List Par) (Ts X:List (List UInt8)) (x:List UInt8) (hB:CB P D Ts X) (hx:x.length≤1000000):PCall Tryz.prog E0 63 [.agg (cirV P D Ts X),.str x] (·=.bool (lawy P D x)):=by
 have hno:=qty (P:=P) (D:=D) (x:=x)
 refine qag mixed Tryz.func63 qig ?_
 refine zV ?_
 simp only [cirV,ZZ,WW,Ze,reduceCtorEq,zd,ze,za,zf,zb]
 refine use1 (qm4 P D x hB.h1 hB.h3 hB.h4 hx) rfl (.inl rfl) ?_
 unfold lawy
 generalize qbo P D x=q at *
 simp only [parA,par]
 refine zS ?_
 cases hq:q.2 with
 |true=>simp [lawB]
 |false=>simp [hno hq,lawB,p00]
theorem qm7 (P D:List Par) (Ts X:List (List UInt8)) (x:List UInt8) (hB:CB P D Ts X) (hx:x.length≤1000000):PCall Tryz.prog E0 62 [.agg (cirV P D Ts X),.str x] (·=int (outF P D X x)):=by
 have hXl:=hB.h7
 refine qag mixed Tryz.func62 qie ?_
 refine zV ?_
 simp only [cirV,ZZ,WW,Ze,reduceCtorEq,zd,ze,za,zf,zb]
 refine use1 (qm4 P D x hB.h1 hB.h3 hB.h4 hx) rfl (.inl rfl) ?_
 unfold outF strg
 generalize qbo P D x=q at *
 simp only [parA,par]
 refine zS ?_
 refine use1 (qbk X x (by omega)) rfl (.inl rfl) ?_
 refine zS ?_
 refine br ?_ ?_
 ·intro h
  refine zS ?_
  rw [if_pos (of_decide_eq_true h)]
 intro h
 rw [if_neg (of_decide_eq_false h)]
 refine zS ?_
 refine ⟨fun h=>by rw [h];rfl,?_⟩
 refine br ?_ ?_
 ·intro h
  refine zS ?_
  rw [if_pos h]
 intro h
 refine zS ?_
 rw [if_neg (by rw [h];decide)]
def ownT (m:Ltr):List UInt8:=ownS (ownF (qao m.body) (qao m.body).length)
def parT (m:Ltr):List (List UInt8):=endR (stR (qao m.body) (qao m.body).length).1 (stR (qao m.body) (qao m.body).length).2.1
def mkB (Ts:List (List UInt8)) (s:List UInt8):Bool:=decide (0 < ((qew Ts s).length:Int))
def qx5 (Ts:List (List UInt8)) (m:Ltr):Bool:=mkB Ts m.sub || mkB Ts (ownT m)
def ptsS (m:Ltr):List (List UInt8):=qmp (qj2 m)
def qkW (P D:List Par) (Ts X:List (List UInt8)) (m:Ltr):Int×Int:=
 if (ptsS m).any (fun x=>decide (x∈X))=true then (1,1)
 else if (ptsS m).any (strg P D)=true then (1,2)
 else if (ptsS m).any (lawy P D)=false then (1,3)
 else if (lawy P D m.fr.2 || qx5 Ts m)=true then (3,4)
 else if (parT m).any (mkB Ts)=true then (2,5) else (1,6)
def cldV (P D:List Par) (Ts X:List (List UInt8)) (m:Ltr):List PV:=[.str m.id,int (qkW P D Ts X m).1,int (qkW P D Ts X m).2]
def qhb (P D:List Par) (X:List (List UInt8)) (m:Ltr) (k:Nat):List (List UInt8):=((ptsS m).take k).filter fun x=>decide (x∈X) || strg P D x
theorem qvD (l:List (List UInt8)):∀ k,k≤l.length→wgt (ownF l k)≤wgt (l.take k):=by
 intro k
 induction k with
 |zero=>intro _;simp [ownF,wgt]
 |succ k ih=>
  intro hk
  obtain ⟨x,hx⟩:∃ x,l[k]?=some x:=⟨_,zh (by omega)⟩
  have h1:=ih (by omega)
  have h2:=qei hx
  have h3:=qfZ hx
  rw [qlE]
  split
  ·rw [qqm]
   simp only [wgt]
   omega
  ·omega
theorem qrz (m:Ltr):(ownT m).length≤m.body.length+2:=by
 unfold ownT ownS
 split
 ·simp
 ·have h1:=qn7 10 ((ownF (qao m.body) (qao m.body).length).take (endB (ownF (qao m.body) (qao m.body).length) (ownF (qao m.body) (qao m.body).length).length))
  have h2:=qdf (endB (ownF (qao m.body) (qao m.body).length) (ownF (qao m.body) (qao m.body).length).length) (ownF (qao m.body) (qao m.body).length)
  have h3:=qvD (qao m.body) (qao m.body).length (zO _)
  have h4:=qiq m.body
  rw [ya] at h3
  simp only [List.length_append,List.length_cons,List.length_nil]
  omega
theorem qxv (l:List (List UInt8)):∀ k,k≤l.length→∀ x∈(stR l k).1,x.length≤wgt l:=by
 intro k
 induction k with
 |zero=>intro _ x hx;simp [stR] at hx
 |succ k ih=>
  intro hk x hx
  rw [stR] at hx
  simp only at hx
  split at hx
  ·unfold endR at hx
   split at hx
   ·rcases zr.1 hx with hx|hx
    ·exact ih (by omega) x hx
    ·rw [zD] at hx
     subst hx
     exact Nat.le_trans (qqp l k (by omega)) (qdf k l)
   ·exact ih (by omega) x hx
  ·exact ih (by omega) x hx
theorem qrw (m:Ltr):∀ x∈parT m,x.length≤m.body.length+1:=by
 intro x hx
 have h4:=qiq m.body
 have h5:=qxv (qao m.body) (qao m.body).length (zO _)
 have h6:=qqp (qao m.body) (qao m.body).length (zO _)
 rw [ya] at h6
 unfold parT endR at hx
 split at hx
 ·rcases zr.1 hx with hx|hx
  ·have:=h5 x hx;omega
  ·rw [zD] at hx;subst hx;omega
 ·have:=h5 x hx;omega
theorem qrx (m:Ltr):(parT m).length≤m.body.length+1:=by
 have h1:=qs8 (qao m.body) (qao m.body).length
 have h2:=(qft m.body).1
 unfold parT endR
 split
 ·simp;omega
 ·omega
theorem qjh {m:Ltr} (hm:LtB m):(ptsS m).length≤1000000:=by
 obtain ⟨b1,b2,b3,b4,b5,b6,b7,b8,b9,b10,b11⟩:=hm
 have h1:=qo8 (qj2 m)
 have h2:(qj2 m).length=m.tos.length+m.ccs.length+1:=by simp [qj2]
 unfold ptsS
 omega
theorem qk9 {m:Ltr} (hm:LtB m):∀ x∈ptsS m,x.length≤1000000:=by
 obtain ⟨b1,b2,b3,b4,b5,b6,b7,b8,b9,b10,b11⟩:=hm
 intro s hs
 have hs:=(qmX (qj2 m) s).1 hs
 rcases List.mem_cons.1 hs with rfl|hs
 ·omega
 ·obtain ⟨a,ha,rfl⟩:=List.mem_map.1 hs
  rcases zr.1 ha with ha|ha
  ·exact (b5 a ha).2
  ·exact (b7 a ha).2
theorem qfu {m:Ltr} (h:letF m=0):m.sub.length≤200∧qel m.body=0:=by
 unfold letF at h
 split at h
 ·cases h
 ·split at h
  ·cases h
  ·split at h
   ·cases h
   ·split at h
    ·cases h
    ·have h1:=qaI h (qjX m) (by simp)
     unfold qjX at h1
     split at h1
     ·cases h1
     ·have h2:=qaI h1 (qg3 m.sub) (by simp)
      have h3:=qaI h1 (qel m.body) (by simp)
      have h4:=qfm (by decide) h2
      simp only [Bool.or_eq_false_iff,decide_eq_false_iff_not] at h4
      exact ⟨by omega,h3⟩
theorem qz8:qcN (xAt [])=false:=by decide +kernel
theorem qpO {l:List Par} (h:qbu l=0):(∀ d∈l,d.1≠[])∧∀ d∈l,∀ e∈l,d.1=e.1→d=e:=by
 have hE:∀ k,k < l.length→qbm l k=0:=by
  unfold qbu at h
  split at h
  ·cases h
  ·exact fun k hk=>qaI h _ (zl (qeO (qbm l) hk))
 have hno:∀ (i k:Nat) (d e:Par),i < k→l[i]?=some d→l[k]?=some e→d.1≠e.1:=by
  intro i k d e hik hd he hn
  have hk:=(zm.1 he).1
  have h2:=qfm (by decide) (qaI (hE k hk) (qap (qik l k) 6) (by simp))
  rw [qik,List.any_eq_false] at h2
  refine h2 d ?_ ?_
  ·exact zl (show (l.take k)[i]?=some d by rw [List.getElem?_take,if_pos hik];exact hd)
  ·simp [zy,he,hn]
 refine ⟨fun d hd hn=>?_,fun d hd e he hn=>?_⟩
 ·obtain ⟨k,hk⟩:=zW hd
  have h1:=qfm (by decide) (qaI (hE k (zm.1 hk).1) (qap (!qcN (xAt (l.getD k p00).1)) 3) (by simp))
  have:l.getD k p00=d:=by simp [zy,hk]
  rw [this,hn,qz8] at h1
  cases h1
 ·obtain ⟨i,hi⟩:=zW hd
  obtain ⟨k,hk⟩:=zW he
  rcases Nat.lt_trichotomy i k with h1|h1|h1
  ·exact absurd hn (hno i k d e h1 hi hk)
  ·subst h1;rw [hi] at hk;cases hk;rfl
  ·exact absurd hn.symm (hno k i e d h1 hk hi)
theorem ql5 {P D:List Par} {Ts X:List (List UInt8)} (h:cirF P D Ts X=0):qku P∧(∀ x,qm5 P D x=qbo P D x)∧SrtS X:=by
 unfold cirF at h
 split at h
 ·rename_i h4
  have hd:=qpO (qaI h4 (qbu D) (by simp))
  refine ⟨qnW (qaI h4 (qb8 P) (by simp)),fun x=>qsg x hd.1 hd.2,qu7 fun a p q hp hq=>?_⟩
  have hl:=(zm.1 hq).1
  have h1:=qaI h (pubE X (a+1)) (List.mem_map.2 ⟨a+1,by simpa using hl,rfl⟩)
  have h2:=qfm (by decide) (qaI h1 (qap (decide (0 < a+1) && leS (X.getD (a+1) []) (X.getD (a+1 - 1) [])) 7) (by simp))
  have e1:X.getD (a+1) []=q:=by simp [zy,hq]
  have e2:X.getD (a+1 - 1) []=p:=by simp [zy,hp]
  rw [e1,e2,decide_eq_true (show 0 < a+1 by omega),Bool.true_and,leS] at h2
  simp only [bytesLess,bytesLess_eq,Bool.or_eq_false_iff,decide_eq_false_iff_not] at h2
  rcases List.le_iff_lt_or_eq.1 (List.not_lt.1 h2.1) with h|h
  ·exact h
  ·exact absurd h.symm h2.2
 ·rename_i h4
  exact absurd h h4
theorem qlH (ts:List (List UInt8)) (t:List UInt8) (hl:ts.length≤1000000) (hb:∀ x∈ts,x.length≤25000) (ht:t.length≤25000):PCall Tryz.prog E0 103 [.sl 1 (strE ts),.str t] (·=.sl 1 (strE (qew ts t))):=qvN ts t hl hb ht
theorem qgr (ts:List (List UInt8)) (t:List UInt8) (hl:ts.length≤1000000) (hb:∀ x∈ts,x.length≤25000) (ht:t.length≤25000):PCall Tryz.prog E0 67 [.sl 1 (strE ts),.str t] (·=.sl 1 (strE (qew ts t))):=qsN ts t hl hb ht
end Go.Proofs.YtekhobchfhhofaaGreatDoor
namespace Go.Proofs.YtekhobchfhhofaaGreatDoor
open List renaming map_cons→zA
open Go.Lib Go.MapKept Go.Maps Go.RowKit Go.Shelf Go.Sort
open Go.WideElems (Fit rd rg pl rd_val)
def Rz:Value→Option (DataW Unit×List MemPlace):=fun _=>some (.nil,[])
theorem qrJ (x:Lit×DataW Unit):∀ l,(DataW.insert x l).Perm (x :: l)
 |[]=>List.Perm.refl _
 |y :: r=>by
  rw [DataW.insert]
  split
  ·exact List.Perm.refl _
  ·exact ((qrJ x r).cons y).trans (List.Perm.swap x y r)
theorem qlV:∀ l:List (Lit×DataW Unit),(l.foldr DataW.insert []).Perm l
 |[]=>List.Perm.refl _
 |x :: r=>(qrJ x _).trans ((qlV r).cons x)
theorem qv0 {w:World} {b:Nat} {ks:List (List UInt8)} {ents:Array MapEntry} {clock:Nat} (hb:w.heap[b]?=some (.map ents clock)) (hm:qzo ks ents clock) (hk:∀ k∈ks,k.length≤maxLen) (hn:ks.length≤maxLen) :
  ∃ D:DataW Unit,w.ownsMap Tryz.prog 9 Rz b ks.length D∧(strKeys D).Perm ks∧Maps.size D=ks.length:=by
 obtain ⟨h1,h2⟩:=hm
 have hsz:ents.size=ks.length:=by
  have:=congrArg List.length h1
  simpa using this
 have hkey:∀ x∈ents.toList,∃ s∈ks,x.key=.string ⟨s.toArray⟩:=by
  intro x hx
  have:x.key∈ents.toList.map (·.key):=List.mem_map_of_mem hx
  rw [h1] at this
  obtain ⟨s,hs,e⟩:=List.mem_map.1 this
  exact ⟨s,hs,e.symm⟩
 have hrd:∀ x∈ents.toList,∀ s∈ks,x.key=.string ⟨s.toArray⟩→WideElems.rd (H:=Unit) Tryz.prog 9 Rz x=some (Lit.string s,DataW.nil):=by
  intro x hx s hs e
  have:=WideMaps.keyOf_string_mk (P:=Tryz.prog) (k:=9) (s:=⟨s.toArray⟩) Tryz.underlying9 (by have:=hk s hs;simpa [ByteArray.size] using this)
  simp only [WideElems.rd,e,this,Rz,Option.bind_some,Option.map_some]
 refine ⟨_,⟨ents,clock,hb,⟨by omega,h2,fun x hx=>?_⟩,by omega,rfl⟩,?_,?_⟩
 ·obtain ⟨s,hs,e⟩:=hkey x hx
  exact ⟨_,hrd x hx s hs e⟩
 ·simp only [strKeys]
  refine ((qlV _).map _).trans ?_
  rw [List.map_map]
  have:∀ (es:List MapEntry) (ks':List (List UInt8)),(∀ x∈es,x∈ents.toList)→(∀ k∈ks',k∈ks)→es.map (·.key)=ks'.map (fun s=>Value.string ⟨s.toArray⟩)→es.map ((fun p:Lit×DataW Unit=>strOf p.1) ∘ rg Tryz.prog 9 Rz)=ks':=by
   intro es
   induction es with
   |nil=>intro ks' _ _ h;cases ks' with|nil=>rfl|cons k r=>simp at h
   |cons x r ih=>
    intro ks' h1 h2 h
    cases ks' with
    |nil=>simp at h
    |cons k r'=>
     simp only [zA,List.cons.injEq] at h
     have e:=hrd x (h1 x (by simp)) k (h2 k (by simp)) h.1
     rw [zA,ih r' (fun y hy=>h1 y (by simp [hy])) (fun y hy=>h2 y (by simp [hy])) h.2]
     simp only [Function.comp_apply,rg,e,Option.getD_some,strOf]
  exact List.Perm.of_eq (this ents.toList ks (fun _ h=>h) (fun _ h=>h) h1)
 ·rw [Maps.size_eq,(qlV _).length_eq,List.length_map]
  simpa using hsz
set_option maxRecDepth 100000 in
theorem qqc {E:Envt} (ks:List (List UInt8)) (vs0:List PV) (hn:ks.length≤100000000) (hk:∀ k∈ks,k.length≤1000000000) :
  PCall Tryz.prog E 71 [.clo 179 [.ptr [.mpv ks vs0]]] (·=.sl 1 (strE (ks.mergeSort fun x y=>decide (x≤y)))):=by
 intro w U vs hU hE hEb hA
 simp only [PRepL,PRep,PRepC] at hA
 obtain ⟨v,r,rfl,⟨cs,rfl,vp,rp,rfl,⟨Bm,rfl,hBm,hUm,⟨vm,hcm,_,b,rfl,hbl,hUb,ents,clock,hb,hm,hv⟩,_⟩,rfl⟩,rfl⟩:=hA
 obtain ⟨D,hown,hperm,hsize⟩:=qv0 hb hm (fun k h=>by have:=hk k h;unfold maxLen;omega) (by unfold maxLen;omega)
 have hfk:fnB Tryz.prog 179=true:=by kernel_rfl
 have hfs:fnB Tryz.prog 147=true:=by kernel_rfl
 have hseq:=AnyZ.keys_gives Tryz.layKeysItB Fence.wide (6 - 1 - 1 - 1) trivial rfl (by decide) Bm b ks.length D w hBm hcm hown
 have hsort:AnyZ.SortsIn Tryz.prog Tryz.laySorted_ren Fence.wide (6 - 1):=⟨fun blk off cap ss W hH hblk hsz=>callsIn_wide.2 (AnyM.slices_Sort_string Tryz.laySort blk off cap ss W hH hblk hsz),fun p cap W=>callsIn_wide.2 (AnyM.slices_Sort_string_none Tryz.laySort p cap W)⟩
 have hc:=callsIn_wide.1 (AnyZ.sorted_in Tryz.laySorted Fence.wide 6 trivial trivial trivial trivial rfl (by decide) hsort (fun args w=>qfr hfs args w) 179 #[.pointer (some ⟨Bm,0,none⟩)] trivial (fun args w=>qfr hfk args w) _ (Maps.size D) (by rw [hsize];unfold maxLen;omega) (by rw [hsize];omega) w hseq)
 refine hc.mono ?_
 rintro e w' ⟨v,ss,rfl,hS,hrow,hnil,hbw⟩
 have hms:(ss.mergeSort fun x y=>decide (x≤y))=ks.mergeSort fun x y=>decide (x≤y):=mergeSort_of_perm (hS.trans hperm)
 have hsl:ss.length=ks.length:=(hS.trans hperm).length_eq
 rw [hms] at hrow
 refine ⟨v,_,rfl,rfl,?_,qfI hbw⟩
 have hml:(ks.mergeSort fun x y=>decide (x≤y)).length=ss.length:=by rw [List.length_mergeSort,hsl]
 generalize (ks.mergeSort fun x y=>decide (x≤y))=m at *
 rcases hrow.2 with ⟨rfl,hz⟩|⟨g,cap,cur,rfl,hbase,hg,hn1,hc1,hcs,htk⟩
 ·have:m=[]:=List.eq_nil_of_length_eq_zero (by omega)
  subst this
  exact ⟨none,0,rfl,by simp [strE],fun h=>absurd rfl h⟩
 ·refine ⟨some ⟨g,0,none⟩,cap,by rw [qac,hml],by rw [qac,hml];exact hn1,fun _=>⟨g,0,rfl,(Array.getElem?_eq_some_iff.1 hg).1,fun h=>by have:=hU g h;omega,?_⟩⟩
  refine qnJ m 0 fun i u hu=>?_
  have:=hrow.cells (g:=g) rfl i u hu
  rw [Nat.zero_add]
  rwa [show ({ block:=g,off:=0,spot:=none }:Addr).add i=⟨g,i,none⟩ from by cases i<;>simp [Addr.add]] at this
theorem qwS {E:Envt} (ks:List (List UInt8)) (vs0:List PV):PCall Tryz.prog E 120 [.mpv ks vs0] (·=.clo 179 [.ptr [.mpv ks vs0]]):=by
 intro w U vs hU hE hEb hA
 simp only [PRepL,PRep] at hA
 obtain ⟨v,r,rfl,⟨b,rfl,hbl,hUb,ents,clock,hb,hm,hv⟩,rfl⟩:=hA
 have hc:=callsIn_wide.1 (AnyZ.keys_in Tryz.layKeysB Fence.wide 6 trivial rfl (some b) w)
 refine hc.mono ?_
 rintro e w' ⟨rfl,rfl⟩
 have hk:Keeps w (w.alloc (.cells #[.map (some b)] (Tryz.layKeysB_ren.t 23))) U U:=qlM w U _
 refine ⟨_,_,rfl,rfl,?_,qbQ w _ _⟩
 refine ⟨[.pointer (some ⟨w.heap.size,0,none⟩)],rfl,_,_,rfl,⟨w.heap.size,rfl,by simp,fun h=>by have:=hU _ h;omega,⟨.map (some b),?_,rfl,?_⟩,trivial⟩,rfl⟩
 ·rw [Lib.cell_of_heap (heap_alloc_new w _)]
  rfl
 ·exact PRep.mono hk (.mpv ks vs0) _ ⟨b,rfl,hbl,hUb,ents,clock,hb,hm,hv⟩
end Go.Proofs.YtekhobchfhhofaaGreatDoor
namespace Go.Proofs.YtekhobchfhhofaaGreatDoor
open Nat renaming reduceAdd→zd,reduceEqDiff→zb,reduceLT→zf,reduceLeDiff→za,reduceMul→ze
open List renaming getElem?_eq_getElem→zh,mem_append→zr,mem_cons→zo,mem_of_getElem?→zl,mem_singleton→zD,take_of_length_le→zN
open Go.RowKit
theorem qAb {a b c:List UInt8} (h1:a≤b) (h2:b≤c):a≤c:=List.le_trans h1 h2
theorem qxc {a b:List UInt8} (h1:a≤b) (h2:b≤a):a=b:=List.le_antisymm h1 h2
theorem qqq (l:List (List UInt8)):(l.mergeSort fun x y=>decide (x≤y)).Pairwise (fun x y=>x≤y):=by
 have:=List.pairwise_mergeSort (le:=fun x y:List UInt8=>decide (x≤y)) (fun a b c h1 h2=>by simp only [decide_eq_true_eq] at *;exact qAb h1 h2) (fun a b=>by simp only [Bool.or_eq_true,decide_eq_true_eq];exact List.le_total a b) l
 exact this.imp fun h=>of_decide_eq_true h
theorem qo7 {a b:List (List UInt8)} (ha:a.Pairwise (fun x y=>x≤y)) (hb:b.Pairwise (fun x y=>x≤y)) (na:a.Nodup) (nb:b.Nodup) (hm:∀ x,x∈a↔x∈b):a=b:=
 List.Perm.eq_of_pairwise (le:=fun x y:List UInt8=>x≤y) (fun x y _ _ h1 h2=>qxc h1 h2) ha hb ((List.perm_ext_iff_of_nodup na nb).2 hm)
theorem qsC (m:List (List UInt8)) (j:Nat) (hj:j < m.length):Lib.keeps m.toArray j=true↔j=0∨m[j]≠m[j - 1]'(by omega):=by
 unfold Lib.keeps
 rw [decide_eq_true_iff,getElem!_pos m.toArray j (by simpa using hj),getElem!_pos m.toArray (j - 1) (by simp;omega)]
 simp
theorem qup {m:List (List UInt8)} (hp:m.Pairwise (fun x y=>x≤y)):(Lib.compact m).Pairwise (fun x y=>x≤y∧x≠y):=by
 unfold Lib.compact Lib.compactUpTo
 rw [List.pairwise_map]
 have hr:((List.range m.length).filter (Lib.keeps m.toArray)).Pairwise (fun i j=>i < j):=List.pairwise_lt_range.sublist List.filter_sublist
 refine hr.imp_of_mem ?_
 intro i j hi hj hij
 simp only [List.mem_filter,List.mem_range] at hi hj
 rw [getElem!_pos m.toArray i (by simpa using hi.1),getElem!_pos m.toArray j (by simpa using hj.1)]
 simp only [List.getElem_toArray]
 rw [List.pairwise_iff_getElem] at hp
 have h1:=hp i j hi.1 hj.1 hij
 refine ⟨h1,fun e=>?_⟩
 have h2:=((qsC m j hj.1).1 hj.2).resolve_left (by omega)
 rcases Nat.lt_or_ge i (j - 1) with h3|h3
 ·have a1:=hp i (j - 1) hi.1 (by omega) h3
  have a2:=hp (j - 1) j (by omega) hj.1 (by omega)
  rw [← e] at a2
  exact h2 (e ▸ qxc a1 a2)
 ·have:i=j - 1:=by omega
  subst this
  exact h2 e.symm
theorem qtg (l:List (List UInt8)):(qmp l).Pairwise (fun x y=>x≤y):=(qup (qqq l)).imp fun h=>h.1
theorem qth (l:List (List UInt8)):(qmp l).Nodup:=by
 rw [List.nodup_iff_pairwise_ne]
 exact (qup (qqq l)).imp fun h=>h.2
def kysW (kv:List (List UInt8×PV)):List (List UInt8):=kv.map (·.1)
theorem qn4:∀ (kv:List (List UInt8×PV)) (s:List UInt8) (v:PV),kysW (mpS kv s v)=if s∈kysW kv then kysW kv else kysW kv++[s]
 |[],s,v=>by simp [mpS,kysW]
 |p :: r,s,v=>by
  simp only [mpS]
  by_cases h:p.1=s
  ·rw [if_pos h]
   simp [kysW,h]
  ·rw [if_neg h]
   have ih:=qn4 r s v
   have h2:¬ s=p.1:=fun e=>h e.symm
   simp only [kysW,List.map_cons,zo,h2,false_or] at ih ⊢
   rw [ih]
   by_cases hs:s∈List.map (fun x:List UInt8×PV=>x.1) r<;>simp [hs]
def KysI (kv:List (List UInt8×PV)) (W:List (List UInt8)):Prop:=(kysW kv).Nodup∧∀ x,x∈kysW kv↔x∈W
theorem KysI.nil:KysI [] []:=⟨by simp [kysW],fun x=>by simp [kysW]⟩
theorem KysI.put {kv:List (List UInt8×PV)} {W:List (List UInt8)} (h:KysI kv W) (s:List UInt8) (v:PV):KysI (mpS kv s v) (W++[s]):=by
 obtain ⟨h1,h2⟩:=h
 refine ⟨?_,fun x=>?_⟩
 ·rw [qn4]
  split
  ·exact h1
  ·rename_i hs
   rw [List.nodup_append]
   exact ⟨h1,by simp,by intro a ha b hb;simp at hb;subst hb;rintro rfl;exact hs ha⟩
 ·rw [qn4]
  split
  ·rename_i hs
   rw [h2,zr,zD]
   constructor
   ·exact .inl
   ·rintro (h|rfl)
    ·exact h
    ·exact (h2 x).1 hs
  ·rw [zr,zr,h2]
theorem KysI.sorted {kv:List (List UInt8×PV)} {W:List (List UInt8)} (h:KysI kv W):((kysW kv).mergeSort fun x y=>decide (x≤y))=qmp W:=by
 refine qo7 (qqq _) (qtg _) ((List.mergeSort_perm _ _).nodup_iff.2 h.1) (qth _) fun x=>?_
 rw [(List.mergeSort_perm _ _).mem_iff,h.2,qmX]
theorem KysI.len {kv:List (List UInt8×PV)} {W:List (List UInt8)} (h:KysI kv W):kv.length≤W.length:=by
 have h1:=congrArg List.length h.sorted
 rw [List.length_mergeSort] at h1
 have h2:=qo8 W
 have h3:(kysW kv).length=kv.length:=by simp [kysW]
 omega
theorem qsa {P:Program} {w w':World} {n:String} {g:Nat} (hg:P.globalNamed n=some g) (hb:w'.heap[g]?=w.heap[g]?):w'.var? P n=w.var? P n:=by
 simp only [World.var?,hg,Option.bind_some,hb]
def E6:Envt where
 ok w:=E0.ok w∧Lib.TabIs Tryz.prog w "strings.asciiSpace" .u8 Lib.asciiSpaceTab
 bl b:=E0.bl b∨b=3
 mono w w' hb h:=⟨E0.mono w w' (fun b hbb=>hb b (.inl hbb)) h.1,(qsa (by kernel_rfl) (hb _ (.inr rfl))).trans h.2⟩
theorem qB1 {w:World} (h:E6.ok w):Lib.TabIs Tryz.prog w "strings.asciiSpace" .u8 Lib.asciiSpaceTab:=h.2
theorem up6 {f:FuncId} {args:List PV} {φ:PV→Prop} (h:PCall Tryz.prog E0 f args φ):PCall Tryz.prog E6 f args φ:=fun w U vs hU hE hEb hA=>h w U vs hU hE.1 (fun c hc=>hEb c (.inl hc)) hA
theorem qrs {w:World} {U:Nat→Prop} {b:Nat}:∀ (l:List (List UInt8)) (off:Nat),(∀ i x,l[i]?=some x→w.cell? ⟨b,off+i,none⟩=some (.string ⟨x.toArray⟩))→PRepE w U b 1 off (strE l)
 |[],off,h=>trivial
 |x :: r,off,h=>by
  refine ⟨rfl,⟨⟨.string ⟨x.toArray⟩,by simpa using h 0 _ rfl,rfl,rfl⟩,trivial⟩,qrs r (off+1) fun i u hu=>?_⟩
  have:=h (i+1) u (by simpa using hu)
  rwa [show off+(i+1)=off+1+i from by omega] at this
theorem qsP (s:List UInt8) (hs:s.length≤1000000) (ha:s.all (fun b=>decide (b.toNat < 128))=true):PCall Tryz.prog E6 162 [.str s] (·=.sl 1 (strE (Lib.fields s))):=by
 intro w U vs hU hE hEb hA
 have:vs=[.string ⟨s.toArray⟩]:=(PRepL.valD rfl).1 hA
 subst this
 have hdt:(⟨s.toArray⟩:ByteArray).data.toList=s:=by simp
 refine (Any.strings_Fields_laid Tryz.layFields ⟨s.toArray⟩ w (by rw [qee];omega) (fun j b hb=>of_decide_eq_true (List.all_eq_true.1 ha b (zl (by simpa using hb)))) (qB1 hE)).mono ?_
 rw [hdt]
 rintro e w' ⟨rfl,rfl⟩
 refine ⟨_,_,rfl,rfl,?_,⟨rfl,rfl,rfl,by simp,fun k hk _=>Lib.alloc_old w _ k hk⟩⟩
 refine ⟨some ⟨w.heap.size,0,none⟩,(Lib.fields s).length,by rw [qac],by rw [qac];exact Nat.le_refl _,fun _=>⟨w.heap.size,0,rfl,by simp,fun h=>by have:=hU _ h;omega,?_⟩⟩
 refine qrs _ 0 fun i x hx=>?_
 rw [Lib.cell_of_heap (heap_alloc_new w _)]
 simp [hx]
abbrev qj9:IC:=(sR [qO 1 (.box 45 (.t 0)),qO 2 (.mov (.c (.nl 1))),jI 3 0] (.seq (sR [qO 5 (.ld 9 true (.t 1)),jC 6 48 [.t 5],qM 4 6] (sR [qM 7 4,qB 8 .neq 7 (cI 0)] (jW 8 (sR [qM 9 4,qO 2 (.mov (.c (.nl 1))),qM 3 9] .ret)))) (sR [qO 10 (.ld 9 true (.t 1)),jC 11 121 [.t 10],jC 12 120 [.t 11],jC 13 71 [.t 12],qM 2 13,jI 3 0] .ret)))
theorem qkj:chkF Tryz.prog Tryz.f49 qj9 [.t 2,.t 3] 14=true:=by kernel_rfl
theorem qqB {E:Envt} (m:Ltr) (hm:LtB m):PCall Tryz.prog E 121 [.agg (ltV m)] (fun x=>∃ kv:List (List UInt8×PV),x=.mpv (kv.map (·.1)) (kv.map (·.2))∧KysI kv (qj2 m)):=by
 obtain ⟨b1,b2,b3,b4,b5,b6,b7,b8,b9,b10,b11⟩:=hm
 refine qag mixed Tryz.func121 qki ?_
 refine zV ?_
 simp only [ltV,ZZ,WW,Ze,reduceCtorEq,zd,ze,za,zf,zb]
 refine useF (qhR [m.tos,m.ccs] (by simp) (by simp [qhU];omega)) rfl rfl ?_
 rintro es rfl
 rw [cat2]
 have hAl:(m.tos++m.ccs).length≤200000:=by simp;omega
 unfold qj2
 generalize m.tos++m.ccs=A at *
 simp only [ZZ,WW,Ze,reduceCtorEq,zd,ze,za,zf,zb,qaE]
 refine qae (fun n fr L=>∃ (k:Nat) (kv:List (List UInt8×PV)),k≤A.length∧n=A.length - k∧(KysI kv (m.fr.2 :: (A.take k).map (·.2)))∧fr=(oo::oo::oo::.mp (.l 6)::oD (oC (.row (.l 16)::.p (int (A.length:Nat))::.p (int (k:Nat))::oD [])))∧L=[(.l 6,.map kv 9 4),(.l 16,.row (adrE A) tAdr 2 true)]) (A.length) _ _ (by simp only [ZZ,WW,Ze,reduceCtorEq,zd,ze,za,zf,zb,qaE];try trivial) zF_ ⟨0,mpS [] m.fr.2 (.bool true),by omega,by omega,by simpa using KysI.nil.put m.fr.2 (.bool true),rfl,rfl⟩ ?_
 rintro n fr L ⟨k,kv,hk,rfl,hkv,rfl,rfl⟩
 simp only [qef,ZZ,WW,Ze,reduceCtorEq,zd,ze,za,zf,zb]
 refine br ?_ ?_
 ·intro h
  have hlt:k < A.length:=by have:=of_decide_eq_true h;omega
  obtain ⟨x,hx⟩:∃ x,A[k]?=some x:=⟨_,zh hlt⟩
  have hg:=qjR hx
  simp only [ZZ,WW,Ze,reduceCtorEq,zd,ze,za,zf,zb,hg,qaE]
  ((with_reducible and_intros)<;>try exact sc_)
  refine qab (A.length - (k+1)) (oo::oo::oo::.mp (.l 6)::oD (oC (.row (.l 16)::.p (int (A.length:Nat))::.p (int ((k+1):Nat))::oD []))) [(.l 6,.map (mpS kv x.2 (.bool true)) 9 4),(.l 16,.row (adrE A) tAdr 2 true)] (by omega) zF_ zF_ ⟨k+1,mpS kv x.2 (.bool true),by omega,rfl,by rw [qdk _ hx];exact hkv.put x.2 (.bool true),rfl,rfl⟩
 intro h
 have hge:A.length≤k:=by have:=of_decide_eq_false h;omega
 rw [zN hge] at hkv
 refine zS ?_
 exact ⟨kv,rfl,hkv⟩
theorem qsL (m:Ltr) (hm:LtB m):PCall Tryz.prog E6 49 [.agg (ltV m)] (·=.tup [.sl 1 (strE (if letF m=0 then qmp (qj2 m) else [])),int (letF m)]):=by
 have hlen:∀ s∈qj2 m,s.length≤1000000000:=by
  obtain ⟨b1,b2,b3,b4,b5,b6,b7,b8,b9,b10,b11⟩:=hm
  intro s hs
  rcases zo.1 hs with rfl|hs
  ·omega
  ·obtain ⟨a,ha,rfl⟩:=List.mem_map.1 hs
   rcases zr.1 ha with ha|ha
   ·have:=(b5 a ha).2;omega
   ·have:=(b7 a ha).2;omega
 have hpl:(qj2 m).length≤1000000:=by
  obtain ⟨b1,b2,b3,b4,b5,b6,b7,b8,b9,b10,b11⟩:=hm
  simp [qj2]
  omega
 refine qag mixed Tryz.func49 qkj ?_
 refine zV ?_
 simp only [ltV,ZZ,WW,Ze,reduceCtorEq,zd,ze,za,zf,zb]
 refine use1 (up6 (qjS m hm)) rfl (.inl rfl) ?_
 refine zS ?_
 refine br ?_ ?_
 ·intro h
  have h0:¬ letF m=0:=by simpa using h
  refine zS ?_
  simp [h0,strE]
 intro h
 have h0:letF m=0:=by simpa using h
 refine zS ?_
 refine use (qqB m hm) rfl (.inl rfl) ?_
 rintro _ ⟨kv,rfl,hkv⟩
 have hks:=hkv.sorted
 have hks2:∀ s∈kv.map (·.1),s.length≤1000000000:=fun s hs=>hlen s ((hkv.2 s).1 hs)
 refine zS ?_
 refine use1 (qwS (kv.map (·.1)) (kv.map (·.2))) rfl (.inl rfl) ?_
 refine zS ?_
 refine use1 (qqc (kv.map (·.1)) (kv.map (·.2)) (by have:=hkv.len;simp;omega) hks2) rfl (.inl rfl) ?_
 unfold kysW at hks
 rw [hks]
 refine zS ?_
 rw [if_pos h0,h0]
section
variable {E:Envt}
theorem qoP (l:List (List UInt8)) (f:FuncId) (ps:List PV) (q:List UInt8→Bool) (hl:l.length≤1000000000) (hfn:Unit→fnB Tryz.prog f=true) (hps:Zl [] (ps.map .p)=true) (hf:∀ x∈l,PCall Tryz.prog E f (.str x :: ps) (·=.bool (q x))) (hn:∀ x,Zbh [] (.p (.str x) :: ps.map .p)=some (.str x :: ps)) (hr:∀ x,Zbj (.p (.str x) :: ps.map .p)=true):PCall Tryz.prog E 134 [.sl 1 (strE l),.clo f ps] (·=int (idxF q l)):=by
 refine qag mixed Tryz.func134 qdx ?_
 refine zV ?_
 simp only [ZZ,WW,Ze,reduceCtorEq,zd,ze,za,zf,zb,qac]
 refine qae (fun n fr L=>∃ (k:Nat),k≤l.length∧n=l.length - k∧(∀ x∈l.take k,q x=false)∧fr=(.p (.sl 1 (strE l))::.p (.clo f ps)::oC (oo::(.p (int (l.length:Nat))::.p (int (k:Nat))::oD (oB []))))∧L=[]) (l.length) _ [] (by simp only [qac,ZZ,WW,Ze,reduceCtorEq,zd,ze,za,zf,zb];try trivial) zF_ ⟨0,by omega,by omega,by simp,rfl,rfl⟩ ?_
 rintro n fr L ⟨k,hk,rfl,hno,rfl,rfl⟩
 simp only [qbe,ZZ,WW,Ze,reduceCtorEq,zd,ze,za,zf,zb]
 refine br ?_ ?_
 ·intro h
  have hlt:k < l.length:=by have:=of_decide_eq_true h;omega
  obtain ⟨x,hx⟩:∃ x,l[k]?=some x:=⟨_,zh hlt⟩
  have hg:=qaD hx
  simp only [ZZ,WW,Ze,reduceCtorEq,zd,ze,za,zf,zb,hg,qac,hfn ()]
  refine ⟨⟨by omega,by omega⟩,by omega,hps,?_⟩
  refine use1 (hf x (zl hx)) (hn x) (.inl (hr x)) ?_
  refine zS ?_
  refine br ?_ ?_
  ·intro hq
   refine zS ?_
   rw [qle hx hq hno]
  ·intro hq
   refine zS ?_
   ((with_reducible and_intros)<;>try exact sc_)
   refine qab (l.length - (k+1)) _ [] (by omega) zF_ zF_ ⟨k+1,by omega,rfl,by rw [List.take_succ_eq_append_getElem hlt];intro y hy;rcases zr.1 hy with hy|hy;exact hno y hy;rw [zD] at hy;rw [hy,(List.getElem?_eq_some_iff.1 hx).2];exact hq,rfl,rfl⟩
 ·intro h
  have hge:l.length≤k:=by have:=of_decide_eq_false h;omega
  rw [zN hge] at hno
  refine zS ?_
  rw [qjx hno]
theorem qgE (l:List (List UInt8)) (f:FuncId) (ps:List PV) (q:List UInt8→Bool) (hl:l.length≤1000000000) (hfn:Unit→fnB Tryz.prog f=true) (hps:Zl [] (ps.map .p)=true) (hf:∀ x∈l,PCall Tryz.prog E f (.str x :: ps) (·=.bool (q x))) (hn:∀ x,Zbh [] (.p (.str x) :: ps.map .p)=some (.str x :: ps)) (hr:∀ x,Zbj (.p (.str x) :: ps.map .p)=true):PCall Tryz.prog E 64 [.sl 1 (strE l),.clo f ps] (·=.bool (l.any q)):=by
 refine qag mixed Tryz.func64 qcW ?_
 refine zV ?_
 refine use1 (qoP l f ps q hl hfn hps hf hn hr) rfl (.inl rfl) ?_
 refine zS ?_
 rw [qlf]
end
end Go.Proofs.YtekhobchfhhofaaGreatDoor
