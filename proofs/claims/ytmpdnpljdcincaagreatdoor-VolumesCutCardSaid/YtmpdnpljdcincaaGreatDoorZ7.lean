import Derived.Test.YtmpdnpljdcincaaGreatDoorZ5
import Derived.Test.YtmpdnpljdcincaaGreatDoorLayValid
import Derived.Test.YtmpdnpljdcincaaGreatDoorLayIndex
import Derived.Test.YtmpdnpljdcincaaGreatDoorRep
import Derived.Test.YtmpdnpljdcincaaGreatDoorLayIndexByte
set_option linter.unusedVariables false
set_option linter.unusedSimpArgs false
set_option linter.defProp false
namespace Go.Proofs.YtmpdnpljdcincaaGreatDoor
open Nat renaming reduceAdd→zd,reduceEqDiff→za,reduceLT→zf,reduceLeDiff→zb,reduceMul→ze
open List renaming drop_eq_nil_of_le→zL,getD→zu,getElem?_eq_getElem→zg,getElem?_eq_none→zO,getElem?_map→zt,getElem?_range→zX,mem_of_getElem?→zm,range→zA
def qcg:IC:=(sR [qT 19 .lss 18 17] (.seq (jE 19) (.seq (.block 1 (sR [qM 20 18,qX 21 2 16 18,qO 22 (.ld 2 true (.t 21)),qO 6 (.alc 166 [.int .i64 0,.int .i64 0]),qM 5 20,qS 2 6 22] (.seq (sR [qF 23 0 6,qL 24 23,qB 25 .lss 24 (cI 0),qM 26 25,⟨some 27,.fla 0 (.t 6),(some (26,false))⟩,⟨some 28,.ld 1 false (.t 27),(some (26,false))⟩,⟨some 29,.fla 1 (.t 6),(some (26,false))⟩,⟨some 30,.ld 1 false (.t 29),(some (26,false))⟩,⟨some 31,.bin .geq (.t 28) (.t 30),(some (26,false))⟩,qO 32 (.pick (.t 26) (.c (.bool true)) (.t 31)),qM 33 32,⟨some 34,.fla 1 (.t 6),(some (33,false))⟩,⟨some 35,.ld 1 false (.t 34),(some (33,false))⟩,⟨some 36,.mov (.t 1),(some (33,false))⟩,⟨some 37,.bin .gtr (.t 35) (.t 36),(some (33,false))⟩,qO 38 (.pick (.t 33) (.c (.bool true)) (.t 37))] (jW 38 (sR [jI 4 1] .ret))) (.seq (.drg [qM 39 5,qB 40 .gtr 39 (cI 0),qM 41 40,⟨some 42,.fla 0 (.t 6),(some (41,true))⟩,⟨some 43,.ld 1 false (.t 42),(some (41,true))⟩,⟨some 44,.mov (.t 0),(some (41,true))⟩,⟨some 45,.mov (.t 5),(some (41,true))⟩,⟨some 46,.bin .sub (.t 45) (cI 1),(some (41,true))⟩,⟨some 47,.ixa 2 (.t 44) (.t 46),(some (41,true))⟩,⟨some 48,.fla 1 (.t 47),(some (41,true))⟩,⟨some 49,.ld 1 false (.t 48),(some (41,true))⟩,⟨some 50,.bin .leq (.t 43) (.t 49),(some (41,true))⟩,qO 51 (.pick (.t 41) (.t 50) (.c (.bool false)))]) (jW 51 (sR [jI 4 7] .ret)))))) (.reg [qB 52 .add 18 (cI 1),qM 18 52]))))
abbrev qf0:IC:=(sR [jI 4 0] (.seq (sR [qM 7 1,qB 8 .lss 7 (cI 0),qM 9 8,⟨some 10,.mov (.t 1),(some (9,false))⟩,⟨some 11,.bin .gtr (.t 10) (cI 200000),(some (9,false))⟩,qO 12 (.pick (.t 9) (.c (.bool true)) (.t 11))] (jW 12 (sR [jI 4 1] .ret))) (.seq (sR [qM 13 0,qN 14 13,qB 15 .gtr 14 (cI 1000)] (jW 15 (sR [jI 4 2] .ret))) (.seq (sR [qM 16 0,qN 17 16,jI 18 0] (.block 0 (.loop qcg))) (sR [jI 4 0] .ret)))))
theorem qgd:chkF Tryz.prog Tryz.f194 qf0 [.t 4] 53=true:=by kernel_rfl
def qdq:IC:=(sR [qT 9 .lss 8 7] (.seq (jE 9) (.seq (.block 1 (sR [qX 10 1 6 8,qL 11 10,qM 5 11] (sR [qM 12 5,qM 13 3,qT 14 .neq 12 13] (jW 14 (sR [qM 15 5,qM 2 15] .ret))))) (.reg [qB 16 .add 8 (cI 1),qM 8 16]))))
abbrev qik:IC:=(sR [jI 2 0] (sR [jI 3 0] (.seq (sR [qM 6 0,qN 7 6,jI 8 0] (.block 0 (.loop qdq))) (sR [qM 17 3,qM 2 17] .ret))))
theorem qiw:chkF Tryz.prog Tryz.f147 qik [.t 2] 18=true:=by kernel_rfl
def spn (p:Int×Int):List PV:=[int p.1,int p.2]
def sps (l:List (Int×Int)):PV:=.sl 2 (l.map spn)
section
variable {E:Envt}
def badS (size:Int) (p:Int×Int):Bool:=decide (p.1 < 0) || decide (p.2≤p.1) || decide (size < p.2)
def qnG (size:Int) (l:List (Int×Int)) (k:Nat):Int:=
 if badS size (l.getD k (0,0))=true then 1 else if 0 < k∧(l.getD k (0,0)).1≤(l.getD (k - 1) (0,0)).2 then 7 else 0
def qfs (l:List (Int×Int)) (size:Int):Int:=
 if size < 0∨200000 < size then 1 else if 1000 < l.length then 2 else qai ((zA l.length).map (qnG size l))
theorem qpg (size:Int) (l:List (Int×Int)) {k:Nat} (h:k < l.length):((zA l.length).map (qnG size l))[k]?=some (qnG size l k):=by
 rw [zt,zX h];rfl
theorem qn4 (l:List (Int×Int)) (size:Int) (hl:l.length≤1000000):PCall Tryz.prog E 194 [sps l,int size] (·=int (qfs l size)):=by
 refine qag mixed Tryz.func194 qgd ?_
 refine zV ?_
 simp only [sps,ZZ,WW,Zd,reduceCtorEq,zd,ze,zb,zf,za]
 generalize hes:l.map spn=es
 have hln:es.length=l.length:=by rw [← hes];simp
 refine ⟨by simp,?_⟩
 refine br ?_ ?_
 ·intro h
  refine zS ?_
  have:size < 0∨200000 < size:=by simpa using h
  simp [qfs,this]
 intro h
 have hsz:¬ (size < 0∨200000 < size):=by simpa using h
 refine zS ?_
 refine br ?_ ?_
 ·intro h
  refine zS ?_
  have:1000 < l.length:=by have:=of_decide_eq_true h;omega
  simp [qfs,hsz,this]
 intro h
 have hle:¬ 1000 < l.length:=by have:=of_decide_eq_false h;omega
 refine zS ?_
 have hF:qfs l size=qai ((zA l.length).map (qnG size l)):=by simp [qfs,hsz,hle]
 rw [hF]
 have hget:=fun {k:Nat} (h:k < l.length)=>qba _ k _ (qpg size l h)
 generalize hG:(zA l.length).map (qnG size l)=G at *
 have hGl:G.length=l.length:=by rw [← hG];simp
 refine qac (fun n fr L=>∃ k:Nat,k≤l.length∧n=l.length - k∧qai G=qai (G.drop k)∧fr=(.p (.sl 2 es)::.p (int size)::oD (oC (oB (.p (.sl 2 es)::.p (int (es.length:Nat))::.p (int (k:Nat))::oF (oB [])))))∧L=[]) l.length _ [] zF_ zE_ ⟨0,by omega,by omega,rfl,rfl,rfl⟩ ?_
 rintro n fr L ⟨k,hk,rfl,hf,rfl,rfl⟩
 simp only [qcg,ZZ,WW,Zd,reduceCtorEq,zd,ze,zb,zf,za]
 refine br ?_ ?_
 ·intro h
  have hlt:k < l.length:=by have:=of_decide_eq_true h;omega
  obtain ⟨x,hx⟩:∃ x,l[k]?=some x:=⟨_,zg hlt⟩
  have hg:es.getD k []=spn x:=by rw [← hes];exact qao hx
  have hd:=hget hlt
  have hxd:l.getD k (0,0)=x:=by simp [zu,hx]
  simp only [ZZ,WW,Zd,reduceCtorEq,zd,ze,zb,zf,za,hg,spn]
  ((with_reducible and_intros)<;>try exact sc_)
  obtain ⟨y,hy⟩:∃ y,l[k - 1]?=some y:=⟨_,zg (by omega)⟩
  have hg2:es.getD (k - 1) []=spn y:=by rw [← hes];exact qao hy
  have hyd:l.getD (k - 1) (0,0)=y:=by simp [zu,hy]
  have hn1:((k:Int) - 1).toNat=k - 1:=by omega
  have he:qnG size l k=if (decide (x.1 < 0) || decide (x.2≤x.1) || decide (size < x.2))=true then 1 else if 0 < k∧x.1≤y.2 then 7 else 0:=by simp only [qnG,badS,hxd,hyd]
  refine br ?_ ?_
  ·intro hb
   refine zS ?_
   rw [hf,hd,he,if_pos hb]
   rfl
  intro hb
  rw [if_neg (by rw [hb];simp)] at he
  refine zS ?_
  refine drg0 ?_
  simp only [ZZ,WW,Zd,reduceCtorEq,zd,ze,zb,zf,za,hn1,hg2,spn]
  ((with_reducible and_intros)<;>try exact sc_)
  refine br ?_ ?_
  ·intro h7
   have:0 < k∧x.1≤y.2:=by simpa using h7
   refine zS ?_
   rw [hf,hd,he,if_pos this]
   rfl
  intro h7
  have:¬ (0 < k∧x.1≤y.2):=by simpa using h7
  refine zS ?_
  refine ⟨qal (by omega) (by omega),?_⟩
  refine qab (l.length - (k+1)) _ [] (by omega) zF_ zE_ ⟨k+1,by omega,rfl,by rw [hf,hd,he,if_neg this];rfl,rfl,rfl⟩
 ·intro h
  have hge:l.length≤k:=by have:=of_decide_eq_false h;omega
  refine zS ?_
  rw [hf,zL (by omega)]
  rfl
theorem qCY (l:List Int) (hl:l.length≤1000000):PCall Tryz.prog E 147 [ints l] (·=int (qai l)):=by
 refine qag mixed Tryz.func147 qiw ?_
 refine zV ?_
 simp only [ints,ZZ,WW,Zd,reduceCtorEq,zd,ze,zb,zf,za]
 generalize hes:l.map (fun x=>[PV.int IntKind.i64 x])=es
 have hln:es.length=l.length:=by rw [← hes];simp
 refine qac (fun n fr L=>∃ k:Nat,k≤l.length∧n=l.length - k∧qai l=qai (l.drop k)∧fr=(.p (.sl 1 es)::oo::oo::.p (int 0)::oo::oo::.p (.sl 1 es)::.p (int (es.length:Nat))::.p (int (k:Nat))::oD (oo::[]))∧L=[]) l.length _ [] zF_ zE_ ⟨0,by omega,by omega,rfl,rfl,rfl⟩ ?_
 rintro n fr L ⟨k,hk,rfl,hf,rfl,rfl⟩
 simp only [qdq,ZZ,WW,Zd,reduceCtorEq,zd,ze,zb,zf,za]
 refine br ?_ ?_
 ·intro h
  have hlt:k < l.length:=by have:=of_decide_eq_true h;omega
  obtain ⟨x,hx⟩:∃ x,l[k]?=some x:=⟨_,zg hlt⟩
  have hg:es.getD k []=[PV.int .i64 x]:=by rw [← hes];exact qao hx
  have hd:=qba l k x hx
  simp only [ZZ,WW,Zd,reduceCtorEq,zd,ze,zb,zf,za,hg]
  ((with_reducible and_intros)<;>try exact sc_)
  refine br ?_ ?_
  ·intro h2
   refine zS ?_
   rw [hf,hd,if_neg (by simpa using h2)]
  ·intro h2
   refine zS ?_
   refine ⟨qal (by omega) (by omega),?_⟩
   refine qab (l.length - (k+1)) _ [] (by omega) zF_ zE_ ⟨k+1,by omega,rfl,by rw [hf,hd,if_pos (by simpa using h2)],rfl,rfl⟩
 ·intro h
  have hge:l.length≤k:=by have:=of_decide_eq_false h;omega
  refine zS ?_
  rw [hf,zL hge]
  rfl
end
section
variable {E:Envt}
end
def qbC:IC:=(sR [qT 12 .lss 11 10] (.seq (jE 12) (.seq (.block 1 (sR [qM 13 6,qM 14 0,qO 15 (.bsl 1 [.c (.int .i64 0),.c (.int .i64 1),.c (.int .i64 2),.c (.int .i64 5)]),jC 16 19 [.t 14,.t 15],qT 17 .add 13 16,qM 7 17] (sR [qM 18 7,qM 19 0,qO 20 (.bsl 1 [.c (.int .i64 1),.c (.int .i64 1),.c (.int .i64 2),.c (.int .i64 4),.c (.int .i64 9)]),jC 21 19 [.t 19,.t 20],qT 22 .add 18 21,qM 8 22] (.seq (sR [qM 23 8,qM 24 1,qT 25 .gtr 23 24] (jW 25 (.exit 0))) (sR [qM 26 5,qM 27 7,qM 28 8,qO 29 (.bld [.int .i64 0,.int .i64 0] [(0,1,.t 27),(1,1,.t 28)]),qO 30 (.bsl 2 [.t 29]),qO 31 (.app 166 2 16 (.t 26) (.t 30)),qM 5 31] (.reg [qM 32 8,qB 33 .add 32 (cI 1),qM 6 33])))))) (.reg [qB 34 .add 11 (cI 1),qM 11 34]))))
abbrev qeu:IC:=(sR [qO 4 (.mov (.c (.nl 2)))] (sR [qO 5 (.nilr 166 2)] (sR [jI 6 0] (.seq (sR [qM 9 0,jC 10 29 [.t 9,.c (.int .i64 5)],jI 11 0] (.block 0 (.loop qbC))) (.cut (sR [qM 35 5,qM 4 35] .ret))))))
theorem qez:chkF Tryz.prog Tryz.f146 qeu [.t 4] 36=true:=by kernel_rfl
section
variable {E:Envt}
abbrev qol:Nat:=166
theorem qqP (l:List Int) (k:Nat) (size:Int) (hk:k≤900000) (hl:l.length≤9223372036854775807) :
  qpK Tryz.prog E 146 T (stm l k) [int size] qol 2 (fun es cs'=>∃ (o:List (Int×Int)) (k':Nat),es=o.map spn∧o.length≤5∧cs'=stm l k'∧k'≤k+20):=by
 unfold qpK
 refine qfF mixed Tryz.func146 qez ?_
 refine zV ?_
 refine useS (qco l k _ (by omega) hl (by decide)) rfl rfl rfl zE_ ?_
 rintro x cs' ⟨y,rfl,rfl⟩
 have b1:=qdd y 5
 have b2:=qde y 5 (by omega)
 generalize qc2 y 5=m at *
 refine zS ?_
 refine qac (fun n fr L=>∃ (i k':Nat) (at_:Int) (o:List (Int×Int)),n=5 - i∧i≤5∧(i:Int)≤m∧k'≤k+1+2 * i∧0≤at_∧at_≤20 * i∧o.length≤i∧fr=(.adr (.b 0) 0::.p (int size)::oo::oo::oo::.row (.l 5)::.p (int at_)::oo::oo::oo::.p (int m)::.p (int (i:Nat))::oE (oD []))∧L=[(.b 0,.box ((stm l k').map .p) T),(.l 5,.row (o.map spn) qol 2 true)]) 5 _ _ zF_ zE_ ⟨0,k+1,0,[],by omega,by omega,by omega,by omega,by omega,by omega,by simp,rfl,rfl⟩ ?_
 rintro n fr L ⟨i,k',at_,o,rfl,hi5,him,hk',ha0,ha1,ho,rfl,rfl⟩
 simp only [qbC,ZZ,WW,Zd,reduceCtorEq,zd,ze,zb,zf,za]
 refine br ?_ ?_
 ·intro h
  have hlt:(i:Int) < m:=of_decide_eq_true h
  refine zS ?_
  refine useS (qcM l k' [0,1,2,5] (by omega) hl (by simp) (by simp)) rfl rfl rfl zE_ ?_
  rintro x cs' ⟨p,rfl,hp,rfl⟩
  have hp':0≤p∧p≤5:=by simp at hp;omega
  refine zS ?_
  refine ⟨qal (by omega) (by omega),?_⟩
  refine useS (qcM l (k'+1) [1,1,2,4,9] (by omega) hl (by simp) (by simp)) rfl rfl rfl zE_ ?_
  rintro x cs' ⟨q,rfl,hq,rfl⟩
  have hq':0≤q∧q≤9:=by simp at hq;omega
  refine zS ?_
  refine ⟨qal (by omega) (by omega),?_⟩
  refine br ?_ ?_
  ·intro h2
   refine zS ?_
   refine qaj zE_ ?_
   refine zS ?_
   exact quN 5 _ (stm l (k'+1+1)) rfl rfl rfl ⟨o,k'+1+1,rfl,by omega,rfl,by omega⟩
  ·intro h2
   refine zS ?_
   ((with_reducible and_intros)<;>try exact sc_)
   refine qab (5 - (i+1)) _ _ (by omega) zF_ (by simp only [List.map_append,spn,ZZ,WW,Zd,reduceCtorEq,zd,ze,zb,zf,za]) ⟨i+1,k'+1+1,at_+p+q+1,o++[(at_+p,at_+p+q)],by omega,by omega,by omega,by omega,by omega,by omega,by simp;omega,rfl,rfl⟩
 ·intro h
  refine zS ?_
  refine qaj zE_ ?_
  refine zS ?_
  exact quN 5 _ (stm l k') rfl rfl rfl ⟨o,k',rfl,by omega,rfl,by omega⟩
end
def qc8:IC:=(.seq (sR [qM 19 8,qF 20 1 7,qL 21 20,qT 22 .lss 19 21] (.cond (.t 22) .skip (.exit 2))) (.seq (.block 3 (.reg [qM 25 5,qM 26 8,qX 27 1 25 26,⟨none,.st 1 (.t 27) (.c (.bool true)),none⟩])) (.reg [qM 23 8,qB 24 .add 23 (cI 1),qM 8 24])))
def qc9:IC:=(sR [qT 14 .lss 13 12] (.seq (jE 14) (.seq (.block 1 (sR [qX 15 2 11 13,qO 16 (.ld 2 true (.t 15)),qO 7 (.alc 166 [.int .i64 0,.int .i64 0]),qS 2 7 16] (sR [qF 17 0 7,qL 18 17,qM 8 18] (.block 2 (.loop qc8))))) (.reg [qB 28 .add 13 (cI 1),qM 13 28]))))
abbrev qhK:IC:=(sR [qO 4 (.mov (.c (.nl 1)))] (sR [qM 9 1,qO 10 (.mks 4 1 1 [.bool false] (.t 9) (.t 9)),qM 5 10] (.seq (sR [qM 11 0,qN 12 11,jI 13 0] (.block 0 (.loop qc9))) (sR [qM 29 5,qM 4 29] .ret))))
theorem qhS:chkF Tryz.prog Tryz.f248 qhK [.t 4] 30=true:=by kernel_rfl
def cov (l:List (Int×Int)) (j:Nat):Bool:=l.any fun s=>decide (s.1≤j) && decide ((j:Int) < s.2)
def bl (p:List Bool):List (List PV):=p.map fun b=>[.bool b]
def tab (n:Nat) (f:Nat→Bool):List Bool:=(zA n).map f
theorem qfM (n:Nat) (f:Nat→Bool):(tab n f).length=n:=by simp [tab]
theorem qkf (p:List Bool):(bl p).length=p.length:=by simp [bl]
theorem qmP {n:Nat} {f:Nat→Bool} {i:Nat} (h:i < n):(tab n f)[i]?=some (f i):=by
 unfold tab
 rw [zt,zX h];rfl
theorem qu6 {n:Nat} {f:Nat→Bool} {i:Nat} (h:i < n):(bl (tab n f)).getD i []=[.bool (f i)]:=qao (qmP h)
theorem qx2 {n:Nat} {f:Nat→Bool} {i:Nat} {b:Bool}:(bl (tab n f)).set i [.bool b]=bl (tab n fun j=>if j=i then b else f j):=by
 refine List.ext_getElem? fun j=>?_
 rw [List.getElem?_set]
 by_cases hj:i=j
 ·subst hj
  simp only [if_true,qkf,qfM]
  by_cases hi:i < n
  ·rw [if_pos hi,show bl (tab n fun j=>if j=i then b else f j)=(tab n fun j=>if j=i then b else f j).map (fun b=>[.bool b]) from rfl,zt,qmP hi]
   simp
  ·rw [if_neg hi,zO (by rw [qkf,qfM];omega)]
 ·rw [if_neg hj]
  unfold bl tab
  rw [zt,zt,zt,zt]
  by_cases hn:j < n
  ·rw [zX hn]
   simp [Ne.symm hj]
  ·rw [zO (by simpa using hn)]
   rfl
theorem qiL {n:Nat} {f g:Nat→Bool} (h:∀ j,j < n→f j=g j):tab n f=tab n g:=List.map_congr_left fun j hj=>h j (by simpa using hj)
theorem qwY {l:List (Int×Int)} {k:Nat} {x:Int×Int} (h:l[k]?=some x) (j:Nat):cov (l.take (k+1)) j=(cov (l.take k) j || (decide (x.1≤j) && decide ((j:Int) < x.2))):=by
 unfold cov
 rw [List.take_add_one,h]
 simp
section
variable {E:Envt}
theorem qsr (l:List (Int×Int)) (n:Nat) (hl:l.length≤1000000) (hn:n≤1000000) (hs:∀ s∈l,0≤s.1∧s.2≤n) :
  FCall Tryz.prog E 248 [sps l,int n] 4 1 (·=bl (tab n (cov l))):=by
 unfold FCall
 refine qfF mixed Tryz.func248 qhS ?_
 refine zV ?_
 simp only [sps,ZZ,WW,Zd,reduceCtorEq,zd,ze,zb,zf,za]
 ((with_reducible and_intros)<;>try exact sc_)
 generalize hes:l.map spn=es
 have hln:es.length=l.length:=by rw [← hes];simp
 have h0:List.replicate n [PV.bool false]=bl (tab n (cov (l.take 0))):=by
  unfold bl tab
  rw [List.map_map]
  refine List.ext_getElem? fun j=>?_
  by_cases hj:j < n
  ·simp [hj,cov]
  ·rw [zO (by simpa using hj),zO (by simpa using hj)]
 rw [h0]
 refine qac (fun m fr L=>∃ k:Nat,k≤l.length∧m=l.length - k∧fr=(oC (oo::(.row (.l 10)::oC (oo::(.p (.sl 2 es)::.p (int (es.length:Nat))::.p (int (k:Nat))::oE [])))))∧L=[(.l 10,.row (bl (tab n (cov (l.take k)))) 4 1 true)]) l.length _ _ zF_ zE_ ⟨0,by omega,by omega,rfl,rfl⟩ ?_
 rintro m fr L ⟨k,hk,rfl,rfl,rfl⟩
 simp only [qc9,ZZ,WW,Zd,reduceCtorEq,zd,ze,zb,zf,za]
 refine br ?_ ?_
 ·intro h
  have hlt:k < l.length:=by have:=of_decide_eq_true h;omega
  obtain ⟨s,hx⟩:∃ x,l[k]?=some x:=⟨_,zg hlt⟩
  have hg:es.getD k []=spn s:=by rw [← hes];exact qao hx
  have hsb:=hs s (zm hx)
  simp only [ZZ,WW,Zd,reduceCtorEq,zd,ze,zb,zf,za,hg,spn]
  ((with_reducible and_intros)<;>try exact sc_)
  refine qac (fun m fr L=>∃ i:Int,s.1≤i∧(i≤s.2∨i=s.1)∧m=(s.2 - i).toNat∧fr=(oC (oo::(.row (.l 10)::oo::.adr (.l 7) 0::.p (int i)::oo::oo::.p (.sl 2 es)::.p (int (es.length:Nat))::.p (int (k:Nat))::oE [])))∧L=[(.l 10,.row (bl (tab n (fun j=>cov (l.take k) j || (decide (s.1≤j) && decide ((j:Int) < i))))) 4 1 true),(.l 7,.box [.p (int s.1),.p (int s.2)] qol)]) (s.2 - s.1).toNat (oC (oo::(.row (.l 10)::oo::.adr (.l 7) 0::.p (int s.1)::oo::oo::.p (.sl 2 es)::.p (int (es.length:Nat))::.p (int (k:Nat))::oE []))) [(.l 10,.row (bl (tab n (cov (l.take k)))) 4 1 true),(.l 7,.box [.p (int s.1),.p (int s.2)] qol)] zF_ zE_ ⟨s.1,by omega,.inr rfl,rfl,rfl,?_⟩ ?_
  ·have:tab n (cov (l.take k))=tab n (fun j=>cov (l.take k) j || (decide (s.1≤j) && decide ((j:Int) < s.1))):=qiL fun j _=>by
    have:(decide (s.1≤j) && decide ((j:Int) < s.1))=false:=by simp
    rw [this,Bool.or_false]
   rw [← this]
  rintro m fr L ⟨i,hi1,hi2,rfl,rfl,rfl⟩
  simp only [qc8,ZZ,WW,Zd,reduceCtorEq,zd,ze,zb,zf,za]
  refine br ?_ ?_
  ·intro h2
   have hlt2:=of_decide_eq_true h2
   have hin:i.toNat < n:=by omega
   have hii:((i.toNat:Nat):Int)=i:=by omega
   simp only [ZZ,WW,Zd,reduceCtorEq,zd,ze,zb,zf,za,qkf,qfM,qu6 hin]
   simp only [Zaa,List.set_cons_zero,qx2]
   ((with_reducible and_intros)<;>try exact sc_)
   refine qab (s.2 - (i+1)).toNat _ [(.l 10,.row (bl (tab n (fun j=>cov (l.take k) j || (decide (s.1≤j) && decide ((j:Int) < i+1))))) 4 1 true),(.l 7,.box [.p (int s.1),.p (int s.2)] qol)] (by omega) zF_ ?_ ⟨i+1,by omega,.inl (by omega),rfl,rfl,rfl⟩
   refine zS ?_
   congr 2
   refine congrArg bl (qiL fun j hj=>?_)
   by_cases hji:j=i.toNat
   ·subst hji
    simp;omega
   ·have:((j:Int) < i+1)↔((j:Int) < i):=by omega
    simp [hji,this]
  ·intro h2
   have hge2:=of_decide_eq_false h2
   refine zS ?_
   ((with_reducible and_intros)<;>try exact sc_)
   refine qab (l.length - (k+1)) _ _ (by omega) zF_ ?_ ⟨k+1,by omega,rfl,rfl,rfl⟩
   refine zS ?_
   congr 2
   refine congrArg bl (qiL fun j hj=>?_)
   rw [qwY hx]
   congr 1
   by_cases h1:s.1≤j
   ·have:((j:Int) < i)↔((j:Int) < s.2):=by omega
    simp [h1,this]
   ·simp [h1]
 ·intro h
  have hge:l.length≤k:=by have:=of_decide_eq_false h;omega
  rw [List.take_of_length_le hge]
  refine zS ?_
  exact qjd 10 _ rfl rfl rfl
def onAt (p:List Bool) (i:Nat):Bool:=p.getD i false
theorem qms {l:List Int} (h:qai l=0):∀ x∈l,x=0:=by
 induction l with
 |nil=>intro x hx;cases hx
 |cons a l ih=>
  intro x hx
  simp only [qai] at h
  split at h
  ·rename_i ha
   rcases List.mem_cons.1 hx with rfl|hx
   ·exact ha
   ·exact ih h x hx
  ·rename_i ha;exact absurd h ha
theorem qtk {l:List (Int×Int)} {size:Int} (h:qfs l size=0) {k:Nat} {x:Int×Int} (hx:l[k]?=some x):0≤x.1∧x.1 < x.2∧x.2≤size:=by
 unfold qfs at h
 split at h
 ·cases h
 ·split at h
  ·cases h
  ·have hk:=(List.getElem?_eq_some_iff.1 hx).1
   have:=qms h (qnG size l k) (zm (qpg size l hk))
   unfold qnG badS at this
   rw [show l.getD k (0,0)=x from by simp [zu,hx]] at this
   split at this
   ·cases this
   ·rename_i hb
    simp at hb
    omega
end
def cv (l:List (Int×Int)) (j:Int):Prop:=∃ s∈l,s.1≤j∧j < s.2
structure Right (l:List (Int×Int)):Prop where
 ok:∀ s∈l,s.1 < s.2
 ord:l.Pairwise (fun s t=>s.2 < t.1)
theorem Right.tail {s:Int×Int} {l:List (Int×Int)} (h:Right (s :: l)):Right l:=⟨fun t ht=>h.ok t (by simp [ht]),(List.pairwise_cons.1 h.ord).2⟩
theorem Right.head {s:Int×Int} {l:List (Int×Int)} (h:Right (s :: l)):s.1 < s.2∧∀ t∈l,s.2 < t.1:=⟨h.ok s (by simp),(List.pairwise_cons.1 h.ord).1⟩
structure FromInv (p:List Bool) (k:Nat) (out:List (Int×Int)):Prop where
 right:Right out
 bd:∀ s∈out,s.2≤k
 last:onAt p (k - 1)=true→0 < k→∃ (i:List (Int×Int)) (y:Int×Int),out=i++[y]∧y.2=(k:Int)
 gap:onAt p (k - 1)=false→0 < k→∀ s∈out,s.2 < k
 cov:∀ j,cv out j↔∃ i:Nat,j=i∧i < k∧onAt p i=true
structure InB (s:Int×Int) (o0 b:List (Int×Int)) (st:Int×List (Int×Int)):Prop where
 lo:s.1≤st.1
 src:st.1=s.1∨∃ x∈b,st.1=x.2
 right:Right st.2
 bd:∀ t∈st.2,t.2 < st.1
 hi:∀ t∈st.2,t∈o0∨t.2≤s.2
 fre:∀ j,st.1≤j→j < s.2→¬ cv b j
 cov:∀ j,cv st.2 j↔cv o0 j∨(s.1≤j∧j < st.1∧j < s.2∧¬ cv b j)
structure InA (b a out:List (Int×Int)):Prop where
 right:Right out
 bd:∀ t∈out,∃ s∈a,t.2≤s.2
 cov:∀ j,cv out j↔cv a j∧¬ cv b j
theorem qtj {l:List (Int×Int)} {size:Int} (h:qfs l size=0):∀ s∈l,0≤s.1∧s.1 < s.2∧s.2≤size:=by
 intro s hs
 obtain ⟨i,hi⟩:=List.getElem?_of_mem hs
 exact qtk h hi
structure InP (l out:List (Int×Int)):Prop where
 right:Right out
 src:∀ t∈out,(∃ u∈l,t.1=u.1)∧∃ u∈l,t.2=u.2
 cov:∀ j,cv out j↔cv l j
section
variable {E:Envt}
end
section
variable {E:Envt}
end
end Go.Proofs.YtmpdnpljdcincaaGreatDoor
namespace Go.Proofs.YtmpdnpljdcincaaGreatDoor
open Nat renaming le_refl→zD,reduceAdd→zd,reduceEqDiff→za,reduceLT→zf,reduceLeDiff→zb,reduceMul→ze
open List renaming getD→zu,getD_eq_getElem?_getD→yk,getElem?_eq_getElem→zg,getElem?_eq_none→zO,getElem?_range→zX,length_map→zw,mem_of_getElem?→zm,range→zA,take_of_length_le→zq
open Go.RowKit
def E0:Envt where
 ok w:=Lib.Utf8Tabs 0 1 w∧∃ m:Int,w.cell? ⟨2,0,none⟩=some (.int .i64 m)
 bl b:=b=0∨b=1∨b=2
 mono w w' hb h:=by
  obtain ⟨⟨h1,h2⟩,m,h3⟩:=h
  have e1:=hb _ (.inl rfl)
  have e2:=hb _ (.inr (.inl rfl))
  have e3:=hb _ (.inr (.inr rfl))
  exact ⟨⟨fun c hc=>(World.cell?_of_block (w:=w) e1).trans (h1 c hc),fun i hi=>⟨(World.cell?_of_block (w:=w) e2).trans (h2 i hi).1,(World.cell?_of_block (w:=w) e2).trans (h2 i hi).2⟩⟩,m,(World.cell?_of_block (w:=w) e3).trans h3⟩
theorem qkT (s:List UInt8) (hs:s.length≤1000000000000):PCall Tryz.prog E0 170 [.str s] (·=.bool (Lib.validD s)):=
 qbm rfl rfl fun w hE=>(Any.utf8_ValidString Tryz.layValid ⟨s.toArray⟩ w (by simp [ByteArray.size];omega) hE.1).mono fun e w' h=>⟨by rw [h.1];rfl,qfE h.2⟩
def qe2:IC:=(sR [qT 10 .lss 9 8] (.seq (jE 10) (.seq (.block 1 (sR [qM 11 9,qM 5 11] (sR [qM 12 0,qM 13 5,qO 14 (.idx (.t 12) (.t 13)),qM 6 14] (sR [qM 15 6,qB 16 .lss 15 (.c (.int .u8 32)),qM 17 16,⟨some 18,.mov (.t 1),(some (17,true))⟩,⟨some 19,.mov (.t 18),(some (17,true))⟩,⟨some 20,.mov (.t 6),(some (19,true))⟩,⟨some 21,.bin .eql (.t 20) (.c (.int .u8 10)),(some (19,true))⟩,⟨some 22,.pick (.t 19) (.t 21) (.c (.bool false)),(some (17,true))⟩,⟨some 23,.not (.t 22),(some (17,true))⟩,qO 24 (.pick (.t 17) (.t 23) (.c (.bool false))),qM 25 24,⟨some 26,.mov (.t 6),(some (25,false))⟩,⟨some 27,.bin .eql (.t 26) (.c (.int .u8 127)),(some (25,false))⟩,qO 28 (.pick (.t 25) (.c (.bool true)) (.t 27))] (jW 28 (sR [qO 4 (.mov (.c (.bool false)))] .ret)))))) (.reg [qB 29 .add 9 (cI 1),qM 9 29]))))
abbrev qlo:IC:=(sR [qO 4 (.mov (.c (.bool false)))] (.seq (sR [qM 7 0,qO 8 (.sln (.t 7)),jI 9 0] (.block 0 (.loop qe2))) (sR [qM 30 0,jC 31 170 [.t 30],qM 4 31] .ret)))
theorem qly:chkF Tryz.prog Tryz.f160 qlo [.t 4] 32=true:=by kernel_rfl
section
variable {E:Envt}
def sufE (s t:List UInt8):Bool:=decide ((t.length:Int)≤s.length) && decide (s.drop (s.length - t.length)=t)
def insE (s:List UInt8) (i:Int):Bool:=decide (i < s.length) && decide (((s.getD i.toNat 0).toNat:Int) / 64=2)
def badB (feeds:Bool) (c:UInt8):Bool:=(decide ((c.toNat:Int) < 32) && !(feeds && decide ((c.toNat:Int)=10))) || decide ((c.toNat:Int)=127)
def visE (s:List UInt8) (feeds:Bool):Bool:=(s.all fun c=>!badB feeds c) && Lib.validD s
theorem qjv {s:List UInt8} {k:Nat} {c:UInt8} {p:UInt8→Bool} (h:s[k]?=some c):(s.take (k+1)).all p=((s.take k).all p && p c):=by
 obtain ⟨hk,hx⟩:=List.getElem?_eq_some_iff.1 h
 rw [List.take_succ_eq_append_getElem hk,List.all_append,hx]
 simp
end
theorem qsM (s:List UInt8) (feeds:Bool) (hs:s.length≤1000000000):PCall Tryz.prog E0 160 [.str s,.bool feeds] (·=.bool (visE s feeds)):=by
 refine qag mixed Tryz.func160 qly ?_
 refine zV ?_
 refine qac (fun n fr L=>∃ (k:Nat),k≤s.length∧n=s.length - k∧(((s.take k).all fun c=>!badB feeds c)=true)∧fr=(.p (.str s)::.p (.bool feeds)::oC (oB (.p (int (s.length:Nat))::.p (int (k:Nat))::oE (oC (oB [])))))∧L=[]) (s.length) _ [] zF_ zF_ ⟨0,by omega,by omega,by simp,rfl,rfl⟩ ?_
 rintro n fr L ⟨k,hk,rfl,hall,rfl,rfl⟩
 simp only [qe2,ZZ,WW,Zd,reduceCtorEq,zd,ze,zb,zf,za]
 refine br ?_ ?_
 ·intro h
  have hlt:k < s.length:=by have:=of_decide_eq_true h;omega
  obtain ⟨c,hc⟩:∃ x,s[k]?=some x:=⟨_,zg hlt⟩
  have hg:s.getD k 0=c:=by simp [zu,hc]
  have hnx:=qjv (p:=fun c=>!badB feeds c) hc
  simp only [ZZ,WW,Zd,reduceCtorEq,zd,ze,zb,zf,za,hg]
  ((with_reducible and_intros)<;>try exact sc_)
  refine br ?_ ?_
  ·intro hb
   have hb:badB feeds c=true:=hb
   refine zS ?_
   have:(s.all fun c=>!badB feeds c)=false:=by
    rw [List.all_eq_false]
    exact ⟨c,zm hc,by simp [hb]⟩
   simp [visE,this]
  ·intro hb
   have hb:badB feeds c=false:=hb
   refine zS ?_
   ((with_reducible and_intros)<;>try exact sc_)
   refine qab (s.length - (k+1)) _ [] (by omega) zF_ zF_ ⟨k+1,by omega,rfl,by rw [hnx,hall,hb];rfl,rfl,rfl⟩
 ·intro h
  have hge:s.length≤k:=by have:=of_decide_eq_false h;omega
  rw [zq hge] at hall
  refine zS ?_
  refine use1 (qkT s (by omega)) rfl (.inl rfl) ?_
  refine zS ?_
  simp [visE,hall]
def qjy (s:List UInt8):Bool:=visE s true && (decide (s=[]) || sufE s [10])
def qbk (s:List UInt8):Nat→Nat
 |0=>0
 |n+1=>if insE s ((n+1:Nat):Int)=true then qbk s n else n+1
def fwdN (s:List UInt8):Nat→Nat→Nat
 |0,n=>n
 |f+1,n=>if insE s (n:Int)=true then fwdN s f (n+1) else n
theorem qkQ (s:List UInt8):∀ n,qbk s n≤n
 |0=>zD _
 |n+1=>by
  unfold qbk
  split
  ·have:=qkQ s n;omega
  ·exact zD _
theorem qqw (s:List UInt8):∀ f n,n≤fwdN s f n
 |0,n=>zD _
 |f+1,n=>by
  unfold fwdN
  split
  ·have:=qqw s f (n+1);omega
  ·exact zD _
def pntF (s:List UInt8) (p:Int×Int):Int×Int:=((qbk s p.1.toNat:Nat),(fwdN s (s.length - p.2.toNat) p.2.toNat:Nat))
def qea (s:List UInt8) (l:List (Int×Int)):List (Int×Int):=l.map (pntF s)
section
variable {E:Envt}
end
def bU (n:Nat) (g:Nat→UInt8):List (List PV):=(zA n).map fun j=>[.int .u8 ((g j).toNat:Nat)]
theorem qpx (n:Nat) (g:Nat→UInt8):(bU n g).length=n:=by simp [bU]
theorem qvc {n i:Nat} {g:Nat→UInt8} (h:i < n):(bU n g).getD i []=[.int .u8 ((g i).toNat:Nat)]:=by
 simp [bU,zu,List.getElem?_map,zX h]
theorem qvb {n i:Nat} {g:Nat→UInt8} (c:UInt8):(bU n g).set i [.int .u8 (c.toNat:Nat)]=bU n (fun j=>if j=i then c else g j):=by
 apply List.ext_getElem?
 intro j
 by_cases hj:j < n
 ·by_cases he:j=i
  ·subst he
   rw [List.getElem?_set_self (by simpa [bU] using hj)]
   simp [bU,zX hj]
  ·rw [List.getElem?_set_ne (fun e=>he e.symm)]
   simp [bU,zX hj,he]
 ·rw [zO (by simpa [bU] using hj),zO (by simpa [bU] using hj)]
theorem qzZ (s:List UInt8):(s.map fun q=>[PV.int .u8 (q.toNat:Nat)])=bU s.length (fun j=>s.getD j 0):=by
 apply List.ext_getElem?
 intro j
 by_cases hj:j < s.length
 ·simp [bU,zX hj,zg hj,zu]
 ·rw [zO (by simpa using hj),zO (by simpa [bU] using hj)]
theorem qnR (n:Nat) (g:Nat→UInt8):qh3 (bU n g)=some ((zA n).map g):=by
 have:∀ l:List Nat,qh3 (l.map fun j=>[PV.int .u8 ((g j).toNat:Nat)])=some (l.map g):=by
  intro l
  induction l with
  |nil=>rfl
  |cons x r ih=>simp [qh3,ih]
 exact this _
def qgw (c:UInt8):Bool:=decide ((c.toNat:Int)=32) || decide ((c.toNat:Int)=10)
def redG (s:List UInt8) (m:Nat→Bool) (j:Nat):UInt8:=if (m j && !qgw (s.getD j 0))=true then 35 else s.getD j 0
theorem qyT {s:List UInt8} {m:Nat→Bool} {i:Nat} (h:qgw (redG s m i)=false):(fun j=>if j=i then 35 else redG s m j)=redG s (fun j=>m j || decide (j=i)):=by
 funext j
 by_cases hj:j=i
 ·subst hj
  have hb:qgw (s.getD j 0)=false:=by
   unfold redG at h
   split at h
   ·rename_i hc;simp at hc;exact hc.2
   ·exact h
  simp only [redG,if_true,hb];simp
 ·simp [redG,hj]
theorem qv9 {s:List UInt8} {m:Nat→Bool} {i:Nat} (h:qgw (redG s m i)=true):redG s m=redG s (fun j=>m j || decide (j=i)):=by
 funext j
 by_cases hj:j=i
 ·subst hj
  have hb:qgw (s.getD j 0)=true:=by
   unfold redG at h
   split at h
   ·exact absurd h (by decide)
   ·exact h
  simp only [redG,hb];simp
 ·simp [redG,hj]
def qci (s:List UInt8) (l:List (Int×Int)):List UInt8:=(zA s.length).map (redG s (cov (qea s l)))
def qxu (k:IntKind) (w:World) (a:Option Addr) (len cap:Nat) (zs:List Int):Prop:=
 (a=none∧len=0∧cap=0∧zs=[])∨
 ∃ x,a=some x∧len≤cap∧cap≤maxLen∧zs.length=cap∧(∀ i,i < zs.length→w.cell? (x.add i)=some (.int k (zs.getD i 0)))∧∀ n∈zs,(Lit.int k n).wf=true
theorem qow {w:World} {U:Nat→Prop} {b:Nat}:∀ (l:List Int) (off:Nat),(∀ i,i < l.length→w.cell? ⟨b,off+i,none⟩=some (.int .i64 (l.getD i 0)))→PRepE w U b 1 off (l.map fun x=>[.int .i64 x])
 |[],off,h=>trivial
 |x :: r,off,h=>by
  refine ⟨rfl,⟨⟨_,by simpa using h 0 (by simp),rfl,rfl⟩,trivial⟩,qow r (off+1) (fun i hi=>?_)⟩
  have:=h (i+1) (by simpa using hi)
  rw [show off+1+i=off+(i+1) from by omega]
  simpa using this
theorem qur {w:World} {a:Option Addr} {len cap:Nat} {zs:List Int} (h:qxu .i64 w a len cap zs):PRep w (fun _=>False) (ints (zs.take len)) (.slice a len cap)∧(zs.take len).length≤9223372036854775807:=by
 rcases h with ⟨rfl,rfl,rfl,rfl⟩|⟨x,rfl,h1,h2,h3,h4,_⟩
 ·exact ⟨⟨none,0,rfl,by simp,fun h=>by simp at h⟩,by simp⟩
 ·have hl:(zs.take len).length=len:=by rw [List.length_take];omega
  refine ⟨⟨some x,cap,by rw [zw,hl],by rw [zw,hl];exact h1,fun hne=>?_⟩,by rw [hl];unfold maxLen at h2;omega⟩
  have h0:0 < len:=by
   rcases Nat.eq_zero_or_pos len with h'|h'
   ·subst h';simp at hne
   ·exact h'
  obtain ⟨b,off,spot⟩:=x
  have hc:=h4 0 (by omega)
  have hspot:spot=none:=by simpa [Addr.add] using World.cell?_spot hc
  subst hspot
  have hb:b < w.heap.size:=by
   have:=World.block_lt_of_cell? w _ hc
   simpa [Addr.add] using this
  refine ⟨b,off,rfl,hb,fun h=>h,qow _ _ (fun i hi=>?_)⟩
  rw [hl] at hi
  have:=h4 i (by omega)
  rw [qbE] at this
  rw [this]
  congr 2
  rw [yk,yk,List.getElem?_take_of_lt hi]
theorem qya {P:Program} {E:Envt} {f:FuncId} (h:∀ z:List Int,z.length≤9223372036854775807→PCall P E f [ints z] (·=.bool true)) (a0:Option Addr) (len0 cap0:Nat) (z0:List Int) (w:World) (h0:qxu .i64 w a0 len0 cap0 z0) (hok:E.ok w) (hbl:∀ b,E.bl b→b < w.heap.size) :
  Calls P f #[.slice a0 len0 cap0] w fun e w'=>e=.returned (.bool true)∧Below w.heap.size w w':=by
 obtain ⟨h1,h2⟩:=qur h0
 refine (h _ h2 w (fun _=>False) [.slice a0 len0 cap0] (fun _ h=>h.elim) hok hbl ⟨_,[],rfl,h1,rfl⟩).mono ?_
 rintro e w' ⟨v,x,rfl,rfl,hv,hg⟩
 refine ⟨by rw [PRep.bool_eq hv],⟨hg.os,hg.tape,hg.output,hg.size,fun k hk=>hg.block k hk (fun h=>h)⟩⟩
theorem qfn (s:List UInt8):(⟨s.toArray⟩:ByteArray).size=s.length:=by simp [ByteArray.size]
section
variable {E:Envt}
theorem qvk (s:List UInt8) (n:Nat) (hn:n≤1000000) (hs:s.length≤1000000):PCall Tryz.prog E 46 [.str s,int n] (·=.str (Lib.repeatL s n)):=
 qbm rfl rfl fun w _=>(qrr ⟨s.toArray⟩ n w (by omega) (by rw [qfn];exact Nat.le_trans (Nat.mul_le_mul hs hn) (by decide))).mono fun e w' h=>⟨h.1,qfE h.2⟩
theorem qki (s:List UInt8) (c:UInt8):PCall Tryz.prog E 182 [.str s,.int .u8 (c.toNat:Nat)] (·=int (Lib.indexByte s c)):=
 qbm rfl rfl fun w _=>(Any.strings_IndexByte Tryz.layIndexByte ⟨s.toArray⟩ (c.toNat:Nat) w).mono fun e w' h=>⟨by rw [h.1];simp [valX,valD],by rw [h.2];exact Grow.refl _ _⟩
end
theorem qxv (s t:List UInt8) (hs:s.length≤1000000000):PCall Tryz.prog E0 270 [.str s,.str t] (·=int (Lib.index s t)):=
 qbm rfl rfl fun w hE=>by
  obtain ⟨_,m,hm⟩:=hE
  exact (Any.strings_Index { Tryz.layIndex with } ⟨s.toArray⟩ ⟨t.toArray⟩ m w (by rw [qfn];omega) hm).mono fun e w' h=>⟨h.1,by rw [h.2];exact Grow.refl _ _⟩
def qgt:IC:=(sR [qT 11 .lss 10 9] (.seq (jE 11) (.seq (.block 1 (sR [qM 12 10,qX 13 1 8 10,qL 14 13,qM 4 12,qM 5 14] (sR [qM 15 5,qB 16 .geq 15 (.c (.int .u8 65)),qM 17 16,⟨some 18,.mov (.t 5),(some (17,true))⟩,⟨some 19,.bin .leq (.t 18) (.c (.int .u8 90)),(some (17,true))⟩,qO 20 (.pick (.t 17) (.t 19) (.c (.bool false)))] (jW 20 (.reg [qM 21 3,qM 22 4,qM 23 5,qB 24 .add 23 (.c (.int .u8 32)),qX 25 1 21 22,qS 1 25 24]))))) (.cut (.reg [qB 26 .add 10 (cI 1),qM 10 26])))))
abbrev qnt:IC:=(sR [qO 2 (.mov (.c (.str [])))] (sR [qM 6 0,qO 7 (.s2b 5 (.t 6)),qM 3 7] (.seq (sR [qM 8 3,qN 9 8,jI 10 0] (.block 0 (.loop qgt))) (sR [qM 27 3,qO 28 (.b2s (.t 27)),qM 2 28] .ret))))
theorem qnM:chkF Tryz.prog Tryz.f136 qnt [.t 2] 29=true:=by kernel_rfl
def qdX:IC:=(sR [qT 12 .lss 11 10] (.seq (jE 12) (.seq (.block 1 (sR [qM 13 11,qX 14 1 9 11,qL 15 14,qM 4 13,qM 5 15] (sR [qM 16 5,jC 17 182 [.c (.str [65,66,67,68,69,70,71,72,73,74,75,76,77,78,79,80,81,82,83,84,85,86,87,88,89,90]),.t 16],qM 6 17] (sR [qM 18 6,qB 19 .geq 18 (cI 0)] (jW 19 (.reg [qM 20 3,qM 21 4,qM 22 6,qO 23 (.idx (.c (.str [97,98,99,100,101,102,103,104,105,106,107,108,109,110,111,112,113,114,115,116,117,118,119,120,121,122])) (.t 22)),qX 24 1 20 21,qS 1 24 23])))))) (.cut (.reg [qB 25 .add 11 (cI 1),qM 11 25])))))
abbrev qi4:IC:=(sR [qO 2 (.mov (.c (.str [])))] (sR [qM 7 0,qO 8 (.s2b 5 (.t 7)),qM 3 8] (.seq (sR [qM 9 3,qN 10 9,jI 11 0] (.block 0 (.loop qdX))) (sR [qM 26 3,qO 27 (.b2s (.t 26)),qM 2 27] .ret))))
theorem qjm:chkF Tryz.prog Tryz.f140 qi4 [.t 2] 28=true:=by kernel_rfl
def qcf:IC:=(sR [qT 11 .lss 10 9] (.seq (jE 11) (.seq (.block 1 (sR [qX 12 1 8 10,qL 13 12,qM 6 13] (sR [qM 14 6,qB 15 .lss 14 (.c (.int .u8 32)),qM 16 15,⟨some 17,.mov (.t 1),(some (16,true))⟩,⟨some 18,.mov (.t 17),(some (16,true))⟩,⟨some 19,.mov (.t 6),(some (18,true))⟩,⟨some 20,.bin .eql (.t 19) (.c (.int .u8 10)),(some (18,true))⟩,⟨some 21,.pick (.t 18) (.t 20) (.c (.bool false)),(some (16,true))⟩,⟨some 22,.not (.t 21),(some (16,true))⟩,qO 23 (.pick (.t 16) (.t 22) (.c (.bool false))),qM 24 23,⟨some 25,.mov (.t 6),(some (24,false))⟩,⟨some 26,.bin .eql (.t 25) (.c (.int .u8 127)),(some (24,false))⟩,qO 27 (.pick (.t 24) (.c (.bool true)) (.t 26))] (jW 27 (sR [qO 4 (.mov (.c (.bool false)))] .ret))))) (.reg [qB 28 .add 10 (cI 1),qM 10 28]))))
abbrev qfY:IC:=(sR [qO 4 (.mov (.c (.bool false)))] (.seq (sR [qM 7 0,qO 8 (.s2b 5 (.t 7)),qN 9 8,jI 10 0] (.block 0 (.loop qcf))) (sR [qM 29 0,jC 30 170 [.t 29],qM 4 30] .ret)))
theorem qgb:chkF Tryz.prog Tryz.f131 qfY [.t 4] 31=true:=by kernel_rfl
def lowB (c:UInt8):UInt8:=if 65≤c.toNat∧c.toNat≤90 then c+32 else c
def lowF (s:List UInt8):List UInt8:=s.map lowB
theorem qgx {p:UInt8→Prop} (h:∀ n:Fin 256,p (UInt8.ofNat n.val)) (c:UInt8):p c:=by
 have:=h ⟨c.toNat,c.toNat_lt⟩
 simpa using this
theorem qws (c:UInt8) (h1:65≤c.toNat) (h2:c.toNat≤90):IntKind.u8.wrap ((c.toNat:Int)+32)=(((lowB c).toNat:Nat):Int):=by
 have h3:(c+32).toNat=c.toNat+32:=by
  rw [UInt8.toNat_add]
  have:(32:UInt8).toNat=32:=rfl
  omega
 rw [lowB,if_pos ⟨h1,h2⟩,h3]
 have:IntKind.u8.wrap ((c.toNat:Int)+32)=((c.toNat:Int)+32) % 256:=rfl
 rw [this]
 omega
theorem qrD (c:UInt8) (h:¬ (65≤c.toNat∧c.toNat≤90)):lowB c=c:=by rw [lowB,if_neg h]
def capL:List UInt8:=[65,66,67,68,69,70,71,72,73,74,75,76,77,78,79,80,81,82,83,84,85,86,87,88,89,90]
def smallL:List UInt8:=[97,98,99,100,101,102,103,104,105,106,107,108,109,110,111,112,113,114,115,116,117,118,119,120,121,122]
theorem qzS (c:UInt8):Lib.indexByte capL c=if 65≤c.toNat∧c.toNat≤90 then (c.toNat:Int) - 65 else -1:=
 qgx (p:=fun c=>Lib.indexByte capL c=if 65≤c.toNat∧c.toNat≤90 then (c.toNat:Int) - 65 else -1) (by decide +kernel) c
theorem qu3 (c:UInt8):65≤c.toNat∧c.toNat≤90→smallL.getD ((c.toNat:Int) - 65).toNat 0=lowB c:=
 qgx (p:=fun c=>65≤c.toNat∧c.toNat≤90→smallL.getD ((c.toNat:Int) - 65).toNat 0=lowB c) (by decide +kernel) c
theorem qsn (s:List UInt8) (f:UInt8→UInt8):(zA s.length).map (fun j=>f (s.getD j 0))=s.map f:=by
 apply List.ext_getElem?
 intro j
 by_cases hj:j < s.length
 ·simp [zX hj,zg hj,zu]
 ·rw [zO (by simpa using hj),zO (by simpa using hj)]
def lowG (s:List UInt8) (k:Nat) (j:Nat):UInt8:=if j < k then lowB (s.getD j 0) else s.getD j 0
theorem qua (s:List UInt8) (k:Nat):(fun j=>if j=k then lowB (s.getD k 0) else lowG s k j)=lowG s (k+1):=by
 funext j
 unfold lowG
 by_cases h:j=k
 ·subst h;simp
 ·simp only [h,if_false]
  by_cases h2:j < k
  ·rw [if_pos h2,if_pos (by omega)]
  ·rw [if_neg h2,if_neg (by omega)]
theorem qnl (s:List UInt8) (k:Nat):lowG s k k=s.getD k 0:=by simp [lowG]
theorem qrE (s:List UInt8):(zA s.length).map (lowG s s.length)=lowF s:=by
 rw [lowF,← qsn]
 refine List.map_congr_left fun j hj=>?_
 simp only [List.mem_range] at hj
 simp [lowG,hj]
section
variable {E:Envt}
theorem qxs (s:List UInt8) (hs:s.length≤1000000000):PCall Tryz.prog E 136 [.str s] (·=.str (lowF s)):=by
 refine qag mixed Tryz.func136 qnM ?_
 refine zV ?_
 refine ⟨by omega,?_⟩
 rw [qzZ]
 simp only [ZZ,WW,Zd,reduceCtorEq,zd,ze,zb,zf,za,qpx]
 refine qac (fun n fr L=>∃ (k:Nat) (g:Nat→UInt8),k≤s.length∧n=s.length - k∧(g=lowG s k)∧fr=(oo::oo::oo::.row (.l 7)::oo::oo::oo::oo::.row (.l 7)::.p (int (s.length:Nat))::.p (int (k:Nat))::oE (oB []))∧L=[(.l 7,.row (bU s.length g) 5 1 false)]) (s.length) _ _ zF_ zF_ ⟨0,fun j=>s.getD j 0,by omega,by omega,by funext j;simp [lowG],rfl,rfl⟩ ?_
 rintro n fr L ⟨k,g,hk,rfl,hg,rfl,rfl⟩
 simp only [qgt,ZZ,WW,Zd,reduceCtorEq,zd,ze,zb,zf,za]
 refine br ?_ ?_
 ·intro h
  have hlt:k < s.length:=by have:=of_decide_eq_true h;omega
  have hgi:(bU s.length g).getD k []=[.int .u8 ((s.getD k 0).toNat:Nat)]:=by rw [qvc hlt,hg,qnl]
  have hbl:=qpx s.length g
  have hnx:=qua s k
  generalize hcc:s.getD k 0=c at hgi hnx
  have hset:(bU s.length g).set k [.int .u8 ((lowB c).toNat:Nat)]=bU s.length (fun j=>if j=k then lowB c else g j):=qvb (lowB c)
  simp only [ZZ,WW,Zd,reduceCtorEq,zd,ze,zb,zf,za,hgi,hbl]
  ((with_reducible and_intros)<;>try exact sc_)
  refine br ?_ ?_
  ·intro hc
   simp only [Bool.and_eq_true,decide_eq_true_eq] at hc
   have hw:=qws c (by omega) (by omega)
   simp only [ZZ,WW,Zd,reduceCtorEq,zd,ze,zb,zf,za,hbl,hgi,hw,hset]
   ((with_reducible and_intros)<;>try exact sc_)
   refine qaj zE_ ?_
   refine zS ?_
   ((with_reducible and_intros)<;>try exact sc_)
   refine qab (s.length - (k+1)) _ _ (by omega) zF_ zF_ ⟨k+1,fun j=>if j=k then lowB c else g j,by omega,rfl,by rw [hg];exact hnx,rfl,rfl⟩
  ·intro hc
   have hsame:lowB c=c:=qrD c (by
    intro h2
    simp only [Bool.and_eq_false_iff,decide_eq_false_iff_not] at hc
    omega)
   have hsg:(fun j=>if j=k then lowB c else lowG s k j)=g:=by
    funext j
    by_cases hj:j=k
    ·subst hj
     rw [if_pos rfl,hsame,hg,qnl,hcc]
    ·rw [if_neg hj,hg]
   refine zS ?_
   refine qaj zE_ ?_
   refine zS ?_
   ((with_reducible and_intros)<;>try exact sc_)
   refine qab (s.length - (k+1)) _ _ (by omega) zF_ zF_ ⟨k+1,g,by omega,rfl,by rw [← hnx,hsg],rfl,rfl⟩
 ·intro h
  have hge:k=s.length:=by have:=of_decide_eq_false h;omega
  subst hge
  simp only [ZZ,WW,Zd,reduceCtorEq,zd,ze,zb,zf,za,qnR]
  rw [hg,qrE]
theorem qt9 (s:List UInt8) (hs:s.length≤1000000000):PCall Tryz.prog E 140 [.str s] (·=.str (lowF s)):=by
 refine qag mixed Tryz.func140 qjm ?_
 refine zV ?_
 refine ⟨by omega,?_⟩
 rw [qzZ]
 simp only [ZZ,WW,Zd,reduceCtorEq,zd,ze,zb,zf,za,qpx]
 refine qac (fun n fr L=>∃ (k:Nat) (g:Nat→UInt8),k≤s.length∧n=s.length - k∧(g=lowG s k)∧fr=(oo::oo::oo::.row (.l 8)::oC (oo::(.row (.l 8)::.p (int (s.length:Nat))::.p (int (k:Nat))::oE [])))∧L=[(.l 8,.row (bU s.length g) 5 1 false)]) (s.length) _ _ zF_ zF_ ⟨0,fun j=>s.getD j 0,by omega,by omega,by funext j;simp [lowG],rfl,rfl⟩ ?_
 rintro n fr L ⟨k,g,hk,rfl,hg,rfl,rfl⟩
 simp only [qdX,ZZ,WW,Zd,reduceCtorEq,zd,ze,zb,zf,za]
 refine br ?_ ?_
 ·intro h
  have hlt:k < s.length:=by have:=of_decide_eq_true h;omega
  have hgi:(bU s.length g).getD k []=[.int .u8 ((s.getD k 0).toNat:Nat)]:=by rw [qvc hlt,hg,qnl]
  have hbl:=qpx s.length g
  have hnx:=qua s k
  generalize hcc:s.getD k 0=c at hgi hnx
  have hset:(bU s.length g).set k [.int .u8 ((lowB c).toNat:Nat)]=bU s.length (fun j=>if j=k then lowB c else g j):=qvb (lowB c)
  simp only [ZZ,WW,Zd,reduceCtorEq,zd,ze,zb,zf,za,hgi,hbl]
  ((with_reducible and_intros)<;>try exact sc_)
  refine use1 (qki capL c) rfl (.inl rfl) ?_
  rw [qzS]
  refine zS ?_
  refine br ?_ ?_
  ·intro hc
   have hc:65≤c.toNat∧c.toNat≤90:=by
    by_cases hq:65≤c.toNat∧c.toNat≤90
    ·exact hq
    ·rw [if_neg hq] at hc;simp at hc
   have hw:=qu3 c hc
   rw [if_pos hc]
   unfold smallL at hw
   simp only [ZZ,WW,Zd,reduceCtorEq,zd,ze,zb,zf,za,hw,hbl,hgi,hset]
   ((with_reducible and_intros)<;>try exact sc_)
   refine qaj zE_ ?_
   refine zS ?_
   ((with_reducible and_intros)<;>try exact sc_)
   refine qab (s.length - (k+1)) _ _ (by omega) zF_ zF_ ⟨k+1,fun j=>if j=k then lowB c else g j,by omega,rfl,by rw [hg];exact hnx,rfl,rfl⟩
  ·intro hc
   have hc:¬ (65≤c.toNat∧c.toNat≤90):=by
    intro hq
    rw [if_pos hq] at hc
    have:=of_decide_eq_false hc
    omega
   have hsame:lowB c=c:=qrD c hc
   have hsg:(fun j=>if j=k then lowB c else lowG s k j)=g:=by
    funext j
    by_cases hj:j=k
    ·subst hj
     rw [if_pos rfl,hsame,hg,qnl,hcc]
    ·rw [if_neg hj,hg]
   refine zS ?_
   refine qaj zE_ ?_
   refine zS ?_
   ((with_reducible and_intros)<;>try exact sc_)
   refine qab (s.length - (k+1)) _ _ (by omega) zF_ zF_ ⟨k+1,g,by omega,rfl,by rw [← hnx,hsg],rfl,rfl⟩
 ·intro h
  have hge:k=s.length:=by have:=of_decide_eq_false h;omega
  subst hge
  simp only [ZZ,WW,Zd,reduceCtorEq,zd,ze,zb,zf,za,qnR]
  rw [hg,qrE]
end
theorem qiF (s:List UInt8) (feeds:Bool) (hs:s.length≤1000000000):PCall Tryz.prog E0 131 [.str s,.bool feeds] (·=.bool (visE s feeds)):=by
 refine qag mixed Tryz.func131 qgb ?_
 refine zV ?_
 refine ⟨by omega,?_⟩
 have hln:(s.map fun q=>[PV.int .u8 (q.toNat:Nat)]).length=s.length:=by simp
 have hget:∀ k c,s[k]?=some c→(s.map fun q=>[PV.int .u8 (q.toNat:Nat)]).getD k []=[.int .u8 (c.toNat:Nat)]:=fun k c h=>qao h
 generalize (s.map fun q=>[PV.int .u8 (q.toNat:Nat)])=es at hln hget ⊢
 simp only [ZZ,WW,Zd,reduceCtorEq,zd,ze,zb,zf,za,hln]
 refine qac (fun n fr L=>∃ (k:Nat),k≤s.length∧n=s.length - k∧(((s.take k).all fun c=>!badB feeds c)=true)∧fr=(.p (.str s)::.p (.bool feeds)::oC (oB (.row (.l 8)::.p (int (s.length:Nat))::.p (int (k:Nat))::oE (oC []))))∧L=[(.l 8,.row es 5 1 false)]) (s.length) _ _ zF_ zF_ ⟨0,by omega,by omega,by simp,rfl,rfl⟩ ?_
 rintro n fr L ⟨k,hk,rfl,hall,rfl,rfl⟩
 simp only [qcf,ZZ,WW,Zd,reduceCtorEq,zd,ze,zb,zf,za]
 refine br ?_ ?_
 ·intro h
  have hlt:k < s.length:=by have:=of_decide_eq_true h;omega
  obtain ⟨c,hc⟩:∃ x,s[k]?=some x:=⟨_,zg hlt⟩
  have hg:=hget k c hc
  have hnx:=qjv (p:=fun c=>!badB feeds c) hc
  simp only [ZZ,WW,Zd,reduceCtorEq,zd,ze,zb,zf,za,hg,hln]
  ((with_reducible and_intros)<;>try exact sc_)
  refine br ?_ ?_
  ·intro hb
   have hb:badB feeds c=true:=hb
   refine zS ?_
   have:(s.all fun c=>!badB feeds c)=false:=by
    rw [List.all_eq_false]
    exact ⟨c,zm hc,by simp [hb]⟩
   simp [visE,this]
  ·intro hb
   have hb:badB feeds c=false:=hb
   refine zS ?_
   ((with_reducible and_intros)<;>try exact sc_)
   refine qab (s.length - (k+1)) _ _ (by omega) zF_ zF_ ⟨k+1,by omega,rfl,by rw [hnx,hall,hb];rfl,rfl,rfl⟩
 ·intro h
  have hge:s.length≤k:=by have:=of_decide_eq_false h;omega
  rw [zq hge] at hall
  refine zS ?_
  refine use1 (qkT s (by omega)) rfl (.inl rfl) ?_
  refine zS ?_
  simp [visE,hall]
end Go.Proofs.YtmpdnpljdcincaaGreatDoor
