import Derived.Test.YtehfjlpenlffmaaGreatDoorZ5
import Derived.Test.YtehfjlpenlffmaaGreatDoorZ4
import Derived.Test.YtehfjlpenlffmaaGreatDoorLayValid
set_option linter.unusedVariables false
set_option linter.unusedSimpArgs false
set_option linter.defProp false
namespace Go.Proofs.YtehfjlpenlffmaaGreatDoor
open Nat renaming reduceAdd→zd,reduceEqDiff→za,reduceLT→zf,reduceLeDiff→zb,reduceMul→ze,reduceSub→zu
open List renaming cons_append→zl,drop_eq_nil_of_le→zU,getD→zD,getElem?_eq_getElem→zg,getElem?_eq_none→zY,getElem?_map→zz,getElem?_range→ya,length_cons→zi,length_nil→zo,map_cons→zk,map_nil→zr,mem_of_getElem?→zx,nil_append→zm,range→zE,replicate_succ→zh,replicate_zero→zj
def qdA:IC:=(sR [qT 25 .lss 24 23] (.seq (.cond (.t 25) .skip (.exit 0)) (.seq (.block 1 (sR [qM 26 24,qX 27 2 22 24,qO 28 (.ld 2 true (.t 27)),qO 7 (.alc 108 [.int .i64 0,.int .i64 0]),qM 6 26,qS 2 7 28] (.seq (.drg [qF 29 0 7,qL 30 29,qB 31 .lss 30 (cI 0),qM 32 31,⟨some 33,.fla 0 (.t 7),(some (32,false))⟩,⟨some 34,.ld 1 false (.t 33),(some (32,false))⟩,⟨some 35,.fla 1 (.t 7),(some (32,false))⟩,⟨some 36,.ld 1 false (.t 35),(some (32,false))⟩,⟨some 37,.bin .geq (.t 34) (.t 36),(some (32,false))⟩,qO 38 (.pick (.t 32) (.c (.bool true)) (.t 37)),qM 39 38,⟨some 40,.fla 1 (.t 7),(some (39,false))⟩,⟨some 41,.ld 1 false (.t 40),(some (39,false))⟩,⟨some 42,.mov (.t 1),(some (39,false))⟩,⟨some 43,.bin .gtr (.t 41) (.t 42),(some (39,false))⟩,qO 44 (.pick (.t 39) (.c (.bool true)) (.t 43)),qO 45 (.pcall 0 50 [.t 44,.c (.int .i64 1)]),qM 46 6,qB 47 .gtr 46 (cI 0),qM 48 47,⟨some 49,.fla 0 (.t 7),(some (48,true))⟩,⟨some 50,.ld 1 false (.t 49),(some (48,true))⟩,⟨some 51,.mov (.t 0),(some (48,true))⟩,⟨some 52,.mov (.t 6),(some (48,true))⟩,⟨some 53,.mx (.t 52) (cI 1),(some (48,true))⟩,⟨some 54,.bin .sub (.t 53) (cI 1),(some (48,true))⟩,⟨some 55,.ixa 2 (.t 51) (.t 54),(some (48,true))⟩,⟨some 56,.fla 1 (.t 55),(some (48,true))⟩,⟨some 57,.ld 1 false (.t 56),(some (48,true))⟩,⟨some 58,.bin .leq (.t 50) (.t 57),(some (48,true))⟩,qO 59 (.pick (.t 48) (.t 58) (.c (.bool false))),qO 60 (.pcall 1 50 [.t 59,.c (.int .i64 7)]),qO 61 (.bsl 1 [.t 45,.t 60]),qO 62 (.pcall 2 49 [.t 61]),qM 8 62]) (sR [qM 63 8,qB 64 .neq 63 (cI 0)] (.cond (.t 64) (sR [qM 65 8,qM 4 65] .ret) .skip))))) (.reg [qB 66 .add 24 (cI 1),qM 24 66]))))
def qeR:IC:=(sR [qO 4 (.mov (cI 0))] (.seq (sR [qM 9 1,qO 10 (.call 51 [.t 9,.c (.int .i64 0),.c (.int .i64 200000)]),qO 11 (.not (.t 10)),qO 12 (.call 50 [.t 11,.c (.int .i64 1)]),qM 13 0,qN 14 13,qB 15 .gtr 14 (cI 1000),qO 16 (.call 50 [.t 15,.c (.int .i64 2)]),qO 17 (.bsl 1 [.t 12,.t 16]),qO 18 (.call 49 [.t 17]),qM 5 18] (sR [qM 19 5,qB 20 .neq 19 (cI 0)] (.cond (.t 20) (sR [qM 21 5,qM 4 21] .ret) .skip))) (.seq (sR [qM 22 0,qN 23 22,qO 24 (.mov (cI 0))] (.block 0 (.loop qdA))) (sR [qO 4 (.mov (cI 0))] .ret))))
def qeG:List IRes:=[.t 4]
theorem qjg:chkF Tryz.prog Tryz.f79 qeR qeG 67=true:=by kernel_rfl
def qdG:IC:=(sR [qT 19 .lss 18 17] (.seq (.cond (.t 19) .skip (.exit 0)) (.seq (.block 1 (sR [qM 20 18,qX 21 2 16 18,qO 22 (.ld 2 true (.t 21)),qO 6 (.alc 108 [.int .i64 0,.int .i64 0]),qM 5 20,qS 2 6 22] (.seq (sR [qF 23 0 6,qL 24 23,qB 25 .lss 24 (cI 0),qM 26 25,⟨some 27,.fla 0 (.t 6),(some (26,false))⟩,⟨some 28,.ld 1 false (.t 27),(some (26,false))⟩,⟨some 29,.fla 1 (.t 6),(some (26,false))⟩,⟨some 30,.ld 1 false (.t 29),(some (26,false))⟩,⟨some 31,.bin .geq (.t 28) (.t 30),(some (26,false))⟩,qO 32 (.pick (.t 26) (.c (.bool true)) (.t 31)),qM 33 32,⟨some 34,.fla 1 (.t 6),(some (33,false))⟩,⟨some 35,.ld 1 false (.t 34),(some (33,false))⟩,⟨some 36,.mov (.t 1),(some (33,false))⟩,⟨some 37,.bin .gtr (.t 35) (.t 36),(some (33,false))⟩,qO 38 (.pick (.t 33) (.c (.bool true)) (.t 37))] (.cond (.t 38) (sR [qO 4 (.mov (cI 1))] .ret) .skip)) (.seq (.drg [qM 39 5,qB 40 .gtr 39 (cI 0),qM 41 40,⟨some 42,.fla 0 (.t 6),(some (41,true))⟩,⟨some 43,.ld 1 false (.t 42),(some (41,true))⟩,⟨some 44,.mov (.t 0),(some (41,true))⟩,⟨some 45,.mov (.t 5),(some (41,true))⟩,⟨some 46,.bin .sub (.t 45) (cI 1),(some (41,true))⟩,⟨some 47,.ixa 2 (.t 44) (.t 46),(some (41,true))⟩,⟨some 48,.fla 1 (.t 47),(some (41,true))⟩,⟨some 49,.ld 1 false (.t 48),(some (41,true))⟩,⟨some 50,.bin .leq (.t 43) (.t 49),(some (41,true))⟩,qO 51 (.pick (.t 41) (.t 50) (.c (.bool false)))]) (.cond (.t 51) (sR [qO 4 (.mov (cI 7))] .ret) .skip))))) (.reg [qB 52 .add 18 (cI 1),qM 18 52]))))
def qeX:IC:=(sR [qO 4 (.mov (cI 0))] (.seq (sR [qM 7 1,qB 8 .lss 7 (cI 0),qM 9 8,⟨some 10,.mov (.t 1),(some (9,false))⟩,⟨some 11,.bin .gtr (.t 10) (cI 200000),(some (9,false))⟩,qO 12 (.pick (.t 9) (.c (.bool true)) (.t 11))] (.cond (.t 12) (sR [qO 4 (.mov (cI 1))] .ret) .skip)) (.seq (sR [qM 13 0,qN 14 13,qB 15 .gtr 14 (cI 1000)] (.cond (.t 15) (sR [qO 4 (.mov (cI 2))] .ret) .skip)) (.seq (sR [qM 16 0,qN 17 16,qO 18 (.mov (cI 0))] (.block 0 (.loop qdG))) (sR [qO 4 (.mov (cI 0))] .ret)))))
def qeK:List IRes:=[.t 4]
theorem qjk:chkF Tryz.prog Tryz.f73 qeX qeK 53=true:=by kernel_rfl
def qfp:IC:=(sR [qT 9 .lss 8 7] (.seq (.cond (.t 9) .skip (.exit 0)) (.seq (.block 1 (sR [qX 10 1 6 8,qL 11 10,qM 5 11] (sR [qM 12 5,qM 13 3,qT 14 .neq 12 13] (.cond (.t 14) (sR [qM 15 5,qM 2 15] .ret) .skip)))) (.reg [qB 16 .add 8 (cI 1),qM 8 16]))))
def qhu:IC:=(sR [qO 2 (.mov (cI 0))] (sR [qO 3 (.mov (cI 0))] (.seq (sR [qM 6 0,qN 7 6,qO 8 (.mov (cI 0))] (.block 0 (.loop qfp))) (sR [qM 17 3,qM 2 17] .ret))))
def qhb:List IRes:=[.t 2]
theorem qlo:chkF Tryz.prog Tryz.f124 qhu qhb 18=true:=by kernel_rfl
def spn (p:Int×Int):List PV:=[int p.1,int p.2]
def sps (l:List (Int×Int)):PV:=.sl 2 (l.map spn)
section
variable {E:Envt}
def badS (size:Int) (p:Int×Int):Bool:=decide (p.1 < 0) || decide (p.2≤p.1) || decide (size < p.2)
def qkh (size:Int) (l:List (Int×Int)) (k:Nat):Int:=
 if badS size (l.getD k (0,0))=true then 1 else if 0 < k∧(l.getD k (0,0)).1≤(l.getD (k - 1) (0,0)).2 then 7 else 0
def qb9 (l:List (Int×Int)) (size:Int):Int:=
 if size < 0∨200000 < size then 1 else if 1000 < l.length then 2 else qaf ((zE l.length).map (qkh size l))
theorem qoe (size:Int) (l:List (Int×Int)) {k:Nat} (h:k < l.length):((zE l.length).map (qkh size l))[k]?=some (qkh size l k):=by
 rw [zz,ya h];rfl
theorem qqw (l:List (Int×Int)) (size:Int) (hl:l.length≤1000000):PCall Tryz.prog E 73 [sps l,int size] (·=int (qb9 l size)):=by
 refine qae mixed Tryz.func73 qjk ?_
 simp only [a0,l0,OS.ao,zk,zr,zi,zo,zl,zm,zu,zd,zh,zj,qeX,qeK,ZZ,WW,Zd,reduceCtorEq,zd,ze,zb,zf,za]
 simp only [sps,ZZ,WW,Zd,reduceCtorEq,zd,ze,zb,zf,za]
 generalize hes:l.map spn=es
 have hln:es.length=l.length:=by rw [← hes];simp
 refine ⟨by simp,?_⟩
 refine br ?_ ?_
 ·intro h
  refine zS ?_
  have:size < 0∨200000 < size:=by simpa using h
  simp [qb9,this]
 intro h
 have hsz:¬ (size < 0∨200000 < size):=by simpa using h
 refine zS ?_
 refine br ?_ ?_
 ·intro h
  refine zS ?_
  have:1000 < l.length:=by have:=of_decide_eq_true h;omega
  simp [qb9,hsz,this]
 intro h
 have hle:¬ 1000 < l.length:=by have:=of_decide_eq_false h;omega
 refine zS ?_
 have hF:qb9 l size=qaf ((zE l.length).map (qkh size l)):=by simp [qb9,hsz,hle]
 rw [hF]
 have hget:=fun {k:Nat} (h:k < l.length)=>qa3 _ k _ (qoe size l h)
 generalize hG:(zE l.length).map (qkh size l)=G at *
 have hGl:G.length=l.length:=by rw [← hG];simp
 refine qad (fun n fr L=>∃ k:Nat,k≤l.length∧n=l.length - k∧qaf G=qaf (G.drop k)∧fr=(.p (.sl 2 es)::.p (int size)::oD (oC (oB (.p (.sl 2 es)::.p (int (es.length:Nat))::.p (int (k:Nat))::oF (oB [])))))∧L=[]) l.length _ [] (by (simp only [ZZ,WW,Zd,reduceCtorEq,zd,ze,zb,zf,za];try trivial)) zE_ ⟨0,by omega,by omega,rfl,rfl,rfl⟩ ?_
 rintro n fr L ⟨k,hk,rfl,hf,rfl,rfl⟩
 simp only [qdG,ZZ,WW,Zd,reduceCtorEq,zd,ze,zb,zf,za]
 refine br ?_ ?_
 ·intro h
  have hlt:k < l.length:=by have:=of_decide_eq_true h;omega
  obtain ⟨x,hx⟩:∃ x,l[k]?=some x:=⟨_,zg hlt⟩
  have hg:es.getD k []=spn x:=by rw [← hes];exact qas hx
  have hd:=hget hlt
  have hxd:l.getD k (0,0)=x:=by simp [zD,hx]
  simp only [ZZ,WW,Zd,reduceCtorEq,zd,ze,zb,zf,za,hg,spn]
  ((with_reducible and_intros)<;>try exact sc_)
  obtain ⟨y,hy⟩:∃ y,l[k - 1]?=some y:=⟨_,zg (by omega)⟩
  have hg2:es.getD (k - 1) []=spn y:=by rw [← hes];exact qas hy
  have hyd:l.getD (k - 1) (0,0)=y:=by simp [zD,hy]
  have hn1:((k:Int) - 1).toNat=k - 1:=by omega
  have he:qkh size l k=if (decide (x.1 < 0) || decide (x.2≤x.1) || decide (size < x.2))=true then 1 else if 0 < k∧x.1≤y.2 then 7 else 0:=by simp only [qkh,badS,hxd,hyd]
  refine br ?_ ?_
  ·intro hb
   refine zS ?_
   rw [hf,hd,he,if_pos hb]
   rfl
  intro hb
  rw [if_neg (by rw [hb];simp)] at he
  refine zS ?_
  refine drg0 ?_
  simp only [ZZ,WW,Zd,reduceCtorEq,zd,ze,zb,zf,za,hn1,hg2,spn]
  ((with_reducible and_intros)<;>try exact sc_)
  refine br ?_ ?_
  ·intro h7
   have:0 < k∧x.1≤y.2:=by simpa using h7
   refine zS ?_
   rw [hf,hd,he,if_pos this]
   rfl
  intro h7
  have:¬ (0 < k∧x.1≤y.2):=by simpa using h7
  refine zS ?_
  refine ⟨qan (by omega) (by omega),?_⟩
  refine qac (l.length - (k+1)) _ [] (by omega) (by (simp only [ZZ,WW,Zd,reduceCtorEq,zd,ze,zb,zf,za];try trivial)) zE_ ⟨k+1,by omega,rfl,by rw [hf,hd,he,if_neg this];rfl,rfl,rfl⟩
 ·intro h
  have hge:l.length≤k:=by have:=of_decide_eq_false h;omega
  refine zS ?_
  rw [hf,zU (by omega)]
  rfl
theorem qjs (l:List (Int×Int)) (size:Int) (hl:l.length≤1000000):PCall Tryz.prog E 79 [sps l,int size] (·=int (qb9 l size)):=by
 refine qae mixed Tryz.func79 qjg ?_
 simp only [a0,l0,OS.ao,zk,zr,zi,zo,zl,zm,zu,zd,zh,zj,qeR,qeG,ZZ,WW,Zd,reduceCtorEq,zd,ze,zb,zf,za]
 simp only [sps,ZZ,WW,Zd,reduceCtorEq,zd,ze,zb,zf,za]
 generalize hes:l.map spn=es
 have hln:es.length=l.length:=by rw [← hes];simp
 refine use1 (qmS _ _ _) rfl (.inl rfl) ?_
 refine zS ?_
 refine use1 (qav _ _) rfl (.inl rfl) ?_
 refine zS ?_
 refine use1 (qav _ _) rfl (.inl rfl) ?_
 refine zS ?_
 refine use1 (qbK [qah (!inE size 0 200000) 1,qah (decide (1000 < (es.length:Int))) 2] (by simp)) rfl (.inl rfl) ?_
 refine zS ?_
 have h0:qaf [qah (!inE size 0 200000) 1,qah (decide (1000 < (es.length:Int))) 2]=if size < 0∨200000 < size then 1 else if 1000 < l.length then 2 else 0:=by
  by_cases a1:size < 0∨200000 < size
  ·have:inE size 0 200000=false:=by simp [inE];omega
   simp [qaf,qah,this,a1]
  ·have:inE size 0 200000=true:=by simp [inE];omega
   by_cases a2:1000 < l.length
   ·have a3:(1000:Int) < es.length:=by omega
    simp [qaf,qah,this,a1,a2,a3]
   ·have a3:¬ (1000:Int) < es.length:=by omega
    simp [qaf,qah,this,a1,a2,a3]
 rw [h0]
 refine br ?_ ?_
 ·intro h
  refine zS ?_
  have h:¬ (if size < 0∨200000 < size then (1:Int) else if 1000 < l.length then 2 else 0)=0:=by simpa using h
  unfold qb9
  split at h
  ·simp [*]
  ·split at h
   ·simp [*]
   ·exact absurd rfl h
 intro h
 have h:(if size < 0∨200000 < size then (1:Int) else if 1000 < l.length then 2 else 0)=0:=by simpa using h
 have hsz:¬ (size < 0∨200000 < size):=by intro h';rw [if_pos h'] at h;cases h
 have hle:¬ 1000 < l.length:=by intro h';rw [if_neg hsz,if_pos h'] at h;cases h
 refine zS ?_
 have hF:qb9 l size=qaf ((zE l.length).map (qkh size l)):=by simp [qb9,hsz,hle]
 rw [hF]
 have hget:=fun {k:Nat} (h:k < l.length)=>qa3 _ k _ (qoe size l h)
 generalize hG:(zE l.length).map (qkh size l)=G at *
 have hGl:G.length=l.length:=by rw [← hG];simp
 refine qad (fun n fr L=>∃ k:Nat,k≤l.length∧n=l.length - k∧qaf G=qaf (G.drop k)∧fr=(.p (.sl 2 es)::.p (int size)::oE (oC (.p (.sl 2 es)::.p (int (es.length:Nat))::.p (int (k:Nat))::oF (oD (oB [])))))∧L=[]) l.length _ [] (by (simp only [ZZ,WW,Zd,reduceCtorEq,zd,ze,zb,zf,za];try trivial)) zE_ ⟨0,by omega,by omega,rfl,rfl,rfl⟩ ?_
 rintro n fr L ⟨k,hk,rfl,hf,rfl,rfl⟩
 simp only [qdA,ZZ,WW,Zd,reduceCtorEq,zd,ze,zb,zf,za]
 refine br ?_ ?_
 ·intro h
  have hlt:k < l.length:=by have:=of_decide_eq_true h;omega
  obtain ⟨x,hx⟩:∃ x,l[k]?=some x:=⟨_,zg hlt⟩
  have hg:es.getD k []=spn x:=by rw [← hes];exact qas hx
  have hd:=hget hlt
  have hxd:l.getD k (0,0)=x:=by simp [zD,hx]
  obtain ⟨y,hy⟩:∃ y,l[k - 1]?=some y:=⟨_,zg (by omega)⟩
  have hg2:es.getD (k - 1) []=spn y:=by rw [← hes];exact qas hy
  have hyd:l.getD (k - 1) (0,0)=y:=by simp [zD,hy]
  have hn1:(max (k:Int) 1 - 1).toNat=k - 1:=by omega
  have he:qkh size l k=if (decide (x.1 < 0) || decide (x.2≤x.1) || decide (size < x.2))=true then 1 else if 0 < k∧x.1≤y.2 then 7 else 0:=by simp only [qkh,badS,hxd,hyd]
  have he2:qaf [qah (decide (x.1 < 0) || decide (x.2≤x.1) || decide (size < x.2)) 1,qah (decide (0 < (k:Int)) && decide (x.1≤y.2)) 7]=qkh size l k:=by
   rw [he]
   generalize (decide (x.1 < 0) || decide (x.2≤x.1) || decide (size < x.2))=b
   cases b with
   |true=>simp [qaf,qah]
   |false=>
    by_cases hq:0 < k∧x.1≤y.2
    ·simp [qaf,qah,hq]
    ·simp [qaf,qah,hq]
  simp only [ZZ,WW,Zd,reduceCtorEq,zd,ze,zb,zf,za,hg,spn]
  ((with_reducible and_intros)<;>try exact sc_)
  refine drg3 (x1:=int (qah (decide (x.1 < 0) || decide (x.2≤x.1) || decide (size < x.2)) 1)) (x2:=int (qah (decide (0 < (k:Int)) && decide (x.1≤y.2)) 7)) (x3:=int (qkh size l k)) ?_
  simp only [ZZ,WW,Zd,reduceCtorEq,zd,ze,zb,zf,za,hn1,hg2,spn]
  ((repeat' (with_reducible apply And.intro))<;>try (first|exact usep (qav _ _) rfl (.inl rfl)|(rw [← he2];exact usep (qbK [_,_] (by simp)) rfl (.inl rfl))|(exact sc_)))
  refine br ?_ ?_
  ·intro h7
   have:¬ qkh size l k=0:=by simpa using h7
   refine zS ?_
   rw [hf,hd,if_neg this]
  intro h7
  have:qkh size l k=0:=by simpa using h7
  refine zS ?_
  refine ⟨qan (by omega) (by omega),?_⟩
  refine qac (l.length - (k+1)) _ [] (by omega) (by (simp only [ZZ,WW,Zd,reduceCtorEq,zd,ze,zb,zf,za];try trivial)) zE_ ⟨k+1,by omega,rfl,by rw [hf,hd,if_pos this],rfl,rfl⟩
 ·intro h
  have hge:l.length≤k:=by have:=of_decide_eq_false h;omega
  refine zS ?_
  rw [hf,zU (by omega)]
  rfl
theorem qDM (l:List Int) (hl:l.length≤1000000):PCall Tryz.prog E 124 [ints l] (·=int (qaf l)):=by
 refine qae mixed Tryz.func124 qlo ?_
 simp only [a0,l0,OS.ao,zk,zr,zi,zo,zl,zm,zu,zd,zh,zj,qhu,qhb,ZZ,WW,Zd,reduceCtorEq,zd,ze,zb,zf,za]
 simp only [ints,ZZ,WW,Zd,reduceCtorEq,zd,ze,zb,zf,za]
 generalize hes:l.map (fun x=>[PV.int IntKind.i64 x])=es
 have hln:es.length=l.length:=by rw [← hes];simp
 refine qad (fun n fr L=>∃ k:Nat,k≤l.length∧n=l.length - k∧qaf l=qaf (l.drop k)∧fr=(.p (.sl 1 es)::oo::oo::.p (int 0)::oo::oo::.p (.sl 1 es)::.p (int (es.length:Nat))::.p (int (k:Nat))::oD (oo::[]))∧L=[]) l.length _ [] (by (simp only [ZZ,WW,Zd,reduceCtorEq,zd,ze,zb,zf,za];try trivial)) zE_ ⟨0,by omega,by omega,rfl,rfl,rfl⟩ ?_
 rintro n fr L ⟨k,hk,rfl,hf,rfl,rfl⟩
 simp only [qfp,ZZ,WW,Zd,reduceCtorEq,zd,ze,zb,zf,za]
 refine br ?_ ?_
 ·intro h
  have hlt:k < l.length:=by have:=of_decide_eq_true h;omega
  obtain ⟨x,hx⟩:∃ x,l[k]?=some x:=⟨_,zg hlt⟩
  have hg:es.getD k []=[PV.int .i64 x]:=by rw [← hes];exact qas hx
  have hd:=qa3 l k x hx
  simp only [ZZ,WW,Zd,reduceCtorEq,zd,ze,zb,zf,za,hg]
  ((with_reducible and_intros)<;>try exact sc_)
  refine br ?_ ?_
  ·intro h2
   refine zS ?_
   rw [hf,hd,if_neg (by simpa using h2)]
  ·intro h2
   refine zS ?_
   refine ⟨qan (by omega) (by omega),?_⟩
   refine qac (l.length - (k+1)) _ [] (by omega) (by (simp only [ZZ,WW,Zd,reduceCtorEq,zd,ze,zb,zf,za];try trivial)) zE_ ⟨k+1,by omega,rfl,by rw [hf,hd,if_pos (by simpa using h2)],rfl,rfl⟩
 ·intro h
  have hge:l.length≤k:=by have:=of_decide_eq_false h;omega
  refine zS ?_
  rw [hf,zU hge]
  rfl
end
section
variable {E:Envt}
end
def qcw:IC:=(sR [qT 12 .lss 11 10] (.seq (.cond (.t 12) .skip (.exit 0)) (.seq (.block 1 (sR [qM 13 6,qM 14 0,qO 15 (.bsl 1 [.c (.int .i64 0),.c (.int .i64 1),.c (.int .i64 2),.c (.int .i64 5)]),qO 16 (.call 43 [.t 14,.t 15]),qT 17 .add 13 16,qM 7 17] (sR [qM 18 7,qM 19 0,qO 20 (.bsl 1 [.c (.int .i64 1),.c (.int .i64 1),.c (.int .i64 2),.c (.int .i64 4),.c (.int .i64 9)]),qO 21 (.call 43 [.t 19,.t 20]),qT 22 .add 18 21,qM 8 22] (.seq (sR [qM 23 8,qM 24 1,qT 25 .gtr 23 24] (.cond (.t 25) (.exit 0) .skip)) (sR [qM 26 5,qM 27 7,qM 28 8,qO 29 (.bld [.int .i64 0,.int .i64 0] [(0,1,.t 27),(1,1,.t 28)]),qO 30 (.bsl 2 [.t 29]),qO 31 (.app 108 2 16 (.t 26) (.t 30)),qM 5 31] (.reg [qM 32 8,qB 33 .add 32 (cI 1),qM 6 33])))))) (.reg [qB 34 .add 11 (cI 1),qM 11 34]))))
def qc9:IC:=(sR [qO 4 (.mov (.c (.nl 2)))] (sR [qO 5 (.nilr 108 2)] (sR [qO 6 (.mov (cI 0))] (.seq (sR [qM 9 0,qO 10 (.call 10 [.t 9,.c (.int .i64 5)]),qO 11 (.mov (cI 0))] (.block 0 (.loop qcw))) (.cut (sR [qM 35 5,qM 4 35] .ret))))))
def qc1:List IRes:=[.t 4]
theorem qgV:chkF Tryz.prog Tryz.f130 qc9 qc1 36=true:=by kernel_rfl
section
variable {E:Envt}
abbrev qi4:Nat:=108
theorem qs0 (l:List Int) (k:Nat) (size:Int) (hk:k≤900000) (hl:l.length≤9223372036854775807) :
  qox Tryz.prog E 130 T (stm l k) [int size] qi4 2 (fun es cs'=>∃ (o:List (Int×Int)) (k':Nat),es=o.map spn∧o.length≤5∧cs'=stm l k'∧k'≤k+20):=by
 unfold qox
 refine qio mixed Tryz.func130 qgV ?_
 simp only [a0,l0,OS.ao,zk,zr,zi,zo,zl,zm,zu,zd,zh,zj,qc9,qc1,ZZ,WW,Zd,reduceCtorEq,zd,ze,zb,zf,za]
 refine useS (qcX l k _ (by omega) hl (by decide)) rfl rfl rfl zE_ ?_
 rintro x cs' ⟨y,rfl,rfl⟩
 have b1:=qe6 y 5
 have b2:=qe7 y 5 (by omega)
 generalize qef y 5=m at *
 refine zS ?_
 refine qad (fun n fr L=>∃ (i k':Nat) (at_:Int) (o:List (Int×Int)),n=5 - i∧i≤5∧(i:Int)≤m∧k'≤k+1+2 * i∧0≤at_∧at_≤20 * i∧o.length≤i∧fr=(.adr (.b 0) 0::.p (int size)::oo::oo::oo::.row (.l 5)::.p (int at_)::oo::oo::oo::.p (int m)::.p (int (i:Nat))::oE (oD []))∧L=[(.b 0,.box ((stm l k').map .p) T),(.l 5,.row (o.map spn) qi4 2 true)]) 5 _ _ (by (simp only [ZZ,WW,Zd,reduceCtorEq,zd,ze,zb,zf,za];try trivial)) zE_ ⟨0,k+1,0,[],by omega,by omega,by omega,by omega,by omega,by omega,by simp,rfl,rfl⟩ ?_
 rintro n fr L ⟨i,k',at_,o,rfl,hi5,him,hk',ha0,ha1,ho,rfl,rfl⟩
 simp only [qcw,ZZ,WW,Zd,reduceCtorEq,zd,ze,zb,zf,za]
 refine br ?_ ?_
 ·intro h
  have hlt:(i:Int) < m:=of_decide_eq_true h
  refine zS ?_
  refine useS (qb8 l k' [0,1,2,5] (by omega) hl (by simp) (by simp)) rfl rfl rfl zE_ ?_
  rintro x cs' ⟨p,rfl,hp,rfl⟩
  have hp':0≤p∧p≤5:=by simp at hp;omega
  refine zS ?_
  refine ⟨qan (by omega) (by omega),?_⟩
  refine useS (qb8 l (k'+1) [1,1,2,4,9] (by omega) hl (by simp) (by simp)) rfl rfl rfl zE_ ?_
  rintro x cs' ⟨q,rfl,hq,rfl⟩
  have hq':0≤q∧q≤9:=by simp at hq;omega
  refine zS ?_
  refine ⟨qan (by omega) (by omega),?_⟩
  refine br ?_ ?_
  ·intro h2
   refine zS ?_
   refine qal zE_ ?_
   refine zS ?_
   exact qm5 5 _ (stm l (k'+1+1)) rfl rfl rfl ⟨o,k'+1+1,rfl,by omega,rfl,by omega⟩
  ·intro h2
   refine zS ?_
   ((with_reducible and_intros)<;>try exact sc_)
   refine qac (5 - (i+1)) _ _ (by omega) (by (simp only [ZZ,WW,Zd,reduceCtorEq,zd,ze,zb,zf,za];try trivial)) (by simp only [List.map_append,spn,ZZ,WW,Zd,reduceCtorEq,zd,ze,zb,zf,za]) ⟨i+1,k'+1+1,at_+p+q+1,o++[(at_+p,at_+p+q)],by omega,by omega,by omega,by omega,by omega,by omega,by simp;omega,rfl,rfl⟩
 ·intro h
  refine zS ?_
  refine qal zE_ ?_
  refine zS ?_
  exact qm5 5 _ (stm l k') rfl rfl rfl ⟨o,k',rfl,by omega,rfl,by omega⟩
end
def qeV:IC:=(.seq (sR [qM 19 8,qF 20 1 7,qL 21 20,qT 22 .lss 19 21] (.cond (.t 22) .skip (.exit 2))) (.seq (.block 3 (.reg [qM 25 5,qM 26 8,qX 27 1 25 26,⟨none,.st 1 (.t 27) (.c (.bool true)),none⟩])) (.reg [qM 23 8,qB 24 .add 23 (cI 1),qM 8 24])))
def qeW:IC:=(sR [qT 14 .lss 13 12] (.seq (.cond (.t 14) .skip (.exit 0)) (.seq (.block 1 (sR [qX 15 2 11 13,qO 16 (.ld 2 true (.t 15)),qO 7 (.alc 108 [.int .i64 0,.int .i64 0]),qS 2 7 16] (sR [qF 17 0 7,qL 18 17,qM 8 18] (.block 2 (.loop qeV))))) (.reg [qB 28 .add 13 (cI 1),qM 13 28]))))
def qgL:IC:=(sR [qO 4 (.mov (.c (.nl 1)))] (sR [qM 9 1,qO 10 (.mks 4 1 1 [.bool false] (.t 9) (.t 9)),qM 5 10] (.seq (sR [qM 11 0,qN 12 11,qO 13 (.mov (cI 0))] (.block 0 (.loop qeW))) (sR [qM 29 5,qM 4 29] .ret))))
def qgx:List IRes:=[.t 4]
theorem qkS:chkF Tryz.prog Tryz.f264 qgL qgx 30=true:=by kernel_rfl
def cov (l:List (Int×Int)) (j:Nat):Bool:=l.any fun s=>decide (s.1≤j) && decide ((j:Int) < s.2)
def bl (p:List Bool):List (List PV):=p.map fun b=>[.bool b]
def tab (n:Nat) (f:Nat→Bool):List Bool:=(zE n).map f
theorem qi3 (n:Nat) (f:Nat→Bool):(tab n f).length=n:=by simp [tab]
theorem qm9 (p:List Bool):(bl p).length=p.length:=by simp [bl]
theorem qpo {n:Nat} {f:Nat→Bool} {i:Nat} (h:i < n):(tab n f)[i]?=some (f i):=by
 unfold tab
 rw [zz,ya h];rfl
theorem qwE {n:Nat} {f:Nat→Bool} {i:Nat} (h:i < n):(bl (tab n f)).getD i []=[.bool (f i)]:=qas (qpo h)
theorem qzf {n:Nat} {f:Nat→Bool} {i:Nat} {b:Bool}:(bl (tab n f)).set i [.bool b]=bl (tab n fun j=>if j=i then b else f j):=by
 refine List.ext_getElem? fun j=>?_
 rw [List.getElem?_set]
 by_cases hj:i=j
 ·subst hj
  simp only [if_true,qm9,qi3]
  by_cases hi:i < n
  ·rw [if_pos hi,show bl (tab n fun j=>if j=i then b else f j)=(tab n fun j=>if j=i then b else f j).map (fun b=>[.bool b]) from rfl,zz,qpo hi]
   simp
  ·rw [if_neg hi,zY (by rw [qm9,qi3];omega)]
 ·rw [if_neg hj]
  unfold bl tab
  rw [zz,zz,zz,zz]
  by_cases hn:j < n
  ·rw [ya hn]
   simp [Ne.symm hj]
  ·rw [zY (by simpa using hn)]
   rfl
theorem qlB {n:Nat} {f g:Nat→Bool} (h:∀ j,j < n→f j=g j):tab n f=tab n g:=List.map_congr_left fun j hj=>h j (by simpa using hj)
theorem qtX {l:List (Int×Int)} {k:Nat} {x:Int×Int} (h:l[k]?=some x) (j:Nat):cov (l.take (k+1)) j=(cov (l.take k) j || (decide (x.1≤j) && decide ((j:Int) < x.2))):=by
 unfold cov
 rw [List.take_add_one,h]
 simp
section
variable {E:Envt}
theorem qur (l:List (Int×Int)) (n:Nat) (hl:l.length≤1000000) (hn:n≤1000000) (hs:∀ s∈l,0≤s.1∧s.2≤n) :
  FCall Tryz.prog E 264 [sps l,int n] 4 1 (·=bl (tab n (cov l))):=by
 unfold FCall
 refine qio mixed Tryz.func264 qkS ?_
 simp only [a0,l0,OS.ao,zk,zr,zi,zo,zl,zm,zu,zd,zh,zj,qgL,qgx,ZZ,WW,Zd,reduceCtorEq,zd,ze,zb,zf,za]
 simp only [sps,ZZ,WW,Zd,reduceCtorEq,zd,ze,zb,zf,za]
 ((with_reducible and_intros)<;>try exact sc_)
 generalize hes:l.map spn=es
 have hln:es.length=l.length:=by rw [← hes];simp
 have h0:List.replicate n [PV.bool false]=bl (tab n (cov (l.take 0))):=by
  unfold bl tab
  rw [List.map_map]
  refine List.ext_getElem? fun j=>?_
  by_cases hj:j < n
  ·simp [hj,cov]
  ·rw [zY (by simpa using hj),zY (by simpa using hj)]
 rw [h0]
 refine qad (fun m fr L=>∃ k:Nat,k≤l.length∧m=l.length - k∧fr=(oC (oo::(.row (.l 10)::oC (oo::(.p (.sl 2 es)::.p (int (es.length:Nat))::.p (int (k:Nat))::oE [])))))∧L=[(.l 10,.row (bl (tab n (cov (l.take k)))) 4 1 true)]) l.length _ _ (by (simp only [ZZ,WW,Zd,reduceCtorEq,zd,ze,zb,zf,za];try trivial)) zE_ ⟨0,by omega,by omega,rfl,rfl⟩ ?_
 rintro m fr L ⟨k,hk,rfl,rfl,rfl⟩
 simp only [qeW,ZZ,WW,Zd,reduceCtorEq,zd,ze,zb,zf,za]
 refine br ?_ ?_
 ·intro h
  have hlt:k < l.length:=by have:=of_decide_eq_true h;omega
  obtain ⟨s,hx⟩:∃ x,l[k]?=some x:=⟨_,zg hlt⟩
  have hg:es.getD k []=spn s:=by rw [← hes];exact qas hx
  have hsb:=hs s (zx hx)
  simp only [ZZ,WW,Zd,reduceCtorEq,zd,ze,zb,zf,za,hg,spn]
  ((with_reducible and_intros)<;>try exact sc_)
  refine qad (fun m fr L=>∃ i:Int,s.1≤i∧(i≤s.2∨i=s.1)∧m=(s.2 - i).toNat∧fr=(oC (oo::(.row (.l 10)::oo::.adr (.l 7) 0::.p (int i)::oo::oo::.p (.sl 2 es)::.p (int (es.length:Nat))::.p (int (k:Nat))::oE [])))∧L=[(.l 10,.row (bl (tab n (fun j=>cov (l.take k) j || (decide (s.1≤j) && decide ((j:Int) < i))))) 4 1 true),(.l 7,.box [.p (int s.1),.p (int s.2)] qi4)]) (s.2 - s.1).toNat (oC (oo::(.row (.l 10)::oo::.adr (.l 7) 0::.p (int s.1)::oo::oo::.p (.sl 2 es)::.p (int (es.length:Nat))::.p (int (k:Nat))::oE []))) [(.l 10,.row (bl (tab n (cov (l.take k)))) 4 1 true),(.l 7,.box [.p (int s.1),.p (int s.2)] qi4)] (by (simp only [ZZ,WW,Zd,reduceCtorEq,zd,ze,zb,zf,za];try trivial)) zE_ ⟨s.1,by omega,.inr rfl,rfl,rfl,?_⟩ ?_
  ·have:tab n (cov (l.take k))=tab n (fun j=>cov (l.take k) j || (decide (s.1≤j) && decide ((j:Int) < s.1))):=qlB fun j _=>by
    have:(decide (s.1≤j) && decide ((j:Int) < s.1))=false:=by simp
    rw [this,Bool.or_false]
   rw [← this]
  rintro m fr L ⟨i,hi1,hi2,rfl,rfl,rfl⟩
  simp only [qeV,ZZ,WW,Zd,reduceCtorEq,zd,ze,zb,zf,za]
  refine br ?_ ?_
  ·intro h2
   have hlt2:=of_decide_eq_true h2
   have hin:i.toNat < n:=by omega
   have hii:((i.toNat:Nat):Int)=i:=by omega
   simp only [ZZ,WW,Zd,reduceCtorEq,zd,ze,zb,zf,za,qm9,qi3,qwE hin]
   simp only [Zaa,List.set_cons_zero,qzf]
   ((with_reducible and_intros)<;>try exact sc_)
   refine qac (s.2 - (i+1)).toNat _ [(.l 10,.row (bl (tab n (fun j=>cov (l.take k) j || (decide (s.1≤j) && decide ((j:Int) < i+1))))) 4 1 true),(.l 7,.box [.p (int s.1),.p (int s.2)] qi4)] (by omega) (by (simp only [ZZ,WW,Zd,reduceCtorEq,zd,ze,zb,zf,za];try trivial)) ?_ ⟨i+1,by omega,.inl (by omega),rfl,rfl,rfl⟩
   refine zS ?_
   congr 2
   refine congrArg bl (qlB fun j hj=>?_)
   by_cases hji:j=i.toNat
   ·subst hji
    simp;omega
   ·have:((j:Int) < i+1)↔((j:Int) < i):=by omega
    simp [hji,this]
  ·intro h2
   have hge2:=of_decide_eq_false h2
   refine zS ?_
   ((with_reducible and_intros)<;>try exact sc_)
   refine qac (l.length - (k+1)) _ _ (by omega) (by (simp only [ZZ,WW,Zd,reduceCtorEq,zd,ze,zb,zf,za];try trivial)) ?_ ⟨k+1,by omega,rfl,rfl,rfl⟩
   refine zS ?_
   congr 2
   refine congrArg bl (qlB fun j hj=>?_)
   rw [qtX hx]
   congr 1
   by_cases h1:s.1≤j
   ·have:((j:Int) < i)↔((j:Int) < s.2):=by omega
    simp [h1,this]
   ·simp [h1]
 ·intro h
  have hge:l.length≤k:=by have:=of_decide_eq_false h;omega
  rw [List.take_of_length_le hge]
  refine zS ?_
  exact qle 10 _ rfl rfl rfl
def onAt (p:List Bool) (i:Nat):Bool:=p.getD i false
theorem qiY {l:List Int} (h:qaf l=0):∀ x∈l,x=0:=by
 induction l with
 |nil=>intro x hx;cases hx
 |cons a l ih=>
  intro x hx
  simp only [qaf] at h
  split at h
  ·rename_i ha
   rcases List.mem_cons.1 hx with rfl|hx
   ·exact ha
   ·exact ih h x hx
  ·rename_i ha;exact absurd h ha
theorem qu8 {l:List (Int×Int)} {size:Int} (h:qb9 l size=0) {k:Nat} {x:Int×Int} (hx:l[k]?=some x):0≤x.1∧x.1 < x.2∧x.2≤size:=by
 unfold qb9 at h
 split at h
 ·cases h
 ·split at h
  ·cases h
  ·have hk:=(List.getElem?_eq_some_iff.1 hx).1
   have:=qiY h (qkh size l k) (zx (qoe size l hk))
   unfold qkh badS at this
   rw [show l.getD k (0,0)=x from by simp [zD,hx]] at this
   split at this
   ·cases this
   ·rename_i hb
    simp at hb
    omega
end
def cv (l:List (Int×Int)) (j:Int):Prop:=∃ s∈l,s.1≤j∧j < s.2
structure Right (l:List (Int×Int)):Prop where
 ok:∀ s∈l,s.1 < s.2
 ord:l.Pairwise (fun s t=>s.2 < t.1)
theorem Right.tail {s:Int×Int} {l:List (Int×Int)} (h:Right (s :: l)):Right l:=⟨fun t ht=>h.ok t (by simp [ht]),(List.pairwise_cons.1 h.ord).2⟩
theorem Right.head {s:Int×Int} {l:List (Int×Int)} (h:Right (s :: l)):s.1 < s.2∧∀ t∈l,s.2 < t.1:=⟨h.ok s (by simp),(List.pairwise_cons.1 h.ord).1⟩
structure FromInv (p:List Bool) (k:Nat) (out:List (Int×Int)):Prop where
 right:Right out
 bd:∀ s∈out,s.2≤k
 last:onAt p (k - 1)=true→0 < k→∃ (i:List (Int×Int)) (y:Int×Int),out=i++[y]∧y.2=(k:Int)
 gap:onAt p (k - 1)=false→0 < k→∀ s∈out,s.2 < k
 cov:∀ j,cv out j↔∃ i:Nat,j=i∧i < k∧onAt p i=true
structure InB (s:Int×Int) (o0 b:List (Int×Int)) (st:Int×List (Int×Int)):Prop where
 lo:s.1≤st.1
 src:st.1=s.1∨∃ x∈b,st.1=x.2
 right:Right st.2
 bd:∀ t∈st.2,t.2 < st.1
 hi:∀ t∈st.2,t∈o0∨t.2≤s.2
 fre:∀ j,st.1≤j→j < s.2→¬ cv b j
 cov:∀ j,cv st.2 j↔cv o0 j∨(s.1≤j∧j < st.1∧j < s.2∧¬ cv b j)
structure InA (b a out:List (Int×Int)):Prop where
 right:Right out
 bd:∀ t∈out,∃ s∈a,t.2≤s.2
 cov:∀ j,cv out j↔cv a j∧¬ cv b j
theorem qqJ {l:List (Int×Int)} {size:Int} (h:qb9 l size=0):∀ s∈l,0≤s.1∧s.1 < s.2∧s.2≤size:=by
 intro s hs
 obtain ⟨i,hi⟩:=List.getElem?_of_mem hs
 exact qu8 h hi
structure InP (l out:List (Int×Int)):Prop where
 right:Right out
 src:∀ t∈out,(∃ u∈l,t.1=u.1)∧∃ u∈l,t.2=u.2
 cov:∀ j,cv out j↔cv l j
section
variable {E:Envt}
end
section
variable {E:Envt}
end
end Go.Proofs.YtehfjlpenlffmaaGreatDoor
namespace Go.Proofs.YtehfjlpenlffmaaGreatDoor
open Nat renaming le_refl→zM,reduceAdd→zd,reduceEqDiff→za,reduceLT→zf,reduceLeDiff→zb,reduceMul→ze,reduceSub→zu
open List renaming cons_append→zl,getD→zD,getElem?_eq_getElem→zg,getElem?_eq_none→zY,getElem?_eq_some_iff→zt,getElem?_range→ya,length_cons→zi,length_nil→zo,map_cons→zk,map_nil→zr,mem_of_getElem?→zx,nil_append→zm,range→zE,replicate_succ→zh,replicate_zero→zj,take_of_length_le→zC,take_succ_eq_append_getElem→zy
open Bool renaming and_eq_true→zq
open Go.RowKit
def E0:Envt where
 ok w:=Lib.Utf8Tabs 3 4 w∧∃ m:Int,w.cell? ⟨1,0,none⟩=some (.int .i64 m)
 bl b:=b=3∨b=4∨b=1
 mono w w' hb h:=by
  obtain ⟨⟨h1,h2⟩,m,h3⟩:=h
  have e1:=hb _ (.inl rfl)
  have e2:=hb _ (.inr (.inl rfl))
  have e3:=hb _ (.inr (.inr rfl))
  exact ⟨⟨fun c hc=>(World.cell?_of_block (w:=w) e1).trans (h1 c hc),fun i hi=>⟨(World.cell?_of_block (w:=w) e2).trans (h2 i hi).1,(World.cell?_of_block (w:=w) e2).trans (h2 i hi).2⟩⟩,m,(World.cell?_of_block (w:=w) e3).trans h3⟩
theorem qnM (s:List UInt8) (hs:s.length≤1000000000000):PCall Tryz.prog E0 208 [.str s] (·=.bool (Lib.validD s)):=
 qbA rfl rfl fun w hE=>(Any.utf8_ValidString Tryz.layValid ⟨s.toArray⟩ w (by simp [ByteArray.size];omega) hE.1).mono fun e w' h=>⟨by rw [h.1];rfl,qiX h.2⟩
def qb5:IC:=(sR [qO 4 (.mov (.c (.bool false)))] (sR [qM 5 0,qO 6 (.sln (.t 5)),qM 7 1,qO 8 (.sln (.t 7)),qT 9 .geq 6 8,qM 10 9,⟨some 11,.mov (.t 0),(some (10,true))⟩,⟨some 12,.mov (.t 0),(some (10,true))⟩,⟨some 13,.sln (.t 12),(some (10,true))⟩,⟨some 14,.mov (.t 1),(some (10,true))⟩,⟨some 15,.sln (.t 14),(some (10,true))⟩,⟨some 16,.bin .sub (.t 13) (.t 15),(some (10,true))⟩,⟨some 17,.ssl (.t 11) (some (.t 16)) none,(some (10,true))⟩,⟨some 18,.mov (.t 1),(some (10,true))⟩,⟨some 19,.bin .eql (.t 17) (.t 18),(some (10,true))⟩,qO 20 (.pick (.t 10) (.t 19) (.c (.bool false))),qM 4 20] .ret))
def qb1:List IRes:=[.t 4]
theorem qe4:chkF Tryz.prog Tryz.f245 qb5 qb1 21=true:=by kernel_rfl
def qgC:IC:=(sR [qO 4 (.mov (.c (.bool false)))] (sR [qM 5 0,qM 6 1,qO 7 (.call 245 [.t 5,.t 6]),qM 4 7] .ret))
def qgr:List IRes:=[.t 4]
theorem qkM:chkF Tryz.prog Tryz.f185 qgC qgr 8=true:=by kernel_rfl
def qh8:IC:=(sR [qO 2 (.mov (cI 0))] (sR [qM 3 0,qO 4 (.sln (.t 3)),qB 5 .gtr 4 (cI 20000),qO 6 (.call 50 [.t 5,.c (.int .i64 2)]),qM 2 6] .ret))
def qhO:List IRes:=[.t 2]
theorem qmb:chkF Tryz.prog Tryz.f308 qh8 qhO 7=true:=by kernel_rfl
def qin:IC:=(sR [qT 10 .lss 9 8] (.seq (.cond (.t 10) .skip (.exit 0)) (.seq (.block 1 (sR [qM 11 9,qM 5 11] (sR [qM 12 0,qM 13 5,qO 14 (.idx (.t 12) (.t 13)),qM 6 14] (sR [qM 15 6,qB 16 .lss 15 (.c (.int .u8 32)),qM 17 16,⟨some 18,.mov (.t 1),(some (17,true))⟩,⟨some 19,.mov (.t 18),(some (17,true))⟩,⟨some 20,.mov (.t 6),(some (19,true))⟩,⟨some 21,.bin .eql (.t 20) (.c (.int .u8 10)),(some (19,true))⟩,⟨some 22,.pick (.t 19) (.t 21) (.c (.bool false)),(some (17,true))⟩,⟨some 23,.not (.t 22),(some (17,true))⟩,qO 24 (.pick (.t 17) (.t 23) (.c (.bool false))),qM 25 24,⟨some 26,.mov (.t 6),(some (25,false))⟩,⟨some 27,.bin .eql (.t 26) (.c (.int .u8 127)),(some (25,false))⟩,qO 28 (.pick (.t 25) (.c (.bool true)) (.t 27))] (.cond (.t 28) (sR [qO 4 (.mov (.c (.bool false)))] .ret) .skip))))) (.reg [qB 29 .add 9 (cI 1),qM 9 29]))))
def qkf:IC:=(sR [qO 4 (.mov (.c (.bool false)))] (.seq (sR [qM 7 0,qO 8 (.sln (.t 7)),qO 9 (.mov (cI 0))] (.block 0 (.loop qin))) (sR [qM 30 0,qO 31 (.call 208 [.t 30]),qM 4 31] .ret)))
def qjZ:List IRes:=[.t 4]
theorem qol:chkF Tryz.prog Tryz.f141 qkf qjZ 32=true:=by kernel_rfl
def qm3:IC:=(sR [qO 2 (.mov (.c (.bool false)))] (sR [qM 3 0,qO 4 (.call 141 [.t 3,.c (.bool true)]),qM 5 4,⟨some 6,.mov (.t 0),(some (5,true))⟩,⟨some 7,.bin .eql (.t 6) (.c (.str [])),(some (5,true))⟩,⟨some 8,.mov (.t 7),(some (5,true))⟩,⟨some 9,.mov (.t 0),(some (8,false))⟩,⟨some 10,.call 185 [.t 9,.c (.str [10])],(some (8,false))⟩,⟨some 11,.pick (.t 8) (.c (.bool true)) (.t 10),(some (5,true))⟩,qO 12 (.pick (.t 5) (.t 11) (.c (.bool false))),qM 2 12] .ret))
def qmZ:List IRes:=[.t 2]
theorem qrF:chkF Tryz.prog Tryz.f186 qm3 qmZ 13=true:=by kernel_rfl
def qfj:IC:=(sR [qO 4 (.mov (cI 0))] (sR [qM 5 0,qO 6 (.call 308 [.t 5]),qM 7 0,qO 8 (.call 186 [.t 7]),qO 9 (.not (.t 8)),qO 10 (.call 50 [.t 9,.c (.int .i64 3)]),qM 11 1,qM 12 0,qO 13 (.sln (.t 12)),qO 14 (.call 79 [.t 11,.t 13]),qO 15 (.bsl 1 [.t 6,.t 10,.t 14]),qO 16 (.call 49 [.t 15]),qM 4 16] .ret))
def qfa:List IRes:=[.t 4]
theorem qjL:chkF Tryz.prog Tryz.f256 qfj qfa 17=true:=by kernel_rfl
def qhq:IC:=(sR [qO 4 (.mov (.c (.bool false)))] (sR [qM 5 1,qM 6 0,qO 7 (.sln (.t 6)),qT 8 .lss 5 7,qM 9 8,⟨some 10,.mov (.t 0),(some (9,true))⟩,⟨some 11,.mov (.t 1),(some (9,true))⟩,⟨some 12,.idx (.t 10) (.t 11),(some (9,true))⟩,⟨some 13,.bin .shr (.t 12) (.c (.int .u64 6)),(some (9,true))⟩,⟨some 14,.bin .eql (.t 13) (.c (.int .u8 2)),(some (9,true))⟩,qO 15 (.pick (.t 9) (.t 14) (.c (.bool false))),qM 4 15] .ret))
def qg7:List IRes:=[.t 4]
theorem qlk:chkF Tryz.prog Tryz.f309 qhq qg7 16=true:=by kernel_rfl
def qfk:IC:=(.seq (sR [qM 27 0,qF 28 1 7,qL 29 28,qO 30 (.call 309 [.t 27,.t 29])] (.cond (.t 30) .skip (.exit 4))) (.block 5 (.reg [qF 31 1 7,qL 32 31,qB 33 .add 32 (cI 1),qF 34 1 7,qS 1 34 33])))
def qfl:IC:=(.seq (sR [qF 14 0 7,qL 15 14,qB 16 .gtr 15 (cI 0),qM 17 16,⟨some 18,.mov (.t 0),(some (17,true))⟩,⟨some 19,.fla 0 (.t 7),(some (17,true))⟩,⟨some 20,.ld 1 false (.t 19),(some (17,true))⟩,⟨some 21,.call 309 [.t 18,.t 20],(some (17,true))⟩,qO 22 (.pick (.t 17) (.t 21) (.c (.bool false)))] (.cond (.t 22) .skip (.exit 2))) (.block 3 (.reg [qF 23 0 7,qL 24 23,qB 25 .sub 24 (cI 1),qF 26 0 7,qS 1 26 25])))
def qfm:IC:=(sR [qT 11 .lss 10 9] (.seq (.cond (.t 11) .skip (.exit 0)) (.seq (.block 1 (sR [qX 12 2 8 10,qO 13 (.ld 2 true (.t 12)),qO 7 (.alc 108 [.int .i64 0,.int .i64 0]),qS 2 7 13] (.seq (.block 2 (.loop qfl)) (.seq (.block 4 (.loop qfk)) (.reg [qM 35 5,qO 36 (.ld 2 true (.t 7)),qO 37 (.bsl 2 [.t 36]),qO 38 (.app 108 2 16 (.t 35) (.t 37)),qM 5 38]))))) (.reg [qB 39 .add 10 (cI 1),qM 10 39]))))
def qhp:IC:=(sR [qO 4 (.mov (.c (.nl 2)))] (sR [qO 5 (.nilr 108 2)] (.seq (sR [qM 8 1,qN 9 8,qO 10 (.mov (cI 0))] (.block 0 (.loop qfm))) (sR [qM 40 5,qM 4 40] .ret))))
def qg6:List IRes:=[.t 4]
theorem qlj:chkF Tryz.prog Tryz.f257 qhp qg6 41=true:=by kernel_rfl
def qfn:IC:=(.seq (sR [qM 29 10,qF 30 1 9,qL 31 30,qT 32 .lss 29 31] (.cond (.t 32) .skip (.exit 2))) (.seq (.block 3 (sR [qM 35 7,qM 36 10,qX 37 1 35 36,qL 38 37,qB 39 .neq 38 (.c (.int .u8 32)),qM 40 39,⟨some 41,.mov (.t 7),(some (40,true))⟩,⟨some 42,.mov (.t 10),(some (40,true))⟩,⟨some 43,.ixa 1 (.t 41) (.t 42),(some (40,true))⟩,⟨some 44,.ld 1 false (.t 43),(some (40,true))⟩,⟨some 45,.bin .neq (.t 44) (.c (.int .u8 10)),(some (40,true))⟩,qO 46 (.pick (.t 40) (.t 45) (.c (.bool false)))] (.cond (.t 46) (.reg [qM 47 7,qM 48 10,qX 49 1 47 48,⟨none,.st 1 (.t 49) (.c (.int .u8 35)),none⟩]) .skip))) (.cut (.reg [qM 33 10,qB 34 .add 33 (cI 1),qM 10 34]))))
def qfo:IC:=(sR [qT 24 .lss 23 22] (.seq (.cond (.t 24) .skip (.exit 0)) (.seq (.block 1 (sR [qX 25 2 21 23,qO 26 (.ld 2 true (.t 25)),qO 9 (.alc 108 [.int .i64 0,.int .i64 0]),qS 2 9 26] (sR [qF 27 0 9,qL 28 27,qM 10 28] (.block 2 (.loop qfn))))) (.reg [qB 50 .add 23 (cI 1),qM 23 50]))))
def qhr:IC:=(sR [qO 4 (.mov (.c (.str []))),qO 5 (.mov (cI 0))] (.seq (sR [qM 11 0,qM 12 1,qO 13 (.call 256 [.t 11,.t 12]),qM 6 13] (sR [qM 14 6,qB 15 .neq 14 (cI 0)] (.cond (.t 15) (sR [qM 16 6,qO 4 (.mov (.c (.str []))),qM 5 16] .ret) .skip))) (sR [qM 17 0,qO 18 (.s2b 5 (.t 17)),qM 7 18] (.seq (sR [qM 19 0,qM 20 1,qO 21 (.call 257 [.t 19,.t 20]),qN 22 21,qO 23 (.mov (cI 0))] (.block 0 (.loop qfo))) (sR [qM 51 7,qO 52 (.b2s (.t 51)),qM 4 52,qO 5 (.mov (cI 0))] .ret)))))
def qg8:List IRes:=[.t 4,.t 5]
theorem qll:chkF Tryz.prog Tryz.f199 qhr qg8 53=true:=by kernel_rfl
section
variable {E:Envt}
def sufE (s t:List UInt8):Bool:=decide ((t.length:Int)≤s.length) && decide (s.drop (s.length - t.length)=t)
theorem qlF (s t:List UInt8) (hs:s.length≤1000000000000):PCall Tryz.prog E 245 [.str s,.str t] (·=.bool (sufE s t)):=by
 refine qae mixed Tryz.func245 qe4 ?_
 simp only [a0,l0,OS.ao,zk,zr,zi,zo,zl,zm,zu,zd,zh,zj,qb5,qb1,ZZ,WW,Zd,reduceCtorEq,zd,ze,zb,zf,za]
 ((with_reducible and_intros)<;>try exact sc_)
 rw [show ((s.length:Int) - t.length).toNat=s.length - t.length from by omega,List.take_length]
 rfl
theorem qnd (s t:List UInt8) (hs:s.length≤1000000000000):PCall Tryz.prog E 185 [.str s,.str t] (·=.bool (sufE s t)):=by
 refine qae mixed Tryz.func185 qkM ?_
 simp only [a0,l0,OS.ao,zk,zr,zi,zo,zl,zm,zu,zd,zh,zj,qgC,qgr,ZZ,WW,Zd,reduceCtorEq,zd,ze,zb,zf,za]
 refine use1 (qlF s t hs) rfl (.inl rfl) ?_
 simp only [ZZ,WW,Zd,reduceCtorEq,zd,ze,zb,zf,za]
def qlR (s:List UInt8):Int:=qah (decide ((20000:Int) < s.length)) 2
theorem qxQ (s:List UInt8):PCall Tryz.prog E 308 [.str s] (·=int (qlR s)):=by
 refine qae mixed Tryz.func308 qmb ?_
 simp only [a0,l0,OS.ao,zk,zr,zi,zo,zl,zm,zu,zd,zh,zj,qh8,qhO,ZZ,WW,Zd,reduceCtorEq,zd,ze,zb,zf,za]
 refine use1 (qav _ 2) rfl (.inl rfl) ?_
 refine zS ?_
 rfl
def insE (s:List UInt8) (i:Int):Bool:=decide (i < s.length) && decide (((s.getD i.toNat 0).toNat:Int) / 64=2)
theorem qro (s:List UInt8) (i:Int) (hi:0≤i):PCall Tryz.prog E 309 [.str s,int i] (·=.bool (insE s i)):=by
 refine qae mixed Tryz.func309 qlk ?_
 simp only [a0,l0,OS.ao,zk,zr,zi,zo,zl,zm,zu,zd,zh,zj,qhq,qg7,ZZ,WW,Zd,reduceCtorEq,zd,ze,zb,zf,za]
 ((with_reducible and_intros)<;>try exact sc_)
 rw [show (2:Int) ^ min (Int.toNat 6) IntKind.u8.bits=64 from rfl,Int.fdiv_eq_ediv_of_nonneg _ (by omega)]
 rfl
def badB (feeds:Bool) (c:UInt8):Bool:=(decide ((c.toNat:Int) < 32) && !(feeds && decide ((c.toNat:Int)=10))) || decide ((c.toNat:Int)=127)
def visE (s:List UInt8) (feeds:Bool):Bool:=(s.all fun c=>!badB feeds c) && Lib.validD s
theorem qmr {s:List UInt8} {k:Nat} {c:UInt8} {p:UInt8→Bool} (h:s[k]?=some c):(s.take (k+1)).all p=((s.take k).all p && p c):=by
 obtain ⟨hk,hx⟩:=zt.1 h
 rw [zy hk,List.all_append,hx]
 simp
end
theorem qmQ (s:List UInt8) (feeds:Bool) (hs:s.length≤1000000000):PCall Tryz.prog E0 141 [.str s,.bool feeds] (·=.bool (visE s feeds)):=by
 refine qae mixed Tryz.func141 qol ?_
 simp only [a0,l0,OS.ao,zk,zr,zi,zo,zl,zm,zu,zd,zh,zj,qkf,qjZ,ZZ,WW,Zd,reduceCtorEq,zd,ze,zb,zf,za]
 refine qad (fun n fr L=>∃ (k:Nat),k≤s.length∧n=s.length - k∧(((s.take k).all fun c=>!badB feeds c)=true)∧fr=(.p (.str s)::.p (.bool feeds)::oC (oB (.p (int (s.length:Nat))::.p (int (k:Nat))::oE (oC (oB [])))))∧L=[]) (s.length) _ [] (by (simp only [ZZ,WW,Zd,reduceCtorEq,zd,ze,zb,zf,za];try trivial)) (by (simp only [ZZ,WW,Zd,reduceCtorEq,zd,ze,zb,zf,za];try trivial)) ⟨0,by omega,by omega,by simp,rfl,rfl⟩ ?_
 rintro n fr L ⟨k,hk,rfl,hall,rfl,rfl⟩
 simp only [qin,ZZ,WW,Zd,reduceCtorEq,zd,ze,zb,zf,za]
 refine br ?_ ?_
 ·intro h
  have hlt:k < s.length:=by have:=of_decide_eq_true h;omega
  obtain ⟨c,hc⟩:∃ x,s[k]?=some x:=⟨_,zg hlt⟩
  have hg:s.getD k 0=c:=by simp [zD,hc]
  have hnx:=qmr (p:=fun c=>!badB feeds c) hc
  simp only [ZZ,WW,Zd,reduceCtorEq,zd,ze,zb,zf,za,hg]
  ((with_reducible and_intros)<;>try exact sc_)
  refine br ?_ ?_
  ·intro hb
   have hb:badB feeds c=true:=hb
   refine zS ?_
   have:(s.all fun c=>!badB feeds c)=false:=by
    rw [List.all_eq_false]
    exact ⟨c,zx hc,by simp [hb]⟩
   simp [visE,this]
  ·intro hb
   have hb:badB feeds c=false:=hb
   refine zS ?_
   ((with_reducible and_intros)<;>try exact sc_)
   refine qac (s.length - (k+1)) _ [] (by omega) (by (simp only [ZZ,WW,Zd,reduceCtorEq,zd,ze,zb,zf,za];try trivial)) (by (simp only [ZZ,WW,Zd,reduceCtorEq,zd,ze,zb,zf,za];try trivial)) ⟨k+1,by omega,rfl,by rw [hnx,hall,hb];rfl,rfl,rfl⟩
 ·intro h
  have hge:s.length≤k:=by have:=of_decide_eq_false h;omega
  rw [zC hge] at hall
  refine zS ?_
  refine use1 (qnM s (by omega)) rfl (.inl rfl) ?_
  refine zS ?_
  simp [visE,hall]
def qgR (s:List UInt8):Bool:=visE s true && (decide (s=[]) || sufE s [10])
theorem qsZ (s:List UInt8) (hs:s.length≤1000000000):PCall Tryz.prog E0 186 [.str s] (·=.bool (qgR s)):=by
 refine qae mixed Tryz.func186 qrF ?_
 simp only [a0,l0,OS.ao,zk,zr,zi,zo,zl,zm,zu,zd,zh,zj,qm3,qmZ,ZZ,WW,Zd,reduceCtorEq,zd,ze,zb,zf,za]
 refine use1 (qmQ s true hs) rfl (.inl rfl) ?_
 refine zS ?_
 ((with_reducible and_intros)<;>try exact sc_)
 refine useG (fun _=>qnd s [10] (by omega)) rfl (.inl rfl) ?_
 refine zS ?_
 ((with_reducible and_intros)<;>try exact sc_)
def tErr (s:List UInt8) (l:List (Int×Int)):Int:=qaf [qlR s,qah (!qgR s) 3,qb9 l s.length]
theorem qqI (s:List UInt8) (l:List (Int×Int)) (hs:s.length≤1000000000) (hl:l.length≤1000000):PCall Tryz.prog E0 256 [.str s,sps l] (·=int (tErr s l)):=by
 refine qae mixed Tryz.func256 qjL ?_
 simp only [a0,l0,OS.ao,zk,zr,zi,zo,zl,zm,zu,zd,zh,zj,qfj,qfa,ZZ,WW,Zd,reduceCtorEq,zd,ze,zb,zf,za]
 refine use1 (qxQ s) rfl (.inl rfl) ?_
 refine zS ?_
 refine use1 (qsZ s hs) rfl (.inl rfl) ?_
 refine zS ?_
 refine use1 (qav _ 3) rfl (.inl rfl) ?_
 refine zS ?_
 refine use1 (qjs l s.length hl) rfl (.inl rfl) ?_
 refine zS ?_
 refine use1 (qbK [qlR s,qah (!qgR s) 3,qb9 l s.length] (by simp)) rfl (.inl rfl) ?_
 refine zS ?_
 rfl
def qaM (s:List UInt8):Nat→Nat
 |0=>0
 |n+1=>if insE s ((n+1:Nat):Int)=true then qaM s n else n+1
def fwdN (s:List UInt8):Nat→Nat→Nat
 |0,n=>n
 |f+1,n=>if insE s (n:Int)=true then fwdN s f (n+1) else n
theorem qmn (s:List UInt8):∀ n,qaM s n≤n
 |0=>zM _
 |n+1=>by
  unfold qaM
  split
  ·have:=qmn s n;omega
  ·exact zM _
theorem qwc {s:List UInt8} {n:Nat} (h:insE s (n:Int)=true):n < s.length:=by
 simp only [insE,zq,decide_eq_true_eq] at h
 omega
theorem qsI (s:List UInt8):∀ f n,n≤fwdN s f n
 |0,n=>zM _
 |f+1,n=>by
  unfold fwdN
  split
  ·have:=qsI s f (n+1);omega
  ·exact zM _
theorem qwg (s:List UInt8):∀ f n,n≤s.length→fwdN s f n≤s.length
 |0,n,h=>h
 |f+1,n,h=>by
  unfold fwdN
  split
  ·rename_i hi
   exact qwg s f (n+1) (qwc hi)
  ·exact h
def pntF (s:List UInt8) (p:Int×Int):Int×Int:=((qaM s p.1.toNat:Nat),(fwdN s (s.length - p.2.toNat) p.2.toNat:Nat))
def qbV (s:List UInt8) (l:List (Int×Int)):List (Int×Int):=l.map (pntF s)
section
variable {E:Envt}
theorem qvr (s:List UInt8) (l:List (Int×Int)) (hs:s.length≤1000000000) (hl:l.length≤1000000) (hb:∀ p∈l,0≤p.1∧p.1≤1000000000∧0≤p.2∧p.2≤s.length) :
  FCall Tryz.prog E 257 [.str s,sps l] qi4 2 (·=(qbV s l).map spn):=by
 unfold FCall
 refine qio mixed Tryz.func257 qlj ?_
 simp only [a0,l0,OS.ao,zk,zr,zi,zo,zl,zm,zu,zd,zh,zj,qhp,qg6,ZZ,WW,Zd,reduceCtorEq,zd,ze,zb,zf,za]
 simp only [sps,ZZ,WW,Zd,reduceCtorEq,zd,ze,zb,zf,za]
 have hln:(l.map spn).length=l.length:=by simp
 have hget:∀ k p,l[k]?=some p→(l.map spn).getD k []=[int p.1,int p.2]:=fun k p hp=>qas hp
 generalize l.map spn=es at hln hget ⊢
 refine qad (fun n fr L=>∃ (k:Nat) (out:List (Int×Int)),k≤l.length∧n=l.length - k∧(out=(qbV s l).take k)∧fr=(.p (.str s)::oo::oo::oo::oo::.row (.l 5)::oo::oo::.p (.sl 2 es)::.p (int (l.length:Nat))::.p (int (k:Nat))::oE (oD (oC (oB []))))∧L=[(.l 5,.row (out.map spn) qi4 2 true)]) (l.length) _ _ (by simp only [hln,ZZ,WW,Zd,reduceCtorEq,zd,ze,zb,zf,za];try trivial) (by (simp only [ZZ,WW,Zd,reduceCtorEq,zd,ze,zb,zf,za];try trivial)) ⟨0,[],by omega,by omega,by simp,rfl,rfl⟩ ?_
 rintro n fr L ⟨k,out,hk,rfl,hout,rfl,rfl⟩
 simp only [qfm,ZZ,WW,Zd,reduceCtorEq,zd,ze,zb,zf,za]
 refine br ?_ ?_
 ·intro h
  have hlt:k < l.length:=by have:=of_decide_eq_true h;omega
  obtain ⟨p,hp⟩:∃ x,l[k]?=some x:=⟨_,zg hlt⟩
  have hg:=hget k p hp
  obtain ⟨hp1,hp2,hp3,hp4⟩:=hb p (zx hp)
  have hol:out.length≤k:=by rw [hout];simp;omega
  obtain ⟨a,ha⟩:=Int.eq_ofNat_of_zero_le hp1
  obtain ⟨b,hbb⟩:=Int.eq_ofNat_of_zero_le hp3
  have hpn:pntF s p=(((qaM s a:Nat):Int),((fwdN s (s.length - b) b:Nat):Int)):=by rw [show p=((a:Int),(b:Int)) from by rw [← ha,← hbb]];rfl
  have hbn:b≤s.length:=by omega
  rw [ha,hbb] at hg
  simp only [ZZ,WW,Zd,reduceCtorEq,zd,ze,zb,zf,za,hg,hln]
  ((with_reducible and_intros)<;>try exact sc_)
  refine qad (fun n fr L=>∃ (f:Nat),f=n∧(qaM s f=qaM s a)∧(f≤a)∧fr=(.p (.str s)::oo::oo::oo::oo::.row (.l 5)::oo::.adr (.l 7) 0::.p (.sl 2 es)::.p (int (l.length:Nat))::.p (int (k:Nat))::oE (oD (oC (oB []))))∧L=[(.l 5,.row (out.map spn) qi4 2 true),(.l 7,.box [.p (int (f:Nat)),.p (int (b:Nat))] qi4)]) (a) (.p (.str s)::oo::oo::oo::oo::.row (.l 5)::oo::.adr (.l 7) 0::.p (.sl 2 es)::.p (int (l.length:Nat))::.p (int (k:Nat))::oE (oD (oC (oB [])))) [(.l 5,.row (out.map spn) qi4 2 true),(.l 7,.box [.p (int (a:Nat)),.p (int (b:Nat))] qi4)] (by (simp only [ZZ,WW,Zd,reduceCtorEq,zd,ze,zb,zf,za];try trivial)) (by (simp only [ZZ,WW,Zd,reduceCtorEq,zd,ze,zb,zf,za];try trivial)) ⟨a,rfl,rfl,zM _,rfl,rfl⟩ ?_
  rintro n fr L ⟨f,rfl,hf,hfa,rfl,rfl⟩
  simp only [qfl,ZZ,WW,Zd,reduceCtorEq,zd,ze,zb,zf,za]
  refine useG (fun _=>qro s (f:Nat) (by omega)) rfl (.inl rfl) ?_
  refine zS ?_
  refine br ?_ ?_
  ·intro hc
   simp only [zq,decide_eq_true_eq] at hc
   obtain ⟨g,rfl⟩:∃ g,f=g+1:=⟨f - 1,by omega⟩
   have hgg:((g+1:Nat):Int) - 1=(g:Nat):=by omega
   simp only [ZZ,WW,Zd,reduceCtorEq,zd,ze,zb,zf,za,hgg]
   ((with_reducible and_intros)<;>try exact sc_)
   refine qac ((g)) _ _ (by omega) (by (simp only [ZZ,WW,Zd,reduceCtorEq,zd,ze,zb,zf,za];try trivial)) (by (simp only [ZZ,WW,Zd,reduceCtorEq,zd,ze,zb,zf,za];try trivial)) ⟨g,rfl,by rw [← hf,qaM,if_pos hc.2],by omega,rfl,rfl⟩
  ·intro hc
   have hfn:f=qaM s a:=by
    rw [← hf]
    cases f with
    |zero=>rfl
    |succ g=>
     have:insE s ((g+1:Nat):Int)=false:=by simpa using hc
     rw [qaM,if_neg (by rw [this];simp)]
   rw [hfn]
   refine zS ?_
   refine qad (fun n fr L=>∃ (g:Nat),s.length - g=n∧(fwdN s (s.length - g) g=fwdN s (s.length - b) b)∧(g≤s.length)∧fr=(.p (.str s)::oo::oo::oo::oo::.row (.l 5)::oo::.adr (.l 7) 0::.p (.sl 2 es)::.p (int (l.length:Nat))::.p (int (k:Nat))::oE (oD (oC (oB []))))∧L=[(.l 5,.row (out.map spn) qi4 2 true),(.l 7,.box [.p (int (qaM s a:Nat)),.p (int (g:Nat))] qi4)]) (s.length - b) _ _ (by (simp only [ZZ,WW,Zd,reduceCtorEq,zd,ze,zb,zf,za];try trivial)) (by (simp only [ZZ,WW,Zd,reduceCtorEq,zd,ze,zb,zf,za];try trivial)) ⟨b,rfl,rfl,hbn,rfl,rfl⟩ ?_
   rintro n fr L ⟨g,rfl,hg2,hgb,rfl,rfl⟩
   simp only [qfk,ZZ,WW,Zd,reduceCtorEq,zd,ze,zb,zf,za]
   refine use1 (qro s (g:Nat) (by omega)) rfl (.inl rfl) ?_
   refine zS ?_
   refine br ?_ ?_
   ·intro hc
    have hgl:=qwc hc
    refine zS ?_
    ((with_reducible and_intros)<;>try exact sc_)
    refine qac (s.length - (g+1)) _ _ (by omega) (by (simp only [ZZ,WW,Zd,reduceCtorEq,zd,ze,zb,zf,za];try trivial)) (by (simp only [ZZ,WW,Zd,reduceCtorEq,zd,ze,zb,zf,za];try trivial)) ⟨g+1,rfl,by rw [← hg2,show s.length - g=(s.length - (g+1))+1 from by omega,fwdN,if_pos hc],by omega,rfl,rfl⟩
   ·intro hc
    have hgn:g=fwdN s (s.length - b) b:=by
     rw [← hg2]
     cases hh:s.length - g with
     |zero=>rfl
     |succ m=>rw [fwdN,if_neg (by rw [hc];simp)]
    rw [hgn]
    refine zS ?_
    simp only [List.length_map]
    ((with_reducible and_intros)<;>try exact sc_)
    refine qac (l.length - (k+1)) _ _ (by omega) (by (simp only [ZZ,WW,Zd,reduceCtorEq,zd,ze,zb,zf,za];try trivial)) (by rw [List.map_append,hpn];simp only [spn,ZZ,WW,Zd,reduceCtorEq,zd,ze,zb,zf,za]) ⟨k+1,out++[pntF s p],by omega,rfl,by rw [hout,qbV,zy (by simpa using hlt)];congr 2;simp;rw [(zt.1 hp).2],rfl,rfl⟩
 ·intro h
  have hge:l.length≤k:=by have:=of_decide_eq_false h;omega
  have:(qbV s l).take k=qbV s l:=zC (by simp [qbV];exact hge)
  rw [this] at hout
  refine zS ?_
  exact qle 5 _ rfl rfl (by rw [hout])
end
def bU (n:Nat) (g:Nat→UInt8):List (List PV):=(zE n).map fun j=>[.int .u8 ((g j).toNat:Nat)]
theorem qzh (n:Nat) (g:Nat→UInt8):(bU n g).length=n:=by simp [bU]
theorem qzi {n i:Nat} {g:Nat→UInt8} (h:i < n):(bU n g).getD i []=[.int .u8 ((g i).toNat:Nat)]:=by
 simp [bU,zD,List.getElem?_map,ya h]
theorem qzg {n i:Nat} {g:Nat→UInt8} (c:UInt8):(bU n g).set i [.int .u8 (c.toNat:Nat)]=bU n (fun j=>if j=i then c else g j):=by
 apply List.ext_getElem?
 intro j
 by_cases hj:j < n
 ·by_cases he:j=i
  ·subst he
   rw [List.getElem?_set_self (by simpa [bU] using hj)]
   simp [bU,ya hj]
  ·rw [List.getElem?_set_ne (fun e=>he e.symm)]
   simp [bU,ya hj,he]
 ·rw [zY (by simpa [bU] using hj),zY (by simpa [bU] using hj)]
theorem qCt (s:List UInt8):(s.map fun q=>[PV.int .u8 (q.toNat:Nat)])=bU s.length (fun j=>s.getD j 0):=by
 apply List.ext_getElem?
 intro j
 by_cases hj:j < s.length
 ·simp [bU,ya hj,zg hj,zD]
 ·rw [zY (by simpa using hj),zY (by simpa [bU] using hj)]
theorem qt4 (n:Nat) (g:Nat→UInt8):qk6 (bU n g)=some ((zE n).map g):=by
 have:∀ l:List Nat,qk6 (l.map fun j=>[PV.int .u8 ((g j).toNat:Nat)])=some (l.map g):=by
  intro l
  induction l with
  |nil=>rfl
  |cons x r ih=>simp [qk6,ih]
 exact this _
def qgQ (c:UInt8):Bool:=decide ((c.toNat:Int)=32) || decide ((c.toNat:Int)=10)
def redG (s:List UInt8) (m:Nat→Bool) (j:Nat):UInt8:=if (m j && !qgQ (s.getD j 0))=true then 35 else s.getD j 0
theorem qvn {s:List UInt8} {m:Nat→Bool} {i:Nat} (h:qgQ (redG s m i)=false):(fun j=>if j=i then 35 else redG s m j)=redG s (fun j=>m j || decide (j=i)):=by
 funext j
 by_cases hj:j=i
 ·subst hj
  have hb:qgQ (s.getD j 0)=false:=by
   unfold redG at h
   split at h
   ·rename_i hc;simp at hc;exact hc.2
   ·exact h
  simp only [redG,if_true,hb];simp
 ·simp [redG,hj]
theorem qtw {s:List UInt8} {m:Nat→Bool} {i:Nat} (h:qgQ (redG s m i)=true):redG s m=redG s (fun j=>m j || decide (j=i)):=by
 funext j
 by_cases hj:j=i
 ·subst hj
  have hb:qgQ (s.getD j 0)=true:=by
   unfold redG at h
   split at h
   ·exact absurd h (by decide)
   ·exact h
  simp only [redG,hb];simp
 ·simp [redG,hj]
def qbU (s:List UInt8) (l:List (Int×Int)):List UInt8:=(zE s.length).map (redG s (cov (qbV s l)))
theorem qu3 {s:List UInt8} {l:List (Int×Int)} (h:tErr s l=0):s.length≤20000∧qgR s=true∧qb9 l s.length=0:=by
 have hm:=qiY h
 have h1:=hm (qlR s) (by simp)
 have h2:=hm (qah (!qgR s) 3) (by simp)
 have h3:=hm (qb9 l s.length) (by simp)
 refine ⟨?_,?_,h3⟩
 ·unfold qlR qah at h1
  split at h1
  ·cases h1
  ·rename_i hh;simp at hh;omega
 ·unfold qah at h2
  split at h2
  ·cases h2
  ·rename_i hh;simpa using hh
theorem qwS (s:List UInt8) (l:List (Int×Int)) (hs:s.length≤1000000000) (hl:l.length≤1000000) :
  PCall Tryz.prog E0 199 [.str s,sps l] (·=.tup [.str (if tErr s l=0 then qbU s l else []),int (tErr s l)]):=by
 refine qae mixed Tryz.func199 qll ?_
 simp only [a0,l0,OS.ao,zk,zr,zi,zo,zl,zm,zu,zd,zh,zj,qhr,qg8,ZZ,WW,Zd,reduceCtorEq,zd,ze,zb,zf,za]
 refine use1 (qqI s l hs hl) rfl (.inl rfl) ?_
 refine zS ?_
 refine br ?_ ?_
 ·intro h
  have h:¬ tErr s l=0:=by simpa using h
  refine zS ?_
  rw [if_neg h]
 ·intro h
  have h:tErr s l=0:=by simpa using h
  obtain ⟨h1,h2,h3⟩:=qu3 h
  have h4:=qqJ h3
  rw [if_pos h,h]
  refine zS ?_
  ((with_reducible and_intros)<;>try exact sc_)
  refine useF (qvr s l hs hl (fun p hp=>by have:=h4 p hp;omega)) rfl rfl ?_
  rintro es rfl
  have hpl:(qbV s l).length=l.length:=by simp [qbV]
  have hpb:∀ p∈qbV s l,0≤p.1∧0≤p.2∧p.2≤s.length:=by
   intro p hp
   obtain ⟨q,hq,rfl⟩:=List.mem_map.1 hp
   have:=h4 q hq
   have:=qwg s (s.length - q.2.toNat) q.2.toNat (by omega)
   simp only [pntF]
   omega
  unfold qbU
  generalize qbV s l=ps at *
  have hln:(ps.map spn).length=l.length:=by simp [hpl]
  rw [qCt]
  simp only [ZZ,WW,Zd,reduceCtorEq,zd,ze,zb,zf,za,hln]
  have hget:∀ k p,ps[k]?=some p→(ps.map spn).getD k []=[int p.1,int p.2]:=fun k p hp=>qas hp
  generalize hes:ps.map spn=es at hln hget ⊢
  refine qad (fun n fr L=>∃ (k:Nat) (g:Nat→UInt8),k≤l.length∧n=l.length - k∧(g=redG s (cov (ps.take k)))∧fr=(oC (oB (oo::(.row (.l 18)::oD (oC (oo::(.row (.l 21)::.p (int (l.length:Nat))::.p (int (k:Nat))::oE (oD (oC (oo::[]))))))))))∧L=[(.l 18,.row (bU s.length g) 5 1 false),(.l 21,.row es qi4 2 true)]) (l.length) _ _ (by (simp only [ZZ,WW,Zd,reduceCtorEq,zd,ze,zb,zf,za];try trivial)) (by (simp only [ZZ,WW,Zd,reduceCtorEq,zd,ze,zb,zf,za];try trivial)) ⟨0,fun j=>s.getD j 0,by omega,by omega,by funext j;simp [redG,cov],rfl,rfl⟩ ?_
  rintro n fr L ⟨k,g,hk,rfl,hg,rfl,rfl⟩
  simp only [qfo,ZZ,WW,Zd,reduceCtorEq,zd,ze,zb,zf,za]
  refine br ?_ ?_
  ·intro h
   have hlt:k < ps.length:=by have:=of_decide_eq_true h;omega
   obtain ⟨p,hp⟩:∃ x,ps[k]?=some x:=⟨_,zg hlt⟩
   have hg1:=hget k p hp
   obtain ⟨hp1,hp3,hp4⟩:=hpb p (zx hp)
   obtain ⟨a,ha⟩:=Int.eq_ofNat_of_zero_le hp1
   obtain ⟨b,hbb⟩:=Int.eq_ofNat_of_zero_le hp3
   have hbn:b≤s.length:=by omega
   have hcv:=fun j=>qtX hp j
   rw [ha,hbb] at hg1 hcv
   simp only [ZZ,WW,Zd,reduceCtorEq,zd,ze,zb,zf,za,hg1,hln]
   ((with_reducible and_intros)<;>try exact sc_)
   refine qad (fun n fr L=>∃ (i:Nat) (g':Nat→UInt8),b - i=n∧(a≤i)∧(i≤max a b)∧(g'=redG s (fun j=>cov (ps.take k) j || (decide (a≤j) && decide (j < i))))∧fr=(oC (oB (oo::(.row (.l 18)::oo::.adr (.l 9) 0::.p (int (i:Nat))::oD (oB (.row (.l 21)::.p (int (l.length:Nat))::.p (int (k:Nat))::oE (oD (oC (oo::[])))))))))∧L=[(.l 18,.row (bU s.length g') 5 1 false),(.l 21,.row es qi4 2 true),(.l 9,.box [.p (int (a:Nat)),.p (int (b:Nat))] qi4)]) (b - a) (oC (oB (oo::(.row (.l 18)::oo::.adr (.l 9) 0::.p (int (a:Nat))::oD (oB (.row (.l 21)::.p (int (l.length:Nat))::.p (int (k:Nat))::oE (oD (oC (oo::[]))))))))) [(.l 18,.row (bU s.length g) 5 1 false),(.l 21,.row es qi4 2 true),(.l 9,.box [.p (int (a:Nat)),.p (int (b:Nat))] qi4)] (by (simp only [ZZ,WW,Zd,reduceCtorEq,zd,ze,zb,zf,za];try trivial)) (by (simp only [ZZ,WW,Zd,reduceCtorEq,zd,ze,zb,zf,za];try trivial)) ⟨a,g,rfl,zM _,by omega,by rw [hg];congr 1;funext j;simp;omega,rfl,rfl⟩ ?_
   rintro n fr L ⟨i,g',rfl,hi,him,hg',rfl,rfl⟩
   simp only [qfn,ZZ,WW,Zd,reduceCtorEq,zd,ze,zb,zf,za]
   refine br ?_ ?_
   ·intro h2
    have h2:=of_decide_eq_true h2
    have hib:i < b:=by omega
    have hgi:(bU s.length g').getD i []=[.int .u8 ((g' i).toNat:Nat)]:=qzi (by omega)
    have hbl:=qzh s.length g'
    have hset:(bU s.length g').set i [.int .u8 35]=bU s.length (fun j=>if j=i then 35 else g' j):=qzg (35:UInt8)
    have hmm:(fun j=>(cov (ps.take k) j || (decide (a≤j) && decide (j < i))) || decide (j=i))=(fun j=>cov (ps.take k) j || (decide (a≤j) && decide (j < i+1))):=by
     funext j
     rw [Bool.or_assoc]
     congr 1
     by_cases hj:j=i
     ·subst hj;simp [hi]
     ·simp only [hj,decide_false,Bool.or_false]
      congr 1
      simp only [decide_eq_decide]
      omega
    simp only [ZZ,WW,Zd,reduceCtorEq,zd,ze,zb,zf,za,hgi,hbl]
    ((with_reducible and_intros)<;>try exact sc_)
    refine br ?_ ?_
    ·intro hc
     have hb:qgQ (g' i)=false:=by
      simp only [zq,Bool.not_eq_true'] at hc
      simp [qgQ,hc.1,hc.2]
     have hnx:=qvn (s:=s) (i:=i) (by rw [← hg'];exact hb)
     rw [← hg',hmm] at hnx
     simp only [ZZ,WW,Zd,reduceCtorEq,zd,ze,zb,zf,za,hgi,hbl,hset,hnx]
     ((with_reducible and_intros)<;>try exact sc_)
     refine qal zE_ ?_
     refine zS ?_
     ((with_reducible and_intros)<;>try exact sc_)
     refine qac (b - (i+1)) _ _ (by omega) (by (simp only [ZZ,WW,Zd,reduceCtorEq,zd,ze,zb,zf,za];try trivial)) (by (simp only [ZZ,WW,Zd,reduceCtorEq,zd,ze,zb,zf,za];try trivial)) ⟨i+1,redG s (fun j=>cov (ps.take k) j || (decide (a≤j) && decide (j < i+1))),rfl,by omega,by omega,rfl,rfl,rfl⟩
    ·intro hc
     have hb:qgQ (g' i)=true:=by
      simp only [Bool.and_eq_false_iff,Bool.not_eq_false'] at hc
      rcases hc with hc|hc<;>simp [qgQ,hc]
     have hnx:=qtw (s:=s) (i:=i) (by rw [← hg'];exact hb)
     rw [hmm] at hnx
     refine zS ?_
     refine qal zE_ ?_
     refine zS ?_
     ((with_reducible and_intros)<;>try exact sc_)
     refine qac (b - (i+1)) _ _ (by omega) (by (simp only [ZZ,WW,Zd,reduceCtorEq,zd,ze,zb,zf,za];try trivial)) (by (simp only [ZZ,WW,Zd,reduceCtorEq,zd,ze,zb,zf,za];try trivial)) ⟨i+1,g',rfl,by omega,by omega,by rw [hg'];exact hnx,rfl,rfl⟩
   ·intro h2
    have h2:=of_decide_eq_false h2
    have hnx:g'=redG s (cov (ps.take (k+1))):=by
     rw [hg']
     congr 1
     funext j
     rw [hcv]
     congr 1
     rw [Bool.eq_iff_iff,zq,zq,decide_eq_true_eq,decide_eq_true_eq,decide_eq_true_eq,decide_eq_true_eq]
     omega
    refine zS ?_
    ((with_reducible and_intros)<;>try exact sc_)
    refine qac (l.length - (k+1)) _ _ (by omega) (by (simp only [ZZ,WW,Zd,reduceCtorEq,zd,ze,zb,zf,za];try trivial)) (by (simp only [ZZ,WW,Zd,reduceCtorEq,zd,ze,zb,zf,za];try trivial)) ⟨k+1,g',by omega,rfl,hnx,rfl,rfl⟩
  ·intro h
   have hge:ps.length≤k:=by have:=of_decide_eq_false h;omega
   rw [zC hge] at hg
   simp only [ZZ,WW,Zd,reduceCtorEq,zd,ze,zb,zf,za,qt4]
   rw [hg]
end Go.Proofs.YtehfjlpenlffmaaGreatDoor
