import Derived.Test.YtehfjlpenlffmaaGreatDoorZ6
set_option linter.unusedVariables false
set_option linter.unusedSimpArgs false
set_option linter.defProp false
namespace Go.Proofs.YtehfjlpenlffmaaGreatDoor
open Nat renaming reduceSub→zp,reduceAdd→zd,reduceMul→ze,reduceLeDiff→zb,reduceLT→zf,reduceEqDiff→za
open List renaming map_cons→zj,map_nil→zo,length_cons→zi,length_nil→zn,cons_append→zl,nil_append→zm,replicate_succ→zh,replicate_zero→zk,getD→zt
def qc0:IC:=(.seq (.reg [qO 19 (.bin .lss (.t 18) (.t 17))]) (.seq (.cond (.t 19) .skip (.exit 0)) (.seq (.block 1 (.seq (.reg [qM 20 18,qO 21 (.ixa 2 (.t 16) (.t 18)),qO 22 (.ld 2 true (.t 21)),qO 6 (.alc 108 [.int .i64 0,.int .i64 0]),qM 5 20,⟨none,.st 2 (.t 6) (.t 22),none⟩]) (.seq (.seq (.reg [qO 23 (.fla 0 (.t 6)),qO 24 (.ld 1 false (.t 23)),qO 25 (.bin .lss (.t 24) (.c (.int .i64 0))),qM 26 25,⟨some 27,.fla 0 (.t 6),(some (26,false))⟩,⟨some 28,.ld 1 false (.t 27),(some (26,false))⟩,⟨some 29,.fla 1 (.t 6),(some (26,false))⟩,⟨some 30,.ld 1 false (.t 29),(some (26,false))⟩,⟨some 31,.bin .geq (.t 28) (.t 30),(some (26,false))⟩,qO 32 (.pick (.t 26) (.c (.bool true)) (.t 31)),qM 33 32,⟨some 34,.fla 1 (.t 6),(some (33,false))⟩,⟨some 35,.ld 1 false (.t 34),(some (33,false))⟩,⟨some 36,.mov (.t 1),(some (33,false))⟩,⟨some 37,.bin .gtr (.t 35) (.t 36),(some (33,false))⟩,qO 38 (.pick (.t 33) (.c (.bool true)) (.t 37))]) (.cond (.t 38) (.seq (.reg [qO 4 (.mov (.c (.int .i64 1)))]) .ret) .skip)) (.seq (.drg [qM 39 5,qO 40 (.bin .gtr (.t 39) (.c (.int .i64 0))),qM 41 40,⟨some 42,.fla 0 (.t 6),(some (41,true))⟩,⟨some 43,.ld 1 false (.t 42),(some (41,true))⟩,⟨some 44,.mov (.t 0),(some (41,true))⟩,⟨some 45,.mov (.t 5),(some (41,true))⟩,⟨some 46,.bin .sub (.t 45) (.c (.int .i64 1)),(some (41,true))⟩,⟨some 47,.ixa 2 (.t 44) (.t 46),(some (41,true))⟩,⟨some 48,.fla 1 (.t 47),(some (41,true))⟩,⟨some 49,.ld 1 false (.t 48),(some (41,true))⟩,⟨some 50,.bin .leq (.t 43) (.t 49),(some (41,true))⟩,qO 51 (.pick (.t 41) (.t 50) (.c (.bool false)))]) (.cond (.t 51) (.seq (.reg [qO 4 (.mov (.c (.int .i64 7)))]) .ret) .skip))))) (.reg [qO 52 (.bin .add (.t 18) (.c (.int .i64 1))),qM 18 52]))))
def qd6:IC:=(.seq (.reg [qO 4 (.mov (.c (.int .i64 0)))]) (.seq (.seq (.reg [qM 7 1,qO 8 (.bin .lss (.t 7) (.c (.int .i64 0))),qM 9 8,⟨some 10,.mov (.t 1),(some (9,false))⟩,⟨some 11,.bin .gtr (.t 10) (.c (.int .i64 200000)),(some (9,false))⟩,qO 12 (.pick (.t 9) (.c (.bool true)) (.t 11))]) (.cond (.t 12) (.seq (.reg [qO 4 (.mov (.c (.int .i64 1)))]) .ret) .skip)) (.seq (.seq (.reg [qM 13 0,qO 14 (.len (.t 13)),qO 15 (.bin .gtr (.t 14) (.c (.int .i64 1000)))]) (.cond (.t 15) (.seq (.reg [qO 4 (.mov (.c (.int .i64 2)))]) .ret) .skip)) (.seq (.seq (.reg [qM 16 0,qO 17 (.len (.t 16)),qO 18 (.mov (.c (.int .i64 0)))]) (.block 0 (.loop qc0))) (.seq (.reg [qO 4 (.mov (.c (.int .i64 0)))]) .ret)))))
def qdU:List IRes:=[.t 4]
theorem qha:chkF Tryz.prog Tryz.f73 qd6 qdU 53=true:=by kernel_rfl
def qen:IC:=(.seq (.reg [qO 9 (.bin .lss (.t 8) (.t 7))]) (.seq (.cond (.t 9) .skip (.exit 0)) (.seq (.block 1 (.seq (.reg [qO 10 (.ixa 1 (.t 6) (.t 8)),qO 11 (.ld 1 false (.t 10)),qM 5 11]) (.seq (.reg [qM 12 5,qM 13 3,qO 14 (.bin .neq (.t 12) (.t 13))]) (.cond (.t 14) (.seq (.reg [qM 15 5,qM 2 15]) .ret) .skip)))) (.reg [qO 16 (.bin .add (.t 8) (.c (.int .i64 1))),qM 8 16]))))
def qfZ:IC:=(.seq (.reg [qO 2 (.mov (.c (.int .i64 0)))]) (.seq (.reg [qO 3 (.mov (.c (.int .i64 0)))]) (.seq (.seq (.reg [qM 6 0,qO 7 (.len (.t 6)),qO 8 (.mov (.c (.int .i64 0)))]) (.block 0 (.loop qen))) (.seq (.reg [qM 17 3,qM 2 17]) .ret))))
def qfL:List IRes:=[.t 2]
theorem qiM:chkF Tryz.prog Tryz.f124 qfZ qfL 18=true:=by kernel_rfl
def spn (p:Int×Int):List PV:=[int p.1,int p.2]
def sps (l:List (Int×Int)):PV:=.sl 2 (l.map spn)
section
variable {E:Envt}
def badS (size:Int) (p:Int×Int):Bool:=decide (p.1 < 0) || decide (p.2≤p.1) || decide (size < p.2)
def qmK (size:Int) (l:List (Int×Int)) (k:Nat):Int:=
 if badS size (l.getD k (0,0))=true then 1 else if 0 < k∧(l.getD k (0,0)).1≤(l.getD (k - 1) (0,0)).2 then 7 else 0
def qgE (l:List (Int×Int)) (size:Int):Int:=
 if size < 0∨200000 < size then 1 else if 1000 < l.length then 2 else qaf ((List.range l.length).map (qmK size l))
theorem qnX (size:Int) (l:List (Int×Int)) {k:Nat} (h:k < l.length):((List.range l.length).map (qmK size l))[k]?=some (qmK size l k):=by
 rw [List.getElem?_map,List.getElem?_range h];rfl
theorem qm6 (l:List (Int×Int)) (size:Int) (hl:l.length≤1000000):PCall Tryz.prog E 73 [sps l,int size] (·=int (qgE l size)):=by
 refine qag mixed Tryz.func73 qha ?_
 simp only [a0,l0,OS.ao,zj,zo,zi,zn,zl,zm,zp,zd,zh,zk,qd6,qdU,ZZ,WW,Ze,reduceCtorEq,zd,ze,zb,zf,za]
 simp only [sps,ZZ,WW,Ze,reduceCtorEq,zd,ze,zb,zf,za]
 generalize hes:l.map spn=es
 have hln:es.length=l.length:=by rw [← hes];simp
 refine ⟨by simp,?_⟩
 refine br ?_ ?_
 ·intro h
  simp only [ZZ,WW,Ze,reduceCtorEq,zd,ze,zb,zf,za]
  have:size < 0∨200000 < size:=by simpa using h
  simp [qgE,this]
 intro h
 have hsz:¬ (size < 0∨200000 < size):=by simpa using h
 simp only [ZZ,WW,Ze,reduceCtorEq,zd,ze,zb,zf,za]
 refine br ?_ ?_
 ·intro h
  simp only [ZZ,WW,Ze,reduceCtorEq,zd,ze,zb,zf,za]
  have:1000 < l.length:=by have:=of_decide_eq_true h;omega
  simp [qgE,hsz,this]
 intro h
 have hle:¬ 1000 < l.length:=by have:=of_decide_eq_false h;omega
 simp only [ZZ,WW,Ze,reduceCtorEq,zd,ze,zb,zf,za]
 have hF:qgE l size=qaf ((List.range l.length).map (qmK size l)):=by simp [qgE,hsz,hle]
 rw [hF]
 have hget:=fun {k:Nat} (h:k < l.length)=>qbr _ k _ (qnX size l h)
 generalize hG:(List.range l.length).map (qmK size l)=G at *
 have hGl:G.length=l.length:=by rw [← hG];simp
 refine qad (fun n fr L=>∃ k:Nat,k≤l.length∧n=l.length - k∧qaf G=qaf (G.drop k)∧fr=[.p (.sl 2 es),.p (int size),oo,oo,oo,oo,oo,oo,oo,oo,oo,oo,oo,oo,oo,oo,.p (.sl 2 es),.p (int (es.length:Nat)),.p (int (k:Nat)),oo,oo,oo,oo,oo,oo,oo,oo,oo,oo,oo,oo,oo,oo,oo,oo,oo,oo,oo,oo,oo,oo,oo,oo,oo,oo,oo,oo,oo,oo,oo,oo,oo,oo]∧L=[]) l.length [.p (.sl 2 es),.p (int size),oo,oo,oo,oo,oo,oo,oo,oo,oo,oo,oo,oo,oo,oo,.p (.sl 2 es),.p (int (es.length:Nat)),.p (int (0:Nat)),oo,oo,oo,oo,oo,oo,oo,oo,oo,oo,oo,oo,oo,oo,oo,oo,oo,oo,oo,oo,oo,oo,oo,oo,oo,oo,oo,oo,oo,oo,oo,oo,oo,oo] [] (by (simp only [ZZ,WW,Ze,reduceCtorEq,zd,ze,zb,zf,za];try trivial)) zE_ ⟨0,by omega,by omega,rfl,rfl,rfl⟩ ?_
 rintro n fr L ⟨k,hk,rfl,hf,rfl,rfl⟩
 simp only [qc0,ZZ,WW,Ze,reduceCtorEq,zd,ze,zb,zf,za]
 refine br ?_ ?_
 ·intro h
  have hlt:k < l.length:=by have:=of_decide_eq_true h;omega
  obtain ⟨x,hx⟩:∃ x,l[k]?=some x:=⟨_,List.getElem?_eq_getElem hlt⟩
  have hg:es.getD k []=spn x:=by rw [← hes];exact qaH hx
  have hd:=hget hlt
  have hxd:l.getD k (0,0)=x:=by simp [zt,hx]
  simp only [ZZ,WW,Ze,reduceCtorEq,zd,ze,zb,zf,za,hg,spn]
  ((repeat' (with_reducible apply And.intro))<;>try ((exact sc_)))
  obtain ⟨y,hy⟩:∃ y,l[k - 1]?=some y:=⟨_,List.getElem?_eq_getElem (by omega)⟩
  have hg2:es.getD (k - 1) []=spn y:=by rw [← hes];exact qaH hy
  have hyd:l.getD (k - 1) (0,0)=y:=by simp [zt,hy]
  have hn1:((k:Int) - 1).toNat=k - 1:=by omega
  have he:qmK size l k=if (decide (x.1 < 0) || decide (x.2≤x.1) || decide (size < x.2))=true then 1 else if 0 < k∧x.1≤y.2 then 7 else 0:=by simp only [qmK,badS,hxd,hyd]
  refine br ?_ ?_
  ·intro hb
   simp only [ZZ,WW,Ze,reduceCtorEq,zd,ze,zb,zf,za]
   rw [hf,hd,he,if_pos hb]
   rfl
  intro hb
  rw [if_neg (by rw [hb];simp)] at he
  simp only [ZZ,WW,Ze,reduceCtorEq,zd,ze,zb,zf,za]
  refine drg0 ?_
  simp only [ZZ,WW,Ze,reduceCtorEq,zd,ze,zb,zf,za,hn1,hg2,spn]
  ((repeat' (with_reducible apply And.intro))<;>try ((exact sc_)))
  refine br ?_ ?_
  ·intro h7
   have:0 < k∧x.1≤y.2:=by simpa using h7
   simp only [ZZ,WW,Ze,reduceCtorEq,zd,ze,zb,zf,za]
   rw [hf,hd,he,if_pos this]
   rfl
  intro h7
  have:¬ (0 < k∧x.1≤y.2):=by simpa using h7
  simp only [ZZ,WW,Ze,reduceCtorEq,zd,ze,zb,zf,za]
  refine ⟨qar (by omega) (by omega),?_⟩
  refine qac (l.length - (k+1)) [.p (.sl 2 es),.p (int size),oo,oo,oo,oo,oo,oo,oo,oo,oo,oo,oo,oo,oo,oo,.p (.sl 2 es),.p (int (es.length:Nat)),.p (int ((k+1:Nat))),oo,oo,oo,oo,oo,oo,oo,oo,oo,oo,oo,oo,oo,oo,oo,oo,oo,oo,oo,oo,oo,oo,oo,oo,oo,oo,oo,oo,oo,oo,oo,oo,oo,oo] [] (by omega) (by (simp only [ZZ,WW,Ze,reduceCtorEq,zd,ze,zb,zf,za];try trivial)) zE_ ⟨k+1,by omega,rfl,by rw [hf,hd,he,if_neg this];rfl,rfl,rfl⟩
 ·intro h
  have hge:l.length≤k:=by have:=of_decide_eq_false h;omega
  simp only [ZZ,WW,Ze,reduceCtorEq,zd,ze,zb,zf,za]
  rw [hf,List.drop_eq_nil_of_le (by omega)]
  rfl
theorem qzX (l:List Int) (hl:l.length≤1000000):PCall Tryz.prog E 124 [ints l] (·=int (qaf l)):=by
 refine qag mixed Tryz.func124 qiM ?_
 simp only [a0,l0,OS.ao,zj,zo,zi,zn,zl,zm,zp,zd,zh,zk,qfZ,qfL,ZZ,WW,Ze,reduceCtorEq,zd,ze,zb,zf,za]
 simp only [ints,ZZ,WW,Ze,reduceCtorEq,zd,ze,zb,zf,za]
 generalize hes:l.map (fun x=>[PV.int IntKind.i64 x])=es
 have hln:es.length=l.length:=by rw [← hes];simp
 refine qad (fun n fr L=>∃ k:Nat,k≤l.length∧n=l.length - k∧qaf l=qaf (l.drop k)∧fr=[.p (.sl 1 es),oo,oo,.p (int 0),oo,oo,.p (.sl 1 es),.p (int (es.length:Nat)),.p (int (k:Nat)),oo,oo,oo,oo,oo,oo,oo,oo,oo]∧L=[]) l.length [.p (.sl 1 es),oo,oo,.p (int 0),oo,oo,.p (.sl 1 es),.p (int (es.length:Nat)),.p (int (0:Nat)),oo,oo,oo,oo,oo,oo,oo,oo,oo] [] (by (simp only [ZZ,WW,Ze,reduceCtorEq,zd,ze,zb,zf,za];try trivial)) zE_ ⟨0,by omega,by omega,rfl,rfl,rfl⟩ ?_
 rintro n fr L ⟨k,hk,rfl,hf,rfl,rfl⟩
 simp only [qen,ZZ,WW,Ze,reduceCtorEq,zd,ze,zb,zf,za]
 refine br ?_ ?_
 ·intro h
  have hlt:k < l.length:=by have:=of_decide_eq_true h;omega
  obtain ⟨x,hx⟩:∃ x,l[k]?=some x:=⟨_,List.getElem?_eq_getElem hlt⟩
  have hg:es.getD k []=[PV.int .i64 x]:=by rw [← hes];exact qaH hx
  have hd:=qbr l k x hx
  simp only [ZZ,WW,Ze,reduceCtorEq,zd,ze,zb,zf,za,hg]
  ((repeat' (with_reducible apply And.intro))<;>try ((exact sc_)))
  refine br ?_ ?_
  ·intro h2
   simp only [ZZ,WW,Ze,reduceCtorEq,zd,ze,zb,zf,za]
   rw [hf,hd,if_neg (by simpa using h2)]
  ·intro h2
   simp only [ZZ,WW,Ze,reduceCtorEq,zd,ze,zb,zf,za]
   refine ⟨qar (by omega) (by omega),?_⟩
   refine qac (l.length - (k+1)) [.p (.sl 1 es),oo,oo,.p (int 0),oo,oo,.p (.sl 1 es),.p (int (es.length:Nat)),.p (int ((k+1:Nat))),oo,oo,oo,oo,oo,oo,oo,oo,oo] [] (by omega) (by (simp only [ZZ,WW,Ze,reduceCtorEq,zd,ze,zb,zf,za];try trivial)) zE_ ⟨k+1,by omega,rfl,by rw [hf,hd,if_pos (by simpa using h2)],rfl,rfl⟩
 ·intro h
  have hge:l.length≤k:=by have:=of_decide_eq_false h;omega
  simp only [ZZ,WW,Ze,reduceCtorEq,zd,ze,zb,zf,za]
  rw [hf,List.drop_eq_nil_of_le hge]
  rfl
end
section
variable {E:Envt}
end
def qb3:IC:=(.seq (.reg [qO 12 (.bin .lss (.t 11) (.t 10))]) (.seq (.cond (.t 12) .skip (.exit 0)) (.seq (.block 1 (.seq (.reg [qM 13 6,qM 14 0,qO 15 (.bsl 1 [.c (.int .i64 0),.c (.int .i64 1),.c (.int .i64 2),.c (.int .i64 5)]),qO 16 (.call 43 [.t 14,.t 15]),qO 17 (.bin .add (.t 13) (.t 16)),qM 7 17]) (.seq (.reg [qM 18 7,qM 19 0,qO 20 (.bsl 1 [.c (.int .i64 1),.c (.int .i64 1),.c (.int .i64 2),.c (.int .i64 4),.c (.int .i64 9)]),qO 21 (.call 43 [.t 19,.t 20]),qO 22 (.bin .add (.t 18) (.t 21)),qM 8 22]) (.seq (.seq (.reg [qM 23 8,qM 24 1,qO 25 (.bin .gtr (.t 23) (.t 24))]) (.cond (.t 25) (.exit 0) .skip)) (.seq (.reg [qM 26 5,qM 27 7,qM 28 8,qO 29 (.bld [.int .i64 0,.int .i64 0] [(0,1,.t 27),(1,1,.t 28)]),qO 30 (.bsl 2 [.t 29]),qO 31 (.app 108 2 16 (.t 26) (.t 30)),qM 5 31]) (.reg [qM 32 8,qO 33 (.bin .add (.t 32) (.c (.int .i64 1))),qM 6 33])))))) (.reg [qO 34 (.bin .add (.t 11) (.c (.int .i64 1))),qM 11 34]))))
def qcz:IC:=(.seq (.reg [qO 4 (.mov (.c (.nl 2)))]) (.seq (.reg [qO 5 (.nilr 108 2)]) (.seq (.reg [qO 6 (.mov (.c (.int .i64 0)))]) (.seq (.seq (.reg [qM 9 0,qO 10 (.call 10 [.t 9,.c (.int .i64 5)]),qO 11 (.mov (.c (.int .i64 0)))]) (.block 0 (.loop qb3))) (.cut (.seq (.reg [qM 35 5,qM 4 35]) .ret))))))
def qcs:List IRes:=[.t 4]
theorem qfD:chkF Tryz.prog Tryz.f130 qcz qcs 36=true:=by kernel_rfl
section
variable {E:Envt}
abbrev qos:Nat:=108
theorem qo9 (l:List Int) (k:Nat) (size:Int) (hk:k≤900000) (hl:l.length≤9223372036854775807) :
  qoe Tryz.prog E 130 T (stm l k) [int size] qos 2 (fun es cs'=>∃ (o:List (Int×Int)) (k':Nat),es=o.map spn∧o.length≤5∧cs'=stm l k'∧k'≤k+20):=by
 unfold qoe
 refine qje mixed Tryz.func130 qfD ?_
 simp only [a0,l0,OS.ao,zj,zo,zi,zn,zl,zm,zp,zd,zh,zk,qcz,qcs,ZZ,WW,Ze,reduceCtorEq,zd,ze,zb,zf,za]
 refine useS (qdB l k _ (by omega) hl (by decide)) rfl rfl rfl zE_ ?_
 rintro x cs' ⟨y,rfl,rfl⟩
 have b1:=qeJ y 5
 have b2:=qeK y 5 (by omega)
 generalize qee y 5=m at *
 simp only [ZZ,WW,Ze,reduceCtorEq,zd,ze,zb,zf,za]
 refine qad (fun n fr L=>∃ (i k':Nat) (at_:Int) (o:List (Int×Int)),n=5 - i∧i≤5∧(i:Int)≤m∧k'≤k+1+2 * i∧0≤at_∧at_≤20 * i∧o.length≤i∧fr=[.adr (.b 0) 0,.p (int size),oo,oo,oo,.row (.l 5),.p (int at_),oo,oo,oo,.p (int m),.p (int (i:Nat)),oo,oo,oo,oo,oo,oo,oo,oo,oo,oo,oo,oo,oo,oo,oo,oo,oo,oo,oo,oo,oo,oo,oo,oo]∧L=[(.b 0,.box ((stm l k').map .p) T),(.l 5,.row (o.map spn) qos 2 true)]) 5 [.adr (.b 0) 0,.p (int size),oo,oo,oo,.row (.l 5),.p (int 0),oo,oo,oo,.p (int m),.p (int (0:Nat)),oo,oo,oo,oo,oo,oo,oo,oo,oo,oo,oo,oo,oo,oo,oo,oo,oo,oo,oo,oo,oo,oo,oo,oo] [(.b 0,.box ((stm l (k+1)).map .p) T),(.l 5,.row [] qos 2 true)] (by (simp only [ZZ,WW,Ze,reduceCtorEq,zd,ze,zb,zf,za];try trivial)) zE_ ⟨0,k+1,0,[],by omega,by omega,by omega,by omega,by omega,by omega,by simp,rfl,rfl⟩ ?_
 rintro n fr L ⟨i,k',at_,o,rfl,hi5,him,hk',ha0,ha1,ho,rfl,rfl⟩
 simp only [qb3,ZZ,WW,Ze,reduceCtorEq,zd,ze,zb,zf,za]
 refine br ?_ ?_
 ·intro h
  have hlt:(i:Int) < m:=of_decide_eq_true h
  simp only [ZZ,WW,Ze,reduceCtorEq,zd,ze,zb,zf,za]
  refine useS (qeb l k' [0,1,2,5] (by omega) hl (by simp) (by simp)) rfl rfl rfl zE_ ?_
  rintro x cs' ⟨p,rfl,hp,rfl⟩
  have hp':0≤p∧p≤5:=by simp at hp;omega
  simp only [ZZ,WW,Ze,reduceCtorEq,zd,ze,zb,zf,za]
  refine ⟨qar (by omega) (by omega),?_⟩
  refine useS (qeb l (k'+1) [1,1,2,4,9] (by omega) hl (by simp) (by simp)) rfl rfl rfl zE_ ?_
  rintro x cs' ⟨q,rfl,hq,rfl⟩
  have hq':0≤q∧q≤9:=by simp at hq;omega
  simp only [ZZ,WW,Ze,reduceCtorEq,zd,ze,zb,zf,za]
  refine ⟨qar (by omega) (by omega),?_⟩
  refine br ?_ ?_
  ·intro h2
   simp only [ZZ,WW,Ze,reduceCtorEq,zd,ze,zb,zf,za]
   refine qau zE_ ?_
   simp only [ZZ,WW,Ze,reduceCtorEq,zd,ze,zb,zf,za]
   exact qr8 5 _ (stm l (k'+1+1)) rfl rfl rfl ⟨o,k'+1+1,rfl,by omega,rfl,by omega⟩
  ·intro h2
   simp only [ZZ,WW,Ze,reduceCtorEq,zd,ze,zb,zf,za]
   ((repeat' (with_reducible apply And.intro))<;>try ((exact sc_)))
   refine qac (5 - (i+1)) [.adr (.b 0) 0,.p (int size),oo,oo,oo,.row (.l 5),.p (int (at_+p+q+1)),oo,oo,oo,.p (int m),.p (int ((i+1:Nat))),oo,oo,oo,oo,oo,oo,oo,oo,oo,oo,oo,oo,oo,oo,oo,oo,oo,oo,oo,oo,oo,oo,oo,oo] [(.b 0,.box ((stm l (k'+1+1)).map .p) T),(.l 5,.row ((o++[(at_+p,at_+p+q)]).map spn) qos 2 true)] (by omega) (by (simp only [ZZ,WW,Ze,reduceCtorEq,zd,ze,zb,zf,za];try trivial)) (by simp only [List.map_append,spn,ZZ,WW,Ze,reduceCtorEq,zd,ze,zb,zf,za]) ⟨i+1,k'+1+1,at_+p+q+1,o++[(at_+p,at_+p+q)],by omega,by omega,by omega,by omega,by omega,by omega,by simp;omega,rfl,rfl⟩
 ·intro h
  simp only [ZZ,WW,Ze,reduceCtorEq,zd,ze,zb,zf,za]
  refine qau zE_ ?_
  simp only [ZZ,WW,Ze,reduceCtorEq,zd,ze,zb,zf,za]
  exact qr8 5 _ (stm l k') rfl rfl rfl ⟨o,k',rfl,by omega,rfl,by omega⟩
end
def qd4:IC:=(.seq (.seq (.reg [qM 19 8,qO 20 (.fla 1 (.t 7)),qO 21 (.ld 1 false (.t 20)),qO 22 (.bin .lss (.t 19) (.t 21))]) (.cond (.t 22) .skip (.exit 2))) (.seq (.block 3 (.reg [qM 25 5,qM 26 8,qO 27 (.ixa 1 (.t 25) (.t 26)),⟨none,.st 1 (.t 27) (.c (.bool true)),none⟩])) (.reg [qM 23 8,qO 24 (.bin .add (.t 23) (.c (.int .i64 1))),qM 8 24])))
def qd5:IC:=(.seq (.reg [qO 14 (.bin .lss (.t 13) (.t 12))]) (.seq (.cond (.t 14) .skip (.exit 0)) (.seq (.block 1 (.seq (.reg [qO 15 (.ixa 2 (.t 11) (.t 13)),qO 16 (.ld 2 true (.t 15)),qO 7 (.alc 108 [.int .i64 0,.int .i64 0]),⟨none,.st 2 (.t 7) (.t 16),none⟩]) (.seq (.reg [qO 17 (.fla 0 (.t 7)),qO 18 (.ld 1 false (.t 17)),qM 8 18]) (.block 2 (.loop qd4))))) (.reg [qO 28 (.bin .add (.t 13) (.c (.int .i64 1))),qM 13 28]))))
def qfv:IC:=(.seq (.reg [qO 4 (.mov (.c (.nl 1)))]) (.seq (.reg [qM 9 1,qO 10 (.mks 4 1 1 [.bool false] (.t 9) (.t 9)),qM 5 10]) (.seq (.seq (.reg [qM 11 0,qO 12 (.len (.t 11)),qO 13 (.mov (.c (.int .i64 0)))]) (.block 0 (.loop qd5))) (.seq (.reg [qM 29 5,qM 4 29]) .ret))))
def qfm:List IRes:=[.t 4]
theorem qio:chkF Tryz.prog Tryz.f264 qfv qfm 30=true:=by kernel_rfl
def cov (l:List (Int×Int)) (j:Nat):Bool:=l.any fun s=>decide (s.1≤j) && decide ((j:Int) < s.2)
def bl (p:List Bool):List (List PV):=p.map fun b=>[.bool b]
def tab (n:Nat) (f:Nat→Bool):List Bool:=(List.range n).map f
theorem qgW (n:Nat) (f:Nat→Bool):(tab n f).length=n:=by simp [tab]
theorem qj2 (p:List Bool):(bl p).length=p.length:=by simp [bl]
theorem ql1 {n:Nat} {f:Nat→Bool} {i:Nat} (h:i < n):(tab n f)[i]?=some (f i):=by
 unfold tab
 rw [List.getElem?_map,List.getElem?_range h];rfl
theorem qsr {n:Nat} {f:Nat→Bool} {i:Nat} (h:i < n):(bl (tab n f)).getD i []=[.bool (f i)]:=qaH (ql1 h)
theorem quX {n:Nat} {f:Nat→Bool} {i:Nat} {b:Bool}:(bl (tab n f)).set i [.bool b]=bl (tab n fun j=>if j=i then b else f j):=by
 refine List.ext_getElem? fun j=>?_
 rw [List.getElem?_set]
 by_cases hj:i=j
 ·subst hj
  simp only [if_true,qj2,qgW]
  by_cases hi:i < n
  ·rw [if_pos hi,show bl (tab n fun j=>if j=i then b else f j)=(tab n fun j=>if j=i then b else f j).map (fun b=>[.bool b]) from rfl,List.getElem?_map,ql1 hi]
   simp
  ·rw [if_neg hi,List.getElem?_eq_none (by rw [qj2,qgW];omega)]
 ·rw [if_neg hj]
  unfold bl tab
  rw [List.getElem?_map,List.getElem?_map,List.getElem?_map,List.getElem?_map]
  by_cases hn:j < n
  ·rw [List.getElem?_range hn]
   simp [Ne.symm hj]
  ·rw [List.getElem?_eq_none (by simpa using hn)]
   rfl
theorem qiW {n:Nat} {f g:Nat→Bool} (h:∀ j,j < n→f j=g j):tab n f=tab n g:=List.map_congr_left fun j hj=>h j (by simpa using hj)
theorem qt0 {l:List (Int×Int)} {k:Nat} {x:Int×Int} (h:l[k]?=some x) (j:Nat):cov (l.take (k+1)) j=(cov (l.take k) j || (decide (x.1≤j) && decide ((j:Int) < x.2))):=by
 unfold cov
 rw [List.take_add_one,h]
 simp
section
variable {E:Envt}
theorem qqn (l:List (Int×Int)) (n:Nat) (hl:l.length≤1000000) (hn:n≤1000000) (hs:∀ s∈l,0≤s.1∧s.2≤n) :
  FCall Tryz.prog E 264 [sps l,int n] 4 1 (·=bl (tab n (cov l))):=by
 unfold FCall
 refine qje mixed Tryz.func264 qio ?_
 simp only [a0,l0,OS.ao,zj,zo,zi,zn,zl,zm,zp,zd,zh,zk,qfv,qfm,ZZ,WW,Ze,reduceCtorEq,zd,ze,zb,zf,za]
 simp only [sps,ZZ,WW,Ze,reduceCtorEq,zd,ze,zb,zf,za]
 ((repeat' (with_reducible apply And.intro))<;>try ((exact sc_)))
 generalize hes:l.map spn=es
 have hln:es.length=l.length:=by rw [← hes];simp
 have h0:List.replicate n [PV.bool false]=bl (tab n (cov (l.take 0))):=by
  unfold bl tab
  rw [List.map_map]
  refine List.ext_getElem? fun j=>?_
  by_cases hj:j < n
  ·simp [hj,cov]
  ·rw [List.getElem?_eq_none (by simpa using hj),List.getElem?_eq_none (by simpa using hj)]
 rw [h0]
 refine qad (fun m fr L=>∃ k:Nat,k≤l.length∧m=l.length - k∧fr=[oo,oo,oo,oo,oo,.row (.l 10),oo,oo,oo,oo,oo,.p (.sl 2 es),.p (int (es.length:Nat)),.p (int (k:Nat)),oo,oo,oo,oo,oo,oo,oo,oo,oo,oo,oo,oo,oo,oo,oo,oo]∧L=[(.l 10,.row (bl (tab n (cov (l.take k)))) 4 1 true)]) l.length [oo,oo,oo,oo,oo,.row (.l 10),oo,oo,oo,oo,oo,.p (.sl 2 es),.p (int (es.length:Nat)),.p (int (0:Nat)),oo,oo,oo,oo,oo,oo,oo,oo,oo,oo,oo,oo,oo,oo,oo,oo] [(.l 10,.row (bl (tab n (cov (l.take 0)))) 4 1 true)] (by (simp only [ZZ,WW,Ze,reduceCtorEq,zd,ze,zb,zf,za];try trivial)) zE_ ⟨0,by omega,by omega,rfl,rfl⟩ ?_
 rintro m fr L ⟨k,hk,rfl,rfl,rfl⟩
 simp only [qd5,ZZ,WW,Ze,reduceCtorEq,zd,ze,zb,zf,za]
 refine br ?_ ?_
 ·intro h
  have hlt:k < l.length:=by have:=of_decide_eq_true h;omega
  obtain ⟨s,hx⟩:∃ x,l[k]?=some x:=⟨_,List.getElem?_eq_getElem hlt⟩
  have hg:es.getD k []=spn s:=by rw [← hes];exact qaH hx
  have hsb:=hs s (List.mem_of_getElem? hx)
  simp only [ZZ,WW,Ze,reduceCtorEq,zd,ze,zb,zf,za,hg,spn]
  ((repeat' (with_reducible apply And.intro))<;>try ((exact sc_)))
  refine qad (fun m fr L=>∃ i:Int,s.1≤i∧(i≤s.2∨i=s.1)∧m=(s.2 - i).toNat∧fr=[oo,oo,oo,oo,oo,.row (.l 10),oo,.adr (.l 7) 0,.p (int i),oo,oo,.p (.sl 2 es),.p (int (es.length:Nat)),.p (int (k:Nat)),oo,oo,oo,oo,oo,oo,oo,oo,oo,oo,oo,oo,oo,oo,oo,oo]∧L=[(.l 10,.row (bl (tab n (fun j=>cov (l.take k) j || (decide (s.1≤j) && decide ((j:Int) < i))))) 4 1 true),(.l 7,.box [.p (int s.1),.p (int s.2)] qos)]) (s.2 - s.1).toNat [oo,oo,oo,oo,oo,.row (.l 10),oo,.adr (.l 7) 0,.p (int s.1),oo,oo,.p (.sl 2 es),.p (int (es.length:Nat)),.p (int (k:Nat)),oo,oo,oo,oo,oo,oo,oo,oo,oo,oo,oo,oo,oo,oo,oo,oo] [(.l 10,.row (bl (tab n (cov (l.take k)))) 4 1 true),(.l 7,.box [.p (int s.1),.p (int s.2)] qos)] (by (simp only [ZZ,WW,Ze,reduceCtorEq,zd,ze,zb,zf,za];try trivial)) zE_ ⟨s.1,by omega,.inr rfl,rfl,rfl,?_⟩ ?_
  ·have:tab n (cov (l.take k))=tab n (fun j=>cov (l.take k) j || (decide (s.1≤j) && decide ((j:Int) < s.1))):=qiW fun j _=>by
    have:(decide (s.1≤j) && decide ((j:Int) < s.1))=false:=by simp
    rw [this,Bool.or_false]
   rw [← this]
  rintro m fr L ⟨i,hi1,hi2,rfl,rfl,rfl⟩
  simp only [qd4,ZZ,WW,Ze,reduceCtorEq,zd,ze,zb,zf,za]
  refine br ?_ ?_
  ·intro h2
   have hlt2:=of_decide_eq_true h2
   have hin:i.toNat < n:=by omega
   have hii:((i.toNat:Nat):Int)=i:=by omega
   simp only [ZZ,WW,Ze,reduceCtorEq,zd,ze,zb,zf,za,qj2,qgW,qsr hin]
   simp only [Zab,List.set_cons_zero,quX]
   ((repeat' (with_reducible apply And.intro))<;>try ((exact sc_)))
   refine qac (s.2 - (i+1)).toNat [oo,oo,oo,oo,oo,.row (.l 10),oo,.adr (.l 7) 0,.p (int (i+1)),oo,oo,.p (.sl 2 es),.p (int (es.length:Nat)),.p (int (k:Nat)),oo,oo,oo,oo,oo,oo,oo,oo,oo,oo,oo,oo,oo,oo,oo,oo] [(.l 10,.row (bl (tab n (fun j=>cov (l.take k) j || (decide (s.1≤j) && decide ((j:Int) < i+1))))) 4 1 true),(.l 7,.box [.p (int s.1),.p (int s.2)] qos)] (by omega) (by (simp only [ZZ,WW,Ze,reduceCtorEq,zd,ze,zb,zf,za];try trivial)) ?_ ⟨i+1,by omega,.inl (by omega),rfl,rfl,rfl⟩
   simp only [ZZ,WW,Ze,reduceCtorEq,zd,ze,zb,zf,za]
   congr 2
   refine congrArg bl (qiW fun j hj=>?_)
   by_cases hji:j=i.toNat
   ·subst hji
    simp;omega
   ·have:((j:Int) < i+1)↔((j:Int) < i):=by omega
    simp [hji,this]
  ·intro h2
   have hge2:=of_decide_eq_false h2
   simp only [ZZ,WW,Ze,reduceCtorEq,zd,ze,zb,zf,za]
   ((repeat' (with_reducible apply And.intro))<;>try ((exact sc_)))
   refine qac (l.length - (k+1)) [oo,oo,oo,oo,oo,.row (.l 10),oo,oo,oo,oo,oo,.p (.sl 2 es),.p (int (es.length:Nat)),.p (int ((k+1:Nat))),oo,oo,oo,oo,oo,oo,oo,oo,oo,oo,oo,oo,oo,oo,oo,oo] [(.l 10,.row (bl (tab n (cov (l.take (k+1))))) 4 1 true)] (by omega) (by (simp only [ZZ,WW,Ze,reduceCtorEq,zd,ze,zb,zf,za];try trivial)) ?_ ⟨k+1,by omega,rfl,rfl,rfl⟩
   simp only [ZZ,WW,Ze,reduceCtorEq,zd,ze,zb,zf,za]
   congr 2
   refine congrArg bl (qiW fun j hj=>?_)
   rw [qt0 hx]
   congr 1
   by_cases h1:s.1≤j
   ·have:((j:Int) < i)↔((j:Int) < s.2):=by omega
    simp [h1,this]
   ·simp [h1]
 ·intro h
  have hge:l.length≤k:=by have:=of_decide_eq_false h;omega
  rw [List.take_of_length_le hge]
  simp only [ZZ,WW,Ze,reduceCtorEq,zd,ze,zb,zf,za]
  exact qln 10 _ rfl rfl rfl
def onAt (p:List Bool) (i:Nat):Bool:=p.getD i false
theorem qlM {l:List Int} (h:qaf l=0):∀ x∈l,x=0:=by
 induction l with
 |nil=>intro x hx;cases hx
 |cons a l ih=>
  intro x hx
  simp only [qaf] at h
  split at h
  ·rename_i ha
   rcases List.mem_cons.1 hx with rfl|hx
   ·exact ha
   ·exact ih h x hx
  ·rename_i ha;exact absurd h ha
theorem qq3 {l:List (Int×Int)} {size:Int} (h:qgE l size=0) {k:Nat} {x:Int×Int} (hx:l[k]?=some x):0≤x.1∧x.1 < x.2∧x.2≤size:=by
 unfold qgE at h
 split at h
 ·cases h
 ·split at h
  ·cases h
  ·have hk:=(List.getElem?_eq_some_iff.1 hx).1
   have:=qlM h (qmK size l k) (List.mem_of_getElem? (qnX size l hk))
   unfold qmK badS at this
   rw [show l.getD k (0,0)=x from by simp [zt,hx]] at this
   split at this
   ·cases this
   ·rename_i hb
    simp at hb
    omega
end
def cv (l:List (Int×Int)) (j:Int):Prop:=∃ s∈l,s.1≤j∧j < s.2
structure Right (l:List (Int×Int)):Prop where
 ok:∀ s∈l,s.1 < s.2
 ord:l.Pairwise (fun s t=>s.2 < t.1)
theorem Right.tail {s:Int×Int} {l:List (Int×Int)} (h:Right (s :: l)):Right l:=⟨fun t ht=>h.ok t (by simp [ht]),(List.pairwise_cons.1 h.ord).2⟩
theorem Right.head {s:Int×Int} {l:List (Int×Int)} (h:Right (s :: l)):s.1 < s.2∧∀ t∈l,s.2 < t.1:=⟨h.ok s (by simp),(List.pairwise_cons.1 h.ord).1⟩
structure FromInv (p:List Bool) (k:Nat) (out:List (Int×Int)):Prop where
 right:Right out
 bd:∀ s∈out,s.2≤k
 last:onAt p (k - 1)=true→0 < k→∃ (i:List (Int×Int)) (y:Int×Int),out=i++[y]∧y.2=(k:Int)
 gap:onAt p (k - 1)=false→0 < k→∀ s∈out,s.2 < k
 cov:∀ j,cv out j↔∃ i:Nat,j=i∧i < k∧onAt p i=true
structure InB (s:Int×Int) (o0 b:List (Int×Int)) (st:Int×List (Int×Int)):Prop where
 lo:s.1≤st.1
 src:st.1=s.1∨∃ x∈b,st.1=x.2
 right:Right st.2
 bd:∀ t∈st.2,t.2 < st.1
 hi:∀ t∈st.2,t∈o0∨t.2≤s.2
 fre:∀ j,st.1≤j→j < s.2→¬ cv b j
 cov:∀ j,cv st.2 j↔cv o0 j∨(s.1≤j∧j < st.1∧j < s.2∧¬ cv b j)
structure InA (b a out:List (Int×Int)):Prop where
 right:Right out
 bd:∀ t∈out,∃ s∈a,t.2≤s.2
 cov:∀ j,cv out j↔cv a j∧¬ cv b j
theorem qq2 {l:List (Int×Int)} {size:Int} (h:qgE l size=0):∀ s∈l,0≤s.1∧s.1 < s.2∧s.2≤size:=by
 intro s hs
 obtain ⟨i,hi⟩:=List.getElem?_of_mem hs
 exact qq3 h hi
structure InP (l out:List (Int×Int)):Prop where
 right:Right out
 src:∀ t∈out,(∃ u∈l,t.1=u.1)∧∃ u∈l,t.2=u.2
 cov:∀ j,cv out j↔cv l j
section
variable {E:Envt}
end
section
variable {E:Envt}
end
end Go.Proofs.YtehfjlpenlffmaaGreatDoor
