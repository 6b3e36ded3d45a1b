import Derived.Test.YtehfjlpenlffmaaGreatDoorZ14
import Derived.Test.YtehfjlpenlffmaaGreatDoorZ20
import Derived.Test.YtehfjlpenlffmaaGreatDoorZ13
import Derived.Test.YtehfjlpenlffmaaGreatDoorZ8
set_option linter.unusedVariables false
set_option linter.unusedSimpArgs false
set_option linter.defProp false
namespace Go.Proofs.YtehfjlpenlffmaaGreatDoor
open Nat renaming le_trans→zT,reduceAdd→zd,reduceEqDiff→za,reduceLT→zf,reduceLeDiff→zb,reduceMul→ze,reduceSub→zu
open List renaming cons_append→zl,getD→zD,getElem?_eq_getElem→zg,getElem?_map→zz,length_append→zK,length_cons→zi,length_map→zB,length_nil→zo,length_set→yf,map_congr_left→zQ,map_cons→zk,map_map→z7,map_nil→zr,mem_append→zJ,mem_cons→zI,mem_of_getElem?→zx,mem_or_eq_of_mem_set→yb,mem_singleton→zF,nil_append→zm,not_mem_nil→zX,replicate_succ→zh,replicate_zero→zj
open Go.RowKit
def qb4:IC:=(sR [qO 2 (.nilr 108 2)] (.seq (sR [qM 3 0,qO 4 (.isn (.t 3))] (.cond (.t 4) (sR [qO 2 (.nilr 108 2)] .ret) .skip)) (sR [qO 5 (.bsr 108 2 []),qM 6 0,qO 7 (.app 108 2 16 (.t 5) (.t 6)),qM 2 7] .ret)))
def qb0:List IRes:=[.t 2]
theorem qe3:chkF Tryz.prog Tryz.f69 qb4 qb0 8=true:=by kernel_rfl
def qdk:IC:=(sR [qO 4 (.mov (.c (.nl 3)))] (sR [qM 7 0,qM 8 1,qO 9 (.call 41 [.t 7,.t 8]),qM 5 9] (.seq (sR [qM 10 0,qO 11 (.call 9 [.t 10,.c (.int .i64 12)]),qM 12 11,⟨some 13,.mov (.t 5),(some (12,true))⟩,⟨some 14,.len (.t 13),(some (12,true))⟩,⟨some 15,.bin .gtr (.t 14) (cI 0),(some (12,true))⟩,qO 16 (.pick (.t 12) (.t 15) (.c (.bool false)))] (.cond (.t 16) (sR [qM 17 5,qM 18 0,qM 19 5,qN 20 19,qO 21 (.call 10 [.t 18,.t 20]),qX 22 3 17 21,qM 6 22] (sR [qM 23 0,qO 24 (.call 10 [.t 23,.c (.int .i64 4)])] (.block 0 (sR [qB 28 .eql 24 (cI 0),qM 27 28] (.cond (.t 27) (.reg [qM 29 6,qM 30 0,qO 31 (.bsl 1 [.c (.str []),.c (.str [105,97]),.c (.str [122,122])]),qO 32 (.call 42 [.t 30,.t 31]),qO 33 (.nck (.t 29)),qF 34 0 33,qS 1 34 32]) (sR [qB 36 .eql 24 (cI 1),qM 35 36] (.cond (.t 35) (.reg [qM 37 6,qM 38 0,qO 39 (.call 19 [.t 38,.c (.int .i64 0),.c (.int .i64 4)]),qO 40 (.nck (.t 37)),qF 41 1 40,qS 1 41 39]) (sR [qB 43 .eql 24 (cI 2),qM 42 43] (.cond (.t 42) (.reg [qM 44 6,qM 45 6,qO 46 (.nck (.t 45)),qF 47 2 46,qL 48 47,qO 49 (.call 69 [.t 48]),qM 50 0,qO 51 (.bsl 1 [.c (.int .i64 (-1)),.c (.int .i64 0)]),qO 52 (.call 43 [.t 50,.t 51]),qM 53 0,qO 54 (.bsl 1 [.c (.int .i64 0),.c (.int .i64 1),.c (.int .i64 20000)]),qO 55 (.call 43 [.t 53,.t 54]),⟨none,.fz (.t 52),none⟩,⟨none,.fz (.t 55),none⟩,qO 56 (.bld [.int .i64 0,.int .i64 0] [(0,1,.t 52),(1,1,.t 55)]),qO 57 (.bsl 2 [.t 56]),qO 58 (.app 108 2 16 (.t 49) (.t 57)),⟨none,.fz (.t 58),none⟩,qO 59 (.nck (.t 44)),qF 60 2 59,qS 1 60 58]) (.reg [qM 25 5,qO 26 (.call 70 [.t 25])])))))))))) .skip)) (.cut (sR [qM 61 5,qM 4 61] .ret)))))
def qdg:List IRes:=[.t 4]
theorem qhB:chkF Tryz.prog Tryz.f17 qdk qdg 62=true:=by kernel_rfl
section
variable {E:Envt}
theorem quP (es:List (List PV)) (hn:es.length≤1000000):FCall Tryz.prog E 69 [.sl 2 es] qi4 2 (·=es):=by
 unfold FCall
 refine qio mixed Tryz.func69 qe3 ?_
 simp only [a0,l0,OS.ao,zk,zr,zi,zo,zl,zm,zu,zd,zh,zj,qb4,qb0,ZZ,WW,Zd,reduceCtorEq,zd,ze,zb,zf,za]
 intro b hb
 refine br ?_ ?_
 ·intro h
  have:=hb h
  refine zS ?_
  exact qle 2 [] rfl rfl this.symm
 ·intro h
  refine zS ?_
  exact ⟨by omega,qle 5 es rfl rfl rfl⟩
theorem qrT (u:List Rul) (hu:u.length≤1000000):RCall Tryz.prog E 70 tRul 3 (rlE u) [] (fun x es'=>∃ w:List Rul,es'=rlE w∧w.length=u.length∧∀ r∈w,r∈u):=by
 unfold RCall
 refine qge mixed Tryz.func70 qdm ?_
 simp only [a0,l0,OS.ao,zk,zr,zi,zo,zl,zm,zu,zd,zh,zj,qay,qbd,qba,ZZ,WW,Zd,reduceCtorEq,zd,ze,zb,zf,za]
 refine ⟨qan (by omega) (by omega),?_⟩
 refine qad (fun n fr L=>∃ (c:Nat) (b:Nat) (w:List Rul),b=n∧(c+b=u.length)∧(w.length=u.length)∧(∀ r∈w,r∈u)∧fr=(.row (.b 0)::oo::.p (int (c:Nat))::.p (int ((b:Nat) - 1))::oE (oD []))∧L=[(.b 0,.row (rlE w) tRul 3 true)]) ((u.length)) _ _ (by (simp only [ZZ,WW,Zd,reduceCtorEq,zd,ze,zb,zf,za];try trivial)) (by (simp only [ZZ,WW,Zd,reduceCtorEq,zd,ze,zb,zf,za];try trivial)) ⟨0,u.length,u,rfl,by omega,rfl,(fun r hr=>hr),rfl,rfl⟩ ?_
 rintro n fr L ⟨c,b,w,rfl,hcb,hwl,hwm,rfl,rfl⟩
 simp only [qaV,ZZ,WW,Zd,reduceCtorEq,zd,ze,zb,zf,za]
 refine br ?_ ?_
 ·intro h
  have h2:c+1 < b:=by have:=of_decide_eq_true h;omega
  obtain ⟨i,rfl⟩:∃ i,b=i+1:=⟨b - 1,by omega⟩
  have e1:(((i+1:Nat):Int) - 1)=(i:Int):=by omega
  obtain ⟨s,hs⟩:∃ s,w[c]?=some s:=⟨_,zg (by omega)⟩
  obtain ⟨t,ht⟩:∃ t,w[i]?=some t:=⟨_,zg (by omega)⟩
  have g1:=qgj hs
  have g2:=qgj ht
  have s1:=qn4 w c t.id t.what t.spans
  have g3:(rlE (w.set c t)).getD i []=[.str t.id,int t.what,.sl 2 (t.spans.map spn)]:=qgj (by rw [List.getElem?_set_ne (by omega)];exact ht)
  have s2:=qn4 (w.set c t) i s.id s.what s.spans
  simp only [ZZ,WW,Zd,reduceCtorEq,zd,ze,zb,zf,za,e1]
  refine drg0 ?_
  simp only [ZZ,WW,Zd,reduceCtorEq,zd,ze,zb,zf,za,g1,g2,qay,hwl,s1,g3,s2,yf]
  have g5:=hwm s (zx hs)
  have g6:=hwm t (zx ht)
  refine ⟨⟨by omega,by omega⟩,by omega,⟨by omega,by omega⟩,by omega,⟨by omega,by omega⟩,by omega,⟨by omega,by omega⟩,by omega,qan (by omega) (by omega),qan (by omega) (by omega),?_⟩
  refine qac ((i)) _ _ (by omega) (by (simp only [ZZ,WW,Zd,reduceCtorEq,zd,ze,zb,zf,za];try trivial)) (by (simp only [ZZ,WW,Zd,reduceCtorEq,zd,ze,zb,zf,za];try trivial)) ⟨c+1,i,(w.set c t).set i s,rfl,by omega,by simp [hwl],by intro x hx;rcases yb hx with hx|rfl;(rcases yb hx with hx|rfl;(exact hwm x hx);(exact g6));exact g5,rfl,rfl⟩
 intro h
 refine zS ?_
 exact qjK _ rfl ⟨w,rfl,hwl,hwm⟩
theorem quJ (l:List Int) (k:Nat) (il:List Itm) (hil:il.length≤20) (hib:ItB il) (hk:k≤700000) (hl:l.length≤9223372036854775807) :
  qox Tryz.prog E 17 T (stm l k) [.sl 7 (itE il)] tRul 3 (fun es cs'=>∃ (o:List Rul) (k':Nat),es=rlE o∧o.length≤il.length∧(∀ r∈o,RlM 6 r)∧cs'=stm l k'∧k'≤k+1010):=by
 unfold qox
 refine qio mixed Tryz.func17 qhB ?_
 simp only [a0,l0,OS.ao,zk,zr,zi,zo,zl,zm,zu,zd,zh,zj,qdk,qdg,ZZ,WW,Zd,reduceCtorEq,zd,ze,zb,zf,za]
 refine qw6 (qky l k il hil hib hk hl) rfl rfl rfl zE_ ?_
 rintro es cs' ⟨u,k1,rfl,hu,hub,rfl,hk1⟩
 have hub6:∀ r∈u,RlM 6 r:=fun r hr=>⟨(hub r hr).b1,zT (hub r hr).b2 (by decide)⟩
 refine zS ?_
 refine useS (qgp l k1 12 (by omega) hl (by decide)) rfl rfl rfl zE_ ?_
 rintro x cs' ⟨b,rfl,rfl⟩
 simp only [ZZ,WW,Zd,reduceCtorEq,zd,ze,zb,zf,za,qay]
 refine br ?_ ?_
 rotate_left
 ·intro _
  refine zS ?_
  refine qal zE_ ?_
  refine zS ?_
  exact qm5 9 _ (stm l (k1+1)) rfl rfl rfl ⟨u,_,rfl,hu,hub6,rfl,by omega⟩
 intro h
 have hpos:0 < u.length:=by
  rw [Bool.and_eq_true] at h
  have:=of_decide_eq_true h.2
  omega
 simp only [ZZ,WW,Zd,reduceCtorEq,zd,ze,zb,zf,za,qay]
 refine useS (qcX l (k1+1) _ (by omega) hl (by omega)) rfl rfl rfl zE_ ?_
 rintro x cs' ⟨y,rfl,rfl⟩
 have b1:=qe6 y (u.length:Nat)
 have b2:=qe7 y (u.length:Nat) (by omega)
 obtain ⟨q,hq⟩:∃ q:Nat,qef y (u.length:Nat)=(q:Nat):=⟨(qef y (u.length:Nat)).toNat,by omega⟩
 rw [hq] at b1 b2 ⊢
 clear hq
 obtain ⟨m,hm⟩:∃ m,u[q]?=some m:=⟨_,zg (by omega)⟩
 have hg:=qgj hm
 have hmb:=hub m (zx hm)
 have hset:∀ r',RlM 6 r'→∀ r∈u.set q r',RlM 6 r:=fun r' hr' r hr=>by
  rcases yb hr with hr|rfl
  ·exact hub6 r hr
  ·exact hr'
 simp only [ZZ,WW,Zd,reduceCtorEq,zd,ze,zb,zf,za,qay]
 ((with_reducible and_intros)<;>try exact sc_)
 refine useS (qcX l (k1+1+1) 4 (by omega) hl (by decide)) rfl rfl rfl zE_ ?_
 rintro x cs' ⟨y2,rfl,rfl⟩
 generalize qef y2 4=c
 refine zS ?_
 refine br ?_ ?_
 ·intro _
  refine zS ?_
  refine useS (qhY l (k1+1+1+1) [[],[105,97],[122,122]] (by omega) hl (by simp) (by simp)) rfl rfl rfl zE_ ?_
  rintro x cs' ⟨v,rfl,hv,rfl⟩
  have hv:v.length≤100:=by simp only [zI,zX,or_false] at hv;rcases hv with rfl|rfl|rfl<;>decide
  simp only [ZZ,WW,Zd,reduceCtorEq,zd,ze,zb,zf,za,hg,qay]
  ((with_reducible and_intros)<;>try exact sc_)
  rw [qn4 u q v m.what m.spans]
  refine qal zE_ ?_
  refine zS ?_
  exact qm5 9 _ (stm l (k1+1+1+1+1)) rfl rfl rfl ⟨_,_,rfl,by rw [yf];exact hu,hset _ ⟨hv,zT hmb.b2 (by decide)⟩,rfl,by omega⟩
 intro _
 refine zS ?_
 refine br ?_ ?_
 ·intro _
  refine zS ?_
  refine useS (qnN l (k1+1+1+1) 0 4 (by omega) hl (by decide) (by decide) (by decide)) rfl rfl rfl zE_ ?_
  rintro x cs' ⟨v,rfl,hv0,hv1,rfl⟩
  simp only [ZZ,WW,Zd,reduceCtorEq,zd,ze,zb,zf,za,hg,qay]
  ((with_reducible and_intros)<;>try exact sc_)
  rw [qn4 u q m.id v m.spans]
  refine qal zE_ ?_
  refine zS ?_
  exact qm5 9 _ (stm l (k1+1+1+1+1)) rfl rfl rfl ⟨_,_,rfl,by rw [yf];exact hu,hset _ ⟨hmb.b1,zT hmb.b2 (by decide)⟩,rfl,by omega⟩
 intro _
 refine zS ?_
 refine br ?_ ?_
 ·intro _
  simp only [ZZ,WW,Zd,reduceCtorEq,zd,ze,zb,zf,za,hg,qay]
  ((with_reducible and_intros)<;>try exact sc_)
  refine useF (quP (m.spans.map spn) (by rw [zB];have:=hmb.b2;omega)) rfl rfl ?_
  rintro es rfl
  refine zS ?_
  refine useS (qb8 l (k1+1+1+1) [-1,0] (by omega) hl (by simp) (by simp)) rfl rfl rfl zE_ ?_
  rintro x cs' ⟨v1,rfl,hv1,rfl⟩
  refine zS ?_
  refine useS (qb8 l (k1+1+1+1+1) [0,1,20000] (by omega) hl (by simp) (by simp)) rfl rfl rfl zE_ ?_
  rintro x cs' ⟨v2,rfl,hv2,rfl⟩
  have e1:m.spans.map spn++[[int v1,int v2]]=(m.spans++[(v1,v2)]).map spn:=by rw [List.map_append];rfl
  have h5:=hmb.b2
  simp only [ZZ,WW,Zd,reduceCtorEq,zd,ze,zb,zf,za,hg,qay,e1,zB]
  ((with_reducible and_intros)<;>try exact sc_)
  rw [qn4 u q m.id m.what (m.spans++[(v1,v2)])]
  refine qal zE_ ?_
  refine zS ?_
  exact qm5 9 _ (stm l (k1+1+1+1+1+1)) rfl rfl rfl ⟨_,_,rfl,by rw [yf];exact hu,hset _ ⟨hmb.b1,by rw [zK];simp;omega⟩,rfl,by omega⟩
 ·intro _
  refine zS ?_
  refine useR (qrT u (by omega)) rfl rfl rfl zE_ ?_
  rintro x es ⟨w,rfl,hw,hwm⟩
  refine zS ?_
  refine qal zE_ ?_
  refine zS ?_
  exact qm5 9 _ (stm l (k1+1+1+1)) rfl rfl rfl ⟨w,_,rfl,by omega,fun r hr=>hub6 r (hwm r hr),rfl,by omega⟩
end
def qbR:IC:=(sR [qT 24 .lss 23 22] (.seq (.cond (.t 24) .skip (.exit 2)) (.seq (.block 3 (sR [qX 25 3 21 23,qO 26 (.ld 3 true (.t 25)),qO 10 (.alc 76 [.str [],.int .i64 0,.nl 2]),qS 3 10 26] (sR [qM 27 0,qO 28 (.call 9 [.t 27,.c (.int .i64 2)])] (.cond (.t 28) (.reg [qM 29 8,qO 30 (.ld 3 true (.t 10)),qO 31 (.bsl 3 [.t 30]),qO 32 (.app 76 3 48 (.t 29) (.t 31)),qM 8 32]) .skip)))) (.cut (.reg [qB 33 .add 23 (cI 1),qM 23 33])))))
def qbS:IC:=(sR [qT 20 .lss 19 18] (.seq (.cond (.t 20) .skip (.exit 0)) (.seq (.block 1 (sR [qO 8 (.nilr 76 3)] (.seq (sR [qM 21 6,qN 22 21,qO 23 (.mov (cI 0))] (.block 2 (.loop qbR))) (sR [qM 34 0,qO 35 (.bsl 1 [.c (.str [65,66]),.c (.str [65,66]),.c (.str [67,68,69])]),qO 36 (.call 42 [.t 34,.t 35]),qM 37 0,qO 38 (.bsl 1 [.c (.int .i64 4),.c (.int .i64 4),.c (.int .i64 6)]),qO 39 (.call 43 [.t 37,.t 38]),qM 40 0,qO 41 (.call 19 [.t 40,.c (.int .i64 1),.c (.int .i64 3)]),⟨none,.fz (.t 36),none⟩,⟨none,.fz (.t 39),none⟩,⟨none,.fz (.t 41),none⟩,qO 42 (.bld [.str [],.int .i64 0,.int .i64 0,.str [],.str [],.int .i64 0] [(0,1,.t 36),(1,1,.t 39),(2,1,.t 41),(3,1,.c (.str [119,105,116,104,104,101,108,100])),(4,1,.c (.str [110,111,116,32,119,97,110,116,101,100])),(5,1,.c (.int .i64 100))]),qO 11 (.alc 45 [.str [],.int .i64 0,.int .i64 0,.str [],.str [],.int .i64 0]),qS 6 11 42] (sR [qM 44 1,qM 45 8,qO 46 (.ld 6 true (.t 11)),qM 47 7,⟨none,.fz (.t 45),none⟩,qO 48 (.call 39 [.t 44,.t 45,.t 46,.t 47]),qM 43 48,qO 49 (.ext 0 (.t 43)),qO 50 (.ext 1 (.t 43)),qO 12 (.alc 36 [.int .i64 0,.str [],.int .i64 0,.nl 7]),qS 4 12 49,qM 13 50] (sR [qM 51 13,qB 52 .eql 51 (cI 0)] (.cond (.t 52) (.reg [qM 53 7,qO 54 (.ld 4 true (.t 12)),qO 55 (.bsl 4 [.t 54]),qO 56 (.app 36 4 56 (.t 53) (.t 55)),qM 7 56]) .skip))))))) (.cut (.reg [qB 57 .add 19 (cI 1),qM 19 57])))))
def qcx:IC:=(sR [qO 4 (.mov (.c (.nl 4))),qO 5 (.mov (.c (.nl 3)))] (sR [qM 14 0,qM 15 1,qO 16 (.call 41 [.t 14,.t 15]),qM 6 16,⟨none,.re,none⟩] (sR [qO 7 (.nilr 36 4)] (.seq (sR [qM 17 0,qO 18 (.call 10 [.t 17,.c (.int .i64 3)]),qO 19 (.mov (cI 0))] (.block 0 (.loop qbS))) (sR [qM 58 7,qM 59 6,qM 4 58,qM 5 59] .ret)))))
def qcn:List IRes:=[.t 4,.t 5]
theorem qfF:chkF Tryz.prog Tryz.f7 qcx qcn 60=true:=by kernel_rfl
theorem qtE {il:List Itm} (hP:qaP il):ItB il:=by
 intro x hx
 obtain ⟨i,hi⟩:=List.getElem?_of_mem hx
 obtain ⟨b1,b2,b3,b4,b5,b6,b7⟩:=hP.2 i x hi
 refine ⟨by rw [b1];simp [pid],?_,b3,?_,b5,?_,b7.1⟩
 ·rcases b2 with h|h<;>rw [h]<;>simp
 ·rcases b4 with h|h<;>rw [h]<;>simp
 ·rcases b6 with h|⟨j,y,_,_,_,_,h⟩<;>rw [h]<;>simp [pid]
abbrev wthS:List UInt8:=[119,105,116,104,104,101,108,100]
abbrev nwtS:List UInt8:=[110,111,116,32,119,97,110,116,101,100]
theorem qzZ:rlE []=[]:=rfl
theorem qAk:pdE []=[]:=rfl
set_option maxHeartbeats 8000000 in
set_option maxRecDepth 100000 in
theorem qoK (l:List Int) (k:Nat) (il:List Itm) (hP:qaP il) (h12:il.length≤12) (hk:k≤500000) (hl:l.length≤9223372036854775807) :
  STup Tryz.prog E0 7 T (stm l k) [.sl 7 (itE il)] tPrd 4 (fun es ps cs'=>∃ (o:List Prd) (u:List Rul) (k':Nat),es=pdE o∧ps=[.sl 3 (rlE u)]∧o.length≤3∧(∀ p∈o,PdB p∧PgP p)∧u.length≤il.length∧(∀ r∈u,RlM 5 r)∧cs'=stm l k'∧k'≤k+2000):=by
 unfold STup
 refine qzb (i:=4) (i2:=5) (is:=[]) mixed Tryz.func7 qfF ?_
 simp only [a0,l0,OS.ao,zk,zr,zi,zo,zl,zm,zu,zd,zh,zj,qcx,qcn,ZZ,WW,Zd,reduceCtorEq,zd,ze,zb,zf,za]
 refine qw6 (qky l k il (by omega) (qtE hP) (by omega) hl) rfl rfl rfl zE_ ?_
 rintro es cs' ⟨u,k1,rfl,hu,hub,rfl,hk1⟩
 refine zS ?_
 rw [qa6]
 refine ⟨_,_,qbO (k:=.l 16) rfl,?_⟩
 refine zS ?_
 refine useS (qcX l k1 3 (by omega) hl (by omega)) rfl rfl rfl zE_ ?_
 rintro x cs' ⟨y,rfl,rfl⟩
 have y1:=qe6 y 3
 have y2:=qe7 y 3 (by omega)
 obtain ⟨q,hq⟩:∃ q:Nat,qef y 3=(q:Nat):=⟨(qef y 3).toNat,by omega⟩
 rw [hq] at y1 y2 ⊢
 clear hq
 refine zS ?_
 have hRl:=hu
 refine qad (fun n fr L=>∃ (a:Nat) (k':Nat) (o:List Prd),a≤q∧n=q - a∧(k'≤k1+1+30 * a)∧(o.length≤a)∧(∀ p∈o,PdB p∧PgP p)∧fr=(.adr (.b 0) 0::.p (.sl 7 (itE il))::oo::oo::oo::oo::.p (.sl 3 (rlE u))::.row (.l 7)::oD (oB (.p (int (q:Nat))::.p (int (a:Nat))::oF (oD []))))∧L=[(.b 0,.box ((stm l k').map .p) T),(.l 7,.row (pdE o) tPrd 4 true)]) (q) _ _ (by (simp only [ZZ,WW,Zd,reduceCtorEq,zd,ze,zb,zf,za];try trivial)) (by simp only [qAk,ZZ,WW,Zd,reduceCtorEq,zd,ze,zb,zf,za]) ⟨0,k1+1,[],by omega,by omega,by omega,by simp,(fun p hp=>by cases hp),rfl,rfl⟩ ?_
 rintro n fr L ⟨a,k',o,ha,rfl,hk',hol,hoB,rfl,rfl⟩
 simp only [qbS,ZZ,WW,Zd,reduceCtorEq,zd,ze,zb,zf,za]
 refine br ?_ ?_
 rotate_left
 ·intro h
  have haq:q≤a:=by have:=of_decide_eq_false h;omega
  refine zS ?_
  exact qwk 7 (pdE o) [.sl 3 (rlE u)] (stm l k') rfl rfl rfl rfl ⟨o,u,k',rfl,rfl,by omega,hoB,hu,hub,rfl,by omega⟩
 intro h
 have haq:a < q:=by have:=of_decide_eq_true h;omega
 simp only [ZZ,WW,Zd,reduceCtorEq,zd,ze,zb,zf,za,qay]
 refine qad (fun n fr L=>∃ (b:Nat) (w:List Rul),b≤u.length∧n=u.length - b∧(w.length≤b)∧(∀ r∈w,RlM 5 r)∧fr=(.adr (.b 0) 0::.p (.sl 7 (itE il))::oo::oo::oo::oo::.p (.sl 3 (rlE u))::.row (.l 7)::.row (.l 8)::oD (oo::(.p (int (q:Nat))::.p (int (a:Nat))::oo::.p (.sl 3 (rlE u))::.p (int (u.length:Nat))::.p (int (b:Nat))::oF (oC []))))∧L=[(.b 0,.box ((stm l (k'+b)).map .p) T),(.l 7,.row (pdE o) tPrd 4 true),(.l 8,.row (rlE w) tRul 3 true)]) (u.length) _ _ (by simp only [ZZ,WW,Zd,reduceCtorEq,zd,ze,zb,zf,za,qay];try trivial) (by simp only [qzZ,Nat.add_zero,ZZ,WW,Zd,reduceCtorEq,zd,ze,zb,zf,za]) ⟨0,[],by omega,by omega,by simp,(fun r hr=>by cases hr),rfl,rfl⟩ ?_
 rintro n fr L ⟨b,w,hb,rfl,hwl,hwB,rfl,rfl⟩
 simp only [qbR,ZZ,WW,Zd,reduceCtorEq,zd,ze,zb,zf,za]
 refine br ?_ ?_
 ·intro h2
  have hbl:b < u.length:=by have:=of_decide_eq_true h2;omega
  obtain ⟨r,hr⟩:∃ r,u[b]?=some r:=⟨_,zg hbl⟩
  have hg:=qgj hr
  have hrb:=hub r (zx hr)
  simp only [ZZ,WW,Zd,reduceCtorEq,zd,ze,zb,zf,za,hg,qay]
  ((with_reducible and_intros)<;>try exact sc_)
  refine useS (qgp l (k'+b) 2 (by omega) hl (by decide)) rfl rfl rfl zE_ ?_
  rintro x cs' ⟨f,rfl,rfl⟩
  refine zS ?_
  refine br ?_ ?_
  ·intro _
   simp only [ZZ,WW,Zd,reduceCtorEq,zd,ze,zb,zf,za,qay]
   ((with_reducible and_intros)<;>try exact sc_)
   refine qa1 _ _ ReOk.refl ?_
   refine zS ?_
   ((with_reducible and_intros)<;>try exact sc_)
   rw [qpt w r.id r.what r.spans]
   refine qac (u.length - (b+1)) _ _ (by omega) (by (simp only [ZZ,WW,Zd,reduceCtorEq,zd,ze,zb,zf,za];try trivial)) (by (simp only [ZZ,WW,Zd,reduceCtorEq,zd,ze,zb,zf,za];try trivial)) ⟨b+1,w++[⟨r.id,r.what,r.spans⟩],by omega,rfl,(by simp;omega),(by intro y hy;rcases zJ.1 hy with hy|hy;exact hwB y hy;rw [zF] at hy;subst hy;exact ⟨hrb.b1,hrb.b2⟩),rfl,rfl⟩
  ·intro _
   refine zS ?_
   refine qa1 _ _ ReOk.refl ?_
   refine zS ?_
   ((with_reducible and_intros)<;>try exact sc_)
   refine qac (u.length - (b+1)) _ _ (by omega) (by (simp only [ZZ,WW,Zd,reduceCtorEq,zd,ze,zb,zf,za];try trivial)) (by (simp only [ZZ,WW,Zd,reduceCtorEq,zd,ze,zb,zf,za];try trivial)) ⟨b+1,w,by omega,rfl,by omega,hwB,rfl,rfl⟩
 intro h2
 have hbl:b=u.length:=by have:=of_decide_eq_false h2;omega
 subst hbl
 refine zS ?_
 refine useS (qhY l (k'+u.length) [[65,66],[65,66],[67,68,69]] (by omega) hl (by simp) (by simp)) rfl rfl rfl zE_ ?_
 rintro x cs' ⟨pr,rfl,hpr,rfl⟩
 have hpr:pr.length≤1000:=by simp only [zI,zX,or_false] at hpr;rcases hpr with rfl|rfl|rfl<;>decide
 refine zS ?_
 refine useS (qb8 l (k'+u.length+1) [4,4,6] (by omega) hl (by simp) (by simp)) rfl rfl rfl zE_ ?_
 rintro x cs' ⟨dg,rfl,hdg,rfl⟩
 have hdg:-1000≤dg∧dg≤1000:=by simp only [zI,zX,or_false] at hdg;omega
 refine zS ?_
 refine useS (qnN l (k'+u.length+1+1) 1 3 (by omega) hl (by omega) (by omega) (by omega)) rfl rfl rfl zE_ ?_
 rintro x cs' ⟨od,rfl,ho1,ho2,rfl⟩
 have hS:StB ⟨pr,dg,od,wthS,nwtS,100⟩:=⟨hpr,by simp,by simp⟩
 have hmk:=qrV il hP h12 w (by omega) (fun r hr=>zT (hwB r hr).b2 (by decide)) ⟨pr,dg,od,wthS,nwtS,100⟩ hS ⟨show (-1000000000:Int)≤100 by omega,show (100:Int)≤1000000000 by omega⟩ o (by omega) (fun p hp=>(hoB p hp).1)
 have hres:=qBR hP w hS hdg (past:=o) (by omega)
 simp only [stV,pdV] at hmk
 generalize pmP il w ⟨pr,dg,od,wthS,nwtS,100⟩ o=P at hmk hres
 generalize pmE il w ⟨pr,dg,od,wthS,nwtS,100⟩ o=er at hmk
 refine zS ?_
 refine qzp (k:=.l 7) (as0:=[_,_,_]) (as1:=[]) hmk rfl rfl rfl rfl rfl zE_ ?_
 rintro x es ⟨rfl,rfl⟩
 refine zS ?_
 refine br ?_ ?_
 ·intro _
  simp only [ZZ,WW,Zd,reduceCtorEq,zd,ze,zb,zf,za,qaR]
  ((with_reducible and_intros)<;>try exact sc_)
  refine qa1 _ _ ReOk.refl ?_
  refine zS ?_
  ((with_reducible and_intros)<;>try exact sc_)
  have esn:pdE o++[[int P.no,.str P.pre,int P.dig,.sl 7 (shE P.shs)]]=pdE (o++[P]):=by rw [← qAl];rfl
  rw [esn]
  refine qac (q - (a+1)) _ _ (by omega) (by (simp only [ZZ,WW,Zd,reduceCtorEq,zd,ze,zb,zf,za];try trivial)) (by (simp only [ZZ,WW,Zd,reduceCtorEq,zd,ze,zb,zf,za];try trivial)) ⟨a+1,k'+u.length+1+1+1,o++[P],by omega,rfl,by omega,by simp;omega,by intro p hp;rcases zJ.1 hp with hp|hp;exact hoB p hp;rw [zF] at hp;subst hp;exact hres,rfl,rfl⟩
 ·intro _
  refine zS ?_
  refine qa1 _ _ ReOk.refl ?_
  refine zS ?_
  ((with_reducible and_intros)<;>try exact sc_)
  refine qac (q - (a+1)) _ _ (by omega) (by (simp only [ZZ,WW,Zd,reduceCtorEq,zd,ze,zb,zf,za];try trivial)) (by (simp only [ZZ,WW,Zd,reduceCtorEq,zd,ze,zb,zf,za];try trivial)) ⟨a+1,k'+u.length+1+1+1,o,by omega,rfl,by omega,by omega,hoB,rfl,rfl⟩
def qbI:IC:=(sR [qO 2 (.nilr 85 7)] (.seq (sR [qM 3 0,qO 4 (.isn (.t 3))] (.cond (.t 4) (sR [qO 2 (.nilr 85 7)] .ret) .skip)) (sR [qO 5 (.bsr 85 7 []),qM 6 0,qO 7 (.app 85 7 88 (.t 5) (.t 6)),qM 2 7] .ret)))
def qbE:List IRes:=[.t 2]
theorem qel:chkF Tryz.prog Tryz.f46 qbI qbE 8=true:=by kernel_rfl
def qce:IC:=(sR [qO 2 (.nilr 58 1)] (.seq (sR [qM 3 0,qO 4 (.isn (.t 3))] (.cond (.t 4) (sR [qO 2 (.nilr 58 1)] .ret) .skip)) (sR [qO 5 (.bsr 58 1 []),qM 6 0,qO 7 (.app 58 1 24 (.t 5) (.t 6)),qM 2 7] .ret)))
def qca:List IRes:=[.t 2]
theorem qe8:chkF Tryz.prog Tryz.f47 qce qca 8=true:=by kernel_rfl
def qbp:IC:=(sR [qO 3 (.box 36 (.t 1)),qO 4 (.alc 36 [.int .i64 0,.str [],.int .i64 0,.nl 7])] (sR [qF 7 3 3,qL 8 7,qO 9 (.call 46 [.t 8]),qF 10 3 3,qS 1 10 9] (.seq (sR [qF 11 3 3,qL 12 11,qN 13 12,qB 14 .eql 13 (cI 0),qM 15 14,⟨some 16,.mov (.t 0),(some (15,false))⟩,⟨some 17,.call 9 [.t 16,.c (.int .i64 5)],(some (15,false))⟩,qO 18 (.pick (.t 15) (.c (.bool true)) (.t 17))] (.cond (.t 18) (.seq (sR [qM 19 0,qO 20 (.call 10 [.t 19,.c (.int .i64 4)])] (.block 0 (sR [qB 23 .eql 20 (cI 0),qM 22 23] (.cond (.t 22) (.reg [qM 24 0,qO 25 (.bsl 1 [.c (.int .i64 0),.c (.int .i64 1),.c (.int .i64 200),.c (.int .i64 201)]),qO 26 (.call 43 [.t 24,.t 25]),qF 27 0 3,qS 1 27 26]) (sR [qB 29 .eql 20 (cI 1),qM 28 29] (.cond (.t 28) (.reg [qM 30 0,qO 31 (.bsl 1 [.c (.str []),.c (.str [97,98]),.c (.str [90,90])]),qO 32 (.call 42 [.t 30,.t 31]),qF 33 1 3,qS 1 33 32]) (sR [qB 35 .eql 20 (cI 2),qM 34 35] (.cond (.t 34) (.reg [qM 36 0,qO 37 (.bsl 1 [.c (.int .i64 3),.c (.int .i64 9),.c (.int .i64 10)]),qO 38 (.call 43 [.t 36,.t 37]),qF 39 2 3,qS 1 39 38]) (.reg [qF 21 3 3,⟨none,.st 1 (.t 21) (.c (.nl 7)),none⟩]))))))))) (.cut (sR [⟨none,.re,none⟩,qO 40 (.ld 4 true (.t 3)),qS 4 4 40] .ret))) .skip)) (.seq (.drg [qF 41 3 3,qO 42 (.ldl 1 false (.t 41)),qM 43 0,qF 44 3 3,qO 45 (.ldl 1 false (.t 44)),qN 46 45,qO 47 (.dcall true 10 [.t 43,.t 46]),qX 48 7 42 47,qM 5 48]) (.seq (sR [qM 49 0,qO 50 (.call 10 [.t 49,.c (.int .i64 8)])] (.block 1 (sR [qB 88 .eql 50 (cI 0),qM 87 88] (.cond (.t 87) (.reg [qM 89 5,qM 90 0,qO 91 (.bsl 1 [.c (.str []),.c (.str [105,97]),.c (.str [105,98])]),qO 92 (.call 42 [.t 90,.t 91]),qO 93 (.nck (.t 89)),qF 94 0 93,qS 1 94 92]) (sR [qB 96 .eql 50 (cI 1),qM 95 96] (.cond (.t 95) (.reg [qM 97 5,qM 98 0,qM 99 5,qO 100 (.nck (.t 99)),qF 101 0 100,qL 102 101,qO 103 (.bsl 1 [.c (.str []),.c (.str [105,97]),.t 102]),qO 104 (.call 42 [.t 98,.t 103]),qO 105 (.nck (.t 97)),qF 106 1 105,qS 1 106 104]) (sR [qB 108 .eql 50 (cI 2),qM 107 108] (.cond (.t 107) (.reg [qM 109 5,qM 110 0,qO 111 (.call 19 [.t 110,.c (.int .i64 0),.c (.int .i64 5)]),qO 112 (.nck (.t 109)),qF 113 2 112,qS 1 113 111]) (sR [qB 115 .eql 50 (cI 3),qM 114 115] (.cond (.t 114) (.drg [qM 116 5,qO 117 (.nck (.t 116)),qF 118 3 117,qO 119 (.ldl 1 false (.t 118)),qM 120 0,qO 121 (.bsl 1 [.c (.int .i64 (-1)),.c (.int .i64 1)]),qO 122 (.dcall true 43 [.t 120,.t 121]),qT 123 .add 119 122,qO 124 (.nck (.t 116)),qF 125 3 124,qS 1 125 123]) (sR [qB 127 .eql 50 (cI 4),qM 126 127] (.cond (.t 126) (.drg [qM 128 5,qO 129 (.nck (.t 128)),qF 130 4 129,qO 131 (.ldl 1 false (.t 130)),qM 132 0,qO 133 (.bsl 1 [.c (.int .i64 (-1)),.c (.int .i64 1),.c (.int .i64 9999)]),qO 134 (.dcall true 43 [.t 132,.t 133]),qT 135 .add 131 134,qO 136 (.nck (.t 128)),qF 137 4 136,qS 1 137 135]) (sR [qB 139 .eql 50 (cI 5),qM 138 139] (.cond (.t 138) (.reg [qM 140 5,qM 141 0,qO 142 (.bsl 1 [.c (.int .i64 0),.c (.int .i64 1000),.c (.int .i64 1001)]),qO 143 (.call 43 [.t 141,.t 142]),qO 144 (.nck (.t 140)),qF 145 6 144,qS 1 145 143]) (sR [qB 147 .eql 50 (cI 6),qM 146 147] (.cond (.t 146) (.reg [qM 148 5,qM 149 5,qO 150 (.nck (.t 149)),qF 151 5 150,qL 152 151,qO 153 (.call 47 [.t 152]),qM 154 0,qO 155 (.call 44 [.c (.str [112]),.c (.int .i64 81)]),qO 156 (.bsl 1 [.c (.str [120]),.c (.str [97,9,98]),.t 155]),qO 157 (.call 42 [.t 154,.t 156]),⟨none,.fz (.t 157),none⟩,qO 158 (.bsl 1 [.t 157]),qO 159 (.bsl 1 [.t 158]),qO 160 (.app 58 1 24 (.t 153) (.t 159)),⟨none,.re,none⟩,qO 161 (.nck (.t 148)),qF 162 5 161,qS 1 162 160]) (sR [qM 51 0,qM 52 5,qO 53 (.nck (.t 52)),qF 54 5 53,qL 55 54,qN 56 55,qO 57 (.call 10 [.t 51,.t 56]),qM 6 57] (sR [qM 58 5,qM 59 5,qO 60 (.nck (.t 59)),qF 61 5 60,qL 62 61,qO 63 (.call 47 [.t 62]),⟨none,.re,none⟩,qO 64 (.nck (.t 58)),qF 65 5 64,qS 1 65 63,⟨none,.re,none⟩] (.drp [5,6,7,8,9,10,11,12,13,14,15,16,17,18,19,0,1,2,3,4,20,21] [⟨none,.fz (.t 83),none⟩,⟨none,.hole 78,none⟩,qM 71 5,qO 72 (.nck (.t 71)),qF 73 5 72,qO 74 (.ldl 1 false (.t 73)),qM 75 6,qX 76 1 74 75,qO 77 (.ldl 1 false (.t 76)),qO 78 (.fcl 0 48 [.t 77] 9 1),qM 79 0,qO 80 (.pcall 1 44 [.c (.str [112]),.c (.int .i64 80)]),qO 81 (.pcall 2 44 [.c (.str [112]),.c (.int .i64 81)]),qO 82 (.bsl 1 [.c (.str [109,111,114,101]),.c (.str [255]),.t 80,.t 81]),qO 83 (.dcall true 42 [.t 79,.t 82]),qO 84 (.bsl 1 [.t 83]),qO 85 (.app 9 1 16 (.t 78) (.t 84)),qM 66 5,qO 67 (.nck (.t 66)),qF 68 5 67,qO 69 (.ldl 1 false (.t 68)),qM 70 6,qX 86 1 69 70,qS 1 86 85]))))))))))))))))))) (.cut (sR [⟨none,.re,none⟩,qO 163 (.ld 4 true (.t 3)),qS 4 4 163] .ret)))))))
def qbl:List IRes:=[.c 4 4 true]
theorem qdN:chkF Tryz.prog Tryz.f11 qbp qbl 164=true:=by kernel_rfl
section
variable {E:Envt}
theorem quQ (es:List (List PV)) (hn:es.length≤1000000):FCall Tryz.prog E 46 [.sl 7 es] qg1 7 (·=es):=by
 unfold FCall
 refine qio mixed Tryz.func46 qel ?_
 simp only [a0,l0,OS.ao,zk,zr,zi,zo,zl,zm,zu,zd,zh,zj,qbI,qbE,ZZ,WW,Zd,reduceCtorEq,zd,ze,zb,zf,za]
 intro b hb
 refine br ?_ ?_
 ·intro h
  have:=hb h
  refine zS ?_
  exact qle 2 [] rfl rfl this.symm
 ·intro h
  refine zS ?_
  exact ⟨by omega,qle 5 es rfl rfl rfl⟩
theorem qpi (es:List (List PV)) (hn:es.length≤1000000):FCall Tryz.prog E 47 [.sl 1 es] tPgs 1 (·=es):=by
 unfold FCall
 refine qio mixed Tryz.func47 qe8 ?_
 simp only [a0,l0,OS.ao,zk,zr,zi,zo,zl,zm,zu,zd,zh,zj,qce,qca,ZZ,WW,Zd,reduceCtorEq,zd,ze,zb,zf,za]
 intro b hb
 refine br ?_ ?_
 ·intro h
  have:=hb h
  refine zS ?_
  exact qle 2 [] rfl rfl this.symm
 ·intro h
  refine zS ?_
  exact ⟨by omega,qle 5 es rfl rfl rfl⟩
theorem qk7 (l:List Sht) (q:Nat) (x:Sht):(shE l).set q (shV x)=shE (l.set q x):=by simp [shE]
theorem qvu:∀ l:List PV,Zaz (l.map AV.p)=some (l.map wk1)
 |[]=>rfl
 |a :: l=>by simp only [zk,Zaz,Zay,qvu l]
theorem qpJ:∀ L:List (List PV),Zba (L.map fun r=>r.map AV.p)=some (L.map fun r=>r.map wk1)
 |[]=>rfl
 |r :: L=>by simp only [zk,Zba,qvu,qpJ L]
theorem qBC (l:List Sht):(shE l).map (fun r=>r.map wk1)=shE l:=by
 rw [shE,z7]
 exact zQ fun x _=>rfl
theorem qBr (l:Tab):(tbE l).map (fun r=>r.map wk1)=tbE l:=by
 rw [tbE,z7]
 exact zQ fun x _=>rfl
theorem qpv {fr fr1:List AV} {L L1:Objs} {K:List AV→Objs→Prop} (h:ReOk E fr L fr1 L1) (h2:∃ fr' L',ReOk E fr1 L1 fr' L'∧K fr' L'):∃ fr' L',ReOk E fr L fr' L'∧K fr' L':=by
 obtain ⟨a,b,c,d⟩:=h2
 exact ⟨a,b,h.trans c,d⟩
theorem qzu (pg:Tab) (j:Nat) (r:SRow):Zba (((tbE pg).map fun x=>x.map AV.p).set j [.p (.sl 1 (strE r))])=some (tbE (pg.set j r)):=by
 have h:((tbE pg).map fun x=>x.map AV.p).set j [.p (.sl 1 (strE r))]=(tbE (pg.set j r)).map fun x=>x.map AV.p:=by simp [tbE,List.map_set]
 rw [h,qpJ,qBr]
theorem qzX (l:List Sht) (q:Nat) (y:Sht):Zba (((shE l).map fun x=>x.map AV.p).set q [.p (.str y.id),.p (.str y.top),.p (int y.kind),.p (int y.fr_),.p (int y.to_),.p (.sl 1 (tbE y.pages)),.p (int y.ver)])=some (shE (l.set q y)):=by
 have h:((shE l).map fun x=>x.map AV.p).set q [.p (.str y.id),.p (.str y.top),.p (int y.kind),.p (int y.fr_),.p (int y.to_),.p (.sl 1 (tbE y.pages)),.p (int y.ver)]=(shE (l.set q y)).map fun x=>x.map AV.p:=by simp [shE,shV,List.map_set]
 rw [h,qpJ,qBC]
theorem qCe (k:Key) (X:List (List PV)):((X.map fun x=>x.map AV.p).map fun x=>x.map fun y=>AV.kill k y)=X.map fun x=>x.map AV.p:=by
 rw [z7]
 refine zQ fun x _=>?_
 rw [Function.comp_apply,z7]
 exact zQ fun y _=>rfl
theorem qBq (k:Key) (v:PV) (X:List (List PV)):((X.map fun x=>x.map AV.p).map fun x=>x.map fun y=>AV.thaw k v y)=X.map fun x=>x.map AV.p:=by
 rw [z7]
 refine zQ fun x _=>?_
 rw [Function.comp_apply,z7]
 exact zQ fun y _=>by simp only [Function.comp_apply,AV.thaw,thaw_P]
theorem qkz {p:Prd} (h:PdB p) (q:Nat) {y:Sht} (hy:ShB y):PdB ⟨p.no,p.pre,p.dig,p.shs.set q y⟩:=
 ⟨h.no,h.pre,h.dig,by show (p.shs.set q y).length≤1000;rw [yf];exact h.shs,fun x hx=>by
  rcases yb hx with hx|rfl
  ·exact h.all x hx
  ·exact hy⟩
set_option maxHeartbeats 8000000 in
set_option maxRecDepth 100000 in
theorem qkW (l:List Int) (k:Nat) (p:Prd) (hp:PdB p) (hpg:PgP p) (hk:k≤800000) (hl:l.length≤9223372036854775807) :
  qhI Tryz.prog E 11 T (stm l k) [.agg (pdV p)] (fun x cs'=>∃ p' k',x=.agg (pdV p')∧PdB p'∧cs'=stm l k'∧k'≤k+10):=by
 unfold qhI
 refine qge mixed Tryz.func11 qdN ?_
 simp only [a0,l0,OS.ao,zk,zr,zi,zo,zl,zm,zu,zd,zh,zj,pdV,qbp,qbl,ZZ,WW,Zd,reduceCtorEq,zd,ze,zb,zf,za]
 refine useF (quQ (shE p.shs) (by rw [qaj];have:=hp.shs;omega)) rfl rfl ?_
 rintro es rfl
 have hsl:=hp.shs
 obtain ⟨no,pre,dig,shs⟩:=p
 have hb1:=hp.no
 have hb3:=hp.dig
 simp only at hsl hb1 hb3 ⊢
 simp only [pdV,ZZ,WW,Zd,reduceCtorEq,zd,ze,zb,zf,za]
 rcases Nat.eq_zero_or_pos shs.length with h0|h0
 ·have e0:decide ((shs.length:Int)=0)=true:=by rw [h0];rfl
  simp only [ZZ,WW,Zd,reduceCtorEq,zd,ze,zb,zf,za,qaj,e0,Bool.not_true]
  refine qsb (fun h=>by cases h) (fun _=>?_)
  refine zS ?_
  refine useS (qcX l (k) 4 (by omega) hl (by decide)) rfl rfl rfl zE_ ?_
  rintro x cs' ⟨y,rfl,rfl⟩
  generalize qef y 4=c
  refine zS ?_
  refine br ?_ ?_
  ·intro _
   refine zS ?_
   refine useS (qb8 l (k+1) [0,1,200,201] (by omega) hl (by simp) (by simp)) rfl rfl rfl zE_ ?_
   rintro x cs' ⟨u,rfl,hu,rfl⟩
   have hu:-1000000≤u∧u≤1000000:=by simp only [zI,zX,or_false] at hu;omega
   refine zS ?_
   refine qal zE_ ?_
   refine zS ?_
   rw [qa6]
   refine ⟨_,_,qbO (k:=.l 9) rfl,?_⟩
   refine zS ?_
   exact qec (stm l (k+1+1)) rfl ⟨⟨u,pre,dig,shs⟩,_,rfl,⟨hu,hp.pre,hp.dig,hp.shs,hp.all⟩,rfl,by omega⟩
  intro _
  refine zS ?_
  refine br ?_ ?_
  ·intro _
   refine zS ?_
   refine useS (qhY l (k+1) [[],[97,98],[90,90]] (by omega) hl (by simp) (by simp)) rfl rfl rfl zE_ ?_
   rintro x cs' ⟨u,rfl,hu,rfl⟩
   have hu:u.length≤1000:=by simp only [zI,zX,or_false] at hu;rcases hu with rfl|rfl|rfl<;>decide
   refine zS ?_
   refine qal zE_ ?_
   refine zS ?_
   rw [qa6]
   refine ⟨_,_,qbO (k:=.l 9) rfl,?_⟩
   refine zS ?_
   exact qec (stm l (k+1+1)) rfl ⟨⟨no,u,dig,shs⟩,_,rfl,⟨hp.no,hu,hp.dig,hp.shs,hp.all⟩,rfl,by omega⟩
  intro _
  refine zS ?_
  refine br ?_ ?_
  ·intro _
   refine zS ?_
   refine useS (qb8 l (k+1) [3,9,10] (by omega) hl (by simp) (by simp)) rfl rfl rfl zE_ ?_
   rintro x cs' ⟨u,rfl,hu,rfl⟩
   have hu:-1000≤u∧u≤1000:=by simp only [zI,zX,or_false] at hu;omega
   refine zS ?_
   refine qal zE_ ?_
   refine zS ?_
   rw [qa6]
   refine ⟨_,_,qbO (k:=.l 9) rfl,?_⟩
   refine zS ?_
   exact qec (stm l (k+1+1)) rfl ⟨⟨no,pre,u,shs⟩,_,rfl,⟨hp.no,hp.pre,hu,hp.shs,hp.all⟩,rfl,by omega⟩
  intro _
  refine zS ?_
  refine qal zE_ ?_
  refine zS ?_
  rw [qa6]
  refine ⟨_,_,qbO (k:=.l 9) rfl,?_⟩
  refine zS ?_
  exact qec (stm l (k+1)) rfl ⟨⟨no,pre,dig,[]⟩,_,rfl,⟨hp.no,hp.pre,hp.dig,(by simp),fun x hx=>by cases hx⟩,rfl,by omega⟩
 have e0:decide ((shs.length:Int)=0)=false:=by rw [decide_eq_false_iff_not];omega
 simp only [ZZ,WW,Zd,reduceCtorEq,zd,ze,zb,zf,za,qaj,e0,Bool.not_false]
 refine qsb (fun _=>?_) (fun hc=>by cases hc)
 refine useS (qgp l k 5 (by omega) hl (by decide)) rfl rfl rfl zE_ ?_
 rintro x cs' ⟨f,rfl,rfl⟩
 refine zS ?_
 refine br ?_ ?_
 ·intro _
  refine zS ?_
  refine useS (qcX l (k+1) 4 (by omega) hl (by decide)) rfl rfl rfl zE_ ?_
  rintro x cs' ⟨y,rfl,rfl⟩
  generalize qef y 4=c
  refine zS ?_
  refine br ?_ ?_
  ·intro _
   refine zS ?_
   refine useS (qb8 l (k+1+1) [0,1,200,201] (by omega) hl (by simp) (by simp)) rfl rfl rfl zE_ ?_
   rintro x cs' ⟨u,rfl,hu,rfl⟩
   have hu:-1000000≤u∧u≤1000000:=by simp only [zI,zX,or_false] at hu;omega
   refine zS ?_
   refine qal zE_ ?_
   refine zS ?_
   rw [qa6]
   refine ⟨_,_,qbO (k:=.l 9) rfl,?_⟩
   refine zS ?_
   exact qec (stm l (k+1+1+1)) rfl ⟨⟨u,pre,dig,shs⟩,_,rfl,⟨hu,hp.pre,hp.dig,hp.shs,hp.all⟩,rfl,by omega⟩
  intro _
  refine zS ?_
  refine br ?_ ?_
  ·intro _
   refine zS ?_
   refine useS (qhY l (k+1+1) [[],[97,98],[90,90]] (by omega) hl (by simp) (by simp)) rfl rfl rfl zE_ ?_
   rintro x cs' ⟨u,rfl,hu,rfl⟩
   have hu:u.length≤1000:=by simp only [zI,zX,or_false] at hu;rcases hu with rfl|rfl|rfl<;>decide
   refine zS ?_
   refine qal zE_ ?_
   refine zS ?_
   rw [qa6]
   refine ⟨_,_,qbO (k:=.l 9) rfl,?_⟩
   refine zS ?_
   exact qec (stm l (k+1+1+1)) rfl ⟨⟨no,u,dig,shs⟩,_,rfl,⟨hp.no,hu,hp.dig,hp.shs,hp.all⟩,rfl,by omega⟩
  intro _
  refine zS ?_
  refine br ?_ ?_
  ·intro _
   refine zS ?_
   refine useS (qb8 l (k+1+1) [3,9,10] (by omega) hl (by simp) (by simp)) rfl rfl rfl zE_ ?_
   rintro x cs' ⟨u,rfl,hu,rfl⟩
   have hu:-1000≤u∧u≤1000:=by simp only [zI,zX,or_false] at hu;omega
   refine zS ?_
   refine qal zE_ ?_
   refine zS ?_
   rw [qa6]
   refine ⟨_,_,qbO (k:=.l 9) rfl,?_⟩
   refine zS ?_
   exact qec (stm l (k+1+1+1)) rfl ⟨⟨no,pre,u,shs⟩,_,rfl,⟨hp.no,hp.pre,hu,hp.shs,hp.all⟩,rfl,by omega⟩
  intro _
  refine zS ?_
  refine qal zE_ ?_
  refine zS ?_
  rw [qa6]
  refine ⟨_,_,qbO (k:=.l 9) rfl,?_⟩
  refine zS ?_
  exact qec (stm l (k+1+1)) rfl ⟨⟨no,pre,dig,[]⟩,_,rfl,⟨hp.no,hp.pre,hp.dig,(by simp),fun x hx=>by cases hx⟩,rfl,by omega⟩
 intro _
 refine zS ?_
 refine drg0 ?_
 simp only [ZZ,WW,Zd,reduceCtorEq,zd,ze,zb,zf,za,qaj]
 refine useD (qcX l (k+1) shs.length (by omega) hl (by omega)) ⟨_,_,0,rfl,rfl⟩ rfl rfl rfl zE_ (fun _=>⟨0,rfl⟩) ?_
 rintro x cs' ⟨y,rfl,rfl⟩
 have y1:=qe6 y shs.length
 have y2:=qe7 y shs.length (by omega)
 obtain ⟨q,hq⟩:∃ q:Nat,qef y shs.length=(q:Nat):=⟨(qef y shs.length).toNat,by omega⟩
 rw [hq] at y1 y2 ⊢
 clear hq
 obtain ⟨x,hx⟩:∃ x,shs[q]?=some x:=⟨_,zg (by omega)⟩
 have hg:=qeB hx
 have hxB:=hp.all x (zx hx)
 have hxS:=hpg x (zx hx)
 obtain ⟨id,top,kd,fr0,to0,pg,ver⟩:=x
 simp only [shV] at hg
 have hql:q < shs.length:=by omega
 have hb4:=hxS.fr_
 have hb5:=hxS.to_
 simp only at hb4 hb5
 simp only [ZZ,WW,Zd,reduceCtorEq,zd,ze,zb,zf,za,hg,qaj]
 refine ⟨⟨by omega,by omega⟩,?_⟩
 refine useS (qcX l (k+1+1) 8 (by omega) hl (by decide)) rfl rfl rfl zE_ ?_
 rintro x cs' ⟨y,rfl,rfl⟩
 generalize qef y 8=c
 refine zS ?_
 refine br ?_ ?_
 ·intro _
  simp only [ZZ,WW,Zd,reduceCtorEq,zd,ze,zb,zf,za,hg,qaj]
  refine useS (qhY l (k+1+1+1) [[],[105,97],[105,98]] (by omega) hl (by simp) (by simp)) rfl rfl rfl zE_ ?_
  rintro x cs' ⟨u,rfl,hu,rfl⟩
  have hu:u.length≤1000:=by simp only [zI,zX,or_false] at hu;rcases hu with rfl|rfl|rfl<;>decide
  simp only [ZZ,WW,Zd,reduceCtorEq,zd,ze,zb,zf,za,hg,qaj]
  refine ⟨hql,?_⟩
  refine qal zE_ ?_
  refine zS ?_
  rw [qa6]
  refine ⟨_,_,qbO (k:=.l 9) rfl,?_⟩
  refine zS ?_
  exact qec (stm l (k+1+1+1+1)) rfl ⟨⟨no,pre,dig,shs.set q ⟨u,top,kd,fr0,to0,pg,ver⟩⟩,_,by simp only [← qk7];rfl,qkz hp q ⟨hu,hxB.top,hxB.kind,hxB.fr_,hxB.to_,hxB.pages,hxB.page,hxB.ver⟩,rfl,by omega⟩
 intro _
 refine zS ?_
 refine br ?_ ?_
 ·intro _
  simp only [ZZ,WW,Zd,reduceCtorEq,zd,ze,zb,zf,za,hg,qaj]
  refine ⟨hql,?_⟩
  refine useS (qhY l (k+1+1+1) [[],[105,97],id] (by omega) hl (by simp) (by simp)) rfl rfl rfl zE_ ?_
  rintro x cs' ⟨u,rfl,hu,rfl⟩
  have hu:u.length≤1000:=by simp only [zI,zX,or_false] at hu;rcases hu with rfl|rfl|rfl<;>first|exact hxB.id|decide
  simp only [ZZ,WW,Zd,reduceCtorEq,zd,ze,zb,zf,za,hg,qaj]
  refine ⟨hql,?_⟩
  refine qal zE_ ?_
  refine zS ?_
  rw [qa6]
  refine ⟨_,_,qbO (k:=.l 9) rfl,?_⟩
  refine zS ?_
  exact qec (stm l (k+1+1+1+1)) rfl ⟨⟨no,pre,dig,shs.set q ⟨id,u,kd,fr0,to0,pg,ver⟩⟩,_,by simp only [← qk7];rfl,qkz hp q ⟨hxB.id,hu,hxB.kind,hxB.fr_,hxB.to_,hxB.pages,hxB.page,hxB.ver⟩,rfl,by omega⟩
 intro _
 refine zS ?_
 refine br ?_ ?_
 ·intro _
  simp only [ZZ,WW,Zd,reduceCtorEq,zd,ze,zb,zf,za,hg,qaj]
  refine useS (qnN l (k+1+1+1) 0 5 (by omega) hl (by omega) (by omega) (by omega)) rfl rfl rfl zE_ ?_
  rintro x cs' ⟨u,rfl,hu1,hu2,rfl⟩
  simp only [ZZ,WW,Zd,reduceCtorEq,zd,ze,zb,zf,za,hg,qaj]
  refine ⟨hql,?_⟩
  refine qal zE_ ?_
  refine zS ?_
  rw [qa6]
  refine ⟨_,_,qbO (k:=.l 9) rfl,?_⟩
  refine zS ?_
  exact qec (stm l (k+1+1+1+1)) rfl ⟨⟨no,pre,dig,shs.set q ⟨id,top,u,fr0,to0,pg,ver⟩⟩,_,by simp only [← qk7];rfl,qkz hp q ⟨hxB.id,hxB.top,show -1000≤u∧u≤1000 by omega,hxB.fr_,hxB.to_,hxB.pages,hxB.page,hxB.ver⟩,rfl,by omega⟩
 intro _
 refine zS ?_
 refine br ?_ ?_
 ·intro _
  simp only [ZZ,WW,Zd,reduceCtorEq,zd,ze,zb,zf,za,hg,qaj]
  refine drg0 ?_
  simp only [ZZ,WW,Zd,reduceCtorEq,zd,ze,zb,zf,za,hg,qaj]
  refine ⟨hql,?_⟩
  refine useD (qb8 l (k+1+1+1) [-1,1] (by omega) hl (by simp) (by simp)) ⟨_,_,-1,rfl,by simp,rfl⟩ rfl rfl rfl zE_ (fun _=>⟨0,rfl⟩) ?_
  rintro x cs' ⟨u,rfl,hu,rfl⟩
  have hu:-10000≤u∧u≤10000:=by simp only [zI,zX,or_false] at hu;omega
  simp only [ZZ,WW,Zd,reduceCtorEq,zd,ze,zb,zf,za,hg,qaj]
  refine ⟨qan (by omega) (by omega),?_⟩
  refine ⟨hql,?_⟩
  refine qal zE_ ?_
  refine zS ?_
  rw [qa6]
  refine ⟨_,_,qbO (k:=.l 9) rfl,?_⟩
  refine zS ?_
  exact qec (stm l (k+1+1+1+1)) rfl ⟨⟨no,pre,dig,shs.set q ⟨id,top,kd,fr0+u,to0,pg,ver⟩⟩,_,by simp only [← qk7];rfl,qkz hp q ⟨hxB.id,hxB.top,hxB.kind,show -100000000000≤fr0+u∧fr0+u≤100000000000 by omega,hxB.to_,hxB.pages,hxB.page,hxB.ver⟩,rfl,by omega⟩
 intro _
 refine zS ?_
 refine br ?_ ?_
 ·intro _
  simp only [ZZ,WW,Zd,reduceCtorEq,zd,ze,zb,zf,za,hg,qaj]
  refine drg0 ?_
  simp only [ZZ,WW,Zd,reduceCtorEq,zd,ze,zb,zf,za,hg,qaj]
  refine ⟨hql,?_⟩
  refine useD (qb8 l (k+1+1+1) [-1,1,9999] (by omega) hl (by simp) (by simp)) ⟨_,_,-1,rfl,by simp,rfl⟩ rfl rfl rfl zE_ (fun _=>⟨0,rfl⟩) ?_
  rintro x cs' ⟨u,rfl,hu,rfl⟩
  have hu:-10000≤u∧u≤10000:=by simp only [zI,zX,or_false] at hu;omega
  simp only [ZZ,WW,Zd,reduceCtorEq,zd,ze,zb,zf,za,hg,qaj]
  refine ⟨qan (by omega) (by omega),?_⟩
  refine ⟨hql,?_⟩
  refine qal zE_ ?_
  refine zS ?_
  rw [qa6]
  refine ⟨_,_,qbO (k:=.l 9) rfl,?_⟩
  refine zS ?_
  exact qec (stm l (k+1+1+1+1)) rfl ⟨⟨no,pre,dig,shs.set q ⟨id,top,kd,fr0,to0+u,pg,ver⟩⟩,_,by simp only [← qk7];rfl,qkz hp q ⟨hxB.id,hxB.top,hxB.kind,hxB.fr_,show -100000000000≤to0+u∧to0+u≤100000000000 by omega,hxB.pages,hxB.page,hxB.ver⟩,rfl,by omega⟩
 intro _
 refine zS ?_
 refine br ?_ ?_
 ·intro _
  simp only [ZZ,WW,Zd,reduceCtorEq,zd,ze,zb,zf,za,hg,qaj]
  refine useS (qb8 l (k+1+1+1) [0,1000,1001] (by omega) hl (by simp) (by simp)) rfl rfl rfl zE_ ?_
  rintro x cs' ⟨u,rfl,hu,rfl⟩
  have hu:-1000000≤u∧u≤1000000:=by simp only [zI,zX,or_false] at hu;omega
  simp only [ZZ,WW,Zd,reduceCtorEq,zd,ze,zb,zf,za,hg,qaj]
  refine ⟨hql,?_⟩
  refine qal zE_ ?_
  refine zS ?_
  rw [qa6]
  refine ⟨_,_,qbO (k:=.l 9) rfl,?_⟩
  refine zS ?_
  exact qec (stm l (k+1+1+1+1)) rfl ⟨⟨no,pre,dig,shs.set q ⟨id,top,kd,fr0,to0,pg,u⟩⟩,_,by simp only [← qk7];rfl,qkz hp q ⟨hxB.id,hxB.top,hxB.kind,hxB.fr_,hxB.to_,hxB.pages,hxB.page,hu⟩,rfl,by omega⟩
 intro _
 refine zS ?_
 refine br ?_ ?_
 ·intro _
  simp only [ZZ,WW,Zd,reduceCtorEq,zd,ze,zb,zf,za,hg,qaj]
  refine ⟨hql,?_⟩
  have hpl:=hxS.pages
  simp only at hpl
  refine useF (qpi (tbE pg) (by rw [qaN];omega)) rfl rfl ?_
  rintro es rfl
  refine zS ?_
  refine use1 (qex [112] 81 (by omega) (by simp)) rfl (.inl rfl) ?_
  have g0:(Lib.repeatL [112] 81).length=81:=by rw [Lib.repeatL_length];rfl
  generalize Lib.repeatL [112] 81=r0 at g0 ⊢
  refine zS ?_
  refine useS (qhY l (k+1+1+1) [[120],[97,9,98],r0] (by omega) hl (by simp) (by simp)) rfl rfl rfl zE_ ?_
  rintro x cs' ⟨u,rfl,hu,rfl⟩
  have hu:u.length≤1000:=by simp only [zI,zX,or_false] at hu;rcases hu with rfl|rfl|rfl<;>first|omega|decide
  simp only [ZZ,WW,Zd,reduceCtorEq,zd,ze,zb,zf,za,qaN]
  refine ⟨by omega,?_⟩
  rw [qa6]
  refine ⟨_,_,qbO (k:=.l 153) rfl,?_⟩
  simp only [ZZ,WW,Zd,reduceCtorEq,zd,ze,zb,zf,za,hg,qaj]
  refine ⟨hql,?_⟩
  refine qal zE_ ?_
  refine zS ?_
  rw [qa6]
  refine ⟨_,_,qbO (k:=.l 9) rfl,?_⟩
  refine zS ?_
  have epg:tbE pg++[[PV.sl 1 [[PV.str u]]]]=tbE (pg++[[u]]):=by simp [tbE,strE]
  rw [epg]
  exact qec (stm l (k+1+1+1+1)) rfl ⟨⟨no,pre,dig,shs.set q ⟨id,top,kd,fr0,to0,pg++[[u]],ver⟩⟩,_,by simp only [← qk7];rfl,qkz hp q ⟨hxB.id,hxB.top,hxB.kind,hxB.fr_,hxB.to_,(by show (pg++[[u]]).length≤100000;rw [zK,List.length_singleton];omega),(fun r hr=>(zJ.1 hr).elim (hxB.page r) (fun h=>by rw [zF] at h;subst h;exact ⟨by simp,fun z hz=>by rw [zF] at hz;subst hz;omega⟩)),hxB.ver⟩,rfl,by omega⟩
 intro _
 simp only [ZZ,WW,Zd,reduceCtorEq,zd,ze,zb,zf,za,hg,qaj,qaN]
 refine ⟨hql,?_⟩
 have hpl:=hxS.pages
 have hpp:=hxS.page
 simp only at hpl hpp
 refine useS (qcX l (k+1+1+1) pg.length (by omega) hl (by omega)) rfl rfl rfl zE_ ?_
 rintro x cs' ⟨y,rfl,rfl⟩
 have z1:=qe6 y pg.length
 have z2:=qe7 y pg.length (by omega)
 obtain ⟨j,hj⟩:∃ j:Nat,qef y pg.length=(j:Nat):=⟨(qef y pg.length).toNat,by omega⟩
 rw [hj] at z1 z2 ⊢
 clear hj
 obtain ⟨r,hr⟩:∃ r,pg[j]?=some r:=⟨_,zg (by omega)⟩
 have hgr:=qmw hr
 have hrp:=hpp r (zx hr)
 simp only [ZZ,WW,Zd,reduceCtorEq,zd,ze,zb,zf,za,hg,qaj,qaN]
 refine ⟨hql,?_⟩
 refine useF (qpi (tbE pg) (by rw [qaN];omega)) rfl rfl ?_
 rintro es rfl
 refine zS ?_
 rw [qa6]
 refine ⟨_,_,qso (k:=.l 9) rfl,?_⟩
 refine zS ?_
 refine ⟨by rw [zB,qaj];exact hql,?_⟩
 have hgm:((shE shs).map fun x=>x.map AV.p).getD q []=[.p (.str id),.p (.str top),.p (int kd),.p (int fr0),.p (int to0),.p (.sl 1 (tbE pg)),.p (int ver)]:=by
  rw [zD,zz,shE,zz,hx];rfl
 simp only [ZZ,WW,Zd,reduceCtorEq,zd,ze,zb,zf,za,hgm]
 rw [qa6]
 refine ⟨_,_,qso (k:=.l 63) rfl,?_⟩
 refine zS ?_
 have hNg:((tbE pg).map fun x=>x.map AV.p).getD j []=[.p (.sl 1 (strE r))]:=by
  rw [zD,zz,tbE,zz,hr];rfl
 have hset:∀ R,(((shE shs).map fun x=>x.map AV.p).set q R).getD q []=R:=fun R=>by
  rw [zD,List.getElem?_set_self (by rw [zB,qaj];exact hql)];rfl
 refine ⟨[.sl 1 (strE r),.str (Lib.repeatL [112] 80),.str (Lib.repeatL [112] 81)],?_⟩
 simp only [ZZ,WW,Zd,reduceCtorEq,zd,ze,zb,zf,za,List.map_set,qCe,hset,hNg,yf,zB,qaj,qaN]
 refine ⟨hql,⟨by omega,by omega⟩,by omega,qCB (qr4 (strE r) (by rw [qag];omega)),usep (qex [112] 80 (by omega) (by simp)) rfl (.inl rfl),usep (qex [112] 81 (by omega) (by simp)) rfl (.inl rfl),?_⟩
 have g0:(Lib.repeatL [112] 80).length=80:=by rw [Lib.repeatL_length];rfl
 have g1:(Lib.repeatL [112] 81).length=81:=by rw [Lib.repeatL_length];rfl
 generalize Lib.repeatL [112] 80=r0 at g0 ⊢
 generalize Lib.repeatL [112] 81=r1 at g1 ⊢
 refine useD (qhY l (k+1+1+1+1) [[109,111,114,101],[255],r0,r1] (by omega) hl (by simp) (by simp)) ⟨_,_,[255],rfl,by simp,rfl⟩ rfl rfl rfl zE_ (fun _=>⟨0,rfl⟩) ?_
 rintro x cs' ⟨u,rfl,hu,rfl⟩
 have hu:u.length≤1000:=by simp only [zI,zX,or_false] at hu;rcases hu with rfl|rfl|rfl|rfl<;>first|omega|decide
 simp only [ZZ,WW,Zd,reduceCtorEq,zd,ze,zb,zf,za,List.map_set,qCe,hset,hNg,yf,zB,qaj,qaN,qag]
 refine ⟨by omega,hql,⟨by omega,by omega⟩,by omega,?_⟩
 refine qal zE_ ?_
 refine zS ?_
 rw [qa6]
 refine qpv (qbO (k:=.l 78) rfl) ?_
 simp only [ZZ,WW,Zd,reduceCtorEq,zd,ze,zb,zf,za,List.map_set,qBq]
 have er:strE r++[[PV.str u]]=strE (r++[u]):=by simp [strE]
 rw [er]
 refine qpv (qkF (k:=.l 63) rfl (qzu pg j (r++[u]))) ?_
 refine zS ?_
 refine qpv (qbO (k:=.l 63) rfl) ?_
 simp only [ZZ,WW,Zd,reduceCtorEq,zd,ze,zb,zf,za,List.map_set,qBq]
 refine qpv (qkF (k:=.l 9) rfl (qzX shs q ⟨id,top,kd,fr0,to0,pg.set j (r++[u]),ver⟩)) ?_
 refine zS ?_
 refine ⟨_,_,qbO (k:=.l 9) rfl,?_⟩
 refine zS ?_
 exact qec (stm l (k+1+1+1+1+1)) rfl ⟨⟨no,pre,dig,shs.set q ⟨id,top,kd,fr0,to0,pg.set j (r++[u]),ver⟩⟩,_,rfl,qkz hp q ⟨hxB.id,hxB.top,hxB.kind,hxB.fr_,hxB.to_,(by show (pg.set j (r++[u])).length≤100000;rw [yf];omega),(fun r' hr'=>(yb hr').elim (hxB.page r') (fun h=>by subst h;exact ⟨by simp;omega,fun z hz=>(zJ.1 hz).elim ((hxB.page r (zx hr)).2 z) (fun h=>by rw [zF] at h;subst h;omega)⟩)),hxB.ver⟩,rfl,by omega⟩
end
end Go.Proofs.YtehfjlpenlffmaaGreatDoor
