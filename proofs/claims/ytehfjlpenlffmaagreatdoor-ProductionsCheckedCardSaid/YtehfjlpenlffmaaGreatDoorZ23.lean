import Derived.Test.YtehfjlpenlffmaaGreatDoorZ16
import Derived.Test.YtehfjlpenlffmaaGreatDoorZ22
import Derived.Test.YtehfjlpenlffmaaGreatDoorZ15
import Derived.Test.YtehfjlpenlffmaaGreatDoorZ10
import Derived.Test.YtehfjlpenlffmaaGreatDoorZ9
import Derived.Test.YtehfjlpenlffmaaGreatDoorLayItoa
set_option linter.unusedVariables false
set_option linter.unusedSimpArgs false
set_option linter.defProp false
namespace Go.Proofs.YtehfjlpenlffmaaGreatDoor
open Nat renaming reduceSub→zp,reduceAdd→zd,reduceMul→ze,reduceLeDiff→zb,reduceLT→zf,reduceEqDiff→za
open List renaming map_cons→zj,map_nil→zo,length_cons→zi,length_nil→zn,cons_append→zl,nil_append→zm,replicate_succ→zh,replicate_zero→zk,getD→zt
open Go.RowKit
section
variable {E:Envt}
end
def qbv:IC:=(.seq (.reg [qO 24 (.bin .lss (.t 23) (.t 22))]) (.seq (.cond (.t 24) .skip (.exit 2)) (.seq (.block 3 (.seq (.reg [qO 25 (.ixa 3 (.t 21) (.t 23)),qO 26 (.ld 3 true (.t 25)),qO 10 (.alc 76 [.str [],.int .i64 0,.nl 2]),⟨none,.st 3 (.t 10) (.t 26),none⟩]) (.seq (.reg [qM 27 0,qO 28 (.call 9 [.t 27,.c (.int .i64 2)])]) (.cond (.t 28) (.reg [qM 29 8,qO 30 (.ld 3 true (.t 10)),qO 31 (.bsl 3 [.t 30]),qO 32 (.app 76 3 48 (.t 29) (.t 31)),qM 8 32]) .skip)))) (.cut (.reg [qO 33 (.bin .add (.t 23) (.c (.int .i64 1))),qM 23 33])))))
def qbw:IC:=(.seq (.reg [qO 20 (.bin .lss (.t 19) (.t 18))]) (.seq (.cond (.t 20) .skip (.exit 0)) (.seq (.block 1 (.seq (.reg [qO 8 (.nilr 76 3)]) (.seq (.seq (.reg [qM 21 6,qO 22 (.len (.t 21)),qO 23 (.mov (.c (.int .i64 0)))]) (.block 2 (.loop qbv))) (.seq (.reg [qM 34 0,qO 35 (.bsl 1 [.c (.str [65,66]),.c (.str [65,66]),.c (.str [67,68,69])]),qO 36 (.call 42 [.t 34,.t 35]),qM 37 0,qO 38 (.bsl 1 [.c (.int .i64 4),.c (.int .i64 4),.c (.int .i64 6)]),qO 39 (.call 43 [.t 37,.t 38]),qM 40 0,qO 41 (.call 19 [.t 40,.c (.int .i64 1),.c (.int .i64 3)]),⟨none,.fz (.t 36),none⟩,⟨none,.fz (.t 39),none⟩,⟨none,.fz (.t 41),none⟩,qO 42 (.bld [.str [],.int .i64 0,.int .i64 0,.str [],.str [],.int .i64 0] [(0,1,.t 36),(1,1,.t 39),(2,1,.t 41),(3,1,.c (.str [119,105,116,104,104,101,108,100])),(4,1,.c (.str [110,111,116,32,119,97,110,116,101,100])),(5,1,.c (.int .i64 100))]),qO 11 (.alc 45 [.str [],.int .i64 0,.int .i64 0,.str [],.str [],.int .i64 0]),⟨none,.st 6 (.t 11) (.t 42),none⟩]) (.seq (.reg [qM 44 1,qM 45 8,qO 46 (.ld 6 true (.t 11)),qM 47 7,⟨none,.fz (.t 45),none⟩,qO 48 (.call 39 [.t 44,.t 45,.t 46,.t 47]),qM 43 48,qO 49 (.ext 0 (.t 43)),qO 50 (.ext 1 (.t 43)),qO 12 (.alc 36 [.int .i64 0,.str [],.int .i64 0,.nl 7]),⟨none,.st 4 (.t 12) (.t 49),none⟩,qM 13 50]) (.seq (.reg [qM 51 13,qO 52 (.bin .eql (.t 51) (.c (.int .i64 0)))]) (.cond (.t 52) (.reg [qM 53 7,qO 54 (.ld 4 true (.t 12)),qO 55 (.bsl 4 [.t 54]),qO 56 (.app 36 4 56 (.t 53) (.t 55)),qM 7 56]) .skip))))))) (.cut (.reg [qO 57 (.bin .add (.t 19) (.c (.int .i64 1))),qM 19 57])))))
def qb4:IC:=(.seq (.reg [qO 4 (.mov (.c (.nl 4))),qO 5 (.mov (.c (.nl 3)))]) (.seq (.reg [qM 14 0,qM 15 1,qO 16 (.call 41 [.t 14,.t 15]),qM 6 16,⟨none,.re,none⟩]) (.seq (.reg [qO 7 (.nilr 36 4)]) (.seq (.seq (.reg [qM 17 0,qO 18 (.call 10 [.t 17,.c (.int .i64 3)]),qO 19 (.mov (.c (.int .i64 0)))]) (.block 0 (.loop qbw))) (.seq (.reg [qM 58 7,qM 59 6,qM 4 58,qM 5 59]) .ret)))))
def qbR:List IRes:=[.t 4,.t 5]
theorem qeE:chkF Tryz.prog Tryz.f7 qb4 qbR 60=true:=by kernel_rfl
theorem qtn {il:List Itm} (hP:qbE il):ItB il:=by
 intro x hx
 obtain ⟨i,hi⟩:=List.getElem?_of_mem hx
 obtain ⟨b1,b2,b3,b4,b5,b6,b7⟩:=hP.2 i x hi
 refine ⟨by rw [b1];simp [pid],?_,b3,?_,b5,?_,b7.1⟩
 ·rcases b2 with h|h<;>rw [h]<;>simp
 ·rcases b4 with h|h<;>rw [h]<;>simp
 ·rcases b6 with h|⟨j,y,_,_,_,_,h⟩<;>rw [h]<;>simp [pid]
abbrev wthS:List UInt8:=[119,105,116,104,104,101,108,100]
abbrev nwtS:List UInt8:=[110,111,116,32,119,97,110,116,101,100]
theorem qvL:rlE []=[]:=rfl
theorem qv6:pdE []=[]:=rfl
set_option maxHeartbeats 8000000 in
set_option maxRecDepth 100000 in
theorem qlp (l:List Int) (k:Nat) (il:List Itm) (hP:qbE il) (h12:il.length≤12) (hk:k≤500000) (hl:l.length≤9223372036854775807) :
  STup Tryz.prog E0 7 T (stm l k) [.sl 7 (itE il)] tPrd 4 (fun es ps cs'=>∃ (o:List Prd) (u:List Rul) (k':Nat),es=pdE o∧ps=[.sl 3 (rlE u)]∧o.length≤3∧(∀ p∈o,PdB p∧PgP p)∧u.length≤il.length∧(∀ r∈u,RlM 5 r)∧cs'=stm l k'∧k'≤k+2000):=by
 unfold STup
 refine qx5 (i:=4) (i2:=5) (is:=[]) mixed Tryz.func7 qeE ?_
 simp only [a0,l0,OS.ao,zj,zo,zi,zn,zl,zm,zp,zd,zh,zk,qb4,qbR,ZZ,WW,Ze,reduceCtorEq,zd,ze,zb,zf,za]
 refine qxb (qlf l k il (by omega) (qtn hP) (by omega) hl) rfl rfl rfl zE_ ?_
 rintro es cs' ⟨u,k1,rfl,hu,hub,rfl,hk1⟩
 simp only [ZZ,WW,Ze,reduceCtorEq,zd,ze,zb,zf,za]
 rw [qa9]
 refine ⟨_,_,qbV (k:=.l 16) rfl,?_⟩
 simp only [ZZ,WW,Ze,reduceCtorEq,zd,ze,zb,zf,za]
 refine useS (qdB l k1 3 (by omega) hl (by omega)) rfl rfl rfl zE_ ?_
 rintro x cs' ⟨y,rfl,rfl⟩
 have y1:=qeJ y 3
 have y2:=qeK y 3 (by omega)
 obtain ⟨q,hq⟩:∃ q:Nat,qee y 3=(q:Nat):=⟨(qee y 3).toNat,by omega⟩
 rw [hq] at y1 y2 ⊢
 clear hq
 simp only [ZZ,WW,Ze,reduceCtorEq,zd,ze,zb,zf,za]
 have hRl:=hu
 refine qad (fun n fr L=>∃ (a:Nat) (k':Nat) (o:List Prd),a≤q∧n=q - a∧(k'≤k1+1+30 * a)∧(o.length≤a)∧(∀ p∈o,PdB p∧PgP p)∧fr=[.adr (.b 0) 0,.p (.sl 7 (itE il)),oo,oo,oo,oo,.p (.sl 3 (rlE u)),.row (.l 7),oo,oo,oo,oo,oo,oo,oo,oo,oo,oo,.p (int (q:Nat)),.p (int (a:Nat)),oo,oo,oo,oo,oo,oo,oo,oo,oo,oo,oo,oo,oo,oo,oo,oo,oo,oo,oo,oo,oo,oo,oo,oo,oo,oo,oo,oo,oo,oo,oo,oo,oo,oo,oo,oo,oo,oo,oo,oo]∧L=[(.b 0,.box ((stm l k').map .p) T),(.l 7,.row (pdE o) tPrd 4 true)]) (q) [.adr (.b 0) 0,.p (.sl 7 (itE il)),oo,oo,oo,oo,.p (.sl 3 (rlE u)),.row (.l 7),oo,oo,oo,oo,oo,oo,oo,oo,oo,oo,.p (int (q:Nat)),.p (int (0:Nat)),oo,oo,oo,oo,oo,oo,oo,oo,oo,oo,oo,oo,oo,oo,oo,oo,oo,oo,oo,oo,oo,oo,oo,oo,oo,oo,oo,oo,oo,oo,oo,oo,oo,oo,oo,oo,oo,oo,oo,oo] [(.b 0,.box ((stm l (k1+1)).map .p) T),(.l 7,.row (pdE []) tPrd 4 true)] (by (simp only [ZZ,WW,Ze,reduceCtorEq,zd,ze,zb,zf,za];try trivial)) (by simp only [qv6,ZZ,WW,Ze,reduceCtorEq,zd,ze,zb,zf,za]) ⟨0,k1+1,[],by omega,by omega,by omega,by simp,(fun p hp=>by cases hp),rfl,rfl⟩ ?_
 rintro n fr L ⟨a,k',o,ha,rfl,hk',hol,hoB,rfl,rfl⟩
 simp only [qbw,ZZ,WW,Ze,reduceCtorEq,zd,ze,zb,zf,za]
 refine br ?_ ?_
 rotate_left
 ·intro h
  have haq:q≤a:=by have:=of_decide_eq_false h;omega
  simp only [ZZ,WW,Ze,reduceCtorEq,zd,ze,zb,zf,za]
  exact qyb 7 (pdE o) [.sl 3 (rlE u)] (stm l k') rfl rfl rfl rfl ⟨o,u,k',rfl,rfl,by omega,hoB,hu,hub,rfl,by omega⟩
 intro h
 have haq:a < q:=by have:=of_decide_eq_true h;omega
 simp only [ZZ,WW,Ze,reduceCtorEq,zd,ze,zb,zf,za,qcl]
 refine qad (fun n fr L=>∃ (b:Nat) (w:List Rul),b≤u.length∧n=u.length - b∧(w.length≤b)∧(∀ r∈w,RlM 5 r)∧fr=[.adr (.b 0) 0,.p (.sl 7 (itE il)),oo,oo,oo,oo,.p (.sl 3 (rlE u)),.row (.l 7),.row (.l 8),oo,oo,oo,oo,oo,oo,oo,oo,oo,.p (int (q:Nat)),.p (int (a:Nat)),oo,.p (.sl 3 (rlE u)),.p (int (u.length:Nat)),.p (int (b:Nat)),oo,oo,oo,oo,oo,oo,oo,oo,oo,oo,oo,oo,oo,oo,oo,oo,oo,oo,oo,oo,oo,oo,oo,oo,oo,oo,oo,oo,oo,oo,oo,oo,oo,oo,oo,oo]∧L=[(.b 0,.box ((stm l (k'+b)).map .p) T),(.l 7,.row (pdE o) tPrd 4 true),(.l 8,.row (rlE w) tRul 3 true)]) (u.length) [.adr (.b 0) 0,.p (.sl 7 (itE il)),oo,oo,oo,oo,.p (.sl 3 (rlE u)),.row (.l 7),.row (.l 8),oo,oo,oo,oo,oo,oo,oo,oo,oo,.p (int (q:Nat)),.p (int (a:Nat)),oo,.p (.sl 3 (rlE u)),.p (int (u.length:Nat)),.p (int (0:Nat)),oo,oo,oo,oo,oo,oo,oo,oo,oo,oo,oo,oo,oo,oo,oo,oo,oo,oo,oo,oo,oo,oo,oo,oo,oo,oo,oo,oo,oo,oo,oo,oo,oo,oo,oo,oo] [(.b 0,.box ((stm l (k'+0)).map .p) T),(.l 7,.row (pdE o) tPrd 4 true),(.l 8,.row (rlE []) tRul 3 true)] (by simp only [ZZ,WW,Ze,reduceCtorEq,zd,ze,zb,zf,za,qcl];try trivial) (by simp only [qvL,Nat.add_zero,ZZ,WW,Ze,reduceCtorEq,zd,ze,zb,zf,za]) ⟨0,[],by omega,by omega,by simp,(fun r hr=>by cases hr),rfl,rfl⟩ ?_
 rintro n fr L ⟨b,w,hb,rfl,hwl,hwB,rfl,rfl⟩
 simp only [qbv,ZZ,WW,Ze,reduceCtorEq,zd,ze,zb,zf,za]
 refine br ?_ ?_
 ·intro h2
  have hbl:b < u.length:=by have:=of_decide_eq_true h2;omega
  obtain ⟨r,hr⟩:∃ r,u[b]?=some r:=⟨_,List.getElem?_eq_getElem hbl⟩
  have hg:=qkO hr
  have hrb:=hub r (List.mem_of_getElem? hr)
  simp only [ZZ,WW,Ze,reduceCtorEq,zd,ze,zb,zf,za,hg,qcl]
  ((repeat' (with_reducible apply And.intro))<;>try ((exact sc_)))
  refine useS (qhi l (k'+b) 2 (by omega) hl (by decide)) rfl rfl rfl zE_ ?_
  rintro x cs' ⟨f,rfl,rfl⟩
  simp only [ZZ,WW,Ze,reduceCtorEq,zd,ze,zb,zf,za]
  refine br ?_ ?_
  ·intro _
   simp only [ZZ,WW,Ze,reduceCtorEq,zd,ze,zb,zf,za,qcl]
   ((repeat' (with_reducible apply And.intro))<;>try ((exact sc_)))
   refine qc4 _ _ ReOk.refl ?_
   simp only [ZZ,WW,Ze,reduceCtorEq,zd,ze,zb,zf,za]
   ((repeat' (with_reducible apply And.intro))<;>try ((exact sc_)))
   rw [ql9 w r.id r.what r.spans]
   refine qac (u.length - (b+1)) [.adr (.b 0) 0,.p (.sl 7 (itE il)),oo,oo,oo,oo,.p (.sl 3 (rlE u)),.row (.l 7),.row (.l 8),oo,oo,oo,oo,oo,oo,oo,oo,oo,.p (int (q:Nat)),.p (int (a:Nat)),oo,.p (.sl 3 (rlE u)),.p (int (u.length:Nat)),.p (int ((b+1):Nat)),oo,oo,oo,oo,oo,oo,oo,oo,oo,oo,oo,oo,oo,oo,oo,oo,oo,oo,oo,oo,oo,oo,oo,oo,oo,oo,oo,oo,oo,oo,oo,oo,oo,oo,oo,oo] [(.b 0,.box ((stm l (k'+(b+1))).map .p) T),(.l 7,.row (pdE o) tPrd 4 true),(.l 8,.row (rlE (w++[⟨r.id,r.what,r.spans⟩])) tRul 3 true)] (by omega) (by (simp only [ZZ,WW,Ze,reduceCtorEq,zd,ze,zb,zf,za];try trivial)) (by (simp only [ZZ,WW,Ze,reduceCtorEq,zd,ze,zb,zf,za];try trivial)) ⟨b+1,w++[⟨r.id,r.what,r.spans⟩],by omega,rfl,(by simp;omega),(by intro y hy;rcases List.mem_append.1 hy with hy|hy;exact hwB y hy;rw [List.mem_singleton] at hy;subst hy;exact ⟨hrb.b1,hrb.b2⟩),rfl,rfl⟩
  ·intro _
   simp only [ZZ,WW,Ze,reduceCtorEq,zd,ze,zb,zf,za]
   refine qc4 _ _ ReOk.refl ?_
   simp only [ZZ,WW,Ze,reduceCtorEq,zd,ze,zb,zf,za]
   ((repeat' (with_reducible apply And.intro))<;>try ((exact sc_)))
   refine qac (u.length - (b+1)) [.adr (.b 0) 0,.p (.sl 7 (itE il)),oo,oo,oo,oo,.p (.sl 3 (rlE u)),.row (.l 7),.row (.l 8),oo,oo,oo,oo,oo,oo,oo,oo,oo,.p (int (q:Nat)),.p (int (a:Nat)),oo,.p (.sl 3 (rlE u)),.p (int (u.length:Nat)),.p (int ((b+1):Nat)),oo,oo,oo,oo,oo,oo,oo,oo,oo,oo,oo,oo,oo,oo,oo,oo,oo,oo,oo,oo,oo,oo,oo,oo,oo,oo,oo,oo,oo,oo,oo,oo,oo,oo,oo,oo] [(.b 0,.box ((stm l (k'+(b+1))).map .p) T),(.l 7,.row (pdE o) tPrd 4 true),(.l 8,.row (rlE w) tRul 3 true)] (by omega) (by (simp only [ZZ,WW,Ze,reduceCtorEq,zd,ze,zb,zf,za];try trivial)) (by (simp only [ZZ,WW,Ze,reduceCtorEq,zd,ze,zb,zf,za];try trivial)) ⟨b+1,w,by omega,rfl,by omega,hwB,rfl,rfl⟩
 intro h2
 have hbl:b=u.length:=by have:=of_decide_eq_false h2;omega
 subst hbl
 simp only [ZZ,WW,Ze,reduceCtorEq,zd,ze,zb,zf,za]
 refine useS (qiv l (k'+u.length) [[65,66],[65,66],[67,68,69]] (by omega) hl (by simp) (by simp)) rfl rfl rfl zE_ ?_
 rintro x cs' ⟨pr,rfl,hpr,rfl⟩
 have hpr:pr.length≤1000:=by simp only [List.mem_cons,List.not_mem_nil,or_false] at hpr;rcases hpr with rfl|rfl|rfl<;>decide
 simp only [ZZ,WW,Ze,reduceCtorEq,zd,ze,zb,zf,za]
 refine useS (qeb l (k'+u.length+1) [4,4,6] (by omega) hl (by simp) (by simp)) rfl rfl rfl zE_ ?_
 rintro x cs' ⟨dg,rfl,hdg,rfl⟩
 have hdg:-1000≤dg∧dg≤1000:=by simp only [List.mem_cons,List.not_mem_nil,or_false] at hdg;omega
 simp only [ZZ,WW,Ze,reduceCtorEq,zd,ze,zb,zf,za]
 refine useS (qp7 l (k'+u.length+1+1) 1 3 (by omega) hl (by omega) (by omega) (by omega)) rfl rfl rfl zE_ ?_
 rintro x cs' ⟨od,rfl,ho1,ho2,rfl⟩
 have hS:StB ⟨pr,dg,od,wthS,nwtS,100⟩:=⟨hpr,by simp,by simp⟩
 have hmk:=qsH il hP h12 w (by omega) (fun r hr=>Nat.le_trans (hwB r hr).b2 (by decide)) ⟨pr,dg,od,wthS,nwtS,100⟩ hS ⟨show (-1000000000:Int)≤100 by omega,show (100:Int)≤1000000000 by omega⟩ o (by omega) (fun p hp=>(hoB p hp).1)
 have hres:=qyB hP w hS hdg (past:=o) (by omega)
 simp only [stV,pdV] at hmk
 generalize pmP il w ⟨pr,dg,od,wthS,nwtS,100⟩ o=P at hmk hres
 generalize pmE il w ⟨pr,dg,od,wthS,nwtS,100⟩ o=er at hmk
 simp only [ZZ,WW,Ze,reduceCtorEq,zd,ze,zb,zf,za]
 refine qyu (k:=.l 7) (as0:=[_,_,_]) (as1:=[]) hmk rfl rfl rfl rfl rfl zE_ ?_
 rintro x es ⟨rfl,rfl⟩
 simp only [ZZ,WW,Ze,reduceCtorEq,zd,ze,zb,zf,za]
 refine br ?_ ?_
 ·intro _
  simp only [ZZ,WW,Ze,reduceCtorEq,zd,ze,zb,zf,za,qaQ]
  ((repeat' (with_reducible apply And.intro))<;>try ((exact sc_)))
  refine qc4 _ _ ReOk.refl ?_
  simp only [ZZ,WW,Ze,reduceCtorEq,zd,ze,zb,zf,za]
  ((repeat' (with_reducible apply And.intro))<;>try ((exact sc_)))
  have esn:pdE o++[[int P.no,.str P.pre,int P.dig,.sl 7 (shE P.shs)]]=pdE (o++[P]):=by rw [← qv7];rfl
  rw [esn]
  refine qac (q - (a+1)) [.adr (.b 0) 0,.p (.sl 7 (itE il)),oo,oo,oo,oo,.p (.sl 3 (rlE u)),.row (.l 7),oo,oo,oo,oo,oo,oo,oo,oo,oo,oo,.p (int (q:Nat)),.p (int ((a+1):Nat)),oo,oo,oo,oo,oo,oo,oo,oo,oo,oo,oo,oo,oo,oo,oo,oo,oo,oo,oo,oo,oo,oo,oo,oo,oo,oo,oo,oo,oo,oo,oo,oo,oo,oo,oo,oo,oo,oo,oo,oo] [(.b 0,.box ((stm l (k'+u.length+1+1+1)).map .p) T),(.l 7,.row (pdE (o++[P])) tPrd 4 true)] (by omega) (by (simp only [ZZ,WW,Ze,reduceCtorEq,zd,ze,zb,zf,za];try trivial)) (by (simp only [ZZ,WW,Ze,reduceCtorEq,zd,ze,zb,zf,za];try trivial)) ⟨a+1,k'+u.length+1+1+1,o++[P],by omega,rfl,by omega,by simp;omega,by intro p hp;rcases List.mem_append.1 hp with hp|hp;exact hoB p hp;rw [List.mem_singleton] at hp;subst hp;exact hres,rfl,rfl⟩
 ·intro _
  simp only [ZZ,WW,Ze,reduceCtorEq,zd,ze,zb,zf,za]
  refine qc4 _ _ ReOk.refl ?_
  simp only [ZZ,WW,Ze,reduceCtorEq,zd,ze,zb,zf,za]
  ((repeat' (with_reducible apply And.intro))<;>try ((exact sc_)))
  refine qac (q - (a+1)) [.adr (.b 0) 0,.p (.sl 7 (itE il)),oo,oo,oo,oo,.p (.sl 3 (rlE u)),.row (.l 7),oo,oo,oo,oo,oo,oo,oo,oo,oo,oo,.p (int (q:Nat)),.p (int ((a+1):Nat)),oo,oo,oo,oo,oo,oo,oo,oo,oo,oo,oo,oo,oo,oo,oo,oo,oo,oo,oo,oo,oo,oo,oo,oo,oo,oo,oo,oo,oo,oo,oo,oo,oo,oo,oo,oo,oo,oo,oo,oo] [(.b 0,.box ((stm l (k'+u.length+1+1+1)).map .p) T),(.l 7,.row (pdE o) tPrd 4 true)] (by omega) (by (simp only [ZZ,WW,Ze,reduceCtorEq,zd,ze,zb,zf,za];try trivial)) (by (simp only [ZZ,WW,Ze,reduceCtorEq,zd,ze,zb,zf,za];try trivial)) ⟨a+1,k'+u.length+1+1+1,o,by omega,rfl,by omega,by omega,hoB,rfl,rfl⟩
def qbp:IC:=(.seq (.reg [qO 2 (.nilr 85 7)]) (.seq (.seq (.reg [qM 3 0,qO 4 (.isn (.t 3))]) (.cond (.t 4) (.seq (.reg [qO 2 (.nilr 85 7)]) .ret) .skip)) (.seq (.reg [qO 5 (.bsr 85 7 []),qM 6 0,qO 7 (.app 85 7 88 (.t 5) (.t 6)),qM 2 7]) .ret)))
def qbn:List IRes:=[.t 2]
theorem qdz:chkF Tryz.prog Tryz.f46 qbp qbn 8=true:=by kernel_rfl
def qbH:IC:=(.seq (.reg [qO 2 (.nilr 58 1)]) (.seq (.seq (.reg [qM 3 0,qO 4 (.isn (.t 3))]) (.cond (.t 4) (.seq (.reg [qO 2 (.nilr 58 1)]) .ret) .skip)) (.seq (.reg [qO 5 (.bsr 58 1 []),qM 6 0,qO 7 (.app 58 1 24 (.t 5) (.t 6)),qM 2 7]) .ret)))
def qbF:List IRes:=[.t 2]
theorem qec:chkF Tryz.prog Tryz.f47 qbH qbF 8=true:=by kernel_rfl
def qbd:IC:=(.seq (.reg [qO 3 (.box 36 (.t 1)),qO 4 (.alc 36 [.int .i64 0,.str [],.int .i64 0,.nl 7])]) (.seq (.reg [qO 7 (.fla 3 (.t 3)),qO 8 (.ld 1 false (.t 7)),qO 9 (.call 46 [.t 8]),qO 10 (.fla 3 (.t 3)),⟨none,.st 1 (.t 10) (.t 9),none⟩]) (.seq (.seq (.reg [qO 11 (.fla 3 (.t 3)),qO 12 (.ld 1 false (.t 11)),qO 13 (.len (.t 12)),qO 14 (.bin .eql (.t 13) (.c (.int .i64 0))),qM 15 14,⟨some 16,.mov (.t 0),(some (15,false))⟩,⟨some 17,.call 9 [.t 16,.c (.int .i64 5)],(some (15,false))⟩,qO 18 (.pick (.t 15) (.c (.bool true)) (.t 17))]) (.cond (.t 18) (.seq (.seq (.reg [qM 19 0,qO 20 (.call 10 [.t 19,.c (.int .i64 4)])]) (.block 0 (.seq (.reg [qO 23 (.bin .eql (.t 20) (.c (.int .i64 0))),qM 22 23]) (.cond (.t 22) (.reg [qM 24 0,qO 25 (.bsl 1 [.c (.int .i64 0),.c (.int .i64 1),.c (.int .i64 200),.c (.int .i64 201)]),qO 26 (.call 43 [.t 24,.t 25]),qO 27 (.fla 0 (.t 3)),⟨none,.st 1 (.t 27) (.t 26),none⟩]) (.seq (.reg [qO 29 (.bin .eql (.t 20) (.c (.int .i64 1))),qM 28 29]) (.cond (.t 28) (.reg [qM 30 0,qO 31 (.bsl 1 [.c (.str []),.c (.str [97,98]),.c (.str [90,90])]),qO 32 (.call 42 [.t 30,.t 31]),qO 33 (.fla 1 (.t 3)),⟨none,.st 1 (.t 33) (.t 32),none⟩]) (.seq (.reg [qO 35 (.bin .eql (.t 20) (.c (.int .i64 2))),qM 34 35]) (.cond (.t 34) (.reg [qM 36 0,qO 37 (.bsl 1 [.c (.int .i64 3),.c (.int .i64 9),.c (.int .i64 10)]),qO 38 (.call 43 [.t 36,.t 37]),qO 39 (.fla 2 (.t 3)),⟨none,.st 1 (.t 39) (.t 38),none⟩]) (.reg [qO 21 (.fla 3 (.t 3)),⟨none,.st 1 (.t 21) (.c (.nl 7)),none⟩]))))))))) (.cut (.seq (.reg [⟨none,.re,none⟩,qO 40 (.ld 4 true (.t 3)),⟨none,.st 4 (.t 4) (.t 40),none⟩]) .ret))) .skip)) (.seq (.drg [qO 41 (.fla 3 (.t 3)),qO 42 (.ldl 1 false (.t 41)),qM 43 0,qO 44 (.fla 3 (.t 3)),qO 45 (.ldl 1 false (.t 44)),qO 46 (.len (.t 45)),qO 47 (.dcall true 10 [.t 43,.t 46]),qO 48 (.ixa 7 (.t 42) (.t 47)),qM 5 48]) (.seq (.seq (.reg [qM 49 0,qO 50 (.call 10 [.t 49,.c (.int .i64 8)])]) (.block 1 (.seq (.reg [qO 88 (.bin .eql (.t 50) (.c (.int .i64 0))),qM 87 88]) (.cond (.t 87) (.reg [qM 89 5,qM 90 0,qO 91 (.bsl 1 [.c (.str []),.c (.str [105,97]),.c (.str [105,98])]),qO 92 (.call 42 [.t 90,.t 91]),qO 93 (.nck (.t 89)),qO 94 (.fla 0 (.t 93)),⟨none,.st 1 (.t 94) (.t 92),none⟩]) (.seq (.reg [qO 96 (.bin .eql (.t 50) (.c (.int .i64 1))),qM 95 96]) (.cond (.t 95) (.reg [qM 97 5,qM 98 0,qM 99 5,qO 100 (.nck (.t 99)),qO 101 (.fla 0 (.t 100)),qO 102 (.ld 1 false (.t 101)),qO 103 (.bsl 1 [.c (.str []),.c (.str [105,97]),.t 102]),qO 104 (.call 42 [.t 98,.t 103]),qO 105 (.nck (.t 97)),qO 106 (.fla 1 (.t 105)),⟨none,.st 1 (.t 106) (.t 104),none⟩]) (.seq (.reg [qO 108 (.bin .eql (.t 50) (.c (.int .i64 2))),qM 107 108]) (.cond (.t 107) (.reg [qM 109 5,qM 110 0,qO 111 (.call 19 [.t 110,.c (.int .i64 0),.c (.int .i64 5)]),qO 112 (.nck (.t 109)),qO 113 (.fla 2 (.t 112)),⟨none,.st 1 (.t 113) (.t 111),none⟩]) (.seq (.reg [qO 115 (.bin .eql (.t 50) (.c (.int .i64 3))),qM 114 115]) (.cond (.t 114) (.drg [qM 116 5,qO 117 (.nck (.t 116)),qO 118 (.fla 3 (.t 117)),qO 119 (.ldl 1 false (.t 118)),qM 120 0,qO 121 (.bsl 1 [.c (.int .i64 (-1)),.c (.int .i64 1)]),qO 122 (.dcall true 43 [.t 120,.t 121]),qO 123 (.bin .add (.t 119) (.t 122)),qO 124 (.nck (.t 116)),qO 125 (.fla 3 (.t 124)),⟨none,.st 1 (.t 125) (.t 123),none⟩]) (.seq (.reg [qO 127 (.bin .eql (.t 50) (.c (.int .i64 4))),qM 126 127]) (.cond (.t 126) (.drg [qM 128 5,qO 129 (.nck (.t 128)),qO 130 (.fla 4 (.t 129)),qO 131 (.ldl 1 false (.t 130)),qM 132 0,qO 133 (.bsl 1 [.c (.int .i64 (-1)),.c (.int .i64 1),.c (.int .i64 9999)]),qO 134 (.dcall true 43 [.t 132,.t 133]),qO 135 (.bin .add (.t 131) (.t 134)),qO 136 (.nck (.t 128)),qO 137 (.fla 4 (.t 136)),⟨none,.st 1 (.t 137) (.t 135),none⟩]) (.seq (.reg [qO 139 (.bin .eql (.t 50) (.c (.int .i64 5))),qM 138 139]) (.cond (.t 138) (.reg [qM 140 5,qM 141 0,qO 142 (.bsl 1 [.c (.int .i64 0),.c (.int .i64 1000),.c (.int .i64 1001)]),qO 143 (.call 43 [.t 141,.t 142]),qO 144 (.nck (.t 140)),qO 145 (.fla 6 (.t 144)),⟨none,.st 1 (.t 145) (.t 143),none⟩]) (.seq (.reg [qO 147 (.bin .eql (.t 50) (.c (.int .i64 6))),qM 146 147]) (.cond (.t 146) (.reg [qM 148 5,qM 149 5,qO 150 (.nck (.t 149)),qO 151 (.fla 5 (.t 150)),qO 152 (.ld 1 false (.t 151)),qO 153 (.call 47 [.t 152]),qM 154 0,qO 155 (.call 44 [.c (.str [112]),.c (.int .i64 81)]),qO 156 (.bsl 1 [.c (.str [120]),.c (.str [97,9,98]),.t 155]),qO 157 (.call 42 [.t 154,.t 156]),⟨none,.fz (.t 157),none⟩,qO 158 (.bsl 1 [.t 157]),qO 159 (.bsl 1 [.t 158]),qO 160 (.app 58 1 24 (.t 153) (.t 159)),⟨none,.re,none⟩,qO 161 (.nck (.t 148)),qO 162 (.fla 5 (.t 161)),⟨none,.st 1 (.t 162) (.t 160),none⟩]) (.seq (.reg [qM 51 0,qM 52 5,qO 53 (.nck (.t 52)),qO 54 (.fla 5 (.t 53)),qO 55 (.ld 1 false (.t 54)),qO 56 (.len (.t 55)),qO 57 (.call 10 [.t 51,.t 56]),qM 6 57]) (.seq (.reg [qM 58 5,qM 59 5,qO 60 (.nck (.t 59)),qO 61 (.fla 5 (.t 60)),qO 62 (.ld 1 false (.t 61)),qO 63 (.call 47 [.t 62]),⟨none,.re,none⟩,qO 64 (.nck (.t 58)),qO 65 (.fla 5 (.t 64)),⟨none,.st 1 (.t 65) (.t 63),none⟩,⟨none,.re,none⟩]) (.drp [5,6,7,8,9,10,11,12,13,14,15,16,17,18,19,0,1,2,3,4,20,21] [⟨none,.fz (.t 83),none⟩,⟨none,.hole 78,none⟩,qM 71 5,qO 72 (.nck (.t 71)),qO 73 (.fla 5 (.t 72)),qO 74 (.ldl 1 false (.t 73)),qM 75 6,qO 76 (.ixa 1 (.t 74) (.t 75)),qO 77 (.ldl 1 false (.t 76)),qO 78 (.fcl 0 48 [.t 77] 9 1),qM 79 0,qO 80 (.pcall 1 44 [.c (.str [112]),.c (.int .i64 80)]),qO 81 (.pcall 2 44 [.c (.str [112]),.c (.int .i64 81)]),qO 82 (.bsl 1 [.c (.str [109,111,114,101]),.c (.str [255]),.t 80,.t 81]),qO 83 (.dcall true 42 [.t 79,.t 82]),qO 84 (.bsl 1 [.t 83]),qO 85 (.app 9 1 16 (.t 78) (.t 84)),qM 66 5,qO 67 (.nck (.t 66)),qO 68 (.fla 5 (.t 67)),qO 69 (.ldl 1 false (.t 68)),qM 70 6,qO 86 (.ixa 1 (.t 69) (.t 70)),⟨none,.st 1 (.t 86) (.t 85),none⟩]))))))))))))))))))) (.cut (.seq (.reg [⟨none,.re,none⟩,qO 163 (.ld 4 true (.t 3)),⟨none,.st 4 (.t 4) (.t 163),none⟩]) .ret)))))))
def qa8:List IRes:=[.c 4 4 true]
theorem qc7:chkF Tryz.prog Tryz.f11 qbd qa8 164=true:=by kernel_rfl
section
variable {E:Envt}
theorem qqL (es:List (List PV)) (hn:es.length≤1000000):FCall Tryz.prog E 46 [.sl 7 es] qbA 7 (·=es):=by
 unfold FCall
 refine qje mixed Tryz.func46 qdz ?_
 simp only [a0,l0,OS.ao,zj,zo,zi,zn,zl,zm,zp,zd,zh,zk,qbp,qbn,ZZ,WW,Ze,reduceCtorEq,zd,ze,zb,zf,za]
 intro b hb
 refine br ?_ ?_
 ·intro h
  have:=hb h
  simp only [ZZ,WW,Ze,reduceCtorEq,zd,ze,zb,zf,za]
  exact qln 2 [] rfl rfl this.symm
 ·intro h
  simp only [ZZ,WW,Ze,reduceCtorEq,zd,ze,zb,zf,za]
  exact ⟨by omega,qln 5 es rfl rfl rfl⟩
theorem qlS (es:List (List PV)) (hn:es.length≤1000000):FCall Tryz.prog E 47 [.sl 1 es] tPgs 1 (·=es):=by
 unfold FCall
 refine qje mixed Tryz.func47 qec ?_
 simp only [a0,l0,OS.ao,zj,zo,zi,zn,zl,zm,zp,zd,zh,zk,qbH,qbF,ZZ,WW,Ze,reduceCtorEq,zd,ze,zb,zf,za]
 intro b hb
 refine br ?_ ?_
 ·intro h
  have:=hb h
  simp only [ZZ,WW,Ze,reduceCtorEq,zd,ze,zb,zf,za]
  exact qln 2 [] rfl rfl this.symm
 ·intro h
  simp only [ZZ,WW,Ze,reduceCtorEq,zd,ze,zb,zf,za]
  exact ⟨by omega,qln 5 es rfl rfl rfl⟩
theorem qiA (l:List Sht) (q:Nat) (x:Sht):(shE l).set q (shV x)=shE (l.set q x):=by simp [shE]
theorem qrp:∀ l:List PV,Zba (l.map AV.p)=some (l.map wk1)
 |[]=>rfl
 |a :: l=>by simp only [zj,Zba,Zaz,qrp l]
theorem qmo:∀ L:List (List PV),Zbb (L.map fun r=>r.map AV.p)=some (L.map fun r=>r.map wk1)
 |[]=>rfl
 |r :: L=>by simp only [zj,Zbb,qrp,qmo L]
theorem qxr (l:List Sht):(shE l).map (fun r=>r.map wk1)=shE l:=by
 rw [shE,List.map_map]
 exact List.map_congr_left fun x _=>rfl
theorem qxf (l:Tab):(tbE l).map (fun r=>r.map wk1)=tbE l:=by
 rw [tbE,List.map_map]
 exact List.map_congr_left fun x _=>rfl
theorem qmb {fr fr1:List AV} {L L1:Objs} {K:List AV→Objs→Prop} (h:ReOk E fr L fr1 L1) (h2:∃ fr' L',ReOk E fr1 L1 fr' L'∧K fr' L'):∃ fr' L',ReOk E fr L fr' L'∧K fr' L':=by
 obtain ⟨a,b,c,d⟩:=h2
 exact ⟨a,b,h.trans c,d⟩
theorem qu8 (pg:Tab) (j:Nat) (r:SRow):Zbb (((tbE pg).map fun x=>x.map AV.p).set j [.p (.sl 1 (strE r))])=some (tbE (pg.set j r)):=by
 have h:((tbE pg).map fun x=>x.map AV.p).set j [.p (.sl 1 (strE r))]=(tbE (pg.set j r)).map fun x=>x.map AV.p:=by simp [tbE,List.map_set]
 rw [h,qmo,qxf]
theorem qvH (l:List Sht) (q:Nat) (y:Sht):Zbb (((shE l).map fun x=>x.map AV.p).set q [.p (.str y.id),.p (.str y.top),.p (int y.kind),.p (int y.fr_),.p (int y.to_),.p (.sl 1 (tbE y.pages)),.p (int y.ver)])=some (shE (l.set q y)):=by
 have h:((shE l).map fun x=>x.map AV.p).set q [.p (.str y.id),.p (.str y.top),.p (int y.kind),.p (int y.fr_),.p (int y.to_),.p (.sl 1 (tbE y.pages)),.p (int y.ver)]=(shE (l.set q y)).map fun x=>x.map AV.p:=by simp [shE,shV,List.map_set]
 rw [h,qmo,qxr]
theorem qx2 (k:Key) (X:List (List PV)):((X.map fun x=>x.map AV.p).map fun x=>x.map fun y=>AV.kill k y)=X.map fun x=>x.map AV.p:=by
 rw [List.map_map]
 refine List.map_congr_left fun x _=>?_
 rw [Function.comp_apply,List.map_map]
 exact List.map_congr_left fun y _=>rfl
theorem qxe (k:Key) (v:PV) (X:List (List PV)):((X.map fun x=>x.map AV.p).map fun x=>x.map fun y=>AV.thaw k v y)=X.map fun x=>x.map AV.p:=by
 rw [List.map_map]
 refine List.map_congr_left fun x _=>?_
 rw [Function.comp_apply,List.map_map]
 exact List.map_congr_left fun y _=>by simp only [Function.comp_apply,AV.thaw,thaw_P]
theorem qh8 {p:Prd} (h:PdB p) (q:Nat) {y:Sht} (hy:ShB y):PdB ⟨p.no,p.pre,p.dig,p.shs.set q y⟩:=
 ⟨h.no,h.pre,h.dig,by show (p.shs.set q y).length≤1000;rw [List.length_set];exact h.shs,fun x hx=>by
  rcases List.mem_or_eq_of_mem_set hx with hx|rfl
  ·exact h.all x hx
  ·exact hy⟩
set_option maxHeartbeats 8000000 in
set_option maxRecDepth 100000 in
theorem qis (l:List Int) (k:Nat) (p:Prd) (hp:PdB p) (hpg:PgP p) (hk:k≤800000) (hl:l.length≤9223372036854775807) :
  qgV Tryz.prog E 11 T (stm l k) [.agg (pdV p)] (fun x cs'=>∃ p' k',x=.agg (pdV p')∧PdB p'∧cs'=stm l k'∧k'≤k+10):=by
 unfold qgV
 refine qf4 mixed Tryz.func11 qc7 ?_
 simp only [a0,l0,OS.ao,zj,zo,zi,zn,zl,zm,zp,zd,zh,zk,pdV,qbd,qa8,ZZ,WW,Ze,reduceCtorEq,zd,ze,zb,zf,za]
 refine useF (qqL (shE p.shs) (by rw [qah];have:=hp.shs;omega)) rfl rfl ?_
 rintro es rfl
 have hsl:=hp.shs
 obtain ⟨no,pre,dig,shs⟩:=p
 have hb1:=hp.no
 have hb3:=hp.dig
 simp only at hsl hb1 hb3 ⊢
 simp only [pdV,ZZ,WW,Ze,reduceCtorEq,zd,ze,zb,zf,za]
 rcases Nat.eq_zero_or_pos shs.length with h0|h0
 ·have e0:decide ((shs.length:Int)=0)=true:=by rw [h0];rfl
  simp only [ZZ,WW,Ze,reduceCtorEq,zd,ze,zb,zf,za,qah,e0,Bool.not_true]
  refine qlU (fun h=>by cases h) (fun _=>?_)
  simp only [ZZ,WW,Ze,reduceCtorEq,zd,ze,zb,zf,za]
  refine useS (qdB l (k) 4 (by omega) hl (by decide)) rfl rfl rfl zE_ ?_
  rintro x cs' ⟨y,rfl,rfl⟩
  generalize qee y 4=c
  simp only [ZZ,WW,Ze,reduceCtorEq,zd,ze,zb,zf,za]
  refine br ?_ ?_
  ·intro _
   simp only [ZZ,WW,Ze,reduceCtorEq,zd,ze,zb,zf,za]
   refine useS (qeb l (k+1) [0,1,200,201] (by omega) hl (by simp) (by simp)) rfl rfl rfl zE_ ?_
   rintro x cs' ⟨u,rfl,hu,rfl⟩
   have hu:-1000000≤u∧u≤1000000:=by simp only [List.mem_cons,List.not_mem_nil,or_false] at hu;omega
   simp only [ZZ,WW,Ze,reduceCtorEq,zd,ze,zb,zf,za]
   refine qau zE_ ?_
   simp only [ZZ,WW,Ze,reduceCtorEq,zd,ze,zb,zf,za]
   rw [qa9]
   refine ⟨_,_,qbV (k:=.l 9) rfl,?_⟩
   simp only [ZZ,WW,Ze,reduceCtorEq,zd,ze,zb,zf,za]
   exact qe7 (stm l (k+1+1)) rfl ⟨⟨u,pre,dig,shs⟩,_,rfl,⟨hu,hp.pre,hp.dig,hp.shs,hp.all⟩,rfl,by omega⟩
  intro _
  simp only [ZZ,WW,Ze,reduceCtorEq,zd,ze,zb,zf,za]
  refine br ?_ ?_
  ·intro _
   simp only [ZZ,WW,Ze,reduceCtorEq,zd,ze,zb,zf,za]
   refine useS (qiv l (k+1) [[],[97,98],[90,90]] (by omega) hl (by simp) (by simp)) rfl rfl rfl zE_ ?_
   rintro x cs' ⟨u,rfl,hu,rfl⟩
   have hu:u.length≤1000:=by simp only [List.mem_cons,List.not_mem_nil,or_false] at hu;rcases hu with rfl|rfl|rfl<;>decide
   simp only [ZZ,WW,Ze,reduceCtorEq,zd,ze,zb,zf,za]
   refine qau zE_ ?_
   simp only [ZZ,WW,Ze,reduceCtorEq,zd,ze,zb,zf,za]
   rw [qa9]
   refine ⟨_,_,qbV (k:=.l 9) rfl,?_⟩
   simp only [ZZ,WW,Ze,reduceCtorEq,zd,ze,zb,zf,za]
   exact qe7 (stm l (k+1+1)) rfl ⟨⟨no,u,dig,shs⟩,_,rfl,⟨hp.no,hu,hp.dig,hp.shs,hp.all⟩,rfl,by omega⟩
  intro _
  simp only [ZZ,WW,Ze,reduceCtorEq,zd,ze,zb,zf,za]
  refine br ?_ ?_
  ·intro _
   simp only [ZZ,WW,Ze,reduceCtorEq,zd,ze,zb,zf,za]
   refine useS (qeb l (k+1) [3,9,10] (by omega) hl (by simp) (by simp)) rfl rfl rfl zE_ ?_
   rintro x cs' ⟨u,rfl,hu,rfl⟩
   have hu:-1000≤u∧u≤1000:=by simp only [List.mem_cons,List.not_mem_nil,or_false] at hu;omega
   simp only [ZZ,WW,Ze,reduceCtorEq,zd,ze,zb,zf,za]
   refine qau zE_ ?_
   simp only [ZZ,WW,Ze,reduceCtorEq,zd,ze,zb,zf,za]
   rw [qa9]
   refine ⟨_,_,qbV (k:=.l 9) rfl,?_⟩
   simp only [ZZ,WW,Ze,reduceCtorEq,zd,ze,zb,zf,za]
   exact qe7 (stm l (k+1+1)) rfl ⟨⟨no,pre,u,shs⟩,_,rfl,⟨hp.no,hp.pre,hu,hp.shs,hp.all⟩,rfl,by omega⟩
  intro _
  simp only [ZZ,WW,Ze,reduceCtorEq,zd,ze,zb,zf,za]
  refine qau zE_ ?_
  simp only [ZZ,WW,Ze,reduceCtorEq,zd,ze,zb,zf,za]
  rw [qa9]
  refine ⟨_,_,qbV (k:=.l 9) rfl,?_⟩
  simp only [ZZ,WW,Ze,reduceCtorEq,zd,ze,zb,zf,za]
  exact qe7 (stm l (k+1)) rfl ⟨⟨no,pre,dig,[]⟩,_,rfl,⟨hp.no,hp.pre,hp.dig,(by simp),fun x hx=>by cases hx⟩,rfl,by omega⟩
 have e0:decide ((shs.length:Int)=0)=false:=by rw [decide_eq_false_iff_not];omega
 simp only [ZZ,WW,Ze,reduceCtorEq,zd,ze,zb,zf,za,qah,e0,Bool.not_false]
 refine qlU (fun _=>?_) (fun hc=>by cases hc)
 refine useS (qhi l k 5 (by omega) hl (by decide)) rfl rfl rfl zE_ ?_
 rintro x cs' ⟨f,rfl,rfl⟩
 simp only [ZZ,WW,Ze,reduceCtorEq,zd,ze,zb,zf,za]
 refine br ?_ ?_
 ·intro _
  simp only [ZZ,WW,Ze,reduceCtorEq,zd,ze,zb,zf,za]
  refine useS (qdB l (k+1) 4 (by omega) hl (by decide)) rfl rfl rfl zE_ ?_
  rintro x cs' ⟨y,rfl,rfl⟩
  generalize qee y 4=c
  simp only [ZZ,WW,Ze,reduceCtorEq,zd,ze,zb,zf,za]
  refine br ?_ ?_
  ·intro _
   simp only [ZZ,WW,Ze,reduceCtorEq,zd,ze,zb,zf,za]
   refine useS (qeb l (k+1+1) [0,1,200,201] (by omega) hl (by simp) (by simp)) rfl rfl rfl zE_ ?_
   rintro x cs' ⟨u,rfl,hu,rfl⟩
   have hu:-1000000≤u∧u≤1000000:=by simp only [List.mem_cons,List.not_mem_nil,or_false] at hu;omega
   simp only [ZZ,WW,Ze,reduceCtorEq,zd,ze,zb,zf,za]
   refine qau zE_ ?_
   simp only [ZZ,WW,Ze,reduceCtorEq,zd,ze,zb,zf,za]
   rw [qa9]
   refine ⟨_,_,qbV (k:=.l 9) rfl,?_⟩
   simp only [ZZ,WW,Ze,reduceCtorEq,zd,ze,zb,zf,za]
   exact qe7 (stm l (k+1+1+1)) rfl ⟨⟨u,pre,dig,shs⟩,_,rfl,⟨hu,hp.pre,hp.dig,hp.shs,hp.all⟩,rfl,by omega⟩
  intro _
  simp only [ZZ,WW,Ze,reduceCtorEq,zd,ze,zb,zf,za]
  refine br ?_ ?_
  ·intro _
   simp only [ZZ,WW,Ze,reduceCtorEq,zd,ze,zb,zf,za]
   refine useS (qiv l (k+1+1) [[],[97,98],[90,90]] (by omega) hl (by simp) (by simp)) rfl rfl rfl zE_ ?_
   rintro x cs' ⟨u,rfl,hu,rfl⟩
   have hu:u.length≤1000:=by simp only [List.mem_cons,List.not_mem_nil,or_false] at hu;rcases hu with rfl|rfl|rfl<;>decide
   simp only [ZZ,WW,Ze,reduceCtorEq,zd,ze,zb,zf,za]
   refine qau zE_ ?_
   simp only [ZZ,WW,Ze,reduceCtorEq,zd,ze,zb,zf,za]
   rw [qa9]
   refine ⟨_,_,qbV (k:=.l 9) rfl,?_⟩
   simp only [ZZ,WW,Ze,reduceCtorEq,zd,ze,zb,zf,za]
   exact qe7 (stm l (k+1+1+1)) rfl ⟨⟨no,u,dig,shs⟩,_,rfl,⟨hp.no,hu,hp.dig,hp.shs,hp.all⟩,rfl,by omega⟩
  intro _
  simp only [ZZ,WW,Ze,reduceCtorEq,zd,ze,zb,zf,za]
  refine br ?_ ?_
  ·intro _
   simp only [ZZ,WW,Ze,reduceCtorEq,zd,ze,zb,zf,za]
   refine useS (qeb l (k+1+1) [3,9,10] (by omega) hl (by simp) (by simp)) rfl rfl rfl zE_ ?_
   rintro x cs' ⟨u,rfl,hu,rfl⟩
   have hu:-1000≤u∧u≤1000:=by simp only [List.mem_cons,List.not_mem_nil,or_false] at hu;omega
   simp only [ZZ,WW,Ze,reduceCtorEq,zd,ze,zb,zf,za]
   refine qau zE_ ?_
   simp only [ZZ,WW,Ze,reduceCtorEq,zd,ze,zb,zf,za]
   rw [qa9]
   refine ⟨_,_,qbV (k:=.l 9) rfl,?_⟩
   simp only [ZZ,WW,Ze,reduceCtorEq,zd,ze,zb,zf,za]
   exact qe7 (stm l (k+1+1+1)) rfl ⟨⟨no,pre,u,shs⟩,_,rfl,⟨hp.no,hp.pre,hu,hp.shs,hp.all⟩,rfl,by omega⟩
  intro _
  simp only [ZZ,WW,Ze,reduceCtorEq,zd,ze,zb,zf,za]
  refine qau zE_ ?_
  simp only [ZZ,WW,Ze,reduceCtorEq,zd,ze,zb,zf,za]
  rw [qa9]
  refine ⟨_,_,qbV (k:=.l 9) rfl,?_⟩
  simp only [ZZ,WW,Ze,reduceCtorEq,zd,ze,zb,zf,za]
  exact qe7 (stm l (k+1+1)) rfl ⟨⟨no,pre,dig,[]⟩,_,rfl,⟨hp.no,hp.pre,hp.dig,(by simp),fun x hx=>by cases hx⟩,rfl,by omega⟩
 intro _
 simp only [ZZ,WW,Ze,reduceCtorEq,zd,ze,zb,zf,za]
 refine drg0 ?_
 simp only [ZZ,WW,Ze,reduceCtorEq,zd,ze,zb,zf,za,qah]
 refine useD (qdB l (k+1) shs.length (by omega) hl (by omega)) ⟨_,_,0,rfl,rfl⟩ rfl rfl rfl zE_ (fun _=>⟨0,rfl⟩) ?_
 rintro x cs' ⟨y,rfl,rfl⟩
 have y1:=qeJ y shs.length
 have y2:=qeK y shs.length (by omega)
 obtain ⟨q,hq⟩:∃ q:Nat,qee y shs.length=(q:Nat):=⟨(qee y shs.length).toNat,by omega⟩
 rw [hq] at y1 y2 ⊢
 clear hq
 obtain ⟨x,hx⟩:∃ x,shs[q]?=some x:=⟨_,List.getElem?_eq_getElem (by omega)⟩
 have hg:=qfb hx
 have hxB:=hp.all x (List.mem_of_getElem? hx)
 have hxS:=hpg x (List.mem_of_getElem? hx)
 obtain ⟨id,top,kd,fr0,to0,pg,ver⟩:=x
 simp only [shV] at hg
 have hql:q < shs.length:=by omega
 have hb4:=hxS.fr_
 have hb5:=hxS.to_
 simp only at hb4 hb5
 simp only [ZZ,WW,Ze,reduceCtorEq,zd,ze,zb,zf,za,hg,qah]
 refine ⟨⟨by omega,by omega⟩,?_⟩
 refine useS (qdB l (k+1+1) 8 (by omega) hl (by decide)) rfl rfl rfl zE_ ?_
 rintro x cs' ⟨y,rfl,rfl⟩
 generalize qee y 8=c
 simp only [ZZ,WW,Ze,reduceCtorEq,zd,ze,zb,zf,za]
 refine br ?_ ?_
 ·intro _
  simp only [ZZ,WW,Ze,reduceCtorEq,zd,ze,zb,zf,za,hg,qah]
  refine useS (qiv l (k+1+1+1) [[],[105,97],[105,98]] (by omega) hl (by simp) (by simp)) rfl rfl rfl zE_ ?_
  rintro x cs' ⟨u,rfl,hu,rfl⟩
  have hu:u.length≤1000:=by simp only [List.mem_cons,List.not_mem_nil,or_false] at hu;rcases hu with rfl|rfl|rfl<;>decide
  simp only [ZZ,WW,Ze,reduceCtorEq,zd,ze,zb,zf,za,hg,qah]
  refine ⟨hql,?_⟩
  refine qau zE_ ?_
  simp only [ZZ,WW,Ze,reduceCtorEq,zd,ze,zb,zf,za]
  rw [qa9]
  refine ⟨_,_,qbV (k:=.l 9) rfl,?_⟩
  simp only [ZZ,WW,Ze,reduceCtorEq,zd,ze,zb,zf,za]
  exact qe7 (stm l (k+1+1+1+1)) rfl ⟨⟨no,pre,dig,shs.set q ⟨u,top,kd,fr0,to0,pg,ver⟩⟩,_,by simp only [← qiA];rfl,qh8 hp q ⟨hu,hxB.top,hxB.kind,hxB.fr_,hxB.to_,hxB.pages,hxB.page,hxB.ver⟩,rfl,by omega⟩
 intro _
 simp only [ZZ,WW,Ze,reduceCtorEq,zd,ze,zb,zf,za]
 refine br ?_ ?_
 ·intro _
  simp only [ZZ,WW,Ze,reduceCtorEq,zd,ze,zb,zf,za,hg,qah]
  refine ⟨hql,?_⟩
  refine useS (qiv l (k+1+1+1) [[],[105,97],id] (by omega) hl (by simp) (by simp)) rfl rfl rfl zE_ ?_
  rintro x cs' ⟨u,rfl,hu,rfl⟩
  have hu:u.length≤1000:=by simp only [List.mem_cons,List.not_mem_nil,or_false] at hu;rcases hu with rfl|rfl|rfl<;>first|exact hxB.id|decide
  simp only [ZZ,WW,Ze,reduceCtorEq,zd,ze,zb,zf,za,hg,qah]
  refine ⟨hql,?_⟩
  refine qau zE_ ?_
  simp only [ZZ,WW,Ze,reduceCtorEq,zd,ze,zb,zf,za]
  rw [qa9]
  refine ⟨_,_,qbV (k:=.l 9) rfl,?_⟩
  simp only [ZZ,WW,Ze,reduceCtorEq,zd,ze,zb,zf,za]
  exact qe7 (stm l (k+1+1+1+1)) rfl ⟨⟨no,pre,dig,shs.set q ⟨id,u,kd,fr0,to0,pg,ver⟩⟩,_,by simp only [← qiA];rfl,qh8 hp q ⟨hxB.id,hu,hxB.kind,hxB.fr_,hxB.to_,hxB.pages,hxB.page,hxB.ver⟩,rfl,by omega⟩
 intro _
 simp only [ZZ,WW,Ze,reduceCtorEq,zd,ze,zb,zf,za]
 refine br ?_ ?_
 ·intro _
  simp only [ZZ,WW,Ze,reduceCtorEq,zd,ze,zb,zf,za,hg,qah]
  refine useS (qp7 l (k+1+1+1) 0 5 (by omega) hl (by omega) (by omega) (by omega)) rfl rfl rfl zE_ ?_
  rintro x cs' ⟨u,rfl,hu1,hu2,rfl⟩
  simp only [ZZ,WW,Ze,reduceCtorEq,zd,ze,zb,zf,za,hg,qah]
  refine ⟨hql,?_⟩
  refine qau zE_ ?_
  simp only [ZZ,WW,Ze,reduceCtorEq,zd,ze,zb,zf,za]
  rw [qa9]
  refine ⟨_,_,qbV (k:=.l 9) rfl,?_⟩
  simp only [ZZ,WW,Ze,reduceCtorEq,zd,ze,zb,zf,za]
  exact qe7 (stm l (k+1+1+1+1)) rfl ⟨⟨no,pre,dig,shs.set q ⟨id,top,u,fr0,to0,pg,ver⟩⟩,_,by simp only [← qiA];rfl,qh8 hp q ⟨hxB.id,hxB.top,show -1000≤u∧u≤1000 by omega,hxB.fr_,hxB.to_,hxB.pages,hxB.page,hxB.ver⟩,rfl,by omega⟩
 intro _
 simp only [ZZ,WW,Ze,reduceCtorEq,zd,ze,zb,zf,za]
 refine br ?_ ?_
 ·intro _
  simp only [ZZ,WW,Ze,reduceCtorEq,zd,ze,zb,zf,za,hg,qah]
  refine drg0 ?_
  simp only [ZZ,WW,Ze,reduceCtorEq,zd,ze,zb,zf,za,hg,qah]
  refine ⟨hql,?_⟩
  refine useD (qeb l (k+1+1+1) [-1,1] (by omega) hl (by simp) (by simp)) ⟨_,_,-1,rfl,by simp,rfl⟩ rfl rfl rfl zE_ (fun _=>⟨0,rfl⟩) ?_
  rintro x cs' ⟨u,rfl,hu,rfl⟩
  have hu:-10000≤u∧u≤10000:=by simp only [List.mem_cons,List.not_mem_nil,or_false] at hu;omega
  simp only [ZZ,WW,Ze,reduceCtorEq,zd,ze,zb,zf,za,hg,qah]
  refine ⟨qar (by omega) (by omega),?_⟩
  refine ⟨hql,?_⟩
  refine qau zE_ ?_
  simp only [ZZ,WW,Ze,reduceCtorEq,zd,ze,zb,zf,za]
  rw [qa9]
  refine ⟨_,_,qbV (k:=.l 9) rfl,?_⟩
  simp only [ZZ,WW,Ze,reduceCtorEq,zd,ze,zb,zf,za]
  exact qe7 (stm l (k+1+1+1+1)) rfl ⟨⟨no,pre,dig,shs.set q ⟨id,top,kd,fr0+u,to0,pg,ver⟩⟩,_,by simp only [← qiA];rfl,qh8 hp q ⟨hxB.id,hxB.top,hxB.kind,show -100000000000≤fr0+u∧fr0+u≤100000000000 by omega,hxB.to_,hxB.pages,hxB.page,hxB.ver⟩,rfl,by omega⟩
 intro _
 simp only [ZZ,WW,Ze,reduceCtorEq,zd,ze,zb,zf,za]
 refine br ?_ ?_
 ·intro _
  simp only [ZZ,WW,Ze,reduceCtorEq,zd,ze,zb,zf,za,hg,qah]
  refine drg0 ?_
  simp only [ZZ,WW,Ze,reduceCtorEq,zd,ze,zb,zf,za,hg,qah]
  refine ⟨hql,?_⟩
  refine useD (qeb l (k+1+1+1) [-1,1,9999] (by omega) hl (by simp) (by simp)) ⟨_,_,-1,rfl,by simp,rfl⟩ rfl rfl rfl zE_ (fun _=>⟨0,rfl⟩) ?_
  rintro x cs' ⟨u,rfl,hu,rfl⟩
  have hu:-10000≤u∧u≤10000:=by simp only [List.mem_cons,List.not_mem_nil,or_false] at hu;omega
  simp only [ZZ,WW,Ze,reduceCtorEq,zd,ze,zb,zf,za,hg,qah]
  refine ⟨qar (by omega) (by omega),?_⟩
  refine ⟨hql,?_⟩
  refine qau zE_ ?_
  simp only [ZZ,WW,Ze,reduceCtorEq,zd,ze,zb,zf,za]
  rw [qa9]
  refine ⟨_,_,qbV (k:=.l 9) rfl,?_⟩
  simp only [ZZ,WW,Ze,reduceCtorEq,zd,ze,zb,zf,za]
  exact qe7 (stm l (k+1+1+1+1)) rfl ⟨⟨no,pre,dig,shs.set q ⟨id,top,kd,fr0,to0+u,pg,ver⟩⟩,_,by simp only [← qiA];rfl,qh8 hp q ⟨hxB.id,hxB.top,hxB.kind,hxB.fr_,show -100000000000≤to0+u∧to0+u≤100000000000 by omega,hxB.pages,hxB.page,hxB.ver⟩,rfl,by omega⟩
 intro _
 simp only [ZZ,WW,Ze,reduceCtorEq,zd,ze,zb,zf,za]
 refine br ?_ ?_
 ·intro _
  simp only [ZZ,WW,Ze,reduceCtorEq,zd,ze,zb,zf,za,hg,qah]
  refine useS (qeb l (k+1+1+1) [0,1000,1001] (by omega) hl (by simp) (by simp)) rfl rfl rfl zE_ ?_
  rintro x cs' ⟨u,rfl,hu,rfl⟩
  have hu:-1000000≤u∧u≤1000000:=by simp only [List.mem_cons,List.not_mem_nil,or_false] at hu;omega
  simp only [ZZ,WW,Ze,reduceCtorEq,zd,ze,zb,zf,za,hg,qah]
  refine ⟨hql,?_⟩
  refine qau zE_ ?_
  simp only [ZZ,WW,Ze,reduceCtorEq,zd,ze,zb,zf,za]
  rw [qa9]
  refine ⟨_,_,qbV (k:=.l 9) rfl,?_⟩
  simp only [ZZ,WW,Ze,reduceCtorEq,zd,ze,zb,zf,za]
  exact qe7 (stm l (k+1+1+1+1)) rfl ⟨⟨no,pre,dig,shs.set q ⟨id,top,kd,fr0,to0,pg,u⟩⟩,_,by simp only [← qiA];rfl,qh8 hp q ⟨hxB.id,hxB.top,hxB.kind,hxB.fr_,hxB.to_,hxB.pages,hxB.page,hu⟩,rfl,by omega⟩
 intro _
 simp only [ZZ,WW,Ze,reduceCtorEq,zd,ze,zb,zf,za]
 refine br ?_ ?_
 ·intro _
  simp only [ZZ,WW,Ze,reduceCtorEq,zd,ze,zb,zf,za,hg,qah]
  refine ⟨hql,?_⟩
  have hpl:=hxS.pages
  simp only at hpl
  refine useF (qlS (tbE pg) (by rw [qaP];omega)) rfl rfl ?_
  rintro es rfl
  simp only [ZZ,WW,Ze,reduceCtorEq,zd,ze,zb,zf,za]
  refine use1 (qfF [112] 81 (by omega) (by simp)) rfl (.inl rfl) ?_
  have g0:(Lib.repeatL [112] 81).length=81:=by rw [Lib.repeatL_length];rfl
  generalize Lib.repeatL [112] 81=r0 at g0 ⊢
  simp only [ZZ,WW,Ze,reduceCtorEq,zd,ze,zb,zf,za]
  refine useS (qiv l (k+1+1+1) [[120],[97,9,98],r0] (by omega) hl (by simp) (by simp)) rfl rfl rfl zE_ ?_
  rintro x cs' ⟨u,rfl,hu,rfl⟩
  have hu:u.length≤1000:=by simp only [List.mem_cons,List.not_mem_nil,or_false] at hu;rcases hu with rfl|rfl|rfl<;>first|omega|decide
  simp only [ZZ,WW,Ze,reduceCtorEq,zd,ze,zb,zf,za,qaP]
  refine ⟨by omega,?_⟩
  rw [qa9]
  refine ⟨_,_,qbV (k:=.l 153) rfl,?_⟩
  simp only [ZZ,WW,Ze,reduceCtorEq,zd,ze,zb,zf,za,hg,qah]
  refine ⟨hql,?_⟩
  refine qau zE_ ?_
  simp only [ZZ,WW,Ze,reduceCtorEq,zd,ze,zb,zf,za]
  rw [qa9]
  refine ⟨_,_,qbV (k:=.l 9) rfl,?_⟩
  simp only [ZZ,WW,Ze,reduceCtorEq,zd,ze,zb,zf,za]
  have epg:tbE pg++[[PV.sl 1 [[PV.str u]]]]=tbE (pg++[[u]]):=by simp [tbE,strE]
  rw [epg]
  exact qe7 (stm l (k+1+1+1+1)) rfl ⟨⟨no,pre,dig,shs.set q ⟨id,top,kd,fr0,to0,pg++[[u]],ver⟩⟩,_,by simp only [← qiA];rfl,qh8 hp q ⟨hxB.id,hxB.top,hxB.kind,hxB.fr_,hxB.to_,(by show (pg++[[u]]).length≤100000;rw [List.length_append,List.length_singleton];omega),(fun r hr=>(List.mem_append.1 hr).elim (hxB.page r) (fun h=>by rw [List.mem_singleton] at h;subst h;exact ⟨by simp,fun z hz=>by rw [List.mem_singleton] at hz;subst hz;omega⟩)),hxB.ver⟩,rfl,by omega⟩
 intro _
 simp only [ZZ,WW,Ze,reduceCtorEq,zd,ze,zb,zf,za,hg,qah,qaP]
 refine ⟨hql,?_⟩
 have hpl:=hxS.pages
 have hpp:=hxS.page
 simp only at hpl hpp
 refine useS (qdB l (k+1+1+1) pg.length (by omega) hl (by omega)) rfl rfl rfl zE_ ?_
 rintro x cs' ⟨y,rfl,rfl⟩
 have z1:=qeJ y pg.length
 have z2:=qeK y pg.length (by omega)
 obtain ⟨j,hj⟩:∃ j:Nat,qee y pg.length=(j:Nat):=⟨(qee y pg.length).toNat,by omega⟩
 rw [hj] at z1 z2 ⊢
 clear hj
 obtain ⟨r,hr⟩:∃ r,pg[j]?=some r:=⟨_,List.getElem?_eq_getElem (by omega)⟩
 have hgr:=qkz hr
 have hrp:=hpp r (List.mem_of_getElem? hr)
 simp only [ZZ,WW,Ze,reduceCtorEq,zd,ze,zb,zf,za,hg,qah,qaP]
 refine ⟨hql,?_⟩
 refine useF (qlS (tbE pg) (by rw [qaP];omega)) rfl rfl ?_
 rintro es rfl
 simp only [ZZ,WW,Ze,reduceCtorEq,zd,ze,zb,zf,za]
 rw [qa9]
 refine ⟨_,_,qoB (k:=.l 9) rfl,?_⟩
 simp only [ZZ,WW,Ze,reduceCtorEq,zd,ze,zb,zf,za]
 refine ⟨by rw [List.length_map,qah];exact hql,?_⟩
 have hgm:((shE shs).map fun x=>x.map AV.p).getD q []=[.p (.str id),.p (.str top),.p (int kd),.p (int fr0),.p (int to0),.p (.sl 1 (tbE pg)),.p (int ver)]:=by
  rw [zt,List.getElem?_map,shE,List.getElem?_map,hx];rfl
 simp only [ZZ,WW,Ze,reduceCtorEq,zd,ze,zb,zf,za,hgm]
 rw [qa9]
 refine ⟨_,_,qoB (k:=.l 63) rfl,?_⟩
 simp only [ZZ,WW,Ze,reduceCtorEq,zd,ze,zb,zf,za]
 have hNg:((tbE pg).map fun x=>x.map AV.p).getD j []=[.p (.sl 1 (strE r))]:=by
  rw [zt,List.getElem?_map,tbE,List.getElem?_map,hr];rfl
 have hset:∀ R,(((shE shs).map fun x=>x.map AV.p).set q R).getD q []=R:=fun R=>by
  rw [zt,List.getElem?_set_self (by rw [List.length_map,qah];exact hql)];rfl
 refine ⟨[.sl 1 (strE r),.str (Lib.repeatL [112] 80),.str (Lib.repeatL [112] 81)],?_⟩
 simp only [ZZ,WW,Ze,reduceCtorEq,zd,ze,zb,zf,za,List.map_set,qx2,hset,hNg,List.length_set,List.length_map,qah,qaP]
 refine ⟨hql,⟨by omega,by omega⟩,by omega,qyv (qsO (strE r) (by rw [qal];omega)),usep (qfF [112] 80 (by omega) (by simp)) rfl (.inl rfl),usep (qfF [112] 81 (by omega) (by simp)) rfl (.inl rfl),?_⟩
 have g0:(Lib.repeatL [112] 80).length=80:=by rw [Lib.repeatL_length];rfl
 have g1:(Lib.repeatL [112] 81).length=81:=by rw [Lib.repeatL_length];rfl
 generalize Lib.repeatL [112] 80=r0 at g0 ⊢
 generalize Lib.repeatL [112] 81=r1 at g1 ⊢
 refine useD (qiv l (k+1+1+1+1) [[109,111,114,101],[255],r0,r1] (by omega) hl (by simp) (by simp)) ⟨_,_,[255],rfl,by simp,rfl⟩ rfl rfl rfl zE_ (fun _=>⟨0,rfl⟩) ?_
 rintro x cs' ⟨u,rfl,hu,rfl⟩
 have hu:u.length≤1000:=by simp only [List.mem_cons,List.not_mem_nil,or_false] at hu;rcases hu with rfl|rfl|rfl|rfl<;>first|omega|decide
 simp only [ZZ,WW,Ze,reduceCtorEq,zd,ze,zb,zf,za,List.map_set,qx2,hset,hNg,List.length_set,List.length_map,qah,qaP,qal]
 refine ⟨by omega,hql,⟨by omega,by omega⟩,by omega,?_⟩
 refine qau zE_ ?_
 simp only [ZZ,WW,Ze,reduceCtorEq,zd,ze,zb,zf,za]
 rw [qa9]
 refine qmb (qbV (k:=.l 78) rfl) ?_
 simp only [ZZ,WW,Ze,reduceCtorEq,zd,ze,zb,zf,za,List.map_set,qxe]
 have er:strE r++[[PV.str u]]=strE (r++[u]):=by simp [strE]
 rw [er]
 refine qmb (qig (k:=.l 63) rfl (qu8 pg j (r++[u]))) ?_
 simp only [ZZ,WW,Ze,reduceCtorEq,zd,ze,zb,zf,za]
 refine qmb (qbV (k:=.l 63) rfl) ?_
 simp only [ZZ,WW,Ze,reduceCtorEq,zd,ze,zb,zf,za,List.map_set,qxe]
 refine qmb (qig (k:=.l 9) rfl (qvH shs q ⟨id,top,kd,fr0,to0,pg.set j (r++[u]),ver⟩)) ?_
 simp only [ZZ,WW,Ze,reduceCtorEq,zd,ze,zb,zf,za]
 refine ⟨_,_,qbV (k:=.l 9) rfl,?_⟩
 simp only [ZZ,WW,Ze,reduceCtorEq,zd,ze,zb,zf,za]
 exact qe7 (stm l (k+1+1+1+1+1)) rfl ⟨⟨no,pre,dig,shs.set q ⟨id,top,kd,fr0,to0,pg.set j (r++[u]),ver⟩⟩,_,rfl,qh8 hp q ⟨hxB.id,hxB.top,hxB.kind,hxB.fr_,hxB.to_,(by show (pg.set j (r++[u])).length≤100000;rw [List.length_set];omega),(fun r' hr'=>(List.mem_or_eq_of_mem_set hr').elim (hxB.page r') (fun h=>by subst h;exact ⟨by simp;omega,fun z hz=>(List.mem_append.1 hz).elim ((hxB.page r (List.mem_of_getElem? hr)).2 z) (fun h=>by rw [List.mem_singleton] at h;subst h;omega)⟩)),hxB.ver⟩,rfl,by omega⟩
end
def E4:Envt where
 ok w:=E0.ok w∧Lib.TabIs Tryz.prog w "internal/strconv.uint64pow10" .u64 Lib.pow10Tab
 bl b:=E0.bl b∨b=5
 mono w w' hb h:=⟨E0.mono w w' (fun b hbb=>hb b (.inl hbb)) h.1,(qqO (by kernel_rfl) (hb _ (.inr rfl))).trans h.2⟩
theorem up4 {f:FuncId} {args:List PV} {φ:PV→Prop} (h:PCall Tryz.prog E0 f args φ):PCall Tryz.prog E4 f args φ:=fun w U vs hU hE hEb hA=>h w U vs hU hE.1 (fun c hc=>hEb c (.inl hc)) hA
theorem quu (n:Int) (h0:-9223372036854775808≤n) (h1:n≤9223372036854775807):PCall Tryz.prog E4 188 [int n] (·=.str (Lib.itoa n)):=
 qbW rfl rfl fun w hE=>(Any.strconv_Itoa Tryz.layItoa n h0 h1 w hE.2).mono fun e w' h=>⟨h.1,by obtain ⟨k,os,rfl⟩:=h.2;exact qtM w k os⟩
section
variable {E:Envt}
theorem qol (p:List UInt8) (d n:Int) (hp:p.length≤8) (hd0:4≤d) (hd:d≤9) (h0:0≤n) (h1:n≤1000000000):PCall Tryz.prog E4 148 [.str p,int d,int n] (·=.str (qsQ Lib.itoa p d n)):=by
 refine qag mixed Tryz.func148 qji ?_
 simp only [a0,l0,OS.ao,zj,zo,zi,zn,zl,zm,zp,zd,zh,zk,qgj,qga,ZZ,WW,Ze,reduceCtorEq,zd,ze,zb,zf,za]
 refine use1 (quu n (by omega) (by omega)) rfl (.inl rfl) ?_
 have hil:=qtE h0 (by omega)
 unfold qsQ
 generalize Lib.itoa n=it at *
 obtain ⟨m,hm⟩:=Int.eq_ofNat_of_zero_le (show 0≤max 0 (d - (it.length:Int)) by omega)
 have hm9:m≤9:=by omega
 rw [hm,Int.toNat_natCast]
 simp only [ZZ,WW,Ze,reduceCtorEq,zd,ze,zb,zf,za,hm]
 ((repeat' (with_reducible apply And.intro))<;>try ((exact sc_)))
 refine use1 (qsC [48] m (by omega) (by simp)) rfl (.inl rfl) ?_
 have hrl:(Lib.repeatL [48] m).length≤9:=by rw [Lib.repeatL_length];simp;omega
 simp only [ZZ,WW,Ze,reduceCtorEq,zd,ze,zb,zf,za]
 ((repeat' (with_reducible apply And.intro))<;>try ((exact sc_)))
theorem qqI (p:List UInt8) (d n:Int) (hp:p.length≤1000):PCall Tryz.prog E4 64 [.str p,int d,int n] (·=.tup [.str (numG Lib.itoa p d n).1,int (numG Lib.itoa p d n).2]):=by
 refine qag mixed Tryz.func64 qjK ?_
 simp only [a0,l0,OS.ao,zj,zo,zi,zn,zl,zm,zp,zd,zh,zk,qgM,qgH,ZZ,WW,Ze,reduceCtorEq,zd,ze,zb,zf,za]
 refine use1 (qjW p d (by omega)) rfl (.inl rfl) ?_
 simp only [ZZ,WW,Ze,reduceCtorEq,zd,ze,zb,zf,za]
 unfold numG
 refine br ?_ ?_
 ·intro h
  have h:¬ qe6 p d=0:=by simpa using h
  simp only [ZZ,WW,Ze,reduceCtorEq,zd,ze,zb,zf,za]
  rw [if_neg h]
 ·intro h
  have h:qe6 p d=0:=by simpa using h
  obtain ⟨g1,g2,g3⟩:=qqw h
  have hb:=qkR g2
  rw [if_pos h]
  simp only [ZZ,WW,Ze,reduceCtorEq,zd,ze,zb,zf,za]
  refine use1 (qpD d (by omega) g2) rfl (.inl rfl) ?_
  simp only [ZZ,WW,Ze,reduceCtorEq,zd,ze,zb,zf,za]
  ((repeat' (with_reducible apply And.intro))<;>try ((exact sc_)))
  refine use1 (qqK n 1 (powF d - 1)) rfl (.inl rfl) ?_
  simp only [ZZ,WW,Ze,reduceCtorEq,zd,ze,zb,zf,za]
  refine br ?_ ?_
  ·intro h2
   have h2:inE n 1 (powF d - 1)=false:=by simpa using h2
   simp only [ZZ,WW,Ze,reduceCtorEq,zd,ze,zb,zf,za]
   rw [if_neg (by rw [h2];simp)]
  ·intro h2
   have h2:inE n 1 (powF d - 1)=true:=by simpa using h2
   have h3:=h2
   simp only [inE,Bool.and_eq_true,decide_eq_true_eq] at h3
   simp only [ZZ,WW,Ze,reduceCtorEq,zd,ze,zb,zf,za]
   refine use1 (qol p d n g3 g1 g2 (by omega) (by omega)) rfl (.inl rfl) ?_
   simp only [ZZ,WW,Ze,reduceCtorEq,zd,ze,zb,zf,za]
   rw [if_pos h2]
theorem qjT:PCall Tryz.prog E4 14 [] (·=.bool true):=by
 refine qag mixed Tryz.func14 qh1 ?_
 simp only [a0,l0,OS.ao,zj,zo,zi,zn,zl,zm,zp,zd,zh,zk,qe4,qeT,ZZ,WW,Ze,reduceCtorEq,zd,ze,zb,zf,za]
 refine use1 (qqI [65,66] 4 7 (by simp)) rfl (.inl rfl) ?_
 rw [qwe (by omega) (by omega),show numG itD [65,66] 4 7=([65,66,48,48,48,55],0) from by decide +kernel]
 simp only [ZZ,WW,Ze,reduceCtorEq,zd,ze,zb,zf,za]
 rfl
end
end Go.Proofs.YtehfjlpenlffmaaGreatDoor
