import Derived.Test.YtehfjlpenlffmaaGreatDoorZ18
import Derived.Test.YtehfjlpenlffmaaGreatDoorZ14
import Derived.Test.YtehfjlpenlffmaaGreatDoorZ11
import Derived.Test.YtehfjlpenlffmaaGreatDoorZ10
import Derived.Test.YtehfjlpenlffmaaGreatDoorZ9
import Derived.Test.YtehfjlpenlffmaaGreatDoorZ4
set_option linter.unusedVariables false
set_option linter.unusedSimpArgs false
set_option linter.defProp false
namespace Go.Proofs.YtehfjlpenlffmaaGreatDoor
open Nat renaming reduceSub→zp,reduceAdd→zd,reduceMul→ze,reduceLeDiff→zb,reduceLT→zf,reduceEqDiff→za
open List renaming map_cons→zj,map_nil→zo,length_cons→zi,length_nil→zn,cons_append→zl,nil_append→zm,replicate_succ→zh,replicate_zero→zk,getD→zt,eq_nil_of_length_eq_zero→zq
open Go.RowKit
section
variable {E:Envt}
def qaN:IC:=(.seq (.reg [qO 9 (.bin .lss (.t 8) (.t 7))]) (.seq (.cond (.t 9) .skip (.exit 0)) (.seq (.block 1 (.seq (.reg [qM 10 8,qM 5 10]) (.seq (.reg [qM 11 1,qM 12 0,qM 13 5,qO 14 (.ixa 7 (.t 12) (.t 13)),qO 15 (.ld 7 true (.t 14)),qO 16 (.callv (.t 11) [.t 15])]) (.cond (.t 16) (.seq (.reg [qM 17 5,qM 4 17]) .ret) .skip)))) (.reg [qO 18 (.bin .add (.t 8) (.c (.int .i64 1))),qM 8 18]))))
def qa1:IC:=(.seq (.reg [qO 4 (.mov (.c (.int .i64 0)))]) (.seq (.seq (.reg [qM 6 0,qO 7 (.len (.t 6)),qO 8 (.mov (.c (.int .i64 0)))]) (.block 0 (.loop qaN))) (.seq (.reg [qO 4 (.mov (.c (.int .i64 (-1))))]) .ret)))
def qaY:List IRes:=[.t 4]
theorem qcH:chkF Tryz.prog Tryz.f144 qa1 qaY 19=true:=by kernel_rfl
def qaO:IC:=(.seq (.reg [qO 4 (.mov (.c (.bool false)))]) (.seq (.reg [qM 5 0,qM 6 1,qO 7 (.call 144 [.t 5,.t 6]),qO 8 (.bin .geq (.t 7) (.c (.int .i64 0))),qM 4 8]) .ret))
def qaM:List IRes:=[.t 4]
theorem qck:chkF Tryz.prog Tryz.f58 qaO qaM 9=true:=by kernel_rfl
theorem qlr (l:List Sht) (f:FuncId) (ps:List PV) (q:Sht→Bool) (hl:l.length≤1000000000) (hfn:Unit→fnB Tryz.prog f=true) (hps:Zl [] (ps.map .p)=true) (hf:∀ x∈l,PCall Tryz.prog E f (.agg (shV x) :: ps) (·=.bool (q x))) (hn:∀ x,Zbh [] (.p (.agg (shV x)) :: ps.map .p)=some (.agg (shV x) :: ps)) (hr:∀ x,Zbj (.p (.agg (shV x)) :: ps.map .p)=true):PCall Tryz.prog E 144 [.sl 7 (shE l),.clo f ps] (·=int (idxF q l)):=by
 refine qag mixed Tryz.func144 qcH ?_
 simp only [a0,l0,OS.ao,zj,zo,zi,zn,zl,zm,zp,zd,zh,zk,qa1,qaY,ZZ,WW,Ze,reduceCtorEq,zd,ze,zb,zf,za]
 simp only [ZZ,WW,Ze,reduceCtorEq,zd,ze,zb,zf,za,qah]
 refine qad (fun n fr L=>∃ (k:Nat),k≤l.length∧n=l.length - k∧(∀ x∈l.take k,q x=false)∧fr=[.p (.sl 7 (shE l)),.p (.clo f ps),oo,oo,oo,oo,oo,.p (int (l.length:Nat)),.p (int (k:Nat)),oo,oo,oo,oo,oo,oo,oo,oo,oo,oo]∧L=[]) (l.length) [.p (.sl 7 (shE l)),.p (.clo f ps),oo,oo,oo,oo,oo,.p (int (l.length:Nat)),.p (int (0:Nat)),oo,oo,oo,oo,oo,oo,oo,oo,oo,oo] [] (by simp only [qah,ZZ,WW,Ze,reduceCtorEq,zd,ze,zb,zf,za];try trivial) (by (simp only [ZZ,WW,Ze,reduceCtorEq,zd,ze,zb,zf,za];try trivial)) ⟨0,by omega,by omega,by simp,rfl,rfl⟩ ?_
 rintro n fr L ⟨k,hk,rfl,hno,rfl,rfl⟩
 simp only [qaN,ZZ,WW,Ze,reduceCtorEq,zd,ze,zb,zf,za]
 refine br ?_ ?_
 ·intro h
  have hlt:k < l.length:=by have:=of_decide_eq_true h;omega
  obtain ⟨x,hx⟩:∃ x,l[k]?=some x:=⟨_,List.getElem?_eq_getElem hlt⟩
  have hg:=qfb hx
  simp only [shV] at hg
  simp only [ZZ,WW,Ze,reduceCtorEq,zd,ze,zb,zf,za,hg,qah,hfn ()]
  refine ⟨⟨by omega,by omega⟩,by omega,hps,?_⟩
  refine use1 (hf x (List.mem_of_getElem? hx)) (hn x) (.inl (hr x)) ?_
  simp only [ZZ,WW,Ze,reduceCtorEq,zd,ze,zb,zf,za]
  refine br ?_ ?_
  ·intro hq
   simp only [ZZ,WW,Ze,reduceCtorEq,zd,ze,zb,zf,za]
   rw [qg2 hx hq hno]
  ·intro hq
   simp only [ZZ,WW,Ze,reduceCtorEq,zd,ze,zb,zf,za]
   ((repeat' (with_reducible apply And.intro))<;>try ((exact sc_)))
   refine qac (l.length - (k+1)) [.p (.sl 7 (shE l)),.p (.clo f ps),oo,oo,oo,oo,oo,.p (int (l.length:Nat)),.p (int ((k+1):Nat)),oo,oo,oo,oo,oo,oo,oo,oo,oo,oo] [] (by omega) (by (simp only [ZZ,WW,Ze,reduceCtorEq,zd,ze,zb,zf,za];try trivial)) (by (simp only [ZZ,WW,Ze,reduceCtorEq,zd,ze,zb,zf,za];try trivial)) ⟨k+1,by omega,rfl,by rw [List.take_succ_eq_append_getElem hlt];intro y hy;rcases List.mem_append.1 hy with hy|hy;exact hno y hy;rw [List.mem_singleton] at hy;rw [hy,(List.getElem?_eq_some_iff.1 hx).2];exact hq,rfl,rfl⟩
 ·intro h
  have hge:l.length≤k:=by have:=of_decide_eq_false h;omega
  rw [List.take_of_length_le hge] at hno
  simp only [ZZ,WW,Ze,reduceCtorEq,zd,ze,zb,zf,za]
  rw [qe5 hno]
theorem qeH (l:List Sht) (f:FuncId) (ps:List PV) (q:Sht→Bool) (hl:l.length≤1000000000) (hfn:Unit→fnB Tryz.prog f=true) (hps:Zl [] (ps.map .p)=true) (hf:∀ x∈l,PCall Tryz.prog E f (.agg (shV x) :: ps) (·=.bool (q x))) (hn:∀ x,Zbh [] (.p (.agg (shV x)) :: ps.map .p)=some (.agg (shV x) :: ps)) (hr:∀ x,Zbj (.p (.agg (shV x)) :: ps.map .p)=true):PCall Tryz.prog E 58 [.sl 7 (shE l),.clo f ps] (·=.bool (l.any q)):=by
 refine qag mixed Tryz.func58 qck ?_
 simp only [a0,l0,OS.ao,zj,zo,zi,zn,zl,zm,zp,zd,zh,zk,qaO,qaM,ZZ,WW,Ze,reduceCtorEq,zd,ze,zb,zf,za]
 refine use1 (qlr l f ps q hl hfn hps hf hn hr) rfl (.inl rfl) ?_
 simp only [ZZ,WW,Ze,reduceCtorEq,zd,ze,zb,zf,za]
 rw [qjd]
def qax:IC:=(.seq (.reg [qO 9 (.bin .lss (.t 8) (.t 7))]) (.seq (.cond (.t 9) .skip (.exit 0)) (.seq (.block 1 (.seq (.reg [qM 10 8,qM 5 10]) (.seq (.reg [qM 11 1,qM 12 0,qM 13 5,qO 14 (.ixa 4 (.t 12) (.t 13)),qO 15 (.ld 4 true (.t 14)),qO 16 (.callv (.t 11) [.t 15])]) (.cond (.t 16) (.seq (.reg [qM 17 5,qM 4 17]) .ret) .skip)))) (.reg [qO 18 (.bin .add (.t 8) (.c (.int .i64 1))),qM 8 18]))))
def qaC:IC:=(.seq (.reg [qO 4 (.mov (.c (.int .i64 0)))]) (.seq (.seq (.reg [qM 6 0,qO 7 (.len (.t 6)),qO 8 (.mov (.c (.int .i64 0)))]) (.block 0 (.loop qax))) (.seq (.reg [qO 4 (.mov (.c (.int .i64 (-1))))]) .ret)))
def qaB:List IRes:=[.t 4]
theorem qbx:chkF Tryz.prog Tryz.f149 qaC qaB 19=true:=by kernel_rfl
def qay:IC:=(.seq (.reg [qO 4 (.mov (.c (.bool false)))]) (.seq (.reg [qM 5 0,qM 6 1,qO 7 (.call 149 [.t 5,.t 6]),qO 8 (.bin .geq (.t 7) (.c (.int .i64 0))),qM 4 8]) .ret))
def qaw:List IRes:=[.t 4]
theorem qbl:chkF Tryz.prog Tryz.f65 qay qaw 9=true:=by kernel_rfl
theorem qls (l:List Prd) (f:FuncId) (ps:List PV) (q:Prd→Bool) (hl:l.length≤1000000000) (hfn:Unit→fnB Tryz.prog f=true) (hps:Zl [] (ps.map .p)=true) (hf:∀ x∈l,PCall Tryz.prog E f (.agg (pdV x) :: ps) (·=.bool (q x))) (hn:∀ x,Zbh [] (.p (.agg (pdV x)) :: ps.map .p)=some (.agg (pdV x) :: ps)) (hr:∀ x,Zbj (.p (.agg (pdV x)) :: ps.map .p)=true):PCall Tryz.prog E 149 [.sl 4 (pdE l),.clo f ps] (·=int (idxF q l)):=by
 refine qag mixed Tryz.func149 qbx ?_
 simp only [a0,l0,OS.ao,zj,zo,zi,zn,zl,zm,zp,zd,zh,zk,qaC,qaB,ZZ,WW,Ze,reduceCtorEq,zd,ze,zb,zf,za]
 simp only [ZZ,WW,Ze,reduceCtorEq,zd,ze,zb,zf,za,qaQ]
 refine qad (fun n fr L=>∃ (k:Nat),k≤l.length∧n=l.length - k∧(∀ x∈l.take k,q x=false)∧fr=[.p (.sl 4 (pdE l)),.p (.clo f ps),oo,oo,oo,oo,oo,.p (int (l.length:Nat)),.p (int (k:Nat)),oo,oo,oo,oo,oo,oo,oo,oo,oo,oo]∧L=[]) (l.length) [.p (.sl 4 (pdE l)),.p (.clo f ps),oo,oo,oo,oo,oo,.p (int (l.length:Nat)),.p (int (0:Nat)),oo,oo,oo,oo,oo,oo,oo,oo,oo,oo] [] (by simp only [qaQ,ZZ,WW,Ze,reduceCtorEq,zd,ze,zb,zf,za];try trivial) (by (simp only [ZZ,WW,Ze,reduceCtorEq,zd,ze,zb,zf,za];try trivial)) ⟨0,by omega,by omega,by simp,rfl,rfl⟩ ?_
 rintro n fr L ⟨k,hk,rfl,hno,rfl,rfl⟩
 simp only [qax,ZZ,WW,Ze,reduceCtorEq,zd,ze,zb,zf,za]
 refine br ?_ ?_
 ·intro h
  have hlt:k < l.length:=by have:=of_decide_eq_true h;omega
  obtain ⟨x,hx⟩:∃ x,l[k]?=some x:=⟨_,List.getElem?_eq_getElem hlt⟩
  have hg:=qiD hx
  simp only [pdV] at hg
  simp only [ZZ,WW,Ze,reduceCtorEq,zd,ze,zb,zf,za,hg,qaQ,hfn ()]
  refine ⟨⟨by omega,by omega⟩,by omega,hps,?_⟩
  refine use1 (hf x (List.mem_of_getElem? hx)) (hn x) (.inl (hr x)) ?_
  simp only [ZZ,WW,Ze,reduceCtorEq,zd,ze,zb,zf,za]
  refine br ?_ ?_
  ·intro hq
   simp only [ZZ,WW,Ze,reduceCtorEq,zd,ze,zb,zf,za]
   rw [qg2 hx hq hno]
  ·intro hq
   simp only [ZZ,WW,Ze,reduceCtorEq,zd,ze,zb,zf,za]
   ((repeat' (with_reducible apply And.intro))<;>try ((exact sc_)))
   refine qac (l.length - (k+1)) [.p (.sl 4 (pdE l)),.p (.clo f ps),oo,oo,oo,oo,oo,.p (int (l.length:Nat)),.p (int ((k+1):Nat)),oo,oo,oo,oo,oo,oo,oo,oo,oo,oo] [] (by omega) (by (simp only [ZZ,WW,Ze,reduceCtorEq,zd,ze,zb,zf,za];try trivial)) (by (simp only [ZZ,WW,Ze,reduceCtorEq,zd,ze,zb,zf,za];try trivial)) ⟨k+1,by omega,rfl,by rw [List.take_succ_eq_append_getElem hlt];intro y hy;rcases List.mem_append.1 hy with hy|hy;exact hno y hy;rw [List.mem_singleton] at hy;rw [hy,(List.getElem?_eq_some_iff.1 hx).2];exact hq,rfl,rfl⟩
 ·intro h
  have hge:l.length≤k:=by have:=of_decide_eq_false h;omega
  rw [List.take_of_length_le hge] at hno
  simp only [ZZ,WW,Ze,reduceCtorEq,zd,ze,zb,zf,za]
  rw [qe5 hno]
theorem qjP (l:List Prd) (f:FuncId) (ps:List PV) (q:Prd→Bool) (hl:l.length≤1000000000) (hfn:Unit→fnB Tryz.prog f=true) (hps:Zl [] (ps.map .p)=true) (hf:∀ x∈l,PCall Tryz.prog E f (.agg (pdV x) :: ps) (·=.bool (q x))) (hn:∀ x,Zbh [] (.p (.agg (pdV x)) :: ps.map .p)=some (.agg (pdV x) :: ps)) (hr:∀ x,Zbj (.p (.agg (pdV x)) :: ps.map .p)=true):PCall Tryz.prog E 65 [.sl 4 (pdE l),.clo f ps] (·=.bool (l.any q)):=by
 refine qag mixed Tryz.func65 qbl ?_
 simp only [a0,l0,OS.ao,zj,zo,zi,zn,zl,zm,zp,zd,zh,zk,qay,qaw,ZZ,WW,Ze,reduceCtorEq,zd,ze,zb,zf,za]
 refine use1 (qls l f ps q hl hfn hps hf hn hr) rfl (.inl rfl) ?_
 simp only [ZZ,WW,Ze,reduceCtorEq,zd,ze,zb,zf,za]
 rw [qjd]
def qa2:IC:=(.seq (.reg [qO 9 (.bin .lss (.t 8) (.t 7))]) (.seq (.cond (.t 9) .skip (.exit 0)) (.seq (.block 1 (.seq (.reg [qM 10 8,qM 5 10]) (.seq (.reg [qM 11 1,qM 12 0,qM 13 5,qO 14 (.ixa 1 (.t 12) (.t 13)),qO 15 (.ld 1 false (.t 14)),qO 16 (.callv (.t 11) [.t 15])]) (.cond (.t 16) (.seq (.reg [qM 17 5,qM 4 17]) .ret) .skip)))) (.reg [qO 18 (.bin .add (.t 8) (.c (.int .i64 1))),qM 8 18]))))
def qbj:IC:=(.seq (.reg [qO 4 (.mov (.c (.int .i64 0)))]) (.seq (.seq (.reg [qM 6 0,qO 7 (.len (.t 6)),qO 8 (.mov (.c (.int .i64 0)))]) (.block 0 (.loop qa2))) (.seq (.reg [qO 4 (.mov (.c (.int .i64 (-1))))]) .ret)))
def qbg:List IRes:=[.t 4]
theorem qdt:chkF Tryz.prog Tryz.f145 qbj qbg 19=true:=by kernel_rfl
def qa3:IC:=(.seq (.reg [qO 4 (.mov (.c (.bool false)))]) (.seq (.reg [qM 5 0,qM 6 1,qO 7 (.call 145 [.t 5,.t 6]),qO 8 (.bin .geq (.t 7) (.c (.int .i64 0))),qM 4 8]) .ret))
def qaZ:List IRes:=[.t 4]
theorem qcI:chkF Tryz.prog Tryz.f62 qa3 qaZ 9=true:=by kernel_rfl
theorem qlq (l:List SRow) (f:FuncId) (ps:List PV) (q:SRow→Bool) (hl:l.length≤1000000000) (hfn:Unit→fnB Tryz.prog f=true) (hps:Zl [] (ps.map .p)=true) (hf:∀ x∈l,PCall Tryz.prog E f (.sl 1 (strE x) :: ps) (·=.bool (q x))) (hn:∀ x,Zbh [] (.p (.sl 1 (strE x)) :: ps.map .p)=some (.sl 1 (strE x) :: ps)) (hr:∀ x,Zbj (.p (.sl 1 (strE x)) :: ps.map .p)=true):PCall Tryz.prog E 145 [.sl 1 (tbE l),.clo f ps] (·=int (idxF q l)):=by
 refine qag mixed Tryz.func145 qdt ?_
 simp only [a0,l0,OS.ao,zj,zo,zi,zn,zl,zm,zp,zd,zh,zk,qbj,qbg,ZZ,WW,Ze,reduceCtorEq,zd,ze,zb,zf,za]
 simp only [ZZ,WW,Ze,reduceCtorEq,zd,ze,zb,zf,za,qaP]
 refine qad (fun n fr L=>∃ (k:Nat),k≤l.length∧n=l.length - k∧(∀ x∈l.take k,q x=false)∧fr=[.p (.sl 1 (tbE l)),.p (.clo f ps),oo,oo,oo,oo,oo,.p (int (l.length:Nat)),.p (int (k:Nat)),oo,oo,oo,oo,oo,oo,oo,oo,oo,oo]∧L=[]) (l.length) [.p (.sl 1 (tbE l)),.p (.clo f ps),oo,oo,oo,oo,oo,.p (int (l.length:Nat)),.p (int (0:Nat)),oo,oo,oo,oo,oo,oo,oo,oo,oo,oo] [] (by simp only [qaP,ZZ,WW,Ze,reduceCtorEq,zd,ze,zb,zf,za];try trivial) (by (simp only [ZZ,WW,Ze,reduceCtorEq,zd,ze,zb,zf,za];try trivial)) ⟨0,by omega,by omega,by simp,rfl,rfl⟩ ?_
 rintro n fr L ⟨k,hk,rfl,hno,rfl,rfl⟩
 simp only [qa2,ZZ,WW,Ze,reduceCtorEq,zd,ze,zb,zf,za]
 refine br ?_ ?_
 ·intro h
  have hlt:k < l.length:=by have:=of_decide_eq_true h;omega
  obtain ⟨x,hx⟩:∃ x,l[k]?=some x:=⟨_,List.getElem?_eq_getElem hlt⟩
  have hg:=qkz hx
  skip
  simp only [ZZ,WW,Ze,reduceCtorEq,zd,ze,zb,zf,za,hg,qaP,hfn ()]
  refine ⟨⟨by omega,by omega⟩,by omega,hps,?_⟩
  refine use1 (hf x (List.mem_of_getElem? hx)) (hn x) (.inl (hr x)) ?_
  simp only [ZZ,WW,Ze,reduceCtorEq,zd,ze,zb,zf,za]
  refine br ?_ ?_
  ·intro hq
   simp only [ZZ,WW,Ze,reduceCtorEq,zd,ze,zb,zf,za]
   rw [qg2 hx hq hno]
  ·intro hq
   simp only [ZZ,WW,Ze,reduceCtorEq,zd,ze,zb,zf,za]
   ((repeat' (with_reducible apply And.intro))<;>try ((exact sc_)))
   refine qac (l.length - (k+1)) [.p (.sl 1 (tbE l)),.p (.clo f ps),oo,oo,oo,oo,oo,.p (int (l.length:Nat)),.p (int ((k+1):Nat)),oo,oo,oo,oo,oo,oo,oo,oo,oo,oo] [] (by omega) (by (simp only [ZZ,WW,Ze,reduceCtorEq,zd,ze,zb,zf,za];try trivial)) (by (simp only [ZZ,WW,Ze,reduceCtorEq,zd,ze,zb,zf,za];try trivial)) ⟨k+1,by omega,rfl,by rw [List.take_succ_eq_append_getElem hlt];intro y hy;rcases List.mem_append.1 hy with hy|hy;exact hno y hy;rw [List.mem_singleton] at hy;rw [hy,(List.getElem?_eq_some_iff.1 hx).2];exact hq,rfl,rfl⟩
 ·intro h
  have hge:l.length≤k:=by have:=of_decide_eq_false h;omega
  rw [List.take_of_length_le hge] at hno
  simp only [ZZ,WW,Ze,reduceCtorEq,zd,ze,zb,zf,za]
  rw [qe5 hno]
theorem qjO (l:List SRow) (f:FuncId) (ps:List PV) (q:SRow→Bool) (hl:l.length≤1000000000) (hfn:Unit→fnB Tryz.prog f=true) (hps:Zl [] (ps.map .p)=true) (hf:∀ x∈l,PCall Tryz.prog E f (.sl 1 (strE x) :: ps) (·=.bool (q x))) (hn:∀ x,Zbh [] (.p (.sl 1 (strE x)) :: ps.map .p)=some (.sl 1 (strE x) :: ps)) (hr:∀ x,Zbj (.p (.sl 1 (strE x)) :: ps.map .p)=true):PCall Tryz.prog E 62 [.sl 1 (tbE l),.clo f ps] (·=.bool (l.any q)):=by
 refine qag mixed Tryz.func62 qcI ?_
 simp only [a0,l0,OS.ao,zj,zo,zi,zn,zl,zm,zp,zd,zh,zk,qa3,qaZ,ZZ,WW,Ze,reduceCtorEq,zd,ze,zb,zf,za]
 refine use1 (qlq l f ps q hl hfn hps hf hn hr) rfl (.inl rfl) ?_
 simp only [ZZ,WW,Ze,reduceCtorEq,zd,ze,zb,zf,za]
 rw [qjd]
end
def qdF:IC:=(.seq (.reg [qO 20 (.bin .lss (.t 19) (.t 18))]) (.seq (.cond (.t 20) .skip (.exit 0)) (.seq (.block 1 (.seq (.reg [qO 21 (.ixa 1 (.t 17) (.t 19)),qO 22 (.ld 1 false (.t 21)),qM 4 22]) (.seq (.reg [qO 5 (.mov (.f 140))]) (.seq (.reg [qM 23 4,qO 24 (.len (.t 23)),qO 25 (.bin .gtr (.t 24) (.c (.int .i64 50))),qM 26 25,⟨some 27,.mov (.t 4),(some (26,false))⟩,⟨some 28,.mov (.t 5),(some (26,false))⟩,⟨some 29,.call 84 [.t 27,.t 28],(some (26,false))⟩,qO 30 (.pick (.t 26) (.c (.bool true)) (.t 29))]) (.cond (.t 30) (.seq (.reg [qO 2 (.mov (.c (.int .i64 3)))]) .ret) .skip))))) (.reg [qO 31 (.bin .add (.t 19) (.c (.int .i64 1))),qM 19 31]))))
def qeV:IC:=(.seq (.reg [qO 1 (.box 85 (.t 0)),qO 2 (.mov (.c (.int .i64 0)))]) (.seq (.seq (.reg [qO 6 (.fla 5 (.t 1)),qO 7 (.ld 1 false (.t 6)),qO 8 (.len (.t 7)),qO 9 (.fla 4 (.t 1)),qO 10 (.ld 1 false (.t 9)),qO 11 (.fla 3 (.t 1)),qO 12 (.ld 1 false (.t 11)),qO 13 (.bin .sub (.t 10) (.t 12)),qO 14 (.bin .add (.t 13) (.c (.int .i64 1))),qO 15 (.bin .neq (.t 8) (.t 14))]) (.cond (.t 15) (.seq (.reg [qO 2 (.mov (.c (.int .i64 3)))]) .ret) .skip)) (.seq (.seq (.reg [qO 16 (.fla 5 (.t 1)),qO 17 (.ld 1 false (.t 16)),qO 18 (.len (.t 17)),qO 19 (.mov (.c (.int .i64 0)))]) (.block 0 (.loop qdF))) (.seq (.reg [qO 32 (.fla 2 (.t 1)),qO 33 (.ld 1 false (.t 32)),qO 34 (.bin .eql (.t 33) (.c (.int .i64 2))),qM 35 34,⟨some 36,.fla 2 (.t 1),(some (35,false))⟩,⟨some 37,.ld 1 false (.t 36),(some (35,false))⟩,⟨some 38,.bin .eql (.t 37) (.c (.int .i64 3)),(some (35,false))⟩,qO 39 (.pick (.t 35) (.c (.bool true)) (.t 38)),qM 40 39,⟨some 41,.fla 5 (.t 1),(some (40,true))⟩,⟨some 42,.ld 1 false (.t 41),(some (40,true))⟩,⟨some 43,.len (.t 42),(some (40,true))⟩,⟨some 44,.bin .neq (.t 43) (.c (.int .i64 1)),(some (40,true))⟩,⟨some 45,.mov (.t 44),(some (40,true))⟩,⟨some 46,.fla 5 (.t 1),(some (45,false))⟩,⟨some 47,.ld 1 false (.t 46),(some (45,false))⟩,⟨some 48,.ixa 1 (.t 47) (.c (.int .i64 0)),(some (45,false))⟩,⟨some 49,.ld 1 false (.t 48),(some (45,false))⟩,⟨some 50,.len (.t 49),(some (45,false))⟩,⟨some 51,.bin .neq (.t 50) (.c (.int .i64 1)),(some (45,false))⟩,⟨some 52,.pick (.t 45) (.c (.bool true)) (.t 51),(some (40,true))⟩,qO 53 (.pick (.t 40) (.t 52) (.c (.bool false))),qO 54 (.call 50 [.t 53,.c (.int .i64 3)]),qM 2 54]) .ret))))
def qeM:List IRes:=[.t 2]
theorem qhU:chkF Tryz.prog Tryz.f55 qeV qeM 55=true:=by kernel_rfl
def qd0:IC:=(.seq (.reg [qO 2 (.mov (.c (.bool false)))]) (.seq (.reg [qM 3 0,qO 4 (.sln (.t 3)),qO 5 (.bin .gtr (.t 4) (.c (.int .i64 80))),qM 6 5,⟨some 7,.mov (.t 0),(some (6,false))⟩,⟨some 8,.call 141 [.t 7,.c (.bool false)],(some (6,false))⟩,⟨some 9,.not (.t 8),(some (6,false))⟩,qO 10 (.pick (.t 6) (.c (.bool true)) (.t 9)),qM 2 10]) .ret))
def qdQ:List IRes:=[.t 2]
theorem qg6:chkF Tryz.prog Tryz.f140 qd0 qdQ 11=true:=by kernel_rfl
def qfW:IC:=(.seq (.reg [qO 43 (.bin .lss (.t 42) (.t 41))]) (.seq (.cond (.t 43) .skip (.exit 0)) (.seq (.block 1 (.seq (.reg [qM 44 42,qO 45 (.ixa 7 (.t 40) (.t 42)),qO 46 (.ld 7 true (.t 45)),qO 8 (.alc 85 [.str [],.str [],.int .i64 0,.int .i64 0,.int .i64 0,.nl 1,.int .i64 0]),qM 7 44,⟨none,.st 7 (.t 8) (.t 46),none⟩]) (.seq (.reg [qO 47 (.fla 1 (.t 8)),qO 48 (.ld 1 false (.t 47)),qO 49 (.fla 0 (.t 8)),qO 50 (.ld 1 false (.t 49)),qO 51 (.bin .eql (.t 48) (.t 50)),qM 9 51]) (.seq (.drg [qO 52 (.fla 0 (.t 8)),qO 53 (.ld 1 false (.t 52)),qO 54 (.pcall 0 53 [.t 53]),qO 55 (.not (.t 54)),qM 56 55,⟨some 57,.fla 1 (.t 8),(some (56,false))⟩,⟨some 58,.ld 1 false (.t 57),(some (56,false))⟩,⟨some 59,.pcall 1 53 [.t 58],(some (56,false))⟩,⟨some 60,.not (.t 59),(some (56,false))⟩,qO 61 (.pick (.t 56) (.c (.bool true)) (.t 60)),qO 62 (.pcall 2 50 [.t 61,.c (.int .i64 5)]),qM 63 4,qO 64 (.fla 0 (.t 8)),qO 65 (.ld 1 false (.t 64)),qO 66 (.mpl false (.bool false) (.t 63) (.t 65)),qO 67 (.pcall 3 50 [.t 66,.c (.int .i64 6)]),qM 68 9,qO 69 (.not (.t 68)),qM 70 69,⟨some 71,.mov (.t 7),(some (70,true))⟩,⟨some 72,.bin .eql (.t 71) (.c (.int .i64 0)),(some (70,true))⟩,⟨some 73,.mov (.t 72),(some (70,true))⟩,⟨some 74,.fla 1 (.t 8),(some (73,false))⟩,⟨some 75,.ld 1 false (.t 74),(some (73,false))⟩,⟨some 76,.fla 1 (.t 6),(some (73,false))⟩,⟨some 77,.ld 1 false (.t 76),(some (73,false))⟩,⟨some 78,.bin .neq (.t 75) (.t 77),(some (73,false))⟩,⟨some 79,.pick (.t 73) (.c (.bool true)) (.t 78),(some (70,true))⟩,qO 80 (.pick (.t 70) (.t 79) (.c (.bool false))),qO 81 (.pcall 4 50 [.t 80,.c (.int .i64 7)]),qM 82 9,qM 83 82,⟨some 84,.mov (.t 5),(some (83,true))⟩,⟨some 85,.fla 1 (.t 8),(some (83,true))⟩,⟨some 86,.ld 1 false (.t 85),(some (83,true))⟩,⟨some 87,.mpl false (.bool false) (.t 84) (.t 86),(some (83,true))⟩,qO 88 (.pick (.t 83) (.t 87) (.c (.bool false))),qO 89 (.pcall 5 50 [.t 88,.c (.int .i64 6)]),qO 90 (.fla 2 (.t 8)),qO 91 (.ld 1 false (.t 90)),qO 92 (.pcall 6 51 [.t 91,.c (.int .i64 1),.c (.int .i64 4)]),qO 93 (.not (.t 92)),qO 94 (.pcall 7 50 [.t 93,.c (.int .i64 4)]),qO 95 (.fla 6 (.t 8)),qO 96 (.ld 1 false (.t 95)),qO 97 (.pcall 8 51 [.t 96,.c (.int .i64 1),.c (.int .i64 1000)]),qO 98 (.not (.t 97)),qO 99 (.pcall 9 50 [.t 98,.c (.int .i64 1)]),qO 100 (.fla 3 (.t 8)),qO 101 (.ld 1 false (.t 100)),qO 102 (.fla 4 (.t 8)),qO 103 (.ld 1 false (.t 102)),qO 104 (.pcall 10 51 [.t 101,.c (.int .i64 1),.t 103]),qO 105 (.not (.t 104)),qM 106 105,⟨some 107,.fla 4 (.t 8),(some (106,false))⟩,⟨some 108,.ld 1 false (.t 107),(some (106,false))⟩,⟨some 109,.fla 2 (.t 1),(some (106,false))⟩,⟨some 110,.ld 1 false (.t 109),(some (106,false))⟩,⟨some 111,.pcall 11 54 [.t 110],(some (106,false))⟩,⟨some 112,.bin .sub (.t 111) (.c (.int .i64 1)),(some (106,false))⟩,⟨some 113,.bin .gtr (.t 108) (.t 112),(some (106,false))⟩,qO 114 (.pick (.t 106) (.c (.bool true)) (.t 113)),qM 115 114,⟨some 116,.mov (.t 7),(some (115,false))⟩,⟨some 117,.bin .gtr (.t 116) (.c (.int .i64 0)),(some (115,false))⟩,⟨some 118,.mov (.t 117),(some (115,false))⟩,⟨some 119,.fla 3 (.t 8),(some (118,true))⟩,⟨some 120,.ld 1 false (.t 119),(some (118,true))⟩,⟨some 121,.fla 4 (.t 6),(some (118,true))⟩,⟨some 122,.ld 1 false (.t 121),(some (118,true))⟩,⟨some 123,.bin .add (.t 122) (.c (.int .i64 1)),(some (118,true))⟩,⟨some 124,.bin .neq (.t 120) (.t 123),(some (118,true))⟩,⟨some 125,.pick (.t 118) (.t 124) (.c (.bool false)),(some (115,false))⟩,qO 126 (.pick (.t 115) (.c (.bool true)) (.t 125)),qO 127 (.pcall 12 50 [.t 126,.c (.int .i64 1)]),qO 128 (.bsl 1 [.t 62,.t 67,.t 81,.t 89,.t 94,.t 99,.t 127]),qO 129 (.pcall 13 49 [.t 128]),qM 10 129]) (.seq (.seq (.reg [qM 130 10,qO 131 (.bin .eql (.t 130) (.c (.int .i64 0)))]) (.cond (.t 131) (.reg [qO 132 (.ld 7 true (.t 8)),qO 133 (.call 55 [.t 132]),qM 10 133]) .skip)) (.cut (.seq (.seq (.reg [qM 134 10,qO 135 (.bin .neq (.t 134) (.c (.int .i64 0)))]) (.cond (.t 135) (.seq (.reg [qM 136 10,qM 2 136]) .ret) .skip)) (.seq (.drg [qM 137 4,qO 138 (.fla 0 (.t 8)),qO 139 (.ld 1 false (.t 138)),qM 140 5,qO 141 (.fla 1 (.t 8)),qO 142 (.ldn 36 1 false (.t 141)),⟨none,.mpk 36 (.t 137) (.t 139) (.c (.bool true)),none⟩,⟨none,.mpu (.t 140) (.t 142) (.c (.bool true)),none⟩]) (.reg [qO 143 (.ld 7 true (.t 8)),⟨none,.st 7 (.t 6) (.t 143),none⟩]))))))))) (.reg [qO 144 (.bin .add (.t 42) (.c (.int .i64 1))),qM 42 144]))))
def qhr:IC:=(.seq (.reg [qO 1 (.box 36 (.t 0)),qO 2 (.mov (.c (.int .i64 0)))]) (.seq (.drg [qO 11 (.fla 0 (.t 1)),qO 12 (.ld 1 false (.t 11)),qO 13 (.pcall 0 51 [.t 12,.c (.int .i64 1),.c (.int .i64 200)]),qO 14 (.not (.t 13)),qO 15 (.pcall 1 50 [.t 14,.c (.int .i64 1)]),qO 16 (.fla 1 (.t 1)),qO 17 (.ld 1 false (.t 16)),qO 18 (.fla 2 (.t 1)),qO 19 (.ld 1 false (.t 18)),qO 20 (.pcall 2 52 [.t 17,.t 19]),qO 21 (.fla 3 (.t 1)),qO 22 (.ld 1 false (.t 21)),qO 23 (.len (.t 22)),qO 24 (.bin .eql (.t 23) (.c (.int .i64 0))),qO 25 (.pcall 3 50 [.t 24,.c (.int .i64 8)]),qO 26 (.fla 3 (.t 1)),qO 27 (.ld 1 false (.t 26)),qO 28 (.len (.t 27)),qO 29 (.bin .gtr (.t 28) (.c (.int .i64 2000))),qO 30 (.pcall 4 50 [.t 29,.c (.int .i64 2)]),qO 31 (.bsl 1 [.t 15,.t 20,.t 25,.t 30]),qO 32 (.pcall 5 49 [.t 31]),qM 3 32]) (.seq (.seq (.reg [qM 33 3,qO 34 (.bin .neq (.t 33) (.c (.int .i64 0)))]) (.cond (.t 34) (.seq (.reg [qM 35 3,qM 2 35]) .ret) .skip)) (.seq (.reg [qO 36 (.mkm 9 4),qO 37 (.mkm 9 4),qM 4 36,qM 5 37]) (.seq (.reg [qO 38 (.bld [.str [],.str [],.int .i64 0,.int .i64 0,.int .i64 0,.nl 1,.int .i64 0] []),qO 6 (.alc 85 [.str [],.str [],.int .i64 0,.int .i64 0,.int .i64 0,.nl 1,.int .i64 0]),⟨none,.st 7 (.t 6) (.t 38),none⟩]) (.seq (.seq (.reg [qO 39 (.fla 3 (.t 1)),qO 40 (.ld 1 false (.t 39)),qO 41 (.len (.t 40)),qO 42 (.mov (.c (.int .i64 0)))]) (.block 0 (.loop qfW))) (.seq (.reg [qO 2 (.mov (.c (.int .i64 0)))]) .ret)))))))
def qhn:List IRes:=[.t 2]
theorem qkd:chkF Tryz.prog Tryz.f12 qhr qhn 145=true:=by kernel_rfl
abbrev qbA:Nat:=85
abbrev tPrd:Nat:=36
theorem qrw (s:List UInt8) (hs:s.length≤1000000000):PCall Tryz.prog E0 140 [.str s] (·=.bool (qst s)):=by
 refine qag mixed Tryz.func140 qg6 ?_
 simp only [a0,l0,OS.ao,zj,zo,zi,zn,zl,zm,zp,zd,zh,zk,qd0,qdQ,ZZ,WW,Ze,reduceCtorEq,zd,ze,zb,zf,za]
 refine useG (fun _=>qqD s false hs) rfl (.inl rfl) ?_
 simp only [ZZ,WW,Ze,reduceCtorEq,zd,ze,zb,zf,za]
 exact ⟨fun h=>by rw [h];rfl,rfl⟩
theorem qmr (x:Sht) (hx:ShB x):PCall Tryz.prog E0 55 [.agg (shV x)] (·=int (pgsE x)):=by
 obtain ⟨id,top,kd,fr0,to0,pg,ver⟩:=x
 obtain ⟨b1,b2,b3,b4,b5,b6,b7,b8⟩:=hx
 simp only at b1 b2 b3 b4 b5 b6 b7 b8
 have hs:pgsE ⟨id,top,kd,fr0,to0,pg,ver⟩=if ¬ ((pg.length:Int)=to0 - fr0+1) then 3 else if pg.any qmX=true then 3 else qaj ((decide (kd=2) || decide (kd=3)) && (!decide ((pg.length:Int)=1) || !decide (((pg.getD 0 []).length:Int)=1))) 3:=rfl
 rw [hs]
 clear hs
 refine qag mixed Tryz.func55 qhU ?_
 simp only [a0,l0,OS.ao,zj,zo,zi,zn,zl,zm,zp,zd,zh,zk,qeV,qeM,ZZ,WW,Ze,reduceCtorEq,zd,ze,zb,zf,za]
 simp only [shV,ZZ,WW,Ze,reduceCtorEq,zd,ze,zb,zf,za]
 simp only [ZZ,WW,Ze,reduceCtorEq,zd,ze,zb,zf,za,qaP]
 refine ⟨qar (by omega) (by omega),qar (by omega) (by omega),?_⟩
 refine br ?_ ?_
 ·intro h
  simp only [ZZ,WW,Ze,reduceCtorEq,zd,ze,zb,zf,za]
  rw [if_pos (by simpa using h)]
 intro h
 rw [if_neg (by simpa using h)]
 simp only [ZZ,WW,Ze,reduceCtorEq,zd,ze,zb,zf,za,qaP]
 refine qad (fun n fr L=>∃ (k:Nat),k≤pg.length∧n=pg.length - k∧(∀ p∈pg.take k,qmX p=false)∧fr=[oo,.adr (.l 1) 0,oo,oo,oo,oo,oo,oo,oo,oo,oo,oo,oo,oo,oo,oo,oo,.p (.sl 1 (tbE pg)),.p (int (pg.length:Nat)),.p (int (k:Nat)),oo,oo,oo,oo,oo,oo,oo,oo,oo,oo,oo,oo,oo,oo,oo,oo,oo,oo,oo,oo,oo,oo,oo,oo,oo,oo,oo,oo,oo,oo,oo,oo,oo,oo,oo]∧L=[(.l 1,.box [.p (.str id),.p (.str top),.p (int kd),.p (int fr0),.p (int to0),.p (.sl 1 (tbE pg)),.p (int ver)] qbA)]) (pg.length) [oo,.adr (.l 1) 0,oo,oo,oo,oo,oo,oo,oo,oo,oo,oo,oo,oo,oo,oo,oo,.p (.sl 1 (tbE pg)),.p (int (pg.length:Nat)),.p (int (0:Nat)),oo,oo,oo,oo,oo,oo,oo,oo,oo,oo,oo,oo,oo,oo,oo,oo,oo,oo,oo,oo,oo,oo,oo,oo,oo,oo,oo,oo,oo,oo,oo,oo,oo,oo,oo] [(.l 1,.box [.p (.str id),.p (.str top),.p (int kd),.p (int fr0),.p (int to0),.p (.sl 1 (tbE pg)),.p (int ver)] qbA)] (by simp only [ZZ,WW,Ze,reduceCtorEq,zd,ze,zb,zf,za,qaP];try trivial) (by (simp only [ZZ,WW,Ze,reduceCtorEq,zd,ze,zb,zf,za];try trivial)) ⟨0,by omega,by omega,by simp,rfl,rfl⟩ ?_
 rintro n fr L ⟨k,hk,rfl,hno,rfl,rfl⟩
 simp only [qdF,ZZ,WW,Ze,reduceCtorEq,zd,ze,zb,zf,za]
 refine br ?_ ?_
 ·intro h2
  have hlt:k < pg.length:=by have:=of_decide_eq_true h2;omega
  obtain ⟨p,hp⟩:∃ p,pg[k]?=some p:=⟨_,List.getElem?_eq_getElem hlt⟩
  have hg:=qkz hp
  obtain ⟨c1,c2⟩:=b7 p (List.mem_of_getElem? hp)
  simp only [ZZ,WW,Ze,reduceCtorEq,zd,ze,zb,zf,za,hg,qaP,qal]
  ((repeat' (with_reducible apply And.intro))<;>try ((exact sc_)))
  refine useG (fun _=>qfi p 140 [] qst (by omega) (fun _=>by kernel_rfl) rfl (fun z hz=>qrw z (by have:=c2 z hz;omega)) (fun _=>rfl) (fun _=>rfl)) rfl (.inr rfl) ?_
  simp only [ZZ,WW,Ze,reduceCtorEq,zd,ze,zb,zf,za]
  refine ⟨fun h=>by rw [h];rfl,?_⟩
  refine br ?_ ?_
  ·intro h3
   have h4:pg.any qmX=true:=List.any_eq_true.2 ⟨p,List.mem_of_getElem? hp,h3⟩
   simp only [ZZ,WW,Ze,reduceCtorEq,zd,ze,zb,zf,za]
   rw [if_pos h4]
  ·intro h3
   simp only [ZZ,WW,Ze,reduceCtorEq,zd,ze,zb,zf,za]
   ((repeat' (with_reducible apply And.intro))<;>try ((exact sc_)))
   refine qac (pg.length - (k+1)) [oo,.adr (.l 1) 0,oo,oo,oo,oo,oo,oo,oo,oo,oo,oo,oo,oo,oo,oo,oo,.p (.sl 1 (tbE pg)),.p (int (pg.length:Nat)),.p (int ((k+1):Nat)),oo,oo,oo,oo,oo,oo,oo,oo,oo,oo,oo,oo,oo,oo,oo,oo,oo,oo,oo,oo,oo,oo,oo,oo,oo,oo,oo,oo,oo,oo,oo,oo,oo,oo,oo] [(.l 1,.box [.p (.str id),.p (.str top),.p (int kd),.p (int fr0),.p (int to0),.p (.sl 1 (tbE pg)),.p (int ver)] qbA)] (by omega) (by (simp only [ZZ,WW,Ze,reduceCtorEq,zd,ze,zb,zf,za];try trivial)) (by (simp only [ZZ,WW,Ze,reduceCtorEq,zd,ze,zb,zf,za];try trivial)) ⟨k+1,by omega,rfl,by rw [List.take_succ_eq_append_getElem hlt];intro y hy;rcases List.mem_append.1 hy with hy|hy;exact hno y hy;rw [List.mem_singleton] at hy;rw [hy,(List.getElem?_eq_some_iff.1 hp).2];exact h3,rfl,rfl⟩
 intro h2
 have hge:pg.length≤k:=by have:=of_decide_eq_false h2;omega
 rw [List.take_of_length_le hge] at hno
 have h4:pg.any qmX=false:=by
  rw [List.any_eq_false]
  intro p hp
  rw [hno p hp]
  simp
 rw [if_neg (by rw [h4];simp)]
 have hg0:0 < pg.length→(tbE pg).getD 0 []=[.sl 1 (strE (pg.getD 0 []))]:=fun h=>by
  obtain ⟨p,hp⟩:∃ p,pg[0]?=some p:=⟨_,List.getElem?_eq_getElem h⟩
  rw [qkz hp]
  simp [zt,hp]
 have e0:Int.toNat 0=0:=rfl
 have hnq:decide (kd=2)=false→(!decide (kd=2))=true:=fun h=>by rw [h];rfl
 by_cases hl1:pg.length=1
 ·have hg:=hg0 (by omega)
  have e1:decide ((pg.length:Int)=1)=true:=by rw [hl1];rfl
  rw [e1]
  simp only [ZZ,WW,Ze,reduceCtorEq,zd,ze,zb,zf,za,qaP,e1]
  generalize (decide (kd=2) || decide (kd=3))=q
  cases q
  all_goals
   simp only [ZZ,WW,Ze,reduceCtorEq,zd,ze,zb,zf,za,qaP,e0,hg,e1,qal,decide_true,Bool.not_true,Bool.false_or,Bool.or_false,Bool.or_self,Bool.and_self,Bool.true_and,Bool.false_and,false_implies]
   refine ⟨hnq,?_⟩
   ((repeat' (with_reducible apply And.intro))<;>try ((exact sc_)))
   refine use1 (qfh _ 3) rfl (.inl rfl) ?_
   simp only [ZZ,WW,Ze,reduceCtorEq,zd,ze,zb,zf,za]
   try rfl
 ·have e1:decide ((pg.length:Int)=1)=false:=by rw [decide_eq_false_iff_not];omega
  rw [e1]
  rcases Nat.eq_zero_or_pos pg.length with hz|hz
  ·have hg:(tbE pg).getD 0 []=[]:=by
    have:pg=[]:=zq hz
    rw [this]
    rfl
   simp only [ZZ,WW,Ze,reduceCtorEq,zd,ze,zb,zf,za,qaP,e1]
   generalize (decide (kd=2) || decide (kd=3))=q
   cases q
   all_goals
    simp only [ZZ,WW,Ze,reduceCtorEq,zd,ze,zb,zf,za,qaP,e0,hg,e1,qal,decide_false,Bool.not_false,Bool.true_or,Bool.or_true,Bool.and_self,Bool.true_and,Bool.false_and,false_implies]
    refine ⟨hnq,?_⟩
    ((repeat' (with_reducible apply And.intro))<;>try ((exact sc_)))
    refine use1 (qfh _ 3) rfl (.inl rfl) ?_
    simp only [ZZ,WW,Ze,reduceCtorEq,zd,ze,zb,zf,za]
    try rfl
  ·have hg:=hg0 hz
   simp only [ZZ,WW,Ze,reduceCtorEq,zd,ze,zb,zf,za,qaP,e1]
   generalize (decide (kd=2) || decide (kd=3))=q
   cases q
   all_goals
    simp only [ZZ,WW,Ze,reduceCtorEq,zd,ze,zb,zf,za,qaP,e0,hg,e1,qal,decide_false,Bool.not_false,Bool.true_or,Bool.or_true,Bool.and_self,Bool.true_and,Bool.false_and,false_implies]
    refine ⟨hnq,?_⟩
    ((repeat' (with_reducible apply And.intro))<;>try ((exact sc_)))
    refine use1 (qfh _ 3) rfl (.inl rfl) ?_
    simp only [ZZ,WW,Ze,reduceCtorEq,zd,ze,zb,zf,za]
    try rfl
theorem qkZ {p:List UInt8} {d:Int} (h:qe6 p d=0):4≤d∧d≤9:=by
 have:=qaL h (qaj (!inE d 4 9) 1) (by simp)
 rw [qh9 (by decide)] at this
 simp only [Bool.not_eq_false',inE,Bool.and_eq_true,decide_eq_true_eq,Bool.not_eq_true',decide_eq_false_iff_not] at this
 omega
def qrL (f:Sht→List UInt8) (kv:List (List UInt8×PV)) (l:List Sht):Prop:=∀ s,mpD kv s (.bool false)=.bool (l.any fun y=>decide (f y=s))
theorem qnG (f:Sht→List UInt8):qrL f [] []:=fun s=>rfl
theorem qnF {f:Sht→List UInt8} {kv:List (List UInt8×PV)} {l:List Sht} (h:qrL f kv l) (x:Sht):qrL f (mpS kv (f x) (.bool true)) (l++[x]):=fun s=>by
 have h:=h s
 unfold mpD at h ⊢
 rw [qiG,List.any_append]
 by_cases hs:f x=s
 ·simp [hs]
 ·rw [if_neg hs,h]
  simp [hs]
theorem qra (dig:Int) (l:List Sht) {k:Nat} (h:k < l.length):((List.range l.length).map (shP dig l))[k]?=some (shP dig l k):=by
 rw [List.getElem?_map,List.getElem?_range h];rfl
set_option maxHeartbeats 8000000 in
set_option maxRecDepth 100000 in
theorem qp9 (p:Prd) (hp:PdB p):PCall Tryz.prog E0 12 [.agg (pdV p)] (·=int (prdF p)):=by
 obtain ⟨no,pre,dig,shs⟩:=p
 obtain ⟨b1,b2,b3,b4,b5⟩:=hp
 simp only at b1 b2 b3 b4 b5
 have hs:prdF ⟨no,pre,dig,shs⟩=qaf [qaj (!inE no 1 200) 1,qe6 pre dig,qaj (decide (shs.length=0)) 8,qaj (decide (2000 < shs.length)) 2,qaf ((List.range shs.length).map (shP dig shs))]:=rfl
 have e8:decide ((shs.length:Int)=0)=decide (shs.length=0):=decide_eq_decide.2 (by omega)
 have e2:decide ((2000:Int) < (shs.length:Int))=decide (2000 < shs.length):=decide_eq_decide.2 (by omega)
 rw [hs]
 clear hs
 refine qag mixed Tryz.func12 qkd ?_
 simp only [a0,l0,OS.ao,zj,zo,zi,zn,zl,zm,zp,zd,zh,zk,qhr,qhn,ZZ,WW,Ze,reduceCtorEq,zd,ze,zb,zf,za]
 simp only [pdV,ZZ,WW,Ze,reduceCtorEq,zd,ze,zb,zf,za]
 refine ⟨[.bool (inE no 1 200),int (qaj (!inE no 1 200) 1),int (qe6 pre dig),int (qaj (decide (shs.length=0)) 8),int (qaj (decide (2000 < shs.length)) 2),int (qaf [qaj (!inE no 1 200) 1,qe6 pre dig,qaj (decide (shs.length=0)) 8,qaj (decide (2000 < shs.length)) 2])],?_⟩
 simp only [ZZ,WW,Ze,reduceCtorEq,zd,ze,zb,zf,za,qah,e8,e2]
 refine ⟨usep (qqK _ _ _) rfl (.inl rfl),usep (qfh _ 1) rfl (.inl rfl),usep (qjW pre dig (by omega)) rfl (.inl rfl),usep (qfh _ 8) rfl (.inl rfl),usep (qfh _ 2) rfl (.inl rfl),usep (qij [qaj (!inE no 1 200) 1,qe6 pre dig,qaj (decide (shs.length=0)) 8,qaj (decide (2000 < shs.length)) 2] (by simp)) rfl (.inl rfl),?_⟩
 have hpre:∀ a b c d z:Int,qaf [a,b,c,d,z]=if qaf [a,b,c,d]=0 then z else qaf [a,b,c,d]:=by
  intro a b c d z
  simp only [qaf]
  by_cases h1:a=0<;>by_cases h2:b=0<;>by_cases h3:c=0<;>by_cases h4:d=0<;>by_cases h5:z=0<;>simp [h1,h2,h3,h4,h5]
 rw [hpre]
 refine br ?_ ?_
 ·intro h
  have h1:¬ qaf [qaj (!inE no 1 200) 1,qe6 pre dig,qaj (decide (shs.length=0)) 8,qaj (decide (2000 < shs.length)) 2]=0:=by simpa using h
  rw [if_neg h1]
  simp only [ZZ,WW,Ze,reduceCtorEq,zd,ze,zb,zf,za]
  done
 intro h
 have h1:qaf [qaj (!inE no 1 200) 1,qe6 pre dig,qaj (decide (shs.length=0)) 8,qaj (decide (2000 < shs.length)) 2]=0:=by simpa using h
 rw [if_pos h1]
 have hhd:qe6 pre dig=0:=qaL h1 _ (by simp)
 have hd:4≤dig∧dig≤9:=qkZ hhd
 clear h h1 hpre e8 e2
 have hget:=fun {k:Nat} (h:k < shs.length)=>qbr _ k _ (qra dig shs h)
 obtain ⟨G,hG⟩:∃ G,(List.range shs.length).map (shP dig shs)=G:=⟨_,rfl⟩
 have hGl:G.length=shs.length:=by rw [← hG];simp
 rw [hG] at hget ⊢
 simp only [ZZ,WW,Ze,reduceCtorEq,zd,ze,zb,zf,za,qah]
 refine qad (fun n fr L=>∃ (k:Nat) (b:Sht) (c5:PV) (kv:List (List UInt8×PV)) (kw:List (List UInt8×PV)),k≤shs.length∧n=shs.length - k∧(qaf G=qaf (G.drop k))∧(0 < k→b=shs.getD (k - 1) sh0)∧(ShB b)∧(qrL (·.id) kv (shs.take k))∧(qrL (·.top) kw (shs.take k))∧fr=[oo,.adr (.l 1) 0,oo,oo,.mp (.l 36),.mp (.l 37),.adr (.l 6) 0,oo,oo,oo,oo,oo,oo,oo,oo,oo,oo,oo,oo,oo,oo,oo,oo,oo,oo,oo,oo,oo,oo,oo,oo,oo,oo,oo,oo,oo,oo,oo,oo,oo,.p (.sl 7 (shE shs)),.p (int (shs.length:Nat)),.p (int (k:Nat)),oo,oo,oo,oo,oo,oo,oo,oo,oo,oo,oo,oo,oo,oo,oo,oo,oo,oo,oo,oo,oo,oo,oo,oo,oo,oo,oo,oo,oo,oo,oo,oo,oo,oo,oo,oo,oo,oo,oo,oo,oo,oo,oo,oo,oo,oo,oo,oo,oo,oo,oo,oo,oo,oo,oo,oo,oo,oo,oo,oo,oo,oo,oo,oo,oo,oo,oo,oo,oo,oo,oo,oo,oo,oo,oo,oo,oo,oo,oo,oo,oo,oo,oo,oo,oo,oo,oo,oo,oo,oo,oo,oo,oo,oo,oo,oo,oo,oo,oo,oo,oo,oo]∧L=[(.l 1,.box [.p (int no),.p (.str pre),.p (int dig),.p (.sl 7 (shE shs))] tPrd),(.l 36,.map kv 9 4),(.l 37,.map kw 9 4),(.l 6,.box [.p (.str b.id),.p (.str b.top),.p (int b.kind),.p (int b.fr_),.p (int b.to_),.p c5,.p (int b.ver)] qbA)]) (shs.length) [oo,.adr (.l 1) 0,oo,oo,.mp (.l 36),.mp (.l 37),.adr (.l 6) 0,oo,oo,oo,oo,oo,oo,oo,oo,oo,oo,oo,oo,oo,oo,oo,oo,oo,oo,oo,oo,oo,oo,oo,oo,oo,oo,oo,oo,oo,oo,oo,oo,oo,.p (.sl 7 (shE shs)),.p (int (shs.length:Nat)),.p (int (0:Nat)),oo,oo,oo,oo,oo,oo,oo,oo,oo,oo,oo,oo,oo,oo,oo,oo,oo,oo,oo,oo,oo,oo,oo,oo,oo,oo,oo,oo,oo,oo,oo,oo,oo,oo,oo,oo,oo,oo,oo,oo,oo,oo,oo,oo,oo,oo,oo,oo,oo,oo,oo,oo,oo,oo,oo,oo,oo,oo,oo,oo,oo,oo,oo,oo,oo,oo,oo,oo,oo,oo,oo,oo,oo,oo,oo,oo,oo,oo,oo,oo,oo,oo,oo,oo,oo,oo,oo,oo,oo,oo,oo,oo,oo,oo,oo,oo,oo,oo,oo,oo,oo,oo] [(.l 1,.box [.p (int no),.p (.str pre),.p (int dig),.p (.sl 7 (shE shs))] tPrd),(.l 36,.map [] 9 4),(.l 37,.map [] 9 4),(.l 6,.box [.p (.str sh0.id),.p (.str sh0.top),.p (int sh0.kind),.p (int sh0.fr_),.p (int sh0.to_),.p (.nl 1),.p (int sh0.ver)] qbA)] (by simp only [ZZ,WW,Ze,reduceCtorEq,zd,ze,zb,zf,za,qah];try trivial) (by simp only [sh0,ZZ,WW,Ze,reduceCtorEq,zd,ze,zb,zf,za]) ⟨0,sh0,.nl 1,[],[],by omega,by omega,rfl,(fun h=>by omega),qyA,qnG _,qnG _,rfl,rfl⟩ ?_
 rintro n fr L ⟨k,b,c5,kv,kw,hk,rfl,hF,hb,hbB,hkv,hkw,rfl,rfl⟩
 simp only [qfW,ZZ,WW,Ze,reduceCtorEq,zd,ze,zb,zf,za]
 refine br ?_ ?_
 rotate_left
 ·intro h
  have hge:shs.length≤k:=by have:=of_decide_eq_false h;omega
  simp only [ZZ,WW,Ze,reduceCtorEq,zd,ze,zb,zf,za]
  rw [hF,List.drop_eq_nil_of_le (by omega)]
  rfl
 intro h
 have hlt:k < shs.length:=by have:=of_decide_eq_true h;omega
 obtain ⟨x,hx⟩:∃ x,shs[k]?=some x:=⟨_,List.getElem?_eq_getElem hlt⟩
 have hg:=qfb hx
 simp only [shV] at hg
 have hxB:=b5 x (List.mem_of_getElem? hx)
 have hxd:shs.getD k sh0=x:=by simp [zt,hx]
 have htk:shs.take (k+1)=shs.take k++[x]:=by rw [List.take_succ_eq_append_getElem hlt,(List.getElem?_eq_some_iff.1 hx).2]
 have hdr:=hget hlt
 have k0:decide ((k:Int)=0)=decide (k=0):=decide_eq_decide.2 (by omega)
 have kp:decide ((0:Int) < (k:Int))=decide (0 < k):=decide_eq_decide.2 (by omega)
 have hA:shA dig shs k=qaf [qaj (!keyB x.id || !keyB x.top) 5,qaj ((shs.take k).any fun y=>decide (y.id=x.id)) 6,qaj (!decide (x.top=x.id) && (decide (k=0) || !decide (x.top=b.top))) 7,qaj (decide (x.top=x.id) && (shs.take k).any fun y=>decide (y.top=x.top)) 6,qaj (!inE x.kind 1 4) 4,qaj (!inE x.ver 1 1000) 1,qaj (!inE x.fr_ 1 x.to_ || decide (powF dig - 1 < x.to_) || (decide (0 < k) && !decide (x.fr_=b.to_+1))) 1]:=by
  unfold shA
  simp only [hxd]
  rcases Nat.eq_zero_or_pos k with hk0|hk0
  ·have z1:decide (0 < k)=false:=by rw [decide_eq_false_iff_not];omega
   have z2:decide (k=0)=true:=by rw [decide_eq_true_eq];omega
   simp only [z1,z2,Bool.true_or,Bool.false_and]
  ·rw [hb hk0]
 have m1:=hkv x.id
 have m2:=hkw x.top
 have p1:=qnF hkv x
 have p2:=qnF hkw x
 rw [← htk] at p1 p2
 have hpw:=qkR hd.2
 have hxp:=qmr x hxB
 simp only [shV] at hxp
 obtain ⟨x1,x2,x3,x4,x5,x6,x7,x8⟩:=hxB
 have hb5:=hbB.to_
 simp only [ZZ,WW,Ze,reduceCtorEq,zd,ze,zb,zf,za,hg,qah]
 ((repeat' (with_reducible apply And.intro))<;>try ((exact sc_)))
 refine ⟨[.bool (keyB x.id),.bool (keyB x.top),int (qaj (!keyB x.id || !keyB x.top) 5),int (qaj ((shs.take k).any fun y=>decide (y.id=x.id)) 6),int (qaj (!decide (x.top=x.id) && (decide (k=0) || !decide (x.top=b.top))) 7),int (qaj (decide (x.top=x.id) && (shs.take k).any fun y=>decide (y.top=x.top)) 6),.bool (inE x.kind 1 4),int (qaj (!inE x.kind 1 4) 4),.bool (inE x.ver 1 1000),int (qaj (!inE x.ver 1 1000) 1),.bool (inE x.fr_ 1 x.to_),int (powF dig),int (qaj (!inE x.fr_ 1 x.to_ || decide (powF dig - 1 < x.to_) || (decide (0 < k) && !decide (x.fr_=b.to_+1))) 1),int (shA dig shs k)],?_⟩
 simp only [ZZ,WW,Ze,reduceCtorEq,zd,ze,zb,zf,za,m1,m2,k0,kp]
 (repeat' (with_reducible apply And.intro))
 all_goals try (first|exact usep (qfh _ _) rfl (.inl rfl)|exact usep (qqK _ _ _) rfl (.inl rfl)|exact usep (quY _ (by omega)) rfl (.inl rfl)|exact fun hq=>⟨hq,usep (quY _ (by omega)) rfl (.inl rfl)⟩|exact fun hq=>⟨hq,usep (qpD dig (by omega) (by omega)) rfl (.inl rfl)⟩|exact usep (qij [_,_,_,_,_,_,_] (by simp)) rfl (.inl rfl)|(intro hq;rw [hq];rfl)|(intro hq;simp [hq];done))
 all_goals try (first|exact fun hq=>⟨hq,qar (by omega) (by omega)⟩|(rw [hA];exact usep (qij [_,_,_,_,_,_,_] (by simp)) rfl (.inl rfl)))
 have hxd2:shP dig shs k=if shA dig shs k=0 then pgsE x else shA dig shs k:=by unfold shP;rw [hxd]
 refine qk7 (fun fr L=>fr=[oo,.adr (.l 1) 0,oo,oo,.mp (.l 36),.mp (.l 37),.adr (.l 6) 0,.p (int (k:Nat)),.adr (.l 8) 0,oo,.p (int (shP dig shs k)),oo,oo,oo,oo,oo,oo,oo,oo,oo,oo,oo,oo,oo,oo,oo,oo,oo,oo,oo,oo,oo,oo,oo,oo,oo,oo,oo,oo,oo,.p (.sl 7 (shE shs)),.p (int (shs.length:Nat)),.p (int (k:Nat)),oo,oo,oo,oo,oo,oo,oo,oo,oo,oo,oo,oo,oo,oo,oo,oo,oo,oo,oo,oo,oo,oo,oo,oo,oo,oo,oo,oo,oo,oo,oo,oo,oo,oo,oo,oo,oo,oo,oo,oo,oo,oo,oo,oo,oo,oo,oo,oo,oo,oo,oo,oo,oo,oo,oo,oo,oo,oo,oo,oo,oo,oo,oo,oo,oo,oo,oo,oo,oo,oo,oo,oo,oo,oo,oo,oo,oo,oo,oo,oo,oo,oo,oo,oo,oo,oo,oo,oo,oo,oo,oo,oo,oo,oo,oo,oo,oo,oo,oo,oo,oo,oo]∧L=[(.l 1,.box [.p (int no),.p (.str pre),.p (int dig),.p (.sl 7 (shE shs))] tPrd),(.l 36,.map kv 9 4),(.l 37,.map kw 9 4),(.l 6,.box [.p (.str b.id),.p (.str b.top),.p (int b.kind),.p (int b.fr_),.p (int b.to_),.p c5,.p (int b.ver)] qbA),(.l 8,.box [.p (.str x.id),.p (.str x.top),.p (int x.kind),.p (int x.fr_),.p (int x.to_),.p (.sl 1 (tbE x.pages)),.p (int x.ver)] qbA)]) ?_ ?_ ?_
 ·intro h2
  have h3:shA dig shs k=0:=by simpa using h2
  rw [hxd2,if_pos h3]
  simp only [ZZ,WW,Ze,reduceCtorEq,zd,ze,zb,zf,za]
  refine use1 hxp rfl (.inl rfl) ?_
  simp only [ZZ,WW,Ze,reduceCtorEq,zd,ze,zb,zf,za]
  exact qhF [oo,.adr (.l 1) 0,oo,oo,.mp (.l 36),.mp (.l 37),.adr (.l 6) 0,.p (int (k:Nat)),.adr (.l 8) 0,oo,.p (int (pgsE x)),oo,oo,oo,oo,oo,oo,oo,oo,oo,oo,oo,oo,oo,oo,oo,oo,oo,oo,oo,oo,oo,oo,oo,oo,oo,oo,oo,oo,oo,.p (.sl 7 (shE shs)),.p (int (shs.length:Nat)),.p (int (k:Nat)),oo,oo,oo,oo,oo,oo,oo,oo,oo,oo,oo,oo,oo,oo,oo,oo,oo,oo,oo,oo,oo,oo,oo,oo,oo,oo,oo,oo,oo,oo,oo,oo,oo,oo,oo,oo,oo,oo,oo,oo,oo,oo,oo,oo,oo,oo,oo,oo,oo,oo,oo,oo,oo,oo,oo,oo,oo,oo,oo,oo,oo,oo,oo,oo,oo,oo,oo,oo,oo,oo,oo,oo,oo,oo,oo,oo,oo,oo,oo,oo,oo,oo,oo,oo,oo,oo,oo,oo,oo,oo,oo,oo,oo,oo,oo,oo,oo,oo,oo,oo,oo,oo] [(.l 1,.box [.p (int no),.p (.str pre),.p (int dig),.p (.sl 7 (shE shs))] tPrd),(.l 36,.map kv 9 4),(.l 37,.map kw 9 4),(.l 6,.box [.p (.str b.id),.p (.str b.top),.p (int b.kind),.p (int b.fr_),.p (int b.to_),.p c5,.p (int b.ver)] qbA),(.l 8,.box [.p (.str x.id),.p (.str x.top),.p (int x.kind),.p (int x.fr_),.p (int x.to_),.p (.sl 1 (tbE x.pages)),.p (int x.ver)] qbA)] (by (simp only [ZZ,WW,Ze,reduceCtorEq,zd,ze,zb,zf,za];try trivial)) zE_ ⟨rfl,rfl⟩
 ·intro h2
  have h3:¬ shA dig shs k=0:=by simpa using h2
  rw [hxd2,if_neg h3]
  simp only [ZZ,WW,Ze,reduceCtorEq,zd,ze,zb,zf,za]
  exact qhF [oo,.adr (.l 1) 0,oo,oo,.mp (.l 36),.mp (.l 37),.adr (.l 6) 0,.p (int (k:Nat)),.adr (.l 8) 0,oo,.p (int (shA dig shs k)),oo,oo,oo,oo,oo,oo,oo,oo,oo,oo,oo,oo,oo,oo,oo,oo,oo,oo,oo,oo,oo,oo,oo,oo,oo,oo,oo,oo,oo,.p (.sl 7 (shE shs)),.p (int (shs.length:Nat)),.p (int (k:Nat)),oo,oo,oo,oo,oo,oo,oo,oo,oo,oo,oo,oo,oo,oo,oo,oo,oo,oo,oo,oo,oo,oo,oo,oo,oo,oo,oo,oo,oo,oo,oo,oo,oo,oo,oo,oo,oo,oo,oo,oo,oo,oo,oo,oo,oo,oo,oo,oo,oo,oo,oo,oo,oo,oo,oo,oo,oo,oo,oo,oo,oo,oo,oo,oo,oo,oo,oo,oo,oo,oo,oo,oo,oo,oo,oo,oo,oo,oo,oo,oo,oo,oo,oo,oo,oo,oo,oo,oo,oo,oo,oo,oo,oo,oo,oo,oo,oo,oo,oo,oo,oo,oo] [(.l 1,.box [.p (int no),.p (.str pre),.p (int dig),.p (.sl 7 (shE shs))] tPrd),(.l 36,.map kv 9 4),(.l 37,.map kw 9 4),(.l 6,.box [.p (.str b.id),.p (.str b.top),.p (int b.kind),.p (int b.fr_),.p (int b.to_),.p c5,.p (int b.ver)] qbA),(.l 8,.box [.p (.str x.id),.p (.str x.top),.p (int x.kind),.p (int x.fr_),.p (int x.to_),.p (.sl 1 (tbE x.pages)),.p (int x.ver)] qbA)] (by (simp only [ZZ,WW,Ze,reduceCtorEq,zd,ze,zb,zf,za];try trivial)) zE_ ⟨rfl,rfl⟩
 rintro fr L ⟨rfl,rfl⟩
 clear hxp hA hxd2
 simp only [ZZ,WW,Ze,reduceCtorEq,zd,ze,zb,zf,za]
 refine br ?_ ?_
 ·intro h2
  have h3:¬ shP dig shs k=0:=by simpa using h2
  simp only [ZZ,WW,Ze,reduceCtorEq,zd,ze,zb,zf,za]
  rw [hF,hdr,if_neg h3]
 ·intro h2
  have h3:shP dig shs k=0:=by simpa using h2
  rw [if_pos h3] at hdr
  simp only [ZZ,WW,Ze,reduceCtorEq,zd,ze,zb,zf,za]
  refine drg0 ?_
  simp only [ZZ,WW,Ze,reduceCtorEq,zd,ze,zb,zf,za]
  ((repeat' (with_reducible apply And.intro))<;>try ((exact sc_)))
  refine qac (shs.length - (k+1)) [oo,.adr (.l 1) 0,oo,oo,.mp (.l 36),.mp (.l 37),.adr (.l 6) 0,oo,oo,oo,oo,oo,oo,oo,oo,oo,oo,oo,oo,oo,oo,oo,oo,oo,oo,oo,oo,oo,oo,oo,oo,oo,oo,oo,oo,oo,oo,oo,oo,oo,.p (.sl 7 (shE shs)),.p (int (shs.length:Nat)),.p (int ((k+1):Nat)),oo,oo,oo,oo,oo,oo,oo,oo,oo,oo,oo,oo,oo,oo,oo,oo,oo,oo,oo,oo,oo,oo,oo,oo,oo,oo,oo,oo,oo,oo,oo,oo,oo,oo,oo,oo,oo,oo,oo,oo,oo,oo,oo,oo,oo,oo,oo,oo,oo,oo,oo,oo,oo,oo,oo,oo,oo,oo,oo,oo,oo,oo,oo,oo,oo,oo,oo,oo,oo,oo,oo,oo,oo,oo,oo,oo,oo,oo,oo,oo,oo,oo,oo,oo,oo,oo,oo,oo,oo,oo,oo,oo,oo,oo,oo,oo,oo,oo,oo,oo,oo,oo] [(.l 1,.box [.p (int no),.p (.str pre),.p (int dig),.p (.sl 7 (shE shs))] tPrd),(.l 36,.map (mpS kv x.id (.bool true)) 9 4),(.l 37,.map (mpS kw x.top (.bool true)) 9 4),(.l 6,.box [.p (.str (x).id),.p (.str (x).top),.p (int (x).kind),.p (int (x).fr_),.p (int (x).to_),.p (.sl 1 (tbE x.pages)),.p (int (x).ver)] qbA)] (by omega) (by (simp only [ZZ,WW,Ze,reduceCtorEq,zd,ze,zb,zf,za];try trivial)) (by (simp only [ZZ,WW,Ze,reduceCtorEq,zd,ze,zb,zf,za];try trivial)) ⟨k+1,x,.sl 1 (tbE x.pages),mpS kv x.id (.bool true),mpS kw x.top (.bool true),by omega,rfl,by rw [hF,hdr],(fun _=>by rw [Nat.add_sub_cancel];exact hxd.symm),⟨x1,x2,x3,x4,x5,x6,x7,x8⟩,p1,p2,rfl,rfl⟩
def qgq:IC:=(.seq (.reg [qO 2 (.mov (.c (.bool false)))]) (.seq (.reg [qM 3 0,qO 4 (.sln (.t 3)),qO 5 (.bin .geq (.t 4) (.c (.int .i64 1))),qM 6 5,⟨some 7,.mov (.t 0),(some (6,true))⟩,⟨some 8,.sln (.t 7),(some (6,true))⟩,⟨some 9,.bin .leq (.t 8) (.c (.int .i64 40)),(some (6,true))⟩,qO 10 (.pick (.t 6) (.t 9) (.c (.bool false))),qM 11 10,⟨some 12,.mov (.t 0),(some (11,true))⟩,⟨some 13,.call 143 [.t 12,.c (.str [97,98,99,100,101,102,103,104,105,106,107,108,109,110,111,112,113,114,115,116,117,118,119,120,121,122,48,49,50,51,52,53,54,55,56,57,45,95])],(some (11,true))⟩,qO 14 (.pick (.t 11) (.t 13) (.c (.bool false))),qM 15 14,⟨some 16,.mov (.t 0),(some (15,true))⟩,⟨some 17,.ssl (.t 16) none (some (.c (.int .i64 1))),(some (15,true))⟩,⟨some 18,.call 143 [.t 17,.c (.str [97,98,99,100,101,102,103,104,105,106,107,108,109,110,111,112,113,114,115,116,117,118,119,120,121,122])],(some (15,true))⟩,qO 19 (.pick (.t 15) (.t 18) (.c (.bool false))),qM 2 19]) .ret))
def qgh:List IRes:=[.t 2]
theorem qjp:chkF Tryz.prog Tryz.f57 qgq qgh 20=true:=by kernel_rfl
section
variable {E:Envt}
theorem qp8 (s:List UInt8) (hs:s.length≤1000000000):PCall Tryz.prog E 57 [.str s] (·=.bool (keyB s)):=by
 have hset:kcSet=[97,98,99,100,101,102,103,104,105,106,107,108,109,110,111,112,113,114,115,116,117,118,119,120,121,122,48,49,50,51,52,53,54,55,56,57,45,95]:=rfl
 refine qag mixed Tryz.func57 qjp ?_
 simp only [a0,l0,OS.ao,zj,zo,zi,zn,zl,zm,zp,zd,zh,zk,qgq,qgh,ZZ,WW,Ze,reduceCtorEq,zd,ze,zb,zf,za]
 refine useG (fun _=>qoL s kcSet hs (by decide) (by decide)) rfl (.inl rfl) ?_
 simp only [ZZ,WW,Ze,reduceCtorEq,zd,ze,zb,zf,za]
 ((repeat' (with_reducible apply And.intro))<;>try ((exact sc_)))
 refine useG (fun _=>qoL (s.take 1) smSet (by simp;omega) (by decide) (by decide)) rfl (.inl rfl) ?_
 simp only [ZZ,WW,Ze,reduceCtorEq,zd,ze,zb,zf,za]
 have e1:(fun c=>kcSet.contains c)=kcB:=funext qrT
 have e2:(fun c=>smSet.contains c)=smB:=funext qq7
 rw [qhQ,qhQ,e1,e2,keyB]
 cases s with
 |nil=>rfl
 |cons c r=>
  simp only [List.take_succ_cons,List.take_zero,List.all_cons,List.all_nil,Bool.and_true,List.headD_cons,inE]
  generalize decide ((1:Int)≤((c :: r).length:Nat))=b1
  generalize decide (((c :: r).length:Nat)≤(40:Int))=b2
  generalize r.all kcB=b3
  generalize smB c=b4
  generalize kcB c=b5
  cases b1<;>cases b2<;>cases b3<;>cases b4<;>cases b5<;>rfl
end
def qb2:IC:=(.seq (.reg [qO 36 (.bin .lss (.t 35) (.t 34))]) (.seq (.cond (.t 36) .skip (.exit 0)) (.seq (.block 1 (.seq (.reg [qM 37 35,qO 38 (.ixa 7 (.t 33) (.t 35)),qO 39 (.ld 7 true (.t 38)),qO 5 (.alc 85 [.str [],.str [],.int .i64 0,.int .i64 0,.int .i64 0,.nl 1,.int .i64 0]),qM 4 37,⟨none,.st 7 (.t 5) (.t 39),none⟩,⟨none,.re,none⟩]) (.seq (.reg [qO 40 (.fla 3 (.t 1)),qO 41 (.ld 1 false (.t 40)),qM 42 4,qO 43 (.vsl 7 (.t 41) none (some (.t 42))),qM 6 43]) (.seq (.drg [qM 44 4,qO 45 (.bin .gtr (.t 44) (.c (.int .i64 0))),qM 46 45,⟨some 47,.mov (.t 6),(some (46,true))⟩,⟨some 48,.mov (.t 4),(some (46,true))⟩,⟨some 49,.bin .sub (.t 48) (.c (.int .i64 1)),(some (46,true))⟩,⟨some 50,.ixa 7 (.t 47) (.t 49),(some (46,true))⟩,⟨some 51,.fla 1 (.t 50),(some (46,true))⟩,⟨some 52,.ld 1 false (.t 51),(some (46,true))⟩,⟨some 53,.fla 1 (.t 5),(some (46,true))⟩,⟨some 54,.ld 1 false (.t 53),(some (46,true))⟩,⟨some 55,.bin .eql (.t 52) (.t 54),(some (46,true))⟩,qO 56 (.pick (.t 46) (.t 55) (.c (.bool false))),qM 7 56]) (.cut (.block 2 (.seq (.reg [qO 58 (.fla 0 (.t 5)),qO 59 (.ld 1 false (.t 58)),qO 60 (.call 57 [.t 59]),qO 61 (.not (.t 60)),qM 62 61,⟨some 63,.fla 1 (.t 5),(some (62,false))⟩,⟨some 64,.ld 1 false (.t 63),(some (62,false))⟩,⟨some 65,.call 57 [.t 64],(some (62,false))⟩,⟨some 66,.not (.t 65),(some (62,false))⟩,qO 67 (.pick (.t 62) (.c (.bool true)) (.t 66)),qM 57 67]) (.cond (.t 57) (.seq (.reg [qO 2 (.mov (.c (.int .i64 5)))]) .ret) (.seq (.reg [qM 69 6,qO 70 (.mkf 59 [.t 5]),qO 71 (.call 58 [.t 69,.t 70]),qM 68 71]) (.cond (.t 68) (.seq (.reg [qO 2 (.mov (.c (.int .i64 6)))]) .ret) (.seq (.reg [qM 73 7,qO 74 (.not (.t 73)),qM 75 74,⟨some 76,.fla 1 (.t 5),(some (75,true))⟩,⟨some 77,.ld 1 false (.t 76),(some (75,true))⟩,⟨some 78,.fla 0 (.t 5),(some (75,true))⟩,⟨some 79,.ld 1 false (.t 78),(some (75,true))⟩,⟨some 80,.bin .neq (.t 77) (.t 79),(some (75,true))⟩,qO 81 (.pick (.t 75) (.t 80) (.c (.bool false))),qM 72 81]) (.cond (.t 72) (.seq (.reg [qO 2 (.mov (.c (.int .i64 7)))]) .ret) (.seq (.reg [qM 83 7,qO 84 (.not (.t 83)),qM 85 84,⟨some 86,.mov (.t 6),(some (85,true))⟩,⟨some 87,.mkf 60 [.t 5],(some (85,true))⟩,⟨some 88,.call 58 [.t 86,.t 87],(some (85,true))⟩,qO 89 (.pick (.t 85) (.t 88) (.c (.bool false))),qM 82 89]) (.cond (.t 82) (.seq (.reg [qO 2 (.mov (.c (.int .i64 6)))]) .ret) (.seq (.reg [qO 91 (.fla 2 (.t 5)),qO 92 (.ld 1 false (.t 91)),qO 93 (.bin .lss (.t 92) (.c (.int .i64 1))),qM 94 93,⟨some 95,.fla 2 (.t 5),(some (94,false))⟩,⟨some 96,.ld 1 false (.t 95),(some (94,false))⟩,⟨some 97,.bin .gtr (.t 96) (.c (.int .i64 4)),(some (94,false))⟩,qO 98 (.pick (.t 94) (.c (.bool true)) (.t 97)),qM 90 98]) (.cond (.t 90) (.seq (.reg [qO 2 (.mov (.c (.int .i64 4)))]) .ret) (.seq (.reg [qO 100 (.fla 6 (.t 5)),qO 101 (.ld 1 false (.t 100)),qO 102 (.bin .lss (.t 101) (.c (.int .i64 1))),qM 103 102,⟨some 104,.fla 6 (.t 5),(some (103,false))⟩,⟨some 105,.ld 1 false (.t 104),(some (103,false))⟩,⟨some 106,.bin .gtr (.t 105) (.c (.int .i64 1000)),(some (103,false))⟩,qO 107 (.pick (.t 103) (.c (.bool true)) (.t 106)),qM 99 107]) (.cond (.t 99) (.seq (.reg [qO 2 (.mov (.c (.int .i64 1)))]) .ret) (.seq (.drg [qO 109 (.fla 3 (.t 5)),qO 110 (.ld 1 false (.t 109)),qO 111 (.bin .lss (.t 110) (.c (.int .i64 1))),qM 112 111,⟨some 113,.fla 3 (.t 5),(some (112,false))⟩,⟨some 114,.ld 1 false (.t 113),(some (112,false))⟩,⟨some 115,.fla 4 (.t 5),(some (112,false))⟩,⟨some 116,.ld 1 false (.t 115),(some (112,false))⟩,⟨some 117,.bin .gtr (.t 114) (.t 116),(some (112,false))⟩,qO 118 (.pick (.t 112) (.c (.bool true)) (.t 117)),qM 119 118,⟨some 120,.fla 4 (.t 5),(some (119,false))⟩,⟨some 121,.ld 1 false (.t 120),(some (119,false))⟩,⟨some 122,.fla 2 (.t 1),(some (119,false))⟩,⟨some 123,.ld 1 false (.t 122),(some (119,false))⟩,⟨some 124,.pcall 0 61 [.t 123],(some (119,false))⟩,⟨some 125,.bin .geq (.t 121) (.t 124),(some (119,false))⟩,qO 126 (.pick (.t 119) (.c (.bool true)) (.t 125)),qM 127 126,⟨some 128,.mov (.t 4),(some (127,false))⟩,⟨some 129,.bin .gtr (.t 128) (.c (.int .i64 0)),(some (127,false))⟩,⟨some 130,.mov (.t 129),(some (127,false))⟩,⟨some 131,.fla 3 (.t 5),(some (130,true))⟩,⟨some 132,.ld 1 false (.t 131),(some (130,true))⟩,⟨some 133,.mov (.t 6),(some (130,true))⟩,⟨some 134,.mov (.t 4),(some (130,true))⟩,⟨some 135,.bin .sub (.t 134) (.c (.int .i64 1)),(some (130,true))⟩,⟨some 136,.ixa 7 (.t 133) (.t 135),(some (130,true))⟩,⟨some 137,.fla 4 (.t 136),(some (130,true))⟩,⟨some 138,.ld 1 false (.t 137),(some (130,true))⟩,⟨some 139,.bin .add (.t 138) (.c (.int .i64 1)),(some (130,true))⟩,⟨some 140,.bin .neq (.t 132) (.t 139),(some (130,true))⟩,⟨some 141,.pick (.t 130) (.t 140) (.c (.bool false)),(some (127,false))⟩,qO 142 (.pick (.t 127) (.c (.bool true)) (.t 141)),qM 108 142]) (.cut (.cond (.t 108) (.seq (.reg [qO 2 (.mov (.c (.int .i64 1)))]) .ret) (.seq (.reg [qO 144 (.fla 5 (.t 5)),qO 145 (.ld 1 false (.t 144)),qO 146 (.len (.t 145)),qO 147 (.fla 4 (.t 5)),qO 148 (.ld 1 false (.t 147)),qO 149 (.fla 3 (.t 5)),qO 150 (.ld 1 false (.t 149)),qO 151 (.bin .sub (.t 148) (.t 150)),qO 152 (.bin .add (.t 151) (.c (.int .i64 1))),qO 153 (.bin .neq (.t 146) (.t 152)),qM 154 153,⟨some 155,.fla 5 (.t 5),(some (154,false))⟩,⟨some 156,.ld 1 false (.t 155),(some (154,false))⟩,⟨some 157,.call 62 [.t 156,.f 63],(some (154,false))⟩,qO 158 (.pick (.t 154) (.c (.bool true)) (.t 157)),qM 143 158]) (.cond (.t 143) (.seq (.reg [qO 2 (.mov (.c (.int .i64 3)))]) .ret) (.seq (.reg [qO 160 (.fla 2 (.t 5)),qO 161 (.ld 1 false (.t 160)),qO 162 (.bin .eql (.t 161) (.c (.int .i64 2))),qM 163 162,⟨some 164,.fla 2 (.t 5),(some (163,false))⟩,⟨some 165,.ld 1 false (.t 164),(some (163,false))⟩,⟨some 166,.bin .eql (.t 165) (.c (.int .i64 3)),(some (163,false))⟩,qO 167 (.pick (.t 163) (.c (.bool true)) (.t 166)),qM 168 167,⟨some 169,.fla 5 (.t 5),(some (168,true))⟩,⟨some 170,.ld 1 false (.t 169),(some (168,true))⟩,⟨some 171,.len (.t 170),(some (168,true))⟩,⟨some 172,.bin .neq (.t 171) (.c (.int .i64 1)),(some (168,true))⟩,⟨some 173,.mov (.t 172),(some (168,true))⟩,⟨some 174,.fla 5 (.t 5),(some (173,false))⟩,⟨some 175,.ld 1 false (.t 174),(some (173,false))⟩,⟨some 176,.ixa 1 (.t 175) (.c (.int .i64 0)),(some (173,false))⟩,⟨some 177,.ld 1 false (.t 176),(some (173,false))⟩,⟨some 178,.len (.t 177),(some (173,false))⟩,⟨some 179,.bin .neq (.t 178) (.c (.int .i64 1)),(some (173,false))⟩,⟨some 180,.pick (.t 173) (.c (.bool true)) (.t 179),(some (168,true))⟩,qO 181 (.pick (.t 168) (.t 180) (.c (.bool false))),qM 159 181]) (.cond (.t 159) (.seq (.reg [qO 2 (.mov (.c (.int .i64 3)))]) .ret) .skip))))))))))))))))))))))))) (.reg [qO 182 (.bin .add (.t 35) (.c (.int .i64 1))),qM 35 182]))))
def qcy:IC:=(.seq (.reg [qO 1 (.box 36 (.t 0)),qO 2 (.mov (.c (.int .i64 0)))]) (.seq (.seq (.reg [qO 8 (.fla 0 (.t 1)),qO 9 (.ld 1 false (.t 8)),qO 10 (.bin .lss (.t 9) (.c (.int .i64 1))),qM 11 10,⟨some 12,.fla 0 (.t 1),(some (11,false))⟩,⟨some 13,.ld 1 false (.t 12),(some (11,false))⟩,⟨some 14,.bin .gtr (.t 13) (.c (.int .i64 200)),(some (11,false))⟩,qO 15 (.pick (.t 11) (.c (.bool true)) (.t 14))]) (.cond (.t 15) (.seq (.reg [qO 2 (.mov (.c (.int .i64 1)))]) .ret) .skip)) (.seq (.seq (.reg [qO 16 (.fla 1 (.t 1)),qO 17 (.ld 1 false (.t 16)),qO 18 (.fla 2 (.t 1)),qO 19 (.ld 1 false (.t 18)),qO 20 (.call 56 [.t 17,.t 19]),qM 3 20]) (.seq (.reg [qM 21 3,qO 22 (.bin .neq (.t 21) (.c (.int .i64 0)))]) (.cond (.t 22) (.seq (.reg [qM 23 3,qM 2 23]) .ret) .skip))) (.seq (.seq (.reg [qO 24 (.fla 3 (.t 1)),qO 25 (.ld 1 false (.t 24)),qO 26 (.len (.t 25)),qO 27 (.bin .eql (.t 26) (.c (.int .i64 0)))]) (.cond (.t 27) (.seq (.reg [qO 2 (.mov (.c (.int .i64 8)))]) .ret) .skip)) (.seq (.seq (.reg [qO 28 (.fla 3 (.t 1)),qO 29 (.ld 1 false (.t 28)),qO 30 (.len (.t 29)),qO 31 (.bin .gtr (.t 30) (.c (.int .i64 2000)))]) (.cond (.t 31) (.seq (.reg [qO 2 (.mov (.c (.int .i64 2)))]) .ret) .skip)) (.seq (.seq (.reg [qO 32 (.fla 3 (.t 1)),qO 33 (.ld 1 false (.t 32)),qO 34 (.len (.t 33)),qO 35 (.mov (.c (.int .i64 0)))]) (.block 0 (.loop qb2))) (.seq (.reg [qO 2 (.mov (.c (.int .i64 0)))]) .ret)))))))
def qcr:List IRes:=[.t 2]
theorem qfC:chkF Tryz.prog Tryz.f13 qcy qcr 183=true:=by kernel_rfl
def qcc:IC:=(.seq (.reg [qO 2 (.box 85 (.t 0)),qO 3 (.mov (.c (.bool false)))]) (.seq (.reg [qO 4 (.fla 0 (.t 2)),qO 5 (.ld 1 false (.t 4)),qO 6 (.fla 0 (.t 1)),qO 7 (.ld 1 false (.t 6)),qO 8 (.bin .eql (.t 5) (.t 7)),qM 3 8]) .ret))
def qca:List IRes:=[.t 3]
theorem qfa:chkF Tryz.prog Tryz.f59 qcc qca 9=true:=by kernel_rfl
def qcb:IC:=(.seq (.reg [qO 2 (.box 85 (.t 0)),qO 3 (.mov (.c (.bool false)))]) (.seq (.reg [qO 4 (.fla 1 (.t 2)),qO 5 (.ld 1 false (.t 4)),qO 6 (.fla 1 (.t 1)),qO 7 (.ld 1 false (.t 6)),qO 8 (.bin .eql (.t 5) (.t 7)),qM 3 8]) .ret))
def qb9:List IRes:=[.t 3]
theorem qe9:chkF Tryz.prog Tryz.f60 qcb qb9 9=true:=by kernel_rfl
def qer:IC:=(.seq (.reg [qO 2 (.mov (.c (.bool false)))]) (.seq (.reg [qM 3 0,qO 4 (.len (.t 3)),qO 5 (.bin .gtr (.t 4) (.c (.int .i64 50))),qM 6 5,⟨some 7,.mov (.t 0),(some (6,false))⟩,⟨some 8,.call 84 [.t 7,.f 146],(some (6,false))⟩,qO 9 (.pick (.t 6) (.c (.bool true)) (.t 8)),qM 2 9]) .ret))
def qeh:List IRes:=[.t 2]
theorem qhA:chkF Tryz.prog Tryz.f63 qer qeh 10=true:=by kernel_rfl
def qdG:IC:=(.seq (.reg [qO 2 (.mov (.c (.bool false)))]) (.seq (.reg [qM 3 0,qO 4 (.sln (.t 3)),qO 5 (.bin .gtr (.t 4) (.c (.int .i64 80))),qM 6 5,⟨some 7,.mov (.t 0),(some (6,false))⟩,⟨some 8,.call 147 [.t 7,.c (.bool false)],(some (6,false))⟩,⟨some 9,.not (.t 8),(some (6,false))⟩,qO 10 (.pick (.t 6) (.c (.bool true)) (.t 9)),qM 2 10]) .ret))
def qdC:List IRes:=[.t 2]
theorem qgS:chkF Tryz.prog Tryz.f146 qdG qdC 11=true:=by kernel_rfl
theorem qoF (s:List UInt8) (hs:s.length≤1000000000):PCall Tryz.prog E0 146 [.str s] (·=.bool (qst s)):=by
 refine qag mixed Tryz.func146 qgS ?_
 simp only [a0,l0,OS.ao,zj,zo,zi,zn,zl,zm,zp,zd,zh,zk,qdG,qdC,ZZ,WW,Ze,reduceCtorEq,zd,ze,zb,zf,za]
 refine useG (fun _=>qiU s false hs) rfl (.inl rfl) ?_
 simp only [ZZ,WW,Ze,reduceCtorEq,zd,ze,zb,zf,za]
 exact ⟨fun h=>by rw [h];rfl,rfl⟩
theorem qny (p:SRow) (hp:p.length≤1000000∧∀ z∈p,z.length≤1000000):PCall Tryz.prog E0 63 [.sl 1 (strE p)] (·=.bool (qmX p)):=by
 refine qag mixed Tryz.func63 qhA ?_
 simp only [a0,l0,OS.ao,zj,zo,zi,zn,zl,zm,zp,zd,zh,zk,qer,qeh,ZZ,WW,Ze,reduceCtorEq,zd,ze,zb,zf,za]
 simp only [ZZ,WW,Ze,reduceCtorEq,zd,ze,zb,zf,za,qal]
 refine useG (fun _=>qfi p 146 [] qst (by omega) (fun _=>by kernel_rfl) rfl (fun z hz=>qoF z (by have:=hp.2 z hz;omega)) (fun _=>rfl) (fun _=>rfl)) rfl (.inr rfl) ?_
 simp only [ZZ,WW,Ze,reduceCtorEq,zd,ze,zb,zf,za]
 exact ⟨fun h=>by rw [h];rfl,rfl⟩
section
variable {E:Envt}
theorem qvX (y x:Sht):PCall Tryz.prog E 59 [.agg (shV y),.ptr (shV x)] (·=.bool (decide (y.id=x.id))):=by
 refine qag mixed Tryz.func59 qfa ?_
 simp only [a0,l0,OS.ao,zj,zo,zi,zn,zl,zm,zp,zd,zh,zk,qcc,qca,ZZ,WW,Ze,reduceCtorEq,zd,ze,zb,zf,za]
 simp only [shV,ZZ,WW,Ze,reduceCtorEq,zd,ze,zb,zf,za]
theorem qvW (y x:Sht):PCall Tryz.prog E 60 [.agg (shV y),.ptr (shV x)] (·=.bool (decide (y.top=x.top))):=by
 refine qag mixed Tryz.func60 qe9 ?_
 simp only [a0,l0,OS.ao,zj,zo,zi,zn,zl,zm,zp,zd,zh,zk,qcb,qb9,ZZ,WW,Ze,reduceCtorEq,zd,ze,zb,zf,za]
 simp only [shV,ZZ,WW,Ze,reduceCtorEq,zd,ze,zb,zf,za]
end
theorem qs7 (l:List Sht) (k:Nat):(shE l).take k=shE (l.take k):=by rw [shE,shE,List.map_take]
def rngR (dig:Int) (k:Nat) (x b:Sht):Bool:=decide (x.fr_ < 1) || decide (x.to_ < x.fr_) || decide (powF dig≤x.to_) || (decide (0 < k) && !decide (x.fr_=b.to_+1))
set_option maxHeartbeats 8000000 in
set_option maxRecDepth 100000 in
theorem qgt (p:Prd) (hp:PdB p):PCall Tryz.prog E0 13 [.agg (pdV p)] (·=int (prdF p)):=by
 obtain ⟨no,pre,dig,shs⟩:=p
 obtain ⟨b1,b2,b3,b4,b5⟩:=hp
 simp only at b1 b2 b3 b4 b5
 have hs:prdF ⟨no,pre,dig,shs⟩=qaf [qaj (!inE no 1 200) 1,qe6 pre dig,qaj (decide (shs.length=0)) 8,qaj (decide (2000 < shs.length)) 2,qaf ((List.range shs.length).map (shP dig shs))]:=rfl
 have e8:decide ((shs.length:Int)=0)=decide (shs.length=0):=decide_eq_decide.2 (by omega)
 have e2:decide ((2000:Int) < (shs.length:Int))=decide (2000 < shs.length):=decide_eq_decide.2 (by omega)
 have e1:(decide (no < 1) || decide (200 < no))=!inE no 1 200:=qmz _ _
 rw [hs]
 clear hs
 refine qag mixed Tryz.func13 qfC ?_
 simp only [a0,l0,OS.ao,zj,zo,zi,zn,zl,zm,zp,zd,zh,zk,qcy,qcr,ZZ,WW,Ze,reduceCtorEq,zd,ze,zb,zf,za]
 simp only [pdV,ZZ,WW,Ze,reduceCtorEq,zd,ze,zb,zf,za]
 rw [e1]
 refine ⟨fun h=>by rw [h];rfl,?_⟩
 refine br ?_ ?_
 ·intro h
  simp only [ZZ,WW,Ze,reduceCtorEq,zd,ze,zb,zf,za]
  rw [h]
  rfl
 intro h
 rw [h,qds,if_pos (show qaj false 1=0 from rfl)]
 simp only [ZZ,WW,Ze,reduceCtorEq,zd,ze,zb,zf,za]
 refine use1 (qhP pre dig (by omega)) rfl (.inl rfl) ?_
 rw [qrH]
 simp only [ZZ,WW,Ze,reduceCtorEq,zd,ze,zb,zf,za]
 refine br ?_ ?_
 ·intro h
  have h1:¬ qe6 pre dig=0:=by simpa using h
  simp only [ZZ,WW,Ze,reduceCtorEq,zd,ze,zb,zf,za]
  rw [qds,if_neg h1]
 intro h
 have hhd:qe6 pre dig=0:=by simpa using h
 have hd:4≤dig∧dig≤9:=qkZ hhd
 rw [qds,if_pos hhd]
 clear h
 simp only [ZZ,WW,Ze,reduceCtorEq,zd,ze,zb,zf,za,qah,e8]
 refine br ?_ ?_
 ·intro h
  simp only [ZZ,WW,Ze,reduceCtorEq,zd,ze,zb,zf,za]
  rw [h]
  rfl
 intro h
 rw [h,qds,if_pos (show qaj false 8=0 from rfl)]
 simp only [ZZ,WW,Ze,reduceCtorEq,zd,ze,zb,zf,za,qah,e2]
 refine br ?_ ?_
 ·intro h
  simp only [ZZ,WW,Ze,reduceCtorEq,zd,ze,zb,zf,za]
  rw [h]
  rfl
 intro h2
 rw [h2,qds,if_pos (show qaj false 2=0 from rfl)]
 have h1e:∀ z:Int,qaf [z]=z:=fun z=>by simp only [qaf];split<;>simp_all
 rw [h1e]
 clear h h2 e8 e2 e1
 have hget:=fun {k:Nat} (h:k < shs.length)=>qbr _ k _ (qra dig shs h)
 obtain ⟨G,hG⟩:∃ G,(List.range shs.length).map (shP dig shs)=G:=⟨_,rfl⟩
 have hGl:G.length=shs.length:=by rw [← hG];simp
 rw [hG] at hget ⊢
 simp only [ZZ,WW,Ze,reduceCtorEq,zd,ze,zb,zf,za,qah]
 refine qad (fun n fr L=>∃ (k:Nat),k≤shs.length∧n=shs.length - k∧(qaf G=qaf (G.drop k))∧(∀ j,j < k→shP dig shs j=0)∧fr=[oo,.adr (.l 1) 0,oo,oo,oo,oo,oo,oo,oo,oo,oo,oo,oo,oo,oo,oo,oo,oo,oo,oo,oo,oo,oo,oo,oo,oo,oo,oo,oo,oo,oo,oo,oo,.p (.sl 7 (shE shs)),.p (int (shs.length:Nat)),.p (int (k:Nat)),oo,oo,oo,oo,oo,oo,oo,oo,oo,oo,oo,oo,oo,oo,oo,oo,oo,oo,oo,oo,oo,oo,oo,oo,oo,oo,oo,oo,oo,oo,oo,oo,oo,oo,oo,oo,oo,oo,oo,oo,oo,oo,oo,oo,oo,oo,oo,oo,oo,oo,oo,oo,oo,oo,oo,oo,oo,oo,oo,oo,oo,oo,oo,oo,oo,oo,oo,oo,oo,oo,oo,oo,oo,oo,oo,oo,oo,oo,oo,oo,oo,oo,oo,oo,oo,oo,oo,oo,oo,oo,oo,oo,oo,oo,oo,oo,oo,oo,oo,oo,oo,oo,oo,oo,oo,oo,oo,oo,oo,oo,oo,oo,oo,oo,oo,oo,oo,oo,oo,oo,oo,oo,oo,oo,oo,oo,oo,oo,oo,oo,oo,oo,oo,oo,oo,oo,oo,oo,oo,oo,oo,oo,oo,oo,oo,oo,oo]∧L=[(.l 1,.box [.p (int no),.p (.str pre),.p (int dig),.p (.sl 7 (shE shs))] tPrd)]) (shs.length) [oo,.adr (.l 1) 0,oo,oo,oo,oo,oo,oo,oo,oo,oo,oo,oo,oo,oo,oo,oo,oo,oo,oo,oo,oo,oo,oo,oo,oo,oo,oo,oo,oo,oo,oo,oo,.p (.sl 7 (shE shs)),.p (int (shs.length:Nat)),.p (int (0:Nat)),oo,oo,oo,oo,oo,oo,oo,oo,oo,oo,oo,oo,oo,oo,oo,oo,oo,oo,oo,oo,oo,oo,oo,oo,oo,oo,oo,oo,oo,oo,oo,oo,oo,oo,oo,oo,oo,oo,oo,oo,oo,oo,oo,oo,oo,oo,oo,oo,oo,oo,oo,oo,oo,oo,oo,oo,oo,oo,oo,oo,oo,oo,oo,oo,oo,oo,oo,oo,oo,oo,oo,oo,oo,oo,oo,oo,oo,oo,oo,oo,oo,oo,oo,oo,oo,oo,oo,oo,oo,oo,oo,oo,oo,oo,oo,oo,oo,oo,oo,oo,oo,oo,oo,oo,oo,oo,oo,oo,oo,oo,oo,oo,oo,oo,oo,oo,oo,oo,oo,oo,oo,oo,oo,oo,oo,oo,oo,oo,oo,oo,oo,oo,oo,oo,oo,oo,oo,oo,oo,oo,oo,oo,oo,oo,oo,oo,oo] [(.l 1,.box [.p (int no),.p (.str pre),.p (int dig),.p (.sl 7 (shE shs))] tPrd)] (by simp only [ZZ,WW,Ze,reduceCtorEq,zd,ze,zb,zf,za,qah];try trivial) (by (simp only [ZZ,WW,Ze,reduceCtorEq,zd,ze,zb,zf,za];try trivial)) ⟨0,by omega,by omega,rfl,(fun j h=>by omega),rfl,rfl⟩ ?_
 rintro n fr L ⟨k,hk,rfl,hF,hz,rfl,rfl⟩
 simp only [qb2,ZZ,WW,Ze,reduceCtorEq,zd,ze,zb,zf,za]
 refine br ?_ ?_
 rotate_left
 ·intro h
  have hge:shs.length≤k:=by have:=of_decide_eq_false h;omega
  simp only [ZZ,WW,Ze,reduceCtorEq,zd,ze,zb,zf,za]
  rw [hF,List.drop_eq_nil_of_le (by omega)]
  rfl
 intro h
 have hlt:k < shs.length:=by have:=of_decide_eq_true h;omega
 obtain ⟨x,hx⟩:∃ x,shs[k]?=some x:=⟨_,List.getElem?_eq_getElem hlt⟩
 have hg:=qfb hx
 simp only [shV] at hg
 have hxB:=b5 x (List.mem_of_getElem? hx)
 have hxd:shs.getD k sh0=x:=by simp [zt,hx]
 have hdr:=hget hlt
 have hR:=qxq (dig:=dig) hlt hz
 have hmin:min k shs.length=k:=by omega
 obtain ⟨b,hb⟩:∃ b,shs.getD (k - 1) sh0=b:=⟨_,rfl⟩
 unfold shR at hR
 simp only [hxd,hb] at hR
 have hgb:0 < k→(shE (shs.take k)).getD (k - 1) []=[.str b.id,.str b.top,int b.kind,int b.fr_,int b.to_,.sl 1 (tbE b.pages),int b.ver]∧ShB b:=fun h0=>by
  obtain ⟨q,rfl⟩:∃ q,k=q+1:=⟨k - 1,by omega⟩
  obtain ⟨u,hu⟩:∃ u,shs[q]?=some u:=⟨_,List.getElem?_eq_getElem (by omega)⟩
  have:(shs.take (q+1))[q]?=some u:=by rw [List.getElem?_take,if_pos (by omega)];exact hu
  have hub:u=b:=by rw [← hb];simp [zt,hu]
  subst hub
  exact ⟨qfb this,b5 _ (List.mem_of_getElem? hu)⟩
 have k0:decide ((0:Int) < (k:Int))=decide (0 < k):=decide_eq_decide.2 (by omega)
 simp only [ZZ,WW,Ze,reduceCtorEq,zd,ze,zb,zf,za,hg,qah]
 ((repeat' (with_reducible apply And.intro))<;>try ((exact sc_)))
 rw [qa9]
 refine ⟨_,_,qit (k:=.l 5) (cs:=[.str x.id,.str x.top,int x.kind,int x.fr_,int x.to_,.sl 1 (tbE x.pages),int x.ver]) rfl,?_⟩
 simp only [ZZ,WW,Ze,reduceCtorEq,zd,ze,zb,zf,za,qah,qs7]
 ((repeat' (with_reducible apply And.intro))<;>try ((exact sc_)))
 refine qnY [oo,.adr (.l 1) 0,oo,oo,.p (int (k:Nat)),.p (.ptr [.str x.id,.str x.top,int x.kind,int x.fr_,int x.to_,.sl 1 (tbE x.pages),int x.ver]),.p (.sl 7 (shE (shs.take k))),.p (.bool (decide (0 < k) && decide (b.top=x.top))),oo,oo,oo,oo,oo,oo,oo,oo,oo,oo,oo,oo,oo,oo,oo,oo,oo,oo,oo,oo,oo,oo,oo,oo,oo,.p (.sl 7 (shE shs)),.p (int (shs.length:Nat)),.p (int (k:Nat)),oo,oo,oo,oo,oo,oo,oo,oo,oo,oo,oo,oo,oo,oo,oo,oo,oo,oo,oo,oo,oo,oo,oo,oo,oo,oo,oo,oo,oo,oo,oo,oo,oo,oo,oo,oo,oo,oo,oo,oo,oo,oo,oo,oo,oo,oo,oo,oo,oo,oo,oo,oo,oo,oo,oo,oo,oo,oo,oo,oo,oo,oo,oo,oo,oo,oo,oo,oo,oo,oo,oo,oo,oo,oo,oo,oo,oo,oo,oo,oo,oo,oo,oo,oo,oo,oo,oo,oo,oo,oo,oo,oo,oo,oo,oo,oo,oo,oo,oo,oo,oo,oo,oo,oo,oo,oo,oo,oo,oo,oo,oo,oo,oo,oo,oo,oo,oo,oo,oo,oo,oo,oo,oo,oo,oo,oo,oo,oo,oo,oo,oo,oo,oo,oo,oo,oo,oo,oo,oo,oo,oo,oo,oo,oo,oo,oo,oo] [(.l 1,.box [.p (int no),.p (.str pre),.p (int dig),.p (.sl 7 (shE shs))] tPrd)] (fun K hK=>?_) ?_
 ·refine drg0 ?_
  rcases Nat.eq_zero_or_pos k with h0|h0
  ·have z1:decide (0 < k)=false:=by rw [decide_eq_false_iff_not];omega
   have hgz:(shE (shs.take k)).getD ((k:Int) - 1).toNat []=[]:=by rw [h0];rfl
   rw [z1] at k0 hK
   simp only [Bool.false_and] at hK
   simp only [ZZ,WW,Ze,reduceCtorEq,zd,ze,zb,zf,za,k0,qah,hgz,false_implies]
   exact hK _ _ (qiB (by (simp only [ZZ,WW,Ze,reduceCtorEq,zd,ze,zb,zf,za];try trivial)) zE_)
  ·obtain ⟨hgb,hbB⟩:=hgb h0
   have z1:decide (0 < k)=true:=by rw [decide_eq_true_eq];omega
   rw [z1] at k0 hK
   simp only [Bool.true_and] at hK
   have e1:((k:Int) - 1).toNat=k - 1:=by omega
   simp only [ZZ,WW,Ze,reduceCtorEq,zd,ze,zb,zf,za,k0,qah,e1,hgb,List.length_take]
   refine ⟨qar (by omega) (by omega),⟨by omega,by omega⟩,by omega,?_⟩
   exact hK _ _ (qiB (by (simp only [ZZ,WW,Ze,reduceCtorEq,zd,ze,zb,zf,za];try trivial)) zE_)
 obtain ⟨x1,x2,x3,x4,x5,x6,x7,x8⟩:=hxB
 obtain ⟨goes,hgo⟩:∃ g,(decide (0 < k) && decide (b.top=x.top))=g:=⟨_,rfl⟩
 rw [hgo] at hR ⊢
 rw [show (decide (x.fr_ < 1) || decide (x.to_ < x.fr_) || decide (powF dig≤x.to_) || (decide (0 < k) && !decide (x.fr_=b.to_+1)))=rngR dig k x b from rfl] at hR
 simp only [ZZ,WW,Ze,reduceCtorEq,zd,ze,zb,zf,za]
 refine use1 (qp8 _ (by omega)) rfl (.inl rfl) ?_
 simp only [ZZ,WW,Ze,reduceCtorEq,zd,ze,zb,zf,za]
 refine useG (fun _=>qp8 _ (by omega)) rfl (.inl rfl) ?_
 simp only [ZZ,WW,Ze,reduceCtorEq,zd,ze,zb,zf,za]
 refine ⟨fun h=>by rw [h];rfl,?_⟩
 refine br ?_ ?_
 ·intro hc
  rw [if_pos hc] at hR
  simp only [ZZ,WW,Ze,reduceCtorEq,zd,ze,zb,zf,za]
  rw [hF,hdr,← hR]
  rfl
 intro hc
 rw [if_neg (by rw [hc];simp)] at hR
 clear hc
 simp only [ZZ,WW,Ze,reduceCtorEq,zd,ze,zb,zf,za]
 refine use1 (qeH (shs.take k) 59 [.ptr (shV x)] (fun y=>decide (y.id=x.id)) (by rw [List.length_take];omega) (fun _=>by kernel_rfl) rfl (fun y _=>qvX y x) (fun _=>rfl) (fun _=>rfl)) rfl (.inr rfl) ?_
 simp only [ZZ,WW,Ze,reduceCtorEq,zd,ze,zb,zf,za]
 refine br ?_ ?_
 ·intro hc
  rw [if_pos hc] at hR
  simp only [ZZ,WW,Ze,reduceCtorEq,zd,ze,zb,zf,za]
  rw [hF,hdr,← hR]
  rfl
 intro hc
 rw [if_neg (by rw [hc];simp)] at hR
 clear hc
 simp only [ZZ,WW,Ze,reduceCtorEq,zd,ze,zb,zf,za]
 refine br ?_ ?_
 ·intro hc
  rw [if_pos hc] at hR
  simp only [ZZ,WW,Ze,reduceCtorEq,zd,ze,zb,zf,za]
  rw [hF,hdr,← hR]
  rfl
 intro hc
 rw [if_neg (by rw [hc];simp)] at hR
 clear hc
 simp only [ZZ,WW,Ze,reduceCtorEq,zd,ze,zb,zf,za]
 refine useG (fun _=>qeH (shs.take k) 60 [.ptr (shV x)] (fun y=>decide (y.top=x.top)) (by rw [List.length_take];omega) (fun _=>by kernel_rfl) rfl (fun y _=>qvW y x) (fun _=>rfl) (fun _=>rfl)) rfl (.inr rfl) ?_
 simp only [ZZ,WW,Ze,reduceCtorEq,zd,ze,zb,zf,za]
 refine br ?_ ?_
 ·intro hc
  rw [if_pos hc] at hR
  simp only [ZZ,WW,Ze,reduceCtorEq,zd,ze,zb,zf,za]
  rw [hF,hdr,← hR]
  rfl
 intro hc
 rw [if_neg (by rw [hc];simp)] at hR
 clear hc
 simp only [ZZ,WW,Ze,reduceCtorEq,zd,ze,zb,zf,za]
 refine ⟨fun h=>by rw [h];rfl,?_⟩
 refine br ?_ ?_
 ·intro hc
  rw [if_pos hc] at hR
  simp only [ZZ,WW,Ze,reduceCtorEq,zd,ze,zb,zf,za]
  rw [hF,hdr,← hR]
  rfl
 intro hc
 rw [if_neg (by rw [hc];simp)] at hR
 clear hc
 simp only [ZZ,WW,Ze,reduceCtorEq,zd,ze,zb,zf,za]
 refine ⟨fun h=>by rw [h];rfl,?_⟩
 refine br ?_ ?_
 ·intro hc
  rw [if_pos hc] at hR
  simp only [ZZ,WW,Ze,reduceCtorEq,zd,ze,zb,zf,za]
  rw [hF,hdr,← hR]
  rfl
 intro hc
 rw [if_neg (by rw [hc];simp)] at hR
 clear hc
 simp only [ZZ,WW,Ze,reduceCtorEq,zd,ze,zb,zf,za]
 refine qnY [oo,.adr (.l 1) 0,oo,oo,.p (int (k:Nat)),.p (.ptr [.str x.id,.str x.top,int x.kind,int x.fr_,int x.to_,.sl 1 (tbE x.pages),int x.ver]),.p (.sl 7 (shE (shs.take k))),.p (.bool (goes)),oo,oo,oo,oo,oo,oo,oo,oo,oo,oo,oo,oo,oo,oo,oo,oo,oo,oo,oo,oo,oo,oo,oo,oo,oo,.p (.sl 7 (shE shs)),.p (int (shs.length:Nat)),.p (int (k:Nat)),oo,oo,oo,oo,oo,oo,oo,oo,oo,oo,oo,oo,oo,oo,oo,oo,oo,oo,oo,oo,oo,oo,oo,oo,oo,oo,oo,oo,oo,oo,oo,oo,oo,oo,oo,oo,oo,oo,oo,oo,oo,oo,oo,oo,oo,oo,oo,oo,oo,oo,oo,oo,oo,oo,oo,oo,oo,oo,oo,oo,oo,oo,oo,oo,oo,oo,oo,oo,oo,oo,oo,oo,.p (.bool (rngR dig k x b)),oo,oo,oo,oo,oo,oo,oo,oo,oo,oo,oo,oo,oo,oo,oo,oo,oo,oo,oo,oo,oo,oo,oo,oo,oo,oo,oo,oo,oo,oo,oo,oo,oo,oo,oo,oo,oo,oo,oo,oo,oo,oo,oo,oo,oo,oo,oo,oo,oo,oo,oo,oo,oo,oo,oo,oo,oo,oo,oo,oo,oo,oo,oo,oo,oo,oo,oo,oo,oo,oo,oo,oo,oo,oo] [(.l 1,.box [.p (int no),.p (.str pre),.p (int dig),.p (.sl 7 (shE shs))] tPrd)] (fun K hK=>?_) ?_
 ·refine drg1 (x1:=int (powF dig)) ?_
  rcases Nat.eq_zero_or_pos k with h0|h0
  ·have z1:decide (0 < k)=false:=by rw [decide_eq_false_iff_not];omega
   have hgz:(shE (shs.take k)).getD ((k:Int) - 1).toNat []=[]:=by rw [h0];rfl
   unfold rngR at hK
   rw [z1] at k0 hK
   simp only [Bool.false_and,Bool.or_false] at hK
   simp only [ZZ,WW,Ze,reduceCtorEq,zd,ze,zb,zf,za,k0,qah,hgz,false_implies,Bool.and_false]
   (repeat' (with_reducible apply And.intro))
   all_goals try (first|exact fun hq=>⟨hq,usep (qkL dig (by omega) (by omega)) rfl (.inl rfl)⟩|exact fun hq=>⟨hq,qar (by omega) (by omega)⟩|exact fun hq=>⟨hq,by omega,by omega⟩|exact fun hq=>⟨hq,hq,by omega,by omega⟩|exact fun hq=>⟨hq,by omega⟩|(intro hq;rw [hq];rfl)|(intro hq;refine ⟨hq,?_⟩;rw [hq];rfl))
   all_goals try exact hK _ _ (qiB (by (simp only [ZZ,WW,Ze,reduceCtorEq,zd,ze,zb,zf,za];try trivial)) zE_)
  ·obtain ⟨hgb,hbB⟩:=hgb h0
   have z1:decide (0 < k)=true:=by rw [decide_eq_true_eq];omega
   have hb5:=hbB.to_
   unfold rngR at hK
   rw [z1] at k0 hK
   simp only [Bool.true_and] at hK
   have e1:((k:Int) - 1).toNat=k - 1:=by omega
   simp only [ZZ,WW,Ze,reduceCtorEq,zd,ze,zb,zf,za,k0,qah,e1,hgb,List.length_take]
   (repeat' (with_reducible apply And.intro))
   all_goals try (first|exact fun hq=>⟨hq,usep (qkL dig (by omega) (by omega)) rfl (.inl rfl)⟩|exact fun hq=>⟨hq,qar (by omega) (by omega)⟩|exact fun hq=>⟨hq,by omega,by omega⟩|exact fun hq=>⟨hq,hq,by omega,by omega⟩|exact fun hq=>⟨hq,by omega⟩|(intro hq;rw [hq];rfl)|(intro hq;refine ⟨hq,?_⟩;rw [hq];rfl))
   all_goals try exact hK _ _ (qiB (by (simp only [ZZ,WW,Ze,reduceCtorEq,zd,ze,zb,zf,za];try trivial)) zE_)
 simp only [ZZ,WW,Ze,reduceCtorEq,zd,ze,zb,zf,za]
 refine br ?_ ?_
 ·intro hc
  rw [if_pos hc] at hR
  simp only [ZZ,WW,Ze,reduceCtorEq,zd,ze,zb,zf,za]
  rw [hF,hdr,← hR]
  rfl
 intro hc
 rw [if_neg (by rw [hc];simp)] at hR
 clear hc
 simp only [ZZ,WW,Ze,reduceCtorEq,zd,ze,zb,zf,za,qaP]
 refine ⟨qar (by omega) (by omega),qar (by omega) (by omega),?_⟩
 refine useG (fun _=>qjO x.pages 63 [] qmX (by omega) (fun _=>by kernel_rfl) rfl (fun z hz=>qny z (x7 z hz)) (fun _=>rfl) (fun _=>rfl)) rfl (.inr rfl) ?_
 simp only [ZZ,WW,Ze,reduceCtorEq,zd,ze,zb,zf,za]
 refine ⟨fun h=>by rw [h];rfl,?_⟩
 refine br ?_ ?_
 ·intro hc
  rw [if_pos hc] at hR
  simp only [ZZ,WW,Ze,reduceCtorEq,zd,ze,zb,zf,za]
  rw [hF,hdr,← hR]
  rfl
 intro hc
 rw [if_neg (by rw [hc];simp)] at hR
 clear hc
 have hg0:0 < x.pages.length→(tbE x.pages).getD 0 []=[.sl 1 (strE (x.pages.getD 0 []))]:=fun h=>by
  obtain ⟨p,hp⟩:∃ p,x.pages[0]?=some p:=⟨_,List.getElem?_eq_getElem h⟩
  rw [qkz hp]
  simp [zt,hp]
 have e0:Int.toNat 0=0:=rfl
 have hnq:decide (x.kind=2)=false→(!decide (x.kind=2))=true:=fun h=>by rw [h];rfl
 by_cases hl1:x.pages.length=1
 ·have hg:=hg0 (by omega)
  have e1:decide ((x.pages.length:Int)=1)=true:=by rw [hl1];rfl
  rw [e1] at hR
  simp only [ZZ,WW,Ze,reduceCtorEq,zd,ze,zb,zf,za,qaP,e1]
  generalize (decide (x.kind=2) || decide (x.kind=3))=q at hR ⊢
  cases q
  ·simp only [ZZ,WW,Ze,reduceCtorEq,zd,ze,zb,zf,za,qaP,e0,hg,e1,qal,decide_true,Bool.not_true,Bool.false_or,Bool.or_false,Bool.or_self,Bool.and_self,Bool.true_and,Bool.false_and,false_implies]
   refine ⟨hnq,?_⟩
   rw [if_neg (by simp)] at hR
   ((repeat' (with_reducible apply And.intro))<;>try ((exact sc_)))
   refine qac (shs.length - (k+1)) [oo,.adr (.l 1) 0,oo,oo,oo,oo,oo,oo,oo,oo,oo,oo,oo,oo,oo,oo,oo,oo,oo,oo,oo,oo,oo,oo,oo,oo,oo,oo,oo,oo,oo,oo,oo,.p (.sl 7 (shE shs)),.p (int (shs.length:Nat)),.p (int ((k+1):Nat)),oo,oo,oo,oo,oo,oo,oo,oo,oo,oo,oo,oo,oo,oo,oo,oo,oo,oo,oo,oo,oo,oo,oo,oo,oo,oo,oo,oo,oo,oo,oo,oo,oo,oo,oo,oo,oo,oo,oo,oo,oo,oo,oo,oo,oo,oo,oo,oo,oo,oo,oo,oo,oo,oo,oo,oo,oo,oo,oo,oo,oo,oo,oo,oo,oo,oo,oo,oo,oo,oo,oo,oo,oo,oo,oo,oo,oo,oo,oo,oo,oo,oo,oo,oo,oo,oo,oo,oo,oo,oo,oo,oo,oo,oo,oo,oo,oo,oo,oo,oo,oo,oo,oo,oo,oo,oo,oo,oo,oo,oo,oo,oo,oo,oo,oo,oo,oo,oo,oo,oo,oo,oo,oo,oo,oo,oo,oo,oo,oo,oo,oo,oo,oo,oo,oo,oo,oo,oo,oo,oo,oo,oo,oo,oo,oo,oo,oo] [(.l 1,.box [.p (int no),.p (.str pre),.p (int dig),.p (.sl 7 (shE shs))] tPrd)] (by omega) (by (simp only [ZZ,WW,Ze,reduceCtorEq,zd,ze,zb,zf,za];try trivial)) (by (simp only [ZZ,WW,Ze,reduceCtorEq,zd,ze,zb,zf,za];try trivial)) ⟨k+1,by omega,rfl,by rw [hF,hdr,if_pos hR.symm],(fun j hj=>by rcases Nat.lt_succ_iff_lt_or_eq.1 hj with hj|rfl;exact hz j hj;exact hR.symm),rfl,rfl⟩
  ·simp only [Bool.not_true,Bool.false_or,Bool.true_and] at hR
   simp only [ZZ,WW,Ze,reduceCtorEq,zd,ze,zb,zf,za,qaP,e0,hg,e1,qal,decide_true,Bool.not_true,Bool.false_or,Bool.or_false,Bool.or_self,Bool.and_self,Bool.true_and,Bool.false_and,false_implies]
   refine ⟨hnq,⟨by omega,by omega⟩,by omega,?_⟩
   refine br ?_ ?_
   ·intro hc
    rw [if_pos hc] at hR
    simp only [ZZ,WW,Ze,reduceCtorEq,zd,ze,zb,zf,za]
    rw [hF,hdr,← hR]
    rfl
   ·intro hc
    rw [if_neg (by rw [hc];simp)] at hR
    simp only [ZZ,WW,Ze,reduceCtorEq,zd,ze,zb,zf,za]
    ((repeat' (with_reducible apply And.intro))<;>try ((exact sc_)))
    refine qac (shs.length - (k+1)) [oo,.adr (.l 1) 0,oo,oo,oo,oo,oo,oo,oo,oo,oo,oo,oo,oo,oo,oo,oo,oo,oo,oo,oo,oo,oo,oo,oo,oo,oo,oo,oo,oo,oo,oo,oo,.p (.sl 7 (shE shs)),.p (int (shs.length:Nat)),.p (int ((k+1):Nat)),oo,oo,oo,oo,oo,oo,oo,oo,oo,oo,oo,oo,oo,oo,oo,oo,oo,oo,oo,oo,oo,oo,oo,oo,oo,oo,oo,oo,oo,oo,oo,oo,oo,oo,oo,oo,oo,oo,oo,oo,oo,oo,oo,oo,oo,oo,oo,oo,oo,oo,oo,oo,oo,oo,oo,oo,oo,oo,oo,oo,oo,oo,oo,oo,oo,oo,oo,oo,oo,oo,oo,oo,oo,oo,oo,oo,oo,oo,oo,oo,oo,oo,oo,oo,oo,oo,oo,oo,oo,oo,oo,oo,oo,oo,oo,oo,oo,oo,oo,oo,oo,oo,oo,oo,oo,oo,oo,oo,oo,oo,oo,oo,oo,oo,oo,oo,oo,oo,oo,oo,oo,oo,oo,oo,oo,oo,oo,oo,oo,oo,oo,oo,oo,oo,oo,oo,oo,oo,oo,oo,oo,oo,oo,oo,oo,oo,oo] [(.l 1,.box [.p (int no),.p (.str pre),.p (int dig),.p (.sl 7 (shE shs))] tPrd)] (by omega) (by (simp only [ZZ,WW,Ze,reduceCtorEq,zd,ze,zb,zf,za];try trivial)) (by (simp only [ZZ,WW,Ze,reduceCtorEq,zd,ze,zb,zf,za];try trivial)) ⟨k+1,by omega,rfl,by rw [hF,hdr,if_pos hR.symm],(fun j hj=>by rcases Nat.lt_succ_iff_lt_or_eq.1 hj with hj|rfl;exact hz j hj;exact hR.symm),rfl,rfl⟩
 ·have e1:decide ((x.pages.length:Int)=1)=false:=by rw [decide_eq_false_iff_not];omega
  rw [e1] at hR
  obtain ⟨hg,hg2⟩|hg:((tbE x.pages).getD 0 []=[]∧x.pages.length=0)∨(tbE x.pages).getD 0 []=[.sl 1 (strE (x.pages.getD 0 []))]:=by
   rcases Nat.eq_zero_or_pos x.pages.length with hz0|hz0
   ·refine .inl ⟨?_,hz0⟩
    have:x.pages=[]:=zq hz0
    rw [this]
    rfl
   ·exact .inr (hg0 hz0)
  all_goals
   simp only [ZZ,WW,Ze,reduceCtorEq,zd,ze,zb,zf,za,qaP,e1]
   generalize (decide (x.kind=2) || decide (x.kind=3))=q at hR ⊢
   cases q
   ·simp only [ZZ,WW,Ze,reduceCtorEq,zd,ze,zb,zf,za,qaP,e0,hg,e1,qal,decide_false,Bool.not_false,Bool.true_or,Bool.or_true,Bool.and_self,Bool.true_and,Bool.false_and,false_implies]
    refine ⟨hnq,?_⟩
    rw [if_neg (by simp)] at hR
    ((repeat' (with_reducible apply And.intro))<;>try ((exact sc_)))
    refine qac (shs.length - (k+1)) [oo,.adr (.l 1) 0,oo,oo,oo,oo,oo,oo,oo,oo,oo,oo,oo,oo,oo,oo,oo,oo,oo,oo,oo,oo,oo,oo,oo,oo,oo,oo,oo,oo,oo,oo,oo,.p (.sl 7 (shE shs)),.p (int (shs.length:Nat)),.p (int ((k+1):Nat)),oo,oo,oo,oo,oo,oo,oo,oo,oo,oo,oo,oo,oo,oo,oo,oo,oo,oo,oo,oo,oo,oo,oo,oo,oo,oo,oo,oo,oo,oo,oo,oo,oo,oo,oo,oo,oo,oo,oo,oo,oo,oo,oo,oo,oo,oo,oo,oo,oo,oo,oo,oo,oo,oo,oo,oo,oo,oo,oo,oo,oo,oo,oo,oo,oo,oo,oo,oo,oo,oo,oo,oo,oo,oo,oo,oo,oo,oo,oo,oo,oo,oo,oo,oo,oo,oo,oo,oo,oo,oo,oo,oo,oo,oo,oo,oo,oo,oo,oo,oo,oo,oo,oo,oo,oo,oo,oo,oo,oo,oo,oo,oo,oo,oo,oo,oo,oo,oo,oo,oo,oo,oo,oo,oo,oo,oo,oo,oo,oo,oo,oo,oo,oo,oo,oo,oo,oo,oo,oo,oo,oo,oo,oo,oo,oo,oo,oo] [(.l 1,.box [.p (int no),.p (.str pre),.p (int dig),.p (.sl 7 (shE shs))] tPrd)] (by omega) (by (simp only [ZZ,WW,Ze,reduceCtorEq,zd,ze,zb,zf,za];try trivial)) (by (simp only [ZZ,WW,Ze,reduceCtorEq,zd,ze,zb,zf,za];try trivial)) ⟨k+1,by omega,rfl,by rw [hF,hdr,if_pos hR.symm],(fun j hj=>by rcases Nat.lt_succ_iff_lt_or_eq.1 hj with hj|rfl;exact hz j hj;exact hR.symm),rfl,rfl⟩
   ·simp only [ZZ,WW,Ze,reduceCtorEq,zd,ze,zb,zf,za,qaP,e0,hg,e1,qal,decide_false,Bool.not_false,Bool.true_or,Bool.or_true,Bool.and_self,Bool.true_and,Bool.false_and,false_implies]
    refine ⟨hnq,?_⟩
    rw [if_pos (by simp)] at hR
    rw [hF,hdr,← hR]
    rfl
end Go.Proofs.YtehfjlpenlffmaaGreatDoor
