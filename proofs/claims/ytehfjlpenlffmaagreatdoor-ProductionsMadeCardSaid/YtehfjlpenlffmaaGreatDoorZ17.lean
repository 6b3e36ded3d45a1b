import Derived.Test.YtehfjlpenlffmaaGreatDoorZ16
import Derived.Test.YtehfjlpenlffmaaGreatDoorZ12
import Derived.Test.YtehfjlpenlffmaaGreatDoorZ9
import Derived.Test.YtehfjlpenlffmaaGreatDoorZ8
import Derived.Test.YtehfjlpenlffmaaGreatDoorZ4
set_option linter.unusedVariables false
set_option linter.unusedSimpArgs false
set_option linter.defProp false
namespace Go.Proofs.YtehfjlpenlffmaaGreatDoor
open Nat renaming eq_zero_or_pos→yp,reduceAdd→zd,reduceEqDiff→za,reduceLT→zf,reduceLeDiff→zb,reduceMul→ze,reduceSub→zu
open List renaming cons_append→zl,drop_eq_nil_of_le→zU,eq_nil_of_length_eq_zero→zA,getD→zD,getElem?_eq_getElem→zg,getElem?_eq_some_iff→zt,length_cons→zi,length_nil→zo,length_take→zP,map_cons→zk,map_nil→zr,mem_append→zJ,mem_of_getElem?→zx,mem_singleton→zF,nil_append→zm,range→zE,replicate_succ→zh,replicate_zero→zj,take_of_length_le→zC,take_succ_eq_append_getElem→zy
open Bool renaming true_and→ye
open Go.RowKit
section
variable {E:Envt}
def qaW:IC:=(sR [qT 9 .lss 8 7] (.seq (.cond (.t 9) .skip (.exit 0)) (.seq (.block 1 (sR [qM 10 8,qM 5 10] (sR [qM 11 1,qM 12 0,qM 13 5,qX 14 7 12 13,qO 15 (.ld 7 true (.t 14)),qO 16 (.callv (.t 11) [.t 15])] (.cond (.t 16) (sR [qM 17 5,qM 4 17] .ret) .skip)))) (.reg [qB 18 .add 8 (cI 1),qM 8 18]))))
def qbe:IC:=(sR [qO 4 (.mov (cI 0))] (.seq (sR [qM 6 0,qN 7 6,qO 8 (.mov (cI 0))] (.block 0 (.loop qaW))) (sR [qO 4 (.mov (cI (-1)))] .ret)))
def qbb:List IRes:=[.t 4]
theorem qdn:chkF Tryz.prog Tryz.f144 qbe qbb 19=true:=by kernel_rfl
def qaX:IC:=(sR [qO 4 (.mov (.c (.bool false)))] (sR [qM 5 0,qM 6 1,qO 7 (.call 144 [.t 5,.t 6]),qB 8 .geq 7 (cI 0),qM 4 8] .ret))
def qaU:List IRes:=[.t 4]
theorem qcU:chkF Tryz.prog Tryz.f58 qaX qaU 9=true:=by kernel_rfl
theorem qoM (l:List Sht) (f:FuncId) (ps:List PV) (q:Sht→Bool) (hl:l.length≤1000000000) (hfn:Unit→fnB Tryz.prog f=true) (hps:Zk [] (ps.map .p)=true) (hf:∀ x∈l,PCall Tryz.prog E f (.agg (shV x) :: ps) (·=.bool (q x))) (hn:∀ x,Zbg [] (.p (.agg (shV x)) :: ps.map .p)=some (.agg (shV x) :: ps)) (hr:∀ x,Zbi (.p (.agg (shV x)) :: ps.map .p)=true):PCall Tryz.prog E 144 [.sl 7 (shE l),.clo f ps] (·=int (idxF q l)):=by
 refine qae mixed Tryz.func144 qdn ?_
 simp only [a0,l0,OS.ao,zk,zr,zi,zo,zl,zm,zu,zd,zh,zj,qbe,qbb,ZZ,WW,Zd,reduceCtorEq,zd,ze,zb,zf,za]
 simp only [ZZ,WW,Zd,reduceCtorEq,zd,ze,zb,zf,za,qaj]
 refine qad (fun n fr L=>∃ (k:Nat),k≤l.length∧n=l.length - k∧(∀ x∈l.take k,q x=false)∧fr=(.p (.sl 7 (shE l))::.p (.clo f ps)::oC (oo::(.p (int (l.length:Nat))::.p (int (k:Nat))::oD (oB []))))∧L=[]) (l.length) _ [] (by simp only [qaj,ZZ,WW,Zd,reduceCtorEq,zd,ze,zb,zf,za];try trivial) (by (simp only [ZZ,WW,Zd,reduceCtorEq,zd,ze,zb,zf,za];try trivial)) ⟨0,by omega,by omega,by simp,rfl,rfl⟩ ?_
 rintro n fr L ⟨k,hk,rfl,hno,rfl,rfl⟩
 simp only [qaW,ZZ,WW,Zd,reduceCtorEq,zd,ze,zb,zf,za]
 refine br ?_ ?_
 ·intro h
  have hlt:k < l.length:=by have:=of_decide_eq_true h;omega
  obtain ⟨x,hx⟩:∃ x,l[k]?=some x:=⟨_,zg hlt⟩
  have hg:=qeB hx
  simp only [shV] at hg
  simp only [ZZ,WW,Zd,reduceCtorEq,zd,ze,zb,zf,za,hg,qaj,hfn ()]
  refine ⟨⟨by omega,by omega⟩,by omega,hps,?_⟩
  refine use1 (hf x (zx hx)) (hn x) (.inl (hr x)) ?_
  refine zS ?_
  refine br ?_ ?_
  ·intro hq
   refine zS ?_
   rw [qja hx hq hno]
  ·intro hq
   refine zS ?_
   ((with_reducible and_intros)<;>try exact sc_)
   refine qac (l.length - (k+1)) _ [] (by omega) (by (simp only [ZZ,WW,Zd,reduceCtorEq,zd,ze,zb,zf,za];try trivial)) (by (simp only [ZZ,WW,Zd,reduceCtorEq,zd,ze,zb,zf,za];try trivial)) ⟨k+1,by omega,rfl,by rw [zy hlt];intro y hy;rcases zJ.1 hy with hy|hy;exact hno y hy;rw [zF] at hy;rw [hy,(zt.1 hx).2];exact hq,rfl,rfl⟩
 ·intro h
  have hge:l.length≤k:=by have:=of_decide_eq_false h;omega
  rw [zC hge] at hno
  refine zS ?_
  rw [qgd hno]
theorem qfG (l:List Sht) (f:FuncId) (ps:List PV) (q:Sht→Bool) (hl:l.length≤1000000000) (hfn:Unit→fnB Tryz.prog f=true) (hps:Zk [] (ps.map .p)=true) (hf:∀ x∈l,PCall Tryz.prog E f (.agg (shV x) :: ps) (·=.bool (q x))) (hn:∀ x,Zbg [] (.p (.agg (shV x)) :: ps.map .p)=some (.agg (shV x) :: ps)) (hr:∀ x,Zbi (.p (.agg (shV x)) :: ps.map .p)=true):PCall Tryz.prog E 58 [.sl 7 (shE l),.clo f ps] (·=.bool (l.any q)):=by
 refine qae mixed Tryz.func58 qcU ?_
 simp only [a0,l0,OS.ao,zk,zr,zi,zo,zl,zm,zu,zd,zh,zj,qaX,qaU,ZZ,WW,Zd,reduceCtorEq,zd,ze,zb,zf,za]
 refine use1 (qoM l f ps q hl hfn hps hf hn hr) rfl (.inl rfl) ?_
 refine zS ?_
 rw [ql2]
def qaD:IC:=(sR [qT 9 .lss 8 7] (.seq (.cond (.t 9) .skip (.exit 0)) (.seq (.block 1 (sR [qM 10 8,qM 5 10] (sR [qM 11 1,qM 12 0,qM 13 5,qX 14 4 12 13,qO 15 (.ld 4 true (.t 14)),qO 16 (.callv (.t 11) [.t 15])] (.cond (.t 16) (sR [qM 17 5,qM 4 17] .ret) .skip)))) (.reg [qB 18 .add 8 (cI 1),qM 8 18]))))
def qaL:IC:=(sR [qO 4 (.mov (cI 0))] (.seq (sR [qM 6 0,qN 7 6,qO 8 (.mov (cI 0))] (.block 0 (.loop qaD))) (sR [qO 4 (.mov (cI (-1)))] .ret)))
def qaJ:List IRes:=[.t 4]
theorem qbW:chkF Tryz.prog Tryz.f149 qaL qaJ 19=true:=by kernel_rfl
def qaE:IC:=(sR [qO 4 (.mov (.c (.bool false)))] (sR [qM 5 0,qM 6 1,qO 7 (.call 149 [.t 5,.t 6]),qB 8 .geq 7 (cI 0),qM 4 8] .ret))
def qaB:List IRes:=[.t 4]
theorem qbC:chkF Tryz.prog Tryz.f65 qaE qaB 9=true:=by kernel_rfl
theorem qoN (l:List Prd) (f:FuncId) (ps:List PV) (q:Prd→Bool) (hl:l.length≤1000000000) (hfn:Unit→fnB Tryz.prog f=true) (hps:Zk [] (ps.map .p)=true) (hf:∀ x∈l,PCall Tryz.prog E f (.agg (pdV x) :: ps) (·=.bool (q x))) (hn:∀ x,Zbg [] (.p (.agg (pdV x)) :: ps.map .p)=some (.agg (pdV x) :: ps)) (hr:∀ x,Zbi (.p (.agg (pdV x)) :: ps.map .p)=true):PCall Tryz.prog E 149 [.sl 4 (pdE l),.clo f ps] (·=int (idxF q l)):=by
 refine qae mixed Tryz.func149 qbW ?_
 simp only [a0,l0,OS.ao,zk,zr,zi,zo,zl,zm,zu,zd,zh,zj,qaL,qaJ,ZZ,WW,Zd,reduceCtorEq,zd,ze,zb,zf,za]
 simp only [ZZ,WW,Zd,reduceCtorEq,zd,ze,zb,zf,za,qaR]
 refine qad (fun n fr L=>∃ (k:Nat),k≤l.length∧n=l.length - k∧(∀ x∈l.take k,q x=false)∧fr=(.p (.sl 4 (pdE l))::.p (.clo f ps)::oC (oo::(.p (int (l.length:Nat))::.p (int (k:Nat))::oD (oB []))))∧L=[]) (l.length) _ [] (by simp only [qaR,ZZ,WW,Zd,reduceCtorEq,zd,ze,zb,zf,za];try trivial) (by (simp only [ZZ,WW,Zd,reduceCtorEq,zd,ze,zb,zf,za];try trivial)) ⟨0,by omega,by omega,by simp,rfl,rfl⟩ ?_
 rintro n fr L ⟨k,hk,rfl,hno,rfl,rfl⟩
 simp only [qaD,ZZ,WW,Zd,reduceCtorEq,zd,ze,zb,zf,za]
 refine br ?_ ?_
 ·intro h
  have hlt:k < l.length:=by have:=of_decide_eq_true h;omega
  obtain ⟨x,hx⟩:∃ x,l[k]?=some x:=⟨_,zg hlt⟩
  have hg:=qla hx
  simp only [pdV] at hg
  simp only [ZZ,WW,Zd,reduceCtorEq,zd,ze,zb,zf,za,hg,qaR,hfn ()]
  refine ⟨⟨by omega,by omega⟩,by omega,hps,?_⟩
  refine use1 (hf x (zx hx)) (hn x) (.inl (hr x)) ?_
  refine zS ?_
  refine br ?_ ?_
  ·intro hq
   refine zS ?_
   rw [qja hx hq hno]
  ·intro hq
   refine zS ?_
   ((with_reducible and_intros)<;>try exact sc_)
   refine qac (l.length - (k+1)) _ [] (by omega) (by (simp only [ZZ,WW,Zd,reduceCtorEq,zd,ze,zb,zf,za];try trivial)) (by (simp only [ZZ,WW,Zd,reduceCtorEq,zd,ze,zb,zf,za];try trivial)) ⟨k+1,by omega,rfl,by rw [zy hlt];intro y hy;rcases zJ.1 hy with hy|hy;exact hno y hy;rw [zF] at hy;rw [hy,(zt.1 hx).2];exact hq,rfl,rfl⟩
 ·intro h
  have hge:l.length≤k:=by have:=of_decide_eq_false h;omega
  rw [zC hge] at hno
  refine zS ?_
  rw [qgd hno]
theorem qmU (l:List Prd) (f:FuncId) (ps:List PV) (q:Prd→Bool) (hl:l.length≤1000000000) (hfn:Unit→fnB Tryz.prog f=true) (hps:Zk [] (ps.map .p)=true) (hf:∀ x∈l,PCall Tryz.prog E f (.agg (pdV x) :: ps) (·=.bool (q x))) (hn:∀ x,Zbg [] (.p (.agg (pdV x)) :: ps.map .p)=some (.agg (pdV x) :: ps)) (hr:∀ x,Zbi (.p (.agg (pdV x)) :: ps.map .p)=true):PCall Tryz.prog E 65 [.sl 4 (pdE l),.clo f ps] (·=.bool (l.any q)):=by
 refine qae mixed Tryz.func65 qbC ?_
 simp only [a0,l0,OS.ao,zk,zr,zi,zo,zl,zm,zu,zd,zh,zj,qaE,qaB,ZZ,WW,Zd,reduceCtorEq,zd,ze,zb,zf,za]
 refine use1 (qoN l f ps q hl hfn hps hf hn hr) rfl (.inl rfl) ?_
 refine zS ?_
 rw [ql2]
def qbf:IC:=(sR [qT 9 .lss 8 7] (.seq (.cond (.t 9) .skip (.exit 0)) (.seq (.block 1 (sR [qM 10 8,qM 5 10] (sR [qM 11 1,qM 12 0,qM 13 5,qX 14 1 12 13,qL 15 14,qO 16 (.callv (.t 11) [.t 15])] (.cond (.t 16) (sR [qM 17 5,qM 4 17] .ret) .skip)))) (.reg [qB 18 .add 8 (cI 1),qM 8 18]))))
def qby:IC:=(sR [qO 4 (.mov (cI 0))] (.seq (sR [qM 6 0,qN 7 6,qO 8 (.mov (cI 0))] (.block 0 (.loop qbf))) (sR [qO 4 (.mov (cI (-1)))] .ret)))
def qbv:List IRes:=[.t 4]
theorem qed:chkF Tryz.prog Tryz.f145 qby qbv 19=true:=by kernel_rfl
def qbg:IC:=(sR [qO 4 (.mov (.c (.bool false)))] (sR [qM 5 0,qM 6 1,qO 7 (.call 145 [.t 5,.t 6]),qB 8 .geq 7 (cI 0),qM 4 8] .ret))
def qbc:List IRes:=[.t 4]
theorem qdo:chkF Tryz.prog Tryz.f62 qbg qbc 9=true:=by kernel_rfl
theorem qoL (l:List SRow) (f:FuncId) (ps:List PV) (q:SRow→Bool) (hl:l.length≤1000000000) (hfn:Unit→fnB Tryz.prog f=true) (hps:Zk [] (ps.map .p)=true) (hf:∀ x∈l,PCall Tryz.prog E f (.sl 1 (strE x) :: ps) (·=.bool (q x))) (hn:∀ x,Zbg [] (.p (.sl 1 (strE x)) :: ps.map .p)=some (.sl 1 (strE x) :: ps)) (hr:∀ x,Zbi (.p (.sl 1 (strE x)) :: ps.map .p)=true):PCall Tryz.prog E 145 [.sl 1 (tbE l),.clo f ps] (·=int (idxF q l)):=by
 refine qae mixed Tryz.func145 qed ?_
 simp only [a0,l0,OS.ao,zk,zr,zi,zo,zl,zm,zu,zd,zh,zj,qby,qbv,ZZ,WW,Zd,reduceCtorEq,zd,ze,zb,zf,za]
 simp only [ZZ,WW,Zd,reduceCtorEq,zd,ze,zb,zf,za,qaN]
 refine qad (fun n fr L=>∃ (k:Nat),k≤l.length∧n=l.length - k∧(∀ x∈l.take k,q x=false)∧fr=(.p (.sl 1 (tbE l))::.p (.clo f ps)::oC (oo::(.p (int (l.length:Nat))::.p (int (k:Nat))::oD (oB []))))∧L=[]) (l.length) _ [] (by simp only [qaN,ZZ,WW,Zd,reduceCtorEq,zd,ze,zb,zf,za];try trivial) (by (simp only [ZZ,WW,Zd,reduceCtorEq,zd,ze,zb,zf,za];try trivial)) ⟨0,by omega,by omega,by simp,rfl,rfl⟩ ?_
 rintro n fr L ⟨k,hk,rfl,hno,rfl,rfl⟩
 simp only [qbf,ZZ,WW,Zd,reduceCtorEq,zd,ze,zb,zf,za]
 refine br ?_ ?_
 ·intro h
  have hlt:k < l.length:=by have:=of_decide_eq_true h;omega
  obtain ⟨x,hx⟩:∃ x,l[k]?=some x:=⟨_,zg hlt⟩
  have hg:=qmw hx
  skip
  simp only [ZZ,WW,Zd,reduceCtorEq,zd,ze,zb,zf,za,hg,qaN,hfn ()]
  refine ⟨⟨by omega,by omega⟩,by omega,hps,?_⟩
  refine use1 (hf x (zx hx)) (hn x) (.inl (hr x)) ?_
  refine zS ?_
  refine br ?_ ?_
  ·intro hq
   refine zS ?_
   rw [qja hx hq hno]
  ·intro hq
   refine zS ?_
   ((with_reducible and_intros)<;>try exact sc_)
   refine qac (l.length - (k+1)) _ [] (by omega) (by (simp only [ZZ,WW,Zd,reduceCtorEq,zd,ze,zb,zf,za];try trivial)) (by (simp only [ZZ,WW,Zd,reduceCtorEq,zd,ze,zb,zf,za];try trivial)) ⟨k+1,by omega,rfl,by rw [zy hlt];intro y hy;rcases zJ.1 hy with hy|hy;exact hno y hy;rw [zF] at hy;rw [hy,(zt.1 hx).2];exact hq,rfl,rfl⟩
 ·intro h
  have hge:l.length≤k:=by have:=of_decide_eq_false h;omega
  rw [zC hge] at hno
  refine zS ?_
  rw [qgd hno]
theorem qmT (l:List SRow) (f:FuncId) (ps:List PV) (q:SRow→Bool) (hl:l.length≤1000000000) (hfn:Unit→fnB Tryz.prog f=true) (hps:Zk [] (ps.map .p)=true) (hf:∀ x∈l,PCall Tryz.prog E f (.sl 1 (strE x) :: ps) (·=.bool (q x))) (hn:∀ x,Zbg [] (.p (.sl 1 (strE x)) :: ps.map .p)=some (.sl 1 (strE x) :: ps)) (hr:∀ x,Zbi (.p (.sl 1 (strE x)) :: ps.map .p)=true):PCall Tryz.prog E 62 [.sl 1 (tbE l),.clo f ps] (·=.bool (l.any q)):=by
 refine qae mixed Tryz.func62 qdo ?_
 simp only [a0,l0,OS.ao,zk,zr,zi,zo,zl,zm,zu,zd,zh,zj,qbg,qbc,ZZ,WW,Zd,reduceCtorEq,zd,ze,zb,zf,za]
 refine use1 (qoL l f ps q hl hfn hps hf hn hr) rfl (.inl rfl) ?_
 refine zS ?_
 rw [ql2]
end
def qep:IC:=(sR [qT 20 .lss 19 18] (.seq (.cond (.t 20) .skip (.exit 0)) (.seq (.block 1 (sR [qX 21 1 17 19,qL 22 21,qM 4 22] (sR [qO 5 (.mov (.f 140))] (sR [qM 23 4,qN 24 23,qB 25 .gtr 24 (cI 50),qM 26 25,⟨some 27,.mov (.t 4),(some (26,false))⟩,⟨some 28,.mov (.t 5),(some (26,false))⟩,⟨some 29,.call 84 [.t 27,.t 28],(some (26,false))⟩,qO 30 (.pick (.t 26) (.c (.bool true)) (.t 29))] (.cond (.t 30) (sR [qO 2 (.mov (cI 3))] .ret) .skip))))) (.reg [qB 31 .add 19 (cI 1),qM 19 31]))))
def qf0:IC:=(sR [qO 1 (.box 85 (.t 0)),qO 2 (.mov (cI 0))] (.seq (sR [qF 6 5 1,qL 7 6,qN 8 7,qF 9 4 1,qL 10 9,qF 11 3 1,qL 12 11,qT 13 .sub 10 12,qB 14 .add 13 (cI 1),qT 15 .neq 8 14] (.cond (.t 15) (sR [qO 2 (.mov (cI 3))] .ret) .skip)) (.seq (sR [qF 16 5 1,qL 17 16,qN 18 17,qO 19 (.mov (cI 0))] (.block 0 (.loop qep))) (sR [qF 32 2 1,qL 33 32,qB 34 .eql 33 (cI 2),qM 35 34,⟨some 36,.fla 2 (.t 1),(some (35,false))⟩,⟨some 37,.ld 1 false (.t 36),(some (35,false))⟩,⟨some 38,.bin .eql (.t 37) (cI 3),(some (35,false))⟩,qO 39 (.pick (.t 35) (.c (.bool true)) (.t 38)),qM 40 39,⟨some 41,.fla 5 (.t 1),(some (40,true))⟩,⟨some 42,.ld 1 false (.t 41),(some (40,true))⟩,⟨some 43,.len (.t 42),(some (40,true))⟩,⟨some 44,.bin .neq (.t 43) (cI 1),(some (40,true))⟩,⟨some 45,.mov (.t 44),(some (40,true))⟩,⟨some 46,.fla 5 (.t 1),(some (45,false))⟩,⟨some 47,.ld 1 false (.t 46),(some (45,false))⟩,⟨some 48,.ixa 1 (.t 47) (cI 0),(some (45,false))⟩,⟨some 49,.ld 1 false (.t 48),(some (45,false))⟩,⟨some 50,.len (.t 49),(some (45,false))⟩,⟨some 51,.bin .neq (.t 50) (cI 1),(some (45,false))⟩,⟨some 52,.pick (.t 45) (.c (.bool true)) (.t 51),(some (40,true))⟩,qO 53 (.pick (.t 40) (.t 52) (.c (.bool false))),qO 54 (.call 50 [.t 53,.c (.int .i64 3)]),qM 2 54] .ret))))
def qfL:List IRes:=[.t 2]
theorem qki:chkF Tryz.prog Tryz.f55 qf0 qfL 55=true:=by kernel_rfl
def qeP:IC:=(sR [qO 2 (.mov (.c (.bool false)))] (sR [qM 3 0,qO 4 (.sln (.t 3)),qB 5 .gtr 4 (cI 80),qM 6 5,⟨some 7,.mov (.t 0),(some (6,false))⟩,⟨some 8,.call 141 [.t 7,.c (.bool false)],(some (6,false))⟩,⟨some 9,.not (.t 8),(some (6,false))⟩,qO 10 (.pick (.t 6) (.c (.bool true)) (.t 9)),qM 2 10] .ret))
def qeE:List IRes:=[.t 2]
theorem qje:chkF Tryz.prog Tryz.f140 qeP qeE 11=true:=by kernel_rfl
def qhn:IC:=(sR [qT 43 .lss 42 41] (.seq (.cond (.t 43) .skip (.exit 0)) (.seq (.block 1 (sR [qM 44 42,qX 45 7 40 42,qO 46 (.ld 7 true (.t 45)),qO 8 (.alc 85 [.str [],.str [],.int .i64 0,.int .i64 0,.int .i64 0,.nl 1,.int .i64 0]),qM 7 44,qS 7 8 46] (sR [qF 47 1 8,qL 48 47,qF 49 0 8,qL 50 49,qT 51 .eql 48 50,qM 9 51] (.seq (.drg [qF 52 0 8,qL 53 52,qO 54 (.pcall 0 53 [.t 53]),qO 55 (.not (.t 54)),qM 56 55,⟨some 57,.fla 1 (.t 8),(some (56,false))⟩,⟨some 58,.ld 1 false (.t 57),(some (56,false))⟩,⟨some 59,.pcall 1 53 [.t 58],(some (56,false))⟩,⟨some 60,.not (.t 59),(some (56,false))⟩,qO 61 (.pick (.t 56) (.c (.bool true)) (.t 60)),qO 62 (.pcall 2 50 [.t 61,.c (.int .i64 5)]),qM 63 4,qF 64 0 8,qL 65 64,qO 66 (.mpl false (.bool false) (.t 63) (.t 65)),qO 67 (.pcall 3 50 [.t 66,.c (.int .i64 6)]),qM 68 9,qO 69 (.not (.t 68)),qM 70 69,⟨some 71,.mov (.t 7),(some (70,true))⟩,⟨some 72,.bin .eql (.t 71) (cI 0),(some (70,true))⟩,⟨some 73,.mov (.t 72),(some (70,true))⟩,⟨some 74,.fla 1 (.t 8),(some (73,false))⟩,⟨some 75,.ld 1 false (.t 74),(some (73,false))⟩,⟨some 76,.fla 1 (.t 6),(some (73,false))⟩,⟨some 77,.ld 1 false (.t 76),(some (73,false))⟩,⟨some 78,.bin .neq (.t 75) (.t 77),(some (73,false))⟩,⟨some 79,.pick (.t 73) (.c (.bool true)) (.t 78),(some (70,true))⟩,qO 80 (.pick (.t 70) (.t 79) (.c (.bool false))),qO 81 (.pcall 4 50 [.t 80,.c (.int .i64 7)]),qM 82 9,qM 83 82,⟨some 84,.mov (.t 5),(some (83,true))⟩,⟨some 85,.fla 1 (.t 8),(some (83,true))⟩,⟨some 86,.ld 1 false (.t 85),(some (83,true))⟩,⟨some 87,.mpl false (.bool false) (.t 84) (.t 86),(some (83,true))⟩,qO 88 (.pick (.t 83) (.t 87) (.c (.bool false))),qO 89 (.pcall 5 50 [.t 88,.c (.int .i64 6)]),qF 90 2 8,qL 91 90,qO 92 (.pcall 6 51 [.t 91,.c (.int .i64 1),.c (.int .i64 4)]),qO 93 (.not (.t 92)),qO 94 (.pcall 7 50 [.t 93,.c (.int .i64 4)]),qF 95 6 8,qL 96 95,qO 97 (.pcall 8 51 [.t 96,.c (.int .i64 1),.c (.int .i64 1000)]),qO 98 (.not (.t 97)),qO 99 (.pcall 9 50 [.t 98,.c (.int .i64 1)]),qF 100 3 8,qL 101 100,qF 102 4 8,qL 103 102,qO 104 (.pcall 10 51 [.t 101,.c (.int .i64 1),.t 103]),qO 105 (.not (.t 104)),qM 106 105,⟨some 107,.fla 4 (.t 8),(some (106,false))⟩,⟨some 108,.ld 1 false (.t 107),(some (106,false))⟩,⟨some 109,.fla 2 (.t 1),(some (106,false))⟩,⟨some 110,.ld 1 false (.t 109),(some (106,false))⟩,⟨some 111,.pcall 11 54 [.t 110],(some (106,false))⟩,⟨some 112,.bin .sub (.t 111) (cI 1),(some (106,false))⟩,⟨some 113,.bin .gtr (.t 108) (.t 112),(some (106,false))⟩,qO 114 (.pick (.t 106) (.c (.bool true)) (.t 113)),qM 115 114,⟨some 116,.mov (.t 7),(some (115,false))⟩,⟨some 117,.bin .gtr (.t 116) (cI 0),(some (115,false))⟩,⟨some 118,.mov (.t 117),(some (115,false))⟩,⟨some 119,.fla 3 (.t 8),(some (118,true))⟩,⟨some 120,.ld 1 false (.t 119),(some (118,true))⟩,⟨some 121,.fla 4 (.t 6),(some (118,true))⟩,⟨some 122,.ld 1 false (.t 121),(some (118,true))⟩,⟨some 123,.bin .add (.t 122) (cI 1),(some (118,true))⟩,⟨some 124,.bin .neq (.t 120) (.t 123),(some (118,true))⟩,⟨some 125,.pick (.t 118) (.t 124) (.c (.bool false)),(some (115,false))⟩,qO 126 (.pick (.t 115) (.c (.bool true)) (.t 125)),qO 127 (.pcall 12 50 [.t 126,.c (.int .i64 1)]),qO 128 (.bsl 1 [.t 62,.t 67,.t 81,.t 89,.t 94,.t 99,.t 127]),qO 129 (.pcall 13 49 [.t 128]),qM 10 129]) (.seq (sR [qM 130 10,qB 131 .eql 130 (cI 0)] (.cond (.t 131) (.reg [qO 132 (.ld 7 true (.t 8)),qO 133 (.call 55 [.t 132]),qM 10 133]) .skip)) (.cut (.seq (sR [qM 134 10,qB 135 .neq 134 (cI 0)] (.cond (.t 135) (sR [qM 136 10,qM 2 136] .ret) .skip)) (.seq (.drg [qM 137 4,qF 138 0 8,qL 139 138,qM 140 5,qF 141 1 8,qO 142 (.ldn 36 1 false (.t 141)),⟨none,.mpk 36 (.t 137) (.t 139) (.c (.bool true)),none⟩,⟨none,.mpu (.t 140) (.t 142) (.c (.bool true)),none⟩]) (.reg [qO 143 (.ld 7 true (.t 8)),qS 7 6 143]))))))))) (.reg [qB 144 .add 42 (cI 1),qM 42 144]))))
def qjC:IC:=(sR [qO 1 (.box 36 (.t 0)),qO 2 (.mov (cI 0))] (.seq (.drg [qF 11 0 1,qL 12 11,qO 13 (.pcall 0 51 [.t 12,.c (.int .i64 1),.c (.int .i64 200)]),qO 14 (.not (.t 13)),qO 15 (.pcall 1 50 [.t 14,.c (.int .i64 1)]),qF 16 1 1,qL 17 16,qF 18 2 1,qL 19 18,qO 20 (.pcall 2 52 [.t 17,.t 19]),qF 21 3 1,qL 22 21,qN 23 22,qB 24 .eql 23 (cI 0),qO 25 (.pcall 3 50 [.t 24,.c (.int .i64 8)]),qF 26 3 1,qL 27 26,qN 28 27,qB 29 .gtr 28 (cI 2000),qO 30 (.pcall 4 50 [.t 29,.c (.int .i64 2)]),qO 31 (.bsl 1 [.t 15,.t 20,.t 25,.t 30]),qO 32 (.pcall 5 49 [.t 31]),qM 3 32]) (.seq (sR [qM 33 3,qB 34 .neq 33 (cI 0)] (.cond (.t 34) (sR [qM 35 3,qM 2 35] .ret) .skip)) (sR [qO 36 (.mkm 9 4),qO 37 (.mkm 9 4),qM 4 36,qM 5 37] (sR [qO 38 (.bld [.str [],.str [],.int .i64 0,.int .i64 0,.int .i64 0,.nl 1,.int .i64 0] []),qO 6 (.alc 85 [.str [],.str [],.int .i64 0,.int .i64 0,.int .i64 0,.nl 1,.int .i64 0]),qS 7 6 38] (.seq (sR [qF 39 3 1,qL 40 39,qN 41 40,qO 42 (.mov (cI 0))] (.block 0 (.loop qhn))) (sR [qO 2 (.mov (cI 0))] .ret)))))))
def qjw:List IRes:=[.t 2]
theorem qnp:chkF Tryz.prog Tryz.f12 qjC qjw 145=true:=by kernel_rfl
abbrev qg1:Nat:=85
abbrev tPrd:Nat:=36
theorem qvB (s:List UInt8) (hs:s.length≤1000000000):PCall Tryz.prog E0 140 [.str s] (·=.bool (qwH s)):=by
 refine qae mixed Tryz.func140 qje ?_
 simp only [a0,l0,OS.ao,zk,zr,zi,zo,zl,zm,zu,zd,zh,zj,qeP,qeE,ZZ,WW,Zd,reduceCtorEq,zd,ze,zb,zf,za]
 refine useG (fun _=>qmQ s false hs) rfl (.inl rfl) ?_
 refine zS ?_
 exact ⟨fun h=>by rw [h];rfl,rfl⟩
theorem qpO (x:Sht) (hx:ShB x):PCall Tryz.prog E0 55 [.agg (shV x)] (·=int (pgsE x)):=by
 obtain ⟨id,top,kd,fr0,to0,pg,ver⟩:=x
 obtain ⟨b1,b2,b3,b4,b5,b6,b7,b8⟩:=hx
 simp only at b1 b2 b3 b4 b5 b6 b7 b8
 have hs:pgsE ⟨id,top,kd,fr0,to0,pg,ver⟩=if ¬ ((pg.length:Int)=to0 - fr0+1) then 3 else if pg.any qqq=true then 3 else qah ((decide (kd=2) || decide (kd=3)) && (!decide ((pg.length:Int)=1) || !decide (((pg.getD 0 []).length:Int)=1))) 3:=rfl
 rw [hs]
 clear hs
 refine qae mixed Tryz.func55 qki ?_
 simp only [a0,l0,OS.ao,zk,zr,zi,zo,zl,zm,zu,zd,zh,zj,qf0,qfL,ZZ,WW,Zd,reduceCtorEq,zd,ze,zb,zf,za]
 simp only [shV,ZZ,WW,Zd,reduceCtorEq,zd,ze,zb,zf,za]
 simp only [ZZ,WW,Zd,reduceCtorEq,zd,ze,zb,zf,za,qaN]
 refine ⟨qan (by omega) (by omega),qan (by omega) (by omega),?_⟩
 refine br ?_ ?_
 ·intro h
  refine zS ?_
  rw [if_pos (by simpa using h)]
 intro h
 rw [if_neg (by simpa using h)]
 simp only [ZZ,WW,Zd,reduceCtorEq,zd,ze,zb,zf,za,qaN]
 refine qad (fun n fr L=>∃ (k:Nat),k≤pg.length∧n=pg.length - k∧(∀ p∈pg.take k,qqq p=false)∧fr=(oo::.adr (.l 1) 0::oD (oC (oB (oo::(.p (.sl 1 (tbE pg))::.p (int (pg.length:Nat))::.p (int (k:Nat))::oF (oB (oo::[])))))))∧L=[(.l 1,.box [.p (.str id),.p (.str top),.p (int kd),.p (int fr0),.p (int to0),.p (.sl 1 (tbE pg)),.p (int ver)] qg1)]) (pg.length) _ _ (by simp only [ZZ,WW,Zd,reduceCtorEq,zd,ze,zb,zf,za,qaN];try trivial) (by (simp only [ZZ,WW,Zd,reduceCtorEq,zd,ze,zb,zf,za];try trivial)) ⟨0,by omega,by omega,by simp,rfl,rfl⟩ ?_
 rintro n fr L ⟨k,hk,rfl,hno,rfl,rfl⟩
 simp only [qep,ZZ,WW,Zd,reduceCtorEq,zd,ze,zb,zf,za]
 refine br ?_ ?_
 ·intro h2
  have hlt:k < pg.length:=by have:=of_decide_eq_true h2;omega
  obtain ⟨p,hp⟩:∃ p,pg[k]?=some p:=⟨_,zg hlt⟩
  have hg:=qmw hp
  obtain ⟨c1,c2⟩:=b7 p (zx hp)
  simp only [ZZ,WW,Zd,reduceCtorEq,zd,ze,zb,zf,za,hg,qaN,qag]
  ((with_reducible and_intros)<;>try exact sc_)
  refine useG (fun _=>qeh p 140 [] qwH (by omega) (fun _=>by kernel_rfl) rfl (fun z hz=>qvB z (by have:=c2 z hz;omega)) (fun _=>rfl) (fun _=>rfl)) rfl (.inr rfl) ?_
  refine zS ?_
  refine ⟨fun h=>by rw [h];rfl,?_⟩
  refine br ?_ ?_
  ·intro h3
   have h4:pg.any qqq=true:=List.any_eq_true.2 ⟨p,zx hp,h3⟩
   refine zS ?_
   rw [if_pos h4]
  ·intro h3
   refine zS ?_
   ((with_reducible and_intros)<;>try exact sc_)
   refine qac (pg.length - (k+1)) _ _ (by omega) (by (simp only [ZZ,WW,Zd,reduceCtorEq,zd,ze,zb,zf,za];try trivial)) (by (simp only [ZZ,WW,Zd,reduceCtorEq,zd,ze,zb,zf,za];try trivial)) ⟨k+1,by omega,rfl,by rw [zy hlt];intro y hy;rcases zJ.1 hy with hy|hy;exact hno y hy;rw [zF] at hy;rw [hy,(zt.1 hp).2];exact h3,rfl,rfl⟩
 intro h2
 have hge:pg.length≤k:=by have:=of_decide_eq_false h2;omega
 rw [zC hge] at hno
 have h4:pg.any qqq=false:=by
  rw [List.any_eq_false]
  intro p hp
  rw [hno p hp]
  simp
 rw [if_neg (by rw [h4];simp)]
 have hg0:0 < pg.length→(tbE pg).getD 0 []=[.sl 1 (strE (pg.getD 0 []))]:=fun h=>by
  obtain ⟨p,hp⟩:∃ p,pg[0]?=some p:=⟨_,zg h⟩
  rw [qmw hp]
  simp [zD,hp]
 have e0:Int.toNat 0=0:=rfl
 have hnq:decide (kd=2)=false→(!decide (kd=2))=true:=fun h=>by rw [h];rfl
 by_cases hl1:pg.length=1
 ·have hg:=hg0 (by omega)
  have e1:decide ((pg.length:Int)=1)=true:=by rw [hl1];rfl
  rw [e1]
  simp only [ZZ,WW,Zd,reduceCtorEq,zd,ze,zb,zf,za,qaN,e1]
  generalize (decide (kd=2) || decide (kd=3))=q
  cases q
  all_goals
   simp only [ZZ,WW,Zd,reduceCtorEq,zd,ze,zb,zf,za,qaN,e0,hg,e1,qag,decide_true,Bool.not_true,Bool.false_or,Bool.or_false,Bool.or_self,Bool.and_self,ye,Bool.false_and,false_implies]
   refine ⟨hnq,?_⟩
   ((with_reducible and_intros)<;>try exact sc_)
   refine use1 (qav _ 3) rfl (.inl rfl) ?_
   refine zS ?_
   try first|trivial|rfl
 ·have e1:decide ((pg.length:Int)=1)=false:=by rw [decide_eq_false_iff_not];omega
  rw [e1]
  rcases yp pg.length with hz|hz
  ·have hg:(tbE pg).getD 0 []=[]:=by
    have:pg=[]:=zA hz
    rw [this]
    rfl
   simp only [ZZ,WW,Zd,reduceCtorEq,zd,ze,zb,zf,za,qaN,e1]
   generalize (decide (kd=2) || decide (kd=3))=q
   cases q
   all_goals
    simp only [ZZ,WW,Zd,reduceCtorEq,zd,ze,zb,zf,za,qaN,e0,hg,e1,qag,decide_false,Bool.not_false,Bool.true_or,Bool.or_true,Bool.and_self,ye,Bool.false_and,false_implies]
    refine ⟨hnq,?_⟩
    ((with_reducible and_intros)<;>try exact sc_)
    refine use1 (qav _ 3) rfl (.inl rfl) ?_
    refine zS ?_
    try first|trivial|rfl
  ·have hg:=hg0 hz
   simp only [ZZ,WW,Zd,reduceCtorEq,zd,ze,zb,zf,za,qaN,e1]
   generalize (decide (kd=2) || decide (kd=3))=q
   cases q
   all_goals
    simp only [ZZ,WW,Zd,reduceCtorEq,zd,ze,zb,zf,za,qaN,e0,hg,e1,qag,decide_false,Bool.not_false,Bool.true_or,Bool.or_true,Bool.and_self,ye,Bool.false_and,false_implies]
    refine ⟨hnq,?_⟩
    ((with_reducible and_intros)<;>try exact sc_)
    refine use1 (qav _ 3) rfl (.inl rfl) ?_
    refine zS ?_
    try first|trivial|rfl
theorem qoa {p:List UInt8} {d:Int} (h:qfC p d=0):4≤d∧d≤9:=by
 have:=qax h (qah (!inE d 4 9) 1) (by simp)
 rw [qiD (by decide)] at this
 simp only [Bool.not_eq_false',inE,Bool.and_eq_true,decide_eq_true_eq,Bool.not_eq_true',decide_eq_false_iff_not] at this
 omega
def qvT (f:Sht→List UInt8) (kv:List (List UInt8×PV)) (l:List Sht):Prop:=∀ s,mpD kv s (.bool false)=.bool (l.any fun y=>decide (f y=s))
theorem qrf (f:Sht→List UInt8):qvT f [] []:=fun s=>rfl
theorem qre {f:Sht→List UInt8} {kv:List (List UInt8×PV)} {l:List Sht} (h:qvT f kv l) (x:Sht):qvT f (mpS kv (f x) (.bool true)) (l++[x]):=fun s=>by
 have h:=h s
 unfold mpD at h ⊢
 rw [qlc,List.any_append]
 by_cases hs:f x=s
 ·simp [hs]
 ·rw [if_neg hs,h]
  simp [hs]
theorem qvf (dig:Int) (l:List Sht) {k:Nat} (h:k < l.length):((zE l.length).map (shP dig l))[k]?=some (shP dig l k):=by
 rw [List.getElem?_map,List.getElem?_range h];rfl
set_option maxHeartbeats 8000000 in
set_option maxRecDepth 100000 in
theorem qyR (p:Prd) (hp:PdB p):PCall Tryz.prog E0 12 [.agg (pdV p)] (·=int (prdF p)):=by
 obtain ⟨no,pre,dig,shs⟩:=p
 obtain ⟨b1,b2,b3,b4,b5⟩:=hp
 simp only at b1 b2 b3 b4 b5
 have hs:prdF ⟨no,pre,dig,shs⟩=qaf [qah (!inE no 1 200) 1,qfC pre dig,qah (decide (shs.length=0)) 8,qah (decide (2000 < shs.length)) 2,qaf ((zE shs.length).map (shP dig shs))]:=rfl
 have e8:decide ((shs.length:Int)=0)=decide (shs.length=0):=decide_eq_decide.2 (by omega)
 have e2:decide ((2000:Int) < (shs.length:Int))=decide (2000 < shs.length):=decide_eq_decide.2 (by omega)
 rw [hs]
 clear hs
 refine qae mixed Tryz.func12 qnp ?_
 simp only [a0,l0,OS.ao,zk,zr,zi,zo,zl,zm,zu,zd,zh,zj,qjC,qjw,ZZ,WW,Zd,reduceCtorEq,zd,ze,zb,zf,za]
 simp only [pdV,ZZ,WW,Zd,reduceCtorEq,zd,ze,zb,zf,za]
 refine ⟨[.bool (inE no 1 200),int (qah (!inE no 1 200) 1),int (qfC pre dig),int (qah (decide (shs.length=0)) 8),int (qah (decide (2000 < shs.length)) 2),int (qaf [qah (!inE no 1 200) 1,qfC pre dig,qah (decide (shs.length=0)) 8,qah (decide (2000 < shs.length)) 2])],?_⟩
 simp only [ZZ,WW,Zd,reduceCtorEq,zd,ze,zb,zf,za,qaj,e8,e2]
 refine ⟨usep (qmS _ _ _) rfl (.inl rfl),usep (qav _ 1) rfl (.inl rfl),usep (qkg pre dig (by omega)) rfl (.inl rfl),usep (qav _ 8) rfl (.inl rfl),usep (qav _ 2) rfl (.inl rfl),usep (qbK [qah (!inE no 1 200) 1,qfC pre dig,qah (decide (shs.length=0)) 8,qah (decide (2000 < shs.length)) 2] (by simp)) rfl (.inl rfl),?_⟩
 have hpre:∀ a b c d z:Int,qaf [a,b,c,d,z]=if qaf [a,b,c,d]=0 then z else qaf [a,b,c,d]:=by
  intro a b c d z
  simp only [qaf]
  by_cases h1:a=0<;>by_cases h2:b=0<;>by_cases h3:c=0<;>by_cases h4:d=0<;>by_cases h5:z=0<;>simp [h1,h2,h3,h4,h5]
 rw [hpre]
 refine br ?_ ?_
 ·intro h
  have h1:¬ qaf [qah (!inE no 1 200) 1,qfC pre dig,qah (decide (shs.length=0)) 8,qah (decide (2000 < shs.length)) 2]=0:=by simpa using h
  rw [if_neg h1]
  refine zS ?_
  trivial
 intro h
 have h1:qaf [qah (!inE no 1 200) 1,qfC pre dig,qah (decide (shs.length=0)) 8,qah (decide (2000 < shs.length)) 2]=0:=by simpa using h
 rw [if_pos h1]
 have hhd:qfC pre dig=0:=qax h1 _ (by simp)
 have hd:4≤dig∧dig≤9:=qoa hhd
 clear h h1 hpre e8 e2
 have hget:=fun {k:Nat} (h:k < shs.length)=>qa3 _ k _ (qvf dig shs h)
 obtain ⟨G,hG⟩:∃ G,(zE shs.length).map (shP dig shs)=G:=⟨_,rfl⟩
 have hGl:G.length=shs.length:=by rw [← hG];simp
 rw [hG] at hget ⊢
 simp only [ZZ,WW,Zd,reduceCtorEq,zd,ze,zb,zf,za,qaj]
 refine qad (fun n fr L=>∃ (k:Nat) (b:Sht) (c5:PV) (kv:List (List UInt8×PV)) (kw:List (List UInt8×PV)),k≤shs.length∧n=shs.length - k∧(qaf G=qaf (G.drop k))∧(0 < k→b=shs.getD (k - 1) sh0)∧(ShB b)∧(qvT (·.id) kv (shs.take k))∧(qvT (·.top) kw (shs.take k))∧fr=(oo::.adr (.l 1) 0::oo::oo::.mp (.l 36)::.mp (.l 37)::.adr (.l 6) 0::oF (oo::(.p (.sl 7 (shE shs))::.p (int (shs.length:Nat))::.p (int (k:Nat))::oG (oF (oC (oB []))))))∧L=[(.l 1,.box [.p (int no),.p (.str pre),.p (int dig),.p (.sl 7 (shE shs))] tPrd),(.l 36,.map kv 9 4),(.l 37,.map kw 9 4),(.l 6,.box [.p (.str b.id),.p (.str b.top),.p (int b.kind),.p (int b.fr_),.p (int b.to_),.p c5,.p (int b.ver)] qg1)]) (shs.length) (oo::.adr (.l 1) 0::oo::oo::.mp (.l 36)::.mp (.l 37)::.adr (.l 6) 0::oF (oo::(.p (.sl 7 (shE shs))::.p (int (shs.length:Nat))::.p (int (0:Nat))::oG (oF (oC (oB [])))))) [(.l 1,.box [.p (int no),.p (.str pre),.p (int dig),.p (.sl 7 (shE shs))] tPrd),(.l 36,.map [] 9 4),(.l 37,.map [] 9 4),(.l 6,.box [.p (.str sh0.id),.p (.str sh0.top),.p (int sh0.kind),.p (int sh0.fr_),.p (int sh0.to_),.p (.nl 1),.p (int sh0.ver)] qg1)] (by simp only [ZZ,WW,Zd,reduceCtorEq,zd,ze,zb,zf,za,qaj];try trivial) (by simp only [sh0,ZZ,WW,Zd,reduceCtorEq,zd,ze,zb,zf,za]) ⟨0,sh0,.nl 1,[],[],by omega,by omega,rfl,(fun h=>by omega),qCH,qrf _,qrf _,rfl,rfl⟩ ?_
 rintro n fr L ⟨k,b,c5,kv,kw,hk,rfl,hF,hb,hbB,hkv,hkw,rfl,rfl⟩
 simp only [qhn,ZZ,WW,Zd,reduceCtorEq,zd,ze,zb,zf,za]
 refine br ?_ ?_
 rotate_left
 ·intro h
  have hge:shs.length≤k:=by have:=of_decide_eq_false h;omega
  refine zS ?_
  rw [hF,zU (by omega)]
  rfl
 intro h
 have hlt:k < shs.length:=by have:=of_decide_eq_true h;omega
 obtain ⟨x,hx⟩:∃ x,shs[k]?=some x:=⟨_,zg hlt⟩
 have hg:=qeB hx
 simp only [shV] at hg
 have hxB:=b5 x (zx hx)
 have hxd:shs.getD k sh0=x:=by simp [zD,hx]
 have htk:shs.take (k+1)=shs.take k++[x]:=by rw [zy hlt,(zt.1 hx).2]
 have hdr:=hget hlt
 have k0:decide ((k:Int)=0)=decide (k=0):=decide_eq_decide.2 (by omega)
 have kp:decide ((0:Int) < (k:Int))=decide (0 < k):=decide_eq_decide.2 (by omega)
 have hA:shA dig shs k=qaf [qah (!keyB x.id || !keyB x.top) 5,qah ((shs.take k).any fun y=>decide (y.id=x.id)) 6,qah (!decide (x.top=x.id) && (decide (k=0) || !decide (x.top=b.top))) 7,qah (decide (x.top=x.id) && (shs.take k).any fun y=>decide (y.top=x.top)) 6,qah (!inE x.kind 1 4) 4,qah (!inE x.ver 1 1000) 1,qah (!inE x.fr_ 1 x.to_ || decide (powF dig - 1 < x.to_) || (decide (0 < k) && !decide (x.fr_=b.to_+1))) 1]:=by
  unfold shA
  simp only [hxd]
  rcases yp k with hk0|hk0
  ·have z1:decide (0 < k)=false:=by rw [decide_eq_false_iff_not];omega
   have z2:decide (k=0)=true:=by rw [decide_eq_true_eq];omega
   simp only [z1,z2,Bool.true_or,Bool.false_and]
  ·rw [hb hk0]
 have m1:=hkv x.id
 have m2:=hkw x.top
 have p1:=qre hkv x
 have p2:=qre hkw x
 rw [← htk] at p1 p2
 have hpw:=qmz hd.2
 have hxp:=qpO x hxB
 simp only [shV] at hxp
 obtain ⟨x1,x2,x3,x4,x5,x6,x7,x8⟩:=hxB
 have hb5:=hbB.to_
 simp only [ZZ,WW,Zd,reduceCtorEq,zd,ze,zb,zf,za,hg,qaj]
 ((with_reducible and_intros)<;>try exact sc_)
 refine ⟨[.bool (keyB x.id),.bool (keyB x.top),int (qah (!keyB x.id || !keyB x.top) 5),int (qah ((shs.take k).any fun y=>decide (y.id=x.id)) 6),int (qah (!decide (x.top=x.id) && (decide (k=0) || !decide (x.top=b.top))) 7),int (qah (decide (x.top=x.id) && (shs.take k).any fun y=>decide (y.top=x.top)) 6),.bool (inE x.kind 1 4),int (qah (!inE x.kind 1 4) 4),.bool (inE x.ver 1 1000),int (qah (!inE x.ver 1 1000) 1),.bool (inE x.fr_ 1 x.to_),int (powF dig),int (qah (!inE x.fr_ 1 x.to_ || decide (powF dig - 1 < x.to_) || (decide (0 < k) && !decide (x.fr_=b.to_+1))) 1),int (shA dig shs k)],?_⟩
 simp only [ZZ,WW,Zd,reduceCtorEq,zd,ze,zb,zf,za,m1,m2,k0,kp]
 (repeat' (with_reducible apply And.intro))
 all_goals try (first|exact usep (qav _ _) rfl (.inl rfl)|exact usep (qmS _ _ _) rfl (.inl rfl)|exact usep (qrX _ (by omega)) rfl (.inl rfl)|exact fun hq=>⟨hq,usep (qrX _ (by omega)) rfl (.inl rfl)⟩|exact fun hq=>⟨hq,usep (qpH dig (by omega) (by omega)) rfl (.inl rfl)⟩|exact usep (qbK [_,_,_,_,_,_,_] (by simp)) rfl (.inl rfl)|(intro hq;rw [hq];rfl)|(intro hq;simp [hq];done))
 all_goals try (first|exact fun hq=>⟨hq,qan (by omega) (by omega)⟩|(rw [hA];exact usep (qbK [_,_,_,_,_,_,_] (by simp)) rfl (.inl rfl)))
 have hxd2:shP dig shs k=if shA dig shs k=0 then pgsE x else shA dig shs k:=by unfold shP;rw [hxd]
 refine qoo (fun fr L=>fr=(oo::.adr (.l 1) 0::oo::oo::.mp (.l 36)::.mp (.l 37)::.adr (.l 6) 0::.p (int (k:Nat))::.adr (.l 8) 0::oo::.p (int (shP dig shs k))::oE (oD (oC (oo::(.p (.sl 7 (shE shs))::.p (int (shs.length:Nat))::.p (int (k:Nat))::oG (oF (oC (oB []))))))))∧L=[(.l 1,.box [.p (int no),.p (.str pre),.p (int dig),.p (.sl 7 (shE shs))] tPrd),(.l 36,.map kv 9 4),(.l 37,.map kw 9 4),(.l 6,.box [.p (.str b.id),.p (.str b.top),.p (int b.kind),.p (int b.fr_),.p (int b.to_),.p c5,.p (int b.ver)] qg1),(.l 8,.box [.p (.str x.id),.p (.str x.top),.p (int x.kind),.p (int x.fr_),.p (int x.to_),.p (.sl 1 (tbE x.pages)),.p (int x.ver)] qg1)]) ?_ ?_ ?_
 ·intro h2
  have h3:shA dig shs k=0:=by simpa using h2
  rw [hxd2,if_pos h3]
  refine zS ?_
  refine use1 hxp rfl (.inl rfl) ?_
  refine zS ?_
  exact qkX _ _ (by (simp only [ZZ,WW,Zd,reduceCtorEq,zd,ze,zb,zf,za];try trivial)) zE_ ⟨rfl,rfl⟩
 ·intro h2
  have h3:¬ shA dig shs k=0:=by simpa using h2
  rw [hxd2,if_neg h3]
  refine zS ?_
  exact qkX _ _ (by (simp only [ZZ,WW,Zd,reduceCtorEq,zd,ze,zb,zf,za];try trivial)) zE_ ⟨rfl,rfl⟩
 rintro fr L ⟨rfl,rfl⟩
 clear hxp hA hxd2
 refine zS ?_
 refine br ?_ ?_
 ·intro h2
  have h3:¬ shP dig shs k=0:=by simpa using h2
  refine zS ?_
  rw [hF,hdr,if_neg h3]
 ·intro h2
  have h3:shP dig shs k=0:=by simpa using h2
  rw [if_pos h3] at hdr
  refine zS ?_
  refine drg0 ?_
  refine zS ?_
  ((with_reducible and_intros)<;>try exact sc_)
  refine qac (shs.length - (k+1)) (oo::.adr (.l 1) 0::oo::oo::.mp (.l 36)::.mp (.l 37)::.adr (.l 6) 0::oF (oo::(.p (.sl 7 (shE shs))::.p (int (shs.length:Nat))::.p (int ((k+1):Nat))::oG (oF (oC (oB [])))))) [(.l 1,.box [.p (int no),.p (.str pre),.p (int dig),.p (.sl 7 (shE shs))] tPrd),(.l 36,.map (mpS kv x.id (.bool true)) 9 4),(.l 37,.map (mpS kw x.top (.bool true)) 9 4),(.l 6,.box [.p (.str (x).id),.p (.str (x).top),.p (int (x).kind),.p (int (x).fr_),.p (int (x).to_),.p (.sl 1 (tbE x.pages)),.p (int (x).ver)] qg1)] (by omega) (by (simp only [ZZ,WW,Zd,reduceCtorEq,zd,ze,zb,zf,za];try trivial)) (by (simp only [ZZ,WW,Zd,reduceCtorEq,zd,ze,zb,zf,za];try trivial)) ⟨k+1,x,.sl 1 (tbE x.pages),mpS kv x.id (.bool true),mpS kw x.top (.bool true),by omega,rfl,by rw [hF,hdr],(fun _=>by rw [Nat.add_sub_cancel];exact hxd.symm),⟨x1,x2,x3,x4,x5,x6,x7,x8⟩,p1,p2,rfl,rfl⟩
def qil:IC:=(sR [qO 2 (.mov (.c (.bool false)))] (sR [qM 3 0,qO 4 (.sln (.t 3)),qB 5 .geq 4 (cI 1),qM 6 5,⟨some 7,.mov (.t 0),(some (6,true))⟩,⟨some 8,.sln (.t 7),(some (6,true))⟩,⟨some 9,.bin .leq (.t 8) (cI 40),(some (6,true))⟩,qO 10 (.pick (.t 6) (.t 9) (.c (.bool false))),qM 11 10,⟨some 12,.mov (.t 0),(some (11,true))⟩,⟨some 13,.call 143 [.t 12,.c (.str [97,98,99,100,101,102,103,104,105,106,107,108,109,110,111,112,113,114,115,116,117,118,119,120,121,122,48,49,50,51,52,53,54,55,56,57,45,95])],(some (11,true))⟩,qO 14 (.pick (.t 11) (.t 13) (.c (.bool false))),qM 15 14,⟨some 16,.mov (.t 0),(some (15,true))⟩,⟨some 17,.ssl (.t 16) none (some (cI 1)),(some (15,true))⟩,⟨some 18,.call 143 [.t 17,.c (.str [97,98,99,100,101,102,103,104,105,106,107,108,109,110,111,112,113,114,115,116,117,118,119,120,121,122])],(some (15,true))⟩,qO 19 (.pick (.t 15) (.t 18) (.c (.bool false))),qM 2 19] .ret))
def qhW:List IRes:=[.t 2]
theorem qmj:chkF Tryz.prog Tryz.f57 qil qhW 20=true:=by kernel_rfl
section
variable {E:Envt}
theorem qud (s:List UInt8) (hs:s.length≤1000000000):PCall Tryz.prog E 57 [.str s] (·=.bool (keyB s)):=by
 have hset:kcSet=[97,98,99,100,101,102,103,104,105,106,107,108,109,110,111,112,113,114,115,116,117,118,119,120,121,122,48,49,50,51,52,53,54,55,56,57,45,95]:=rfl
 refine qae mixed Tryz.func57 qmj ?_
 simp only [a0,l0,OS.ao,zk,zr,zi,zo,zl,zm,zu,zd,zh,zj,qil,qhW,ZZ,WW,Zd,reduceCtorEq,zd,ze,zb,zf,za]
 refine useG (fun _=>qsy s kcSet hs (by decide) (by decide)) rfl (.inl rfl) ?_
 refine zS ?_
 ((with_reducible and_intros)<;>try exact sc_)
 refine useG (fun _=>qsy (s.take 1) smSet (by simp;omega) (by decide) (by decide)) rfl (.inl rfl) ?_
 refine zS ?_
 have e1:(fun c=>kcSet.contains c)=kcB:=funext qv5
 have e2:(fun c=>smSet.contains c)=smB:=funext qvc
 rw [qj8,qj8,e1,e2,keyB]
 cases s with
 |nil=>rfl
 |cons c r=>
  simp only [List.take_succ_cons,List.take_zero,List.all_cons,List.all_nil,Bool.and_true,List.headD_cons,inE]
  generalize decide ((1:Int)≤((c :: r).length:Nat))=b1
  generalize decide (((c :: r).length:Nat)≤(40:Int))=b2
  generalize r.all kcB=b3
  generalize smB c=b4
  generalize kcB c=b5
  cases b1<;>cases b2<;>cases b3<;>cases b4<;>cases b5<;>rfl
end
def qcv:IC:=(sR [qT 36 .lss 35 34] (.seq (.cond (.t 36) .skip (.exit 0)) (.seq (.block 1 (sR [qM 37 35,qX 38 7 33 35,qO 39 (.ld 7 true (.t 38)),qO 5 (.alc 85 [.str [],.str [],.int .i64 0,.int .i64 0,.int .i64 0,.nl 1,.int .i64 0]),qM 4 37,qS 7 5 39,⟨none,.re,none⟩] (sR [qF 40 3 1,qL 41 40,qM 42 4,qO 43 (.vsl 7 (.t 41) none (some (.t 42))),qM 6 43] (.seq (.drg [qM 44 4,qB 45 .gtr 44 (cI 0),qM 46 45,⟨some 47,.mov (.t 6),(some (46,true))⟩,⟨some 48,.mov (.t 4),(some (46,true))⟩,⟨some 49,.bin .sub (.t 48) (cI 1),(some (46,true))⟩,⟨some 50,.ixa 7 (.t 47) (.t 49),(some (46,true))⟩,⟨some 51,.fla 1 (.t 50),(some (46,true))⟩,⟨some 52,.ld 1 false (.t 51),(some (46,true))⟩,⟨some 53,.fla 1 (.t 5),(some (46,true))⟩,⟨some 54,.ld 1 false (.t 53),(some (46,true))⟩,⟨some 55,.bin .eql (.t 52) (.t 54),(some (46,true))⟩,qO 56 (.pick (.t 46) (.t 55) (.c (.bool false))),qM 7 56]) (.cut (.block 2 (sR [qF 58 0 5,qL 59 58,qO 60 (.call 57 [.t 59]),qO 61 (.not (.t 60)),qM 62 61,⟨some 63,.fla 1 (.t 5),(some (62,false))⟩,⟨some 64,.ld 1 false (.t 63),(some (62,false))⟩,⟨some 65,.call 57 [.t 64],(some (62,false))⟩,⟨some 66,.not (.t 65),(some (62,false))⟩,qO 67 (.pick (.t 62) (.c (.bool true)) (.t 66)),qM 57 67] (.cond (.t 57) (sR [qO 2 (.mov (cI 5))] .ret) (sR [qM 69 6,qO 70 (.mkf 59 [.t 5]),qO 71 (.call 58 [.t 69,.t 70]),qM 68 71] (.cond (.t 68) (sR [qO 2 (.mov (cI 6))] .ret) (sR [qM 73 7,qO 74 (.not (.t 73)),qM 75 74,⟨some 76,.fla 1 (.t 5),(some (75,true))⟩,⟨some 77,.ld 1 false (.t 76),(some (75,true))⟩,⟨some 78,.fla 0 (.t 5),(some (75,true))⟩,⟨some 79,.ld 1 false (.t 78),(some (75,true))⟩,⟨some 80,.bin .neq (.t 77) (.t 79),(some (75,true))⟩,qO 81 (.pick (.t 75) (.t 80) (.c (.bool false))),qM 72 81] (.cond (.t 72) (sR [qO 2 (.mov (cI 7))] .ret) (sR [qM 83 7,qO 84 (.not (.t 83)),qM 85 84,⟨some 86,.mov (.t 6),(some (85,true))⟩,⟨some 87,.mkf 60 [.t 5],(some (85,true))⟩,⟨some 88,.call 58 [.t 86,.t 87],(some (85,true))⟩,qO 89 (.pick (.t 85) (.t 88) (.c (.bool false))),qM 82 89] (.cond (.t 82) (sR [qO 2 (.mov (cI 6))] .ret) (sR [qF 91 2 5,qL 92 91,qB 93 .lss 92 (cI 1),qM 94 93,⟨some 95,.fla 2 (.t 5),(some (94,false))⟩,⟨some 96,.ld 1 false (.t 95),(some (94,false))⟩,⟨some 97,.bin .gtr (.t 96) (cI 4),(some (94,false))⟩,qO 98 (.pick (.t 94) (.c (.bool true)) (.t 97)),qM 90 98] (.cond (.t 90) (sR [qO 2 (.mov (cI 4))] .ret) (sR [qF 100 6 5,qL 101 100,qB 102 .lss 101 (cI 1),qM 103 102,⟨some 104,.fla 6 (.t 5),(some (103,false))⟩,⟨some 105,.ld 1 false (.t 104),(some (103,false))⟩,⟨some 106,.bin .gtr (.t 105) (cI 1000),(some (103,false))⟩,qO 107 (.pick (.t 103) (.c (.bool true)) (.t 106)),qM 99 107] (.cond (.t 99) (sR [qO 2 (.mov (cI 1))] .ret) (.seq (.drg [qF 109 3 5,qL 110 109,qB 111 .lss 110 (cI 1),qM 112 111,⟨some 113,.fla 3 (.t 5),(some (112,false))⟩,⟨some 114,.ld 1 false (.t 113),(some (112,false))⟩,⟨some 115,.fla 4 (.t 5),(some (112,false))⟩,⟨some 116,.ld 1 false (.t 115),(some (112,false))⟩,⟨some 117,.bin .gtr (.t 114) (.t 116),(some (112,false))⟩,qO 118 (.pick (.t 112) (.c (.bool true)) (.t 117)),qM 119 118,⟨some 120,.fla 4 (.t 5),(some (119,false))⟩,⟨some 121,.ld 1 false (.t 120),(some (119,false))⟩,⟨some 122,.fla 2 (.t 1),(some (119,false))⟩,⟨some 123,.ld 1 false (.t 122),(some (119,false))⟩,⟨some 124,.pcall 0 61 [.t 123],(some (119,false))⟩,⟨some 125,.bin .geq (.t 121) (.t 124),(some (119,false))⟩,qO 126 (.pick (.t 119) (.c (.bool true)) (.t 125)),qM 127 126,⟨some 128,.mov (.t 4),(some (127,false))⟩,⟨some 129,.bin .gtr (.t 128) (cI 0),(some (127,false))⟩,⟨some 130,.mov (.t 129),(some (127,false))⟩,⟨some 131,.fla 3 (.t 5),(some (130,true))⟩,⟨some 132,.ld 1 false (.t 131),(some (130,true))⟩,⟨some 133,.mov (.t 6),(some (130,true))⟩,⟨some 134,.mov (.t 4),(some (130,true))⟩,⟨some 135,.bin .sub (.t 134) (cI 1),(some (130,true))⟩,⟨some 136,.ixa 7 (.t 133) (.t 135),(some (130,true))⟩,⟨some 137,.fla 4 (.t 136),(some (130,true))⟩,⟨some 138,.ld 1 false (.t 137),(some (130,true))⟩,⟨some 139,.bin .add (.t 138) (cI 1),(some (130,true))⟩,⟨some 140,.bin .neq (.t 132) (.t 139),(some (130,true))⟩,⟨some 141,.pick (.t 130) (.t 140) (.c (.bool false)),(some (127,false))⟩,qO 142 (.pick (.t 127) (.c (.bool true)) (.t 141)),qM 108 142]) (.cut (.cond (.t 108) (sR [qO 2 (.mov (cI 1))] .ret) (sR [qF 144 5 5,qL 145 144,qN 146 145,qF 147 4 5,qL 148 147,qF 149 3 5,qL 150 149,qT 151 .sub 148 150,qB 152 .add 151 (cI 1),qT 153 .neq 146 152,qM 154 153,⟨some 155,.fla 5 (.t 5),(some (154,false))⟩,⟨some 156,.ld 1 false (.t 155),(some (154,false))⟩,⟨some 157,.call 62 [.t 156,.f 63],(some (154,false))⟩,qO 158 (.pick (.t 154) (.c (.bool true)) (.t 157)),qM 143 158] (.cond (.t 143) (sR [qO 2 (.mov (cI 3))] .ret) (sR [qF 160 2 5,qL 161 160,qB 162 .eql 161 (cI 2),qM 163 162,⟨some 164,.fla 2 (.t 5),(some (163,false))⟩,⟨some 165,.ld 1 false (.t 164),(some (163,false))⟩,⟨some 166,.bin .eql (.t 165) (cI 3),(some (163,false))⟩,qO 167 (.pick (.t 163) (.c (.bool true)) (.t 166)),qM 168 167,⟨some 169,.fla 5 (.t 5),(some (168,true))⟩,⟨some 170,.ld 1 false (.t 169),(some (168,true))⟩,⟨some 171,.len (.t 170),(some (168,true))⟩,⟨some 172,.bin .neq (.t 171) (cI 1),(some (168,true))⟩,⟨some 173,.mov (.t 172),(some (168,true))⟩,⟨some 174,.fla 5 (.t 5),(some (173,false))⟩,⟨some 175,.ld 1 false (.t 174),(some (173,false))⟩,⟨some 176,.ixa 1 (.t 175) (cI 0),(some (173,false))⟩,⟨some 177,.ld 1 false (.t 176),(some (173,false))⟩,⟨some 178,.len (.t 177),(some (173,false))⟩,⟨some 179,.bin .neq (.t 178) (cI 1),(some (173,false))⟩,⟨some 180,.pick (.t 173) (.c (.bool true)) (.t 179),(some (168,true))⟩,qO 181 (.pick (.t 168) (.t 180) (.c (.bool false))),qM 159 181] (.cond (.t 159) (sR [qO 2 (.mov (cI 3))] .ret) .skip))))))))))))))))))))))))) (.reg [qB 182 .add 35 (cI 1),qM 35 182]))))
def qc8:IC:=(sR [qO 1 (.box 36 (.t 0)),qO 2 (.mov (cI 0))] (.seq (sR [qF 8 0 1,qL 9 8,qB 10 .lss 9 (cI 1),qM 11 10,⟨some 12,.fla 0 (.t 1),(some (11,false))⟩,⟨some 13,.ld 1 false (.t 12),(some (11,false))⟩,⟨some 14,.bin .gtr (.t 13) (cI 200),(some (11,false))⟩,qO 15 (.pick (.t 11) (.c (.bool true)) (.t 14))] (.cond (.t 15) (sR [qO 2 (.mov (cI 1))] .ret) .skip)) (.seq (sR [qF 16 1 1,qL 17 16,qF 18 2 1,qL 19 18,qO 20 (.call 56 [.t 17,.t 19]),qM 3 20] (sR [qM 21 3,qB 22 .neq 21 (cI 0)] (.cond (.t 22) (sR [qM 23 3,qM 2 23] .ret) .skip))) (.seq (sR [qF 24 3 1,qL 25 24,qN 26 25,qB 27 .eql 26 (cI 0)] (.cond (.t 27) (sR [qO 2 (.mov (cI 8))] .ret) .skip)) (.seq (sR [qF 28 3 1,qL 29 28,qN 30 29,qB 31 .gtr 30 (cI 2000)] (.cond (.t 31) (sR [qO 2 (.mov (cI 2))] .ret) .skip)) (.seq (sR [qF 32 3 1,qL 33 32,qN 34 33,qO 35 (.mov (cI 0))] (.block 0 (.loop qcv))) (sR [qO 2 (.mov (cI 0))] .ret)))))))
def qc0:List IRes:=[.t 2]
theorem qgU:chkF Tryz.prog Tryz.f13 qc8 qc0 183=true:=by kernel_rfl
def qcF:IC:=(sR [qO 2 (.box 85 (.t 0)),qO 3 (.mov (.c (.bool false)))] (sR [qF 4 0 2,qL 5 4,qF 6 0 1,qL 7 6,qT 8 .eql 5 7,qM 3 8] .ret))
def qcC:List IRes:=[.t 3]
theorem qgh:chkF Tryz.prog Tryz.f59 qcF qcC 9=true:=by kernel_rfl
def qcE:IC:=(sR [qO 2 (.box 85 (.t 0)),qO 3 (.mov (.c (.bool false)))] (sR [qF 4 1 2,qL 5 4,qF 6 1 1,qL 7 6,qT 8 .eql 5 7,qM 3 8] .ret))
def qcB:List IRes:=[.t 3]
theorem qgg:chkF Tryz.prog Tryz.f60 qcE qcB 9=true:=by kernel_rfl
def qft:IC:=(sR [qO 2 (.mov (.c (.bool false)))] (sR [qM 3 0,qN 4 3,qB 5 .gtr 4 (cI 50),qM 6 5,⟨some 7,.mov (.t 0),(some (6,false))⟩,⟨some 8,.call 84 [.t 7,.f 146],(some (6,false))⟩,qO 9 (.pick (.t 6) (.c (.bool true)) (.t 8)),qM 2 9] .ret))
def qfd:List IRes:=[.t 2]
theorem qjO:chkF Tryz.prog Tryz.f63 qft qfd 10=true:=by kernel_rfl
def qeq:IC:=(sR [qO 2 (.mov (.c (.bool false)))] (sR [qM 3 0,qO 4 (.sln (.t 3)),qB 5 .gtr 4 (cI 80),qM 6 5,⟨some 7,.mov (.t 0),(some (6,false))⟩,⟨some 8,.call 147 [.t 7,.c (.bool false)],(some (6,false))⟩,⟨some 9,.not (.t 8),(some (6,false))⟩,qO 10 (.pick (.t 6) (.c (.bool true)) (.t 9)),qM 2 10] .ret))
def qen:List IRes:=[.t 2]
theorem qi1:chkF Tryz.prog Tryz.f146 qeq qen 11=true:=by kernel_rfl
theorem qss (s:List UInt8) (hs:s.length≤1000000000):PCall Tryz.prog E0 146 [.str s] (·=.bool (qwH s)):=by
 refine qae mixed Tryz.func146 qi1 ?_
 simp only [a0,l0,OS.ao,zk,zr,zi,zo,zl,zm,zu,zd,zh,zj,qeq,qen,ZZ,WW,Zd,reduceCtorEq,zd,ze,zb,zf,za]
 refine useG (fun _=>qly s false hs) rfl (.inl rfl) ?_
 refine zS ?_
 exact ⟨fun h=>by rw [h];rfl,rfl⟩
theorem qq6 (p:SRow) (hp:p.length≤1000000∧∀ z∈p,z.length≤1000000):PCall Tryz.prog E0 63 [.sl 1 (strE p)] (·=.bool (qqq p)):=by
 refine qae mixed Tryz.func63 qjO ?_
 simp only [a0,l0,OS.ao,zk,zr,zi,zo,zl,zm,zu,zd,zh,zj,qft,qfd,ZZ,WW,Zd,reduceCtorEq,zd,ze,zb,zf,za]
 simp only [ZZ,WW,Zd,reduceCtorEq,zd,ze,zb,zf,za,qag]
 refine useG (fun _=>qeh p 146 [] qwH (by omega) (fun _=>by kernel_rfl) rfl (fun z hz=>qss z (by have:=hp.2 z hz;omega)) (fun _=>rfl) (fun _=>rfl)) rfl (.inr rfl) ?_
 refine zS ?_
 exact ⟨fun h=>by rw [h];rfl,rfl⟩
section
variable {E:Envt}
theorem qAb (y x:Sht):PCall Tryz.prog E 59 [.agg (shV y),.ptr (shV x)] (·=.bool (decide (y.id=x.id))):=by
 refine qae mixed Tryz.func59 qgh ?_
 simp only [a0,l0,OS.ao,zk,zr,zi,zo,zl,zm,zu,zd,zh,zj,qcF,qcC,ZZ,WW,Zd,reduceCtorEq,zd,ze,zb,zf,za]
 simp only [shV,ZZ,WW,Zd,reduceCtorEq,zd,ze,zb,zf,za]
theorem qAa (y x:Sht):PCall Tryz.prog E 60 [.agg (shV y),.ptr (shV x)] (·=.bool (decide (y.top=x.top))):=by
 refine qae mixed Tryz.func60 qgg ?_
 simp only [a0,l0,OS.ao,zk,zr,zi,zo,zl,zm,zu,zd,zh,zj,qcE,qcB,ZZ,WW,Zd,reduceCtorEq,zd,ze,zb,zf,za]
 simp only [shV,ZZ,WW,Zd,reduceCtorEq,zd,ze,zb,zf,za]
end
theorem qxq (l:List Sht) (k:Nat):(shE l).take k=shE (l.take k):=by rw [shE,shE,List.map_take]
def rngR (dig:Int) (k:Nat) (x b:Sht):Bool:=decide (x.fr_ < 1) || decide (x.to_ < x.fr_) || decide (powF dig≤x.to_) || (decide (0 < k) && !decide (x.fr_=b.to_+1))
set_option maxHeartbeats 8000000 in
set_option maxRecDepth 100000 in
theorem qms (p:Prd) (hp:PdB p):PCall Tryz.prog E0 13 [.agg (pdV p)] (·=int (prdF p)):=by
 obtain ⟨no,pre,dig,shs⟩:=p
 obtain ⟨b1,b2,b3,b4,b5⟩:=hp
 simp only at b1 b2 b3 b4 b5
 have hs:prdF ⟨no,pre,dig,shs⟩=qaf [qah (!inE no 1 200) 1,qfC pre dig,qah (decide (shs.length=0)) 8,qah (decide (2000 < shs.length)) 2,qaf ((zE shs.length).map (shP dig shs))]:=rfl
 have e8:decide ((shs.length:Int)=0)=decide (shs.length=0):=decide_eq_decide.2 (by omega)
 have e2:decide ((2000:Int) < (shs.length:Int))=decide (2000 < shs.length):=decide_eq_decide.2 (by omega)
 have e1:(decide (no < 1) || decide (200 < no))=!inE no 1 200:=qpX _ _
 rw [hs]
 clear hs
 refine qae mixed Tryz.func13 qgU ?_
 simp only [a0,l0,OS.ao,zk,zr,zi,zo,zl,zm,zu,zd,zh,zj,qc8,qc0,ZZ,WW,Zd,reduceCtorEq,zd,ze,zb,zf,za]
 simp only [pdV,ZZ,WW,Zd,reduceCtorEq,zd,ze,zb,zf,za]
 rw [e1]
 refine ⟨fun h=>by rw [h];rfl,?_⟩
 refine br ?_ ?_
 ·intro h
  refine zS ?_
  rw [h]
  rfl
 intro h
 rw [h,qeb,if_pos (show qah false 1=0 from rfl)]
 refine zS ?_
 refine use1 (qj7 pre dig (by omega)) rfl (.inl rfl) ?_
 rw [qvQ]
 refine zS ?_
 refine br ?_ ?_
 ·intro h
  have h1:¬ qfC pre dig=0:=by simpa using h
  refine zS ?_
  rw [qeb,if_neg h1]
 intro h
 have hhd:qfC pre dig=0:=by simpa using h
 have hd:4≤dig∧dig≤9:=qoa hhd
 rw [qeb,if_pos hhd]
 clear h
 simp only [ZZ,WW,Zd,reduceCtorEq,zd,ze,zb,zf,za,qaj,e8]
 refine br ?_ ?_
 ·intro h
  refine zS ?_
  rw [h]
  rfl
 intro h
 rw [h,qeb,if_pos (show qah false 8=0 from rfl)]
 simp only [ZZ,WW,Zd,reduceCtorEq,zd,ze,zb,zf,za,qaj,e2]
 refine br ?_ ?_
 ·intro h
  refine zS ?_
  rw [h]
  rfl
 intro h2
 rw [h2,qeb,if_pos (show qah false 2=0 from rfl)]
 have h1e:∀ z:Int,qaf [z]=z:=fun z=>by simp only [qaf];split<;>simp_all
 rw [h1e]
 clear h h2 e8 e2 e1
 have hget:=fun {k:Nat} (h:k < shs.length)=>qa3 _ k _ (qvf dig shs h)
 obtain ⟨G,hG⟩:∃ G,(zE shs.length).map (shP dig shs)=G:=⟨_,rfl⟩
 have hGl:G.length=shs.length:=by rw [← hG];simp
 rw [hG] at hget ⊢
 simp only [ZZ,WW,Zd,reduceCtorEq,zd,ze,zb,zf,za,qaj]
 refine qad (fun n fr L=>∃ (k:Nat),k≤shs.length∧n=shs.length - k∧(qaf G=qaf (G.drop k))∧(∀ j,j < k→shP dig shs j=0)∧fr=(oo::.adr (.l 1) 0::oE (oD (oC (oB (oo::(.p (.sl 7 (shE shs))::.p (int (shs.length:Nat))::.p (int (k:Nat))::oG (oG (oE (oB (oo::[]))))))))))∧L=[(.l 1,.box [.p (int no),.p (.str pre),.p (int dig),.p (.sl 7 (shE shs))] tPrd)]) (shs.length) _ _ (by simp only [ZZ,WW,Zd,reduceCtorEq,zd,ze,zb,zf,za,qaj];try trivial) (by (simp only [ZZ,WW,Zd,reduceCtorEq,zd,ze,zb,zf,za];try trivial)) ⟨0,by omega,by omega,rfl,(fun j h=>by omega),rfl,rfl⟩ ?_
 rintro n fr L ⟨k,hk,rfl,hF,hz,rfl,rfl⟩
 simp only [qcv,ZZ,WW,Zd,reduceCtorEq,zd,ze,zb,zf,za]
 refine br ?_ ?_
 rotate_left
 ·intro h
  have hge:shs.length≤k:=by have:=of_decide_eq_false h;omega
  refine zS ?_
  rw [hF,zU (by omega)]
  rfl
 intro h
 have hlt:k < shs.length:=by have:=of_decide_eq_true h;omega
 obtain ⟨x,hx⟩:∃ x,shs[k]?=some x:=⟨_,zg hlt⟩
 have hg:=qeB hx
 simp only [shV] at hg
 have hxB:=b5 x (zx hx)
 have hxd:shs.getD k sh0=x:=by simp [zD,hx]
 have hdr:=hget hlt
 have hR:=qBB (dig:=dig) hlt hz
 have hmin:min k shs.length=k:=by omega
 obtain ⟨b,hb⟩:∃ b,shs.getD (k - 1) sh0=b:=⟨_,rfl⟩
 unfold shR at hR
 simp only [hxd,hb] at hR
 have hgb:0 < k→(shE (shs.take k)).getD (k - 1) []=[.str b.id,.str b.top,int b.kind,int b.fr_,int b.to_,.sl 1 (tbE b.pages),int b.ver]∧ShB b:=fun h0=>by
  obtain ⟨q,rfl⟩:∃ q,k=q+1:=⟨k - 1,by omega⟩
  obtain ⟨u,hu⟩:∃ u,shs[q]?=some u:=⟨_,zg (by omega)⟩
  have:(shs.take (q+1))[q]?=some u:=by rw [List.getElem?_take,if_pos (by omega)];exact hu
  have hub:u=b:=by rw [← hb];simp [zD,hu]
  subst hub
  exact ⟨qeB this,b5 _ (zx hu)⟩
 have k0:decide ((0:Int) < (k:Int))=decide (0 < k):=decide_eq_decide.2 (by omega)
 simp only [ZZ,WW,Zd,reduceCtorEq,zd,ze,zb,zf,za,hg,qaj]
 ((with_reducible and_intros)<;>try exact sc_)
 rw [qa6]
 refine ⟨_,_,qiM (k:=.l 5) (cs:=[.str x.id,.str x.top,int x.kind,int x.fr_,int x.to_,.sl 1 (tbE x.pages),int x.ver]) rfl,?_⟩
 simp only [ZZ,WW,Zd,reduceCtorEq,zd,ze,zb,zf,za,qaj,qxq]
 ((with_reducible and_intros)<;>try exact sc_)
 refine qrz (oo::.adr (.l 1) 0::oo::oo::.p (int (k:Nat))::.p (.ptr [.str x.id,.str x.top,int x.kind,int x.fr_,int x.to_,.sl 1 (tbE x.pages),int x.ver])::.p (.sl 7 (shE (shs.take k)))::.p (.bool (decide (0 < k) && decide (b.top=x.top)))::oE (oD (oo::(.p (.sl 7 (shE shs))::.p (int (shs.length:Nat))::.p (int (k:Nat))::oG (oG (oE (oB (oo::[])))))))) [(.l 1,.box [.p (int no),.p (.str pre),.p (int dig),.p (.sl 7 (shE shs))] tPrd)] (fun K hK=>?_) ?_
 ·refine drg0 ?_
  rcases yp k with h0|h0
  ·have z1:decide (0 < k)=false:=by rw [decide_eq_false_iff_not];omega
   have hgz:(shE (shs.take k)).getD ((k:Int) - 1).toNat []=[]:=by rw [h0];rfl
   rw [z1] at k0 hK
   simp only [Bool.false_and] at hK
   simp only [ZZ,WW,Zd,reduceCtorEq,zd,ze,zb,zf,za,k0,qaj,hgz,false_implies]
   exact hK _ _ (qj1 (by (simp only [ZZ,WW,Zd,reduceCtorEq,zd,ze,zb,zf,za];try trivial)) zE_)
  ·obtain ⟨hgb,hbB⟩:=hgb h0
   have z1:decide (0 < k)=true:=by rw [decide_eq_true_eq];omega
   rw [z1] at k0 hK
   simp only [ye] at hK
   have e1:((k:Int) - 1).toNat=k - 1:=by omega
   simp only [ZZ,WW,Zd,reduceCtorEq,zd,ze,zb,zf,za,k0,qaj,e1,hgb,zP]
   refine ⟨qan (by omega) (by omega),⟨by omega,by omega⟩,by omega,?_⟩
   exact hK _ _ (qj1 (by (simp only [ZZ,WW,Zd,reduceCtorEq,zd,ze,zb,zf,za];try trivial)) zE_)
 obtain ⟨x1,x2,x3,x4,x5,x6,x7,x8⟩:=hxB
 obtain ⟨goes,hgo⟩:∃ g,(decide (0 < k) && decide (b.top=x.top))=g:=⟨_,rfl⟩
 rw [hgo] at hR ⊢
 rw [show (decide (x.fr_ < 1) || decide (x.to_ < x.fr_) || decide (powF dig≤x.to_) || (decide (0 < k) && !decide (x.fr_=b.to_+1)))=rngR dig k x b from rfl] at hR
 refine zS ?_
 refine use1 (qud _ (by omega)) rfl (.inl rfl) ?_
 refine zS ?_
 refine useG (fun _=>qud _ (by omega)) rfl (.inl rfl) ?_
 refine zS ?_
 refine ⟨fun h=>by rw [h];rfl,?_⟩
 refine br ?_ ?_
 ·intro hc
  rw [if_pos hc] at hR
  refine zS ?_
  rw [hF,hdr,← hR]
  rfl
 intro hc
 rw [if_neg (by rw [hc];simp)] at hR
 clear hc
 refine zS ?_
 refine use1 (qfG (shs.take k) 59 [.ptr (shV x)] (fun y=>decide (y.id=x.id)) (by rw [zP];omega) (fun _=>by kernel_rfl) rfl (fun y _=>qAb y x) (fun _=>rfl) (fun _=>rfl)) rfl (.inr rfl) ?_
 refine zS ?_
 refine br ?_ ?_
 ·intro hc
  rw [if_pos hc] at hR
  refine zS ?_
  rw [hF,hdr,← hR]
  rfl
 intro hc
 rw [if_neg (by rw [hc];simp)] at hR
 clear hc
 refine zS ?_
 refine br ?_ ?_
 ·intro hc
  rw [if_pos hc] at hR
  refine zS ?_
  rw [hF,hdr,← hR]
  rfl
 intro hc
 rw [if_neg (by rw [hc];simp)] at hR
 clear hc
 refine zS ?_
 refine useG (fun _=>qfG (shs.take k) 60 [.ptr (shV x)] (fun y=>decide (y.top=x.top)) (by rw [zP];omega) (fun _=>by kernel_rfl) rfl (fun y _=>qAa y x) (fun _=>rfl) (fun _=>rfl)) rfl (.inr rfl) ?_
 refine zS ?_
 refine br ?_ ?_
 ·intro hc
  rw [if_pos hc] at hR
  refine zS ?_
  rw [hF,hdr,← hR]
  rfl
 intro hc
 rw [if_neg (by rw [hc];simp)] at hR
 clear hc
 refine zS ?_
 refine ⟨fun h=>by rw [h];rfl,?_⟩
 refine br ?_ ?_
 ·intro hc
  rw [if_pos hc] at hR
  refine zS ?_
  rw [hF,hdr,← hR]
  rfl
 intro hc
 rw [if_neg (by rw [hc];simp)] at hR
 clear hc
 refine zS ?_
 refine ⟨fun h=>by rw [h];rfl,?_⟩
 refine br ?_ ?_
 ·intro hc
  rw [if_pos hc] at hR
  refine zS ?_
  rw [hF,hdr,← hR]
  rfl
 intro hc
 rw [if_neg (by rw [hc];simp)] at hR
 clear hc
 refine zS ?_
 refine qrz (oo::.adr (.l 1) 0::oo::oo::.p (int (k:Nat))::.p (.ptr [.str x.id,.str x.top,int x.kind,int x.fr_,int x.to_,.sl 1 (tbE x.pages),int x.ver])::.p (.sl 7 (shE (shs.take k)))::.p (.bool (goes))::oE (oD (oo::(.p (.sl 7 (shE shs))::.p (int (shs.length:Nat))::.p (int (k:Nat))::oG (oD (.p (.bool (rngR dig k x b))::oG (oD (oB [])))))))) [(.l 1,.box [.p (int no),.p (.str pre),.p (int dig),.p (.sl 7 (shE shs))] tPrd)] (fun K hK=>?_) ?_
 ·refine drg1 (x1:=int (powF dig)) ?_
  rcases yp k with h0|h0
  ·have z1:decide (0 < k)=false:=by rw [decide_eq_false_iff_not];omega
   have hgz:(shE (shs.take k)).getD ((k:Int) - 1).toNat []=[]:=by rw [h0];rfl
   unfold rngR at hK
   rw [z1] at k0 hK
   simp only [Bool.false_and,Bool.or_false] at hK
   simp only [ZZ,WW,Zd,reduceCtorEq,zd,ze,zb,zf,za,k0,qaj,hgz,false_implies,Bool.and_false]
   (repeat' (with_reducible apply And.intro))
   all_goals try (first|exact fun hq=>⟨hq,usep (qn1 dig (by omega) (by omega)) rfl (.inl rfl)⟩|exact fun hq=>⟨hq,qan (by omega) (by omega)⟩|exact fun hq=>⟨hq,by omega,by omega⟩|exact fun hq=>⟨hq,hq,by omega,by omega⟩|exact fun hq=>⟨hq,by omega⟩|(intro hq;rw [hq];rfl)|(intro hq;refine ⟨hq,?_⟩;rw [hq];rfl))
   all_goals try exact hK _ _ (qj1 (by (simp only [ZZ,WW,Zd,reduceCtorEq,zd,ze,zb,zf,za];try trivial)) zE_)
  ·obtain ⟨hgb,hbB⟩:=hgb h0
   have z1:decide (0 < k)=true:=by rw [decide_eq_true_eq];omega
   have hb5:=hbB.to_
   unfold rngR at hK
   rw [z1] at k0 hK
   simp only [ye] at hK
   have e1:((k:Int) - 1).toNat=k - 1:=by omega
   simp only [ZZ,WW,Zd,reduceCtorEq,zd,ze,zb,zf,za,k0,qaj,e1,hgb,zP]
   (repeat' (with_reducible apply And.intro))
   all_goals try (first|exact fun hq=>⟨hq,usep (qn1 dig (by omega) (by omega)) rfl (.inl rfl)⟩|exact fun hq=>⟨hq,qan (by omega) (by omega)⟩|exact fun hq=>⟨hq,by omega,by omega⟩|exact fun hq=>⟨hq,hq,by omega,by omega⟩|exact fun hq=>⟨hq,by omega⟩|(intro hq;rw [hq];rfl)|(intro hq;refine ⟨hq,?_⟩;rw [hq];rfl))
   all_goals try exact hK _ _ (qj1 (by (simp only [ZZ,WW,Zd,reduceCtorEq,zd,ze,zb,zf,za];try trivial)) zE_)
 refine zS ?_
 refine br ?_ ?_
 ·intro hc
  rw [if_pos hc] at hR
  refine zS ?_
  rw [hF,hdr,← hR]
  rfl
 intro hc
 rw [if_neg (by rw [hc];simp)] at hR
 clear hc
 simp only [ZZ,WW,Zd,reduceCtorEq,zd,ze,zb,zf,za,qaN]
 refine ⟨qan (by omega) (by omega),qan (by omega) (by omega),?_⟩
 refine useG (fun _=>qmT x.pages 63 [] qqq (by omega) (fun _=>by kernel_rfl) rfl (fun z hz=>qq6 z (x7 z hz)) (fun _=>rfl) (fun _=>rfl)) rfl (.inr rfl) ?_
 refine zS ?_
 refine ⟨fun h=>by rw [h];rfl,?_⟩
 refine br ?_ ?_
 ·intro hc
  rw [if_pos hc] at hR
  refine zS ?_
  rw [hF,hdr,← hR]
  rfl
 intro hc
 rw [if_neg (by rw [hc];simp)] at hR
 clear hc
 have hg0:0 < x.pages.length→(tbE x.pages).getD 0 []=[.sl 1 (strE (x.pages.getD 0 []))]:=fun h=>by
  obtain ⟨p,hp⟩:∃ p,x.pages[0]?=some p:=⟨_,zg h⟩
  rw [qmw hp]
  simp [zD,hp]
 have e0:Int.toNat 0=0:=rfl
 have hnq:decide (x.kind=2)=false→(!decide (x.kind=2))=true:=fun h=>by rw [h];rfl
 by_cases hl1:x.pages.length=1
 ·have hg:=hg0 (by omega)
  have e1:decide ((x.pages.length:Int)=1)=true:=by rw [hl1];rfl
  rw [e1] at hR
  simp only [ZZ,WW,Zd,reduceCtorEq,zd,ze,zb,zf,za,qaN,e1]
  generalize (decide (x.kind=2) || decide (x.kind=3))=q at hR ⊢
  cases q
  ·simp only [ZZ,WW,Zd,reduceCtorEq,zd,ze,zb,zf,za,qaN,e0,hg,e1,qag,decide_true,Bool.not_true,Bool.false_or,Bool.or_false,Bool.or_self,Bool.and_self,ye,Bool.false_and,false_implies]
   refine ⟨hnq,?_⟩
   rw [if_neg (by simp)] at hR
   ((with_reducible and_intros)<;>try exact sc_)
   refine qac (shs.length - (k+1)) _ _ (by omega) (by (simp only [ZZ,WW,Zd,reduceCtorEq,zd,ze,zb,zf,za];try trivial)) (by (simp only [ZZ,WW,Zd,reduceCtorEq,zd,ze,zb,zf,za];try trivial)) ⟨k+1,by omega,rfl,by rw [hF,hdr,if_pos hR.symm],(fun j hj=>by rcases Nat.lt_succ_iff_lt_or_eq.1 hj with hj|rfl;exact hz j hj;exact hR.symm),rfl,rfl⟩
  ·simp only [Bool.not_true,Bool.false_or,ye] at hR
   simp only [ZZ,WW,Zd,reduceCtorEq,zd,ze,zb,zf,za,qaN,e0,hg,e1,qag,decide_true,Bool.not_true,Bool.false_or,Bool.or_false,Bool.or_self,Bool.and_self,ye,Bool.false_and,false_implies]
   refine ⟨hnq,⟨by omega,by omega⟩,by omega,?_⟩
   refine br ?_ ?_
   ·intro hc
    rw [if_pos hc] at hR
    refine zS ?_
    rw [hF,hdr,← hR]
    rfl
   ·intro hc
    rw [if_neg (by rw [hc];simp)] at hR
    refine zS ?_
    ((with_reducible and_intros)<;>try exact sc_)
    refine qac (shs.length - (k+1)) _ _ (by omega) (by (simp only [ZZ,WW,Zd,reduceCtorEq,zd,ze,zb,zf,za];try trivial)) (by (simp only [ZZ,WW,Zd,reduceCtorEq,zd,ze,zb,zf,za];try trivial)) ⟨k+1,by omega,rfl,by rw [hF,hdr,if_pos hR.symm],(fun j hj=>by rcases Nat.lt_succ_iff_lt_or_eq.1 hj with hj|rfl;exact hz j hj;exact hR.symm),rfl,rfl⟩
 ·have e1:decide ((x.pages.length:Int)=1)=false:=by rw [decide_eq_false_iff_not];omega
  rw [e1] at hR
  obtain ⟨hg,hg2⟩|hg:((tbE x.pages).getD 0 []=[]∧x.pages.length=0)∨(tbE x.pages).getD 0 []=[.sl 1 (strE (x.pages.getD 0 []))]:=by
   rcases yp x.pages.length with hz0|hz0
   ·refine .inl ⟨?_,hz0⟩
    have:x.pages=[]:=zA hz0
    rw [this]
    rfl
   ·exact .inr (hg0 hz0)
  all_goals
   simp only [ZZ,WW,Zd,reduceCtorEq,zd,ze,zb,zf,za,qaN,e1]
   generalize (decide (x.kind=2) || decide (x.kind=3))=q at hR ⊢
   cases q
   ·simp only [ZZ,WW,Zd,reduceCtorEq,zd,ze,zb,zf,za,qaN,e0,hg,e1,qag,decide_false,Bool.not_false,Bool.true_or,Bool.or_true,Bool.and_self,ye,Bool.false_and,false_implies]
    refine ⟨hnq,?_⟩
    rw [if_neg (by simp)] at hR
    ((with_reducible and_intros)<;>try exact sc_)
    refine qac (shs.length - (k+1)) _ _ (by omega) (by (simp only [ZZ,WW,Zd,reduceCtorEq,zd,ze,zb,zf,za];try trivial)) (by (simp only [ZZ,WW,Zd,reduceCtorEq,zd,ze,zb,zf,za];try trivial)) ⟨k+1,by omega,rfl,by rw [hF,hdr,if_pos hR.symm],(fun j hj=>by rcases Nat.lt_succ_iff_lt_or_eq.1 hj with hj|rfl;exact hz j hj;exact hR.symm),rfl,rfl⟩
   ·simp only [ZZ,WW,Zd,reduceCtorEq,zd,ze,zb,zf,za,qaN,e0,hg,e1,qag,decide_false,Bool.not_false,Bool.true_or,Bool.or_true,Bool.and_self,ye,Bool.false_and,false_implies]
    refine ⟨hnq,?_⟩
    rw [if_pos (by simp)] at hR
    rw [hF,hdr,← hR]
    rfl
end Go.Proofs.YtehfjlpenlffmaaGreatDoor
