import Derived.Test.YtinffddgojhdfaaGreatDoorZ13
set_option linter.unusedVariables false
set_option linter.unusedSimpArgs false
set_option linter.defProp false
namespace Go.Proofs.YtinffddgojhdfaaGreatDoor
open Nat renaming reduceAdd→zd,reduceEqDiff→zb,reduceLT→zf,reduceLeDiff→za,reduceMul→ze,reduceSub→zu
open List renaming cons_append→zo,length_cons→zm,length_nil→zr,map_cons→zl,map_nil→zt,mem_cons→zG,nil_append→zq,not_mem_nil→zR,replicate_succ→zk,replicate_zero→zn
open Bool renaming not_true→yq
open Go.RowKit
def qaU:IC:=(.seq (.reg [qO 14 (.bin .lss (.t 13) (.t 12))]) (.seq (.cond (.t 14) .skip (.exit 0)) (.seq (.block 1 (.seq (.reg [qM 15 13,qM 5 15]) (.seq (.drg [qM 16 0,qM 17 5,qO 18 (.ixa 12 (.t 16) (.t 17)),qO 19 (.ld 12 true (.t 18)),qM 20 1,qM 21 5,qO 22 (.ixa 12 (.t 20) (.t 21)),qO 23 (.ld 12 true (.t 22)),qO 24 (.eqa true [.s,.i,.i,.i,.s,.s,.s,.i,.i,.s,.i,.s] (.t 19) (.t 23))]) (.cond (.t 24) (.seq (.reg [qO 4 (.mov (.c (.bool false)))]) .ret) .skip)))) (.reg [qO 25 (.bin .add (.t 13) (.c (.int .i64 1))),qM 13 25]))))
def qa7:IC:=(.seq (.reg [qO 4 (.mov (.c (.bool false)))]) (.seq (.seq (.reg [qM 6 0,qO 7 (.len (.t 6)),qM 8 1,qO 9 (.len (.t 8)),qO 10 (.bin .neq (.t 7) (.t 9))]) (.cond (.t 10) (.seq (.reg [qO 4 (.mov (.c (.bool false)))]) .ret) .skip)) (.seq (.seq (.reg [qM 11 0,qO 12 (.len (.t 11)),qO 13 (.mov (.c (.int .i64 0)))]) (.block 0 (.loop qaU))) (.seq (.reg [qO 4 (.mov (.c (.bool true)))]) .ret))))
def qa4:List IRes:=[.t 4]
theorem qcE:chkF Tryz.prog Tryz.f25 qa7 qa4 26=true:=by kernel_rfl
def qbD:IC:=(.seq (.reg [qO 2 (.mov (.c (.nl 12)))]) (.seq (.reg [qM 4 0,qO 5 (.call 6 [.t 4]),qM 3 5]) (.seq (.seq (.reg [qM 6 0,qO 7 (.call 7 [.t 6,.c (.int .i64 8)])]) (.cond (.t 7) (.reg [qM 8 0,qM 9 3,⟨none,.fz (.t 9),none⟩,qO 10 (.call 8 [.t 8,.t 9]),qM 3 10]) .skip)) (.cut (.seq (.reg [qM 11 3,qM 2 11]) .ret)))))
def qbz:List IRes:=[.t 2]
theorem qdx:chkF Tryz.prog Tryz.f12 qbD qbz 12=true:=by kernel_rfl
def qbB:IC:=(.seq (.reg [qO 2 (.mov (.c (.str [])))]) (.seq (.seq (.reg [qM 3 0,qO 4 (.call 7 [.t 3,.c (.int .i64 40)])]) (.cond (.t 4) (.seq (.reg [qM 5 0,qO 6 (.bsl 1 [.c (.str []),.c (.str [65])]),qO 7 (.call 36 [.t 5,.t 6]),qM 2 7]) .ret) .skip)) (.seq (.reg [qM 8 0,qO 9 (.bsl 1 [.c (.str [97]),.c (.str [98]),.c (.str [99])]),qO 10 (.call 36 [.t 8,.t 9]),qM 2 10]) .ret)))
def qby:List IRes:=[.t 2]
theorem qdw:chkF Tryz.prog Tryz.f13 qbB qby 11=true:=by kernel_rfl
section
variable {E:Envt}
theorem qe0 (l:List Dd) (hl:l.length≤1000000000):PCall Tryz.prog E 25 [.sl 12 (ddE l),.sl 12 (ddE l)] (·=.bool true):=by
 refine qah mixed Tryz.func25 qcE ?_
 simp only [a0,l0,OS.ao,zl,zt,zm,zr,zo,zq,zu,zd,zk,zn,qa7,qa4,ZZ,WW,Ze,reduceCtorEq,zd,ze,za,zf,zb]
 simp only [ZZ,WW,Ze,reduceCtorEq,zd,ze,za,zf,zb,qac,decide_true,yq]
 refine qaf (fun n fr L=>∃ (k:Nat),k≤l.length∧n=l.length - k∧fr=[.p (.sl 12 (ddE l)),.p (.sl 12 (ddE l)),oo,oo,oo,oo,oo,oo,oo,oo,oo,oo,.p (int (l.length:Nat)),.p (int (k:Nat)),oo,oo,oo,oo,oo,oo,oo,oo,oo,oo,oo,oo]∧L=[]) (l.length) [.p (.sl 12 (ddE l)),.p (.sl 12 (ddE l)),oo,oo,oo,oo,oo,oo,oo,oo,oo,oo,.p (int (l.length:Nat)),.p (int (0:Nat)),oo,oo,oo,oo,oo,oo,oo,oo,oo,oo,oo,oo] [] (by simp only [qac,ZZ,WW,Ze,reduceCtorEq,zd,ze,za,zf,zb];try trivial) (by (simp only [ZZ,WW,Ze,reduceCtorEq,zd,ze,za,zf,zb];try trivial)) ⟨0,by omega,by omega,rfl,rfl⟩ ?_
 rintro n fr L ⟨k,hk,rfl,rfl,rfl⟩
 simp only [qaU,ZZ,WW,Ze,reduceCtorEq,zd,ze,za,zf,zb]
 refine br ?_ ?_
 ·intro h
  have hlt:k < l.length:=by have:=of_decide_eq_true h;omega
  obtain ⟨d,hd⟩:∃ d,l[k]?=some d:=⟨_,List.getElem?_eq_getElem hlt⟩
  have hg:=qa0 hd
  simp only [ZZ,WW,Ze,reduceCtorEq,zd,ze,za,zf,zb]
  refine drg0 ?_
  simp only [ZZ,WW,Ze,reduceCtorEq,zd,ze,za,zf,zb,hg,qac,ddC,decide_true,Bool.and_self,yq]
  refine ⟨⟨by omega,by omega⟩,hlt,⟨by omega,by omega⟩,hlt,qat (by omega) (by omega),?_⟩
  refine qae (l.length - (k+1)) [.p (.sl 12 (ddE l)),.p (.sl 12 (ddE l)),oo,oo,oo,oo,oo,oo,oo,oo,oo,oo,.p (int (l.length:Nat)),.p (int ((k+1):Nat)),oo,oo,oo,oo,oo,oo,oo,oo,oo,oo,oo,oo] [] (by omega) (by (simp only [ZZ,WW,Ze,reduceCtorEq,zd,ze,za,zf,zb];try trivial)) (by (simp only [ZZ,WW,Ze,reduceCtorEq,zd,ze,za,zf,zb];try trivial)) ⟨k+1,by omega,rfl,rfl,rfl⟩
 ·intro h
  simp only [ZZ,WW,Ze,reduceCtorEq,zd,ze,za,zf,zb]
end
def AnM (l:List Int) (k:Nat) (fr:List AV) (L:Objs):Prop:=∃ (q:List Dd) (k2:Nat),DdsB q∧q.length≤2001∧k2≤k+2000∧fr=[oo,oo,oo,.p (.sl 12 (ddE q)),oo,oo,oo,oo,oo,oo,oo,oo]∧L=[(.b 0,.box ((stm l k2).map .p) T)]
set_option maxHeartbeats 4000000 in
theorem qm3 (l:List Int) (k:Nat) (hk:k≤500000) (hl:l.length≤9223372036854775807) :
  qdh Tryz.prog ED 12 T (stm l k) [] (fun x cs'=>∃ (q:List Dd) (k':Nat),x=.sl 12 (ddE q)∧DdsB q∧q.length≤2001∧cs'=stm l k'∧k'≤k+2000):=by
 unfold qdh
 refine qfe mixed Tryz.func12 qdx ?_
 simp only [a0,l0,OS.ao,zl,zt,zm,zr,zo,zq,zu,zd,zk,zn,qbD,qbz,ZZ,WW,Ze,reduceCtorEq,zd,ze,za,zf,zb]
 refine useS (qrx l k hk hl) rfl rfl rfl zE_ ?_
 rintro x cs' ⟨o,k1,rfl,hR,rfl,hk1⟩
 simp only [ZZ,WW,Ze,reduceCtorEq,zd,ze,za,zf,zb]
 refine useS (qi5 l k1 8 (by omega) hl (by decide)) rfl rfl rfl zE_ ?_
 rintro x cs' ⟨b,rfl,rfl⟩
 simp only [ZZ,WW,Ze,reduceCtorEq,zd,ze,za,zf,zb]
 refine qeq (AnM l k) ?_ ?_ ?_
 ·intro _
  simp only [ZZ,WW,Ze,reduceCtorEq,zd,ze,za,zf,zb]
  refine useS (qi4 l (k1+1) o (by omega) hl hR) rfl rfl rfl zE_ ?_
  rintro x cs' ⟨q,k2,rfl,hqB,hql,rfl,hk2⟩
  simp only [ZZ,WW,Ze,reduceCtorEq,zd,ze,za,zf,zb]
  exact qan [oo,oo,oo,.p (.sl 12 (ddE q)),oo,oo,oo,oo,oo,oo,oo,oo] [(.b 0,.box ((stm l k2).map .p) T)] (by (simp only [ZZ,WW,Ze,reduceCtorEq,zd,ze,za,zf,zb];try trivial)) zE_ ⟨q,k2,hqB,hql,by omega,rfl,rfl⟩
 ·intro _
  simp only [ZZ,WW,Ze,reduceCtorEq,zd,ze,za,zf,zb]
  exact qan [oo,oo,oo,.p (.sl 12 (ddE o)),oo,oo,oo,oo,oo,oo,oo,oo] [(.b 0,.box ((stm l (k1+1)).map .p) T)] (by (simp only [ZZ,WW,Ze,reduceCtorEq,zd,ze,za,zf,zb];try trivial)) zE_ ⟨o,_,hR.b,by have:=hR.len;omega,by omega,rfl,rfl⟩
 rintro fr L ⟨q,k2,hqB,hql,hk2,rfl,rfl⟩
 simp only [ZZ,WW,Ze,reduceCtorEq,zd,ze,za,zf,zb]
 exact qfI (stm l k2) rfl ⟨q,k2,rfl,hqB,hql,rfl,hk2⟩
theorem qmV {E:Envt} (l:List Int) (k:Nat) (hk:k≤900000) (hl:l.length≤9223372036854775807) :
  qdh Tryz.prog E 13 T (stm l k) [] (fun x cs'=>∃ (u:List UInt8) (k':Nat),x=.str u∧u.length≤1∧cs'=stm l k'∧k'≤k+5):=by
 unfold qdh
 refine qfe mixed Tryz.func13 qdw ?_
 simp only [a0,l0,OS.ao,zl,zt,zm,zr,zo,zq,zu,zd,zk,zn,qbB,qby,ZZ,WW,Ze,reduceCtorEq,zd,ze,za,zf,zb]
 refine useS (qi5 l k 40 (by omega) hl (by decide)) rfl rfl rfl zE_ ?_
 rintro x cs' ⟨b,rfl,rfl⟩
 simp only [ZZ,WW,Ze,reduceCtorEq,zd,ze,za,zf,zb]
 refine br ?_ ?_
 ·intro _
  simp only [ZZ,WW,Ze,reduceCtorEq,zd,ze,za,zf,zb]
  refine useS (qcQ l (k+1) [[],[65]] (by omega) hl (by simp) (by simp)) rfl rfl rfl zE_ ?_
  rintro x cs' ⟨u,rfl,hu,rfl⟩
  simp only [ZZ,WW,Ze,reduceCtorEq,zd,ze,za,zf,zb]
  exact qfI (stm l (k+1+1)) rfl ⟨u,_,rfl,by simp only [zG,zR,or_false] at hu;rcases hu with rfl|rfl<;>decide,rfl,by omega⟩
 ·intro _
  simp only [ZZ,WW,Ze,reduceCtorEq,zd,ze,za,zf,zb]
  refine useS (qcQ l (k+1) [[97],[98],[99]] (by omega) hl (by simp) (by simp)) rfl rfl rfl zE_ ?_
  rintro x cs' ⟨u,rfl,hu,rfl⟩
  simp only [ZZ,WW,Ze,reduceCtorEq,zd,ze,za,zf,zb]
  exact qfI (stm l (k+1+1)) rfl ⟨u,_,rfl,by simp only [zG,zR,or_false] at hu;rcases hu with rfl|rfl|rfl<;>decide,rfl,by omega⟩
end Go.Proofs.YtinffddgojhdfaaGreatDoor
