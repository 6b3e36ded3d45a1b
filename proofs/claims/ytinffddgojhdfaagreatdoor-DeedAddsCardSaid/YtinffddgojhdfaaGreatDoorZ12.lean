import Derived.Test.YtinffddgojhdfaaGreatDoorZ11
import Derived.Test.YtinffddgojhdfaaGreatDoorZ7
import Derived.Test.YtinffddgojhdfaaGreatDoorZ6
set_option linter.unusedVariables false
set_option linter.unusedSimpArgs false
set_option linter.defProp false
namespace Go.Proofs.YtinffddgojhdfaaGreatDoor
open Nat renaming reduceAdd→zd,reduceEqDiff→zb,reduceLT→zf,reduceLeDiff→za,reduceMul→ze,reduceSub→zu
open List renaming cons_append→zo,getElem?_eq_getElem→zp,getElem?_eq_some_iff→zw,length_cons→zm,length_map→zY,length_nil→zr,map_append→ye,map_cons→zl,map_nil→zt,mem_append→zz,mem_cons→zG,mem_singleton→zN,nil_append→zq,not_mem_nil→zR,replicate_succ→zk,replicate_zero→zn,reverse_reverse→zS,take_succ_eq_append_getElem→zX
open Go.RowKit
def qbg:IC:=(.seq (.reg [qO 4 (.mov (.c (.nl 12)))]) (.seq (.seq (.reg [qM 5 1,qO 6 (.bin .lss (.t 5) (.c (.int .i64 0)))]) (.cond (.t 6) (.reg [qO 7 (.dead),⟨none,.dead,none⟩]) .skip)) (.cut (.seq (.seq (.reg [qM 8 1,qM 9 0,qO 10 (.cap0 (.t 9)),qM 11 0,qO 12 (.len (.t 11)),qO 13 (.bin .sub (.t 10) (.t 12)),qO 14 (.bin .sub (.t 8) (.t 13)),qM 1 14]) (.seq (.reg [qM 15 1,qO 16 (.bin .gtr (.t 15) (.c (.int .i64 0)))]) (.cond (.t 16) (.reg [qM 17 0,qM 18 0,qO 19 (.cap0 (.t 18)),qO 20 (.vsn (.t 17) (.t 19)),qM 21 1,qO 22 (.apz 45 12 144 [.str [],.int .i64 0,.int .i64 0,.int .i64 0,.str [],.str [],.str [],.int .i64 0,.int .i64 0,.str [],.int .i64 0,.str []] (.t 20) (.t 21)),qM 23 0,qO 24 (.len (.t 23)),qO 25 (.trn 12 (.t 22) (.t 24)),qM 0 25]) .skip))) (.cut (.seq (.reg [qM 26 0,qM 4 26]) .ret))))))
def qbd:List IRes:=[.t 4]
theorem qcJ:chkF Tryz.prog Tryz.f100 qbg qbd 27=true:=by kernel_rfl
def qaQ:IC:=(.seq (.reg [qO 28 (.bin .lss (.t 27) (.t 26))]) (.seq (.cond (.t 28) .skip (.exit 2)) (.seq (.block 3 (.seq (.reg [qO 29 (.ixa 1 (.t 25) (.t 27)),qO 30 (.ld 1 false (.t 29)),qM 8 30]) (.reg [qM 31 6,qM 32 8,qO 33 (.app 45 12 144 (.t 31) (.t 32)),qM 6 33]))) (.reg [qO 34 (.bin .add (.t 27) (.c (.int .i64 1))),qM 27 34]))))
def qaR:IC:=(.seq (.reg [qO 12 (.bin .lss (.t 11) (.t 10))]) (.seq (.cond (.t 12) .skip (.exit 0)) (.seq (.block 1 (.seq (.reg [qO 13 (.ixa 1 (.t 9) (.t 11)),qO 14 (.ld 1 false (.t 13)),qM 5 14]) (.seq (.reg [qM 15 3,qM 16 5,qO 17 (.len (.t 16)),qO 18 (.bin .add (.t 15) (.t 17)),qM 3 18]) (.seq (.reg [qM 19 3,qO 20 (.bin .lss (.t 19) (.c (.int .i64 0)))]) (.cond (.t 20) (.reg [qO 21 (.dead),⟨none,.dead,none⟩]) .skip))))) (.cut (.reg [qO 22 (.bin .add (.t 11) (.c (.int .i64 1))),qM 11 22])))))
def qaY:IC:=(.seq (.reg [qO 2 (.mov (.c (.nl 12)))]) (.seq (.reg [qO 3 (.mov (.c (.int .i64 0)))]) (.seq (.seq (.reg [qM 9 0,qO 10 (.len (.t 9)),qO 11 (.mov (.c (.int .i64 0)))]) (.block 0 (.loop qaR))) (.seq (.reg [qM 23 3,qO 24 (.call 100 [.c (.nl 12),.t 23]),qM 6 24]) (.seq (.seq (.reg [qM 25 0,qO 26 (.len (.t 25)),qO 27 (.mov (.c (.int .i64 0)))]) (.block 2 (.loop qaQ))) (.seq (.reg [qM 35 6,qM 2 35]) .ret))))))
def qaX:List IRes:=[.t 2]
theorem qcj:chkF Tryz.prog Tryz.f65 qaY qaX 36=true:=by kernel_rfl
def qbO:IC:=(.seq (.reg [qO 22 (.bin .lss (.t 21) (.t 20))]) (.seq (.cond (.t 22) .skip (.exit 0)) (.seq (.block 1 (.seq (.reg [qO 23 (.ixa 12 (.t 19) (.t 21)),qO 24 (.ld 12 true (.t 23)),qO 8 (.alc 45 [.str [],.int .i64 0,.int .i64 0,.int .i64 0,.str [],.str [],.str [],.int .i64 0,.int .i64 0,.str [],.int .i64 0,.str []]),⟨none,.st 12 (.t 8) (.t 24),none⟩]) (.seq (.reg [qM 26 6,qO 27 (.fla 0 (.t 8)),qO 28 (.ld 2 true (.t 27)),qO 29 (.call 52 [.t 26,.t 28]),qM 25 29,qO 30 (.ext 0 (.t 25)),qO 31 (.ext 1 (.t 25)),qO 9 (.alc 45 [.str [],.int .i64 0,.int .i64 0,.int .i64 0,.str [],.str [],.str [],.int .i64 0,.int .i64 0,.str [],.int .i64 0,.str []]),⟨none,.st 12 (.t 9) (.t 30),none⟩,qM 10 31]) (.seq (.seq (.reg [qM 32 10,qM 33 32,⟨some 34,.ld 12 true (.t 9),(some (33,true))⟩,⟨some 35,.ld 12 true (.t 8),(some (33,true))⟩,⟨some 36,.eqa true [.s,.i,.i,.i,.s,.s,.s,.i,.i,.s,.i,.s] (.t 34) (.t 35),(some (33,true))⟩,qO 37 (.pick (.t 33) (.t 36) (.c (.bool false)))]) (.cond (.t 37) (.seq (.reg [qO 4 (.mov (.c (.nl 12))),qO 5 (.mov (.c (.int .i64 13)))]) .ret) .skip)) (.seq (.reg [qM 38 10,qO 39 (.not (.t 38))]) (.cond (.t 39) (.reg [qM 40 6,qO 41 (.ld 12 true (.t 8)),qO 42 (.bsl 12 [.t 41]),qO 43 (.app 45 12 144 (.t 40) (.t 42)),qM 6 43]) .skip)))))) (.cut (.reg [qO 44 (.bin .add (.t 21) (.c (.int .i64 1))),qM 21 44])))))
def qcB:IC:=(.seq (.reg [qO 4 (.mov (.c (.nl 12))),qO 5 (.mov (.c (.int .i64 0)))]) (.seq (.seq (.reg [qM 13 1,qO 14 (.len (.t 13)),qO 15 (.bin .gtr (.t 14) (.c (.int .i64 2000)))]) (.cond (.t 15) (.seq (.reg [qO 4 (.mov (.c (.nl 12))),qO 5 (.mov (.c (.int .i64 2)))]) .ret) .skip)) (.seq (.reg [qO 6 (.nilr 45 12)]) (.seq (.seq (.reg [qM 16 0,qM 17 1,qO 18 (.bsl 1 [.t 16,.t 17]),qO 19 (.call 65 [.t 18]),qO 20 (.len (.t 19)),qO 21 (.mov (.c (.int .i64 0)))]) (.block 0 (.loop qbO))) (.seq (.reg [qM 45 6,qO 46 (.call 66 [.t 45,.f 50])]) (.seq (.seq (.reg [qM 48 6,qO 49 (.call 10 [.t 48]),qM 47 49,qO 50 (.ext 0 (.t 47)),qO 51 (.ext 1 (.t 47)),qM 11 50,qM 12 51]) (.seq (.reg [qM 52 12,qO 53 (.bin .neq (.t 52) (.c (.int .i64 0)))]) (.cond (.t 53) (.seq (.reg [qM 54 12,qO 4 (.mov (.c (.nl 12))),qM 5 54]) .ret) .skip))) (.seq (.reg [qM 55 6,qM 4 55,qO 5 (.mov (.c (.int .i64 0)))]) .ret)))))))
def qcp:List IRes:=[.t 4,.t 5]
theorem qeQ:chkF Tryz.prog Tryz.f32 qcB qcp 56=true:=by kernel_rfl
section
variable {E:Envt}
theorem qpV (n:Nat) (hn:n≤1000000000):FCall Tryz.prog E 100 [.nl 12,int n] tDd 12 (·=[]):=by
 unfold FCall
 refine qnx mixed Tryz.func100 qcJ ?_
 simp only [a0,l0,OS.ao,zl,zt,zm,zr,zo,zq,zu,zd,zk,zn,qbg,qbd,ZZ,WW,Ze,reduceCtorEq,zd,ze,za,zf,zb]
 refine br ?_ ?_
 ·intro h
  have:=of_decide_eq_true h
  omega
 ·intro h
  simp only [ZZ,WW,Ze,reduceCtorEq,zd,ze,za,zf,zb]
  refine qai zE_ ?_
  simp only [ZZ,WW,Ze,reduceCtorEq,zd,ze,za,zf,zb]
  ((repeat' (with_reducible apply And.intro))<;>try ((exact sc_)))
  refine br ?_ ?_
  ·intro h2
   have h2:=of_decide_eq_true h2
   simp only [ZZ,WW,Ze,reduceCtorEq,zd,ze,za,zf,zb]
   ((repeat' (with_reducible apply And.intro))<;>try ((exact sc_)))
   refine qai zE_ ?_
   simp only [ZZ,WW,Ze,reduceCtorEq,zd,ze,za,zf,zb]
   exact qqQ 22 [] rfl rfl rfl
  ·intro h2
   simp only [ZZ,WW,Ze,reduceCtorEq,zd,ze,za,zf,zb]
   refine qai zE_ ?_
   simp only [ZZ,WW,Ze,reduceCtorEq,zd,ze,za,zf,zb]
   exact quV rfl rfl
def qgY (ls:List (List Dd)):Nat:=(ls.map List.length).sum
theorem qjA {ls:List (List Dd)} {k:Nat} {x:List Dd} (h:ls[k]?=some x):qgY (ls.take (k+1))=qgY (ls.take k)+x.length:=by
 obtain ⟨hk,hx⟩:=zw.1 h
 unfold qgY
 rw [zX hk,ye,List.sum_append,hx]
 simp
theorem qob {ls:List (List Dd)} {k:Nat} {x:List Dd} (h:ls[k]?=some x):(ls.take (k+1)).flatten=(ls.take k).flatten++x:=by
 obtain ⟨hk,hx⟩:=zw.1 h
 rw [zX hk,List.flatten_append,hx]
 simp
theorem qij (ls:List (List Dd)) (k:Nat):qgY (ls.take k)≤qgY ls:=by
 unfold qgY
 conv=>rhs;rw [← List.take_append_drop k ls,ye,List.sum_append]
 omega
theorem qph (ls:List (List Dd)):ls.flatten.length=qgY ls:=by simp [qgY,List.length_flatten]
theorem qm0 (ls:List (List Dd)) (hn:ls.length≤1000000) (hs:qgY ls≤1000000000):FCall Tryz.prog E 65 [.sl 1 (ls.map fun l=>[PV.sl 12 (ddE l)])] tDd 12 (·=ls.flatten.map ddC):=by
 unfold FCall
 refine qnx mixed Tryz.func65 qcj ?_
 simp only [a0,l0,OS.ao,zl,zt,zm,zr,zo,zq,zu,zd,zk,zn,qaY,qaX,ZZ,WW,Ze,reduceCtorEq,zd,ze,za,zf,zb]
 have hln:(ls.map fun l=>[PV.sl 12 (ddE l)]).length=ls.length:=by simp
 have hget:∀ k s,ls[k]?=some s→(ls.map fun l=>[PV.sl 12 (ddE l)]).getD k []=[.sl 12 (ddE s)]:=fun k s hs=>qb5 hs
 generalize (ls.map fun l=>[PV.sl 12 (ddE l)])=es at hln hget ⊢
 simp only [hln]
 refine qaf (fun n fr L=>∃ (k:Nat),k≤ls.length∧n=ls.length - k∧fr=[.p (.sl 1 es),oo,.p (.nl 12),.p (int (qgY (ls.take k):Nat)),oo,oo,oo,oo,oo,.p (.sl 1 es),.p (int (ls.length:Nat)),.p (int (k:Nat)),oo,oo,oo,oo,oo,oo,oo,oo,oo,oo,oo,oo,oo,oo,oo,oo,oo,oo,oo,oo,oo,oo,oo,oo]∧L=[]) ls.length [.p (.sl 1 es),oo,.p (.nl 12),.p (int (0:Nat)),oo,oo,oo,oo,oo,.p (.sl 1 es),.p (int (ls.length:Nat)),.p (int (0:Nat)),oo,oo,oo,oo,oo,oo,oo,oo,oo,oo,oo,oo,oo,oo,oo,oo,oo,oo,oo,oo,oo,oo,oo,oo] [] (by (simp only [ZZ,WW,Ze,reduceCtorEq,zd,ze,za,zf,zb];try trivial)) zE_ ⟨0,by omega,by omega,rfl,rfl⟩ ?_
 rintro n fr L ⟨k,hk,rfl,rfl,rfl⟩
 simp only [qaR,ZZ,WW,Ze,reduceCtorEq,zd,ze,za,zf,zb]
 have hle:=qij ls k
 refine br ?_ ?_
 ·intro h
  have hlt:k < ls.length:=by have:=of_decide_eq_true h;omega
  obtain ⟨s,hs⟩:∃ x,ls[k]?=some x:=⟨_,zp hlt⟩
  have hg:=hget k s hs
  have hnx:=qjA hs
  have hle':=qij ls (k+1)
  simp only [ZZ,WW,Ze,reduceCtorEq,zd,ze,za,zf,zb,hg,qac,hln]
  ((repeat' (with_reducible apply And.intro))<;>try ((exact sc_)))
  refine br ?_ ?_
  ·intro h2
   have:=of_decide_eq_true h2
   omega
  ·intro h2
   simp only [ZZ,WW,Ze,reduceCtorEq,zd,ze,za,zf,zb]
   refine qai zE_ ?_
   simp only [ZZ,WW,Ze,reduceCtorEq,zd,ze,za,zf,zb]
   refine ⟨qat (by omega) (by omega),?_⟩
   refine qae (ls.length - (k+1)) [.p (.sl 1 es),oo,.p (.nl 12),.p (int (qgY (ls.take (k+1)):Nat)),oo,oo,oo,oo,oo,.p (.sl 1 es),.p (int (ls.length:Nat)),.p (int ((k+1:Nat):Nat)),oo,oo,oo,oo,oo,oo,oo,oo,oo,oo,oo,oo,oo,oo,oo,oo,oo,oo,oo,oo,oo,oo,oo,oo] [] (by omega) (by rw [hnx];simp only [Int.natCast_add,ZZ,WW,Ze,reduceCtorEq,zd,ze,za,zf,zb];try trivial) zE_ ⟨k+1,by omega,rfl,rfl,rfl⟩
 ·intro h
  have hge:k=ls.length:=by have:=of_decide_eq_false h;omega
  subst hge
  rw [List.take_length]
  simp only [ZZ,WW,Ze,reduceCtorEq,zd,ze,za,zf,zb]
  refine qvj (qpV (qgY ls) hs) rfl ?_
  rintro es' rfl
  simp only [ZZ,WW,Ze,reduceCtorEq,zd,ze,za,zf,zb,hln]
  refine qaf (fun n fr L=>∃ (k:Nat),k≤ls.length∧n=ls.length - k∧fr=[.p (.sl 1 es),oo,.p (.nl 12),oo,oo,oo,.row (.l 24),oo,oo,oo,oo,oo,oo,oo,oo,oo,oo,oo,oo,oo,oo,oo,oo,oo,oo,.p (.sl 1 es),.p (int (ls.length:Nat)),.p (int (k:Nat)),oo,oo,oo,oo,oo,oo,oo,oo]∧L=[(.l 24,.row ((ls.take k).flatten.map ddC) tDd 12 true)]) ls.length [.p (.sl 1 es),oo,.p (.nl 12),oo,oo,oo,.row (.l 24),oo,oo,oo,oo,oo,oo,oo,oo,oo,oo,oo,oo,oo,oo,oo,oo,oo,oo,.p (.sl 1 es),.p (int (ls.length:Nat)),.p (int (0:Nat)),oo,oo,oo,oo,oo,oo,oo,oo] [(.l 24,.row [] tDd 12 true)] (by (simp only [ZZ,WW,Ze,reduceCtorEq,zd,ze,za,zf,zb];try trivial)) zE_ ⟨0,by omega,by omega,rfl,rfl⟩ ?_
  rintro n fr L ⟨k,hk,rfl,rfl,rfl⟩
  simp only [qaQ,ZZ,WW,Ze,reduceCtorEq,zd,ze,za,zf,zb]
  have hle:=qij ls k
  refine br ?_ ?_
  ·intro h
   have hlt:k < ls.length:=by have:=of_decide_eq_true h;omega
   obtain ⟨s,hs⟩:∃ x,ls[k]?=some x:=⟨_,zp hlt⟩
   have hg:=hget k s hs
   have hnx:=qjA hs
   have hfx:=qob hs
   have hle':=qij ls (k+1)
   have hfl:((ls.take k).flatten.map ddC).length=qgY (ls.take k):=by rw [zY,qph]
   simp only [ZZ,WW,Ze,reduceCtorEq,zd,ze,za,zf,zb,hg,hln,qac]
   simp only [hfl,zY]
   ((repeat' (with_reducible apply And.intro))<;>try ((exact sc_)))
   refine qae (ls.length - (k+1)) [.p (.sl 1 es),oo,.p (.nl 12),oo,oo,oo,.row (.l 24),oo,oo,oo,oo,oo,oo,oo,oo,oo,oo,oo,oo,oo,oo,oo,oo,oo,oo,.p (.sl 1 es),.p (int (ls.length:Nat)),.p (int ((k+1:Nat):Nat)),oo,oo,oo,oo,oo,oo,oo,oo] [(.l 24,.row ((ls.take (k+1)).flatten.map ddC) tDd 12 true)] (by omega) (by (simp only [ZZ,WW,Ze,reduceCtorEq,zd,ze,za,zf,zb];try trivial)) (by rw [hfx,ye];simp only [ZZ,WW,Ze,reduceCtorEq,zd,ze,za,zf,zb,ddE]) ⟨k+1,by omega,rfl,rfl,rfl⟩
  ·intro h
   have hge:k=ls.length:=by have:=of_decide_eq_false h;omega
   subst hge
   rw [List.take_length]
   simp only [ZZ,WW,Ze,reduceCtorEq,zd,ze,za,zf,zb]
   exact qqQ 24 _ rfl rfl rfl
end
theorem qs4 {w:World} {U U':Nat→Prop} {d:Dd} {c:Bool} {v:Value} (h:PRep w U (.tup [.agg (ddC d),.bool c]) v):PRep w U' (.tup [.agg (ddC d),.bool c]) v:=by
 simp only [PRep,PRepL] at h ⊢
 obtain ⟨vs,e,v1,r1,e1,h1,v2,r2,e2,h2,e3⟩:=h
 have h1':PRep w U (.agg (ddC d)) v1:=by simp only [PRep];exact h1
 have h3:PRep w U' (.agg (ddC d)) v1:=PRep.flat (by rfl) h1'
 simp only [PRep] at h3
 exact ⟨vs,e,v1,r1,e1,h3,v2,r2,e2,h2,e3⟩
section
variable {P:Program} {E:Envt} {L:Objs}
theorem qvs {f:FuncId} {qs:List AV} {ps:List PV} {d:Dd} {c:Bool} (h:PCall P E f ps (·=.tup [.agg (ddC d),.bool c])) (ha:Zbh L qs=some ps):qga P E f qs L (·=.tup [.agg (ddC d),.bool c]):=by
 intro w X ι vs hs hX hE hEb hA
 refine (h w X vs (fun b hb=>(hX b hb).1) hE (fun b hb=>(hEb b hb).1) (qjN hs (fun b hb=>(hX b hb).2) ha hA)).mono ?_
 rintro e w' ⟨v,x,rfl,rfl,hr,hG⟩
 exact ⟨v,_,rfl,rfl,qs4 hr,hG⟩
theorem qvk {fr:List AV} {X:List PV} {K:List AV→Objs→Prop} {f:FuncId} {qs:List AV} {ps:List PV} {d:Dd} {c:Bool} {dst:Option Nat} {is:List IOper} (h:PCall P E f ps (·=.tup [.agg (ddC d),.bool c])) (ha:Zbh L qs=some ps) (hk:qaa P E X is (Zg fr dst (.p (.tup [.agg (ddC d),.bool c]))) L K):qbb P E f qs L dst fr (qcW P E X is K):=
 .inl ⟨_,qvs h ha,fun x e=>by rw [e];exact hk⟩
end
def mrgS (out:List Dd) (d:Dd):List Dd:=if (qdv out d.site d.no).isSome=true then out else out++[d]
def mrgF (q:List Dd):List Dd:=q.foldl mrgS []
theorem qqw {q:List Dd} {k:Nat} {d:Dd} (h:q[k]?=some d):mrgF (q.take (k+1))=mrgS (mrgF (q.take k)) d:=by
 obtain ⟨hk,he⟩:=zw.1 h
 rw [zX hk,he,mrgF,List.foldl_append]
 rfl
theorem qkm:∀ (r:List Dd) (x:Dd),x∈mrgF r.reverse→x∈r
 |[],x,h=>by cases h
 |d :: r,x,h=>by
  rw [List.reverse_cons,mrgF,List.foldl_append] at h
  have h:x∈mrgS (mrgF r.reverse) d:=h
  unfold mrgS at h
  split at h
  ·exact List.mem_cons_of_mem _ (qkm r x h)
  ·rcases zz.1 h with h|h
   ·exact List.mem_cons_of_mem _ (qkm r x h)
   ·rw [zN] at h;subst h;exact List.mem_cons_self
theorem qoY {q:List Dd} {x:Dd} (h:x∈mrgF q):x∈q:=by
 have:=qkm q.reverse x (by rwa [zS])
 simpa using this
theorem qnq:∀ r:List Dd,(mrgF r.reverse).length≤r.length
 |[]=>Nat.le_refl _
 |d :: r=>by
  rw [List.reverse_cons,mrgF,List.foldl_append]
  show (mrgS (mrgF r.reverse) d).length≤_
  have:=qnq r
  unfold mrgS
  split<;>simp<;>omega
theorem qsQ (q:List Dd):(mrgF q).length≤q.length:=by
 have:=qnq q.reverse
 rwa [zS,List.length_reverse] at this
theorem qnp:∀ r:List Dd,UnqD (mrgF r.reverse)
 |[]=>List.Pairwise.nil
 |d :: r=>by
  rw [List.reverse_cons,mrgF,List.foldl_append]
  show UnqD (mrgS (mrgF r.reverse) d)
  have ih:=qnp r
  unfold mrgS
  split
  ·exact ih
  ·rename_i h
   unfold UnqD at *
   rw [List.pairwise_append]
   refine ⟨ih,by simp,?_⟩
   intro x hx y hy e
   rw [zN] at hy
   subst hy
   obtain ⟨a1,a2⟩:=qfJ e
   refine h ?_
   unfold qdv
   rw [List.find?_isSome]
   exact ⟨x,hx,by simp [a1,a2]⟩
theorem qsP (q:List Dd):UnqD (mrgF q):=by
 have:=qnp q.reverse
 rwa [zS] at this
def cnfX (d:Dd):Option Dd→Bool
 |some x=>!decide (x=d)
 |none=>false
def cnfI (q:List Dd) (k:Nat):Bool:=match q[k]? with|some d=>cnfX d (qdv (mrgF (q.take k)) d.site d.no)|none=>false
def cnfF (q:List Dd):Bool:=(List.range q.length).any (cnfI q)
theorem qtw {q:List Dd} {k:Nat} (h:k < q.length) (hc:cnfI q k=true):cnfF q=true:=by
 unfold cnfF
 rw [List.any_eq_true]
 exact ⟨k,List.mem_range.2 h,hc⟩
theorem quZ {q:List Dd} (h:∀ k,k < q.length→cnfI q k=false):cnfF q=false:=by
 unfold cnfF
 rw [List.any_eq_false]
 intro k hk
 simp [h k (List.mem_range.1 hk)]
def mrgV (a b:List Dd):List Dd×Int:=
 if 2000 < b.length then ([],2) else if cnfF (a++b)=true then ([],13)
 else if ¬ (ckdF (srtD (mrgF (a++b)))).2=0 then ([],(ckdF (srtD (mrgF (a++b)))).2) else (srtD (mrgF (a++b)),0)
theorem quX (x d:Dd):(decide (x.site=d.site) && (decide (x.no=d.no) && (decide (x.tm=d.tm) && (decide (x.kind=d.kind) && (decide (x.id=d.id) && (decide (x.field=d.field) && (decide (x.value=d.value) && (decide (x.frm=d.frm) && (decide (x.upto=d.upto) && (decide (x.osite=d.osite) && (decide (x.ono=d.ono) && decide (x.sum=d.sum))))))))))))=decide (x=d):=by
 rw [Bool.eq_iff_iff]
 simp only [Bool.and_eq_true,decide_eq_true_eq]
 cases x;cases d
 simp
set_option maxRecDepth 100000 in
set_option maxHeartbeats 4000000 in
theorem qeY (a b:List Dd) (ha:a.length≤100000) (hb:b.length≤100000) (hA:DdsB a) (hB:DdsB b) :
  PCall Tryz.prog ED 32 [.sl 12 (ddE a),.sl 12 (ddE b)] (·=.tup [.sl 12 (ddE (mrgV a b).1),int (mrgV a b).2]):=by
 unfold mrgV
 refine qah mixed Tryz.func32 qeQ ?_
 simp only [a0,l0,OS.ao,zl,zt,zm,zr,zo,zq,zu,zd,zk,zn,qcB,qcp,ZZ,WW,Ze,reduceCtorEq,zd,ze,za,zf,zb]
 simp only [ZZ,WW,Ze,reduceCtorEq,zd,ze,za,zf,zb,qac]
 refine br ?_ ?_
 ·intro h
  have h:2000 < b.length:=by have:=of_decide_eq_true h;omega
  rw [if_pos h]
  simp only [ZZ,WW,Ze,reduceCtorEq,zd,ze,za,zf,zb]
  rfl
 intro h
 have h:¬ 2000 < b.length:=by have:=of_decide_eq_false h;omega
 rw [if_neg h]
 simp only [ZZ,WW,Ze,reduceCtorEq,zd,ze,za,zf,zb]
 have hC:=qm0 (E:=ED) [a,b] (by simp) (by simp [qgY];omega)
 have hq:[a,b].flatten=a++b:=by simp
 rw [hq] at hC
 have hql:(a++b).length≤200000:=by simp;omega
 have hQB:DdsB (a++b):=hA.app hB
 generalize a++b=q at *
 refine useF hC rfl rfl ?_
 rintro es rfl
 have hqe:q.map ddC=ddE q:=rfl
 rw [hqe]
 simp only [ZZ,WW,Ze,reduceCtorEq,zd,ze,za,zf,zb,qac]
 refine qaf (fun n fr L=>∃ (k:Nat),k≤q.length∧n=q.length - k∧(∀ j,j < k→cnfI q j=false)∧fr=[oo,oo,oo,oo,oo,oo,.row (.l 6),oo,oo,oo,oo,oo,oo,oo,oo,oo,oo,oo,oo,.row (.l 19),.p (int (q.length:Nat)),.p (int (k:Nat)),oo,oo,oo,oo,oo,oo,oo,oo,oo,oo,oo,oo,oo,oo,oo,oo,oo,oo,oo,oo,oo,oo,oo,oo,oo,oo,oo,oo,oo,oo,oo,oo,oo,oo]∧L=[(.l 6,.row (ddE (mrgF (q.take k))) tDd 12 true),(.l 19,.row (ddE q) tDd 12 true)]) (q.length) [oo,oo,oo,oo,oo,oo,.row (.l 6),oo,oo,oo,oo,oo,oo,oo,oo,oo,oo,oo,oo,.row (.l 19),.p (int (q.length:Nat)),.p (int (0:Nat)),oo,oo,oo,oo,oo,oo,oo,oo,oo,oo,oo,oo,oo,oo,oo,oo,oo,oo,oo,oo,oo,oo,oo,oo,oo,oo,oo,oo,oo,oo,oo,oo,oo,oo] [(.l 6,.row (ddE (mrgF (q.take 0))) tDd 12 true),(.l 19,.row (ddE q) tDd 12 true)] (by simp only [qac,List.take_zero,mrgF,List.foldl_nil,ZZ,WW,Ze,reduceCtorEq,zd,ze,za,zf,zb];try trivial) (by simp only [List.take_zero,mrgF,List.foldl_nil,qmK,ZZ,WW,Ze,reduceCtorEq,zd,ze,za,zf,zb];try trivial) ⟨0,by omega,by omega,by omega,rfl,rfl⟩ ?_
 rintro n fr L ⟨k,hk,rfl,hno,rfl,rfl⟩
 simp only [qbO,ZZ,WW,Ze,reduceCtorEq,zd,ze,za,zf,zb]
 have hml:(mrgF (q.take k)).length≤200000:=Nat.le_trans (qsQ _) (Nat.le_trans (List.length_take_le _ _) (by omega))
 refine br ?_ ?_
 ·intro h
  have hlt:k < q.length:=by have:=of_decide_eq_true h;omega
  obtain ⟨d,hd⟩:∃ d,q[k]?=some d:=⟨_,zp hlt⟩
  have hg:=qa0 hd
  have hn:=qqw hd
  have hci:cnfI q k=cnfX d (qdv (mrgF (q.take k)) d.site d.no):=by unfold cnfI;rw [hd]
  generalize mrgF (q.take k)=out at *
  simp only [ZZ,WW,Ze,reduceCtorEq,zd,ze,za,zf,zb,hg,qac,ddC]
  refine ⟨⟨by omega,by omega⟩,by omega,?_⟩
  refine qvk (qiO out d.site d.no (by omega)) rfl ?_
  cases hx:qdv out d.site d.no with
  |none=>
   have hn:mrgF (q.take (k+1))=out++[d]:=by rw [hn,mrgS,hx];rfl
   have hci:cnfI q k=false:=by rw [hci,hx];rfl
   have hn2:ddE (mrgF (q.take (k+1)))=ddE out++[ddC d]:=by rw [hn,← qpo];rfl
   simp only [ZZ,WW,Ze,reduceCtorEq,zd,ze,za,zf,zb,Option.getD_none,Option.isSome_none,dd0,ddC,qac,Bool.false_and]
   refine ⟨by omega,?_⟩
   refine qai zE_ ?_
   simp only [ZZ,WW,Ze,reduceCtorEq,zd,ze,za,zf,zb]
   refine ⟨qat (by omega) (by omega),?_⟩
   refine qae (q.length - (k+1)) [oo,oo,oo,oo,oo,oo,.row (.l 6),oo,oo,oo,oo,oo,oo,oo,oo,oo,oo,oo,oo,.row (.l 19),.p (int (q.length:Nat)),.p (int ((k+1):Nat)),oo,oo,oo,oo,oo,oo,oo,oo,oo,oo,oo,oo,oo,oo,oo,oo,oo,oo,oo,oo,oo,oo,oo,oo,oo,oo,oo,oo,oo,oo,oo,oo,oo,oo] [(.l 6,.row (ddE (mrgF (q.take (k+1)))) tDd 12 true),(.l 19,.row (ddE q) tDd 12 true)] (by omega) (by (simp only [ZZ,WW,Ze,reduceCtorEq,zd,ze,za,zf,zb];try trivial)) (by rw [hn2];simp only [ZZ,WW,Ze,reduceCtorEq,zd,ze,za,zf,zb,ddC]) ⟨k+1,by omega,rfl,by intro j hj;rcases Nat.lt_or_ge j k with h'|h';exact hno j h';rw [show j=k by omega,hci],rfl,rfl⟩
  |some x=>
   have hn:mrgF (q.take (k+1))=out:=by rw [hn,mrgS,hx];rfl
   simp only [ZZ,WW,Ze,reduceCtorEq,zd,ze,za,zf,zb,Option.getD_some,Option.isSome_some,ddC,Bool.true_and]
   rw [quX]
   refine br ?_ ?_
   ·intro h2
    have hci:cnfI q k=true:=by rw [hci,hx];exact h2
    rw [if_pos (qtw hlt hci)]
    simp only [ZZ,WW,Ze,reduceCtorEq,zd,ze,za,zf,zb]
    rfl
   intro h2
   have hci:cnfI q k=false:=by rw [hci,hx];exact h2
   simp only [ZZ,WW,Ze,reduceCtorEq,zd,ze,za,zf,zb]
   refine qai zE_ ?_
   simp only [ZZ,WW,Ze,reduceCtorEq,zd,ze,za,zf,zb]
   refine ⟨qat (by omega) (by omega),?_⟩
   refine qae (q.length - (k+1)) [oo,oo,oo,oo,oo,oo,.row (.l 6),oo,oo,oo,oo,oo,oo,oo,oo,oo,oo,oo,oo,.row (.l 19),.p (int (q.length:Nat)),.p (int ((k+1):Nat)),oo,oo,oo,oo,oo,oo,oo,oo,oo,oo,oo,oo,oo,oo,oo,oo,oo,oo,oo,oo,oo,oo,oo,oo,oo,oo,oo,oo,oo,oo,oo,oo,oo,oo] [(.l 6,.row (ddE (mrgF (q.take (k+1)))) tDd 12 true),(.l 19,.row (ddE q) tDd 12 true)] (by omega) (by (simp only [ZZ,WW,Ze,reduceCtorEq,zd,ze,za,zf,zb];try trivial)) (by rw [hn];simp only [ZZ,WW,Ze,reduceCtorEq,zd,ze,za,zf,zb]) ⟨k+1,by omega,rfl,by intro j hj;rcases Nat.lt_or_ge j k with h'|h';exact hno j h';rw [show j=k by omega,hci],rfl,rfl⟩
 ·intro h
  have hge:q.length≤k:=by have:=of_decide_eq_false h;omega
  rw [List.take_of_length_le hge] at *
  have hmb:DdsB (mrgF q):=fun x hx=>hQB x (qoY hx)
  simp only [ZZ,WW,Ze,reduceCtorEq,zd,ze,za,zf,zb]
  have hcn:cnfF q=false:=quZ fun j hj=>hno j (by omega)
  rw [if_neg (by rw [hcn];simp)]
  refine useR (qk2 ED (mrgF q) (by omega) (qsP q)) rfl rfl rfl zE_ ?_
  rintro z es' ⟨rfl,rfl⟩
  have hp:=qd0 (mrgF q)
  generalize srtD (mrgF q)=l' at *
  have hlb:DdsB l':=fun x hx=>hmb x (hp.mem_iff.1 hx)
  have hll:l'.length≤200000:=by rw [hp.length_eq];exact hml
  simp only [ZZ,WW,Ze,reduceCtorEq,zd,ze,za,zf,zb]
  refine use1 (qdy l' hlb (by omega)) rfl (.inr rfl) ?_
  simp only [ZZ,WW,Ze,reduceCtorEq,zd,ze,za,zf,zb]
  refine br ?_ ?_
  ·intro h
   have h:¬ (ckdF l').2=0:=by simpa using h
   rw [if_pos h]
   simp only [ZZ,WW,Ze,reduceCtorEq,zd,ze,za,zf,zb]
   rfl
  ·intro h
   have h:(ckdF l').2=0:=by simpa using h
   rw [if_neg (fun e=>e h)]
   simp only [ZZ,WW,Ze,reduceCtorEq,zd,ze,za,zf,zb]
theorem RD.merge {c:Int} {a b:List Dd} (ha:RD c a) (hb:RD c b):RD c (mrgV a b).1:=by
 unfold mrgV
 split
 ·exact RD.nil _
 split
 ·exact RD.nil _
 split
 ·exact RD.nil _
 ·rename_i h0
  have h0:(ckdF (srtD (mrgF (a++b)))).2=0:=by simpa using h0
  have hp:=qd0 (mrgF (a++b))
  generalize srtD (mrgF (a++b))=l' at *
  obtain ⟨h1,h2⟩:=qoH h0
  have hm:∀ x∈l',x∈a∨x∈b:=fun x hx=>zz.1 (qoY (hp.mem_iff.1 hx))
  exact ⟨h1,fun x hx=>(hm x hx).elim (ha.b x) (hb.b x),h2,(fun x hx=>(hm x hx).elim (ha.n x) (hb.n x)),fun x hx=>(hm x hx).elim (ha.t x) (hb.t x)⟩
def qb3:IC:=(.seq (.reg [qO 2 (.mov (.c (.int .i64 0))),qO 3 (.mov (.c (.int .i64 0))),qO 4 (.mov (.c (.str []))),qO 5 (.mov (.c (.str []))),qO 6 (.mov (.c (.str []))),qO 7 (.alc 37 [.int .i64 0,.int .i64 0])]) (.seq (.reg [qM 8 0,qO 9 (.call 17 [.t 8,.c (.int .i64 50)]),qM 10 0,qO 11 (.bsl 1 [.c (.int .i64 1),.c (.int .i64 1),.c (.int .i64 2),.c (.int .i64 4),.c (.int .i64 5)]),qO 12 (.call 37 [.t 10,.t 11]),qM 13 0,qO 14 (.bsl 1 [.c (.str [105,97]),.c (.str [105,98]),.c (.str [105,99])]),qO 15 (.call 36 [.t 13,.t 14]),qM 2 9,qM 3 12,qM 4 15]) (.seq (.seq (.reg [qM 16 3]) (.block 0 (.seq (.reg [qO 21 (.bin .eql (.t 16) (.c (.int .i64 1))),qM 20 21]) (.cond (.t 20) (.reg [qM 22 0,qO 23 (.bsl 1 [.c (.str [119,97,110,116]),.c (.str [116,111,112,105,99])]),qO 24 (.call 36 [.t 22,.t 23]),qM 25 0,qO 26 (.bsl 1 [.c (.str [121,101,115]),.c (.str [110,111]),.c (.str [109,97,121,98,101]),.c (.str [])]),qO 27 (.call 36 [.t 25,.t 26]),qM 5 24,qM 6 27]) (.seq (.reg [qO 29 (.bin .eql (.t 16) (.c (.int .i64 2))),qM 28 29]) (.cond (.t 28) (.reg [qM 30 0,qO 31 (.bsl 1 [.c (.str [104,111,116]),.c (.str [115,101,99,114,101,116])]),qO 32 (.call 36 [.t 30,.t 31]),qM 6 32]) (.seq (.reg [qO 34 (.bin .eql (.t 16) (.c (.int .i64 4))),qM 33 34]) (.cond (.t 33) (.seq (.reg [qM 35 0,qO 36 (.bsl 1 [.c (.int .i64 0),.c (.int .i64 1),.c (.int .i64 4)]),qO 37 (.call 37 [.t 35,.t 36]),qO 38 (.fla 0 (.t 7)),⟨none,.st 1 (.t 38) (.t 37),none⟩]) (.drg [qO 39 (.fla 0 (.t 7)),qO 40 (.ldl 1 false (.t 39)),qM 41 0,qO 42 (.bsl 1 [.c (.int .i64 1),.c (.int .i64 3),.c (.int .i64 9),.c (.int .i64 600)]),qO 43 (.dcall true 37 [.t 41,.t 42]),qO 44 (.bin .add (.t 40) (.t 43)),qO 45 (.fla 1 (.t 7)),⟨none,.st 1 (.t 45) (.t 44),none⟩])) (.reg [qM 17 0,qO 18 (.bsl 1 [.c (.str [108,111,111,107,32,97,116,32,116,104,105,115]),.c (.str [120])]),qO 19 (.call 36 [.t 17,.t 18]),qM 6 19]))))))))) (.cut (.seq (.seq (.reg [qM 46 0,qO 47 (.call 7 [.t 46,.c (.int .i64 12)])]) (.cond (.t 47) (.seq (.reg [qM 48 0,qO 49 (.call 17 [.t 48,.c (.int .i64 6)])]) (.block 1 (.seq (.reg [qO 58 (.bin .eql (.t 49) (.c (.int .i64 0))),qM 57 58]) (.cond (.t 57) (.reg [qM 59 0,qO 60 (.bsl 1 [.c (.int .i64 (-1)),.c (.int .i64 5761440)]),qO 61 (.call 37 [.t 59,.t 60]),qM 2 61]) (.seq (.reg [qO 63 (.bin .eql (.t 49) (.c (.int .i64 1))),qM 62 63]) (.cond (.t 62) (.reg [qM 64 0,qO 65 (.call 16 [.t 64,.c (.int .i64 0),.c (.int .i64 7)]),qM 3 65]) (.seq (.reg [qO 67 (.bin .eql (.t 49) (.c (.int .i64 2))),qM 66 67]) (.cond (.t 66) (.reg [qM 68 0,qO 69 (.bsl 1 [.c (.str []),.c (.str [73])]),qO 70 (.call 36 [.t 68,.t 69]),qM 4 70]) (.seq (.reg [qO 72 (.bin .eql (.t 49) (.c (.int .i64 3))),qM 71 72]) (.cond (.t 71) (.reg [qM 73 0,qO 74 (.bsl 1 [.c (.str []),.c (.str [119,97,110,116]),.c (.str [70])]),qO 75 (.call 36 [.t 73,.t 74]),qM 5 75]) (.seq (.reg [qO 77 (.bin .eql (.t 49) (.c (.int .i64 4))),qM 76 77]) (.cond (.t 76) (.reg [qM 78 0,qO 79 (.call 54 [.c (.str [118]),.c (.int .i64 60)]),qO 80 (.call 54 [.c (.str [118]),.c (.int .i64 61)]),qO 81 (.call 54 [.c (.str [118]),.c (.int .i64 200)]),qO 82 (.call 54 [.c (.str [118]),.c (.int .i64 201)]),qO 83 (.bsl 1 [.c (.str []),.c (.str [32,120]),.c (.str [97,9,98]),.t 79,.t 80,.t 81,.t 82]),qO 84 (.call 36 [.t 78,.t 83]),qM 6 84]) (.reg [qM 50 0,qO 51 (.bsl 1 [.c (.int .i64 (-1)),.c (.int .i64 0),.c (.int .i64 5)]),qO 52 (.call 37 [.t 50,.t 51]),qM 53 0,qO 54 (.bsl 1 [.c (.int .i64 0),.c (.int .i64 5),.c (.int .i64 20000),.c (.int .i64 20001)]),qO 55 (.call 37 [.t 53,.t 54]),⟨none,.fz (.t 52),none⟩,⟨none,.fz (.t 55),none⟩,qO 56 (.bld [.int .i64 0,.int .i64 0] [(0,1,.t 52),(1,1,.t 55)]),⟨none,.st 2 (.t 7) (.t 56),none⟩]))))))))))))) .skip)) (.cut (.seq (.drg [qM 85 2,qM 86 3,qM 87 4,qM 88 5,qM 89 6,qO 90 (.ld 2 true (.t 7)),qM 2 85,qM 3 86,qM 4 87,qM 5 88,qM 6 89,⟨none,.st 2 (.t 7) (.t 90),none⟩]) .ret)))))))
def qbW:List IRes:=[.t 2,.t 3,.t 4,.t 5,.t 6,.c 7 2 true]
theorem qen:chkF Tryz.prog Tryz.f14 qb3 qbW 91=true:=by kernel_rfl
abbrev tSpn:Nat:=37
structure DoB (t kd:Int) (id f v:List UInt8) (a b:Int):Prop where
 c1:-100000000≤t∧t≤100000000
 c2:-100000000≤kd∧kd≤100000000
 c3:id.length≤1000
 c4:f.length≤1000
 c5:v.length≤1000
 c6:-100000000≤a∧a≤100000000
 c7:-100000000≤b∧b≤100000000
theorem DoB.dd {t kd:Int} {id f v:List UInt8} {a b:Int} (h:DoB t kd id f v a b) {s:List UInt8} (hs:s.length≤1000):DdB (newD s t kd id f v a b):=by
 obtain ⟨c1,c2,c3,c4,c5,c6,c7⟩:=h
 exact ⟨hs,c3,c4,c5,by simp [newD],by simp [newD],by simp [newD],by simp only [newD];omega,by simp only [newD];omega,by simp only [newD];omega,by simp only [newD];omega,by simp [newD]⟩
def DoM1 (l:List Int) (k:Nat) (t kd:Int) (id:List UInt8) (fr:List AV) (L:Objs):Prop:=∃ (f v:List UInt8) (a b:Int) (k2:Nat),DoB t kd id f v a b∧k2≤k+5∧fr=[.adr (.b 0) 0,oo,.p (int t),.p (int kd),.p (.str id),.p (.str f),.p (.str v),.adr (.l 7) 0,oo,oo,oo,oo,oo,oo,oo,oo,oo,oo,oo,oo,oo,oo,oo,oo,oo,oo,oo,oo,oo,oo,oo,oo,oo,oo,oo,oo,oo,oo,oo,oo,oo,oo,oo,oo,oo,oo,oo,oo,oo,oo,oo,oo,oo,oo,oo,oo,oo,oo,oo,oo,oo,oo,oo,oo,oo,oo,oo,oo,oo,oo,oo,oo,oo,oo,oo,oo,oo,oo,oo,oo,oo,oo,oo,oo,oo,oo,oo,oo,oo,oo,oo]∧L=[(.b 0,.box ((stm l k2).map .p) T),(.l 7,.box [.p (int a),.p (int b)] tSpn)]
def DoM2 (l:List Int) (k:Nat) (fr:List AV) (L:Objs):Prop:=∃ (t kd:Int) (id f v:List UInt8) (a b:Int) (k2:Nat),DoB t kd id f v a b∧k2≤k+9∧fr=[.adr (.b 0) 0,oo,.p (int t),.p (int kd),.p (.str id),.p (.str f),.p (.str v),.adr (.l 7) 0,oo,oo,oo,oo,oo,oo,oo,oo,oo,oo,oo,oo,oo,oo,oo,oo,oo,oo,oo,oo,oo,oo,oo,oo,oo,oo,oo,oo,oo,oo,oo,oo,oo,oo,oo,oo,oo,oo,oo,oo,oo,oo,oo,oo,oo,oo,oo,oo,oo,oo,oo,oo,oo,oo,oo,oo,oo,oo,oo,oo,oo,oo,oo,oo,oo,oo,oo,oo,oo,oo,oo,oo,oo,oo,oo,oo,oo,oo,oo,oo,oo,oo,oo]∧L=[(.b 0,.box ((stm l k2).map .p) T),(.l 7,.box [.p (int a),.p (int b)] tSpn)]
section
variable {E:Envt}
set_option maxRecDepth 100000 in
set_option maxHeartbeats 4000000 in
theorem qnR (l:List Int) (k:Nat) (hk:k≤900000) (hl:l.length≤9223372036854775807) :
  qdh Tryz.prog E 14 T (stm l k) [] (fun x cs'=>∃ (t kd:Int) (id f v:List UInt8) (a b:Int) (k':Nat),x=.tup [int t,int kd,.str id,.str f,.str v,.agg [int a,int b]]∧DoB t kd id f v a b∧cs'=stm l k'∧k'≤k+10):=by
 unfold qdh
 refine qfe mixed Tryz.func14 qen ?_
 simp only [a0,l0,OS.ao,zl,zt,zm,zr,zo,zq,zu,zd,zk,zn,qb3,qbW,ZZ,WW,Ze,reduceCtorEq,zd,ze,za,zf,zb]
 refine useS (qcb l k 50 (by omega) hl (by decide)) rfl rfl rfl zE_ ?_
 rintro x cs' ⟨y,rfl,rfl⟩
 have b1:=qcX y 50
 have b2:=qcY y 50 (by decide)
 generalize qdY y 50=t at *
 simp only [ZZ,WW,Ze,reduceCtorEq,zd,ze,za,zf,zb]
 refine useS (qgB l (k+1) [1,1,2,4,5] (by omega) hl (by simp) (by simp)) rfl rfl rfl zE_ ?_
 rintro x cs' ⟨kd,rfl,hkd,rfl⟩
 have hkd:-1≤kd∧kd≤5761440:=by simp only [zG,zR,or_false] at hkd;omega
 simp only [ZZ,WW,Ze,reduceCtorEq,zd,ze,za,zf,zb]
 refine useS (qcQ l (k+1+1) [[105,97],[105,98],[105,99]] (by omega) hl (by simp) (by simp)) rfl rfl rfl zE_ ?_
 rintro x cs' ⟨id,rfl,hid,rfl⟩
 have hid:id.length≤1000:=by simp only [zG,zR,or_false] at hid;rcases hid with rfl|rfl|rfl<;>decide
 simp only [ZZ,WW,Ze,reduceCtorEq,zd,ze,za,zf,zb]
 refine qio (DoM1 l k t kd id) ?_ ?_ ?_
 ·intro _
  simp only [ZZ,WW,Ze,reduceCtorEq,zd,ze,za,zf,zb]
  refine useS (qcQ l (k+1+1+1) [[119,97,110,116],[116,111,112,105,99]] (by omega) hl (by simp) (by simp)) rfl rfl rfl zE_ ?_
  rintro x cs' ⟨f,rfl,hf,rfl⟩
  have hf:f.length≤1000:=by simp only [zG,zR,or_false] at hf;rcases hf with rfl|rfl<;>decide
  simp only [ZZ,WW,Ze,reduceCtorEq,zd,ze,za,zf,zb]
  refine useS (qcQ l (k+1+1+1+1) [[121,101,115],[110,111],[109,97,121,98,101],[]] (by omega) hl (by simp) (by simp)) rfl rfl rfl zE_ ?_
  rintro x cs' ⟨v,rfl,hv,rfl⟩
  have hv:v.length≤1000:=by simp only [zG,zR,or_false] at hv;rcases hv with rfl|rfl|rfl|rfl<;>decide
  simp only [ZZ,WW,Ze,reduceCtorEq,zd,ze,za,zf,zb]
  exact qan [.adr (.b 0) 0,oo,.p (int t),.p (int kd),.p (.str id),.p (.str f),.p (.str v),.adr (.l 7) 0,oo,oo,oo,oo,oo,oo,oo,oo,oo,oo,oo,oo,oo,oo,oo,oo,oo,oo,oo,oo,oo,oo,oo,oo,oo,oo,oo,oo,oo,oo,oo,oo,oo,oo,oo,oo,oo,oo,oo,oo,oo,oo,oo,oo,oo,oo,oo,oo,oo,oo,oo,oo,oo,oo,oo,oo,oo,oo,oo,oo,oo,oo,oo,oo,oo,oo,oo,oo,oo,oo,oo,oo,oo,oo,oo,oo,oo,oo,oo,oo,oo,oo,oo] [(.b 0,.box ((stm l (k+1+1+1+1+1)).map .p) T),(.l 7,.box [.p (int 0),.p (int 0)] tSpn)] (by (simp only [ZZ,WW,Ze,reduceCtorEq,zd,ze,za,zf,zb];try trivial)) zE_ ⟨f,v,0,0,_,⟨by omega,by omega,hid,hf,hv,by omega,by omega⟩,by omega,rfl,rfl⟩
 ·intro _
  simp only [ZZ,WW,Ze,reduceCtorEq,zd,ze,za,zf,zb]
  refine br ?_ ?_
  ·intro _
   simp only [ZZ,WW,Ze,reduceCtorEq,zd,ze,za,zf,zb]
   refine useS (qcQ l (k+1+1+1) [[104,111,116],[115,101,99,114,101,116]] (by omega) hl (by simp) (by simp)) rfl rfl rfl zE_ ?_
   rintro x cs' ⟨v,rfl,hv,rfl⟩
   have hv:v.length≤1000:=by simp only [zG,zR,or_false] at hv;rcases hv with rfl|rfl<;>decide
   simp only [ZZ,WW,Ze,reduceCtorEq,zd,ze,za,zf,zb]
   exact qan [.adr (.b 0) 0,oo,.p (int t),.p (int kd),.p (.str id),.p (.str []),.p (.str v),.adr (.l 7) 0,oo,oo,oo,oo,oo,oo,oo,oo,oo,oo,oo,oo,oo,oo,oo,oo,oo,oo,oo,oo,oo,oo,oo,oo,oo,oo,oo,oo,oo,oo,oo,oo,oo,oo,oo,oo,oo,oo,oo,oo,oo,oo,oo,oo,oo,oo,oo,oo,oo,oo,oo,oo,oo,oo,oo,oo,oo,oo,oo,oo,oo,oo,oo,oo,oo,oo,oo,oo,oo,oo,oo,oo,oo,oo,oo,oo,oo,oo,oo,oo,oo,oo,oo] [(.b 0,.box ((stm l (k+1+1+1+1)).map .p) T),(.l 7,.box [.p (int 0),.p (int 0)] tSpn)] (by (simp only [ZZ,WW,Ze,reduceCtorEq,zd,ze,za,zf,zb];try trivial)) zE_ ⟨[],v,0,0,_,⟨by omega,by omega,hid,by simp,hv,by omega,by omega⟩,by omega,rfl,rfl⟩
  intro _
  simp only [ZZ,WW,Ze,reduceCtorEq,zd,ze,za,zf,zb]
  refine br ?_ ?_
  ·intro _
   simp only [ZZ,WW,Ze,reduceCtorEq,zd,ze,za,zf,zb]
   refine useS (qgB l (k+1+1+1) [0,1,4] (by omega) hl (by simp) (by simp)) rfl rfl rfl zE_ ?_
   rintro x cs' ⟨a,rfl,ha,rfl⟩
   have ha:-1≤a∧a≤5761440:=by simp only [zG,zR,or_false] at ha;omega
   simp only [ZZ,WW,Ze,reduceCtorEq,zd,ze,za,zf,zb]
   refine drg0 ?_
   simp only [ZZ,WW,Ze,reduceCtorEq,zd,ze,za,zf,zb]
   refine useD (qgB l (k+1+1+1+1) [1,3,9,600] (by omega) hl (by simp) (by simp)) ⟨_,_,1,rfl,by simp,rfl⟩ rfl rfl rfl zE_ (fun _=>⟨0,rfl⟩) ?_
   rintro x cs' ⟨b,rfl,hb,rfl⟩
   have hb:-1≤b∧b≤5761440:=by simp only [zG,zR,or_false] at hb;omega
   simp only [ZZ,WW,Ze,reduceCtorEq,zd,ze,za,zf,zb]
   refine ⟨qat (by omega) (by omega),?_⟩
   exact qan [.adr (.b 0) 0,oo,.p (int t),.p (int kd),.p (.str id),.p (.str []),.p (.str []),.adr (.l 7) 0,oo,oo,oo,oo,oo,oo,oo,oo,oo,oo,oo,oo,oo,oo,oo,oo,oo,oo,oo,oo,oo,oo,oo,oo,oo,oo,oo,oo,oo,oo,oo,oo,oo,oo,oo,oo,oo,oo,oo,oo,oo,oo,oo,oo,oo,oo,oo,oo,oo,oo,oo,oo,oo,oo,oo,oo,oo,oo,oo,oo,oo,oo,oo,oo,oo,oo,oo,oo,oo,oo,oo,oo,oo,oo,oo,oo,oo,oo,oo,oo,oo,oo,oo] [(.b 0,.box ((stm l (k+1+1+1+1+1)).map .p) T),(.l 7,.box [.p (int a),.p (int (a+b))] tSpn)] (by (simp only [ZZ,WW,Ze,reduceCtorEq,zd,ze,za,zf,zb];try trivial)) zE_ ⟨[],[],a,(a+b),_,⟨by omega,by omega,hid,by simp,by simp,by omega,by omega⟩,by omega,rfl,rfl⟩
  ·intro _
   simp only [ZZ,WW,Ze,reduceCtorEq,zd,ze,za,zf,zb]
   refine useS (qcQ l (k+1+1+1) [[108,111,111,107,32,97,116,32,116,104,105,115],[120]] (by omega) hl (by simp) (by simp)) rfl rfl rfl zE_ ?_
   rintro x cs' ⟨v,rfl,hv,rfl⟩
   have hv:v.length≤1000:=by simp only [zG,zR,or_false] at hv;rcases hv with rfl|rfl<;>decide
   simp only [ZZ,WW,Ze,reduceCtorEq,zd,ze,za,zf,zb]
   exact qan [.adr (.b 0) 0,oo,.p (int t),.p (int kd),.p (.str id),.p (.str []),.p (.str v),.adr (.l 7) 0,oo,oo,oo,oo,oo,oo,oo,oo,oo,oo,oo,oo,oo,oo,oo,oo,oo,oo,oo,oo,oo,oo,oo,oo,oo,oo,oo,oo,oo,oo,oo,oo,oo,oo,oo,oo,oo,oo,oo,oo,oo,oo,oo,oo,oo,oo,oo,oo,oo,oo,oo,oo,oo,oo,oo,oo,oo,oo,oo,oo,oo,oo,oo,oo,oo,oo,oo,oo,oo,oo,oo,oo,oo,oo,oo,oo,oo,oo,oo,oo,oo,oo,oo] [(.b 0,.box ((stm l (k+1+1+1+1)).map .p) T),(.l 7,.box [.p (int 0),.p (int 0)] tSpn)] (by (simp only [ZZ,WW,Ze,reduceCtorEq,zd,ze,za,zf,zb];try trivial)) zE_ ⟨[],v,0,0,_,⟨by omega,by omega,hid,by simp,hv,by omega,by omega⟩,by omega,rfl,rfl⟩
 rintro fr L ⟨f,v,a,b,k2,hB,hk2,rfl,rfl⟩
 have c1:=hB.c1
 have c2:=hB.c2
 have c6:=hB.c6
 have c7:=hB.c7
 simp only [ZZ,WW,Ze,reduceCtorEq,zd,ze,za,zf,zb]
 refine useS (qi5 l k2 12 (by omega) hl (by decide)) rfl rfl rfl zE_ ?_
 rintro x cs' ⟨z,rfl,rfl⟩
 simp only [ZZ,WW,Ze,reduceCtorEq,zd,ze,za,zf,zb]
 refine qeq (DoM2 l k) ?_ ?_ ?_
 ·intro _
  simp only [ZZ,WW,Ze,reduceCtorEq,zd,ze,za,zf,zb]
  refine useS (qcb l (k2+1) 6 (by omega) hl (by decide)) rfl rfl rfl zE_ ?_
  rintro x cs' ⟨w,rfl,rfl⟩
  generalize qdY w 6=w
  simp only [ZZ,WW,Ze,reduceCtorEq,zd,ze,za,zf,zb]
  refine br ?_ ?_
  ·intro _
   simp only [ZZ,WW,Ze,reduceCtorEq,zd,ze,za,zf,zb]
   refine useS (qgB l (k2+1+1) [-1,5761440] (by omega) hl (by simp) (by simp)) rfl rfl rfl zE_ ?_
   rintro x cs' ⟨u,rfl,hu,rfl⟩
   have hu:-1≤u∧u≤5761440:=by simp only [zG,zR,or_false] at hu;omega
   simp only [ZZ,WW,Ze,reduceCtorEq,zd,ze,za,zf,zb]
   exact qan [.adr (.b 0) 0,oo,.p (int u),.p (int kd),.p (.str id),.p (.str f),.p (.str v),.adr (.l 7) 0,oo,oo,oo,oo,oo,oo,oo,oo,oo,oo,oo,oo,oo,oo,oo,oo,oo,oo,oo,oo,oo,oo,oo,oo,oo,oo,oo,oo,oo,oo,oo,oo,oo,oo,oo,oo,oo,oo,oo,oo,oo,oo,oo,oo,oo,oo,oo,oo,oo,oo,oo,oo,oo,oo,oo,oo,oo,oo,oo,oo,oo,oo,oo,oo,oo,oo,oo,oo,oo,oo,oo,oo,oo,oo,oo,oo,oo,oo,oo,oo,oo,oo,oo] [(.b 0,.box ((stm l (k2+1+1+1)).map .p) T),(.l 7,.box [.p (int a),.p (int b)] tSpn)] (by (simp only [ZZ,WW,Ze,reduceCtorEq,zd,ze,za,zf,zb];try trivial)) zE_ ⟨u,kd,id,f,v,a,b,_,{ hB with c1:=by omega },by omega,rfl,rfl⟩
  intro _
  simp only [ZZ,WW,Ze,reduceCtorEq,zd,ze,za,zf,zb]
  refine br ?_ ?_
  ·intro _
   simp only [ZZ,WW,Ze,reduceCtorEq,zd,ze,za,zf,zb]
   refine useS (qhs l (k2+1+1) 0 7 (by omega) hl (by decide) (by decide) (by decide)) rfl rfl rfl zE_ ?_
   rintro x cs' ⟨u,rfl,hu1,hu2,rfl⟩
   simp only [ZZ,WW,Ze,reduceCtorEq,zd,ze,za,zf,zb]
   exact qan [.adr (.b 0) 0,oo,.p (int t),.p (int u),.p (.str id),.p (.str f),.p (.str v),.adr (.l 7) 0,oo,oo,oo,oo,oo,oo,oo,oo,oo,oo,oo,oo,oo,oo,oo,oo,oo,oo,oo,oo,oo,oo,oo,oo,oo,oo,oo,oo,oo,oo,oo,oo,oo,oo,oo,oo,oo,oo,oo,oo,oo,oo,oo,oo,oo,oo,oo,oo,oo,oo,oo,oo,oo,oo,oo,oo,oo,oo,oo,oo,oo,oo,oo,oo,oo,oo,oo,oo,oo,oo,oo,oo,oo,oo,oo,oo,oo,oo,oo,oo,oo,oo,oo] [(.b 0,.box ((stm l (k2+1+1+1)).map .p) T),(.l 7,.box [.p (int a),.p (int b)] tSpn)] (by (simp only [ZZ,WW,Ze,reduceCtorEq,zd,ze,za,zf,zb];try trivial)) zE_ ⟨t,u,id,f,v,a,b,_,{ hB with c2:=by omega },by omega,rfl,rfl⟩
  intro _
  simp only [ZZ,WW,Ze,reduceCtorEq,zd,ze,za,zf,zb]
  refine br ?_ ?_
  ·intro _
   simp only [ZZ,WW,Ze,reduceCtorEq,zd,ze,za,zf,zb]
   refine useS (qcQ l (k2+1+1) [[],[73]] (by omega) hl (by simp) (by simp)) rfl rfl rfl zE_ ?_
   rintro x cs' ⟨u,rfl,hu,rfl⟩
   have hu:u.length≤1000:=by simp only [zG,zR,or_false] at hu;rcases hu with rfl|rfl<;>decide
   simp only [ZZ,WW,Ze,reduceCtorEq,zd,ze,za,zf,zb]
   exact qan [.adr (.b 0) 0,oo,.p (int t),.p (int kd),.p (.str u),.p (.str f),.p (.str v),.adr (.l 7) 0,oo,oo,oo,oo,oo,oo,oo,oo,oo,oo,oo,oo,oo,oo,oo,oo,oo,oo,oo,oo,oo,oo,oo,oo,oo,oo,oo,oo,oo,oo,oo,oo,oo,oo,oo,oo,oo,oo,oo,oo,oo,oo,oo,oo,oo,oo,oo,oo,oo,oo,oo,oo,oo,oo,oo,oo,oo,oo,oo,oo,oo,oo,oo,oo,oo,oo,oo,oo,oo,oo,oo,oo,oo,oo,oo,oo,oo,oo,oo,oo,oo,oo,oo] [(.b 0,.box ((stm l (k2+1+1+1)).map .p) T),(.l 7,.box [.p (int a),.p (int b)] tSpn)] (by (simp only [ZZ,WW,Ze,reduceCtorEq,zd,ze,za,zf,zb];try trivial)) zE_ ⟨t,kd,u,f,v,a,b,_,{ hB with c3:=hu },by omega,rfl,rfl⟩
  intro _
  simp only [ZZ,WW,Ze,reduceCtorEq,zd,ze,za,zf,zb]
  refine br ?_ ?_
  ·intro _
   simp only [ZZ,WW,Ze,reduceCtorEq,zd,ze,za,zf,zb]
   refine useS (qcQ l (k2+1+1) [[],[119,97,110,116],[70]] (by omega) hl (by simp) (by simp)) rfl rfl rfl zE_ ?_
   rintro x cs' ⟨u,rfl,hu,rfl⟩
   have hu:u.length≤1000:=by simp only [zG,zR,or_false] at hu;rcases hu with rfl|rfl|rfl<;>decide
   simp only [ZZ,WW,Ze,reduceCtorEq,zd,ze,za,zf,zb]
   exact qan [.adr (.b 0) 0,oo,.p (int t),.p (int kd),.p (.str id),.p (.str u),.p (.str v),.adr (.l 7) 0,oo,oo,oo,oo,oo,oo,oo,oo,oo,oo,oo,oo,oo,oo,oo,oo,oo,oo,oo,oo,oo,oo,oo,oo,oo,oo,oo,oo,oo,oo,oo,oo,oo,oo,oo,oo,oo,oo,oo,oo,oo,oo,oo,oo,oo,oo,oo,oo,oo,oo,oo,oo,oo,oo,oo,oo,oo,oo,oo,oo,oo,oo,oo,oo,oo,oo,oo,oo,oo,oo,oo,oo,oo,oo,oo,oo,oo,oo,oo,oo,oo,oo,oo] [(.b 0,.box ((stm l (k2+1+1+1)).map .p) T),(.l 7,.box [.p (int a),.p (int b)] tSpn)] (by (simp only [ZZ,WW,Ze,reduceCtorEq,zd,ze,za,zf,zb];try trivial)) zE_ ⟨t,kd,id,u,v,a,b,_,{ hB with c4:=hu },by omega,rfl,rfl⟩
  intro _
  simp only [ZZ,WW,Ze,reduceCtorEq,zd,ze,za,zf,zb]
  refine br ?_ ?_
  ·intro _
   simp only [ZZ,WW,Ze,reduceCtorEq,zd,ze,za,zf,zb]
   refine use1 (qf3 [118] 60 (by omega) (by simp)) rfl (.inl rfl) ?_
   have g0:(Lib.repeatL [118] 60).length=60:=by rw [Lib.repeatL_length];rfl
   generalize Lib.repeatL [118] 60=r0 at g0 ⊢
   simp only [ZZ,WW,Ze,reduceCtorEq,zd,ze,za,zf,zb]
   refine use1 (qf3 [118] 61 (by omega) (by simp)) rfl (.inl rfl) ?_
   have g1:(Lib.repeatL [118] 61).length=61:=by rw [Lib.repeatL_length];rfl
   generalize Lib.repeatL [118] 61=r1 at g1 ⊢
   simp only [ZZ,WW,Ze,reduceCtorEq,zd,ze,za,zf,zb]
   refine use1 (qf3 [118] 200 (by omega) (by simp)) rfl (.inl rfl) ?_
   have g2:(Lib.repeatL [118] 200).length=200:=by rw [Lib.repeatL_length];rfl
   generalize Lib.repeatL [118] 200=r2 at g2 ⊢
   simp only [ZZ,WW,Ze,reduceCtorEq,zd,ze,za,zf,zb]
   refine use1 (qf3 [118] 201 (by omega) (by simp)) rfl (.inl rfl) ?_
   have g3:(Lib.repeatL [118] 201).length=201:=by rw [Lib.repeatL_length];rfl
   generalize Lib.repeatL [118] 201=r3 at g3 ⊢
   simp only [ZZ,WW,Ze,reduceCtorEq,zd,ze,za,zf,zb]
   refine useS (qcQ l (k2+1+1) [[],[32,120],[97,9,98],r0,r1,r2,r3] (by omega) hl (by simp) (by simp)) rfl rfl rfl zE_ ?_
   rintro x cs' ⟨u,rfl,hu,rfl⟩
   have hu:u.length≤1000:=by simp only [zG,zR,or_false] at hu;rcases hu with rfl|rfl|rfl|rfl|rfl|rfl|rfl<;>first|omega|decide
   simp only [ZZ,WW,Ze,reduceCtorEq,zd,ze,za,zf,zb]
   exact qan [.adr (.b 0) 0,oo,.p (int t),.p (int kd),.p (.str id),.p (.str f),.p (.str u),.adr (.l 7) 0,oo,oo,oo,oo,oo,oo,oo,oo,oo,oo,oo,oo,oo,oo,oo,oo,oo,oo,oo,oo,oo,oo,oo,oo,oo,oo,oo,oo,oo,oo,oo,oo,oo,oo,oo,oo,oo,oo,oo,oo,oo,oo,oo,oo,oo,oo,oo,oo,oo,oo,oo,oo,oo,oo,oo,oo,oo,oo,oo,oo,oo,oo,oo,oo,oo,oo,oo,oo,oo,oo,oo,oo,oo,oo,oo,oo,oo,oo,oo,oo,oo,oo,oo] [(.b 0,.box ((stm l (k2+1+1+1)).map .p) T),(.l 7,.box [.p (int a),.p (int b)] tSpn)] (by (simp only [ZZ,WW,Ze,reduceCtorEq,zd,ze,za,zf,zb];try trivial)) zE_ ⟨t,kd,id,f,u,a,b,_,{ hB with c5:=hu },by omega,rfl,rfl⟩
  intro _
  simp only [ZZ,WW,Ze,reduceCtorEq,zd,ze,za,zf,zb]
  refine useS (qgB l (k2+1+1) [-1,0,5] (by omega) hl (by simp) (by simp)) rfl rfl rfl zE_ ?_
  rintro x cs' ⟨u,rfl,hu,rfl⟩
  have hu:-1≤u∧u≤5761440:=by simp only [zG,zR,or_false] at hu;omega
  simp only [ZZ,WW,Ze,reduceCtorEq,zd,ze,za,zf,zb]
  refine useS (qgB l (k2+1+1+1) [0,5,20000,20001] (by omega) hl (by simp) (by simp)) rfl rfl rfl zE_ ?_
  rintro x cs' ⟨u2,rfl,hu2,rfl⟩
  have hu2:-1≤u2∧u2≤5761440:=by simp only [zG,zR,or_false] at hu2;omega
  simp only [ZZ,WW,Ze,reduceCtorEq,zd,ze,za,zf,zb]
  exact qan [.adr (.b 0) 0,oo,.p (int t),.p (int kd),.p (.str id),.p (.str f),.p (.str v),.adr (.l 7) 0,oo,oo,oo,oo,oo,oo,oo,oo,oo,oo,oo,oo,oo,oo,oo,oo,oo,oo,oo,oo,oo,oo,oo,oo,oo,oo,oo,oo,oo,oo,oo,oo,oo,oo,oo,oo,oo,oo,oo,oo,oo,oo,oo,oo,oo,oo,oo,oo,oo,oo,oo,oo,oo,oo,oo,oo,oo,oo,oo,oo,oo,oo,oo,oo,oo,oo,oo,oo,oo,oo,oo,oo,oo,oo,oo,oo,oo,oo,oo,oo,oo,oo,oo] [(.b 0,.box ((stm l (k2+1+1+1+1)).map .p) T),(.l 7,.box [.p (int u),.p (int u2)] tSpn)] (by (simp only [ZZ,WW,Ze,reduceCtorEq,zd,ze,za,zf,zb];try trivial)) zE_ ⟨t,kd,id,f,v,u,u2,_,{ hB with c6:=by omega,c7:=by omega },by omega,rfl,rfl⟩
 ·intro _
  simp only [ZZ,WW,Ze,reduceCtorEq,zd,ze,za,zf,zb]
  exact qan [.adr (.b 0) 0,oo,.p (int t),.p (int kd),.p (.str id),.p (.str f),.p (.str v),.adr (.l 7) 0,oo,oo,oo,oo,oo,oo,oo,oo,oo,oo,oo,oo,oo,oo,oo,oo,oo,oo,oo,oo,oo,oo,oo,oo,oo,oo,oo,oo,oo,oo,oo,oo,oo,oo,oo,oo,oo,oo,oo,oo,oo,oo,oo,oo,oo,oo,oo,oo,oo,oo,oo,oo,oo,oo,oo,oo,oo,oo,oo,oo,oo,oo,oo,oo,oo,oo,oo,oo,oo,oo,oo,oo,oo,oo,oo,oo,oo,oo,oo,oo,oo,oo,oo] [(.b 0,.box ((stm l (k2+1)).map .p) T),(.l 7,.box [.p (int a),.p (int b)] tSpn)] (by (simp only [ZZ,WW,Ze,reduceCtorEq,zd,ze,za,zf,zb];try trivial)) zE_ ⟨t,kd,id,f,v,a,b,_,hB,by omega,rfl,rfl⟩
 rintro fr L ⟨t,kd,id,f,v,a,b,k3,hB,hk3,rfl,rfl⟩
 simp only [ZZ,WW,Ze,reduceCtorEq,zd,ze,za,zf,zb]
 refine drg0 ?_
 simp only [ZZ,WW,Ze,reduceCtorEq,zd,ze,za,zf,zb]
 exact qfI (stm l k3) rfl ⟨t,kd,id,f,v,a,b,k3,rfl,hB,rfl,by omega⟩
end
end Go.Proofs.YtinffddgojhdfaaGreatDoor
namespace Go.Proofs.YtinffddgojhdfaaGreatDoor
open Nat renaming reduceAdd→zd,reduceEqDiff→zb,reduceLT→zf,reduceLeDiff→za,reduceMul→ze
section
variable {E:Envt}
def nxV (l:List Int) (k:Nat):Int:=if l.length=0 then ((k:Int)+1) * 7919 else qdY (l.getD (k % l.length) 0) 1073741824+((k / l.length:Nat):Int) * (7919+((k % l.length:Nat):Int))
theorem qmX (l:List Int) (k:Nat) (n:Int) (hk:k≤1000000) (hl:l.length≤9223372036854775807) (h2:n≤9223372036854775807) :
  qdh Tryz.prog E 17 T (stm l k) [int n] (fun x cs'=>x=int (qdY (nxV l k) n)∧cs'=stm l (k+1)):=by
 unfold qdh
 refine qfe mixed Tryz.func17 qci ?_
 simp only [a0,l0,OS.ao,List.map_cons,List.map_nil,List.length_cons,List.length_nil,List.cons_append,List.nil_append,Nat.reduceSub,zd,List.replicate_succ,List.replicate_zero,stm,qbm,qbk,ZZ,WW,Ze,reduceCtorEq,zd,ze,za,zf,zb]
 refine ⟨qat (by omega) (by omega),?_⟩
 simp only [ints,ZZ,WW,Ze,reduceCtorEq,zd,ze,za,zf,zb]
 generalize hes:l.map (fun x=>[PV.int IntKind.i64 x])=es
 have hln:es.length=l.length:=by rw [← hes];simp
 have hc:[PV.sl 1 es,int ((k:Int)+1)]=[PV.sl 1 es,int ((k+1:Nat):Int)]:=by simp
 refine br ?_ ?_
 ·intro h
  simp only [ZZ,WW,Ze,reduceCtorEq,zd,ze,za,zf,zb]
  refine ⟨qat (by omega) (by omega),?_⟩
  refine use1 (qf4 _ _ h2) rfl (.inl rfl) ?_
  simp only [ZZ,WW,Ze,reduceCtorEq,zd,ze,za,zf,zb]
  exact qfI [PV.sl 1 es,int ((k:Int)+1)] rfl ⟨by rw [nxV,if_pos (by rw [← hln];have:=of_decide_eq_true h;omega)],hc⟩
 ·intro h
  have hne:¬ ((es.length:Int)=0):=of_decide_eq_false h
  simp only [ZZ,WW,Ze,reduceCtorEq,zd,ze,za,zf,zb]
  refine drg0 ?_
  simp only [ZZ,WW,Ze,reduceCtorEq,zd,ze,za,zf,zb]
  refine ⟨qat (by omega) (by omega),⟨by omega,?_⟩⟩
  refine drg0 ?_
  have hkk:(k:Int)+1 - 1=k:=by omega
  have hrem:(k:Int).tmod (es.length:Int)=((k % es.length:Nat):Int):=by rw [Int.tmod_eq_emod_of_nonneg (by omega)];rfl
  have hquo:(k:Int).tdiv (es.length:Int)=((k / es.length:Nat):Int):=by rw [Int.tdiv_eq_ediv_of_nonneg (by omega)];rfl
  have hq1:k / es.length≤k:=Nat.div_le_self _ _
  have hr1:k % es.length≤k:=Nat.mod_le _ _
  have hr2:k % es.length < es.length:=Nat.mod_lt _ (by omega)
  obtain ⟨x,hx⟩:∃ x,l[k % es.length]?=some x:=⟨_,List.getElem?_eq_getElem (by omega)⟩
  have hg:es.getD (k % es.length) []=[PV.int .i64 x]:=by rw [← hes];exact qb5 (by rw [hes];exact hx)
  have hv:nxV l k=qdY x 1073741824+((k / es.length:Nat):Int) * (7919+((k % es.length:Nat):Int)):=by
   rw [nxV,if_neg (by rw [← hln];omega),← hln,List.getD_eq_getElem?_getD,hx]
   rfl
  simp only [ZZ,WW,Ze,reduceCtorEq,zd,ze,za,zf,zb,hkk,hrem,hquo,hg]
  generalize k / es.length=q at *
  generalize k % es.length=r at *
  refine ⟨qat (by omega) (by omega),⟨hne,qat (by omega) (by omega)⟩,⟨by omega,by omega⟩,by omega,?_⟩
  refine use1 (qf4 _ _ (by decide)) rfl (.inl rfl) ?_
  have hb1:=qcX x 1073741824
  have hb2:=qcY x 1073741824 (by omega)
  have hm:(q:Int) * (7919+(r:Int))≤1000000 * 1007919:=Int.mul_le_mul (by omega) (by omega) (by omega) (by omega)
  have hm0:0≤(q:Int) * (7919+(r:Int)):=Int.mul_nonneg (by omega) (by omega)
  simp only [ZZ,WW,Ze,reduceCtorEq,zd,ze,za,zf,zb]
  refine ⟨qat (by omega) (by omega),qat (by omega) (by omega),qat (by omega) (by omega),?_⟩
  refine use1 (qf4 _ _ h2) rfl (.inl rfl) ?_
  simp only [ZZ,WW,Ze,reduceCtorEq,zd,ze,za,zf,zb]
  exact qfI [PV.sl 1 es,int ((k:Int)+1)] rfl ⟨by rw [hv],hc⟩
end
end Go.Proofs.YtinffddgojhdfaaGreatDoor
