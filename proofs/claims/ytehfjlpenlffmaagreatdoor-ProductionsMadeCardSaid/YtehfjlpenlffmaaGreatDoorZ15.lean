import Derived.Test.YtehfjlpenlffmaaGreatDoorZ14
import Derived.Test.YtehfjlpenlffmaaGreatDoorZ7
import Derived.Test.YtehfjlpenlffmaaGreatDoorZ4
import Derived.Test.YtehfjlpenlffmaaGreatDoorZ13
import Derived.Test.YtehfjlpenlffmaaGreatDoorZ9
set_option linter.unusedVariables false
set_option linter.unusedSimpArgs false
set_option linter.defProp false
namespace Go.Proofs.YtehfjlpenlffmaaGreatDoor
open Nat renaming le_trans→zT,reduceAdd→zd,reduceEqDiff→za,reduceLT→zf,reduceLeDiff→zb,reduceMul→ze,reduceSub→zu
open List renaming cons_append→zl,drop_eq_nil_of_le→zU,getD→zD,getElem?_eq_getElem→zg,getElem?_eq_some_iff→zt,getElem?_of_mem→zR,length_cons→zi,length_map→zB,length_nil→zo,length_take→zP,map_cons→zk,map_nil→zr,mem_of_getElem?→zx,mem_singleton→zF,nil_append→zm,replicate_succ→zh,replicate_zero→zj,take_of_length_le→zC,take_succ_eq_append_getElem→zy
open Go.RowKit
theorem qnE (il:List Itm):∀ {ts:List Nat} {j:Nat},(∀ t∈ts,t < 20)→j < 20→mpF (kidP il ts) (pid j)=if j∈ts then some (.sl 1 (strE (kidsF il (pid j)))) else none
 |[],j,_,_=>by simp [kidP,mpF]
 |t :: r,j,h,hj=>by
  have ih:=qnE il (ts:=r) (fun t ht=>h t (by simp [ht])) hj
  have ht:=h t (by simp)
  simp only [kidP,zk,mpF] at ih ⊢
  by_cases e:t=j
  ·subst e
   simp
  ·have e2:¬ pid t=pid j:=fun q=>e (qir (by omega) (by omega) q)
   rw [if_neg e2,ih]
   have e3:¬ j=t:=fun q=>e q.symm
   simp [e3]
theorem qxb (w:List (List UInt8)) (x:List UInt8):strE w++[[.str x]]=strE (w++[x]):=by simp [strE]
section
variable {E:Envt}
theorem qpf (A:List (List UInt8)) (B:List PV) (T:List (List PV)) (kv:List (List UInt8×PV)) (s:List UInt8) (h:mpF kv s=none):PCall Tryz.prog E 225 [.agg [.mpv A B,.mpv (kv.map (·.1)) (kv.map (·.2)),.sl 1 T],.str s] (·=.sl 1 [[.str s]]):=by
 refine qae mixed Tryz.func225 qgP ?_
 simp only [a0,l0,OS.ao,zk,zr,zi,zo,zl,zm,zu,zd,zh,zj,qdL,qdK,ZZ,WW,Zd,reduceCtorEq,zd,ze,zb,zf,za]
 simp only [ZZ,WW,Zd,reduceCtorEq,zd,ze,zb,zf,za,qdc,mpD,h,Option.getD_none]
 refine qad (fun n fr L=>∃ (k:Nat),k≤0∧n=0 - k∧fr=(oC (oo::(.row (.l 9)::oC (oB (oo::(.p (.nl 1)::.p (int ((0:Nat):Nat))::.p (int (k:Nat))::oD (oB [])))))))∧L=[(.l 9,.row [[.str s]] 9 1 true)]) (0) _ _ zF_ (by (simp only [ZZ,WW,Zd,reduceCtorEq,zd,ze,zb,zf,za];try trivial)) ⟨0,by omega,by omega,rfl,rfl⟩ ?_
 rintro n fr L ⟨k,hk,rfl,rfl,rfl⟩
 simp only [qcI,ZZ,WW,Zd,reduceCtorEq,zd,ze,zb,zf,za]
 refine br (fun h=>by simp at h;omega) ?_
 intro h
 refine zS ?_
 trivial
theorem qwF (A:List (List UInt8)) (B:List PV) (T:List (List PV)) (kv:List (List UInt8×PV)) (s:List UInt8) (ks:List (List UInt8)) (hn:ks.length≤1000) (h:mpF kv s=some (.sl 1 (strE ks))) (hks:∀ t∈ks,mpF kv t=none):PCall Tryz.prog E 225 [.agg [.mpv A B,.mpv (kv.map (·.1)) (kv.map (·.2)),.sl 1 T],.str s] (·=.sl 1 (strE (s :: ks))):=by
 refine qae mixed Tryz.func225 qgP ?_
 simp only [a0,l0,OS.ao,zk,zr,zi,zo,zl,zm,zu,zd,zh,zj,qdL,qdK,ZZ,WW,Zd,reduceCtorEq,zd,ze,zb,zf,za]
 simp only [ZZ,WW,Zd,reduceCtorEq,zd,ze,zb,zf,za,qdc,mpD,h,Option.getD_some,qag]
 refine qad (fun n fr L=>∃ (k:Nat) (w:List (List UInt8)),k≤ks.length∧n=ks.length - k∧(w=s :: ks.take k)∧fr=(oo::oo::.adr (.l 2) 0::oo::oo::.row (.l 9)::oC (oB (oo::(.p (.sl 1 (strE ks))::.p (int (ks.length:Nat))::.p (int (k:Nat))::oD (oB [])))))∧L=[(.l 2,.box [.p (.mpv A B),.p (.mpv (kv.map (·.1)) (kv.map (·.2))),.p (.sl 1 T)] 229),(.l 9,.row (strE w) 9 1 true)]) (ks.length) _ _ (by simp only [ZZ,WW,Zd,reduceCtorEq,zd,ze,zb,zf,za,qag];try trivial) (by (simp only [ZZ,WW,Zd,reduceCtorEq,zd,ze,zb,zf,za];try trivial)) ⟨0,[s],by omega,by omega,rfl,rfl,rfl⟩ ?_
 rintro n fr L ⟨k,w,hk,rfl,hw,rfl,rfl⟩
 simp only [qcI,ZZ,WW,Zd,reduceCtorEq,zd,ze,zb,zf,za]
 refine br ?_ ?_
 ·intro h
  have hlt:k < ks.length:=by have:=of_decide_eq_true h;omega
  obtain ⟨x,hx⟩:∃ x,ks[k]?=some x:=⟨_,zg hlt⟩
  have hg:=qfH hx
  have htk:ks.take (k+1)=ks.take k++[x]:=by rw [zy hlt,(zt.1 hx).2]
  simp only [ZZ,WW,Zd,reduceCtorEq,zd,ze,zb,zf,za,hg,qag]
  ((with_reducible and_intros)<;>try exact sc_)
  refine use1 (qpf A B T kv x (hks x (zx hx))) rfl (.inl rfl) ?_
  have hwl:w.length≤1001:=by rw [hw,zi,zP];omega
  simp only [ZZ,WW,Zd,reduceCtorEq,zd,ze,zb,zf,za,qag,qxb]
  ((with_reducible and_intros)<;>try exact sc_)
  refine qac (ks.length - (k+1)) _ _ (by omega) (by (simp only [ZZ,WW,Zd,reduceCtorEq,zd,ze,zb,zf,za];try trivial)) (by (simp only [ZZ,WW,Zd,reduceCtorEq,zd,ze,zb,zf,za];try trivial)) ⟨k+1,w++[x],by omega,rfl,by rw [hw,htk];rfl,rfl,rfl⟩
 intro h
 have hge:ks.length≤k:=by have:=of_decide_eq_false h;omega
 rw [zC hge] at hw
 subst hw
 refine zS ?_
 trivial
theorem qyr {il:List Itm} (hP:qaP il) (A:List (List UInt8)) (B:List PV) (T:List (List PV)) {ts:List Nat} (hl:∀ t∈ts,t < 20) (hk:∀ t,t < 20→(t∈ts↔kidsF il (pid t)≠[])) {t:Nat} (ht:t∈topI il):PCall Tryz.prog E 225 [.agg [.mpv A B,.mpv ((kidP il ts).map (·.1)) ((kidP il ts).map (·.2)),.sl 1 T],.str (pid t)] (·=.sl 1 (strE (pid t :: kidsF il (pid t)))):=by
 have h20:=hP.1
 obtain ⟨htl,_,htop⟩:=qlT ht
 by_cases hm:t∈ts
 ·refine qwF A B T (kidP il ts) (pid t) (kidsF il (pid t)) (zT (qbF _ _) (by omega)) (by rw [qnE il hl (by omega),if_pos hm]) ?_
  intro s hs
  rw [← qv1] at hs
  obtain ⟨i,hi,rfl⟩:=List.mem_map.1 hs
  obtain ⟨hil,hi20,_,hup⟩:=qlU hP (by omega) hi
  rw [quA hP hil,qnE il hl hi20,if_neg]
  intro hit
  refine (hk i hi20).1 hit ?_
  rw [← qv1,List.map_eq_nil_iff]
  refine List.eq_nil_iff_forall_not_mem.2 fun j hj=>?_
  obtain ⟨hjl,_,_,hju⟩:=qlU hP hi20 hj
  obtain ⟨_,q|⟨m,hm1,q1,q2⟩⟩:=qlz hP hjl
  ·rw [q] at hju
   exact qj5 i hju.symm
  ·have:=qir (by omega) (by omega) (q1.symm.trans hju)
   subst this
   rw [q2] at hup
   exact qj5 t hup.symm
 ·have h0:kidsF il (pid t)=[]:=Classical.byContradiction fun q=>hm ((hk t (by omega)).2 q)
  rw [h0]
  exact qpf A B T (kidP il ts) (pid t) (by rw [qnE il hl (by omega),if_neg hm])
theorem qs6 (il:List Itm) (hP:qaP il):PCall Tryz.prog E0 161 [.sl 7 (itE il)] (·=.tup [.sl 2 ((topsF il).map (encF il)),int 0]):=by
 have h20:=hP.1
 refine qae mixed Tryz.func161 qmd ?_
 simp only [a0,l0,OS.ao,zk,zr,zi,zo,zl,zm,zu,zd,zh,zj,qib,qhQ,ZZ,WW,Zd,reduceCtorEq,zd,ze,zb,zf,za]
 refine use1 (qrZ il hP) rfl (.inl rfl) ?_
 simp only [ZZ,WW,Zd,reduceCtorEq,zd,ze,zb,zf,za,decide_true,Bool.not_true]
 refine use (quv il hP) rfl (.inl rfl) ?_
 rintro _ ⟨kv,ts,rfl,hkv,hkn,hl,hd,hk⟩
 have hbl:=fun {t:Nat} (ht:t∈topI il)=>qyr (E:=E0) hP (kv.map (·.1)) (kv.map (·.2)) (strE (topsF il)) hl hk ht
 generalize kv.map (·.1)=A at *
 generalize kv.map (·.2)=B at *
 generalize (kidP il ts).map (·.1)=C at *
 generalize (kidP il ts).map (·.2)=D at *
 have hTl:(topsF il).length≤20:=zT (qbF il []) h20
 have hTi:=qyY il
 simp only [ZZ,WW,Zd,reduceCtorEq,zd,ze,zb,zf,za,qag]
 refine qad (fun n fr L=>∃ (k:Nat) (w:List (List PV)),k≤(topsF il).length∧n=(topsF il).length - k∧(w=((topsF il).take k).map (encF il))∧fr=(oC (oo::(.adr (.l 5) 0::.row (.l 6)::oD (oB (.p (.sl 1 (strE (topsF il)))::.p (int ((topsF il).length:Nat))::.p (int (k:Nat))::oD (oC (oo::[])))))))∧L=[(.l 5,.box [.p (.mpv A B),.p (.mpv C D),.p (.sl 1 (strE (topsF il)))] 229),(.l 6,.row w 119 2 true)]) ((topsF il).length) _ _ (by simp only [ZZ,WW,Zd,reduceCtorEq,zd,ze,zb,zf,za,qag];try trivial) (by (simp only [ZZ,WW,Zd,reduceCtorEq,zd,ze,zb,zf,za];try trivial)) ⟨0,[],by omega,by omega,rfl,rfl,rfl⟩ ?_
 rintro n fr L ⟨k,w,hk,rfl,hw,rfl,rfl⟩
 simp only [qf4,ZZ,WW,Zd,reduceCtorEq,zd,ze,zb,zf,za]
 refine br ?_ ?_
 ·intro h
  have hlt:k < (topsF il).length:=by have:=of_decide_eq_true h;omega
  obtain ⟨x,hx⟩:∃ x,(topsF il)[k]?=some x:=⟨_,zg hlt⟩
  have hg:=qfH hx
  have htk:((topsF il).take (k+1)).map (encF il)=((topsF il).take k).map (encF il)++[[.str x,.sl 1 (strE (x :: kidsF il x))]]:=by rw [zy hlt,(zt.1 hx).2,List.map_append];rfl
  obtain ⟨t,ht,htx⟩:∃ t,t∈topI il∧(atI il t).1=x:=by have:=zx hx;rw [← hTi] at this;simpa using List.mem_map.1 this
  rw [quA hP (qlT ht).1] at htx
  have hc:=hbl ht
  rw [htx] at hc
  have hwl:w.length≤20:=by rw [hw,zB,zP];omega
  simp only [ZZ,WW,Zd,reduceCtorEq,zd,ze,zb,zf,za,hg,qag]
  ((with_reducible and_intros)<;>try exact sc_)
  refine use1 hc rfl (.inl rfl) ?_
  refine zS ?_
  ((with_reducible and_intros)<;>try exact sc_)
  refine qac ((topsF il).length - (k+1)) _ _ (by omega) (by (simp only [ZZ,WW,Zd,reduceCtorEq,zd,ze,zb,zf,za];try trivial)) (by (simp only [ZZ,WW,Zd,reduceCtorEq,zd,ze,zb,zf,za];try trivial)) ⟨k+1,w++[[.str x,.sl 1 (strE (x :: kidsF il x))]],by omega,rfl,by rw [hw,htk],rfl,rfl⟩
 intro h
 have hge:(topsF il).length≤k:=by have:=of_decide_eq_false h;omega
 rw [zC hge] at hw
 subst hw
 simp only [ZZ,WW,Zd,reduceCtorEq,zd,ze,zb,zf,za]
end
def qdx:IC:=(sR [qT 9 .lss 8 7] (.seq (.cond (.t 9) .skip (.exit 0)) (.seq (.block 1 (sR [qM 10 8,qM 5 10] (sR [qM 11 1,qM 12 0,qM 13 5,qX 14 1 12 13,qL 15 14,qT 16 .eql 11 15] (.cond (.t 16) (sR [qM 17 5,qM 4 17] .ret) .skip)))) (.reg [qB 18 .add 8 (cI 1),qM 8 18]))))
def qeO:IC:=(sR [qO 4 (.mov (cI 0))] (.seq (sR [qM 6 0,qN 7 6,qO 8 (.mov (cI 0))] (.block 0 (.loop qdx))) (sR [qO 4 (.mov (cI (-1)))] .ret)))
def qeD:List IRes:=[.t 4]
theorem qjd:chkF Tryz.prog Tryz.f317 qeO qeD 19=true:=by kernel_rfl
def qdy:IC:=(sR [qO 4 (.mov (.c (.bool false)))] (sR [qM 5 0,qM 6 1,qO 7 (.call 317 [.t 5,.t 6]),qB 8 .geq 7 (cI 0),qM 4 8] .ret))
def qdt:List IRes:=[.t 4]
theorem qhF:chkF Tryz.prog Tryz.f271 qdy qdt 9=true:=by kernel_rfl
section
variable {E:Envt}
def ixE (l:List Int):List (List PV):=l.map fun x=>[PV.int .i64 x]
theorem qi9 (l:List Int):(ixE l).length=l.length:=by simp [ixE]
theorem qv7 {l:List Int} {k:Nat} {x:Int} (h:l[k]?=some x):(ixE l).getD k []=[.int .i64 x]:=qas h
def idxI (l:List Int) (x:Int) (k:Nat):Int:=if h:k < l.length then (if x=l[k] then k else idxI l x (k+1)) else -1
termination_by l.length - k
theorem qwX (l:List Int) (x:Int) (hl:l.length≤1000000000):PCall Tryz.prog E 317 [.sl 1 (ixE l),.int .i64 x] (·=int (idxI l x 0)):=by
 refine qae mixed Tryz.func317 qjd ?_
 simp only [a0,l0,OS.ao,zk,zr,zi,zo,zl,zm,zu,zd,zh,zj,qeO,qeD,ZZ,WW,Zd,reduceCtorEq,zd,ze,zb,zf,za]
 simp only [ZZ,WW,Zd,reduceCtorEq,zd,ze,zb,zf,za,qi9]
 refine qad (fun n fr L=>∃ (k:Nat),k≤l.length∧n=l.length - k∧(idxI l x 0=idxI l x k)∧fr=(.p (.sl 1 (ixE l))::.p (.int .i64 x)::oC (oo::(.p (int (l.length:Nat))::.p (int (k:Nat))::oD (oB []))))∧L=[]) (l.length) _ [] (by simp only [ZZ,WW,Zd,reduceCtorEq,zd,ze,zb,zf,za,qi9];try trivial) (by (simp only [ZZ,WW,Zd,reduceCtorEq,zd,ze,zb,zf,za];try trivial)) ⟨0,by omega,by omega,rfl,rfl,rfl⟩ ?_
 rintro n fr L ⟨k,hk,rfl,hf,rfl,rfl⟩
 simp only [qdx,ZZ,WW,Zd,reduceCtorEq,zd,ze,zb,zf,za]
 refine br ?_ ?_
 ·intro h
  have hlt:k < l.length:=by have:=of_decide_eq_true h;omega
  have hg:=qv7 (zg hlt)
  simp only [ZZ,WW,Zd,reduceCtorEq,zd,ze,zb,zf,za,hg,qi9]
  ((with_reducible and_intros)<;>try exact sc_)
  refine br ?_ ?_
  ·intro h2
   have h2:x=l[k]:=of_decide_eq_true h2
   refine zS ?_
   rw [hf,idxI,dif_pos hlt,if_pos h2]
  ·intro h2
   have h2:¬ x=l[k]:=of_decide_eq_false h2
   refine zS ?_
   ((with_reducible and_intros)<;>try exact sc_)
   refine qac (l.length - (k+1)) _ [] (by omega) (by (simp only [ZZ,WW,Zd,reduceCtorEq,zd,ze,zb,zf,za];try trivial)) (by (simp only [ZZ,WW,Zd,reduceCtorEq,zd,ze,zb,zf,za];try trivial)) ⟨k+1,by omega,rfl,by rw [hf,idxI,dif_pos hlt,if_neg h2],rfl,rfl⟩
 ·intro h
  have hge:¬ k < l.length:=by have:=of_decide_eq_false h;omega
  refine zS ?_
  rw [hf,idxI,dif_neg hge]
theorem qxZ (l:List Int) (x:Int):∀ (n k:Nat),l.length - k≤n→(0≤idxI l x k↔x∈l.drop k):=by
 intro n
 induction n with
 |zero=>
  intro k hk
  rw [idxI,dif_neg (by omega),zU (by omega)]
  simp
 |succ n ih=>
  intro k hk
  rw [idxI]
  split
  ·rename_i h
   rw [List.drop_eq_getElem_cons h,List.mem_cons]
   split
   ·rename_i e;simp [e]
   ·rename_i e
    rw [ih (k+1) (by omega)]
    simp [e]
  ·rename_i h
   rw [zU (by omega)]
   simp
theorem qr2 (l:List Int) (x:Int) (hl:l.length≤1000000000):PCall Tryz.prog E 271 [.sl 1 (ixE l),.int .i64 x] (·=.bool (decide (x∈l))):=by
 refine qae mixed Tryz.func271 qhF ?_
 simp only [a0,l0,OS.ao,zk,zr,zi,zo,zl,zm,zu,zd,zh,zj,qdy,qdt,ZZ,WW,Zd,reduceCtorEq,zd,ze,zb,zf,za]
 refine use1 (qwX l x hl) rfl (.inl rfl) ?_
 refine zS ?_
 have:=qxZ l x _ 0 (Nat.le_refl _)
 rw [List.drop_zero] at this
 simp only [this]
end
def qa8:IC:=(sR [qT 9 .lss 8 7] (.seq (.cond (.t 9) .skip (.exit 0)) (.seq (.block 1 (sR [qM 10 8,qM 5 10] (sR [qM 11 1,qM 12 0,qM 13 5,qX 14 7 12 13,qO 15 (.ld 7 true (.t 14)),qO 16 (.callv (.t 11) [.t 15])] (.cond (.t 16) (sR [qM 17 5,qM 4 17] .ret) .skip)))) (.reg [qB 18 .add 8 (cI 1),qM 8 18]))))
def qbo:IC:=(sR [qO 4 (.mov (cI 0))] (.seq (sR [qM 6 0,qN 7 6,qO 8 (.mov (cI 0))] (.block 0 (.loop qa8))) (sR [qO 4 (.mov (cI (-1)))] .ret)))
def qbk:List IRes:=[.t 4]
theorem qdM:chkF Tryz.prog Tryz.f153 qbo qbk 19=true:=by kernel_rfl
def qih:IC:=(sR [qO 3 (.box 9 (.t 1)),qO 4 (.mov (cI 0))] (sR [qM 5 0,qO 6 (.mkf 213 [.t 3]),qO 7 (.call 153 [.t 5,.t 6]),qM 4 7] .ret))
def qhS:List IRes:=[.t 4]
theorem qmf:chkF Tryz.prog Tryz.f151 qih qhS 8=true:=by kernel_rfl
def qgK:IC:=(sR [qO 2 (.box 80 (.t 0)),qO 3 (.mov (.c (.bool false)))] (sR [qF 4 0 2,qL 5 4,qL 6 1,qT 7 .eql 5 6,qM 3 7] .ret))
def qgw:List IRes:=[.t 3]
theorem qkR:chkF Tryz.prog Tryz.f213 qgK qgw 8=true:=by kernel_rfl
def qdh:IC:=(.seq (sR [qM 15 7,qB 16 .geq 15 (cI 0),qM 17 16,⟨some 18,.mov (.t 0),(some (17,true))⟩,⟨some 19,.mov (.t 1),(some (17,true))⟩,⟨some 20,.ixa 7 (.t 18) (.t 19),(some (17,true))⟩,⟨some 21,.fla 5 (.t 20),(some (17,true))⟩,⟨some 22,.ld 1 false (.t 21),(some (17,true))⟩,⟨some 23,.bin .neq (.t 22) (.c (.str [])),(some (17,true))⟩,qO 24 (.pick (.t 17) (.t 23) (.c (.bool false)))] (.cond (.t 24) .skip (.exit 0))) (.seq (.block 1 (sR [qM 32 6,qM 33 7,qO 34 (.bsl 1 [.t 33]),qO 35 (.app 3 1 8 (.t 32) (.t 34)),qM 6 35] (.seq (sR [qM 36 6,qN 37 36,qM 38 0,qN 39 38,qT 40 .gtr 37 39] (.cond (.t 40) (sR [qM 41 6,qM 4 41,qO 5 (.mov (.c (.bool false)))] .ret) .skip)) (sR [qM 42 0,qM 43 7,qX 44 7 42 43,qF 45 5 44,qL 46 45,qB 47 .eql 46 (.c (.str []))] (.cond (.t 47) (.exit 0) .skip))))) (.reg [qM 25 0,qM 26 0,qM 27 7,qX 28 7 26 27,qF 29 5 28,qL 30 29,qO 31 (.call 151 [.t 25,.t 30]),qM 7 31])))
def qii:IC:=(sR [qO 4 (.mov (.c (.nl 1))),qO 5 (.mov (.c (.bool false)))] (sR [qO 6 (.nilr 3 1)] (.seq (sR [qM 8 0,qM 9 0,qM 10 1,qX 11 7 9 10,qF 12 5 11,qL 13 12,qO 14 (.call 151 [.t 8,.t 13]),qM 7 14] (.block 0 (.loop qdh))) (.cut (sR [qM 48 6,qM 4 48,qO 5 (.mov (.c (.bool true)))] .ret)))))
def qhT:List IRes:=[.t 4,.t 5]
theorem qmg:chkF Tryz.prog Tryz.f165 qii qhT 49=true:=by kernel_rfl
def qgJ:IC:=(sR [qO 4 (.mov (.c (.bool false)))] (sR [qM 8 0,qM 9 1,qO 10 (.call 165 [.t 8,.t 9]),qM 7 10,qO 11 (.ext 0 (.t 7)),qO 12 (.ext 1 (.t 7)),qM 5 11,qM 6 12] (sR [qM 13 5,qM 14 1,qO 15 (.call 271 [.t 13,.t 14]),qM 4 15] .ret)))
def qgv:List IRes:=[.t 4]
theorem qkQ:chkF Tryz.prog Tryz.f214 qgJ qgv 16=true:=by kernel_rfl
def qd1:IC:=(sR [qT 20 .lss 19 18] (.seq (.cond (.t 20) .skip (.exit 2)) (.seq (.block 3 (sR [qM 21 19,qM 4 21] (.seq (sR [qM 22 0,qM 23 0,qM 24 4,qX 25 7 23 24,qF 26 5 25,qL 27 26,qO 28 (.call 151 [.t 22,.t 27]),qM 5 28] (sR [qM 29 0,qM 30 4,qX 31 7 29 30,qF 32 5 31,qL 33 32,qB 34 .neq 33 (.c (.str [])),qM 35 34,⟨some 36,.mov (.t 5),(some (35,true))⟩,⟨some 37,.bin .geq (.t 36) (cI 0),(some (35,true))⟩,qO 38 (.pick (.t 35) (.t 37) (.c (.bool false))),qM 39 38,⟨some 40,.mov (.t 0),(some (39,true))⟩,⟨some 41,.mov (.t 5),(some (39,true))⟩,⟨some 42,.ixa 7 (.t 40) (.t 41),(some (39,true))⟩,⟨some 43,.fla 2 (.t 42),(some (39,true))⟩,⟨some 44,.ld 1 false (.t 43),(some (39,true))⟩,⟨some 45,.bin .neq (.t 44) (cI 1),(some (39,true))⟩,qO 46 (.pick (.t 39) (.t 45) (.c (.bool false))),qM 47 46,⟨some 48,.mov (.t 0),(some (47,true))⟩,⟨some 49,.mov (.t 5),(some (47,true))⟩,⟨some 50,.ixa 7 (.t 48) (.t 49),(some (47,true))⟩,⟨some 51,.fla 2 (.t 50),(some (47,true))⟩,⟨some 52,.ld 1 false (.t 51),(some (47,true))⟩,⟨some 53,.bin .neq (.t 52) (cI 3),(some (47,true))⟩,qO 54 (.pick (.t 47) (.t 53) (.c (.bool false)))] (.cond (.t 54) (sR [qO 2 (.mov (cI 16))] .ret) .skip))) (sR [qM 56 0,qM 57 4,qO 58 (.call 165 [.t 56,.t 57]),qM 55 58,qO 59 (.ext 0 (.t 55)),qO 60 (.ext 1 (.t 55)),qM 6 59,qM 7 60] (sR [qM 61 6,qN 62 61,qB 63 .gtr 62 (cI 4)] (.cond (.t 63) (sR [qO 2 (.mov (cI 2))] .ret) .skip)))))) (.reg [qB 64 .add 19 (cI 1),qM 19 64]))))
def qd2:IC:=(sR [qT 11 .lss 10 9] (.seq (.cond (.t 11) .skip (.exit 0)) (.seq (.block 1 (sR [qM 12 10,qM 3 12] (sR [qM 13 0,qM 14 3,qO 15 (.call 214 [.t 13,.t 14])] (.cond (.t 15) (sR [qO 2 (.mov (cI 14))] .ret) .skip)))) (.reg [qB 16 .add 10 (cI 1),qM 10 16]))))
def qfq:IC:=(sR [qO 2 (.mov (cI 0))] (.seq (sR [qM 8 0,qN 9 8,qO 10 (.mov (cI 0))] (.block 0 (.loop qd2))) (.seq (sR [qM 17 0,qN 18 17,qO 19 (.mov (cI 0))] (.block 2 (.loop qd1))) (sR [qO 2 (.mov (cI 0))] .ret))))
def qfb:List IRes:=[.t 2]
theorem qjM:chkF Tryz.prog Tryz.f152 qfq qfb 65=true:=by kernel_rfl
def qdB:IC:=(sR [qT 33 .lss 32 31] (.seq (.cond (.t 33) .skip (.exit 2)) (.seq (.block 3 (sR [qX 34 7 30 32,qO 35 (.ld 7 true (.t 34)),qO 8 (.alc 80 [.str [],.str [],.int .i64 0,.str [],.int .i64 0,.str [],.str []]),qS 7 8 35] (sR [qF 36 5 8,qL 37 36,qB 38 .neq 37 (.c (.str [])),qM 39 38,⟨some 40,.mov (.t 0),(some (39,true))⟩,⟨some 41,.fla 5 (.t 8),(some (39,true))⟩,⟨some 42,.ld 1 false (.t 41),(some (39,true))⟩,⟨some 43,.call 151 [.t 40,.t 42],(some (39,true))⟩,⟨some 44,.bin .lss (.t 43) (cI 0),(some (39,true))⟩,qO 45 (.pick (.t 39) (.t 44) (.c (.bool false)))] (.cond (.t 45) (sR [qO 2 (.mov (cI 8))] .ret) .skip)))) (.reg [qB 46 .add 32 (cI 1),qM 32 46]))))
def qdC:IC:=(sR [qT 15 .lss 14 13] (.seq (.cond (.t 15) .skip (.exit 0)) (.seq (.block 1 (sR [qX 16 7 12 14,qO 17 (.ld 7 true (.t 16)),qO 5 (.alc 80 [.str [],.str [],.int .i64 0,.str [],.int .i64 0,.str [],.str []]),qS 7 5 17] (.seq (sR [qO 18 (.ld 7 true (.t 5)),qO 19 (.call 150 [.t 18]),qM 6 19] (sR [qM 20 6,qB 21 .neq 20 (cI 0)] (.cond (.t 21) (sR [qM 22 6,qM 2 22] .ret) .skip))) (.seq (sR [qF 23 0 5,qL 24 23,qM 25 3,qT 26 .leq 24 25] (.cond (.t 26) (sR [qO 2 (.mov (cI 7))] .ret) .skip)) (.reg [qF 27 0 5,qL 28 27,qM 3 28]))))) (.reg [qB 29 .add 14 (cI 1),qM 14 29]))))
def qeS:IC:=(sR [qO 2 (.mov (cI 0))] (.seq (sR [qM 9 0,qN 10 9,qB 11 .gtr 10 (cI 2000)] (.cond (.t 11) (sR [qO 2 (.mov (cI 2))] .ret) .skip)) (sR [qO 3 (.mov (.c (.str [])))] (.seq (sR [qM 12 0,qN 13 12,qO 14 (.mov (cI 0))] (.block 0 (.loop qdC))) (.seq (sR [qM 30 0,qN 31 30,qO 32 (.mov (cI 0))] (.block 2 (.loop qdB))) (sR [qM 47 0,qO 48 (.call 152 [.t 47]),qM 2 48] .ret))))))
def qeH:List IRes:=[.t 2]
theorem qjh:chkF Tryz.prog Tryz.f71 qeS qeH 49=true:=by kernel_rfl
section
variable {E:Envt}
theorem qmt (l:List Itm) (f:FuncId) (ps:List PV) (q:Itm→Bool) (hl:l.length≤1000000000) (hfn:Unit→fnB Tryz.prog f=true) (hps:Zk [] (ps.map .p)=true) (hf:∀ x∈l,PCall Tryz.prog E f (.agg (itC x) :: ps) (·=.bool (q x))) (hn:∀ x,Zbg [] (.p (.agg (itC x)) :: ps.map .p)=some (.agg (itC x) :: ps)) (hr:∀ x,Zbi (.p (.agg (itC x)) :: ps.map .p)=true):PCall Tryz.prog E 153 [.sl 7 (itE l),.clo f ps] (·=int (idxF q l)):=by
 refine qae mixed Tryz.func153 qdM ?_
 simp only [a0,l0,OS.ao,zk,zr,zi,zo,zl,zm,zu,zd,zh,zj,qbo,qbk,ZZ,WW,Zd,reduceCtorEq,zd,ze,zb,zf,za]
 simp only [ZZ,WW,Zd,reduceCtorEq,zd,ze,zb,zf,za,qai]
 refine qad (fun n fr L=>∃ (k:Nat),k≤l.length∧n=l.length - k∧(∀ x∈l.take k,q x=false)∧fr=(.p (.sl 7 (itE l))::.p (.clo f ps)::oC (oo::(.p (int (l.length:Nat))::.p (int (k:Nat))::oD (oB []))))∧L=[]) (l.length) _ [] (by simp only [qai,ZZ,WW,Zd,reduceCtorEq,zd,ze,zb,zf,za];try trivial) (by (simp only [ZZ,WW,Zd,reduceCtorEq,zd,ze,zb,zf,za];try trivial)) ⟨0,by omega,by omega,by simp,rfl,rfl⟩ ?_
 rintro n fr L ⟨k,hk,rfl,hno,rfl,rfl⟩
 simp only [qa8,ZZ,WW,Zd,reduceCtorEq,zd,ze,zb,zf,za]
 refine br ?_ ?_
 ·intro h
  have hlt:k < l.length:=by have:=of_decide_eq_true h;omega
  obtain ⟨x,hx⟩:∃ x,l[k]?=some x:=⟨_,zg hlt⟩
  have hg:=qbG hx
  simp only [itC] at hg
  simp only [ZZ,WW,Zd,reduceCtorEq,zd,ze,zb,zf,za,hg,qai,hfn ()]
  refine ⟨⟨by omega,by omega⟩,by omega,hps,?_⟩
  refine use1 (hf x (zx hx)) (hn x) (.inl (hr x)) ?_
  refine zS ?_
  refine br ?_ ?_
  ·intro hq
   refine zS ?_
   rw [qja hx hq hno]
  ·intro hq
   refine zS ?_
   ((with_reducible and_intros)<;>try exact sc_)
   refine qac (l.length - (k+1)) _ [] (by omega) (by (simp only [ZZ,WW,Zd,reduceCtorEq,zd,ze,zb,zf,za];try trivial)) (by (simp only [ZZ,WW,Zd,reduceCtorEq,zd,ze,zb,zf,za];try trivial)) ⟨k+1,by omega,rfl,by rw [zy hlt];intro y hy;rcases List.mem_append.1 hy with hy|hy;exact hno y hy;rw [zF] at hy;rw [hy,(zt.1 hx).2];exact hq,rfl,rfl⟩
 ·intro h
  have hge:l.length≤k:=by have:=of_decide_eq_false h;omega
  rw [zC hge] at hno
  refine zS ?_
  rw [qgd hno]
theorem qvt (x:Itm) (s:List UInt8):PCall Tryz.prog E 213 [.agg (itC x),.ptr [.str s]] (·=.bool (decide (x.1=s))):=by
 simp only [itC]
 refine qae mixed Tryz.func213 qkR ?_
 simp only [a0,l0,OS.ao,zk,zr,zi,zo,zl,zm,zu,zd,zh,zj,qgK,qgw,ZZ,WW,Zd,reduceCtorEq,zd,ze,zb,zf,za]
def plF (il:List Itm) (s:List UInt8):Int:=idxF (fun x=>decide (x.1=s)) il
theorem qpI (il:List Itm) (s:List UInt8) (hl:il.length≤1000000):PCall Tryz.prog E 151 [.sl 7 (itE il),.str s] (·=int (plF il s)):=by
 refine qae mixed Tryz.func151 qmf ?_
 simp only [a0,l0,OS.ao,zk,zr,zi,zo,zl,zm,zu,zd,zh,zj,qih,qhS,ZZ,WW,Zd,reduceCtorEq,zd,ze,zb,zf,za]
 refine use1 (qmt il 213 [.ptr [.str s]] (fun x=>decide (x.1=s)) (by omega) (fun _=>by kernel_rfl) rfl (fun y _=>qvt y s) (fun _=>rfl) (fun _=>rfl)) rfl (.inr rfl) ?_
 refine zS ?_
 rfl
theorem qvv {il:List Itm} (h:qaP il):plF il []=-1:=by
 refine qgd fun x hx=>?_
 obtain ⟨i,hi⟩:=zR hx
 rw [(h.2 i x hi).b1]
 simp [pid]
theorem qk9 {il:List Itm} (h:qaP il) {j:Nat} {y:Itm} (hy:il[j]?=some y):plF il (pid j)=j:=by
 have hjl:=(zt.1 hy).1
 have h20:=h.1
 refine qja hy (by rw [(h.2 j y hy).b1];simp) fun z hz=>?_
 obtain ⟨i,hi⟩:=zR hz
 have hlt:i < j:=by have:=(zt.1 hi).1;rw [zP] at this;omega
 rw [List.getElem?_take_of_lt hlt] at hi
 rw [(h.2 i z hi).b1,decide_eq_false_iff_not]
 intro e
 have:=qir (by omega) (by omega) e
 omega
def upF (il:List Itm) (x:Itm):List Int:=if x.2.2.2.2.2.1=[] then [] else [plF il x.2.2.2.2.2.1]
theorem qkx (il:List Itm) (hP:qaP il) (i:Nat) (x:Itm) (hx:il[i]?=some x):PCall Tryz.prog E 165 [.sl 7 (itE il),int (i:Nat)] (·=.tup [.sl 1 (ixE (upF il x)),.bool true]):=by
 have hp:=hP.2 i x hx
 have h20:=hP.1
 have hil:=(zt.1 hx).1
 have hg:=qbG hx
 simp only [itC] at hg
 refine qae mixed Tryz.func165 qmg ?_
 simp only [a0,l0,OS.ao,zk,zr,zi,zo,zl,zm,zu,zd,zh,zj,qii,qhT,ZZ,WW,Zd,reduceCtorEq,zd,ze,zb,zf,za]
 simp only [ZZ,WW,Zd,reduceCtorEq,zd,ze,zb,zf,za,hg,qai]
 ((with_reducible and_intros)<;>try exact sc_)
 refine use1 (qpI il x.2.2.2.2.2.1 (by omega)) rfl (.inl rfl) ?_
 refine zS ?_
 by_cases hq:x.2.2.2.2.2.1=[]
 ·have hpl:plF il x.2.2.2.2.2.1=-1:=by rw [hq];exact qvv hP
  rw [upF,if_pos hq,hpl]
  refine qad (fun n fr L=>n=0∧fr=(.p (.sl 7 (itE il))::.p (int (i:Nat))::oo::oo::oo::oo::.row (.l 6)::.p (int (-1))::oF (oD (oo::[])))∧L=[(.l 6,.row [] 3 1 true)]) 0 _ _ (by (simp only [ZZ,WW,Zd,reduceCtorEq,zd,ze,zb,zf,za];try trivial)) zE_ ⟨rfl,rfl,rfl⟩ ?_
  rintro n fr L ⟨rfl,rfl,rfl⟩
  have n1:decide ((0:Int)≤-1)=false:=rfl
  simp only [qdh,ZZ,WW,Zd,reduceCtorEq,zd,ze,zb,zf,za]
  simp only [ZZ,WW,Zd,reduceCtorEq,zd,ze,zb,zf,za,hg,qai,n1]
  refine ⟨fun h=>h.elim,fun h=>h.elim,?_⟩
  refine qal zE_ ?_
  refine zS ?_
  rfl
 ·obtain ⟨j,y,hj,hy,hy1,hy2,hpj⟩:=hp.b6.resolve_left hq
  have hpl:plF il x.2.2.2.2.2.1=(j:Nat):=by rw [hpj];exact qk9 hP hy
  have hjl:=(zt.1 hy).1
  have hgy:=qbG hy
  simp only [itC] at hgy
  have hq2:decide (x.2.2.2.2.2.1=[])=false:=by simpa using hq
  have hy3:decide (y.2.2.2.2.2.1=[])=true:=by simpa using hy1
  rw [upF,if_neg hq,hpl]
  refine qad (fun n fr L=>n=0∧fr=(.p (.sl 7 (itE il))::.p (int (i:Nat))::oo::oo::oo::oo::.row (.l 6)::.p (int (j:Nat))::oF (oD (oo::[])))∧L=[(.l 6,.row [] 3 1 true)]) 0 _ _ (by (simp only [ZZ,WW,Zd,reduceCtorEq,zd,ze,zb,zf,za];try trivial)) zE_ ⟨rfl,rfl,rfl⟩ ?_
  rintro n fr L ⟨rfl,rfl,rfl⟩
  have p1:decide ((0:Int)≤((j:Nat):Int))=true:=by rw [decide_eq_true_eq];omega
  simp only [qdh,ZZ,WW,Zd,reduceCtorEq,zd,ze,zb,zf,za]
  simp only [ZZ,WW,Zd,reduceCtorEq,zd,ze,zb,zf,za,hg,hgy,qai,hq2,hy3,p1]
  ((with_reducible and_intros)<;>try exact sc_)
  refine br (fun h=>by have:=of_decide_eq_true h;omega) ?_
  intro _
  simp only [ZZ,WW,Zd,reduceCtorEq,zd,ze,zb,zf,za,hg,hgy,qai,hq2,hy3,p1]
  ((with_reducible and_intros)<;>try exact sc_)
  refine qal zE_ ?_
  refine zS ?_
  rfl
theorem quk (il:List Itm) (hP:qaP il) (i:Nat) (x:Itm) (hx:il[i]?=some x):PCall Tryz.prog E 214 [.sl 7 (itE il),int (i:Nat)] (·=.bool false):=by
 have hp:=hP.2 i x hx
 have h20:=hP.1
 refine qae mixed Tryz.func214 qkQ ?_
 simp only [a0,l0,OS.ao,zk,zr,zi,zo,zl,zm,zu,zd,zh,zj,qgJ,qgv,ZZ,WW,Zd,reduceCtorEq,zd,ze,zb,zf,za]
 refine use1 (qkx il hP i x hx) rfl (.inl rfl) ?_
 refine zS ?_
 have hul:(upF il x).length≤1:=by unfold upF;split<;>simp
 refine use1 (qr2 (upF il x) (i:Nat) (by omega)) rfl (.inl rfl) ?_
 refine zS ?_
 have:((i:Nat):Int)∉upF il x:=by
  unfold upF
  split
  ·simp
  ·rename_i hq
   obtain ⟨j,y,hj,hy,hy1,hy2,hpj⟩:=hp.b6.resolve_left hq
   rw [hpj,qk9 hP hy,zF]
   omega
 rw [decide_eq_false this]
theorem qqH (il:List Itm) (hP:qaP il):PCall Tryz.prog E 152 [.sl 7 (itE il)] (·=int 0):=by
 have h20:=hP.1
 refine qae mixed Tryz.func152 qjM ?_
 simp only [a0,l0,OS.ao,zk,zr,zi,zo,zl,zm,zu,zd,zh,zj,qfq,qfb,ZZ,WW,Zd,reduceCtorEq,zd,ze,zb,zf,za]
 simp only [ZZ,WW,Zd,reduceCtorEq,zd,ze,zb,zf,za,qai]
 refine qad (fun n fr L=>∃ (k:Nat),k≤il.length∧n=il.length - k∧fr=(.p (.sl 7 (itE il))::oD (.p (int (il.length:Nat))::.p (int (k:Nat))::oF (oE (oC (oB [])))))∧L=[]) (il.length) _ [] (by simp only [ZZ,WW,Zd,reduceCtorEq,zd,ze,zb,zf,za,qai];try trivial) (by (simp only [ZZ,WW,Zd,reduceCtorEq,zd,ze,zb,zf,za];try trivial)) ⟨0,by omega,by omega,rfl,rfl⟩ ?_
 rintro n fr L ⟨k,hk,rfl,rfl,rfl⟩
 simp only [qd2,ZZ,WW,Zd,reduceCtorEq,zd,ze,zb,zf,za]
 refine br ?_ ?_
 ·intro h
  have hlt:k < il.length:=by have:=of_decide_eq_true h;omega
  obtain ⟨x,hx⟩:∃ x,il[k]?=some x:=⟨_,zg hlt⟩
  refine zS ?_
  refine use1 (quk il hP k x hx) rfl (.inl rfl) ?_
  refine zS ?_
  ((with_reducible and_intros)<;>try exact sc_)
  refine qac (il.length - (k+1)) _ [] (by omega) (by (simp only [ZZ,WW,Zd,reduceCtorEq,zd,ze,zb,zf,za];try trivial)) (by (simp only [ZZ,WW,Zd,reduceCtorEq,zd,ze,zb,zf,za];try trivial)) ⟨k+1,by omega,rfl,rfl,rfl⟩
 intro h
 clear h
 simp only [ZZ,WW,Zd,reduceCtorEq,zd,ze,zb,zf,za,qai]
 refine qad (fun n fr L=>∃ (k:Nat),k≤il.length∧n=il.length - k∧fr=(.p (.sl 7 (itE il))::oE (oo::(.p (int (il.length:Nat))::.p (int (k:Nat))::oF (oD (oC (oo::[]))))))∧L=[]) (il.length) _ [] (by simp only [ZZ,WW,Zd,reduceCtorEq,zd,ze,zb,zf,za,qai];try trivial) (by (simp only [ZZ,WW,Zd,reduceCtorEq,zd,ze,zb,zf,za];try trivial)) ⟨0,by omega,by omega,rfl,rfl⟩ ?_
 rintro n fr L ⟨k,hk,rfl,rfl,rfl⟩
 simp only [qd1,ZZ,WW,Zd,reduceCtorEq,zd,ze,zb,zf,za]
 refine br ?_ ?_
 ·intro h
  have hlt:k < il.length:=by have:=of_decide_eq_true h;omega
  obtain ⟨x,hx⟩:∃ x,il[k]?=some x:=⟨_,zg hlt⟩
  have hp:=hP.2 k x hx
  have hg:=qbG hx
  have hul:(upF il x).length≤1:=by unfold upF;split<;>simp
  have hul4:decide ((4:Int) < ((upF il x).length:Nat))=false:=by rw [decide_eq_false_iff_not];omega
  simp only [itC] at hg
  simp only [ZZ,WW,Zd,reduceCtorEq,zd,ze,zb,zf,za,hg,qai]
  ((with_reducible and_intros)<;>try exact sc_)
  refine use1 (qpI il x.2.2.2.2.2.1 (by omega)) rfl (.inl rfl) ?_
  by_cases hq:x.2.2.2.2.2.1=[]
  ·have hq2:decide (x.2.2.2.2.2.1=[])=true:=by simpa using hq
   have hpl:plF il x.2.2.2.2.2.1=-1:=by rw [hq];exact qvv hP
   have n1:decide ((0:Int)≤-1)=false:=rfl
   rw [hpl]
   have n2:(-1:Int).toNat=0:=rfl
   obtain ⟨x0,hx0⟩:∃ x0,il[0]?=some x0:=⟨_,zg (by omega)⟩
   have hg0:=qbG hx0
   simp only [itC] at hg0
   simp only [ZZ,WW,Zd,reduceCtorEq,zd,ze,zb,zf,za,hg,hg0,qai,hq2,n1,n2]
   ((with_reducible and_intros)<;>try exact sc_)
   refine use1 (qkx il hP k x hx) rfl (.inl rfl) ?_
   simp only [ZZ,WW,Zd,reduceCtorEq,zd,ze,zb,zf,za,qi9,hul4]
   ((with_reducible and_intros)<;>try exact sc_)
   refine qac (il.length - (k+1)) _ [] (by omega) (by (simp only [ZZ,WW,Zd,reduceCtorEq,zd,ze,zb,zf,za];try trivial)) (by (simp only [ZZ,WW,Zd,reduceCtorEq,zd,ze,zb,zf,za];try trivial)) ⟨k+1,by omega,rfl,rfl,rfl⟩
  ·have hq2:decide (x.2.2.2.2.2.1=[])=false:=by simpa using hq
   obtain ⟨j,y,hj,hy,hy1,hy2,hpj⟩:=hp.b6.resolve_left hq
   have hpl:plF il x.2.2.2.2.2.1=(j:Nat):=by rw [hpj];exact qk9 hP hy
   have hgy:=qbG hy
   simp only [itC] at hgy
   have p1:decide ((0:Int)≤((j:Nat):Int))=true:=by rw [decide_eq_true_eq];omega
   rw [hpl]
   rcases hy2 with h1|h1
   ·have h2:decide (y.2.2.1=1)=true:=by simpa using h1
    simp only [ZZ,WW,Zd,reduceCtorEq,zd,ze,zb,zf,za,hg,hgy,qai,hq2,p1,h2]
    ((with_reducible and_intros)<;>try exact sc_)
    refine use1 (qkx il hP k x hx) rfl (.inl rfl) ?_
    simp only [ZZ,WW,Zd,reduceCtorEq,zd,ze,zb,zf,za,qi9,hul4]
    ((with_reducible and_intros)<;>try exact sc_)
    refine qac (il.length - (k+1)) _ [] (by omega) (by (simp only [ZZ,WW,Zd,reduceCtorEq,zd,ze,zb,zf,za];try trivial)) (by (simp only [ZZ,WW,Zd,reduceCtorEq,zd,ze,zb,zf,za];try trivial)) ⟨k+1,by omega,rfl,rfl,rfl⟩
   ·have h2:decide (y.2.2.1=1)=false:=by rw [h1];rfl
    have h3:decide (y.2.2.1=3)=true:=by simpa using h1
    simp only [ZZ,WW,Zd,reduceCtorEq,zd,ze,zb,zf,za,hg,hgy,qai,hq2,p1,h2,h3]
    ((with_reducible and_intros)<;>try exact sc_)
    refine use1 (qkx il hP k x hx) rfl (.inl rfl) ?_
    simp only [ZZ,WW,Zd,reduceCtorEq,zd,ze,zb,zf,za,qi9,hul4]
    ((with_reducible and_intros)<;>try exact sc_)
    refine qac (il.length - (k+1)) _ [] (by omega) (by (simp only [ZZ,WW,Zd,reduceCtorEq,zd,ze,zb,zf,za];try trivial)) (by (simp only [ZZ,WW,Zd,reduceCtorEq,zd,ze,zb,zf,za];try trivial)) ⟨k+1,by omega,rfl,rfl,rfl⟩
 intro h
 simp only [ZZ,WW,Zd,reduceCtorEq,zd,ze,zb,zf,za]
end
theorem qAd:∀ i j:Fin 26,i < j→(bytesLess (pid j.val) (pid i.val) || decide (pid j.val=pid i.val))=false:=by decide +kernel
theorem qAe:∀ j:Fin 26,(bytesLess (pid j.val) [] || decide (pid j.val=[]))=false:=by decide +kernel
set_option maxRecDepth 100000 in
theorem qqy (il:List Itm) (hP:qaP il):PCall Tryz.prog E0 71 [.sl 7 (itE il)] (·=int 0):=by
 have h20:=hP.1
 refine qae mixed Tryz.func71 qjh ?_
 simp only [a0,l0,OS.ao,zk,zr,zi,zo,zl,zm,zu,zd,zh,zj,qeS,qeH,ZZ,WW,Zd,reduceCtorEq,zd,ze,zb,zf,za]
 have h2000:decide (2000 < (il.length:Int))=false:=by rw [decide_eq_false_iff_not];omega
 simp only [ZZ,WW,Zd,reduceCtorEq,zd,ze,zb,zf,za,qai,h2000]
 refine qad (fun n fr L=>∃ (k:Nat) (s:List UInt8),k≤il.length∧n=il.length - k∧((k=0∧s=[])∨∃ q,k=q+1∧s=pid q)∧fr=(.p (.sl 7 (itE il))::oo::oo::.p (.str s)::oD (.p (.sl 7 (itE il))::.p (int (il.length:Nat))::.p (int (k:Nat))::oF (oB [])))∧L=[]) (il.length) _ [] (by simp only [ZZ,WW,Zd,reduceCtorEq,zd,ze,zb,zf,za,qai];try trivial) (by (simp only [ZZ,WW,Zd,reduceCtorEq,zd,ze,zb,zf,za];try trivial)) ⟨0,[],by omega,by omega,.inl ⟨rfl,rfl⟩,rfl,rfl⟩ ?_
 rintro n fr L ⟨k,s,hk,rfl,hs,rfl,rfl⟩
 simp only [qdC,ZZ,WW,Zd,reduceCtorEq,zd,ze,zb,zf,za]
 refine br ?_ ?_
 ·intro h
  have hlt:k < il.length:=by have:=of_decide_eq_true h;omega
  obtain ⟨x,hx⟩:∃ x,il[k]?=some x:=⟨_,zg hlt⟩
  have hg:=qbG hx
  obtain ⟨hz,hS⟩:=(hP.2 k x hx).right (by omega)
  have hci:=qrY x hS
  rw [hz] at hci
  have hb1:=(hP.2 k x hx).b1
  have hle:(bytesLess x.1 s || decide (x.1=s))=false:=by
   rw [hb1]
   rcases hs with ⟨_,rfl⟩|⟨q,hq,rfl⟩
   ·exact qAe ⟨k,by omega⟩
   ·exact qAd ⟨q,by omega⟩ ⟨k,by omega⟩ (by simp [Fin.lt_def];omega)
  simp only [itC] at hg hci
  simp only [ZZ,WW,Zd,reduceCtorEq,zd,ze,zb,zf,za,hg,qai]
  ((with_reducible and_intros)<;>try exact sc_)
  refine use1 hci rfl (.inl rfl) ?_
  simp only [ZZ,WW,Zd,reduceCtorEq,zd,ze,zb,zf,za,hle]
  refine br (fun h=>by simp at h) ?_
  intro _
  simp only [ZZ,WW,Zd,reduceCtorEq,zd,ze,zb,zf,za,hle]
  ((with_reducible and_intros)<;>try exact sc_)
  refine qac (il.length - (k+1)) _ [] (by omega) (by (simp only [ZZ,WW,Zd,reduceCtorEq,zd,ze,zb,zf,za];try trivial)) (by (simp only [ZZ,WW,Zd,reduceCtorEq,zd,ze,zb,zf,za];try trivial)) ⟨k+1,x.1,by omega,rfl,.inr ⟨k,rfl,hb1⟩,rfl,rfl⟩
 intro h
 clear h
 simp only [ZZ,WW,Zd,reduceCtorEq,zd,ze,zb,zf,za,qai]
 refine qad (fun n fr L=>∃ (k:Nat),k≤il.length∧n=il.length - k∧fr=(.p (.sl 7 (itE il))::oE (oD (oC (oo::(.p (.sl 7 (itE il))::.p (int (il.length:Nat))::.p (int (k:Nat))::oE [])))))∧L=[]) (il.length) _ [] (by simp only [ZZ,WW,Zd,reduceCtorEq,zd,ze,zb,zf,za,qai];try trivial) (by (simp only [ZZ,WW,Zd,reduceCtorEq,zd,ze,zb,zf,za];try trivial)) ⟨0,by omega,by omega,rfl,rfl⟩ ?_
 rintro n fr L ⟨k,hk,rfl,rfl,rfl⟩
 simp only [qdB,ZZ,WW,Zd,reduceCtorEq,zd,ze,zb,zf,za]
 refine br ?_ ?_
 ·intro h
  have hlt:k < il.length:=by have:=of_decide_eq_true h;omega
  obtain ⟨x,hx⟩:∃ x,il[k]?=some x:=⟨_,zg hlt⟩
  have hp:=hP.2 k x hx
  have hg:=qbG hx
  simp only [itC] at hg
  by_cases hq:x.2.2.2.2.2.1=[]
  ·have hq2:decide (x.2.2.2.2.2.1=[])=true:=by simpa using hq
   simp only [ZZ,WW,Zd,reduceCtorEq,zd,ze,zb,zf,za,hg,qai,hq2]
   ((with_reducible and_intros)<;>try exact sc_)
   refine useG (r:=int 0) (fun h=>by cases h) rfl (.inl rfl) ?_
   refine zS ?_
   ((with_reducible and_intros)<;>try exact sc_)
   refine qac (il.length - (k+1)) _ [] (by omega) (by (simp only [ZZ,WW,Zd,reduceCtorEq,zd,ze,zb,zf,za];try trivial)) (by (simp only [ZZ,WW,Zd,reduceCtorEq,zd,ze,zb,zf,za];try trivial)) ⟨k+1,by omega,rfl,rfl,rfl⟩
  ·have hq2:decide (x.2.2.2.2.2.1=[])=false:=by simpa using hq
   obtain ⟨j,y,hj,hy,hy1,hy2,hpj⟩:=hp.b6.resolve_left hq
   have hpl:plF il x.2.2.2.2.2.1=(j:Nat):=by rw [hpj];exact qk9 hP hy
   have n1:decide (((j:Nat):Int) < 0)=false:=by rw [decide_eq_false_iff_not];omega
   simp only [ZZ,WW,Zd,reduceCtorEq,zd,ze,zb,zf,za,hg,qai,hq2]
   ((with_reducible and_intros)<;>try exact sc_)
   refine useG (fun _=>qpI il x.2.2.2.2.2.1 (by omega)) rfl (.inl rfl) ?_
   rw [hpl]
   simp only [ZZ,WW,Zd,reduceCtorEq,zd,ze,zb,zf,za,n1]
   ((with_reducible and_intros)<;>try exact sc_)
   refine qac (il.length - (k+1)) _ [] (by omega) (by (simp only [ZZ,WW,Zd,reduceCtorEq,zd,ze,zb,zf,za];try trivial)) (by (simp only [ZZ,WW,Zd,reduceCtorEq,zd,ze,zb,zf,za];try trivial)) ⟨k+1,by omega,rfl,rfl,rfl⟩
 intro h
 clear h
 refine zS ?_
 refine use1 (qqH il hP) rfl (.inl rfl) ?_
 simp only [ZZ,WW,Zd,reduceCtorEq,zd,ze,zb,zf,za]
def qh3:IC:=(sR [qT 10 .lss 9 8] (.seq (.cond (.t 10) .skip (.exit 0)) (.seq (.block 1 (sR [qX 11 7 7 9,qO 12 (.ld 7 true (.t 11)),qO 5 (.alc 80 [.str [],.str [],.int .i64 0,.str [],.int .i64 0,.str [],.str []]),qS 7 5 12] (.reg [qM 13 3,qF 14 0 5,qL 15 14,qO 16 (.ld 7 true (.t 5)),⟨none,.mpu (.t 13) (.t 15) (.t 16),none⟩]))) (.reg [qB 17 .add 9 (cI 1),qM 9 17]))))
def qka:IC:=(sR [qO 2 (.mov (.c (.raw (.map none))))] (sR [qO 6 (.mkm 9 80),qM 3 6] (.seq (sR [qM 7 0,qN 8 7,qO 9 (.mov (cI 0))] (.block 0 (.loop qh3))) (sR [qM 18 3,qM 2 18] .ret))))
def qjU:List IRes:=[.t 2]
theorem qog:chkF Tryz.prog Tryz.f78 qka qjU 19=true:=by kernel_rfl
def qdz:IC:=(sR [qT 28 .lss 27 26] (.seq (.cond (.t 28) .skip (.exit 0)) (.seq (.block 1 (sR [qM 29 27,qX 30 3 25 27,qO 31 (.ld 3 true (.t 30)),qO 8 (.alc 76 [.str [],.int .i64 0,.nl 2]),qM 7 29,qS 3 8 31] (sR [qM 33 6,qF 34 0 8,qL 35 34,qO 36 (.mpl true (.agg [.str [],.str [],.int .i64 0,.str [],.int .i64 0,.str [],.str []]) (.t 33) (.t 35)),qM 32 36,qO 37 (.ext 0 (.t 32)),qO 38 (.ext 1 (.t 32)),qO 9 (.alc 80 [.str [],.str [],.int .i64 0,.str [],.int .i64 0,.str [],.str []]),qS 7 9 37,qM 10 38] (.seq (.drg [qM 39 10,qO 40 (.not (.t 39)),qO 41 (.pcall 0 50 [.t 40,.c (.int .i64 8)]),qM 42 7,qB 43 .gtr 42 (cI 0),qM 44 43,⟨some 45,.fla 0 (.t 8),(some (44,true))⟩,⟨some 46,.ld 1 false (.t 45),(some (44,true))⟩,⟨some 47,.mov (.t 1),(some (44,true))⟩,⟨some 48,.mov (.t 7),(some (44,true))⟩,⟨some 49,.mx (.t 48) (cI 1),(some (44,true))⟩,⟨some 50,.bin .sub (.t 49) (cI 1),(some (44,true))⟩,⟨some 51,.ixa 3 (.t 47) (.t 50),(some (44,true))⟩,⟨some 52,.fla 0 (.t 51),(some (44,true))⟩,⟨some 53,.ld 1 false (.t 52),(some (44,true))⟩,⟨some 54,.bin .leq (.t 46) (.t 53),(some (44,true))⟩,qO 55 (.pick (.t 44) (.t 54) (.c (.bool false))),qO 56 (.pcall 1 50 [.t 55,.c (.int .i64 7)]),qF 57 1 8,qL 58 57,qO 59 (.pcall 2 51 [.t 58,.c (.int .i64 1),.c (.int .i64 3)]),qO 60 (.not (.t 59)),qO 61 (.pcall 3 50 [.t 60,.c (.int .i64 4)]),qF 62 2 8,qL 63 62,qN 64 63,qB 65 .gtr 64 (cI 0),qM 66 65,⟨some 67,.fla 1 (.t 8),(some (66,true))⟩,⟨some 68,.ld 1 false (.t 67),(some (66,true))⟩,⟨some 69,.bin .neq (.t 68) (cI 1),(some (66,true))⟩,qO 70 (.pick (.t 66) (.t 69) (.c (.bool false))),qO 71 (.pcall 4 50 [.t 70,.c (.int .i64 3)]),qF 72 2 8,qL 73 72,qF 74 6 9,qL 75 74,qO 76 (.sln (.t 75)),qO 77 (.pcall 5 79 [.t 73,.t 76]),qO 78 (.bsl 1 [.t 41,.t 56,.t 61,.t 71,.t 77]),qO 79 (.pcall 6 49 [.t 78]),qM 11 79]) (sR [qM 80 11,qB 81 .neq 80 (cI 0)] (.cond (.t 81) (sR [qM 82 11,qM 4 82] .ret) .skip)))))) (.reg [qB 83 .add 27 (cI 1),qM 27 83]))))
def qeQ:IC:=(sR [qO 4 (.mov (cI 0))] (.seq (sR [qM 12 0,qO 13 (.call 77 [.t 12]),qM 14 1,qN 15 14,qB 16 .gtr 15 (cI 2000),qO 17 (.call 50 [.t 16,.c (.int .i64 2)]),qO 18 (.bsl 1 [.t 13,.t 17]),qO 19 (.call 49 [.t 18]),qM 5 19] (sR [qM 20 5,qB 21 .neq 20 (cI 0)] (.cond (.t 21) (sR [qM 22 5,qM 4 22] .ret) .skip))) (sR [qM 23 0,qO 24 (.call 78 [.t 23]),qM 6 24] (.seq (sR [qM 25 1,qN 26 25,qO 27 (.mov (cI 0))] (.block 0 (.loop qdz))) (sR [qO 4 (.mov (cI 0))] .ret)))))
def qeF:List IRes:=[.t 4]
theorem qjf:chkF Tryz.prog Tryz.f23 qeQ qeF 84=true:=by kernel_rfl
def qhw:IC:=(sR [qO 3 (.box 9 (.t 1)),qO 4 (.alc 80 [.str [],.str [],.int .i64 0,.str [],.int .i64 0,.str [],.str []]),qO 5 (.mov (.c (.bool false)))] (sR [qM 7 0,qO 8 (.mkf 154 [.t 3]),qO 9 (.call 153 [.t 7,.t 8]),qM 6 9] (.seq (sR [qM 10 6,qB 11 .lss 10 (cI 0)] (.cond (.t 11) (sR [qO 12 (.bld [.str [],.str [],.int .i64 0,.str [],.int .i64 0,.str [],.str []] []),qS 7 4 12,qO 5 (.mov (.c (.bool false)))] .ret) .skip)) (sR [qM 13 0,qM 14 6,qX 15 7 13 14,qO 16 (.ld 7 true (.t 15)),qS 7 4 16,qO 5 (.mov (.c (.bool true)))] .ret))))
def qhd:List IRes:=[.c 4 7 true,.t 5]
theorem qlq:chkF Tryz.prog Tryz.f72 qhw qhd 17=true:=by kernel_rfl
def qf9:IC:=(sR [qO 2 (.box 80 (.t 0)),qO 3 (.mov (.c (.bool false)))] (sR [qF 4 0 2,qL 5 4,qL 6 1,qT 7 .eql 5 6,qM 3 7] .ret))
def qfR:List IRes:=[.t 3]
theorem qko:chkF Tryz.prog Tryz.f154 qf9 qfR 8=true:=by kernel_rfl
def qc7:IC:=(sR [qT 22 .lss 21 20] (.seq (.cond (.t 22) .skip (.exit 0)) (.seq (.block 1 (sR [qM 23 21,qX 24 3 19 21,qO 25 (.ld 3 true (.t 24)),qO 7 (.alc 76 [.str [],.int .i64 0,.nl 2]),qM 6 23,qS 3 7 25] (sR [qM 27 0,qF 28 0 7,qL 29 28,qO 30 (.call 72 [.t 27,.t 29]),qM 26 30,qO 31 (.ext 0 (.t 26)),qO 32 (.ext 1 (.t 26)),qO 8 (.alc 80 [.str [],.str [],.int .i64 0,.str [],.int .i64 0,.str [],.str []]),qS 7 8 31,qM 9 32] (.seq (.block 2 (sR [qM 34 9,qO 35 (.not (.t 34)),qM 33 35] (.cond (.t 33) (sR [qO 4 (.mov (cI 8))] .ret) (.seq (.drg [qM 37 6,qB 38 .gtr 37 (cI 0),qM 39 38,⟨some 40,.fla 0 (.t 7),(some (39,true))⟩,⟨some 41,.ld 1 false (.t 40),(some (39,true))⟩,⟨some 42,.mov (.t 1),(some (39,true))⟩,⟨some 43,.mov (.t 6),(some (39,true))⟩,⟨some 44,.bin .sub (.t 43) (cI 1),(some (39,true))⟩,⟨some 45,.ixa 3 (.t 42) (.t 44),(some (39,true))⟩,⟨some 46,.fla 0 (.t 45),(some (39,true))⟩,⟨some 47,.ld 1 false (.t 46),(some (39,true))⟩,⟨some 48,.bin .leq (.t 41) (.t 47),(some (39,true))⟩,qO 49 (.pick (.t 39) (.t 48) (.c (.bool false))),qM 36 49]) (.cond (.t 36) (sR [qO 4 (.mov (cI 7))] .ret) (sR [qF 51 1 7,qL 52 51,qB 53 .lss 52 (cI 1),qM 54 53,⟨some 55,.fla 1 (.t 7),(some (54,false))⟩,⟨some 56,.ld 1 false (.t 55),(some (54,false))⟩,⟨some 57,.bin .gtr (.t 56) (cI 3),(some (54,false))⟩,qO 58 (.pick (.t 54) (.c (.bool true)) (.t 57)),qM 50 58] (.cond (.t 50) (sR [qO 4 (.mov (cI 4))] .ret) (sR [qF 60 2 7,qL 61 60,qN 62 61,qB 63 .gtr 62 (cI 0),qM 64 63,⟨some 65,.fla 1 (.t 7),(some (64,true))⟩,⟨some 66,.ld 1 false (.t 65),(some (64,true))⟩,⟨some 67,.bin .neq (.t 66) (cI 1),(some (64,true))⟩,qO 68 (.pick (.t 64) (.t 67) (.c (.bool false))),qM 59 68] (.cond (.t 59) (sR [qO 4 (.mov (cI 3))] .ret) .skip))))))))) (sR [qF 69 2 7,qL 70 69,qF 71 6 8,qL 72 71,qO 73 (.sln (.t 72)),qO 74 (.call 73 [.t 70,.t 73]),qM 10 74] (sR [qM 75 10,qB 76 .neq 75 (cI 0)] (.cond (.t 76) (sR [qM 77 10,qM 4 77] .ret) .skip))))))) (.reg [qB 78 .add 21 (cI 1),qM 21 78]))))
def qd8:IC:=(sR [qO 4 (.mov (cI 0))] (.seq (sR [qM 11 0,qO 12 (.call 71 [.t 11]),qM 5 12] (sR [qM 13 5,qB 14 .neq 13 (cI 0)] (.cond (.t 14) (sR [qM 15 5,qM 4 15] .ret) .skip))) (.seq (sR [qM 16 1,qN 17 16,qB 18 .gtr 17 (cI 2000)] (.cond (.t 18) (sR [qO 4 (.mov (cI 2))] .ret) .skip)) (.seq (sR [qM 19 1,qN 20 19,qO 21 (.mov (cI 0))] (.block 0 (.loop qc7))) (sR [qO 4 (.mov (cI 0))] .ret)))))
def qdU:List IRes:=[.t 4]
theorem qiy:chkF Tryz.prog Tryz.f20 qd8 qdU 79=true:=by kernel_rfl
def qct:IC:=(sR [qT 10 .lss 9 8] (.seq (.cond (.t 10) .skip (.exit 0)) (.seq (.block 1 (sR [qX 11 3 7 9,qO 12 (.ld 3 true (.t 11)),qO 6 (.alc 76 [.str [],.int .i64 0,.nl 2]),qS 3 6 12] (sR [qF 13 0 6,qL 14 13,qM 15 1,qT 16 .eql 14 15] (.cond (.t 16) (sR [qO 17 (.ld 3 true (.t 6)),qS 3 4 17] .ret) .skip)))) (.reg [qB 18 .add 9 (cI 1),qM 9 18]))))
def qdi:IC:=(sR [qO 4 (.alc 76 [.str [],.int .i64 0,.nl 2])] (.seq (sR [qM 7 0,qN 8 7,qO 9 (.mov (cI 0))] (.block 0 (.loop qct))) (sR [qM 19 1,qO 20 (.bld [.str [],.int .i64 0,.nl 2] [(0,1,.t 19),(1,1,.c (.int .i64 3))]),qS 3 4 20] .ret)))
def qde:List IRes:=[.c 4 3 true]
theorem qgf:chkF Tryz.prog Tryz.f86 qdi qde 21=true:=by kernel_rfl
section
variable {E:Envt}
theorem qpL (il:List Itm) (hl:il.length≤2000):PCall Tryz.prog E 78 [.sl 7 (itE il)] (fun x=>∃ kv:List (List UInt8×PV),x=.mpv (kv.map (·.1)) (kv.map (·.2))∧MapIs kv il∧kv.length≤il.length):=by
 refine qae mixed Tryz.func78 qog ?_
 simp only [a0,l0,OS.ao,zk,zr,zi,zo,zl,zm,zu,zd,zh,zj,qka,qjU,ZZ,WW,Zd,reduceCtorEq,zd,ze,zb,zf,za]
 simp only [ZZ,WW,Zd,reduceCtorEq,zd,ze,zb,zf,za,qai]
 refine qad (fun n fr L=>∃ (k:Nat) (kv:List (List UInt8×PV)),k≤il.length∧n=il.length - k∧(MapIs kv (il.take k))∧(kv.length≤k)∧fr=(oo::oo::oo::.mp (.l 6)::oo::oo::oo::.p (.sl 7 (itE il))::.p (int (il.length:Nat))::.p (int (k:Nat))::oD (oo::[]))∧L=[(.l 6,.map kv 9 80)]) (il.length) _ _ (by simp only [ZZ,WW,Zd,reduceCtorEq,zd,ze,zb,zf,za,qai];try trivial) (by (simp only [ZZ,WW,Zd,reduceCtorEq,zd,ze,zb,zf,za];try trivial)) ⟨0,[],by omega,by omega,MapIs.nil,by simp,rfl,rfl⟩ ?_
 rintro n fr L ⟨k,kv,hk,rfl,hkv,hkn,rfl,rfl⟩
 simp only [qh3,ZZ,WW,Zd,reduceCtorEq,zd,ze,zb,zf,za]
 refine br ?_ ?_
 ·intro h
  have hlt:k < il.length:=by have:=of_decide_eq_true h;omega
  obtain ⟨x,hx⟩:∃ x,il[k]?=some x:=⟨_,zg hlt⟩
  have hg:=qbG hx
  have hnx:il.take (k+1)=il.take k++[x]:=by rw [zy hlt,(zt.1 hx).2]
  have hpt:=hkv.put x
  rw [← hnx] at hpt
  simp only [itC] at hg hpt
  simp only [ZZ,WW,Zd,reduceCtorEq,zd,ze,zb,zf,za,hg,qai]
  ((with_reducible and_intros)<;>try exact sc_)
  refine qac (il.length - (k+1)) (oo::oo::oo::.mp (.l 6)::oo::oo::oo::.p (.sl 7 (itE il))::.p (int (il.length:Nat))::.p (int ((k+1):Nat))::oD (oo::[])) [(.l 6,.map (mpS kv x.1 (.agg [.str x.1,.str x.2.1,int x.2.2.1,.str x.2.2.2.1,int x.2.2.2.2.1,.str x.2.2.2.2.2.1,.str x.2.2.2.2.2.2])) 9 80)] (by omega) (by (simp only [ZZ,WW,Zd,reduceCtorEq,zd,ze,zb,zf,za];try trivial)) (by (simp only [ZZ,WW,Zd,reduceCtorEq,zd,ze,zb,zf,za];try trivial)) ⟨k+1,mpS kv x.1 (.agg [.str x.1,.str x.2.1,int x.2.2.1,.str x.2.2.2.1,int x.2.2.2.2.1,.str x.2.2.2.2.2.1,.str x.2.2.2.2.2.2]),by omega,rfl,hpt,zT (qtI _ _ _) (by omega),rfl,rfl⟩
 intro h
 have hge:il.length≤k:=by have:=of_decide_eq_false h;omega
 rw [zC hge] at hkv
 refine zS ?_
 exact ⟨kv,rfl,hkv,by omega⟩
theorem qpV {il:List Itm} (hP:qaP il) {kv:List (List UInt8×PV)} (hkv:MapIs kv il) (s:List UInt8):(mpF kv s).getD (.agg [.str [],.str [],int 0,.str [],int 0,.str [],.str []])=.agg (itC (itOf il s))∧(mpF kv s).isSome=(getI il s).isSome:=by
 rw [hkv s,qx3 hP,itOf]
 cases getI il s<;>exact ⟨rfl,rfl⟩
theorem qtN {il:List Itm} (hP:qaP il) (s:List UInt8):(itOf il s).2.2.2.2.2.2.length≤600:=by
 unfold itOf
 cases hg:getI il s with
 |none=>simp [it0]
 |some y=>
  obtain ⟨j,hj,_⟩:=qob hP hg
  exact (hP.2 j y hj).b7.1
set_option maxRecDepth 100000 in
theorem qoA (il:List Itm) (hP:qaP il) (l:List Rul) (hl:l.length≤1000000) (hb:∀ r∈l,r.spans.length≤1000000):PCall Tryz.prog E0 23 [.sl 7 (itE il),.sl 3 (rlE l)] (·=int (rulF il l)):=by
 have h20:=hP.1
 refine qae mixed Tryz.func23 qjf ?_
 simp only [a0,l0,OS.ao,zk,zr,zi,zo,zl,zm,zu,zd,zh,zj,qeQ,qeF,ZZ,WW,Zd,reduceCtorEq,zd,ze,zb,zf,za]
 refine use1 (qrZ il hP) rfl (.inl rfl) ?_
 simp only [ZZ,WW,Zd,reduceCtorEq,zd,ze,zb,zf,za,qay]
 refine use1 (qav _ 2) rfl (.inl rfl) ?_
 refine zS ?_
 refine use1 (qbK [0,qah (decide (2000 < (l.length:Int))) 2] (by simp)) rfl (.inl rfl) ?_
 refine zS ?_
 by_cases hL:2000 < l.length
 ·have h1:decide (2000 < (l.length:Int))=true:=by rw [decide_eq_true_eq];omega
  rw [rulF,if_pos hL,h1]
  refine br ?_ (fun h=>by cases h)
  intro _
  refine zS ?_
  rfl
 have h1:decide (2000 < (l.length:Int))=false:=by rw [decide_eq_false_iff_not];omega
 rw [rulF,if_neg hL,h1]
 refine br (fun h=>by cases h) ?_
 intro _
 have hget:=fun {k:Nat} (h:k < l.length)=>qa3 _ k _ (qvj il l h)
 obtain ⟨G,hG⟩:∃ G,(List.range l.length).map (ruE il l)=G:=⟨_,rfl⟩
 have hGl:G.length=l.length:=by rw [← hG];simp
 rw [hG] at hget ⊢
 refine zS ?_
 refine use (qpL il (by omega)) rfl (.inl rfl) ?_
 rintro _ ⟨kv,rfl,hkv,hkn⟩
 simp only [ZZ,WW,Zd,reduceCtorEq,zd,ze,zb,zf,za,qay]
 refine qad (fun n fr L=>∃ (k:Nat),k≤l.length∧n=l.length - k∧(qaf G=qaf (G.drop k))∧fr=(.p (.sl 7 (itE il))::.p (.sl 3 (rlE l))::oo::oo::oo::oo::.p (.mpv (kv.map (·.1)) (kv.map (·.2)))::oE (oB (.p (.sl 3 (rlE l))::.p (int (l.length:Nat))::.p (int (k:Nat))::oF (oE (oD [])))))∧L=[]) (l.length) _ [] (by simp only [ZZ,WW,Zd,reduceCtorEq,zd,ze,zb,zf,za,qay];try trivial) (by (simp only [ZZ,WW,Zd,reduceCtorEq,zd,ze,zb,zf,za];try trivial)) ⟨0,by omega,by omega,rfl,rfl,rfl⟩ ?_
 rintro n fr L ⟨k,hk,rfl,hF,rfl,rfl⟩
 simp only [qdz,ZZ,WW,Zd,reduceCtorEq,zd,ze,zb,zf,za]
 refine br ?_ ?_
 ·intro h
  have hlt:k < l.length:=by have:=of_decide_eq_true h;omega
  obtain ⟨r,hr⟩:∃ r,l[k]?=some r:=⟨_,zg hlt⟩
  have hg:=qgj hr
  have hrb:=hb r (zx hr)
  have hd:=hget hlt
  have hrd:l.getD k rl0=r:=by simp [zD,hr]
  obtain ⟨m1,m2⟩:=qpV hP hkv r.id
  have hy:=qtN hP r.id
  have hnn:(getI il r.id).isNone=!(getI il r.id).isSome:=by cases getI il r.id<;>rfl
  have hru:ruE il l k=qaf [qah (!(getI il r.id).isSome) 8,qah (decide (0 < k) && (bytesLess r.id (l.getD (k - 1) rl0).id || decide (r.id=(l.getD (k - 1) rl0).id))) 7,qah (!inE r.what 1 3) 4,qah (decide (0 < r.spans.length) && !decide (r.what=1)) 3,qb9 r.spans ((itOf il r.id).2.2.2.2.2.2.length:Nat)]:=by
   rw [ruE,hrd,hnn]
   rfl
  have hls:decide ((0:Int) < (r.spans.length:Int))=decide (0 < r.spans.length):=decide_eq_decide.2 (by omega)
  simp only [itC] at m1
  generalize itOf il r.id=y at *
  generalize (getI il r.id).isSome=b at *
  rcases Nat.eq_zero_or_pos k with hk0|hk0
  ·have z0:decide ((0:Int) < (k:Int))=false:=by rw [decide_eq_false_iff_not];omega
   have z1:decide (0 < k)=false:=by rw [decide_eq_false_iff_not];omega
   rw [z1,Bool.false_and] at hru
   have e0:(max (k:Int) 1 - 1)=((0:Nat):Int):=by omega
   have hg0:=hg
   rw [hk0] at hg0
   simp only [ZZ,WW,Zd,reduceCtorEq,zd,ze,zb,zf,za,hg,qay,qdc,mpD,m1,m2]
   ((with_reducible and_intros)<;>try exact sc_)
   refine ⟨[int (qah (!b) 8),int (qah false 7),.bool (inE r.what 1 3),int (qah (!inE r.what 1 3) 4),int (qah (decide (0 < r.spans.length) && !decide (r.what=1)) 3),int (qb9 r.spans (y.2.2.2.2.2.2.length:Nat)),int (ruE il l k)],?_⟩
   simp only [ZZ,WW,Zd,reduceCtorEq,zd,ze,zb,zf,za,hg,hg0,qay,e0,z0,zB,hls]
   rw [hru]
   refine ⟨usep (qav _ 8) rfl (.inl rfl),fun h=>h.elim,fun h=>h.elim,fun h=>h.elim,usep (qav false 7) rfl (.inl rfl),usep (qmS _ _ _) rfl (.inl rfl),usep (qav _ 4) rfl (.inl rfl),usep (qav _ 3) rfl (.inl rfl),usep (qjs r.spans _ (by omega)) rfl (.inl rfl),usep (qbK [qah (!b) 8,qah false 7,qah (!inE r.what 1 3) 4,qah (decide (0 < r.spans.length) && !decide (r.what=1)) 3,qb9 r.spans (y.2.2.2.2.2.2.length:Nat)] (by simp)) rfl (.inl rfl),?_⟩
   rw [← hru]
   refine br ?_ ?_
   ·intro h2
    have h3:¬ ruE il l k=0:=by simpa using h2
    refine zS ?_
    rw [hF,hd,if_neg h3]
   ·intro h2
    have h3:ruE il l k=0:=by simpa using h2
    rw [if_pos h3] at hd
    refine zS ?_
    ((with_reducible and_intros)<;>try exact sc_)
    refine qac (l.length - (k+1)) _ [] (by omega) (by (simp only [ZZ,WW,Zd,reduceCtorEq,zd,ze,zb,zf,za];try trivial)) (by (simp only [ZZ,WW,Zd,reduceCtorEq,zd,ze,zb,zf,za];try trivial)) ⟨k+1,by omega,rfl,by rw [hF,hd],rfl,rfl⟩
  ·obtain ⟨q,hkq⟩:∃ q,k=q+1:=⟨k - 1,by omega⟩
   obtain ⟨u,hu⟩:∃ u,l[q]?=some u:=⟨_,zg (by omega)⟩
   have hgu:=qgj hu
   have hud:l.getD (k - 1) rl0=u:=by rw [show k - 1=q by omega];simp [zD,hu]
   have e1:(max (k:Int) 1 - 1)=((q:Nat):Int):=by omega
   have z0:decide ((0:Int) < (k:Int))=true:=by rw [decide_eq_true_eq];omega
   have z1:decide (0 < k)=true:=by rw [decide_eq_true_eq];omega
   rw [z1,Bool.true_and,hud] at hru
   simp only [ZZ,WW,Zd,reduceCtorEq,zd,ze,zb,zf,za,hg,qay,qdc,mpD,m1,m2]
   ((with_reducible and_intros)<;>try exact sc_)
   refine ⟨[int (qah (!b) 8),int (qah (bytesLess r.id u.id || decide (r.id=u.id)) 7),.bool (inE r.what 1 3),int (qah (!inE r.what 1 3) 4),int (qah (decide (0 < r.spans.length) && !decide (r.what=1)) 3),int (qb9 r.spans (y.2.2.2.2.2.2.length:Nat)),int (ruE il l k)],?_⟩
   simp only [ZZ,WW,Zd,reduceCtorEq,zd,ze,zb,zf,za,hg,hgu,qay,e1,z0,zB,hls]
   rw [hru]
   refine ⟨usep (qav _ 8) rfl (.inl rfl),qan (by omega) (by omega),⟨by omega,by omega⟩,by omega,usep (qav _ 7) rfl (.inl rfl),usep (qmS _ _ _) rfl (.inl rfl),usep (qav _ 4) rfl (.inl rfl),usep (qav _ 3) rfl (.inl rfl),usep (qjs r.spans _ (by omega)) rfl (.inl rfl),usep (qbK [qah (!b) 8,qah (bytesLess r.id u.id || decide (r.id=u.id)) 7,qah (!inE r.what 1 3) 4,qah (decide (0 < r.spans.length) && !decide (r.what=1)) 3,qb9 r.spans (y.2.2.2.2.2.2.length:Nat)] (by simp)) rfl (.inl rfl),?_⟩
   rw [← hru]
   refine br ?_ ?_
   ·intro h2
    have h3:¬ ruE il l k=0:=by simpa using h2
    refine zS ?_
    rw [hF,hd,if_neg h3]
   ·intro h2
    have h3:ruE il l k=0:=by simpa using h2
    rw [if_pos h3] at hd
    refine zS ?_
    ((with_reducible and_intros)<;>try exact sc_)
    refine qac (l.length - (k+1)) _ [] (by omega) (by (simp only [ZZ,WW,Zd,reduceCtorEq,zd,ze,zb,zf,za];try trivial)) (by (simp only [ZZ,WW,Zd,reduceCtorEq,zd,ze,zb,zf,za];try trivial)) ⟨k+1,by omega,rfl,by rw [hF,hd],rfl,rfl⟩
 ·intro h
  have hge:l.length≤k:=by have:=of_decide_eq_false h;omega
  refine zS ?_
  rw [hF,zU (by omega)]
  rfl
theorem quz (x:Itm) (s:List UInt8):PCall Tryz.prog E 154 [.agg (itC x),.ptr [.str s]] (·=.bool (decide (x.1=s))):=by
 simp only [itC]
 refine qae mixed Tryz.func154 qko ?_
 simp only [a0,l0,OS.ao,zk,zr,zi,zo,zl,zm,zu,zd,zh,zj,qf9,qfR,ZZ,WW,Zd,reduceCtorEq,zd,ze,zb,zf,za]
theorem qlV (il:List Itm) (hP:qaP il) (s:List UInt8):PCall Tryz.prog E 72 [.sl 7 (itE il),.str s] (·=.tup [.agg (itC (itOf il s)),.bool (getI il s).isSome]):=by
 have h20:=hP.1
 refine qae mixed Tryz.func72 qlq ?_
 simp only [a0,l0,OS.ao,zk,zr,zi,zo,zl,zm,zu,zd,zh,zj,qhw,qhd,ZZ,WW,Zd,reduceCtorEq,zd,ze,zb,zf,za]
 refine use1 (qmt il 154 [.ptr [.str s]] (fun x=>decide (x.1=s)) (by omega) (fun _=>by kernel_rfl) rfl (fun y _=>quz y s) (fun _=>rfl) (fun _=>rfl)) rfl (.inr rfl) ?_
 cases hg:getI il s with
 |none=>
  rw [qgd (qwf hg)]
  refine zS ?_
  refine br ?_ (fun h=>by simp at h)
  intro _
  refine zS ?_
  rw [itOf,hg]
  rfl
 |some y=>
  obtain ⟨j,hj,rfl⟩:=qob hP hg
  have hjl:=(zt.1 hj).1
  have e:idxF (fun x:Itm=>decide (x.1=pid j)) il=(j:Nat):=qk9 hP hj
  have n1:decide (((j:Nat):Int) < 0)=false:=by rw [decide_eq_false_iff_not];omega
  have hgy:=qbG hj
  simp only [itC] at hgy
  rw [e]
  simp only [ZZ,WW,Zd,reduceCtorEq,zd,ze,zb,zf,za,n1,hgy,qai]
  ((with_reducible and_intros)<;>try exact sc_)
  rw [itOf,hg]
  rfl
set_option maxRecDepth 100000 in
theorem qoy (il:List Itm) (hP:qaP il) (l:List Rul) (hl:l.length≤1000000) (hb:∀ r∈l,r.spans.length≤1000000):PCall Tryz.prog E0 20 [.sl 7 (itE il),.sl 3 (rlE l)] (·=int (rulF il l)):=by
 have h20:=hP.1
 refine qae mixed Tryz.func20 qiy ?_
 simp only [a0,l0,OS.ao,zk,zr,zi,zo,zl,zm,zu,zd,zh,zj,qd8,qdU,ZZ,WW,Zd,reduceCtorEq,zd,ze,zb,zf,za]
 refine use1 (qqy il hP) rfl (.inl rfl) ?_
 refine zS ?_
 refine br (fun h=>by simp at h) ?_
 intro _
 simp only [ZZ,WW,Zd,reduceCtorEq,zd,ze,zb,zf,za,qay]
 by_cases hL:2000 < l.length
 ·have h1:decide (2000 < (l.length:Int))=true:=by rw [decide_eq_true_eq];omega
  rw [rulF,if_pos hL,h1]
  refine br ?_ (fun h=>by cases h)
  intro _
  simp only [ZZ,WW,Zd,reduceCtorEq,zd,ze,zb,zf,za]
 have h1:decide (2000 < (l.length:Int))=false:=by rw [decide_eq_false_iff_not];omega
 rw [rulF,if_neg hL,h1]
 refine br (fun h=>by cases h) ?_
 intro _
 have hget:=fun {k:Nat} (h:k < l.length)=>qa3 _ k _ (qvj il l h)
 obtain ⟨G,hG⟩:∃ G,(List.range l.length).map (ruE il l)=G:=⟨_,rfl⟩
 have hGl:G.length=l.length:=by rw [← hG];simp
 rw [hG] at hget ⊢
 simp only [ZZ,WW,Zd,reduceCtorEq,zd,ze,zb,zf,za,qay]
 refine qad (fun n fr L=>∃ (k:Nat),k≤l.length∧n=l.length - k∧(qaf G=qaf (G.drop k))∧fr=(.p (.sl 7 (itE il))::.p (.sl 3 (rlE l))::oE (oo::(.p (.sl 3 (rlE l))::.p (int (l.length:Nat))::.p (int (k:Nat))::oF (oE (oD (oo::[]))))))∧L=[]) (l.length) _ [] (by simp only [ZZ,WW,Zd,reduceCtorEq,zd,ze,zb,zf,za,qay];try trivial) (by (simp only [ZZ,WW,Zd,reduceCtorEq,zd,ze,zb,zf,za];try trivial)) ⟨0,by omega,by omega,rfl,rfl,rfl⟩ ?_
 rintro n fr L ⟨k,hk,rfl,hF,rfl,rfl⟩
 simp only [qc7,ZZ,WW,Zd,reduceCtorEq,zd,ze,zb,zf,za]
 refine br ?_ ?_
 rotate_left
 ·intro h
  have hge:l.length≤k:=by have:=of_decide_eq_false h;omega
  refine zS ?_
  rw [hF,zU (by omega)]
  rfl
 intro h
 have hlt:k < l.length:=by have:=of_decide_eq_true h;omega
 obtain ⟨r,hr⟩:∃ r,l[k]?=some r:=⟨_,zg hlt⟩
 have hg:=qgj hr
 have hrb:=hb r (zx hr)
 have hd:=hget hlt
 have hrd:l.getD k rl0=r:=by simp [zD,hr]
 have hy:=qtN hP r.id
 have hio:=qlV (E:=E0) il hP r.id
 have hnn:(getI il r.id).isNone=!(getI il r.id).isSome:=by cases getI il r.id<;>rfl
 have hru:ruE il l k=qaf [qah (!(getI il r.id).isSome) 8,qah (decide (0 < k) && (bytesLess r.id (l.getD (k - 1) rl0).id || decide (r.id=(l.getD (k - 1) rl0).id))) 7,qah (!inE r.what 1 3) 4,qah (decide (0 < r.spans.length) && !decide (r.what=1)) 3,qb9 r.spans ((itOf il r.id).2.2.2.2.2.2.length:Nat)]:=by
  rw [ruE,hrd,hnn]
  rfl
 simp only [itC] at hio
 generalize itOf il r.id=y at *
 generalize (getI il r.id).isSome=b at *
 simp only [ZZ,WW,Zd,reduceCtorEq,zd,ze,zb,zf,za,hg,qay]
 ((with_reducible and_intros)<;>try exact sc_)
 refine use1 hio rfl (.inl rfl) ?_
 refine zS ?_
 cases b with
 |false=>
  have hz:ruE il l k=8:=hru
  refine br ?_ (fun h=>by cases h)
  intro _
  refine zS ?_
  rw [hF,hd,hz]
  rfl
 |true=>
 refine br (fun h=>by cases h) ?_
 intro _
 obtain ⟨u,hu⟩:∃ u,l[k - 1]?=some u:=⟨_,zg (by omega)⟩
 have hgu:=qgj hu
 have hud:l.getD (k - 1) rl0=u:=by simp [zD,hu]
 have hk1:((k:Int) - 1).toNat=k - 1:=by omega
 have z1:decide ((0:Int) < (k:Int))=decide (0 < k):=decide_eq_decide.2 (by omega)
 have hls:decide ((0:Int) < (r.spans.length:Int))=decide (0 < r.spans.length):=decide_eq_decide.2 (by omega)
 have hwh:(decide (r.what < 1) || decide (3 < r.what))=!inE r.what 1 3:=by
  unfold inE
  rw [Bool.eq_iff_iff]
  simp only [Bool.or_eq_true,decide_eq_true_eq,Bool.not_eq_true',Bool.and_eq_false_iff,decide_eq_false_iff_not]
  omega
 rw [hud] at hru
 refine drg0 ?_
 simp only [ZZ,WW,Zd,reduceCtorEq,zd,ze,zb,zf,za,hk1,hgu,qay,z1]
 refine ⟨?_,?_,?_,?_⟩
 iterate 3
  ·intro h
   have hp:=of_decide_eq_true h
   (repeat' (first|exact h|apply And.intro))<;>first|omega|exact qan (by omega) (by omega)
 generalize hc:(decide (0 < k) && (bytesLess r.id u.id || decide (r.id=u.id)))=c7 at *
 refine br ?_ ?_
 ·intro h7
  have hz:ruE il l k=7:=by rw [hru,h7];rfl
  refine zS ?_
  rw [hF,hd,hz]
  rfl
 intro h7
 rw [h7] at hru
 refine zS ?_
 rw [hwh]
 refine ⟨fun h=>by rw [h];rfl,?_⟩
 generalize hc4:(!inE r.what 1 3)=c4 at *
 refine br ?_ ?_
 ·intro h4
  have hz:ruE il l k=4:=by rw [hru,h4];rfl
  refine zS ?_
  rw [hF,hd,hz]
  rfl
 intro h4
 rw [h4] at hru
 simp only [ZZ,WW,Zd,reduceCtorEq,zd,ze,zb,zf,za,zB,hls]
 generalize hc3:(decide (0 < r.spans.length) && !decide (r.what=1))=c3 at *
 refine br ?_ ?_
 ·intro h3
  have hz:ruE il l k=3:=by rw [hru,h3];rfl
  refine zS ?_
  rw [hF,hd,hz]
  rfl
 intro h3
 rw [h3] at hru
 have hz:ruE il l k=qb9 r.spans (y.2.2.2.2.2.2.length:Nat):=by
  rw [hru]
  simp only [qaf,qah]
  generalize qb9 r.spans _=s
  simp
  intro h
  exact h.symm
 refine zS ?_
 refine use1 (qqw r.spans _ (by omega)) rfl (.inl rfl) ?_
 rw [← hz]
 refine zS ?_
 refine br ?_ ?_
 ·intro h2
  have h5:¬ ruE il l k=0:=by simpa using h2
  refine zS ?_
  rw [hF,hd,if_neg h5]
 ·intro h2
  have h5:ruE il l k=0:=by simpa using h2
  rw [if_pos h5] at hd
  refine zS ?_
  ((with_reducible and_intros)<;>try exact sc_)
  refine qac (l.length - (k+1)) _ [] (by omega) (by (simp only [ZZ,WW,Zd,reduceCtorEq,zd,ze,zb,zf,za];try trivial)) (by (simp only [ZZ,WW,Zd,reduceCtorEq,zd,ze,zb,zf,za];try trivial)) ⟨k+1,by omega,rfl,by rw [hF,hd],rfl,rfl⟩
end
end Go.Proofs.YtehfjlpenlffmaaGreatDoor
