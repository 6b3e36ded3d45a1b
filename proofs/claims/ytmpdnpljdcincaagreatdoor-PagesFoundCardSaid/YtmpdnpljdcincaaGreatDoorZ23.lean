import Derived.Test.YtmpdnpljdcincaaGreatDoorZ22
import Derived.Test.YtmpdnpljdcincaaGreatDoorZ21
import Derived.Test.YtmpdnpljdcincaaGreatDoorZ8
import Derived.Test.YtmpdnpljdcincaaGreatDoorZ12
import Derived.Test.YtmpdnpljdcincaaGreatDoorZ19
import Derived.Test.YtmpdnpljdcincaaGreatDoorZ11
set_option linter.unusedVariables false
set_option linter.unusedSimpArgs false
set_option linter.defProp false
namespace Go.Proofs.YtmpdnpljdcincaaGreatDoor
open Nat renaming reduceAdd→zd,reduceEqDiff→za,reduceLT→zf,reduceLeDiff→zb,reduceMul→ze,reduceSub→zx
open List renaming cons_append→zp,getElem?_eq_getElem→zh,getElem?_eq_some_iff→zt,length_cons→zj,length_map→zE,length_nil→zr,length_take→zN,map_append→zT,map_cons→zo,map_nil→zw,mem_of_getElem?→zy,nil_append→zq,replicate_succ→zi,replicate_zero→zm,take_of_length_le→zG,take_succ_eq_append_getElem→zB
open Go.RowKit
def idsL (g:List Sht):List (List UInt8):=g.map (·.id)
def famT (l:List Sht):Tab:=(grpF l).map idsL
section
variable {E:Envt}
theorem qw3 (g:List Sht) (hg:g.length≤1000000):PCall Tryz.prog E 57 [.sl 7 (shE g)] (·=.sl 1 (strE (idsL g))):=by
 refine qag mixed Tryz.func57 qlg ?_
 simp only [a0,l0,OS.ao,zo,zw,zj,zr,zp,zq,zx,zd,zi,zm,qhr,qhe,ZZ,WW,Ze,reduceCtorEq,zd,ze,zb,zf,za]
 simp only [ZZ,WW,Ze,reduceCtorEq,zd,ze,zb,zf,za,qae]
 refine qad (fun n fr L=>∃ (k:Nat),k≤g.length∧n=g.length - k∧fr=(oo::oo::oo::.row (.l 3)::oo::oo::.p (.sl 7 (shE g))::.p (int (g.length:Nat))::.p (int (k:Nat))::oD (oB []))∧L=[(.l 3,.row (strE (idsL (g.take k))) tStr 1 true)]) (g.length) _ _ (by simp only [ZZ,WW,Ze,reduceCtorEq,zd,ze,zb,zf,za,qae];try trivial) (by (simp only [ZZ,WW,Ze,reduceCtorEq,zd,ze,zb,zf,za];try trivial)) ⟨0,by omega,by omega,rfl,rfl⟩ ?_
 rintro n fr L ⟨k,hk,rfl,rfl,rfl⟩
 simp only [qfI,ZZ,WW,Ze,reduceCtorEq,zd,ze,zb,zf,za]
 refine br ?_ ?_
 ·intro h
  have hlt:k < g.length:=by have:=of_decide_eq_true h;omega
  obtain ⟨x,hx⟩:∃ x,g[k]?=some x:=⟨_,zh hlt⟩
  have hgx:=qbY hx
  simp only [shV] at hgx
  have hl:(idsL (g.take k)).length=k:=by rw [idsL,zE,zN];omega
  have hnx:strE (idsL (g.take k))++[[PV.str x.id]]=strE (idsL (g.take (k+1))):=by
   rw [zB hlt,(zt.1 hx).2]
   simp [strE,idsL]
  simp only [ZZ,WW,Ze,reduceCtorEq,zd,ze,zb,zf,za,hgx,qae,qai,hl]
  ((with_reducible and_intros)<;>try exact sc_)
  rw [hnx]
  refine qac (g.length - (k+1)) _ _ (by omega) (by (simp only [ZZ,WW,Ze,reduceCtorEq,zd,ze,zb,zf,za];try trivial)) (by (simp only [ZZ,WW,Ze,reduceCtorEq,zd,ze,zb,zf,za];try trivial)) ⟨k+1,by omega,rfl,rfl,rfl⟩
 intro h
 have hge:g.length≤k:=by have:=of_decide_eq_false h;omega
 rw [zG hge]
 refine zS ?_
 try first|trivial|rfl
theorem qsc (T:Tab) (r:SRow):tbE T++[[.sl 1 (strE r)]]=tbE (T++[r]):=by simp [tbE]
theorem qnC (no:Int) (pre:List UInt8) (dig:Int) (l:List Sht) (hl:l.length≤1000000) (hG:qr1 l):PCall Tryz.prog E 41 [.agg [int no,.str pre,int dig,.sl 7 (shE l)]] (·=.sl 1 (tbE (famT l))):=by
 have hgl:(grpF l).length≤l.length:=qjX l l.length
 have hcb:∀ g∈grpF l,g.length≤l.length:=fun g hm=>by
  have:=qjV _ g hm
  rw [show (grpF l).flatten=l from by rw [grpF,qh3 hG l.length (Nat.le_refl _),List.take_length]] at this
  exact this
 refine qag mixed Tryz.func41 qia ?_
 simp only [a0,l0,OS.ao,zo,zw,zj,zr,zp,zq,zx,zd,zi,zm,qd3,qdV,ZZ,WW,Ze,reduceCtorEq,zd,ze,zb,zf,za]
 refine use1 (qsw (qry no pre dig l hl hG)) rfl (.inl rfl) ?_
 unfold famT
 generalize grpF l=T at *
 simp only [ZZ,WW,Ze,reduceCtorEq,zd,ze,zb,zf,za,qls]
 refine qad (fun n fr L=>∃ (k:Nat),k≤T.length∧n=T.length - k∧fr=(oo::oo::oo::.row (.l 3)::oo::oo::oo::.p (.sl 1 (rvS T))::.p (int (T.length:Nat))::.p (int (k:Nat))::oD (oB []))∧L=[(.l 3,.row (tbE ((T.take k).map idsL)) tRw 1 true)]) (T.length) _ _ (by simp only [ZZ,WW,Ze,reduceCtorEq,zd,ze,zb,zf,za,qls];try trivial) (by (simp only [ZZ,WW,Ze,reduceCtorEq,zd,ze,zb,zf,za];try trivial)) ⟨0,by omega,by omega,rfl,rfl⟩ ?_
 rintro n fr L ⟨k,hk,rfl,rfl,rfl⟩
 simp only [qcT,ZZ,WW,Ze,reduceCtorEq,zd,ze,zb,zf,za]
 refine br ?_ ?_
 ·intro h
  have hlt:k < T.length:=by have:=of_decide_eq_true h;omega
  obtain ⟨g,hg⟩:∃ g,T[k]?=some g:=⟨_,zh hlt⟩
  have hgg:=quj hg
  have hgb:=hcb g (zy hg)
  have hlk:((T.take k).map idsL).length=k:=by rw [zE,zN];omega
  have hnx:tbE ((T.take k).map idsL)++[[.sl 1 (strE (idsL g))]]=tbE ((T.take (k+1)).map idsL):=by
   rw [zB hlt,(zt.1 hg).2,zT,qsc]
   rfl
  simp only [ZZ,WW,Ze,reduceCtorEq,zd,ze,zb,zf,za,hgg,qls]
  ((with_reducible and_intros)<;>try exact sc_)
  refine use1 (qw3 g (by omega)) rfl (.inl rfl) ?_
  simp only [ZZ,WW,Ze,reduceCtorEq,zd,ze,zb,zf,za,qax,hlk]
  ((with_reducible and_intros)<;>try exact sc_)
  rw [hnx]
  refine qac (T.length - (k+1)) _ _ (by omega) (by (simp only [ZZ,WW,Ze,reduceCtorEq,zd,ze,zb,zf,za];try trivial)) (by (simp only [ZZ,WW,Ze,reduceCtorEq,zd,ze,zb,zf,za];try trivial)) ⟨k+1,by omega,rfl,rfl,rfl⟩
 intro h
 have hge:T.length≤k:=by have:=of_decide_eq_false h;omega
 rw [zG hge]
 refine zS ?_
 try first|trivial|rfl
theorem qqU (no:Int) (pre:List UInt8) (dig:Int) (l:List Sht) (hl:l.length≤1000000) (hG:prdF ⟨no,pre,dig,l⟩=0→qr1 l) (hC:PCall Tryz.prog E 50 [.agg [int no,.str pre,int dig,.sl 7 (shE l)]] (·=int (prdF ⟨no,pre,dig,l⟩))) :
  PCall Tryz.prog E 40 [.agg [int no,.str pre,int dig,.sl 7 (shE l)]] (·=.tup [.sl 1 (tbE (if prdF ⟨no,pre,dig,l⟩=0 then famT l else [])),int (prdF ⟨no,pre,dig,l⟩)]):=by
 generalize prdF ⟨no,pre,dig,l⟩=F at *
 refine qag mixed Tryz.func40 qkt ?_
 simp only [a0,l0,OS.ao,zo,zw,zj,zr,zp,zq,zx,zd,zi,zm,qgP,qgw,ZZ,WW,Ze,reduceCtorEq,zd,ze,zb,zf,za]
 refine use1 hC rfl (.inl rfl) ?_
 refine zS ?_
 refine br ?_ ?_
 ·intro h
  have h:¬ F=0:=by simpa using h
  rw [if_neg h]
  refine zS ?_
  try first|trivial|rfl
 intro h
 have h:F=0:=by simpa using h
 subst h
 have hG:=hG rfl
 rw [if_pos rfl]
 have hgl:(grpF l).length≤l.length:=qjX l l.length
 have hcb:∀ g∈grpF l,g.length≤l.length:=fun g hm=>by
  have:=qjV _ g hm
  rw [show (grpF l).flatten=l from by rw [grpF,qh3 hG l.length (Nat.le_refl _),List.take_length]] at this
  exact this
 refine zS ?_
 refine use1 (qsw (qrF no pre dig l hl hG)) rfl (.inl rfl) ?_
 unfold famT
 generalize grpF l=T at *
 simp only [ZZ,WW,Ze,reduceCtorEq,zd,ze,zb,zf,za,qls]
 refine qad (fun n fr L=>∃ (k:Nat),k≤T.length∧n=T.length - k∧fr=(oC (oo::(.row (.l 5)::oD (oB (oo::(.p (.sl 1 (rvS T))::.p (int (T.length:Nat))::.p (int (k:Nat))::oE (oC (oo::[]))))))))∧L=[(.l 5,.row (tbE ((T.take k).map idsL)) tRw 1 true)]) (T.length) _ _ (by simp only [ZZ,WW,Ze,reduceCtorEq,zd,ze,zb,zf,za,qls];try trivial) (by (simp only [ZZ,WW,Ze,reduceCtorEq,zd,ze,zb,zf,za];try trivial)) ⟨0,by omega,by omega,rfl,rfl⟩ ?_
 rintro n fr L ⟨k,hk,rfl,rfl,rfl⟩
 simp only [qeU,ZZ,WW,Ze,reduceCtorEq,zd,ze,zb,zf,za]
 refine br ?_ ?_
 rotate_left
 ·intro h
  have hge:T.length≤k:=by have:=of_decide_eq_false h;omega
  rw [zG hge]
  refine zS ?_
  try first|trivial|rfl
 intro h
 have hlt:k < T.length:=by have:=of_decide_eq_true h;omega
 obtain ⟨g,hg⟩:∃ g,T[k]?=some g:=⟨_,zh hlt⟩
 have hgg:=quj hg
 have hgb:=hcb g (zy hg)
 have hlk:((T.take k).map idsL).length=k:=by rw [zE,zN];omega
 have hnx:tbE ((T.take k).map idsL)++[[.sl 1 (strE (idsL g))]]=tbE ((T.take (k+1)).map idsL):=by
  rw [zB hlt,(zt.1 hg).2,zT,qsc]
  rfl
 simp only [ZZ,WW,Ze,reduceCtorEq,zd,ze,zb,zf,za,hgg,qls]
 ((with_reducible and_intros)<;>try exact sc_)
 simp only [ZZ,WW,Ze,reduceCtorEq,zd,ze,zb,zf,za,qae]
 refine qad (fun n fr L=>∃ (j:Nat),j≤g.length∧n=g.length - j∧fr=(oC (oo::(.row (.l 5)::oo::oo::.row (.l 8)::oD (.p (.sl 1 (rvS T))::.p (int (T.length:Nat))::.p (int (k:Nat))::oo::oo::oo::.p (.sl 7 (shE g))::.p (int (g.length:Nat))::.p (int (j:Nat))::oD (oC (oB (oo::[])))))))∧L=[(.l 5,.row (tbE ((T.take k).map idsL)) tRw 1 true),(.l 8,.row (strE (idsL (g.take j))) tStr 1 true)]) (g.length) _ _ (by simp only [ZZ,WW,Ze,reduceCtorEq,zd,ze,zb,zf,za,qae];try trivial) (by (simp only [ZZ,WW,Ze,reduceCtorEq,zd,ze,zb,zf,za];try trivial)) ⟨0,by omega,by omega,rfl,rfl⟩ ?_
 rintro n fr L ⟨j,hj,rfl,rfl,rfl⟩
 simp only [qeT,ZZ,WW,Ze,reduceCtorEq,zd,ze,zb,zf,za]
 refine br ?_ ?_
 ·intro h4
  have hjl:j < g.length:=by have:=of_decide_eq_true h4;omega
  obtain ⟨x,hx⟩:∃ x,g[j]?=some x:=⟨_,zh hjl⟩
  have hgx:=qbY hx
  simp only [shV] at hgx
  have hlj:(idsL (g.take j)).length=j:=by rw [idsL,zE,zN];omega
  have hny:strE (idsL (g.take j))++[[PV.str x.id]]=strE (idsL (g.take (j+1))):=by
   rw [zB hjl,(zt.1 hx).2]
   simp [strE,idsL]
  simp only [ZZ,WW,Ze,reduceCtorEq,zd,ze,zb,zf,za,hgx,qae,qai,hlj]
  ((with_reducible and_intros)<;>try exact sc_)
  rw [hny]
  refine qac (g.length - (j+1)) _ _ (by omega) (by (simp only [ZZ,WW,Ze,reduceCtorEq,zd,ze,zb,zf,za];try trivial)) (by (simp only [ZZ,WW,Ze,reduceCtorEq,zd,ze,zb,zf,za];try trivial)) ⟨j+1,by omega,rfl,rfl,rfl⟩
 intro h4
 have hjl:g.length≤j:=by have:=of_decide_eq_false h4;omega
 rw [zG hjl]
 simp only [ZZ,WW,Ze,reduceCtorEq,zd,ze,zb,zf,za,qax,hlk]
 ((with_reducible and_intros)<;>try exact sc_)
 rw [hnx]
 refine qac (T.length - (k+1)) _ _ (by omega) (by (simp only [ZZ,WW,Ze,reduceCtorEq,zd,ze,zb,zf,za];try trivial)) (by (simp only [ZZ,WW,Ze,reduceCtorEq,zd,ze,zb,zf,za];try trivial)) ⟨k+1,by omega,rfl,rfl,rfl⟩
def oneP (l:List Prd):Prd:=l.getD 0 pd0
theorem qzB (l:List Prd):PCall Tryz.prog E 8 [.sl 4 (pdE l)] (·=.agg (pdV (oneP l))):=by
 refine qag mixed Tryz.func8 qmf ?_
 simp only [a0,l0,OS.ao,zo,zw,zj,zr,zp,zq,zx,zd,zi,zm,qiV,qiM,ZZ,WW,Ze,reduceCtorEq,zd,ze,zb,zf,za]
 cases l with
 |nil=>
  simp only [ZZ,WW,Ze,reduceCtorEq,zd,ze,zb,zf,za,qau,show decide (((0:Nat):Int)=0)=true from rfl]
  try rfl
 |cons p r=>
  have h0:decide ((((r.length+1:Nat)):Int)=0)=false:=by rw [decide_eq_false_iff_not];omega
  have hg:(pdE (p :: r)).getD 0 []=[int p.no,.str p.pre,int p.dig,.sl 7 (shE p.shs)]:=rfl
  simp only [ZZ,WW,Ze,reduceCtorEq,zd,ze,zb,zf,za,qau,h0,hg]
  ((with_reducible and_intros)<;>try exact sc_)
  try rfl
end
def qbF:IC:=(sR [qO 4 (.mov (.c (.nl 4))),qO 5 (.mov (.c (.nl 3)))] (sR [qM 10 0,qM 11 1,qO 12 (.call 42 [.t 10,.t 11]),qM 9 12,qO 13 (.ext 0 (.t 9)),qO 14 (.ext 1 (.t 9)),qM 6 13,qM 7 14] (.seq (sR [qM 15 0,qO 16 (.call 43 [.t 15,.c (.int .i64 8)]),qM 17 16,⟨some 18,.mov (.t 6),(some (17,true))⟩,⟨some 19,.len (.t 18),(some (17,true))⟩,⟨some 20,.bin .gtr (.t 19) (cI 0),(some (17,true))⟩,qO 21 (.pick (.t 17) (.t 20) (.c (.bool false)))] (.cond (.t 21) (sR [qM 22 0,qM 23 6,qN 24 23,qO 25 (.call 29 [.t 22,.t 24]),qM 8 25] (.reg [qM 26 6,qM 27 8,qM 28 0,qM 29 6,qM 30 8,qX 31 4 29 30,qO 32 (.ld 4 true (.t 31)),qO 33 (.call 44 [.t 28,.t 32]),qX 34 4 26 27,qS 4 34 33])) .skip)) (.cut (sR [qM 35 6,qM 36 7,qM 4 35,qM 5 36] .ret)))))
def qbz:List IRes:=[.t 4,.t 5]
theorem qea:chkF Tryz.prog Tryz.f6 qbF qbz 37=true:=by kernel_rfl
theorem qwH (l:List Prd) (q:Nat) (x:Prd):(pdE l).set q [int x.no,.str x.pre,int x.dig,.sl 7 (shE x.shs)]=pdE (l.set q x):=by simp [pdE,pdV]
set_option maxHeartbeats 4000000 in
theorem qlM (l:List Int) (k:Nat) (il:List Itm) (hP:qbI il) (h12:il.length≤12) (hk:k≤400000) (hl:l.length≤9223372036854775807) :
  STup Tryz.prog E0 6 T (stm l k) [.sl 7 (itE il)] tPrd 4 (fun es ps cs'=>∃ (o:List Prd) (u:List Rul) (k':Nat),es=pdE o∧ps=[.sl 3 (rlE u)]∧o.length≤3∧(∀ p∈o,PdB p)∧u.length≤il.length∧(∀ r∈u,RlM 5 r)∧cs'=stm l k'∧k'≤k+2020):=by
 unfold STup
 refine qyg (i:=4) (i2:=5) (is:=[]) mixed Tryz.func6 qea ?_
 simp only [a0,l0,OS.ao,zo,zw,zj,zr,zp,zq,zx,zd,zi,zm,qbF,qbz,ZZ,WW,Ze,reduceCtorEq,zd,ze,zb,zf,za]
 refine qAB (qnx l k il hP h12 (by omega) hl) rfl rfl rfl zE_ ?_
 rintro es ps cs' ⟨o,u,k1,rfl,rfl,ho,hoB,hu,hub,rfl,hk1⟩
 refine zS ?_
 refine useS (qhI l k1 8 (by omega) hl (by omega)) rfl rfl rfl zE_ ?_
 rintro x cs' ⟨f,rfl,rfl⟩
 simp only [ZZ,WW,Ze,reduceCtorEq,zd,ze,zb,zf,za,qau]
 refine br ?_ ?_
 ·intro h
  obtain ⟨_,h1⟩:=Bool.and_eq_true_iff.1 h
  have h0:0 < o.length:=by have:=of_decide_eq_true h1;omega
  simp only [ZZ,WW,Ze,reduceCtorEq,zd,ze,zb,zf,za,qau]
  refine useS (qdT l (k1+1) o.length (by omega) hl (by omega)) rfl rfl rfl zE_ ?_
  rintro x cs' ⟨y,rfl,rfl⟩
  have y1:=qfl y o.length
  have y2:=qfm y o.length (by omega)
  obtain ⟨q,hq⟩:∃ q:Nat,qeL y o.length=(q:Nat):=⟨(qeL y o.length).toNat,by omega⟩
  rw [hq] at y1 y2 ⊢
  clear hq
  obtain ⟨p,hp⟩:∃ p,o[q]?=some p:=⟨_,zh (by omega)⟩
  have hg:=qgH hp
  obtain ⟨hpB,hpP⟩:=hoB p (zy hp)
  have hsp:=qkb (E:=E0) l (k1+1+1) p hpB hpP (by omega) hl
  simp only [pdV] at hg hsp
  simp only [ZZ,WW,Ze,reduceCtorEq,zd,ze,zb,zf,za,qau,hg]
  refine ⟨⟨by omega,by omega⟩,by omega,?_⟩
  refine useS hsp rfl rfl rfl zE_ ?_
  rintro x cs' ⟨p2,k3,rfl,hp2,rfl,hk3⟩
  simp only [ZZ,WW,Ze,reduceCtorEq,zd,ze,zb,zf,za,qau,hg]
  refine ⟨⟨by omega,by omega⟩,by omega,?_⟩
  refine qbh _ _ ReOk.refl ?_
  refine zS ?_
  rw [qwH]
  exact qvm 12 (pdE (o.set q p2)) [.sl 3 (rlE u)] (stm l k3) rfl rfl rfl rfl ⟨o.set q p2,u,k3,rfl,rfl,by rw [List.length_set];omega,(fun p hp=>(List.mem_or_eq_of_mem_set hp).elim (fun h=>(hoB p h).1) (fun h=>by subst h;exact hp2)),hu,hub,rfl,by omega⟩
 ·intro _
  refine zS ?_
  refine qbh _ _ ReOk.refl ?_
  refine zS ?_
  exact qvm 12 (pdE o) [.sl 3 (rlE u)] (stm l (k1+1)) rfl rfl rfl rfl ⟨o,u,k1+1,rfl,rfl,ho,fun p hp=>(hoB p hp).1,hu,hub,rfl,by omega⟩
def qay:IC:=(sR [qT 18 .lss 17 16] (.seq (.cond (.t 18) .skip (.exit 0)) (.seq (.block 1 (sR [qM 19 17,qX 20 1 15 17,qL 21 20,qM 7 19,qM 8 21] (sR [qM 22 1,qM 23 7,qX 24 1 22 23,qL 25 24,qM 9 25] (sR [qM 26 2,qM 27 8,qM 28 9,qO 29 (.callv (.t 26) [.t 27,.t 28]),qO 30 (.not (.t 29))] (.cond (.t 30) (sR [qO 6 (.mov (.c (.bool false)))] .ret) .skip))))) (.reg [qB 31 .add 17 (cI 1),qM 17 31]))))
def qaG:IC:=(sR [qO 6 (.mov (.c (.bool false)))] (.seq (sR [qM 10 0,qN 11 10,qM 12 1,qN 13 12,qT 14 .neq 11 13] (.cond (.t 14) (sR [qO 6 (.mov (.c (.bool false)))] .ret) .skip)) (.seq (sR [qM 15 0,qN 16 15,qO 17 (.mov (cI 0))] (.block 0 (.loop qay))) (sR [qO 6 (.mov (.c (.bool true)))] .ret))))
def qaF:List IRes:=[.t 6]
theorem qbx:chkF Tryz.prog Tryz.f62 qaG qaF 32=true:=by kernel_rfl
def qe7:IC:=(sR [qO 4 (.mov (.c (.bool false)))] (sR [qM 5 0,qM 6 1,qO 7 (.call 62 [.t 5,.t 6,.f 18]),qM 4 7] .ret))
def qeQ:List IRes:=[.t 4]
theorem qi3:chkF Tryz.prog Tryz.f23 qe7 qeQ 8=true:=by kernel_rfl
set_option maxRecDepth 100000 in
theorem qpA {E:Envt} (t:Tab) (f:FuncId) (hl:t.length≤1000000000) (hfn:fnB Tryz.prog f=true) (hf:∀ r∈t,PCall Tryz.prog E f [.sl 1 (strE r),.sl 1 (strE r)] (·=.bool true)):PCall Tryz.prog E 62 [.sl 1 (tbE t),.sl 1 (tbE t),.clo f []] (·=.bool true):=by
 refine qag mixed Tryz.func62 qbx ?_
 simp only [a0,l0,OS.ao,zo,zw,zj,zr,zp,zq,zx,zd,zi,zm,qaG,qaF,ZZ,WW,Ze,reduceCtorEq,zd,ze,zb,zf,za]
 simp only [ZZ,WW,Ze,reduceCtorEq,zd,ze,zb,zf,za,qax,decide_true,Bool.not_true]
 refine qad (fun n fr L=>∃ (k:Nat),k≤t.length∧n=t.length - k∧fr=(.p (.sl 1 (tbE t))::.p (.sl 1 (tbE t))::.p (.clo f [])::oD (oC (.p (.sl 1 (tbE t))::.p (int (t.length:Nat))::.p (int (k:Nat))::oD (oC (oB [])))))∧L=[]) (t.length) _ [] (by simp only [ZZ,WW,Ze,reduceCtorEq,zd,ze,zb,zf,za,qax];try trivial) (by (simp only [ZZ,WW,Ze,reduceCtorEq,zd,ze,zb,zf,za];try trivial)) ⟨0,by omega,by omega,rfl,rfl⟩ ?_
 rintro n fr L ⟨k,hk,rfl,rfl,rfl⟩
 simp only [qay,ZZ,WW,Ze,reduceCtorEq,zd,ze,zb,zf,za]
 refine br ?_ ?_
 ·intro h
  have hlt:k < t.length:=by have:=of_decide_eq_true h;omega
  obtain ⟨r,hr⟩:∃ r,t[k]?=some r:=⟨_,zh hlt⟩
  have hg:=qi7 hr
  simp only [ZZ,WW,Ze,reduceCtorEq,zd,ze,zb,zf,za,hg,qax,hfn]
  ((with_reducible and_intros)<;>try exact sc_)
  refine use1 (hf r (zy hr)) rfl (.inl rfl) ?_
  refine zS ?_
  ((with_reducible and_intros)<;>try exact sc_)
  refine qac (t.length - (k+1)) _ [] (by omega) (by (simp only [ZZ,WW,Ze,reduceCtorEq,zd,ze,zb,zf,za];try trivial)) (by (simp only [ZZ,WW,Ze,reduceCtorEq,zd,ze,zb,zf,za];try trivial)) ⟨k+1,by omega,rfl,rfl,rfl⟩
 ·intro h
  have hge:t.length≤k:=by have:=of_decide_eq_false h;omega
  simp only [ZZ,WW,Ze,reduceCtorEq,zd,ze,zb,zf,za]
theorem qqN {E:Envt} (t:Tab) (hl:t.length≤1000000000) (hb:∀ r∈t,r.length≤1000000000):PCall Tryz.prog E 23 [.sl 1 (tbE t),.sl 1 (tbE t)] (·=.bool true):=by
 refine qag mixed Tryz.func23 qi3 ?_
 simp only [a0,l0,OS.ao,zo,zw,zj,zr,zp,zq,zx,zd,zi,zm,qe7,qeQ,ZZ,WW,Ze,reduceCtorEq,zd,ze,zb,zf,za]
 refine use1 (qpA t _ hl (by kernel_rfl) (fun r hr=>by have h:=qqV (E:=E) r r (hb r hr);rwa [decide_eq_true rfl] at h)) rfl (.inl rfl) ?_
 simp only [ZZ,WW,Ze,reduceCtorEq,zd,ze,zb,zf,za]
end Go.Proofs.YtmpdnpljdcincaaGreatDoor
