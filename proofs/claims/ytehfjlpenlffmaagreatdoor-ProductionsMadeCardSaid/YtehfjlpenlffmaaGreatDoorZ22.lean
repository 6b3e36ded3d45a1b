import Derived.Test.YtehfjlpenlffmaaGreatDoorZ21
import Derived.Test.YtehfjlpenlffmaaGreatDoorZ7
import Derived.Test.YtehfjlpenlffmaaGreatDoorZ11
import Derived.Test.YtehfjlpenlffmaaGreatDoorZ20
import Derived.Test.YtehfjlpenlffmaaGreatDoorZ16
import Derived.Test.YtehfjlpenlffmaaGreatDoorZ10
import Derived.Test.YtehfjlpenlffmaaGreatDoorZ17
import Derived.Test.YtehfjlpenlffmaaGreatDoorZ8
import Derived.Test.YtehfjlpenlffmaaGreatDoorLayItoa
set_option linter.unusedVariables false
set_option linter.unusedSimpArgs false
set_option linter.defProp false
namespace Go.Proofs.YtehfjlpenlffmaaGreatDoor
open Nat renaming le_trans→zT,reduceAdd→zd,reduceEqDiff→za,reduceLT→zf,reduceLeDiff→zb,reduceMul→ze,reduceSub→zu
open List renaming append_assoc→ym,cons_append→zl,getElem?_eq_getElem→zg,getElem?_eq_some_iff→zt,length_cons→zi,length_map→zB,length_nil→zo,length_take→zP,map_append→zO,map_cons→zk,map_nil→zr,mem_cons→zI,mem_filter→yj,mem_map→zN,mem_of_getElem?→zx,nil_append→zm,not_mem_nil→zX,replicate_succ→zh,replicate_zero→zj,take_of_length_le→zC,take_succ_eq_append_getElem→zy
open Go.RowKit
def qbT:IC:=(sR [qO 4 (.mov (.c (.nl 4))),qO 5 (.mov (.c (.nl 3)))] (sR [qM 10 0,qM 11 1,qO 12 (.call 7 [.t 10,.t 11]),qM 9 12,qO 13 (.ext 0 (.t 9)),qO 14 (.ext 1 (.t 9)),qM 6 13,qM 7 14] (.seq (sR [qM 15 0,qO 16 (.call 9 [.t 15,.c (.int .i64 8)]),qM 17 16,⟨some 18,.mov (.t 6),(some (17,true))⟩,⟨some 19,.len (.t 18),(some (17,true))⟩,⟨some 20,.bin .gtr (.t 19) (cI 0),(some (17,true))⟩,qO 21 (.pick (.t 17) (.t 20) (.c (.bool false)))] (.cond (.t 21) (sR [qM 22 0,qM 23 6,qN 24 23,qO 25 (.call 10 [.t 22,.t 24]),qM 8 25] (.reg [qM 26 6,qM 27 8,qM 28 0,qM 29 6,qM 30 8,qX 31 4 29 30,qO 32 (.ld 4 true (.t 31)),qO 33 (.call 11 [.t 28,.t 32]),qX 34 4 26 27,qS 4 34 33])) .skip)) (.cut (sR [qM 35 6,qM 36 7,qM 4 35,qM 5 36] .ret)))))
def qbN:List IRes:=[.t 4,.t 5]
theorem qez:chkF Tryz.prog Tryz.f37 qbT qbN 37=true:=by kernel_rfl
def qjA:IC:=(sR [qO 4 (.box 80 (.t 0)),qO 6 (.box 76 (.t 2)),qO 7 (.box 45 (.t 3)),qO 8 (.alc 85 [.str [],.str [],.int .i64 0,.int .i64 0,.int .i64 0,.nl 1,.int .i64 0])] (sR [qF 12 0 4,qL 13 12,qM 14 1,qO 15 (.bld [.str [],.str [],.int .i64 0,.int .i64 0,.int .i64 0,.nl 1,.int .i64 0] [(0,1,.t 13),(1,1,.t 14),(6,1,.c (.int .i64 1))]),qO 9 (.alc 85 [.str [],.str [],.int .i64 0,.int .i64 0,.int .i64 0,.nl 1,.int .i64 0]),qS 7 9 15] (.seq (sR [qF 16 1 6,qL 17 16] (.block 0 (sR [qB 25 .eql 17 (cI 1),qM 24 25] (.cond (.t 24) (sR [qF 27 6 4,qL 28 27,qF 29 2 6,qL 30 29,qO 31 (.call 199 [.t 28,.t 30]),qM 26 31,qO 32 (.ext 0 (.t 26)),qO 33 (.ext 1 (.t 26)),qM 10 32,qM 11 33] (sR [qF 34 2 9,⟨none,.st 1 (.t 34) (cI 1),none⟩] (.reg [qM 36 10,qO 37 (.call 200 [.t 36]),qM 35 37,qO 38 (.ext 0 (.t 35)),qO 39 (.ext 1 (.t 35)),qF 40 5 9,qS 1 40 38]))) (sR [qB 42 .eql 17 (cI 2),qM 41 42] (.cond (.t 41) (.drg [qF 43 3 7,qO 44 (.ldn 9 1 false (.t 43)),qO 45 (.bsl 1 [.t 44]),qO 46 (.bsl 1 [.t 45]),qF 47 2 9,⟨none,.stk 9 1 (.t 47) (cI 2),none⟩,qF 48 5 9,⟨none,.stk 9 1 (.t 48) (.t 46),none⟩]) (.drg [qF 18 4 7,qO 19 (.ldn 9 1 false (.t 18)),qO 20 (.bsl 1 [.t 19]),qO 21 (.bsl 1 [.t 20]),qF 22 2 9,⟨none,.stk 9 1 (.t 22) (cI 3),none⟩,qF 23 5 9,⟨none,.stk 9 1 (.t 23) (.t 21),none⟩]))))))) (.cut (sR [qO 49 (.ld 7 true (.t 9)),qS 7 8 49] .ret)))))
def qju:List IRes:=[.c 8 7 true]
theorem qnn:chkF Tryz.prog Tryz.f123 qjA qju 50=true:=by kernel_rfl
theorem qxE (l:List Prd) (q:Nat) (x:Prd):(pdE l).set q [int x.no,.str x.pre,int x.dig,.sl 7 (shE x.shs)]=pdE (l.set q x):=by simp [pdE,pdV]
set_option maxHeartbeats 4000000 in
theorem qmV (l:List Int) (k:Nat) (il:List Itm) (hP:qaP il) (h12:il.length≤12) (hk:k≤400000) (hl:l.length≤9223372036854775807) :
  STup Tryz.prog E0 37 T (stm l k) [.sl 7 (itE il)] tPrd 4 (fun es ps cs'=>∃ (o:List Prd) (u:List Rul) (k':Nat),es=pdE o∧ps=[.sl 3 (rlE u)]∧o.length≤3∧(∀ p∈o,PdB p)∧u.length≤il.length∧(∀ r∈u,RlM 5 r)∧cs'=stm l k'∧k'≤k+2020):=by
 unfold STup
 refine qzb (i:=4) (i2:=5) (is:=[]) mixed Tryz.func37 qez ?_
 simp only [a0,l0,OS.ao,zk,zr,zi,zo,zl,zm,zu,zd,zh,zj,qbT,qbN,ZZ,WW,Zd,reduceCtorEq,zd,ze,zb,zf,za]
 refine qBo (qoK l k il hP h12 (by omega) hl) rfl rfl rfl zE_ ?_
 rintro es ps cs' ⟨o,u,k1,rfl,rfl,ho,hoB,hu,hub,rfl,hk1⟩
 refine zS ?_
 refine useS (qgp l k1 8 (by omega) hl (by omega)) rfl rfl rfl zE_ ?_
 rintro x cs' ⟨f,rfl,rfl⟩
 simp only [ZZ,WW,Zd,reduceCtorEq,zd,ze,zb,zf,za,qaR]
 refine br ?_ ?_
 ·intro h
  obtain ⟨_,h1⟩:=Bool.and_eq_true_iff.1 h
  have h0:0 < o.length:=by have:=of_decide_eq_true h1;omega
  simp only [ZZ,WW,Zd,reduceCtorEq,zd,ze,zb,zf,za,qaR]
  refine useS (qcX l (k1+1) o.length (by omega) hl (by omega)) rfl rfl rfl zE_ ?_
  rintro x cs' ⟨y,rfl,rfl⟩
  have y1:=qe6 y o.length
  have y2:=qe7 y o.length (by omega)
  obtain ⟨q,hq⟩:∃ q:Nat,qef y o.length=(q:Nat):=⟨(qef y o.length).toNat,by omega⟩
  rw [hq] at y1 y2 ⊢
  clear hq
  obtain ⟨p,hp⟩:∃ p,o[q]?=some p:=⟨_,zg (by omega)⟩
  have hg:=qla hp
  obtain ⟨hpB,hpP⟩:=hoB p (zx hp)
  have hsp:=qkW (E:=E0) l (k1+1+1) p hpB hpP (by omega) hl
  simp only [pdV] at hg hsp
  simp only [ZZ,WW,Zd,reduceCtorEq,zd,ze,zb,zf,za,qaR,hg]
  refine ⟨⟨by omega,by omega⟩,by omega,?_⟩
  refine useS hsp rfl rfl rfl zE_ ?_
  rintro x cs' ⟨p2,k3,rfl,hp2,rfl,hk3⟩
  simp only [ZZ,WW,Zd,reduceCtorEq,zd,ze,zb,zf,za,qaR,hg]
  refine ⟨⟨by omega,by omega⟩,by omega,?_⟩
  refine qa1 _ _ ReOk.refl ?_
  refine zS ?_
  rw [qxE]
  exact qwk 12 (pdE (o.set q p2)) [.sl 3 (rlE u)] (stm l k3) rfl rfl rfl rfl ⟨o.set q p2,u,k3,rfl,rfl,by rw [List.length_set];omega,(fun p hp=>(List.mem_or_eq_of_mem_set hp).elim (fun h=>(hoB p h).1) (fun h=>by subst h;exact hp2)),hu,hub,rfl,by omega⟩
 ·intro _
  refine zS ?_
  refine qa1 _ _ ReOk.refl ?_
  refine zS ?_
  exact qwk 12 (pdE o) [.sl 3 (rlE u)] (stm l (k1+1)) rfl rfl rfl rfl ⟨o,u,k1+1,rfl,rfl,ho,fun p hp=>(hoB p hp).1,hu,hub,rfl,by omega⟩
set_option maxHeartbeats 4000000 in
theorem qxp (y:Itm) (t ri:List UInt8) (w:Int) (es:List (List PV)) (s:Stp) (u:List UInt8) (pgs:Tab) (hR:w=1→PCall Tryz.prog E0 199 [.str y.2.2.2.2.2.2,.sl 2 es] (·=.tup [.str u,int 0]))
  (hPg:w=1→PCall Tryz.prog E0 200 [.str u] (·=.tup [.sl 1 (tbE pgs),int 0])) :
  PCall Tryz.prog E0 123 [.agg (itC y),.str t,.agg [.str ri,int w,.sl 2 es],.agg (stV s)]
   (·=.agg (shV ⟨y.1,t,if w=1 then 1 else if w=2 then 2 else 3,0,0,if w=1 then pgs else if w=2 then [[s.slip]] else [[s.skip]],1⟩)):=by
 refine qae mixed Tryz.func123 qnn ?_
 simp only [a0,l0,OS.ao,zk,zr,zi,zo,zl,zm,zu,zd,zh,zj,qjA,qju,ZZ,WW,Zd,reduceCtorEq,zd,ze,zb,zf,za]
 simp only [itC,stV,shV,ZZ,WW,Zd,reduceCtorEq,zd,ze,zb,zf,za]
 by_cases w1:w=1
 ·have d1:decide (w=1)=true:=decide_eq_true w1
  simp only [ZZ,WW,Zd,reduceCtorEq,zd,ze,zb,zf,za,d1,if_pos w1]
  refine use1 (hR w1) rfl (.inl rfl) ?_
  refine zS ?_
  refine use1 (hPg w1) rfl (.inl rfl) ?_
  refine zS ?_
  refine qal zE_ ?_
  refine zS ?_
  trivial
 have d1:decide (w=1)=false:=decide_eq_false w1
 by_cases w2:w=2
 ·have d2:decide (w=2)=true:=decide_eq_true w2
  simp only [ZZ,WW,Zd,reduceCtorEq,zd,ze,zb,zf,za,d1,d2,if_neg w1,if_pos w2]
  refine drg0 ?_
  refine zS ?_
  refine qal zE_ ?_
  refine zS ?_
  rfl
 ·have d2:decide (w=2)=false:=decide_eq_false w2
  simp only [ZZ,WW,Zd,reduceCtorEq,zd,ze,zb,zf,za,d1,d2,if_neg w1,if_neg w2]
  refine drg0 ?_
  refine zS ?_
  refine qal zE_ ?_
  refine zS ?_
  rfl
theorem RulIs.all {kv:List (List UInt8×PV)} {l:List Rul} (h:RulIs kv l) (hn:(l.map (·.id)).Nodup) (s:List UInt8):∃ (i:List UInt8) (w:Int) (v:PV) (es:List (List PV)),(mpF kv s).getD (.agg [.str [],int 0,.nl 2])=.agg [.str i,int w,v]∧wk1 v=.sl 2 es∧(w=1↔(rlOf l s).what=1)∧(w=2↔(rlOf l s).what=2)∧(w=1→PV.sl 2 es=sps (rlOf l s).spans):=by
 unfold rlOf
 rcases h s with ⟨r,h1,h2⟩|⟨h1,h2|h2⟩
 ·rw [qjb s hn] at h1
  rw [h1,h2]
  exact ⟨r.id,r.what,_,r.spans.map spn,rfl,rfl,Iff.rfl,Iff.rfl,fun _=>rfl⟩
 ·rw [qjb s hn] at h1
  rw [h1,h2]
  exact ⟨[],0,.nl 2,[],rfl,rfl,by simp,by simp,fun h=>by cases h⟩
 ·rw [qjb s hn] at h1
  rw [h1,h2]
  exact ⟨s,3,.nl 2,[],rfl,rfl,by simp,by simp,fun h=>by cases h⟩
theorem qxy {il:List Itm} {l:List Rul} (h:rulF il l=0) (s:List UInt8) (h1:(rlOf l s).what=1):qb9 (rlOf l s).spans ((qg0 (itOf il s)).length:Nat)=0:=by
 unfold rlOf at h1 ⊢
 cases hf:l.find? (fun r=>decide (r.id=s)) with
 |none=>rw [hf] at h1;cases h1
 |some r=>
  have hm:=List.mem_of_find?_eq_some hf
  have hs:r.id=s:=by simpa using List.find?_some hf
  obtain ⟨k,hk⟩:=List.getElem?_of_mem hm
  have hkl:=(zt.1 hk).1
  have h2:qaf ((List.range l.length).map (ruE il l))=0:=by
   unfold rulF at h
   split at h
   ·cases h
   ·exact h
  have h3:=qax h2 _ (zN.2 ⟨k,List.mem_range.2 hkl,rfl⟩)
  unfold ruE at h3
  have hd:l.getD k rl0=r:=by simp [List.getD,hk]
  rw [hd] at h3
  have h4:=qax h3 (qb9 r.spans (((getI il r.id).getD it0).2.2.2.2.2.2.length:Nat)) (by simp)
  rw [hs] at h4
  exact h4
theorem qw7 {il:List Itm} (hP:qaP il) (id:List UInt8):(qg0 (itOf il id)).length≤600∧qgR (qg0 (itOf il id))=true:=by
 obtain ⟨h1,h2,h3⟩:=quV hP id
 refine ⟨h1,?_⟩
 unfold qgR
 rw [qnA _ _ (Nat.le_refl _) h2,Bool.true_and,Bool.or_eq_true,decide_eq_true_eq]
 exact h3
theorem qxM {il:List Itm} (hP:qaP il) {l:List Rul} (hr0:rulF il l=0) (hb:∀ r∈l,r.spans.length≤1000000) {s:Stp} (hs:StB s) {kw:List (List UInt8×PV)} (hkw:RulIs kw l) (t id:List UInt8) :
  ∃ c c2,(mpF kw id).getD (.agg [.str [],int 0,.nl 2])=c∧wk c=c2∧PCall Tryz.prog E0 123 [.agg (itC (itOf il id)),.str t,c2,.agg (stV s)] (·=.agg (shV ⟨(itOf il id).1,t,kdR l id,0,0,pgR il l s id,1⟩)):=by
 obtain ⟨i,w,v,es,e1,e2,e3,e4,e5⟩:=hkw.all (qqQ hr0) id
 refine ⟨_,.agg [.str i,int w,.sl 2 es],e1,by simp only [wk,zk,zr,e2];rfl,?_⟩
 have hsh:=qxp (itOf il id) t i w es s (qbU (qg0 (itOf il id)) (rlOf l id).spans) (pgsF (qfJ (qcD (qbU (qg0 (itOf il id)) (rlOf l id).spans)).1)) ?_ ?_
 ·have h1:kdR l id=if w=1 then 1 else if w=2 then 2 else 3:=by
   unfold kdR
   simp only [e3,e4]
  have h2:pgR il l s id=if w=1 then pgsF (qfJ (qcD (qbU (qg0 (itOf il id)) (rlOf l id).spans)).1) else if w=2 then [[s.slip]] else [[s.skip]]:=by
   unfold pgR
   simp only [e3,e4]
  rw [h1,h2]
  exact hsh
 ·intro hw
  obtain ⟨t1,t2⟩:=qw7 hP id
  have h0:tErr (qg0 (itOf il id)) (rlOf l id).spans=0:=by
   unfold tErr
   rw [qxy hr0 id (e3.1 hw),t2]
   have:qlR (qg0 (itOf il id))=0:=by unfold qlR;rw [qiD (by decide)];simp;omega
   rw [this]
   rfl
  have hR:=qwS (qg0 (itOf il id)) (rlOf l id).spans (by omega) (qtv hb id)
  rw [h0,if_pos rfl] at hR
  rw [e5 hw]
  exact hR
 ·intro hw
  obtain ⟨r1,r2⟩:=qsn hP id (rlOf l id).spans
  generalize qbU (qg0 (itOf il id)) (rlOf l id).spans=u at r1 r2 ⊢
  have h0:qwD u=0:=by
   unfold qwD
   rw [if_neg (by omega),if_pos r2]
  have hp:=qvF E0 u (qwD u) (qfJ (qcD u).1) (qpF u (by omega)) (fun _=>qq3 (qvx u (by omega) r2)) (by
   have h1:=qjQ (qcD u).1
   have h2:=(qhi r2).1
   omega)
  rw [if_pos h0] at hp
  exact hp
theorem qvZ {il:List Itm} (hP:qaP il) {s i:List UInt8} (h:i∈kidsF il s):(itOf il i).1=i:=by
 unfold kidsF at h
 obtain ⟨x,hx,rfl⟩:=zN.1 h
 have hx:=(yj.1 hx).1
 unfold itOf
 cases hg:getI il x.1 with
 |none=>
  unfold getI at hg
  rw [List.find?_eq_none] at hg
  have:=hg x hx
  simp at this
 |some y=>exact (qtQ hg).2
theorem qCl {il:List Itm} (hP:qaP il) {l:List Rul} {ord:Int} {t i:List UInt8} (ht:t∈chS il l ord) (h:i∈t :: kidsF il t):(itOf il i).1=i:=by
 rcases zI.1 h with rfl|h
 ·unfold chS at ht
  rw [List.mem_mergeSort] at ht
  exact qvZ hP (s:=[]) (yj.1 ht).1
 ·exact qvZ hP h
theorem qA0 (il:List Itm) (l:List Rul):(chT il l).length≤il.length:=zT (List.length_filter_le _ _) (qbF il [])
set_option maxHeartbeats 4000000 in
theorem qwu (il:List Itm) (hP:qaP il) (h12:il.length≤12) (l:List Rul) (hl:l.length≤1000000) (hn:(l.map (·.id)).Nodup) (order:Int) (ho:order=1∨order=2∨order=3):PCall Tryz.prog E0 80 [.sl 7 (itE il),.sl 3 (rlE l),int order] (·=.sl 2 ((chS il l order).map (encF il))):=by
 refine qae mixed Tryz.func80 qmK ?_
 simp only [a0,l0,OS.ao,zk,zr,zi,zo,zl,zm,zu,zd,zh,zj,qiR,qiH,ZZ,WW,Zd,reduceCtorEq,zd,ze,zb,zf,za]
 refine use (qpL il (by omega)) rfl (.inl rfl) ?_
 rintro _ ⟨kv,rfl,hkv,hkn⟩
 refine zS ?_
 refine use (qoV il l (by omega) hl) rfl (.inl rfl) ?_
 rintro _ ⟨kw,rfl,hkw,hwn⟩
 refine zS ?_
 ((with_reducible and_intros)<;>try exact sc_)
 rw [qa6]
 refine ⟨_,_,ReOk.trans (qiM (k:=.l 5) (cs:=[int order]) rfl) (ReOk.trans (qiM (k:=.l 7) (cs:=[.mpv (kv.map (·.1)) (kv.map (·.2))]) rfl) (qiM (k:=.l 8) (cs:=[.mpv (kw.map (·.1)) (kw.map (·.2))]) rfl)),?_⟩
 refine zS ?_
 refine use1 (qs6 il hP) rfl (.inl rfl) ?_
 have hTl:(topsF il).length≤12:=zT (qbF il []) h12
 simp only [ZZ,WW,Zd,reduceCtorEq,zd,ze,zb,zf,za,zB]
 ((with_reducible and_intros)<;>try exact sc_)
 refine qad (fun n fr L=>∃ (k:Nat) (w:List (List PV)),k≤(topsF il).length∧n=(topsF il).length - k∧(w=(((topsF il).take k).filter (fun s=>(s :: kidsF il s).any (qnf l))).map (encF il))∧fr=(oC (oo::(.p (.ptr [int order])::oo::.p (.ptr [.mpv (kv.map (·.1)) (kv.map (·.2))])::.p (.ptr [.mpv (kw.map (·.1)) (kw.map (·.2))])::oo::oo::.row (.l 11)::oD (oC (.p (.sl 2 ((topsF il).map (encF il)))::.p (int ((topsF il).length:Nat))::.p (int (k:Nat))::oE [])))))∧L=[(.l 11,.row w 119 2 true)]) ((topsF il).length) _ _ (by simp only [ZZ,WW,Zd,reduceCtorEq,zd,ze,zb,zf,za,zB];try trivial) (by (simp only [ZZ,WW,Zd,reduceCtorEq,zd,ze,zb,zf,za];try trivial)) ⟨0,[],by omega,by omega,rfl,rfl,rfl⟩ ?_
 rintro n fr L ⟨k,w,hk,rfl,hw,rfl,rfl⟩
 simp only [qgH,ZZ,WW,Zd,reduceCtorEq,zd,ze,zb,zf,za]
 refine br ?_ ?_
 ·intro h
  have hlt:k < (topsF il).length:=by have:=of_decide_eq_true h;omega
  obtain ⟨x,hx⟩:∃ x,(topsF il)[k]?=some x:=⟨_,zg hlt⟩
  have hg:((topsF il).map (encF il)).getD k []=[.str x,.sl 1 (strE (x :: kidsF il x))]:=qas hx
  have htk:(topsF il).take (k+1)=(topsF il).take k++[x]:=by rw [zy hlt,(zt.1 hx).2]
  have hwl:w.length≤12:=by
   rw [hw,zB]
   refine zT (List.length_filter_le _ _) ?_
   rw [zP]
   omega
  have hkl:(kidsF il x).length≤12:=zT (qbF il x) h12
  have hc:=qeh (E:=E0) (x :: kidsF il x) 162 [.ptr [.mpv (kw.map (·.1)) (kw.map (·.2))]] (qnf l) (by simp;omega) (fun _=>by kernel_rfl) rfl (fun y _=>qxo hkw hn y) (fun _=>rfl) (fun _=>rfl)
  simp only [ZZ,WW,Zd,reduceCtorEq,zd,ze,zb,zf,za,hg,zB]
  ((with_reducible and_intros)<;>try exact sc_)
  refine use1 hc rfl (.inr rfl) ?_
  refine zS ?_
  refine br ?_ ?_
  ·intro h2
   refine zS ?_
   ((with_reducible and_intros)<;>try exact sc_)
   refine qa1 _ _ ReOk.refl ?_
   refine zS ?_
   ((with_reducible and_intros)<;>try exact sc_)
   refine qac ((topsF il).length - (k+1)) _ _ (by omega) (by (simp only [ZZ,WW,Zd,reduceCtorEq,zd,ze,zb,zf,za];try trivial)) (by (simp only [ZZ,WW,Zd,reduceCtorEq,zd,ze,zb,zf,za];try trivial)) ⟨k+1,w++[[.str x,.sl 1 (strE (x :: kidsF il x))]],by omega,rfl,by rw [htk,List.filter_append,zO,← hw,List.filter_cons,if_pos h2];rfl,rfl,rfl⟩
  ·intro h2
   refine zS ?_
   ((with_reducible and_intros)<;>try exact sc_)
   refine qa1 _ _ ReOk.refl ?_
   refine zS ?_
   ((with_reducible and_intros)<;>try exact sc_)
   refine qac ((topsF il).length - (k+1)) _ _ (by omega) (by (simp only [ZZ,WW,Zd,reduceCtorEq,zd,ze,zb,zf,za];try trivial)) (by (simp only [ZZ,WW,Zd,reduceCtorEq,zd,ze,zb,zf,za];try trivial)) ⟨k+1,w,by omega,rfl,by rw [htk,List.filter_append,zO,← hw,List.filter_cons,if_neg (by rw [h2];simp)];simp,rfl,rfl⟩
 intro h
 have hge:(topsF il).length≤k:=by have:=of_decide_eq_false h;omega
 rw [zC hge] at hw
 have hw:w=(chT il l).map fun s=>[PV.str s,.sl 1 (strE (s :: kidsF il s))]:=hw
 subst hw
 refine zS ?_
 refine useR (qow (fun s=>s) (fun s=>strE (s :: kidsF il s)) (cfP il order) (qom il order).ord 163 [.ptr [.mpv (kv.map (·.1)) (kv.map (·.2))],.ptr [int order]] (fun _=>by kernel_rfl) (chT il l) (zT (qA0 il l) h12) (fun s _ t _=>qAY hP hkv ho s t _ _) (fun _ _=>rfl) (fun _ _=>rfl)) rfl rfl rfl zE_ ?_
 rintro _ _ ⟨rfl,o,rfl,hp,hs⟩
 have hoe:=qt3 hp hs
 subst hoe
 refine zS ?_
 rfl
def qh4:IC:=(sR [qT 99 .lss 98 97] (.seq (.cond (.t 99) .skip (.exit 6)) (.seq (.block 7 (sR [qX 100 1 96 98,qL 101 100,qM 24 101] (.seq (sR [qM 102 12,qM 103 24,qO 104 (.mpl false (.bool false) (.t 102) (.t 103))] (.cond (.t 104) (sR [qO 105 (.bld [.int .i64 0,.str [],.int .i64 0,.nl 7] []),qS 4 8 105,qO 9 (.mov (cI 6))] .ret) .skip)) (sR [qM 106 17,qM 107 24,qO 108 (.mpl false (.agg [.str [],.str [],.int .i64 0,.str [],.int .i64 0,.str [],.str []]) (.t 106) (.t 107)),qF 109 0 22,qL 110 109,qM 111 18,qM 112 24,qO 113 (.mpl false (.agg [.str [],.int .i64 0,.nl 2]) (.t 111) (.t 112)),qO 114 (.ld 6 true (.t 6)),qO 115 (.call 123 [.t 108,.t 110,.t 113,.t 114]),qO 25 (.alc 85 [.str [],.str [],.int .i64 0,.int .i64 0,.int .i64 0,.nl 1,.int .i64 0]),qS 7 25 115] (sR [qM 116 11,qM 117 20,qT 118 .add 116 117,qB 119 .add 118 (cI 1),qM 120 11,qM 121 20,qT 122 .add 120 121,qF 123 5 25,qL 124 123,qN 125 124,qT 126 .add 122 125,qF 127 3 25,qS 1 127 119,qF 128 4 25,qS 1 128 126] (sR [qM 129 20,qF 130 5 25,qL 131 130,qN 132 131,qT 133 .add 129 132,qM 20 133] (.reg [qF 134 3 19,qL 135 134,qO 136 (.ld 7 true (.t 25)),qO 137 (.bsl 7 [.t 136]),qO 138 (.app 85 7 88 (.t 135) (.t 137)),qF 139 3 19,qS 1 139 138]))))))) (.reg [qB 140 .add 98 (cI 1),qM 98 140]))))
def qh5:IC:=(sR [qT 92 .lss 91 90] (.seq (.cond (.t 92) .skip (.exit 4)) (.seq (.block 5 (sR [qX 93 2 89 91,qO 94 (.ld 2 true (.t 93)),qO 22 (.alc 119 [.str [],.nl 1]),qS 2 22 94] (sR [qF 95 1 22,qL 96 95,qN 97 96,qO 98 (.mov (cI 0))] (.block 6 (.loop qh4))))) (.reg [qB 141 .add 91 (cI 1),qM 91 141]))))
def qh6:IC:=(sR [qT 55 .lss 54 53] (.seq (.cond (.t 55) .skip (.exit 2)) (.seq (.block 3 (sR [qX 56 7 52 54,qO 57 (.ld 7 true (.t 56)),qO 16 (.alc 85 [.str [],.str [],.int .i64 0,.int .i64 0,.int .i64 0,.nl 1,.int .i64 0]),qS 7 16 57] (sR [qM 58 12,qF 59 0 16,qL 60 59,⟨none,.mpu (.t 58) (.t 60) (.c (.bool true)),none⟩] (sR [qF 61 1 14,qL 62 61,qF 63 0 6,qL 64 63,qT 65 .eql 62 64] (.cond (.t 65) (.reg [qM 66 11,qF 67 4 16,qL 68 67,qO 69 (.mx (.t 66) (.t 68)),qM 11 69]) .skip))))) (.cut (.reg [qB 70 .add 54 (cI 1),qM 54 70])))))
def qh7:IC:=(sR [qT 48 .lss 47 46] (.seq (.cond (.t 48) .skip (.exit 0)) (.seq (.block 1 (sR [qX 49 4 45 47,qO 50 (.ld 4 true (.t 49)),qO 14 (.alc 36 [.int .i64 0,.str [],.int .i64 0,.nl 7]),qS 4 14 50] (sR [qF 51 3 14,qL 52 51,qN 53 52,qO 54 (.mov (cI 0))] (.block 2 (.loop qh6))))) (.reg [qB 71 .add 47 (cI 1),qM 47 71]))))
def qkb:IC:=(sR [qO 6 (.box 45 (.t 2)),qO 8 (.alc 36 [.int .i64 0,.str [],.int .i64 0,.nl 7]),qO 9 (.mov (cI 0))] (.seq (.seq (.drg [qM 27 0,qM 28 1,qO 29 (.pcall 0 23 [.t 27,.t 28]),qO 30 (.ld 6 true (.t 6)),qO 31 (.pcall 1 21 [.t 30]),qM 32 3,qO 33 (.pcall 2 15 [.t 32]),qM 34 3,qN 35 34,qB 36 .eql 35 (cI 200),qO 37 (.pcall 3 50 [.t 36,.c (.int .i64 12)]),qO 38 (.bsl 1 [.t 29,.t 31,.t 33,.t 37]),qO 39 (.pcall 4 49 [.t 38]),qM 10 39]) (sR [qM 40 10,qB 41 .neq 40 (cI 0)] (.cond (.t 41) (sR [qO 42 (.bld [.int .i64 0,.str [],.int .i64 0,.nl 7] []),qM 43 10,qS 4 8 42,qM 9 43] .ret) .skip))) (sR [qO 11 (.mov (cI 0))] (sR [qO 44 (.mkm 9 4),qM 12 44] (.seq (sR [qM 45 3,qN 46 45,qO 47 (.mov (cI 0))] (.block 0 (.loop qh7))) (sR [qM 72 0,qO 73 (.call 78 [.t 72]),qM 74 0,qM 75 1,qO 76 (.call 122 [.t 74,.t 75]),qM 17 73,qM 18 76] (sR [qM 77 3,qN 78 77,qB 79 .add 78 (cI 1),qF 80 0 6,qL 81 80,qF 82 1 6,qL 83 82,qO 84 (.bld [.int .i64 0,.str [],.int .i64 0,.nl 7] [(0,1,.t 79),(1,1,.t 81),(2,1,.t 83)]),qO 19 (.alc 36 [.int .i64 0,.str [],.int .i64 0,.nl 7]),qS 4 19 84,⟨none,.re,none⟩] (sR [qO 20 (.mov (cI 0))] (.seq (sR [qM 85 0,qM 86 1,qF 87 2 6,qL 88 87,qO 89 (.call 80 [.t 85,.t 86,.t 88]),qN 90 89,qO 91 (.mov (cI 0))] (.block 4 (.loop qh5))) (.seq (.seq (.drg [qF 142 3 19,qL 143 142,qN 144 143,qB 145 .eql 144 (cI 0),qO 146 (.pcall 0 50 [.t 145,.c (.int .i64 8)]),qM 147 20,qF 148 5 6,qL 149 148,qT 150 .gtr 147 149,qO 151 (.pcall 1 50 [.t 150,.c (.int .i64 2)]),qM 152 11,qM 153 20,qT 154 .add 152 153,qF 155 1 6,qL 156 155,qO 157 (.pcall 2 54 [.t 156]),qB 158 .sub 157 (cI 1),qT 159 .gtr 154 158,qO 160 (.pcall 3 50 [.t 159,.c (.int .i64 12)]),qO 161 (.bsl 1 [.t 146,.t 151,.t 160]),qO 162 (.pcall 4 49 [.t 161]),qM 26 162]) (sR [qM 163 26,qB 164 .neq 163 (cI 0)] (.cond (.t 164) (sR [qO 165 (.bld [.int .i64 0,.str [],.int .i64 0,.nl 7] []),qM 166 26,qS 4 8 165,qM 9 166] .ret) .skip))) (sR [⟨none,.re,none⟩,qO 167 (.ld 4 true (.t 19)),qS 4 8 167,qO 9 (.mov (cI 0))] .ret)))))))))))
def qjV:List IRes:=[.c 8 4 true,.t 9]
theorem qoh:chkF Tryz.prog Tryz.f38 qkb qjV 168=true:=by kernel_rfl
theorem qAG (a b c d:Int):qaf [a,b,c,d]=if qaf [a,b,c]=0 then d else qaf [a,b,c]:=by
 simp only [qaf]
 by_cases h1:a=0<;>by_cases h2:b=0<;>by_cases h3:c=0<;>by_cases h4:d=0<;>simp [h1,h2,h3,h4]
set_option maxHeartbeats 8000000 in
set_option maxRecDepth 100000 in
theorem qBk (il:List Itm) (hP:qaP il) (h12:il.length≤12) (l:List Rul) (hl:l.length≤1000000) (hb:∀ r∈l,r.spans.length≤1000000) (s:Stp) (hs:StB s) (hm:-1000000000≤s.most∧s.most≤1000000000) (past:List Prd) (hpl:past.length≤1000) (hpB:∀ p∈past,PdB p) :
  qoz Tryz.prog E0 38 [.sl 7 (itE il),.sl 3 (rlE l),.agg (stV s)] tPrd 4 (pdE past) [] (fun x es'=>es'=pdE past∧x=.tup [.agg (pdV (pmP il l s past)),int (pmE il l s past)]):=by
 unfold qoz
 refine qsG mixed Tryz.func38 qoh ?_
 simp only [a0P,a0,l0,OS.ao,zk,zr,zi,zo,zl,zm,zu,zd,zh,zj,qkb,qjV,stV,ZZ,WW,Zd,reduceCtorEq,zd,ze,zb,zf,za]
 have hsf:=qqF s hs
 simp only [stV] at hsf
 have hend:∀ c:Int,c≠0→pmE il l s past=c→PV.tup [.agg [int 0,.str [],int 0,.sl 7 []],int c]=.tup [.agg (pdV (pmP il l s past)),int (pmE il l s past)]:=by
  intro c hc he
  unfold pmP
  rw [if_neg (by rw [he];exact hc),he]
  rfl
 have e200:decide ((past.length:Int)=200)=decide (past.length=200):=decide_eq_decide.2 (by omega)
 have hE0:qaf [rulF il l,setF s,pdsF past,qah (decide (past.length=200)) 12]=if pmA il l s past=0 then qah (decide (past.length=200)) 12 else pmA il l s past:=qAG _ _ _ _
 refine ⟨[int (rulF il l),int (setF s),int (pdsF past),int (qah (decide (past.length=200)) 12),int (qaf [rulF il l,setF s,pdsF past,qah (decide (past.length=200)) 12])],?_⟩
 simp only [ZZ,WW,Zd,reduceCtorEq,zd,ze,zb,zf,za,qaR,e200]
 refine ⟨usep (qoA il hP l hl hb) rfl (.inl rfl),usep hsf rfl (.inl rfl),usep (qs9 past (by omega) hpB) rfl (.inr rfl),usep (qav _ _) rfl (.inl rfl),usep (qbK [_,_,_,_] (by simp)) rfl (.inl rfl),?_⟩
 rw [hE0]
 refine br ?_ ?_
 ·intro h
  have h1:¬ (if pmA il l s past=0 then qah (decide (past.length=200)) 12 else pmA il l s past)=0:=by simpa using h
  have h2:pmE il l s past=(if pmA il l s past=0 then qah (decide (past.length=200)) 12 else pmA il l s past):=by
   rw [pmE]
   by_cases ha:pmA il l s past=0
   ·rw [if_pos ha] at h1 ⊢
    by_cases h20:past.length=200
    ·rw [if_pos h20,if_pos ha,decide_eq_true h20];rfl
    ·rw [decide_eq_false h20] at h1;exact absurd rfl h1
   ·rw [if_neg ha,if_neg ha]
  refine zS ?_
  exact qjK (pdE past) rfl ⟨rfl,hend _ h1 h2⟩
 intro h
 have h1:(if pmA il l s past=0 then qah (decide (past.length=200)) 12 else pmA il l s past)=0:=by simpa using h
 have hA:pmA il l s past=0:=by
  by_cases ha:pmA il l s past=0
  ·exact ha
  ·rw [if_neg ha] at h1;exact h1
 have h200:¬ past.length=200:=by
  rw [if_pos hA] at h1
  intro h20
  rw [decide_eq_true h20] at h1
  cases h1
 have hr0:rulF il l=0:=qax hA _ (by simp)
 have hs0:setF s=0:=qax hA _ (by simp)
 have hd0:pdsF past=0:=qax hA _ (by simp)
 have hE:pmE il l s past=pmB il l s past:=by rw [pmE,if_pos hA,if_neg h200]
 clear h h1 hE0 e200
 obtain ⟨ho,hd4,hd9⟩:=qtt hs0
 simp only [ZZ,WW,Zd,reduceCtorEq,zd,ze,zb,zf,za,qaR]
 refine qad (fun n fr L=>∃ (a:Nat) (kv:List (List UInt8×PV)) (nn:Int),a≤past.length∧n=past.length - a∧(nn=qoG (past.take a) s.pre)∧(qsj kv (idsT (past.take a)))∧fr=(.p (.sl 7 (itE il))::.p (.sl 3 (rlE l))::oo::.row (.b 0)::oo::oo::.adr (.l 6) 0::oo::.adr (.l 8) 0::.p (int 0)::oo::.p (int nn)::.mp (.l 44)::oF (.row (.b 0)::.p (int (past.length:Nat))::.p (int (a:Nat))::oG (oF (oE (oD [])))))∧L=[(.b 0,.row (pdE past) tPrd 4 true),(.l 6,.box [.p (.str s.pre),.p (int s.dig),.p (int s.ord),.p (.str s.slip),.p (.str s.skip),.p (int s.most)] 45),(.l 8,.box [.p (int 0),.p (.str []),.p (int 0),.p (.nl 7)] tPrd),(.l 44,.map kv 9 4)]) (past.length) _ _ (by simp only [ZZ,WW,Zd,reduceCtorEq,zd,ze,zb,zf,za,qaR];try trivial) (by (simp only [ZZ,WW,Zd,reduceCtorEq,zd,ze,zb,zf,za];try trivial)) ⟨0,[],0,by omega,by omega,rfl,qqM,rfl,rfl⟩ ?_
 rintro n fr L ⟨a,kv,nn,ha,rfl,hn,hkv,rfl,rfl⟩
 simp only [qh7,ZZ,WW,Zd,reduceCtorEq,zd,ze,zb,zf,za]
 refine br ?_ ?_
 ·intro h
  have hlt:a < past.length:=by have:=of_decide_eq_true h;omega
  obtain ⟨p,hp⟩:∃ p,past[a]?=some p:=⟨_,zg hlt⟩
  have hg:=qla hp
  have hpm:=zx hp
  have hpB1:=hpB p hpm
  have hto:=qo2 hd0 p hpm
  have hsl:=hpB1.shs
  simp only [pdV] at hg
  have htk:past.take (a+1)=past.take a++[p]:=by rw [zy hlt,(zt.1 hp).2]
  simp only [ZZ,WW,Zd,reduceCtorEq,zd,ze,zb,zf,za,hg,qaR,qaj]
  ((with_reducible and_intros)<;>try exact sc_)
  refine qad (fun n fr L=>∃ (b:Nat) (kw:List (List UInt8×PV)) (mm:Int),b≤p.shs.length∧n=p.shs.length - b∧(mm=(pagT (past.take a) s.pre++(if p.pre=s.pre then (p.shs.take b).map (·.to_) else [])).foldl max 0)∧(qsj kw (idsT (past.take a)++(p.shs.take b).map (·.id)))∧fr=(.p (.sl 7 (itE il))::.p (.sl 3 (rlE l))::oo::.row (.b 0)::oo::oo::.adr (.l 6) 0::oo::.adr (.l 8) 0::.p (int 0)::oo::.p (int mm)::.mp (.l 44)::oo::.adr (.l 14) 0::oE (oD (oC (oB (.row (.b 0)::.p (int (past.length:Nat))::.p (int (a:Nat))::oo::oo::oo::oo::.p (.sl 7 (shE p.shs))::.p (int (p.shs.length:Nat))::.p (int (b:Nat))::oG (oF (oE (oo::[]))))))))∧L=[(.b 0,.row (pdE past) tPrd 4 true),(.l 6,.box [.p (.str s.pre),.p (int s.dig),.p (int s.ord),.p (.str s.slip),.p (.str s.skip),.p (int s.most)] 45),(.l 8,.box [.p (int 0),.p (.str []),.p (int 0),.p (.nl 7)] tPrd),(.l 44,.map kw 9 4),(.l 14,.box [.p (int p.no),.p (.str p.pre),.p (int p.dig),.p (.sl 7 (shE p.shs))] tPrd)]) (p.shs.length) _ _ (by simp only [ZZ,WW,Zd,reduceCtorEq,zd,ze,zb,zf,za,qaj];try trivial) (by (simp only [ZZ,WW,Zd,reduceCtorEq,zd,ze,zb,zf,za];try trivial)) ⟨0,kv,nn,by omega,by omega,(by rw [hn];simp [qoG]),(by simpa using hkv),rfl,rfl⟩ ?_
  rintro n fr L ⟨b,kw,mm,hb,rfl,hm2,hkw,rfl,rfl⟩
  simp only [qh6,ZZ,WW,Zd,reduceCtorEq,zd,ze,zb,zf,za]
  refine br ?_ ?_
  ·intro h2
   have hbl:b < p.shs.length:=by have:=of_decide_eq_true h2;omega
   obtain ⟨x,hx⟩:∃ x,p.shs[b]?=some x:=⟨_,zg hbl⟩
   have hgx:=qeB hx
   simp only [shV] at hgx
   have hbk:p.shs.take (b+1)=p.shs.take b++[x]:=by rw [zy hbl,(zt.1 hx).2]
   have hpu:=qqL hkw x.id
   rw [ym,show (p.shs.take b).map (·.id)++[x.id]=(p.shs.take (b+1)).map (·.id) from by rw [hbk];simp] at hpu
   simp only [ZZ,WW,Zd,reduceCtorEq,zd,ze,zb,zf,za,hgx,qaj]
   ((with_reducible and_intros)<;>try exact sc_)
   refine br ?_ ?_
   ·intro h3
    have h4:p.pre=s.pre:=by simpa using h3
    have hm3:max mm x.to_=(pagT (past.take a) s.pre++(if p.pre=s.pre then (p.shs.take (b+1)).map (·.to_) else [])).foldl max 0:=by
     rw [if_pos h4] at hm2 ⊢
     rw [hbk,zO,← ym,hm2]
     exact (qrv _ _ _).symm
    refine zS ?_
    refine qa1 _ _ ReOk.refl ?_
    refine zS ?_
    ((with_reducible and_intros)<;>try exact sc_)
    refine qac (p.shs.length - (b+1)) _ _ (by omega) (by (simp only [ZZ,WW,Zd,reduceCtorEq,zd,ze,zb,zf,za];try trivial)) (by (simp only [ZZ,WW,Zd,reduceCtorEq,zd,ze,zb,zf,za];try trivial)) ⟨b+1,mpS kw x.id (.bool true),max mm x.to_,by omega,rfl,hm3,hpu,rfl,rfl⟩
   ·intro h3
    have h4:¬ p.pre=s.pre:=by simpa using h3
    refine zS ?_
    refine qa1 _ _ ReOk.refl ?_
    refine zS ?_
    ((with_reducible and_intros)<;>try exact sc_)
    refine qac (p.shs.length - (b+1)) _ _ (by omega) (by (simp only [ZZ,WW,Zd,reduceCtorEq,zd,ze,zb,zf,za];try trivial)) (by (simp only [ZZ,WW,Zd,reduceCtorEq,zd,ze,zb,zf,za];try trivial)) ⟨b+1,mpS kw x.id (.bool true),mm,by omega,rfl,(by rw [if_neg h4] at hm2 ⊢;exact hm2),hpu,rfl,rfl⟩
  intro h2
  have hbl:p.shs.length≤b:=by have:=of_decide_eq_false h2;omega
  rw [zC hbl] at hm2 hkw
  refine zS ?_
  ((with_reducible and_intros)<;>try exact sc_)
  refine qac (past.length - (a+1)) _ _ (by omega) (by (simp only [ZZ,WW,Zd,reduceCtorEq,zd,ze,zb,zf,za];try trivial)) (by (simp only [ZZ,WW,Zd,reduceCtorEq,zd,ze,zb,zf,za];try trivial)) ⟨a+1,kw,mm,by omega,rfl,(by rw [hm2,htk,qoG,pagT,pagT,List.flatMap_append];simp),(by rw [htk,idsT,List.flatMap_append];simpa [idsT] using hkw),rfl,rfl⟩
 intro h
 have hal:past.length≤a:=by have:=of_decide_eq_false h;omega
 rw [zC hal] at hn hkv
 obtain ⟨nb1,nb2⟩:=qnD (fun q hq x hx=>(qo2 hd0 q hq x hx).2.2) s.pre
 rw [← hn] at nb1 nb2
 clear h hal
 refine zS ?_
 refine use (qpL il (by have:=hP.1;omega)) rfl (.inl rfl) ?_
 rintro _ ⟨km,rfl,hkm,hkn⟩
 refine zS ?_
 refine use (qoV il l (by have:=hP.1;omega) hl) rfl (.inl rfl) ?_
 rintro _ ⟨kr,rfl,hkr,hrn⟩
 simp only [ZZ,WW,Zd,reduceCtorEq,zd,ze,zb,zf,za,qaR]
 ((with_reducible and_intros)<;>try exact sc_)
 rw [qa6]
 refine ⟨_,_,qqV (k:=.l 19) 3 138 qg1 7 7 (by simp) rfl rfl,?_⟩
 refine zS ?_
 refine use1 (qwu il hP h12 l hl (qqQ hr0) s.ord ho) rfl (.inl rfl) ?_
 obtain ⟨F,hF⟩:∃ F,chS il l s.ord=F:=⟨_,rfl⟩
 have hFl:F.length≤20:=by rw [← hF];exact zT (qqk il l s.ord) hP.1
 have hpr:prsM il l s.ord=F.flatMap (famP il):=by rw [prsM,hF]
 have hFi:∀ t∈F,∀ i∈t :: kidsF il t,(itOf il i).1=i:=fun t ht i hi=>qCl hP (by rw [hF];exact ht) hi
 rw [hF]
 clear hF
 have hE2:pmE il l s past=if twM past (prsM il l s.ord)=true then 6 else if prsM il l s.ord=[] then 8 else if s.most < totM il l s (prsM il l s.ord) then 2 else if powF s.dig≤nn+totM il l s (prsM il l s.ord) then 12 else 0:=by
  rw [hE,hn]
  rfl
 have h6:∀ q∈F.flatMap (famP il),qjI past q.2=true→pmE il l s past=6:=fun q hq h=>by
  rw [hE2,hpr,if_pos]
  exact List.any_eq_true.2 ⟨q,hq,h⟩
 simp only [ZZ,WW,Zd,reduceCtorEq,zd,ze,zb,zf,za,zB]
 refine qad (fun n fr L=>∃ (c:Nat) (D:List (List UInt8×List UInt8)),c≤F.length∧n=F.length - c∧(D=(F.take c).flatMap (famP il))∧(twM past D=false)∧fr=(.p (.sl 7 (itE il))::.p (.sl 3 (rlE l))::oo::.row (.b 0)::oo::oo::.adr (.l 6) 0::oo::.adr (.l 8) 0::.p (int 0)::oo::.p (int nn)::.mp (.l 44)::oo::oo::oo::oo::.p (.mpv (km.map (·.1)) (km.map (·.2)))::.p (.mpv (kr.map (·.1)) (kr.map (·.2)))::.adr (.l 19) 0::.p (int (totM il l s D))::oG (oC (.p (.sl 2 (F.map (encF il)))::.p (int (F.length:Nat))::.p (int (c:Nat))::oG (oD (oC [])))))∧L=[(.b 0,.row (pdE past) tPrd 4 true),(.l 6,.box [.p (.str s.pre),.p (int s.dig),.p (int s.ord),.p (.str s.slip),.p (.str s.skip),.p (int s.most)] 45),(.l 8,.box [.p (int 0),.p (.str []),.p (int 0),.p (.nl 7)] tPrd),(.l 19,.box [.p (int ((past.length:Nat)+1)),.p (.str s.pre),.p (int s.dig),.row (.l 138)] tPrd),(.l 138,.row (shE (shsM il l s nn D)) qg1 7 true),(.l 44,.map kv 9 4)]) (F.length) _ _ (by simp only [totM,zB,ZZ,WW,Zd,reduceCtorEq,zd,ze,zb,zf,za];try trivial) (by simp only [shsM,qsg,ZZ,WW,Zd,reduceCtorEq,zd,ze,zb,zf,za]) ⟨0,[],by omega,by omega,rfl,rfl,rfl,rfl⟩ ?_
 rintro n fr L ⟨c,D,hc,rfl,hD,htw,rfl,rfl⟩
 simp only [qh5,ZZ,WW,Zd,reduceCtorEq,zd,ze,zb,zf,za]
 refine br ?_ ?_
 ·intro h
  have hlt:c < F.length:=by have:=of_decide_eq_true h;omega
  obtain ⟨t,ht⟩:∃ t,F[c]?=some t:=⟨_,zg hlt⟩
  have hg:(F.map (encF il)).getD c []=encF il t:=qas ht
  have htk:F.take (c+1)=F.take c++[t]:=by rw [zy hlt,(zt.1 ht).2]
  have hIl:(t :: kidsF il t).length≤21:=by have:=qbF il t;have:=hP.1;simp;omega
  have hfp:famP il t=(t :: kidsF il t).map fun i=>(t,i):=rfl
  have hIi:=hFi t (zx ht)
  have h6t:∀ q∈famP il t,qjI past q.2=true→pmE il l s past=6:=fun q hq h=>h6 q (List.mem_flatMap.2 ⟨t,zx ht,hq⟩) h
  simp only [encF] at hg
  generalize t :: kidsF il t=I at hg hIl hfp hIi
  have hDl:D.length≤c * 21:=by
   rw [hD]
   have h1:=ql6 (famP il) 21 (F.take c) fun x _=>zT (qp9 il x) (by have:=hP.1;omega)
   rw [zP] at h1
   have:min c F.length=c:=by omega
   rw [this] at h1
   exact h1
  have hDl2:D.length≤420:=zT hDl (by omega)
  simp only [ZZ,WW,Zd,reduceCtorEq,zd,ze,zb,zf,za,hg,zB,qag]
  ((with_reducible and_intros)<;>try exact sc_)
  refine qad (fun n fr L=>∃ (d:Nat) (D2:List (List UInt8×List UInt8)),d≤I.length∧n=I.length - d∧(D2=D++(I.take d).map (fun i=>(t,i)))∧(twM past D2=false)∧fr=(.p (.sl 7 (itE il))::.p (.sl 3 (rlE l))::oo::.row (.b 0)::oo::oo::.adr (.l 6) 0::oo::.adr (.l 8) 0::.p (int 0)::oo::.p (int nn)::.mp (.l 44)::oo::oo::oo::oo::.p (.mpv (km.map (·.1)) (km.map (·.2)))::.p (.mpv (kr.map (·.1)) (kr.map (·.2)))::.adr (.l 19) 0::.p (int (totM il l s D2))::oo::.adr (.l 22) 0::oG (oB (.p (.sl 2 (F.map (encF il)))::.p (int (F.length:Nat))::.p (int (c:Nat))::oo::oo::oo::oo::.p (.sl 1 (strE I))::.p (int (I.length:Nat))::.p (int (d:Nat))::oG (oC (oo::[])))))∧L=[(.b 0,.row (pdE past) tPrd 4 true),(.l 6,.box [.p (.str s.pre),.p (int s.dig),.p (int s.ord),.p (.str s.slip),.p (.str s.skip),.p (int s.most)] 45),(.l 8,.box [.p (int 0),.p (.str []),.p (int 0),.p (.nl 7)] tPrd),(.l 19,.box [.p (int ((past.length:Nat)+1)),.p (.str s.pre),.p (int s.dig),.row (.l 138)] tPrd),(.l 138,.row (shE (shsM il l s nn D2)) qg1 7 true),(.l 44,.map kv 9 4),(.l 22,.box [.p (.str t),.p (.sl 1 (strE I))] 119)]) (I.length) _ _ (by simp only [ZZ,WW,Zd,reduceCtorEq,zd,ze,zb,zf,za,qag];try trivial) (by (simp only [ZZ,WW,Zd,reduceCtorEq,zd,ze,zb,zf,za];try trivial)) ⟨0,D,by omega,by omega,(by simp),htw,rfl,rfl⟩ ?_
  rintro n fr L ⟨d,D2,hd,rfl,hD2,htw2,rfl,rfl⟩
  simp only [qh4,ZZ,WW,Zd,reduceCtorEq,zd,ze,zb,zf,za]
  refine br ?_ ?_
  ·intro h2
   have hdl:d < I.length:=by have:=of_decide_eq_true h2;omega
   obtain ⟨id,hid⟩:∃ id,I[d]?=some id:=⟨_,zg hdl⟩
   have hgi:=qfH hid
   have hdk:I.take (d+1)=I.take d++[id]:=by rw [zy hdl,(zt.1 hid).2]
   have hD3:D2++[(t,id)]=D++(I.take (d+1)).map (fun i=>(t,i)):=by rw [hD2,hdk,zO,ym];rfl
   have hD2l:D2.length≤450:=by rw [hD2,List.length_append,zB,zP];omega
   have tb1:=qmv hP l hs D2
   have tb2:=qmu il l s D2
   have hkn:=hkv id
   rw [qtP] at hkn
   have e1d:=hIi id (zx hid)
   have h6i:=h6t (t,id) (by rw [hfp];exact zN.2 ⟨id,zx hid,rfl⟩)
   obtain ⟨cr,cr2,hcr,hcw,hSh⟩:=qxM hP hr0 hb hs hkr t id
   have hmg:=(qpV hP hkm id).1
   rw [e1d] at hSh
   simp only [itC,stV,shV] at hmg hSh
   obtain ⟨g1,g2,g3⟩:=qtB hP l hs id
   have e12:totM il l s D2+((pgR il l s id).length:Nat)=totM il l s (D2++[(t,id)]):=by rw [qnP]
   have esh:shE (shsM il l s nn D2)++[[.str id,.str t,int (kdR l id),int (nn+totM il l s D2+1),int (nn+totM il l s D2+((pgR il l s id).length:Nat)),.sl 1 (tbE (pgR il l s id)),int 1]]=shE (shsM il l s nn (D2++[(t,id)])):=by
    rw [qnU,← qvg]
    rfl
   unfold mpD at hkn
   simp only [ZZ,WW,Zd,reduceCtorEq,zd,ze,zb,zf,za,hgi,qag,mpD,hkn]
   ((with_reducible and_intros)<;>try exact sc_)
   refine br ?_ ?_
   ·intro h3
    have h5:=h6i h3
    refine zS ?_
    exact qjK (pdE past) rfl ⟨rfl,hend _ (by decide) h5⟩
   intro h3
   have etw:twM past (D2++[(t,id)])=false:=by
    unfold twM at htw2 ⊢
    rw [List.any_append,htw2,List.any_cons,List.any_nil,h3]
    rfl
   simp only [ZZ,WW,Zd,reduceCtorEq,zd,ze,zb,zf,za,qdc,mpD,hmg,hcr]
   refine use1 hSh (by subst hcw;rfl) (.inl rfl) ?_
   simp only [ZZ,WW,Zd,reduceCtorEq,zd,ze,zb,zf,za,qaN,qaj,qhJ]
   ((with_reducible and_intros)<;>try exact sc_)
   simp only [ZZ,WW,Zd,reduceCtorEq,zd,ze,zb,zf,za,e12,esh]
   refine qac (I.length - (d+1)) _ _ (by omega) (by (simp only [ZZ,WW,Zd,reduceCtorEq,zd,ze,zb,zf,za];try trivial)) (by (simp only [ZZ,WW,Zd,reduceCtorEq,zd,ze,zb,zf,za];try trivial)) ⟨d+1,D2++[(t,id)],by omega,rfl,hD3,etw,rfl,rfl⟩
  intro h2
  have hdl:I.length≤d:=by have:=of_decide_eq_false h2;omega
  rw [zC hdl,← hfp] at hD2
  refine zS ?_
  ((with_reducible and_intros)<;>try exact sc_)
  refine qac (F.length - (c+1)) _ _ (by omega) (by (simp only [ZZ,WW,Zd,reduceCtorEq,zd,ze,zb,zf,za];try trivial)) (by (simp only [ZZ,WW,Zd,reduceCtorEq,zd,ze,zb,zf,za];try trivial)) ⟨c+1,D2,by omega,rfl,(by rw [hD2,htk,List.flatMap_append,hD];simp),htw2,rfl,rfl⟩
 intro h
 have hcl:F.length≤c:=by have:=of_decide_eq_false h;omega
 rw [zC hcl,← hpr] at hD
 clear h hcl h6
 subst hD
 have tb1:=qmv hP l hs (prsM il l s.ord)
 have tb2:=qmu il l s (prsM il l s.ord)
 have tb3:=qny hP.1 l s.ord
 rw [if_neg (by rw [htw];simp)] at hE2
 have hfin:pmE il l s past=0→PV.tup [.agg [int ((past.length:Nat)+1),.str s.pre,int s.dig,.sl 7 (shE (shsM il l s nn (prsM il l s.ord)))],int 0]=.tup [.agg (pdV (pmP il l s past)),int (pmE il l s past)]:=by
  intro he
  unfold pmP
  rw [if_pos he,he,hn]
  rfl
 have hpw:=qmz hd9
 generalize prsM il l s.ord=D at *
 refine zS ?_
 have e0:decide ((D.length:Int)=0)=decide (D=[]):=by
  rw [decide_eq_decide]
  cases D<;>simp
  omega
 have e3:decide (powF s.dig - 1 < nn+totM il l s D)=decide (powF s.dig≤nn+totM il l s D):=decide_eq_decide.2 (by omega)
 have hE3:qaf [qah (decide (D=[])) 8,qah (decide (s.most < totM il l s D)) 2,qah (decide (powF s.dig≤nn+totM il l s D)) 12]=pmE il l s past:=by
  rw [hE2]
  by_cases z1:D=[]<;>by_cases z2:s.most < totM il l s D<;>by_cases z3:powF s.dig≤nn+totM il l s D<;>simp [qaf,qah,z1,z2,z3]
 refine ⟨[int (qah (decide (D=[])) 8),int (qah (decide (s.most < totM il l s D)) 2),int (powF s.dig),int (qah (decide (powF s.dig≤nn+totM il l s D)) 12),int (pmE il l s past)],?_⟩
 simp only [ZZ,WW,Zd,reduceCtorEq,zd,ze,zb,zf,za,qaj,qhJ,e0,e3]
 refine ⟨usep (qav _ _) rfl (.inl rfl),usep (qav _ _) rfl (.inl rfl),qan (by omega) (by omega),usep (qpH s.dig (by omega) (by omega)) rfl (.inl rfl),qan (by omega) (by omega),usep (qav _ _) rfl (.inl rfl),by rw [← hE3];exact usep (qbK [_,_,_] (by simp)) rfl (.inl rfl),?_⟩
 refine br ?_ ?_
 ·intro h
  have h1:¬ pmE il l s past=0:=by simpa using h
  refine zS ?_
  exact qjK (pdE past) rfl ⟨rfl,hend _ h1 rfl⟩
 intro h
 have h1:pmE il l s past=0:=by simpa using h
 refine zS ?_
 rw [qa6]
 refine ⟨_,_,qbO (k:=.l 138) rfl,?_⟩
 refine zS ?_
 exact qjK (pdE past) rfl ⟨rfl,hfin h1⟩
def qaz:IC:=(sR [qT 18 .lss 17 16] (.seq (.cond (.t 18) .skip (.exit 0)) (.seq (.block 1 (sR [qM 19 17,qX 20 1 15 17,qL 21 20,qM 7 19,qM 8 21] (sR [qM 22 1,qM 23 7,qX 24 1 22 23,qL 25 24,qM 9 25] (sR [qM 26 2,qM 27 8,qM 28 9,qO 29 (.callv (.t 26) [.t 27,.t 28]),qO 30 (.not (.t 29))] (.cond (.t 30) (sR [qO 6 (.mov (.c (.bool false)))] .ret) .skip))))) (.reg [qB 31 .add 17 (cI 1),qM 17 31]))))
def qaI:IC:=(sR [qO 6 (.mov (.c (.bool false)))] (.seq (sR [qM 10 0,qN 11 10,qM 12 1,qN 13 12,qT 14 .neq 11 13] (.cond (.t 14) (sR [qO 6 (.mov (.c (.bool false)))] .ret) .skip)) (.seq (sR [qM 15 0,qN 16 15,qO 17 (.mov (cI 0))] (.block 0 (.loop qaz))) (sR [qO 6 (.mov (.c (.bool true)))] .ret))))
def qaH:List IRes:=[.t 6]
theorem qbL:chkF Tryz.prog Tryz.f129 qaI qaH 32=true:=by kernel_rfl
set_option maxRecDepth 100000 in
theorem qqB {E:Envt} (t:Tab) (f:FuncId) (hl:t.length≤1000000000) (hfn:fnB Tryz.prog f=true) (hf:∀ r∈t,PCall Tryz.prog E f [.sl 1 (strE r),.sl 1 (strE r)] (·=.bool true)):PCall Tryz.prog E 129 [.sl 1 (tbE t),.sl 1 (tbE t),.clo f []] (·=.bool true):=by
 refine qae mixed Tryz.func129 qbL ?_
 simp only [a0,l0,OS.ao,zk,zr,zi,zo,zl,zm,zu,zd,zh,zj,qaI,qaH,ZZ,WW,Zd,reduceCtorEq,zd,ze,zb,zf,za]
 simp only [ZZ,WW,Zd,reduceCtorEq,zd,ze,zb,zf,za,qaN,decide_true,Bool.not_true]
 refine qad (fun n fr L=>∃ (k:Nat),k≤t.length∧n=t.length - k∧fr=(.p (.sl 1 (tbE t))::.p (.sl 1 (tbE t))::.p (.clo f [])::oD (oC (.p (.sl 1 (tbE t))::.p (int (t.length:Nat))::.p (int (k:Nat))::oD (oC (oB [])))))∧L=[]) (t.length) _ [] (by simp only [ZZ,WW,Zd,reduceCtorEq,zd,ze,zb,zf,za,qaN];try trivial) (by (simp only [ZZ,WW,Zd,reduceCtorEq,zd,ze,zb,zf,za];try trivial)) ⟨0,by omega,by omega,rfl,rfl⟩ ?_
 rintro n fr L ⟨k,hk,rfl,rfl,rfl⟩
 simp only [qaz,ZZ,WW,Zd,reduceCtorEq,zd,ze,zb,zf,za]
 refine br ?_ ?_
 ·intro h
  have hlt:k < t.length:=by have:=of_decide_eq_true h;omega
  obtain ⟨r,hr⟩:∃ r,t[k]?=some r:=⟨_,zg hlt⟩
  have hg:=qmw hr
  simp only [ZZ,WW,Zd,reduceCtorEq,zd,ze,zb,zf,za,hg,qaN,hfn]
  ((with_reducible and_intros)<;>try exact sc_)
  refine use1 (hf r (zx hr)) rfl (.inl rfl) ?_
  refine zS ?_
  ((with_reducible and_intros)<;>try exact sc_)
  refine qac (t.length - (k+1)) _ [] (by omega) (by (simp only [ZZ,WW,Zd,reduceCtorEq,zd,ze,zb,zf,za];try trivial)) (by (simp only [ZZ,WW,Zd,reduceCtorEq,zd,ze,zb,zf,za];try trivial)) ⟨k+1,by omega,rfl,rfl,rfl⟩
 ·intro h
  have hge:t.length≤k:=by have:=of_decide_eq_false h;omega
  simp only [ZZ,WW,Zd,reduceCtorEq,zd,ze,zb,zf,za]
def qap:IC:=(sR [qT 18 .lss 17 16] (.seq (.cond (.t 18) .skip (.exit 0)) (.seq (.block 1 (sR [qM 19 17,qX 20 7 15 17,qO 21 (.ld 7 true (.t 20)),qO 8 (.alc 85 [.str [],.str [],.int .i64 0,.int .i64 0,.int .i64 0,.nl 1,.int .i64 0]),qM 7 19,qS 7 8 21] (sR [qM 22 1,qM 23 7,qX 24 7 22 23,qO 25 (.ld 7 true (.t 24)),qO 9 (.alc 85 [.str [],.str [],.int .i64 0,.int .i64 0,.int .i64 0,.nl 1,.int .i64 0]),qS 7 9 25] (sR [qM 26 2,qO 27 (.ld 7 true (.t 8)),qO 28 (.ld 7 true (.t 9)),qO 29 (.callv (.t 26) [.t 27,.t 28]),qO 30 (.not (.t 29))] (.cond (.t 30) (sR [qO 6 (.mov (.c (.bool false)))] .ret) .skip))))) (.reg [qB 31 .add 17 (cI 1),qM 17 31]))))
def qau:IC:=(sR [qO 6 (.mov (.c (.bool false)))] (.seq (sR [qM 10 0,qN 11 10,qM 12 1,qN 13 12,qT 14 .neq 11 13] (.cond (.t 14) (sR [qO 6 (.mov (.c (.bool false)))] .ret) .skip)) (.seq (sR [qM 15 0,qN 16 15,qO 17 (.mov (cI 0))] (.block 0 (.loop qap))) (sR [qO 6 (.mov (.c (.bool true)))] .ret))))
def qat:List IRes:=[.t 6]
theorem qa4:chkF Tryz.prog Tryz.f127 qau qat 32=true:=by kernel_rfl
def qdj:IC:=(sR [qO 2 (.box 36 (.t 0)),qO 3 (.box 36 (.t 1)),qO 4 (.mov (.c (.bool false)))] (sR [qF 5 0 2,qL 6 5,qF 7 0 3,qL 8 7,qT 9 .eql 6 8,qM 10 9,⟨some 11,.fla 1 (.t 2),(some (10,true))⟩,⟨some 12,.ld 1 false (.t 11),(some (10,true))⟩,⟨some 13,.fla 1 (.t 3),(some (10,true))⟩,⟨some 14,.ld 1 false (.t 13),(some (10,true))⟩,⟨some 15,.bin .eql (.t 12) (.t 14),(some (10,true))⟩,qO 16 (.pick (.t 10) (.t 15) (.c (.bool false))),qM 17 16,⟨some 18,.fla 2 (.t 2),(some (17,true))⟩,⟨some 19,.ld 1 false (.t 18),(some (17,true))⟩,⟨some 20,.fla 2 (.t 3),(some (17,true))⟩,⟨some 21,.ld 1 false (.t 20),(some (17,true))⟩,⟨some 22,.bin .eql (.t 19) (.t 21),(some (17,true))⟩,qO 23 (.pick (.t 17) (.t 22) (.c (.bool false))),qM 24 23,⟨some 25,.fla 3 (.t 2),(some (24,true))⟩,⟨some 26,.ld 1 false (.t 25),(some (24,true))⟩,⟨some 27,.fla 3 (.t 3),(some (24,true))⟩,⟨some 28,.ld 1 false (.t 27),(some (24,true))⟩,⟨some 29,.call 127 [.t 26,.t 28,.f 128],(some (24,true))⟩,qO 30 (.pick (.t 24) (.t 29) (.c (.bool false))),qM 4 30] .ret))
def qdf:List IRes:=[.t 4]
theorem qhA:chkF Tryz.prog Tryz.f40 qdj qdf 31=true:=by kernel_rfl
def qcQ:IC:=(sR [qO 2 (.box 85 (.t 0)),qO 3 (.box 85 (.t 1)),qO 4 (.mov (.c (.bool false)))] (sR [qF 5 0 2,qL 6 5,qF 7 0 3,qL 8 7,qT 9 .eql 6 8,qM 10 9,⟨some 11,.fla 1 (.t 2),(some (10,true))⟩,⟨some 12,.ld 1 false (.t 11),(some (10,true))⟩,⟨some 13,.fla 1 (.t 3),(some (10,true))⟩,⟨some 14,.ld 1 false (.t 13),(some (10,true))⟩,⟨some 15,.bin .eql (.t 12) (.t 14),(some (10,true))⟩,qO 16 (.pick (.t 10) (.t 15) (.c (.bool false))),qM 17 16,⟨some 18,.fla 2 (.t 2),(some (17,true))⟩,⟨some 19,.ld 1 false (.t 18),(some (17,true))⟩,⟨some 20,.fla 2 (.t 3),(some (17,true))⟩,⟨some 21,.ld 1 false (.t 20),(some (17,true))⟩,⟨some 22,.bin .eql (.t 19) (.t 21),(some (17,true))⟩,qO 23 (.pick (.t 17) (.t 22) (.c (.bool false))),qM 24 23,⟨some 25,.fla 3 (.t 2),(some (24,true))⟩,⟨some 26,.ld 1 false (.t 25),(some (24,true))⟩,⟨some 27,.fla 3 (.t 3),(some (24,true))⟩,⟨some 28,.ld 1 false (.t 27),(some (24,true))⟩,⟨some 29,.bin .eql (.t 26) (.t 28),(some (24,true))⟩,qO 30 (.pick (.t 24) (.t 29) (.c (.bool false))),qM 31 30,⟨some 32,.fla 4 (.t 2),(some (31,true))⟩,⟨some 33,.ld 1 false (.t 32),(some (31,true))⟩,⟨some 34,.fla 4 (.t 3),(some (31,true))⟩,⟨some 35,.ld 1 false (.t 34),(some (31,true))⟩,⟨some 36,.bin .eql (.t 33) (.t 35),(some (31,true))⟩,qO 37 (.pick (.t 31) (.t 36) (.c (.bool false))),qM 38 37,⟨some 39,.fla 6 (.t 2),(some (38,true))⟩,⟨some 40,.ld 1 false (.t 39),(some (38,true))⟩,⟨some 41,.fla 6 (.t 3),(some (38,true))⟩,⟨some 42,.ld 1 false (.t 41),(some (38,true))⟩,⟨some 43,.bin .eql (.t 40) (.t 42),(some (38,true))⟩,qO 44 (.pick (.t 38) (.t 43) (.c (.bool false))),qM 45 44,⟨some 46,.fla 5 (.t 2),(some (45,true))⟩,⟨some 47,.ld 1 false (.t 46),(some (45,true))⟩,⟨some 48,.fla 5 (.t 3),(some (45,true))⟩,⟨some 49,.ld 1 false (.t 48),(some (45,true))⟩,⟨some 50,.call 129 [.t 47,.t 49,.f 35],(some (45,true))⟩,qO 51 (.pick (.t 45) (.t 50) (.c (.bool false))),qM 4 51] .ret))
def qcM:List IRes:=[.t 4]
theorem qgn:chkF Tryz.prog Tryz.f128 qcQ qcM 52=true:=by kernel_rfl
section
variable {E:Envt}
set_option maxRecDepth 100000 in
theorem qqC (t:List Sht) (f:FuncId) (hl:t.length≤1000000000) (hfn:fnB Tryz.prog f=true) (hf:∀ r∈t,PCall Tryz.prog E f [.agg (shV r),.agg (shV r)] (·=.bool true)):PCall Tryz.prog E 127 [.sl 7 (shE t),.sl 7 (shE t),.clo f []] (·=.bool true):=by
 refine qae mixed Tryz.func127 qa4 ?_
 simp only [a0,l0,OS.ao,zk,zr,zi,zo,zl,zm,zu,zd,zh,zj,qau,qat,ZZ,WW,Zd,reduceCtorEq,zd,ze,zb,zf,za]
 simp only [ZZ,WW,Zd,reduceCtorEq,zd,ze,zb,zf,za,qaj,decide_true,Bool.not_true]
 refine qad (fun n fr L=>∃ (k:Nat),k≤t.length∧n=t.length - k∧fr=(.p (.sl 7 (shE t))::.p (.sl 7 (shE t))::.p (.clo f [])::oD (oC (.p (.sl 7 (shE t))::.p (int (t.length:Nat))::.p (int (k:Nat))::oD (oC (oB [])))))∧L=[]) (t.length) _ [] (by simp only [ZZ,WW,Zd,reduceCtorEq,zd,ze,zb,zf,za,qaj];try trivial) (by (simp only [ZZ,WW,Zd,reduceCtorEq,zd,ze,zb,zf,za];try trivial)) ⟨0,by omega,by omega,rfl,rfl⟩ ?_
 rintro n fr L ⟨k,hk,rfl,rfl,rfl⟩
 simp only [qap,ZZ,WW,Zd,reduceCtorEq,zd,ze,zb,zf,za]
 refine br ?_ ?_
 ·intro h
  have hlt:k < t.length:=by have:=of_decide_eq_true h;omega
  obtain ⟨r,hr⟩:∃ r,t[k]?=some r:=⟨_,zg hlt⟩
  have hg:=qeB hr
  have hfr:=hf r (zx hr)
  simp only [shV] at hg hfr
  simp only [ZZ,WW,Zd,reduceCtorEq,zd,ze,zb,zf,za,hg,qaj,hfn]
  ((with_reducible and_intros)<;>try exact sc_)
  refine use1 hfr rfl (.inl rfl) ?_
  refine zS ?_
  ((with_reducible and_intros)<;>try exact sc_)
  refine qac (t.length - (k+1)) _ [] (by omega) (by (simp only [ZZ,WW,Zd,reduceCtorEq,zd,ze,zb,zf,za];try trivial)) (by (simp only [ZZ,WW,Zd,reduceCtorEq,zd,ze,zb,zf,za];try trivial)) ⟨k+1,by omega,rfl,rfl,rfl⟩
 ·intro h
  have hge:t.length≤k:=by have:=of_decide_eq_false h;omega
  simp only [ZZ,WW,Zd,reduceCtorEq,zd,ze,zb,zf,za]
theorem qs2 (x:Sht) (hx:ShB x):PCall Tryz.prog E 128 [.agg (shV x),.agg (shV x)] (·=.bool true):=by
 have hp:=hx.pages
 refine qae mixed Tryz.func128 qgn ?_
 simp only [a0,l0,OS.ao,zk,zr,zi,zo,zl,zm,zu,zd,zh,zj,qcQ,qcM,ZZ,WW,Zd,reduceCtorEq,zd,ze,zb,zf,za]
 simp only [shV,ZZ,WW,Zd,reduceCtorEq,zd,ze,zb,zf,za]
 simp only [ZZ,WW,Zd,reduceCtorEq,zd,ze,zb,zf,za,decide_true]
 refine useG (fun _=>qqB x.pages _ (by omega) (by kernel_rfl) (fun r hr=>by have h:=qw0 (E:=E) r r (by have:=(hx.page r hr).1;omega);rwa [decide_eq_true rfl] at h)) rfl (.inl rfl) ?_
 simp only [ZZ,WW,Zd,reduceCtorEq,zd,ze,zb,zf,za]
theorem qmR (p:Prd) (hp:PdB p):PCall Tryz.prog E 40 [.agg (pdV p),.agg (pdV p)] (·=.bool true):=by
 have hl:=hp.shs
 refine qae mixed Tryz.func40 qhA ?_
 simp only [a0,l0,OS.ao,zk,zr,zi,zo,zl,zm,zu,zd,zh,zj,qdj,qdf,ZZ,WW,Zd,reduceCtorEq,zd,ze,zb,zf,za]
 simp only [pdV,ZZ,WW,Zd,reduceCtorEq,zd,ze,zb,zf,za]
 simp only [ZZ,WW,Zd,reduceCtorEq,zd,ze,zb,zf,za,decide_true]
 refine useG (fun _=>qqC p.shs _ (by omega) (by kernel_rfl) (fun r hr=>qs2 r (hp.all r hr))) rfl (.inl rfl) ?_
 simp only [ZZ,WW,Zd,reduceCtorEq,zd,ze,zb,zf,za]
end
def StM (s:Stp):Prop:=(-1000≤s.dig∧s.dig≤1000)∧(-1000000000≤s.most∧s.most≤1000000000)
section
variable {E:Envt}
theorem qwP (l:List Int) (k:Nat) (hk:k≤900000) (hl:l.length≤9223372036854775807) :
  qhI Tryz.prog E 18 T (stm l k) [] (fun x cs'=>∃ s k',x=.agg (stV s)∧StB s∧StM s∧cs'=stm l k'∧k'≤k+10):=by
 unfold qhI
 refine qge mixed Tryz.func18 qiz ?_
 simp only [a0,l0,OS.ao,zk,zr,zi,zo,zl,zm,zu,zd,zh,zj,qd9,qdV,ZZ,WW,Zd,reduceCtorEq,zd,ze,zb,zf,za]
 refine useS (qhY l k [[65,66],[65,66],[67,68,69]] (by omega) hl (by simp) (by simp)) rfl rfl rfl zE_ ?_
 rintro x cs' ⟨p,rfl,hp,rfl⟩
 have hp:p.length≤1000:=by simp only [zI,zX,or_false] at hp;rcases hp with rfl|rfl|rfl<;>decide
 refine zS ?_
 refine useS (qb8 l (k+1) [4,4,6] (by omega) hl (by simp) (by simp)) rfl rfl rfl zE_ ?_
 rintro x cs' ⟨d,rfl,hd,rfl⟩
 have hd:-1000≤d∧d≤1000:=by simp only [zI,zX,or_false] at hd;omega
 refine zS ?_
 refine useS (qnN l (k+1+1) 1 3 (by omega) hl (by decide) (by decide) (by decide)) rfl rfl rfl zE_ ?_
 rintro x cs' ⟨o,rfl,ho1,ho2,rfl⟩
 refine zS ?_
 refine useS (qb8 l (k+1+1+1) [100,100,3,100000] (by omega) hl (by simp) (by simp)) rfl rfl rfl zE_ ?_
 rintro x cs' ⟨q,rfl,hq,rfl⟩
 have hq:-1000000000≤q∧q≤1000000000:=by simp only [zI,zX,or_false] at hq;omega
 refine zS ?_
 refine useS (qgp l (k+1+1+1+1) 12 (by omega) hl (by decide)) rfl rfl rfl zE_ ?_
 rintro x cs' ⟨b,rfl,rfl⟩
 refine zS ?_
 refine br ?_ ?_
 rotate_left
 ·intro _
  refine zS ?_
  refine qal zE_ ?_
  refine zS ?_
  exact qec (stm l (k+1+1+1+1+1)) rfl ⟨⟨p,d,o,[119,105,116,104,104,101,108,100],[110,111,116,32,119,97,110,116,101,100],q⟩,_,rfl,⟨hp,by simp,by simp⟩,⟨hd,hq⟩,rfl,by omega⟩
 intro _
 refine zS ?_
 refine useS (qcX l (k+1+1+1+1+1) 5 (by omega) hl (by decide)) rfl rfl rfl zE_ ?_
 rintro x cs' ⟨y,rfl,rfl⟩
 generalize qef y 5=c
 refine zS ?_
 refine br ?_ ?_
 ·intro _
  refine zS ?_
  refine useS (qhY l (k+1+1+1+1+1+1) [[],[97,98],[65,66,67,68,69,70,71,72],[65,66,67,68,69,70,71,72,73]] (by omega) hl (by simp) (by simp)) rfl rfl rfl zE_ ?_
  rintro x cs' ⟨u,rfl,hu,rfl⟩
  have hu:u.length≤1000:=by simp only [zI,zX,or_false] at hu;rcases hu with rfl|rfl|rfl|rfl<;>decide
  refine zS ?_
  refine qal zE_ ?_
  refine zS ?_
  exact qec (stm l (k+1+1+1+1+1+1+1)) rfl ⟨⟨u,d,o,[119,105,116,104,104,101,108,100],[110,111,116,32,119,97,110,116,101,100],q⟩,_,rfl,⟨hu,by simp,by simp⟩,⟨hd,hq⟩,rfl,by omega⟩
 intro _
 refine zS ?_
 refine br ?_ ?_
 ·intro _
  refine zS ?_
  refine useS (qb8 l (k+1+1+1+1+1+1) [3,10,9] (by omega) hl (by simp) (by simp)) rfl rfl rfl zE_ ?_
  rintro x cs' ⟨u,rfl,hu,rfl⟩
  have hu:-1000≤u∧u≤1000:=by simp only [zI,zX,or_false] at hu;omega
  refine zS ?_
  refine qal zE_ ?_
  refine zS ?_
  exact qec (stm l (k+1+1+1+1+1+1+1)) rfl ⟨⟨p,u,o,[119,105,116,104,104,101,108,100],[110,111,116,32,119,97,110,116,101,100],q⟩,_,rfl,⟨hp,by simp,by simp⟩,⟨hu,hq⟩,rfl,by omega⟩
 intro _
 refine zS ?_
 refine br ?_ ?_
 ·intro _
  refine zS ?_
  refine useS (qb8 l (k+1+1+1+1+1+1) [0,4] (by omega) hl (by simp) (by simp)) rfl rfl rfl zE_ ?_
  rintro x cs' ⟨u,rfl,hu,rfl⟩
  refine zS ?_
  refine qal zE_ ?_
  refine zS ?_
  exact qec (stm l (k+1+1+1+1+1+1+1)) rfl ⟨⟨p,d,u,[119,105,116,104,104,101,108,100],[110,111,116,32,119,97,110,116,101,100],q⟩,_,rfl,⟨hp,by simp,by simp⟩,⟨hd,hq⟩,rfl,by omega⟩
 intro _
 refine zS ?_
 refine br ?_ ?_
 ·intro _
  refine zS ?_
  refine use1 (qex [115] 80 (by omega) (by simp)) rfl (.inl rfl) ?_
  have g0:(Lib.repeatL [115] 80).length=80:=by rw [Lib.repeatL_length];rfl
  generalize Lib.repeatL [115] 80=r0 at g0 ⊢
  refine zS ?_
  refine use1 (qex [115] 81 (by omega) (by simp)) rfl (.inl rfl) ?_
  have g1:(Lib.repeatL [115] 81).length=81:=by rw [Lib.repeatL_length];rfl
  generalize Lib.repeatL [115] 81=r1 at g1 ⊢
  refine zS ?_
  refine useS (qhY l (k+1+1+1+1+1+1) [[],[32,120],r0,r1] (by omega) hl (by simp) (by simp)) rfl rfl rfl zE_ ?_
  rintro x cs' ⟨u,rfl,hu,rfl⟩
  have hu:u.length≤1000:=by simp only [zI,zX,or_false] at hu;rcases hu with rfl|rfl|rfl|rfl<;>first|omega|decide
  refine zS ?_
  refine qal zE_ ?_
  refine zS ?_
  exact qec (stm l (k+1+1+1+1+1+1+1)) rfl ⟨⟨p,d,o,u,[110,111,116,32,119,97,110,116,101,100],q⟩,_,rfl,⟨hp,hu,by simp⟩,⟨hd,hq⟩,rfl,by omega⟩
 ·intro _
  refine zS ?_
  refine useS (qb8 l (k+1+1+1+1+1+1) [0,100001] (by omega) hl (by simp) (by simp)) rfl rfl rfl zE_ ?_
  rintro x cs' ⟨u,rfl,hu,rfl⟩
  have hu:-1000000000≤u∧u≤1000000000:=by simp only [zI,zX,or_false] at hu;omega
  refine zS ?_
  refine qal zE_ ?_
  refine zS ?_
  exact qec (stm l (k+1+1+1+1+1+1+1)) rfl ⟨⟨p,d,o,[119,105,116,104,104,101,108,100],[110,111,116,32,119,97,110,116,101,100],u⟩,_,rfl,⟨hp,by simp,by simp⟩,⟨hd,hu⟩,rfl,by omega⟩
end
def E4:Envt where
 ok w:=E0.ok w∧Lib.TabIs Tryz.prog w "internal/strconv.uint64pow10" .u64 Lib.pow10Tab
 bl b:=E0.bl b∨b=5
 mono w w' hb h:=⟨E0.mono w w' (fun b hbb=>hb b (.inl hbb)) h.1,(quS (by kernel_rfl) (hb _ (.inr rfl))).trans h.2⟩
theorem qyH (n:Int) (h0:-9223372036854775808≤n) (h1:n≤9223372036854775807):PCall Tryz.prog E4 188 [int n] (·=.str (Lib.itoa n)):=
 qbA rfl rfl fun w hE=>(Any.strconv_Itoa Tryz.layItoa n h0 h1 w hE.2).mono fun e w' h=>⟨h.1,by obtain ⟨k,os,rfl⟩:=h.2;exact qx1 w k os⟩
section
variable {E:Envt}
theorem qr6 (p:List UInt8) (d n:Int) (hp:p.length≤8) (hd0:4≤d) (hd:d≤9) (h0:0≤n) (h1:n≤1000000000):PCall Tryz.prog E4 148 [.str p,int d,int n] (·=.str (qw4 Lib.itoa p d n)):=by
 refine qae mixed Tryz.func148 ql7 ?_
 simp only [a0,l0,OS.ao,zk,zr,zi,zo,zl,zm,zu,zd,zh,zj,qhZ,qhK,ZZ,WW,Zd,reduceCtorEq,zd,ze,zb,zf,za]
 refine use1 (qyH n (by omega) (by omega)) rfl (.inl rfl) ?_
 have hil:=qxW h0 (by omega)
 unfold qw4
 generalize Lib.itoa n=it at *
 obtain ⟨m,hm⟩:=Int.eq_ofNat_of_zero_le (show 0≤max 0 (d - (it.length:Int)) by omega)
 have hm9:m≤9:=by omega
 rw [hm,Int.toNat_natCast]
 simp only [ZZ,WW,Zd,reduceCtorEq,zd,ze,zb,zf,za,hm]
 ((with_reducible and_intros)<;>try exact sc_)
 refine use1 (qwR [48] m (by omega) (by simp)) rfl (.inl rfl) ?_
 have hrl:(Lib.repeatL [48] m).length≤9:=by rw [Lib.repeatL_length];simp;omega
 refine zS ?_
 ((with_reducible and_intros)<;>try exact sc_)
theorem quN (p:List UInt8) (d n:Int) (hp:p.length≤1000):PCall Tryz.prog E4 64 [.str p,int d,int n] (·=.tup [.str (numG Lib.itoa p d n).1,int (numG Lib.itoa p d n).2]):=by
 refine qae mixed Tryz.func64 qmL ?_
 simp only [a0,l0,OS.ao,zk,zr,zi,zo,zl,zm,zu,zd,zh,zj,qiS,qiI,ZZ,WW,Zd,reduceCtorEq,zd,ze,zb,zf,za]
 refine use1 (qkg p d (by omega)) rfl (.inl rfl) ?_
 refine zS ?_
 unfold numG
 refine br ?_ ?_
 ·intro h
  have h:¬ qfC p d=0:=by simpa using h
  refine zS ?_
  rw [if_neg h]
 ·intro h
  have h:qfC p d=0:=by simpa using h
  obtain ⟨g1,g2,g3⟩:=quB h
  have hb:=qmz g2
  rw [if_pos h]
  refine zS ?_
  refine use1 (qpH d (by omega) g2) rfl (.inl rfl) ?_
  refine zS ?_
  ((with_reducible and_intros)<;>try exact sc_)
  refine use1 (qmS n 1 (powF d - 1)) rfl (.inl rfl) ?_
  refine zS ?_
  refine br ?_ ?_
  ·intro h2
   have h2:inE n 1 (powF d - 1)=false:=by simpa using h2
   refine zS ?_
   rw [if_neg (by rw [h2];simp)]
  ·intro h2
   have h2:inE n 1 (powF d - 1)=true:=by simpa using h2
   have h3:=h2
   simp only [inE,Bool.and_eq_true,decide_eq_true_eq] at h3
   refine zS ?_
   refine use1 (qr6 p d n g3 g1 g2 (by omega) (by omega)) rfl (.inl rfl) ?_
   refine zS ?_
   rw [if_pos h2]
theorem qq2:PCall Tryz.prog E4 14 [] (·=.bool true):=by
 refine qae mixed Tryz.func14 qkr ?_
 simp only [a0,l0,OS.ao,zk,zr,zi,zo,zl,zm,zu,zd,zh,zj,qgc,qfU,ZZ,WW,Zd,reduceCtorEq,zd,ze,zb,zf,za]
 refine use1 (quN [65,66] 4 7 (by simp)) rfl (.inl rfl) ?_
 rw [qAr (by omega) (by omega),show numG itD [65,66] 4 7=([65,66,48,48,48,55],0) from by decide +kernel]
 refine zS ?_
 rfl
end
end Go.Proofs.YtehfjlpenlffmaaGreatDoor
