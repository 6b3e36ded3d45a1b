import Derived.Test.YtehfjlpenlffmaaGreatDoorZ10
import Derived.Test.YtehfjlpenlffmaaGreatDoorZ6
import Derived.Test.YtehfjlpenlffmaaGreatDoorLayItoa
import Derived.Lib.AtoiErrMem
import Derived.Shelf.Strconv.Atoi
import Derived.Test.YtehfjlpenlffmaaGreatDoorZ8
import Derived.Test.YtehfjlpenlffmaaGreatDoorZ7
set_option linter.unusedVariables false
set_option linter.unusedSimpArgs false
set_option linter.defProp false
namespace Go.Proofs.YtehfjlpenlffmaaGreatDoor
open Go.RowKit
def ir_intake_newTree_L0:IC:=(.seq (.reg [qO 13 (.bin .lss (.t 12) (.t 11))]) (.seq (.cond (.t 13) .skip (.exit 0)) (.seq (.block 1 (.seq (.reg [qO 14 (.ixa 7 (.t 10) (.t 12)),qO 15 (.ld 7 true (.t 14)),qO 5 (.alc 80 [.str [],.str [],.int .i64 0,.str [],.int .i64 0,.str [],.str []]),⟨none,.st 7 (.t 5) (.t 15),none⟩]) (.seq (.reg [qO 16 (.fla 5 (.t 5)),qO 17 (.ld 1 false (.t 16)),qO 18 (.bin .eql (.t 17) (.c (.str [])))]) (.cond (.t 18) (.reg [qO 19 (.fla 2 (.t 3)),qO 20 (.ld 1 false (.t 19)),qO 21 (.fla 0 (.t 5)),qO 22 (.ld 1 false (.t 21)),qO 23 (.bsl 1 [.t 22]),qO 24 (.app 9 1 16 (.t 20) (.t 23)),qO 25 (.fla 2 (.t 3)),⟨none,.st 1 (.t 25) (.t 24),none⟩]) (.drp [4,5,6,7,8,9,10,11,12,0,1,2,3,13] [qO 30 (.fla 1 (.t 3)),qO 31 (.ld 1 false (.t 30)),qO 32 (.fla 5 (.t 5)),qO 33 (.ld 1 false (.t 32)),qO 34 (.mpl false (.nl 1) (.t 31) (.t 33)),qO 35 (.fla 0 (.t 5)),qO 36 (.ld 1 false (.t 35)),qO 37 (.bsl 1 [.t 36]),qO 38 (.app 9 1 16 (.t 34) (.t 37)),qO 26 (.fla 1 (.t 3)),qO 27 (.ld 1 false (.t 26)),qO 28 (.fla 5 (.t 5)),qO 29 (.ld 1 false (.t 28)),⟨none,.mpu (.t 27) (.t 29) (.t 38),none⟩]))))) (.cut (.reg [qO 39 (.bin .add (.t 12) (.c (.int .i64 1))),qM 12 39])))))
def ir_intake_newTree:IC:=(.seq (.reg [qO 2 (.alc 229 [.raw (.map none),.raw (.map none),.nl 1])]) (.seq (.reg [qM 6 0,qO 7 (.call 158 [.t 6]),qO 8 (.mkm 9 58),qO 9 (.bldg [.raw (.map none),.raw (.map none),.nl 1] [(0,1,.t 7),(1,1,.t 8),(2,1,.c (.nl 1))]),qO 3 (.alc 229 [.raw (.map none),.raw (.map none),.nl 1]),⟨none,.stg 3 (.t 3) (.t 9),none⟩]) (.seq (.seq (.reg [qM 10 0,qO 11 (.len (.t 10)),qO 12 (.mov (.c (.int .i64 0)))]) (.block 0 (.loop ir_intake_newTree_L0))) (.seq (.reg [qO 40 (.ld 3 true (.t 3)),⟨none,.st 3 (.t 2) (.t 40),none⟩]) .ret))))
def rs_intake_newTree:List IRes:=[.c 2 3 true]
theorem ck_intake_newTree:chkF Tryz.prog Tryz.f224 ir_intake_newTree rs_intake_newTree 41=true:=by kernel_rfl
abbrev tTree:Nat:=229
abbrev tSS:Nat:=58
abbrev tSt5:Nat:=9
def kidR (ts:List Nat):List (List UInt8×AV):=ts.map fun t=>(pid t,AV.row (.l (1000+t)))
def kidP (il:List Itm) (ts:List Nat):List (List UInt8×PV):=ts.map fun t=>(pid t,PV.sl 1 (strE (kidsF il (pid t))))
theorem keyTb {n j:Nat} (h:n < 1000):(Key.l (1000+j)=Key.l n)=False:=by simp;omega
theorem kidR_get:∀ {ts:List Nat} {j:Nat},(∀ t∈ts,t < 20)→j < 20→mpF (kidR ts) (pid j)=if j∈ts then some (.row (.l (1000+j))) else none
 |[],j,_,_=>by simp [kidR,mpF]
 |t :: r,j,h,hj=>by
  have ih:=kidR_get (ts:=r) (fun t ht=>h t (by simp [ht])) hj
  have ht:=h t (by simp)
  simp only [kidR,List.map_cons,mpF] at ih ⊢
  by_cases e:t=j
  ·subst e
   simp
  ·have e2:¬ pid t=pid j:=fun q=>e (pid_inj (by omega) (by omega) q)
   rw [if_neg e2,ih]
   have e3:¬ j=t:=fun q=>e q.symm
   simp [e3]
theorem kidR_put:∀ {ts:List Nat} {j:Nat} (y:AV),(∀ t∈ts,t < 20)→j < 20→j∉ts→mpS (kidR ts) (pid j) y=kidR ts++[(pid j,y)]
 |[],j,y,_,_,_=>rfl
 |t :: r,j,y,h,hj,hn=>by
  have ht:=h t (by simp)
  have e:¬ t=j:=fun q=>hn (by simp [q])
  have e2:¬ pid t=pid j:=fun q=>e (pid_inj (by omega) (by omega) q)
  have ih:=kidR_put (ts:=r) y (fun t ht=>h t (by simp [ht])) hj (fun q=>hn (by simp [q]))
  simp only [kidR,List.map_cons,mpS] at ih ⊢
  rw [if_neg e2,ih]
  rfl
theorem kidR_kill (ts:List Nat) {n:Nat} (h:n < 1000):(kidR ts).map (fun p=>(p.1,p.2.kill (.l n)))=kidR ts:=by
 unfold kidR
 rw [List.map_map]
 refine List.map_congr_left fun t _=>?_
 simp only [Function.comp_apply,AV.kill,keyTb h,if_false]
theorem kidR_kill2:∀ {ts:List Nat} {j:Nat},(∀ t∈ts,t < 20)→j < 20→j∈ts→ts.Nodup→mpS ((kidR ts).map (fun p=>(p.1,p.2.kill (.l (1000+j))))) (pid j) (.row (.l (1000+j)))=kidR ts
 |[],j,_,_,hm,_=>by cases hm
 |t :: r,j,h,hj,hm,hd=>by
  have ht:=h t (by simp)
  rw [List.nodup_cons] at hd
  simp only [kidR,List.map_cons,mpS]
  by_cases e:t=j
  ·subst e
   rw [if_pos rfl]
   congr 1
   rw [List.map_map]
   refine List.map_congr_left fun u hu=>?_
   have:¬ u=t:=fun q=>hd.1 (q ▸ hu)
   have e3:¬ Key.l (1000+u)=Key.l (1000+t):=by simp;omega
   simp only [Function.comp_apply,AV.kill,e3,if_false]
  ·have e2:¬ pid t=pid j:=fun q=>e (pid_inj (by omega) (by omega) q)
   have e3:¬ Key.l (1000+t)=Key.l (1000+j):=by simp;omega
   have ih:=kidR_kill2 (ts:=r) (fun t ht=>h t (by simp [ht])) hj ((List.mem_cons.1 hm).resolve_left (fun q=>e q.symm)) hd.2
   simp only [kidR] at ih
   rw [if_neg e2,ih]
   simp only [AV.kill,e3,if_false]
theorem kidR_ren (ts:List Nat) {d q:Nat} (hd:d < 1000) (hq:∀ t∈ts,¬ q=1000+t):(kidR ts).map (fun p=>(p.1,p.2.ren (r1 d q)))=kidR ts:=by
 unfold kidR
 rw [List.map_map]
 refine List.map_congr_left fun t ht=>?_
 have e1:¬ Key.l (1000+t)=Key.l d:=by simp;omega
 have e2:¬ Key.l (1000+t)=Key.l q:=by have:=hq t ht;simp;omega
 simp only [Function.comp_apply,AV.ren,r1,e1,e2,if_false]
def trB (kv:List (List UInt8×PV)) (a b:AV):AO:=.box [.p (.mpv (kv.map (·.1)) (kv.map (·.2))),a,b] tTree
def trZ:AO:=.box [.p (.raw (.map none)),.p (.raw (.map none)),.p (.nl 1)] tTree
def tpD (il:List Itm):AV:=if topsF il=[] then .p (.nl 1) else .p (.sl 1 (strE (topsF il)))
def tpA (il:List Itm):AV:=if topsF il=[] then .p (.nl 1) else .row (.l 900)
structure TrJ (kv:List (List UInt8×PV)) (il:List Itm) (ts:List Nat) (L:Objs):Prop where
 h2:Zas L (.l 2)=some trZ
 h3:Zas L (.l 3)=some (trB kv (.mp (.l 8)) (tpA il))
 ht:topsF il≠[]→Zas L (.l 900)=some (.row (strE (topsF il)) tSt5 1 true)
 hm:Zas L (.l 8)=some (.mapv (kidR ts) tSt5 tSS)
 hl:∀ t∈ts,t < 20
 hd:ts.Nodup
 hk:∀ t,t < 20→(t∈ts↔kidsF il (pid t)≠[])
 hr:∀ t∈ts,Zas L (.l (1000+t))=some (.row (strE (kidsF il (pid t))) tSt5 1 true)
structure TrD (kv:List (List UInt8×PV)) (il:List Itm) (ts:List Nat) (L:Objs):Prop where
 h2:Zas L (.l 2)=some trZ
 h3:Zas L (.l 3)=some (trB kv (.p (.mpv ((kidP il ts).map (·.1)) ((kidP il ts).map (·.2)))) (tpD il))
 hl:∀ t∈ts,t < 20
 hd:ts.Nodup
 hk:∀ t,t < 20→(t∈ts↔kidsF il (pid t)≠[])
def kidX (il:List Itm) (ds ts:List Nat):List (List UInt8×AV):=(kidP il ds).map (fun p=>(p.1,AV.p p.2))++kidR ts
theorem kidX_thaw (il:List Itm) (ds ts:List Nat) (t:Nat) (hn:t∉ts):(kidX il ds (t :: ts)).map (fun p=>(p.1,p.2.thaw (.l (1000+t)) (.sl 1 (strE (kidsF il (pid t))))))=kidX il (ds++[t]) ts:=by
 unfold kidX kidR kidP
 simp only [List.map_append,List.map_map,List.map_cons,List.map_nil,List.append_assoc,List.singleton_append]
 congr 1
 congr 1
 ·simp [AV.thaw]
 ·refine List.map_congr_left fun u hu=>?_
  have:¬ u=t:=fun q=>hn (q ▸ hu)
  have e3:¬ Key.l (1000+u)=Key.l (1000+t):=by simp;omega
  simp only [Function.comp_apply,AV.thaw,e3,if_false]
theorem tree_frz {E:Envt} {fr:List AV} {kv:List (List UInt8×PV)} {il:List Itm} (hfr:∀ t y,fr.map (·.thaw (.l (1000+t)) y)=fr):∀ (ts ds:List Nat) (L:Objs),ts.Nodup→Zas L (.l 2)=some trZ→Zas L (.l 3)=some (trB kv (.mp (.l 8)) (tpA il))→(topsF il≠[]→Zas L (.l 900)=some (.row (strE (topsF il)) tSt5 1 true))→Zas L (.l 8)=some (.mapv (kidX il ds ts) tSt5 tSS)→(∀ t∈ts,Zas L (.l (1000+t))=some (.row (strE (kidsF il (pid t))) tSt5 1 true))→
  ∃ L',ReOk E fr L fr L'∧Zas L' (.l 2)=some trZ∧Zas L' (.l 3)=some (trB kv (.mp (.l 8)) (tpA il))∧(topsF il≠[]→Zas L' (.l 900)=some (.row (strE (topsF il)) tSt5 1 true))∧Zas L' (.l 8)=some (.mapv (kidX il (ds++ts) []) tSt5 tSS)
 |[],ds,L,_,h2,h3,h9,h8,_=>⟨L,ReOk.refl,h2,h3,h9,by rw [List.append_nil];exact h8⟩
 |t :: r,ds,L,hd,h2,h3,h9,h8,hr=>by
  rw [List.nodup_cons] at hd
  have q:=re_row (E:=E) (fr:=fr) (hr t (by simp))
  rw [hfr] at q
  have a1:∀ n,n < 1000→Zas (Zaw (.l (1000+t)) (.sl 1 (strE (kidsF il (pid t)))) L) (.l n)=(Zas L (.l n)).map (AO.thaw (.l (1000+t)) (.sl 1 (strE (kidsF il (pid t))))):=by
   intro n hn
   rw [look_thawO,if_neg (by simp;omega)]
  have e8:¬ Key.l 8=Key.l (1000+t):=by simp;omega
  have e9:¬ Key.l 900=Key.l (1000+t):=by simp;omega
  obtain ⟨L',p1,p2,p3,p4,p5⟩:=tree_frz (kv:=kv) (il:=il) hfr r (ds++[t]) (Zaw (.l (1000+t)) (.sl 1 (strE (kidsF il (pid t)))) L) hd.2 (by rw [a1 2 (by omega),h2];rfl)
   (by
    rw [a1 3 (by omega),h3]
    unfold trB tpA
    by_cases hT:topsF il=[]<;>simp only [hT,Option.map_some,AO.thaw,List.map_cons,List.map_nil,AV.thaw,e8,e9,if_true,if_false])
   (fun h=>by rw [a1 900 (by omega),h9 h];rfl)
   (by
    rw [a1 8 (by omega),h8]
    simp only [Option.map_some,AO.thaw]
    rw [kidX_thaw il ds r t hd.1])
   (fun u hu=>by
    have:¬ u=t:=fun q=>hd.1 (q ▸ hu)
    rw [look_thawO,if_neg (by simp;omega),hr u (by simp [hu])]
    rfl)
  refine ⟨L',ReOk.trans q p1,p2,p3,p4,?_⟩
  rw [p5,List.append_assoc]
  rfl
theorem plKV_plain (il:List Itm):∀ ts:List Nat,Zbc ((kidP il ts).map fun p=>(p.1,AV.p p.2))=some (kidP il ts)
 |[]=>rfl
 |t :: r=>by
  have ih:=plKV_plain il r
  simp only [kidP,List.map_cons] at ih ⊢
  rw [Zbc,ih]
  rfl
theorem tree_end {E:Envt} {fr:List AV} {kv:List (List UInt8×PV)} {il:List Itm} {ts:List Nat} {L:Objs} (hfr:∀ k y,3 < k→fr.map (·.thaw (.l k) y)=fr) (hJ:TrJ kv il ts L):∃ L',ReOk E fr L fr L'∧TrD kv il ts L':=by
 obtain ⟨h2,h3,h9,h8,hl,hd,hk,hr⟩:=hJ
 obtain ⟨L1,q1,p2,p3,p4,p5⟩:=tree_frz (E:=E) (fr:=fr) (kv:=kv) (il:=il) (fun t y=>hfr _ y (by omega)) ts [] L hd h2 h3 h9 (by rw [h8];rfl) hr
 rw [List.nil_append,kidX,show kidR []=[] from rfl,List.append_nil] at p5
 have q2:=re_plainM (E:=E) (fr:=fr) p5 (plKV_plain il _)
 have q3:=re_map (E:=E) (fr:=fr) (L:=Zat L1 (.l 8) (.map (kidP il ts) tSt5 tSS)) (k:=.l 8) (kv:=kidP il ts) (kt:=tSt5) (et:=tSS) (by rw [look_putO,if_pos rfl])
 rw [hfr 8 _ (by omega)] at q3
 have a1:∀ n,n≠8→Zas (Zaw (.l 8) (.mpv ((kidP il ts).map (·.1)) ((kidP il ts).map (·.2))) (Zat L1 (.l 8) (.map (kidP il ts) tSt5 tSS))) (.l n)=(Zas L1 (.l n)).map (AO.thaw (.l 8) (.mpv ((kidP il ts).map (·.1)) ((kidP il ts).map (·.2)))):=by
  intro n hn
  rw [look_thawO,if_neg (by simp;omega),look_putO,if_neg (by simp;omega)]
 generalize hL2:Zaw (.l 8) _ (Zat L1 _ _)=L2 at q3 a1
 have b2:Zas L2 (.l 2)=some trZ:=by rw [a1 2 (by omega),p2];rfl
 have b3:Zas L2 (.l 3)=some (trB kv (.p (.mpv ((kidP il ts).map (·.1)) ((kidP il ts).map (·.2)))) (tpA il)):=by
  rw [a1 3 (by omega),p3]
  unfold trB tpA
  simp only [Option.map_some,AO.thaw,List.map_cons,List.map_nil,AV.thaw,if_true]
  have e9:¬ Key.l 900=Key.l 8:=by simp
  by_cases hT:topsF il=[]<;>simp only [hT,AV.thaw,e9,if_true,if_false]
 have q4:ReOk E fr L fr L2:=ReOk.trans q1 (ReOk.trans q2 q3)
 by_cases hT:topsF il=[]
 ·refine ⟨L2,q4,b2,?_,hl,hd,hk⟩
  rw [b3]
  unfold tpA tpD
  rw [if_pos hT,if_pos hT]
 ·have b9:Zas L2 (.l 900)=some (.row (strE (topsF il)) tSt5 1 true):=by rw [a1 900 (by omega),p4 hT];rfl
  have q5:=re_row (E:=E) (fr:=fr) b9
  rw [hfr 900 _ (by omega)] at q5
  refine ⟨_,ReOk.trans q4 q5,?_,?_,hl,hd,hk⟩
  ·rw [look_thawO,if_neg (by simp),b2];rfl
  ·rw [look_thawO,if_neg (by simp),b3]
   unfold trB tpA tpD
   rw [if_neg hT,if_neg hT]
   simp only [Option.map_some,AO.thaw,List.map_cons,List.map_nil,AV.thaw,if_true]
theorem tr_top {kv:List (List UInt8×PV)} {iw:List Itm} {x:Itm} {ts:List Nat} {L LL:Objs} (h:TrJ kv iw ts L) (hup:upOf x=[]) (h2:Zas LL (.l 2)=some trZ) (h3:Zas LL (.l 3)=some (trB kv (.mp (.l 8)) (.row (.l 900)))) (h9:Zas LL (.l 900)=some (.row (strE (topsF iw++[x.1])) tSt5 1 true)) (h8:Zas LL (.l 8)=some (.mapv (kidR ts) tSt5 tSS)) (hr:∀ t∈ts,Zas LL (.l (1000+t))=some (.row (strE (kidsF iw (pid t))) tSt5 1 true)):TrJ kv (iw++[x]) ts LL:=by
 have e1:topsF (iw++[x])=topsF iw++[x.1]:=by rw [topsF_snoc,if_pos hup]
 have e2:∀ t,kidsF (iw++[x]) (pid t)=kidsF iw (pid t):=fun t=>by rw [kidsF_snoc,if_neg (by rw [hup];exact fun q=>pid_ne t q.symm),List.append_nil]
 refine ⟨h2,?_,fun _=>by rw [e1];exact h9,h8,h.hl,h.hd,fun t ht=>by rw [e2];exact h.hk t ht,fun t ht=>by rw [e2];exact hr t ht⟩
 rw [h3,tpA,if_neg (by rw [e1];simp)]
theorem tr_kid {kv:List (List UInt8×PV)} {iw:List Itm} {x:Itm} {ts:List Nat} {L LL:Objs} {j:Nat} (h:TrJ kv iw ts L) (hj:j < 20) (hup:upOf x=pid j) {ts':List Nat} (hts:ts'=if j∈ts then ts else ts++[j]) (h2:Zas LL (.l 2)=some trZ) (h3:Zas LL (.l 3)=some (trB kv (.mp (.l 8)) (tpA iw))) (h9:topsF iw≠[]→Zas LL (.l 900)=some (.row (strE (topsF iw)) tSt5 1 true)) (h8:Zas LL (.l 8)=some (.mapv (kidR ts') tSt5 tSS)) (hrj:Zas LL (.l (1000+j))=some (.row (strE (kidsF iw (pid j)++[x.1])) tSt5 1 true)) (hr:∀ t∈ts,t≠j→Zas LL (.l (1000+t))=some (.row (strE (kidsF iw (pid t))) tSt5 1 true)):TrJ kv (iw++[x]) ts' LL:=by
 have e1:topsF (iw++[x])=topsF iw:=by rw [topsF_snoc,if_neg (by rw [hup];exact pid_ne j),List.append_nil]
 have e2:∀ t,t < 20→t≠j→kidsF (iw++[x]) (pid t)=kidsF iw (pid t):=fun t ht hn=>by rw [kidsF_snoc,if_neg (by rw [hup];exact fun q=>hn (pid_inj (by omega) (by omega) q).symm),List.append_nil]
 have e3:kidsF (iw++[x]) (pid j)=kidsF iw (pid j)++[x.1]:=by rw [kidsF_snoc,if_pos hup]
 have hl':∀ t∈ts',t < 20:=by
  intro t ht
  rw [hts] at ht
  split at ht
  ·exact h.hl t ht
  ·rcases List.mem_append.1 ht with q|q
   ·exact h.hl t q
   ·rw [List.mem_singleton] at q;omega
 have hm:∀ t,t∈ts'↔t∈ts∨t=j:=by
  intro t
  rw [hts]
  split
  ·rename_i hjt
   exact ⟨.inl,fun q=>q.elim id fun e=>e ▸ hjt⟩
  ·simp
 refine ⟨h2,?_,fun q=>by rw [e1] at q ⊢;exact h9 q,h8,hl',?_,?_,?_⟩
 ·rw [h3,tpA,tpA,e1]
 ·rw [hts]
  split
  ·exact h.hd
  ·rename_i hjt
   rw [List.nodup_append]
   exact ⟨h.hd,by simp,fun a ha b hb=>by rw [List.mem_singleton] at hb;intro q;exact hjt (by rw [← hb,← q];exact ha)⟩
 ·intro t ht
  rw [hm]
  by_cases e:t=j
  ·subst e
   rw [e3]
   simp
  ·rw [e2 t ht e,← h.hk t ht]
   simp [e]
 ·intro t ht
  by_cases e:t=j
  ·subst e
   rw [e3]
   exact hrj
  ·have:=(hm t).1 ht
   rw [e2 t (hl' t ht) e]
   exact hr t (this.resolve_right e) e
def ir_intake_tree_below_L0:IC:=(.seq (.reg [qO 16 (.bin .lss (.t 15) (.t 14))]) (.seq (.cond (.t 16) .skip (.exit 0)) (.seq (.block 1 (.seq (.reg [qO 17 (.ixa 1 (.t 13) (.t 15)),qO 18 (.ld 1 false (.t 17)),qM 7 18]) (.reg [qM 19 5,qO 20 (.ld 3 true (.t 2)),qM 21 7,qO 22 (.call 225 [.t 20,.t 21]),qO 23 (.app 9 1 16 (.t 19) (.t 22)),qM 5 23]))) (.reg [qO 24 (.bin .add (.t 15) (.c (.int .i64 1))),qM 15 24]))))
def ir_intake_tree_below:IC:=(.seq (.reg [qO 2 (.box 229 (.t 0)),qO 4 (.mov (.c (.nl 1)))]) (.seq (.reg [qM 8 1,qO 9 (.bsr 9 1 [.t 8]),qM 5 9]) (.seq (.seq (.reg [qO 10 (.fla 1 (.t 2)),qO 11 (.ld 1 false (.t 10)),qM 12 1,qO 13 (.mpl false (.nl 1) (.t 11) (.t 12)),qO 14 (.len (.t 13)),qO 15 (.mov (.c (.int .i64 0)))]) (.block 0 (.loop ir_intake_tree_below_L0))) (.seq (.reg [qM 25 5,qM 4 25]) .ret))))
def rs_intake_tree_below:List IRes:=[.t 4]
theorem ck_intake_tree_below:chkF Tryz.prog Tryz.f225 ir_intake_tree_below rs_intake_tree_below 26=true:=by kernel_rfl
def ir_intake_Families_L0:IC:=(.seq (.reg [qO 20 (.bin .lss (.t 19) (.t 18))]) (.seq (.cond (.t 20) .skip (.exit 0)) (.seq (.block 1 (.seq (.reg [qO 21 (.ixa 1 (.t 17) (.t 19)),qO 22 (.ld 1 false (.t 21)),qM 8 22]) (.reg [qM 23 6,qM 24 8,qO 25 (.ld 3 true (.t 5)),qM 26 8,qO 27 (.call 225 [.t 25,.t 26]),qO 28 (.bld [.str [],.nl 1] [(0,1,.t 24),(1,1,.t 27)]),qO 29 (.bsl 2 [.t 28]),qO 30 (.app 119 2 40 (.t 23) (.t 29)),qM 6 30]))) (.reg [qO 31 (.bin .add (.t 19) (.c (.int .i64 1))),qM 19 31]))))
def ir_intake_Families:IC:=(.seq (.reg [qO 2 (.mov (.c (.nl 2))),qO 3 (.mov (.c (.int .i64 0)))]) (.seq (.seq (.reg [qM 9 0,qO 10 (.call 77 [.t 9]),qM 4 10]) (.seq (.reg [qM 11 4,qO 12 (.bin .neq (.t 11) (.c (.int .i64 0)))]) (.cond (.t 12) (.seq (.reg [qM 13 4,qO 2 (.mov (.c (.nl 2))),qM 3 13]) .ret) .skip))) (.seq (.reg [qM 14 0,qO 15 (.call 224 [.t 14]),qO 5 (.alc 229 [.raw (.map none),.raw (.map none),.nl 1]),⟨none,.st 3 (.t 5) (.t 15),none⟩]) (.seq (.reg [qO 6 (.nilr 119 2)]) (.seq (.seq (.reg [qO 16 (.fla 2 (.t 5)),qO 17 (.ld 1 false (.t 16)),qO 18 (.len (.t 17)),qO 19 (.mov (.c (.int .i64 0)))]) (.block 0 (.loop ir_intake_Families_L0))) (.seq (.reg [qM 32 6,qM 2 32,qO 3 (.mov (.c (.int .i64 0)))]) .ret))))))
def rs_intake_Families:List IRes:=[.t 2,.t 3]
theorem ck_intake_Families:chkF Tryz.prog Tryz.f161 ir_intake_Families rs_intake_Families 33=true:=by kernel_rfl
section
variable {E:Envt}
set_option maxHeartbeats 4000000 in
theorem newTree_ok (il:List Itm) (hP:PapOk il):PCall Tryz.prog E 224 [.sl 7 (itE il)] (fun x=>∃ kv ts,x=.agg [.mpv (kv.map (·.1)) (kv.map (·.2)),.mpv ((kidP il ts).map (·.1)) ((kidP il ts).map (·.2)),.sl 1 (strE (topsF il))]∧MapIs kv il∧kv.length≤il.length∧(∀ t∈ts,t < 20)∧ts.Nodup∧∀ t,t < 20→(t∈ts↔kidsF il (pid t)≠[])):=by
 have h20:=hP.1
 refine pcallF mixed Tryz.func224 ck_intake_newTree ?_
 simp only [a0,l0,OS.ao,List.map_cons,List.map_nil,List.length_cons,List.length_nil,List.cons_append,List.nil_append,Nat.reduceSub,Nat.reduceAdd,List.replicate_succ,List.replicate_zero,ir_intake_newTree,rs_intake_newTree,ZZ,WW,Ze,reduceCtorEq,Nat.reduceAdd,Nat.reduceMul,Nat.reduceLeDiff,Nat.reduceLT,Nat.reduceEqDiff]
 refine use (byId_ok il (by omega)) rfl (.inl rfl) ?_
 rintro _ ⟨kv,rfl,hkv,hkn⟩
 simp only [ZZ,WW,Ze,reduceCtorEq,Nat.reduceAdd,Nat.reduceMul,Nat.reduceLeDiff,Nat.reduceLT,Nat.reduceEqDiff,itE_len,decide_false,Bool.or_self,Bool.false_eq_true]
 obtain ⟨J,hJ⟩:∃ J:Nat→Objs→Prop,J=fun k L=>(k < il.length∧∃ ts,TrJ kv (il.take k) ts L)∨(k=il.length∧∃ ts,TrD kv il ts L):=⟨_,rfl⟩
 have hfr:∀ (q k:Nat) (y:PV),3 < k→List.map (fun x:AV=>x.thaw (.l k) y) [.p (.sl 7 (itE il)),oo,.adr (.l 2) 0,.adr (.l 3) 0,oo,oo,oo,oo,oo,oo,.p (.sl 7 (itE il)),.p (int (il.length:Nat)),.p (int (q:Nat)),oo,oo,oo,oo,oo,oo,oo,oo,oo,oo,oo,oo,oo,oo,oo,oo,oo,oo,oo,oo,oo,oo,oo,oo,oo,oo,oo,oo]=[.p (.sl 7 (itE il)),oo,.adr (.l 2) 0,.adr (.l 3) 0,oo,oo,oo,oo,oo,oo,.p (.sl 7 (itE il)),.p (int (il.length:Nat)),.p (int (q:Nat)),oo,oo,oo,oo,oo,oo,oo,oo,oo,oo,oo,oo,oo,oo,oo,oo,oo,oo,oo,oo,oo,oo,oo,oo,oo,oo,oo,oo]:=by
  intro q k y hk
  have e2:(Key.l 2=Key.l k)=False:=by simp;omega
  have e3:(Key.l 3=Key.l k)=False:=by simp;omega
  simp only [List.map_cons,List.map_nil,AV.thaw,e2,e3,if_false]
 have hnx:∀ k L ts,k≤il.length→TrJ kv (il.take k) ts L→∃ L',ReOk E [.p (.sl 7 (itE il)),oo,.adr (.l 2) 0,.adr (.l 3) 0,oo,oo,oo,oo,oo,oo,.p (.sl 7 (itE il)),.p (int (il.length:Nat)),.p (int (k:Nat)),oo,oo,oo,oo,oo,oo,oo,oo,oo,oo,oo,oo,oo,oo,oo,oo,oo,oo,oo,oo,oo,oo,oo,oo,oo,oo,oo,oo] L [.p (.sl 7 (itE il)),oo,.adr (.l 2) 0,.adr (.l 3) 0,oo,oo,oo,oo,oo,oo,.p (.sl 7 (itE il)),.p (int (il.length:Nat)),.p (int (k:Nat)),oo,oo,oo,oo,oo,oo,oo,oo,oo,oo,oo,oo,oo,oo,oo,oo,oo,oo,oo,oo,oo,oo,oo,oo,oo,oo,oo,oo] L'∧J k L':=by
  intro k L ts hk h
  by_cases hkl:k < il.length
  ·exact ⟨L,ReOk.refl,by rw [hJ];exact .inl ⟨hkl,ts,h⟩⟩
  ·have hke:k=il.length:=by omega
   rw [List.take_of_length_le (by omega)] at h
   obtain ⟨L',r,hd⟩:=tree_end (E:=E) (hfr k) h
   exact ⟨L',r,by rw [hJ];exact .inr ⟨hke,ts,hd⟩⟩
 obtain ⟨L1,q1,q2⟩:=hnx 0 [(.l 2,trZ),(.l 8,.mapv (kidR []) tSt5 tSS),(.l 3,trB kv (.mp (.l 8)) (tpA (il.take 0)))] [] (by omega) ⟨rfl,rfl,fun h=>absurd rfl h,rfl,by simp,List.nodup_nil,fun t _=>by simp [kidsF],by simp⟩
 refine loop_re (fun m fr L=>∃ k,k≤il.length∧m=il.length - k∧fr=[.p (.sl 7 (itE il)),oo,.adr (.l 2) 0,.adr (.l 3) 0,oo,oo,oo,oo,oo,oo,.p (.sl 7 (itE il)),.p (int (il.length:Nat)),.p (int (k:Nat)),oo,oo,oo,oo,oo,oo,oo,oo,oo,oo,oo,oo,oo,oo,oo,oo,oo,oo,oo,oo,oo,oo,oo,oo,oo,oo,oo,oo]∧J k L) il.length [.p (.sl 7 (itE il)),oo,.adr (.l 2) 0,.adr (.l 3) 0,oo,oo,oo,oo,oo,oo,.p (.sl 7 (itE il)),.p (int (il.length:Nat)),.p (int (0:Nat)),oo,oo,oo,oo,oo,oo,oo,oo,oo,oo,oo,oo,oo,oo,oo,oo,oo,oo,oo,oo,oo,oo,oo,oo,oo,oo,oo,oo] L1 (ReOk.trans (re_le zF_) (ReOk.trans (re_mapv (k:=.l 8) rfl) q1)) ⟨0,by omega,by omega,rfl,q2⟩ ?_
 clear q1 q2 L1
 rintro m fr L ⟨k,hk,rfl,rfl,hj⟩
 simp only [ir_intake_newTree_L0,ZZ,WW,Ze,reduceCtorEq,Nat.reduceAdd,Nat.reduceMul,Nat.reduceLeDiff,Nat.reduceLT,Nat.reduceEqDiff]
 rw [hJ] at hj
 refine br ?_ ?_
 ·intro h
  have hlt:k < il.length:=by have:=of_decide_eq_true h;omega
  rcases hj with ⟨_,ts,hj⟩|⟨e,_⟩
  rotate_left
  ·omega
  obtain ⟨x,hx⟩:∃ x,il[k]?=some x:=⟨_,List.getElem?_eq_getElem hlt⟩
  have hg:=itE_get hx
  simp only [itC] at hg
  have hnx1:=fun L ts=>hnx (k+1) L ts (by omega)
  have hsn:il.take (k+1)=il.take k++[x]:=by rw [List.take_succ_eq_append_getElem hlt,(List.getElem?_eq_some_iff.1 hx).2]
  have hpx:=hP.2 k x hx
  obtain ⟨h2,h3,h9,h8,hl,hd,hkk,hr⟩:=hj
  rw [hsn] at hnx1
  have hiw:(il.take k).length≤20:=by rw [List.length_take];omega
  generalize il.take k=iw at *
  have hkw:=fun t=>kidsF_len iw (pid t)
  have htw:(topsF iw).length≤20:=Nat.le_trans (kidsF_len iw []) hiw
  simp only [trB] at h3
  rcases hpx.b6 with hup|⟨j,y,hj,hy,hu1,hu2,hup⟩
  ·by_cases hT:topsF iw=[]
   ·rw [tpA,if_pos hT] at h3
    simp only [ZZ,WW,Ze,reduceCtorEq,Nat.reduceAdd,Nat.reduceMul,Nat.reduceLeDiff,Nat.reduceLT,Nat.reduceEqDiff,hg,itE_len,h3,hup,look_updL,look_putO,look_killO,decide_true]
    ((repeat' (with_reducible apply And.intro))<;>try ((exact sc_)))
    refine cut_re _ _ ReOk.refl ?_
    simp only [ZZ,WW,Ze,reduceCtorEq,Nat.reduceAdd,Nat.reduceMul,Nat.reduceLeDiff,Nat.reduceLT,Nat.reduceEqDiff]
    ((repeat' (with_reducible apply And.intro))<;>try ((exact sc_)))
    generalize hLL:Zat (Zat (Zau (Key.l 24) _) (Key.l 24) _) (Key.l 3) _=LL
    have g:∀ n,n≠24→n≠5→n≠3→Zas LL (.l n)=((Zas L (.l n)).map (AO.kill (.l 5))).map (AO.kill (.l 24)):=by
     intro n a1 a2 a3
     rw [← hLL]
     simp only [look_putO,look_killO,Key.l.injEq,a1,a2,a3,Ne.symm a1,Ne.symm a2,Ne.symm a3,if_false]
    obtain ⟨L2,r2,hj2⟩:=hnx1 (mapO (r1 24 900) LL) ts (tr_top ⟨h2,by rw [h3,trB,tpA,if_pos hT],h9,h8,hl,hd,hkk,hr⟩ hup
     (by rw [look_ren1,if_neg (by first|(simp;done)|(simp;omega)),if_neg (by first|(simp;done)|(simp;omega)),g 2 (by omega) (by omega) (by omega),h2];rfl)
     (by rw [look_ren1,if_neg (by first|(simp;done)|(simp;omega)),if_neg (by first|(simp;done)|(simp;omega)),← hLL,look_putO,if_pos rfl];rfl)
     (by rw [look_ren1,if_pos rfl,hT,← hLL];simp only [look_putO,ZZ,WW,Ze,reduceCtorEq,Nat.reduceAdd,Nat.reduceMul,Nat.reduceLeDiff,Nat.reduceLT,Nat.reduceEqDiff];rfl)
     (by rw [look_ren1,if_neg (by first|(simp;done)|(simp;omega)),if_neg (by first|(simp;done)|(simp;omega)),g 8 (by omega) (by omega) (by omega),h8];simp only [Option.map_some,AO.kill,AO.ren];rw [kidR_kill ts (by omega),kidR_kill ts (by omega),kidR_ren ts (by omega) (by intro t _;omega)])
     (fun t ht=>by rw [look_ren1,if_neg (by first|(simp;done)|(simp;omega)),if_neg (by first|(simp;done)|(simp;omega)),g _ (by omega) (by omega) (by omega),hr t ht];rfl))
    refine end_re (il.length - (k+1)) [.p (.sl 7 (itE il)),oo,.adr (.l 2) 0,.adr (.l 3) 0,oo,oo,oo,oo,oo,oo,.p (.sl 7 (itE il)),.p (int (il.length:Nat)),.p (int (k+1:Nat)),oo,oo,oo,oo,oo,oo,oo,oo,oo,oo,oo,oo,oo,oo,oo,oo,oo,oo,oo,oo,oo,oo,oo,oo,oo,oo,oo,oo] L2 (by omega) (ReOk.trans (re_ren 24 900) (ReOk.trans (re_le (by simp only [AV.ren,r1,ZZ,WW,Ze,reduceCtorEq,Nat.reduceAdd,Nat.reduceMul,Nat.reduceLeDiff,Nat.reduceLT,Nat.reduceEqDiff];try trivial)) r2)) ⟨k+1,by omega,rfl,rfl,hj2⟩
   ·have h9:=h9 hT
    rw [tpA,if_neg hT] at h3
    simp only [ZZ,WW,Ze,reduceCtorEq,Nat.reduceAdd,Nat.reduceMul,Nat.reduceLeDiff,Nat.reduceLT,Nat.reduceEqDiff,hg,itE_len,h3,hup,h9,strE_len,look_updL,look_putO,look_killO,decide_true]
    ((repeat' (with_reducible apply And.intro))<;>try ((exact sc_)))
    refine cut_re _ _ ReOk.refl ?_
    simp only [ZZ,WW,Ze,reduceCtorEq,Nat.reduceAdd,Nat.reduceMul,Nat.reduceLeDiff,Nat.reduceLT,Nat.reduceEqDiff]
    ((repeat' (with_reducible apply And.intro))<;>try ((exact sc_)))
    generalize hLL:Zat (Zat (Zau (Key.l 900) _) (Key.l 900) _) (Key.l 3) _=LL
    have g:∀ n,n≠900→n≠5→n≠3→Zas LL (.l n)=((Zas L (.l n)).map (AO.kill (.l 5))).map (AO.kill (.l 900)):=by
     intro n a1 a2 a3
     rw [← hLL]
     simp only [look_putO,look_killO,Key.l.injEq,a1,a2,a3,Ne.symm a1,Ne.symm a2,Ne.symm a3,if_false]
    obtain ⟨L2,r2,hj2⟩:=hnx1 LL ts (tr_top ⟨h2,by rw [h3,trB,tpA,if_neg hT],fun _=>h9,h8,hl,hd,hkk,hr⟩ hup
     (by rw [g 2 (by omega) (by omega) (by omega),h2];rfl)
     (by rw [← hLL,look_putO,if_pos rfl];rfl)
     (by rw [← hLL,look_putO,if_neg (by first|(simp;done)|(simp;omega)),look_putO,if_pos rfl,strE_app];rfl)
     (by rw [g 8 (by omega) (by omega) (by omega),h8];simp only [Option.map_some,AO.kill];rw [kidR_kill ts (by omega),kidR_kill ts (by omega)])
     (fun t ht=>by rw [g _ (by omega) (by omega) (by omega),hr t ht];rfl))
    refine end_re (il.length - (k+1)) [.p (.sl 7 (itE il)),oo,.adr (.l 2) 0,.adr (.l 3) 0,oo,oo,oo,oo,oo,oo,.p (.sl 7 (itE il)),.p (int (il.length:Nat)),.p (int (k+1:Nat)),oo,oo,oo,oo,oo,oo,oo,oo,oo,oo,oo,oo,oo,oo,oo,oo,oo,oo,oo,oo,oo,oo,oo,oo,oo,oo,oo,oo] L2 (by omega) (ReOk.trans (re_le zF_) r2) ⟨k+1,by omega,rfl,rfl,hj2⟩
  ·have hj20:j < 20:=by omega
   have hlm:mpF (kidR ts) (pid j)=if j∈ts then some (.row (.l (1000+j))) else none:=kidR_get hl hj20
   have hpn:¬ pid j=[]:=pid_ne j
   have hk5:=kidR_kill ts (n:=5) (by omega)
   have n2:(2=1000+j)=False:=by simp;omega
   have m2:(1000+j=2)=False:=by simp;omega
   have n3:(3=1000+j)=False:=by simp;omega
   have m3:(1000+j=3)=False:=by simp;omega
   have n5:(5=1000+j)=False:=by simp;omega
   have m5:(1000+j=5)=False:=by simp;omega
   have n9:(900=1000+j)=False:=by simp;omega
   have n8:(8=1000+j)=False:=by simp;omega
   have m8:(1000+j=8)=False:=by simp;omega
   by_cases hjt:j∈ts
   ·rw [if_pos hjt] at hlm
    have hrj:=hr j hjt
    have hkK:=kidR_kill2 hl hj20 hjt hd
    have hkj:=hkw j
    simp only [ZZ,WW,Ze,reduceCtorEq,Nat.reduceAdd,Nat.reduceMul,Nat.reduceLeDiff,Nat.reduceLT,Nat.reduceEqDiff,hg,itE_len,h3,hup,h8,hlm,hrj,hpn,strE_len,look_updL,look_putO,look_killO,decide_false]
    ((repeat' (with_reducible apply And.intro))<;>try ((exact sc_)))
    refine ⟨[],?_⟩
    simp only [ZZ,WW,Ze,reduceCtorEq,Nat.reduceAdd,Nat.reduceMul,Nat.reduceLeDiff,Nat.reduceLT,Nat.reduceEqDiff,h3,h8,hlm,hrj,strE_len,look_updL,look_putO,look_killO,hk5,hkK,Option.getD_some,n2,n3,n5,n8,m2,m3,m5,m8]
    refine ⟨by omega,?_⟩
    refine cut_re _ _ ReOk.refl ?_
    simp only [ZZ,WW,Ze,reduceCtorEq,Nat.reduceAdd,Nat.reduceMul,Nat.reduceLeDiff,Nat.reduceLT,Nat.reduceEqDiff]
    ((repeat' (with_reducible apply And.intro))<;>try ((exact sc_)))
    generalize hLL:Zat (Zat (Zau (Key.l (1000+j)) _) (Key.l (1000+j)) _) (Key.l 8) _=LL
    have g:∀ n,n≠1000+j→n≠5→n≠8→Zas LL (.l n)=((Zas L (.l n)).map (AO.kill (.l 5))).map (AO.kill (.l (1000+j))):=by
     intro n a1 a2 a3
     rw [← hLL]
     simp only [look_putO,look_killO,Key.l.injEq,a1,a2,a3,Ne.symm a1,Ne.symm a2,Ne.symm a3,if_false]
    have e8:(Key.l 8=Key.l (1000+j))=False:=by simp;omega
    have e9:(Key.l 900=Key.l (1000+j))=False:=by simp;omega
    obtain ⟨L2,r2,hj2⟩:=hnx1 LL ts (tr_kid ⟨h2,h3,h9,h8,hl,hd,hkk,hr⟩ hj20 hup (by rw [if_pos hjt])
     (by rw [g 2 (by omega) (by omega) (by omega),h2];rfl)
     (by rw [g 3 (by omega) (by omega) (by omega),h3];unfold trB tpA;by_cases hT:topsF iw=[]<;>simp only [hT,Option.map_some,AO.kill,List.map_cons,List.map_nil,AV.kill,e8,e9,if_true,if_false,Key.l.injEq,Nat.reduceEqDiff])
     (fun q=>by rw [g 900 (by omega) (by omega) (by omega),h9 q];rfl)
     (by rw [← hLL,look_putO,if_pos rfl])
     (by rw [← hLL,look_putO,if_neg (by first|(simp;done)|(simp;omega)),look_putO,if_pos rfl,strE_app];rfl)
     (fun t ht hn=>by rw [g _ (by omega) (by omega) (by omega),hr t ht];rfl))
    refine end_re (il.length - (k+1)) [.p (.sl 7 (itE il)),oo,.adr (.l 2) 0,.adr (.l 3) 0,oo,oo,oo,oo,oo,oo,.p (.sl 7 (itE il)),.p (int (il.length:Nat)),.p (int (k+1:Nat)),oo,oo,oo,oo,oo,oo,oo,oo,oo,oo,oo,oo,oo,oo,oo,oo,oo,oo,oo,oo,oo,oo,oo,oo,oo,oo,oo,oo] L2 (by omega) (ReOk.trans (re_le zF_) r2) ⟨k+1,by omega,rfl,rfl,hj2⟩
   ·rw [if_neg hjt] at hlm
    have hk38:=kidR_kill ts (n:=38) (by omega)
    have hkP:=kidR_put (.row (.l 38)) hl hj20 hjt
    simp only [ZZ,WW,Ze,reduceCtorEq,Nat.reduceAdd,Nat.reduceMul,Nat.reduceLeDiff,Nat.reduceLT,Nat.reduceEqDiff,hg,itE_len,h3,hup,h8,hlm,hpn,strE_len,look_updL,look_putO,look_killO,decide_false]
    ((repeat' (with_reducible apply And.intro))<;>try ((exact sc_)))
    refine ⟨[],?_⟩
    simp only [ZZ,WW,Ze,reduceCtorEq,Nat.reduceAdd,Nat.reduceMul,Nat.reduceLeDiff,Nat.reduceLT,Nat.reduceEqDiff,h3,h8,hlm,strE_len,look_updL,look_putO,look_killO,hk5,hk38,hkP,Option.getD_none]
    refine cut_re _ _ ReOk.refl ?_
    simp only [ZZ,WW,Ze,reduceCtorEq,Nat.reduceAdd,Nat.reduceMul,Nat.reduceLeDiff,Nat.reduceLT,Nat.reduceEqDiff]
    ((repeat' (with_reducible apply And.intro))<;>try ((exact sc_)))
    generalize hLL:Zat (Zat (Zau (Key.l 38) _) (Key.l 38) _) (Key.l 8) _=LL
    have g:∀ n,n≠38→n≠5→n≠8→Zas LL (.l n)=((Zas L (.l n)).map (AO.kill (.l 5))).map (AO.kill (.l 38)):=by
     intro n a1 a2 a3
     rw [← hLL]
     simp only [look_putO,look_killO,Key.l.injEq,a1,a2,a3,Ne.symm a1,Ne.symm a2,Ne.symm a3,if_false]
    have hne:∀ t∈ts,¬ t=j:=fun t ht e=>hjt (e ▸ ht)
    have hk0:kidsF iw (pid j)=[]:=Classical.byContradiction fun q=>hjt ((hkk j hj20).2 q)
    obtain ⟨L2,r2,hj2⟩:=hnx1 (mapO (r1 38 (1000+j)) LL) (ts++[j]) (tr_kid ⟨h2,h3,h9,h8,hl,hd,hkk,hr⟩ hj20 hup (by rw [if_neg hjt])
     (by rw [look_ren1,if_neg (by first|(simp;done)|(simp;omega)),if_neg (by first|(simp;done)|(simp;omega)),g 2 (by omega) (by omega) (by omega),h2];rfl)
     (by rw [look_ren1,if_neg (by first|(simp;done)|(simp;omega)),if_neg (by first|(simp;done)|(simp;omega)),g 3 (by omega) (by omega) (by omega),h3];unfold trB tpA;by_cases hT:topsF iw=[]<;>simp only [hT,Option.map_some,AO.kill,AO.ren,List.map_cons,List.map_nil,AV.kill,AV.ren,r1,n8,n9,Key.l.injEq,Nat.reduceEqDiff,if_true,if_false])
     (fun q=>by rw [look_ren1,if_neg (by first|(simp;done)|(simp;omega)),if_neg (by first|(simp;done)|(simp;omega)),g 900 (by omega) (by omega) (by omega),h9 q];rfl)
     (by
      rw [look_ren1,if_neg (by first|(simp;done)|(simp;omega)),if_neg (by first|(simp;done)|(simp;omega)),← hLL,look_putO,if_pos rfl]
      simp only [Option.map_some,AO.ren,List.map_append,List.map_cons,List.map_nil]
      rw [kidR_ren ts (by omega) (fun t ht e=>hne t ht (by omega))]
      simp only [kidR,List.map_append,List.map_cons,List.map_nil,AV.ren,r1,if_true])
     (by rw [look_ren1,if_pos rfl,hk0,← hLL];simp only [look_putO,ZZ,WW,Ze,reduceCtorEq,Nat.reduceAdd,Nat.reduceMul,Nat.reduceLeDiff,Nat.reduceLT,Nat.reduceEqDiff];rfl)
     (fun t ht hn=>by rw [look_ren1,if_neg (by first|(simp;done)|(simp;omega)),if_neg (by first|(simp;done)|(simp;omega)),g _ (by omega) (by omega) (by omega),hr t ht];rfl))
    refine end_re (il.length - (k+1)) [.p (.sl 7 (itE il)),oo,.adr (.l 2) 0,.adr (.l 3) 0,oo,oo,oo,oo,oo,oo,.p (.sl 7 (itE il)),.p (int (il.length:Nat)),.p (int (k+1:Nat)),oo,oo,oo,oo,oo,oo,oo,oo,oo,oo,oo,oo,oo,oo,oo,oo,oo,oo,oo,oo,oo,oo,oo,oo,oo,oo,oo,oo] L2 (by omega) (ReOk.trans (re_ren 38 (1000+j)) (ReOk.trans (re_le (by simp only [AV.ren,r1,n2,n3,ZZ,WW,Ze,reduceCtorEq,Nat.reduceAdd,Nat.reduceMul,Nat.reduceLeDiff,Nat.reduceLT,Nat.reduceEqDiff];try trivial)) r2)) ⟨k+1,by omega,rfl,rfl,hj2⟩
 ·intro h
  have hge:k=il.length:=by have:=of_decide_eq_false h;omega
  rcases hj with ⟨e,_⟩|⟨_,ts,hj⟩
  ·omega
  subst hge
  obtain ⟨h2,h3,hl,hd,hkk⟩:=hj
  have htl:(topsF il).length≤20:=Nat.le_trans (kidsF_len il []) h20
  by_cases hT:topsF il=[]
  ·simp only [trB,tpD,if_pos hT] at h3
   simp only [ZZ,WW,Ze,reduceCtorEq,Nat.reduceAdd,Nat.reduceMul,Nat.reduceLeDiff,Nat.reduceLT,Nat.reduceEqDiff,h3,h2,trZ,look_putO]
   exact ⟨kv,ts,by rw [hT];rfl,hkv,hkn,hl,hd,hkk⟩
  ·simp only [trB,tpD,if_neg hT] at h3
   simp only [ZZ,WW,Ze,reduceCtorEq,Nat.reduceAdd,Nat.reduceMul,Nat.reduceLeDiff,Nat.reduceLT,Nat.reduceEqDiff,h3,h2,trZ,look_putO]
   exact ⟨kv,ts,rfl,hkv,hkn,hl,hd,hkk⟩
end
theorem var_block {P:Program} {w w':World} {n:String} {g:Nat} (hg:P.globalNamed n=some g) (hb:w'.heap[g]?=w.heap[g]?):w'.var? P n=w.var? P n:=by
 simp only [World.var?,hg,Option.bind_some,hb]
theorem grow_seq (w:World) (k:Nat) (os:Array Obj):Grow w (Sort.grow (w.drewN k) os) (fun _=>False):=⟨rfl,rfl,rfl,by simp [Sort.grow,World.drewN],fun b hb _=>by simp [Sort.grow,World.drewN,Array.getElem?_append_left hb]⟩
def notCap (c:UInt8):Bool:=decide ((c.toNat:Int) < 65) || decide ((90:Int) < (c.toNat:Int))
def isPreF (s:List UInt8):Bool:=(s.all fun c=>!notCap c) && inE s.length 1 8
def headF (p:List UInt8) (d:Int):Int:=firstE [whenE (!isPreF p) 3,whenE (!inE d 4 9) 1]
def powF (d:Int):Int:=(10:Int) ^ d.toNat
def writG (it:Int→List UInt8) (p:List UInt8) (d n:Int):List UInt8:=p++Lib.repeatL [48] (max 0 (d - (it n).length)).toNat++it n
def numG (it:Int→List UInt8) (p:List UInt8) (d n:Int):List UInt8×Int:=if headF p d=0 then (if inE n 1 (powF d - 1)=true then (writG it p d n,0) else ([],1)) else ([],headF p d)
def preOf (s:List UInt8):Bool:=(decide ((1:Int)≤s.length) && decide ((s.length:Int)≤8)) && madeF s capL
def nfF (p:List UInt8) (d:Int):Int:=if preOf p=true then (if (decide (d < 4) || decide (9 < d))=true then 1 else 0) else 3
def dd:Nat→Nat→List UInt8
 |0,_=>[]
 |f+1,u=>if u < 10 then [UInt8.ofNat (48+u)] else dd f (u / 10)++[UInt8.ofNat (48+u % 10)]
theorem dd_eq:∀ (f u:Nat),u < 10 ^ f→0 < f→Lib.decDigits u=dd f u
 |0,u,_,h=>absurd h (by decide)
 |f+1,u,h,_=>by
  rw [Lib.decDigits,dd]
  by_cases hu:u < 10
  ·rw [dif_pos hu,if_pos hu]
  ·rw [dif_neg hu,if_neg hu]
   have hf:0 < f:=by
    rcases Nat.eq_zero_or_pos f with rfl|h'
    ·simp at h;omega
    ·exact h'
   rw [dd_eq f (u / 10) (by rw [Nat.pow_succ] at h;omega) hf]
def itD (n:Int):List UInt8:=if n < 0 then 45 :: dd 12 n.natAbs else dd 12 n.toNat
theorem itD_eq {n:Int} (h0:-100000000000≤n) (h1:n≤100000000000):Lib.itoa n=itD n:=by
 unfold Lib.itoa itD
 split
 ·rw [dd_eq 12 _ (by omega) (by decide)]
 ·rw [dd_eq 12 _ (by omega) (by decide)]
theorem powF_bd {d:Int} (h:d≤9):1≤powF d∧powF d≤1000000000:=by
 unfold powF
 have h1:(10:Nat) ^ d.toNat≤10 ^ 9:=Nat.pow_le_pow_right (by decide) (by omega)
 have h2:1≤(10:Nat) ^ d.toNat:=Nat.one_le_pow _ _ (by decide)
 have h3:((10:Int) ^ d.toNat)=(((10:Nat) ^ d.toNat:Nat):Int):=by simp
 rw [h3]
 omega
theorem headF_zero {p:List UInt8} {d:Int} (h:headF p d=0):4≤d∧d≤9∧p.length≤8:=by
 have hm:=firstE_mem h
 have h1:=hm (whenE (!isPreF p) 3) (by simp)
 have h2:=hm (whenE (!inE d 4 9) 1) (by simp)
 unfold whenE at h1 h2
 split at h1
 ·cases h1
 split at h2
 ·cases h2
 rename_i a1 a2
 simp only [Bool.not_eq_true',Bool.not_eq_false] at a1 a2
 simp only [isPreF,inE,Bool.and_eq_true,decide_eq_true_eq] at a1 a2
 omega
theorem numG_it {p:List UInt8} {d n:Int} (h0:-100≤n) (h1:n≤1000000000):numG Lib.itoa p d n=numG itD p d n:=by
 unfold numG writG
 rw [itD_eq (by omega) (by omega)]
def ir_produce_power_L0:IC:=(.seq (.reg [qO 6 (.bin .lss (.t 5) (.t 4))]) (.seq (.cond (.t 6) .skip (.exit 0)) (.seq (.block 1 (.reg [qM 7 3,qO 8 (.bin .mul (.t 7) (.c (.int .i64 10))),qM 3 8])) (.reg [qO 9 (.bin .add (.t 5) (.c (.int .i64 1))),qM 5 9]))))
def ir_produce_power:IC:=(.seq (.reg [qO 2 (.mov (.c (.int .i64 0)))]) (.seq (.reg [qO 3 (.mov (.c (.int .i64 1)))]) (.seq (.seq (.reg [qM 4 0,qO 5 (.mov (.c (.int .i64 0)))]) (.block 0 (.loop ir_produce_power_L0))) (.seq (.reg [qM 10 3,qM 2 10]) .ret))))
def rs_produce_power:List IRes:=[.t 2]
theorem ck_produce_power:chkF Tryz.prog Tryz.f54 ir_produce_power rs_produce_power 11=true:=by kernel_rfl
def ir_produce_isPrefix_L0:IC:=(.seq (.reg [qO 7 (.bin .lss (.t 6) (.t 5))]) (.seq (.cond (.t 7) .skip (.exit 0)) (.seq (.block 1 (.seq (.reg [qM 8 6,qM 3 8]) (.seq (.reg [qM 9 0,qM 10 3,qO 11 (.idx (.t 9) (.t 10)),qO 12 (.bin .lss (.t 11) (.c (.int .u8 65))),qM 13 12,⟨some 14,.mov (.t 0),(some (13,false))⟩,⟨some 15,.mov (.t 3),(some (13,false))⟩,⟨some 16,.idx (.t 14) (.t 15),(some (13,false))⟩,⟨some 17,.bin .gtr (.t 16) (.c (.int .u8 90)),(some (13,false))⟩,qO 18 (.pick (.t 13) (.c (.bool true)) (.t 17))]) (.cond (.t 18) (.seq (.reg [qO 2 (.mov (.c (.bool false)))]) .ret) .skip)))) (.reg [qO 19 (.bin .add (.t 6) (.c (.int .i64 1))),qM 6 19]))))
def ir_produce_isPrefix:IC:=(.seq (.reg [qO 2 (.mov (.c (.bool false)))]) (.seq (.seq (.reg [qM 4 0,qO 5 (.sln (.t 4)),qO 6 (.mov (.c (.int .i64 0)))]) (.block 0 (.loop ir_produce_isPrefix_L0))) (.seq (.reg [qM 20 0,qO 21 (.sln (.t 20)),qO 22 (.call 51 [.t 21,.c (.int .i64 1),.c (.int .i64 8)]),qM 2 22]) .ret)))
def rs_produce_isPrefix:List IRes:=[.t 2]
theorem ck_produce_isPrefix:chkF Tryz.prog Tryz.f137 ir_produce_isPrefix rs_produce_isPrefix 23=true:=by kernel_rfl
def ir_produce_headError:IC:=(.seq (.reg [qO 4 (.mov (.c (.int .i64 0)))]) (.seq (.reg [qM 5 0,qO 6 (.call 137 [.t 5]),qO 7 (.not (.t 6)),qO 8 (.call 50 [.t 7,.c (.int .i64 3)]),qM 9 1,qO 10 (.call 51 [.t 9,.c (.int .i64 4),.c (.int .i64 9)]),qO 11 (.not (.t 10)),qO 12 (.call 50 [.t 11,.c (.int .i64 1)]),qO 13 (.bsl 1 [.t 8,.t 12]),qO 14 (.call 49 [.t 13]),qM 4 14]) .ret))
def rs_produce_headError:List IRes:=[.t 4]
theorem ck_produce_headError:chkF Tryz.prog Tryz.f52 ir_produce_headError rs_produce_headError 15=true:=by kernel_rfl
def ir_produce_written:IC:=(.seq (.reg [qO 6 (.mov (.c (.str [])))]) (.seq (.reg [qM 8 2,qO 9 (.call 188 [.t 8]),qM 7 9]) (.seq (.reg [qM 10 0,qM 11 1,qM 12 7,qO 13 (.sln (.t 12)),qO 14 (.bin .sub (.t 11) (.t 13)),qO 15 (.mx (.c (.int .i64 0)) (.t 14)),qO 16 (.call 44 [.c (.str [48]),.t 15]),qO 17 (.bin .add (.t 10) (.t 16)),qM 18 7,qO 19 (.bin .add (.t 17) (.t 18)),qM 6 19]) .ret)))
def rs_produce_written:List IRes:=[.t 6]
theorem ck_produce_written:chkF Tryz.prog Tryz.f148 ir_produce_written rs_produce_written 20=true:=by kernel_rfl
def ir_produce_Number:IC:=(.seq (.reg [qO 6 (.mov (.c (.str []))),qO 7 (.mov (.c (.int .i64 0)))]) (.seq (.seq (.reg [qM 9 0,qM 10 1,qO 11 (.call 52 [.t 9,.t 10]),qM 8 11]) (.seq (.reg [qM 12 8,qO 13 (.bin .neq (.t 12) (.c (.int .i64 0)))]) (.cond (.t 13) (.seq (.reg [qM 14 8,qO 6 (.mov (.c (.str []))),qM 7 14]) .ret) .skip))) (.seq (.seq (.reg [qM 15 2,qM 16 1,qO 17 (.call 54 [.t 16]),qO 18 (.bin .sub (.t 17) (.c (.int .i64 1))),qO 19 (.call 51 [.t 15,.c (.int .i64 1),.t 18]),qO 20 (.not (.t 19))]) (.cond (.t 20) (.seq (.reg [qO 6 (.mov (.c (.str []))),qO 7 (.mov (.c (.int .i64 1)))]) .ret) .skip)) (.seq (.reg [qM 21 0,qM 22 1,qM 23 2,qO 24 (.call 148 [.t 21,.t 22,.t 23]),qM 6 24,qO 7 (.mov (.c (.int .i64 0)))]) .ret))))
def rs_produce_Number:List IRes:=[.t 6,.t 7]
theorem ck_produce_Number:chkF Tryz.prog Tryz.f64 ir_produce_Number rs_produce_Number 25=true:=by kernel_rfl
def ir_chaselaw1_produces:IC:=(.seq (.reg [qO 0 (.mov (.c (.bool false)))]) (.seq (.reg [qO 4 (.call 64 [.c (.str [65,66]),.c (.int .i64 4),.c (.int .i64 7)]),qM 3 4,qO 5 (.ext 0 (.t 3)),qO 6 (.ext 1 (.t 3)),qM 1 5,qM 2 6]) (.seq (.reg [qM 7 2,qO 8 (.bin .eql (.t 7) (.c (.int .i64 0))),qM 9 8,⟨some 10,.mov (.t 1),(some (9,true))⟩,⟨some 11,.bin .eql (.t 10) (.c (.str [65,66,48,48,48,55])),(some (9,true))⟩,qO 12 (.pick (.t 9) (.t 11) (.c (.bool false))),qM 0 12]) .ret)))
def rs_chaselaw1_produces:List IRes:=[.t 0]
theorem ck_chaselaw1_produces:chkF Tryz.prog Tryz.f14 ir_chaselaw1_produces rs_chaselaw1_produces 13=true:=by kernel_rfl
def ir_chaseref1_prefixOf:IC:=(.seq (.reg [qO 2 (.mov (.c (.bool false)))]) (.seq (.reg [qM 3 0,qO 4 (.sln (.t 3)),qO 5 (.bin .geq (.t 4) (.c (.int .i64 1))),qM 6 5,⟨some 7,.mov (.t 0),(some (6,true))⟩,⟨some 8,.sln (.t 7),(some (6,true))⟩,⟨some 9,.bin .leq (.t 8) (.c (.int .i64 8)),(some (6,true))⟩,qO 10 (.pick (.t 6) (.t 9) (.c (.bool false))),qM 11 10,⟨some 12,.mov (.t 0),(some (11,true))⟩,⟨some 13,.call 143 [.t 12,.c (.str [65,66,67,68,69,70,71,72,73,74,75,76,77,78,79,80,81,82,83,84,85,86,87,88,89,90])],(some (11,true))⟩,qO 14 (.pick (.t 11) (.t 13) (.c (.bool false))),qM 2 14]) .ret))
def rs_chaseref1_prefixOf:List IRes:=[.t 2]
theorem ck_chaseref1_prefixOf:chkF Tryz.prog Tryz.f142 ir_chaseref1_prefixOf rs_chaseref1_prefixOf 15=true:=by kernel_rfl
def ir_chaseref1_numbersFault:IC:=(.seq (.reg [qO 4 (.mov (.c (.int .i64 0)))]) (.seq (.seq (.reg [qM 5 0,qO 6 (.call 142 [.t 5]),qO 7 (.not (.t 6))]) (.cond (.t 7) (.seq (.reg [qO 4 (.mov (.c (.int .i64 3)))]) .ret) .skip)) (.seq (.seq (.reg [qM 8 1,qO 9 (.bin .lss (.t 8) (.c (.int .i64 4))),qM 10 9,⟨some 11,.mov (.t 1),(some (10,false))⟩,⟨some 12,.bin .gtr (.t 11) (.c (.int .i64 9)),(some (10,false))⟩,qO 13 (.pick (.t 10) (.c (.bool true)) (.t 12))]) (.cond (.t 13) (.seq (.reg [qO 4 (.mov (.c (.int .i64 1)))]) .ret) .skip)) (.seq (.reg [qO 4 (.mov (.c (.int .i64 0)))]) .ret))))
def rs_chaseref1_numbersFault:List IRes:=[.t 4]
theorem ck_chaseref1_numbersFault:chkF Tryz.prog Tryz.f56 ir_chaseref1_numbersFault rs_chaseref1_numbersFault 14=true:=by kernel_rfl
section
variable {E:Envt}
theorem pow_at {i:Nat} (h:i≤9):1≤(10:Int) ^ i∧(10:Int) ^ i≤1000000000:=by
 have:=powF_bd (d:=(i:Int)) (by omega)
 simpa [powF] using this
theorem power_ok (d:Int) (h0:0≤d) (h:d≤9):PCall Tryz.prog E 54 [int d] (·=int (powF d)):=by
 obtain ⟨m,rfl⟩:=Int.eq_ofNat_of_zero_le h0
 refine pcallF mixed Tryz.func54 ck_produce_power ?_
 simp only [a0,l0,OS.ao,List.map_cons,List.map_nil,List.length_cons,List.length_nil,List.cons_append,List.nil_append,Nat.reduceSub,Nat.reduceAdd,List.replicate_succ,List.replicate_zero,ir_produce_power,rs_produce_power,ZZ,WW,Ze,reduceCtorEq,Nat.reduceAdd,Nat.reduceMul,Nat.reduceLeDiff,Nat.reduceLT,Nat.reduceEqDiff]
 refine loop_intro (fun n fr L=>∃ (k:Nat),k≤m∧n=m - k∧fr=[oo,oo,oo,.p (int ((10:Int) ^ k)),.p (int (m:Nat)),.p (int (k:Nat)),oo,oo,oo,oo,oo]∧L=[]) (m) [oo,oo,oo,.p (int ((10:Int) ^ 0)),.p (int (m:Nat)),.p (int (0:Nat)),oo,oo,oo,oo,oo] [] (by (simp only [ZZ,WW,Ze,reduceCtorEq,Nat.reduceAdd,Nat.reduceMul,Nat.reduceLeDiff,Nat.reduceLT,Nat.reduceEqDiff];try trivial)) (by (simp only [ZZ,WW,Ze,reduceCtorEq,Nat.reduceAdd,Nat.reduceMul,Nat.reduceLeDiff,Nat.reduceLT,Nat.reduceEqDiff];try trivial)) ⟨0,by omega,by omega,rfl,rfl⟩ ?_
 rintro n fr L ⟨k,hk,rfl,rfl,rfl⟩
 simp only [ir_produce_power_L0,ZZ,WW,Ze,reduceCtorEq,Nat.reduceAdd,Nat.reduceMul,Nat.reduceLeDiff,Nat.reduceLT,Nat.reduceEqDiff]
 refine br ?_ ?_
 ·intro h2
  have hlt:k < m:=by have:=of_decide_eq_true h2;omega
  have hb:=pow_at (i:=k) (by omega)
  have hp:(10:Int) ^ (k+1)=(10:Int) ^ k * 10:=by rw [Int.pow_succ]
  simp only [ZZ,WW,Ze,reduceCtorEq,Nat.reduceAdd,Nat.reduceMul,Nat.reduceLeDiff,Nat.reduceLT,Nat.reduceEqDiff]
  ((repeat' (with_reducible apply And.intro))<;>try ((exact sc_)))
  refine end_round (m - (k+1)) [oo,oo,oo,.p (int ((10:Int) ^ (k+1))),.p (int (m:Nat)),.p (int ((k+1):Nat)),oo,oo,oo,oo,oo] [] (by omega) (by (simp only [ZZ,WW,Ze,reduceCtorEq,Nat.reduceAdd,Nat.reduceMul,Nat.reduceLeDiff,Nat.reduceLT,Nat.reduceEqDiff];try trivial)) zE_ ⟨k+1,by omega,rfl,rfl,rfl⟩
 ·intro h2
  have hge:k=m:=by have:=of_decide_eq_false h2;omega
  subst hge
  simp only [ZZ,WW,Ze,reduceCtorEq,Nat.reduceAdd,Nat.reduceMul,Nat.reduceLeDiff,Nat.reduceLT,Nat.reduceEqDiff]
  rfl
theorem isPrefix_ok (s:List UInt8) (hs:s.length≤1000000000):PCall Tryz.prog E 137 [.str s] (·=.bool (isPreF s)):=by
 refine pcallF mixed Tryz.func137 ck_produce_isPrefix ?_
 simp only [a0,l0,OS.ao,List.map_cons,List.map_nil,List.length_cons,List.length_nil,List.cons_append,List.nil_append,Nat.reduceSub,Nat.reduceAdd,List.replicate_succ,List.replicate_zero,ir_produce_isPrefix,rs_produce_isPrefix,ZZ,WW,Ze,reduceCtorEq,Nat.reduceAdd,Nat.reduceMul,Nat.reduceLeDiff,Nat.reduceLT,Nat.reduceEqDiff]
 refine loop_intro (fun n fr L=>∃ (k:Nat),k≤s.length∧n=s.length - k∧((s.take k).all (fun c=>!notCap c)=true)∧fr=[.p (.str s),oo,oo,oo,oo,.p (int (s.length:Nat)),.p (int (k:Nat)),oo,oo,oo,oo,oo,oo,oo,oo,oo,oo,oo,oo,oo,oo,oo,oo]∧L=[]) (s.length) [.p (.str s),oo,oo,oo,oo,.p (int (s.length:Nat)),.p (int (0:Nat)),oo,oo,oo,oo,oo,oo,oo,oo,oo,oo,oo,oo,oo,oo,oo,oo] [] (by (simp only [ZZ,WW,Ze,reduceCtorEq,Nat.reduceAdd,Nat.reduceMul,Nat.reduceLeDiff,Nat.reduceLT,Nat.reduceEqDiff];try trivial)) (by (simp only [ZZ,WW,Ze,reduceCtorEq,Nat.reduceAdd,Nat.reduceMul,Nat.reduceLeDiff,Nat.reduceLT,Nat.reduceEqDiff];try trivial)) ⟨0,by omega,by omega,by simp,rfl,rfl⟩ ?_
 rintro n fr L ⟨k,hk,rfl,hall,rfl,rfl⟩
 simp only [ir_produce_isPrefix_L0,ZZ,WW,Ze,reduceCtorEq,Nat.reduceAdd,Nat.reduceMul,Nat.reduceLeDiff,Nat.reduceLT,Nat.reduceEqDiff]
 refine br ?_ ?_
 ·intro h2
  have hlt:k < s.length:=by have:=of_decide_eq_true h2;omega
  have hx:s[k]?=some (s.getD k 0):=by rw [List.getElem?_eq_getElem hlt];simp [List.getD,hlt]
  have hnx:=all_take (p:=fun c=>!notCap c) hx
  simp only [ZZ,WW,Ze,reduceCtorEq,Nat.reduceAdd,Nat.reduceMul,Nat.reduceLeDiff,Nat.reduceLT,Nat.reduceEqDiff]
  ((repeat' (with_reducible apply And.intro))<;>try ((exact sc_)))
  refine br ?_ ?_
  ·intro hb
   have hf:s.all (fun c=>!notCap c)=false:=by
    rw [List.all_eq_false]
    refine ⟨s.getD k 0,List.mem_of_getElem? hx,?_⟩
    rw [show notCap (s.getD k 0)=true from hb]
    simp
   simp only [ZZ,WW,Ze,reduceCtorEq,Nat.reduceAdd,Nat.reduceMul,Nat.reduceLeDiff,Nat.reduceLT,Nat.reduceEqDiff]
   rw [isPreF,hf,Bool.false_and]
  ·intro hb
   simp only [ZZ,WW,Ze,reduceCtorEq,Nat.reduceAdd,Nat.reduceMul,Nat.reduceLeDiff,Nat.reduceLT,Nat.reduceEqDiff]
   ((repeat' (with_reducible apply And.intro))<;>try ((exact sc_)))
   refine end_round (s.length - (k+1)) [.p (.str s),oo,oo,oo,oo,.p (int (s.length:Nat)),.p (int ((k+1):Nat)),oo,oo,oo,oo,oo,oo,oo,oo,oo,oo,oo,oo,oo,oo,oo,oo] [] (by omega) (by (simp only [ZZ,WW,Ze,reduceCtorEq,Nat.reduceAdd,Nat.reduceMul,Nat.reduceLeDiff,Nat.reduceLT,Nat.reduceEqDiff];try trivial)) (by (simp only [ZZ,WW,Ze,reduceCtorEq,Nat.reduceAdd,Nat.reduceMul,Nat.reduceLeDiff,Nat.reduceLT,Nat.reduceEqDiff];try trivial)) ⟨k+1,by omega,rfl,by rw [hnx,hall,show notCap (s.getD k 0)=false from hb];rfl,rfl,rfl⟩
 ·intro h2
  have hge:k=s.length:=by have:=of_decide_eq_false h2;omega
  subst hge
  rw [List.take_length] at hall
  simp only [ZZ,WW,Ze,reduceCtorEq,Nat.reduceAdd,Nat.reduceMul,Nat.reduceLeDiff,Nat.reduceLT,Nat.reduceEqDiff]
  refine use1 (In_ok s.length 1 8) rfl (.inl rfl) ?_
  simp only [ZZ,WW,Ze,reduceCtorEq,Nat.reduceAdd,Nat.reduceMul,Nat.reduceLeDiff,Nat.reduceLT,Nat.reduceEqDiff]
  rw [isPreF,hall,Bool.true_and]
theorem headError_ok (p:List UInt8) (d:Int) (hs:p.length≤1000000000):PCall Tryz.prog E 52 [.str p,int d] (·=int (headF p d)):=by
 refine pcallF mixed Tryz.func52 ck_produce_headError ?_
 simp only [a0,l0,OS.ao,List.map_cons,List.map_nil,List.length_cons,List.length_nil,List.cons_append,List.nil_append,Nat.reduceSub,Nat.reduceAdd,List.replicate_succ,List.replicate_zero,ir_produce_headError,rs_produce_headError,ZZ,WW,Ze,reduceCtorEq,Nat.reduceAdd,Nat.reduceMul,Nat.reduceLeDiff,Nat.reduceLT,Nat.reduceEqDiff]
 refine use1 (isPrefix_ok p hs) rfl (.inl rfl) ?_
 simp only [ZZ,WW,Ze,reduceCtorEq,Nat.reduceAdd,Nat.reduceMul,Nat.reduceLeDiff,Nat.reduceLT,Nat.reduceEqDiff]
 refine use1 (When_ok _ 3) rfl (.inl rfl) ?_
 simp only [ZZ,WW,Ze,reduceCtorEq,Nat.reduceAdd,Nat.reduceMul,Nat.reduceLeDiff,Nat.reduceLT,Nat.reduceEqDiff]
 refine use1 (In_ok d 4 9) rfl (.inl rfl) ?_
 simp only [ZZ,WW,Ze,reduceCtorEq,Nat.reduceAdd,Nat.reduceMul,Nat.reduceLeDiff,Nat.reduceLT,Nat.reduceEqDiff]
 refine use1 (When_ok _ 1) rfl (.inl rfl) ?_
 simp only [ZZ,WW,Ze,reduceCtorEq,Nat.reduceAdd,Nat.reduceMul,Nat.reduceLeDiff,Nat.reduceLT,Nat.reduceEqDiff]
 refine use1 (First_ok [whenE (!isPreF p) 3,whenE (!inE d 4 9) 1] (by simp)) rfl (.inl rfl) ?_
 simp only [ZZ,WW,Ze,reduceCtorEq,Nat.reduceAdd,Nat.reduceMul,Nat.reduceLeDiff,Nat.reduceLT,Nat.reduceEqDiff]
 rfl
end
theorem itoa_len {n:Int} (h0:0≤n) (h1:n≤100000000000):(Lib.itoa n).length≤20:=by
 rw [itD_eq (by omega) h1]
 have:∀ f u,(dd f u).length≤f:=by
  intro f
  induction f with
  |zero=>intro u;simp [dd]
  |succ f ih=>
   intro u
   rw [dd]
   split
   ·simp
   ·have:=ih (u / 10);simp;omega
 unfold itD
 split
 ·omega
 ·have:=this 12 n.toNat;omega
theorem prefixOf_ok {E:Envt} (s:List UInt8) (hs:s.length≤1000000000):PCall Tryz.prog E 142 [.str s] (·=.bool (preOf s)):=by
 refine pcallF mixed Tryz.func142 ck_chaseref1_prefixOf ?_
 simp only [a0,l0,OS.ao,List.map_cons,List.map_nil,List.length_cons,List.length_nil,List.cons_append,List.nil_append,Nat.reduceSub,Nat.reduceAdd,List.replicate_succ,List.replicate_zero,ir_chaseref1_prefixOf,rs_chaseref1_prefixOf,ZZ,WW,Ze,reduceCtorEq,Nat.reduceAdd,Nat.reduceMul,Nat.reduceLeDiff,Nat.reduceLT,Nat.reduceEqDiff]
 ((repeat' (with_reducible apply And.intro))<;>try ((exact sc_)))
 refine useG (fun _=>made_ok s capL hs (by decide) (by decide)) rfl (.inl rfl) ?_
 simp only [ZZ,WW,Ze,reduceCtorEq,Nat.reduceAdd,Nat.reduceMul,Nat.reduceLeDiff,Nat.reduceLT,Nat.reduceEqDiff]
 ((repeat' (with_reducible apply And.intro))<;>try ((exact sc_)))
theorem numbersFault_ok {E:Envt} (p:List UInt8) (d:Int) (hs:p.length≤1000000000):PCall Tryz.prog E 56 [.str p,int d] (·=int (nfF p d)):=by
 refine pcallF mixed Tryz.func56 ck_chaseref1_numbersFault ?_
 simp only [a0,l0,OS.ao,List.map_cons,List.map_nil,List.length_cons,List.length_nil,List.cons_append,List.nil_append,Nat.reduceSub,Nat.reduceAdd,List.replicate_succ,List.replicate_zero,ir_chaseref1_numbersFault,rs_chaseref1_numbersFault,ZZ,WW,Ze,reduceCtorEq,Nat.reduceAdd,Nat.reduceMul,Nat.reduceLeDiff,Nat.reduceLT,Nat.reduceEqDiff]
 refine use1 (prefixOf_ok p hs) rfl (.inl rfl) ?_
 simp only [ZZ,WW,Ze,reduceCtorEq,Nat.reduceAdd,Nat.reduceMul,Nat.reduceLeDiff,Nat.reduceLT,Nat.reduceEqDiff]
 unfold nfF
 refine br ?_ ?_
 ·intro h
  simp only [ZZ,WW,Ze,reduceCtorEq,Nat.reduceAdd,Nat.reduceMul,Nat.reduceLeDiff,Nat.reduceLT,Nat.reduceEqDiff]
  rw [if_neg (by simpa using h)]
 ·intro h
  simp only [ZZ,WW,Ze,reduceCtorEq,Nat.reduceAdd,Nat.reduceMul,Nat.reduceLeDiff,Nat.reduceLT,Nat.reduceEqDiff]
  rw [if_pos (by simpa using h)]
  ((repeat' (with_reducible apply And.intro))<;>try ((exact sc_)))
  refine br ?_ ?_
  ·intro h2
   simp only [ZZ,WW,Ze,reduceCtorEq,Nat.reduceAdd,Nat.reduceMul,Nat.reduceLeDiff,Nat.reduceLT,Nat.reduceEqDiff]
   rw [if_pos h2]
  ·intro h2
   simp only [ZZ,WW,Ze,reduceCtorEq,Nat.reduceAdd,Nat.reduceMul,Nat.reduceLeDiff,Nat.reduceLT,Nat.reduceEqDiff]
   rw [if_neg (by rw [h2];simp)]
def ir_produce_isNote:IC:=(.seq (.reg [qO 2 (.mov (.c (.bool false)))]) (.seq (.reg [qM 3 0,qO 4 (.sln (.t 3)),qO 5 (.call 51 [.t 4,.c (.int .i64 1),.c (.int .i64 80)]),qM 6 5,⟨some 7,.mov (.t 0),(some (6,true))⟩,⟨some 8,.call 108 [.t 7],(some (6,true))⟩,qO 9 (.pick (.t 6) (.t 8) (.c (.bool false))),qM 2 9]) .ret))
def rs_produce_isNote:List IRes:=[.t 2]
theorem ck_produce_isNote:chkF Tryz.prog Tryz.f75 ir_produce_isNote rs_produce_isNote 10=true:=by kernel_rfl
def ir_produce_orderError:IC:=(.seq (.reg [qO 2 (.mov (.c (.int .i64 0)))]) (.seq (.reg [qM 3 0,qO 4 (.call 51 [.t 3,.c (.int .i64 1),.c (.int .i64 3)]),qO 5 (.not (.t 4)),qO 6 (.call 50 [.t 5,.c (.int .i64 4)]),qM 2 6]) .ret))
def rs_produce_orderError:List IRes:=[.t 2]
theorem ck_produce_orderError:chkF Tryz.prog Tryz.f74 ir_produce_orderError rs_produce_orderError 7=true:=by kernel_rfl
def ir_produce_CheckSetup:IC:=(.seq (.reg [qO 1 (.box 45 (.t 0)),qO 2 (.mov (.c (.int .i64 0)))]) (.seq (.drg [qO 3 (.fla 0 (.t 1)),qO 4 (.ld 1 false (.t 3)),qO 5 (.fla 1 (.t 1)),qO 6 (.ld 1 false (.t 5)),qO 7 (.pcall 0 52 [.t 4,.t 6]),qO 8 (.fla 2 (.t 1)),qO 9 (.ld 1 false (.t 8)),qO 10 (.pcall 1 74 [.t 9]),qO 11 (.fla 3 (.t 1)),qO 12 (.ld 1 false (.t 11)),qO 13 (.pcall 2 75 [.t 12]),qO 14 (.not (.t 13)),qM 15 14,⟨some 16,.fla 4 (.t 1),(some (15,false))⟩,⟨some 17,.ld 1 false (.t 16),(some (15,false))⟩,⟨some 18,.pcall 3 75 [.t 17],(some (15,false))⟩,⟨some 19,.not (.t 18),(some (15,false))⟩,qO 20 (.pick (.t 15) (.c (.bool true)) (.t 19)),qO 21 (.pcall 4 50 [.t 20,.c (.int .i64 3)]),qO 22 (.fla 5 (.t 1)),qO 23 (.ld 1 false (.t 22)),qO 24 (.pcall 5 51 [.t 23,.c (.int .i64 1),.c (.int .i64 100000)]),qO 25 (.not (.t 24)),qO 26 (.pcall 6 50 [.t 25,.c (.int .i64 1)]),qO 27 (.bsl 1 [.t 7,.t 10,.t 21,.t 26]),qO 28 (.pcall 7 49 [.t 27]),qM 2 28]) .ret))
def rs_produce_CheckSetup:List IRes:=[.t 2]
theorem ck_produce_CheckSetup:chkF Tryz.prog Tryz.f21 ir_produce_CheckSetup rs_produce_CheckSetup 29=true:=by kernel_rfl
def ir_chaseref1_SetupFault_L0:IC:=(.seq (.reg [qO 29 (.bin .lss (.t 28) (.t 27))]) (.seq (.cond (.t 29) .skip (.exit 0)) (.seq (.block 1 (.seq (.reg [qO 30 (.ixa 1 (.t 26) (.t 28)),qO 31 (.ld 1 false (.t 30)),qM 5 31]) (.seq (.reg [qM 32 5,qO 33 (.call 76 [.t 32]),qO 34 (.not (.t 33)),qM 35 34,⟨some 36,.mov (.t 5),(some (35,false))⟩,⟨some 37,.sln (.t 36),(some (35,false))⟩,⟨some 38,.bin .lss (.t 37) (.c (.int .i64 1)),(some (35,false))⟩,qO 39 (.pick (.t 35) (.c (.bool true)) (.t 38)),qM 40 39,⟨some 41,.mov (.t 5),(some (40,false))⟩,⟨some 42,.sln (.t 41),(some (40,false))⟩,⟨some 43,.bin .gtr (.t 42) (.c (.int .i64 80)),(some (40,false))⟩,qO 44 (.pick (.t 40) (.c (.bool true)) (.t 43))]) (.cond (.t 44) (.seq (.reg [qO 2 (.mov (.c (.int .i64 3)))]) .ret) .skip)))) (.reg [qO 45 (.bin .add (.t 28) (.c (.int .i64 1))),qM 28 45]))))
def ir_chaseref1_SetupFault:IC:=(.seq (.reg [qO 1 (.box 45 (.t 0)),qO 2 (.mov (.c (.int .i64 0)))]) (.seq (.seq (.reg [qO 6 (.fla 0 (.t 1)),qO 7 (.ld 1 false (.t 6)),qO 8 (.fla 1 (.t 1)),qO 9 (.ld 1 false (.t 8)),qO 10 (.call 56 [.t 7,.t 9]),qM 3 10]) (.seq (.reg [qM 11 3,qO 12 (.bin .neq (.t 11) (.c (.int .i64 0)))]) (.cond (.t 12) (.seq (.reg [qM 13 3,qM 2 13]) .ret) .skip))) (.seq (.seq (.reg [qO 14 (.fla 2 (.t 1)),qO 15 (.ld 1 false (.t 14)),qO 16 (.bin .lss (.t 15) (.c (.int .i64 1))),qM 17 16,⟨some 18,.fla 2 (.t 1),(some (17,false))⟩,⟨some 19,.ld 1 false (.t 18),(some (17,false))⟩,⟨some 20,.bin .gtr (.t 19) (.c (.int .i64 3)),(some (17,false))⟩,qO 21 (.pick (.t 17) (.c (.bool true)) (.t 20))]) (.cond (.t 21) (.seq (.reg [qO 2 (.mov (.c (.int .i64 4)))]) .ret) .skip)) (.seq (.seq (.reg [qO 22 (.fla 3 (.t 1)),qO 23 (.ld 1 false (.t 22)),qO 24 (.fla 4 (.t 1)),qO 25 (.ld 1 false (.t 24)),qO 26 (.bsl 1 [.t 23,.t 25]),qO 27 (.len (.t 26)),qO 28 (.mov (.c (.int .i64 0)))]) (.block 0 (.loop ir_chaseref1_SetupFault_L0))) (.seq (.seq (.reg [qO 46 (.fla 5 (.t 1)),qO 47 (.ld 1 false (.t 46)),qO 48 (.bin .lss (.t 47) (.c (.int .i64 1))),qM 49 48,⟨some 50,.fla 5 (.t 1),(some (49,false))⟩,⟨some 51,.ld 1 false (.t 50),(some (49,false))⟩,⟨some 52,.bin .gtr (.t 51) (.c (.int .i64 100000)),(some (49,false))⟩,qO 53 (.pick (.t 49) (.c (.bool true)) (.t 52))]) (.cond (.t 53) (.seq (.reg [qO 2 (.mov (.c (.int .i64 1)))]) .ret) .skip)) (.seq (.reg [qO 2 (.mov (.c (.int .i64 0)))]) .ret))))))
def rs_chaseref1_SetupFault:List IRes:=[.t 2]
theorem ck_chaseref1_SetupFault:chkF Tryz.prog Tryz.f22 ir_chaseref1_SetupFault rs_chaseref1_SetupFault 54=true:=by kernel_rfl
def ir_chasemake_Stream_Setup:IC:=(.seq (.reg [qO 2 (.alc 45 [.str [],.int .i64 0,.int .i64 0,.str [],.str [],.int .i64 0])]) (.seq (.reg [qM 4 0,qO 5 (.bsl 1 [.c (.str [65,66]),.c (.str [65,66]),.c (.str [67,68,69])]),qO 6 (.call 42 [.t 4,.t 5]),qM 7 0,qO 8 (.bsl 1 [.c (.int .i64 4),.c (.int .i64 4),.c (.int .i64 6)]),qO 9 (.call 43 [.t 7,.t 8]),qM 10 0,qO 11 (.call 19 [.t 10,.c (.int .i64 1),.c (.int .i64 3)]),qM 12 0,qO 13 (.bsl 1 [.c (.int .i64 100),.c (.int .i64 100),.c (.int .i64 3),.c (.int .i64 100000)]),qO 14 (.call 43 [.t 12,.t 13]),⟨none,.fz (.t 6),none⟩,⟨none,.fz (.t 9),none⟩,⟨none,.fz (.t 11),none⟩,⟨none,.fz (.t 14),none⟩,qO 15 (.bld [.str [],.int .i64 0,.int .i64 0,.str [],.str [],.int .i64 0] [(0,1,.t 6),(1,1,.t 9),(2,1,.t 11),(3,1,.c (.str [119,105,116,104,104,101,108,100])),(4,1,.c (.str [110,111,116,32,119,97,110,116,101,100])),(5,1,.t 14)]),qO 3 (.alc 45 [.str [],.int .i64 0,.int .i64 0,.str [],.str [],.int .i64 0]),⟨none,.st 6 (.t 3) (.t 15),none⟩]) (.seq (.seq (.reg [qM 16 0,qO 17 (.call 9 [.t 16,.c (.int .i64 12)])]) (.cond (.t 17) (.seq (.reg [qM 18 0,qO 19 (.call 10 [.t 18,.c (.int .i64 5)])]) (.block 0 (.seq (.reg [qO 25 (.bin .eql (.t 19) (.c (.int .i64 0))),qM 24 25]) (.cond (.t 24) (.reg [qM 26 0,qO 27 (.bsl 1 [.c (.str []),.c (.str [97,98]),.c (.str [65,66,67,68,69,70,71,72]),.c (.str [65,66,67,68,69,70,71,72,73])]),qO 28 (.call 42 [.t 26,.t 27]),qO 29 (.fla 0 (.t 3)),⟨none,.st 1 (.t 29) (.t 28),none⟩]) (.seq (.reg [qO 31 (.bin .eql (.t 19) (.c (.int .i64 1))),qM 30 31]) (.cond (.t 30) (.reg [qM 32 0,qO 33 (.bsl 1 [.c (.int .i64 3),.c (.int .i64 10),.c (.int .i64 9)]),qO 34 (.call 43 [.t 32,.t 33]),qO 35 (.fla 1 (.t 3)),⟨none,.st 1 (.t 35) (.t 34),none⟩]) (.seq (.reg [qO 37 (.bin .eql (.t 19) (.c (.int .i64 2))),qM 36 37]) (.cond (.t 36) (.reg [qM 38 0,qO 39 (.bsl 1 [.c (.int .i64 0),.c (.int .i64 4)]),qO 40 (.call 43 [.t 38,.t 39]),qO 41 (.fla 2 (.t 3)),⟨none,.st 1 (.t 41) (.t 40),none⟩]) (.seq (.reg [qO 43 (.bin .eql (.t 19) (.c (.int .i64 3))),qM 42 43]) (.cond (.t 42) (.reg [qM 44 0,qO 45 (.call 44 [.c (.str [115]),.c (.int .i64 80)]),qO 46 (.call 44 [.c (.str [115]),.c (.int .i64 81)]),qO 47 (.bsl 1 [.c (.str []),.c (.str [32,120]),.t 45,.t 46]),qO 48 (.call 42 [.t 44,.t 47]),qO 49 (.fla 3 (.t 3)),⟨none,.st 1 (.t 49) (.t 48),none⟩]) (.reg [qM 20 0,qO 21 (.bsl 1 [.c (.int .i64 0),.c (.int .i64 100001)]),qO 22 (.call 43 [.t 20,.t 21]),qO 23 (.fla 5 (.t 3)),⟨none,.st 1 (.t 23) (.t 22),none⟩]))))))))))) .skip)) (.cut (.seq (.reg [qO 50 (.ld 6 true (.t 3)),⟨none,.st 6 (.t 2) (.t 50),none⟩]) .ret)))))
def rs_chasemake_Stream_Setup:List IRes:=[.c 2 6 true]
theorem ck_chasemake_Stream_Setup:chkF Tryz.prog Tryz.f18 ir_chasemake_Stream_Setup rs_chasemake_Stream_Setup 51=true:=by kernel_rfl
structure Stp where
 pre:List UInt8
 dig:Int
 ord:Int
 slip:List UInt8
 skip:List UInt8
 most:Int
def stV (x:Stp):List PV:=[.str x.pre,int x.dig,int x.ord,.str x.slip,.str x.skip,int x.most]
theorem firstE_cy (e:Int) (r:List Int):firstE (e :: r)=if e=0 then firstE r else e:=rfl
structure StB (x:Stp):Prop where
 b1:x.pre.length≤1000
 b2:x.slip.length≤1000
 b3:x.skip.length≤1000
def noteB (s:List UInt8):Bool:=inE s.length 1 80 && plainB s
def ordF (n:Int):Int:=whenE (!inE n 1 3) 4
def setF (x:Stp):Int:=firstE [headF x.pre x.dig,ordF x.ord,whenE (!noteB x.slip || !noteB x.skip) 3,whenE (!inE x.most 1 100000) 1]
theorem cap_in (c:UInt8):capL.contains c=!notCap c:=all256 (p:=fun c=>capL.contains c=!notCap c) (by decide +kernel) c
theorem pre_same (s:List UInt8):preOf s=isPreF s:=by
 unfold preOf isPreF
 rw [madeF_all,Bool.and_comm]
 congr 1
 induction s with
 |nil=>rfl
 |cons c r ih=>simp only [List.all_cons,cap_in,ih]
theorem nf_same (p:List UInt8) (d:Int):nfF p d=headF p d:=by
 unfold nfF headF
 rw [pre_same]
 cases isPreF p with
 |false=>rfl
 |true=>
  rw [if_pos rfl]
  have:(decide (d < 4) || decide (9 < d))=!inE d 4 9:=by
   unfold inE
   rw [Bool.eq_iff_iff]
   simp only [Bool.or_eq_true,decide_eq_true_eq,Bool.not_eq_true',Bool.and_eq_false_iff,decide_eq_false_iff_not]
   omega
  rw [this]
  cases inE d 4 9<;>rfl
section
theorem isNote_ok (s:List UInt8) (hs:s.length≤1000000):PCall Tryz.prog E0 75 [.str s] (·=.bool (noteB s)):=by
 refine pcallF mixed Tryz.func75 ck_produce_isNote ?_
 simp only [a0,l0,OS.ao,List.map_cons,List.map_nil,List.length_cons,List.length_nil,List.cons_append,List.nil_append,Nat.reduceSub,Nat.reduceAdd,List.replicate_succ,List.replicate_zero,ir_produce_isNote,rs_produce_isNote,ZZ,WW,Ze,reduceCtorEq,Nat.reduceAdd,Nat.reduceMul,Nat.reduceLeDiff,Nat.reduceLT,Nat.reduceEqDiff]
 refine use1 (In_ok _ _ _) rfl (.inl rfl) ?_
 simp only [ZZ,WW,Ze,reduceCtorEq,Nat.reduceAdd,Nat.reduceMul,Nat.reduceLeDiff,Nat.reduceLT,Nat.reduceEqDiff]
 refine useG (fun _=>Plain_ok s (by omega)) rfl (.inl rfl) ?_
 simp only [ZZ,WW,Ze,reduceCtorEq,Nat.reduceAdd,Nat.reduceMul,Nat.reduceLeDiff,Nat.reduceLT,Nat.reduceEqDiff]
 rfl
theorem orderError_ok {E:Envt} (n:Int):PCall Tryz.prog E 74 [int n] (·=int (ordF n)):=by
 refine pcallF mixed Tryz.func74 ck_produce_orderError ?_
 simp only [a0,l0,OS.ao,List.map_cons,List.map_nil,List.length_cons,List.length_nil,List.cons_append,List.nil_append,Nat.reduceSub,Nat.reduceAdd,List.replicate_succ,List.replicate_zero,ir_produce_orderError,rs_produce_orderError,ZZ,WW,Ze,reduceCtorEq,Nat.reduceAdd,Nat.reduceMul,Nat.reduceLeDiff,Nat.reduceLT,Nat.reduceEqDiff]
 refine use1 (In_ok _ _ _) rfl (.inl rfl) ?_
 simp only [ZZ,WW,Ze,reduceCtorEq,Nat.reduceAdd,Nat.reduceMul,Nat.reduceLeDiff,Nat.reduceLT,Nat.reduceEqDiff]
 refine use1 (When_ok _ 4) rfl (.inl rfl) ?_
 simp only [ZZ,WW,Ze,reduceCtorEq,Nat.reduceAdd,Nat.reduceMul,Nat.reduceLeDiff,Nat.reduceLT,Nat.reduceEqDiff]
 rfl
theorem CheckSetup_ok (x:Stp) (hx:StB x):PCall Tryz.prog E0 21 [.agg (stV x)] (·=int (setF x)):=by
 obtain ⟨b1,b2,b3⟩:=hx
 refine pcallF mixed Tryz.func21 ck_produce_CheckSetup ?_
 simp only [a0,l0,OS.ao,List.map_cons,List.map_nil,List.length_cons,List.length_nil,List.cons_append,List.nil_append,Nat.reduceSub,Nat.reduceAdd,List.replicate_succ,List.replicate_zero,ir_produce_CheckSetup,rs_produce_CheckSetup,ZZ,WW,Ze,reduceCtorEq,Nat.reduceAdd,Nat.reduceMul,Nat.reduceLeDiff,Nat.reduceLT,Nat.reduceEqDiff]
 simp only [stV,ZZ,WW,Ze,reduceCtorEq,Nat.reduceAdd,Nat.reduceMul,Nat.reduceLeDiff,Nat.reduceLT,Nat.reduceEqDiff]
 refine ⟨[int (headF x.pre x.dig),int (ordF x.ord),.bool (noteB x.slip),.bool (noteB x.skip),int (whenE (!noteB x.slip || !noteB x.skip) 3),.bool (inE x.most 1 100000),int (whenE (!inE x.most 1 100000) 1),int (setF x)],?_⟩
 simp only [ZZ,WW,Ze,reduceCtorEq,Nat.reduceAdd,Nat.reduceMul,Nat.reduceLeDiff,Nat.reduceLT,Nat.reduceEqDiff]
 refine ⟨usep (headError_ok _ _ (by omega)) rfl (.inl rfl),usep (orderError_ok _) rfl (.inl rfl),usep (isNote_ok _ (by omega)) rfl (.inl rfl),fun h=>⟨h,usep (isNote_ok _ (by omega)) rfl (.inl rfl)⟩,fun h=>by rw [h];rfl,usep (When_ok _ _) rfl (.inl rfl),usep (In_ok _ _ _) rfl (.inl rfl),usep (When_ok _ _) rfl (.inl rfl),usep (First_ok [_,_,_,_] (by simp)) rfl (.inl rfl)⟩
theorem SetupFault_ok (x:Stp) (hx:StB x):PCall Tryz.prog E0 22 [.agg (stV x)] (·=int (setF x)):=by
 obtain ⟨b1,b2,b3⟩:=hx
 refine pcallF mixed Tryz.func22 ck_chaseref1_SetupFault ?_
 simp only [a0,l0,OS.ao,List.map_cons,List.map_nil,List.length_cons,List.length_nil,List.cons_append,List.nil_append,Nat.reduceSub,Nat.reduceAdd,List.replicate_succ,List.replicate_zero,ir_chaseref1_SetupFault,rs_chaseref1_SetupFault,ZZ,WW,Ze,reduceCtorEq,Nat.reduceAdd,Nat.reduceMul,Nat.reduceLeDiff,Nat.reduceLT,Nat.reduceEqDiff]
 simp only [stV,ZZ,WW,Ze,reduceCtorEq,Nat.reduceAdd,Nat.reduceMul,Nat.reduceLeDiff,Nat.reduceLT,Nat.reduceEqDiff]
 refine use1 (numbersFault_ok x.pre x.dig (by omega)) rfl (.inl rfl) ?_
 rw [nf_same]
 simp only [ZZ,WW,Ze,reduceCtorEq,Nat.reduceAdd,Nat.reduceMul,Nat.reduceLeDiff,Nat.reduceLT,Nat.reduceEqDiff]
 refine br ?_ ?_
 ·intro h
  have h1:¬ headF x.pre x.dig=0:=by simpa using h
  simp only [ZZ,WW,Ze,reduceCtorEq,Nat.reduceAdd,Nat.reduceMul,Nat.reduceLeDiff,Nat.reduceLT,Nat.reduceEqDiff]
  rw [setF,firstE_cy,if_neg h1]
 intro h
 have h1:headF x.pre x.dig=0:=by simpa using h
 have hs:setF x=firstE [ordF x.ord,whenE (!noteB x.slip || !noteB x.skip) 3,whenE (!inE x.most 1 100000) 1]:=by rw [setF,firstE_cy,if_pos h1]
 rw [hs]
 clear h hs
 have ho:(decide (x.ord < 1) || decide (3 < x.ord))=!inE x.ord 1 3:=by
  unfold inE
  rw [Bool.eq_iff_iff]
  simp only [Bool.or_eq_true,decide_eq_true_eq,Bool.not_eq_true',Bool.and_eq_false_iff,decide_eq_false_iff_not]
  omega
 have hm:(decide (x.most < 1) || decide (100000 < x.most))=!inE x.most 1 100000:=by
  unfold inE
  rw [Bool.eq_iff_iff]
  simp only [Bool.or_eq_true,decide_eq_true_eq,Bool.not_eq_true',Bool.and_eq_false_iff,decide_eq_false_iff_not]
  omega
 simp only [ZZ,WW,Ze,reduceCtorEq,Nat.reduceAdd,Nat.reduceMul,Nat.reduceLeDiff,Nat.reduceLT,Nat.reduceEqDiff]
 rw [ho]
 refine ⟨fun h=>by rw [h];rfl,?_⟩
 refine br ?_ ?_
 ·intro h
  simp only [ZZ,WW,Ze,reduceCtorEq,Nat.reduceAdd,Nat.reduceMul,Nat.reduceLeDiff,Nat.reduceLT,Nat.reduceEqDiff]
  rw [firstE_cy,ordF,whenE,if_pos h]
  rfl
 intro h
 have h2:ordF x.ord=0:=by rw [ordF,whenE,if_neg (by rw [h];decide)]
 rw [firstE_cy,if_pos h2]
 clear h
 simp only [ZZ,WW,Ze,reduceCtorEq,Nat.reduceAdd,Nat.reduceMul,Nat.reduceLeDiff,Nat.reduceLT,Nat.reduceEqDiff]
 refine loop_intro (fun n fr L=>∃ (j:Nat),j≤2∧n=2 - j∧(1≤j→noteB x.slip=true)∧(2≤j→noteB x.skip=true)∧fr=[oo,.adr (.l 1) 0,oo,oo,oo,oo,oo,oo,oo,oo,oo,oo,oo,oo,oo,oo,oo,oo,oo,oo,oo,oo,oo,oo,oo,oo,.p (.sl 1 [[.str x.slip],[.str x.skip]]),.p (int 2),.p (int (j:Nat)),oo,oo,oo,oo,oo,oo,oo,oo,oo,oo,oo,oo,oo,oo,oo,oo,oo,oo,oo,oo,oo,oo,oo,oo,oo]∧L=[(.l 1,.box [.p (.str x.pre),.p (int x.dig),.p (int x.ord),.p (.str x.slip),.p (.str x.skip),.p (int x.most)] 45)]) (2) [oo,.adr (.l 1) 0,oo,oo,oo,oo,oo,oo,oo,oo,oo,oo,oo,oo,oo,oo,oo,oo,oo,oo,oo,oo,oo,oo,oo,oo,.p (.sl 1 [[.str x.slip],[.str x.skip]]),.p (int 2),.p (int (0:Nat)),oo,oo,oo,oo,oo,oo,oo,oo,oo,oo,oo,oo,oo,oo,oo,oo,oo,oo,oo,oo,oo,oo,oo,oo,oo] [(.l 1,.box [.p (.str x.pre),.p (int x.dig),.p (int x.ord),.p (.str x.slip),.p (.str x.skip),.p (int x.most)] 45)] (by (simp only [ZZ,WW,Ze,reduceCtorEq,Nat.reduceAdd,Nat.reduceMul,Nat.reduceLeDiff,Nat.reduceLT,Nat.reduceEqDiff];try trivial)) (by (simp only [ZZ,WW,Ze,reduceCtorEq,Nat.reduceAdd,Nat.reduceMul,Nat.reduceLeDiff,Nat.reduceLT,Nat.reduceEqDiff];try trivial)) ⟨0,by omega,by omega,(fun h=>by omega),(fun h=>by omega),rfl,rfl⟩ ?_
 rintro n fr L ⟨j,hj,rfl,hj1,hj2,rfl,rfl⟩
 simp only [ir_chaseref1_SetupFault_L0,ZZ,WW,Ze,reduceCtorEq,Nat.reduceAdd,Nat.reduceMul,Nat.reduceLeDiff,Nat.reduceLT,Nat.reduceEqDiff]
 refine br ?_ ?_
 ·intro h
  have hlt:j < 2:=by have:=of_decide_eq_true h;omega
  obtain ⟨s,hs,hsl,hb⟩:∃ s,([[PV.str x.slip],[PV.str x.skip]]:List (List PV)).getD j []=[.str s]∧s.length≤1000∧(noteB s=false→(!noteB x.slip || !noteB x.skip)=true)∧(noteB s=true→(1≤j+1→noteB x.slip=true)∧(2≤j+1→noteB x.skip=true)):=by
   match j,hlt with
   |0,_=>exact ⟨x.slip,rfl,b2,fun h=>by rw [h];rfl,fun h=>⟨fun _=>h,fun h=>by omega⟩⟩
   |1,_=>exact ⟨x.skip,rfl,b3,fun h=>by rw [h];simp,fun h=>⟨fun _=>hj1 (by omega),fun _=>h⟩⟩
  obtain ⟨hb1,hb2⟩:=hb
  have hn:((!plainB s || decide ((s.length:Int) < 1)) || decide (80 < (s.length:Int)))=!noteB s:=by
   unfold noteB inE
   cases plainB s with
   |false=>simp
   |true=>
    rw [Bool.eq_iff_iff]
    simp only [Bool.or_eq_true,decide_eq_true_eq,Bool.not_eq_true',Bool.and_eq_false_iff,decide_eq_false_iff_not,Bool.not_true,Bool.false_eq_true,false_or,or_false,Bool.and_true,reduceCtorEq]
    omega
  simp only [ZZ,WW,Ze,reduceCtorEq,Nat.reduceAdd,Nat.reduceMul,Nat.reduceLeDiff,Nat.reduceLT,Nat.reduceEqDiff,hs]
  ((repeat' (with_reducible apply And.intro))<;>try ((exact sc_)))
  refine use1 (PlainOf_ok s (by omega)) rfl (.inl rfl) ?_
  simp only [ZZ,WW,Ze,reduceCtorEq,Nat.reduceAdd,Nat.reduceMul,Nat.reduceLeDiff,Nat.reduceLT,Nat.reduceEqDiff]
  rw [hn]
  refine ⟨fun h=>by rw [h];rfl,fun h=>by rw [h];rfl,?_⟩
  refine br ?_ ?_
  ·intro h
   have h3:=hb1 (by simpa using h)
   simp only [ZZ,WW,Ze,reduceCtorEq,Nat.reduceAdd,Nat.reduceMul,Nat.reduceLeDiff,Nat.reduceLT,Nat.reduceEqDiff]
   rw [firstE_cy,whenE,if_pos h3]
   rfl
  ·intro h
   obtain ⟨c1,c2⟩:=hb2 (by simpa using h)
   simp only [ZZ,WW,Ze,reduceCtorEq,Nat.reduceAdd,Nat.reduceMul,Nat.reduceLeDiff,Nat.reduceLT,Nat.reduceEqDiff]
   ((repeat' (with_reducible apply And.intro))<;>try ((exact sc_)))
   refine end_round (2 - (j+1)) [oo,.adr (.l 1) 0,oo,oo,oo,oo,oo,oo,oo,oo,oo,oo,oo,oo,oo,oo,oo,oo,oo,oo,oo,oo,oo,oo,oo,oo,.p (.sl 1 [[.str x.slip],[.str x.skip]]),.p (int 2),.p (int ((j+1):Nat)),oo,oo,oo,oo,oo,oo,oo,oo,oo,oo,oo,oo,oo,oo,oo,oo,oo,oo,oo,oo,oo,oo,oo,oo,oo] [(.l 1,.box [.p (.str x.pre),.p (int x.dig),.p (int x.ord),.p (.str x.slip),.p (.str x.skip),.p (int x.most)] 45)] (by omega) (by (simp only [ZZ,WW,Ze,reduceCtorEq,Nat.reduceAdd,Nat.reduceMul,Nat.reduceLeDiff,Nat.reduceLT,Nat.reduceEqDiff];try trivial)) (by (simp only [ZZ,WW,Ze,reduceCtorEq,Nat.reduceAdd,Nat.reduceMul,Nat.reduceLeDiff,Nat.reduceLT,Nat.reduceEqDiff];try trivial)) ⟨j+1,by omega,rfl,c1,c2,rfl,rfl⟩
 intro h
 have hge:2≤j:=by have:=of_decide_eq_false h;omega
 simp only [ZZ,WW,Ze,reduceCtorEq,Nat.reduceAdd,Nat.reduceMul,Nat.reduceLeDiff,Nat.reduceLT,Nat.reduceEqDiff]
 rw [hm]
 rw [hj1 (by omega),hj2 hge]
 refine ⟨fun h=>by rw [h];rfl,?_⟩
 refine br ?_ ?_
 ·intro h
  simp only [ZZ,WW,Ze,reduceCtorEq,Nat.reduceAdd,Nat.reduceMul,Nat.reduceLeDiff,Nat.reduceLT,Nat.reduceEqDiff]
  rw [h]
  rfl
 intro h
 simp only [ZZ,WW,Ze,reduceCtorEq,Nat.reduceAdd,Nat.reduceMul,Nat.reduceLeDiff,Nat.reduceLT,Nat.reduceEqDiff]
 rw [h]
 rfl
end
section
variable {E:Envt}
theorem Setup_ok (l:List Int) (k:Nat) (hk:k≤900000) (hl:l.length≤9223372036854775807) :
  SCall Tryz.prog E 18 T (stm l k) [] (fun x cs'=>∃ s k',x=.agg (stV s)∧StB s∧cs'=stm l k'∧k'≤k+10):=by
 unfold SCall
 refine gcallP mixed Tryz.func18 ck_chasemake_Stream_Setup ?_
 simp only [a0,l0,OS.ao,List.map_cons,List.map_nil,List.length_cons,List.length_nil,List.cons_append,List.nil_append,Nat.reduceSub,Nat.reduceAdd,List.replicate_succ,List.replicate_zero,ir_chasemake_Stream_Setup,rs_chasemake_Stream_Setup,ZZ,WW,Ze,reduceCtorEq,Nat.reduceAdd,Nat.reduceMul,Nat.reduceLeDiff,Nat.reduceLT,Nat.reduceEqDiff]
 refine useS (one_ok l k [[65,66],[65,66],[67,68,69]] (by omega) hl (by simp) (by simp)) rfl rfl rfl zE_ ?_
 rintro x cs' ⟨p,rfl,hp,rfl⟩
 have hp:p.length≤1000:=by simp only [List.mem_cons,List.not_mem_nil,or_false] at hp;rcases hp with rfl|rfl|rfl<;>decide
 simp only [ZZ,WW,Ze,reduceCtorEq,Nat.reduceAdd,Nat.reduceMul,Nat.reduceLeDiff,Nat.reduceLT,Nat.reduceEqDiff]
 refine useS (Pick_ok l (k+1) [4,4,6] (by omega) hl (by simp) (by simp)) rfl rfl rfl zE_ ?_
 rintro x cs' ⟨d,rfl,hd,rfl⟩
 simp only [ZZ,WW,Ze,reduceCtorEq,Nat.reduceAdd,Nat.reduceMul,Nat.reduceLeDiff,Nat.reduceLT,Nat.reduceEqDiff]
 refine useS (Range_ok l (k+1+1) 1 3 (by omega) hl (by decide) (by decide) (by decide)) rfl rfl rfl zE_ ?_
 rintro x cs' ⟨o,rfl,ho1,ho2,rfl⟩
 simp only [ZZ,WW,Ze,reduceCtorEq,Nat.reduceAdd,Nat.reduceMul,Nat.reduceLeDiff,Nat.reduceLT,Nat.reduceEqDiff]
 refine useS (Pick_ok l (k+1+1+1) [100,100,3,100000] (by omega) hl (by simp) (by simp)) rfl rfl rfl zE_ ?_
 rintro x cs' ⟨q,rfl,hq,rfl⟩
 simp only [ZZ,WW,Ze,reduceCtorEq,Nat.reduceAdd,Nat.reduceMul,Nat.reduceLeDiff,Nat.reduceLT,Nat.reduceEqDiff]
 refine useS (Flip_ok l (k+1+1+1+1) 12 (by omega) hl (by decide)) rfl rfl rfl zE_ ?_
 rintro x cs' ⟨b,rfl,rfl⟩
 simp only [ZZ,WW,Ze,reduceCtorEq,Nat.reduceAdd,Nat.reduceMul,Nat.reduceLeDiff,Nat.reduceLT,Nat.reduceEqDiff]
 refine br ?_ ?_
 rotate_left
 ·intro _
  simp only [ZZ,WW,Ze,reduceCtorEq,Nat.reduceAdd,Nat.reduceMul,Nat.reduceLeDiff,Nat.reduceLT,Nat.reduceEqDiff]
  refine cut_same zE_ ?_
  simp only [ZZ,WW,Ze,reduceCtorEq,Nat.reduceAdd,Nat.reduceMul,Nat.reduceLeDiff,Nat.reduceLT,Nat.reduceEqDiff]
  exact fin_S (stm l (k+1+1+1+1+1)) rfl ⟨⟨p,d,o,[119,105,116,104,104,101,108,100],[110,111,116,32,119,97,110,116,101,100],q⟩,_,rfl,⟨hp,by simp,by simp⟩,rfl,by omega⟩
 intro _
 simp only [ZZ,WW,Ze,reduceCtorEq,Nat.reduceAdd,Nat.reduceMul,Nat.reduceLeDiff,Nat.reduceLT,Nat.reduceEqDiff]
 refine useS (Next_ok l (k+1+1+1+1+1) 5 (by omega) hl (by decide)) rfl rfl rfl zE_ ?_
 rintro x cs' ⟨y,rfl,rfl⟩
 generalize below y 5=c
 simp only [ZZ,WW,Ze,reduceCtorEq,Nat.reduceAdd,Nat.reduceMul,Nat.reduceLeDiff,Nat.reduceLT,Nat.reduceEqDiff]
 refine br ?_ ?_
 ·intro _
  simp only [ZZ,WW,Ze,reduceCtorEq,Nat.reduceAdd,Nat.reduceMul,Nat.reduceLeDiff,Nat.reduceLT,Nat.reduceEqDiff]
  refine useS (one_ok l (k+1+1+1+1+1+1) [[],[97,98],[65,66,67,68,69,70,71,72],[65,66,67,68,69,70,71,72,73]] (by omega) hl (by simp) (by simp)) rfl rfl rfl zE_ ?_
  rintro x cs' ⟨u,rfl,hu,rfl⟩
  have hu:u.length≤1000:=by simp only [List.mem_cons,List.not_mem_nil,or_false] at hu;rcases hu with rfl|rfl|rfl|rfl<;>decide
  simp only [ZZ,WW,Ze,reduceCtorEq,Nat.reduceAdd,Nat.reduceMul,Nat.reduceLeDiff,Nat.reduceLT,Nat.reduceEqDiff]
  refine cut_same zE_ ?_
  simp only [ZZ,WW,Ze,reduceCtorEq,Nat.reduceAdd,Nat.reduceMul,Nat.reduceLeDiff,Nat.reduceLT,Nat.reduceEqDiff]
  exact fin_S (stm l (k+1+1+1+1+1+1+1)) rfl ⟨⟨u,d,o,[119,105,116,104,104,101,108,100],[110,111,116,32,119,97,110,116,101,100],q⟩,_,rfl,⟨hu,by simp,by simp⟩,rfl,by omega⟩
 intro _
 simp only [ZZ,WW,Ze,reduceCtorEq,Nat.reduceAdd,Nat.reduceMul,Nat.reduceLeDiff,Nat.reduceLT,Nat.reduceEqDiff]
 refine br ?_ ?_
 ·intro _
  simp only [ZZ,WW,Ze,reduceCtorEq,Nat.reduceAdd,Nat.reduceMul,Nat.reduceLeDiff,Nat.reduceLT,Nat.reduceEqDiff]
  refine useS (Pick_ok l (k+1+1+1+1+1+1) [3,10,9] (by omega) hl (by simp) (by simp)) rfl rfl rfl zE_ ?_
  rintro x cs' ⟨u,rfl,hu,rfl⟩
  simp only [ZZ,WW,Ze,reduceCtorEq,Nat.reduceAdd,Nat.reduceMul,Nat.reduceLeDiff,Nat.reduceLT,Nat.reduceEqDiff]
  refine cut_same zE_ ?_
  simp only [ZZ,WW,Ze,reduceCtorEq,Nat.reduceAdd,Nat.reduceMul,Nat.reduceLeDiff,Nat.reduceLT,Nat.reduceEqDiff]
  exact fin_S (stm l (k+1+1+1+1+1+1+1)) rfl ⟨⟨p,u,o,[119,105,116,104,104,101,108,100],[110,111,116,32,119,97,110,116,101,100],q⟩,_,rfl,⟨hp,by simp,by simp⟩,rfl,by omega⟩
 intro _
 simp only [ZZ,WW,Ze,reduceCtorEq,Nat.reduceAdd,Nat.reduceMul,Nat.reduceLeDiff,Nat.reduceLT,Nat.reduceEqDiff]
 refine br ?_ ?_
 ·intro _
  simp only [ZZ,WW,Ze,reduceCtorEq,Nat.reduceAdd,Nat.reduceMul,Nat.reduceLeDiff,Nat.reduceLT,Nat.reduceEqDiff]
  refine useS (Pick_ok l (k+1+1+1+1+1+1) [0,4] (by omega) hl (by simp) (by simp)) rfl rfl rfl zE_ ?_
  rintro x cs' ⟨u,rfl,hu,rfl⟩
  simp only [ZZ,WW,Ze,reduceCtorEq,Nat.reduceAdd,Nat.reduceMul,Nat.reduceLeDiff,Nat.reduceLT,Nat.reduceEqDiff]
  refine cut_same zE_ ?_
  simp only [ZZ,WW,Ze,reduceCtorEq,Nat.reduceAdd,Nat.reduceMul,Nat.reduceLeDiff,Nat.reduceLT,Nat.reduceEqDiff]
  exact fin_S (stm l (k+1+1+1+1+1+1+1)) rfl ⟨⟨p,d,u,[119,105,116,104,104,101,108,100],[110,111,116,32,119,97,110,116,101,100],q⟩,_,rfl,⟨hp,by simp,by simp⟩,rfl,by omega⟩
 intro _
 simp only [ZZ,WW,Ze,reduceCtorEq,Nat.reduceAdd,Nat.reduceMul,Nat.reduceLeDiff,Nat.reduceLT,Nat.reduceEqDiff]
 refine br ?_ ?_
 ·intro _
  simp only [ZZ,WW,Ze,reduceCtorEq,Nat.reduceAdd,Nat.reduceMul,Nat.reduceLeDiff,Nat.reduceLT,Nat.reduceEqDiff]
  refine use1 (RepeatG_ok [115] 80 (by omega) (by simp)) rfl (.inl rfl) ?_
  have g0:(Lib.repeatL [115] 80).length=80:=by rw [Lib.repeatL_length];rfl
  generalize Lib.repeatL [115] 80=r0 at g0 ⊢
  simp only [ZZ,WW,Ze,reduceCtorEq,Nat.reduceAdd,Nat.reduceMul,Nat.reduceLeDiff,Nat.reduceLT,Nat.reduceEqDiff]
  refine use1 (RepeatG_ok [115] 81 (by omega) (by simp)) rfl (.inl rfl) ?_
  have g1:(Lib.repeatL [115] 81).length=81:=by rw [Lib.repeatL_length];rfl
  generalize Lib.repeatL [115] 81=r1 at g1 ⊢
  simp only [ZZ,WW,Ze,reduceCtorEq,Nat.reduceAdd,Nat.reduceMul,Nat.reduceLeDiff,Nat.reduceLT,Nat.reduceEqDiff]
  refine useS (one_ok l (k+1+1+1+1+1+1) [[],[32,120],r0,r1] (by omega) hl (by simp) (by simp)) rfl rfl rfl zE_ ?_
  rintro x cs' ⟨u,rfl,hu,rfl⟩
  have hu:u.length≤1000:=by simp only [List.mem_cons,List.not_mem_nil,or_false] at hu;rcases hu with rfl|rfl|rfl|rfl<;>first|omega|decide
  simp only [ZZ,WW,Ze,reduceCtorEq,Nat.reduceAdd,Nat.reduceMul,Nat.reduceLeDiff,Nat.reduceLT,Nat.reduceEqDiff]
  refine cut_same zE_ ?_
  simp only [ZZ,WW,Ze,reduceCtorEq,Nat.reduceAdd,Nat.reduceMul,Nat.reduceLeDiff,Nat.reduceLT,Nat.reduceEqDiff]
  exact fin_S (stm l (k+1+1+1+1+1+1+1)) rfl ⟨⟨p,d,o,u,[110,111,116,32,119,97,110,116,101,100],q⟩,_,rfl,⟨hp,hu,by simp⟩,rfl,by omega⟩
 ·intro _
  simp only [ZZ,WW,Ze,reduceCtorEq,Nat.reduceAdd,Nat.reduceMul,Nat.reduceLeDiff,Nat.reduceLT,Nat.reduceEqDiff]
  refine useS (Pick_ok l (k+1+1+1+1+1+1) [0,100001] (by omega) hl (by simp) (by simp)) rfl rfl rfl zE_ ?_
  rintro x cs' ⟨u,rfl,hu,rfl⟩
  simp only [ZZ,WW,Ze,reduceCtorEq,Nat.reduceAdd,Nat.reduceMul,Nat.reduceLeDiff,Nat.reduceLT,Nat.reduceEqDiff]
  refine cut_same zE_ ?_
  simp only [ZZ,WW,Ze,reduceCtorEq,Nat.reduceAdd,Nat.reduceMul,Nat.reduceLeDiff,Nat.reduceLT,Nat.reduceEqDiff]
  exact fin_S (stm l (k+1+1+1+1+1+1+1)) rfl ⟨⟨p,d,o,[119,105,116,104,104,101,108,100],[110,111,116,32,119,97,110,116,101,100],u⟩,_,rfl,⟨hp,by simp,by simp⟩,rfl,by omega⟩
end
end Go.Proofs.YtehfjlpenlffmaaGreatDoor
