import Derived.Test.YtjgdjinhkgjpeaaGreatDoorZ10
import Derived.Lib.AppendZerosOnto
import Derived.Laws.CopyRow
import Derived.Laws.Externs
import Derived.Lib.Hide
set_option linter.unusedVariables false
set_option linter.unusedSimpArgs false
set_option linter.defProp false
namespace Go.Proofs.YtjgdjinhkgjpeaaGreatDoor
open Nat renaming reduceAdd→zd,reduceEqDiff→zb,reduceLT→zf,reduceLeDiff→za,reduceMul→ze,reduceSub→zu
open List renaming cons_append→zo,getElem?_eq_some_iff→zw,getElem?_of_mem→yq,length_cons→zk,length_nil→zp,map_cons→zl,nil_append→zq,replicate_succ→zj,replicate_zero→zm
open Go.RowKit
def qgO:IC:=(.seq (.reg [qO 3 (.box 44 (.t 1)),qO 4 (.mov (.c (.nl 12)))]) (.seq (.reg [qM 10 0,qO 11 (.fla 0 (.t 3)),qO 12 (.fla 0 (.t 11)),qO 13 (.ld 1 false (.t 12)),qO 14 (.call 118 [.t 10,.t 13]),qM 9 14,qO 15 (.ext 0 (.t 9)),qO 16 (.ext 1 (.t 9)),qM 5 15,qM 6 16]) (.seq (.reg [qM 17 5,qO 18 (.bin .add (.t 17) (.c (.int .i64 1))),qO 19 (.fla 0 (.t 3)),qO 20 (.fla 1 (.t 19)),⟨none,.st 1 (.t 20) (.t 18),none⟩]) (.seq (.reg [qO 21 (.ld 12 true (.t 3)),qM 22 6,qO 23 (.call 90 [.t 21,.t 22]),qO 24 (.fla 11 (.t 3)),⟨none,.st 1 (.t 24) (.t 23),none⟩]) (.seq (.reg [qM 26 0,qO 27 (.fla 0 (.t 3)),qO 28 (.ld 2 true (.t 27)),qO 29 (.call 119 [.t 26,.t 28,.f 120]),qM 25 29,qO 30 (.ext 0 (.t 25)),qO 31 (.ext 1 (.t 25)),qM 7 30,qM 8 31]) (.seq (.drg [⟨none,.hole 33,none⟩,qM 32 0,qO 33 (.fcl 0 47 [.t 32] 44 12),qM 34 7,qO 35 (.ld 12 true (.t 3)),qO 36 (.bsl 12 [.t 35]),qO 37 (.call 121 [.t 33,.t 34,.t 36]),qM 4 37]) .ret))))))
def qgB:List IRes:=[.t 4]
theorem qkA:chkF Tryz.prog Tryz.f80 qgO qgB 38=true:=by kernel_rfl
def qiv:IC:=(.seq (.reg [qO 15 (.box 42 (.t 7)),qO 16 (.mov (.c (.nl 12))),qO 17 (.mov (.c (.int .i64 0)))]) (.seq (.reg [qM 21 1,qO 22 (.bld [.str [],.int .i64 0] [(0,1,.t 21)]),qM 23 2,qM 24 3,qM 25 4,qM 26 5,qM 27 6,qO 28 (.ld 2 true (.t 15)),qO 29 (.bld [.str [],.int .i64 0,.int .i64 0,.int .i64 0,.str [],.str [],.str [],.int .i64 0,.int .i64 0,.str [],.int .i64 0,.str []] [(0,2,.t 22),(2,1,.t 23),(3,1,.t 24),(4,1,.t 25),(5,1,.t 26),(6,1,.t 27),(7,2,.t 28)]),qO 18 (.alc 44 [.str [],.int .i64 0,.int .i64 0,.int .i64 0,.str [],.str [],.str [],.int .i64 0,.int .i64 0,.str [],.int .i64 0,.str []]),⟨none,.st 12 (.t 18) (.t 29),none⟩]) (.seq (.reg [qM 30 3,qO 31 (.call 75 [.t 30,.c (.int .i64 1),.c (.int .i64 6)]),qO 32 (.not (.t 31)),qM 33 32,⟨some 34,.mov (.t 3),(some (33,false))⟩,⟨some 35,.bin .eql (.t 34) (.c (.int .i64 3)),(some (33,false))⟩,qO 36 (.pick (.t 33) (.c (.bool true)) (.t 35)),qM 37 36,⟨some 38,.mov (.t 3),(some (37,false))⟩,⟨some 39,.bin .eql (.t 38) (.c (.int .i64 6)),(some (37,false))⟩,qO 40 (.pick (.t 37) (.c (.bool true)) (.t 39)),qM 19 40]) (.seq (.seq (.drg [qM 41 0,qM 42 1,qM 43 2,qO 44 (.pcall 0 77 [.t 41,.t 42,.t 43]),qM 45 19,qO 46 (.pcall 1 78 [.t 45,.c (.int .i64 4)]),qO 47 (.ld 12 true (.t 18)),qO 48 (.pcall 2 79 [.t 47]),qO 49 (.bsl 1 [.t 44,.t 46,.t 48]),qO 50 (.pcall 3 76 [.t 49]),qM 20 50]) (.seq (.reg [qM 51 20,qO 52 (.bin .neq (.t 51) (.c (.int .i64 0)))]) (.cond (.t 52) (.seq (.reg [qM 53 20,qO 16 (.mov (.c (.nl 12))),qM 17 53]) .ret) .skip))) (.seq (.reg [qM 54 0,qO 55 (.ld 12 true (.t 18)),qO 56 (.call 80 [.t 54,.t 55]),qM 16 56,qO 17 (.mov (.c (.int .i64 0)))]) .ret)))))
def qij:List IRes:=[.t 16,.t 17]
theorem qmq:chkF Tryz.prog Tryz.f43 qiv qij 57=true:=by kernel_rfl
def qep:IC:=(.seq (.reg [qO 0 (.mov (.c (.bool false)))]) (.seq (.reg [qO 4 (.bld [.int .i64 0,.int .i64 0] []),qO 5 (.call 43 [.c (.nl 12),.c (.str [97]),.c (.int .i64 5),.c (.int .i64 2),.c (.str [120]),.c (.str []),.c (.str [104,111,116]),.t 4]),qM 3 5,qO 6 (.ext 0 (.t 3)),qO 7 (.ext 1 (.t 3)),qM 1 6,qM 2 7]) (.seq (.reg [qM 8 2,qO 9 (.bin .eql (.t 8) (.c (.int .i64 0))),qM 10 9,⟨some 11,.mov (.t 1),(some (10,true))⟩,⟨some 12,.len (.t 11),(some (10,true))⟩,⟨some 13,.bin .eql (.t 12) (.c (.int .i64 1)),(some (10,true))⟩,qO 14 (.pick (.t 10) (.t 13) (.c (.bool false))),qM 0 14]) .ret)))
def qec:List IRes:=[.t 0]
theorem qhu:chkF Tryz.prog Tryz.f11 qep qec 15=true:=by kernel_rfl
theorem qvQ {l:List Dd} {a:Dd} {k:Nat} (hs:OrdD l) (hq:UnqD (l++[a])) (hlo:∀ i p,i < k→l[i]?=some p→cmpD p a < 0) (hhi:∀ i p,k≤i→l[i]?=some p→0≤cmpD p a):l.take k++a :: l.drop k=srtD (l++[a]):=by
 have an:=cmpD_p.anti
 refine qul hq ?_ ?_
 ·have h1:=List.perm_middle (a:=a) (l₁:=l.take k) (l₂:=l.drop k)
  rw [List.take_append_drop] at h1
  exact h1.trans (List.perm_append_singleton a l).symm
 ·unfold OrdD at hs
  have hs2:(l.take k++l.drop k).Pairwise fun a b=>cmpD a b < 0:=by rwa [List.take_append_drop]
  rw [List.pairwise_append] at hs2
  obtain ⟨p1,p2,p3⟩:=hs2
  have d1:∀ x∈l.take k,cmpD x a < 0:=fun x hx=>by
   obtain ⟨i,hi⟩:=yq hx
   rw [List.getElem?_take] at hi
   split at hi
   ·rename_i h;exact hlo i x h hi
   ·cases hi
  have d2:∀ x∈l.drop k,0≤cmpD x a:=fun x hx=>by
   obtain ⟨i,hi⟩:=yq hx
   rw [List.getElem?_drop] at hi
   exact hhi (k+i) x (by omega) hi
  rw [List.pairwise_append,List.pairwise_cons]
  refine ⟨p1.imp fun h=>by omega,⟨fun y hy=>?_,p2.imp fun h=>by omega⟩,fun x hx y hy=>?_⟩
  ·have h1:=d2 y hy
   have:=an y a
   have:=an a y
   omega
  ·rcases List.mem_cons.1 hy with rfl|hy
   ·have:=d1 x hx;omega
   ·have:=p3 x hx y hy;omega
theorem qxu {l:List Dd} (h:∀ j,j < l.length→chkI l j=0):∀ (j:Nat) (d:Dd),l[j]?=some d→1≤d.no∧d.no≤(j:Int)+1
 |0,d,hd=>by
  have hj:=(zw.1 hd).1
  have h1:=h 0 hj
  unfold chkI at h1
  rw [hd] at h1
  have h1:atF (qiq l 0) d=0:=h1
  unfold atF qiq at h1
  simp only [if_true,Bool.false_eq_true,if_false] at h1
  split at h1
  ·omega
  ·split at h1
   ·omega
   ·rename_i h2
    have h2:d.no=1:=by simpa using h2
    omega
 |j+1,d,hd=>by
  have hj:=(zw.1 hd).1
  obtain ⟨q,hq⟩:∃ q,l[j]?=some q:=⟨_,List.getElem?_eq_getElem (by omega)⟩
  have ih:=qxu h j q hq
  have h1:=h (j+1) hj
  unfold chkI at h1
  rw [hd] at h1
  have h1:atF (qiq l (j+1)) d=0:=h1
  unfold atF qiq at h1
  simp only [Nat.succ_ne_zero,if_false,Nat.add_sub_cancel,hq] at h1
  split at h1
  ·omega
  ·split at h1
   ·omega
   ·by_cases h2:d.no=(if q.site=d.site then q.no+1 else 1)
    ·split at h2<;>omega
    ·rw [if_pos h2] at h1
     omega
theorem qxt {l:List Dd} (h:(ckdF l).2=0):NoB 100000 l:=by
 unfold ckdF at h
 split at h
 ·exact absurd h (by decide)
 rename_i hl
 split at h
 ·rename_i h1
  have ha:=qgw h1
  intro d hd
  obtain ⟨k,hk⟩:=yq hd
  have hkl:=(zw.1 hk).1
  have:=qxu (l:=l) (fun j hj=>ha j (by omega) (by omega)) k d hk
  omega
 ·rename_i h1
  exact absurd h h1
theorem qtv {l:List Dd} (h:OrdD l) (d:Dd):UnqD (l++[addD l d]):=by
 obtain ⟨e1,e2,e3,e4,e5⟩:=qkJ l d
 unfold UnqD
 rw [List.pairwise_append]
 refine ⟨h.imp fun h=>by omega,by simp,?_⟩
 intro x hx y hy e
 rw [List.mem_singleton] at hy
 subst hy
 obtain ⟨a1,a2⟩:=qgS e
 have:=qmW h d.site hx (a1.trans e1)
 omega
set_option maxRecDepth 100000 in
set_option maxHeartbeats 4000000 in
theorem qsq (l:List Dd) (d:Dd) (hI:∀ k,k≤l.length→qsB k l.length) (hl:l.length≤100000) (hB:DdsB l) (hN:NoB 100000 l) (dB:DdB d) (ho:OrdD l):PCall Tryz.prog ED 80 [.sl 12 (ddE l),.agg (ddC d)] (·=.sl 12 (ddE (srtD (l++[addD l d])))):=by
 have hq:=qtv ho d
 obtain ⟨t1,t2,t3⟩:=quJ (by omega) hB hN d.site
 refine qaf mixed Tryz.func80 qkA ?_
 simp only [a0,l0,OS.ao,zl,List.map_nil,zk,zp,zo,zq,zu,zd,zj,zm,qgO,qgB,ZZ,WW,Ze,reduceCtorEq,zd,ze,za,zf,zb]
 simp only [ddC,ZZ,WW,Ze,reduceCtorEq,zd,ze,za,zf,zb]
 refine use1 (qwV l d.site (by omega)) rfl (.inl rfl) ?_
 have ha:addD l d={ d with no:=(tipF l d.site).1+1,sum:=sumF (tipF l d.site).2 { d with no:=(tipF l d.site).1+1 } }:=rfl
 generalize (tipF l d.site).1=m at *
 generalize (tipF l d.site).2=s at *
 obtain ⟨e,he⟩:∃ e:Dd,e={ d with no:=m+1 }:=⟨_,rfl⟩
 have eB:DdB e:=by subst he;exact ⟨dB.b1,dB.b2,dB.b3,dB.b4,dB.b5,dB.b6,by show -1000000000000≤m+1∧m+1≤1000000000000;omega,dB.c2,dB.c3,dB.c4,dB.c5,dB.c6⟩
 rw [← he] at ha
 simp only [ZZ,WW,Ze,reduceCtorEq,zd,ze,za,zf,zb]
 refine ⟨qaj (by omega) (by omega),?_⟩
 have hs:=quj e eB s t3
 rw [he] at hs
 refine use1 hs rfl (.inl rfl) ?_
 rw [← he]
 simp only [ZZ,WW,Ze,reduceCtorEq,zd,ze,za,zf,zb]
 refine use (qpg l d.site (m+1) (by omega) ho) rfl (.inl rfl) ?_
 rintro y ⟨k,b,rfl,hk,hlo,hhi⟩
 simp only [ZZ,WW,Ze,reduceCtorEq,zd,ze,za,zf,zb]
 refine drg1 (x1:=.sl 12 (ddE l)) ?_
 simp only [ZZ,WW,Ze,reduceCtorEq,zd,ze,za,zf,zb]
 refine ⟨qwR (qjj (ddE l) (by rw [qac];omega)),?_⟩
 refine qwQ 33 (ddE l) k _ (by rw [qac];exact hI k hk) (by rw [qac];exact hk) rfl (by rw [qac];omega) rfl ?_
 simp only [ZZ,WW,Ze,reduceCtorEq,zd,ze,za,zf,zb]
 have hrow:List.take k (ddE l)++[.str d.site,int (m+1),int d.tm,int d.kind,.str d.id,.str d.field,.str d.value,int d.frm,int d.upto,.str d.osite,int d.ono,.str (sumF s e)] :: List.drop k (ddE l)=ddE (l.take k++addD l d :: l.drop k):=by
  rw [ha,he]
  simp only [ddE,List.map_append,zl,List.map_take,List.map_drop]
  rfl
 rw [hrow,qvQ ho hq (fun i p hi hp=>?_) (fun i p hi hp=>?_)]
 ·rw [ha,he]
  exact hlo i p hi hp
 ·rw [ha,he]
  exact hhi i p hi hp
def addE (l:List Dd) (site:List UInt8) (t k:Int) (id f v:List UInt8) (a b:Int):Int:=qbw [qol l site t,qbR ((!inE k 1 6 || decide (k=3)) || decide (k=6)) 4,qjJ (newD site t k id f v a b)]
def addW (l:List Dd) (site:List UInt8) (t k:Int) (id f v:List UInt8) (a b:Int):List Dd×Int:=if addE l site t k id f v a b=0 then (srtD (l++[addD l (newD site t k id f v a b)]),0) else ([],addE l site t k id f v a b)
theorem qjr {e:Int} {r:List Int} (h:qbw (e :: r)=0):e=0:=by
 unfold qbw at h
 split at h
 ·assumption
 ·exact h
set_option maxRecDepth 100000 in
set_option maxHeartbeats 4000000 in
theorem qwO (l:List Dd) (site:List UInt8) (t k:Int) (id f v:List UInt8) (a b:Int) (hI:∀ k,k≤l.length→qsB k l.length) (hl:l.length≤100000) (hB:DdsB l) (dB:DdB (newD site t k id f v a b)) :
  PCall Tryz.prog ED 43 [.sl 12 (ddE l),.str site,int t,int k,.str id,.str f,.str v,.agg [int a,int b]] (·=.tup [.sl 12 (ddE (addW l site t k id f v a b).1),int (addW l site t k id f v a b).2]):=by
 unfold addW
 have hd:ddC (newD site t k id f v a b)=[.str site,int 0,int t,int k,.str id,.str f,.str v,int a,int b,.str [],int 0,.str []]:=rfl
 have hfm:=upD (qjq _ dB)
 have hsb:site.length≤200000:=dB.b1
 rw [hd] at hfm
 refine qaf mixed Tryz.func43 qmq ?_
 simp only [a0,l0,OS.ao,zl,List.map_nil,zk,zp,zo,zq,zu,zd,zj,zm,qiv,qij,ZZ,WW,Ze,reduceCtorEq,zd,ze,za,zf,zb]
 refine use1 (upD (qqO k 1 6)) rfl (.inl rfl) ?_
 simp only [ZZ,WW,Ze,reduceCtorEq,zd,ze,za,zf,zb]
 refine ⟨fun h=>by rw [h];rfl,fun h=>by rw [h];rfl,?_⟩
 have hb2:((!inE k 1 6 || decide (k=3)) || decide (k=6))=((!inE k 1 6 || decide (k=3)) || decide (k=6)):=rfl
 generalize ho:((!inE k 1 6 || decide (k=3)) || decide (k=6))=other at *
 refine drg4 (x1:=int (qol l site t)) (x2:=int (qbR other 4)) (x3:=int (qjJ (newD site t k id f v a b))) (x4:=int (addE l site t k id f v a b)) ?_
 simp only [ZZ,WW,Ze,reduceCtorEq,zd,ze,za,zf,zb]
 have he:addE l site t k id f v a b=qbw [qol l site t,qbR other 4,qjJ (newD site t k id f v a b)]:=by rw [addE,ho]
 refine ⟨usep (qm3 l site t hB (by omega) (by omega)) rfl (.inl rfl),usep (qdB other 4) rfl (.inl rfl),usep hfm rfl (.inl rfl),usep (by rw [he];exact qj2 [qol l site t,qbR other 4,qjJ (newD site t k id f v a b)] (by simp)) rfl (.inl rfl),?_⟩
 refine br ?_ ?_
 ·intro h
  have h:¬ addE l site t k id f v a b=0:=by simpa using h
  rw [if_neg h]
  simp only [ZZ,WW,Ze,reduceCtorEq,zd,ze,za,zf,zb]
  rfl
 ·intro h
  have h:addE l site t k id f v a b=0:=by simpa using h
  rw [if_pos h]
  have hc:(ckdF l).2=0:=by
   have h1:=qjr (he ▸ h)
   exact qjr h1
  have hr:=(qrf hc).2.1
  have hadd:=qsq l _ hI hl hB (qxt hc) dB hr
  rw [hd] at hadd
  simp only [ZZ,WW,Ze,reduceCtorEq,zd,ze,za,zf,zb]
  refine use1 hadd rfl (.inl rfl) ?_
  simp only [ZZ,WW,Ze,reduceCtorEq,zd,ze,za,zf,zb]
end Go.Proofs.YtjgdjinhkgjpeaaGreatDoor
namespace Go.Proofs.YtjgdjinhkgjpeaaGreatDoor
open List renaming append_assoc→yx,getElem?_drop→z6,getElem?_eq_getElem→zr,getElem?_take→ye,length_append→zx,length_drop→zR,length_take→zQ,mem_of_mem_drop→ym
open _root_.Array renaming getElem?_eq_some_iff→zz,getElem?_modify→yr,length_toList→yj
open Go.Lib Go.RowKit Go.Shelf
section
variable {P:Program}
theorem qig (w:World) (dT sT ty e:TypeId) (z g o dLen dCap:Nat) (A:Addr) (sLen sCap:Nat) (us:List Value) (cur:Array Value) (hu:P.underlying dT=some (.slice e)) (hs:(P.info? e).map (·.size)=some z) (hg:w.heap[g]?=some (.cells cur e (0,0)))
  (hn:us.length=Nat.min sLen dLen * z) (hsrc:∀ j u,us[j]?=some u→w.cell? (A.add j)=some u) (hin:o+us.length≤cur.size) (h1:∀ v∈us,v.oneCell'=true) :
  (Builtin.copy_ #[dT,sT] ty #[.slice (some ⟨g,o,none⟩) dLen dCap,.slice (some A) sLen sCap]).run P w=.ok (goInt (Nat.min sLen dLen)) (w.setRow g (cur.toList.take o++us++cur.toList.drop (o+us.length)).toArray):=by
 have hfc:=run_firstCells_some (P:=P) w z (Nat.min sLen dLen) A sLen sCap us hn hsrc
 have hst:=run_storeCells_at P g o e us 0 cur w hg (by omega) h1
 rw [Nat.add_zero] at hst
 cases hq:P.info? e with
 |none=>simp [hq] at hs
 |some i=>
  have hi:i.size=z:=by simpa [hq] using hs
  simp [Builtin.copy_,run_underlying hu,Builtin.lenOf,sizeOf,typeInfo,hq,hi,hfc,hst]
theorem qld {ops:Array Oper} {o:Oper} {a:Act} {w:World} {K:Act→World→Prop} {Q:Exit→Act→World→Prop} {E:Prop}
  (hg:o.guard=none) (d x:Operand) (dT sT:TypeId) (hop:o.op=Op.call { callee:=Callee.builtin Builtin.copy,args:=#[d,x],argTypes:=#[dT,sT] })
  (v u:Value) (hd:a.eval d=v) (hx:a.eval x=u) {v':Value} {w':World} (hr:(Builtin.copy_ #[dT,sT] o.type #[v,u]).run P w=.ok v' w') (hK:K (a.put o.dst v') w') :
  if Region.wanted o (yielded ops a.tmps)=true then Oper.wp P o a w K Q else E:=by
 have hw:Region.wanted o (yielded ops a.tmps)=true:=by simp [Region.wanted,hg]
 rw [if_pos hw]
 unfold Oper.wp
 simp [execOp,hop,resolve,invoke,builtin,hd,hx,hr,Result.andThen]
 exact hK
theorem qlP (w:World) (tS tR e:TypeId) (ht:P.underlying tS=some (.slice e)) (size:Nat) (hz:∀ w,(Go.sizeOf e).run P w=.ok size w) (g o h p:Nat) (la ca lb cb:Nat) (hne:g≠h) {u:Value} (ha:w.cell? ⟨g,o,none⟩=some u) (cur:Array Value) (t:TypeId) (hb:w.heap[h]?=some (.cells cur t (0,0))) :
  (Extern.SlicesOverlaps.overlaps #[tS,tS] #[tR] #[.slice (some ⟨g,o,none⟩) la ca,.slice (some ⟨h,p,none⟩) lb cb]).run P w=.ok (.bool false) w:=by
 have hnb:(g != h)=true:=by simpa using hne
 have hnb':(g == h)=false:=by simpa using hne
 obtain ⟨c1,t1,f1,hg1,ho1⟩:∃ c1 t1 f1,w.heap[g]?=some (.cells c1 t1 f1)∧o < c1.size:=by
  unfold World.cell? at ha
  cases hq:w.heap[g]? with
  |none=>simp [hq] at ha
  |some ob=>
   cases ob with
   |cells c t f=>exact ⟨c,t,f,rfl,by simp [hq] at ha;exact (zz.1 ha).1⟩
   |_=>simp [hq] at ha
 have hsa:w.shape? g=some (t1,c1.size):=by simp [World.shape?,hg1]
 have hsb:w.shape? h=some (t,cur.size):=by simp [World.shape?,hb]
 have hfb:∀ q,w.frozen? ⟨h,q,none⟩=false:=fun q=>by simp [World.frozen?,hb]
 obtain ⟨n1,hn1⟩:∃ n1,c1.size=n1+1:=⟨c1.size - 1,by omega⟩
 have hpb:∀ {α β:Type} (x:α) (f:α→Sem β),(pure x:Sem α).bind f=f x:=fun _ _=>rfl
 rw [hn1] at hsa
 conv=>lhs;arg 2;whnf
 by_cases h0:la=0∨lb=0∨size=0
 ·simp [Sem.run,hpb,Sem.bind,ht,hz,h0]
 ·cases hf1:w.frozen? ⟨g,o,none⟩<;>cases hf2:w.frozen? ⟨g,n1+1,none⟩<;>simp [hpb,Sem.bind,ht,hz,h0,hnb,hnb',frozen,noView,viewAt,mayBeOne,stringish,shape,Sem.run,hsa,hsb,hf1,hf2,hfb]
end
theorem qto {α:Type} (c us news R:List α) (i n:Nat) (hi:i < n) (hc:(n+1) * 12≤c.length) (hu:us.length=(n - i) * 12) (hn:news.length=12) :
  ((c.take ((i+1) * 12)++us++R).take (i * 12)++news++(c.take ((i+1) * 12)++us++R).drop (i * 12+12)).take ((n+1) * 12)=c.take (i * 12)++news++us:=by
 have e2:(c.take ((i+1) * 12)).length=(i+1) * 12:=by simp;omega
 have e1:(c.take (i * 12)).length=i * 12:=by simp;omega
 have h1:(c.take ((i+1) * 12)++us++R).take (i * 12)=c.take (i * 12):=by
  rw [yx,List.take_append_of_le_length (by omega),List.take_take,Nat.min_eq_left (by omega)]
 have h2:(c.take ((i+1) * 12)++us++R).drop (i * 12+12)=us++R:=by
  rw [yx,show i * 12+12=(c.take ((i+1) * 12)).length by rw [e2];omega,List.drop_left]
 rw [h1,h2,← yx]
 exact List.take_left' (by simp only [zx,e1,hn,hu];omega)
set_option maxHeartbeats 4000000 in
set_option maxRecDepth 1000000 in
theorem qtn (w:World) (g n cap i vb voff vc:Nat) (cur:Array Value) (news:List Value) (hi:i < n) (hn:n+1≤cap) (hcap:cap≤maxLen) (hg:w.heap[g]?=some (.cells cur tDd (0,0))) (hcs:cur.size=cap * 12) (hnl:news.length=12) (hnews:∀ j u,news[j]?=some u→w.cell? ⟨vb,voff+j,none⟩=some u)
  (h1n:∀ u∈news,u.oneCell'=true) (h1x:∀ u∈cur.toList.take (n * 12),u.oneCell'=true) (hvb:vb≠g) :
  Calls Tryz.prog fIns #[.slice (some ⟨g,0,none⟩) n cap,.int .i64 i,.slice (some ⟨vb,voff,none⟩) 1 vc] w fun e w'=>e=.returned (.slice (some ⟨g,0,none⟩) (n+1) cap)∧
   ∃ cur',w'=w.drew.setRow g cur'∧cur'.size=cap * 12∧cur'.toList.take ((n+1) * 12)=(cur.toList.take (n * 12)).take (i * 12)++news++(cur.toList.take (n * 12)).drop (i * 12):=by
 have hA:appB Tryz.prog tDd 12 144=true:=by kernel_rfl
 obtain ⟨i0,zv,q1,q2,q3,q4,q5,q6,q7⟩:=qdf hA
 have t22:Tryz.prog.underlying 26=some (.slice tDd):=Tryz.underlying26
 have hsz:(Tryz.prog.info? tDd).map (·.size)=some 12:=by rw [q1];simp [q3]
 have hov:∀ lb cb,(callFunc 160 #[.slice (some ⟨vb,voff,none⟩) 1 vc,.slice (some ⟨g,(i+1) * 12,none⟩) lb cb]).run Tryz.prog w=.ok (.value (.bool false)) w:=fun lb cb=>by
  rw [run_callFunc_extern Tryz.func160 (by kernel_rfl) (by kernel_rfl) (by kernel_rfl) (e:=Extern.SlicesOverlaps.overlaps #[26,26] #[4]) (by kernel_rfl),
   qlP w 26 4 tDd t22 12 (fun w=>Tryz.sizeOf44 w) vb voff g ((i+1) * 12) 1 vc lb cb hvb (hnews 0 _ (zr (by omega))) cur tDd hg]
  rfl
 have hz1:¬ ((1:Int)=0):=by decide
 have hz2:¬ ((i:Int)=(n:Int)):=by omega
 have hz3:¬ ((cap:Int) < (n:Int)+1):=by omega
 have hw1:IntKind.i64.wrap ((i:Int)+1)=(i:Int)+1:=by rw [IntKind.wrap_i64];unfold maxLen at hcap;omega
 have hw2:IntKind.i64.wrap ((n:Int)+1)=(n:Int)+1:=by rw [IntKind.wrap_i64];unfold maxLen at hcap;omega
 have hb1:(0:Int)≤(i:Int)+1:=by omega
 have hin:i≤n:=by omega
 have htn:((i:Int)+1).toNat=i+1:=by omega
 have htm:((n:Int)+1).toNat=n+1:=by omega
 have hb2:¬ (cap=i+1):=by omega
 have hb3:(i:Int)≤(n:Int)+1:=by omega
 have hb4:¬ (cap=i):=by omega
 have cell_g:∀ j u,(cur.toList.take (n * 12))[j]?=some u→w.drew.cell? ⟨g,j,none⟩=some u:=by
  intro j u hj
  rw [ye] at hj
  split at hj
  ·show (match w.heap[g]? with|some (.cells c _ _)=>if (none:Option Nat).isSome then none else c[j]?|_=>none)=some u
   simpa [hg] using hj
  ·cases hj
 obtain ⟨us,hus⟩:∃ us,us=(cur.toList.take (n * 12)).drop (i * 12):=⟨_,rfl⟩
 have hul:us.length=(n - i) * 12:=by rw [hus];simp;omega
 obtain ⟨cur1,hc1⟩:∃ cur1:Array Value,cur1=(cur.toList.take ((i+1) * 12)++us++cur.toList.drop ((i+1) * 12+us.length)).toArray:=⟨_,rfl⟩
 have hs1:cur1.size=cap * 12:=by rw [hc1];simp only [List.size_toArray,zx,zQ,zR,yj,hul,hcs];omega
 have cp1:∀ ty,(Builtin.copy_ #[26,26] ty #[.slice (some ⟨g,(i+1) * 12,none⟩) (n+1 - (i+1)) (cap - (i+1)),.slice (some ⟨g,i * 12,none⟩) (n+1 - i) (cap - i)]).run Tryz.prog w.drew=.ok (goInt (n - i:Nat)) (w.drew.setRow g cur1):=by
  intro ty
  have hmin:Nat.min (n+1 - i) (n+1 - (i+1))=n - i:=by simp only [Nat.min_def];split<;>omega
  have h:=qig (P:=Tryz.prog) w.drew 26 26 ty tDd 12 g ((i+1) * 12) (n+1 - (i+1)) (cap - (i+1)) ⟨g,i * 12,none⟩ (n+1 - i) (cap - i) us cur t22 hsz hg (by rw [hmin];exact hul) (fun j u hj=>by
   rw [Addr.add_lit]
   rw [hus,z6] at hj
   exact cell_g _ _ hj) (by rw [hul,hcs];omega) (fun u hu=>h1x u (ym (by rwa [hus] at hu)))
  rw [hmin] at h
  rw [hc1]
  exact h
 have hg1:(w.drew.setRow g cur1).heap[g]?=some (.cells cur1 tDd (0,0)):=setRow_heap w.drew g cur cur1 tDd (0,0) hg
 obtain ⟨cur2,hc2⟩:∃ cur2:Array Value,cur2=(cur1.toList.take (i * 12)++news++cur1.toList.drop (i * 12+news.length)).toArray:=⟨_,rfl⟩
 have hs2:cur2.size=cap * 12:=by rw [hc2];simp only [List.size_toArray,zx,zQ,zR,yj,hnl,hs1];omega
 have hne2:(w.drew.setRow g cur1).heap[vb]?=w.heap[vb]?:=by
  show (w.heap.modify g _)[vb]?=_
  rw [yr,if_neg (Ne.symm hvb)]
 have cp2:∀ ty,(Builtin.copy_ #[26,26] ty #[.slice (some ⟨g,i * 12,none⟩) (n+1 - i) (cap - i),.slice (some ⟨vb,voff,none⟩) 1 vc]).run Tryz.prog (w.drew.setRow g cur1)=.ok (goInt (1:Nat)) (w.drew.setRow g cur2):=by
  intro ty
  have hmin:Nat.min 1 (n+1 - i)=1:=by simp only [Nat.min_def];split<;>omega
  have h:=qig (P:=Tryz.prog) (w.drew.setRow g cur1) 26 26 ty tDd 12 g (i * 12) (n+1 - i) (cap - i) ⟨vb,voff,none⟩ 1 vc news cur1 t22 hsz hg1 (by rw [hmin];exact hnl) (fun j u hj=>by
   rw [Addr.add_lit]
   rw [← hnews j u hj]
   exact World.cell?_of_block hne2) (by rw [hnl,hs1];omega) h1n
  rw [hmin,qiY] at h
  rw [hc2]
  exact h
 have hfin:cur2.toList.take ((n+1) * 12)=(cur.toList.take (n * 12)).take (i * 12)++news++(cur.toList.take (n * 12)).drop (i * 12):=by
  rw [hc2,hc1]
  simp only [← hus]
  rw [List.take_take,Nat.min_eq_left (by omega),hnl]
  exact qto cur.toList us news _ i n hi (by simp;omega) hul hnl
 have F1:=Lib.hid hfin
 have F2:=Lib.hid hs2
 have F3:=Lib.hid cp1
 have F4:=Lib.hid cp2
 clear hfin hs2 cp1 cp2 hc1 hc2 hus hul hg1 cell_g hs1 hsz h1x h1n hnews
 go_enter Tryz.func121,Tryz.ntmps121
 go_wp2_with (simp only [hov])
 go_region_law_o (refine qld rfl _ _ 26 26 rfl (.slice (some ⟨g,(i+1) * 12,none⟩) (n+1 - (i+1)) (cap - (i+1))) (.slice (some ⟨g,i * 12,none⟩) (n+1 - i) (cap - i)) (by simp [Act.eval,Act.put]) (by simp [Act.eval,Act.put]) (F3.out _) ?_)
 go_wp2_with (simp only [F4.out])
 go_ret
 exact ⟨rfl,cur2,rfl,F2.out,F1.out⟩
theorem qrK {α:Type} (c us news R S:List α) (i n:Nat) (hi:i < n) (hc:c.length=i * 12) (hu:us.length=(n - i) * 12) (hn:news.length=12) :
  (((c++news++R).take ((i+1) * 12))++us++S).take ((n+1) * 12)=c++news++us:=by
 have h1:(c++news++R).take ((i+1) * 12)=c++news:=List.take_left' (by simp only [zx,hc,hn];omega)
 rw [h1]
 exact List.take_left' (by simp only [zx,hc,hn,hu];omega)
set_option maxHeartbeats 4000000 in
set_option maxRecDepth 1000000 in
theorem qtp (w:World) (g n i vb voff vc:Nat) (cur:Array Value) (news:List Value) (hi:i < n) (hn:n≤1000000) (hg:w.heap[g]?=some (.cells cur tDd (0,0))) (hcs:cur.size=n * 12) (hnl:news.length=12) (hnews:∀ j u,news[j]?=some u→w.cell? ⟨vb,voff+j,none⟩=some u)
  (h1n:∀ u∈news,u.oneCell'=true) (h1x:∀ u∈cur.toList.take (n * 12),u.oneCell'=true) :
  Calls Tryz.prog fIns #[.slice (some ⟨g,0,none⟩) n n,.int .i64 i,.slice (some ⟨vb,voff,none⟩) 1 vc] w fun e w'=>∃ G cur' row,e=.returned (.slice (some ⟨w.heap.size,0,none⟩) (n+1) G)∧
   w'=(w.drew.alloc (.cells row tDd)).drew.setRow w.heap.size cur'∧n+1≤G∧G≤maxLen∧cur'.size=G * 12∧cur'.toList.take ((n+1) * 12)=(cur.toList.take (n * 12)).take (i * 12)++news++(cur.toList.take (n * 12)).drop (i * 12):=by
 have hA:appB Tryz.prog tDd 12 144=true:=by kernel_rfl
 obtain ⟨i0,zv,q1,q2,q3,q4,q5,q6,q7⟩:=qdf hA
 have t22:Tryz.prog.underlying 26=some (.slice tDd):=Tryz.underlying26
 have t3:Tryz.prog.underlying 3=some (.int .i64):=by kernel_rfl
 have hsz:(Tryz.prog.info? tDd).map (·.size)=some 12:=by rw [q1];simp [q3]
 have hgw:g < w.heap.size:=(zz.1 hg).1
 have hvw:vb < w.heap.size:=by
  have h:=hnews 0 _ (zr (by omega))
  rcases Nat.lt_or_ge vb w.heap.size with h'|h'
  ·exact h'
  ·simp [World.cell?,Array.getElem?_eq_none h'] at h
 have hz1:¬ ((1:Int)=0):=by decide
 have hz2:¬ ((i:Int)=(n:Int)):=by omega
 have hz3:(n:Int) < (n:Int)+1:=by omega
 have hw1:IntKind.i64.wrap ((i:Int)+1)=(i:Int)+1:=by rw [IntKind.wrap_i64];omega
 have hw2:IntKind.i64.wrap ((n:Int)+1)=(n:Int)+1:=by rw [IntKind.wrap_i64];omega
 have hw3:IntKind.i64.wrap ((n:Int)+1 - (i:Int))=(n:Int)+1 - (i:Int):=by rw [IntKind.wrap_i64];omega
 have hkk:(n:Int)+1 - (i:Int)=((n+1 - i:Nat):Int):=by omega
 have hb1:(0:Int)≤(i:Int)+1:=by omega
 have hin:i≤n:=by omega
 have hin1:i≤n+1:=by omega
 have htn:((i:Int)+1).toNat=i+1:=by omega
 have htm:((n:Int)+1).toNat=n+1:=by omega
 have hb3:(i:Int)≤(n:Int)+1:=by omega
 have hb5:(i:Int)≤(n:Int):=by omega
 have hb6:¬ (n=i):=by omega
 obtain ⟨G,hG⟩:∃ G,G=grownCap w (n+1) n tDd:=⟨_,rfl⟩
 have hGn:n+1≤G:=by rw [hG];exact grownCap_ge w _ _ _
 have hGm:G≤maxLen:=by rw [hG];exact grownCap_le_maxLen w _ _ _ (by unfold maxLen;omega)
 have hG1:¬ (G=i):=by omega
 have hG2:¬ (G=i+1):=by omega
 obtain ⟨xs,hxs⟩:∃ xs,xs=cur.toList.take (n * 12):=⟨_,rfl⟩
 have hxl:xs.length=n * 12:=by rw [hxs];simp;omega
 have cell_g:∀ j u,xs[j]?=some u→w.cell? ⟨g,j,none⟩=some u:=by
  intro j u hj
  rw [hxs,ye] at hj
  split at hj
  ·show (match w.heap[g]? with|some (.cells c _ _)=>if (none:Option Nat).isSome then none else c[j]?|_=>none)=some u
   simpa [hg] using hj
  ·cases hj
 have h1xs:∀ u∈xs,u.oneCell'=true:=by rw [hxs];exact h1x
 rw [← hxs]
 clear hxs h1x
 have hold:(Builtin.firstCells i0.size i (.slice (some ⟨g,0,none⟩) i n)).run Tryz.prog w.drew=.ok (xs.take (i * 12)).toArray w.drew:=by
  rw [q3]
  exact run_firstCells_some w.drew 12 i ⟨g,0,none⟩ i n (xs.take (i * 12)) (by rw [zQ];omega) (fun j u hj=>by
   rw [Addr.add_lit,Nat.zero_add]
   rw [ye] at hj
   split at hj
   ·exact cell_g j u hj
   ·cases hj)
 obtain ⟨ROW,hROW⟩:∃ ROW:Array Value,ROW=(xs.take (i * 12)).toArray++Builtin.zeroCells zv.cells (n+1 - i)++Builtin.zeroCells zv.cells (G - (n+1)):=⟨_,rfl⟩
 have hrz:∀ ty,(Builtin.append_ #[26,3] ty #[.slice (some ⟨g,0,none⟩) i n,.int .i64 ((n:Int)+1 - (i:Int))]).run Tryz.prog w=.ok (.slice (some ⟨w.heap.size,0,none⟩) (n+1) G) (w.drew.alloc (.cells ROW tDd)):=fun ty=>by
  have h:=Lib.run_append_grow_zeros w 26 3 ty tDd i0 zv .i64 .i64 t22 t3 q1 q2 (some ⟨g,0,none⟩) i n (xs.take (i * 12)) hold (n+1 - i) (by omega) (by omega) (by omega) (by omega) (by rw [q4];omega) (by rw [q4,show i+(n+1 - i)=n+1 by omega];exact growslice_fits (by omega) (by omega))
  rw [show i+(n+1 - i)=n+1 by omega,← hG,← hROW] at h
  rw [hkk]
  exact h
 have hRs:ROW.size=G * 12:=by
  rw [hROW]
  simp only [Array.size_append,List.size_toArray,zQ,hxl,Builtin.zeroCells,Array.size_map,Array.size_range,q5]
  omega
 have hRt:ROW.toList.take (i * 12)=xs.take (i * 12):=by
  rw [hROW]
  simp only [Array.toList_append,yx]
  exact List.take_left' (by rw [zQ];omega)
 clear hold hROW hG
 obtain ⟨W1,hW1⟩:∃ W1,W1=w.drew.alloc (.cells ROW tDd):=⟨_,rfl⟩
 rw [← hW1] at hrz
 have hN1:W1.heap[w.heap.size]?=some (.cells ROW tDd (0,0)):=by rw [hW1];show (w.heap.push _)[w.heap.size]?=_;rw [Array.getElem?_push,if_pos rfl]
 have hold1:∀ b,b < w.heap.size→W1.heap[b]?=w.heap[b]?:=fun b hb=>by rw [hW1];show (w.heap.push _)[b]?=_;rw [Array.getElem?_push,if_neg (by omega)]
 obtain ⟨cur1,hc1⟩:∃ cur1:Array Value,cur1=(ROW.toList.take (i * 12)++news++ROW.toList.drop (i * 12+news.length)).toArray:=⟨_,rfl⟩
 have hs1:cur1.size=G * 12:=by rw [hc1];simp only [List.size_toArray,zx,zQ,zR,yj,hnl,hRs];omega
 have cpA:∀ ty,(Builtin.copy_ #[26,26] ty #[.slice (some ⟨w.heap.size,i * 12,none⟩) (n+1 - i) (G - i),.slice (some ⟨vb,voff,none⟩) 1 vc]).run Tryz.prog W1=.ok (goInt (1:Nat)) (W1.setRow w.heap.size cur1):=by
  intro ty
  have hmin:Nat.min 1 (n+1 - i)=1:=by simp only [Nat.min_def];split<;>omega
  have h:=qig (P:=Tryz.prog) W1 26 26 ty tDd 12 w.heap.size (i * 12) (n+1 - i) (G - i) ⟨vb,voff,none⟩ 1 vc news ROW t22 hsz hN1 (by rw [hmin];exact hnl) (fun j u hj=>by
   rw [Addr.add_lit,← hnews j u hj]
   exact World.cell?_of_block (hold1 vb hvw)) (by rw [hnl,hRs];omega) h1n
  rw [hmin] at h
  rw [hc1]
  exact h
 obtain ⟨W2,hW2⟩:∃ W2,W2=W1.setRow w.heap.size cur1:=⟨_,rfl⟩
 rw [← hW2] at cpA
 have hN2:W2.heap[w.heap.size]?=some (.cells cur1 tDd (0,0)):=by rw [hW2];exact setRow_heap W1 w.heap.size ROW cur1 tDd (0,0) hN1
 have hold2:∀ b,b < w.heap.size→W2.heap[b]?=w.heap[b]?:=fun b hb=>by
  rw [← hold1 b hb,hW2]
  show (W1.heap.modify w.heap.size _)[b]?=_
  rw [yr,if_neg (by omega)]
 obtain ⟨us,hus⟩:∃ us,us=xs.drop (i * 12):=⟨_,rfl⟩
 have hul:us.length=(n - i) * 12:=by rw [hus,zR];omega
 obtain ⟨cur2,hc2⟩:∃ cur2:Array Value,cur2=(cur1.toList.take ((i+1) * 12)++us++cur1.toList.drop ((i+1) * 12+us.length)).toArray:=⟨_,rfl⟩
 have hs2:cur2.size=G * 12:=by rw [hc2];simp only [List.size_toArray,zx,zQ,zR,yj,hul,hs1];omega
 have cpB:∀ ty,(Builtin.copy_ #[26,26] ty #[.slice (some ⟨w.heap.size,(i+1) * 12,none⟩) (n+1 - (i+1)) (G - (i+1)),.slice (some ⟨g,i * 12,none⟩) (n - i) (n - i)]).run Tryz.prog W2.drew=.ok (goInt (n - i:Nat)) (W2.drew.setRow w.heap.size cur2):=by
  intro ty
  have hmin:Nat.min (n - i) (n+1 - (i+1))=n - i:=by simp only [Nat.min_def];split<;>omega
  have h:=qig (P:=Tryz.prog) W2.drew 26 26 ty tDd 12 w.heap.size ((i+1) * 12) (n+1 - (i+1)) (G - (i+1)) ⟨g,i * 12,none⟩ (n - i) (n - i) us cur1 t22 hsz hN2 (by rw [hmin];exact hul) (fun j u hj=>by
   rw [Addr.add_lit]
   rw [hus,z6] at hj
   rw [← cell_g _ _ hj]
   exact World.cell?_of_block (hold2 g hgw)) (by rw [hul,hs1];omega) (fun u hu=>h1xs u (ym (by rwa [hus] at hu)))
  rw [hmin] at h
  rw [hc2]
  exact h
 have hfin:cur2.toList.take ((n+1) * 12)=xs.take (i * 12)++news++xs.drop (i * 12):=by
  rw [hc2,hc1]
  simp only [← hus,hRt]
  exact qrK (xs.take (i * 12)) us news _ _ i n hi (by rw [zQ];omega) hul hnl
 have F1:=Lib.hid hfin
 have F2:=Lib.hid hs2
 have F3:=Lib.hid cpA
 have F4:=Lib.hid cpB
 have F5:=Lib.hid hrz
 have F6:=Lib.hid (show W2.drew.setRow w.heap.size cur2=(w.drew.alloc (.cells ROW tDd)).drew.setRow w.heap.size cur2 by rw [hW2,hW1];exact qiY (w.drew.alloc (.cells ROW tDd)).drew w.heap.size cur1 cur2)
 clear hfin hs2 cpA cpB hrz hc1 hc2 hus hul hN1 hN2 hold1 hold2 cell_g hs1 hsz h1xs h1n hnews hRs hRt hW1 hW2 hxl hkk
 generalize w.heap.size=N at *
 go_enter Tryz.func121,Tryz.ntmps121
 go_wp2_with (first|(at_builtin;refine Lib.wpList_append_run _ rfl _ _ _ _ rfl _ _ rfl rfl _ _ (F5.out _) ?_)|simp only [F3.out])
 go_region_law_o (refine qld rfl _ _ 26 26 rfl (.slice (some ⟨N,(i+1) * 12,none⟩) (n+1 - (i+1)) (G - (i+1))) (.slice (some ⟨g,i * 12,none⟩) (n - i) (n - i)) (by simp [Act.eval,Act.put]) (by simp [Act.eval,Act.put]) (F4.out _) ?_)
 go_wp2
 go_ret
 exact ⟨G,cur2,ROW,rfl,F6.out,hGn,hGm,F2.out,F1.out⟩
theorem qxF (i n:Nat) (hin:i≤n):qsB i n:=by
 by_cases he:i=n
 ·subst he
  exact qvR i
 intro w v xs news vb voff vc hown h1x hnl hnews h1n hne hn
 have hxl:xs.length=n * 12:=hown.1
 rcases hown.2 with ⟨rfl,rfl⟩|⟨g,cap,cur,rfl,hbg,hg,hnc,hcm,hcs,htake⟩
 ·omega
 have hlen:(n+1) * 12=(xs.take (i * 12)++news++xs.drop (i * 12)).length:=by simp only [zx,zQ,zR,hnl,hxl];omega
 rw [← htake] at h1x
 by_cases hroom:n+1≤cap
 ·refine (qtn w g n cap i vb voff vc cur news (by omega) hroom hcm hg hcs hnl hnews h1n h1x (fun e=>hne (by rw [e];rfl))).mono ?_
  rintro e w' ⟨rfl,cur',rfl,k1,k2⟩
  rw [htake] at k2
  refine ⟨_,rfl,⟨hlen.symm,.inr ⟨g,cap,cur',rfl,Nat.zero_le _,setRow_heap w.drew g cur cur' tDd (0,0) hg,hroom,hcm,k1,k2⟩⟩,⟨rfl,rfl,rfl,by show w.heap.size≤(w.heap.modify g _).size;rw [Array.size_modify];exact Nat.le_refl _,fun k hk hne'=>?_⟩,.inl rfl⟩
  show (w.heap.modify g _)[k]?=_
  rw [yr,if_neg (fun e=>hne' (by rw [e];rfl))]
 ·have hcn:cap=n:=by omega
  subst hcn
  refine (qtp w g cap i vb voff vc cur news (by omega) hn hg hcs hnl hnews h1n h1x).mono ?_
  rintro e w' ⟨G,cur',row,rfl,rfl,k0,k1,k2,k3⟩
  rw [htake] at k3
  refine ⟨_,rfl,⟨hlen.symm,.inr ⟨w.heap.size,G,cur',rfl,Nat.zero_le _,setRow_heap _ w.heap.size row cur' tDd (0,0) ?_,k0,k1,k2,k3⟩⟩,⟨rfl,rfl,rfl,by show w.heap.size≤((w.heap.push _).modify w.heap.size _).size;rw [Array.size_modify,Array.size_push];omega,fun k hk hne'=>?_⟩,.inr rfl⟩
  ·show (w.heap.push _)[w.heap.size]?=_
   rw [Array.getElem?_push,if_pos rfl]
  ·show ((w.heap.push _).modify w.heap.size _)[k]?=_
   rw [yr,if_neg (by omega),Array.getElem?_push,if_neg (by omega)]
end Go.Proofs.YtjgdjinhkgjpeaaGreatDoor
namespace Go.Proofs.YtjgdjinhkgjpeaaGreatDoor
open Nat renaming le_trans→z8,reduceAdd→zd,reduceEqDiff→zb,reduceLT→zf,reduceLeDiff→za,reduceMul→ze,reduceSub→zu
open List renaming cons_append→zo,getElem?_eq_getElem→zr,getElem?_eq_some_iff→zw,length_cons→zk,length_map→zV,length_nil→zp,map_append→yh,map_cons→zl,map_nil→zt,mem_append→zC,mem_singleton→zL,nil_append→zq,replicate_succ→zj,replicate_zero→zm,reverse_reverse→yw,take_succ_eq_append_getElem→zX
open Bool renaming and_eq_true→zh,true_and→yk
open Go.RowKit
theorem qws:(ckdF []).2=0:=by decide
theorem qwK:addE [] [97] 5 2 [120] [] [104,111,116] 0 0=0:=by
 unfold addE
 rw [qsW qws]
 decide +kernel
theorem qqt:PCall Tryz.prog ED 11 [] (·=.bool true):=by
 have hlen:∀ d,(srtD ([]++[addD [] d])).length=1:=fun d=>(qg8 _).length_eq.trans rfl
 refine qaf mixed Tryz.func11 qhu ?_
 simp only [a0,l0,OS.ao,zl,zt,zk,zp,zo,zq,zu,zd,zj,zm,qep,qec,ZZ,WW,Ze,reduceCtorEq,zd,ze,za,zf,zb]
 refine use1 (qwO [] [97] 5 2 [120] [] [104,111,116] 0 0 (fun k hk=>qxF k _ hk) (by simp) DdsB.nil (by constructor<;>simp [newD])) rfl (.inl rfl) ?_
 rw [addW,if_pos qwK]
 have h1:=hlen (newD [97] 5 2 [120] [] [104,111,116] 0 0)
 generalize srtD ([]++[addD [] (newD [97] 5 2 [120] [] [104,111,116] 0 0)])=q at *
 have h2:(ddE q).length=1:=by rw [qac];exact h1
 simp only [ZZ,WW,Ze,reduceCtorEq,zd,ze,za,zf,zb,h2]
 rfl
def qaK:IC:=(.seq (.reg [qO 4 (.mov (.c (.bool false)))]) (.seq (.reg [qM 5 0,qM 6 1,qO 7 (.call 65 [.t 5,.t 6]),qO 8 (.bin .geq (.t 7) (.c (.int .i64 0))),qM 4 8]) .ret))
def qaI:List IRes:=[.t 4]
theorem qbX:chkF Tryz.prog Tryz.f162 qaK qaI 9=true:=by kernel_rfl
def qc4:IC:=(.seq (.reg [qO 2 (.box 26 (.t 0)),qO 3 (.box 44 (.t 1)),qO 4 (.mov (.c (.bool false)))]) (.seq (.reg [qO 5 (.ld 1 false (.t 2)),qO 6 (.mkf 163 [.t 3,.t 2]),qO 7 (.call 162 [.t 5,.t 6]),qO 8 (.not (.t 7)),qM 4 8]) .ret))
def qcT:List IRes:=[.t 4]
theorem qfX:chkF Tryz.prog Tryz.f123 qc4 qcT 9=true:=by kernel_rfl
def qaC:IC:=(.seq (.reg [qO 3 (.box 44 (.t 0)),qO 4 (.mov (.c (.bool false)))]) (.seq (.reg [qO 5 (.fla 9 (.t 3)),qO 6 (.ld 2 true (.t 5)),qO 7 (.fla 0 (.t 1)),qO 8 (.ld 2 true (.t 7)),qO 9 (.eqa false [.s,.i] (.t 6) (.t 8)),qM 10 9,⟨some 11,.fla 3 (.t 3),(some (10,true))⟩,⟨some 12,.ld 1 false (.t 11),(some (10,true))⟩,⟨some 13,.bin .eql (.t 12) (.c (.int .i64 6)),(some (10,true))⟩,⟨some 14,.mov (.t 13),(some (10,true))⟩,⟨some 15,.fla 3 (.t 3),(some (14,false))⟩,⟨some 16,.ld 1 false (.t 15),(some (14,false))⟩,⟨some 17,.bin .eql (.t 16) (.c (.int .i64 3)),(some (14,false))⟩,⟨some 18,.mov (.t 17),(some (14,false))⟩,⟨some 19,.ld 1 false (.t 2),(some (18,true))⟩,⟨some 20,.ld 12 true (.t 3),(some (18,true))⟩,⟨some 21,.call 123 [.t 19,.t 20],(some (18,true))⟩,⟨some 22,.pick (.t 18) (.t 21) (.c (.bool false)),(some (14,false))⟩,⟨some 23,.pick (.t 14) (.c (.bool true)) (.t 22),(some (10,true))⟩,qO 24 (.pick (.t 10) (.t 23) (.c (.bool false))),qM 4 24]) .ret))
def qaB:List IRes:=[.t 4]
theorem qaL:chkF Tryz.prog Tryz.f163 qaC qaB 25=true:=by kernel_rfl
def qeN:IC:=(.seq (.reg [qO 7 (.box 40 (.t 3)),qO 8 (.mov (.c (.nl 12))),qO 9 (.mov (.c (.int .i64 0)))]) (.seq (.seq (.reg [qM 14 0,qM 15 1,qM 16 2,qO 17 (.call 122 [.t 14,.t 15,.t 16]),qM 10 17]) (.seq (.reg [qM 18 10,qO 19 (.bin .neq (.t 18) (.c (.int .i64 0)))]) (.cond (.t 19) (.seq (.reg [qM 20 10,qO 8 (.mov (.c (.nl 12))),qM 9 20]) .ret) .skip))) (.seq (.reg [qM 22 0,qO 23 (.ld 2 true (.t 7)),qO 24 (.call 28 [.t 22,.t 23]),qM 21 24,qO 25 (.ext 0 (.t 21)),qO 26 (.ext 1 (.t 21)),qO 11 (.alc 44 [.str [],.int .i64 0,.int .i64 0,.int .i64 0,.str [],.str [],.str [],.int .i64 0,.int .i64 0,.str [],.int .i64 0,.str []]),⟨none,.st 12 (.t 11) (.t 25),none⟩,qM 12 26]) (.seq (.seq (.reg [qM 27 12,qO 28 (.not (.t 27))]) (.cond (.t 28) (.seq (.reg [qO 8 (.mov (.c (.nl 12))),qO 9 (.mov (.c (.int .i64 8)))]) .ret) .skip)) (.seq (.reg [qO 13 (.mov (.c (.int .i64 6)))]) (.seq (.seq (.reg [qO 29 (.fla 3 (.t 11)),qO 30 (.ld 1 false (.t 29)),qO 31 (.bin .eql (.t 30) (.c (.int .i64 2))),qM 32 31,⟨some 33,.fla 3 (.t 11),(some (32,false))⟩,⟨some 34,.ld 1 false (.t 33),(some (32,false))⟩,⟨some 35,.bin .eql (.t 34) (.c (.int .i64 4)),(some (32,false))⟩,qO 36 (.pick (.t 32) (.c (.bool true)) (.t 35))]) (.cond (.t 36) (.reg [qO 13 (.mov (.c (.int .i64 3)))]) .skip)) (.cut (.seq (.block 0 (.seq (.seq (.reg [qO 38 (.fla 3 (.t 11)),qO 39 (.ld 1 false (.t 38)),qO 40 (.bin .eql (.t 39) (.c (.int .i64 6))),qM 37 40]) (.cond (.t 37) .skip (.reg [qM 41 13,qO 42 (.bin .eql (.t 41) (.c (.int .i64 6))),qM 43 42,⟨some 44,.fla 0 (.t 7),(some (43,true))⟩,⟨some 45,.ld 1 false (.t 44),(some (43,true))⟩,⟨some 46,.mov (.t 1),(some (43,true))⟩,⟨some 47,.bin .neq (.t 45) (.t 46),(some (43,true))⟩,qO 48 (.pick (.t 43) (.t 47) (.c (.bool false))),qM 37 48]))) (.cut (.cond (.t 37) (.seq (.reg [qO 8 (.mov (.c (.nl 12))),qO 9 (.mov (.c (.int .i64 16)))]) .ret) (.seq (.reg [qM 50 0,qO 51 (.ld 12 true (.t 11)),qO 52 (.call 123 [.t 50,.t 51]),qO 53 (.not (.t 52)),qM 49 53]) (.cond (.t 49) (.seq (.reg [qO 8 (.mov (.c (.nl 12))),qO 9 (.mov (.c (.int .i64 11)))]) .ret) .skip)))))) (.seq (.reg [qM 54 0,qM 55 1,qO 56 (.bld [.str [],.int .i64 0] [(0,1,.t 55)]),qM 57 2,qM 58 13,qO 59 (.ld 2 true (.t 7)),qO 60 (.bld [.str [],.int .i64 0,.int .i64 0,.int .i64 0,.str [],.str [],.str [],.int .i64 0,.int .i64 0,.str [],.int .i64 0,.str []] [(0,2,.t 56),(2,1,.t 57),(3,1,.t 58),(9,2,.t 59)]),qO 61 (.call 124 [.t 54,.t 60]),qM 8 61,qO 9 (.mov (.c (.int .i64 0)))]) .ret)))))))))
def qeA:List IRes:=[.t 8,.t 9]
theorem qhR:chkF Tryz.prog Tryz.f81 qeN qeA 62=true:=by kernel_rfl
section
variable {E:Envt}
theorem qya (l:List Dd) (f:FuncId) (ps:List PV) (q:Dd→Bool) (hl:l.length≤1000000000) (hfn:Unit→fnB Tryz.prog f=true) (hps:Zl [] (ps.map .p)=true) (hf:∀ x∈l,PCall Tryz.prog E f (.agg (ddC x) :: ps) (·=.bool (q x))) (hn:∀ x:Dd,Zbh [] (.p (.agg (ddC x)) :: ps.map .p)=some (.agg (ddC x) :: ps)) (hr:∀ x:Dd,Zbj (.p (.agg (ddC x)) :: ps.map .p)=true):PCall Tryz.prog E 162 [.sl 12 (ddE l),.clo f ps] (·=.bool (l.any q)):=by
 refine qaf mixed Tryz.func162 qbX ?_
 simp only [a0,l0,OS.ao,zl,zt,zk,zp,zo,zq,zu,zd,zj,zm,qaK,qaI,ZZ,WW,Ze,reduceCtorEq,zd,ze,za,zf,zb]
 refine use1 (qiV l f ps q hl hfn hps hf hn hr) rfl (.inr rfl) ?_
 simp only [ZZ,WW,Ze,reduceCtorEq,zd,ze,za,zf,zb]
 congr 1
 rcases qny q l with ⟨h1,h2⟩|⟨k,x,h1,h2,h3,h4⟩
 ·rw [h2]
  rw [List.find?_eq_none] at h1
  have:l.any q=false:=by
   rw [List.any_eq_false]
   exact h1
  rw [this]
  rfl
 ·rw [h3]
  have:l.any q=true:=by
   rw [List.any_eq_true]
   exact ⟨x,List.mem_of_find?_eq_some h1,List.find?_some h1⟩
  rw [this]
  simp
def ofB (d x:Dd):Bool:=decide (x.osite=d.site) && decide (x.ono=d.no)
abbrev fCD1:FuncId:=163
theorem qqF (l:List Dd) (d x:Dd) (r:Bool) (hr:(ofB d x && !decide (x.kind=6) && decide (x.kind=3))=true→PCall Tryz.prog E 123 [.sl 12 (ddE l),.agg (ddC x)] (·=.bool r)):PCall Tryz.prog E fCD1 [.agg (ddC x),.ptr (ddC d),.ptr [.sl 12 (ddE l)]] (·=.bool (ofB d x && (decide (x.kind=6) || (decide (x.kind=3) && r)))):=by
 unfold ofB at *
 by_cases h1:(decide (x.osite=d.site) && decide (x.ono=d.no))=true
 ·by_cases h6:x.kind=6
  ·have e6:decide (x.kind=6)=true:=by simp [h6]
   rw [h1,e6]
   refine qaf mixed Tryz.func163 qaL ?_
   simp only [a0,l0,OS.ao,zl,zt,zk,zp,zo,zq,zu,zd,zj,zm,qaC,qaB,ZZ,WW,Ze,reduceCtorEq,zd,ze,za,zf,zb]
   simp only [ddC,h1,e6,Bool.false_and,yk,Bool.and_false,ZZ,WW,Ze,reduceCtorEq,zd,ze,za,zf,zb]
   refine useG (r:=.bool false) (fun h=>by cases h) rfl (.inl rfl) ?_
   simp only [ZZ,WW,Ze,reduceCtorEq,zd,ze,za,zf,zb]
   simp
  ·have e6:decide (x.kind=6)=false:=by simp [h6]
   by_cases h3:x.kind=3
   ·have e3:decide (x.kind=3)=true:=by simp [h3]
    rw [h1,e6,e3]
    refine qaf mixed Tryz.func163 qaL ?_
    simp only [a0,l0,OS.ao,zl,zt,zk,zp,zo,zq,zu,zd,zj,zm,qaC,qaB,ZZ,WW,Ze,reduceCtorEq,zd,ze,za,zf,zb]
    simp only [ddC,h1,e6,e3,Bool.false_and,yk,Bool.and_false,ZZ,WW,Ze,reduceCtorEq,zd,ze,za,zf,zb]
    refine useG (fun _=>hr (by rw [h1,e6,e3];rfl)) rfl (.inl rfl) ?_
    simp only [ZZ,WW,Ze,reduceCtorEq,zd,ze,za,zf,zb]
    rfl
   ·have e3:decide (x.kind=3)=false:=by simp [h3]
    rw [h1,e6,e3]
    refine qaf mixed Tryz.func163 qaL ?_
    simp only [a0,l0,OS.ao,zl,zt,zk,zp,zo,zq,zu,zd,zj,zm,qaC,qaB,ZZ,WW,Ze,reduceCtorEq,zd,ze,za,zf,zb]
    simp only [ddC,h1,e6,e3,Bool.false_and,yk,Bool.and_false,ZZ,WW,Ze,reduceCtorEq,zd,ze,za,zf,zb]
    refine useG (r:=.bool false) (fun h=>by cases h) rfl (.inl rfl) ?_
    simp only [ZZ,WW,Ze,reduceCtorEq,zd,ze,za,zf,zb]
    rfl
 ·have h1:(decide (x.osite=d.site) && decide (x.ono=d.no))=false:=by simpa using h1
  rw [h1]
  refine qaf mixed Tryz.func163 qaL ?_
  simp only [a0,l0,OS.ao,zl,zt,zk,zp,zo,zq,zu,zd,zj,zm,qaC,qaB,ZZ,WW,Ze,reduceCtorEq,zd,ze,za,zf,zb]
  simp only [ddC,h1,Bool.false_and,yk,Bool.and_false,ZZ,WW,Ze,reduceCtorEq,zd,ze,za,zf,zb]
  refine useG (r:=.bool false) (fun h=>by cases h) rfl (.inl rfl) ?_
  simp only [ZZ,WW,Ze,reduceCtorEq,zd,ze,za,zf,zb]
  simp
theorem qlx (l:List Dd) (d:Dd) (hl:l.length≤1000000000) (rr:Dd→Bool) (hr:∀ x∈l,(ofB d x && !decide (x.kind=6) && decide (x.kind=3))=true→PCall Tryz.prog E 123 [.sl 12 (ddE l),.agg (ddC x)] (·=.bool (rr x))) :
  PCall Tryz.prog E 123 [.sl 12 (ddE l),.agg (ddC d)] (·=.bool (!(l.any fun x=>ofB d x && (decide (x.kind=6) || (decide (x.kind=3) && rr x))))):=by
 have hfn:fnB Tryz.prog fCD1=true:=by kernel_rfl
 refine qaf mixed Tryz.func123 qfX ?_
 simp only [a0,l0,OS.ao,zl,zt,zk,zp,zo,zq,zu,zd,zj,zm,qc4,qcT,ZZ,WW,Ze,reduceCtorEq,zd,ze,za,zf,zb]
 simp only [ddC,ZZ,WW,Ze,reduceCtorEq,zd,ze,za,zf,zb]
 refine use1 (qya l fCD1 [.ptr (ddC d),.ptr [.sl 12 (ddE l)]] (fun x=>ofB d x && (decide (x.kind=6) || (decide (x.kind=3) && rr x))) hl (fun _=>hfn) rfl (fun x hx=>qqF l d x (rr x) (hr x hx)) (fun x=>rfl) (fun x=>rfl)) rfl (.inr rfl) ?_
 simp only [ZZ,WW,Ze,reduceCtorEq,zd,ze,za,zf,zb]
def cnt2 (l:List Dd) (d:Dd):Bool:=!(l.any fun x=>ofB d x && (decide (x.kind=6) || (decide (x.kind=3) && false)))
def cntF (l:List Dd) (d:Dd):Bool:=!(l.any fun x=>ofB d x && (decide (x.kind=6) || (decide (x.kind=3) && cnt2 l x)))
theorem qr2 (l:List Dd) (d:Dd) (hl:l.length≤1000000000) (h:RgtD l):PCall Tryz.prog E 123 [.sl 12 (ddE l),.agg (ddC d)] (·=.bool (cntF l d)):=by
 refine qlx l d hl (cnt2 l) fun x hx hc=>?_
 refine qlx l x hl (fun _=>false) fun z hz hc2=>?_
 exfalso
 unfold ofB at hc hc2
 simp only [zh,decide_eq_true_eq] at hc hc2
 exact qvq h hz hc2.2 hx hc2.1.1.1.symm hc2.1.1.2.symm hc.2
end
def undD (site:List UInt8) (t k:Int) (os:List UInt8) (on:Int):Dd:=⟨site,0,t,k,[],[],[],0,0,os,on,[]⟩
def undX (l:List Dd) (site:List UInt8) (t:Int) (os:List UInt8) (on:Int):Option Dd→List Dd×Int
 |none=>([],8)
 |some x=>
  if (decide (x.kind=2) || decide (x.kind=4))=true then (if cntF l x=true then (srtD (l++[addD l (undD site t 3 os on)]),0) else ([],11))
  else if x.kind=6 then ([],16) else if ¬ os=site then ([],16) else if cntF l x=true then (srtD (l++[addD l (undD site t 6 os on)]),0) else ([],11)
def undV (l:List Dd) (site:List UInt8) (t:Int) (os:List UInt8) (on:Int):List Dd×Int:=if ¬ qh7 l.length site t=0 then ([],qh7 l.length site t) else undX l site t os on (qeV l os on)
theorem RD.undVr {c:Int} {l:List Dd} (h:RD c l) (hc0:0≤c) (hc:c≤100000) {site:List UInt8} {t:Int} {os:List UInt8} {on:Int} (uB:∀ k:Int,k=3∨k=6→DdB (undD site t k os on)) (ht:-1000000000≤t∧t≤1000000000):RD (c+1) (undV l site t os on).1:=by
 unfold undV
 split
 ·exact RD.nil _
 ·rename_i h1
  have hr:=qm2 (n:=l.length) (s:=site) (t:=t) (by simpa using h1)
  cases hx:qeV l os on with
  |none=>exact RD.nil _
  |some x=>
   have hxl:x∈l:=List.mem_of_find?_eq_some hx
   have hxs:=List.find?_some (p:=fun d:Dd=>decide (d.site=os) && decide (d.no=on)) hx
   simp only [zh,decide_eq_true_eq] at hxs
   simp only [undX]
   split
   ·rename_i h2
    split
    ·exact h.add hc0 hc (uB 3 (.inl rfl)) (fun _=>⟨x,hxl,hxs,by simpa using h2⟩) hr ht (by simp [undD])
    ·exact RD.nil _
   ·split
    ·exact RD.nil _
    ·split
     ·exact RD.nil _
     ·split
      ·exact h.add hc0 hc (uB 6 (.inr rfl)) (fun e=>absurd (show (6:Int)=3 from e) (by decide)) hr ht (by simp [undD])
      ·exact RD.nil _
set_option maxRecDepth 100000 in
set_option maxHeartbeats 4000000 in
theorem qss (l:List Dd) (site:List UInt8) (t:Int) (os:List UInt8) (on:Int) (hR:RD 100000 l) (dB:DdB (undD site t 3 os on)) :
  PCall Tryz.prog ED 81 [.sl 12 (ddE l),.str site,int t,.agg [.str os,int on]] (·=.tup [.sl 12 (ddE (undV l site t os on).1),int (undV l site t os on).2]):=by
 unfold undV
 have hl:=hR.len
 refine qaf mixed Tryz.func81 qhR ?_
 simp only [a0,l0,OS.ao,zl,zt,zk,zp,zo,zq,zu,zd,zj,zm,qeN,qeA,ZZ,WW,Ze,reduceCtorEq,zd,ze,za,zf,zb]
 refine use1 (upD (qjl l site t (by have:=dB.b1;exact z8 this (by decide)))) rfl (.inl rfl) ?_
 simp only [ZZ,WW,Ze,reduceCtorEq,zd,ze,za,zf,zb]
 refine br ?_ ?_
 ·intro h
  have h:¬ qh7 l.length site t=0:=by simpa using h
  rw [if_pos h]
  simp only [ZZ,WW,Ze,reduceCtorEq,zd,ze,za,zf,zb]
  rfl
 intro h
 have h:qh7 l.length site t=0:=by simpa using h
 rw [if_neg (fun e=>e h)]
 simp only [ZZ,WW,Ze,reduceCtorEq,zd,ze,za,zf,zb]
 refine use1 (qkw l os on (by omega)) rfl (.inl rfl) ?_
 cases hx:qeV l os on with
 |none=>
  simp only [ZZ,WW,Ze,reduceCtorEq,zd,ze,za,zf,zb,Option.getD_none,Option.isSome_none,dd0,ddC]
  rfl
 |some x=>
  unfold undX
  have hxl:x∈l:=List.mem_of_find?_eq_some hx
  have hxs:=List.find?_some (p:=fun d:Dd=>decide (d.site=os) && decide (d.no=on)) hx
  simp only [zh,decide_eq_true_eq] at hxs
  have uB:∀ k:Int,k=3∨k=6→DdB (undD site t k os on):=fun k hk=>⟨dB.b1,dB.b2,dB.b3,dB.b4,dB.b5,dB.b6,dB.c1,dB.c2,(by show -1000000000000≤k∧k≤1000000000000;omega),dB.c4,dB.c5,dB.c6⟩
  have hct:=qr2 (E:=ED) l x (by omega) hR.r
  have ha3:=qmI l (undD site t 3 os on) (by omega) hR.b hR.n (uB 3 (.inl rfl)) (hR.fresh _)
  have ha6:=qmI l (undD site t 6 os on) (by omega) hR.b hR.n (uB 6 (.inr rfl)) (hR.fresh _)
  simp only [ZZ,WW,Ze,reduceCtorEq,zd,ze,za,zf,zb,Option.getD_some,Option.isSome_some,ddC]
  refine ⟨fun h=>by rw [h];rfl,?_⟩
  refine br ?_ ?_
  ·intro hm
   rw [if_pos hm]
   have hm:x.kind=2∨x.kind=4:=by simpa using hm
   have e6:decide (x.kind=6)=false:=by simp;omega
   have e36:decide ((3:Int)=6)=false:=rfl
   simp only [ZZ,WW,Ze,reduceCtorEq,zd,ze,za,zf,zb]
   refine qai zE_ ?_
   simp only [ZZ,WW,Ze,reduceCtorEq,zd,ze,za,zf,zb,e6,e36,Bool.false_and]
   refine qai zE_ ?_
   simp only [ZZ,WW,Ze,reduceCtorEq,zd,ze,za,zf,zb]
   refine use1 hct rfl (.inl rfl) ?_
   simp only [ZZ,WW,Ze,reduceCtorEq,zd,ze,za,zf,zb]
   refine br ?_ ?_
   ·intro h8
    have h8:cntF l x=false:=by simpa using h8
    rw [if_neg (by rw [h8];simp)]
    simp only [ZZ,WW,Ze,reduceCtorEq,zd,ze,za,zf,zb]
    rfl
   intro h8
   have h8:cntF l x=true:=by simpa using h8
   rw [if_pos h8]
   simp only [ZZ,WW,Ze,reduceCtorEq,zd,ze,za,zf,zb]
   refine use1 ha3 rfl (.inl rfl) ?_
   simp only [ZZ,WW,Ze,reduceCtorEq,zd,ze,za,zf,zb]
  ·intro hm
   rw [if_neg (by rw [hm];simp)]
   simp only [ZZ,WW,Ze,reduceCtorEq,zd,ze,za,zf,zb]
   refine qai zE_ ?_
   simp only [ZZ,WW,Ze,reduceCtorEq,zd,ze,za,zf,zb]
   refine br ?_ ?_
   ·intro h6
    rw [if_pos (of_decide_eq_true h6)]
    simp only [ZZ,WW,Ze,reduceCtorEq,zd,ze,za,zf,zb]
    refine qai zE_ ?_
    simp only [ZZ,WW,Ze,reduceCtorEq,zd,ze,za,zf,zb,h6]
    rfl
   intro h6
   rw [if_neg (of_decide_eq_false h6)]
   simp only [ZZ,WW,Ze,reduceCtorEq,zd,ze,za,zf,zb]
   refine qai zE_ ?_
   simp only [ZZ,WW,Ze,reduceCtorEq,zd,ze,za,zf,zb]
   refine br ?_ ?_
   ·intro h7
    have h7:¬ os=site:=by simpa using h7
    rw [if_pos h7]
    simp only [ZZ,WW,Ze,reduceCtorEq,zd,ze,za,zf,zb]
    rfl
   ·intro h7
    have h7:os=site:=by simpa using h7
    rw [if_neg (fun e=>e h7)]
    simp only [ZZ,WW,Ze,reduceCtorEq,zd,ze,za,zf,zb]
    refine use1 hct rfl (.inl rfl) ?_
    simp only [ZZ,WW,Ze,reduceCtorEq,zd,ze,za,zf,zb]
    refine br ?_ ?_
    ·intro h8
     have h8:cntF l x=false:=by simpa using h8
     rw [if_neg (by rw [h8];simp)]
     simp only [ZZ,WW,Ze,reduceCtorEq,zd,ze,za,zf,zb]
     rfl
    intro h8
    have h8:cntF l x=true:=by simpa using h8
    rw [if_pos h8]
    simp only [ZZ,WW,Ze,reduceCtorEq,zd,ze,za,zf,zb]
    refine use1 ha6 rfl (.inl rfl) ?_
    simp only [ZZ,WW,Ze,reduceCtorEq,zd,ze,za,zf,zb]
def qbr:IC:=(.seq (.reg [qO 4 (.mov (.c (.nl 12)))]) (.seq (.seq (.reg [qM 5 1,qO 6 (.bin .lss (.t 5) (.c (.int .i64 0)))]) (.cond (.t 6) (.reg [qO 7 (.dead),⟨none,.dead,none⟩]) .skip)) (.cut (.seq (.seq (.reg [qM 8 1,qM 9 0,qO 10 (.cap0 (.t 9)),qM 11 0,qO 12 (.len (.t 11)),qO 13 (.bin .sub (.t 10) (.t 12)),qO 14 (.bin .sub (.t 8) (.t 13)),qM 1 14]) (.seq (.reg [qM 15 1,qO 16 (.bin .gtr (.t 15) (.c (.int .i64 0)))]) (.cond (.t 16) (.reg [qM 17 0,qM 18 0,qO 19 (.cap0 (.t 18)),qO 20 (.vsn (.t 17) (.t 19)),qM 21 1,qO 22 (.apz 44 12 144 [.str [],.int .i64 0,.int .i64 0,.int .i64 0,.str [],.str [],.str [],.int .i64 0,.int .i64 0,.str [],.int .i64 0,.str []] (.t 20) (.t 21)),qM 23 0,qO 24 (.len (.t 23)),qO 25 (.trn 12 (.t 22) (.t 24)),qM 0 25]) .skip))) (.cut (.seq (.reg [qM 26 0,qM 4 26]) .ret))))))
def qbm:List IRes:=[.t 4]
theorem qdg:chkF Tryz.prog Tryz.f126 qbr qbm 27=true:=by kernel_rfl
def qaR:IC:=(.seq (.reg [qO 28 (.bin .lss (.t 27) (.t 26))]) (.seq (.cond (.t 28) .skip (.exit 2)) (.seq (.block 3 (.seq (.reg [qO 29 (.ixa 1 (.t 25) (.t 27)),qO 30 (.ld 1 false (.t 29)),qM 8 30]) (.reg [qM 31 6,qM 32 8,qO 33 (.app 44 12 144 (.t 31) (.t 32)),qM 6 33]))) (.reg [qO 34 (.bin .add (.t 27) (.c (.int .i64 1))),qM 27 34]))))
def qaS:IC:=(.seq (.reg [qO 12 (.bin .lss (.t 11) (.t 10))]) (.seq (.cond (.t 12) .skip (.exit 0)) (.seq (.block 1 (.seq (.reg [qO 13 (.ixa 1 (.t 9) (.t 11)),qO 14 (.ld 1 false (.t 13)),qM 5 14]) (.seq (.reg [qM 15 3,qM 16 5,qO 17 (.len (.t 16)),qO 18 (.bin .add (.t 15) (.t 17)),qM 3 18]) (.seq (.reg [qM 19 3,qO 20 (.bin .lss (.t 19) (.c (.int .i64 0)))]) (.cond (.t 20) (.reg [qO 21 (.dead),⟨none,.dead,none⟩]) .skip))))) (.cut (.reg [qO 22 (.bin .add (.t 11) (.c (.int .i64 1))),qM 11 22])))))
def qa3:IC:=(.seq (.reg [qO 2 (.mov (.c (.nl 12)))]) (.seq (.reg [qO 3 (.mov (.c (.int .i64 0)))]) (.seq (.seq (.reg [qM 9 0,qO 10 (.len (.t 9)),qO 11 (.mov (.c (.int .i64 0)))]) (.block 0 (.loop qaS))) (.seq (.reg [qM 23 3,qO 24 (.call 126 [.c (.nl 12),.t 23]),qM 6 24]) (.seq (.seq (.reg [qM 25 0,qO 26 (.len (.t 25)),qO 27 (.mov (.c (.int .i64 0)))]) (.block 2 (.loop qaR))) (.seq (.reg [qM 35 6,qM 2 35]) .ret))))))
def qa1:List IRes:=[.t 2]
theorem qcN:chkF Tryz.prog Tryz.f84 qa3 qa1 36=true:=by kernel_rfl
def qca:IC:=(.seq (.reg [qO 22 (.bin .lss (.t 21) (.t 20))]) (.seq (.cond (.t 22) .skip (.exit 0)) (.seq (.block 1 (.seq (.reg [qO 23 (.ixa 12 (.t 19) (.t 21)),qO 24 (.ld 12 true (.t 23)),qO 8 (.alc 44 [.str [],.int .i64 0,.int .i64 0,.int .i64 0,.str [],.str [],.str [],.int .i64 0,.int .i64 0,.str [],.int .i64 0,.str []]),⟨none,.st 12 (.t 8) (.t 24),none⟩]) (.seq (.reg [qM 26 6,qO 27 (.fla 0 (.t 8)),qO 28 (.ld 2 true (.t 27)),qO 29 (.call 28 [.t 26,.t 28]),qM 25 29,qO 30 (.ext 0 (.t 25)),qO 31 (.ext 1 (.t 25)),qO 9 (.alc 44 [.str [],.int .i64 0,.int .i64 0,.int .i64 0,.str [],.str [],.str [],.int .i64 0,.int .i64 0,.str [],.int .i64 0,.str []]),⟨none,.st 12 (.t 9) (.t 30),none⟩,qM 10 31]) (.seq (.seq (.reg [qM 32 10,qM 33 32,⟨some 34,.ld 12 true (.t 9),(some (33,true))⟩,⟨some 35,.ld 12 true (.t 8),(some (33,true))⟩,⟨some 36,.eqa true [.s,.i,.i,.i,.s,.s,.s,.i,.i,.s,.i,.s] (.t 34) (.t 35),(some (33,true))⟩,qO 37 (.pick (.t 33) (.t 36) (.c (.bool false)))]) (.cond (.t 37) (.seq (.reg [qO 4 (.mov (.c (.nl 12))),qO 5 (.mov (.c (.int .i64 13)))]) .ret) .skip)) (.seq (.reg [qM 38 10,qO 39 (.not (.t 38))]) (.cond (.t 39) (.reg [qM 40 6,qO 41 (.ld 12 true (.t 8)),qO 42 (.bsl 12 [.t 41]),qO 43 (.app 44 12 144 (.t 40) (.t 42)),qM 6 43]) .skip)))))) (.cut (.reg [qO 44 (.bin .add (.t 21) (.c (.int .i64 1))),qM 21 44])))))
def qc6:IC:=(.seq (.reg [qO 4 (.mov (.c (.nl 12))),qO 5 (.mov (.c (.int .i64 0)))]) (.seq (.seq (.reg [qM 13 1,qO 14 (.len (.t 13)),qO 15 (.bin .gtr (.t 14) (.c (.int .i64 2000)))]) (.cond (.t 15) (.seq (.reg [qO 4 (.mov (.c (.nl 12))),qO 5 (.mov (.c (.int .i64 2)))]) .ret) .skip)) (.seq (.reg [qO 6 (.nilr 44 12)]) (.seq (.seq (.reg [qM 16 0,qM 17 1,qO 18 (.bsl 1 [.t 16,.t 17]),qO 19 (.call 84 [.t 18]),qO 20 (.len (.t 19)),qO 21 (.mov (.c (.int .i64 0)))]) (.block 0 (.loop qca))) (.seq (.reg [qM 45 6,qO 46 (.call 85 [.t 45,.f 25])]) (.seq (.seq (.reg [qM 48 6,qO 49 (.call 6 [.t 48]),qM 47 49,qO 50 (.ext 0 (.t 47)),qO 51 (.ext 1 (.t 47)),qM 11 50,qM 12 51]) (.seq (.reg [qM 52 12,qO 53 (.bin .neq (.t 52) (.c (.int .i64 0)))]) (.cond (.t 53) (.seq (.reg [qM 54 12,qO 4 (.mov (.c (.nl 12))),qM 5 54]) .ret) .skip))) (.seq (.reg [qM 55 6,qM 4 55,qO 5 (.mov (.c (.int .i64 0)))]) .ret)))))))
def qcU:List IRes:=[.t 4,.t 5]
theorem qfY:chkF Tryz.prog Tryz.f45 qc6 qcU 56=true:=by kernel_rfl
section
variable {E:Envt}
theorem qsC (n:Nat) (hn:n≤1000000000):FCall Tryz.prog E 126 [.nl 12,int n] tDd 12 (·=[]):=by
 unfold FCall
 refine qpQ mixed Tryz.func126 qdg ?_
 simp only [a0,l0,OS.ao,zl,zt,zk,zp,zo,zq,zu,zd,zj,zm,qbr,qbm,ZZ,WW,Ze,reduceCtorEq,zd,ze,za,zf,zb]
 refine br ?_ ?_
 ·intro h
  have:=of_decide_eq_true h
  omega
 ·intro h
  simp only [ZZ,WW,Ze,reduceCtorEq,zd,ze,za,zf,zb]
  refine qai zE_ ?_
  simp only [ZZ,WW,Ze,reduceCtorEq,zd,ze,za,zf,zb]
  ((repeat' (with_reducible apply And.intro))<;>try ((exact sc_)))
  refine br ?_ ?_
  ·intro h2
   have h2:=of_decide_eq_true h2
   simp only [ZZ,WW,Ze,reduceCtorEq,zd,ze,za,zf,zb]
   ((repeat' (with_reducible apply And.intro))<;>try ((exact sc_)))
   refine qai zE_ ?_
   simp only [ZZ,WW,Ze,reduceCtorEq,zd,ze,za,zf,zb]
   exact qtA 22 [] rfl rfl rfl
  ·intro h2
   simp only [ZZ,WW,Ze,reduceCtorEq,zd,ze,za,zf,zb]
   refine qai zE_ ?_
   simp only [ZZ,WW,Ze,reduceCtorEq,zd,ze,za,zf,zb]
   exact qxQ rfl rfl
def qi5 (ls:List (List Dd)):Nat:=(ls.map List.length).sum
theorem qln {ls:List (List Dd)} {k:Nat} {x:List Dd} (h:ls[k]?=some x):qi5 (ls.take (k+1))=qi5 (ls.take k)+x.length:=by
 obtain ⟨hk,hx⟩:=zw.1 h
 unfold qi5
 rw [zX hk,yh,List.sum_append,hx]
 simp
theorem qqA {ls:List (List Dd)} {k:Nat} {x:List Dd} (h:ls[k]?=some x):(ls.take (k+1)).flatten=(ls.take k).flatten++x:=by
 obtain ⟨hk,hx⟩:=zw.1 h
 rw [zX hk,List.flatten_append,hx]
 simp
theorem qjS (ls:List (List Dd)) (k:Nat):qi5 (ls.take k)≤qi5 ls:=by
 unfold qi5
 conv=>rhs;rw [← List.take_append_drop k ls,yh,List.sum_append]
 omega
theorem qrT (ls:List (List Dd)):ls.flatten.length=qi5 ls:=by simp [qi5,List.length_flatten]
theorem qpe (ls:List (List Dd)) (hn:ls.length≤1000000) (hs:qi5 ls≤1000000000):FCall Tryz.prog E 84 [.sl 1 (ls.map fun l=>[PV.sl 12 (ddE l)])] tDd 12 (·=ls.flatten.map ddC):=by
 unfold FCall
 refine qpQ mixed Tryz.func84 qcN ?_
 simp only [a0,l0,OS.ao,zl,zt,zk,zp,zo,zq,zu,zd,zj,zm,qa3,qa1,ZZ,WW,Ze,reduceCtorEq,zd,ze,za,zf,zb]
 have hln:(ls.map fun l=>[PV.sl 12 (ddE l)]).length=ls.length:=by simp
 have hget:∀ k s,ls[k]?=some s→(ls.map fun l=>[PV.sl 12 (ddE l)]).getD k []=[.sl 12 (ddE s)]:=fun k s hs=>qcw hs
 generalize (ls.map fun l=>[PV.sl 12 (ddE l)])=es at hln hget ⊢
 simp only [hln]
 refine qag (fun n fr L=>∃ (k:Nat),k≤ls.length∧n=ls.length - k∧fr=[.p (.sl 1 es),oo,.p (.nl 12),.p (int (qi5 (ls.take k):Nat)),oo,oo,oo,oo,oo,.p (.sl 1 es),.p (int (ls.length:Nat)),.p (int (k:Nat)),oo,oo,oo,oo,oo,oo,oo,oo,oo,oo,oo,oo,oo,oo,oo,oo,oo,oo,oo,oo,oo,oo,oo,oo]∧L=[]) ls.length _ [] (by (simp only [ZZ,WW,Ze,reduceCtorEq,zd,ze,za,zf,zb];try trivial)) zE_ ⟨0,by omega,by omega,rfl,rfl⟩ ?_
 rintro n fr L ⟨k,hk,rfl,rfl,rfl⟩
 simp only [qaS,ZZ,WW,Ze,reduceCtorEq,zd,ze,za,zf,zb]
 have hle:=qjS ls k
 refine br ?_ ?_
 ·intro h
  have hlt:k < ls.length:=by have:=of_decide_eq_true h;omega
  obtain ⟨s,hs⟩:∃ x,ls[k]?=some x:=⟨_,zr hlt⟩
  have hg:=hget k s hs
  have hnx:=qln hs
  have hle':=qjS ls (k+1)
  simp only [ZZ,WW,Ze,reduceCtorEq,zd,ze,za,zf,zb,hg,qac,hln]
  ((repeat' (with_reducible apply And.intro))<;>try ((exact sc_)))
  refine br ?_ ?_
  ·intro h2
   have:=of_decide_eq_true h2
   omega
  ·intro h2
   simp only [ZZ,WW,Ze,reduceCtorEq,zd,ze,za,zf,zb]
   refine qai zE_ ?_
   simp only [ZZ,WW,Ze,reduceCtorEq,zd,ze,za,zf,zb]
   refine ⟨qaj (by omega) (by omega),?_⟩
   refine qae (ls.length - (k+1)) _ [] (by omega) (by rw [hnx];simp only [Int.natCast_add,ZZ,WW,Ze,reduceCtorEq,zd,ze,za,zf,zb];try trivial) zE_ ⟨k+1,by omega,rfl,rfl,rfl⟩
 ·intro h
  have hge:k=ls.length:=by have:=of_decide_eq_false h;omega
  subst hge
  rw [List.take_length]
  simp only [ZZ,WW,Ze,reduceCtorEq,zd,ze,za,zf,zb]
  refine qyf (qsC (qi5 ls) hs) rfl ?_
  rintro es' rfl
  simp only [ZZ,WW,Ze,reduceCtorEq,zd,ze,za,zf,zb,hln]
  refine qag (fun n fr L=>∃ (k:Nat),k≤ls.length∧n=ls.length - k∧fr=[.p (.sl 1 es),oo,.p (.nl 12),oo,oo,oo,.row (.l 24),oo,oo,oo,oo,oo,oo,oo,oo,oo,oo,oo,oo,oo,oo,oo,oo,oo,oo,.p (.sl 1 es),.p (int (ls.length:Nat)),.p (int (k:Nat)),oo,oo,oo,oo,oo,oo,oo,oo]∧L=[(.l 24,.row ((ls.take k).flatten.map ddC) tDd 12 true)]) ls.length _ [(.l 24,.row [] tDd 12 true)] (by (simp only [ZZ,WW,Ze,reduceCtorEq,zd,ze,za,zf,zb];try trivial)) zE_ ⟨0,by omega,by omega,rfl,rfl⟩ ?_
  rintro n fr L ⟨k,hk,rfl,rfl,rfl⟩
  simp only [qaR,ZZ,WW,Ze,reduceCtorEq,zd,ze,za,zf,zb]
  have hle:=qjS ls k
  refine br ?_ ?_
  ·intro h
   have hlt:k < ls.length:=by have:=of_decide_eq_true h;omega
   obtain ⟨s,hs⟩:∃ x,ls[k]?=some x:=⟨_,zr hlt⟩
   have hg:=hget k s hs
   have hnx:=qln hs
   have hfx:=qqA hs
   have hle':=qjS ls (k+1)
   have hfl:((ls.take k).flatten.map ddC).length=qi5 (ls.take k):=by rw [zV,qrT]
   simp only [ZZ,WW,Ze,reduceCtorEq,zd,ze,za,zf,zb,hg,hln,qac]
   simp only [hfl,zV]
   ((repeat' (with_reducible apply And.intro))<;>try ((exact sc_)))
   refine qae (ls.length - (k+1)) _ _ (by omega) (by (simp only [ZZ,WW,Ze,reduceCtorEq,zd,ze,za,zf,zb];try trivial)) (by rw [hfx,yh];simp only [ZZ,WW,Ze,reduceCtorEq,zd,ze,za,zf,zb,ddE]) ⟨k+1,by omega,rfl,rfl,rfl⟩
  ·intro h
   have hge:k=ls.length:=by have:=of_decide_eq_false h;omega
   subst hge
   rw [List.take_length]
   simp only [ZZ,WW,Ze,reduceCtorEq,zd,ze,za,zf,zb]
   exact qtA 24 _ rfl rfl rfl
end
theorem qvY {w:World} {U U':Nat→Prop} {d:Dd} {c:Bool} {v:Value} (h:PRep w U (.tup [.agg (ddC d),.bool c]) v):PRep w U' (.tup [.agg (ddC d),.bool c]) v:=by
 simp only [PRep,PRepL] at h ⊢
 obtain ⟨vs,e,v1,r1,e1,h1,v2,r2,e2,h2,e3⟩:=h
 have h1':PRep w U (.agg (ddC d)) v1:=by simp only [PRep];exact h1
 have h3:PRep w U' (.agg (ddC d)) v1:=PRep.flat (by rfl) h1'
 simp only [PRep] at h3
 exact ⟨vs,e,v1,r1,e1,h3,v2,r2,e2,h2,e3⟩
section
variable {P:Program} {E:Envt} {L:Objs}
theorem qyq {f:FuncId} {qs:List AV} {ps:List PV} {d:Dd} {c:Bool} (h:PCall P E f ps (·=.tup [.agg (ddC d),.bool c])) (ha:Zbh L qs=some ps):qg4 P E f qs L (·=.tup [.agg (ddC d),.bool c]):=by
 intro w X ι vs hs hX hE hEb hA
 refine (h w X vs (fun b hb=>(hX b hb).1) hE (fun b hb=>(hEb b hb).1) (qlA hs (fun b hb=>(hX b hb).2) ha hA)).mono ?_
 rintro e w' ⟨v,x,rfl,rfl,hr,hG⟩
 exact ⟨v,_,rfl,rfl,qvY hr,hG⟩
theorem qyg {fr:List AV} {X:List PV} {K:List AV→Objs→Prop} {f:FuncId} {qs:List AV} {ps:List PV} {d:Dd} {c:Bool} {dst:Option Nat} {is:List IOper} (h:PCall P E f ps (·=.tup [.agg (ddC d),.bool c])) (ha:Zbh L qs=some ps) (hk:qaa P E X is (Zg fr dst (.p (.tup [.agg (ddC d),.bool c]))) L K):qa0 P E f qs L dst fr (qc8 P E X is K):=
 .inl ⟨_,qyq h ha,fun x e=>by rw [e];exact hk⟩
end
def mrgS (out:List Dd) (d:Dd):List Dd:=if (qeV out d.site d.no).isSome=true then out else out++[d]
def mrgF (q:List Dd):List Dd:=q.foldl mrgS []
theorem qtd {q:List Dd} {k:Nat} {d:Dd} (h:q[k]?=some d):mrgF (q.take (k+1))=mrgS (mrgF (q.take k)) d:=by
 obtain ⟨hk,he⟩:=zw.1 h
 rw [zX hk,he,mrgF,List.foldl_append]
 rfl
theorem qmb:∀ (r:List Dd) (x:Dd),x∈mrgF r.reverse→x∈r
 |[],x,h=>by cases h
 |d :: r,x,h=>by
  rw [List.reverse_cons,mrgF,List.foldl_append] at h
  have h:x∈mrgS (mrgF r.reverse) d:=h
  unfold mrgS at h
  split at h
  ·exact List.mem_cons_of_mem _ (qmb r x h)
  ·rcases zC.1 h with h|h
   ·exact List.mem_cons_of_mem _ (qmb r x h)
   ·rw [zL] at h;subst h;exact List.mem_cons_self
theorem qru {q:List Dd} {x:Dd} (h:x∈mrgF q):x∈q:=by
 have:=qmb q.reverse x (by rwa [yw])
 simpa using this
theorem qpJ:∀ r:List Dd,(mrgF r.reverse).length≤r.length
 |[]=>Nat.le_refl _
 |d :: r=>by
  rw [List.reverse_cons,mrgF,List.foldl_append]
  show (mrgS (mrgF r.reverse) d).length≤_
  have:=qpJ r
  unfold mrgS
  split<;>simp<;>omega
theorem qvJ (q:List Dd):(mrgF q).length≤q.length:=by
 have:=qpJ q.reverse
 rwa [yw,List.length_reverse] at this
theorem qpI:∀ r:List Dd,UnqD (mrgF r.reverse)
 |[]=>List.Pairwise.nil
 |d :: r=>by
  rw [List.reverse_cons,mrgF,List.foldl_append]
  show UnqD (mrgS (mrgF r.reverse) d)
  have ih:=qpI r
  unfold mrgS
  split
  ·exact ih
  ·rename_i h
   unfold UnqD at *
   rw [List.pairwise_append]
   refine ⟨ih,by simp,?_⟩
   intro x hx y hy e
   rw [zL] at hy
   subst hy
   obtain ⟨a1,a2⟩:=qgS e
   refine h ?_
   unfold qeV
   rw [List.find?_isSome]
   exact ⟨x,hx,by simp [a1,a2]⟩
theorem qvI (q:List Dd):UnqD (mrgF q):=by
 have:=qpI q.reverse
 rwa [yw] at this
def cnfX (d:Dd):Option Dd→Bool
 |some x=>!decide (x=d)
 |none=>false
def cnfI (q:List Dd) (k:Nat):Bool:=match q[k]? with|some d=>cnfX d (qeV (mrgF (q.take k)) d.site d.no)|none=>false
def cnfF (q:List Dd):Bool:=(List.range q.length).any (cnfI q)
theorem qwr {q:List Dd} {k:Nat} (h:k < q.length) (hc:cnfI q k=true):cnfF q=true:=by
 unfold cnfF
 rw [List.any_eq_true]
 exact ⟨k,List.mem_range.2 h,hc⟩
theorem qxV {q:List Dd} (h:∀ k,k < q.length→cnfI q k=false):cnfF q=false:=by
 unfold cnfF
 rw [List.any_eq_false]
 intro k hk
 simp [h k (List.mem_range.1 hk)]
def mrgV (a b:List Dd):List Dd×Int:=
 if 2000 < b.length then ([],2) else if cnfF (a++b)=true then ([],13)
 else if ¬ (ckdF (srtD (mrgF (a++b)))).2=0 then ([],(ckdF (srtD (mrgF (a++b)))).2) else (srtD (mrgF (a++b)),0)
theorem qxT (x d:Dd):(decide (x.site=d.site) && (decide (x.no=d.no) && (decide (x.tm=d.tm) && (decide (x.kind=d.kind) && (decide (x.id=d.id) && (decide (x.field=d.field) && (decide (x.value=d.value) && (decide (x.frm=d.frm) && (decide (x.upto=d.upto) && (decide (x.osite=d.osite) && (decide (x.ono=d.ono) && decide (x.sum=d.sum))))))))))))=decide (x=d):=by
 rw [Bool.eq_iff_iff]
 simp only [zh,decide_eq_true_eq]
 cases x;cases d
 simp
set_option maxRecDepth 100000 in
set_option maxHeartbeats 4000000 in
theorem qf6 (a b:List Dd) (ha:a.length≤100000) (hb:b.length≤100000) (hA:DdsB a) (hB:DdsB b) :
  PCall Tryz.prog ED 45 [.sl 12 (ddE a),.sl 12 (ddE b)] (·=.tup [.sl 12 (ddE (mrgV a b).1),int (mrgV a b).2]):=by
 unfold mrgV
 refine qaf mixed Tryz.func45 qfY ?_
 simp only [a0,l0,OS.ao,zl,zt,zk,zp,zo,zq,zu,zd,zj,zm,qc6,qcU,ZZ,WW,Ze,reduceCtorEq,zd,ze,za,zf,zb]
 simp only [ZZ,WW,Ze,reduceCtorEq,zd,ze,za,zf,zb,qac]
 refine br ?_ ?_
 ·intro h
  have h:2000 < b.length:=by have:=of_decide_eq_true h;omega
  rw [if_pos h]
  simp only [ZZ,WW,Ze,reduceCtorEq,zd,ze,za,zf,zb]
  rfl
 intro h
 have h:¬ 2000 < b.length:=by have:=of_decide_eq_false h;omega
 rw [if_neg h]
 simp only [ZZ,WW,Ze,reduceCtorEq,zd,ze,za,zf,zb]
 have hC:=qpe (E:=ED) [a,b] (by simp) (by simp [qi5];omega)
 have hq:[a,b].flatten=a++b:=by simp
 rw [hq] at hC
 have hql:(a++b).length≤200000:=by simp;omega
 have hQB:DdsB (a++b):=hA.app hB
 generalize a++b=q at *
 refine useF hC rfl rfl ?_
 rintro es rfl
 have hqe:q.map ddC=ddE q:=rfl
 rw [hqe]
 simp only [ZZ,WW,Ze,reduceCtorEq,zd,ze,za,zf,zb,qac]
 refine qag (fun n fr L=>∃ (k:Nat),k≤q.length∧n=q.length - k∧(∀ j,j < k→cnfI q j=false)∧fr=[oo,oo,oo,oo,oo,oo,.row (.l 6),oo,oo,oo,oo,oo,oo,oo,oo,oo,oo,oo,oo,.row (.l 19),.p (int (q.length:Nat)),.p (int (k:Nat)),oo,oo,oo,oo,oo,oo,oo,oo,oo,oo,oo,oo,oo,oo,oo,oo,oo,oo,oo,oo,oo,oo,oo,oo,oo,oo,oo,oo,oo,oo,oo,oo,oo,oo]∧L=[(.l 6,.row (ddE (mrgF (q.take k))) tDd 12 true),(.l 19,.row (ddE q) tDd 12 true)]) (q.length) _ _ (by simp only [qac,List.take_zero,mrgF,List.foldl_nil,ZZ,WW,Ze,reduceCtorEq,zd,ze,za,zf,zb];try trivial) (by simp only [List.take_zero,mrgF,List.foldl_nil,qoV,ZZ,WW,Ze,reduceCtorEq,zd,ze,za,zf,zb];try trivial) ⟨0,by omega,by omega,by omega,rfl,rfl⟩ ?_
 rintro n fr L ⟨k,hk,rfl,hno,rfl,rfl⟩
 simp only [qca,ZZ,WW,Ze,reduceCtorEq,zd,ze,za,zf,zb]
 have hml:(mrgF (q.take k)).length≤200000:=z8 (qvJ _) (z8 (List.length_take_le _ _) (by omega))
 refine br ?_ ?_
 ·intro h
  have hlt:k < q.length:=by have:=of_decide_eq_true h;omega
  obtain ⟨d,hd⟩:∃ d,q[k]?=some d:=⟨_,zr hlt⟩
  have hg:=qbC hd
  have hn:=qtd hd
  have hci:cnfI q k=cnfX d (qeV (mrgF (q.take k)) d.site d.no):=by unfold cnfI;rw [hd]
  generalize mrgF (q.take k)=out at *
  simp only [ZZ,WW,Ze,reduceCtorEq,zd,ze,za,zf,zb,hg,qac,ddC]
  refine ⟨⟨by omega,by omega⟩,by omega,?_⟩
  refine qyg (qkw out d.site d.no (by omega)) rfl ?_
  cases hx:qeV out d.site d.no with
  |none=>
   have hn:mrgF (q.take (k+1))=out++[d]:=by rw [hn,mrgS,hx];rfl
   have hci:cnfI q k=false:=by rw [hci,hx];rfl
   have hn2:ddE (mrgF (q.take (k+1)))=ddE out++[ddC d]:=by rw [hn,← qr1];rfl
   simp only [ZZ,WW,Ze,reduceCtorEq,zd,ze,za,zf,zb,Option.getD_none,Option.isSome_none,dd0,ddC,qac,Bool.false_and]
   refine ⟨by omega,?_⟩
   refine qai zE_ ?_
   simp only [ZZ,WW,Ze,reduceCtorEq,zd,ze,za,zf,zb]
   refine ⟨qaj (by omega) (by omega),?_⟩
   refine qae (q.length - (k+1)) _ _ (by omega) (by (simp only [ZZ,WW,Ze,reduceCtorEq,zd,ze,za,zf,zb];try trivial)) (by rw [hn2];simp only [ZZ,WW,Ze,reduceCtorEq,zd,ze,za,zf,zb,ddC]) ⟨k+1,by omega,rfl,by intro j hj;rcases Nat.lt_or_ge j k with h'|h';exact hno j h';rw [show j=k by omega,hci],rfl,rfl⟩
  |some x=>
   have hn:mrgF (q.take (k+1))=out:=by rw [hn,mrgS,hx];rfl
   simp only [ZZ,WW,Ze,reduceCtorEq,zd,ze,za,zf,zb,Option.getD_some,Option.isSome_some,ddC,yk]
   rw [qxT]
   refine br ?_ ?_
   ·intro h2
    have hci:cnfI q k=true:=by rw [hci,hx];exact h2
    rw [if_pos (qwr hlt hci)]
    simp only [ZZ,WW,Ze,reduceCtorEq,zd,ze,za,zf,zb]
    rfl
   intro h2
   have hci:cnfI q k=false:=by rw [hci,hx];exact h2
   simp only [ZZ,WW,Ze,reduceCtorEq,zd,ze,za,zf,zb]
   refine qai zE_ ?_
   simp only [ZZ,WW,Ze,reduceCtorEq,zd,ze,za,zf,zb]
   refine ⟨qaj (by omega) (by omega),?_⟩
   refine qae (q.length - (k+1)) _ _ (by omega) (by (simp only [ZZ,WW,Ze,reduceCtorEq,zd,ze,za,zf,zb];try trivial)) (by rw [hn];simp only [ZZ,WW,Ze,reduceCtorEq,zd,ze,za,zf,zb]) ⟨k+1,by omega,rfl,by intro j hj;rcases Nat.lt_or_ge j k with h'|h';exact hno j h';rw [show j=k by omega,hci],rfl,rfl⟩
 ·intro h
  have hge:q.length≤k:=by have:=of_decide_eq_false h;omega
  rw [List.take_of_length_le hge] at *
  have hmb:DdsB (mrgF q):=fun x hx=>hQB x (qru hx)
  simp only [ZZ,WW,Ze,reduceCtorEq,zd,ze,za,zf,zb]
  have hcn:cnfF q=false:=qxV fun j hj=>hno j (by omega)
  rw [if_neg (by rw [hcn];simp)]
  refine useR (qm0 ED (mrgF q) (by omega) (qvI q)) rfl rfl rfl zE_ ?_
  rintro z es' ⟨rfl,rfl⟩
  have hp:=qg8 (mrgF q)
  generalize srtD (mrgF q)=l' at *
  have hlb:DdsB l':=fun x hx=>hmb x (hp.mem_iff.1 hx)
  have hll:l'.length≤200000:=by rw [hp.length_eq];exact hml
  simp only [ZZ,WW,Ze,reduceCtorEq,zd,ze,za,zf,zb]
  refine use1 (qf7 l' hlb (by omega)) rfl (.inr rfl) ?_
  simp only [ZZ,WW,Ze,reduceCtorEq,zd,ze,za,zf,zb]
  refine br ?_ ?_
  ·intro h
   have h:¬ (ckdF l').2=0:=by simpa using h
   rw [if_pos h]
   simp only [ZZ,WW,Ze,reduceCtorEq,zd,ze,za,zf,zb]
   rfl
  ·intro h
   have h:(ckdF l').2=0:=by simpa using h
   rw [if_neg (fun e=>e h)]
   simp only [ZZ,WW,Ze,reduceCtorEq,zd,ze,za,zf,zb]
theorem RD.merge {c:Int} {a b:List Dd} (ha:RD c a) (hb:RD c b):RD c (mrgV a b).1:=by
 unfold mrgV
 split
 ·exact RD.nil _
 split
 ·exact RD.nil _
 split
 ·exact RD.nil _
 ·rename_i h0
  have h0:(ckdF (srtD (mrgF (a++b)))).2=0:=by simpa using h0
  have hp:=qg8 (mrgF (a++b))
  generalize srtD (mrgF (a++b))=l' at *
  obtain ⟨h1,h2⟩:=qrf h0
  have hm:∀ x∈l',x∈a∨x∈b:=fun x hx=>zC.1 (qru (hp.mem_iff.1 hx))
  exact ⟨h1,fun x hx=>(hm x hx).elim (ha.b x) (hb.b x),h2,(fun x hx=>(hm x hx).elim (ha.n x) (hb.n x)),(fun x hx=>(hm x hx).elim (ha.t x) (hb.t x)),fun x hx=>(hm x hx).elim (ha.kd x) (hb.kd x)⟩
end Go.Proofs.YtjgdjinhkgjpeaaGreatDoor
