import Derived.Test.YtinffddgojhdfaaGreatDoorZ10
import Derived.Lib.AppendZerosOnto
import Derived.Laws.CopyRow
import Derived.Laws.Externs
import Derived.Lib.Hide
set_option linter.unusedVariables false
set_option linter.unusedSimpArgs false
set_option linter.defProp false
namespace Go.Proofs.YtinffddgojhdfaaGreatDoor
open Nat renaming reduceAdd→zd,reduceEqDiff→zb,reduceLT→zf,reduceLeDiff→za,reduceMul→ze,reduceSub→zu
open List renaming cons_append→zo,getElem?_eq_some_iff→zw,getElem?_of_mem→yl,length_cons→zm,length_nil→zr,map_cons→zl,nil_append→zq,replicate_succ→zk,replicate_zero→zn
open Go.RowKit
def qfD:IC:=(.seq (.reg [qO 3 (.box 45 (.t 1)),qO 4 (.mov (.c (.nl 12)))]) (.seq (.reg [qM 10 0,qO 11 (.fla 0 (.t 3)),qO 12 (.fla 0 (.t 11)),qO 13 (.ld 1 false (.t 12)),qO 14 (.call 60 [.t 10,.t 13]),qM 9 14,qO 15 (.ext 0 (.t 9)),qO 16 (.ext 1 (.t 9)),qM 5 15,qM 6 16]) (.seq (.reg [qM 17 5,qO 18 (.bin .add (.t 17) (.c (.int .i64 1))),qO 19 (.fla 0 (.t 3)),qO 20 (.fla 1 (.t 19)),⟨none,.st 1 (.t 20) (.t 18),none⟩]) (.seq (.reg [qO 21 (.ld 12 true (.t 3)),qM 22 6,qO 23 (.call 47 [.t 21,.t 22]),qO 24 (.fla 11 (.t 3)),⟨none,.st 1 (.t 24) (.t 23),none⟩]) (.seq (.reg [qM 26 0,qO 27 (.fla 0 (.t 3)),qO 28 (.ld 2 true (.t 27)),qO 29 (.call 94 [.t 26,.t 28,.f 95]),qM 25 29,qO 30 (.ext 0 (.t 25)),qO 31 (.ext 1 (.t 25)),qM 7 30,qM 8 31]) (.seq (.drg [⟨none,.hole 33,none⟩,qM 32 0,qO 33 (.fcl 0 35 [.t 32] 45 12),qM 34 7,qO 35 (.ld 12 true (.t 3)),qO 36 (.bsl 12 [.t 35]),qO 37 (.call 96 [.t 33,.t 34,.t 36]),qM 4 37]) .ret))))))
def qfr:List IRes:=[.t 4]
theorem qiT:chkF Tryz.prog Tryz.f57 qfD qfr 38=true:=by kernel_rfl
def qg3:IC:=(.seq (.reg [qO 15 (.box 37 (.t 7)),qO 16 (.mov (.c (.nl 12))),qO 17 (.mov (.c (.int .i64 0)))]) (.seq (.reg [qM 21 1,qO 22 (.bld [.str [],.int .i64 0] [(0,1,.t 21)]),qM 23 2,qM 24 3,qM 25 4,qM 26 5,qM 27 6,qO 28 (.ld 2 true (.t 15)),qO 29 (.bld [.str [],.int .i64 0,.int .i64 0,.int .i64 0,.str [],.str [],.str [],.int .i64 0,.int .i64 0,.str [],.int .i64 0,.str []] [(0,2,.t 22),(2,1,.t 23),(3,1,.t 24),(4,1,.t 25),(5,1,.t 26),(6,1,.t 27),(7,2,.t 28)]),qO 18 (.alc 45 [.str [],.int .i64 0,.int .i64 0,.int .i64 0,.str [],.str [],.str [],.int .i64 0,.int .i64 0,.str [],.int .i64 0,.str []]),⟨none,.st 12 (.t 18) (.t 29),none⟩]) (.seq (.reg [qM 30 3,qO 31 (.call 45 [.t 30,.c (.int .i64 1),.c (.int .i64 6)]),qO 32 (.not (.t 31)),qM 33 32,⟨some 34,.mov (.t 3),(some (33,false))⟩,⟨some 35,.bin .eql (.t 34) (.c (.int .i64 3)),(some (33,false))⟩,qO 36 (.pick (.t 33) (.c (.bool true)) (.t 35)),qM 37 36,⟨some 38,.mov (.t 3),(some (37,false))⟩,⟨some 39,.bin .eql (.t 38) (.c (.int .i64 6)),(some (37,false))⟩,qO 40 (.pick (.t 37) (.c (.bool true)) (.t 39)),qM 19 40]) (.seq (.seq (.drg [qM 41 0,qM 42 1,qM 43 2,qO 44 (.pcall 0 56 [.t 41,.t 42,.t 43]),qM 45 19,qO 46 (.pcall 1 41 [.t 45,.c (.int .i64 4)]),qO 47 (.ld 12 true (.t 18)),qO 48 (.pcall 2 46 [.t 47]),qO 49 (.bsl 1 [.t 44,.t 46,.t 48]),qO 50 (.pcall 3 40 [.t 49]),qM 20 50]) (.seq (.reg [qM 51 20,qO 52 (.bin .neq (.t 51) (.c (.int .i64 0)))]) (.cond (.t 52) (.seq (.reg [qM 53 20,qO 16 (.mov (.c (.nl 12))),qM 17 53]) .ret) .skip))) (.seq (.reg [qM 54 0,qO 55 (.ld 12 true (.t 18)),qO 56 (.call 57 [.t 54,.t 55]),qM 16 56,qO 17 (.mov (.c (.int .i64 0)))]) .ret)))))
def qgQ:List IRes:=[.t 16,.t 17]
theorem qkD:chkF Tryz.prog Tryz.f18 qg3 qgQ 57=true:=by kernel_rfl
def qdu:IC:=(.seq (.reg [qO 0 (.mov (.c (.bool false)))]) (.seq (.reg [qO 4 (.bld [.int .i64 0,.int .i64 0] []),qO 5 (.call 18 [.c (.nl 12),.c (.str [97]),.c (.int .i64 5),.c (.int .i64 2),.c (.str [120]),.c (.str []),.c (.str [104,111,116]),.t 4]),qM 3 5,qO 6 (.ext 0 (.t 3)),qO 7 (.ext 1 (.t 3)),qM 1 6,qM 2 7]) (.seq (.reg [qM 8 2,qO 9 (.bin .eql (.t 8) (.c (.int .i64 0))),qM 10 9,⟨some 11,.mov (.t 1),(some (10,true))⟩,⟨some 12,.len (.t 11),(some (10,true))⟩,⟨some 13,.bin .eql (.t 12) (.c (.int .i64 1)),(some (10,true))⟩,qO 14 (.pick (.t 10) (.t 13) (.c (.bool false))),qM 0 14]) .ret)))
def qdp:List IRes:=[.t 0]
theorem qf9:chkF Tryz.prog Tryz.f11 qdu qdp 15=true:=by kernel_rfl
theorem qsX {l:List Dd} {a:Dd} {k:Nat} (hs:OrdD l) (hq:UnqD (l++[a])) (hlo:∀ i p,i < k→l[i]?=some p→cmpD p a < 0) (hhi:∀ i p,k≤i→l[i]?=some p→0≤cmpD p a):l.take k++a :: l.drop k=srtD (l++[a]):=by
 have an:=cmpD_p.anti
 refine qrD hq ?_ ?_
 ·have h1:=List.perm_middle (a:=a) (l₁:=l.take k) (l₂:=l.drop k)
  rw [List.take_append_drop] at h1
  exact h1.trans (List.perm_append_singleton a l).symm
 ·unfold OrdD at hs
  have hs2:(l.take k++l.drop k).Pairwise fun a b=>cmpD a b < 0:=by rwa [List.take_append_drop]
  rw [List.pairwise_append] at hs2
  obtain ⟨p1,p2,p3⟩:=hs2
  have d1:∀ x∈l.take k,cmpD x a < 0:=fun x hx=>by
   obtain ⟨i,hi⟩:=yl hx
   rw [List.getElem?_take] at hi
   split at hi
   ·rename_i h;exact hlo i x h hi
   ·cases hi
  have d2:∀ x∈l.drop k,0≤cmpD x a:=fun x hx=>by
   obtain ⟨i,hi⟩:=yl hx
   rw [List.getElem?_drop] at hi
   exact hhi (k+i) x (by omega) hi
  rw [List.pairwise_append,List.pairwise_cons]
  refine ⟨p1.imp fun h=>by omega,⟨fun y hy=>?_,p2.imp fun h=>by omega⟩,fun x hx y hy=>?_⟩
  ·have h1:=d2 y hy
   have:=an y a
   have:=an a y
   omega
  ·rcases List.mem_cons.1 hy with rfl|hy
   ·have:=d1 x hx;omega
   ·have:=p3 x hx y hy;omega
theorem quz {l:List Dd} (h:∀ j,j < l.length→chkI l j=0):∀ (j:Nat) (d:Dd),l[j]?=some d→1≤d.no∧d.no≤(j:Int)+1
 |0,d,hd=>by
  have hj:=(zw.1 hd).1
  have h1:=h 0 hj
  unfold chkI at h1
  rw [hd] at h1
  have h1:atF (qgW l 0) d=0:=h1
  unfold atF qgW at h1
  simp only [if_true,Bool.false_eq_true,if_false] at h1
  split at h1
  ·omega
  ·split at h1
   ·omega
   ·rename_i h2
    have h2:d.no=1:=by simpa using h2
    omega
 |j+1,d,hd=>by
  have hj:=(zw.1 hd).1
  obtain ⟨q,hq⟩:∃ q,l[j]?=some q:=⟨_,List.getElem?_eq_getElem (by omega)⟩
  have ih:=quz h j q hq
  have h1:=h (j+1) hj
  unfold chkI at h1
  rw [hd] at h1
  have h1:atF (qgW l (j+1)) d=0:=h1
  unfold atF qgW at h1
  simp only [Nat.succ_ne_zero,if_false,Nat.add_sub_cancel,hq] at h1
  split at h1
  ·omega
  ·split at h1
   ·omega
   ·by_cases h2:d.no=(if q.site=d.site then q.no+1 else 1)
    ·split at h2<;>omega
    ·rw [if_pos h2] at h1
     omega
theorem qrF {l:List Dd} (h:(ckdF l).2=0):NoB 100000 l:=by
 unfold ckdF at h
 split at h
 ·exact absurd h (by decide)
 rename_i hl
 split at h
 ·rename_i h1
  have ha:=qfn h1
  intro d hd
  obtain ⟨k,hk⟩:=yl hd
  have hkl:=(zw.1 hk).1
  have:=quz (l:=l) (fun j hj=>ha j (by omega) (by omega)) k d hk
  omega
 ·rename_i h1
  exact absurd h h1
theorem qqM {l:List Dd} (h:OrdD l) (d:Dd):UnqD (l++[addD l d]):=by
 obtain ⟨e1,e2,e3,e4,e5⟩:=qi3 l d
 unfold UnqD
 rw [List.pairwise_append]
 refine ⟨h.imp fun h=>by omega,by simp,?_⟩
 intro x hx y hy e
 rw [List.mem_singleton] at hy
 subst hy
 obtain ⟨a1,a2⟩:=qfJ e
 have:=qkZ h d.site hx (a1.trans e1)
 omega
set_option maxRecDepth 100000 in
set_option maxHeartbeats 4000000 in
theorem qi2 (l:List Dd) (d:Dd) (hI:∀ k,k≤l.length→qmY k l.length) (hl:l.length≤100000) (hB:DdsB l) (hN:NoB 100000 l) (dB:DdB d) (ho:OrdD l):PCall Tryz.prog ED 57 [.sl 12 (ddE l),.agg (ddC d)] (·=.sl 12 (ddE (srtD (l++[addD l d])))):=by
 have hq:=qqM ho d
 obtain ⟨t1,t2,t3⟩:=qrY (by omega) hB hN d.site
 refine qah mixed Tryz.func57 qiT ?_
 simp only [a0,l0,OS.ao,zl,List.map_nil,zm,zr,zo,zq,zu,zd,zk,zn,qfD,qfr,ZZ,WW,Ze,reduceCtorEq,zd,ze,za,zf,zb]
 simp only [ddC,ZZ,WW,Ze,reduceCtorEq,zd,ze,za,zf,zb]
 refine use1 (qrz l d.site (by omega)) rfl (.inl rfl) ?_
 have ha:addD l d={ d with no:=(tipF l d.site).1+1,sum:=sumF (tipF l d.site).2 { d with no:=(tipF l d.site).1+1 } }:=rfl
 generalize (tipF l d.site).1=m at *
 generalize (tipF l d.site).2=s at *
 obtain ⟨e,he⟩:∃ e:Dd,e={ d with no:=m+1 }:=⟨_,rfl⟩
 have eB:DdB e:=by subst he;exact ⟨dB.b1,dB.b2,dB.b3,dB.b4,dB.b5,dB.b6,by show -1000000000000≤m+1∧m+1≤1000000000000;omega,dB.c2,dB.c3,dB.c4,dB.c5,dB.c6⟩
 rw [← he] at ha
 simp only [ZZ,WW,Ze,reduceCtorEq,zd,ze,za,zf,zb]
 refine ⟨qat (by omega) (by omega),?_⟩
 have hs:=qrB e eB s t3
 rw [he] at hs
 refine use1 hs rfl (.inl rfl) ?_
 rw [← he]
 simp only [ZZ,WW,Ze,reduceCtorEq,zd,ze,za,zf,zb]
 refine use (qm2 l d.site (m+1) (by omega) ho) rfl (.inl rfl) ?_
 rintro y ⟨k,b,rfl,hk,hlo,hhi⟩
 simp only [ZZ,WW,Ze,reduceCtorEq,zd,ze,za,zf,zb]
 refine drg1 (x1:=.sl 12 (ddE l)) ?_
 simp only [ZZ,WW,Ze,reduceCtorEq,zd,ze,za,zf,zb]
 refine ⟨qtX (qhP (ddE l) (by rw [qac];omega)),?_⟩
 refine qtV 33 (ddE l) k _ (by rw [qac];exact hI k hk) (by rw [qac];exact hk) rfl (by rw [qac];omega) rfl ?_
 simp only [ZZ,WW,Ze,reduceCtorEq,zd,ze,za,zf,zb]
 have hrow:List.take k (ddE l)++[.str d.site,int (m+1),int d.tm,int d.kind,.str d.id,.str d.field,.str d.value,int d.frm,int d.upto,.str d.osite,int d.ono,.str (sumF s e)] :: List.drop k (ddE l)=ddE (l.take k++addD l d :: l.drop k):=by
  rw [ha,he]
  simp only [ddE,List.map_append,zl,List.map_take,List.map_drop]
  rfl
 rw [hrow,qsX ho hq (fun i p hi hp=>?_) (fun i p hi hp=>?_)]
 ·rw [ha,he]
  exact hlo i p hi hp
 ·rw [ha,he]
  exact hhi i p hi hp
def addE (l:List Dd) (site:List UInt8) (t k:Int) (id f v:List UInt8) (a b:Int):Int:=qaD [qgF l site t,qaZ ((!inE k 1 6 || decide (k=3)) || decide (k=6)) 4,qgn (newD site t k id f v a b)]
def addW (l:List Dd) (site:List UInt8) (t k:Int) (id f v:List UInt8) (a b:Int):List Dd×Int:=if addE l site t k id f v a b=0 then (srtD (l++[addD l (newD site t k id f v a b)]),0) else ([],addE l site t k id f v a b)
theorem qfH {e:Int} {r:List Int} (h:qaD (e :: r)=0):e=0:=by
 unfold qaD at h
 split at h
 ·assumption
 ·exact h
set_option maxRecDepth 100000 in
set_option maxHeartbeats 4000000 in
theorem qp1 (l:List Dd) (site:List UInt8) (t k:Int) (id f v:List UInt8) (a b:Int) (hI:∀ k,k≤l.length→qmY k l.length) (hl:l.length≤100000) (hB:DdsB l) (dB:DdB (newD site t k id f v a b)) :
  PCall Tryz.prog ED 18 [.sl 12 (ddE l),.str site,int t,int k,.str id,.str f,.str v,.agg [int a,int b]] (·=.tup [.sl 12 (ddE (addW l site t k id f v a b).1),int (addW l site t k id f v a b).2]):=by
 unfold addW
 have hd:ddC (newD site t k id f v a b)=[.str site,int 0,int t,int k,.str id,.str f,.str v,int a,int b,.str [],int 0,.str []]:=rfl
 have hfm:=upD (qhX _ dB)
 have hsb:site.length≤1000:=dB.b1
 rw [hd] at hfm
 refine qah mixed Tryz.func18 qkD ?_
 simp only [a0,l0,OS.ao,zl,List.map_nil,zm,zr,zo,zq,zu,zd,zk,zn,qg3,qgQ,ZZ,WW,Ze,reduceCtorEq,zd,ze,za,zf,zb]
 refine use1 (upD (qpU k 1 6)) rfl (.inl rfl) ?_
 simp only [ZZ,WW,Ze,reduceCtorEq,zd,ze,za,zf,zb]
 refine ⟨fun h=>by rw [h];rfl,fun h=>by rw [h];rfl,?_⟩
 have hb2:((!inE k 1 6 || decide (k=3)) || decide (k=6))=((!inE k 1 6 || decide (k=3)) || decide (k=6)):=rfl
 generalize ho:((!inE k 1 6 || decide (k=3)) || decide (k=6))=other at *
 refine drg4 (x1:=int (qgF l site t)) (x2:=int (qaZ other 4)) (x3:=int (qgn (newD site t k id f v a b))) (x4:=int (addE l site t k id f v a b)) ?_
 simp only [ZZ,WW,Ze,reduceCtorEq,zd,ze,za,zf,zb]
 have he:addE l site t k id f v a b=qaD [qgF l site t,qaZ other 4,qgn (newD site t k id f v a b)]:=by rw [addE,ho]
 refine ⟨usep (qhR l site t hB (by omega) (by omega)) rfl (.inl rfl),usep (qcI other 4) rfl (.inl rfl),usep hfm rfl (.inl rfl),usep (by rw [he];exact qhu [qgF l site t,qaZ other 4,qgn (newD site t k id f v a b)] (by simp)) rfl (.inl rfl),?_⟩
 refine br ?_ ?_
 ·intro h
  have h:¬ addE l site t k id f v a b=0:=by simpa using h
  rw [if_neg h]
  simp only [ZZ,WW,Ze,reduceCtorEq,zd,ze,za,zf,zb]
  rfl
 ·intro h
  have h:addE l site t k id f v a b=0:=by simpa using h
  rw [if_pos h]
  have hc:(ckdF l).2=0:=by
   have h1:=qfH (he ▸ h)
   exact qfH h1
  have hr:=(qoH hc).2.1
  have hadd:=qi2 l _ hI hl hB (qrF hc) dB hr
  rw [hd] at hadd
  simp only [ZZ,WW,Ze,reduceCtorEq,zd,ze,za,zf,zb]
  refine use1 hadd rfl (.inl rfl) ?_
  simp only [ZZ,WW,Ze,reduceCtorEq,zd,ze,za,zf,zb]
end Go.Proofs.YtinffddgojhdfaaGreatDoor
namespace Go.Proofs.YtinffddgojhdfaaGreatDoor
open List renaming append_assoc→yt,getElem?_drop→zU,getElem?_eq_getElem→zp,getElem?_take→ya,length_append→zC,length_take→zT,mem_of_mem_drop→yg
open _root_.Array renaming getElem?_eq_some_iff→zy,getElem?_modify→ym,length_toList→yo
open Go.Lib Go.RowKit Go.Shelf
section
variable {P:Program}
theorem qgM (w:World) (dT sT ty e:TypeId) (z g o dLen dCap:Nat) (A:Addr) (sLen sCap:Nat) (us:List Value) (cur:Array Value) (hu:P.underlying dT=some (.slice e)) (hs:(P.info? e).map (·.size)=some z) (hg:w.heap[g]?=some (.cells cur e (0,0)))
  (hn:us.length=Nat.min sLen dLen * z) (hsrc:∀ j u,us[j]?=some u→w.cell? (A.add j)=some u) (hin:o+us.length≤cur.size) (h1:∀ v∈us,v.oneCell'=true) :
  (Builtin.copy_ #[dT,sT] ty #[.slice (some ⟨g,o,none⟩) dLen dCap,.slice (some A) sLen sCap]).run P w=.ok (goInt (Nat.min sLen dLen)) (w.setRow g (cur.toList.take o++us++cur.toList.drop (o+us.length)).toArray):=by
 have hfc:=run_firstCells_some (P:=P) w z (Nat.min sLen dLen) A sLen sCap us hn hsrc
 have hst:=run_storeCells_at P g o e us 0 cur w hg (by omega) h1
 rw [Nat.add_zero] at hst
 cases hq:P.info? e with
 |none=>simp [hq] at hs
 |some i=>
  have hi:i.size=z:=by simpa [hq] using hs
  simp [Builtin.copy_,run_underlying hu,Builtin.lenOf,sizeOf,typeInfo,hq,hi,hfc,hst]
theorem qjr {ops:Array Oper} {o:Oper} {a:Act} {w:World} {K:Act→World→Prop} {Q:Exit→Act→World→Prop} {E:Prop}
  (hg:o.guard=none) (d x:Operand) (dT sT:TypeId) (hop:o.op=Op.call { callee:=Callee.builtin Builtin.copy,args:=#[d,x],argTypes:=#[dT,sT] })
  (v u:Value) (hd:a.eval d=v) (hx:a.eval x=u) {v':Value} {w':World} (hr:(Builtin.copy_ #[dT,sT] o.type #[v,u]).run P w=.ok v' w') (hK:K (a.put o.dst v') w') :
  if Region.wanted o (yielded ops a.tmps)=true then Oper.wp P o a w K Q else E:=by
 have hw:Region.wanted o (yielded ops a.tmps)=true:=by simp [Region.wanted,hg]
 rw [if_pos hw]
 unfold Oper.wp
 simp [execOp,hop,resolve,invoke,builtin,hd,hx,hr,Result.andThen]
 exact hK
theorem qj2 (w:World) (tS tR e:TypeId) (ht:P.underlying tS=some (.slice e)) (size:Nat) (hz:∀ w,(Go.sizeOf e).run P w=.ok size w) (g o h p:Nat) (la ca lb cb:Nat) (hne:g≠h) {u:Value} (ha:w.cell? ⟨g,o,none⟩=some u) (cur:Array Value) (t:TypeId) (hb:w.heap[h]?=some (.cells cur t (0,0))) :
  (Extern.SlicesOverlaps.overlaps #[tS,tS] #[tR] #[.slice (some ⟨g,o,none⟩) la ca,.slice (some ⟨h,p,none⟩) lb cb]).run P w=.ok (.bool false) w:=by
 have hnb:(g != h)=true:=by simpa using hne
 have hnb':(g == h)=false:=by simpa using hne
 obtain ⟨c1,t1,f1,hg1,ho1⟩:∃ c1 t1 f1,w.heap[g]?=some (.cells c1 t1 f1)∧o < c1.size:=by
  unfold World.cell? at ha
  cases hq:w.heap[g]? with
  |none=>simp [hq] at ha
  |some ob=>
   cases ob with
   |cells c t f=>exact ⟨c,t,f,rfl,by simp [hq] at ha;exact (zy.1 ha).1⟩
   |_=>simp [hq] at ha
 have hsa:w.shape? g=some (t1,c1.size):=by simp [World.shape?,hg1]
 have hsb:w.shape? h=some (t,cur.size):=by simp [World.shape?,hb]
 have hfb:∀ q,w.frozen? ⟨h,q,none⟩=false:=fun q=>by simp [World.frozen?,hb]
 obtain ⟨n1,hn1⟩:∃ n1,c1.size=n1+1:=⟨c1.size - 1,by omega⟩
 have hpb:∀ {α β:Type} (x:α) (f:α→Sem β),(pure x:Sem α).bind f=f x:=fun _ _=>rfl
 rw [hn1] at hsa
 conv=>lhs;arg 2;whnf
 by_cases h0:la=0∨lb=0∨size=0
 ·simp [Sem.run,hpb,Sem.bind,ht,hz,h0]
 ·cases hf1:w.frozen? ⟨g,o,none⟩<;>cases hf2:w.frozen? ⟨g,n1+1,none⟩<;>simp [hpb,Sem.bind,ht,hz,h0,hnb,hnb',frozen,noView,viewAt,mayBeOne,stringish,shape,Sem.run,hsa,hsb,hf1,hf2,hfb]
end
theorem qqG {α:Type} (c us news R:List α) (i n:Nat) (hi:i < n) (hc:(n+1) * 12≤c.length) (hu:us.length=(n - i) * 12) (hn:news.length=12) :
  ((c.take ((i+1) * 12)++us++R).take (i * 12)++news++(c.take ((i+1) * 12)++us++R).drop (i * 12+12)).take ((n+1) * 12)=c.take (i * 12)++news++us:=by
 have e2:(c.take ((i+1) * 12)).length=(i+1) * 12:=by simp;omega
 have e1:(c.take (i * 12)).length=i * 12:=by simp;omega
 have h1:(c.take ((i+1) * 12)++us++R).take (i * 12)=c.take (i * 12):=by
  rw [yt,List.take_append_of_le_length (by omega),List.take_take,Nat.min_eq_left (by omega)]
 have h2:(c.take ((i+1) * 12)++us++R).drop (i * 12+12)=us++R:=by
  rw [yt,show i * 12+12=(c.take ((i+1) * 12)).length by rw [e2];omega,List.drop_left]
 rw [h1,h2,← yt]
 exact List.take_left' (by simp only [zC,e1,hn,hu];omega)
set_option maxHeartbeats 4000000 in
set_option maxRecDepth 1000000 in
theorem qqF (w:World) (g n cap i vb voff vc:Nat) (cur:Array Value) (news:List Value) (hi:i < n) (hn:n+1≤cap) (hcap:cap≤maxLen) (hg:w.heap[g]?=some (.cells cur tDd (0,0))) (hcs:cur.size=cap * 12) (hnl:news.length=12) (hnews:∀ j u,news[j]?=some u→w.cell? ⟨vb,voff+j,none⟩=some u)
  (h1n:∀ u∈news,u.oneCell'=true) (h1x:∀ u∈cur.toList.take (n * 12),u.oneCell'=true) (hvb:vb≠g) :
  Calls Tryz.prog fIns #[.slice (some ⟨g,0,none⟩) n cap,.int .i64 i,.slice (some ⟨vb,voff,none⟩) 1 vc] w fun e w'=>e=.returned (.slice (some ⟨g,0,none⟩) (n+1) cap)∧
   ∃ cur',w'=w.drew.setRow g cur'∧cur'.size=cap * 12∧cur'.toList.take ((n+1) * 12)=(cur.toList.take (n * 12)).take (i * 12)++news++(cur.toList.take (n * 12)).drop (i * 12):=by
 have hA:appB Tryz.prog tDd 12 144=true:=by kernel_rfl
 obtain ⟨i0,zv,q1,q2,q3,q4,q5,q6,q7⟩:=qcH hA
 have t22:Tryz.prog.underlying 26=some (.slice tDd):=Tryz.underlying26
 have hsz:(Tryz.prog.info? tDd).map (·.size)=some 12:=by rw [q1];simp [q3]
 have hov:∀ lb cb,(callFunc 119 #[.slice (some ⟨vb,voff,none⟩) 1 vc,.slice (some ⟨g,(i+1) * 12,none⟩) lb cb]).run Tryz.prog w=.ok (.value (.bool false)) w:=fun lb cb=>by
  rw [run_callFunc_extern Tryz.func119 (by kernel_rfl) (by kernel_rfl) (by kernel_rfl) (e:=Extern.SlicesOverlaps.overlaps #[26,26] #[4]) (by kernel_rfl),
   qj2 w 26 4 tDd t22 12 (fun w=>Tryz.sizeOf45 w) vb voff g ((i+1) * 12) 1 vc lb cb hvb (hnews 0 _ (zp (by omega))) cur tDd hg]
  rfl
 have hz1:¬ ((1:Int)=0):=by decide
 have hz2:¬ ((i:Int)=(n:Int)):=by omega
 have hz3:¬ ((cap:Int) < (n:Int)+1):=by omega
 have hw1:IntKind.i64.wrap ((i:Int)+1)=(i:Int)+1:=by rw [IntKind.wrap_i64];unfold maxLen at hcap;omega
 have hw2:IntKind.i64.wrap ((n:Int)+1)=(n:Int)+1:=by rw [IntKind.wrap_i64];unfold maxLen at hcap;omega
 have hb1:(0:Int)≤(i:Int)+1:=by omega
 have hin:i≤n:=by omega
 have htn:((i:Int)+1).toNat=i+1:=by omega
 have htm:((n:Int)+1).toNat=n+1:=by omega
 have hb2:¬ (cap=i+1):=by omega
 have hb3:(i:Int)≤(n:Int)+1:=by omega
 have hb4:¬ (cap=i):=by omega
 have cell_g:∀ j u,(cur.toList.take (n * 12))[j]?=some u→w.drew.cell? ⟨g,j,none⟩=some u:=by
  intro j u hj
  rw [ya] at hj
  split at hj
  ·show (match w.heap[g]? with|some (.cells c _ _)=>if (none:Option Nat).isSome then none else c[j]?|_=>none)=some u
   simpa [hg] using hj
  ·cases hj
 obtain ⟨us,hus⟩:∃ us,us=(cur.toList.take (n * 12)).drop (i * 12):=⟨_,rfl⟩
 have hul:us.length=(n - i) * 12:=by rw [hus];simp;omega
 obtain ⟨cur1,hc1⟩:∃ cur1:Array Value,cur1=(cur.toList.take ((i+1) * 12)++us++cur.toList.drop ((i+1) * 12+us.length)).toArray:=⟨_,rfl⟩
 have hs1:cur1.size=cap * 12:=by rw [hc1];simp only [List.size_toArray,zC,zT,List.length_drop,yo,hul,hcs];omega
 have cp1:∀ ty,(Builtin.copy_ #[26,26] ty #[.slice (some ⟨g,(i+1) * 12,none⟩) (n+1 - (i+1)) (cap - (i+1)),.slice (some ⟨g,i * 12,none⟩) (n+1 - i) (cap - i)]).run Tryz.prog w.drew=.ok (goInt (n - i:Nat)) (w.drew.setRow g cur1):=by
  intro ty
  have hmin:Nat.min (n+1 - i) (n+1 - (i+1))=n - i:=by simp only [Nat.min_def];split<;>omega
  have h:=qgM (P:=Tryz.prog) w.drew 26 26 ty tDd 12 g ((i+1) * 12) (n+1 - (i+1)) (cap - (i+1)) ⟨g,i * 12,none⟩ (n+1 - i) (cap - i) us cur t22 hsz hg (by rw [hmin];exact hul) (fun j u hj=>by
   rw [Addr.add_lit]
   rw [hus,zU] at hj
   exact cell_g _ _ hj) (by rw [hul,hcs];omega) (fun u hu=>h1x u (yg (by rwa [hus] at hu)))
  rw [hmin] at h
  rw [hc1]
  exact h
 have hg1:(w.drew.setRow g cur1).heap[g]?=some (.cells cur1 tDd (0,0)):=setRow_heap w.drew g cur cur1 tDd (0,0) hg
 obtain ⟨cur2,hc2⟩:∃ cur2:Array Value,cur2=(cur1.toList.take (i * 12)++news++cur1.toList.drop (i * 12+news.length)).toArray:=⟨_,rfl⟩
 have hs2:cur2.size=cap * 12:=by rw [hc2];simp only [List.size_toArray,zC,zT,List.length_drop,yo,hnl,hs1];omega
 have hne2:(w.drew.setRow g cur1).heap[vb]?=w.heap[vb]?:=by
  show (w.heap.modify g _)[vb]?=_
  rw [ym,if_neg (Ne.symm hvb)]
 have cp2:∀ ty,(Builtin.copy_ #[26,26] ty #[.slice (some ⟨g,i * 12,none⟩) (n+1 - i) (cap - i),.slice (some ⟨vb,voff,none⟩) 1 vc]).run Tryz.prog (w.drew.setRow g cur1)=.ok (goInt (1:Nat)) (w.drew.setRow g cur2):=by
  intro ty
  have hmin:Nat.min 1 (n+1 - i)=1:=by simp only [Nat.min_def];split<;>omega
  have h:=qgM (P:=Tryz.prog) (w.drew.setRow g cur1) 26 26 ty tDd 12 g (i * 12) (n+1 - i) (cap - i) ⟨vb,voff,none⟩ 1 vc news cur1 t22 hsz hg1 (by rw [hmin];exact hnl) (fun j u hj=>by
   rw [Addr.add_lit]
   rw [← hnews j u hj]
   exact World.cell?_of_block hne2) (by rw [hnl,hs1];omega) h1n
  rw [hmin,qhv] at h
  rw [hc2]
  exact h
 have hfin:cur2.toList.take ((n+1) * 12)=(cur.toList.take (n * 12)).take (i * 12)++news++(cur.toList.take (n * 12)).drop (i * 12):=by
  rw [hc2,hc1]
  simp only [← hus]
  rw [List.take_take,Nat.min_eq_left (by omega),hnl]
  exact qqG cur.toList us news _ i n hi (by simp;omega) hul hnl
 have F1:=Lib.hid hfin
 have F2:=Lib.hid hs2
 have F3:=Lib.hid cp1
 have F4:=Lib.hid cp2
 clear hfin hs2 cp1 cp2 hc1 hc2 hus hul hg1 cell_g hs1 hsz h1x h1n hnews
 go_enter Tryz.func96,Tryz.ntmps96
 go_wp2_with (simp only [hov])
 go_region_law_o (refine qjr rfl _ _ 26 26 rfl (.slice (some ⟨g,(i+1) * 12,none⟩) (n+1 - (i+1)) (cap - (i+1))) (.slice (some ⟨g,i * 12,none⟩) (n+1 - i) (cap - i)) (by simp [Act.eval,Act.put]) (by simp [Act.eval,Act.put]) (F3.out _) ?_)
 go_wp2_with (simp only [F4.out])
 go_ret
 exact ⟨rfl,cur2,rfl,F2.out,F1.out⟩
theorem qpa {α:Type} (c us news R S:List α) (i n:Nat) (hi:i < n) (hc:c.length=i * 12) (hu:us.length=(n - i) * 12) (hn:news.length=12) :
  (((c++news++R).take ((i+1) * 12))++us++S).take ((n+1) * 12)=c++news++us:=by
 have h1:(c++news++R).take ((i+1) * 12)=c++news:=List.take_left' (by simp only [zC,hc,hn];omega)
 rw [h1]
 exact List.take_left' (by simp only [zC,hc,hn,hu];omega)
set_option maxHeartbeats 4000000 in
set_option maxRecDepth 1000000 in
theorem qqH (w:World) (g n i vb voff vc:Nat) (cur:Array Value) (news:List Value) (hi:i < n) (hn:n≤1000000) (hg:w.heap[g]?=some (.cells cur tDd (0,0))) (hcs:cur.size=n * 12) (hnl:news.length=12) (hnews:∀ j u,news[j]?=some u→w.cell? ⟨vb,voff+j,none⟩=some u)
  (h1n:∀ u∈news,u.oneCell'=true) (h1x:∀ u∈cur.toList.take (n * 12),u.oneCell'=true) :
  Calls Tryz.prog fIns #[.slice (some ⟨g,0,none⟩) n n,.int .i64 i,.slice (some ⟨vb,voff,none⟩) 1 vc] w fun e w'=>∃ G cur' row,e=.returned (.slice (some ⟨w.heap.size,0,none⟩) (n+1) G)∧
   w'=(w.drew.alloc (.cells row tDd)).drew.setRow w.heap.size cur'∧n+1≤G∧G≤maxLen∧cur'.size=G * 12∧cur'.toList.take ((n+1) * 12)=(cur.toList.take (n * 12)).take (i * 12)++news++(cur.toList.take (n * 12)).drop (i * 12):=by
 have hA:appB Tryz.prog tDd 12 144=true:=by kernel_rfl
 obtain ⟨i0,zv,q1,q2,q3,q4,q5,q6,q7⟩:=qcH hA
 have t22:Tryz.prog.underlying 26=some (.slice tDd):=Tryz.underlying26
 have t3:Tryz.prog.underlying 3=some (.int .i64):=by kernel_rfl
 have hsz:(Tryz.prog.info? tDd).map (·.size)=some 12:=by rw [q1];simp [q3]
 have hgw:g < w.heap.size:=(zy.1 hg).1
 have hvw:vb < w.heap.size:=by
  have h:=hnews 0 _ (zp (by omega))
  rcases Nat.lt_or_ge vb w.heap.size with h'|h'
  ·exact h'
  ·simp [World.cell?,Array.getElem?_eq_none h'] at h
 have hz1:¬ ((1:Int)=0):=by decide
 have hz2:¬ ((i:Int)=(n:Int)):=by omega
 have hz3:(n:Int) < (n:Int)+1:=by omega
 have hw1:IntKind.i64.wrap ((i:Int)+1)=(i:Int)+1:=by rw [IntKind.wrap_i64];omega
 have hw2:IntKind.i64.wrap ((n:Int)+1)=(n:Int)+1:=by rw [IntKind.wrap_i64];omega
 have hw3:IntKind.i64.wrap ((n:Int)+1 - (i:Int))=(n:Int)+1 - (i:Int):=by rw [IntKind.wrap_i64];omega
 have hkk:(n:Int)+1 - (i:Int)=((n+1 - i:Nat):Int):=by omega
 have hb1:(0:Int)≤(i:Int)+1:=by omega
 have hin:i≤n:=by omega
 have hin1:i≤n+1:=by omega
 have htn:((i:Int)+1).toNat=i+1:=by omega
 have htm:((n:Int)+1).toNat=n+1:=by omega
 have hb3:(i:Int)≤(n:Int)+1:=by omega
 have hb5:(i:Int)≤(n:Int):=by omega
 have hb6:¬ (n=i):=by omega
 obtain ⟨G,hG⟩:∃ G,G=grownCap w (n+1) n tDd:=⟨_,rfl⟩
 have hGn:n+1≤G:=by rw [hG];exact grownCap_ge w _ _ _
 have hGm:G≤maxLen:=by rw [hG];exact grownCap_le_maxLen w _ _ _ (by unfold maxLen;omega)
 have hG1:¬ (G=i):=by omega
 have hG2:¬ (G=i+1):=by omega
 obtain ⟨xs,hxs⟩:∃ xs,xs=cur.toList.take (n * 12):=⟨_,rfl⟩
 have hxl:xs.length=n * 12:=by rw [hxs];simp;omega
 have cell_g:∀ j u,xs[j]?=some u→w.cell? ⟨g,j,none⟩=some u:=by
  intro j u hj
  rw [hxs,ya] at hj
  split at hj
  ·show (match w.heap[g]? with|some (.cells c _ _)=>if (none:Option Nat).isSome then none else c[j]?|_=>none)=some u
   simpa [hg] using hj
  ·cases hj
 have h1xs:∀ u∈xs,u.oneCell'=true:=by rw [hxs];exact h1x
 rw [← hxs]
 clear hxs h1x
 have hold:(Builtin.firstCells i0.size i (.slice (some ⟨g,0,none⟩) i n)).run Tryz.prog w.drew=.ok (xs.take (i * 12)).toArray w.drew:=by
  rw [q3]
  exact run_firstCells_some w.drew 12 i ⟨g,0,none⟩ i n (xs.take (i * 12)) (by rw [zT];omega) (fun j u hj=>by
   rw [Addr.add_lit,Nat.zero_add]
   rw [ya] at hj
   split at hj
   ·exact cell_g j u hj
   ·cases hj)
 obtain ⟨ROW,hROW⟩:∃ ROW:Array Value,ROW=(xs.take (i * 12)).toArray++Builtin.zeroCells zv.cells (n+1 - i)++Builtin.zeroCells zv.cells (G - (n+1)):=⟨_,rfl⟩
 have hrz:∀ ty,(Builtin.append_ #[26,3] ty #[.slice (some ⟨g,0,none⟩) i n,.int .i64 ((n:Int)+1 - (i:Int))]).run Tryz.prog w=.ok (.slice (some ⟨w.heap.size,0,none⟩) (n+1) G) (w.drew.alloc (.cells ROW tDd)):=fun ty=>by
  have h:=Lib.run_append_grow_zeros w 26 3 ty tDd i0 zv .i64 .i64 t22 t3 q1 q2 (some ⟨g,0,none⟩) i n (xs.take (i * 12)) hold (n+1 - i) (by omega) (by omega) (by omega) (by omega) (by rw [q4];omega) (by rw [q4,show i+(n+1 - i)=n+1 by omega];exact growslice_fits (by omega) (by omega))
  rw [show i+(n+1 - i)=n+1 by omega,← hG,← hROW] at h
  rw [hkk]
  exact h
 have hRs:ROW.size=G * 12:=by
  rw [hROW]
  simp only [Array.size_append,List.size_toArray,zT,hxl,Builtin.zeroCells,Array.size_map,Array.size_range,q5]
  omega
 have hRt:ROW.toList.take (i * 12)=xs.take (i * 12):=by
  rw [hROW]
  simp only [Array.toList_append,yt]
  exact List.take_left' (by rw [zT];omega)
 clear hold hROW hG
 obtain ⟨W1,hW1⟩:∃ W1,W1=w.drew.alloc (.cells ROW tDd):=⟨_,rfl⟩
 rw [← hW1] at hrz
 have hN1:W1.heap[w.heap.size]?=some (.cells ROW tDd (0,0)):=by rw [hW1];show (w.heap.push _)[w.heap.size]?=_;rw [Array.getElem?_push,if_pos rfl]
 have hold1:∀ b,b < w.heap.size→W1.heap[b]?=w.heap[b]?:=fun b hb=>by rw [hW1];show (w.heap.push _)[b]?=_;rw [Array.getElem?_push,if_neg (by omega)]
 obtain ⟨cur1,hc1⟩:∃ cur1:Array Value,cur1=(ROW.toList.take (i * 12)++news++ROW.toList.drop (i * 12+news.length)).toArray:=⟨_,rfl⟩
 have hs1:cur1.size=G * 12:=by rw [hc1];simp only [List.size_toArray,zC,zT,List.length_drop,yo,hnl,hRs];omega
 have cpA:∀ ty,(Builtin.copy_ #[26,26] ty #[.slice (some ⟨w.heap.size,i * 12,none⟩) (n+1 - i) (G - i),.slice (some ⟨vb,voff,none⟩) 1 vc]).run Tryz.prog W1=.ok (goInt (1:Nat)) (W1.setRow w.heap.size cur1):=by
  intro ty
  have hmin:Nat.min 1 (n+1 - i)=1:=by simp only [Nat.min_def];split<;>omega
  have h:=qgM (P:=Tryz.prog) W1 26 26 ty tDd 12 w.heap.size (i * 12) (n+1 - i) (G - i) ⟨vb,voff,none⟩ 1 vc news ROW t22 hsz hN1 (by rw [hmin];exact hnl) (fun j u hj=>by
   rw [Addr.add_lit,← hnews j u hj]
   exact World.cell?_of_block (hold1 vb hvw)) (by rw [hnl,hRs];omega) h1n
  rw [hmin] at h
  rw [hc1]
  exact h
 obtain ⟨W2,hW2⟩:∃ W2,W2=W1.setRow w.heap.size cur1:=⟨_,rfl⟩
 rw [← hW2] at cpA
 have hN2:W2.heap[w.heap.size]?=some (.cells cur1 tDd (0,0)):=by rw [hW2];exact setRow_heap W1 w.heap.size ROW cur1 tDd (0,0) hN1
 have hold2:∀ b,b < w.heap.size→W2.heap[b]?=w.heap[b]?:=fun b hb=>by
  rw [← hold1 b hb,hW2]
  show (W1.heap.modify w.heap.size _)[b]?=_
  rw [ym,if_neg (by omega)]
 obtain ⟨us,hus⟩:∃ us,us=xs.drop (i * 12):=⟨_,rfl⟩
 have hul:us.length=(n - i) * 12:=by rw [hus,List.length_drop];omega
 obtain ⟨cur2,hc2⟩:∃ cur2:Array Value,cur2=(cur1.toList.take ((i+1) * 12)++us++cur1.toList.drop ((i+1) * 12+us.length)).toArray:=⟨_,rfl⟩
 have hs2:cur2.size=G * 12:=by rw [hc2];simp only [List.size_toArray,zC,zT,List.length_drop,yo,hul,hs1];omega
 have cpB:∀ ty,(Builtin.copy_ #[26,26] ty #[.slice (some ⟨w.heap.size,(i+1) * 12,none⟩) (n+1 - (i+1)) (G - (i+1)),.slice (some ⟨g,i * 12,none⟩) (n - i) (n - i)]).run Tryz.prog W2.drew=.ok (goInt (n - i:Nat)) (W2.drew.setRow w.heap.size cur2):=by
  intro ty
  have hmin:Nat.min (n - i) (n+1 - (i+1))=n - i:=by simp only [Nat.min_def];split<;>omega
  have h:=qgM (P:=Tryz.prog) W2.drew 26 26 ty tDd 12 w.heap.size ((i+1) * 12) (n+1 - (i+1)) (G - (i+1)) ⟨g,i * 12,none⟩ (n - i) (n - i) us cur1 t22 hsz hN2 (by rw [hmin];exact hul) (fun j u hj=>by
   rw [Addr.add_lit]
   rw [hus,zU] at hj
   rw [← cell_g _ _ hj]
   exact World.cell?_of_block (hold2 g hgw)) (by rw [hul,hs1];omega) (fun u hu=>h1xs u (yg (by rwa [hus] at hu)))
  rw [hmin] at h
  rw [hc2]
  exact h
 have hfin:cur2.toList.take ((n+1) * 12)=xs.take (i * 12)++news++xs.drop (i * 12):=by
  rw [hc2,hc1]
  simp only [← hus,hRt]
  exact qpa (xs.take (i * 12)) us news _ _ i n hi (by rw [zT];omega) hul hnl
 have F1:=Lib.hid hfin
 have F2:=Lib.hid hs2
 have F3:=Lib.hid cpA
 have F4:=Lib.hid cpB
 have F5:=Lib.hid hrz
 have F6:=Lib.hid (show W2.drew.setRow w.heap.size cur2=(w.drew.alloc (.cells ROW tDd)).drew.setRow w.heap.size cur2 by rw [hW2,hW1];exact qhv (w.drew.alloc (.cells ROW tDd)).drew w.heap.size cur1 cur2)
 clear hfin hs2 cpA cpB hrz hc1 hc2 hus hul hN1 hN2 hold1 hold2 cell_g hs1 hsz h1xs h1n hnews hRs hRt hW1 hW2 hxl hkk
 generalize w.heap.size=N at *
 go_enter Tryz.func96,Tryz.ntmps96
 go_wp2_with (first|(at_builtin;refine Lib.wpList_append_run _ rfl _ _ _ _ rfl _ _ rfl rfl _ _ (F5.out _) ?_)|simp only [F3.out])
 go_region_law_o (refine qjr rfl _ _ 26 26 rfl (.slice (some ⟨N,(i+1) * 12,none⟩) (n+1 - (i+1)) (G - (i+1))) (.slice (some ⟨g,i * 12,none⟩) (n - i) (n - i)) (by simp [Act.eval,Act.put]) (by simp [Act.eval,Act.put]) (F4.out _) ?_)
 go_wp2
 go_ret
 exact ⟨G,cur2,ROW,rfl,F6.out,hGn,hGm,F2.out,F1.out⟩
theorem qrL (i n:Nat) (hin:i≤n):qmY i n:=by
 by_cases he:i=n
 ·subst he
  exact qsY i
 intro w v xs news vb voff vc hown h1x hnl hnews h1n hne hn
 have hxl:xs.length=n * 12:=hown.1
 rcases hown.2 with ⟨rfl,rfl⟩|⟨g,cap,cur,rfl,hbg,hg,hnc,hcm,hcs,htake⟩
 ·omega
 have hlen:(n+1) * 12=(xs.take (i * 12)++news++xs.drop (i * 12)).length:=by simp only [zC,zT,List.length_drop,hnl,hxl];omega
 rw [← htake] at h1x
 by_cases hroom:n+1≤cap
 ·refine (qqF w g n cap i vb voff vc cur news (by omega) hroom hcm hg hcs hnl hnews h1n h1x (fun e=>hne (by rw [e];rfl))).mono ?_
  rintro e w' ⟨rfl,cur',rfl,k1,k2⟩
  rw [htake] at k2
  refine ⟨_,rfl,⟨hlen.symm,.inr ⟨g,cap,cur',rfl,Nat.zero_le _,setRow_heap w.drew g cur cur' tDd (0,0) hg,hroom,hcm,k1,k2⟩⟩,⟨rfl,rfl,rfl,by show w.heap.size≤(w.heap.modify g _).size;rw [Array.size_modify];exact Nat.le_refl _,fun k hk hne'=>?_⟩,.inl rfl⟩
  show (w.heap.modify g _)[k]?=_
  rw [ym,if_neg (fun e=>hne' (by rw [e];rfl))]
 ·have hcn:cap=n:=by omega
  subst hcn
  refine (qqH w g cap i vb voff vc cur news (by omega) hn hg hcs hnl hnews h1n h1x).mono ?_
  rintro e w' ⟨G,cur',row,rfl,rfl,k0,k1,k2,k3⟩
  rw [htake] at k3
  refine ⟨_,rfl,⟨hlen.symm,.inr ⟨w.heap.size,G,cur',rfl,Nat.zero_le _,setRow_heap _ w.heap.size row cur' tDd (0,0) ?_,k0,k1,k2,k3⟩⟩,⟨rfl,rfl,rfl,by show w.heap.size≤((w.heap.push _).modify w.heap.size _).size;rw [Array.size_modify,Array.size_push];omega,fun k hk hne'=>?_⟩,.inr rfl⟩
  ·show (w.heap.push _)[w.heap.size]?=_
   rw [Array.getElem?_push,if_pos rfl]
  ·show ((w.heap.push _).modify w.heap.size _)[k]?=_
   rw [ym,if_neg (by omega),Array.getElem?_push,if_neg (by omega)]
end Go.Proofs.YtinffddgojhdfaaGreatDoor
namespace Go.Proofs.YtinffddgojhdfaaGreatDoor
open Nat renaming reduceAdd→zd,reduceEqDiff→zb,reduceLT→zf,reduceLeDiff→za,reduceMul→ze,reduceSub→zu
open List renaming cons_append→zo,length_cons→zm,length_nil→zr,map_cons→zl,map_nil→zt,nil_append→zq,replicate_succ→zk,replicate_zero→zn
open Bool renaming and_eq_true→zi,and_false→yn,false_and→zW,true_and→zQ
open Go.RowKit
theorem qtx:(ckdF []).2=0:=by decide
theorem qtQ:addE [] [97] 5 2 [120] [] [104,111,116] 0 0=0:=by
 unfold addE
 rw [qjZ qtx]
 decide +kernel
theorem qhA:PCall Tryz.prog ED 11 [] (·=.bool true):=by
 have hlen:∀ d,(srtD ([]++[addD [] d])).length=1:=fun d=>(qd0 _).length_eq.trans rfl
 refine qah mixed Tryz.func11 qf9 ?_
 simp only [a0,l0,OS.ao,zl,zt,zm,zr,zo,zq,zu,zd,zk,zn,qdu,qdp,ZZ,WW,Ze,reduceCtorEq,zd,ze,za,zf,zb]
 refine use1 (qp1 [] [97] 5 2 [120] [] [104,111,116] 0 0 (fun k hk=>qrL k _ hk) (by simp) DdsB.nil (by constructor<;>simp [newD])) rfl (.inl rfl) ?_
 rw [addW,if_pos qtQ]
 have h1:=hlen (newD [97] 5 2 [120] [] [104,111,116] 0 0)
 generalize srtD ([]++[addD [] (newD [97] 5 2 [120] [] [104,111,116] 0 0)])=q at *
 have h2:(ddE q).length=1:=by rw [qac];exact h1
 simp only [ZZ,WW,Ze,reduceCtorEq,zd,ze,za,zf,zb,h2]
 rfl
def qaJ:IC:=(.seq (.reg [qO 4 (.mov (.c (.bool false)))]) (.seq (.reg [qM 5 0,qM 6 1,qO 7 (.call 86 [.t 5,.t 6]),qO 8 (.bin .geq (.t 7) (.c (.int .i64 0))),qM 4 8]) .ret))
def qaH:List IRes:=[.t 4]
theorem qbE:chkF Tryz.prog Tryz.f97 qaJ qaH 9=true:=by kernel_rfl
def qcz:IC:=(.seq (.reg [qO 2 (.box 26 (.t 0)),qO 3 (.box 45 (.t 1)),qO 4 (.mov (.c (.bool false)))]) (.seq (.reg [qO 5 (.ld 1 false (.t 2)),qO 6 (.mkf 98 [.t 3,.t 2]),qO 7 (.call 97 [.t 5,.t 6]),qO 8 (.not (.t 7)),qM 4 8]) .ret))
def qco:List IRes:=[.t 4]
theorem qeP:chkF Tryz.prog Tryz.f63 qcz qco 9=true:=by kernel_rfl
def qaB:IC:=(.seq (.reg [qO 3 (.box 45 (.t 0)),qO 4 (.mov (.c (.bool false)))]) (.seq (.reg [qO 5 (.fla 9 (.t 3)),qO 6 (.ld 2 true (.t 5)),qO 7 (.fla 0 (.t 1)),qO 8 (.ld 2 true (.t 7)),qO 9 (.eqa false [.s,.i] (.t 6) (.t 8)),qM 10 9,⟨some 11,.fla 3 (.t 3),(some (10,true))⟩,⟨some 12,.ld 1 false (.t 11),(some (10,true))⟩,⟨some 13,.bin .eql (.t 12) (.c (.int .i64 6)),(some (10,true))⟩,⟨some 14,.mov (.t 13),(some (10,true))⟩,⟨some 15,.fla 3 (.t 3),(some (14,false))⟩,⟨some 16,.ld 1 false (.t 15),(some (14,false))⟩,⟨some 17,.bin .eql (.t 16) (.c (.int .i64 3)),(some (14,false))⟩,⟨some 18,.mov (.t 17),(some (14,false))⟩,⟨some 19,.ld 1 false (.t 2),(some (18,true))⟩,⟨some 20,.ld 12 true (.t 3),(some (18,true))⟩,⟨some 21,.call 63 [.t 19,.t 20],(some (18,true))⟩,⟨some 22,.pick (.t 18) (.t 21) (.c (.bool false)),(some (14,false))⟩,⟨some 23,.pick (.t 14) (.c (.bool true)) (.t 22),(some (10,true))⟩,qO 24 (.pick (.t 10) (.t 23) (.c (.bool false))),qM 4 24]) .ret))
def qaA:List IRes:=[.t 4]
theorem qaK:chkF Tryz.prog Tryz.f98 qaB qaA 25=true:=by kernel_rfl
def qdS:IC:=(.seq (.reg [qO 7 (.box 43 (.t 3)),qO 8 (.mov (.c (.nl 12))),qO 9 (.mov (.c (.int .i64 0)))]) (.seq (.seq (.reg [qM 14 0,qM 15 1,qM 16 2,qO 17 (.call 61 [.t 14,.t 15,.t 16]),qM 10 17]) (.seq (.reg [qM 18 10,qO 19 (.bin .neq (.t 18) (.c (.int .i64 0)))]) (.cond (.t 19) (.seq (.reg [qM 20 10,qO 8 (.mov (.c (.nl 12))),qM 9 20]) .ret) .skip))) (.seq (.reg [qM 22 0,qO 23 (.ld 2 true (.t 7)),qO 24 (.call 52 [.t 22,.t 23]),qM 21 24,qO 25 (.ext 0 (.t 21)),qO 26 (.ext 1 (.t 21)),qO 11 (.alc 45 [.str [],.int .i64 0,.int .i64 0,.int .i64 0,.str [],.str [],.str [],.int .i64 0,.int .i64 0,.str [],.int .i64 0,.str []]),⟨none,.st 12 (.t 11) (.t 25),none⟩,qM 12 26]) (.seq (.seq (.reg [qM 27 12,qO 28 (.not (.t 27))]) (.cond (.t 28) (.seq (.reg [qO 8 (.mov (.c (.nl 12))),qO 9 (.mov (.c (.int .i64 8)))]) .ret) .skip)) (.seq (.reg [qO 13 (.mov (.c (.int .i64 6)))]) (.seq (.seq (.reg [qO 29 (.fla 3 (.t 11)),qO 30 (.ld 1 false (.t 29)),qO 31 (.bin .eql (.t 30) (.c (.int .i64 2))),qM 32 31,⟨some 33,.fla 3 (.t 11),(some (32,false))⟩,⟨some 34,.ld 1 false (.t 33),(some (32,false))⟩,⟨some 35,.bin .eql (.t 34) (.c (.int .i64 4)),(some (32,false))⟩,qO 36 (.pick (.t 32) (.c (.bool true)) (.t 35))]) (.cond (.t 36) (.reg [qO 13 (.mov (.c (.int .i64 3)))]) .skip)) (.cut (.seq (.block 0 (.seq (.seq (.reg [qO 38 (.fla 3 (.t 11)),qO 39 (.ld 1 false (.t 38)),qO 40 (.bin .eql (.t 39) (.c (.int .i64 6))),qM 37 40]) (.cond (.t 37) .skip (.reg [qM 41 13,qO 42 (.bin .eql (.t 41) (.c (.int .i64 6))),qM 43 42,⟨some 44,.fla 0 (.t 7),(some (43,true))⟩,⟨some 45,.ld 1 false (.t 44),(some (43,true))⟩,⟨some 46,.mov (.t 1),(some (43,true))⟩,⟨some 47,.bin .neq (.t 45) (.t 46),(some (43,true))⟩,qO 48 (.pick (.t 43) (.t 47) (.c (.bool false))),qM 37 48]))) (.cut (.cond (.t 37) (.seq (.reg [qO 8 (.mov (.c (.nl 12))),qO 9 (.mov (.c (.int .i64 16)))]) .ret) (.seq (.reg [qM 50 0,qO 51 (.ld 12 true (.t 11)),qO 52 (.call 63 [.t 50,.t 51]),qO 53 (.not (.t 52)),qM 49 53]) (.cond (.t 49) (.seq (.reg [qO 8 (.mov (.c (.nl 12))),qO 9 (.mov (.c (.int .i64 11)))]) .ret) .skip)))))) (.seq (.reg [qM 54 0,qM 55 1,qO 56 (.bld [.str [],.int .i64 0] [(0,1,.t 55)]),qM 57 2,qM 58 13,qO 59 (.ld 2 true (.t 7)),qO 60 (.bld [.str [],.int .i64 0,.int .i64 0,.int .i64 0,.str [],.str [],.str [],.int .i64 0,.int .i64 0,.str [],.int .i64 0,.str []] [(0,2,.t 56),(2,1,.t 57),(3,1,.t 58),(9,2,.t 59)]),qO 61 (.call 62 [.t 54,.t 60]),qM 8 61,qO 9 (.mov (.c (.int .i64 0)))]) .ret)))))))))
def qdG:List IRes:=[.t 8,.t 9]
theorem qgv:chkF Tryz.prog Tryz.f22 qdS qdG 62=true:=by kernel_rfl
section
variable {E:Envt}
theorem qvg (l:List Dd) (f:FuncId) (ps:List PV) (q:Dd→Bool) (hl:l.length≤1000000000) (hfn:Unit→fnB Tryz.prog f=true) (hps:Zl [] (ps.map .p)=true) (hf:∀ x∈l,PCall Tryz.prog E f (.agg (ddC x) :: ps) (·=.bool (q x))) (hn:∀ x:Dd,Zbh [] (.p (.agg (ddC x)) :: ps.map .p)=some (.agg (ddC x) :: ps)) (hr:∀ x:Dd,Zbj (.p (.agg (ddC x)) :: ps.map .p)=true):PCall Tryz.prog E 97 [.sl 12 (ddE l),.clo f ps] (·=.bool (l.any q)):=by
 refine qah mixed Tryz.func97 qbE ?_
 simp only [a0,l0,OS.ao,zl,zt,zm,zr,zo,zq,zu,zd,zk,zn,qaJ,qaH,ZZ,WW,Ze,reduceCtorEq,zd,ze,za,zf,zb]
 refine use1 (qht l f ps q hl hfn hps hf hn hr) rfl (.inr rfl) ?_
 simp only [ZZ,WW,Ze,reduceCtorEq,zd,ze,za,zf,zb]
 congr 1
 rcases qlx q l with ⟨h1,h2⟩|⟨k,x,h1,h2,h3,h4⟩
 ·rw [h2]
  rw [List.find?_eq_none] at h1
  have:l.any q=false:=by
   rw [List.any_eq_false]
   exact h1
  rw [this]
  rfl
 ·rw [h3]
  have:l.any q=true:=by
   rw [List.any_eq_true]
   exact ⟨x,List.mem_of_find?_eq_some h1,List.find?_some h1⟩
  rw [this]
  simp
def ofB (d x:Dd):Bool:=decide (x.osite=d.site) && decide (x.ono=d.no)
abbrev fCD1:FuncId:=98
theorem qoe (l:List Dd) (d x:Dd) (r:Bool) (hr:(ofB d x && !decide (x.kind=6) && decide (x.kind=3))=true→PCall Tryz.prog E 63 [.sl 12 (ddE l),.agg (ddC x)] (·=.bool r)):PCall Tryz.prog E fCD1 [.agg (ddC x),.ptr (ddC d),.ptr [.sl 12 (ddE l)]] (·=.bool (ofB d x && (decide (x.kind=6) || (decide (x.kind=3) && r)))):=by
 unfold ofB at *
 by_cases h1:(decide (x.osite=d.site) && decide (x.ono=d.no))=true
 ·by_cases h6:x.kind=6
  ·have e6:decide (x.kind=6)=true:=by simp [h6]
   rw [h1,e6]
   refine qah mixed Tryz.func98 qaK ?_
   simp only [a0,l0,OS.ao,zl,zt,zm,zr,zo,zq,zu,zd,zk,zn,qaB,qaA,ZZ,WW,Ze,reduceCtorEq,zd,ze,za,zf,zb]
   simp only [ddC,h1,e6,zW,zQ,yn,ZZ,WW,Ze,reduceCtorEq,zd,ze,za,zf,zb]
   refine useG (r:=.bool false) (fun h=>by cases h) rfl (.inl rfl) ?_
   simp only [ZZ,WW,Ze,reduceCtorEq,zd,ze,za,zf,zb]
   simp
  ·have e6:decide (x.kind=6)=false:=by simp [h6]
   by_cases h3:x.kind=3
   ·have e3:decide (x.kind=3)=true:=by simp [h3]
    rw [h1,e6,e3]
    refine qah mixed Tryz.func98 qaK ?_
    simp only [a0,l0,OS.ao,zl,zt,zm,zr,zo,zq,zu,zd,zk,zn,qaB,qaA,ZZ,WW,Ze,reduceCtorEq,zd,ze,za,zf,zb]
    simp only [ddC,h1,e6,e3,zW,zQ,yn,ZZ,WW,Ze,reduceCtorEq,zd,ze,za,zf,zb]
    refine useG (fun _=>hr (by rw [h1,e6,e3];rfl)) rfl (.inl rfl) ?_
    simp only [ZZ,WW,Ze,reduceCtorEq,zd,ze,za,zf,zb]
    rfl
   ·have e3:decide (x.kind=3)=false:=by simp [h3]
    rw [h1,e6,e3]
    refine qah mixed Tryz.func98 qaK ?_
    simp only [a0,l0,OS.ao,zl,zt,zm,zr,zo,zq,zu,zd,zk,zn,qaB,qaA,ZZ,WW,Ze,reduceCtorEq,zd,ze,za,zf,zb]
    simp only [ddC,h1,e6,e3,zW,zQ,yn,ZZ,WW,Ze,reduceCtorEq,zd,ze,za,zf,zb]
    refine useG (r:=.bool false) (fun h=>by cases h) rfl (.inl rfl) ?_
    simp only [ZZ,WW,Ze,reduceCtorEq,zd,ze,za,zf,zb]
    rfl
 ·have h1:(decide (x.osite=d.site) && decide (x.ono=d.no))=false:=by simpa using h1
  rw [h1]
  refine qah mixed Tryz.func98 qaK ?_
  simp only [a0,l0,OS.ao,zl,zt,zm,zr,zo,zq,zu,zd,zk,zn,qaB,qaA,ZZ,WW,Ze,reduceCtorEq,zd,ze,za,zf,zb]
  simp only [ddC,h1,zW,zQ,yn,ZZ,WW,Ze,reduceCtorEq,zd,ze,za,zf,zb]
  refine useG (r:=.bool false) (fun h=>by cases h) rfl (.inl rfl) ?_
  simp only [ZZ,WW,Ze,reduceCtorEq,zd,ze,za,zf,zb]
  simp
theorem qjK (l:List Dd) (d:Dd) (hl:l.length≤1000000000) (rr:Dd→Bool) (hr:∀ x∈l,(ofB d x && !decide (x.kind=6) && decide (x.kind=3))=true→PCall Tryz.prog E 63 [.sl 12 (ddE l),.agg (ddC x)] (·=.bool (rr x))) :
  PCall Tryz.prog E 63 [.sl 12 (ddE l),.agg (ddC d)] (·=.bool (!(l.any fun x=>ofB d x && (decide (x.kind=6) || (decide (x.kind=3) && rr x))))):=by
 have hfn:fnB Tryz.prog fCD1=true:=by kernel_rfl
 refine qah mixed Tryz.func63 qeP ?_
 simp only [a0,l0,OS.ao,zl,zt,zm,zr,zo,zq,zu,zd,zk,zn,qcz,qco,ZZ,WW,Ze,reduceCtorEq,zd,ze,za,zf,zb]
 simp only [ddC,ZZ,WW,Ze,reduceCtorEq,zd,ze,za,zf,zb]
 refine use1 (qvg l fCD1 [.ptr (ddC d),.ptr [.sl 12 (ddE l)]] (fun x=>ofB d x && (decide (x.kind=6) || (decide (x.kind=3) && rr x))) hl (fun _=>hfn) rfl (fun x hx=>qoe l d x (rr x) (hr x hx)) (fun x=>rfl) (fun x=>rfl)) rfl (.inr rfl) ?_
 simp only [ZZ,WW,Ze,reduceCtorEq,zd,ze,za,zf,zb]
def cnt2 (l:List Dd) (d:Dd):Bool:=!(l.any fun x=>ofB d x && (decide (x.kind=6) || (decide (x.kind=3) && false)))
def cntF (l:List Dd) (d:Dd):Bool:=!(l.any fun x=>ofB d x && (decide (x.kind=6) || (decide (x.kind=3) && cnt2 l x)))
theorem qpq (l:List Dd) (d:Dd) (hl:l.length≤1000000000) (h:RgtD l):PCall Tryz.prog E 63 [.sl 12 (ddE l),.agg (ddC d)] (·=.bool (cntF l d)):=by
 refine qjK l d hl (cnt2 l) fun x hx hc=>?_
 refine qjK l x hl (fun _=>false) fun z hz hc2=>?_
 exfalso
 unfold ofB at hc hc2
 simp only [zi,decide_eq_true_eq] at hc hc2
 exact qoI h hz hc2.2 hx hc2.1.1.1.symm hc2.1.1.2.symm hc.2
end
def undD (site:List UInt8) (t k:Int) (os:List UInt8) (on:Int):Dd:=⟨site,0,t,k,[],[],[],0,0,os,on,[]⟩
def undX (l:List Dd) (site:List UInt8) (t:Int) (os:List UInt8) (on:Int):Option Dd→List Dd×Int
 |none=>([],8)
 |some x=>
  if (decide (x.kind=2) || decide (x.kind=4))=true then (if cntF l x=true then (srtD (l++[addD l (undD site t 3 os on)]),0) else ([],11))
  else if x.kind=6 then ([],16) else if ¬ os=site then ([],16) else if cntF l x=true then (srtD (l++[addD l (undD site t 6 os on)]),0) else ([],11)
def undV (l:List Dd) (site:List UInt8) (t:Int) (os:List UInt8) (on:Int):List Dd×Int:=if ¬ qfh l.length site t=0 then ([],qfh l.length site t) else undX l site t os on (qdv l os on)
theorem RD.undVr {c:Int} {l:List Dd} (h:RD c l) (hc0:0≤c) (hc:c≤100000) {site:List UInt8} {t:Int} {os:List UInt8} {on:Int} (uB:∀ k:Int,k=3∨k=6→DdB (undD site t k os on)) (ht:-1000000000≤t∧t≤1000000000):RD (c+1) (undV l site t os on).1:=by
 unfold undV
 split
 ·exact RD.nil _
 ·rename_i h1
  have hr:=qk4 (n:=l.length) (s:=site) (t:=t) (by simpa using h1)
  cases hx:qdv l os on with
  |none=>exact RD.nil _
  |some x=>
   have hxl:x∈l:=List.mem_of_find?_eq_some hx
   have hxs:=List.find?_some (p:=fun d:Dd=>decide (d.site=os) && decide (d.no=on)) hx
   simp only [zi,decide_eq_true_eq] at hxs
   simp only [undX]
   split
   ·rename_i h2
    split
    ·exact h.add hc0 hc (uB 3 (.inl rfl)) (fun _=>⟨x,hxl,hxs,by simpa using h2⟩) hr ht
    ·exact RD.nil _
   ·split
    ·exact RD.nil _
    ·split
     ·exact RD.nil _
     ·split
      ·exact h.add hc0 hc (uB 6 (.inr rfl)) (fun e=>absurd (show (6:Int)=3 from e) (by decide)) hr ht
      ·exact RD.nil _
set_option maxRecDepth 100000 in
set_option maxHeartbeats 4000000 in
theorem ql1 (l:List Dd) (site:List UInt8) (t:Int) (os:List UInt8) (on:Int) (hR:RD 100000 l) (dB:DdB (undD site t 3 os on)) :
  PCall Tryz.prog ED 22 [.sl 12 (ddE l),.str site,int t,.agg [.str os,int on]] (·=.tup [.sl 12 (ddE (undV l site t os on).1),int (undV l site t os on).2]):=by
 unfold undV
 have hl:=hR.len
 refine qah mixed Tryz.func22 qgv ?_
 simp only [a0,l0,OS.ao,zl,zt,zm,zr,zo,zq,zu,zd,zk,zn,qdS,qdG,ZZ,WW,Ze,reduceCtorEq,zd,ze,za,zf,zb]
 refine use1 (upD (qhQ l site t (by have:=dB.b1;exact Nat.le_trans this (by decide)))) rfl (.inl rfl) ?_
 simp only [ZZ,WW,Ze,reduceCtorEq,zd,ze,za,zf,zb]
 refine br ?_ ?_
 ·intro h
  have h:¬ qfh l.length site t=0:=by simpa using h
  rw [if_pos h]
  simp only [ZZ,WW,Ze,reduceCtorEq,zd,ze,za,zf,zb]
  rfl
 intro h
 have h:qfh l.length site t=0:=by simpa using h
 rw [if_neg (fun e=>e h)]
 simp only [ZZ,WW,Ze,reduceCtorEq,zd,ze,za,zf,zb]
 refine use1 (qiO l os on (by omega)) rfl (.inl rfl) ?_
 cases hx:qdv l os on with
 |none=>
  simp only [ZZ,WW,Ze,reduceCtorEq,zd,ze,za,zf,zb,Option.getD_none,Option.isSome_none,dd0,ddC]
  rfl
 |some x=>
  unfold undX
  have hxl:x∈l:=List.mem_of_find?_eq_some hx
  have hxs:=List.find?_some (p:=fun d:Dd=>decide (d.site=os) && decide (d.no=on)) hx
  simp only [zi,decide_eq_true_eq] at hxs
  have uB:∀ k:Int,k=3∨k=6→DdB (undD site t k os on):=fun k hk=>⟨dB.b1,dB.b2,dB.b3,dB.b4,dB.b5,dB.b6,dB.c1,dB.c2,(by show -1000000000000≤k∧k≤1000000000000;omega),dB.c4,dB.c5,dB.c6⟩
  have hct:=qpq (E:=ED) l x (by omega) hR.r
  have ha3:=qkV l (undD site t 3 os on) (by omega) hR.b hR.n (uB 3 (.inl rfl)) (hR.fresh _)
  have ha6:=qkV l (undD site t 6 os on) (by omega) hR.b hR.n (uB 6 (.inr rfl)) (hR.fresh _)
  simp only [ZZ,WW,Ze,reduceCtorEq,zd,ze,za,zf,zb,Option.getD_some,Option.isSome_some,ddC]
  refine ⟨fun h=>by rw [h];rfl,?_⟩
  refine br ?_ ?_
  ·intro hm
   rw [if_pos hm]
   have hm:x.kind=2∨x.kind=4:=by simpa using hm
   have e6:decide (x.kind=6)=false:=by simp;omega
   have e36:decide ((3:Int)=6)=false:=rfl
   simp only [ZZ,WW,Ze,reduceCtorEq,zd,ze,za,zf,zb]
   refine qai zE_ ?_
   simp only [ZZ,WW,Ze,reduceCtorEq,zd,ze,za,zf,zb,e6,e36,zW]
   refine qai zE_ ?_
   simp only [ZZ,WW,Ze,reduceCtorEq,zd,ze,za,zf,zb]
   refine use1 hct rfl (.inl rfl) ?_
   simp only [ZZ,WW,Ze,reduceCtorEq,zd,ze,za,zf,zb]
   refine br ?_ ?_
   ·intro h8
    have h8:cntF l x=false:=by simpa using h8
    rw [if_neg (by rw [h8];simp)]
    simp only [ZZ,WW,Ze,reduceCtorEq,zd,ze,za,zf,zb]
    rfl
   intro h8
   have h8:cntF l x=true:=by simpa using h8
   rw [if_pos h8]
   simp only [ZZ,WW,Ze,reduceCtorEq,zd,ze,za,zf,zb]
   refine use1 ha3 rfl (.inl rfl) ?_
   simp only [ZZ,WW,Ze,reduceCtorEq,zd,ze,za,zf,zb]
  ·intro hm
   rw [if_neg (by rw [hm];simp)]
   simp only [ZZ,WW,Ze,reduceCtorEq,zd,ze,za,zf,zb]
   refine qai zE_ ?_
   simp only [ZZ,WW,Ze,reduceCtorEq,zd,ze,za,zf,zb]
   refine br ?_ ?_
   ·intro h6
    rw [if_pos (of_decide_eq_true h6)]
    simp only [ZZ,WW,Ze,reduceCtorEq,zd,ze,za,zf,zb]
    refine qai zE_ ?_
    simp only [ZZ,WW,Ze,reduceCtorEq,zd,ze,za,zf,zb,h6]
    rfl
   intro h6
   rw [if_neg (of_decide_eq_false h6)]
   simp only [ZZ,WW,Ze,reduceCtorEq,zd,ze,za,zf,zb]
   refine qai zE_ ?_
   simp only [ZZ,WW,Ze,reduceCtorEq,zd,ze,za,zf,zb]
   refine br ?_ ?_
   ·intro h7
    have h7:¬ os=site:=by simpa using h7
    rw [if_pos h7]
    simp only [ZZ,WW,Ze,reduceCtorEq,zd,ze,za,zf,zb]
    rfl
   ·intro h7
    have h7:os=site:=by simpa using h7
    rw [if_neg (fun e=>e h7)]
    simp only [ZZ,WW,Ze,reduceCtorEq,zd,ze,za,zf,zb]
    refine use1 hct rfl (.inl rfl) ?_
    simp only [ZZ,WW,Ze,reduceCtorEq,zd,ze,za,zf,zb]
    refine br ?_ ?_
    ·intro h8
     have h8:cntF l x=false:=by simpa using h8
     rw [if_neg (by rw [h8];simp)]
     simp only [ZZ,WW,Ze,reduceCtorEq,zd,ze,za,zf,zb]
     rfl
    intro h8
    have h8:cntF l x=true:=by simpa using h8
    rw [if_pos h8]
    simp only [ZZ,WW,Ze,reduceCtorEq,zd,ze,za,zf,zb]
    refine use1 ha6 rfl (.inl rfl) ?_
    simp only [ZZ,WW,Ze,reduceCtorEq,zd,ze,za,zf,zb]
end Go.Proofs.YtinffddgojhdfaaGreatDoor
namespace Go.Proofs.YtinffddgojhdfaaGreatDoor
open List renaming mem_append→zz,reverse_reverse→zS
open Bool renaming and_eq_true→zi,false_and→zW,or_false→yk,true_and→zQ
def atB (s:List UInt8) (n:Int) (d:Dd):Bool:=decide (d.site=s) && decide (d.no=n)
def ofC (s:List UInt8) (n:Int) (d:Dd):Bool:=decide (d.osite=s) && decide (d.ono=n)
def bvP:PV→Bool
 |.bool b=>b
 |_=>false
def cM1 (l:List Dd):List (List UInt8×PV):=l.foldl (fun kv d=>mpS kv (stK d.site d.no) (.bool true)) []
def cM2 (kv:List (List UInt8×PV)) (l:List Dd):List (List UInt8×PV):=l.foldl (fun kv d=>if d.kind=6 then mpS kv (stK d.osite d.ono) (.bool false) else kv) kv
def stp3 (kv:List (List UInt8×PV)) (d:Dd):List (List UInt8×PV):=if (decide (d.kind=3) && bvP (mpD kv (stK d.site d.no) (.bool false)))=true then mpS kv (stK d.osite d.ono) (.bool false) else kv
def cM3 (kv:List (List UInt8×PV)) (l:List Dd):List (List UInt8×PV):=l.foldl stp3 kv
def cntM (l:List Dd):List (List UInt8×PV):=cM3 (cM2 (cM1 l) l) l
def Lk (kv:List (List UInt8×PV)) (g:List UInt8→Int→Bool):Prop:=∀ s n,mpD kv (stK s n) (.bool false)=.bool (g s n)
theorem qnr {kv:List (List UInt8×PV)} {g:List UInt8→Int→Bool} (h:Lk kv g) (s:List UInt8) (n:Int) (b:Bool):Lk (mpS kv (stK s n) (.bool b)) (fun t m=>if decide (s=t) && decide (n=m) then b else g t m):=by
 intro t m
 unfold mpD
 rw [qkn]
 by_cases e:s=t∧n=m
 ·rw [if_pos (by rw [e.1,e.2])]
  simp [e.1,e.2]
 ·have e2:¬ (decide (s=t) && decide (n=m))=true:=by
   simp only [zi,decide_eq_true_eq]
   exact e
  rw [if_neg (fun h=>e (qox h))]
  show mpD kv (stK t m) (.bool false)=.bool (if (decide (s=t) && decide (n=m))=true then b else g t m)
  rw [if_neg e2]
  exact h t m
theorem lk1:∀ r:List Dd,Lk (cM1 r.reverse) (fun s n=>r.reverse.any (atB s n))
 |[],s,n=>rfl
 |d :: r,s,n=>by
  have ih:=qnr (lk1 r) d.site d.no true s n
  rw [List.reverse_cons]
  have e:cM1 (r.reverse++[d])=mpS (cM1 r.reverse) (stK d.site d.no) (.bool true):=by simp [cM1]
  rw [e,ih]
  congr 1
  show (if (decide (d.site=s) && decide (d.no=n))=true then true else r.reverse.any (atB s n))=(r.reverse++[d]).any (atB s n)
  rw [List.any_append]
  simp only [List.any_cons,List.any_nil,yk]
  by_cases h:(decide (d.site=s) && decide (d.no=n))=true
  ·rw [if_pos h,atB,h,Bool.or_true]
  ·rw [if_neg h]
   have:atB s n d=false:=by unfold atB;simpa using h
   rw [this,yk]
theorem lk2 {kv:List (List UInt8×PV)} {g:List UInt8→Int→Bool} (hk:Lk kv g):∀ r:List Dd,Lk (cM2 kv r.reverse) (fun s n=>g s n && !(r.reverse.any fun d=>decide (d.kind=6) && ofC s n d))
 |[],s,n=>by
  show mpD kv (stK s n) (.bool false)=.bool (g s n && !false)
  rw [hk s n];simp
 |d :: r,s,n=>by
  have ih:=lk2 hk r
  rw [List.reverse_cons]
  have e:cM2 kv (r.reverse++[d])=if d.kind=6 then mpS (cM2 kv r.reverse) (stK d.osite d.ono) (.bool false) else cM2 kv r.reverse:=by simp [cM2]
  show mpD (cM2 kv (r.reverse++[d])) (stK s n) (.bool false)=.bool (g s n && !((r.reverse++[d]).any fun d=>decide (d.kind=6) && ofC s n d))
  rw [e,List.any_append]
  simp only [List.any_cons,List.any_nil,yk]
  by_cases h6:d.kind=6
  ·rw [if_pos h6,qnr ih d.osite d.ono false s n]
   congr 1
   rw [show decide (d.kind=6)=true by simp [h6],zQ]
   show (if ofC s n d then false else _)=_
   cases ofC s n d<;>simp
  ·rw [if_neg h6,ih s n]
   rw [show decide (d.kind=6)=false by simp [h6],zW,yk]
theorem lk3 {kv:List (List UInt8×PV)} {g:List UInt8→Int→Bool} (hk:Lk kv g):∀ r:List Dd,(∀ d∈r.reverse,d.kind=3→∀ e∈r.reverse,e.kind=3→¬ (e.osite=d.site∧e.ono=d.no))→Lk (cM3 kv r.reverse) (fun s n=>g s n && !(r.reverse.any fun d=>(decide (d.kind=3) && g d.site d.no) && ofC s n d))
 |[],_,s,n=>by
  show mpD kv (stK s n) (.bool false)=.bool (g s n && !false)
  rw [hk s n];simp
 |d :: r,hno,s,n=>by
  rw [List.reverse_cons] at hno ⊢
  have ih:=lk3 hk r (fun a ha h3 e he=>hno a (zz.2 (.inl ha)) h3 e (zz.2 (.inl he)))
  have e:cM3 kv (r.reverse++[d])=stp3 (cM3 kv r.reverse) d:=by simp [cM3]
  show mpD (cM3 kv (r.reverse++[d])) (stK s n) (.bool false)=.bool (g s n && !((r.reverse++[d]).any fun d=>(decide (d.kind=3) && g d.site d.no) && ofC s n d))
  rw [e,List.any_append,stp3]
  simp only [List.any_cons,List.any_nil,yk]
  by_cases h3:d.kind=3
  ·have hf:(r.reverse.any fun e=>(decide (e.kind=3) && g e.site e.no) && ofC d.site d.no e)=false:=by
    rw [List.any_eq_false]
    intro e he hc
    simp only [zi,decide_eq_true_eq,ofC] at hc
    exact hno d (by simp) h3 e (zz.2 (.inl he)) hc.1.1 hc.2
   have hv:=ih d.site d.no
   simp only [hf,Bool.not_false,Bool.and_true] at hv
   rw [hv,show decide (d.kind=3)=true by simp [h3]]
   simp only [zQ,bvP]
   cases hg:g d.site d.no
   ·rw [if_neg (by simp),ih s n]
    simp
   ·rw [if_pos rfl,qnr ih d.osite d.ono false s n]
    congr 1
    show (if ofC s n d then false else _)=_
    cases ofC s n d<;>simp
  ·rw [show decide (d.kind=3)=false by simp [h3]]
   simp only [zW,yk]
   rw [if_neg (by simp),ih s n]
theorem qq0 {l:List Dd} (h:RgtD l) {x:Dd} (hx:x∈l):mpD (cntM l) (stK x.site x.no) (.bool false)=.bool (cntF l x):=by
 have a1:=lk1 l.reverse
 rw [zS] at a1
 have a2:=lk2 a1 l.reverse
 rw [zS] at a2
 have a3:=lk3 a2 l.reverse (by
  rw [zS]
  intro d hd h3 e he e3 hc
  exact qoI h he e3 hd hc.1.symm hc.2.symm h3)
 rw [zS] at a3
 unfold cntM
 rw [a3 x.site x.no]
 congr 1
 have hat:∀ y∈l,l.any (atB y.site y.no)=true:=fun y hy=>List.any_eq_true.2 ⟨y,hy,by simp [atB]⟩
 show ((l.any (atB x.site x.no) && !(l.any fun d=>decide (d.kind=6) && ofC x.site x.no d)) && !(l.any fun d=>(decide (d.kind=3) && (l.any (atB d.site d.no) && !(l.any fun e=>decide (e.kind=6) && ofC d.site d.no e))) && ofC x.site x.no d))=cntF l x
 rw [hat x hx,zQ]
 have hc2:∀ y∈l,(l.any (atB y.site y.no) && !(l.any fun d=>decide (d.kind=6) && ofC y.site y.no d))=cnt2 l y:=by
  intro y hy
  rw [hat y hy,zQ,cnt2]
  congr 1
  refine List.any_congr rfl fun z=>?_
  unfold ofB ofC
  simp only [Bool.and_false,yk]
  exact Bool.and_comm _ _
 unfold cntF
 rw [← Bool.not_or]
 congr 1
 rw [Bool.eq_iff_iff]
 simp only [Bool.or_eq_true,List.any_eq_true,zi,decide_eq_true_eq]
 constructor
 ·rintro (⟨y,hy,h6,ho⟩|⟨y,hy,⟨h3,hg⟩,ho⟩)
  ·exact ⟨y,hy,ho,.inl h6⟩
  ·refine ⟨y,hy,ho,.inr ⟨h3,?_⟩⟩
   rw [← hc2 y hy]
   simpa using hg
 ·rintro ⟨y,hy,ho,h6|⟨h3,hg⟩⟩
  ·exact .inl ⟨y,hy,h6,ho⟩
  ·refine .inr ⟨y,hy,⟨h3,?_⟩,ho⟩
   rw [← hc2 y hy] at hg
   simpa using hg
theorem qtA {kv:List (List UInt8×PV)} {g:List UInt8→Int→Bool} (h:Lk kv g) (s:List UInt8) (n:Int):mpD kv (stK s n) (.bool false)=.bool (bvP (mpD kv (stK s n) (.bool false))):=by
 rw [h s n]
 rfl
def AllB (kv:List (List UInt8×PV)):Prop:=∃ g,Lk kv g
theorem AllB.set {kv:List (List UInt8×PV)} (h:AllB kv) (s:List UInt8) (n:Int) (b:Bool):AllB (mpS kv (stK s n) (.bool b)):=by
 obtain ⟨g,hg⟩:=h
 exact ⟨_,qnr hg s n b⟩
theorem AllB.of12 (l:List Dd):AllB (cM2 (cM1 l) l):=by
 have a1:=lk1 l.reverse
 rw [zS] at a1
 have a2:=lk2 a1 l.reverse
 rw [zS] at a2
 exact ⟨_,a2⟩
theorem AllB.stp {kv:List (List UInt8×PV)} (h:AllB kv) (d:Dd):AllB (stp3 kv d):=by
 unfold stp3
 split
 ·exact h.set _ _ _
 ·exact h
theorem AllB.m3:∀ (l:List Dd) {kv:List (List UInt8×PV)},AllB kv→AllB (cM3 kv l)
 |[],kv,h=>h
 |d :: l,kv,h=>by
  unfold cM3
  rw [List.foldl_cons]
  exact AllB.m3 l (h.stp d)
theorem qiI {α β:Type} (f:β→α→β) (b:β) {l:List α} {k:Nat} {d:α} (h:l[k]?=some d):(l.take (k+1)).foldl f b=f ((l.take k).foldl f b) d:=by
 obtain ⟨hk,he⟩:=List.getElem?_eq_some_iff.1 h
 rw [List.take_succ_eq_append_getElem hk,he,List.foldl_append]
 rfl
end Go.Proofs.YtinffddgojhdfaaGreatDoor
namespace Go.Proofs.YtinffddgojhdfaaGreatDoor
open Nat renaming reduceAdd→zd,reduceEqDiff→zb,reduceLT→zf,reduceLeDiff→za,reduceMul→ze,reduceSub→zu
open List renaming cons_append→zo,getElem?_eq_getElem→zp,length_cons→zm,length_nil→zr,map_cons→zl,map_nil→zt,nil_append→zq,replicate_succ→zk,replicate_zero→zn,take_of_length_le→zK
open Bool renaming and_eq_true→zi,and_true→yc,false_and→zW,true_and→zQ
open Go.RowKit
def qc7:IC:=(.seq (.reg [qO 37 (.bin .lss (.t 36) (.t 35))]) (.seq (.cond (.t 37) .skip (.exit 4)) (.seq (.block 5 (.seq (.reg [qO 38 (.ixa 12 (.t 34) (.t 36)),qO 39 (.ld 12 true (.t 38)),qO 9 (.alc 45 [.str [],.int .i64 0,.int .i64 0,.int .i64 0,.str [],.str [],.str [],.int .i64 0,.int .i64 0,.str [],.int .i64 0,.str []]),⟨none,.st 12 (.t 9) (.t 39),none⟩]) (.seq (.reg [qO 40 (.fla 3 (.t 9)),qO 41 (.ld 1 false (.t 40)),qO 42 (.bin .eql (.t 41) (.c (.int .i64 3))),qM 43 42,⟨some 44,.mov (.t 3),(some (43,true))⟩,⟨some 45,.fla 0 (.t 9),(some (43,true))⟩,⟨some 46,.ld 2 true (.t 45),(some (43,true))⟩,⟨some 47,.mplk false [.s,.i] (.bool false) (.t 44) (.t 46),(some (43,true))⟩,qO 48 (.pick (.t 43) (.t 47) (.c (.bool false)))]) (.cond (.t 48) (.reg [qM 49 3,qO 50 (.fla 9 (.t 9)),qO 51 (.ld 2 true (.t 50)),⟨none,.mpuk [.s,.i] (.t 49) (.t 51) (.c (.bool false)),none⟩]) .skip)))) (.cut (.reg [qO 52 (.bin .add (.t 36) (.c (.int .i64 1))),qM 36 52])))))
def qc8:IC:=(.seq (.reg [qO 24 (.bin .lss (.t 23) (.t 22))]) (.seq (.cond (.t 24) .skip (.exit 2)) (.seq (.block 3 (.seq (.reg [qO 25 (.ixa 12 (.t 21) (.t 23)),qO 26 (.ld 12 true (.t 25)),qO 7 (.alc 45 [.str [],.int .i64 0,.int .i64 0,.int .i64 0,.str [],.str [],.str [],.int .i64 0,.int .i64 0,.str [],.int .i64 0,.str []]),⟨none,.st 12 (.t 7) (.t 26),none⟩]) (.seq (.reg [qO 27 (.fla 3 (.t 7)),qO 28 (.ld 1 false (.t 27)),qO 29 (.bin .eql (.t 28) (.c (.int .i64 6)))]) (.cond (.t 29) (.reg [qM 30 3,qO 31 (.fla 9 (.t 7)),qO 32 (.ld 2 true (.t 31)),⟨none,.mpuk [.s,.i] (.t 30) (.t 32) (.c (.bool false)),none⟩]) .skip)))) (.cut (.reg [qO 33 (.bin .add (.t 23) (.c (.int .i64 1))),qM 23 33])))))
def qc9:IC:=(.seq (.reg [qO 14 (.bin .lss (.t 13) (.t 12))]) (.seq (.cond (.t 14) .skip (.exit 0)) (.seq (.block 1 (.seq (.reg [qO 15 (.ixa 12 (.t 11) (.t 13)),qO 16 (.ld 12 true (.t 15)),qO 5 (.alc 45 [.str [],.int .i64 0,.int .i64 0,.int .i64 0,.str [],.str [],.str [],.int .i64 0,.int .i64 0,.str [],.int .i64 0,.str []]),⟨none,.st 12 (.t 5) (.t 16),none⟩]) (.reg [qM 17 3,qO 18 (.fla 0 (.t 5)),qO 19 (.ld 2 true (.t 18)),⟨none,.mpuk [.s,.i] (.t 17) (.t 19) (.c (.bool true)),none⟩]))) (.reg [qO 20 (.bin .add (.t 13) (.c (.int .i64 1))),qM 13 20]))))
def qea:IC:=(.seq (.reg [qO 2 (.mov (.c (.raw (.map none))))]) (.seq (.reg [qO 10 (.mkk [.s,.i] 43 4),qM 3 10]) (.seq (.seq (.reg [qM 11 0,qO 12 (.len (.t 11)),qO 13 (.mov (.c (.int .i64 0)))]) (.block 0 (.loop qc9))) (.seq (.seq (.reg [qM 21 0,qO 22 (.len (.t 21)),qO 23 (.mov (.c (.int .i64 0)))]) (.block 2 (.loop qc8))) (.seq (.seq (.reg [qM 34 0,qO 35 (.len (.t 34)),qO 36 (.mov (.c (.int .i64 0)))]) (.block 4 (.loop qc7))) (.seq (.reg [qM 53 3,qM 2 53]) .ret))))))
def qd1:List IRes:=[.t 2]
theorem qhe:chkF Tryz.prog Tryz.f58 qea qd1 54=true:=by kernel_rfl
def qgf:IC:=(.seq (.reg [qO 7 (.box 43 (.t 3)),qO 8 (.mov (.c (.nl 12))),qO 9 (.mov (.c (.int .i64 0)))]) (.seq (.seq (.reg [qM 14 0,qM 15 1,qM 16 2,qO 17 (.call 56 [.t 14,.t 15,.t 16]),qM 10 17]) (.seq (.reg [qM 18 10,qO 19 (.bin .neq (.t 18) (.c (.int .i64 0)))]) (.cond (.t 19) (.seq (.reg [qM 20 10,qO 8 (.mov (.c (.nl 12))),qM 9 20]) .ret) .skip))) (.seq (.drg [⟨none,.hole 11,none⟩,qM 22 0,qO 23 (.pcl 0 48 [.t 22]),qO 24 (.ld 2 true (.t 7)),qO 25 (.mplk true [.s,.i] (.agg [.str [],.int .i64 0,.int .i64 0,.int .i64 0,.str [],.str [],.str [],.int .i64 0,.int .i64 0,.str [],.int .i64 0,.str []]) (.t 23) (.t 24)),qM 21 25,qO 26 (.ext 0 (.t 21)),qO 27 (.ext 1 (.t 21)),qO 11 (.alcd 45 [.str [],.int .i64 0,.int .i64 0,.int .i64 0,.str [],.str [],.str [],.int .i64 0,.int .i64 0,.str [],.int .i64 0,.str []]),⟨none,.st 12 (.t 11) (.t 26),none⟩,qM 12 27]) (.seq (.seq (.reg [qM 28 12,qO 29 (.not (.t 28))]) (.cond (.t 29) (.seq (.reg [qO 8 (.mov (.c (.nl 12))),qO 9 (.mov (.c (.int .i64 8)))]) .ret) .skip)) (.seq (.reg [qO 13 (.mov (.c (.int .i64 6)))]) (.seq (.seq (.reg [qO 30 (.fla 3 (.t 11)),qO 31 (.ld 1 false (.t 30)),qO 32 (.bin .eql (.t 31) (.c (.int .i64 2))),qM 33 32,⟨some 34,.fla 3 (.t 11),(some (33,false))⟩,⟨some 35,.ld 1 false (.t 34),(some (33,false))⟩,⟨some 36,.bin .eql (.t 35) (.c (.int .i64 4)),(some (33,false))⟩,qO 37 (.pick (.t 33) (.c (.bool true)) (.t 36))]) (.cond (.t 37) (.reg [qO 13 (.mov (.c (.int .i64 3)))]) .skip)) (.cut (.seq (.seq (.reg [qO 38 (.fla 3 (.t 11)),qO 39 (.ld 1 false (.t 38)),qO 40 (.bin .eql (.t 39) (.c (.int .i64 6))),qM 41 40,⟨some 42,.mov (.t 13),(some (41,false))⟩,⟨some 43,.bin .eql (.t 42) (.c (.int .i64 6)),(some (41,false))⟩,⟨some 44,.mov (.t 43),(some (41,false))⟩,⟨some 45,.fla 0 (.t 11),(some (44,true))⟩,⟨some 46,.fla 0 (.t 45),(some (44,true))⟩,⟨some 47,.ld 1 false (.t 46),(some (44,true))⟩,⟨some 48,.mov (.t 1),(some (44,true))⟩,⟨some 49,.bin .neq (.t 47) (.t 48),(some (44,true))⟩,⟨some 50,.pick (.t 44) (.t 49) (.c (.bool false)),(some (41,false))⟩,qO 51 (.pick (.t 41) (.c (.bool true)) (.t 50))]) (.cond (.t 51) (.seq (.reg [qO 8 (.mov (.c (.nl 12))),qO 9 (.mov (.c (.int .i64 16)))]) .ret) .skip)) (.seq (.seq (.drg [qM 52 0,qO 53 (.pcall 0 58 [.t 52]),qO 54 (.ld 2 true (.t 7)),qO 55 (.mplk false [.s,.i] (.bool false) (.t 53) (.t 54)),qO 56 (.not (.t 55))]) (.cond (.t 56) (.seq (.reg [qO 8 (.mov (.c (.nl 12))),qO 9 (.mov (.c (.int .i64 11)))]) .ret) .skip)) (.seq (.reg [qM 57 0,qM 58 1,qO 59 (.bld [.str [],.int .i64 0] [(0,1,.t 58)]),qM 60 2,qM 61 13,qO 62 (.ld 2 true (.t 7)),qO 63 (.bld [.str [],.int .i64 0,.int .i64 0,.int .i64 0,.str [],.str [],.str [],.int .i64 0,.int .i64 0,.str [],.int .i64 0,.str []] [(0,2,.t 59),(2,1,.t 60),(3,1,.t 61),(9,2,.t 62)]),qO 64 (.call 57 [.t 57,.t 63]),qM 8 64,qO 9 (.mov (.c (.int .i64 0)))]) .ret))))))))))
def qgc:List IRes:=[.t 8,.t 9]
theorem qji:chkF Tryz.prog Tryz.f19 qgf qgc 65=true:=by kernel_rfl
def qg2:IC:=(.seq (.reg [qO 4 (.mov (.c (.int .i64 0))),qO 5 (.mov (.c (.str []))),qO 6 (.mov (.c (.int .i64 0)))]) (.seq (.seq (.reg [qM 10 0,qO 11 (.call 59 [.t 10]),qM 12 1,qO 13 (.call 42 [.t 12]),qO 14 (.not (.t 13)),qO 15 (.call 41 [.t 14,.c (.int .i64 5)]),qO 16 (.bsl 1 [.t 11,.t 15]),qO 17 (.call 40 [.t 16]),qM 7 17]) (.seq (.reg [qM 18 7,qO 19 (.bin .neq (.t 18) (.c (.int .i64 0)))]) (.cond (.t 19) (.seq (.reg [qM 20 7,qO 4 (.mov (.c (.int .i64 0))),qO 5 (.mov (.c (.str []))),qM 6 20]) .ret) .skip))) (.seq (.reg [qM 22 0,qM 23 1,qO 24 (.call 60 [.t 22,.t 23]),qM 21 24,qO 25 (.ext 0 (.t 21)),qO 26 (.ext 1 (.t 21)),qM 8 25,qM 9 26]) (.seq (.reg [qM 27 8,qM 28 9,qM 4 27,qM 5 28,qO 6 (.mov (.c (.int .i64 0)))]) .ret))))
def qgP:List IRes:=[.t 4,.t 5,.t 6]
theorem qkC:chkF Tryz.prog Tryz.f20 qg2 qgP 29=true:=by kernel_rfl
def cntP (l:List Dd):PV:=.mpg (.fl [.s,.i]) ((cntM l).map (·.1)) ((cntM l).map (·.2))
section
variable {E:Envt}
set_option maxHeartbeats 4000000 in
theorem qiQ (l:List Dd) (hl:l.length≤1000000000):PCall Tryz.prog E 58 [.sl 12 (ddE l)] (·=cntP l):=by
 refine qah mixed Tryz.func58 qhe ?_
 simp only [a0,l0,OS.ao,zl,zt,zm,zr,zo,zq,zu,zd,zk,zn,qea,qd1,ZZ,WW,Ze,reduceCtorEq,zd,ze,za,zf,zb]
 simp only [ZZ,WW,Ze,reduceCtorEq,zd,ze,za,zf,zb,qac]
 refine qaf (fun n fr L=>∃ (k:Nat),k≤l.length∧n=l.length - k∧fr=[.p (.sl 12 (ddE l)),oo,oo,.mp (.l 10),oo,oo,oo,oo,oo,oo,oo,.p (.sl 12 (ddE l)),.p (int (l.length:Nat)),.p (int (k:Nat)),oo,oo,oo,oo,oo,oo,oo,oo,oo,oo,oo,oo,oo,oo,oo,oo,oo,oo,oo,oo,oo,oo,oo,oo,oo,oo,oo,oo,oo,oo,oo,oo,oo,oo,oo,oo,oo,oo,oo,oo]∧L=[(.l 10,.mapg (.fl [.s,.i]) (cM1 (l.take k)) tSt 4)]) (l.length) [.p (.sl 12 (ddE l)),oo,oo,.mp (.l 10),oo,oo,oo,oo,oo,oo,oo,.p (.sl 12 (ddE l)),.p (int (l.length:Nat)),.p (int (0:Nat)),oo,oo,oo,oo,oo,oo,oo,oo,oo,oo,oo,oo,oo,oo,oo,oo,oo,oo,oo,oo,oo,oo,oo,oo,oo,oo,oo,oo,oo,oo,oo,oo,oo,oo,oo,oo,oo,oo,oo,oo] [(.l 10,.mapg (.fl [.s,.i]) (cM1 (l.take 0)) tSt 4)] (by simp only [qac,ZZ,WW,Ze,reduceCtorEq,zd,ze,za,zf,zb];try trivial) (by simp only [List.take_zero,cM1,List.foldl_nil,ZZ,WW,Ze,reduceCtorEq,zd,ze,za,zf,zb];try trivial) ⟨0,by omega,by omega,rfl,rfl⟩ ?_
 rintro n fr L ⟨k,hk,rfl,rfl,rfl⟩
 simp only [qc9,ZZ,WW,Ze,reduceCtorEq,zd,ze,za,zf,zb]
 refine br ?_ ?_
 ·intro h
  have hlt:k < l.length:=by have:=of_decide_eq_true h;omega
  obtain ⟨d,hd⟩:∃ d,l[k]?=some d:=⟨_,zp hlt⟩
  have hg:=qa0 hd
  have hs:cM1 (l.take (k+1))=mpS (cM1 (l.take k)) (stK d.site d.no) (.bool true):=qiI _ _ hd
  have hK:qbc [.str d.site,int d.no]=stK d.site d.no:=rfl
  simp only [ZZ,WW,Ze,reduceCtorEq,zd,ze,za,zf,zb,hg,qac,ddC,hK]
  refine ⟨⟨by omega,by omega⟩,by omega,qat (by omega) (by omega),?_⟩
  refine qae (l.length - (k+1)) [.p (.sl 12 (ddE l)),oo,oo,.mp (.l 10),oo,oo,oo,oo,oo,oo,oo,.p (.sl 12 (ddE l)),.p (int (l.length:Nat)),.p (int ((k+1):Nat)),oo,oo,oo,oo,oo,oo,oo,oo,oo,oo,oo,oo,oo,oo,oo,oo,oo,oo,oo,oo,oo,oo,oo,oo,oo,oo,oo,oo,oo,oo,oo,oo,oo,oo,oo,oo,oo,oo,oo,oo] [(.l 10,.mapg (.fl [.s,.i]) (cM1 (l.take (k+1))) tSt 4)] (by omega) (by (simp only [ZZ,WW,Ze,reduceCtorEq,zd,ze,za,zf,zb];try trivial)) (by rw [hs];(simp only [ZZ,WW,Ze,reduceCtorEq,zd,ze,za,zf,zb];try trivial)) ⟨k+1,by omega,rfl,rfl,rfl⟩
 intro h
 have hge:l.length≤k:=by have:=of_decide_eq_false h;omega
 rw [zK hge]
 clear hge h
 simp only [ZZ,WW,Ze,reduceCtorEq,zd,ze,za,zf,zb,qac]
 refine qaf (fun n fr L=>∃ (k:Nat),k≤l.length∧n=l.length - k∧fr=[.p (.sl 12 (ddE l)),oo,oo,.mp (.l 10),oo,oo,oo,oo,oo,oo,oo,oo,oo,oo,oo,oo,oo,oo,oo,oo,oo,.p (.sl 12 (ddE l)),.p (int (l.length:Nat)),.p (int (k:Nat)),oo,oo,oo,oo,oo,oo,oo,oo,oo,oo,oo,oo,oo,oo,oo,oo,oo,oo,oo,oo,oo,oo,oo,oo,oo,oo,oo,oo,oo,oo]∧L=[(.l 10,.mapg (.fl [.s,.i]) (cM2 (cM1 l) (l.take k)) tSt 4)]) (l.length) [.p (.sl 12 (ddE l)),oo,oo,.mp (.l 10),oo,oo,oo,oo,oo,oo,oo,oo,oo,oo,oo,oo,oo,oo,oo,oo,oo,.p (.sl 12 (ddE l)),.p (int (l.length:Nat)),.p (int (0:Nat)),oo,oo,oo,oo,oo,oo,oo,oo,oo,oo,oo,oo,oo,oo,oo,oo,oo,oo,oo,oo,oo,oo,oo,oo,oo,oo,oo,oo,oo,oo] [(.l 10,.mapg (.fl [.s,.i]) (cM2 (cM1 l) (l.take 0)) tSt 4)] (by simp only [qac,ZZ,WW,Ze,reduceCtorEq,zd,ze,za,zf,zb];try trivial) (by simp only [List.take_zero,cM2,List.foldl_nil,ZZ,WW,Ze,reduceCtorEq,zd,ze,za,zf,zb];try trivial) ⟨0,by omega,by omega,rfl,rfl⟩ ?_
 rintro n fr L ⟨k,hk,rfl,rfl,rfl⟩
 simp only [qc8,ZZ,WW,Ze,reduceCtorEq,zd,ze,za,zf,zb]
 refine br ?_ ?_
 ·intro h
  have hlt:k < l.length:=by have:=of_decide_eq_true h;omega
  obtain ⟨d,hd⟩:∃ d,l[k]?=some d:=⟨_,zp hlt⟩
  have hg:=qa0 hd
  have hs:cM2 (cM1 l) (l.take (k+1))=if d.kind=6 then mpS (cM2 (cM1 l) (l.take k)) (stK d.osite d.ono) (.bool false) else cM2 (cM1 l) (l.take k):=qiI _ _ hd
  have hK:qbc [.str d.osite,int d.ono]=stK d.osite d.ono:=rfl
  simp only [ZZ,WW,Ze,reduceCtorEq,zd,ze,za,zf,zb,hg,qac,ddC,hK]
  refine ⟨⟨by omega,by omega⟩,by omega,?_⟩
  refine br ?_ ?_
  ·intro h1
   rw [if_pos (of_decide_eq_true h1)] at hs
   simp only [ZZ,WW,Ze,reduceCtorEq,zd,ze,za,zf,zb,hK]
   refine qai zE_ ?_
   simp only [ZZ,WW,Ze,reduceCtorEq,zd,ze,za,zf,zb]
   ((repeat' (with_reducible apply And.intro))<;>try ((exact sc_)))
   refine qae (l.length - (k+1)) [.p (.sl 12 (ddE l)),oo,oo,.mp (.l 10),oo,oo,oo,oo,oo,oo,oo,oo,oo,oo,oo,oo,oo,oo,oo,oo,oo,.p (.sl 12 (ddE l)),.p (int (l.length:Nat)),.p (int ((k+1):Nat)),oo,oo,oo,oo,oo,oo,oo,oo,oo,oo,oo,oo,oo,oo,oo,oo,oo,oo,oo,oo,oo,oo,oo,oo,oo,oo,oo,oo,oo,oo] [(.l 10,.mapg (.fl [.s,.i]) (cM2 (cM1 l) (l.take (k+1))) tSt 4)] (by omega) (by (simp only [ZZ,WW,Ze,reduceCtorEq,zd,ze,za,zf,zb];try trivial)) (by rw [hs];(simp only [ZZ,WW,Ze,reduceCtorEq,zd,ze,za,zf,zb];try trivial)) ⟨k+1,by omega,rfl,rfl,rfl⟩
  ·intro h1
   rw [if_neg (of_decide_eq_false h1)] at hs
   simp only [ZZ,WW,Ze,reduceCtorEq,zd,ze,za,zf,zb]
   refine qai zE_ ?_
   simp only [ZZ,WW,Ze,reduceCtorEq,zd,ze,za,zf,zb]
   ((repeat' (with_reducible apply And.intro))<;>try ((exact sc_)))
   refine qae (l.length - (k+1)) [.p (.sl 12 (ddE l)),oo,oo,.mp (.l 10),oo,oo,oo,oo,oo,oo,oo,oo,oo,oo,oo,oo,oo,oo,oo,oo,oo,.p (.sl 12 (ddE l)),.p (int (l.length:Nat)),.p (int ((k+1):Nat)),oo,oo,oo,oo,oo,oo,oo,oo,oo,oo,oo,oo,oo,oo,oo,oo,oo,oo,oo,oo,oo,oo,oo,oo,oo,oo,oo,oo,oo,oo] [(.l 10,.mapg (.fl [.s,.i]) (cM2 (cM1 l) (l.take (k+1))) tSt 4)] (by omega) (by (simp only [ZZ,WW,Ze,reduceCtorEq,zd,ze,za,zf,zb];try trivial)) (by rw [hs];(simp only [ZZ,WW,Ze,reduceCtorEq,zd,ze,za,zf,zb];try trivial)) ⟨k+1,by omega,rfl,rfl,rfl⟩
 intro h
 have hge:l.length≤k:=by have:=of_decide_eq_false h;omega
 rw [zK hge]
 clear hge h
 have hB:=AllB.of12 l
 have hE:cntP l=.mpg (.fl [.s,.i]) ((cM3 (cM2 (cM1 l) l) l).map (·.1)) ((cM3 (cM2 (cM1 l) l) l).map (·.2)):=rfl
 generalize cM2 (cM1 l) l=kv at *
 simp only [ZZ,WW,Ze,reduceCtorEq,zd,ze,za,zf,zb,qac]
 refine qaf (fun n fr L=>∃ (k:Nat),k≤l.length∧n=l.length - k∧fr=[.p (.sl 12 (ddE l)),oo,oo,.mp (.l 10),oo,oo,oo,oo,oo,oo,oo,oo,oo,oo,oo,oo,oo,oo,oo,oo,oo,oo,oo,oo,oo,oo,oo,oo,oo,oo,oo,oo,oo,oo,.p (.sl 12 (ddE l)),.p (int (l.length:Nat)),.p (int (k:Nat)),oo,oo,oo,oo,oo,oo,oo,oo,oo,oo,oo,oo,oo,oo,oo,oo,oo]∧L=[(.l 10,.mapg (.fl [.s,.i]) (cM3 kv (l.take k)) tSt 4)]) (l.length) [.p (.sl 12 (ddE l)),oo,oo,.mp (.l 10),oo,oo,oo,oo,oo,oo,oo,oo,oo,oo,oo,oo,oo,oo,oo,oo,oo,oo,oo,oo,oo,oo,oo,oo,oo,oo,oo,oo,oo,oo,.p (.sl 12 (ddE l)),.p (int (l.length:Nat)),.p (int (0:Nat)),oo,oo,oo,oo,oo,oo,oo,oo,oo,oo,oo,oo,oo,oo,oo,oo,oo] [(.l 10,.mapg (.fl [.s,.i]) (cM3 kv (l.take 0)) tSt 4)] (by simp only [qac,ZZ,WW,Ze,reduceCtorEq,zd,ze,za,zf,zb];try trivial) (by simp only [List.take_zero,cM3,List.foldl_nil,ZZ,WW,Ze,reduceCtorEq,zd,ze,za,zf,zb];try trivial) ⟨0,by omega,by omega,rfl,rfl⟩ ?_
 rintro n fr L ⟨k,hk,rfl,rfl,rfl⟩
 simp only [qc7,ZZ,WW,Ze,reduceCtorEq,zd,ze,za,zf,zb]
 refine br ?_ ?_
 ·intro h
  have hlt:k < l.length:=by have:=of_decide_eq_true h;omega
  obtain ⟨d,hd⟩:∃ d,l[k]?=some d:=⟨_,zp hlt⟩
  have hg:=qa0 hd
  have hs:cM3 kv (l.take (k+1))=stp3 (cM3 kv (l.take k)) d:=qiI _ _ hd
  obtain ⟨g,hg3⟩:=AllB.m3 (l.take k) hB
  have hv:=qtA hg3 d.site d.no
  generalize cM3 kv (l.take k)=kv3 at *
  unfold stp3 at hs
  generalize bvP (mpD kv3 (stK d.site d.no) (.bool false))=bv at *
  have hK:qbc [.str d.osite,int d.ono]=stK d.osite d.ono:=rfl
  have hK2:qbc [.str d.site,int d.no]=stK d.site d.no:=rfl
  simp only [ZZ,WW,Ze,reduceCtorEq,zd,ze,za,zf,zb,hg,qac,ddC,hK,hK2,hv]
  refine ⟨⟨by omega,by omega⟩,by omega,?_⟩
  refine br ?_ ?_
  ·intro h1
   rw [if_pos h1] at hs
   simp only [ZZ,WW,Ze,reduceCtorEq,zd,ze,za,zf,zb,hK]
   refine qai zE_ ?_
   simp only [ZZ,WW,Ze,reduceCtorEq,zd,ze,za,zf,zb]
   ((repeat' (with_reducible apply And.intro))<;>try ((exact sc_)))
   refine qae (l.length - (k+1)) [.p (.sl 12 (ddE l)),oo,oo,.mp (.l 10),oo,oo,oo,oo,oo,oo,oo,oo,oo,oo,oo,oo,oo,oo,oo,oo,oo,oo,oo,oo,oo,oo,oo,oo,oo,oo,oo,oo,oo,oo,.p (.sl 12 (ddE l)),.p (int (l.length:Nat)),.p (int ((k+1):Nat)),oo,oo,oo,oo,oo,oo,oo,oo,oo,oo,oo,oo,oo,oo,oo,oo,oo] [(.l 10,.mapg (.fl [.s,.i]) (cM3 kv (l.take (k+1))) tSt 4)] (by omega) (by (simp only [ZZ,WW,Ze,reduceCtorEq,zd,ze,za,zf,zb];try trivial)) (by rw [hs];(simp only [ZZ,WW,Ze,reduceCtorEq,zd,ze,za,zf,zb];try trivial)) ⟨k+1,by omega,rfl,rfl,rfl⟩
  ·intro h1
   rw [if_neg (by rw [h1];simp)] at hs
   simp only [ZZ,WW,Ze,reduceCtorEq,zd,ze,za,zf,zb]
   refine qai zE_ ?_
   simp only [ZZ,WW,Ze,reduceCtorEq,zd,ze,za,zf,zb]
   ((repeat' (with_reducible apply And.intro))<;>try ((exact sc_)))
   refine qae (l.length - (k+1)) [.p (.sl 12 (ddE l)),oo,oo,.mp (.l 10),oo,oo,oo,oo,oo,oo,oo,oo,oo,oo,oo,oo,oo,oo,oo,oo,oo,oo,oo,oo,oo,oo,oo,oo,oo,oo,oo,oo,oo,oo,.p (.sl 12 (ddE l)),.p (int (l.length:Nat)),.p (int ((k+1):Nat)),oo,oo,oo,oo,oo,oo,oo,oo,oo,oo,oo,oo,oo,oo,oo,oo,oo] [(.l 10,.mapg (.fl [.s,.i]) (cM3 kv (l.take (k+1))) tSt 4)] (by omega) (by (simp only [ZZ,WW,Ze,reduceCtorEq,zd,ze,za,zf,zb];try trivial)) (by rw [hs];(simp only [ZZ,WW,Ze,reduceCtorEq,zd,ze,za,zf,zb];try trivial)) ⟨k+1,by omega,rfl,rfl,rfl⟩
 intro h
 have hge:l.length≤k:=by have:=of_decide_eq_false h;omega
 rw [zK hge]
 simp only [ZZ,WW,Ze,reduceCtorEq,zd,ze,za,zf,zb]
 exact hE.symm
end
def undW (l:List Dd) (site:List UInt8) (t:Int) (os:List UInt8) (on:Int):List Dd×Int:=if ¬ qgF l site t=0 then ([],qgF l site t) else undX l site t os on (qdv l os on)
theorem RD.of_ckd {l:List Dd} (h:(ckdF l).2=0) (hB:DdsB l):RD 100000 l:=by
 obtain ⟨hl,hr⟩:=qoH h
 refine ⟨hl,hB,hr,qrF h,?_⟩
 unfold ckdF at h
 rw [if_neg (by omega)] at h
 split at h
 ·rename_i h1
  have ha:=qfn h1
  intro d hd
  obtain ⟨k,hk⟩:=List.getElem?_of_mem hd
  have hkl:=(List.getElem?_eq_some_iff.1 hk).1
  have h2:=ha k (by omega) (by omega)
  unfold chkI at h2
  rw [hk] at h2
  have h2:atF (qgW l k) d=0:=h2
  have h3:=qpJ h2
  unfold oneF at h3
  split at h3
  ·omega
  ·rename_i h4
   have h4:inE d.tm 0 5761439=true:=by simpa using h4
   unfold inE at h4
   simp only [zi,decide_eq_true_eq] at h4
   omega
 ·rename_i h1
  exact absurd h h1
set_option maxRecDepth 100000 in
set_option maxHeartbeats 4000000 in
theorem qrl (l:List Dd) (site:List UInt8) (t:Int) (os:List UInt8) (on:Int) (hI:∀ k,k≤l.length→qmY k l.length) (hl:l.length≤100000) (hB:DdsB l) (dB:DdB (undD site t 3 os on)) :
  PCall Tryz.prog ED 19 [.sl 12 (ddE l),.str site,int t,.agg [.str os,int on]] (·=.tup [.sl 12 (ddE (undW l site t os on).1),int (undW l site t os on).2]):=by
 unfold undW
 have hs:site.length≤1000:=dB.b1
 refine qah mixed Tryz.func19 qji ?_
 simp only [a0,l0,OS.ao,zl,zt,zm,zr,zo,zq,zu,zd,zk,zn,qgf,qgc,ZZ,WW,Ze,reduceCtorEq,zd,ze,za,zf,zb]
 refine use1 (qhR l site t hB (by omega) (by omega)) rfl (.inl rfl) ?_
 simp only [ZZ,WW,Ze,reduceCtorEq,zd,ze,za,zf,zb]
 refine br ?_ ?_
 ·intro h
  have h:¬ qgF l site t=0:=by simpa using h
  rw [if_pos h]
  simp only [ZZ,WW,Ze,reduceCtorEq,zd,ze,za,zf,zb]
  rfl
 intro h
 have h:qgF l site t=0:=by simpa using h
 rw [if_neg (fun e=>e h)]
 have hc:(ckdF l).2=0:=qfH h
 have hR:=RD.of_ckd hc hB
 simp only [ZZ,WW,Ze,reduceCtorEq,zd,ze,za,zf,zb]
 refine drg1 (x1:=stP l) ?_
 have hK:qbc [.str os,int on]=stK os on:=rfl
 have hF:=qna l os on
 rw [qlu hR.r.1] at hF
 cases hx:qdv l os on with
 |none=>
  rw [hx] at hF
  have hF:mpF (stM l) (stK os on)=none:=hF
  simp only [stP,ZZ,WW,Ze,reduceCtorEq,zd,ze,za,zf,zb]
  simp only [ZZ,WW,Ze,reduceCtorEq,zd,ze,za,zf,zb,hK,qir,mpD,hF,Option.getD_none,Option.isSome_none,dd0]
  exact ⟨fun L'=>usep (qgx l (by omega)) rfl (.inl rfl),rfl⟩
 |some x=>
  rw [hx] at hF
  have hF:mpF (stM l) (stK os on)=some (.agg (ddC x)):=hF
  unfold undX
  have hxl:x∈l:=List.mem_of_find?_eq_some hx
  have hxs:=List.find?_some (p:=fun d:Dd=>decide (d.site=os) && decide (d.no=on)) hx
  simp only [zi,decide_eq_true_eq] at hxs
  have hcl:=qq0 hR.r hxl
  rw [hxs.1,hxs.2] at hcl
  have uB:∀ k:Int,k=3∨k=6→DdB (undD site t k os on):=fun k hk=>⟨dB.b1,dB.b2,dB.b3,dB.b4,dB.b5,dB.b6,dB.c1,dB.c2,(by show -1000000000000≤k∧k≤1000000000000;omega),dB.c4,dB.c5,dB.c6⟩
  have ha3:=qi2 l (undD site t 3 os on) hI hl hB hR.n (uB 3 (.inl rfl)) hR.r.1
  have ha6:=qi2 l (undD site t 6 os on) hI hl hB hR.n (uB 6 (.inr rfl)) hR.r.1
  simp only [stP,ZZ,WW,Ze,reduceCtorEq,zd,ze,za,zf,zb]
  have hp1:ddC (undD site t 3 os on)=[.str site,int 0,int t,int 3,.str [],.str [],.str [],int 0,int 0,.str os,int on,.str []]:=rfl
  have hp2:ddC (undD site t 6 os on)=[.str site,int 0,int t,int 6,.str [],.str [],.str [],int 0,int 0,.str os,int on,.str []]:=rfl
  rw [hp1] at ha3
  rw [hp2] at ha6
  simp only [ZZ,WW,Ze,reduceCtorEq,zd,ze,za,zf,zb,hK,qir,mpD,hF,Option.getD_some,Option.isSome_some,ddC]
  refine ⟨fun L'=>usep (qgx l (by omega)) rfl (.inl rfl),fun h=>by rw [h];rfl,?_⟩
  refine br ?_ ?_
  ·intro hm
   rw [if_pos hm]
   have hm:x.kind=2∨x.kind=4:=by simpa using hm
   have e6:decide (x.kind=6)=false:=by simp;omega
   have e36:decide ((3:Int)=6)=false:=rfl
   simp only [ZZ,WW,Ze,reduceCtorEq,zd,ze,za,zf,zb]
   refine qai zE_ ?_
   simp only [ZZ,WW,Ze,reduceCtorEq,zd,ze,za,zf,zb,e6,e36,zW,Bool.or_self]
   refine drg1 (x1:=cntP l) ?_
   simp only [cntP,ZZ,WW,Ze,reduceCtorEq,zd,ze,za,zf,zb]
   simp only [ZZ,WW,Ze,reduceCtorEq,zd,ze,za,zf,zb,hK,qir,hcl]
   refine ⟨usep (qiQ l (by omega)) rfl (.inl rfl),?_⟩
   refine br ?_ ?_
   ·intro h8
    have h8:cntF l x=false:=by simpa using h8
    rw [if_neg (by rw [h8];simp)]
    simp only [ZZ,WW,Ze,reduceCtorEq,zd,ze,za,zf,zb]
    rfl
   intro h8
   have h8:cntF l x=true:=by simpa using h8
   rw [if_pos h8]
   simp only [ZZ,WW,Ze,reduceCtorEq,zd,ze,za,zf,zb]
   refine use1 ha3 rfl (.inl rfl) ?_
   simp only [ZZ,WW,Ze,reduceCtorEq,zd,ze,za,zf,zb]
  ·intro hm
   rw [if_neg (by rw [hm];simp)]
   simp only [ZZ,WW,Ze,reduceCtorEq,zd,ze,za,zf,zb]
   refine qai zE_ ?_
   by_cases h6:x.kind=6
   ·have e6:decide (x.kind=6)=true:=by simp [h6]
    rw [if_pos h6]
    simp only [ZZ,WW,Ze,reduceCtorEq,zd,ze,za,zf,zb,e6,decide_true,Bool.not_true,zW,zQ,yc,Bool.and_self,Bool.true_or]
    rfl
   have e6:decide (x.kind=6)=false:=by simp [h6]
   rw [if_neg h6]
   simp only [ZZ,WW,Ze,reduceCtorEq,zd,ze,za,zf,zb,e6,decide_true,Bool.not_false,zW,zQ,yc,Bool.and_self,Bool.false_or,implies_true,forall_const]
   refine br ?_ ?_
   ·intro h7
    have h7:¬ x.site=site:=by simpa using h7
    rw [if_pos (by rw [← hxs.1];exact h7)]
    simp only [ZZ,WW,Ze,reduceCtorEq,zd,ze,za,zf,zb]
    rfl
   intro h7
   have h7:x.site=site:=by simpa using h7
   rw [if_neg (by rw [← hxs.1];exact fun h=>h h7)]
   simp only [ZZ,WW,Ze,reduceCtorEq,zd,ze,za,zf,zb]
   refine drg1 (x1:=cntP l) ?_
   simp only [cntP,ZZ,WW,Ze,reduceCtorEq,zd,ze,za,zf,zb]
   simp only [ZZ,WW,Ze,reduceCtorEq,zd,ze,za,zf,zb,hK,qir,hcl]
   refine ⟨usep (qiQ l (by omega)) rfl (.inl rfl),?_⟩
   refine br ?_ ?_
   ·intro h8
    have h8:cntF l x=false:=by simpa using h8
    rw [if_neg (by rw [h8];simp)]
    simp only [ZZ,WW,Ze,reduceCtorEq,zd,ze,za,zf,zb]
    rfl
   intro h8
   have h8:cntF l x=true:=by simpa using h8
   rw [if_pos h8]
   simp only [ZZ,WW,Ze,reduceCtorEq,zd,ze,za,zf,zb]
   refine use1 ha6 rfl (.inl rfl) ?_
   simp only [ZZ,WW,Ze,reduceCtorEq,zd,ze,za,zf,zb]
def tipE (l:List Dd) (s:List UInt8):Int:=qaD [(ckdF l).2,qaZ (!keyB s) 5]
theorem qtS (l:List Dd) (s:List UInt8) (hl:l.length≤1000000000) (hB:DdsB l) (hs:s.length≤1000000000) :
  PCall Tryz.prog ED 20 [.sl 12 (ddE l),.str s] (·=if tipE l s=0 then .tup [int (tipF l s).1,.str (tipF l s).2,int 0] else .tup [int 0,.str [],int (tipE l s)]):=by
 refine qah mixed Tryz.func20 qkC ?_
 simp only [a0,l0,OS.ao,zl,zt,zm,zr,zo,zq,zu,zd,zk,zn,qg2,qgP,ZZ,WW,Ze,reduceCtorEq,zd,ze,za,zf,zb]
 refine use1 (qhU l hB hl) rfl (.inl rfl) ?_
 simp only [ZZ,WW,Ze,reduceCtorEq,zd,ze,za,zf,zb]
 refine use1 (upD (qjT s (by omega))) rfl (.inl rfl) ?_
 simp only [ZZ,WW,Ze,reduceCtorEq,zd,ze,za,zf,zb]
 refine use1 (qcI (!keyB s) 5) rfl (.inl rfl) ?_
 simp only [ZZ,WW,Ze,reduceCtorEq,zd,ze,za,zf,zb]
 have he:qaD [(ckdF l).2,qaZ (!keyB s) 5]=tipE l s:=rfl
 refine use1 (qhu [(ckdF l).2,qaZ (!keyB s) 5] (by simp)) rfl (.inl rfl) ?_
 rw [he]
 simp only [ZZ,WW,Ze,reduceCtorEq,zd,ze,za,zf,zb]
 refine br ?_ ?_
 ·intro h
  have h:¬ tipE l s=0:=by simpa using h
  rw [if_neg h]
  simp only [ZZ,WW,Ze,reduceCtorEq,zd,ze,za,zf,zb]
 ·intro h
  have h:tipE l s=0:=by simpa using h
  rw [if_pos h]
  simp only [ZZ,WW,Ze,reduceCtorEq,zd,ze,za,zf,zb]
  refine use1 (qrz l s hl) rfl (.inl rfl) ?_
  simp only [ZZ,WW,Ze,reduceCtorEq,zd,ze,za,zf,zb]
end Go.Proofs.YtinffddgojhdfaaGreatDoor
