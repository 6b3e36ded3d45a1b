import Derived.Test.YtinffddgojhdfaaGreatDoorZ8
import Derived.Maps.AppendAt
import Derived.Lib.AppendZeros
import Derived.Test.YtinffddgojhdfaaGreatDoorZ12
import Derived.Test.YtinffddgojhdfaaGreatDoorZ10
import Derived.Lib.AppendZerosOnto
import Derived.Laws.CopyRow
import Derived.Laws.Externs
import Derived.Lib.Hide
set_option linter.unusedVariables false
set_option linter.unusedSimpArgs false
set_option linter.defProp false
namespace Go.Proofs.YtinffddgojhdfaaGreatDoor
open Go.Lib Go.RowKit Go.Shelf Go.Sort
abbrev fIns:FuncId:=96
def InsOk (i n:Nat):Prop:=
 ∀ (w:World) (v:Value) (xs news:List Value) (vb voff vc:Nat),w.ownsRow 0 tDd 12 v n xs→(∀ u∈xs,u.oneCell'=true)→news.length=12→(∀ j u,news[j]?=some u→w.cell? ⟨vb,voff+j,none⟩=some u)→(∀ u∈news,u.oneCell'=true)→v.ownBlock≠some vb→n≤1000000→
  Calls Tryz.prog fIns #[v,.int .i64 i,.slice (some ⟨vb,voff,none⟩) 1 vc] w fun e w'=>∃ v',e=.returned v'∧w'.ownsRow 0 tDd 12 v' (n+1) (xs.take (i * 12)++news++xs.drop (i * 12))∧w.grownBy w' v.ownBlock∧(v'.ownBlock=v.ownBlock∨v'.ownBlock=some w.heap.size)
set_option maxHeartbeats 4000000 in
set_option maxRecDepth 1000000 in
theorem ins_end (n:Nat):InsOk n n:=by
 intro w v xs news vb voff vc hown h1x hnl hnews h1n hne hn
 have hA:appB Tryz.prog tDd 12 144=true:=by kernel_rfl
 obtain ⟨i0,zv,q1,q2,q3,q4,q5,q6,q7⟩:=appB_spec hA
 have hl:xs.length=n * 12:=hown.1
 have t22:Tryz.prog.underlying 26=some (.slice tDd):=Tryz.underlying26
 obtain ⟨v',w',r1,r2,r3,_,r5⟩:=run_append_own_at (P:=Tryz.prog) w 0 26 26 tDd i0 zv 12 144 t22 q1 q2 q3 q4 q5 (by decide) v n xs hown ⟨vb,voff,none⟩ 1 vc news (by omega) (fun j u hj=>by rw [Addr.add_lit];exact hnews j u hj) h1n (by unfold maxLen;omega) (by omega) (Nat.zero_le _)
 have hfin:xs.take (n * 12)++news++xs.drop (n * 12)=xs++news:=by rw [List.take_of_length_le (by omega),List.drop_eq_nil_of_le (by omega),List.append_nil]
 rw [hfin]
 rcases hown.2 with ⟨rfl,rfl⟩|⟨g,cap,cur,rfl,hbg,hg,hnc,hcm,hcs,htake⟩
 ·go_enter Tryz.func96,Tryz.ntmps96
  go_wp2_with (at_builtin;refine Lib.wpList_append_run _ rfl _ _ _ _ rfl _ _ rfl rfl _ _ r1 ?_)
  go_ret
  exact ⟨v',rfl,r2,r3,r5⟩
 ·go_enter Tryz.func96,Tryz.ntmps96
  go_wp2_with (at_builtin;refine Lib.wpList_append_run _ rfl _ _ _ _ rfl _ _ rfl rfl _ _ r1 ?_)
  all_goals (go_ret;exact ⟨v',rfl,r2,r3,r5⟩)
section
variable {E:Envt} {L:Objs} {fr:List AV} {d:Option Nat} {is:List IOper} {Y:List PV} {K:List AV→Objs→Prop}
theorem useIns (i:Nat) (es:List (List PV)) (k:Nat) (c:List PV) (hI:InsOk k es.length) (hkl:k≤es.length) (hc:c.length=12) (hz:es.length≤1000000) (hlk:Zas L (.l i)=some (.row es tDd 12 true))
  (hk:awpOps Tryz.prog E Y is (Zg (fr.map (·.kill (.l i))) d (.row (.l i))) (Zav L (.l i) (.row (es.take k++c :: es.drop k) tDd 12 true)) K):CallOp Tryz.prog E fIns [.row (.l i),.p (int k),.p (.sl 12 [c])] L d fr (contO Tryz.prog E Y is K):=by
 refine .inr (.inr ⟨i,?_⟩)
 intro w X ι vs hs hX hE hEb hA
 simp only [ARepL,ARep] at hA
 obtain ⟨v1,r1,rfl,⟨rfl,A,n,c',hv⟩,v2,r2,rfl,h2,v3,r3,rfl,h3,rfl⟩:=hA
 have h2:v2=.int .i64 k:=h2
 subst h2
 simp only [PRep,PRepE] at h3
 obtain ⟨A3,c3,rfl,hc3,h3⟩:=h3
 obtain ⟨b3,off3,rfl,hb3,hu3,hl3,hC3,_⟩:=h3 (by simp)
 obtain ⟨news,g1,g2,g3⟩:=hC3.vals
 obtain ⟨us,u1,u2,u3,u4⟩:=hs.obj _ _ hlk
 have hown:=u1.owns
 refine (hI w (ι (.l i)) us news b3 off3 c3 hown u2 (by rw [g1.length];exact hc) g3 g2 (fun e=>hu3 (.inl ⟨_,_,hlk,by rw [blk_own (b:=b3) (owns_slice hown)];exact e⟩)) hz).mono ?_
 rintro e w' ⟨v',rfl,k2,k3,k4⟩
 have hG:Grow w w' (Old L ι (.l i)):=grow_of_grownBy k3 (fun b hb=>⟨_,hlk,by rw [blk_own (b:=b) (owns_slice hown)];exact hb⟩)
 have hbk:∀ b',blk v'=some b'→w.heap.size≤b'∨Old L ι (.l i) b':=by
  intro b hb
  rw [blk_own (b:=b) (owns_slice k2)] at hb
  rcases k4 with k4|k4
  ·exact .inr ⟨_,hlk,by rw [blk_own (b:=b) (owns_slice hown),← k4];exact hb⟩
  ·rw [k4] at hb;cases hb;exact .inl (Nat.le_refl _)
 have hkp:=upd_keeps (X:=X) (ao:=.row (es.take k++c :: es.drop k) tDd 12 true) (fun b hb=>(hX b hb).1) hG hbk
 have hlen:(es.take k++c :: es.drop k).length=es.length+1:=by simp;omega
 have hfl:(es.take k++c :: es.drop k).flatten=es.flatten.take (k * 12)++c++es.flatten.drop (k * 12):=by
  rw [List.flatten_append,List.flatten_cons,take_flat es k u4 (by omega),drop_flat es k u4 (by omega),List.append_assoc]
 have hobj:ObjOk w' (fun b'=>Own (Zav L (.l i) (.row (es.take k++c :: es.drop k) tDd 12 true)) (updI ι (.l i) v') b'∨X b') (updI ι (.l i) v') (.l i) (.row (es.take k++c :: es.drop k) tDd 12 true):=by
  refine ⟨us.take (k * 12)++news++us.drop (k * 12),?_,?_,?_,?_⟩
  ·have:=RowOk.of_owns k2
   rw [hlen]
   simpa [updI] using this
  ·intro u hu
   simp only [List.mem_append] at hu
   rcases hu with (hu|hu)|hu
   ·exact u2 u (List.mem_of_mem_take hu)
   ·exact g2 u hu
   ·exact u2 u (List.mem_of_mem_drop hu)
  ·rw [hfl]
   exact PRepL.mono hkp _ _ (((u3.take _).append g1).append (u3.drop _))
  ·intro x hx
   rcases List.mem_append.1 hx with hx|hx
   ·exact u4 x (List.mem_of_mem_take hx)
   ·rcases List.mem_cons.1 hx with rfl|hx
    ·exact hc
    ·exact u4 x (List.mem_of_mem_drop hx)
 refine ⟨_,.row (.l i),_,updI ι (.l i) v',rfl,hk,⟨by simp [updI],owns_slice k2⟩,⟨hs.upd (fun b hb=>(hX b hb).1) _ _ _ hG hbk hobj,⟨hG.os,hG.tape,hG.output,hG.size,fun x hx hn=>hG.block x hx (fun e=>hn e.own)⟩,fun x hx=>?_,fun j hj=>by simp [updI,hj],fun j hj=>?_⟩⟩
 ·rcases own_updL hx with h|⟨j,q',hj,h1,h2⟩
  ·rcases hbk x h with h|h
   ·exact .inr h
   ·exact .inl h.own
  ·exact .inl ⟨j,q',h1,h2⟩
 ·rw [look_updL] at hj
  by_cases e:j=.l i
  ·exact .inr e
  ·rw [if_neg e] at hj
   exact .inl (by simpa using hj)
end
end Go.Proofs.YtinffddgojhdfaaGreatDoor
namespace Go.Proofs.YtinffddgojhdfaaGreatDoor
open Go.RowKit
def ir_matter_added:IC:=(.seq (.reg [qO 3 (.box 45 (.t 1)),qO 4 (.mov (.c (.nl 12)))]) (.seq (.reg [qM 10 0,qO 11 (.fla 0 (.t 3)),qO 12 (.fla 0 (.t 11)),qO 13 (.ld 1 false (.t 12)),qO 14 (.call 60 [.t 10,.t 13]),qM 9 14,qO 15 (.ext 0 (.t 9)),qO 16 (.ext 1 (.t 9)),qM 5 15,qM 6 16]) (.seq (.reg [qM 17 5,qO 18 (.bin .add (.t 17) (.c (.int .i64 1))),qO 19 (.fla 0 (.t 3)),qO 20 (.fla 1 (.t 19)),⟨none,.st 1 (.t 20) (.t 18),none⟩]) (.seq (.reg [qO 21 (.ld 12 true (.t 3)),qM 22 6,qO 23 (.call 47 [.t 21,.t 22]),qO 24 (.fla 11 (.t 3)),⟨none,.st 1 (.t 24) (.t 23),none⟩]) (.seq (.reg [qM 26 0,qO 27 (.fla 0 (.t 3)),qO 28 (.ld 2 true (.t 27)),qO 29 (.call 94 [.t 26,.t 28,.f 95]),qM 25 29,qO 30 (.ext 0 (.t 25)),qO 31 (.ext 1 (.t 25)),qM 7 30,qM 8 31]) (.seq (.drg [⟨none,.hole 33,none⟩,qM 32 0,qO 33 (.fcl 0 35 [.t 32] 45 12),qM 34 7,qO 35 (.ld 12 true (.t 3)),qO 36 (.bsl 12 [.t 35]),qO 37 (.call 96 [.t 33,.t 34,.t 36]),qM 4 37]) .ret))))))
def rs_matter_added:List IRes:=[.t 4]
theorem ck_matter_added:chkF Tryz.prog Tryz.f57 ir_matter_added rs_matter_added 38=true:=by kernel_rfl
def ir_matter_Add:IC:=(.seq (.reg [qO 15 (.box 37 (.t 7)),qO 16 (.mov (.c (.nl 12))),qO 17 (.mov (.c (.int .i64 0)))]) (.seq (.reg [qM 21 1,qO 22 (.bld [.str [],.int .i64 0] [(0,1,.t 21)]),qM 23 2,qM 24 3,qM 25 4,qM 26 5,qM 27 6,qO 28 (.ld 2 true (.t 15)),qO 29 (.bld [.str [],.int .i64 0,.int .i64 0,.int .i64 0,.str [],.str [],.str [],.int .i64 0,.int .i64 0,.str [],.int .i64 0,.str []] [(0,2,.t 22),(2,1,.t 23),(3,1,.t 24),(4,1,.t 25),(5,1,.t 26),(6,1,.t 27),(7,2,.t 28)]),qO 18 (.alc 45 [.str [],.int .i64 0,.int .i64 0,.int .i64 0,.str [],.str [],.str [],.int .i64 0,.int .i64 0,.str [],.int .i64 0,.str []]),⟨none,.st 12 (.t 18) (.t 29),none⟩]) (.seq (.reg [qM 30 3,qO 31 (.call 45 [.t 30,.c (.int .i64 1),.c (.int .i64 6)]),qO 32 (.not (.t 31)),qM 33 32,⟨some 34,.mov (.t 3),(some (33,false))⟩,⟨some 35,.bin .eql (.t 34) (.c (.int .i64 3)),(some (33,false))⟩,qO 36 (.pick (.t 33) (.c (.bool true)) (.t 35)),qM 37 36,⟨some 38,.mov (.t 3),(some (37,false))⟩,⟨some 39,.bin .eql (.t 38) (.c (.int .i64 6)),(some (37,false))⟩,qO 40 (.pick (.t 37) (.c (.bool true)) (.t 39)),qM 19 40]) (.seq (.seq (.drg [qM 41 0,qM 42 1,qM 43 2,qO 44 (.pcall 0 56 [.t 41,.t 42,.t 43]),qM 45 19,qO 46 (.pcall 1 41 [.t 45,.c (.int .i64 4)]),qO 47 (.ld 12 true (.t 18)),qO 48 (.pcall 2 46 [.t 47]),qO 49 (.bsl 1 [.t 44,.t 46,.t 48]),qO 50 (.pcall 3 40 [.t 49]),qM 20 50]) (.seq (.reg [qM 51 20,qO 52 (.bin .neq (.t 51) (.c (.int .i64 0)))]) (.cond (.t 52) (.seq (.reg [qM 53 20,qO 16 (.mov (.c (.nl 12))),qM 17 53]) .ret) .skip))) (.seq (.reg [qM 54 0,qO 55 (.ld 12 true (.t 18)),qO 56 (.call 57 [.t 54,.t 55]),qM 16 56,qO 17 (.mov (.c (.int .i64 0)))]) .ret)))))
def rs_matter_Add:List IRes:=[.t 16,.t 17]
theorem ck_matter_Add:chkF Tryz.prog Tryz.f18 ir_matter_Add rs_matter_Add 57=true:=by kernel_rfl
def ir_chaselaw1_matters:IC:=(.seq (.reg [qO 0 (.mov (.c (.bool false)))]) (.seq (.reg [qO 4 (.bld [.int .i64 0,.int .i64 0] []),qO 5 (.call 18 [.c (.nl 12),.c (.str [97]),.c (.int .i64 5),.c (.int .i64 2),.c (.str [120]),.c (.str []),.c (.str [104,111,116]),.t 4]),qM 3 5,qO 6 (.ext 0 (.t 3)),qO 7 (.ext 1 (.t 3)),qM 1 6,qM 2 7]) (.seq (.reg [qM 8 2,qO 9 (.bin .eql (.t 8) (.c (.int .i64 0))),qM 10 9,⟨some 11,.mov (.t 1),(some (10,true))⟩,⟨some 12,.len (.t 11),(some (10,true))⟩,⟨some 13,.bin .eql (.t 12) (.c (.int .i64 1)),(some (10,true))⟩,qO 14 (.pick (.t 10) (.t 13) (.c (.bool false))),qM 0 14]) .ret)))
def rs_chaselaw1_matters:List IRes:=[.t 0]
theorem ck_chaselaw1_matters:chkF Tryz.prog Tryz.f11 ir_chaselaw1_matters rs_chaselaw1_matters 15=true:=by kernel_rfl
theorem ins_srt {l:List Dd} {a:Dd} {k:Nat} (hs:OrdD l) (hq:UnqD (l++[a])) (hlo:∀ i p,i < k→l[i]?=some p→cmpD p a < 0) (hhi:∀ i p,k≤i→l[i]?=some p→0≤cmpD p a):l.take k++a :: l.drop k=srtD (l++[a]):=by
 have an:=cmpD_p.anti
 refine srt_eq hq ?_ ?_
 ·have h1:=List.perm_middle (a:=a) (l₁:=l.take k) (l₂:=l.drop k)
  rw [List.take_append_drop] at h1
  exact h1.trans (List.perm_append_singleton a l).symm
 ·unfold OrdD at hs
  have hs2:(l.take k++l.drop k).Pairwise fun a b=>cmpD a b < 0:=by rwa [List.take_append_drop]
  rw [List.pairwise_append] at hs2
  obtain ⟨p1,p2,p3⟩:=hs2
  have d1:∀ x∈l.take k,cmpD x a < 0:=fun x hx=>by
   obtain ⟨i,hi⟩:=List.getElem?_of_mem hx
   rw [List.getElem?_take] at hi
   split at hi
   ·rename_i h;exact hlo i x h hi
   ·cases hi
  have d2:∀ x∈l.drop k,0≤cmpD x a:=fun x hx=>by
   obtain ⟨i,hi⟩:=List.getElem?_of_mem hx
   rw [List.getElem?_drop] at hi
   exact hhi (k+i) x (by omega) hi
  rw [List.pairwise_append,List.pairwise_cons]
  refine ⟨p1.imp fun h=>by omega,⟨fun y hy=>?_,p2.imp fun h=>by omega⟩,fun x hx y hy=>?_⟩
  ·have h1:=d2 y hy
   have:=an y a
   have:=an a y
   omega
  ·rcases List.mem_cons.1 hy with rfl|hy
   ·have:=d1 x hx;omega
   ·have:=p3 x hx y hy;omega
theorem no_of {l:List Dd} (h:∀ j,j < l.length→chkI l j=0):∀ (j:Nat) (d:Dd),l[j]?=some d→1≤d.no∧d.no≤(j:Int)+1
 |0,d,hd=>by
  have hj:=(List.getElem?_eq_some_iff.1 hd).1
  have h1:=h 0 hj
  unfold chkI at h1
  rw [hd] at h1
  have h1:atF (prevD l 0) d=0:=h1
  unfold atF prevD at h1
  simp only [if_true,Bool.false_eq_true,if_false] at h1
  split at h1
  ·omega
  ·split at h1
   ·omega
   ·rename_i h2
    have h2:d.no=1:=by simpa using h2
    omega
 |j+1,d,hd=>by
  have hj:=(List.getElem?_eq_some_iff.1 hd).1
  obtain ⟨q,hq⟩:∃ q,l[j]?=some q:=⟨_,List.getElem?_eq_getElem (by omega)⟩
  have ih:=no_of h j q hq
  have h1:=h (j+1) hj
  unfold chkI at h1
  rw [hd] at h1
  have h1:atF (prevD l (j+1)) d=0:=h1
  unfold atF prevD at h1
  simp only [Nat.succ_ne_zero,if_false,Nat.add_sub_cancel,hq] at h1
  split at h1
  ·omega
  ·split at h1
   ·omega
   ·by_cases h2:d.no=(if q.site=d.site then q.no+1 else 1)
    ·split at h2<;>omega
    ·rw [if_pos h2] at h1
     omega
theorem nob_of {l:List Dd} (h:(ckdF l).2=0):NoB 100000 l:=by
 unfold ckdF at h
 split at h
 ·exact absurd h (by decide)
 rename_i hl
 split at h
 ·rename_i h1
  have ha:=scan_zero h1
  intro d hd
  obtain ⟨k,hk⟩:=List.getElem?_of_mem hd
  have hkl:=(List.getElem?_eq_some_iff.1 hk).1
  have:=no_of (l:=l) (fun j hj=>ha j (by omega) (by omega)) k d hk
  omega
 ·rename_i h1
  exact absurd h h1
theorem fresh_of {l:List Dd} (h:OrdD l) (d:Dd):UnqD (l++[addD l d]):=by
 obtain ⟨e1,e2,e3,e4,e5⟩:=addD_site l d
 unfold UnqD
 rw [List.pairwise_append]
 refine ⟨h.imp fun h=>by omega,by simp,?_⟩
 intro x hx y hy e
 rw [List.mem_singleton] at hy
 subst hy
 obtain ⟨a1,a2⟩:=cmpD_zero e
 have:=tip_fresh h d.site hx (a1.trans e1)
 omega
set_option maxRecDepth 100000 in
set_option maxHeartbeats 4000000 in
theorem addedP_ok (l:List Dd) (d:Dd) (hI:∀ k,k≤l.length→InsOk k l.length) (hl:l.length≤100000) (hB:DdsB l) (hN:NoB 100000 l) (dB:DdB d) (ho:OrdD l):PCall Tryz.prog ED 57 [.sl 12 (ddE l),.agg (ddC d)] (·=.sl 12 (ddE (srtD (l++[addD l d])))):=by
 have hq:=fresh_of ho d
 obtain ⟨t1,t2,t3⟩:=tip_B (by omega) hB hN d.site
 refine pcallF mixed Tryz.func57 ck_matter_added ?_
 simp only [a0,l0,OS.ao,List.map_cons,List.map_nil,List.length_cons,List.length_nil,List.cons_append,List.nil_append,Nat.reduceSub,Nat.reduceAdd,List.replicate_succ,List.replicate_zero,ir_matter_added,rs_matter_added,ZZ,WW,Ze,reduceCtorEq,Nat.reduceAdd,Nat.reduceMul,Nat.reduceLeDiff,Nat.reduceLT,Nat.reduceEqDiff]
 simp only [ddC,ZZ,WW,Ze,reduceCtorEq,Nat.reduceAdd,Nat.reduceMul,Nat.reduceLeDiff,Nat.reduceLT,Nat.reduceEqDiff]
 refine use1 (tip_ok l d.site (by omega)) rfl (.inl rfl) ?_
 have ha:addD l d={ d with no:=(tipF l d.site).1+1,sum:=sumF (tipF l d.site).2 { d with no:=(tipF l d.site).1+1 } }:=rfl
 generalize (tipF l d.site).1=m at *
 generalize (tipF l d.site).2=s at *
 obtain ⟨e,he⟩:∃ e:Dd,e={ d with no:=m+1 }:=⟨_,rfl⟩
 have eB:DdB e:=by subst he;exact ⟨dB.b1,dB.b2,dB.b3,dB.b4,dB.b5,dB.b6,by show -1000000000000≤m+1∧m+1≤1000000000000;omega,dB.c2,dB.c3,dB.c4,dB.c5,dB.c6⟩
 rw [← he] at ha
 simp only [ZZ,WW,Ze,ok_Ks,reduceCtorEq,Nat.reduceAdd,Nat.reduceMul,Nat.reduceLeDiff,Nat.reduceLT,Nat.reduceEqDiff]
 refine ⟨i64_of (by omega) (by omega),?_⟩
 have hs:=sum_ok e eB s t3
 rw [he] at hs
 refine use1 hs rfl (.inl rfl) ?_
 rw [← he]
 simp only [ZZ,WW,Ze,ok_Ks,reduceCtorEq,Nat.reduceAdd,Nat.reduceMul,Nat.reduceLeDiff,Nat.reduceLT,Nat.reduceEqDiff]
 refine use (BSearchD_ok l d.site (m+1) (by omega) ho) rfl (.inl rfl) ?_
 rintro y ⟨k,b,rfl,hk,hlo,hhi⟩
 simp only [ZZ,WW,Ze,ok_Ks,reduceCtorEq,Nat.reduceAdd,Nat.reduceMul,Nat.reduceLeDiff,Nat.reduceLT,Nat.reduceEqDiff]
 refine drg1 (x1:=.sl 12 (ddE l)) ?_
 simp only [ZZ,WW,Ze,ok_Ks,reduceCtorEq,Nat.reduceAdd,Nat.reduceMul,Nat.reduceLeDiff,Nat.reduceLT,Nat.reduceEqDiff]
 refine ⟨useFD (CloneDd_ok (ddE l) (by rw [ddE_len];omega)),?_⟩
 refine useIns 33 (ddE l) k _ (by rw [ddE_len];exact hI k hk) (by rw [ddE_len];exact hk) rfl (by rw [ddE_len];omega) rfl ?_
 simp only [ZZ,WW,Ze,ok_Ks,reduceCtorEq,Nat.reduceAdd,Nat.reduceMul,Nat.reduceLeDiff,Nat.reduceLT,Nat.reduceEqDiff]
 have hrow:List.take k (ddE l)++[.str d.site,int (m+1),int d.tm,int d.kind,.str d.id,.str d.field,.str d.value,int d.frm,int d.upto,.str d.osite,int d.ono,.str (sumF s e)] :: List.drop k (ddE l)=ddE (l.take k++addD l d :: l.drop k):=by
  rw [ha,he]
  simp only [ddE,List.map_append,List.map_cons,List.map_take,List.map_drop]
  rfl
 rw [hrow,ins_srt ho hq (fun i p hi hp=>?_) (fun i p hi hp=>?_)]
 ·rw [ha,he]
  exact hlo i p hi hp
 ·rw [ha,he]
  exact hhi i p hi hp
def addE (l:List Dd) (site:List UInt8) (t k:Int) (id f v:List UInt8) (a b:Int):Int:=firstE [siteE l site t,whenE ((!inE k 1 6 || decide (k=3)) || decide (k=6)) 4,formF (newD site t k id f v a b)]
def addW (l:List Dd) (site:List UInt8) (t k:Int) (id f v:List UInt8) (a b:Int):List Dd×Int:=if addE l site t k id f v a b=0 then (srtD (l++[addD l (newD site t k id f v a b)]),0) else ([],addE l site t k id f v a b)
theorem firstE_zero1 {e:Int} {r:List Int} (h:firstE (e :: r)=0):e=0:=by
 unfold firstE at h
 split at h
 ·assumption
 ·exact h
set_option maxRecDepth 100000 in
set_option maxHeartbeats 4000000 in
theorem AddP_ok (l:List Dd) (site:List UInt8) (t k:Int) (id f v:List UInt8) (a b:Int) (hI:∀ k,k≤l.length→InsOk k l.length) (hl:l.length≤100000) (hB:DdsB l) (dB:DdB (newD site t k id f v a b)) :
  PCall Tryz.prog ED 18 [.sl 12 (ddE l),.str site,int t,int k,.str id,.str f,.str v,.agg [int a,int b]] (·=.tup [.sl 12 (ddE (addW l site t k id f v a b).1),int (addW l site t k id f v a b).2]):=by
 unfold addW
 have hd:ddC (newD site t k id f v a b)=[.str site,int 0,int t,int k,.str id,.str f,.str v,int a,int b,.str [],int 0,.str []]:=rfl
 have hfm:=upD (formError_ok _ dB)
 have hsb:site.length≤1000:=dB.b1
 rw [hd] at hfm
 refine pcallF mixed Tryz.func18 ck_matter_Add ?_
 simp only [a0,l0,OS.ao,List.map_cons,List.map_nil,List.length_cons,List.length_nil,List.cons_append,List.nil_append,Nat.reduceSub,Nat.reduceAdd,List.replicate_succ,List.replicate_zero,ir_matter_Add,rs_matter_Add,ZZ,WW,Ze,reduceCtorEq,Nat.reduceAdd,Nat.reduceMul,Nat.reduceLeDiff,Nat.reduceLT,Nat.reduceEqDiff]
 refine use1 (upD (In_ok k 1 6)) rfl (.inl rfl) ?_
 simp only [ZZ,WW,Ze,ok_Ks,reduceCtorEq,Nat.reduceAdd,Nat.reduceMul,Nat.reduceLeDiff,Nat.reduceLT,Nat.reduceEqDiff]
 refine ⟨fun h=>by rw [h];rfl,fun h=>by rw [h];rfl,?_⟩
 have hb2:((!inE k 1 6 || decide (k=3)) || decide (k=6))=((!inE k 1 6 || decide (k=3)) || decide (k=6)):=rfl
 generalize ho:((!inE k 1 6 || decide (k=3)) || decide (k=6))=other at *
 refine drg4 (x1:=int (siteE l site t)) (x2:=int (whenE other 4)) (x3:=int (formF (newD site t k id f v a b))) (x4:=int (addE l site t k id f v a b)) ?_
 simp only [ZZ,WW,Ze,ok_Ks,reduceCtorEq,Nat.reduceAdd,Nat.reduceMul,Nat.reduceLeDiff,Nat.reduceLT,Nat.reduceEqDiff]
 have he:addE l site t k id f v a b=firstE [siteE l site t,whenE other 4,formF (newD site t k id f v a b)]:=by rw [addE,ho]
 refine ⟨usep (siteError_ok l site t hB (by omega) (by omega)) rfl (.inl rfl),usep (When_ok other 4) rfl (.inl rfl),usep hfm rfl (.inl rfl),usep (by rw [he];exact First_ok [siteE l site t,whenE other 4,formF (newD site t k id f v a b)] (by simp)) rfl (.inl rfl),?_⟩
 refine br ?_ ?_
 ·intro h
  have h:¬ addE l site t k id f v a b=0:=by simpa using h
  rw [if_neg h]
  simp only [ZZ,WW,Ze,ok_Ks,reduceCtorEq,Nat.reduceAdd,Nat.reduceMul,Nat.reduceLeDiff,Nat.reduceLT,Nat.reduceEqDiff]
  rfl
 ·intro h
  have h:addE l site t k id f v a b=0:=by simpa using h
  rw [if_pos h]
  have hc:(ckdF l).2=0:=by
   have h1:=firstE_zero1 (he ▸ h)
   exact firstE_zero1 h1
  have hr:=(rgt_of hc).2.1
  have hadd:=addedP_ok l _ hI hl hB (nob_of hc) dB hr
  rw [hd] at hadd
  simp only [ZZ,WW,Ze,ok_Ks,reduceCtorEq,Nat.reduceAdd,Nat.reduceMul,Nat.reduceLeDiff,Nat.reduceLT,Nat.reduceEqDiff]
  refine use1 hadd rfl (.inl rfl) ?_
  simp only [ZZ,WW,Ze,ok_Ks,reduceCtorEq,Nat.reduceAdd,Nat.reduceMul,Nat.reduceLeDiff,Nat.reduceLT,Nat.reduceEqDiff]
end Go.Proofs.YtinffddgojhdfaaGreatDoor
namespace Go.Proofs.YtinffddgojhdfaaGreatDoor
open Go.Lib Go.RowKit Go.Shelf
section
variable {P:Program}
theorem run_copyZ (w:World) (dT sT ty e:TypeId) (z g o dLen dCap:Nat) (A:Addr) (sLen sCap:Nat) (us:List Value) (cur:Array Value) (hu:P.underlying dT=some (.slice e)) (hs:(P.info? e).map (·.size)=some z) (hg:w.heap[g]?=some (.cells cur e (0,0)))
  (hn:us.length=Nat.min sLen dLen * z) (hsrc:∀ j u,us[j]?=some u→w.cell? (A.add j)=some u) (hin:o+us.length≤cur.size) (h1:∀ v∈us,v.oneCell'=true) :
  (Builtin.copy_ #[dT,sT] ty #[.slice (some ⟨g,o,none⟩) dLen dCap,.slice (some A) sLen sCap]).run P w=.ok (goInt (Nat.min sLen dLen)) (w.setRow g (cur.toList.take o++us++cur.toList.drop (o+us.length)).toArray):=by
 have hfc:=run_firstCells_some (P:=P) w z (Nat.min sLen dLen) A sLen sCap us hn hsrc
 have hst:=run_storeCells_at P g o e us 0 cur w hg (by omega) h1
 rw [Nat.add_zero] at hst
 cases hq:P.info? e with
 |none=>simp [hq] at hs
 |some i=>
  have hi:i.size=z:=by simpa [hq] using hs
  simp [Builtin.copy_,run_underlying hu,Builtin.lenOf,sizeOf,typeInfo,hq,hi,hfc,hst]
theorem step_copyZ {ops:Array Oper} {o:Oper} {a:Act} {w:World} {K:Act→World→Prop} {Q:Exit→Act→World→Prop} {E:Prop}
  (hg:o.guard=none) (d x:Operand) (dT sT:TypeId) (hop:o.op=Op.call { callee:=Callee.builtin Builtin.copy,args:=#[d,x],argTypes:=#[dT,sT] })
  (v u:Value) (hd:a.eval d=v) (hx:a.eval x=u) {v':Value} {w':World} (hr:(Builtin.copy_ #[dT,sT] o.type #[v,u]).run P w=.ok v' w') (hK:K (a.put o.dst v') w') :
  if Region.wanted o (yielded ops a.tmps)=true then Oper.wp P o a w K Q else E:=by
 have hw:Region.wanted o (yielded ops a.tmps)=true:=by simp [Region.wanted,hg]
 rw [if_pos hw]
 unfold Oper.wp
 simp [execOp,hop,resolve,invoke,builtin,hd,hx,hr,Result.andThen]
 exact hK
theorem run_overlapsZ (w:World) (tS tR e:TypeId) (ht:P.underlying tS=some (.slice e)) (size:Nat) (hz:∀ w,(Go.sizeOf e).run P w=.ok size w) (g o h p:Nat) (la ca lb cb:Nat) (hne:g≠h) {u:Value} (ha:w.cell? ⟨g,o,none⟩=some u) (cur:Array Value) (t:TypeId) (hb:w.heap[h]?=some (.cells cur t (0,0))) :
  (Extern.SlicesOverlaps.overlaps #[tS,tS] #[tR] #[.slice (some ⟨g,o,none⟩) la ca,.slice (some ⟨h,p,none⟩) lb cb]).run P w=.ok (.bool false) w:=by
 have hnb:(g != h)=true:=by simpa using hne
 have hnb':(g == h)=false:=by simpa using hne
 obtain ⟨c1,t1,f1,hg1,ho1⟩:∃ c1 t1 f1,w.heap[g]?=some (.cells c1 t1 f1)∧o < c1.size:=by
  unfold World.cell? at ha
  cases hq:w.heap[g]? with
  |none=>simp [hq] at ha
  |some ob=>
   cases ob with
   |cells c t f=>exact ⟨c,t,f,rfl,by simp [hq] at ha;exact (Array.getElem?_eq_some_iff.1 ha).1⟩
   |_=>simp [hq] at ha
 have hsa:w.shape? g=some (t1,c1.size):=by simp [World.shape?,hg1]
 have hsb:w.shape? h=some (t,cur.size):=by simp [World.shape?,hb]
 have hfb:∀ q,w.frozen? ⟨h,q,none⟩=false:=fun q=>by simp [World.frozen?,hb]
 obtain ⟨n1,hn1⟩:∃ n1,c1.size=n1+1:=⟨c1.size - 1,by omega⟩
 have hpb:∀ {α β:Type} (x:α) (f:α→Sem β),(pure x:Sem α).bind f=f x:=fun _ _=>rfl
 rw [hn1] at hsa
 conv=>lhs;arg 2;whnf
 by_cases h0:la=0∨lb=0∨size=0
 ·simp [Sem.run,hpb,Sem.bind,ht,hz,h0]
 ·cases hf1:w.frozen? ⟨g,o,none⟩<;>cases hf2:w.frozen? ⟨g,n1+1,none⟩<;>simp [hpb,Sem.bind,ht,hz,h0,hnb,hnb',frozen,noView,viewAt,mayBeOne,stringish,shape,Sem.run,hsa,hsb,hf1,hf2,hfb]
end
theorem ins_list {α:Type} (c us news R:List α) (i n:Nat) (hi:i < n) (hc:(n+1) * 12≤c.length) (hu:us.length=(n - i) * 12) (hn:news.length=12) :
  ((c.take ((i+1) * 12)++us++R).take (i * 12)++news++(c.take ((i+1) * 12)++us++R).drop (i * 12+12)).take ((n+1) * 12)=c.take (i * 12)++news++us:=by
 have e2:(c.take ((i+1) * 12)).length=(i+1) * 12:=by simp;omega
 have e1:(c.take (i * 12)).length=i * 12:=by simp;omega
 have h1:(c.take ((i+1) * 12)++us++R).take (i * 12)=c.take (i * 12):=by
  rw [List.append_assoc,List.take_append_of_le_length (by omega),List.take_take,Nat.min_eq_left (by omega)]
 have h2:(c.take ((i+1) * 12)++us++R).drop (i * 12+12)=us++R:=by
  rw [List.append_assoc,show i * 12+12=(c.take ((i+1) * 12)).length by rw [e2];omega,List.drop_left]
 rw [h1,h2,← List.append_assoc]
 exact List.take_left' (by simp only [List.length_append,e1,hn,hu];omega)
set_option maxHeartbeats 4000000 in
set_option maxRecDepth 1000000 in
theorem ins_room (w:World) (g n cap i vb voff vc:Nat) (cur:Array Value) (news:List Value) (hi:i < n) (hn:n+1≤cap) (hcap:cap≤maxLen) (hg:w.heap[g]?=some (.cells cur tDd (0,0))) (hcs:cur.size=cap * 12) (hnl:news.length=12) (hnews:∀ j u,news[j]?=some u→w.cell? ⟨vb,voff+j,none⟩=some u)
  (h1n:∀ u∈news,u.oneCell'=true) (h1x:∀ u∈cur.toList.take (n * 12),u.oneCell'=true) (hvb:vb≠g) :
  Calls Tryz.prog fIns #[.slice (some ⟨g,0,none⟩) n cap,.int .i64 i,.slice (some ⟨vb,voff,none⟩) 1 vc] w fun e w'=>e=.returned (.slice (some ⟨g,0,none⟩) (n+1) cap)∧
   ∃ cur',w'=w.drew.setRow g cur'∧cur'.size=cap * 12∧cur'.toList.take ((n+1) * 12)=(cur.toList.take (n * 12)).take (i * 12)++news++(cur.toList.take (n * 12)).drop (i * 12):=by
 have hA:appB Tryz.prog tDd 12 144=true:=by kernel_rfl
 obtain ⟨i0,zv,q1,q2,q3,q4,q5,q6,q7⟩:=appB_spec hA
 have t22:Tryz.prog.underlying 26=some (.slice tDd):=Tryz.underlying26
 have hsz:(Tryz.prog.info? tDd).map (·.size)=some 12:=by rw [q1];simp [q3]
 have hov:∀ lb cb,(callFunc 119 #[.slice (some ⟨vb,voff,none⟩) 1 vc,.slice (some ⟨g,(i+1) * 12,none⟩) lb cb]).run Tryz.prog w=.ok (.value (.bool false)) w:=fun lb cb=>by
  rw [run_callFunc_extern Tryz.func119 (by kernel_rfl) (by kernel_rfl) (by kernel_rfl) (e:=Extern.SlicesOverlaps.overlaps #[26,26] #[4]) (by kernel_rfl),
   run_overlapsZ w 26 4 tDd t22 12 (fun w=>Tryz.sizeOf45 w) vb voff g ((i+1) * 12) 1 vc lb cb hvb (hnews 0 _ (List.getElem?_eq_getElem (by omega))) cur tDd hg]
  rfl
 have hz1:¬ ((1:Int)=0):=by decide
 have hz2:¬ ((i:Int)=(n:Int)):=by omega
 have hz3:¬ ((cap:Int) < (n:Int)+1):=by omega
 have hw1:IntKind.i64.wrap ((i:Int)+1)=(i:Int)+1:=by rw [IntKind.wrap_i64];unfold maxLen at hcap;omega
 have hw2:IntKind.i64.wrap ((n:Int)+1)=(n:Int)+1:=by rw [IntKind.wrap_i64];unfold maxLen at hcap;omega
 have hb1:(0:Int)≤(i:Int)+1:=by omega
 have hin:i≤n:=by omega
 have htn:((i:Int)+1).toNat=i+1:=by omega
 have htm:((n:Int)+1).toNat=n+1:=by omega
 have hb2:¬ (cap=i+1):=by omega
 have hb3:(i:Int)≤(n:Int)+1:=by omega
 have hb4:¬ (cap=i):=by omega
 have cell_g:∀ j u,(cur.toList.take (n * 12))[j]?=some u→w.drew.cell? ⟨g,j,none⟩=some u:=by
  intro j u hj
  rw [List.getElem?_take] at hj
  split at hj
  ·show (match w.heap[g]? with|some (.cells c _ _)=>if (none:Option Nat).isSome then none else c[j]?|_=>none)=some u
   simpa [hg] using hj
  ·cases hj
 obtain ⟨us,hus⟩:∃ us,us=(cur.toList.take (n * 12)).drop (i * 12):=⟨_,rfl⟩
 have hul:us.length=(n - i) * 12:=by rw [hus];simp;omega
 obtain ⟨cur1,hc1⟩:∃ cur1:Array Value,cur1=(cur.toList.take ((i+1) * 12)++us++cur.toList.drop ((i+1) * 12+us.length)).toArray:=⟨_,rfl⟩
 have hs1:cur1.size=cap * 12:=by rw [hc1];simp only [List.size_toArray,List.length_append,List.length_take,List.length_drop,Array.length_toList,hul,hcs];omega
 have cp1:∀ ty,(Builtin.copy_ #[26,26] ty #[.slice (some ⟨g,(i+1) * 12,none⟩) (n+1 - (i+1)) (cap - (i+1)),.slice (some ⟨g,i * 12,none⟩) (n+1 - i) (cap - i)]).run Tryz.prog w.drew=.ok (goInt (n - i:Nat)) (w.drew.setRow g cur1):=by
  intro ty
  have hmin:Nat.min (n+1 - i) (n+1 - (i+1))=n - i:=by simp only [Nat.min_def];split<;>omega
  have h:=run_copyZ (P:=Tryz.prog) w.drew 26 26 ty tDd 12 g ((i+1) * 12) (n+1 - (i+1)) (cap - (i+1)) ⟨g,i * 12,none⟩ (n+1 - i) (cap - i) us cur t22 hsz hg (by rw [hmin];exact hul) (fun j u hj=>by
   rw [Addr.add_lit]
   rw [hus,List.getElem?_drop] at hj
   exact cell_g _ _ hj) (by rw [hul,hcs];omega) (fun u hu=>h1x u (List.mem_of_mem_drop (by rwa [hus] at hu)))
  rw [hmin] at h
  rw [hc1]
  exact h
 have hg1:(w.drew.setRow g cur1).heap[g]?=some (.cells cur1 tDd (0,0)):=setRow_heap w.drew g cur cur1 tDd (0,0) hg
 obtain ⟨cur2,hc2⟩:∃ cur2:Array Value,cur2=(cur1.toList.take (i * 12)++news++cur1.toList.drop (i * 12+news.length)).toArray:=⟨_,rfl⟩
 have hs2:cur2.size=cap * 12:=by rw [hc2];simp only [List.size_toArray,List.length_append,List.length_take,List.length_drop,Array.length_toList,hnl,hs1];omega
 have hne2:(w.drew.setRow g cur1).heap[vb]?=w.heap[vb]?:=by
  show (w.heap.modify g _)[vb]?=_
  rw [Array.getElem?_modify,if_neg (Ne.symm hvb)]
 have cp2:∀ ty,(Builtin.copy_ #[26,26] ty #[.slice (some ⟨g,i * 12,none⟩) (n+1 - i) (cap - i),.slice (some ⟨vb,voff,none⟩) 1 vc]).run Tryz.prog (w.drew.setRow g cur1)=.ok (goInt (1:Nat)) (w.drew.setRow g cur2):=by
  intro ty
  have hmin:Nat.min 1 (n+1 - i)=1:=by simp only [Nat.min_def];split<;>omega
  have h:=run_copyZ (P:=Tryz.prog) (w.drew.setRow g cur1) 26 26 ty tDd 12 g (i * 12) (n+1 - i) (cap - i) ⟨vb,voff,none⟩ 1 vc news cur1 t22 hsz hg1 (by rw [hmin];exact hnl) (fun j u hj=>by
   rw [Addr.add_lit]
   rw [← hnews j u hj]
   exact World.cell?_of_block hne2) (by rw [hnl,hs1];omega) h1n
  rw [hmin,setRow_two] at h
  rw [hc2]
  exact h
 have hfin:cur2.toList.take ((n+1) * 12)=(cur.toList.take (n * 12)).take (i * 12)++news++(cur.toList.take (n * 12)).drop (i * 12):=by
  rw [hc2,hc1]
  simp only [← hus]
  rw [List.take_take,Nat.min_eq_left (by omega),hnl]
  exact ins_list cur.toList us news _ i n hi (by simp;omega) hul hnl
 have F1:=Lib.hid hfin
 have F2:=Lib.hid hs2
 have F3:=Lib.hid cp1
 have F4:=Lib.hid cp2
 clear hfin hs2 cp1 cp2 hc1 hc2 hus hul hg1 cell_g hs1 hsz h1x h1n hnews
 go_enter Tryz.func96,Tryz.ntmps96
 go_wp2_with (simp only [hov])
 go_region_law_o (refine step_copyZ rfl _ _ 26 26 rfl (.slice (some ⟨g,(i+1) * 12,none⟩) (n+1 - (i+1)) (cap - (i+1))) (.slice (some ⟨g,i * 12,none⟩) (n+1 - i) (cap - i)) (by simp [Act.eval,Act.put]) (by simp [Act.eval,Act.put]) (F3.out _) ?_)
 go_wp2_with (simp only [F4.out])
 go_ret
 exact ⟨rfl,cur2,rfl,F2.out,F1.out⟩
theorem ins_list2 {α:Type} (c us news R S:List α) (i n:Nat) (hi:i < n) (hc:c.length=i * 12) (hu:us.length=(n - i) * 12) (hn:news.length=12) :
  (((c++news++R).take ((i+1) * 12))++us++S).take ((n+1) * 12)=c++news++us:=by
 have h1:(c++news++R).take ((i+1) * 12)=c++news:=List.take_left' (by simp only [List.length_append,hc,hn];omega)
 rw [h1]
 exact List.take_left' (by simp only [List.length_append,hc,hn,hu];omega)
set_option maxHeartbeats 4000000 in
set_option maxRecDepth 1000000 in
theorem ins_grow (w:World) (g n i vb voff vc:Nat) (cur:Array Value) (news:List Value) (hi:i < n) (hn:n≤1000000) (hg:w.heap[g]?=some (.cells cur tDd (0,0))) (hcs:cur.size=n * 12) (hnl:news.length=12) (hnews:∀ j u,news[j]?=some u→w.cell? ⟨vb,voff+j,none⟩=some u)
  (h1n:∀ u∈news,u.oneCell'=true) (h1x:∀ u∈cur.toList.take (n * 12),u.oneCell'=true) :
  Calls Tryz.prog fIns #[.slice (some ⟨g,0,none⟩) n n,.int .i64 i,.slice (some ⟨vb,voff,none⟩) 1 vc] w fun e w'=>∃ G cur' row,e=.returned (.slice (some ⟨w.heap.size,0,none⟩) (n+1) G)∧
   w'=(w.drew.alloc (.cells row tDd)).drew.setRow w.heap.size cur'∧n+1≤G∧G≤maxLen∧cur'.size=G * 12∧cur'.toList.take ((n+1) * 12)=(cur.toList.take (n * 12)).take (i * 12)++news++(cur.toList.take (n * 12)).drop (i * 12):=by
 have hA:appB Tryz.prog tDd 12 144=true:=by kernel_rfl
 obtain ⟨i0,zv,q1,q2,q3,q4,q5,q6,q7⟩:=appB_spec hA
 have t22:Tryz.prog.underlying 26=some (.slice tDd):=Tryz.underlying26
 have t3:Tryz.prog.underlying 3=some (.int .i64):=by kernel_rfl
 have hsz:(Tryz.prog.info? tDd).map (·.size)=some 12:=by rw [q1];simp [q3]
 have hgw:g < w.heap.size:=(Array.getElem?_eq_some_iff.1 hg).1
 have hvw:vb < w.heap.size:=by
  have h:=hnews 0 _ (List.getElem?_eq_getElem (by omega))
  rcases Nat.lt_or_ge vb w.heap.size with h'|h'
  ·exact h'
  ·simp [World.cell?,Array.getElem?_eq_none h'] at h
 have hz1:¬ ((1:Int)=0):=by decide
 have hz2:¬ ((i:Int)=(n:Int)):=by omega
 have hz3:(n:Int) < (n:Int)+1:=by omega
 have hw1:IntKind.i64.wrap ((i:Int)+1)=(i:Int)+1:=by rw [IntKind.wrap_i64];omega
 have hw2:IntKind.i64.wrap ((n:Int)+1)=(n:Int)+1:=by rw [IntKind.wrap_i64];omega
 have hw3:IntKind.i64.wrap ((n:Int)+1 - (i:Int))=(n:Int)+1 - (i:Int):=by rw [IntKind.wrap_i64];omega
 have hkk:(n:Int)+1 - (i:Int)=((n+1 - i:Nat):Int):=by omega
 have hb1:(0:Int)≤(i:Int)+1:=by omega
 have hin:i≤n:=by omega
 have hin1:i≤n+1:=by omega
 have htn:((i:Int)+1).toNat=i+1:=by omega
 have htm:((n:Int)+1).toNat=n+1:=by omega
 have hb3:(i:Int)≤(n:Int)+1:=by omega
 have hb5:(i:Int)≤(n:Int):=by omega
 have hb6:¬ (n=i):=by omega
 obtain ⟨G,hG⟩:∃ G,G=grownCap w (n+1) n tDd:=⟨_,rfl⟩
 have hGn:n+1≤G:=by rw [hG];exact grownCap_ge w _ _ _
 have hGm:G≤maxLen:=by rw [hG];exact grownCap_le_maxLen w _ _ _ (by unfold maxLen;omega)
 have hG1:¬ (G=i):=by omega
 have hG2:¬ (G=i+1):=by omega
 obtain ⟨xs,hxs⟩:∃ xs,xs=cur.toList.take (n * 12):=⟨_,rfl⟩
 have hxl:xs.length=n * 12:=by rw [hxs];simp;omega
 have cell_g:∀ j u,xs[j]?=some u→w.cell? ⟨g,j,none⟩=some u:=by
  intro j u hj
  rw [hxs,List.getElem?_take] at hj
  split at hj
  ·show (match w.heap[g]? with|some (.cells c _ _)=>if (none:Option Nat).isSome then none else c[j]?|_=>none)=some u
   simpa [hg] using hj
  ·cases hj
 have h1xs:∀ u∈xs,u.oneCell'=true:=by rw [hxs];exact h1x
 rw [← hxs]
 clear hxs h1x
 have hold:(Builtin.firstCells i0.size i (.slice (some ⟨g,0,none⟩) i n)).run Tryz.prog w.drew=.ok (xs.take (i * 12)).toArray w.drew:=by
  rw [q3]
  exact run_firstCells_some w.drew 12 i ⟨g,0,none⟩ i n (xs.take (i * 12)) (by rw [List.length_take];omega) (fun j u hj=>by
   rw [Addr.add_lit,Nat.zero_add]
   rw [List.getElem?_take] at hj
   split at hj
   ·exact cell_g j u hj
   ·cases hj)
 obtain ⟨ROW,hROW⟩:∃ ROW:Array Value,ROW=(xs.take (i * 12)).toArray++Builtin.zeroCells zv.cells (n+1 - i)++Builtin.zeroCells zv.cells (G - (n+1)):=⟨_,rfl⟩
 have hrz:∀ ty,(Builtin.append_ #[26,3] ty #[.slice (some ⟨g,0,none⟩) i n,.int .i64 ((n:Int)+1 - (i:Int))]).run Tryz.prog w=.ok (.slice (some ⟨w.heap.size,0,none⟩) (n+1) G) (w.drew.alloc (.cells ROW tDd)):=fun ty=>by
  have h:=Lib.run_append_grow_zeros w 26 3 ty tDd i0 zv .i64 .i64 t22 t3 q1 q2 (some ⟨g,0,none⟩) i n (xs.take (i * 12)) hold (n+1 - i) (by omega) (by omega) (by omega) (by omega) (by rw [q4];omega) (by rw [q4,show i+(n+1 - i)=n+1 by omega];exact growslice_fits (by omega) (by omega))
  rw [show i+(n+1 - i)=n+1 by omega,← hG,← hROW] at h
  rw [hkk]
  exact h
 have hRs:ROW.size=G * 12:=by
  rw [hROW]
  simp only [Array.size_append,List.size_toArray,List.length_take,hxl,Builtin.zeroCells,Array.size_map,Array.size_range,q5]
  omega
 have hRt:ROW.toList.take (i * 12)=xs.take (i * 12):=by
  rw [hROW]
  simp only [Array.toList_append,List.append_assoc]
  exact List.take_left' (by rw [List.length_take];omega)
 clear hold hROW hG
 obtain ⟨W1,hW1⟩:∃ W1,W1=w.drew.alloc (.cells ROW tDd):=⟨_,rfl⟩
 rw [← hW1] at hrz
 have hN1:W1.heap[w.heap.size]?=some (.cells ROW tDd (0,0)):=by rw [hW1];show (w.heap.push _)[w.heap.size]?=_;rw [Array.getElem?_push,if_pos rfl]
 have hold1:∀ b,b < w.heap.size→W1.heap[b]?=w.heap[b]?:=fun b hb=>by rw [hW1];show (w.heap.push _)[b]?=_;rw [Array.getElem?_push,if_neg (by omega)]
 obtain ⟨cur1,hc1⟩:∃ cur1:Array Value,cur1=(ROW.toList.take (i * 12)++news++ROW.toList.drop (i * 12+news.length)).toArray:=⟨_,rfl⟩
 have hs1:cur1.size=G * 12:=by rw [hc1];simp only [List.size_toArray,List.length_append,List.length_take,List.length_drop,Array.length_toList,hnl,hRs];omega
 have cpA:∀ ty,(Builtin.copy_ #[26,26] ty #[.slice (some ⟨w.heap.size,i * 12,none⟩) (n+1 - i) (G - i),.slice (some ⟨vb,voff,none⟩) 1 vc]).run Tryz.prog W1=.ok (goInt (1:Nat)) (W1.setRow w.heap.size cur1):=by
  intro ty
  have hmin:Nat.min 1 (n+1 - i)=1:=by simp only [Nat.min_def];split<;>omega
  have h:=run_copyZ (P:=Tryz.prog) W1 26 26 ty tDd 12 w.heap.size (i * 12) (n+1 - i) (G - i) ⟨vb,voff,none⟩ 1 vc news ROW t22 hsz hN1 (by rw [hmin];exact hnl) (fun j u hj=>by
   rw [Addr.add_lit,← hnews j u hj]
   exact World.cell?_of_block (hold1 vb hvw)) (by rw [hnl,hRs];omega) h1n
  rw [hmin] at h
  rw [hc1]
  exact h
 obtain ⟨W2,hW2⟩:∃ W2,W2=W1.setRow w.heap.size cur1:=⟨_,rfl⟩
 rw [← hW2] at cpA
 have hN2:W2.heap[w.heap.size]?=some (.cells cur1 tDd (0,0)):=by rw [hW2];exact setRow_heap W1 w.heap.size ROW cur1 tDd (0,0) hN1
 have hold2:∀ b,b < w.heap.size→W2.heap[b]?=w.heap[b]?:=fun b hb=>by
  rw [← hold1 b hb,hW2]
  show (W1.heap.modify w.heap.size _)[b]?=_
  rw [Array.getElem?_modify,if_neg (by omega)]
 obtain ⟨us,hus⟩:∃ us,us=xs.drop (i * 12):=⟨_,rfl⟩
 have hul:us.length=(n - i) * 12:=by rw [hus,List.length_drop];omega
 obtain ⟨cur2,hc2⟩:∃ cur2:Array Value,cur2=(cur1.toList.take ((i+1) * 12)++us++cur1.toList.drop ((i+1) * 12+us.length)).toArray:=⟨_,rfl⟩
 have hs2:cur2.size=G * 12:=by rw [hc2];simp only [List.size_toArray,List.length_append,List.length_take,List.length_drop,Array.length_toList,hul,hs1];omega
 have cpB:∀ ty,(Builtin.copy_ #[26,26] ty #[.slice (some ⟨w.heap.size,(i+1) * 12,none⟩) (n+1 - (i+1)) (G - (i+1)),.slice (some ⟨g,i * 12,none⟩) (n - i) (n - i)]).run Tryz.prog W2.drew=.ok (goInt (n - i:Nat)) (W2.drew.setRow w.heap.size cur2):=by
  intro ty
  have hmin:Nat.min (n - i) (n+1 - (i+1))=n - i:=by simp only [Nat.min_def];split<;>omega
  have h:=run_copyZ (P:=Tryz.prog) W2.drew 26 26 ty tDd 12 w.heap.size ((i+1) * 12) (n+1 - (i+1)) (G - (i+1)) ⟨g,i * 12,none⟩ (n - i) (n - i) us cur1 t22 hsz hN2 (by rw [hmin];exact hul) (fun j u hj=>by
   rw [Addr.add_lit]
   rw [hus,List.getElem?_drop] at hj
   rw [← cell_g _ _ hj]
   exact World.cell?_of_block (hold2 g hgw)) (by rw [hul,hs1];omega) (fun u hu=>h1xs u (List.mem_of_mem_drop (by rwa [hus] at hu)))
  rw [hmin] at h
  rw [hc2]
  exact h
 have hfin:cur2.toList.take ((n+1) * 12)=xs.take (i * 12)++news++xs.drop (i * 12):=by
  rw [hc2,hc1]
  simp only [← hus,hRt]
  exact ins_list2 (xs.take (i * 12)) us news _ _ i n hi (by rw [List.length_take];omega) hul hnl
 have F1:=Lib.hid hfin
 have F2:=Lib.hid hs2
 have F3:=Lib.hid cpA
 have F4:=Lib.hid cpB
 have F5:=Lib.hid hrz
 have F6:=Lib.hid (show W2.drew.setRow w.heap.size cur2=(w.drew.alloc (.cells ROW tDd)).drew.setRow w.heap.size cur2 by rw [hW2,hW1];exact setRow_two (w.drew.alloc (.cells ROW tDd)).drew w.heap.size cur1 cur2)
 clear hfin hs2 cpA cpB hrz hc1 hc2 hus hul hN1 hN2 hold1 hold2 cell_g hs1 hsz h1xs h1n hnews hRs hRt hW1 hW2 hxl hkk
 generalize w.heap.size=N at *
 go_enter Tryz.func96,Tryz.ntmps96
 go_wp2_with (first|(at_builtin;refine Lib.wpList_append_run _ rfl _ _ _ _ rfl _ _ rfl rfl _ _ (F5.out _) ?_)|simp only [F3.out])
 go_region_law_o (refine step_copyZ rfl _ _ 26 26 rfl (.slice (some ⟨N,(i+1) * 12,none⟩) (n+1 - (i+1)) (G - (i+1))) (.slice (some ⟨g,i * 12,none⟩) (n - i) (n - i)) (by simp [Act.eval,Act.put]) (by simp [Act.eval,Act.put]) (F4.out _) ?_)
 go_wp2
 go_ret
 exact ⟨G,cur2,ROW,rfl,F6.out,hGn,hGm,F2.out,F1.out⟩
theorem ins_ok (i n:Nat) (hin:i≤n):InsOk i n:=by
 by_cases he:i=n
 ·subst he
  exact ins_end i
 intro w v xs news vb voff vc hown h1x hnl hnews h1n hne hn
 have hxl:xs.length=n * 12:=hown.1
 rcases hown.2 with ⟨rfl,rfl⟩|⟨g,cap,cur,rfl,hbg,hg,hnc,hcm,hcs,htake⟩
 ·omega
 have hlen:(n+1) * 12=(xs.take (i * 12)++news++xs.drop (i * 12)).length:=by simp only [List.length_append,List.length_take,List.length_drop,hnl,hxl];omega
 rw [← htake] at h1x
 by_cases hroom:n+1≤cap
 ·refine (ins_room w g n cap i vb voff vc cur news (by omega) hroom hcm hg hcs hnl hnews h1n h1x (fun e=>hne (by rw [e];rfl))).mono ?_
  rintro e w' ⟨rfl,cur',rfl,k1,k2⟩
  rw [htake] at k2
  refine ⟨_,rfl,⟨hlen.symm,.inr ⟨g,cap,cur',rfl,Nat.zero_le _,setRow_heap w.drew g cur cur' tDd (0,0) hg,hroom,hcm,k1,k2⟩⟩,⟨rfl,rfl,rfl,by show w.heap.size≤(w.heap.modify g _).size;rw [Array.size_modify];exact Nat.le_refl _,fun k hk hne'=>?_⟩,.inl rfl⟩
  show (w.heap.modify g _)[k]?=_
  rw [Array.getElem?_modify,if_neg (fun e=>hne' (by rw [e];rfl))]
 ·have hcn:cap=n:=by omega
  subst hcn
  refine (ins_grow w g cap i vb voff vc cur news (by omega) hn hg hcs hnl hnews h1n h1x).mono ?_
  rintro e w' ⟨G,cur',row,rfl,rfl,k0,k1,k2,k3⟩
  rw [htake] at k3
  refine ⟨_,rfl,⟨hlen.symm,.inr ⟨w.heap.size,G,cur',rfl,Nat.zero_le _,setRow_heap _ w.heap.size row cur' tDd (0,0) ?_,k0,k1,k2,k3⟩⟩,⟨rfl,rfl,rfl,by show w.heap.size≤((w.heap.push _).modify w.heap.size _).size;rw [Array.size_modify,Array.size_push];omega,fun k hk hne'=>?_⟩,.inr rfl⟩
  ·show (w.heap.push _)[w.heap.size]?=_
   rw [Array.getElem?_push,if_pos rfl]
  ·show ((w.heap.push _).modify w.heap.size _)[k]?=_
   rw [Array.getElem?_modify,if_neg (by omega),Array.getElem?_push,if_neg (by omega)]
end Go.Proofs.YtinffddgojhdfaaGreatDoor
namespace Go.Proofs.YtinffddgojhdfaaGreatDoor
open Go.RowKit
theorem ckd_nil:(ckdF []).2=0:=by decide
theorem add_nil:addE [] [97] 5 2 [120] [] [104,111,116] 0 0=0:=by
 unfold addE
 rw [siteE_eq ckd_nil]
 decide +kernel
theorem matters_ok:PCall Tryz.prog ED 11 [] (·=.bool true):=by
 have hlen:∀ d,(srtD ([]++[addD [] d])).length=1:=fun d=>(srt_perm _).length_eq.trans rfl
 refine pcallF mixed Tryz.func11 ck_chaselaw1_matters ?_
 simp only [a0,l0,OS.ao,List.map_cons,List.map_nil,List.length_cons,List.length_nil,List.cons_append,List.nil_append,Nat.reduceSub,Nat.reduceAdd,List.replicate_succ,List.replicate_zero,ir_chaselaw1_matters,rs_chaselaw1_matters,ZZ,WW,Ze,reduceCtorEq,Nat.reduceAdd,Nat.reduceMul,Nat.reduceLeDiff,Nat.reduceLT,Nat.reduceEqDiff]
 refine use1 (AddP_ok [] [97] 5 2 [120] [] [104,111,116] 0 0 (fun k hk=>ins_ok k _ hk) (by simp) DdsB.nil (by constructor<;>simp [newD])) rfl (.inl rfl) ?_
 rw [addW,if_pos add_nil]
 have h1:=hlen (newD [97] 5 2 [120] [] [104,111,116] 0 0)
 generalize srtD ([]++[addD [] (newD [97] 5 2 [120] [] [104,111,116] 0 0)])=q at *
 have h2:(ddE q).length=1:=by rw [ddE_len];exact h1
 simp only [ZZ,WW,Ze,ok_Ks,reduceCtorEq,Nat.reduceAdd,Nat.reduceMul,Nat.reduceLeDiff,Nat.reduceLT,Nat.reduceEqDiff,h2]
 rfl
end Go.Proofs.YtinffddgojhdfaaGreatDoor
