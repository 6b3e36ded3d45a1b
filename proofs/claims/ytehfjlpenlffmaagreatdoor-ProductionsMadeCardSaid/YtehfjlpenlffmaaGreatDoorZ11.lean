import Derived.Test.YtehfjlpenlffmaaGreatDoorZ6
import Derived.Test.YtehfjlpenlffmaaGreatDoorZ8
import Derived.Test.YtehfjlpenlffmaaGreatDoorZ10
import Derived.Test.YtehfjlpenlffmaaGreatDoorZ4
import Derived.Maps.OwnIn
set_option linter.unusedVariables false
set_option linter.unusedSimpArgs false
set_option linter.defProp false
namespace Go.Proofs.YtehfjlpenlffmaaGreatDoor
open Option.some renaming injEq→zn
open Nat renaming le_refl→zM
open List renaming eq_nil_of_length_eq_zero→zA,getElem?_append_left→yv,getElem?_append_right→yl,getElem?_eq_getElem→zg,getElem?_eq_some_iff→zt,getElem?_map→zz
open Option renaming map_eq_some_iff→zp
open _root_.Array renaming getElem?_eq_some_iff→zG
open Go.RowKit Go.Shelf
attribute [local go_sem] Oper.semAt_some
def Kq (N B:Nat) (W W':World):Prop:=Grow W W' (fun b=>b=B∨N≤b)
theorem kq_t {N B:Nat} {X Y Z:World} (h:Kq N B X Y) (k:Kq N B Y Z):Kq N B X Z:=Grow.trans h k fun b hb=>.inl hb
theorem kq_b {N B:Nat} {w:World} (hn:N≤w.heap.size) (W:World) (l:Nat) (o o':Obj) (hl:w.heap.size≤l) (h:W.heap[l]?=some o):Kq N B W (W.putObj l o'):=
 ⟨rfl,rfl,rfl,by simp,fun b hb hn2=>World.putObj_heap_other (fun e=>hn2 (.inr (by omega)))⟩
theorem qCg:(Tryz.prog.info? 58).map (fun i=>(i.zero,i.size,i.bytes))=some (some (.slice none 0 0),1,24):=by kernel_rfl
def Et:Envt:=⟨fun _=>True,fun _=>False,fun _ _ _ _=>trivial⟩
theorem qql {E:Envt} {f:FuncId} {args:List PV} {r:PV} {w:World} {U:Nat→Prop} {vs:List Value} (h:PCall Tryz.prog E f args (·=r)) (hU:∀ b,U b→b < w.heap.size) (hE:E.ok w) (hb:∀ b,E.bl b→b < w.heap.size) (hA:PRepL w U args vs) :
  Calls Tryz.prog f vs.toArray w fun e w'=>∃ v,e=.returned v∧PRep w' U r v∧Grow w w' (fun _=>False):=by
 refine (h w U vs hU hE hb hA).mono ?_
 rintro e w' ⟨v,x,rfl,rfl,hv,hg⟩
 exact ⟨v,rfl,hv,hg⟩
theorem qvO {E:Envt} {w w':World} (hE:E.ok w) (hb:∀ b,E.bl b→b < w.heap.size) (hg:Grow w w' (fun _=>False)):E.ok w'∧∀ b,E.bl b→b < w'.heap.size:=
 ⟨E.mono _ _ (fun b h=>hg.block b (hb b h) (fun h=>h)) hE,fun b h=>Nat.lt_of_lt_of_le (hb b h) hg.size⟩
def pgF (l:SRow) (k:Nat):SRow:=(l.drop (k * 50)).take 50
def pgsF (l:SRow):Tab:=if l=[] then [[]] else (List.range ((l.length+49) / 50)).map (pgF l)
theorem qkE {W:World} {U:Nat→Prop} {g:Nat}:∀ (es:List PV) (off:Nat),(∀ i x,es[i]?=some x→∃ u,W.cell? ⟨g,off+i,none⟩=some u∧u.oneCell'=true∧PRep W U x u)→PRepE W U g 1 off (es.map fun x=>[x])
 |[],off,h=>trivial
 |x :: r,off,h=>by
  refine ⟨rfl,⟨by simpa using h 0 x rfl,trivial⟩,qkE r (off+1) fun i y hy=>?_⟩
  obtain ⟨u,h1,h2⟩:=h (i+1) y (by simpa using hy)
  exact ⟨u,by rwa [show off+1+i=off+(i+1) from by omega],h2⟩
def ElR (W:World) (N b:Nat) (own:Option Nat) (l:SRow) (u:Value):Prop:=
 ∃ A c,u=.slice A l.length c∧l.length≤c∧(l≠[]→∃ k off,A=some ⟨k,off,none⟩∧k < W.heap.size∧(N≤k∨k=b)∧own≠some k∧∀ j s,l[j]?=some s→W.cell? ⟨k,off+j,none⟩=some (.string ⟨s.toArray⟩))
theorem qml {W:World} {U:Nat→Prop} {k off:Nat} {l:SRow} (h:PRepE W U k 1 off (strE l)):∀ j s,l[j]?=some s→W.cell? ⟨k,off+j,none⟩=some (.string ⟨s.toArray⟩):=by
 intro j s hj
 have:=(h.get (i:=j) (e:=[.str s]) (by rw [strE,zz,hj];rfl)).2
 obtain ⟨⟨v,h1,_,h3⟩,_⟩:=this
 rw [Nat.mul_one] at h1
 rw [h1,show v=_ from h3]
theorem qCm {W W1:World} {N b:Nat} {own:Option Nat} {l:SRow} {u:Value} (h:PRep W1 (fun c=>c < W.heap.size∧c≠b) (.sl 1 (strE l)) u) (hN:N≤W.heap.size) (ho:∀ k,own=some k→k < W.heap.size∧k≠b):ElR W1 N b own l u:=by
 obtain ⟨A,c,h1,h2,h3⟩:=h
 rw [qag] at h1 h2
 refine ⟨A,c,h1,h2,fun hl=>?_⟩
 obtain ⟨k,off,hA,hk,hu,hE⟩:=h3 (by simpa [strE] using hl)
 refine ⟨k,off,hA,hk,?_,fun e=>hu (ho k e),qml hE⟩
 rcases Nat.lt_or_ge k W.heap.size with h|h
 ·exact .inr (Classical.byContradiction fun hb=>hu ⟨h,hb⟩)
 ·exact .inl (by omega)
theorem qAI {W:World} {N b:Nat} {own:Option Nat} {l:SRow} {u:Value} {U:Nat→Prop} (h:ElR W N b own l u) (hU:∀ k,U k→k < N∧k≠b):PRep W U (.sl 1 (strE l)) u:=by
 obtain ⟨A,c,h1,h2,h3⟩:=h
 refine ⟨A,c,by rw [qag];exact h1,by rw [qag];exact h2,fun hl=>?_⟩
 obtain ⟨k,off,hA,hk,hN,_,hc⟩:=h3 (by simpa [strE] using hl)
 refine ⟨k,off,hA,hk,fun hu=>by have:=hU k hu;omega,?_⟩
 have:strE l=(l.map PV.str).map fun x=>[x]:=by simp [strE]
 rw [this]
 refine qkE _ off fun i x hx=>?_
 rw [zz,zp] at hx
 obtain ⟨s,hs,rfl⟩:=hx
 exact ⟨_,hc i s hs,rfl,rfl⟩
theorem ElR.kept {W W':World} {N b:Nat} {own own':Option Nat} {l:SRow} {u:Value} (h:ElR W N b own l u) (hs:W.heap.size≤W'.heap.size) (hk:∀ k,k < W.heap.size→(N≤k∨k=b)→own≠some k→own'≠some k∧∀ j v,W.cell? ⟨k,j,none⟩=some v→W'.cell? ⟨k,j,none⟩=some v):ElR W' N b own' l u:=by
 obtain ⟨A,c,h1,h2,h3⟩:=h
 refine ⟨A,c,h1,h2,fun hl=>?_⟩
 obtain ⟨k,off,hA,hkl,hN,ho,hc⟩:=h3 hl
 obtain ⟨k1,k2⟩:=hk k hkl hN ho
 exact ⟨k,off,hA,by omega,hN,k1,fun j s hj=>k2 _ _ (hc j s hj)⟩
def CkI.n {len:Nat} (x:CkI len):Nat:=x.1
def PgI (L:SRow) (len N B b:Nat) (W0:World) (pre:List (CkI len)) (W:World):Prop:=
 (∃ v us,Boxed W B 83 v∧W.ownsRow N 58 1 v pre.length us∧∀ (i:Nat) (x:CkI len) (u:Value),pre[i]?=some x→us[i]?=some u→ElR W N b v.ownBlock (pgF L (CkI.n x)) u)∧Kq N B W0 W
theorem qj6 {W:World} {base e size k:Nat} {v:Value} {xs:List Value} (h:W.ownsRow base e size v k xs) {g:Nat} (hg:v.ownBlock=some g):base≤g∧g < W.heap.size∧∃ o:Obj,W.heap[g]?=some o∧o.isCells=true:=by
 rcases h.2 with ⟨rfl,_⟩|⟨g',cap,cur,rfl,hb,hgg,_⟩
 ·simp [Value.ownBlock] at hg
 ·simp only [Value.ownBlock,zn] at hg
  subst hg
  exact ⟨hb,(zG.1 hgg).1,_,hgg,rfl⟩
theorem qvA (L:SRow) (len N B b:Nat) (W0:World) (hB:B < N):OwnFrom N (PgI L len N B b W0):=by
 rintro pre W W' row ⟨⟨v,us,h1,h2,h3⟩,h4⟩ hg hr
 have hnc:∀ r,row=some r→∃ o:Obj,W.heap[r]?=some o∧o.isCells=false:=fun r e=>(hr r e).2
 refine ⟨⟨v,us,h1.kept hg (fun e=>by have:=(hr B e.symm).1;omega),h2.kept hg ?_,fun i x u hx hu=>(h3 i x u hx hu).kept hg.size fun k _ _ ho=>⟨ho,fun j y hy=>cell_kept hy hg hnc⟩⟩,h4.trans (O1:=fun c=>some c=row) ⟨hg.os,hg.tape,hg.output,hg.size,fun c hc hn=>hg.block c hc (fun e=>hn e)⟩ fun c hc=>.inl (.inr (hr c hc.symm).1)⟩
 cases ho:v.ownBlock with
 |none=>exact .inl rfl
 |some g=>
  refine .inr fun e=>?_
  obtain ⟨_,_,o,hg1,hg2⟩:=qj6 h2 ho
  obtain ⟨o',hr1,hr2⟩:=hnc g e.symm
  rw [hg1] at hr1;cases hr1;rw [hg2] at hr2;cases hr2
theorem qp0 {W W1:World} (hg:Grow W W1 (fun _=>False)):KeepsOthers W W1:=⟨hg.size,fun k o hk _=>(hg.block k (zG.1 hk).1 (fun h=>h)).trans hk⟩
theorem qew {W W1:World} {B:Nat} {t:TypeId} {v:Value} (h:Boxed W B t v) (hg:Grow W W1 (fun _=>False)):Boxed W1 B t v:=(hg.block B h.lt (fun h=>h)).trans h
theorem qq7 {W W1:World} {base e size k:Nat} {v:Value} {xs:List Value} (h:W.ownsRow base e size v k xs) (hg:Grow W W1 (fun _=>False)):W1.ownsRow base e size v k xs:=
 h.kept (row:=none) ⟨hg.os,hg.tape,hg.output,hg.size,fun c hc _=>hg.block c hc (fun h=>h)⟩ (by cases v.ownBlock<;>simp)
theorem qks {A B:World} {k j:Nat} (h:B.heap[k]?=A.heap[k]?):B.cell? ⟨k,j,none⟩=A.cell? ⟨k,j,none⟩:=World.cell?_of_block h
theorem qAg {L:SRow} {len N B b:Nat} {W0 W W1 w1:World} {pre:List (CkI len)} {x:CkI len} {v u v':Value} {us:List Value} {tmp:Obj} (hB:B < N) (hbB:b≠B) (hNW:N≤W.heap.size)
  (hv:Boxed W B 83 v) (hrow:W.ownsRow N 58 1 v pre.length us) (hel:∀ (i:Nat) (x:CkI len) (u:Value),pre[i]?=some x→us[i]?=some u→ElR W N b v.ownBlock (pgF L (CkI.n x)) u) (hk:Kq N B W0 W)
  (hg:Grow W W1 (fun _=>False)) (hu:ElR W1 N b v.ownBlock (pgF L (CkI.n x)) u)
  (hown':w1.ownsRow N 58 1 v' (pre.length+1) (us++[u])) (hgrow:(W1.alloc tmp).grownBy w1 v.ownBlock) (hat:v'.ownBlock=v.ownBlock∨v'.ownBlock=some (W1.alloc tmp).heap.size) :
  KeepsFrom N W (w1.setCell ⟨B,0,none⟩ v')∧Kq N B W (w1.setCell ⟨B,0,none⟩ v')∧PgI L len N B b W0 (pre++[x]) (w1.setCell ⟨B,0,none⟩ v'):=by
 have hv1:=qew hv hg
 have hr1:=qq7 hrow hg
 have hvw:Boxed w1 B 83 v:=(hv1.alloc tmp).kept hgrow (hv1.not_row (by decide) hr1)
 have hsz1:(W1.alloc tmp).heap.size=W1.heap.size+1:=World.size_alloc _ _
 have hown:∀ g,v.ownBlock=some g→N≤g∧g < W.heap.size:=fun g e=>⟨(qj6 hrow e).1,(qj6 hrow e).2.1⟩
 have hset:∀ k,k≠B→(w1.setCell ⟨B,0,none⟩ v').heap[k]?=w1.heap[k]?:=fun k hk=>Below.heap_setCell w1 _ _ k (fun e=>hk e)
 have hw1:∀ k,k < W1.heap.size→v.ownBlock≠some k→w1.heap[k]?=W1.heap[k]?:=fun k hk ho=>(hgrow.block k (by omega) (fun e=>ho e.symm)).trans (Below.heap_alloc W1 tmp k hk)
 have hsz:W1.heap.size≤w1.heap.size:=by have:=hgrow.size;omega
 have hszs:(w1.setCell ⟨B,0,none⟩ v').heap.size=w1.heap.size:=by show (w1.heap.modify _ _).size=_;rw [Array.size_modify]
 have hown'2:∀ k,k < W1.heap.size→v.ownBlock≠some k→v'.ownBlock≠some k:=fun k hk ho=>by
  rcases hat with e|e
  ·rw [e];exact ho
  ·rw [e];simp;omega
 have hkq:Kq N B W (w1.setCell ⟨B,0,none⟩ v'):=by
  refine ⟨hgrow.os.trans hg.os,hgrow.tape.trans hg.tape,hgrow.output.trans hg.output,by have:=hg.size;omega,fun k hk hn=>?_⟩
  have h1:k≠B:=fun e=>hn (.inl e)
  have h2:v.ownBlock≠some k:=fun e=>hn (.inr (hown k e).1)
  rw [hset k h1,hw1 k (by have:=hg.size;omega) h2]
  exact hg.block k hk (fun h=>h)
 refine ⟨?_,hkq,⟨v',us++[u],hvw.set v',?_,?_⟩,kq_t hk hkq⟩
 ·refine (((qp0 hg).trans (KeepsOthers.alloc W1 tmp)).trans (KeepsOthers.of_grownBy hgrow fun j o ej hj=>?_)).trans (KeepsOthers.setCell _ _ _) |>.from N
  obtain ⟨_,_,o',h1,h2⟩:=qj6 (hr1.alloc tmp) ej
  rw [hj] at h1;cases h1;exact h2
 ·rw [List.length_append]
  exact hown'.kept (grownBy_setCell' w1 B v') (.inr (hvw.not_row (by decide) hown').symm)
 ·intro i y z hy hz
  rcases Nat.lt_or_ge i pre.length with hi|hi
  ·have hul:us.length=pre.length:=by have:=hrow.1;omega
   rw [yv hi] at hy
   rw [yv (by omega)] at hz
   refine (hel i y z hy hz).kept (by have:=hg.size;omega) fun k hkl hN ho=>⟨hown'2 k (by have:=hg.size;omega) ho,fun j t ht=>?_⟩
   rw [qks ((hset k (by omega)).trans ((hw1 k (by have:=hg.size;omega) ho).trans (hg.block k hkl (fun h=>h))))]
   exact ht
  ·have hul:us.length=pre.length:=by have:=hrow.1;omega
   have hi2:i=pre.length:=by
    have:=(zt.1 hy).1
    simp at this;omega
   subst hi2
   rw [yl (zM _),Nat.sub_self] at hy
   rw [yl (by omega),hul,Nat.sub_self] at hz
   simp only [List.getElem?_cons_zero,zn] at hy hz
   subst hy hz
   refine hu.kept (by omega) fun k hkl hN ho=>⟨hown'2 k hkl ho,fun j t ht=>?_⟩
   rw [qks ((hset k (by omega)).trans (hw1 k hkl ho))]
   exact ht
theorem qws {len:Nat}:∀ (k i:Nat) (x:CkI len),(ckL len k)[i]?=some x→k * 50 < len+50→CkI.n x=i
 |0,i,x,h,_=>by simp [ckL] at h
 |k+1,i,x,h,hk=>by
  have hl:=qqi len k (by omega)
  rw [ckL,dif_pos (by omega)] at h
  rcases Nat.lt_or_ge i k with h1|h1
  ·rw [yv (by omega)] at h
   exact qws k i x h (by omega)
  ·rw [yl (by omega),hl] at h
   have:i - k=0:=by
    rcases Nat.eq_zero_or_pos (i - k) with h2|h2
    ·exact h2
    ·rw [List.getElem?_eq_none (by show 1≤i - k;omega)] at h;cases h
   rw [this] at h
   have h':k=x.1:=congrArg Subtype.val (Option.some.inj h)
   show x.1=i
   omega
theorem qvE {W:World} {N b:Nat} {L:SRow} {v:Value} {us:List Value} {U:Nat→Prop} (hL:¬ L=[]) (hr:W.ownsRow N 58 1 v (ckL L.length ((L.length+49) / 50)).length us)
  (he:∀ (i:Nat) (x:CkI L.length) (u:Value),(ckL L.length ((L.length+49) / 50))[i]?=some x→us[i]?=some u→ElR W N b v.ownBlock (pgF L (CkI.n x)) u) (hU:∀ k,U k→k < N∧k≠b):PRep W U (.sl 1 (tbE (pgsF L))) v:=by
 have hlp:0 < L.length:=by have:=mt zA hL;omega
 have hm:(ckL L.length ((L.length+49) / 50)).length=(L.length+49) / 50:=qqi _ _ (by omega)
 have hpl:(tbE (pgsF L)).length=(L.length+49) / 50:=by simp [tbE,pgsF,hL]
 rcases hr.2 with ⟨rfl,h0⟩|⟨g,cap,cur,rfl,hb,hgg,hc1,_⟩
 ·omega
 ·rw [hm] at hc1
  have hlt:=(zG.1 hgg).1
  refine ⟨_,cap,by rw [hpl,hm],by rw [hpl];exact hc1,fun _=>⟨g,0,rfl,hlt,fun hu=>by have:=hU g hu;omega,?_⟩⟩
  have:tbE (pgsF L)=((pgsF L).map fun r=>PV.sl 1 (strE r)).map fun x=>[x]:=by simp [tbE]
  rw [this]
  refine qkE _ 0 fun i x hx=>?_
  rw [zz,zp] at hx
  obtain ⟨r,hr1,rfl⟩:=hx
  rw [pgsF,if_neg hL,zz,zp] at hr1
  obtain ⟨q,hq,rfl⟩:=hr1
  have hi:i < (L.length+49) / 50:=by
   have:=(zt.1 hq).1
   simpa using this
  rw [List.getElem?_range hi] at hq
  cases hq
  obtain ⟨y,hy⟩:∃ y,(ckL L.length ((L.length+49) / 50))[i]?=some y:=⟨_,zg (by omega)⟩
  obtain ⟨u,hu⟩:∃ u,us[i]?=some u:=⟨_,zg (by have:=hr.1;omega)⟩
  have h1:=he i y u hy hu
  rw [qws _ _ _ hy (by omega)] at h1
  have h2:=hr.cells (g:=g) rfl i u hu
  refine ⟨u,?_,?_,qAI h1 hU⟩
  ·rw [Nat.zero_add]
   rwa [show ({ block:=g,off:=0,spot:=none }:Addr).add i=⟨g,i,none⟩ from by cases i<;>simp [Addr.add]] at h2
  ·obtain ⟨A,c,rfl,_⟩:=h1
   rfl
set_option maxRecDepth 100000 in
set_option maxHeartbeats 4000000 in
theorem qvF (E:Envt) (t:List UInt8) (te:Int) (L:SRow) (hT:PCall Tryz.prog E 258 [.str t] (·=int te)) (hP:te=0→PCall Tryz.prog E 259 [.str t] (·=.sl 1 (strE L))) (hL:L.length≤1000000) :
  PCall Tryz.prog E 200 [.str t] (·=if te=0 then .tup [.sl 1 (tbE (pgsF L)),int 0] else .tup [.sl 1 [],int te]):=by
 intro w U vs hU hE hEb hA
 obtain ⟨v,r,rfl,rfl,rfl⟩:=hA
 have hT1:=qql (vs:=[.string ⟨t.toArray⟩]) hT hU hE hEb ⟨_,_,rfl,rfl,rfl⟩
 have hP1:te=0→∀ w1,Grow w w1 (fun _=>False)→Calls Tryz.prog 259 #[.string ⟨t.toArray⟩] w1 fun e w'=>∃ v,e=.returned v∧PRep w' U (.sl 1 (strE L)) v∧Grow w1 w' (fun _=>False):=fun h0 w1 hg=>
  qql (vs:=[.string ⟨t.toArray⟩]) (hP h0) (fun b h=>Nat.lt_of_lt_of_le (hU b h) hg.size) (qvO hE hEb hg).1 (qvO hE hEb hg).2 ⟨_,_,rfl,rfl,rfl⟩
 have hlen:(strE L).length=L.length:=qag L
 refine (callsIn_wide (n:=3)).1 ?_
 refine callsIn_of_wp_marks Tryz.func200 rfl trivial ?_ rfl
 simp only [Tryz.ntmps200,List.size_toArray,List.length_cons,List.length_nil,Nat.reduceAdd,Nat.reduceSub,Array.replicate_succ,Array.replicate_zero,List.push_toArray,List.append_toArray,List.nil_append,List.cons_append]
 by_cases hte:te=0
 rotate_left
 ·rw [if_neg hte]
  gi_wp2_with (refine ⟨trivial,?_⟩;gi_at_call 258;refine (callsIn_wide.2 hT1).mono ?_;clear hT1;rintro e w1 ⟨v1,rfl,rfl,hg1⟩)
  exact ⟨_,results_tmp2 (t:=2) (u:=3) rfl _ _ _,_,.tup [.sl 1 [],int te],rfl,rfl,⟨[_,_],rfl,_,_,rfl,⟨none,0,rfl,zM _,fun h=>absurd rfl h⟩,_,_,rfl,rfl,rfl⟩,hg1⟩
 replace hP1:=hP1 hte
 subst hte
 rw [if_pos rfl]
 by_cases hLn:L=[]
 ·subst hLn
  gi_wp2_with (first
   |(refine ⟨trivial,?_⟩;gi_at_call 258;refine (callsIn_wide.2 hT1).mono ?_;clear hT1;rintro e w1 ⟨v1,rfl,rfl,hg1⟩)
   |(refine ⟨trivial,?_⟩;gi_at_call 259;refine (callsIn_wide.2 (hP1 _ (by assumption))).mono ?_;rintro e w2 ⟨v2,rfl,⟨A,c,rfl,hlc,hAb⟩,hg2⟩))
  refine ⟨_,results_tmp2 (t:=2) (u:=3) rfl _ _ _,_,.tup [.sl 1 (tbE [[]]),int 0],rfl,rfl,⟨[_,_],rfl,_,_,rfl,⟨_,1,rfl,zM _,fun _=>⟨_,0,rfl,by simp,fun hu=>?_,?_⟩⟩,_,_,rfl,rfl,rfl⟩,?_⟩
  ·have h1:=hU _ hu
   have h2:=hg1.size
   have h3:=hg2.size
   omega
  ·refine ⟨rfl,⟨⟨.slice (some ⟨w2.heap.size,0,none⟩) 0 0,?_,rfl,⟨_,0,rfl,zM _,fun h=>absurd rfl h⟩⟩,trivial⟩,trivial⟩
   have:=World.alloc_heap_new (w2.alloc (.cells #[] 9)) (.cells #[.slice (some ⟨w2.heap.size,0,none⟩) 0 0] 58)
   rw [World.size_alloc] at this
   rw [Lib.cell_of_heap this]
   rfl
  ·exact (((hg1.trans hg2 fun (_:Nat) (h:False)=>h.elim)).trans (qbB _ _ _) fun (_:Nat) (h:False)=>h.elim).trans (qbB _ _ _) fun (_:Nat) (h:False)=>h.elim
 ·have hLp:0 < L.length:=by have:=mt zA hLn;omega
  gi_wp2_with (first
   |(refine ⟨trivial,?_⟩;gi_at_call 258;refine (callsIn_wide.2 hT1).mono ?_;clear hT1;rintro e w1 ⟨v1,rfl,rfl,hg1⟩)
   |(refine ⟨trivial,?_⟩;gi_at_call 259;refine (callsIn_wide.2 (hP1 _ (by assumption))).mono ?_;rintro e w2 ⟨v2,rfl,⟨A,c,rfl,hlc,hAb⟩,hg2⟩;rw [hlen] at hlc ⊢)
   |(refine ⟨trivial,?_⟩;gi_at_call 260;refine (qyg Fence.wide _ trivial rfl _ _ _ _).mono ?_;rintro e w3 ⟨rfl,rfl⟩))
  obtain ⟨b,off,rfl,hb2,hbu,hE2⟩:=hAb (by simpa [strE] using hLn)
  obtain ⟨W0,hW0⟩:∃ W0,((w2.alloc (.cells #[.slice none 0 0] 83)).alloc (.cells #[.slice (some ⟨b,off,none⟩) L.length c] 58)).alloc (.cells #[.int .i64 50] 3)=W0:=⟨_,rfl⟩
  have hN:W0.heap.size=w2.heap.size+3:=by rw [← hW0];simp
  have bO:Boxed W0 w2.heap.size 83 (.slice none 0 0):=by rw [← hW0];exact ((Boxed.new w2 _ _).alloc _).alloc _
  have bS:Boxed W0 (w2.heap.size+1) 58 (.slice (some ⟨b,off,none⟩) L.length c):=by
   rw [← hW0]
   have:=(Boxed.new (w2.alloc (.cells #[.slice none 0 0] 83)) 58 (.slice (some ⟨b,off,none⟩) L.length c)).alloc (.cells #[.int .i64 50] 3)
   rwa [World.size_alloc] at this
  have bN:Boxed W0 (w2.heap.size+1+1) 3 (.int .i64 50):=by
   rw [← hW0]
   have:=Boxed.new ((w2.alloc (.cells #[.slice none 0 0] 83)).alloc (.cells #[.slice (some ⟨b,off,none⟩) L.length c] 58)) 3 (.int .i64 50)
   rwa [World.size_alloc,World.size_alloc] at this
  have hg3:Grow w2 W0 (fun _=>False):=by rw [← hW0];exact ((qbB _ _ _).trans (qbB _ _ _) fun (_:Nat) (h:False)=>h.elim).trans (qbB _ _ _) fun (_:Nat) (h:False)=>h.elim
  rw [hW0]
  have hbB:b≠w2.heap.size:=by omega
  have hKc:∀ A' B':World,Kq W0.heap.size w2.heap.size A' B'→∀ (c:Nat) (v:Value),(c=w2.heap.size+1∨c=w2.heap.size+1+1)→A'.cell? ⟨c,0,none⟩=some v→B'.cell? ⟨c,0,none⟩=some v:=by
   intro A' B' hk c v hc hv
   have hlt:c < A'.heap.size:=by
    obtain ⟨o,ho,_⟩:=cells_of_cell hv
    exact (zG.1 ho).1
   rw [qks (hk.block c hlt (by omega))]
   exact hv
  refine wpIn_rangeFunc_ownG (F:=Fence.wide) (n:=3) rfl (by decide) (gf:=312) (lb:=#[.pointer (some ⟨w2.heap.size+1,0,none⟩),.pointer (some ⟨w2.heap.size+1+1,0,none⟩)]) rfl trivial (enters_of Tryz.func312 (by kernel_rfl) rfl)
   (qsQ Fence.wide _ trivial rfl (by decide) (w2.heap.size+1) b off L.length c hL hlc (Kq W0.heap.size w2.heap.size) hKc W0 (by omega) bS.cell bN.cell) kq_t (fun W l o o' hl h _ _=>kq_b (zM _) W l o o' hl h) (Below.refl _ _) (fun _=>rfl)
   (PgI L L.length W0.heap.size w2.heap.size b W0)
   (fun _ _ _=>False)
   (qvA L L.length W0.heap.size w2.heap.size b W0 (by omega))
   (fun _ _ _ _ _ hs _ _=>hs)
   ⟨⟨_,[],bO,World.ownsRow_nil _ _ _ _,fun i x u hx=>by simp at hx⟩,Grow.refl _ _⟩
   (fun x=>{ tmps:=#[.string ⟨t.toArray⟩,undef,.slice none 0 0,.int .i64 0,.int .i64 0,.slice (some ⟨b,off,none⟩) L.length c,.pointer (some ⟨w2.heap.size,0,none⟩),ckV b off L.length x,.string ⟨t.toArray⟩,.int .i64 0,.int .i64 0,.bool false,undef,.string ⟨t.toArray⟩,.slice (some ⟨b,off,none⟩) L.length c,.slice (some ⟨b,off,none⟩) L.length c,.int .i64 L.length,.bool false,undef,undef,.slice (some ⟨b,off,none⟩) L.length c,.func (.func 312) #[] #[.pointer (some ⟨w2.heap.size+1,0,none⟩),.pointer (some ⟨w2.heap.size+1+1,0,none⟩)],ckV b off L.length x,undef,undef,undef,undef,undef,undef],defers:=[] }) ?assign ?body ?done ?stop
  case assign=>
   intro l x W K hK
   gi_wp2
   exact hK
  case body=>
   rintro l pre x W ⟨⟨v,us,hv,hrow,hel⟩,hk⟩ hlt
   have hNW:W0.heap.size≤W.heap.size:=hk.size
   have hmx:Tryz.prog.follows .mixedOrders=true:=by kernel_rfl
   have hx50:=x.2
   have hcL:∀ (j:Nat) (s:List UInt8),L[j]?=some s→W.cell? ⟨b,off+j,none⟩=some (.string ⟨s.toArray⟩):=fun j s hj=>by
    rw [qks (hk.block b (by omega) (by omega)),qks (hg3.block b hb2 (fun h=>h))]
    exact qml hE2 j s hj
   have hC:∀ W1:World,W1.heap=W.heap→Calls Tryz.prog 48 #[ckV b off L.length x] W1 fun e W'=>∃ A n c,e=.returned (.slice A n c)∧ElR W' W0.heap.size b v.ownBlock (pgF L (CkI.n x)) (.slice A n c)∧Grow W1 W' (fun _=>False):=by
    intro W1 hW1
    have hpl:(strE (pgF L (CkI.n x))).length=min 50 (L.length - x.1 * 50):=by rw [qag,pgF,List.length_take,List.length_drop];rfl
    refine (qql (E:=Et) (U:=fun c=>c < W1.heap.size∧c≠b) (w:=W1) (vs:=[ckV b off L.length x]) (qq3 (qr4 (strE (pgF L (CkI.n x))) (by rw [hpl];omega))) (fun c hc=>hc.1) trivial (fun c hc=>hc.elim) (show PRepL W1 (fun c=>c < W1.heap.size∧c≠b) [.sl 1 (strE (pgF L (CkI.n x)))] [ckV b off L.length x] from ⟨_,_,rfl,⟨some ⟨b,off+x.1 * 50,none⟩,min 50 (L.length - x.1 * 50),by rw [hpl];rfl,by rw [hpl];exact zM _,fun _=>⟨b,_,rfl,by rw [hW1];omega,fun h=>h.2 rfl,?_⟩⟩,rfl⟩)).mono ?_
    ·have:strE (pgF L (CkI.n x))=((pgF L (CkI.n x)).map PV.str).map fun x=>[x]:=by simp [strE]
     rw [this]
     refine qkE _ _ fun i y hy=>?_
     rw [zz,zp] at hy
     obtain ⟨s,hs,rfl⟩:=hy
     have hj:L[x.1 * 50+i]?=some s:=by
      rw [pgF,List.getElem?_take] at hs
      split at hs
      ·rw [List.getElem?_drop] at hs;exact hs
      ·cases hs
     refine ⟨_,?_,rfl,rfl⟩
     have h2:=hcL _ _ hj
     rw [← Nat.add_assoc] at h2
     rw [World.cell?_of_block (show W1.heap[b]?=W.heap[b]? by rw [hW1])]
     exact h2
    ·rintro e W' ⟨u,rfl,hu,hg⟩
     have hel2:ElR W' W0.heap.size b v.ownBlock (pgF L (CkI.n x)) u:=qCm (W:=W1) hu (by rw [hW1];exact hNW) (fun k e=>by have:=qj6 hrow e;rw [hW1];omega)
     obtain ⟨A,c,rfl,h3⟩:=hel2
     exact ⟨A,_,c,rfl,⟨A,c,rfl,h3⟩,hg⟩
   have hc:=hv.cell
   have hf:=hv.frozen
   gi_wp2
   refine wpIn_region_any (by assumption) ?_
   change wpAnyIn _ _ _ _ _ _ _ _ _ (World.drew _)
   refine (fun (key:∀ (W1:World) (A2:Option Addr) (n2 c2:Nat),ElR W1 W0.heap.size b v.ownBlock (pgF L (CkI.n x)) (.slice A2 n2 c2)→Grow W.drew W1 (fun _=>False)→HidT ((?GoalX:World→Option Addr→Nat→Nat→Prop) W1 A2 n2 c2))=>?main) ?hkey
   case main=>
    refine wpAnyIn_ready (rs:=[0,1]) (by kernel_rfl) (by simp) ?_
    refine AllReadyIn.cons rfl (fun K hK=>?_) (AllReadyIn.cons rfl (fun K hK=>?_) AllReadyIn.nil)
    ·go_simp
     refine hK _ _ ?_
     clear hK K
     refine wpAnyIn_ready (rs:=[1]) (by kernel_rfl) (by simp) ?_
     refine AllReadyIn.cons rfl (fun K hK=>?_) AllReadyIn.nil
     go_simp
     refine hK _ _ ?_
     clear hK K
     refine wpAnyIn_ready (rs:=[2]) (by kernel_rfl) (by simp) ?_
     refine AllReadyIn.cons rfl (fun K hK=>?_) AllReadyIn.nil
     go_simp
     refine ⟨trivial,?_⟩
     refine (CallsIn.inRound l (callsIn_wide.2 (hC W.drew rfl))).mono ?_
     rintro e W1 ⟨A2,n2,c2,rfl,hu2,hg5⟩
     have hc1:=(qew hv (Grow.of_drew hg5)).cell;have hc2:=((qew hv (Grow.of_drew hg5)).alloc (.cells #[.slice A2 n2 c2] 58)).cell
     go_simp
     refine hK _ _ ?_
     clear hK K
     refine wpAnyIn_ready (rs:=[3]) (by kernel_rfl) (by simp) ?_
     refine AllReadyIn.cons rfl (fun K hK=>?_) AllReadyIn.nil
     go_simp
     refine hK _ _ ?_
     clear hK K
     exact (key W1 A2 n2 c2 hu2 hg5).out
    ·go_simp
     refine hK _ _ ?_
     clear hK K
     refine wpAnyIn_ready (rs:=[0,2]) (by kernel_rfl) (by simp) ?_
     refine AllReadyIn.cons rfl (fun K hK=>?_) (AllReadyIn.cons rfl (fun K hK=>?_) AllReadyIn.nil)
     ·go_simp
      refine hK _ _ ?_
      clear hK K
      refine wpAnyIn_ready (rs:=[2]) (by kernel_rfl) (by simp) ?_
      refine AllReadyIn.cons rfl (fun K hK=>?_) AllReadyIn.nil
      go_simp
      refine ⟨trivial,?_⟩
      refine (CallsIn.inRound l (callsIn_wide.2 (hC W.drew rfl))).mono ?_
      rintro e W1 ⟨A2,n2,c2,rfl,hu2,hg5⟩
      have hc1:=(qew hv (Grow.of_drew hg5)).cell;have hc2:=((qew hv (Grow.of_drew hg5)).alloc (.cells #[.slice A2 n2 c2] 58)).cell
      go_simp
      refine hK _ _ ?_
      clear hK K
      refine wpAnyIn_ready (rs:=[3]) (by kernel_rfl) (by simp) ?_
      refine AllReadyIn.cons rfl (fun K hK=>?_) AllReadyIn.nil
      go_simp
      refine hK _ _ ?_
      clear hK K
      exact (key W1 A2 n2 c2 hu2 hg5).out
     ·go_simp
      refine ⟨trivial,?_⟩
      refine (CallsIn.inRound l (callsIn_wide.2 (hC W.drew rfl))).mono ?_
      rintro e W1 ⟨A2,n2,c2,rfl,hu2,hg5⟩
      have hc1:=(qew hv (Grow.of_drew hg5)).cell;have hc2:=((qew hv (Grow.of_drew hg5)).alloc (.cells #[.slice A2 n2 c2] 58)).cell
      go_simp
      refine hK _ _ ?_
      clear hK K
      refine wpAnyIn_ready (rs:=[0,3]) (by kernel_rfl) (by simp) ?_
      refine AllReadyIn.cons rfl (fun K hK=>?_) (AllReadyIn.cons rfl (fun K hK=>?_) AllReadyIn.nil)
      ·go_simp
       refine hK _ _ ?_
       clear hK K
       refine wpAnyIn_ready (rs:=[3]) (by kernel_rfl) (by simp) ?_
       refine AllReadyIn.cons rfl (fun K hK=>?_) AllReadyIn.nil
       go_simp
       refine hK _ _ ?_
       clear hK K
       exact (key W1 A2 n2 c2 hu2 hg5).out
      ·go_simp
       refine hK _ _ ?_
       clear hK K
       refine wpAnyIn_ready (rs:=[0]) (by kernel_rfl) (by simp) ?_
       refine AllReadyIn.cons rfl (fun K hK=>?_) AllReadyIn.nil
       go_simp
       refine hK _ _ ?_
       clear hK K
       exact (key W1 A2 n2 c2 hu2 hg5).out
   intro W1 A2 n2 c2 hu2 hg5
   refine HidT.mk ?_
   have hg6:=Grow.of_drew hg5
   have hv1:=qew hv hg6
   have hr1:=qq7 hrow hg6
   obtain ⟨i0,hi,hz0,hz1,hz2⟩:=info_parts qCg
   have hpn:pre.length≤1000000:=by omega
   refine wpAnyIn_ready (rs:=[4]) (by kernel_rfl) (by simp) ?_
   refine AllReadyIn.cons rfl (fun K hK=>?_) AllReadyIn.nil
   obtain ⟨v',w',hr,q2,q3,q4,q5⟩:=run_append_own_at (P:=Tryz.prog) (W1.alloc (.cells #[.slice A2 n2 c2] 58)) W0.heap.size 83 83 58 i0 (.slice none 0 0) 1 24 Tryz.underlying83 hi hz0 hz1 hz2 rfl (by decide) v pre.length us (hr1.alloc _) ⟨W1.heap.size,0,none⟩ 1 1 [.slice A2 n2 c2] rfl (cell_one_new _ _ _) (by simp [Value.oneCell']) (by unfold maxLen;omega) (by omega) (by have:=hg5.size;simp at this ⊢;omega)
   obtain ⟨g',cap',rfl⟩:=ownsRow_succ q2
   have hvw:Boxed w' w2.heap.size 83 v:=(hv1.alloc _).kept q3 (hv1.not_row (by decide) hr1)
   have hcw:=hvw.cell
   have hfw:=hvw.frozen
   unfold Oper.wpIn
   refine ⟨by simp [Oper.about,resolve,Target.leads,Sem.run_pure],?_⟩
   rw [Oper.semAt_plain _ _ _ (by intro c hc';cases hc')]
   simp [execOp,resolve,invoke,builtin,Act.eval,hr,Result.andThen]
   simp only [Oper.uponIn]
   refine hK _ _ ?_
   clear hK K
   refine wpAnyIn_ready (rs:=[5]) (by kernel_rfl) (by simp) ?_
   refine AllReadyIn.cons rfl (fun K hK=>?_) AllReadyIn.nil
   go_simp
   refine hK _ _ ?_
   clear hK K
   refine wpAnyIn_done (by kernel_rfl) ?_ _
   exact qAg (by omega) hbB hNW hv hrow hel hk hg6 hu2 q2 q3 q5
  case done=>
   rintro D ys W hD rfl hI hK
   obtain ⟨⟨v,us,hv,hrow,hel⟩,hk⟩:=hI
   have hI2:=qvA L L.length W0.heap.size w2.heap.size b W0 (by omega) _ W _ (some D) ⟨⟨v,us,hv,hrow,hel⟩,hk⟩ (grownBy_putObj' W D (.deferred none)) (fun r e=>by cases e;exact ⟨hD,_,hK,rfl⟩)
   have hc:=hv.cell
   have hr3:(W.putObj D (.deferred none)).ownsRow W0.heap.size 58 1 v (ckL L.length ((L.length+49) / 50)).length us:=ownsRow_putObj hrow _ hK rfl
   have he3:∀ (i:Nat) (x:CkI L.length) (u:Value),(ckL L.length ((L.length+49) / 50))[i]?=some x→us[i]?=some u→ElR (W.putObj D (.deferred none)) W0.heap.size b v.ownBlock (pgF L (CkI.n x)) u:=fun i x u hx hu=>(hel i x u hx hu).kept (by simp) fun k _ _ ho=>⟨ho,fun j y hy=>cell_kept hy (grownBy_putObj' W D (.deferred none)) (fun r e=>by cases e;exact ⟨_,hK,rfl⟩)⟩
   have hk3:=hI2.2
   clear hI2
   gi_wp2
   refine ⟨by simp,.inl ⟨_,_,rfl,run_takeDeferred hK,?_⟩⟩
   exact ⟨_,results_tmp2 (t:=2) (u:=3) rfl _ _ _,_,.tup [.sl 1 (tbE (pgsF L)),int 0],rfl,rfl,⟨[_,_],rfl,_,_,rfl,qvE (N:=W0.heap.size) (b:=b) hLn hr3 he3 (fun k hk=>⟨by have:=hU k hk;have:=hg1.size;have:=hg2.size;omega,fun e=>hbu (e ▸ hk)⟩),_,_,rfl,rfl,rfl⟩,(((hg1.trans hg2 fun (_:Nat) (h:False)=>h.elim).trans hg3 fun (_:Nat) (h:False)=>h.elim).trans hk3 fun c hc=>.inr (by have:=hg1.size;have:=hg2.size;omega))⟩
  case stop=>
   rintro D c pre W _ _ h _
   exact h.elim
end Go.Proofs.YtehfjlpenlffmaaGreatDoor
