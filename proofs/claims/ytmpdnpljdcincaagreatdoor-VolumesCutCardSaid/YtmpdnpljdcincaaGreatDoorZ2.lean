import Derived.Test.YtmpdnpljdcincaaGreatDoorZ1
import Derived.Lib.AppendZeros
import Derived.Lib.AppendZerosOnto
import Derived.Lib.SliceRun
set_option linter.unusedVariables false
set_option linter.unusedSimpArgs false
set_option linter.defProp false
namespace Go.Proofs.YtmpdnpljdcincaaGreatDoor
open Option.some renaming injEq→zh
open Prod.mk renaming injEq→zl
open Nat renaming add_mul→ym,le_refl→zD,mul_le_mul_right→yy
open List renaming append_assoc→yh,append_nil→z6,eq_nil_of_length_eq_zero→zr,flatten_cons→zI,getD→zu,getElem?_append_right→z8,getElem?_drop→yd,getElem?_eq_getElem→zg,getElem?_eq_none→zO,getElem?_eq_some_iff→zk,getElem?_map→zt,getElem?_of_mem→zQ,getElem?_take→yv,length_append→zp,length_map→zw,length_take→zJ,map_cons→zx,map_map→ya,map_nil→yr,mem_append→zz,mem_cons→zC,mem_map→zG,mem_of_getElem?→zm,mem_of_mem_take→yz,nil_append→yg,replicate→zM,take_of_length_le→zq
open Bool renaming and_eq_true→zj,false_eq_true→z7,or_eq_true→zU
open Option renaming isSome_iff_exists→zT,map_eq_some_iff→zi,map_some→zN
open Int renaming toNat_natCast→zZ
open _root_.Array renaming getElem?_eq_some_iff→zH
def appB (P:Program) (e:TypeId) (z by_:Nat):Bool:=
 match P.info? e with
 |some i=>i.size == z && i.bytes == by_ && (match i.zero with|some v=>v.cells.size == z|none=>false) && decide (0 < z) && decide (0 < by_)
 |none=>false
section
variable {P:Program} {E:Envt} {B:Base} {w w':World} {L:Objs} {ι:Key→Value} {fr:List AV} {a:Act} {X:Nat→Prop} {o:Oper} {U:Nat→Prop}
theorem qht {e z by_:Nat} (h:appB P e z by_=true):∃ i v,P.info? e=some i∧i.zero=some v∧i.size=z∧i.bytes=by_∧v.cells.size=z∧0 < z∧0 < by_:=by
 unfold appB at h
 split at h
 ·rename_i i hi
  simp only [zj,beq_iff_eq,decide_eq_true_eq] at h
  obtain ⟨⟨⟨⟨h1,h2⟩,h3⟩,h4⟩,h5⟩:=h
  split at h3
  ·rename_i v hv
   exact ⟨i,v,hi,hv,h1,h2,by simpa using h3,h4,h5⟩
  ·cases h3
 ·cases h
theorem qvL (hs:StF E B w L ι fr a) {q:AV} {v:Value} {z:Nat} {es:List (List PV)} (e:Zv L q=some (z,es)) (h:ARep w (fun b=>Own L ι b∨B.X b) ι q v) :
  ∃ A c news,v=.slice A es.length c∧PRepL w (fun b=>Own L ι b∨B.X b) es.flatten news∧(∀ u∈news,u.oneCell'=true)∧(∀ x∈es,x.length=z)∧(es≠[]→∃ ad,A=some ad∧∀ (j:Nat) (u:Value),news[j]?=some u→w.cell? (ad.add j)=some u):=by
 have key:∀ (es:List (List PV)) (b off:Nat),PRepE w (fun b=>Own L ι b∨B.X b) b z off es→∃ news,PRepL w (fun b=>Own L ι b∨B.X b) es.flatten news∧(∀ u∈news,u.oneCell'=true)∧(∀ x∈es,x.length=z)∧∀ (j:Nat) (u:Value),news[j]?=some u→w.cell? ⟨b,off+j,none⟩=some u:=by
  intro es
  induction es with
  |nil=>intro b off _;exact ⟨[],by simp [PRepL],by simp,by simp,by simp⟩
  |cons x r ih=>
   intro b off hE
   simp only [PRepE] at hE
   obtain ⟨h1,h2,h3⟩:=hE
   obtain ⟨us,a1,a2,a3⟩:=h2.vals
   obtain ⟨vs,b1,b2,b3,b4⟩:=ih b (off+z) h3
   have hlen:us.length=z:=by rw [a1.length,h1]
   refine ⟨us++vs,by simp only [zI];exact a1.append b1,?_,?_,fun j u hu=>?_⟩
   ·intro u hu;simp only [zz] at hu;exact hu.elim (a2 u) (b2 u)
   ·intro y hy;simp only [zC] at hy;rcases hy with rfl|hy;exact h1;exact b3 y hy
   ·rw [List.getElem?_append] at hu
    split at hu
    ·exact a3 j u hu
    ·have:=b4 _ u hu
     rwa [hlen,show off+z+(j - z)=off+j from by omega] at this
 unfold Zv at e
 split at e
 ·simp only [zh,zl] at e
  obtain ⟨rfl,rfl⟩:=e
  rename_i z es
  obtain ⟨A,c,e1,e2,e3⟩:=h
  by_cases hn:es=[]
  ·subst hn
   exact ⟨A,c,[],e1,by simp [PRepL],by simp,by simp,fun h=>absurd rfl h⟩
  ·obtain ⟨b,off,rfl,_,_,hE⟩:=e3 hn
   obtain ⟨news,g1,g2,g3,g4⟩:=key es b off hE
   exact ⟨_,c,news,e1,g1,g2,g3,fun _=>⟨_,rfl,fun j u hu=>by rw [qbE];exact g4 j u hu⟩⟩
 ·simp only [zh,zl] at e
  obtain ⟨rfl,rfl⟩:=e
  exact ⟨none,0,[],h,by simp [PRepL],by simp,by simp,fun h=>absurd rfl h⟩
 ·rename_i k
  split at e
  ·rename_i es' e' z' ap hl
   simp only [zh,zl] at e
   obtain ⟨rfl,rfl⟩:=e
   obtain ⟨vs,hrow,e4,e5,e6⟩:=hs.1.sim.obj k _ hl
   rcases hrow.2 with ⟨g1,g2⟩|⟨g,cap,cur,fz,g1,_⟩
   ·have hes:=zr g2
    subst hes
    exact ⟨none,0,[],by rw [h.1,g1];rfl,by simp [PRepL],by simp,by simp,fun h=>absurd rfl h⟩
   ·refine ⟨_,cap,vs,by rw [h.1,g1],e5,e4,e6,fun _=>⟨_,rfl,fun j u hu=>?_⟩⟩
    rw [qbE,Nat.zero_add]
    exact hrow.cells g1 j u hu
  ·cases e
 ·cases e
theorem qgq {t ty e:TypeId} {i:TypeInfo} (ht:P.underlying t=some (.slice e)) (hi:P.info? e=some i) (base A:Option Addr) (n cap c:Nat) (hc:n≤cap) :
  (Builtin.append_ #[t,t] ty #[.slice base n cap,.slice A 0 c]).run P w=.ok (.slice base n cap) w:=by
 cases A<;>cases base<;>simp [Builtin.append_,run_underlying ht,sizeOf,typeInfo,hi,Builtin.lenOf,hc,Builtin.firstCells,loadCells,loadCellsFrom,storeCells]
theorem qrP {z:Nat}:∀ (es:List (List PV)),(∀ x∈es,x.length=z)→es.flatten.length=es.length * z:=by
 intro es
 induction es with
 |nil=>intro _;simp
 |cons x r ih=>
  intro h
  rw [zI,zp,ih (fun y hy=>h y (by simp [hy])),h x (by simp),List.length_cons,ym]
  omega
theorem qp7 (hs:StF E B w L ι fr a) {t e z by_:Nat} {ty:TypeId} (ht:P.underlying t=some (.slice e)) (hA:appB P e z by_=true) (base:Nat) (v:Value) (n:Nat) (vs:List Value) (hown:w.ownsRow base e z v n vs) (hb:base≤w.heap.size)
  {q:AV} {u:Value} {es2:List (List PV)} (e2:Zv L q=some (z,es2)) (hq:ARep w (fun b=>Own L ι b∨B.X b) ι q u) (hlen:(n+es2.length) * by_≤140737488355328) :
  ∃ v' w' news,(Builtin.append_ #[t,t] ty #[v,u]).run P w=.ok v' w'∧w'.ownsRow base e z v' (n+es2.length) (vs++news)∧w.grownBy w' v.ownBlock∧(v'.ownBlock=v.ownBlock∨v'.ownBlock=some w.heap.size)∧
   PRepL w (fun b=>Own L ι b∨B.X b) es2.flatten news∧(∀ u∈news,u.oneCell'=true)∧(∀ x∈es2,x.length=z):=by
 obtain ⟨i,zv,h1,h2,h3,h4,h5,h6,h7⟩:=qht hA
 obtain ⟨A,c,news,e1,g1,g2,g3,g4⟩:=qvL hs e2 hq
 subst e1
 have hm:n+es2.length≤maxLen:=by
  have:n+es2.length≤(n+es2.length) * by_:=Nat.le_mul_of_pos_right _ h7
  unfold maxLen
  omega
 by_cases hn:es2=[]
 ·subst hn
  have hnews:news=[]:=by simp only [List.flatten_nil,PRepL] at g1;exact g1
  subst hnews
  have hv:∃ base' cap,v=.slice base' n cap∧n≤cap:=by
   rcases hown.2 with ⟨q1,q2⟩|⟨g,cap,cur,q1,_,_,q2,_⟩
   ·exact ⟨none,0,by rw [q1,q2],by omega⟩
   ·exact ⟨_,cap,q1,q2⟩
  obtain ⟨base',cap,rfl,hc⟩:=hv
  exact ⟨_,w,[],qgq ht h1 _ _ _ _ _ hc,by simpa using hown,World.grownBy.refl w _,.inl rfl,g1,g2,g3⟩
 ·obtain ⟨ad,rfl,g5⟩:=g4 hn
  have hl:news.length=es2.length * z:=by rw [g1.length,qrP es2 g3]
  obtain ⟨v',w',r1,r2,r3,_,r5⟩:=run_append_own_at (P:=P) w base t ty e i zv z by_ ht h1 h2 h3 h4 h5 h6 v n vs hown ad es2.length c news hl g5 g2 hm hlen hb
  exact ⟨v',w',news,r1,r2,r3,r5,g1,g2,g3⟩
theorem qcK {v:Value} {b:Nat} (h:∃ A n c,v=.slice A n c):blk v=v.ownBlock:=by
 obtain ⟨A,n,c,rfl⟩:=h
 cases A<;>rfl
theorem qaD {base e z n:Nat} {v:Value} {xs:List Value} (h:w.ownsRow base e z v n xs):∃ A m c,v=.slice A m c:=by
 rcases h.2 with ⟨q1,_⟩|⟨g,cap,cur,q1,_⟩
 ·exact ⟨none,0,0,q1⟩
 ·exact ⟨_,_,_,q1⟩
theorem qb2 {O:Nat→Prop} {row:Option Nat} (h:w.grownBy w' row) (hr:∀ b,row=some b→O b):Grow w w' O:=
 ⟨h.os,h.tape,h.output,h.size,fun b hb hn=>h.block b hb (fun e=>hn (hr b e.symm))⟩
theorem qzH {t e z by_:Nat} {px py:Operand} {x' y':Opd} {d i:Nat} (ho:o.op=.call { callee:=.builtin .append,args:=#[px,py],argTypes:=#[t,t] }) (hd:o.dst=some d) (ht:P.underlying t=some (.slice e)) (hA:appB P e z by_=true) (hx:qah px x'=true) (hy:qah py y'=true)
  {cx cy:Prop} {q:AV} (ex:(rd fr x').un=(cx,.row (.l i))) (ey:(rd fr y').un=(cy,q)) {es es2:List (List PV)} (hl:Zar L (.l i)=some (.row es e z true)) (e2:Zv L q=some (z,es2)) :
  Eff1 P o fr L (cx∧cy∧(es.length+es2.length) * by_≤140737488355328) ((fr.map (·.kill (.l i))).set d (.row (.l i))) (Zau L (.l i) (.row (es++es2) e z true)):=by
 intro E B w ι a hs ⟨c1,c2,c3⟩
 have hv:ARep w _ ι (.row (.l i)) (a.eval px):=rdP hs.2.1 hx ex c1
 have hu:=rdP hs.2.1 hy ey c2
 obtain ⟨vs,hrow,e4,e5,e6⟩:=hs.1.sim.obj _ _ hl
 have hown:=hrow.owns
 obtain ⟨v',w',news,r1,r2,r3,r4,r5,r6,r7⟩:=qp7 (ty:=o.type) hs ht hA 0 (ι (.l i)) es.length vs hown (Nat.zero_le _) e2 hu c3
 have hG:Grow w w' (Old L ι (.l i)):=qb2 r3 (fun b hb=>⟨_,hl,by rw [qcK (b:=b) (qaD hown)];exact hb⟩)
 have hb:∀ b,blk v'=some b→w.heap.size≤b∨Old L ι (.l i) b:=by
  intro b hb
  rw [qcK (b:=b) (qaD r2)] at hb
  rcases r4 with r4|r4
  ·exact .inr ⟨_,hl,by rw [qcK (b:=b) (qaD hown),← r4];exact hb⟩
  ·rw [r4] at hb;cases hb;exact .inl (zD _)
 have hk:=qbH (X:=B.X) (ao:=.row (es++es2) e z true) (fun b hb=>hs.1.x_lt hb) hG hb
 have hobj:ObjOk w' (fun b=>Own (Zau L (.l i) (.row (es++es2) e z true)) (updI ι (.l i) v') b∨B.X b) (updI ι (.l i) v') (.l i) (.row (es++es2) e z true):=by
  refine ⟨vs++news,by simpa [updI] using RowOk.of_owns r2,?_,?_,?_⟩
  ·intro u hu;simp only [zz] at hu;exact hu.elim (e4 u) (r6 u)
  ·rw [List.flatten_append];exact PRepL.mono hk _ _ (e5.append r5)
  ·intro y hy;simp only [zz] at hy;exact hy.elim (e6 y) (r7 y)
 have h1:=hs.upd i v' (.row (es++es2) e z true) hG hb hobj
 refine ⟨v',.value v',w',_,?_,.inl rfl,h1.1,?_,by rw [Act.put_defers'];exact h1.2.2⟩
 ·rw [qbp _ _ _ a ho]
  simp only [builtin,Sem.run_bind,List.map_toArray,zx,yr,hv.1]
  rw [r1]
  rfl
 ·rw [hd]
  exact h1.2.1.put d ⟨by simp [updI],qaD r2⟩
theorem qwV {t e z by_:Nat} {px py:Operand} {x' y':Opd} {d i:Nat} (ho:o.op=.call { callee:=.builtin .append,args:=#[px,py],argTypes:=#[t,t] }) (hd:o.dst=some d) (ht:P.underlying t=some (.slice e)) (hA:appB P e z by_=true) (hx:qah px x'=true) (hy:qah py y'=true)
  {cx cy:Prop} {q:AV} (ex:(rd fr x').un=(cx,.row (.l i))) (ey:(rd fr y').un=(cy,q)) {es:List (List AV)} {es2:List (List PV)} (hl:Zar L (.l i)=some (.rowv es e z)) (e2:Zv L q=some (z,es2)) :
  Eff1 P o fr L (cx∧cy∧(es.length+es2.length) * by_≤140737488355328) ((fr.map (·.kill (.l i))).set d (.row (.l i))) (Zau L (.l i) (.rowv (es.map (·.map (·.kill (.l i)))++es2.map (·.map .p)) e z)):=by
 intro E B w ι a hs ⟨c1,c2,c3⟩
 have hv:ARep w _ ι (.row (.l i)) (a.eval px):=rdP hs.2.1 hx ex c1
 have hu:=rdP hs.2.1 hy ey c2
 obtain ⟨vs,hrow,e4,e6,e5⟩:=hs.1.sim.obj _ _ hl
 have hown:=hrow.owns
 obtain ⟨v',w',news,r1,r2,r3,r4,r5,r6,r7⟩:=qp7 (ty:=o.type) hs ht hA 0 (ι (.l i)) es.length vs hown (Nat.zero_le _) e2 hu c3
 have hG:Grow w w' (Old L ι (.l i)):=qb2 r3 (fun b hb=>⟨_,hl,by rw [qcK (b:=b) (qaD hown)];exact hb⟩)
 have hb:∀ b,blk v'=some b→w.heap.size≤b∨Old L ι (.l i) b:=by
  intro b hb
  rw [qcK (b:=b) (qaD r2)] at hb
  rcases r4 with r4|r4
  ·exact .inr ⟨_,hl,by rw [qcK (b:=b) (qaD hown),← r4];exact hb⟩
  ·rw [r4] at hb;cases hb;exact .inl (zD _)
 generalize hao:AO.rowv (es.map (·.map (·.kill (.l i)))++es2.map (·.map .p)) e z=ao
 have hk:=qbH (X:=B.X) (ao:=ao) (fun b hb=>hs.1.x_lt hb) hG hb
 have hvl:vs.length=es.flatten.length:=by rw [qjc es e6];exact hrow.1
 have hobj:ObjOk w' (fun b=>Own (Zau L (.l i) ao) (updI ι (.l i) v') b∨B.X b) (updI ι (.l i) v') (.l i) ao:=by
  subst hao
  refine ⟨vs++news,by simpa [updI] using RowOk.of_owns r2,?_,?_,fun j x hx=>?_⟩
  ·intro u hu;simp only [zz] at hu;exact hu.elim (e4 u) (r6 u)
  ·intro y hy
   simp only [zz] at hy
   rcases hy with hy|hy
   ·obtain ⟨y0,h0,rfl⟩:=zG.1 hy;simpa using e6 y0 h0
   ·obtain ⟨y0,h0,rfl⟩:=zG.1 hy;simpa using r7 y0 h0
  ·rw [List.flatten_append,← List.map_flatten,← List.map_flatten,List.getElem?_append] at hx
   rw [zw] at hx
   split at hx
   ·rename_i hj
    rw [zt,zi] at hx
    obtain ⟨y,hy,rfl⟩:=hx
    obtain ⟨u,hu,hr⟩:=e5 j y hy
    refine ⟨u,by rw [List.getElem?_append_left (by omega)];exact hu,?_⟩
    exact (hr.kill (k:=.l i) (v:=v')).mono hk
   ·rename_i hj
    rw [zt,zi] at hx
    obtain ⟨y,hy,rfl⟩:=hx
    obtain ⟨u,hu,hr⟩:=r5.get hy
    exact ⟨u,by rw [z8 (by omega),hvl];exact hu,PRep.mono hk _ _ hr⟩
 have h1:=hs.upd i v' ao hG hb hobj
 refine ⟨v',.value v',w',_,?_,.inl rfl,h1.1,?_,by rw [Act.put_defers'];exact h1.2.2⟩
 ·rw [qbp _ _ _ a ho]
  simp only [builtin,Sem.run_bind,List.map_toArray,zx,yr,hv.1]
  rw [r1]
  rfl
 ·rw [hd]
  exact h1.2.1.put d ⟨by simp [updI],qaD r2⟩
theorem qwW {t e z by_:Nat} {px py:Operand} {x' y':Opd} {d z0:Nat} (ho:o.op=.call { callee:=.builtin .append,args:=#[px,py],argTypes:=#[t,t] }) (hd:o.dst=some d) (ht:P.underlying t=some (.slice e)) (hA:appB P e z by_=true) (hx:qah px x'=true) (hy:qah py y'=true)
  {cx cy:Prop} {q:AV} (ex:(rd fr x').un=(cx,.p (.nl z0))) (ey:(rd fr y').un=(cy,q)) {es2:List (List PV)} (e2:Zv L q=some (z,es2)) :
  Eff1 P o fr L (cx∧cy∧es2.length * by_≤140737488355328) ((fr.map (·.kill (.l d))).set d (.row (.l d))) (Zau L (.l d) (.row es2 e z true)):=by
 intro E B w ι a hs ⟨c1,c2,c3⟩
 have hv:a.eval px=.slice none 0 0:=rdP hs.2.1 hx ex c1
 have hu:=rdP hs.2.1 hy ey c2
 have hown:=World.ownsRow_nil w w.heap.size e z
 obtain ⟨v',w',news,r1,r2,r3,r4,r5,r6,r7⟩:=qp7 (ty:=o.type) hs ht hA w.heap.size (.slice none 0 0) 0 [] hown (zD _) e2 hu (by simpa using c3)
 rw [Nat.zero_add,yg] at r2
 have hG:Grow w w' (Old L ι (.l d)):=qb2 r3 (fun b hb=>by simp [Value.ownBlock] at hb)
 have hb:∀ b,blk v'=some b→w.heap.size≤b∨Old L ι (.l d) b:=by
  intro b hb
  rw [qcK (b:=b) (qaD r2)] at hb
  exact .inl (r2.lt b hb).1
 have hk:=qbH (X:=B.X) (ao:=.row es2 e z true) (fun b hb=>hs.1.x_lt hb) hG hb
 refine qeK hd hs (v:=v') (w':=w') ?_ v' hG hb ⟨news,by simpa [updI] using RowOk.of_owns r2,r6,PRepL.mono hk _ _ r5,r7⟩ ⟨by simp [updI],qaD r2⟩
 rw [qbp _ _ _ a ho]
 simp only [builtin,Sem.run_bind,List.map_toArray,zx,yr,hv]
 rw [r1]
 rfl
theorem qzD {t e:TypeId} {z n d:Nat} {parts:Array (Nat×Operand)} {parts':List Opd} (ho:o.op=.buildSlice t n parts) (hd:o.dst=some d) (ht:P.underlying t=some (.slice e)) (hz:qbU P e z=true) (hzr:((P.info? e).bind (·.zero)).isSome=true)
  (hn:parts.toList.length=n) (hm:n * z≤16777216) (hm2:n≤16777216) (hk:qby 0 parts.toList parts'=true) {c:Prop} {es:List (List PV)} (h:Zan fr z parts'=some (c,es)):Eff1 P o fr L c ((fr.map (·.kill (.l d))).set d (.row (.l d))) (Zau L (.l d) (.row es e z true)):=by
 intro E B w ι a hs h1
 obtain ⟨us,g1,g2,g3,g4,g5⟩:=qmS hs ho ht hz hzr hn hm hk h h1
 have hG:Grow w (w.alloc (.cells us.toArray e)) (Old L ι (.l d)):=qcW _ _ _
 have hb:∀ b,blk (.slice (some ⟨w.heap.size,0,none⟩) n n)=some b→w.heap.size≤b∨Old L ι (.l d) b:=fun b e=>by simp only [blk,zh] at e;omega
 have hkk:=qbH (X:=B.X) (ao:=.row es e z true) (fun b hb=>hs.1.x_lt hb) hG hb
 have hul:us.length=n * z:=by rw [g2.length,qrP es g4,g5]
 refine qeK hd hs g1 (.slice (some ⟨w.heap.size,0,none⟩) n n) hG hb ⟨us,⟨by rw [hul,g5],.inr ⟨w.heap.size,n,us.toArray,(0,0),by simp [updI,g5],heap_alloc_new w _,by omega,by unfold maxLen;omega,by simpa using hul,by rw [g5,← hul];simp,.inl rfl⟩⟩,g3,PRepL.mono hkk _ _ g2,g4⟩ ⟨by simp [updI],_,_,_,rfl⟩
theorem qzz {s d e:TypeId} {dd:Nat} {x:Operand} {x':Opd} {u0:TypeDesc} (ho:o.op=.convert s d x) (hd:o.dst=some dd) (hsT:P.underlying s=some u0) (hdT:P.underlying d=some (.slice e)) (heT:P.underlying e=some (.int .u8)) (hx:qah x x'=true) {c:Prop} {l:List UInt8} (ex:(rd fr x').un=(c,.p (.str l))) :
  Eff1 P o fr L (c∧l.length≤140737488355328) ((fr.map (·.kill (.l dd))).set dd (.row (.l dd))) (Zau L (.l dd) (.row (l.map fun q=>[.int .u8 (q.toNat:Nat)]) e 1 false)):=by
 intro E B w ι a hs ⟨h1,h2⟩
 have hv:=PRep.str_eq (rdP hs.2.1 hx ex h1)
 generalize hst:(⟨l.toArray⟩:ByteArray)=st at hv
 have hsz:st.size=l.length:=by rw [← hst];simp [ByteArray.size]
 have hdat:st.data.toList=l:=by rw [← hst]
 have hrun:=Lib.run_convert_string_bytes (P:=P) w s d e st hsT hdT heT
 have hG:Grow w (Lib.bytesWorld w e st) (Old L ι (.l dd)):=⟨rfl,rfl,rfl,by rw [Lib.bytesWorld_size];omega,fun b hb _=>Lib.bytesWorld_at_old w e st b hb⟩
 have hb:∀ b,blk (.slice (some ⟨w.heap.size,0,none⟩) st.size (grownCap w st.size 0 e))=some b→w.heap.size≤b∨Old L ι (.l dd) b:=fun b e=>by simp only [blk,zh] at e;omega
 have hge:=grownCap_ge w st.size 0 e
 have hle:=grownCap_le_maxLen w st.size 0 e (by unfold maxLen;omega)
 have hcs:(Lib.bytesCells w e st).size=grownCap w st.size 0 e:=by
  simp only [Lib.bytesCells,Array.size_append,Array.size_map,Array.size_replicate]
  have:st.data.size=st.size:=rfl
  omega
 refine qeK hd hs (v:=.slice (some ⟨w.heap.size,0,none⟩) st.size (grownCap w st.size 0 e)) (w':=Lib.bytesWorld w e st) ?_ _ hG hb ⟨l.map fun q=>.int .u8 (q.toNat:Nat),⟨by simp,.inr ⟨w.heap.size,grownCap w st.size 0 e,Lib.bytesCells w e st,_,by simp [updI,hsz],Lib.bytesWorld_at_new w e st,by simpa [hsz] using hge,hle,by simpa using hcs,?_,.inr ⟨rfl,zD _⟩⟩⟩,by simp [Value.oneCell'],?_,by simp⟩ ⟨by simp [updI],_,_,_,rfl⟩
 ·simp only [execOp,ho,hv,Sem.run_bind,hrun]
  rfl
 ·simp only [Lib.bytesCells,Array.toList_append,Array.toList_map,hdat,Nat.mul_one]
  rw [List.take_append_of_le_length (by simp),zq (by simp)]
 ·have:∀ l:List UInt8,(l.map fun q=>[PV.int .u8 (q.toNat:Nat)]).flatten=l.map fun q=>PV.int .u8 (q.toNat:Nat):=by
   intro l;induction l with
   |nil=>rfl
   |cons q l ih=>simp only [zx,zI,List.singleton_append,ih]
  rw [this]
  exact PRepL.of_get (by simp) (fun j x v hx hv=>by rw [zt,zi] at hx hv;obtain ⟨q1,e1,rfl⟩:=hx;obtain ⟨q2,e2,rfl⟩:=hv;rw [e1] at e2;cases e2;rfl)
theorem qoU (zc:Array Value) (z:Nat) (hz:zc.size=z):∀ n:Nat,((List.range (n * z)).map fun j=>zc[j % zc.size]!)=(zM n zc.toList).flatten:=by
 intro n
 induction n with
 |zero=>simp
 |succ n ih=>
  rw [ym,Nat.one_mul,List.range_add,List.map_append,ih,List.replicate_succ',List.flatten_append]
  congr 1
  simp only [ya,zI,List.flatten_nil,z6]
  apply List.ext_getElem
  ·simp [hz]
  ·intro j h1 h2
   simp only [zw,List.length_range] at h1
   have e:(n * z+j) % z=j:=by rw [Nat.mul_comm,Nat.mul_add_mod];exact Nat.mod_eq_of_lt h1
   simp only [List.getElem_map,List.getElem_range,Function.comp_apply,hz,e]
   rw [getElem!_pos zc j (by omega)]
   simp
theorem qzA {t e z by_ d:Nat} {zero:List PV} {px py:Operand} {x' y':Opd} (ho:o.op=.makeSlice t px py) (hd:o.dst=some d) (ht:P.underlying t=some (.slice e)) (hA:appB P e z by_=true) (hzr:qgM P e zero=true) (hx:qah px x'=true) (hy:qah py y'=true)
  {cx cy:Prop} {kx ky:IntKind} {n c:Int} (ex:(rd fr x').un=(cx,.p (.int kx n))) (ey:(rd fr y').un=(cy,.p (.int ky c))) :
  Eff1 P o fr L (cx∧cy∧0≤n∧n≤c∧c * by_≤140737488355328) ((fr.map (·.kill (.l d))).set d (.row (.l d))) (Zau L (.l d) (.row (zM n.toNat (zero.map wk1)) e z true)):=by
 intro E B w ι a hs ⟨c1,c2,c3,c4,c5⟩
 have hvx:=PRep.int_eq (rdP hs.2.1 hx ex c1)
 have hvy:=PRep.int_eq (rdP hs.2.1 hy ey c2)
 obtain ⟨i,zv,h1,h2,h3,h4,h5,h6,h7⟩:=qht hA
 have hzo:qgY zv.cells.toList zero=true:=by
  unfold qgM at hzr
  rw [h1] at hzr
  simpa [h2] using hzr
 have hzrep:=qcO hzo
 have hc63:c≤9223372036854775807:=by
  have:c≤c * (by_:Int):=by
   have:=Int.mul_le_mul_of_nonneg_left (show (1:Int)≤(by_:Int) by omega) (show 0≤c by omega)
   omega
  omega
 have hrun:=run_make (P:=P) w t e i zv ht h1 h2 kx ky n c c3 c4 (by rw [h4,Int.mul_comm];omega) hc63
 rw [h3] at hrun
 obtain ⟨m,rfl⟩:=Int.eq_ofNat_of_zero_le c3
 obtain ⟨cc,rfl⟩:=Int.eq_ofNat_of_zero_le (show 0≤c by omega)
 simp only [zZ] at hrun ⊢
 have hG:Grow w (w.alloc (.cells (madeCells zv.cells (cc * z)) e)) (Old L ι (.l d)):=qcW _ _ _
 have hb:∀ b,blk (.slice (some ⟨w.heap.size,0,none⟩) m cc)=some b→w.heap.size≤b∨Old L ι (.l d) b:=fun b e=>by simp only [blk,zh] at e;omega
 have hzl:zv.cells.toList.length=z:=by simpa using h5
 have hcells:∀ (m:Nat),((zM m zv.cells.toList).flatten).length=m * z:=by
  intro m
  induction m with
  |zero=>simp
  |succ m ih=>rw [List.replicate_succ,zI,zp,ih,hzl,ym];omega
 have hrepl:∀ (m:Nat) (w:World) (U:Nat→Prop),PRepL w U (zM m (zero.map wk1)).flatten (zM m zv.cells.toList).flatten:=by
  intro m w U
  induction m with
  |zero=>simp [PRepL]
  |succ m ih=>rw [List.replicate_succ,List.replicate_succ,zI,zI];exact (hzrep w U).1.wk1.append ih
 have h1c:∀ (m:Nat),∀ v∈(zM m zv.cells.toList).flatten,v.oneCell'=true:=by
  intro m v hv
  obtain ⟨l,hl,hv⟩:=List.mem_flatten.1 hv
  rw [List.eq_of_mem_replicate hl] at hv
  exact (hzrep w (fun _=>False)).1.oneCells (hzrep w (fun _=>False)).2 v hv
 have hzlen:(zero.map wk1).length=z:=by rw [zw,← (hzrep w (fun _=>False)).1.length];exact hzl
 refine qeK hd hs (v:=.slice (some ⟨w.heap.size,0,none⟩) m cc) (w':=w.alloc (.cells (madeCells zv.cells (cc * z)) e)) ?_ _ hG hb ⟨(zM m zv.cells.toList).flatten,⟨by rw [List.length_replicate];exact hcells m,.inr ⟨w.heap.size,cc,madeCells zv.cells (cc * z),(0,0),by simp [updI],heap_alloc_new w _,by rw [List.length_replicate];omega,by unfold maxLen;omega,size_madeCells _ _,?_,.inl rfl⟩⟩,h1c m,hrepl m _ _,fun x hx=>by rw [List.eq_of_mem_replicate hx];exact hzlen⟩ ⟨by simp [updI],_,_,_,rfl⟩
 ·simp only [execOp,ho,hvx,hvy,Sem.run_bind,hrun]
  rfl
 ·rw [List.length_replicate]
  have e1:(madeCells zv.cells (cc * z)).toList=(List.range (cc * z)).map fun j=>zv.cells[j % zv.cells.size]!:=by
   simp [madeCells]
  have hle:m * z≤cc * z:=yy _ (by omega)
  rw [e1,← List.map_take,List.take_range,Nat.min_eq_left hle]
  exact qoU zv.cells z h5 m
theorem qvS {t e:TypeId} {x:Operand} {x':Opd} (ho:o.op=.call { callee:=.builtin .cap,args:=#[x],argTypes:=#[t] }) (ht:P.underlying t=some (.slice e)) (hx:qah x x'=true) {c:Prop} {r:AV}
  (h:Ze fr L (.cap0 x')=some (c,r)):Val1 P o fr L c r:=by
 simp only [Ze] at h
 split at h
 ·rename_i cx z ex
  simp only [zh,zl] at h
  obtain ⟨rfl,rfl⟩:=h
  refine Val1.same fun E B w ι a hs h1=>⟨.int .i64 0,?_,rfl⟩
  have rx:a.eval x=.slice none 0 0:=rdP hs.2.1 hx ex h1
  rw [qbp _ _ _ a ho]
  simp [builtin,Builtin.cap_,run_underlying ht,rx,goInt]
 ·cases h
theorem qyo {t e:TypeId} {x hi:Operand} {x' hi':Opd} (ho:o.op=.slice t x none (some hi) none) (ht:P.underlying t=some (.slice e)) (hz:(P.info? e).isSome=true) (hx:qah x x'=true) (hh:qah hi hi'=true) {c:Prop} {r:AV}
  (h:Ze fr L (.vsn x' hi')=some (c,r)):Val1 P o fr L c r:=by
 simp only [Ze] at h
 split at h
 ·rename_i cx z ch k n ex eh
  simp only [zh,zl] at h
  obtain ⟨rfl,rfl⟩:=h
  refine Val1.same fun E B w ι a hs ⟨h1,h2,h3⟩=>⟨.slice none 0 0,?_,rfl⟩
  have rx:a.eval x=.slice none 0 0:=rdP hs.2.1 hx ex h1
  have rh:=PRep.int_eq (rdP hs.2.1 hh eh h2)
  subst h3
  obtain ⟨i,hi⟩:=zT.1 hz
  simp [execOp,ho,rx,rh,Instr.sliceAt,run_underlying ht,Instr.slice,Instr.sliceBounds,Instr.sliceBound,asIntOf,sizeOf,typeInfo,hi]
 ·cases h
theorem qiE (zc:Array Value) (n:Nat):(Builtin.zeroCells zc n).toList=(zM n zc.toList).flatten:=by
 simp only [Builtin.zeroCells,Array.toList_map,Array.toList_range]
 exact qoU zc zc.size rfl n
theorem qtc {z:Nat}:∀ (es:List (List PV)) (m:Nat),(∀ x∈es,x.length=z)→m≤es.length→(es.take m).flatten=es.flatten.take (m * z):=by
 intro es m
 induction m generalizing es with
 |zero=>simp
 |succ m ih=>
  intro e6 hml
  cases es with
  |nil=>simp
  |cons y r=>
   have hy:y.length=z:=e6 y (by simp)
   rw [List.take_succ_cons,zI,zI,ih r (fun u hu=>e6 u (by simp [hu])) (by simp at hml;omega),ym,Nat.one_mul,List.take_append,zq (l:=y) (by omega)]
   congr 2
   omega
theorem qzG {t tn e z by_ d:Nat} {zero:List PV} {px py:Operand} {x' y':Opd} {kn:IntKind} (ho:o.op=.call { callee:=.builtin .append,args:=#[px,py],argTypes:=#[t,tn] }) (hd:o.dst=some d) (ht:P.underlying t=some (.slice e)) (htn:P.underlying tn=some (.int kn)) (hA:appB P e z by_=true) (hzr:qgM P e zero=true) (hx:qah px x'=true) (hy:qah py y'=true)
  {cx cy:Prop} {z0:Nat} {ky:IntKind} {n:Int} (ex:(rd fr x').un=(cx,.p (.nl z0))) (ey:(rd fr y').un=(cy,.p (.int ky n))) :
  Eff1 P o fr L (cx∧cy∧0 < n∧n * by_≤140737488355328) ((fr.map (·.kill (.l d))).set d (.row (.l d))) (Zau L (.l d) (.row (zM n.toNat (zero.map wk1)) e z true)):=by
 intro E B w ι a hs ⟨c1,c2,c3,c5⟩
 have hvx:a.eval px=.slice none 0 0:=rdP hs.2.1 hx ex c1
 have hvy:=PRep.int_eq (rdP hs.2.1 hy ey c2)
 obtain ⟨i,zv,h1,h2,h3,h4,h5,h6,h7⟩:=qht hA
 have hzo:qgY zv.cells.toList zero=true:=by
  unfold qgM at hzr
  rw [h1] at hzr
  simpa [h2] using hzr
 have hzrep:=qcO hzo
 obtain ⟨m,rfl⟩:=Int.eq_ofNat_of_zero_le (show 0≤n by omega)
 rw [zZ]
 have hmb:m * by_≤140737488355328:=by omega
 have hmle:m≤m * by_:=Nat.le_mul_of_pos_right _ h7
 have hrun:=Lib.run_append_nil_zeros (P:=P) w t tn o.type e i zv ky kn ht htn h1 h2 m (by omega) (by omega) (by omega) (by rw [h4];omega)
 have hge:=grownCap_ge w m 0 e
 have hle:=grownCap_le_maxLen w m 0 e (by unfold maxLen;omega)
 generalize hcc:grownCap w m 0 e=cc at *
 have hG:Grow w (w.drew.alloc (.cells (Builtin.zeroCells zv.cells m++Builtin.zeroCells zv.cells (cc - m)) e)) (Old L ι (.l d)):=⟨rfl,rfl,rfl,by simp,fun b hb _=>hao w.drew _ hb⟩
 have hb:∀ b,blk (.slice (some ⟨w.heap.size,0,none⟩) m cc)=some b→w.heap.size≤b∨Old L ι (.l d) b:=fun b e=>by simp only [blk,zh] at e;omega
 have hzl:zv.cells.toList.length=z:=by simpa using h5
 have hcells:∀ (m:Nat),((zM m zv.cells.toList).flatten).length=m * z:=by
  intro m
  induction m with
  |zero=>simp
  |succ m ih=>rw [List.replicate_succ,zI,zp,ih,hzl,ym];omega
 have hrepl:∀ (m:Nat) (w:World) (U:Nat→Prop),PRepL w U (zM m (zero.map wk1)).flatten (zM m zv.cells.toList).flatten:=by
  intro m w U
  induction m with
  |zero=>simp [PRepL]
  |succ m ih=>rw [List.replicate_succ,List.replicate_succ,zI,zI];exact (hzrep w U).1.wk1.append ih
 have h1c:∀ (m:Nat),∀ v∈(zM m zv.cells.toList).flatten,v.oneCell'=true:=by
  intro m v hv
  obtain ⟨l,hl,hv⟩:=List.mem_flatten.1 hv
  rw [List.eq_of_mem_replicate hl] at hv
  exact (hzrep w (fun _=>False)).1.oneCells (hzrep w (fun _=>False)).2 v hv
 have hzlen:(zero.map wk1).length=z:=by rw [zw,← (hzrep w (fun _=>False)).1.length];exact hzl
 refine qeK hd hs (v:=.slice (some ⟨w.heap.size,0,none⟩) m cc) (w':=w.drew.alloc (.cells (Builtin.zeroCells zv.cells m++Builtin.zeroCells zv.cells (cc - m)) e)) ?_ _ hG hb ⟨(zM m zv.cells.toList).flatten,⟨by rw [List.length_replicate];exact hcells m,.inr ⟨w.heap.size,cc,_,(0,0),by simp [updI],heap_alloc_new w.drew _,by rw [List.length_replicate];omega,hle,?_,?_,.inl rfl⟩⟩,h1c m,hrepl m _ _,fun x hx=>by rw [List.eq_of_mem_replicate hx];exact hzlen⟩ ⟨by simp [updI],_,_,_,rfl⟩
 ·rw [qbp _ _ _ a ho]
  simp only [builtin,Sem.run_bind,List.map_toArray,zx,yr,hvx,hvy]
  rw [hrun]
  rfl
 ·rw [← Array.length_toList,Array.toList_append,zp,qiE,qiE,hcells,hcells,← ym]
  congr 1
  omega
 ·rw [Array.toList_append,qiE,List.length_replicate,List.take_append_of_le_length (by rw [hcells];omega),zq (by rw [hcells];omega)]
theorem qmT {w:World} {t tn ty e:TypeId} {i:TypeInfo} {zv:Value} {z by_:Nat} {kq kn:IntKind} (ht:P.underlying t=some (.slice e)) (htn:P.underlying tn=some (.int kn)) (h1:P.info? e=some i) (h2:i.zero=some zv)
  (h3:i.size=z) (h4:i.bytes=by_) (h5:zv.cells.size=z) (h6:0 < z) (h7:0 < by_) (hzc:∀ v∈zv.cells.toList,v.oneCell'=true) (base:Nat) (v:Value) (n:Nat) (vs:List Value) (hown:w.ownsRow base e z v n vs) (hb:base≤w.heap.size) (k:Nat) (hlen:(n+k) * by_≤140737488355328) :
  ∃ v' w',(Builtin.append_ #[t,tn] ty #[v,.int kq (k:Nat)]).run P w=.ok v' w'∧w'.ownsRow base e z v' (n+k) (vs++(zM k zv.cells.toList).flatten)∧w.grownBy w' v.ownBlock∧(v'.ownBlock=v.ownBlock∨v'.ownBlock=some w.heap.size):=by
 subst h3
 subst h4
 have hm:n+k≤maxLen:=by
  have:n+k≤(n+k) * i.bytes:=Nat.le_mul_of_pos_right _ h7
  unfold maxLen
  omega
 have hsmall:n+k≤9223372036854775807:=by simp only [maxLen] at hm;omega
 have hw:IntKind.i64.wrap (k:Int)=k:=by rw [IntKind.wrap_i64];omega
 have hkb:k * i.bytes≤140737488355328:=by rw [ym] at hlen;omega
 have hzl:zv.cells.toList.length=i.size:=by simpa using h5
 have hnl:((zM k zv.cells.toList).flatten).length=k * i.size:=by
  clear hlen hm hsmall hw hkb
  induction k with
  |zero=>simp
  |succ m ih=>rw [List.replicate_succ,zI,zp,ih,hzl,ym];omega
 have h1c:∀ v∈(zM k zv.cells.toList).flatten,v.oneCell'=true:=by
  intro v hv
  obtain ⟨l,hl,hv⟩:=List.mem_flatten.1 hv
  rw [List.eq_of_mem_replicate hl] at hv
  exact hzc v hv
 have hzf:Builtin.zeroCells zv.cells k=((zM k zv.cells.toList).flatten).toArray:=by
  apply Array.ext'
  rw [qiE]
 generalize hnews:(zM k zv.cells.toList).flatten=news at *
 have hlen2:(vs++news).length=(n+k) * i.size:=by rw [zp,hown.1,hnl,ym]
 by_cases hk:k=0
 ·subst hk
  have hn0:news=[]:=zr (by simpa using hnl)
  subst hn0
  have hv:∃ base' cap,v=.slice base' n cap∧n≤cap:=by
   rcases hown.2 with ⟨q1,q2⟩|⟨g,cap,cur,q1,_,_,q2,_⟩
   ·exact ⟨none,0,by rw [q1,q2],by omega⟩
   ·exact ⟨_,cap,q1,q2⟩
  obtain ⟨base',cap,rfl,hc⟩:=hv
  refine ⟨_,w,?_,by simpa using hown,World.grownBy.refl w _,.inl rfl⟩
  have hw0:IntKind.i64.wrap 0=0:=by decide
  cases base'<;>simp [Builtin.append_,run_underlying ht,run_underlying htn,sizeOf,typeInfo,h1,asInt,asIntOf,hw0,hc,storeCells]
 have hneg:¬ ((k:Int) < 0):=by omega
 have h48i:¬ (281474976710656 < (k:Int) * (i.bytes:Int)):=by
  rw [← Int.natCast_mul]
  omega
 have hns:¬ (k * i.size=0):=Nat.mul_ne_zero hk (by omega)
 have grown:∀ (old:Nat),old < n+k→∀ (row:Option Nat),
   (w.drew.alloc (.cells (vs.toArray++Builtin.zeroCells zv.cells k++Builtin.zeroCells zv.cells (grownCap w (n+k) old e - (n+k))) e)).ownsRow base e i.size
    (.slice (some ⟨w.heap.size,0,none⟩) (n+k) (grownCap w (n+k) old e)) (n+k) (vs++news)∧
   w.grownBy (w.drew.alloc (.cells (vs.toArray++Builtin.zeroCells zv.cells k++Builtin.zeroCells zv.cells (grownCap w (n+k) old e - (n+k))) e)) row:=by
  intro old ho row
  rw [hzf]
  have hge:=grownCap_ge w (n+k) old e
  have hcm:grownCap w (n+k) old e≤maxLen:=grownCap_le_maxLen w (n+k) old e hm
  refine ⟨⟨hlen2,.inr ⟨w.heap.size,_,_,rfl,hb,heap_alloc_new w.drew _,hge,hcm,?_,?_⟩⟩,⟨rfl,rfl,rfl,by simp,fun k hk _=>heap_alloc_old w.drew _ hk⟩⟩
  ·simp only [Array.size_append,List.size_toArray,size_zeroCells,h5,hown.1,hnl,← ym]
   congr 1
   omega
  ·simp only [Array.toList_append,yh]
   rw [← yh,← hlen2]
   exact List.take_left
 rcases hown.2 with ⟨rfl,rfl⟩|⟨g,cap,cur,rfl,hbg,hg,hnc,hcm,hcs,htake⟩
 ·have hx:vs=[]:=zr (by simpa using hown.1)
  subst hx
  have hr:=Lib.run_append_nil_zeros (P:=P) w t tn ty e i zv kq kn ht htn h1 h2 k (by omega) (by omega) (by omega) (by omega)
  have hgr:=grown 0 (by omega) (Value.ownBlock (.slice none 0 0))
  simp only [Nat.zero_add,yg,Array.empty_append] at hgr ⊢
  exact ⟨_,_,hr,hgr.1,hgr.2,.inr rfl⟩
 ·by_cases hroom:n+k≤cap
  ·have hfit:n * i.size+news.length≤cur.size:=by rw [hnl,hcs,← ym];exact yy _ hroom
   have hst:=run_storeCells_at P g (n * i.size) e news 0 cur w hg (by simpa using hfit) h1c
   simp only [Nat.add_zero] at hst
   refine ⟨.slice (some ⟨g,0,none⟩) (n+k) cap,w.setRow g (cur.toList.take (n * i.size)++news++cur.toList.drop (n * i.size+news.length)).toArray,?_,⟨hlen2,.inr ⟨g,cap,_,rfl,hbg,setRow_heap w g cur _ e _ hg,hroom,hcm,?_,?_⟩⟩,⟨rfl,rfl,rfl,by simp,fun k hk=>fun hk2=>setRow_other w g k _ (fun e=>hk2 (by simp [Value.ownBlock,e]))⟩,.inl rfl⟩
   ·simp [Builtin.append_,run_underlying ht,run_underlying htn,sizeOf,typeInfo,zeroValue,h1,h2,asInt,asIntOf,hw,hneg,h48i,hns,hroom,hzf,Addr.add_lit,hst]
   ·simp only [List.size_toArray,zp,zJ,List.length_drop,Array.length_toList]
    omega
   ·rw [htake,← hlen2]
    exact List.take_left
  ·have holds:∀ j u,vs[j]?=some u→w.cell? ((⟨g,0,none⟩:Addr).add j)=some u:=hown.cells (g:=g) rfl
   have hf:=run_firstCells_some (P:=P) w.drew i.size n ⟨g,0,none⟩ n cap vs hown.1 (by simpa using holds)
   have hr:=Lib.run_append_grow_zeros (P:=P) w t tn ty e i zv kq kn ht htn h1 h2 (some ⟨g,0,none⟩) n cap vs hf k (by omega) (by omega) (by omega) (by omega) (by omega) (growslice_fits (by omega) hlen)
   have hgr:=grown cap (by omega) (Value.ownBlock (.slice (some ⟨g,0,none⟩) n cap))
   exact ⟨_,_,hr,hgr.1,hgr.2,.inr rfl⟩
theorem qwU {t tn e z by_ d j:Nat} {zero:List PV} {px py:Operand} {x' y':Opd} {kn:IntKind} (ho:o.op=.call { callee:=.builtin .append,args:=#[px,py],argTypes:=#[t,tn] }) (hd:o.dst=some d) (ht:P.underlying t=some (.slice e)) (htn:P.underlying tn=some (.int kn)) (hA:appB P e z by_=true) (hzr:qgM P e zero=true) (hx:qah px x'=true) (hy:qah py y'=true)
  {cx cy:Prop} {ky:IntKind} {n:Int} (ex:(rd fr x').un=(cx,.row (.l j))) (ey:(rd fr y').un=(cy,.p (.int ky n))) {es:List (List PV)} (hl:Zar L (.l j)=some (.row es e z true)) :
  Eff1 P o fr L (cx∧cy∧0≤n∧(es.length+n) * by_≤140737488355328) ((fr.map (·.kill (.l j))).set d (.row (.l j))) (Zau L (.l j) (.row (es++zM n.toNat (zero.map wk1)) e z true)):=by
 intro E B w ι a hs ⟨c1,c2,c3,c5⟩
 have hv:ARep w _ ι (.row (.l j)) (a.eval px):=rdP hs.2.1 hx ex c1
 have hvy:=PRep.int_eq (rdP hs.2.1 hy ey c2)
 obtain ⟨i,zv,h1,h2,h3,h4,h5,h6,h7⟩:=qht hA
 have hzo:qgY zv.cells.toList zero=true:=by
  unfold qgM at hzr
  rw [h1] at hzr
  simpa [h2] using hzr
 have hzrep:=qcO hzo
 obtain ⟨m,rfl⟩:=Int.eq_ofNat_of_zero_le c3
 rw [zZ]
 obtain ⟨vs,hrow,e4,e5,e6⟩:=hs.1.sim.obj _ _ hl
 have hown:=hrow.owns
 have hzc:∀ v∈zv.cells.toList,v.oneCell'=true:=(hzrep w (fun _=>False)).1.oneCells (hzrep w (fun _=>False)).2
 have hlen:(es.length+m) * by_≤140737488355328:=by
  have:(((es.length+m) * by_:Nat):Int)≤140737488355328:=by rw [Int.natCast_mul,Int.natCast_add];exact c5
  omega
 obtain ⟨v',w',r1,r2,r3,r4⟩:=qmT (P:=P) (ty:=o.type) (kq:=ky) ht htn h1 h2 h3 h4 h5 h6 h7 hzc 0 (ι (.l j)) es.length vs hown (Nat.zero_le _) m hlen
 have hzl:zv.cells.toList.length=z:=by simpa using h5
 have hrepl:∀ (m:Nat) (w:World) (U:Nat→Prop),PRepL w U (zM m (zero.map wk1)).flatten (zM m zv.cells.toList).flatten:=by
  intro m w U
  induction m with
  |zero=>simp [PRepL]
  |succ m ih=>rw [List.replicate_succ,List.replicate_succ,zI,zI];exact (hzrep w U).1.wk1.append ih
 have hzlen:(zero.map wk1).length=z:=by rw [zw,← (hzrep w (fun _=>False)).1.length];exact hzl
 have hG:Grow w w' (Old L ι (.l j)):=qb2 r3 (fun b hb=>⟨_,hl,by rw [qcK (b:=b) (qaD hown)];exact hb⟩)
 have hb:∀ b,blk v'=some b→w.heap.size≤b∨Old L ι (.l j) b:=by
  intro b hb
  rw [qcK (b:=b) (qaD r2)] at hb
  rcases r4 with r4|r4
  ·exact .inr ⟨_,hl,by rw [qcK (b:=b) (qaD hown),← r4];exact hb⟩
  ·rw [r4] at hb;cases hb;exact .inl (zD _)
 generalize hao:AO.row (es++zM m (zero.map wk1)) e z true=ao
 have hk:=qbH (X:=B.X) (ao:=ao) (fun b hb=>hs.1.x_lt hb) hG hb
 have hobj:ObjOk w' (fun b=>Own (Zau L (.l j) ao) (updI ι (.l j) v') b∨B.X b) (updI ι (.l j) v') (.l j) ao:=by
  subst hao
  refine ⟨vs++(zM m zv.cells.toList).flatten,?_,?_,?_,?_⟩
  ·have:=RowOk.of_owns r2
   rw [zp,List.length_replicate]
   simpa [updI] using this
  ·intro u hu
   simp only [zz] at hu
   rcases hu with hu|hu
   ·exact e4 u hu
   ·obtain ⟨l,hl2,hv2⟩:=List.mem_flatten.1 hu
    rw [List.eq_of_mem_replicate hl2] at hv2
    exact hzc u hv2
  ·rw [List.flatten_append];exact (PRepL.mono hk _ _ e5).append (hrepl m _ _)
  ·intro y hy
   simp only [zz] at hy
   rcases hy with hy|hy
   ·exact e6 y hy
   ·rw [List.eq_of_mem_replicate hy];exact hzlen
 have h1':=hs.upd j v' ao hG hb hobj
 refine ⟨v',.value v',w',_,?_,.inl rfl,h1'.1,?_,by rw [Act.put_defers'];exact h1'.2.2⟩
 ·rw [qbp _ _ _ a ho]
  simp only [builtin,Sem.run_bind,List.map_toArray,zx,yr,hv.1,hvy]
  rw [r1]
  rfl
 ·rw [hd]
  exact h1'.2.1.put d ⟨by simp [updI],qaD r2⟩
theorem qzw {t e:TypeId} {z d i:Nat} {x hi:Operand} {x' hi':Opd} (ho:o.op=.slice t x none (some hi) none) (hd:o.dst=some d) (ht:P.underlying t=some (.slice e)) (hz:qbU P e z=true) (hx:qah x x'=true) (hh:qah hi hi'=true)
  {cx ch:Prop} {k:IntKind} {n:Int} {es:List (List PV)} {et:TypeId} (ex:(rd fr x').un=(cx,.row (.l i))) (eh:(rd fr hi').un=(ch,.p (.int k n))) (hl:Zar L (.l i)=some (.row es et z true)) :
  Eff1 P o fr L (cx∧ch∧0≤n∧n≤es.length) ((fr.map (·.kill (.l i))).set d (.row (.l i))) (Zau L (.l i) (.row (es.take n.toNat) et z true)):=by
 intro E B w ι a hs ⟨c1,c2,c3,c4⟩
 have hv:ARep w _ ι (.row (.l i)) (a.eval x):=rdP hs.2.1 hx ex c1
 have rh:=PRep.int_eq (rdP hs.2.1 hh eh c2)
 obtain ⟨vs,hrow,e4,e5,e6⟩:=hs.1.sim.obj _ _ hl
 obtain ⟨m,rfl⟩:=Int.eq_ofNat_of_zero_le c3
 simp only [zZ] at *
 have hml:m≤es.length:=by omega
 have hfl:=qtc es m e6 hml
 have hlen:vs.length=es.length * z:=hrow.1
 have hmz:m * z≤es.length * z:=yy _ hml
 have hvs:(vs.take (m * z)).length=m * z:=by rw [zJ,hlen];omega
 obtain ⟨A,cp,hA,hcp,hrow'⟩:∃ A cp,ι (.l i)=.slice A es.length cp∧es.length≤cp∧RowOk w et z true (.slice A m cp) m (vs.take (m * z)):=by
  rcases hrow.2 with ⟨q1,q2⟩|⟨g,cap,cur,fz,q1,q2,q3,q4,q5,q6,q7⟩
  ·have hm0:m=0:=by omega
   subst hm0
   exact ⟨none,0,by rw [q1,q2],by omega,by simp,.inl ⟨rfl,rfl⟩⟩
  ·exact ⟨_,cap,q1,q3,hvs,.inr ⟨g,cap,cur,fz,rfl,q2,by omega,q4,q5,by rw [← q6,List.take_take,Nat.min_eq_left hmz],q7⟩⟩
 have hbk:blk (.slice A m cp)=blk (ι (.l i)):=by rw [hA];cases A<;>rfl
 have hG:Grow w w (Old L ι (.l i)):=Grow.refl _ _
 have hb:∀ b,blk (.slice A m cp)=some b→w.heap.size≤b∨Old L ι (.l i) b:=fun b hb=>.inr ⟨_,hl,by rw [← hbk];exact hb⟩
 have hk:=qbH (X:=B.X) (ao:=.row (es.take m) et z true) (fun b hb=>hs.1.x_lt hb) hG hb
 have hml':(es.take m).length=m:=by rw [zJ];omega
 have hobj:ObjOk w (fun b=>Own (Zau L (.l i) (.row (es.take m) et z true)) (updI ι (.l i) (.slice A m cp)) b∨B.X b) (updI ι (.l i) (.slice A m cp)) (.l i) (.row (es.take m) et z true):=by
  refine ⟨vs.take (m * z),by rw [hml'];simpa [updI] using hrow',fun u hu=>e4 u (yz hu),?_,fun y hy=>e6 y (yz hy)⟩
  rw [hfl]
  exact PRepL.mono hk _ _ (e5.take _)
 have h1:=hs.upd i (.slice A m cp) (.row (es.take m) et z true) hG hb hobj
 refine ⟨.slice A m cp,.value (.slice A m cp),w,_,?_,.inl rfl,h1.1,?_,by rw [Act.put_defers'];exact h1.2.2⟩
 ·have hmc:m≤cp:=by omega
  have:=hv.1
  rw [hA] at this
  simp [execOp,ho,this,rh,Instr.sliceAt,run_underlying ht,Instr.slice,Instr.sliceBounds,Instr.sliceBound,asIntOf,qaT hz,hmc]
  cases A<;>simp [Addr.add]
 ·rw [hd]
  exact h1.2.1.put d ⟨by simp [updI],_,_,_,rfl⟩
theorem qzC {t e:TypeId} {s d n:Nat} {parts:Array (Nat×Operand)} (ho:o.op=.buildSlice t n parts) (hd:o.dst=some d) (ht:P.underlying t=some (.slice e)) (hz:qbU P e 1=true) (hzr:((P.info? e).bind (·.zero)).isSome=true)
  (hn:parts.toList.length=n) (hk:qby 0 parts.toList [.t s]=true) {k:Key} (hrs:fr[s]?=some (.row k)) (hkd:k≠.l d):Eff1 P o fr L True ((fr.map (·.kill (.l d))).set d (.row (.l d))) (Zau L (.l d) (.rowv [[.row k]] e 1)):=by
 have hn1:n=1:=by
  rw [← hn]
  generalize parts.toList=pl at hk
  match pl,hk with
  |[p],_=>rfl
  |[],hk=>simp [qby] at hk
  |p :: q :: r,hk=>obtain ⟨i,x⟩:=p;obtain ⟨i2,x2⟩:=q;simp [qby] at hk
 subst hn1
 intro E B w ι a hs h1
 obtain ⟨v,hv1,hv2⟩:=hs.2.1.2 s _ hrs
 have hsl:s < fr.length:=(zk.1 hrs).1
 have hf':FRep w (fun b=>Own L ι b∨B.X b) ι (fr.set s (.p (.raw v))) a:=by
  refine ⟨by simp [hs.2.1.1],fun i x hx=>?_⟩
  rw [List.getElem?_set] at hx
  by_cases hi:s=i
  ·subst hi
   rw [if_pos rfl,if_pos hsl] at hx
   cases hx
   refine ⟨v,hv1,?_⟩
   obtain ⟨rfl,A,n,c,hc⟩:=hv2
   rw [hc]
   exact ⟨rfl,rfl⟩
  ·rw [if_neg hi] at hx
   exact hs.2.1.2 i x hx
 have hs':StF E B w L ι (fr.set s (.p (.raw v))) a:=⟨hs.1,hf',hs.2.2⟩
 have hb':Zan (fr.set s (.p (.raw v))) 1 [.t s]=some (True∧True,[[.raw v]]):=by
  have hr:rd (fr.set s (.p (.raw v))) (.t s)=.p (.raw v):=by simp [rd,zu,hsl]
  simp only [Zan,hr]
  rfl
 obtain ⟨us,g1,g2,g3,g4,g5⟩:=qmS hs' ho ht hz hzr hn (by omega) hk hb' ⟨trivial,trivial⟩
 have hus:us=[v]:=by
  simp only [zI,List.flatten_nil,z6,PRepL,PRep] at g2
  obtain ⟨v1,r1,rfl,⟨rfl,_⟩,rfl⟩:=g2
  rfl
 subst hus
 have hG:Grow w (w.alloc (.cells [v].toArray e)) (Old L ι (.l d)):=qcW _ _ _
 have hb:∀ b,blk (.slice (some ⟨w.heap.size,0,none⟩) 1 1)=some b→w.heap.size≤b∨Old L ι (.l d) b:=fun b e=>by simp only [blk,zh] at e;omega
 have hkk:=qbH (X:=B.X) (ao:=.rowv [[.row k]] e 1) (fun b hb=>hs.1.x_lt hb) hG hb
 refine qeK hd hs g1 (.slice (some ⟨w.heap.size,0,none⟩) 1 1) hG hb ⟨[v],⟨rfl,.inr ⟨w.heap.size,1,[v].toArray,(0,0),by simp [updI],heap_alloc_new w _,by simp,by unfold maxLen;omega,rfl,rfl,.inl rfl⟩⟩,g3,by simp,fun j x hx=>?_⟩ ⟨by simp [updI],_,_,_,rfl⟩
 have hj:j=0:=by
  rcases j with _|j
  ·rfl
  ·simp at hx
 subst hj
 simp at hx
 subst hx
 refine ⟨v,rfl,?_⟩
 obtain ⟨rfl,A,n,c,hc⟩:=hv2
 exact ⟨by simp [updI,hkd],A,n,c,by simpa [updI,hkd] using hc⟩
theorem qpM {U:Nat→Prop}:∀ vs:List Value,(∀ v∈vs,v.oneCell'=true)→PRepL w U (vs.map PV.raw) vs
 |[],_=>rfl
 |v :: r,h=>by
  simp only [zx,PRepL]
  exact ⟨v,r,rfl,⟨rfl,h v (by simp)⟩,qpM r fun x hx=>h x (by simp [hx])⟩
theorem qkh {U:Nat→Prop}:∀ {vs us:List Value},PRepL w U (vs.map PV.raw) us→us=vs
 |[],us,h=>h
 |v :: r,us,h=>by
  simp only [zx,PRepL] at h
  obtain ⟨v1,r1,rfl,⟨rfl,_⟩,h2⟩:=h
  rw [qkh h2]
theorem qmY:∀ vs:List Value,Zz (vs.map PV.raw)=true∧(vs.map PV.raw).map wk1=vs.map PV.raw
 |[]=>⟨rfl,rfl⟩
 |v :: r=>by
  obtain ⟨h1,h2⟩:=qmY r
  refine ⟨?_,by rw [zx,zx,h2];rfl⟩
  unfold Zz at *
  rw [zx,List.all_cons,h1]
  rfl
theorem qrt:∀ {l:List CV} {es:List PV},Zaz (l.map Zag)=some es→∀ c∈l,∃ p,c=.p p
 |[],_,_,c,hc=>by cases hc
 |x :: r,es,h,c,hc=>by
  rw [zx,Zaz] at h
  split at h
  ·rename_i y l' h1 h2
   rcases zC.1 hc with rfl|hc
   ·cases c with
    |p x=>exact ⟨x,rfl⟩
    |row k=>simp [Zag,Zay] at h1
    |mp k=>simp [Zag,Zay] at h1
   ·exact qrt h2 c hc
  ·cases h
theorem qzF {t e:TypeId} {s d n z:Nat} {parts:Array (Nat×Operand)} (ho:o.op=.buildSlice t n parts) (hd:o.dst=some d) (ht:P.underlying t=some (.slice e)) (hz:qbU P e z=true) (hzr:((P.info? e).bind (·.zero)).isSome=true)
  (hn:parts.toList.length=n) (hm:n * z≤16777216) (hk:qby 0 parts.toList [.t s]=true) {l:List CV} (hrs:fr[s]?=some (.ag l)) {es0:List PV} (hpl:Zaz (l.map Zag)=some es0) (hll:l.length=z):Eff1 P o fr L True ((fr.map (·.kill (.l d))).set d (.row (.l d))) (Zau L (.l d) (.rowv [l.map Zag] e z)):=by
 have hn1:n=1:=by
  rw [← hn]
  generalize parts.toList=pl at hk
  match pl,hk with
  |[p],_=>rfl
  |[],hk=>simp [qby] at hk
  |p :: q :: r,hk=>obtain ⟨i,x⟩:=p;obtain ⟨i2,x2⟩:=q;simp [qby] at hk
 subst hn1
 intro E B w ι a hs h1
 obtain ⟨v,hv1,hv2⟩:=hs.2.1.2 s _ hrs
 obtain ⟨vs,e1,hvl,hr⟩:∃ vs:List Value,v=.agg vs.toArray∧vs.length=l.length∧∀ (j:Nat) (x:CV),l[j]?=some x→∃ v,vs[j]?=some v∧v.oneCell'=true∧CRep w (fun b=>Own L ι b∨B.X b) ι x v:=hv2
 have hone:∀ u∈vs,u.oneCell'=true:=by
  intro u hu
  obtain ⟨j,hj⟩:=zQ hu
  have hjl:j < l.length:=by rw [← hvl];exact (zk.1 hj).1
  obtain ⟨u',hu',h2,_⟩:=hr j _ (zg hjl)
  rw [hu'] at hj
  cases hj
  exact h2
 have hsl:s < fr.length:=(zk.1 hrs).1
 have hf':FRep w (fun b=>Own L ι b∨B.X b) ι (fr.set s (.p (.agg (vs.map .raw)))) a:=by
  refine ⟨by simp [hs.2.1.1],fun i x hx=>?_⟩
  rw [List.getElem?_set] at hx
  by_cases hi:s=i
  ·subst hi
   rw [if_pos rfl,if_pos hsl] at hx
   cases hx
   refine ⟨v,hv1,?_⟩
   rw [e1]
   exact ⟨vs,rfl,qpM vs hone⟩
  ·rw [if_neg hi] at hx
   exact hs.2.1.2 i x hx
 have hs':StF E B w L ι (fr.set s (.p (.agg (vs.map .raw)))) a:=⟨hs.1,hf',hs.2.2⟩
 have hb':Zan (fr.set s (.p (.agg (vs.map .raw)))) z [.t s]=some (True∧True,[vs.map .raw]):=by
  have hr:rd (fr.set s (.p (.agg (vs.map .raw)))) (.t s)=.p (.agg (vs.map .raw)):=by simp [rd,zu,hsl]
  have hr2:(rd (fr.set s (.p (.agg (vs.map .raw)))) (.t s)).un=(True,.p (.agg (vs.map .raw))):=by rw [hr];rfl
  simp only [Zan,hr2]
  rw [if_pos ⟨by simp only [Zy,zw];omega,(qmY vs).1⟩]
  simp only [Zy,(qmY vs).2,zN]
 obtain ⟨us,g1,g2,g3,g4,g5⟩:=qmS hs' ho ht hz hzr hn hm hk hb' ⟨trivial,trivial⟩
 have hus:us=vs:=by
  rw [zI,List.flatten_nil,z6] at g2
  exact qkh g2
 subst hus
 have hG:Grow w (w.alloc (.cells us.toArray e)) (Old L ι (.l d)):=qcW _ _ _
 have hb:∀ b,blk (.slice (some ⟨w.heap.size,0,none⟩) 1 1)=some b→w.heap.size≤b∨Old L ι (.l d) b:=fun b e=>by simp only [blk,zh] at e;omega
 have hkk:=qbH (X:=B.X) (ao:=.rowv [l.map Zag] e z) (fun b hb=>hs.1.x_lt hb) hG hb
 have hul:us.length=1 * z:=by omega
 refine qeK hd hs g1 (.slice (some ⟨w.heap.size,0,none⟩) 1 1) hG hb ⟨us,⟨by rw [hul];rfl,.inr ⟨w.heap.size,1,us.toArray,(0,0),by simp [updI],heap_alloc_new w _,by simp,by unfold maxLen;omega,by simpa using hul,by simp [hul,zq (show us.length≤z by omega)],.inl rfl⟩⟩,g3,by simpa using hll,fun j x hx=>?_⟩ ⟨by simp [updI],_,_,_,rfl⟩
 rw [zI,List.flatten_nil,z6,zt,zi] at hx
 obtain ⟨y,hy,rfl⟩:=hx
 obtain ⟨u,hu,_,hc⟩:=hr j y hy
 obtain ⟨p,rfl⟩:=qrt hpl y (zm hy)
 exact ⟨u,hu,PRep.mono hkk _ _ hc⟩
theorem qv3 {a:Act} {t e:TypeId} {parts:Array (Nat×Operand)} {px:Operand} {v:Value} (ho:o.op=.buildSlice t 1 parts) (ht:P.underlying t=some (.slice e)) (hz:qbU P e 1=true) (hzr:((P.info? e).bind (·.zero)).isSome=true)
  (hp:parts.toList=[(0,px)]) (hv:a.eval px=v) (hcell:v.cells.toList=[v]) :
  (execOp a.eval o).run P w=.ok (.value (.slice (some ⟨w.heap.size,0,none⟩) 1 1)) (w.alloc (.cells #[v] e)):=by
 obtain ⟨zv,hzv⟩:=zT.1 hzr
 obtain ⟨i,hi1,hi2⟩:=Option.bind_eq_some_iff.1 hzv
 have hrz:(zeroValue e).run P w=.ok zv w:=by simp [zeroValue,typeInfo,hi1,hi2]
 have g1:Instr.fill (fun i=>some (i * 1,1)) ((Array.range (1 * 1)).map (zv.cells[· % zv.cells.size]!)) (parts.toList.map fun x=>(x.1,a.eval x.2))=some #[v]:=by
  rw [hp]
  simp only [zx,yr,hv]
  have hq:=qfG (fun i=>some (i * 1,1)) ((Array.range (1 * 1)).map (zv.cells[· % zv.cells.size]!)).toList 0 (0 * 1) 1 v [] rfl (by rw [← Array.length_toList,hcell];rfl) (by simp)
  rw [Array.toArray_toList] at hq
  rw [hq]
  have hl:((Array.range (1 * 1)).map (zv.cells[· % zv.cells.size]!)).toList.length=1:=by simp
  have:=qk4 [v] [] ((Array.range (1 * 1)).map (zv.cells[· % zv.cells.size]!)).toList (by rw [hl];exact zD _)
  rw [hcell]
  simp only [yg,List.length_nil] at this
  rw [show 0 * 1=0 from rfl,this]
  have hd:((Array.range (1 * 1)).map (zv.cells[· % zv.cells.size]!)).toList.drop [v].length=[]:=List.drop_of_length_le (by rw [hl];exact zD _)
  rw [hd]
  rfl
 have e3:(Array.map (fun x:Nat×Operand=>(x.1,a.eval x.2)) parts).toList=parts.toList.map fun x=>(x.1,a.eval x.2):=by simp
 simp only [execOp,ho,Instr.buildSlice,Sem.run_bind,run_underlying ht,Result.andThen_ok,qaT hz,Sem.run_ite]
 rw [if_neg (by omega)]
 simp only [Sem.run_pure,Result.andThen_ok,if_neg (show ¬ 1 * 1=0 by decide),hrz]
 rw [e3]
 simp only [g1]
 simp [newRow,newObj]
 rfl
theorem qzE {t e:TypeId} {d n z0:Nat} {parts:Array (Nat×Operand)} (ho:o.op=.buildSlice t n parts) (hd:o.dst=some d) (ht:P.underlying t=some (.slice e)) (hz:qbU P e 1=true) (hzr:((P.info? e).bind (·.zero)).isSome=true)
  (hn:parts.toList.length=n) (hk:qby 0 parts.toList [.c (.nl z0)]=true):Eff1 P o fr L True ((fr.map (·.kill (.l d))).set d (.row (.l d))) (Zau L (.l d) (.rowv [[.p (.nl z0)]] e 1)):=by
 obtain ⟨px,hp,hpx⟩:∃ px,parts.toList=[(0,px)]∧qah px (.c (.nl z0))=true:=by
  generalize parts.toList=pl at hk
  match pl,hk with
  |[],hk=>simp [qby] at hk
  |[p],hk=>
   obtain ⟨i,x⟩:=p
   simp only [qby,zj,beq_iff_eq] at hk
   exact ⟨x,by rw [hk.1.1],hk.1.2⟩
  |p :: q :: r,hk=>obtain ⟨i,x⟩:=p;obtain ⟨i2,x2⟩:=q;simp [qby] at hk
 have hn1:n=1:=by rw [← hn,hp];rfl
 subst hn1
 intro E B w ι a hs h1
 have hv:a.eval px=.slice none 0 0:=rdP (c:=True) hs.2.1 hpx rfl trivial
 have g1:=qv3 (w:=w) ho ht hz hzr hp hv rfl
 have hG:Grow w (w.alloc (.cells #[.slice none 0 0] e)) (Old L ι (.l d)):=qcW _ _ _
 have hb:∀ b,blk (.slice (some ⟨w.heap.size,0,none⟩) 1 1)=some b→w.heap.size≤b∨Old L ι (.l d) b:=fun b e=>by simp only [blk,zh] at e;omega
 refine qeK hd hs g1 (.slice (some ⟨w.heap.size,0,none⟩) 1 1) hG hb ⟨[.slice none 0 0],⟨rfl,.inr ⟨w.heap.size,1,#[.slice none 0 0],(0,0),by simp [updI],heap_alloc_new w _,by simp,by unfold maxLen;omega,rfl,rfl,.inl rfl⟩⟩,by intro u hu;rw [List.mem_singleton] at hu;subst hu;rfl,by simp,fun j x hx=>?_⟩ ⟨by simp [updI],_,_,_,rfl⟩
 have hj:j=0:=by
  rcases j with _|j
  ·rfl
  ·simp at hx
 subst hj
 simp at hx
 subst hx
 exact ⟨.slice none 0 0,rfl,rfl⟩
theorem qv4 {w:World} {t e e2 z by_:Nat} {ty:TypeId} {ap:Bool} (ht:P.underlying t=some (.slice e)) (hA:appB P e z by_=true) (base:Nat) (v:Value) (n:Nat) (vs:List Value) (hown:w.ownsRow base e z v n vs) (hb:base≤w.heap.size)
  {u:Value} {m:Nat} {news:List Value} (hu:RowOk w e2 z ap u m news) (g2:∀ u∈news,u.oneCell'=true) (hlen:(n+m) * by_≤140737488355328) :
  ∃ v' w',(Builtin.append_ #[t,t] ty #[v,u]).run P w=.ok v' w'∧w'.ownsRow base e z v' (n+m) (vs++news)∧w.grownBy w' v.ownBlock∧(v'.ownBlock=v.ownBlock∨v'.ownBlock=some w.heap.size):=by
 obtain ⟨i,zv,h1,h2,h3,h4,h5,h6,h7⟩:=qht hA
 have hm:n+m≤maxLen:=by
  have:n+m≤(n+m) * by_:=Nat.le_mul_of_pos_right _ h7
  unfold maxLen
  omega
 have hcell:=fun g mm c hv=>RowOk.cells hu (g:=g) (m:=mm) (c:=c) hv
 obtain ⟨hl,hu2⟩:=hu
 rcases hu2 with ⟨rfl,rfl⟩|⟨g,cap,cur,fz,rfl,_⟩
 ·have hnews:news=[]:=zr (by simpa using hl)
  subst hnews
  have hv:∃ base' cap,v=.slice base' n cap∧n≤cap:=by
   rcases hown.2 with ⟨q1,q2⟩|⟨g,cap,cur,q1,_,_,q2,_⟩
   ·exact ⟨none,0,by rw [q1,q2],by omega⟩
   ·exact ⟨_,cap,q1,q2⟩
  obtain ⟨base',cap,rfl,hc⟩:=hv
  exact ⟨_,w,qgq ht h1 _ _ _ _ _ hc,by simpa using hown,World.grownBy.refl w _,.inl rfl⟩
 ·have g5:∀ (j:Nat) (u:Value),news[j]?=some u→w.cell? ((⟨g,0,none⟩:Addr).add j)=some u:=by
   intro j u hj
   rw [show ({ block:=g,off:=0 }:Addr).add j=⟨g,j,none⟩ from by cases j<;>simp [Addr.add]]
   exact hcell g m cap rfl j u hj
  obtain ⟨v',w',r1,r2,r3,_,r5⟩:=run_append_own_at (P:=P) w base t ty e i zv z by_ ht h1 h2 h3 h4 h5 h6 v n vs hown ⟨g,0,none⟩ m cap news hl g5 g2 hm hlen hb
  exact ⟨v',w',r1,r2,r3,r5⟩
theorem quR {t e e2 z by_:Nat} {px py:Operand} {x' y':Opd} {d i:Nat} {j:Key} (ho:o.op=.call { callee:=.builtin .append,args:=#[px,py],argTypes:=#[t,t] }) (hd:o.dst=some d) (ht:P.underlying t=some (.slice e)) (hA:appB P e z by_=true) (hx:qah px x'=true) (hy:qah py y'=true)
  {cx cy:Prop} (ex:(rd fr x').un=(cx,.row (.l i))) (ey:(rd fr y').un=(cy,.row j)) {es es2:List (List AV)} (hl:Zar L (.l i)=some (.rowv es e z)) (hl2:Zar L j=some (.rowv es2 e2 z)) :
  Eff1 P o fr L (cx∧cy∧(es.length+es2.length) * by_≤140737488355328) ((fr.map (·.kill (.l i))).set d (.row (.l i))) (Zau L (.l i) (.rowv (es.map (·.map (·.kill (.l i)))++es2.map (·.map (·.kill (.l i)))) e z)):=by
 intro E B w ι a hs ⟨c1,c2,c3⟩
 have hv:ARep w _ ι (.row (.l i)) (a.eval px):=rdP hs.2.1 hx ex c1
 have hu:ARep w _ ι (.row j) (a.eval py):=rdP hs.2.1 hy ey c2
 obtain ⟨vs,hrow,e4,e6,e5⟩:=hs.1.sim.obj _ _ hl
 obtain ⟨news,hrow2,r6,r7,r5⟩:=hs.1.sim.obj _ _ hl2
 have hown:=hrow.owns
 obtain ⟨v',w',r1,r2,r3,r4⟩:=qv4 (ty:=o.type) ht hA 0 (ι (.l i)) es.length vs hown (Nat.zero_le _) hrow2 r6 c3
 have hG:Grow w w' (Old L ι (.l i)):=qb2 r3 (fun b hb=>⟨_,hl,by rw [qcK (b:=b) (qaD hown)];exact hb⟩)
 have hb:∀ b,blk v'=some b→w.heap.size≤b∨Old L ι (.l i) b:=by
  intro b hb
  rw [qcK (b:=b) (qaD r2)] at hb
  rcases r4 with r4|r4
  ·exact .inr ⟨_,hl,by rw [qcK (b:=b) (qaD hown),← r4];exact hb⟩
  ·rw [r4] at hb;cases hb;exact .inl (zD _)
 generalize hao:AO.rowv (es.map (·.map (·.kill (.l i)))++es2.map (·.map (·.kill (.l i)))) e z=ao
 have hk:=qbH (X:=B.X) (ao:=ao) (fun b hb=>hs.1.x_lt hb) hG hb
 have hvl:vs.length=es.flatten.length:=by rw [qjc es e6];exact hrow.1
 have hobj:ObjOk w' (fun b=>Own (Zau L (.l i) ao) (updI ι (.l i) v') b∨B.X b) (updI ι (.l i) v') (.l i) ao:=by
  subst hao
  refine ⟨vs++news,by simpa [updI] using RowOk.of_owns r2,?_,?_,fun j x hx=>?_⟩
  ·intro u hu;simp only [zz] at hu;exact hu.elim (e4 u) (r6 u)
  ·intro y hy
   simp only [zz] at hy
   rcases hy with hy|hy
   ·obtain ⟨y0,h0,rfl⟩:=zG.1 hy;simpa using e6 y0 h0
   ·obtain ⟨y0,h0,rfl⟩:=zG.1 hy;simpa using r7 y0 h0
  ·rw [List.flatten_append,← List.map_flatten,← List.map_flatten,List.getElem?_append] at hx
   rw [zw] at hx
   split at hx
   ·rename_i hj
    rw [zt,zi] at hx
    obtain ⟨y,hy,rfl⟩:=hx
    obtain ⟨u,hu,hr⟩:=e5 j y hy
    refine ⟨u,by rw [List.getElem?_append_left (by omega)];exact hu,?_⟩
    exact (hr.kill (k:=.l i) (v:=v')).mono hk
   ·rename_i hj
    rw [zt,zi] at hx
    obtain ⟨y,hy,rfl⟩:=hx
    obtain ⟨u,hu,hr⟩:=r5 _ y hy
    refine ⟨u,by rw [z8 (by omega),hvl];exact hu,?_⟩
    exact (hr.kill (k:=.l i) (v:=v')).mono hk
 have h1:=hs.upd i v' ao hG hb hobj
 refine ⟨v',.value v',w',_,?_,.inl rfl,h1.1,?_,by rw [Act.put_defers'];exact h1.2.2⟩
 ·rw [qbp _ _ _ a ho]
  simp only [builtin,Sem.run_bind,List.map_toArray,zx,yr,hv.1,hu.1]
  rw [r1]
  rfl
 ·rw [hd]
  exact h1.2.1.put d ⟨by simp [updI],qaD r2⟩
end
section
variable {P:Program} {L:Objs} {fr:List AV} {o:Oper} {w:World} {U:Nat→Prop} {ι:Key→Value}
theorem qui (a b:List UInt8):((⟨a.toArray⟩:ByteArray) == ⟨b.toArray⟩)=decide (b=a):=by
 rw [Bool.eq_iff_iff,MapKept.bytes_beq,decide_eq_true_iff]
 constructor
 ·intro h
  have:a.toArray=b.toArray:=congrArg ByteArray.data h
  have:a=b:=by simpa using congrArg Array.toList this
  exact this.symm
 ·rintro rfl;rfl
theorem qnF {α:Type} (s:List UInt8) (v:α):∀ (kv:List (List UInt8×α)) (ents:List MapEntry) (i:Nat),(ents.map (·.key)=kv.map fun p=>.string ⟨p.1.toArray⟩)→
  (mpF kv s=none∧Instr.findNow .string (.string ⟨s.toArray⟩) ents i=some none∧mpS kv s v=kv++[(s,v)]∧mpX kv s=kv∧∀ e∈ents,e.key≠.string ⟨s.toArray⟩)∨
  ∃ j e x,mpF kv s=some x∧Instr.findNow .string (.string ⟨s.toArray⟩) ents i=some (some (i+j,e.val))∧ents[j]?=some e∧kv[j]?=some (s,x)∧e.key=.string ⟨s.toArray⟩∧mpS kv s v=kv.set j (s,v)∧mpX kv s=kv.eraseIdx j
 |[],ents,i,h=>by
  have:ents=[]:=by simpa using h
  subst this
  exact .inl ⟨rfl,rfl,rfl,rfl,by simp⟩
 |p :: r,[],i,h=>by simp at h
 |p :: r,e :: es,i,h=>by
  simp only [zx,List.cons.injEq] at h
  obtain ⟨h1,h2⟩:=h
  have hs:Instr.sameNow .string (.string ⟨s.toArray⟩) e.key=some (decide (p.1=s)):=by rw [h1];simp only [Instr.sameNow,qui]
  by_cases hp:p.1=s
  ·refine .inr ⟨0,e,p.2,by simp [mpF,hp],?_,rfl,by simp [← hp],by rw [h1,hp],by simp [mpS,hp],by simp [mpX,hp]⟩
   simp [Instr.findNow,hs,hp]
  ·have hf:Instr.findNow .string (.string ⟨s.toArray⟩) (e :: es) i=Instr.findNow .string (.string ⟨s.toArray⟩) es (i+1):=by simp [Instr.findNow,hs,hp]
   rcases qnF s v r es (i+1) h2 with ⟨g1,g2,g3,g4,g5⟩|⟨j,e',x,g1,g2,g3,g4,g5,g6,g7⟩
   ·refine .inl ⟨by simp [mpF,hp,g1],by rw [hf,g2],by simp [mpS,hp,g3],by simp [mpX,hp,g4],fun q hq=>?_⟩
    rcases zC.1 hq with rfl|hq
    ·rw [h1];intro e';apply hp;simpa using e'
    ·exact g5 q hq
   ·exact .inr ⟨j+1,e',x,by simp [mpF,hp,g1],by rw [hf,g2,show i+1+j=i+(j+1) from by omega],by simpa using g3,by simpa using g4,g5,by simp [mpS,hp,g6],by simp [mpX,hp,g7]⟩
theorem qkH {kt:TypeId} (hk:P.underlying kt=some .string) {x:Value} {ents:List MapEntry} {r:Option (Nat×Value)} (h:Instr.findNow .string x ents 0=some r):(Instr.findKey kt x ents).run P w=.ok r w:=by
 simp [Instr.findKey,run_underlying hk,h]
theorem qiQ {kt:TypeId} (hk:P.underlying kt=some .string) (s:ByteArray) (e:Bool):(Instr.checkKey e 10000 kt (.string s)).run P w=.ok () w:=
 MapKept.run_checkKey hk (by simp [MapKept.IsKey]) e 9999
def qrB (v:Value) (x:PV):Bool:=qwn v x || match v,x with
 |.agg vs,.agg cs=>qgY vs.toList cs
 |_,_=>false
theorem qjE {v:Value} {x:PV} (h:qrB v x=true) (w:World) (U:Nat→Prop):PRep w U x v:=by
 unfold qrB at h
 rcases Bool.or_eq_true_iff.1 h with h|h
 ·exact (qoJ h w U).1
 ·split at h
  ·exact ⟨_,by simp,(qcO h w U).1⟩
  ·cases h
def qq1 (P:Program) (t:TypeId) (z:PV):Bool:=
 match (P.info? t).bind (·.zero) with
 |some v=>qrB v z
 |none=>false
theorem qk6 {t:TypeId} {z:PV} (h:qq1 P t z=true) (w:World):∃ v,(zeroValue t).run P w=.ok v w∧qrB v z=true:=by
 unfold qq1 at h
 split at h
 ·rename_i z hz
  obtain ⟨i,h1,h2⟩:=Option.bind_eq_some_iff.1 hz
  exact ⟨z,by simp [zeroValue,typeInfo,h1,h2],h⟩
 ·cases h
theorem qjH {a:Act} {t kt et:TypeId} {m x:Operand} {ok:Bool} (ho:o.op=.lookup t m x ok) (ht:P.underlying t=some (.map kt et)) (hk:P.underlying kt=some .string) {s:List UInt8} (rx:a.eval x=.string ⟨s.toArray⟩) {b:Nat} (rm:a.eval m=.map (some b)) {ents:Array MapEntry} {cl:Nat} (e2:w.heap[b]?=some (.map ents cl))
  {α:Type} {kv:List (List UInt8×α)} (e3:ents.toList.map (·.key)=kv.map fun p=>.string ⟨p.1.toArray⟩) (R:α→Value→Prop) (hR:∀ (j:Nat) (p:List UInt8×α),kv[j]?=some p→∃ e,ents.toList[j]?=some e∧R p.2 e.val) {z:α} {zv:Value} (hz:(zeroValue et).run P w=.ok zv w) (hzr:R z zv) :
  ∃ v,(execOp a.eval o).run P w=.ok (.value (if ok then .tuple #[v,.bool (mpF kv s).isSome] else v)) w∧R ((mpF kv s).getD z) v:=by
 rcases qnF s z kv ents.toList 0 e3 with ⟨g1,g2,_⟩|⟨j,e,y,g1,g2,g3,g4,_,_⟩
 ·refine ⟨zv,?_,by rw [g1];exact hzr⟩
  simp [execOp,ho,rm,rx,Instr.lookup,run_underlying ht,MapKept.run_getObj_map e2,qiQ hk,qkH hk g2,hz,g1]
 ·obtain ⟨e',he',hr⟩:=hR j _ g4
  rw [g3] at he'
  cases he'
  refine ⟨e.val,?_,by rw [g1];exact hr⟩
  simp [execOp,ho,rm,rx,Instr.lookup,run_underlying ht,MapKept.run_getObj_map e2,qiQ hk,qkH hk g2,g1]
theorem MapRep.get {kv:List (List UInt8×PV)} {ents:List MapEntry} (h:MapRep w U kv ents):∀ (j:Nat) (p:List UInt8×PV),kv[j]?=some p→∃ e,ents[j]?=some e∧PRep w U p.2 e.val:=by
 intro j p hp
 obtain ⟨u,hu,hr⟩:=h.2.get (j:=j) (x:=p.2) (by rw [zt,hp];rfl)
 rw [zt,zi] at hu
 obtain ⟨e,he,rfl⟩:=hu
 exact ⟨e,he,hr⟩
theorem qzi {ks:List (List UInt8)} {vs:List PV} {ents:Array MapEntry} {cl:Nat} (h:qBA ks ents cl) (hv:PRepL w U vs (ents.toList.map (·.val))):MapRep w U (ks.zip vs) ents.toList:=by
 have h1:ents.toList.length=ks.length:=by have:=congrArg List.length h.1;simpa using this
 have h2:ents.toList.length=vs.length:=by have:=hv.length;simpa using this
 refine ⟨?_,by rw [List.map_snd_zip (by omega)];exact hv⟩
 have:((ks.zip vs).map fun p=>(Value.string ⟨p.1.toArray⟩))=((ks.zip vs).map (·.1)).map fun s=>Value.string ⟨s.toArray⟩:=by rw [ya];rfl
 rw [this,List.map_fst_zip (by omega)]
 exact h.1
theorem qt2 {ok:Bool} {x:PV} {v:Value} {b:Bool} (h:PRep w U x v):PRep w U (if ok then .tup [x,.bool b] else x) (if ok then .tuple #[v,.bool b] else v):=by
 cases ok
 ·exact h
 ·exact ⟨[v,.bool b],rfl,v,_,rfl,h,_,_,rfl,rfl,rfl⟩
theorem qyu {t kt et:TypeId} {m x:Operand} {ok:Bool} {zero:PV} {m' x':Opd} (ho:o.op=.lookup t m x ok) (ht:P.underlying t=some (.map kt et)) (hk:P.underlying kt=some .string) (hz:qq1 P et zero=true) (hm:qah m m'=true) (hx:qah x x'=true) {c:Prop} {r:AV}
  (h:Ze fr L (.mpl ok zero m' x')=some (c,r)):Val1 P o fr L c r:=by
 simp only [Ze] at h
 split at h
 ·rename_i cm q cx s em ex
  split at h
  ·rename_i kv kt0 et0 hl
   simp only [zh,zl] at h
   obtain ⟨rfl,rfl⟩:=h
   refine Val1.same fun E B w ι a hs ⟨h1,h2⟩=>?_
   obtain ⟨rm,_⟩:a.eval m=ι q∧_:=rdP hs.2.1 hm em h1
   have rx:=PRep.str_eq (rdP hs.2.1 hx ex h2)
   obtain ⟨b,ents,cl,e1,e2,e3,_⟩:=hs.1.sim.obj _ _ hl
   rw [e1] at rm
   obtain ⟨zv,hz1,hz2⟩:=qk6 hz w
   have hzr:=qjE hz2 w (fun b=>Own L ι b∨B.X b)
   obtain ⟨v,k1,k2⟩:=qjH ho ht hk rx rm e2 e3.1 (PRep w (fun b=>Own L ι b∨B.X b)) e3.get hz1 hzr
   exact ⟨_,k1,qt2 k2⟩
  ·rename_i kv kt0 et0 hl
   split at h
   ·rename_i hok
    subst hok
    simp only [zh,zl] at h
    obtain ⟨rfl,rfl⟩:=h
    refine Val1.same fun E B w ι a hs ⟨h1,h2⟩=>?_
    obtain ⟨rm,_⟩:a.eval m=ι q∧_:=rdP hs.2.1 hm em h1
    have rx:=PRep.str_eq (rdP hs.2.1 hx ex h2)
    obtain ⟨b,ents,cl,e1,e2,e3,_,e5⟩:=hs.1.sim.obj _ _ hl
    rw [e1] at rm
    obtain ⟨zv,hz1,hz2⟩:=qk6 hz w
    have hzr:=qjE hz2 w (fun b=>Own L ι b∨B.X b)
    obtain ⟨v,k1,k2⟩:=qjH ho ht hk rx rm e2 e3 (ARep w (fun b=>Own L ι b∨B.X b) ι) e5 (z:=.p zero) hz1 hzr
    exact ⟨_,k1,k2⟩
   ·cases h
  ·cases h
 ·rename_i cm ks vs cx s em ex
  simp only [zh,zl] at h
  obtain ⟨rfl,rfl⟩:=h
  refine Val1.same fun E B w ι a hs ⟨h1,h2⟩=>?_
  obtain ⟨b,rm,_,_,ents,cl,e2,e3,e4⟩:PRep w (fun b=>Own L ι b∨B.X b) (.mpv ks vs) (a.eval m):=rdP hs.2.1 hm em h1
  have rx:=PRep.str_eq (rdP hs.2.1 hx ex h2)
  obtain ⟨zv,hz1,hz2⟩:=qk6 hz w
  have hzr:=qjE hz2 w (fun b=>Own L ι b∨B.X b)
  have hr:=qzi e3 e4
  obtain ⟨v,k1,k2⟩:=qjH ho ht hk rx rm e2 hr.1 (PRep w (fun b=>Own L ι b∨B.X b)) hr.get hz1 hzr
  exact ⟨_,k1,qt2 k2⟩
 ·cases h
theorem qzB {t:TypeId} {d:Nat} {kt et:TypeId} (ho:o.op=.makeMap t none) (hd:o.dst=some d):Eff1 P o fr L True ((fr.map (·.kill (.l d))).set d (.mp (.l d))) (Zau L (.l d) (.map [] kt et)):=by
 intro E B w ι a hs _
 refine qeK hd hs (v:=.map (some w.heap.size)) (w':=w.alloc (.map #[] 0)) ?_ (.map (some w.heap.size)) (qcW _ _ _) (fun b e=>by simp only [blk,zh] at e;omega) ⟨w.heap.size,#[],0,by simp [updI],heap_alloc_new w _,⟨by simp,by simp [PRepL]⟩,MapKept.stamped_empty 0⟩ ?_
 ·simp [execOp,ho,Instr.makeMap,newObj]
  rfl
 ·simp [ARep,updI]
theorem qo3 {b:Nat} {ob:Obj} {q:Key} {ao:AO} (hl:Zar L q=some ao) (hb:blk (ι q)=some b):Grow w { w with heap:=w.heap.setIfInBounds b ob } (Old L ι q):=by
 refine ⟨rfl,rfl,rfl,by simp,fun c hc hn=>?_⟩
 have hne:b≠c:=fun e=>hn ⟨_,hl,by rw [← e];exact hb⟩
 simp [Array.getElem?_setIfInBounds_ne hne]
theorem qtV {q:Key} {ao ao':AO} (hl:Zar L q=some ao):∀ c,Own (Zas L q ao') ι c→Own L ι c:=by
 rintro c ⟨j,x,k1,k2⟩
 rw [qad] at k1
 by_cases e:j=q
 ·subst e;exact ⟨j,_,hl,k2⟩
 ·rw [if_neg e] at k1;exact ⟨j,x,k1,k2⟩
theorem qmi {ents:Array MapEntry} {j:Nat} {e:MapEntry} (hj:ents[j]?=some e) (k v:Value):(ents.modify j (fun e'=>{ e' with key:=k,val:=v })).toList=ents.toList.set j { e with key:=k,val:=v }:=by
 have hjl:j < ents.toList.length:=by simpa using (zH.1 hj).1
 rw [Array.toList_modify]
 apply List.ext_getElem?
 intro i
 rw [List.getElem?_modify,List.getElem?_set]
 by_cases hi:j=i
 ·subst hi
  simp [hj,hjl]
  exact (zH.1 hj).1
 ·simp [hi]
theorem qt5 {a:Act} {t kt et:TypeId} {m x v:Operand} (ho:o.op=.mapUpdate t m x v∨o.op=.insert t m x v) (ht:P.underlying t=some (.map kt et)) (hk:P.underlying kt=some .string) {s:List UInt8} (rx:a.eval x=.string ⟨s.toArray⟩) {b:Nat} (rm:a.eval m=.map (some b)) {ents:Array MapEntry} {cl:Nat} (e2:w.heap[b]?=some (.map ents cl)) (hst:MapKept.Stamped ents cl)
  {α:Type} {kv:List (List UInt8×α)} (e3:ents.toList.map (·.key)=kv.map fun p=>.string ⟨p.1.toArray⟩) (R:α→Value→Prop) (hR:∀ (j:Nat) (p:List UInt8×α),kv[j]?=some p→∃ e,ents.toList[j]?=some e∧R p.2 e.val) {y:α} (hy:R y (a.eval v)) :
  ∃ ents' cl',(execOp a.eval o).run P w=.ok .skip { w with heap:=w.heap.setIfInBounds b (.map ents' cl') }∧MapKept.Stamped ents' cl'∧(ents'.toList.map (·.key)=(mpS kv s y).map fun p=>.string ⟨p.1.toArray⟩)∧∀ (j:Nat) (p:List UInt8×α),(mpS kv s y)[j]?=some p→∃ e,ents'.toList[j]?=some e∧R p.2 e.val:=by
 have hlen:ents.toList.length=kv.length:=by have:=congrArg List.length e3;simpa using this
 rcases qnF s y kv ents.toList 0 e3 with ⟨g1,g2,g3,_,g5⟩|⟨j,e,y0,g1,g2,g3,g4,g5,g6,_⟩
 ·refine ⟨ents.push ⟨.string ⟨s.toArray⟩,a.eval v,cl⟩,cl+1,?_,MapKept.stamped_push hst (fun x hx=>g5 x hx),?_,?_⟩
  ·rcases ho with ho|ho<;>simp [execOp,ho,rm,rx,Instr.mapUpdate,run_underlying ht,MapKept.run_getObj_map e2,qiQ hk,qkH hk g2,MapKept.run_setObj_map _ e2]
  ·rw [g3];simp [e3]
  ·rw [g3]
   intro j p hp
   rw [Array.toList_push]
   rw [List.getElem?_append] at hp
   split at hp
   ·obtain ⟨e,he,hr⟩:=hR j p hp
    exact ⟨e,by rw [List.getElem?_append_left (by omega)];exact he,hr⟩
   ·rename_i hj
    have hz:j - kv.length=0:=by
     rcases Nat.eq_zero_or_pos (j - kv.length) with h|h
     ·exact h
     ·rw [zO (by simp;omega)] at hp;cases hp
    rw [hz] at hp
    simp at hp
    subst hp
    refine ⟨_,by rw [z8 (by omega),hlen,hz];rfl,hy⟩
 ·have hj:ents[j]?=some e:=by simpa using g3
  have hjl:j < ents.toList.length:=(zk.1 g3).1
  refine ⟨ents.modify j (fun e'=>{ e' with key:=.string ⟨s.toArray⟩,val:=a.eval v }),cl,?_,MapKept.stamped_modify hst _ _ (fun _ _=>rfl) (fun e' _ he'=>by rw [hj] at he';cases he';exact g5.symm),?_,?_⟩
  ·have hst:(Instr.keyThatStays (.string ⟨s.toArray⟩) (.string ⟨s.toArray⟩)).run P w=.ok (.string ⟨s.toArray⟩) w:=by simp [Instr.keyThatStays,Instr.sameBits,qui]
   rcases ho with ho|ho<;>simp [execOp,ho,rm,rx,Instr.mapUpdate,run_underlying ht,MapKept.run_getObj_map e2,qiQ hk,qkH hk g2,hj,g5,hst,MapKept.run_setObj_map _ e2]
  ·rw [qmi hj,g6,List.map_set,List.map_set,e3]
  ·rw [qmi hj,g6]
   intro i p hp
   rw [List.getElem?_set] at hp
   rw [List.getElem?_set]
   split at hp
   ·rename_i hi
    subst hi
    split at hp
    ·cases hp
     refine ⟨{ e with key:=.string ⟨s.toArray⟩,val:=a.eval v },?_,hy⟩
     rw [if_pos rfl,if_pos hjl]
    ·cases hp
   ·rename_i hi
    rw [if_neg hi]
    exact hR i p hp
theorem quQ {t kt et:TypeId} {m x v:Operand} {m' x' v':Opd} (ho:o.op=.mapUpdate t m x v∨o.op=.insert t m x v) (hd:o.dst=none) (ht:P.underlying t=some (.map kt et)) (hk:P.underlying kt=some .string) (hm:qah m m'=true) (hx:qah x x'=true) (hv:qah v v'=true)
  {cm cx cv:Prop} {q:Key} {s:List UInt8} {y:PV} {kv:List (List UInt8×PV)} {kt0 et0:TypeId} (em:(rd fr m').un=(cm,.mp q)) (ex:(rd fr x').un=(cx,.p (.str s))) (ev:(rd fr v').un=(cv,.p y)) (hl:Zar L q=some (.map kv kt0 et0)) :
  Eff1 P o fr L (cm∧cx∧cv) fr (Zas L q (.map (mpS kv s y) kt0 et0)):=by
 intro E B w ι a hs ⟨h1,h2,h3⟩
 obtain ⟨rm,_⟩:a.eval m=ι q∧_:=rdP hs.2.1 hm em h1
 have rx:=PRep.str_eq (rdP hs.2.1 hx ex h2)
 have rv:PRep w (fun b=>Own L ι b∨B.X b) y (a.eval v):=rdP hs.2.1 hv ev h3
 obtain ⟨b,ents,cl,e1,e2,e3,e4⟩:=hs.1.sim.obj _ _ hl
 rw [e1] at rm
 have hb:b < w.heap.size:=(zH.1 e2).1
 obtain ⟨ents',cl',hrun,k1,k2,k3⟩:=qt5 ho ht hk rx rm e2 e4 e3.1 (PRep w (fun b=>Own L ι b∨B.X b)) e3.get rv
 have hG:Grow w { w with heap:=w.heap.setIfInBounds b (.map ents' cl') } (Old L ι q):=qo3 hl (by rw [e1];rfl)
 have hkp:Keeps w { w with heap:=w.heap.setIfInBounds b (.map ents' cl') } (fun c=>Own L ι c∨B.X c) (fun c=>Own (Zas L q (.map (mpS kv s y) kt0 et0)) ι c∨B.X c):=fun c hc hu=>⟨hG.block c hc (fun h=>hu (.inl h.own)),fun h=>hu (h.imp (qtV hl c) id)⟩
 have hlen:ents'.toList.length=(mpS kv s y).length:=by have:=congrArg List.length k2;simpa using this
 have hwr:=hs.wr q (.map kv kt0 et0) (.map (mpS kv s y) kt0 et0) hl hG ⟨b,ents',cl',e1,by simp [hb],⟨k2,PRepL.of_get (by simpa using hlen) (fun j z u hz hu=>by
  rw [zt,zi] at hz hu
  obtain ⟨p,hp,rfl⟩:=hz
  obtain ⟨e,he,rfl⟩:=hu
  obtain ⟨e',he',hr⟩:=k3 j p hp
  rw [he'] at he
  cases he
  exact PRep.mono hkp _ _ hr)⟩,k1⟩
 exact ⟨undef,.skip,_,ι,hrun,.inr ⟨rfl,rfl⟩,by rw [hd];exact hwr⟩
theorem qkO {t kt et:TypeId} {m x v:Operand} {m' x' v':Opd} (ho:o.op=.mapUpdate t m x v∨o.op=.insert t m x v) (hd:o.dst=none) (ht:P.underlying t=some (.map kt et)) (hk:P.underlying kt=some .string) (hm:qah m m'=true) (hx:qah x x'=true) (hv:qah v v'=true)
  {cm cx cv:Prop} {q:Key} {s:List UInt8} {y:AV} {kv:List (List UInt8×AV)} {kt0 et0:TypeId} (em:(rd fr m').un=(cm,.mp q)) (ex:(rd fr x').un=(cx,.p (.str s))) (ev:(rd fr v').un=(cv,y)) (hl:Zar L q=some (.mapv kv kt0 et0)) :
  Eff1 P o fr L (cm∧cx∧cv) fr (Zas L q (.mapv (mpS kv s y) kt0 et0)):=by
 intro E B w ι a hs ⟨h1,h2,h3⟩
 obtain ⟨rm,_⟩:a.eval m=ι q∧_:=rdP hs.2.1 hm em h1
 have rx:=PRep.str_eq (rdP hs.2.1 hx ex h2)
 have rv:ARep w (fun b=>Own L ι b∨B.X b) ι y (a.eval v):=rdP hs.2.1 hv ev h3
 obtain ⟨b,ents,cl,e1,e2,e3,e4,e5⟩:=hs.1.sim.obj _ _ hl
 rw [e1] at rm
 have hb:b < w.heap.size:=(zH.1 e2).1
 obtain ⟨ents',cl',hrun,k1,k2,k3⟩:=qt5 ho ht hk rx rm e2 e4 e3 (ARep w (fun b=>Own L ι b∨B.X b) ι) e5 rv
 have hG:Grow w { w with heap:=w.heap.setIfInBounds b (.map ents' cl') } (Old L ι q):=qo3 hl (by rw [e1];rfl)
 have hkp:Keeps w { w with heap:=w.heap.setIfInBounds b (.map ents' cl') } (fun c=>Own L ι c∨B.X c) (fun c=>Own (Zas L q (.mapv (mpS kv s y) kt0 et0)) ι c∨B.X c):=fun c hc hu=>⟨hG.block c hc (fun h=>hu (.inl h.own)),fun h=>hu (h.imp (qtV hl c) id)⟩
 have hwr:=hs.wr q (.mapv kv kt0 et0) (.mapv (mpS kv s y) kt0 et0) hl hG ⟨b,ents',cl',e1,by simp [hb],k2,k1,fun j p hp=>by
  obtain ⟨e',he',hr⟩:=k3 j p hp
  exact ⟨e',he',hr.mono hkp⟩⟩
 exact ⟨undef,.skip,_,ι,hrun,.inr ⟨rfl,rfl⟩,by rw [hd];exact hwr⟩
theorem PRepL.eraseIdx {cs:List PV} {vs:List Value} (h:PRepL w U cs vs) (i:Nat):PRepL w U (cs.eraseIdx i) (vs.eraseIdx i):=by
 have hl:=h.length
 refine PRepL.of_get (by simp [List.length_eraseIdx,hl]) (fun j x v hx hv=>?_)
 rw [List.getElem?_eraseIdx] at hx hv
 split at hx
 ·rename_i hj
  rw [if_pos hj] at hv
  obtain ⟨u,hu,hr⟩:=h.get hx
  rw [hu] at hv;cases hv;exact hr
 ·rename_i hj
  rw [if_neg hj] at hv
  obtain ⟨u,hu,hr⟩:=h.get hx
  rw [hu] at hv;cases hv;exact hr
theorem MapRep.eraseIdx {kv:List (List UInt8×PV)} {ents:List MapEntry} (h:MapRep w U kv ents) (i:Nat):MapRep w U (kv.eraseIdx i) (ents.eraseIdx i):=by
 refine ⟨?_,?_⟩
 ·rw [ChangeMaps.map_eraseIdx,ChangeMaps.map_eraseIdx,h.1]
 ·rw [ChangeMaps.map_eraseIdx,ChangeMaps.map_eraseIdx]
  exact h.2.eraseIdx i
theorem FRep.setD {a:Act} {U:Nat→Prop} (hf:FRep w U ι fr a) (d:Option Nat) {r:AV} {v:Value} (hr:ARep w U ι r v):FRep w U ι (Zf fr d r) (a.put d v):=by
 cases d with
 |none=>exact hf
 |some d=>exact hf.put d hr
end
inductive IC where
 |skip
 |reg (ops:List IOper)
 |drg (ops:List IOper)
 |drp (pm:List Nat) (ops:List IOper)
 |seq (a b:IC)
 |cond (c:Opd) (t e:IC)
 |block (id:Nat) (b:IC)
 |loop (b:IC)
 |exit (id:Nat)
 |ret
 |cut (b:IC)
 |dead
def Zb (a b:AV):Prop:=
 match b with
 |.any=>True
 |b=>a=b
def Za:List AV→List AV→Prop
 |[],[]=>True
 |a :: as,b :: bs=>Zb a b∧Za as bs
 |_,_=>False
def Zc:Objs→Objs→Prop
 |[],_=>True
 |(k,a) :: r,L=>Zar L k=some a∧Zc r L
def Zal (d:Nat) (fr:List AV) (L:Objs):Prop:=fr.map (·.kill (.l d))=fr∧Zat (.l d) L=L
def Zam:AO:=.row [] 0 0 true
def Zd (d:Option Nat) (fr:List AV) (L:Objs):IOp→Option (Prop×List AV×Objs)
 |.nilr e z=>match d with
  |some d=>some (True,(fr.map (·.kill (.l d))).set d (.row (.l d)),Zau L (.l d) (.row [] e z true))
  |none=>none
 |.alc t zero=>match d with
  |some d=>some (True,(fr.map (·.kill (.l d))).set d (.adr (.l d) 0),Zau L (.l d) (.box (zero.map .p) t))
  |none=>none
 |.box t x=>match d,(rd fr x).un with
  |some d,(c,.p v)=>if Zz (Zy v)=true then some (c,(fr.map (·.kill (.l d))).set d (.adr (.l d) 0),Zau L (.l d) (.box ((Zy v).map .p) t)) else none
  |some d,(c,.row k)=>some (c,(fr.map (·.kill (.l d))).set d (.adr (.l d) 0),Zau L (.l d) (.box [(AV.row k).kill (.l d)] t))
  |_,_=>none
 |.st sz p x=>match (rd fr p).un,(rd fr x).un with
  |(cp,.adr k o),(cx,.p v)=>match Zar L k with
   |some (.box cs bt)=>if o+sz≤cs.length∧(Zy v).length=sz∧Zz (Zy v)=true then some (cp∧cx,fr,Zas L k (.box (Zab cs o ((Zy v).map .p)) bt)) else none
   |_=>none
  |(cp,.adr k o),(cx,.row k')=>match Zar L k with
   |some (.box cs bt)=>if o+1≤cs.length∧sz=1 then some (cp∧cx,fr,Zas L k (.box (Zab cs o [.row k']) bt)) else none
   |_=>none
  |(cp,.adr k o),(cx,.mp k')=>match Zar L k,Zar L k' with
   |some (.box cs bt),some (.map ..)=>if o+1≤cs.length∧sz=1 then some (cp∧cx,fr,Zas L k (.box (Zab cs o [.mp k']) bt)) else none
   |_,_=>none
  |(cp,.adr k o),(cx,.fn f [])=>match Zar L k with
   |some (.box cs bt)=>if o+1≤cs.length∧sz=1 then some (cp∧cx,fr,Zas L k (.box (Zab cs o [.p (.clo f [])]) bt)) else none
   |_=>none
  |(cp,.rad k z i o),(cx,.p v)=>match Zar L k with
   |some (.row es e z' ap)=>if z'=z∧o+sz≤z∧(Zy v).length=sz∧Zz (Zy v)=true then some (cp∧cx∧i < es.length,fr,Zas L k (.row (es.set i (Zaa (es.getD i []) o ((Zy v).map wk1))) e z ap)) else none
   |some (.rowv es e z')=>if z'=z∧o+sz≤z∧(Zy v).length=sz∧Zz (Zy v)=true then some (cp∧cx∧i < es.length,fr,Zas L k (.rowv (es.set i (Zab (es.getD i []) o ((Zy v).map .p))) e z)) else none
   |_=>none
  |(cp,.rad k z i o),(cx,.row k')=>match Zar L k with
   |some (.rowv es e z')=>if z'=z∧o+1≤z∧sz=1 then some (cp∧cx∧i < es.length,fr,Zas L k (.rowv (es.set i (Zab (es.getD i []) o [.row k'])) e z)) else none
   |_=>none
  |_,_=>none
 |.app e z by_ x y=>match d,(rd fr x).un,Zv L (rd fr y).un.2 with
  |some d,(cx,.row (.l i)),some (z2,es2)=>match Zar L (.l i) with
   |some (.row es e' z' true)=>if e'=e∧z'=z∧z2=z then some (cx∧(rd fr y).un.1∧(es.length+es2.length) * by_≤140737488355328,(fr.map (·.kill (.l i))).set d (.row (.l i)),Zau L (.l i) (.row (es++es2) e z true)) else none
   |some (.rowv es e' z')=>if e'=e∧z'=z∧z2=z then some (cx∧(rd fr y).un.1∧(es.length+es2.length) * by_≤140737488355328,(fr.map (·.kill (.l i))).set d (.row (.l i)),Zau L (.l i) (.rowv (es.map (·.map (·.kill (.l i)))++es2.map (·.map .p)) e z)) else none
   |_=>none
  |some d,(cx,.row (.l i)),none=>match Zar L (.l i),(rd fr y).un.2 with
   |some (.rowv es e' z'),.row j=>match Zar L j with
    |some (.rowv es2 _ z2)=>if e'=e∧z'=z∧z2=z then some (cx∧(rd fr y).un.1∧(es.length+es2.length) * by_≤140737488355328,(fr.map (·.kill (.l i))).set d (.row (.l i)),Zau L (.l i) (.rowv (es.map (·.map (·.kill (.l i)))++es2.map (·.map (·.kill (.l i)))) e z)) else none
    |_=>none
   |_,_=>none
  |some d,(cx,.p (.nl _)),some (z2,es2)=>if z2=z then some (cx∧(rd fr y).un.1∧es2.length * by_≤140737488355328,(fr.map (·.kill (.l d))).set d (.row (.l d)),Zau L (.l d) (.row es2 e z true)) else none
  |_,_,_=>none
 |.bsr e z parts=>match d,Zan fr z parts with
  |some d,some (c,es)=>match parts with
   |[.c (.nl z0)]=>if z=1 then some (True,(fr.map (·.kill (.l d))).set d (.row (.l d)),Zau L (.l d) (.rowv [[.p (.nl z0)]] e 1)) else none
   |_=>some (c,(fr.map (·.kill (.l d))).set d (.row (.l d)),Zau L (.l d) (.row es e z true))
  |some d,none=>match parts with
   |[.t s]=>match fr[s]? with
    |some (.row k)=>if k≠.l d∧z=1 then some (True,(fr.map (·.kill (.l d))).set d (.row (.l d)),Zau L (.l d) (.rowv [[.row k]] e 1)) else none
    |some (.ag l)=>match Zaz (l.map Zag) with
     |some _=>if l.length=z then some (True,(fr.map (·.kill (.l d))).set d (.row (.l d)),Zau L (.l d) (.rowv [l.map Zag] e z)) else none
     |none=>none
    |_=>none
   |_=>none
  |none,_=>none
 |.s2b e x=>match d,(rd fr x).un with
  |some d,(c,.p (.str l))=>some (c∧l.length≤140737488355328,(fr.map (·.kill (.l d))).set d (.row (.l d)),Zau L (.l d) (.row (l.map fun q=>[.int .u8 (q.toNat:Nat)]) e 1 false))
  |_,_=>none
 |.mks e z by_ zero x y=>match d,(rd fr x).un,(rd fr y).un with
  |some d,(cx,.p (.int _ n)),(cy,.p (.int _ c))=>some (cx∧cy∧0≤n∧n≤c∧c * by_≤140737488355328,(fr.map (·.kill (.l d))).set d (.row (.l d)),Zau L (.l d) (.row (zM n.toNat (zero.map wk1)) e z true))
  |_,_,_=>none
 |.apz e z by_ zero x y=>match d,(rd fr x).un,(rd fr y).un with
  |some d,(cx,.p (.nl _)),(cy,.p (.int _ n))=>some (cx∧cy∧0 < n∧n * by_≤140737488355328,(fr.map (·.kill (.l d))).set d (.row (.l d)),Zau L (.l d) (.row (zM n.toNat (zero.map wk1)) e z true))
  |some d,(cx,.row (.l i)),(cy,.p (.int _ n))=>match Zar L (.l i) with
   |some (.row es e' z' true)=>if e'=e∧z'=z then some (cx∧cy∧0≤n∧(es.length+n) * by_≤140737488355328,(fr.map (·.kill (.l i))).set d (.row (.l i)),Zau L (.l i) (.row (es++zM n.toNat (zero.map wk1)) e z true)) else none
   |_=>none
  |_,_,_=>none
 |.trn z x y=>match d,(rd fr x).un,(rd fr y).un with
  |some d,(cx,.row (.l i)),(cy,.p (.int _ h))=>match Zar L (.l i) with
   |some (.row es e z' ap)=>if z'=z∧ap=true then some (cx∧cy∧0≤h∧h≤es.length,(fr.map (·.kill (.l i))).set d (.row (.l i)),Zau L (.l i) (.row (es.take h.toNat) e z true)) else none
   |_=>none
  |_,_,_=>none
 |.mkm kt et=>match d with
  |some d=>some (True,(fr.map (·.kill (.l d))).set d (.mp (.l d)),Zau L (.l d) (.map [] kt et))
  |none=>none
 |.mpu m k v=>match d,(rd fr m).un,(rd fr k).un,(rd fr v).un with
  |none,(cm,.mp q),(ck,.p (.str s)),(cv,.p x)=>match Zar L q with
   |some (.map kv kt et)=>some (cm∧ck∧cv,fr,Zas L q (.map (mpS kv s x) kt et))
   |some (.mapv kv kt et)=>some (cm∧ck∧cv,fr,Zas L q (.mapv (mpS kv s (.p x)) kt et))
   |_=>none
  |none,(cm,.mp q),(ck,.p (.str s)),(cv,.row q')=>match Zar L q with
   |some (.mapv kv kt et)=>some (cm∧ck∧cv,fr,Zas L q (.mapv (mpS kv s (.row q')) kt et))
   |_=>none
  |_,_,_,_=>none
 |.stk n sz p x=>match (rd fr p).un,(rd fr x).un with
  |(cp,.adr k o),(cx,.p v)=>if k=.l n then match Zar L (.l n) with
   |some (.box cs bt)=>if o+sz≤cs.length∧(Zy v).length=sz∧Zz (Zy v)=true then some (cp∧cx,fr,Zas L (.l n) (.box (Zab cs o ((Zy v).map .p)) bt)) else none
   |_=>none
   else none
  |(cp,.adr k o),(cx,.row k')=>if k=.l n then match Zar L (.l n) with
   |some (.box cs bt)=>if o+1≤cs.length∧sz=1 then some (cp∧cx,fr,Zas L (.l n) (.box (Zab cs o [.row k']) bt)) else none
   |_=>none
   else none
  |_,_=>none
 |.mpk n m k v=>match d,(rd fr m).un,(rd fr k).un,(rd fr v).un with
  |none,(cm,.mp q),(ck,.p (.str s)),(cv,.p x)=>if q=.l n then match Zar L (.l n) with
   |some (.map kv kt et)=>some (cm∧ck∧cv,fr,Zas L (.l n) (.map (mpS kv s x) kt et))
   |_=>none
   else none
  |_,_,_,_=>none
 |.alcd t zero=>match d with
  |some d=>some (Zal d fr L∧Zar L (.l d)=some Zam,fr.set d (.adr (.l d) 0),Zas L (.l d) (.box (zero.map .p) t))
  |none=>none
 |.bsrd e z parts=>match d,Zan fr z parts,qmf parts with
  |some d,some (c,es),false=>some ((Zal d fr L∧Zar L (.l d)=some Zam)∧c,fr.set d (.row (.l d)),Zas L (.l d) (.row es e z true))
  |_,_,_=>none
 |.stg sz p x=>match (rd fr p).un,(rd fr x).un with
  |(cp,.adr k o),(cx,.ag l)=>match Zar L k with
   |some (.box cs bt)=>if o+sz≤cs.length∧l.length=sz then some (cp∧cx,fr,Zas L k (.box (Zab cs o (l.map Zag)) bt)) else none
   |_=>none
  |_,_=>none
 |op=>(Ze fr L op).map fun q=>(q.1,Zf fr d q.2,L)
def Zh (want:Bool):AV→Option Bool
 |.p (.bool b)=>some (b == want)
 |.g c a=>match Zh want a with
  |some b=>some (c && b)
  |none=>bif c then none else some false
 |_=>none
def Zg (fr:List AV) (s:Nat) (want:Bool):Option Bool:=Zh want (fr.getD s .any)
def Zl (fr:List AV):List Opd→Prop
 |[]=>True
 |x :: r=>(rd fr x).un.1∧Zl fr r
def Zm (fr:List AV) (args:List Opd):List AV:=args.map fun x=>(rd fr x).un.2
def Zak (L L':Objs):List CV→Bool
 |[]=>true
 |.p _ :: r=>Zak L L' r
 |.row k :: r=>(Zar L k).isSome && (Zar L' k).isSome && Zak L L' r
 |.mp k :: r=>(Zar L k).isSome && (Zar L' k).isSome && Zak L L' r
def CV.key:CV→Option Key
 |.p _=>none
 |.row k=>some k
 |.mp k=>some k
inductive RV where
 |p (x:PV)
 |fr (es:List (List PV)) (e:TypeId) (z:Nat)
 |ft (es:List (List PV)) (e:TypeId) (z:Nat) (ps:List PV)
def FrOk (w:World) (U:Nat→Prop) (n:Nat) (es:List (List PV)) (e:TypeId) (z:Nat) (v:Value):Prop:=
 ∃ vs,RowOk w e z true v es.length vs∧(∀ u∈vs,u.oneCell'=true)∧PRepL w (fun b=>U b∨blk v=some b) es.flatten vs∧(∀ x∈es,x.length=z)∧∀ b,blk v=some b→n≤b
def RVok (w:World) (U:Nat→Prop) (n:Nat):RV→Value→Prop
 |.p x,v=>PRep w U x v
 |.fr es e z,v=>FrOk w U n es e z v
 |.ft es e z ps,v=>∃ (u:Value) (us:List Value),v=.tuple (u :: us).toArray∧FrOk w U n es e z u∧PRepL w (fun b=>U b∨blk u=some b) ps us
def fstV:Value→Value
 |.tuple vs=>vs.getD 0 undef
 |v=>v
def RV.own:RV→Value→Nat→Prop
 |.p _,_,_=>False
 |.fr ..,v,b=>blk v=some b
 |.ft ..,v,b=>blk (fstV v)=some b
inductive OS where
 |box (t:TypeId) (cs:List PV)
 |row (e z:Nat) (es:List (List PV))
def OS.ao:OS→AO
 |.box t cs=>.box (cs.map .p) t
 |.row e z es=>.row es e z true
def ObjAt (w:World) (U:Nat→Prop) (v:Value):OS→Prop
 |.box t cs=>∃ (b:Nat) (vs:List Value),v=.pointer (some ⟨b,0,none⟩)∧w.heap[b]?=some (.cells vs.toArray t (0,0))∧(∀ u∈vs,u.oneCell'=true)∧PRepL w U cs vs
 |.row e z es=>∃ vs:List Value,RowOk w e z true v es.length vs∧(∀ u∈vs,u.oneCell'=true)∧PRepL w U es.flatten vs∧∀ x∈es,x.length=z
theorem ObjAt.ok {w:World} {U:Nat→Prop} {ι:Key→Value} {k:Key} {os:OS} (h:ObjAt w U (ι k) os):ObjOk w U ι k os.ao:=by
 cases os with
 |box t cs=>
  obtain ⟨b,vs,e1,e2,e3,e4⟩:=h
  refine ⟨b,vs,e1,e2,by simpa using e4.length,e3,fun j x hx=>?_⟩
  rw [zt,zi] at hx
  obtain ⟨y,hy,rfl⟩:=hx
  exact e4.get hy
 |row e z es=>exact h
theorem ObjAt.of {w:World} {U:Nat→Prop} {ι:Key→Value} {k:Key} {os:OS} (h:ObjOk w U ι k os.ao):ObjAt w U (ι k) os:=by
 cases os with
 |box t cs=>
  obtain ⟨b,vs,e1,e2,e3,e4,e5⟩:=h
  refine ⟨b,vs,e1,e2,e4,PRepL.of_get (by simpa using e3) (fun j x u hx hu=>?_)⟩
  obtain ⟨u',hu',hr'⟩:=e5 j (.p x) (by rw [zt,hx];rfl)
  rw [hu'] at hu
  cases hu
  exact hr'
 |row e z es=>exact h
theorem ObjAt.mono {w w':World} {U U':Nat→Prop} {v:Value} {os:OS} (hk:Keeps w w' U U') (hb:∀ b,blk v=some b→w'.heap[b]?=w.heap[b]?) (h:ObjAt w U v os):ObjAt w' U' v os:=by
 cases os with
 |box t cs=>
  obtain ⟨b,vs,e1,e2,e3,e4⟩:=h
  exact ⟨b,vs,e1,by rw [hb b (by rw [e1];rfl)];exact e2,e3,PRepL.mono hk _ _ e4⟩
 |row e z es=>
  obtain ⟨vs,h1,h2,h3,h4⟩:=h
  refine ⟨vs,⟨h1.1,?_⟩,h2,PRepL.mono hk _ _ h3,h4⟩
  rcases h1.2 with g1|⟨g,cap,cur,fz,g1,g2,rest⟩
  ·exact .inl g1
  ·exact .inr ⟨g,cap,cur,fz,g1,by rw [hb g (by rw [g1];rfl)];exact g2,rest⟩
def GC (P:Program) (E:Envt) (f:FuncId) (as:List AV) (L:Objs) (bk:Option (Key×OS)) (post:RV→OS→Prop):Prop:=
 ∀ w X ι vs,Sim w X L ι→(∀ b,X b→b < w.heap.size∧¬ Own L ι b)→E.ok w→(∀ b,E.bl b→b < w.heap.size∧¬ Own L ι b)→ARepL w (fun b=>Own L ι b∨X b) ι as vs→
  Calls P f vs.toArray w fun e w'=>∃ v r os',e=.returned v∧post r os'∧RVok w' (fun b=>Own L ι b∨X b) w.heap.size r v∧
   (match bk with
    |none=>Grow w w' (fun _=>False)
    |some (k,_)=>Grow w w' (Old L ι k)∧ObjAt w' (fun b=>(Own L ι b∨X b)∨r.own v b) (ι k) os')
def putB (L:Objs) (bk:Option (Key×OS)) (os':OS):Objs:=
 match bk with
 |none=>L
 |some (k,_)=>Zas L k os'.ao
def hasB (L:Objs) (bk:Option (Key×OS)):Prop:=
 match bk with
 |none=>True
 |some (k,os)=>Zar L k=some os.ao
def Zbk (d:Option Nat) (bk:Option (Key×OS)):Prop:=
 match bk,d with
 |some (k,_),some d=>k≠.l d
 |_,_=>True
def resK (d:Option Nat) (fr:List AV) (L:Objs) (K:List AV→Objs→Prop):RV→Prop
 |.p x=>K (Zf fr d (.p x)) L
 |.fr es e z=>match d with
  |some d=>K ((fr.map (·.kill (.l d))).set d (.row (.l d))) (Zau L (.l d) (.row es e z true))
  |none=>K fr L
 |.ft es e z ps=>match d with
  |some d=>K ((fr.map (·.kill (.l d))).set d (.tr (.l d) ps)) (Zau L (.l d) (.row es e z true))
  |none=>K fr L
def qbF (P:Program) (E:Envt) (f:FuncId) (as:List AV) (L:Objs) (d:Option Nat) (fr:List AV) (K:List AV→Objs→Prop):Prop:=
 (∃ φ:PV→Prop,qkA P E f as L φ∧∀ x,φ x→K (Zf fr d (.p x)) L)∨
 (∃ bk post,GC P E f as L bk post∧hasB L bk∧Zbk d bk∧∀ r os',post r os'→resK d fr (putB L bk os') K r)∨
 ∃ i,Call P E f as L i (fun r L'=>K (Zf (fr.map (·.kill (.l i))) d r) L')
def DCallOp (b:Bool) (P:Program) (E:Envt) (f:FuncId) (as:List AV) (L:Objs) (d:Option Nat) (fr:List AV) (K:List AV→Objs→Prop):Prop:=
 ∃ (k:Key) (t:TypeId) (cs:List PV) (post:PV→List PV→Prop),(∀ L',Zar L' k=some (.box (cs.map .p) t)→GC P E f as L' (some (k,.box t cs)) (fun r os'=>∃ x cs',r=.p x∧os'=.box t cs'∧post x cs'))∧Zar L k=some (.box (cs.map .p) t)∧(∀ e,d=some e→k≠.l e)∧(b=true→∃ j,k=.b j)∧(∃ x cs',post x cs')∧
  ∀ x cs',post x cs'→K (Zf fr d (.p x)) (Zas L k (.box (cs'.map .p) t))
def qq0 (c0:Bool) (P:Program) (E:Envt) (f:FuncId) (as:List AV) (L:Objs) (d:Option Nat) (fr:List AV) (K:List AV→Objs→Prop):Prop:=
 (∃ x:PV,(c0=true→qkA P E f as L (·=x))∧K (Zf fr d (.g c0 (.p x))) L)∨((c0=true→qbF P E f as L d fr K)∧(c0=false→K (Zf fr d (.g c0 .any)) L))
def Zap (fr:List AV) (L:Objs) (x:Opd):Option (Key×PV):=
 match (rd fr x).un.2 with
 |.row k=>match Zar L k with
  |some (.row es _ z _)=>some (k,.sl z es)
  |some (.rowv es _ z)=>(Zba es).map fun es=>(k,.sl z es)
  |_=>none
 |.mp k=>match Zar L k with
  |some (.map kv _ _)=>some (k,.mpv (kv.map (·.1)) (kv.map (·.2)))
  |some (.mapv kv _ _)=>(Zbb kv).map fun kv=>(k,.mpv (kv.map (·.1)) (kv.map (·.2)))
  |_=>none
 |_=>none
def Zaq (fr:List AV) (x:Opd):Option (FuncId×List AV):=
 match (rd fr x).un with
 |(_,.fn f ks)=>some (f,ks.map fun k=>.adr k 0)
 |(_,.p (.clo f ps))=>some (f,ps.map .p)
 |_=>none
def Zk (L:Objs):List AV→Bool
 |[]=>true
 |.adr k _ :: r=>(match Zar L k with|some (.box _ _)=>true|_=>false) && Zk L r
 |_ :: r=>Zk L r
def fnB (P:Program) (f:FuncId):Bool:=
 match P.funcs[f]? with
 |some fn=>fn.body.isSome && fn.name != "runtime.NumGoroutine"
 |none=>false
def qeU:List AV→Option (List PV)
 |[]=>some []
 |.p x :: r=>(qeU r).map (x :: ·)
 |_ :: _=>none
theorem qxh {as:List AV}:∀ {ps:List PV},qeU as=some ps→as=ps.map .p:=by
 induction as with
 |nil=>intro ps h;simp only [qeU,zh] at h;subst h;rfl
 |cons a as ih=>
  intro ps h
  cases a with
  |p x=>
   simp only [qeU,zi] at h
   obtain ⟨l,h1,rfl⟩:=h
   rw [zx,← ih h1]
  |_=>simp [qeU] at h
def FrC (P:Program) (E:Envt) (f:FuncId) (ps:List PV) (e z:Nat) (es:List (List PV)):Prop:=∀ L,GC P E f (ps.map .p) L none (fun r _=>r=.fr es e z)
def ReOk (E:Envt) (fr:List AV) (L:Objs) (fr':List AV) (L':Objs):Prop:=∀ B w ι a,StF E B w L ι fr a→∃ ι',StF E B w L' ι' fr' a
def qcF:IOp→Bool
 |.ldl ..|.ldn ..|.stk ..|.mpk ..|.dcall ..|.dead|.isn _|.hole _|.alcd ..|.bsrd ..|.re|.fcl ..|.pcv ..=>false
 |_=>true
def qaa (P:Program) (E:Envt) (X:List PV):List IOper→List AV→Objs→(List AV→Objs→Prop)→Prop
 |[],fr,L,K=>K fr L
 |⟨d,op,gd⟩ :: is,fr,L,K=>
  match gd with
  |none=>match op with
   |.call f args=>Zl fr args∧qbF P E f (Zm fr args) L d fr (fun fr L=>qaa P E X is fr L K)
   |.dcall b f args=>Zl fr args∧DCallOp b P E f (Zm fr args) L d fr (fun fr L=>qaa P E X is fr L K)
   |.pcall n f args=>(Zl fr args∧qkA P E f (Zm fr args) L (·=X.getD n (.bool false)))∧qaa P E X is (Zf fr d (.p (X.getD n (.bool false)))) L K
   |.callv g args=>match Zaq fr g with
    |some (f,ks)=>(rd fr g).un.1∧fnB P f=true∧Zk L ks=true∧Zl fr args∧qbF P E f (Zm fr args++ks) L d fr (fun fr L=>qaa P E X is fr L K)
    |none=>False
   |.pcv n g args=>match Zaq fr g with
    |some (f,ks)=>((rd fr g).un.1∧fnB P f=true∧Zk L ks=true∧Zl fr args∧qkA P E f (Zm fr args++ks) L (·=X.getD n (.bool false)))∧qaa P E X is (Zf fr d (.p (X.getD n (.bool false)))) L K
    |none=>False
   |.fz x=>match Zap fr L x with
    |some (k,y)=>qaa P E X is (fr.map (·.thaw k y)) (Zav k y L) K
    |none=>qaa P E X is fr L K
   |.isn x=>match Zv L (rd fr x).un.2 with
    |some (_,es)=>(rd fr x).un.1∧∀ b:Bool,(b=true→es=[])→qaa P E X is (Zf fr d (.p (.bool b))) L K
    |none=>False
   |.hole e=>qaa P E X is ((fr.map (·.kill (.l e))).set e .any) (Zau L (.l e) Zam) K
   |.fcl n f args e z=>match d,qeU (Zm fr args),X.getD n (.bool false) with
    |some d,some ps,.sl z' es=>((Zal d fr L∧Zar L (.l d)=some Zam)∧Zl fr args∧z'=z∧FrC P E f ps e z es)∧qaa P E X is (fr.set d (.row (.l d))) (Zas L (.l d) (.row es e z true)) K
    |_,_,_=>False
   |.re=>∃ fr' L',ReOk E fr L fr' L'∧qaa P E X is fr' L' K
   |op=>match Zd d fr L op with
    |some (c,fr',L')=>c∧qaa P E X is fr' L' K
    |none=>False
  |some (s,want)=>match Zg fr s want with
   |some c0=>match op with
    |.call f args=>(c0=true→Zl fr args)∧qq0 c0 P E f (Zm fr args) L d fr (fun fr L=>qaa P E X is fr L K)
    |.pcall n f args=>(c0=true→Zl fr args∧qkA P E f (Zm fr args) L (·=X.getD n (.bool false)))∧qaa P E X is (Zf fr d (.g c0 (.p (X.getD n (.bool false))))) L K
    |.callv g args=>match Zaq fr g with
     |some (f,ks)=>(fnB P f=true∧Zk L ks=true)∧(c0=true→(rd fr g).un.1∧Zl fr args)∧qq0 c0 P E f (Zm fr args++ks) L d fr (fun fr L=>qaa P E X is fr L K)
     |none=>c0=false∧qaa P E X is (Zf fr d (.g c0 .any)) L K
    |.pcv n g args=>match Zaq fr g with
     |some (f,ks)=>(c0=true→(rd fr g).un.1∧fnB P f=true∧Zk L ks=true∧Zl fr args∧qkA P E f (Zm fr args++ks) L (·=X.getD n (.bool false)))∧qaa P E X is (Zf fr d (.g c0 (.p (X.getD n (.bool false))))) L K
     |none=>False
    |op=>match Ze fr L op with
     |some (c,r)=>(c0=true→c)∧qaa P E X is (Zf fr d (.g c0 r)) L K
     |none=>qcF op=true∧c0=false∧qaa P E X is (Zf fr d (.g c0 .any)) L K
   |none=>False
def BrQ (b:Bool) (x y:Prop):Prop:=(b=true→x)∧(b=false→y)
def awp (P:Program) (E:Envt):IC→List AV→Objs→AQ→Prop
 |.skip,fr,L,Q=>Q .normal fr L
 |.reg ops,fr,L,Q=>qaa P E [] ops fr L (Q .normal)
 |.drg ops,fr,L,Q=>∃ X,qaa P E X ops fr L (Q .normal)
 |.drp _ ops,fr,L,Q=>∃ X,qaa P E X ops fr L (Q .normal)
 |.seq x y,fr,L,Q=>awp P E x fr L (qmL (fun fr L=>awp P E y fr L Q) Q)
 |.cond c x y,fr,L,Q=>match (rd fr c) with
  |.p (.bool b)=>BrQ b (awp P E x fr L Q) (awp P E y fr L Q)
  |_=>False
 |.block id x,fr,L,Q=>awp P E x fr L (qke id Q)
 |.loop x,fr,L,Q=>∃ (I:Nat→List AV→Objs→Prop),(∃ n fr' L',ReOk E fr L fr' L'∧I n fr' L')∧∀ n fr L,I n fr L→awp P E x fr L (qmL (fun fr L=>∃ m fr' L',m < n∧ReOk E fr L fr' L'∧I m fr' L') Q)
 |.exit id,fr,L,Q=>Q (.exit id) fr L
 |.ret,fr,L,Q=>Q .ret fr L
 |.cut x,fr,L,Q=>∃ fr' L',ReOk E fr L fr' L'∧awp P E x fr' L' Q
 |.dead,_,_,_=>False
def strT (P:Program) (t:TypeId):Bool:=match P.underlying t with|some .string=>true|_=>false
def qzU (P:Program) (t:TypeId):Bool:=match P.underlying t with|some .bool=>true|_=>false
def slT (P:Program) (t:TypeId):Option TypeId:=match P.underlying t with|some (.slice e)=>some e|_=>none
def intT (P:Program) (t:TypeId):Option IntKind:=match P.underlying t with|some (.int k)=>some k|_=>none
def qaG (P:Program):Op→IOp→Bool
 |.move x,.mov y=>qah x y
 |.assign x,.mov y=>qah x y
 |.move x,.nilr e z=>qah x (.c (.nl z))
 |.assign x,.nilr e z=>qah x (.c (.nl z))
 |.pick c x y,.pick c' x' y'=>qah c c' && qah x x' && qah y y'
 |.binOp op t x y _,.bin op' x' y'=>op == op' && qah x x' && qah y y'
 |.binOp op t x y _,.bnb op' x' y'=>op == op' && qah x x' && qah y y' && qzU P t
 |.binOp op t x y _,.eqa neg ks x' y'=>op == (if neg then .neq else .eql) && qah x x' && qah y y' && qzu P t ks
 |.unOp .not t x,.not x'=>qah x x'
 |.call { callee:=.builtin .len,args:=args,argTypes:=ts },.len x'=>match args.toList,ts.toList with
  |[x],[t]=>qah x x' && (slT P t).isSome
  |_,_=>false
 |.call { callee:=.builtin .len,args:=args,argTypes:=ts },.sln x'=>match args.toList,ts.toList with
  |[x],[t]=>qah x x' && strT P t
  |_,_=>false
 |.call { callee:=.builtin .max,args:=args,argTypes:=ts },.mx x' y'=>match args.toList with
  |[x,y]=>qah x x' && qah y y'
  |_=>false
 |.index t x i,.idx x' i'=>qah x x' && qah i i' && strT P t
 |.slice t x lo hi none,.ssl x' lo' hi'=>qah x x' && qkl lo lo' && qkl hi hi' && strT P t
 |.slice t x lo hi none,.vsl z x' lo' hi'=>qah x x' && qkl lo lo' && qkl hi hi' && (match slT P t with|some e=>qbU P e z|none=>false)
 |.indexAddr t x i,.ixa z x' i'=>qah x x' && qah i i' && (match slT P t with|some e=>qbU P e z|none=>false)
 |.fieldAddr s x f,.fla off x'=>qah x x' && (match P.underlying s with
  |some (.struct fs)=>match fs[f]? with
   |some fd=>fd.offset == off && decide (0 < P.cellsOf fd.type)
   |none=>false
  |_=>false)
 |.field s x f,.fld off sz ag x'=>qah x x' && (match P.underlying s with
  |some (.struct fs)=>match fs[f]? with
   |some fd=>fd.offset == off && qbU P fd.type sz && aggB P fd.type ag && (ag || sz == 1)
   |none=>false
  |_=>false)
 |.load t x,.ld sz ag x'=>qah x x' && qbU P t sz && aggB P t ag && (ag || sz == 1)
 |.extract x i,.ext i' x'=>qah x x' && i == i'
 |.build t parts,.bld zero parts'=>qgM P t zero && (match P.underlying t with
  |some (.array _ e)=>qbU P e (P.cellsOf e) && qcG P (fun i=>some (i * P.cellsOf e,P.cellsOf e)) zero.length parts.toList parts'
  |some (.struct fs)=>qcG P ((fs.map fun f=>(f.offset,P.cellsOf f.type))[·]?) zero.length parts.toList parts' && (fs.toList.all fun f=>(P.info? f.type).isSome)
  |_=>false)
 |.convert s d x,.cvi k x'=>qah x x' && (P.underlying s).isSome && intT P d == some k
 |.convert s d x,.cvs x'=>qah x x' && (intT P s).isSome && strT P d
 |.convert s d x,.b2s x'=>qah x x' && strT P d && (match slT P s with|some e=>intT P e == some .u8|none=>false)
 |.convert s d x,.s2b e x'=>qah x x' && (P.underlying s).isSome && slT P d == some e && intT P e == some .u8
 |.buildSlice t n parts,.bsl z parts'=>(match slT P t with|some e=>qbU P e z && ((P.info? e).bind (·.zero)).isSome|none=>false) && parts.toList.length == n && decide (n * z≤16777216) && qby 0 parts.toList parts'
 |.buildSlice t n parts,.bsr e z parts'=>slT P t == some e && qbU P e z && ((P.info? e).bind (·.zero)).isSome && parts.toList.length == n && decide (n * z≤16777216) && decide (n≤16777216) && qby 0 parts.toList parts'
 |.nilCheck x,.nck x'=>qah x x'
 |.makeFunc (.func f) first caps,.mkf f' caps'=>f == f' && first.toList.isEmpty && qcr caps.toList caps'
 |.alloc t,.alc t' zero=>t == t' && qgM P t zero
 |.box t x,.box t' x'=>t == t' && qah x x'
 |.store t p x,.st sz p' x'=>qah p p' && qah x x' && qbU P t sz
 |.call { callee:=.builtin .append,args:=args,argTypes:=ts },.app e z by_ x' y'=>match args.toList,ts.toList with
  |[x,y],[t,t']=>t == t' && qah x x' && qah y y' && slT P t == some e && appB P e z by_
  |_,_=>false
 |.makeSlice t x y,.mks e z by_ zero x' y'=>qah x x' && qah y y' && slT P t == some e && appB P e z by_ && qgM P e zero
 |.call { callee:=.value (.func f),args:=args,argTypes:=ts },.call f' args'=>f == f' && fnB P f && qcr args.toList args'
 |.call { callee:=.value (.func f),args:=args,argTypes:=ts },.pcall _ f' args'=>f == f' && fnB P f && qcr args.toList args'
 |.call { callee:=.value (.tmp g),args:=args,argTypes:=ts },.callv (.t g') args'=>g == g' && qcr args.toList args'
 |.call { callee:=.value (.tmp g),args:=args,argTypes:=ts },.pcv _ (.t g') args'=>g == g' && qcr args.toList args'
 |.call { callee:=.builtin .cap,args:=args,argTypes:=ts },.cap0 x'=>match args.toList,ts.toList with
  |[x],[t]=>qah x x' && (slT P t).isSome
  |_,_=>false
 |.slice t x none (some hi) none,.vsn x' hi'=>qah x x' && qah hi hi' && (match slT P t with|some e=>(P.info? e).isSome|none=>false)
 |.slice t x none (some hi) none,.trn z x' hi'=>qah x x' && qah hi hi' && (match slT P t with|some e=>qbU P e z|none=>false)
 |.call { callee:=.builtin .append,args:=args,argTypes:=ts },.apz e z by_ zero x' y'=>match args.toList,ts.toList with
  |[x,y],[t,t']=>qah x x' && qah y y' && slT P t == some e && (intT P t').isSome && appB P e z by_ && qgM P e zero
  |_,_=>false
 |.makeMap t none,.mkm kt et=>match P.underlying t with
  |some (.map kt' et')=>kt' == kt && et' == et
  |_=>false
 |.mapUpdate t m k x,.mpu m' k' x'=>qah m m' && qah k k' && qah x x' && (match P.underlying t with
  |some (.map kt _)=>strT P kt
  |_=>false)
 |.insert t m k x,.mpu m' k' x'=>qah m m' && qah k k' && qah x x' && (match P.underlying t with
  |some (.map kt _)=>strT P kt
  |_=>false)
 |.lookup t m k ok,.mpl ok' zero m' k'=>ok == ok' && qah m m' && qah k k' && (match P.underlying t with
  |some (.map kt et)=>strT P kt && qq1 P et zero
  |_=>false)
 |.build t parts,.bldg zero parts'=>qgM P t zero && (match P.underlying t with
  |some (.struct fs)=>qcG P ((fs.map fun f=>(f.offset,P.cellsOf f.type))[·]?) zero.length parts.toList parts' && (fs.toList.all fun f=>(P.info? f.type).isSome)
  |_=>false)
 |.store t p x,.stg sz p' x'=>qah p p' && qah x x' && qbU P t sz
 |.binOp op t x y _,.isn x'=>op == .eql && qah x x' && qah y (.c (.nl 0)) && (slT P t).isSome
 |.indexAddr t x (.const (.int q v)),.fla off x'=>qah x x' && (match P.underlying t with
  |some (.array m e)=>decide (0≤v) && decide (v < m) && qbU P e (P.cellsOf e) && off == v.toNat * P.cellsOf e
  |_=>false)
 |_,_=>false
def isSt:IOp→Bool
 |.st ..=>true
 |.stg ..=>true
 |_=>false
def qnP (P:Program) (ops:Array Oper) (o:Oper) (i:IOper):Bool:=
 o.dst == i.dst && qaG P o.op i.op && (!isSt i.op || i.dst == none) &&
 (match o.guard,i.guard with
  |none,none=>true
  |some (j,w),some (s,w')=>w == w' && (ops[j]?).bind (·.dst) == some s
  |_,_=>false)
def IOp.norm:IOp→IOp
 |.ldl s a x=>.ld s a x
 |.ldn _ s a x=>.ld s a x
 |.stk _ s a x=>.st s a x
 |.mpk _ m k v=>.mpu m k v
 |.dcall _ f args=>.call f args
 |.alcd t zero=>.alc t zero
 |.bsrd e z parts=>.bsr e z parts
 |.fcl _ f args _ _=>.call f args
 |i=>i
def qxT:IOp→Bool
 |.dead=>true
 |_=>false
def qgi (P:Program) (ops:Array Oper) (o:Oper) (i:IOper):Bool:=
 qxT i.op || qnP P ops o { i with op:=i.op.norm }
def isFz:IOper→Bool
 |⟨none,.fz _,none⟩=>true
 |⟨none,.hole _,none⟩=>true
 |⟨none,.re,none⟩=>true
 |_=>false
def isRe:IOper→Bool
 |⟨none,.re,none⟩=>true
 |_=>false
def qeL (P:Program) (ops:Array Oper):List Oper→List IOper→Bool
 |os,[]=>os.isEmpty
 |os,i :: is=>if isFz i then qeL P ops os is else match os with
  |o :: os=>qgi P ops o i && qeL P ops os is
  |[]=>false
def qfH:List IOper→List IOper
 |[]=>[]
 |i :: is=>if isFz i then qfH is else i :: is
def qw2 (P:Program) (ops:Array Oper) (pm:List Nat) (is:List IOper):Bool:=
 let js:=qfH is
 pm.length == js.length && (pm.zip js).all fun p=>!isFz p.2 && (match ops[p.1]? with|some o=>qgi P ops o p.2|none=>false)
def chkC (P:Program) (D:Array Oper→Option (List Nat)→List IOper→Bool):IC→Code→Bool
 |.skip,.skip=>true
 |.reg is,.region _ ops false=>qeL P ops ops.toList is
 |.drg is,.region _ ops true=>qeL P ops ops.toList is && D ops none is
 |.drp pm is,.region _ ops true=>qw2 P ops pm is && D ops (some pm) is
 |.seq x y,.seq a b=>chkC P D x a && chkC P D y b
 |.cond d x y,.cond c a b=>qah c d && chkC P D x a && chkC P D y b
 |.block j x,.block i a=>i == j && chkC P D x a
 |.loop x,.loop a=>chkC P D x a
 |.exit j,.exit i=>i == j
 |.ret,.ret=>true
 |.cut x,c=>chkC P D x c
 |.dead,_=>true
 |_,_=>false
section
variable {P:Program} {E:Envt} {B:Base} {L:Objs} {fr:List AV} {o:Oper} {w:World} {U:Nat→Prop} {ι:Key→Value} {a:Act}
def GRep (w:World) (U:Nat→Prop) (ι:Key→Value) (cs:List CV) (vs:List Value):Prop:=
 vs.length=cs.length∧∀ (j:Nat) (x:CV),cs[j]?=some x→∃ v,vs[j]?=some v∧v.oneCell'=true∧CRep w U ι x v
theorem GRep.set {cs:List CV} {vs:List Value} (h:GRep w U ι cs vs) (i:Nat) {x:CV} {v:Value} (h1:v.oneCell'=true) (hx:CRep w U ι x v):GRep w U ι (cs.set i x) (vs.set i v):=by
 refine ⟨by simpa using h.1,fun j y hy=>?_⟩
 by_cases hj:i=j
 ·subst hj
  have hlt:i < cs.length:=by
   rcases Nat.lt_or_ge i cs.length with h'|h'
   ·exact h'
   ·rw [zO (by simpa using h')] at hy;cases hy
  rw [List.getElem?_set_self hlt] at hy
  cases hy
  exact ⟨v,by rw [List.getElem?_set_self (by rw [h.1];exact hlt)],h1,hx⟩
 ·rw [List.getElem?_set_ne hj] at hy ⊢
  exact h.2 j y hy
theorem qv2 {ds:List PV}:∀ {us:List Value} {cs:List CV} {vs:List Value} {off:Nat},PRepL w U ds us→(∀ u∈us,u.oneCell'=true)→GRep w U ι cs vs→GRep w U ι (Zae cs off ds) (qaw vs off us):=by
 induction ds with
 |nil=>intro us cs vs off hd _ h;simp only [PRepL] at hd;subst hd;exact h
 |cons x r ih=>
  intro us cs vs off hd h1 h
  simp only [PRepL] at hd
  obtain ⟨u,us',rfl,h2,h3⟩:=hd
  exact ih h3 (fun v hv=>h1 v (by simp [hv])) (h.set off (h1 u (by simp)) h2)
theorem qwP {a:Act} (hf:FRep w U ι fr a) (place:Nat→Option (Nat×Nat)) (n:Nat):∀ (ps:List (Nat×Operand)) (qs:List (Nat×Nat×Opd)) (cs:List CV) (vs:List Value) (c:Prop) (ds:List CV),
  qcG P place n ps qs=true→Zad fr cs qs=some (c,ds)→c→GRep w U ι cs vs→vs.length=n→∃ us,Instr.fill place vs.toArray (ps.map fun x=>(x.1,a.eval x.2))=some us.toArray∧GRep w U ι ds us:=by
 intro ps
 induction ps with
 |nil=>
  intro qs cs vs c ds hok hb hc hl hn
  cases qs with
  |nil=>
   simp only [Zad,zh,zl] at hb
   obtain ⟨rfl,rfl⟩:=hb
   exact ⟨vs,rfl,hl⟩
  |cons q qs=>simp [qcG] at hok
 |cons p ps ih=>
  intro qs cs vs c ds hok hb hc hl hn
  obtain ⟨i,x⟩:=p
  cases qs with
  |nil=>simp [qcG] at hok
  |cons q qs=>
   obtain ⟨off,sz,y⟩:=q
   simp only [qcG,zj,beq_iff_eq,decide_eq_true_eq] at hok
   obtain ⟨⟨⟨h1,h2⟩,h3⟩,h4⟩:=hok
   simp only [Zad] at hb
   split at hb
   ·rename_i cx v ex
    split at hb
    ·rename_i hsz
     obtain ⟨⟨c',ds'⟩,e1,e2⟩:=zi.1 hb
     simp only [zl] at e2
     obtain ⟨rfl,rfl⟩:=e2
     have rx:PRep w U v (a.eval x):=rdP hf h2 ex hc.1
     have hcell:=rx.cells (qb3 hsz.2)
     have hcl:(a.eval x).cells.size=sz:=by have:=hcell.length;simp at this;omega
     simp only [zx]
     rw [qfG place vs i off sz _ _ h1 hcl (by omega)]
     exact ih qs _ _ c' ds' h4 e1 hc.2 (qv2 hcell (hcell.oneCells hsz.2) hl) (by rw [qa3];exact hn)
    ·cases hb
   ·rename_i cx k ex
    split at hb
    ·rename_i hsz
     obtain ⟨⟨c',ds'⟩,e1,e2⟩:=zi.1 hb
     simp only [zl] at e2
     obtain ⟨rfl,rfl⟩:=e2
     obtain ⟨r1,A,m,cp,r2⟩:a.eval x=ι k∧∃ A n c,a.eval x=.slice A n c:=rdP hf h2 ex hc.1
     have hcl:(a.eval x).cells=#[a.eval x]:=by rw [r2];rfl
     simp only [zx]
     rw [qfG place vs i off sz _ _ h1 (by rw [hcl,hsz];rfl) (by omega)]
     rw [show qaw vs off (a.eval x).cells.toList=vs.set off (a.eval x) from by rw [hcl];rfl]
     exact ih qs _ _ c' ds' h4 e1 hc.2 (hl.set off (x:=.row k) (by rw [r2];rfl) ⟨r1,A,m,cp,r2⟩) (by simpa using hn)
    ·cases hb
   ·rename_i cx k ex
    split at hb
    ·rename_i hsz
     obtain ⟨⟨c',ds'⟩,e1,e2⟩:=zi.1 hb
     simp only [zl] at e2
     obtain ⟨rfl,rfl⟩:=e2
     obtain ⟨r1,m,r2⟩:a.eval x=ι k∧∃ r,a.eval x=.map (some r):=rdP hf h2 ex hc.1
     have hcl:(a.eval x).cells=#[a.eval x]:=by rw [r2];rfl
     simp only [zx]
     rw [qfG place vs i off sz _ _ h1 (by rw [hcl,hsz];rfl) (by omega)]
     rw [show qaw vs off (a.eval x).cells.toList=vs.set off (a.eval x) from by rw [hcl];rfl]
     exact ih qs _ _ c' ds' h4 e1 hc.2 (hl.set off (x:=.mp k) (by rw [r2];rfl) ⟨r1,m,r2⟩) (by simpa using hn)
    ·cases hb
   ·cases hb
theorem qvT {t:TypeId} {parts:Array (Nat×Operand)} {fs:Array Field} {places:Array (Nat×Nat)} {zero:List PV} {parts':List (Nat×Nat×Opd)} (ho:o.op=.build t parts) (ht:P.underlying t=some (.struct fs)) (hz:qgM P t zero=true) (hp:qjD P fs places=true)
  (hk:qcG P (places[·]?) zero.length parts.toList parts'=true) {c:Prop} {r:AV} (h:Ze fr L (.bldg zero parts')=some (c,r)):Val1 P o fr L c r:=by
 simp only [Ze] at h
 obtain ⟨⟨c1,ds⟩,e1,e2⟩:=zi.1 h
 simp only [zl] at e2
 obtain ⟨rfl,rfl⟩:=e2
 refine Val1.same fun E B w ι a hs h1=>?_
 obtain ⟨z,hz1,hz2⟩:=qkG hz w
 have hzr:=(qcO hz2 w (fun b=>Own L ι b∨B.X b))
 have hzg:GRep w (fun b=>Own L ι b∨B.X b) ι (zero.map .p) z.cells.toList:=by
  refine ⟨by simpa using hzr.1.length,fun j x hx=>?_⟩
  rw [zt,zi] at hx
  obtain ⟨y,hy,rfl⟩:=hx
  obtain ⟨v,hv,hr⟩:=hzr.1.get hy
  exact ⟨v,hv,hzr.1.oneCells hzr.2 v (zm hv),hr⟩
 obtain ⟨us,hfill,hrep⟩:=qwP (P:=P) hs.2.1 (places[·]?) zero.length parts.toList parts' (zero.map .p) z.cells.toList c1 ds hk e1 h1 hzg hzr.1.length
 refine ⟨.agg us.toArray,?_,us,rfl,hrep.1,hrep.2⟩
 simp only [execOp,ho,Instr.build,Sem.run_bind,hz1,Result.andThen_ok,run_underlying ht,ql9 fs places hp]
 have e3:(Array.map (fun x:Nat×Operand=>(x.1,a.eval x.2)) parts).toList=parts.toList.map fun x=>(x.1,a.eval x.2):=by simp
 have e4:z.cells.toList.toArray=z.cells:=by simp
 rw [e4] at hfill
 rw [← e3] at hfill
 simp only [hfill]
 rfl
theorem toAV_rep {x:CV} {v:Value}:ARep w U ι (Zag x) v↔CRep w U ι x v:=by cases x<;>rfl
theorem qzy {t:TypeId} {sz off:Nat} {pa px:Operand} {p' x':Opd} (ho:o.op=.store t pa px) (hdst:o.dst=none) (hsz:qbU P t sz=true) (hp:qah pa p'=true) (hx:qah px x'=true) {k:Key} {cs:List AV} {bt:TypeId} {l:List CV} {cp cx:Prop}
  (ep:(rd fr p').un=(cp,.adr k off)) (ex:(rd fr x').un=(cx,.ag l)) (hl:Zar L k=some (.box cs bt)) (hle:off+sz≤cs.length) (hll:l.length=sz):Eff1 P o fr L (cp∧cx) fr (Zas L k (.box (Zab cs off (l.map Zag)) bt)):=by
 intro E B w ι a hs ⟨k1,k2⟩
 have hpa:=rdP hs.2.1 hp ep k1
 obtain ⟨vs,e,hvl,hr⟩:∃ vs:List Value,a.eval px=.agg vs.toArray∧vs.length=l.length∧∀ (j:Nat) (x:CV),l[j]?=some x→∃ v,vs[j]?=some v∧v.oneCell'=true∧CRep w (fun b=>Own L ι b∨B.X b) ι x v:=rdP hs.2.1 hx ex k2
 have hc:(a.eval px).cells.toList=vs:=by rw [e];simp [Value.cells]
 have h1:∀ v∈vs,v.oneCell'=true:=by
  intro v hv
  obtain ⟨j,hj⟩:=zQ hv
  have hjl:j < l.length:=by rw [← hvl];exact (zk.1 hj).1
  obtain ⟨u,hu,h2,_⟩:=hr j _ (zg hjl)
  rw [hu] at hj
  cases hj
  exact h2
 exact qlu ho hdst hsz hl hle hs hpa (l.map Zag) (by rw [hc];omega) (by simpa using hll) (by rw [hc];exact h1) (fun j x hx'=>by
  rw [zt,zi] at hx'
  obtain ⟨y,hy,rfl⟩:=hx'
  obtain ⟨v,hv,_,h3⟩:=hr j y hy
  exact ⟨v,by rw [hc];exact hv,toAV_rep.2 h3⟩)
end
section
variable {P:Program} {E:Envt} {B:Base} {w w':World} {L:Objs} {ι:Key→Value} {fr:List AV} {a:Act} {X:Nat→Prop} {o:Oper} {U:Nat→Prop}
theorem qd8 {t:TypeId} (h:strT P t=true):P.underlying t=some .string:=by
 unfold strT at h;split at h
 ·assumption
 ·cases h
theorem qw4 {t:TypeId} (h:qzU P t=true):P.underlying t=some .bool:=by
 unfold qzU at h;split at h
 ·assumption
 ·cases h
theorem qcp {t e:TypeId} (h:slT P t=some e):P.underlying t=some (.slice e):=by
 unfold slT at h;split at h
 ·cases h;assumption
 ·cases h
theorem qjN {t:TypeId} {k:IntKind} (h:intT P t=some k):P.underlying t=some (.int k):=by
 unfold intT at h;split at h
 ·cases h;assumption
 ·cases h
theorem qaV {α:Type} {a:Array α} {l:List α} (h:a.toList=l):a=l.toArray:=by rw [← h]
theorem ql7 {i:IOp} (hchk:qaG P o.op i=true) {c:Prop} {r:AV} (h:Ze fr L i=some (c,r)):Val1 P o fr L c r:=by
 unfold qaG at hchk
 split at hchk
 ·rename_i x y ho;simp only [Ze,zh,zl] at h;obtain ⟨rfl,rfl⟩:=h;exact qtn (.inl ho) hchk
 ·rename_i x y ho;simp only [Ze,zh,zl] at h;obtain ⟨rfl,rfl⟩:=h;exact qtn (.inr ho) hchk
 ·simp [Ze] at h
 ·simp [Ze] at h
 ·rename_i x1 x2 x3 y1 y2 y3 ho
  simp only [zj] at hchk
  simp only [Ze] at h
  split at h
  ·simp only [zh,zl] at h;obtain ⟨rfl,rfl⟩:=h
   exact qvR ho hchk.1.1 hchk.1.2 hchk.2 ‹_› ‹_› ‹_›
  ·simp only [zh,zl] at h;obtain ⟨rfl,rfl⟩:=h
   exact qtm ho hchk.1.1 hchk.1.2 ‹_› ‹_›
  ·simp only [zh,zl] at h;obtain ⟨rfl,rfl⟩:=h
   exact qtl ho hchk.1.1 hchk.2 ‹_› ‹_›
  ·cases h
 ·rename_i op t x y t' op' x' y' ho
  simp only [zj,beq_iff_eq] at hchk
  obtain ⟨⟨rfl,h1⟩,h2⟩:=hchk
  exact qyJ ho h1 h2 h
 ·rename_i op t x y t' op' x' y' ho
  simp only [zj,beq_iff_eq] at hchk
  obtain ⟨⟨⟨rfl,h1⟩,h2⟩,h3⟩:=hchk
  exact qyH ho (qw4 h3) h1 h2 h
 ·rename_i op t x y t' neg ks x' y' ho
  simp only [zj,beq_iff_eq] at hchk
  obtain ⟨⟨⟨h0,h1⟩,h2⟩,h3⟩:=hchk
  subst h0
  exact qyD ho h3 h1 h2 h
 ·rename_i t x x' ho;exact qys ho hchk h
 ·rename_i args ts x' ho
  split at hchk
  ·rename_i x t e1 e2
   simp only [zj] at hchk
   obtain ⟨e,he⟩:=zT.1 hchk.2
   rw [qaV e1,qaV e2] at ho
   exact qyw ho (qcp he) hchk.1 h
  ·cases hchk
 ·rename_i args ts x' ho
  split at hchk
  ·rename_i x t e1 e2
   simp only [zj] at hchk
   rw [qaV e1,qaV e2] at ho
   exact qyr ho (qd8 hchk.2) hchk.1 h
  ·cases hchk
 ·rename_i args ts x' y' ho
  split at hchk
  ·rename_i x y e1
   simp only [zj] at hchk
   rw [qaV e1] at ho
   exact qAs ho hchk.1 hchk.2 h
  ·cases hchk
 ·rename_i t x i x' i' ho
  simp only [zj] at hchk
  exact qyy ho (qd8 hchk.2) hchk.1.1 hchk.1.2 h
 ·rename_i t x lo hi x' lo' hi' ho
  simp only [zj] at hchk
  exact qyq ho (qd8 hchk.2) hchk.1.1.1 hchk.1.1.2 hchk.1.2 h
 ·rename_i t x lo hi z x' lo' hi' ho
  simp only [zj] at hchk
  obtain ⟨⟨⟨h1,h2⟩,h3⟩,h4⟩:=hchk
  split at h4
  ·rename_i e he;exact qyp ho (qcp he) h4 h1 h2 h3 h
  ·cases h4
 ·rename_i t x i z x' i' ho
  simp only [zj] at hchk
  obtain ⟨⟨h1,h2⟩,h4⟩:=hchk
  split at h4
  ·rename_i e he;exact qyx ho (qcp he) h4 h1 h2 h
  ·cases h4
 ·rename_i s x f off x' ho
  simp only [zj] at hchk
  obtain ⟨h1,h4⟩:=hchk
  split at h4
  ·rename_i fs hfs
   split at h4
   ·rename_i fd hfd
    simp only [zj,beq_iff_eq,decide_eq_true_eq] at h4
    have hsz:∃ n,qbU P fd.type (n+1)=true:=by
     have:=h4.2
     unfold Program.cellsOf at this
     cases hi:P.info? fd.type with
     |none=>rw [hi] at this;simp at this
     |some i=>rw [hi] at this;simp at this;exact ⟨i.size - 1,by simp [qbU,hi];omega⟩
    obtain ⟨n,hn⟩:=hsz
    exact qyB (sz:=n) ho (by unfold quP;rw [hfs];simp only [hfd,h4.1,hn];simp) h1 h
   ·cases h4
  ·cases h4
 ·rename_i s x f off sz ag x' ho
  simp only [zj] at hchk
  obtain ⟨h1,h4⟩:=hchk
  split at h4
  ·rename_i fs hfs
   split at h4
   ·rename_i fd hfd
    simp only [zj,beq_iff_eq,zU] at h4
    obtain ⟨⟨⟨k1,k2⟩,k3⟩,k4⟩:=h4
    exact qyA ho fs fd hfs hfd k1 k2 k3 (fun e=>by rcases k4 with k4|k4;rw [e] at k4;cases k4;exact k4) h1 h
   ·cases h4
  ·cases h4
 ·rename_i t x sz ag x' ho
  simp only [zj,zU,beq_iff_eq] at hchk
  obtain ⟨⟨⟨k1,k2⟩,k3⟩,k4⟩:=hchk
  exact qAt ho k2 k3 (fun e=>by rcases k4 with k4|k4;rw [e] at k4;cases k4;exact k4) k1 h
 ·rename_i x i i' x' ho
  simp only [zj,beq_iff_eq] at hchk
  obtain ⟨h1,rfl⟩:=hchk
  exact qyC ho h1 h
 ·rename_i t parts zero parts' ho
  simp only [zj] at hchk
  obtain ⟨h1,h2⟩:=hchk
  split at h2
  ·rename_i m e ha
   simp only [zj] at h2
   exact qvU ho ha h1 h2.1 h2.2 h
  ·rename_i fs hfs
   simp only [zj] at h2
   exact qyI ho hfs h1 (by simp only [qjD,zj,beq_iff_eq];exact ⟨by simp,h2.2⟩) h2.1 h
  ·cases h2
 ·rename_i s d x k x' ho
  simp only [zj,beq_iff_eq] at hchk
  exact qyF ho hchk.1.2 (qjN hchk.2) hchk.1.1 h
 ·rename_i s d x x' ho
  simp only [zj] at hchk
  obtain ⟨k,hk⟩:=zT.1 hchk.1.2
  exact qyE ho (qjN hk) (qd8 hchk.2) hchk.1.1 h
 ·rename_i s d x x' ho
  simp only [zj] at hchk
  obtain ⟨⟨h1,h2⟩,h3⟩:=hchk
  split at h3
  ·rename_i e he
   simp only [beq_iff_eq] at h3
   exact qyK ho (qcp he) (qjN h3) (qd8 h2) h1 h
  ·cases h3
 ·simp [Ze] at h
 ·rename_i t n parts z parts' ho
  simp only [zj,beq_iff_eq,decide_eq_true_eq] at hchk
  obtain ⟨⟨⟨h1,h2⟩,h3⟩,h4⟩:=hchk
  split at h1
  ·rename_i e he
   simp only [zj] at h1
   exact qyG ho (qcp he) h1.1 h1.2 h2 h3 h4 h
  ·cases h1
 ·simp [Ze] at h
 ·rename_i x x' ho;exact qyt ho hchk h
 ·rename_i f first caps f' caps' ho
  simp only [zj,beq_iff_eq,List.isEmpty_iff] at hchk
  obtain ⟨⟨rfl,h1⟩,h2⟩:=hchk
  rw [qaV h1] at ho
  exact qyv ho h2 h
 ·simp [Ze] at h
 ·simp [Ze] at h
 ·simp [Ze] at h
 ·simp [Ze] at h
 ·simp [Ze] at h
 ·simp [Ze] at h
 ·simp [Ze] at h
 ·simp [Ze] at h
 ·simp [Ze] at h
 ·rename_i args ts x' ho
  split at hchk
  ·rename_i x t e1 e2
   simp only [zj] at hchk
   obtain ⟨e,he⟩:=zT.1 hchk.2
   rw [qaV e1,qaV e2] at ho
   exact qvS ho (qcp he) hchk.1 h
  ·cases hchk
 ·rename_i t x hi x' hi' ho
  simp only [zj] at hchk
  obtain ⟨⟨h1,h2⟩,h3⟩:=hchk
  split at h3
  ·rename_i e he;exact qyo ho (qcp he) h3 h1 h2 h
  ·cases h3
 ·simp [Ze] at h
 ·simp [Ze] at h
 ·simp [Ze] at h
 ·simp [Ze] at h
 ·simp [Ze] at h
 ·rename_i t m k ok ok' zero m' k' ho
  simp only [zj,beq_iff_eq] at hchk
  obtain ⟨⟨⟨rfl,h1⟩,h2⟩,h3⟩:=hchk
  split at h3
  ·rename_i kt et ht
   simp only [zj] at h3
   exact qyu ho ht (qd8 h3.1) h3.2 h1 h2 h
  ·cases h3
 ·rename_i t parts zero parts' ho
  simp only [zj] at hchk
  obtain ⟨h1,h2⟩:=hchk
  split at h2
  ·rename_i fs hfs
   simp only [zj] at h2
   exact qvT ho hfs h1 (by simp only [qjD,zj,beq_iff_eq];exact ⟨by simp,h2.2⟩) h2.1 h
  ·cases h2
 ·simp [Ze] at h
 ·simp [Ze] at h
 ·rename_i t x q v off x' ho
  simp only [zj] at hchk
  obtain ⟨h1,h4⟩:=hchk
  split at h4
  ·rename_i m e ha
   simp only [zj,beq_iff_eq,decide_eq_true_eq] at h4
   obtain ⟨⟨⟨g1,g2⟩,g3⟩,rfl⟩:=h4
   exact qyz ho ha g1 g2 g3 h1 h
  ·cases h4
 ·cases hchk
theorem qam {i:IOp} {d:Option Nat} (hchk:qaG P o.op i=true) (hd:o.dst=d) {c:Prop} {fr':List AV} {L':Objs} (h:(Ze fr L i).map (fun q=>(q.1,Zf fr d q.2,L))=some (c,fr',L')):Eff1 P o fr L c fr' L':=by
 obtain ⟨⟨c1,r⟩,e1,e2⟩:=zi.1 h
 simp only [zl] at e2
 obtain ⟨rfl,rfl,rfl⟩:=e2
 have hv:=ql7 hchk e1
 cases d with
 |none=>exact hv.eff0 hd
 |some d=>exact hv.eff hd
theorem qqB {i:IOp} {d:Option Nat} (hchk:qaG P o.op i=true) (hd:o.dst=d) (hst:isSt i=true→d=none) {c:Prop} {fr':List AV} {L':Objs} (h:Zd d fr L i=some (c,fr',L')):Eff1 P o fr L c fr' L':=by
 have hchk0:=hchk
 unfold qaG at hchk
 split at hchk
 ·exact qam hchk0 hd h
 ·exact qam hchk0 hd h
 ·rename_i x e z ho
  simp only [Zd] at h
  split at h
  ·simp only [zh,zl] at h;obtain ⟨rfl,rfl,rfl⟩:=h
   exact qrT (.inl ho) hchk hd
  ·cases h
 ·rename_i x e z ho
  simp only [Zd] at h
  split at h
  ·simp only [zh,zl] at h;obtain ⟨rfl,rfl,rfl⟩:=h
   exact qrT (.inr ho) hchk hd
  ·cases h
 ·exact qam hchk0 hd h
 ·exact qam hchk0 hd h
 ·exact qam hchk0 hd h
 ·exact qam hchk0 hd h
 ·exact qam hchk0 hd h
 ·exact qam hchk0 hd h
 ·exact qam hchk0 hd h
 ·exact qam hchk0 hd h
 ·exact qam hchk0 hd h
 ·exact qam hchk0 hd h
 ·exact qam hchk0 hd h
 ·exact qam hchk0 hd h
 ·exact qam hchk0 hd h
 ·exact qam hchk0 hd h
 ·exact qam hchk0 hd h
 ·exact qam hchk0 hd h
 ·exact qam hchk0 hd h
 ·exact qam hchk0 hd h
 ·exact qam hchk0 hd h
 ·exact qam hchk0 hd h
 ·rename_i s dT x e x' ho
  simp only [zj,beq_iff_eq] at hchk
  obtain ⟨⟨⟨h1,h2⟩,h3⟩,h4⟩:=hchk
  obtain ⟨u0,hu0⟩:=zT.1 h2
  simp only [Zd] at h
  split at h
  ·rename_i d' c' l ex
   simp only [zh,zl] at h;obtain ⟨rfl,rfl,rfl⟩:=h
   exact qzz ho hd hu0 (qcp h3) (qjN h4) h1 ex
  ·cases h
 ·exact qam hchk0 hd h
 ·rename_i t n parts e z parts' ho
  simp only [zj,beq_iff_eq,decide_eq_true_eq] at hchk
  obtain ⟨⟨⟨⟨⟨⟨h1,h2⟩,h3⟩,h4⟩,h5⟩,h6⟩,h7⟩:=hchk
  simp only [Zd] at h
  split at h
  ·rename_i d' c' es eb
   split at h
   ·split at h
    ·rename_i hz1
     subst hz1
     simp only [zh,zl] at h;obtain ⟨rfl,rfl,rfl⟩:=h
     exact qzE ho hd (qcp h1) h2 h3 h4 h7
    ·cases h
   ·simp only [zh,zl] at h;obtain ⟨rfl,rfl,rfl⟩:=h
    exact qzD ho hd (qcp h1) h2 h3 h4 h5 h6 h7 eb
  ·split at h
   ·split at h
    ·rename_i hk0
     split at h
     ·rename_i hc
      obtain ⟨hc1,rfl⟩:=hc
      simp only [zh,zl] at h;obtain ⟨rfl,rfl,rfl⟩:=h
      exact qzC ho hd (qcp h1) h2 h3 h4 h7 hk0 hc1
     ·cases h
    ·rename_i hk0
     split at h
     ·rename_i hpl
      split at h
      ·rename_i hll
       simp only [zh,zl] at h;obtain ⟨rfl,rfl,rfl⟩:=h
       exact qzF ho hd (qcp h1) h2 h3 h4 h5 h7 hk0 hpl hll
      ·cases h
     ·cases h
    ·cases h
   ·cases h
  ·cases h
 ·exact qam hchk0 hd h
 ·exact qam hchk0 hd h
 ·rename_i t t' zero ho
  simp only [zj,beq_iff_eq] at hchk
  obtain ⟨rfl,h1⟩:=hchk
  simp only [Zd] at h
  split at h
  ·simp only [zh,zl] at h;obtain ⟨rfl,rfl,rfl⟩:=h
   exact qzI ho h1 hd
  ·cases h
 ·rename_i t x t' x' ho
  simp only [zj,beq_iff_eq] at hchk
  obtain ⟨rfl,h1⟩:=hchk
  simp only [Zd] at h
  split at h
  ·rename_i d' c' v ex
   split at h
   ·rename_i hfl
    simp only [zh,zl] at h;obtain ⟨rfl,rfl,rfl⟩:=h
    exact qwT ho h1 hd ex hfl
   ·cases h
  ·rename_i d' c' k ex
   simp only [zh,zl] at h;obtain ⟨rfl,rfl,rfl⟩:=h
   exact qwS ho h1 hd ex
  ·cases h
 ·rename_i t p x sz p' x' ho
  simp only [zj] at hchk
  obtain ⟨⟨h1,h2⟩,h3⟩:=hchk
  have hdn:=hst rfl
  rw [hdn] at hd
  simp only [Zd] at h
  split at h
  ·rename_i cp k of cx v ep ex
   split at h
   ·rename_i cs bt hl
    split at h
    ·rename_i hc
     simp only [zh,zl] at h;obtain ⟨rfl,rfl,rfl⟩:=h
     intro E B w ι a hs ⟨k1,k2⟩
     have hp:=rdP hs.2.1 h1 ep k1
     have hv:PRep w _ v (a.eval x):=rdP hs.2.1 h2 ex k2
     have hcl:=hv.cells (qb3 hc.2.2)
     exact qlu ho hd h3 hl hc.1 hs hp ((Zy v).map .p) (by rw [hcl.length,hc.2.1]) (by simpa using hc.2.1) (hcl.oneCells hc.2.2) (fun j y hy=>by
      rw [zt,zi] at hy
      obtain ⟨q,hq,rfl⟩:=hy
      exact hcl.get hq)
    ·cases h
   ·cases h
  ·rename_i cp k of cx k' ep ex
   split at h
   ·rename_i cs bt hl
    split at h
    ·rename_i hc
     obtain ⟨hc1,rfl⟩:=hc
     simp only [zh,zl] at h;obtain ⟨rfl,rfl,rfl⟩:=h
     intro E B w ι a hs ⟨k1,k2⟩
     have hp:=rdP hs.2.1 h1 ep k1
     have hv:=rdP hs.2.1 h2 ex k2
     obtain ⟨A,n,cc,ev⟩:=hv.2
     have hcell:(a.eval x).cells.toList=[a.eval x]:=by rw [ev];rfl
     exact qlu ho hd h3 hl hc1 hs hp [.row k'] (by rw [hcell];rfl) rfl (by rw [hcell];simp [ev,Value.oneCell']) (fun j y hy=>by
      cases j with
      |zero=>simp at hy;subst hy;exact ⟨_,by rw [hcell];rfl,hv⟩
      |succ j=>simp at hy)
    ·cases h
   ·cases h
  ·rename_i cp k of cx k' ep ex
   split at h
   ·rename_i cs bt kv0 kt0 et0 hl hl2
    split at h
    ·rename_i hc
     obtain ⟨hc1,rfl⟩:=hc
     simp only [zh,zl] at h;obtain ⟨rfl,rfl,rfl⟩:=h
     intro E B w ι a hs ⟨k1,k2⟩
     have hp:=rdP hs.2.1 h1 ep k1
     have hv:=rdP hs.2.1 h2 ex k2
     obtain ⟨r0,ents,clock,ev0,_⟩:=hs.1.sim.obj _ _ hl2
     have ev:a.eval x=.map (some r0):=by rw [show a.eval x=ι k' from hv.1];exact ev0
     have hcell:(a.eval x).cells.toList=[a.eval x]:=by rw [ev];rfl
     exact qlu ho hd h3 hl hc1 hs hp [.mp k'] (by rw [hcell];rfl) rfl (by rw [hcell];simp [ev,Value.oneCell']) (fun j y hy=>by
      cases j with
      |zero=>simp at hy;subst hy;exact ⟨_,by rw [hcell];rfl,hv⟩
      |succ j=>simp at hy)
    ·cases h
   ·cases h
  ·rename_i cp k of cx f ep ex
   split at h
   ·rename_i cs bt hl
    split at h
    ·rename_i hc
     obtain ⟨hc1,rfl⟩:=hc
     simp only [zh,zl] at h;obtain ⟨rfl,rfl,rfl⟩:=h
     intro E B w ι a hs ⟨k1,k2⟩
     have hp:=rdP hs.2.1 h1 ep k1
     have hv:=rdP hs.2.1 h2 ex k2
     have ev:a.eval x=.func (.func f) #[] #[]:=hv
     have hcell:(a.eval x).cells.toList=[a.eval x]:=by rw [ev];rfl
     exact qlu ho hd h3 hl hc1 hs hp [.p (.clo f [])] (by rw [hcell];rfl) rfl (by rw [hcell];simp [ev,Value.oneCell']) (fun j y hy=>by
      cases j with
      |zero=>simp at hy;subst hy;exact ⟨_,by rw [hcell];rfl,⟨[],ev,rfl⟩⟩
      |succ j=>simp at hy)
    ·cases h
   ·cases h
  ·rename_i cp k z i of cx v ep ex
   split at h
   ·rename_i es e z' ap hl
    split at h
    ·rename_i hc
     obtain ⟨rfl,hc1,hc2,hc3⟩:=hc
     simp only [zh,zl] at h;obtain ⟨rfl,rfl,rfl⟩:=h
     intro E B w ι a hs ⟨k1,k2,k3⟩
     have hp:=rdP hs.2.1 h1 ep k1
     have hv:PRep w _ v (a.eval x):=rdP hs.2.1 h2 ex k2
     have hcl:=hv.cells (qb3 hc3)
     exact qzx ho hd h3 hl hc1 k3 hs hp ((Zy v).map wk1) (by simpa using hc2) (hcl.oneCells hc3) hcl.wk1
    ·cases h
   ·rename_i es e z' hl
    split at h
    ·rename_i hc
     obtain ⟨rfl,hc1,hc2,hc3⟩:=hc
     simp only [zh,zl] at h;obtain ⟨rfl,rfl,rfl⟩:=h
     intro E B w ι a hs ⟨k1,k2,k3⟩
     have hp:=rdP hs.2.1 h1 ep k1
     have hv:PRep w _ v (a.eval x):=rdP hs.2.1 h2 ex k2
     have hcl:=hv.cells (qb3 hc3)
     exact qrS ho hd h3 hl hc1 k3 hs hp ((Zy v).map .p) (by rw [hcl.length,hc2]) (by simpa using hc2) (hcl.oneCells hc3) (fun j y hy=>by
      rw [zt,zi] at hy
      obtain ⟨q,hq,rfl⟩:=hy
      exact hcl.get hq)
    ·cases h
   ·cases h
  ·rename_i cp k z i of cx k' ep ex
   split at h
   ·rename_i es e z' hl
    split at h
    ·rename_i hc
     obtain ⟨rfl,hc1,rfl⟩:=hc
     simp only [zh,zl] at h;obtain ⟨rfl,rfl,rfl⟩:=h
     intro E B w ι a hs ⟨k1,k2,k3⟩
     have hp:=rdP hs.2.1 h1 ep k1
     have hv:=rdP hs.2.1 h2 ex k2
     obtain ⟨A,n,cc,ev⟩:=hv.2
     have hcell:(a.eval x).cells.toList=[a.eval x]:=by rw [ev];rfl
     exact qrS ho hd h3 hl hc1 k3 hs hp [.row k'] (by rw [hcell];rfl) rfl (by rw [hcell];simp [ev,Value.oneCell']) (fun j y hy=>by
      cases j with
      |zero=>simp at hy;subst hy;exact ⟨_,by rw [hcell];rfl,hv⟩
      |succ j=>simp at hy)
    ·cases h
   ·cases h
  ·cases h
 ·rename_i args ts e z by_ x' y' ho
  split at hchk
  ·rename_i x y t t' e1 e2
   simp only [zj,beq_iff_eq] at hchk
   obtain ⟨⟨⟨⟨rfl,h1⟩,h2⟩,h3⟩,h4⟩:=hchk
   rw [qaV e1,qaV e2] at ho
   simp only [Zd] at h
   split at h
   ·rename_i d' cx i z2 es2 ex ey
    split at h
    ·rename_i es e' z' hl
     split at h
     ·rename_i hc
      obtain ⟨rfl,rfl,rfl⟩:=hc
      simp only [zh,zl] at h;obtain ⟨rfl,rfl,rfl⟩:=h
      exact qzH ho hd (qcp h3) h4 h1 h2 ex rfl hl ey
     ·cases h
    ·rename_i es e' z' hl
     split at h
     ·rename_i hc
      obtain ⟨rfl,rfl,rfl⟩:=hc
      simp only [zh,zl] at h;obtain ⟨rfl,rfl,rfl⟩:=h
      exact qwV ho hd (qcp h3) h4 h1 h2 ex rfl hl ey
     ·cases h
    ·cases h
   ·rename_i ex ey
    split at h
    ·rename_i hl hy
     split at h
     ·rename_i hl2
      split at h
      ·rename_i hc
       obtain ⟨rfl,rfl,rfl⟩:=hc
       simp only [zh,zl] at h;obtain ⟨rfl,rfl,rfl⟩:=h
       exact quR ho hd (qcp h3) h4 h1 h2 ex (Prod.ext rfl hy) hl hl2
      ·cases h
     ·cases h
    ·cases h
   ·rename_i d' cx z0 z2 es2 ex ey
    split at h
    ·rename_i hc
     subst hc
     simp only [zh,zl] at h;obtain ⟨rfl,rfl,rfl⟩:=h
     exact qwW ho hd (qcp h3) h4 h1 h2 ex rfl ey
    ·cases h
   ·cases h
  ·cases hchk
 ·rename_i t x y e z by_ zero x' y' ho
  simp only [zj,beq_iff_eq] at hchk
  obtain ⟨⟨⟨⟨h1,h2⟩,h3⟩,h4⟩,h5⟩:=hchk
  simp only [Zd] at h
  split at h
  ·rename_i d' cx kx n cy ky c' ex ey
   simp only [zh,zl] at h;obtain ⟨rfl,rfl,rfl⟩:=h
   exact qzA ho hd (qcp h3) h4 h5 h1 h2 ex ey
  ·cases h
 ·exact qam hchk0 hd h
 ·exact qam hchk0 hd h
 ·exact qam hchk0 hd h
 ·exact qam hchk0 hd h
 ·exact qam hchk0 hd h
 ·exact qam hchk0 hd h
 ·rename_i t x hi z x' hi' ho
  simp only [zj] at hchk
  obtain ⟨⟨h1,h2⟩,h3⟩:=hchk
  split at h3
  ·rename_i e he
   simp only [Zd] at h
   split at h
   ·rename_i d' cx i ch k n ex eh
    split at h
    ·rename_i es et z' ap hl
     split at h
     ·rename_i hc
      obtain ⟨rfl,rfl⟩:=hc
      simp only [zh,zl] at h;obtain ⟨rfl,rfl,rfl⟩:=h
      exact qzw ho hd (qcp he) h3 h1 h2 ex eh hl
     ·cases h
    ·cases h
   ·cases h
  ·cases h3
 ·rename_i args ts e z by_ zero x' y' ho
  split at hchk
  ·rename_i x y t t' e1 e2
   simp only [zj,beq_iff_eq] at hchk
   obtain ⟨⟨⟨⟨⟨h1,h2⟩,h3⟩,h4⟩,h5⟩,h6⟩:=hchk
   obtain ⟨kn,hkn⟩:=zT.1 h4
   rw [qaV e1,qaV e2] at ho
   simp only [Zd] at h
   split at h
   ·rename_i d' cx z0 cy ky n ex ey
    simp only [zh,zl] at h;obtain ⟨rfl,rfl,rfl⟩:=h
    exact qzG ho hd (qcp h3) (qjN hkn) h5 h6 h1 h2 ex ey
   ·rename_i d' cx i cy ky n ex ey
    split at h
    ·rename_i es e' z' hl
     split at h
     ·rename_i hc
      obtain ⟨rfl,rfl⟩:=hc
      simp only [zh,zl] at h;obtain ⟨rfl,rfl,rfl⟩:=h
      exact qwU ho hd (qcp h3) (qjN hkn) h5 h6 h1 h2 ex ey hl
     ·cases h
    ·cases h
   ·cases h
  ·cases hchk
 ·rename_i t kt et ho
  simp only [Zd] at h
  split at h
  ·simp only [zh,zl] at h;obtain ⟨rfl,rfl,rfl⟩:=h
   exact qzB ho hd
  ·cases h
 ·rename_i t m k x m' k' x' ho
  simp only [zj] at hchk
  obtain ⟨⟨⟨h1,h2⟩,h3⟩,h4⟩:=hchk
  split at h4
  ·rename_i kt et ht
   simp only [Zd] at h
   split at h
   ·rename_i cm q ck s cv y em ex ev
    split at h
    ·rename_i kv kt0 et0 hl
     simp only [zh,zl] at h;obtain ⟨rfl,rfl,rfl⟩:=h
     exact quQ (.inl ho) hd ht (qd8 h4) h1 h2 h3 em ex ev hl
    ·rename_i kv kt0 et0 hl
     simp only [zh,zl] at h;obtain ⟨rfl,rfl,rfl⟩:=h
     exact qkO (.inl ho) hd ht (qd8 h4) h1 h2 h3 em ex ev hl
    ·cases h
   ·rename_i cm q ck s cv q' em ex ev
    split at h
    ·rename_i kv kt0 et0 hl
     simp only [zh,zl] at h;obtain ⟨rfl,rfl,rfl⟩:=h
     exact qkO (.inl ho) hd ht (qd8 h4) h1 h2 h3 em ex ev hl
    ·cases h
   ·cases h
  ·cases h4
 ·rename_i t m k x m' k' x' ho
  simp only [zj] at hchk
  obtain ⟨⟨⟨h1,h2⟩,h3⟩,h4⟩:=hchk
  split at h4
  ·rename_i kt et ht
   simp only [Zd] at h
   split at h
   ·rename_i cm q ck s cv y em ex ev
    split at h
    ·rename_i kv kt0 et0 hl
     simp only [zh,zl] at h;obtain ⟨rfl,rfl,rfl⟩:=h
     exact quQ (.inr ho) hd ht (qd8 h4) h1 h2 h3 em ex ev hl
    ·rename_i kv kt0 et0 hl
     simp only [zh,zl] at h;obtain ⟨rfl,rfl,rfl⟩:=h
     exact qkO (.inr ho) hd ht (qd8 h4) h1 h2 h3 em ex ev hl
    ·cases h
   ·rename_i cm q ck s cv q' em ex ev
    split at h
    ·rename_i kv kt0 et0 hl
     simp only [zh,zl] at h;obtain ⟨rfl,rfl,rfl⟩:=h
     exact qkO (.inr ho) hd ht (qd8 h4) h1 h2 h3 em ex ev hl
    ·cases h
   ·cases h
  ·cases h4
 ·exact qam hchk0 hd h
 ·exact qam hchk0 hd h
 ·rename_i t p x sz p' x' ho
  simp only [zj] at hchk
  obtain ⟨⟨h1,h2⟩,h3⟩:=hchk
  have hdn:=hst rfl
  rw [hdn] at hd
  simp only [Zd] at h
  split at h
  ·rename_i cp k of cx l ep ex
   split at h
   ·rename_i cs bt hl
    split at h
    ·rename_i hc
     simp only [zh,zl] at h;obtain ⟨rfl,rfl,rfl⟩:=h
     exact qzy ho hd h3 h1 h2 ep ex hl hc.1 hc.2
    ·cases h
   ·cases h
  ·cases h
 ·exact qam hchk0 hd h
 ·exact qam hchk0 hd h
 ·cases hchk
end
section
variable {P:Program} {E:Envt} {B:Base} {w w':World} {L L':Objs} {ι ι':Key→Value} {fr:List AV} {a:Act} {o:Oper} {X:Nat→Prop}
theorem St.x_own (h:St E B w L ι) {b:Nat} (hb:B.X b):b < w.heap.size∧¬ Own L ι b:=by
 refine ⟨h.x_lt hb,fun ho=>?_⟩
 rcases h.own b ho with h'|h'
 ·exact h.xdis b hb h'
 ·have:=h.xlt b hb;omega
theorem St.e_own (h:St E B w L ι) {b:Nat} (hb:E.bl b):b < w.heap.size∧¬ Own L ι b:=by
 refine ⟨Nat.lt_of_lt_of_le (h.envb b hb).1 h.grow.size,fun ho=>?_⟩
 rcases h.own b ho with h'|h'
 ·exact (h.envb b hb).2 h'
 ·have:=(h.envb b hb).1;omega
theorem StF.back (hs:StF E B w L ι fr a) {i:Nat} (hb:Back E w B.X L ι w' L' ι' i):StF E B w' L' ι' (fr.map (·.kill (.l i))) a:=by
 obtain ⟨h,hf,hd⟩:=hs
 have hk:Keeps w w' (fun b=>Own L ι b∨B.X b) (fun b=>Own L' ι' b∨B.X b):=by
  intro b hlt hu
  refine ⟨hb.grow.block b hlt (fun h=>hu (.inl h)),?_⟩
  rintro (h'|h')
  ·rcases hb.own b h' with h''|h''
   ·exact hu (.inl h'')
   ·omega
  ·exact hu (.inr h')
 refine ⟨⟨h.grow.trans hb.grow h.own,hb.sim,fun b hb'=>?_,h.xlt,fun k h0 h1=>?_,E.mono w w' (fun b hb'=>hb.grow.block b (h.e_own hb').1 (h.e_own hb').2) h.env,h.envb,h.loc,h.xdis⟩,⟨by simpa using hf.1,fun j x hx=>?_⟩,hd⟩
 ·rcases hb.own b hb' with h'|h'
  ·exact h.own b h'
  ·exact .inr (Nat.le_trans h.grow.size h')
 ·by_cases e:k=.l i
  ·subst e;rw [h.loc i] at h0;cases h0
  ·rcases hb.news k h1 with h2|h2
   ·rw [hb.keep k e];exact h.keep k h0 h2
   ·exact absurd h2 e
 ·rw [zt,zi] at hx
  obtain ⟨y,hy,rfl⟩:=hx
  obtain ⟨u,hu,hr⟩:=hf.2 j y hy
  have:=(hr.mono hk).kill (k:=.l i) (v:=ι' (.l i))
  rw [show (fun j=>if j=.l i then ι' (.l i) else ι j)=ι' from by
   funext j
   by_cases e:j=.l i
   ·rw [if_pos e,e]
   ·rw [if_neg e,hb.keep j e]] at this
  exact ⟨u,hu,this⟩
theorem qqJ {U:Nat→Prop} (hf:FRep w U ι fr a):∀ {xs:List Operand} {ys:List Opd},qcr xs ys=true→Zl fr ys→ARepL w U ι (Zm fr ys) (xs.map a.eval):=by
 intro xs
 induction xs with
 |nil=>intro ys h _;cases ys with
  |nil=>simp [Zm,ARepL]
  |cons y ys=>simp [qcr] at h
 |cons x xs ih=>intro ys h hc;cases ys with
  |nil=>simp [qcr] at h
  |cons y ys=>
   simp only [qcr,zj] at h
   simp only [Zl] at hc
   simp only [Zm,zx,ARepL]
   exact ⟨_,_,rfl,(rdOk hf h.1).un hc.1,ih h.2 hc.2⟩
theorem ARepL.append {U:Nat→Prop} {as bs:List AV} {vs us:List Value} (h:ARepL w U ι as vs) (k:ARepL w U ι bs us):ARepL w U ι (as++bs) (vs++us):=by
 induction as generalizing vs with
 |nil=>simp only [ARepL] at h;subst h;simpa using k
 |cons a as ih=>simp only [ARepL] at h;obtain ⟨v,r,rfl,h1,h2⟩:=h;simp only [List.cons_append,ARepL];exact ⟨v,_,rfl,h1,ih h2⟩
theorem qgR {f:FuncId} (hf:fnB P f=true) (args:Array Value) (w:World):(callFunc f args).run P w=.ok (.enter f args) w:=by
 unfold fnB at hf
 split at hf
 ·rename_i fn hfn
  simp only [zj,bne_iff_ne,ne_eq] at hf
  have hb:fn.body.isNone=false:=by cases hq:fn.body<;>simp_all
  simp only [callFunc,Sem.run_bind,run_program,Result.andThen_ok,hfn]
  rw [show (fn.name == "runtime.NumGoroutine")=false from by simpa using hf.2]
  simp [hb]
 ·cases hf
theorem qu5 {f:FuncId} {as:List AV} {vs:List Value} {d:Option Nat} {K:List AV→Objs→Prop} {R:Ending→World→Prop} (hs:StF E B w L ι fr a) (hA:ARepL w (fun b=>Own L ι b∨B.X b) ι as vs) (h:qbF P E f as L d fr K)
  (hR:∀ v w' fr' L' ι',K fr' L'→StF E B w' L' ι' fr' (a.put d v)→R (.returned v) w'):Calls P f vs.toArray w R:=by
 rcases h with ⟨φ,hp,hk⟩|⟨bk,post,hgc,hh,hsep,hk⟩|⟨i,hg⟩
 ·refine (hp w B.X ι vs hs.1.sim (fun b hb=>hs.1.x_own hb) hs.1.env (fun b hb=>hs.1.e_own hb) hA).mono ?_
  rintro e w' ⟨v,x,rfl,hx,hr,hG⟩
  have h1:=hs.grown hG
  exact hR v w' _ _ ι (hk x hx) ⟨h1.1,h1.2.1.setD d (r:=.p x) hr,by rw [Act.put_defers'];exact h1.2.2⟩
 ·refine (hgc w B.X ι vs hs.1.sim (fun b hb=>hs.1.x_own hb) hs.1.env (fun b hb=>hs.1.e_own hb) hA).mono ?_
  rintro e w' ⟨v,r,os',rfl,hp,hr,hb⟩
  have hk:=hk r os' hp
  have h1:StF E B w' (putB L bk os') ι fr a∧(∀ b,Own (putB L bk os') ι b↔Own L ι b):=by
   cases bk with
   |none=>exact ⟨hs.grown hb,fun b=>Iff.rfl⟩
   |some q=>
    obtain ⟨k,os⟩:=q
    obtain ⟨hG,hat⟩:=hb
    have hO:∀ b,Own (Zas L k os'.ao) ι b↔Own L ι b:=by
     intro b
     constructor
     ·rintro ⟨j,q,e1,e2⟩
      rw [qad] at e1
      by_cases e:j=k
      ·exact ⟨k,_,hh,by rw [← e];exact e2⟩
      ·rw [if_neg e] at e1;exact ⟨j,q,e1,e2⟩
     ·rintro ⟨j,q,e1,e2⟩
      by_cases e:j=k
      ·exact ⟨k,_,by rw [qad,if_pos rfl],by rw [← e];exact e2⟩
      ·exact ⟨j,q,by rw [qad,if_neg e];exact e1,e2⟩
    exact ⟨hs.wr k _ os'.ao hh hG (hat.mono (fun b hlt hu=>⟨rfl,fun h=>hu (.inl (h.imp (hO b).1 id))⟩) (fun _ _=>rfl)).ok,hO⟩
  obtain ⟨h1,hO⟩:=h1
  have hkU:Keeps w' w' (fun b=>Own L ι b∨B.X b) (fun b=>Own (putB L bk os') ι b∨B.X b):=fun b _ hu=>⟨rfl,fun h=>hu (h.imp (hO b).1 id)⟩
  have hrow:∀ (es:List (List PV)) (e z d:Nat) (u:Value),(∀ b,blk u=some b↔r.own v b)→FrOk w' (fun b=>Own L ι b∨B.X b) w.heap.size es e z u→Zbk (some d) bk→
    StF E B w' (Zau (putB L bk os') (.l d) (.row es e z true)) (updI ι (.l d) u) (fr.map (·.kill (.l d))) a∧(∃ A n c,u=.slice A n c)∧Keeps w' w' (fun b=>(Own L ι b∨B.X b)∨blk u=some b) (fun b=>Own (Zau (putB L bk os') (.l d) (.row es e z true)) (updI ι (.l d) u) b∨B.X b):=by
   intro es e z d u hown hr hsep
   obtain ⟨vs',r1,r2,r3,r4,r5⟩:=hr
   have hsl:∃ A n c,u=.slice A n c:=by
    rcases r1.2 with ⟨q1,_⟩|⟨g,cap,cur,fz,q1,_⟩
    ·exact ⟨none,0,0,q1⟩
    ·exact ⟨_,_,_,q1⟩
   have hU:∀ b,Own (Zau (putB L bk os') (.l d) (.row es e z true)) (updI ι (.l d) u) b→blk u=some b∨Own L ι b:=by
    intro b hb'
    rcases qnc hb' with h''|⟨j,q,_,h2,h3⟩
    ·exact .inl h''
    ·exact .inr ((hO b).1 ⟨j,q,h2,h3⟩)
   have hkp:Keeps w' w' (fun b=>(Own L ι b∨B.X b)∨blk u=some b) (fun b=>Own (Zau (putB L bk os') (.l d) (.row es e z true)) (updI ι (.l d) u) b∨B.X b):=by
    refine fun b _ hu=>⟨rfl,?_⟩
    rintro (h'|h')
    ·rcases hU b h' with h''|h''
     ·exact hu (.inr h'')
     ·exact hu (.inl (.inl h''))
    ·exact hu (.inl (.inr h'))
   refine ⟨?_,hsl,hkp⟩
   cases bk with
   |none=>
    have hG:Grow w w' (Old L ι (.l d)):=qwJ hb
    have hbv:∀ b,blk u=some b→w.heap.size≤b∨Old L ι (.l d) b:=fun b hb'=>.inl (r5 b hb')
    exact hs.upd d u (.row es e z true) hG hbv ⟨vs',by simpa [updI] using r1,r2,PRepL.mono hkp _ _ r3,r4⟩
   |some q=>
    obtain ⟨k,os⟩:=q
    obtain ⟨hG,hat⟩:=hb
    have hki:k≠.l d:=hsep
    have hik:updI ι (.l d) u k=ι k:=by simp [updI,hki]
    have hkill:os'.ao.kill (.l d)=os'.ao:=by cases os'<;>simp [OS.ao,AO.kill,AV.kill,Function.comp_def]
    refine hs.wrupd d k hki _ os'.ao (.row es e z true) hh u hG r5 ?_ ⟨vs',by simpa [updI] using r1,r2,PRepL.mono hkp _ _ r3,r4⟩
    rw [hkill]
    refine ObjAt.ok ?_
    rw [hik]
    refine hat.mono (fun b hlt hu=>⟨rfl,?_⟩) (fun _ _=>rfl)
    rintro (h'|h')
    ·rcases hU b h' with h''|h''
     ·exact hu (.inr ((hown b).1 h''))
     ·exact hu (.inl (.inl h''))
    ·exact hu (.inl (.inr h'))
  cases r with
  |p x=>exact hR v w' _ _ ι hk ⟨h1.1,h1.2.1.setD d (r:=.p x) (PRep.mono hkU _ _ hr),by rw [Act.put_defers'];exact h1.2.2⟩
  |fr es e z=>
   cases d with
   |none=>exact hR v w' _ _ ι hk h1
   |some d=>
    obtain ⟨fin,hsl,_⟩:=hrow es e z d v (fun b=>Iff.rfl) hr hsep
    exact hR v w' _ _ _ hk ⟨fin.1,fin.2.1.put d ⟨by simp [updI],hsl⟩,by rw [Act.put_defers'];exact fin.2.2⟩
  |ft es e z ps=>
   cases d with
   |none=>exact hR v w' _ _ ι hk h1
   |some d=>
    obtain ⟨u,us,rfl,hfr,hps⟩:=hr
    obtain ⟨fin,hsl,hkp⟩:=hrow es e z d u (fun b=>Iff.rfl) hfr hsep
    exact hR _ w' _ _ _ hk ⟨fin.1,fin.2.1.put d ⟨us,by simp [updI],by simpa [updI] using hsl,PRepL.mono hkp _ _ hps⟩,by rw [Act.put_defers'];exact fin.2.2⟩
 ·refine (hg w B.X ι vs hs.1.sim (fun b hb=>hs.1.x_own hb) hs.1.env (fun b hb=>hs.1.e_own hb) hA).mono ?_
  rintro e w' ⟨v,r,L',ι',rfl,hk,hr,hB⟩
  have h1:=hs.back hB
  exact hR v w' _ _ ι' hk ⟨h1.1,h1.2.1.setD d hr,by rw [Act.put_defers'];exact h1.2.2⟩
def qq2:Option Value→Option Bool
 |some (.bool b)=>some b
 |_=>none
theorem qwG {U:Nat→Prop} {want:Bool}:∀ {x:AV} {v:Value} {c0:Bool},ARep w U ι x v→Zh want x=some c0→(qq2 (some v) == some want)=c0:=by
 intro x
 induction x with
 |p y=>
  intro v c0 hr h
  cases y<;>simp only [Zh,reduceCtorEq,zh] at h
  rename_i b
  have:=PRep.bool_eq hr
  subst this
  subst h
  cases b<;>cases want<;>rfl
 |g c a ih=>
  intro v c0 hr h
  cases c with
  |true=>
   cases hq:Zh want a with
   |some q=>
    simp only [Zh,hq,Bool.true_and,zh] at h
    rw [ih (hr.1 rfl) hq,h]
   |none=>simp [Zh,hq] at h
  |false=>
   have hc:c0=false:=by
    cases hq:Zh want a with
    |some q=>simpa [Zh,hq] using h.symm
    |none=>simpa [Zh,hq] using h.symm
   have:=hr.2 rfl
   subst this
   subst hc
   simp [qq2]
 |_=>intro v c0 hr h;simp [Zh] at h
theorem qzp {U:Nat→Prop} (hf:FRep w U ι fr a) {ops:Array Oper} {j s:Nat} {want c0:Bool} (hj:(ops[j]?).bind (·.dst)=some s) (h:Zg fr s want=some c0):(yielded ops a.tmps j == some want)=c0:=by
 have hy:yielded ops a.tmps j=qq2 (a.tmps[s]?):=by
  unfold yielded qq2
  rw [hj]
  simp only [Option.bind_some]
  cases a.tmps[s]? with
  |none=>rfl
  |some v=>cases v<;>rfl
 rw [hy]
 unfold Zg at h
 cases hq:fr[s]? with
 |none=>rw [zu,hq] at h;simp [Zh] at h
 |some y=>
  rw [zu,hq] at h
  obtain ⟨v,hv,hr⟩:=hf.2 s y hq
  rw [hv]
  exact qwG hr h
theorem qzs (hs:StF E B w L ι fr a) {x:Opd} {k:Key} {y:PV} (h:Zap fr L x=some (k,y)):StF E B w (Zav k y L) ι (fr.map (·.thaw k y)) a:=by
 unfold Zap at h
 split at h
 ·split at h
  ·rename_i hl
   simp only [zh,zl] at h
   obtain ⟨rfl,rfl⟩:=h
   exact hs.thaw hl
  ·rename_i hl
   obtain ⟨es',e1,e2⟩:=zi.1 h
   simp only [zl] at e2
   obtain ⟨rfl,rfl⟩:=e2
   have:=(hs.retell _ _ _ hl (fun U ho=>ho.plain e1)).thaw (by rw [qad,if_pos rfl])
   rwa [qmM (by rw [hl];rfl)] at this
  ·cases h
 ·split at h
  ·rename_i hl
   simp only [zh,zl] at h
   obtain ⟨rfl,rfl⟩:=h
   exact hs.thawM hl
  ·rename_i hl
   obtain ⟨kv',e1,e2⟩:=zi.1 h
   simp only [zl] at e2
   obtain ⟨rfl,rfl⟩:=e2
   have:=(hs.retell _ _ _ hl (fun U ho=>ho.plainM e1)).thawM (by rw [qad,if_pos rfl])
   rwa [qmM (by rw [hl];rfl)] at this
  ·cases h
 ·cases h
theorem qxo {U:Nat→Prop} {f:FuncId} {ks:List Key} (hk:∀ k∈ks,∃ b,ι k=.pointer (some ⟨b,0,none⟩)):ARepL w U ι (ks.map fun k=>.adr k 0) (ks.map ι):=by
 induction ks with
 |nil=>simp [ARepL]
 |cons k ks ih=>
  simp only [zx,ARepL]
  obtain ⟨b,hb⟩:=hk k (by simp)
  exact ⟨_,_,rfl,⟨b,hb,hb⟩,ih (fun j hj=>hk j (by simp [hj]))⟩
theorem qrX {op:Op} {f:FuncId} {args:List Opd} (h:qaG P op (.call f args)=true):∃ args0 ts,op=.call { callee:=.value (.func f),args:=args0,argTypes:=ts }∧fnB P f=true∧qcr args0.toList args=true:=by
 cases op with
 |call c=>
  obtain ⟨callee,as,ts⟩:=c
  cases callee with
  |value x=>cases x with
   |func g=>
    simp only [qaG,zj,beq_iff_eq] at h
    obtain ⟨⟨rfl,h1⟩,h2⟩:=h
    exact ⟨as,ts,rfl,h1,h2⟩
   |_=>simp [qaG] at h
  |invoke r m=>simp [qaG] at h
  |builtin b=>cases b<;>simp [qaG] at h
 |_=>simp [qaG] at h
theorem qpp {op:Op} {n:Nat} {f:FuncId} {args:List Opd} (h:qaG P op (.pcall n f args)=true):qaG P op (.call f args)=true:=by
 cases op with
 |call c=>
  obtain ⟨callee,as,ts⟩:=c
  cases callee with
  |value x=>cases x with
   |func g=>simpa only [qaG] using h
   |_=>simp [qaG] at h
  |invoke r m=>simp [qaG] at h
  |builtin b=>cases b<;>simp [qaG] at h
 |_=>simp [qaG] at h
theorem quW {op:Op} {n:Nat} {g:Opd} {args:List Opd} (h:qaG P op (.pcv n g args)=true):qaG P op (.callv g args)=true:=by
 cases op with
 |call c=>
  obtain ⟨callee,as,ts⟩:=c
  cases callee with
  |value x=>cases x with
   |tmp t=>cases g with
    |t t'=>simpa only [qaG] using h
    |_=>simp [qaG] at h
   |_=>simp [qaG] at h
  |invoke r m=>simp [qaG] at h
  |builtin b=>cases b<;>simp [qaG] at h
 |_=>simp [qaG] at h
theorem quX {op:Op} {g:Opd} {args:List Opd} (h:qaG P op (.callv g args)=true):∃ t args0 ts,op=.call { callee:=.value (.tmp t),args:=args0,argTypes:=ts }∧g=.t t∧qcr args0.toList args=true:=by
 cases op with
 |call c=>
  obtain ⟨callee,as,ts⟩:=c
  cases callee with
  |value x=>cases x with
   |tmp t=>
    cases g with
    |t t'=>
     simp only [qaG,zj,beq_iff_eq] at h
     obtain ⟨rfl,h2⟩:=h
     exact ⟨_,as,ts,rfl,rfl,h2⟩
    |_=>simp [qaG] at h
   |_=>simp [qaG] at h
  |invoke r m=>simp [qaG] at h
  |builtin b=>cases b<;>simp [qaG] at h
 |_=>simp [qaG] at h
theorem qBo {op:Op} {x:Opd} (h:qaG P op (.fz x)=true):False:=by
 cases op with
 |call c=>
  obtain ⟨callee,as,ts⟩:=c
  cases callee with
  |value x=>cases x<;>simp [qaG] at h
  |invoke r m=>simp [qaG] at h
  |builtin b=>cases b<;>simp [qaG] at h
 |_=>simp [qaG] at h
theorem qw1 {op:Op} {x:Nat} (h:qaG P op (.hole x)=true):False:=by
 cases op with
 |call c=>
  obtain ⟨callee,as,ts⟩:=c
  cases callee with
  |value x=>cases x<;>simp [qaG] at h
  |invoke r m=>simp [qaG] at h
  |builtin b=>cases b<;>simp [qaG] at h
 |_=>simp [qaG] at h
theorem qBn {op:Op} (h:qaG P op .re=true):False:=by
 cases op with
 |call c=>
  obtain ⟨callee,as,ts⟩:=c
  cases callee with
  |value x=>cases x<;>simp [qaG] at h
  |invoke r m=>simp [qaG] at h
  |builtin b=>cases b<;>simp [qaG] at h
 |_=>simp [qaG] at h
theorem qvW (hs:StF E B w L ι fr a) {x:AV} {v:Value} {q:Nat×List (List PV)} (e:Zv L x=some q) (h:ARep w (fun b=>Own L ι b∨B.X b) ι x v):∃ A n c,v=.slice A n c∧(q.2≠[]→A.isNone=false):=by
 unfold Zv at e
 split at e
 ·cases e
  obtain ⟨A,c,rfl,_,h2⟩:=h
  exact ⟨A,_,c,rfl,fun hne=>by obtain ⟨b,off,rfl,_⟩:=h2 hne;rfl⟩
 ·cases e
  exact ⟨none,0,0,h,fun hne=>absurd rfl hne⟩
 ·split at e
  ·rename_i hl
   cases e
   obtain ⟨vs,hown,_⟩:=hs.1.sim.obj _ _ hl
   rcases hown.2 with ⟨g1,g2⟩|⟨g,cap,cur,fz,g1,_⟩
   ·exact ⟨none,0,0,by rw [h.1,g1],fun hne=>absurd (zr g2) hne⟩
   ·exact ⟨_,_,cap,by rw [h.1,g1],fun _=>rfl⟩
  ·cases e
 ·cases e
theorem qzN {op:Op} {x':Opd} (h:qaG P op (.isn x')=true):∃ t x y t',op=.binOp .eql t x y t'∧qah x x'=true∧qah y (.c (.nl 0))=true∧∃ e,P.underlying t=some (.slice e):=by
 cases op with
 |call c=>
  obtain ⟨callee,as,ts⟩:=c
  cases callee with
  |value x=>cases x<;>simp [qaG] at h
  |invoke r m=>simp [qaG] at h
  |builtin b=>cases b<;>simp [qaG] at h
 |binOp op t x y t'=>
  simp only [qaG,zj,beq_iff_eq] at h
  obtain ⟨⟨⟨rfl,h1⟩,h2⟩,h3⟩:=h
  obtain ⟨e,he⟩:=zT.1 h3
  exact ⟨t,x,y,t',rfl,h1,h2,e,qcp he⟩
 |_=>simp [qaG] at h
theorem StF.any_at (hs:StF E B w L ι fr a) (d:Nat):StF E B w L ι (fr.set d .any) a:=by
 refine ⟨hs.1,⟨by simp [hs.2.1.1],fun i x hx=>?_⟩,hs.2.2⟩
 rw [List.getElem?_set] at hx
 by_cases hi:d=i
 ·subst hi
  rw [if_pos rfl] at hx
  split at hx
  ·rename_i hl
   cases hx
   obtain ⟨v,hv,_⟩:=hs.2.1.2 d _ (zg hl)
   exact ⟨v,hv,trivial⟩
  ·cases hx
 ·rw [if_neg hi] at hx
  exact hs.2.1.2 i x hx
theorem qqq (hs:StF E B w L ι fr a) (d:Nat):StF E B w (Zau L (.l d) Zam) (updI ι (.l d) (.slice none 0 0)) ((fr.map (·.kill (.l d))).set d .any) a:=
 (hs.upd d (.slice none 0 0) Zam (Grow.refl _ _) (by simp [blk]) ⟨[],⟨by simp,.inl ⟨by simp [updI],rfl⟩⟩,by simp,by simp [PRepL],by simp⟩).any_at d
theorem qBl {c:Prop} {fr':List AV} {L':Objs} (h:Eff1 P o fr L c fr' L') (hc:c) (hs:StF E B w L ι fr a) {next:Act→World→Prop} {Q:Exit→Act→World→Prop} (hn:∀ ι' a' w',StF E B w' L' ι' fr' a'→next a' w'):o.wp P a w next Q:=by
 obtain ⟨v,nx,w',ι',hr,hx,hs'⟩:=h E B w ι a hs hc
 unfold Oper.wp
 rw [hr]
 rcases hx with rfl|⟨rfl,rfl⟩
 ·exact hn ι' _ w' hs'
 ·exact hn ι' _ w' hs'
theorem qzT (h:Sim w X L ι) {ks:List Key} (hk:Zk L (ks.map fun k=>.adr k 0)=true):∀ k∈ks,∃ b,ι k=.pointer (some ⟨b,0,none⟩):=by
 induction ks with
 |nil=>simp
 |cons k ks ih=>
  simp only [zx,Zk,zj] at hk
  intro j hj
  simp only [zC] at hj
  rcases hj with rfl|hj
  ·have:=hk.1
   split at this
   ·rename_i cs t hl
    obtain ⟨b,vs,e1,_⟩:=h.obj j _ hl
    exact ⟨b,e1⟩
   ·cases this
  ·exact ih hk.2 j hj
theorem qz7 {w:World} {U:Nat→Prop} {ι:Key→Value} {ps:List PV} {vs:List Value} (h:PRepL w U ps vs):ARepL w U ι (ps.map .p) vs:=by
 induction ps generalizing vs with
 |nil=>exact h
 |cons x r ih=>
  simp only [PRepL] at h
  obtain ⟨v,s,rfl,h1,h2⟩:=h
  exact ⟨v,s,rfl,h1,ih h2⟩
theorem qBi (h:Sim w X L ι) {U:Nat→Prop} {fr:List AV} {g:Opd} {f:FuncId} {as:List AV} (hf:Zaq fr g=some (f,as)) (hk:Zk L as=true) {v:Value} (hv:ARep w U ι (rd fr g).un.2 v):∃ us:List Value,v=.func (.func f) #[] us.toArray∧ARepL w U ι as us:=by
 unfold Zaq at hf
 split at hf
 ·rename_i c f' ks e
  simp only [zh,zl] at hf
  obtain ⟨rfl,rfl⟩:=hf
  rw [e] at hv
  exact ⟨ks.map ι,hv,qxo (f:=f') (qzT h hk)⟩
 ·rename_i c f' ps e
  simp only [zh,zl] at hf
  obtain ⟨rfl,rfl⟩:=hf
  rw [e] at hv
  obtain ⟨vs,e2,h2⟩:=hv
  exact ⟨vs,e2,qz7 h2⟩
 ·cases hf
set_option maxHeartbeats 2000000 in
theorem qqh {Y:List PV} {ops:Array Oper} {i:IOper} {is:List IOper} {K:List AV→Objs→Prop} (hchk:qnP P ops o i=true) (hfz:isFz i=false) (h:qaa P E Y (i :: is) fr L K) (hs:StF E B w L ι fr a)
  {next:Act→World→Prop} {Q:Exit→Act→World→Prop} (hn:∀ fr' L' ι' a' w',qaa P E Y is fr' L' K→StF E B w' L' ι' fr' a'→next a' w') :
  if Region.wanted o (yielded ops a.tmps) then o.wp P a w next Q else next (a.put o.dst undef) w:=by
 obtain ⟨d,op,gd⟩:=i
 simp only [qnP,zj,beq_iff_eq,zU,Bool.not_eq_true'] at hchk
 obtain ⟨⟨⟨hd,hop⟩,hst⟩,hgd⟩:=hchk
 have hst':isSt op=true→d=none:=fun e=>by rcases hst with h|h;rw [e] at h;cases h;exact h
 have callCase:∀ (f:FuncId) (args:List Opd),qaG P o.op (.call f args)=true→Zl fr args→qbF P E f (Zm fr args) L d fr (fun fr L=>qaa P E Y is fr L K)→o.wp P a w next Q:=by
  intro f args hop hc h
  obtain ⟨args0,ts,ho,h1,h2⟩:=qrX hop
  have hrun:(execOp a.eval o).run P w=.ok (.enter f (args0.map a.eval)) w:=by
   simp only [execOp,ho,resolve,Act.eval,Deferred.ofValue,Sem.run_bind,Sem.run_pure,Result.andThen_ok,invoke,qgR h1]
   simp
  unfold Oper.wp
  rw [hrun,Oper.upon_enter]
  have hA:=qqJ hs.2.1 h2 hc
  have e3:args0.map a.eval=(args0.toList.map a.eval).toArray:=by apply Array.ext';simp
  rw [e3]
  exact qu5 hs hA h (fun v w' fr' L' ι' hk hs'=>hn fr' L' ι' _ w' hk (by rw [hd];exact hs'))
 have pureCase:∀ (f:FuncId) (args:List Opd) (x:PV) (r:AV),qaG P o.op (.call f args)=true→Zl fr args→qkA P E f (Zm fr args) L (·=x)→(∀ w' v,StF E B w' L ι fr a→PRep w' (fun b=>Own L ι b∨B.X b) x v→ARep w' (fun b=>Own L ι b∨B.X b) ι r v)→qaa P E Y is (Zf fr d r) L K→o.wp P a w next Q:=by
  intro f args x r hop hc hp hrr hk
  obtain ⟨args0,ts,ho,h1,h2⟩:=qrX hop
  have hrun:(execOp a.eval o).run P w=.ok (.enter f (args0.map a.eval)) w:=by
   simp only [execOp,ho,resolve,Act.eval,Deferred.ofValue,Sem.run_bind,Sem.run_pure,Result.andThen_ok,invoke,qgR h1]
   simp
  unfold Oper.wp
  rw [hrun,Oper.upon_enter]
  have hA:=qqJ hs.2.1 h2 hc
  have e3:args0.map a.eval=(args0.toList.map a.eval).toArray:=by apply Array.ext';simp
  rw [e3]
  refine (hp w B.X ι _ hs.1.sim (fun b hb=>hs.1.x_own hb) hs.1.env (fun b hb=>hs.1.e_own hb) hA).mono ?_
  rintro e w' ⟨v,y,rfl,rfl,hr,hG⟩
  have h1:=hs.grown hG
  exact hn _ _ ι _ w' hk ⟨h1.1,by rw [hd];exact h1.2.1.setD d (hrr w' v h1 hr),by rw [Act.put_defers'];exact h1.2.2⟩
 have runv:∀ (g:Opd) (args:List Opd) (f:FuncId) (ks:List AV),qaG P o.op (.callv g args)=true→Zaq fr g=some (f,ks)→(rd fr g).un.1→fnB P f=true→Zk L ks=true→Zl fr args→
   ∃ vs:List Value,ARepL w (fun b=>Own L ι b∨B.X b) ι (Zm fr args++ks) vs∧(execOp a.eval o).run P w=.ok (.enter f vs.toArray) w:=by
  intro g args f ks hop hfn h0 hfb hbk hc
  obtain ⟨t,args0,ts,ho,rfl,h2⟩:=quX hop
  obtain ⟨us,hg',hus⟩:=qBi hs.1.sim hfn hbk ((rdOk hs.2.1 (show qah (.tmp t) (.t t)=true by simp [qah])).un h0)
  have hrun:(execOp a.eval o).run P w=.ok (.enter f (args0.map a.eval++us.toArray)) w:=by
   simp only [execOp,ho,resolve,hg',Deferred.ofValue,Sem.run_bind,Sem.run_pure,Result.andThen_ok,invoke]
   simp [qgR hfb]
  have hA:=(qqJ hs.2.1 h2 hc).append hus
  have e3:args0.map a.eval++us.toArray=(args0.toList.map a.eval++us).toArray:=by apply Array.ext';simp
  rw [e3] at hrun
  exact ⟨_,hA,hrun⟩
 have callvCase:∀ (g:Opd) (args:List Opd) (f:FuncId) (ks:List AV),qaG P o.op (.callv g args)=true→Zaq fr g=some (f,ks)→(rd fr g).un.1→fnB P f=true→Zk L ks=true→Zl fr args→qbF P E f (Zm fr args++ks) L d fr (fun fr L=>qaa P E Y is fr L K)→o.wp P a w next Q:=by
  intro g args f ks hop hfn h0 hfb hbk hc h
  obtain ⟨vs,hA,hrun⟩:=runv g args f ks hop hfn h0 hfb hbk hc
  unfold Oper.wp
  rw [hrun,Oper.upon_enter]
  exact qu5 hs hA h (fun v w' fr' L' ι' hk hs'=>hn fr' L' ι' _ w' hk (by rw [hd];exact hs'))
 have purevCase:∀ (g:Opd) (args:List Opd) (f:FuncId) (ks:List AV) (x:PV) (r:AV),qaG P o.op (.callv g args)=true→Zaq fr g=some (f,ks)→(rd fr g).un.1→fnB P f=true→Zk L ks=true→Zl fr args→qkA P E f (Zm fr args++ks) L (·=x)→(∀ w' v,PRep w' (fun b=>Own L ι b∨B.X b) x v→ARep w' (fun b=>Own L ι b∨B.X b) ι r v)→qaa P E Y is (Zf fr d r) L K→o.wp P a w next Q:=by
  intro g args f ks x r hop hfn h0 hfb hbk hc hp hrr hk
  obtain ⟨vs,hA,hrun⟩:=runv g args f ks hop hfn h0 hfb hbk hc
  unfold Oper.wp
  rw [hrun,Oper.upon_enter]
  refine (hp w B.X ι _ hs.1.sim (fun b hb=>hs.1.x_own hb) hs.1.env (fun b hb=>hs.1.e_own hb) hA).mono ?_
  rintro e w' ⟨v,y,rfl,rfl,hr,hG⟩
  have h1:=hs.grown hG
  exact hn _ _ ι _ w' hk ⟨h1.1,by rw [hd];exact h1.2.1.setD d (hrr w' v hr),by rw [Act.put_defers'];exact h1.2.2⟩
 cases gd with
 |none=>
  have hgn:o.guard=none:=by cases hq:o.guard<;>simp_all
  have hw:Region.wanted o (yielded ops a.tmps)=true:=by simp [Region.wanted,hgn]
  rw [if_pos hw]
  cases op with
  |call f args=>
   simp only [qaa] at h
   exact callCase f args hop h.1 h.2
  |pcall n f args=>
   simp only [qaa] at h
   exact pureCase f args _ (.p _) (qpp hop) h.1.1 h.1.2 (fun w' v _ hr=>hr) h.2
  |callv g args=>
   simp only [qaa] at h
   split at h
   ·rename_i f ks hfn
    obtain ⟨h0,hfb,hbk,hc,h⟩:=h
    exact callvCase g args f ks hop hfn h0 hfb hbk hc h
   ·exact h.elim
  |pcv n g args=>
   simp only [qaa] at h
   split at h
   ·rename_i f ks hfn
    obtain ⟨⟨h0,hfb,hbk,hc,hp⟩,h⟩:=h
    exact purevCase g args f ks _ (.p _) (quW hop) hfn h0 hfb hbk hc hp (fun w' v hr=>hr) h
   ·exact h.elim
  |fz x=>exact (qBo hop).elim
  |hole x=>exact (qw1 hop).elim
  |re=>exact (qBn hop).elim
  |isn x=>
   simp only [qaa] at h
   split at h
   ·rename_i z es e
    obtain ⟨h0,h⟩:=h
    obtain ⟨t,x0,y0,t',ho,h1,h2,et,ht⟩:=qzN hop
    obtain ⟨A,n,c,e3,e4⟩:=qvW hs e ((rdOk hs.2.1 h1).un h0)
    have hy:a.eval y0=.slice none 0 0:=rdOk hs.2.1 h2
    have hrun:(execOp a.eval o).run P w=.ok (.value (.bool A.isNone)) w:=by
     simp only [execOp,ho,e3,hy,Sem.run_bind]
     have:=Lib.run_eql_slice_nil (P:=P) w t et A n c 0 0 ht
     rw [qiP (by simp) (by simp),Result.andThen_ok,this]
     rfl
    unfold Oper.wp
    rw [hrun,Oper.upon_value]
    exact hn _ _ ι _ w (h A.isNone (fun hA=>Classical.byContradiction fun hne=>by rw [e4 hne] at hA;cases hA)) ⟨hs.1,by rw [hd];exact hs.2.1.setD d (r:=.p (.bool A.isNone)) rfl,by rw [Act.put_defers'];exact hs.2.2⟩
   ·exact h.elim
  |dcall b f args=>exact absurd hop (by unfold qaG;split<;>simp_all)
  |fcl n f args e z=>exact absurd hop (by unfold qaG;split<;>simp_all)
  |_=>
   simp only [qaa] at h
   split at h
   ·rename_i c fr' L' he
    exact qBl (qqB hop hd hst' he) h.1 hs (fun ι' a' w' hs'=>hn _ _ ι' a' w' h.2 hs')
   ·exact h.elim
 |some sw=>
  obtain ⟨s,want⟩:=sw
  obtain ⟨j,hj,hjs⟩:∃ j,o.guard=some (j,want)∧(ops[j]?).bind (·.dst)=some s:=by
   cases hq:o.guard with
   |none=>rw [hq] at hgd;simp at hgd
   |some q=>obtain ⟨j,w1⟩:=q;rw [hq] at hgd;simp only [zj,beq_iff_eq] at hgd;exact ⟨j,by rw [hgd.1],hgd.2⟩
  have hskip:∀ c0 x,c0=false→StF E B w L ι (Zf fr d (.g c0 x)) (a.put o.dst undef):=by
   intro c0 x e
   subst e
   exact ⟨hs.1,by rw [hd];exact hs.2.1.setD d ⟨(fun h=>by cases h),fun _=>rfl⟩,by rw [Act.put_defers'];exact hs.2.2⟩
  simp only [qaa] at h
  split at h
  ·rename_i c0 hc0
   have hy:=qzp hs.2.1 hjs hc0
   have hw:Region.wanted o (yielded ops a.tmps)=c0:=by simp only [Region.wanted,hj];exact hy
   rw [hw]
   cases op with
   |call f args=>
    simp only at h
    rcases h with ⟨hc,⟨x,hx,hk⟩|⟨ht,hf⟩⟩
    ·cases c0 with
     |true=>
      rw [if_pos rfl]
      exact pureCase f args x (.g true (.p x)) hop (hc rfl) (hx rfl) (fun w' v _ hr=>⟨fun _=>hr,fun h=>by cases h⟩) hk
     |false=>
      rw [if_neg (by simp)]
      exact hn _ _ ι _ w hk (hskip _ _ rfl)
    ·cases c0 with
     |true=>
      rw [if_pos rfl]
      exact callCase f args hop (hc rfl) (ht rfl)
     |false=>
      rw [if_neg (by simp)]
      exact hn _ _ ι _ w (hf rfl) (hskip _ _ rfl)
   |pcall n f args=>
    simp only at h
    cases c0 with
    |true=>
     rw [if_pos rfl]
     exact pureCase f args _ (.g true (.p _)) (qpp hop) (h.1 rfl).1 (h.1 rfl).2 (fun w' v _ hr=>⟨fun _=>hr,fun h=>by cases h⟩) h.2
    |false=>
     rw [if_neg (by simp)]
     exact hn _ _ ι _ w h.2 (hskip _ _ rfl)
   |callv g args=>
    simp only at h
    split at h
    ·rename_i f ks hfn
     obtain ⟨⟨hfb,hbk⟩,hc,⟨x,hx,hk⟩|⟨ht,hf⟩⟩:=h
     ·cases c0 with
      |true=>
       rw [if_pos rfl]
       exact purevCase g args f ks x (.g true (.p x)) hop hfn (hc rfl).1 hfb hbk (hc rfl).2 (hx rfl) (fun w' v hr=>⟨fun _=>hr,fun h=>by cases h⟩) hk
      |false=>
       rw [if_neg (by simp)]
       exact hn _ _ ι _ w hk (hskip _ _ rfl)
     ·cases c0 with
      |true=>
       rw [if_pos rfl]
       exact callvCase g args f ks hop hfn (hc rfl).1 hfb hbk (hc rfl).2 (ht rfl)
      |false=>
       rw [if_neg (by simp)]
       exact hn _ _ ι _ w (hf rfl) (hskip _ _ rfl)
    ·obtain ⟨rfl,h⟩:=h
     rw [if_neg (by simp)]
     exact hn _ _ ι _ w h (hskip _ _ rfl)
   |pcv n g args=>
    simp only at h
    split at h
    ·rename_i f ks hfn
     cases c0 with
     |true=>
      rw [if_pos rfl]
      obtain ⟨h0,hfb,hbk,hc,hp⟩:=h.1 rfl
      exact purevCase g args f ks _ (.g true (.p _)) (quW hop) hfn h0 hfb hbk hc hp (fun w' v hr=>⟨fun _=>hr,fun h=>by cases h⟩) h.2
     |false=>
      rw [if_neg (by simp)]
      exact hn _ _ ι _ w h.2 (hskip _ _ rfl)
    ·exact h.elim
   |_=>
    simp only at h
    split at h
    ·rename_i c r he
     cases c0 with
     |true=>
      rw [if_pos rfl]
      have hv:=ql7 hop he
      obtain ⟨v,w',e,hG,hr⟩:=hv E B w ι a hs (h.1 rfl)
      have h1:=hs.grown hG
      unfold Oper.wp
      rw [e,Oper.upon_value]
      exact hn _ _ ι _ w' h.2 ⟨h1.1,by rw [hd];exact h1.2.1.setD d (r:=.g true r) ⟨fun _=>hr,fun h=>by cases h⟩,by rw [Act.put_defers'];exact h1.2.2⟩
     |false=>
      rw [if_neg (by simp)]
      exact hn _ _ ι _ w h.2 (hskip _ _ rfl)
    ·obtain ⟨_,rfl,h⟩:=h
     rw [if_neg (by simp)]
     exact hn _ _ ι _ w h (hskip _ _ rfl)
  ·exact h.elim
theorem qxR {sz:Nat} {ag:Bool} {x:Opd} {q:Prop×AV} (h:Ze fr L (.ldl sz ag x)=some q):Ze fr L (.ld sz ag x)=some q:=by
 simp only [Ze] at h ⊢
 split at h
 ·rename_i e;rw [e];exact h
 ·rename_i e;rw [e]
  split at h
  ·rename_i hl;simp only [hl];exact h
  ·rename_i hl;simp only [hl];exact h
  ·cases h
 ·rename_i e;rw [e];exact h
 ·cases h
theorem qxQ {n sz:Nat} {ag:Bool} {x:Opd} {q:Prop×AV} (h:Ze fr L (.ldn n sz ag x)=some q):Ze fr L (.ld sz ag x)=some q:=by
 simp only [Ze] at h ⊢
 split at h
 ·rename_i e;try rw [e]
  exact h
 ·rename_i e;try rw [e]
  split at h
  ·cases h
  ·exact h
 ·rename_i e;try rw [e]
  split at h
  ·cases h
  ·exact h
 ·cases h
theorem qAo {d:Option Nat} {n sz:Nat} {p x:Opd} {q:Prop×List AV×Objs} (h:Zd d fr L (.stk n sz p x)=some q):Zd d fr L (.st sz p x)=some q:=by
 simp only [Zd] at h ⊢
 split at h
 ·rename_i e1 e2
  try rw [e1,e2]
  split at h
  ·rename_i hk
   subst hk
   exact h
  ·cases h
 ·rename_i e1 e2
  try rw [e1,e2]
  split at h
  ·rename_i hk
   subst hk
   exact h
  ·cases h
 ·cases h
theorem qzj {d:Option Nat} {n:Nat} {m k v:Opd} {q:Prop×List AV×Objs} (h:Zd d fr L (.mpk n m k v)=some q):Zd d fr L (.mpu m k v)=some q:=by
 simp only [Zd] at h ⊢
 split at h
 ·rename_i e1 e2 e3
  try rw [e1,e2,e3]
  split at h
  ·rename_i hk
   subst hk
   try simp only
   split at h
   ·rename_i hl;try rw [hl]
    exact h
   ·cases h
  ·cases h
 ·cases h
theorem DCallOp.call {b:Bool} {f:FuncId} {as:List AV} {d:Option Nat} {K:List AV→Objs→Prop} (h:DCallOp b P E f as L d fr K):qbF P E f as L d fr K:=by
 obtain ⟨k,t,cs,post,h1,h2,h3,h4,h5,h6⟩:=h
 refine .inr (.inl ⟨some (k,.box t cs),_,h1 L h2,h2,?_,?_⟩)
 ·cases d with
  |none=>trivial
  |some e=>exact h3 e rfl
 ·rintro r os' ⟨x,cs',rfl,rfl,hp⟩
  exact h6 x cs' hp
theorem qqI {Y:List PV} {i:IOper} {is:List IOper} {K:List AV→Objs→Prop} (h:qaa P E Y (i :: is) fr L K):qaa P E Y ({ i with op:=i.op.norm } :: is) fr L K:=by
 obtain ⟨d,op,gd⟩:=i
 cases op
 case ldl sz ag x=>
  simp only [IOp.norm]
  cases gd with
  |none=>
   simp only [qaa,Zd] at h ⊢
   split at h
   ·rename_i c fr' L' e
    obtain ⟨q,e1,e2⟩:=zi.1 e
    rw [qxR e1]
    simp only [zN,e2]
    exact h
   ·exact h.elim
  |some sw=>
   obtain ⟨s,want⟩:=sw
   simp only [qaa] at h ⊢
   split at h
   ·split at h
    ·rename_i c r e
     rw [qxR e]
     exact h
    ·simp [qcF] at h
   ·exact h.elim
 case ldn n sz ag x=>
  simp only [IOp.norm]
  cases gd with
  |none=>
   simp only [qaa,Zd] at h ⊢
   split at h
   ·rename_i c fr' L' e
    obtain ⟨q,e1,e2⟩:=zi.1 e
    rw [qxQ e1]
    simp only [zN,e2]
    exact h
   ·exact h.elim
  |some sw=>
   obtain ⟨s,want⟩:=sw
   simp only [qaa] at h ⊢
   split at h
   ·split at h
    ·rename_i c r e
     rw [qxQ e]
     exact h
    ·simp [qcF] at h
   ·exact h.elim
 case stk n sz p x=>
  simp only [IOp.norm]
  cases gd with
  |none=>
   simp only [qaa] at h ⊢
   split at h
   ·rename_i c fr' L' e
    rw [qAo e]
    exact h
   ·exact h.elim
  |some sw=>
   obtain ⟨s,want⟩:=sw
   simp only [qaa,Ze] at h
   split at h
   ·simp [qcF] at h
   ·exact h.elim
 case mpk n m k v=>
  simp only [IOp.norm]
  cases gd with
  |none=>
   simp only [qaa] at h ⊢
   split at h
   ·rename_i c fr' L' e
    rw [qzj e]
    exact h
   ·exact h.elim
  |some sw=>
   obtain ⟨s,want⟩:=sw
   simp only [qaa,Ze] at h
   split at h
   ·simp [qcF] at h
   ·exact h.elim
 case dcall b f args=>
  simp only [IOp.norm]
  cases gd with
  |none=>
   simp only [qaa] at h ⊢
   exact ⟨h.1,h.2.call⟩
  |some sw=>
   obtain ⟨s,want⟩:=sw
   simp only [qaa,Ze] at h
   split at h
   ·simp [qcF] at h
   ·exact h.elim
 case fcl n f args e z=>
  simp only [IOp.norm]
  cases gd with
  |none=>
   simp only [qaa] at h ⊢
   split at h
   ·rename_i d ps z' es e1 e2
    obtain ⟨⟨⟨⟨h1,h2⟩,_⟩,hc,rfl,hF⟩,h⟩:=h
    refine ⟨hc,.inr (.inl ⟨none,_,by rw [qxh e1];exact hF L,trivial,trivial,fun r os' hp=>?_⟩)⟩
    subst hp
    simp only [resK,putB,Zau,h1,h2]
    exact h
   ·exact h.elim
  |some sw=>
   obtain ⟨s,want⟩:=sw
   simp only [qaa,Ze] at h
   split at h
   ·simp [qcF] at h
   ·exact h.elim
 case alcd t zero=>
  simp only [IOp.norm]
  cases gd with
  |none=>
   simp only [qaa,Zd] at h ⊢
   cases d with
   |none=>exact h
   |some d=>
    obtain ⟨⟨⟨h1,h2⟩,_⟩,h⟩:=h
    simp only [Zau,h1,h2]
    exact ⟨trivial,h⟩
  |some sw=>
   obtain ⟨s,want⟩:=sw
   simp only [qaa,Ze] at h
   split at h
   ·simp [qcF] at h
   ·exact h.elim
 case bsrd e z parts=>
  simp only [IOp.norm]
  cases gd with
  |none=>
   simp only [qaa,Zd] at h ⊢
   cases d with
   |none=>exact h
   |some d=>
    cases hb:Zan fr z parts with
    |none=>rw [hb] at h;exact (show False from h).elim
    |some q=>
     rw [hb] at h
     cases hp:qmf parts with
     |true=>rw [hp] at h;exact (show False from h).elim
     |false=>
      rw [hp] at h
      obtain ⟨⟨⟨⟨h1,h2⟩,_⟩,hc⟩,h⟩:=h
      simp only [Zau,h1,h2]
      split
      ·rename_i e1
       split at e1
       ·simp [qmf] at hp
       ·cases e1;exact ⟨hc,h⟩
      ·rename_i e1
       split at e1
       ·simp [qmf] at hp
       ·cases e1
  |some sw=>
   obtain ⟨s,want⟩:=sw
   simp only [qaa,Ze] at h
   split at h
   ·simp [qcF] at h
   ·exact h.elim
 all_goals exact h
theorem qeB {Y:List PV} {ops:Array Oper} {i:IOper} {is:List IOper} {K:List AV→Objs→Prop} (hchk:qgi P ops o i=true) (hfz:isFz i=false) (h:qaa P E Y (i :: is) fr L K) (hs:StF E B w L ι fr a)
  {next:Act→World→Prop} {Q:Exit→Act→World→Prop} (hn:∀ fr' L' ι' a' w',qaa P E Y is fr' L' K→StF E B w' L' ι' fr' a'→next a' w') :
  if Region.wanted o (yielded ops a.tmps) then o.wp P a w next Q else next (a.put o.dst undef) w:=by
 simp only [qgi,zU] at hchk
 rcases hchk with hd|hchk
 ·obtain ⟨d,op,gd⟩:=i
  cases op<;>simp only [qxT,z7] at hd
  cases gd with
  |none=>simp only [qaa,Zd,Ze,Option.map_none] at h
  |some sw=>
   obtain ⟨s,want⟩:=sw
   simp only [qaa,Ze] at h
   split at h
   ·simp [qcF] at h
   ·exact h.elim
 ·refine qqh hchk ?_ (qqI h) hs hn
  obtain ⟨d,op,gd⟩:=i
  cases op<;>first|exact hfz|(simp only [IOp.norm];cases d<;>cases gd<;>rfl)
theorem Zc.look {L L':Objs} (h:Zc L' L):∀ (k:Key) (a:AO),Zar L' k=some a→Zar L k=some a:=by
 induction L' with
 |nil=>intro k a h;simp [Go.Proofs.YtmpdnpljdcincaaGreatDoor.Zar] at h
 |cons q r ih=>
  intro k a hk
  obtain ⟨k',a'⟩:=q
  simp only [Zc] at h
  simp only [Go.Proofs.YtmpdnpljdcincaaGreatDoor.Zar] at hk
  split at hk
  ·rename_i e;cases hk;rw [← e];exact h.1
  ·exact ih h.2 k a hk
theorem Za.get:∀ {as bs:List AV},Za as bs→as.length=bs.length∧∀ (i:Nat) (b:AV),bs[i]?=some b→∃ a,as[i]?=some a∧Zb a b:=by
 intro as
 induction as with
 |nil=>intro bs h;cases bs with
  |nil=>simp
  |cons b bs=>exact h.elim
 |cons a as ih=>intro bs h;cases bs with
  |nil=>exact h.elim
  |cons b bs=>
   simp only [Za] at h
   obtain ⟨h1,h2⟩:=ih h.2
   refine ⟨by simp [h1],fun i x hx=>?_⟩
   cases i with
   |zero=>simp at hx;subst hx;exact ⟨a,rfl,h.1⟩
   |succ i=>simp at hx;simpa using h2 i x hx
theorem Zb.rep {U:Nat→Prop} {x y:AV} {v:Value} (h:Zb x y) (hr:ARep w U ι x v):ARep w U ι y v:=by
 unfold Zb at h
 split at h
 ·trivial
 ·subst h;exact hr
theorem StF.weak {fr':List AV} (hs:StF E B w L ι fr a) (h1:Za fr fr') (h2:Zc L' L):StF E B w L' ι fr' a:=by
 obtain ⟨h,hf,hd⟩:=hs
 have hl:=Zc.look h2
 have hO:∀ b,Own L' ι b→Own L ι b:=fun b ⟨k,q,e1,e2⟩=>⟨k,q,hl k q e1,e2⟩
 have hk:Keeps w w (fun b=>Own L ι b∨B.X b) (fun b=>Own L' ι b∨B.X b):=fun b _ hu=>⟨rfl,fun h=>hu (h.imp (hO b) id)⟩
 obtain ⟨g1,g2⟩:=h1.get
 refine ⟨⟨h.grow,⟨fun j q hj=>?_,fun j j' q q' b hj hj'=>h.sim.inj j j' q q' b (hl j q hj) (hl j' q' hj')⟩,fun b hb=>h.own b (hO b hb),h.xlt,fun k h0 h1=>?_,h.env,h.envb,h.loc,h.xdis⟩,⟨by rw [hf.1,g1],fun i y hy=>?_⟩,hd⟩
 ·exact (h.sim.obj j q (hl j q hj)).mono hk (fun _ _=>rfl)
 ·obtain ⟨q,hq⟩:=zT.1 h1
  exact h.keep k h0 (by rw [hl k q hq];rfl)
 ·obtain ⟨x,hx,hxy⟩:=g2 i y hy
  obtain ⟨v,hv,hr⟩:=hf.2 i x hx
  exact ⟨v,hv,(hxy.rep hr).mono hk⟩
end
section
variable {P:Program} {E:Envt} {B:Base} {w w':World} {L L':Objs} {ι ι':Key→Value} {fr:List AV} {a:Act} {o:Oper} {X:Nat→Prop}
theorem qqn {i:IOper} (h:isFz i=true):(∃ x,i=⟨none,.fz x,none⟩)∨(∃ x,i=⟨none,.hole x,none⟩)∨i=⟨none,.re,none⟩:=by
 unfold isFz at h
 split at h
 ·exact .inl ⟨_,rfl⟩
 ·exact .inr (.inl ⟨_,rfl⟩)
 ·exact .inr (.inr rfl)
 ·cases h
theorem qve {Y:List PV} {i:IOper} {is:List IOper} {K:List AV→Objs→Prop} (hi:isFz i=true) (h:qaa P E Y (i :: is) fr L K) (hs:StF E B w L ι fr a):∃ fr' L' ι',qaa P E Y is fr' L' K∧StF E B w L' ι' fr' a:=by
 rcases qqn hi with ⟨x,rfl⟩|⟨x,rfl⟩|rfl
 ·simp only [qaa] at h
  split at h
  ·rename_i k y hk;exact ⟨_,_,_,h,qzs hs hk⟩
  ·exact ⟨_,_,_,h,hs⟩
 ·simp only [qaa] at h
  exact ⟨_,_,_,h,qqq hs x⟩
 ·simp only [qaa] at h
  obtain ⟨fr',L',hre,h⟩:=h
  obtain ⟨ι',hs'⟩:=hre B w ι a hs
  exact ⟨fr',L',ι',h,hs'⟩
theorem qpz {Y:List PV} {ops:Array Oper} {K:List AV→Objs→Prop} {Q:Exit→Act→World→Prop} (hK:∀ fr L ι a w,K fr L→StF E B w L ι fr a→Q .normal a w):∀ (is:List IOper) (os:List Oper) (fr:List AV) (L:Objs) (ι:Key→Value) (a:Act) (w:World),
  qeL P ops os is=true→qaa P E Y is fr L K→StF E B w L ι fr a→wpList P ops Q os a w:=by
 intro is
 induction is with
 |nil=>
  intro os fr L ι a w hchk h hs
  simp only [qeL,List.isEmpty_iff] at hchk
  subst hchk
  exact wpList_nil (hK fr L ι a w h hs)
 |cons i is ih=>
  intro os fr L ι a w hchk h hs
  simp only [qeL] at hchk
  by_cases hf:isFz i=true
  ·rw [if_pos hf] at hchk
   obtain ⟨fr',L',ι',h',hs'⟩:=qve hf h hs
   exact ih os fr' L' ι' a w hchk h' hs'
  ·rw [if_neg hf] at hchk
   split at hchk
   ·rename_i o os'
    simp only [zj] at hchk
    refine wpList_step fun Kc hKc=>?_
    exact qeB hchk.1 (by simpa using hf) h hs (fun fr' L' ι' a' w' h' hs'=>hKc a' w' (ih os' fr' L' ι' a' w' hchk.2 h' hs'))
   ·cases hchk
def qvx (P:Program) (D:Array Oper→Option (List Nat)→List IOper→Bool):Prop:=
 (∀ (E:Envt) (B:Base) (Y:List PV) (ops:Array Oper) (is:List IOper) (id:Nat) (fr:List AV) (L:Objs) (ι:Key→Value) (a:Act) (w:World) (K:List AV→Objs→Prop) (Q:Exit→Act→World→Prop),
  (∀ fr L ι a w,K fr L→StF E B w L ι fr a→Q .normal a w)→qeL P ops ops.toList is=true→D ops none is=true→qaa P E Y is fr L K→StF E B w L ι fr a→(Code.region id ops true).wp P Q a w)∧
 ∀ (E:Envt) (B:Base) (Y:List PV) (ops:Array Oper) (pm:List Nat) (is:List IOper) (id:Nat) (fr:List AV) (L:Objs) (ι:Key→Value) (a:Act) (w:World) (K:List AV→Objs→Prop) (Q:Exit→Act→World→Prop),
  (∀ fr L ι a w,K fr L→StF E B w L ι fr a→Q .normal a w)→qw2 P ops pm is=true→D ops (some pm) is=true→qaa P E Y is fr L K→StF E B w L ι fr a→(Code.region id ops true).wp P Q a w
theorem qpy {D:Array Oper→Option (List Nat)→List IOper→Bool} (hD:qvx P D):∀ (ic:IC) (c:Code) (fr:List AV) (L:Objs) (Q:AQ),chkC P D ic c=true→awp P E ic fr L Q→AWp P E c fr L Q:=by
 intro ic
 induction ic with
 |skip=>intro c fr L Q hc h;cases c<;>simp [chkC] at hc;exact AWp.skip h
 |reg ops=>
  intro c fr L Q hc h
  cases c with
  |region id os draw=>
   cases draw with
   |true=>simp [chkC] at hc
   |false=>
    simp only [chkC] at hc
    intro B w ι a hs
    refine wp_region_list ?_
    exact qpz (Q:=Q.conc E B) (fun fr L ι a w hk hs=>⟨fr,L,ι,hk,hs⟩) ops os.toList fr L ι a w hc h hs
  |_=>simp [chkC] at hc
 |drg ops=>
  intro c fr L Q hc h
  cases c with
  |region id os draw=>
   cases draw with
   |false=>simp [chkC] at hc
   |true=>
    simp only [chkC,zj] at hc
    intro B w ι a hs
    obtain ⟨Y,h⟩:=h
    exact hD.1 E B Y os ops id fr L ι a w _ (Q.conc E B) (fun fr L ι a w hk hs=>⟨fr,L,ι,hk,hs⟩) hc.1 hc.2 h hs
  |_=>simp [chkC] at hc
 |drp pm ops=>
  intro c fr L Q hc h
  cases c with
  |region id os draw=>
   cases draw with
   |false=>simp [chkC] at hc
   |true=>
    simp only [chkC,zj] at hc
    intro B w ι a hs
    obtain ⟨Y,h⟩:=h
    exact hD.2 E B Y os pm ops id fr L ι a w _ (Q.conc E B) (fun fr L ι a w hk hs=>⟨fr,L,ι,hk,hs⟩) hc.1 hc.2 h hs
  |_=>simp [chkC] at hc
 |seq x y ihx ihy=>
  intro c fr L Q hc h
  cases c with
  |seq a b=>
   simp only [chkC,zj] at hc
   refine AWp.seq ((ihx a fr L _ hc.1 h).mono ?_)
   intro e fr L hq
   cases e<;>first|exact ihy b fr L Q hc.2 hq|exact hq
  |_=>simp [chkC] at hc
 |cond d x y ihx ihy=>
  intro c fr L Q hc h
  cases c with
  |cond c a b=>
   simp only [chkC,zj] at hc
   simp only [awp] at h
   split at h
   ·rename_i t ht
    refine AWp.cond (b:=t) (fun B w ι ac hs=>?_) (fun e=>ihx a fr L Q hc.1.2 (h.1 e)) (fun e=>ihy b fr L Q hc.2 (h.2 e))
    have:=rdOk hs.2.1 hc.1.1
    rw [ht] at this
    exact PRep.bool_eq this
   ·exact h.elim
  |_=>simp [chkC] at hc
 |block id x ih=>
  intro c fr L Q hc h
  cases c with
  |block j a=>
   simp only [chkC,zj,beq_iff_eq] at hc
   obtain ⟨rfl,hc⟩:=hc
   exact AWp.block (ih a fr L _ hc h)
  |_=>simp [chkC] at hc
 |loop x ih=>
  intro c fr L Q hc h
  cases c with
  |loop a=>
   simp only [chkC] at hc
   obtain ⟨I,⟨n,fr0,L0,e1,h0⟩,hr⟩:=h
   intro B w ι ac hs
   obtain ⟨ι0,hs0⟩:=e1 B w ι ac hs
   refine AWp.loop (Q:=Q) I (fun n fr L hi=>?_) n h0 B w ι0 ac hs0
   intro B w ι ac hs
   refine wp_mono (ih a fr L _ hc (hr n fr L hi) B w ι ac hs) ?_
   rintro e a' w' ⟨fr',L',ι',q,s⟩
   cases e with
   |normal=>obtain ⟨m,fr2,L2,hm,e1,hi⟩:=q;obtain ⟨ι2,s2⟩:=e1 B w' ι' a' s;exact ⟨fr2,L2,ι2,⟨m,hm,hi⟩,s2⟩
   |_=>exact ⟨fr',L',ι',q,s⟩
  |_=>simp [chkC] at hc
 |exit id=>
  intro c fr L Q hc h
  cases c with
  |exit j=>simp only [chkC,beq_iff_eq] at hc;subst hc;exact AWp.exit h
  |_=>simp [chkC] at hc
 |ret=>
  intro c fr L Q hc h
  cases c with
  |ret=>exact AWp.ret h
  |_=>simp [chkC] at hc
 |dead=>intro c fr L Q hc h;exact h.elim
 |cut x ih=>
  intro c fr L Q hc h
  simp only [chkC] at hc
  obtain ⟨fr',L',e1,h⟩:=h
  intro B w ι ac hs
  obtain ⟨ι',hs'⟩:=e1 B w ι ac hs
  exact ih c fr' L' Q hc h B w ι' ac hs'
end
inductive IRes where
 |t (i:Nat)
 |c (i sz:Nat) (ag:Bool)
def Zbe (L:Objs):AV→Option PV
 |.p x=>some (wk1 x)
 |.row (.l i)=>match Zar L (.l i) with
  |some (.row es _ z _)=>some (.sl z es)
  |_=>none
 |.mp (.l i)=>match Zar L (.l i) with
  |some (.map kv _ _)=>some (.mpv (kv.map (·.1)) (kv.map (·.2)))
  |_=>none
 |_=>none
def Zbf (L:Objs):List AV→Option (List PV)
 |[]=>some []
 |x :: r=>match Zbe L x,Zbf L r with
  |some y,some l=>some (y :: l)
  |_,_=>none
def Zbd (fr:List AV) (L:Objs):IRes→Option PV
 |.t i=>match fr.getD i .any with
  |.p x=>some (wk x)
  |a=>Zbe L a
 |.c i sz ag=>match fr.getD i .any with
  |.adr k o=>match Zar L k with
   |some (.box cs _)=>if o+sz≤cs.length then (if ag then (Zbf L ((cs.drop o).take sz)).map .agg else Zbe L (cs.getD o .any)) else none
   |_=>none
  |_=>none
def Zbc (fr:List AV) (L:Objs):List IRes→Option (List PV)
 |[]=>some []
 |r :: rs=>match Zbd fr L r,Zbc fr L rs with
  |some y,some l=>some (y :: l)
  |_,_=>none
def qkn:List PV→PV
 |[x]=>x
 |l=>.tup l
def qng (P:Program):ResultVar→IRes→Bool
 |.tmp t,.t i=>t == i
 |.cell t ty,.c i sz ag=>t == i && qbU P ty sz && aggB P ty ag && (ag || sz == 1)
 |_,_=>false
def qek (P:Program):List ResultVar→List IRes→Bool
 |[],[]=>true
 |x :: xs,y :: ys=>qng P x y && qek P xs ys
 |_,_=>false
def RetK (q:Option (List PV)) (φ:PV→Objs→Prop) (L:Objs):Prop:=
 match q with
 |some l=>φ (qkn l) L
 |none=>False
theorem qvj {l:List PV} {φ:PV→Objs→Prop} {L:Objs}:RetK (some l) φ L=φ (qkn l) L:=rfl
theorem qqS {q:Option (List PV)} {φ:PV→Objs→Prop} {L:Objs} (h:RetK q φ L):∃ l,q=some l∧φ (qkn l) L:=by
 cases q with
 |none=>exact h.elim
 |some l=>exact ⟨l,rfl,h⟩
theorem qA1 (x:PV):qkn [x]=x:=rfl
theorem qA0 (x y:PV):qkn [x,y]=.tup [x,y]:=rfl
theorem qAZ (x y z:PV):qkn [x,y,z]=.tup [x,y,z]:=rfl
def retQ (rs:List IRes) (φ:PV→Objs→Prop):AQ
 |.normal,fr,L=>RetK (Zbc fr L rs) φ L
 |.ret,fr,L=>RetK (Zbc fr L rs) φ L
 |_,_,_=>False
section
variable {P:Program} {E:Envt} {B:Base} {w w':World} {L L':Objs} {ι ι':Key→Value} {fr:List AV} {a:Act} {o:Oper} {X:Nat→Prop}
def ZB (L:Objs) (ι:Key→Value) (X:Nat→Prop) (c:Nat):Prop:=X c∨∃ i q,Zar L (.b i)=some q∧blk (ι (.b i))=some c
theorem qnp (w:World) (L:Objs) (ι:Key→Value) (X:Nat→Prop):Keeps w w (fun b=>Own L ι b∨X b) (ZB L ι X):=fun b _ h=>⟨rfl,fun hx=>by
 rcases hx with hx|⟨i,q,h1,h2⟩
 ·exact h (.inr hx)
 ·exact h (.inl ⟨_,q,h1,h2⟩)⟩
theorem quj (w:World) (L:Objs) (ι:Key→Value) (X:Nat→Prop):Keeps w w (fun b=>Own L ι b∨X b) X:=fun b _ h=>⟨rfl,fun hx=>h (.inr hx)⟩
theorem qyX (h:St E B w L ι) {x:AV} {y:PV} {v:Value} (e:Zbe L x=some y) (hr:ARep w (fun b=>Own L ι b∨B.X b) ι x v):PRep w (ZB L ι B.X) y v∧v.oneCell'=true∨(∃ z,x=.p z∧y=wk1 z)∧PRep w (ZB L ι B.X) y v:=by
 unfold Zbe at e
 split at e
 ·cases e;exact .inr ⟨⟨_,rfl,rfl⟩,(PRep.mono (qnp w L ι B.X) _ _ hr).wk1⟩
 ·rename_i k0
  generalize hkk:Key.l k0=k at e hr
  split at e
  ·rename_i es e' z ap hl
   cases e
   left
   obtain ⟨vs,hrow,e4,e5,e6⟩:=h.sim.obj k _ hl
   rcases hrow.2 with ⟨g1,g2⟩|⟨g,cap,cur,fz,g1,_,g3,_⟩
   ·rw [hr.1,g1]
    exact ⟨⟨none,0,by rw [g2],by omega,fun hne=>absurd (zr g2) hne⟩,rfl⟩
   ·rw [hr.1,g1]
    have hE:=qgS h.sim hl g1
    have hO:Own L ι g:=⟨k,_,hl,by rw [g1];rfl⟩
    refine ⟨⟨_,cap,rfl,g3,fun _=>⟨g,0,rfl,qa5 h.sim hO,(fun hx=>by
     rcases hx with hx|⟨i,q,h1,h2⟩
     ·exact (h.x_own hx).2 hO
     ·have:=h.sim.inj _ _ _ _ g h1 hl h2 (by rw [g1];rfl)
      rw [← hkk] at this
      cases this),?_⟩⟩,rfl⟩
    have key:∀ (es':List (List PV)) (off:Nat),PRepE w (fun b=>Own L ι b∨B.X b) g z off es'→PRepE w (ZB L ι B.X) g z off es':=by
     intro es'
     induction es' with
     |nil=>intro off _;simp [PRepE]
     |cons x r ih=>
      intro off hh
      simp only [PRepE] at hh ⊢
      refine ⟨hh.1,?_,ih _ hh.2.2⟩
      obtain ⟨us,a1,a2,a3⟩:=hh.2.1.vals
      exact PRepC.of (PRepL.mono (qnp w L ι B.X) _ _ a1) a2 a3
    exact key es 0 hE
  ·cases e
 ·rename_i k0
  generalize hkk:Key.l k0=k at e hr
  split at e
  ·rename_i kv kt et hl
   cases e
   left
   obtain ⟨r,ents,cl,e1,e2,e3,e4⟩:=h.sim.obj k _ hl
   have hO:Own L ι r:=⟨k,_,hl,by rw [e1];rfl⟩
   rw [hr.1,e1]
   refine ⟨⟨r,rfl,qa5 h.sim hO,(fun hx=>by
     rcases hx with hx|⟨i,q,h1,h2⟩
     ·exact (h.x_own hx).2 hO
     ·have:=h.sim.inj _ _ _ _ r h1 hl h2 (by rw [e1];rfl)
      rw [← hkk] at this
      cases this),ents,cl,e2,⟨by rw [e3.1,ya];rfl,e4⟩,PRepL.mono (qnp w L ι B.X) _ _ e3.2⟩,rfl⟩
  ·cases e
 ·cases e
theorem qm4 (h:St E B w L ι) {x:AV} {y:PV} {v:Value} (e:Zbe L x=some y) (hr:ARep w (fun b=>Own L ι b∨B.X b) ι x v):PRep w (ZB L ι B.X) y v:=by
 rcases qyX h e hr with h|h
 ·exact h.1
 ·exact h.2
theorem qtF (h:St E B w L ι):∀ {xs:List AV} {ys:List PV} {vs:List Value},Zbf L xs=some ys→vs.length=xs.length→(∀ (j:Nat) (x:AV),xs[j]?=some x→∃ v,vs[j]?=some v∧ARep w (fun b=>Own L ι b∨B.X b) ι x v)→PRepL w (ZB L ι B.X) ys vs:=by
 intro xs
 induction xs with
 |nil=>intro ys vs e hl _;simp only [Zbf,zh] at e;subst e;simp only [PRepL];exact zr hl
 |cons x xs ih=>
  intro ys vs e hl hr
  simp only [Zbf] at e
  split at e
  ·rename_i y l e1 e2
   cases e
   cases vs with
   |nil=>simp at hl
   |cons v vs=>
    obtain ⟨v0,h0,r0⟩:=hr 0 x rfl
    simp at h0
    subst h0
    simp only [PRepL]
    exact ⟨v,vs,rfl,qm4 h e1 r0,ih e2 (by simpa using hl) (fun j q hq=>by simpa using hr (j+1) q (by simpa using hq))⟩
  ·cases e
theorem PRep.wk {U:Nat→Prop} {x:PV} {v:Value} (h:PRep w U x v):PRep w U (wk x) v:=by
 cases x with
 |agg cs=>simp only [PRep,Go.Proofs.YtmpdnpljdcincaaGreatDoor.wk] at h ⊢;obtain ⟨vs,e,hl⟩:=h;exact ⟨vs,e,hl.wk1⟩
 |tup cs=>simp only [PRep,Go.Proofs.YtmpdnpljdcincaaGreatDoor.wk] at h ⊢;obtain ⟨vs,e,hl⟩:=h;exact ⟨vs,e,hl.wk1⟩
 |_=>exact h.wk1
def res1 (tmps:Array Value):ResultVar→Sem Value
 |.tmp t=>pure (tmps.getD t undef)
 |.cell a t=>do loadVar t (← asAddr (tmps.getD a undef))
theorem FRep.getD {U:Nat→Prop} (hf:FRep w U ι fr a) (i:Nat):ARep w U ι (fr.getD i .any) (a.tmps.getD i undef):=by
 cases hx:fr[i]? with
 |none=>simp only [zu,hx];trivial
 |some y=>
  obtain ⟨v,hv,hr⟩:=hf.2 i y hx
  simpa [zu,hx,hv] using hr
theorem qyR (hs:StF E B w L ι fr a) {rv:ResultVar} {r:IRes} (hok:qng P rv r=true) {x:PV} (h:Zbd fr L r=some x):∃ v,(res1 a.tmps rv).run P w=.ok v w∧PRep w (ZB L ι B.X) x v:=by
 cases r with
 |t i=>
  cases rv with
  |cell t ty=>simp [qng] at hok
  |tmp t=>
   simp only [qng,beq_iff_eq] at hok
   subst hok
   have hr:=hs.2.1.getD t
   refine ⟨_,rfl,?_⟩
   simp only [Zbd] at h
   split at h
   ·rename_i y hy;cases h;rw [hy] at hr;exact (PRep.mono (qnp w L ι B.X) _ _ hr).wk
   ·exact qm4 hs.1 h hr
 |c i sz ag=>
  cases rv with
  |tmp t=>simp [qng] at hok
  |cell t ty=>
   simp only [qng,zj,beq_iff_eq,zU] at hok
   obtain ⟨⟨⟨rfl,hsz⟩,hag⟩,h1⟩:=hok
   have hr:=hs.2.1.getD t
   simp only [Zbd] at h
   split at h
   ·rename_i k of hk
    rw [hk] at hr
    obtain ⟨b,e1,e2⟩:=hr
    split at h
    ·rename_i cs bt hl
     obtain ⟨b',vs,e4,hb,hlen,h1c,hcs⟩:=hs.1.sim.obj k _ hl
     rw [e1] at e4
     cases e4
     split at h
     ·rename_i hle
      have hcell:∀ (j:Nat) (v:Value),vs[j]?=some v→w.cell? ⟨b,j,none⟩=some v:=fun j v hv=>by rw [cell_of_row w b j _ _ _ hb];simpa using hv
      cases ag with
      |true=>
       simp only [if_true] at h
       obtain ⟨l,hl',rfl⟩:=zi.1 h
       have hrep:=qtF hs.1 (vs:=(vs.drop of).take sz) hl' (by simp;omega) (fun j x hx=>by
        rw [yv] at hx ⊢
        split at hx
        ·rename_i hj;rw [if_pos hj];rw [yd] at hx ⊢;exact hcs _ x hx
        ·cases hx)
       refine ⟨.agg ((vs.drop of).take sz).toArray,?_,_,rfl,hrep⟩
       have hld:=run_loadCells_list (P:=P) (w:=w) ⟨b,of,none⟩ ((vs.drop of).take sz) (fun j v hj=>by
        rw [qbE]
        rw [yv] at hj
        split at hj
        ·rw [yd] at hj;exact hcell _ v hj
        ·cases hj)
       have hln:((vs.drop of).take sz).length=sz:=by simp;omega
       rw [hln] at hld
       simp [res1,e2,asAddr,loadVar,qe6 hag,qaT hsz,hld]
      |false=>
       have:sz=1:=by rcases h1 with h1|h1;cases h1;exact h1
       subst this
       simp only [z7,if_false] at h
       obtain ⟨u,hu,hr⟩:=hcs of (cs.getD of .any) (by rw [zu,zg (by omega)];rfl)
       refine ⟨u,?_,qm4 hs.1 h hr⟩
       simp [res1,e2,asAddr,loadVar,qe6 hag,hcell of u hu]
     ·cases h
    ·cases h
   ·cases h
theorem qyQ (hs:StF E B w L ι fr a):∀ {rvs:List ResultVar} {rs:List IRes} {l:List PV},qek P rvs rs=true→Zbc fr L rs=some l→∃ vs,(rvs.mapM (res1 a.tmps)).run P w=.ok vs w∧PRepL w (ZB L ι B.X) l vs:=by
 intro rvs
 induction rvs with
 |nil=>intro rs l h1 h2;cases rs with
  |nil=>simp only [Zbc,zh] at h2;subst h2;exact ⟨[],rfl,by simp [PRepL]⟩
  |cons _ _=>simp [qek] at h1
 |cons rv rvs ih=>intro rs l h1 h2;cases rs with
  |nil=>simp [qek] at h1
  |cons r rs=>
   simp only [qek,zj] at h1
   simp only [Zbc] at h2
   split at h2
   ·rename_i y l' e1 e2
    cases h2
    obtain ⟨v,hv,hr⟩:=qyR hs h1.1 e1
    obtain ⟨vs,hvs,hrs⟩:=ih h1.2 e2
    refine ⟨v :: vs,?_,by simp only [PRepL];exact ⟨v,vs,rfl,hr,hrs⟩⟩
    simp only [List.mapM_cons,Sem.run_bind,hv,Result.andThen_ok,hvs]
    rfl
   ·cases h2
theorem qma (hs:StF E B w L ι fr a) {fn:Func} {rs:List IRes} {l:List PV} (h1:qek P fn.results.toList rs=true) (h2:Zbc fr L rs=some l):∃ v,(results fn a.tmps).run P w=.ok v w∧PRep w (ZB L ι B.X) (qkn l) v:=by
 obtain ⟨vs,hvs,hrs⟩:=qyQ hs h1 h2
 have e:(results fn a.tmps).run P w=.ok (if h:vs.toArray.size=1 then vs.toArray[0] else .tuple vs.toArray) w:=by
  have e0:results fn a.tmps=(do let vs ← fn.results.mapM (res1 a.tmps);pure (if h:vs.size=1 then vs[0] else .tuple vs)):=by
   unfold results
   congr 1
  rw [e0]
  rw [Array.mapM_eq_mapM_toList]
  simp only [← bind_pure_comp,Sem.run_bind,bind_assoc]
  rw [hvs]
  rfl
 rw [e]
 refine ⟨_,rfl,?_⟩
 have hlen:=hrs.length
 cases l with
 |nil=>have:vs=[]:=zr hlen;subst this;simp [qkn,PRep,PRepL]
 |cons x l=>
  cases l with
  |nil=>
   simp only [PRepL] at hrs
   obtain ⟨v,r,rfl,hv,rfl⟩:=hrs
   simpa [qkn] using hv
  |cons y l=>
   rw [dif_neg (by simp at hlen ⊢;omega)]
   exact ⟨vs,rfl,hrs⟩
theorem qoH {D:Array Oper→Option (List Nat)→List IOper→Bool} (hD:qvx P D) {f:FuncId} {fn:Func} {c:Code} {ic:IC} {rs:List IRes} {args:List PV} {n:Nat} {φ:PV→Prop} (hf:P.funcs[f]?=some fn) (hb:fn.body=some c) (hn:fn.ntmps=n) (hchk:chkC P D ic c=true) (hr:qek P fn.results.toList rs=true)
  (h:awp P E ic (args.map .p++zM (n - args.length) .any) [] (retQ rs fun x _=>φ x)):PCall P E f args φ:=by
 intro w U vs hU hE hEb hA
 refine calls_of_wp hf hb ?_
 let B:Base:={ w0:=w,X:=U,L0:=[],i0:=fun _=>undef }
 have hO:∀ b,¬ Own [] (fun _=>undef) b:=by rintro b ⟨k,q,h,_⟩;simp [Zar] at h
 have hst:St E B w [] (fun _=>undef):=⟨Grow.refl _ _,⟨fun k q h=>by simp [Zar] at h,fun k k' q q' b h=>by simp [Zar] at h⟩,fun b hb=>.inl hb,hU,fun k h=>by simp [B,Zar] at h,hE,fun b hb=>⟨hEb b hb,hO b⟩,fun i=>rfl,fun b _=>hO b⟩
 have hkeep:Keeps w w U (fun b=>Own [] (fun _=>undef) b∨B.X b):=fun b _ hu=>⟨rfl,fun h=>hu (h.resolve_left (hO b))⟩
 have hlen:=hA.length
 have hfr:StF E B w [] (fun _=>undef) (args.map .p++zM (n - args.length) .any) { tmps:=vs.toArray++Array.replicate (fn.ntmps - vs.toArray.size) undef,defers:=[] }:=by
  refine ⟨hst,⟨by simp [hlen,hn],fun i x hx=>?_⟩,rfl⟩
  rw [List.getElem?_append] at hx
  split at hx
  ·rename_i hi
   rw [zt,zi] at hx
   obtain ⟨y,hy,rfl⟩:=hx
   obtain ⟨v,hv,hrep⟩:=(PRepL.mono hkeep _ _ hA).get hy
   refine ⟨v,?_,hrep⟩
   simp only [zw] at hi
   rw [Array.getElem?_append_left (by simp;omega)]
   simpa using hv
  ·rename_i hi
   rw [List.getElem?_replicate] at hx
   split at hx
   ·rename_i hlt
    cases hx
    simp only [zw] at hi hlt
    refine ⟨undef,?_,trivial⟩
    rw [Array.getElem?_append_right (by simp;omega)]
    simp only [List.size_toArray]
    rw [Array.getElem?_replicate,if_pos (by rw [hlen];omega)]
   ·cases hx
 refine wp_mono (qpy hD ic c _ _ _ hchk h B w _ _ hfr) ?_
 rintro e a' w' ⟨fr',L',ι',q,hs'⟩
 have fin:(∃ l,Zbc fr' L' rs=some l∧φ (qkn l))→a'.defers=[]∧∃ v,(results fn a'.tmps).run P w'=.ok v w'∧∃ v_1 x,Ending.returned v=.returned v_1∧φ x∧PRep w' U x v_1∧Grow w w' (fun _=>False):=by
  rintro ⟨l,h1,h2⟩
  obtain ⟨v,hv,hrv⟩:=qma hs' hr h1
  refine ⟨hs'.2.2,v,hv,v,_,rfl,h2,PRep.mono (fun b _ h=>⟨rfl,fun hx=>h (.inl hx)⟩) _ _ hrv,?_⟩
  have hg:=hs'.1.grow
  exact ⟨hg.os,hg.tape,hg.output,hg.size,fun b hb _=>hg.block b hb (hO b)⟩
 cases e with
 |normal=>exact fin (qqS (φ:=fun x _=>φ x) (L:=L') q)
 |ret=>exact fin (qqS (φ:=fun x _=>φ x) (L:=L') q)
 |exit id=>exact q.elim
 |goto l=>exact q.elim
 |panic ch=>exact q.elim
 |outgrown=>exact q.elim
end
end Go.Proofs.YtmpdnpljdcincaaGreatDoor
