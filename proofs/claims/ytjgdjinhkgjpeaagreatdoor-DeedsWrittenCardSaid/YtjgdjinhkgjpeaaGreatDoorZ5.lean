import Derived.Test.YtjgdjinhkgjpeaaGreatDoorZ4
import Derived.Lib.Builder
import Derived.Lib.UnsafeStr
import Derived.Lib.AppendStr
import Derived.Lib.Strings
import Derived.Test.YtjgdjinhkgjpeaaGreatDoorZ1
set_option linter.unusedVariables false
set_option linter.unusedSimpArgs false
set_option linter.defProp false
namespace Go.Proofs.YtjgdjinhkgjpeaaGreatDoor
open Nat renaming le_trans→z8
open List renaming append_assoc→yx,length_append→zx,map_cons→zl
open Option renaming map_eq_some_iff→zi
open _root_.Array renaming getElem?_modify→yr
def r1 (d q:Nat) (k:Key):Option Key:=if k=.l d then some (.l q) else if k=.l q then none else some k
section
variable {E:Envt} {B:Base} {w:World} {L:Objs} {ι:Key→Value} {fr:List AV} {a:Act}
theorem qxb {fr':List AV} (h:Zb fr fr'):ReOk E fr L fr' L:=fun B w ι a hs=>by
 obtain ⟨g1,g2⟩:=h.get
 refine ⟨ι,hs.1,⟨by rw [hs.2.1.1,g1],fun i y hy=>?_⟩,hs.2.2⟩
 obtain ⟨x,hx,hxy⟩:=g2 i y hy
 obtain ⟨v,hv,hr⟩:=hs.2.1.2 i x hx
 exact ⟨v,hv,hxy.rep hr⟩
theorem qxc {k:Key} {cs:List PV} {t:TypeId} (hl:Zas L k=some (.box (cs.map .p) t)):ReOk E fr L (fr.map (·.thaw k (.ptr cs))) (Zaw k (.ptr cs) L):=fun B w ι a hs=>⟨ι,hs.thawB hl⟩
end
theorem qop {P:Program} (w:World) (base:Nat) (t u ty e:TypeId) (i:TypeInfo) (ht:P.underlying t=some (.slice e)) (hu:P.underlying u=some .string) (hi:P.info? e=some i) (hz:i.zero=some (.int .u8 0))
  (hsize:i.size=1) (hby:i.bytes=1) (v:Value) (n:Nat) (xs:List Value) (hown:w.ownsRow base e 1 v n xs) (s:ByteArray)
  (h63:n+s.size≤maxLen) (hbytes:n+s.size≤140737488355328) (hbase:base≤w.heap.size) :
  ∃ v' w',(Builtin.append_ #[t,u] ty #[v,.string s]).run P w=.ok v' w'∧w'.ownsRow base e 1 v' (n+s.size) (xs++Lib.strCells s)∧w.grownBy w' v.ownBlock∧
   ∀ x,v'.ownBlock=some x→v.ownBlock=some x∨w.heap.size≤x:=by
 have hxl:xs.length=n:=by simpa using hown.1
 have hlen:(xs++Lib.strCells s).length=(n+s.size) * 1:=by rw [zx,hxl,Lib.strCells_length,Nat.mul_one]
 rcases hown.2 with ⟨rfl,rfl⟩|⟨g,cap,cur,rfl,hbg,hg,hnc,hcm,hcs,htake⟩
 ·have h0:w.ownsRow w.heap.size e 1 (.slice none 0 0) 0 xs:=⟨hown.1,.inl ⟨rfl,rfl⟩⟩
  obtain ⟨v',w',h1,h2,h3,h4⟩:=Lib.run_append_own_string (P:=P) w w.heap.size t u ty e i ht hu hi hz hsize hby _ 0 xs h0 s h63 hbytes (Nat.le_refl _)
  refine ⟨v',w',h1,⟨h2.1,?_⟩,h3,fun x hx=>?_⟩
  ·rcases h2.2 with g1|⟨g,cap,cur,g1,g2,g3⟩
   ·exact .inl g1
   ·exact .inr ⟨g,cap,cur,g1,z8 hbase g2,g3⟩
  ·rcases h2.2 with ⟨g1,_⟩|⟨g,cap,cur,g1,g2,g3⟩
   ·rw [g1] at hx;cases hx
   ·rw [g1] at hx;cases hx;exact .inr g2
 ·have hsmall:n+s.size≤9223372036854775807:=by simp only [maxLen] at h63;omega
  by_cases hroom:n+s.size≤cap
  ·have hcs':cur.size=cap:=by simpa using hcs
   have hr:=Lib.run_append_room_string (P:=P) w t u ty e i ht hu hi hsize g n cap cur hg s hroom (by omega)
   refine ⟨_,_,hr,⟨hlen,.inr ⟨g,cap,_,rfl,hbg,setRow_heap w g cur _ e _ hg,hroom,hcm,?_,?_⟩⟩,⟨rfl,rfl,rfl,by simp,fun k _ hk=>setRow_other w g k _ (fun e=>hk (by simp [Value.ownBlock,e]))⟩,fun x hx=>.inl hx⟩
   ·simp only [List.size_toArray,zx,List.length_take,List.length_drop,Array.length_toList,Lib.strCells_length]
    omega
   ·have ht':cur.toList.take n=xs:=by simpa using htake
    rw [ht',← hlen]
    exact List.take_left
  ·have holds:∀ j u,xs[j]?=some u→w.cell? ((⟨g,0,none⟩:Addr).add j)=some u:=hown.cells (g:=g) rfl
   have hr:=Lib.run_append_grow_string (P:=P) w t u ty e i (.int .u8 0) ht hu hi hz ⟨g,0,none⟩ n cap xs (by rw [hsize];simpa using hxl) holds s (by omega) (by omega) (by rw [hby];exact growslice_fits (by omega) (by omega))
   have hge:=grownCap_ge w (n+s.size) cap e
   have hcm2:grownCap w (n+s.size) cap e≤maxLen:=grownCap_le_maxLen w (n+s.size) cap e h63
   refine ⟨_,_,hr,⟨hlen,.inr ⟨w.heap.size,_,_,rfl,hbase,heap_alloc_new w.drew _,hge,hcm2,?_,?_⟩⟩,⟨rfl,rfl,rfl,by simp,fun k hk _=>Lib.alloc_old w.drew _ k hk⟩,fun x hx=>?_⟩
   ·have hz1:(Value.int IntKind.u8 0).cells.size=1:=rfl
    simp only [Array.size_append,List.size_toArray,size_zeroCells,hz1,hxl,Lib.strCells_length]
    omega
   ·simp only [Array.toList_append,yx]
    rw [← yx,← hlen]
    exact List.take_left
   ·simp [Value.ownBlock] at hx
    omega
theorem qkP {P:Program} {w:World} {ops:Array Oper} {rest:List Oper} {o:Oper} {a:Act} {Q:Exit→Act→World→Prop} (hgd:o.guard=none) (sl x:Operand) (t u:TypeId)
  (ho:o.op=.call { callee:=.builtin .append,args:=#[sl,x],argTypes:=#[t,u] })
  (base:Nat) (e:TypeId) (i:TypeInfo) (ht:P.underlying t=some (.slice e)) (hu:P.underlying u=some .string) (hi:P.info? e=some i) (hz:i.zero=some (.int .u8 0))
  (hsize:i.size=1) (hby:i.bytes=1)
  (v:Value) (n:Nat) (xs:List Value) (hs:a.eval sl=v) (hown:w.ownsRow base e 1 v n xs) (s:ByteArray) (hx:a.eval x=.string s)
  (h63:n+s.size≤maxLen) (hbytes:n+s.size≤140737488355328) (hbase:base≤w.heap.size)
  (h:∀ v' w',w'.ownsRow base e 1 v' (n+s.size) (xs++Lib.strCells s)→w.grownBy w' v.ownBlock→(∀ x,v'.ownBlock=some x→v.ownBlock=some x∨w.heap.size≤x)→wpList P ops Q rest (a.put o.dst v') w'):wpList P ops Q (o :: rest) a w:=by
 refine wpList_plain hgd fun K hK=>?_
 obtain ⟨v',w',hr,h2,h3,h4⟩:=qop (P:=P) w base t u o.type e i ht hu hi hz hsize hby v n xs hown s h63 hbytes hbase
 unfold Oper.wp execOp
 simp only [ho,resolve,invoke,builtin,Sem.run_bind,Sem.run_pure,Result.andThen_ok,List.map_toArray,zl,List.map_nil,hs,hx,hr]
 exact hK _ _ (h v' w' h2 h3 h4)
def nilP:PV:=.raw (.pointer none)
def bytC (s:List UInt8):List (List PV):=s.map fun c=>[.int .u8 c.toNat]
def qfl (w:World) (T:TypeId) (b x:Nat):Prop:=∃ p u,w.heap[b]?=some (.cells #[p,u] T (0,0))∧u.ownBlock=some x
def SbPost (T e:TypeId) (b:Nat) (bs:List UInt8) (w w':World):Prop:=
 (∃ v,w'.heap[b]?=some (.cells #[.pointer (some ⟨b,0,none⟩),v] T (0,0))∧w'.ownsRow 0 e 1 v bs.length (Lib.byteCells bs)∧v.ownBlock≠some b∧∀ x,v.ownBlock=some x→qfl w T b x∨w.heap.size≤x)∧Grow w w' (fun x=>x=b∨qfl w T b x)
def SbAt (L:Objs) (k:Key) (i:Nat) (T e:TypeId) (s:List UInt8):Prop:=
 (Zas L k=some (.box [.p nilP,.p (.nl 1)] T)∧s=[])∨(Zas L k=some (.box [.adr k 0,.row (.l i)] T)∧Zas L (.l i)=some (.row (bytC s) e 1 true))
def qfS (L:Objs) (k:Key) (i:Nat) (T e:TypeId) (s:List UInt8):Objs:=Zat (Zav L (.l i) (.row (bytC s) e 1 true)) k (.box [.adr k 0,.row (.l i)] T)
section
variable {w w1 w2:World} {T e:TypeId} {b:Nat} {v v':Value} {bs:List UInt8} {p:Value}
theorem qi3 {o:Obj} (h:w.heap[b]?=some o):b < w.heap.size:=by
 rcases Nat.lt_or_ge b w.heap.size with h'|h'
 ·exact h'
 ·simp [Array.getElem?_eq_none h'] at h
theorem qf2 (h:w.heap[b]?=some (.cells #[p,v] T (0,0))) {x:Nat}:qfl w T b x↔v.ownBlock=some x:=by
 constructor
 ·rintro ⟨q,u,h1,h2⟩
  rw [h] at h1
  simp at h1
  rw [h1.2];exact h2
 ·intro h2;exact ⟨_,_,h,h2⟩
theorem qrO (h:w.heap[b]?=some (.cells #[p,v] T (0,0))):(w.setCell ⟨b,1,none⟩ v').heap[b]?=some (.cells #[p,v'] T (0,0)):=by
 simp [World.setCell,yr,h]
theorem qiC {q:Value} (h:w.heap[b]?=some (.cells #[p,v] T (0,0))):(w.setCell ⟨b,0,none⟩ q).heap[b]?=some (.cells #[q,v] T (0,0)):=by
 simp [World.setCell,yr,h]
theorem qgR {O:Nat→Prop} (off:Nat) (q:Value) (hO:O b):Grow w (w.setCell ⟨b,off,none⟩ q) O:=
 ⟨rfl,rfl,rfl,by simp [World.setCell],fun c _ hn=>heap_setCell_other _ _ _ _ (fun e=>hn (by subst e;exact hO))⟩
theorem qkc (hTe:T≠e) (h1:Grow w w1 (·=b)) (hb1:∀ x,qfl w1 T b x→qfl w T b x) (hk1:w1.heap[b]?=some (.cells #[.pointer (some ⟨b,0,none⟩),v] T (0,0))) (hg:w1.grownBy w2 v.ownBlock) (hne:v.ownBlock≠some b)
  (hloc:∀ x,v'.ownBlock=some x→v.ownBlock=some x∨w1.heap.size≤x) (hown:w2.ownsRow 0 e 1 v' bs.length (Lib.byteCells bs)):SbPost T e b bs w (w2.setCell ⟨b,1,none⟩ v'):=by
 have hk2:w2.heap[b]?=some (.cells #[.pointer (some ⟨b,0,none⟩),v] T (0,0)):=by rw [hg.block b (qi3 hk1) (fun e=>hne e.symm)];exact hk1
 have hne':=Lib.ownBlock_ne hown hk2 hTe
 refine ⟨⟨v',qrO hk2,?_,hne',fun x hx=>?_⟩,?_⟩
 ·exact hown.kept (row:=some b) ⟨rfl,rfl,rfl,by simp [World.setCell],fun k _ hk=>heap_setCell_other _ _ _ _ (fun e=>hk (by simp [e]))⟩ (Or.inr hne')
 ·rcases hloc x hx with h|h
  ·exact .inl (hb1 x ((qf2 hk1).2 h))
  ·exact .inr (z8 h1.size h)
 ·refine ⟨hg.os.trans h1.os,hg.tape.trans h1.tape,hg.output.trans h1.output,z8 h1.size (z8 hg.size (by simp [World.setCell])),fun c hc hn=>?_⟩
  have e1:=h1.block c hc (fun e=>hn (.inl e))
  have e2:=hg.block c (Nat.lt_of_lt_of_le hc h1.size) (fun e=>hn (.inr (hb1 c ((qf2 hk1).2 e.symm))))
  rw [heap_setCell_other _ _ _ _ (fun e=>hn (.inl (by simpa using e))),e2,e1]
def qsH (T e:TypeId) (b:Nat) (bs:List Value) (w w1:World):Prop:=
 ∃ v,w1.heap[b]?=some (.cells #[.pointer (some ⟨b,0,none⟩),v] T (0,0))∧w1.ownsRow 0 e 1 v bs.length bs∧v.ownBlock≠some b∧Grow w w1 (·=b)∧∀ x,qfl w1 T b x→qfl w T b x
theorem qo0 {bs:List Value} (h:Lib.BuilderAt T e 0 b (.pointer (some ⟨b,0,none⟩)) bs w):qsH T e b bs w w:=by
 obtain ⟨_,v,h1,h2,h3⟩:=h
 exact ⟨v,h1,h2,h3,Grow.refl _ _,fun _ h=>h⟩
theorem qnN {bs:List Value} (h:Lib.BuilderAt T e 0 b (.pointer none) bs w):qsH T e b bs w (w.setCell ⟨b,0,none⟩ (.pointer (some ⟨b,0,none⟩))):=by
 obtain ⟨_,v,h1,h2,h3⟩:=h
 refine ⟨v,qiC h1,?_,h3,qgR 0 _ rfl,fun x hx=>?_⟩
 ·exact h2.kept (row:=some b) ⟨rfl,rfl,rfl,by simp [World.setCell],fun k _ hk=>heap_setCell_other _ _ _ _ (fun e=>hk (by simp [e]))⟩ (Or.inr h3)
 ·exact (qf2 h1).2 ((qf2 (qiC h1)).1 hx)
theorem qoN {g n:Nat} {O:Nat→Prop} (hg:O g):Grow w (w.drew.freeze ⟨g,0,none⟩ n) O:=by
 unfold World.freeze
 split
 ·exact (Grow.refl w O).drew
 ·exact ⟨rfl,rfl,rfl,by simp,fun k hk hn=>by
   simp only [yr]
   rw [if_neg (fun e=>hn (by subst e;exact hg))]
   rfl⟩
theorem qoO {o:Obj} {O:Nat→Prop}:Grow w (w.drew.alloc o) O:=⟨rfl,rfl,rfl,by simp,fun k hk _=>Lib.alloc_old w.drew _ k hk⟩
theorem SbPost.of_grown (hTe:T≠e) {cs:Array Value} (hbk:w.heap[b]?=some (.cells #[.pointer (some ⟨b,0,none⟩),.slice none 0 0] T (0,0))) (hm:cs.size≤maxLen) :
  SbPost T e b [] w ((w.alloc (.cells cs e)).setCell ⟨b,1,none⟩ (.slice (some ⟨w.heap.size,0,none⟩) 0 cs.size)).drew.drew.drew:=by
 have h:SbPost T e b [] w ((w.alloc (.cells cs e)).setCell ⟨b,1,none⟩ (.slice (some ⟨w.heap.size,0,none⟩) 0 cs.size)):=by
  refine qkc (w1:=w) hTe (Grow.refl _ _) (fun _ h=>h) hbk (w2:=w.alloc (.cells cs e)) ⟨rfl,rfl,rfl,by simp,fun k hk _=>Lib.alloc_old w _ k hk⟩ (by simp [Value.ownBlock]) (fun x hx=>?_) ?_
  ·simp [Value.ownBlock] at hx;omega
  ·exact ⟨rfl,.inr ⟨w.heap.size,cs.size,cs,rfl,Nat.zero_le _,heap_alloc_new w _,Nat.zero_le _,hm,by simp,by simp [Lib.byteCells]⟩⟩
 obtain ⟨⟨u,h1,h2,h3,h4⟩,hG⟩:=h
 exact ⟨⟨u,h1,h2,h3,h4⟩,hG.drew.drew.drew⟩
theorem SbPost.behind {q:Value} (hbk:w.heap[b]?=some (.cells #[q,.slice none 0 0] T (0,0))) (h:SbPost T e b bs (w.setCell ⟨b,0,none⟩ (.pointer (some ⟨b,0,none⟩))).drew w2):SbPost T e b bs w w2:=by
 obtain ⟨⟨u,h1,h2,h3,h4⟩,hG⟩:=h
 have hk:=qiC (q:=.pointer (some ⟨b,0,none⟩)) hbk
 have hno:∀ x,¬ qfl (w.setCell ⟨b,0,none⟩ (.pointer (some ⟨b,0,none⟩))).drew T b x:=fun x hx=>by
  have:=(qf2 (w:=(w.setCell ⟨b,0,none⟩ (.pointer (some ⟨b,0,none⟩))).drew) hk).1 hx
  simp [Value.ownBlock] at this
 refine ⟨⟨u,h1,h2,h3,fun x hx=>?_⟩,?_⟩
 ·rcases h4 x hx with h|h
  ·exact (hno x h).elim
  ·exact .inr (by simpa [World.setCell] using h)
 ·refine (qgR (w:=w) 0 (.pointer (some ⟨b,0,none⟩)) (O:=fun x=>x=b∨qfl w T b x) (.inl rfl)).drew.trans hG (fun c hc=>?_)
  rcases hc with h|h
  ·exact .inl (.inl h)
  ·exact (hno c h).elim
theorem SbPost.of_used {q:Value} (hbk:w.heap[b]?=some (.cells #[q,.slice none 0 0] T (0,0))):SbPost T e b [] w (w.setCell ⟨b,0,none⟩ (.pointer (some ⟨b,0,none⟩))).drew:=by
 refine ⟨⟨.slice none 0 0,qiC hbk,World.ownsRow_nil _ _ _ _,by simp [Value.ownBlock],fun x hx=>by simp [Value.ownBlock] at hx⟩,?_⟩
 exact (qgR (w:=w) 0 (.pointer (some ⟨b,0,none⟩)) (O:=fun x=>x=b∨qfl w T b x) (.inl rfl)).drew
end
section
variable {P:Program} {E:Envt} {w w':World} {X:Nat→Prop} {U:Nat→Prop} {L:Objs} {ι:Key→Value} {k:Key} {i:Nat} {T e:TypeId} {s s':List UInt8}
theorem qhg:(bytC s).length=s.length:=by simp [bytC]
theorem bytC_rep:∀ {s:List UInt8} {vs:List Value},PRepL w U (bytC s).flatten vs↔vs=Lib.byteCells s
 |[],vs=>by simp [bytC,PRepL,Lib.byteCells]
 |c :: r,vs=>by
  have ih:∀ vs,PRepL w U (bytC r).flatten vs↔vs=Lib.byteCells r:=fun vs=>bytC_rep
  simp only [bytC,zl,List.flatten_cons,List.cons_append,List.nil_append,PRepL,PRep,Lib.byteCells] at ih ⊢
  constructor
  ·rintro ⟨v,r',rfl,rfl,h⟩
   rw [(ih r').1 h]
  ·rintro rfl
   exact ⟨_,_,rfl,rfl,(ih _).2 rfl⟩
theorem qlk (hs:Sim w X L ι) {k j:Key} {a q:AO} (h1:Zas L k=some a) (h2:Zas L j=some q) (hne:k≠j) {b:Nat} (hb:blk (ι k)=some b):blk (ι j)≠some b:=fun h=>hne (hs.inj k j a q b h1 h2 hb h)
theorem qlO (hs:Sim w X L ι) (hki:k≠.l i) (h:SbAt L k i T e s):∃ b,ι k=.pointer (some ⟨b,0,none⟩)∧(∃ a,Zas L k=some a)∧Lib.IsBuilder T e 0 b (Lib.byteCells s) w∧(∀ x,qfl w T b x→Old L ι (.l i) x)∧(Zas L k=some (.box [.p nilP,.p (.nl 1)] T)→w.heap[b]?=some (.cells #[.pointer none,.slice none 0 0] T (0,0))):=by
 rcases h with ⟨h1,rfl⟩|⟨h1,h2⟩
 ·obtain ⟨b,vs,e1,e2,e3,e4,e5⟩:=hs.obj k _ h1
  obtain ⟨v0,f0,r0⟩:=e5 0 _ rfl
  obtain ⟨v1,f1,r1⟩:=e5 1 _ rfl
  simp only [ARep,PRep,nilP] at r0 r1
  have hvs:vs=[.pointer none,.slice none 0 0]:=by
   match vs,e3,f0,f1 with
   |[x,y],_,f0,f1=>
    simp at f0 f1
    rw [f0,f1,r0.1,r1]
  subst hvs
  refine ⟨b,e1,⟨_,h1⟩,.inl ⟨Nat.zero_le _,.slice none 0 0,e2,World.ownsRow_nil _ _ _ _,by simp [Value.ownBlock]⟩,?_,fun _=>e2⟩
  rintro x ⟨p,u,g1,g2⟩
  rw [g1] at e2
  simp at e2
  rw [e2.2] at g2
  simp [Value.ownBlock] at g2
 ·obtain ⟨b,vs,e1,e2,e3,e4,e5⟩:=hs.obj k _ h1
  obtain ⟨v0,f0,r0⟩:=e5 0 _ rfl
  obtain ⟨v1,f1,r1⟩:=e5 1 _ rfl
  obtain ⟨b',q1,q2⟩:=r0
  obtain ⟨q3,q4⟩:=r1
  have hbb:b'=b:=by rw [e1] at q1;cases q1;rfl
  subst hbb
  have hvs:vs=[.pointer (some ⟨b',0,none⟩),ι (.l i)]:=by
   match vs,e3,f0,f1 with
   |[x,y],_,f0,f1=>
    simp at f0 f1
    rw [f0,f1,q2,q3]
  subst hvs
  obtain ⟨us,u1,u2,u3,u4⟩:=hs.obj (.l i) _ h2
  rw [bytC_rep] at u3
  subst u3
  have hsl:∃ A n c,ι (.l i)=.slice A n c:=by rw [← q3];exact q4
  have hbk:blk (ι (.l i))=(ι (.l i)).ownBlock:=qa5 (b:=0) hsl
  refine ⟨b',e1,⟨_,h1⟩,.inr ⟨Nat.zero_le _,ι (.l i),e2,?_,?_⟩,?_,fun hf=>by rw [h1] at hf;cases hf⟩
  ·have:=u1.owns
   rw [qhg] at this
   simpa [Lib.byteCells] using this
  ·rw [← hbk]
   exact qlk hs h1 h2 hki (by rw [e1];rfl)
  ·rintro x ⟨p,u,g1,g2⟩
   rw [g1] at e2
   simp at e2
   rw [e2.2,← hbk] at g2
   exact ⟨_,h2,g2⟩
theorem qhd (j:Key):Zas (qfS L k i T e s) j=if j=k then some (.box [.adr k 0,.row (.l i)] T) else if j=.l i then some (.row (bytC s) e 1 true) else (Zas L j).map (AO.kill (.l i)):=by
 unfold qfS
 rw [qad,qbL]
theorem qvo {f:FuncId} {as:List AV} {vr:List Value} {x:PV} {v:Value} (hki:k≠.l i) (hat:SbAt L k i T e s) (ha:∀ w U ι vs,ARepL w U ι as vs→vs=vr) (hx:∀ w U,PRep w U x v)
  (hc:∀ b w,Lib.IsBuilder T e 0 b (Lib.byteCells s) w→(Zas L k=some (.box [.p nilP,.p (.nl 1)] T)→w.heap[b]?=some (.cells #[.pointer none,.slice none 0 0] T (0,0)))→Calls P f (.pointer (some ⟨b,0,none⟩) :: vr).toArray w fun ev w'=>ev=.returned v∧SbPost T e b s' w w')
  {K:AV→Objs→Prop} (hK:K (.p x) (qfS L k i T e s')):Call P E f (.adr k 0 :: as) L i K:=by
 intro w X ι vs hs hX hE hEb hA
 simp only [ARepL] at hA
 obtain ⟨v0,vr',rfl,⟨b0,hv1,hv2⟩,hA⟩:=hA
 have:=ha _ _ _ _ hA
 subst this
 obtain ⟨b,hb1,⟨ak,hak⟩,hib,hbuf,hfr⟩:=qlO hs hki hat
 have hbb:b0=b:=by rw [hb1] at hv1;cases hv1;rfl
 subst hbb
 subst hv2
 refine (hc b0 w hib hfr).mono ?_
 rintro ev w' ⟨rfl,⟨u,p1,p2,p3,p4⟩,hG⟩
 have hOk:Own L ι b0:=⟨k,ak,hak,by rw [hb1];rfl⟩
 have hGo:∀ c,(c=b0∨qfl w T b0 c)→Own L ι c:=by
  rintro c (rfl|h)
  ·exact hOk
  ·obtain ⟨q,h1,h2⟩:=hbuf c h;exact ⟨_,q,h1,h2⟩
 have husl:=qak p2
 have hubk:blk u=u.ownBlock:=qa5 (b:=0) husl
 have hik:updI ι (.l i) u k=ι k:=by simp [updI,hki]
 have hii:updI ι (.l i) u (.l i)=u:=by simp [updI]
 have hown:∀ c,Own (qfS L k i T e s') (updI ι (.l i) u) c→Own L ι c∨w.heap.size≤c:=by
  rintro c ⟨j,q,h1,h2⟩
  by_cases e1:j=k
  ·subst e1;rw [hik] at h2;exact .inl ⟨j,ak,hak,h2⟩
  ·by_cases e2:j=.l i
   ·subst e2
    rw [hii,hubk] at h2
    rcases p4 c h2 with h|h
    ·exact .inl (hGo c (.inr h))
    ·exact .inr h
   ·rw [qhd,if_neg e1,if_neg e2] at h1
    obtain ⟨q',h3,_⟩:=zi.1 h1
    refine .inl ⟨j,q',h3,?_⟩
    simpa [updI,e2] using h2
 have hgrow:Grow w w' (Own L ι):=⟨hG.os,hG.tape,hG.output,hG.size,fun c hc hn=>hG.block c hc (fun h=>hn (hGo c h))⟩
 have hk:Keeps w w' (fun c=>Own L ι c∨X c) (fun c=>Own (qfS L k i T e s') (updI ι (.l i) u) c∨X c):=by
  intro c hlt hu
  refine ⟨hgrow.block c hlt (fun h=>hu (.inl h)),?_⟩
  rintro (h|h)
  ·rcases hown c h with h'|h'
   ·exact hu (.inl h')
   ·omega
  ·exact hu (.inr h)
 refine ⟨v,.p x,_,updI ι (.l i) u,rfl,hK,hx _ _,⟨⟨?_,?_⟩,hgrow,hown,fun j hj=>by simp [updI,hj],?_⟩⟩
 ·intro j q hj
  rw [qhd] at hj
  by_cases e1:j=k
  ·subst e1
   rw [if_pos rfl] at hj
   cases hj
   refine ⟨b0,[.pointer (some ⟨b0,0,none⟩),u],by rw [hik];exact hb1,p1,rfl,?_,?_⟩
   ·intro y hy
    simp only [List.mem_cons,List.not_mem_nil,or_false] at hy
    rcases hy with rfl|rfl
    ·rfl
    ·obtain ⟨A,n,c,rfl⟩:=husl;rfl
   ·intro m a hm
    match m,hm with
    |0,hm=>simp at hm;subst hm;exact ⟨_,rfl,b0,by rw [hik];exact hb1,rfl⟩
    |1,hm=>simp at hm;subst hm;exact ⟨_,rfl,by rw [hii],husl⟩
  ·rw [if_neg e1] at hj
   by_cases e2:j=.l i
   ·subst e2
    rw [if_pos rfl] at hj
    cases hj
    refine ⟨Lib.byteCells s',?_,?_,bytC_rep.2 rfl,?_⟩
    ·rw [hii,qhg];exact RowOk.of_owns p2
    ·intro y hy
     simp only [Lib.byteCells,List.mem_map] at hy
     obtain ⟨c,_,rfl⟩:=hy
     rfl
    ·intro y hy
     simp only [bytC,List.mem_map] at hy
     obtain ⟨c,_,rfl⟩:=hy
     rfl
   ·rw [if_neg e2] at hj
    obtain ⟨q',h1,rfl⟩:=zi.1 hj
    have ho:=hs.obj j q' h1
    refine ObjOk.other e2 hk (fun c hcj=>hG.block c (ho.blk_lt hcj) ?_) ho
    rintro (rfl|h)
    ·exact qlk hs hak h1 (fun e=>e1 e.symm) (by rw [hb1];rfl) hcj
    ·obtain ⟨q2,h2,h3⟩:=hbuf c h
     exact qlk hs h2 h1 (fun e=>e2 e.symm) h3 hcj
 ·have hin:∀ j q c,Zas (qfS L k i T e s') j=some q→blk (updI ι (.l i) u j)=some c→(j=.l i∧u.ownBlock=some c)∨(j≠.l i∧∃ q',Zas L j=some q'∧blk (ι j)=some c):=by
   intro j q c hj hc
   by_cases e2:j=.l i
   ·subst e2;rw [hii,hubk] at hc;exact .inl ⟨rfl,hc⟩
   ·refine .inr ⟨e2,?_⟩
    rw [qhd] at hj
    have hc':blk (ι j)=some c:=by simpa [updI,e2] using hc
    by_cases e1:j=k
    ·subst e1;exact ⟨ak,hak,hc'⟩
    ·rw [if_neg e1,if_neg e2] at hj
     obtain ⟨q',h1,_⟩:=zi.1 hj
     exact ⟨q',h1,hc'⟩
  have hclash:∀ j c,u.ownBlock=some c→j≠.l i→(∃ q',Zas L j=some q'∧blk (ι j)=some c)→False:=by
   rintro j c h1 h2 ⟨q',h3,h4⟩
   rcases p4 c h1 with h|h
   ·obtain ⟨q2,h5,h6⟩:=hbuf c h
    exact qlk hs h5 h3 (fun e=>h2 e.symm) h6 h4
   ·have:=(hs.obj j q' h3).blk_lt h4
    omega
  intro j j' q q' c hj hj' hc hc'
  rcases hin j q c hj hc with ⟨rfl,h1⟩|⟨h1,h2⟩<;>rcases hin j' q' c hj' hc' with ⟨rfl,h3⟩|⟨h3,h4⟩
  ·rfl
  ·exact (hclash _ c h1 h3 h4).elim
  ·exact (hclash _ c h3 h1 h2).elim
  ·obtain ⟨q1,g1,g2⟩:=h2
   obtain ⟨q2,g3,g4⟩:=h4
   exact hs.inj j j' q1 q2 c g1 g3 g2 g4
 ·intro j hj
  rw [qhd] at hj
  by_cases e1:j=k
  ·subst e1;exact .inl (by rw [hak];rfl)
  ·by_cases e2:j=.l i
   ·exact .inr e2
   ·rw [if_neg e1,if_neg e2] at hj
    exact .inl (by simpa using hj)
theorem qw3 {f:FuncId} {x:PV} {v:Value} (hki:k≠.l i) (hat:SbAt L k i T e s) (hx:∀ w U,PRep w U x v)
  (hc:∀ b w,Lib.IsBuilder T e 0 b (Lib.byteCells s) w→Calls P f #[.pointer (some ⟨b,0,none⟩)] w fun ev w'=>ev=.returned v∧w'=w):qg4 P E f [.adr k 0] L (·=x):=by
 intro w X ι vs hs hX hE hEb hA
 simp only [ARepL] at hA
 obtain ⟨v0,vr',rfl,⟨b0,hv1,hv2⟩,hA⟩:=hA
 subst hA
 obtain ⟨b,hb1,_,hib,hbuf,hfr⟩:=qlO hs hki hat
 have hbb:b0=b:=by rw [hb1] at hv1;cases hv1;rfl
 subst hbb
 subst hv2
 refine (hc b0 w hib).mono ?_
 rintro ev w' ⟨rfl,rfl⟩
 exact ⟨v,x,rfl,rfl,hx _ _,Grow.refl _ _⟩
def qnE (L:Objs) (k:Key) (i:Nat):Objs:=delO (delO L k) (.l i)
theorem qqw (j:Key):Zas (qnE L k i) j=if j=.l i∨j=k then none else Zas L j:=by
 unfold qnE
 rw [qnu,qnu]
 by_cases h1:j=.l i<;>by_cases h2:j=k<;>simp [h1,h2]
theorem qrd {f:FuncId} (hki:k≠.l i) (hat:SbAt L k i T e s)
  (hc:∀ b w,Lib.IsBuilder T e 0 b (Lib.byteCells s) w→Calls P f #[.pointer (some ⟨b,0,none⟩)] w fun ev w'=>ev=.returned (.string ⟨s.toArray⟩)∧Grow w w' (fun x=>x=b∨qfl w T b x))
  {K:AV→Objs→Prop} (hK:K (.p (.str s)) (qnE L k i)):Call P E f [.adr k 0] L i K:=by
 intro w X ι vs hs hX hE hEb hA
 simp only [ARepL] at hA
 obtain ⟨v0,vr',rfl,⟨b0,hv1,hv2⟩,hA⟩:=hA
 subst hA
 obtain ⟨b,hb1,⟨ak,hak⟩,hib,hbuf,hfr⟩:=qlO hs hki hat
 have hbb:b0=b:=by rw [hb1] at hv1;cases hv1;rfl
 subst hbb
 subst hv2
 refine (hc b0 w hib).mono ?_
 rintro ev w' ⟨rfl,hG⟩
 have hGo:∀ c,(c=b0∨qfl w T b0 c)→Own L ι c:=by
  rintro c (rfl|h)
  ·exact ⟨k,ak,hak,by rw [hb1];rfl⟩
  ·obtain ⟨q,h1,h2⟩:=hbuf c h;exact ⟨_,q,h1,h2⟩
 have hsub:∀ j q,Zas (qnE L k i) j=some q→j≠.l i∧j≠k∧Zas L j=some q:=by
  intro j q hj
  rw [qqw] at hj
  by_cases h:j=.l i∨j=k
  ·rw [if_pos h] at hj;cases hj
  ·rw [if_neg h] at hj;exact ⟨fun e=>h (.inl e),fun e=>h (.inr e),hj⟩
 have hown:∀ c,Own (qnE L k i) ι c→Own L ι c:=by
  rintro c ⟨j,q,h1,h2⟩
  exact ⟨j,q,(hsub j q h1).2.2,h2⟩
 have hgrow:Grow w w' (Own L ι):=⟨hG.os,hG.tape,hG.output,hG.size,fun c hc hn=>hG.block c hc (fun h=>hn (hGo c h))⟩
 have hk:Keeps w w' (fun c=>Own L ι c∨X c) (fun c=>Own (qnE L k i) ι c∨X c):=fun c hlt hu=>⟨hgrow.block c hlt (fun h=>hu (.inl h)),fun h=>hu (h.imp (hown c) id)⟩
 refine ⟨_,.p (.str s),_,ι,rfl,hK,rfl,⟨⟨fun j q hj=>?_,fun j j' q q' c hj hj' h1 h2=>hs.inj j j' q q' c (hsub j q hj).2.2 (hsub j' q' hj').2.2 h1 h2⟩,hgrow,fun c h=>.inl (hown c h),fun j hj=>rfl,fun j hj=>?_⟩⟩
 ·obtain ⟨e2,e1,h1⟩:=hsub j q hj
  have ho:=hs.obj j q h1
  have hne:∀ c,blk (ι j)=some c→w'.heap[c]?=w.heap[c]?:=by
   intro c hcj
   refine hG.block c (ho.blk_lt hcj) ?_
   rintro (rfl|h)
   ·exact qlk hs hak h1 (fun e=>e1 e.symm) (by rw [hb1];rfl) hcj
   ·obtain ⟨q2,h2,h3⟩:=hbuf c h
    exact qlk hs h2 h1 (fun e=>e2 e.symm) h3 hcj
  exact ObjOk.mono hk hne ho
 ·obtain ⟨q,hq⟩:=Option.isSome_iff_exists.1 hj
  exact .inl (by rw [(hsub j q hq).2.2];rfl)
variable {fr:List AV} {d:Option Nat} {is:List IOper} {Y:List PV} {K:List AV→Objs→Prop}
theorem useW {f:FuncId} {as:List AV} {vr:List Value} {x:PV} {v:Value} (i:Nat) (T e:TypeId) (s s':List UInt8) (hat:SbAt L k i T e s) (hki:k≠.l i) (ha:∀ w U ι vs,ARepL w U ι as vs→vs=vr) (hx:∀ w U,PRep w U x v)
  (hc:∀ b w,Lib.IsBuilder T e 0 b (Lib.byteCells s) w→(Zas L k=some (.box [.p nilP,.p (.nl 1)] T)→w.heap[b]?=some (.cells #[.pointer none,.slice none 0 0] T (0,0)))→Calls P f (.pointer (some ⟨b,0,none⟩) :: vr).toArray w fun ev w'=>ev=.returned v∧SbPost T e b s' w w')
  (hk:qaa P E Y is (Zg (fr.map (·.kill (.l i))) d (.p x)) (qfS L k i T e s') K):qa0 P E f (.adr k 0 :: as) L d fr (qc8 P E Y is K):=
 .inr (.inr ⟨i,qvo hki hat ha hx hc hk⟩)
theorem qyb {f:FuncId} (i:Nat) (T e:TypeId) (s:List UInt8) (hat:SbAt L k i T e s) (hki:k≠.l i)
  (hc:∀ b w,Lib.IsBuilder T e 0 b (Lib.byteCells s) w→Calls P f #[.pointer (some ⟨b,0,none⟩)] w fun ev w'=>ev=.returned (.string ⟨s.toArray⟩)∧Grow w w' (fun x=>x=b∨qfl w T b x))
  (hk:qaa P E Y is (Zg (fr.map (·.kill (.l i))) d (.p (.str s))) (qnE L k i) K):qa0 P E f [.adr k 0] L d fr (qc8 P E Y is K):=
 .inr (.inr ⟨i,qrd hki hat hc hk⟩)
theorem qyc {f:FuncId} {x:PV} {v:Value} (i:Nat) (T e:TypeId) (s:List UInt8) (hat:SbAt L k i T e s) (hki:k≠.l i) (hx:∀ w U,PRep w U x v)
  (hc:∀ b w,Lib.IsBuilder T e 0 b (Lib.byteCells s) w→Calls P f #[.pointer (some ⟨b,0,none⟩)] w fun ev w'=>ev=.returned v∧w'=w)
  (hk:qaa P E Y is (Zg fr d (.p x)) L K):qa0 P E f [.adr k 0] L d fr (qc8 P E Y is K):=
 .inl ⟨(·=x),qw3 hki hat hx hc,fun y hy=>by rw [hy];exact hk⟩
end
def hvB (b:UInt8):Option Nat:=
 if 48≤b.toNat∧b.toNat≤57 then some (b.toNat - 48) else if 97≤(b ||| 32).toNat∧(b ||| 32).toNat≤102 then some ((b ||| 32).toNat - 87) else none
theorem qux {b:UInt8} {n:Nat} (h:hvB b=some n):n < 16:=by
 unfold hvB at h
 split at h
 ·cases h;omega
 ·split at h
  ·cases h;omega
  ·cases h
theorem qrM:∀ i,i < 16→hvB (hxB i)=some i:=by decide
def hexP:Option Nat→Option Nat→UInt8×Nat
 |some i,some j=>(UInt8.ofNat (16 * i+j),4)
 |_,_=>(0,0)
def escF (s:List UInt8):UInt8×Nat:=
 if s=[] then (0,0) else if s.getD 0 0≠92 then (s.getD 0 0,1)
 else if Lib.hasPrefix s [92,110]=true then (10,2)
 else if Lib.hasPrefix s [92,34]=true∨Lib.hasPrefix s [92,92]=true then (s.getD 1 0,2)
 else if 4≤s.length∧s.getD 1 0=120 then hexP (hvB (s.getD 2 0)) (hvB (s.getD 3 0))
 else (0,0)
theorem qpU (c:UInt8) (t:List UInt8):escF (quB c++t)=(c,(quB c).length):=by
 unfold quB
 split
 ·rename_i h
  rcases h with rfl|rfl<;>rfl
 rename_i h
 split
 ·rename_i h2
  subst h2
  rfl
 rename_i h2
 split
 ·have h16:c.toNat / 16 < 16:=by have:=c.toNat_lt;omega
  have h17:c.toNat % 16 < 16:=by omega
  have e:escF ([92,120,hxB (c.toNat / 16),hxB (c.toNat % 16)]++t)=hexP (hvB (hxB (c.toNat / 16))) (hvB (hxB (c.toNat % 16))):=by
   unfold escF
   rw [if_neg (by simp),if_neg (by simp),if_neg (by rw [Lib.hasPrefix];simp),if_neg (by simp [Lib.hasPrefix]),if_pos (by simp)]
   rfl
  rw [e,qrM _ h16,qrM _ h17]
  simp only [hexP,List.length_cons,List.length_nil,Prod.mk.injEq,and_true]
  apply UInt8.toNat_inj.1
  rw [UInt8.toNat_ofNat']
  have:=c.toNat_lt
  omega
 ·unfold escF
  rw [if_neg (by simp),if_pos (by simpa using fun e=>h (.inr e))]
  rfl
theorem qtD (s:List UInt8):(escF s).2≤s.length:=by
 unfold escF
 split
 ·simp
 rename_i h0
 have h1:1≤s.length:=by
  cases s with
  |nil=>exact absurd rfl h0
  |cons=>simp
 split
 ·exact h1
 split
 ·rename_i h
  match s,h with
  |[],h=>exact absurd rfl h0
  |[a],h=>simp [Lib.hasPrefix] at h
  |a :: b :: r,h=>simp
 split
 ·rename_i h
  match s,h with
  |[],h=>exact absurd rfl h0
  |[a],h=>simp [Lib.hasPrefix] at h
  |a :: b :: r,h=>simp
 split
 ·rename_i h
  unfold hexP
  split
  ·exact h.1
  ·simp
 ·simp
def qiW (s:List UInt8):Option UInt8:=if (escF s).2=0∨quB (escF s).1≠s.take (escF s).2 then none else some (escF s).1
theorem qpA (c:UInt8):quB c≠[]:=by
 unfold quB
 split
 ·simp
 split
 ·simp
 split<;>simp
theorem qh5 (s:List UInt8) (c:UInt8):qiW s=some c↔∃ t,s=quB c++t:=by
 unfold qiW
 constructor
 ·intro h
  split at h
  ·cases h
  ·rename_i h2
   simp only [not_or,Classical.not_not,Option.some.injEq] at h2 h
   subst h
   exact ⟨s.drop (escF s).2,by rw [h2.2,List.take_append_drop]⟩
 ·rintro ⟨t,rfl⟩
  have hn:=qpA c
  rw [qpU]
  rw [if_neg]
  rintro (h|h)
  ·exact hn (List.length_eq_zero_iff.1 h)
  ·exact h (by simp)
theorem qq4 {s:List UInt8} {c:UInt8} (h:qiW s=some c):(escF s).2=(quB c).length∧(escF s).1=c:=by
 obtain ⟨t,rfl⟩:=(qh5 s c).1 h
 rw [qpU]
 exact ⟨rfl,rfl⟩
def unqG:Nat→List UInt8→List UInt8→Option (List UInt8×List UInt8)
 |0,_,_=>none
 |_+1,_,[]=>none
 |f+1,q,b :: r=>if b=34 then some (q,r) else match qiW (b :: r) with|none=>none|some c=>unqG f (q++[c]) ((b :: r).drop (quB c).length)
def unqF (s:List UInt8):Option (List UInt8×List UInt8):=if Lib.hasPrefix s [34]=true then unqG (s.length+1) [] (s.drop 1) else none
theorem qpl (f:Nat) (q:List UInt8):unqG f q []=none:=by cases f<;>rfl
theorem qlb {f:Nat} {q s:List UInt8} (hs:s≠[]) (h:s.getD 0 0=34) (hf:s.length < f):unqG f q s=some (q,s.drop 1):=by
 match f,s,hf with
 |f+1,b :: r,hf=>
  have h:b=34:=h
  show (if b=34 then _ else _)=_
  rw [if_pos h]
  rfl
theorem qmV {f:Nat} {q s:List UInt8} (h:s.getD 0 0≠34) (h2:qiW s=none):unqG f q s=none:=by
 match f,s with
 |0,_=>rfl
 |f+1,[]=>rfl
 |f+1,b :: r=>
  have h:¬ b=34:=h
  show (if b=34 then _ else _)=_
  rw [if_neg h,h2]
theorem qmU {f:Nat} {q s:List UInt8} {c:UInt8} (h:s.getD 0 0≠34) (h2:qiW s=some c) (hf:s.length < f):unqG f q s=unqG (f - 1) (q++[c]) (s.drop (quB c).length):=by
 match f,s,hf with
 |f+1,[],hf=>
  obtain ⟨t,ht⟩:=(qh5 _ _).1 h2
  exact absurd (List.append_eq_nil_iff.1 ht.symm).1 (qpA c)
 |f+1,b :: r,hf=>
  have h:¬ b=34:=h
  show (if b=34 then _ else _)=_
  rw [if_neg h,h2]
  rfl
def kndW:List (List UInt8):=[[99,111,100,101],[108,97,98,101,108],[100,114,111,112],[99,111,118,101,114],[110,111,116,101],[117,110,100,111]]
def nonF (s:List UInt8):List UInt8:=if s=[45] then [] else s
section
variable {α:Type} [DecidableEq α]
def lc:List α→List α→Nat
 |[],_=>0
 |_ :: _,[]=>0
 |a :: az,b :: bs=>if a=b then lc az bs+1 else max (lc az (b :: bs)) (lc (a :: az) bs)
termination_by x y=>x.length+y.length
def fk (a:α) (az bs:List α) (m:Nat):List α→Nat→Option Nat
 |[],_=>none
 |b :: r,k=>if a=b∧lc az (bs.drop (k+1))+1=m then some k else fk a az bs m r (k+1)
end
end Go.Proofs.YtjgdjinhkgjpeaaGreatDoor
