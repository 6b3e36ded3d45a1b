import Derived.Test.YtinffddgojhdfaaGreatDoorZ4
import Derived.Lib.Builder
import Derived.Lib.UnsafeStr
import Derived.Lib.AppendStr
set_option linter.unusedVariables false
set_option linter.unusedSimpArgs false
set_option linter.defProp false
namespace Go.Proofs.YtinffddgojhdfaaGreatDoor
open Nat renaming le_trans→ya
open List renaming append_assoc→yn,length_append→zD,map_cons→zl
open Option renaming map_eq_some_iff→zh
open _root_.Array renaming getElem?_modify→yj
def r1 (d q:Nat) (k:Key):Option Key:=if k=.l d then some (.l q) else if k=.l q then none else some k
section
variable {E:Envt} {B:Base} {w:World} {L:Objs} {ι:Key→Value} {fr:List AV} {a:Act}
theorem quW {k:Key} {cs:List PV} {t:TypeId} (hl:Zas L k=some (.box (cs.map .p) t)):ReOk E fr L (fr.map (·.thaw k (.ptr cs))) (Zaw k (.ptr cs) L):=fun B w ι a hs=>⟨ι,hs.thawB hl⟩
end
theorem qmM {P:Program} (w:World) (base:Nat) (t u ty e:TypeId) (i:TypeInfo) (ht:P.underlying t=some (.slice e)) (hu:P.underlying u=some .string) (hi:P.info? e=some i) (hz:i.zero=some (.int .u8 0))
  (hsize:i.size=1) (hby:i.bytes=1) (v:Value) (n:Nat) (xs:List Value) (hown:w.ownsRow base e 1 v n xs) (s:ByteArray)
  (h63:n+s.size≤maxLen) (hbytes:n+s.size≤140737488355328) (hbase:base≤w.heap.size) :
  ∃ v' w',(Builtin.append_ #[t,u] ty #[v,.string s]).run P w=.ok v' w'∧w'.ownsRow base e 1 v' (n+s.size) (xs++Lib.strCells s)∧w.grownBy w' v.ownBlock∧
   ∀ x,v'.ownBlock=some x→v.ownBlock=some x∨w.heap.size≤x:=by
 have hxl:xs.length=n:=by simpa using hown.1
 have hlen:(xs++Lib.strCells s).length=(n+s.size) * 1:=by rw [zD,hxl,Lib.strCells_length,Nat.mul_one]
 rcases hown.2 with ⟨rfl,rfl⟩|⟨g,cap,cur,rfl,hbg,hg,hnc,hcm,hcs,htake⟩
 ·have h0:w.ownsRow w.heap.size e 1 (.slice none 0 0) 0 xs:=⟨hown.1,.inl ⟨rfl,rfl⟩⟩
  obtain ⟨v',w',h1,h2,h3,h4⟩:=Lib.run_append_own_string (P:=P) w w.heap.size t u ty e i ht hu hi hz hsize hby _ 0 xs h0 s h63 hbytes (Nat.le_refl _)
  refine ⟨v',w',h1,⟨h2.1,?_⟩,h3,fun x hx=>?_⟩
  ·rcases h2.2 with g1|⟨g,cap,cur,g1,g2,g3⟩
   ·exact .inl g1
   ·exact .inr ⟨g,cap,cur,g1,ya hbase g2,g3⟩
  ·rcases h2.2 with ⟨g1,_⟩|⟨g,cap,cur,g1,g2,g3⟩
   ·rw [g1] at hx;cases hx
   ·rw [g1] at hx;cases hx;exact .inr g2
 ·have hsmall:n+s.size≤9223372036854775807:=by simp only [maxLen] at h63;omega
  by_cases hroom:n+s.size≤cap
  ·have hcs':cur.size=cap:=by simpa using hcs
   have hr:=Lib.run_append_room_string (P:=P) w t u ty e i ht hu hi hsize g n cap cur hg s hroom (by omega)
   refine ⟨_,_,hr,⟨hlen,.inr ⟨g,cap,_,rfl,hbg,setRow_heap w g cur _ e _ hg,hroom,hcm,?_,?_⟩⟩,⟨rfl,rfl,rfl,by simp,fun k _ hk=>setRow_other w g k _ (fun e=>hk (by simp [Value.ownBlock,e]))⟩,fun x hx=>.inl hx⟩
   ·simp only [List.size_toArray,zD,List.length_take,List.length_drop,Array.length_toList,Lib.strCells_length]
    omega
   ·have ht':cur.toList.take n=xs:=by simpa using htake
    rw [ht',← hlen]
    exact List.take_left
  ·have holds:∀ j u,xs[j]?=some u→w.cell? ((⟨g,0,none⟩:Addr).add j)=some u:=hown.cells (g:=g) rfl
   have hr:=Lib.run_append_grow_string (P:=P) w t u ty e i (.int .u8 0) ht hu hi hz ⟨g,0,none⟩ n cap xs (by rw [hsize];simpa using hxl) holds s (by omega) (by omega) (by rw [hby];exact growslice_fits (by omega) (by omega))
   have hge:=grownCap_ge w (n+s.size) cap e
   have hcm2:grownCap w (n+s.size) cap e≤maxLen:=grownCap_le_maxLen w (n+s.size) cap e h63
   refine ⟨_,_,hr,⟨hlen,.inr ⟨w.heap.size,_,_,rfl,hbase,heap_alloc_new w.drew _,hge,hcm2,?_,?_⟩⟩,⟨rfl,rfl,rfl,by simp,fun k hk _=>Lib.alloc_old w.drew _ k hk⟩,fun x hx=>?_⟩
   ·have hz1:(Value.int IntKind.u8 0).cells.size=1:=rfl
    simp only [Array.size_append,List.size_toArray,size_zeroCells,hz1,hxl,Lib.strCells_length]
    omega
   ·simp only [Array.toList_append,yn]
    rw [← yn,← hlen]
    exact List.take_left
   ·simp [Value.ownBlock] at hx
    omega
theorem qjx {P:Program} {w:World} {ops:Array Oper} {rest:List Oper} {o:Oper} {a:Act} {Q:Exit→Act→World→Prop} (hgd:o.guard=none) (sl x:Operand) (t u:TypeId)
  (ho:o.op=.call { callee:=.builtin .append,args:=#[sl,x],argTypes:=#[t,u] })
  (base:Nat) (e:TypeId) (i:TypeInfo) (ht:P.underlying t=some (.slice e)) (hu:P.underlying u=some .string) (hi:P.info? e=some i) (hz:i.zero=some (.int .u8 0))
  (hsize:i.size=1) (hby:i.bytes=1)
  (v:Value) (n:Nat) (xs:List Value) (hs:a.eval sl=v) (hown:w.ownsRow base e 1 v n xs) (s:ByteArray) (hx:a.eval x=.string s)
  (h63:n+s.size≤maxLen) (hbytes:n+s.size≤140737488355328) (hbase:base≤w.heap.size)
  (h:∀ v' w',w'.ownsRow base e 1 v' (n+s.size) (xs++Lib.strCells s)→w.grownBy w' v.ownBlock→(∀ x,v'.ownBlock=some x→v.ownBlock=some x∨w.heap.size≤x)→wpList P ops Q rest (a.put o.dst v') w'):wpList P ops Q (o :: rest) a w:=by
 refine wpList_plain hgd fun K hK=>?_
 obtain ⟨v',w',hr,h2,h3,h4⟩:=qmM (P:=P) w base t u o.type e i ht hu hi hz hsize hby v n xs hown s h63 hbytes hbase
 unfold Oper.wp execOp
 simp only [ho,resolve,invoke,builtin,Sem.run_bind,Sem.run_pure,Result.andThen_ok,List.map_toArray,zl,List.map_nil,hs,hx,hr]
 exact hK _ _ (h v' w' h2 h3 h4)
def nilP:PV:=.raw (.pointer none)
def bytC (s:List UInt8):List (List PV):=s.map fun c=>[.int .u8 c.toNat]
def qeF (w:World) (T:TypeId) (b x:Nat):Prop:=∃ p u,w.heap[b]?=some (.cells #[p,u] T (0,0))∧u.ownBlock=some x
def SbPost (T e:TypeId) (b:Nat) (bs:List UInt8) (w w':World):Prop:=
 (∃ v,w'.heap[b]?=some (.cells #[.pointer (some ⟨b,0,none⟩),v] T (0,0))∧w'.ownsRow 0 e 1 v bs.length (Lib.byteCells bs)∧v.ownBlock≠some b∧∀ x,v.ownBlock=some x→qeF w T b x∨w.heap.size≤x)∧Grow w w' (fun x=>x=b∨qeF w T b x)
def SbAt (L:Objs) (k:Key) (i:Nat) (T e:TypeId) (s:List UInt8):Prop:=
 (Zas L k=some (.box [.p nilP,.p (.nl 1)] T)∧s=[])∨(Zas L k=some (.box [.adr k 0,.row (.l i)] T)∧Zas L (.l i)=some (.row (bytC s) e 1 true))
def qfU (L:Objs) (k:Key) (i:Nat) (T e:TypeId) (s:List UInt8):Objs:=Zat (Zav L (.l i) (.row (bytC s) e 1 true)) k (.box [.adr k 0,.row (.l i)] T)
section
variable {w w1 w2:World} {T e:TypeId} {b:Nat} {v v':Value} {bs:List UInt8} {p:Value}
theorem qhX {o:Obj} (h:w.heap[b]?=some o):b < w.heap.size:=by
 rcases Nat.lt_or_ge b w.heap.size with h'|h'
 ·exact h'
 ·simp [Array.getElem?_eq_none h'] at h
theorem qff (h:w.heap[b]?=some (.cells #[p,v] T (0,0))) {x:Nat}:qeF w T b x↔v.ownBlock=some x:=by
 constructor
 ·rintro ⟨q,u,h1,h2⟩
  rw [h] at h1
  simp at h1
  rw [h1.2];exact h2
 ·intro h2;exact ⟨_,_,h,h2⟩
theorem qpR (h:w.heap[b]?=some (.cells #[p,v] T (0,0))):(w.setCell ⟨b,1,none⟩ v').heap[b]?=some (.cells #[p,v'] T (0,0)):=by
 simp [World.setCell,yj,h]
theorem qhv {q:Value} (h:w.heap[b]?=some (.cells #[p,v] T (0,0))):(w.setCell ⟨b,0,none⟩ q).heap[b]?=some (.cells #[q,v] T (0,0)):=by
 simp [World.setCell,yj,h]
theorem qf5 {O:Nat→Prop} (off:Nat) (q:Value) (hO:O b):Grow w (w.setCell ⟨b,off,none⟩ q) O:=
 ⟨rfl,rfl,rfl,by simp [World.setCell],fun c _ hn=>heap_setCell_other _ _ _ _ (fun e=>hn (by subst e;exact hO))⟩
theorem qiV (hTe:T≠e) (h1:Grow w w1 (·=b)) (hb1:∀ x,qeF w1 T b x→qeF w T b x) (hk1:w1.heap[b]?=some (.cells #[.pointer (some ⟨b,0,none⟩),v] T (0,0))) (hg:w1.grownBy w2 v.ownBlock) (hne:v.ownBlock≠some b)
  (hloc:∀ x,v'.ownBlock=some x→v.ownBlock=some x∨w1.heap.size≤x) (hown:w2.ownsRow 0 e 1 v' bs.length (Lib.byteCells bs)):SbPost T e b bs w (w2.setCell ⟨b,1,none⟩ v'):=by
 have hk2:w2.heap[b]?=some (.cells #[.pointer (some ⟨b,0,none⟩),v] T (0,0)):=by rw [hg.block b (qhX hk1) (fun e=>hne e.symm)];exact hk1
 have hne':=Lib.ownBlock_ne hown hk2 hTe
 refine ⟨⟨v',qpR hk2,?_,hne',fun x hx=>?_⟩,?_⟩
 ·exact hown.kept (row:=some b) ⟨rfl,rfl,rfl,by simp [World.setCell],fun k _ hk=>heap_setCell_other _ _ _ _ (fun e=>hk (by simp [e]))⟩ (Or.inr hne')
 ·rcases hloc x hx with h|h
  ·exact .inl (hb1 x ((qff hk1).2 h))
  ·exact .inr (ya h1.size h)
 ·refine ⟨hg.os.trans h1.os,hg.tape.trans h1.tape,hg.output.trans h1.output,ya h1.size (ya hg.size (by simp [World.setCell])),fun c hc hn=>?_⟩
  have e1:=h1.block c hc (fun e=>hn (.inl e))
  have e2:=hg.block c (Nat.lt_of_lt_of_le hc h1.size) (fun e=>hn (.inr (hb1 c ((qff hk1).2 e.symm))))
  rw [heap_setCell_other _ _ _ _ (fun e=>hn (.inl (by simpa using e))),e2,e1]
def qqE (T e:TypeId) (b:Nat) (bs:List Value) (w w1:World):Prop:=
 ∃ v,w1.heap[b]?=some (.cells #[.pointer (some ⟨b,0,none⟩),v] T (0,0))∧w1.ownsRow 0 e 1 v bs.length bs∧v.ownBlock≠some b∧Grow w w1 (·=b)∧∀ x,qeF w1 T b x→qeF w T b x
theorem qnm {bs:List Value} (h:Lib.BuilderAt T e 0 b (.pointer (some ⟨b,0,none⟩)) bs w):qqE T e b bs w w:=by
 obtain ⟨_,v,h1,h2,h3⟩:=h
 exact ⟨v,h1,h2,h3,Grow.refl _ _,fun _ h=>h⟩
theorem qmh {bs:List Value} (h:Lib.BuilderAt T e 0 b (.pointer none) bs w):qqE T e b bs w (w.setCell ⟨b,0,none⟩ (.pointer (some ⟨b,0,none⟩))):=by
 obtain ⟨_,v,h1,h2,h3⟩:=h
 refine ⟨v,qhv h1,?_,h3,qf5 0 _ rfl,fun x hx=>?_⟩
 ·exact h2.kept (row:=some b) ⟨rfl,rfl,rfl,by simp [World.setCell],fun k _ hk=>heap_setCell_other _ _ _ _ (fun e=>hk (by simp [e]))⟩ (Or.inr h3)
 ·exact (qff h1).2 ((qff (qhv h1)).1 hx)
theorem qna {g n:Nat} {O:Nat→Prop} (hg:O g):Grow w (w.drew.freeze ⟨g,0,none⟩ n) O:=by
 unfold World.freeze
 split
 ·exact (Grow.refl w O).drew
 ·exact ⟨rfl,rfl,rfl,by simp,fun k hk hn=>by
   simp only [yj]
   rw [if_neg (fun e=>hn (by subst e;exact hg))]
   rfl⟩
theorem qnb {o:Obj} {O:Nat→Prop}:Grow w (w.drew.alloc o) O:=⟨rfl,rfl,rfl,by simp,fun k hk _=>Lib.alloc_old w.drew _ k hk⟩
theorem SbPost.of_grown (hTe:T≠e) {cs:Array Value} (hbk:w.heap[b]?=some (.cells #[.pointer (some ⟨b,0,none⟩),.slice none 0 0] T (0,0))) (hm:cs.size≤maxLen) :
  SbPost T e b [] w ((w.alloc (.cells cs e)).setCell ⟨b,1,none⟩ (.slice (some ⟨w.heap.size,0,none⟩) 0 cs.size)).drew.drew.drew:=by
 have h:SbPost T e b [] w ((w.alloc (.cells cs e)).setCell ⟨b,1,none⟩ (.slice (some ⟨w.heap.size,0,none⟩) 0 cs.size)):=by
  refine qiV (w1:=w) hTe (Grow.refl _ _) (fun _ h=>h) hbk (w2:=w.alloc (.cells cs e)) ⟨rfl,rfl,rfl,by simp,fun k hk _=>Lib.alloc_old w _ k hk⟩ (by simp [Value.ownBlock]) (fun x hx=>?_) ?_
  ·simp [Value.ownBlock] at hx;omega
  ·exact ⟨rfl,.inr ⟨w.heap.size,cs.size,cs,rfl,Nat.zero_le _,heap_alloc_new w _,Nat.zero_le _,hm,by simp,by simp [Lib.byteCells]⟩⟩
 obtain ⟨⟨u,h1,h2,h3,h4⟩,hG⟩:=h
 exact ⟨⟨u,h1,h2,h3,h4⟩,hG.drew.drew.drew⟩
theorem SbPost.behind {q:Value} (hbk:w.heap[b]?=some (.cells #[q,.slice none 0 0] T (0,0))) (h:SbPost T e b bs (w.setCell ⟨b,0,none⟩ (.pointer (some ⟨b,0,none⟩))).drew w2):SbPost T e b bs w w2:=by
 obtain ⟨⟨u,h1,h2,h3,h4⟩,hG⟩:=h
 have hk:=qhv (q:=.pointer (some ⟨b,0,none⟩)) hbk
 have hno:∀ x,¬ qeF (w.setCell ⟨b,0,none⟩ (.pointer (some ⟨b,0,none⟩))).drew T b x:=fun x hx=>by
  have:=(qff (w:=(w.setCell ⟨b,0,none⟩ (.pointer (some ⟨b,0,none⟩))).drew) hk).1 hx
  simp [Value.ownBlock] at this
 refine ⟨⟨u,h1,h2,h3,fun x hx=>?_⟩,?_⟩
 ·rcases h4 x hx with h|h
  ·exact (hno x h).elim
  ·exact .inr (by simpa [World.setCell] using h)
 ·refine (qf5 (w:=w) 0 (.pointer (some ⟨b,0,none⟩)) (O:=fun x=>x=b∨qeF w T b x) (.inl rfl)).drew.trans hG (fun c hc=>?_)
  rcases hc with h|h
  ·exact .inl (.inl h)
  ·exact (hno c h).elim
theorem SbPost.of_used {q:Value} (hbk:w.heap[b]?=some (.cells #[q,.slice none 0 0] T (0,0))):SbPost T e b [] w (w.setCell ⟨b,0,none⟩ (.pointer (some ⟨b,0,none⟩))).drew:=by
 refine ⟨⟨.slice none 0 0,qhv hbk,World.ownsRow_nil _ _ _ _,by simp [Value.ownBlock],fun x hx=>by simp [Value.ownBlock] at hx⟩,?_⟩
 exact (qf5 (w:=w) 0 (.pointer (some ⟨b,0,none⟩)) (O:=fun x=>x=b∨qeF w T b x) (.inl rfl)).drew
end
section
variable {P:Program} {E:Envt} {w w':World} {X:Nat→Prop} {U:Nat→Prop} {L:Objs} {ι:Key→Value} {k:Key} {i:Nat} {T e:TypeId} {s s':List UInt8}
theorem qiK:(bytC s).length=s.length:=by simp [bytC]
theorem bytC_rep:∀ {s:List UInt8} {vs:List Value},PRepL w U (bytC s).flatten vs↔vs=Lib.byteCells s
 |[],vs=>by simp [bytC,PRepL,Lib.byteCells]
 |c :: r,vs=>by
  have ih:∀ vs,PRepL w U (bytC r).flatten vs↔vs=Lib.byteCells r:=fun vs=>bytC_rep
  simp only [bytC,zl,List.flatten_cons,List.cons_append,List.nil_append,PRepL,PRep,Lib.byteCells] at ih ⊢
  constructor
  ·rintro ⟨v,r',rfl,rfl,h⟩
   rw [(ih r').1 h]
  ·rintro rfl
   exact ⟨_,_,rfl,rfl,(ih _).2 rfl⟩
theorem qjV (hs:Sim w X L ι) {k j:Key} {a q:AO} (h1:Zas L k=some a) (h2:Zas L j=some q) (hne:k≠j) {b:Nat} (hb:blk (ι k)=some b):blk (ι j)≠some b:=fun h=>hne (hs.inj k j a q b h1 h2 hb h)
theorem qnN (hs:Sim w X L ι) (hki:k≠.l i) (h:SbAt L k i T e s):∃ b,ι k=.pointer (some ⟨b,0,none⟩)∧(∃ a,Zas L k=some a)∧Lib.IsBuilder T e 0 b (Lib.byteCells s) w∧(∀ x,qeF w T b x→Old L ι (.l i) x)∧(Zas L k=some (.box [.p nilP,.p (.nl 1)] T)→w.heap[b]?=some (.cells #[.pointer none,.slice none 0 0] T (0,0))):=by
 rcases h with ⟨h1,rfl⟩|⟨h1,h2⟩
 ·obtain ⟨b,vs,e1,e2,e3,e4,e5⟩:=hs.obj k _ h1
  obtain ⟨v0,f0,r0⟩:=e5 0 _ rfl
  obtain ⟨v1,f1,r1⟩:=e5 1 _ rfl
  simp only [ARep,PRep,nilP] at r0 r1
  have hvs:vs=[.pointer none,.slice none 0 0]:=by
   match vs,e3,f0,f1 with
   |[x,y],_,f0,f1=>
    simp at f0 f1
    rw [f0,f1,r0.1,r1]
  subst hvs
  refine ⟨b,e1,⟨_,h1⟩,.inl ⟨Nat.zero_le _,.slice none 0 0,e2,World.ownsRow_nil _ _ _ _,by simp [Value.ownBlock]⟩,?_,fun _=>e2⟩
  rintro x ⟨p,u,g1,g2⟩
  rw [g1] at e2
  simp at e2
  rw [e2.2] at g2
  simp [Value.ownBlock] at g2
 ·obtain ⟨b,vs,e1,e2,e3,e4,e5⟩:=hs.obj k _ h1
  obtain ⟨v0,f0,r0⟩:=e5 0 _ rfl
  obtain ⟨v1,f1,r1⟩:=e5 1 _ rfl
  obtain ⟨b',q1,q2⟩:=r0
  obtain ⟨q3,q4⟩:=r1
  have hbb:b'=b:=by rw [e1] at q1;cases q1;rfl
  subst hbb
  have hvs:vs=[.pointer (some ⟨b',0,none⟩),ι (.l i)]:=by
   match vs,e3,f0,f1 with
   |[x,y],_,f0,f1=>
    simp at f0 f1
    rw [f0,f1,q2,q3]
  subst hvs
  obtain ⟨us,u1,u2,u3,u4⟩:=hs.obj (.l i) _ h2
  rw [bytC_rep] at u3
  subst u3
  have hsl:∃ A n c,ι (.l i)=.slice A n c:=by rw [← q3];exact q4
  have hbk:blk (ι (.l i))=(ι (.l i)).ownBlock:=qbb (b:=0) hsl
  refine ⟨b',e1,⟨_,h1⟩,.inr ⟨Nat.zero_le _,ι (.l i),e2,?_,?_⟩,?_,fun hf=>by rw [h1] at hf;cases hf⟩
  ·have:=u1.owns
   rw [qiK] at this
   simpa [Lib.byteCells] using this
  ·rw [← hbk]
   exact qjV hs h1 h2 hki (by rw [e1];rfl)
  ·rintro x ⟨p,u,g1,g2⟩
   rw [g1] at e2
   simp at e2
   rw [e2.2,← hbk] at g2
   exact ⟨_,h2,g2⟩
theorem qgp (j:Key):Zas (qfU L k i T e s) j=if j=k then some (.box [.adr k 0,.row (.l i)] T) else if j=.l i then some (.row (bytC s) e 1 true) else (Zas L j).map (AO.kill (.l i)):=by
 unfold qfU
 rw [qad,qbG]
theorem qtf {f:FuncId} {as:List AV} {vr:List Value} {x:PV} {v:Value} (hki:k≠.l i) (hat:SbAt L k i T e s) (ha:∀ w U ι vs,ARepL w U ι as vs→vs=vr) (hx:∀ w U,PRep w U x v)
  (hc:∀ b w,Lib.IsBuilder T e 0 b (Lib.byteCells s) w→(Zas L k=some (.box [.p nilP,.p (.nl 1)] T)→w.heap[b]?=some (.cells #[.pointer none,.slice none 0 0] T (0,0)))→Calls P f (.pointer (some ⟨b,0,none⟩) :: vr).toArray w fun ev w'=>ev=.returned v∧SbPost T e b s' w w')
  {K:AV→Objs→Prop} (hK:K (.p x) (qfU L k i T e s')):Call P E f (.adr k 0 :: as) L i K:=by
 intro w X ι vs hs hX hE hEb hA
 simp only [ARepL] at hA
 obtain ⟨v0,vr',rfl,⟨b0,hv1,hv2⟩,hA⟩:=hA
 have:=ha _ _ _ _ hA
 subst this
 obtain ⟨b,hb1,⟨ak,hak⟩,hib,hbuf,hfr⟩:=qnN hs hki hat
 have hbb:b0=b:=by rw [hb1] at hv1;cases hv1;rfl
 subst hbb
 subst hv2
 refine (hc b0 w hib hfr).mono ?_
 rintro ev w' ⟨rfl,⟨u,p1,p2,p3,p4⟩,hG⟩
 have hOk:Own L ι b0:=⟨k,ak,hak,by rw [hb1];rfl⟩
 have hGo:∀ c,(c=b0∨qeF w T b0 c)→Own L ι c:=by
  rintro c (rfl|h)
  ·exact hOk
  ·obtain ⟨q,h1,h2⟩:=hbuf c h;exact ⟨_,q,h1,h2⟩
 have husl:=qak p2
 have hubk:blk u=u.ownBlock:=qbb (b:=0) husl
 have hik:updI ι (.l i) u k=ι k:=by simp [updI,hki]
 have hii:updI ι (.l i) u (.l i)=u:=by simp [updI]
 have hown:∀ c,Own (qfU L k i T e s') (updI ι (.l i) u) c→Own L ι c∨w.heap.size≤c:=by
  rintro c ⟨j,q,h1,h2⟩
  by_cases e1:j=k
  ·subst e1;rw [hik] at h2;exact .inl ⟨j,ak,hak,h2⟩
  ·by_cases e2:j=.l i
   ·subst e2
    rw [hii,hubk] at h2
    rcases p4 c h2 with h|h
    ·exact .inl (hGo c (.inr h))
    ·exact .inr h
   ·rw [qgp,if_neg e1,if_neg e2] at h1
    obtain ⟨q',h3,_⟩:=zh.1 h1
    refine .inl ⟨j,q',h3,?_⟩
    simpa [updI,e2] using h2
 have hgrow:Grow w w' (Own L ι):=⟨hG.os,hG.tape,hG.output,hG.size,fun c hc hn=>hG.block c hc (fun h=>hn (hGo c h))⟩
 have hk:Keeps w w' (fun c=>Own L ι c∨X c) (fun c=>Own (qfU L k i T e s') (updI ι (.l i) u) c∨X c):=by
  intro c hlt hu
  refine ⟨hgrow.block c hlt (fun h=>hu (.inl h)),?_⟩
  rintro (h|h)
  ·rcases hown c h with h'|h'
   ·exact hu (.inl h')
   ·omega
  ·exact hu (.inr h)
 refine ⟨v,.p x,_,updI ι (.l i) u,rfl,hK,hx _ _,⟨⟨?_,?_⟩,hgrow,hown,fun j hj=>by simp [updI,hj],?_⟩⟩
 ·intro j q hj
  rw [qgp] at hj
  by_cases e1:j=k
  ·subst e1
   rw [if_pos rfl] at hj
   cases hj
   refine ⟨b0,[.pointer (some ⟨b0,0,none⟩),u],by rw [hik];exact hb1,p1,rfl,?_,?_⟩
   ·intro y hy
    simp only [List.mem_cons,List.not_mem_nil,or_false] at hy
    rcases hy with rfl|rfl
    ·rfl
    ·obtain ⟨A,n,c,rfl⟩:=husl;rfl
   ·intro m a hm
    match m,hm with
    |0,hm=>simp at hm;subst hm;exact ⟨_,rfl,b0,by rw [hik];exact hb1,rfl⟩
    |1,hm=>simp at hm;subst hm;exact ⟨_,rfl,by rw [hii],husl⟩
  ·rw [if_neg e1] at hj
   by_cases e2:j=.l i
   ·subst e2
    rw [if_pos rfl] at hj
    cases hj
    refine ⟨Lib.byteCells s',?_,?_,bytC_rep.2 rfl,?_⟩
    ·rw [hii,qiK];exact RowOk.of_owns p2
    ·intro y hy
     simp only [Lib.byteCells,List.mem_map] at hy
     obtain ⟨c,_,rfl⟩:=hy
     rfl
    ·intro y hy
     simp only [bytC,List.mem_map] at hy
     obtain ⟨c,_,rfl⟩:=hy
     rfl
   ·rw [if_neg e2] at hj
    obtain ⟨q',h1,rfl⟩:=zh.1 hj
    have ho:=hs.obj j q' h1
    refine ObjOk.other e2 hk (fun c hcj=>hG.block c (ho.blk_lt hcj) ?_) ho
    rintro (rfl|h)
    ·exact qjV hs hak h1 (fun e=>e1 e.symm) (by rw [hb1];rfl) hcj
    ·obtain ⟨q2,h2,h3⟩:=hbuf c h
     exact qjV hs h2 h1 (fun e=>e2 e.symm) h3 hcj
 ·have hin:∀ j q c,Zas (qfU L k i T e s') j=some q→blk (updI ι (.l i) u j)=some c→(j=.l i∧u.ownBlock=some c)∨(j≠.l i∧∃ q',Zas L j=some q'∧blk (ι j)=some c):=by
   intro j q c hj hc
   by_cases e2:j=.l i
   ·subst e2;rw [hii,hubk] at hc;exact .inl ⟨rfl,hc⟩
   ·refine .inr ⟨e2,?_⟩
    rw [qgp] at hj
    have hc':blk (ι j)=some c:=by simpa [updI,e2] using hc
    by_cases e1:j=k
    ·subst e1;exact ⟨ak,hak,hc'⟩
    ·rw [if_neg e1,if_neg e2] at hj
     obtain ⟨q',h1,_⟩:=zh.1 hj
     exact ⟨q',h1,hc'⟩
  have hclash:∀ j c,u.ownBlock=some c→j≠.l i→(∃ q',Zas L j=some q'∧blk (ι j)=some c)→False:=by
   rintro j c h1 h2 ⟨q',h3,h4⟩
   rcases p4 c h1 with h|h
   ·obtain ⟨q2,h5,h6⟩:=hbuf c h
    exact qjV hs h5 h3 (fun e=>h2 e.symm) h6 h4
   ·have:=(hs.obj j q' h3).blk_lt h4
    omega
  intro j j' q q' c hj hj' hc hc'
  rcases hin j q c hj hc with ⟨rfl,h1⟩|⟨h1,h2⟩<;>rcases hin j' q' c hj' hc' with ⟨rfl,h3⟩|⟨h3,h4⟩
  ·rfl
  ·exact (hclash _ c h1 h3 h4).elim
  ·exact (hclash _ c h3 h1 h2).elim
  ·obtain ⟨q1,g1,g2⟩:=h2
   obtain ⟨q2,g3,g4⟩:=h4
   exact hs.inj j j' q1 q2 c g1 g3 g2 g4
 ·intro j hj
  rw [qgp] at hj
  by_cases e1:j=k
  ·subst e1;exact .inl (by rw [hak];rfl)
  ·by_cases e2:j=.l i
   ·exact .inr e2
   ·rw [if_neg e1,if_neg e2] at hj
    exact .inl (by simpa using hj)
def qma (L:Objs) (k:Key) (i:Nat):Objs:=delO (delO L k) (.l i)
theorem qoF (j:Key):Zas (qma L k i) j=if j=.l i∨j=k then none else Zas L j:=by
 unfold qma
 rw [qlY,qlY]
 by_cases h1:j=.l i<;>by_cases h2:j=k<;>simp [h1,h2]
theorem qpk {f:FuncId} (hki:k≠.l i) (hat:SbAt L k i T e s)
  (hc:∀ b w,Lib.IsBuilder T e 0 b (Lib.byteCells s) w→Calls P f #[.pointer (some ⟨b,0,none⟩)] w fun ev w'=>ev=.returned (.string ⟨s.toArray⟩)∧Grow w w' (fun x=>x=b∨qeF w T b x))
  {K:AV→Objs→Prop} (hK:K (.p (.str s)) (qma L k i)):Call P E f [.adr k 0] L i K:=by
 intro w X ι vs hs hX hE hEb hA
 simp only [ARepL] at hA
 obtain ⟨v0,vr',rfl,⟨b0,hv1,hv2⟩,hA⟩:=hA
 subst hA
 obtain ⟨b,hb1,⟨ak,hak⟩,hib,hbuf,hfr⟩:=qnN hs hki hat
 have hbb:b0=b:=by rw [hb1] at hv1;cases hv1;rfl
 subst hbb
 subst hv2
 refine (hc b0 w hib).mono ?_
 rintro ev w' ⟨rfl,hG⟩
 have hGo:∀ c,(c=b0∨qeF w T b0 c)→Own L ι c:=by
  rintro c (rfl|h)
  ·exact ⟨k,ak,hak,by rw [hb1];rfl⟩
  ·obtain ⟨q,h1,h2⟩:=hbuf c h;exact ⟨_,q,h1,h2⟩
 have hsub:∀ j q,Zas (qma L k i) j=some q→j≠.l i∧j≠k∧Zas L j=some q:=by
  intro j q hj
  rw [qoF] at hj
  by_cases h:j=.l i∨j=k
  ·rw [if_pos h] at hj;cases hj
  ·rw [if_neg h] at hj;exact ⟨fun e=>h (.inl e),fun e=>h (.inr e),hj⟩
 have hown:∀ c,Own (qma L k i) ι c→Own L ι c:=by
  rintro c ⟨j,q,h1,h2⟩
  exact ⟨j,q,(hsub j q h1).2.2,h2⟩
 have hgrow:Grow w w' (Own L ι):=⟨hG.os,hG.tape,hG.output,hG.size,fun c hc hn=>hG.block c hc (fun h=>hn (hGo c h))⟩
 have hk:Keeps w w' (fun c=>Own L ι c∨X c) (fun c=>Own (qma L k i) ι c∨X c):=fun c hlt hu=>⟨hgrow.block c hlt (fun h=>hu (.inl h)),fun h=>hu (h.imp (hown c) id)⟩
 refine ⟨_,.p (.str s),_,ι,rfl,hK,rfl,⟨⟨fun j q hj=>?_,fun j j' q q' c hj hj' h1 h2=>hs.inj j j' q q' c (hsub j q hj).2.2 (hsub j' q' hj').2.2 h1 h2⟩,hgrow,fun c h=>.inl (hown c h),fun j hj=>rfl,fun j hj=>?_⟩⟩
 ·obtain ⟨e2,e1,h1⟩:=hsub j q hj
  have ho:=hs.obj j q h1
  have hne:∀ c,blk (ι j)=some c→w'.heap[c]?=w.heap[c]?:=by
   intro c hcj
   refine hG.block c (ho.blk_lt hcj) ?_
   rintro (rfl|h)
   ·exact qjV hs hak h1 (fun e=>e1 e.symm) (by rw [hb1];rfl) hcj
   ·obtain ⟨q2,h2,h3⟩:=hbuf c h
    exact qjV hs h2 h1 (fun e=>e2 e.symm) h3 hcj
  exact ObjOk.mono hk hne ho
 ·obtain ⟨q,hq⟩:=Option.isSome_iff_exists.1 hj
  exact .inl (by rw [(hsub j q hq).2.2];rfl)
variable {fr:List AV} {d:Option Nat} {is:List IOper} {Y:List PV} {K:List AV→Objs→Prop}
theorem useW {f:FuncId} {as:List AV} {vr:List Value} {x:PV} {v:Value} (i:Nat) (T e:TypeId) (s s':List UInt8) (hat:SbAt L k i T e s) (hki:k≠.l i) (ha:∀ w U ι vs,ARepL w U ι as vs→vs=vr) (hx:∀ w U,PRep w U x v)
  (hc:∀ b w,Lib.IsBuilder T e 0 b (Lib.byteCells s) w→(Zas L k=some (.box [.p nilP,.p (.nl 1)] T)→w.heap[b]?=some (.cells #[.pointer none,.slice none 0 0] T (0,0)))→Calls P f (.pointer (some ⟨b,0,none⟩) :: vr).toArray w fun ev w'=>ev=.returned v∧SbPost T e b s' w w')
  (hk:qaa P E Y is (Zg (fr.map (·.kill (.l i))) d (.p x)) (qfU L k i T e s') K):qbl P E f (.adr k 0 :: as) L d fr (qdh P E Y is K):=
 .inr (.inr ⟨i,qtf hki hat ha hx hc hk⟩)
theorem qvS {f:FuncId} (i:Nat) (T e:TypeId) (s:List UInt8) (hat:SbAt L k i T e s) (hki:k≠.l i)
  (hc:∀ b w,Lib.IsBuilder T e 0 b (Lib.byteCells s) w→Calls P f #[.pointer (some ⟨b,0,none⟩)] w fun ev w'=>ev=.returned (.string ⟨s.toArray⟩)∧Grow w w' (fun x=>x=b∨qeF w T b x))
  (hk:qaa P E Y is (Zg (fr.map (·.kill (.l i))) d (.p (.str s))) (qma L k i) K):qbl P E f [.adr k 0] L d fr (qdh P E Y is K):=
 .inr (.inr ⟨i,qpk hki hat hc hk⟩)
end
end Go.Proofs.YtinffddgojhdfaaGreatDoor
