import Derived.Test.YtjgdjinhkgjpeabGreatDoorZ1
import Derived.Lib.AppendZeros
import Derived.Lib.AppendStr
import Derived.Lib.AppendZerosOnto
import Derived.WideKeyRuns
set_option linter.unusedVariables false
set_option linter.unusedSimpArgs false
set_option linter.defProp false
namespace Go.Proofs.YtjgdjinhkgjpeabGreatDoor
open Option.some renaming injEq→zg
open Prod.mk renaming injEq→zj
open Nat renaming add_mul→yi,le_refl→zL,mul_le_mul_right→zP
open List renaming eq_nil_of_length_eq_zero→zq,flatten_cons→zH,getD→zC,getElem?_drop→yb,getElem?_eq_getElem→zk,getElem?_eq_none→zR,getElem?_eq_some_iff→zo,getElem?_map→zy,getElem?_of_mem→yg,getElem?_take→yk,length_append→zm,length_cons→zl,length_map→zN,length_nil→zr,length_take→yd,map_append→zF,map_cons→zx,mem_append→zp,mem_cons→zG,mem_map→zE,mem_of_getElem?→zn,mem_of_mem_take→ye,mem_or_eq_of_mem_set→z8,mem_singleton→zu,nil_append→zU,replicate→zD,replicate_succ→ya,take_of_length_le→zJ
open Bool renaming and_eq_true→zi
open Option renaming isSome_iff_exists→zM,map_eq_some_iff→zh,map_some→zA
open _root_.Array renaming getElem?_eq_some_iff→zw,getElem?_setIfInBounds_ne→zO
def Zac (cs:List AV) (off:Nat):List AV→List AV
 |[]=>cs
 |x :: r=>Zac (cs.set off x) (off+1) r
section
variable {P:Program} {E:Envt} {B:Base} {w w':World} {L:Objs} {ι:Key→Value} {fr:List AV} {a:Act} {X:Nat→Prop} {o:Oper} {U:Nat→Prop}
theorem qeg (g o:Nat) (t:TypeId) (fz:Nat×Nat):∀ (vs:List Value) (i:Nat) (cur:List Value) (w:World),w.heap[g]?=some (.cells cur.toArray t fz)→o+i+vs.length≤cur.length→(fz=(0,0)∨cur.length≤fz.1)→(∀ v∈vs,v.oneCell'=true)→
  (storeCells ⟨g,o,none⟩ vs i).run P w=.ok () (w.setRow g (qam cur (o+i) vs).toArray)
 |[],i,cur,w,hg,_,_,_=>by
  simp only [storeCells,qam]
  rw [setRow_self w g cur.toArray t fz hg]
  rfl
 |v :: rest,i,cur,w,hg,hl,hz,h1=>by
  have hi:o+i < cur.length:=by simp at hl;omega
  have hcell:w.cell? ⟨g,o+i,none⟩=some cur[o+i]:=by simp [World.cell?,hg,hi]
  have hfro:w.frozen? ⟨g,o+i,none⟩=false:=by
   rcases hz with rfl|hz
   ·simp [World.frozen?,hg]
   ·simp [World.frozen?,hg];omega
  have hst:(store ((⟨g,o,none⟩:Addr).add i) v).run P w=.ok () (w.setRow g (cur.set (o+i) v).toArray):=by
   rw [qaW,run_store P w _ v _ (h1 v (by simp)),hcell]
   simp [hfro,setCell_eq_setRow w g (o+i) cur.toArray t fz v hg]
  have ih:=qeg g o t fz rest (i+1) (cur.set (o+i) v) (w.setRow g (cur.set (o+i) v).toArray) (setRow_heap w g _ _ t _ hg) (by simp at hl ⊢;omega) (by simpa using hz) (fun x hx=>h1 x (by simp [hx]))
  simp only [storeCells,Sem.run_bind,hst,Result.andThen_ok,ih,setRow_setRow,qam]
  rw [show o+(i+1)=o+i+1 from by omega]
theorem qeV {O:Nat→Prop} (w:World) (g:Nat) (cs:Array Value) (hg:O g):Grow w (w.setRow g cs) O:=
 ⟨rfl,rfl,rfl,by simp,fun b _ hn=>setRow_other w g b cs (fun e=>hn (e ▸ hg))⟩
theorem qmH {ι:Key→Value} {ds:List AV} {us:List Value} (hl:us.length=ds.length) (hd:∀ (j:Nat) (x:AV),ds[j]?=some x→∃ v,us[j]?=some v∧ARep w U ι x v) :
  ∀ {cs:List AV} {vs:List Value} {off:Nat},vs.length=cs.length→(∀ (j:Nat) (x:AV),cs[j]?=some x→∃ v,vs[j]?=some v∧ARep w U ι x v)→(qam vs off us).length=(Zac cs off ds).length∧∀ (j:Nat) (x:AV),(Zac cs off ds)[j]?=some x→∃ v,(qam vs off us)[j]?=some v∧ARep w U ι x v:=by
 induction ds generalizing us with
 |nil=>intro cs vs off h1 h2;have:us=[]:=zq hl;subst this;exact ⟨h1,h2⟩
 |cons x r ih=>
  intro cs vs off h1 h2
  cases us with
  |nil=>simp at hl
  |cons u us=>
   obtain ⟨v0,e0,r0⟩:=hd 0 x rfl
   simp at e0
   subst e0
   refine ih (us:=us) (by simpa using hl) (fun j y hy=>by simpa using hd (j+1) y (by simpa using hy)) (by simpa using h1) (fun j y hy=>?_)
   by_cases hj:off=j
   ·subst hj
    have hlt:off < cs.length:=by
     rcases Nat.lt_or_ge off cs.length with h'|h'
     ·exact h'
     ·rw [zR (by simpa using h')] at hy;cases hy
    rw [List.getElem?_set_self hlt] at hy
    cases hy
    exact ⟨u,by rw [List.getElem?_set_self (by omega)],r0⟩
   ·rw [List.getElem?_set_ne hj] at hy ⊢
    exact h2 j y hy
theorem qeL (us:List Value):∀ (vs:List Value) (off:Nat) (v:Value),v∈qam vs off us→v∈vs∨v∈us:=by
 induction us with
 |nil=>intro vs off v h;exact .inl h
 |cons u r ih=>
  intro vs off v h
  rcases ih _ _ v h with h'|h'
  ·rcases z8 h' with h''|h''
   ·exact .inl h''
   ·exact .inr (by simp [h''])
  ·exact .inr (by simp [h'])
set_option maxHeartbeats 2000000 in
theorem qjQ {t:TypeId} {sz off:Nat} {pa px:Operand} (ho:o.op=.store t pa px) (hdst:o.dst=none) (hsz:qa7 P t sz=true) {k:Key} {cs:List AV} {bt:TypeId} (hl:Zas L k=some (.box cs bt)) (hle:off+sz≤cs.length)
  (hs:StF E B w L ι fr a) (hpa:ARep w (fun b=>Own L ι b∨B.X b) ι (.adr k off) (a.eval pa)) (ds:List AV) (hcz:(a.eval px).cells.toList.length=sz) (hdl:ds.length=sz) (h1:∀ v∈(a.eval px).cells.toList,v.oneCell'=true)
  (hd:∀ (j:Nat) (x:AV),ds[j]?=some x→∃ v,(a.eval px).cells.toList[j]?=some v∧ARep w (fun b=>Own L ι b∨B.X b) ι x v) :
  ∃ v nx w' ι',(execOp a.eval o).run P w=.ok nx w'∧(nx=.value v∨(nx=.skip∧v=undef))∧StF E B w' (Zat L k (.box (Zac cs off ds) bt)) ι' fr (a.put o.dst v):=by
 obtain ⟨b,vs,e1,e2,e3,e4,e5⟩:=hs.1.sim.obj k _ hl
 obtain ⟨b',f1,f2⟩:=hpa
 rw [e1] at f1
 cases f1
 have hOld:Old L ι k b:=⟨_,hl,by rw [e1];rfl⟩
 generalize hus:(a.eval px).cells.toList=us at *
 have hrun:(execOp a.eval o).run P w=.ok .skip (w.setRow b (qam vs off us).toArray):=by
  have hst:=qeg (P:=P) b off bt (0,0) us 0 vs w e2 (by omega) (.inl rfl) h1
  rw [Nat.add_zero] at hst
  have hn:(a.eval px).cells.size=sz:=by rw [← hcz,← hus];simp
  simp only [execOp,ho,f2,Instr.storeAt,Instr.sureAddr,storeVar,Sem.run_bind,Sem.run_pure,Result.andThen_ok,qaD hsz]
  simp [hn,hus,hst]
 have hG:Grow w (w.setRow b (qam vs off us).toArray) (Old L ι k):=qeV w b _ hOld
 have hO:∀ b,Own (Zat L k (.box (Zac cs off ds) bt)) ι b→Own L ι b:=by
  rintro b ⟨j,q,g1,g2⟩
  rw [qag] at g1
  by_cases e:j=k
  ·exact ⟨k,_,hl,by rw [← e];exact g2⟩
  ·rw [if_neg e] at g1;exact ⟨j,q,g1,g2⟩
 have hk:Keeps w (w.setRow b (qam vs off us).toArray) (fun b=>Own L ι b∨B.X b) (fun b=>Own (Zat L k (.box (Zac cs off ds) bt)) ι b∨B.X b):=
  fun b' hlt hu=>⟨hG.block b' hlt (fun h=>hu (.inl h.own)),fun h=>hu (h.imp (hO b') id)⟩
 obtain ⟨g1,g2⟩:=qmH (off:=off) (by omega) hd e3 e5
 have hst:=hs.wr k _ (.box (Zac cs off ds) bt) hl hG ⟨b,qam vs off us,e1,setRow_heap w b _ _ _ _ e2,g1,fun v hv=>by
  rcases qeL us vs off v hv with h|h
  ·exact e4 v h
  ·exact h1 v h,fun j x hx=>by
  obtain ⟨u,hu,hr⟩:=g2 j x hx
  exact ⟨u,hu,hr.mono hk⟩⟩
 exact ⟨undef,_,_,ι,hrun,.inr ⟨rfl,rfl⟩,by rw [hdst];exact hst⟩
theorem qfx (us:List Value):∀ (l:List Value) (off m:Nat),(qam l off us).take m=qam (l.take m) off us:=by
 induction us with
 |nil=>intros;rfl
 |cons u r ih=>intro l off m;simp only [qam];rw [ih,List.take_set]
theorem qn0 {z:Nat} (x:PV):∀ (es:List (List PV)) (i o:Nat),(∀ e∈es,e.length=z)→i < es.length→o < z→es.flatten.set (i * z+o) x=(es.set i ((es.getD i []).set o x)).flatten:=by
 intro es
 induction es with
 |nil=>intro i o _ h;simp at h
 |cons e es ih=>
  intro i o hz hi ho
  have he:=hz e (by simp)
  cases i with
  |zero=>simp only [Nat.zero_mul,Nat.zero_add,zH,List.set_cons_zero,List.getD_cons_zero];rw [List.set_append_left _ _ (by omega)]
  |succ i=>
   simp only [zH,List.set_cons_succ,List.getD_cons_succ]
   rw [List.set_append_right _ _ (by rw [he,yi];omega)]
   rw [show (i+1) * z+o - e.length=i * z+o from by rw [he,yi];omega]
   rw [ih i o (fun q hq=>hz q (by simp [hq])) (by simpa using hi) ho]
theorem qiV {z:Nat}:∀ (ds:List PV) (es:List (List PV)) (i o:Nat),(∀ e∈es,e.length=z)→i < es.length→o+ds.length≤z→Zab es.flatten (i * z+o) ds=(es.set i (Zab (es.getD i []) o ds)).flatten:=by
 intro ds
 induction ds with
 |nil=>intro es i o hz hi _;simp only [Zab];rw [show es.getD i []=es[i] from by simp [zC,hi],List.set_getElem_self]
 |cons x r ih=>
  intro es i o hz hi ho
  simp only [zl] at ho
  simp only [Zab]
  have hgi:(es.getD i []).length=z:=by rw [show es.getD i []=es[i] from by simp [zC,hi]];exact hz _ (List.getElem_mem _)
  rw [qn0 x es i o hz hi (by omega)]
  have:=ih (es.set i ((es.getD i []).set o x)) i (o+1) (fun e he=>by
   rcases z8 he with h|h
   ·exact hz e h
   ·rw [h,List.length_set];exact hgi) (by simpa using hi) (by omega)
  rw [show i * z+o+1=i * z+(o+1) from by omega,this]
  congr 1
  rw [List.set_set]
  congr 1
  simp [zC,hi]
set_option maxHeartbeats 2000000 in
theorem qwo {t:TypeId} {sz off z i:Nat} {pa px:Operand} (ho:o.op=.store t pa px) (hdst:o.dst=none) (hsz:qa7 P t sz=true) {k:Key} {es:List (List PV)} {e:TypeId} {ap:Bool} (hl:Zas L k=some (.row es e z ap)) (hle:off+sz≤z) (hi:i < es.length)
  (hs:StF E B w L ι fr a) (hpa:ARep w (fun b=>Own L ι b∨B.X b) ι (.rad k z i off) (a.eval pa)) (ds:List PV) (hdl:ds.length=sz) (h1:∀ v∈(a.eval px).cells.toList,v.oneCell'=true)
  (hd:PRepL w (fun b=>Own L ι b∨B.X b) ds (a.eval px).cells.toList) :
  ∃ v nx w' ι',(execOp a.eval o).run P w=.ok nx w'∧(nx=.value v∨(nx=.skip∧v=undef))∧StF E B w' (Zat L k (.row (es.set i (Zab (es.getD i []) off ds)) e z ap)) ι' fr (a.put o.dst v):=by
 obtain ⟨vs,hrow,e4,e5,e6⟩:=hs.1.sim.obj k _ hl
 obtain ⟨b,n,c,f1,f2⟩:=hpa
 rcases hrow.2 with ⟨g1,_⟩|⟨g,cap,cur,fz,g1,g2,g3,g4,g5,g6,g7⟩
 ·rw [g1] at f1;cases f1
 rw [g1] at f1
 cases f1
 have hOld:Old L ι k b:=⟨_,hl,by rw [g1];rfl⟩
 have hcz:(a.eval px).cells.toList.length=sz:=by rw [hd.length,hdl]
 generalize hus:(a.eval px).cells.toList=us at *
 have hbound:i * z+off+us.length≤es.length * z:=by
  have:(i+1) * z≤es.length * z:=zP _ hi
  rw [yi] at this
  omega
 have hcur:es.length * z≤c * z:=zP _ g3
 have hrun:(execOp a.eval o).run P w=.ok .skip (w.setRow b (qam cur.toList (i * z+off) us).toArray):=by
  have hst:=qeg (P:=P) b (i * z+off) e fz us 0 cur.toList w (by rw [Array.toArray_toList];exact g2) (by simp;omega) (by rcases g7 with h|h;exact .inl h;exact .inr (by simpa using h.2)) h1
  rw [Nat.add_zero] at hst
  have hn:(a.eval px).cells.size=sz:=by rw [← hcz,← hus];simp
  simp only [execOp,ho,f2,Instr.storeAt,Instr.sureAddr,storeVar,Sem.run_bind,Sem.run_pure,Result.andThen_ok,qaD hsz]
  simp [hn,hus,hst]
 have hG:Grow w (w.setRow b (qam cur.toList (i * z+off) us).toArray) (Old L ι k):=qeV w b _ hOld
 have hO:∀ b,Own (Zat L k (.row (es.set i (Zab (es.getD i []) off ds)) e z ap)) ι b→Own L ι b:=by
  rintro b ⟨j,q,h2,h3⟩
  rw [qag] at h2
  by_cases e:j=k
  ·exact ⟨k,_,hl,by rw [← e];exact h3⟩
  ·rw [if_neg e] at h2;exact ⟨j,q,h2,h3⟩
 have hk:Keeps w (w.setRow b (qam cur.toList (i * z+off) us).toArray) (fun b=>Own L ι b∨B.X b) (fun b=>Own (Zat L k (.row (es.set i (Zab (es.getD i []) off ds)) e z ap)) ι b∨B.X b):=
  fun b' hlt hu=>⟨hG.block b' hlt (fun h=>hu (.inl h.own)),fun h=>hu (h.imp (hO b') id)⟩
 have hrep:=qjt (off:=i * z+off) hd e5
 rw [qiV ds es i off e6 hi (by omega)] at hrep
 have hst:=hs.wr k _ (.row (es.set i (Zab (es.getD i []) off ds)) e z ap) hl hG ⟨qam vs (i * z+off) us,⟨by rw [qaC,List.length_set];exact hrow.1,.inr ⟨b,c,(qam cur.toList (i * z+off) us).toArray,fz,by rw [List.length_set];exact g1,setRow_heap w b _ _ _ _ g2,by rw [List.length_set];exact g3,g4,by simpa [qaC] using g5,by rw [List.length_set];simp only [qfx,g6],by
  rcases g7 with h|h
  ·exact .inl h
  ·exact .inr ⟨h.1,by simpa [qaC] using h.2⟩⟩⟩,fun v hv=>by
  rcases qeL us vs _ v hv with h|h
  ·exact e4 v h
  ·exact h1 v h,PRepL.mono hk _ _ hrep,fun q hq=>by
  rcases z8 hq with h|h
  ·exact e6 q h
  ·rw [h,qjw,show es.getD i []=es[i] from by simp [zC,hi]];exact e6 _ (List.getElem_mem _)⟩
 exact ⟨undef,_,_,ι,hrun,.inr ⟨rfl,rfl⟩,by rw [hdst];exact hst⟩
theorem qmE {z:Nat} (x:AV):∀ (es:List (List AV)) (i o:Nat),(∀ e∈es,e.length=z)→i < es.length→o < z→es.flatten.set (i * z+o) x=(es.set i ((es.getD i []).set o x)).flatten:=by
 intro es
 induction es with
 |nil=>intro i o _ h;simp at h
 |cons e es ih=>
  intro i o hz hi ho
  have he:=hz e (by simp)
  cases i with
  |zero=>simp only [Nat.zero_mul,Nat.zero_add,zH,List.set_cons_zero,List.getD_cons_zero];rw [List.set_append_left _ _ (by omega)]
  |succ i=>
   simp only [zH,List.set_cons_succ,List.getD_cons_succ]
   rw [List.set_append_right _ _ (by rw [he,yi];omega)]
   rw [show (i+1) * z+o - e.length=i * z+o from by rw [he,yi];omega]
   rw [ih i o (fun q hq=>hz q (by simp [hq])) (by simpa using hi) ho]
theorem qmI:∀ (ds cs:List AV) (o:Nat),(Zac cs o ds).length=cs.length
 |[],cs,o=>rfl
 |x :: r,cs,o=>by simp only [Zac];rw [qmI r];simp
theorem qk7 {z:Nat}:∀ (ds:List AV) (es:List (List AV)) (i o:Nat),(∀ e∈es,e.length=z)→i < es.length→o+ds.length≤z→Zac es.flatten (i * z+o) ds=(es.set i (Zac (es.getD i []) o ds)).flatten:=by
 intro ds
 induction ds with
 |nil=>intro es i o hz hi _;simp only [Zac];rw [show es.getD i []=es[i] from by simp [zC,hi],List.set_getElem_self]
 |cons x r ih=>
  intro es i o hz hi ho
  simp only [zl] at ho
  simp only [Zac]
  have hgi:(es.getD i []).length=z:=by rw [show es.getD i []=es[i] from by simp [zC,hi]];exact hz _ (List.getElem_mem _)
  rw [qmE x es i o hz hi (by omega)]
  have:=ih (es.set i ((es.getD i []).set o x)) i (o+1) (fun e he=>by
   rcases z8 he with h|h
   ·exact hz e h
   ·rw [h,List.length_set];exact hgi) (by simpa using hi) (by omega)
  rw [show i * z+o+1=i * z+(o+1) from by omega,this]
  congr 1
  rw [List.set_set]
  congr 1
  simp [zC,hi]
set_option maxHeartbeats 2000000 in
theorem qpw {t:TypeId} {sz off z i:Nat} {pa px:Operand} (ho:o.op=.store t pa px) (hdst:o.dst=none) (hsz:qa7 P t sz=true) {k:Key} {es:List (List AV)} {e:TypeId} (hl:Zas L k=some (.rowv es e z)) (hle:off+sz≤z) (hi:i < es.length)
  (hs:StF E B w L ι fr a) (hpa:ARep w (fun b=>Own L ι b∨B.X b) ι (.rad k z i off) (a.eval pa)) (ds:List AV) (hcz:(a.eval px).cells.toList.length=sz) (hdl:ds.length=sz) (h1:∀ v∈(a.eval px).cells.toList,v.oneCell'=true)
  (hd:∀ (j:Nat) (x:AV),ds[j]?=some x→∃ v,(a.eval px).cells.toList[j]?=some v∧ARep w (fun b=>Own L ι b∨B.X b) ι x v) :
  ∃ v nx w' ι',(execOp a.eval o).run P w=.ok nx w'∧(nx=.value v∨(nx=.skip∧v=undef))∧StF E B w' (Zat L k (.rowv (es.set i (Zac (es.getD i []) off ds)) e z)) ι' fr (a.put o.dst v):=by
 obtain ⟨vs,hrow,e4,e6,e5⟩:=hs.1.sim.obj k _ hl
 obtain ⟨b,n,c,f1,f2⟩:=hpa
 rcases hrow.2 with ⟨g1,_⟩|⟨g,cap,cur,fz,g1,g2,g3,g4,g5,g6,g7⟩
 ·rw [g1] at f1;cases f1
 rw [g1] at f1
 cases f1
 have hOld:Old L ι k b:=⟨_,hl,by rw [g1];rfl⟩
 generalize hus:(a.eval px).cells.toList=us at *
 have hbound:i * z+off+us.length≤es.length * z:=by
  have:(i+1) * z≤es.length * z:=zP _ hi
  rw [yi] at this
  omega
 have hcur:es.length * z≤c * z:=zP _ g3
 have hrun:(execOp a.eval o).run P w=.ok .skip (w.setRow b (qam cur.toList (i * z+off) us).toArray):=by
  have hst:=qeg (P:=P) b (i * z+off) e fz us 0 cur.toList w (by rw [Array.toArray_toList];exact g2) (by simp;omega) (by rcases g7 with h|h;exact .inl h;exact .inr (by simpa using h.2)) h1
  rw [Nat.add_zero] at hst
  have hn:(a.eval px).cells.size=sz:=by rw [← hcz,← hus];simp
  simp only [execOp,ho,f2,Instr.storeAt,Instr.sureAddr,storeVar,Sem.run_bind,Sem.run_pure,Result.andThen_ok,qaD hsz]
  simp [hn,hus,hst]
 have hG:Grow w (w.setRow b (qam cur.toList (i * z+off) us).toArray) (Old L ι k):=qeV w b _ hOld
 have hO:∀ b,Own (Zat L k (.rowv (es.set i (Zac (es.getD i []) off ds)) e z)) ι b→Own L ι b:=by
  rintro b ⟨j,q,h2,h3⟩
  rw [qag] at h2
  by_cases e:j=k
  ·exact ⟨k,_,hl,by rw [← e];exact h3⟩
  ·rw [if_neg e] at h2;exact ⟨j,q,h2,h3⟩
 have hk:Keeps w (w.setRow b (qam cur.toList (i * z+off) us).toArray) (fun b=>Own L ι b∨B.X b) (fun b=>Own (Zat L k (.rowv (es.set i (Zac (es.getD i []) off ds)) e z)) ι b∨B.X b):=
  fun b' hlt hu=>⟨hG.block b' hlt (fun h=>hu (.inl h.own)),fun h=>hu (h.imp (hO b') id)⟩
 have hvl:vs.length=es.flatten.length:=by rw [qh1 es e6];exact hrow.1
 obtain ⟨q1,q2⟩:=qmH (off:=i * z+off) (by omega) hd hvl e5
 rw [qk7 ds es i off e6 hi (by omega)] at q2
 have hst:=hs.wr k _ (.rowv (es.set i (Zac (es.getD i []) off ds)) e z) hl hG ⟨qam vs (i * z+off) us,⟨by rw [qaC,List.length_set];exact hrow.1,.inr ⟨b,c,(qam cur.toList (i * z+off) us).toArray,fz,by rw [List.length_set];exact g1,setRow_heap w b _ _ _ _ g2,by rw [List.length_set];exact g3,g4,by simpa [qaC] using g5,by rw [List.length_set];simp only [qfx,g6],by
  rcases g7 with h|h
  ·exact .inl h
  ·exact .inr ⟨h.1,by simpa [qaC] using h.2⟩⟩⟩,fun v hv=>by
  rcases qeL us vs _ v hv with h|h
  ·exact e4 v h
  ·exact h1 v h,fun q hq=>by
  rcases z8 hq with h|h
  ·exact e6 q h
  ·rw [h,qmI,show es.getD i []=es[i] from by simp [zC,hi]];exact e6 _ (List.getElem_mem _),fun j x hx=>by
  obtain ⟨u,hu,hr⟩:=q2 j x hx
  exact ⟨u,hu,hr.mono hk⟩⟩
 exact ⟨undef,_,_,ι,hrun,.inr ⟨rfl,rfl⟩,by rw [hdst];exact hst⟩
end
def appB (P:Program) (e:TypeId) (z by_:Nat):Bool:=
 match P.info? e with
 |some i=>i.size == z && i.bytes == by_ && (match i.zero with|some v=>v.cells.size == z|none=>false) && decide (0 < z) && decide (0 < by_)
 |none=>false
section
variable {P:Program} {E:Envt} {B:Base} {w w':World} {L:Objs} {ι:Key→Value} {fr:List AV} {a:Act} {X:Nat→Prop} {o:Oper} {U:Nat→Prop}
theorem qgg {e z by_:Nat} (h:appB P e z by_=true):∃ i v,P.info? e=some i∧i.zero=some v∧i.size=z∧i.bytes=by_∧v.cells.size=z∧0 < z∧0 < by_:=by
 unfold appB at h
 split at h
 ·rename_i i hi
  simp only [zi,beq_iff_eq,decide_eq_true_eq] at h
  obtain ⟨⟨⟨⟨h1,h2⟩,h3⟩,h4⟩,h5⟩:=h
  split at h3
  ·rename_i v hv
   exact ⟨i,v,hi,hv,h1,h2,by simpa using h3,h4,h5⟩
  ·cases h3
 ·cases h
set_option maxHeartbeats 2000000 in
theorem qo5 (hs:StF E B w L ι fr a) {q:AV} {v:Value} {z:Nat} {es:List (List PV)} (e:Zw L q=some (z,es)) (h:ARep w (fun b=>Own L ι b∨B.X b) ι q v) :
  ∃ A c news,v=.slice A es.length c∧PRepL w (fun b=>Own L ι b∨B.X b) es.flatten news∧(∀ u∈news,u.oneCell'=true)∧(∀ x∈es,x.length=z)∧(es≠[]→∃ ad,A=some ad∧∀ (j:Nat) (u:Value),news[j]?=some u→w.cell? (ad.add j)=some u):=by
 have key:∀ (es:List (List PV)) (b off:Nat),PRepE w (fun b=>Own L ι b∨B.X b) b z off es→∃ news,PRepL w (fun b=>Own L ι b∨B.X b) es.flatten news∧(∀ u∈news,u.oneCell'=true)∧(∀ x∈es,x.length=z)∧∀ (j:Nat) (u:Value),news[j]?=some u→w.cell? ⟨b,off+j,none⟩=some u:=by
  intro es
  induction es with
  |nil=>intro b off _;exact ⟨[],by simp [PRepL],by simp,by simp,by simp⟩
  |cons x r ih=>
   intro b off hE
   simp only [PRepE] at hE
   obtain ⟨h1,h2,h3⟩:=hE
   obtain ⟨us,a1,a2,a3⟩:=h2.vals
   obtain ⟨vs,b1,b2,b3,b4⟩:=ih b (off+z) h3
   have hlen:us.length=z:=by rw [a1.length,h1]
   refine ⟨us++vs,by simp only [zH];exact a1.append b1,?_,?_,fun j u hu=>?_⟩
   ·intro u hu;simp only [zp] at hu;exact hu.elim (a2 u) (b2 u)
   ·intro y hy;simp only [zG] at hy;rcases hy with rfl|hy;exact h1;exact b3 y hy
   ·rw [List.getElem?_append] at hu
    split at hu
    ·exact a3 j u hu
    ·have:=b4 _ u hu
     rwa [hlen,show off+z+(j - z)=off+j from by omega] at this
 unfold Zw at e
 split at e
 ·simp only [zg,zj] at e
  obtain ⟨rfl,rfl⟩:=e
  rename_i z es
  obtain ⟨A,c,e1,e2,e3⟩:=h
  by_cases hn:es=[]
  ·subst hn
   exact ⟨A,c,[],e1,by simp [PRepL],by simp,by simp,fun h=>absurd rfl h⟩
  ·obtain ⟨b,off,rfl,_,_,hE⟩:=e3 hn
   obtain ⟨news,g1,g2,g3,g4⟩:=key es b off hE
   exact ⟨_,c,news,e1,g1,g2,g3,fun _=>⟨_,rfl,fun j u hu=>by rw [qaW];exact g4 j u hu⟩⟩
 ·simp only [zg,zj] at e
  obtain ⟨rfl,rfl⟩:=e
  exact ⟨none,0,[],h,by simp [PRepL],by simp,by simp,fun h=>absurd rfl h⟩
 ·rename_i k
  split at e
  ·rename_i es' e' z' ap hl
   simp only [zg,zj] at e
   obtain ⟨rfl,rfl⟩:=e
   obtain ⟨vs,hrow,e4,e5,e6⟩:=hs.1.sim.obj k _ hl
   rcases hrow.2 with ⟨g1,g2⟩|⟨g,cap,cur,fz,g1,_⟩
   ·have hes:=zq g2
    subst hes
    exact ⟨none,0,[],by rw [h.1,g1];rfl,by simp [PRepL],by simp,by simp,fun h=>absurd rfl h⟩
   ·refine ⟨_,cap,vs,by rw [h.1,g1],e5,e4,e6,fun _=>⟨_,rfl,fun j u hu=>?_⟩⟩
    rw [qaW,Nat.zero_add]
    exact hrow.cells g1 j u hu
  ·cases e
 ·cases e
theorem qfa {t ty e:TypeId} {i:TypeInfo} (ht:P.underlying t=some (.slice e)) (hi:P.info? e=some i) (base A:Option Addr) (n cap c:Nat) (hc:n≤cap) :
  (Builtin.append_ #[t,t] ty #[.slice base n cap,.slice A 0 c]).run P w=.ok (.slice base n cap) w:=by
 cases A<;>cases base<;>simp [Builtin.append_,run_underlying ht,sizeOf,typeInfo,hi,Builtin.lenOf,hc,Builtin.firstCells,loadCells,loadCellsFrom,storeCells]
theorem qlM {z:Nat}:∀ (es:List (List PV)),(∀ x∈es,x.length=z)→es.flatten.length=es.length * z:=by
 intro es
 induction es with
 |nil=>intro _;simp
 |cons x r ih=>
  intro h
  rw [zH,zm,ih (fun y hy=>h y (by simp [hy])),h x (by simp),zl,yi]
  omega
set_option maxHeartbeats 2000000 in
theorem qn5 (hs:StF E B w L ι fr a) {t e z by_:Nat} {ty:TypeId} (ht:P.underlying t=some (.slice e)) (hA:appB P e z by_=true) (base:Nat) (v:Value) (n:Nat) (vs:List Value) (hown:w.ownsRow base e z v n vs) (hb:base≤w.heap.size)
  {q:AV} {u:Value} {es2:List (List PV)} (e2:Zw L q=some (z,es2)) (hq:ARep w (fun b=>Own L ι b∨B.X b) ι q u) (hlen:(n+es2.length) * by_≤140737488355328) :
  ∃ v' w' news,(Builtin.append_ #[t,t] ty #[v,u]).run P w=.ok v' w'∧w'.ownsRow base e z v' (n+es2.length) (vs++news)∧w.grownBy w' v.ownBlock∧(v'.ownBlock=v.ownBlock∨v'.ownBlock=some w.heap.size)∧
   PRepL w (fun b=>Own L ι b∨B.X b) es2.flatten news∧(∀ u∈news,u.oneCell'=true)∧(∀ x∈es2,x.length=z):=by
 obtain ⟨i,zv,h1,h2,h3,h4,h5,h6,h7⟩:=qgg hA
 obtain ⟨A,c,news,e1,g1,g2,g3,g4⟩:=qo5 hs e2 hq
 subst e1
 have hm:n+es2.length≤maxLen:=by
  have:n+es2.length≤(n+es2.length) * by_:=Nat.le_mul_of_pos_right _ h7
  unfold maxLen
  omega
 by_cases hn:es2=[]
 ·subst hn
  have hnews:news=[]:=by simp only [List.flatten_nil,PRepL] at g1;exact g1
  subst hnews
  have hv:∃ base' cap,v=.slice base' n cap∧n≤cap:=by
   rcases hown.2 with ⟨q1,q2⟩|⟨g,cap,cur,q1,_,_,q2,_⟩
   ·exact ⟨none,0,by rw [q1,q2],by omega⟩
   ·exact ⟨_,cap,q1,q2⟩
  obtain ⟨base',cap,rfl,hc⟩:=hv
  exact ⟨_,w,[],qfa ht h1 _ _ _ _ _ hc,by simpa using hown,World.grownBy.refl w _,.inl rfl,g1,g2,g3⟩
 ·obtain ⟨ad,rfl,g5⟩:=g4 hn
  have hl:news.length=es2.length * z:=by rw [g1.length,qlM es2 g3]
  obtain ⟨v',w',r1,r2,r3,_,r5⟩:=run_append_own_at (P:=P) w base t ty e i zv z by_ ht h1 h2 h3 h4 h5 h6 v n vs hown ad es2.length c news hl g5 g2 hm hlen hb
  exact ⟨v',w',news,r1,r2,r3,r5,g1,g2,g3⟩
theorem qbu {v:Value} {b:Nat} (h:∃ A n c,v=.slice A n c):blk v=v.ownBlock:=by
 obtain ⟨A,n,c,rfl⟩:=h
 cases A<;>rfl
theorem qau {base e z n:Nat} {v:Value} {xs:List Value} (h:w.ownsRow base e z v n xs):∃ A m c,v=.slice A m c:=by
 rcases h.2 with ⟨q1,_⟩|⟨g,cap,cur,q1,_⟩
 ·exact ⟨none,0,0,q1⟩
 ·exact ⟨_,_,_,q1⟩
theorem qbe {O:Nat→Prop} {row:Option Nat} (h:w.grownBy w' row) (hr:∀ b,row=some b→O b):Grow w w' O:=
 ⟨h.os,h.tape,h.output,h.size,fun b hb hn=>h.block b hb (fun e=>hn (hr b e.symm))⟩
set_option maxHeartbeats 2000000 in
theorem qwD {t e z by_:Nat} {px py:Operand} {x' y':Opd} {d i:Nat} (ho:o.op=.call { callee:=.builtin .append,args:=#[px,py],argTypes:=#[t,t] }) (hd:o.dst=some d) (ht:P.underlying t=some (.slice e)) (hA:appB P e z by_=true) (hx:qaf px x'=true) (hy:qaf py y'=true)
  {cx cy:Prop} {q:AV} (ex:(rd fr x').un=(cx,.row (.l i))) (ey:(rd fr y').un=(cy,q)) {es es2:List (List PV)} (hl:Zas L (.l i)=some (.row es e z true)) (e2:Zw L q=some (z,es2)) :
  Eff1 P o fr L (cx∧cy∧(es.length+es2.length) * by_≤140737488355328) ((fr.map (·.kill (.l i))).set d (.row (.l i))) (Zav L (.l i) (.row (es++es2) e z true)):=by
 intro E B w ι a hs ⟨c1,c2,c3⟩
 have hv:ARep w _ ι (.row (.l i)) (a.eval px):=rdP hs.2.1 hx ex c1
 have hu:=rdP hs.2.1 hy ey c2
 obtain ⟨vs,hrow,e4,e5,e6⟩:=hs.1.sim.obj _ _ hl
 have hown:=hrow.owns
 obtain ⟨v',w',news,r1,r2,r3,r4,r5,r6,r7⟩:=qn5 (ty:=o.type) hs ht hA 0 (ι (.l i)) es.length vs hown (Nat.zero_le _) e2 hu c3
 have hG:Grow w w' (Old L ι (.l i)):=qbe r3 (fun b hb=>⟨_,hl,by rw [qbu (b:=b) (qau hown)];exact hb⟩)
 have hb:∀ b,blk v'=some b→w.heap.size≤b∨Old L ι (.l i) b:=by
  intro b hb
  rw [qbu (b:=b) (qau r2)] at hb
  rcases r4 with r4|r4
  ·exact .inr ⟨_,hl,by rw [qbu (b:=b) (qau hown),← r4];exact hb⟩
  ·rw [r4] at hb;cases hb;exact .inl (zL _)
 have hk:=qa6 (X:=B.X) (ao:=.row (es++es2) e z true) (fun b hb=>hs.1.x_lt hb) hG hb
 have hobj:ObjOk w' (fun b=>Own (Zav L (.l i) (.row (es++es2) e z true)) (updI ι (.l i) v') b∨B.X b) (updI ι (.l i) v') (.l i) (.row (es++es2) e z true):=by
  refine ⟨vs++news,by simpa [updI] using RowOk.of_owns r2,?_,?_,?_⟩
  ·intro u hu;simp only [zp] at hu;exact hu.elim (e4 u) (r6 u)
  ·rw [List.flatten_append];exact PRepL.mono hk _ _ (e5.append r5)
  ·intro y hy;simp only [zp] at hy;exact hy.elim (e6 y) (r7 y)
 have h1:=hs.upd i v' (.row (es++es2) e z true) hG hb hobj
 refine ⟨v',.value v',w',_,?_,.inl rfl,h1.1,?_,by rw [Act.put_defers'];exact h1.2.2⟩
 ·rw [qay _ _ _ a ho]
  simp only [builtin,Sem.run_bind,List.map_toArray,zx,List.map_nil,hv.1]
  rw [r1]
  rfl
 ·rw [hd]
  exact h1.2.1.put d ⟨by simp [updI],qau r2⟩
def qsb (P:Program) (e:TypeId):Bool:=
 match P.info? e with
 |some i=>i.size == 1 && i.bytes == 1 && (match i.zero with|some (.int .u8 n)=>n == 0|_=>false)
 |none=>false
theorem qqj {e:TypeId} (h:qsb P e=true):∃ i,P.info? e=some i∧i.zero=some (.int .u8 0)∧i.size=1∧i.bytes=1:=by
 unfold qsb at h
 split at h
 ·rename_i i hi
  simp only [zi,beq_iff_eq] at h
  obtain ⟨⟨h1,h2⟩,h3⟩:=h
  split at h3
  ·rename_i n hn
   simp only [beq_iff_eq] at h3
   subst h3
   exact ⟨i,hi,hn,h1,h2⟩
  ·cases h3
 ·cases h
set_option maxHeartbeats 2000000 in
theorem qvI {t u ty e:TypeId} {w:World} (ht:P.underlying t=some (.slice e)) (hu:P.underlying u=some .string) (hA:qsb P e=true) (v:Value) (n:Nat) (xs:List Value) (hown:w.ownsRow 0 e 1 v n xs) (s:ByteArray) (hb:n+s.size≤140737488355328) :
  ∃ v' w',(Builtin.append_ #[t,u] ty #[v,.string s]).run P w=.ok v' w'∧w'.ownsRow 0 e 1 v' (n+s.size) (xs++Lib.strCells s)∧w.grownBy w' v.ownBlock∧(v'.ownBlock=v.ownBlock∨v'.ownBlock=some w.heap.size):=by
 obtain ⟨i,h1,h2,h3,h4⟩:=qqj hA
 obtain ⟨v',w',r1,r2,r3,r4⟩:=Lib.run_append_own_string (P:=P) w 0 t u ty e i ht hu h1 h2 h3 h4 v n xs hown s (by unfold maxLen;omega) hb (Nat.zero_le _)
 refine ⟨v',w',r1,r2,r3,?_⟩
 have hxl:xs.length=n:=by simpa using hown.1
 rcases hown.2 with ⟨rfl,rfl⟩|⟨g,cap,cur,rfl,hbg,hg,hnc,hcm,hcs,htake⟩
 ·by_cases hm:s.size=0
  ·rw [r4.2 ⟨rfl,hm⟩];exact .inl rfl
  ·have hr:=run_append_nil_string (P:=P) w t u ty e i (.int .u8 0) ht hu h1 h2 s (by omega) (by omega) (by rw [h4];omega)
   rw [hr] at r1
   simp only [Result.ok.injEq] at r1
   rw [← r1.1]
   exact .inr rfl
 ·by_cases hroom:n+s.size≤cap
  ·have hcs':cur.size=cap:=by simpa using hcs
   have hr:=Lib.run_append_room_string (P:=P) w t u ty e i ht hu h1 h3 g n cap cur hg s hroom (by omega)
   rw [hr] at r1
   simp only [Result.ok.injEq] at r1
   rw [← r1.1]
   exact .inl rfl
  ·have holds:∀ j u,xs[j]?=some u→w.cell? ((⟨g,0,none⟩:Addr).add j)=some u:=hown.cells (g:=g) rfl
   have hr:=Lib.run_append_grow_string (P:=P) w t u ty e i (.int .u8 0) ht hu h1 h2 ⟨g,0,none⟩ n cap xs (by rw [h3];simpa using hxl) holds s (by omega) (by omega) (by rw [h4];exact growslice_fits (by omega) (by omega))
   rw [hr] at r1
   simp only [Result.ok.injEq] at r1
   rw [← r1.1]
   exact .inr rfl
def ql1 (s:List UInt8):List (List PV):=s.map fun b=>[.int .u8 (b.toNat:Nat)]
theorem qnu (w:World) (U:Nat→Prop):∀ s:List UInt8,PRepL w U (ql1 s).flatten (s.map fun b=>Value.int .u8 b.toNat)
 |[]=>by simp [ql1,PRepL]
 |b :: s=>⟨_,_,rfl,rfl,qnu w U s⟩
set_option maxHeartbeats 2000000 in
theorem qwC {t u e:Nat} {px py:Operand} {x' y':Opd} {d i:Nat} (ho:o.op=.call { callee:=.builtin .append,args:=#[px,py],argTypes:=#[t,u] }) (hd:o.dst=some d) (ht:P.underlying t=some (.slice e)) (hu:P.underlying u=some .string) (hA:qsb P e=true) (hx:qaf px x'=true) (hy:qaf py y'=true)
  {cx cy:Prop} {s:List UInt8} (ex:(rd fr x').un=(cx,.row (.l i))) (ey:(rd fr y').un=(cy,.p (.str s))) {es:List (List PV)} (hl:Zas L (.l i)=some (.row es e 1 true)) :
  Eff1 P o fr L (cx∧cy∧es.length+s.length≤140737488355328) ((fr.map (·.kill (.l i))).set d (.row (.l i))) (Zav L (.l i) (.row (es++ql1 s) e 1 true)):=by
 intro E B w ι a hs ⟨c1,c2,c3⟩
 have hv:ARep w _ ι (.row (.l i)) (a.eval px):=rdP hs.2.1 hx ex c1
 have hu':=PRep.str_eq (rdP hs.2.1 hy ey c2)
 obtain ⟨vs,hrow,e4,e5,e6⟩:=hs.1.sim.obj _ _ hl
 have hown:=hrow.owns
 obtain ⟨v',w',r1,r2,r3,r4⟩:=qvI (ty:=o.type) ht hu hA (ι (.l i)) es.length vs hown ⟨s.toArray⟩ (by show es.length+s.toArray.size≤_;simpa using c3)
 have hsz:(⟨s.toArray⟩:ByteArray).size=s.length:=by show s.toArray.size=_;simp
 have hstr:Lib.strCells ⟨s.toArray⟩=s.map fun b=>Value.int .u8 b.toNat:=by simp [Lib.strCells]
 rw [hsz] at r2
 have hG:Grow w w' (Old L ι (.l i)):=qbe r3 (fun b hb=>⟨_,hl,by rw [qbu (b:=b) (qau hown)];exact hb⟩)
 have hb:∀ b,blk v'=some b→w.heap.size≤b∨Old L ι (.l i) b:=by
  intro b hb
  rw [qbu (b:=b) (qau r2)] at hb
  rcases r4 with r4|r4
  ·exact .inr ⟨_,hl,by rw [qbu (b:=b) (qau hown),← r4];exact hb⟩
  ·rw [r4] at hb;cases hb;exact .inl (zL _)
 have hk:=qa6 (X:=B.X) (ao:=.row (es++ql1 s) e 1 true) (fun b hb=>hs.1.x_lt hb) hG hb
 have hobj:ObjOk w' (fun b=>Own (Zav L (.l i) (.row (es++ql1 s) e 1 true)) (updI ι (.l i) v') b∨B.X b) (updI ι (.l i) v') (.l i) (.row (es++ql1 s) e 1 true):=by
  refine ⟨vs++Lib.strCells ⟨s.toArray⟩,by simpa [updI,ql1] using RowOk.of_owns r2,?_,?_,?_⟩
  ·intro u hu;simp only [zp] at hu;exact hu.elim (e4 u) (Lib.strCells_oneCell _ u)
  ·rw [List.flatten_append]
   refine PRepL.mono hk _ _ (e5.append ?_)
   rw [hstr]
   exact qnu _ _ s
  ·intro y hy;simp only [zp] at hy;refine hy.elim (e6 y) (fun hy=>?_);obtain ⟨b,_,rfl⟩:=zE.1 hy;rfl
 have h1:=hs.upd i v' (.row (es++ql1 s) e 1 true) hG hb hobj
 refine ⟨v',.value v',w',_,?_,.inl rfl,h1.1,?_,by rw [Act.put_defers'];exact h1.2.2⟩
 ·rw [qay _ _ _ a ho]
  simp only [builtin,Sem.run_bind,List.map_toArray,zx,List.map_nil,hv.1,hu']
  rw [r1]
  rfl
 ·rw [hd]
  exact h1.2.1.put d ⟨by simp [updI],qau r2⟩
set_option maxHeartbeats 2000000 in
theorem qtX {t e z by_:Nat} {px py:Operand} {x' y':Opd} {d i:Nat} (ho:o.op=.call { callee:=.builtin .append,args:=#[px,py],argTypes:=#[t,t] }) (hd:o.dst=some d) (ht:P.underlying t=some (.slice e)) (hA:appB P e z by_=true) (hx:qaf px x'=true) (hy:qaf py y'=true)
  {cx cy:Prop} {q:AV} (ex:(rd fr x').un=(cx,.row (.l i))) (ey:(rd fr y').un=(cy,q)) {es:List (List AV)} {es2:List (List PV)} (hl:Zas L (.l i)=some (.rowv es e z)) (e2:Zw L q=some (z,es2)) :
  Eff1 P o fr L (cx∧cy∧(es.length+es2.length) * by_≤140737488355328) ((fr.map (·.kill (.l i))).set d (.row (.l i))) (Zav L (.l i) (.rowv (es.map (·.map (·.kill (.l i)))++es2.map (·.map .p)) e z)):=by
 intro E B w ι a hs ⟨c1,c2,c3⟩
 have hv:ARep w _ ι (.row (.l i)) (a.eval px):=rdP hs.2.1 hx ex c1
 have hu:=rdP hs.2.1 hy ey c2
 obtain ⟨vs,hrow,e4,e6,e5⟩:=hs.1.sim.obj _ _ hl
 have hown:=hrow.owns
 obtain ⟨v',w',news,r1,r2,r3,r4,r5,r6,r7⟩:=qn5 (ty:=o.type) hs ht hA 0 (ι (.l i)) es.length vs hown (Nat.zero_le _) e2 hu c3
 have hG:Grow w w' (Old L ι (.l i)):=qbe r3 (fun b hb=>⟨_,hl,by rw [qbu (b:=b) (qau hown)];exact hb⟩)
 have hb:∀ b,blk v'=some b→w.heap.size≤b∨Old L ι (.l i) b:=by
  intro b hb
  rw [qbu (b:=b) (qau r2)] at hb
  rcases r4 with r4|r4
  ·exact .inr ⟨_,hl,by rw [qbu (b:=b) (qau hown),← r4];exact hb⟩
  ·rw [r4] at hb;cases hb;exact .inl (zL _)
 generalize hao:AO.rowv (es.map (·.map (·.kill (.l i)))++es2.map (·.map .p)) e z=ao
 have hk:=qa6 (X:=B.X) (ao:=ao) (fun b hb=>hs.1.x_lt hb) hG hb
 have hvl:vs.length=es.flatten.length:=by rw [qh1 es e6];exact hrow.1
 have hobj:ObjOk w' (fun b=>Own (Zav L (.l i) ao) (updI ι (.l i) v') b∨B.X b) (updI ι (.l i) v') (.l i) ao:=by
  subst hao
  refine ⟨vs++news,by simpa [updI] using RowOk.of_owns r2,?_,?_,fun j x hx=>?_⟩
  ·intro u hu;simp only [zp] at hu;exact hu.elim (e4 u) (r6 u)
  ·intro y hy
   simp only [zp] at hy
   rcases hy with hy|hy
   ·obtain ⟨y0,h0,rfl⟩:=zE.1 hy;simpa using e6 y0 h0
   ·obtain ⟨y0,h0,rfl⟩:=zE.1 hy;simpa using r7 y0 h0
  ·rw [List.flatten_append,← List.map_flatten,← List.map_flatten,List.getElem?_append] at hx
   rw [zN] at hx
   split at hx
   ·rename_i hj
    rw [zy,zh] at hx
    obtain ⟨y,hy,rfl⟩:=hx
    obtain ⟨u,hu,hr⟩:=e5 j y hy
    refine ⟨u,by rw [List.getElem?_append_left (by omega)];exact hu,?_⟩
    exact (hr.kill (k:=.l i) (v:=v')).mono hk
   ·rename_i hj
    rw [zy,zh] at hx
    obtain ⟨y,hy,rfl⟩:=hx
    obtain ⟨u,hu,hr⟩:=r5.get hy
    exact ⟨u,by rw [List.getElem?_append_right (by omega),hvl];exact hu,PRep.mono hk _ _ hr⟩
 have h1:=hs.upd i v' ao hG hb hobj
 refine ⟨v',.value v',w',_,?_,.inl rfl,h1.1,?_,by rw [Act.put_defers'];exact h1.2.2⟩
 ·rw [qay _ _ _ a ho]
  simp only [builtin,Sem.run_bind,List.map_toArray,zx,List.map_nil,hv.1]
  rw [r1]
  rfl
 ·rw [hd]
  exact h1.2.1.put d ⟨by simp [updI],qau r2⟩
theorem qtY {t e z by_:Nat} {px py:Operand} {x' y':Opd} {d z0:Nat} (ho:o.op=.call { callee:=.builtin .append,args:=#[px,py],argTypes:=#[t,t] }) (hd:o.dst=some d) (ht:P.underlying t=some (.slice e)) (hA:appB P e z by_=true) (hx:qaf px x'=true) (hy:qaf py y'=true)
  {cx cy:Prop} {q:AV} (ex:(rd fr x').un=(cx,.p (.nl z0))) (ey:(rd fr y').un=(cy,q)) {es2:List (List PV)} (e2:Zw L q=some (z,es2)) :
  Eff1 P o fr L (cx∧cy∧es2.length * by_≤140737488355328) ((fr.map (·.kill (.l d))).set d (.row (.l d))) (Zav L (.l d) (.row es2 e z true)):=by
 intro E B w ι a hs ⟨c1,c2,c3⟩
 have hv:a.eval px=.slice none 0 0:=rdP hs.2.1 hx ex c1
 have hu:=rdP hs.2.1 hy ey c2
 have hown:=World.ownsRow_nil w w.heap.size e z
 obtain ⟨v',w',news,r1,r2,r3,r4,r5,r6,r7⟩:=qn5 (ty:=o.type) hs ht hA w.heap.size (.slice none 0 0) 0 [] hown (zL _) e2 hu (by simpa using c3)
 rw [Nat.zero_add,zU] at r2
 have hG:Grow w w' (Old L ι (.l d)):=qbe r3 (fun b hb=>by simp [Value.ownBlock] at hb)
 have hb:∀ b,blk v'=some b→w.heap.size≤b∨Old L ι (.l d) b:=by
  intro b hb
  rw [qbu (b:=b) (qau r2)] at hb
  exact .inl (r2.lt b hb).1
 have hk:=qa6 (X:=B.X) (ao:=.row es2 e z true) (fun b hb=>hs.1.x_lt hb) hG hb
 refine qc4 hd hs (v:=v') (w':=w') ?_ v' hG hb ⟨news,by simpa [updI] using RowOk.of_owns r2,r6,PRepL.mono hk _ _ r5,r7⟩ ⟨by simp [updI],qau r2⟩
 rw [qay _ _ _ a ho]
 simp only [builtin,Sem.run_bind,List.map_toArray,zx,List.map_nil,hv]
 rw [r1]
 rfl
theorem qwy {t e:TypeId} {z n d:Nat} {parts:Array (Nat×Operand)} {parts':List Opd} (ho:o.op=.buildSlice t n parts) (hd:o.dst=some d) (ht:P.underlying t=some (.slice e)) (hz:qa7 P e z=true) (hzr:((P.info? e).bind (·.zero)).isSome=true)
  (hn:parts.toList.length=n) (hm:n * z≤16777216) (hm2:n≤16777216) (hk:qbd 0 parts.toList parts'=true) {c:Prop} {es:List (List PV)} (h:Zao fr z parts'=some (c,es)):Eff1 P o fr L c ((fr.map (·.kill (.l d))).set d (.row (.l d))) (Zav L (.l d) (.row es e z true)):=by
 intro E B w ι a hs h1
 obtain ⟨us,g1,g2,g3,g4,g5⟩:=qlb hs ho ht hz hzr hn hm hk h h1
 have hG:Grow w (w.alloc (.cells us.toArray e)) (Old L ι (.l d)):=qbo _ _ _
 have hb:∀ b,blk (.slice (some ⟨w.heap.size,0,none⟩) n n)=some b→w.heap.size≤b∨Old L ι (.l d) b:=fun b e=>by simp only [blk,zg] at e;omega
 have hkk:=qa6 (X:=B.X) (ao:=.row es e z true) (fun b hb=>hs.1.x_lt hb) hG hb
 have hul:us.length=n * z:=by rw [g2.length,qlM es g4,g5]
 refine qc4 hd hs g1 (.slice (some ⟨w.heap.size,0,none⟩) n n) hG hb ⟨us,⟨by rw [hul,g5],.inr ⟨w.heap.size,n,us.toArray,(0,0),by simp [updI,g5],heap_alloc_new w _,by omega,by unfold maxLen;omega,by simpa using hul,by rw [g5,← hul];simp,.inl rfl⟩⟩,g3,PRepL.mono hkk _ _ g2,g4⟩ ⟨by simp [updI],_,_,_,rfl⟩
set_option maxHeartbeats 2000000 in
theorem qwq {s d e:TypeId} {dd:Nat} {x:Operand} {x':Opd} {u0:TypeDesc} (ho:o.op=.convert s d x) (hd:o.dst=some dd) (hsT:P.underlying s=some u0) (hdT:P.underlying d=some (.slice e)) (heT:P.underlying e=some (.int .u8)) (hx:qaf x x'=true) {c:Prop} {l:List UInt8} (ex:(rd fr x').un=(c,.p (.str l))) :
  Eff1 P o fr L (c∧l.length≤140737488355328) ((fr.map (·.kill (.l dd))).set dd (.row (.l dd))) (Zav L (.l dd) (.row (l.map fun q=>[.int .u8 (q.toNat:Nat)]) e 1 false)):=by
 intro E B w ι a hs ⟨h1,h2⟩
 have hv:=PRep.str_eq (rdP hs.2.1 hx ex h1)
 generalize hst:(⟨l.toArray⟩:ByteArray)=st at hv
 have hsz:st.size=l.length:=by rw [← hst];simp [ByteArray.size]
 have hdat:st.data.toList=l:=by rw [← hst]
 have hrun:=Lib.run_convert_string_bytes (P:=P) w s d e st hsT hdT heT
 have hG:Grow w (Lib.bytesWorld w e st) (Old L ι (.l dd)):=⟨rfl,rfl,rfl,by rw [Lib.bytesWorld_size];omega,fun b hb _=>Lib.bytesWorld_at_old w e st b hb⟩
 have hb:∀ b,blk (.slice (some ⟨w.heap.size,0,none⟩) st.size (grownCap w st.size 0 e))=some b→w.heap.size≤b∨Old L ι (.l dd) b:=fun b e=>by simp only [blk,zg] at e;omega
 have hge:=grownCap_ge w st.size 0 e
 have hle:=grownCap_le_maxLen w st.size 0 e (by unfold maxLen;omega)
 have hcs:(Lib.bytesCells w e st).size=grownCap w st.size 0 e:=by
  simp only [Lib.bytesCells,Array.size_append,Array.size_map,Array.size_replicate]
  have:st.data.size=st.size:=rfl
  omega
 refine qc4 hd hs (v:=.slice (some ⟨w.heap.size,0,none⟩) st.size (grownCap w st.size 0 e)) (w':=Lib.bytesWorld w e st) ?_ _ hG hb ⟨l.map fun q=>.int .u8 (q.toNat:Nat),⟨by simp,.inr ⟨w.heap.size,grownCap w st.size 0 e,Lib.bytesCells w e st,_,by simp [updI,hsz],Lib.bytesWorld_at_new w e st,by simpa [hsz] using hge,hle,by simpa using hcs,?_,.inr ⟨rfl,zL _⟩⟩⟩,by simp [Value.oneCell'],?_,by simp⟩ ⟨by simp [updI],_,_,_,rfl⟩
 ·simp only [execOp,ho,hv,Sem.run_bind,hrun]
  rfl
 ·simp only [Lib.bytesCells,Array.toList_append,Array.toList_map,hdat,Nat.mul_one]
  rw [List.take_append_of_le_length (by simp),zJ (by simp)]
 ·have:∀ l:List UInt8,(l.map fun q=>[PV.int .u8 (q.toNat:Nat)]).flatten=l.map fun q=>PV.int .u8 (q.toNat:Nat):=by
   intro l;induction l with
   |nil=>rfl
   |cons q l ih=>simp only [zx,zH,List.singleton_append,ih]
  rw [this]
  exact PRepL.of_get (by simp) (fun j x v hx hv=>by rw [zy,zh] at hx hv;obtain ⟨q1,e1,rfl⟩:=hx;obtain ⟨q2,e2,rfl⟩:=hv;rw [e1] at e2;cases e2;rfl)
theorem qm5 (zc:Array Value) (z:Nat) (hz:zc.size=z):∀ n:Nat,((List.range (n * z)).map fun j=>zc[j % zc.size]!)=(zD n zc.toList).flatten:=by
 intro n
 induction n with
 |zero=>simp
 |succ n ih=>
  rw [yi,Nat.one_mul,List.range_add,zF,ih,List.replicate_succ',List.flatten_append]
  congr 1
  simp only [List.map_map,zH,List.flatten_nil,List.append_nil]
  apply List.ext_getElem
  ·simp [hz]
  ·intro j h1 h2
   simp only [zN,List.length_range] at h1
   have e:(n * z+j) % z=j:=by rw [Nat.mul_comm,Nat.mul_add_mod];exact Nat.mod_eq_of_lt h1
   simp only [List.getElem_map,List.getElem_range,Function.comp_apply,hz,e]
   rw [getElem!_pos zc j (by omega)]
   simp
set_option maxHeartbeats 2000000 in
theorem qwt {t e z by_ d:Nat} {zero:List PV} {px py:Operand} {x' y':Opd} (ho:o.op=.makeSlice t px py) (hd:o.dst=some d) (ht:P.underlying t=some (.slice e)) (hA:appB P e z by_=true) (hzr:qfw P e zero=true) (hx:qaf px x'=true) (hy:qaf py y'=true)
  {cx cy:Prop} {kx ky:IntKind} {n c:Int} (ex:(rd fr x').un=(cx,.p (.int kx n))) (ey:(rd fr y').un=(cy,.p (.int ky c))) :
  Eff1 P o fr L (cx∧cy∧0≤n∧n≤c∧c * by_≤140737488355328) ((fr.map (·.kill (.l d))).set d (.row (.l d))) (Zav L (.l d) (.row (zD n.toNat (zero.map wk1)) e z true)):=by
 intro E B w ι a hs ⟨c1,c2,c3,c4,c5⟩
 have hvx:=PRep.int_eq (rdP hs.2.1 hx ex c1)
 have hvy:=PRep.int_eq (rdP hs.2.1 hy ey c2)
 obtain ⟨i,zv,h1,h2,h3,h4,h5,h6,h7⟩:=qgg hA
 have hzo:qfH zv.cells.toList zero=true:=by
  unfold qfw at hzr
  rw [h1] at hzr
  simpa [h2] using hzr
 have hzrep:=qcg hzo
 have hc63:c≤9223372036854775807:=by
  have:c≤c * (by_:Int):=by
   have:=Int.mul_le_mul_of_nonneg_left (show (1:Int)≤(by_:Int) by omega) (show 0≤c by omega)
   omega
  omega
 have hrun:=run_make (P:=P) w t e i zv ht h1 h2 kx ky n c c3 c4 (by rw [h4,Int.mul_comm];omega) hc63
 rw [h3] at hrun
 obtain ⟨m,rfl⟩:=Int.eq_ofNat_of_zero_le c3
 obtain ⟨cc,rfl⟩:=Int.eq_ofNat_of_zero_le (show 0≤c by omega)
 simp only [Int.toNat_natCast] at hrun ⊢
 have hG:Grow w (w.alloc (.cells (madeCells zv.cells (cc * z)) e)) (Old L ι (.l d)):=qbo _ _ _
 have hb:∀ b,blk (.slice (some ⟨w.heap.size,0,none⟩) m cc)=some b→w.heap.size≤b∨Old L ι (.l d) b:=fun b e=>by simp only [blk,zg] at e;omega
 have hzl:zv.cells.toList.length=z:=by simpa using h5
 have hcells:∀ (m:Nat),((zD m zv.cells.toList).flatten).length=m * z:=by
  intro m
  induction m with
  |zero=>simp
  |succ m ih=>rw [ya,zH,zm,ih,hzl,yi];omega
 have hrepl:∀ (m:Nat) (w:World) (U:Nat→Prop),PRepL w U (zD m (zero.map wk1)).flatten (zD m zv.cells.toList).flatten:=by
  intro m w U
  induction m with
  |zero=>simp [PRepL]
  |succ m ih=>rw [ya,ya,zH,zH];exact (hzrep w U).1.wk1.append ih
 have h1c:∀ (m:Nat),∀ v∈(zD m zv.cells.toList).flatten,v.oneCell'=true:=by
  intro m v hv
  obtain ⟨l,hl,hv⟩:=List.mem_flatten.1 hv
  rw [List.eq_of_mem_replicate hl] at hv
  exact (hzrep w (fun _=>False)).1.oneCells (hzrep w (fun _=>False)).2 v hv
 have hzlen:(zero.map wk1).length=z:=by rw [zN,← (hzrep w (fun _=>False)).1.length];exact hzl
 refine qc4 hd hs (v:=.slice (some ⟨w.heap.size,0,none⟩) m cc) (w':=w.alloc (.cells (madeCells zv.cells (cc * z)) e)) ?_ _ hG hb ⟨(zD m zv.cells.toList).flatten,⟨by rw [List.length_replicate];exact hcells m,.inr ⟨w.heap.size,cc,madeCells zv.cells (cc * z),(0,0),by simp [updI],heap_alloc_new w _,by rw [List.length_replicate];omega,by unfold maxLen;omega,size_madeCells _ _,?_,.inl rfl⟩⟩,h1c m,hrepl m _ _,fun x hx=>by rw [List.eq_of_mem_replicate hx];exact hzlen⟩ ⟨by simp [updI],_,_,_,rfl⟩
 ·simp only [execOp,ho,hvx,hvy,Sem.run_bind,hrun]
  rfl
 ·rw [List.length_replicate]
  have e1:(madeCells zv.cells (cc * z)).toList=(List.range (cc * z)).map fun j=>zv.cells[j % zv.cells.size]!:=by
   simp [madeCells]
  have hle:m * z≤cc * z:=zP _ (by omega)
  rw [e1,← List.map_take,List.take_range,Nat.min_eq_left hle]
  exact qm5 zv.cells z h5 m
theorem qsP {t e:TypeId} {x:Operand} {x':Opd} (ho:o.op=.call { callee:=.builtin .cap,args:=#[x],argTypes:=#[t] }) (ht:P.underlying t=some (.slice e)) (hx:qaf x x'=true) {c:Prop} {r:AV}
  (h:Zf fr L (.cap0 x')=some (c,r)):Val1 P o fr L c r:=by
 simp only [Zf] at h
 split at h
 ·rename_i cx z ex
  simp only [zg,zj] at h
  obtain ⟨rfl,rfl⟩:=h
  refine Val1.same fun E B w ι a hs h1=>⟨.int .i64 0,?_,rfl⟩
  have rx:a.eval x=.slice none 0 0:=rdP hs.2.1 hx ex h1
  rw [qay _ _ _ a ho]
  simp [builtin,Builtin.cap_,run_underlying ht,rx,goInt]
 ·cases h
theorem qvc {t e:TypeId} {x hi:Operand} {x' hi':Opd} (ho:o.op=.slice t x none (some hi) none) (ht:P.underlying t=some (.slice e)) (hz:(P.info? e).isSome=true) (hx:qaf x x'=true) (hh:qaf hi hi'=true) {c:Prop} {r:AV}
  (h:Zf fr L (.vsn x' hi')=some (c,r)):Val1 P o fr L c r:=by
 simp only [Zf] at h
 split at h
 ·rename_i cx z ch k n ex eh
  simp only [zg,zj] at h
  obtain ⟨rfl,rfl⟩:=h
  refine Val1.same fun E B w ι a hs ⟨h1,h2,h3⟩=>⟨.slice none 0 0,?_,rfl⟩
  have rx:a.eval x=.slice none 0 0:=rdP hs.2.1 hx ex h1
  have rh:=PRep.int_eq (rdP hs.2.1 hh eh h2)
  subst h3
  obtain ⟨i,hi⟩:=zM.1 hz
  simp [execOp,ho,rx,rh,Instr.sliceAt,run_underlying ht,Instr.slice,Instr.sliceBounds,Instr.sliceBound,asIntOf,sizeOf,typeInfo,hi]
 ·cases h
theorem qhE (zc:Array Value) (n:Nat):(Builtin.zeroCells zc n).toList=(zD n zc.toList).flatten:=by
 simp only [Builtin.zeroCells,Array.toList_map,Array.toList_range]
 exact qm5 zc zc.size rfl n
theorem qmA {z:Nat}:∀ (es:List (List PV)) (m:Nat),(∀ x∈es,x.length=z)→m≤es.length→(es.take m).flatten=es.flatten.take (m * z):=by
 intro es m
 induction m generalizing es with
 |zero=>simp
 |succ m ih=>
  intro e6 hml
  cases es with
  |nil=>simp
  |cons y r=>
   have hy:y.length=z:=e6 y (by simp)
   rw [List.take_succ_cons,zH,zH,ih r (fun u hu=>e6 u (by simp [hu])) (by simp at hml;omega),yi,Nat.one_mul,List.take_append,zJ (l:=y) (by omega)]
   congr 2
   omega
set_option maxHeartbeats 2000000 in
theorem qwB {t tn e z by_ d:Nat} {zero:List PV} {px py:Operand} {x' y':Opd} {kn:IntKind} (ho:o.op=.call { callee:=.builtin .append,args:=#[px,py],argTypes:=#[t,tn] }) (hd:o.dst=some d) (ht:P.underlying t=some (.slice e)) (htn:P.underlying tn=some (.int kn)) (hA:appB P e z by_=true) (hzr:qfw P e zero=true) (hx:qaf px x'=true) (hy:qaf py y'=true)
  {cx cy:Prop} {z0:Nat} {ky:IntKind} {n:Int} (ex:(rd fr x').un=(cx,.p (.nl z0))) (ey:(rd fr y').un=(cy,.p (.int ky n))) :
  Eff1 P o fr L (cx∧cy∧0 < n∧n * by_≤140737488355328) ((fr.map (·.kill (.l d))).set d (.row (.l d))) (Zav L (.l d) (.row (zD n.toNat (zero.map wk1)) e z true)):=by
 intro E B w ι a hs ⟨c1,c2,c3,c5⟩
 have hvx:a.eval px=.slice none 0 0:=rdP hs.2.1 hx ex c1
 have hvy:=PRep.int_eq (rdP hs.2.1 hy ey c2)
 obtain ⟨i,zv,h1,h2,h3,h4,h5,h6,h7⟩:=qgg hA
 have hzo:qfH zv.cells.toList zero=true:=by
  unfold qfw at hzr
  rw [h1] at hzr
  simpa [h2] using hzr
 have hzrep:=qcg hzo
 obtain ⟨m,rfl⟩:=Int.eq_ofNat_of_zero_le (show 0≤n by omega)
 rw [Int.toNat_natCast]
 have hmb:m * by_≤140737488355328:=by omega
 have hmle:m≤m * by_:=Nat.le_mul_of_pos_right _ h7
 have hrun:=Lib.run_append_nil_zeros (P:=P) w t tn o.type e i zv ky kn ht htn h1 h2 m (by omega) (by omega) (by omega) (by rw [h4];omega)
 have hge:=grownCap_ge w m 0 e
 have hle:=grownCap_le_maxLen w m 0 e (by unfold maxLen;omega)
 generalize hcc:grownCap w m 0 e=cc at *
 have hG:Grow w (w.drew.alloc (.cells (Builtin.zeroCells zv.cells m++Builtin.zeroCells zv.cells (cc - m)) e)) (Old L ι (.l d)):=⟨rfl,rfl,rfl,by simp,fun b hb _=>hao w.drew _ hb⟩
 have hb:∀ b,blk (.slice (some ⟨w.heap.size,0,none⟩) m cc)=some b→w.heap.size≤b∨Old L ι (.l d) b:=fun b e=>by simp only [blk,zg] at e;omega
 have hzl:zv.cells.toList.length=z:=by simpa using h5
 have hcells:∀ (m:Nat),((zD m zv.cells.toList).flatten).length=m * z:=by
  intro m
  induction m with
  |zero=>simp
  |succ m ih=>rw [ya,zH,zm,ih,hzl,yi];omega
 have hrepl:∀ (m:Nat) (w:World) (U:Nat→Prop),PRepL w U (zD m (zero.map wk1)).flatten (zD m zv.cells.toList).flatten:=by
  intro m w U
  induction m with
  |zero=>simp [PRepL]
  |succ m ih=>rw [ya,ya,zH,zH];exact (hzrep w U).1.wk1.append ih
 have h1c:∀ (m:Nat),∀ v∈(zD m zv.cells.toList).flatten,v.oneCell'=true:=by
  intro m v hv
  obtain ⟨l,hl,hv⟩:=List.mem_flatten.1 hv
  rw [List.eq_of_mem_replicate hl] at hv
  exact (hzrep w (fun _=>False)).1.oneCells (hzrep w (fun _=>False)).2 v hv
 have hzlen:(zero.map wk1).length=z:=by rw [zN,← (hzrep w (fun _=>False)).1.length];exact hzl
 refine qc4 hd hs (v:=.slice (some ⟨w.heap.size,0,none⟩) m cc) (w':=w.drew.alloc (.cells (Builtin.zeroCells zv.cells m++Builtin.zeroCells zv.cells (cc - m)) e)) ?_ _ hG hb ⟨(zD m zv.cells.toList).flatten,⟨by rw [List.length_replicate];exact hcells m,.inr ⟨w.heap.size,cc,_,(0,0),by simp [updI],heap_alloc_new w.drew _,by rw [List.length_replicate];omega,hle,?_,?_,.inl rfl⟩⟩,h1c m,hrepl m _ _,fun x hx=>by rw [List.eq_of_mem_replicate hx];exact hzlen⟩ ⟨by simp [updI],_,_,_,rfl⟩
 ·rw [qay _ _ _ a ho]
  simp only [builtin,Sem.run_bind,List.map_toArray,zx,List.map_nil,hvx,hvy]
  rw [hrun]
  rfl
 ·rw [← Array.length_toList,Array.toList_append,zm,qhE,qhE,hcells,hcells,← yi]
  congr 1
  omega
 ·rw [Array.toList_append,qhE,List.length_replicate,List.take_append_of_le_length (by rw [hcells];omega),zJ (by rw [hcells];omega)]
set_option maxHeartbeats 2000000 in
theorem qlc {w:World} {t tn ty e:TypeId} {i:TypeInfo} {zv:Value} {z by_:Nat} {kq kn:IntKind} (ht:P.underlying t=some (.slice e)) (htn:P.underlying tn=some (.int kn)) (h1:P.info? e=some i) (h2:i.zero=some zv)
  (h3:i.size=z) (h4:i.bytes=by_) (h5:zv.cells.size=z) (h6:0 < z) (h7:0 < by_) (hzc:∀ v∈zv.cells.toList,v.oneCell'=true) (base:Nat) (v:Value) (n:Nat) (vs:List Value) (hown:w.ownsRow base e z v n vs) (hb:base≤w.heap.size) (k:Nat) (hlen:(n+k) * by_≤140737488355328) :
  ∃ v' w',(Builtin.append_ #[t,tn] ty #[v,.int kq (k:Nat)]).run P w=.ok v' w'∧w'.ownsRow base e z v' (n+k) (vs++(zD k zv.cells.toList).flatten)∧w.grownBy w' v.ownBlock∧(v'.ownBlock=v.ownBlock∨v'.ownBlock=some w.heap.size):=by
 subst h3
 subst h4
 have hm:n+k≤maxLen:=by
  have:n+k≤(n+k) * i.bytes:=Nat.le_mul_of_pos_right _ h7
  unfold maxLen
  omega
 have hsmall:n+k≤9223372036854775807:=by simp only [maxLen] at hm;omega
 have hw:IntKind.i64.wrap (k:Int)=k:=by rw [IntKind.wrap_i64];omega
 have hkb:k * i.bytes≤140737488355328:=by rw [yi] at hlen;omega
 have hzl:zv.cells.toList.length=i.size:=by simpa using h5
 have hnl:((zD k zv.cells.toList).flatten).length=k * i.size:=by
  clear hlen hm hsmall hw hkb
  induction k with
  |zero=>simp
  |succ m ih=>rw [ya,zH,zm,ih,hzl,yi];omega
 have h1c:∀ v∈(zD k zv.cells.toList).flatten,v.oneCell'=true:=by
  intro v hv
  obtain ⟨l,hl,hv⟩:=List.mem_flatten.1 hv
  rw [List.eq_of_mem_replicate hl] at hv
  exact hzc v hv
 have hzf:Builtin.zeroCells zv.cells k=((zD k zv.cells.toList).flatten).toArray:=by
  apply Array.ext'
  rw [qhE]
 generalize hnews:(zD k zv.cells.toList).flatten=news at *
 have hlen2:(vs++news).length=(n+k) * i.size:=by rw [zm,hown.1,hnl,yi]
 by_cases hk:k=0
 ·subst hk
  have hn0:news=[]:=zq (by simpa using hnl)
  subst hn0
  have hv:∃ base' cap,v=.slice base' n cap∧n≤cap:=by
   rcases hown.2 with ⟨q1,q2⟩|⟨g,cap,cur,q1,_,_,q2,_⟩
   ·exact ⟨none,0,by rw [q1,q2],by omega⟩
   ·exact ⟨_,cap,q1,q2⟩
  obtain ⟨base',cap,rfl,hc⟩:=hv
  refine ⟨_,w,?_,by simpa using hown,World.grownBy.refl w _,.inl rfl⟩
  have hw0:IntKind.i64.wrap 0=0:=by decide
  cases base'<;>simp [Builtin.append_,run_underlying ht,run_underlying htn,sizeOf,typeInfo,h1,asInt,asIntOf,hw0,hc,storeCells]
 have hneg:¬ ((k:Int) < 0):=by omega
 have h48i:¬ (281474976710656 < (k:Int) * (i.bytes:Int)):=by
  rw [← Int.natCast_mul]
  omega
 have hns:¬ (k * i.size=0):=Nat.mul_ne_zero hk (by omega)
 have grown:∀ (old:Nat),old < n+k→∀ (row:Option Nat),
   (w.drew.alloc (.cells (vs.toArray++Builtin.zeroCells zv.cells k++Builtin.zeroCells zv.cells (grownCap w (n+k) old e - (n+k))) e)).ownsRow base e i.size
    (.slice (some ⟨w.heap.size,0,none⟩) (n+k) (grownCap w (n+k) old e)) (n+k) (vs++news)∧
   w.grownBy (w.drew.alloc (.cells (vs.toArray++Builtin.zeroCells zv.cells k++Builtin.zeroCells zv.cells (grownCap w (n+k) old e - (n+k))) e)) row:=by
  intro old ho row
  rw [hzf]
  have hge:=grownCap_ge w (n+k) old e
  have hcm:grownCap w (n+k) old e≤maxLen:=grownCap_le_maxLen w (n+k) old e hm
  refine ⟨⟨hlen2,.inr ⟨w.heap.size,_,_,rfl,hb,heap_alloc_new w.drew _,hge,hcm,?_,?_⟩⟩,⟨rfl,rfl,rfl,by simp,fun k hk _=>heap_alloc_old w.drew _ hk⟩⟩
  ·simp only [Array.size_append,List.size_toArray,size_zeroCells,h5,hown.1,hnl,← yi]
   congr 1
   omega
  ·simp only [Array.toList_append,List.append_assoc]
   rw [← List.append_assoc,← hlen2]
   exact List.take_left
 rcases hown.2 with ⟨rfl,rfl⟩|⟨g,cap,cur,rfl,hbg,hg,hnc,hcm,hcs,htake⟩
 ·have hx:vs=[]:=zq (by simpa using hown.1)
  subst hx
  have hr:=Lib.run_append_nil_zeros (P:=P) w t tn ty e i zv kq kn ht htn h1 h2 k (by omega) (by omega) (by omega) (by omega)
  have hgr:=grown 0 (by omega) (Value.ownBlock (.slice none 0 0))
  simp only [Nat.zero_add,zU,Array.empty_append] at hgr ⊢
  exact ⟨_,_,hr,hgr.1,hgr.2,.inr rfl⟩
 ·by_cases hroom:n+k≤cap
  ·have hfit:n * i.size+news.length≤cur.size:=by rw [hnl,hcs,← yi];exact zP _ hroom
   have hst:=run_storeCells_at P g (n * i.size) e news 0 cur w hg (by simpa using hfit) h1c
   simp only [Nat.add_zero] at hst
   refine ⟨.slice (some ⟨g,0,none⟩) (n+k) cap,w.setRow g (cur.toList.take (n * i.size)++news++cur.toList.drop (n * i.size+news.length)).toArray,?_,⟨hlen2,.inr ⟨g,cap,_,rfl,hbg,setRow_heap w g cur _ e _ hg,hroom,hcm,?_,?_⟩⟩,⟨rfl,rfl,rfl,by simp,fun k hk=>fun hk2=>setRow_other w g k _ (fun e=>hk2 (by simp [Value.ownBlock,e]))⟩,.inl rfl⟩
   ·simp [Builtin.append_,run_underlying ht,run_underlying htn,sizeOf,typeInfo,zeroValue,h1,h2,asInt,asIntOf,hw,hneg,h48i,hns,hroom,hzf,Addr.add_lit,hst]
   ·simp only [List.size_toArray,zm,yd,List.length_drop,Array.length_toList]
    omega
   ·rw [htake,← hlen2]
    exact List.take_left
  ·have holds:∀ j u,vs[j]?=some u→w.cell? ((⟨g,0,none⟩:Addr).add j)=some u:=hown.cells (g:=g) rfl
   have hf:=run_firstCells_some (P:=P) w.drew i.size n ⟨g,0,none⟩ n cap vs hown.1 (by simpa using holds)
   have hr:=Lib.run_append_grow_zeros (P:=P) w t tn ty e i zv kq kn ht htn h1 h2 (some ⟨g,0,none⟩) n cap vs hf k (by omega) (by omega) (by omega) (by omega) (by omega) (growslice_fits (by omega) hlen)
   have hgr:=grown cap (by omega) (Value.ownBlock (.slice (some ⟨g,0,none⟩) n cap))
   exact ⟨_,_,hr,hgr.1,hgr.2,.inr rfl⟩
set_option maxHeartbeats 2000000 in
theorem qtW {t tn e z by_ d j:Nat} {zero:List PV} {px py:Operand} {x' y':Opd} {kn:IntKind} (ho:o.op=.call { callee:=.builtin .append,args:=#[px,py],argTypes:=#[t,tn] }) (hd:o.dst=some d) (ht:P.underlying t=some (.slice e)) (htn:P.underlying tn=some (.int kn)) (hA:appB P e z by_=true) (hzr:qfw P e zero=true) (hx:qaf px x'=true) (hy:qaf py y'=true)
  {cx cy:Prop} {ky:IntKind} {n:Int} (ex:(rd fr x').un=(cx,.row (.l j))) (ey:(rd fr y').un=(cy,.p (.int ky n))) {es:List (List PV)} (hl:Zas L (.l j)=some (.row es e z true)) :
  Eff1 P o fr L (cx∧cy∧0≤n∧(es.length+n) * by_≤140737488355328) ((fr.map (·.kill (.l j))).set d (.row (.l j))) (Zav L (.l j) (.row (es++zD n.toNat (zero.map wk1)) e z true)):=by
 intro E B w ι a hs ⟨c1,c2,c3,c5⟩
 have hv:ARep w _ ι (.row (.l j)) (a.eval px):=rdP hs.2.1 hx ex c1
 have hvy:=PRep.int_eq (rdP hs.2.1 hy ey c2)
 obtain ⟨i,zv,h1,h2,h3,h4,h5,h6,h7⟩:=qgg hA
 have hzo:qfH zv.cells.toList zero=true:=by
  unfold qfw at hzr
  rw [h1] at hzr
  simpa [h2] using hzr
 have hzrep:=qcg hzo
 obtain ⟨m,rfl⟩:=Int.eq_ofNat_of_zero_le c3
 rw [Int.toNat_natCast]
 obtain ⟨vs,hrow,e4,e5,e6⟩:=hs.1.sim.obj _ _ hl
 have hown:=hrow.owns
 have hzc:∀ v∈zv.cells.toList,v.oneCell'=true:=(hzrep w (fun _=>False)).1.oneCells (hzrep w (fun _=>False)).2
 have hlen:(es.length+m) * by_≤140737488355328:=by
  have:(((es.length+m) * by_:Nat):Int)≤140737488355328:=by rw [Int.natCast_mul,Int.natCast_add];exact c5
  omega
 obtain ⟨v',w',r1,r2,r3,r4⟩:=qlc (P:=P) (ty:=o.type) (kq:=ky) ht htn h1 h2 h3 h4 h5 h6 h7 hzc 0 (ι (.l j)) es.length vs hown (Nat.zero_le _) m hlen
 have hzl:zv.cells.toList.length=z:=by simpa using h5
 have hrepl:∀ (m:Nat) (w:World) (U:Nat→Prop),PRepL w U (zD m (zero.map wk1)).flatten (zD m zv.cells.toList).flatten:=by
  intro m w U
  induction m with
  |zero=>simp [PRepL]
  |succ m ih=>rw [ya,ya,zH,zH];exact (hzrep w U).1.wk1.append ih
 have hzlen:(zero.map wk1).length=z:=by rw [zN,← (hzrep w (fun _=>False)).1.length];exact hzl
 have hG:Grow w w' (Old L ι (.l j)):=qbe r3 (fun b hb=>⟨_,hl,by rw [qbu (b:=b) (qau hown)];exact hb⟩)
 have hb:∀ b,blk v'=some b→w.heap.size≤b∨Old L ι (.l j) b:=by
  intro b hb
  rw [qbu (b:=b) (qau r2)] at hb
  rcases r4 with r4|r4
  ·exact .inr ⟨_,hl,by rw [qbu (b:=b) (qau hown),← r4];exact hb⟩
  ·rw [r4] at hb;cases hb;exact .inl (zL _)
 generalize hao:AO.row (es++zD m (zero.map wk1)) e z true=ao
 have hk:=qa6 (X:=B.X) (ao:=ao) (fun b hb=>hs.1.x_lt hb) hG hb
 have hobj:ObjOk w' (fun b=>Own (Zav L (.l j) ao) (updI ι (.l j) v') b∨B.X b) (updI ι (.l j) v') (.l j) ao:=by
  subst hao
  refine ⟨vs++(zD m zv.cells.toList).flatten,?_,?_,?_,?_⟩
  ·have:=RowOk.of_owns r2
   rw [zm,List.length_replicate]
   simpa [updI] using this
  ·intro u hu
   simp only [zp] at hu
   rcases hu with hu|hu
   ·exact e4 u hu
   ·obtain ⟨l,hl2,hv2⟩:=List.mem_flatten.1 hu
    rw [List.eq_of_mem_replicate hl2] at hv2
    exact hzc u hv2
  ·rw [List.flatten_append];exact (PRepL.mono hk _ _ e5).append (hrepl m _ _)
  ·intro y hy
   simp only [zp] at hy
   rcases hy with hy|hy
   ·exact e6 y hy
   ·rw [List.eq_of_mem_replicate hy];exact hzlen
 have h1':=hs.upd j v' ao hG hb hobj
 refine ⟨v',.value v',w',_,?_,.inl rfl,h1'.1,?_,by rw [Act.put_defers'];exact h1'.2.2⟩
 ·rw [qay _ _ _ a ho]
  simp only [builtin,Sem.run_bind,List.map_toArray,zx,List.map_nil,hv.1,hvy]
  rw [r1]
  rfl
 ·rw [hd]
  exact h1'.2.1.put d ⟨by simp [updI],qau r2⟩
set_option maxHeartbeats 2000000 in
theorem qwn {t e:TypeId} {z d i:Nat} {x hi:Operand} {x' hi':Opd} (ho:o.op=.slice t x none (some hi) none) (hd:o.dst=some d) (ht:P.underlying t=some (.slice e)) (hz:qa7 P e z=true) (hx:qaf x x'=true) (hh:qaf hi hi'=true)
  {cx ch:Prop} {k:IntKind} {n:Int} {es:List (List PV)} {et:TypeId} (ex:(rd fr x').un=(cx,.row (.l i))) (eh:(rd fr hi').un=(ch,.p (.int k n))) (hl:Zas L (.l i)=some (.row es et z true)) :
  Eff1 P o fr L (cx∧ch∧0≤n∧n≤es.length) ((fr.map (·.kill (.l i))).set d (.row (.l i))) (Zav L (.l i) (.row (es.take n.toNat) et z true)):=by
 intro E B w ι a hs ⟨c1,c2,c3,c4⟩
 have hv:ARep w _ ι (.row (.l i)) (a.eval x):=rdP hs.2.1 hx ex c1
 have rh:=PRep.int_eq (rdP hs.2.1 hh eh c2)
 obtain ⟨vs,hrow,e4,e5,e6⟩:=hs.1.sim.obj _ _ hl
 obtain ⟨m,rfl⟩:=Int.eq_ofNat_of_zero_le c3
 simp only [Int.toNat_natCast] at *
 have hml:m≤es.length:=by omega
 have hfl:=qmA es m e6 hml
 have hlen:vs.length=es.length * z:=hrow.1
 have hmz:m * z≤es.length * z:=zP _ hml
 have hvs:(vs.take (m * z)).length=m * z:=by rw [yd,hlen];omega
 obtain ⟨A,cp,hA,hcp,hrow'⟩:∃ A cp,ι (.l i)=.slice A es.length cp∧es.length≤cp∧RowOk w et z true (.slice A m cp) m (vs.take (m * z)):=by
  rcases hrow.2 with ⟨q1,q2⟩|⟨g,cap,cur,fz,q1,q2,q3,q4,q5,q6,q7⟩
  ·have hm0:m=0:=by omega
   subst hm0
   exact ⟨none,0,by rw [q1,q2],by omega,by simp,.inl ⟨rfl,rfl⟩⟩
  ·exact ⟨_,cap,q1,q3,hvs,.inr ⟨g,cap,cur,fz,rfl,q2,by omega,q4,q5,by rw [← q6,List.take_take,Nat.min_eq_left hmz],q7⟩⟩
 have hbk:blk (.slice A m cp)=blk (ι (.l i)):=by rw [hA];cases A<;>rfl
 have hG:Grow w w (Old L ι (.l i)):=Grow.refl _ _
 have hb:∀ b,blk (.slice A m cp)=some b→w.heap.size≤b∨Old L ι (.l i) b:=fun b hb=>.inr ⟨_,hl,by rw [← hbk];exact hb⟩
 have hk:=qa6 (X:=B.X) (ao:=.row (es.take m) et z true) (fun b hb=>hs.1.x_lt hb) hG hb
 have hml':(es.take m).length=m:=by rw [yd];omega
 have hobj:ObjOk w (fun b=>Own (Zav L (.l i) (.row (es.take m) et z true)) (updI ι (.l i) (.slice A m cp)) b∨B.X b) (updI ι (.l i) (.slice A m cp)) (.l i) (.row (es.take m) et z true):=by
  refine ⟨vs.take (m * z),by rw [hml'];simpa [updI] using hrow',fun u hu=>e4 u (ye hu),?_,fun y hy=>e6 y (ye hy)⟩
  rw [hfl]
  exact PRepL.mono hk _ _ (e5.take _)
 have h1:=hs.upd i (.slice A m cp) (.row (es.take m) et z true) hG hb hobj
 refine ⟨.slice A m cp,.value (.slice A m cp),w,_,?_,.inl rfl,h1.1,?_,by rw [Act.put_defers'];exact h1.2.2⟩
 ·have hmc:m≤cp:=by omega
  have:=hv.1
  rw [hA] at this
  simp [execOp,ho,this,rh,Instr.sliceAt,run_underlying ht,Instr.slice,Instr.sliceBounds,Instr.sliceBound,asIntOf,qaD hz,hmc]
  cases A<;>simp [Addr.add]
 ·rw [hd]
  exact h1.2.1.put d ⟨by simp [updI],_,_,_,rfl⟩
set_option maxHeartbeats 2000000 in
theorem qwx {t e:TypeId} {s d n:Nat} {parts:Array (Nat×Operand)} (ho:o.op=.buildSlice t n parts) (hd:o.dst=some d) (ht:P.underlying t=some (.slice e)) (hz:qa7 P e 1=true) (hzr:((P.info? e).bind (·.zero)).isSome=true)
  (hn:parts.toList.length=n) (hk:qbd 0 parts.toList [.t s]=true) {k:Key} (hrs:fr[s]?=some (.row k)) (hkd:k≠.l d):Eff1 P o fr L True ((fr.map (·.kill (.l d))).set d (.row (.l d))) (Zav L (.l d) (.rowv [[.row k]] e 1)):=by
 have hn1:n=1:=by
  rw [← hn]
  generalize parts.toList=pl at hk
  match pl,hk with
  |[p],_=>rfl
  |[],hk=>simp [qbd] at hk
  |p :: q :: r,hk=>obtain ⟨i,x⟩:=p;obtain ⟨i2,x2⟩:=q;simp [qbd] at hk
 subst hn1
 intro E B w ι a hs h1
 obtain ⟨v,hv1,hv2⟩:=hs.2.1.2 s _ hrs
 have hsl:s < fr.length:=(zo.1 hrs).1
 have hf':FRep w (fun b=>Own L ι b∨B.X b) ι (fr.set s (.p (.raw v))) a:=by
  refine ⟨by simp [hs.2.1.1],fun i x hx=>?_⟩
  rw [List.getElem?_set] at hx
  by_cases hi:s=i
  ·subst hi
   rw [if_pos rfl,if_pos hsl] at hx
   cases hx
   refine ⟨v,hv1,?_⟩
   obtain ⟨rfl,A,n,c,hc⟩:=hv2
   rw [hc]
   exact ⟨rfl,rfl⟩
  ·rw [if_neg hi] at hx
   exact hs.2.1.2 i x hx
 have hs':StF E B w L ι (fr.set s (.p (.raw v))) a:=⟨hs.1,hf',hs.2.2⟩
 have hb':Zao (fr.set s (.p (.raw v))) 1 [.t s]=some (True∧True,[[.raw v]]):=by
  have hr:rd (fr.set s (.p (.raw v))) (.t s)=.p (.raw v):=by simp [rd,zC,hsl]
  simp only [Zao,hr]
  rfl
 obtain ⟨us,g1,g2,g3,g4,g5⟩:=qlb hs' ho ht hz hzr hn (by omega) hk hb' ⟨trivial,trivial⟩
 have hus:us=[v]:=by
  simp only [zH,List.flatten_nil,List.append_nil,PRepL,PRep] at g2
  obtain ⟨v1,r1,rfl,⟨rfl,_⟩,rfl⟩:=g2
  rfl
 subst hus
 have hG:Grow w (w.alloc (.cells [v].toArray e)) (Old L ι (.l d)):=qbo _ _ _
 have hb:∀ b,blk (.slice (some ⟨w.heap.size,0,none⟩) 1 1)=some b→w.heap.size≤b∨Old L ι (.l d) b:=fun b e=>by simp only [blk,zg] at e;omega
 have hkk:=qa6 (X:=B.X) (ao:=.rowv [[.row k]] e 1) (fun b hb=>hs.1.x_lt hb) hG hb
 refine qc4 hd hs g1 (.slice (some ⟨w.heap.size,0,none⟩) 1 1) hG hb ⟨[v],⟨rfl,.inr ⟨w.heap.size,1,[v].toArray,(0,0),by simp [updI],heap_alloc_new w _,by simp,by unfold maxLen;omega,rfl,rfl,.inl rfl⟩⟩,g3,by simp,fun j x hx=>?_⟩ ⟨by simp [updI],_,_,_,rfl⟩
 have hj:j=0:=by
  rcases j with _|j
  ·rfl
  ·simp at hx
 subst hj
 simp at hx
 subst hx
 refine ⟨v,rfl,?_⟩
 obtain ⟨rfl,A,n,c,hc⟩:=hv2
 exact ⟨by simp [updI,hkd],A,n,c,by simpa [updI,hkd] using hc⟩
theorem qnK {U:Nat→Prop}:∀ vs:List Value,(∀ v∈vs,v.oneCell'=true)→PRepL w U (vs.map PV.raw) vs
 |[],_=>rfl
 |v :: r,h=>by
  simp only [zx,PRepL]
  exact ⟨v,r,rfl,⟨rfl,h v (by simp)⟩,qnK r fun x hx=>h x (by simp [hx])⟩
theorem qiQ {U:Nat→Prop}:∀ {vs us:List Value},PRepL w U (vs.map PV.raw) us→us=vs
 |[],us,h=>h
 |v :: r,us,h=>by
  simp only [zx,PRepL] at h
  obtain ⟨v1,r1,rfl,⟨rfl,_⟩,h2⟩:=h
  rw [qiQ h2]
theorem qli:∀ vs:List Value,Zaa (vs.map PV.raw)=true∧(vs.map PV.raw).map wk1=vs.map PV.raw
 |[]=>⟨rfl,rfl⟩
 |v :: r=>by
  obtain ⟨h1,h2⟩:=qli r
  refine ⟨?_,by rw [zx,zx,h2];rfl⟩
  unfold Zaa at *
  rw [zx,List.all_cons,h1]
  rfl
theorem qpc:∀ {l:List CV} {es:List PV},Zba (l.map Zah)=some es→∀ c∈l,∃ p,c=.p p
 |[],_,_,c,hc=>by cases hc
 |x :: r,es,h,c,hc=>by
  rw [zx,Zba] at h
  split at h
  ·rename_i y l' h1 h2
   rcases zG.1 hc with rfl|hc
   ·cases c with
    |p x=>exact ⟨x,rfl⟩
    |row k=>simp [Zah,Zaz] at h1
    |mp k=>simp [Zah,Zaz] at h1
   ·exact qpc h2 c hc
  ·cases h
set_option maxHeartbeats 2000000 in
theorem qwA {t e:TypeId} {s d n z:Nat} {parts:Array (Nat×Operand)} (ho:o.op=.buildSlice t n parts) (hd:o.dst=some d) (ht:P.underlying t=some (.slice e)) (hz:qa7 P e z=true) (hzr:((P.info? e).bind (·.zero)).isSome=true)
  (hn:parts.toList.length=n) (hm:n * z≤16777216) (hk:qbd 0 parts.toList [.t s]=true) {l:List CV} (hrs:fr[s]?=some (.ag l)) {es0:List PV} (hpl:Zba (l.map Zah)=some es0) (hll:l.length=z):Eff1 P o fr L True ((fr.map (·.kill (.l d))).set d (.row (.l d))) (Zav L (.l d) (.rowv [l.map Zah] e z)):=by
 have hn1:n=1:=by
  rw [← hn]
  generalize parts.toList=pl at hk
  match pl,hk with
  |[p],_=>rfl
  |[],hk=>simp [qbd] at hk
  |p :: q :: r,hk=>obtain ⟨i,x⟩:=p;obtain ⟨i2,x2⟩:=q;simp [qbd] at hk
 subst hn1
 intro E B w ι a hs h1
 obtain ⟨v,hv1,hv2⟩:=hs.2.1.2 s _ hrs
 obtain ⟨vs,e1,hvl,hr⟩:∃ vs:List Value,v=.agg vs.toArray∧vs.length=l.length∧∀ (j:Nat) (x:CV),l[j]?=some x→∃ v,vs[j]?=some v∧v.oneCell'=true∧CRep w (fun b=>Own L ι b∨B.X b) ι x v:=hv2
 have hone:∀ u∈vs,u.oneCell'=true:=by
  intro u hu
  obtain ⟨j,hj⟩:=yg hu
  have hjl:j < l.length:=by rw [← hvl];exact (zo.1 hj).1
  obtain ⟨u',hu',h2,_⟩:=hr j _ (zk hjl)
  rw [hu'] at hj
  cases hj
  exact h2
 have hsl:s < fr.length:=(zo.1 hrs).1
 have hf':FRep w (fun b=>Own L ι b∨B.X b) ι (fr.set s (.p (.agg (vs.map .raw)))) a:=by
  refine ⟨by simp [hs.2.1.1],fun i x hx=>?_⟩
  rw [List.getElem?_set] at hx
  by_cases hi:s=i
  ·subst hi
   rw [if_pos rfl,if_pos hsl] at hx
   cases hx
   refine ⟨v,hv1,?_⟩
   rw [e1]
   exact ⟨vs,rfl,qnK vs hone⟩
  ·rw [if_neg hi] at hx
   exact hs.2.1.2 i x hx
 have hs':StF E B w L ι (fr.set s (.p (.agg (vs.map .raw)))) a:=⟨hs.1,hf',hs.2.2⟩
 have hb':Zao (fr.set s (.p (.agg (vs.map .raw)))) z [.t s]=some (True∧True,[vs.map .raw]):=by
  have hr:rd (fr.set s (.p (.agg (vs.map .raw)))) (.t s)=.p (.agg (vs.map .raw)):=by simp [rd,zC,hsl]
  have hr2:(rd (fr.set s (.p (.agg (vs.map .raw)))) (.t s)).un=(True,.p (.agg (vs.map .raw))):=by rw [hr];rfl
  simp only [Zao,hr2]
  rw [if_pos ⟨by simp only [Zz,zN];omega,(qli vs).1⟩]
  simp only [Zz,(qli vs).2,zA]
 obtain ⟨us,g1,g2,g3,g4,g5⟩:=qlb hs' ho ht hz hzr hn hm hk hb' ⟨trivial,trivial⟩
 have hus:us=vs:=by
  rw [zH,List.flatten_nil,List.append_nil] at g2
  exact qiQ g2
 subst hus
 have hG:Grow w (w.alloc (.cells us.toArray e)) (Old L ι (.l d)):=qbo _ _ _
 have hb:∀ b,blk (.slice (some ⟨w.heap.size,0,none⟩) 1 1)=some b→w.heap.size≤b∨Old L ι (.l d) b:=fun b e=>by simp only [blk,zg] at e;omega
 have hkk:=qa6 (X:=B.X) (ao:=.rowv [l.map Zah] e z) (fun b hb=>hs.1.x_lt hb) hG hb
 have hul:us.length=1 * z:=by omega
 refine qc4 hd hs g1 (.slice (some ⟨w.heap.size,0,none⟩) 1 1) hG hb ⟨us,⟨by rw [hul];rfl,.inr ⟨w.heap.size,1,us.toArray,(0,0),by simp [updI],heap_alloc_new w _,by simp,by unfold maxLen;omega,by simpa using hul,by simp [hul,zJ (show us.length≤z by omega)],.inl rfl⟩⟩,g3,by simpa using hll,fun j x hx=>?_⟩ ⟨by simp [updI],_,_,_,rfl⟩
 rw [zH,List.flatten_nil,List.append_nil,zy,zh] at hx
 obtain ⟨y,hy,rfl⟩:=hx
 obtain ⟨u,hu,_,hc⟩:=hr j y hy
 obtain ⟨p,rfl⟩:=qpc hpl y (zn hy)
 exact ⟨u,hu,PRep.mono hkk _ _ hc⟩
set_option maxHeartbeats 2000000 in
theorem qsX {a:Act} {t e:TypeId} {parts:Array (Nat×Operand)} {px:Operand} {v:Value} (ho:o.op=.buildSlice t 1 parts) (ht:P.underlying t=some (.slice e)) (hz:qa7 P e 1=true) (hzr:((P.info? e).bind (·.zero)).isSome=true)
  (hp:parts.toList=[(0,px)]) (hv:a.eval px=v) (hcell:v.cells.toList=[v]) :
  (execOp a.eval o).run P w=.ok (.value (.slice (some ⟨w.heap.size,0,none⟩) 1 1)) (w.alloc (.cells #[v] e)):=by
 obtain ⟨zv,hzv⟩:=zM.1 hzr
 obtain ⟨i,hi1,hi2⟩:=Option.bind_eq_some_iff.1 hzv
 have hrz:(zeroValue e).run P w=.ok zv w:=by simp [zeroValue,typeInfo,hi1,hi2]
 have g1:Instr.fill (fun i=>some (i * 1,1)) ((Array.range (1 * 1)).map (zv.cells[· % zv.cells.size]!)) (parts.toList.map fun x=>(x.1,a.eval x.2))=some #[v]:=by
  rw [hp]
  simp only [zx,List.map_nil,hv]
  have hq:=qeu (fun i=>some (i * 1,1)) ((Array.range (1 * 1)).map (zv.cells[· % zv.cells.size]!)).toList 0 (0 * 1) 1 v [] rfl (by rw [← Array.length_toList,hcell];rfl) (by simp)
  rw [Array.toArray_toList] at hq
  rw [hq]
  have hl:((Array.range (1 * 1)).map (zv.cells[· % zv.cells.size]!)).toList.length=1:=by simp
  have:=qju [v] [] ((Array.range (1 * 1)).map (zv.cells[· % zv.cells.size]!)).toList (by rw [hl];exact zL _)
  rw [hcell]
  simp only [zU,zr] at this
  rw [show 0 * 1=0 from rfl,this]
  have hd:((Array.range (1 * 1)).map (zv.cells[· % zv.cells.size]!)).toList.drop [v].length=[]:=List.drop_of_length_le (by rw [hl];exact zL _)
  rw [hd]
  rfl
 have e3:(Array.map (fun x:Nat×Operand=>(x.1,a.eval x.2)) parts).toList=parts.toList.map fun x=>(x.1,a.eval x.2):=by simp
 simp only [execOp,ho,Instr.buildSlice,Sem.run_bind,run_underlying ht,Result.andThen_ok,qaD hz,Sem.run_ite]
 rw [if_neg (by omega)]
 simp only [Sem.run_pure,Result.andThen_ok,if_neg (show ¬ 1 * 1=0 by decide),hrz]
 rw [e3]
 simp only [g1]
 simp [newRow,newObj]
 rfl
set_option maxHeartbeats 2000000 in
theorem qwz {t e:TypeId} {d n z0:Nat} {parts:Array (Nat×Operand)} (ho:o.op=.buildSlice t n parts) (hd:o.dst=some d) (ht:P.underlying t=some (.slice e)) (hz:qa7 P e 1=true) (hzr:((P.info? e).bind (·.zero)).isSome=true)
  (hn:parts.toList.length=n) (hk:qbd 0 parts.toList [.c (.nl z0)]=true):Eff1 P o fr L True ((fr.map (·.kill (.l d))).set d (.row (.l d))) (Zav L (.l d) (.rowv [[.p (.nl z0)]] e 1)):=by
 obtain ⟨px,hp,hpx⟩:∃ px,parts.toList=[(0,px)]∧qaf px (.c (.nl z0))=true:=by
  generalize parts.toList=pl at hk
  match pl,hk with
  |[],hk=>simp [qbd] at hk
  |[p],hk=>
   obtain ⟨i,x⟩:=p
   simp only [qbd,zi,beq_iff_eq] at hk
   exact ⟨x,by rw [hk.1.1],hk.1.2⟩
  |p :: q :: r,hk=>obtain ⟨i,x⟩:=p;obtain ⟨i2,x2⟩:=q;simp [qbd] at hk
 have hn1:n=1:=by rw [← hn,hp];rfl
 subst hn1
 intro E B w ι a hs h1
 have hv:a.eval px=.slice none 0 0:=rdP (c:=True) hs.2.1 hpx rfl trivial
 have g1:=qsX (w:=w) ho ht hz hzr hp hv rfl
 have hG:Grow w (w.alloc (.cells #[.slice none 0 0] e)) (Old L ι (.l d)):=qbo _ _ _
 have hb:∀ b,blk (.slice (some ⟨w.heap.size,0,none⟩) 1 1)=some b→w.heap.size≤b∨Old L ι (.l d) b:=fun b e=>by simp only [blk,zg] at e;omega
 refine qc4 hd hs g1 (.slice (some ⟨w.heap.size,0,none⟩) 1 1) hG hb ⟨[.slice none 0 0],⟨rfl,.inr ⟨w.heap.size,1,#[.slice none 0 0],(0,0),by simp [updI],heap_alloc_new w _,by simp,by unfold maxLen;omega,rfl,rfl,.inl rfl⟩⟩,by intro u hu;rw [zu] at hu;subst hu;rfl,by simp,fun j x hx=>?_⟩ ⟨by simp [updI],_,_,_,rfl⟩
 have hj:j=0:=by
  rcases j with _|j
  ·rfl
  ·simp at hx
 subst hj
 simp at hx
 subst hx
 exact ⟨.slice none 0 0,rfl,rfl⟩
set_option maxHeartbeats 2000000 in
theorem qsY {w:World} {t e e2 z by_:Nat} {ty:TypeId} {ap:Bool} (ht:P.underlying t=some (.slice e)) (hA:appB P e z by_=true) (base:Nat) (v:Value) (n:Nat) (vs:List Value) (hown:w.ownsRow base e z v n vs) (hb:base≤w.heap.size)
  {u:Value} {m:Nat} {news:List Value} (hu:RowOk w e2 z ap u m news) (g2:∀ u∈news,u.oneCell'=true) (hlen:(n+m) * by_≤140737488355328) :
  ∃ v' w',(Builtin.append_ #[t,t] ty #[v,u]).run P w=.ok v' w'∧w'.ownsRow base e z v' (n+m) (vs++news)∧w.grownBy w' v.ownBlock∧(v'.ownBlock=v.ownBlock∨v'.ownBlock=some w.heap.size):=by
 obtain ⟨i,zv,h1,h2,h3,h4,h5,h6,h7⟩:=qgg hA
 have hm:n+m≤maxLen:=by
  have:n+m≤(n+m) * by_:=Nat.le_mul_of_pos_right _ h7
  unfold maxLen
  omega
 have hcell:=fun g mm c hv=>RowOk.cells hu (g:=g) (m:=mm) (c:=c) hv
 obtain ⟨hl,hu2⟩:=hu
 rcases hu2 with ⟨rfl,rfl⟩|⟨g,cap,cur,fz,rfl,_⟩
 ·have hnews:news=[]:=zq (by simpa using hl)
  subst hnews
  have hv:∃ base' cap,v=.slice base' n cap∧n≤cap:=by
   rcases hown.2 with ⟨q1,q2⟩|⟨g,cap,cur,q1,_,_,q2,_⟩
   ·exact ⟨none,0,by rw [q1,q2],by omega⟩
   ·exact ⟨_,cap,q1,q2⟩
  obtain ⟨base',cap,rfl,hc⟩:=hv
  exact ⟨_,w,qfa ht h1 _ _ _ _ _ hc,by simpa using hown,World.grownBy.refl w _,.inl rfl⟩
 ·have g5:∀ (j:Nat) (u:Value),news[j]?=some u→w.cell? ((⟨g,0,none⟩:Addr).add j)=some u:=by
   intro j u hj
   rw [show ({ block:=g,off:=0 }:Addr).add j=⟨g,j,none⟩ from by cases j<;>simp [Addr.add]]
   exact hcell g m cap rfl j u hj
  obtain ⟨v',w',r1,r2,r3,_,r5⟩:=run_append_own_at (P:=P) w base t ty e i zv z by_ ht h1 h2 h3 h4 h5 h6 v n vs hown ⟨g,0,none⟩ m cap news hl g5 g2 hm hlen hb
  exact ⟨v',w',r1,r2,r3,r5⟩
set_option maxHeartbeats 2000000 in
theorem qrW {t e e2 z by_:Nat} {px py:Operand} {x' y':Opd} {d i:Nat} {j:Key} (ho:o.op=.call { callee:=.builtin .append,args:=#[px,py],argTypes:=#[t,t] }) (hd:o.dst=some d) (ht:P.underlying t=some (.slice e)) (hA:appB P e z by_=true) (hx:qaf px x'=true) (hy:qaf py y'=true)
  {cx cy:Prop} (ex:(rd fr x').un=(cx,.row (.l i))) (ey:(rd fr y').un=(cy,.row j)) {es es2:List (List AV)} (hl:Zas L (.l i)=some (.rowv es e z)) (hl2:Zas L j=some (.rowv es2 e2 z)) :
  Eff1 P o fr L (cx∧cy∧(es.length+es2.length) * by_≤140737488355328) ((fr.map (·.kill (.l i))).set d (.row (.l i))) (Zav L (.l i) (.rowv (es.map (·.map (·.kill (.l i)))++es2.map (·.map (·.kill (.l i)))) e z)):=by
 intro E B w ι a hs ⟨c1,c2,c3⟩
 have hv:ARep w _ ι (.row (.l i)) (a.eval px):=rdP hs.2.1 hx ex c1
 have hu:ARep w _ ι (.row j) (a.eval py):=rdP hs.2.1 hy ey c2
 obtain ⟨vs,hrow,e4,e6,e5⟩:=hs.1.sim.obj _ _ hl
 obtain ⟨news,hrow2,r6,r7,r5⟩:=hs.1.sim.obj _ _ hl2
 have hown:=hrow.owns
 obtain ⟨v',w',r1,r2,r3,r4⟩:=qsY (ty:=o.type) ht hA 0 (ι (.l i)) es.length vs hown (Nat.zero_le _) hrow2 r6 c3
 have hG:Grow w w' (Old L ι (.l i)):=qbe r3 (fun b hb=>⟨_,hl,by rw [qbu (b:=b) (qau hown)];exact hb⟩)
 have hb:∀ b,blk v'=some b→w.heap.size≤b∨Old L ι (.l i) b:=by
  intro b hb
  rw [qbu (b:=b) (qau r2)] at hb
  rcases r4 with r4|r4
  ·exact .inr ⟨_,hl,by rw [qbu (b:=b) (qau hown),← r4];exact hb⟩
  ·rw [r4] at hb;cases hb;exact .inl (zL _)
 generalize hao:AO.rowv (es.map (·.map (·.kill (.l i)))++es2.map (·.map (·.kill (.l i)))) e z=ao
 have hk:=qa6 (X:=B.X) (ao:=ao) (fun b hb=>hs.1.x_lt hb) hG hb
 have hvl:vs.length=es.flatten.length:=by rw [qh1 es e6];exact hrow.1
 have hobj:ObjOk w' (fun b=>Own (Zav L (.l i) ao) (updI ι (.l i) v') b∨B.X b) (updI ι (.l i) v') (.l i) ao:=by
  subst hao
  refine ⟨vs++news,by simpa [updI] using RowOk.of_owns r2,?_,?_,fun j x hx=>?_⟩
  ·intro u hu;simp only [zp] at hu;exact hu.elim (e4 u) (r6 u)
  ·intro y hy
   simp only [zp] at hy
   rcases hy with hy|hy
   ·obtain ⟨y0,h0,rfl⟩:=zE.1 hy;simpa using e6 y0 h0
   ·obtain ⟨y0,h0,rfl⟩:=zE.1 hy;simpa using r7 y0 h0
  ·rw [List.flatten_append,← List.map_flatten,← List.map_flatten,List.getElem?_append] at hx
   rw [zN] at hx
   split at hx
   ·rename_i hj
    rw [zy,zh] at hx
    obtain ⟨y,hy,rfl⟩:=hx
    obtain ⟨u,hu,hr⟩:=e5 j y hy
    refine ⟨u,by rw [List.getElem?_append_left (by omega)];exact hu,?_⟩
    exact (hr.kill (k:=.l i) (v:=v')).mono hk
   ·rename_i hj
    rw [zy,zh] at hx
    obtain ⟨y,hy,rfl⟩:=hx
    obtain ⟨u,hu,hr⟩:=r5 _ y hy
    refine ⟨u,by rw [List.getElem?_append_right (by omega),hvl];exact hu,?_⟩
    exact (hr.kill (k:=.l i) (v:=v')).mono hk
 have h1:=hs.upd i v' ao hG hb hobj
 refine ⟨v',.value v',w',_,?_,.inl rfl,h1.1,?_,by rw [Act.put_defers'];exact h1.2.2⟩
 ·rw [qay _ _ _ a ho]
  simp only [builtin,Sem.run_bind,List.map_toArray,zx,List.map_nil,hv.1,hu.1]
  rw [r1]
  rfl
 ·rw [hd]
  exact h1.2.1.put d ⟨by simp [updI],qau r2⟩
end
section
variable {P:Program} {L:Objs} {fr:List AV} {o:Oper} {w:World} {U:Nat→Prop} {ι:Key→Value}
theorem qor (a b:List UInt8):((⟨a.toArray⟩:ByteArray) == ⟨b.toArray⟩)=decide (b=a):=by
 rw [Bool.eq_iff_iff,MapKept.bytes_beq,decide_eq_true_iff]
 constructor
 ·intro h
  have:a.toArray=b.toArray:=congrArg ByteArray.data h
  have:a=b:=by simpa using congrArg Array.toList this
  exact this.symm
 ·rintro rfl;rfl
set_option maxHeartbeats 2000000 in
theorem qjj {α:Type} (s:List UInt8) (v:α):∀ (kv:List (List UInt8×α)) (ents:List MapEntry) (i:Nat),(ents.map (·.key)=kv.map fun p=>.string ⟨p.1.toArray⟩)→
  (mpF kv s=none∧Instr.findNow .string (.string ⟨s.toArray⟩) ents i=some none∧mpS kv s v=kv++[(s,v)]∧mpX kv s=kv∧∀ e∈ents,e.key≠.string ⟨s.toArray⟩)∨
  ∃ j e x,mpF kv s=some x∧Instr.findNow .string (.string ⟨s.toArray⟩) ents i=some (some (i+j,e.val))∧ents[j]?=some e∧kv[j]?=some (s,x)∧e.key=.string ⟨s.toArray⟩∧mpS kv s v=kv.set j (s,v)∧mpX kv s=kv.eraseIdx j
 |[],ents,i,h=>by
  have:ents=[]:=by simpa using h
  subst this
  exact .inl ⟨rfl,rfl,rfl,rfl,by simp⟩
 |p :: r,[],i,h=>by simp at h
 |p :: r,e :: es,i,h=>by
  simp only [zx,List.cons.injEq] at h
  obtain ⟨h1,h2⟩:=h
  have hs:Instr.sameNow .string (.string ⟨s.toArray⟩) e.key=some (decide (p.1=s)):=by rw [h1];simp only [Instr.sameNow,qor]
  by_cases hp:p.1=s
  ·refine .inr ⟨0,e,p.2,by simp [mpF,hp],?_,rfl,by simp [← hp],by rw [h1,hp],by simp [mpS,hp],by simp [mpX,hp]⟩
   simp [Instr.findNow,hs,hp]
  ·have hf:Instr.findNow .string (.string ⟨s.toArray⟩) (e :: es) i=Instr.findNow .string (.string ⟨s.toArray⟩) es (i+1):=by simp [Instr.findNow,hs,hp]
   rcases qjj s v r es (i+1) h2 with ⟨g1,g2,g3,g4,g5⟩|⟨j,e',x,g1,g2,g3,g4,g5,g6,g7⟩
   ·refine .inl ⟨by simp [mpF,hp,g1],by rw [hf,g2],by simp [mpS,hp,g3],by simp [mpX,hp,g4],fun q hq=>?_⟩
    rcases zG.1 hq with rfl|hq
    ·rw [h1];intro e';apply hp;simpa using e'
    ·exact g5 q hq
   ·exact .inr ⟨j+1,e',x,by simp [mpF,hp,g1],by rw [hf,g2,show i+1+j=i+(j+1) from by omega],by simpa using g3,by simpa using g4,g5,by simp [mpS,hp,g6],by simp [mpX,hp,g7]⟩
theorem qgs {kt:TypeId} (hk:P.underlying kt=some .string) {x:Value} {ents:List MapEntry} {r:Option (Nat×Value)} (h:Instr.findNow .string x ents 0=some r):(Instr.findKey kt x ents).run P w=.ok r w:=by
 simp [Instr.findKey,run_underlying hk,h]
theorem qeh {kt:TypeId} (hk:P.underlying kt=some .string) (s:ByteArray) (e:Bool):(Instr.checkKey e 10000 kt (.string s)).run P w=.ok () w:=
 MapKept.run_checkKey hk (by simp [MapKept.IsKey]) e 9999
def qph (v:Value) (x:PV):Bool:=qtp v x || match v,x with
 |.agg vs,.agg cs=>qfH vs.toList cs
 |_,_=>false
theorem qej {v:Value} {x:PV} (h:qph v x=true) (w:World) (U:Nat→Prop):PRep w U x v:=by
 unfold qph at h
 rcases Bool.or_eq_true_iff.1 h with h|h
 ·exact (qmY h w U).1
 ·split at h
  ·exact ⟨_,by simp,(qcg h w U).1⟩
  ·cases h
def qkl (P:Program) (t:TypeId) (z:PV):Bool:=
 match (P.info? t).bind (·.zero) with
 |some v=>qph v z
 |none=>false
theorem qfA {t:TypeId} {z:PV} (h:qkl P t z=true) (w:World):∃ v,(zeroValue t).run P w=.ok v w∧qph v z=true:=by
 unfold qkl at h
 split at h
 ·rename_i z hz
  obtain ⟨i,h1,h2⟩:=Option.bind_eq_some_iff.1 hz
  exact ⟨z,by simp [zeroValue,typeInfo,h1,h2],h⟩
 ·cases h
theorem qit {a:Act} {t kt et:TypeId} {m x:Operand} {ok:Bool} (ho:o.op=.lookup t m x ok) (ht:P.underlying t=some (.map kt et)) (hk:P.underlying kt=some .string) {s:List UInt8} (rx:a.eval x=.string ⟨s.toArray⟩) {b:Nat} (rm:a.eval m=.map (some b)) {ents:Array MapEntry} {cl:Nat} (e2:w.heap[b]?=some (.map ents cl))
  {α:Type} {kv:List (List UInt8×α)} (e3:ents.toList.map (·.key)=kv.map fun p=>.string ⟨p.1.toArray⟩) (R:α→Value→Prop) (hR:∀ (j:Nat) (p:List UInt8×α),kv[j]?=some p→∃ e,ents.toList[j]?=some e∧R p.2 e.val) {z:α} {zv:Value} (hz:(zeroValue et).run P w=.ok zv w) (hzr:R z zv) :
  ∃ v,(execOp a.eval o).run P w=.ok (.value (if ok then .tuple #[v,.bool (mpF kv s).isSome] else v)) w∧R ((mpF kv s).getD z) v:=by
 rcases qjj s z kv ents.toList 0 e3 with ⟨g1,g2,_⟩|⟨j,e,y,g1,g2,g3,g4,_,_⟩
 ·refine ⟨zv,?_,by rw [g1];exact hzr⟩
  simp [execOp,ho,rm,rx,Instr.lookup,run_underlying ht,MapKept.run_getObj_map e2,qeh hk,qgs hk g2,hz,g1]
 ·obtain ⟨e',he',hr⟩:=hR j _ g4
  rw [g3] at he'
  cases he'
  refine ⟨e.val,?_,by rw [g1];exact hr⟩
  simp [execOp,ho,rm,rx,Instr.lookup,run_underlying ht,MapKept.run_getObj_map e2,qeh hk,qgs hk g2,g1]
theorem MapRep.get {κ:KK} {kv:List (List UInt8×PV)} {ents:List MapEntry} (h:MapRep κ w U kv ents):∀ (j:Nat) (p:List UInt8×PV),kv[j]?=some p→∃ e,ents[j]?=some e∧PRep w U p.2 e.val:=by
 intro j p hp
 obtain ⟨u,hu,hr⟩:=h.2.1.get (j:=j) (x:=p.2) (by rw [zy,hp];rfl)
 rw [zy,zh] at hu
 obtain ⟨e,he,rfl⟩:=hu
 exact ⟨e,he,hr⟩
theorem qom {κ:KK} {ks:List (List UInt8)} {vs:List PV} {ents:Array MapEntry} {cl:Nat} (h:qyo κ ks ents cl) (hv:PRepL w U vs (ents.toList.map (·.val))):MapRep κ w U (ks.zip vs) ents.toList:=by
 have h1:ents.toList.length=ks.length:=by have:=congrArg List.length h.1;simpa using this
 have h2:ents.toList.length=vs.length:=by have:=hv.length;simpa using this
 refine ⟨?_,by rw [List.map_snd_zip (by omega)];exact hv,fun p hp=>h.2.2 _ (List.of_mem_zip hp).1⟩
 have:((ks.zip vs).map fun p=>(kyV κ p.1))=((ks.zip vs).map (·.1)).map (kyV κ):=by rw [List.map_map];rfl
 rw [this,List.map_fst_zip (by omega)]
 exact h.1
theorem qlv {ok:Bool} {x:PV} {v:Value} {b:Bool} (h:PRep w U x v):PRep w U (if ok then .tup [x,.bool b] else x) (if ok then .tuple #[v,.bool b] else v):=by
 cases ok
 ·exact h
 ·exact ⟨[v,.bool b],rfl,v,_,rfl,h,_,_,rfl,rfl,rfl⟩
set_option maxHeartbeats 2000000 in
theorem qvl {t kt et:TypeId} {m x:Operand} {ok:Bool} {zero:PV} {m' x':Opd} (ho:o.op=.lookup t m x ok) (ht:P.underlying t=some (.map kt et)) (hk:P.underlying kt=some .string) (hz:qkl P et zero=true) (hm:qaf m m'=true) (hx:qaf x x'=true) {c:Prop} {r:AV}
  (h:Zf fr L (.mpl ok zero m' x')=some (c,r)):Val1 P o fr L c r:=by
 simp only [Zf] at h
 split at h
 ·rename_i cm q cx s em ex
  split at h
  ·rename_i kv kt0 et0 hl
   simp only [zg,zj] at h
   obtain ⟨rfl,rfl⟩:=h
   refine Val1.same fun E B w ι a hs ⟨h1,h2⟩=>?_
   obtain ⟨rm,_⟩:a.eval m=ι q∧_:=rdP hs.2.1 hm em h1
   have rx:=PRep.str_eq (rdP hs.2.1 hx ex h2)
   obtain ⟨b,ents,cl,e1,e2,e3,_⟩:=hs.1.sim.obj _ _ hl
   rw [e1] at rm
   obtain ⟨zv,hz1,hz2⟩:=qfA hz w
   have hzr:=qej hz2 w (fun b=>Own L ι b∨B.X b)
   obtain ⟨v,k1,k2⟩:=qit ho ht hk rx rm e2 e3.1 (PRep w (fun b=>Own L ι b∨B.X b)) e3.get hz1 hzr
   exact ⟨_,k1,qlv k2⟩
  ·rename_i kv kt0 et0 hl
   split at h
   ·rename_i hok
    subst hok
    simp only [zg,zj] at h
    obtain ⟨rfl,rfl⟩:=h
    refine Val1.same fun E B w ι a hs ⟨h1,h2⟩=>?_
    obtain ⟨rm,_⟩:a.eval m=ι q∧_:=rdP hs.2.1 hm em h1
    have rx:=PRep.str_eq (rdP hs.2.1 hx ex h2)
    obtain ⟨b,ents,cl,e1,e2,e3,_,e5⟩:=hs.1.sim.obj _ _ hl
    rw [e1] at rm
    obtain ⟨zv,hz1,hz2⟩:=qfA hz w
    have hzr:=qej hz2 w (fun b=>Own L ι b∨B.X b)
    obtain ⟨v,k1,k2⟩:=qit ho ht hk rx rm e2 e3 (ARep w (fun b=>Own L ι b∨B.X b) ι) e5 (z:=.p zero) hz1 hzr
    exact ⟨_,k1,k2⟩
   ·cases h
  ·cases h
 ·rename_i cm ks vs cx s em ex
  simp only [zg,zj] at h
  obtain ⟨rfl,rfl⟩:=h
  refine Val1.same fun E B w ι a hs ⟨h1,h2⟩=>?_
  obtain ⟨b,rm,_,_,ents,cl,e2,e3,e4⟩:PRep w (fun b=>Own L ι b∨B.X b) (.mpv ks vs) (a.eval m):=rdP hs.2.1 hm em h1
  have rx:=PRep.str_eq (rdP hs.2.1 hx ex h2)
  obtain ⟨zv,hz1,hz2⟩:=qfA hz w
  have hzr:=qej hz2 w (fun b=>Own L ι b∨B.X b)
  have hr:=qom e3 e4
  obtain ⟨v,k1,k2⟩:=qit ho ht hk rx rm e2 hr.1 (PRep w (fun b=>Own L ι b∨B.X b)) hr.get hz1 hzr
  exact ⟨_,k1,qlv k2⟩
 ·cases h
theorem qvk {t kt et:TypeId} {x:Operand} {x':Opd} (ho:o.op=.call { callee:=.builtin .len,args:=#[x],argTypes:=#[t] }) (ht:P.underlying t=some (.map kt et)) (hx:qaf x x'=true) {c:Prop} {r:AV}
  (h:Zf fr L (.mpn x')=some (c,r)):Val1 P o fr L c r:=by
 have key:∀ (w:World) (a:Act) (b:Nat) (ents:Array MapEntry) (cl n:Nat),a.eval x=.map (some b)→w.heap[b]?=some (.map ents cl)→ents.size=n→(execOp a.eval o).run P w=.ok (.value (.int .i64 n)) w:=by
  intro w a b ents cl n rm e2 hlen
  rw [qay _ _ _ a ho]
  simp [builtin,Builtin.len_,run_underlying ht,rm,goInt,MapKept.run_getObj_map e2,hlen]
 simp only [Zf] at h
 split at h
 ·rename_i cm q em
  split at h
  ·rename_i kv kt0 et0 hl
   simp only [zg,zj] at h
   obtain ⟨rfl,rfl⟩:=h
   refine Val1.same fun E B w ι a hs h1=>⟨.int .i64 kv.length,?_,rfl⟩
   obtain ⟨rm,_⟩:a.eval x=ι q∧_:=rdP hs.2.1 hx em h1
   obtain ⟨b,ents,cl,e1,e2,e3,_⟩:=hs.1.sim.obj _ _ hl
   rw [e1] at rm
   exact key w a b ents cl _ rm e2 (by have:=congrArg List.length e3.1;simpa using this)
  ·cases h
 ·rename_i cm ks vs em
  simp only [zg,zj] at h
  obtain ⟨rfl,rfl⟩:=h
  refine Val1.same fun E B w ι a hs h1=>⟨.int .i64 ks.length,?_,rfl⟩
  obtain ⟨b,rm,_,_,ents,cl,e2,e3,e4⟩:PRep w (fun b=>Own L ι b∨B.X b) (.mpv ks vs) (a.eval x):=rdP hs.2.1 hx em h1
  exact key w a b ents cl _ rm e2 (by have:=congrArg List.length e3.1;simpa using this)
 ·cases h
theorem qvy {x:Operand} {x':Opd} (ho:o.op=.entry x) (hx:qaf x x'=true) {c:Prop} {r:AV} (h:Zf fr L (.ent x')=some (c,r)):Val1 P o fr L c r:=by
 simp only [Zf] at h
 split at h
 ·rename_i cm q em
  split at h
  ·rename_i p kv hl
   simp only [zg,zj] at h
   obtain ⟨rfl,rfl⟩:=h
   refine Val1.same fun E B w ι a hs h1=>?_
   obtain ⟨b0,q1,q2⟩:∃ b,ι q=.pointer (some ⟨b,0,none⟩)∧a.eval x=.pointer (some ⟨b,0,none⟩):=rdP hs.2.1 hx em h1
   obtain ⟨r,b,seen,ents,cl,e1,e2,e3,e4,e5,e6,e7,e8⟩:=hs.1.sim.obj _ _ hl
   rw [e1] at q1
   cases q1
   obtain ⟨e,he,⟨seen',rfl⟩,hk,hr⟩:=e8 p rfl
   refine ⟨.tuple #[e.key,e.val],?_,[e.key,e.val],rfl,_,_,rfl,?_,_,_,rfl,hr,rfl⟩
   ·simp only [execOp,ho,q2,Sem.run_bind,run_entry_at w _ b cl seen' ents cl e e2 e5 he e6.2.1]
    rfl
   ·rw [hk];rfl
  ·cases h
 ·cases h
theorem qwu {t:TypeId} {d:Nat} {kt et:TypeId} (ho:o.op=.makeMap t none) (hd:o.dst=some d):Eff1 P o fr L True ((fr.map (·.kill (.l d))).set d (.mp (.l d))) (Zav L (.l d) (.map [] kt et)):=by
 intro E B w ι a hs _
 refine qc4 hd hs (v:=.map (some w.heap.size)) (w':=w.alloc (.map #[] 0)) ?_ (.map (some w.heap.size)) (qbo _ _ _) (fun b e=>by simp only [blk,zg] at e;omega) ⟨w.heap.size,#[],0,by simp [updI],heap_alloc_new w _,⟨by simp,by simp [PRepL]⟩,MapKept.stamped_empty 0⟩ ?_
 ·simp [execOp,ho,Instr.makeMap,newObj]
  rfl
 ·simp [ARep,updI]
theorem qhZ {b:Nat} {ob:Obj} {q:Key} {ao:AO} (hl:Zas L q=some ao) (hb:blk (ι q)=some b):Grow w { w with heap:=w.heap.setIfInBounds b ob } (Old L ι q):=by
 refine ⟨rfl,rfl,rfl,by simp,fun c hc hn=>?_⟩
 have hne:b≠c:=fun e=>hn ⟨_,hl,by rw [← e];exact hb⟩
 simp [zO hne]
theorem qiq {q:Key} {ao ao':AO} (hl:Zas L q=some ao):∀ c,Own (Zat L q ao') ι c→Own L ι c:=by
 rintro c ⟨j,x,k1,k2⟩
 rw [qag] at k1
 by_cases e:j=q
 ·subst e;exact ⟨j,_,hl,k2⟩
 ·rw [if_neg e] at k1;exact ⟨j,x,k1,k2⟩
theorem qgw {ents:Array MapEntry} {j:Nat} {e:MapEntry} (hj:ents[j]?=some e) (k v:Value):(ents.modify j (fun e'=>{ e' with key:=k,val:=v })).toList=ents.toList.set j { e with key:=k,val:=v }:=by
 have hjl:j < ents.toList.length:=by simpa using (zw.1 hj).1
 rw [Array.toList_modify]
 apply List.ext_getElem?
 intro i
 rw [List.getElem?_modify,List.getElem?_set]
 by_cases hi:j=i
 ·subst hi
  simp [hj,hjl]
  exact (zw.1 hj).1
 ·simp [hi]
set_option maxHeartbeats 2000000 in
theorem qrs {a:Act} {t kt et:TypeId} {m x v:Operand} (ho:o.op=.mapUpdate t m x v∨o.op=.insert t m x v) (ht:P.underlying t=some (.map kt et)) (hk:P.underlying kt=some .string) {s:List UInt8} (rx:a.eval x=.string ⟨s.toArray⟩) {b:Nat} (rm:a.eval m=.map (some b)) {ents:Array MapEntry} {cl:Nat} (e2:w.heap[b]?=some (.map ents cl)) (hst:MapKept.Stamped ents cl)
  {α:Type} {kv:List (List UInt8×α)} (e3:ents.toList.map (·.key)=kv.map fun p=>.string ⟨p.1.toArray⟩) (R:α→Value→Prop) (hR:∀ (j:Nat) (p:List UInt8×α),kv[j]?=some p→∃ e,ents.toList[j]?=some e∧R p.2 e.val) {y:α} (hy:R y (a.eval v)) :
  ∃ ents' cl',(execOp a.eval o).run P w=.ok .skip { w with heap:=w.heap.setIfInBounds b (.map ents' cl') }∧MapKept.Stamped ents' cl'∧(ents'.toList.map (·.key)=(mpS kv s y).map fun p=>.string ⟨p.1.toArray⟩)∧∀ (j:Nat) (p:List UInt8×α),(mpS kv s y)[j]?=some p→∃ e,ents'.toList[j]?=some e∧R p.2 e.val:=by
 have hlen:ents.toList.length=kv.length:=by have:=congrArg List.length e3;simpa using this
 rcases qjj s y kv ents.toList 0 e3 with ⟨g1,g2,g3,_,g5⟩|⟨j,e,y0,g1,g2,g3,g4,g5,g6,_⟩
 ·refine ⟨ents.push ⟨.string ⟨s.toArray⟩,a.eval v,cl⟩,cl+1,?_,MapKept.stamped_push hst (fun x hx=>g5 x hx),?_,?_⟩
  ·rcases ho with ho|ho<;>simp [execOp,ho,rm,rx,Instr.mapUpdate,run_underlying ht,MapKept.run_getObj_map e2,qeh hk,qgs hk g2,MapKept.run_setObj_map _ e2]
  ·rw [g3];simp [e3]
  ·rw [g3]
   intro j p hp
   rw [Array.toList_push]
   rw [List.getElem?_append] at hp
   split at hp
   ·obtain ⟨e,he,hr⟩:=hR j p hp
    exact ⟨e,by rw [List.getElem?_append_left (by omega)];exact he,hr⟩
   ·rename_i hj
    have hz:j - kv.length=0:=by
     rcases Nat.eq_zero_or_pos (j - kv.length) with h|h
     ·exact h
     ·rw [zR (by simp;omega)] at hp;cases hp
    rw [hz] at hp
    simp at hp
    subst hp
    refine ⟨_,by rw [List.getElem?_append_right (by omega),hlen,hz];rfl,hy⟩
 ·have hj:ents[j]?=some e:=by simpa using g3
  have hjl:j < ents.toList.length:=(zo.1 g3).1
  refine ⟨ents.modify j (fun e'=>{ e' with key:=.string ⟨s.toArray⟩,val:=a.eval v }),cl,?_,MapKept.stamped_modify hst _ _ (fun _ _=>rfl) (fun e' _ he'=>by rw [hj] at he';cases he';exact g5.symm),?_,?_⟩
  ·have hst:(Instr.keyThatStays (.string ⟨s.toArray⟩) (.string ⟨s.toArray⟩)).run P w=.ok (.string ⟨s.toArray⟩) w:=by simp [Instr.keyThatStays,Instr.sameBits,qor]
   rcases ho with ho|ho<;>simp [execOp,ho,rm,rx,Instr.mapUpdate,run_underlying ht,MapKept.run_getObj_map e2,qeh hk,qgs hk g2,hj,g5,hst,MapKept.run_setObj_map _ e2]
  ·rw [qgw hj,g6,List.map_set,List.map_set,e3]
  ·rw [qgw hj,g6]
   intro i p hp
   rw [List.getElem?_set] at hp
   rw [List.getElem?_set]
   split at hp
   ·rename_i hi
    subst hi
    split at hp
    ·cases hp
     refine ⟨{ e with key:=.string ⟨s.toArray⟩,val:=a.eval v },?_,hy⟩
     rw [if_pos rfl,if_pos hjl]
    ·cases hp
   ·rename_i hi
    rw [if_neg hi]
    exact hR i p hp
set_option maxHeartbeats 2000000 in
theorem qrV {t kt et:TypeId} {m x v:Operand} {m' x' v':Opd} (ho:o.op=.mapUpdate t m x v∨o.op=.insert t m x v) (hd:o.dst=none) (ht:P.underlying t=some (.map kt et)) (hk:P.underlying kt=some .string) (hm:qaf m m'=true) (hx:qaf x x'=true) (hv:qaf v v'=true)
  {cm cx cv:Prop} {q:Key} {s:List UInt8} {y:PV} {kv:List (List UInt8×PV)} {kt0 et0:TypeId} (em:(rd fr m').un=(cm,.mp q)) (ex:(rd fr x').un=(cx,.p (.str s))) (ev:(rd fr v').un=(cv,.p y)) (hl:Zas L q=some (.map kv kt0 et0)) :
  Eff1 P o fr L (cm∧cx∧cv) fr (Zat L q (.map (mpS kv s y) kt0 et0)):=by
 intro E B w ι a hs ⟨h1,h2,h3⟩
 obtain ⟨rm,_⟩:a.eval m=ι q∧_:=rdP hs.2.1 hm em h1
 have rx:=PRep.str_eq (rdP hs.2.1 hx ex h2)
 have rv:PRep w (fun b=>Own L ι b∨B.X b) y (a.eval v):=rdP hs.2.1 hv ev h3
 obtain ⟨b,ents,cl,e1,e2,e3,e4⟩:=hs.1.sim.obj _ _ hl
 rw [e1] at rm
 have hb:b < w.heap.size:=(zw.1 e2).1
 obtain ⟨ents',cl',hrun,k1,k2,k3⟩:=qrs ho ht hk rx rm e2 e4 e3.1 (PRep w (fun b=>Own L ι b∨B.X b)) e3.get rv
 have hG:Grow w { w with heap:=w.heap.setIfInBounds b (.map ents' cl') } (Old L ι q):=qhZ hl (by rw [e1];rfl)
 have hkp:Keeps w { w with heap:=w.heap.setIfInBounds b (.map ents' cl') } (fun c=>Own L ι c∨B.X c) (fun c=>Own (Zat L q (.map (mpS kv s y) kt0 et0)) ι c∨B.X c):=fun c hc hu=>⟨hG.block c hc (fun h=>hu (.inl h.own)),fun h=>hu (h.imp (qiq hl c) id)⟩
 have hlen:ents'.toList.length=(mpS kv s y).length:=by have:=congrArg List.length k2;simpa using this
 have hwr:=hs.wr q (.map kv kt0 et0) (.map (mpS kv s y) kt0 et0) hl hG ⟨b,ents',cl',e1,by simp [hb],⟨k2,PRepL.of_get (by simpa using hlen) (fun j z u hz hu=>by
  rw [zy,zh] at hz hu
  obtain ⟨p,hp,rfl⟩:=hz
  obtain ⟨e,he,rfl⟩:=hu
  obtain ⟨e',he',hr⟩:=k3 j p hp
  rw [he'] at he
  cases he
  exact PRep.mono hkp _ _ hr),fun _ _=>trivial⟩,k1⟩
 exact ⟨undef,.skip,_,ι,hrun,.inr ⟨rfl,rfl⟩,by rw [hd];exact hwr⟩
set_option maxHeartbeats 2000000 in
theorem qjk {t kt et:TypeId} {m x v:Operand} {m' x' v':Opd} (ho:o.op=.mapUpdate t m x v∨o.op=.insert t m x v) (hd:o.dst=none) (ht:P.underlying t=some (.map kt et)) (hk:P.underlying kt=some .string) (hm:qaf m m'=true) (hx:qaf x x'=true) (hv:qaf v v'=true)
  {cm cx cv:Prop} {q:Key} {s:List UInt8} {y:AV} {kv:List (List UInt8×AV)} {kt0 et0:TypeId} (em:(rd fr m').un=(cm,.mp q)) (ex:(rd fr x').un=(cx,.p (.str s))) (ev:(rd fr v').un=(cv,y)) (hl:Zas L q=some (.mapv kv kt0 et0)) :
  Eff1 P o fr L (cm∧cx∧cv) fr (Zat L q (.mapv (mpS kv s y) kt0 et0)):=by
 intro E B w ι a hs ⟨h1,h2,h3⟩
 obtain ⟨rm,_⟩:a.eval m=ι q∧_:=rdP hs.2.1 hm em h1
 have rx:=PRep.str_eq (rdP hs.2.1 hx ex h2)
 have rv:ARep w (fun b=>Own L ι b∨B.X b) ι y (a.eval v):=rdP hs.2.1 hv ev h3
 obtain ⟨b,ents,cl,e1,e2,e3,e4,e5⟩:=hs.1.sim.obj _ _ hl
 rw [e1] at rm
 have hb:b < w.heap.size:=(zw.1 e2).1
 obtain ⟨ents',cl',hrun,k1,k2,k3⟩:=qrs ho ht hk rx rm e2 e4 e3 (ARep w (fun b=>Own L ι b∨B.X b) ι) e5 rv
 have hG:Grow w { w with heap:=w.heap.setIfInBounds b (.map ents' cl') } (Old L ι q):=qhZ hl (by rw [e1];rfl)
 have hkp:Keeps w { w with heap:=w.heap.setIfInBounds b (.map ents' cl') } (fun c=>Own L ι c∨B.X c) (fun c=>Own (Zat L q (.mapv (mpS kv s y) kt0 et0)) ι c∨B.X c):=fun c hc hu=>⟨hG.block c hc (fun h=>hu (.inl h.own)),fun h=>hu (h.imp (qiq hl c) id)⟩
 have hwr:=hs.wr q (.mapv kv kt0 et0) (.mapv (mpS kv s y) kt0 et0) hl hG ⟨b,ents',cl',e1,by simp [hb],k2,k1,fun j p hp=>by
  obtain ⟨e',he',hr⟩:=k3 j p hp
  exact ⟨e',he',hr.mono hkp⟩⟩
 exact ⟨undef,.skip,_,ι,hrun,.inr ⟨rfl,rfl⟩,by rw [hd];exact hwr⟩
theorem PRepL.eraseIdx {cs:List PV} {vs:List Value} (h:PRepL w U cs vs) (i:Nat):PRepL w U (cs.eraseIdx i) (vs.eraseIdx i):=by
 have hl:=h.length
 refine PRepL.of_get (by simp [List.length_eraseIdx,hl]) (fun j x v hx hv=>?_)
 rw [List.getElem?_eraseIdx] at hx hv
 split at hx
 ·rename_i hj
  rw [if_pos hj] at hv
  obtain ⟨u,hu,hr⟩:=h.get hx
  rw [hu] at hv;cases hv;exact hr
 ·rename_i hj
  rw [if_neg hj] at hv
  obtain ⟨u,hu,hr⟩:=h.get hx
  rw [hu] at hv;cases hv;exact hr
theorem MapRep.eraseIdx {κ:KK} {kv:List (List UInt8×PV)} {ents:List MapEntry} (h:MapRep κ w U kv ents) (i:Nat):MapRep κ w U (kv.eraseIdx i) (ents.eraseIdx i):=by
 refine ⟨?_,?_,fun p hp=>h.2.2 p (List.mem_of_mem_eraseIdx hp)⟩
 ·rw [ChangeMaps.map_eraseIdx,ChangeMaps.map_eraseIdx,h.1]
 ·rw [ChangeMaps.map_eraseIdx,ChangeMaps.map_eraseIdx]
  exact h.2.1.eraseIdx i
theorem FRep.setD {a:Act} {U:Nat→Prop} (hf:FRep w U ι fr a) (d:Option Nat) {r:AV} {v:Value} (hr:ARep w U ι r v):FRep w U ι (Zg fr d r) (a.put d v):=by
 cases d with
 |none=>exact hf
 |some d=>exact hf.put d hr
set_option maxHeartbeats 2000000 in
theorem qws {t kt et:TypeId} {ts:Array TypeId} {m x:Operand} {m' x':Opd} (ho:o.op=.call { callee:=.builtin .delete,args:=#[m,x],argTypes:=ts }) (hts:ts[0]?=some t) (ht:P.underlying t=some (.map kt et)) (hk:P.underlying kt=some .string) (hm:qaf m m'=true) (hx:qaf x x'=true)
  {cm cx:Prop} {q:Key} {s:List UInt8} {kv:List (List UInt8×PV)} {kt0 et0:TypeId} (em:(rd fr m').un=(cm,.mp q)) (ex:(rd fr x').un=(cx,.p (.str s))) (hl:Zas L q=some (.map kv kt0 et0)) {d:Option Nat} (hd:o.dst=d) :
  Eff1 P o fr L (cm∧cx) (Zg fr d (.p (.tup []))) (Zat L q (.map (mpX kv s) kt0 et0)):=by
 intro E B w ι a hs ⟨h1,h2⟩
 obtain ⟨rm,_⟩:a.eval m=ι q∧_:=rdP hs.2.1 hm em h1
 have rx:=PRep.str_eq (rdP hs.2.1 hx ex h2)
 obtain ⟨b,ents,cl,e1,e2,e3,e4⟩:=hs.1.sim.obj _ _ hl
 rw [e1] at rm
 have hb:b < w.heap.size:=(zw.1 e2).1
 have key:∃ ents':Array MapEntry,(execOp a.eval o).run P w=.ok (.value (.tuple #[])) { w with heap:=w.heap.setIfInBounds b (.map ents' cl) }∧MapKept.Stamped ents' cl∧MapRep .str w (fun b=>Own L ι b∨B.X b) (mpX kv s) ents'.toList:=by
  rcases qjj s (.bool true) kv ents.toList 0 e3.1 with ⟨g1,g2,_,g4,_⟩|⟨j,e,y0,g1,g2,g3,g4,g5,_,g7⟩
  ·refine ⟨ents,?_,e4,by rw [g4];exact e3⟩
   rw [qay _ _ _ a ho]
   simp [builtin,Builtin.delete_,hts,rm,rx,run_underlying ht,MapKept.run_getObj_map e2,qeh hk,qgs hk g2,MapKept.run_setObj_map _ e2]
  ·refine ⟨ents.eraseIdxIfInBounds j,?_,MapKept.stamped_erase e4 j,?_⟩
   ·rw [qay _ _ _ a ho]
    simp [builtin,Builtin.delete_,hts,rm,rx,run_underlying ht,MapKept.run_getObj_map e2,qeh hk,qgs hk g2,MapKept.run_setObj_map _ e2]
   ·rw [g7,Array.toList_eraseIdxIfInBounds]
    exact e3.eraseIdx j
 obtain ⟨ents',hrun,k1,k2⟩:=key
 have hG:Grow w { w with heap:=w.heap.setIfInBounds b (.map ents' cl) } (Old L ι q):=qhZ hl (by rw [e1];rfl)
 have hkp:Keeps w { w with heap:=w.heap.setIfInBounds b (.map ents' cl) } (fun c=>Own L ι c∨B.X c) (fun c=>Own (Zat L q (.map (mpX kv s) kt0 et0)) ι c∨B.X c):=fun c hc hu=>⟨hG.block c hc (fun h=>hu (.inl h.own)),fun h=>hu (h.imp (qiq hl c) id)⟩
 have hwr:=hs.wr q (.map kv kt0 et0) (.map (mpX kv s) kt0 et0) hl hG ⟨b,ents',cl,e1,by simp [hb],⟨k2.1,PRepL.mono hkp _ _ k2.2.1,k2.2.2⟩,k1⟩
 exact ⟨.tuple #[],.value (.tuple #[]),_,ι,hrun,.inl rfl,hwr.1,by rw [hd];exact hwr.2.1.setD d (r:=.p (.tup [])) ⟨[],rfl,rfl⟩,by rw [Act.put_defers'];exact hwr.2.2⟩
theorem qjv:∀ (us p q:List Value),us.length≤q.length→qam (p++q) p.length us=p++us++q.drop us.length
 |[],p,q,h=>by simp [qam]
 |u :: r,p,[],h=>by simp at h
 |u :: r,p,x :: q,h=>by
  simp only [zl] at h
  have:=qjv r (p++[u]) q (by omega)
  simp only [zm,zl,zr,Nat.zero_add,List.append_assoc,List.cons_append,zU] at this
  rw [qam,List.set_append_right _ _ (zL _),Nat.sub_self,List.set_cons_zero,this]
  simp
theorem qmF (us vs:List Value) (h:us.length≤vs.length):qam vs 0 us=us++vs.drop us.length:=by simpa using qjv us [] vs h
theorem qrX {z:Nat}:∀ (es:List (List PV)) (m:Nat),(∀ x∈es,x.length=z)→m≤es.length→(es.drop m).flatten=es.flatten.drop (m * z):=by
 intro es m
 induction m generalizing es with
 |zero=>simp
 |succ m ih=>
  intro e6 hml
  cases es with
  |nil=>simp
  |cons y r=>
   have hy:y.length=z:=e6 y (by simp)
   rw [List.drop_succ_cons,zH,ih r (fun u hu=>e6 u (by simp [hu])) (by simp at hml;omega),yi,Nat.one_mul,List.drop_append,List.drop_of_length_le (l:=y) (by omega),zU]
   congr 1
   omega
set_option maxHeartbeats 2000000 in
theorem qww {t e z:Nat} {ts:Array TypeId} {px py:Operand} {x' y':Opd} (ho:o.op=.call { callee:=.builtin .copy,args:=#[px,py],argTypes:=ts }) (hts:ts[0]?=some t) (ht:P.underlying t=some (.slice e)) (hsz:qa7 P e z=true) (hx:qaf px x'=true) (hy:qaf py y'=true)
  {cx cy:Prop} {q:Key} {u:AV} (ex:(rd fr x').un=(cx,.row q)) (ey:(rd fr y').un=(cy,u)) {es es2:List (List PV)} {et:TypeId} {ap:Bool} (hl:Zas L q=some (.row es et z ap)) (e2:Zw L u=some (z,es2)) {d:Option Nat} (hd:o.dst=d) :
  Eff1 P o fr L (cx∧cy) (Zg fr d (.p (.int .i64 (min es2.length es.length:Nat)))) (Zat L q (.row (es2.take es.length++es.drop es2.length) et z ap)):=by
 intro E B w ι a hs ⟨h1,h2⟩
 obtain ⟨rx,A0,n0,c0,rx'⟩:a.eval px=ι q∧∃ A n c,a.eval px=.slice A n c:=rdP hs.2.1 hx ex h1
 have ru:=rdP hs.2.1 hy ey h2
 obtain ⟨A,c,news,ev,g1,g2,g3,g4⟩:=qo5 hs e2 ru
 obtain ⟨vs,hrow,e4,e5,e6⟩:=hs.1.sim.obj q _ hl
 have hnl:news.length=es2.length * z:=by rw [g1.length,qlM es2 g3]
 have hvl:vs.length=es.length * z:=hrow.1
 have htk:es2.take es.length=es2.take (min es2.length es.length):=by
  rcases Nat.le_total es2.length es.length with h|h
  ·rw [Nat.min_eq_left h,zJ h,zJ (zL _)]
  ·rw [Nat.min_eq_right h]
 have hdr:es.drop es2.length=es.drop (min es2.length es.length):=by
  rcases Nat.le_total es2.length es.length with h|h
  ·rw [Nat.min_eq_left h]
  ·rw [Nat.min_eq_right h,List.drop_of_length_le h,List.drop_of_length_le (zL _)]
 have hm1:min es2.length es.length≤es2.length:=Nat.min_le_left _ _
 have hm2:min es2.length es.length≤es.length:=Nat.min_le_right _ _
 have hln:(es2.take es.length++es.drop es2.length).length=es.length:=by
  rw [htk,hdr,zm,yd,List.length_drop];omega
 have hres:PRepL w (fun b=>Own L ι b∨B.X b) (es2.take es.length++es.drop es2.length).flatten (qam vs 0 (news.take (min es2.length es.length * z))):=by
  have hmz1:min es2.length es.length * z≤es2.length * z:=zP _ hm1
  have hmz2:min es2.length es.length * z≤es.length * z:=zP _ hm2
  have hlt:(news.take (min es2.length es.length * z)).length=min es2.length es.length * z:=by rw [yd];omega
  rw [qmF _ _ (by omega),hlt,List.flatten_append,htk,hdr,qmA es2 _ g3 hm1,qrX es _ e6 hm2]
  exact (g1.take _).append (e5.drop _)
 have hmem:∀ x∈es2.take es.length++es.drop es2.length,x.length=z:=by
  intro x hx
  simp only [zp] at hx
  exact hx.elim (fun h=>g3 x (ye h)) (fun h=>e6 x (List.mem_of_mem_drop h))
 have hone:∀ v∈qam vs 0 (news.take (min es2.length es.length * z)),v.oneCell'=true:=fun v hv=>by
  rcases qeL _ _ _ v hv with h|h
  ·exact e4 v h
  ·exact g2 v (ye h)
 generalize hN:min es2.length es.length=N at *
 have fin:∀ w',(execOp a.eval o).run P w=.ok (.value (.int .i64 (N:Nat))) w'→StF E B w' (Zat L q (.row (es2.take es.length++es.drop es2.length) et z ap)) ι fr a→∃ v nx w' ι',(execOp a.eval o).run P w=.ok nx w'∧(nx=.value v∨(nx=.skip∧v=undef))∧StF E B w' (Zat L q (.row (es2.take es.length++es.drop es2.length) et z ap)) ι' (Zg fr d (.p (.int .i64 (N:Nat)))) (a.put o.dst v):=by
  intro w' h hs'
  exact ⟨_,_,w',ι,h,.inl rfl,hs'.1,by rw [hd];exact hs'.2.1.setD d (r:=.p (.int .i64 (N:Nat))) rfl,by rw [Act.put_defers'];exact hs'.2.2⟩
 rcases hrow.2 with ⟨q1,q2⟩|⟨g,cap,cur,fz,q1,q2,q3,q4,q5,q6,q7⟩
 ·have hN0:N=0:=by omega
  have hvs:vs=[]:=zq (by rw [hvl,q2];omega)
  have hes:es=[]:=zq q2
  subst hN0
  refine fin w ?_ (hs.retell q _ _ hl fun U hO=>?_)
  ·rw [qay _ _ _ a ho]
   have:a.eval px=.slice none 0 0:=by rw [rx,q1]
   cases A<;>simp [builtin,Builtin.copy_,hts,this,ev,run_underlying ht,Builtin.lenOf,qaD hsz,Builtin.firstCells,loadCells,loadCellsFrom,goInt]
  ·subst hes
   simpa using hO
 ·have hb:g < w.heap.size:=(zw.1 q2).1
  have hOld:Old L ι q g:=⟨_,hl,by rw [q1];rfl⟩
  have hNz:N * z≤es.length * z:=zP _ hm2
  have hNz2:N * z≤es2.length * z:=zP _ hm1
  have hcz:es.length * z≤cap * z:=zP _ q3
  generalize hus:news.take (N * z)=us at *
  have hul:us.length=N * z:=by rw [← hus,yd];omega
  have hcur:cur.toList.length=cap * z:=by simpa using q5
  have hst:=qeg (P:=P) g 0 et fz us 0 cur.toList w (by rw [Array.toArray_toList];exact q2) (by omega) (by rcases q7 with h|h;exact .inl h;exact .inr (by simpa using h.2)) (fun v hv=>by rw [← hus] at hv;exact g2 v (ye hv))
  rw [Nat.add_zero] at hst
  have hfc:(Builtin.firstCells z N (.slice A es2.length c)).run P w=.ok us.toArray w:=by
   by_cases hne:es2=[]
   ·subst hne
    have hN0:N=0:=by simp at hN;omega
    have:us=[]:=zq (by rw [hul,hN0];omega)
    subst hN0;subst this
    cases A<;>simp [Builtin.firstCells,loadCells,loadCellsFrom]
   ·obtain ⟨ad,rfl,hcell⟩:=g4 hne
    refine run_firstCells_some w z N ad _ _ us (by rw [hul]) (fun j v hv=>?_)
    rw [← hus,yk] at hv
    split at hv
    ·exact hcell j v hv
    ·cases hv
  have hrun:(execOp a.eval o).run P w=.ok (.value (.int .i64 (N:Nat))) (w.setRow g (qam cur.toList 0 us).toArray):=by
   rw [qay _ _ _ a ho]
   have:a.eval px=.slice (some ⟨g,0,none⟩) es.length cap:=by rw [rx,q1]
   have hmin:Nat.min es2.length es.length=N:=hN
   simp [builtin,Builtin.copy_,hts,this,ev,run_underlying ht,Builtin.lenOf,qaD hsz,hmin,hfc,hst,goInt]
  have hG:Grow w (w.setRow g (qam cur.toList 0 us).toArray) (Old L ι q):=qeV w g _ hOld
  have hkp:Keeps w (w.setRow g (qam cur.toList 0 us).toArray) (fun b=>Own L ι b∨B.X b) (fun b=>Own (Zat L q (.row (es2.take es.length++es.drop es2.length) et z ap)) ι b∨B.X b):=fun c hc hu=>⟨hG.block c hc (fun h=>hu (.inl h.own)),fun h=>hu (h.imp (qiq hl c) id)⟩
  refine fin _ hrun (hs.wr q _ _ hl hG ⟨qam vs 0 us,⟨by rw [qaC,hln];exact hvl,.inr ⟨g,cap,(qam cur.toList 0 us).toArray,fz,by rw [hln];exact q1,setRow_heap w g _ _ _ _ q2,by rw [hln];exact q3,q4,by simpa [qaC] using q5,by rw [hln];simp only [qfx,q6],by
   rcases q7 with h|h
   ·exact .inl h
   ·exact .inr ⟨h.1,by simpa [qaC] using h.2⟩⟩⟩,hone,PRepL.mono hkp _ _ hres,hmem⟩)
theorem qqc (ents:Array MapEntry):leftOf ents #[]=ents:=by simp [leftOf]
theorem qwr {t kt et:TypeId} {x:Operand} {x':Opd} {d:Nat} (ho:o.op=.range t x) (hd:o.dst=some d) (ht:P.underlying t=some (.map kt et)) (hx:qaf x x'=true) {c:Prop} {ks:List (List UInt8)} {vs:List PV} (ex:(rd fr x').un=(c,.p (.mpv ks vs))) :
  Eff1 P o fr L c ((fr.map (·.kill (.l d))).set d (.adr (.l d) 0)) (Zav L (.l d) (.mit none (ks.zip vs))):=by
 intro E B w ι a hs hc
 obtain ⟨b,rm,hb,hu,ents,cl,e2,e3,e4⟩:PRep w (fun b=>Own L ι b∨B.X b) (.mpv ks vs) (a.eval x):=rdP hs.2.1 hx ex hc
 have hG:Grow w (w.alloc (.mapIter (some b) cl #[] cl)) (Old L ι (.l d)):=qbo _ _ _
 have hbk:∀ c,blk (.pointer (some ⟨w.heap.size,0,none⟩))=some c→w.heap.size≤c∨Old L ι (.l d) c:=fun c e=>by simp only [blk,zg] at e;omega
 have hk:=qa6 (X:=B.X) (ao:=.mit none (ks.zip vs)) (v:=.pointer (some ⟨w.heap.size,0,none⟩)) (fun b hb=>hs.1.x_lt hb) hG hbk
 have hr:=qom e3 e4
 refine qc4 hd hs (v:=.pointer (some ⟨w.heap.size,0,none⟩)) (w':=w.alloc (.mapIter (some b) cl #[] cl)) ?_ _ hG hbk ⟨w.heap.size,b,#[],ents,cl,by simp [updI],heap_alloc_new w _,hk.lt hb hu,(hk b hb hu).2,by rw [(hk b hb hu).1];exact e2,e3.2.1,by rw [qqc];exact ⟨hr.1,PRepL.mono hk _ _ hr.2.1,hr.2.2⟩,fun p hp=>by cases hp⟩ ⟨w.heap.size,by simp [updI],rfl⟩
 simp only [execOp,ho,rm,Sem.run_bind,run_range_map w t kt et b ents cl ht e2]
 rfl
theorem qiK {e:MapEntry}:∀ (l:List MapEntry) (i:Nat),(l.map (·.born)).Nodup→l[i]?=some e→l.filter (fun x=>!(x.born == e.born))=l.eraseIdx i
 |[],i,_,h=>by simp at h
 |x :: r,0,hn,h=>by
  simp at h
  subst h
  simp only [zx,List.nodup_cons] at hn
  simp only [List.eraseIdx_cons_zero]
  rw [List.filter_cons_of_neg (by simp)]
  rw [List.filter_eq_self]
  intro y hy
  have:y.born≠x.born:=fun e=>hn.1 (zE.2 ⟨y,hy,e⟩)
  simpa using this
 |x :: r,i+1,hn,h=>by
  simp only [zx,List.nodup_cons] at hn
  have h':r[i]?=some e:=by simpa using h
  have:x.born≠e.born:=fun e'=>hn.1 (zE.2 ⟨e,zn h',e'.symm⟩)
  rw [List.filter_cons_of_pos (by simpa using this),List.eraseIdx_cons_succ,qiK r i hn.2 h']
theorem qoq (ents:Array MapEntry) (seen:Array Nat) (e:MapEntry) {i:Nat} (hn:(ents.toList.map (·.born)).Nodup) (hi:(leftOf ents seen).toList[i]?=some e):(leftOf ents (seen.push e.born)).toList=(leftOf ents seen).toList.eraseIdx i:=by
 have h1:(leftOf ents seen).toList=ents.toList.filter fun x=>!seen.contains x.born:=by simp [leftOf]
 have h2:(leftOf ents (seen.push e.born)).toList=(ents.toList.filter fun x=>!seen.contains x.born).filter fun x=>!(x.born == e.born):=by
  simp only [leftOf,Array.toList_filter,List.filter_filter]
  refine List.filter_congr fun x _=>?_
  simp only [Array.contains_push,Bool.not_or]
  rw [Bool.and_comm]
 rw [h2,h1]
 rw [h1] at hi
 refine qiK _ i ?_ hi
 exact (List.filter_sublist.map _).nodup hn
set_option maxHeartbeats 2000000 in
theorem qxK {E:Envt} {B:Base} {a:Act} (hs:StF E B w L ι fr a) {x:Operand} {x':Opd} (ho:o.op=.next x false) (hx:qaf x x'=true) {k:Key} {kv:List (List UInt8×PV)} (e:Za fr L x'=some (k,kv)) (h0:(rd fr x').un.1) :
  (kv=[]∧(execOp a.eval o).run P w=.ok (.value (.tuple #[.bool false])) w)∨
  ∃ (i:Nat) (p:List UInt8×PV) (v:Value) (w':World),kv[i]?=some p∧(execOp a.eval o).run P w=.ok (.value v) w'∧StF E B w' (Zat L k (.mit (some p) (kv.eraseIdx i))) ι fr a∧PRep w' (fun b=>Own (Zat L k (.mit (some p) (kv.eraseIdx i))) ι b∨B.X b) (.tup [.bool true,.str p.1,p.2]) v:=by
 unfold Za at e
 split at e
 ·rename_i q eq
  split at e
  ·rename_i last kv' hl
   simp only [zg,zj] at e
   obtain ⟨rfl,rfl⟩:=e
   have hr0:=(rdOk hs.2.1 hx).un h0
   rw [eq] at hr0
   obtain ⟨b0,q1,q2⟩:=hr0
   obtain ⟨r,b,seen,ents,cl,e1,e2,e3,e4,e5,e6,e7,e8⟩:=hs.1.sim.obj _ _ hl
   rw [e1] at q1
   obtain rfl:r=b0:=by cases q1;rfl
   have hlen:(leftOf ents seen).toList.length=kv'.length:=by have:=congrArg List.length e7.1;simpa using this
   rcases run_next_at (P:=P) w o.type r b cl cl seen ents cl e2 e5 e6.1 (zL _) with ⟨g1,g2⟩|⟨en,hen,w1,hw1,g2⟩
   ·left
    refine ⟨zq (by rw [← hlen];simpa using g1),?_⟩
    simp only [execOp,ho,q2,Sem.run_bind,g2]
    rfl
   ·right
    obtain ⟨i,hi⟩:=yg hen
    have hil:i < kv'.length:=by rw [← hlen];exact (zo.1 hi).1
    obtain ⟨p,hp⟩:∃ p,kv'[i]?=some p:=⟨_,zk hil⟩
    have hkey:en.key=.string ⟨p.1.toArray⟩:=by
     have:=congrArg (·[i]?) e7.1
     simp only [zy,hi,hp,zA,zg] at this
     exact this
    obtain ⟨en',hen',hval⟩:=e7.get i p hp
    rw [hi] at hen'
    cases hen'
    have hmem:en∈ents.toList:=by
     have h1:(leftOf ents seen).toList=ents.toList.filter fun x=>!seen.contains x.born:=by simp [leftOf]
     rw [h1] at hen
     exact (List.mem_filter.1 hen).1
    have hwh:w1.heap=w.heap:=by rcases hw1 with rfl|rfl<;>rfl
    have hb:r < w.heap.size:=(zw.1 e2).1
    generalize hw':ChangeMaps.setBlock w1 r (.mapIter (some b) cl (seen.push en.born) cl)=w' at g2
    have hheap:w'.heap=w.heap.setIfInBounds r (.mapIter (some b) cl (seen.push en.born) cl):=by rw [← hw'];simp [ChangeMaps.setBlock,hwh]
    have hG:Grow w w' (Old L ι q):=by
     refine ⟨by rw [← hw'];rcases hw1 with rfl|rfl<;>rfl,by rw [← hw'];rcases hw1 with rfl|rfl<;>rfl,by rw [← hw'];rcases hw1 with rfl|rfl<;>rfl,by rw [hheap];simp,fun c hc hn=>?_⟩
     have hne:r≠c:=fun e=>hn ⟨_,hl,by rw [e1,e];rfl⟩
     rw [hheap,zO hne]
    have hkp:Keeps w w' (fun c=>Own L ι c∨B.X c) (fun c=>Own (Zat L q (.mit (some p) (kv'.eraseIdx i))) ι c∨B.X c):=fun c hc hu=>⟨hG.block c hc (fun h=>hu (.inl h.own)),fun h=>hu (h.imp (qiq hl c) id)⟩
    have hv':=PRep.mono hkp _ _ hval
    refine ⟨i,p,.tuple #[.bool true,en.key,en.val],w',hp,?_,?_,?_⟩
    ·simp only [execOp,ho,q2,Sem.run_bind,g2]
     rfl
    ·refine hs.wr q _ _ hl hG ⟨r,b,seen.push en.born,ents,cl,e1,by rw [hheap];simp [hb],hkp.lt e3 e4,(hkp b e3 e4).2,by rw [(hkp b e3 e4).1];exact e5,e6,?_,fun p' hp'=>?_⟩
     ·rw [qoq ents seen en e6.2.1 hi]
      have:=e7.eraseIdx i
      exact ⟨this.1,PRepL.mono hkp _ _ this.2.1,this.2.2⟩
     ·cases hp'
      exact ⟨en,hmem,⟨seen,rfl⟩,hkey,hv'⟩
    ·exact ⟨[.bool true,en.key,en.val],rfl,_,_,rfl,rfl,_,_,rfl,by rw [hkey];rfl,_,_,rfl,hv',rfl⟩
  ·cases e
 ·cases e
end
section
variable {P:Program} {L:Objs} {fr:List AV} {o:Oper} {w:World} {U:Nat→Prop} {ι:Key→Value}
def keyT (P:Program) (t:TypeId) (ks:List FK):Bool:=
 match P.underlying t with
 |some (.struct fs)=>qdL P 0 fs.toList ks && !P.stoodInHeld t
 |_=>false
theorem qje (w:World) (U:Nat→Prop):∀ {ks:List FK} {cs:List PV},ok_Ks ks cs=true→PRepL w U cs (cs.map qgd)
 |[],cs,h=>by rw [qcy h];simp [PRepL]
 |.b :: ks,cs,h=>by cases cs<;>simp [ok_Ks] at h
 |.i :: ks,cs,h=>by
  obtain ⟨n,r,rfl,g⟩:=qd6 h
  exact ⟨_,_,rfl,rfl,qje w U g⟩
 |.s :: ks,cs,h=>by
  obtain ⟨s,r,rfl,g⟩:=qd5 h
  exact ⟨_,_,rfl,rfl,qje w U g⟩
theorem qlw:∀ {ks:List FK} {cs:List PV} {vs:List Value},ok_Ks ks cs=true→PRepL w U cs vs→vs=cs.map qgd
 |[],cs,vs,h,hr=>by rw [qcy h] at hr ⊢;exact hr
 |.b :: ks,cs,vs,h,hr=>by cases cs<;>simp [ok_Ks] at h
 |.i :: ks,cs,vs,h,hr=>by
  obtain ⟨n,r,rfl,g⟩:=qd6 h
  obtain ⟨v,vr,rfl,hv,hr⟩:=hr
  have hv:v=.int .i64 n:=hv
  rw [hv,qlw g hr]
  rfl
 |.s :: ks,cs,vs,h,hr=>by
  obtain ⟨s,r,rfl,g⟩:=qd5 h
  obtain ⟨v,vr,rfl,hv,hr⟩:=hr
  have hv:v=.string ⟨s.toArray⟩:=hv
  rw [hv,qlw g hr]
  rfl
theorem qlx:∀ {ks:List FK} {a b:List PV},ok_Ks ks a=true→ok_Ks ks b=true→∃ q,Zu ks a b=some q∧(q=true↔a=b)
 |[],a,b,h1,h2=>by rw [qcy h1,qcy h2];exact ⟨true,rfl,by simp⟩
 |.b :: ks,a,b,h1,h2=>by cases a<;>simp [ok_Ks] at h1
 |.i :: ks,a,b,h1,h2=>by
  obtain ⟨n,r,rfl,g1⟩:=qd6 h1
  obtain ⟨m,r',rfl,g2⟩:=qd6 h2
  obtain ⟨q,e1,e2⟩:=qlx g1 g2
  exact ⟨decide (n=m) && q,by simp [Zu,e1],by simp [e2]⟩
 |.s :: ks,a,b,h1,h2=>by
  obtain ⟨n,r,rfl,g1⟩:=qd5 h1
  obtain ⟨m,r',rfl,g2⟩:=qd5 h2
  obtain ⟨q,e1,e2⟩:=qlx g1 g2
  exact ⟨decide (n=m) && q,by simp [Zu,e1],by simp [e2]⟩
theorem qtE {ks:List FK} {a b:List PV} (h1:ok_Ks ks a=true) (h2:ok_Ks ks b=true) (h:keyV a=keyV b):a=b:=by
 have h:a.map qgd=b.map qgd:=by simpa [keyV] using h
 have key:∀ (ks:List FK) (a b:List PV),ok_Ks ks a=true→ok_Ks ks b=true→a.map qgd=b.map qgd→a=b:=by
  intro ks
  induction ks with
  |nil=>intro a b h1 h2 _;rw [qcy h1,qcy h2]
  |cons k ks ih=>
   intro a b h1 h2 h
   cases k with
   |b=>cases a<;>simp [ok_Ks] at h1
   |i=>
    obtain ⟨n,r,rfl,g1⟩:=qd6 h1
    obtain ⟨m,r',rfl,g2⟩:=qd6 h2
    simp only [zx,List.cons.injEq,qgd,Value.int.injEq,true_and] at h
    rw [h.1,ih r r' g1 g2 h.2]
   |s=>
    obtain ⟨n,r,rfl,g1⟩:=qd5 h1
    obtain ⟨m,r',rfl,g2⟩:=qd5 h2
    simp only [zx,List.cons.injEq,qgd,Value.string.injEq] at h
    have e:n=m:=by simpa using congrArg (fun x:ByteArray=>x.data.toList) h.1
    rw [e,ih r r' g1 g2 h.2]
 exact key ks a b h1 h2 h
theorem qrD {t:TypeId} {ks:List FK} (ht:keyT P t ks=true) {a b:List PV} (h1:ok_Ks ks a=true) (h2:ok_Ks ks b=true) (w:World):∃ q,(Op.equal t (keyV a) (keyV b)).run P w=.ok q w∧(q=true↔a=b):=by
 obtain ⟨q,e1,e2⟩:=qlx h1 h2
 refine ⟨q,?_,e2⟩
 unfold keyT at ht
 split at ht
 ·rename_i fs hfs
  simp only [zi,Bool.not_eq_true'] at ht
  have hF:P.fieldsOf t=fs:=by simp [Program.fieldsOf,hfs]
  show (Op.equalIn (9999+1) t _ _).run P w=_
  unfold keyV
  rw [run_equalIn_struct w 9999 t _ _ (by rw [hF];exact hfs) ht.2,hF]
  exact qkP (U:=fun _=>False) fs.toList ks 0 a b _ _ q ht.1 e1 (by simpa using qje w _ h1) (by simpa using qje w _ h2) 9998
 ·cases ht
set_option maxHeartbeats 2000000 in
theorem qoC {α:Type} {t:TypeId} {ks:List FK} (ht:keyT P t ks=true) {cs:List PV} (hc:ok_Ks ks cs=true) (v:α) (w:World):∀ (kv:List (List UInt8×α)) (ents:List MapEntry) (i:Nat),(ents.map (·.key)=kv.map fun p=>kyV (.fl ks) p.1)→(∀ p∈kv,okE (.fl ks) p.1)→
  (mpF kv (qbG cs)=none∧(Instr.findAsking t (keyV cs) ents i).run P w=.ok none w∧mpS kv (qbG cs) v=kv++[(qbG cs,v)]∧∀ e∈ents,e.key≠keyV cs)∨
  ∃ j e x,mpF kv (qbG cs)=some x∧(Instr.findAsking t (keyV cs) ents i).run P w=.ok (some (i+j,e.val)) w∧ents[j]?=some e∧kv[j]?=some (qbG cs,x)∧e.key=keyV cs∧mpS kv (qbG cs) v=kv.set j (qbG cs,v)
 |[],ents,i,h,_=>by
  have:ents=[]:=by simpa using h
  subst this
  exact .inl ⟨rfl,rfl,rfl,by simp⟩
 |p :: r,[],i,h,_=>by simp at h
 |p :: r,e :: es,i,h,ho=>by
  simp only [zx,List.cons.injEq] at h
  obtain ⟨h1,h2⟩:=h
  obtain ⟨ds,d1,d2⟩:=ho p (by simp)
  rw [← d2,quN d1] at h1
  obtain ⟨q,e1,e2⟩:=qrD ht hc d1 w
  have hpq:p.1=qbG cs↔cs=ds:=by
   rw [← d2]
   exact ⟨fun e=>(qlO ks d1 hc e).symm,fun e=>by rw [e]⟩
  by_cases hp:cs=ds
  ·have hq:q=true:=e2.2 hp
   have hp1:=hpq.2 hp
   refine .inr ⟨0,e,p.2,by simp [mpF,hp1],?_,rfl,by simp [← hp1],by rw [h1,hp],by simp [mpS,hp1]⟩
   simp [Instr.findAsking,h1,e1,hq]
  ·have hq:q=false:=by cases q<;>simp_all
   have hp1:¬ p.1=qbG cs:=fun e=>hp (hpq.1 e)
   have hf:(Instr.findAsking t (keyV cs) (e :: es) i).run P w=(Instr.findAsking t (keyV cs) es (i+1)).run P w:=by simp [Instr.findAsking,h1,e1,hq]
   rcases qoC ht hc v w r es (i+1) h2 (fun p hp=>ho p (by simp [hp])) with ⟨g1,g2,g3,g5⟩|⟨j,e',x,g1,g2,g3,g4,g5,g6⟩
   ·refine .inl ⟨by simp [mpF,hp1,g1],by rw [hf,g2],by simp [mpS,hp1,g3],fun q hq=>?_⟩
    rcases zG.1 hq with rfl|hq
    ·rw [h1];intro e';exact hp (qtE hc d1 e'.symm)
    ·exact g5 q hq
   ·exact .inr ⟨j+1,e',x,by simp [mpF,hp1,g1],by rw [hf,g2,show i+1+j=i+(j+1) from by omega],by simpa using g3,by simpa using g4,g5,by simp [mpS,hp1,g6]⟩
theorem qkG {t:TypeId} {ks:List FK} (ht:keyT P t ks=true):∃ fs,P.underlying t=some (.struct fs)∧qdL P 0 fs.toList ks=true:=by
 unfold keyT at ht
 split at ht
 ·rename_i fs hfs
  simp only [zi] at ht
  exact ⟨fs,hfs,ht.1⟩
 ·cases ht
theorem qhM {t:TypeId} {ks:List FK} (ht:keyT P t ks=true) {x:Value} {ents:List MapEntry} {r:Option (Nat×Value)} (h:(Instr.findAsking t x ents).run P w=.ok r w):(Instr.findKey t x ents).run P w=.ok r w:=by
 obtain ⟨fs,hfs,_⟩:=qkG ht
 rw [run_findKey_eq w (by rw [hfs])]
 exact h
set_option maxHeartbeats 2000000 in
theorem qns (em:Bool) (n:Nat) (xs:Array Value) (w:World):∀ (fs:List Field) (ks:List FK) (k:Nat) (cs:List PV),qdL P k fs ks=true→ok_Ks ks cs=true→xs.toList.drop k=cs.map qgd→
  (forIn fs PUnit.unit fun f (_:PUnit)=>(if f.name≠"_" then do
   let a ← part f.type xs f.offset
   let _ ← Instr.checkKey em (n+1) f.type a
   pure (ForInStep.yield PUnit.unit)
   else pure (ForInStep.yield PUnit.unit):Sem (ForInStep PUnit))).run P w=.ok () w:=by
 intro fs
 induction fs with
 |nil=>intro ks k cs _ _ _;simp
 |cons f fs ih=>
  intro ks k cs hf hc hx
  cases ks with
  |nil=>simp [qdL] at hf
  |cons fk ks=>
  simp only [qdL,zi,beq_iff_eq,bne_iff_ne,ne_eq] at hf
  obtain ⟨⟨⟨h1,h2⟩,h3⟩,h4⟩:=hf
  have Zf:∀ (v:Value) (r:List PV),ok_Ks ks r=true→xs.toList.drop k=v :: r.map qgd→(Instr.checkKey em (n+1) f.type v).run P w=.ok () w→(forIn (f :: fs) PUnit.unit fun f (_:PUnit)=>(if f.name≠"_" then do
   let a ← part f.type xs f.offset
   let _ ← Instr.checkKey em (n+1) f.type a
   pure (ForInStep.yield PUnit.unit)
   else pure (ForInStep.yield PUnit.unit):Sem (ForInStep PUnit))).run P w=.ok () w:=by
   intro v r hr ex hck
   have gx:xs[f.offset]?=some v:=by
    have:(xs.toList.drop k)[0]?=some v:=by rw [ex];rfl
    rw [yb] at this
    rw [h1]
    simpa using this
   have dx:xs.toList.drop (k+1)=r.map qgd:=by rw [← List.drop_drop,ex];rfl
   have hag:aggB P f.type false=true:=by
    unfold aggB
    cases fk<;>simp only [fkB] at h3<;>split at h3<;>simp_all
   have px:(part f.type xs f.offset).run P w=.ok v w:=by simp [part,qcc hag,gx]
   have hr:=ih ks (k+1) r h4 hr dx
   simp only [List.forIn_cons,if_pos h2,Sem.run_bind,px,hck,Result.andThen_ok,Sem.run_pure]
   exact hr
  cases fk with
  |b=>cases cs<;>simp [ok_Ks] at hc
  |i=>
   obtain ⟨m,r,rfl,g⟩:=qd6 hc
   refine Zf (.int .i64 m) r g hx ?_
   simp only [fkB] at h3
   split at h3
   ·rename_i q hq
    simp [Instr.checkKey,run_underlying hq]
   ·cases h3
  |s=>
   obtain ⟨m,r,rfl,g⟩:=qd5 hc
   refine Zf (.string ⟨m.toArray⟩) r g hx ?_
   simp only [fkB] at h3
   split at h3
   ·rename_i hq
    simp [Instr.checkKey,run_underlying hq]
   ·cases h3
theorem qn3 {t:TypeId} {ks:List FK} (ht:keyT P t ks=true) {cs:List PV} (hc:ok_Ks ks cs=true) (em:Bool) (n:Nat) (w:World):(Instr.checkKey em (n+1+1) t (keyV cs)).run P w=.ok () w:=by
 obtain ⟨fs,hfs,hf⟩:=qkG ht
 have:=qns em n (cs.map qgd).toArray w fs.toList ks 0 cs hf hc (by simp)
 unfold keyV
 rw [Instr.checkKey]
 simp only [Sem.run_bind,run_underlying hfs,Result.andThen_ok]
 rw [← Array.forIn_toList,this]
 rfl
theorem qgt {t:TypeId} {ks:List FK} (ht:keyT P t ks=true) {cs:List PV} (hc:ok_Ks ks cs=true) (em:Bool) (w:World):(Instr.checkKey em 10000 t (keyV cs)).run P w=.ok () w:=qn3 ht hc em 9998 w
theorem qjK {a:Act} {t kt et:TypeId} {m x:Operand} {ok:Bool} {ks:List FK} (ho:o.op=.lookup t m x ok) (ht:P.underlying t=some (.map kt et)) (hk:keyT P kt ks=true) {cs:List PV} (hc:ok_Ks ks cs=true) (rx:a.eval x=keyV cs) {b:Nat} (rm:a.eval m=.map (some b)) {ents:Array MapEntry} {cl:Nat} (e2:w.heap[b]?=some (.map ents cl))
  {kv:List (List UInt8×PV)} (e3:MapRep (.fl ks) w U kv ents.toList) {z:PV} {zv:Value} (hz:(zeroValue et).run P w=.ok zv w) (hzr:PRep w U z zv) :
  ∃ v,(execOp a.eval o).run P w=.ok (.value (if ok then .tuple #[v,.bool (mpF kv (qbG cs)).isSome] else v)) w∧PRep w U ((mpF kv (qbG cs)).getD z) v:=by
 rcases qoC hk hc z w kv ents.toList 0 e3.1 e3.2.2 with ⟨g1,g2,_⟩|⟨j,e,y,g1,g2,g3,g4,_,_⟩
 ·refine ⟨zv,?_,by rw [g1];exact hzr⟩
  simp [execOp,ho,rm,rx,Instr.lookup,run_underlying ht,MapKept.run_getObj_map e2,qgt hk hc,qhM hk g2,hz,g1]
 ·obtain ⟨e',he',hr⟩:=e3.get j _ g4
  rw [g3] at he'
  cases he'
  refine ⟨e.val,?_,by rw [g1];exact hr⟩
  simp [execOp,ho,rm,rx,Instr.lookup,run_underlying ht,MapKept.run_getObj_map e2,qgt hk hc,qhM hk g2,g1]
theorem qos {cs:List PV} {ks:List FK} {v:Value} (hc:ok_Ks ks cs=true) (h:PRep w U (.agg cs) v):v=keyV cs:=by
 obtain ⟨vs,rfl,hv⟩:=h
 rw [qlw hc hv]
 rfl
theorem qsO {t kt et:TypeId} {m x:Operand} {ok:Bool} {ks:List FK} {zero:PV} {m' x':Opd} (ho:o.op=.lookup t m x ok) (ht:P.underlying t=some (.map kt et)) (hk:keyT P kt ks=true) (hz:qkl P et zero=true) (hm:qaf m m'=true) (hx:qaf x x'=true) {c:Prop} {r:AV}
  (h:Zf fr L (.mplk ok ks zero m' x')=some (c,r)):Val1 P o fr L c r:=by
 simp only [Zf] at h
 split at h
 ·rename_i cm q cx cs em ex
  split at h
  ·rename_i ks' kv kt0 et0 hl
   split at h
   ·rename_i hc
    obtain ⟨rfl,hc⟩:=hc
    simp only [zg,zj] at h
    obtain ⟨rfl,rfl⟩:=h
    refine Val1.same fun E B w ι a hs ⟨h1,h2⟩=>?_
    obtain ⟨rm,_⟩:a.eval m=ι q∧_:=rdP hs.2.1 hm em h1
    have rx:=qos hc (rdP hs.2.1 hx ex h2)
    obtain ⟨b,ents,cl,e1,e2,e3,_⟩:=hs.1.sim.obj _ _ hl
    rw [e1] at rm
    obtain ⟨zv,hz1,hz2⟩:=qfA hz w
    have hzr:=qej hz2 w (fun b=>Own L ι b∨B.X b)
    obtain ⟨v,k1,k2⟩:=qjK ho ht hk hc rx rm e2 e3 hz1 hzr
    exact ⟨_,k1,qlv k2⟩
   ·cases h
  ·cases h
 ·rename_i cm ks' kys vs cx cs em ex
  split at h
  ·rename_i hc
   obtain ⟨rfl,hc⟩:=hc
   simp only [zg,zj] at h
   obtain ⟨rfl,rfl⟩:=h
   refine Val1.same fun E B w ι a hs ⟨h1,h2⟩=>?_
   obtain ⟨b,rm,_,_,ents,cl,e2,e3,e4⟩:PRep w (fun b=>Own L ι b∨B.X b) (.mpg (.fl ks') kys vs) (a.eval m):=rdP hs.2.1 hm em h1
   have rx:=qos hc (rdP hs.2.1 hx ex h2)
   obtain ⟨zv,hz1,hz2⟩:=qfA hz w
   have hzr:=qej hz2 w (fun b=>Own L ι b∨B.X b)
   obtain ⟨v,k1,k2⟩:=qjK ho ht hk hc rx rm e2 (qom e3 e4) hz1 hzr
   exact ⟨_,k1,qlv k2⟩
  ·cases h
 ·cases h
theorem qwv {t:TypeId} {d:Nat} {ks:List FK} {kt et:TypeId} (ho:o.op=.makeMap t none) (hd:o.dst=some d):Eff1 P o fr L True ((fr.map (·.kill (.l d))).set d (.mp (.l d))) (Zav L (.l d) (.mapg (.fl ks) [] kt et)):=by
 intro E B w ι a hs _
 refine qc4 hd hs (v:=.map (some w.heap.size)) (w':=w.alloc (.map #[] 0)) ?_ (.map (some w.heap.size)) (qbo _ _ _) (fun b e=>by simp only [blk,zg] at e;omega) ⟨w.heap.size,#[],0,by simp [updI],heap_alloc_new w _,⟨by simp,by simp [PRepL],by simp⟩,MapKept.stamped_empty 0⟩ ?_
 ·simp [execOp,ho,Instr.makeMap,newObj]
  rfl
 ·simp [ARep,updI]
theorem qg7:∀ {ks:List FK} {cs:List PV},ok_Ks ks cs=true→∀ n,((cs.map qgd).zip (cs.map qgd)).all (fun p=>Instr.sameBits n p.1 p.2)=true
 |[],cs,h,n=>by rw [qcy h];rfl
 |.b :: ks,cs,h,n=>by cases cs<;>simp [ok_Ks] at h
 |.i :: ks,cs,h,n=>by
  obtain ⟨m,r,rfl,g⟩:=qd6 h
  simp only [zx,List.zip_cons_cons,List.all_cons,qg7 g n,Bool.and_true,qgd]
  simp [Instr.sameBits]
 |.s :: ks,cs,h,n=>by
  obtain ⟨m,r,rfl,g⟩:=qd5 h
  simp only [zx,List.zip_cons_cons,List.all_cons,qg7 g n,Bool.and_true,qgd]
  simp [Instr.sameBits,qor]
theorem qsJ {ks:List FK} {cs:List PV} (h:ok_Ks ks cs=true) (w:World):(Instr.keyThatStays (keyV cs) (keyV cs)).run P w=.ok (keyV cs) w:=by
 have:Instr.sameBits 10000 (keyV cs) (keyV cs)=true:=by
  show Instr.sameBits (9999+1) (keyV cs) (keyV cs)=true
  unfold keyV
  simp only [Instr.sameBits,zi,beq_self_eq_true,true_and]
  exact qg7 h 9999
 simp [Instr.keyThatStays,this]
set_option maxHeartbeats 2000000 in
theorem qpy {t kt et:TypeId} {m x v:Operand} {m' x' v':Opd} {ks:List FK} (ho:o.op=.mapUpdate t m x v∨o.op=.insert t m x v) (hd:o.dst=none) (ht:P.underlying t=some (.map kt et)) (hk:keyT P kt ks=true) (hm:qaf m m'=true) (hx:qaf x x'=true) (hv:qaf v v'=true)
  {cm cx cv:Prop} {q:Key} {cs:List PV} {y:PV} (hc:ok_Ks ks cs=true) {kv:List (List UInt8×PV)} {kt0 et0:TypeId} (em:(rd fr m').un=(cm,.mp q)) (ex:(rd fr x').un=(cx,.p (.agg cs))) (ev:(rd fr v').un=(cv,.p y)) (hl:Zas L q=some (.mapg (.fl ks) kv kt0 et0)) :
  Eff1 P o fr L (cm∧cx∧cv) fr (Zat L q (.mapg (.fl ks) (mpS kv (qbG cs) y) kt0 et0)):=by
 intro E B w ι a hs ⟨h1,h2,h3⟩
 obtain ⟨rm,_⟩:a.eval m=ι q∧_:=rdP hs.2.1 hm em h1
 have rx:=qos hc (rdP hs.2.1 hx ex h2)
 have rv:PRep w (fun b=>Own L ι b∨B.X b) y (a.eval v):=rdP hs.2.1 hv ev h3
 obtain ⟨b,ents,cl,e1,e2,e3,hst⟩:=hs.1.sim.obj _ _ hl
 rw [e1] at rm
 have hb:b < w.heap.size:=(zw.1 e2).1
 have hlen:ents.toList.length=kv.length:=by have:=congrArg List.length e3.1;simpa using this
 have hke:kyV (.fl ks) (qbG cs)=keyV cs:=quN hc
 have key:∃ ents' cl',(execOp a.eval o).run P w=.ok .skip { w with heap:=w.heap.setIfInBounds b (.map ents' cl') }∧MapKept.Stamped ents' cl'∧MapRep (.fl ks) w (fun b=>Own L ι b∨B.X b) (mpS kv (qbG cs) y) ents'.toList:=by
  rcases qoC hk hc y w kv ents.toList 0 e3.1 e3.2.2 with ⟨g1,g2,g3,g5⟩|⟨j,e,y0,g1,g2,g3,g4,g5,g6⟩
  ·refine ⟨ents.push ⟨keyV cs,a.eval v,cl⟩,cl+1,?_,MapKept.stamped_push hst (fun x hx=>g5 x hx),?_,?_,fun p hp=>?_⟩
   ·rcases ho with ho|ho<;>simp [execOp,ho,rm,rx,Instr.mapUpdate,run_underlying ht,MapKept.run_getObj_map e2,qgt hk hc,qhM hk g2,MapKept.run_setObj_map _ e2]
   ·rw [g3];simp [e3.1,hke]
   ·rw [g3,Array.toList_push,zF,zF]
    exact e3.2.1.append ⟨_,_,rfl,rv,rfl⟩
   ·rw [g3] at hp
    rcases zp.1 hp with hp|hp
    ·exact e3.2.2 p hp
    ·simp only [zu] at hp
     subst hp
     exact ⟨cs,hc,rfl⟩
  ·have hj:ents[j]?=some e:=by simpa using g3
   refine ⟨ents.modify j (fun e'=>{ e' with key:=keyV cs,val:=a.eval v }),cl,?_,MapKept.stamped_modify hst _ _ (fun _ _=>rfl) (fun e' _ he'=>by rw [hj] at he';cases he';exact g5.symm),?_,?_,fun p hp=>?_⟩
   ·rcases ho with ho|ho<;>simp [execOp,ho,rm,rx,Instr.mapUpdate,run_underlying ht,MapKept.run_getObj_map e2,qgt hk hc,qhM hk g2,hj,g5,qsJ hc,MapKept.run_setObj_map _ e2]
   ·rw [qgw hj,g6,List.map_set,List.map_set,e3.1,hke]
   ·rw [qgw hj,g6,List.map_set,List.map_set]
    exact e3.2.1.set j rv
   ·rw [g6] at hp
    rcases z8 hp with hp|rfl
    ·exact e3.2.2 p hp
    ·exact ⟨cs,hc,rfl⟩
 obtain ⟨ents',cl',hrun,k1,k2⟩:=key
 have hG:Grow w { w with heap:=w.heap.setIfInBounds b (.map ents' cl') } (Old L ι q):=qhZ hl (by rw [e1];rfl)
 have hkp:Keeps w { w with heap:=w.heap.setIfInBounds b (.map ents' cl') } (fun c=>Own L ι c∨B.X c) (fun c=>Own (Zat L q (.mapg (.fl ks) (mpS kv (qbG cs) y) kt0 et0)) ι c∨B.X c):=fun c hc hu=>⟨hG.block c hc (fun h=>hu (.inl h.own)),fun h=>hu (h.imp (qiq hl c) id)⟩
 have hwr:=hs.wr q (.mapg (.fl ks) kv kt0 et0) (.mapg (.fl ks) (mpS kv (qbG cs) y) kt0 et0) hl hG ⟨b,ents',cl',e1,by simp [hb],⟨k2.1,PRepL.mono hkp _ _ k2.2.1,k2.2.2⟩,k1⟩
 exact ⟨undef,.skip,_,ι,hrun,.inr ⟨rfl,rfl⟩,by rw [hd];exact hwr⟩
end
inductive IC where
 |skip
 |reg (ops:List IOper)
 |drg (ops:List IOper)
 |drp (pm:List Nat) (ops:List IOper)
 |seq (a b:IC)
 |cond (c:Opd) (t e:IC)
 |block (id:Nat) (b:IC)
 |loop (b:IC)
 |exit (id:Nat)
 |ret
 |cut (b:IC)
 |dead
def Zc (a b:AV):Prop:=
 match b with
 |.any=>True
 |b=>a=b
def Zb:List AV→List AV→Prop
 |[],[]=>True
 |a :: as,b :: bs=>Zc a b∧Zb as bs
 |_,_=>False
def Zd:Objs→Objs→Prop
 |[],_=>True
 |(k,a) :: r,L=>Zas L k=some a∧Zd r L
def Zam (d:Nat) (fr:List AV) (L:Objs):Prop:=fr.map (·.kill (.l d))=fr∧Zau (.l d) L=L
def Zan:AO:=.row [] 0 0 true
def Ze (d:Option Nat) (fr:List AV) (L:Objs):IOp→Option (Prop×List AV×Objs)
 |.nilr e z=>match d with
  |some d=>some (True,(fr.map (·.kill (.l d))).set d (.row (.l d)),Zav L (.l d) (.row [] e z true))
  |none=>none
 |.alc t zero=>match d with
  |some d=>some (True,(fr.map (·.kill (.l d))).set d (.adr (.l d) 0),Zav L (.l d) (.box (zero.map .p) t))
  |none=>none
 |.box t x=>match d,(rd fr x).un with
  |some d,(c,.p v)=>if Zaa (Zz v)=true then some (c,(fr.map (·.kill (.l d))).set d (.adr (.l d) 0),Zav L (.l d) (.box ((Zz v).map .p) t)) else none
  |some d,(c,.row k)=>some (c,(fr.map (·.kill (.l d))).set d (.adr (.l d) 0),Zav L (.l d) (.box [(AV.row k).kill (.l d)] t))
  |_,_=>none
 |.st sz p x=>match (rd fr p).un,(rd fr x).un with
  |(cp,.adr k o),(cx,.p v)=>match Zas L k with
   |some (.box cs bt)=>if o+sz≤cs.length∧(Zz v).length=sz∧Zaa (Zz v)=true then some (cp∧cx,fr,Zat L k (.box (Zac cs o ((Zz v).map .p)) bt)) else none
   |_=>none
  |(cp,.adr k o),(cx,.row k')=>match Zas L k with
   |some (.box cs bt)=>if o+1≤cs.length∧sz=1 then some (cp∧cx,fr,Zat L k (.box (Zac cs o [.row k']) bt)) else none
   |_=>none
  |(cp,.adr k o),(cx,.mp k')=>match Zas L k,Zas L k' with
   |some (.box cs bt),some (.map ..)=>if o+1≤cs.length∧sz=1 then some (cp∧cx,fr,Zat L k (.box (Zac cs o [.mp k']) bt)) else none
   |_,_=>none
  |(cp,.adr k o),(cx,.fn f [])=>match Zas L k with
   |some (.box cs bt)=>if o+1≤cs.length∧sz=1 then some (cp∧cx,fr,Zat L k (.box (Zac cs o [.p (.clo f [])]) bt)) else none
   |_=>none
  |(cp,.rad k z i o),(cx,.p v)=>match Zas L k with
   |some (.row es e z' ap)=>if z'=z∧o+sz≤z∧(Zz v).length=sz∧Zaa (Zz v)=true then some (cp∧cx∧i < es.length,fr,Zat L k (.row (es.set i (Zab (es.getD i []) o ((Zz v).map wk1))) e z ap)) else none
   |some (.rowv es e z')=>if z'=z∧o+sz≤z∧(Zz v).length=sz∧Zaa (Zz v)=true then some (cp∧cx∧i < es.length,fr,Zat L k (.rowv (es.set i (Zac (es.getD i []) o ((Zz v).map .p))) e z)) else none
   |_=>none
  |(cp,.rad k z i o),(cx,.row k')=>match Zas L k with
   |some (.rowv es e z')=>if z'=z∧o+1≤z∧sz=1 then some (cp∧cx∧i < es.length,fr,Zat L k (.rowv (es.set i (Zac (es.getD i []) o [.row k'])) e z)) else none
   |_=>none
  |_,_=>none
 |.app e z by_ x y=>match d,(rd fr x).un,Zw L (rd fr y).un.2 with
  |some d,(cx,.row (.l i)),some (z2,es2)=>match Zas L (.l i) with
   |some (.row es e' z' true)=>if e'=e∧z'=z∧z2=z then some (cx∧(rd fr y).un.1∧(es.length+es2.length) * by_≤140737488355328,(fr.map (·.kill (.l i))).set d (.row (.l i)),Zav L (.l i) (.row (es++es2) e z true)) else none
   |some (.rowv es e' z')=>if e'=e∧z'=z∧z2=z then some (cx∧(rd fr y).un.1∧(es.length+es2.length) * by_≤140737488355328,(fr.map (·.kill (.l i))).set d (.row (.l i)),Zav L (.l i) (.rowv (es.map (·.map (·.kill (.l i)))++es2.map (·.map .p)) e z)) else none
   |_=>none
  |some d,(cx,.row (.l i)),none=>match Zas L (.l i),(rd fr y).un.2 with
   |some (.rowv es e' z'),.row j=>match Zas L j with
    |some (.rowv es2 _ z2)=>if e'=e∧z'=z∧z2=z then some (cx∧(rd fr y).un.1∧(es.length+es2.length) * by_≤140737488355328,(fr.map (·.kill (.l i))).set d (.row (.l i)),Zav L (.l i) (.rowv (es.map (·.map (·.kill (.l i)))++es2.map (·.map (·.kill (.l i)))) e z)) else none
    |_=>none
   |_,_=>none
  |some d,(cx,.p (.nl _)),some (z2,es2)=>if z2=z then some (cx∧(rd fr y).un.1∧es2.length * by_≤140737488355328,(fr.map (·.kill (.l d))).set d (.row (.l d)),Zav L (.l d) (.row es2 e z true)) else none
  |_,_,_=>none
 |.aps e x y=>match d,(rd fr x).un,(rd fr y).un with
  |some d,(cx,.row (.l i)),(cy,.p (.str s))=>match Zas L (.l i) with
   |some (.row es e' z' true)=>if e'=e∧z'=1 then some (cx∧cy∧es.length+s.length≤140737488355328,(fr.map (·.kill (.l i))).set d (.row (.l i)),Zav L (.l i) (.row (es++ql1 s) e 1 true)) else none
   |_=>none
  |_,_,_=>none
 |.bsr e z parts=>match d,Zao fr z parts with
  |some d,some (c,es)=>match parts with
   |[.c (.nl z0)]=>if z=1 then some (True,(fr.map (·.kill (.l d))).set d (.row (.l d)),Zav L (.l d) (.rowv [[.p (.nl z0)]] e 1)) else none
   |_=>some (c,(fr.map (·.kill (.l d))).set d (.row (.l d)),Zav L (.l d) (.row es e z true))
  |some d,none=>match parts with
   |[.t s]=>match fr[s]? with
    |some (.row k)=>if k≠.l d∧z=1 then some (True,(fr.map (·.kill (.l d))).set d (.row (.l d)),Zav L (.l d) (.rowv [[.row k]] e 1)) else none
    |some (.ag l)=>match Zba (l.map Zah) with
     |some _=>if l.length=z then some (True,(fr.map (·.kill (.l d))).set d (.row (.l d)),Zav L (.l d) (.rowv [l.map Zah] e z)) else none
     |none=>none
    |_=>none
   |_=>none
  |none,_=>none
 |.s2b e x=>match d,(rd fr x).un with
  |some d,(c,.p (.str l))=>some (c∧l.length≤140737488355328,(fr.map (·.kill (.l d))).set d (.row (.l d)),Zav L (.l d) (.row (l.map fun q=>[.int .u8 (q.toNat:Nat)]) e 1 false))
  |_,_=>none
 |.mks e z by_ zero x y=>match d,(rd fr x).un,(rd fr y).un with
  |some d,(cx,.p (.int _ n)),(cy,.p (.int _ c))=>some (cx∧cy∧0≤n∧n≤c∧c * by_≤140737488355328,(fr.map (·.kill (.l d))).set d (.row (.l d)),Zav L (.l d) (.row (zD n.toNat (zero.map wk1)) e z true))
  |_,_,_=>none
 |.apz e z by_ zero x y=>match d,(rd fr x).un,(rd fr y).un with
  |some d,(cx,.p (.nl _)),(cy,.p (.int _ n))=>some (cx∧cy∧0 < n∧n * by_≤140737488355328,(fr.map (·.kill (.l d))).set d (.row (.l d)),Zav L (.l d) (.row (zD n.toNat (zero.map wk1)) e z true))
  |some d,(cx,.row (.l i)),(cy,.p (.int _ n))=>match Zas L (.l i) with
   |some (.row es e' z' true)=>if e'=e∧z'=z then some (cx∧cy∧0≤n∧(es.length+n) * by_≤140737488355328,(fr.map (·.kill (.l i))).set d (.row (.l i)),Zav L (.l i) (.row (es++zD n.toNat (zero.map wk1)) e z true)) else none
   |_=>none
  |_,_,_=>none
 |.trn z x y=>match d,(rd fr x).un,(rd fr y).un with
  |some d,(cx,.row (.l i)),(cy,.p (.int _ h))=>match Zas L (.l i) with
   |some (.row es e z' ap)=>if z'=z∧ap=true then some (cx∧cy∧0≤h∧h≤es.length,(fr.map (·.kill (.l i))).set d (.row (.l i)),Zav L (.l i) (.row (es.take h.toNat) e z true)) else none
   |_=>none
  |_,_,_=>none
 |.mkm kt et=>match d with
  |some d=>some (True,(fr.map (·.kill (.l d))).set d (.mp (.l d)),Zav L (.l d) (.map [] kt et))
  |none=>none
 |.mpu m k v=>match d,(rd fr m).un,(rd fr k).un,(rd fr v).un with
  |none,(cm,.mp q),(ck,.p (.str s)),(cv,.p x)=>match Zas L q with
   |some (.map kv kt et)=>some (cm∧ck∧cv,fr,Zat L q (.map (mpS kv s x) kt et))
   |some (.mapv kv kt et)=>some (cm∧ck∧cv,fr,Zat L q (.mapv (mpS kv s (.p x)) kt et))
   |_=>none
  |none,(cm,.mp q),(ck,.p (.str s)),(cv,.row q')=>match Zas L q with
   |some (.mapv kv kt et)=>some (cm∧ck∧cv,fr,Zat L q (.mapv (mpS kv s (.row q')) kt et))
   |_=>none
  |_,_,_,_=>none
 |.mkk ks kt et=>match d with
  |some d=>some (True,(fr.map (·.kill (.l d))).set d (.mp (.l d)),Zav L (.l d) (.mapg (.fl ks) [] kt et))
  |none=>none
 |.mpuk ks m k v=>match d,(rd fr m).un,(rd fr k).un,(rd fr v).un with
  |none,(cm,.mp q),(ck,.p (.agg cs)),(cv,.p x)=>match Zas L q with
   |some (.mapg (.fl ks') kv kt et)=>if ks'=ks∧ok_Ks ks cs=true then some (cm∧ck∧cv,fr,Zat L q (.mapg (.fl ks) (mpS kv (qbG cs) x) kt et)) else none
   |_=>none
  |_,_,_,_=>none
 |.mpd m k=>match (rd fr m).un,(rd fr k).un with
  |(cm,.mp q),(ck,.p (.str s))=>match Zas L q with
   |some (.map kv kt et)=>some (cm∧ck,Zg fr d (.p (.tup [])),Zat L q (.map (mpX kv s) kt et))
   |_=>none
  |_,_=>none
 |.cpy z x y=>match (rd fr x).un,Zw L (rd fr y).un.2 with
  |(cx,.row q),some (z2,es2)=>match Zas L q with
   |some (.row es e z' ap)=>if z'=z∧z2=z then some (cx∧(rd fr y).un.1,Zg fr d (.p (.int .i64 (min es2.length es.length:Nat))),Zat L q (.row (es2.take es.length++es.drop es2.length) e z ap)) else none
   |_=>none
  |_,_=>none
 |.stk n sz p x=>match (rd fr p).un,(rd fr x).un with
  |(cp,.adr k o),(cx,.p v)=>if k=.l n then match Zas L (.l n) with
   |some (.box cs bt)=>if o+sz≤cs.length∧(Zz v).length=sz∧Zaa (Zz v)=true then some (cp∧cx,fr,Zat L (.l n) (.box (Zac cs o ((Zz v).map .p)) bt)) else none
   |_=>none
   else none
  |(cp,.adr k o),(cx,.row k')=>if k=.l n then match Zas L (.l n) with
   |some (.box cs bt)=>if o+1≤cs.length∧sz=1 then some (cp∧cx,fr,Zat L (.l n) (.box (Zac cs o [.row k']) bt)) else none
   |_=>none
   else none
  |_,_=>none
 |.mpk n m k v=>match d,(rd fr m).un,(rd fr k).un,(rd fr v).un with
  |none,(cm,.mp q),(ck,.p (.str s)),(cv,.p x)=>if q=.l n then match Zas L (.l n) with
   |some (.map kv kt et)=>some (cm∧ck∧cv,fr,Zat L (.l n) (.map (mpS kv s x) kt et))
   |_=>none
   else none
  |_,_,_,_=>none
 |.rng x=>match d,(rd fr x).un with
  |some d,(c,.p (.mpv ks vs))=>some (c,(fr.map (·.kill (.l d))).set d (.adr (.l d) 0),Zav L (.l d) (.mit none (ks.zip vs)))
  |_,_=>none
 |.alcd t zero=>match d with
  |some d=>some (Zam d fr L∧Zas L (.l d)=some Zan,fr.set d (.adr (.l d) 0),Zat L (.l d) (.box (zero.map .p) t))
  |none=>none
 |.bsrd e z parts=>match d,Zao fr z parts,qkz parts with
  |some d,some (c,es),false=>some ((Zam d fr L∧Zas L (.l d)=some Zan)∧c,fr.set d (.row (.l d)),Zat L (.l d) (.row es e z true))
  |_,_,_=>none
 |.stg sz p x=>match (rd fr p).un,(rd fr x).un with
  |(cp,.adr k o),(cx,.ag l)=>match Zas L k with
   |some (.box cs bt)=>if o+sz≤cs.length∧l.length=sz then some (cp∧cx,fr,Zat L k (.box (Zac cs o (l.map Zah)) bt)) else none
   |_=>none
  |_,_=>none
 |op=>(Zf fr L op).map fun q=>(q.1,Zg fr d q.2,L)
def Zi (want:Bool):AV→Option Bool
 |.p (.bool b)=>some (b == want)
 |.g c a=>match Zi want a with
  |some b=>some (c && b)
  |none=>bif c then none else some false
 |_=>none
def Zh (fr:List AV) (s:Nat) (want:Bool):Option Bool:=Zi want (fr.getD s .any)
def Zm (fr:List AV):List Opd→Prop
 |[]=>True
 |x :: r=>(rd fr x).un.1∧Zm fr r
def Zn (fr:List AV) (args:List Opd):List AV:=args.map fun x=>(rd fr x).un.2
def Zal (L L':Objs):List CV→Bool
 |[]=>true
 |.p _ :: r=>Zal L L' r
 |.row k :: r=>(Zas L k).isSome && (Zas L' k).isSome && Zal L L' r
 |.mp k :: r=>(Zas L k).isSome && (Zas L' k).isSome && Zal L L' r
def CV.key:CV→Option Key
 |.p _=>none
 |.row k=>some k
 |.mp k=>some k
inductive RV where
 |p (x:PV)
 |fr (es:List (List PV)) (e:TypeId) (z:Nat)
 |ft (es:List (List PV)) (e:TypeId) (z:Nat) (ps:List PV)
def FrOk (w:World) (U:Nat→Prop) (n:Nat) (es:List (List PV)) (e:TypeId) (z:Nat) (v:Value):Prop:=
 ∃ vs,RowOk w e z true v es.length vs∧(∀ u∈vs,u.oneCell'=true)∧PRepL w (fun b=>U b∨blk v=some b) es.flatten vs∧(∀ x∈es,x.length=z)∧∀ b,blk v=some b→n≤b
def RVok (w:World) (U:Nat→Prop) (n:Nat):RV→Value→Prop
 |.p x,v=>PRep w U x v
 |.fr es e z,v=>FrOk w U n es e z v
 |.ft es e z ps,v=>∃ (u:Value) (us:List Value),v=.tuple (u :: us).toArray∧FrOk w U n es e z u∧PRepL w (fun b=>U b∨blk u=some b) ps us
def fstV:Value→Value
 |.tuple vs=>vs.getD 0 undef
 |v=>v
def RV.own:RV→Value→Nat→Prop
 |.p _,_,_=>False
 |.fr ..,v,b=>blk v=some b
 |.ft ..,v,b=>blk (fstV v)=some b
inductive OS where
 |box (t:TypeId) (cs:List PV)
 |row (e z:Nat) (es:List (List PV))
def OS.ao:OS→AO
 |.box t cs=>.box (cs.map .p) t
 |.row e z es=>.row es e z true
def ObjAt (w:World) (U:Nat→Prop) (v:Value):OS→Prop
 |.box t cs=>∃ (b:Nat) (vs:List Value),v=.pointer (some ⟨b,0,none⟩)∧w.heap[b]?=some (.cells vs.toArray t (0,0))∧(∀ u∈vs,u.oneCell'=true)∧PRepL w U cs vs
 |.row e z es=>∃ vs:List Value,RowOk w e z true v es.length vs∧(∀ u∈vs,u.oneCell'=true)∧PRepL w U es.flatten vs∧∀ x∈es,x.length=z
theorem ObjAt.ok {w:World} {U:Nat→Prop} {ι:Key→Value} {k:Key} {os:OS} (h:ObjAt w U (ι k) os):ObjOk w U ι k os.ao:=by
 cases os with
 |box t cs=>
  obtain ⟨b,vs,e1,e2,e3,e4⟩:=h
  refine ⟨b,vs,e1,e2,by simpa using e4.length,e3,fun j x hx=>?_⟩
  rw [zy,zh] at hx
  obtain ⟨y,hy,rfl⟩:=hx
  exact e4.get hy
 |row e z es=>exact h
theorem ObjAt.of {w:World} {U:Nat→Prop} {ι:Key→Value} {k:Key} {os:OS} (h:ObjOk w U ι k os.ao):ObjAt w U (ι k) os:=by
 cases os with
 |box t cs=>
  obtain ⟨b,vs,e1,e2,e3,e4,e5⟩:=h
  refine ⟨b,vs,e1,e2,e4,PRepL.of_get (by simpa using e3) (fun j x u hx hu=>?_)⟩
  obtain ⟨u',hu',hr'⟩:=e5 j (.p x) (by rw [zy,hx];rfl)
  rw [hu'] at hu
  cases hu
  exact hr'
 |row e z es=>exact h
theorem ObjAt.mono {w w':World} {U U':Nat→Prop} {v:Value} {os:OS} (hk:Keeps w w' U U') (hb:∀ b,blk v=some b→w'.heap[b]?=w.heap[b]?) (h:ObjAt w U v os):ObjAt w' U' v os:=by
 cases os with
 |box t cs=>
  obtain ⟨b,vs,e1,e2,e3,e4⟩:=h
  exact ⟨b,vs,e1,by rw [hb b (by rw [e1];rfl)];exact e2,e3,PRepL.mono hk _ _ e4⟩
 |row e z es=>
  obtain ⟨vs,h1,h2,h3,h4⟩:=h
  refine ⟨vs,⟨h1.1,?_⟩,h2,PRepL.mono hk _ _ h3,h4⟩
  rcases h1.2 with g1|⟨g,cap,cur,fz,g1,g2,rest⟩
  ·exact .inl g1
  ·exact .inr ⟨g,cap,cur,fz,g1,by rw [hb g (by rw [g1];rfl)];exact g2,rest⟩
def GC (P:Program) (E:Envt) (f:FuncId) (as:List AV) (L:Objs) (bk:Option (Key×OS)) (post:RV→OS→Prop):Prop:=
 ∀ w X ι vs,Sim w X L ι→(∀ b,X b→b < w.heap.size∧¬ Own L ι b)→E.ok w→(∀ b,E.bl b→b < w.heap.size∧¬ Own L ι b)→ARepL w (fun b=>Own L ι b∨X b) ι as vs→
  Calls P f vs.toArray w fun e w'=>∃ v r os',e=.returned v∧post r os'∧RVok w' (fun b=>Own L ι b∨X b) w.heap.size r v∧
   (match bk with
    |none=>Grow w w' (fun _=>False)
    |some (k,_)=>Grow w w' (Old L ι k)∧ObjAt w' (fun b=>(Own L ι b∨X b)∨r.own v b) (ι k) os')
def putB (L:Objs) (bk:Option (Key×OS)) (os':OS):Objs:=
 match bk with
 |none=>L
 |some (k,_)=>Zat L k os'.ao
def hasB (L:Objs) (bk:Option (Key×OS)):Prop:=
 match bk with
 |none=>True
 |some (k,os)=>Zas L k=some os.ao
def Zbl (d:Option Nat) (bk:Option (Key×OS)):Prop:=
 match bk,d with
 |some (k,_),some d=>k≠.l d
 |_,_=>True
def resK (d:Option Nat) (fr:List AV) (L:Objs) (K:List AV→Objs→Prop):RV→Prop
 |.p x=>K (Zg fr d (.p x)) L
 |.fr es e z=>match d with
  |some d=>K ((fr.map (·.kill (.l d))).set d (.row (.l d))) (Zav L (.l d) (.row es e z true))
  |none=>K fr L
 |.ft es e z ps=>match d with
  |some d=>K ((fr.map (·.kill (.l d))).set d (.tr (.l d) ps)) (Zav L (.l d) (.row es e z true))
  |none=>K fr L
def qa5 (P:Program) (E:Envt) (f:FuncId) (as:List AV) (L:Objs) (d:Option Nat) (fr:List AV) (K:List AV→Objs→Prop):Prop:=
 (∃ φ:PV→Prop,qg5 P E f as L φ∧∀ x,φ x→K (Zg fr d (.p x)) L)∨
 (∃ bk post,GC P E f as L bk post∧hasB L bk∧Zbl d bk∧∀ r os',post r os'→resK d fr (putB L bk os') K r)∨
 ∃ i,Call P E f as L i (fun r L'=>K (Zg (fr.map (·.kill (.l i))) d r) L')
def DCallOp (b:Bool) (P:Program) (E:Envt) (f:FuncId) (as:List AV) (L:Objs) (d:Option Nat) (fr:List AV) (K:List AV→Objs→Prop):Prop:=
 ∃ (k:Key) (t:TypeId) (cs:List PV) (post:PV→List PV→Prop),(∀ L',Zas L' k=some (.box (cs.map .p) t)→GC P E f as L' (some (k,.box t cs)) (fun r os'=>∃ x cs',r=.p x∧os'=.box t cs'∧post x cs'))∧Zas L k=some (.box (cs.map .p) t)∧(∀ e,d=some e→k≠.l e)∧(b=true→∃ j,k=.b j)∧(∃ x cs',post x cs')∧
  ∀ x cs',post x cs'→K (Zg fr d (.p x)) (Zat L k (.box (cs'.map .p) t))
def qoY (c0:Bool) (P:Program) (E:Envt) (f:FuncId) (as:List AV) (L:Objs) (d:Option Nat) (fr:List AV) (K:List AV→Objs→Prop):Prop:=
 (∃ x:PV,(c0=true→qg5 P E f as L (·=x))∧K (Zg fr d (.g c0 (.p x))) L)∨((c0=true→qa5 P E f as L d fr K)∧(c0=false→K (Zg fr d (.g c0 .any)) L))
def Zaq (fr:List AV) (L:Objs) (x:Opd):Option (Key×PV):=
 match (rd fr x).un.2 with
 |.row k=>match Zas L k with
  |some (.row es _ z _)=>some (k,.sl z es)
  |some (.rowv es _ z)=>(Zbb es).map fun es=>(k,.sl z es)
  |_=>none
 |.mp k=>match Zas L k with
  |some (.mapg κ kv _ _)=>some (k,.mpg κ (kv.map (·.1)) (kv.map (·.2)))
  |some (.mapv kv _ _)=>(Zbc kv).map fun kv=>(k,.mpv (kv.map (·.1)) (kv.map (·.2)))
  |_=>none
 |_=>none
def Zar (fr:List AV) (x:Opd):Option (FuncId×List AV):=
 match (rd fr x).un with
 |(_,.fn f ks)=>some (f,ks.map fun k=>.adr k 0)
 |(_,.p (.clo f ps))=>some (f,ps.map .p)
 |_=>none
def Zl (L:Objs):List AV→Bool
 |[]=>true
 |.adr k _ :: r=>(match Zas L k with|some (.box _ _)=>true|_=>false) && Zl L r
 |_ :: r=>Zl L r
def fnB (P:Program) (f:FuncId):Bool:=
 match P.funcs[f]? with
 |some fn=>fn.body.isSome && fn.name != "runtime.NumGoroutine"
 |none=>false
def qdn:List AV→Option (List PV)
 |[]=>some []
 |.p x :: r=>(qdn r).map (x :: ·)
 |_ :: _=>none
theorem ql8 {as:List AV}:∀ {ps:List PV},qdn as=some ps→as=ps.map .p:=by
 induction as with
 |nil=>intro ps h;simp only [qdn,zg] at h;subst h;rfl
 |cons a as ih=>
  intro ps h
  cases a with
  |p x=>
   simp only [qdn,zh] at h
   obtain ⟨l,h1,rfl⟩:=h
   rw [zx,← ih h1]
  |_=>simp [qdn] at h
def FrC (P:Program) (E:Envt) (f:FuncId) (ps:List PV) (e z:Nat) (es:List (List PV)):Prop:=∀ L,GC P E f (ps.map .p) L none (fun r _=>r=.fr es e z)
def ReOk (E:Envt) (fr:List AV) (L:Objs) (fr':List AV) (L':Objs):Prop:=∀ B w ι a,StF E B w L ι fr a→∃ ι',StF E B w L' ι' fr' a
def qbW:IOp→Bool
 |.ldl ..|.ldn ..|.stk ..|.mpk ..|.dcall ..|.dead|.isn _|.hole _|.alcd ..|.bsrd ..|.re|.nxt _|.fcl ..|.pcv ..|.pcl ..=>false
 |_=>true
def qaa (P:Program) (E:Envt) (X:List PV):List IOper→List AV→Objs→(List AV→Objs→Prop)→Prop
 |[],fr,L,K=>K fr L
 |⟨d,op,gd⟩ :: is,fr,L,K=>
  match gd with
  |none=>match op with
   |.call f args=>Zm fr args∧qa5 P E f (Zn fr args) L d fr (fun fr L=>qaa P E X is fr L K)
   |.dcall b f args=>Zm fr args∧DCallOp b P E f (Zn fr args) L d fr (fun fr L=>qaa P E X is fr L K)
   |.pcall n f args=>(Zm fr args∧qg5 P E f (Zn fr args) L (·=X.getD n (.bool false)))∧qaa P E X is (Zg fr d (.p (X.getD n (.bool false)))) L K
   |.callv g args=>match Zar fr g with
    |some (f,ks)=>(rd fr g).un.1∧fnB P f=true∧Zl L ks=true∧Zm fr args∧qa5 P E f (Zn fr args++ks) L d fr (fun fr L=>qaa P E X is fr L K)
    |none=>False
   |.pcl n f args=>match qdn (Zn fr args) with
    |some ps=>(Zm fr args∧∀ L',qg5 P E f (ps.map .p) L' (·=X.getD n (.bool false)))∧qaa P E X is (Zg fr d (.p (X.getD n (.bool false)))) L K
    |none=>False
   |.pcv n g args=>match Zar fr g with
    |some (f,ks)=>((rd fr g).un.1∧fnB P f=true∧Zl L ks=true∧Zm fr args∧qg5 P E f (Zn fr args++ks) L (·=X.getD n (.bool false)))∧qaa P E X is (Zg fr d (.p (X.getD n (.bool false)))) L K
    |none=>False
   |.fz x=>match Zaq fr L x with
    |some (k,y)=>qaa P E X is (fr.map (·.thaw k y)) (Zaw k y L) K
    |none=>qaa P E X is fr L K
   |.isn x=>match Zw L (rd fr x).un.2 with
    |some (_,es)=>(rd fr x).un.1∧∀ b:Bool,(b=true→es=[])→qaa P E X is (Zg fr d (.p (.bool b))) L K
    |none=>False
   |.nxt x=>match Za fr L x with
    |some (k,kv)=>(rd fr x).un.1∧(kv=[]→qaa P E X is (Zg fr d (.p (.tup [.bool false]))) L K)∧∀ (i:Nat) (p:List UInt8×PV),kv[i]?=some p→qaa P E X is (Zg fr d (.p (.tup [.bool true,.str p.1,p.2]))) (Zat L k (.mit (some p) (kv.eraseIdx i))) K
    |none=>False
   |.hole e=>qaa P E X is ((fr.map (·.kill (.l e))).set e .any) (Zav L (.l e) Zan) K
   |.fcl n f args e z=>match d,qdn (Zn fr args),X.getD n (.bool false) with
    |some d,some ps,.sl z' es=>((Zam d fr L∧Zas L (.l d)=some Zan)∧Zm fr args∧z'=z∧FrC P E f ps e z es)∧qaa P E X is (fr.set d (.row (.l d))) (Zat L (.l d) (.row es e z true)) K
    |_,_,_=>False
   |.re=>∃ fr' L',ReOk E fr L fr' L'∧qaa P E X is fr' L' K
   |op=>match Ze d fr L op with
    |some (c,fr',L')=>c∧qaa P E X is fr' L' K
    |none=>False
  |some (s,want)=>match Zh fr s want with
   |some c0=>match op with
    |.call f args=>(c0=true→Zm fr args)∧qoY c0 P E f (Zn fr args) L d fr (fun fr L=>qaa P E X is fr L K)
    |.pcall n f args=>(c0=true→Zm fr args∧qg5 P E f (Zn fr args) L (·=X.getD n (.bool false)))∧qaa P E X is (Zg fr d (.g c0 (.p (X.getD n (.bool false))))) L K
    |.callv g args=>match Zar fr g with
     |some (f,ks)=>(fnB P f=true∧Zl L ks=true)∧(c0=true→(rd fr g).un.1∧Zm fr args)∧qoY c0 P E f (Zn fr args++ks) L d fr (fun fr L=>qaa P E X is fr L K)
     |none=>c0=false∧qaa P E X is (Zg fr d (.g c0 .any)) L K
    |.pcl n f args=>match qdn (Zn fr args) with
     |some ps=>(c0=true→Zm fr args∧∀ L',qg5 P E f (ps.map .p) L' (·=X.getD n (.bool false)))∧qaa P E X is (Zg fr d (.g c0 (.p (X.getD n (.bool false))))) L K
     |none=>False
    |.pcv n g args=>match Zar fr g with
     |some (f,ks)=>(c0=true→(rd fr g).un.1∧fnB P f=true∧Zl L ks=true∧Zm fr args∧qg5 P E f (Zn fr args++ks) L (·=X.getD n (.bool false)))∧qaa P E X is (Zg fr d (.g c0 (.p (X.getD n (.bool false))))) L K
     |none=>False
    |op=>match Zf fr L op with
     |some (c,r)=>(c0=true→c)∧qaa P E X is (Zg fr d (.g c0 r)) L K
     |none=>qbW op=true∧c0=false∧qaa P E X is (Zg fr d (.g c0 .any)) L K
   |none=>False
def BrQ (b:Bool) (x y:Prop):Prop:=(b=true→x)∧(b=false→y)
def awp (P:Program) (E:Envt):IC→List AV→Objs→AQ→Prop
 |.skip,fr,L,Q=>Q .normal fr L
 |.reg ops,fr,L,Q=>qaa P E [] ops fr L (Q .normal)
 |.drg ops,fr,L,Q=>∃ X,qaa P E X ops fr L (Q .normal)
 |.drp _ ops,fr,L,Q=>∃ X,qaa P E X ops fr L (Q .normal)
 |.seq x y,fr,L,Q=>awp P E x fr L (qfh (fun fr L=>awp P E y fr L Q) Q)
 |.cond c x y,fr,L,Q=>match (rd fr c) with
  |.p (.bool b)=>BrQ b (awp P E x fr L Q) (awp P E y fr L Q)
  |_=>False
 |.block id x,fr,L,Q=>awp P E x fr L (qiN id Q)
 |.loop x,fr,L,Q=>∃ (I:Nat→List AV→Objs→Prop),(∃ n fr' L',ReOk E fr L fr' L'∧I n fr' L')∧∀ n fr L,I n fr L→awp P E x fr L (qfh (fun fr L=>∃ m fr' L',m < n∧ReOk E fr L fr' L'∧I m fr' L') Q)
 |.exit id,fr,L,Q=>Q (.exit id) fr L
 |.ret,fr,L,Q=>Q .ret fr L
 |.cut x,fr,L,Q=>∃ fr' L',ReOk E fr L fr' L'∧awp P E x fr' L' Q
 |.dead,_,_,_=>False
def strT (P:Program) (t:TypeId):Bool:=match P.underlying t with|some .string=>true|_=>false
def qwN (P:Program) (t:TypeId):Bool:=match P.underlying t with|some .bool=>true|_=>false
def slT (P:Program) (t:TypeId):Option TypeId:=match P.underlying t with|some (.slice e)=>some e|_=>none
def intT (P:Program) (t:TypeId):Option IntKind:=match P.underlying t with|some (.int k)=>some k|_=>none
def qaB (P:Program):Op→IOp→Bool
 |.move x,.mov y=>qaf x y
 |.assign x,.mov y=>qaf x y
 |.move x,.nilr e z=>qaf x (.c (.nl z))
 |.assign x,.nilr e z=>qaf x (.c (.nl z))
 |.pick c x y,.pick c' x' y'=>qaf c c' && qaf x x' && qaf y y'
 |.binOp op t x y _,.bin op' x' y'=>op == op' && qaf x x' && qaf y y'
 |.binOp op t x y _,.bnb op' x' y'=>op == op' && qaf x x' && qaf y y' && qwN P t
 |.binOp op t x y _,.eqa neg ks x' y'=>op == (if neg then .neq else .eql) && qaf x x' && qaf y y' && qwj P t ks
 |.unOp .not t x,.not x'=>qaf x x'
 |.unOp .neg t x,.neg x'=>qaf x x'
 |.call { callee:=.builtin .len,args:=args,argTypes:=ts },.len x'=>match args.toList,ts.toList with
  |[x],[t]=>qaf x x' && (slT P t).isSome
  |_,_=>false
 |.call { callee:=.builtin .len,args:=args,argTypes:=ts },.sln x'=>match args.toList,ts.toList with
  |[x],[t]=>qaf x x' && strT P t
  |_,_=>false
 |.call { callee:=.builtin .max,args:=args,argTypes:=ts },.mx x' y'=>match args.toList with
  |[x,y]=>qaf x x' && qaf y y'
  |_=>false
 |.call { callee:=.builtin .min,args:=args,argTypes:=ts },.mn x' y'=>match args.toList with
  |[x,y]=>qaf x x' && qaf y y'
  |_=>false
 |.index t x i,.idx x' i'=>qaf x x' && qaf i i' && strT P t
 |.slice t x lo hi none,.ssl x' lo' hi'=>qaf x x' && qiX lo lo' && qiX hi hi' && strT P t
 |.slice t x lo hi none,.vsl z x' lo' hi'=>qaf x x' && qiX lo lo' && qiX hi hi' && (match slT P t with|some e=>qa7 P e z|none=>false)
 |.indexAddr t x i,.ixa z x' i'=>qaf x x' && qaf i i' && (match slT P t with|some e=>qa7 P e z|none=>false)
 |.fieldAddr s x f,.fla off x'=>qaf x x' && (match P.underlying s with
  |some (.struct fs)=>match fs[f]? with
   |some fd=>fd.offset == off && decide (0 < P.cellsOf fd.type)
   |none=>false
  |_=>false)
 |.field s x f,.fld off sz ag x'=>qaf x x' && (match P.underlying s with
  |some (.struct fs)=>match fs[f]? with
   |some fd=>fd.offset == off && qa7 P fd.type sz && aggB P fd.type ag && (ag || sz == 1)
   |none=>false
  |_=>false)
 |.load t x,.ld sz ag x'=>qaf x x' && qa7 P t sz && aggB P t ag && (ag || sz == 1)
 |.extract x i,.ext i' x'=>qaf x x' && i == i'
 |.build t parts,.bld zero parts'=>qfw P t zero && (match P.underlying t with
  |some (.array _ e)=>qa7 P e (P.cellsOf e) && qce P (fun i=>some (i * P.cellsOf e,P.cellsOf e)) zero.length parts.toList parts'
  |some (.struct fs)=>qce P ((fs.map fun f=>(f.offset,P.cellsOf f.type))[·]?) zero.length parts.toList parts' && (fs.toList.all fun f=>(P.info? f.type).isSome)
  |_=>false)
 |.convert s d x,.cvi k x'=>qaf x x' && (P.underlying s).isSome && intT P d == some k
 |.convert s d x,.cvs x'=>qaf x x' && (intT P s).isSome && strT P d
 |.convert s d x,.b2s x'=>qaf x x' && strT P d && (match slT P s with|some e=>intT P e == some .u8|none=>false)
 |.convert s d x,.s2b e x'=>qaf x x' && (P.underlying s).isSome && slT P d == some e && intT P e == some .u8
 |.buildSlice t n parts,.bsl z parts'=>(match slT P t with|some e=>qa7 P e z && ((P.info? e).bind (·.zero)).isSome|none=>false) && parts.toList.length == n && decide (n * z≤16777216) && qbd 0 parts.toList parts'
 |.buildSlice t n parts,.bsr e z parts'=>slT P t == some e && qa7 P e z && ((P.info? e).bind (·.zero)).isSome && parts.toList.length == n && decide (n * z≤16777216) && decide (n≤16777216) && qbd 0 parts.toList parts'
 |.nilCheck x,.nck x'=>qaf x x'
 |.binOp op t x (.const .nilIface) _,.nli neg x'=>op == (if neg then .neq else .eql) && qaf x x' && qpo P t
 |.makeInterface t x,.mki t' x'=>t == t' && qaf x x' && P.concrete t
 |.makeFunc (.func f) first caps,.mkf f' caps'=>f == f' && first.toList.isEmpty && qbZ caps.toList caps'
 |.alloc t,.alc t' zero=>t == t' && qfw P t zero
 |.box t x,.box t' x'=>t == t' && qaf x x'
 |.store t p x,.st sz p' x'=>qaf p p' && qaf x x' && qa7 P t sz
 |.call { callee:=.builtin .append,args:=args,argTypes:=ts },.app e z by_ x' y'=>match args.toList,ts.toList with
  |[x,y],[t,t']=>t == t' && qaf x x' && qaf y y' && slT P t == some e && appB P e z by_
  |_,_=>false
 |.makeSlice t x y,.mks e z by_ zero x' y'=>qaf x x' && qaf y y' && slT P t == some e && appB P e z by_ && qfw P e zero
 |.call { callee:=.value (.func f),args:=args,argTypes:=ts },.call f' args'=>f == f' && fnB P f && qbZ args.toList args'
 |.call { callee:=.value (.func f),args:=args,argTypes:=ts },.pcall _ f' args'=>f == f' && fnB P f && qbZ args.toList args'
 |.call { callee:=.value (.tmp g),args:=args,argTypes:=ts },.callv (.t g') args'=>g == g' && qbZ args.toList args'
 |.call { callee:=.value (.tmp g),args:=args,argTypes:=ts },.pcv _ (.t g') args'=>g == g' && qbZ args.toList args'
 |.call { callee:=.builtin .cap,args:=args,argTypes:=ts },.cap0 x'=>match args.toList,ts.toList with
  |[x],[t]=>qaf x x' && (slT P t).isSome
  |_,_=>false
 |.slice t x none (some hi) none,.vsn x' hi'=>qaf x x' && qaf hi hi' && (match slT P t with|some e=>(P.info? e).isSome|none=>false)
 |.slice t x none (some hi) none,.trn z x' hi'=>qaf x x' && qaf hi hi' && (match slT P t with|some e=>qa7 P e z|none=>false)
 |.call { callee:=.builtin .append,args:=args,argTypes:=ts },.apz e z by_ zero x' y'=>match args.toList,ts.toList with
  |[x,y],[t,t']=>qaf x x' && qaf y y' && slT P t == some e && (intT P t').isSome && appB P e z by_ && qfw P e zero
  |_,_=>false
 |.makeMap t none,.mkm kt et=>match P.underlying t with
  |some (.map kt' et')=>kt' == kt && et' == et
  |_=>false
 |.mapUpdate t m k x,.mpu m' k' x'=>qaf m m' && qaf k k' && qaf x x' && (match P.underlying t with
  |some (.map kt _)=>strT P kt
  |_=>false)
 |.insert t m k x,.mpu m' k' x'=>qaf m m' && qaf k k' && qaf x x' && (match P.underlying t with
  |some (.map kt _)=>strT P kt
  |_=>false)
 |.lookup t m k ok,.mpl ok' zero m' k'=>ok == ok' && qaf m m' && qaf k k' && (match P.underlying t with
  |some (.map kt et)=>strT P kt && qkl P et zero
  |_=>false)
 |.call { callee:=.builtin .len,args:=args,argTypes:=ts },.mpn x'=>match args.toList,ts.toList with
  |[x],[t]=>qaf x x' && (match P.underlying t with|some (.map ..)=>true|_=>false)
  |_,_=>false
 |.build t parts,.bldg zero parts'=>qfw P t zero && (match P.underlying t with
  |some (.struct fs)=>qce P ((fs.map fun f=>(f.offset,P.cellsOf f.type))[·]?) zero.length parts.toList parts' && (fs.toList.all fun f=>(P.info? f.type).isSome)
  |_=>false)
 |.load t x,.ldg sz x'=>qaf x x' && qa7 P t sz && aggB P t true
 |.store t p x,.stg sz p' x'=>qaf p p' && qaf x x' && qa7 P t sz
 |.binOp op t x y _,.isn x'=>op == .eql && qaf x x' && qaf y (.c (.nl 0)) && (slT P t).isSome
 |.range t x,.rng x'=>qaf x x' && (match P.underlying t with
  |some (.map _ _)=>true
  |_=>false)
 |.next x b,.nxt x'=>qaf x x' && !b
 |.entry x,.ent x'=>qaf x x'
 |.call { callee:=.builtin .delete,args:=args,argTypes:=ts },.mpd m' k'=>match args.toList,ts.toList with
  |[m,k],t :: _=>qaf m m' && qaf k k' && (match P.underlying t with
   |some (.map kt _)=>strT P kt
   |_=>false)
  |_,_=>false
 |.indexAddr t x (.const (.int q v)),.fla off x'=>qaf x x' && (match P.underlying t with
  |some (.array m e)=>decide (0≤v) && decide (v < m) && qa7 P e (P.cellsOf e) && off == v.toNat * P.cellsOf e
  |_=>false)
 |.call { callee:=.builtin .copy,args:=args,argTypes:=ts },.cpy z x' y'=>match args.toList,ts.toList with
  |[x,y],t :: _=>qaf x x' && qaf y y' && (match slT P t with|some e=>qa7 P e z|none=>false)
  |_,_=>false
 |.makeMap t none,.mkk ks kt et=>match P.underlying t with
  |some (.map kt' et')=>kt' == kt && et' == et
  |_=>false
 |.mapUpdate t m k x,.mpuk ks m' k' x'=>qaf m m' && qaf k k' && qaf x x' && (match P.underlying t with
  |some (.map kt _)=>keyT P kt ks
  |_=>false)
 |.insert t m k x,.mpuk ks m' k' x'=>qaf m m' && qaf k k' && qaf x x' && (match P.underlying t with
  |some (.map kt _)=>keyT P kt ks
  |_=>false)
 |.lookup t m k ok,.mplk ok' ks zero m' k'=>ok == ok' && qaf m m' && qaf k k' && (match P.underlying t with
  |some (.map kt et)=>keyT P kt ks && qkl P et zero
  |_=>false)
 |.indexAddr t x i,.ixv z m x' i'=>qaf x x' && qaf i i' && (match P.underlying t with
  |some (.array m' e)=>m' == m && qa7 P e z
  |_=>false)
 |.slice t x (some lo) none none,.asl m x' lo'=>qaf x x' && qaf lo lo' && (match P.underlying t with
  |some (.array m' e)=>m' == m && qa7 P e 1
  |_=>false)
 |.call { callee:=.builtin .append,args:=args,argTypes:=ts },.aps e x' y'=>match args.toList,ts.toList with
  |[x,y],[t,t']=>qaf x x' && qaf y y' && slT P t == some e && strT P t' && qsb P e
  |_,_=>false
 |_,_=>false
def isSt:IOp→Bool
 |.st ..=>true
 |.stg ..=>true
 |_=>false
def qlZ (P:Program) (ops:Array Oper) (o:Oper) (i:IOper):Bool:=
 o.dst == i.dst && qaB P o.op i.op && (!isSt i.op || i.dst == none) &&
 (match o.guard,i.guard with
  |none,none=>true
  |some (j,w),some (s,w')=>w == w' && (ops[j]?).bind (·.dst) == some s
  |_,_=>false)
def IOp.norm:IOp→IOp
 |.ldl s a x=>.ld s a x
 |.ldn _ s a x=>.ld s a x
 |.stk _ s a x=>.st s a x
 |.mpk _ m k v=>.mpu m k v
 |.dcall _ f args=>.call f args
 |.alcd t zero=>.alc t zero
 |.bsrd e z parts=>.bsr e z parts
 |.fcl _ f args _ _=>.call f args
 |.pcl _ f args=>.call f args
 |i=>i
def quO:IOp→Bool
 |.dead=>true
 |_=>false
def qe2 (P:Program) (ops:Array Oper) (o:Oper) (i:IOper):Bool:=
 quO i.op || qlZ P ops o { i with op:=i.op.norm }
def isFz:IOper→Bool
 |⟨none,.fz _,none⟩=>true
 |⟨none,.hole _,none⟩=>true
 |⟨none,.re,none⟩=>true
 |_=>false
def isRe:IOper→Bool
 |⟨none,.re,none⟩=>true
 |_=>false
def qdP (P:Program) (ops:Array Oper):List Oper→List IOper→Bool
 |os,[]=>os.isEmpty
 |os,i :: is=>if isFz i then qdP P ops os is else match os with
  |o :: os=>qe2 P ops o i && qdP P ops os is
  |[]=>false
def qev:List IOper→List IOper
 |[]=>[]
 |i :: is=>if isFz i then qev is else i :: is
def qt4 (P:Program) (ops:Array Oper) (pm:List Nat) (is:List IOper):Bool:=
 let js:=qev is
 pm.length == js.length && (pm.zip js).all fun p=>!isFz p.2 && (match ops[p.1]? with|some o=>qe2 P ops o p.2|none=>false)
def chkC (P:Program) (D:Array Oper→Option (List Nat)→List IOper→Bool):IC→Code→Bool
 |.skip,.skip=>true
 |.reg is,.region _ ops false=>qdP P ops ops.toList is
 |.drg is,.region _ ops true=>qdP P ops ops.toList is && D ops none is
 |.drp pm is,.region _ ops true=>qt4 P ops pm is && D ops (some pm) is
 |.seq x y,.seq a b=>chkC P D x a && chkC P D y b
 |.cond d x y,.cond c a b=>qaf c d && chkC P D x a && chkC P D y b
 |.block j x,.block i a=>i == j && chkC P D x a
 |.loop x,.loop a=>chkC P D x a
 |.exit j,.exit i=>i == j
 |.ret,.ret=>true
 |.cut x,c=>chkC P D x c
 |.dead,_=>true
 |_,_=>false
section
variable {P:Program} {E:Envt} {B:Base} {L:Objs} {fr:List AV} {o:Oper} {w:World} {U:Nat→Prop} {ι:Key→Value} {a:Act}
def GRep (w:World) (U:Nat→Prop) (ι:Key→Value) (cs:List CV) (vs:List Value):Prop:=
 vs.length=cs.length∧∀ (j:Nat) (x:CV),cs[j]?=some x→∃ v,vs[j]?=some v∧v.oneCell'=true∧CRep w U ι x v
theorem GRep.set {cs:List CV} {vs:List Value} (h:GRep w U ι cs vs) (i:Nat) {x:CV} {v:Value} (h1:v.oneCell'=true) (hx:CRep w U ι x v):GRep w U ι (cs.set i x) (vs.set i v):=by
 refine ⟨by simpa using h.1,fun j y hy=>?_⟩
 by_cases hj:i=j
 ·subst hj
  have hlt:i < cs.length:=by
   rcases Nat.lt_or_ge i cs.length with h'|h'
   ·exact h'
   ·rw [zR (by simpa using h')] at hy;cases hy
  rw [List.getElem?_set_self hlt] at hy
  cases hy
  exact ⟨v,by rw [List.getElem?_set_self (by rw [h.1];exact hlt)],h1,hx⟩
 ·rw [List.getElem?_set_ne hj] at hy ⊢
  exact h.2 j y hy
theorem qsW {ds:List PV}:∀ {us:List Value} {cs:List CV} {vs:List Value} {off:Nat},PRepL w U ds us→(∀ u∈us,u.oneCell'=true)→GRep w U ι cs vs→GRep w U ι (Zaf cs off ds) (qam vs off us):=by
 induction ds with
 |nil=>intro us cs vs off hd _ h;simp only [PRepL] at hd;subst hd;exact h
 |cons x r ih=>
  intro us cs vs off hd h1 h
  simp only [PRepL] at hd
  obtain ⟨u,us',rfl,h2,h3⟩:=hd
  exact ih h3 (fun v hv=>h1 v (by simp [hv])) (h.set off (h1 u (by simp)) h2)
set_option maxHeartbeats 2000000 in
theorem qtS {a:Act} (hf:FRep w U ι fr a) (place:Nat→Option (Nat×Nat)) (n:Nat):∀ (ps:List (Nat×Operand)) (qs:List (Nat×Nat×Opd)) (cs:List CV) (vs:List Value) (c:Prop) (ds:List CV),
  qce P place n ps qs=true→Zae fr cs qs=some (c,ds)→c→GRep w U ι cs vs→vs.length=n→∃ us,Instr.fill place vs.toArray (ps.map fun x=>(x.1,a.eval x.2))=some us.toArray∧GRep w U ι ds us:=by
 intro ps
 induction ps with
 |nil=>
  intro qs cs vs c ds hok hb hc hl hn
  cases qs with
  |nil=>
   simp only [Zae,zg,zj] at hb
   obtain ⟨rfl,rfl⟩:=hb
   exact ⟨vs,rfl,hl⟩
  |cons q qs=>simp [qce] at hok
 |cons p ps ih=>
  intro qs cs vs c ds hok hb hc hl hn
  obtain ⟨i,x⟩:=p
  cases qs with
  |nil=>simp [qce] at hok
  |cons q qs=>
   obtain ⟨off,sz,y⟩:=q
   simp only [qce,zi,beq_iff_eq,decide_eq_true_eq] at hok
   obtain ⟨⟨⟨h1,h2⟩,h3⟩,h4⟩:=hok
   simp only [Zae] at hb
   split at hb
   ·rename_i cx v ex
    split at hb
    ·rename_i hsz
     obtain ⟨⟨c',ds'⟩,e1,e2⟩:=zh.1 hb
     simp only [zj] at e2
     obtain ⟨rfl,rfl⟩:=e2
     have rx:PRep w U v (a.eval x):=rdP hf h2 ex hc.1
     have hcell:=rx.cells (qbE hsz.2)
     have hcl:(a.eval x).cells.size=sz:=by have:=hcell.length;simp at this;omega
     simp only [zx]
     rw [qeu place vs i off sz _ _ h1 hcl (by omega)]
     exact ih qs _ _ c' ds' h4 e1 hc.2 (qsW hcell (hcell.oneCells hsz.2) hl) (by rw [qaC];exact hn)
    ·cases hb
   ·rename_i cx k ex
    split at hb
    ·rename_i hsz
     obtain ⟨⟨c',ds'⟩,e1,e2⟩:=zh.1 hb
     simp only [zj] at e2
     obtain ⟨rfl,rfl⟩:=e2
     obtain ⟨r1,A,m,cp,r2⟩:a.eval x=ι k∧∃ A n c,a.eval x=.slice A n c:=rdP hf h2 ex hc.1
     have hcl:(a.eval x).cells=#[a.eval x]:=by rw [r2];rfl
     simp only [zx]
     rw [qeu place vs i off sz _ _ h1 (by rw [hcl,hsz];rfl) (by omega)]
     rw [show qam vs off (a.eval x).cells.toList=vs.set off (a.eval x) from by rw [hcl];rfl]
     exact ih qs _ _ c' ds' h4 e1 hc.2 (hl.set off (x:=.row k) (by rw [r2];rfl) ⟨r1,A,m,cp,r2⟩) (by simpa using hn)
    ·cases hb
   ·rename_i cx k ex
    split at hb
    ·rename_i hsz
     obtain ⟨⟨c',ds'⟩,e1,e2⟩:=zh.1 hb
     simp only [zj] at e2
     obtain ⟨rfl,rfl⟩:=e2
     obtain ⟨r1,m,r2⟩:a.eval x=ι k∧∃ r,a.eval x=.map (some r):=rdP hf h2 ex hc.1
     have hcl:(a.eval x).cells=#[a.eval x]:=by rw [r2];rfl
     simp only [zx]
     rw [qeu place vs i off sz _ _ h1 (by rw [hcl,hsz];rfl) (by omega)]
     rw [show qam vs off (a.eval x).cells.toList=vs.set off (a.eval x) from by rw [hcl];rfl]
     exact ih qs _ _ c' ds' h4 e1 hc.2 (hl.set off (x:=.mp k) (by rw [r2];rfl) ⟨r1,m,r2⟩) (by simpa using hn)
    ·cases hb
   ·cases hb
theorem qsQ {t:TypeId} {parts:Array (Nat×Operand)} {fs:Array Field} {places:Array (Nat×Nat)} {zero:List PV} {parts':List (Nat×Nat×Opd)} (ho:o.op=.build t parts) (ht:P.underlying t=some (.struct fs)) (hz:qfw P t zero=true) (hp:qio P fs places=true)
  (hk:qce P (places[·]?) zero.length parts.toList parts'=true) {c:Prop} {r:AV} (h:Zf fr L (.bldg zero parts')=some (c,r)):Val1 P o fr L c r:=by
 simp only [Zf] at h
 obtain ⟨⟨c1,ds⟩,e1,e2⟩:=zh.1 h
 simp only [zj] at e2
 obtain ⟨rfl,rfl⟩:=e2
 refine Val1.same fun E B w ι a hs h1=>?_
 obtain ⟨z,hz1,hz2⟩:=qjc hz w
 have hzr:=(qcg hz2 w (fun b=>Own L ι b∨B.X b))
 have hzg:GRep w (fun b=>Own L ι b∨B.X b) ι (zero.map .p) z.cells.toList:=by
  refine ⟨by simpa using hzr.1.length,fun j x hx=>?_⟩
  rw [zy,zh] at hx
  obtain ⟨y,hy,rfl⟩:=hx
  obtain ⟨v,hv,hr⟩:=hzr.1.get hy
  exact ⟨v,hv,hzr.1.oneCells hzr.2 v (zn hv),hr⟩
 obtain ⟨us,hfill,hrep⟩:=qtS (P:=P) hs.2.1 (places[·]?) zero.length parts.toList parts' (zero.map .p) z.cells.toList c1 ds hk e1 h1 hzg hzr.1.length
 refine ⟨.agg us.toArray,?_,us,rfl,hrep.1,hrep.2⟩
 simp only [execOp,ho,Instr.build,Sem.run_bind,hz1,Result.andThen_ok,run_underlying ht,qku fs places hp]
 have e3:(Array.map (fun x:Nat×Operand=>(x.1,a.eval x.2)) parts).toList=parts.toList.map fun x=>(x.1,a.eval x.2):=by simp
 have e4:z.cells.toList.toArray=z.cells:=by simp
 rw [e4] at hfill
 rw [← e3] at hfill
 simp only [hfill]
 rfl
theorem qmf:∀ {as:List AV} {l:List CV},Zag as=some l→as=l.map Zah
 |[],l,h=>by simp only [Zag,zg] at h;subst h;rfl
 |q :: as,l,h=>by
  cases q with
  |p x=>simp only [Zag] at h;obtain ⟨l',h1,rfl⟩:=zh.1 h;simp [qmf h1,Zah]
  |row k=>simp only [Zag] at h;obtain ⟨l',h1,rfl⟩:=zh.1 h;simp [qmf h1,Zah]
  |mp k=>simp only [Zag] at h;obtain ⟨l',h1,rfl⟩:=zh.1 h;simp [qmf h1,Zah]
  |_=>simp [Zag] at h
theorem toAV_rep {x:CV} {v:Value}:ARep w U ι (Zah x) v↔CRep w U ι x v:=by cases x<;>rfl
set_option maxHeartbeats 2000000 in
theorem qvp {t:TypeId} {sz:Nat} {x:Operand} {x':Opd} (ho:o.op=.load t x) (hsz:qa7 P t sz=true) (hag:aggB P t true=true) (hx:qaf x x'=true) {c:Prop} {r:AV}
  (h:Zf fr L (.ldg sz x')=some (c,r)):Val1 P o fr L c r:=by
 simp only [Zf] at h
 split at h
 ·rename_i cx k of ex
  split at h
  ·rename_i cs bt hl
   split at h
   ·rename_i hle
    obtain ⟨l,el,e3⟩:=zh.1 h
    simp only [zj] at e3
    obtain ⟨rfl,rfl⟩:=e3
    refine Val1.same fun E B w ι a hs h1=>?_
    obtain ⟨b,e1,e2⟩:=rdA hs.2.1 hx ex h1
    obtain ⟨b',vs,e4,hb,hlen,h1c,hcs⟩:=hs.1.sim.obj k _ hl
    rw [e1] at e4
    simp only [Value.pointer.injEq,zg,Addr.mk.injEq,and_true] at e4
    subst e4
    have hm:=qmf el
    have hll:l.length=sz:=by have:=congrArg List.length hm;simp at this;omega
    have hus:((vs.drop of).take sz).length=sz:=by simp;omega
    refine ⟨.agg ((vs.drop of).take sz).toArray,?_,_,rfl,by omega,fun j x hx'=>?_⟩
    ·have hld:=run_loadCells_list (P:=P) (w:=w) ⟨b,of,none⟩ ((vs.drop of).take sz) (fun j v hj=>by
      rw [qaW,cell_of_row w b (of+j) _ _ _ hb]
      rw [yk] at hj
      split at hj
      ·rw [yb] at hj;simpa using hj
      ·cases hj)
     rw [hus] at hld
     simp only [execOp,ho,e2,Instr.loadAt,Instr.sureAddr,loadVar,Sem.run_bind,Sem.run_pure,Result.andThen_ok,qcc hag,if_true,qaD hsz,hld]
    ·have hj:j < sz:=by rw [← hll];exact (zo.1 hx').1
     have e5:((cs.drop of).take sz)[j]?=some (Zah x):=by rw [hm,zy,hx'];rfl
     rw [yk,if_pos hj,yb] at e5
     obtain ⟨u,hu,hr⟩:=hcs _ _ e5
     refine ⟨u,by rw [yk,if_pos hj,yb];exact hu,h1c u (zn hu),toAV_rep.1 hr⟩
   ·cases h
  ·cases h
 ·cases h
theorem qwp {t:TypeId} {sz off:Nat} {pa px:Operand} {p' x':Opd} (ho:o.op=.store t pa px) (hdst:o.dst=none) (hsz:qa7 P t sz=true) (hp:qaf pa p'=true) (hx:qaf px x'=true) {k:Key} {cs:List AV} {bt:TypeId} {l:List CV} {cp cx:Prop}
  (ep:(rd fr p').un=(cp,.adr k off)) (ex:(rd fr x').un=(cx,.ag l)) (hl:Zas L k=some (.box cs bt)) (hle:off+sz≤cs.length) (hll:l.length=sz):Eff1 P o fr L (cp∧cx) fr (Zat L k (.box (Zac cs off (l.map Zah)) bt)):=by
 intro E B w ι a hs ⟨k1,k2⟩
 have hpa:=rdP hs.2.1 hp ep k1
 obtain ⟨vs,e,hvl,hr⟩:∃ vs:List Value,a.eval px=.agg vs.toArray∧vs.length=l.length∧∀ (j:Nat) (x:CV),l[j]?=some x→∃ v,vs[j]?=some v∧v.oneCell'=true∧CRep w (fun b=>Own L ι b∨B.X b) ι x v:=rdP hs.2.1 hx ex k2
 have hc:(a.eval px).cells.toList=vs:=by rw [e];simp [Value.cells]
 have h1:∀ v∈vs,v.oneCell'=true:=by
  intro v hv
  obtain ⟨j,hj⟩:=yg hv
  have hjl:j < l.length:=by rw [← hvl];exact (zo.1 hj).1
  obtain ⟨u,hu,h2,_⟩:=hr j _ (zk hjl)
  rw [hu] at hj
  cases hj
  exact h2
 exact qjQ ho hdst hsz hl hle hs hpa (l.map Zah) (by rw [hc];omega) (by simpa using hll) (by rw [hc];exact h1) (fun j x hx'=>by
  rw [zy,zh] at hx'
  obtain ⟨y,hy,rfl⟩:=hx'
  obtain ⟨v,hv,_,h3⟩:=hr j y hy
  exact ⟨v,by rw [hc];exact hv,toAV_rep.2 h3⟩)
end
end Go.Proofs.YtjgdjinhkgjpeabGreatDoor
