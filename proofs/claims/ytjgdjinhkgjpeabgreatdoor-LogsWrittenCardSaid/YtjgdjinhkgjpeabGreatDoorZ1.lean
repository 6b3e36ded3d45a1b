import Derived.Below
import Derived.OwnWalk
import Derived.Laws.OwnMore
import Derived.Deep.Draws
import Derived.Laws.Rows
import Derived.Laws.NewBlocks
import Derived.Calls
import Derived.MapKept
import Derived.Maps.RangeRun
import Derived.Laws.StructEq
import Derived.WalkKit
import Derived.IntWalk
import Derived.Laws.Cells
import Derived.Laws.BytesString
import Derived.Maps.AppendAt
import Derived.Laws.MakeOwn
import Derived.Lib.ConvBytes
set_option linter.unusedVariables false
set_option linter.unusedSimpArgs false
set_option linter.defProp false
namespace Go.Proofs.YtjgdjinhkgjpeabGreatDoor
open List renaming cons_append→zT,mem_of_getElem?→zn,replicate_succ→ya
inductive Key where
 |b (i:Nat)
 |l (i:Nat)
 deriving DecidableEq
inductive FK where
 |i|s|b
 deriving DecidableEq
inductive KK where
 |str
 |fl (ks:List FK)
inductive PV where
 |int (k:IntKind) (n:Int)
 |bool (b:Bool)
 |str (s:List UInt8)
 |raw (v:Value)
 |nl (z:Nat)
 |sl (z:Nat) (es:List (List PV))
 |agg (cs:List PV)
 |tup (cs:List PV)
 |ptr (cs:List PV)
 |clo (f:FuncId) (ps:List PV)
 |mpg (κ:KK) (ks:List (List UInt8)) (vs:List PV)
@[match_pattern] abbrev PV.mpv (ks:List (List UInt8)) (vs:List PV):PV:=.mpg .str ks vs
inductive CV where
 |p (x:PV)
 |row (k:Key)
 |mp (k:Key)
inductive AV where
 |p (x:PV)
 |row (k:Key)
 |adr (k:Key) (off:Nat)
 |rad (k:Key) (z i off:Nat)
 |ipt (z:Nat) (es:List (List PV)) (i off:Nat)
 |mp (k:Key)
 |fn (f:FuncId) (ks:List Key)
 |g (c:Bool) (a:AV)
 |ag (cs:List CV)
 |tr (k:Key) (ps:List PV)
 |any
inductive AO where
 |box (cs:List AV) (t:TypeId)
 |row (es:List (List PV)) (e:TypeId) (z:Nat) (ap:Bool)
 |mapg (κ:KK) (kv:List (List UInt8×PV)) (kt et:TypeId)
 |rowv (es:List (List AV)) (e:TypeId) (z:Nat)
 |mapv (kv:List (List UInt8×AV)) (kt et:TypeId)
 |mit (last:Option (List UInt8×PV)) (kv:List (List UInt8×PV))
@[match_pattern] abbrev AO.map (kv:List (List UInt8×PV)) (kt et:TypeId):AO:=.mapg .str kv kt et
def ok_Ks:List FK→List PV→Bool
 |[],[]=>true
 |.i :: ks,.int .i64 _ :: cs=>ok_Ks ks cs
 |.s :: ks,.str _ :: cs=>ok_Ks ks cs
 |_,_=>false
def qgd:PV→Value
 |.int k n=>.int k n
 |.str s=>.string ⟨s.toArray⟩
 |.bool b=>.bool b
 |_=>.nilIface
def keyV (cs:List PV):Value:=.agg (cs.map qgd).toArray
def qni (n:Nat):List UInt8:=List.replicate n 1++[0]
def qbG:List PV→List UInt8
 |[]=>[]
 |.str s :: r=>qni s.length++s++qbG r
 |.int _ n :: r=>(if n < 0 then 1 else 0) :: qni n.natAbs++qbG r
 |_ :: r=>qbG r
theorem qjP:∀ (n m:Nat) {a b:List UInt8},qni n++a=qni m++b→n=m∧a=b
 |0,0,a,b,h=>⟨rfl,by simpa [qni] using h⟩
 |0,m+1,a,b,h=>by simp [qni,ya] at h
 |n+1,0,a,b,h=>by simp [qni,ya] at h
 |n+1,m+1,a,b,h=>by
  have:=qjP n m (a:=a) (b:=b) (by simpa [qni,ya] using h)
  exact ⟨by omega,this.2⟩
theorem qd6 {ks:List FK} {cs:List PV} (h:ok_Ks (.i :: ks) cs=true):∃ n r,cs=.int .i64 n :: r∧ok_Ks ks r=true:=by
 unfold ok_Ks at h
 split at h<;>simp_all
 exact ⟨_,_,⟨rfl,rfl⟩,h⟩
theorem qd5 {ks:List FK} {cs:List PV} (h:ok_Ks (.s :: ks) cs=true):∃ s r,cs=.str s :: r∧ok_Ks ks r=true:=by
 unfold ok_Ks at h
 split at h<;>simp_all
 exact ⟨_,_,⟨rfl,rfl⟩,h⟩
theorem qcy {cs:List PV} (h:ok_Ks [] cs=true):cs=[]:=by
 cases cs with
 |nil=>rfl
 |cons=>simp [ok_Ks] at h
theorem qlO:∀ (ks:List FK) {cs ds:List PV},ok_Ks ks cs=true→ok_Ks ks ds=true→qbG cs=qbG ds→cs=ds
 |[],cs,ds,h1,h2,_=>by rw [qcy h1,qcy h2]
 |.b :: ks,cs,ds,h1,h2,h=>by cases cs<;>simp [ok_Ks] at h1
 |.i :: ks,cs,ds,h1,h2,h=>by
  obtain ⟨n,r,rfl,g1⟩:=qd6 h1
  obtain ⟨m,r',rfl,g2⟩:=qd6 h2
  simp only [qbG,zT,List.cons.injEq] at h
  obtain ⟨e1,e2⟩:=qjP _ _ h.2
  have:n=m:=by
   have h0:=h.1
   by_cases a:n < 0<;>by_cases b:m < 0<;>simp [a,b] at h0<;>omega
  rw [this,qlO ks g1 g2 e2]
 |.s :: ks,cs,ds,h1,h2,h=>by
  obtain ⟨s,r,rfl,g1⟩:=qd5 h1
  obtain ⟨s',r',rfl,g2⟩:=qd5 h2
  simp only [qbG,List.append_assoc] at h
  obtain ⟨e1,e2⟩:=qjP _ _ h
  obtain ⟨e3,e4⟩:=List.append_inj e2 e1
  rw [e3,qlO ks g1 g2 e4]
noncomputable def kyV:KK→List UInt8→Value
 |.str,s=>.string ⟨s.toArray⟩
 |.fl ks,s=>open Classical in if h:∃ cs,ok_Ks ks cs=true∧qbG cs=s then keyV (Classical.choose h) else .nilIface
theorem quN {ks:List FK} {cs:List PV} (h:ok_Ks ks cs=true):kyV (.fl ks) (qbG cs)=keyV cs:=by
 have hx:∃ ds,ok_Ks ks ds=true∧qbG ds=qbG cs:=⟨cs,h,rfl⟩
 simp only [kyV,dif_pos hx]
 have:=Classical.choose_spec hx
 rw [qlO ks this.1 h this.2]
def okE:KK→List UInt8→Prop
 |.str,_=>True
 |.fl ks,s=>∃ cs,ok_Ks ks cs=true∧qbG cs=s
def qyo (κ:KK) (ks:List (List UInt8)) (ents:Array MapEntry) (clock:Nat):Prop:=
 ents.toList.map (·.key)=ks.map (kyV κ)∧MapKept.Stamped ents clock∧∀ s∈ks,okE κ s
mutual
def PRep (w:World) (U:Nat→Prop):PV→Value→Prop
 |.int k n,u=>u=.int k n
 |.bool b,u=>u=.bool b
 |.str s,u=>u=.string ⟨s.toArray⟩
 |.raw v,u=>u=v∧v.oneCell'=true
 |.nl z,u=>u=.slice none 0 0
 |.sl z es,u=>∃ A c,u=.slice A es.length c∧es.length≤c∧(es≠[]→∃ b off,A=some ⟨b,off,none⟩∧b < w.heap.size∧¬ U b∧PRepE w U b z off es)
 |.agg cs,u=>∃ vs:List Value,u=.agg vs.toArray∧PRepL w U cs vs
 |.tup cs,u=>∃ vs:List Value,u=.tuple vs.toArray∧PRepL w U cs vs
 |.ptr cs,u=>∃ b,u=.pointer (some ⟨b,0,none⟩)∧b < w.heap.size∧¬ U b∧PRepC w U b 0 cs
 |.clo f ps,u=>∃ vs:List Value,u=.func (.func f) #[] vs.toArray∧PRepL w U ps vs
 |.mpg κ ks vs,u=>∃ b,u=.map (some b)∧b < w.heap.size∧¬ U b∧∃ ents clock,w.heap[b]?=some (.map ents clock)∧qyo κ ks ents clock∧PRepL w U vs (ents.toList.map (·.val))
def PRepL (w:World) (U:Nat→Prop):List PV→List Value→Prop
 |[],vs=>vs=[]
 |a :: as,vs=>∃ v r,vs=v :: r∧PRep w U a v∧PRepL w U as r
def PRepC (w:World) (U:Nat→Prop) (b:Nat) (off:Nat):List PV→Prop
 |[]=>True
 |a :: as=>(∃ v,w.cell? ⟨b,off,none⟩=some v∧v.oneCell'=true∧PRep w U a v)∧PRepC w U b (off+1) as
def PRepE (w:World) (U:Nat→Prop) (b:Nat) (z:Nat) (off:Nat):List (List PV)→Prop
 |[]=>True
 |e :: es=>e.length=z∧PRepC w U b off e∧PRepE w U b z (off+z) es
end
section
variable {w w':World} {U U':Nat→Prop}
def Keeps (w w':World) (U U':Nat→Prop):Prop:=∀ b,b < w.heap.size→¬ U b→w'.heap[b]?=w.heap[b]?∧¬ U' b
theorem Keeps.lt (h:Keeps w w' U U') {b:Nat} (hb:b < w.heap.size) (hu:¬ U b):b < w'.heap.size:=by
 have h1:=(h b hb hu).1
 rcases Nat.lt_or_ge b w'.heap.size with h'|h'
 ·exact h'
 ·rw [Array.getElem?_eq_none h',Array.getElem?_eq_getElem hb] at h1;cases h1
mutual
theorem PRep.mono (h:Keeps w w' U U'):∀ (x:PV) (v:Value),PRep w U x v→PRep w' U' x v
 |.int k n,u,r=>by simpa [PRep] using r
 |.bool b,u,r=>by simpa [PRep] using r
 |.str s,u,r=>by simpa [PRep] using r
 |.raw v,u,r=>by simpa [PRep] using r
 |.nl z,u,r=>by simpa [PRep] using r
 |.sl z es,u,r=>by
  simp only [PRep] at r ⊢
  obtain ⟨A,c,e1,e2,e3⟩:=r
  refine ⟨A,c,e1,e2,fun hne=>?_⟩
  obtain ⟨b,off,ea,hb,hu,hE⟩:=e3 hne
  exact ⟨b,off,ea,h.lt hb hu,(h b hb hu).2,PRepE.mono h b hb hu z es off hE⟩
 |.agg cs,u,r=>by
  simp only [PRep] at r ⊢
  obtain ⟨vs,e,hl⟩:=r
  exact ⟨vs,e,PRepL.mono h cs vs hl⟩
 |.tup cs,u,r=>by
  simp only [PRep] at r ⊢
  obtain ⟨vs,e,hl⟩:=r
  exact ⟨vs,e,PRepL.mono h cs vs hl⟩
 |.ptr cs,u,r=>by
  simp only [PRep] at r ⊢
  obtain ⟨b,e,hb,hu,hc⟩:=r
  exact ⟨b,e,h.lt hb hu,(h b hb hu).2,PRepC.mono h b hb hu cs 0 hc⟩
 |.clo f ps,u,r=>by
  simp only [PRep] at r ⊢
  obtain ⟨vs,e,hl⟩:=r
  exact ⟨vs,e,PRepL.mono h ps vs hl⟩
 |.mpg κ ks vs,u,r=>by
  simp only [PRep] at r ⊢
  obtain ⟨b,e,hb,hu,ents,clock,h1,h2,h3⟩:=r
  exact ⟨b,e,h.lt hb hu,(h b hb hu).2,ents,clock,by rw [(h b hb hu).1];exact h1,h2,PRepL.mono h vs _ h3⟩
theorem PRepL.mono (h:Keeps w w' U U'):∀ (cs:List PV) (vs:List Value),PRepL w U cs vs→PRepL w' U' cs vs
 |[],vs,r=>by simpa [PRepL] using r
 |a :: as,vs,r=>by
  simp only [PRepL] at r ⊢
  obtain ⟨v,rr,e,h1,h2⟩:=r
  exact ⟨v,rr,e,PRep.mono h a v h1,PRepL.mono h as rr h2⟩
theorem PRepC.mono (h:Keeps w w' U U') (b:Nat) (hb:b < w.heap.size) (hu:¬ U b):∀ (cs:List PV) (off:Nat),PRepC w U b off cs→PRepC w' U' b off cs
 |[],off,r=>by simp [PRepC]
 |a :: as,off,r=>by
  simp only [PRepC] at r ⊢
  obtain ⟨⟨v,hc,h1,h2⟩,hr⟩:=r
  exact ⟨⟨v,by rw [← hc];exact World.cell?_of_block (h b hb hu).1,h1,PRep.mono h a v h2⟩,PRepC.mono h b hb hu as (off+1) hr⟩
theorem PRepE.mono (h:Keeps w w' U U') (b:Nat) (hb:b < w.heap.size) (hu:¬ U b) (z:Nat):∀ (es:List (List PV)) (off:Nat),PRepE w U b z off es→PRepE w' U' b z off es
 |[],off,r=>by simp [PRepE]
 |e :: es,off,r=>by
  simp only [PRepE] at r ⊢
  exact ⟨r.1,PRepC.mono h b hb hu e off r.2.1,PRepE.mono h b hb hu z es (off+z) r.2.2⟩
end
theorem PRep.oneCell {x:PV} {v:Value} (h:PRep w U x v):(∀ cs,x≠.agg cs)→(∀ cs,x≠.tup cs)→v.oneCell'=true:=by
 intro h1 h2
 cases x with
 |int k n=>simp only [PRep] at h;subst h;rfl
 |bool b=>simp only [PRep] at h;subst h;rfl
 |str s=>simp only [PRep] at h;subst h;rfl
 |raw u=>simp only [PRep] at h;rw [h.1];exact h.2
 |nl z=>simp only [PRep] at h;subst h;rfl
 |sl z es=>simp only [PRep] at h;obtain ⟨A,c,rfl,_⟩:=h;rfl
 |ptr cs=>simp only [PRep] at h;obtain ⟨b,rfl,_⟩:=h;rfl
 |clo f ps=>simp only [PRep] at h;obtain ⟨vs,rfl,_⟩:=h;rfl
 |mpg κ ks vs=>simp only [PRep] at h;obtain ⟨b,rfl,_⟩:=h;rfl
 |agg cs=>exact absurd rfl (h1 cs)
 |tup cs=>exact absurd rfl (h2 cs)
theorem PRepL.length {cs:List PV} {vs:List Value} (h:PRepL w U cs vs):vs.length=cs.length:=by
 induction cs generalizing vs with
 |nil=>simp only [PRepL] at h;subst h;rfl
 |cons a as ih=>simp only [PRepL] at h;obtain ⟨v,r,rfl,_,h2⟩:=h;simp [ih h2]
theorem PRepL.get {cs:List PV} {vs:List Value} (h:PRepL w U cs vs) {j:Nat} {x:PV} (hx:cs[j]?=some x):∃ v,vs[j]?=some v∧PRep w U x v:=by
 induction cs generalizing vs j with
 |nil=>simp at hx
 |cons a as ih=>
  simp only [PRepL] at h
  obtain ⟨v,r,rfl,h1,h2⟩:=h
  cases j with
  |zero=>simp at hx;subst hx;exact ⟨v,rfl,h1⟩
  |succ j=>simp at hx;simpa using ih h2 hx
theorem PRepC.get {b:Nat} {cs:List PV} {off:Nat} (h:PRepC w U b off cs) {j:Nat} {x:PV} (hx:cs[j]?=some x):∃ v,w.cell? ⟨b,off+j,none⟩=some v∧v.oneCell'=true∧PRep w U x v:=by
 induction cs generalizing off j with
 |nil=>simp at hx
 |cons a as ih=>
  simp only [PRepC] at h
  cases j with
  |zero=>simp at hx;subst hx;exact h.1
  |succ j=>simp at hx;have:=ih h.2 hx;rwa [show off+1+j=off+(j+1) from by omega] at this
theorem PRepE.get {b z:Nat} {es:List (List PV)} {off:Nat} (h:PRepE w U b z off es) {i:Nat} {e:List PV} (he:es[i]?=some e):e.length=z∧PRepC w U b (off+i * z) e:=by
 induction es generalizing off i with
 |nil=>simp at he
 |cons a as ih=>
  simp only [PRepE] at h
  cases i with
  |zero=>simp at he;subst he;simpa using ⟨h.1,h.2.1⟩
  |succ i=>simp at he;have:=ih h.2.2 he;rwa [show off+z+i * z=off+(i+1) * z from by rw [Nat.add_mul];omega] at this
theorem PRepL.append {cs ds:List PV} {vs us:List Value} (h:PRepL w U cs vs) (k:PRepL w U ds us):PRepL w U (cs++ds) (vs++us):=by
 induction cs generalizing vs with
 |nil=>simp only [PRepL] at h;subst h;simpa using k
 |cons a as ih=>simp only [PRepL] at h;obtain ⟨v,r,rfl,h1,h2⟩:=h;simp only [zT,PRepL];exact ⟨v,_,rfl,h1,ih h2⟩
theorem PRepC.of {b off:Nat} {cs:List PV} {vs:List Value} (h:PRepL w U cs vs) (h1:∀ v∈vs,v.oneCell'=true) (hc:∀ j v,vs[j]?=some v→w.cell? ⟨b,off+j,none⟩=some v):PRepC w U b off cs:=by
 induction cs generalizing vs off with
 |nil=>simp [PRepC]
 |cons a as ih=>
  simp only [PRepL] at h
  obtain ⟨v,r,rfl,ha,hr⟩:=h
  simp only [PRepC]
  refine ⟨⟨v,by simpa using hc 0 v rfl,h1 v (by simp),ha⟩,ih hr (fun u hu=>h1 u (by simp [hu])) (fun j u hu=>?_)⟩
  have:=hc (j+1) u (by simpa using hu)
  rwa [show off+(j+1)=off+1+j from by omega] at this
theorem PRepC.vals {b:Nat} {cs:List PV} {off:Nat} (h:PRepC w U b off cs):∃ vs,PRepL w U cs vs∧(∀ v∈vs,v.oneCell'=true)∧∀ j v,vs[j]?=some v→w.cell? ⟨b,off+j,none⟩=some v:=by
 induction cs generalizing off with
 |nil=>exact ⟨[],by simp [PRepL],by simp,by simp⟩
 |cons a as ih=>
  simp only [PRepC] at h
  obtain ⟨⟨v,hc,h1,hv⟩,hr⟩:=h
  obtain ⟨vs,h2,h3,h4⟩:=ih hr
  refine ⟨v :: vs,by simp only [PRepL];exact ⟨v,vs,rfl,hv,h2⟩,by simp;exact ⟨h1,h3⟩,fun j u hu=>?_⟩
  cases j with
  |zero=>simp at hu;subst hu;simpa using hc
  |succ j=>simp at hu;have:=h4 j u hu;rwa [show off+1+j=off+(j+1) from by omega] at this
end
def blk:Value→Option Nat
 |.slice (some a) _ _=>some a.block
 |.pointer (some a)=>some a.block
 |.map (some r)=>some r
 |_=>none
def CRep (w:World) (U:Nat→Prop) (ι:Key→Value):CV→Value→Prop
 |.p p,v=>PRep w U p v
 |.row k,v=>v=ι k∧∃ A n c,v=.slice A n c
 |.mp k,v=>v=ι k∧∃ r,v=.map (some r)
def Zaj (k:Key):CV→Bool
 |.p _=>false
 |.row k'=>decide (k'=k)
 |.mp k'=>decide (k'=k)
def Zai (k:Key):List CV→Bool
 |[]=>false
 |x :: r=>Zaj k x || Zai k r
theorem qmc {k:Key}:∀ {cs:List CV} {x:CV},Zai k cs=false→x∈cs→Zaj k x=false
 |c :: cs,x,h,hx=>by
  simp only [Zai,Bool.or_eq_false_iff] at h
  rcases List.mem_cons.1 hx with rfl|hx
  ·exact h.1
  ·exact qmc h.2 hx
def ARep (w:World) (U:Nat→Prop) (ι:Key→Value):AV→Value→Prop
 |.p x,u=>PRep w U x u
 |.row k,u=>u=ι k∧∃ A n c,u=.slice A n c
 |.adr k off,u=>∃ b,ι k=.pointer (some ⟨b,0,none⟩)∧u=.pointer (some ⟨b,off,none⟩)
 |.rad k z i off,u=>∃ b n c,ι k=.slice (some ⟨b,0,none⟩) n c∧u=.pointer (some ⟨b,i * z+off,none⟩)
 |.ipt z es i off,u=>∃ b o,u=.pointer (some ⟨b,o+i * z+off,none⟩)∧b < w.heap.size∧¬ U b∧PRepE w U b z o es
 |.mp k,u=>u=ι k∧∃ r,u=.map (some r)
 |.fn f ks,u=>u=.func (.func f) #[] (ks.map ι).toArray
 |.g c a,u=>(c=true→ARep w U ι a u)∧(c=false→u=.tuple #[])
 |.ag cs,u=>∃ vs:List Value,u=.agg vs.toArray∧vs.length=cs.length∧∀ (j:Nat) (x:CV),cs[j]?=some x→∃ v,vs[j]?=some v∧v.oneCell'=true∧CRep w U ι x v
 |.tr k ps,u=>∃ vs:List Value,u=.tuple (ι k :: vs).toArray∧(∃ A n c,ι k=.slice A n c)∧PRepL w U ps vs
 |.any,_=>True
def AV.kill (k:Key):AV→AV
 |.p x=>.p x
 |.row k'=>if k'=k then .any else .row k'
 |.adr k' o=>if k'=k then .any else .adr k' o
 |.rad k' z i o=>if k'=k then .any else .rad k' z i o
 |.ipt z es i o=>.ipt z es i o
 |.mp k'=>if k'=k then .any else .mp k'
 |.fn f ks=>if k∈ks then .any else .fn f ks
 |.g c a=>.g c (a.kill k)
 |.ag cs=>if Zai k cs=true then .any else .ag cs
 |.tr k' ps=>if k'=k then .any else .tr k' ps
 |.any=>.any
set_option maxHeartbeats 2000000 in
theorem ARep.kill {w:World} {U:Nat→Prop} {ι:Key→Value} {k:Key} {v:Value}:∀ {a:AV} {u:Value},ARep w U ι a u→ARep w U (fun j=>if j=k then v else ι j) (a.kill k) u
 |.p x,u,h=>h
 |.row k',u,h=>by
  simp only [AV.kill];split
  ·trivial
  ·rename_i hne;simpa [ARep,hne] using h
 |.adr k' o,u,h=>by
  simp only [AV.kill];split
  ·trivial
  ·rename_i hne;simpa [ARep,hne] using h
 |.rad k' z i o,u,h=>by
  simp only [AV.kill];split
  ·trivial
  ·rename_i hne;simpa [ARep,hne] using h
 |.ipt z es i o,u,h=>h
 |.mp k',u,h=>by
  simp only [AV.kill];split
  ·trivial
  ·rename_i hne;simpa [ARep,hne] using h
 |.fn f ks,u,h=>by
  simp only [AV.kill];split
  ·trivial
  ·rename_i hne
   simp only [ARep] at h ⊢
   rw [h]
   congr 2
   refine List.map_congr_left fun j hj=>?_
   rw [if_neg (fun (e:j=k)=>hne (e ▸ hj))]
 |.g c a,u,h=>⟨fun hc=>ARep.kill (a:=a) (h.1 hc),h.2⟩
 |.ag cs,u,h=>by
  simp only [AV.kill];split
  ·trivial
  ·rename_i hne
   obtain ⟨vs,e,hl,hr⟩:=h
   refine ⟨vs,e,hl,fun j x hx=>?_⟩
   obtain ⟨v',h1,h2,h3⟩:=hr j x hx
   refine ⟨v',h1,h2,?_⟩
   cases x with
   |p p=>exact h3
   |row k'=>
    have:=qmc (by simpa using hne) (zn hx)
    simp only [Zaj,decide_eq_false_iff_not] at this
    simpa [CRep,this] using h3
   |mp k'=>
    have:=qmc (by simpa using hne) (zn hx)
    simp only [Zaj,decide_eq_false_iff_not] at this
    simpa [CRep,this] using h3
 |.tr k' ps,u,h=>by
  simp only [AV.kill];split
  ·trivial
  ·rename_i hne
   obtain ⟨vs,e,hs,hr⟩:=h
   exact ⟨vs,by simpa [hne] using e,by simpa [hne] using hs,hr⟩
 |.any,u,h=>trivial
theorem ARep.mono {w w':World} {U U':Nat→Prop} {ι:Key→Value} (hk:Keeps w w' U U'):∀ {a:AV} {u:Value},ARep w U ι a u→ARep w' U' ι a u
 |.p x,u,h=>PRep.mono hk x u h
 |.row k',u,h=>h
 |.adr k' o,u,h=>h
 |.rad k' z i o,u,h=>h
 |.ipt z es i o,u,h=>by
  obtain ⟨b,o',e,hb,hu,hE⟩:=h
  exact ⟨b,o',e,hk.lt hb hu,(hk b hb hu).2,PRepE.mono hk b hb hu z es o' hE⟩
 |.mp k',u,h=>h
 |.fn f ks,u,h=>h
 |.g c a,u,h=>⟨fun hc=>ARep.mono hk (a:=a) (h.1 hc),h.2⟩
 |.ag cs,u,h=>by
  obtain ⟨vs,e,hl,hr⟩:=h
  refine ⟨vs,e,hl,fun j x hx=>?_⟩
  obtain ⟨v',h1,h2,h3⟩:=hr j x hx
  refine ⟨v',h1,h2,?_⟩
  cases x with
  |p p=>exact PRep.mono hk p v' h3
  |row k'=>exact h3
  |mp k'=>exact h3
 |.tr k' ps,u,h=>by
  obtain ⟨vs,e,hs,hr⟩:=h
  exact ⟨vs,e,hs,PRepL.mono hk ps vs hr⟩
 |.any,u,h=>trivial
end Go.Proofs.YtjgdjinhkgjpeabGreatDoor
namespace Go.Proofs.YtjgdjinhkgjpeabGreatDoor
open Option.some renaming injEq→zg
open Prod.mk renaming injEq→zj
open Nat renaming add_mul→yi,le_refl→zL,le_trans→zt
open List renaming eq_nil_of_length_eq_zero→zq,flatten_cons→zH,getD→zC,getElem?_drop→yb,getElem?_eq_getElem→zk,getElem?_map→zy,getElem?_take→yk,length_append→zm,length_cons→zl,length_map→zN,length_nil→zr,map_cons→zx,mem_cons→zG,mem_of_mem_take→ye,nil_append→zU
open Bool renaming and_eq_true→zi,false_eq_true→zK,not_eq_true'→zQ
open Option renaming isSome_iff_exists→zM,map_eq_some_iff→zh,map_some→zA
open _root_.Array renaming getElem?_eq_some_iff→zw
structure Grow (w w':World) (O:Nat→Prop):Prop where
 os:w'.os=w.os
 tape:w'.tape=w.tape
 output:w'.output=w.output
 size:w.heap.size≤w'.heap.size
 block:∀ b,b < w.heap.size→¬ O b→w'.heap[b]?=w.heap[b]?
theorem Grow.refl (w:World) (O:Nat→Prop):Grow w w O:=⟨rfl,rfl,rfl,zL _,fun _ _ _=>rfl⟩
theorem Grow.trans {w w1 w2:World} {O O1:Nat→Prop} (h:Grow w w1 O) (k:Grow w1 w2 O1) (ho:∀ b,O1 b→O b∨w.heap.size≤b):Grow w w2 O:=
 ⟨k.os.trans h.os,k.tape.trans h.tape,k.output.trans h.output,zt h.size k.size,fun b hb hn=>
  (k.block b (Nat.lt_of_lt_of_le hb h.size) (fun e=>by rcases ho b e with h'|h';exact hn h';omega)).trans (h.block b hb hn)⟩
theorem Grow.drew {w w':World} {O:Nat→Prop} (h:Grow w w' O):Grow w w'.drew O:=⟨h.os,h.tape,h.output,h.size,h.block⟩
abbrev Objs:=List (Key×AO)
def Zas:Objs→Key→Option AO
 |[],_=>none
 |(k',a) :: r,k=>if k'=k then some a else Zas r k
def Zat:Objs→Key→AO→Objs
 |[],k,a=>[(k,a)]
 |(k',a') :: r,k,a=>if k'=k then (k',a) :: r else (k',a') :: Zat r k a
def delO:Objs→Key→Objs
 |[],_=>[]
 |(k',a) :: r,k=>if k'=k then delO r k else (k',a) :: delO r k
def AO.kill (k:Key):AO→AO
 |.box cs t=>.box (cs.map (·.kill k)) t
 |.row es e z ap=>.row es e z ap
 |.mapg κ kv a b=>.mapg κ kv a b
 |.rowv es e z=>.rowv (es.map (·.map (·.kill k))) e z
 |.mapv kv a b=>.mapv (kv.map fun p=>(p.1,p.2.kill k)) a b
 |.mit last kv=>.mit last kv
def Zau (k:Key):Objs→Objs
 |[]=>[]
 |(k',a) :: r=>(k',a.kill k) :: Zau k r
theorem qag (L:Objs) (k:Key) (a:AO) (j:Key):Zas (Zat L k a) j=if j=k then some a else Zas L j:=by
 induction L with
 |nil=>simp only [Zat,Zas];split<;>rename_i h<;>simp_all [eq_comm]
 |cons x r ih=>
  obtain ⟨k',a'⟩:=x
  simp only [Zat]
  by_cases h:k'=k
  ·subst h;simp only [if_true,Zas];by_cases hj:k'=j<;>simp_all [eq_comm]
  ·simp only [if_neg h,Zas,ih]
   by_cases hj:k'=j
   ·subst hj;simp [h]
   ·simp [hj]
theorem qfL (L:Objs) (k:Key) (j:Key):Zas (delO L k) j=if j=k then none else Zas L j:=by
 induction L with
 |nil=>simp [delO,Zas]
 |cons x r ih=>
  obtain ⟨k',a'⟩:=x
  simp only [delO]
  by_cases h:k'=k
  ·subst h;simp only [if_true,ih,Zas];by_cases hj:j=k'<;>simp_all [eq_comm]
  ·simp only [if_neg h,Zas,ih]
   by_cases hj:k'=j
   ·subst hj;simp [h]
   ·simp [hj]
theorem qkB (k:Key) (L:Objs) (j:Key):Zas (Zau k L) j=(Zas L j).map (AO.kill k):=by
 induction L with
 |nil=>rfl
 |cons x r ih=>obtain ⟨k',a'⟩:=x;simp only [Zau,Zas,ih];split<;>rfl
def Own (L:Objs) (ι:Key→Value) (b:Nat):Prop:=∃ k a,Zas L k=some a∧blk (ι k)=some b
def MapRep (κ:KK) (w:World) (U:Nat→Prop) (kv:List (List UInt8×PV)) (ents:List MapEntry):Prop:=
 (ents.map (·.key)=kv.map fun p=>kyV κ p.1)∧PRepL w U (kv.map (·.2)) (ents.map (·.val))∧∀ p∈kv,okE κ p.1
def RowOk (w:World) (e:TypeId) (z:Nat) (ap:Bool) (v:Value) (n:Nat) (xs:List Value):Prop:=
 xs.length=n * z∧((v=.slice none 0 0∧n=0)∨∃ (g cap:Nat) (cur:Array Value) (fz:Nat×Nat),v=.slice (some ⟨g,0,none⟩) n cap∧w.heap[g]?=some (.cells cur e fz)∧n≤cap∧cap≤maxLen∧cur.size=cap * z∧cur.toList.take (n * z)=xs∧(fz=(0,0)∨(ap=false∧cur.size≤fz.1)))
theorem RowOk.cells {w:World} {e:TypeId} {z:Nat} {ap:Bool} {v:Value} {n:Nat} {xs:List Value} (h:RowOk w e z ap v n xs) {g m c:Nat} (hv:v=.slice (some ⟨g,0,none⟩) m c):∀ (j:Nat) (u:Value),xs[j]?=some u→w.cell? ⟨g,j,none⟩=some u:=by
 intro j u hu
 rcases h.2 with ⟨rfl,_⟩|⟨g',cap,cur,fz,rfl,hg,_,_,_,htake,_⟩
 ·cases hv
 ·cases hv
  rw [cell_of_row w g j cur e fz hg]
  rw [← htake,yk] at hu
  split at hu
  ·simpa using hu
  ·cases hu
theorem RowOk.owns {w:World} {e:TypeId} {z:Nat} {v:Value} {n:Nat} {xs:List Value} (h:RowOk w e z true v n xs):w.ownsRow 0 e z v n xs:=by
 refine ⟨h.1,?_⟩
 rcases h.2 with h'|⟨g,cap,cur,fz,h1,h2,h3,h4,h5,h6,h7⟩
 ·exact .inl h'
 ·rcases h7 with rfl|⟨h7,_⟩
  ·exact .inr ⟨g,cap,cur,h1,Nat.zero_le _,h2,h3,h4,h5,h6⟩
  ·cases h7
theorem RowOk.of_owns {w:World} {e:TypeId} {z:Nat} {v:Value} {n b:Nat} {xs:List Value} (h:w.ownsRow b e z v n xs):RowOk w e z true v n xs:=by
 refine ⟨h.1,?_⟩
 rcases h.2 with h'|⟨g,cap,cur,h1,h0,h2,h3,h4,h5,h6⟩
 ·exact .inl h'
 ·exact .inr ⟨g,cap,cur,(0,0),h1,h2,h3,h4,h5,h6,.inl rfl⟩
theorem RowOk.keep {w w':World} {e:TypeId} {z:Nat} {ap:Bool} {v:Value} {n:Nat} {xs:List Value} (h:RowOk w e z ap v n xs) (hb:∀ b,blk v=some b→w'.heap[b]?=w.heap[b]?):RowOk w' e z ap v n xs:=by
 refine ⟨h.1,?_⟩
 rcases h.2 with ⟨g1,g2⟩|⟨g,cap,cur,fz,g1,g2,rest⟩
 ·exact .inl ⟨g1,g2⟩
 ·exact .inr ⟨g,cap,cur,fz,g1,by rw [hb g (by rw [g1];rfl)];exact g2,rest⟩
def RowvOk (w:World) (U:Nat→Prop) (ι:Key→Value) (v:Value) (es:List (List AV)) (e:TypeId) (z:Nat):Prop:=
 ∃ vs:List Value,RowOk w e z true v es.length vs∧(∀ u∈vs,u.oneCell'=true)∧(∀ x∈es,x.length=z)∧∀ (j:Nat) (a:AV),es.flatten[j]?=some a→∃ u,vs[j]?=some u∧ARep w U ι a u
theorem RowvOk.map {w w':World} {U U':Nat→Prop} {ι ι':Key→Value} {v:Value} {es:List (List AV)} {e:TypeId} {z:Nat} (f:AV→AV) (h:RowvOk w U ι v es e z) (hb:∀ b,blk v=some b→w'.heap[b]?=w.heap[b]?) (hf:∀ {a:AV} {u:Value},ARep w U ι a u→ARep w' U' ι' (f a) u):RowvOk w' U' ι' v (es.map (·.map f)) e z:=by
 obtain ⟨vs,h1,h2,h3,h4⟩:=h
 refine ⟨vs,by simpa using h1.keep hb,h2,fun x hx=>?_,fun j a ha=>?_⟩
 ·obtain ⟨y,hy,rfl⟩:=List.mem_map.1 hx
  simpa using h3 y hy
 ·rw [← List.map_flatten,zy,zh] at ha
  obtain ⟨y,hy,rfl⟩:=ha
  obtain ⟨u,hu,hr⟩:=h4 j y hy
  exact ⟨u,hu,hf hr⟩
theorem RowvOk.mono {w w':World} {U U':Nat→Prop} {ι ι':Key→Value} {v:Value} {es:List (List AV)} {e:TypeId} {z:Nat} (h:RowvOk w U ι v es e z) (hb:∀ b,blk v=some b→w'.heap[b]?=w.heap[b]?) (hf:∀ {a:AV} {u:Value},ARep w U ι a u→ARep w' U' ι' a u):RowvOk w' U' ι' v es e z:=by
 obtain ⟨vs,h1,h2,h3,h4⟩:=h
 refine ⟨vs,h1.keep hb,h2,h3,fun j a ha=>?_⟩
 obtain ⟨u,hu,hr⟩:=h4 j a ha
 exact ⟨u,hu,hf hr⟩
theorem RowvOk.lt {w:World} {U:Nat→Prop} {ι:Key→Value} {v:Value} {es:List (List AV)} {e:TypeId} {z:Nat} (h:RowvOk w U ι v es e z) {b:Nat} (hb:blk v=some b):b < w.heap.size:=by
 obtain ⟨vs,h1,_⟩:=h
 rcases h1.2 with ⟨e1,_⟩|⟨g,cap,cur,fz,e1,e2,_⟩
 ·rw [e1] at hb;cases hb
 ·rw [e1] at hb;cases hb;exact (zw.1 e2).1
def MapvOk (w:World) (U:Nat→Prop) (ι:Key→Value) (v:Value) (kv:List (List UInt8×AV)):Prop:=
 ∃ r ents clock,v=.map (some r)∧w.heap[r]?=some (.map ents clock)∧(ents.toList.map (·.key)=kv.map fun p=>.string ⟨p.1.toArray⟩)∧MapKept.Stamped ents clock∧∀ (j:Nat) (p:List UInt8×AV),kv[j]?=some p→∃ e,ents.toList[j]?=some e∧ARep w U ι p.2 e.val
theorem MapvOk.map {w w':World} {U U':Nat→Prop} {ι ι':Key→Value} {v:Value} {kv:List (List UInt8×AV)} (f:AV→AV) (h:MapvOk w U ι v kv) (hb:∀ b,blk v=some b→w'.heap[b]?=w.heap[b]?) (hf:∀ {a:AV} {u:Value},ARep w U ι a u→ARep w' U' ι' (f a) u):MapvOk w' U' ι' v (kv.map fun p=>(p.1,f p.2)):=by
 obtain ⟨r,ents,cl,e1,e2,e3,e4,e5⟩:=h
 refine ⟨r,ents,cl,e1,by rw [hb r (by rw [e1];rfl)];exact e2,by rw [e3,List.map_map];rfl,e4,fun j p hp=>?_⟩
 rw [zy,zh] at hp
 obtain ⟨q,hq,rfl⟩:=hp
 obtain ⟨e,he,hr⟩:=e5 j q hq
 exact ⟨e,he,hf hr⟩
def MitOk (w:World) (U:Nat→Prop) (v:Value) (last:Option (List UInt8×PV)) (kv:List (List UInt8×PV)):Prop:=
 ∃ r b seen ents clock,v=.pointer (some ⟨r,0,none⟩)∧w.heap[r]?=some (.mapIter (some b) clock seen clock)∧b < w.heap.size∧¬ U b∧w.heap[b]?=some (.map ents clock)∧MapKept.Stamped ents clock∧MapRep .str w U kv (leftOf ents seen).toList∧
  ∀ p,last=some p→∃ e∈ents.toList,(∃ seen':Array Nat,seen=seen'.push e.born)∧e.key=.string ⟨p.1.toArray⟩∧PRep w U p.2 e.val
theorem MitOk.mono {w w':World} {U U':Nat→Prop} {v:Value} {last:Option (List UInt8×PV)} {kv:List (List UInt8×PV)} (h:MitOk w U v last kv) (hb:∀ b,blk v=some b→w'.heap[b]?=w.heap[b]?) (hk:Keeps w w' U U'):MitOk w' U' v last kv:=by
 obtain ⟨r,b,seen,ents,cl,e1,e2,e3,e4,e5,e6,e7,e8⟩:=h
 refine ⟨r,b,seen,ents,cl,e1,by rw [hb r (by rw [e1];rfl)];exact e2,hk.lt e3 e4,(hk b e3 e4).2,by rw [(hk b e3 e4).1];exact e5,e6,⟨e7.1,PRepL.mono hk _ _ e7.2.1,e7.2.2⟩,fun p hp=>?_⟩
 obtain ⟨e,h1,h2,h3,h4⟩:=e8 p hp
 exact ⟨e,h1,h2,h3,PRep.mono hk _ _ h4⟩
def ObjOk (w:World) (U:Nat→Prop) (ι:Key→Value) (k:Key):AO→Prop
 |.box cs t=>∃ (b:Nat) (vs:List Value),ι k=.pointer (some ⟨b,0,none⟩)∧w.heap[b]?=some (.cells vs.toArray t (0,0))∧vs.length=cs.length∧(∀ v∈vs,v.oneCell'=true)∧∀ (j:Nat) (a:AV),cs[j]?=some a→∃ v,vs[j]?=some v∧ARep w U ι a v
 |.row es e z ap=>∃ vs:List Value,RowOk w e z ap (ι k) es.length vs∧(∀ v∈vs,v.oneCell'=true)∧PRepL w U es.flatten vs∧∀ x∈es,x.length=z
 |.mapg κ kv kt et=>∃ r ents clock,ι k=.map (some r)∧w.heap[r]?=some (.map ents clock)∧MapRep κ w U kv ents.toList∧MapKept.Stamped ents clock
 |.rowv es e z=>RowvOk w U ι (ι k) es e z
 |.mapv kv kt et=>MapvOk w U ι (ι k) kv
 |.mit last kv=>MitOk w U (ι k) last kv
def AO.mapA (f:AV→AV):AO→AO
 |.box cs t=>.box (cs.map f) t
 |.row es e z ap=>.row es e z ap
 |.mapg κ kv a b=>.mapg κ kv a b
 |.rowv es e z=>.rowv (es.map (·.map f)) e z
 |.mapv kv a b=>.mapv (kv.map fun p=>(p.1,f p.2)) a b
 |.mit last kv=>.mit last kv
theorem AO.mapA_id (ao:AO):ao.mapA id=ao:=by
 cases ao<;>simp [AO.mapA]
theorem AO.kill_mapA (k:Key) (ao:AO):ao.kill k=ao.mapA (AV.kill k):=by cases ao<;>rfl
theorem ObjOk.conv {w w':World} {U U':Nat→Prop} {ι ι':Key→Value} {k k':Key} (f:AV→AV) (hi:ι' k'=ι k) (hb:∀ b,blk (ι k)=some b→w'.heap[b]?=w.heap[b]?) (hk:Keeps w w' U U') (hf:∀ {a:AV} {u:Value},ARep w U ι a u→ARep w' U' ι' (f a) u) {ao:AO} (h:ObjOk w U ι k ao):ObjOk w' U' ι' k' (ao.mapA f):=by
 cases ao with
 |box cs t=>
  obtain ⟨b,vs,e1,e2,e3,e4,e5⟩:=h
  refine ⟨b,vs,by rw [hi];exact e1,by rw [hb b (by rw [e1];rfl)];exact e2,by simpa using e3,e4,fun i x hx=>?_⟩
  rw [zy,zh] at hx
  obtain ⟨y,hy,rfl⟩:=hx
  obtain ⟨u,hu,hr⟩:=e5 i y hy
  exact ⟨u,hu,hf hr⟩
 |row es e z ap=>
  obtain ⟨vs,hown,e4,e5,e6⟩:=h
  exact ⟨vs,by rw [hi];exact hown.keep hb,e4,PRepL.mono hk _ _ e5,e6⟩
 |rowv es e z=>
  have:=RowvOk.map f h hb hf
  simp only [ObjOk,AO.mapA,hi]
  exact this
 |mapg κ kv x y=>
  obtain ⟨r,ents,cl,e1,e2,e3,e4⟩:=h
  exact ⟨r,ents,cl,by rw [hi];exact e1,by rw [hb r (by rw [e1];rfl)];exact e2,⟨e3.1,PRepL.mono hk _ _ e3.2.1,e3.2.2⟩,e4⟩
 |mapv kv x y=>
  have:=MapvOk.map f h hb hf
  simp only [ObjOk,AO.mapA,hi]
  exact this
 |mit last kv=>
  have:MitOk w U (ι k) last kv:=h
  simp only [ObjOk,AO.mapA,hi]
  exact this.mono hb hk
theorem ObjOk.mono {w w':World} {U U':Nat→Prop} {ι:Key→Value} {j:Key} {ao:AO} (hk:Keeps w w' U U') (hb:∀ b,blk (ι j)=some b→w'.heap[b]?=w.heap[b]?) (h:ObjOk w U ι j ao):ObjOk w' U' ι j ao:=by
 have:=h.conv id rfl hb hk (fun hr=>hr.mono hk)
 rwa [AO.mapA_id] at this
theorem ObjOk.blk_lt {w:World} {ι:Key→Value} {U:Nat→Prop} {k:Key} {ao:AO} (h:ObjOk w U ι k ao) {b:Nat} (hb:blk (ι k)=some b):b < w.heap.size:=by
 cases ao with
 |box cs t=>obtain ⟨b',vs,e1,e2,_⟩:=h;rw [e1] at hb;cases hb;exact (zw.1 e2).1
 |row es e z ap=>
  obtain ⟨vs,hown,_⟩:=h
  rcases hown.2 with ⟨e1,_⟩|⟨g,cap,cur,fz,e1,e2,_⟩
  ·rw [e1] at hb;cases hb
  ·rw [e1] at hb;cases hb;exact (zw.1 e2).1
 |rowv es e z=>exact RowvOk.lt h hb
 |mapg κ kv x y=>obtain ⟨r,ents,cl,e1,e2,_⟩:=h;rw [e1] at hb;cases hb;exact (zw.1 e2).1
 |mapv kv x y=>obtain ⟨r,ents,cl,e1,e2,_⟩:=h;rw [e1] at hb;cases hb;exact (zw.1 e2).1
 |mit last kv=>obtain ⟨r,b',seen,ents,cl,e1,e2,_⟩:=h;rw [e1] at hb;cases hb;exact (zw.1 e2).1
structure Sim (w:World) (X:Nat→Prop) (L:Objs) (ι:Key→Value):Prop where
 obj:∀ k a,Zas L k=some a→ObjOk w (fun b=>Own L ι b∨X b) ι k a
 inj:∀ k k' a a' b,Zas L k=some a→Zas L k'=some a'→blk (ι k)=some b→blk (ι k')=some b→k=k'
structure Envt where
 ok:World→Prop
 bl:Nat→Prop
 mono:∀ w w':World,(∀ b,bl b→w'.heap[b]?=w.heap[b]?)→ok w→ok w'
structure Base where
 w0:World
 X:Nat→Prop
 L0:Objs
 i0:Key→Value
structure St (E:Envt) (B:Base) (w:World) (L:Objs) (ι:Key→Value):Prop where
 grow:Grow B.w0 w (Own B.L0 B.i0)
 sim:Sim w B.X L ι
 own:∀ b,Own L ι b→Own B.L0 B.i0 b∨B.w0.heap.size≤b
 xlt:∀ b,B.X b→b < B.w0.heap.size
 keep:∀ k,(Zas B.L0 k).isSome=true→(Zas L k).isSome=true→ι k=B.i0 k
 env:E.ok w
 envb:∀ b,E.bl b→b < B.w0.heap.size∧¬ Own B.L0 B.i0 b
 loc:∀ i,Zas B.L0 (.l i)=none
 xdis:∀ b,B.X b→¬ Own B.L0 B.i0 b
def FRep (w:World) (U:Nat→Prop) (ι:Key→Value) (fr:List AV) (a:Act):Prop:=
 a.tmps.size=fr.length∧∀ (i:Nat) (x:AV),fr[i]?=some x→∃ v,a.tmps[i]?=some v∧ARep w U ι x v
def StF (E:Envt) (B:Base) (w:World) (L:Objs) (ι:Key→Value) (fr:List AV) (a:Act):Prop:=
 St E B w L ι∧FRep w (fun b=>Own L ι b∨B.X b) ι fr a∧a.defers=[]
abbrev AQ:=Exit→List AV→Objs→Prop
def AQ.conc (E:Envt) (B:Base) (Q:AQ) (e:Exit) (a:Act) (w:World):Prop:=∃ fr L ι,Q e fr L∧StF E B w L ι fr a
def AWp (P:Program) (E:Envt) (c:Code) (fr:List AV) (L:Objs) (Q:AQ):Prop:=
 ∀ B w ι a,StF E B w L ι fr a→c.wp P (Q.conc E B) a w
def ARepL (w:World) (U:Nat→Prop) (ι:Key→Value):List AV→List Value→Prop
 |[],vs=>vs=[]
 |a :: as,vs=>∃ v r,vs=v :: r∧ARep w U ι a v∧ARepL w U ι as r
structure Back (E:Envt) (w:World) (X:Nat→Prop) (L:Objs) (ι:Key→Value) (w':World) (L':Objs) (ι':Key→Value) (i:Nat):Prop where
 sim:Sim w' X L' ι'
 grow:Grow w w' (Own L ι)
 own:∀ b,Own L' ι' b→Own L ι b∨w.heap.size≤b
 keep:∀ k,k≠.l i→ι' k=ι k
 news:∀ k,(Zas L' k).isSome=true→(Zas L k).isSome=true∨k=.l i
def qg5 (P:Program) (E:Envt) (f:FuncId) (args:List AV) (L:Objs) (φ:PV→Prop):Prop:=
 ∀ w X ι vs,Sim w X L ι→(∀ b,X b→b < w.heap.size∧¬ Own L ι b)→E.ok w→(∀ b,E.bl b→b < w.heap.size∧¬ Own L ι b)→ARepL w (fun b=>Own L ι b∨X b) ι args vs→
  Calls P f vs.toArray w fun e w'=>∃ v x,e=.returned v∧φ x∧PRep w' (fun b=>Own L ι b∨X b) x v∧Grow w w' (fun _=>False)
def PCall (P:Program) (E:Envt) (f:FuncId) (args:List PV) (φ:PV→Prop):Prop:=
 ∀ w U vs,(∀ b,U b→b < w.heap.size)→E.ok w→(∀ b,E.bl b→b < w.heap.size)→PRepL w U args vs→
  Calls P f vs.toArray w fun e w'=>∃ v x,e=.returned v∧φ x∧PRep w' U x v∧Grow w w' (fun _=>False)
def Call (P:Program) (E:Envt) (f:FuncId) (args:List AV) (L:Objs) (i:Nat) (K:AV→Objs→Prop):Prop:=
 ∀ w X ι vs,Sim w X L ι→(∀ b,X b→b < w.heap.size∧¬ Own L ι b)→E.ok w→(∀ b,E.bl b→b < w.heap.size∧¬ Own L ι b)→ARepL w (fun b=>Own L ι b∨X b) ι args vs→
  Calls P f vs.toArray w fun e w'=>∃ v r L' ι',e=.returned v∧K r L'∧ARep w' (fun b=>Own L' ι' b∨X b) ι' r v∧Back E w X L ι w' L' ι' i
section
variable {P:Program} {E:Envt} {fr:List AV} {L:Objs} {Q Q':AQ}
theorem AWp.mono {c:Code} (h:AWp P E c fr L Q) (hq:∀ e fr L,Q e fr L→Q' e fr L):AWp P E c fr L Q':=
 fun B w ι a hs=>wp_mono (h B w ι a hs) fun e a w ⟨fr,L,ι,q,s⟩=>⟨fr,L,ι,hq e fr L q,s⟩
theorem AWp.skip (h:Q .normal fr L):AWp P E .skip fr L Q:=fun B w ι a hs=>wp_skip ⟨fr,L,ι,h,hs⟩
theorem AWp.exit {id:Nat} (h:Q (.exit id) fr L):AWp P E (.exit id) fr L Q:=fun B w ι a hs=>wp_exit ⟨fr,L,ι,h,hs⟩
theorem AWp.ret (h:Q .ret fr L):AWp P E .ret fr L Q:=fun B w ι a hs=>wp_ret ⟨fr,L,ι,h,hs⟩
def qfh (K:List AV→Objs→Prop) (Q:AQ):AQ
 |.normal,fr,L=>K fr L
 |e,fr,L=>Q e fr L
theorem AWp.seq {x y:Code} (h:AWp P E x fr L (qfh (fun fr L=>AWp P E y fr L Q) Q)):AWp P E (.seq x y) fr L Q:=by
 intro B w ι a hs
 refine wp_seq (wp_mono (h B w ι a hs) ?_)
 rintro e a' w' ⟨fr',L',ι',q,s⟩
 cases e<;>first|exact q B w' ι' a' s|exact ⟨fr',L',ι',q,s⟩
def qiN (id:Nat) (Q:AQ):AQ
 |.exit j,fr,L=>if j=id then Q .normal fr L else Q (.exit j) fr L
 |e,fr,L=>Q e fr L
theorem AWp.block {id:Nat} {c:Code} (h:AWp P E c fr L (qiN id Q)):AWp P E (.block id c) fr L Q:=by
 intro B w ι a hs
 refine wp_block (wp_mono (h B w ι a hs) ?_)
 rintro e a' w' ⟨fr',L',ι',q,s⟩
 cases e with
 |exit j=>
  simp only [qiN] at q
  simp only [Exit.inBlock]
  split at q
  ·rename_i hj;rw [if_pos hj];exact ⟨fr',L',ι',q,s⟩
  ·rename_i hj;rw [if_neg hj];exact ⟨fr',L',ι',q,s⟩
 |_=>exact ⟨fr',L',ι',q,s⟩
theorem qnP {c:Code} {R:Exit→Act→World→Prop} (I:Nat→Act→World→Prop) (round:∀ n a w,I n a w→c.wp P (Exit.then (fun a' w'=>∃ m,m < n∧I m a' w') R) a w) :
  ∀ n a w,I n a w→(Code.loop c).wp P R a w:=by
 intro n a w hI b k cs
 have key:∀ n a w,I n a w→∃ e a' w',R e a' w'∧Arrives P (lone (b.at a (.code c :: .inLoop c :: k)) cs w) b k cs e a' w':=by
  intro n
  induction n using Nat.strongRecOn with
  |_ n ih=>
   intro a w hI
   obtain ⟨e,a₁,w₁,hq,harr⟩:=round n a w hI b (.inLoop c :: k) cs
   cases e with
   |normal=>
    obtain ⟨m,hlt,hI₁⟩:=hq
    obtain ⟨e₂,a₂,w₂,hq₂,harr₂⟩:=ih m hlt a₁ w₁ hI₁
    exact ⟨e₂,a₂,w₂,hq₂,.of_steps (Steps.trans harr (.one step_inLoop)) harr₂⟩
   |exit id=>exact ⟨_,a₁,w₁,hq,.pass (x:=.inLoop c) rfl (fun _ _=>.inl (by simp)) harr⟩
   |goto l=>exact ⟨_,a₁,w₁,hq,.pass (x:=.inLoop c) rfl (fun _ _=>.inl (by simp)) harr⟩
   |ret=>exact ⟨_,a₁,w₁,hq,.pass (x:=.inLoop c) rfl (fun _ _=>.inl (by simp)) harr⟩
   |panic ch=>exact ⟨_,a₁,w₁,hq,.pass (x:=.inLoop c) rfl (fun _ _=>.inl (by simp)) harr⟩
   |outgrown=>exact ⟨_,a₁,w₁,hq,.pass (x:=.inLoop c) rfl (fun _ _=>.inl (by simp)) harr⟩
 obtain ⟨e,a',w',hq,harr⟩:=key n a w hI
 exact ⟨e,a',w',hq,.of_steps (.one step_loop) harr⟩
theorem AWp.loop {c:Code} (I:Nat→List AV→Objs→Prop) (round:∀ n fr L,I n fr L→AWp P E c fr L (qfh (fun fr' L'=>∃ m,m < n∧I m fr' L') Q)) (n:Nat) (h0:I n fr L):AWp P E (.loop c) fr L Q:=by
 intro B w ι a hs
 refine qnP (fun n a w=>∃ fr L ι,I n fr L∧StF E B w L ι fr a) ?_ n a w ⟨fr,L,ι,h0,hs⟩
 rintro n a w ⟨fr,L,ι,hI,hs⟩
 refine wp_mono (round n fr L hI B w ι a hs) ?_
 rintro e a' w' ⟨fr',L',ι',q,s⟩
 cases e with
 |normal=>obtain ⟨m,hm,hi⟩:=q;exact ⟨m,hm,fr',L',ι',hi,s⟩
 |_=>exact ⟨fr',L',ι',q,s⟩
theorem FRep.eval {w:World} {U:Nat→Prop} {ι:Key→Value} {a:Act} (h:FRep w U ι fr a) {t:Nat} {x:AV} (hx:fr[t]?=some x):ARep w U ι x (a.eval (.tmp t)):=by
 obtain ⟨v,hv,hr⟩:=h.2 t x hx
 simpa [Act.eval,hv] using hr
theorem AWp.cond {c:Operand} {x y:Code} {b:Bool} (hc:∀ B w ι a,StF E B w L ι fr a→a.eval c=.bool b) (h1:b=true→AWp P E x fr L Q) (h2:b=false→AWp P E y fr L Q):AWp P E (.cond c x y) fr L Q:=by
 intro B w ι a hs
 exact wp_cond_split (hc B w ι a hs) (fun e=>h1 e B w ι a hs) (fun e=>h2 e B w ι a hs)
theorem FRep.put {w:World} {U:Nat→Prop} {ι:Key→Value} {a:Act} (h:FRep w U ι fr a) (d:Nat) {r:AV} {v:Value} (hr:ARep w U ι r v):FRep w U ι (fr.set d r) (a.put (some d) v):=by
 refine ⟨by simp [Act.put,h.1],fun i x hx=>?_⟩
 simp only [Act.put]
 by_cases hi:d=i
 ·subst hi
  have hlt:d < fr.length:=by
   rcases Nat.lt_or_ge d fr.length with h'|h'
   ·exact h'
   ·rw [List.getElem?_eq_none (by simpa using h')] at hx;cases hx
  rw [List.getElem?_set_self hlt] at hx
  cases hx
  exact ⟨v,by rw [Array.getElem?_setIfInBounds_self_of_lt (by rw [h.1];exact hlt)],hr⟩
 ·rw [List.getElem?_set_ne hi] at hx
  obtain ⟨u,hu,hr'⟩:=h.2 i x hx
  exact ⟨u,by rw [Array.getElem?_setIfInBounds_ne hi];exact hu,hr'⟩
theorem FRep.mono {w w':World} {U U':Nat→Prop} {ι:Key→Value} {a:Act} (h:FRep w U ι fr a) (hk:Keeps w w' U U'):FRep w' U' ι fr a:=
 ⟨h.1,fun i x hx=>let ⟨v,hv,hr⟩:=h.2 i x hx;⟨v,hv,hr.mono hk⟩⟩
theorem FRep.kill {w:World} {U:Nat→Prop} {ι:Key→Value} {a:Act} (h:FRep w U ι fr a) (k:Key) (v:Value):FRep w U (fun j=>if j=k then v else ι j) (fr.map (·.kill k)) a:=by
 refine ⟨by simpa using h.1,fun i x hx=>?_⟩
 rw [zy,zh] at hx
 obtain ⟨y,hy,rfl⟩:=hx
 obtain ⟨u,hu,hr⟩:=h.2 i y hy
 exact ⟨u,hu,hr.kill⟩
end
inductive Opd where
 |t (i:Nat)
 |c (x:PV)
 |f (n:FuncId)
 |gl (g:Nat)
inductive IOp where
 |mov (x:Opd)
 |pick (c a b:Opd)
 |bin (op:BinOp) (x y:Opd)
 |bnb (op:BinOp) (x y:Opd)
 |eqa (neg:Bool) (ks:List FK) (x y:Opd)
 |not (x:Opd)
 |neg (x:Opd)
 |len (x:Opd)
 |sln (x:Opd)
 |mx (x y:Opd)
 |mn (x y:Opd)
 |idx (x i:Opd)
 |ssl (x:Opd) (lo hi:Option Opd)
 |vsl (z:Nat) (x:Opd) (lo hi:Option Opd)
 |ixa (z:Nat) (x i:Opd)
 |fla (off:Nat) (x:Opd)
 |ixv (z m:Nat) (x i:Opd)
 |asl (m:Nat) (x lo:Opd)
 |fld (off sz:Nat) (ag:Bool) (x:Opd)
 |ld (sz:Nat) (ag:Bool) (a:Opd)
 |ext (i:Nat) (x:Opd)
 |bld (zero:List PV) (parts:List (Nat×Nat×Opd))
 |cvi (k:IntKind) (x:Opd)
 |cvs (x:Opd)
 |b2s (x:Opd)
 |bsl (z:Nat) (parts:List Opd)
 |nck (x:Opd)
 |nli (neg:Bool) (x:Opd)
 |mki (t:Nat) (x:Opd)
 |mkf (f:FuncId) (caps:List Opd)
 |nilr (e z:Nat)
 |alc (t:TypeId) (zero:List PV)
 |box (t:TypeId) (x:Opd)
 |st (sz:Nat) (a x:Opd)
 |app (e z by_:Nat) (x y:Opd)
 |aps (e:Nat) (x y:Opd)
 |bsr (e z:Nat) (parts:List Opd)
 |s2b (e:Nat) (x:Opd)
 |mks (e z by_:Nat) (zero:List PV) (n c:Opd)
 |fz (x:Opd)
 |call (f:FuncId) (args:List Opd)
 |pcall (n:Nat) (f:FuncId) (args:List Opd)
 |callv (f:Opd) (args:List Opd)
 |pcv (n:Nat) (f:Opd) (args:List Opd)
 |pcl (n:Nat) (f:FuncId) (args:List Opd)
 |dcall (b:Bool) (f:FuncId) (args:List Opd)
 |ldl (sz:Nat) (ag:Bool) (a:Opd)
 |ldn (n sz:Nat) (ag:Bool) (a:Opd)
 |stk (n sz:Nat) (a x:Opd)
 |mpk (n:Nat) (m k v:Opd)
 |dead
 |cap0 (x:Opd)
 |vsn (x hi:Opd)
 |apz (e z by_:Nat) (zero:List PV) (x n:Opd)
 |trn (z:Nat) (x hi:Opd)
 |mkm (kt et:TypeId)
 |mpu (m k v:Opd)
 |mpl (ok:Bool) (zero:PV) (m k:Opd)
 |mpn (m:Opd)
 |mkk (ks:List FK) (kt et:TypeId)
 |mpuk (ks:List FK) (m k v:Opd)
 |mplk (ok:Bool) (ks:List FK) (zero:PV) (m k:Opd)
 |bldg (zero:List PV) (parts:List (Nat×Nat×Opd))
 |ldg (sz:Nat) (a:Opd)
 |stg (sz:Nat) (a x:Opd)
 |isn (x:Opd)
 |hole (d:Nat)
 |alcd (t:TypeId) (zero:List PV)
 |bsrd (e z:Nat) (parts:List Opd)
 |re
 |rng (x:Opd)
 |nxt (x:Opd)
 |ent (x:Opd)
 |mpd (m k:Opd)
 |fcl (n:Nat) (f:FuncId) (args:List Opd) (e z:Nat)
 |cpy (z:Nat) (x y:Opd)
structure IOper where
 dst:Option Nat
 op:IOp
 guard:Option (Nat×Bool):=none
def rd (fr:List AV):Opd→AV
 |.t i=>fr.getD i .any
 |.c x=>.p x
 |.f n=>.fn n []
 |.gl g=>.p (.raw (.pointer (some ⟨g,0,none⟩)))
def AV.un:AV→Prop×AV
 |.g c a=>(c=true∧a.un.1,a.un.2)
 |a=>(True,a)
def AV.ad:AV→AV
 |.p (.ptr cs)=>.ipt cs.length [cs] 0 0
 |a=>a
def AV.unA (x:AV):Prop×AV:=(x.un.1,x.un.2.ad)
def I64 (n:Int):Prop:=-9223372036854775808≤n∧n≤9223372036854775807
def bytesLess (x y:List UInt8):Bool:=Op.bytesLess x y
def Zt (k:IntKind) (n:Int):Prop×PV:=if k=.i64 then (I64 n,.int k n) else (True,.int k (k.wrap n))
def bitA (k:IntKind) (a b:Int):Int:=k.wrap ((BitVec.ofInt k.bits a &&& BitVec.ofInt k.bits b).toNat:Nat)
def bitX (k:IntKind) (a b:Int):Int:=k.wrap ((BitVec.ofInt k.bits a ^^^ BitVec.ofInt k.bits b).toNat:Nat)
def Zp (k:IntKind) (a b:Int):BinOp→Option (Prop×PV)
 |.add=>some (Zt k (a+b))
 |.sub=>some (Zt k (a - b))
 |.mul=>some (Zt k (a * b))
 |.quo=>some (b≠0∧(Zt k (a.tdiv b)).1,(Zt k (a.tdiv b)).2)
 |.rem=>some (b≠0,.int k (a.tmod b))
 |.and=>some (True,.int k (bitA k a b))
 |.xor=>some (True,.int k (bitX k a b))
 |.eql=>some (True,.bool (decide (a=b)))
 |.neq=>some (True,.bool (!decide (a=b)))
 |.lss=>some (True,.bool (decide (a < b)))
 |.leq=>some (True,.bool (decide (a≤b)))
 |.gtr=>some (True,.bool (decide (b < a)))
 |.geq=>some (True,.bool (decide (b≤a)))
 |_=>none
def Zq (k:IntKind) (a b:Int):BinOp→Option (Prop×PV)
 |.shr=>some (0≤b,.int k (a.fdiv (2 ^ (min b.toNat k.bits))))
 |.shl=>some (0≤b,.int k (k.wrap (a * 2 ^ (min b.toNat k.bits))))
 |_=>none
def Zr (x y:List UInt8):BinOp→Option (Prop×PV)
 |.add=>some (((x.length+y.length:Nat):Int)≤9223372036854775807,.str (x++y))
 |.eql=>some (True,.bool (decide (x=y)))
 |.neq=>some (True,.bool (!decide (x=y)))
 |.lss=>some (True,.bool (bytesLess x y))
 |.leq=>some (True,.bool (bytesLess x y || decide (x=y)))
 |.gtr=>some (True,.bool (!(bytesLess x y || decide (x=y))))
 |.geq=>some (True,.bool (!bytesLess x y))
 |_=>none
def Zs (x y:Bool):BinOp→Option (Prop×PV)
 |.eql=>some (True,.bool (x == y))
 |.neq=>some (True,.bool (!(x == y)))
 |_=>none
def Zo (op:BinOp):PV→PV→Option (Prop×PV)
 |.int k a,.int k' b=>match op with
  |.shr=>Zq k a b .shr
  |.shl=>Zq k a b .shl
  |op=>if k=k' then Zp k a b op else none
 |.str x,.str y=>Zr x y op
 |_,_=>none
def Zu:List FK→List PV→List PV→Option Bool
 |[],[],[]=>some true
 |.i :: ks,.int k a :: xs,.int k' b :: ys=>if k=k' then (Zu ks xs ys).map (decide (a=b) && ·) else none
 |.s :: ks,.str a :: xs,.str b :: ys=>(Zu ks xs ys).map (decide (a=b) && ·)
 |.b :: ks,.bool a :: xs,.bool b :: ys=>(Zu ks xs ys).map ((a == b) && ·)
 |_,_,_=>none
def Zv (n:Nat):Option AV→Nat→Option (Prop×Nat)
 |none,d=>some (True,d)
 |some v,_=>match v.un with
  |(c,.p (.int _ i))=>some (c∧0≤i∧i≤n,i.toNat)
  |_=>none
def Zw (L:Objs):AV→Option (Nat×List (List PV))
 |.p (.sl z es)=>some (z,es)
 |.p (.nl z)=>some (z,[])
 |.row k=>match Zas L k with
  |some (.row es _ z _)=>some (z,es)
  |_=>none
 |_=>none
def Zay (L:Objs):AV→Option Nat
 |.p (.sl _ es)=>some es.length
 |.p (.nl _)=>some 0
 |.row k=>match Zas L k with
  |some (.row es _ _ _)=>some es.length
  |some (.rowv es _ _)=>some es.length
  |_=>none
 |_=>none
def wk1:PV→PV
 |.nl z=>.sl z []
 |x=>x
def wk:PV→PV
 |.agg cs=>.agg (cs.map wk1)
 |.tup cs=>.tup (cs.map wk1)
 |x=>wk1 x
def Zx:List AV→Option (List PV)
 |[]=>some []
 |.p x :: r=>(Zx r).map (x :: ·)
 |_ :: _=>none
def Zy:PV→Bool
 |.agg _|.tup _=>false
 |_=>true
def Zz:PV→List PV
 |.agg cs=>cs
 |x=>[x]
def Zaa (l:List PV):Bool:=l.all Zy
def Zab (cs:List PV) (off:Nat):List PV→List PV
 |[]=>cs
 |x :: r=>Zab (cs.set off x) (off+1) r
def Zad (fr:List AV):List PV→List (Nat×Nat×Opd)→Option (Prop×List PV)
 |cs,[]=>some (True,cs)
 |cs,(off,sz,x) :: r=>
  match (rd fr x).un with
  |(c,.p v)=>if (Zz v).length=sz∧Zaa (Zz v)=true then (Zad fr (Zab cs off (Zz v)) r).map fun q=>(c∧q.1,q.2) else none
  |_=>none
def Zah:CV→AV
 |.p p=>.p p
 |.row k=>.row k
 |.mp k=>.mp k
def Zaf (cs:List CV) (off:Nat):List PV→List CV
 |[]=>cs
 |x :: r=>Zaf (cs.set off (.p x)) (off+1) r
def Zae (fr:List AV):List CV→List (Nat×Nat×Opd)→Option (Prop×List CV)
 |cs,[]=>some (True,cs)
 |cs,(off,sz,x) :: r=>
  match (rd fr x).un with
  |(c,.p v)=>if (Zz v).length=sz∧Zaa (Zz v)=true then (Zae fr (Zaf cs off (Zz v)) r).map fun q=>(c∧q.1,q.2) else none
  |(c,.row k)=>if sz=1 then (Zae fr (cs.set off (.row k)) r).map fun q=>(c∧q.1,q.2) else none
  |(c,.mp k)=>if sz=1 then (Zae fr (cs.set off (.mp k)) r).map fun q=>(c∧q.1,q.2) else none
  |_=>none
def Zag:List AV→Option (List CV)
 |[]=>some []
 |.p x :: r=>(Zag r).map (.p x :: ·)
 |.row k :: r=>(Zag r).map (.row k :: ·)
 |.mp k :: r=>(Zag r).map (.mp k :: ·)
 |_ :: _=>none
def Zao (fr:List AV) (z:Nat):List Opd→Option (Prop×List (List PV))
 |[]=>some (True,[])
 |x :: r=>
  match (rd fr x).un with
  |(c,.p v)=>if (Zz v).length=z∧Zaa (Zz v)=true then (Zao fr z r).map fun q=>(c∧q.1,(Zz v).map wk1 :: q.2) else none
  |_=>none
def qkz:List Opd→Bool
 |[.c (.nl _)]=>true
 |_=>false
def qg6:List (List PV)→Option (List UInt8)
 |[]=>some []
 |[.int .u8 n] :: r=>(qg6 r).map (UInt8.ofNat n.toNat :: ·)
 |_=>none
def Zap:List AV→Option (List Key)
 |[]=>some []
 |.adr k 0 :: r=>(Zap r).map (k :: ·)
 |_=>none
def caps_P:List AV→Option (List PV)
 |[]=>some []
 |.p (.ptr cs) :: r=>(caps_P r).map (.ptr cs :: ·)
 |_=>none
def mpF {α:Type}:List (List UInt8×α)→List UInt8→Option α
 |[],_=>none
 |p :: r,s=>if p.1=s then some p.2 else mpF r s
def mpS {α:Type}:List (List UInt8×α)→List UInt8→α→List (List UInt8×α)
 |[],s,v=>[(s,v)]
 |p :: r,s,v=>if p.1=s then (s,v) :: r else p :: mpS r s v
def mpX {α:Type}:List (List UInt8×α)→List UInt8→List (List UInt8×α)
 |[],_=>[]
 |p :: r,s=>if p.1=s then r else p :: mpX r s
def mpD (kv:List (List UInt8×PV)) (s:List UInt8) (z:PV):PV:=(mpF kv s).getD z
def nilI:Value→Option Bool
 |.nilIface=>some true
 |.iface _ _=>some false
 |_=>none
def Zf (fr:List AV) (L:Objs):IOp→Option (Prop×AV)
 |.mov x=>some (True,rd fr x)
 |.pick c a b=>match (rd fr c).un,(rd fr a).un,(rd fr b).un with
  |(cc,.p (.bool t)),(ca,.p (.bool x)),(cb,.p (.bool y))=>some (cc∧(t=true→ca)∧(t=false→cb),.p (.bool (bif t then x else y)))
  |(cc,.p (.bool t)),(ca,.p (.bool x)),(_,.any)=>some (cc∧ca∧t=true,.p (.bool x))
  |(cc,.p (.bool t)),(_,.any),(cb,.p (.bool y))=>some (cc∧cb∧t=false,.p (.bool y))
  |_,_,_=>none
 |.bin op x y=>match (rd fr x).un,(rd fr y).un with
  |(cx,.p a),(cy,.p b)=>(Zo op a b).map fun q=>(cx∧cy∧q.1,.p q.2)
  |_,_=>none
 |.bnb op x y=>match (rd fr x).un,(rd fr y).un with
  |(cx,.p (.bool a)),(cy,.p (.bool b))=>(Zs a b op).map fun q=>(cx∧cy∧q.1,.p q.2)
  |_,_=>none
 |.eqa neg ks x y=>match (rd fr x).un,(rd fr y).un with
  |(cx,.p (.agg a)),(cy,.p (.agg b))=>(Zu ks a b).map fun q=>(cx∧cy,.p (.bool (if neg then !q else q)))
  |_,_=>none
 |.not x=>match (rd fr x).un with
  |(c,.p (.bool b))=>some (c,.p (.bool !b))
  |_=>none
 |.neg x=>match (rd fr x).un with
  |(c,.p (.int .i64 n))=>some (c∧I64 (0 - n),.p (.int .i64 (0 - n)))
  |_=>none
 |.len x=>(Zay L (rd fr x).un.2).map fun n=>((rd fr x).un.1,.p (.int .i64 (n:Nat)))
 |.sln x=>match (rd fr x).un with
  |(c,.p (.str s))=>some (c,.p (.int .i64 s.length))
  |_=>none
 |.mx x y=>match (rd fr x).un,(rd fr y).un with
  |(cx,.p (.int .i64 a)),(cy,.p (.int .i64 b))=>some (cx∧cy,.p (.int .i64 (max a b)))
  |_,_=>none
 |.mn x y=>match (rd fr x).un,(rd fr y).un with
  |(cx,.p (.int .i64 a)),(cy,.p (.int .i64 b))=>some (cx∧cy,.p (.int .i64 (min a b)))
  |_,_=>none
 |.idx x i=>match (rd fr x).un,(rd fr i).un with
  |(cx,.p (.str s)),(ci,.p (.int _ n))=>some (cx∧ci∧0≤n∧n < s.length,.p (.int .u8 ((s.getD n.toNat 0).toNat:Nat)))
  |_,_=>none
 |.ssl x lo hi=>match (rd fr x).un with
  |(c,.p (.str s))=>match Zv s.length (hi.map (rd fr)) s.length with
   |some (ch,h)=>(Zv h (lo.map (rd fr)) 0).map fun q=>(c∧ch∧q.1,.p (.str ((s.take h).drop q.2)))
   |none=>none
  |_=>none
 |.vsl z' x lo hi=>match (rd fr x).un with
  |(c,.p (.sl z es))=>if z'=z then match Zv es.length (hi.map (rd fr)) es.length with
   |some (ch,h)=>(Zv h (lo.map (rd fr)) 0).map fun q=>(c∧ch∧q.1,.p (.sl z ((es.take h).drop q.2)))
   |none=>none
   else none
  |_=>none
 |.ixa z x i=>match (rd fr x).un,(rd fr i).un with
  |(cx,.p (.sl z' es)),(ci,.p (.int _ n))=>if z'=z then some (cx∧ci∧0≤n∧n < es.length,.ipt z es n.toNat 0) else none
  |(cx,.row k),(ci,.p (.int _ n))=>match Zas L k with
   |some (.row es _ z' _)=>if z'=z then some (cx∧ci∧0≤n∧n < es.length,.rad k z n.toNat 0) else none
   |some (.rowv es _ z')=>if z'=z then some (cx∧ci∧0≤n∧n < es.length,.rad k z n.toNat 0) else none
   |_=>none
  |_,_=>none
 |.fla off x=>match (rd fr x).unA with
  |(c,.adr k o)=>some (c,.adr k (o+off))
  |(c,.rad k z i o)=>some (c,.rad k z i (o+off))
  |(c,.ipt z es i o)=>some (c,.ipt z es i (o+off))
  |_=>none
 |.ixv z m x i=>match (rd fr x).unA,(rd fr i).un with
  |(c,.adr k o),(ci,.p (.int _ n))=>some (c∧ci∧0≤n∧n < m,.adr k (o+n.toNat * z))
  |(c,.ipt z' es j o),(ci,.p (.int _ n))=>some (c∧ci∧0≤n∧n < m,.ipt z' es j (o+n.toNat * z))
  |_,_=>none
 |.asl m x lo=>match (rd fr x).unA,(rd fr lo).un with
  |(c,.ipt z [cs] 0 0),(ci,.p (.int _ n))=>if z=m then some (c∧ci∧0≤n∧n≤m,.p (.sl 1 ((cs.drop n.toNat).map fun x=>[x]))) else none
  |_,_=>none
 |.fld off sz ag x=>match (rd fr x).un with
  |(c,.p (.agg cs))=>if off+sz≤cs.length then some (c,.p (if ag then .agg ((cs.drop off).take sz) else cs.getD off (.bool false))) else none
  |_=>none
 |.ld sz ag a=>match (rd fr a).unA with
  |(c,.ipt z es i o)=>if o+sz≤z then some (c∧i < es.length,.p (if ag then .agg (((es.getD i []).drop o).take sz) else (es.getD i []).getD o (.bool false))) else none
  |(c,.rad k z i o)=>match Zas L k with
   |some (.row es _ z' _)=>if z'=z∧o+sz≤z then some (c∧i < es.length,.p (if ag then .agg (((es.getD i []).drop o).take sz) else (es.getD i []).getD o (.bool false))) else none
   |some (.rowv es _ z')=>if z'=z∧o+sz≤z∧ag=false then some (c∧i < es.length,(es.getD i []).getD o .any) else none
   |_=>none
  |(c,.adr k o)=>match Zas L k with
   |some (.box cs _)=>if o+sz≤cs.length then
     (if ag then (Zx ((cs.drop o).take sz)).map fun l=>(c,.p (.agg l)) else some (c,cs.getD o .any)) else none
   |_=>none
  |_=>none
 |.ext i x=>match (rd fr x).un with
  |(c,.p (.tup cs))=>match cs[i]? with
   |some v=>some (c,.p v)
   |none=>none
  |(c,.tr k ps)=>match i with
   |0=>some (c,.row k)
   |j+1=>(ps[j]?).map fun v=>(c,.p v)
  |_=>none
 |.bld zero parts=>(Zad fr zero parts).map fun q=>(q.1,.p (.agg q.2))
 |.cvi k x=>match (rd fr x).un with
  |(c,.p (.int k' n))=>some (c∧(Zt k n).1,.p (Zt k n).2)
  |_=>none
 |.cvs x=>match (rd fr x).un with
  |(c,.p (.int _ n))=>some (c,.p (.str (Utf8.encode n).data.toList))
  |_=>none
 |.b2s x=>match Zw L (rd fr x).un.2 with
  |some (1,es)=>(qg6 es).map fun l=>((rd fr x).un.1,.p (.str l))
  |_=>none
 |.bsl z parts=>(Zao fr z parts).map fun q=>(q.1,.p (.sl z q.2))
 |.nck x=>match (rd fr x).unA with
  |(c,.adr k o)=>some (c,.adr k o)
  |(c,.rad k z i o)=>some (c,.rad k z i o)
  |(c,.ipt z es i o)=>some (c,.ipt z es i o)
  |_=>none
 |.nli neg x=>match (rd fr x).un with
  |(c,.p (.raw v))=>(nilI v).map fun b=>(c,.p (.bool (if neg then !b else b)))
  |_=>none
 |.mki t x=>match (rd fr x).un with
  |(c,.p (.int k n))=>some (c,.p (.raw (.iface t (.int k n))))
  |_=>none
 |.ldl sz ag a=>match (rd fr a).unA with
  |(c,.ipt z es i o)=>if o+sz≤z then some (c∧i < es.length,.p (if ag then .agg (((es.getD i []).drop o).take sz) else (es.getD i []).getD o (.bool false))) else none
  |(c,.rad (.l j) z i o)=>match Zas L (.l j) with
   |some (.row es _ z' _)=>if z'=z∧o+sz≤z then some (c∧i < es.length,.p (if ag then .agg (((es.getD i []).drop o).take sz) else (es.getD i []).getD o (.bool false))) else none
   |some (.rowv es _ z')=>if z'=z∧o+sz≤z∧ag=false then some (c∧i < es.length,(es.getD i []).getD o .any) else none
   |_=>none
  |(c,.adr (.l j) o)=>match Zas L (.l j) with
   |some (.box cs _)=>if o+sz≤cs.length then
     (if ag then (Zx ((cs.drop o).take sz)).map fun l=>(c,.p (.agg l)) else some (c,cs.getD o .any)) else none
   |_=>none
  |_=>none
 |.ldn n sz ag a=>match (rd fr a).unA with
  |(c,.ipt z es i o)=>if o+sz≤z then some (c∧i < es.length,.p (if ag then .agg (((es.getD i []).drop o).take sz) else (es.getD i []).getD o (.bool false))) else none
  |(c,.rad k z i o)=>if k=.l n then none else match Zas L k with
   |some (.row es _ z' _)=>if z'=z∧o+sz≤z then some (c∧i < es.length,.p (if ag then .agg (((es.getD i []).drop o).take sz) else (es.getD i []).getD o (.bool false))) else none
   |some (.rowv es _ z')=>if z'=z∧o+sz≤z∧ag=false then some (c∧i < es.length,(es.getD i []).getD o .any) else none
   |_=>none
  |(c,.adr k o)=>if k=.l n then none else match Zas L k with
   |some (.box cs _)=>if o+sz≤cs.length then
     (if ag then (Zx ((cs.drop o).take sz)).map fun l=>(c,.p (.agg l)) else some (c,cs.getD o .any)) else none
   |_=>none
  |_=>none
 |.cap0 x=>match (rd fr x).un with
  |(c,.p (.nl _))=>some (c,.p (.int .i64 0))
  |_=>none
 |.vsn x hi=>match (rd fr x).un,(rd fr hi).un with
  |(c,.p (.nl z)),(ch,.p (.int _ h))=>some (c∧ch∧h=0,.p (.nl z))
  |_,_=>none
 |.mpl ok zero m k=>match (rd fr m).un,(rd fr k).un with
  |(cm,.mp q),(ck,.p (.str s))=>match Zas L q with
   |some (.map kv _ _)=>some (cm∧ck,.p (if ok then .tup [mpD kv s zero,.bool (mpF kv s).isSome] else mpD kv s zero))
   |some (.mapv kv _ _)=>if ok=false then some (cm∧ck,(mpF kv s).getD (.p zero)) else none
   |_=>none
  |(cm,.p (.mpv ks vs)),(ck,.p (.str s))=>some (cm∧ck,.p (if ok then .tup [mpD (ks.zip vs) s zero,.bool (mpF (ks.zip vs) s).isSome] else mpD (ks.zip vs) s zero))
  |_,_=>none
 |.mplk ok ks zero m k=>match (rd fr m).un,(rd fr k).un with
  |(cm,.mp q),(ck,.p (.agg cs))=>match Zas L q with
   |some (.mapg (.fl ks') kv _ _)=>if ks'=ks∧ok_Ks ks cs=true then some (cm∧ck,.p (if ok then .tup [mpD kv (qbG cs) zero,.bool (mpF kv (qbG cs)).isSome] else mpD kv (qbG cs) zero)) else none
   |_=>none
  |(cm,.p (.mpg (.fl ks') kys vs)),(ck,.p (.agg cs))=>if ks'=ks∧ok_Ks ks cs=true then some (cm∧ck,.p (if ok then .tup [mpD (kys.zip vs) (qbG cs) zero,.bool (mpF (kys.zip vs) (qbG cs)).isSome] else mpD (kys.zip vs) (qbG cs) zero)) else none
  |_,_=>none
 |.mpn m=>match (rd fr m).un with
  |(c,.mp q)=>match Zas L q with
   |some (.map kv _ _)=>some (c,.p (.int .i64 kv.length))
   |_=>none
  |(c,.p (.mpv ks _))=>some (c,.p (.int .i64 ks.length))
  |_=>none
 |.ent x=>match (rd fr x).un with
  |(c,.adr k 0)=>match Zas L k with
   |some (.mit (some p) _)=>some (c,.p (.tup [.str p.1,p.2]))
   |_=>none
  |_=>none
 |.bldg zero parts=>(Zae fr (zero.map .p) parts).map fun q=>(q.1,.ag q.2)
 |.ldg sz a=>match (rd fr a).unA with
  |(c,.adr k o)=>match Zas L k with
   |some (.box cs _)=>if o+sz≤cs.length then (Zag ((cs.drop o).take sz)).map fun l=>(c,.ag l) else none
   |_=>none
  |_=>none
 |.mkf f caps=>match Zap (caps.map (rd fr)) with
  |some ks=>some (True,.fn f ks)
  |none=>(caps_P (caps.map (rd fr))).map fun ps=>(True,.p (.clo f ps))
 |_=>none
def Zg (fr:List AV) (d:Option Nat) (r:AV):List AV:=
 match d with
 |some d=>fr.set d r
 |none=>fr
def Za (fr:List AV) (L:Objs) (x:Opd):Option (Key×List (List UInt8×PV)):=
 match (rd fr x).un.2 with
 |.adr k 0=>match Zas L k with
  |some (.mit _ kv)=>some (k,kv)
  |_=>none
 |_=>none
def qaf:Operand→Opd→Bool
 |.tmp i,.t j=>i == j
 |.const (.int k n),.c (.int k' n')=>k == k' && n == n'
 |.const (.bool b),.c (.bool b')=>b == b'
 |.const (.string s),.c (.str l)=>s.data.toList == l
 |.const (.slice none 0 0),.c (.nl _)=>true
 |.const .nilFunc,.c (.raw .nilFunc)=>true
 |.const .nilIface,.c (.raw .nilIface)=>true
 |.const (.map none),.c (.raw (.map none))=>true
 |.func f,.f f'=>f == f'
 |.global g,.gl g'=>g == g'
 |_,_=>false
def qbZ:List Operand→List Opd→Bool
 |[],[]=>true
 |x :: xs,y :: ys=>qaf x y && qbZ xs ys
 |_,_=>false
def qiX:Option Operand→Option Opd→Bool
 |none,none=>true
 |some x,some y=>qaf x y
 |_,_=>false
section
variable {P:Program} {E:Envt} {B:Base} {w:World} {L:Objs} {ι:Key→Value} {fr:List AV} {a:Act} {U:Nat→Prop}
theorem rdOk (hf:FRep w U ι fr a) {o:Operand} {x:Opd} (h:qaf o x=true):ARep w U ι (rd fr x) (a.eval o):=by
 unfold qaf at h
 split at h
 ·rename_i i j
  obtain rfl:i=j:=by simpa using h
  simp only [rd,zC]
  cases hx:fr[i]? with
  |none=>trivial
  |some y=>simpa using hf.eval hx
 ·rename_i k n k' n'
  simp only [zi,beq_iff_eq] at h
  obtain ⟨rfl,rfl⟩:=h
  rfl
 ·rename_i b b'
  obtain rfl:b=b':=by simpa using h
  rfl
 ·rename_i s l
  obtain rfl:s.data.toList=l:=by simpa using h
  simp [rd,ARep,PRep,Act.eval]
 ·simp [rd,ARep,PRep,Act.eval]
 ·simp [rd,ARep,PRep,Act.eval,Value.oneCell']
 ·simp [rd,ARep,PRep,Act.eval,Value.oneCell']
 ·simp [rd,ARep,PRep,Act.eval,Value.oneCell']
 ·rename_i f f'
  obtain rfl:f=f':=by simpa using h
  simp [rd,ARep,Act.eval]
 ·rename_i g g'
  obtain rfl:g=g':=by simpa using h
  simp [rd,ARep,PRep,Act.eval,Value.oneCell']
 ·cases h
theorem ARep.un {x:AV} {v:Value} (h:ARep w U ι x v):x.un.1→ARep w U ι x.un.2 v:=by
 induction x generalizing v with
 |g c a ih=>simp only [AV.un];exact fun hc=>ih (h.1 hc.1) hc.2
 |_=>exact fun _=>h
def Val1 (P:Program) (o:Oper) (fr:List AV) (L:Objs) (c:Prop) (r:AV):Prop:=
 ∀ (E:Envt) (B:Base) (w:World) (ι:Key→Value) (a:Act),StF E B w L ι fr a→c→
  ∃ v w',(execOp a.eval o).run P w=.ok (.value v) w'∧Grow w w' (fun _=>False)∧ARep w' (fun b=>Own L ι b∨B.X b) ι r v
theorem Val1.same {o:Oper} {c:Prop} {r:AV} (h:∀ (E:Envt) (B:Base) (w:World) (ι:Key→Value) (a:Act),StF E B w L ι fr a→c→∃ v,(execOp a.eval o).run P w=.ok (.value v) w∧ARep w (fun b=>Own L ι b∨B.X b) ι r v):Val1 P o fr L c r:=
 fun E B w ι a hs hc=>let ⟨v,e,hr⟩:=h E B w ι a hs hc;⟨v,w,e,Grow.refl w _,hr⟩
theorem qq1 {o:Oper} {x:Operand} {y:Opd} (ho:o.op=.move x∨o.op=.assign x) (hx:qaf x y=true):Val1 P o fr L True (rd fr y):=by
 refine Val1.same fun E B w ι a hs _=>⟨a.eval x,?_,rdOk hs.2.1 hx⟩
 rcases ho with ho|ho<;>simp [execOp,ho]
theorem PRep.int_eq {k:IntKind} {n:Int} {v:Value} (h:PRep w U (.int k n) v):v=.int k n:=by simpa [PRep] using h
theorem PRep.bool_eq {b:Bool} {v:Value} (h:PRep w U (.bool b) v):v=.bool b:=by simpa [PRep] using h
theorem PRep.str_eq {s:List UInt8} {v:Value} (h:PRep w U (.str s) v):v=.string ⟨s.toArray⟩:=by simpa [PRep] using h
theorem qsN {o:Oper} {c x y:Operand} {c' x' y':Opd} (ho:o.op=.pick c x y) (hc:qaf c c'=true) (hx:qaf x x'=true) (hy:qaf y y'=true) {t p q:Bool} {cc cx cy:Prop}
  (ec:(rd fr c').un=(cc,.p (.bool t))) (ex:(rd fr x').un=(cx,.p (.bool p))) (ey:(rd fr y').un=(cy,.p (.bool q))):Val1 P o fr L (cc∧(t=true→cx)∧(t=false→cy)) (.p (.bool (bif t then p else q))):=by
 refine Val1.same fun E B w ι a hs ⟨h1,h2,h3⟩=>?_
 have rc:=(rdOk hs.2.1 hc).un;rw [ec] at rc
 have rx:=(rdOk hs.2.1 hx).un;rw [ex] at rx
 have ry:=(rdOk hs.2.1 hy).un;rw [ey] at ry
 have e1:=PRep.bool_eq (rc h1)
 cases t with
 |true=>have e2:=PRep.bool_eq (rx (h2 rfl));exact ⟨.bool p,by simp [execOp,ho,e1,e2,asBool],rfl⟩
 |false=>have e2:=PRep.bool_eq (ry (h3 rfl));exact ⟨.bool q,by simp [execOp,ho,e1,e2,asBool],rfl⟩
theorem qq0 {o:Oper} {c x y:Operand} {c' x':Opd} (ho:o.op=.pick c x y) (hc:qaf c c'=true) (hx:qaf x x'=true) {t p:Bool} {cc cx:Prop}
  (ec:(rd fr c').un=(cc,.p (.bool t))) (ex:(rd fr x').un=(cx,.p (.bool p))):Val1 P o fr L (cc∧cx∧t=true) (.p (.bool p)):=by
 refine Val1.same fun E B w ι a hs ⟨h1,h2,h3⟩=>?_
 have rc:=(rdOk hs.2.1 hc).un;rw [ec] at rc
 have rx:=(rdOk hs.2.1 hx).un;rw [ex] at rx
 have e1:=PRep.bool_eq (rc h1)
 subst h3
 have e2:=PRep.bool_eq (rx h2)
 exact ⟨.bool p,by simp [execOp,ho,e1,e2,asBool],rfl⟩
theorem qqZ {o:Oper} {c x y:Operand} {c' y':Opd} (ho:o.op=.pick c x y) (hc:qaf c c'=true) (hy:qaf y y'=true) {t q:Bool} {cc cy:Prop}
  (ec:(rd fr c').un=(cc,.p (.bool t))) (ey:(rd fr y').un=(cy,.p (.bool q))):Val1 P o fr L (cc∧cy∧t=false) (.p (.bool q)):=by
 refine Val1.same fun E B w ι a hs ⟨h1,h2,h3⟩=>?_
 have rc:=(rdOk hs.2.1 hc).un;rw [ec] at rc
 have ry:=(rdOk hs.2.1 hy).un;rw [ey] at ry
 have e1:=PRep.bool_eq (rc h1)
 subst h3
 have e2:=PRep.bool_eq (ry h2)
 exact ⟨.bool q,by simp [execOp,ho,e1,e2,asBool],rfl⟩
end
theorem qqB {n:Int} (h:I64 n):IntKind.i64.wrap n=n:=IntWalk.i64_in n h
theorem qnH {k:IntKind} {n:Int} (h:(Zt k n).1):(Zt k n).2=.int k (k.wrap n):=by
 unfold Zt at h ⊢
 split
 ·rename_i e;subst e;simp only [if_true] at h;simp only [qqB h]
 ·rfl
theorem qhL {P:Program} {op:BinOp} {t:TypeId} {x y:Operand} {v u:Value} {w:World} (h1:v≠.nilIface) (h2:∀ cs,v≠.agg cs):(eqGuard op t x y v u).run P w=.ok () w:=by
 unfold eqGuard
 cases v<;>first|(exact absurd rfl h1)|(exact absurd rfl (h2 _))|(cases op<;>simp)
theorem qdo {P:Program} {t:TypeId} {w:World} {x y:Bool} (h:P.underlying t=some .bool) (d:Nat):(Op.equalIn (d+1) t (.bool x) (.bool y)).run P w=.ok (x == y) w:=by
 simp only [Op.equalIn,Sem.run_bind,run_underlying h,Result.andThen_ok]
 rfl
theorem qj6 {P:Program} {t:TypeId} {w:World} {x y:Bool} (h:P.underlying t=some .bool):(Op.equal t (.bool x) (.bool y)).run P w=.ok (x == y) w:=qdo h 9999
set_option maxHeartbeats 2000000 in
theorem qql {P:Program} {op:BinOp} {p q r:PV} {c:Prop} {w:World} {U:Nat→Prop} {t:TypeId} {x y:Operand} {v u:Value}
  (h:Zo op p q=some (c,r)) (hp:PRep w U p v) (hq:PRep w U q u) (hc:c) :
  ∃ rv,(do eqGuard op t x y v u;binOp op t v u:Sem Value).run P w=.ok rv w∧PRep w U r rv:=by
 unfold Zo at h
 split at h
 ·rename_i k a k' b
  have e1:=PRep.int_eq hp
  have e2:=PRep.int_eq hq
  subst e1;subst e2
  rw [Sem.run_bind,qhL (by simp) (by simp)]
  simp only [Result.andThen_ok]
  split at h
  ·simp only [Zq,zg,zj] at h
   obtain ⟨rfl,rfl⟩:=h
   exact ⟨_,by simp [binOp,Op.shift,show ¬ b < 0 by omega],rfl⟩
  ·simp only [Zq,zg,zj] at h
   obtain ⟨rfl,rfl⟩:=h
   exact ⟨_,by simp [binOp,Op.shift,show ¬ b < 0 by omega],rfl⟩
  ·split at h
   ·rename_i hk
    subst hk
    cases op<;>simp only [Zp,zg,zj,reduceCtorEq] at h
    ·have e:=qnH (k:=k) (n:=a+b) (by rw [h];exact hc)
     rw [h] at e;simp only at e;subst e
     exact ⟨_,by simp [binOp,Op.intArith],rfl⟩
    ·have e:=qnH (k:=k) (n:=a - b) (by rw [h];exact hc)
     rw [h] at e;simp only at e;subst e
     exact ⟨_,by simp [binOp,Op.intArith],rfl⟩
    ·have e:=qnH (k:=k) (n:=a * b) (by rw [h];exact hc)
     rw [h] at e;simp only at e;subst e
     exact ⟨_,by simp [binOp,Op.intArith],rfl⟩
    ·obtain ⟨rfl,rfl⟩:=h
     rw [qnH hc.2]
     exact ⟨_,by simp [binOp,Op.intDiv,hc.1],rfl⟩
    ·obtain ⟨rfl,rfl⟩:=h
     exact ⟨_,by simp [binOp,Op.intDiv,hc],rfl⟩
    ·obtain ⟨rfl,rfl⟩:=h
     exact ⟨.int k (bitA k a b),by simp [binOp,Op.intBits,bitA],rfl⟩
    ·obtain ⟨rfl,rfl⟩:=h
     exact ⟨.int k (bitX k a b),by simp [binOp,Op.intBits,bitX],rfl⟩
    all_goals
     obtain ⟨rfl,rfl⟩:=h
     exact ⟨.bool _,by first|(simp [binOp,Op.intCmp];done)|(simp [binOp,Op.intCmp];rfl),rfl⟩
   ·cases h
 ·rename_i x1 y1
  have e1:=PRep.str_eq hp
  have e2:=PRep.str_eq hq
  subst e1;subst e2
  rw [Sem.run_bind,qhL (by simp) (by simp)]
  simp only [Result.andThen_ok]
  have ht:∀ l:List UInt8,(⟨l.toArray⟩:ByteArray).toList=l:=fun l=>by rw [ByteArray.toList_eq]
  cases op<;>simp only [Zr,zg,zj,reduceCtorEq] at h
  ·obtain ⟨rfl,rfl⟩:=h
   refine ⟨.string (⟨x1.toArray⟩++⟨y1.toArray⟩),?_,?_⟩
   ·have hm:IntKind.i64.max=9223372036854775807:=by decide
    have hs:∀ l:List UInt8,(⟨l.toArray⟩:ByteArray).size=l.length:=fun l=>by simp [ByteArray.size]
    simp only [binOp,Op.stringOp,hs,hm]
    rw [if_neg (by omega)]
    try rfl
   ·simp only [PRep]
    congr 1
  all_goals
   obtain ⟨rfl,rfl⟩:=h
   refine ⟨.bool _,?_,rfl⟩
   simp only [binOp,Op.stringOp,ht,bytesLess]
   first|rfl|(rw [show (x1 == y1)=decide (x1=y1) from by rw [Bool.eq_iff_iff];simp];rfl)
 ·cases h
section
variable {P:Program} {L:Objs} {fr:List AV} {o:Oper} {w:World} {U:Nat→Prop} {ι:Key→Value}
theorem rdP {a:Act} (hf:FRep w U ι fr a) {o:Operand} {x:Opd} (h:qaf o x=true) {c:Prop} {p:AV} (e:(rd fr x).un=(c,p)) (hc:c):ARep w U ι p (a.eval o):=by
 have:=(rdOk hf h).un
 rw [e] at this
 exact this hc
theorem ARep.ad {x:AV} {v:Value} (h:ARep w U ι x v):ARep w U ι x.ad v:=by
 unfold AV.ad
 split
 ·rename_i cs
  obtain ⟨b,e,hb,hu,hc⟩:=h
  exact ⟨b,0,by rw [e];simp,hb,hu,by simp only [PRepE];exact ⟨trivial,hc,trivial⟩⟩
 ·exact h
theorem rdA {a:Act} (hf:FRep w U ι fr a) {o:Operand} {x:Opd} (h:qaf o x=true) {c:Prop} {p:AV} (e:(rd fr x).unA=(c,p)) (hc:c):ARep w U ι p (a.eval o):=by
 have h1:(rd fr x).un.1=c:=congrArg Prod.fst e
 have h2:(rd fr x).un.2.ad=p:=congrArg Prod.snd e
 rw [← h2]
 exact ((rdOk hf h).un (h1 ▸ hc)).ad
theorem qvE {op:BinOp} {t t':TypeId} {x y:Operand} {x' y':Opd} (ho:o.op=.binOp op t x y t') (hx:qaf x x'=true) (hy:qaf y y'=true) {c:Prop} {r:AV}
  (h:Zf fr L (.bin op x' y')=some (c,r)):Val1 P o fr L c r:=by
 simp only [Zf] at h
 split at h
 ·rename_i cx p cy q ex ey
  obtain ⟨⟨c1,r1⟩,e1,e2⟩:=zh.1 h
  simp only [zj] at e2
  obtain ⟨rfl,rfl⟩:=e2
  refine Val1.same fun E B w ι a hs ⟨h1,h2,h3⟩=>?_
  have rx:PRep _ _ p _:=rdP hs.2.1 hx ex h1
  have ry:PRep _ _ q _:=rdP hs.2.1 hy ey h2
  obtain ⟨rv,e,hr⟩:=qql (P:=P) (t:=t) (x:=x) (y:=y) e1 rx ry h3
  refine ⟨rv,?_,hr⟩
  simp only [execOp,ho,Sem.run_bind]
  simp only [Sem.run_bind] at e
  rw [e]
  rfl
 ·cases h
theorem qvC {op:BinOp} {t t':TypeId} {x y:Operand} {x' y':Opd} (ho:o.op=.binOp op t x y t') (ht:P.underlying t=some .bool) (hx:qaf x x'=true) (hy:qaf y y'=true) {c:Prop} {r:AV}
  (h:Zf fr L (.bnb op x' y')=some (c,r)):Val1 P o fr L c r:=by
 simp only [Zf] at h
 split at h
 ·rename_i cx p cy q ex ey
  obtain ⟨⟨c1,r1⟩,e1,e2⟩:=zh.1 h
  simp only [zj] at e2
  obtain ⟨rfl,rfl⟩:=e2
  refine Val1.same fun E B w ι a hs ⟨h1,h2,h3⟩=>?_
  have rx:=PRep.bool_eq (rdP hs.2.1 hx ex h1)
  have ry:=PRep.bool_eq (rdP hs.2.1 hy ey h2)
  cases op<;>simp only [Zs,zg,zj,reduceCtorEq] at e1
  all_goals
   obtain ⟨rfl,rfl⟩:=e1
   refine ⟨.bool _,?_,rfl⟩
   simp only [execOp,ho,Sem.run_bind,rx,ry,qhL (v:=.bool p) (u:=.bool q) (by simp) (by simp),Result.andThen_ok,binOp,qj6 ht]
   rfl
 ·cases h
theorem qvg {t:TypeId} {x:Operand} {x':Opd} (ho:o.op=.unOp .not t x) (hx:qaf x x'=true) {c:Prop} {r:AV} (h:Zf fr L (.not x')=some (c,r)):Val1 P o fr L c r:=by
 simp only [Zf] at h
 split at h
 ·rename_i cx b ex
  simp only [zg,zj] at h
  obtain ⟨rfl,rfl⟩:=h
  refine Val1.same fun E B w ι a hs h1=>⟨.bool !b,?_,rfl⟩
  have rx:=PRep.bool_eq (rdP hs.2.1 hx ex h1)
  simp [execOp,ho,rx,Op.unary]
 ·cases h
theorem qvi {t:TypeId} {x:Operand} {x':Opd} (ho:o.op=.unOp .neg t x) (hx:qaf x x'=true) {c:Prop} {r:AV} (h:Zf fr L (.neg x')=some (c,r)):Val1 P o fr L c r:=by
 simp only [Zf] at h
 split at h
 ·rename_i cx n ex
  simp only [zg,zj] at h
  obtain ⟨rfl,rfl⟩:=h
  refine Val1.same fun E B w ι a hs ⟨h1,h2⟩=>⟨.int .i64 (0 - n),?_,rfl⟩
  have rx:=PRep.int_eq (rdP hs.2.1 hx ex h1)
  have hw:=qqB h2
  simp only [execOp,ho,rx,Op.unary,Op.intArith,hw,Sem.run_bind]
  rfl
 ·cases h
theorem qtz {E:Envt} {B:Base} {a:Act} (hs:StF E B w L ι fr a) {x:AV} {v:Value} {q:Nat} (e:Zay L x=some q) (h:ARep w (fun b=>Own L ι b∨B.X b) ι x v):∃ A c,v=.slice A q c:=by
 unfold Zay at e
 split at e
 ·simp only [zg] at e
  subst e
  obtain ⟨A,c,e1,e2,_⟩:=h
  exact ⟨A,c,e1⟩
 ·simp only [zg] at e
  subst e
  exact ⟨none,0,h⟩
 ·rename_i k
  split at e
  ·rename_i es e' z ap hl
   simp only [zg] at e
   subst e
   obtain ⟨vs,hown,_⟩:=hs.1.sim.obj k _ hl
   rw [h.1]
   rcases hown.2 with ⟨e1,e2⟩|⟨g,cap,cur,fz,e1,_,e3,_⟩
   ·exact ⟨none,0,by rw [e1,e2]⟩
   ·exact ⟨_,cap,e1⟩
  ·rename_i es e' z hl
   simp only [zg] at e
   subst e
   obtain ⟨vs,hown,_⟩:=hs.1.sim.obj k _ hl
   rw [h.1]
   rcases hown.2 with ⟨e1,e2⟩|⟨g,cap,cur,fz,e1,_,e3,_⟩
   ·exact ⟨none,0,by rw [e1,e2]⟩
   ·exact ⟨_,cap,e1⟩
  ·cases e
 ·cases e
theorem qay (b:Builtin) (args:Array Operand) (tys:Array TypeId) (a:Act) (ho:o.op=.call { callee:=.builtin b,args:=args,argTypes:=tys }) :
  (execOp a.eval o).run P w=(builtin b tys o.type (args.map fun|.const _=>true|_=>false) (args.map a.eval)).run P w:=by
 simp only [execOp,ho,resolve,Sem.run_bind,Sem.run_pure,Result.andThen_ok,invoke]
 rfl
theorem qvo {t e:TypeId} {x:Operand} {x':Opd} (ho:o.op=.call { callee:=.builtin .len,args:=#[x],argTypes:=#[t] }) (ht:P.underlying t=some (.slice e)) (hx:qaf x x'=true) {c:Prop} {r:AV}
  (h:Zf fr L (.len x')=some (c,r)):Val1 P o fr L c r:=by
 simp only [Zf] at h
 obtain ⟨q,e1,e2⟩:=zh.1 h
 simp only [zj] at e2
 obtain ⟨rfl,rfl⟩:=e2
 refine Val1.same fun E B w ι a hs h1=>⟨.int .i64 (q:Nat),?_,rfl⟩
 obtain ⟨A,c,e3⟩:=qtz hs e1 ((rdOk hs.2.1 hx).un h1)
 rw [qay _ _ _ a ho]
 simp [builtin,Builtin.len_,run_underlying ht,e3,goInt]
theorem qvf {t:TypeId} {x:Operand} {x':Opd} (ho:o.op=.call { callee:=.builtin .len,args:=#[x],argTypes:=#[t] }) (ht:P.underlying t=some .string) (hx:qaf x x'=true) {c:Prop} {r:AV}
  (h:Zf fr L (.sln x')=some (c,r)):Val1 P o fr L c r:=by
 simp only [Zf] at h
 split at h
 ·rename_i cx s ex
  simp only [zg,zj] at h
  obtain ⟨rfl,rfl⟩:=h
  refine Val1.same fun E B w ι a hs h1=>⟨.int .i64 s.length,?_,rfl⟩
  have rx:=PRep.str_eq (rdP hs.2.1 hx ex h1)
  rw [qay _ _ _ a ho]
  have hz:(⟨s.toArray⟩:ByteArray).size=s.length:=by simp [ByteArray.size]
  simp [builtin,Builtin.len_,run_underlying ht,rx,goInt,hz]
 ·cases h
theorem qxg {ts:Array TypeId} {x y:Operand} {x' y':Opd} (ho:o.op=.call { callee:=.builtin .max,args:=#[x,y],argTypes:=ts }) (hx:qaf x x'=true) (hy:qaf y y'=true) {c:Prop} {r:AV}
  (h:Zf fr L (.mx x' y')=some (c,r)):Val1 P o fr L c r:=by
 simp only [Zf] at h
 split at h
 ·rename_i cx p cy q ex ey
  simp only [zg,zj] at h
  obtain ⟨rfl,rfl⟩:=h
  refine Val1.same fun E B w ι a hs ⟨h1,h2⟩=>⟨.int .i64 (max p q),?_,rfl⟩
  have rx:=PRep.int_eq (rdP hs.2.1 hx ex h1)
  have ry:=PRep.int_eq (rdP hs.2.1 hy ey h2)
  rw [qay _ _ _ a ho]
  have e:(if q > p then q else p)=max p q:=by split<;>omega
  simp [builtin,Builtin.max_,Builtin.max2,rx,ry,e]
 ·cases h
theorem qxh {ts:Array TypeId} {x y:Operand} {x' y':Opd} (ho:o.op=.call { callee:=.builtin .min,args:=#[x,y],argTypes:=ts }) (hx:qaf x x'=true) (hy:qaf y y'=true) {c:Prop} {r:AV}
  (h:Zf fr L (.mn x' y')=some (c,r)):Val1 P o fr L c r:=by
 simp only [Zf] at h
 split at h
 ·rename_i cx p cy q ex ey
  simp only [zg,zj] at h
  obtain ⟨rfl,rfl⟩:=h
  refine Val1.same fun E B w ι a hs ⟨h1,h2⟩=>⟨.int .i64 (min p q),?_,rfl⟩
  have rx:=PRep.int_eq (rdP hs.2.1 hx ex h1)
  have ry:=PRep.int_eq (rdP hs.2.1 hy ey h2)
  rw [qay _ _ _ a ho]
  have e:(if q < p then q else p)=min p q:=by split<;>omega
  simp [builtin,Builtin.min_,Builtin.min2,rx,ry,e]
 ·cases h
theorem qvs {t:TypeId} {x y:Operand} {x' y':Opd} (ho:o.op=.index t x y) (ht:P.underlying t=some .string) (hx:qaf x x'=true) (hy:qaf y y'=true) {c:Prop} {r:AV}
  (h:Zf fr L (.idx x' y')=some (c,r)):Val1 P o fr L c r:=by
 simp only [Zf] at h
 split at h
 ·rename_i cx s cy k n ex ey
  simp only [zg,zj] at h
  obtain ⟨rfl,rfl⟩:=h
  refine Val1.same fun E B w ι a hs ⟨h1,h2,h3,h4⟩=>⟨.int .u8 ((s.getD n.toNat 0).toNat:Nat),?_,rfl⟩
  have rx:=PRep.str_eq (rdP hs.2.1 hx ex h1)
  have ry:=PRep.int_eq (rdP hs.2.1 hy ey h2)
  have hlt:n.toNat < s.length:=by omega
  simp only [execOp,ho,rx,ry,Instr.index,Sem.run_bind,asIntOf,Sem.run_pure,Result.andThen_ok,run_underlying ht,if_pos h3]
  have e:(⟨s.toArray⟩:ByteArray)[n.toNat]?=some (s.getD n.toNat 0):=by
   rw [getElem?_pos _ _ (by simpa [ByteArray.size] using hlt)]
   simp [ByteArray.getElem_eq_getElem_data,zC,hlt]
  rw [e]
  rfl
 ·cases h
theorem qvw {x:Operand} {x':Opd} {i:Nat} (ho:o.op=.extract x i) (hx:qaf x x'=true) {c:Prop} {r:AV} (h:Zf fr L (.ext i x')=some (c,r)):Val1 P o fr L c r:=by
 simp only [Zf] at h
 split at h
 ·rename_i cx cs ex
  split at h
  ·rename_i v hv
   simp only [zg,zj] at h
   obtain ⟨rfl,rfl⟩:=h
   refine Val1.same fun E B w ι a hs h1=>?_
   obtain ⟨vs,e,hl⟩:=rdP hs.2.1 hx ex h1
   obtain ⟨u,hu,hr⟩:=hl.get hv
   refine ⟨u,?_,hr⟩
   simp [execOp,ho,e,Instr.extract,hu]
  ·cases h
 ·rename_i cx k ps ex
  cases i with
  |zero=>
   simp only [zg,zj] at h
   obtain ⟨rfl,rfl⟩:=h
   refine Val1.same fun E B w ι a hs h1=>?_
   have hr0:=(rdOk hs.2.1 hx).un (by rw [ex];exact h1)
   rw [ex] at hr0
   obtain ⟨vs,e,hsl,hl⟩:=hr0
   refine ⟨ι k,?_,rfl,hsl⟩
   simp [execOp,ho,e,Instr.extract]
  |succ j=>
   obtain ⟨v,hv,e0⟩:=zh.1 h
   simp only [zj] at e0
   obtain ⟨rfl,rfl⟩:=e0
   refine Val1.same fun E B w ι a hs h1=>?_
   have hr0:=(rdOk hs.2.1 hx).un (by rw [ex];exact h1)
   rw [ex] at hr0
   obtain ⟨vs,e,hsl,hl⟩:=hr0
   obtain ⟨u,hu,hr⟩:=hl.get hv
   refine ⟨u,?_,hr⟩
   simp [execOp,ho,e,Instr.extract,hu]
 ·cases h
theorem qvA {s d:TypeId} {k:IntKind} {x:Operand} {x':Opd} (ho:o.op=.convert s d x) (hsT:(P.underlying s).isSome=true) (hd:P.underlying d=some (.int k)) (hx:qaf x x'=true) {c:Prop} {r:AV}
  (h:Zf fr L (.cvi k x')=some (c,r)):Val1 P o fr L c r:=by
 simp only [Zf] at h
 split at h
 ·rename_i cx k' n ex
  simp only [zg,zj] at h
  obtain ⟨rfl,rfl⟩:=h
  refine Val1.same fun E B w ι a hs ⟨h1,h2⟩=>?_
  have rx:=PRep.int_eq (rdP hs.2.1 hx ex h1)
  rw [qnH h2]
  refine ⟨.int k (k.wrap n),?_,rfl⟩
  obtain ⟨ds,hds⟩:=zM.1 hsT
  simp only [execOp,ho,rx,convert,Sem.run_bind,run_underlying hds,run_underlying hd,Result.andThen_ok,Conv.intToInt]
  cases ds<;>rfl
 ·cases h
theorem qvz {s d:TypeId} {x:Operand} {x':Opd} {k:IntKind} (ho:o.op=.convert s d x) (hsT:P.underlying s=some (.int k)) (hd:P.underlying d=some .string) (hx:qaf x x'=true) {c:Prop} {r:AV}
  (h:Zf fr L (.cvs x')=some (c,r)):Val1 P o fr L c r:=by
 simp only [Zf] at h
 split at h
 ·rename_i cx k' n ex
  simp only [zg,zj] at h
  obtain ⟨rfl,rfl⟩:=h
  refine Val1.same fun E B w ι a hs h1=>?_
  have rx:=PRep.int_eq (rdP hs.2.1 hx ex h1)
  refine ⟨.string (Utf8.encode n),?_,by simp [ARep,PRep]⟩
  simp only [execOp,ho,rx,convert,Sem.run_bind,run_underlying hsT,run_underlying hd,Result.andThen_ok,Conv.intToString]
  rfl
 ·cases h
theorem qvj {x:Operand} {x':Opd} (ho:o.op=.nilCheck x) (hx:qaf x x'=true) {c:Prop} {r:AV} (h:Zf fr L (.nck x')=some (c,r)):Val1 P o fr L c r:=by
 simp only [Zf] at h
 split at h
 all_goals first|(cases h;done)|skip
 all_goals
  simp only [zg,zj] at h
  obtain ⟨rfl,rfl⟩:=h
  refine Val1.same fun E B w ι a hs h1=>⟨a.eval x,?_,rdA hs.2.1 hx ‹_› h1⟩
  have rx:=rdA hs.2.1 hx ‹_› h1
  first
  |(obtain ⟨b,n,c,e1,e2⟩:=rx;simp [execOp,ho,e2];done)
  |(obtain ⟨b,e1,e2⟩:=rx;simp [execOp,ho,e2];done)
  |(obtain ⟨b,n,e1,e2⟩:=rx;simp [execOp,ho,e1];done)
end
section
variable {P:Program} {L:Objs} {fr:List AV} {o:Oper} {w:World} {U:Nat→Prop} {ι:Key→Value}
theorem ql4 {a:Act} (hf:FRep w U ι fr a) {x:Option Operand} {x':Option Opd} (hx:qiX x x'=true) {n d m:Nat} {c:Prop} (h:Zv n (x'.map (rd fr)) d=some (c,m)) (hc:c) (cd:BoundsCode) :
  (match x.map a.eval with|some v=>Instr.sliceBound v n cd|none=>pure d).run P w=.ok m w∧(x'=none→m=d)∧(x'≠none→m≤n):=by
 cases x with
 |none=>
  cases x' with
  |none=>
   simp only [Option.map_none,Zv,zg,zj] at h
   obtain ⟨rfl,rfl⟩:=h
   exact ⟨rfl,fun _=>rfl,fun h=>absurd rfl h⟩
  |some y=>simp [qiX] at hx
 |some y=>
  cases x' with
  |none=>simp [qiX] at hx
  |some y'=>
   have hr:=rdOk hf (show qaf y y'=true from hx)
   simp only [zA] at h ⊢
   generalize rd fr y'=q at *
   simp only [Zv] at h
   split at h
   ·rename_i c1 k i heq
    simp only [zg,zj] at h
    obtain ⟨rfl,rfl⟩:=h
    have hr1:=hr.un (by rw [heq];exact hc.1)
    rw [heq] at hr1
    have e:=PRep.int_eq hr1
    rw [e]
    refine ⟨?_,fun h=>(by cases h),fun _=>by omega⟩
    simp [Instr.sliceBound,asIntOf,hc.2]
   ·cases h
set_option maxHeartbeats 2000000 in
theorem qve {t:TypeId} {x:Operand} {lo hi:Option Operand} {x':Opd} {lo' hi':Option Opd} (ho:o.op=.slice t x lo hi none) (ht:P.underlying t=some .string) (hx:qaf x x'=true) (hl:qiX lo lo'=true) (hh:qiX hi hi'=true) {c:Prop} {r:AV}
  (h:Zf fr L (.ssl x' lo' hi')=some (c,r)):Val1 P o fr L c r:=by
 simp only [Zf] at h
 split at h
 ·rename_i cx s ex
  split at h
  ·rename_i ch hb e1
   obtain ⟨⟨cl,lb⟩,e2,e3⟩:=zh.1 h
   simp only [zj] at e3
   obtain ⟨rfl,rfl⟩:=e3
   refine Val1.same fun E B w ι a hs ⟨h1,h2,h3⟩=>⟨.string ((⟨s.toArray⟩:ByteArray).extract lb hb),?_,?_⟩
   ·have rx:=PRep.str_eq (rdP hs.2.1 hx ex h1)
    have hz:(⟨s.toArray⟩:ByteArray).size=s.length:=by simp [ByteArray.size]
    have r1:=(ql4 (P:=P) hs.2.1 hh e1 h2 .sliceAlen).1
    have r2:=(ql4 (P:=P) hs.2.1 hl e2 h3 .sliceB).1
    simp only [execOp,ho,rx,Instr.sliceAt,Sem.run_bind,run_underlying ht,Result.andThen_ok,Instr.slice,Option.map_none,Instr.sliceBounds,hz]
    cases hi with
    |none=>
     simp only [Option.map_none] at r1 ⊢
     simp only [Sem.run_pure,Result.ok.injEq,and_true] at r1
     subst r1
     cases lo with
     |none=>
      simp only [Option.map_none,Sem.run_pure,Result.ok.injEq,and_true] at r2 ⊢
      subst r2
      simp
     |some lv=>
      simp only [zA] at r2 ⊢
      simp [r2]
    |some hv=>
     simp only [zA] at r1 ⊢
     cases lo with
     |none=>
      simp only [Option.map_none,Sem.run_pure,Result.ok.injEq,and_true] at r2 ⊢
      subst r2
      simp [r1]
     |some lv=>
      simp only [zA] at r2 ⊢
      simp [r1,r2]
   ·simp only [ARep,PRep]
    congr 1
    apply ByteArray.ext
    apply Array.ext'
    simp [ByteArray.data_extract,List.drop_take]
  ·cases h
 ·cases h
theorem PRepE.drop {b z:Nat} {es:List (List PV)} {off:Nat} (h:PRepE w U b z off es) (l:Nat):PRepE w U b z (off+l * z) (es.drop l):=by
 induction l generalizing es off with
 |zero=>simpa using h
 |succ l ih=>
  cases es with
  |nil=>simp [PRepE]
  |cons e es=>
   simp only [PRepE] at h
   have:=ih h.2.2
   rw [List.drop_succ_cons]
   rwa [show off+z+l * z=off+(l+1) * z from by rw [yi];omega] at this
theorem PRepE.take {b z:Nat} {es:List (List PV)} {off:Nat} (h:PRepE w U b z off es) (l:Nat):PRepE w U b z off (es.take l):=by
 induction l generalizing es off with
 |zero=>simp [PRepE]
 |succ l ih=>
  cases es with
  |nil=>simp [PRepE]
  |cons e es=>
   simp only [PRepE] at h
   rw [List.take_succ_cons]
   simp only [PRepE]
   exact ⟨h.1,h.2.1,ih h.2.2⟩
theorem qaW (b off j:Nat):(⟨b,off,none⟩:Addr).add j=⟨b,off+j,none⟩:=by unfold Addr.add;split<;>simp_all
def qa7 (P:Program) (t:TypeId) (z:Nat):Bool:=(P.info? t).map (·.size) == some z
theorem qaD {t:TypeId} {z:Nat} (h:qa7 P t z=true) (w:World):(sizeOf t).run P w=.ok z w:=by
 simp only [qa7,beq_iff_eq,zh] at h
 obtain ⟨i,h1,h2⟩:=h
 simp [sizeOf,typeInfo,h1,h2]
set_option maxHeartbeats 2000000 in
theorem qvd {t e:TypeId} {z:Nat} {x:Operand} {lo hi:Option Operand} {x':Opd} {lo' hi':Option Opd} (ho:o.op=.slice t x lo hi none) (ht:P.underlying t=some (.slice e)) (hz:qa7 P e z=true) (hx:qaf x x'=true) (hl:qiX lo lo'=true) (hh:qiX hi hi'=true) {c:Prop} {r:AV}
  (h:Zf fr L (.vsl z x' lo' hi')=some (c,r)):Val1 P o fr L c r:=by
 simp only [Zf] at h
 split at h
 ·rename_i cx z1 es ex
  split at h
  ·rename_i hzz
   subst hzz
   split at h
   ·rename_i ch hb e1
    obtain ⟨⟨cl,lb⟩,e2,e3⟩:=zh.1 h
    simp only [zj] at e3
    obtain ⟨rfl,rfl⟩:=e3
    refine Val1.same fun E B w ι a hs ⟨h1,h2,h3⟩=>?_
    obtain ⟨A,cp,eA,hcp,hE⟩:=rdP hs.2.1 hx ex h1
    have b1:=ql4 (P:=P) hs.2.1 hh e1 h2 .sliceAcap
    have b2:=ql4 (P:=P) hs.2.1 hl e2 h3 .sliceB
    have hbn:hb≤es.length:=by
     by_cases hn:hi'=none
     ·rw [b1.2.1 hn];exact zL _
     ·exact b1.2.2 hn
    have hlb:lb≤hb:=by
     by_cases hn:lo'=none
     ·rw [b2.2.1 hn];exact Nat.zero_le _
     ·exact b2.2.2 hn
    have r1:(match hi.map a.eval with|some v=>Instr.sliceBound v cp .sliceAcap|none=>pure es.length).run P w=.ok hb w:=by
     cases hi with
     |none=>exact b1.1
     |some y=>
      cases hi' with
      |none=>simp [qiX] at hh
      |some y'=>
       have hr:=rdOk hs.2.1 (show qaf y y'=true from hh)
       simp only [zA] at e1 ⊢
       generalize rd fr y'=q at *
       simp only [Zv] at e1
       split at e1
       ·rename_i c1 k i heq
        simp only [zg,zj] at e1
        obtain ⟨rfl,rfl⟩:=e1
        have hr1:=hr.un (by rw [heq];exact h2.1)
        rw [heq] at hr1
        rw [PRep.int_eq hr1]
        simp only [Instr.sliceBound,asIntOf,Sem.run_bind,Sem.run_pure,Result.andThen_ok]
        rw [if_pos ⟨h2.2.1,by omega⟩]
        rfl
       ·cases e1
    refine ⟨.slice (if cp=lb then A else A.map (·.add (lb * z))) (hb - lb) (cp - lb),?_,?_⟩
    ·have r2:=b2.1
     simp only [execOp,ho,eA,Instr.sliceAt,Sem.run_bind,run_underlying ht,Result.andThen_ok,Instr.slice,Option.map_none,Instr.sliceBounds]
     cases hi with
     |none=>
      simp only [Option.map_none] at r1 ⊢
      simp only [Sem.run_pure,Result.ok.injEq,and_true] at r1
      subst r1
      cases lo with
      |none=>
       simp only [Option.map_none,Sem.run_pure,Result.ok.injEq,and_true] at r2 ⊢
       subst r2
       simp [qaD hz]
      |some lv=>
       simp only [zA] at r2 ⊢
       simp [r2,qaD hz]
     |some hv=>
      simp only [zA] at r1 ⊢
      cases lo with
      |none=>
       simp only [Option.map_none,Sem.run_pure,Result.ok.injEq,and_true] at r2 ⊢
       subst r2
       simp [r1,qaD hz]
      |some lv=>
       simp only [zA] at r2 ⊢
       simp [r1,r2,qaD hz]
    ·have hlen:((es.take hb).drop lb).length=hb - lb:=by simp;omega
     refine ⟨_,cp - lb,by rw [hlen],by rw [hlen];omega,fun hne=>?_⟩
     have hlt:lb < hb:=by
      rcases Nat.lt_or_ge lb hb with h'|h'
      ·exact h'
      ·exact absurd (zq (by rw [hlen];omega)) hne
     obtain ⟨b,off,rfl,hb1,hb2,hb3⟩:=hE (by intro e;subst e;simp at hbn;omega)
     refine ⟨b,off+lb * z,?_,hb1,hb2,(hb3.take hb).drop lb⟩
     rw [if_neg (by omega)]
     simp [qaW]
   ·cases h
  ·cases h
 ·cases h
set_option maxHeartbeats 2000000 in
theorem qvr {t e:TypeId} {z:Nat} {x y:Operand} {x' y':Opd} (ho:o.op=.indexAddr t x y) (ht:P.underlying t=some (.slice e)) (hz:qa7 P e z=true) (hx:qaf x x'=true) (hy:qaf y y'=true) {c:Prop} {r:AV}
  (h:Zf fr L (.ixa z x' y')=some (c,r)):Val1 P o fr L c r:=by
 simp only [Zf] at h
 split at h
 ·rename_i cx z1 es cy k n ex ey
  split at h
  ·rename_i hzz
   subst hzz
   simp only [zg,zj] at h
   obtain ⟨rfl,rfl⟩:=h
   refine Val1.same fun E B w ι a hs ⟨h1,h2,h3,h4⟩=>?_
   obtain ⟨A,cp,eA,hcp,hE⟩:=rdP hs.2.1 hx ex h1
   have ry:=PRep.int_eq (rdP hs.2.1 hy ey h2)
   obtain ⟨b,off,rfl,hb1,hb2,hb3⟩:=hE (by intro e;subst e;simp at h4;omega)
   refine ⟨.pointer (some ⟨b,off+n.toNat * z1+0,none⟩),?_,b,off,rfl,hb1,hb2,hb3⟩
   simp only [execOp,ho,eA,ry,Instr.indexAt,Sem.run_bind,asIntOf,Sem.run_pure,Result.andThen_ok,run_underlying ht]
   rw [if_pos ⟨h3,h4⟩]
   simp [qaD hz,qaW]
  ·cases h
 ·rename_i cx k1 cy k n ex ey
  split at h
  ·rename_i es e1 z1 ap hl
   split at h
   ·rename_i hzz
    subst hzz
    simp only [zg,zj] at h
    obtain ⟨rfl,rfl⟩:=h
    refine Val1.same fun E B w ι a hs ⟨h1,h2,h3,h4⟩=>?_
    obtain ⟨eA,_⟩:=rdP hs.2.1 hx ex h1
    have ry:=PRep.int_eq (rdP hs.2.1 hy ey h2)
    obtain ⟨vs,hown,_⟩:=hs.1.sim.obj k1 _ hl
    rcases hown.2 with ⟨e3,e4⟩|⟨g,cap,cur,fz,e3,_⟩
    ·omega
    ·refine ⟨.pointer (some ⟨g,n.toNat * z1+0,none⟩),?_,g,_,_,e3,rfl⟩
     simp only [execOp,ho,eA,e3,ry,Instr.indexAt,Sem.run_bind,asIntOf,Sem.run_pure,Result.andThen_ok,run_underlying ht]
     rw [if_pos ⟨h3,h4⟩]
     simp [qaD hz,qaW]
   ·cases h
  ·rename_i es e1 z1 hl
   split at h
   ·rename_i hzz
    subst hzz
    simp only [zg,zj] at h
    obtain ⟨rfl,rfl⟩:=h
    refine Val1.same fun E B w ι a hs ⟨h1,h2,h3,h4⟩=>?_
    obtain ⟨eA,_⟩:=rdP hs.2.1 hx ex h1
    have ry:=PRep.int_eq (rdP hs.2.1 hy ey h2)
    obtain ⟨vs,hown,_⟩:=hs.1.sim.obj k1 _ hl
    rcases hown.2 with ⟨e3,e4⟩|⟨g,cap,cur,fz,e3,_⟩
    ·omega
    ·refine ⟨.pointer (some ⟨g,n.toNat * z1+0,none⟩),?_,g,_,_,e3,rfl⟩
     simp only [execOp,ho,eA,e3,ry,Instr.indexAt,Sem.run_bind,asIntOf,Sem.run_pure,Result.andThen_ok,run_underlying ht]
     rw [if_pos ⟨h3,h4⟩]
     simp [qaD hz,qaW]
   ·cases h
  ·cases h
 ·cases h
def qrU (P:Program) (s:TypeId) (f:Nat) (off sz:Nat):Bool:=
 match P.underlying s with
 |some (.struct fs)=>match fs[f]? with
  |some fd=>fd.offset == off && qa7 P fd.type sz
  |none=>false
 |_=>false
theorem qo6 {off:Nat} {x:Operand} {x':Opd} (hx:qaf x x'=true) (run:∀ (a:Act) (w:World) (b i:Nat),a.eval x=.pointer (some ⟨b,i,none⟩)→(execOp a.eval o).run P w=.ok (.value (.pointer (some ⟨b,i+off,none⟩))) w) {c:Prop} {r:AV}
  (h:Zf fr L (.fla off x')=some (c,r)):Val1 P o fr L c r:=by
 simp only [Zf] at h
 split at h
 ·rename_i cx k i ex
  simp only [zg,zj] at h
  obtain ⟨rfl,rfl⟩:=h
  refine Val1.same fun E B w ι a hs h1=>?_
  obtain ⟨b,e1,e2⟩:=rdA hs.2.1 hx ex h1
  exact ⟨_,run a w b i e2,b,e1,rfl⟩
 ·rename_i cx k z i off ex
  simp only [zg,zj] at h
  obtain ⟨rfl,rfl⟩:=h
  refine Val1.same fun E B w ι a hs h1=>?_
  obtain ⟨b,n,cp,e1,e2⟩:=rdA hs.2.1 hx ex h1
  exact ⟨_,run a w b _ e2,b,n,cp,e1,by rw [Nat.add_assoc]⟩
 ·rename_i cx z es i off ex
  simp only [zg,zj] at h
  obtain ⟨rfl,rfl⟩:=h
  refine Val1.same fun E B w ι a hs h1=>?_
  obtain ⟨b,o1,e2,rest⟩:=rdA hs.2.1 hx ex h1
  exact ⟨_,run a w b _ e2,b,o1,by rw [Nat.add_assoc],rest⟩
 ·cases h
theorem qvv {s:TypeId} {f off sz:Nat} {x:Operand} {x':Opd} (ho:o.op=.fieldAddr s x f) (hf:qrU P s f off (sz+1)=true) (hx:qaf x x'=true) {c:Prop} {r:AV}
  (h:Zf fr L (.fla off x')=some (c,r)):Val1 P o fr L c r:=by
 unfold qrU at hf
 split at hf
 ·rename_i fs hs1
  split at hf
  ·rename_i fd hfd
   simp only [zi,beq_iff_eq] at hf
   obtain ⟨rfl,hsz⟩:=hf
   refine qo6 hx (fun a w b i e=>?_) h
   simp only [execOp,ho,e,Instr.fieldAt,Sem.run_bind,run_underlying hs1,Result.andThen_ok,hfd,Instr.sureAddr,Sem.run_pure,fieldPlace,qaD hsz]
   simp [qaW]
  ·cases hf
 ·cases hf
theorem qvt {s e:TypeId} {n z:Nat} {q:IntKind} {v:Int} {x:Operand} {x':Opd} (ho:o.op=.indexAddr s x (.const (.int q v))) (hs1:P.underlying s=some (.array n e)) (h0:0≤v) (h1:v < n) (hsz:qa7 P e z=true) (hx:qaf x x'=true) {c:Prop} {r:AV}
  (h:Zf fr L (.fla (v.toNat * z) x')=some (c,r)):Val1 P o fr L c r:=by
 refine qo6 hx (fun a w b i e=>?_) h
 have hc:a.eval (.const (.int q v))=.int q v:=rfl
 simp [execOp,ho,e,hc,Instr.indexAt,asIntOf,run_underlying hs1,Instr.sureAddr,h0,h1,qaD hsz,qaW]
theorem qvq {s e:TypeId} {m z:Nat} {x i:Operand} {x' i':Opd} (ho:o.op=.indexAddr s x i) (hs1:P.underlying s=some (.array m e)) (hsz:qa7 P e z=true) (hx:qaf x x'=true) (hi:qaf i i'=true) {c:Prop} {r:AV}
  (h:Zf fr L (.ixv z m x' i')=some (c,r)):Val1 P o fr L c r:=by
 have run:∀ (a:Act) (w:World) (b j:Nat) (k:IntKind) (n:Int),a.eval x=.pointer (some ⟨b,j,none⟩)→a.eval i=.int k n→0≤n→n < m→(execOp a.eval o).run P w=.ok (.value (.pointer (some ⟨b,j+n.toNat * z,none⟩))) w:=by
  intro a w b j k n e1 e2 h0 h1
  simp [execOp,ho,e1,e2,Instr.indexAt,asIntOf,run_underlying hs1,Instr.sureAddr,h0,h1,qaD hsz,qaW]
 simp only [Zf] at h
 split at h
 ·rename_i cx k of ci kk n ex ei
  simp only [zg,zj] at h
  obtain ⟨rfl,rfl⟩:=h
  refine Val1.same fun E B w ι a hs ⟨h1,h2,h3,h4⟩=>?_
  obtain ⟨b,e1,e2⟩:=rdA hs.2.1 hx ex h1
  have ri:=PRep.int_eq (rdP hs.2.1 hi ei h2)
  exact ⟨_,run a w b of kk n e2 ri h3 h4,b,e1,rfl⟩
 ·rename_i cx z1 es j of ci kk n ex ei
  simp only [zg,zj] at h
  obtain ⟨rfl,rfl⟩:=h
  refine Val1.same fun E B w ι a hs ⟨h1,h2,h3,h4⟩=>?_
  obtain ⟨b,o1,e2,rest⟩:=rdA hs.2.1 hx ex h1
  have ri:=PRep.int_eq (rdP hs.2.1 hi ei h2)
  exact ⟨_,run a w b _ kk n e2 ri h3 h4,b,o1,by rw [Nat.add_assoc],rest⟩
 ·cases h
theorem PRepC.dropN {w:World} {U:Nat→Prop} {b:Nat}:∀ {cs:List PV} {off:Nat} (n:Nat),PRepC w U b off cs→PRepC w U b (off+n) (cs.drop n)
 |cs,off,0,h=>by simpa using h
 |[],off,n+1,h=>by simp [PRepC]
 |c :: cs,off,n+1,h=>by
  simp only [PRepC] at h
  have:=PRepC.dropN n h.2
  rw [List.drop_succ_cons,show off+(n+1)=off+1+n from by omega]
  exact this
theorem PRepC.ones {w:World} {U:Nat→Prop} {b:Nat}:∀ {cs:List PV} {off:Nat},PRepC w U b off cs→PRepE w U b 1 off (cs.map fun x=>[x])
 |[],off,h=>by simp [PRepE]
 |c :: cs,off,h=>by
  simp only [PRepC] at h
  simp only [zx,PRepE,PRepC]
  exact ⟨rfl,⟨h.1,trivial⟩,PRepC.ones h.2⟩
theorem qvG {t e:TypeId} {m:Nat} {x lo:Operand} {x' lo':Opd} (ho:o.op=.slice t x (some lo) none none) (ht:P.underlying t=some (.array m e)) (hsz:qa7 P e 1=true) (hx:qaf x x'=true) (hl:qaf lo lo'=true) {c:Prop} {r:AV}
  (h:Zf fr L (.asl m x' lo')=some (c,r)):Val1 P o fr L c r:=by
 simp only [Zf] at h
 split at h
 ·rename_i cx z cs ci kk n ex ei
  split at h
  ·rename_i hzm
   subst hzm
   simp only [zg,zj] at h
   obtain ⟨rfl,rfl⟩:=h
   refine Val1.same fun E B w ι a hs ⟨h1,h2,h3,h4⟩=>?_
   obtain ⟨b,o1,e2,hb,hu,hE⟩:=rdA hs.2.1 hx ex h1
   have ri:=PRep.int_eq (rdP hs.2.1 hl ei h2)
   simp only [PRepE] at hE
   have hlen:((cs.drop n.toNat).map fun x=>[x]).length=z - n.toNat:=by simp [hE.1]
   have e2':a.eval x=.pointer (some ⟨b,o1,none⟩):=by simpa using e2
   refine ⟨.slice (some (if z=n.toNat then ⟨b,o1,none⟩ else ⟨b,o1+n.toNat,none⟩)) (z - n.toNat) (z - n.toNat),?_,_,_,by rw [hlen],by rw [hlen];exact zL _,fun hne=>?_⟩
   ·have ha:∀ k,(Addr.mk b o1 none).add k=⟨b,o1+k,none⟩:=fun k=>qaW _ _ _
    simp [execOp,ho,e2',ri,Instr.sliceAt,run_underlying ht,Instr.sureAddr,Instr.sliceBounds,Instr.sliceBound,asIntOf,h3,show n≤(z:Int) from h4,qaD hsz,ha]
   ·have hz:¬ z=n.toNat:=fun e=>hne (zq (by rw [hlen];omega))
    exact ⟨b,o1+n.toNat,by rw [if_neg hz],hb,hu,(hE.2.1.dropN n.toNat).ones⟩
  ·cases h
 ·cases h
end
section
variable {P:Program} {L:Objs} {fr:List AV} {o:Oper} {w:World} {U:Nat→Prop} {ι:Key→Value}
def aggB (P:Program) (t:TypeId) (ag:Bool):Bool:=
 match P.underlying t with
 |some (.struct _)|some (.array _ _)=>ag
 |some _=>!ag
 |none=>false
theorem qcc {t:TypeId} {ag:Bool} (h:aggB P t ag=true) (w:World):(isAgg t).run P w=.ok ag w:=by
 unfold aggB at h
 split at h
 ·rename_i fs e;subst h;simp [isAgg,run_underlying e]
 ·rename_i n el e;subst h;simp [isAgg,run_underlying e]
 ·rename_i d h1 h2 e
  simp only [zQ] at h
  subst h
  simp only [isAgg,Sem.run_bind,run_underlying e,Result.andThen_ok]
  cases d<;>first|rfl|exact absurd rfl (h1 _)|exact absurd rfl (h2 _ _)
 ·cases h
theorem PRepL.of_get {cs:List PV} {vs:List Value} (hl:vs.length=cs.length) (h:∀ (j:Nat) (x:PV) (v:Value),cs[j]?=some x→vs[j]?=some v→PRep w U x v):PRepL w U cs vs:=by
 induction cs generalizing vs with
 |nil=>simp only [PRepL];exact zq hl
 |cons a as ih=>
  cases vs with
  |nil=>simp at hl
  |cons v r=>
   simp only [PRepL]
   exact ⟨v,r,rfl,h 0 a v rfl rfl,ih (by simpa using hl) (fun j x u hx hu=>h (j+1) x u (by simpa using hx) (by simpa using hu))⟩
theorem PRepL.drop {cs:List PV} {vs:List Value} (h:PRepL w U cs vs) (n:Nat):PRepL w U (cs.drop n) (vs.drop n):=by
 induction n generalizing cs vs with
 |zero=>simpa using h
 |succ n ih=>
  cases cs with
  |nil=>simp only [PRepL] at h;subst h;simp [PRepL]
  |cons a as=>simp only [PRepL] at h;obtain ⟨v,r,rfl,_,h2⟩:=h;simpa using ih h2
theorem PRepL.take {cs:List PV} {vs:List Value} (h:PRepL w U cs vs) (n:Nat):PRepL w U (cs.take n) (vs.take n):=by
 induction n generalizing cs vs with
 |zero=>simp [PRepL]
 |succ n ih=>
  cases cs with
  |nil=>simp only [PRepL] at h;subst h;simp [PRepL]
  |cons a as=>simp only [PRepL] at h;obtain ⟨v,r,rfl,h1,h2⟩:=h;simp only [List.take_succ_cons,PRepL];exact ⟨v,_,rfl,h1,ih h2⟩
theorem qvu {s:TypeId} {f off sz:Nat} {ag:Bool} {x:Operand} {x':Opd} (ho:o.op=.field s x f) (fs:Array Field) (fd:Field) (hs1:P.underlying s=some (.struct fs)) (hfd:fs[f]?=some fd) (hoff:fd.offset=off) (hsz:qa7 P fd.type sz=true) (hag:aggB P fd.type ag=true) (h1z:ag=false→sz=1)
  (hx:qaf x x'=true) {c:Prop} {r:AV} (h:Zf fr L (.fld off sz ag x')=some (c,r)):Val1 P o fr L c r:=by
 subst hoff
 simp only [Zf] at h
 split at h
 ·rename_i cx cs ex
  split at h
  ·rename_i hle
   simp only [zg,zj] at h
   obtain ⟨rfl,rfl⟩:=h
   refine Val1.same fun E B w ι a hs h1=>?_
   obtain ⟨vs,e,hl⟩:=rdP hs.2.1 hx ex h1
   have hlen:=hl.length
   cases ag with
   |true=>
    refine ⟨.agg (vs.toArray.extract fd.offset (fd.offset+sz)),?_,(vs.drop fd.offset).take sz,?_,(hl.drop _).take _⟩
    ·simp [execOp,ho,e,Instr.field,run_underlying hs1,hfd,asAgg,part,qcc hag,qaD hsz]
    ·congr 1
     apply Array.ext'
     simp
   |false=>
    have:=h1z rfl
    subst this
    obtain ⟨u,hu,hr⟩:=hl.get (j:=fd.offset) (x:=cs.getD fd.offset (.bool false)) (by rw [zC,zk (by omega)];rfl)
    refine ⟨u,?_,hr⟩
    simp [execOp,ho,e,Instr.field,run_underlying hs1,hfd,asAgg,part,qcc hag,hu]
  ·cases h
 ·cases h
theorem qq7 {t:TypeId} {sz:Nat} {ag:Bool} (hsz:qa7 P t sz=true) (hag:aggB P t ag=true) (h1z:ag=false→sz=1) {b i:Nat} {cs:List PV} (h:PRepC w U b i cs) (hl:cs.length=sz) :
  ∃ v,(Instr.loadAt t (.pointer (some ⟨b,i,none⟩))).run P w=.ok v w∧PRep w U (if ag then .agg cs else cs.getD 0 (.bool false)) v:=by
 obtain ⟨vs,hv,h1,hc⟩:=h.vals
 have hlv:=hv.length
 cases ag with
 |true=>
  refine ⟨.agg vs.toArray,?_,vs,rfl,hv⟩
  have hld:=run_loadCells_list (P:=P) (w:=w) ⟨b,i,none⟩ vs (fun j v hj=>by rw [qaW];exact hc j v hj)
  simp only [Instr.loadAt,Instr.sureAddr,loadVar,Sem.run_bind,Sem.run_pure,Result.andThen_ok,qcc hag,if_true,qaD hsz]
  rw [← hl,← hlv,hld]
  rfl
 |false=>
  have:=h1z rfl
  subst this
  obtain ⟨u,hu,hr⟩:=hv.get (j:=0) (x:=cs.getD 0 (.bool false)) (by rw [zC,zk (by omega)];rfl)
  refine ⟨u,?_,hr⟩
  have:=hc 0 u hu
  rw [Nat.add_zero] at this
  simp [Instr.loadAt,Instr.sureAddr,loadVar,qcc hag,this]
theorem PRepC.sub {b:Nat} {cs:List PV} {off:Nat} (h:PRepC w U b off cs) (n m:Nat):PRepC w U b (off+n) ((cs.drop n).take m):=by
 have hd:∀ (n:Nat) (cs:List PV) (off:Nat),PRepC w U b off cs→PRepC w U b (off+n) (cs.drop n):=by
  intro n
  induction n with
  |zero=>intro cs off h;simpa using h
  |succ n ih=>
   intro cs off h
   cases cs with
   |nil=>simp [PRepC]
   |cons a as=>simp only [PRepC] at h;have:=ih as (off+1) h.2;rw [List.drop_succ_cons];rwa [show off+1+n=off+(n+1) from by omega] at this
 have ht:∀ (m:Nat) (cs:List PV) (off:Nat),PRepC w U b off cs→PRepC w U b off (cs.take m):=by
  intro m
  induction m with
  |zero=>intro cs off h;simp [PRepC]
  |succ m ih=>
   intro cs off h
   cases cs with
   |nil=>simp [PRepC]
   |cons a as=>simp only [PRepC] at h;rw [List.take_succ_cons];simp only [PRepC];exact ⟨h.1,ih as (off+1) h.2⟩
 exact ht m _ _ (hd n cs off h)
theorem qpr (cs:List PV) (o:Nat) (d:PV) (h:o < cs.length):((cs.drop o).take 1).getD 0 d=cs.getD o d:=by
 simp [zC,yb]
theorem qfC {X:Nat→Prop} (hs:Sim w X L ι) {k:Key} {es:List (List PV)} {e:TypeId} {z:Nat} {ap:Bool} (hl:Zas L k=some (.row es e z ap)) {b n c:Nat} (hi:ι k=.slice (some ⟨b,0,none⟩) n c) :
  PRepE w (fun b=>Own L ι b∨X b) b z 0 es:=by
 obtain ⟨vs,hown,h1,hv,hz⟩:=hs.obj k _ hl
 have hc:=hown.cells hi
 have key:∀ (es:List (List PV)) (vs:List Value) (off:Nat),(∀ x∈es,x.length=z)→PRepL w (fun b=>Own L ι b∨X b) es.flatten vs→(∀ v∈vs,v.oneCell'=true)→(∀ j u,vs[j]?=some u→w.cell? ⟨b,off+j,none⟩=some u)→PRepE w (fun b=>Own L ι b∨X b) b z off es:=by
  intro es
  induction es with
  |nil=>intros;simp [PRepE]
  |cons x r ih=>
   intro vs off hz hv h1 hc
   simp only [PRepE]
   have hx:=hz x (by simp)
   simp only [zH] at hv
   have ha:=hv.take x.length
   have hb:=hv.drop x.length
   rw [List.take_left] at ha
   rw [List.drop_left] at hb
   refine ⟨hx,PRepC.of ha (fun v hv=>h1 v (ye hv)) (fun j u hu=>hc j u (by rw [yk] at hu;split at hu;exact hu;cases hu)),ih _ (off+z) (fun y hy=>hz y (by simp [hy])) hb (fun v hv=>h1 v (List.mem_of_mem_drop hv)) (fun j u hu=>?_)⟩
   rw [yb] at hu
   have:=hc _ u hu
   rwa [hx,← Nat.add_assoc] at this
 refine key es vs 0 hz hv h1 (fun j u hu=>?_)
 rw [Nat.zero_add]
 exact hc j u hu
theorem qwi {z of:Nat}:∀ (es:List (List AV)) (i:Nat),(∀ x∈es,x.length=z)→i < es.length→of < z→es.flatten[i * z+of]?=some ((es.getD i []).getD of .any):=by
 intro es
 induction es with
 |nil=>intro i _ h;simp at h
 |cons e es ih=>
  intro i hz hi ho
  have he:=hz e (by simp)
  cases i with
  |zero=>rw [zH,Nat.zero_mul,Nat.zero_add,List.getElem?_append_left (by omega),List.getD_cons_zero,zC,zk (by omega)];rfl
  |succ i=>
   rw [zH,List.getElem?_append_right (by rw [he,yi];omega),List.getD_cons_succ,show (i+1) * z+of - e.length=i * z+of from by rw [he,yi];omega]
   exact ih i (fun q hq=>hz q (by simp [hq])) (by simpa using hi) ho
set_option maxHeartbeats 2000000 in
theorem qxi {t:TypeId} {sz:Nat} {ag:Bool} {x:Operand} {x':Opd} (ho:o.op=.load t x) (hsz:qa7 P t sz=true) (hag:aggB P t ag=true) (h1z:ag=false→sz=1) (hx:qaf x x'=true) {c:Prop} {r:AV}
  (h:Zf fr L (.ld sz ag x')=some (c,r)):Val1 P o fr L c r:=by
 have fin:∀ (a:Act) (w:World) (v:Value) (pa:Value),a.eval x=pa→(Instr.loadAt t pa).run P w=.ok v w→(execOp a.eval o).run P w=.ok (.value v) w:=by
  intro a w v pa e hr
  simp [execOp,ho,e,hr]
 simp only [Zf] at h
 split at h
 ·rename_i cx z es i of ex
  split at h
  ·rename_i hle
   simp only [zg,zj] at h
   obtain ⟨rfl,rfl⟩:=h
   refine Val1.same fun E B w ι a hs ⟨h1,hi⟩=>?_
   obtain ⟨b,o1,e2,hb1,hb2,hE⟩:=rdA hs.2.1 hx ex h1
   obtain ⟨g1,g2⟩:=hE.get (i:=i) (e:=es.getD i []) (by rw [zC,zk hi];rfl)
   generalize es.getD i []=el at *
   obtain ⟨v,hr,hv⟩:=qq7 hsz hag h1z (g2.sub of sz) (by simp;omega)
   refine ⟨v,fin a w v _ e2 hr,?_⟩
   cases ag with
   |true=>exact hv
   |false=>have:=h1z rfl;subst this;rw [if_neg (by simp),qpr _ _ _ (by omega)] at hv;exact hv
  ·cases h
 ·rename_i cx k z i of ex
  split at h
  ·rename_i es et z' ap hl
   split at h
   ·rename_i hle
    obtain ⟨rfl,hle⟩:=hle
    simp only [zg,zj] at h
    obtain ⟨rfl,rfl⟩:=h
    refine Val1.same fun E B w ι a hs ⟨h1,hi⟩=>?_
    obtain ⟨b,n,cp,e1,e2⟩:=rdA hs.2.1 hx ex h1
    have hE:=qfC hs.1.sim hl e1
    obtain ⟨g1,g2⟩:=hE.get (i:=i) (e:=es.getD i []) (by rw [zC,zk hi];rfl)
    generalize es.getD i []=el at *
    obtain ⟨v,hr,hv⟩:=qq7 hsz hag h1z (g2.sub of sz) (by simp;omega)
    rw [Nat.zero_add] at hr
    refine ⟨v,fin a w v _ e2 hr,?_⟩
    cases ag with
    |true=>exact hv
    |false=>have:=h1z rfl;subst this;rw [if_neg (by simp),qpr _ _ _ (by omega)] at hv;exact hv
   ·cases h
  ·rename_i es et z' hl
   split at h
   ·rename_i hle
    obtain ⟨rfl,hle,rfl⟩:=hle
    simp only [zg,zj] at h
    obtain ⟨rfl,rfl⟩:=h
    have:=h1z rfl
    subst this
    refine Val1.same fun E B w ι a hs ⟨h1,hi⟩=>?_
    obtain ⟨b,n,cp,e1,e2⟩:=rdA hs.2.1 hx ex h1
    obtain ⟨vs,hown,h1c,hz,hcs⟩:=hs.1.sim.obj k _ hl
    have hfl:=qwi (of:=of) es i hz hi (by omega)
    obtain ⟨u,hu,hr⟩:=hcs _ _ hfl
    have hcell:=hown.cells e1 _ u hu
    refine ⟨u,fin a w u _ e2 ?_,hr⟩
    simp [Instr.loadAt,Instr.sureAddr,loadVar,qcc hag,hcell]
   ·cases h
  ·cases h
 ·rename_i cx k of ex
  split at h
  ·rename_i cs bt hl
   split at h
   ·rename_i hle
    cases ag with
    |true=>
     simp only [if_true] at h
     obtain ⟨l,el,e3⟩:=zh.1 h
     simp only [zj] at e3
     obtain ⟨rfl,rfl⟩:=e3
     refine Val1.same fun E B w ι a hs h1=>?_
     obtain ⟨b,e1,e2⟩:=rdA hs.2.1 hx ex h1
     obtain ⟨b',vs,e4,hb,hlen,h1c,hcs⟩:=hs.1.sim.obj k _ hl
     rw [e1] at e4
     simp only [Value.pointer.injEq,zg,Addr.mk.injEq,and_true] at e4
     subst e4
     have hall:∀ (as:List AV) (l:List PV),Zx as=some l→as=l.map .p:=by
      intro as
      induction as with
      |nil=>intro l h;simp only [Zx,zg] at h;subst h;rfl
      |cons q as ih=>
       intro l h
       cases q with
       |p x=>simp only [Zx] at h;obtain ⟨l',h1,rfl⟩:=zh.1 h;simp [ih l' h1]
       |_=>simp [Zx] at h
     have hm:=hall _ _ el
     have hll:l.length=sz:=by have:=congrArg List.length hm;simp at this;omega
     have hC:PRepC w (fun b=>Own L ι b∨B.X b) b of l:=by
      refine PRepC.of (vs:=(vs.drop of).take sz) (PRepL.of_get (by simp;omega) (fun j x v hx' hv'=>?_)) (fun v hv=>h1c v (List.mem_of_mem_drop (ye hv))) (fun j v hv=>?_)
      ·have hj:j < sz:=by rw [← hll];exact (List.getElem?_eq_some_iff.1 hx').1
       have e5:((cs.drop of).take sz)[j]?=some (.p x):=by rw [hm,zy,hx'];rfl
       rw [yk,if_pos hj,yb] at e5 hv'
       obtain ⟨u,hu,hr⟩:=hcs _ _ e5
       rw [hu] at hv'
       cases hv'
       exact hr
      ·rw [yk] at hv
       split at hv
       ·rw [yb] at hv
        rw [cell_of_row w b (of+j) _ _ _ hb]
        simpa using hv
       ·cases hv
     obtain ⟨v,hr,hv⟩:=qq7 hsz hag h1z hC hll
     exact ⟨v,fin a w v _ e2 hr,hv⟩
    |false=>
     simp only [zK,if_false,zg,zj] at h
     obtain ⟨rfl,rfl⟩:=h
     have:=h1z rfl
     subst this
     refine Val1.same fun E B w ι a hs h1=>?_
     obtain ⟨b,e1,e2⟩:=rdA hs.2.1 hx ex h1
     obtain ⟨b',vs,e4,hb,hlen,h1c,hcs⟩:=hs.1.sim.obj k _ hl
     rw [e1] at e4
     simp only [Value.pointer.injEq,zg,Addr.mk.injEq,and_true] at e4
     subst e4
     obtain ⟨u,hu,hr⟩:=hcs of (cs.getD of .any) (by rw [zC,zk (by omega)];rfl)
     refine ⟨u,fin a w u _ e2 ?_,hr⟩
     have hc:w.cell? ⟨b,of,none⟩=some u:=by rw [cell_of_row w b of _ _ _ hb];simpa using hu
     simp [Instr.loadAt,Instr.sureAddr,loadVar,qcc hag,hc]
   ·cases h
  ·cases h
 ·cases h
end
section
variable {P:Program} {L:Objs} {fr:List AV} {o:Oper} {w:World} {U:Nat→Prop} {ι:Key→Value}
theorem PRep.cells {x:PV} {v:Value} (h:PRep w U x v) (ht:∀ cs,x≠.tup cs):PRepL w U (Zz x) v.cells.toList:=by
 cases x with
 |agg cs=>simp only [PRep] at h;obtain ⟨vs,rfl,hl⟩:=h;simpa [Zz,Value.cells] using hl
 |tup cs=>exact absurd rfl (ht cs)
 |_=>
  have h1:=PRep.oneCell h (by simp) (by simp)
  have:v.cells=#[v]:=by cases v<;>first|rfl|simp [Value.oneCell'] at h1
  simp only [Zz,PRepL]
  exact ⟨v,[],by rw [this],h,rfl⟩
theorem qbE {x:PV} (h:Zaa (Zz x)=true):∀ cs,x≠.tup cs:=by
 rintro cs rfl
 simp [Zaa,Zz,Zy] at h
theorem PRepL.oneCells {cs:List PV} {vs:List Value} (h:PRepL w U cs vs) (hf:Zaa cs=true):∀ v∈vs,v.oneCell'=true:=by
 induction cs generalizing vs with
 |nil=>simp only [PRepL] at h;subst h;simp
 |cons a as ih=>
  simp only [PRepL] at h
  obtain ⟨v,r,rfl,h1,h2⟩:=h
  simp only [Zaa,List.all_cons,zi] at hf
  intro u hu
  simp only [zG] at hu
  rcases hu with rfl|hu
  ·refine h1.oneCell ?_ ?_<;>(rintro cs rfl;simp [Zy] at hf)
  ·exact ih h2 hf.2 u hu
theorem PRepL.set {cs:List PV} {vs:List Value} (h:PRepL w U cs vs) (i:Nat) {x:PV} {v:Value} (hx:PRep w U x v):PRepL w U (cs.set i x) (vs.set i v):=by
 induction i generalizing cs vs with
 |zero=>
  cases cs with
  |nil=>simp only [PRepL] at h;subst h;simp [PRepL]
  |cons a as=>simp only [PRepL] at h;obtain ⟨u,r,rfl,_,h2⟩:=h;simp only [List.set_cons_zero,PRepL];exact ⟨v,r,rfl,hx,h2⟩
 |succ i ih=>
  cases cs with
  |nil=>simp only [PRepL] at h;subst h;simp [PRepL]
  |cons a as=>simp only [PRepL] at h;obtain ⟨u,r,rfl,h1,h2⟩:=h;simp only [List.set_cons_succ,PRepL];exact ⟨u,_,rfl,h1,ih h2⟩
def qam (vs:List Value) (off:Nat):List Value→List Value
 |[]=>vs
 |v :: r=>qam (vs.set off v) (off+1) r
theorem qjt {ds:List PV} {us:List Value} (hd:PRepL w U ds us):∀ {cs:List PV} {vs:List Value} {off:Nat},PRepL w U cs vs→PRepL w U (Zab cs off ds) (qam vs off us):=by
 induction ds generalizing us with
 |nil=>intro cs vs off h;simp only [PRepL] at hd;subst hd;exact h
 |cons x r ih=>
  intro cs vs off h
  simp only [PRepL] at hd
  obtain ⟨u,us',rfl,h1,h2⟩:=hd
  exact ih h2 (h.set off h1)
theorem qtP (us:List Value):∀ (k off:Nat) (vs:List Value),((us.zipIdx k).foldl (fun (cs:Array Value) (x:Value×Nat)=>cs.setIfInBounds (off+x.2) x.1) vs.toArray)=(qam vs (off+k) us).toArray:=by
 induction us with
 |nil=>intro k off vs;rfl
 |cons u r ih=>
  intro k off vs
  simp only [List.zipIdx_cons,List.foldl_cons,qam]
  rw [show vs.toArray.setIfInBounds (off+k) u=(vs.set (off+k) u).toArray from by simp]
  rw [ih (k+1) off,show off+(k+1)=off+k+1 from by omega]
theorem qaC (us:List Value):∀ (vs:List Value) (off:Nat),(qam vs off us).length=vs.length:=by
 induction us with
 |nil=>intros;rfl
 |cons u r ih=>intro vs off;simp [qam,ih]
theorem qeu (place:Nat→Option (Nat×Nat)) (vs:List Value) (i off sz:Nat) (v:Value) (rest:List (Nat×Value)) (hp:place i=some (off,sz)) (h1:v.cells.size=sz) (h2:off+sz≤vs.length) :
  Instr.fill place vs.toArray ((i,v) :: rest)=Instr.fill place (qam vs off v.cells.toList).toArray rest:=by
 rw [Instr.fill,hp]
 simp only
 rw [if_neg (by simp;omega)]
 congr 1
 have:=qtP v.cells.toList 0 off vs
 rw [Nat.add_zero] at this
 rw [← this]
 rw [← Array.foldl_toList]
 simp [Array.toList_zipIdx]
def qce (P:Program) (place:Nat→Option (Nat×Nat)) (n:Nat):List (Nat×Operand)→List (Nat×Nat×Opd)→Bool
 |[],[]=>true
 |(i,x) :: r,(off,sz,y) :: r'=>place i == some (off,sz) && qaf x y && decide (off+sz≤n) && qce P place n r r'
 |_,_=>false
theorem qjw (us:List PV):∀ (vs:List PV) (off:Nat),(Zab vs off us).length=vs.length:=by
 induction us with
 |nil=>intros;rfl
 |cons u r ih=>intro vs off;simp [Zab,ih]
theorem qrT {a:Act} (hf:FRep w U ι fr a) (place:Nat→Option (Nat×Nat)) (n:Nat):∀ (ps:List (Nat×Operand)) (qs:List (Nat×Nat×Opd)) (cs:List PV) (vs:List Value) (c:Prop) (ds:List PV),
  qce P place n ps qs=true→Zad fr cs qs=some (c,ds)→c→PRepL w U cs vs→vs.length=n→∃ us,Instr.fill place vs.toArray (ps.map fun x=>(x.1,a.eval x.2))=some us.toArray∧PRepL w U ds us:=by
 intro ps
 induction ps with
 |nil=>
  intro qs cs vs c ds hok hb hc hl hn
  cases qs with
  |nil=>
   simp only [Zad,zg,zj] at hb
   obtain ⟨rfl,rfl⟩:=hb
   exact ⟨vs,rfl,hl⟩
  |cons q qs=>simp [qce] at hok
 |cons p ps ih=>
  intro qs cs vs c ds hok hb hc hl hn
  obtain ⟨i,x⟩:=p
  cases qs with
  |nil=>simp [qce] at hok
  |cons q qs=>
   obtain ⟨off,sz,y⟩:=q
   simp only [qce,zi,beq_iff_eq,decide_eq_true_eq] at hok
   obtain ⟨⟨⟨h1,h2⟩,h3⟩,h4⟩:=hok
   simp only [Zad] at hb
   split at hb
   ·rename_i cx v ex
    split at hb
    ·rename_i hsz
     obtain ⟨⟨c',ds'⟩,e1,e2⟩:=zh.1 hb
     simp only [zj] at e2
     obtain ⟨rfl,rfl⟩:=e2
     have rx:PRep w U v (a.eval x):=rdP hf h2 ex hc.1
     have hcell:=rx.cells (qbE hsz.2)
     have hcl:(a.eval x).cells.size=sz:=by have:=hcell.length;simp at this;omega
     simp only [zx]
     rw [qeu place vs i off sz _ _ h1 hcl (by omega)]
     exact ih qs _ _ c' ds' h4 e1 hc.2 (qjt hcell hl) (by rw [qaC];exact hn)
    ·cases hb
   ·cases hb
def qtp:Value→PV→Bool
 |.int k n,.int k' n'=>k == k' && n == n'
 |.bool b,.bool b'=>b == b'
 |.string s,.str l=>s.data.toList == l
 |.slice none 0 0,.nl _=>true
 |.nilFunc,.raw .nilFunc=>true
 |.pointer none,.raw (.pointer none)=>true
 |.map none,.raw (.map none)=>true
 |_,_=>false
def qfH:List Value→List PV→Bool
 |[],[]=>true
 |v :: vs,x :: xs=>qtp v x && qfH vs xs
 |_,_=>false
theorem qmY {v:Value} {x:PV} (h:qtp v x=true) (w:World) (U:Nat→Prop):PRep w U x v∧Zy x=true:=by
 unfold qtp at h
 split at h
 ·simp only [zi,beq_iff_eq] at h;obtain ⟨rfl,rfl⟩:=h;exact ⟨rfl,rfl⟩
 ·simp only [beq_iff_eq] at h;subst h;exact ⟨rfl,rfl⟩
 ·simp only [beq_iff_eq] at h;subst h;simp [PRep,Zy]
 ·simp [PRep,Zy]
 ·simp [PRep,Zy,Value.oneCell']
 ·simp [PRep,Zy,Value.oneCell']
 ·simp [PRep,Zy,Value.oneCell']
 ·cases h
theorem qcg {vs:List Value} {xs:List PV} (h:qfH vs xs=true) (w:World) (U:Nat→Prop):PRepL w U xs vs∧Zaa xs=true:=by
 induction vs generalizing xs with
 |nil=>cases xs with
  |nil=>simp [PRepL,Zaa]
  |cons x xs=>simp [qfH] at h
 |cons v vs ih=>cases xs with
  |nil=>simp [qfH] at h
  |cons x xs=>
   simp only [qfH,zi] at h
   have h1:=qmY h.1 w U
   have h2:=ih h.2
   simp only [PRepL,Zaa,List.all_cons,zi]
   exact ⟨⟨v,vs,rfl,h1.1,h2.1⟩,h1.2,by simpa [Zaa] using h2.2⟩
def qfw (P:Program) (t:TypeId) (zs:List PV):Bool:=
 match (P.info? t).bind (·.zero) with
 |some z=>qfH z.cells.toList zs
 |none=>false
theorem qjc {t:TypeId} {zs:List PV} (h:qfw P t zs=true) (w:World):∃ z,(zeroValue t).run P w=.ok z w∧qfH z.cells.toList zs=true:=by
 unfold qfw at h
 split at h
 ·rename_i z hz
  obtain ⟨i,h1,h2⟩:=Option.bind_eq_some_iff.1 hz
  exact ⟨z,by simp [zeroValue,typeInfo,h1,h2],h⟩
 ·cases h
def qio (P:Program) (fs:Array Field) (places:Array (Nat×Nat)):Bool:=
 fs.toList.map (fun f=>(f.offset,P.cellsOf f.type)) == places.toList && fs.toList.all fun f=>(P.info? f.type).isSome
theorem qku (fs:Array Field) (places:Array (Nat×Nat)) (h:qio P fs places=true) (w:World) :
  (fs.mapM fun f=>do pure (f.offset,← sizeOf f.type):Sem (Array (Nat×Nat))).run P w=.ok places w:=by
 simp only [qio,zi,beq_iff_eq,List.all_eq_true] at h
 obtain ⟨h1,h2⟩:=h
 have key:∀ (l:List Field),(∀ f∈l,(P.info? f.type).isSome=true)→(l.mapM fun f=>do pure (f.offset,← sizeOf f.type):Sem (List (Nat×Nat))).run P w=.ok (l.map fun f=>(f.offset,P.cellsOf f.type)) w:=by
  intro l
  induction l with
  |nil=>intro _;rfl
  |cons f l ih=>
   intro h
   obtain ⟨i,hi⟩:=zM.1 (h f (by simp))
   have:=ih (fun g hg=>h g (by simp [hg]))
   have hz:(sizeOf f.type).run P w=.ok (P.cellsOf f.type) w:=by simp [sizeOf,typeInfo,hi,Program.cellsOf]
   simp only [List.mapM_cons,Sem.run_bind,hz,Sem.run_pure,Result.andThen_ok,zx]
   rw [this]
   rfl
 have:=key fs.toList h2
 rw [Array.mapM_eq_mapM_toList]
 rw [h1] at this
 simp only [← bind_pure_comp,Sem.run_bind] at this ⊢
 rw [this]
 rfl
end
section
variable {P:Program} {L:Objs} {fr:List AV} {o:Oper} {w:World} {U:Nat→Prop} {ι:Key→Value}
theorem qvD {t:TypeId} {parts:Array (Nat×Operand)} {fs:Array Field} {places:Array (Nat×Nat)} {zero:List PV} {parts':List (Nat×Nat×Opd)} (ho:o.op=.build t parts) (ht:P.underlying t=some (.struct fs)) (hz:qfw P t zero=true) (hp:qio P fs places=true)
  (hk:qce P (places[·]?) zero.length parts.toList parts'=true) {c:Prop} {r:AV} (h:Zf fr L (.bld zero parts')=some (c,r)):Val1 P o fr L c r:=by
 simp only [Zf] at h
 obtain ⟨⟨c1,ds⟩,e1,e2⟩:=zh.1 h
 simp only [zj] at e2
 obtain ⟨rfl,rfl⟩:=e2
 refine Val1.same fun E B w ι a hs h1=>?_
 obtain ⟨z,hz1,hz2⟩:=qjc hz w
 have hzr:=(qcg hz2 w (fun b=>Own L ι b∨B.X b)).1
 obtain ⟨us,hfill,hrep⟩:=qrT (P:=P) hs.2.1 (places[·]?) zero.length parts.toList parts' zero z.cells.toList c1 ds hk e1 h1 hzr hzr.length
 refine ⟨.agg us.toArray,?_,us,rfl,hrep⟩
 simp only [execOp,ho,Instr.build,Sem.run_bind,hz1,Result.andThen_ok,run_underlying ht,qku fs places hp]
 have e3:(Array.map (fun x:Nat×Operand=>(x.1,a.eval x.2)) parts).toList=parts.toList.map fun x=>(x.1,a.eval x.2):=by simp
 have e4:z.cells.toList.toArray=z.cells:=by simp
 rw [e4] at hfill
 rw [← e3] at hfill
 simp only [hfill]
 rfl
theorem qsR {t e:TypeId} {m z:Nat} {parts:Array (Nat×Operand)} {zero:List PV} {parts':List (Nat×Nat×Opd)} (ho:o.op=.build t parts) (ht:P.underlying t=some (.array m e)) (hz:qfw P t zero=true) (hsz:qa7 P e z=true)
  (hk:qce P (fun i=>some (i * z,z)) zero.length parts.toList parts'=true) {c:Prop} {r:AV} (h:Zf fr L (.bld zero parts')=some (c,r)):Val1 P o fr L c r:=by
 simp only [Zf] at h
 obtain ⟨⟨c1,ds⟩,e1,e2⟩:=zh.1 h
 simp only [zj] at e2
 obtain ⟨rfl,rfl⟩:=e2
 refine Val1.same fun E B w ι a hs h1=>?_
 obtain ⟨zv,hz1,hz2⟩:=qjc hz w
 have hzr:=(qcg hz2 w (fun b=>Own L ι b∨B.X b)).1
 obtain ⟨us,hfill,hrep⟩:=qrT (P:=P) hs.2.1 (fun i=>some (i * z,z)) zero.length parts.toList parts' zero zv.cells.toList c1 ds hk e1 h1 hzr hzr.length
 refine ⟨.agg us.toArray,?_,us,rfl,hrep⟩
 simp only [execOp,ho,Instr.build,Sem.run_bind,hz1,Result.andThen_ok,run_underlying ht,qaD hsz]
 have e3:(Array.map (fun x:Nat×Operand=>(x.1,a.eval x.2)) parts).toList=parts.toList.map fun x=>(x.1,a.eval x.2):=by simp
 have e4:zv.cells.toList.toArray=zv.cells:=by simp
 rw [e4] at hfill
 rw [← e3] at hfill
 simp only [hfill]
 rfl
theorem qbb {X:Nat→Prop} (h:Sim w X L ι) {b:Nat} (hb:Own L ι b):b < w.heap.size:=by
 obtain ⟨k,ao,hl,hk⟩:=hb
 exact (h.obj k ao hl).blk_lt hk
theorem St.u_lt {E:Envt} {B:Base} (h:St E B w L ι) {b:Nat} (hb:Own L ι b∨B.X b):b < w.heap.size:=by
 rcases hb with hb|hb
 ·exact qbb h.sim hb
 ·exact Nat.lt_of_lt_of_le (h.xlt b hb) h.grow.size
theorem hao (w:World) (ob:Obj) {b:Nat} (hb:b < w.heap.size):(w.alloc ob).heap[b]?=w.heap[b]?:=Go.RowKit.Below.heap_alloc w ob b hb
theorem qot (w:World) (U:Nat→Prop) (ob:Obj):Keeps w (w.alloc ob) U U:=fun b hb hu=>⟨hao w ob hb,hu⟩
theorem qbo (w:World) (O:Nat→Prop) (ob:Obj):Grow w (w.alloc ob) O:=⟨rfl,rfl,rfl,by simp,fun b hb _=>hao w ob hb⟩
theorem qju (us:List Value):∀ (pre old:List Value),us.length≤old.length→qam (pre++old) pre.length us=pre++us++old.drop us.length:=by
 induction us with
 |nil=>intro pre old _;simp [qam]
 |cons u r ih=>
  intro pre old h
  cases old with
  |nil=>simp at h
  |cons x xs=>
   simp only [qam]
   rw [List.set_append_right _ _ (zL _),Nat.sub_self,List.set_cons_zero]
   have:=ih (pre++[u]) xs (by simpa using h)
   simp only [zm,zl,zr,List.append_assoc,List.singleton_append,Nat.zero_add] at this
   rw [this]
   simp
def qbd:Nat→List (Nat×Operand)→List Opd→Bool
 |_,[],[]=>true
 |k,(i,x) :: r,y :: r'=>i == k && qaf x y && qbd (k+1) r r'
 |_,_,_=>false
theorem PRep.wk1 {x:PV} {v:Value} (h:PRep w U x v):PRep w U (wk1 x) v:=by
 cases x with
 |nl z=>simp only [PRep] at h;subst h;simp [Go.Proofs.YtjgdjinhkgjpeabGreatDoor.wk1,PRep]
 |_=>exact h
theorem PRepL.wk1 {xs:List PV} {vs:List Value} (h:PRepL w U xs vs):PRepL w U (xs.map Go.Proofs.YtjgdjinhkgjpeabGreatDoor.wk1) vs:=by
 induction xs generalizing vs with
 |nil=>exact h
 |cons x xs ih=>simp only [PRepL] at h;obtain ⟨v,r,rfl,h1,h2⟩:=h;simp only [zx,PRepL];exact ⟨v,r,rfl,h1.wk1,ih h2⟩
set_option maxHeartbeats 2000000 in
theorem qqf {a:Act} (hf:FRep w U ι fr a) (z:Nat):∀ (ps:List (Nat×Operand)) (qs:List Opd) (k:Nat) (pre old:List Value) (c:Prop) (es:List (List PV)),
  qbd k ps qs=true→Zao fr z qs=some (c,es)→c→pre.length=k * z→old.length=ps.length * z→
  ∃ us,Instr.fill (fun i=>some (i * z,z)) (pre++old).toArray (ps.map fun x=>(x.1,a.eval x.2))=some (pre++us).toArray∧PRepL w U es.flatten us∧(∀ v∈us,v.oneCell'=true)∧(∀ x∈es,x.length=z)∧es.length=ps.length:=by
 intro ps
 induction ps with
 |nil=>
  intro qs k pre old c es hok hb hc hp hl
  cases qs with
  |nil=>
   simp only [Zao,zg,zj] at hb
   obtain ⟨rfl,rfl⟩:=hb
   have:old=[]:=zq (by simpa using hl)
   subst this
   exact ⟨[],rfl,by simp [PRepL],by simp,by simp,rfl⟩
  |cons q qs=>simp [qbd] at hok
 |cons p ps ih=>
  intro qs k pre old c es hok hb hc hp hl
  obtain ⟨i,x⟩:=p
  cases qs with
  |nil=>simp [qbd] at hok
  |cons y qs=>
   simp only [qbd,zi,beq_iff_eq] at hok
   obtain ⟨⟨rfl,h2⟩,h4⟩:=hok
   simp only [Zao] at hb
   split at hb
   ·rename_i cx v ex
    split at hb
    ·rename_i hsz
     obtain ⟨⟨c',es'⟩,e1,e2⟩:=zh.1 hb
     simp only [zj] at e2
     obtain ⟨rfl,rfl⟩:=e2
     have rx:PRep w U v (a.eval x):=rdP hf h2 ex hc.1
     have hcell:=rx.cells (qbE hsz.2)
     have hcl:(a.eval x).cells.toList.length=z:=by have:=hcell.length;omega
     have hol:old.length=z+ps.length * z:=by rw [hl,zl,yi,Nat.one_mul,Nat.add_comm]
     simp only [zx]
     rw [qeu _ _ i (i * z) z _ _ rfl (by simpa using hcl) (by rw [zm,hp];omega),← hp,qju _ _ _ (by omega)]
     obtain ⟨us,g1,g2,g3,g4,g5⟩:=ih qs (i+1) (pre++(a.eval x).cells.toList) (old.drop (a.eval x).cells.toList.length) c' es' h4 e1 hc.2 (by rw [zm,hp,hcl,yi,Nat.one_mul]) (by rw [List.length_drop,hcl,hol];omega)
     refine ⟨(a.eval x).cells.toList++us,by rw [g1,List.append_assoc],?_,?_,?_,by simp [g5]⟩
     ·simp only [zH];exact hcell.wk1.append g2
     ·intro u hu
      simp only [List.mem_append] at hu
      rcases hu with hu|hu
      ·exact hcell.oneCells hsz.2 u hu
      ·exact g3 u hu
     ·intro q hq
      simp only [zG] at hq
      rcases hq with rfl|hq
      ·simpa using hsz.1
      ·exact g4 q hq
    ·cases hb
   ·cases hb
set_option maxHeartbeats 2000000 in
theorem qlb {E:Envt} {B:Base} {a:Act} (hs:StF E B w L ι fr a) {t e:TypeId} {z n:Nat} {parts:Array (Nat×Operand)} {parts':List Opd} (ho:o.op=.buildSlice t n parts) (ht:P.underlying t=some (.slice e)) (hz:qa7 P e z=true) (hzr:((P.info? e).bind (·.zero)).isSome=true)
  (hn:parts.toList.length=n) (hm:n * z≤16777216) (hk:qbd 0 parts.toList parts'=true) {c:Prop} {es:List (List PV)} (hb:Zao fr z parts'=some (c,es)) (hc:c) :
  ∃ us:List Value,(execOp a.eval o).run P w=.ok (.value (.slice (some ⟨w.heap.size,0,none⟩) n n)) (w.alloc (.cells us.toArray e))∧PRepL w (fun b=>Own L ι b∨B.X b) es.flatten us∧(∀ v∈us,v.oneCell'=true)∧(∀ x∈es,x.length=z)∧es.length=n:=by
 obtain ⟨zv,hzv⟩:=zM.1 hzr
 obtain ⟨i,hi1,hi2⟩:=Option.bind_eq_some_iff.1 hzv
 have hrz:(zeroValue e).run P w=.ok zv w:=by simp [zeroValue,typeInfo,hi1,hi2]
 have fin:∀ zc:Array Value,∃ us:List Value,Instr.fill (fun i=>some (i * z,z)) ((Array.range (n * z)).map (zc[· % zc.size]!)) (parts.toList.map fun x=>(x.1,a.eval x.2))=some us.toArray∧PRepL w (fun b=>Own L ι b∨B.X b) es.flatten us∧(∀ v∈us,v.oneCell'=true)∧(∀ x∈es,x.length=z)∧es.length=n:=by
  intro zc
  obtain ⟨us,g1,g2,g3,g4,g5⟩:=qqf hs.2.1 z parts.toList parts' 0 [] ((Array.range (n * z)).map (zc[· % zc.size]!)).toList c es hk hb hc (by simp) (by simp [← hn])
  refine ⟨us,?_,g2,g3,g4,by rw [g5,hn]⟩
  rw [zU,zU,Array.toArray_toList] at g1
  exact g1
 have e3:(Array.map (fun x:Nat×Operand=>(x.1,a.eval x.2)) parts).toList=parts.toList.map fun x=>(x.1,a.eval x.2):=by simp
 by_cases h0:n * z=0
 ·obtain ⟨us,g1,rest⟩:=fin #[]
  refine ⟨us,?_,rest⟩
  simp only [execOp,ho,Instr.buildSlice,Sem.run_bind,run_underlying ht,Result.andThen_ok,qaD hz,Sem.run_ite]
  rw [if_neg (by omega)]
  simp only [Sem.run_pure,Result.andThen_ok,if_pos h0]
  rw [e3]
  simp only [g1]
  simp [newRow,newObj]
  rfl
 ·obtain ⟨us,g1,rest⟩:=fin zv.cells
  refine ⟨us,?_,rest⟩
  simp only [execOp,ho,Instr.buildSlice,Sem.run_bind,run_underlying ht,Result.andThen_ok,qaD hz,Sem.run_ite]
  rw [if_neg (by omega)]
  simp only [Sem.run_pure,Result.andThen_ok,if_neg h0,hrz]
  rw [e3]
  simp only [g1]
  simp [newRow,newObj]
  rfl
set_option maxHeartbeats 2000000 in
theorem qvB {t e:TypeId} {z n:Nat} {parts:Array (Nat×Operand)} {parts':List Opd} (ho:o.op=.buildSlice t n parts) (ht:P.underlying t=some (.slice e)) (hz:qa7 P e z=true) (hzr:((P.info? e).bind (·.zero)).isSome=true)
  (hn:parts.toList.length=n) (hm:n * z≤16777216) (hk:qbd 0 parts.toList parts'=true) {c:Prop} {r:AV} (h:Zf fr L (.bsl z parts')=some (c,r)):Val1 P o fr L c r:=by
 simp only [Zf] at h
 obtain ⟨⟨c1,es⟩,e1,e2⟩:=zh.1 h
 simp only [zj] at e2
 obtain ⟨rfl,rfl⟩:=e2
 intro E B w ι a hs h1
 obtain ⟨us,g1,g2,g3,g4,g5⟩:=qlb hs ho ht hz hzr hn hm hk e1 h1
 refine ⟨_,_,g1,qbo w _ _,some ⟨w.heap.size,0,none⟩,n,by rw [g5],by omega,fun hne=>⟨w.heap.size,0,rfl,by simp,fun hu=>absurd (hs.1.u_lt hu) (by omega),?_⟩⟩
 have key:∀ (es:List (List PV)) (vs:List Value) (off:Nat),(∀ x∈es,x.length=z)→PRepL w (fun b=>Own L ι b∨B.X b) es.flatten vs→(∀ v∈vs,v.oneCell'=true)→(∀ j u,vs[j]?=some u→(w.alloc (.cells us.toArray e)).cell? ⟨w.heap.size,off+j,none⟩=some u)→PRepE (w.alloc (.cells us.toArray e)) (fun b=>Own L ι b∨B.X b) w.heap.size z off es:=by
  intro es
  induction es with
  |nil=>intros;simp [PRepE]
  |cons x r ih=>
   intro vs off hz hv h1 hc
   simp only [PRepE]
   have hx:=hz x (by simp)
   simp only [zH] at hv
   have ha:=hv.take x.length
   have hb:=hv.drop x.length
   rw [List.take_left] at ha
   rw [List.drop_left] at hb
   refine ⟨hx,PRepC.of (PRepL.mono (qot w _ _) _ _ ha) (fun v hv=>h1 v (ye hv)) (fun j u hu=>hc j u (by rw [yk] at hu;split at hu;exact hu;cases hu)),ih _ (off+z) (fun y hy=>hz y (by simp [hy])) hb (fun v hv=>h1 v (List.mem_of_mem_drop hv)) (fun j u hu=>?_)⟩
   rw [yb] at hu
   have:=hc _ u hu
   rwa [hx,← Nat.add_assoc] at this
 refine key es us 0 g4 g2 g3 (fun j u hu=>?_)
 rw [World.cell?_alloc_at _ _ _ _ rfl,Nat.zero_add]
 simpa using hu
theorem qoJ {es:List (List PV)} {l:List UInt8} (h:qg6 es=some l) {vs:List Value} (hv:PRepL w U es.flatten vs):∃ ns:List Int,vs=ns.map (Value.int .u8)∧ns.map (fun n=>UInt8.ofNat n.toNat)=l∧es.length=ns.length:=by
 induction es generalizing l vs with
 |nil=>simp only [qg6,zg] at h;subst h;simp only [List.flatten_nil,PRepL] at hv;subst hv;exact ⟨[],rfl,rfl,rfl⟩
 |cons x r ih=>
  unfold qg6 at h
  split at h
  ·rename_i heq;cases heq
  ·rename_i n r' heq
   cases heq
   obtain ⟨l',e1,rfl⟩:=zh.1 h
   simp only [zH,List.singleton_append,PRepL] at hv
   obtain ⟨v,rr,rfl,h1,h2⟩:=hv
   obtain ⟨ns,rfl,g1,g2⟩:=ih e1 h2
   exact ⟨n :: ns,by rw [PRep.int_eq h1];rfl,by simp [g1],by simp [g2]⟩
  ·cases h
theorem qoA (ns:List Int):∀ s:ByteArray,ns.foldl (fun r n=>r.push (UInt8.ofNat n.toNat)) s=⟨(s.data.toList++ns.map fun n=>UInt8.ofNat n.toNat).toArray⟩:=by
 induction ns with
 |nil=>intro s;simp
 |cons c l ih=>intro s;simp only [List.foldl_cons];rw [ih];simp [ByteArray.push]
set_option maxHeartbeats 2000000 in
theorem qvF {s d e:TypeId} {x:Operand} {x':Opd} (ho:o.op=.convert s d x) (hsT:P.underlying s=some (.slice e)) (he:P.underlying e=some (.int .u8)) (hd:P.underlying d=some .string) (hx:qaf x x'=true) {c:Prop} {r:AV}
  (h:Zf fr L (.b2s x')=some (c,r)):Val1 P o fr L c r:=by
 simp only [Zf] at h
 split at h
 ·rename_i es e1
  obtain ⟨l,e2,e3⟩:=zh.1 h
  simp only [zj] at e3
  obtain ⟨rfl,rfl⟩:=e3
  refine Val1.same fun E B w ι a hs h1=>⟨.string ⟨l.toArray⟩,?_,rfl⟩
  have hr:=(rdOk hs.2.1 hx).un h1
  have run:∀ (A:Option Addr) (n cp:Nat),a.eval x=.slice A n cp→(∀ b off,A=some ⟨b,off,none⟩→PRepE w (fun b=>Own L ι b∨B.X b) b 1 off es∧n=es.length)→(A=none→es=[])→(∃ b off,A=some ⟨b,off,none⟩)∨A=none→(execOp a.eval o).run P w=.ok (.value (.string ⟨l.toArray⟩)) w:=by
   intro A n cp eA hsome hnone hcase
   simp only [execOp,ho,eA]
   have hcv:(convert s d (.slice A n cp)).run P w=.ok (.string ⟨l.toArray⟩) w:=by
    rw [run_convert_bytes_string w s d e _ _ _ hsT he hd]
    rcases hcase with ⟨b,off,rfl⟩|rfl
    ·obtain ⟨hE,rfl⟩:=hsome b off rfl
     have hC:∃ vs,PRepL w (fun b=>Own L ι b∨B.X b) es.flatten vs∧∀ j v,vs[j]?=some v→w.cell? ⟨b,off+j,none⟩=some v:=by
      clear e2 e1 hsome hnone eA h
      induction es generalizing off with
      |nil=>exact ⟨[],by simp [PRepL],by simp⟩
      |cons q r ih=>
       simp only [PRepE] at hE
       obtain ⟨q1,q2,q3⟩:=hE
       obtain ⟨vs1,a1,a2,a3⟩:=q2.vals
       obtain ⟨vs2,b1,b2⟩:=ih (off:=off+1) q3
       have hl1:vs1.length=1:=by rw [a1.length,q1]
       refine ⟨vs1++vs2,by simp only [zH];exact a1.append b1,fun j v hj=>?_⟩
       rw [List.getElem?_append] at hj
       split at hj
       ·exact a3 j v hj
       ·have:=b2 _ v hj
        rwa [hl1,show off+1+(j - 1)=off+j from by omega] at this
     obtain ⟨vs,hv,hc⟩:=hC
     obtain ⟨ns,rfl,g1,g2⟩:=qoJ e2 hv
     have hl:=run_loadCells_list (P:=P) (w:=w) ⟨b,off,none⟩ (ns.map (Value.int .u8)) (fun j v hj=>by rw [qaW];exact hc j v hj)
     rw [zN,← g2] at hl
     rw [run_bytesToString w _ _ _ _ hl,qoA,g1]
     rfl
    ·have:=hnone rfl
     subst this
     simp only [qg6,zg] at e2
     subst e2
     simp [Conv.bytesToString]
     rfl
   simp only [Sem.run_bind,hcv]
   rfl
  generalize (rd fr x').un.2=q at *
  unfold Zw at e1
  split at e1
  ·simp only [zg,zj] at e1
   obtain ⟨rfl,rfl⟩:=e1
   obtain ⟨A,cp,eA,hcp,hE⟩:=hr
   rename_i es
   by_cases hn:es=[]
   ·subst hn
    simp only [qg6,zg] at e2
    subst e2
    simp only [execOp,ho,eA]
    have hcv:(convert s d (.slice A 0 cp)).run P w=.ok (.string ⟨#[]⟩) w:=by
     rw [run_convert_bytes_string w s d e _ _ _ hsT he hd]
     cases A with
     |none=>simp [Conv.bytesToString];rfl
     |some ad=>
      have hl:(loadCells ad 0).run P w=.ok (([]:List Int).map (Value.int .u8)).toArray w:=by simp [loadCells,loadCellsFrom]
      rw [run_bytesToString w _ _ _ _ hl];rfl
    simp only [zr,Sem.run_bind,hcv]
    rfl
   ·obtain ⟨b,off,rfl,_,_,hE'⟩:=hE hn
    exact run _ _ _ eA (fun b' off' e=>by cases e;exact ⟨hE',rfl⟩) (fun h=>by cases h) (.inl ⟨b,off,rfl⟩)
  ·simp only [zg,zj] at e1
   obtain ⟨rfl,rfl⟩:=e1
   exact run none 0 0 hr (fun _ _ h=>by cases h) (fun _=>rfl) (.inr rfl)
  ·rename_i k
   split at e1
   ·rename_i es' et z' ap hl
    simp only [zg,zj] at e1
    obtain ⟨rfl,rfl⟩:=e1
    obtain ⟨eA,_⟩:=hr
    obtain ⟨vs,hown,_⟩:=hs.1.sim.obj k _ hl
    rcases hown.2 with ⟨e3,e4⟩|⟨g,cap,cur,fz,e3,_⟩
    ·exact run none 0 0 (by rw [eA,e3]) (fun _ _ h=>by cases h) (fun _=>zq e4) (.inr rfl)
    ·exact run _ _ _ (by rw [eA,e3]) (fun b' off' e=>by cases e;exact ⟨qfC hs.1.sim hl e3,rfl⟩) (fun h=>by cases h) (.inl ⟨g,0,rfl⟩)
   ·cases e1
  ·cases e1
 ·cases h
set_option maxHeartbeats 2000000 in
theorem qvn {f:FuncId} {caps:Array Operand} {caps':List Opd} (ho:o.op=.makeFunc (.func f) #[] caps) (hx:qbZ caps.toList caps'=true) {c:Prop} {r:AV} (h:Zf fr L (.mkf f caps')=some (c,r)):Val1 P o fr L c r:=by
 simp only [Zf] at h
 split at h
 ·rename_i ks e1
  simp only [zg,zj] at h
  obtain ⟨rfl,rfl⟩:=h
  refine Val1.same fun E B w ι a hs _=>⟨.func (.func f) #[] (caps.map a.eval),?_,?_⟩
  ·simp [execOp,ho,Instr.makeFunc]
  ·have key:∀ (xs:List Operand) (ys:List Opd) (ks:List Key),qbZ xs ys=true→Zap (ys.map (rd fr))=some ks→xs.map a.eval=ks.map ι:=by
    intro xs
    induction xs with
    |nil=>intro ys ks h1 h2;cases ys with
     |nil=>simp only [List.map_nil,Zap,zg] at h2;subst h2;rfl
     |cons y ys=>simp [qbZ] at h1
    |cons x xs ih=>intro ys ks h1 h2;cases ys with
     |nil=>simp [qbZ] at h1
     |cons y ys=>
      simp only [qbZ,zi] at h1
      have hr:=rdOk hs.2.1 h1.1
      simp only [zx] at h2
      generalize rd fr y=q at *
      unfold Zap at h2
      split at h2
      ·rename_i heq;cases heq
      ·rename_i k' r' heq
       cases heq
       obtain ⟨ks',e3,rfl⟩:=zh.1 h2
       obtain ⟨b,e4,e5⟩:=hr
       simp [ih ys ks' h1.2 e3,e4,e5]
      ·cases h2
   have:=key caps.toList caps' ks hx e1
   simp only [ARep]
   congr 1
   apply Array.ext'
   simpa using this
 ·obtain ⟨ps,e1,e2⟩:=zh.1 h
  simp only [zj] at e2
  obtain ⟨rfl,rfl⟩:=e2
  refine Val1.same fun E B w ι a hs _=>⟨.func (.func f) #[] (caps.map a.eval),?_,?_⟩
  ·simp [execOp,ho,Instr.makeFunc]
  ·have key:∀ (xs:List Operand) (ys:List Opd) (ps:List PV),qbZ xs ys=true→caps_P (ys.map (rd fr))=some ps→PRepL w (fun b=>Own L ι b∨B.X b) ps (xs.map a.eval):=by
    intro xs
    induction xs with
    |nil=>intro ys ps h1 h2;cases ys with
     |nil=>simp only [List.map_nil,caps_P,zg] at h2;subst h2;simp [PRepL]
     |cons y ys=>simp [qbZ] at h1
    |cons x xs ih=>intro ys ps h1 h2;cases ys with
     |nil=>simp [qbZ] at h1
     |cons y ys=>
      simp only [qbZ,zi] at h1
      have hr:=rdOk hs.2.1 h1.1
      simp only [zx] at h2
      generalize rd fr y=q at *
      unfold caps_P at h2
      split at h2
      ·rename_i heq;cases heq
      ·rename_i cs r heq
       cases heq
       obtain ⟨ps',e3,rfl⟩:=zh.1 h2
       simp only [zx,PRepL]
       exact ⟨_,_,rfl,hr,ih ys ps' h1.2 e3⟩
      ·cases h2
   have:=key caps.toList caps' ps hx e1
   exact ⟨caps.toList.map a.eval,by congr 1;apply Array.ext';simp,this⟩
end
section
variable {P:Program} {L:Objs} {fr:List AV} {o:Oper} {w:World} {U:Nat→Prop} {ι:Key→Value}
def fkB (P:Program) (t:TypeId):FK→Bool
 |.i=>match P.underlying t with|some (.int _)=>true|_=>false
 |.s=>match P.underlying t with|some .string=>true|_=>false
 |.b=>match P.underlying t with|some .bool=>true|_=>false
def qdL (P:Program):Nat→List Field→List FK→Bool
 |_,[],[]=>true
 |k,f :: fs,q :: ks=>f.offset == k && f.name != "_" && fkB P f.type q && qdL P (k+1) fs ks
 |_,_,_=>false
theorem qx9 (x y:List UInt8):((⟨x.toArray⟩:ByteArray) == ⟨y.toArray⟩)=decide (x=y):=by
 rw [beq_toListBytes,ByteArray.toList_eq,ByteArray.toList_eq,Bool.eq_iff_iff]
 simp
set_option maxHeartbeats 2000000 in
theorem qkP:∀ (fs:List Field) (ks:List FK) (k:Nat) (a b:List PV) (xs ys:Array Value) (q:Bool),qdL P k fs ks=true→Zu ks a b=some q→PRepL w U a (xs.toList.drop k)→PRepL w U b (ys.toList.drop k)→∀ d,(Op.eqFields (d+1) xs ys fs).run P w=.ok q w:=by
 intro fs
 induction fs with
 |nil=>
  intro ks k a b xs ys q hf he ha hb d
  cases ks with
  |nil=>
   cases a<;>cases b<;>simp only [Zu,zg,reduceCtorEq] at he
   subst he
   rfl
  |cons _ _=>simp [qdL] at hf
 |cons f fs ih=>
  intro ks k a b xs ys q hf he ha hb d
  cases ks with
  |nil=>simp [qdL] at hf
  |cons fk ks=>
  simp only [qdL,zi,beq_iff_eq,bne_iff_ne,ne_eq] at hf
  obtain ⟨⟨⟨h1,h2⟩,h3⟩,h4⟩:=hf
  cases a with
  |nil=>cases fk<;>simp [Zu] at he
  |cons x a=>
   cases b with
   |nil=>cases fk<;>cases x<;>simp [Zu] at he
   |cons y b=>
    simp only [PRepL] at ha hb
    obtain ⟨vx,rx,ex,hx,ha'⟩:=ha
    obtain ⟨vy,ry,ey,hy,hb'⟩:=hb
    have gx:xs[f.offset]?=some vx:=by
     have:(xs.toList.drop k)[0]?=some vx:=by rw [ex];rfl
     rw [yb] at this
     rw [h1]
     simpa using this
    have gy:ys[f.offset]?=some vy:=by
     have:(ys.toList.drop k)[0]?=some vy:=by rw [ey];rfl
     rw [yb] at this
     rw [h1]
     simpa using this
    have dx:xs.toList.drop (k+1)=rx:=by rw [← List.drop_drop,ex];rfl
    have dy:ys.toList.drop (k+1)=ry:=by rw [← List.drop_drop,ey];rfl
    have hag:aggB P f.type false=true:=by
     unfold aggB
     cases fk<;>simp only [fkB] at h3<;>split at h3<;>simp_all
    have px:(part f.type xs f.offset).run P w=.ok vx w:=by simp [part,qcc hag,gx]
    have py:(part f.type ys f.offset).run P w=.ok vy w:=by simp [part,qcc hag,gy]
    have cont:∀ (e:Bool) (q':Bool),(Op.equalIn (d+1) f.type vx vy).run P w=.ok e w→Zu ks a b=some q'→(Op.eqFields (d+1) xs ys (f :: fs)).run P w=.ok (e && q') w:=by
     intro e q' hE hq
     have hr:=ih ks (k+1) a b xs ys q' h4 hq (by rw [dx];exact ha') (by rw [dy];exact hb') d
     simp only [Op.eqFields]
     rw [if_pos h2]
     simp only [Sem.run_bind,px,py,hE,Result.andThen_ok]
     cases e
     ·rfl
     ·simpa using hr
    unfold Zu at he
    split at he
    ·rename_i h _ _;cases h
    ·rename_i ks1 k1 n1 xs1 k2 n2 ys1 e0 e1 e2
     cases e0;cases e1;cases e2
     split at he
     ·rename_i hk
      subst hk
      obtain ⟨q',g1,rfl⟩:=zh.1 he
      refine cont _ q' ?_ g1
      rw [PRep.int_eq hx,PRep.int_eq hy]
      simp only [fkB] at h3
      split at h3
      ·rename_i kk hu;simp only [Op.equalIn,Sem.run_bind,run_underlying hu,Result.andThen_ok,if_true];rfl
      ·cases h3
     ·cases he
    ·rename_i ks1 s1 xs1 s2 ys1 e0 e1 e2
     cases e0;cases e1;cases e2
     obtain ⟨q',g1,rfl⟩:=zh.1 he
     refine cont _ q' ?_ g1
     rw [PRep.str_eq hx,PRep.str_eq hy]
     simp only [fkB] at h3
     split at h3
     ·rename_i hu
      simp only [Op.equalIn,Sem.run_bind,run_underlying hu,Result.andThen_ok,qx9]
      rfl
     ·cases h3
    ·rename_i ks1 s1 xs1 s2 ys1 e0 e1 e2
     cases e0;cases e1;cases e2
     obtain ⟨q',g1,rfl⟩:=zh.1 he
     refine cont _ q' ?_ g1
     rw [PRep.bool_eq hx,PRep.bool_eq hy]
     simp only [fkB] at h3
     split at h3
     ·rename_i hu
      exact qdo hu d
     ·cases h3
    ·cases he
def qxL (P:Program) (t:TypeId) (ks:List FK):Option Nat:=
 match P.underlying t with
 |some (.struct fs)=>if (qdL P 0 fs.toList (ks.take fs.size) && !P.stoodInHeld t && decide (P.cellsOf t=fs.size) && (P.info? t).isSome && aggB P t true)=true then some fs.size else none
 |_=>none
def qiy (P:Program):Nat→List Field→List FK→Bool
 |_,[],[]=>true
 |_,[],_ :: _=>false
 |k,f :: fs,ks=>f.offset == k && f.name != "_" && (match qxL P f.type ks with
  |some n=>qiy P (k+n) fs (ks.drop n)
  |none=>match ks with
   |[]=>false
   |q :: ks'=>fkB P f.type q && qiy P (k+1) fs ks')
theorem qkK {P:Program}:∀ {fs:List Field} {ks:List FK} {k:Nat},qdL P k fs ks=true→ks.length=fs.length
 |[],[],_,_=>rfl
 |[],_ :: _,_,h=>by simp [qdL] at h
 |_ :: _,[],_,h=>by simp [qdL] at h
 |_ :: fs,_ :: ks,k,h=>by
  simp only [qdL,zi] at h
  simp [qkK h.2]
theorem qnh:∀ (n:Nat) (ks:List FK) (a b:List PV) (q:Bool),n≤ks.length→Zu ks a b=some q→∃ q1 q2,Zu (ks.take n) (a.take n) (b.take n)=some q1∧Zu (ks.drop n) (a.drop n) (b.drop n)=some q2∧q=(q1 && q2):=by
 intro n
 induction n with
 |zero=>intro ks a b q _ h;exact ⟨true,q,by simp [Zu],by simpa using h,by simp⟩
 |succ n ih=>
  intro ks a b q hn h
  cases ks with
  |nil=>simp at hn
  |cons fk ks=>
   have hn':n≤ks.length:=by simpa using hn
   cases a with
   |nil=>cases fk<;>simp [Zu] at h
   |cons x a=>
   cases b with
   |nil=>cases fk<;>cases x<;>simp [Zu] at h
   |cons y b=>
   cases fk<;>cases x<;>cases y<;>simp only [Zu,reduceCtorEq] at h
   ·split at h
    ·rename_i hk
     obtain ⟨q',g1,rfl⟩:=zh.1 h
     obtain ⟨q1,q2,i1,i2,rfl⟩:=ih _ _ _ _ hn' g1
     refine ⟨_ && q1,q2,?_,by simpa using i2,(Bool.and_assoc _ _ _).symm⟩
     simp only [List.take_succ_cons,Zu,if_pos hk,i1,zA]
    ·cases h
   ·obtain ⟨q',g1,rfl⟩:=zh.1 h
    obtain ⟨q1,q2,i1,i2,rfl⟩:=ih _ _ _ _ hn' g1
    refine ⟨_ && q1,q2,?_,by simpa using i2,(Bool.and_assoc _ _ _).symm⟩
    simp only [List.take_succ_cons,Zu,i1,zA]
   ·obtain ⟨q',g1,rfl⟩:=zh.1 h
    obtain ⟨q1,q2,i1,i2,rfl⟩:=ih _ _ _ _ hn' g1
    refine ⟨_ && q1,q2,?_,by simpa using i2,(Bool.and_assoc _ _ _).symm⟩
    simp only [List.take_succ_cons,Zu,i1,zA]
theorem qk0 {w:World} {U:Nat→Prop}:∀ (n:Nat) {a:List PV} {l:List Value},PRepL w U a l→PRepL w U (a.take n) (l.take n)∧PRepL w U (a.drop n) (l.drop n):=by
 intro n
 induction n with
 |zero=>intro a l h;exact ⟨by simp [PRepL],by simpa using h⟩
 |succ n ih=>
  intro a l h
  cases a with
  |nil=>simp only [PRepL] at h;subst h;simp [PRepL]
  |cons x a=>
   simp only [PRepL] at h
   obtain ⟨v,r,rfl,h1,h2⟩:=h
   obtain ⟨i1,i2⟩:=ih h2
   exact ⟨by simp only [List.take_succ_cons,PRepL];exact ⟨v,_,rfl,h1,i1⟩,by simpa using i2⟩
theorem qwl {t:TypeId} {fk:FK} {x y:PV} {vx vy:Value} {q:Bool} (h3:fkB P t fk=true) (he:Zu [fk] [x] [y]=some q) (hx:PRep w U x vx) (hy:PRep w U y vy) (d:Nat):(Op.equalIn (d+1) t vx vy).run P w=.ok q w:=by
 cases fk<;>cases x<;>cases y<;>simp only [Zu,reduceCtorEq] at he
 ·split at he
  ·rename_i hk
   subst hk
   simp only [zA,Bool.and_true,zg] at he
   subst he
   rw [PRep.int_eq hx,PRep.int_eq hy]
   simp only [fkB] at h3
   split at h3
   ·rename_i kk hu;simp only [Op.equalIn,Sem.run_bind,run_underlying hu,Result.andThen_ok,if_true];rfl
   ·cases h3
  ·cases he
 ·simp only [zA,Bool.and_true,zg] at he
  subst he
  rw [PRep.str_eq hx,PRep.str_eq hy]
  simp only [fkB] at h3
  split at h3
  ·rename_i hu
   simp only [Op.equalIn,Sem.run_bind,run_underlying hu,Result.andThen_ok,qx9]
   rfl
  ·cases h3
 ·simp only [zA,Bool.and_true,zg] at he
  subst he
  rw [PRep.bool_eq hx,PRep.bool_eq hy]
  simp only [fkB] at h3
  split at h3
  ·rename_i hu
   exact qdo hu d
  ·cases h3
set_option maxHeartbeats 2000000 in
theorem qoE:∀ (fs:List Field) (ks:List FK) (k:Nat) (a b:List PV) (xs ys:Array Value) (q:Bool),qiy P k fs ks=true→Zu ks a b=some q→PRepL w U a (xs.toList.drop k)→PRepL w U b (ys.toList.drop k)→∀ d,(Op.eqFields (d+2) xs ys fs).run P w=.ok q w:=by
 intro fs
 induction fs with
 |nil=>
  intro ks k a b xs ys q hf he ha hb d
  cases ks with
  |nil=>
   cases a<;>cases b<;>simp only [Zu,zg,reduceCtorEq] at he
   subst he
   rfl
  |cons _ _=>simp [qiy] at hf
 |cons f fs ih=>
  intro ks k a b xs ys q hf he ha hb d
  simp only [qiy,zi,beq_iff_eq,bne_iff_ne,ne_eq] at hf
  obtain ⟨⟨h1,h2⟩,h4⟩:=hf
  split at h4
  ·rename_i n hn
   unfold qxL at hn
   split at hn
   ·rename_i gs hgs
    split at hn
    ·rename_i hc
     injection hn with hn
     subst hn
     simp only [zi,zQ,decide_eq_true_eq] at hc
     obtain ⟨⟨⟨⟨c1,c2⟩,c3⟩,c4⟩,c5⟩:=hc
     have hlen:=qkK c1
     have hnk:gs.size≤ks.length:=by
      have hsz:gs.toList.length=gs.size:=by simp
      rw [List.length_take,hsz] at hlen
      omega
     obtain ⟨q1,q2,e1,e2,rfl⟩:=qnh gs.size ks a b q hnk he
     obtain ⟨a1,a2⟩:=qk0 gs.size ha
     obtain ⟨b1,b2⟩:=qk0 gs.size hb
     rw [List.drop_drop] at a2 b2
     obtain ⟨ti,hti⟩:=zM.1 c4
     have px:∀ zs:Array Value,(part f.type zs f.offset).run P w=.ok (.agg (zs.extract k (k+gs.size))) w:=by
      intro zs
      simp [part,qcc c5,run_sizeOf w hti,h1,c3]
     have hF:P.fieldsOf f.type=gs:=by simp [Program.fieldsOf,hgs]
     have tk:∀ zs:Array Value,(zs.extract k (k+gs.size)).toList.drop 0=(zs.toList.drop k).take gs.size:=by
      intro zs
      simp [List.extract_eq_take_drop]
     have hE:(Op.equalIn (d+2) f.type (.agg (xs.extract k (k+gs.size))) (.agg (ys.extract k (k+gs.size)))).run P w=.ok q1 w:=by
      rw [run_equalIn_struct w (d+1) f.type _ _ (by rw [hF];exact hgs) c2,hF]
      exact qkP gs.toList _ 0 _ _ _ _ q1 c1 e1 (by rw [tk];exact a1) (by rw [tk];exact b1) d
     have hr:=ih (ks.drop gs.size) (k+gs.size) _ _ xs ys q2 h4 e2 a2 b2 d
     simp only [Op.eqFields]
     rw [if_pos h2]
     simp only [Sem.run_bind,px,hE,Result.andThen_ok]
     cases q1
     ·rfl
     ·simpa using hr
    ·cases hn
   ·cases hn
  ·cases ks with
   |nil=>cases h4
   |cons fk ks=>
   simp only [zi] at h4
   obtain ⟨h3,h4⟩:=h4
   cases a with
   |nil=>cases fk<;>simp [Zu] at he
   |cons x a=>
   cases b with
   |nil=>cases fk<;>cases x<;>simp [Zu] at he
   |cons y b=>
   simp only [PRepL] at ha hb
   obtain ⟨vx,rx,ex,hx,ha'⟩:=ha
   obtain ⟨vy,ry,ey,hy,hb'⟩:=hb
   have gx:xs[f.offset]?=some vx:=by
    have:(xs.toList.drop k)[0]?=some vx:=by rw [ex];rfl
    rw [yb] at this
    rw [h1]
    simpa using this
   have gy:ys[f.offset]?=some vy:=by
    have:(ys.toList.drop k)[0]?=some vy:=by rw [ey];rfl
    rw [yb] at this
    rw [h1]
    simpa using this
   have dx:xs.toList.drop (k+1)=rx:=by rw [← List.drop_drop,ex];rfl
   have dy:ys.toList.drop (k+1)=ry:=by rw [← List.drop_drop,ey];rfl
   have hag:aggB P f.type false=true:=by
    unfold aggB
    cases fk<;>simp only [fkB] at h3<;>split at h3<;>simp_all
   have px:(part f.type xs f.offset).run P w=.ok vx w:=by simp [part,qcc hag,gx]
   have py:(part f.type ys f.offset).run P w=.ok vy w:=by simp [part,qcc hag,gy]
   obtain ⟨q1,q2,e1,e2,rfl⟩:=qnh 1 (fk :: ks) (x :: a) (y :: b) q (by simp) he
   have hE:=qwl h3 (show Zu [fk] [x] [y]=some q1 by simpa using e1) hx hy (d+1)
   have hr:=ih ks (k+1) a b xs ys q2 h4 (by simpa using e2) (by rw [dx];exact ha') (by rw [dy];exact hb') d
   simp only [Op.eqFields]
   rw [if_pos h2]
   simp only [Sem.run_bind,px,py,hE,Result.andThen_ok]
   cases q1
   ·rfl
   ·simpa using hr
def qwj (P:Program) (t:TypeId) (ks:List FK):Bool:=
 match P.underlying t with
 |some (.struct fs)=>qiy P 0 fs.toList ks && !P.stoodInHeld t && !P.eqGuardType P.depth t
 |_=>false
theorem qvx {neg:Bool} {t t':TypeId} {ks:List FK} {x y:Operand} {x' y':Opd} (ho:o.op=.binOp (if neg then .neq else .eql) t x y t') (ht:qwj P t ks=true) (hx:qaf x x'=true) (hy:qaf y y'=true) {c:Prop} {r:AV}
  (h:Zf fr L (.eqa neg ks x' y')=some (c,r)):Val1 P o fr L c r:=by
 simp only [Zf] at h
 split at h
 ·rename_i cx p cy q ex ey
  obtain ⟨e,e1,e2⟩:=zh.1 h
  simp only [zj] at e2
  obtain ⟨rfl,rfl⟩:=e2
  refine Val1.same fun E B w ι a hs ⟨h1,h2⟩=>⟨.bool (if neg then !e else e),?_,rfl⟩
  obtain ⟨vs,ev,hv⟩:=rdP hs.2.1 hx ex h1
  obtain ⟨us,eu,hu⟩:=rdP hs.2.1 hy ey h2
  unfold qwj at ht
  split at ht
  ·rename_i fs hfs
   simp only [zi,zQ] at ht
   obtain ⟨⟨k1,k2⟩,k3⟩:=ht
   have hF:P.fieldsOf t=fs:=by simp [Program.fieldsOf,hfs]
   have hE:(Op.equal t (.agg vs.toArray) (.agg us.toArray)).run P w=.ok e w:=by
    show (Op.equalIn (9999+1) t _ _).run P w=_
    rw [run_equalIn_struct w 9999 t _ _ (by rw [hF];exact hfs) k2,hF]
    exact qoE fs.toList ks 0 p q _ _ e k1 e1 (by simpa using hv) (by simpa using hu) 9997
   have hG:∀ op:BinOp,(eqGuard op t x y (.agg vs.toArray) (.agg us.toArray)).run P w=.ok () w:=by
    intro op
    unfold eqGuard
    cases op<;>simp [k3]
   simp only [execOp,ho,Sem.run_bind,ev,eu,hG,Result.andThen_ok]
   cases neg
   ·simp only [zK,if_false,binOp,Sem.run_bind,hE,Result.andThen_ok];rfl
   ·simp only [if_true,binOp,Sem.run_bind,hE,Result.andThen_ok];rfl
  ·cases ht
 ·cases h
def qpo (P:Program) (t:TypeId):Bool:=match P.underlying t with|some (.interface _)=>true|_=>false
theorem qjx {t:TypeId} {w:World} {v:Value} {b:Bool} {ms:Array (String×TypeId)} (hm:P.underlying t=some (.interface ms)) (hv:nilI v=some b) (d:Nat):(Op.equalIn (d+1) t v .nilIface).run P w=.ok b w:=by
 cases v<;>simp only [nilI,zg,reduceCtorEq] at hv
 all_goals
  subst hv
  simp only [Op.equalIn,Sem.run_bind,run_underlying hm,Result.andThen_ok]
  rfl
theorem qla {t:TypeId} {w:World} {v:Value} {b:Bool} (ht:qpo P t=true) (hv:nilI v=some b):(Op.equal t v .nilIface).run P w=.ok b w:=by
 unfold qpo at ht
 split at ht
 ·rename_i ms hm
  exact qjx hm hv 9999
 ·cases ht
theorem qk9 {op:BinOp} {t:TypeId} {x:Operand} {v:Value} {b:Bool} {w:World} (hv:nilI v=some b):(eqGuard op t x (.const .nilIface) v .nilIface).run P w=.ok () w:=by
 unfold eqGuard
 cases v<;>simp only [nilI,zg,reduceCtorEq] at hv
 all_goals cases op<;>simp
theorem qvh {neg:Bool} {t t':TypeId} {x:Operand} {x':Opd} (ho:o.op=.binOp (if neg then .neq else .eql) t x (.const .nilIface) t') (ht:qpo P t=true) (hx:qaf x x'=true) {c:Prop} {r:AV}
  (h:Zf fr L (.nli neg x')=some (c,r)):Val1 P o fr L c r:=by
 simp only [Zf] at h
 split at h
 ·rename_i cx v ex
  obtain ⟨b,e1,e2⟩:=zh.1 h
  simp only [zj] at e2
  obtain ⟨rfl,rfl⟩:=e2
  refine Val1.same fun E B w ι a hs h1=>⟨.bool (if neg then !b else b),?_,rfl⟩
  have ev:a.eval x=v:=(rdP hs.2.1 hx ex h1).1
  have e0:a.eval (.const .nilIface)=.nilIface:=rfl
  simp only [execOp,ho,Sem.run_bind,ev,e0,qk9 e1,Result.andThen_ok]
  have hE:=qla (P:=P) (w:=w) ht e1
  cases v<;>simp only [nilI,zg,reduceCtorEq] at e1
  all_goals
   cases neg
   ·simp only [zK,if_false,binOp,Sem.run_bind,hE,Result.andThen_ok];rfl
   ·simp only [if_true,binOp,Sem.run_bind,hE,Result.andThen_ok];rfl
 ·cases h
theorem qvm {t:TypeId} {x:Operand} {x':Opd} (ho:o.op=.makeInterface t x) (ht:P.concrete t=true) (hx:qaf x x'=true) {c:Prop} {r:AV} (h:Zf fr L (.mki t x')=some (c,r)):Val1 P o fr L c r:=by
 simp only [Zf] at h
 split at h
 ·rename_i cx k n ex
  cases h
  refine Val1.same fun E B w ι a hs h1=>⟨.iface t (.int k n),?_,rfl,rfl⟩
  have ev:a.eval x=.int k n:=rdP hs.2.1 hx ex h1
  have e2:=run_makeInterface (P:=P) (w:=w) t (.int k n) ht
  simp only [execOp,ho,ev,Sem.run_bind]
  rw [e2]
  rfl
 ·cases h
end
def updI (ι:Key→Value) (k:Key) (v:Value):Key→Value:=fun j=>if j=k then v else ι j
def Zav (L:Objs) (k:Key) (ao:AO):Objs:=Zat (Zau k L) k ao
section
variable {P:Program} {E:Envt} {B:Base} {w w':World} {L:Objs} {ι:Key→Value} {fr:List AV} {a:Act} {X:Nat→Prop}
theorem qb0 (L:Objs) (k:Key) (ao:AO) (j:Key):Zas (Zav L k ao) j=if j=k then some ao else (Zas L j).map (AO.kill k):=by
 unfold Zav;rw [qag,qkB]
theorem qlt {k:Key} {v:Value} {ao:AO} {b:Nat} (h:Own (Zav L k ao) (updI ι k v) b):blk v=some b∨∃ j q,j≠k∧Zas L j=some q∧blk (ι j)=some b:=by
 obtain ⟨j,q,h1,h2⟩:=h
 rw [qb0] at h1
 unfold updI at h2
 by_cases hj:j=k
 ·rw [if_pos hj] at h2;exact .inl h2
 ·rw [if_neg hj] at h1 h2
  obtain ⟨q',e,_⟩:=zh.1 h1
  exact .inr ⟨j,q',hj,e,h2⟩
def Old (L:Objs) (ι:Key→Value) (k:Key) (b:Nat):Prop:=∃ q,Zas L k=some q∧blk (ι k)=some b
theorem Old.own {k:Key} {b:Nat} (h:Old L ι k b):Own L ι b:=let ⟨q,h1,h2⟩:=h;⟨k,q,h1,h2⟩
theorem ObjOk.other {U U':Nat→Prop} {k j:Key} {v:Value} {ao:AO} (hj:j≠k) (hk:Keeps w w' U U') (hb:∀ b,blk (ι j)=some b→w'.heap[b]?=w.heap[b]?) (h:ObjOk w U ι j ao):ObjOk w' U' (updI ι k v) j (ao.kill k):=by
 rw [AO.kill_mapA]
 exact h.conv (AV.kill k) (by simp [updI,hj]) hb hk (fun hr=>(hr.kill (k:=k) (v:=v)).mono hk)
theorem qa6 (hx:∀ b,X b→b < w.heap.size) {k:Key} {v:Value} {ao:AO} (hG:Grow w w' (Old L ι k)) (hb:∀ b,blk v=some b→w.heap.size≤b∨Old L ι k b) :
  Keeps w w' (fun b=>Own L ι b∨X b) (fun b=>Own (Zav L k ao) (updI ι k v) b∨X b):=by
 intro b hlt hu
 refine ⟨hG.block b hlt (fun h=>hu (.inl h.own)),?_⟩
 rintro (h|h)
 ·rcases qlt h with h|⟨j,q,hj,h1,h2⟩
  ·rcases hb b h with h'|h'
   ·omega
   ·exact hu (.inl h'.own)
  ·exact hu (.inl ⟨j,q,h1,h2⟩)
 ·exact hu (.inr h)
theorem Sim.upd (h:Sim w X L ι) (hx:∀ b,X b→b < w.heap.size) (k:Key) (v:Value) (ao:AO) (hG:Grow w w' (Old L ι k)) (hb:∀ b,blk v=some b→w.heap.size≤b∨Old L ι k b)
  (hobj:ObjOk w' (fun b=>Own (Zav L k ao) (updI ι k v) b∨X b) (updI ι k v) k ao):Sim w' X (Zav L k ao) (updI ι k v):=by
 have hk:=qa6 (ao:=ao) hx hG hb
 constructor
 ·intro j q hj
  rw [qb0] at hj
  by_cases e:j=k
  ·subst e;rw [if_pos rfl] at hj;cases hj;exact hobj
  ·rw [if_neg e] at hj
   obtain ⟨q',h1,rfl⟩:=zh.1 hj
   have ho:=h.obj j q' h1
   refine ObjOk.other e hk (fun b hbj=>hG.block b (ho.blk_lt hbj) ?_) ho
   rintro ⟨qk,h2,h3⟩
   exact e (h.inj j k q' qk b h1 h2 hbj h3)
 ·intro j j' q q' b hj hj' hbj hbj'
  rw [qb0] at hj hj'
  unfold updI at hbj hbj'
  by_cases e:j=k<;>by_cases e':j'=k
  ·rw [e,e']
  ·rw [if_pos e] at hbj
   rw [if_neg e'] at hbj' hj'
   obtain ⟨q2,h1,_⟩:=zh.1 hj'
   rcases hb b hbj with h'|⟨qk,h2,h3⟩
   ·have:=(h.obj j' q2 h1).blk_lt hbj';omega
   ·exact absurd (h.inj j' k q2 qk b h1 h2 hbj' h3) e'
  ·rw [if_pos e'] at hbj'
   rw [if_neg e] at hbj hj
   obtain ⟨q2,h1,_⟩:=zh.1 hj
   rcases hb b hbj' with h'|⟨qk,h2,h3⟩
   ·have:=(h.obj j q2 h1).blk_lt hbj;omega
   ·exact absurd (h.inj j k q2 qk b h1 h2 hbj h3) e
  ·rw [if_neg e] at hbj hj
   rw [if_neg e'] at hbj' hj'
   obtain ⟨q2,h1,_⟩:=zh.1 hj
   obtain ⟨q3,h2,_⟩:=zh.1 hj'
   exact h.inj j j' q2 q3 b h1 h2 hbj hbj'
theorem St.x_lt (h:St E B w L ι) {b:Nat} (hb:B.X b):b < w.heap.size:=Nat.lt_of_lt_of_le (h.xlt b hb) h.grow.size
theorem StF.upd (hs:StF E B w L ι fr a) (i:Nat) (v:Value) (ao:AO) (hG:Grow w w' (Old L ι (.l i))) (hb:∀ b,blk v=some b→w.heap.size≤b∨Old L ι (.l i) b)
  (hobj:ObjOk w' (fun b=>Own (Zav L (.l i) ao) (updI ι (.l i) v) b∨B.X b) (updI ι (.l i) v) (.l i) ao):StF E B w' (Zav L (.l i) ao) (updI ι (.l i) v) (fr.map (·.kill (.l i))) a:=by
 obtain ⟨h,hf,hd⟩:=hs
 have hk:=qa6 (ao:=ao) (fun b hb=>h.x_lt hb) hG hb
 have hown:∀ b,Own (Zav L (.l i) ao) (updI ι (.l i) v) b→Own B.L0 B.i0 b∨B.w0.heap.size≤b:=by
  intro b hb'
  rcases qlt hb' with h'|⟨j,q,hj,h1,h2⟩
  ·rcases hb b h' with h''|h''
   ·exact .inr (zt h.grow.size h'')
   ·exact h.own b h''.own
  ·exact h.own b ⟨j,q,h1,h2⟩
 refine ⟨⟨h.grow.trans hG (fun b hb=>h.own b hb.own),h.sim.upd (fun b hb=>h.x_lt hb) _ v ao hG hb hobj,hown,h.xlt,fun j h0 h1=>?_,?_,h.envb,h.loc,h.xdis⟩,⟨by simpa using hf.1,fun i' x hx=>?_⟩,hd⟩
 ·rw [qb0] at h1
  by_cases e:j=.l i
  ·subst e;rw [h.loc i] at h0;cases h0
  ·rw [if_neg e] at h1
   have:(Zas L j).isSome=true:=by simpa using h1
   simp [updI,e,h.keep j h0 this]
 ·refine E.mono w w' (fun b hb=>hG.block b (Nat.lt_of_lt_of_le (h.envb b hb).1 h.grow.size) (fun ho=>?_)) h.env
  rcases h.own b ho.own with h'|h'
  ·exact (h.envb b hb).2 h'
  ·have:=(h.envb b hb).1;omega
 ·rw [zy,zh] at hx
  obtain ⟨y,hy,rfl⟩:=hx
  obtain ⟨u,hu,hr⟩:=hf.2 i' y hy
  exact ⟨u,hu,(hr.kill (k:=.l i) (v:=v)).mono hk⟩
set_option maxHeartbeats 2000000 in
theorem StF.wr (hs:StF E B w L ι fr a) (k:Key) (ao ao':AO) (hl:Zas L k=some ao) (hG:Grow w w' (Old L ι k))
  (hobj:ObjOk w' (fun b=>Own (Zat L k ao') ι b∨B.X b) ι k ao'):StF E B w' (Zat L k ao') ι fr a:=by
 obtain ⟨h,hf,hd⟩:=hs
 have hown:∀ b,Own (Zat L k ao') ι b↔Own L ι b:=by
  intro b
  constructor
  ·rintro ⟨j,q,h1,h2⟩
   rw [qag] at h1
   by_cases e:j=k
   ·subst e;exact ⟨j,ao,hl,h2⟩
   ·rw [if_neg e] at h1;exact ⟨j,q,h1,h2⟩
  ·rintro ⟨j,q,h1,h2⟩
   by_cases e:j=k
   ·exact ⟨j,ao',by rw [qag,if_pos e],h2⟩
   ·exact ⟨j,q,by rw [qag,if_neg e];exact h1,h2⟩
 have hk:Keeps w w' (fun b=>Own L ι b∨B.X b) (fun b=>Own (Zat L k ao') ι b∨B.X b):=by
  intro b hlt hu
  refine ⟨hG.block b hlt (fun h=>hu (.inl h.own)),fun h=>hu ?_⟩
  simpa [hown b] using h
 have hii:∀ v',v'=ι k→updI ι k v'=ι:=by
  intro v' e;funext j;simp only [updI];split
  ·rename_i e';rw [e,e']
  ·rfl
 refine ⟨⟨h.grow.trans hG (fun b hb=>h.own b hb.own),⟨fun j q hj=>?_,fun j j' q q' b hj hj' hbj hbj'=>?_⟩,fun b hb=>h.own b ((hown b).1 hb),h.xlt,fun j h0 h1=>?_,?_,h.envb,h.loc,h.xdis⟩,hf.mono hk,hd⟩
 ·rw [qag] at hj
  by_cases e:j=k
  ·subst e;rw [if_pos rfl] at hj;cases hj;exact hobj
  ·rw [if_neg e] at hj
   have ho:=h.sim.obj j q hj
   have hbb:∀ b,blk (ι j)=some b→w'.heap[b]?=w.heap[b]?:=fun b hbj=>hG.block b (ho.blk_lt hbj) (by rintro ⟨qk,h2,h3⟩;exact e (h.sim.inj j k q qk b hj h2 hbj h3))
   exact ho.mono hk hbb
 ·rw [qag] at hj hj'
  have f1:∃ q,Zas L j=some q:=by by_cases e:j=k;exact ⟨ao,by rw [e];exact hl⟩;rw [if_neg e] at hj;exact ⟨q,hj⟩
  have f2:∃ q,Zas L j'=some q:=by by_cases e:j'=k;exact ⟨ao,by rw [e];exact hl⟩;rw [if_neg e] at hj';exact ⟨q',hj'⟩
  obtain ⟨q1,f1⟩:=f1
  obtain ⟨q2,f2⟩:=f2
  exact h.sim.inj j j' q1 q2 b f1 f2 hbj hbj'
 ·refine h.keep j h0 ?_
  rw [qag] at h1
  by_cases e:j=k
  ·rw [e,hl];rfl
  ·rw [if_neg e] at h1;exact h1
 ·refine E.mono w w' (fun b hb=>hG.block b (Nat.lt_of_lt_of_le (h.envb b hb).1 h.grow.size) (fun ho=>?_)) h.env
  rcases h.own b ho.own with h'|h'
  ·exact (h.envb b hb).2 h'
  ·have:=(h.envb b hb).1;omega
theorem StF.grown (hs:StF E B w L ι fr a) (hG:Grow w w' (fun _=>False)):StF E B w' L ι fr a:=by
 obtain ⟨h,hf,hd⟩:=hs
 have hk:Keeps w w' (fun b=>Own L ι b∨B.X b) (fun b=>Own L ι b∨B.X b):=fun b hlt hu=>⟨hG.block b hlt (fun h=>h),hu⟩
 refine ⟨⟨h.grow.trans hG (fun b hb=>hb.elim),⟨fun j q hj=>?_,h.sim.inj⟩,h.own,h.xlt,h.keep,E.mono w w' (fun b hb=>hG.block b (Nat.lt_of_lt_of_le (h.envb b hb).1 h.grow.size) (fun h=>h)) h.env,h.envb,h.loc,h.xdis⟩,hf.mono hk,hd⟩
 have ho:=h.sim.obj j q hj
 exact ho.mono hk (fun b hbj=>hG.block b (ho.blk_lt hbj) (fun h=>h))
set_option maxHeartbeats 2000000 in
theorem StF.wrupd (hs:StF E B w L ι fr a) (i:Nat) (k:Key) (hki:k≠.l i) (ao ao' row:AO) (hl:Zas L k=some ao) (v:Value) (hG:Grow w w' (Old L ι k)) (hv:∀ b,blk v=some b→w.heap.size≤b)
  (hbox:ObjOk w' (fun b=>Own (Zav (Zat L k ao') (.l i) row) (updI ι (.l i) v) b∨B.X b) (updI ι (.l i) v) k (ao'.kill (.l i))) (hrow:ObjOk w' (fun b=>Own (Zav (Zat L k ao') (.l i) row) (updI ι (.l i) v) b∨B.X b) (updI ι (.l i) v) (.l i) row) :
  StF E B w' (Zav (Zat L k ao') (.l i) row) (updI ι (.l i) v) (fr.map (·.kill (.l i))) a:=by
 obtain ⟨h,hf,hd⟩:=hs
 have hlk:∀ j,Zas (Zav (Zat L k ao') (.l i) row) j=if j=.l i then some row else if j=k then some (ao'.kill (.l i)) else (Zas L j).map (AO.kill (.l i)):=by
  intro j
  rw [qb0,qag]
  by_cases e:j=.l i
  ·rw [if_pos e,if_pos e]
  ·rw [if_neg e,if_neg e]
   by_cases e':j=k
   ·rw [if_pos e',if_pos e'];rfl
   ·rw [if_neg e',if_neg e']
 have hO:∀ b,Own (Zav (Zat L k ao') (.l i) row) (updI ι (.l i) v) b→blk v=some b∨Own L ι b:=by
  rintro b ⟨j,q,e1,e2⟩
  rw [hlk] at e1
  unfold updI at e2
  by_cases e:j=.l i
  ·rw [if_pos e] at e2;exact .inl e2
  ·rw [if_neg e] at e1 e2
   by_cases e':j=k
   ·exact .inr ⟨k,ao,hl,by rw [← e'];exact e2⟩
   ·rw [if_neg e'] at e1
    obtain ⟨q',e3,_⟩:=zh.1 e1
    exact .inr ⟨j,q',e3,e2⟩
 have hk:Keeps w w' (fun b=>Own L ι b∨B.X b) (fun b=>Own (Zav (Zat L k ao') (.l i) row) (updI ι (.l i) v) b∨B.X b):=by
  intro b hlt hu
  refine ⟨hG.block b hlt (fun h=>hu (.inl h.own)),?_⟩
  rintro (h'|h')
  ·rcases hO b h' with h''|h''
   ·have:=hv b h'';omega
   ·exact hu (.inl h'')
  ·exact hu (.inr h')
 have hblk:∀ j q,Zas L j=some q→∀ b,blk (ι j)=some b→b < w.heap.size:=fun j q hj b hb=>(h.sim.obj j q hj).blk_lt hb
 refine ⟨⟨h.grow.trans hG (fun b hb=>h.own b hb.own),⟨fun j q hj=>?_,fun j j' q q' b hj hj' hbj hbj'=>?_⟩,fun b hb=>?_,h.xlt,fun j h0 h1=>?_,?_,h.envb,h.loc,h.xdis⟩,⟨by simpa using hf.1,fun i' x hx=>?_⟩,hd⟩
 ·rw [hlk] at hj
  by_cases e:j=.l i
  ·rw [if_pos e] at hj;cases hj;subst e;exact hrow
  ·rw [if_neg e] at hj
   by_cases e':j=k
   ·rw [if_pos e'] at hj;cases hj;subst e';exact hbox
   ·rw [if_neg e'] at hj
    obtain ⟨q',h1,rfl⟩:=zh.1 hj
    have ho:=h.sim.obj j q' h1
    refine ObjOk.other e hk (fun b hbj=>hG.block b (ho.blk_lt hbj) ?_) ho
    rintro ⟨qk,h2,h3⟩
    exact e' (h.sim.inj j k q' qk b h1 h2 hbj h3)
 ·rw [hlk] at hj hj'
  unfold updI at hbj hbj'
  have old:∀ j q,j≠.l i→(if j=.l i then some row else if j=k then some (ao'.kill (.l i)) else (Zas L j).map (AO.kill (.l i)))=some q→∃ q',Zas L j=some q':=by
   intro j q e hj
   rw [if_neg e] at hj
   by_cases e':j=k
   ·exact ⟨ao,by rw [e'];exact hl⟩
   ·rw [if_neg e'] at hj
    obtain ⟨q',h1,_⟩:=zh.1 hj
    exact ⟨q',h1⟩
  by_cases e:j=.l i<;>by_cases e':j'=.l i
  ·rw [e,e']
  ·rw [if_pos e] at hbj
   rw [if_neg e'] at hbj'
   obtain ⟨q2,h2⟩:=old j' q' e' hj'
   have:=hv b hbj
   have:=hblk j' q2 h2 b hbj'
   omega
  ·rw [if_pos e'] at hbj'
   rw [if_neg e] at hbj
   obtain ⟨q2,h2⟩:=old j q e hj
   have:=hv b hbj'
   have:=hblk j q2 h2 b hbj
   omega
  ·rw [if_neg e] at hbj
   rw [if_neg e'] at hbj'
   obtain ⟨q2,h2⟩:=old j q e hj
   obtain ⟨q3,h3⟩:=old j' q' e' hj'
   exact h.sim.inj j j' q2 q3 b h2 h3 hbj hbj'
 ·rcases hO b hb with h'|h'
  ·exact .inr (zt h.grow.size (hv b h'))
  ·exact h.own b h'
 ·rw [hlk] at h1
  by_cases e:j=.l i
  ·subst e;rw [h.loc i] at h0;cases h0
  ·rw [if_neg e] at h1
   have hj:(Zas L j).isSome=true:=by
    by_cases e':j=k
    ·rw [e',hl];rfl
    ·rw [if_neg e'] at h1;simpa using h1
   simp [updI,e,h.keep j h0 hj]
 ·refine E.mono w w' (fun b hb=>hG.block b (Nat.lt_of_lt_of_le (h.envb b hb).1 h.grow.size) (fun ho=>?_)) h.env
  rcases h.own b ho.own with h'|h'
  ·exact (h.envb b hb).2 h'
  ·have:=(h.envb b hb).1;omega
 ·rw [zy,zh] at hx
  obtain ⟨y,hy,rfl⟩:=hx
  obtain ⟨u,hu,hr⟩:=hf.2 i' y hy
  exact ⟨u,hu,(hr.kill (k:=.l i) (v:=v)).mono hk⟩
end
def Zak (k:Key) (y:PV):CV→CV
 |.p p=>.p p
 |.row k'=>if k'=k then .p y else .row k'
 |.mp k'=>if k'=k then .p y else .mp k'
def Zax (y:PV) (z i o:Nat):AV:=
 match y with
 |.sl z' es=>if z=z' then .ipt z' es i o else .any
 |_=>.any
def thaw_P (y:PV) (o:Nat):AV:=
 match y with
 |.ptr cs=>if o=0 then .p (.ptr cs) else .any
 |_=>.any
def AV.thaw (k:Key) (y:PV):AV→AV
 |.row k'=>if k'=k then .p y else .row k'
 |.rad k' z' i o=>if k'=k then Zax y z' i o else .rad k' z' i o
 |.g c a=>.g c (a.thaw k y)
 |.adr k' o=>if k'=k then thaw_P y o else .adr k' o
 |.mp k'=>if k'=k then .p y else .mp k'
 |.fn f ks=>if k∈ks then .any else .fn f ks
 |.p x=>.p x
 |.ipt z es i o=>.ipt z es i o
 |.ag cs=>.ag (cs.map (Zak k y))
 |.tr k' ps=>if k'=k then .p (.tup (y :: ps)) else .tr k' ps
 |.any=>.any
def AO.thaw (k:Key) (y:PV):AO→AO
 |.box cs t=>.box (cs.map (·.thaw k y)) t
 |.row es e z ap=>.row es e z ap
 |.mapg κ kv a b=>.mapg κ kv a b
 |.rowv es' e' z'=>.rowv (es'.map (·.map (·.thaw k y))) e' z'
 |.mapv kv a b=>.mapv (kv.map fun p=>(p.1,p.2.thaw k y)) a b
 |.mit last kv=>.mit last kv
theorem AO.thaw_mapA (k:Key) (y:PV) (ao:AO):ao.thaw k y=ao.mapA (AV.thaw k y):=by cases ao<;>rfl
def Zaw (k:Key) (y:PV):Objs→Objs
 |[]=>[]
 |(k',a) :: r=>if k'=k then Zaw k y r else (k',a.thaw k y) :: Zaw k y r
theorem qgx (k:Key) (y:PV) (L:Objs) (j:Key):Zas (Zaw k y L) j=if j=k then none else (Zas L j).map (AO.thaw k y):=by
 induction L with
 |nil=>simp [Zaw,Zas]
 |cons x r ih=>
  obtain ⟨k',q⟩:=x
  simp only [Zaw]
  by_cases h:k'=k
  ·subst h;rw [if_pos rfl,ih];simp only [Zas];by_cases hj:j=k'
   ·simp [hj]
   ·rw [if_neg hj,if_neg (Ne.symm hj),if_neg hj]
  ·rw [if_neg h];simp only [Zas,ih]
   by_cases hj:k'=j
   ·subst hj;simp [h]
   ·simp [hj]
theorem qk3 {k:Key} {y:PV} {a:AO}:∀ {L:Objs},(Zas L k).isSome=true→Zaw k y (Zat L k a)=Zaw k y L
 |[],h=>by simp [Zas] at h
 |(k',q) :: r,h=>by
  simp only [Zat]
  by_cases e:k'=k
  ·rw [if_pos e];simp only [Zaw,if_pos e]
  ·rw [if_neg e]
   simp only [Zas,if_neg e] at h
   simp only [Zaw,if_neg e,qk3 h]
def Zaz:AV→Option PV
 |.p x=>some (wk1 x)
 |_=>none
def Zba:List AV→Option (List PV)
 |[]=>some []
 |x :: r=>match Zaz x,Zba r with
  |some y,some l=>some (y :: l)
  |_,_=>none
def Zbb:List (List AV)→Option (List (List PV))
 |[]=>some []
 |x :: r=>match Zba x,Zbb r with
  |some y,some l=>some (y :: l)
  |_,_=>none
def Zbc:List (List UInt8×AV)→Option (List (List UInt8×PV))
 |[]=>some []
 |x :: r=>match Zaz x.2,Zbc r with
  |some y,some l=>some ((x.1,y) :: l)
  |_,_=>none
section
variable {P:Program} {E:Envt} {B:Base} {w w':World} {L:Objs} {ι:Key→Value} {fr:List AV} {a:Act} {X:Nat→Prop} {o:Oper}
theorem qh1 {z:Nat}:∀ (es:List (List AV)),(∀ x∈es,x.length=z)→es.flatten.length=es.length * z:=by
 intro es
 induction es with
 |nil=>intro _;simp
 |cons x r ih=>
  intro h
  rw [zH,zm,ih (fun y hy=>h y (by simp [hy])),h x (by simp),zl,yi]
  omega
theorem qrj {U:Nat→Prop} {x:AV} {y:PV} {v:Value} (h:Zaz x=some y) (hr:ARep w U ι x v):PRep w U y v:=by
 unfold Zaz at h
 split at h
 ·cases h;exact PRep.wk1 hr
 ·cases h
theorem qod:∀ {xs:List AV} {ys:List PV},Zba xs=some ys→ys.length=xs.length∧∀ (j:Nat) (y:PV),ys[j]?=some y→∃ x,xs[j]?=some x∧Zaz x=some y
 |[],ys,h=>by simp only [Zba,zg] at h;subst h;simp
 |x :: r,ys,h=>by
  simp only [Zba] at h
  split at h
  ·rename_i y l e1 e2
   cases h
   obtain ⟨h1,h2⟩:=qod e2
   refine ⟨by simp [h1],fun j q hq=>?_⟩
   cases j with
   |zero=>simp at hq;subst hq;exact ⟨x,rfl,e1⟩
   |succ j=>simpa using h2 j q (by simpa using hq)
  ·cases h
theorem qkw:∀ {xs xs':List AV} {ys ys':List PV},Zba xs=some ys→Zba xs'=some ys'→Zba (xs++xs')=some (ys++ys')
 |[],xs',ys,ys',h,h'=>by simp only [Zba,zg] at h;subst h;simpa using h'
 |x :: r,xs',ys,ys',h,h'=>by
  simp only [Zba] at h
  split at h
  ·rename_i y l e1 e2
   cases h
   simp [Zba,e1,qkw e2 h']
  ·cases h
theorem qmV:∀ {xs:List (List AV)} {ys:List (List PV)},Zbb xs=some ys→Zba xs.flatten=some ys.flatten∧ys.length=xs.length∧∀ z,(∀ x∈xs,x.length=z)→∀ y∈ys,y.length=z
 |[],ys,h=>by simp only [Zbb,zg] at h;subst h;simp [Zba]
 |x :: r,ys,h=>by
  simp only [Zbb] at h
  split at h
  ·rename_i y l e1 e2
   cases h
   obtain ⟨h1,h2,h3⟩:=qmV e2
   refine ⟨by simpa using qkw e1 h1,by simp [h2],fun z hz q hq=>?_⟩
   rcases zG.1 hq with rfl|hq
   ·rw [(qod e1).1];exact hz x (by simp)
   ·exact h3 z (fun x' hx=>hz x' (by simp [hx])) q hq
  ·cases h
theorem qpd:∀ {xs:List (List UInt8×AV)} {ys:List (List UInt8×PV)},Zbc xs=some ys→ys.map (·.1)=xs.map (·.1)∧∀ (j:Nat) (y:List UInt8×PV),ys[j]?=some y→∃ x,xs[j]?=some x∧Zaz x.2=some y.2
 |[],ys,h=>by simp only [Zbc,zg] at h;subst h;simp
 |x :: r,ys,h=>by
  simp only [Zbc] at h
  split at h
  ·rename_i y l e1 e2
   cases h
   obtain ⟨h1,h2⟩:=qpd e2
   refine ⟨by simp [h1],fun j q hq=>?_⟩
   cases j with
   |zero=>simp at hq;subst hq;exact ⟨x,rfl,e1⟩
   |succ j=>simpa using h2 j q (by simpa using hq)
  ·cases h
theorem ObjOk.plain {U:Nat→Prop} {k:Key} {es:List (List AV)} {es':List (List PV)} {e z:Nat} (hp:Zbb es=some es') (h:ObjOk w U ι k (.rowv es e z)):ObjOk w U ι k (.row es' e z true):=by
 obtain ⟨vs,h1,h2,h3,h4⟩:=h
 obtain ⟨g1,g2,g3⟩:=qmV hp
 obtain ⟨q1,q2⟩:=qod g1
 refine ⟨vs,by rw [g2];exact h1,h2,PRepL.of_get ?_ (fun j x u hx hu=>?_),fun x hx=>g3 z h3 x hx⟩
 ·rw [q1,qh1 es h3];exact h1.1
 ·obtain ⟨x0,e1,e2⟩:=q2 j x hx
  obtain ⟨u',hu',hr⟩:=h4 j x0 e1
  rw [hu'] at hu
  cases hu
  exact qrj e2 hr
theorem ObjOk.plainM {U:Nat→Prop} {k:Key} {kv:List (List UInt8×AV)} {kv':List (List UInt8×PV)} {kt et:Nat} (hp:Zbc kv=some kv') (h:ObjOk w U ι k (.mapv kv kt et)):ObjOk w U ι k (.map kv' kt et):=by
 obtain ⟨r,ents,cl,e1,e2,e3,e4,e5⟩:=h
 obtain ⟨q1,q2⟩:=qpd hp
 have hl:ents.toList.length=kv.length:=by have:=congrArg List.length e3;simpa using this
 have hl':kv'.length=kv.length:=by have:=congrArg List.length q1;simpa using this
 refine ⟨r,ents,cl,e1,e2,⟨?_,PRepL.of_get (by simp only [zN];omega) (fun j x u hx hu=>?_),fun _ _=>trivial⟩,e4⟩
 ·rw [e3]
  show _=kv'.map fun p=>Value.string ⟨p.1.toArray⟩
  have:∀ (l:List (List UInt8×AV)),(l.map fun p=>(Value.string ⟨p.1.toArray⟩))=(l.map (·.1)).map fun s=>Value.string ⟨s.toArray⟩:=fun l=>by rw [List.map_map];rfl
  rw [this,← q1,List.map_map]
  rfl
 ·rw [zy,zh] at hx hu
  obtain ⟨y,hy,rfl⟩:=hx
  obtain ⟨e,he,rfl⟩:=hu
  obtain ⟨x0,g1,g2⟩:=q2 j y hy
  obtain ⟨e',he',hr⟩:=e5 j x0 g1
  rw [he'] at he
  cases he
  exact qrj g2 hr
theorem StF.retell (hs:StF E B w L ι fr a) (k:Key) (ao ao':AO) (hl:Zas L k=some ao) (h:∀ U:Nat→Prop,ObjOk w U ι k ao→ObjOk w U ι k ao'):StF E B w (Zat L k ao') ι fr a:=by
 have hO:∀ b,Own (Zat L k ao') ι b→Own L ι b:=by
  rintro b ⟨j,q,h1,h2⟩
  rw [qag] at h1
  by_cases e:j=k
  ·subst e;exact ⟨j,ao,hl,h2⟩
  ·rw [if_neg e] at h1;exact ⟨j,q,h1,h2⟩
 have hobj:=h _ (hs.1.sim.obj k ao hl)
 exact hs.wr k ao ao' hl (Grow.refl _ _) (hobj.mono (fun b _ hu=>⟨rfl,fun hx=>hu (hx.imp (hO b) id)⟩) (fun _ _=>rfl))
set_option maxHeartbeats 2000000 in
theorem ARep.thaw {U U':Nat→Prop} {k:Key} {y:PV} (hk:Keeps w w U U') (hy:PRep w U' y (ι k)) (hcells:∀ z es b n c,y=.sl z es→ι k=.slice (some ⟨b,0,none⟩) n c→b < w.heap.size∧¬ U' b∧PRepE w U' b z 0 es) :
  ∀ {x:AV} {u:Value},ARep w U ι x u→ARep w U' ι (x.thaw k y) u
 |.p x,u,h=>PRep.mono hk x u h
 |.row k',u,h=>by
  simp only [AV.thaw];split
  ·rename_i e1
   subst e1
   obtain ⟨rfl,_⟩:=h
   exact hy
  ·exact h
 |.adr k' o,u,h=>by
  simp only [AV.thaw];split
  ·rename_i e1
   subst e1
   unfold thaw_P
   split
   ·split
    ·rename_i e2
     subst e2
     obtain ⟨b,e3,e4⟩:=h
     rw [e4,← e3]
     exact hy
    ·trivial
   ·trivial
  ·exact h
 |.rad k' z' i o,u,h=>by
  simp only [AV.thaw];split
  ·rename_i e1
   subst e1
   unfold Zax
   split
   ·split
    ·rename_i z es e2
     subst e2
     obtain ⟨b,n,c,h1,h2⟩:=h
     obtain ⟨g1,g2,g3⟩:=hcells _ _ b n c rfl h1
     exact ⟨b,0,by rw [h2,Nat.zero_add],g1,g2,g3⟩
    ·trivial
   ·trivial
  ·exact h
 |.ipt z es i o,u,h=>by
  obtain ⟨b,o',e,hb,hu,hE⟩:=h
  exact ⟨b,o',e,hk.lt hb hu,(hk b hb hu).2,PRepE.mono hk b hb hu z es o' hE⟩
 |.mp k',u,h=>by
  simp only [AV.thaw];split
  ·rename_i e1
   subst e1
   obtain ⟨rfl,_⟩:=h
   exact hy
  ·exact h
 |.fn f ks,u,h=>by
  simp only [AV.thaw];split
  ·trivial
  ·exact h
 |.g c a,u,h=>⟨fun hc=>ARep.thaw hk hy hcells (x:=a) (h.1 hc),h.2⟩
 |.ag cs,u,h=>by
  obtain ⟨vs,e,hl,hr⟩:=h
  refine ⟨vs,e,by simpa using hl,fun j x hx=>?_⟩
  rw [zy,zh] at hx
  obtain ⟨x0,hx0,rfl⟩:=hx
  obtain ⟨v',h1,h2,h3⟩:=hr j x0 hx0
  refine ⟨v',h1,h2,?_⟩
  cases x0 with
  |p p=>exact PRep.mono hk p v' h3
  |row k'=>
   simp only [Zak];split
   ·rename_i e1
    subst e1
    obtain ⟨rfl,_⟩:=h3
    exact hy
   ·exact h3
  |mp k'=>
   simp only [Zak];split
   ·rename_i e1
    subst e1
    obtain ⟨rfl,_⟩:=h3
    exact hy
   ·exact h3
 |.tr k' ps,u,h=>by
  obtain ⟨vs,e,hs,hr⟩:=h
  simp only [AV.thaw];split
  ·rename_i e1
   subst e1
   exact ⟨_,e,_,_,rfl,hy,PRepL.mono hk ps vs hr⟩
  ·exact ⟨vs,e,hs,PRepL.mono hk ps vs hr⟩
 |.any,u,h=>trivial
theorem qlu {k:Key} {y:PV} {b:Nat} (h:Own (Zaw k y L) ι b):∃ j q,j≠k∧Zas L j=some q∧blk (ι j)=some b:=by
 obtain ⟨j,q,h1,h2⟩:=h
 rw [qgx] at h1
 by_cases e:j=k
 ·rw [if_pos e] at h1;cases h1
 ·rw [if_neg e] at h1
  obtain ⟨q',h3,_⟩:=zh.1 h1
  exact ⟨j,q',e,h3,h2⟩
theorem qgq (k:Key) (y:PV):Keeps w w (fun b=>Own L ι b∨X b) (fun b=>Own (Zaw k y L) ι b∨X b):=fun b _ hu=>⟨rfl,fun h=>hu (h.imp (fun h=>let ⟨j,q,_,h1,h2⟩:=qlu h;⟨j,q,h1,h2⟩) id)⟩
theorem qk4 (hs:StF E B w L ι fr a) {k:Key} {ao:AO} (hl:Zas L k=some ao) (y:PV) {b:Nat} (hb:blk (ι k)=some b):b < w.heap.size∧¬ (Own (Zaw k y L) ι b∨B.X b):=by
 have hOb:Own L ι b:=⟨k,_,hl,hb⟩
 refine ⟨qbb hs.1.sim hOb,?_⟩
 rintro (h|hx)
 ·obtain ⟨j,q,e,h1,h2⟩:=qlu h
  exact e (hs.1.sim.inj j k q _ b h1 hl h2 hb)
 ·rcases hs.1.own b hOb with h'|h'
  ·exact hs.1.xdis b hx h'
  ·have:=hs.1.xlt b hx;omega
theorem StF.thawG (hs:StF E B w L ι fr a) {k:Key} {ao:AO} (hl:Zas L k=some ao) (y:PV) (hy:PRep w (fun b=>Own (Zaw k y L) ι b∨B.X b) y (ι k)) (hcells:∀ z es b n c,y=.sl z es→ι k=.slice (some ⟨b,0,none⟩) n c→b < w.heap.size∧¬ (Own (Zaw k y L) ι b∨B.X b)∧PRepE w (fun b=>Own (Zaw k y L) ι b∨B.X b) b z 0 es):StF E B w (Zaw k y L) ι (fr.map (·.thaw k y)) a:=by
 obtain ⟨h,hf,hd⟩:=hs
 have hk:Keeps w w (fun b=>Own L ι b∨B.X b) (fun b=>Own (Zaw k y L) ι b∨B.X b):=qgq k y
 have hth:=fun {x:AV} {u:Value}=>ARep.thaw (x:=x) (u:=u) hk hy hcells
 refine ⟨⟨h.grow,⟨fun j q hj=>?_,fun j j' q q' b hj hj' hbj hbj'=>?_⟩,fun b hb=>let ⟨j,q,_,h1,h2⟩:=qlu hb;h.own b ⟨j,q,h1,h2⟩,h.xlt,fun j h0 h1=>?_,h.env,h.envb,h.loc,h.xdis⟩,⟨by simpa using hf.1,fun i x hx=>?_⟩,hd⟩
 ·rw [qgx] at hj
  by_cases e:j=k
  ·rw [if_pos e] at hj;cases hj
  ·rw [if_neg e] at hj
   obtain ⟨q',h1,rfl⟩:=zh.1 hj
   rw [AO.thaw_mapA]
   exact (h.sim.obj j q' h1).conv _ rfl (fun _ _=>rfl) hk (fun hr=>hth hr)
 ·rw [qgx] at hj hj'
  by_cases e:j=k
  ·rw [if_pos e] at hj;cases hj
  by_cases e':j'=k
  ·rw [if_pos e'] at hj';cases hj'
  rw [if_neg e] at hj
  rw [if_neg e'] at hj'
  obtain ⟨q1,h1,_⟩:=zh.1 hj
  obtain ⟨q2,h2,_⟩:=zh.1 hj'
  exact h.sim.inj j j' q1 q2 b h1 h2 hbj hbj'
 ·rw [qgx] at h1
  by_cases e:j=k
  ·rw [if_pos e] at h1;cases h1
  ·rw [if_neg e] at h1
   exact h.keep j h0 (by simpa using h1)
 ·rw [zy,zh] at hx
  obtain ⟨y,hy,rfl⟩:=hx
  obtain ⟨u,hu,hr⟩:=hf.2 i y hy
  exact ⟨u,hu,hth hr⟩
theorem StF.thaw (hs:StF E B w L ι fr a) {k:Key} {es:List (List PV)} {e:TypeId} {z:Nat} {ap:Bool} (hl:Zas L k=some (.row es e z ap)):StF E B w (Zaw k (.sl z es) L) ι (fr.map (·.thaw k (.sl z es))) a:=by
 have hk:Keeps w w (fun b=>Own L ι b∨B.X b) (fun b=>Own (Zaw k (.sl z es) L) ι b∨B.X b):=qgq k _
 obtain ⟨vs,hrow,_⟩:=hs.1.sim.obj k _ hl
 have hcells:∀ b n c,ι k=.slice (some ⟨b,0,none⟩) n c→b < w.heap.size∧¬ (Own (Zaw k (.sl z es) L) ι b∨B.X b)∧PRepE w (fun b=>Own (Zaw k (.sl z es) L) ι b∨B.X b) b z 0 es:=by
  intro b n c hi
  obtain ⟨hlt,hnot⟩:=qk4 hs hl (.sl z es) (b:=b) (by rw [hi];rfl)
  have hE:=qfC hs.1.sim hl hi
  refine ⟨hlt,hnot,?_⟩
  have key:∀ (es':List (List PV)) (off:Nat),PRepE w (fun b=>Own L ι b∨B.X b) b z off es'→PRepE w (fun b=>Own (Zaw k (.sl z es) L) ι b∨B.X b) b z off es':=by
   intro es'
   induction es' with
   |nil=>intro off _;simp [PRepE]
   |cons x r ih=>
    intro off hh
    simp only [PRepE] at hh ⊢
    refine ⟨hh.1,?_,ih _ hh.2.2⟩
    obtain ⟨us,a1,a2,a3⟩:=hh.2.1.vals
    exact PRepC.of (PRepL.mono hk _ _ a1) a2 a3
  exact key es 0 hE
 refine hs.thawG hl _ ?_ (fun z' es' b n c e hi=>by cases e;exact hcells b n c hi)
 rcases hrow.2 with ⟨g1,g2⟩|⟨g,cap,cur,fz,g1,_,g3,_⟩
 ·exact ⟨none,0,by rw [g1,g2],by omega,fun hne=>absurd (zq g2) hne⟩
 ·exact ⟨_,cap,g1,g3,fun _=>⟨g,0,rfl,hcells g _ _ g1⟩⟩
theorem StF.thawM (hs:StF E B w L ι fr a) {k:Key} {κ:KK} {kv:List (List UInt8×PV)} {kt et:TypeId} (hl:Zas L k=some (.mapg κ kv kt et)):StF E B w (Zaw k (.mpg κ (kv.map (·.1)) (kv.map (·.2))) L) ι (fr.map (·.thaw k (.mpg κ (kv.map (·.1)) (kv.map (·.2))))) a:=by
 obtain ⟨r,ents,cl,e1,e2,e3,e4⟩:=hs.1.sim.obj k _ hl
 obtain ⟨hlt,hnot⟩:=qk4 hs hl (.mpg κ (kv.map (·.1)) (kv.map (·.2))) (b:=r) (by rw [e1];rfl)
 refine hs.thawG hl _ ⟨r,e1,hlt,hnot,ents,cl,e2,⟨by rw [e3.1,List.map_map];rfl,e4,fun s hs=>?_⟩,PRepL.mono (qgq k _) _ _ e3.2.1⟩ (fun z' es b n c e hi=>by cases e)
 obtain ⟨p,hp,rfl⟩:=List.mem_map.1 hs
 exact e3.2.2 p hp
theorem StF.thawB (hs:StF E B w L ι fr a) {k:Key} {cs:List PV} {t:TypeId} (hl:Zas L k=some (.box (cs.map .p) t)):StF E B w (Zaw k (.ptr cs) L) ι (fr.map (·.thaw k (.ptr cs))) a:=by
 obtain ⟨b,vs,e1,e2,e3,e4,e5⟩:=hs.1.sim.obj k _ hl
 obtain ⟨hlt,hnot⟩:=qk4 hs hl (.ptr cs) (b:=b) (by rw [e1];rfl)
 refine hs.thawG hl (.ptr cs) ⟨b,e1,hlt,hnot,?_⟩ (fun z' es' b n c e hi=>by cases e)
 have hL:PRepL w (fun b=>Own L ι b∨B.X b) cs vs:=PRepL.of_get (by simpa using e3) fun j x u hx hu=>by
  obtain ⟨v,h1,h2⟩:=e5 j (.p x) (by rw [zy,hx];rfl)
  rw [h1] at hu
  cases hu
  exact h2
 exact PRepC.of (PRepL.mono (qgq k _) _ _ hL) e4 (fun j v hv=>by simp only [World.cell?,e2];simpa using hv)
def Eff1 (P:Program) (o:Oper) (fr:List AV) (L:Objs) (c:Prop) (fr':List AV) (L':Objs):Prop:=
 ∀ (E:Envt) (B:Base) (w:World) (ι:Key→Value) (a:Act),StF E B w L ι fr a→c→
  ∃ v nx w' ι',(execOp a.eval o).run P w=.ok nx w'∧(nx=.value v∨(nx=.skip∧v=undef))∧StF E B w' L' ι' fr' (a.put o.dst v)
theorem Act.put_defers' (a:Act) (d:Option Tmp) (v:Value):(a.put d v).defers=a.defers:=by cases d<;>rfl
theorem Val1.eff {d:Nat} {c:Prop} {r:AV} (h:Val1 P o fr L c r) (hd:o.dst=some d):Eff1 P o fr L c (fr.set d r) L:=by
 intro E B w ι a hs hc
 obtain ⟨v,w',e,hG,hr⟩:=h E B w ι a hs hc
 have hs':=hs.grown hG
 exact ⟨v,_,w',ι,e,.inl rfl,hs'.1,by rw [hd];exact hs'.2.1.put d hr,by rw [Act.put_defers'];exact hs'.2.2⟩
theorem Val1.eff0 {c:Prop} {r:AV} (h:Val1 P o fr L c r) (hd:o.dst=none):Eff1 P o fr L c fr L:=by
 intro E B w ι a hs hc
 obtain ⟨v,w',e,hG,hr⟩:=h E B w ι a hs hc
 have hs':=hs.grown hG
 exact ⟨v,_,w',ι,e,.inl rfl,by rw [hd];exact hs'⟩
theorem qc4 {d:Nat} (hd:o.dst=some d) (hs:StF E B w L ι fr a) {v:Value} {ao:AO} {r:AV} (hrun:(execOp a.eval o).run P w=.ok (.value v) w') (vo:Value) (hG:Grow w w' (Old L ι (.l d))) (hb:∀ b,blk vo=some b→w.heap.size≤b∨Old L ι (.l d) b)
  (hobj:ObjOk w' (fun b=>Own (Zav L (.l d) ao) (updI ι (.l d) vo) b∨B.X b) (updI ι (.l d) vo) (.l d) ao) (hr:ARep w' (fun b=>Own (Zav L (.l d) ao) (updI ι (.l d) vo) b∨B.X b) (updI ι (.l d) vo) r v) :
  ∃ v nx w' ι',(execOp a.eval o).run P w=.ok nx w'∧(nx=.value v∨(nx=.skip∧v=undef))∧StF E B w' (Zav L (.l d) ao) ι' ((fr.map (·.kill (.l d))).set d r) (a.put o.dst v):=by
 have h1:=hs.upd d vo ao hG hb hobj
 exact ⟨v,_,w',_,hrun,.inl rfl,h1.1,by rw [hd];exact h1.2.1.put d hr,by rw [Act.put_defers'];exact h1.2.2⟩
theorem qtO {O:Nat→Prop} (h:Grow w w' (fun _=>False)):Grow w w' O:=⟨h.os,h.tape,h.output,h.size,fun b hb _=>h.block b hb (fun h=>h)⟩
theorem qpx {d e z:Nat} {x:Operand} (ho:o.op=.move x∨o.op=.assign x) (hx:qaf x (.c (.nl z))=true) (hd:o.dst=some d):Eff1 P o fr L True ((fr.map (·.kill (.l d))).set d (.row (.l d))) (Zav L (.l d) (.row [] e z true)):=by
 intro E B w ι a hs _
 have hv:a.eval x=.slice none 0 0:=rdOk hs.2.1 hx
 refine qc4 hd hs (v:=.slice none 0 0) (w':=w) ?_ (.slice none 0 0) (Grow.refl _ _) (by simp [blk]) ⟨[],?_,by simp,by simp [PRepL],by simp⟩ ⟨by simp [updI],none,0,0,rfl⟩
 ·rcases ho with ho|ho<;>simp [execOp,ho,hv]
 ·exact ⟨by simp,.inl ⟨by simp [updI],rfl⟩⟩
theorem qir {t:TypeId} {vs:List Value} (w:World):(newRow t vs.toArray).run P w=.ok ⟨w.heap.size,0,none⟩ (w.alloc (.cells vs.toArray t)):=by
 simp [newRow,newObj]
 rfl
theorem qlP {d:Nat} {t:TypeId} (hd:o.dst=some d) (hs:StF E B w L ι fr a) {vs:List Value} {cs:List AV} (hl:vs.length=cs.length) (h1:∀ v∈vs,v.oneCell'=true) (hr:∀ (j:Nat) (x:AV),cs[j]?=some x→∃ v,vs[j]?=some v∧ARep w (fun b=>Own L ι b∨B.X b) ι x v)
  (hrun:(execOp a.eval o).run P w=.ok (.value (.pointer (some ⟨w.heap.size,0,none⟩))) (w.alloc (.cells vs.toArray t))) :
  ∃ v nx w' ι',(execOp a.eval o).run P w=.ok nx w'∧(nx=.value v∨(nx=.skip∧v=undef))∧StF E B w' (Zav L (.l d) (.box (cs.map (·.kill (.l d))) t)) ι' ((fr.map (·.kill (.l d))).set d (.adr (.l d) 0)) (a.put o.dst v):=by
 have hG:Grow w (w.alloc (.cells vs.toArray t)) (Old L ι (.l d)):=qbo _ _ _
 have hb:∀ b,blk (.pointer (some ⟨w.heap.size,0,none⟩))=some b→w.heap.size≤b∨Old L ι (.l d) b:=fun b e=>by simp only [blk,zg] at e;omega
 have hk:=qa6 (X:=B.X) (ao:=.box (cs.map (·.kill (.l d))) t) (fun b hb=>hs.1.x_lt hb) hG hb
 refine qc4 hd hs hrun (.pointer (some ⟨w.heap.size,0,none⟩)) hG hb ⟨w.heap.size,vs,by simp [updI],heap_alloc_new w _,by simpa using hl,h1,fun j x hx=>?_⟩ ⟨w.heap.size,by simp [updI],rfl⟩
 rw [zy,zh] at hx
 obtain ⟨y,hy,rfl⟩:=hx
 obtain ⟨u,hu,hr'⟩:=hr j y hy
 exact ⟨u,hu,(hr'.kill (k:=.l d) (v:=.pointer (some ⟨w.heap.size,0,none⟩))).mono hk⟩
theorem qwE {d:Nat} {t:TypeId} {zero:List PV} (ho:o.op=.alloc t) (hz:qfw P t zero=true) (hd:o.dst=some d):Eff1 P o fr L True ((fr.map (·.kill (.l d))).set d (.adr (.l d) 0)) (Zav L (.l d) (.box (zero.map .p) t)):=by
 intro E B w ι a hs _
 obtain ⟨zv,hz1,hz2⟩:=qjc hz w
 obtain ⟨hzr,hzf⟩:=qcg hz2 w (fun b=>Own L ι b∨B.X b)
 have:=qlP (P:=P) (t:=t) hd hs (vs:=zv.cells.toList) (cs:=zero.map .p) (by simpa using hzr.length) (hzr.oneCells hzf) (fun j x hx=>by
  rw [zy,zh] at hx
  obtain ⟨y,hy,rfl⟩:=hx
  exact hzr.get hy) (by
  simp only [execOp,ho,Instr.alloc,Sem.run_bind,hz1,Result.andThen_ok,newVar]
  have:=qir (P:=P) (t:=t) (vs:=zv.cells.toList) w
  rw [Array.toArray_toList] at this
  simp only [this,Result.andThen_ok,Array.toArray_toList]
  rfl)
 simpa [AV.kill,Function.comp_def] using this
theorem qtV {d:Nat} {t:TypeId} {x:Operand} {x':Opd} (ho:o.op=.box t x) (hx:qaf x x'=true) (hd:o.dst=some d) {c:Prop} {v:PV} (e:(rd fr x').un=(c,.p v)) (hfl:Zaa (Zz v)=true) :
  Eff1 P o fr L c ((fr.map (·.kill (.l d))).set d (.adr (.l d) 0)) (Zav L (.l d) (.box ((Zz v).map .p) t)):=by
 intro E B w ι a hs hc
 have hr:PRep w _ v (a.eval x):=rdP hs.2.1 hx e hc
 have hcl:=hr.cells (qbE hfl)
 have:=qlP (P:=P) (t:=t) hd hs (vs:=(a.eval x).cells.toList) (cs:=(Zz v).map .p) (by simpa using hcl.length) (hcl.oneCells hfl) (fun j y hy=>by
  rw [zy,zh] at hy
  obtain ⟨q,hq,rfl⟩:=hy
  exact hcl.get hq) (by
  simp only [execOp,ho,Instr.box,Sem.run_bind,newVar]
  have:=qir (P:=P) (t:=t) (vs:=(a.eval x).cells.toList) w
  rw [Array.toArray_toList] at this
  simp only [this,Result.andThen_ok,Array.toArray_toList]
  rfl)
 simpa [AV.kill,Function.comp_def] using this
theorem qtU {d:Nat} {t:TypeId} {x:Operand} {x':Opd} (ho:o.op=.box t x) (hx:qaf x x'=true) (hd:o.dst=some d) {c:Prop} {k:Key} (e:(rd fr x').un=(c,.row k)) :
  Eff1 P o fr L c ((fr.map (·.kill (.l d))).set d (.adr (.l d) 0)) (Zav L (.l d) (.box [(AV.row k).kill (.l d)] t)):=by
 intro E B w ι a hs hc
 have hr:ARep w _ ι (.row k) (a.eval x):=rdP hs.2.1 hx e hc
 obtain ⟨A,n,cp,ev⟩:=hr.2
 refine qlP (t:=t) hd hs (vs:=[a.eval x]) (cs:=[.row k]) rfl (by simp [ev,Value.oneCell']) (fun j y hy=>?_) (by
  simp only [execOp,ho,Instr.box,Sem.run_bind,newVar,ev,Value.cells]
  have:=qir (P:=P) (t:=t) (vs:=[.slice A n cp]) w
  simp only [this,Result.andThen_ok]
  rfl)
 cases j with
 |zero=>simp at hy;subst hy;exact ⟨_,rfl,hr⟩
 |succ j=>simp at hy
end
end Go.Proofs.YtjgdjinhkgjpeabGreatDoor
