import Derived.Test.YtjgdjinhkgjpeabGreatDoorZ4
set_option linter.unusedVariables false
set_option linter.unusedSimpArgs false
set_option linter.defProp false
namespace Go.Proofs.YtjgdjinhkgjpeabGreatDoor
open Option.some renaming injEq→zg
open List renaming length_map→zN,replicate→zD
open Option renaming isSome_iff_exists→zM,map_eq_some_iff→zh
def rk:Key→Key
 |.l j=>.b (2 * j+1)
 |.b j=>.b (2 * j)
def uk:Key→Key
 |.b m=>if m % 2=0 then .b (m / 2) else .l (m / 2)
 |.l j=>.l j
theorem qmw (k:Key):uk (rk k)=k:=by
 cases k with
 |l j=>simp only [rk,uk];rw [if_neg (by omega)];congr 1;omega
 |b j=>simp only [rk,uk];rw [if_pos (by omega)];congr 1;omega
theorem qxb {m m':Nat} (h:uk (.b m)=uk (.b m')):m=m':=by
 simp only [uk] at h
 split at h<;>split at h<;>first|(injection h;omega)|cases h
def qfD (f:Key→Option Key):List Key→Option (List Key)
 |[]=>some []
 |k :: r=>match f k with
  |some k'=>(qfD f r).map (k' :: ·)
  |none=>none
def qd4 (f:Key→Option Key):List CV→Option (List CV)
 |[]=>some []
 |.p p :: r=>(qd4 f r).map (.p p :: ·)
 |.row k :: r=>match f k with
  |some k'=>(qd4 f r).map (.row k' :: ·)
  |none=>none
 |.mp k :: r=>match f k with
  |some k'=>(qd4 f r).map (.mp k' :: ·)
  |none=>none
def AV.ren (f:Key→Option Key):AV→AV
 |.p x=>.p x
 |.row k=>match f k with|some k'=>.row k'|none=>.any
 |.adr k o=>match f k with|some k'=>.adr k' o|none=>.any
 |.rad k z i o=>match f k with|some k'=>.rad k' z i o|none=>.any
 |.ipt z es i o=>.ipt z es i o
 |.mp k=>match f k with|some k'=>.mp k'|none=>.any
 |.fn fi ks=>match qfD f ks with|some ks'=>.fn fi ks'|none=>.any
 |.g c a=>.g c (a.ren f)
 |.ag cs=>match qd4 f cs with|some cs'=>.ag cs'|none=>.any
 |.tr k ps=>match f k with|some k'=>.tr k' ps|none=>.any
 |.any=>.any
def AO.ren (f:Key→Option Key):AO→AO
 |.box cs t=>.box (cs.map (·.ren f)) t
 |.row es e z ap=>.row es e z ap
 |.mapg κ kv a b=>.mapg κ kv a b
 |.rowv es e z=>.rowv (es.map (·.map (·.ren f))) e z
 |.mapv kv a b=>.mapv (kv.map fun p=>(p.1,p.2.ren f)) a b
 |.mit last kv=>.mit last kv
def mapO (f:Key→Option Key):Objs→Objs
 |[]=>[]
 |(k,a) :: r=>match f k with
  |some k'=>(k',a.ren f) :: mapO f r
  |none=>mapO f r
section
variable {w w':World} {U:Nat→Prop} {ι ι':Key→Value} {f:Key→Option Key}
theorem qmM (hf:∀ k k',f k=some k'→ι' k'=ι k):∀ {ks ks':List Key},qfD f ks=some ks'→ks'.map ι'=ks.map ι
 |[],ks',h=>by simp only [qfD,zg] at h;subst h;rfl
 |k :: r,ks',h=>by
  simp only [qfD] at h
  split at h
  ·rename_i k' e
   obtain ⟨r',h1,rfl⟩:=zh.1 h
   simp only [List.map_cons,qmM hf h1,hf k k' e]
  ·cases h
theorem qhO (hf:∀ k k',f k=some k'→ι' k'=ι k):∀ {cs cs':List CV},qd4 f cs=some cs'→cs'.length=cs.length∧∀ (j:Nat) (x':CV),cs'[j]?=some x'→∃ x,cs[j]?=some x∧∀ w U v,CRep w U ι x v→CRep w U ι' x' v
 |[],cs',h=>by simp only [qd4,zg] at h;subst h;simp
 |.p p :: r,cs',h=>by
  simp only [qd4] at h
  obtain ⟨r',h1,rfl⟩:=zh.1 h
  obtain ⟨g1,g2⟩:=qhO hf h1
  refine ⟨by simp [g1],fun j x' hx=>?_⟩
  cases j with
  |zero=>simp at hx;subst hx;exact ⟨_,rfl,fun w U v h=>h⟩
  |succ j=>simp at hx;simpa using g2 j x' hx
 |.row k :: r,cs',h=>by
  simp only [qd4] at h
  split at h
  ·rename_i k' e
   obtain ⟨r',h1,rfl⟩:=zh.1 h
   obtain ⟨g1,g2⟩:=qhO hf h1
   refine ⟨by simp [g1],fun j x' hx=>?_⟩
   cases j with
   |zero=>simp at hx;subst hx;exact ⟨_,rfl,fun w U v h=>by simp only [CRep] at h ⊢;rw [hf k k' e];exact h⟩
   |succ j=>simp at hx;simpa using g2 j x' hx
  ·cases h
 |.mp k :: r,cs',h=>by
  simp only [qd4] at h
  split at h
  ·rename_i k' e
   obtain ⟨r',h1,rfl⟩:=zh.1 h
   obtain ⟨g1,g2⟩:=qhO hf h1
   refine ⟨by simp [g1],fun j x' hx=>?_⟩
   cases j with
   |zero=>simp at hx;subst hx;exact ⟨_,rfl,fun w U v h=>by simp only [CRep] at h ⊢;rw [hf k k' e];exact h⟩
   |succ j=>simp at hx;simpa using g2 j x' hx
  ·cases h
theorem ARep.ren (hf:∀ k k',f k=some k'→ι' k'=ι k):∀ {a:AV} {u:Value},ARep w U ι a u→ARep w U ι' (a.ren f) u
 |.p x,u,h=>h
 |.row k,u,h=>by
  simp only [AV.ren];split
  ·rename_i k' e;simpa [ARep,hf k k' e] using h
  ·trivial
 |.adr k o,u,h=>by
  simp only [AV.ren];split
  ·rename_i k' e;simpa [ARep,hf k k' e] using h
  ·trivial
 |.rad k z i o,u,h=>by
  simp only [AV.ren];split
  ·rename_i k' e;simpa [ARep,hf k k' e] using h
  ·trivial
 |.ipt z es i o,u,h=>h
 |.mp k,u,h=>by
  simp only [AV.ren];split
  ·rename_i k' e;simpa [ARep,hf k k' e] using h
  ·trivial
 |.fn fi ks,u,h=>by
  simp only [AV.ren];split
  ·rename_i ks' e
   simp only [ARep] at h ⊢
   rw [h,qmM hf e]
  ·trivial
 |.g c a,u,h=>⟨fun hc=>ARep.ren hf (a:=a) (h.1 hc),h.2⟩
 |.ag cs,u,h=>by
  simp only [AV.ren];split
  ·rename_i cs' e
   obtain ⟨vs,e0,hl,hr⟩:=h
   obtain ⟨g1,g2⟩:=qhO hf e
   refine ⟨vs,e0,by rw [hl,g1],fun j x' hx=>?_⟩
   obtain ⟨x,hx1,hx2⟩:=g2 j x' hx
   obtain ⟨v,h1,h2,h3⟩:=hr j x hx1
   exact ⟨v,h1,h2,hx2 _ _ _ h3⟩
  ·trivial
 |.tr k ps,u,h=>by
  simp only [AV.ren];split
  ·rename_i k' e
   obtain ⟨vs,e0,hs,hr⟩:=h
   exact ⟨vs,by rw [hf k k' e];exact e0,by rw [hf k k' e];exact hs,hr⟩
  ·trivial
 |.any,u,h=>trivial
theorem AO.ren_mapA (a:AO):a.ren f=a.mapA (AV.ren f):=by cases a<;>rfl
theorem ObjOk.ren (hf:∀ k k',f k=some k'→ι' k'=ι k) {k k':Key} (hk:ι' k'=ι k) {a:AO} (h:ObjOk w U ι k a):ObjOk w U ι' k' (a.ren f):=by
 rw [AO.ren_mapA]
 exact h.conv _ hk (fun _ _=>rfl) (fun b _ hu=>⟨rfl,hu⟩) (fun hr=>hr.ren hf)
theorem ObjOk.keeps {U':Nat→Prop} (hk:Keeps w w U U') {k:Key} {a:AO} (h:ObjOk w U ι k a):ObjOk w U' ι k a:=h.mono hk (fun _ _=>rfl)
theorem qfK (hi:∀ k1 k2 k,f k1=some k→f k2=some k→k1=k2) {k:Key} {a:AO}:∀ {L:Objs},Zas (mapO f L) k=some a→∃ k' a',Zas L k'=some a'∧f k'=some k∧a=a'.ren f
 |[],h=>by simp [mapO,Zas] at h
 |(k1,a1) :: r,h=>by
  simp only [mapO] at h
  split at h
  ·rename_i q e
   simp only [Zas] at h
   split at h
   ·rename_i hq
    cases h
    exact ⟨k1,a1,by simp [Zas],by rw [e,hq],rfl⟩
   ·rename_i hq
    obtain ⟨k',a',h1,h2,h3⟩:=qfK hi h
    refine ⟨k',a',?_,h2,h3⟩
    simp only [Zas]
    rw [if_neg (fun ek=>hq (by rw [ek] at e;rw [h2] at e;cases e;rfl))]
    exact h1
  ·rename_i e
   obtain ⟨k',a',h1,h2,h3⟩:=qfK hi h
   refine ⟨k',a',?_,h2,h3⟩
   simp only [Zas]
   rw [if_neg (fun ek=>by rw [ek,h2] at e;cases e)]
   exact h1
theorem qgz (hi:∀ k1 k2 k,f k1=some k→f k2=some k→k1=k2) {k k':Key} {a:AO} (hk:f k=some k'):∀ {L:Objs},Zas L k=some a→Zas (mapO f L) k'=some (a.ren f)
 |[],h=>by simp [Zas] at h
 |(k1,a1) :: r,h=>by
  simp only [Zas] at h
  simp only [mapO]
  split at h
  ·rename_i e
   subst e
   cases h
   rw [hk]
   simp [Zas]
  ·rename_i e
   split
   ·rename_i q hq
    simp only [Zas]
    rw [if_neg (fun eq=>e (hi k1 k k' (by rw [hq,eq]) hk))]
    exact qgz hi hk h
   ·exact qgz hi hk h
end
def fwd (k:Key):Option Key:=some (rk k)
def renL (L:Objs):Objs:=mapO fwd L
def bwd (L0 L':Objs) (i:Nat) (d:Option Nat):Key→Option Key
 |.b m=>if (Zas L0 (.b m)).isSome=true∧(Zas L' (.b m)).isSome=true∧¬ (d.isSome=true∧uk (.b m)=.l i) then some (uk (.b m)) else none
 |.l j=>if d=some j then some (.l i) else none
def qeF (L0 L':Objs) (i:Nat) (d:Option Nat):Objs:=mapO (bwd L0 L' i d) L'
theorem qrN:∀ k1 k2 k,fwd k1=some k→fwd k2=some k→k1=k2:=by
 intro k1 k2 k h1 h2
 simp only [fwd,zg] at h1 h2
 rw [← qmw k1,← qmw k2,h1,h2]
theorem qwL {L0 L':Objs} {i:Nat} {d:Option Nat}:∀ k1 k2 k,bwd L0 L' i d k1=some k→bwd L0 L' i d k2=some k→k1=k2:=by
 intro k1 k2 k h1 h2
 cases k1 with
 |b m=>
  simp only [bwd] at h1
  split at h1
  ·rename_i c1
   cases h1
   cases k2 with
   |b m'=>
    simp only [bwd] at h2
    split at h2
    ·simp only [zg] at h2;rw [qxb h2.symm]
    ·cases h2
   |l j=>
    simp only [bwd] at h2
    split at h2
    ·rename_i hd
     simp only [zg] at h2
     exact absurd ⟨by rw [hd];rfl,h2.symm⟩ c1.2.2
    ·cases h2
  ·cases h1
 |l j=>
  simp only [bwd] at h1
  split at h1
  ·rename_i hd
   cases h1
   cases k2 with
   |b m'=>
    simp only [bwd] at h2
    split at h2
    ·rename_i c2
     simp only [zg] at h2
     exact absurd ⟨by rw [hd];rfl,h2⟩ c2.2.2
    ·cases h2
   |l j'=>
    simp only [bwd] at h2
    split at h2
    ·rename_i hd';rw [hd] at hd';cases hd';rfl
    ·cases h2
  ·cases h1
def fwdI (i:Nat):Key→Option Key
 |.l j=>if j=i then some (.l i) else some (.b (2 * j+1))
 |.b j=>some (.b (2 * j))
def renI (i:Nat) (L:Objs):Objs:=mapO (fwdI i) L
theorem qrP (i:Nat) (k:Key):∃ k',fwdI i k=some k'∧uk k'=k:=by
 cases k with
 |l j=>
  simp only [fwdI]
  split
  ·rename_i h;subst h;exact ⟨_,rfl,rfl⟩
  ·exact ⟨_,rfl,qmw (.l j)⟩
 |b j=>exact ⟨_,rfl,qmw (.b j)⟩
theorem qoy {i:Nat} {k k':Key} (h:fwdI i k=some k'):uk k'=k:=by
 obtain ⟨q,h1,h2⟩:=qrP i k
 rw [h1] at h
 cases h
 exact h2
theorem qpt (i:Nat):∀ k1 k2 k,fwdI i k1=some k→fwdI i k2=some k→k1=k2:=by
 intro k1 k2 k h1 h2
 rw [← qoy h1,← qoy h2]
section
variable {P:Program} {E:Envt}
set_option maxHeartbeats 2000000 in
theorem qtK (hm:P.follows .mixedOrders=true) {f:FuncId} {fn:Func} {ic:IC} {rs:List IRes} {args:List AV} {n:Nat} {L:Objs} {i:Nat} {K:AV→Objs→Prop} (hf:P.funcs[f]?=some fn) (hc:chkF P fn ic rs n=true)
  (h:awp P E ic (args.map (·.ren (fwdI i))++zD (n - args.length) .any) (renI i L) (retQ rs fun x L'=>Zbk x=true∧∃ d,K (.p x) (qeF (renL L) L' i d))):Call P E f args L i K:=by
 unfold chkF at hc
 split at hc
 case h_2=>cases hc
 rename_i c hb
 simp only [Bool.and_eq_true,beq_iff_eq] at hc
 obtain ⟨⟨hchk,hr⟩,hn⟩:=hc
 intro w X ι vs hs hX hE hEb hA
 refine calls_of_wp hf hb ?_
 let ι0:Key→Value:=fun k=>ι (uk k)
 have hfw:∀ k k',fwd k=some k'→ι0 k'=ι k:=by
  intro k k' e
  simp only [fwd,zg] at e
  show ι (uk k')=ι k
  rw [← e,qmw]
 have hlk:∀ k a,Zas (renL L) k=some a→∃ k' a',Zas L k'=some a'∧k=rk k'∧a=a'.ren fwd:=by
  intro k a h1
  obtain ⟨k',a',g1,g2,g3⟩:=qfK qrN h1
  exact ⟨k',a',g1,by simpa [fwd] using g2.symm,g3⟩
 have hO:∀ c,Own (renL L) ι0 c↔Own L ι c:=by
  intro c
  constructor
  ·rintro ⟨k,a,h1,h2⟩
   obtain ⟨k',a',g1,rfl,g3⟩:=hlk k a h1
   exact ⟨k',a',g1,by rw [← h2];show blk (ι k')=blk (ι (uk (rk k')));rw [qmw]⟩
  ·rintro ⟨k,a,h1,h2⟩
   exact ⟨rk k,_,qgz qrN (f:=fwd) rfl h1,by show blk (ι (uk (rk k)))=some c;rw [qmw];exact h2⟩
 have hfwI:∀ k k',fwdI i k=some k'→ι0 k'=ι k:=by
  intro k k' e
  show ι (uk k')=ι k
  rw [qoy e]
 have hlkI:∀ k a,Zas (renI i L) k=some a→∃ k' a',Zas L k'=some a'∧fwdI i k'=some k∧a=a'.ren (fwdI i):=by
  intro k a h1
  obtain ⟨k',a',g1,g2,g3⟩:=qfK (qpt i) h1
  exact ⟨k',a',g1,g2,g3⟩
 have hOI:∀ c,Own (renI i L) ι0 c↔Own L ι c:=by
  intro c
  constructor
  ·rintro ⟨k,a,h1,h2⟩
   obtain ⟨k',a',g1,g2,g3⟩:=hlkI k a h1
   exact ⟨k',a',g1,by rw [← hfwI _ _ g2];exact h2⟩
  ·rintro ⟨k,a,h1,h2⟩
   obtain ⟨q,e1,e2⟩:=qrP i k
   exact ⟨q,_,qgz (qpt i) e1 h1,by rw [hfwI _ _ e1];exact h2⟩
 let B:Base:={ w0:=w,X:=X,L0:=renL L,i0:=ι0 }
 have hkU:Keeps w w (fun c=>Own L ι c∨X c) (fun c=>Own (renI i L) ι0 c∨X c):=fun c _ hu=>⟨rfl,fun h=>hu (h.imp (hOI c).1 id)⟩
 have hsim:Sim w X (renI i L) ι0:=by
  constructor
  ·intro k a h1
   obtain ⟨k',a',g1,g2,rfl⟩:=hlkI k a h1
   exact ((hs.obj k' a' g1).keeps hkU).ren hfwI (hfwI k' k g2)
  ·intro k k' a a' c h1 h2 h3 h4
   obtain ⟨k1,a1,g1,p1,_⟩:=hlkI k a h1
   obtain ⟨k2,a2,g2,p2,_⟩:=hlkI k' a' h2
   have e1:blk (ι k1)=some c:=by rw [← hfwI _ _ p1];exact h3
   have e2:blk (ι k2)=some c:=by rw [← hfwI _ _ p2];exact h4
   have:=hs.inj k1 k2 a1 a2 c g1 g2 e1 e2
   subst this
   rw [p1] at p2
   cases p2
   rfl
 have hst:St E B w (renI i L) ι0:=⟨Grow.refl _ _,hsim,fun c hc=>.inl ((hO c).2 ((hOI c).1 hc)),fun c hc=>(hX c hc).1,fun k _ _=>rfl,hE,fun c hc=>⟨(hEb c hc).1,fun ho=>(hEb c hc).2 ((hO c).1 ho)⟩,(fun j=>by
  show Zas (renL L) (.l j)=none
  cases hq:Zas (renL L) (.l j) with
  |none=>rfl
  |some q=>
   obtain ⟨k',a',g1,g2,g3⟩:=hlk _ _ hq
   cases k'<;>simp [rk] at g2),fun c hc ho=>(hX c hc).2 ((hO c).1 ho)⟩
 have hl:∀ (xs:List AV) (ys:List Value),ARepL w (fun c=>Own L ι c∨X c) ι xs ys→ys.length=xs.length∧∀ (j:Nat) (x:AV),xs[j]?=some x→∃ v,ys[j]?=some v∧ARep w (fun c=>Own L ι c∨X c) ι x v:=by
  intro xs
  induction xs with
  |nil=>intro ys h;simp only [ARepL] at h;subst h;simp
  |cons x xs ih=>
   intro ys h
   simp only [ARepL] at h
   obtain ⟨v,r,rfl,h1,h2⟩:=h
   obtain ⟨g1,g2⟩:=ih r h2
   refine ⟨by simp [g1],fun j y hy=>?_⟩
   cases j with
   |zero=>simp at hy;subst hy;exact ⟨v,rfl,h1⟩
   |succ j=>simp at hy;simpa using g2 j y hy
 obtain ⟨hlen,hget⟩:=hl _ _ hA
 have hfr:StF E B w (renI i L) ι0 (args.map (·.ren (fwdI i))++zD (n - args.length) .any) { tmps:=vs.toArray++Array.replicate (fn.ntmps - vs.toArray.size) undef,defers:=[] }:=by
  refine ⟨hst,⟨by simp [hlen,hn],fun j x hx=>?_⟩,rfl⟩
  rw [List.getElem?_append] at hx
  split at hx
  ·rename_i hi
   rw [List.getElem?_map,zh] at hx
   obtain ⟨y,hy,rfl⟩:=hx
   obtain ⟨v,hv,hrep⟩:=hget j y hy
   refine ⟨v,?_,(hrep.mono hkU).ren hfwI⟩
   simp only [zN] at hi
   rw [Array.getElem?_append_left (by simp;omega)]
   simpa using hv
  ·rename_i hi
   rw [List.getElem?_replicate] at hx
   split at hx
   ·rename_i hlt
    cases hx
    simp only [zN] at hi hlt
    refine ⟨undef,?_,trivial⟩
    rw [Array.getElem?_append_right (by simp;omega)]
    simp only [List.size_toArray]
    rw [Array.getElem?_replicate,if_pos (by rw [hlen];omega)]
   ·cases hx
 refine wp_mono (qjV (qrY hm) ic c _ _ _ hchk h B w _ _ hfr) ?_
 rintro e a' w' ⟨fr',L',ι',q,hs'⟩
 have fin:(∃ l,Zbd fr' L' rs=some l∧Zbk (qhb l)=true∧∃ d,K (.p (qhb l)) (qeF (renL L) L' i d))→a'.defers=[]∧∃ v,(results fn a'.tmps).run P w'=.ok v w'∧∃ v_1 r L'' ι'',Ending.returned v=.returned v_1∧K r L''∧ARep w' (fun b=>Own L'' ι'' b∨X b) ι'' r v_1∧Back E w X L ι w' L'' ι'' i:=by
  rintro ⟨l,h1,hfl,d,h2⟩
  obtain ⟨v,hv,hrv⟩:=qil hs' hr h1
  let ι2:Key→Value:=fun k=>if d.isSome=true∧k=.l i then ι' (.l (d.getD 0)) else ι k
  have hbw:∀ k k',bwd (renL L) L' i d k=some k'→ι2 k'=ι' k:=by
   intro k k' e
   cases k with
   |b m=>
    simp only [bwd] at e
    split at e
    ·rename_i c1
     cases e
     show (if d.isSome=true∧uk (.b m)=.l i then ι' (.l (d.getD 0)) else ι (uk (.b m)))=ι' (.b m)
     rw [if_neg c1.2.2]
     exact (hs'.1.keep (.b m) c1.1 c1.2.1).symm
    ·cases e
   |l j=>
    simp only [bwd] at e
    split at e
    ·rename_i hd
     cases e
     show (if d.isSome=true∧Key.l i=.l i then ι' (.l (d.getD 0)) else ι (.l i))=ι' (.l j)
     rw [if_pos ⟨by rw [hd];rfl,rfl⟩,hd]
     rfl
    ·cases e
  have hlk2:∀ k a,Zas (qeF (renL L) L' i d) k=some a→∃ k' a',Zas L' k'=some a'∧bwd (renL L) L' i d k'=some k∧a=a'.ren (bwd (renL L) L' i d):=fun k a h=>qfK qwL h
  have hO2:∀ c,Own (qeF (renL L) L' i d) ι2 c→Own L' ι' c:=by
   rintro c ⟨k,a,g1,g2⟩
   obtain ⟨k',a',g3,g4,_⟩:=hlk2 k a g1
   exact ⟨k',a',g3,by rw [← hbw k' k g4];exact g2⟩
  have hk2:Keeps w' w' (fun c=>Own L' ι' c∨X c) (fun c=>Own (qeF (renL L) L' i d) ι2 c∨X c):=fun c _ hu=>⟨rfl,fun h=>hu (h.imp (hO2 c) id)⟩
  refine ⟨hs'.2.2,v,hv,v,.p (qhb l),_,ι2,rfl,h2,?_,⟨⟨?_,?_⟩,?_,?_,?_,?_⟩⟩
  ·exact PRep.flat hfl hrv
  ·intro k a g1
   obtain ⟨k',a',g3,g4,rfl⟩:=hlk2 k a g1
   exact ((hs'.1.sim.obj k' a' g3).keeps hk2).ren hbw (hbw k' k g4)
  ·intro k k' a a' c g1 g2 g3 g4
   obtain ⟨k1,a1,p1,p2,_⟩:=hlk2 k a g1
   obtain ⟨k2,a2,q1,q2,_⟩:=hlk2 k' a' g2
   have e1:blk (ι' k1)=some c:=by rw [← hbw k1 k p2];exact g3
   have e2:blk (ι' k2)=some c:=by rw [← hbw k2 k' q2];exact g4
   have:=hs'.1.sim.inj k1 k2 a1 a2 c p1 q1 e1 e2
   subst this
   rw [p2] at q2
   cases q2
   rfl
  ·have hg:=hs'.1.grow
   exact ⟨hg.os,hg.tape,hg.output,hg.size,fun c hc hn=>hg.block c hc (fun ho=>hn ((hO c).1 ho))⟩
  ·intro c hc
   rcases hs'.1.own c (hO2 c hc) with h'|h'
   ·exact .inl ((hO c).1 h')
   ·exact .inr h'
  ·intro k hk
   show (if d.isSome=true∧k=.l i then ι' (.l (d.getD 0)) else ι k)=ι k
   rw [if_neg (fun h=>hk h.2)]
  ·intro k hk
   obtain ⟨a,ha⟩:=zM.1 hk
   obtain ⟨k',a',g3,g4,_⟩:=hlk2 k a ha
   cases k' with
   |b m=>
    simp only [bwd] at g4
    split at g4
    ·rename_i c1
     cases g4
     obtain ⟨a0,ha0⟩:=zM.1 c1.1
     obtain ⟨k0,a1,p1,p2,_⟩:=hlk _ _ ha0
     left
     rw [p2,qmw,p1]
     rfl
    ·cases g4
   |l j=>
    simp only [bwd] at g4
    split at g4
    ·cases g4;exact .inr rfl
    ·cases g4
 cases e with
 |normal=>exact fin (by obtain ⟨l,e1,e2⟩:=qj1 (φ:=fun x L'=>Zbk x=true∧∃ d,K (.p x) (qeF (renL L) L' i d)) (L:=L') q;exact ⟨l,e1,e2⟩)
 |ret=>exact fin (by obtain ⟨l,e1,e2⟩:=qj1 (φ:=fun x L'=>Zbk x=true∧∃ d,K (.p x) (qeF (renL L) L' i d)) (L:=L') q;exact ⟨l,e1,e2⟩)
 |exit id=>exact q.elim
 |goto l=>exact q.elim
 |panic ch=>exact q.elim
 |outgrown=>exact q.elim
variable {L:Objs} {fr:List AV} {d:Option Nat} {is:List IOper} {Y:List PV} {K:List AV→Objs→Prop}
theorem useI (hm:P.follows .mixedOrders=true) (i:Nat) {f:FuncId} {fn:Func} {ic:IC} {rs:List IRes} {n:Nat} {as:List AV} (hf:P.funcs[f]?=some fn) (hc:chkF P fn ic rs n=true)
  (h:awp P E ic (as.map (·.ren (fwdI i))++zD (n - as.length) .any) (renI i L) (retQ rs fun x L'=>Zbk x=true∧∃ j,qaa P E Y is (Zg (fr.map (·.kill (.l i))) d (.p x)) (qeF (renL L) L' i j) K)):qa5 P E f as L d fr (qcV P E Y is K):=
 .inr (.inr ⟨i,qtK hm hf hc h⟩)
end
def r1 (d q:Nat) (k:Key):Option Key:=if k=.l d then some (.l q) else if k=.l q then none else some k
section
variable {E:Envt} {B:Base} {w:World} {L:Objs} {ι:Key→Value} {fr:List AV} {a:Act}
theorem qxv {fr':List AV} (h:Zb fr fr'):ReOk E fr L fr' L:=fun B w ι a hs=>by
 obtain ⟨g1,g2⟩:=h.get
 refine ⟨ι,hs.1,⟨by rw [hs.2.1.1,g1],fun i y hy=>?_⟩,hs.2.2⟩
 obtain ⟨x,hx,hxy⟩:=g2 i y hy
 obtain ⟨v,hv,hr⟩:=hs.2.1.2 i x hx
 exact ⟨v,hv,hxy.rep hr⟩
theorem qdx {k:Key} {es:List (List PV)} {e z:Nat} {ap:Bool} (hl:Zas L k=some (.row es e z ap)):ReOk E fr L (fr.map (·.thaw k (.sl z es))) (Zaw k (.sl z es) L):=fun B w ι a hs=>⟨ι,hs.thaw hl⟩
theorem quJ {k:Key} {cs:List PV} {t:TypeId} (hl:Zas L k=some (.box (cs.map .p) t)):ReOk E fr L (fr.map (·.thaw k (.ptr cs))) (Zaw k (.ptr cs) L):=fun B w ι a hs=>⟨ι,hs.thawB hl⟩
end
section
variable {α:Type} [DecidableEq α]
def lc:List α→List α→Nat
 |[],_=>0
 |_ :: _,[]=>0
 |a :: az,b :: bs=>if a=b then lc az bs+1 else max (lc az (b :: bs)) (lc (a :: az) bs)
termination_by x y=>x.length+y.length
def fk (a:α) (az bs:List α) (m:Nat):List α→Nat→Option Nat
 |[],_=>none
 |b :: r,k=>if a=b∧lc az (bs.drop (k+1))+1=m then some k else fk a az bs m r (k+1)
end
end Go.Proofs.YtjgdjinhkgjpeabGreatDoor
