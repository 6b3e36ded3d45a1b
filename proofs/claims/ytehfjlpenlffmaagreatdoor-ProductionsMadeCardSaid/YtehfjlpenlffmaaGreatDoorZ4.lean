import Derived.Test.YtehfjlpenlffmaaGreatDoorZ3
import Derived.Lib.Builder
import Derived.Lib.UnsafeStr
import Derived.Lib.AppendStr
import Derived.Test.YtehfjlpenlffmaaGreatDoorZ1
set_option linter.unusedVariables false
set_option linter.unusedSimpArgs false
set_option linter.defProp false
namespace Go.Proofs.YtehfjlpenlffmaaGreatDoor
open Option.some renaming injEq→zn
open List renaming map_cons→zk,replicate→yi
open Bool renaming and_eq_true→zq
open Option renaming map_eq_some_iff→zp
def GCall (P:Program) (E:Envt) (f:FuncId) (bx:Option OS) (args:List PV) (post:RV→OS→Prop):Prop:=
 ∀ (w:World) (U:Nat→Prop) (vs:List Value) (v0:Value),(∀ c,U c→c < w.heap.size)→E.ok w→(∀ c,E.bl c→c < w.heap.size∧(bx.isSome=true→blk v0≠some c))→PRepL w U args vs→
  (match bx with|none=>True|some os=>(∀ c,blk v0=some c→U c)∧ObjAt w U v0 os)→
  Calls P f ((match bx with|none=>vs|some _=>v0 :: vs)).toArray w fun e w'=>∃ v r os',e=.returned v∧post r os'∧RVok w' U w.heap.size r v∧
   (match bx with
    |none=>Grow w w' (fun _=>False)
    |some _=>Grow w w' (fun c=>blk v0=some c)∧ObjAt w' (fun c=>U c∨r.own v c) v0 os')
def noOS:OS:=.box 0 []
def finP (bx:Option OS) (post:RV→OS→Prop) (x:PV) (L:Objs):Prop:=
 match bx with
 |none=>post (.p x) noOS
 |some _=>∃ os',Zar L (.b 0)=some os'.ao∧post (.p x) os'
def finF (bx:Option OS) (post:RV→OS→Prop) (i:Nat) (fr:List AV) (L:Objs):Prop:=
 (∃ j es e z,fr.getD i .any=.row (.l j)∧Zar L (.l j)=some (.row es e z true)∧
  match bx with
  |none=>post (.fr es e z) noOS
  |some _=>∃ os',Zar L (.b 0)=some os'.ao∧post (.fr es e z) os')∨
 ∃ e z z0,fr.getD i .any=.p (.nl z0)∧
  match bx with
  |none=>post (.fr [] e z) noOS
  |some _=>∃ os',Zar L (.b 0)=some os'.ao∧post (.fr [] e z) os'
def retF (i:Nat) (bx:Option OS) (post:RV→OS→Prop):AQ
 |.normal,fr,L=>finF bx post i fr L
 |.ret,fr,L=>finF bx post i fr L
 |_,_,_=>False
def qsW (fr:List AV):List Nat→Option (List PV)
 |[]=>some []
 |i :: r=>match fr.getD i .any with
  |.p x=>(qsW fr r).map (x :: ·)
  |_=>none
def finT (bx:Option OS) (post:RV→OS→Prop) (i:Nat) (is:List Nat) (fr:List AV) (L:Objs):Prop:=
 (∃ j es e z ps,fr.getD i .any=.row (.l j)∧Zar L (.l j)=some (.row es e z true)∧qsW fr is=some ps∧
  match bx with
  |none=>post (.ft es e z ps) noOS
  |some _=>∃ os',Zar L (.b 0)=some os'.ao∧post (.ft es e z ps) os')∨
 ∃ e z z0 ps,fr.getD i .any=.p (.nl z0)∧qsW fr is=some ps∧
  match bx with
  |none=>post (.ft [] e z ps) noOS
  |some _=>∃ os',Zar L (.b 0)=some os'.ao∧post (.ft [] e z ps) os'
def retT (i:Nat) (is:List Nat) (bx:Option OS) (post:RV→OS→Prop):AQ
 |.normal,fr,L=>finT bx post i is fr L
 |.ret,fr,L=>finT bx post i is fr L
 |_,_,_=>False
theorem qBE {i:Nat} {is:List Nat} {bx:Option OS} {post:RV→OS→Prop} {fr:List AV} {L:Objs}:retT i is bx post .ret fr L=finT bx post i is fr L:=rfl
theorem qBF {i:Nat} {is:List Nat} {bx:Option OS} {post:RV→OS→Prop} {fr:List AV} {L:Objs}:retT i is bx post .normal fr L=finT bx post i is fr L:=rfl
theorem qBI {i:Nat} {bx:Option OS} {post:RV→OS→Prop} {fr:List AV} {L:Objs}:retF i bx post .ret fr L=finF bx post i fr L:=rfl
theorem qBJ {i:Nat} {bx:Option OS} {post:RV→OS→Prop} {fr:List AV} {L:Objs}:retF i bx post .normal fr L=finF bx post i fr L:=rfl
def l0 (bx:Option OS):Objs:=
 match bx with
 |none=>[]
 |some os=>[(.b 0,os.ao)]
def a0 (bx:Option OS) (args:List PV):List AV:=
 match bx with
 |none=>args.map .p
 |some (.box _ _)=>.adr (.b 0) 0 :: args.map .p
 |some (.row _ _ _)=>.row (.b 0) :: args.map .p
def GCallP (P:Program) (E:Envt) (f:FuncId) (pre:List PV) (bx:Option OS) (args:List PV) (post:RV→OS→Prop):Prop:=
 ∀ (w:World) (U:Nat→Prop) (us vs:List Value) (v0:Value),(∀ c,U c→c < w.heap.size)→E.ok w→(∀ c,E.bl c→c < w.heap.size∧(bx.isSome=true→blk v0≠some c))→PRepL w U pre us→PRepL w U args vs→
  (match bx with|none=>True|some os=>(∀ c,blk v0=some c→U c)∧ObjAt w U v0 os)→
  Calls P f (us++(match bx with|none=>vs|some _=>v0 :: vs)).toArray w fun e w'=>∃ v r os',e=.returned v∧post r os'∧RVok w' U w.heap.size r v∧
   (match bx with
    |none=>Grow w w' (fun _=>False)
    |some _=>Grow w w' (fun c=>blk v0=some c)∧ObjAt w' (fun c=>U c∨r.own v c) v0 os')
def a0P (pre:List PV) (bx:Option OS) (args:List PV):List AV:=pre.map .p++a0 bx args
section
variable {P:Program} {E:Envt}
theorem GCallP.nil {f:FuncId} {bx:Option OS} {args:List PV} {post:RV→OS→Prop} (h:GCallP P E f [] bx args post):GCall P E f bx args post:=fun w U vs v0 hU hE hEb hA hB=>h w U [] vs v0 hU hE hEb (by simp [PRepL]) hA hB
theorem ql3 (hm:P.follows .mixedOrders=true) {f:FuncId} {fn:Func} {c:Code} {ic:IC} {pre:List PV} {bx:Option OS} {args:List PV} {post:RV→OS→Prop} {Q:AQ} (hf:P.funcs[f]?=some fn) (hb:fn.body=some c) (hchk:chkC P qra ic c=true)
  (h:awp P E ic (a0P pre bx args++yi (fn.ntmps - (a0P pre bx args).length) .any) (l0 bx) Q)
  (hQ:∀ (B:Base) (w':World) (L:Objs) (ι:Key→Value) (fr:List AV) (a:Act) (e:Exit),Q e fr L→StF E B w' L ι fr a→B.L0=l0 bx→(e=.normal∨e=.ret)∧∃ v r os',(results fn a.tmps).run P w'=.ok v w'∧post r os'∧RVok w' (ZB L ι B.X) B.w0.heap.size r v∧(bx.isSome=true→Zar L (.b 0)=some os'.ao)∧(∀ b,r.own v b→Own L ι b)):GCallP P E f pre bx args post:=by
 intro w U us vs v0 hU hE hEb hPre hA hB
 refine calls_of_wp hf hb ?_
 let ι:Key→Value:=fun _=>v0
 let B:Base:={ w0:=w,X:=fun c=>U c∧(bx.isSome=true→blk v0≠some c),L0:=l0 bx,i0:=ι }
 have hlk:∀ k q,Zar (l0 bx) k=some q→k=.b 0∧∃ os,bx=some os∧q=os.ao:=by
  intro k q hq
  cases hbx:bx with
  |none=>rw [hbx] at hq;simp [l0,Zar] at hq
  |some os=>
   rw [hbx] at hq
   simp only [l0,Zar] at hq
   split at hq
   ·rename_i e;cases hq;exact ⟨e.symm,os,rfl,rfl⟩
   ·cases hq
 have hO:∀ c,Own (l0 bx) ι c→blk v0=some c∧bx.isSome=true:=by
  rintro c ⟨k,q,h1,h2⟩
  obtain ⟨_,os,e,_⟩:=hlk k q h1
  exact ⟨h2,by rw [e];rfl⟩
 have hUb:∀ c,(Own (l0 bx) ι c∨B.X c)→U c:=by
  rintro c (h'|h')
  ·obtain ⟨h1,hs⟩:=hO c h'
   cases hbx:bx with
   |none=>rw [hbx] at hs;cases hs
   |some p=>rw [hbx] at hB;exact hB.1 c h1
  ·exact h'.1
 have hkeep:Keeps w w U (fun c=>Own (l0 bx) ι c∨B.X c):=fun c _ hu=>⟨rfl,fun h=>hu (hUb c h)⟩
 have hsim:Sim w B.X (l0 bx) ι:=by
  constructor
  ·intro k q hq
   obtain ⟨rfl,os,e,rfl⟩:=hlk k q hq
   rw [e] at hB
   exact ObjAt.ok (hB.2.mono hkeep (fun _ _=>rfl))
  ·intro k k' q q' c h1 h2 _ _
   rw [(hlk k q h1).1,(hlk k' q' h2).1]
 have hst:St E B w (l0 bx) ι:=⟨Grow.refl _ _,hsim,fun c hc=>.inl hc,fun c hc=>hU c hc.1,fun k _ _=>rfl,hE,fun c hc=>⟨(hEb c hc).1,fun ho=>by obtain ⟨e1,e2⟩:=hO c ho;exact (hEb c hc).2 e2 e1⟩,(fun i=>by
  show Zar (l0 bx) (.l i)=none
  cases hq:Zar (l0 bx) (.l i) with
  |none=>rfl
  |some q=>have:=(hlk _ _ hq).1;cases this),(fun c hc ho=>by obtain ⟨e1,e2⟩:=hO c ho;exact hc.2 e2 e1)⟩
 have hlen:=hA.length
 have hfr:∀ as:List Value,ARepL w (fun c=>Own (l0 bx) ι c∨B.X c) ι (a0P pre bx args) as→StF E B w (l0 bx) ι (a0P pre bx args++yi (fn.ntmps - (a0P pre bx args).length) .any) { tmps:=as.toArray++Array.replicate (fn.ntmps - as.toArray.size) undef,defers:=[] }:=by
  intro as has
  have hl:∀ (xs:List AV) (ys:List Value),ARepL w (fun c=>Own (l0 bx) ι c∨B.X c) ι xs ys→ys.length=xs.length∧∀ (i:Nat) (x:AV),xs[i]?=some x→∃ v,ys[i]?=some v∧ARep w (fun c=>Own (l0 bx) ι c∨B.X c) ι x v:=by
   intro xs
   induction xs with
   |nil=>intro ys h;simp only [ARepL] at h;subst h;simp
   |cons x xs ih=>
    intro ys h
    simp only [ARepL] at h
    obtain ⟨v,r,rfl,h1,h2⟩:=h
    obtain ⟨g1,g2⟩:=ih r h2
    refine ⟨by simp [g1],fun i y hy=>?_⟩
    cases i with
    |zero=>simp at hy;subst hy;exact ⟨v,rfl,h1⟩
    |succ i=>simp at hy;simpa using g2 i y hy
  obtain ⟨g1,g2⟩:=hl _ _ has
  refine ⟨hst,⟨by simp [g1],fun i x hx=>?_⟩,rfl⟩
  rw [List.getElem?_append] at hx
  split at hx
  ·rename_i hi
   obtain ⟨v,hv,hrep⟩:=g2 i x hx
   refine ⟨v,?_,hrep⟩
   rw [Array.getElem?_append_left (by simp;omega)]
   simpa using hv
  ·rename_i hi
   rw [List.getElem?_replicate] at hx
   split at hx
   ·rename_i hlt
    cases hx
    refine ⟨undef,?_,trivial⟩
    rw [Array.getElem?_append_right (by simp;omega)]
    simp only [List.size_toArray]
    rw [Array.getElem?_replicate,if_pos (by rw [g1];omega)]
   ·cases hx
 have hargs:ARepL w (fun c=>Own (l0 bx) ι c∨B.X c) ι (a0P pre bx args) (us++(match bx with|none=>vs|some _=>v0 :: vs)):=by
  have hp:∀ (xs:List PV) (ys:List Value),PRepL w U xs ys→ARepL w (fun c=>Own (l0 bx) ι c∨B.X c) ι (xs.map .p) ys:=by
   intro xs
   induction xs with
   |nil=>intro ys h;simp only [PRepL] at h;subst h;simp [ARepL]
   |cons x xs ih=>
    intro ys h
    simp only [PRepL] at h
    obtain ⟨v,r,rfl,h1,h2⟩:=h
    simp only [zk,ARepL]
    exact ⟨v,r,rfl,PRep.mono hkeep _ _ h1,ih r h2⟩
  refine ARepL.append (hp pre us hPre) ?_
  have hpv:=hp args vs hA
  cases hbx:bx with
  |none=>rw [hbx] at hpv;exact hpv
  |some os=>
   rw [hbx] at hpv hB
   cases os with
   |box t cs=>
    obtain ⟨b,vs',e1,_⟩:=hB.2
    simp only [a0,ARepL]
    exact ⟨_,_,rfl,⟨b,e1,e1⟩,hpv⟩
   |row e z es=>
    obtain ⟨vs',h1,_⟩:=hB.2
    simp only [a0,ARepL]
    refine ⟨_,_,rfl,⟨rfl,?_⟩,hpv⟩
    rcases h1.2 with ⟨q1,_⟩|⟨g,cap,cur,fz,q1,_⟩
    ·exact ⟨none,0,0,q1⟩
    ·exact ⟨_,_,_,q1⟩
 refine wp_mono (qrI (qzd hm) ic c _ _ _ hchk h B w ι _ (hfr _ hargs)) ?_
 rintro e a' w' ⟨fr',L',ι',q,hs'⟩
 obtain ⟨he,v,r,os',hv,hp,hr,hbox,hown⟩:=hQ B w' L' ι' fr' a' e q hs' rfl
 have hkey:bx.isSome=true→ι' (.b 0)=v0:=by
  intro e
  refine hs'.1.keep (.b 0) ?_ (by rw [hbox e];rfl)
  show (Zar (l0 bx) (.b 0)).isSome=true
  obtain ⟨os,e⟩:=Option.isSome_iff_exists.1 e
  rw [e];simp [l0,Zar]
 have hZ:∀ c,U c→ZB L' ι' B.X c:=by
  intro c hc
  by_cases hcb:bx.isSome=true∧blk v0=some c
  ·exact .inr ⟨0,_,hbox hcb.1,by rw [hkey hcb.1];exact hcb.2⟩
  ·exact .inl ⟨hc,fun h1 h2=>hcb ⟨h1,h2⟩⟩
 have hkz:Keeps w' w' (ZB L' ι' B.X) U:=fun c _ hz=>⟨rfl,fun hu=>hz (hZ c hu)⟩
 have hres:RVok w' U w.heap.size r v:=by
  cases r with
  |p x=>exact PRep.mono hkz _ _ hr
  |fr es e z=>
   obtain ⟨vs',r1,r2,r3,r4,r5⟩:=hr
   exact ⟨vs',r1,r2,PRepL.mono (fun c _ hz=>⟨rfl,fun hu=>hz (hu.imp (hZ c) id)⟩) _ _ r3,r4,r5⟩
  |ft es e z ps=>
   obtain ⟨u,us,hv,⟨vs',r1,r2,r3,r4,r5⟩,rp⟩:=hr
   exact ⟨u,us,hv,⟨vs',r1,r2,PRepL.mono (fun c _ hz=>⟨rfl,fun hu=>hz (hu.imp (hZ c) id)⟩) _ _ r3,r4,r5⟩,PRepL.mono (fun c _ hz=>⟨rfl,fun hu=>hz (hu.imp (hZ c) id)⟩) _ _ rp⟩
 have hg:=hs'.1.grow
 have fin:∃ v_1 r os',Ending.returned v=.returned v_1∧post r os'∧RVok w' U w.heap.size r v_1∧(match bx with|none=>Grow w w' (fun _=>False)|some _=>Grow w w' (fun c=>blk v0=some c)∧ObjAt w' (fun c=>U c∨r.own v_1 c) v0 os'):=by
  refine ⟨v,r,os',rfl,hp,hres,?_⟩
  cases hbx:bx with
  |none=>exact ⟨hg.os,hg.tape,hg.output,hg.size,fun c hc _=>hg.block c hc (fun ho=>by have:=(hO c ho).2;rw [hbx] at this;cases this)⟩
  |some os=>
   have hbs:bx.isSome=true:=by rw [hbx];rfl
   refine ⟨⟨hg.os,hg.tape,hg.output,hg.size,fun c hc hn=>hg.block c hc (fun ho=>hn (hO c ho).1)⟩,?_⟩
   have hat:=ObjAt.of (hs'.1.sim.obj (.b 0) _ (hbox hbs))
   rw [hkey hbs] at hat
   refine hat.mono (fun c _ hz=>⟨rfl,fun hu=>hz ?_⟩) (fun _ _=>rfl)
   rcases hu with hu|hu
   ·rcases hZ c hu with h1|⟨i,q,h1,h2⟩
    ·exact .inr h1
    ·exact .inl ⟨_,q,h1,h2⟩
   ·exact .inl (hown c hu)
 rcases he with rfl|rfl
 ·exact ⟨hs'.2.2,v,hv,fin⟩
 ·exact ⟨hs'.2.2,v,hv,fin⟩
theorem qm4 (hm:P.follows .mixedOrders=true) {f:FuncId} {fn:Func} {c:Code} {ic:IC} {bx:Option OS} {args:List PV} {post:RV→OS→Prop} {Q:AQ} (hf:P.funcs[f]?=some fn) (hb:fn.body=some c) (hchk:chkC P qra ic c=true)
  (h:awp P E ic (a0 bx args++yi (fn.ntmps - (a0 bx args).length) .any) (l0 bx) Q)
  (hQ:∀ (B:Base) (w':World) (L:Objs) (ι:Key→Value) (fr:List AV) (a:Act) (e:Exit),Q e fr L→StF E B w' L ι fr a→B.L0=l0 bx→(e=.normal∨e=.ret)∧∃ v r os',(results fn a.tmps).run P w'=.ok v w'∧post r os'∧RVok w' (ZB L ι B.X) B.w0.heap.size r v∧(bx.isSome=true→Zar L (.b 0)=some os'.ao)∧(∀ b,r.own v b→Own L ι b)):GCall P E f bx args post:=
 GCallP.nil (ql3 (pre:=[]) hm hf hb hchk h hQ)
theorem qsG (hm:P.follows .mixedOrders=true) {f:FuncId} {fn:Func} {ic:IC} {rs:List IRes} {n:Nat} {pre:List PV} {bx:Option OS} {args:List PV} {post:RV→OS→Prop} (hf:P.funcs[f]?=some fn) (hc:chkF P fn ic rs n=true)
  (h:awp P E ic (a0P pre bx args++yi (n - (a0P pre bx args).length) .any) (l0 bx) (retQ rs (finP bx post))):GCallP P E f pre bx args post:=by
 unfold chkF at hc
 split at hc
 ·rename_i c hb
  simp only [zq,beq_iff_eq] at hc
  obtain ⟨⟨h1,h2⟩,rfl⟩:=hc
  refine ql3 hm hf hb h1 h ?_
  intro B w' L ι fr a e q hs hb0
  have key:RetK (Zbc fr L rs) (finP bx post) L→∃ v r os',(results fn a.tmps).run P w'=.ok v w'∧post r os'∧RVok w' (ZB L ι B.X) B.w0.heap.size r v∧(bx.isSome=true→Zar L (.b 0)=some os'.ao)∧(∀ b,r.own v b→Own L ι b):=by
   intro q
   obtain ⟨l,e1,e2⟩:=qs3 q
   obtain ⟨v,hv,hr⟩:=qoX hs h2 e1
   cases hbx:bx with
   |none=>rw [hbx] at e2;exact ⟨v,.p (qnl l),noOS,hv,e2,hr,(fun h=>by cases h),fun _ h=>h.elim⟩
   |some p=>
    rw [hbx] at e2
    obtain ⟨cs',g1,g2⟩:=e2
    exact ⟨v,.p (qnl l),cs',hv,g2,hr,(fun _=>g1),fun _ h=>h.elim⟩
  cases e with
  |normal=>exact ⟨.inl rfl,key q⟩
  |ret=>exact ⟨.inr rfl,key q⟩
  |_=>exact q.elim
 ·cases hc
theorem qge (hm:P.follows .mixedOrders=true) {f:FuncId} {fn:Func} {ic:IC} {rs:List IRes} {n:Nat} {bx:Option OS} {args:List PV} {post:RV→OS→Prop} (hf:P.funcs[f]?=some fn) (hc:chkF P fn ic rs n=true)
  (h:awp P E ic (a0 bx args++yi (n - (a0 bx args).length) .any) (l0 bx) (retQ rs (finP bx post))):GCall P E f bx args post:=GCallP.nil (qsG (pre:=[]) hm hf hc h)
theorem qio (hm:P.follows .mixedOrders=true) {f:FuncId} {fn:Func} {ic:IC} {i n:Nat} {bx:Option OS} {args:List PV} {post:RV→OS→Prop} (hf:P.funcs[f]?=some fn) (hc:chkF P fn ic [.t i] n=true)
  (h:awp P E ic (a0 bx args++yi (n - (a0 bx args).length) .any) (l0 bx) (retF i bx post)):GCall P E f bx args post:=by
 unfold chkF at hc
 split at hc
 ·rename_i c hb
  simp only [zq,beq_iff_eq] at hc
  obtain ⟨⟨h1,h2⟩,rfl⟩:=hc
  refine qm4 hm hf hb h1 h ?_
  intro B w' L ι fr a e q hs hb0
  have key:finF bx post i fr L→∃ v r os',(results fn a.tmps).run P w'=.ok v w'∧post r os'∧RVok w' (ZB L ι B.X) B.w0.heap.size r v∧(bx.isSome=true→Zar L (.b 0)=some os'.ao)∧(∀ b,r.own v b→Own L ι b):=by
   intro hfin
   have hres:(results fn a.tmps).run P w'=.ok (a.tmps.getD i undef) w':=by
    have hq:fn.results=#[.tmp i]:=by
     have:∀ (l:List ResultVar),qgB P l [.t i]=true→l=[.tmp i]:=by
      intro l hl
      cases l with
      |nil=>simp [qgB] at hl
      |cons x l=>
       cases l with
       |nil=>cases x<;>simp [qgB,qpT] at hl;subst hl;rfl
       |cons y l=>cases x<;>simp [qgB] at hl
     apply Array.ext'
     exact this _ h2
    exact results_tmp hq _ P w'
   rcases hfin with ⟨j,es,et,z,e1,e2,e3⟩|⟨et,z,z0,e1,e3⟩
   rotate_left
   ·have hsl:=hs.2.1.getD i
    rw [e1] at hsl
    have hv:a.tmps.getD i undef=.slice none 0 0:=hsl
    have hrv:RVok w' (ZB L ι B.X) B.w0.heap.size (.fr [] et z) (a.tmps.getD i undef):=by
     rw [hv]
     exact ⟨[],⟨by simp,.inl ⟨rfl,rfl⟩⟩,by simp,by simp [PRepL],by simp,fun b hb=>by simp [blk] at hb⟩
    have hno:∀ b,RV.own (.fr [] et z) (a.tmps.getD i undef) b→Own L ι b:=fun b hb=>by rw [hv] at hb;simp [RV.own,blk] at hb
    cases hbx:bx with
    |none=>rw [hbx] at e3;exact ⟨_,.fr [] et z,noOS,hres,e3,hrv,(fun h=>by cases h),hno⟩
    |some p=>
     rw [hbx] at e3
     obtain ⟨cs',g1,g2⟩:=e3
     exact ⟨_,.fr [] et z,cs',hres,g2,hrv,(fun _=>g1),hno⟩
   have hsl:=hs.2.1.getD i
   rw [e1] at hsl
   obtain ⟨hv,A,m,cp,hvs⟩:=hsl
   obtain ⟨vs,hrow,g2,g3,g4⟩:=hs.1.sim.obj _ _ e2
   have hblkO:∀ b,blk (a.tmps.getD i undef)=some b→Own L ι b:=fun b hb'=>⟨_,_,e2,by rw [← hv];exact hb'⟩
   have hrow':RowOk w' et z true (a.tmps.getD i undef) es.length vs:=by rw [hv];exact hrow
   have hZ0:bx.isSome=true→∃ q,Zar L (.b 0)=some q:=by
    intro hbs
    cases hbx:bx with
    |none=>rw [hbx] at hbs;cases hbs
    |some p=>rw [hbx] at e3;obtain ⟨cs',g1,_⟩:=e3;exact ⟨_,g1⟩
   have hrv:RVok w' (ZB L ι B.X) B.w0.heap.size (.fr es et z) (a.tmps.getD i undef):=by
    refine ⟨vs,hrow',g2,PRepL.mono (fun c _ hu=>⟨rfl,?_⟩) _ _ g3,g4,fun b hb'=>?_⟩
    ·rintro ((hx|⟨i',q',h1,h2⟩)|hx)
     ·exact hu (.inr hx)
     ·exact hu (.inl ⟨_,q',h1,h2⟩)
     ·exact hu (.inl (hblkO c hx))
    ·rcases hs.1.own b (hblkO b hb') with h'|h'
     ·obtain ⟨k0,q0,h5,h6⟩:=h'
      rw [hb0] at h5
      cases hbx:bx with
      |none=>rw [hbx] at h5;simp [l0,Zar] at h5
      |some p=>
       obtain ⟨q1,hq1⟩:=hZ0 (by rw [hbx];rfl)
       rw [hbx] at h5
       simp only [l0,Zar] at h5
       split at h5
       ·rename_i ek
        subst ek
        have hk0:ι (.b 0)=B.i0 (.b 0):=hs.1.keep (.b 0) (by rw [hb0,hbx];simp [l0,Zar]) (by rw [hq1];rfl)
        have:=hs.1.sim.inj (.b 0) (.l j) q1 _ b hq1 e2 (by rw [hk0];exact h6) (by rw [← hv];exact hb')
        cases this
       ·cases h5
     ·exact h'
   cases hbx:bx with
   |none=>rw [hbx] at e3;exact ⟨_,.fr es et z,noOS,hres,e3,hrv,(fun h=>by cases h),hblkO⟩
   |some p=>
    rw [hbx] at e3
    obtain ⟨cs',g1,g2⟩:=e3
    exact ⟨_,.fr es et z,cs',hres,g2,hrv,(fun _=>g1),hblkO⟩
  cases e with
  |normal=>exact ⟨.inl rfl,key q⟩
  |ret=>exact ⟨.inr rfl,key q⟩
  |_=>exact q.elim
 ·cases hc
theorem qqv {B:Base} {w:World} {L:Objs} {ι:Key→Value} {fr:List AV} {a:Act} (hs:StF E B w L ι fr a):∀ {is:List Nat} {ps:List PV},qsW fr is=some ps→PRepL w (fun b=>Own L ι b∨B.X b) ps (is.map fun i=>a.tmps.getD i undef)
 |[],ps,h=>by simp only [qsW,zn] at h;subst h;simp [PRepL]
 |i :: r,ps,h=>by
  simp only [qsW] at h
  split at h
  ·rename_i x e
   obtain ⟨l,hl,rfl⟩:=zp.1 h
   have hr:=hs.2.1.getD i
   rw [e] at hr
   simp only [zk,PRepL]
   exact ⟨_,_,rfl,hr,qqv hs hl⟩
  ·cases h
theorem qn7 {P:Program}:∀ {l:List ResultVar} {is:List Nat},qgB P l (is.map .t)=true→l=is.map .tmp
 |[],[],_=>rfl
 |[],_ :: _,h=>by simp [qgB] at h
 |_ :: _,[],h=>by simp [qgB] at h
 |x :: l,i :: is,h=>by
  simp only [zk,qgB,zq] at h
  cases x with
  |tmp t=>simp only [qpT,beq_iff_eq] at h;rw [h.1,qn7 h.2];rfl
  |cell t ty=>simp [qpT] at h
theorem qzb (hm:P.follows .mixedOrders=true) {f:FuncId} {fn:Func} {ic:IC} {i i2 n:Nat} {is:List Nat} {bx:Option OS} {args:List PV} {post:RV→OS→Prop} (hf:P.funcs[f]?=some fn) (hc:chkF P fn ic ((i :: i2 :: is).map .t) n=true)
  (h:awp P E ic (a0 bx args++yi (n - (a0 bx args).length) .any) (l0 bx) (retT i (i2 :: is) bx post)):GCall P E f bx args post:=by
 unfold chkF at hc
 split at hc
 ·rename_i c hb
  simp only [zq,beq_iff_eq] at hc
  obtain ⟨⟨h1,h2⟩,rfl⟩:=hc
  refine qm4 hm hf hb h1 h ?_
  intro B w' L ι fr a e q hs hb0
  have key:finT bx post i (i2 :: is) fr L→∃ v r os',(results fn a.tmps).run P w'=.ok v w'∧post r os'∧RVok w' (ZB L ι B.X) B.w0.heap.size r v∧(bx.isSome=true→Zar L (.b 0)=some os'.ao)∧(∀ b,r.own v b→Own L ι b):=by
   intro hfin
   have hres:(results fn a.tmps).run P w'=.ok (.tuple ((i :: i2 :: is).map fun j=>a.tmps.getD j undef).toArray) w':=by
    have hq:fn.results=((i :: i2 :: is).map ResultVar.tmp).toArray:=by
     apply Array.ext'
     rw [qn7 h2]
    have hm1:∀ js:List Nat,((js.map ResultVar.tmp).mapM (res1 a.tmps)).run P w'=.ok (js.map fun j=>a.tmps.getD j undef) w':=by
     intro js
     induction js with
     |nil=>rfl
     |cons j js ih=>
      have h1:(res1 a.tmps (.tmp j)).run P w'=.ok (a.tmps.getD j undef) w':=rfl
      simp only [zk,List.mapM_cons,Sem.run_bind,h1,Result.andThen_ok,ih]
      rfl
    have e0:results fn a.tmps=(do let vs ← fn.results.mapM (res1 a.tmps);pure (if h:vs.size=1 then vs[0] else .tuple vs)):=by
     unfold results
     congr 1
    rw [e0,hq,Array.mapM_eq_mapM_toList]
    simp only [← bind_pure_comp,Sem.run_bind,bind_assoc]
    rw [hm1]
    simp
   rcases hfin with ⟨j,es,et,z,ps,e1,e2,e4,e3⟩|⟨et,z,z0,ps,e1,e4,e3⟩
   rotate_left
   ·have hsl:=hs.2.1.getD i
    rw [e1] at hsl
    have hv:a.tmps.getD i undef=.slice none 0 0:=hsl
    have hps:=qqv hs e4
    have hrv:RVok w' (ZB L ι B.X) B.w0.heap.size (.ft [] et z ps) (.tuple ((i :: i2 :: is).map fun j=>a.tmps.getD j undef).toArray):=by
     refine ⟨_,_,rfl,?_,PRepL.mono (fun c _ hu=>⟨rfl,?_⟩) _ _ hps⟩
     ·show FrOk w' (ZB L ι B.X) B.w0.heap.size [] et z (a.tmps.getD i undef)
      rw [hv]
      exact ⟨[],⟨by simp,.inl ⟨rfl,rfl⟩⟩,by simp,by simp [PRepL],by simp,fun b hb=>by simp [blk] at hb⟩
     ·rintro ((hx|⟨i',q',h1,h2⟩)|hx)
      ·exact hu (.inr hx)
      ·exact hu (.inl ⟨_,q',h1,h2⟩)
      ·have hx:blk (a.tmps.getD i undef)=some c:=hx
       rw [hv] at hx;simp [blk] at hx
    have hno:∀ b,RV.own (.ft [] et z ps) (.tuple ((i :: i2 :: is).map fun j=>a.tmps.getD j undef).toArray) b→Own L ι b:=fun b hb=>by
     have hb:blk (a.tmps.getD i undef)=some b:=hb
     rw [hv] at hb;simp [blk] at hb
    cases hbx:bx with
    |none=>rw [hbx] at e3;exact ⟨_,.ft [] et z ps,noOS,hres,e3,hrv,(fun h=>by cases h),hno⟩
    |some p=>
     rw [hbx] at e3
     obtain ⟨cs',g1,g2⟩:=e3
     exact ⟨_,.ft [] et z ps,cs',hres,g2,hrv,(fun _=>g1),hno⟩
   have hsl:=hs.2.1.getD i
   rw [e1] at hsl
   obtain ⟨hv,A,m,cp,hvs⟩:=hsl
   obtain ⟨vs,hrow,g2,g3,g4⟩:=hs.1.sim.obj _ _ e2
   have hblkO:∀ b,blk (a.tmps.getD i undef)=some b→Own L ι b:=fun b hb'=>⟨_,_,e2,by rw [← hv];exact hb'⟩
   have hrow':RowOk w' et z true (a.tmps.getD i undef) es.length vs:=by rw [hv];exact hrow
   have hZ0:bx.isSome=true→∃ q,Zar L (.b 0)=some q:=by
    intro hbs
    cases hbx:bx with
    |none=>rw [hbx] at hbs;cases hbs
    |some p=>rw [hbx] at e3;obtain ⟨cs',g1,_⟩:=e3;exact ⟨_,g1⟩
   have hkz:Keeps w' w' (fun b=>Own L ι b∨B.X b) (fun b=>ZB L ι B.X b∨blk (a.tmps.getD i undef)=some b):=by
    refine fun c _ hu=>⟨rfl,?_⟩
    rintro ((hx|⟨i',q',h1,h2⟩)|hx)
    ·exact hu (.inr hx)
    ·exact hu (.inl ⟨_,q',h1,h2⟩)
    ·exact hu (.inl (hblkO c hx))
   have hrv:RVok w' (ZB L ι B.X) B.w0.heap.size (.ft es et z ps) (.tuple ((i :: i2 :: is).map fun j=>a.tmps.getD j undef).toArray):=by
    refine ⟨_,_,rfl,⟨vs,hrow',g2,PRepL.mono hkz _ _ g3,g4,fun b hb'=>?_⟩,PRepL.mono hkz _ _ (qqv hs e4)⟩
    rcases hs.1.own b (hblkO b hb') with h'|h'
    ·obtain ⟨k0,q0,h5,h6⟩:=h'
     rw [hb0] at h5
     cases hbx:bx with
     |none=>rw [hbx] at h5;simp [l0,Zar] at h5
     |some p=>
      obtain ⟨q1,hq1⟩:=hZ0 (by rw [hbx];rfl)
      rw [hbx] at h5
      simp only [l0,Zar] at h5
      split at h5
      ·rename_i ek
       subst ek
       have hk0:ι (.b 0)=B.i0 (.b 0):=hs.1.keep (.b 0) (by rw [hb0,hbx];simp [l0,Zar]) (by rw [hq1];rfl)
       have:=hs.1.sim.inj (.b 0) (.l j) q1 _ b hq1 e2 (by rw [hk0];exact h6) (by rw [← hv];exact hb')
       cases this
      ·cases h5
    ·exact h'
   have hown2:∀ b,RV.own (.ft es et z ps) (.tuple ((i :: i2 :: is).map fun j=>a.tmps.getD j undef).toArray) b→Own L ι b:=fun b hb=>hblkO b hb
   cases hbx:bx with
   |none=>rw [hbx] at e3;exact ⟨_,.ft es et z ps,noOS,hres,e3,hrv,(fun h=>by cases h),hown2⟩
   |some p=>
    rw [hbx] at e3
    obtain ⟨cs',g1,g2⟩:=e3
    exact ⟨_,.ft es et z ps,cs',hres,g2,hrv,(fun _=>g1),hown2⟩
  cases e with
  |normal=>exact ⟨.inl rfl,key q⟩
  |ret=>exact ⟨.inr rfl,key q⟩
  |_=>exact q.elim
 ·cases hc
def qhI (P:Program) (E:Envt) (f:FuncId) (t:TypeId) (cs args:List PV) (ψ:PV→List PV→Prop):Prop:=GCall P E f (some (.box t cs)) args fun r os=>∃ x cs',r=.p x∧os=.box t cs'∧ψ x cs'
def qox (P:Program) (E:Envt) (f:FuncId) (t:TypeId) (cs args:List PV) (e z:Nat) (ψ:List (List PV)→List PV→Prop):Prop:=GCall P E f (some (.box t cs)) args fun r os=>∃ es cs',r=.fr es e z∧os=.box t cs'∧ψ es cs'
def FCall (P:Program) (E:Envt) (f:FuncId) (args:List PV) (e z:Nat) (φ:List (List PV)→Prop):Prop:=GCall P E f none args fun r _=>∃ es,r=.fr es e z∧φ es
def RCall (P:Program) (E:Envt) (f:FuncId) (e z:Nat) (es:List (List PV)) (args:List PV) (ψ:PV→List (List PV)→Prop):Prop:=GCall P E f (some (.row e z es)) args fun r os=>∃ x es',r=.p x∧os=.row e z es'∧ψ x es'
def qoz (P:Program) (E:Envt) (f:FuncId) (pre:List PV) (e z:Nat) (es:List (List PV)) (args:List PV) (ψ:PV→List (List PV)→Prop):Prop:=GCallP P E f pre (some (.row e z es)) args fun r os=>∃ x es',r=.p x∧os=.row e z es'∧ψ x es'
def STup (P:Program) (E:Envt) (f:FuncId) (t:TypeId) (cs args:List PV) (e z:Nat) (ψ:List (List PV)→List PV→List PV→Prop):Prop:=GCall P E f (some (.box t cs)) args fun r os=>∃ es ps cs',r=.ft es e z ps∧os=.box t cs'∧ψ es ps cs'
theorem qoF {f:FuncId} {args:List PV} {e z:Nat} {φ:List (List PV)→Prop} (h:FCall P E f args e z φ):PCall P E f args (fun x=>∃ es,x=.sl z es∧φ es):=by
 intro w U vs hU hE hEb hA
 refine (h w U vs undef hU hE (fun c hc=>⟨hEb c hc,fun h=>by cases h⟩) hA trivial).mono ?_
 rintro en w' ⟨v,r,cs',rfl,⟨es,rfl,hφ⟩,⟨vs',r1,r2,r3,r4,r5⟩,hG⟩
 refine ⟨v,.sl z es,rfl,⟨es,rfl,hφ⟩,?_,hG⟩
 rcases r1.2 with ⟨g1,g2⟩|⟨g,cap,cur,fz,g1,g2,g3,_⟩
 ·exact ⟨none,0,by rw [g1,g2],by omega,fun hne=>absurd (List.eq_nil_of_length_eq_zero g2) hne⟩
 ·have hgl:g < w'.heap.size:=(Array.getElem?_eq_some_iff.1 g2).1
  refine ⟨_,cap,g1,g3,fun _=>⟨g,0,rfl,hgl,fun hu=>?_,?_⟩⟩
  ·have:=hU g hu
   have:=r5 g (by rw [g1];rfl)
   omega
  ·have hc:=r1.cells g1
   have key:∀ (es:List (List PV)) (vs:List Value) (off:Nat),(∀ x∈es,x.length=z)→PRepL w' (fun b=>U b∨blk v=some b) es.flatten vs→(∀ v∈vs,v.oneCell'=true)→(∀ j u,vs[j]?=some u→w'.cell? ⟨g,off+j,none⟩=some u)→PRepE w' U g z off es:=by
    intro es
    induction es with
    |nil=>intros;simp [PRepE]
    |cons x r ih=>
     intro vs off hz hv h1 hc
     simp only [PRepE]
     have hx:=hz x (by simp)
     simp only [List.flatten_cons] at hv
     have ha:=hv.take x.length
     have hb:=hv.drop x.length
     rw [List.take_left] at ha
     rw [List.drop_left] at hb
     refine ⟨hx,PRepC.of (PRepL.mono (fun c _ hu=>⟨rfl,fun h=>hu (.inl h)⟩) _ _ ha) (fun v hv=>h1 v (List.mem_of_mem_take hv)) (fun j u hu=>hc j u (by rw [List.getElem?_take] at hu;split at hu;exact hu;cases hu)),ih _ (off+z) (fun y hy=>hz y (by simp [hy])) hb (fun v hv=>h1 v (List.mem_of_mem_drop hv)) (fun j u hu=>?_)⟩
     rw [List.getElem?_drop] at hu
     have:=hc _ u hu
     rwa [hx,← Nat.add_assoc] at this
   exact key es vs' 0 r4 r3 r2 (fun j u hu=>by rw [Nat.zero_add];exact hc j u hu)
variable {L:Objs} {fr:List AV} {X:List PV} {K:List AV→Objs→Prop}
theorem qAD {f:FuncId} {as:List AV} {ps:List PV} {post:RV→OS→Prop} (h:GCall P E f none ps post) (ha:Zbg L as=some ps) (hn:Zbi as=true):GC P E f as L none post:=by
 intro w X ι vs hs hX hE hEb hA
 exact h w (fun b=>Own L ι b∨X b) vs undef (fun b hb=>hb.elim (fun h=>qbX hs h) (fun h=>(hX b h).1)) hE (fun b hb=>⟨(hEb b hb).1,fun h=>by cases h⟩) (qjo hn ha hA) trivial
def AV.key1 (k:Key):OS→AV
 |.box _ _=>.adr k 0
 |.row _ _ _=>.row k
theorem qrs {f:FuncId} {as:List AV} {ps:List PV} {os:OS} {k:Key} {post:RV→OS→Prop} (h:GCall P E f (some os) ps post) (hl:Zar L k=some os.ao) (ha:Zbg L as=some ps) (hn:Zbi as=true):GC P E f (AV.key1 k os :: as) L (some (k,os)) post:=by
 intro w X ι vs hs hX hE hEb hA
 simp only [ARepL] at hA
 obtain ⟨v0,vr,rfl,hv0,hA⟩:=hA
 have hv0:v0=ι k:=by
  cases os with
  |box t cs=>obtain ⟨b,e1,e2⟩:=hv0;rw [e1,e2]
  |row e z es=>exact hv0.1
 subst hv0
 have hOb:∀ c,blk (ι k)=some c→Own L ι c:=fun c hc=>⟨k,_,hl,hc⟩
 refine (h w (fun b=>Own L ι b∨X b) vr (ι k) (fun b hb=>hb.elim (fun h=>qbX hs h) (fun h=>(hX b h).1)) hE (fun c hc=>⟨(hEb c hc).1,fun _ e=>(hEb c hc).2 (hOb c e)⟩) (qjo hn ha hA) ⟨fun c hc=>.inl (hOb c hc),ObjAt.of (hs.obj k _ hl)⟩).mono ?_
 rintro e w' ⟨v,r,os',rfl,hp,hr,hG,hB⟩
 exact ⟨v,r,os',rfl,hp,hr,⟨hG.os,hG.tape,hG.output,hG.size,fun c hc hn=>hG.block c hc (fun ec=>hn ⟨_,hl,ec⟩)⟩,hB⟩
theorem qrN {w:World} {U:Nat→Prop} {ι:Key→Value}:∀ {as:List AV} {ps:List PV} {vs:List Value},qiC as=some ps→ARepL w U ι as vs→PRepL w U ps vs:=by
 intro as
 induction as with
 |nil=>intro ps vs h hr;simp only [qiC,zn] at h;subst h;exact hr
 |cons a as ih=>
  intro ps vs h hr
  cases a with
  |p x=>
   simp only [qiC,zp] at h
   obtain ⟨l,e2,rfl⟩:=h
   simp only [ARepL] at hr
   obtain ⟨v,r,rfl,h1,h2⟩:=hr
   simp only [PRepL]
   exact ⟨v,r,rfl,h1,ih e2 h2⟩
  |_=>simp [qiC] at h
theorem ARepL.split {w:World} {U:Nat→Prop} {ι:Key→Value}:∀ {as bs:List AV} {vs:List Value},ARepL w U ι (as++bs) vs→∃ us ws,vs=us++ws∧ARepL w U ι as us∧ARepL w U ι bs ws
 |[],bs,vs,h=>⟨[],vs,rfl,by simp [ARepL],h⟩
 |a :: as,bs,vs,h=>by
  simp only [List.cons_append,ARepL] at h
  obtain ⟨v,r,rfl,h1,h2⟩:=h
  obtain ⟨us,ws,rfl,h3,h4⟩:=ARepL.split h2
  exact ⟨v :: us,ws,rfl,by simp only [ARepL];exact ⟨v,us,rfl,h1,h3⟩,h4⟩
theorem qAC {f:FuncId} {as0 as:List AV} {pre ps:List PV} {os:OS} {k:Key} {post:RV→OS→Prop} (h:GCallP P E f pre (some os) ps post) (hl:Zar L k=some os.ao) (ha0:qiC as0=some pre) (ha:Zbg L as=some ps) (hn:Zbi as=true):GC P E f (as0++AV.key1 k os :: as) L (some (k,os)) post:=by
 intro w X ι vs hs hX hE hEb hA
 obtain ⟨us,ws,hvs,hA0,hA1⟩:=ARepL.split hA
 clear hA
 subst hvs
 simp only [ARepL] at hA1
 obtain ⟨v0,vr,hws,hv0,hA2⟩:=hA1
 subst hws
 have hv0:v0=ι k:=by
  cases os with
  |box t cs=>obtain ⟨b,e1,e2⟩:=hv0;rw [e1,e2]
  |row e z es=>exact hv0.1
 subst hv0
 have hOb:∀ c,blk (ι k)=some c→Own L ι c:=fun c hc=>⟨k,_,hl,hc⟩
 refine (h w (fun b=>Own L ι b∨X b) us vr (ι k) (fun b hb=>hb.elim (fun h=>qbX hs h) (fun h=>(hX b h).1)) hE (fun c hc=>⟨(hEb c hc).1,fun _ e=>(hEb c hc).2 (hOb c e)⟩) (qrN ha0 hA0) (qjo hn ha hA2) ⟨fun c hc=>.inl (hOb c hc),ObjAt.of (hs.obj k _ hl)⟩).mono ?_
 rintro e w' ⟨v,r,os',rfl,hp,hr,hG,hB⟩
 exact ⟨v,r,os',rfl,hp,hr,⟨hG.os,hG.tape,hG.output,hG.size,fun c hc hn=>hG.block c hc (fun ec=>hn ⟨_,hl,ec⟩)⟩,hB⟩
theorem useS {f:FuncId} {as:List AV} {ps cs:List PV} {t:TypeId} {k:Key} {ψ:PV→List PV→Prop} {d:Option Nat} {is:List IOper} (h:qhI P E f t cs ps ψ) (hl:Zar L k=some (.box (cs.map .p) t)) (ha:Zbg L as=some ps) (hn:Zbi as=true) (hs:Zbk d (some (k,.box t cs)))
  (hk:∀ x cs',ψ x cs'→qaa P E X is (Zf fr d (.p x)) (Zas L k (.box (cs'.map .p) t)) K):qeg P E f (.adr k 0 :: as) L d fr (qjc P E X is K):=
 .inr (.inl ⟨some (k,.box t cs),_,qrs h hl ha hn,hl,hs,fun r os' hp=>by obtain ⟨x,cs',rfl,rfl,hx⟩:=hp;exact hk x cs' hx⟩)
theorem qmp {L L':Objs}:∀ {as:List AV},Zbi as=true→Zbg L as=Zbg L' as
 |[],_=>rfl
 |a :: r,h=>by
  have e:Zbh L a=Zbh L' a∧Zbi r=true:=by
   cases a<;>simp only [Zbi,Bool.false_eq_true,zq,List.isEmpty_iff] at h
   case fn f ks=>obtain ⟨rfl,h⟩:=h;exact ⟨rfl,h⟩
   all_goals exact ⟨rfl,h⟩
  simp only [Zbg]
  rw [e.1,qmp (L:=L) (L':=L') e.2]
theorem useD {b:Bool} {f:FuncId} {as:List AV} {ps cs:List PV} {t:TypeId} {k:Key} {ψ:PV→List PV→Prop} {d:Option Nat} {is:List IOper} (h:qhI P E f t cs ps ψ) (hne:∃ x cs',ψ x cs') (hl:Zar L k=some (.box (cs.map .p) t)) (ha:Zbg L as=some ps) (hn:Zbi as=true) (hs:Zbk d (some (k,.box t cs))) (hb:b=true→∃ j,k=.b j)
  (hk:∀ x cs',ψ x cs'→qaa P E X is (Zf fr d (.p x)) (Zas L k (.box (cs'.map .p) t)) K):DCallOp b P E f (.adr k 0 :: as) L d fr (qjc P E X is K):=
 ⟨k,t,cs,ψ,fun L' hl'=>qrs h hl' ((qmp hn).symm.trans ha) hn,hl,(fun e he=>by subst he;exact hs),hb,hne,hk⟩
theorem qw6 {f:FuncId} {as:List AV} {ps cs:List PV} {t:TypeId} {k:Key} {e z:Nat} {ψ:List (List PV)→List PV→Prop} {d:Nat} {is:List IOper} (h:qox P E f t cs ps e z ψ) (hl:Zar L k=some (.box (cs.map .p) t)) (ha:Zbg L as=some ps) (hn:Zbi as=true) (hs:Zbk (some d) (some (k,.box t cs)))
  (hk:∀ es cs',ψ es cs'→qaa P E X is ((fr.map (·.kill (.l d))).set d (.row (.l d))) (Zau (Zas L k (.box (cs'.map .p) t)) (.l d) (.row es e z true)) K):qeg P E f (.adr k 0 :: as) L (some d) fr (qjc P E X is K):=
 .inr (.inl ⟨some (k,.box t cs),_,qrs h hl ha hn,hl,hs,fun r os' hp=>by obtain ⟨es,cs',rfl,rfl,hx⟩:=hp;exact hk es cs' hx⟩)
theorem qBo {f:FuncId} {as:List AV} {ps cs:List PV} {t:TypeId} {k:Key} {e z:Nat} {ψ:List (List PV)→List PV→List PV→Prop} {d:Nat} {is:List IOper} (h:STup P E f t cs ps e z ψ) (hl:Zar L k=some (.box (cs.map .p) t)) (ha:Zbg L as=some ps) (hn:Zbi as=true) (hs:Zbk (some d) (some (k,.box t cs)))
  (hk:∀ es xs cs',ψ es xs cs'→qaa P E X is ((fr.map (·.kill (.l d))).set d (.tr (.l d) xs)) (Zau (Zas L k (.box (cs'.map .p) t)) (.l d) (.row es e z true)) K):qeg P E f (.adr k 0 :: as) L (some d) fr (qjc P E X is K):=
 .inr (.inl ⟨some (k,.box t cs),_,qrs h hl ha hn,hl,hs,fun r os' hp=>by obtain ⟨es,xs,cs',rfl,rfl,hx⟩:=hp;exact hk es xs cs' hx⟩)
theorem useF {f:FuncId} {as:List AV} {ps:List PV} {e z:Nat} {φ:List (List PV)→Prop} {d:Nat} {is:List IOper} (h:FCall P E f ps e z φ) (ha:Zbg L as=some ps) (hn:Zbi as=true)
  (hk:∀ es,φ es→qaa P E X is ((fr.map (·.kill (.l d))).set d (.row (.l d))) (Zau L (.l d) (.row es e z true)) K):qeg P E f as L (some d) fr (qjc P E X is K):=
 .inr (.inl ⟨none,_,qAD h ha hn,trivial,trivial,fun r cs' hp=>by obtain ⟨es,rfl,hx⟩:=hp;exact hk es hx⟩)
theorem qrO:∀ ps:List PV,qiC (ps.map .p)=some ps
 |[]=>rfl
 |x :: r=>by simp only [zk,qiC,qrO r,Option.map_some]
theorem qCB {f:FuncId} {ps:List PV} {e z:Nat} {es:List (List PV)} (h:FCall P E f ps e z (·=es)):FrC P E f ps e z es:=fun L w X ι vs hs hX hE hEb hA=>
 (h w (fun b=>Own L ι b∨X b) vs undef (fun b hb=>hb.elim (fun h=>qbX hs h) (fun h=>(hX b h).1)) hE (fun b hb=>⟨(hEb b hb).1,fun h=>by cases h⟩) (qrN (qrO ps) hA) trivial).mono (by
  rintro en w' ⟨v,r,cs',rfl,⟨es',rfl,rfl⟩,h2⟩
  exact ⟨v,_,cs',rfl,rfl,h2⟩)
theorem useR {f:FuncId} {as:List AV} {ps:List PV} {e z:Nat} {es:List (List PV)} {k:Key} {ψ:PV→List (List PV)→Prop} {d:Option Nat} {is:List IOper} (h:RCall P E f e z es ps ψ) (hl:Zar L k=some (.row es e z true)) (ha:Zbg L as=some ps) (hn:Zbi as=true) (hs:Zbk d (some (k,.row e z es)))
  (hk:∀ x es',ψ x es'→qaa P E X is (Zf fr d (.p x)) (Zas L k (.row es' e z true)) K):qeg P E f (.row k :: as) L d fr (qjc P E X is K):=
 .inr (.inl ⟨some (k,.row e z es),_,qrs h hl ha hn,hl,hs,fun r os' hp=>by obtain ⟨x,es',rfl,rfl,hx⟩:=hp;exact hk x es' hx⟩)
theorem qzp {f:FuncId} {as as0 as1:List AV} {pre ps:List PV} {e z:Nat} {es:List (List PV)} {k:Key} {ψ:PV→List (List PV)→Prop} {d:Option Nat} {is:List IOper} (h:qoz P E f pre e z es ps ψ) (he:as=as0++.row k :: as1) (hl:Zar L k=some (.row es e z true)) (ha0:qiC as0=some pre) (ha:Zbg L as1=some ps) (hn:Zbi as1=true) (hs:Zbk d (some (k,.row e z es)))
  (hk:∀ x es',ψ x es'→qaa P E X is (Zf fr d (.p x)) (Zas L k (.row es' e z true)) K):qeg P E f as L d fr (qjc P E X is K):=by
 subst he
 exact .inr (.inl ⟨some (k,.row e z es),_,qAC h hl ha0 ha hn,hl,hs,fun r os' hp=>by obtain ⟨x,es',rfl,rfl,hx⟩:=hp;exact hk x es' hx⟩)
theorem GCall.mono {f:FuncId} {bx:Option OS} {args:List PV} {post post':RV→OS→Prop} (h:GCall P E f bx args post) (hp:∀ r os,post r os→post' r os):GCall P E f bx args post':=by
 intro w U vs v0 hU hE hEb hA hB
 refine (h w U vs v0 hU hE hEb hA hB).mono ?_
 rintro e w' ⟨v,r,os',h1,h2,h3⟩
 exact ⟨v,r,os',h1,hp r os' h2,h3⟩
theorem RCall.mono {f:FuncId} {e z:Nat} {es:List (List PV)} {args:List PV} {ψ ψ':PV→List (List PV)→Prop} (h:RCall P E f e z es args ψ) (hp:∀ x es,ψ x es→ψ' x es):RCall P E f e z es args ψ':=
 GCall.mono h fun r os ⟨x,es',h1,h2,h3⟩=>⟨x,es',h1,h2,hp x es' h3⟩
theorem FCall.mono {f:FuncId} {e z:Nat} {args:List PV} {φ φ':List (List PV)→Prop} (h:FCall P E f args e z φ) (hp:∀ es,φ es→φ' es):FCall P E f args e z φ':=
 GCall.mono h fun r os ⟨es,h1,h2⟩=>⟨es,h1,hp es h2⟩
theorem PCall.mono {f:FuncId} {args:List PV} {φ φ':PV→Prop} (h:PCall P E f args φ) (hp:∀ x,φ x→φ' x):PCall P E f args φ':=by
 intro w U vs hU hE hEb hA
 refine (h w U vs hU hE hEb hA).mono ?_
 rintro e w' ⟨v,x,h1,h2,h3⟩
 exact ⟨v,x,h1,hp x h2,h3⟩
theorem qec {t:TypeId} {cs:List PV} {ψ:PV→List PV→Prop} {x:PV} (cs':List PV) (h1:Zar L (.b 0)=some (.box (cs'.map .p) t)) (h2:ψ x cs'):finP (some (.box t cs)) (fun r os=>∃ x cs',r=.p x∧os=.box t cs'∧ψ x cs') x L:=⟨.box t cs',h1,x,cs',rfl,rfl,h2⟩
theorem qjK {e z:Nat} {es:List (List PV)} {ψ:PV→List (List PV)→Prop} {x:PV} (es':List (List PV)) (h1:Zar L (.b 0)=some (.row es' e z true)) (h2:ψ x es'):finP (some (.row e z es)) (fun r os=>∃ x es',r=.p x∧os=.row e z es'∧ψ x es') x L:=⟨.row e z es',h1,x,es',rfl,rfl,h2⟩
theorem qle {i e z:Nat} {φ:List (List PV)→Prop} (j:Nat) (es:List (List PV)) (h0:fr.getD i .any=.row (.l j)) (h1:Zar L (.l j)=some (.row es e z true)) (h2:φ es):finF none (fun r _=>∃ es,r=.fr es e z∧φ es) i fr L:=.inl ⟨j,es,e,z,h0,h1,es,rfl,h2⟩
theorem qm5 {i e z:Nat} {t:TypeId} {cs:List PV} {ψ:List (List PV)→List PV→Prop} (j:Nat) (es:List (List PV)) (cs':List PV) (h0:fr.getD i .any=.row (.l j)) (h1:Zar L (.l j)=some (.row es e z true)) (h3:Zar L (.b 0)=some (.box (cs'.map .p) t)) (h2:ψ es cs'):finF (some (.box t cs)) (fun r os=>∃ es cs',r=.fr es e z∧os=.box t cs'∧ψ es cs') i fr L:=.inl ⟨j,es,e,z,h0,h1,.box t cs',h3,es,cs',rfl,rfl,h2⟩
theorem qwk {i e z:Nat} {is:List Nat} {t:TypeId} {cs:List PV} {ψ:List (List PV)→List PV→List PV→Prop} (j:Nat) (es:List (List PV)) (ps cs':List PV) (h0:fr.getD i .any=.row (.l j)) (h1:Zar L (.l j)=some (.row es e z true)) (h4:qsW fr is=some ps) (h3:Zar L (.b 0)=some (.box (cs'.map .p) t)) (h2:ψ es ps cs'):finT (some (.box t cs)) (fun r os=>∃ es ps cs',r=.ft es e z ps∧os=.box t cs'∧ψ es ps cs') i is fr L:=.inl ⟨j,es,e,z,ps,h0,h1,h4,.box t cs',h3,es,ps,cs',rfl,rfl,h2⟩
end
end Go.Proofs.YtehfjlpenlffmaaGreatDoor
namespace Go.Proofs.YtehfjlpenlffmaaGreatDoor
open Go.RowKit
def qsM:PV→Bool
 |.int ..|.bool _|.str _=>true
 |_=>false
def valD:PV→Value
 |.int k n=>.int k n
 |.bool b=>.bool b
 |.str s=>.string ⟨s.toArray⟩
 |_=>undef
theorem PRep.valD {w:World} {U:Nat→Prop} {x:PV} {v:Value} (hf:qsM x=true):PRep w U x v↔v=valD x:=by
 cases x<;>simp_all [qsM,PRep,Go.Proofs.YtehfjlpenlffmaaGreatDoor.valD]
theorem PRepL.valD {w:World} {U:Nat→Prop}:∀ {xs:List PV} {vs:List Value},(xs.all qsM)=true→(PRepL w U xs vs↔vs=xs.map Go.Proofs.YtehfjlpenlffmaaGreatDoor.valD):=by
 intro xs
 induction xs with
 |nil=>intro vs _;simp [PRepL]
 |cons x r ih=>
  intro vs h
  simp only [List.all_cons,Bool.and_eq_true] at h
  simp only [PRepL,List.map_cons]
  constructor
  ·rintro ⟨v,s,rfl,h1,h2⟩
   rw [PRep.valD h.1] at h1
   rw [ih h.2] at h2
   rw [h1,h2]
  ·rintro rfl
   exact ⟨_,_,rfl,(PRep.valD h.1).2 rfl,(ih h.2).2 rfl⟩
section
variable {P:Program} {E:Envt}
theorem qiX {w w':World} {O:Nat→Prop} (h:Below w.heap.size w w'):Grow w w' O:=⟨h.os,h.tape,h.output,h.size,fun b hb _=>h.block b hb⟩
def qx5:PV→Bool
 |.tup cs=>cs.all qsM
 |x=>qsM x
def valX:PV→Value
 |.tup cs=>.tuple (cs.map valD).toArray
 |x=>valD x
theorem PRep.valX {w:World} {U:Nat→Prop} {x:PV} (hf:qx5 x=true):PRep w U x (valX x):=by
 cases x with
 |tup cs=>exact ⟨_,rfl,(PRepL.valD (by simpa [qx5] using hf)).2 rfl⟩
 |int k n=>rfl
 |bool b=>rfl
 |str s=>rfl
 |_=>simp [qx5,qsM] at hf
theorem qbA {f:FuncId} {args:List PV} {r:PV} (ha:args.all qsM=true) (hr:qx5 r=true) (h:∀ w,E.ok w→Calls P f (args.map valD).toArray w fun e w'=>e=.returned (valX r)∧Grow w w' (fun _=>False)):PCall P E f args (·=r):=by
 intro w U vs hU hE hEb hA
 rw [PRepL.valD ha] at hA
 subst hA
 refine (h w hE).mono ?_
 rintro e w' ⟨rfl,hg⟩
 exact ⟨_,r,rfl,rfl,PRep.valX hr,hg⟩
end
end Go.Proofs.YtehfjlpenlffmaaGreatDoor
namespace Go.Proofs.YtehfjlpenlffmaaGreatDoor
open Option.some renaming injEq→zn
open List renaming getElem?_map→zz
open Option renaming map_eq_some_iff→zp
def qwC (w:World) (T:TypeId) (b x:Nat):Prop:=∃ p u,w.heap[b]?=some (.cells #[p,u] T (0,0))∧u.ownBlock=some x
def SbPost (T e:TypeId) (b:Nat) (bs:List UInt8) (w w':World):Prop:=
 (∃ v,w'.heap[b]?=some (.cells #[.pointer (some ⟨b,0,none⟩),v] T (0,0))∧w'.ownsRow 0 e 1 v bs.length (Lib.byteCells bs)∧v.ownBlock≠some b∧∀ x,v.ownBlock=some x→qwC w T b x∨w.heap.size≤x)∧Grow w w' (fun x=>x=b∨qwC w T b x)
section
variable {w w1 w2:World} {T e:TypeId} {b:Nat} {v v':Value} {bs:List UInt8} {p:Value}
theorem qyk (h:w.heap[b]?=some (.cells #[p,v] T (0,0))) {x:Nat}:qwC w T b x↔v.ownBlock=some x:=by
 constructor
 ·rintro ⟨q,u,h1,h2⟩
  rw [h] at h1
  simp at h1
  rw [h1.2];exact h2
 ·intro h2;exact ⟨_,_,h,h2⟩
theorem qwe {q:Value} (h:w.heap[b]?=some (.cells #[p,v] T (0,0))):(w.setCell ⟨b,0,none⟩ q).heap[b]?=some (.cells #[q,v] T (0,0)):=by
 simp [World.setCell,Array.getElem?_modify,h]
theorem qrp {O:Nat→Prop} (off:Nat) (q:Value) (hO:O b):Grow w (w.setCell ⟨b,off,none⟩ q) O:=
 ⟨rfl,rfl,rfl,by simp [World.setCell],fun c _ hn=>heap_setCell_other _ _ _ _ (fun e=>hn (by subst e;exact hO))⟩
theorem SbPost.behind {q:Value} (hbk:w.heap[b]?=some (.cells #[q,.slice none 0 0] T (0,0))) (h:SbPost T e b bs (w.setCell ⟨b,0,none⟩ (.pointer (some ⟨b,0,none⟩))).drew w2):SbPost T e b bs w w2:=by
 obtain ⟨⟨u,h1,h2,h3,h4⟩,hG⟩:=h
 have hk:=qwe (q:=.pointer (some ⟨b,0,none⟩)) hbk
 have hno:∀ x,¬ qwC (w.setCell ⟨b,0,none⟩ (.pointer (some ⟨b,0,none⟩))).drew T b x:=fun x hx=>by
  have:=(qyk (w:=(w.setCell ⟨b,0,none⟩ (.pointer (some ⟨b,0,none⟩))).drew) hk).1 hx
  simp [Value.ownBlock] at this
 refine ⟨⟨u,h1,h2,h3,fun x hx=>?_⟩,?_⟩
 ·rcases h4 x hx with h|h
  ·exact (hno x h).elim
  ·exact .inr (by simpa [World.setCell] using h)
 ·refine (qrp (w:=w) 0 (.pointer (some ⟨b,0,none⟩)) (O:=fun x=>x=b∨qwC w T b x) (.inl rfl)).drew.trans hG (fun c hc=>?_)
  rcases hc with h|h
  ·exact .inl (.inl h)
  ·exact (hno c h).elim
end
section
variable {P:Program} {E:Envt} {w w':World} {X:Nat→Prop} {U:Nat→Prop} {L:Objs} {ι:Key→Value} {k:Key} {i:Nat} {T e:TypeId} {s s':List UInt8}
variable {fr:List AV} {d:Option Nat} {is:List IOper} {Y:List PV} {K:List AV→Objs→Prop}
end
def qvl (f:Key→Option Key):List Key→Option (List Key)
 |[]=>some []
 |k :: r=>match f k with
  |some k'=>(qvl f r).map (k' :: ·)
  |none=>none
def qpu (f:Key→Option Key):List CV→Option (List CV)
 |[]=>some []
 |.p p :: r=>(qpu f r).map (.p p :: ·)
 |.row k :: r=>match f k with
  |some k'=>(qpu f r).map (.row k' :: ·)
  |none=>none
 |.mp k :: r=>match f k with
  |some k'=>(qpu f r).map (.mp k' :: ·)
  |none=>none
def AV.ren (f:Key→Option Key):AV→AV
 |.p x=>.p x
 |.row k=>match f k with|some k'=>.row k'|none=>.any
 |.adr k o=>match f k with|some k'=>.adr k' o|none=>.any
 |.rad k z i o=>match f k with|some k'=>.rad k' z i o|none=>.any
 |.ipt z es i o=>.ipt z es i o
 |.mp k=>match f k with|some k'=>.mp k'|none=>.any
 |.fn fi ks=>match qvl f ks with|some ks'=>.fn fi ks'|none=>.any
 |.g c a=>.g c (a.ren f)
 |.ag cs=>match qpu f cs with|some cs'=>.ag cs'|none=>.any
 |.tr k ps=>match f k with|some k'=>.tr k' ps|none=>.any
 |.any=>.any
def AO.ren (f:Key→Option Key):AO→AO
 |.box cs t=>.box (cs.map (·.ren f)) t
 |.row es e z ap=>.row es e z ap
 |.map kv a b=>.map kv a b
 |.rowv es e z=>.rowv (es.map (·.map (·.ren f))) e z
 |.mapv kv a b=>.mapv (kv.map fun p=>(p.1,p.2.ren f)) a b
def mapO (f:Key→Option Key):Objs→Objs
 |[]=>[]
 |(k,a) :: r=>match f k with
  |some k'=>(k',a.ren f) :: mapO f r
  |none=>mapO f r
section
variable {w w':World} {U:Nat→Prop} {ι ι':Key→Value} {f:Key→Option Key}
theorem qqU (hf:∀ k k',f k=some k'→ι' k'=ι k):∀ {ks ks':List Key},qvl f ks=some ks'→ks'.map ι'=ks.map ι
 |[],ks',h=>by simp only [qvl,zn] at h;subst h;rfl
 |k :: r,ks',h=>by
  simp only [qvl] at h
  split at h
  ·rename_i k' e
   obtain ⟨r',h1,rfl⟩:=zp.1 h
   simp only [List.map_cons,qqU hf h1,hf k k' e]
  ·cases h
theorem qlO (hf:∀ k k',f k=some k'→ι' k'=ι k):∀ {cs cs':List CV},qpu f cs=some cs'→cs'.length=cs.length∧∀ (j:Nat) (x':CV),cs'[j]?=some x'→∃ x,cs[j]?=some x∧∀ w U v,CRep w U ι x v→CRep w U ι' x' v
 |[],cs',h=>by simp only [qpu,zn] at h;subst h;simp
 |.p p :: r,cs',h=>by
  simp only [qpu] at h
  obtain ⟨r',h1,rfl⟩:=zp.1 h
  obtain ⟨g1,g2⟩:=qlO hf h1
  refine ⟨by simp [g1],fun j x' hx=>?_⟩
  cases j with
  |zero=>simp at hx;subst hx;exact ⟨_,rfl,fun w U v h=>h⟩
  |succ j=>simp at hx;simpa using g2 j x' hx
 |.row k :: r,cs',h=>by
  simp only [qpu] at h
  split at h
  ·rename_i k' e
   obtain ⟨r',h1,rfl⟩:=zp.1 h
   obtain ⟨g1,g2⟩:=qlO hf h1
   refine ⟨by simp [g1],fun j x' hx=>?_⟩
   cases j with
   |zero=>simp at hx;subst hx;exact ⟨_,rfl,fun w U v h=>by simp only [CRep] at h ⊢;rw [hf k k' e];exact h⟩
   |succ j=>simp at hx;simpa using g2 j x' hx
  ·cases h
 |.mp k :: r,cs',h=>by
  simp only [qpu] at h
  split at h
  ·rename_i k' e
   obtain ⟨r',h1,rfl⟩:=zp.1 h
   obtain ⟨g1,g2⟩:=qlO hf h1
   refine ⟨by simp [g1],fun j x' hx=>?_⟩
   cases j with
   |zero=>simp at hx;subst hx;exact ⟨_,rfl,fun w U v h=>by simp only [CRep] at h ⊢;rw [hf k k' e];exact h⟩
   |succ j=>simp at hx;simpa using g2 j x' hx
  ·cases h
theorem ARep.ren (hf:∀ k k',f k=some k'→ι' k'=ι k):∀ {a:AV} {u:Value},ARep w U ι a u→ARep w U ι' (a.ren f) u
 |.p x,u,h=>h
 |.row k,u,h=>by
  simp only [AV.ren];split
  ·rename_i k' e;simpa [ARep,hf k k' e] using h
  ·trivial
 |.adr k o,u,h=>by
  simp only [AV.ren];split
  ·rename_i k' e;simpa [ARep,hf k k' e] using h
  ·trivial
 |.rad k z i o,u,h=>by
  simp only [AV.ren];split
  ·rename_i k' e;simpa [ARep,hf k k' e] using h
  ·trivial
 |.ipt z es i o,u,h=>h
 |.mp k,u,h=>by
  simp only [AV.ren];split
  ·rename_i k' e;simpa [ARep,hf k k' e] using h
  ·trivial
 |.fn fi ks,u,h=>by
  simp only [AV.ren];split
  ·rename_i ks' e
   simp only [ARep] at h ⊢
   rw [h,qqU hf e]
  ·trivial
 |.g c a,u,h=>⟨fun hc=>ARep.ren hf (a:=a) (h.1 hc),h.2⟩
 |.ag cs,u,h=>by
  simp only [AV.ren];split
  ·rename_i cs' e
   obtain ⟨vs,e0,hl,hr⟩:=h
   obtain ⟨g1,g2⟩:=qlO hf e
   refine ⟨vs,e0,by rw [hl,g1],fun j x' hx=>?_⟩
   obtain ⟨x,hx1,hx2⟩:=g2 j x' hx
   obtain ⟨v,h1,h2,h3⟩:=hr j x hx1
   exact ⟨v,h1,h2,hx2 _ _ _ h3⟩
  ·trivial
 |.tr k ps,u,h=>by
  simp only [AV.ren];split
  ·rename_i k' e
   obtain ⟨vs,e0,hs,hr⟩:=h
   exact ⟨vs,by rw [hf k k' e];exact e0,by rw [hf k k' e];exact hs,hr⟩
  ·trivial
 |.any,u,h=>trivial
theorem AO.ren_mapA (a:AO):a.ren f=a.mapA (AV.ren f):=by cases a<;>rfl
theorem ObjOk.ren (hf:∀ k k',f k=some k'→ι' k'=ι k) {k k':Key} (hk:ι' k'=ι k) {a:AO} (h:ObjOk w U ι k a):ObjOk w U ι' k' (a.ren f):=by
 rw [AO.ren_mapA]
 exact h.conv _ hk (fun _ _=>rfl) (fun b _ hu=>⟨rfl,hu⟩) (fun hr=>hr.ren hf)
theorem ObjOk.keeps {U':Nat→Prop} (hk:Keeps w w U U') {k:Key} {a:AO} (h:ObjOk w U ι k a):ObjOk w U' ι k a:=h.mono hk (fun _ _=>rfl)
theorem qn8 (hi:∀ k1 k2 k,f k1=some k→f k2=some k→k1=k2) {k:Key} {a:AO}:∀ {L:Objs},Zar (mapO f L) k=some a→∃ k' a',Zar L k'=some a'∧f k'=some k∧a=a'.ren f
 |[],h=>by simp [mapO,Zar] at h
 |(k1,a1) :: r,h=>by
  simp only [mapO] at h
  split at h
  ·rename_i q e
   simp only [Zar] at h
   split at h
   ·rename_i hq
    cases h
    exact ⟨k1,a1,by simp [Zar],by rw [e,hq],rfl⟩
   ·rename_i hq
    obtain ⟨k',a',h1,h2,h3⟩:=qn8 hi h
    refine ⟨k',a',?_,h2,h3⟩
    simp only [Zar]
    rw [if_neg (fun ek=>hq (by rw [ek] at e;rw [h2] at e;cases e;rfl))]
    exact h1
  ·rename_i e
   obtain ⟨k',a',h1,h2,h3⟩:=qn8 hi h
   refine ⟨k',a',?_,h2,h3⟩
   simp only [Zar]
   rw [if_neg (fun ek=>by rw [ek,h2] at e;cases e)]
   exact h1
end
section
variable {P:Program} {E:Envt}
variable {L:Objs} {fr:List AV} {d:Option Nat} {is:List IOper} {Y:List PV} {K:List AV→Objs→Prop}
end
def r1 (d q:Nat) (k:Key):Option Key:=if k=.l d then some (.l q) else if k=.l q then none else some k
theorem qBP {d q:Nat}:∀ k1 k2 k,r1 d q k1=some k→r1 d q k2=some k→k1=k2:=by
 intro k1 k2 k h1 h2
 unfold r1 at h1 h2
 split at h1
 ·cases h1
  split at h2
  ·rename_i e1 e2;rw [e1,e2]
  ·split at h2
   ·cases h2
   ·cases h2;rename_i e1 e2 e3;exact absurd rfl e3
 ·split at h1
  ·cases h1
  ·cases h1
   split at h2
   ·cases h2;exact absurd rfl ‹¬ Key.l q=Key.l q›
   ·split at h2
    ·cases h2
    ·cases h2;rfl
section
variable {E:Envt} {B:Base} {w:World} {L:Objs} {ι:Key→Value} {fr:List AV} {a:Act}
theorem qaK (d q:Nat):∀ {L:Objs} (k:Key),Zar (mapO (r1 d q) L) k=if k=.l q then (Zar L (.l d)).map (AO.ren (r1 d q)) else if k=.l d then none else (Zar L k).map (AO.ren (r1 d q))
 |[],k=>by simp [mapO,Zar]
 |(k1,a1) :: r,k=>by
  have ih:=qaK d q (L:=r) k
  by_cases hdq:d=q
  ·subst hdq
   simp only [mapO,r1]
   by_cases h1:k1=.l d
   ·subst h1
    simp only [if_true,Zar]
    by_cases h2:k=.l d
    ·subst h2;simp
    ·rw [if_neg (Ne.symm h2),ih,if_neg h2,if_neg h2,if_neg h2,if_neg h2,if_neg (Ne.symm h2)]
   ·simp only [if_neg h1,Zar]
    by_cases h2:k1=k
    ·subst h2;simp [h1]
    ·rw [if_neg h2,ih,if_neg h2]
  have hne:¬ Key.l d=Key.l q:=fun e=>hdq (by cases e;rfl)
  simp only [mapO,r1]
  by_cases h1:k1=.l d
  ·subst h1
   simp only [if_true,Zar]
   by_cases h2:k=.l q
   ·subst h2;simp
   ·rw [if_neg (Ne.symm h2),ih,if_neg h2,if_neg h2]
    by_cases h3:k=.l d
    ·simp [h3]
    ·rw [if_neg h3,if_neg h3,if_neg (Ne.symm h3)]
  ·by_cases h2:k1=.l q
   ·subst h2
    simp only [if_neg h1,if_true]
    rw [ih]
    simp only [Zar]
    by_cases h3:k=.l q
    ·subst h3;simp [Ne.symm hne]
    ·rw [if_neg h3,if_neg h3,if_neg (Ne.symm h3)]
   ·simp only [if_neg h1,if_neg h2,Zar]
    by_cases h3:k1=k
    ·subst h3;simp [h1,h2]
    ·rw [if_neg h3,ih,if_neg h3]
theorem StF.ren1 (hs:StF E B w L ι fr a) (d q:Nat):∃ ι',StF E B w (mapO (r1 d q) L) ι' (fr.map (·.ren (r1 d q))) a:=by
 obtain ⟨h,hf,hd⟩:=hs
 let ι':Key→Value:=fun k=>if k=.l q then ι (.l d) else ι k
 have hi:∀ k k',r1 d q k=some k'→ι' k'=ι k:=by
  intro k k' hk
  unfold r1 at hk
  split at hk
  ·rename_i e;cases hk;subst e;simp [ι']
  ·split at hk
   ·cases hk
   ·rename_i e1 e2;cases hk;simp [ι',e2]
 have hlk:∀ {k:Key} {ao:AO},Zar (mapO (r1 d q) L) k=some ao→∃ k' ao',Zar L k'=some ao'∧r1 d q k'=some k∧ao=ao'.ren (r1 d q):=fun hl=>qn8 qBP hl
 have hO:∀ b,Own (mapO (r1 d q) L) ι' b→Own L ι b:=by
  rintro b ⟨k,ao,h1,h2⟩
  obtain ⟨k',ao',g1,g2,_⟩:=hlk h1
  exact ⟨k',ao',g1,by rw [← hi k' k g2];exact h2⟩
 have hk:Keeps w w (fun b=>Own L ι b∨B.X b) (fun b=>Own (mapO (r1 d q) L) ι' b∨B.X b):=fun b _ hu=>⟨rfl,fun h=>hu (h.imp (hO b) id)⟩
 refine ⟨ι',⟨h.grow,⟨fun k ao hl=>?_,fun k k' ao ao' b h1 h2 h3 h4=>?_⟩,fun b hb=>h.own b (hO b hb),h.xlt,fun k h0 h1=>?_,h.env,h.envb,h.loc,h.xdis⟩,⟨by simpa using hf.1,fun i x hx=>?_⟩,hd⟩
 ·obtain ⟨k',ao',g1,g2,rfl⟩:=hlk hl
  exact ((h.sim.obj k' ao' g1).ren hi (hi k' k g2)).keeps hk
 ·obtain ⟨j,_,g1,g2,_⟩:=hlk h1
  obtain ⟨j',_,g3,g4,_⟩:=hlk h2
  have:=h.sim.inj j j' _ _ b g1 g3 (by rw [← hi j k g2];exact h3) (by rw [← hi j' k' g4];exact h4)
  subst this
  rw [g2] at g4
  cases g4
  rfl
 ·obtain ⟨ao,hao⟩:=Option.isSome_iff_exists.1 h1
  obtain ⟨k',ao',g1,g2,_⟩:=hlk hao
  have:k'=k:=by
   unfold r1 at g2
   split at g2
   ·cases g2;rw [h.loc q] at h0;cases h0
   ·split at g2
    ·cases g2
    ·cases g2;rfl
  subst this
  rw [hi k' k' g2]
  exact h.keep k' h0 (by rw [g1];rfl)
 ·rw [zz,zp] at hx
  obtain ⟨y,hy,rfl⟩:=hx
  obtain ⟨u,hu,hr⟩:=hf.2 i y hy
  exact ⟨u,hu,(hr.ren hi).mono hk⟩
theorem qkK {fr':List AV} (h:Za fr fr'):ReOk E fr L fr' L:=fun B w ι a hs=>by
 obtain ⟨g1,g2⟩:=h.get
 refine ⟨ι,hs.1,⟨by rw [hs.2.1.1,g1],fun i y hy=>?_⟩,hs.2.2⟩
 obtain ⟨x,hx,hxy⟩:=g2 i y hy
 obtain ⟨v,hv,hr⟩:=hs.2.1.2 i x hx
 exact ⟨v,hv,hxy.rep hr⟩
theorem qoZ (d q:Nat):ReOk E fr L (fr.map (·.ren (r1 d q))) (mapO (r1 d q) L):=fun B w ι a hs=>hs.ren1 d q
theorem qso {k:Key} {es:List (List PV)} {e z:Nat} (hl:Zar L k=some (.row es e z true)):ReOk E fr L fr (Zas L k (.rowv (es.map (·.map .p)) e z)):=fun B w ι a hs=>⟨ι,hs.retell k _ _ hl fun U h=>by
 obtain ⟨vs,h1,h2,h3,h4⟩:=h
 refine ⟨vs,by simpa using h1,h2,fun x hx=>?_,fun j x hx=>?_⟩
 ·obtain ⟨y,hy,rfl⟩:=List.mem_map.1 hx
  simpa using h4 y hy
 ·rw [← List.map_flatten,zz,zp] at hx
  obtain ⟨y,hy,rfl⟩:=hx
  exact h3.get hy⟩
theorem qkF {k:Key} {es:List (List AV)} {es':List (List PV)} {e z:Nat} (hl:Zar L k=some (.rowv es e z)) (hp:Zba es=some es'):ReOk E fr L fr (Zas L k (.row es' e z true)):=fun B w ι a hs=>⟨ι,hs.retell k _ _ hl fun U h=>h.plain hp⟩
theorem qz3 {k:Key} {kv:List (List UInt8×PV)} {kt et:Nat} (hl:Zar L k=some (.map kv kt et)):ReOk E fr L fr (Zas L k (.mapv (kv.map fun p=>(p.1,.p p.2)) kt et)):=fun B w ι a hs=>⟨ι,hs.retell k _ _ hl fun U h=>by
 obtain ⟨r,ents,cl,e1,e2,e3,e4⟩:=h
 refine ⟨r,ents,cl,e1,e2,by rw [e3.1,List.map_map];rfl,e4,fun j p hp=>?_⟩
 rw [zz,zp] at hp
 obtain ⟨y,hy,rfl⟩:=hp
 exact e3.get j y hy⟩
theorem qvo {k:Key} {kv:List (List UInt8×AV)} {kv':List (List UInt8×PV)} {kt et:Nat} (hl:Zar L k=some (.mapv kv kt et)) (hp:Zbb kv=some kv'):ReOk E fr L fr (Zas L k (.map kv' kt et)):=fun B w ι a hs=>⟨ι,hs.retell k _ _ hl fun U h=>h.plainM hp⟩
theorem qbO {k:Key} {es:List (List PV)} {e z:Nat} {ap:Bool} (hl:Zar L k=some (.row es e z ap)):ReOk E fr L (fr.map (·.thaw k (.sl z es))) (Zav k (.sl z es) L):=fun B w ι a hs=>⟨ι,hs.thaw hl⟩
theorem qiM {k:Key} {cs:List PV} {t:TypeId} (hl:Zar L k=some (.box (cs.map .p) t)):ReOk E fr L (fr.map (·.thaw k (.ptr cs))) (Zav k (.ptr cs) L):=fun B w ι a hs=>⟨ι,hs.thawB hl⟩
theorem qqV {k:Key} {cs:List AV} {t:TypeId} (o d e z z0:Nat) (hk:k≠.l d) (hl:Zar L k=some (.box cs t)) (ho:cs[o]?=some (.p (.nl z0))) :
  ReOk E fr L (fr.map (·.kill (.l d))) (Zas (Zau L (.l d) (.row [] e z true)) k (.box ((cs.map (·.kill (.l d))).set o (.row (.l d))) t)):=fun B w ι a hs=>by
 have h1:StF E B w (Zau L (.l d) (.row [] e z true)) (updI ι (.l d) (.slice none 0 0)) (fr.map (·.kill (.l d))) a:=
  hs.upd d (.slice none 0 0) (.row [] e z true) (Grow.refl _ _) (fun b hb=>by simp [blk] at hb) ⟨[],by simp only [updI,if_true];exact ⟨by simp,.inl ⟨rfl,rfl⟩⟩,by simp,by simp [PRepL],by simp⟩
 refine ⟨_,h1.retell k (.box (cs.map (·.kill (.l d))) t) _ (by rw [qao,if_neg hk,hl];rfl) fun U h=>?_⟩
 obtain ⟨b,vs,e1,e2,e3,e4,e5⟩:=h
 refine ⟨b,vs,e1,e2,by simpa using e3,e4,fun j x hx=>?_⟩
 by_cases hj:o=j
 ·subst hj
  have hlt:o < (cs.map (·.kill (.l d))).length:=by
   rw [List.length_map]
   exact (List.getElem?_eq_some_iff.1 ho).1
  rw [List.getElem?_set_self hlt] at hx
  cases hx
  obtain ⟨u,hu,hr⟩:=e5 o (.p (.nl z0)) (by rw [zz,ho];rfl)
  have hr:u=.slice none 0 0:=hr
  subst hr
  exact ⟨_,hu,by simp [updI],none,0,0,rfl⟩
 ·rw [List.getElem?_set_ne hj] at hx
  exact e5 j x hx
theorem qBL {k:Key} {kv:List (List UInt8×PV)} {kt et:Nat} (hl:Zar L k=some (.map kv kt et)):ReOk E fr L (fr.map (·.thaw k (.mpv (kv.map (·.1)) (kv.map (·.2))))) (Zav k (.mpv (kv.map (·.1)) (kv.map (·.2))) L):=fun B w ι a hs=>⟨ι,hs.thawM hl⟩
end
theorem qrz {P:Program} {E:Envt} {ops:List IOper} {fr:List AV} {L:Objs} {y:IC} {Q:AQ} (fr':List AV) (L':Objs) (h:∀ K:List AV→Objs→Prop,(∀ fr1 L1,ReOk E fr1 L1 fr' L'→K fr1 L1)→DrgC P E ops fr L K) (hK:awp P E y fr' L' Q):DrgC P E ops fr L (qsd P E (.cut y) Q .normal):=
 h _ fun fr1 L1 hr=>⟨fr',L',hr,hK⟩
theorem qq3 {P:Program} {E:Envt} {f:FuncId} {args:List PV} {e z:Nat} {es:List (List PV)} (h:FCall P E f args e z (·=es)):PCall P E f args (·=.sl z es):=by
 intro w U vs hU hE hEb hA
 refine (qoF h w U vs hU hE hEb hA).mono ?_
 rintro e' w' ⟨v,x,h1,⟨es',rfl,rfl⟩,h2⟩
 exact ⟨v,_,h1,rfl,h2⟩
section
variable {α:Type} [DecidableEq α]
def ixO (a:α):List α→Nat
 |[]=>0
 |b :: r=>if a=b then 0 else ixO a r+1
def lc:List α→List α→Nat
 |[],_=>0
 |_ :: _,[]=>0
 |a :: az,b :: bs=>if a=b then lc az bs+1 else max (lc az (b :: bs)) (lc (a :: az) bs)
termination_by x y=>x.length+y.length
def kp (i j:Nat):List α→List α→List (Nat×Nat)
 |[],_=>[]
 |a :: az,bs=>
  if lc (a :: az) bs=0 then [] else
  if ixO a bs < bs.length∧lc az (bs.drop (ixO a bs+1))+1=lc (a :: az) bs then (i,j+ixO a bs) :: kp (i+1) (j+ixO a bs+1) az (bs.drop (ixO a bs+1))
  else kp (i+1) j az bs
def fk (a:α) (az bs:List α) (m:Nat):List α→Nat→Option Nat
 |[],_=>none
 |b :: r,k=>if a=b∧lc az (bs.drop (k+1))+1=m then some k else fk a az bs m r (k+1)
def kr (i j:Nat):List α→List α→List (Nat×Nat)
 |[],_=>[]
 |a :: az,bs=>match fk a az bs (lc (a :: az) bs) bs 0 with
  |some k=>(i,j+k) :: kr (i+1) (j+k+1) az (bs.drop (k+1))
  |none=>kr (i+1) j az bs
end
end Go.Proofs.YtehfjlpenlffmaaGreatDoor
