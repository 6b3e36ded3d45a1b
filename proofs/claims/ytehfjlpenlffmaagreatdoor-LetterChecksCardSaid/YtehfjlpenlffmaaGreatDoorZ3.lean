import Derived.Test.YtehfjlpenlffmaaGreatDoorZ2
import Derived.Orders
set_option linter.unusedVariables false
set_option linter.unusedSimpArgs false
set_option linter.defProp false
namespace Go.Proofs.YtehfjlpenlffmaaGreatDoor
inductive IRes where
 |t (i:Nat)
 |c (i sz:Nat) (ag:Bool)
def Zbf (L:Objs):AV→Option PV
 |.p x=>some (wk1 x)
 |.row (.l i)=>match Zas L (.l i) with
  |some (.row es _ z _)=>some (.sl z es)
  |_=>none
 |.mp (.l i)=>match Zas L (.l i) with
  |some (.map kv _ _)=>some (.mpv (kv.map (·.1)) (kv.map (·.2)))
  |_=>none
 |_=>none
def Zbg (L:Objs):List AV→Option (List PV)
 |[]=>some []
 |x :: r=>match Zbf L x,Zbg L r with
  |some y,some l=>some (y :: l)
  |_,_=>none
def Zbe (fr:List AV) (L:Objs):IRes→Option PV
 |.t i=>match fr.getD i .any with
  |.p x=>some (wk x)
  |a=>Zbf L a
 |.c i sz ag=>match fr.getD i .any with
  |.adr k o=>match Zas L k with
   |some (.box cs _)=>if o+sz≤cs.length then (if ag then (Zbg L ((cs.drop o).take sz)).map .agg else Zbf L (cs.getD o .any)) else none
   |_=>none
  |_=>none
def Zbd (fr:List AV) (L:Objs):List IRes→Option (List PV)
 |[]=>some []
 |r :: rs=>match Zbe fr L r,Zbd fr L rs with
  |some y,some l=>some (y :: l)
  |_,_=>none
def mkRes:List PV→PV
 |[x]=>x
 |l=>.tup l
def okRes (P:Program):ResultVar→IRes→Bool
 |.tmp t,.t i=>t == i
 |.cell t ty,.c i sz ag=>t == i && sizeB P ty sz && aggB P ty ag && (ag || sz == 1)
 |_,_=>false
def okResL (P:Program):List ResultVar→List IRes→Bool
 |[],[]=>true
 |x :: xs,y :: ys=>okRes P x y && okResL P xs ys
 |_,_=>false
def RetK (q:Option (List PV)) (φ:PV→Objs→Prop) (L:Objs):Prop:=
 match q with
 |some l=>φ (mkRes l) L
 |none=>False
theorem RetK_some {l:List PV} {φ:PV→Objs→Prop} {L:Objs}:RetK (some l) φ L=φ (mkRes l) L:=rfl
theorem RetK_ex {q:Option (List PV)} {φ:PV→Objs→Prop} {L:Objs} (h:RetK q φ L):∃ l,q=some l∧φ (mkRes l) L:=by
 cases q with
 |none=>exact h.elim
 |some l=>exact ⟨l,rfl,h⟩
theorem mkRes1 (x:PV):mkRes [x]=x:=rfl
theorem mkRes2 (x y:PV):mkRes [x,y]=.tup [x,y]:=rfl
theorem mkRes3 (x y z:PV):mkRes [x,y,z]=.tup [x,y,z]:=rfl
def retQ (rs:List IRes) (φ:PV→Objs→Prop):AQ
 |.normal,fr,L=>RetK (Zbd fr L rs) φ L
 |.ret,fr,L=>RetK (Zbd fr L rs) φ L
 |_,_,_=>False
section
variable {P:Program} {E:Envt} {B:Base} {w w':World} {L L':Objs} {ι ι':Key→Value} {fr:List AV} {a:Act} {o:Oper} {X:Nat→Prop}
def ZB (L:Objs) (ι:Key→Value) (X:Nat→Prop) (c:Nat):Prop:=X c∨∃ i q,Zas L (.b i)=some q∧blk (ι (.b i))=some c
theorem keeps_z (w:World) (L:Objs) (ι:Key→Value) (X:Nat→Prop):Keeps w w (fun b=>Own L ι b∨X b) (ZB L ι X):=fun b _ h=>⟨rfl,fun hx=>by
 rcases hx with hx|⟨i,q,h1,h2⟩
 ·exact h (.inr hx)
 ·exact h (.inl ⟨_,q,h1,h2⟩)⟩
theorem keeps_x (w:World) (L:Objs) (ι:Key→Value) (X:Nat→Prop):Keeps w w (fun b=>Own L ι b∨X b) X:=fun b _ h=>⟨rfl,fun hx=>h (.inr hx)⟩
theorem pvOf_ok (h:St E B w L ι) {x:AV} {y:PV} {v:Value} (e:Zbf L x=some y) (hr:ARep w (fun b=>Own L ι b∨B.X b) ι x v):PRep w (ZB L ι B.X) y v∧v.oneCell'=true∨(∃ z,x=.p z∧y=wk1 z)∧PRep w (ZB L ι B.X) y v:=by
 unfold Zbf at e
 split at e
 ·cases e;exact .inr ⟨⟨_,rfl,rfl⟩,(PRep.mono (keeps_z w L ι B.X) _ _ hr).wk1⟩
 ·rename_i k0
  generalize hkk:Key.l k0=k at e hr
  split at e
  ·rename_i es e' z ap hl
   cases e
   left
   obtain ⟨vs,hrow,e4,e5,e6⟩:=h.sim.obj k _ hl
   rcases hrow.2 with ⟨g1,g2⟩|⟨g,cap,cur,fz,g1,_,g3,_⟩
   ·rw [hr.1,g1]
    exact ⟨⟨none,0,by rw [g2],by omega,fun hne=>absurd (List.eq_nil_of_length_eq_zero g2) hne⟩,rfl⟩
   ·rw [hr.1,g1]
    have hE:=row_cells h.sim hl g1
    have hO:Own L ι g:=⟨k,_,hl,by rw [g1];rfl⟩
    refine ⟨⟨_,cap,rfl,g3,fun _=>⟨g,0,rfl,sim_own_lt h.sim hO,(fun hx=>by
     rcases hx with hx|⟨i,q,h1,h2⟩
     ·exact (h.x_own hx).2 hO
     ·have:=h.sim.inj _ _ _ _ g h1 hl h2 (by rw [g1];rfl)
      rw [← hkk] at this
      cases this),?_⟩⟩,rfl⟩
    have key:∀ (es':List (List PV)) (off:Nat),PRepE w (fun b=>Own L ι b∨B.X b) g z off es'→PRepE w (ZB L ι B.X) g z off es':=by
     intro es'
     induction es' with
     |nil=>intro off _;simp [PRepE]
     |cons x r ih=>
      intro off hh
      simp only [PRepE] at hh ⊢
      refine ⟨hh.1,?_,ih _ hh.2.2⟩
      obtain ⟨us,a1,a2,a3⟩:=hh.2.1.vals
      exact PRepC.of (PRepL.mono (keeps_z w L ι B.X) _ _ a1) a2 a3
    exact key es 0 hE
  ·cases e
 ·rename_i k0
  generalize hkk:Key.l k0=k at e hr
  split at e
  ·rename_i kv kt et hl
   cases e
   left
   obtain ⟨r,ents,cl,e1,e2,e3,e4⟩:=h.sim.obj k _ hl
   have hO:Own L ι r:=⟨k,_,hl,by rw [e1];rfl⟩
   rw [hr.1,e1]
   refine ⟨⟨r,rfl,sim_own_lt h.sim hO,(fun hx=>by
     rcases hx with hx|⟨i,q,h1,h2⟩
     ·exact (h.x_own hx).2 hO
     ·have:=h.sim.inj _ _ _ _ r h1 hl h2 (by rw [e1];rfl)
      rw [← hkk] at this
      cases this),ents,cl,e2,⟨by rw [e3.1,List.map_map];rfl,e4⟩,PRepL.mono (keeps_z w L ι B.X) _ _ e3.2⟩,rfl⟩
  ·cases e
 ·cases e
theorem pvOf_rep (h:St E B w L ι) {x:AV} {y:PV} {v:Value} (e:Zbf L x=some y) (hr:ARep w (fun b=>Own L ι b∨B.X b) ι x v):PRep w (ZB L ι B.X) y v:=by
 rcases pvOf_ok h e hr with h|h
 ·exact h.1
 ·exact h.2
theorem pvsOf_rep (h:St E B w L ι):∀ {xs:List AV} {ys:List PV} {vs:List Value},Zbg L xs=some ys→vs.length=xs.length→(∀ (j:Nat) (x:AV),xs[j]?=some x→∃ v,vs[j]?=some v∧ARep w (fun b=>Own L ι b∨B.X b) ι x v)→PRepL w (ZB L ι B.X) ys vs:=by
 intro xs
 induction xs with
 |nil=>intro ys vs e hl _;simp only [Zbg,Option.some.injEq] at e;subst e;simp only [PRepL];exact List.eq_nil_of_length_eq_zero hl
 |cons x xs ih=>
  intro ys vs e hl hr
  simp only [Zbg] at e
  split at e
  ·rename_i y l e1 e2
   cases e
   cases vs with
   |nil=>simp at hl
   |cons v vs=>
    obtain ⟨v0,h0,r0⟩:=hr 0 x rfl
    simp at h0
    subst h0
    simp only [PRepL]
    exact ⟨v,vs,rfl,pvOf_rep h e1 r0,ih e2 (by simpa using hl) (fun j q hq=>by simpa using hr (j+1) q (by simpa using hq))⟩
  ·cases e
theorem PRep.wk {U:Nat→Prop} {x:PV} {v:Value} (h:PRep w U x v):PRep w U (wk x) v:=by
 cases x with
 |agg cs=>simp only [PRep,Go.Proofs.YtehfjlpenlffmaaGreatDoor.wk] at h ⊢;obtain ⟨vs,e,hl⟩:=h;exact ⟨vs,e,hl.wk1⟩
 |tup cs=>simp only [PRep,Go.Proofs.YtehfjlpenlffmaaGreatDoor.wk] at h ⊢;obtain ⟨vs,e,hl⟩:=h;exact ⟨vs,e,hl.wk1⟩
 |_=>exact h.wk1
def res1 (tmps:Array Value):ResultVar→Sem Value
 |.tmp t=>pure (tmps.getD t undef)
 |.cell a t=>do loadVar t (← asAddr (tmps.getD a undef))
theorem FRep.getD {U:Nat→Prop} (hf:FRep w U ι fr a) (i:Nat):ARep w U ι (fr.getD i .any) (a.tmps.getD i undef):=by
 cases hx:fr[i]? with
 |none=>simp only [List.getD,hx];trivial
 |some y=>
  obtain ⟨v,hv,hr⟩:=hf.2 i y hx
  simpa [List.getD,hx,hv] using hr
theorem res1_ok (hs:StF E B w L ι fr a) {rv:ResultVar} {r:IRes} (hok:okRes P rv r=true) {x:PV} (h:Zbe fr L r=some x):∃ v,(res1 a.tmps rv).run P w=.ok v w∧PRep w (ZB L ι B.X) x v:=by
 cases r with
 |t i=>
  cases rv with
  |cell t ty=>simp [okRes] at hok
  |tmp t=>
   simp only [okRes,beq_iff_eq] at hok
   subst hok
   have hr:=hs.2.1.getD t
   refine ⟨_,rfl,?_⟩
   simp only [Zbe] at h
   split at h
   ·rename_i y hy;cases h;rw [hy] at hr;exact (PRep.mono (keeps_z w L ι B.X) _ _ hr).wk
   ·exact pvOf_rep hs.1 h hr
 |c i sz ag=>
  cases rv with
  |tmp t=>simp [okRes] at hok
  |cell t ty=>
   simp only [okRes,Bool.and_eq_true,beq_iff_eq,Bool.or_eq_true] at hok
   obtain ⟨⟨⟨rfl,hsz⟩,hag⟩,h1⟩:=hok
   have hr:=hs.2.1.getD t
   simp only [Zbe] at h
   split at h
   ·rename_i k of hk
    rw [hk] at hr
    obtain ⟨b,e1,e2⟩:=hr
    split at h
    ·rename_i cs bt hl
     obtain ⟨b',vs,e4,hb,hlen,h1c,hcs⟩:=hs.1.sim.obj k _ hl
     rw [e1] at e4
     cases e4
     split at h
     ·rename_i hle
      have hcell:∀ (j:Nat) (v:Value),vs[j]?=some v→w.cell? ⟨b,j,none⟩=some v:=fun j v hv=>by rw [cell_of_row w b j _ _ _ hb];simpa using hv
      cases ag with
      |true=>
       simp only [if_true] at h
       obtain ⟨l,hl',rfl⟩:=Option.map_eq_some_iff.1 h
       have hrep:=pvsOf_rep hs.1 (vs:=(vs.drop of).take sz) hl' (by simp;omega) (fun j x hx=>by
        rw [List.getElem?_take] at hx ⊢
        split at hx
        ·rename_i hj;rw [if_pos hj];rw [List.getElem?_drop] at hx ⊢;exact hcs _ x hx
        ·cases hx)
       refine ⟨.agg ((vs.drop of).take sz).toArray,?_,_,rfl,hrep⟩
       have hld:=run_loadCells_list (P:=P) (w:=w) ⟨b,of,none⟩ ((vs.drop of).take sz) (fun j v hj=>by
        rw [addr_addA]
        rw [List.getElem?_take] at hj
        split at hj
        ·rw [List.getElem?_drop] at hj;exact hcell _ v hj
        ·cases hj)
       have hln:((vs.drop of).take sz).length=sz:=by simp;omega
       rw [hln] at hld
       simp [res1,e2,asAddr,loadVar,run_agg hag,run_size hsz,hld]
      |false=>
       have:sz=1:=by rcases h1 with h1|h1;cases h1;exact h1
       subst this
       simp only [Bool.false_eq_true,if_false] at h
       obtain ⟨u,hu,hr⟩:=hcs of (cs.getD of .any) (by rw [List.getD,List.getElem?_eq_getElem (by omega)];rfl)
       refine ⟨u,?_,pvOf_rep hs.1 h hr⟩
       simp [res1,e2,asAddr,loadVar,run_agg hag,hcell of u hu]
     ·cases h
    ·cases h
   ·cases h
theorem resL_ok (hs:StF E B w L ι fr a):∀ {rvs:List ResultVar} {rs:List IRes} {l:List PV},okResL P rvs rs=true→Zbd fr L rs=some l→∃ vs,(rvs.mapM (res1 a.tmps)).run P w=.ok vs w∧PRepL w (ZB L ι B.X) l vs:=by
 intro rvs
 induction rvs with
 |nil=>intro rs l h1 h2;cases rs with
  |nil=>simp only [Zbd,Option.some.injEq] at h2;subst h2;exact ⟨[],rfl,by simp [PRepL]⟩
  |cons _ _=>simp [okResL] at h1
 |cons rv rvs ih=>intro rs l h1 h2;cases rs with
  |nil=>simp [okResL] at h1
  |cons r rs=>
   simp only [okResL,Bool.and_eq_true] at h1
   simp only [Zbd] at h2
   split at h2
   ·rename_i y l' e1 e2
    cases h2
    obtain ⟨v,hv,hr⟩:=res1_ok hs h1.1 e1
    obtain ⟨vs,hvs,hrs⟩:=ih h1.2 e2
    refine ⟨v :: vs,?_,by simp only [PRepL];exact ⟨v,vs,rfl,hr,hrs⟩⟩
    simp only [List.mapM_cons,Sem.run_bind,hv,Result.andThen_ok,hvs]
    rfl
   ·cases h2
theorem results_ok (hs:StF E B w L ι fr a) {fn:Func} {rs:List IRes} {l:List PV} (h1:okResL P fn.results.toList rs=true) (h2:Zbd fr L rs=some l):∃ v,(results fn a.tmps).run P w=.ok v w∧PRep w (ZB L ι B.X) (mkRes l) v:=by
 obtain ⟨vs,hvs,hrs⟩:=resL_ok hs h1 h2
 have e:(results fn a.tmps).run P w=.ok (if h:vs.toArray.size=1 then vs.toArray[0] else .tuple vs.toArray) w:=by
  have e0:results fn a.tmps=(do let vs ← fn.results.mapM (res1 a.tmps);pure (if h:vs.size=1 then vs[0] else .tuple vs)):=by
   unfold results
   congr 1
  rw [e0]
  rw [Array.mapM_eq_mapM_toList]
  simp only [← bind_pure_comp,Sem.run_bind,bind_assoc]
  rw [hvs]
  rfl
 rw [e]
 refine ⟨_,rfl,?_⟩
 have hlen:=hrs.length
 cases l with
 |nil=>have:vs=[]:=List.eq_nil_of_length_eq_zero hlen;subst this;simp [mkRes,PRep,PRepL]
 |cons x l=>
  cases l with
  |nil=>
   simp only [PRepL] at hrs
   obtain ⟨v,r,rfl,hv,rfl⟩:=hrs
   simpa [mkRes] using hv
  |cons y l=>
   rw [dif_neg (by simp at hlen ⊢;omega)]
   exact ⟨vs,rfl,hrs⟩
theorem pcall_of_awp {D:Array Oper→List IOper→Bool} (hD:DrawOk P D) {f:FuncId} {fn:Func} {c:Code} {ic:IC} {rs:List IRes} {args:List PV} {n:Nat} {φ:PV→Prop} (hf:P.funcs[f]?=some fn) (hb:fn.body=some c) (hn:fn.ntmps=n) (hchk:chkC P D ic c=true) (hr:okResL P fn.results.toList rs=true)
  (h:awp P E ic (args.map .p++List.replicate (n - args.length) .any) [] (retQ rs fun x _=>φ x)):PCall P E f args φ:=by
 intro w U vs hU hE hEb hA
 refine calls_of_wp hf hb ?_
 let B:Base:={ w0:=w,X:=U,L0:=[],i0:=fun _=>undef }
 have hO:∀ b,¬ Own [] (fun _=>undef) b:=by rintro b ⟨k,q,h,_⟩;simp [Zas] at h
 have hst:St E B w [] (fun _=>undef):=⟨Grow.refl _ _,⟨fun k q h=>by simp [Zas] at h,fun k k' q q' b h=>by simp [Zas] at h⟩,fun b hb=>.inl hb,hU,fun k h=>by simp [B,Zas] at h,hE,fun b hb=>⟨hEb b hb,hO b⟩,fun i=>rfl,fun b _=>hO b⟩
 have hkeep:Keeps w w U (fun b=>Own [] (fun _=>undef) b∨B.X b):=fun b _ hu=>⟨rfl,fun h=>hu (h.resolve_left (hO b))⟩
 have hlen:=hA.length
 have hfr:StF E B w [] (fun _=>undef) (args.map .p++List.replicate (n - args.length) .any) { tmps:=vs.toArray++Array.replicate (fn.ntmps - vs.toArray.size) undef,defers:=[] }:=by
  refine ⟨hst,⟨by simp [hlen,hn],fun i x hx=>?_⟩,rfl⟩
  rw [List.getElem?_append] at hx
  split at hx
  ·rename_i hi
   rw [List.getElem?_map,Option.map_eq_some_iff] at hx
   obtain ⟨y,hy,rfl⟩:=hx
   obtain ⟨v,hv,hrep⟩:=(PRepL.mono hkeep _ _ hA).get hy
   refine ⟨v,?_,hrep⟩
   simp only [List.length_map] at hi
   rw [Array.getElem?_append_left (by simp;omega)]
   simpa using hv
  ·rename_i hi
   rw [List.getElem?_replicate] at hx
   split at hx
   ·rename_i hlt
    cases hx
    simp only [List.length_map] at hi hlt
    refine ⟨undef,?_,trivial⟩
    rw [Array.getElem?_append_right (by simp;omega)]
    simp only [List.size_toArray]
    rw [Array.getElem?_replicate,if_pos (by rw [hlen];omega)]
   ·cases hx
 refine wp_mono (awp_sound hD ic c _ _ _ hchk h B w _ _ hfr) ?_
 rintro e a' w' ⟨fr',L',ι',q,hs'⟩
 have fin:(∃ l,Zbd fr' L' rs=some l∧φ (mkRes l))→a'.defers=[]∧∃ v,(results fn a'.tmps).run P w'=.ok v w'∧∃ v_1 x,Ending.returned v=.returned v_1∧φ x∧PRep w' U x v_1∧Grow w w' (fun _=>False):=by
  rintro ⟨l,h1,h2⟩
  obtain ⟨v,hv,hrv⟩:=results_ok hs' hr h1
  refine ⟨hs'.2.2,v,hv,v,_,rfl,h2,PRep.mono (fun b _ h=>⟨rfl,fun hx=>h (.inl hx)⟩) _ _ hrv,?_⟩
  have hg:=hs'.1.grow
  exact ⟨hg.os,hg.tape,hg.output,hg.size,fun b hb _=>hg.block b hb (hO b)⟩
 cases e with
 |normal=>exact fin (RetK_ex (φ:=fun x _=>φ x) (L:=L') q)
 |ret=>exact fin (RetK_ex (φ:=fun x _=>φ x) (L:=L') q)
 |exit id=>exact q.elim
 |goto l=>exact q.elim
 |panic ch=>exact q.elim
 |outgrown=>exact q.elim
end
section
variable {fr:List AV} {L:Objs} {K:Key}
theorem AV.kill_comm (k j:Key) (x:AV):(x.kill k).kill j=(x.kill j).kill k:=by
 induction x with
 |g c a ih=>simp only [AV.kill,ih]
 |p|ipt|any=>rfl
 |_=>simp only [AV.kill];split<;>split<;>simp_all [AV.kill]
theorem AV.kill_idem (k:Key) (x:AV):(x.kill k).kill k=x.kill k:=by
 induction x with
 |g c a ih=>simp only [AV.kill,ih]
 |p|ipt|any=>rfl
 |_=>simp only [AV.kill];split<;>simp_all [AV.kill]
theorem AO.kill_comm (k j:Key) (x:AO):(x.kill k).kill j=(x.kill j).kill k:=by
 cases x<;>simp [AO.kill,AV.kill_comm k j]
theorem AO.kill_idem (k:Key) (x:AO):(x.kill k).kill k=x.kill k:=by
 cases x<;>simp [AO.kill,AV.kill_idem]
theorem killO_comm (k j:Key):∀ L:Objs,Zau k (Zau j L)=Zau j (Zau k L)
 |[]=>rfl
 |(k',a) :: r=>by simp only [Zau,killO_comm k j r,AO.kill_comm j k]
theorem killO_idem (k:Key):∀ L:Objs,Zau k (Zau k L)=Zau k L
 |[]=>rfl
 |(k',a) :: r=>by simp only [Zau,killO_idem k r,AO.kill_idem]
theorem killO_putO (K k:Key) (a:AO):∀ L:Objs,Zau K (Zat L k a)=Zat (Zau K L) k (a.kill K)
 |[]=>rfl
 |(k',a') :: r=>by
  simp only [Zat,Zau]
  split
  ·simp only [Zau]
  ·simp only [Zau,killO_putO K k a r]
theorem putO_comm {k j:Key} (a b:AO) (hne:k≠j):∀ {L:Objs},(Zas L k).isSome=true→(Zas L j).isSome=true→Zat (Zat L k a) j b=Zat (Zat L j b) k a
 |[],h,_=>by simp [Zas] at h
 |(k',a') :: r,h1,h2=>by
  simp only [Zat]
  by_cases e1:k'=k
  ·have e2:¬ k'=j:=fun e=>hne (e1.symm.trans e)
   simp only [if_pos e1,if_neg e2,Zat]
  ·by_cases e2:k'=j
   ·simp only [if_neg e1,if_pos e2,Zat]
   ·simp only [Zas,if_neg e1,if_neg e2] at h1 h2
    simp only [if_neg e1,if_neg e2,Zat,putO_comm a b hne h1 h2]
theorem Zam.hole_self (d:Nat) (fr:List AV) (L:Objs):Zam d (fr.map (·.kill (.l d))) (Zav L (.l d) Zan):=by
 refine ⟨by simp [Function.comp_def,AV.kill_idem],?_⟩
 unfold Zav
 rw [killO_putO,killO_idem]
 rfl
theorem Zam.hole {d:Nat} (h:Zam d fr L) (e:Nat):Zam d (fr.map (·.kill (.l e))) (Zav L (.l e) Zan):=by
 refine ⟨?_,?_⟩
 ·have:=h.1
  rw [List.map_map]
  conv=>rhs;rw [← this]
  rw [List.map_map]
  exact List.map_congr_left fun x _=>AV.kill_comm _ _ x
 ·unfold Zav
  rw [killO_putO,killO_comm,h.2]
  rfl
theorem mem_fix {cs:List AV} (h:cs.map (·.kill K)=cs):∀ x∈cs,x.kill K=x:=
 List.map_inj_left.1 (h.trans (List.map_id cs).symm)
theorem fix_mem {cs:List AV} (h:∀ x∈cs,x.kill K=x):cs.map (·.kill K)=cs:=
 (List.map_congr_left h).trans (List.map_id cs)
theorem look_fix (h:Zau K L=L) {k:Key} {a:AO} (hl:Zas L k=some a):a.kill K=a:=by
 have:=look_killO K L k
 rw [h,hl] at this
 simpa using this.symm
theorem box_fix {cs:List AV} {t:TypeId}:(AO.box cs t).kill K=.box cs t↔∀ x∈cs,x.kill K=x:=by
 simp only [AO.kill,AO.box.injEq,and_true]
 exact ⟨mem_fix,fix_mem⟩
theorem map_same {α:Type} (f:α→α):∀ (l:List α),l.map f=l→∀ x∈l,f x=x
 |[],_,x,hx=>by cases hx
 |q :: r,h,x,hx=>by
  simp only [List.map_cons,List.cons.injEq] at h
  rcases List.mem_cons.1 hx with rfl|hx
  ·exact h.1
  ·exact map_same f r h.2 x hx
theorem rowv_fix {es:List (List AV)} {e z:Nat}:(AO.rowv es e z).kill K=.rowv es e z↔∀ x∈es,∀ y∈x,y.kill K=y:=by
 simp only [AO.kill,AO.rowv.injEq,and_true]
 constructor
 ·intro h x hx
  exact map_same _ _ (map_same _ _ h x hx)
 ·intro h
  exact (List.map_congr_left fun x hx=>(List.map_congr_left (h x hx)).trans (List.map_id x)).trans (List.map_id es)
theorem mapv_fix {kv:List (List UInt8×AV)} {kt et:Nat}:(AO.mapv kv kt et).kill K=.mapv kv kt et↔∀ x∈kv,x.2.kill K=x.2:=by
 simp only [AO.kill,AO.mapv.injEq,and_true]
 constructor
 ·intro h x hx
  have:=map_same _ _ h x hx
  exact congrArg Prod.snd this
 ·intro h
  conv=>rhs;rw [← List.map_id kv]
  exact List.map_congr_left fun x hx=>by rw [h x hx];rfl
theorem put_fix (h:Zau K L=L) {k:Key} {a:AO} (ha:a.kill K=a):Zau K (Zat L k a)=Zat L k a:=by rw [killO_putO,h,ha]
theorem rd_fix (h:fr.map (·.kill K)=fr) (x:Opd):(rd fr x).kill K=rd fr x:=by
 cases x with
 |t i=>
  simp only [rd,List.getD]
  cases hq:fr[i]? with
  |none=>rfl
  |some y=>exact mem_fix h y (List.mem_of_getElem? hq)
 |f n=>simp [rd,AV.kill]
 |_=>rfl
theorem un_fix {x:AV} (h:x.kill K=x):x.un.2.kill K=x.un.2:=by
 induction x with
 |g c a ih=>
  simp only [AV.kill,AV.g.injEq,true_and] at h
  exact ih h
 |_=>exact h
theorem ad_fix {x:AV} (h:x.kill K=x):x.ad.kill K=x.ad:=by
 unfold AV.ad
 split
 ·rfl
 ·exact h
theorem rdu_fix (h:fr.map (·.kill K)=fr) {x:Opd} {c:Prop} {q:AV} (e:(rd fr x).un=(c,q)):q.kill K=q:=by
 have:=un_fix (rd_fix h x)
 rw [e] at this
 exact this
theorem rda_fix (h:fr.map (·.kill K)=fr) {x:Opd} {c:Prop} {q:AV} (e:(rd fr x).unA=(c,q)):q.kill K=q:=by
 have:=ad_fix (un_fix (rd_fix h x))
 have e2:(rd fr x).un.2.ad=q:=by rw [show (rd fr x).un.2.ad=(rd fr x).unA.2 from rfl,e]
 rw [e2] at this
 exact this
theorem getD_fix {cs:List AV} {o:Nat} (h:∀ x∈cs,x.kill K=x):(cs.getD o .any).kill K=cs.getD o .any:=by
 simp only [List.getD]
 cases hq:cs[o]? with
 |none=>rfl
 |some y=>exact h y (List.mem_of_getElem? hq)
theorem row_ne {k:Key} (h:(AV.row k).kill K=.row k):k≠K:=by
 intro e;simp [AV.kill,e] at h
theorem adr_ne {k:Key} {o:Nat} (h:(AV.adr k o).kill K=.adr k o):k≠K:=by
 intro e;simp [AV.kill,e] at h
theorem rad_ne {k:Key} {z i o:Nat} (h:(AV.rad k z i o).kill K=.rad k z i o):k≠K:=by
 intro e;simp [AV.kill,e] at h
theorem mp_ne {k:Key} (h:(AV.mp k).kill K=.mp k):k≠K:=by
 intro e;simp [AV.kill,e] at h
theorem row_fix {k:Key} (h:k≠K):(AV.row k).kill K=.row k:=by simp [AV.kill,h]
theorem adr_fix {k:Key} {o:Nat} (h:k≠K):(AV.adr k o).kill K=.adr k o:=by simp [AV.kill,h]
theorem rad_fix {k:Key} {z i o:Nat} (h:k≠K):(AV.rad k z i o).kill K=.rad k z i o:=by simp [AV.kill,h]
theorem anyK_false {cs:List CV}:Zai K cs=false↔∀ x∈cs,Zaj K x=false:=by
 induction cs with
 |nil=>simp [Zai]
 |cons x r ih=>simp only [Zai,Bool.or_eq_false_iff,ih,List.mem_cons,forall_eq_or_imp]
theorem anyK_set {cs:List CV} {i:Nat} {x:CV} (h:Zai K cs=false) (hx:Zaj K x=false):Zai K (cs.set i x)=false:=by
 rw [anyK_false] at h ⊢
 intro y hy
 rcases List.mem_or_eq_of_mem_set hy with hy|rfl
 ·exact h y hy
 ·exact hx
theorem ag_fix {cs:List CV}:(AV.ag cs).kill K=.ag cs↔Zai K cs=false:=by
 simp only [AV.kill]
 split<;>simp_all
theorem thawR_fix {y:PV} {z i o:Nat}:(Zax y z i o).kill K=Zax y z i o:=by
 unfold Zax
 split
 ·split<;>rfl
 ·rfl
theorem thaw_fix {k:Key} {y:PV} {x:AV} (h:x.kill K=x):(x.thaw k y).kill K=x.thaw k y:=by
 induction x with
 |g c a ih=>
  simp only [AV.kill,AV.g.injEq,true_and] at h
  simp only [AV.thaw,AV.kill,ih h]
 |p|ipt|any=>rfl
 |row k'=>simp only [AV.thaw];split;rfl;exact h
 |adr k' o=>simp only [AV.thaw];split;rfl;exact h
 |rad k' z' i o=>
  simp only [AV.thaw];split
  ·exact thawR_fix
  ·exact h
 |mp k'=>simp only [AV.thaw];split;rfl;exact h
 |fn f ks=>simp only [AV.thaw];split;rfl;exact h
 |ag cs=>
  rw [ag_fix,anyK_false] at h
  simp only [AV.thaw]
  rw [ag_fix,anyK_false]
  intro x hm
  obtain ⟨q,hq,rfl⟩:=List.mem_map.1 hm
  cases q with
  |p p=>rfl
  |row k'=>
   simp only [Zak];split
   ·rfl
   ·exact h _ hq
  |mp k'=>
   simp only [Zak];split
   ·rfl
   ·exact h _ hq
theorem mapA_fix {f:AV→AV} (hf:∀ x:AV,x.kill K=x→(f x).kill K=f x) {a:AO} (h:a.kill K=a):(a.mapA f).kill K=a.mapA f:=by
 cases a with
 |box cs t=>
  simp only [AO.mapA]
  rw [box_fix] at h ⊢
  intro x hx
  obtain ⟨y,hy,rfl⟩:=List.mem_map.1 hx
  exact hf y (h y hy)
 |rowv es e z=>
  simp only [AO.mapA]
  rw [rowv_fix] at h ⊢
  intro x hx y hy
  obtain ⟨x',hx',rfl⟩:=List.mem_map.1 hx
  obtain ⟨y',hy',rfl⟩:=List.mem_map.1 hy
  exact hf y' (h x' hx' y' hy')
 |mapv kv a b=>
  simp only [AO.mapA]
  rw [mapv_fix] at h ⊢
  intro x hx
  obtain ⟨y,hy,rfl⟩:=List.mem_map.1 hx
  exact hf y.2 (h y hy)
 |_=>rfl
theorem killO_cons {k':Key} {a:AO} {r:Objs}:Zau K ((k',a) :: r)=(k',a) :: r↔a.kill K=a∧Zau K r=r:=by
 simp [Zau]
theorem Zam.thaw {d:Nat} {k:Key} {y:PV} (h:Zam d fr L):Zam d (fr.map (·.thaw k y)) (Zaw k y L):=by
 refine ⟨?_,?_⟩
 ·refine fix_mem fun x hx=>?_
  obtain ⟨y,hy,rfl⟩:=List.mem_map.1 hx
  exact thaw_fix (mem_fix h.1 y hy)
 ·have:=h.2
  clear h
  induction L with
  |nil=>rfl
  |cons q r ih=>
   obtain ⟨k',a⟩:=q
   rw [killO_cons] at this
   simp only [Zaw]
   split
   ·exact ih this.2
   ·rw [killO_cons]
    refine ⟨?_,ih this.2⟩
    rw [AO.thaw_mapA]
    exact mapA_fix (fun x hx=>thaw_fix hx) this.1
theorem agL_fix:∀ {cs:List AV} {l:List CV},Zag cs=some l→(∀ x∈cs,x.kill K=x)→Zai K l=false
 |[],l,h,_=>by simp only [Zag,Option.some.injEq] at h;subst h;rfl
 |.p x :: r,l,h,hx=>by
  simp only [Zag,Option.map_eq_some_iff] at h
  obtain ⟨l',h1,rfl⟩:=h
  have:=agL_fix h1 (fun y hy=>hx y (by simp [hy]))
  simp [Zai,Zaj,this]
 |.row k :: r,l,h,hx=>by
  simp only [Zag,Option.map_eq_some_iff] at h
  obtain ⟨l',h1,rfl⟩:=h
  have h2:=agL_fix h1 (fun y hy=>hx y (by simp [hy]))
  have:=row_ne (hx (.row k) (by simp))
  simp [Zai,Zaj,this,h2]
 |.mp k :: r,l,h,hx=>by
  simp only [Zag,Option.map_eq_some_iff] at h
  obtain ⟨l',h1,rfl⟩:=h
  have h2:=agL_fix h1 (fun y hy=>hx y (by simp [hy]))
  have:=mp_ne (hx (.mp k) (by simp))
  simp [Zai,Zaj,this,h2]
 |.adr _ _ :: _,_,h,_=>by simp [Zag] at h
 |.rad _ _ _ _ :: _,_,h,_=>by simp [Zag] at h
 |.ipt _ _ _ _ :: _,_,h,_=>by simp [Zag] at h
 |.fn _ _ :: _,_,h,_=>by simp [Zag] at h
 |.g _ _ :: _,_,h,_=>by simp [Zag] at h
 |.ag _ :: _,_,h,_=>by simp [Zag] at h
 |.any :: _,_,h,_=>by simp [Zag] at h
theorem setC_fix:∀ {us:List PV} {cs:List CV} {o:Nat},Zai K cs=false→Zai K (Zaf cs o us)=false
 |[],cs,o,h=>by simpa [Zaf] using h
 |x :: r,cs,o,h=>by
  simp only [Zaf]
  exact setC_fix (anyK_set h rfl)
theorem bldG_fix (hF:fr.map (·.kill K)=fr):∀ {ps:List (Nat×Nat×Opd)} {cs:List CV} {q:Prop×List CV},Zae fr cs ps=some q→Zai K cs=false→Zai K q.2=false
 |[],cs,q,h,hc=>by simp only [Zae,Option.some.injEq] at h;subst h;exact hc
 |(o,s,x) :: r,cs,q,h,hc=>by
  simp only [Zae] at h
  split at h
  ·split at h
   ·obtain ⟨q',h1,rfl⟩:=Option.map_eq_some_iff.1 h
    have:=bldG_fix hF h1 (setC_fix hc)
    exact this
   ·cases h
  ·rename_i c k e
   split at h
   ·obtain ⟨q',h1,rfl⟩:=Option.map_eq_some_iff.1 h
    have:=bldG_fix hF h1 (anyK_set hc (by simp only [Zaj,decide_eq_false_iff_not];exact row_ne (rdu_fix hF e)))
    exact this
   ·cases h
  ·rename_i c k e
   split at h
   ·obtain ⟨q',h1,rfl⟩:=Option.map_eq_some_iff.1 h
    have:=bldG_fix hF h1 (anyK_set hc (by simp only [Zaj,decide_eq_false_iff_not];exact mp_ne (rdu_fix hF e)))
    exact this
   ·cases h
  ·cases h
theorem setAV_fix:∀ {us cs:List AV} {o:Nat},(∀ x∈cs,x.kill K=x)→(∀ x∈us,x.kill K=x)→∀ x∈Zac cs o us,x.kill K=x
 |[],cs,o,h,_=>by simpa [Zac] using h
 |u :: r,cs,o,h,hu=>by
  simp only [Zac]
  refine setAV_fix (fun x hx=>?_) (fun x hx=>hu x (by simp [hx]))
  rcases List.mem_or_eq_of_mem_set hx with h'|h'
  ·exact h x h'
  ·subst h';exact hu _ (by simp)
end
def slots:Opd→List Nat
 |.t i=>[i]
 |_=>[]
def optS:Option Opd→List Nat
 |none=>[]
 |some x=>slots x
def slotsL:List Opd→List Nat
 |[]=>[]
 |x :: r=>slots x++slotsL r
def slotsP:List (Nat×Nat×Opd)→List Nat
 |[]=>[]
 |(_,_,x) :: r=>slots x++slotsP r
def readsA:IOp→Option (List Nat)
 |.mov x|.not x|.neg x|.len x|.sln x|.fla _ x|.fld _ _ _ x|.ld _ _ x|.ldl _ _ x|.ldg _ x|.ext _ x|.cvi _ x|.cvs x|.b2s x|.nck x|.nli _ x|.mpn x=>some (slots x)
 |.pick c a b=>some (slots c++slots a++slots b)
 |.bin _ x y|.bnb _ x y|.eqa _ _ x y|.mx x y|.mn x y|.idx x y|.ixa _ x y|.mpl _ _ x y=>some (slots x++slots y)
 |.ssl x lo hi|.vsl _ x lo hi=>some (slots x++optS lo++optS hi)
 |.bld _ parts|.bldg _ parts=>some (slotsP parts)
 |.bsl _ parts=>some (slotsL parts)
 |.pcall _ _ args=>some (slotsL args)
 |.pcv _ g args=>some (slots g++slotsL args)
 |_=>none
def readsI (i:IOper):Option (List Nat):=
 (readsA i.op).map fun l=>l++(match i.guard with|some (s,_)=>[s]|none=>[])
def isD:IOper→Option (Bool×List Nat)
 |⟨_,.dcall b _ args,none⟩=>some (b,slotsL args)
 |_=>none
def isN:IOper→Option (Nat×List Nat)
 |⟨some d,.alcd _ _,none⟩=>some (d,[])
 |⟨some d,.bsrd _ _ parts,none⟩=>some (d,slotsL parts)
 |⟨some d,.fcl _ _ args _ _,none⟩=>some (d,slotsL args)
 |_=>none
def nfree:IOp→Bool
 |.pcall ..=>false
 |.pcv ..=>false
 |_=>true
def lfree (b:Bool):IOp→Bool
 |.ld ..=>false
 |.ldg ..=>false
 |.pcall ..=>false
 |.pcv ..=>false
 |.mpl ..=>false
 |.mpn ..=>false
 |.ldl ..=>b
 |_=>true
def isSr:IOper→Option (List Nat)
 |⟨none,.st _ p x,none⟩=>some (slots p++slots x)
 |_=>none
def nol:IOp→Bool
 |.mov ..|.nli ..|.pick ..|.bin ..|.bnb ..|.eqa ..|.not ..|.neg ..|.sln ..|.mx ..|.mn ..|.idx ..|.ssl ..|.vsl ..|.fla ..|.fld ..|.ext ..|.bld ..|.bldg ..|.cvi ..|.cvs ..|.bsl ..|.nck ..=>true
 |_=>false
def isAp:IOper→Option (Nat×List Nat)
 |⟨some d,.app _ _ _ x y,none⟩=>some (d,slots x++slots y)
 |_=>none
def kfree:IOp→Bool
 |.mov ..|.bin ..|.sln ..|.ssl ..=>true
 |_=>false
def sepI (x i:IOper) (rx ri:List Nat):Bool:=
 (match x.dst with|some d=>!ri.contains d|none=>true) && (match i.dst with|some d=>!rx.contains d|none=>true) && (match x.dst,i.dst with|some d,some e=>d != e|_,_=>true)
def apartI (x i:IOper):Bool:=
 match readsI x,readsI i with
 |some rx,some ri=>sepI x i rx ri
 |some rx,none=>match isD i with
  |some (b,ri)=>lfree b x.op && sepI x i rx ri
  |none=>match isN i with
   |some (_,ri)=>nfree x.op && sepI x i rx ri
   |none=>match isSr i with
    |some ri=>nol x.op && sepI x i rx ri
    |none=>false
 |none,some ri=>match isD x with
  |some (b,rx)=>lfree b i.op && sepI x i rx ri
  |none=>match isN x with
   |some (_,rx)=>nfree i.op && sepI x i rx ri
   |none=>match isSr x with
    |some rx=>nol i.op && sepI x i rx ri
    |none=>match isAp x with
     |some (_,rx)=>kfree i.op && (i.guard.isNone && sepI x i rx ri)
     |none=>false
 |none,none=>match isN x,isN i with
  |some (_,rx),some (_,ri)=>sepI x i rx ri
  |some (_,rx),none=>match isD i with
   |some (b,ri)=>b && sepI x i rx ri
   |none=>false
  |none,some (_,ri)=>match isD x with
   |some (b,rx)=>b && sepI x i rx ri
   |none=>false
  |none,none=>false
section
variable {P:Program} {E:Envt} {Y:List PV} {fr:List AV} {L:Objs}
theorem rd_set {d:Nat} {r:AV} {x:Opd} (h:d∉slots x):rd (fr.set d r) x=rd fr x:=by
 cases x with
 |t i=>
  simp only [slots,List.mem_singleton] at h
  simp only [rd,List.getD]
  rw [List.getElem?_set_ne h]
 |_=>rfl
theorem rdo_set {d:Nat} {r:AV} {x:Option Opd} (h:d∉optS x):x.map (rd (fr.set d r))=x.map (rd fr):=by
 cases x with
 |none=>rfl
 |some y=>simp only [Option.map_some];rw [rd_set h]
theorem bldP_set {d:Nat} {r:AV}:∀ {ps:List (Nat×Nat×Opd)} {cs:List PV},d∉slotsP ps→Zad (fr.set d r) cs ps=Zad fr cs ps:=by
 intro ps
 induction ps with
 |nil=>intros;rfl
 |cons p ps ih=>
  intro cs h
  obtain ⟨o,s,x⟩:=p
  simp only [slotsP,List.mem_append,not_or] at h
  simp only [Zad]
  rw [rd_set h.1]
  split
  ·rw [ih h.2]
  ·rfl
theorem bldG_set {d:Nat} {r:AV}:∀ {ps:List (Nat×Nat×Opd)} {cs:List CV},d∉slotsP ps→Zae (fr.set d r) cs ps=Zae fr cs ps:=by
 intro ps
 induction ps with
 |nil=>intros;rfl
 |cons p ps ih=>
  intro cs h
  obtain ⟨o,s,x⟩:=p
  simp only [slotsP,List.mem_append,not_or] at h
  simp only [Zae]
  rw [rd_set h.1]
  split
  ·rw [ih h.2]
  ·rw [ih h.2]
  ·rw [ih h.2]
  ·rfl
theorem bslP_set {d z:Nat} {r:AV}:∀ {ps:List Opd},d∉slotsL ps→Zao (fr.set d r) z ps=Zao fr z ps:=by
 intro ps
 induction ps with
 |nil=>intros;rfl
 |cons x ps ih=>
  intro h
  simp only [slotsL,List.mem_append,not_or] at h
  simp only [Zao]
  rw [rd_set h.1]
  split
  ·rw [ih h.2]
  ·rfl
theorem argC_set {d:Nat} {r:AV}:∀ {ps:List Opd},d∉slotsL ps→Zm (fr.set d r) ps=Zm fr ps:=by
 intro ps
 induction ps with
 |nil=>intros;rfl
 |cons x ps ih=>
  intro h
  simp only [slotsL,List.mem_append,not_or] at h
  simp only [Zm]
  rw [rd_set h.1,ih h.2]
theorem argV_set {d:Nat} {r:AV}:∀ {ps:List Opd},d∉slotsL ps→Zn (fr.set d r) ps=Zn fr ps:=by
 intro ps
 induction ps with
 |nil=>intros;rfl
 |cons x ps ih=>
  intro h
  simp only [slotsL,List.mem_append,not_or] at h
  have:=ih h.2
  simp only [Zn,List.map_cons] at this ⊢
  rw [rd_set h.1,this]
def core (P:Program) (E:Envt) (Y:List PV) (fr:List AV) (L:Objs):IOp→Option (Prop×AV)
 |.pcall n f args=>some (Zm fr args∧PureC P E f (Zn fr args) L (·=Y.getD n (.bool false)),.p (Y.getD n (.bool false)))
 |.pcv n g args=>match Zar fr g with
  |some (f,ks)=>some ((rd fr g).un.1∧fnB P f=true∧Zl L ks=true∧Zm fr args∧PureC P E f (Zn fr args++ks) L (·=Y.getD n (.bool false)),.p (Y.getD n (.bool false)))
  |none=>none
 |op=>Zf fr L op
theorem core_set {d:Nat} {r:AV} {op:IOp} {l:List Nat} (h:readsA op=some l) (hd:d∉l):core P E Y (fr.set d r) L op=core P E Y fr L op:=by
 cases op<;>simp only [readsA,Option.some.injEq,reduceCtorEq] at h<;>subst h<;>(try simp only [List.mem_append,not_or] at hd)
 case mov x=>simp only [core,Zf,rd_set hd]
 case pick c a b=>simp only [core,Zf,rd_set hd.1.1,rd_set hd.1.2,rd_set hd.2]
 case bin op x y=>simp only [core,Zf,rd_set hd.1,rd_set hd.2]
 case bnb op x y=>simp only [core,Zf,rd_set hd.1,rd_set hd.2]
 case eqa n k x y=>simp only [core,Zf,rd_set hd.1,rd_set hd.2]
 case not x=>simp only [core,Zf,rd_set hd]
 case neg x=>simp only [core,Zf,rd_set hd]
 case len x=>simp only [core,Zf,rd_set hd]
 case sln x=>simp only [core,Zf,rd_set hd]
 case mx x y=>simp only [core,Zf,rd_set hd.1,rd_set hd.2]
 case mn x y=>simp only [core,Zf,rd_set hd.1,rd_set hd.2]
 case idx x y=>simp only [core,Zf,rd_set hd.1,rd_set hd.2]
 case ssl x lo hi=>simp only [core,Zf,rd_set hd.1.1,rdo_set hd.1.2,rdo_set hd.2]
 case vsl z x lo hi=>simp only [core,Zf,rd_set hd.1.1,rdo_set hd.1.2,rdo_set hd.2]
 case ixa z x y=>simp only [core,Zf,rd_set hd.1,rd_set hd.2]
 case fla o x=>simp only [core,Zf,rd_set hd]
 case fld o s a x=>simp only [core,Zf,rd_set hd]
 case ld s a x=>simp only [core,Zf,rd_set hd]
 case ldl s a x=>simp only [core,Zf,rd_set hd]
 case ext i x=>simp only [core,Zf,rd_set hd]
 case bld z ps=>simp only [core,Zf,bldP_set hd]
 case bldg z ps=>simp only [core,Zf,bldG_set hd]
 case ldg s x=>simp only [core,Zf,rd_set hd]
 case cvi k x=>simp only [core,Zf,rd_set hd]
 case cvs x=>simp only [core,Zf,rd_set hd]
 case b2s x=>simp only [core,Zf,rd_set hd]
 case bsl z ps=>simp only [core,Zf,bslP_set hd]
 case nck x=>simp only [core,Zf,rd_set hd]
 case nli n x=>simp only [core,Zf,rd_set hd]
 case mpn x=>simp only [core,Zf,rd_set hd]
 case mpl o z x y=>simp only [core,Zf,rd_set hd.1,rd_set hd.2]
 case pcall n f args=>simp only [core,argC_set hd,argV_set hd]
 case pcv n g args=>simp only [core,Zar,rd_set hd.1,argC_set hd.2,argV_set hd.2]
def sx (P:Program) (E:Envt) (Y:List PV) (fr:List AV) (L:Objs) (i:IOper):Option (Prop×AV):=
 match i.guard with
 |none=>core P E Y fr L i.op
 |some (s,w)=>match Zh fr s w with
  |some c0=>(match core P E Y fr L i.op with|some q=>some (c0=true→q.1,.g c0 q.2)|none=>if plainOp i.op=true then some (c0=false,.g c0 .any) else none)
  |none=>none
theorem sx_setD {d:Option Nat} {r:AV} {i:IOper} {l:List Nat} (h:readsI i=some l) (hd:∀ e,d=some e→e∉l):sx P E Y (Zg fr d r) L i=sx P E Y fr L i:=by
 cases d with
 |none=>rfl
 |some d=>
  have hd:=hd d rfl
  obtain ⟨l0,h1,rfl⟩:=Option.map_eq_some_iff.1 h
  simp only [List.mem_append,not_or] at hd
  unfold sx
  simp only [Zg]
  cases hg:i.guard with
  |none=>simp only;exact core_set h1 hd.1
  |some q=>
   obtain ⟨s,w⟩:=q
   rw [hg] at hd
   simp only
   have:Zh (fr.set d r) s w=Zh fr s w:=by
    unfold Zh
    rw [show (fr.set d r).getD s .any=fr.getD s .any from by simp only [List.getD];rw [List.getElem?_set_ne (by simpa using hd.2)]]
   rw [this,core_set h1 hd.1]
theorem awpOps_sx {i:IOper} {is:List IOper} {K:List AV→Objs→Prop} (hr:(readsI i).isSome=true):awpOps P E Y (i :: is) fr L K↔∃ c r,sx P E Y fr L i=some (c,r)∧c∧awpOps P E Y is (Zg fr i.dst r) L K:=by
 obtain ⟨d,op,gd⟩:=i
 have hA:(readsA op).isSome=true:=by simpa [readsI] using hr
 cases gd with
 |none=>
  have key:∀ q:Option (Prop×AV),(∃ c r,q=some (c,r)∧c∧awpOps P E Y is (Zg fr d r) L K)↔(match q with|some (c,r)=>c∧awpOps P E Y is (Zg fr d r) L K|none=>False):=by
   intro q
   cases q with
   |none=>simp
   |some q=>
    obtain ⟨c,r⟩:=q
    simp only [Option.some.injEq,Prod.mk.injEq]
    exact ⟨fun ⟨_,_,⟨rfl,rfl⟩,h1,h2⟩=>⟨h1,h2⟩,fun ⟨h1,h2⟩=>⟨_,_,⟨rfl,rfl⟩,h1,h2⟩⟩
  have gen:∀ op:IOp,awpOps P E Y (⟨d,op,none⟩ :: is) fr L K=(match Ze d fr L op with|some (c,fr',L')=>c∧awpOps P E Y is fr' L' K|none=>False)→Ze d fr L op=(Zf fr L op).map (fun q=>(q.1,Zg fr d q.2,L))→core P E Y fr L op=Zf fr L op→(awpOps P E Y (⟨d,op,none⟩ :: is) fr L K↔∃ c r,sx P E Y fr L ⟨d,op,none⟩=some (c,r)∧c∧awpOps P E Y is (Zg fr d r) L K):=by
   intro op h1 h2 h3
   rw [h1,h2]
   simp only [sx,h3]
   rw [key]
   cases Zf fr L op with
   |none=>rfl
   |some q=>rfl
  cases op<;>simp only [readsA,Option.isSome_some,Option.isSome_none,Bool.false_eq_true] at hA
  case pcall n f args=>
   simp only [awpOps,sx,core]
   rw [key]
  case pcv n g args=>
   simp only [awpOps,sx,core]
   rw [key]
   cases Zar fr g with
   |none=>rfl
   |some q=>rfl
  all_goals exact gen _ rfl rfl rfl
 |some sw=>
  obtain ⟨s,want⟩:=sw
  have gen:∀ op:IOp,awpOps P E Y (⟨d,op,some (s,want)⟩ :: is) fr L K=(match Zh fr s want with|some c0=>(match Zf fr L op with|some (c,r)=>(c0=true→c)∧awpOps P E Y is (Zg fr d (.g c0 r)) L K|none=>plainOp op=true∧c0=false∧awpOps P E Y is (Zg fr d (.g c0 .any)) L K)|none=>False)→core P E Y fr L op=Zf fr L op→(awpOps P E Y (⟨d,op,some (s,want)⟩ :: is) fr L K↔∃ c r,sx P E Y fr L ⟨d,op,some (s,want)⟩=some (c,r)∧c∧awpOps P E Y is (Zg fr d r) L K):=by
   intro op h1 h3
   rw [h1]
   simp only [sx,h3]
   cases Zh fr s want with
   |none=>simp
   |some c0=>
    cases Zf fr L op with
    |none=>
     cases hp:plainOp op with
     |false=>simp
     |true=>
      simp only [if_true,Option.some.injEq,Prod.mk.injEq,true_and]
      exact ⟨fun ⟨h1,h2⟩=>⟨_,_,⟨rfl,rfl⟩,h1,h2⟩,fun ⟨_,_,⟨rfl,rfl⟩,h1,h2⟩=>⟨h1,h2⟩⟩
    |some q=>
     obtain ⟨c,r⟩:=q
     simp only [Option.some.injEq,Prod.mk.injEq]
     exact ⟨fun ⟨h1,h2⟩=>⟨_,_,⟨rfl,rfl⟩,h1,h2⟩,fun ⟨_,_,⟨rfl,rfl⟩,h1,h2⟩=>⟨h1,h2⟩⟩
  cases op<;>simp only [readsA,Option.isSome_some,Option.isSome_none,Bool.false_eq_true] at hA
  case pcall n f args=>
   simp only [awpOps,sx,core]
   cases Zh fr s want with
   |none=>simp
   |some c0=>
    simp only [Option.map_some,Option.some.injEq,Prod.mk.injEq]
    exact ⟨fun ⟨h1,h2⟩=>⟨_,_,⟨rfl,rfl⟩,h1,h2⟩,fun ⟨_,_,⟨rfl,rfl⟩,h1,h2⟩=>⟨h1,h2⟩⟩
  case pcv n g args=>
   simp only [awpOps,sx,core]
   cases Zh fr s want with
   |none=>simp
   |some c0=>
    cases Zar fr g with
    |none=>simp [plainOp]
    |some q=>
     simp only [Option.some.injEq,Prod.mk.injEq]
     exact ⟨fun ⟨h1,h2⟩=>⟨_,_,⟨rfl,rfl⟩,h1,h2⟩,fun ⟨_,_,⟨rfl,rfl⟩,h1,h2⟩=>⟨h1,h2⟩⟩
  all_goals exact gen _ rfl rfl
theorem sepI_spec {x i:IOper} {rx ri:List Nat} (h:sepI x i rx ri=true):(∀ d,x.dst=some d→d∉ri)∧(∀ d,i.dst=some d→d∉rx)∧(∀ d e,x.dst=some d→i.dst=some e→d≠e):=by
 simp only [sepI,Bool.and_eq_true] at h
 refine ⟨fun d hd=>?_,fun d hd=>?_,fun d e hd he=>?_⟩
 ·have:=h.1.1;rw [hd] at this;simpa using this
 ·have:=h.1.2;rw [hd] at this;simpa using this
 ·have:=h.2;rw [hd,he] at this;simpa using this
theorem isD_eq {i:IOper} {b:Bool} {l:List Nat} (h:isD i=some (b,l)):∃ d f args,i=⟨d,.dcall b f args,none⟩∧l=slotsL args:=by
 unfold isD at h
 split at h
 ·simp only [Option.some.injEq,Prod.mk.injEq] at h
  obtain ⟨rfl,rfl⟩:=h
  exact ⟨_,_,_,rfl,rfl⟩
 ·cases h
theorem isSr_eq {i:IOper} {l:List Nat} (h:isSr i=some l):∃ sz p y,i=⟨none,.st sz p y,none⟩∧l=slots p++slots y:=by
 unfold isSr at h
 split at h
 ·cases h;exact ⟨_,_,_,rfl,rfl⟩
 ·cases h
theorem isAp_eq {i:IOper} {q:Nat} {l:List Nat} (h:isAp i=some (q,l)):∃ d e z b u v,i=⟨some d,.app e z b u v,none⟩∧l=slots u++slots v∧q=d:=by
 unfold isAp at h
 split at h
 ·cases h;exact ⟨_,_,_,_,_,_,rfl,rfl,rfl⟩
 ·cases h
theorem apartI_spec {x i:IOper} (h:apartI x i=true) :
  (∃ rx ri,readsI x=some rx∧readsI i=some ri∧sepI x i rx ri=true)∨
  (∃ rx b d f args,readsI x=some rx∧i=⟨d,.dcall b f args,none⟩∧lfree b x.op=true∧sepI x i rx (slotsL args)=true)∨
  (∃ ri b d f args,readsI i=some ri∧x=⟨d,.dcall b f args,none⟩∧lfree b i.op=true∧sepI x i (slotsL args) ri=true)∨
  (∃ rx d ri,readsI x=some rx∧isN i=some (d,ri)∧nfree x.op=true∧sepI x i rx ri=true)∨
  (∃ d rx ri,isN x=some (d,rx)∧readsI i=some ri∧nfree i.op=true∧sepI x i rx ri=true)∨
  (∃ d rx e ri,isN x=some (d,rx)∧isN i=some (e,ri)∧sepI x i rx ri=true)∨
  (∃ d rx e f args,isN x=some (d,rx)∧i=⟨e,.dcall true f args,none⟩∧sepI x i rx (slotsL args)=true)∨
  (∃ d f args e ri,x=⟨d,.dcall true f args,none⟩∧isN i=some (e,ri)∧sepI x i (slotsL args) ri=true)∨
  (∃ rx sz p y,readsI x=some rx∧i=⟨none,.st sz p y,none⟩∧nol x.op=true∧sepI x i rx (slots p++slots y)=true)∨
  (∃ ri sz p y,readsI i=some ri∧x=⟨none,.st sz p y,none⟩∧nol i.op=true∧sepI x i (slots p++slots y) ri=true)∨
  (∃ ri d e z b u v,readsI i=some ri∧x=⟨some d,.app e z b u v,none⟩∧kfree i.op=true∧i.guard=none∧sepI x i (slots u++slots v) ri=true):=by
 unfold apartI at h
 split at h
 ·rename_i rx ri h1 h2;exact .inl ⟨rx,ri,h1,h2,h⟩
 ·rename_i rx h1 h2
  split at h
  ·rename_i b l e
   obtain ⟨d,f,args,rfl,rfl⟩:=isD_eq e
   simp only [Bool.and_eq_true] at h
   exact .inr (.inl ⟨rx,b,d,f,args,h1,rfl,h.1,h.2⟩)
  ·split at h
   ·rename_i q ri e
    simp only [Bool.and_eq_true] at h
    exact .inr (.inr (.inr (.inl ⟨rx,_,ri,h1,e,h.1,h.2⟩)))
   ·split at h
    ·rename_i ri e
     obtain ⟨sz,p,y,rfl,rfl⟩:=isSr_eq e
     simp only [Bool.and_eq_true] at h
     exact .inr (.inr (.inr (.inr (.inr (.inr (.inr (.inr (.inl ⟨rx,_,_,_,h1,rfl,h.1,h.2⟩))))))))
    ·cases h
 ·rename_i ri h1 h2
  split at h
  ·rename_i b l e
   obtain ⟨d,f,args,rfl,rfl⟩:=isD_eq e
   simp only [Bool.and_eq_true] at h
   exact .inr (.inr (.inl ⟨ri,b,d,f,args,h2,rfl,h.1,h.2⟩))
  ·split at h
   ·rename_i q rx e
    simp only [Bool.and_eq_true] at h
    exact .inr (.inr (.inr (.inr (.inl ⟨_,rx,ri,e,h2,h.1,h.2⟩))))
   ·split at h
    ·rename_i rx e
     obtain ⟨sz,p,y,rfl,rfl⟩:=isSr_eq e
     simp only [Bool.and_eq_true] at h
     exact .inr (.inr (.inr (.inr (.inr (.inr (.inr (.inr (.inr (.inl ⟨ri,_,_,_,h2,rfl,h.1,h.2⟩)))))))))
    ·split at h
     ·rename_i q rx e
      obtain ⟨d,e',z,b,u,v,rfl,rfl,rfl⟩:=isAp_eq e
      simp only [Bool.and_eq_true,Option.isNone_iff_eq_none] at h
      exact .inr (.inr (.inr (.inr (.inr (.inr (.inr (.inr (.inr (.inr ⟨ri,_,_,_,_,_,_,h2,rfl,h.1,h.2.1,h.2.2⟩)))))))))
     ·cases h
 ·split at h
  ·rename_i d rx e ri e1 e2
   exact .inr (.inr (.inr (.inr (.inr (.inl ⟨_,_,_,_,e1,e2,h⟩)))))
  ·rename_i d rx e1 e2
   split at h
   ·rename_i b ri e3
    obtain ⟨d,f,args,rfl,rfl⟩:=isD_eq e3
    simp only [Bool.and_eq_true] at h
    obtain ⟨rfl,h⟩:=h
    exact .inr (.inr (.inr (.inr (.inr (.inr (.inl ⟨_,_,_,_,_,e1,rfl,h⟩))))))
   ·cases h
  ·rename_i d ri e1 e2
   split at h
   ·rename_i b rx e3
    obtain ⟨d,f,args,rfl,rfl⟩:=isD_eq e3
    simp only [Bool.and_eq_true] at h
    obtain ⟨rfl,h⟩:=h
    exact .inr (.inr (.inr (.inr (.inr (.inr (.inr (.inl ⟨_,_,_,_,_,rfl,e2,h⟩)))))))
   ·cases h
  ·cases h
theorem slOf_put {k:Key} {cs cs':List AV} {t:TypeId} (hl:Zas L k=some (.box cs t)) (v:AV):Zw (Zat L k (.box cs' t)) v=Zw L v:=by
 cases v with
 |row k'=>
  simp only [Zw,look_putO]
  by_cases h:k'=k
  ·subst h;simp [hl]
  ·simp [h]
 |p x=>cases x<;>rfl
 |_=>rfl
theorem lnOf_put {k:Key} {cs cs':List AV} {t:TypeId} (hl:Zas L k=some (.box cs t)) (v:AV):Zay (Zat L k (.box cs' t)) v=Zay L v:=by
 cases v with
 |row k'=>
  simp only [Zay,look_putO]
  by_cases h:k'=k
  ·subst h;simp [hl]
  ·simp [h]
 |p x=>cases x<;>rfl
 |_=>rfl
theorem core_put {b:Bool} {op:IOp} {k:Key} {cs cs':List AV} {t:TypeId} (hf:lfree b op=true) (hr:(readsA op).isSome=true) (hl:Zas L k=some (.box cs t)) (hb:b=true→∃ j,k=.b j):core P E Y fr (Zat L k (.box cs' t)) op=core P E Y fr L op:=by
 cases op<;>simp only [readsA,Option.isSome_some,Option.isSome_none,Bool.false_eq_true] at hr
 case ld=>simp [lfree] at hf
 case ldg=>simp [lfree] at hf
 case pcall=>simp [lfree] at hf
 case pcv=>simp [lfree] at hf
 case mpl=>simp [lfree] at hf
 case mpn=>simp [lfree] at hf
 case len x=>simp only [core,Zf,lnOf_put hl]
 case b2s x=>simp only [core,Zf,slOf_put hl]
 case ixa z x y=>
  simp only [core,Zf]
  split
  ·rfl
  ·rename_i k' _ _ _ _ _
   rw [look_putO]
   by_cases h:k'=k
   ·subst h;simp [hl]
   ·simp [h]
  ·rfl
 case ldl s a x=>
  simp only [lfree] at hf
  obtain ⟨j,rfl⟩:=hb hf
  simp only [core,Zf]
  split
  ·rfl
  ·rw [look_putO,if_neg (by simp)]
  ·rw [look_putO,if_neg (by simp)]
  ·rfl
 all_goals rfl
theorem sx_put {b:Bool} {i:IOper} {k:Key} {cs cs':List AV} {t:TypeId} (hf:lfree b i.op=true) (hr:(readsI i).isSome=true) (hl:Zas L k=some (.box cs t)) (hb:b=true→∃ j,k=.b j):sx P E Y fr (Zat L k (.box cs' t)) i=sx P E Y fr L i:=by
 have hA:(readsA i.op).isSome=true:=by simpa [readsI] using hr
 unfold sx
 split
 ·exact core_put hf hA hl hb
 ·rw [core_put hf hA hl hb]
theorem argC_setD {d:Option Nat} {r:AV} {ps:List Opd} (h:∀ e,d=some e→e∉slotsL ps):Zm (Zg fr d r) ps=Zm fr ps:=by
 cases d with
 |none=>rfl
 |some e=>exact argC_set (h e rfl)
theorem argV_setD {d:Option Nat} {r:AV} {ps:List Opd} (h:∀ e,d=some e→e∉slotsL ps):Zn (Zg fr d r) ps=Zn fr ps:=by
 cases d with
 |none=>rfl
 |some e=>exact argV_set (h e rfl)
theorem setD_comm {d e:Option Nat} {r q:AV} (h:∀ a b,d=some a→e=some b→a≠b):Zg (Zg fr d r) e q=Zg (Zg fr e q) d r:=by
 cases d with
 |none=>rfl
 |some d=>cases e with
  |none=>rfl
  |some e=>simp only [Zg];rw [List.set_comm _ _ (h d e rfl rfl)]
theorem rowv_getD {K:Key} {es:List (List AV)} (h:∀ x∈es,∀ y∈x,y.kill K=y) (i o:Nat):((es.getD i []).getD o .any).kill K=(es.getD i []).getD o .any:=by
 rw [List.getD,List.getD]
 cases hq:es[i]? with
 |none=>simp [AV.kill]
 |some q=>
  simp only [Option.getD_some]
  cases hx:q[o]? with
  |none=>simp [AV.kill]
  |some y=>simpa using h q (List.mem_of_getElem? hq) y (List.mem_of_getElem? hx)
theorem mpF_fix {K:Key} {kv:List (List UInt8×AV)} {s:List UInt8} {z:AV} (h:∀ x∈kv,x.2.kill K=x.2) (hz:z.kill K=z):((mpF kv s).getD z).kill K=(mpF kv s).getD z:=by
 induction kv with
 |nil=>simpa [mpF] using hz
 |cons p r ih=>
  simp only [mpF]
  split
  ·simpa using h p (by simp)
  ·exact ih fun x hx=>h x (by simp [hx])
theorem core_fix {K:Key} {op:IOp} {c:Prop} {r:AV} (hr:(readsA op).isSome=true) (hF:fr.map (·.kill K)=fr) (hL:Zau K L=L) (h:core P E Y fr L op=some (c,r)):r.kill K=r:=by
 cases op<;>simp only [readsA,Option.isSome_some,Option.isSome_none,Bool.false_eq_true] at hr<;>simp only [core,Zf] at h
 case mov x=>cases h;exact rd_fix hF x
 case ixa z x y=>
  split at h
  ·split at h
   ·cases h;rfl
   ·cases h
  ·rename_i c1 k c2 y1 n e1 e2
   split at h
   ·split at h
    ·cases h;exact rad_fix (row_ne (rdu_fix hF e1))
    ·cases h
   ·split at h
    ·cases h;exact rad_fix (row_ne (rdu_fix hF e1))
    ·cases h
   ·cases h
  ·cases h
 case fla o x=>
  split at h
  ·rename_i e;cases h;exact adr_fix (adr_ne (rda_fix hF e))
  ·rename_i e;cases h;exact rad_fix (rad_ne (rda_fix hF e))
  ·cases h;rfl
  ·cases h
 case nli n x=>
  split at h
  ·obtain ⟨b,_,e2⟩:=Option.map_eq_some_iff.1 h
   simp only [Prod.mk.injEq] at e2
   obtain ⟨_,rfl⟩:=e2
   rfl
  ·cases h
 case nck x=>
  split at h
  ·rename_i e;cases h;exact adr_fix (adr_ne (rda_fix hF e))
  ·rename_i e;cases h;exact rad_fix (rad_ne (rda_fix hF e))
  ·cases h;rfl
  ·cases h
 case ld sz ag x=>
  split at h
  ·split at h
   ·cases h;rfl
   ·cases h
  ·split at h
   ·split at h
    ·cases h;rfl
    ·cases h
   ·rename_i es t z' hl
    split at h
    ·cases h
     have hh:=rowv_fix.1 (look_fix hL hl)
     exact rowv_getD hh _ _
    ·cases h
   ·cases h
  ·split at h
   ·rename_i cs t hl
    split at h
    ·split at h
     ·obtain ⟨q,_,e⟩:=Option.map_eq_some_iff.1 h;cases e;rfl
     ·cases h
      exact getD_fix (box_fix.1 (look_fix hL hl))
    ·cases h
   ·cases h
  ·cases h
 case ldl sz ag x=>
  split at h
  ·split at h
   ·cases h;rfl
   ·cases h
  ·split at h
   ·split at h
    ·cases h;rfl
    ·cases h
   ·rename_i es t z' hl
    split at h
    ·cases h
     have hh:=rowv_fix.1 (look_fix hL hl)
     exact rowv_getD hh _ _
    ·cases h
   ·cases h
  ·split at h
   ·rename_i cs t hl
    split at h
    ·split at h
     ·obtain ⟨q,_,e⟩:=Option.map_eq_some_iff.1 h;cases e;rfl
     ·cases h
      exact getD_fix (box_fix.1 (look_fix hL hl))
    ·cases h
   ·cases h
  ·cases h
 case ldg sz x=>
  split at h
  ·split at h
   ·rename_i cs t hl
    split at h
    ·obtain ⟨q,e1,e⟩:=Option.map_eq_some_iff.1 h
     cases e
     exact ag_fix.2 (agL_fix e1 (fun y hy=>box_fix.1 (look_fix hL hl) y (List.mem_of_mem_drop (List.mem_of_mem_take hy))))
    ·cases h
   ·cases h
  ·cases h
 case bldg zero ps=>
  obtain ⟨q,e1,e⟩:=Option.map_eq_some_iff.1 h
  cases e
  exact ag_fix.2 (bldG_fix hF e1 (anyK_false.2 fun x hx=>by obtain ⟨y,_,rfl⟩:=List.mem_map.1 hx;rfl))
 case mpl ok zero m k=>
  split at h
  ·split at h
   ·cases h;rfl
   ·rename_i hl
    split at h
    ·cases h
     exact mpF_fix (mapv_fix.1 (look_fix hL hl)) rfl
    ·cases h
   ·cases h
  ·cases h;rfl
  ·cases h
 all_goals first
  |(cases h;rfl)
  |(obtain ⟨q,_,e⟩:=Option.map_eq_some_iff.1 h;cases e;rfl)
  |((repeat' split at h)<;>first|(cases h;rfl)|(cases h;done)|(obtain ⟨q,_,e⟩:=Option.map_eq_some_iff.1 h;cases e;rfl))
theorem sx_fix {K:Key} {i:IOper} {c:Prop} {r:AV} (hr:(readsI i).isSome=true) (hF:fr.map (·.kill K)=fr) (hL:Zau K L=L) (h:sx P E Y fr L i=some (c,r)):r.kill K=r:=by
 have hA:(readsA i.op).isSome=true:=by simpa [readsI] using hr
 unfold sx at h
 split at h
 ·exact core_fix hA hF hL h
 ·split at h
  ·split at h
   ·rename_i q e
    cases h
    have:=core_fix (P:=P) (E:=E) (Y:=Y) (c:=q.1) (r:=q.2) hA hF hL e
    simp only [AV.kill,this]
   ·split at h
    ·cases h;rfl
    ·cases h
  ·cases h
theorem slOf_putN {K:Key} {a:AO} {v:AV} (h:v.kill K=v):Zw (Zat L K a) v=Zw L v:=by
 cases v with
 |row k'=>simp only [Zw,look_putO,if_neg (row_ne h)]
 |p x=>cases x<;>rfl
 |_=>rfl
theorem lnOf_putN {K:Key} {a:AO} {v:AV} (h:v.kill K=v):Zay (Zat L K a) v=Zay L v:=by
 cases v with
 |row k'=>simp only [Zay,look_putO,if_neg (row_ne h)]
 |p x=>cases x<;>rfl
 |_=>rfl
theorem core_putN {K:Key} {a:AO} {op:IOp} (hf:nfree op=true) (hr:(readsA op).isSome=true) (hF:fr.map (·.kill K)=fr):core P E Y fr (Zat L K a) op=core P E Y fr L op:=by
 cases op<;>simp only [readsA,Option.isSome_some,Option.isSome_none,Bool.false_eq_true] at hr
 case pcall=>simp [nfree] at hf
 case pcv=>simp [nfree] at hf
 case len x=>simp only [core,Zf,lnOf_putN (un_fix (rd_fix hF x))]
 case b2s x=>simp only [core,Zf,slOf_putN (un_fix (rd_fix hF x))]
 case ixa z x y=>
  simp only [core,Zf]
  split
  ·rfl
  ·rename_i e1 e2
   rw [look_putO,if_neg (row_ne (rdu_fix hF e1))]
  ·rfl
 case ld s ag x=>
  simp only [core,Zf]
  split
  ·rfl
  ·rename_i e
   rw [look_putO,if_neg (rad_ne (rda_fix hF e))]
  ·rename_i e
   rw [look_putO,if_neg (adr_ne (rda_fix hF e))]
  ·rfl
 case ldl s ag x=>
  simp only [core,Zf]
  split
  ·rfl
  ·rename_i e
   rw [look_putO,if_neg (rad_ne (rda_fix hF e))]
  ·rename_i e
   rw [look_putO,if_neg (adr_ne (rda_fix hF e))]
  ·rfl
 case ldg s x=>
  simp only [core,Zf]
  split
  ·rename_i e
   rw [look_putO,if_neg (adr_ne (rda_fix hF e))]
  ·rfl
 case mpl o z x y=>
  simp only [core,Zf]
  split
  ·rename_i e1 e2
   rw [look_putO,if_neg (mp_ne (rdu_fix hF e1))]
  ·rfl
  ·rfl
 case mpn x=>
  simp only [core,Zf]
  split
  ·rename_i e1
   rw [look_putO,if_neg (mp_ne (rdu_fix hF e1))]
  ·rfl
  ·rfl
 all_goals rfl
theorem sx_putN {K:Key} {a:AO} {i:IOper} (hf:nfree i.op=true) (hr:(readsI i).isSome=true) (hF:fr.map (·.kill K)=fr):sx P E Y fr (Zat L K a) i=sx P E Y fr L i:=by
 have hA:(readsA i.op).isSome=true:=by simpa [readsI] using hr
 unfold sx
 split
 ·exact core_putN hf hA hF
 ·rw [core_putN hf hA hF]
def nx (P:Program) (E:Envt) (Y:List PV) (fr:List AV):IOper→Option (Prop×AV×AO)
 |⟨some d,.alcd t zero,none⟩=>some (True,.adr (.l d) 0,.box (zero.map .p) t)
 |⟨some d,.bsrd e z parts,none⟩=>if oneNil parts=true then none else (Zao fr z parts).map fun q=>(q.1,.row (.l d),.row q.2 e z true)
 |⟨some d,.fcl n f args e z,none⟩=>match argP0 (Zn fr args),Y.getD n (.bool false) with
  |some ps,.sl z' es=>some (Zm fr args∧z'=z∧FrC P E f ps e z es,.row (.l d),.row es e z true)
  |_,_=>none
 |_=>none
theorem isN_eq {i:IOper} {d:Nat} {l:List Nat} (h:isN i=some (d,l)):(∃ t zero,i=⟨some d,.alcd t zero,none⟩∧l=[])∨(∃ e z parts,i=⟨some d,.bsrd e z parts,none⟩∧l=slotsL parts)∨∃ n f args e z,i=⟨some d,.fcl n f args e z,none⟩∧l=slotsL args:=by
 unfold isN at h
 split at h
 ·cases h;exact .inl ⟨_,_,rfl,rfl⟩
 ·cases h;exact .inr (.inl ⟨_,_,_,rfl,rfl⟩)
 ·cases h;exact .inr (.inr ⟨_,_,_,_,_,rfl,rfl⟩)
 ·cases h
theorem isN_dst {i:IOper} {d:Nat} {l:List Nat} (h:isN i=some (d,l)):i.dst=some d:=by
 rcases isN_eq h with ⟨t,zero,rfl,_⟩|⟨e,z,parts,rfl,_⟩|⟨n,f,args,e,z,rfl,_⟩<;>rfl
theorem awpOps_nx {i:IOper} {is:List IOper} {K:List AV→Objs→Prop} {d:Nat} {l:List Nat} (hi:isN i=some (d,l)):awpOps P E Y (i :: is) fr L K↔(Zam d fr L∧Zas L (.l d)=some Zan)∧∃ c r ao,nx P E Y fr i=some (c,r,ao)∧c∧awpOps P E Y is (fr.set d r) (Zat L (.l d) ao) K:=by
 rcases isN_eq hi with ⟨t,zero,rfl,_⟩|⟨e,z,parts,rfl,_⟩|⟨n,f,args,e,z,rfl,_⟩
 ·simp only [awpOps,Ze,nx,Option.some.injEq,Prod.mk.injEq]
  exact ⟨fun ⟨h1,h2⟩=>⟨h1,_,_,_,⟨rfl,rfl,rfl⟩,trivial,h2⟩,fun ⟨h1,_,_,_,⟨rfl,rfl,rfl⟩,_,h2⟩=>⟨h1,h2⟩⟩
 ·simp only [awpOps,Ze,nx]
  cases Zao fr z parts with
  |none=>simp
  |some q=>
   obtain ⟨c,es⟩:=q
   cases oneNil parts
   rotate_left
   ·simp
   simp only [Option.map_some,Option.some.injEq,Prod.mk.injEq,Bool.false_eq_true,if_false]
   exact ⟨fun ⟨⟨h1,hc⟩,h2⟩=>⟨h1,_,_,_,⟨rfl,rfl,rfl⟩,hc,h2⟩,fun ⟨h1,_,_,_,⟨rfl,rfl,rfl⟩,hc,h2⟩=>⟨⟨h1,hc⟩,h2⟩⟩
 ·simp only [awpOps,nx]
  cases argP0 (Zn fr args) with
  |none=>simp
  |some ps=>
   cases Y.getD n (.bool false) with
   |sl z' es=>
    simp only [Option.some.injEq,Prod.mk.injEq]
    exact ⟨fun ⟨⟨h1,hc⟩,h2⟩=>⟨h1,_,_,_,⟨rfl,rfl,rfl⟩,hc,h2⟩,fun ⟨h1,_,_,_,⟨rfl,rfl,rfl⟩,hc,h2⟩=>⟨⟨h1,hc⟩,h2⟩⟩
   |_=>simp
theorem nx_setD {i:IOper} {d:Nat} {l:List Nat} {e:Option Nat} {q:AV} (hi:isN i=some (d,l)) (he:∀ x,e=some x→x∉l):nx P E Y (Zg fr e q) i=nx P E Y fr i:=by
 cases e with
 |none=>rfl
 |some e=>
  have he:=he e rfl
  rcases isN_eq hi with ⟨t,zero,rfl,_⟩|⟨e',z,parts,rfl,rfl⟩|⟨n,f,args,e',z,rfl,rfl⟩
  ·rfl
  ·simp only [nx,Zg]
   rw [bslP_set he]
  ·simp only [nx,Zg]
   rw [argC_set he,argV_set he]
theorem nx_fix {i:IOper} {d e:Nat} {l:List Nat} {c:Prop} {r:AV} {ao:AO} (hi:isN i=some (d,l)) (hne:d≠e) (h:nx P E Y fr i=some (c,r,ao)):r.kill (.l e)=r∧ao.kill (.l e)=ao:=by
 rcases isN_eq hi with ⟨t,zero,rfl,_⟩|⟨e',z,parts,rfl,rfl⟩|⟨n,f,args,e',z,rfl,rfl⟩
 rotate_right
 ·simp only [nx] at h
  split at h
  ·simp only [Option.some.injEq,Prod.mk.injEq] at h
   obtain ⟨_,rfl,rfl⟩:=h
   exact ⟨row_fix (by simpa using hne),rfl⟩
  ·cases h
 ·simp only [nx,Option.some.injEq,Prod.mk.injEq] at h
  obtain ⟨_,rfl,rfl⟩:=h
  exact ⟨adr_fix (by simpa using hne),box_fix.2 (fun x hx=>by obtain ⟨y,_,rfl⟩:=List.mem_map.1 hx;rfl)⟩
 ·simp only [nx] at h
  split at h
  ·cases h
  simp only [Option.map_eq_some_iff,Prod.mk.injEq] at h
  obtain ⟨q,_,_,rfl,rfl⟩:=h
  exact ⟨row_fix (by simpa using hne),rfl⟩
theorem set_fix {K:Key} {d:Option Nat} {r:AV} (hF:fr.map (·.kill K)=fr) (hr:r.kill K=r):(Zg fr d r).map (·.kill K)=Zg fr d r:=by
 cases d with
 |none=>exact hF
 |some d=>simp only [Zg,List.map_set,hF,hr]
theorem Zam.put {d:Nat} {e:Option Nat} {r:AV} {k:Key} {a:AO} (h:Zam d fr L) (hr:r.kill (.l d)=r) (ha:a.kill (.l d)=a):Zam d (Zg fr e r) (Zat L k a):=⟨set_fix h.1 hr,put_fix h.2 ha⟩
theorem Zam.set {d:Nat} {e:Option Nat} {r:AV} (h:Zam d fr L) (hr:r.kill (.l d)=r):Zam d (Zg fr e r) L:=⟨set_fix h.1 hr,h.2⟩
theorem boxp_fix {K:Key} {cs:List PV} {t:TypeId}:(AO.box (cs.map .p) t).kill K=.box (cs.map .p) t:=box_fix.2 (fun x hx=>by obtain ⟨y,_,rfl⟩:=List.mem_map.1 hx;rfl)
def stx (fr:List AV) (L:Objs) (sz:Nat) (p x:Opd):Option (Prop×Objs):=(Ze none fr L (.st sz p x)).map fun q=>(q.1,q.2.2)
theorem rowv_set_fix {K:Key} {es:List (List AV)} {e z z0 i o:Nat} {ds:List AV} (h:(AO.rowv es e z0).kill K=.rowv es e z0) (hd:∀ x∈ds,x.kill K=x):(AO.rowv (es.set i (Zac (es.getD i []) o ds)) e z).kill K=.rowv (es.set i (Zac (es.getD i []) o ds)) e z:=by
 rw [rowv_fix] at h ⊢
 intro x hx
 rcases List.mem_or_eq_of_mem_set hx with hx|rfl
 ·exact h x hx
 ·refine setAV_fix (fun y hy=>?_) hd
  rw [List.getD] at hy
  cases hg:es[i]? with
  |none=>rw [hg] at hy;cases hy
  |some q=>rw [hg] at hy;exact h q (List.mem_of_getElem? hg) y hy
theorem st_fix {d:Option Nat} {sz:Nat} {p x:Opd} {c:Prop} {fr':List AV} {L':Objs} (h:Ze d fr L (.st sz p x)=some (c,fr',L')):fr'=fr∧∀ K:Key,fr.map (·.kill K)=fr→Zau K L=L→Zau K L'=L':=by
 simp only [Ze] at h
 split at h
 ·split at h
  ·rename_i hl
   split at h
   ·cases h
    exact ⟨rfl,fun K hF hL=>put_fix hL (box_fix.2 (setAV_fix (box_fix.1 (look_fix hL hl)) (fun x hx=>by obtain ⟨y,_,rfl⟩:=List.mem_map.1 hx;rfl)))⟩
   ·cases h
  ·cases h
 ·rename_i e1 e2
  split at h
  ·rename_i hl
   split at h
   ·cases h
    exact ⟨rfl,fun K hF hL=>put_fix hL (box_fix.2 (setAV_fix (box_fix.1 (look_fix hL hl)) (fun x hx=>by simp only [List.mem_singleton] at hx;subst hx;exact rdu_fix hF e2)))⟩
   ·cases h
  ·cases h
 ·rename_i e1 e2
  split at h
  ·rename_i hl hl2
   split at h
   ·cases h
    exact ⟨rfl,fun K hF hL=>put_fix hL (box_fix.2 (setAV_fix (box_fix.1 (look_fix hL hl)) (fun x hx=>by simp only [List.mem_singleton] at hx;subst hx;exact rdu_fix hF e2)))⟩
   ·cases h
  ·cases h
 ·rename_i e1 e2
  split at h
  ·rename_i hl
   split at h
   ·cases h
    exact ⟨rfl,fun K hF hL=>put_fix hL (box_fix.2 (setAV_fix (box_fix.1 (look_fix hL hl)) (fun x hx=>by simp only [List.mem_singleton] at hx;subst hx;rfl)))⟩
   ·cases h
  ·cases h
 ·split at h
  ·split at h
   ·cases h
    exact ⟨rfl,fun K hF hL=>put_fix hL rfl⟩
   ·cases h
  ·rename_i hl
   split at h
   ·cases h
    exact ⟨rfl,fun K hF hL=>put_fix hL (rowv_set_fix (z0:=_) (look_fix hL hl) (fun x hx=>by obtain ⟨y,_,rfl⟩:=List.mem_map.1 hx;rfl))⟩
   ·cases h
  ·cases h
 ·rename_i e1 e2
  split at h
  ·rename_i hl
   split at h
   ·cases h
    exact ⟨rfl,fun K hF hL=>put_fix hL (rowv_set_fix (z0:=_) (look_fix hL hl) (fun x hx=>by simp only [List.mem_singleton] at hx;subst hx;exact rdu_fix hF e2))⟩
   ·cases h
  ·cases h
 ·cases h
theorem awpOps_st {sz:Nat} {p x:Opd} {is:List IOper} {K:List AV→Objs→Prop}:awpOps P E Y (⟨none,.st sz p x,none⟩ :: is) fr L K↔∃ c L',stx fr L sz p x=some (c,L')∧c∧awpOps P E Y is fr L' K:=by
 simp only [awpOps,stx]
 cases hq:Ze none fr L (.st sz p x) with
 |none=>simp
 |some q=>
  obtain ⟨c,fr',L'⟩:=q
  obtain ⟨rfl,_⟩:=st_fix hq
  simp only [Option.map_some,Option.some.injEq,Prod.mk.injEq]
  exact ⟨fun ⟨h1,h2⟩=>⟨c,L',⟨rfl,rfl⟩,h1,h2⟩,fun ⟨_,_,⟨rfl,rfl⟩,h1,h2⟩=>⟨h1,h2⟩⟩
theorem stx_setD {sz:Nat} {p x:Opd} {d:Option Nat} {r:AV} (h:∀ e,d=some e→e∉slots p++slots x):stx (Zg fr d r) L sz p x=stx fr L sz p x:=by
 cases d with
 |none=>rfl
 |some e=>
  have:=h e rfl
  simp only [List.mem_append,not_or] at this
  simp only [stx,Zg,Ze,rd_set this.1,rd_set this.2]
  split
  ·split
   ·split<;>rfl
   ·rfl
  ·split
   ·split<;>rfl
   ·rfl
  ·split
   ·split<;>rfl
   ·rfl
  ·split
   ·split<;>rfl
   ·rfl
  ·split
   ·split<;>rfl
   ·split<;>rfl
   ·rfl
  ·split
   ·split<;>rfl
   ·rfl
  ·rfl
theorem sx_nol {L':Objs} {i:IOper} (hf:nol i.op=true):sx P E Y fr L' i=sx P E Y fr L i:=by
 have e:core P E Y fr L' i.op=core P E Y fr L i.op:=by
  cases hq:i.op<;>rw [hq] at hf<;>simp only [nol,Bool.false_eq_true] at hf<;>rfl
 unfold sx
 rw [e]
theorem kill_un (a:AV) (K:Key):(a.kill K).un=(a.un.1,a.un.2.kill K):=by
 induction a with
 |g c a ih=>simp only [AV.kill,AV.un,ih]
 |p x=>rfl
 |row k=>simp only [AV.kill];split<;>simp [AV.un,AV.kill, *]
 |adr k o=>simp only [AV.kill];split<;>simp [AV.un,AV.kill, *]
 |rad k z i o=>simp only [AV.kill];split<;>simp [AV.un,AV.kill, *]
 |ipt z es i o=>rfl
 |mp k=>simp only [AV.kill];split<;>simp [AV.un,AV.kill, *]
 |fn f ks=>simp only [AV.kill];split<;>simp [AV.un,AV.kill, *]
 |ag cs=>simp only [AV.kill];split<;>simp [AV.un,AV.kill, *]
 |any=>rfl
theorem kill_p {a:AV} {K:Key} {x:PV} (h:a.kill K=.p x):a=.p x:=by
 cases a<;>simp only [AV.kill,reduceCtorEq] at h
 case p=>exact h
 all_goals (split at h<;>cases h)
theorem rd_killF (K:Key) (x:Opd):rd (fr.map (·.kill K)) x=(rd fr x).kill K:=by
 cases x with
 |t i=>
  simp only [rd,List.getD,List.getElem?_map]
  cases fr[i]?<;>rfl
 |c x=>rfl
 |f n=>simp [rd,AV.kill]
 |gl g=>rfl
theorem un_kill {a:AV} {K:Key} {c:Prop} {x:PV} (h:(a.kill K).un=(c,.p x)):a.un=(c,.p x):=by
 rw [kill_un,Prod.mk.injEq] at h
 exact Prod.ext h.1 (kill_p h.2)
theorem bnd_kill {n dflt:Nat} {K:Key} {h:Option Opd} {q:Prop×Nat} (hq:Zv n (h.map (rd (fr.map (·.kill K)))) dflt=some q):Zv n (h.map (rd fr)) dflt=some q:=by
 cases h with
 |none=>exact hq
 |some x=>
  simp only [Option.map_some,rd_killF] at hq ⊢
  simp only [Zv] at hq ⊢
  split at hq
  ·rename_i e1
   rw [un_kill e1]
   exact hq
  ·cases hq
theorem core_kill {K:Key} {op:IOp} {c:Prop} {r:AV} (hf:kfree op=true) (h:core P E Y (fr.map (·.kill K)) L op=some (c,r)):∃ r',core P E Y fr L op=some (c,r')∧r'.kill K=r:=by
 cases op<;>simp only [kfree,Bool.false_eq_true] at hf
 case mov x=>
  simp only [core,Zf,rd_killF,Option.some.injEq,Prod.mk.injEq] at h ⊢
  exact ⟨_,⟨h.1,rfl⟩,h.2⟩
 case bin op x y=>
  simp only [core,Zf,rd_killF] at h ⊢
  split at h
  ·rename_i e1 e2
   rw [un_kill e1,un_kill e2]
   obtain ⟨q,h1,h2⟩:=Option.map_eq_some_iff.1 h
   simp only [Prod.mk.injEq] at h2
   obtain ⟨rfl,rfl⟩:=h2
   exact ⟨.p q.2,by simp only [h1,Option.map_some],rfl⟩
  ·cases h
 case sln x=>
  simp only [core,Zf,rd_killF] at h ⊢
  split at h
  ·rename_i e1
   rw [un_kill e1]
   cases h
   exact ⟨_,rfl,rfl⟩
  ·cases h
 case ssl x lo hi=>
  simp only [core,Zf] at h ⊢
  rw [rd_killF] at h
  split at h
  ·rename_i e1
   rw [un_kill e1]
   simp only
   split at h
   ·rename_i e2
    rw [bnd_kill e2]
    simp only
    obtain ⟨q,h1,h2⟩:=Option.map_eq_some_iff.1 h
    rw [bnd_kill h1]
    cases h2
    exact ⟨_,rfl,rfl⟩
   ·cases h
  ·cases h
theorem app_eq {d:Nat} {e z b:Nat} {u v:Opd} {c:Prop} {fr':List AV} {L':Objs} (h:Ze (some d) fr L (.app e z b u v)=some (c,fr',L')) :
  ∃ K,fr'=(fr.map (·.kill K)).set d (.row K)∧∀ fr2:List AV,rd fr2 u=rd fr u→rd fr2 v=rd fr v→Ze (some d) fr2 L (.app e z b u v)=some (c,(fr2.map (·.kill K)).set d (.row K),L'):=by
 simp only [Ze] at h
 split at h
 ·rename_i e1 e2 e3
  cases e1
  split at h
  ·rename_i hl
   split at h
   ·rename_i hc
    cases h
    refine ⟨_,rfl,fun fr2 h1 h2=>?_⟩
    simp only [Ze,h1,h2,e2,e3,hl,if_pos hc]
   ·cases h
  ·rename_i hl
   split at h
   ·rename_i hc
    cases h
    refine ⟨_,rfl,fun fr2 h1 h2=>?_⟩
    simp only [Ze,h1,h2,e2,e3,hl,if_pos hc]
   ·cases h
  ·cases h
 ·rename_i e1 e2 e3
  cases e1
  split at h
  ·rename_i hl hl2
   split at h
   ·rename_i hl3
    split at h
    ·rename_i hc
     cases h
     refine ⟨_,rfl,fun fr2 h1 h2=>?_⟩
     simp only [Ze,h1,h2,e2,e3,hl]
     simp only [hl2,hl3,if_pos hc]
    ·cases h
   ·cases h
  ·cases h
 ·rename_i e1 e2 e3
  cases e1
  split at h
  ·rename_i hc
   cases h
   refine ⟨_,rfl,fun fr2 h1 h2=>?_⟩
   simp only [Ze,h1,h2,e2,e3,if_pos hc]
  ·cases h
 ·cases h
theorem awpOps_ap {d:Nat} {e z b:Nat} {u v:Opd} {is:List IOper} {K:List AV→Objs→Prop}:awpOps P E Y (⟨some d,.app e z b u v,none⟩ :: is) fr L K↔∃ c fr' L',Ze (some d) fr L (.app e z b u v)=some (c,fr',L')∧c∧awpOps P E Y is fr' L' K:=by
 simp only [awpOps]
 cases hq:Ze (some d) fr L (.app e z b u v) with
 |none=>simp
 |some q=>
  obtain ⟨c,fr',L'⟩:=q
  simp only [Option.some.injEq,Prod.mk.injEq]
  exact ⟨fun ⟨h1,h2⟩=>⟨c,fr',L',⟨rfl,rfl,rfl⟩,h1,h2⟩,fun ⟨_,_,_,⟨rfl,rfl,rfl⟩,h1,h2⟩=>⟨h1,h2⟩⟩
theorem commute1 {x i:IOper} {is:List IOper} {K:List AV→Objs→Prop} (ha:apartI x i=true) (hN:∀ d l,isN i=some (d,l)→Zam d fr L) (h:awpOps P E Y (x :: i :: is) fr L K):awpOps P E Y (i :: x :: is) fr L K:=by
 rcases apartI_spec ha with ⟨rx,ri,h1,h2,hs⟩|⟨rx,b,d,f,args,h1,rfl,hf,hs⟩|⟨ri,b,d,f,args,h2,rfl,hf,hs⟩|⟨rx,d,ri,h1,h2,hf,hs⟩|⟨d,rx,ri,h1,h2,hf,hs⟩|⟨d,rx,e,ri,h1,h2,hs⟩|⟨d,rx,e,f,args,h1,rfl,hs⟩|⟨d,f,args,e,ri,rfl,h2,hs⟩|⟨rx,sz,p,y,h1,rfl,hf,hs⟩|⟨ri,sz,p,y,h2,rfl,hf,hs⟩|⟨ri,d,e,z,b,u,v,h2,rfl,hf,hg,hs⟩
 ·obtain ⟨h3,h4,h5⟩:=sepI_spec hs
  rw [awpOps_sx (by rw [h1];rfl)] at h
  obtain ⟨c,r,e1,hc,h⟩:=h
  rw [awpOps_sx (by rw [h2];rfl)] at h
  obtain ⟨c2,r2,e2,hc2,h⟩:=h
  rw [sx_setD h2 h3] at e2
  rw [awpOps_sx (by rw [h2];rfl)]
  refine ⟨c2,r2,e2,hc2,?_⟩
  rw [awpOps_sx (by rw [h1];rfl)]
  refine ⟨c,r,by rw [sx_setD h1 h4];exact e1,hc,?_⟩
  rwa [setD_comm (fun a b ha hb=>Ne.symm (h5 b a hb ha))]
 ·obtain ⟨h3,h4,h5⟩:=sepI_spec hs
  rw [awpOps_sx (by rw [h1];rfl)] at h
  obtain ⟨c,r,e1,hc,h⟩:=h
  simp only [awpOps] at h
  obtain ⟨hA,k,t,cs,post,g1,g2,g3,g4,g5,g6⟩:=h
  rw [argC_setD h3] at hA
  rw [argV_setD h3] at g1
  simp only [awpOps]
  refine ⟨hA,k,t,cs,post,g1,g2,g3,g4,g5,fun y cs' hp=>?_⟩
  show awpOps P E Y (x :: is) _ _ K
  rw [awpOps_sx (by rw [h1];rfl)]
  refine ⟨c,r,?_,hc,?_⟩
  ·rw [sx_put hf (by rw [h1];rfl) g2 g4,sx_setD h1 h4];exact e1
  ·rw [setD_comm (fun a b ha hb=>Ne.symm (h5 b a hb ha))]
   exact g6 y cs' hp
 ·obtain ⟨h3,h4,h5⟩:=sepI_spec hs
  simp only [awpOps] at h
  obtain ⟨hA,k,t,cs,post,g1,g2,g3,g4,⟨y0,cs0,hp0⟩,g6⟩:=h
  have hn:=g6 y0 cs0 hp0
  change awpOps P E Y (i :: is) _ _ K at hn
  rw [awpOps_sx (by rw [h2];rfl)] at hn
  obtain ⟨c,r,e1,hc,_⟩:=hn
  rw [sx_put hf (by rw [h2];rfl) g2 g4,sx_setD h2 h3] at e1
  rw [awpOps_sx (by rw [h2];rfl)]
  refine ⟨c,r,e1,hc,?_⟩
  simp only [awpOps]
  refine ⟨by rw [argC_setD h4];exact hA,k,t,cs,post,by rw [argV_setD h4];exact g1,g2,g3,g4,⟨y0,cs0,hp0⟩,fun y cs' hp=>?_⟩
  have hn:=g6 y cs' hp
  change awpOps P E Y (i :: is) _ _ K at hn
  rw [awpOps_sx (by rw [h2];rfl)] at hn
  obtain ⟨c',r',e',_,hk⟩:=hn
  rw [sx_put hf (by rw [h2];rfl) g2 g4,sx_setD h2 h3,e1] at e'
  cases e'
  rw [setD_comm (fun a b ha hb=>Ne.symm (h5 b a hb ha))]
  exact hk
 ·obtain ⟨h3,h4,h5⟩:=sepI_spec hs
  have hd:=isN_dst h2
  have hF:=hN d ri h2
  rw [awpOps_sx (by rw [h1];rfl)] at h
  obtain ⟨c,r,e1,hc,h⟩:=h
  rw [awpOps_nx h2] at h
  obtain ⟨⟨_,g2⟩,c2,r2,ao,g3,hc2,h⟩:=h
  rw [nx_setD h2 h3] at g3
  rw [awpOps_nx h2]
  refine ⟨⟨hF,g2⟩,c2,r2,ao,g3,hc2,?_⟩
  rw [awpOps_sx (by rw [h1];rfl)]
  refine ⟨c,r,?_,hc,?_⟩
  ·rw [show fr.set d r2=Zg fr (some d) r2 from rfl,sx_setD h1 (fun a ha=>h4 a (hd.trans ha)),sx_putN hf (by rw [h1];rfl) hF.1];exact e1
  ·have:=setD_comm (fr:=fr) (r:=r2) (q:=r) (d:=some d) (e:=x.dst) (fun a b ha hb=>Ne.symm (h5 b a hb (hd.trans ha)))
   simp only [Zg] at this h ⊢
   rw [this]
   exact h
 ·obtain ⟨h3,h4,h5⟩:=sepI_spec hs
  have hd:=isN_dst h1
  rw [awpOps_nx h1] at h
  obtain ⟨⟨hF,g2⟩,c,r,ao,g3,hc,h⟩:=h
  rw [awpOps_sx (by rw [h2];rfl)] at h
  obtain ⟨c2,r2,e2,hc2,h⟩:=h
  rw [show fr.set d r=Zg fr (some d) r from rfl,sx_setD h2 (fun a ha=>h3 a (hd.trans ha)),sx_putN hf (by rw [h2];rfl) hF.1] at e2
  rw [awpOps_sx (by rw [h2];rfl)]
  refine ⟨c2,r2,e2,hc2,?_⟩
  rw [awpOps_nx h1]
  refine ⟨⟨hF.set (sx_fix (by rw [h2];rfl) hF.1 hF.2 e2),g2⟩,c,r,ao,by rw [nx_setD h1 h4];exact g3,hc,?_⟩
  have:=setD_comm (fr:=fr) (r:=r) (q:=r2) (d:=some d) (e:=i.dst) (fun a b ha hb=>h5 a b (hd.trans ha) hb)
  simp only [Zg] at this h ⊢
  rw [← this]
  exact h
 ·obtain ⟨h3,h4,h5⟩:=sepI_spec hs
  have hd:=isN_dst h1
  have he:=isN_dst h2
  have hne:d≠e:=h5 d e hd he
  have hF2:=hN e ri h2
  rw [awpOps_nx h1] at h
  obtain ⟨⟨hF,g2⟩,c,r,ao,g3,hc,h⟩:=h
  rw [awpOps_nx h2] at h
  obtain ⟨⟨_,k2⟩,c2,r2,ao2,k3,hc2,h⟩:=h
  rw [show fr.set d r=Zg fr (some d) r from rfl,nx_setD h2 (fun a ha=>h3 a (hd.trans ha))] at k3
  rw [look_putO,if_neg (by simpa using Ne.symm hne)] at k2
  rw [awpOps_nx h2]
  refine ⟨⟨hF2,k2⟩,c2,r2,ao2,k3,hc2,?_⟩
  rw [awpOps_nx h1]
  obtain ⟨f1,f2⟩:=nx_fix h2 (Ne.symm hne) k3
  refine ⟨⟨hF.put (e:=some e) f1 f2,by rw [look_putO,if_neg (by simpa using hne)];exact g2⟩,c,r,ao,by rw [show fr.set e r2=Zg fr (some e) r2 from rfl,nx_setD h1 (fun a ha=>h4 a (he.trans ha))];exact g3,hc,?_⟩
  rw [List.set_comm _ _ (Ne.symm hne),putO_comm ao2 ao (by simpa using Ne.symm hne) (by rw [k2];rfl) (by rw [g2];rfl)]
  exact h
 ·obtain ⟨h3,h4,h5⟩:=sepI_spec hs
  have hd:=isN_dst h1
  rw [awpOps_nx h1] at h
  obtain ⟨⟨hF,g2⟩,c,r,ao,g3,hc,h⟩:=h
  simp only [awpOps] at h
  obtain ⟨hA,k,t,cs,post,k1,k2,k3,k4,k5,k6⟩:=h
  rw [show fr.set d r=Zg fr (some d) r from rfl,argC_setD (fun a ha=>h3 a (hd.trans ha))] at hA
  rw [show fr.set d r=Zg fr (some d) r from rfl,argV_setD (fun a ha=>h3 a (hd.trans ha))] at k1
  obtain ⟨j,rfl⟩:=k4 rfl
  rw [look_putO,if_neg (by simp)] at k2
  simp only [awpOps]
  refine ⟨hA,.b j,t,cs,post,k1,k2,k3,k4,k5,fun y cs' hp=>?_⟩
  show awpOps P E Y (x :: is) _ _ K
  rw [awpOps_nx h1]
  refine ⟨⟨hF.put rfl boxp_fix,by rw [look_putO,if_neg (by simp)];exact g2⟩,c,r,ao,by rw [nx_setD h1 h4];exact g3,hc,?_⟩
  have:=setD_comm (fr:=fr) (r:=r) (q:=.p y) (d:=some d) (e:=e) (fun a b ha hb=>h5 a b (hd.trans ha) hb)
  have h:=k6 y cs' hp
  rw [putO_comm ao _ (by simp) (by rw [g2];rfl) (by rw [k2];rfl)] at h
  simp only [Zg] at this h ⊢
  rw [← this]
  exact h
 ·obtain ⟨h3,h4,h5⟩:=sepI_spec hs
  have he:=isN_dst h2
  have hF:=hN e ri h2
  simp only [awpOps] at h
  obtain ⟨hA,k,t,cs,post,k1,k2,k3,k4,⟨y0,cs0,hp0⟩,k6⟩:=h
  obtain ⟨j,rfl⟩:=k4 rfl
  have hn:=k6 y0 cs0 hp0
  change awpOps P E Y (i :: is) _ _ K at hn
  rw [awpOps_nx h2] at hn
  obtain ⟨⟨_,g2⟩,c,r,ao,g3,hc,_⟩:=hn
  rw [look_putO,if_neg (by simp)] at g2
  rw [nx_setD h2 h3] at g3
  rw [awpOps_nx h2]
  refine ⟨⟨hF,g2⟩,c,r,ao,g3,hc,?_⟩
  simp only [awpOps]
  refine ⟨by rw [show fr.set e r=Zg fr (some e) r from rfl,argC_setD (fun a ha=>h4 a (he.trans ha))];exact hA,.b j,t,cs,post,by rw [show fr.set e r=Zg fr (some e) r from rfl,argV_setD (fun a ha=>h4 a (he.trans ha))];exact k1,by rw [look_putO,if_neg (by simp)];exact k2,k3,k4,⟨y0,cs0,hp0⟩,fun y cs' hp=>?_⟩
  have hn:=k6 y cs' hp
  change awpOps P E Y (i :: is) _ _ K at hn
  rw [awpOps_nx h2] at hn
  obtain ⟨_,c',r',ao',e',_,hk⟩:=hn
  rw [nx_setD h2 h3,g3] at e'
  cases e'
  show awpOps P E Y is _ _ K
  rw [putO_comm ao _ (by simp) (by rw [g2];rfl) (by rw [k2];rfl)]
  have:=setD_comm (fr:=fr) (r:=r) (q:=.p y) (d:=some e) (e:=d) (fun a b ha hb=>Ne.symm (h5 b a hb (he.trans ha)))
  simp only [Zg] at this hk ⊢
  rw [this]
  exact hk
 ·obtain ⟨h3,h4,h5⟩:=sepI_spec hs
  rw [awpOps_sx (by rw [h1];rfl)] at h
  obtain ⟨c,r,e1,hc,h⟩:=h
  rw [awpOps_st] at h
  obtain ⟨c2,L',g1,hc2,h⟩:=h
  rw [stx_setD h3] at g1
  rw [awpOps_st]
  refine ⟨c2,L',g1,hc2,?_⟩
  rw [awpOps_sx (by rw [h1];rfl)]
  exact ⟨c,r,by rw [sx_nol hf];exact e1,hc,h⟩
 ·obtain ⟨h3,h4,h5⟩:=sepI_spec hs
  rw [awpOps_st] at h
  obtain ⟨c,L',g1,hc,h⟩:=h
  rw [awpOps_sx (by rw [h2];rfl)] at h
  obtain ⟨c2,r2,e2,hc2,h⟩:=h
  rw [awpOps_sx (by rw [h2];rfl)]
  refine ⟨c2,r2,by rw [sx_nol (L':=L) hf];exact e2,hc2,?_⟩
  rw [awpOps_st]
  exact ⟨c,L',by rw [stx_setD h4];exact g1,hc,h⟩
 ·obtain ⟨h3,h4,h5⟩:=sepI_spec hs
  rw [awpOps_ap] at h
  obtain ⟨c,fr',L',e1,hc,h⟩:=h
  obtain ⟨Kq,rfl,hap⟩:=app_eq e1
  rw [awpOps_sx (by rw [h2];rfl)] at h
  obtain ⟨c2,r2,e2,hc2,h⟩:=h
  rw [show (fr.map (·.kill Kq)).set d (.row Kq)=Zg (fr.map (·.kill Kq)) (some d) (.row Kq) from rfl,sx_setD h2 (fun a ha=>h3 a ha),sx_nol (L':=L') (L:=L) (by cases hq:i.op<;>rw [hq] at hf<;>simp only [kfree,Bool.false_eq_true] at hf<;>rfl)] at e2
  simp only [sx,hg] at e2
  obtain ⟨r3,e3,rfl⟩:=core_kill hf e2
  rw [awpOps_sx (by rw [h2];rfl)]
  refine ⟨c2,r3,by simp only [sx,hg];exact e3,hc2,?_⟩
  have hu:∀ q:Opd,(∀ a,i.dst=some a→a∉slots q)→rd (Zg fr i.dst r3) q=rd fr q:=by
   intro q hq
   cases hd:i.dst with
   |none=>rfl
   |some a=>exact rd_set (hq a hd)
  have hap2:=hap (Zg fr i.dst r3) (hu u fun a ha hm=>h4 a ha (List.mem_append_left _ hm)) (hu v fun a ha hm=>h4 a ha (List.mem_append_right _ hm))
  rw [awpOps_ap]
  refine ⟨_,_,_,hap2,hc,?_⟩
  have hcm:=setD_comm (fr:=fr.map (·.kill Kq)) (r:=.row Kq) (q:=r3.kill Kq) (d:=some d) (e:=i.dst) (fun a b ha hb=>h5 a b ha hb)
  have hmp:(Zg fr i.dst r3).map (·.kill Kq)=Zg (fr.map (·.kill Kq)) i.dst (r3.kill Kq):=by
   cases i.dst with
   |none=>rfl
   |some a=>simp only [Zg,List.map_set]
  rw [hmp]
  simp only [Zg] at hcm h ⊢
  rw [← hcm]
  exact h
def isS:IOper→Bool
 |⟨_,.st ..,none⟩=>true
 |⟨_,.stg ..,none⟩=>true
 |_=>false
def okIn (i:IOper):Bool:=(readsI i).isSome || (isD i).isSome || (isN i).isSome || isS i
def FreeAll (ds:List Nat) (fr:List AV) (L:Objs):Prop:=∀ d∈ds,Zam d fr L
theorem stg_fix {d:Option Nat} {sz:Nat} {p x:Opd} {c:Prop} {fr':List AV} {L':Objs} (h:Ze d fr L (.stg sz p x)=some (c,fr',L')):fr'=fr∧∀ K:Key,fr.map (·.kill K)=fr→Zau K L=L→Zau K L'=L':=by
 simp only [Ze] at h
 split at h
 ·rename_i e1 e2
  split at h
  ·rename_i hl
   split at h
   ·cases h
    refine ⟨rfl,fun K hF hL=>put_fix hL (box_fix.2 (setAV_fix (box_fix.1 (look_fix hL hl)) (fun x hx=>?_)))⟩
    obtain ⟨y,hy,rfl⟩:=List.mem_map.1 hx
    have:=anyK_false.1 (ag_fix.1 (rdu_fix hF e2)) y hy
    cases y with
    |p p=>rfl
    |row k=>exact row_fix (by simpa [Zaj] using this)
    |mp k=>simpa [Zah,AV.kill,Zaj] using this
   ·cases h
  ·cases h
 ·cases h
theorem awpOps_consF {i:IOper} {is js:List IOper} {K K':List AV→Objs→Prop} {ds:List Nat} (hi:okIn i=true) (hN:∀ d l,isN i=some (d,l)→d∉ds) (hF:FreeAll ds fr L) (h:awpOps P E Y (i :: is) fr L K) (hk:∀ fr L,FreeAll ds fr L→awpOps P E Y is fr L K→awpOps P E Y js fr L K'):awpOps P E Y (i :: js) fr L K':=by
 simp only [okIn,Bool.or_eq_true] at hi
 rcases hi with ((hr|hr)|hr)|hr
 ·rw [awpOps_sx hr] at h ⊢
  obtain ⟨c,r,e1,hc,h⟩:=h
  exact ⟨c,r,e1,hc,hk _ _ (fun d hd=>(hF d hd).set (sx_fix hr (hF d hd).1 (hF d hd).2 e1)) h⟩
 ·obtain ⟨⟨b,l⟩,hq⟩:=Option.isSome_iff_exists.1 hr
  obtain ⟨d,f,args,rfl,rfl⟩:=isD_eq hq
  simp only [awpOps] at h ⊢
  obtain ⟨hA,k,t,cs,post,g1,g2,g3,g4,g5,g6⟩:=h
  exact ⟨hA,k,t,cs,post,g1,g2,g3,g4,g5,fun y cs' hp=>hk _ _ (fun d hd=>(hF d hd).put rfl boxp_fix) (g6 y cs' hp)⟩
 ·obtain ⟨⟨d,l⟩,hq⟩:=Option.isSome_iff_exists.1 hr
  rw [awpOps_nx hq] at h ⊢
  obtain ⟨g,c,r,ao,e1,hc,h⟩:=h
  refine ⟨g,c,r,ao,e1,hc,hk _ _ (fun e he=>?_) h⟩
  obtain ⟨f1,f2⟩:=nx_fix hq (fun e'=>hN d l hq (e' ▸ he)) e1
  exact (hF e he).put (e:=some d) f1 f2
 ·obtain ⟨d,op,gd⟩:=i
  cases gd with
  |some q=>cases op<;>simp [isS] at hr
  |none=>
   cases op<;>simp only [isS,Bool.false_eq_true] at hr
   all_goals
    simp only [awpOps] at h ⊢
    split at h
    ·rename_i c fr' L' e1
     refine ⟨h.1,hk _ _ (fun e he=>?_) h.2⟩
     first
      |(obtain ⟨rfl,h2⟩:=st_fix e1;exact ⟨(hF e he).1,h2 _ (hF e he).1 (hF e he).2⟩)
      |(obtain ⟨rfl,h2⟩:=stg_fix e1;exact ⟨(hF e he).1,h2 _ (hF e he).1 (hF e he).2⟩)
    ·exact h.elim
def isApp:IOper→Option Nat
 |⟨some d,.app ..,none⟩=>some d
 |_=>none
theorem isApp_eq {i:IOper} {d:Nat} (h:isApp i=some d):∃ e z b u v,i=⟨some d,.app e z b u v,none⟩:=by
 unfold isApp at h
 split at h
 ·cases h;exact ⟨_,_,_,_,_,rfl⟩
 ·cases h
theorem Zam.upd {q j:Nat} {d:Nat} {a:AO} (h:Zam q fr L) (hj:j≠q) (ha:(a.kill (.l q))=a):Zam q ((fr.map (·.kill (.l j))).set d (.row (.l j))) (Zav L (.l j) a):=by
 refine ⟨?_,?_⟩
 ·rw [List.map_set,row_fix (by simpa using hj)]
  have:=h.1
  congr 1
  conv=>rhs;rw [← this]
  rw [List.map_map,List.map_map]
  exact List.map_congr_left fun x _=>AV.kill_comm _ _ x
 ·unfold Zav
  rw [killO_putO,killO_comm,h.2,ha]
theorem rowv_kk {K j:Key} {es:List (List AV)} {e z:Nat} (h:(AO.rowv es e z).kill K=.rowv es e z):∀ x∈es.map (·.map (·.kill j)),∀ y∈x,y.kill K=y:=by
 rw [rowv_fix] at h
 intro x hx y hy
 obtain ⟨x',hx',rfl⟩:=List.mem_map.1 hx
 obtain ⟨y',hy',rfl⟩:=List.mem_map.1 hy
 rw [AV.kill_comm,h x' hx' y' hy']
theorem app_free {q d:Nat} {e z b:Nat} {u v:Opd} {c:Prop} {fr':List AV} {L':Objs} (hF:Zam q fr L) (hd:d≠q) (h:Ze (some d) fr L (.app e z b u v)=some (c,fr',L')):Zam q fr' L':=by
 have row_ne:∀ {x:Opd} {c:Prop} {i:Nat},(rd fr x).un=(c,.row (.l i))→i≠q:=fun e2 hi=>by
  subst hi
  have:=rdu_fix hF.1 e2
  simp [AV.kill] at this
 simp only [Ze] at h
 split at h
 ·rename_i e1 e2 e3
  cases e1
  split at h
  ·split at h
   ·cases h
    exact hF.upd (row_ne e2) rfl
   ·cases h
  ·rename_i hl
   split at h
   ·cases h
    refine hF.upd (row_ne e2) ?_
    rw [rowv_fix]
    intro x hx
    rcases List.mem_append.1 hx with hx|hx
    ·exact rowv_kk (look_fix hF.2 hl) x hx
    ·obtain ⟨y,_,rfl⟩:=List.mem_map.1 hx
     intro w hw
     obtain ⟨y',_,rfl⟩:=List.mem_map.1 hw
     rfl
   ·cases h
  ·cases h
 ·rename_i e1 e2 e3
  cases e1
  split at h
  ·rename_i hl hx
   split at h
   ·rename_i hl2
    split at h
    ·cases h
     refine hF.upd (row_ne e2) ?_
     rw [rowv_fix]
     intro x hx
     rcases List.mem_append.1 hx with hx|hx
     ·exact rowv_kk (look_fix hF.2 hl) x hx
     ·exact rowv_kk (look_fix hF.2 hl2) x hx
    ·cases h
   ·cases h
  ·cases h
 ·rename_i e1 e2 e3
  cases e1
  split at h
  ·cases h
   exact hF.upd hd rfl
  ·cases h
 ·cases h
theorem apart_in {x i:IOper} (h:apartI x i=true):(okIn x=true∨isN i=none∧∃ d e z b u v,x=⟨some d,.app e z b u v,none⟩)∧∀ d l,isN x=some (d,l)→∀ e l',isN i=some (e,l')→d≠e:=by
 have pure:∀ {q:IOper} {l},readsI q=some l→isN q=none:=by
  intro q l hq
  cases hn:isN q with
  |none=>rfl
  |some p=>
   obtain ⟨d,l'⟩:=p
   rcases isN_eq hn with ⟨t,zero,rfl,_⟩|⟨e,z,parts,rfl,_⟩|⟨n,f,args,e,z,rfl,_⟩<;>simp [readsI,readsA] at hq
 have sep:∀ {rx ri},sepI x i rx ri=true→∀ d l,isN x=some (d,l)→∀ e l',isN i=some (e,l')→d≠e:=fun hs d l h1 e l' h2=>(sepI_spec hs).2.2 d e (isN_dst h1) (isN_dst h2)
 rcases apartI_spec h with ⟨rx,ri,h1,h2,hs⟩|⟨rx,b,d,f,args,h1,rfl,hf,hs⟩|⟨ri,b,d,f,args,h2,rfl,hf,hs⟩|⟨rx,d,ri,h1,h2,hf,hs⟩|⟨d,rx,ri,h1,h2,hf,hs⟩|⟨d,rx,e,ri,h1,h2,hs⟩|⟨d,rx,e,f,args,h1,rfl,hs⟩|⟨d,f,args,e,ri,rfl,h2,hs⟩|⟨rx,sz,p,y,h1,rfl,hf,hs⟩|⟨ri,sz,p,y,h2,rfl,hf,hs⟩|⟨ri,d,e,z,b,u,v,h2,rfl,hf,hg,hs⟩
 ·exact ⟨.inl (by simp [okIn,h1]),sep hs⟩
 ·exact ⟨.inl (by simp [okIn,h1]),sep hs⟩
 ·exact ⟨.inl (by simp [okIn,isD]),sep hs⟩
 ·exact ⟨.inl (by simp [okIn,h1]),sep hs⟩
 ·exact ⟨.inl (by simp [okIn,h1]),sep hs⟩
 ·exact ⟨.inl (by simp [okIn,h1]),sep hs⟩
 ·exact ⟨.inl (by simp [okIn,h1]),sep hs⟩
 ·exact ⟨.inl (by simp [okIn,isD]),sep hs⟩
 ·exact ⟨.inl (by simp [okIn,h1]),sep hs⟩
 ·exact ⟨.inl (by simp [okIn,isS]),sep hs⟩
 ·exact ⟨.inr ⟨pure h2,_,_,_,_,_,_,rfl⟩,sep hs⟩
def newsOf (is:List IOper):List Nat:=is.filterMap fun i=>(isN i).map (·.1)
def okBy (ns:List Nat) (i:IOper):Bool:=okIn i || (match isApp i with|some d=>!ns.contains d|none=>false)
theorem okBy_spec {ns:List Nat} {i:IOper} (h:okBy ns i=true):okIn i=true∨∃ d,isApp i=some d∧d∉ns:=by
 unfold okBy at h
 rcases Bool.or_eq_true_iff.1 h with h|h
 ·exact .inl h
 ·split at h
  ·rename_i d e
   exact .inr ⟨d,e,by simpa using h⟩
  ·cases h
theorem awpOps_consA {i:IOper} {is js:List IOper} {K K':List AV→Objs→Prop} {d:Nat} {ds:List Nat} (hi:isApp i=some d) (hN:d∉ds) (hF:FreeAll ds fr L) (h:awpOps P E Y (i :: is) fr L K) (hk:∀ fr L,FreeAll ds fr L→awpOps P E Y is fr L K→awpOps P E Y js fr L K'):awpOps P E Y (i :: js) fr L K':=by
 obtain ⟨e,z,b,u,v,rfl⟩:=isApp_eq hi
 rw [awpOps_ap] at h ⊢
 obtain ⟨c,fr',L',e1,hc,h⟩:=h
 exact ⟨c,fr',L',e1,hc,hk _ _ (fun q hq=>app_free (hF q hq) (fun e'=>hN (by rw [e'];exact hq)) e1) h⟩
theorem moveFront {i:IOper} {post:List IOper} {K:List AV→Objs→Prop}:∀ (pre:List IOper) (fr:List AV) (L:Objs),(∀ x∈pre,apartI x i=true)→FreeAll (newsOf [i]) fr L→awpOps P E Y (pre++i :: post) fr L K→awpOps P E Y (i :: (pre++post)) fr L K:=by
 intro pre
 induction pre with
 |nil=>intro fr L _ _ h;exact h
 |cons x pre ih=>
  intro fr L ha hF h
  have hx:=ha x (by simp)
  obtain ⟨h1,h2⟩:=apart_in hx
  have hN:∀ d l,isN i=some (d,l)→Zam d fr L:=fun d l hd=>hF d (by simp [newsOf,hd])
  rcases h1 with h1|⟨hni,d,e,z,b,u,v,rfl⟩
  rotate_left
  ·refine commute1 hx hN ?_
   rw [List.cons_append,awpOps_ap] at h
   obtain ⟨c,fr',L',e1,hc,h⟩:=h
   rw [awpOps_ap]
   exact ⟨c,fr',L',e1,hc,ih _ _ (fun y hy=>ha y (by simp [hy])) (fun d hd=>by simp [newsOf,hni] at hd) h⟩
  have h':awpOps P E Y (x :: i :: (pre++post)) fr L K:=awpOps_consF h1 (fun d l hd hm=>by
   cases hq:isN i with
   |none=>simp [newsOf,hq] at hm
   |some q=>obtain ⟨e,l'⟩:=q;simp [newsOf,hq] at hm;exact h2 d l hd e l' hq hm) hF h (fun fr L hF h=>ih fr L (fun y hy=>ha y (by simp [hy])) hF h)
  exact commute1 hx hN h'
def edgesB (o:Oper):List Nat:=(o.after.toList.filter fun e=>Region.binds .any e).map (·.on)
def ancB (ops:Array Oper):Nat→Nat→Nat→Bool
 |0,_,_=>false
 |n+1,i,j=>match ops[i]? with
  |some o=>(edgesB o).any fun e=>e == j || ancB ops n e j
  |none=>false
def pairsOk (ops:Array Oper) (n:Nat) (i:Nat) (ii:IOper):List (Nat×IOper)→Bool
 |[]=>true
 |(j,jj) :: r=>(apartI jj ii || ancB ops n i j) && pairsOk ops n i ii r
def allOk (ops:Array Oper) (n:Nat):List (Nat×IOper)→List (Nat×IOper)→Bool
 |_,[]=>true
 |seen,(i,ii) :: r=>pairsOk ops n i ii seen && allOk ops n (seen++[(i,ii)]) r
def dropFz:List IOper→List IOper
 |[]=>[]
 |i :: is=>if isFz i then dropFz is else i :: is
def holesOf:List IOper→List Nat
 |[]=>[]
 |i :: is=>if isFz i then (match i.op with|.hole d=>d :: holesOf is|_=>holesOf is) else []
def okNews (hs:List Nat) (js:List IOper):Bool:=
 (newsOf js).isEmpty || (js.all (okBy (newsOf js)) && decide (newsOf js).Nodup && (newsOf js).all fun d=>hs.contains d)
def okDraw (ops:Array Oper) (is:List IOper):Bool:=
 let js:=dropFz is
 is.all (fun i=>!isRe i) && okNews (holesOf is) js &&
 js.all (fun i=>!isFz i) && js.length == ops.size && allOk ops ops.size [] ((List.range js.length).zip js) &&
 (List.range ops.size).all fun i=>match ops[i]? with|some o=>(edgesB o).all fun e=>decide (e < i)|none=>true
end
section
variable {P:Program} {E:Envt} {Y:List PV} {B:Base}
theorem chkOps_get {ops:Array Oper}:∀ {js:List IOper} {os:List Oper},chkOps P ops os js=true→(∀ i∈js,isFz i=false)→js.length=os.length∧∀ (k:Nat) (i:IOper),js[k]?=some i→∃ o,os[k]?=some o∧chkOper P ops o i=true:=by
 intro js
 induction js with
 |nil=>intro os h _;simp only [chkOps,List.isEmpty_iff] at h;subst h;simp
 |cons i js ih=>
  intro os h hf
  simp only [chkOps] at h
  rw [if_neg (by simp [hf i (by simp)])] at h
  split at h
  ·rename_i o os'
   simp only [Bool.and_eq_true] at h
   obtain ⟨h1,h2⟩:=ih h.2 (fun j hj=>hf j (by simp [hj]))
   refine ⟨by simp [h1],fun k x hx=>?_⟩
   cases k with
   |zero=>simp at hx;subst hx;exact ⟨o,rfl,h.1⟩
   |succ k=>simp at hx;simpa using h2 k x hx
  ·cases h
theorem pairsOk_mem {ops:Array Oper} {n i:Nat} {ii:IOper}:∀ {l:List (Nat×IOper)},pairsOk ops n i ii l=true→∀ y∈l,apartI y.2 ii=true∨ancB ops n i y.1=true:=by
 intro l
 induction l with
 |nil=>intro _ y hy;cases hy
 |cons q l ih=>
  intro h y hy
  obtain ⟨j,jj⟩:=q
  simp only [pairsOk,Bool.and_eq_true,Bool.or_eq_true] at h
  simp only [List.mem_cons] at hy
  rcases hy with rfl|hy
  ·exact h.1
  ·exact ih h.2 y hy
theorem allOk_get {ops:Array Oper} {n:Nat}:∀ {l seen:List (Nat×IOper)},allOk ops n seen l=true→∀ (pre:List (Nat×IOper)) (x:Nat×IOper) (post:List (Nat×IOper)),l=pre++x :: post→∀ y∈seen++pre,apartI y.2 x.2=true∨ancB ops n x.1 y.1=true:=by
 intro l
 induction l with
 |nil=>intro seen _ pre x post h;cases pre<;>cases h
 |cons q l ih=>
  intro seen h pre x post e y hy
  obtain ⟨i,ii⟩:=q
  simp only [allOk,Bool.and_eq_true] at h
  cases pre with
  |nil=>
   simp only [List.nil_append,List.cons.injEq] at e
   obtain ⟨rfl,rfl⟩:=e
   exact pairsOk_mem h.1 y (by simpa using hy)
  |cons p pre=>
   simp only [List.cons_append,List.cons.injEq] at e
   obtain ⟨rfl,rfl⟩:=e
   exact ih h.2 pre x post rfl y (by simpa using hy)
def ClosedL (ops:Array Oper) (listed:Array Bool):Prop:=∀ (i:Nat) (o:Oper),ops[i]?=some o→listed.getD i false=true→∀ e∈edgesB o,listed.getD e false=true
theorem anc_listed {ops:Array Oper} {listed:Array Bool} (hc:ClosedL ops listed):∀ (n i j:Nat) (o:Oper),ops[i]?=some o→(∀ e∈edgesB o,listed.getD e false=true)→ancB ops n i j=true→listed.getD j false=true:=by
 intro n
 induction n with
 |zero=>intro i j o _ _ h;simp [ancB] at h
 |succ n ih=>
  intro i j o ho he h
  simp only [ancB,ho,List.any_eq_true,Bool.or_eq_true,beq_iff_eq] at h
  obtain ⟨e,h1,h2⟩:=h
  rcases h2 with rfl|h2
  ·exact he e h1
  ·cases hoe:ops[e]? with
   |none=>cases n<;>simp [ancB,hoe] at h2
   |some oe=>exact ih e j oe hoe (hc e oe hoe (he e h1)) h2
theorem mem_ready {ops:Array Oper} {listed:Array Bool} {i:Nat}:i∈Region.ready .any ops listed↔∃ o,ops[i]?=some o∧listed.getD i true=false∧∀ e∈edgesB o,listed.getD e false=true:=by
 simp only [Region.ready,List.mem_filter,List.mem_range,Bool.and_eq_true,Bool.not_eq_true']
 constructor
 ·rintro ⟨h1,h2,h3⟩
  obtain ⟨o,ho⟩:∃ o,ops[i]?=some o:=⟨_,Array.getElem?_eq_getElem h1⟩
  refine ⟨o,ho,h2,fun e he=>?_⟩
  rw [ho] at h3
  simp only [Option.map_some,Option.getD_some,Array.all_eq_true'] at h3
  simp only [edgesB,List.mem_map,List.mem_filter] at he
  obtain ⟨ed,⟨h4,h5⟩,rfl⟩:=he
  have:=h3 ed (by simpa using h4)
  simpa [h5] using this
 ·rintro ⟨o,ho,h2,h3⟩
  refine ⟨(Array.getElem?_eq_some_iff.1 ho).1,h2,?_⟩
  rw [ho]
  simp only [Option.map_some,Option.getD_some,Array.all_eq_true']
  intro ed hed
  cases hb:Region.binds .any ed with
  |false=>simp
  |true=>simp only [Bool.not_true,Bool.false_or];exact h3 _ (by simp only [edgesB,List.mem_map,List.mem_filter];exact ⟨ed,⟨by simpa using hed,hb⟩,rfl⟩)
def unl (listed:Array Bool) (p:Nat×IOper):Bool:=!listed.getD p.1 true
theorem newsOf_mem {l:List IOper} {d:Nat}:d∈newsOf l↔∃ i∈l,∃ r,isN i=some (d,r):=by
 simp only [newsOf,List.mem_filterMap,Option.map_eq_some_iff]
 constructor
 ·rintro ⟨i,hi,⟨e,r⟩,h1,rfl⟩;exact ⟨i,hi,r,h1⟩
 ·rintro ⟨i,hi,r,h1⟩;exact ⟨i,hi,(d,r),h1,rfl⟩
theorem any_ok {ops:Array Oper} {js:List IOper} {K:List AV→Objs→Prop} {Q:Exit→Act→World→Prop} (hK:∀ fr L ι a w,K fr L→StF E B w L ι fr a→Q .normal a w) (hjs:js.length=ops.size)
  (hget:∀ (k:Nat) (i:IOper),js[k]?=some i→∃ o,ops[k]?=some o∧chkOper P ops o i=true) (hfz:∀ i∈js,isFz i=false) (hall:allOk ops ops.size [] ((List.range js.length).zip js)=true)
  (hedge:∀ (i:Nat) (o:Oper),ops[i]?=some o→∀ e∈edgesB o,e < i) (hnews:newsOf js=[]∨(∀ i∈js,okBy (newsOf js) i=true)∧(newsOf js).Nodup) :
  ∀ (fuel:Nat) (listed:Array Bool) (fr:List AV) (L:Objs) (ι:Key→Value) (a:Act) (w:World),listed.size=ops.size→ClosedL ops listed→fuel=(((List.range js.length).zip js).filter (unl listed)).length→
   FreeAll (newsOf ((((List.range js.length).zip js).filter (unl listed)).map (·.2))) fr L→
   awpOps P E Y ((((List.range js.length).zip js).filter (unl listed)).map (·.2)) fr L K→StF E B w L ι fr a→wpAny P .any ops Q fuel listed a w:=by
 intro fuel
 have zget:∀ (k:Nat) (x:IOper),js[k]?=some x→((List.range js.length).zip js)[k]?=some (k,x):=by
  intro k x hk
  rw [List.getElem?_zip_eq_some]
  exact ⟨by rw [List.getElem?_range (List.getElem?_eq_some_iff.1 hk).1],hk⟩
 have zmem:∀ (p:Nat×IOper),p∈(List.range js.length).zip js→p.1 < js.length∧js[p.1]?=some p.2:=by
  intro p hp
  obtain ⟨k,hk⟩:=List.getElem?_of_mem hp
  rw [List.getElem?_zip_eq_some] at hk
  obtain ⟨h1,h2⟩:=hk
  rw [List.getElem?_range (by have:=(List.getElem?_eq_some_iff.1 h2).1;exact this)] at h1
  cases h1
  exact ⟨(List.getElem?_eq_some_iff.1 h2).1,h2⟩
 induction fuel with
 |zero=>
  intro listed fr L ι a w hsz hcl hf hFr h hs
  have hnil:((List.range js.length).zip js).filter (unl listed)=[]:=List.eq_nil_of_length_eq_zero hf.symm
  rw [hnil] at h
  refine ⟨?_,hK fr L ι a w h hs⟩
  refine List.eq_nil_iff_forall_not_mem.2 fun i hi=>?_
  obtain ⟨o,ho,h2,_⟩:=mem_ready.1 hi
  have hlt:i < js.length:=by rw [hjs];exact (Array.getElem?_eq_some_iff.1 ho).1
  have:(i,js[i])∈((List.range js.length).zip js).filter (unl listed):=by
   simp only [List.mem_filter]
   exact ⟨List.mem_of_getElem? (zget i _ (List.getElem?_eq_getElem hlt)),by simp [unl,h2]⟩
  rw [hnil] at this
  cases this
 |succ fuel ih=>
  intro listed fr L ι a w hsz hcl hf hFr h hs
  have hready:Region.ready .any ops listed≠[]:=by
   intro hnil
   cases hrem:((List.range js.length).zip js).filter (unl listed) with
   |nil=>rw [hrem] at hf;simp at hf
   |cons p rest=>
    have hp:p∈((List.range js.length).zip js).filter (unl listed):=by rw [hrem];simp
    have hex:∃ i,i < js.length∧listed.getD i true=false∧∀ j,j < i→listed.getD j true=true:=by
     obtain ⟨h1,h2⟩:=List.mem_filter.1 hp
     have hp1:=(zmem p h1).1
     have hpu:listed.getD p.1 true=false:=by simpa [unl] using h2
     have:∀ m i,i≤m→i < js.length→listed.getD i true=false→∃ i,i < js.length∧listed.getD i true=false∧∀ j,j < i→listed.getD j true=true:=by
      intro m
      induction m with
      |zero=>intro i hi h1 h2;exact ⟨i,h1,h2,fun j hj=>by omega⟩
      |succ m ihm=>
       intro i hi h1 h2
       by_cases hex:∃ j,j < i∧listed.getD j true=false
       ·obtain ⟨j,hj1,hj2⟩:=hex
        exact ihm j (by omega) (by omega) hj2
       ·refine ⟨i,h1,h2,fun j hj=>?_⟩
        cases hq:listed.getD j true with
        |true=>rfl
        |false=>exact absurd ⟨j,hj,hq⟩ hex
     exact this p.1 p.1 (Nat.le_refl _) hp1 hpu
    obtain ⟨i,hi1,hi2,hi3⟩:=hex
    obtain ⟨o,ho,_⟩:=hget i _ (List.getElem?_eq_getElem hi1)
    have:i∈Region.ready .any ops listed:=mem_ready.2 ⟨o,ho,hi2,fun e he=>by
     have hlt:=hedge i o ho e he
     have:=hi3 e hlt
     have hes:e < listed.size:=by rw [hsz,← hjs];omega
     simp only [Array.getD,hes,dite_true] at this ⊢
     exact this⟩
    rw [hnil] at this
    cases this
  refine ⟨fun hn=>absurd hn hready,fun i hi=>?_⟩
  obtain ⟨o,ho,hun,hed⟩:=mem_ready.1 hi
  have hlt:i < js.length:=by rw [hjs];exact (Array.getElem?_eq_some_iff.1 ho).1
  have hil:i < listed.size:=by rw [hsz,← hjs];exact hlt
  obtain ⟨ii,hii⟩:∃ ii,js[i]?=some ii:=⟨_,List.getElem?_eq_getElem hlt⟩
  have hsplit:(List.range js.length).zip js=((List.range js.length).zip js).take i++(i,ii) :: ((List.range js.length).zip js).drop (i+1):=by
   have hzl:((List.range js.length).zip js).length=js.length:=by simp
   have e:((List.range js.length).zip js)[i]?=some (i,ii):=by
    rw [List.getElem?_zip_eq_some]
    exact ⟨by rw [List.getElem?_range hlt],hii⟩
   rw [List.getElem?_eq_some_iff] at e
   obtain ⟨h1,h2⟩:=e
   rw [← h2,← List.drop_eq_getElem_cons h1,List.take_append_drop]
  have hpre:∀ p∈((List.range js.length).zip js).take i,p.1 < i:=by
   intro p hp
   obtain ⟨k,hk⟩:=List.getElem?_of_mem hp
   rw [List.getElem?_take] at hk
   split at hk
   ·rename_i hki
    rw [List.getElem?_zip_eq_some] at hk
    rw [List.getElem?_range (by omega)] at hk
    cases hk.1
    exact hki
   ·cases hk
  have hpost:∀ p∈((List.range js.length).zip js).drop (i+1),i < p.1:=by
   intro p hp
   obtain ⟨k,hk⟩:=List.getElem?_of_mem hp
   rw [List.getElem?_drop,List.getElem?_zip_eq_some] at hk
   have hkl:=(List.getElem?_eq_some_iff.1 hk.2).1
   rw [List.getElem?_range hkl] at hk
   have:=Option.some.inj hk.1
   omega
  have hunl:unl listed (i,ii)=true:=by simp [unl,hun]
  have hfil:((List.range js.length).zip js).filter (unl listed)=(((List.range js.length).zip js).take i).filter (unl listed)++(i,ii) :: (((List.range js.length).zip js).drop (i+1)).filter (unl listed):=by
   conv=>lhs;rw [hsplit]
   rw [List.filter_append,List.filter_cons_of_pos hunl]
  have hgd:∀ j,j≠i→(listed.setIfInBounds i true).getD j true=listed.getD j true:=by
   intro j hj
   rw [Array.getD_eq_getD_getElem?,Array.getD_eq_getD_getElem?,Array.getElem?_setIfInBounds_ne (Ne.symm hj)]
  have hself:∀ b,(listed.setIfInBounds i true).getD i b=true:=by
   intro b
   rw [Array.getD_eq_getD_getElem?,Array.getElem?_setIfInBounds_self_of_lt hil]
   rfl
  have hfil':((List.range js.length).zip js).filter (unl (listed.setIfInBounds i true))=(((List.range js.length).zip js).take i).filter (unl listed)++(((List.range js.length).zip js).drop (i+1)).filter (unl listed):=by
   conv=>lhs;rw [hsplit]
   rw [List.filter_append,List.filter_cons_of_neg (by simp [unl,hself])]
   congr 1
   ·refine List.filter_congr fun p hp=>?_
    have:=hpre p hp
    simp only [unl,hgd p.1 (by omega)]
   ·refine List.filter_congr fun p hp=>?_
    have:=hpost p hp
    simp only [unl,hgd p.1 (by omega)]
  have hap:∀ x∈((((List.range js.length).zip js).take i).filter (unl listed)).map (·.2),apartI x ii=true:=by
   intro x hx
   obtain ⟨p,hp,rfl⟩:=List.mem_map.1 hx
   obtain ⟨hp1,hp2⟩:=List.mem_filter.1 hp
   rcases allOk_get hall _ _ _ hsplit p (by simpa using hp1) with h'|h'
   ·exact h'
   ·have:=anc_listed hcl _ i p.1 o ho hed h'
    have hpl:p.1 < listed.size:=by have:=hpre p hp1;omega
    simp only [unl,Array.getD,hpl,dite_true] at hp2 this
    rw [this] at hp2
    cases hp2
  have hsub:((((List.range js.length).zip js).filter (unl listed)).map (·.2)).Sublist js:=by
   have e:((List.range js.length).zip js).map (·.2)=js:=by rw [← List.unzip_snd,List.unzip_zip (by simp)]
   have:=(List.filter_sublist (p:=unl listed) (l:=(List.range js.length).zip js)).map (·.2)
   rwa [e] at this
  rw [hfil] at h hf hFr hsub
  simp only [List.map_append,List.map_cons] at h hFr hsub
  generalize hA:((((List.range js.length).zip js).take i).filter (unl listed)).map (·.2)=A at *
  generalize hC:((((List.range js.length).zip js).drop (i+1)).filter (unl listed)).map (·.2)=C at *
  have hfront:=moveFront _ fr L hap (fun d hd=>hFr d (by
   obtain ⟨q,hq,r,hr⟩:=newsOf_mem.1 hd
   simp only [List.mem_singleton] at hq
   exact newsOf_mem.2 ⟨q,by simp [hq],r,hr⟩)) h
  have hrest:FreeAll (newsOf (A++C)) fr L:=fun d hd=>hFr d (by
   obtain ⟨q,hq,r,hr⟩:=newsOf_mem.1 hd
   refine newsOf_mem.2 ⟨q,?_,r,hr⟩
   simp only [List.mem_append,List.mem_cons] at hq ⊢
   rcases hq with hq|hq
   ·exact .inl hq
   ·exact .inr (.inr hq))
  have hfront:awpOps P E Y (ii :: []) fr L (fun fr L=>FreeAll (newsOf (A++C)) fr L∧awpOps P E Y (A++C) fr L K)∨(awpOps P E Y (ii :: (A++C)) fr L K∧newsOf js=[]):=by
   rcases hnews with hn|⟨h1,h2⟩
   ·exact .inr ⟨hfront,hn⟩
   ·rcases okBy_spec (h1 ii (List.mem_of_getElem? hii)) with hok|⟨d0,hd0,hn0⟩
    rotate_left
    ·refine .inl (awpOps_consA hd0 (fun hm=>hn0 ?_) hrest hfront (fun fr L hF h=>⟨hF,h⟩))
     obtain ⟨q,hq,r,hr⟩:=newsOf_mem.1 hm
     refine newsOf_mem.2 ⟨q,hsub.subset ?_,r,hr⟩
     simp only [List.mem_append,List.mem_cons] at hq ⊢
     rcases hq with hq|hq
     ·exact .inl hq
     ·exact .inr (.inr hq)
    refine .inl (awpOps_consF hok ?_ hrest hfront (fun fr L hF h=>⟨hF,h⟩))
    intro d l hd hm
    have hnd:(newsOf (A++ii :: C)).Nodup:=(hsub.filterMap _).nodup h2
    have hp:(newsOf (A++ii :: C)).Perm (newsOf (ii :: (A++C))):=List.Perm.filterMap _ List.perm_middle
    have hnd2:=hp.nodup_iff.1 hnd
    have e:newsOf (ii :: (A++C))=d :: newsOf (A++C):=by simp [newsOf,hd]
    rw [e] at hnd2
    exact (List.nodup_cons.1 hnd2).1 hm
  have hemp:newsOf js=[]→newsOf (A++C)=[]:=by
   intro hn
   refine List.eq_nil_iff_forall_not_mem.2 fun d hd=>?_
   obtain ⟨q,hq,r,hr⟩:=newsOf_mem.1 hd
   have:d∈newsOf js:=newsOf_mem.2 ⟨q,hsub.subset (by
    simp only [List.mem_append,List.mem_cons] at hq ⊢
    rcases hq with hq|hq
    ·exact .inl hq
    ·exact .inr (.inr hq)),r,hr⟩
   rw [hn] at this
   cases this
  have hfi:isFz ii=false:=hfz ii (List.mem_of_getElem? hii)
  obtain ⟨o',ho',hchk⟩:=hget i ii hii
  rw [ho] at ho'
  cases ho'
  have cont:∀ fr' L' ι' a' w',FreeAll (newsOf (A++C)) fr' L'→awpOps P E Y (A++C) fr' L' K→StF E B w' L' ι' fr' a'→wpAny P .any ops Q fuel (listed.setIfInBounds i true) a' w':=by
   intro fr' L' ι' a' w' hF' h' hs'
   refine ih (listed.setIfInBounds i true) fr' L' ι' a' w' (by simpa using hsz) ?_ ?_ ?_ ?_ hs'
   ·intro k q hq hk e he
    by_cases hki:k=i
    ·subst hki
     rw [ho] at hq
     cases hq
     by_cases hei:e=k
     ·subst hei;exact hself _
     ·have:=hed e he
      rw [Array.getD_eq_getD_getElem?,Array.getElem?_setIfInBounds_ne (Ne.symm hei),← Array.getD_eq_getD_getElem?]
      exact this
    ·rw [Array.getD_eq_getD_getElem?,Array.getElem?_setIfInBounds_ne (Ne.symm hki),← Array.getD_eq_getD_getElem?] at hk
     have:=hcl k q hq hk e he
     by_cases hei:e=i
     ·subst hei;exact hself _
     ·rw [Array.getD_eq_getD_getElem?,Array.getElem?_setIfInBounds_ne (Ne.symm hei),← Array.getD_eq_getD_getElem?]
      exact this
   ·rw [hfil']
    simp only [List.length_append,List.length_cons] at hf ⊢
    omega
   ·rw [hfil',List.map_append,hA,hC]
    exact hF'
   ·rw [hfil',List.map_append,hA,hC]
    exact h'
  have hstep:if Region.wanted o (yielded ops a.tmps) then o.wp P a w (wpAny P .any ops Q fuel (listed.setIfInBounds i true)) Q else wpAny P .any ops Q fuel (listed.setIfInBounds i true) (a.put o.dst undef) w:=by
   rcases hfront with hfront|⟨hfront,hn⟩
   ·exact oper_sound hchk hfi hfront hs (fun fr' L' ι' a' w' h' hs'=>by
     simp only [awpOps] at h'
     exact cont fr' L' ι' a' w' h'.1 h'.2 hs')
   ·exact oper_sound hchk hfi hfront hs (fun fr' L' ι' a' w' h' hs'=>cont fr' L' ι' a' w' (by rw [hemp hn];intro d hd;cases hd) h' hs')
  unfold wpOp
  rw [ho]
  simp only
  by_cases hw:Region.wanted o (yielded ops a.tmps)=true
  ·rw [if_pos hw] at hstep ⊢
   exact .inl hstep
  ·rw [if_neg hw] at hstep ⊢
   exact hstep
theorem awpOps_drop {ops:Array Oper} {K:List AV→Objs→Prop}:∀ (is:List IOper) (ds:List Nat) (fr:List AV) (L:Objs) (ι:Key→Value) (a:Act) (w:World) (os:List Oper),(∀ i∈is,isRe i=false)→chkOps P ops os is=true→FreeAll ds fr L→awpOps P E Y is fr L K→StF E B w L ι fr a→chkOps P ops os (dropFz is)=true∧∃ fr' L' ι',FreeAll (ds++holesOf is) fr' L'∧awpOps P E Y (dropFz is) fr' L' K∧StF E B w L' ι' fr' a:=by
 intro is
 induction is with
 |nil=>intro ds fr L ι a w os _ hc hF h hs;exact ⟨hc,fr,L,ι,by simpa [holesOf] using hF,h,hs⟩
 |cons i is ih=>
  intro ds fr L ι a w os hre hc hF h hs
  have hre':∀ i∈is,isRe i=false:=fun j hj=>hre j (by simp [hj])
  simp only [dropFz,holesOf]
  by_cases hf:isFz i=true
  ·rw [if_pos hf,if_pos hf]
   simp only [chkOps] at hc
   rw [if_pos hf] at hc
   rcases isFz_eq hf with ⟨x,rfl⟩|⟨x,rfl⟩|rfl
   ·simp only [awpOps] at h
    split at h
    ·rename_i k y hk
     exact ih ds _ _ ι a w os hre' hc (fun d hd=>(hF d hd).thaw) h (fz_ok hs hk)
    ·exact ih ds _ _ ι a w os hre' hc hF h hs
   ·simp only [awpOps] at h
    obtain ⟨h1,fr',L',ι',h2,h3⟩:=ih (ds++[x]) _ _ _ a w os hre' hc (fun d hd=>by
     rcases List.mem_append.1 hd with hd|hd
     ·exact (hF d hd).hole x
     ·simp only [List.mem_singleton] at hd
      subst hd
      exact Zam.hole_self d fr L) h (hole_ok hs x)
    exact ⟨h1,fr',L',ι',by simpa using h2,h3⟩
   ·have:=hre _ (List.mem_cons_self ..)
    cases this
  ·rw [if_neg hf,if_neg hf]
   exact ⟨hc,fr,L,ι,by simpa using hF,h,hs⟩
theorem drawOk (hm:P.follows .mixedOrders=true):DrawOk P okDraw:=by
 intro E B Y ops is id fr L ι a w K Q hK hc hD h hs
 simp only [okDraw,Bool.and_eq_true,beq_iff_eq,List.all_eq_true,Bool.not_eq_true'] at hD
 obtain ⟨⟨⟨⟨⟨hre,h0⟩,h1⟩,h2⟩,h3⟩,h4⟩:=hD
 obtain ⟨hc',fr',L',ι',hF',h',hs'⟩:=awpOps_drop is [] fr L ι a w ops.toList hre hc (fun d hd=>by cases hd) h hs
 rw [List.nil_append] at hF'
 generalize holesOf is=hls at *
 generalize dropFz is=js at *
 obtain ⟨g1,g2⟩:=chkOps_get hc' (fun i hi=>h1 i hi)
 refine wp_region_any hm ?_
 have hs'':StF E B { w with drawn:=w.drawn+1 } L' ι' fr' a:=hs'.grown ⟨rfl,rfl,rfl,Nat.le_refl _,fun _ _ _=>rfl⟩
 have hrep:∀ j,(Array.replicate ops.size false).getD j true=false↔j < ops.size:=by
  intro j
  by_cases hj:j < ops.size<;>simp [Array.getD,hj]
 have hfil:((List.range js.length).zip js).filter (unl (Array.replicate ops.size false))=(List.range js.length).zip js:=by
  refine List.filter_eq_self.2 fun p hp=>?_
  obtain ⟨k,hk⟩:=List.getElem?_of_mem hp
  rw [List.getElem?_zip_eq_some] at hk
  have hkl:=(List.getElem?_eq_some_iff.1 hk.2).1
  rw [List.getElem?_range hkl] at hk
  cases hk.1
  simp only [unl,(hrep p.1).2 (by rw [← h2];exact hkl),Bool.not_false]
 refine any_ok (Y:=Y) (js:=js) hK h2 (fun k i hk=>?_) (fun i hi=>h1 i hi) h3 (fun i o ho e he=>?_) ?_ ops.size (Array.replicate ops.size false) fr' L' ι' a _ (by simp) ?_ ?_ ?_ ?_ hs''
 ·obtain ⟨o,ho,hh⟩:=g2 k i hk
  exact ⟨o,by simpa using ho,hh⟩
 ·have hlt:i < ops.size:=(Array.getElem?_eq_some_iff.1 ho).1
  have:=h4 i (by simpa using hlt)
  rw [ho] at this
  simp only [List.all_eq_true,decide_eq_true_eq] at this
  exact this e he
 ·simp only [okNews,Bool.or_eq_true,Bool.and_eq_true,List.isEmpty_iff,List.all_eq_true,decide_eq_true_eq] at h0
  rcases h0 with h0|h0
  ·exact .inl h0
  ·exact .inr h0.1
 ·intro k q hq hk
  by_cases hj:k < ops.size<;>simp [Array.getD,hj] at hk
 ·rw [hfil];simp [h2]
 ·rw [hfil]
  have e:((List.range js.length).zip js).map (·.2)=js:=by
   rw [← List.unzip_snd,List.unzip_zip (by simp)]
  rw [e]
  simp only [okNews,Bool.or_eq_true,Bool.and_eq_true,List.isEmpty_iff,List.all_eq_true,decide_eq_true_eq] at h0
  rcases h0 with h0|h0
  ·rw [h0];intro d hd;cases hd
  ·exact fun d hd=>hF' d (by simpa using h0.2 d hd)
 ·rw [hfil]
  have:((List.range js.length).zip js).map (·.2)=js:=by
   rw [← List.unzip_snd,List.unzip_zip (by simp)]
  rw [this]
  exact h'
end
def chkF (P:Program) (fn:Func) (ic:IC) (rs:List IRes) (n:Nat):Bool:=
 match fn.body with
 |some c=>chkC P okDraw ic c && okResL P fn.results.toList rs && fn.ntmps == n
 |none=>false
section
variable {P:Program} {E:Envt}
theorem pcallF (hm:P.follows .mixedOrders=true) {f:FuncId} {fn:Func} {ic:IC} {rs:List IRes} {args:List PV} {n:Nat} {φ:PV→Prop} (hf:P.funcs[f]?=some fn) (hc:chkF P fn ic rs n=true)
  (h:awp P E ic (args.map .p++List.replicate (n - args.length) .any) [] (retQ rs fun x _=>φ x)):PCall P E f args φ:=by
 unfold chkF at hc
 split at hc
 ·rename_i c hb
  simp only [Bool.and_eq_true,beq_iff_eq] at hc
  exact pcall_of_awp (drawOk hm) hf hb hc.2 hc.1.1 hc.1.2 h
 ·cases hc
def thenC (P:Program) (E:Envt) (y:IC) (Q:AQ):AQ:=thenQ (fun fr L=>awp P E y fr L Q) Q
def BrC (P:Program) (E:Envt) (b:Bool) (x y:IC) (fr:List AV) (L:Objs) (Q:AQ):Prop:=BrQ b (awp P E x fr L Q) (awp P E y fr L Q)
def LoopC (P:Program) (E:Envt) (x:IC) (fr:List AV) (L:Objs) (Q:AQ):Prop:=awp P E (.loop x) fr L Q
def DrgC (P:Program) (E:Envt) (ops:List IOper) (fr:List AV) (L:Objs) (K:List AV→Objs→Prop):Prop:=∃ X,awpOps P E X ops fr L K
def contO (P:Program) (E:Envt) (X:List PV) (is:List IOper) (K:List AV→Objs→Prop):List AV→Objs→Prop:=fun fr L=>awpOps P E X is fr L K
theorem ReOk.refl {fr:List AV} {L:Objs}:ReOk E fr L fr L:=fun B w ι a hs=>⟨ι,hs⟩
theorem ReOk.trans {fr fr1 fr2:List AV} {L L1 L2:Objs} (h:ReOk E fr L fr1 L1) (k:ReOk E fr1 L1 fr2 L2):ReOk E fr L fr2 L2:=fun B w ι a hs=>by
 obtain ⟨ι1,hs1⟩:=h B w ι a hs
 exact k B w ι1 a hs1
theorem re_weak {fr fr':List AV} {L L':Objs} (h1:Zb fr fr') (h2:Zd L' L):ReOk E fr L fr' L':=fun B w ι a hs=>⟨ι,hs.weak h1 h2⟩
def EndR (E:Envt) (I:Nat→List AV→Objs→Prop) (n:Nat) (fr:List AV) (L:Objs):Prop:=∃ m fr' L',m < n∧ReOk E fr L fr' L'∧I m fr' L'
def roundQ (E:Envt) (I:Nat→List AV→Objs→Prop) (n:Nat) (Q:AQ):AQ:=thenQ (EndR E I n) Q
def CutC (P:Program) (E:Envt) (x:IC) (fr:List AV) (L:Objs) (Q:AQ):Prop:=∃ fr' L',ReOk E fr L fr' L'∧awp P E x fr' L' Q
def MidK (E:Envt) (M:List AV→Objs→Prop) (fr:List AV) (L:Objs):Prop:=∃ fr' L',ReOk E fr L fr' L'∧M fr' L'
def midQ (E:Envt) (M:List AV→Objs→Prop) (Q:AQ):AQ:=thenQ (MidK E M) Q
variable {fr:List AV} {L:Objs} {Q:AQ} {X:List PV} {K:List AV→Objs→Prop}
theorem awp_skip:awp P E .skip fr L Q=Q .normal fr L:=rfl
theorem awp_exit {i:Nat}:awp P E (.exit i) fr L Q=Q (.exit i) fr L:=rfl
theorem awp_ret:awp P E .ret fr L Q=Q .ret fr L:=rfl
theorem awp_seq {x y:IC}:awp P E (.seq x y) fr L Q=awp P E x fr L (thenC P E y Q):=rfl
theorem awp_block {i:Nat} {x:IC}:awp P E (.block i x) fr L Q=awp P E x fr L (blockQ i Q):=rfl
theorem awp_reg {ops:List IOper}:awp P E (.reg ops) fr L Q=awpOps P E [] ops fr L (Q .normal):=rfl
theorem awp_drg {ops:List IOper}:awp P E (.drg ops) fr L Q=DrgC P E ops fr L (Q .normal):=rfl
theorem awp_loop {x:IC}:awp P E (.loop x) fr L Q=LoopC P E x fr L Q:=rfl
theorem awp_cond {c:Opd} {x y:IC}:awp P E (.cond c x y) fr L Q=(match rd fr c with|.p (.bool b)=>BrC P E b x y fr L Q|_=>False):=rfl
theorem thenC_n {y:IC}:thenC P E y Q .normal fr L=awp P E y fr L Q:=rfl
theorem thenC_r {y:IC}:thenC P E y Q .ret fr L=Q .ret fr L:=rfl
theorem thenC_e {y:IC} {i:Nat}:thenC P E y Q (.exit i) fr L=Q (.exit i) fr L:=rfl
theorem blockQ_n {i:Nat}:blockQ i Q .normal fr L=Q .normal fr L:=rfl
theorem blockQ_r {i:Nat}:blockQ i Q .ret fr L=Q .ret fr L:=rfl
theorem blockQ_e {i j:Nat}:blockQ i Q (.exit j) fr L=if j=i then Q .normal fr L else Q (.exit j) fr L:=rfl
theorem roundQ_n {I:Nat→List AV→Objs→Prop} {n:Nat}:roundQ E I n Q .normal fr L=EndR E I n fr L:=rfl
theorem awp_cut {x:IC}:awp P E (.cut x) fr L Q=CutC P E x fr L Q:=rfl
theorem midQ_n {M:List AV→Objs→Prop}:midQ E M Q .normal fr L=MidK E M fr L:=rfl
theorem midQ_r {M:List AV→Objs→Prop}:midQ E M Q .ret fr L=Q .ret fr L:=rfl
theorem midQ_e {M:List AV→Objs→Prop} {i:Nat}:midQ E M Q (.exit i) fr L=Q (.exit i) fr L:=rfl
theorem roundQ_r {I:Nat→List AV→Objs→Prop} {n:Nat}:roundQ E I n Q .ret fr L=Q .ret fr L:=rfl
theorem roundQ_e {I:Nat→List AV→Objs→Prop} {n i:Nat}:roundQ E I n Q (.exit i) fr L=Q (.exit i) fr L:=rfl
theorem retQ_r {rs:List IRes} {φ:PV→Objs→Prop}:retQ rs φ .ret fr L=RetK (Zbd fr L rs) φ L:=rfl
theorem retQ_n {rs:List IRes} {φ:PV→Objs→Prop}:retQ rs φ .normal fr L=RetK (Zbd fr L rs) φ L:=rfl
theorem BrC_true {x y:IC}:BrC P E true x y fr L Q=awp P E x fr L Q:=by simp [BrC,BrQ]
theorem BrC_false {x y:IC}:BrC P E false x y fr L Q=awp P E y fr L Q:=by simp [BrC,BrQ]
theorem br {b:Bool} {x y:IC} (h1:b=true→awp P E x fr L Q) (h2:b=false→awp P E y fr L Q):BrC P E b x y fr L Q:=⟨h1,h2⟩
theorem loop_intro {x:IC} (I:Nat→List AV→Objs→Prop) (n:Nat) (fr':List AV) (L':Objs) (h1:Zb fr fr') (h2:Zd L' L) (h0:I n fr' L') (hr:∀ n fr L,I n fr L→awp P E x fr L (roundQ E I n Q)):LoopC P E x fr L Q:=⟨I,⟨n,fr',L',re_weak h1 h2,h0⟩,hr⟩
theorem loop_re {x:IC} (I:Nat→List AV→Objs→Prop) (n:Nat) (fr':List AV) (L':Objs) (h1:ReOk E fr L fr' L') (h0:I n fr' L') (hr:∀ n fr L,I n fr L→awp P E x fr L (roundQ E I n Q)):LoopC P E x fr L Q:=⟨I,⟨n,fr',L',h1,h0⟩,hr⟩
theorem cut_re {x:IC} (fr':List AV) (L':Objs) (h1:ReOk E fr L fr' L') (h:awp P E x fr' L' Q):CutC P E x fr L Q:=⟨fr',L',h1,h⟩
theorem end_round {I:Nat→List AV→Objs→Prop} {n:Nat} (m:Nat) (fr':List AV) (L':Objs) (hm:m < n) (h1:Zb fr fr') (h2:Zd L' L) (h0:I m fr' L'):EndR E I n fr L:=⟨m,fr',L',hm,re_weak h1 h2,h0⟩
theorem to_mid {M:List AV→Objs→Prop} (fr':List AV) (L':Objs) (h1:Zb fr fr') (h2:Zd L' L) (h0:M fr' L'):MidK E M fr L:=⟨fr',L',re_weak h1 h2,h0⟩
theorem map_kill_p (k:Key) (cs:List PV):(cs.map AV.p).map (fun x=>AV.kill k x)=cs.map AV.p:=by
 rw [List.map_map];exact List.map_congr_left fun x _=>rfl
theorem map_thaw_p (k:Key) (y:PV) (cs:List PV):(cs.map AV.p).map (fun x=>AV.thaw k y x)=cs.map AV.p:=by
 rw [List.map_map];exact List.map_congr_left fun x _=>rfl
theorem cut_same {x:IC} (h2:Zd L L) (h:awp P E x fr L Q):CutC P E x fr L Q:=⟨fr,L,ReOk.refl,h⟩
theorem awpOps_mono {K':List AV→Objs→Prop} (hk:∀ fr L,K fr L→K' fr L):∀ (is:List IOper) (fr:List AV) (L:Objs),awpOps P E X is fr L K→awpOps P E X is fr L K':=by
 intro is
 induction is with
 |nil=>intro fr L h;exact hk fr L h
 |cons i is ih=>
  obtain ⟨d,op,gd⟩:=i
  intro fr L h
  have hcall:∀ f as d fr,CallOp P E f as L d fr (fun fr L=>awpOps P E X is fr L K)→CallOp P E f as L d fr (fun fr L=>awpOps P E X is fr L K'):=by
   intro f as d fr h
   rcases h with ⟨φ,h1,h2⟩|⟨bk,post,h1,h2,h3,h4⟩|⟨i0,h⟩
   ·exact .inl ⟨φ,h1,fun x hx=>ih _ _ (h2 x hx)⟩
   ·refine .inr (.inl ⟨bk,post,h1,h2,h3,fun r os' hp=>?_⟩)
    have:=h4 r os' hp
    cases r with
    |p x=>exact ih _ _ this
    |fr es e z=>cases d with
     |none=>exact ih _ _ this
     |some d=>exact ih _ _ this
   ·refine .inr (.inr ⟨i0,fun w X' ι vs a1 a2 a3 a4 a5=>(h w X' ι vs a1 a2 a3 a4 a5).mono ?_⟩)
    rintro e w' ⟨v,r,L',ι',b1,b2,b3⟩
    exact ⟨v,r,L',ι',b1,ih _ _ b2,b3⟩
  cases gd with
  |none=>
   cases op with
   |call f args=>exact ⟨h.1,hcall _ _ _ _ h.2⟩
   |pcall n f args=>exact ⟨h.1,ih _ _ h.2⟩
   |dcall b f args=>
    obtain ⟨h0,k,t,cs,post,h1,h2,h3,h4,h5,h6⟩:=h
    exact ⟨h0,k,t,cs,post,h1,h2,h3,h4,h5,fun x cs' hp=>ih _ _ (h6 x cs' hp)⟩
   |callv g args=>
    simp only [awpOps] at h ⊢
    split at h
    ·exact ⟨h.1,h.2.1,h.2.2.1,h.2.2.2.1,hcall _ _ _ _ h.2.2.2.2⟩
    ·exact h.elim
   |pcv n g args=>
    simp only [awpOps] at h ⊢
    split at h
    ·exact ⟨h.1,ih _ _ h.2⟩
    ·exact h.elim
   |fz x=>
    simp only [awpOps] at h ⊢
    split at h
    ·exact ih _ _ h
    ·exact ih _ _ h
   |hole x=>exact ih _ _ h
   |fcl n f args e z=>
    simp only [awpOps] at h ⊢
    split at h
    ·exact ⟨h.1,ih _ _ h.2⟩
    ·exact h.elim
   |re=>obtain ⟨fr',L',h1,h2⟩:=h;exact ⟨fr',L',h1,ih _ _ h2⟩
   |nxt x=>
    simp only [awpOps] at h ⊢
    split at h
    ·exact ⟨h.1,fun e=>ih _ _ (h.2.1 e),fun i p e=>ih _ _ (h.2.2 i p e)⟩
    ·exact h.elim
   |isn x=>
    simp only [awpOps] at h ⊢
    split at h
    ·exact ⟨h.1,fun b hb=>ih _ _ (h.2 b hb)⟩
    ·exact h.elim
   |_=>
    simp only [awpOps] at h ⊢
    split at h
    ·exact ⟨h.1,ih _ _ h.2⟩
    ·exact h.elim
  |some q=>
   obtain ⟨s,want⟩:=q
   simp only [awpOps] at h ⊢
   split at h
   ·cases op with
    |call f args=>
     simp only at h ⊢
     rcases h with ⟨h1,⟨x,h2,h3⟩|⟨h2,h3⟩⟩
     ·exact ⟨h1,.inl ⟨x,h2,ih _ _ h3⟩⟩
     ·exact ⟨h1,.inr ⟨fun e=>hcall _ _ _ _ (h2 e),fun e=>ih _ _ (h3 e)⟩⟩
    |pcall n f args=>simp only at h ⊢;exact ⟨h.1,ih _ _ h.2⟩
    |callv g args=>
     simp only at h ⊢
     split at h
     ·rcases h with ⟨h0,h1,⟨x,h2,h3⟩|⟨h2,h3⟩⟩
      ·exact ⟨h0,h1,.inl ⟨x,h2,ih _ _ h3⟩⟩
      ·exact ⟨h0,h1,.inr ⟨fun e=>hcall _ _ _ _ (h2 e),fun e=>ih _ _ (h3 e)⟩⟩
     ·exact ⟨h.1,ih _ _ h.2⟩
    |pcv n g args=>
     simp only at h ⊢
     split at h
     ·exact ⟨h.1,ih _ _ h.2⟩
     ·exact h.elim
    |_=>
     simp only at h ⊢
     split at h
     ·exact ⟨h.1,ih _ _ h.2⟩
     ·exact ⟨h.1,h.2.1,ih _ _ h.2.2⟩
   ·exact h.elim
theorem awp_mono:∀ (x:IC) (fr:List AV) (L:Objs) (Q Q':AQ),(∀ e fr L,Q e fr L→Q' e fr L)→awp P E x fr L Q→awp P E x fr L Q':=by
 intro x
 induction x with
 |skip=>intro fr L Q Q' hq h;exact hq _ _ _ h
 |reg ops=>intro fr L Q Q' hq h;exact awpOps_mono (hq .normal) ops fr L h
 |drg ops=>intro fr L Q Q' hq h;obtain ⟨Y,h⟩:=h;exact ⟨Y,awpOps_mono (hq .normal) ops fr L h⟩
 |seq x y ihx ihy=>
  intro fr L Q Q' hq h
  refine ihx fr L _ _ (fun e fr L h=>?_) h
  cases e<;>first|exact ihy fr L Q Q' hq h|exact hq _ _ _ h
 |cond c x y ihx ihy=>
  intro fr L Q Q' hq h
  simp only [awp] at h ⊢
  split at h
  ·exact ⟨fun e=>ihx fr L Q Q' hq (h.1 e),fun e=>ihy fr L Q Q' hq (h.2 e)⟩
  ·exact h.elim
 |block i x ih=>
  intro fr L Q Q' hq h
  refine ih fr L _ _ (fun e fr L h=>?_) h
  cases e with
  |exit j=>
   simp only [blockQ] at h ⊢
   split at h
   ·rename_i hj;rw [if_pos hj];exact hq _ _ _ h
   ·rename_i hj;rw [if_neg hj];exact hq _ _ _ h
  |_=>exact hq _ _ _ h
 |loop x ih=>
  intro fr L Q Q' hq h
  obtain ⟨I,h0,hr⟩:=h
  refine ⟨I,h0,fun n fr L hi=>ih fr L _ _ (fun e fr L h=>?_) (hr n fr L hi)⟩
  cases e with
  |normal=>exact h
  |_=>exact hq _ _ _ h
 |exit i=>intro fr L Q Q' hq h;exact hq _ _ _ h
 |ret=>intro fr L Q Q' hq h;exact hq _ _ _ h
 |dead=>intro fr L Q Q' hq h;exact h.elim
 |cut x ih=>intro fr L Q Q' hq h;obtain ⟨fr',L',h1,h⟩:=h;exact ⟨fr',L',h1,ih fr' L' Q Q' hq h⟩
theorem br_join {b:Bool} {x y r:IC} (M:List AV→Objs→Prop) (h1:b=true→awp P E x fr L (midQ E M Q)) (h2:b=false→awp P E y fr L (midQ E M Q)) (hM:∀ fr L,M fr L→awp P E r fr L Q):BrC P E b x y fr L (thenC P E (.cut r) Q):=by
 have hq:∀ e fr L,midQ E M Q e fr L→thenC P E (.cut r) Q e fr L:=by
  intro e fr L h
  cases e with
  |normal=>obtain ⟨fr',L',a1,a3⟩:=h;exact ⟨fr',L',a1,hM fr' L' a3⟩
  |_=>exact h
 exact ⟨fun e=>awp_mono x fr L _ _ hq (h1 e),fun e=>awp_mono y fr L _ _ hq (h2 e)⟩
theorem drg0 {ops:List IOper} (h:awpOps P E [] ops fr L K):DrgC P E ops fr L K:=⟨_,h⟩
theorem drg1 {ops:List IOper} {x1:PV} (h:awpOps P E [x1] ops fr L K):DrgC P E ops fr L K:=⟨_,h⟩
theorem drg2 {ops:List IOper} {x1 x2:PV} (h:awpOps P E [x1,x2] ops fr L K):DrgC P E ops fr L K:=⟨_,h⟩
theorem drg4 {ops:List IOper} {x1 x2 x3 x4:PV} (h:awpOps P E [x1,x2,x3,x4] ops fr L K):DrgC P E ops fr L K:=⟨_,h⟩
theorem drg6 {ops:List IOper} {x1 x2 x3 x4 x5 x6:PV} (h:awpOps P E [x1,x2,x3,x4,x5,x6] ops fr L K):DrgC P E ops fr L K:=⟨_,h⟩
def isOp:IOp→Bool
 |.call ..|.pcall ..|.dcall ..|.callv ..|.pcv ..|.fz ..|.hole ..|.isn ..|.re|.nxt ..|.fcl ..=>false
 |_=>true
def OpsK (P:Program) (E:Envt) (X:List PV) (q:Option (Prop×List AV×Objs)) (is:List IOper) (K:List AV→Objs→Prop):Prop:=
 match q with
 |some (c,fr',L')=>c∧awpOps P E X is fr' L' K
 |none=>False
def GdK (P:Program) (E:Envt) (X:List PV) (pl:Bool) (g:Option Bool) (q:Option (Prop×AV)) (d:Option Nat) (is:List IOper) (fr:List AV) (L:Objs) (K:List AV→Objs→Prop):Prop:=
 match g with
 |some c0=>match q with
  |some (c,r)=>(c0=true→c)∧awpOps P E X is (Zg fr d (.g c0 r)) L K
  |none=>pl=true∧c0=false∧awpOps P E X is (Zg fr d (.g c0 .any)) L K
 |none=>False
theorem OpsK_some {c:Prop} {fr':List AV} {L':Objs} {is:List IOper}:OpsK P E X (some (c,fr',L')) is K=(c∧awpOps P E X is fr' L' K):=rfl
theorem GdK_none {c0:Bool} {d:Option Nat} {is:List IOper}:GdK P E X true (some c0) none d is fr L K=(c0=false∧awpOps P E X is (Zg fr d (.g c0 .any)) L K):=by simp [GdK]
theorem GdK_some {pl c0:Bool} {c:Prop} {r:AV} {d:Option Nat} {is:List IOper}:GdK P E X pl (some c0) (some (c,r)) d is fr L K=((c0=true→c)∧awpOps P E X is (Zg fr d (.g c0 r)) L K):=rfl
theorem ops_nil:awpOps P E X [] fr L K=K fr L:=rfl
theorem ops_op {d:Option Nat} {op:IOp} {is:List IOper} (h:isOp op=true):awpOps P E X (⟨d,op,none⟩ :: is) fr L K=OpsK P E X (Ze d fr L op) is K:=by
 cases op<;>first|rfl|(simp [isOp] at h)
theorem ops_gd {d:Option Nat} {op:IOp} {is:List IOper} {s:Nat} {want:Bool} (h:isOp op=true):awpOps P E X (⟨d,op,some (s,want)⟩ :: is) fr L K=GdK P E X (plainOp op) (Zh fr s want) (Zf fr L op) d is fr L K:=by
 cases op<;>first|rfl|(simp [isOp] at h)
def StepK (P:Program) (E:Envt) (X:List PV) (q:Option (Prop×AV)) (d:Option Nat) (is:List IOper) (fr:List AV) (L:Objs) (K:List AV→Objs→Prop):Prop:=
 match q with
 |some (c,r)=>c∧awpOps P E X is (Zg fr d r) L K
 |none=>False
theorem StepK_some {c:Prop} {r:AV} {d:Option Nat} {is:List IOper}:StepK P E X (some (c,r)) d is fr L K=(c∧awpOps P E X is (Zg fr d r) L K):=rfl
theorem StepK_eq {op:IOp} {d:Option Nat} {is:List IOper} (h:Ze d fr L op=(Zf fr L op).map (fun q=>(q.1,Zg fr d q.2,L))):OpsK P E X (Ze d fr L op) is K=StepK P E X (Zf fr L op) d is fr L K:=by
 rw [h]
 cases Zf fr L op<;>rfl
theorem o_mov {d:Option Nat} {is:List IOper} {_x}:awpOps P E X (⟨d,.mov _x,none⟩ :: is) fr L K=StepK P E X (Zf fr L (.mov _x)) d is fr L K:=by rw [ops_op rfl];exact StepK_eq rfl
theorem g_mov {d:Option Nat} {is:List IOper} {s:Nat} {want:Bool} {_x}:awpOps P E X (⟨d,.mov _x,some (s,want)⟩ :: is) fr L K=GdK P E X true (Zh fr s want) (Zf fr L (.mov _x)) d is fr L K:=ops_gd rfl
theorem o_pick {d:Option Nat} {is:List IOper} {_c} {_a} {_b}:awpOps P E X (⟨d,.pick _c _a _b,none⟩ :: is) fr L K=StepK P E X (Zf fr L (.pick _c _a _b)) d is fr L K:=by rw [ops_op rfl];exact StepK_eq rfl
theorem g_pick {d:Option Nat} {is:List IOper} {s:Nat} {want:Bool} {_c} {_a} {_b}:awpOps P E X (⟨d,.pick _c _a _b,some (s,want)⟩ :: is) fr L K=GdK P E X true (Zh fr s want) (Zf fr L (.pick _c _a _b)) d is fr L K:=ops_gd rfl
theorem o_bin {d:Option Nat} {is:List IOper} {_b} {_x} {_y}:awpOps P E X (⟨d,.bin _b _x _y,none⟩ :: is) fr L K=StepK P E X (Zf fr L (.bin _b _x _y)) d is fr L K:=by rw [ops_op rfl];exact StepK_eq rfl
theorem g_bin {d:Option Nat} {is:List IOper} {s:Nat} {want:Bool} {_b} {_x} {_y}:awpOps P E X (⟨d,.bin _b _x _y,some (s,want)⟩ :: is) fr L K=GdK P E X true (Zh fr s want) (Zf fr L (.bin _b _x _y)) d is fr L K:=ops_gd rfl
theorem o_bnb {d:Option Nat} {is:List IOper} {_b} {_x} {_y}:awpOps P E X (⟨d,.bnb _b _x _y,none⟩ :: is) fr L K=StepK P E X (Zf fr L (.bnb _b _x _y)) d is fr L K:=by rw [ops_op rfl];exact StepK_eq rfl
theorem g_bnb {d:Option Nat} {is:List IOper} {s:Nat} {want:Bool} {_b} {_x} {_y}:awpOps P E X (⟨d,.bnb _b _x _y,some (s,want)⟩ :: is) fr L K=GdK P E X true (Zh fr s want) (Zf fr L (.bnb _b _x _y)) d is fr L K:=ops_gd rfl
theorem o_eqa {d:Option Nat} {is:List IOper} {_n} {_k} {_x} {_y}:awpOps P E X (⟨d,.eqa _n _k _x _y,none⟩ :: is) fr L K=StepK P E X (Zf fr L (.eqa _n _k _x _y)) d is fr L K:=by rw [ops_op rfl];exact StepK_eq rfl
theorem g_eqa {d:Option Nat} {is:List IOper} {s:Nat} {want:Bool} {_n} {_k} {_x} {_y}:awpOps P E X (⟨d,.eqa _n _k _x _y,some (s,want)⟩ :: is) fr L K=GdK P E X true (Zh fr s want) (Zf fr L (.eqa _n _k _x _y)) d is fr L K:=ops_gd rfl
theorem o_not {d:Option Nat} {is:List IOper} {_x}:awpOps P E X (⟨d,.not _x,none⟩ :: is) fr L K=StepK P E X (Zf fr L (.not _x)) d is fr L K:=by rw [ops_op rfl];exact StepK_eq rfl
theorem g_not {d:Option Nat} {is:List IOper} {s:Nat} {want:Bool} {_x}:awpOps P E X (⟨d,.not _x,some (s,want)⟩ :: is) fr L K=GdK P E X true (Zh fr s want) (Zf fr L (.not _x)) d is fr L K:=ops_gd rfl
theorem o_neg {d:Option Nat} {is:List IOper} {_x}:awpOps P E X (⟨d,.neg _x,none⟩ :: is) fr L K=StepK P E X (Zf fr L (.neg _x)) d is fr L K:=by rw [ops_op rfl];exact StepK_eq rfl
theorem g_neg {d:Option Nat} {is:List IOper} {s:Nat} {want:Bool} {_x}:awpOps P E X (⟨d,.neg _x,some (s,want)⟩ :: is) fr L K=GdK P E X true (Zh fr s want) (Zf fr L (.neg _x)) d is fr L K:=ops_gd rfl
theorem o_len {d:Option Nat} {is:List IOper} {_x}:awpOps P E X (⟨d,.len _x,none⟩ :: is) fr L K=StepK P E X (Zf fr L (.len _x)) d is fr L K:=by rw [ops_op rfl];exact StepK_eq rfl
theorem g_len {d:Option Nat} {is:List IOper} {s:Nat} {want:Bool} {_x}:awpOps P E X (⟨d,.len _x,some (s,want)⟩ :: is) fr L K=GdK P E X true (Zh fr s want) (Zf fr L (.len _x)) d is fr L K:=ops_gd rfl
theorem o_sln {d:Option Nat} {is:List IOper} {_x}:awpOps P E X (⟨d,.sln _x,none⟩ :: is) fr L K=StepK P E X (Zf fr L (.sln _x)) d is fr L K:=by rw [ops_op rfl];exact StepK_eq rfl
theorem g_sln {d:Option Nat} {is:List IOper} {s:Nat} {want:Bool} {_x}:awpOps P E X (⟨d,.sln _x,some (s,want)⟩ :: is) fr L K=GdK P E X true (Zh fr s want) (Zf fr L (.sln _x)) d is fr L K:=ops_gd rfl
theorem o_mx {d:Option Nat} {is:List IOper} {_x} {_y}:awpOps P E X (⟨d,.mx _x _y,none⟩ :: is) fr L K=StepK P E X (Zf fr L (.mx _x _y)) d is fr L K:=by rw [ops_op rfl];exact StepK_eq rfl
theorem g_mx {d:Option Nat} {is:List IOper} {s:Nat} {want:Bool} {_x} {_y}:awpOps P E X (⟨d,.mx _x _y,some (s,want)⟩ :: is) fr L K=GdK P E X true (Zh fr s want) (Zf fr L (.mx _x _y)) d is fr L K:=ops_gd rfl
theorem o_mn {d:Option Nat} {is:List IOper} {_x} {_y}:awpOps P E X (⟨d,.mn _x _y,none⟩ :: is) fr L K=StepK P E X (Zf fr L (.mn _x _y)) d is fr L K:=by rw [ops_op rfl];exact StepK_eq rfl
theorem g_mn {d:Option Nat} {is:List IOper} {s:Nat} {want:Bool} {_x} {_y}:awpOps P E X (⟨d,.mn _x _y,some (s,want)⟩ :: is) fr L K=GdK P E X true (Zh fr s want) (Zf fr L (.mn _x _y)) d is fr L K:=ops_gd rfl
theorem o_idx {d:Option Nat} {is:List IOper} {_x} {_y}:awpOps P E X (⟨d,.idx _x _y,none⟩ :: is) fr L K=StepK P E X (Zf fr L (.idx _x _y)) d is fr L K:=by rw [ops_op rfl];exact StepK_eq rfl
theorem g_idx {d:Option Nat} {is:List IOper} {s:Nat} {want:Bool} {_x} {_y}:awpOps P E X (⟨d,.idx _x _y,some (s,want)⟩ :: is) fr L K=GdK P E X true (Zh fr s want) (Zf fr L (.idx _x _y)) d is fr L K:=ops_gd rfl
theorem o_ssl {d:Option Nat} {is:List IOper} {_x} {_l} {_h}:awpOps P E X (⟨d,.ssl _x _l _h,none⟩ :: is) fr L K=StepK P E X (Zf fr L (.ssl _x _l _h)) d is fr L K:=by rw [ops_op rfl];exact StepK_eq rfl
theorem g_ssl {d:Option Nat} {is:List IOper} {s:Nat} {want:Bool} {_x} {_l} {_h}:awpOps P E X (⟨d,.ssl _x _l _h,some (s,want)⟩ :: is) fr L K=GdK P E X true (Zh fr s want) (Zf fr L (.ssl _x _l _h)) d is fr L K:=ops_gd rfl
theorem o_vsl {d:Option Nat} {is:List IOper} {_z} {_x} {_l} {_h}:awpOps P E X (⟨d,.vsl _z _x _l _h,none⟩ :: is) fr L K=StepK P E X (Zf fr L (.vsl _z _x _l _h)) d is fr L K:=by rw [ops_op rfl];exact StepK_eq rfl
theorem g_vsl {d:Option Nat} {is:List IOper} {s:Nat} {want:Bool} {_z} {_x} {_l} {_h}:awpOps P E X (⟨d,.vsl _z _x _l _h,some (s,want)⟩ :: is) fr L K=GdK P E X true (Zh fr s want) (Zf fr L (.vsl _z _x _l _h)) d is fr L K:=ops_gd rfl
theorem o_ixa {d:Option Nat} {is:List IOper} {_z} {_x} {_y}:awpOps P E X (⟨d,.ixa _z _x _y,none⟩ :: is) fr L K=StepK P E X (Zf fr L (.ixa _z _x _y)) d is fr L K:=by rw [ops_op rfl];exact StepK_eq rfl
theorem g_ixa {d:Option Nat} {is:List IOper} {s:Nat} {want:Bool} {_z} {_x} {_y}:awpOps P E X (⟨d,.ixa _z _x _y,some (s,want)⟩ :: is) fr L K=GdK P E X true (Zh fr s want) (Zf fr L (.ixa _z _x _y)) d is fr L K:=ops_gd rfl
theorem o_fla {d:Option Nat} {is:List IOper} {_o} {_x}:awpOps P E X (⟨d,.fla _o _x,none⟩ :: is) fr L K=StepK P E X (Zf fr L (.fla _o _x)) d is fr L K:=by rw [ops_op rfl];exact StepK_eq rfl
theorem g_fla {d:Option Nat} {is:List IOper} {s:Nat} {want:Bool} {_o} {_x}:awpOps P E X (⟨d,.fla _o _x,some (s,want)⟩ :: is) fr L K=GdK P E X true (Zh fr s want) (Zf fr L (.fla _o _x)) d is fr L K:=ops_gd rfl
theorem o_fld {d:Option Nat} {is:List IOper} {_o} {_s} {_a} {_x}:awpOps P E X (⟨d,.fld _o _s _a _x,none⟩ :: is) fr L K=StepK P E X (Zf fr L (.fld _o _s _a _x)) d is fr L K:=by rw [ops_op rfl];exact StepK_eq rfl
theorem g_fld {d:Option Nat} {is:List IOper} {s:Nat} {want:Bool} {_o} {_s} {_a} {_x}:awpOps P E X (⟨d,.fld _o _s _a _x,some (s,want)⟩ :: is) fr L K=GdK P E X true (Zh fr s want) (Zf fr L (.fld _o _s _a _x)) d is fr L K:=ops_gd rfl
theorem o_ld {d:Option Nat} {is:List IOper} {_s} {_a} {_x}:awpOps P E X (⟨d,.ld _s _a _x,none⟩ :: is) fr L K=StepK P E X (Zf fr L (.ld _s _a _x)) d is fr L K:=by rw [ops_op rfl];exact StepK_eq rfl
theorem g_ld {d:Option Nat} {is:List IOper} {s:Nat} {want:Bool} {_s} {_a} {_x}:awpOps P E X (⟨d,.ld _s _a _x,some (s,want)⟩ :: is) fr L K=GdK P E X true (Zh fr s want) (Zf fr L (.ld _s _a _x)) d is fr L K:=ops_gd rfl
theorem o_ldl {d:Option Nat} {is:List IOper} {_s} {_a} {_x}:awpOps P E X (⟨d,.ldl _s _a _x,none⟩ :: is) fr L K=StepK P E X (Zf fr L (.ldl _s _a _x)) d is fr L K:=by rw [ops_op rfl];exact StepK_eq rfl
theorem g_ldl {d:Option Nat} {is:List IOper} {s:Nat} {want:Bool} {_s} {_a} {_x}:awpOps P E X (⟨d,.ldl _s _a _x,some (s,want)⟩ :: is) fr L K=GdK P E X false (Zh fr s want) (Zf fr L (.ldl _s _a _x)) d is fr L K:=ops_gd rfl
theorem o_ext {d:Option Nat} {is:List IOper} {_i} {_x}:awpOps P E X (⟨d,.ext _i _x,none⟩ :: is) fr L K=StepK P E X (Zf fr L (.ext _i _x)) d is fr L K:=by rw [ops_op rfl];exact StepK_eq rfl
theorem g_ext {d:Option Nat} {is:List IOper} {s:Nat} {want:Bool} {_i} {_x}:awpOps P E X (⟨d,.ext _i _x,some (s,want)⟩ :: is) fr L K=GdK P E X true (Zh fr s want) (Zf fr L (.ext _i _x)) d is fr L K:=ops_gd rfl
theorem o_bld {d:Option Nat} {is:List IOper} {_z} {_p}:awpOps P E X (⟨d,.bld _z _p,none⟩ :: is) fr L K=StepK P E X (Zf fr L (.bld _z _p)) d is fr L K:=by rw [ops_op rfl];exact StepK_eq rfl
theorem g_bld {d:Option Nat} {is:List IOper} {s:Nat} {want:Bool} {_z} {_p}:awpOps P E X (⟨d,.bld _z _p,some (s,want)⟩ :: is) fr L K=GdK P E X true (Zh fr s want) (Zf fr L (.bld _z _p)) d is fr L K:=ops_gd rfl
theorem o_cvi {d:Option Nat} {is:List IOper} {_k} {_x}:awpOps P E X (⟨d,.cvi _k _x,none⟩ :: is) fr L K=StepK P E X (Zf fr L (.cvi _k _x)) d is fr L K:=by rw [ops_op rfl];exact StepK_eq rfl
theorem g_cvi {d:Option Nat} {is:List IOper} {s:Nat} {want:Bool} {_k} {_x}:awpOps P E X (⟨d,.cvi _k _x,some (s,want)⟩ :: is) fr L K=GdK P E X true (Zh fr s want) (Zf fr L (.cvi _k _x)) d is fr L K:=ops_gd rfl
theorem o_cvs {d:Option Nat} {is:List IOper} {_x}:awpOps P E X (⟨d,.cvs _x,none⟩ :: is) fr L K=StepK P E X (Zf fr L (.cvs _x)) d is fr L K:=by rw [ops_op rfl];exact StepK_eq rfl
theorem g_cvs {d:Option Nat} {is:List IOper} {s:Nat} {want:Bool} {_x}:awpOps P E X (⟨d,.cvs _x,some (s,want)⟩ :: is) fr L K=GdK P E X true (Zh fr s want) (Zf fr L (.cvs _x)) d is fr L K:=ops_gd rfl
theorem o_b2s {d:Option Nat} {is:List IOper} {_x}:awpOps P E X (⟨d,.b2s _x,none⟩ :: is) fr L K=StepK P E X (Zf fr L (.b2s _x)) d is fr L K:=by rw [ops_op rfl];exact StepK_eq rfl
theorem g_b2s {d:Option Nat} {is:List IOper} {s:Nat} {want:Bool} {_x}:awpOps P E X (⟨d,.b2s _x,some (s,want)⟩ :: is) fr L K=GdK P E X true (Zh fr s want) (Zf fr L (.b2s _x)) d is fr L K:=ops_gd rfl
theorem o_bsl {d:Option Nat} {is:List IOper} {_z} {_p}:awpOps P E X (⟨d,.bsl _z _p,none⟩ :: is) fr L K=StepK P E X (Zf fr L (.bsl _z _p)) d is fr L K:=by rw [ops_op rfl];exact StepK_eq rfl
theorem g_bsl {d:Option Nat} {is:List IOper} {s:Nat} {want:Bool} {_z} {_p}:awpOps P E X (⟨d,.bsl _z _p,some (s,want)⟩ :: is) fr L K=GdK P E X true (Zh fr s want) (Zf fr L (.bsl _z _p)) d is fr L K:=ops_gd rfl
theorem o_nck {d:Option Nat} {is:List IOper} {_x}:awpOps P E X (⟨d,.nck _x,none⟩ :: is) fr L K=StepK P E X (Zf fr L (.nck _x)) d is fr L K:=by rw [ops_op rfl];exact StepK_eq rfl
theorem g_nck {d:Option Nat} {is:List IOper} {s:Nat} {want:Bool} {_x}:awpOps P E X (⟨d,.nck _x,some (s,want)⟩ :: is) fr L K=GdK P E X true (Zh fr s want) (Zf fr L (.nck _x)) d is fr L K:=ops_gd rfl
theorem o_nli {d:Option Nat} {is:List IOper} {_n} {_x}:awpOps P E X (⟨d,.nli _n _x,none⟩ :: is) fr L K=StepK P E X (Zf fr L (.nli _n _x)) d is fr L K:=by rw [ops_op rfl];exact StepK_eq rfl
theorem g_nli {d:Option Nat} {is:List IOper} {s:Nat} {want:Bool} {_n} {_x}:awpOps P E X (⟨d,.nli _n _x,some (s,want)⟩ :: is) fr L K=GdK P E X true (Zh fr s want) (Zf fr L (.nli _n _x)) d is fr L K:=ops_gd rfl
theorem o_mkf {d:Option Nat} {is:List IOper} {_f} {_c}:awpOps P E X (⟨d,.mkf _f _c,none⟩ :: is) fr L K=StepK P E X (Zf fr L (.mkf _f _c)) d is fr L K:=by rw [ops_op rfl];exact StepK_eq rfl
theorem g_mkf {d:Option Nat} {is:List IOper} {s:Nat} {want:Bool} {_f} {_c}:awpOps P E X (⟨d,.mkf _f _c,some (s,want)⟩ :: is) fr L K=GdK P E X true (Zh fr s want) (Zf fr L (.mkf _f _c)) d is fr L K:=ops_gd rfl
theorem o_cap0 {d:Option Nat} {is:List IOper} {_x}:awpOps P E X (⟨d,.cap0 _x,none⟩ :: is) fr L K=StepK P E X (Zf fr L (.cap0 _x)) d is fr L K:=by rw [ops_op rfl];exact StepK_eq rfl
theorem g_cap0 {d:Option Nat} {is:List IOper} {s:Nat} {want:Bool} {_x}:awpOps P E X (⟨d,.cap0 _x,some (s,want)⟩ :: is) fr L K=GdK P E X true (Zh fr s want) (Zf fr L (.cap0 _x)) d is fr L K:=ops_gd rfl
theorem o_vsn {d:Option Nat} {is:List IOper} {_x} {_h}:awpOps P E X (⟨d,.vsn _x _h,none⟩ :: is) fr L K=StepK P E X (Zf fr L (.vsn _x _h)) d is fr L K:=by rw [ops_op rfl];exact StepK_eq rfl
theorem g_vsn {d:Option Nat} {is:List IOper} {s:Nat} {want:Bool} {_x} {_h}:awpOps P E X (⟨d,.vsn _x _h,some (s,want)⟩ :: is) fr L K=GdK P E X true (Zh fr s want) (Zf fr L (.vsn _x _h)) d is fr L K:=ops_gd rfl
theorem o_mpl {d:Option Nat} {is:List IOper} {_o} {_z} {_x} {_h}:awpOps P E X (⟨d,.mpl _o _z _x _h,none⟩ :: is) fr L K=StepK P E X (Zf fr L (.mpl _o _z _x _h)) d is fr L K:=by rw [ops_op rfl];exact StepK_eq rfl
theorem g_mpl {d:Option Nat} {is:List IOper} {s:Nat} {want:Bool} {_o} {_z} {_x} {_h}:awpOps P E X (⟨d,.mpl _o _z _x _h,some (s,want)⟩ :: is) fr L K=GdK P E X true (Zh fr s want) (Zf fr L (.mpl _o _z _x _h)) d is fr L K:=ops_gd rfl
theorem o_mpn {d:Option Nat} {is:List IOper} {_x}:awpOps P E X (⟨d,.mpn _x,none⟩ :: is) fr L K=StepK P E X (Zf fr L (.mpn _x)) d is fr L K:=by rw [ops_op rfl];exact StepK_eq rfl
theorem g_mpn {d:Option Nat} {is:List IOper} {s:Nat} {want:Bool} {_x}:awpOps P E X (⟨d,.mpn _x,some (s,want)⟩ :: is) fr L K=GdK P E X true (Zh fr s want) (Zf fr L (.mpn _x)) d is fr L K:=ops_gd rfl
theorem o_bldg {d:Option Nat} {is:List IOper} {_z} {_p}:awpOps P E X (⟨d,.bldg _z _p,none⟩ :: is) fr L K=StepK P E X (Zf fr L (.bldg _z _p)) d is fr L K:=by rw [ops_op rfl];exact StepK_eq rfl
theorem g_bldg {d:Option Nat} {is:List IOper} {s:Nat} {want:Bool} {_z} {_p}:awpOps P E X (⟨d,.bldg _z _p,some (s,want)⟩ :: is) fr L K=GdK P E X true (Zh fr s want) (Zf fr L (.bldg _z _p)) d is fr L K:=ops_gd rfl
theorem o_ldg {d:Option Nat} {is:List IOper} {_s} {_x}:awpOps P E X (⟨d,.ldg _s _x,none⟩ :: is) fr L K=StepK P E X (Zf fr L (.ldg _s _x)) d is fr L K:=by rw [ops_op rfl];exact StepK_eq rfl
theorem g_ldg {d:Option Nat} {is:List IOper} {s:Nat} {want:Bool} {_s} {_x}:awpOps P E X (⟨d,.ldg _s _x,some (s,want)⟩ :: is) fr L K=GdK P E X true (Zh fr s want) (Zf fr L (.ldg _s _x)) d is fr L K:=ops_gd rfl
theorem o_stg {d:Option Nat} {is:List IOper} {_s} {_p} {_x}:awpOps P E X (⟨d,.stg _s _p _x,none⟩ :: is) fr L K=OpsK P E X (Ze d fr L (.stg _s _p _x)) is K:=ops_op rfl
theorem o_alcd {d:Option Nat} {is:List IOper} {_t} {_z}:awpOps P E X (⟨d,.alcd _t _z,none⟩ :: is) fr L K=OpsK P E X (Ze d fr L (.alcd _t _z)) is K:=ops_op rfl
theorem o_bsrd {d:Option Nat} {is:List IOper} {_e} {_z} {_p}:awpOps P E X (⟨d,.bsrd _e _z _p,none⟩ :: is) fr L K=OpsK P E X (Ze d fr L (.bsrd _e _z _p)) is K:=ops_op rfl
def IsnK (P:Program) (E:Envt) (X:List PV) (c:Prop) (q:Option (Nat×List (List PV))) (d:Option Nat) (is:List IOper) (fr:List AV) (L:Objs) (K:List AV→Objs→Prop):Prop:=
 match q with
 |some (_,es)=>c∧∀ b:Bool,(b=true→es=[])→awpOps P E X is (Zg fr d (.p (.bool b))) L K
 |none=>False
theorem IsnK_some {c:Prop} {z:Nat} {es:List (List PV)} {d:Option Nat} {is:List IOper}:IsnK P E X c (some (z,es)) d is fr L K=(c∧∀ b:Bool,(b=true→es=[])→awpOps P E X is (Zg fr d (.p (.bool b))) L K):=rfl
theorem ops_isn {x:Opd} {d:Option Nat} {is:List IOper}:awpOps P E X (⟨d,.isn x,none⟩ :: is) fr L K=IsnK P E X (rd fr x).un.1 (Zw L (rd fr x).un.2) d is fr L K:=rfl
def NxtK (P:Program) (E:Envt) (X:List PV) (c:Prop) (q:Option (Key×List (List UInt8×PV))) (d:Option Nat) (is:List IOper) (fr:List AV) (L:Objs) (K:List AV→Objs→Prop):Prop:=
 match q with
 |some (k,kv)=>c∧(kv=[]→awpOps P E X is (Zg fr d (.p (.tup [.bool false]))) L K)∧∀ (i:Nat) (p:List UInt8×PV),kv[i]?=some p→awpOps P E X is (Zg fr d (.p (.tup [.bool true,.str p.1,p.2]))) (Zat L k (.mit (some p) (kv.eraseIdx i))) K
 |none=>False
theorem ops_nxt {x:Opd} {d:Option Nat} {is:List IOper}:awpOps P E X (⟨d,.nxt x,none⟩ :: is) fr L K=NxtK P E X (rd fr x).un.1 (Za fr L x) d is fr L K:=rfl
def ReC (P:Program) (E:Envt) (X:List PV) (is:List IOper) (fr:List AV) (L:Objs) (K:List AV→Objs→Prop):Prop:=∃ fr' L',ReOk E fr L fr' L'∧awpOps P E X is fr' L' K
theorem ops_re {is:List IOper}:awpOps P E X (⟨none,.re,none⟩ :: is) fr L K=ReC P E X is fr L K:=rfl
theorem ops_hole {x:Nat} {is:List IOper}:awpOps P E X (⟨none,.hole x,none⟩ :: is) fr L K=awpOps P E X is (fr.map (·.kill (.l x))) (Zav L (.l x) Zan) K:=rfl
theorem o_mkm {d:Option Nat} {is:List IOper} {_t} {_z}:awpOps P E X (⟨d,.mkm _t _z,none⟩ :: is) fr L K=OpsK P E X (Ze d fr L (.mkm _t _z)) is K:=ops_op rfl
theorem o_rng {d:Option Nat} {is:List IOper} {_x}:awpOps P E X (⟨d,.rng _x,none⟩ :: is) fr L K=OpsK P E X (Ze d fr L (.rng _x)) is K:=ops_op rfl
theorem o_ent {d:Option Nat} {is:List IOper} {_x}:awpOps P E X (⟨d,.ent _x,none⟩ :: is) fr L K=OpsK P E X (Ze d fr L (.ent _x)) is K:=ops_op rfl
theorem o_mpd {d:Option Nat} {is:List IOper} {_m} {_k}:awpOps P E X (⟨d,.mpd _m _k,none⟩ :: is) fr L K=OpsK P E X (Ze d fr L (.mpd _m _k)) is K:=ops_op rfl
theorem o_cpy {d:Option Nat} {is:List IOper} {_z} {_x} {_y}:awpOps P E X (⟨d,.cpy _z _x _y,none⟩ :: is) fr L K=OpsK P E X (Ze d fr L (.cpy _z _x _y)) is K:=ops_op rfl
theorem o_mpu {d:Option Nat} {is:List IOper} {_m} {_k} {_v}:awpOps P E X (⟨d,.mpu _m _k _v,none⟩ :: is) fr L K=OpsK P E X (Ze d fr L (.mpu _m _k _v)) is K:=ops_op rfl
theorem o_apz {d:Option Nat} {is:List IOper} {_e} {_z} {_b} {_o} {_x} {_y}:awpOps P E X (⟨d,.apz _e _z _b _o _x _y,none⟩ :: is) fr L K=OpsK P E X (Ze d fr L (.apz _e _z _b _o _x _y)) is K:=ops_op rfl
theorem o_trn {d:Option Nat} {is:List IOper} {_z} {_x} {_y}:awpOps P E X (⟨d,.trn _z _x _y,none⟩ :: is) fr L K=OpsK P E X (Ze d fr L (.trn _z _x _y)) is K:=ops_op rfl
theorem o_mks {d:Option Nat} {is:List IOper} {_e} {_z} {_b} {_o} {_x} {_y}:awpOps P E X (⟨d,.mks _e _z _b _o _x _y,none⟩ :: is) fr L K=OpsK P E X (Ze d fr L (.mks _e _z _b _o _x _y)) is K:=ops_op rfl
theorem o_nilr {d:Option Nat} {is:List IOper} {_e} {_z}:awpOps P E X (⟨d,.nilr _e _z,none⟩ :: is) fr L K=OpsK P E X (Ze d fr L (.nilr _e _z)) is K:=ops_op rfl
theorem o_alc {d:Option Nat} {is:List IOper} {_t} {_z}:awpOps P E X (⟨d,.alc _t _z,none⟩ :: is) fr L K=OpsK P E X (Ze d fr L (.alc _t _z)) is K:=ops_op rfl
theorem o_box {d:Option Nat} {is:List IOper} {_t} {_x}:awpOps P E X (⟨d,.box _t _x,none⟩ :: is) fr L K=OpsK P E X (Ze d fr L (.box _t _x)) is K:=ops_op rfl
theorem o_st {d:Option Nat} {is:List IOper} {_s} {_p} {_x}:awpOps P E X (⟨d,.st _s _p _x,none⟩ :: is) fr L K=OpsK P E X (Ze d fr L (.st _s _p _x)) is K:=ops_op rfl
theorem o_app {d:Option Nat} {is:List IOper} {_e} {_z} {_b} {_x} {_y}:awpOps P E X (⟨d,.app _e _z _b _x _y,none⟩ :: is) fr L K=OpsK P E X (Ze d fr L (.app _e _z _b _x _y)) is K:=ops_op rfl
theorem o_bsr {d:Option Nat} {is:List IOper} {_e} {_z} {_p}:awpOps P E X (⟨d,.bsr _e _z _p,none⟩ :: is) fr L K=OpsK P E X (Ze d fr L (.bsr _e _z _p)) is K:=ops_op rfl
theorem o_s2b {d:Option Nat} {is:List IOper} {_e} {_x}:awpOps P E X (⟨d,.s2b _e _x,none⟩ :: is) fr L K=OpsK P E X (Ze d fr L (.s2b _e _x)) is K:=ops_op rfl
theorem ops_call {d:Option Nat} {f:FuncId} {args:List Opd} {is:List IOper}:awpOps P E X (⟨d,.call f args,none⟩ :: is) fr L K=(Zm fr args∧CallOp P E f (Zn fr args) L d fr (contO P E X is K)):=rfl
def FnK (P:Program) (E:Envt) (X:List PV) (o:Option (FuncId×List AV)) (c:Prop) (d:Option Nat) (args:List Opd) (is:List IOper) (fr:List AV) (L:Objs) (K:List AV→Objs→Prop):Prop:=
 match o with
 |some (f,ks)=>c∧fnB P f=true∧Zl L ks=true∧Zm fr args∧CallOp P E f (Zn fr args++ks) L d fr (contO P E X is K)
 |none=>False
theorem FnK_some {f:FuncId} {ks:List AV} {c:Prop} {d:Option Nat} {args:List Opd} {is:List IOper}:FnK P E X (some (f,ks)) c d args is fr L K=(c∧fnB P f=true∧Zl L ks=true∧Zm fr args∧CallOp P E f (Zn fr args++ks) L d fr (contO P E X is K)):=rfl
theorem ops_callv {d:Option Nat} {g:Opd} {args:List Opd} {is:List IOper}:awpOps P E X (⟨d,.callv g args,none⟩ :: is) fr L K=FnK P E X (Zar fr g) (rd fr g).un.1 d args is fr L K:=by
 cases h:Zar fr g with
 |none=>simp only [awpOps,FnK,h]
 |some q=>obtain ⟨f,ks⟩:=q;simp only [awpOps,FnK,h];rfl
def FnG (P:Program) (E:Envt) (X:List PV) (o:Option (FuncId×List AV)) (c0:Bool) (c:Prop) (d:Option Nat) (args:List Opd) (is:List IOper) (fr:List AV) (L:Objs) (K:List AV→Objs→Prop):Prop:=
 match o with
 |some (f,ks)=>(fnB P f=true∧Zl L ks=true)∧(c0=true→c∧Zm fr args)∧CallG c0 P E f (Zn fr args++ks) L d fr (contO P E X is K)
 |none=>c0=false∧awpOps P E X is (Zg fr d (.g c0 .any)) L K
theorem FnG_some {f:FuncId} {ks:List AV} {c0:Bool} {c:Prop} {d:Option Nat} {args:List Opd} {is:List IOper}:FnG P E X (some (f,ks)) c0 c d args is fr L K=((fnB P f=true∧Zl L ks=true)∧(c0=true→c∧Zm fr args)∧CallG c0 P E f (Zn fr args++ks) L d fr (contO P E X is K)):=rfl
theorem ops_callvg {d:Option Nat} {g:Opd} {args:List Opd} {is:List IOper} {s:Nat} {want:Bool}:awpOps P E X (⟨d,.callv g args,some (s,want)⟩ :: is) fr L K=(match Zh fr s want with|some c0=>FnG P E X (Zar fr g) c0 (rd fr g).un.1 d args is fr L K|none=>False):=by
 simp only [awpOps]
 cases Zh fr s want with
 |none=>rfl
 |some c0=>cases h:Zar fr g with
  |none=>rfl
  |some q=>obtain ⟨f,ks⟩:=q;rfl
theorem ops_dcall {b:Bool} {d:Option Nat} {f:FuncId} {args:List Opd} {is:List IOper}:awpOps P E X (⟨d,.dcall b f args,none⟩ :: is) fr L K=(Zm fr args∧DCallOp b P E f (Zn fr args) L d fr (contO P E X is K)):=rfl
def PcK (P:Program) (E:Envt) (f:FuncId) (as:List AV) (L:Objs) (x:PV):Prop:=PureC P E f as L (·=x)
def FclK (P:Program) (E:Envt) (X:List PV) (f:FuncId) (e z:Nat) (K:List AV→Objs→Prop) (is:List IOper) (fr:List AV) (L:Objs) (d:Nat) (c:Prop):Option (List PV)→PV→Prop
 |some ps,.sl z' es=>((Zam d fr L∧Zas L (.l d)=some Zan)∧c∧z'=z∧FrC P E f ps e z es)∧awpOps P E X is (fr.set d (.row (.l d))) (Zat L (.l d) (.row es e z true)) K
 |_,_=>False
theorem ops_fcl {d:Nat} {n:Nat} {f:FuncId} {args:List Opd} {e z:Nat} {is:List IOper}:awpOps P E X (⟨some d,.fcl n f args e z,none⟩ :: is) fr L K=FclK P E X f e z K is fr L d (Zm fr args) (argP0 (Zn fr args)) (X.getD n (.bool false)):=by
 simp only [awpOps]
 unfold FclK
 cases argP0 (Zn fr args) with
 |none=>rfl
 |some ps=>cases X.getD n (.bool false)<;>rfl
theorem argP0_nil:argP0 []=some []:=rfl
theorem argP0_p {x:PV} {r:List AV}:argP0 (.p x :: r)=(argP0 r).map (x :: ·):=rfl
theorem FclK_some {f:FuncId} {e z z':Nat} {is:List IOper} {d:Nat} {c:Prop} {ps:List PV} {es:List (List PV)}:FclK P E X f e z K is fr L d c (some ps) (.sl z' es)=(((Zam d fr L∧Zas L (.l d)=some Zan)∧c∧z'=z∧FrC P E f ps e z es)∧awpOps P E X is (fr.set d (.row (.l d))) (Zat L (.l d) (.row es e z true)) K):=rfl
theorem ops_pcall {d:Option Nat} {n:Nat} {f:FuncId} {args:List Opd} {is:List IOper}:awpOps P E X (⟨d,.pcall n f args,none⟩ :: is) fr L K=((Zm fr args∧PcK P E f (Zn fr args) L (X.getD n (.bool false)))∧awpOps P E X is (Zg fr d (.p (X.getD n (.bool false)))) L K):=rfl
theorem ops_pcallg {d:Option Nat} {n:Nat} {f:FuncId} {args:List Opd} {is:List IOper} {s:Nat} {want:Bool}:awpOps P E X (⟨d,.pcall n f args,some (s,want)⟩ :: is) fr L K=(match Zh fr s want with|some c0=>(c0=true→Zm fr args∧PcK P E f (Zn fr args) L (X.getD n (.bool false)))∧awpOps P E X is (Zg fr d (.g c0 (.p (X.getD n (.bool false))))) L K|none=>False):=rfl
def PvK (P:Program) (E:Envt) (X:List PV) (o:Option (FuncId×List AV)) (c:Prop) (n:Nat) (d:Option Nat) (args:List Opd) (is:List IOper) (fr:List AV) (L:Objs) (K:List AV→Objs→Prop):Prop:=
 match o with
 |some (f,ks)=>(c∧fnB P f=true∧Zl L ks=true∧Zm fr args∧PcK P E f (Zn fr args++ks) L (X.getD n (.bool false)))∧awpOps P E X is (Zg fr d (.p (X.getD n (.bool false)))) L K
 |none=>False
theorem ops_pvks {f:FuncId} {ks:List AV} {c:Prop} {n:Nat} {d:Option Nat} {args:List Opd} {is:List IOper}:PvK P E X (some (f,ks)) c n d args is fr L K=((c∧fnB P f=true∧Zl L ks=true∧Zm fr args∧PcK P E f (Zn fr args++ks) L (X.getD n (.bool false)))∧awpOps P E X is (Zg fr d (.p (X.getD n (.bool false)))) L K):=rfl
theorem ops_pcv {d:Option Nat} {n:Nat} {g:Opd} {args:List Opd} {is:List IOper}:awpOps P E X (⟨d,.pcv n g args,none⟩ :: is) fr L K=PvK P E X (Zar fr g) (rd fr g).un.1 n d args is fr L K:=by
 cases h:Zar fr g with
 |none=>simp only [awpOps,PvK,h]
 |some q=>obtain ⟨f,ks⟩:=q;simp only [awpOps,PvK,h];rfl
theorem ops_callg {d:Option Nat} {f:FuncId} {args:List Opd} {is:List IOper} {s:Nat} {want:Bool}:awpOps P E X (⟨d,.call f args,some (s,want)⟩ :: is) fr L K=(match Zh fr s want with|some c0=>(c0=true→Zm fr args)∧CallG c0 P E f (Zn fr args) L d fr (contO P E X is K)|none=>False):=rfl
def FzK (P:Program) (E:Envt) (X:List PV) (q:Option (Key×PV)) (is:List IOper) (fr:List AV) (L:Objs) (K:List AV→Objs→Prop):Prop:=
 match q with
 |some (k,y)=>awpOps P E X is (fr.map (·.thaw k y)) (Zaw k y L) K
 |none=>awpOps P E X is fr L K
theorem FzK_some {k:Key} {y:PV} {is:List IOper}:FzK P E X (some (k,y)) is fr L K=awpOps P E X is (fr.map (·.thaw k y)) (Zaw k y L) K:=rfl
theorem FzK_none {is:List IOper}:FzK P E X none is fr L K=awpOps P E X is fr L K:=rfl
theorem ops_fz {x:Opd} {is:List IOper}:awpOps P E X (⟨none,.fz x,none⟩ :: is) fr L K=FzK P E X (Zaq fr L x) is fr L K:=rfl
def Zj (L:Objs) (k:Key):Option (List PV):=
 match Zas L k with
 |some (.box cs _)=>Zx cs
 |_=>none
def Zk (L:Objs):List Key→Option (List PV)
 |[]=>some []
 |k :: r=>match Zj L k,Zk L r with
  |some cs,some l=>some (.ptr cs :: l)
  |_,_=>none
def Zbi (L:Objs):AV→Option PV
 |.p x=>some (wk x)
 |.row k=>match Zas L k with
  |some (.row es _ z _)=>some (.sl z es)
  |_=>none
 |.mp k=>match Zas L k with
  |some (.map kv _ _)=>some (.mpv (kv.map (·.1)) (kv.map (·.2)))
  |_=>none
 |.fn f ks=>(Zk L ks).map (.clo f)
 |.adr k o=>if o=0 then (Zj L k).map .ptr else none
 |_=>none
def Zbh (L:Objs):List AV→Option (List PV)
 |[]=>some []
 |x :: r=>match Zbi L x,Zbh L r with
  |some y,some l=>some (y :: l)
  |_,_=>none
def Zbj:List AV→Bool
 |[]=>true
 |.row _ :: _=>false
 |.mp _ :: _=>false
 |.adr _ _ :: _=>false
 |.fn _ ks :: r=>ks.isEmpty && Zbj r
 |_ :: r=>Zbj r
def Zbk:PV→Bool
 |.int ..|.bool ..|.str ..=>true
 |.agg cs=>cs.all fun|.int ..|.bool ..|.str ..=>true|_=>false
 |.tup cs=>cs.all fun|.int ..|.bool ..|.str ..=>true|_=>false
 |_=>false
theorem bool_beq_true (b:Bool):(b == true)=b:=by cases b<;>rfl
theorem bool_beq_false (b:Bool):(b == false)=!b:=by cases b<;>rfl
theorem PRep.flat {w:World} {U U':Nat→Prop} {x:PV} {v:Value} (hf:Zbk x=true) (h:PRep w U x v):PRep w U' x v:=by
 have one:∀ (y:PV) (u:Value),(match y with|.int ..|.bool ..|.str ..=>true|_=>false)=true→PRep w U y u→PRep w U' y u:=by
  intro y u hy hr
  cases y<;>simp_all [PRep]
 have lst:∀ (cs:List PV) (vs:List Value),(cs.all fun|.int ..|.bool ..|.str ..=>true|_=>false)=true→PRepL w U cs vs→PRepL w U' cs vs:=by
  intro cs
  induction cs with
  |nil=>intro vs _ h;exact h
  |cons c cs ih=>
   intro vs hc hr
   simp only [List.all_cons,Bool.and_eq_true] at hc
   simp only [PRepL] at hr ⊢
   obtain ⟨v,r,rfl,h1,h2⟩:=hr
   exact ⟨v,r,rfl,one c v hc.1 h1,ih r hc.2 h2⟩
 cases x with
 |agg cs=>simp only [Zbk] at hf;simp only [PRep] at h ⊢;obtain ⟨vs,e,hl⟩:=h;exact ⟨vs,e,lst cs vs hf hl⟩
 |tup cs=>simp only [Zbk] at hf;simp only [PRep] at h ⊢;obtain ⟨vs,e,hl⟩:=h;exact ⟨vs,e,lst cs vs hf hl⟩
 |int k n=>exact h
 |bool b=>exact h
 |str s=>exact h
 |raw v=>simp [Zbk] at hf
 |nl z=>simp [Zbk] at hf
 |sl z es=>simp [Zbk] at hf
 |ptr cs=>simp [Zbk] at hf
 |clo f ps=>simp [Zbk] at hf
 |mpv ks vs=>simp [Zbk] at hf
theorem fn_raw {w:World} {U U':Nat→Prop} {ι:Key→Value} {f:FuncId} {v:Value} (h:ARep w U ι (.fn f []) v):PRep w U' (.clo f []) v:=by
 exact ⟨[],by simpa [ARep] using h,by simp [PRepL]⟩
theorem allP_map {as:List AV} {l:List PV} (h:Zx as=some l):as=l.map .p:=by
 induction as generalizing l with
 |nil=>simp only [Zx,Option.some.injEq] at h;subst h;rfl
 |cons q as ih=>
  cases q with
  |p x=>
   simp only [Zx,Option.map_eq_some_iff] at h
   obtain ⟨m,h1,rfl⟩:=h
   rw [ih h1]
   rfl
  |_=>simp [Zx] at h
theorem boxP_rep {w:World} {B:Nat→Prop} {ι:Key→Value} (hs:Sim w B L ι) (hX:∀ b,B b→¬ Own L ι b) {k:Key} {cs:List PV} (h:Zj L k=some cs):PRep w B (.ptr cs) (ι k):=by
 have hk:=keeps_x w L ι B
 unfold Zj at h
 split at h
 ·rename_i as t hl
  have e:=allP_map h
  subst e
  obtain ⟨b,vs,e1,e2,e3,e4,e5⟩:=hs.obj k _ hl
  have hO:Own L ι b:=⟨k,_,hl,by rw [e1];rfl⟩
  have hr:PRepL w (fun b=>Own L ι b∨B b) cs vs:=PRepL.of_get (by simpa using e3) (fun j x u hx hu=>by
   obtain ⟨u',hu',hr'⟩:=e5 j (.p x) (by rw [List.getElem?_map,hx];rfl)
   rw [hu'] at hu
   cases hu
   exact hr')
  refine ⟨b,e1,sim_own_lt hs hO,fun hb=>hX b hb hO,PRepC.of (PRepL.mono hk _ _ hr) e4 (fun j v hv=>?_)⟩
  rw [Nat.zero_add,cell_of_row w b j _ t (0,0) e2]
  simpa using hv
 ·cases h
theorem capPs_rep {w:World} {B:Nat→Prop} {ι:Key→Value} (hs:Sim w B L ι) (hX:∀ b,B b→¬ Own L ι b):∀ {ks:List Key} {ps:List PV},Zk L ks=some ps→PRepL w B ps (ks.map ι):=by
 intro ks
 induction ks with
 |nil=>intro ps h;simp only [Zk,Option.some.injEq] at h;subst h;simp [PRepL]
 |cons k ks ih=>
  intro ps h
  simp only [Zk] at h
  split at h
  ·rename_i cs l e1 e2
   cases h
   exact ⟨_,_,rfl,boxP_rep hs hX e1,ih e2⟩
  ·cases h
theorem argPs_norow {w:World} {U:Nat→Prop} {ι:Key→Value}:∀ {as:List AV} {ps:List PV} {vs:List Value},Zbj as=true→Zbh L as=some ps→ARepL w U ι as vs→PRepL w U ps vs:=by
 intro as
 induction as with
 |nil=>intro ps vs _ h hr;simp only [Zbh,Option.some.injEq] at h;subst h;exact hr
 |cons a as ih=>
  intro ps vs hn h hr
  simp only [Zbh] at h
  split at h
  ·rename_i y l e1 e2
   cases h
   simp only [ARepL] at hr
   obtain ⟨v,r,rfl,h1,h2⟩:=hr
   simp only [PRepL]
   cases a with
   |p x=>simp only [Zbi,Option.some.injEq] at e1;subst e1;exact ⟨v,r,rfl,PRep.wk h1,ih (by simpa [Zbj] using hn) e2 h2⟩
   |row k=>simp [Zbj] at hn
   |mp k=>simp [Zbj] at hn
   |adr k o=>simp [Zbj] at hn
   |fn f ks=>
    cases ks with
    |nil=>simp only [Zbi,Zk,Option.map_some,Option.some.injEq] at e1;subst e1;exact ⟨v,r,rfl,fn_raw h1,ih (by simpa [Zbj] using hn) e2 h2⟩
    |cons k ks=>simp [Zbj] at hn
   |_=>simp [Zbi] at e1
  ·cases h
theorem argPs_rows {w:World} {B:Nat→Prop} {ι:Key→Value} (hs:Sim w B L ι) (hX:∀ b,B b→¬ Own L ι b):∀ {as:List AV} {ps:List PV} {vs:List Value},Zbh L as=some ps→ARepL w (fun b=>Own L ι b∨B b) ι as vs→PRepL w B ps vs:=by
 have hk:=keeps_x w L ι B
 intro as
 induction as with
 |nil=>intro ps vs h hr;simp only [Zbh,Option.some.injEq] at h;subst h;exact hr
 |cons a as ih=>
  intro ps vs h hr
  simp only [Zbh] at h
  split at h
  ·rename_i y l e1 e2
   cases h
   simp only [ARepL] at hr
   obtain ⟨v,r,rfl,h1,h2⟩:=hr
   simp only [PRepL]
   refine ⟨v,r,rfl,?_,ih e2 h2⟩
   cases a with
   |p x=>simp only [Zbi,Option.some.injEq] at e1;subst e1;exact (PRep.mono hk _ _ h1).wk
   |row k=>
    simp only [Zbi] at e1
    split at e1
    ·rename_i es e' z ap hl
     cases e1
     obtain ⟨vs',hrow,e4,e5,e6⟩:=hs.obj k _ hl
     rcases hrow.2 with ⟨g1,g2⟩|⟨g,cap,cur,fz,g1,_,g3,_⟩
     ·rw [h1.1,g1]
      exact ⟨none,0,by rw [g2],by omega,fun hne=>absurd (List.eq_nil_of_length_eq_zero g2) hne⟩
     ·rw [h1.1,g1]
      have hE:=row_cells hs hl g1
      have hO:Own L ι g:=⟨k,_,hl,by rw [g1];rfl⟩
      refine ⟨_,cap,rfl,g3,fun _=>⟨g,0,rfl,sim_own_lt hs hO,fun hx=>hX g hx hO,?_⟩⟩
      have key:∀ (es':List (List PV)) (off:Nat),PRepE w (fun b=>Own L ι b∨B b) g z off es'→PRepE w B g z off es':=by
       intro es'
       induction es' with
       |nil=>intro off _;simp [PRepE]
       |cons x r ih=>
        intro off hh
        simp only [PRepE] at hh ⊢
        refine ⟨hh.1,?_,ih _ hh.2.2⟩
        obtain ⟨us,a1,a2,a3⟩:=hh.2.1.vals
        exact PRepC.of (PRepL.mono hk _ _ a1) a2 a3
      exact key es 0 hE
    ·cases e1
   |mp k=>
    simp only [Zbi] at e1
    split at e1
    ·rename_i kv kt et hl
     cases e1
     obtain ⟨r,ents,cl,q1,q2,q3,q4⟩:=hs.obj k _ hl
     have hO:Own L ι r:=⟨k,_,hl,by rw [q1];rfl⟩
     rw [h1.1,q1]
     exact ⟨r,rfl,sim_own_lt hs hO,fun hx=>hX r hx hO,ents,cl,q2,⟨by rw [q3.1,List.map_map];rfl,q4⟩,PRepL.mono hk _ _ q3.2⟩
    ·cases e1
   |fn f ks=>
    simp only [Zbi,Option.map_eq_some_iff] at e1
    obtain ⟨ps',h3,rfl⟩:=e1
    exact ⟨ks.map ι,h1,capPs_rep hs hX h3⟩
   |adr k o=>
    simp only [Zbi] at e1
    split at e1
    ·rename_i ho
     subst ho
     simp only [Option.map_eq_some_iff] at e1
     obtain ⟨cs,h3,rfl⟩:=e1
     obtain ⟨b,e4,e5⟩:=h1
     rw [e5,← e4]
     exact boxP_rep hs hX h3
    ·cases e1
   |_=>simp [Zbi] at e1
  ·cases h
theorem pure_of {f:FuncId} {as:List AV} {ps:List PV} {φ:PV→Prop} (h:PCall P E f ps φ) (ha:Zbh L as=some ps) (hn:Zbj as=true∨∀ x,φ x→Zbk x=true):PureC P E f as L φ:=by
 intro w X ι vs hs hX hE hEb hA
 rcases hn with hn|hn
 ·exact h w (fun b=>Own L ι b∨X b) vs (fun b hb=>hb.elim (fun h=>sim_own_lt hs h) (fun h=>(hX b h).1)) hE (fun b hb=>(hEb b hb).1) (argPs_norow hn ha hA)
 ·refine (h w X vs (fun b hb=>(hX b hb).1) hE (fun b hb=>(hEb b hb).1) (argPs_rows hs (fun b hb=>(hX b hb).2) ha hA)).mono ?_
  rintro e w' ⟨v,x,rfl,hx,hr,hG⟩
  exact ⟨v,x,rfl,hx,hr.flat (hn x hx),hG⟩
theorem use {f:FuncId} {as:List AV} {ps:List PV} {φ:PV→Prop} {d:Option Nat} {is:List IOper} (h:PCall P E f ps φ) (ha:Zbh L as=some ps) (hn:Zbj as=true∨∀ x,φ x→Zbk x=true) (hk:∀ x,φ x→awpOps P E X is (Zg fr d (.p x)) L K):CallOp P E f as L d fr (contO P E X is K):=
 .inl ⟨φ,pure_of h ha hn,hk⟩
theorem use1 {f:FuncId} {as:List AV} {ps:List PV} {r:PV} {d:Option Nat} {is:List IOper} (h:PCall P E f ps (·=r)) (ha:Zbh L as=some ps) (hn:Zbj as=true∨Zbk r=true) (hk:awpOps P E X is (Zg fr d (.p r)) L K):CallOp P E f as L d fr (contO P E X is K):=
 .inl ⟨(·=r),pure_of h ha (hn.imp id (fun h x e=>by rw [e];exact h)),fun x e=>by rw [e];exact hk⟩
theorem useG {c0:Bool} {f:FuncId} {as:List AV} {ps:List PV} {r:PV} {d:Option Nat} {is:List IOper} (h:c0=true→PCall P E f ps (·=r)) (ha:Zbh L as=some ps) (hn:Zbj as=true∨Zbk r=true) (hk:awpOps P E X is (Zg fr d (.g c0 (.p r))) L K):CallG c0 P E f as L d fr (contO P E X is K):=
 .inl ⟨r,fun hc=>pure_of (h hc) ha (hn.imp id fun h x e=>by rw [e];exact h),hk⟩
theorem usep {f:FuncId} {as:List AV} {ps:List PV} {r:PV} (h:PCall P E f ps (·=r)) (ha:Zbh L as=some ps) (hn:Zbj as=true∨Zbk r=true):PcK P E f as L r:=
 pure_of h ha (hn.imp id (fun h x e=>by rw [e];exact h))
end
def GCall (P:Program) (E:Envt) (f:FuncId) (bx:Option OS) (args:List PV) (post:RV→OS→Prop):Prop:=
 ∀ (w:World) (U:Nat→Prop) (vs:List Value) (v0:Value),(∀ c,U c→c < w.heap.size)→E.ok w→(∀ c,E.bl c→c < w.heap.size∧(bx.isSome=true→blk v0≠some c))→PRepL w U args vs→
  (match bx with|none=>True|some os=>(∀ c,blk v0=some c→U c)∧ObjAt w U v0 os)→
  Calls P f ((match bx with|none=>vs|some _=>v0 :: vs)).toArray w fun e w'=>∃ v r os',e=.returned v∧post r os'∧RVok w' U w.heap.size r v∧
   (match bx with
    |none=>Grow w w' (fun _=>False)
    |some _=>Grow w w' (fun c=>blk v0=some c)∧ObjAt w' (fun c=>U c∨r.own v c) v0 os')
def noOS:OS:=.box 0 []
def finP (bx:Option OS) (post:RV→OS→Prop) (x:PV) (L:Objs):Prop:=
 match bx with
 |none=>post (.p x) noOS
 |some _=>∃ os',Zas L (.b 0)=some os'.ao∧post (.p x) os'
def finF (bx:Option OS) (post:RV→OS→Prop) (i:Nat) (fr:List AV) (L:Objs):Prop:=
 (∃ j es e z,fr.getD i .any=.row (.l j)∧Zas L (.l j)=some (.row es e z true)∧
  match bx with
  |none=>post (.fr es e z) noOS
  |some _=>∃ os',Zas L (.b 0)=some os'.ao∧post (.fr es e z) os')∨
 ∃ e z z0,fr.getD i .any=.p (.nl z0)∧
  match bx with
  |none=>post (.fr [] e z) noOS
  |some _=>∃ os',Zas L (.b 0)=some os'.ao∧post (.fr [] e z) os'
def retF (i:Nat) (bx:Option OS) (post:RV→OS→Prop):AQ
 |.normal,fr,L=>finF bx post i fr L
 |.ret,fr,L=>finF bx post i fr L
 |_,_,_=>False
theorem retF_r {i:Nat} {bx:Option OS} {post:RV→OS→Prop} {fr:List AV} {L:Objs}:retF i bx post .ret fr L=finF bx post i fr L:=rfl
theorem retF_n {i:Nat} {bx:Option OS} {post:RV→OS→Prop} {fr:List AV} {L:Objs}:retF i bx post .normal fr L=finF bx post i fr L:=rfl
def l0 (bx:Option OS):Objs:=
 match bx with
 |none=>[]
 |some os=>[(.b 0,os.ao)]
def a0 (bx:Option OS) (args:List PV):List AV:=
 match bx with
 |none=>args.map .p
 |some (.box _ _)=>.adr (.b 0) 0 :: args.map .p
 |some (.row _ _ _)=>.row (.b 0) :: args.map .p
section
variable {P:Program} {E:Envt}
theorem gcall_of_awp (hm:P.follows .mixedOrders=true) {f:FuncId} {fn:Func} {c:Code} {ic:IC} {bx:Option OS} {args:List PV} {post:RV→OS→Prop} {Q:AQ} (hf:P.funcs[f]?=some fn) (hb:fn.body=some c) (hchk:chkC P okDraw ic c=true)
  (h:awp P E ic (a0 bx args++List.replicate (fn.ntmps - (a0 bx args).length) .any) (l0 bx) Q)
  (hQ:∀ (B:Base) (w':World) (L:Objs) (ι:Key→Value) (fr:List AV) (a:Act) (e:Exit),Q e fr L→StF E B w' L ι fr a→B.L0=l0 bx→(e=.normal∨e=.ret)∧∃ v r os',(results fn a.tmps).run P w'=.ok v w'∧post r os'∧RVok w' (ZB L ι B.X) B.w0.heap.size r v∧(bx.isSome=true→Zas L (.b 0)=some os'.ao)∧(∀ b,r.own v b→Own L ι b)):GCall P E f bx args post:=by
 intro w U vs v0 hU hE hEb hA hB
 refine calls_of_wp hf hb ?_
 let ι:Key→Value:=fun _=>v0
 let B:Base:={ w0:=w,X:=fun c=>U c∧(bx.isSome=true→blk v0≠some c),L0:=l0 bx,i0:=ι }
 have hlk:∀ k q,Zas (l0 bx) k=some q→k=.b 0∧∃ os,bx=some os∧q=os.ao:=by
  intro k q hq
  cases hbx:bx with
  |none=>rw [hbx] at hq;simp [l0,Zas] at hq
  |some os=>
   rw [hbx] at hq
   simp only [l0,Zas] at hq
   split at hq
   ·rename_i e;cases hq;exact ⟨e.symm,os,rfl,rfl⟩
   ·cases hq
 have hO:∀ c,Own (l0 bx) ι c→blk v0=some c∧bx.isSome=true:=by
  rintro c ⟨k,q,h1,h2⟩
  obtain ⟨_,os,e,_⟩:=hlk k q h1
  exact ⟨h2,by rw [e];rfl⟩
 have hUb:∀ c,(Own (l0 bx) ι c∨B.X c)→U c:=by
  rintro c (h'|h')
  ·obtain ⟨h1,hs⟩:=hO c h'
   cases hbx:bx with
   |none=>rw [hbx] at hs;cases hs
   |some p=>rw [hbx] at hB;exact hB.1 c h1
  ·exact h'.1
 have hkeep:Keeps w w U (fun c=>Own (l0 bx) ι c∨B.X c):=fun c _ hu=>⟨rfl,fun h=>hu (hUb c h)⟩
 have hsim:Sim w B.X (l0 bx) ι:=by
  constructor
  ·intro k q hq
   obtain ⟨rfl,os,e,rfl⟩:=hlk k q hq
   rw [e] at hB
   exact ObjAt.ok (hB.2.mono hkeep (fun _ _=>rfl))
  ·intro k k' q q' c h1 h2 _ _
   rw [(hlk k q h1).1,(hlk k' q' h2).1]
 have hst:St E B w (l0 bx) ι:=⟨Grow.refl _ _,hsim,fun c hc=>.inl hc,fun c hc=>hU c hc.1,fun k _ _=>rfl,hE,fun c hc=>⟨(hEb c hc).1,fun ho=>by obtain ⟨e1,e2⟩:=hO c ho;exact (hEb c hc).2 e2 e1⟩,(fun i=>by
  show Zas (l0 bx) (.l i)=none
  cases hq:Zas (l0 bx) (.l i) with
  |none=>rfl
  |some q=>have:=(hlk _ _ hq).1;cases this),(fun c hc ho=>by obtain ⟨e1,e2⟩:=hO c ho;exact hc.2 e2 e1)⟩
 have hlen:=hA.length
 have hfr:∀ as:List Value,ARepL w (fun c=>Own (l0 bx) ι c∨B.X c) ι (a0 bx args) as→StF E B w (l0 bx) ι (a0 bx args++List.replicate (fn.ntmps - (a0 bx args).length) .any) { tmps:=as.toArray++Array.replicate (fn.ntmps - as.toArray.size) undef,defers:=[] }:=by
  intro as has
  have hl:∀ (xs:List AV) (ys:List Value),ARepL w (fun c=>Own (l0 bx) ι c∨B.X c) ι xs ys→ys.length=xs.length∧∀ (i:Nat) (x:AV),xs[i]?=some x→∃ v,ys[i]?=some v∧ARep w (fun c=>Own (l0 bx) ι c∨B.X c) ι x v:=by
   intro xs
   induction xs with
   |nil=>intro ys h;simp only [ARepL] at h;subst h;simp
   |cons x xs ih=>
    intro ys h
    simp only [ARepL] at h
    obtain ⟨v,r,rfl,h1,h2⟩:=h
    obtain ⟨g1,g2⟩:=ih r h2
    refine ⟨by simp [g1],fun i y hy=>?_⟩
    cases i with
    |zero=>simp at hy;subst hy;exact ⟨v,rfl,h1⟩
    |succ i=>simp at hy;simpa using g2 i y hy
  obtain ⟨g1,g2⟩:=hl _ _ has
  refine ⟨hst,⟨by simp [g1],fun i x hx=>?_⟩,rfl⟩
  rw [List.getElem?_append] at hx
  split at hx
  ·rename_i hi
   obtain ⟨v,hv,hrep⟩:=g2 i x hx
   refine ⟨v,?_,hrep⟩
   rw [Array.getElem?_append_left (by simp;omega)]
   simpa using hv
  ·rename_i hi
   rw [List.getElem?_replicate] at hx
   split at hx
   ·rename_i hlt
    cases hx
    refine ⟨undef,?_,trivial⟩
    rw [Array.getElem?_append_right (by simp;omega)]
    simp only [List.size_toArray]
    rw [Array.getElem?_replicate,if_pos (by rw [g1];omega)]
   ·cases hx
 have hargs:ARepL w (fun c=>Own (l0 bx) ι c∨B.X c) ι (a0 bx args) (match bx with|none=>vs|some _=>v0 :: vs):=by
  have hp:∀ (xs:List PV) (ys:List Value),PRepL w U xs ys→ARepL w (fun c=>Own (l0 bx) ι c∨B.X c) ι (xs.map .p) ys:=by
   intro xs
   induction xs with
   |nil=>intro ys h;simp only [PRepL] at h;subst h;simp [ARepL]
   |cons x xs ih=>
    intro ys h
    simp only [PRepL] at h
    obtain ⟨v,r,rfl,h1,h2⟩:=h
    simp only [List.map_cons,ARepL]
    exact ⟨v,r,rfl,PRep.mono hkeep _ _ h1,ih r h2⟩
  have hpv:=hp args vs hA
  cases hbx:bx with
  |none=>rw [hbx] at hpv;exact hpv
  |some os=>
   rw [hbx] at hpv hB
   cases os with
   |box t cs=>
    obtain ⟨b,vs',e1,_⟩:=hB.2
    simp only [a0,ARepL]
    exact ⟨_,_,rfl,⟨b,e1,e1⟩,hpv⟩
   |row e z es=>
    obtain ⟨vs',h1,_⟩:=hB.2
    simp only [a0,ARepL]
    refine ⟨_,_,rfl,⟨rfl,?_⟩,hpv⟩
    rcases h1.2 with ⟨q1,_⟩|⟨g,cap,cur,fz,q1,_⟩
    ·exact ⟨none,0,0,q1⟩
    ·exact ⟨_,_,_,q1⟩
 refine wp_mono (awp_sound (drawOk hm) ic c _ _ _ hchk h B w ι _ (hfr _ hargs)) ?_
 rintro e a' w' ⟨fr',L',ι',q,hs'⟩
 obtain ⟨he,v,r,os',hv,hp,hr,hbox,hown⟩:=hQ B w' L' ι' fr' a' e q hs' rfl
 have hkey:bx.isSome=true→ι' (.b 0)=v0:=by
  intro e
  refine hs'.1.keep (.b 0) ?_ (by rw [hbox e];rfl)
  show (Zas (l0 bx) (.b 0)).isSome=true
  obtain ⟨os,e⟩:=Option.isSome_iff_exists.1 e
  rw [e];simp [l0,Zas]
 have hZ:∀ c,U c→ZB L' ι' B.X c:=by
  intro c hc
  by_cases hcb:bx.isSome=true∧blk v0=some c
  ·exact .inr ⟨0,_,hbox hcb.1,by rw [hkey hcb.1];exact hcb.2⟩
  ·exact .inl ⟨hc,fun h1 h2=>hcb ⟨h1,h2⟩⟩
 have hkz:Keeps w' w' (ZB L' ι' B.X) U:=fun c _ hz=>⟨rfl,fun hu=>hz (hZ c hu)⟩
 have hres:RVok w' U w.heap.size r v:=by
  cases r with
  |p x=>exact PRep.mono hkz _ _ hr
  |fr es e z=>
   obtain ⟨vs',r1,r2,r3,r4,r5⟩:=hr
   exact ⟨vs',r1,r2,PRepL.mono (fun c _ hz=>⟨rfl,fun hu=>hz (hu.imp (hZ c) id)⟩) _ _ r3,r4,r5⟩
 have hg:=hs'.1.grow
 have fin:∃ v_1 r os',Ending.returned v=.returned v_1∧post r os'∧RVok w' U w.heap.size r v_1∧(match bx with|none=>Grow w w' (fun _=>False)|some _=>Grow w w' (fun c=>blk v0=some c)∧ObjAt w' (fun c=>U c∨r.own v_1 c) v0 os'):=by
  refine ⟨v,r,os',rfl,hp,hres,?_⟩
  cases hbx:bx with
  |none=>exact ⟨hg.os,hg.tape,hg.output,hg.size,fun c hc _=>hg.block c hc (fun ho=>by have:=(hO c ho).2;rw [hbx] at this;cases this)⟩
  |some os=>
   have hbs:bx.isSome=true:=by rw [hbx];rfl
   refine ⟨⟨hg.os,hg.tape,hg.output,hg.size,fun c hc hn=>hg.block c hc (fun ho=>hn (hO c ho).1)⟩,?_⟩
   have hat:=ObjAt.of (hs'.1.sim.obj (.b 0) _ (hbox hbs))
   rw [hkey hbs] at hat
   refine hat.mono (fun c _ hz=>⟨rfl,fun hu=>hz ?_⟩) (fun _ _=>rfl)
   rcases hu with hu|hu
   ·rcases hZ c hu with h1|⟨i,q,h1,h2⟩
    ·exact .inr h1
    ·exact .inl ⟨_,q,h1,h2⟩
   ·exact .inl (hown c hu)
 rcases he with rfl|rfl
 ·exact ⟨hs'.2.2,v,hv,fin⟩
 ·exact ⟨hs'.2.2,v,hv,fin⟩
theorem gcallP (hm:P.follows .mixedOrders=true) {f:FuncId} {fn:Func} {ic:IC} {rs:List IRes} {n:Nat} {bx:Option OS} {args:List PV} {post:RV→OS→Prop} (hf:P.funcs[f]?=some fn) (hc:chkF P fn ic rs n=true)
  (h:awp P E ic (a0 bx args++List.replicate (n - (a0 bx args).length) .any) (l0 bx) (retQ rs (finP bx post))):GCall P E f bx args post:=by
 unfold chkF at hc
 split at hc
 ·rename_i c hb
  simp only [Bool.and_eq_true,beq_iff_eq] at hc
  obtain ⟨⟨h1,h2⟩,rfl⟩:=hc
  refine gcall_of_awp hm hf hb h1 h ?_
  intro B w' L ι fr a e q hs hb0
  have key:RetK (Zbd fr L rs) (finP bx post) L→∃ v r os',(results fn a.tmps).run P w'=.ok v w'∧post r os'∧RVok w' (ZB L ι B.X) B.w0.heap.size r v∧(bx.isSome=true→Zas L (.b 0)=some os'.ao)∧(∀ b,r.own v b→Own L ι b):=by
   intro q
   obtain ⟨l,e1,e2⟩:=RetK_ex q
   obtain ⟨v,hv,hr⟩:=results_ok hs h2 e1
   cases hbx:bx with
   |none=>rw [hbx] at e2;exact ⟨v,.p (mkRes l),noOS,hv,e2,hr,(fun h=>by cases h),fun _ h=>h.elim⟩
   |some p=>
    rw [hbx] at e2
    obtain ⟨cs',g1,g2⟩:=e2
    exact ⟨v,.p (mkRes l),cs',hv,g2,hr,(fun _=>g1),fun _ h=>h.elim⟩
  cases e with
  |normal=>exact ⟨.inl rfl,key q⟩
  |ret=>exact ⟨.inr rfl,key q⟩
  |_=>exact q.elim
 ·cases hc
theorem gcallR (hm:P.follows .mixedOrders=true) {f:FuncId} {fn:Func} {ic:IC} {i n:Nat} {bx:Option OS} {args:List PV} {post:RV→OS→Prop} (hf:P.funcs[f]?=some fn) (hc:chkF P fn ic [.t i] n=true)
  (h:awp P E ic (a0 bx args++List.replicate (n - (a0 bx args).length) .any) (l0 bx) (retF i bx post)):GCall P E f bx args post:=by
 unfold chkF at hc
 split at hc
 ·rename_i c hb
  simp only [Bool.and_eq_true,beq_iff_eq] at hc
  obtain ⟨⟨h1,h2⟩,rfl⟩:=hc
  refine gcall_of_awp hm hf hb h1 h ?_
  intro B w' L ι fr a e q hs hb0
  have key:finF bx post i fr L→∃ v r os',(results fn a.tmps).run P w'=.ok v w'∧post r os'∧RVok w' (ZB L ι B.X) B.w0.heap.size r v∧(bx.isSome=true→Zas L (.b 0)=some os'.ao)∧(∀ b,r.own v b→Own L ι b):=by
   intro hfin
   have hres:(results fn a.tmps).run P w'=.ok (a.tmps.getD i undef) w':=by
    have hq:fn.results=#[.tmp i]:=by
     have:∀ (l:List ResultVar),okResL P l [.t i]=true→l=[.tmp i]:=by
      intro l hl
      cases l with
      |nil=>simp [okResL] at hl
      |cons x l=>
       cases l with
       |nil=>cases x<;>simp [okResL,okRes] at hl;subst hl;rfl
       |cons y l=>cases x<;>simp [okResL] at hl
     apply Array.ext'
     exact this _ h2
    exact results_tmp hq _ P w'
   rcases hfin with ⟨j,es,et,z,e1,e2,e3⟩|⟨et,z,z0,e1,e3⟩
   rotate_left
   ·have hsl:=hs.2.1.getD i
    rw [e1] at hsl
    have hv:a.tmps.getD i undef=.slice none 0 0:=hsl
    have hrv:RVok w' (ZB L ι B.X) B.w0.heap.size (.fr [] et z) (a.tmps.getD i undef):=by
     rw [hv]
     exact ⟨[],⟨by simp,.inl ⟨rfl,rfl⟩⟩,by simp,by simp [PRepL],by simp,fun b hb=>by simp [blk] at hb⟩
    have hno:∀ b,RV.own (.fr [] et z) (a.tmps.getD i undef) b→Own L ι b:=fun b hb=>by rw [hv] at hb;simp [RV.own,blk] at hb
    cases hbx:bx with
    |none=>rw [hbx] at e3;exact ⟨_,.fr [] et z,noOS,hres,e3,hrv,(fun h=>by cases h),hno⟩
    |some p=>
     rw [hbx] at e3
     obtain ⟨cs',g1,g2⟩:=e3
     exact ⟨_,.fr [] et z,cs',hres,g2,hrv,(fun _=>g1),hno⟩
   have hsl:=hs.2.1.getD i
   rw [e1] at hsl
   obtain ⟨hv,A,m,cp,hvs⟩:=hsl
   obtain ⟨vs,hrow,g2,g3,g4⟩:=hs.1.sim.obj _ _ e2
   have hblkO:∀ b,blk (a.tmps.getD i undef)=some b→Own L ι b:=fun b hb'=>⟨_,_,e2,by rw [← hv];exact hb'⟩
   have hrow':RowOk w' et z true (a.tmps.getD i undef) es.length vs:=by rw [hv];exact hrow
   have hZ0:bx.isSome=true→∃ q,Zas L (.b 0)=some q:=by
    intro hbs
    cases hbx:bx with
    |none=>rw [hbx] at hbs;cases hbs
    |some p=>rw [hbx] at e3;obtain ⟨cs',g1,_⟩:=e3;exact ⟨_,g1⟩
   have hrv:RVok w' (ZB L ι B.X) B.w0.heap.size (.fr es et z) (a.tmps.getD i undef):=by
    refine ⟨vs,hrow',g2,PRepL.mono (fun c _ hu=>⟨rfl,?_⟩) _ _ g3,g4,fun b hb'=>?_⟩
    ·rintro ((hx|⟨i',q',h1,h2⟩)|hx)
     ·exact hu (.inr hx)
     ·exact hu (.inl ⟨_,q',h1,h2⟩)
     ·exact hu (.inl (hblkO c hx))
    ·rcases hs.1.own b (hblkO b hb') with h'|h'
     ·obtain ⟨k0,q0,h5,h6⟩:=h'
      rw [hb0] at h5
      cases hbx:bx with
      |none=>rw [hbx] at h5;simp [l0,Zas] at h5
      |some p=>
       obtain ⟨q1,hq1⟩:=hZ0 (by rw [hbx];rfl)
       rw [hbx] at h5
       simp only [l0,Zas] at h5
       split at h5
       ·rename_i ek
        subst ek
        have hk0:ι (.b 0)=B.i0 (.b 0):=hs.1.keep (.b 0) (by rw [hb0,hbx];simp [l0,Zas]) (by rw [hq1];rfl)
        have:=hs.1.sim.inj (.b 0) (.l j) q1 _ b hq1 e2 (by rw [hk0];exact h6) (by rw [← hv];exact hb')
        cases this
       ·cases h5
     ·exact h'
   cases hbx:bx with
   |none=>rw [hbx] at e3;exact ⟨_,.fr es et z,noOS,hres,e3,hrv,(fun h=>by cases h),hblkO⟩
   |some p=>
    rw [hbx] at e3
    obtain ⟨cs',g1,g2⟩:=e3
    exact ⟨_,.fr es et z,cs',hres,g2,hrv,(fun _=>g1),hblkO⟩
  cases e with
  |normal=>exact ⟨.inl rfl,key q⟩
  |ret=>exact ⟨.inr rfl,key q⟩
  |_=>exact q.elim
 ·cases hc
def SCall (P:Program) (E:Envt) (f:FuncId) (t:TypeId) (cs args:List PV) (ψ:PV→List PV→Prop):Prop:=GCall P E f (some (.box t cs)) args fun r os=>∃ x cs',r=.p x∧os=.box t cs'∧ψ x cs'
def FCall (P:Program) (E:Envt) (f:FuncId) (args:List PV) (e z:Nat) (φ:List (List PV)→Prop):Prop:=GCall P E f none args fun r _=>∃ es,r=.fr es e z∧φ es
def RCall (P:Program) (E:Envt) (f:FuncId) (e z:Nat) (es:List (List PV)) (args:List PV) (ψ:PV→List (List PV)→Prop):Prop:=GCall P E f (some (.row e z es)) args fun r os=>∃ x es',r=.p x∧os=.row e z es'∧ψ x es'
variable {L:Objs} {fr:List AV} {X:List PV} {K:List AV→Objs→Prop}
theorem gc_none {f:FuncId} {as:List AV} {ps:List PV} {post:RV→OS→Prop} (h:GCall P E f none ps post) (ha:Zbh L as=some ps) (hn:Zbj as=true):GC P E f as L none post:=by
 intro w X ι vs hs hX hE hEb hA
 exact h w (fun b=>Own L ι b∨X b) vs undef (fun b hb=>hb.elim (fun h=>sim_own_lt hs h) (fun h=>(hX b h).1)) hE (fun b hb=>⟨(hEb b hb).1,fun h=>by cases h⟩) (argPs_norow hn ha hA) trivial
def AV.key1 (k:Key):OS→AV
 |.box _ _=>.adr k 0
 |.row _ _ _=>.row k
theorem gc_obj {f:FuncId} {as:List AV} {ps:List PV} {os:OS} {k:Key} {post:RV→OS→Prop} (h:GCall P E f (some os) ps post) (hl:Zas L k=some os.ao) (ha:Zbh L as=some ps) (hn:Zbj as=true):GC P E f (AV.key1 k os :: as) L (some (k,os)) post:=by
 intro w X ι vs hs hX hE hEb hA
 simp only [ARepL] at hA
 obtain ⟨v0,vr,rfl,hv0,hA⟩:=hA
 have hv0:v0=ι k:=by
  cases os with
  |box t cs=>obtain ⟨b,e1,e2⟩:=hv0;rw [e1,e2]
  |row e z es=>exact hv0.1
 subst hv0
 have hOb:∀ c,blk (ι k)=some c→Own L ι c:=fun c hc=>⟨k,_,hl,hc⟩
 refine (h w (fun b=>Own L ι b∨X b) vr (ι k) (fun b hb=>hb.elim (fun h=>sim_own_lt hs h) (fun h=>(hX b h).1)) hE (fun c hc=>⟨(hEb c hc).1,fun _ e=>(hEb c hc).2 (hOb c e)⟩) (argPs_norow hn ha hA) ⟨fun c hc=>.inl (hOb c hc),ObjAt.of (hs.obj k _ hl)⟩).mono ?_
 rintro e w' ⟨v,r,os',rfl,hp,hr,hG,hB⟩
 exact ⟨v,r,os',rfl,hp,hr,⟨hG.os,hG.tape,hG.output,hG.size,fun c hc hn=>hG.block c hc (fun ec=>hn ⟨_,hl,ec⟩)⟩,hB⟩
theorem useS {f:FuncId} {as:List AV} {ps cs:List PV} {t:TypeId} {k:Key} {ψ:PV→List PV→Prop} {d:Option Nat} {is:List IOper} (h:SCall P E f t cs ps ψ) (hl:Zas L k=some (.box (cs.map .p) t)) (ha:Zbh L as=some ps) (hn:Zbj as=true) (hs:Zbl d (some (k,.box t cs)))
  (hk:∀ x cs',ψ x cs'→awpOps P E X is (Zg fr d (.p x)) (Zat L k (.box (cs'.map .p) t)) K):CallOp P E f (.adr k 0 :: as) L d fr (contO P E X is K):=
 .inr (.inl ⟨some (k,.box t cs),_,gc_obj h hl ha hn,hl,hs,fun r os' hp=>by obtain ⟨x,cs',rfl,rfl,hx⟩:=hp;exact hk x cs' hx⟩)
theorem argPs_any {L L':Objs}:∀ {as:List AV},Zbj as=true→Zbh L as=Zbh L' as
 |[],_=>rfl
 |a :: r,h=>by
  have e:Zbi L a=Zbi L' a∧Zbj r=true:=by
   cases a<;>simp only [Zbj,Bool.false_eq_true,Bool.and_eq_true,List.isEmpty_iff] at h
   case fn f ks=>obtain ⟨rfl,h⟩:=h;exact ⟨rfl,h⟩
   all_goals exact ⟨rfl,h⟩
  simp only [Zbh]
  rw [e.1,argPs_any (L:=L) (L':=L') e.2]
theorem useD {b:Bool} {f:FuncId} {as:List AV} {ps cs:List PV} {t:TypeId} {k:Key} {ψ:PV→List PV→Prop} {d:Option Nat} {is:List IOper} (h:SCall P E f t cs ps ψ) (hne:∃ x cs',ψ x cs') (hl:Zas L k=some (.box (cs.map .p) t)) (ha:Zbh L as=some ps) (hn:Zbj as=true) (hs:Zbl d (some (k,.box t cs))) (hb:b=true→∃ j,k=.b j)
  (hk:∀ x cs',ψ x cs'→awpOps P E X is (Zg fr d (.p x)) (Zat L k (.box (cs'.map .p) t)) K):DCallOp b P E f (.adr k 0 :: as) L d fr (contO P E X is K):=
 ⟨k,t,cs,ψ,fun L' hl'=>gc_obj h hl' ((argPs_any hn).symm.trans ha) hn,hl,(fun e he=>by subst he;exact hs),hb,hne,hk⟩
theorem useF {f:FuncId} {as:List AV} {ps:List PV} {e z:Nat} {φ:List (List PV)→Prop} {d:Nat} {is:List IOper} (h:FCall P E f ps e z φ) (ha:Zbh L as=some ps) (hn:Zbj as=true)
  (hk:∀ es,φ es→awpOps P E X is ((fr.map (·.kill (.l d))).set d (.row (.l d))) (Zav L (.l d) (.row es e z true)) K):CallOp P E f as L (some d) fr (contO P E X is K):=
 .inr (.inl ⟨none,_,gc_none h ha hn,trivial,trivial,fun r cs' hp=>by obtain ⟨es,rfl,hx⟩:=hp;exact hk es hx⟩)
theorem argP0_rep {w:World} {U:Nat→Prop} {ι:Key→Value}:∀ {as:List AV} {ps:List PV} {vs:List Value},argP0 as=some ps→ARepL w U ι as vs→PRepL w U ps vs:=by
 intro as
 induction as with
 |nil=>intro ps vs h hr;simp only [argP0,Option.some.injEq] at h;subst h;exact hr
 |cons a as ih=>
  intro ps vs h hr
  cases a with
  |p x=>
   simp only [argP0,Option.map_eq_some_iff] at h
   obtain ⟨l,e2,rfl⟩:=h
   simp only [ARepL] at hr
   obtain ⟨v,r,rfl,h1,h2⟩:=hr
   simp only [PRepL]
   exact ⟨v,r,rfl,h1,ih e2 h2⟩
  |_=>simp [argP0] at h
theorem argP0_map:∀ ps:List PV,argP0 (ps.map .p)=some ps
 |[]=>rfl
 |x :: r=>by simp only [List.map_cons,argP0,argP0_map r,Option.map_some]
theorem useF0 {f:FuncId} {as:List AV} {ps:List PV} {e z:Nat} {φ:List (List PV)→Prop} {d:Nat} {is:List IOper} (h:FCall P E f ps e z φ) (ha:argP0 as=some ps)
  (hk:∀ es,φ es→awpOps P E X is ((fr.map (·.kill (.l d))).set d (.row (.l d))) (Zav L (.l d) (.row es e z true)) K):CallOp P E f as L (some d) fr (contO P E X is K):=
 .inr (.inl ⟨none,_,(fun w X ι vs hs hX hE hEb hA=>h w (fun b=>Own L ι b∨X b) vs undef (fun b hb=>hb.elim (fun h=>sim_own_lt hs h) (fun h=>(hX b h).1)) hE (fun b hb=>⟨(hEb b hb).1,fun h=>by cases h⟩) (argP0_rep ha hA) trivial),trivial,trivial,fun r cs' hp=>by obtain ⟨es,rfl,hx⟩:=hp;exact hk es hx⟩)
theorem useFD {f:FuncId} {ps:List PV} {e z:Nat} {es:List (List PV)} (h:FCall P E f ps e z (·=es)):FrC P E f ps e z es:=fun L w X ι vs hs hX hE hEb hA=>
 (h w (fun b=>Own L ι b∨X b) vs undef (fun b hb=>hb.elim (fun h=>sim_own_lt hs h) (fun h=>(hX b h).1)) hE (fun b hb=>⟨(hEb b hb).1,fun h=>by cases h⟩) (argP0_rep (argP0_map ps) hA) trivial).mono (by
  rintro en w' ⟨v,r,cs',rfl,⟨es',rfl,rfl⟩,h2⟩
  exact ⟨v,_,cs',rfl,rfl,h2⟩)
theorem useR {f:FuncId} {as:List AV} {ps:List PV} {e z:Nat} {es:List (List PV)} {k:Key} {ψ:PV→List (List PV)→Prop} {d:Option Nat} {is:List IOper} (h:RCall P E f e z es ps ψ) (hl:Zas L k=some (.row es e z true)) (ha:Zbh L as=some ps) (hn:Zbj as=true) (hs:Zbl d (some (k,.row e z es)))
  (hk:∀ x es',ψ x es'→awpOps P E X is (Zg fr d (.p x)) (Zat L k (.row es' e z true)) K):CallOp P E f (.row k :: as) L d fr (contO P E X is K):=
 .inr (.inl ⟨some (k,.row e z es),_,gc_obj h hl ha hn,hl,hs,fun r os' hp=>by obtain ⟨x,es',rfl,rfl,hx⟩:=hp;exact hk x es' hx⟩)
theorem GCall.mono {f:FuncId} {bx:Option OS} {args:List PV} {post post':RV→OS→Prop} (h:GCall P E f bx args post) (hp:∀ r os,post r os→post' r os):GCall P E f bx args post':=by
 intro w U vs v0 hU hE hEb hA hB
 refine (h w U vs v0 hU hE hEb hA hB).mono ?_
 rintro e w' ⟨v,r,os',h1,h2,h3⟩
 exact ⟨v,r,os',h1,hp r os' h2,h3⟩
theorem RCall.mono {f:FuncId} {e z:Nat} {es:List (List PV)} {args:List PV} {ψ ψ':PV→List (List PV)→Prop} (h:RCall P E f e z es args ψ) (hp:∀ x es,ψ x es→ψ' x es):RCall P E f e z es args ψ':=
 GCall.mono h fun r os ⟨x,es',h1,h2,h3⟩=>⟨x,es',h1,h2,hp x es' h3⟩
theorem FCall.mono {f:FuncId} {e z:Nat} {args:List PV} {φ φ':List (List PV)→Prop} (h:FCall P E f args e z φ) (hp:∀ es,φ es→φ' es):FCall P E f args e z φ':=
 GCall.mono h fun r os ⟨es,h1,h2⟩=>⟨es,h1,hp es h2⟩
theorem PCall.mono {f:FuncId} {args:List PV} {φ φ':PV→Prop} (h:PCall P E f args φ) (hp:∀ x,φ x→φ' x):PCall P E f args φ':=by
 intro w U vs hU hE hEb hA
 refine (h w U vs hU hE hEb hA).mono ?_
 rintro e w' ⟨v,x,h1,h2,h3⟩
 exact ⟨v,x,h1,hp x h2,h3⟩
theorem fin_S {t:TypeId} {cs:List PV} {ψ:PV→List PV→Prop} {x:PV} (cs':List PV) (h1:Zas L (.b 0)=some (.box (cs'.map .p) t)) (h2:ψ x cs'):finP (some (.box t cs)) (fun r os=>∃ x cs',r=.p x∧os=.box t cs'∧ψ x cs') x L:=⟨.box t cs',h1,x,cs',rfl,rfl,h2⟩
theorem fin_F {i e z:Nat} {φ:List (List PV)→Prop} (j:Nat) (es:List (List PV)) (h0:fr.getD i .any=.row (.l j)) (h1:Zas L (.l j)=some (.row es e z true)) (h2:φ es):finF none (fun r _=>∃ es,r=.fr es e z∧φ es) i fr L:=.inl ⟨j,es,e,z,h0,h1,es,rfl,h2⟩
theorem fin_Fn {i e z z0:Nat} {φ:List (List PV)→Prop} (h0:fr.getD i .any=.p (.nl z0)) (h2:φ []):finF none (fun r _=>∃ es,r=.fr es e z∧φ es) i fr L:=.inr ⟨e,z,z0,h0,[],rfl,h2⟩
end
end Go.Proofs.YtehfjlpenlffmaaGreatDoor
namespace Go.Proofs.YtehfjlpenlffmaaGreatDoor
open Go.RowKit
def flatD:PV→Bool
 |.int ..|.bool _|.str _=>true
 |_=>false
def valD:PV→Value
 |.int k n=>.int k n
 |.bool b=>.bool b
 |.str s=>.string ⟨s.toArray⟩
 |_=>undef
theorem PRep.valD {w:World} {U:Nat→Prop} {x:PV} {v:Value} (hf:flatD x=true):PRep w U x v↔v=valD x:=by
 cases x<;>simp_all [flatD,PRep,Go.Proofs.YtehfjlpenlffmaaGreatDoor.valD]
theorem PRepL.valD {w:World} {U:Nat→Prop}:∀ {xs:List PV} {vs:List Value},(xs.all flatD)=true→(PRepL w U xs vs↔vs=xs.map Go.Proofs.YtehfjlpenlffmaaGreatDoor.valD):=by
 intro xs
 induction xs with
 |nil=>intro vs _;simp [PRepL]
 |cons x r ih=>
  intro vs h
  simp only [List.all_cons,Bool.and_eq_true] at h
  simp only [PRepL,List.map_cons]
  constructor
  ·rintro ⟨v,s,rfl,h1,h2⟩
   rw [PRep.valD h.1] at h1
   rw [ih h.2] at h2
   rw [h1,h2]
  ·rintro rfl
   exact ⟨_,_,rfl,(PRep.valD h.1).2 rfl,(ih h.2).2 rfl⟩
section
variable {P:Program} {E:Envt}
theorem grow_below {w w':World} {O:Nat→Prop} (h:Below w.heap.size w w'):Grow w w' O:=⟨h.os,h.tape,h.output,h.size,fun b hb _=>h.block b hb⟩
def flatX:PV→Bool
 |.tup cs=>cs.all flatD
 |x=>flatD x
def valX:PV→Value
 |.tup cs=>.tuple (cs.map valD).toArray
 |x=>valD x
theorem PRep.valX {w:World} {U:Nat→Prop} {x:PV} (hf:flatX x=true):PRep w U x (valX x):=by
 cases x with
 |tup cs=>exact ⟨_,rfl,(PRepL.valD (by simpa [flatX] using hf)).2 rfl⟩
 |int k n=>rfl
 |bool b=>rfl
 |str s=>rfl
 |_=>simp [flatX,flatD] at hf
theorem pcall_flat {f:FuncId} {args:List PV} {r:PV} (ha:args.all flatD=true) (hr:flatX r=true) (h:∀ w,E.ok w→Calls P f (args.map valD).toArray w fun e w'=>e=.returned (valX r)∧Grow w w' (fun _=>False)):PCall P E f args (·=r):=by
 intro w U vs hU hE hEb hA
 rw [PRepL.valD ha] at hA
 subst hA
 refine (h w hE).mono ?_
 rintro e w' ⟨rfl,hg⟩
 exact ⟨_,r,rfl,rfl,PRep.valX hr,hg⟩
end
end Go.Proofs.YtehfjlpenlffmaaGreatDoor
