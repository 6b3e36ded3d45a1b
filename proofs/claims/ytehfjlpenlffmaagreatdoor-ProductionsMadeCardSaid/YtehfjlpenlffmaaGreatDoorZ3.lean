import Derived.Test.YtehfjlpenlffmaaGreatDoorZ2
import Derived.Orders
set_option linter.unusedVariables false
set_option linter.unusedSimpArgs false
set_option linter.defProp false
namespace Go.Proofs.YtehfjlpenlffmaaGreatDoor
open Option.some renaming injEq→zn
open Prod.mk renaming injEq→zw
open Nat renaming le_refl→zM
open List renaming all_eq_true→yr,cons_append→zl,eq_nil_of_length_eq_zero→zA,getD→zD,getElem?_eq_getElem→zg,getElem?_eq_none→zY,getElem?_eq_some_iff→zt,getElem?_map→zz,getElem?_of_mem→zR,getElem?_range→ya,getElem?_set_ne→yn,length_append→zK,length_cons→zi,length_map→zB,map_append→zO,map_congr_left→zQ,map_cons→zk,map_map→z7,mem_append→zJ,mem_cons→zI,mem_filter→yj,mem_map→zN,mem_of_getElem?→zx,mem_or_eq_of_mem_set→yb,mem_singleton→zF,nil_append→zm,range→zE
open Bool renaming and_eq_true→zq,false_eq_true→yd,not_eq_true'→zW,or_eq_true→z6
open Option renaming getD_some→yt,isSome_iff_exists→yc,map_eq_some_iff→zp,map_some→zL
open _root_.Array renaming getD_eq_getD_getElem?→zH,getElem?_eq_some_iff→zG,getElem?_setIfInBounds_ne→zV
section
variable {fr:List AV} {L:Objs} {K:Key}
theorem AV.kill_comm (k j:Key) (x:AV):(x.kill k).kill j=(x.kill j).kill k:=by
 induction x with
 |g c a ih=>simp only [AV.kill,ih]
 |p|ipt|any=>rfl
 |_=>simp only [AV.kill];split<;>split<;>simp_all [AV.kill]
theorem AV.kill_idem (k:Key) (x:AV):(x.kill k).kill k=x.kill k:=by
 induction x with
 |g c a ih=>simp only [AV.kill,ih]
 |p|ipt|any=>rfl
 |_=>simp only [AV.kill];split<;>simp_all [AV.kill]
theorem AO.kill_comm (k j:Key) (x:AO):(x.kill k).kill j=(x.kill j).kill k:=by
 cases x<;>simp [AO.kill,AV.kill_comm k j]
theorem AO.kill_idem (k:Key) (x:AO):(x.kill k).kill k=x.kill k:=by
 cases x<;>simp [AO.kill,AV.kill_idem]
theorem qmG (k j:Key):∀ L:Objs,Zat k (Zat j L)=Zat j (Zat k L)
 |[]=>rfl
 |(k',a) :: r=>by simp only [Zat,qmG k j r,AO.kill_comm j k]
theorem qo7 (k:Key):∀ L:Objs,Zat k (Zat k L)=Zat k L
 |[]=>rfl
 |(k',a) :: r=>by simp only [Zat,qo7 k r,AO.kill_idem]
theorem qiN (K k:Key) (a:AO):∀ L:Objs,Zat K (Zas L k a)=Zas (Zat K L) k (a.kill K)
 |[]=>rfl
 |(k',a') :: r=>by
  simp only [Zas,Zat]
  split
  ·simp only [Zat]
  ·simp only [Zat,qiN K k a r]
theorem qhg {k j:Key} (a b:AO) (hne:k≠j):∀ {L:Objs},(Zar L k).isSome=true→(Zar L j).isSome=true→Zas (Zas L k a) j b=Zas (Zas L j b) k a
 |[],h,_=>by simp [Zar] at h
 |(k',a') :: r,h1,h2=>by
  simp only [Zas]
  by_cases e1:k'=k
  ·have e2:¬ k'=j:=fun e=>hne (e1.symm.trans e)
   simp only [if_pos e1,if_neg e2,Zas]
  ·by_cases e2:k'=j
   ·simp only [if_neg e1,if_pos e2,Zas]
   ·simp only [Zar,if_neg e1,if_neg e2] at h1 h2
    simp only [if_neg e1,if_neg e2,Zas,qhg a b hne h1 h2]
theorem qqs {K:Key} {fr:List AV} (h:fr.map (·.kill K)=fr) (e:Nat):(fr.set e .any).map (·.kill K)=fr.set e .any:=by
 rw [List.map_set,h]
 rfl
theorem Zal.hole_self (d:Nat) (fr:List AV) (L:Objs):Zal d ((fr.map (·.kill (.l d))).set d .any) (Zau L (.l d) Zam):=by
 refine ⟨qqs (by simp [Function.comp_def,AV.kill_idem]) d,?_⟩
 unfold Zau
 rw [qiN,qo7]
 rfl
theorem Zal.hole {d:Nat} (h:Zal d fr L) (e:Nat):Zal d ((fr.map (·.kill (.l e))).set e .any) (Zau L (.l e) Zam):=by
 refine ⟨qqs ?_ e,?_⟩
 ·have:=h.1
  rw [z7]
  conv=>rhs;rw [← this]
  rw [z7]
  exact zQ fun x _=>AV.kill_comm _ _ x
 ·unfold Zau
  rw [qiN,qmG,h.2]
  rfl
theorem qpU {cs:List AV} (h:cs.map (·.kill K)=cs):∀ x∈cs,x.kill K=x:=
 List.map_inj_left.1 (h.trans (List.map_id cs).symm)
theorem qwj {cs:List AV} (h:∀ x∈cs,x.kill K=x):cs.map (·.kill K)=cs:=
 (zQ h).trans (List.map_id cs)
theorem qbs (h:Zat K L=L) {k:Key} {a:AO} (hl:Zar L k=some a):a.kill K=a:=by
 have:=qam K L k
 rw [h,hl] at this
 simpa using this.symm
theorem box_fix {cs:List AV} {t:TypeId}:(AO.box cs t).kill K=.box cs t↔∀ x∈cs,x.kill K=x:=by
 simp only [AO.kill,AO.box.injEq,and_true]
 exact ⟨qpU,qwj⟩
theorem qnC {α:Type} (f:α→α):∀ (l:List α),l.map f=l→∀ x∈l,f x=x
 |[],_,x,hx=>by cases hx
 |q :: r,h,x,hx=>by
  simp only [zk,List.cons.injEq] at h
  rcases zI.1 hx with rfl|hx
  ·exact h.1
  ·exact qnC f r h.2 x hx
theorem rowv_fix {es:List (List AV)} {e z:Nat}:(AO.rowv es e z).kill K=.rowv es e z↔∀ x∈es,∀ y∈x,y.kill K=y:=by
 simp only [AO.kill,AO.rowv.injEq,and_true]
 constructor
 ·intro h x hx
  exact qnC _ _ (qnC _ _ h x hx)
 ·intro h
  exact (zQ fun x hx=>(zQ (h x hx)).trans (List.map_id x)).trans (List.map_id es)
theorem mapv_fix {kv:List (List UInt8×AV)} {kt et:Nat}:(AO.mapv kv kt et).kill K=.mapv kv kt et↔∀ x∈kv,x.2.kill K=x.2:=by
 simp only [AO.kill,AO.mapv.injEq,and_true]
 constructor
 ·intro h x hx
  have:=qnC _ _ h x hx
  exact congrArg Prod.snd this
 ·intro h
  conv=>rhs;rw [← List.map_id kv]
  exact zQ fun x hx=>by rw [h x hx];rfl
theorem qgk (h:Zat K L=L) {k:Key} {a:AO} (ha:a.kill K=a):Zat K (Zas L k a)=Zas L k a:=by rw [qiN,h,ha]
theorem qqW (h:fr.map (·.kill K)=fr) (x:Opd):(rd fr x).kill K=rd fr x:=by
 cases x with
 |t i=>
  simp only [rd,zD]
  cases hq:fr[i]? with
  |none=>rfl
  |some y=>exact qpU h y (zx hq)
 |f n=>simp [rd,AV.kill]
 |_=>rfl
theorem qtf {x:AV} (h:x.kill K=x):x.un.2.kill K=x.un.2:=by
 induction x with
 |g c a ih=>
  simp only [AV.kill,AV.g.injEq,true_and] at h
  exact ih h
 |_=>exact h
theorem qCx {x:AV} (h:x.kill K=x):x.ad.kill K=x.ad:=by
 unfold AV.ad
 split
 ·rfl
 ·exact h
theorem qeN (h:fr.map (·.kill K)=fr) {x:Opd} {c:Prop} {q:AV} (e:(rd fr x).un=(c,q)):q.kill K=q:=by
 have:=qtf (qqW h x)
 rw [e] at this
 exact this
theorem qiq (h:fr.map (·.kill K)=fr) {x:Opd} {c:Prop} {q:AV} (e:(rd fr x).unA=(c,q)):q.kill K=q:=by
 have:=qCx (qtf (qqW h x))
 have e2:(rd fr x).un.2.ad=q:=by rw [show (rd fr x).un.2.ad=(rd fr x).unA.2 from rfl,e]
 rw [e2] at this
 exact this
theorem qp5 {cs:List AV} {o:Nat} (h:∀ x∈cs,x.kill K=x):(cs.getD o .any).kill K=cs.getD o .any:=by
 simp only [zD]
 cases hq:cs[o]? with
 |none=>rfl
 |some y=>exact h y (zx hq)
theorem qk0 {k:Key} (h:(AV.row k).kill K=.row k):k≠K:=by
 intro e;simp [AV.kill,e] at h
theorem qrQ {k:Key} {o:Nat} (h:(AV.adr k o).kill K=.adr k o):k≠K:=by
 intro e;simp [AV.kill,e] at h
theorem qqX {k:Key} {z i o:Nat} (h:(AV.rad k z i o).kill K=.rad k z i o):k≠K:=by
 intro e;simp [AV.kill,e] at h
theorem qAv {k:Key} (h:(AV.mp k).kill K=.mp k):k≠K:=by
 intro e;simp [AV.kill,e] at h
theorem qCE {k:Key} {ps:List PV} (h:(AV.tr k ps).kill K=.tr k ps):k≠K:=by
 intro e;simp [AV.kill,e] at h
theorem qn3 {k:Key} (h:k≠K):(AV.row k).kill K=.row k:=by simp [AV.kill,h]
theorem qsY {k:Key} {o:Nat} (h:k≠K):(AV.adr k o).kill K=.adr k o:=by simp [AV.kill,h]
theorem qpy {k:Key} {z i o:Nat} (h:k≠K):(AV.rad k z i o).kill K=.rad k z i o:=by simp [AV.kill,h]
theorem anyK_false {cs:List CV}:Zah K cs=false↔∀ x∈cs,Zai K x=false:=by
 induction cs with
 |nil=>simp [Zah]
 |cons x r ih=>simp only [Zah,Bool.or_eq_false_iff,ih,zI,forall_eq_or_imp]
theorem qqt {cs:List CV} {i:Nat} {x:CV} (h:Zah K cs=false) (hx:Zai K x=false):Zah K (cs.set i x)=false:=by
 rw [anyK_false] at h ⊢
 intro y hy
 rcases yb hy with hy|rfl
 ·exact h y hy
 ·exact hx
theorem ag_fix {cs:List CV}:(AV.ag cs).kill K=.ag cs↔Zah K cs=false:=by
 simp only [AV.kill]
 split<;>simp_all
theorem qu0 {y:PV} {z i o:Nat}:(Zaw y z i o).kill K=Zaw y z i o:=by
 unfold Zaw
 split
 ·split<;>rfl
 ·rfl
theorem qth {k:Key} {y:PV} {x:AV} (h:x.kill K=x):(x.thaw k y).kill K=x.thaw k y:=by
 induction x with
 |g c a ih=>
  simp only [AV.kill,AV.g.injEq,true_and] at h
  simp only [AV.thaw,AV.kill,ih h]
 |p|ipt|any=>rfl
 |row k'=>simp only [AV.thaw];split;rfl;exact h
 |adr k' o=>
  simp only [AV.thaw];split
  ·unfold thaw_P
   split
   ·split<;>rfl
   ·rfl
  ·exact h
 |rad k' z' i o=>
  simp only [AV.thaw];split
  ·exact qu0
  ·exact h
 |mp k'=>simp only [AV.thaw];split;rfl;exact h
 |tr k' ps=>simp only [AV.thaw];split;rfl;exact h
 |fn f ks=>simp only [AV.thaw];split;rfl;exact h
 |ag cs=>
  rw [ag_fix,anyK_false] at h
  simp only [AV.thaw]
  rw [ag_fix,anyK_false]
  intro x hm
  obtain ⟨q,hq,rfl⟩:=zN.1 hm
  cases q with
  |p p=>rfl
  |row k'=>
   simp only [Zaj];split
   ·rfl
   ·exact h _ hq
  |mp k'=>
   simp only [Zaj];split
   ·rfl
   ·exact h _ hq
theorem qxN {f:AV→AV} (hf:∀ x:AV,x.kill K=x→(f x).kill K=f x) {a:AO} (h:a.kill K=a):(a.mapA f).kill K=a.mapA f:=by
 cases a with
 |box cs t=>
  simp only [AO.mapA]
  rw [box_fix] at h ⊢
  intro x hx
  obtain ⟨y,hy,rfl⟩:=zN.1 hx
  exact hf y (h y hy)
 |rowv es e z=>
  simp only [AO.mapA]
  rw [rowv_fix] at h ⊢
  intro x hx y hy
  obtain ⟨x',hx',rfl⟩:=zN.1 hx
  obtain ⟨y',hy',rfl⟩:=zN.1 hy
  exact hf y' (h x' hx' y' hy')
 |mapv kv a b=>
  simp only [AO.mapA]
  rw [mapv_fix] at h ⊢
  intro x hx
  obtain ⟨y,hy,rfl⟩:=zN.1 hx
  exact hf y.2 (h y hy)
 |_=>rfl
theorem qo8 {k':Key} {a:AO} {r:Objs}:Zat K ((k',a) :: r)=(k',a) :: r↔a.kill K=a∧Zat K r=r:=by
 simp [Zat]
theorem Zal.thaw {d:Nat} {k:Key} {y:PV} (h:Zal d fr L):Zal d (fr.map (·.thaw k y)) (Zav k y L):=by
 refine ⟨?_,?_⟩
 ·refine qwj fun x hx=>?_
  obtain ⟨y,hy,rfl⟩:=zN.1 hx
  exact qth (qpU h.1 y hy)
 ·have:=h.2
  clear h
  induction L with
  |nil=>rfl
  |cons q r ih=>
   obtain ⟨k',a⟩:=q
   rw [qo8] at this
   simp only [Zav]
   split
   ·exact ih this.2
   ·rw [qo8]
    refine ⟨?_,ih this.2⟩
    rw [AO.thaw_mapA]
    exact qxN (fun x hx=>qth hx) this.1
theorem qtu:∀ {us:List PV} {cs:List CV} {o:Nat},Zah K cs=false→Zah K (Zae cs o us)=false
 |[],cs,o,h=>by simpa [Zae] using h
 |x :: r,cs,o,h=>by
  simp only [Zae]
  exact qtu (qqt h rfl)
theorem qnI (hF:fr.map (·.kill K)=fr):∀ {ps:List (Nat×Nat×Opd)} {cs:List CV} {q:Prop×List CV},Zad fr cs ps=some q→Zah K cs=false→Zah K q.2=false
 |[],cs,q,h,hc=>by simp only [Zad,zn] at h;subst h;exact hc
 |(o,s,x) :: r,cs,q,h,hc=>by
  simp only [Zad] at h
  split at h
  ·split at h
   ·obtain ⟨q',h1,rfl⟩:=zp.1 h
    have:=qnI hF h1 (qtu hc)
    exact this
   ·cases h
  ·rename_i c k e
   split at h
   ·obtain ⟨q',h1,rfl⟩:=zp.1 h
    have:=qnI hF h1 (qqt hc (by simp only [Zai,decide_eq_false_iff_not];exact qk0 (qeN hF e)))
    exact this
   ·cases h
  ·rename_i c k e
   split at h
   ·obtain ⟨q',h1,rfl⟩:=zp.1 h
    have:=qnI hF h1 (qqt hc (by simp only [Zai,decide_eq_false_iff_not];exact qAv (qeN hF e)))
    exact this
   ·cases h
  ·cases h
theorem qeC:∀ {us cs:List AV} {o:Nat},(∀ x∈cs,x.kill K=x)→(∀ x∈us,x.kill K=x)→∀ x∈Zab cs o us,x.kill K=x
 |[],cs,o,h,_=>by simpa [Zab] using h
 |u :: r,cs,o,h,hu=>by
  simp only [Zab]
  refine qeC (fun x hx=>?_) (fun x hx=>hu x (by simp [hx]))
  rcases yb hx with h'|h'
  ·exact h x h'
  ·subst h';exact hu _ (by simp)
end
def qbh:Opd→List Nat
 |.t i=>[i]
 |_=>[]
def optS:Option Opd→List Nat
 |none=>[]
 |some x=>qbh x
def qdr:List Opd→List Nat
 |[]=>[]
 |x :: r=>qbh x++qdr r
def qoT:List (Nat×Nat×Opd)→List Nat
 |[]=>[]
 |(_,_,x) :: r=>qbh x++qoT r
def qdX:IOp→Option (List Nat)
 |.mov x|.not x|.len x|.sln x|.fla _ x|.fld _ _ _ x|.ld _ _ x|.ldl _ _ x|.ldn _ _ _ x|.ext _ x|.cvi _ x|.cvs x|.b2s x|.nck x|.mpn x=>some (qbh x)
 |.pick c a b=>some (qbh c++qbh a++qbh b)
 |.bin _ x y|.bnb _ x y|.mx x y|.idx x y|.ixa _ x y|.mpl _ _ x y=>some (qbh x++qbh y)
 |.ssl x lo hi|.vsl _ x lo hi=>some (qbh x++optS lo++optS hi)
 |.bld _ parts|.bldg _ parts=>some (qoT parts)
 |.bsl _ parts=>some (qdr parts)
 |.pcall _ _ args=>some (qdr args)
 |.pcv _ g args=>some (qbh g++qdr args)
 |_=>none
def qaZ (i:IOper):Option (List Nat):=
 (qdX i.op).map fun l=>l++(match i.guard with|some (s,_)=>[s]|none=>[])
def isD:IOper→Option (Bool×List Nat)
 |⟨_,.dcall b _ args,none⟩=>some (b,qdr args)
 |_=>none
def isN:IOper→Option (Nat×List Nat)
 |⟨some d,.alcd _ _,none⟩=>some (d,[])
 |⟨some d,.bsrd _ _ parts,none⟩=>some (d,qdr parts)
 |⟨some d,.fcl _ _ args _ _,none⟩=>some (d,qdr args)
 |_=>none
def qnk:IOp→Bool
 |.pcall ..=>false
 |.pcv ..=>false
 |_=>true
def qmF (b:Bool):IOp→Bool
 |.ld ..=>false
 |.ldn ..=>false
 |.pcall ..=>false
 |.pcv ..=>false
 |.mpl ..=>false
 |.mpn ..=>false
 |.ldl ..=>b
 |_=>true
def isSr:IOper→Option (List Nat)
 |⟨none,.st _ p x,none⟩=>some (qbh p++qbh x)
 |_=>none
def nol:IOp→Bool
 |.mov ..|.pick ..|.bin ..|.bnb ..|.not ..|.sln ..|.mx ..|.idx ..|.ssl ..|.vsl ..|.fla ..|.fld ..|.ext ..|.bld ..|.bldg ..|.cvi ..|.cvs ..|.bsl ..|.nck ..=>true
 |_=>false
def isAp:IOper→Option (Nat×List Nat)
 |⟨some d,.app _ _ _ x y,none⟩=>some (d,qbh x++qbh y)
 |_=>none
def isSk:IOper→Option (Nat×List Nat)
 |⟨none,.stk n _ p x,none⟩=>some (n,qbh p++qbh x)
 |⟨none,.mpk n m k v,none⟩=>some (n,qbh m++qbh k++qbh v)
 |_=>none
def nolN (n:Nat):IOp→Bool
 |.ldn m ..=>m == n
 |op=>nol op
def qxU:IOp→Bool
 |.mov ..|.bin ..|.sln ..|.ssl ..|.fla ..|.nck ..|.ld ..|.ldl ..|.ixa ..=>true
 |_=>false
def sepI (x i:IOper) (rx ri:List Nat):Bool:=
 (match x.dst with|some d=>!ri.contains d|none=>true) && (match i.dst with|some d=>!rx.contains d|none=>true) && (match x.dst,i.dst with|some d,some e=>d != e|_,_=>true)
def qkw (x i:IOper):Bool:=
 match qaZ x,qaZ i with
 |some rx,some ri=>sepI x i rx ri
 |some rx,none=>match isD i with
  |some (b,ri)=>qmF b x.op && sepI x i rx ri
  |none=>match isN i with
   |some (_,ri)=>qnk x.op && sepI x i rx ri
   |none=>match isSr i with
    |some ri=>nol x.op && sepI x i rx ri
    |none=>match isSk i with
     |some (n,ri)=>nolN n x.op && sepI x i rx ri
     |none=>false
 |none,some ri=>match isD x with
  |some (b,rx)=>qmF b i.op && sepI x i rx ri
  |none=>match isN x with
   |some (_,rx)=>qnk i.op && sepI x i rx ri
   |none=>match isSr x with
    |some rx=>nol i.op && sepI x i rx ri
    |none=>match isAp x with
     |some (_,rx)=>qxU i.op && (i.guard.isNone && sepI x i rx ri)
     |none=>false
 |none,none=>match isN x,isN i with
  |some (_,rx),some (_,ri)=>sepI x i rx ri
  |some (_,rx),none=>match isD i with
   |some (b,ri)=>b && sepI x i rx ri
   |none=>false
  |none,some (_,ri)=>match isD x with
   |some (b,rx)=>b && sepI x i rx ri
   |none=>false
  |none,none=>false
section
variable {P:Program} {E:Envt} {Y:List PV} {fr:List AV} {L:Objs}
theorem qaC {d:Nat} {r:AV} {x:Opd} (h:d∉qbh x):rd (fr.set d r) x=rd fr x:=by
 cases x with
 |t i=>
  simp only [qbh,zF] at h
  simp only [rd,zD]
  rw [yn h]
 |_=>rfl
theorem qpw {d:Nat} {r:AV} {x:Option Opd} (h:d∉optS x):x.map (rd (fr.set d r))=x.map (rd fr):=by
 cases x with
 |none=>rfl
 |some y=>simp only [zL];rw [qaC h]
theorem qyp {d:Nat} {r:AV}:∀ {ps:List (Nat×Nat×Opd)} {cs:List PV},d∉qoT ps→Zac (fr.set d r) cs ps=Zac fr cs ps:=by
 intro ps
 induction ps with
 |nil=>intros;rfl
 |cons p ps ih=>
  intro cs h
  obtain ⟨o,s,x⟩:=p
  simp only [qoT,zJ,not_or] at h
  simp only [Zac]
  rw [qaC h.1]
  split
  ·rw [ih h.2]
  ·rfl
theorem qyq {d:Nat} {r:AV}:∀ {ps:List (Nat×Nat×Opd)} {cs:List CV},d∉qoT ps→Zad (fr.set d r) cs ps=Zad fr cs ps:=by
 intro ps
 induction ps with
 |nil=>intros;rfl
 |cons p ps ih=>
  intro cs h
  obtain ⟨o,s,x⟩:=p
  simp only [qoT,zJ,not_or] at h
  simp only [Zad]
  rw [qaC h.1]
  split
  ·rw [ih h.2]
  ·rw [ih h.2]
  ·rw [ih h.2]
  ·rfl
theorem qt5 {d z:Nat} {r:AV}:∀ {ps:List Opd},d∉qdr ps→Zan (fr.set d r) z ps=Zan fr z ps:=by
 intro ps
 induction ps with
 |nil=>intros;rfl
 |cons x ps ih=>
  intro h
  simp only [qdr,zJ,not_or] at h
  simp only [Zan]
  rw [qaC h.1]
  split
  ·rw [ih h.2]
  ·rfl
theorem qnL {d:Nat} {r:AV}:∀ {ps:List Opd},d∉qdr ps→Zl (fr.set d r) ps=Zl fr ps:=by
 intro ps
 induction ps with
 |nil=>intros;rfl
 |cons x ps ih=>
  intro h
  simp only [qdr,zJ,not_or] at h
  simp only [Zl]
  rw [qaC h.1,ih h.2]
theorem qnK {d:Nat} {r:AV}:∀ {ps:List Opd},d∉qdr ps→Zm (fr.set d r) ps=Zm fr ps:=by
 intro ps
 induction ps with
 |nil=>intros;rfl
 |cons x ps ih=>
  intro h
  simp only [qdr,zJ,not_or] at h
  have:=ih h.2
  simp only [Zm,zk] at this ⊢
  rw [qaC h.1,this]
def core (P:Program) (E:Envt) (Y:List PV) (fr:List AV) (L:Objs):IOp→Option (Prop×AV)
 |.pcall n f args=>some (Zl fr args∧qnt P E f (Zm fr args) L (·=Y.getD n (.bool false)),.p (Y.getD n (.bool false)))
 |.pcv n g args=>match Zaq fr g with
  |some (f,ks)=>some ((rd fr g).un.1∧fnB P f=true∧Zk L ks=true∧Zl fr args∧qnt P E f (Zm fr args++ks) L (·=Y.getD n (.bool false)),.p (Y.getD n (.bool false)))
  |none=>none
 |op=>Ze fr L op
theorem qtY {d:Nat} {r:AV} {op:IOp} {l:List Nat} (h:qdX op=some l) (hd:d∉l):core P E Y (fr.set d r) L op=core P E Y fr L op:=by
 cases op<;>simp only [qdX,zn,reduceCtorEq] at h<;>subst h<;>(try simp only [zJ,not_or] at hd)
 case mov x=>simp only [core,Ze,qaC hd]
 case pick c a b=>simp only [core,Ze,qaC hd.1.1,qaC hd.1.2,qaC hd.2]
 case bin op x y=>simp only [core,Ze,qaC hd.1,qaC hd.2]
 case bnb op x y=>simp only [core,Ze,qaC hd.1,qaC hd.2]
 case not x=>simp only [core,Ze,qaC hd]
 case len x=>simp only [core,Ze,qaC hd]
 case sln x=>simp only [core,Ze,qaC hd]
 case mx x y=>simp only [core,Ze,qaC hd.1,qaC hd.2]
 case idx x y=>simp only [core,Ze,qaC hd.1,qaC hd.2]
 case ssl x lo hi=>simp only [core,Ze,qaC hd.1.1,qpw hd.1.2,qpw hd.2]
 case vsl z x lo hi=>simp only [core,Ze,qaC hd.1.1,qpw hd.1.2,qpw hd.2]
 case ixa z x y=>simp only [core,Ze,qaC hd.1,qaC hd.2]
 case fla o x=>simp only [core,Ze,qaC hd]
 case fld o s a x=>simp only [core,Ze,qaC hd]
 case ld s a x=>simp only [core,Ze,qaC hd]
 case ldl s a x=>simp only [core,Ze,qaC hd]
 case ldn n s a x=>simp only [core,Ze,qaC hd]
 case ext i x=>simp only [core,Ze,qaC hd]
 case bld z ps=>simp only [core,Ze,qyp hd]
 case bldg z ps=>simp only [core,Ze,qyq hd]
 case cvi k x=>simp only [core,Ze,qaC hd]
 case cvs x=>simp only [core,Ze,qaC hd]
 case b2s x=>simp only [core,Ze,qaC hd]
 case bsl z ps=>simp only [core,Ze,qt5 hd]
 case nck x=>simp only [core,Ze,qaC hd]
 case mpn x=>simp only [core,Ze,qaC hd]
 case mpl o z x y=>simp only [core,Ze,qaC hd.1,qaC hd.2]
 case pcall n f args=>simp only [core,qnL hd,qnK hd]
 case pcv n g args=>simp only [core,Zaq,qaC hd.1,qnL hd.2,qnK hd.2]
def sx (P:Program) (E:Envt) (Y:List PV) (fr:List AV) (L:Objs) (i:IOper):Option (Prop×AV):=
 match i.guard with
 |none=>core P E Y fr L i.op
 |some (s,w)=>match Zg fr s w with
  |some c0=>(match core P E Y fr L i.op with|some q=>some (c0=true→q.1,.g c0 q.2)|none=>if qei i.op=true then some (c0=false,.g c0 .any) else none)
  |none=>none
theorem qi5 {d:Option Nat} {r:AV} {i:IOper} {l:List Nat} (h:qaZ i=some l) (hd:∀ e,d=some e→e∉l):sx P E Y (Zf fr d r) L i=sx P E Y fr L i:=by
 cases d with
 |none=>rfl
 |some d=>
  have hd:=hd d rfl
  obtain ⟨l0,h1,rfl⟩:=zp.1 h
  simp only [zJ,not_or] at hd
  unfold sx
  simp only [Zf]
  cases hg:i.guard with
  |none=>simp only;exact qtY h1 hd.1
  |some q=>
   obtain ⟨s,w⟩:=q
   rw [hg] at hd
   simp only
   have:Zg (fr.set d r) s w=Zg fr s w:=by
    unfold Zg
    rw [show (fr.set d r).getD s .any=fr.getD s .any from by simp only [zD];rw [yn (by simpa using hd.2)]]
   rw [this,qtY h1 hd.1]
theorem qaq {i:IOper} {is:List IOper} {K:List AV→Objs→Prop} (hr:(qaZ i).isSome=true):qaa P E Y (i :: is) fr L K↔∃ c r,sx P E Y fr L i=some (c,r)∧c∧qaa P E Y is (Zf fr i.dst r) L K:=by
 obtain ⟨d,op,gd⟩:=i
 have hA:(qdX op).isSome=true:=by simpa [qaZ] using hr
 cases gd with
 |none=>
  have key:∀ q:Option (Prop×AV),(∃ c r,q=some (c,r)∧c∧qaa P E Y is (Zf fr d r) L K)↔(match q with|some (c,r)=>c∧qaa P E Y is (Zf fr d r) L K|none=>False):=by
   intro q
   cases q with
   |none=>simp
   |some q=>
    obtain ⟨c,r⟩:=q
    simp only [zn,zw]
    exact ⟨fun ⟨_,_,⟨rfl,rfl⟩,h1,h2⟩=>⟨h1,h2⟩,fun ⟨h1,h2⟩=>⟨_,_,⟨rfl,rfl⟩,h1,h2⟩⟩
  have gen:∀ op:IOp,qaa P E Y (⟨d,op,none⟩ :: is) fr L K=(match Zd d fr L op with|some (c,fr',L')=>c∧qaa P E Y is fr' L' K|none=>False)→Zd d fr L op=(Ze fr L op).map (fun q=>(q.1,Zf fr d q.2,L))→core P E Y fr L op=Ze fr L op→(qaa P E Y (⟨d,op,none⟩ :: is) fr L K↔∃ c r,sx P E Y fr L ⟨d,op,none⟩=some (c,r)∧c∧qaa P E Y is (Zf fr d r) L K):=by
   intro op h1 h2 h3
   rw [h1,h2]
   simp only [sx,h3]
   rw [key]
   cases Ze fr L op with
   |none=>rfl
   |some q=>rfl
  cases op<;>simp only [qdX,Option.isSome_some,Option.isSome_none,yd] at hA
  case pcall n f args=>
   simp only [qaa,sx,core]
   rw [key]
  case pcv n g args=>
   simp only [qaa,sx,core]
   rw [key]
   cases Zaq fr g with
   |none=>rfl
   |some q=>rfl
  all_goals exact gen _ rfl rfl rfl
 |some sw=>
  obtain ⟨s,want⟩:=sw
  have gen:∀ op:IOp,qaa P E Y (⟨d,op,some (s,want)⟩ :: is) fr L K=(match Zg fr s want with|some c0=>(match Ze fr L op with|some (c,r)=>(c0=true→c)∧qaa P E Y is (Zf fr d (.g c0 r)) L K|none=>qei op=true∧c0=false∧qaa P E Y is (Zf fr d (.g c0 .any)) L K)|none=>False)→core P E Y fr L op=Ze fr L op→(qaa P E Y (⟨d,op,some (s,want)⟩ :: is) fr L K↔∃ c r,sx P E Y fr L ⟨d,op,some (s,want)⟩=some (c,r)∧c∧qaa P E Y is (Zf fr d r) L K):=by
   intro op h1 h3
   rw [h1]
   simp only [sx,h3]
   cases Zg fr s want with
   |none=>simp
   |some c0=>
    cases Ze fr L op with
    |none=>
     cases hp:qei op with
     |false=>simp
     |true=>
      simp only [if_true,zn,zw,true_and]
      exact ⟨fun ⟨h1,h2⟩=>⟨_,_,⟨rfl,rfl⟩,h1,h2⟩,fun ⟨_,_,⟨rfl,rfl⟩,h1,h2⟩=>⟨h1,h2⟩⟩
    |some q=>
     obtain ⟨c,r⟩:=q
     simp only [zn,zw]
     exact ⟨fun ⟨h1,h2⟩=>⟨_,_,⟨rfl,rfl⟩,h1,h2⟩,fun ⟨_,_,⟨rfl,rfl⟩,h1,h2⟩=>⟨h1,h2⟩⟩
  cases op<;>simp only [qdX,Option.isSome_some,Option.isSome_none,yd] at hA
  case pcall n f args=>
   simp only [qaa,sx,core]
   cases Zg fr s want with
   |none=>simp
   |some c0=>
    simp only [zL,zn,zw]
    exact ⟨fun ⟨h1,h2⟩=>⟨_,_,⟨rfl,rfl⟩,h1,h2⟩,fun ⟨_,_,⟨rfl,rfl⟩,h1,h2⟩=>⟨h1,h2⟩⟩
  case pcv n g args=>
   simp only [qaa,sx,core]
   cases Zg fr s want with
   |none=>simp
   |some c0=>
    cases Zaq fr g with
    |none=>simp [qei]
    |some q=>
     simp only [zn,zw]
     exact ⟨fun ⟨h1,h2⟩=>⟨_,_,⟨rfl,rfl⟩,h1,h2⟩,fun ⟨_,_,⟨rfl,rfl⟩,h1,h2⟩=>⟨h1,h2⟩⟩
  all_goals exact gen _ rfl rfl
theorem qck {x i:IOper} {rx ri:List Nat} (h:sepI x i rx ri=true):(∀ d,x.dst=some d→d∉ri)∧(∀ d,i.dst=some d→d∉rx)∧(∀ d e,x.dst=some d→i.dst=some e→d≠e):=by
 simp only [sepI,zq] at h
 refine ⟨fun d hd=>?_,fun d hd=>?_,fun d e hd he=>?_⟩
 ·have:=h.1.1;rw [hd] at this;simpa using this
 ·have:=h.1.2;rw [hd] at this;simpa using this
 ·have:=h.2;rw [hd,he] at this;simpa using this
theorem qrn {i:IOper} {b:Bool} {l:List Nat} (h:isD i=some (b,l)):∃ d f args,i=⟨d,.dcall b f args,none⟩∧l=qdr args:=by
 unfold isD at h
 split at h
 ·simp only [zn,zw] at h
  obtain ⟨rfl,rfl⟩:=h
  exact ⟨_,_,_,rfl,rfl⟩
 ·cases h
theorem qv9 {i:IOper} {l:List Nat} (h:isSr i=some l):∃ sz p y,i=⟨none,.st sz p y,none⟩∧l=qbh p++qbh y:=by
 unfold isSr at h
 split at h
 ·cases h;exact ⟨_,_,_,rfl,rfl⟩
 ·cases h
theorem qAA {i:IOper} {q:Nat} {l:List Nat} (h:isAp i=some (q,l)):∃ d e z b u v,i=⟨some d,.app e z b u v,none⟩∧l=qbh u++qbh v∧q=d:=by
 unfold isAp at h
 split at h
 ·cases h;exact ⟨_,_,_,_,_,_,rfl,rfl,rfl⟩
 ·cases h
theorem qou {x i:IOper} (h:qkw x i=true) :
  (∃ rx ri,qaZ x=some rx∧qaZ i=some ri∧sepI x i rx ri=true)∨
  (∃ rx b d f args,qaZ x=some rx∧i=⟨d,.dcall b f args,none⟩∧qmF b x.op=true∧sepI x i rx (qdr args)=true)∨
  (∃ ri b d f args,qaZ i=some ri∧x=⟨d,.dcall b f args,none⟩∧qmF b i.op=true∧sepI x i (qdr args) ri=true)∨
  (∃ rx d ri,qaZ x=some rx∧isN i=some (d,ri)∧qnk x.op=true∧sepI x i rx ri=true)∨
  (∃ d rx ri,isN x=some (d,rx)∧qaZ i=some ri∧qnk i.op=true∧sepI x i rx ri=true)∨
  (∃ d rx e ri,isN x=some (d,rx)∧isN i=some (e,ri)∧sepI x i rx ri=true)∨
  (∃ d rx e f args,isN x=some (d,rx)∧i=⟨e,.dcall true f args,none⟩∧sepI x i rx (qdr args)=true)∨
  (∃ d f args e ri,x=⟨d,.dcall true f args,none⟩∧isN i=some (e,ri)∧sepI x i (qdr args) ri=true)∨
  (∃ rx sz p y,qaZ x=some rx∧i=⟨none,.st sz p y,none⟩∧nol x.op=true∧sepI x i rx (qbh p++qbh y)=true)∨
  (∃ ri sz p y,qaZ i=some ri∧x=⟨none,.st sz p y,none⟩∧nol i.op=true∧sepI x i (qbh p++qbh y) ri=true)∨
  (∃ ri d e z b u v,qaZ i=some ri∧x=⟨some d,.app e z b u v,none⟩∧qxU i.op=true∧i.guard=none∧sepI x i (qbh u++qbh v) ri=true)∨
  (∃ rx n ri,qaZ x=some rx∧isSk i=some (n,ri)∧nolN n x.op=true∧sepI x i rx ri=true):=by
 unfold qkw at h
 split at h
 ·rename_i rx ri h1 h2;exact .inl ⟨rx,ri,h1,h2,h⟩
 ·rename_i rx h1 h2
  split at h
  ·rename_i b l e
   obtain ⟨d,f,args,rfl,rfl⟩:=qrn e
   simp only [zq] at h
   exact .inr (.inl ⟨rx,b,d,f,args,h1,rfl,h.1,h.2⟩)
  ·split at h
   ·rename_i q ri e
    simp only [zq] at h
    exact .inr (.inr (.inr (.inl ⟨rx,_,ri,h1,e,h.1,h.2⟩)))
   ·split at h
    ·rename_i ri e
     obtain ⟨sz,p,y,rfl,rfl⟩:=qv9 e
     simp only [zq] at h
     exact .inr (.inr (.inr (.inr (.inr (.inr (.inr (.inr (.inl ⟨rx,_,_,_,h1,rfl,h.1,h.2⟩))))))))
    ·split at h
     ·rename_i n ri e
      simp only [zq] at h
      exact .inr (.inr (.inr (.inr (.inr (.inr (.inr (.inr (.inr (.inr (.inr ⟨rx,_,_,h1,e,h.1,h.2⟩))))))))))
     ·cases h
 ·rename_i ri h1 h2
  split at h
  ·rename_i b l e
   obtain ⟨d,f,args,rfl,rfl⟩:=qrn e
   simp only [zq] at h
   exact .inr (.inr (.inl ⟨ri,b,d,f,args,h2,rfl,h.1,h.2⟩))
  ·split at h
   ·rename_i q rx e
    simp only [zq] at h
    exact .inr (.inr (.inr (.inr (.inl ⟨_,rx,ri,e,h2,h.1,h.2⟩))))
   ·split at h
    ·rename_i rx e
     obtain ⟨sz,p,y,rfl,rfl⟩:=qv9 e
     simp only [zq] at h
     exact .inr (.inr (.inr (.inr (.inr (.inr (.inr (.inr (.inr (.inl ⟨ri,_,_,_,h2,rfl,h.1,h.2⟩)))))))))
    ·split at h
     ·rename_i q rx e
      obtain ⟨d,e',z,b,u,v,rfl,rfl,rfl⟩:=qAA e
      simp only [zq,Option.isNone_iff_eq_none] at h
      exact .inr (.inr (.inr (.inr (.inr (.inr (.inr (.inr (.inr (.inr (.inl ⟨ri,_,_,_,_,_,_,h2,rfl,h.1,h.2.1,h.2.2⟩))))))))))
     ·cases h
 ·split at h
  ·rename_i d rx e ri e1 e2
   exact .inr (.inr (.inr (.inr (.inr (.inl ⟨_,_,_,_,e1,e2,h⟩)))))
  ·rename_i d rx e1 e2
   split at h
   ·rename_i b ri e3
    obtain ⟨d,f,args,rfl,rfl⟩:=qrn e3
    simp only [zq] at h
    obtain ⟨rfl,h⟩:=h
    exact .inr (.inr (.inr (.inr (.inr (.inr (.inl ⟨_,_,_,_,_,e1,rfl,h⟩))))))
   ·cases h
  ·rename_i d ri e1 e2
   split at h
   ·rename_i b rx e3
    obtain ⟨d,f,args,rfl,rfl⟩:=qrn e3
    simp only [zq] at h
    obtain ⟨rfl,h⟩:=h
    exact .inr (.inr (.inr (.inr (.inr (.inr (.inr (.inl ⟨_,_,_,_,_,rfl,e2,h⟩)))))))
   ·cases h
  ·cases h
theorem qxk {k:Key} {cs cs':List AV} {t:TypeId} (hl:Zar L k=some (.box cs t)) (v:AV):Zv (Zas L k (.box cs' t)) v=Zv L v:=by
 cases v with
 |row k'=>
  simp only [Zv,qab]
  by_cases h:k'=k
  ·subst h;simp [hl]
  ·simp [h]
 |p x=>cases x<;>rfl
 |_=>rfl
theorem qxO {k:Key} {cs cs':List AV} {t:TypeId} (hl:Zar L k=some (.box cs t)) (v:AV):Zax (Zas L k (.box cs' t)) v=Zax L v:=by
 cases v with
 |row k'=>
  simp only [Zax,qab]
  by_cases h:k'=k
  ·subst h;simp [hl]
  ·simp [h]
 |p x=>cases x<;>rfl
 |_=>rfl
theorem qtZ {b:Bool} {op:IOp} {k:Key} {cs cs':List AV} {t:TypeId} (hf:qmF b op=true) (hr:(qdX op).isSome=true) (hl:Zar L k=some (.box cs t)) (hb:b=true→∃ j,k=.b j):core P E Y fr (Zas L k (.box cs' t)) op=core P E Y fr L op:=by
 cases op<;>simp only [qdX,Option.isSome_some,Option.isSome_none,yd] at hr
 case ld=>simp [qmF] at hf
 case ldn=>simp [qmF] at hf
 case pcall=>simp [qmF] at hf
 case pcv=>simp [qmF] at hf
 case mpl=>simp [qmF] at hf
 case mpn=>simp [qmF] at hf
 case len x=>simp only [core,Ze,qxO hl]
 case b2s x=>simp only [core,Ze,qxk hl]
 case ixa z x y=>
  simp only [core,Ze]
  split
  ·rfl
  ·rename_i k' _ _ _ _ _
   rw [qab]
   by_cases h:k'=k
   ·subst h;simp [hl]
   ·simp [h]
  ·rfl
 case ldl s a x=>
  simp only [qmF] at hf
  obtain ⟨j,rfl⟩:=hb hf
  simp only [core,Ze]
  split
  ·rfl
  ·rw [qab,if_neg (by simp)]
  ·rw [qab,if_neg (by simp)]
  ·rfl
 all_goals rfl
theorem qu5 {b:Bool} {i:IOper} {k:Key} {cs cs':List AV} {t:TypeId} (hf:qmF b i.op=true) (hr:(qaZ i).isSome=true) (hl:Zar L k=some (.box cs t)) (hb:b=true→∃ j,k=.b j):sx P E Y fr (Zas L k (.box cs' t)) i=sx P E Y fr L i:=by
 have hA:(qdX i.op).isSome=true:=by simpa [qaZ] using hr
 unfold sx
 split
 ·exact qtZ hf hA hl hb
 ·rw [qtZ hf hA hl hb]
theorem qmq {d:Option Nat} {r:AV} {ps:List Opd} (h:∀ e,d=some e→e∉qdr ps):Zl (Zf fr d r) ps=Zl fr ps:=by
 cases d with
 |none=>rfl
 |some e=>exact qnL (h e rfl)
theorem qmo {d:Option Nat} {r:AV} {ps:List Opd} (h:∀ e,d=some e→e∉qdr ps):Zm (Zf fr d r) ps=Zm fr ps:=by
 cases d with
 |none=>rfl
 |some e=>exact qnK (h e rfl)
theorem qfK {d e:Option Nat} {r q:AV} (h:∀ a b,d=some a→e=some b→a≠b):Zf (Zf fr d r) e q=Zf (Zf fr e q) d r:=by
 cases d with
 |none=>rfl
 |some d=>cases e with
  |none=>rfl
  |some e=>simp only [Zf];rw [List.set_comm _ _ (h d e rfl rfl)]
theorem qn2 {K:Key} {es:List (List AV)} (h:∀ x∈es,∀ y∈x,y.kill K=y) (i o:Nat):((es.getD i []).getD o .any).kill K=(es.getD i []).getD o .any:=by
 rw [zD,zD]
 cases hq:es[i]? with
 |none=>simp [AV.kill]
 |some q=>
  simp only [yt]
  cases hx:q[o]? with
  |none=>simp [AV.kill]
  |some y=>simpa using h q (zx hq) y (zx hx)
theorem qAw {K:Key} {kv:List (List UInt8×AV)} {s:List UInt8} {z:AV} (h:∀ x∈kv,x.2.kill K=x.2) (hz:z.kill K=z):((mpF kv s).getD z).kill K=(mpF kv s).getD z:=by
 induction kv with
 |nil=>simpa [mpF] using hz
 |cons p r ih=>
  simp only [mpF]
  split
  ·simpa using h p (by simp)
  ·exact ih fun x hx=>h x (by simp [hx])
theorem qt0 {K:Key} {op:IOp} {c:Prop} {r:AV} (hr:(qdX op).isSome=true) (hF:fr.map (·.kill K)=fr) (hL:Zat K L=L) (h:core P E Y fr L op=some (c,r)):r.kill K=r:=by
 cases op<;>simp only [qdX,Option.isSome_some,Option.isSome_none,yd] at hr<;>simp only [core,Ze] at h
 case mov x=>cases h;exact qqW hF x
 case ixa z x y=>
  split at h
  ·split at h
   ·cases h;rfl
   ·cases h
  ·rename_i c1 k c2 y1 n e1 e2
   split at h
   ·split at h
    ·cases h;exact qpy (qk0 (qeN hF e1))
    ·cases h
   ·split at h
    ·cases h;exact qpy (qk0 (qeN hF e1))
    ·cases h
   ·cases h
  ·cases h
 case fla o x=>
  split at h
  ·rename_i e;cases h;exact qsY (qrQ (qiq hF e))
  ·rename_i e;cases h;exact qpy (qqX (qiq hF e))
  ·cases h;rfl
  ·cases h
 case nck x=>
  split at h
  ·rename_i e;cases h;exact qsY (qrQ (qiq hF e))
  ·rename_i e;cases h;exact qpy (qqX (qiq hF e))
  ·cases h;rfl
  ·cases h
 case ld sz ag x=>
  split at h
  ·split at h
   ·cases h;rfl
   ·cases h
  ·split at h
   ·split at h
    ·cases h;rfl
    ·cases h
   ·rename_i es t z' hl
    split at h
    ·cases h
     have hh:=rowv_fix.1 (qbs hL hl)
     exact qn2 hh _ _
    ·cases h
   ·cases h
  ·split at h
   ·rename_i cs t hl
    split at h
    ·split at h
     ·obtain ⟨q,_,e⟩:=zp.1 h;cases e;rfl
     ·cases h
      exact qp5 (box_fix.1 (qbs hL hl))
    ·cases h
   ·cases h
  ·cases h
 case ldl sz ag x=>
  split at h
  ·split at h
   ·cases h;rfl
   ·cases h
  ·split at h
   ·split at h
    ·cases h;rfl
    ·cases h
   ·rename_i es t z' hl
    split at h
    ·cases h
     have hh:=rowv_fix.1 (qbs hL hl)
     exact qn2 hh _ _
    ·cases h
   ·cases h
  ·split at h
   ·rename_i cs t hl
    split at h
    ·split at h
     ·obtain ⟨q,_,e⟩:=zp.1 h;cases e;rfl
     ·cases h
      exact qp5 (box_fix.1 (qbs hL hl))
    ·cases h
   ·cases h
  ·cases h
 case ldn n sz ag x=>
  split at h
  ·split at h
   ·cases h;rfl
   ·cases h
  ·split at h
   ·cases h
   ·split at h
    ·split at h
     ·cases h;rfl
     ·cases h
    ·rename_i es t z' hl
     split at h
     ·cases h
      have hh:=rowv_fix.1 (qbs hL hl)
      exact qn2 hh _ _
     ·cases h
    ·cases h
  ·split at h
   ·cases h
   ·split at h
    ·rename_i cs t hl
     split at h
     ·split at h
      ·obtain ⟨q,_,e⟩:=zp.1 h;cases e;rfl
      ·cases h
       exact qp5 (box_fix.1 (qbs hL hl))
     ·cases h
    ·cases h
  ·cases h
 case bldg zero ps=>
  obtain ⟨q,e1,e⟩:=zp.1 h
  cases e
  exact ag_fix.2 (qnI hF e1 (anyK_false.2 fun x hx=>by obtain ⟨y,_,rfl⟩:=zN.1 hx;rfl))
 case mpl ok zero m k=>
  split at h
  ·split at h
   ·cases h;rfl
   ·rename_i hl
    split at h
    ·cases h
     exact qAw (mapv_fix.1 (qbs hL hl)) rfl
    ·cases h
   ·cases h
  ·cases h;rfl
  ·cases h
 case ext i x=>
  split at h
  ·split at h
   ·cases h;rfl
   ·cases h
  ·rename_i e
   split at h
   ·cases h
    exact qn3 (qCE (qeN hF e))
   ·obtain ⟨q,_,e⟩:=zp.1 h;cases e;rfl
  ·cases h
 all_goals first
  |(cases h;rfl)
  |(obtain ⟨q,_,e⟩:=zp.1 h;cases e;rfl)
  |((repeat' split at h)<;>first|(cases h;rfl)|(cases h;done)|(obtain ⟨q,_,e⟩:=zp.1 h;cases e;rfl))
theorem qu6 {K:Key} {i:IOper} {c:Prop} {r:AV} (hr:(qaZ i).isSome=true) (hF:fr.map (·.kill K)=fr) (hL:Zat K L=L) (h:sx P E Y fr L i=some (c,r)):r.kill K=r:=by
 have hA:(qdX i.op).isSome=true:=by simpa [qaZ] using hr
 unfold sx at h
 split at h
 ·exact qt0 hA hF hL h
 ·split at h
  ·split at h
   ·rename_i q e
    cases h
    have:=qt0 (P:=P) (E:=E) (Y:=Y) (c:=q.1) (r:=q.2) hA hF hL e
    simp only [AV.kill,this]
   ·split at h
    ·cases h;rfl
    ·cases h
  ·cases h
theorem qvd {K:Key} {a:AO} {v:AV} (h:v.kill K=v):Zv (Zas L K a) v=Zv L v:=by
 cases v with
 |row k'=>simp only [Zv,qab,if_neg (qk0 h)]
 |p x=>cases x<;>rfl
 |_=>rfl
theorem qvW {K:Key} {a:AO} {v:AV} (h:v.kill K=v):Zax (Zas L K a) v=Zax L v:=by
 cases v with
 |row k'=>simp only [Zax,qab,if_neg (qk0 h)]
 |p x=>cases x<;>rfl
 |_=>rfl
theorem qrB {K:Key} {a:AO} {op:IOp} (hf:qnk op=true) (hr:(qdX op).isSome=true) (hF:fr.map (·.kill K)=fr):core P E Y fr (Zas L K a) op=core P E Y fr L op:=by
 cases op<;>simp only [qdX,Option.isSome_some,Option.isSome_none,yd] at hr
 case pcall=>simp [qnk] at hf
 case pcv=>simp [qnk] at hf
 case len x=>simp only [core,Ze,qvW (qtf (qqW hF x))]
 case b2s x=>simp only [core,Ze,qvd (qtf (qqW hF x))]
 case ixa z x y=>
  simp only [core,Ze]
  split
  ·rfl
  ·rename_i e1 e2
   rw [qab,if_neg (qk0 (qeN hF e1))]
  ·rfl
 case ld s ag x=>
  simp only [core,Ze]
  split
  ·rfl
  ·rename_i e
   rw [qab,if_neg (qqX (qiq hF e))]
  ·rename_i e
   rw [qab,if_neg (qrQ (qiq hF e))]
  ·rfl
 case ldl s ag x=>
  simp only [core,Ze]
  split
  ·rfl
  ·rename_i e
   rw [qab,if_neg (qqX (qiq hF e))]
  ·rename_i e
   rw [qab,if_neg (qrQ (qiq hF e))]
  ·rfl
 case ldn n s ag x=>
  simp only [core,Ze]
  split
  ·rfl
  ·rename_i e
   rw [qab,if_neg (qqX (qiq hF e))]
  ·rename_i e
   rw [qab,if_neg (qrQ (qiq hF e))]
  ·rfl
 case mpl o z x y=>
  simp only [core,Ze]
  split
  ·rename_i e1 e2
   rw [qab,if_neg (qAv (qeN hF e1))]
  ·rfl
  ·rfl
 case mpn x=>
  simp only [core,Ze]
  split
  ·rename_i e1
   rw [qab,if_neg (qAv (qeN hF e1))]
  ·rfl
  ·rfl
 all_goals rfl
theorem qse {K:Key} {a:AO} {i:IOper} (hf:qnk i.op=true) (hr:(qaZ i).isSome=true) (hF:fr.map (·.kill K)=fr):sx P E Y fr (Zas L K a) i=sx P E Y fr L i:=by
 have hA:(qdX i.op).isSome=true:=by simpa [qaZ] using hr
 unfold sx
 split
 ·exact qrB hf hA hF
 ·rw [qrB hf hA hF]
def nx (P:Program) (E:Envt) (Y:List PV) (fr:List AV):IOper→Option (Prop×AV×AO)
 |⟨some d,.alcd t zero,none⟩=>some (True,.adr (.l d) 0,.box (zero.map .p) t)
 |⟨some d,.bsrd e z parts,none⟩=>if qo3 parts=true then none else (Zan fr z parts).map fun q=>(q.1,.row (.l d),.row q.2 e z true)
 |⟨some d,.fcl n f args e z,none⟩=>match qiC (Zm fr args),Y.getD n (.bool false) with
  |some ps,.sl z' es=>some (Zl fr args∧z'=z∧FrC P E f ps e z es,.row (.l d),.row es e z true)
  |_,_=>none
 |_=>none
theorem qpa {i:IOper} {d:Nat} {l:List Nat} (h:isN i=some (d,l)):(∃ t zero,i=⟨some d,.alcd t zero,none⟩∧l=[])∨(∃ e z parts,i=⟨some d,.bsrd e z parts,none⟩∧l=qdr parts)∨∃ n f args e z,i=⟨some d,.fcl n f args e z,none⟩∧l=qdr args:=by
 unfold isN at h
 split at h
 ·cases h;exact .inl ⟨_,_,rfl,rfl⟩
 ·cases h;exact .inr (.inl ⟨_,_,_,rfl,rfl⟩)
 ·cases h;exact .inr (.inr ⟨_,_,_,_,_,rfl,rfl⟩)
 ·cases h
theorem qj9 {i:IOper} {d:Nat} {l:List Nat} (h:isN i=some (d,l)):i.dst=some d:=by
 rcases qpa h with ⟨t,zero,rfl,_⟩|⟨e,z,parts,rfl,_⟩|⟨n,f,args,e,z,rfl,_⟩<;>rfl
theorem qaG {i:IOper} {is:List IOper} {K:List AV→Objs→Prop} {d:Nat} {l:List Nat} (hi:isN i=some (d,l)):qaa P E Y (i :: is) fr L K↔(Zal d fr L∧Zar L (.l d)=some Zam)∧∃ c r ao,nx P E Y fr i=some (c,r,ao)∧c∧qaa P E Y is (fr.set d r) (Zas L (.l d) ao) K:=by
 rcases qpa hi with ⟨t,zero,rfl,_⟩|⟨e,z,parts,rfl,_⟩|⟨n,f,args,e,z,rfl,_⟩
 ·simp only [qaa,Zd,nx,zn,zw]
  exact ⟨fun ⟨h1,h2⟩=>⟨h1,_,_,_,⟨rfl,rfl,rfl⟩,trivial,h2⟩,fun ⟨h1,_,_,_,⟨rfl,rfl,rfl⟩,_,h2⟩=>⟨h1,h2⟩⟩
 ·simp only [qaa,Zd,nx]
  cases Zan fr z parts with
  |none=>simp
  |some q=>
   obtain ⟨c,es⟩:=q
   cases qo3 parts
   rotate_left
   ·simp
   simp only [zL,zn,zw,yd,if_false]
   exact ⟨fun ⟨⟨h1,hc⟩,h2⟩=>⟨h1,_,_,_,⟨rfl,rfl,rfl⟩,hc,h2⟩,fun ⟨h1,_,_,_,⟨rfl,rfl,rfl⟩,hc,h2⟩=>⟨⟨h1,hc⟩,h2⟩⟩
 ·simp only [qaa,nx]
  cases qiC (Zm fr args) with
  |none=>simp
  |some ps=>
   cases Y.getD n (.bool false) with
   |sl z' es=>
    simp only [zn,zw]
    exact ⟨fun ⟨⟨h1,hc⟩,h2⟩=>⟨h1,_,_,_,⟨rfl,rfl,rfl⟩,hc,h2⟩,fun ⟨h1,_,_,_,⟨rfl,rfl,rfl⟩,hc,h2⟩=>⟨⟨h1,hc⟩,h2⟩⟩
   |_=>simp
theorem qlb {i:IOper} {d:Nat} {l:List Nat} {e:Option Nat} {q:AV} (hi:isN i=some (d,l)) (he:∀ x,e=some x→x∉l):nx P E Y (Zf fr e q) i=nx P E Y fr i:=by
 cases e with
 |none=>rfl
 |some e=>
  have he:=he e rfl
  rcases qpa hi with ⟨t,zero,rfl,_⟩|⟨e',z,parts,rfl,rfl⟩|⟨n,f,args,e',z,rfl,rfl⟩
  ·rfl
  ·simp only [nx,Zf]
   rw [qt5 he]
  ·simp only [nx,Zf]
   rw [qnL he,qnK he]
theorem qy4 {i:IOper} {d e:Nat} {l:List Nat} {c:Prop} {r:AV} {ao:AO} (hi:isN i=some (d,l)) (hne:d≠e) (h:nx P E Y fr i=some (c,r,ao)):r.kill (.l e)=r∧ao.kill (.l e)=ao:=by
 rcases qpa hi with ⟨t,zero,rfl,_⟩|⟨e',z,parts,rfl,rfl⟩|⟨n,f,args,e',z,rfl,rfl⟩
 rotate_right
 ·simp only [nx] at h
  split at h
  ·simp only [zn,zw] at h
   obtain ⟨_,rfl,rfl⟩:=h
   exact ⟨qn3 (by simpa using hne),rfl⟩
  ·cases h
 ·simp only [nx,zn,zw] at h
  obtain ⟨_,rfl,rfl⟩:=h
  exact ⟨qsY (by simpa using hne),box_fix.2 (fun x hx=>by obtain ⟨y,_,rfl⟩:=zN.1 hx;rfl)⟩
 ·simp only [nx] at h
  split at h
  ·cases h
  simp only [zp,zw] at h
  obtain ⟨q,_,_,rfl,rfl⟩:=h
  exact ⟨qn3 (by simpa using hne),rfl⟩
theorem qsi {K:Key} {d:Option Nat} {r:AV} (hF:fr.map (·.kill K)=fr) (hr:r.kill K=r):(Zf fr d r).map (·.kill K)=Zf fr d r:=by
 cases d with
 |none=>exact hF
 |some d=>simp only [Zf,List.map_set,hF,hr]
theorem Zal.put {d:Nat} {e:Option Nat} {r:AV} {k:Key} {a:AO} (h:Zal d fr L) (hr:r.kill (.l d)=r) (ha:a.kill (.l d)=a):Zal d (Zf fr e r) (Zas L k a):=⟨qsi h.1 hr,qgk h.2 ha⟩
theorem Zal.set {d:Nat} {e:Option Nat} {r:AV} (h:Zal d fr L) (hr:r.kill (.l d)=r):Zal d (Zf fr e r) L:=⟨qsi h.1 hr,h.2⟩
theorem qmm {K:Key} {cs:List PV} {t:TypeId}:(AO.box (cs.map .p) t).kill K=.box (cs.map .p) t:=box_fix.2 (fun x hx=>by obtain ⟨y,_,rfl⟩:=zN.1 hx;rfl)
def stx (fr:List AV) (L:Objs) (sz:Nat) (p x:Opd):Option (Prop×Objs):=(Zd none fr L (.st sz p x)).map fun q=>(q.1,q.2.2)
theorem qm0 {K:Key} {es:List (List AV)} {e z z0 i o:Nat} {ds:List AV} (h:(AO.rowv es e z0).kill K=.rowv es e z0) (hd:∀ x∈ds,x.kill K=x):(AO.rowv (es.set i (Zab (es.getD i []) o ds)) e z).kill K=.rowv (es.set i (Zab (es.getD i []) o ds)) e z:=by
 rw [rowv_fix] at h ⊢
 intro x hx
 rcases yb hx with hx|rfl
 ·exact h x hx
 ·refine qeC (fun y hy=>?_) hd
  rw [zD] at hy
  cases hg:es[i]? with
  |none=>rw [hg] at hy;cases hy
  |some q=>rw [hg] at hy;exact h q (zx hg) y hy
theorem qy0 {d:Option Nat} {sz:Nat} {p x:Opd} {c:Prop} {fr':List AV} {L':Objs} (h:Zd d fr L (.st sz p x)=some (c,fr',L')):fr'=fr∧∀ K:Key,fr.map (·.kill K)=fr→Zat K L=L→Zat K L'=L':=by
 simp only [Zd] at h
 split at h
 ·split at h
  ·rename_i hl
   split at h
   ·cases h
    exact ⟨rfl,fun K hF hL=>qgk hL (box_fix.2 (qeC (box_fix.1 (qbs hL hl)) (fun x hx=>by obtain ⟨y,_,rfl⟩:=zN.1 hx;rfl)))⟩
   ·cases h
  ·cases h
 ·rename_i e1 e2
  split at h
  ·rename_i hl
   split at h
   ·cases h
    exact ⟨rfl,fun K hF hL=>qgk hL (box_fix.2 (qeC (box_fix.1 (qbs hL hl)) (fun x hx=>by simp only [zF] at hx;subst hx;exact qeN hF e2)))⟩
   ·cases h
  ·cases h
 ·rename_i e1 e2
  split at h
  ·rename_i hl hl2
   split at h
   ·cases h
    exact ⟨rfl,fun K hF hL=>qgk hL (box_fix.2 (qeC (box_fix.1 (qbs hL hl)) (fun x hx=>by simp only [zF] at hx;subst hx;exact qeN hF e2)))⟩
   ·cases h
  ·cases h
 ·rename_i e1 e2
  split at h
  ·rename_i hl
   split at h
   ·cases h
    exact ⟨rfl,fun K hF hL=>qgk hL (box_fix.2 (qeC (box_fix.1 (qbs hL hl)) (fun x hx=>by simp only [zF] at hx;subst hx;rfl)))⟩
   ·cases h
  ·cases h
 ·split at h
  ·split at h
   ·cases h
    exact ⟨rfl,fun K hF hL=>qgk hL rfl⟩
   ·cases h
  ·rename_i hl
   split at h
   ·cases h
    exact ⟨rfl,fun K hF hL=>qgk hL (qm0 (z0:=_) (qbs hL hl) (fun x hx=>by obtain ⟨y,_,rfl⟩:=zN.1 hx;rfl))⟩
   ·cases h
  ·cases h
 ·rename_i e1 e2
  split at h
  ·rename_i hl
   split at h
   ·cases h
    exact ⟨rfl,fun K hF hL=>qgk hL (qm0 (z0:=_) (qbs hL hl) (fun x hx=>by simp only [zF] at hx;subst hx;exact qeN hF e2))⟩
   ·cases h
  ·cases h
 ·cases h
theorem qa2 {sz:Nat} {p x:Opd} {is:List IOper} {K:List AV→Objs→Prop}:qaa P E Y (⟨none,.st sz p x,none⟩ :: is) fr L K↔∃ c L',stx fr L sz p x=some (c,L')∧c∧qaa P E Y is fr L' K:=by
 simp only [qaa,stx]
 cases hq:Zd none fr L (.st sz p x) with
 |none=>simp
 |some q=>
  obtain ⟨c,fr',L'⟩:=q
  obtain ⟨rfl,_⟩:=qy0 hq
  simp only [zL,zn,zw]
  exact ⟨fun ⟨h1,h2⟩=>⟨c,L',⟨rfl,rfl⟩,h1,h2⟩,fun ⟨_,_,⟨rfl,rfl⟩,h1,h2⟩=>⟨h1,h2⟩⟩
theorem qlD {sz:Nat} {p x:Opd} {d:Option Nat} {r:AV} (h:∀ e,d=some e→e∉qbh p++qbh x):stx (Zf fr d r) L sz p x=stx fr L sz p x:=by
 cases d with
 |none=>rfl
 |some e=>
  have:=h e rfl
  simp only [zJ,not_or] at this
  simp only [stx,Zf,Zd,qaC this.1,qaC this.2]
  split
  ·split
   ·split<;>rfl
   ·rfl
  ·split
   ·split<;>rfl
   ·rfl
  ·split
   ·split<;>rfl
   ·rfl
  ·split
   ·split<;>rfl
   ·rfl
  ·split
   ·split<;>rfl
   ·split<;>rfl
   ·rfl
  ·split
   ·split<;>rfl
   ·rfl
  ·rfl
theorem qyZ {L':Objs} {i:IOper} (hf:nol i.op=true):sx P E Y fr L' i=sx P E Y fr L i:=by
 have e:core P E Y fr L' i.op=core P E Y fr L i.op:=by
  cases hq:i.op<;>rw [hq] at hf<;>simp only [nol,yd] at hf<;>rfl
 unfold sx
 rw [e]
theorem qpY (a:AV) (K:Key):(a.kill K).un=(a.un.1,a.un.2.kill K):=by
 induction a with
 |g c a ih=>simp only [AV.kill,AV.un,ih]
 |p x=>rfl
 |row k=>simp only [AV.kill];split<;>simp [AV.un,AV.kill, *]
 |adr k o=>simp only [AV.kill];split<;>simp [AV.un,AV.kill, *]
 |rad k z i o=>simp only [AV.kill];split<;>simp [AV.un,AV.kill, *]
 |ipt z es i o=>rfl
 |mp k=>simp only [AV.kill];split<;>simp [AV.un,AV.kill, *]
 |fn f ks=>simp only [AV.kill];split<;>simp [AV.un,AV.kill, *]
 |ag cs=>simp only [AV.kill];split<;>simp [AV.un,AV.kill, *]
 |tr k ps=>simp only [AV.kill];split<;>simp [AV.un,AV.kill, *]
 |any=>rfl
theorem qxT (a:AV) (K:Key):(a.kill K).un.1=a.un.1:=by rw [qpY]
theorem qxS (a:AV) (K:Key):(a.kill K).un.2=a.un.2.kill K:=by rw [qpY]
theorem qCd {a:AV} {K:Key} {x:PV} (h:a.kill K=.p x):a=.p x:=by
 cases a<;>simp only [AV.kill,reduceCtorEq] at h
 case p=>exact h
 all_goals (split at h<;>cases h)
theorem qfI (K:Key) (x:Opd):rd (fr.map (·.kill K)) x=(rd fr x).kill K:=by
 cases x with
 |t i=>
  simp only [rd,zD,zz]
  cases fr[i]?<;>rfl
 |c x=>rfl
 |f n=>simp [rd,AV.kill]
 |gl g=>rfl
theorem qjS {a:AV} {K:Key} {c:Prop} {x:PV} (h:(a.kill K).un=(c,.p x)):a.un=(c,.p x):=by
 rw [qpY,zw] at h
 exact Prod.ext h.1 (qCd h.2)
theorem qsc {a:AV} {K k:Key} {c:Prop} (h:(a.kill K).un=(c,.row k)):a.un=(c,.row k)∧k≠K:=by
 rw [qpY,zw] at h
 obtain ⟨h1,h2⟩:=h
 generalize a.un=q at h1 h2 ⊢
 obtain ⟨q1,v⟩:=q
 simp only at h1 h2
 subst h1
 cases v<;>simp only [AV.kill,reduceCtorEq] at h2
 case row k'=>
  split at h2
  ·cases h2
  ·rename_i hk;cases h2;exact ⟨rfl,hk⟩
 all_goals (split at h2<;>cases h2)
theorem qt7 {n dflt:Nat} {K:Key} {h:Option Opd} {q:Prop×Nat} (hq:Zu n (h.map (rd (fr.map (·.kill K)))) dflt=some q):Zu n (h.map (rd fr)) dflt=some q:=by
 cases h with
 |none=>exact hq
 |some x=>
  simp only [zL,qfI] at hq ⊢
  simp only [Zu] at hq ⊢
  split at hq
  ·rename_i e1
   rw [qjS e1]
   exact hq
  ·cases hq
theorem qjr {v:AV} {K k:Key} {o:Nat} (h:(v.kill K).ad=.adr k o):v.ad=.adr k o∧k≠K:=by
 cases v with
 |adr k' o'=>
  simp only [AV.kill] at h
  split at h
  ·cases h
  ·rename_i hk
   simp only [AV.ad,AV.adr.injEq] at h
   obtain ⟨rfl,rfl⟩:=h
   exact ⟨rfl,hk⟩
 |p x=>cases x<;>simp [AV.kill,AV.ad] at h
 |ipt z es i o'=>simp [AV.kill,AV.ad] at h
 |any=>simp [AV.kill,AV.ad] at h
 |g c a=>simp [AV.kill,AV.ad] at h
 |_=>simp only [AV.kill] at h;split at h<;>simp [AV.ad] at h
theorem qjp {v:AV} {K k:Key} {z i o:Nat} (h:(v.kill K).ad=.rad k z i o):v.ad=.rad k z i o∧k≠K:=by
 cases v with
 |rad k' z' i' o'=>
  simp only [AV.kill] at h
  split at h
  ·cases h
  ·rename_i hk
   simp only [AV.ad,AV.rad.injEq] at h
   obtain ⟨rfl,rfl,rfl,rfl⟩:=h
   exact ⟨rfl,hk⟩
 |p x=>cases x<;>simp [AV.kill,AV.ad] at h
 |ipt z es i o'=>simp [AV.kill,AV.ad] at h
 |any=>simp [AV.kill,AV.ad] at h
 |g c a=>simp [AV.kill,AV.ad] at h
 |_=>simp only [AV.kill] at h;split at h<;>simp [AV.ad] at h
theorem qjq {v:AV} {K:Key} {z i o:Nat} {es:List (List PV)} (h:(v.kill K).ad=.ipt z es i o):v.ad=.ipt z es i o:=by
 cases v with
 |p x=>exact h
 |ipt z' es' i' o'=>exact h
 |any=>simp [AV.kill,AV.ad] at h
 |g c a=>simp [AV.kill,AV.ad] at h
 |_=>simp only [AV.kill] at h;split at h<;>simp [AV.ad] at h
theorem qnv {a:AV} {K:Key}:(a.kill K).unA=(a.un.1,(a.un.2.kill K).ad):=by simp only [AV.unA,qxT,qxS]
theorem qov {K:Key}:∀ {l:List AV} {ps:List PV},Zw (l.map (·.kill K))=some ps→Zw l=some ps
 |[],_,h=>h
 |a :: r,ps,h=>by
  cases a with
  |p x=>
   simp only [zk,AV.kill,Zw] at h ⊢
   obtain ⟨q,h1,h2⟩:=zp.1 h
   rw [qov h1,zL,h2]
  |ipt z es i o=>simp [AV.kill,Zw] at h
  |any=>simp [AV.kill,Zw] at h
  |g c a=>simp [AV.kill,Zw] at h
  |_=>simp only [zk,AV.kill] at h;split at h<;>simp [Zw] at h
theorem qkI {K:Key} (cs:List AV) (o:Nat):(cs.map (·.kill K)).getD o .any=(cs.getD o .any).kill K:=by
 simp only [zD,zz]
 cases cs[o]?<;>rfl
theorem qpc {K:Key} (es:List (List AV)) (i:Nat):(es.map (fun x=>x.map (·.kill K))).getD i []=(es.getD i []).map (·.kill K):=by
 simp only [zD,zz]
 cases es[i]?<;>rfl
theorem qfV {K q:Key} {L L':Objs} {ao:AO} (hL:∀ q,q≠K→Zar L' q=(Zar L q).map (AO.kill K)) (hq:q≠K) (h:Zar L' q=some ao):∃ ao',Zar L q=some ao'∧ao=ao'.kill K:=by
 rw [hL q hq,zp] at h
 obtain ⟨x,h1,h2⟩:=h
 exact ⟨x,h1,h2.symm⟩
theorem qwr {K:Key} {op:IOp} {c:Prop} {r:AV} {L':Objs} (hL:∀ q,q≠K→Zar L' q=(Zar L q).map (AO.kill K)) (hf:qxU op=true) (h:core P E Y (fr.map (·.kill K)) L' op=some (c,r)):∃ r',core P E Y fr L op=some (c,r')∧r'.kill K=r:=by
 cases op<;>simp only [qxU,yd] at hf
 case mov x=>
  simp only [core,Ze,qfI,zn,zw] at h ⊢
  exact ⟨_,⟨h.1,rfl⟩,h.2⟩
 case bin op x y=>
  simp only [core,Ze,qfI] at h ⊢
  split at h
  ·rename_i e1 e2
   rw [qjS e1,qjS e2]
   obtain ⟨q,h1,h2⟩:=zp.1 h
   simp only [zw] at h2
   obtain ⟨rfl,rfl⟩:=h2
   exact ⟨.p q.2,by simp only [h1,zL],rfl⟩
  ·cases h
 case sln x=>
  simp only [core,Ze,qfI] at h ⊢
  split at h
  ·rename_i e1
   rw [qjS e1]
   cases h
   exact ⟨_,rfl,rfl⟩
  ·cases h
 case ssl x lo hi=>
  simp only [core,Ze] at h ⊢
  rw [qfI] at h
  split at h
  ·rename_i e1
   rw [qjS e1]
   simp only
   split at h
   ·rename_i e2
    rw [qt7 e2]
    simp only
    obtain ⟨q,h1,h2⟩:=zp.1 h
    rw [qt7 h1]
    cases h2
    exact ⟨_,rfl,rfl⟩
   ·cases h
  ·cases h
 case fla off x=>
  simp only [core,Ze] at h ⊢
  rw [qfI,qnv] at h
  simp only [AV.unA]
  generalize (rd fr x).un.1=c0 at h ⊢
  generalize (rd fr x).un.2=v at h ⊢
  split at h
  ·rename_i e1
   obtain ⟨rfl,e2⟩:=Prod.mk.inj e1
   obtain ⟨e3,hk⟩:=qjr e2
   cases h
   rw [e3]
   exact ⟨_,rfl,by simp only [AV.kill,if_neg hk]⟩
  ·rename_i e1
   obtain ⟨rfl,e2⟩:=Prod.mk.inj e1
   obtain ⟨e3,hk⟩:=qjp e2
   cases h
   rw [e3]
   exact ⟨_,rfl,by simp only [AV.kill,if_neg hk]⟩
  ·rename_i e1
   obtain ⟨rfl,e2⟩:=Prod.mk.inj e1
   cases h
   rw [qjq e2]
   exact ⟨_,rfl,rfl⟩
  ·cases h
 case ixa z x y=>
  simp only [core,Ze,qfI] at h ⊢
  split at h
  ·rename_i e1 e2
   rw [qjS e1,qjS e2]
   simp only
   split at h
   ·rename_i hz
    cases h
    exact ⟨_,by rw [if_pos hz],rfl⟩
   ·cases h
  ·rename_i e1 e2
   obtain ⟨e3,hk⟩:=qsc e1
   rw [e3,qjS e2]
   simp only
   split at h
   ·rename_i hl
    obtain ⟨ao,h1,h2⟩:=qfV hL hk hl
    cases ao<;>simp only [AO.kill,reduceCtorEq,AO.row.injEq] at h2
    obtain ⟨rfl,rfl,rfl,rfl⟩:=h2
    rw [h1]
    simp only
    split at h
    ·rename_i hz
     cases h
     exact ⟨_,by rw [if_pos hz],by simp only [AV.kill,if_neg hk]⟩
    ·cases h
   ·rename_i hl
    obtain ⟨ao,h1,h2⟩:=qfV hL hk hl
    cases ao<;>simp only [AO.kill,reduceCtorEq,AO.rowv.injEq] at h2
    obtain ⟨rfl,rfl,rfl⟩:=h2
    rw [h1]
    simp only
    split at h
    ·rename_i hz
     cases h
     exact ⟨_,by rw [if_pos hz,zB],by simp only [AV.kill,if_neg hk]⟩
    ·cases h
   ·cases h
  ·cases h
 case nck x=>
  simp only [core,Ze] at h ⊢
  rw [qfI,qnv] at h
  simp only [AV.unA]
  generalize (rd fr x).un.1=c0 at h ⊢
  generalize (rd fr x).un.2=v at h ⊢
  split at h
  ·rename_i e1
   obtain ⟨rfl,e2⟩:=Prod.mk.inj e1
   obtain ⟨e3,hk⟩:=qjr e2
   cases h
   rw [e3]
   exact ⟨_,rfl,by simp only [AV.kill,if_neg hk]⟩
  ·rename_i e1
   obtain ⟨rfl,e2⟩:=Prod.mk.inj e1
   obtain ⟨e3,hk⟩:=qjp e2
   cases h
   rw [e3]
   exact ⟨_,rfl,by simp only [AV.kill,if_neg hk]⟩
  ·rename_i e1
   obtain ⟨rfl,e2⟩:=Prod.mk.inj e1
   cases h
   rw [qjq e2]
   exact ⟨_,rfl,rfl⟩
  ·cases h
 case ld sz ag x=>
  simp only [core,Ze] at h ⊢
  rw [qfI,qnv] at h
  simp only [AV.unA]
  generalize (rd fr x).un.1=c0 at h ⊢
  generalize (rd fr x).un.2=v at h ⊢
  split at h
  ·rename_i e1
   obtain ⟨rfl,e2⟩:=Prod.mk.inj e1
   rw [qjq e2]
   simp only
   split at h
   ·rename_i hc
    cases h
    exact ⟨_,by rw [if_pos hc],rfl⟩
   ·cases h
  ·rename_i e1
   obtain ⟨rfl,e2⟩:=Prod.mk.inj e1
   obtain ⟨e3,hk⟩:=qjp e2
   rw [e3]
   simp only
   split at h
   ·rename_i hl
    obtain ⟨ao,h1,h2⟩:=qfV hL hk hl
    cases ao<;>simp only [AO.kill,reduceCtorEq,AO.row.injEq] at h2
    obtain ⟨rfl,rfl,rfl,rfl⟩:=h2
    rw [h1]
    simp only
    split at h
    ·rename_i hc
     cases h
     exact ⟨_,by rw [if_pos hc],rfl⟩
    ·cases h
   ·rename_i hl
    obtain ⟨ao,h1,h2⟩:=qfV hL hk hl
    cases ao<;>simp only [AO.kill,reduceCtorEq,AO.rowv.injEq] at h2
    obtain ⟨rfl,rfl,rfl⟩:=h2
    rw [h1]
    simp only
    split at h
    ·rename_i hc
     cases h
     refine ⟨_,by rw [if_pos hc,zB],?_⟩
     rw [qpc,qkI]
    ·cases h
   ·cases h
  ·rename_i e1
   obtain ⟨rfl,e2⟩:=Prod.mk.inj e1
   obtain ⟨e3,hk⟩:=qjr e2
   rw [e3]
   simp only
   split at h
   ·rename_i hl
    obtain ⟨ao,h1,h2⟩:=qfV hL hk hl
    cases ao<;>simp only [AO.kill,reduceCtorEq,AO.box.injEq] at h2
    obtain ⟨rfl,rfl⟩:=h2
    rw [h1]
    simp only
    rw [zB] at h
    split at h
    ·rename_i hc
     rw [if_pos hc]
     split at h
     ·rename_i ha
      rw [if_pos ha]
      obtain ⟨q,h3,h4⟩:=zp.1 h
      cases h4
      rw [← List.map_drop,← List.map_take] at h3
      rw [qov h3]
      exact ⟨_,rfl,rfl⟩
     ·rename_i ha
      rw [if_neg ha]
      cases h
      exact ⟨_,rfl,(qkI _ _).symm⟩
    ·cases h
   ·cases h
  ·cases h
 case ldl sz ag x=>
  simp only [core,Ze] at h ⊢
  rw [qfI,qnv] at h
  simp only [AV.unA]
  generalize (rd fr x).un.1=c0 at h ⊢
  generalize (rd fr x).un.2=v at h ⊢
  split at h
  ·rename_i e1
   obtain ⟨rfl,e2⟩:=Prod.mk.inj e1
   rw [qjq e2]
   simp only
   split at h
   ·rename_i hc
    cases h
    exact ⟨_,by rw [if_pos hc],rfl⟩
   ·cases h
  ·rename_i e1
   obtain ⟨rfl,e2⟩:=Prod.mk.inj e1
   obtain ⟨e3,hk⟩:=qjp e2
   rw [e3]
   simp only
   split at h
   ·rename_i hl
    obtain ⟨ao,h1,h2⟩:=qfV hL hk hl
    cases ao<;>simp only [AO.kill,reduceCtorEq,AO.row.injEq] at h2
    obtain ⟨rfl,rfl,rfl,rfl⟩:=h2
    rw [h1]
    simp only
    split at h
    ·rename_i hc
     cases h
     exact ⟨_,by rw [if_pos hc],rfl⟩
    ·cases h
   ·rename_i hl
    obtain ⟨ao,h1,h2⟩:=qfV hL hk hl
    cases ao<;>simp only [AO.kill,reduceCtorEq,AO.rowv.injEq] at h2
    obtain ⟨rfl,rfl,rfl⟩:=h2
    rw [h1]
    simp only
    split at h
    ·rename_i hc
     cases h
     refine ⟨_,by rw [if_pos hc,zB],?_⟩
     rw [qpc,qkI]
    ·cases h
   ·cases h
  ·rename_i e1
   obtain ⟨rfl,e2⟩:=Prod.mk.inj e1
   obtain ⟨e3,hk⟩:=qjr e2
   rw [e3]
   simp only
   split at h
   ·rename_i hl
    obtain ⟨ao,h1,h2⟩:=qfV hL hk hl
    cases ao<;>simp only [AO.kill,reduceCtorEq,AO.box.injEq] at h2
    obtain ⟨rfl,rfl⟩:=h2
    rw [h1]
    simp only
    rw [zB] at h
    split at h
    ·rename_i hc
     rw [if_pos hc]
     split at h
     ·rename_i ha
      rw [if_pos ha]
      obtain ⟨q,h3,h4⟩:=zp.1 h
      cases h4
      rw [← List.map_drop,← List.map_take] at h3
      rw [qov h3]
      exact ⟨_,rfl,rfl⟩
     ·rename_i ha
      rw [if_neg ha]
      cases h
      exact ⟨_,rfl,(qkI _ _).symm⟩
    ·cases h
   ·cases h
  ·cases h
theorem qCv {d:Nat} {e z b:Nat} {u v:Opd} {c:Prop} {fr':List AV} {L':Objs} (h:Zd (some d) fr L (.app e z b u v)=some (c,fr',L')) :
  ∃ K,fr'=(fr.map (·.kill K)).set d (.row K)∧(∀ q,q≠K→Zar L' q=(Zar L q).map (AO.kill K))∧∀ fr2:List AV,rd fr2 u=rd fr u→rd fr2 v=rd fr v→Zd (some d) fr2 L (.app e z b u v)=some (c,(fr2.map (·.kill K)).set d (.row K),L'):=by
 simp only [Zd] at h
 split at h
 ·rename_i e1 e2 e3
  cases e1
  split at h
  ·rename_i hl
   split at h
   ·rename_i hc
    cases h
    refine ⟨_,rfl,fun q hq=>by rw [qao,if_neg hq],fun fr2 h1 h2=>?_⟩
    simp only [Zd,h1,h2,e2,e3,hl,if_pos hc]
   ·cases h
  ·rename_i hl
   split at h
   ·rename_i hc
    cases h
    refine ⟨_,rfl,fun q hq=>by rw [qao,if_neg hq],fun fr2 h1 h2=>?_⟩
    simp only [Zd,h1,h2,e2,e3,hl,if_pos hc]
   ·cases h
  ·cases h
 ·rename_i e1 e2 e3
  cases e1
  split at h
  ·rename_i hl hl2
   split at h
   ·rename_i hl3
    split at h
    ·rename_i hc
     cases h
     refine ⟨_,rfl,fun q hq=>by rw [qao,if_neg hq],fun fr2 h1 h2=>?_⟩
     simp only [Zd,h1,h2,e2,e3,hl]
     simp only [hl2,hl3,if_pos hc]
    ·cases h
   ·cases h
  ·cases h
 ·rename_i e1 e2 e3
  cases e1
  split at h
  ·rename_i hc
   cases h
   refine ⟨_,rfl,fun q hq=>by rw [qao,if_neg hq],fun fr2 h1 h2=>?_⟩
   simp only [Zd,h1,h2,e2,e3,if_pos hc]
  ·cases h
 ·cases h
theorem qkv {d:Nat} {e z b:Nat} {u v:Opd} {is:List IOper} {K:List AV→Objs→Prop}:qaa P E Y (⟨some d,.app e z b u v,none⟩ :: is) fr L K↔∃ c fr' L',Zd (some d) fr L (.app e z b u v)=some (c,fr',L')∧c∧qaa P E Y is fr' L' K:=by
 simp only [qaa]
 cases hq:Zd (some d) fr L (.app e z b u v) with
 |none=>simp
 |some q=>
  obtain ⟨c,fr',L'⟩:=q
  simp only [zn,zw]
  exact ⟨fun ⟨h1,h2⟩=>⟨c,fr',L',⟨rfl,rfl,rfl⟩,h1,h2⟩,fun ⟨_,_,_,⟨rfl,rfl,rfl⟩,h1,h2⟩=>⟨h1,h2⟩⟩
theorem qrK {i:IOper} {n:Nat} {l:List Nat} {is:List IOper} {K:List AV→Objs→Prop} (h:isSk i=some (n,l)):qaa P E Y (i :: is) fr L K↔∃ c ao,Zd none fr L i.op=some (c,fr,Zas L (.l n) ao)∧c∧qaa P E Y is fr (Zas L (.l n) ao) K:=by
 have key:∀ q:Option (Prop×List AV×Objs),(∀ c fr' L',q=some (c,fr',L')→fr'=fr∧∃ ao,L'=Zas L (.l n) ao)→((match q with|some (c,fr',L')=>c∧qaa P E Y is fr' L' K|none=>False)↔∃ c ao,q=some (c,fr,Zas L (.l n) ao)∧c∧qaa P E Y is fr (Zas L (.l n) ao) K):=by
  intro q hq
  cases q with
  |none=>simp
  |some q=>
   obtain ⟨c,fr',L'⟩:=q
   obtain ⟨rfl,ao,rfl⟩:=hq _ _ _ rfl
   constructor
   ·exact fun h=>⟨c,ao,rfl,h.1,h.2⟩
   ·rintro ⟨c2,ao2,e,h1,h2⟩
    simp only [zn,zw,true_and] at e
    obtain ⟨rfl,e⟩:=e
    exact ⟨h1,by rw [e];exact h2⟩
 unfold isSk at h
 split at h
 ·cases h
  refine key _ ?_
  intro c fr' L' e
  simp only [Zd] at e
  split at e
  ·split at e
   ·split at e
    ·split at e
     ·cases e;exact ⟨rfl,_,rfl⟩
     ·cases e
    ·cases e
   ·cases e
  ·split at e
   ·split at e
    ·split at e
     ·cases e;exact ⟨rfl,_,rfl⟩
     ·cases e
    ·cases e
   ·cases e
  ·cases e
 ·cases h
  refine key _ ?_
  intro c fr' L' e
  simp only [Zd] at e
  split at e
  ·split at e
   ·split at e
    ·cases e;exact ⟨rfl,_,rfl⟩
    ·cases e
   ·cases e
  ·cases e
 ·cases h
theorem qxm {i:IOper} {n:Nat} {l:List Nat} {d:Option Nat} {r:AV} {c:Prop} {ao:AO} (h:isSk i=some (n,l)) (hd:∀ e,d=some e→e∉l):Zd none (Zf fr d r) L i.op=some (c,Zf fr d r,Zas L (.l n) ao)↔Zd none fr L i.op=some (c,fr,Zas L (.l n) ao):=by
 cases d with
 |none=>exact Iff.rfl
 |some d=>
  have hd:=hd d rfl
  simp only [Zf]
  unfold isSk at h
  split at h
  ·cases h
   simp only [zJ,not_or] at hd
   simp only [Zd,qaC hd.1,qaC hd.2]
   constructor <;>
   ·intro e
    split at e
    ·split at e
     ·split at e
      ·split at e
       ·rename_i hc
        rw [if_pos hc]
        simp only [zn,zw] at e ⊢
        (first|exact ⟨e.1,trivial,e.2.2⟩|(rw [if_pos (by assumption)];simp only [zn,zw];exact ⟨e.1,trivial,e.2.2⟩))
       ·cases e
      ·cases e
     ·cases e
    ·split at e
     ·split at e
      ·split at e
       ·rename_i hc
        rw [if_pos hc]
        simp only [zn,zw] at e ⊢
        (first|exact ⟨e.1,trivial,e.2.2⟩|(rw [if_pos (by assumption)];simp only [zn,zw];exact ⟨e.1,trivial,e.2.2⟩))
       ·cases e
      ·cases e
     ·cases e
    ·cases e
  ·cases h
   simp only [zJ,not_or] at hd
   simp only [Zd,qaC hd.1.1,qaC hd.1.2,qaC hd.2]
   constructor <;>
   ·intro e
    split at e
    ·split at e
     ·split at e
      ·simp only [zn,zw] at e ⊢
       (first|exact ⟨e.1,trivial,e.2.2⟩|(rw [if_pos (by assumption)];simp only [zn,zw];exact ⟨e.1,trivial,e.2.2⟩))
      ·cases e
     ·cases e
    ·cases e
  ·cases h
theorem qwq {n:Nat} {op:IOp} {a:AO} (hf:nolN n op=true):core P E Y fr (Zas L (.l n) a) op=core P E Y fr L op:=by
 cases hq:op<;>rw [hq] at hf<;>simp only [nolN,nol,yd,beq_iff_eq] at hf
 case ldn m sz ag x=>
  subst hf
  simp only [core,Ze]
  split
  ·rfl
  ·split
   ·rfl
   ·rename_i hk;rw [qab,if_neg hk]
  ·split
   ·rfl
   ·rename_i hk;rw [qab,if_neg hk]
  ·rfl
 all_goals rfl
theorem qzw {n:Nat} {i:IOper} {a:AO} (hf:nolN n i.op=true):sx P E Y fr (Zas L (.l n) a) i=sx P E Y fr L i:=by
 unfold sx
 rw [qwq hf]
theorem qqb {x i:IOper} {is:List IOper} {K:List AV→Objs→Prop} (ha:qkw x i=true) (hN:∀ d l,isN i=some (d,l)→Zal d fr L) (h:qaa P E Y (x :: i :: is) fr L K):qaa P E Y (i :: x :: is) fr L K:=by
 rcases qou ha with ⟨rx,ri,h1,h2,hs⟩|⟨rx,b,d,f,args,h1,rfl,hf,hs⟩|⟨ri,b,d,f,args,h2,rfl,hf,hs⟩|⟨rx,d,ri,h1,h2,hf,hs⟩|⟨d,rx,ri,h1,h2,hf,hs⟩|⟨d,rx,e,ri,h1,h2,hs⟩|⟨d,rx,e,f,args,h1,rfl,hs⟩|⟨d,f,args,e,ri,rfl,h2,hs⟩|⟨rx,sz,p,y,h1,rfl,hf,hs⟩|⟨ri,sz,p,y,h2,rfl,hf,hs⟩|⟨ri,d,e,z,b,u,v,h2,rfl,hf,hg,hs⟩|⟨rx,n,ri,h1,h2,hf,hs⟩
 ·obtain ⟨h3,h4,h5⟩:=qck hs
  rw [qaq (by rw [h1];rfl)] at h
  obtain ⟨c,r,e1,hc,h⟩:=h
  rw [qaq (by rw [h2];rfl)] at h
  obtain ⟨c2,r2,e2,hc2,h⟩:=h
  rw [qi5 h2 h3] at e2
  rw [qaq (by rw [h2];rfl)]
  refine ⟨c2,r2,e2,hc2,?_⟩
  rw [qaq (by rw [h1];rfl)]
  refine ⟨c,r,by rw [qi5 h1 h4];exact e1,hc,?_⟩
  rwa [qfK (fun a b ha hb=>Ne.symm (h5 b a hb ha))]
 ·obtain ⟨h3,h4,h5⟩:=qck hs
  rw [qaq (by rw [h1];rfl)] at h
  obtain ⟨c,r,e1,hc,h⟩:=h
  simp only [qaa] at h
  obtain ⟨hA,k,t,cs,post,g1,g2,g3,g4,g5,g6⟩:=h
  rw [qmq h3] at hA
  rw [qmo h3] at g1
  simp only [qaa]
  refine ⟨hA,k,t,cs,post,g1,g2,g3,g4,g5,fun y cs' hp=>?_⟩
  show qaa P E Y (x :: is) _ _ K
  rw [qaq (by rw [h1];rfl)]
  refine ⟨c,r,?_,hc,?_⟩
  ·rw [qu5 hf (by rw [h1];rfl) g2 g4,qi5 h1 h4];exact e1
  ·rw [qfK (fun a b ha hb=>Ne.symm (h5 b a hb ha))]
   exact g6 y cs' hp
 ·obtain ⟨h3,h4,h5⟩:=qck hs
  simp only [qaa] at h
  obtain ⟨hA,k,t,cs,post,g1,g2,g3,g4,⟨y0,cs0,hp0⟩,g6⟩:=h
  have hn:=g6 y0 cs0 hp0
  change qaa P E Y (i :: is) _ _ K at hn
  rw [qaq (by rw [h2];rfl)] at hn
  obtain ⟨c,r,e1,hc,_⟩:=hn
  rw [qu5 hf (by rw [h2];rfl) g2 g4,qi5 h2 h3] at e1
  rw [qaq (by rw [h2];rfl)]
  refine ⟨c,r,e1,hc,?_⟩
  simp only [qaa]
  refine ⟨by rw [qmq h4];exact hA,k,t,cs,post,by rw [qmo h4];exact g1,g2,g3,g4,⟨y0,cs0,hp0⟩,fun y cs' hp=>?_⟩
  have hn:=g6 y cs' hp
  change qaa P E Y (i :: is) _ _ K at hn
  rw [qaq (by rw [h2];rfl)] at hn
  obtain ⟨c',r',e',_,hk⟩:=hn
  rw [qu5 hf (by rw [h2];rfl) g2 g4,qi5 h2 h3,e1] at e'
  cases e'
  rw [qfK (fun a b ha hb=>Ne.symm (h5 b a hb ha))]
  exact hk
 ·obtain ⟨h3,h4,h5⟩:=qck hs
  have hd:=qj9 h2
  have hF:=hN d ri h2
  rw [qaq (by rw [h1];rfl)] at h
  obtain ⟨c,r,e1,hc,h⟩:=h
  rw [qaG h2] at h
  obtain ⟨⟨_,g2⟩,c2,r2,ao,g3,hc2,h⟩:=h
  rw [qlb h2 h3] at g3
  rw [qaG h2]
  refine ⟨⟨hF,g2⟩,c2,r2,ao,g3,hc2,?_⟩
  rw [qaq (by rw [h1];rfl)]
  refine ⟨c,r,?_,hc,?_⟩
  ·rw [show fr.set d r2=Zf fr (some d) r2 from rfl,qi5 h1 (fun a ha=>h4 a (hd.trans ha)),qse hf (by rw [h1];rfl) hF.1];exact e1
  ·have:=qfK (fr:=fr) (r:=r2) (q:=r) (d:=some d) (e:=x.dst) (fun a b ha hb=>Ne.symm (h5 b a hb (hd.trans ha)))
   simp only [Zf] at this h ⊢
   rw [this]
   exact h
 ·obtain ⟨h3,h4,h5⟩:=qck hs
  have hd:=qj9 h1
  rw [qaG h1] at h
  obtain ⟨⟨hF,g2⟩,c,r,ao,g3,hc,h⟩:=h
  rw [qaq (by rw [h2];rfl)] at h
  obtain ⟨c2,r2,e2,hc2,h⟩:=h
  rw [show fr.set d r=Zf fr (some d) r from rfl,qi5 h2 (fun a ha=>h3 a (hd.trans ha)),qse hf (by rw [h2];rfl) hF.1] at e2
  rw [qaq (by rw [h2];rfl)]
  refine ⟨c2,r2,e2,hc2,?_⟩
  rw [qaG h1]
  refine ⟨⟨hF.set (qu6 (by rw [h2];rfl) hF.1 hF.2 e2),g2⟩,c,r,ao,by rw [qlb h1 h4];exact g3,hc,?_⟩
  have:=qfK (fr:=fr) (r:=r) (q:=r2) (d:=some d) (e:=i.dst) (fun a b ha hb=>h5 a b (hd.trans ha) hb)
  simp only [Zf] at this h ⊢
  rw [← this]
  exact h
 ·obtain ⟨h3,h4,h5⟩:=qck hs
  have hd:=qj9 h1
  have he:=qj9 h2
  have hne:d≠e:=h5 d e hd he
  have hF2:=hN e ri h2
  rw [qaG h1] at h
  obtain ⟨⟨hF,g2⟩,c,r,ao,g3,hc,h⟩:=h
  rw [qaG h2] at h
  obtain ⟨⟨_,k2⟩,c2,r2,ao2,k3,hc2,h⟩:=h
  rw [show fr.set d r=Zf fr (some d) r from rfl,qlb h2 (fun a ha=>h3 a (hd.trans ha))] at k3
  rw [qab,if_neg (by simpa using Ne.symm hne)] at k2
  rw [qaG h2]
  refine ⟨⟨hF2,k2⟩,c2,r2,ao2,k3,hc2,?_⟩
  rw [qaG h1]
  obtain ⟨f1,f2⟩:=qy4 h2 (Ne.symm hne) k3
  refine ⟨⟨hF.put (e:=some e) f1 f2,by rw [qab,if_neg (by simpa using hne)];exact g2⟩,c,r,ao,by rw [show fr.set e r2=Zf fr (some e) r2 from rfl,qlb h1 (fun a ha=>h4 a (he.trans ha))];exact g3,hc,?_⟩
  rw [List.set_comm _ _ (Ne.symm hne),qhg ao2 ao (by simpa using Ne.symm hne) (by rw [k2];rfl) (by rw [g2];rfl)]
  exact h
 ·obtain ⟨h3,h4,h5⟩:=qck hs
  have hd:=qj9 h1
  rw [qaG h1] at h
  obtain ⟨⟨hF,g2⟩,c,r,ao,g3,hc,h⟩:=h
  simp only [qaa] at h
  obtain ⟨hA,k,t,cs,post,k1,k2,k3,k4,k5,k6⟩:=h
  rw [show fr.set d r=Zf fr (some d) r from rfl,qmq (fun a ha=>h3 a (hd.trans ha))] at hA
  rw [show fr.set d r=Zf fr (some d) r from rfl,qmo (fun a ha=>h3 a (hd.trans ha))] at k1
  obtain ⟨j,rfl⟩:=k4 rfl
  rw [qab,if_neg (by simp)] at k2
  simp only [qaa]
  refine ⟨hA,.b j,t,cs,post,k1,k2,k3,k4,k5,fun y cs' hp=>?_⟩
  show qaa P E Y (x :: is) _ _ K
  rw [qaG h1]
  refine ⟨⟨hF.put rfl qmm,by rw [qab,if_neg (by simp)];exact g2⟩,c,r,ao,by rw [qlb h1 h4];exact g3,hc,?_⟩
  have:=qfK (fr:=fr) (r:=r) (q:=.p y) (d:=some d) (e:=e) (fun a b ha hb=>h5 a b (hd.trans ha) hb)
  have h:=k6 y cs' hp
  rw [qhg ao _ (by simp) (by rw [g2];rfl) (by rw [k2];rfl)] at h
  simp only [Zf] at this h ⊢
  rw [← this]
  exact h
 ·obtain ⟨h3,h4,h5⟩:=qck hs
  have he:=qj9 h2
  have hF:=hN e ri h2
  simp only [qaa] at h
  obtain ⟨hA,k,t,cs,post,k1,k2,k3,k4,⟨y0,cs0,hp0⟩,k6⟩:=h
  obtain ⟨j,rfl⟩:=k4 rfl
  have hn:=k6 y0 cs0 hp0
  change qaa P E Y (i :: is) _ _ K at hn
  rw [qaG h2] at hn
  obtain ⟨⟨_,g2⟩,c,r,ao,g3,hc,_⟩:=hn
  rw [qab,if_neg (by simp)] at g2
  rw [qlb h2 h3] at g3
  rw [qaG h2]
  refine ⟨⟨hF,g2⟩,c,r,ao,g3,hc,?_⟩
  simp only [qaa]
  refine ⟨by rw [show fr.set e r=Zf fr (some e) r from rfl,qmq (fun a ha=>h4 a (he.trans ha))];exact hA,.b j,t,cs,post,by rw [show fr.set e r=Zf fr (some e) r from rfl,qmo (fun a ha=>h4 a (he.trans ha))];exact k1,by rw [qab,if_neg (by simp)];exact k2,k3,k4,⟨y0,cs0,hp0⟩,fun y cs' hp=>?_⟩
  have hn:=k6 y cs' hp
  change qaa P E Y (i :: is) _ _ K at hn
  rw [qaG h2] at hn
  obtain ⟨_,c',r',ao',e',_,hk⟩:=hn
  rw [qlb h2 h3,g3] at e'
  cases e'
  show qaa P E Y is _ _ K
  rw [qhg ao _ (by simp) (by rw [g2];rfl) (by rw [k2];rfl)]
  have:=qfK (fr:=fr) (r:=r) (q:=.p y) (d:=some e) (e:=d) (fun a b ha hb=>Ne.symm (h5 b a hb (he.trans ha)))
  simp only [Zf] at this hk ⊢
  rw [this]
  exact hk
 ·obtain ⟨h3,h4,h5⟩:=qck hs
  rw [qaq (by rw [h1];rfl)] at h
  obtain ⟨c,r,e1,hc,h⟩:=h
  rw [qa2] at h
  obtain ⟨c2,L',g1,hc2,h⟩:=h
  rw [qlD h3] at g1
  rw [qa2]
  refine ⟨c2,L',g1,hc2,?_⟩
  rw [qaq (by rw [h1];rfl)]
  exact ⟨c,r,by rw [qyZ hf];exact e1,hc,h⟩
 ·obtain ⟨h3,h4,h5⟩:=qck hs
  rw [qa2] at h
  obtain ⟨c,L',g1,hc,h⟩:=h
  rw [qaq (by rw [h2];rfl)] at h
  obtain ⟨c2,r2,e2,hc2,h⟩:=h
  rw [qaq (by rw [h2];rfl)]
  refine ⟨c2,r2,by rw [qyZ (L':=L) hf];exact e2,hc2,?_⟩
  rw [qa2]
  exact ⟨c,L',by rw [qlD h4];exact g1,hc,h⟩
 ·obtain ⟨h3,h4,h5⟩:=qck hs
  rw [qkv] at h
  obtain ⟨c,fr',L',e1,hc,h⟩:=h
  obtain ⟨Kq,rfl,hLq,hap⟩:=qCv e1
  rw [qaq (by rw [h2];rfl)] at h
  obtain ⟨c2,r2,e2,hc2,h⟩:=h
  rw [show (fr.map (·.kill Kq)).set d (.row Kq)=Zf (fr.map (·.kill Kq)) (some d) (.row Kq) from rfl,qi5 h2 (fun a ha=>h3 a ha)] at e2
  simp only [sx,hg] at e2
  obtain ⟨r3,e3,rfl⟩:=qwr hLq hf e2
  rw [qaq (by rw [h2];rfl)]
  refine ⟨c2,r3,by simp only [sx,hg];exact e3,hc2,?_⟩
  have hu:∀ q:Opd,(∀ a,i.dst=some a→a∉qbh q)→rd (Zf fr i.dst r3) q=rd fr q:=by
   intro q hq
   cases hd:i.dst with
   |none=>rfl
   |some a=>exact qaC (hq a hd)
  have hap2:=hap (Zf fr i.dst r3) (hu u fun a ha hm=>h4 a ha (List.mem_append_left _ hm)) (hu v fun a ha hm=>h4 a ha (List.mem_append_right _ hm))
  rw [qkv]
  refine ⟨_,_,_,hap2,hc,?_⟩
  have hcm:=qfK (fr:=fr.map (·.kill Kq)) (r:=.row Kq) (q:=r3.kill Kq) (d:=some d) (e:=i.dst) (fun a b ha hb=>h5 a b ha hb)
  have hmp:(Zf fr i.dst r3).map (·.kill Kq)=Zf (fr.map (·.kill Kq)) i.dst (r3.kill Kq):=by
   cases i.dst with
   |none=>rfl
   |some a=>simp only [Zf,List.map_set]
  rw [hmp]
  simp only [Zf] at hcm h ⊢
  rw [← hcm]
  exact h
 ·obtain ⟨h3,h4,h5⟩:=qck hs
  rw [qaq (by rw [h1];rfl)] at h
  obtain ⟨c,r,e1,hc,h⟩:=h
  rw [qrK h2] at h
  obtain ⟨c2,ao,e2,hc2,h⟩:=h
  rw [qrK h2]
  refine ⟨c2,ao,(qxm h2 h3).1 e2,hc2,?_⟩
  rw [qaq (by rw [h1];rfl)]
  exact ⟨c,r,by rw [qzw hf];exact e1,hc,h⟩
def isS:IOper→Bool
 |⟨_,.st ..,none⟩=>true
 |⟨_,.stg ..,none⟩=>true
 |_=>false
def okIn (i:IOper):Bool:=(qaZ i).isSome || (isD i).isSome || (isN i).isSome || isS i
def qdp (ds:List Nat) (fr:List AV) (L:Objs):Prop:=∀ d∈ds,Zal d fr L
theorem qzx {d:Option Nat} {sz:Nat} {p x:Opd} {c:Prop} {fr':List AV} {L':Objs} (h:Zd d fr L (.stg sz p x)=some (c,fr',L')):fr'=fr∧∀ K:Key,fr.map (·.kill K)=fr→Zat K L=L→Zat K L'=L':=by
 simp only [Zd] at h
 split at h
 ·rename_i e1 e2
  split at h
  ·rename_i hl
   split at h
   ·cases h
    refine ⟨rfl,fun K hF hL=>qgk hL (box_fix.2 (qeC (box_fix.1 (qbs hL hl)) (fun x hx=>?_)))⟩
    obtain ⟨y,hy,rfl⟩:=zN.1 hx
    have:=anyK_false.1 (ag_fix.1 (qeN hF e2)) y hy
    cases y with
    |p p=>rfl
    |row k=>exact qn3 (by simpa [Zai] using this)
    |mp k=>simpa [Zag,AV.kill,Zai] using this
   ·cases h
  ·cases h
 ·cases h
theorem qku {i:IOper} {is js:List IOper} {K K':List AV→Objs→Prop} {ds:List Nat} (hi:okIn i=true) (hN:∀ d l,isN i=some (d,l)→d∉ds) (hF:qdp ds fr L) (h:qaa P E Y (i :: is) fr L K) (hk:∀ fr L,qdp ds fr L→qaa P E Y is fr L K→qaa P E Y js fr L K'):qaa P E Y (i :: js) fr L K':=by
 simp only [okIn,z6] at hi
 rcases hi with ((hr|hr)|hr)|hr
 ·rw [qaq hr] at h ⊢
  obtain ⟨c,r,e1,hc,h⟩:=h
  exact ⟨c,r,e1,hc,hk _ _ (fun d hd=>(hF d hd).set (qu6 hr (hF d hd).1 (hF d hd).2 e1)) h⟩
 ·obtain ⟨⟨b,l⟩,hq⟩:=yc.1 hr
  obtain ⟨d,f,args,rfl,rfl⟩:=qrn hq
  simp only [qaa] at h ⊢
  obtain ⟨hA,k,t,cs,post,g1,g2,g3,g4,g5,g6⟩:=h
  exact ⟨hA,k,t,cs,post,g1,g2,g3,g4,g5,fun y cs' hp=>hk _ _ (fun d hd=>(hF d hd).put rfl qmm) (g6 y cs' hp)⟩
 ·obtain ⟨⟨d,l⟩,hq⟩:=yc.1 hr
  rw [qaG hq] at h ⊢
  obtain ⟨g,c,r,ao,e1,hc,h⟩:=h
  refine ⟨g,c,r,ao,e1,hc,hk _ _ (fun e he=>?_) h⟩
  obtain ⟨f1,f2⟩:=qy4 hq (fun e'=>hN d l hq (e' ▸ he)) e1
  exact (hF e he).put (e:=some d) f1 f2
 ·obtain ⟨d,op,gd⟩:=i
  cases gd with
  |some q=>cases op<;>simp [isS] at hr
  |none=>
   cases op<;>simp only [isS,yd] at hr
   all_goals
    simp only [qaa] at h ⊢
    split at h
    ·rename_i c fr' L' e1
     refine ⟨h.1,hk _ _ (fun e he=>?_) h.2⟩
     first
      |(obtain ⟨rfl,h2⟩:=qy0 e1;exact ⟨(hF e he).1,h2 _ (hF e he).1 (hF e he).2⟩)
      |(obtain ⟨rfl,h2⟩:=qzx e1;exact ⟨(hF e he).1,h2 _ (hF e he).1 (hF e he).2⟩)
    ·exact h.elim
def qwb:IOper→Option Nat
 |⟨some d,.app ..,none⟩=>some d
 |_=>none
theorem qxX {i:IOper} {d:Nat} (h:qwb i=some d):∃ e z b u v,i=⟨some d,.app e z b u v,none⟩:=by
 unfold qwb at h
 split at h
 ·cases h;exact ⟨_,_,_,_,_,rfl⟩
 ·cases h
theorem Zal.upd {q j:Nat} {d:Nat} {a:AO} (h:Zal q fr L) (hj:j≠q) (ha:(a.kill (.l q))=a):Zal q ((fr.map (·.kill (.l j))).set d (.row (.l j))) (Zau L (.l j) a):=by
 refine ⟨?_,?_⟩
 ·rw [List.map_set,qn3 (by simpa using hj)]
  have:=h.1
  congr 1
  conv=>rhs;rw [← this]
  rw [z7,z7]
  exact zQ fun x _=>AV.kill_comm _ _ x
 ·unfold Zau
  rw [qiN,qmG,h.2,ha]
theorem qsm {K j:Key} {es:List (List AV)} {e z:Nat} (h:(AO.rowv es e z).kill K=.rowv es e z):∀ x∈es.map (·.map (·.kill j)),∀ y∈x,y.kill K=y:=by
 rw [rowv_fix] at h
 intro x hx y hy
 obtain ⟨x',hx',rfl⟩:=zN.1 hx
 obtain ⟨y',hy',rfl⟩:=zN.1 hy
 rw [AV.kill_comm,h x' hx' y' hy']
theorem qyy {q d:Nat} {e z b:Nat} {u v:Opd} {c:Prop} {fr':List AV} {L':Objs} (hF:Zal q fr L) (hd:d≠q) (h:Zd (some d) fr L (.app e z b u v)=some (c,fr',L')):Zal q fr' L':=by
 have qk0:∀ {x:Opd} {c:Prop} {i:Nat},(rd fr x).un=(c,.row (.l i))→i≠q:=fun e2 hi=>by
  subst hi
  have:=qeN hF.1 e2
  simp [AV.kill] at this
 simp only [Zd] at h
 split at h
 ·rename_i e1 e2 e3
  cases e1
  split at h
  ·split at h
   ·cases h
    exact hF.upd (qk0 e2) rfl
   ·cases h
  ·rename_i hl
   split at h
   ·cases h
    refine hF.upd (qk0 e2) ?_
    rw [rowv_fix]
    intro x hx
    rcases zJ.1 hx with hx|hx
    ·exact qsm (qbs hF.2 hl) x hx
    ·obtain ⟨y,_,rfl⟩:=zN.1 hx
     intro w hw
     obtain ⟨y',_,rfl⟩:=zN.1 hw
     rfl
   ·cases h
  ·cases h
 ·rename_i e1 e2 e3
  cases e1
  split at h
  ·rename_i hl hx
   split at h
   ·rename_i hl2
    split at h
    ·cases h
     refine hF.upd (qk0 e2) ?_
     rw [rowv_fix]
     intro x hx
     rcases zJ.1 hx with hx|hx
     ·exact qsm (qbs hF.2 hl) x hx
     ·exact qsm (qbs hF.2 hl2) x hx
    ·cases h
   ·cases h
  ·cases h
 ·rename_i e1 e2 e3
  cases e1
  split at h
  ·cases h
   exact hF.upd hd rfl
  ·cases h
 ·cases h
theorem qt9 {x i:IOper} (h:qkw x i=true):(okIn x=true∨isN i=none∧∃ d e z b u v,x=⟨some d,.app e z b u v,none⟩)∧∀ d l,isN x=some (d,l)→∀ e l',isN i=some (e,l')→d≠e:=by
 have pure:∀ {q:IOper} {l},qaZ q=some l→isN q=none:=by
  intro q l hq
  cases hn:isN q with
  |none=>rfl
  |some p=>
   obtain ⟨d,l'⟩:=p
   rcases qpa hn with ⟨t,zero,rfl,_⟩|⟨e,z,parts,rfl,_⟩|⟨n,f,args,e,z,rfl,_⟩<;>simp [qaZ,qdX] at hq
 have sep:∀ {rx ri},sepI x i rx ri=true→∀ d l,isN x=some (d,l)→∀ e l',isN i=some (e,l')→d≠e:=fun hs d l h1 e l' h2=>(qck hs).2.2 d e (qj9 h1) (qj9 h2)
 rcases qou h with ⟨rx,ri,h1,h2,hs⟩|⟨rx,b,d,f,args,h1,rfl,hf,hs⟩|⟨ri,b,d,f,args,h2,rfl,hf,hs⟩|⟨rx,d,ri,h1,h2,hf,hs⟩|⟨d,rx,ri,h1,h2,hf,hs⟩|⟨d,rx,e,ri,h1,h2,hs⟩|⟨d,rx,e,f,args,h1,rfl,hs⟩|⟨d,f,args,e,ri,rfl,h2,hs⟩|⟨rx,sz,p,y,h1,rfl,hf,hs⟩|⟨ri,sz,p,y,h2,rfl,hf,hs⟩|⟨ri,d,e,z,b,u,v,h2,rfl,hf,hg,hs⟩|⟨rx,n,ri,h1,h2,hf,hs⟩
 ·exact ⟨.inl (by simp [okIn,h1]),sep hs⟩
 ·exact ⟨.inl (by simp [okIn,h1]),sep hs⟩
 ·exact ⟨.inl (by simp [okIn,isD]),sep hs⟩
 ·exact ⟨.inl (by simp [okIn,h1]),sep hs⟩
 ·exact ⟨.inl (by simp [okIn,h1]),sep hs⟩
 ·exact ⟨.inl (by simp [okIn,h1]),sep hs⟩
 ·exact ⟨.inl (by simp [okIn,h1]),sep hs⟩
 ·exact ⟨.inl (by simp [okIn,isD]),sep hs⟩
 ·exact ⟨.inl (by simp [okIn,h1]),sep hs⟩
 ·exact ⟨.inl (by simp [okIn,isS]),sep hs⟩
 ·exact ⟨.inr ⟨pure h2,_,_,_,_,_,_,rfl⟩,sep hs⟩
 ·exact ⟨.inl (by simp [okIn,h1]),sep hs⟩
def qaw (is:List IOper):List Nat:=is.filterMap fun i=>(isN i).map (·.1)
def okBy (ns:List Nat) (i:IOper):Bool:=okIn i || (match qwb i with|some d=>!ns.contains d|none=>false)
theorem qrb {ns:List Nat} {i:IOper} (h:okBy ns i=true):okIn i=true∨∃ d,qwb i=some d∧d∉ns:=by
 unfold okBy at h
 rcases Bool.or_eq_true_iff.1 h with h|h
 ·exact .inl h
 ·split at h
  ·rename_i d e
   exact .inr ⟨d,e,by simpa using h⟩
  ·cases h
theorem qna {i:IOper} {is js:List IOper} {K K':List AV→Objs→Prop} {d:Nat} {ds:List Nat} (hi:qwb i=some d) (hN:d∉ds) (hF:qdp ds fr L) (h:qaa P E Y (i :: is) fr L K) (hk:∀ fr L,qdp ds fr L→qaa P E Y is fr L K→qaa P E Y js fr L K'):qaa P E Y (i :: js) fr L K':=by
 obtain ⟨e,z,b,u,v,rfl⟩:=qxX hi
 rw [qkv] at h ⊢
 obtain ⟨c,fr',L',e1,hc,h⟩:=h
 exact ⟨c,fr',L',e1,hc,hk _ _ (fun q hq=>qyy (hF q hq) (fun e'=>hN (by rw [e'];exact hq)) e1) h⟩
theorem qrc {i:IOper} {post:List IOper} {K:List AV→Objs→Prop}:∀ (pre:List IOper) (fr:List AV) (L:Objs),(∀ x∈pre,qkw x i=true)→qdp (qaw [i]) fr L→qaa P E Y (pre++i :: post) fr L K→qaa P E Y (i :: (pre++post)) fr L K:=by
 intro pre
 induction pre with
 |nil=>intro fr L _ _ h;exact h
 |cons x pre ih=>
  intro fr L ha hF h
  have hx:=ha x (by simp)
  obtain ⟨h1,h2⟩:=qt9 hx
  have hN:∀ d l,isN i=some (d,l)→Zal d fr L:=fun d l hd=>hF d (by simp [qaw,hd])
  rcases h1 with h1|⟨hni,d,e,z,b,u,v,rfl⟩
  rotate_left
  ·refine qqb hx hN ?_
   rw [zl,qkv] at h
   obtain ⟨c,fr',L',e1,hc,h⟩:=h
   rw [qkv]
   exact ⟨c,fr',L',e1,hc,ih _ _ (fun y hy=>ha y (by simp [hy])) (fun d hd=>by simp [qaw,hni] at hd) h⟩
  have h':qaa P E Y (x :: i :: (pre++post)) fr L K:=qku h1 (fun d l hd hm=>by
   cases hq:isN i with
   |none=>simp [qaw,hq] at hm
   |some q=>obtain ⟨e,l'⟩:=q;simp [qaw,hq] at hm;exact h2 d l hd e l' hq hm) hF h (fun fr L hF h=>ih fr L (fun y hy=>ha y (by simp [hy])) hF h)
  exact qqb hx hN h'
def qjJ (o:Oper):List Nat:=(o.after.toList.filter fun e=>Region.binds .any e).map (·.on)
def ancB (ops:Array Oper):Nat→Nat→Nat→Bool
 |0,_,_=>false
 |n+1,i,j=>match ops[i]? with
  |some o=>(qjJ o).any fun e=>e == j || ancB ops n e j
  |none=>false
def qpN (ops:Array Oper) (n:Nat) (i:Nat) (ii:IOper):List (Nat×IOper)→Bool
 |[]=>true
 |(j,jj) :: r=>(qkw jj ii || ancB ops n i j) && qpN ops n i ii r
def qsX (ops:Array Oper) (n:Nat):List (Nat×IOper)→List (Nat×IOper)→Bool
 |_,[]=>true
 |seen,(i,ii) :: r=>qpN ops n i ii seen && qsX ops n (seen++[(i,ii)]) r
def qcV:List IOper→List Nat
 |[]=>[]
 |i :: is=>if isFz i then (match i.op with|.hole d=>d :: qcV is|_=>qcV is) else []
def qo4 (hs:List Nat) (js:List IOper):Bool:=
 (qaw js).isEmpty || (js.all (okBy (qaw js)) && decide (qaw js).Nodup && (qaw js).all fun d=>hs.contains d)
def qsx (ops:Array Oper) (pm:List Nat) (is:List IOper):Bool:=
 let js:=qi0 is
 is.all (fun i=>!isRe i) && qo4 (qcV is) js && decide pm.Nodup && pm.length == ops.size && (zE ops.size).all (fun k=>pm.contains k) && qsX ops ops.size [] (pm.zip js) &&
 (zE pm.length).all fun k=>match ops[pm.getD k 0]? with|some o=>(qjJ o).all fun e=>(pm.take k).contains e|none=>false
def okT (ts:List Nat) (i:IOper):Bool:=
 match i with
 |⟨some d,.alcd _ _,none⟩=>ts.contains d
 |⟨none,.st _ (.t d) x,none⟩=>ts.contains d && (qbh x).all fun s=>!ts.contains s
 |i=>match qaZ i with
  |some l=>qnk i.op && l.all (fun s=>!ts.contains s) && (match i.dst with|some d=>!ts.contains d|none=>true)
  |none=>false
def qx7 (s y:IOper):Bool:=
 match s with
 |⟨none,.st _ (.t d) v,none⟩=>match y with
  |⟨none,.st _ (.t e) _,none⟩=>d != e
  |y=>match y.dst with|some q=>q != d && !(qbh v).contains q|none=>true
 |_=>false
def qot (x i:IOper):Bool:=qkw x i || qx7 x i || qx7 i x
def qtF (ops:Array Oper) (n:Nat) (i:Nat) (ii:IOper):List (Nat×IOper)→Bool
 |[]=>true
 |(j,jj) :: r=>(qot jj ii || ancB ops n i j) && qtF ops n i ii r
def allT (ops:Array Oper) (n:Nat):List (Nat×IOper)→List (Nat×IOper)→Bool
 |_,[]=>true
 |seen,(i,ii) :: r=>qtF ops n i ii seen && allT ops n (seen++[(i,ii)]) r
def qsw (ops:Array Oper) (is:List IOper):Bool:=
 let js:=qi0 is
 is.all (fun i=>!isRe i) && (qaw js).all (fun d=>(qcV is).contains d) && js.all (okT (qaw js)) &&
 js.all (fun i=>!isFz i) && js.length == ops.size && allT ops ops.size [] ((zE js.length).zip js) &&
 (zE ops.size).all fun i=>match ops[i]? with|some o=>(qjJ o).all fun e=>decide (e < i)|none=>true
def qvP (ops:Array Oper) (is:List IOper):Bool:=
 let js:=qi0 is
 is.all (fun i=>!isRe i) && qo4 (qcV is) js &&
 js.all (fun i=>!isFz i) && js.length == ops.size && qsX ops ops.size [] ((zE js.length).zip js) &&
 (zE ops.size).all fun i=>match ops[i]? with|some o=>(qjJ o).all fun e=>decide (e < i)|none=>true
def qra (ops:Array Oper) (pm:Option (List Nat)) (is:List IOper):Bool:=
 match pm with
 |none=>qvP ops is || qsw ops is
 |some pm=>qsx ops pm is
end
section
variable {P:Program} {E:Envt} {Y:List PV} {fr:List AV} {L:Objs}
def InvT (d:Nat) (fr:List AV) (L:Objs):Prop:=(fr.set d .any).map (·.kill (.l d))=fr.set d .any∧Zat (.l d) L=L∧(fr.getD d .any=.any∨fr.getD d .any=.adr (.l d) 0)
def InvA (ts:List Nat) (fr:List AV) (L:Objs):Prop:=∀ d∈ts,InvT d fr L
theorem qhh {ts:List Nat} {i:IOper} (h:okT ts i=true):(∃ d t z,i=⟨some d,.alcd t z,none⟩∧d∈ts)∨(∃ sz d x,i=⟨none,.st sz (.t d) x,none⟩∧d∈ts∧∀ s∈qbh x,s∉ts)∨(∃ l,qaZ i=some l∧qnk i.op=true∧(∀ s∈l,s∉ts)∧∀ d,i.dst=some d→d∉ts):=by
 unfold okT at h
 split at h
 ·exact .inl ⟨_,_,_,rfl,by simpa using h⟩
 ·rw [zq,yr] at h
  exact .inr (.inl ⟨_,_,_,rfl,by simpa using h.1,fun s hs=>by simpa using h.2 s hs⟩)
 ·split at h
  ·rename_i l hl
   rw [zq,zq,yr] at h
   refine .inr (.inr ⟨l,hl,h.1.1,fun s hs=>by simpa using h.1.2 s hs,fun d hd=>?_⟩)
   have:=h.2
   rw [hd] at this
   simpa using this
  ·cases h
theorem qu7 {i:IOper} {l:List Nat} {d:Nat} (h:qaZ i=some l) (hd:d∉l):sx P E Y (fr.set d .any) L i=sx P E Y fr L i:=qi5 (d:=some d) h fun e he=>by cases he;exact hd
theorem qu4 {i:IOper} {l:List Nat} {d:Nat} {a:AO} (h:qaZ i=some l) (hf:qnk i.op=true) (hd:d∉l) (hI:InvT d fr L):sx P E Y fr (Zas L (.l d) a) i=sx P E Y fr L i:=by
 rw [← qu7 h hd,qse hf (by rw [h];rfl) hI.1,qu7 h hd]
theorem qoc {d:Nat} {e:Option Nat} {r:AV} (h:∀ q,e=some q→q≠d):(Zf fr e r).getD d .any=fr.getD d .any:=by
 cases e with
 |none=>rfl
 |some q=>simp only [Zf,zD];rw [yn (h q rfl)]
theorem qxr {d:Nat} {e:Option Nat} {r q:AV} (h:∀ q,e=some q→q≠d):(Zf fr e r).set d q=Zf (fr.set d q) e r:=by
 cases e with
 |none=>rfl
 |some k=>simp only [Zf];exact List.set_comm _ _ (h k rfl)
theorem InvT.setD {d:Nat} {e:Option Nat} {r:AV} (hI:InvT d fr L) (he:∀ q,e=some q→q≠d) (hr:r.kill (.l d)=r):InvT d (Zf fr e r) L:=
 ⟨by rw [qxr he];exact qsi hI.1 hr,hI.2.1,by rw [qoc he];exact hI.2.2⟩
theorem qCf {ts:List Nat} {i:IOper} {l:List Nat} {c:Prop} {r:AV} (h:qaZ i=some l) (hl:∀ s∈l,s∉ts) (hd:∀ d,i.dst=some d→d∉ts) (hI:InvA ts fr L) (hs:sx P E Y fr L i=some (c,r)):InvA ts (Zf fr i.dst r) L:=fun d hm=>
 (hI d hm).setD (fun q hq e=>hd q hq (e ▸ hm)) (qu6 (by rw [h];rfl) (hI d hm).1 (hI d hm).2.1 (by rw [qu7 h (fun hc=>hl d hc hm)];exact hs))
theorem InvT.put {d:Nat} {k:Key} {a:AO} (hI:InvT d fr L) (ha:a.kill (.l d)=a):InvT d fr (Zas L k a):=⟨hI.1,qgk hI.2.1 ha,hI.2.2⟩
theorem qxY {ts:List Nat} {e:Nat} {t:TypeId} {zero:List PV} (hI:InvA ts fr L):InvA ts (fr.set e (.adr (.l e) 0)) (Zas L (.l e) (.box (zero.map .p) t)):=by
 intro d hm
 by_cases he:e=d
 ·subst he
  refine ⟨by rw [List.set_set];exact (hI e hm).1,qgk (hI e hm).2.1 qmm,?_⟩
  by_cases hl:e < fr.length
  ·right;simp [zD,hl]
  ·left;simp [zD,zY,hl]
 ·have:=((hI d hm).put (k:=.l e) (a:=.box (zero.map .p) t) qmm).setD (e:=some e) (r:=.adr (.l e) 0) (fun q hq=>by cases hq;exact he) (by simp [AV.kill,he])
  exact this
theorem st_t {sz e:Nat} {x:Opd} {c:Prop} {L':Objs} (hI:InvT e fr L) (hx:e∉qbh x) (h:stx fr L sz (.t e) x=some (c,L')) :
  ∃ cs bt vals,Zar L (.l e)=some (.box cs bt)∧L'=Zas L (.l e) (.box (Zab cs 0 vals) bt)∧(∀ d,(fr.set d .any).map (·.kill (.l d))=fr.set d .any→d∉qbh x→∀ v∈vals,v.kill (.l d)=v)∧
   ∀ L2,Zar L2 (.l e)=Zar L (.l e)→(∀ k kv a b,Zar L k=some (.map kv a b)→Zar L2 k=some (.map kv a b))→stx fr L2 sz (.t e) x=some (c,Zas L2 (.l e) (.box (Zab cs 0 vals) bt)):=by
 rcases hI.2.2 with h0|h0
 ·have hp:(rd fr (.t e)).un=(True,.any):=by simp only [rd,h0];rfl
  simp [stx,Zd,hp] at h
 have hp:(rd fr (.t e)).un=(True,.adr (.l e) 0):=by simp only [rd,h0];rfl
 simp only [stx,Zd,hp] at h ⊢
 have hk:∀ d,(fr.set d .any).map (·.kill (.l d))=fr.set d .any→d∉qbh x→(rd fr x).un.2.kill (.l d)=(rd fr x).un.2:=by
  intro d h1 h2
  rw [← qaC (r:=.any) h2]
  exact qeN h1 (c:=(rd (fr.set d .any) x).un.1) rfl
 generalize hv:(rd fr x).un=q at h hk ⊢
 obtain ⟨cx,v⟩:=q
 simp only at hk
 cases v with
 |p v=>
  simp only at h ⊢
  split at h
  ·rename_i cs bt hl
   split at h
   ·rename_i hc
    simp only [zL,zn,zw] at h
    obtain ⟨rfl,rfl⟩:=h
    refine ⟨cs,bt,(Zy v).map .p,hl,rfl,fun d _ _ y hy=>by obtain ⟨z,_,rfl⟩:=zN.1 hy;rfl,fun L2 h2 _=>?_⟩
    rw [h2,hl]
    simp only [if_pos hc,zL]
   ·cases h
  ·cases h
 |row k=>
  simp only at h ⊢
  split at h
  ·rename_i cs bt hl
   split at h
   ·rename_i hc
    simp only [zL,zn,zw] at h
    obtain ⟨rfl,rfl⟩:=h
    refine ⟨cs,bt,[.row k],hl,rfl,fun d h1 h2 y hy=>by rw [zF] at hy;subst hy;exact hk d h1 h2,fun L2 h2 _=>?_⟩
    rw [h2,hl]
    simp only [if_pos hc,zL]
   ·cases h
  ·cases h
 |mp k=>
  simp only at h ⊢
  split at h
  ·rename_i cs bt kv ta tb hl hm
   split at h
   ·rename_i hc
    simp only [zL,zn,zw] at h
    obtain ⟨rfl,rfl⟩:=h
    refine ⟨cs,bt,[.mp k],hl,rfl,fun d h1 h2 y hy=>by rw [zF] at hy;subst hy;exact hk d h1 h2,fun L2 h2 h3=>?_⟩
    rw [h2,hl,h3 k _ _ _ hm]
    simp only [if_pos hc,zL]
   ·cases h
  ·cases h
 |fn f ks=>
  cases ks with
  |cons _ _=>simp at h
  |nil=>
   simp only at h ⊢
   split at h
   ·rename_i cs bt hl
    split at h
    ·rename_i hc
     simp only [zL,zn,zw] at h
     obtain ⟨rfl,rfl⟩:=h
     refine ⟨cs,bt,[.p (.clo f [])],hl,rfl,fun d _ _ y hy=>by rw [zF] at hy;subst hy;rfl,fun L2 h2 _=>?_⟩
     rw [h2,hl]
     simp only [if_pos hc,zL]
    ·cases h
   ·cases h
 |_=>simp at h
theorem qza {ts:List Nat} {sz e:Nat} {x:Opd} {c:Prop} {L':Objs} (hI:InvA ts fr L) (he:e∈ts) (hx:∀ s∈qbh x,s∉ts) (h:stx fr L sz (.t e) x=some (c,L')):InvA ts fr L':=by
 intro d hm
 obtain ⟨cs,bt,vals,h1,rfl,h3,_⟩:=st_t (hI e he) (fun hc=>hx e hc he) h
 refine (hI d hm).put (box_fix.2 (qeC (box_fix.1 (qbs (hI d hm).2.1 h1)) ?_))
 exact h3 d (hI d hm).1 fun hc=>hx d hc hm
theorem qvS {k:Key} {a:AO} (hk:∀ kv x y,Zar L k≠some (.map kv x y)):∀ k' kv x y,Zar L k'=some (.map kv x y)→Zar (Zas L k a) k'=some (.map kv x y):=by
 intro k' kv x y h
 by_cases e:k'=k
 ·subst e
  exact absurd h (hk kv x y)
 ·rw [qab,if_neg e]
  exact h
theorem qrd {k:Key} {a:AO} (hk:∀ kv x y,a≠.map kv x y):∀ k' kv x y,Zar (Zas L k a) k'=some (.map kv x y)→Zar L k'=some (.map kv x y):=by
 intro k' kv x y h
 rw [qab] at h
 split at h
 ·exact absurd (Option.some.inj h) (hk kv x y)
 ·exact h
theorem qsJ {d:Nat} {fr':List AV} {L':Objs} (hI:InvT d fr L) (hg:fr'.getD d .any=fr.getD d .any) (hF:Zal d fr' L'):Zal d fr L:=by
 refine ⟨?_,hI.2.1⟩
 rcases hI.2.2 with h|h
 ·have:fr.set d .any=fr:=by
   apply List.ext_getElem
   ·simp
   ·intro i h1 h2
    rw [List.getElem_set]
    split
    ·rename_i e
     subst e
     simpa [zD,zg h2] using h.symm
    ·rfl
  rw [← this]
  exact hI.1
 ·exfalso
  rw [h] at hg
  have hl:d < fr'.length:=by
   by_cases hl:d < fr'.length
   ·exact hl
   ·rw [zD,zY (by omega)] at hg
    cases hg
  have hm:AV.adr (.l d) 0∈fr':=by
   rw [zD,zg hl] at hg
   simp only [yt] at hg
   rw [← hg]
   exact List.getElem_mem hl
  have:=qpU hF.1 _ hm
  simp [AV.kill] at this
theorem qxL {ts:List Nat} {i:IOper} {d:Nat} {l:List Nat} (h:okT ts i=true) (hn:isN i=some (d,l)):d∈ts∧l=[]∧∃ t z,i=⟨some d,.alcd t z,none⟩:=by
 rcases qhh h with ⟨d',t,z,rfl,hm⟩|⟨sz,d',x,rfl,_,_⟩|⟨l',hl,_⟩
 ·simp only [isN,zn,zw] at hn
  obtain ⟨rfl,rfl⟩:=hn
  exact ⟨hm,rfl,t,z,rfl⟩
 ·simp [isN] at hn
 ·exfalso
  rcases qpa hn with ⟨t,zero,rfl,_⟩|⟨e,z,parts,rfl,_⟩|⟨n,f,args,e,z,rfl,_⟩<;>simp [qaZ,qdX] at hl
variable {is:List IOper} {K:List AV→Objs→Prop}
theorem qm6 {ts:List Nat} {sz d:Nat} {v:Opd} {y:IOper} {l:List Nat} (hI:InvA ts fr L) (hd:d∈ts) (hv:∀ s∈qbh v,s∉ts) (hl:qaZ y=some l) (hf:qnk y.op=true) (hr:∀ s∈l,s∉ts) (hy:∀ q,y.dst=some q→q≠d∧q∉qbh v) :
  qaa P E Y (⟨none,.st sz (.t d) v,none⟩ :: y :: is) fr L K↔qaa P E Y (y :: ⟨none,.st sz (.t d) v,none⟩ :: is) fr L K:=by
 have hs:∀ r,stx (Zf fr y.dst r) L sz (.t d) v=stx fr L sz (.t d) v:=fun r=>qlD fun e he=>by
  obtain ⟨h1,h2⟩:=hy e he
  simp only [qbh,zJ,zF,not_or]
  exact ⟨h1,h2⟩
 have hsx:(qaZ y).isSome=true:=by rw [hl];rfl
 constructor
 ·intro h
  rw [qa2] at h
  obtain ⟨c,L',e1,hc,h⟩:=h
  rw [qaq hsx] at h
  obtain ⟨c2,r,e2,hc2,h⟩:=h
  obtain ⟨cs,bt,vals,h1,rfl,_,_⟩:=st_t (hI d hd) (fun q=>hv d q hd) e1
  rw [qu4 hl hf (fun q=>hr d q hd) (hI d hd)] at e2
  rw [qaq hsx]
  refine ⟨c2,r,e2,hc2,?_⟩
  rw [qa2]
  exact ⟨c,_,by rw [hs];exact e1,hc,h⟩
 ·intro h
  rw [qaq hsx] at h
  obtain ⟨c2,r,e2,hc2,h⟩:=h
  rw [qa2] at h
  obtain ⟨c,L',e1,hc,h⟩:=h
  rw [hs] at e1
  rw [qa2]
  refine ⟨c,L',e1,hc,?_⟩
  obtain ⟨cs,bt,vals,h1,rfl,_,_⟩:=st_t (hI d hd) (fun q=>hv d q hd) e1
  rw [qaq hsx]
  exact ⟨c2,r,by rw [qu4 hl hf (fun q=>hr d q hd) (hI d hd)];exact e2,hc2,h⟩
theorem qm7 {ts:List Nat} {sz d:Nat} {v:Opd} {sz2 e:Nat} {u:Opd} (hI:InvA ts fr L) (hd:d∈ts) (he:e∈ts) (hde:d≠e) (hv:∀ s∈qbh v,s∉ts) (hu:∀ s∈qbh u,s∉ts) (h:qaa P E Y (⟨none,.st sz (.t d) v,none⟩ :: ⟨none,.st sz2 (.t e) u,none⟩ :: is) fr L K) :
  qaa P E Y (⟨none,.st sz2 (.t e) u,none⟩ :: ⟨none,.st sz (.t d) v,none⟩ :: is) fr L K:=by
 have hk:Key.l d≠Key.l e:=by simpa using hde
 rw [qa2] at h
 obtain ⟨c,L1,e1,hc,h⟩:=h
 have hI1:=qza hI hd hv e1
 obtain ⟨cs,bt,vals,h1,rfl,_,h4⟩:=st_t (hI d hd) (fun q=>hv d q hd) e1
 rw [qa2] at h
 obtain ⟨c2,L2,e2,hc2,h⟩:=h
 obtain ⟨cs2,bt2,vals2,g1,rfl,_,g4⟩:=st_t (hI1 e he) (fun q=>hu e q he) e2
 have hle:Zar L (.l e)=Zar (Zas L (.l d) (.box (Zab cs 0 vals) bt)) (.l e):=by rw [qab,if_neg (Ne.symm hk)]
 have hle2:Zar L (.l e)=some (.box cs2 bt2):=by rw [hle];exact g1
 rw [qa2]
 refine ⟨c2,_,g4 L hle (qrd (fun _ _ _=>by simp)),hc2,?_⟩
 rw [qa2]
 refine ⟨c,_,h4 _ (by rw [qab,if_neg hk]) (qvS (fun kv x y q=>by rw [hle2] at q;cases q)),hc,?_⟩
 rw [qhg _ _ (Ne.symm hk) (by rw [hle2];rfl) (by rw [h1];rfl)]
 exact h
theorem qrD {ts:List Nat} {sz d e:Nat} {v:Opd} {t:TypeId} {z:List PV} (hI:InvA ts fr L) (hd:d∈ts) (he:e∈ts) (hde:e≠d) (hv:∀ s∈qbh v,s∉ts) (h:qaa P E Y (⟨some e,.alcd t z,none⟩ :: ⟨none,.st sz (.t d) v,none⟩ :: is) fr L K) :
  qaa P E Y (⟨none,.st sz (.t d) v,none⟩ :: ⟨some e,.alcd t z,none⟩ :: is) fr L K:=by
 have hk:Key.l e≠Key.l d:=by simpa using hde
 have hn:isN ⟨some e,.alcd t z,none⟩=some (e,[]):=rfl
 rw [qaG hn] at h
 obtain ⟨⟨hF,hh⟩,c1,r,ao,e1,hc1,h⟩:=h
 have e1':=e1
 simp only [nx,zn,zw] at e1
 obtain ⟨rfl,rfl,rfl⟩:=e1
 rw [qa2] at h
 obtain ⟨c,L',e2,hc,h⟩:=h
 have hs:stx (fr.set e (.adr (.l e) 0)) (Zas L (.l e) (.box (z.map .p) t)) sz (.t d) v=stx fr (Zas L (.l e) (.box (z.map .p) t)) sz (.t d) v:=qlD (d:=some e) fun q hq=>by
  cases hq
  simp only [qbh,zJ,zF,not_or]
  exact ⟨hde,fun q=>hv e q he⟩
 rw [hs] at e2
 have hI1:InvT d fr (Zas L (.l e) (.box (z.map .p) t)):=(hI d hd).put qmm
 obtain ⟨cs,bt,vals,h1,rfl,h3,h4⟩:=st_t hI1 (fun q=>hv d q hd) e2
 have hld:Zar L (.l d)=some (.box cs bt):=by rw [qab,if_neg (Ne.symm hk)] at h1;exact h1
 rw [qa2]
 refine ⟨c,_,h4 L (by rw [hld,h1]) (qrd (fun _ _ _=>by simp)),hc,?_⟩
 rw [qaG hn]
 refine ⟨⟨⟨hF.1,qgk hF.2 (box_fix.2 (qeC (box_fix.1 (qbs hF.2 hld)) (h3 e (qqs hF.1 e) (fun q=>hv e q he))))⟩,by rw [qab,if_neg hk];exact hh⟩,_,_,_,e1',trivial,?_⟩
 rw [qhg _ _ (Ne.symm hk) (by rw [hld];rfl) (by rw [hh];rfl)]
 exact h
theorem qrC {ts:List Nat} {sz d e:Nat} {v:Opd} {t:TypeId} {z:List PV} (hI:InvA ts fr L) (hd:d∈ts) (he:e∈ts) (hde:e≠d) (hv:∀ s∈qbh v,s∉ts) (h:qaa P E Y (⟨none,.st sz (.t d) v,none⟩ :: ⟨some e,.alcd t z,none⟩ :: is) fr L K) :
  qaa P E Y (⟨some e,.alcd t z,none⟩ :: ⟨none,.st sz (.t d) v,none⟩ :: is) fr L K:=by
 have hk:Key.l e≠Key.l d:=by simpa using hde
 have hn:isN ⟨some e,.alcd t z,none⟩=some (e,[]):=rfl
 rw [qa2] at h
 obtain ⟨c,L',e2,hc,h⟩:=h
 obtain ⟨cs,bt,vals,h1,rfl,h3,h4⟩:=st_t (hI d hd) (fun q=>hv d q hd) e2
 rw [qaG hn] at h
 obtain ⟨⟨hF,hh⟩,c1,r,ao,e1,hc1,h⟩:=h
 have e1':=e1
 simp only [nx,zn,zw] at e1
 obtain ⟨rfl,rfl,rfl⟩:=e1
 have hhL:Zar L (.l e)=some Zam:=by rw [qab,if_neg hk] at hh;exact hh
 rw [qaG hn]
 refine ⟨⟨⟨hF.1,(hI e he).2.1⟩,hhL⟩,_,_,_,e1',trivial,?_⟩
 rw [qa2]
 have hs:stx (fr.set e (.adr (.l e) 0)) (Zas L (.l e) (.box (z.map .p) t)) sz (.t d) v=stx fr (Zas L (.l e) (.box (z.map .p) t)) sz (.t d) v:=qlD (d:=some e) fun q hq=>by
  cases hq
  simp only [qbh,zJ,zF,not_or]
  exact ⟨hde,fun q=>hv e q he⟩
 refine ⟨c,_,by rw [hs];exact h4 _ (by rw [qab,if_neg (Ne.symm hk)]) (qvS (fun kv x y q=>by rw [hhL] at q;cases q)),hc,?_⟩
 rw [qhg _ _ hk (by rw [hhL];rfl) (by rw [h1];rfl)]
 exact h
theorem qCo {ts:List Nat} {i:IOper} {js:List IOper} {K':List AV→Objs→Prop} (hi:okT ts i=true) (hI:InvA ts fr L) (h:qaa P E Y (i :: is) fr L K) (hk:∀ fr L,InvA ts fr L→qaa P E Y is fr L K→qaa P E Y js fr L K'):qaa P E Y (i :: js) fr L K':=by
 rcases qhh hi with ⟨d,t,z,rfl,hm⟩|⟨sz,d,x,rfl,hd,hv⟩|⟨l,hl,hf,hr,hy⟩
 ·have hn:isN ⟨some d,.alcd t z,none⟩=some (d,[]):=rfl
  rw [qaG hn] at h ⊢
  obtain ⟨h1,c1,r,ao,e1,hc1,h⟩:=h
  have e1':=e1
  simp only [nx,zn,zw] at e1
  obtain ⟨rfl,rfl,rfl⟩:=e1
  exact ⟨h1,_,_,_,e1',trivial,hk _ _ (qxY hI) h⟩
 ·rw [qa2] at h ⊢
  obtain ⟨c,L',e2,hc,h⟩:=h
  exact ⟨c,L',e2,hc,hk _ _ (qza hI hd hv e2) h⟩
 ·have hsx:(qaZ i).isSome=true:=by rw [hl];rfl
  rw [qaq hsx] at h ⊢
  obtain ⟨c,r,e1,hc,h⟩:=h
  exact ⟨c,r,e1,hc,hk _ _ (qCf hl hr hy hI e1) h⟩
theorem qpd {s y:IOper} (h:qx7 s y=true):∃ sz d v,s=⟨none,.st sz (.t d) v,none⟩∧((∃ sz2 e u,y=⟨none,.st sz2 (.t e) u,none⟩∧d≠e)∨((∀ sz2 e u,y≠⟨none,.st sz2 (.t e) u,none⟩)∧∀ q,y.dst=some q→q≠d∧q∉qbh v)):=by
 unfold qx7 at h
 split at h
 ·refine ⟨_,_,_,rfl,?_⟩
  split at h
  ·exact .inl ⟨_,_,_,rfl,by simpa using h⟩
  ·rename_i hne
   refine .inr ⟨fun sz2 e u q=>hne sz2 e u q,fun q hq=>?_⟩
   rw [hq] at h
   simpa using h
 ·cases h
theorem qyf {ts:List Nat} {x i:IOper} (hx:okT ts x=true) (hi:okT ts i=true) (ha:qot x i=true) (hI:InvA ts fr L) (h:qaa P E Y (x :: i :: is) fr L K):qaa P E Y (i :: x :: is) fr L K:=by
 unfold qot at ha
 rw [z6,z6] at ha
 rcases ha with (ha|ha)|ha
 ·refine qqb ha (fun d l hn=>?_) h
  obtain ⟨hm,rfl,t,z,rfl⟩:=qxL hi hn
  have hsep:=(qt9 ha).2
  rcases qhh hx with ⟨d',t',z',rfl,hm'⟩|⟨sz,d',v,rfl,_,_⟩|⟨l',hl,hf,hr,hy⟩
  ·have hne:=hsep d' [] rfl d [] hn
   rw [qaG (d:=d') (l:=[]) rfl] at h
   obtain ⟨_,c1,r,ao,_,_,h⟩:=h
   rw [qaG hn] at h
   exact qsJ (hI d hm) (qoc (e:=some d') (fun q hq=>by cases hq;exact hne)) h.1.1
  ·rw [qa2] at h
   obtain ⟨c,L',_,_,h⟩:=h
   rw [qaG hn] at h
   exact qsJ (hI d hm) rfl h.1.1
  ·rw [qaq (by rw [hl];rfl)] at h
   obtain ⟨c,r,_,_,h⟩:=h
   rw [qaG hn] at h
   exact qsJ (hI d hm) (qoc (fun q hq e=>hy q hq (e ▸ hm))) h.1.1
 ·obtain ⟨sz,d,v,rfl,h2⟩:=qpd ha
  rcases qhh hx with ⟨_,_,_,e,_⟩|⟨_,_,_,e,hd,hv⟩|⟨l',hl,_⟩
  ·cases e
  ·cases e
   rcases qhh hi with ⟨e',t',z',rfl,hm'⟩|⟨sz2,e',u,rfl,he,hu⟩|⟨l,hl,hf,hr,hy⟩
   ·rcases h2 with ⟨_,_,_,q,_⟩|⟨_,h2⟩
    ·cases q
    ·exact qrC hI hd hm' (h2 e' rfl).1 hv h
   ·rcases h2 with ⟨_,_,_,q,hne⟩|⟨hn,_⟩
    ·cases q
     exact qm7 hI hd he hne hv hu h
    ·exact absurd rfl (hn _ _ _)
   ·rcases h2 with ⟨_,_,_,rfl,_⟩|⟨_,h2⟩
    ·simp [qaZ,qdX] at hl
    ·exact (qm6 hI hd hv hl hf hr h2).1 h
  ·simp [qaZ,qdX] at hl
 ·obtain ⟨sz,d,v,rfl,h2⟩:=qpd ha
  rcases qhh hi with ⟨_,_,_,e,_⟩|⟨_,_,_,e,hd,hv⟩|⟨l',hl,_⟩
  ·cases e
  ·cases e
   rcases qhh hx with ⟨e',t',z',rfl,hm'⟩|⟨sz2,e',u,rfl,he,hu⟩|⟨l,hl,hf,hr,hy⟩
   ·rcases h2 with ⟨_,_,_,q,_⟩|⟨_,h2⟩
    ·cases q
    ·exact qrD hI hd hm' (h2 e' rfl).1 hv h
   ·rcases h2 with ⟨_,_,_,q,hne⟩|⟨hn,_⟩
    ·cases q
     exact qm7 hI he hd (Ne.symm hne) hu hv h
    ·exact absurd rfl (hn _ _ _)
   ·rcases h2 with ⟨_,_,_,rfl,_⟩|⟨_,h2⟩
    ·simp [qaZ,qdX] at hl
    ·exact (qm6 hI hd hv hl hf hr h2).2 h
  ·simp [qaZ,qdX] at hl
theorem quw {ts:List Nat} {i:IOper} {post:List IOper} (hi:okT ts i=true):∀ (pre:List IOper) (fr:List AV) (L:Objs),(∀ x∈pre,okT ts x=true∧qot x i=true)→InvA ts fr L→qaa P E Y (pre++i :: post) fr L K→qaa P E Y (i :: (pre++post)) fr L K:=by
 intro pre
 induction pre with
 |nil=>intro fr L _ _ h;exact h
 |cons x pre ih=>
  intro fr L ha hI h
  obtain ⟨h1,h2⟩:=ha x (by simp)
  exact qyf h1 hi h2 hI (qCo h1 hI h fun fr L hI h=>ih fr L (fun y hy=>ha y (by simp [hy])) hI h)
end
section
variable {P:Program} {E:Envt} {Y:List PV} {B:Base}
theorem qpe {ops:Array Oper}:∀ {js:List IOper} {os:List Oper},qhC P ops os js=true→(∀ i∈js,isFz i=false)→js.length=os.length∧∀ (k:Nat) (i:IOper),js[k]?=some i→∃ o,os[k]?=some o∧qjn P ops o i=true:=by
 intro js
 induction js with
 |nil=>intro os h _;simp only [qhC,List.isEmpty_iff] at h;subst h;simp
 |cons i js ih=>
  intro os h hf
  simp only [qhC] at h
  rw [if_neg (by simp [hf i (by simp)])] at h
  split at h
  ·rename_i o os'
   simp only [zq] at h
   obtain ⟨h1,h2⟩:=ih h.2 (fun j hj=>hf j (by simp [hj]))
   refine ⟨by simp [h1],fun k x hx=>?_⟩
   cases k with
   |zero=>simp at hx;subst hx;exact ⟨o,rfl,h.1⟩
   |succ k=>simp at hx;simpa using h2 k x hx
  ·cases h
theorem qst {ops:Array Oper} {n i:Nat} {ii:IOper}:∀ {l:List (Nat×IOper)},qpN ops n i ii l=true→∀ y∈l,qkw y.2 ii=true∨ancB ops n i y.1=true:=by
 intro l
 induction l with
 |nil=>intro _ y hy;cases hy
 |cons q l ih=>
  intro h y hy
  obtain ⟨j,jj⟩:=q
  simp only [qpN,zq,z6] at h
  simp only [zI] at hy
  rcases hy with rfl|hy
  ·exact h.1
  ·exact ih h.2 y hy
theorem qrP {ops:Array Oper} {n:Nat}:∀ {l seen:List (Nat×IOper)},qsX ops n seen l=true→∀ (pre:List (Nat×IOper)) (x:Nat×IOper) (post:List (Nat×IOper)),l=pre++x :: post→∀ y∈seen++pre,qkw y.2 x.2=true∨ancB ops n x.1 y.1=true:=by
 intro l
 induction l with
 |nil=>intro seen _ pre x post h;cases pre<;>cases h
 |cons q l ih=>
  intro seen h pre x post e y hy
  obtain ⟨i,ii⟩:=q
  simp only [qsX,zq] at h
  cases pre with
  |nil=>
   simp only [zm,List.cons.injEq] at e
   obtain ⟨rfl,rfl⟩:=e
   exact qst h.1 y (by simpa using hy)
  |cons p pre=>
   simp only [zl,List.cons.injEq] at e
   obtain ⟨rfl,rfl⟩:=e
   exact ih h.2 pre x post rfl y (by simpa using hy)
def qqE (ops:Array Oper) (listed:Array Bool):Prop:=∀ (i:Nat) (o:Oper),ops[i]?=some o→listed.getD i false=true→∀ e∈qjJ o,listed.getD e false=true
theorem qmP {ops:Array Oper} {listed:Array Bool} (hc:qqE ops listed):∀ (n i j:Nat) (o:Oper),ops[i]?=some o→(∀ e∈qjJ o,listed.getD e false=true)→ancB ops n i j=true→listed.getD j false=true:=by
 intro n
 induction n with
 |zero=>intro i j o _ _ h;simp [ancB] at h
 |succ n ih=>
  intro i j o ho he h
  simp only [ancB,ho,List.any_eq_true,z6,beq_iff_eq] at h
  obtain ⟨e,h1,h2⟩:=h
  rcases h2 with rfl|h2
  ·exact he e h1
  ·cases hoe:ops[e]? with
   |none=>cases n<;>simp [ancB,hoe] at h2
   |some oe=>exact ih e j oe hoe (hc e oe hoe (he e h1)) h2
theorem mem_ready {ops:Array Oper} {listed:Array Bool} {i:Nat}:i∈Region.ready .any ops listed↔∃ o,ops[i]?=some o∧listed.getD i true=false∧∀ e∈qjJ o,listed.getD e false=true:=by
 simp only [Region.ready,yj,List.mem_range,zq,zW]
 constructor
 ·rintro ⟨h1,h2,h3⟩
  obtain ⟨o,ho⟩:∃ o,ops[i]?=some o:=⟨_,Array.getElem?_eq_getElem h1⟩
  refine ⟨o,ho,h2,fun e he=>?_⟩
  rw [ho] at h3
  simp only [zL,yt,Array.all_eq_true'] at h3
  simp only [qjJ,zN,yj] at he
  obtain ⟨ed,⟨h4,h5⟩,rfl⟩:=he
  have:=h3 ed (by simpa using h4)
  simpa [h5] using this
 ·rintro ⟨o,ho,h2,h3⟩
  refine ⟨(zG.1 ho).1,h2,?_⟩
  rw [ho]
  simp only [zL,yt,Array.all_eq_true']
  intro ed hed
  cases hb:Region.binds .any ed with
  |false=>simp
  |true=>simp only [Bool.not_true,Bool.false_or];exact h3 _ (by simp only [qjJ,zN,yj];exact ⟨ed,⟨by simpa using hed,hb⟩,rfl⟩)
def unl (listed:Array Bool) (p:Nat×IOper):Bool:=!listed.getD p.1 true
theorem newsOf_mem {l:List IOper} {d:Nat}:d∈qaw l↔∃ i∈l,∃ r,isN i=some (d,r):=by
 simp only [qaw,List.mem_filterMap,zp]
 constructor
 ·rintro ⟨i,hi,⟨e,r⟩,h1,rfl⟩;exact ⟨i,hi,r,h1⟩
 ·rintro ⟨i,hi,r,h1⟩;exact ⟨i,hi,(d,r),h1,rfl⟩
theorem qCw {ops:Array Oper} {js:List IOper} {K:List AV→Objs→Prop} {Q:Exit→Act→World→Prop} (hK:∀ fr L ι a w,K fr L→StF E B w L ι fr a→Q .normal a w) (hjs:js.length=ops.size)
  (hget:∀ (k:Nat) (i:IOper),js[k]?=some i→∃ o,ops[k]?=some o∧qjn P ops o i=true) (hfz:∀ i∈js,isFz i=false) (hall:qsX ops ops.size [] ((zE js.length).zip js)=true)
  (hedge:∀ (i:Nat) (o:Oper),ops[i]?=some o→∀ e∈qjJ o,e < i) (hnews:qaw js=[]∨(∀ i∈js,okBy (qaw js) i=true)∧(qaw js).Nodup) :
  ∀ (fuel:Nat) (listed:Array Bool) (fr:List AV) (L:Objs) (ι:Key→Value) (a:Act) (w:World),listed.size=ops.size→qqE ops listed→fuel=(((zE js.length).zip js).filter (unl listed)).length→
   qdp (qaw ((((zE js.length).zip js).filter (unl listed)).map (·.2))) fr L→
   qaa P E Y ((((zE js.length).zip js).filter (unl listed)).map (·.2)) fr L K→StF E B w L ι fr a→wpAny P .any ops Q fuel listed a w:=by
 intro fuel
 have zget:∀ (k:Nat) (x:IOper),js[k]?=some x→((zE js.length).zip js)[k]?=some (k,x):=by
  intro k x hk
  rw [List.getElem?_zip_eq_some]
  exact ⟨by rw [ya (zt.1 hk).1],hk⟩
 have zmem:∀ (p:Nat×IOper),p∈(zE js.length).zip js→p.1 < js.length∧js[p.1]?=some p.2:=by
  intro p hp
  obtain ⟨k,hk⟩:=zR hp
  rw [List.getElem?_zip_eq_some] at hk
  obtain ⟨h1,h2⟩:=hk
  rw [ya (by have:=(zt.1 h2).1;exact this)] at h1
  cases h1
  exact ⟨(zt.1 h2).1,h2⟩
 induction fuel with
 |zero=>
  intro listed fr L ι a w hsz hcl hf hFr h hs
  have hnil:((zE js.length).zip js).filter (unl listed)=[]:=zA hf.symm
  rw [hnil] at h
  refine ⟨?_,hK fr L ι a w h hs⟩
  refine List.eq_nil_iff_forall_not_mem.2 fun i hi=>?_
  obtain ⟨o,ho,h2,_⟩:=mem_ready.1 hi
  have hlt:i < js.length:=by rw [hjs];exact (zG.1 ho).1
  have:(i,js[i])∈((zE js.length).zip js).filter (unl listed):=by
   simp only [yj]
   exact ⟨zx (zget i _ (zg hlt)),by simp [unl,h2]⟩
  rw [hnil] at this
  cases this
 |succ fuel ih=>
  intro listed fr L ι a w hsz hcl hf hFr h hs
  have hready:Region.ready .any ops listed≠[]:=by
   intro hnil
   cases hrem:((zE js.length).zip js).filter (unl listed) with
   |nil=>rw [hrem] at hf;simp at hf
   |cons p rest=>
    have hp:p∈((zE js.length).zip js).filter (unl listed):=by rw [hrem];simp
    have hex:∃ i,i < js.length∧listed.getD i true=false∧∀ j,j < i→listed.getD j true=true:=by
     obtain ⟨h1,h2⟩:=yj.1 hp
     have hp1:=(zmem p h1).1
     have hpu:listed.getD p.1 true=false:=by simpa [unl] using h2
     have:∀ m i,i≤m→i < js.length→listed.getD i true=false→∃ i,i < js.length∧listed.getD i true=false∧∀ j,j < i→listed.getD j true=true:=by
      intro m
      induction m with
      |zero=>intro i hi h1 h2;exact ⟨i,h1,h2,fun j hj=>by omega⟩
      |succ m ihm=>
       intro i hi h1 h2
       by_cases hex:∃ j,j < i∧listed.getD j true=false
       ·obtain ⟨j,hj1,hj2⟩:=hex
        exact ihm j (by omega) (by omega) hj2
       ·refine ⟨i,h1,h2,fun j hj=>?_⟩
        cases hq:listed.getD j true with
        |true=>rfl
        |false=>exact absurd ⟨j,hj,hq⟩ hex
     exact this p.1 p.1 (zM _) hp1 hpu
    obtain ⟨i,hi1,hi2,hi3⟩:=hex
    obtain ⟨o,ho,_⟩:=hget i _ (zg hi1)
    have:i∈Region.ready .any ops listed:=mem_ready.2 ⟨o,ho,hi2,fun e he=>by
     have hlt:=hedge i o ho e he
     have:=hi3 e hlt
     have hes:e < listed.size:=by rw [hsz,← hjs];omega
     simp only [Array.getD,hes,dite_true] at this ⊢
     exact this⟩
    rw [hnil] at this
    cases this
  refine ⟨fun hn=>absurd hn hready,fun i hi=>?_⟩
  obtain ⟨o,ho,hun,hed⟩:=mem_ready.1 hi
  have hlt:i < js.length:=by rw [hjs];exact (zG.1 ho).1
  have hil:i < listed.size:=by rw [hsz,← hjs];exact hlt
  obtain ⟨ii,hii⟩:∃ ii,js[i]?=some ii:=⟨_,zg hlt⟩
  have hsplit:(zE js.length).zip js=((zE js.length).zip js).take i++(i,ii) :: ((zE js.length).zip js).drop (i+1):=by
   have hzl:((zE js.length).zip js).length=js.length:=by simp
   have e:((zE js.length).zip js)[i]?=some (i,ii):=by
    rw [List.getElem?_zip_eq_some]
    exact ⟨by rw [ya hlt],hii⟩
   rw [zt] at e
   obtain ⟨h1,h2⟩:=e
   rw [← h2,← List.drop_eq_getElem_cons h1,List.take_append_drop]
  have hpre:∀ p∈((zE js.length).zip js).take i,p.1 < i:=by
   intro p hp
   obtain ⟨k,hk⟩:=zR hp
   rw [List.getElem?_take] at hk
   split at hk
   ·rename_i hki
    rw [List.getElem?_zip_eq_some] at hk
    rw [ya (by omega)] at hk
    cases hk.1
    exact hki
   ·cases hk
  have hpost:∀ p∈((zE js.length).zip js).drop (i+1),i < p.1:=by
   intro p hp
   obtain ⟨k,hk⟩:=zR hp
   rw [List.getElem?_drop,List.getElem?_zip_eq_some] at hk
   have hkl:=(zt.1 hk.2).1
   rw [ya hkl] at hk
   have:=Option.some.inj hk.1
   omega
  have hunl:unl listed (i,ii)=true:=by simp [unl,hun]
  have hfil:((zE js.length).zip js).filter (unl listed)=(((zE js.length).zip js).take i).filter (unl listed)++(i,ii) :: (((zE js.length).zip js).drop (i+1)).filter (unl listed):=by
   conv=>lhs;rw [hsplit]
   rw [List.filter_append,List.filter_cons_of_pos hunl]
  have hgd:∀ j,j≠i→(listed.setIfInBounds i true).getD j true=listed.getD j true:=by
   intro j hj
   rw [zH,zH,zV (Ne.symm hj)]
  have hself:∀ b,(listed.setIfInBounds i true).getD i b=true:=by
   intro b
   rw [zH,Array.getElem?_setIfInBounds_self_of_lt hil]
   rfl
  have hfil':((zE js.length).zip js).filter (unl (listed.setIfInBounds i true))=(((zE js.length).zip js).take i).filter (unl listed)++(((zE js.length).zip js).drop (i+1)).filter (unl listed):=by
   conv=>lhs;rw [hsplit]
   rw [List.filter_append,List.filter_cons_of_neg (by simp [unl,hself])]
   congr 1
   ·refine List.filter_congr fun p hp=>?_
    have:=hpre p hp
    simp only [unl,hgd p.1 (by omega)]
   ·refine List.filter_congr fun p hp=>?_
    have:=hpost p hp
    simp only [unl,hgd p.1 (by omega)]
  have hap:∀ x∈((((zE js.length).zip js).take i).filter (unl listed)).map (·.2),qkw x ii=true:=by
   intro x hx
   obtain ⟨p,hp,rfl⟩:=zN.1 hx
   obtain ⟨hp1,hp2⟩:=yj.1 hp
   rcases qrP hall _ _ _ hsplit p (by simpa using hp1) with h'|h'
   ·exact h'
   ·have:=qmP hcl _ i p.1 o ho hed h'
    have hpl:p.1 < listed.size:=by have:=hpre p hp1;omega
    simp only [unl,Array.getD,hpl,dite_true] at hp2 this
    rw [this] at hp2
    cases hp2
  have hsub:((((zE js.length).zip js).filter (unl listed)).map (·.2)).Sublist js:=by
   have e:((zE js.length).zip js).map (·.2)=js:=by rw [← List.unzip_snd,List.unzip_zip (by simp)]
   have:=(List.filter_sublist (p:=unl listed) (l:=(zE js.length).zip js)).map (·.2)
   rwa [e] at this
  rw [hfil] at h hf hFr hsub
  simp only [zO,zk] at h hFr hsub
  generalize hA:((((zE js.length).zip js).take i).filter (unl listed)).map (·.2)=A at *
  generalize hC:((((zE js.length).zip js).drop (i+1)).filter (unl listed)).map (·.2)=C at *
  have hfront:=qrc _ fr L hap (fun d hd=>hFr d (by
   obtain ⟨q,hq,r,hr⟩:=newsOf_mem.1 hd
   simp only [zF] at hq
   exact newsOf_mem.2 ⟨q,by simp [hq],r,hr⟩)) h
  have hrest:qdp (qaw (A++C)) fr L:=fun d hd=>hFr d (by
   obtain ⟨q,hq,r,hr⟩:=newsOf_mem.1 hd
   refine newsOf_mem.2 ⟨q,?_,r,hr⟩
   simp only [zJ,zI] at hq ⊢
   rcases hq with hq|hq
   ·exact .inl hq
   ·exact .inr (.inr hq))
  have hfront:qaa P E Y (ii :: []) fr L (fun fr L=>qdp (qaw (A++C)) fr L∧qaa P E Y (A++C) fr L K)∨(qaa P E Y (ii :: (A++C)) fr L K∧qaw js=[]):=by
   rcases hnews with hn|⟨h1,h2⟩
   ·exact .inr ⟨hfront,hn⟩
   ·rcases qrb (h1 ii (zx hii)) with hok|⟨d0,hd0,hn0⟩
    rotate_left
    ·refine .inl (qna hd0 (fun hm=>hn0 ?_) hrest hfront (fun fr L hF h=>⟨hF,h⟩))
     obtain ⟨q,hq,r,hr⟩:=newsOf_mem.1 hm
     refine newsOf_mem.2 ⟨q,hsub.subset ?_,r,hr⟩
     simp only [zJ,zI] at hq ⊢
     rcases hq with hq|hq
     ·exact .inl hq
     ·exact .inr (.inr hq)
    refine .inl (qku hok ?_ hrest hfront (fun fr L hF h=>⟨hF,h⟩))
    intro d l hd hm
    have hnd:(qaw (A++ii :: C)).Nodup:=(hsub.filterMap _).nodup h2
    have hp:(qaw (A++ii :: C)).Perm (qaw (ii :: (A++C))):=List.Perm.filterMap _ List.perm_middle
    have hnd2:=hp.nodup_iff.1 hnd
    have e:qaw (ii :: (A++C))=d :: qaw (A++C):=by simp [qaw,hd]
    rw [e] at hnd2
    exact (List.nodup_cons.1 hnd2).1 hm
  have hemp:qaw js=[]→qaw (A++C)=[]:=by
   intro hn
   refine List.eq_nil_iff_forall_not_mem.2 fun d hd=>?_
   obtain ⟨q,hq,r,hr⟩:=newsOf_mem.1 hd
   have:d∈qaw js:=newsOf_mem.2 ⟨q,hsub.subset (by
    simp only [zJ,zI] at hq ⊢
    rcases hq with hq|hq
    ·exact .inl hq
    ·exact .inr (.inr hq)),r,hr⟩
   rw [hn] at this
   cases this
  have hfi:isFz ii=false:=hfz ii (zx hii)
  obtain ⟨o',ho',hchk⟩:=hget i ii hii
  rw [ho] at ho'
  cases ho'
  have cont:∀ fr' L' ι' a' w',qdp (qaw (A++C)) fr' L'→qaa P E Y (A++C) fr' L' K→StF E B w' L' ι' fr' a'→wpAny P .any ops Q fuel (listed.setIfInBounds i true) a' w':=by
   intro fr' L' ι' a' w' hF' h' hs'
   refine ih (listed.setIfInBounds i true) fr' L' ι' a' w' (by simpa using hsz) ?_ ?_ ?_ ?_ hs'
   ·intro k q hq hk e he
    by_cases hki:k=i
    ·subst hki
     rw [ho] at hq
     cases hq
     by_cases hei:e=k
     ·subst hei;exact hself _
     ·have:=hed e he
      rw [zH,zV (Ne.symm hei),← zH]
      exact this
    ·rw [zH,zV (Ne.symm hki),← zH] at hk
     have:=hcl k q hq hk e he
     by_cases hei:e=i
     ·subst hei;exact hself _
     ·rw [zH,zV (Ne.symm hei),← zH]
      exact this
   ·rw [hfil']
    simp only [zK,zi] at hf ⊢
    omega
   ·rw [hfil',zO,hA,hC]
    exact hF'
   ·rw [hfil',zO,hA,hC]
    exact h'
  have hstep:if Region.wanted o (yielded ops a.tmps) then o.wp P a w (wpAny P .any ops Q fuel (listed.setIfInBounds i true)) Q else wpAny P .any ops Q fuel (listed.setIfInBounds i true) (a.put o.dst undef) w:=by
   rcases hfront with hfront|⟨hfront,hn⟩
   ·exact qgX hchk hfi hfront hs (fun fr' L' ι' a' w' h' hs'=>by
     simp only [qaa] at h'
     exact cont fr' L' ι' a' w' h'.1 h'.2 hs')
   ·exact qgX hchk hfi hfront hs (fun fr' L' ι' a' w' h' hs'=>cont fr' L' ι' a' w' (by rw [hemp hn];intro d hd;cases hd) h' hs')
  unfold wpOp
  rw [ho]
  simp only
  by_cases hw:Region.wanted o (yielded ops a.tmps)=true
  ·rw [if_pos hw] at hstep ⊢
   exact .inl hstep
  ·rw [if_neg hw] at hstep ⊢
   exact hstep
theorem qor {ops:Array Oper} {K:List AV→Objs→Prop}:∀ (is:List IOper) (ds:List Nat) (fr:List AV) (L:Objs) (ι:Key→Value) (a:Act) (w:World) (os:List Oper),(∀ i∈is,isRe i=false)→qhC P ops os is=true→qdp ds fr L→(∀ d∈ds,fr.getD d .any=.any)→qaa P E Y is fr L K→StF E B w L ι fr a→qhC P ops os (qi0 is)=true∧∃ fr' L' ι',qdp (ds++qcV is) fr' L'∧(∀ d∈ds++qcV is,fr'.getD d .any=.any)∧qaa P E Y (qi0 is) fr' L' K∧StF E B w L' ι' fr' a:=by
 intro is
 induction is with
 |nil=>intro ds fr L ι a w os _ hc hF hA h hs;exact ⟨hc,fr,L,ι,by simpa [qcV] using hF,by simpa [qcV] using hA,h,hs⟩
 |cons i is ih=>
  intro ds fr L ι a w os hre hc hF hA h hs
  have hre':∀ i∈is,isRe i=false:=fun j hj=>hre j (by simp [hj])
  simp only [qi0,qcV]
  by_cases hf:isFz i=true
  ·rw [if_pos hf,if_pos hf]
   simp only [qhC] at hc
   rw [if_pos hf] at hc
   rcases qsD hf with ⟨x,rfl⟩|⟨x,rfl⟩|rfl
   ·simp only [qaa] at h
    split at h
    ·rename_i k y hk
     exact ih ds _ _ ι a w os hre' hc (fun d hd=>(hF d hd).thaw) (fun d hd=>by have:=hA d hd;rw [zD,zz];rw [zD] at this;cases hq:fr[d]? with|none=>rfl|some q=>rw [hq] at this;simp only [yt] at this;subst this;rfl) h (qAE hs hk)
    ·exact ih ds _ _ ι a w os hre' hc hF hA h hs
   ·simp only [qaa] at h
    obtain ⟨h1,fr',L',ι',h2,h2a,h3⟩:=ih (ds++[x]) _ _ _ a w os hre' hc (fun d hd=>by
     rcases zJ.1 hd with hd|hd
     ·exact (hF d hd).hole x
     ·simp only [zF] at hd
      subst hd
      exact Zal.hole_self d fr L) (fun d hd=>by
     by_cases hx:x=d
     ·subst hx
      by_cases hl:x < fr.length
      ·simp [zD,hl]
      ·simp [zD,zY,hl]
     ·have hd':d∈ds:=(zJ.1 hd).resolve_right (fun q=>hx (zF.1 q).symm)
      have:=hA d hd'
      rw [zD,yn hx,zz]
      rw [zD] at this
      cases hq:fr[d]? with
      |none=>rfl
      |some q=>rw [hq] at this;simp only [yt] at this;subst this;rfl) h (qsF hs x)
    exact ⟨h1,fr',L',ι',by simpa using h2,by simpa using h2a,h3⟩
   ·have:=hre _ (List.mem_cons_self ..)
    cases this
  ·rw [if_neg hf,if_neg hf]
   exact ⟨hc,fr,L,ι,by simpa using hF,by simpa using hA,h,hs⟩
theorem qrL {K:List AV→Objs→Prop}:∀ (is:List IOper) (ds:List Nat) (fr:List AV) (L:Objs) (ι:Key→Value) (a:Act) (w:World),(∀ i∈is,isRe i=false)→qdp ds fr L→(∀ d∈ds,fr.getD d .any=.any)→qaa P E Y is fr L K→StF E B w L ι fr a→∃ fr' L' ι',qdp (ds++qcV is) fr' L'∧(∀ d∈ds++qcV is,fr'.getD d .any=.any)∧qaa P E Y (qi0 is) fr' L' K∧StF E B w L' ι' fr' a:=by
 intro is
 induction is with
 |nil=>intro ds fr L ι a w _ hF hA h hs;exact ⟨fr,L,ι,by simpa [qcV] using hF,by simpa [qcV] using hA,h,hs⟩
 |cons i is ih=>
  intro ds fr L ι a w hre hF hA h hs
  have hre':∀ i∈is,isRe i=false:=fun j hj=>hre j (by simp [hj])
  simp only [qi0,qcV]
  by_cases hf:isFz i=true
  ·rw [if_pos hf,if_pos hf]
   rcases qsD hf with ⟨x,rfl⟩|⟨x,rfl⟩|rfl
   ·simp only [qaa] at h
    split at h
    ·rename_i k y hk
     exact ih ds _ _ ι a w hre' (fun d hd=>(hF d hd).thaw) (fun d hd=>by have:=hA d hd;rw [zD,zz];rw [zD] at this;cases hq:fr[d]? with|none=>rfl|some q=>rw [hq] at this;simp only [yt] at this;subst this;rfl) h (qAE hs hk)
    ·exact ih ds _ _ ι a w hre' hF hA h hs
   ·simp only [qaa] at h
    obtain ⟨fr',L',ι',h2,h2a,h3⟩:=ih (ds++[x]) _ _ _ a w hre' (fun d hd=>by
     rcases zJ.1 hd with hd|hd
     ·exact (hF d hd).hole x
     ·simp only [zF] at hd
      subst hd
      exact Zal.hole_self d fr L) (fun d hd=>by
     by_cases hx:x=d
     ·subst hx
      by_cases hl:x < fr.length
      ·simp [zD,hl]
      ·simp [zD,zY,hl]
     ·have hd':d∈ds:=(zJ.1 hd).resolve_right (fun q=>hx (zF.1 q).symm)
      have:=hA d hd'
      rw [zD,yn hx,zz]
      rw [zD] at this
      cases hq:fr[d]? with
      |none=>rfl
      |some q=>rw [hq] at this;simp only [yt] at this;subst this;rfl) h (qsF hs x)
    exact ⟨fr',L',ι',by simpa using h2,by simpa using h2a,h3⟩
   ·have:=hre _ (List.mem_cons_self ..)
    cases this
  ·rw [if_neg hf,if_neg hf]
   exact ⟨fr,L,ι,by simpa using hF,by simpa using hA,h,hs⟩
theorem qBj {ops:Array Oper} {ps:List (Nat×IOper)} {K:List AV→Objs→Prop} {Q:Exit→Act→World→Prop} (hK:∀ fr L ι a w,K fr L→StF E B w L ι fr a→Q .normal a w) (hnd:(ps.map (·.1)).Nodup) (hcov:∀ i,i < ops.size→i∈ps.map (·.1))
  (hget:∀ p∈ps,∃ o,ops[p.1]?=some o∧qjn P ops o p.2=true) (hfz:∀ p∈ps,isFz p.2=false) (hall:qsX ops ops.size [] ps=true)
  (hedge:∀ A p C,ps=A++p :: C→∀ o,ops[p.1]?=some o→∀ e∈qjJ o,e∈A.map (·.1)) (hnews:qaw (ps.map (·.2))=[]∨(∀ i∈ps.map (·.2),okBy (qaw (ps.map (·.2))) i=true)∧(qaw (ps.map (·.2))).Nodup) :
  ∀ (fuel:Nat) (listed:Array Bool) (fr:List AV) (L:Objs) (ι:Key→Value) (a:Act) (w:World),listed.size=ops.size→qqE ops listed→fuel=(ps.filter (unl listed)).length→qdp (qaw ((ps.filter (unl listed)).map (·.2))) fr L→
   qaa P E Y ((ps.filter (unl listed)).map (·.2)) fr L K→StF E B w L ι fr a→wpAny P .any ops Q fuel listed a w:=by
 intro fuel
 induction fuel with
 |zero=>
  intro listed fr L ι a w hsz hcl hf hFr h hs
  have hnil:ps.filter (unl listed)=[]:=zA hf.symm
  rw [hnil] at h
  refine ⟨?_,hK fr L ι a w h hs⟩
  refine List.eq_nil_iff_forall_not_mem.2 fun i hi=>?_
  obtain ⟨o,ho,h2,_⟩:=mem_ready.1 hi
  obtain ⟨p,hp,rfl⟩:=zN.1 (hcov i (zG.1 ho).1)
  have:p∈ps.filter (unl listed):=yj.2 ⟨hp,by simp [unl,h2]⟩
  rw [hnil] at this
  cases this
 |succ fuel ih=>
  intro listed fr L ι a w hsz hcl hf hFr h hs
  have hready:Region.ready .any ops listed≠[]:=by
   intro hnil
   have hex:∃ A p C,ps=A++p :: C∧unl listed p=true∧∀ x∈A,unl listed x=false:=by
    cases hrem:ps.filter (unl listed) with
    |nil=>rw [hrem] at hf;simp at hf
    |cons p rest=>
     obtain ⟨A,C,e,h1,h2,_⟩:=List.filter_eq_cons_iff.1 hrem
     exact ⟨A,p,C,e,h2,fun x hx=>by simpa using h1 x hx⟩
   obtain ⟨A,p,C,e,hp,hA⟩:=hex
   obtain ⟨o,ho,_⟩:=hget p (by rw [e];simp)
   have hpu:listed.getD p.1 true=false:=by simpa [unl] using hp
   have:p.1∈Region.ready .any ops listed:=mem_ready.2 ⟨o,ho,hpu,fun e' he=>by
    obtain ⟨x,hx,rfl⟩:=zN.1 (hedge A p C e o ho e' he)
    have h1:=hA x hx
    simp only [unl,Bool.not_eq_false'] at h1
    obtain ⟨ox,hox,_⟩:=hget x (by rw [e];simp [hx])
    have hes:x.1 < listed.size:=by rw [hsz];exact (zG.1 hox).1
    simp only [Array.getD,hes,dite_true] at h1 ⊢
    exact h1⟩
   rw [hnil] at this
   cases this
  refine ⟨fun hn=>absurd hn hready,fun i hi=>?_⟩
  obtain ⟨o,ho,hun,hed⟩:=mem_ready.1 hi
  have hilt:=(zG.1 ho).1
  have hil:i < listed.size:=by rw [hsz];exact hilt
  obtain ⟨q,hq,hqi⟩:=zN.1 (hcov i hilt)
  obtain ⟨A,C,hsplit⟩:=List.append_of_mem hq
  obtain ⟨i',ii⟩:=q
  simp only at hqi
  subst hqi
  have hne:∀ p∈A++C,p.1≠i':=by
   intro p hp he
   have h1:((i' :: (A++C).map (·.1))).Nodup:=by
    have hp2:(ps.map (·.1)).Perm (i' :: (A++C).map (·.1)):=by
     rw [hsplit,zO,zO,zk]
     exact List.perm_middle
    exact hp2.nodup_iff.1 hnd
   rw [List.nodup_cons] at h1
   exact h1.1 (he ▸ List.mem_map_of_mem hp)
  have hunl:unl listed (i',ii)=true:=by simp [unl,hun]
  have hfil:ps.filter (unl listed)=A.filter (unl listed)++(i',ii) :: C.filter (unl listed):=by
   rw [hsplit,List.filter_append,List.filter_cons_of_pos hunl]
  have hgd:∀ j,j≠i'→(listed.setIfInBounds i' true).getD j true=listed.getD j true:=by
   intro j hj
   rw [zH,zH,zV (Ne.symm hj)]
  have hself:∀ b,(listed.setIfInBounds i' true).getD i' b=true:=by
   intro b
   rw [zH,Array.getElem?_setIfInBounds_self_of_lt hil]
   rfl
  have hfil':ps.filter (unl (listed.setIfInBounds i' true))=A.filter (unl listed)++C.filter (unl listed):=by
   rw [hsplit,List.filter_append,List.filter_cons_of_neg (by simp [unl,hself])]
   congr 1
   ·refine List.filter_congr fun p hp=>?_
    simp only [unl,hgd p.1 (hne p (by simp [hp]))]
   ·refine List.filter_congr fun p hp=>?_
    simp only [unl,hgd p.1 (hne p (by simp [hp]))]
  have hap:∀ x∈(A.filter (unl listed)).map (·.2),qkw x ii=true:=by
   intro x hx
   obtain ⟨p,hp,rfl⟩:=zN.1 hx
   obtain ⟨hp1,hp2⟩:=yj.1 hp
   rcases qrP hall A (i',ii) C hsplit p (by simpa using hp1) with h'|h'
   ·exact h'
   ·have:=qmP hcl _ i' p.1 o ho hed h'
    obtain ⟨ox,hox,_⟩:=hget p (by rw [hsplit];simp [hp1])
    have hpl:p.1 < listed.size:=by rw [hsz];exact (zG.1 hox).1
    simp only [unl,Array.getD,hpl,dite_true] at hp2 this
    rw [this] at hp2
    cases hp2
  have hsub:((ps.filter (unl listed)).map (·.2)).Sublist (ps.map (·.2)):=(List.filter_sublist (p:=unl listed) (l:=ps)).map (·.2)
  rw [hfil] at h hf hFr hsub
  simp only [zO,zk] at h hFr hsub
  have hcont:∀ {A2 C2:List IOper} {d:Nat},d∈qaw (A2++C2)→d∈qaw (A2++ii :: C2):=by
   intro A2 C2 d hd
   obtain ⟨q,hq,r,hr⟩:=newsOf_mem.1 hd
   refine newsOf_mem.2 ⟨q,?_,r,hr⟩
   simp only [zJ,zI] at hq ⊢
   rcases hq with hq|hq
   ·exact .inl hq
   ·exact .inr (.inr hq)
  have hfront:=qrc _ fr L hap (fun d hd=>hFr d (by
   obtain ⟨q,hq,r,hr⟩:=newsOf_mem.1 hd
   simp only [zF] at hq
   exact newsOf_mem.2 ⟨q,by simp [hq],r,hr⟩)) h
  have hii:ii∈ps.map (·.2):=by rw [hsplit];simp
  generalize hA2:(A.filter (unl listed)).map (·.2)=A2 at *
  generalize hC2:(C.filter (unl listed)).map (·.2)=C2 at *
  have hrest:qdp (qaw (A2++C2)) fr L:=fun d hd=>hFr d (hcont hd)
  have hsubm:∀ d,d∈qaw (A2++C2)→d∈qaw (ps.map (·.2)):=fun d hd=>by
   obtain ⟨q,hq,r,hr⟩:=newsOf_mem.1 (hcont hd)
   exact newsOf_mem.2 ⟨q,hsub.subset hq,r,hr⟩
  have hfront:qaa P E Y (ii :: []) fr L (fun fr L=>qdp (qaw (A2++C2)) fr L∧qaa P E Y (A2++C2) fr L K)∨(qaa P E Y (ii :: (A2++C2)) fr L K∧qaw (ps.map (·.2))=[]):=by
   rcases hnews with hn|⟨h1,h2⟩
   ·exact .inr ⟨hfront,hn⟩
   ·rcases qrb (h1 ii hii) with hok|⟨d0,hd0,hn0⟩
    rotate_left
    ·exact .inl (qna hd0 (fun hm=>hn0 (hsubm d0 hm)) hrest hfront (fun fr L hF h=>⟨hF,h⟩))
    refine .inl (qku hok ?_ hrest hfront (fun fr L hF h=>⟨hF,h⟩))
    intro d l hd hm
    have hnd:(qaw (A2++ii :: C2)).Nodup:=(hsub.filterMap _).nodup h2
    have hp:(qaw (A2++ii :: C2)).Perm (qaw (ii :: (A2++C2))):=List.Perm.filterMap _ List.perm_middle
    have hnd2:=hp.nodup_iff.1 hnd
    have e:qaw (ii :: (A2++C2))=d :: qaw (A2++C2):=by simp [qaw,hd]
    rw [e] at hnd2
    exact (List.nodup_cons.1 hnd2).1 hm
  have hemp:qaw (ps.map (·.2))=[]→qaw (A2++C2)=[]:=by
   intro hn
   refine List.eq_nil_iff_forall_not_mem.2 fun d hd=>?_
   have:=hsubm d hd
   rw [hn] at this
   cases this
  obtain ⟨o',ho',hchk⟩:=hget (i',ii) hq
  rw [ho] at ho'
  cases ho'
  have hfi:isFz ii=false:=hfz (i',ii) hq
  have cont:∀ fr' L' ι' a' w',qdp (qaw (A2++C2)) fr' L'→qaa P E Y (A2++C2) fr' L' K→StF E B w' L' ι' fr' a'→wpAny P .any ops Q fuel (listed.setIfInBounds i' true) a' w':=by
   intro fr' L' ι' a' w' hF' h' hs'
   refine ih (listed.setIfInBounds i' true) fr' L' ι' a' w' (by simpa using hsz) ?_ ?_ ?_ ?_ hs'
   ·intro k q hq2 hk e he
    by_cases hki:k=i'
    ·subst hki
     rw [ho] at hq2
     cases hq2
     by_cases hei:e=k
     ·subst hei;exact hself _
     ·have:=hed e he
      rw [zH,zV (Ne.symm hei),← zH]
      exact this
    ·rw [zH,zV (Ne.symm hki),← zH] at hk
     have:=hcl k q hq2 hk e he
     by_cases hei:e=i'
     ·subst hei;exact hself _
     ·rw [zH,zV (Ne.symm hei),← zH]
      exact this
   ·rw [hfil']
    simp only [zK,zi] at hf ⊢
    omega
   ·rw [hfil',zO,hA2,hC2]
    exact hF'
   ·rw [hfil',zO,hA2,hC2]
    exact h'
  have hstep:if Region.wanted o (yielded ops a.tmps) then o.wp P a w (wpAny P .any ops Q fuel (listed.setIfInBounds i' true)) Q else wpAny P .any ops Q fuel (listed.setIfInBounds i' true) (a.put o.dst undef) w:=by
   rcases hfront with hfront|⟨hfront,hn⟩
   ·exact qgX hchk hfi hfront hs (fun fr' L' ι' a' w' h' hs'=>by
     simp only [qaa] at h'
     exact cont fr' L' ι' a' w' h'.1 h'.2 hs')
   ·exact qgX hchk hfi hfront hs (fun fr' L' ι' a' w' h' hs'=>cont fr' L' ι' a' w' (by rw [hemp hn];intro d hd;cases hd) h' hs')
  unfold wpOp
  rw [ho]
  simp only
  by_cases hw:Region.wanted o (yielded ops a.tmps)=true
  ·rw [if_pos hw] at hstep ⊢
   exact .inl hstep
  ·rw [if_neg hw] at hstep ⊢
   exact hstep
theorem quq {ops:Array Oper} {n i:Nat} {ii:IOper}:∀ {l:List (Nat×IOper)},qtF ops n i ii l=true→∀ y∈l,qot y.2 ii=true∨ancB ops n i y.1=true:=by
 intro l
 induction l with
 |nil=>intro _ y hy;cases hy
 |cons q l ih=>
  intro h y hy
  obtain ⟨j,jj⟩:=q
  simp only [qtF,zq,z6] at h
  simp only [zI] at hy
  rcases hy with rfl|hy
  ·exact h.1
  ·exact ih h.2 y hy
theorem qyB {ops:Array Oper} {n:Nat}:∀ {l seen:List (Nat×IOper)},allT ops n seen l=true→∀ (pre:List (Nat×IOper)) (x:Nat×IOper) (post:List (Nat×IOper)),l=pre++x :: post→∀ y∈seen++pre,qot y.2 x.2=true∨ancB ops n x.1 y.1=true:=by
 intro l
 induction l with
 |nil=>intro seen _ pre x post h;cases pre<;>cases h
 |cons q l ih=>
  intro seen h pre x post e y hy
  obtain ⟨i,ii⟩:=q
  simp only [allT,zq] at h
  cases pre with
  |nil=>
   simp only [zm,List.cons.injEq] at e
   obtain ⟨rfl,rfl⟩:=e
   exact quq h.1 y (by simpa using hy)
  |cons p pre=>
   simp only [zl,List.cons.injEq] at e
   obtain ⟨rfl,rfl⟩:=e
   exact ih h.2 pre x post rfl y (by simpa using hy)
theorem qBi {ops:Array Oper} {ps:List (Nat×IOper)} {K:List AV→Objs→Prop} {Q:Exit→Act→World→Prop} (hK:∀ fr L ι a w,K fr L→StF E B w L ι fr a→Q .normal a w) (hnd:(ps.map (·.1)).Nodup) (hcov:∀ i,i < ops.size→i∈ps.map (·.1))
  (hget:∀ p∈ps,∃ o,ops[p.1]?=some o∧qjn P ops o p.2=true) (hfz:∀ p∈ps,isFz p.2=false) (hall:allT ops ops.size [] ps=true) {ts:List Nat} (hokT:∀ p∈ps,okT ts p.2=true)
  (hedge:∀ A p C,ps=A++p :: C→∀ o,ops[p.1]?=some o→∀ e∈qjJ o,e∈A.map (·.1)) :
  ∀ (fuel:Nat) (listed:Array Bool) (fr:List AV) (L:Objs) (ι:Key→Value) (a:Act) (w:World),listed.size=ops.size→qqE ops listed→fuel=(ps.filter (unl listed)).length→InvA ts fr L→
   qaa P E Y ((ps.filter (unl listed)).map (·.2)) fr L K→StF E B w L ι fr a→wpAny P .any ops Q fuel listed a w:=by
 intro fuel
 induction fuel with
 |zero=>
  intro listed fr L ι a w hsz hcl hf hI h hs
  have hnil:ps.filter (unl listed)=[]:=zA hf.symm
  rw [hnil] at h
  refine ⟨?_,hK fr L ι a w h hs⟩
  refine List.eq_nil_iff_forall_not_mem.2 fun i hi=>?_
  obtain ⟨o,ho,h2,_⟩:=mem_ready.1 hi
  obtain ⟨p,hp,rfl⟩:=zN.1 (hcov i (zG.1 ho).1)
  have:p∈ps.filter (unl listed):=yj.2 ⟨hp,by simp [unl,h2]⟩
  rw [hnil] at this
  cases this
 |succ fuel ih=>
  intro listed fr L ι a w hsz hcl hf hI h hs
  have hready:Region.ready .any ops listed≠[]:=by
   intro hnil
   have hex:∃ A p C,ps=A++p :: C∧unl listed p=true∧∀ x∈A,unl listed x=false:=by
    cases hrem:ps.filter (unl listed) with
    |nil=>rw [hrem] at hf;simp at hf
    |cons p rest=>
     obtain ⟨A,C,e,h1,h2,_⟩:=List.filter_eq_cons_iff.1 hrem
     exact ⟨A,p,C,e,h2,fun x hx=>by simpa using h1 x hx⟩
   obtain ⟨A,p,C,e,hp,hA⟩:=hex
   obtain ⟨o,ho,_⟩:=hget p (by rw [e];simp)
   have hpu:listed.getD p.1 true=false:=by simpa [unl] using hp
   have:p.1∈Region.ready .any ops listed:=mem_ready.2 ⟨o,ho,hpu,fun e' he=>by
    obtain ⟨x,hx,rfl⟩:=zN.1 (hedge A p C e o ho e' he)
    have h1:=hA x hx
    simp only [unl,Bool.not_eq_false'] at h1
    obtain ⟨ox,hox,_⟩:=hget x (by rw [e];simp [hx])
    have hes:x.1 < listed.size:=by rw [hsz];exact (zG.1 hox).1
    simp only [Array.getD,hes,dite_true] at h1 ⊢
    exact h1⟩
   rw [hnil] at this
   cases this
  refine ⟨fun hn=>absurd hn hready,fun i hi=>?_⟩
  obtain ⟨o,ho,hun,hed⟩:=mem_ready.1 hi
  have hilt:=(zG.1 ho).1
  have hil:i < listed.size:=by rw [hsz];exact hilt
  obtain ⟨q,hq,hqi⟩:=zN.1 (hcov i hilt)
  obtain ⟨A,C,hsplit⟩:=List.append_of_mem hq
  obtain ⟨i',ii⟩:=q
  simp only at hqi
  subst hqi
  have hne:∀ p∈A++C,p.1≠i':=by
   intro p hp he
   have h1:((i' :: (A++C).map (·.1))).Nodup:=by
    have hp2:(ps.map (·.1)).Perm (i' :: (A++C).map (·.1)):=by
     rw [hsplit,zO,zO,zk]
     exact List.perm_middle
    exact hp2.nodup_iff.1 hnd
   rw [List.nodup_cons] at h1
   exact h1.1 (he ▸ List.mem_map_of_mem hp)
  have hunl:unl listed (i',ii)=true:=by simp [unl,hun]
  have hfil:ps.filter (unl listed)=A.filter (unl listed)++(i',ii) :: C.filter (unl listed):=by
   rw [hsplit,List.filter_append,List.filter_cons_of_pos hunl]
  have hgd:∀ j,j≠i'→(listed.setIfInBounds i' true).getD j true=listed.getD j true:=by
   intro j hj
   rw [zH,zH,zV (Ne.symm hj)]
  have hself:∀ b,(listed.setIfInBounds i' true).getD i' b=true:=by
   intro b
   rw [zH,Array.getElem?_setIfInBounds_self_of_lt hil]
   rfl
  have hfil':ps.filter (unl (listed.setIfInBounds i' true))=A.filter (unl listed)++C.filter (unl listed):=by
   rw [hsplit,List.filter_append,List.filter_cons_of_neg (by simp [unl,hself])]
   congr 1
   ·refine List.filter_congr fun p hp=>?_
    simp only [unl,hgd p.1 (hne p (by simp [hp]))]
   ·refine List.filter_congr fun p hp=>?_
    simp only [unl,hgd p.1 (hne p (by simp [hp]))]
  have hap:∀ x∈(A.filter (unl listed)).map (·.2),okT ts x=true∧qot x ii=true:=by
   intro x hx
   obtain ⟨p,hp,rfl⟩:=zN.1 hx
   obtain ⟨hp1,hp2⟩:=yj.1 hp
   refine ⟨hokT p (by rw [hsplit];simp [hp1]),?_⟩
   rcases qyB hall A (i',ii) C hsplit p (by simpa using hp1) with h'|h'
   ·exact h'
   ·have:=qmP hcl _ i' p.1 o ho hed h'
    obtain ⟨ox,hox,_⟩:=hget p (by rw [hsplit];simp [hp1])
    have hpl:p.1 < listed.size:=by rw [hsz];exact (zG.1 hox).1
    simp only [unl,Array.getD,hpl,dite_true] at hp2 this
    rw [this] at hp2
    cases hp2
  rw [hfil] at h hf
  simp only [zO,zk] at h
  have hfront:=qCo (hokT (i',ii) hq) hI (quw (hokT (i',ii) hq) _ fr L hap hI h) (js:=[]) (K':=fun fr L=>InvA ts fr L∧qaa P E Y ((A.filter (unl listed)).map (·.2)++(C.filter (unl listed)).map (·.2)) fr L K) (fun fr L hI h=>⟨hI,h⟩)
  obtain ⟨o',ho',hchk⟩:=hget (i',ii) hq
  rw [ho] at ho'
  cases ho'
  have hfi:isFz ii=false:=hfz (i',ii) hq
  have cont:∀ fr' L' ι' a' w',InvA ts fr' L'→qaa P E Y ((A.filter (unl listed)).map (·.2)++(C.filter (unl listed)).map (·.2)) fr' L' K→StF E B w' L' ι' fr' a'→wpAny P .any ops Q fuel (listed.setIfInBounds i' true) a' w':=by
   intro fr' L' ι' a' w' hI' h' hs'
   refine ih (listed.setIfInBounds i' true) fr' L' ι' a' w' (by simpa using hsz) ?_ ?_ hI' ?_ hs'
   ·intro k q hq2 hk e he
    by_cases hki:k=i'
    ·subst hki
     rw [ho] at hq2
     cases hq2
     by_cases hei:e=k
     ·subst hei;exact hself _
     ·have:=hed e he
      rw [zH,zV (Ne.symm hei),← zH]
      exact this
    ·rw [zH,zV (Ne.symm hki),← zH] at hk
     have:=hcl k q hq2 hk e he
     by_cases hei:e=i'
     ·subst hei;exact hself _
     ·rw [zH,zV (Ne.symm hei),← zH]
      exact this
   ·rw [hfil']
    simp only [zK,zi] at hf ⊢
    omega
   ·rw [hfil',zO]
    exact h'
  have hstep:if Region.wanted o (yielded ops a.tmps) then o.wp P a w (wpAny P .any ops Q fuel (listed.setIfInBounds i' true)) Q else wpAny P .any ops Q fuel (listed.setIfInBounds i' true) (a.put o.dst undef) w:=
   qgX hchk hfi hfront hs (fun fr' L' ι' a' w' h' hs'=>cont fr' L' ι' a' w' h'.1 h'.2 hs')
  unfold wpOp
  rw [ho]
  simp only
  by_cases hw:Region.wanted o (yielded ops a.tmps)=true
  ·rw [if_pos hw] at hstep ⊢
   exact .inl hstep
  ·rw [if_neg hw] at hstep ⊢
   exact hstep
theorem qnO {α β:Type}:∀ {l:List α} {m:List β} {A:List (α×β)} {p:α×β} {C:List (α×β)},l.length=m.length→l.zip m=A++p :: C→A.map (·.1)=l.take A.length∧l[A.length]?=some p.1
 |[],m,A,p,C,_,h=>by cases A<;>simp at h
 |a :: l,[],A,p,C,hl,h=>by simp at hl
 |a :: l,b :: m,[],p,C,hl,h=>by
  simp only [List.zip_cons_cons,zm,List.cons.injEq] at h
  rw [← h.1]
  exact ⟨rfl,rfl⟩
 |a :: l,b :: m,x :: A,p,C,hl,h=>by
  simp only [List.zip_cons_cons,zl,List.cons.injEq] at h
  obtain ⟨h1,h2⟩:=qnO (by simpa using hl) h.2
  rw [← h.1]
  exact ⟨by simp [h1],by simpa using h2⟩
theorem qAV (hm:P.follows .mixedOrders=true) (E:Envt) (B:Base) (Y:List PV) (ops:Array Oper) (pm:List Nat) (is:List IOper) (id:Nat) (fr:List AV) (L:Objs) (ι:Key→Value) (a:Act) (w:World) (K:List AV→Objs→Prop) (Q:Exit→Act→World→Prop)
  (hK:∀ fr L ι a w,K fr L→StF E B w L ι fr a→Q .normal a w) (hc:qyi P ops pm is=true) (hD:qsx ops pm is=true) (h:qaa P E Y is fr L K) (hs:StF E B w L ι fr a):(Code.region id ops true).wp P Q a w:=by
 simp only [qsx,zq,beq_iff_eq,decide_eq_true_eq,yr,zW] at hD
 obtain ⟨⟨⟨⟨⟨⟨hre,h0⟩,hnd⟩,hlen⟩,hlt⟩,hall⟩,hedge⟩:=hD
 obtain ⟨fr',L',ι',hF',_,h',hs'⟩:=qrL is [] fr L ι a w hre (fun d hd=>by cases hd) (fun d hd=>by cases hd) h hs
 rw [zm] at hF'
 simp only [qyi,zq,beq_iff_eq] at hc
 obtain ⟨hl2,hc⟩:=hc
 rw [yr] at hc
 generalize qcV is=hls at *
 generalize qi0 is=js at *
 have hm1:(pm.zip js).map (·.1)=pm:=by
  have:=List.unzip_zip hl2
  rw [← List.unzip_fst,this]
 have hm2:(pm.zip js).map (·.2)=js:=by
  have:=List.unzip_zip hl2
  rw [← List.unzip_snd,this]
 have hchk:∀ p∈pm.zip js,isFz p.2=false∧∃ o,ops[p.1]?=some o∧qjn P ops o p.2=true:=by
  intro p hp
  have:=hc p hp
  rw [zq,zW] at this
  refine ⟨this.1,?_⟩
  have h2:=this.2
  split at h2
  ·rename_i o ho;exact ⟨o,ho,h2⟩
  ·cases h2
 have hcov:∀ i,i < ops.size→i∈pm:=by
  intro i hi
  simpa using hlt i (List.mem_range.2 hi)
 refine wp_region_any hm ?_
 have hs'':StF E B { w with drawn:=w.drawn+1 } L' ι' fr' a:=hs'.grown ⟨rfl,rfl,rfl,zM _,fun _ _ _=>rfl⟩
 have hrep:∀ j,j < ops.size→(Array.replicate ops.size false).getD j true=false:=by
  intro j hj
  simp [Array.getD,hj]
 have hfil:(pm.zip js).filter (unl (Array.replicate ops.size false))=pm.zip js:=by
  refine List.filter_eq_self.2 fun p hp=>?_
  obtain ⟨_,o,ho,_⟩:=hchk p hp
  simp only [unl,hrep p.1 (zG.1 ho).1,Bool.not_false]
 refine qBj (Y:=Y) (ps:=pm.zip js) hK (by rw [hm1];exact hnd) (fun i hi=>by rw [hm1];exact hcov i hi) (fun p hp=>(hchk p hp).2) (fun p hp=>(hchk p hp).1) hall (fun A p C e o ho q hq=>?_) ?_ ops.size (Array.replicate ops.size false) fr' L' ι' a _ (by simp) ?_ ?_ ?_ ?_ hs''
 ·obtain ⟨h1,h2⟩:=qnO hl2 e
  have hk:A.length < pm.length:=(zt.1 h2).1
  have:=hedge A.length (List.mem_range.2 hk)
  have hg:pm.getD A.length 0=p.1:=by simp [zD,h2]
  rw [hg,ho] at this
  simp only [yr] at this
  have:=this q hq
  rw [h1]
  simpa using this
 ·rw [hm2]
  simp only [qo4,z6,zq,List.isEmpty_iff,yr,decide_eq_true_eq] at h0
  rcases h0 with h0|h0
  ·exact .inl h0
  ·exact .inr h0.1
 ·intro k q hq hk
  by_cases hj:k < ops.size<;>simp [Array.getD,hj] at hk
 ·rw [hfil]
  have:=congrArg List.length hm1
  rw [zB] at this
  omega
 ·rw [hfil,hm2]
  simp only [qo4,z6,zq,List.isEmpty_iff,yr,decide_eq_true_eq] at h0
  rcases h0 with h0|h0
  ·rw [h0];intro d hd;cases hd
  ·intro d hd
   exact hF' d (by simpa using h0.2 d hd)
 ·rw [hfil,hm2]
  exact h'
theorem qAU (hm:P.follows .mixedOrders=true) (E:Envt) (B:Base) (Y:List PV) (ops:Array Oper) (is:List IOper) (id:Nat) (fr:List AV) (L:Objs) (ι:Key→Value) (a:Act) (w:World) (K:List AV→Objs→Prop) (Q:Exit→Act→World→Prop)
  (hK:∀ fr L ι a w,K fr L→StF E B w L ι fr a→Q .normal a w) (hc:qhC P ops ops.toList is=true) (hD:qsw ops is=true) (h:qaa P E Y is fr L K) (hs:StF E B w L ι fr a):(Code.region id ops true).wp P Q a w:=by
 simp only [qsw,zq,beq_iff_eq,yr,zW] at hD
 obtain ⟨⟨⟨⟨⟨⟨hre,h0⟩,hok⟩,h1⟩,h2⟩,h3⟩,h4⟩:=hD
 obtain ⟨hc',fr',L',ι',hF',hA',h',hs'⟩:=qor is [] fr L ι a w ops.toList hre hc (fun d hd=>by cases hd) (fun d hd=>by cases hd) h hs
 rw [zm] at hF' hA'
 generalize qcV is=hls at *
 generalize qi0 is=js at *
 obtain ⟨g1,g2⟩:=qpe hc' (fun i hi=>h1 i hi)
 have hI:InvA (qaw js) fr' L':=fun d hd=>by
  have hm:=h0 d hd
  have hm:d∈hls:=by simpa using hm
  exact ⟨qqs (hF' d hm).1 d,(hF' d hm).2,.inl (hA' d hm)⟩
 refine wp_region_any hm ?_
 have hs'':StF E B { w with drawn:=w.drawn+1 } L' ι' fr' a:=hs'.grown ⟨rfl,rfl,rfl,zM _,fun _ _ _=>rfl⟩
 have hl:(zE js.length).length=js.length:=by simp
 have hz1:((zE js.length).zip js).map (·.1)=zE js.length:=by rw [← List.unzip_fst,List.unzip_zip hl]
 have hz2:((zE js.length).zip js).map (·.2)=js:=by rw [← List.unzip_snd,List.unzip_zip hl]
 have zmem:∀ (p:Nat×IOper),p∈(zE js.length).zip js→p.1 < js.length∧js[p.1]?=some p.2:=by
  intro p hp
  obtain ⟨k,hk⟩:=zR hp
  rw [List.getElem?_zip_eq_some] at hk
  obtain ⟨h1,h2⟩:=hk
  rw [ya (by have:=(zt.1 h2).1;exact this)] at h1
  cases h1
  exact ⟨(zt.1 h2).1,h2⟩
 have hrep:∀ j,j < ops.size→(Array.replicate ops.size false).getD j true=false:=by
  intro j hj
  simp [Array.getD,hj]
 have hfil:((zE js.length).zip js).filter (unl (Array.replicate ops.size false))=(zE js.length).zip js:=by
  refine List.filter_eq_self.2 fun p hp=>?_
  simp only [unl,hrep p.1 (by rw [← h2];exact (zmem p hp).1),Bool.not_false]
 refine qBi (Y:=Y) (ps:=(zE js.length).zip js) hK (by rw [hz1];exact List.nodup_range) (fun i hi=>by rw [hz1,List.mem_range,h2];exact hi) (fun p hp=>?_) (fun p hp=>h1 _ (zx (zmem p hp).2)) h3 (ts:=qaw js) (fun p hp=>hok _ (zx (zmem p hp).2)) (fun A p C e o ho q hq=>?_) ops.size (Array.replicate ops.size false) fr' L' ι' a _ (by simp) ?_ ?_ hI ?_ hs''
 ·obtain ⟨o,ho,hh⟩:=g2 p.1 p.2 (zmem p hp).2
  exact ⟨o,by simpa using ho,hh⟩
 ·obtain ⟨k1,k2⟩:=qnO hl e
  have hAl:A.length < js.length:=by
   have:=(zt.1 k2).1
   simpa using this
  rw [ya hAl] at k2
  have hp1:=Option.some.inj k2
  have hlt:p.1 < ops.size:=(zG.1 ho).1
  have:=h4 p.1 (by simpa using hlt)
  rw [ho] at this
  simp only [yr,decide_eq_true_eq] at this
  have hqlt:=this q hq
  rw [k1,List.mem_take_iff_getElem]
  refine ⟨q,by simp;omega,by simp⟩
 ·intro k q hq hk
  by_cases hj:k < ops.size<;>simp [Array.getD,hj] at hk
 ·rw [hfil];simp [h2]
 ·rw [hfil,hz2]
  exact h'
theorem qzd (hm:P.follows .mixedOrders=true):qw1 P qra:=by
 refine ⟨?_,fun E B Y ops pm is id fr L ι a w K Q hK hc hD h hs=>qAV hm E B Y ops pm is id fr L ι a w K Q hK hc hD h hs⟩
 intro E B Y ops is id fr L ι a w K Q hK hc hD h hs
 simp only [qra,z6] at hD
 rcases hD with hD|hD
 rotate_left
 ·exact qAU hm E B Y ops is id fr L ι a w K Q hK hc hD h hs
 simp only [qvP,zq,beq_iff_eq,yr,zW] at hD
 obtain ⟨⟨⟨⟨⟨hre,h0⟩,h1⟩,h2⟩,h3⟩,h4⟩:=hD
 obtain ⟨hc',fr',L',ι',hF',_,h',hs'⟩:=qor is [] fr L ι a w ops.toList hre hc (fun d hd=>by cases hd) (fun d hd=>by cases hd) h hs
 rw [zm] at hF'
 generalize qcV is=hls at *
 generalize qi0 is=js at *
 obtain ⟨g1,g2⟩:=qpe hc' (fun i hi=>h1 i hi)
 refine wp_region_any hm ?_
 have hs'':StF E B { w with drawn:=w.drawn+1 } L' ι' fr' a:=hs'.grown ⟨rfl,rfl,rfl,zM _,fun _ _ _=>rfl⟩
 have hrep:∀ j,(Array.replicate ops.size false).getD j true=false↔j < ops.size:=by
  intro j
  by_cases hj:j < ops.size<;>simp [Array.getD,hj]
 have hfil:((zE js.length).zip js).filter (unl (Array.replicate ops.size false))=(zE js.length).zip js:=by
  refine List.filter_eq_self.2 fun p hp=>?_
  obtain ⟨k,hk⟩:=zR hp
  rw [List.getElem?_zip_eq_some] at hk
  have hkl:=(zt.1 hk.2).1
  rw [ya hkl] at hk
  cases hk.1
  simp only [unl,(hrep p.1).2 (by rw [← h2];exact hkl),Bool.not_false]
 refine qCw (Y:=Y) (js:=js) hK h2 (fun k i hk=>?_) (fun i hi=>h1 i hi) h3 (fun i o ho e he=>?_) ?_ ops.size (Array.replicate ops.size false) fr' L' ι' a _ (by simp) ?_ ?_ ?_ ?_ hs''
 ·obtain ⟨o,ho,hh⟩:=g2 k i hk
  exact ⟨o,by simpa using ho,hh⟩
 ·have hlt:i < ops.size:=(zG.1 ho).1
  have:=h4 i (by simpa using hlt)
  rw [ho] at this
  simp only [yr,decide_eq_true_eq] at this
  exact this e he
 ·simp only [qo4,z6,zq,List.isEmpty_iff,yr,decide_eq_true_eq] at h0
  rcases h0 with h0|h0
  ·exact .inl h0
  ·exact .inr h0.1
 ·intro k q hq hk
  by_cases hj:k < ops.size<;>simp [Array.getD,hj] at hk
 ·rw [hfil];simp [h2]
 ·rw [hfil]
  have e:((zE js.length).zip js).map (·.2)=js:=by
   rw [← List.unzip_snd,List.unzip_zip (by simp)]
  rw [e]
  simp only [qo4,z6,zq,List.isEmpty_iff,yr,decide_eq_true_eq] at h0
  rcases h0 with h0|h0
  ·rw [h0];intro d hd;cases hd
  ·exact fun d hd=>hF' d (by simpa using h0.2 d hd)
 ·rw [hfil]
  have:((zE js.length).zip js).map (·.2)=js:=by
   rw [← List.unzip_snd,List.unzip_zip (by simp)]
  rw [this]
  exact h'
end
def chkF (P:Program) (fn:Func) (ic:IC) (rs:List IRes) (n:Nat):Bool:=
 match fn.body with
 |some c=>chkC P qra ic c && qgB P fn.results.toList rs && fn.ntmps == n
 |none=>false
section
variable {P:Program} {E:Envt}
theorem qae (hm:P.follows .mixedOrders=true) {f:FuncId} {fn:Func} {ic:IC} {rs:List IRes} {args:List PV} {n:Nat} {φ:PV→Prop} (hf:P.funcs[f]?=some fn) (hc:chkF P fn ic rs n=true)
  (h:awp P E ic (args.map .p++List.replicate (n - args.length) .any) [] (retQ rs fun x _=>φ x)):PCall P E f args φ:=by
 unfold chkF at hc
 split at hc
 ·rename_i c hb
  simp only [zq,beq_iff_eq] at hc
  exact qq5 (qzd hm) hf hb hc.2 hc.1.1 hc.1.2 h
 ·cases hc
def qsd (P:Program) (E:Envt) (y:IC) (Q:AQ):AQ:=qpk (fun fr L=>awp P E y fr L Q) Q
def BrC (P:Program) (E:Envt) (b:Bool) (x y:IC) (fr:List AV) (L:Objs) (Q:AQ):Prop:=BrQ b (awp P E x fr L Q) (awp P E y fr L Q)
def qBl (P:Program) (E:Envt) (x:IC) (fr:List AV) (L:Objs) (Q:AQ):Prop:=awp P E (.loop x) fr L Q
def DrgC (P:Program) (E:Envt) (ops:List IOper) (fr:List AV) (L:Objs) (K:List AV→Objs→Prop):Prop:=∃ X,qaa P E X ops fr L K
def qjc (P:Program) (E:Envt) (X:List PV) (is:List IOper) (K:List AV→Objs→Prop):List AV→Objs→Prop:=fun fr L=>qaa P E X is fr L K
theorem ReOk.refl {fr:List AV} {L:Objs}:ReOk E fr L fr L:=fun B w ι a hs=>⟨ι,hs⟩
theorem ReOk.trans {fr fr1 fr2:List AV} {L L1 L2:Objs} (h:ReOk E fr L fr1 L1) (k:ReOk E fr1 L1 fr2 L2):ReOk E fr L fr2 L2:=fun B w ι a hs=>by
 obtain ⟨ι1,hs1⟩:=h B w ι a hs
 exact k B w ι1 a hs1
theorem qj1 {fr fr':List AV} {L L':Objs} (h1:Za fr fr') (h2:Zc L' L):ReOk E fr L fr' L':=fun B w ι a hs=>⟨ι,hs.weak h1 h2⟩
def EndR (E:Envt) (I:Nat→List AV→Objs→Prop) (n:Nat) (fr:List AV) (L:Objs):Prop:=∃ m fr' L',m < n∧ReOk E fr L fr' L'∧I m fr' L'
def qqR (E:Envt) (I:Nat→List AV→Objs→Prop) (n:Nat) (Q:AQ):AQ:=qpk (EndR E I n) Q
def CutC (P:Program) (E:Envt) (x:IC) (fr:List AV) (L:Objs) (Q:AQ):Prop:=∃ fr' L',ReOk E fr L fr' L'∧awp P E x fr' L' Q
def MidK (E:Envt) (M:List AV→Objs→Prop) (fr:List AV) (L:Objs):Prop:=∃ fr' L',ReOk E fr L fr' L'∧M fr' L'
def midQ (E:Envt) (M:List AV→Objs→Prop) (Q:AQ):AQ:=qpk (MidK E M) Q
variable {fr:List AV} {L:Objs} {Q:AQ} {X:List PV} {K:List AV→Objs→Prop}
theorem qyt:awp P E .skip fr L Q=Q .normal fr L:=rfl
theorem qyv {i:Nat}:awp P E (.exit i) fr L Q=Q (.exit i) fr L:=rfl
theorem qBb:awp P E .ret fr L Q=Q .ret fr L:=rfl
theorem qBa {x y:IC}:awp P E (.seq x y) fr L Q=awp P E x fr L (qsd P E y Q):=rfl
theorem qwK {i:Nat} {x:IC}:awp P E (.block i x) fr L Q=awp P E x fr L (qm8 i Q):=rfl
theorem qBc {ops:List IOper}:awp P E (.reg ops) fr L Q=qaa P E [] ops fr L (Q .normal):=rfl
theorem qBe {ops:List IOper}:awp P E (.drg ops) fr L Q=DrgC P E ops fr L (Q .normal):=rfl
theorem qBd {pm:List Nat} {ops:List IOper}:awp P E (.drp pm ops) fr L Q=DrgC P E ops fr L (Q .normal):=rfl
theorem qyu {x:IC}:awp P E (.loop x) fr L Q=qBl P E x fr L Q:=rfl
theorem qyw {c:Opd} {x y:IC}:awp P E (.cond c x y) fr L Q=(match rd fr c with|.p (.bool b)=>BrC P E b x y fr L Q|_=>False):=rfl
theorem qzs {y:IC}:qsd P E y Q .normal fr L=awp P E y fr L Q:=rfl
theorem qzr {y:IC}:qsd P E y Q .ret fr L=Q .ret fr L:=rfl
theorem qzt {y:IC} {i:Nat}:qsd P E y Q (.exit i) fr L=Q (.exit i) fr L:=rfl
theorem qyn {i:Nat}:qm8 i Q .normal fr L=Q .normal fr L:=rfl
theorem qym {i:Nat}:qm8 i Q .ret fr L=Q .ret fr L:=rfl
theorem qyo {i j:Nat}:qm8 i Q (.exit j) fr L=if j=i then Q .normal fr L else Q (.exit j) fr L:=rfl
theorem qxw {I:Nat→List AV→Objs→Prop} {n:Nat}:qqR E I n Q .normal fr L=EndR E I n fr L:=rfl
theorem qBf {x:IC}:awp P E (.cut x) fr L Q=CutC P E x fr L Q:=rfl
theorem qB6 {M:List AV→Objs→Prop}:midQ E M Q .normal fr L=MidK E M fr L:=rfl
theorem qB5 {M:List AV→Objs→Prop}:midQ E M Q .ret fr L=Q .ret fr L:=rfl
theorem qB7 {M:List AV→Objs→Prop} {i:Nat}:midQ E M Q (.exit i) fr L=Q (.exit i) fr L:=rfl
theorem qxv {I:Nat→List AV→Objs→Prop} {n:Nat}:qqR E I n Q .ret fr L=Q .ret fr L:=rfl
theorem qxx {I:Nat→List AV→Objs→Prop} {n i:Nat}:qqR E I n Q (.exit i) fr L=Q (.exit i) fr L:=rfl
theorem qBG {rs:List IRes} {φ:PV→Objs→Prop}:retQ rs φ .ret fr L=RetK (Zbc fr L rs) φ L:=rfl
theorem qBH {rs:List IRes} {φ:PV→Objs→Prop}:retQ rs φ .normal fr L=RetK (Zbc fr L rs) φ L:=rfl
theorem qyS {x y:IC}:BrC P E true x y fr L Q=awp P E x fr L Q:=by simp [BrC,BrQ]
theorem qw3 {x y:IC}:BrC P E false x y fr L Q=awp P E y fr L Q:=by simp [BrC,BrQ]
theorem br {b:Bool} {x y:IC} (h1:b=true→awp P E x fr L Q) (h2:b=false→awp P E y fr L Q):BrC P E b x y fr L Q:=⟨h1,h2⟩
theorem qad {x:IC} (I:Nat→List AV→Objs→Prop) (n:Nat) (fr':List AV) (L':Objs) (h1:Za fr fr') (h2:Zc L' L) (h0:I n fr' L') (hr:∀ n fr L,I n fr L→awp P E x fr L (qqR E I n Q)):qBl P E x fr L Q:=⟨I,⟨n,fr',L',qj1 h1 h2,h0⟩,hr⟩
theorem qsz {x:IC} (I:Nat→List AV→Objs→Prop) (n:Nat) (fr':List AV) (L':Objs) (h1:ReOk E fr L fr' L') (h0:I n fr' L') (hr:∀ n fr L,I n fr L→awp P E x fr L (qqR E I n Q)):qBl P E x fr L Q:=⟨I,⟨n,fr',L',h1,h0⟩,hr⟩
theorem qk5 {I:Nat→List AV→Objs→Prop} {n:Nat} (m:Nat) (fr':List AV) (L':Objs) (hm:m < n) (h1:ReOk E fr L fr' L') (h0:I m fr' L'):EndR E I n fr L:=⟨m,fr',L',hm,h1,h0⟩
theorem qa1 {x:IC} (fr':List AV) (L':Objs) (h1:ReOk E fr L fr' L') (h:awp P E x fr' L' Q):CutC P E x fr L Q:=⟨fr',L',h1,h⟩
theorem qac {I:Nat→List AV→Objs→Prop} {n:Nat} (m:Nat) (fr':List AV) (L':Objs) (hm:m < n) (h1:Za fr fr') (h2:Zc L' L) (h0:I m fr' L'):EndR E I n fr L:=⟨m,fr',L',hm,qj1 h1 h2,h0⟩
theorem qkX {M:List AV→Objs→Prop} (fr':List AV) (L':Objs) (h1:Za fr fr') (h2:Zc L' L) (h0:M fr' L'):MidK E M fr L:=⟨fr',L',qj1 h1 h2,h0⟩
theorem qo6 (k:Key) (cs:List PV):(cs.map AV.p).map (fun x=>AV.kill k x)=cs.map AV.p:=by
 rw [z7];exact zQ fun x _=>rfl
theorem qux (k:Key) (y:PV) (cs:List PV):(cs.map AV.p).map (fun x=>AV.thaw k y x)=cs.map AV.p:=by
 rw [z7];exact zQ fun x _=>rfl
theorem qal {x:IC} (h2:Zc L L) (h:awp P E x fr L Q):CutC P E x fr L Q:=⟨fr,L,ReOk.refl,h⟩
theorem qlt {K':List AV→Objs→Prop} (hk:∀ fr L,K fr L→K' fr L):∀ (is:List IOper) (fr:List AV) (L:Objs),qaa P E X is fr L K→qaa P E X is fr L K':=by
 intro is
 induction is with
 |nil=>intro fr L h;exact hk fr L h
 |cons i is ih=>
  obtain ⟨d,op,gd⟩:=i
  intro fr L h
  have hcall:∀ f as d fr,qeg P E f as L d fr (fun fr L=>qaa P E X is fr L K)→qeg P E f as L d fr (fun fr L=>qaa P E X is fr L K'):=by
   intro f as d fr h
   rcases h with ⟨φ,h1,h2⟩|⟨bk,post,h1,h2,h3,h4⟩|⟨i0,h⟩
   ·exact .inl ⟨φ,h1,fun x hx=>ih _ _ (h2 x hx)⟩
   ·refine .inr (.inl ⟨bk,post,h1,h2,h3,fun r os' hp=>?_⟩)
    have:=h4 r os' hp
    cases r with
    |p x=>exact ih _ _ this
    |fr es e z=>cases d with
     |none=>exact ih _ _ this
     |some d=>exact ih _ _ this
    |ft es e z ps=>cases d with
     |none=>exact ih _ _ this
     |some d=>exact ih _ _ this
   ·refine .inr (.inr ⟨i0,fun w X' ι vs a1 a2 a3 a4 a5=>(h w X' ι vs a1 a2 a3 a4 a5).mono ?_⟩)
    rintro e w' ⟨v,r,L',ι',b1,b2,b3⟩
    exact ⟨v,r,L',ι',b1,ih _ _ b2,b3⟩
  cases gd with
  |none=>
   cases op with
   |call f args=>exact ⟨h.1,hcall _ _ _ _ h.2⟩
   |pcall n f args=>exact ⟨h.1,ih _ _ h.2⟩
   |dcall b f args=>
    obtain ⟨h0,k,t,cs,post,h1,h2,h3,h4,h5,h6⟩:=h
    exact ⟨h0,k,t,cs,post,h1,h2,h3,h4,h5,fun x cs' hp=>ih _ _ (h6 x cs' hp)⟩
   |callv g args=>
    simp only [qaa] at h ⊢
    split at h
    ·exact ⟨h.1,h.2.1,h.2.2.1,h.2.2.2.1,hcall _ _ _ _ h.2.2.2.2⟩
    ·exact h.elim
   |pcv n g args=>
    simp only [qaa] at h ⊢
    split at h
    ·exact ⟨h.1,ih _ _ h.2⟩
    ·exact h.elim
   |fz x=>
    simp only [qaa] at h ⊢
    split at h
    ·exact ih _ _ h
    ·exact ih _ _ h
   |hole x=>exact ih _ _ h
   |fcl n f args e z=>
    simp only [qaa] at h ⊢
    split at h
    ·exact ⟨h.1,ih _ _ h.2⟩
    ·exact h.elim
   |re=>obtain ⟨fr',L',h1,h2⟩:=h;exact ⟨fr',L',h1,ih _ _ h2⟩
   |isn x=>
    simp only [qaa] at h ⊢
    split at h
    ·exact ⟨h.1,fun b hb=>ih _ _ (h.2 b hb)⟩
    ·exact h.elim
   |_=>
    simp only [qaa] at h ⊢
    split at h
    ·exact ⟨h.1,ih _ _ h.2⟩
    ·exact h.elim
  |some q=>
   obtain ⟨s,want⟩:=q
   simp only [qaa] at h ⊢
   split at h
   ·cases op with
    |call f args=>
     simp only at h ⊢
     rcases h with ⟨h1,⟨x,h2,h3⟩|⟨h2,h3⟩⟩
     ·exact ⟨h1,.inl ⟨x,h2,ih _ _ h3⟩⟩
     ·exact ⟨h1,.inr ⟨fun e=>hcall _ _ _ _ (h2 e),fun e=>ih _ _ (h3 e)⟩⟩
    |pcall n f args=>simp only at h ⊢;exact ⟨h.1,ih _ _ h.2⟩
    |callv g args=>
     simp only at h ⊢
     split at h
     ·rcases h with ⟨h0,h1,⟨x,h2,h3⟩|⟨h2,h3⟩⟩
      ·exact ⟨h0,h1,.inl ⟨x,h2,ih _ _ h3⟩⟩
      ·exact ⟨h0,h1,.inr ⟨fun e=>hcall _ _ _ _ (h2 e),fun e=>ih _ _ (h3 e)⟩⟩
     ·exact ⟨h.1,ih _ _ h.2⟩
    |pcv n g args=>
     simp only at h ⊢
     split at h
     ·exact ⟨h.1,ih _ _ h.2⟩
     ·exact h.elim
    |_=>
     simp only at h ⊢
     split at h
     ·exact ⟨h.1,ih _ _ h.2⟩
     ·exact ⟨h.1,h.2.1,ih _ _ h.2.2⟩
   ·exact h.elim
theorem qt8:∀ (x:IC) (fr:List AV) (L:Objs) (Q Q':AQ),(∀ e fr L,Q e fr L→Q' e fr L)→awp P E x fr L Q→awp P E x fr L Q':=by
 intro x
 induction x with
 |skip=>intro fr L Q Q' hq h;exact hq _ _ _ h
 |reg ops=>intro fr L Q Q' hq h;exact qlt (hq .normal) ops fr L h
 |drg ops=>intro fr L Q Q' hq h;obtain ⟨Y,h⟩:=h;exact ⟨Y,qlt (hq .normal) ops fr L h⟩
 |drp pm ops=>intro fr L Q Q' hq h;obtain ⟨Y,h⟩:=h;exact ⟨Y,qlt (hq .normal) ops fr L h⟩
 |seq x y ihx ihy=>
  intro fr L Q Q' hq h
  refine ihx fr L _ _ (fun e fr L h=>?_) h
  cases e<;>first|exact ihy fr L Q Q' hq h|exact hq _ _ _ h
 |cond c x y ihx ihy=>
  intro fr L Q Q' hq h
  simp only [awp] at h ⊢
  split at h
  ·exact ⟨fun e=>ihx fr L Q Q' hq (h.1 e),fun e=>ihy fr L Q Q' hq (h.2 e)⟩
  ·exact h.elim
 |block i x ih=>
  intro fr L Q Q' hq h
  refine ih fr L _ _ (fun e fr L h=>?_) h
  cases e with
  |exit j=>
   simp only [qm8] at h ⊢
   split at h
   ·rename_i hj;rw [if_pos hj];exact hq _ _ _ h
   ·rename_i hj;rw [if_neg hj];exact hq _ _ _ h
  |_=>exact hq _ _ _ h
 |loop x ih=>
  intro fr L Q Q' hq h
  obtain ⟨I,h0,hr⟩:=h
  refine ⟨I,h0,fun n fr L hi=>ih fr L _ _ (fun e fr L h=>?_) (hr n fr L hi)⟩
  cases e with
  |normal=>exact h
  |_=>exact hq _ _ _ h
 |exit i=>intro fr L Q Q' hq h;exact hq _ _ _ h
 |ret=>intro fr L Q Q' hq h;exact hq _ _ _ h
 |dead=>intro fr L Q Q' hq h;exact h.elim
 |cut x ih=>intro fr L Q Q' hq h;obtain ⟨fr',L',h1,h⟩:=h;exact ⟨fr',L',h1,ih fr' L' Q Q' hq h⟩
theorem qoo {b:Bool} {x y r:IC} (M:List AV→Objs→Prop) (h1:b=true→awp P E x fr L (midQ E M Q)) (h2:b=false→awp P E y fr L (midQ E M Q)) (hM:∀ fr L,M fr L→awp P E r fr L Q):BrC P E b x y fr L (qsd P E (.cut r) Q):=by
 have hq:∀ e fr L,midQ E M Q e fr L→qsd P E (.cut r) Q e fr L:=by
  intro e fr L h
  cases e with
  |normal=>obtain ⟨fr',L',a1,a3⟩:=h;exact ⟨fr',L',a1,hM fr' L' a3⟩
  |_=>exact h
 exact ⟨fun e=>qt8 x fr L _ _ hq (h1 e),fun e=>qt8 y fr L _ _ hq (h2 e)⟩
theorem drg0 {ops:List IOper} (h:qaa P E [] ops fr L K):DrgC P E ops fr L K:=⟨_,h⟩
theorem drg1 {ops:List IOper} {x1:PV} (h:qaa P E [x1] ops fr L K):DrgC P E ops fr L K:=⟨_,h⟩
theorem drg2 {ops:List IOper} {x1 x2:PV} (h:qaa P E [x1,x2] ops fr L K):DrgC P E ops fr L K:=⟨_,h⟩
theorem drg3 {ops:List IOper} {x1 x2 x3:PV} (h:qaa P E [x1,x2,x3] ops fr L K):DrgC P E ops fr L K:=⟨_,h⟩
def isOp:IOp→Bool
 |.call ..|.pcall ..|.dcall ..|.callv ..|.pcv ..|.fz ..|.hole ..|.isn ..|.re|.fcl ..=>false
 |_=>true
def OpsK (P:Program) (E:Envt) (X:List PV) (q:Option (Prop×List AV×Objs)) (is:List IOper) (K:List AV→Objs→Prop):Prop:=
 match q with
 |some (c,fr',L')=>c∧qaa P E X is fr' L' K
 |none=>False
def GdK (P:Program) (E:Envt) (X:List PV) (pl:Bool) (g:Option Bool) (q:Option (Prop×AV)) (d:Option Nat) (is:List IOper) (fr:List AV) (L:Objs) (K:List AV→Objs→Prop):Prop:=
 match g with
 |some c0=>match q with
  |some (c,r)=>(c0=true→c)∧qaa P E X is (Zf fr d (.g c0 r)) L K
  |none=>pl=true∧c0=false∧qaa P E X is (Zf fr d (.g c0 .any)) L K
 |none=>False
theorem qwU {c:Prop} {fr':List AV} {L':Objs} {is:List IOper}:OpsK P E X (some (c,fr',L')) is K=(c∧qaa P E X is fr' L' K):=rfl
theorem qyL {c0:Bool} {d:Option Nat} {is:List IOper}:GdK P E X true (some c0) none d is fr L K=(c0=false∧qaa P E X is (Zf fr d (.g c0 .any)) L K):=by simp [GdK]
theorem qyK {pl c0:Bool} {c:Prop} {r:AV} {d:Option Nat} {is:List IOper}:GdK P E X pl (some c0) (some (c,r)) d is fr L K=((c0=true→c)∧qaa P E X is (Zf fr d (.g c0 r)) L K):=rfl
theorem qAo:qaa P E X [] fr L K=K fr L:=rfl
theorem qaO {d:Option Nat} {op:IOp} {is:List IOper} (h:isOp op=true):qaa P E X (⟨d,op,none⟩ :: is) fr L K=OpsK P E X (Zd d fr L op) is K:=by
 cases op<;>first|rfl|(simp [isOp] at h)
theorem qcc {d:Option Nat} {op:IOp} {is:List IOper} {s:Nat} {want:Bool} (h:isOp op=true):qaa P E X (⟨d,op,some (s,want)⟩ :: is) fr L K=GdK P E X (qei op) (Zg fr s want) (Ze fr L op) d is fr L K:=by
 cases op<;>first|rfl|(simp [isOp] at h)
def qeA (P:Program) (E:Envt) (X:List PV) (q:Option (Prop×AV)) (d:Option Nat) (is:List IOper) (fr:List AV) (L:Objs) (K:List AV→Objs→Prop):Prop:=
 match q with
 |some (c,r)=>c∧qaa P E X is (Zf fr d r) L K
 |none=>False
theorem quI {c:Prop} {r:AV} {d:Option Nat} {is:List IOper}:qeA P E X (some (c,r)) d is fr L K=(c∧qaa P E X is (Zf fr d r) L K):=rfl
theorem qaF {op:IOp} {d:Option Nat} {is:List IOper} (h:Zd d fr L op=(Ze fr L op).map (fun q=>(q.1,Zf fr d q.2,L))):OpsK P E X (Zd d fr L op) is K=qeA P E X (Ze fr L op) d is fr L K:=by
 rw [h]
 cases Ze fr L op<;>rfl
theorem qCV {d:Option Nat} {is:List IOper} {_x}:qaa P E X (⟨d,.mov _x,none⟩ :: is) fr L K=qeA P E X (Ze fr L (.mov _x)) d is fr L K:=by rw [qaO rfl];exact qaF rfl
theorem qDu {d:Option Nat} {is:List IOper} {s:Nat} {want:Bool} {_x}:qaa P E X (⟨d,.mov _x,some (s,want)⟩ :: is) fr L K=GdK P E X true (Zg fr s want) (Ze fr L (.mov _x)) d is fr L K:=qcc rfl
theorem qBX {d:Option Nat} {is:List IOper} {_c} {_a} {_b}:qaa P E X (⟨d,.pick _c _a _b,none⟩ :: is) fr L K=qeA P E X (Ze fr L (.pick _c _a _b)) d is fr L K:=by rw [qaO rfl];exact qaF rfl
theorem qCh {d:Option Nat} {is:List IOper} {s:Nat} {want:Bool} {_c} {_a} {_b}:qaa P E X (⟨d,.pick _c _a _b,some (s,want)⟩ :: is) fr L K=GdK P E X true (Zg fr s want) (Ze fr L (.pick _c _a _b)) d is fr L K:=qcc rfl
theorem qDe {d:Option Nat} {is:List IOper} {_b} {_x} {_y}:qaa P E X (⟨d,.bin _b _x _y,none⟩ :: is) fr L K=qeA P E X (Ze fr L (.bin _b _x _y)) d is fr L K:=by rw [qaO rfl];exact qaF rfl
theorem qDJ {d:Option Nat} {is:List IOper} {s:Nat} {want:Bool} {_b} {_x} {_y}:qaa P E X (⟨d,.bin _b _x _y,some (s,want)⟩ :: is) fr L K=GdK P E X true (Zg fr s want) (Ze fr L (.bin _b _x _y)) d is fr L K:=qcc rfl
theorem qDc {d:Option Nat} {is:List IOper} {_b} {_x} {_y}:qaa P E X (⟨d,.bnb _b _x _y,none⟩ :: is) fr L K=qeA P E X (Ze fr L (.bnb _b _x _y)) d is fr L K:=by rw [qaO rfl];exact qaF rfl
theorem qDH {d:Option Nat} {is:List IOper} {s:Nat} {want:Bool} {_b} {_x} {_y}:qaa P E X (⟨d,.bnb _b _x _y,some (s,want)⟩ :: is) fr L K=GdK P E X true (Zg fr s want) (Ze fr L (.bnb _b _x _y)) d is fr L K:=qcc rfl
theorem qCP {d:Option Nat} {is:List IOper} {_x}:qaa P E X (⟨d,.not _x,none⟩ :: is) fr L K=qeA P E X (Ze fr L (.not _x)) d is fr L K:=by rw [qaO rfl];exact qaF rfl
theorem qDq {d:Option Nat} {is:List IOper} {s:Nat} {want:Bool} {_x}:qaa P E X (⟨d,.not _x,some (s,want)⟩ :: is) fr L K=GdK P E X true (Zg fr s want) (Ze fr L (.not _x)) d is fr L K:=qcc rfl
theorem qCZ {d:Option Nat} {is:List IOper} {_x}:qaa P E X (⟨d,.len _x,none⟩ :: is) fr L K=qeA P E X (Ze fr L (.len _x)) d is fr L K:=by rw [qaO rfl];exact qaF rfl
theorem qDw {d:Option Nat} {is:List IOper} {s:Nat} {want:Bool} {_x}:qaa P E X (⟨d,.len _x,some (s,want)⟩ :: is) fr L K=GdK P E X true (Zg fr s want) (Ze fr L (.len _x)) d is fr L K:=qcc rfl
theorem qCN {d:Option Nat} {is:List IOper} {_x}:qaa P E X (⟨d,.sln _x,none⟩ :: is) fr L K=qeA P E X (Ze fr L (.sln _x)) d is fr L K:=by rw [qaO rfl];exact qaF rfl
theorem qDp {d:Option Nat} {is:List IOper} {s:Nat} {want:Bool} {_x}:qaa P E X (⟨d,.sln _x,some (s,want)⟩ :: is) fr L K=GdK P E X true (Zg fr s want) (Ze fr L (.sln _x)) d is fr L K:=qcc rfl
theorem o_mx {d:Option Nat} {is:List IOper} {_x} {_y}:qaa P E X (⟨d,.mx _x _y,none⟩ :: is) fr L K=qeA P E X (Ze fr L (.mx _x _y)) d is fr L K:=by rw [qaO rfl];exact qaF rfl
theorem g_mx {d:Option Nat} {is:List IOper} {s:Nat} {want:Bool} {_x} {_y}:qaa P E X (⟨d,.mx _x _y,some (s,want)⟩ :: is) fr L K=GdK P E X true (Zg fr s want) (Ze fr L (.mx _x _y)) d is fr L K:=qcc rfl
theorem qC3 {d:Option Nat} {is:List IOper} {_x} {_y}:qaa P E X (⟨d,.idx _x _y,none⟩ :: is) fr L K=qeA P E X (Ze fr L (.idx _x _y)) d is fr L K:=by rw [qaO rfl];exact qaF rfl
theorem qDA {d:Option Nat} {is:List IOper} {s:Nat} {want:Bool} {_x} {_y}:qaa P E X (⟨d,.idx _x _y,some (s,want)⟩ :: is) fr L K=GdK P E X true (Zg fr s want) (Ze fr L (.idx _x _y)) d is fr L K:=qcc rfl
theorem qCM {d:Option Nat} {is:List IOper} {_x} {_l} {_h}:qaa P E X (⟨d,.ssl _x _l _h,none⟩ :: is) fr L K=qeA P E X (Ze fr L (.ssl _x _l _h)) d is fr L K:=by rw [qaO rfl];exact qaF rfl
theorem qDo {d:Option Nat} {is:List IOper} {s:Nat} {want:Bool} {_x} {_l} {_h}:qaa P E X (⟨d,.ssl _x _l _h,some (s,want)⟩ :: is) fr L K=GdK P E X true (Zg fr s want) (Ze fr L (.ssl _x _l _h)) d is fr L K:=qcc rfl
theorem qCJ {d:Option Nat} {is:List IOper} {_z} {_x} {_l} {_h}:qaa P E X (⟨d,.vsl _z _x _l _h,none⟩ :: is) fr L K=qeA P E X (Ze fr L (.vsl _z _x _l _h)) d is fr L K:=by rw [qaO rfl];exact qaF rfl
theorem qDn {d:Option Nat} {is:List IOper} {s:Nat} {want:Bool} {_z} {_x} {_l} {_h}:qaa P E X (⟨d,.vsl _z _x _l _h,some (s,want)⟩ :: is) fr L K=GdK P E X true (Zg fr s want) (Ze fr L (.vsl _z _x _l _h)) d is fr L K:=qcc rfl
theorem qC2 {d:Option Nat} {is:List IOper} {_z} {_x} {_y}:qaa P E X (⟨d,.ixa _z _x _y,none⟩ :: is) fr L K=qeA P E X (Ze fr L (.ixa _z _x _y)) d is fr L K:=by rw [qaO rfl];exact qaF rfl
theorem qDz {d:Option Nat} {is:List IOper} {s:Nat} {want:Bool} {_z} {_x} {_y}:qaa P E X (⟨d,.ixa _z _x _y,some (s,want)⟩ :: is) fr L K=GdK P E X true (Zg fr s want) (Ze fr L (.ixa _z _x _y)) d is fr L K:=qcc rfl
theorem qC5 {d:Option Nat} {is:List IOper} {_o} {_x}:qaa P E X (⟨d,.fla _o _x,none⟩ :: is) fr L K=qeA P E X (Ze fr L (.fla _o _x)) d is fr L K:=by rw [qaO rfl];exact qaF rfl
theorem qDC {d:Option Nat} {is:List IOper} {s:Nat} {want:Bool} {_o} {_x}:qaa P E X (⟨d,.fla _o _x,some (s,want)⟩ :: is) fr L K=GdK P E X true (Zg fr s want) (Ze fr L (.fla _o _x)) d is fr L K:=qcc rfl
theorem qC4 {d:Option Nat} {is:List IOper} {_o} {_s} {_a} {_x}:qaa P E X (⟨d,.fld _o _s _a _x,none⟩ :: is) fr L K=qeA P E X (Ze fr L (.fld _o _s _a _x)) d is fr L K:=by rw [qaO rfl];exact qaF rfl
theorem qDB {d:Option Nat} {is:List IOper} {s:Nat} {want:Bool} {_o} {_s} {_a} {_x}:qaa P E X (⟨d,.fld _o _s _a _x,some (s,want)⟩ :: is) fr L K=GdK P E X true (Zg fr s want) (Ze fr L (.fld _o _s _a _x)) d is fr L K:=qcc rfl
theorem o_ld {d:Option Nat} {is:List IOper} {_s} {_a} {_x}:qaa P E X (⟨d,.ld _s _a _x,none⟩ :: is) fr L K=qeA P E X (Ze fr L (.ld _s _a _x)) d is fr L K:=by rw [qaO rfl];exact qaF rfl
theorem g_ld {d:Option Nat} {is:List IOper} {s:Nat} {want:Bool} {_s} {_a} {_x}:qaa P E X (⟨d,.ld _s _a _x,some (s,want)⟩ :: is) fr L K=GdK P E X true (Zg fr s want) (Ze fr L (.ld _s _a _x)) d is fr L K:=qcc rfl
theorem qC0 {d:Option Nat} {is:List IOper} {_n} {_s} {_a} {_x}:qaa P E X (⟨d,.ldn _n _s _a _x,none⟩ :: is) fr L K=qeA P E X (Ze fr L (.ldn _n _s _a _x)) d is fr L K:=by rw [qaO rfl];exact qaF rfl
theorem qDx {d:Option Nat} {is:List IOper} {s:Nat} {want:Bool} {_n} {_s} {_a} {_x}:qaa P E X (⟨d,.ldn _n _s _a _x,some (s,want)⟩ :: is) fr L K=GdK P E X false (Zg fr s want) (Ze fr L (.ldn _n _s _a _x)) d is fr L K:=qcc rfl
theorem qC1 {d:Option Nat} {is:List IOper} {_s} {_a} {_x}:qaa P E X (⟨d,.ldl _s _a _x,none⟩ :: is) fr L K=qeA P E X (Ze fr L (.ldl _s _a _x)) d is fr L K:=by rw [qaO rfl];exact qaF rfl
theorem qDy {d:Option Nat} {is:List IOper} {s:Nat} {want:Bool} {_s} {_a} {_x}:qaa P E X (⟨d,.ldl _s _a _x,some (s,want)⟩ :: is) fr L K=GdK P E X false (Zg fr s want) (Ze fr L (.ldl _s _a _x)) d is fr L K:=qcc rfl
theorem qC6 {d:Option Nat} {is:List IOper} {_i} {_x}:qaa P E X (⟨d,.ext _i _x,none⟩ :: is) fr L K=qeA P E X (Ze fr L (.ext _i _x)) d is fr L K:=by rw [qaO rfl];exact qaF rfl
theorem qDD {d:Option Nat} {is:List IOper} {s:Nat} {want:Bool} {_i} {_x}:qaa P E X (⟨d,.ext _i _x,some (s,want)⟩ :: is) fr L K=GdK P E X true (Zg fr s want) (Ze fr L (.ext _i _x)) d is fr L K:=qcc rfl
theorem qDd {d:Option Nat} {is:List IOper} {_z} {_p}:qaa P E X (⟨d,.bld _z _p,none⟩ :: is) fr L K=qeA P E X (Ze fr L (.bld _z _p)) d is fr L K:=by rw [qaO rfl];exact qaF rfl
theorem qDI {d:Option Nat} {is:List IOper} {s:Nat} {want:Bool} {_z} {_p}:qaa P E X (⟨d,.bld _z _p,some (s,want)⟩ :: is) fr L K=GdK P E X true (Zg fr s want) (Ze fr L (.bld _z _p)) d is fr L K:=qcc rfl
theorem qC8 {d:Option Nat} {is:List IOper} {_k} {_x}:qaa P E X (⟨d,.cvi _k _x,none⟩ :: is) fr L K=qeA P E X (Ze fr L (.cvi _k _x)) d is fr L K:=by rw [qaO rfl];exact qaF rfl
theorem qDF {d:Option Nat} {is:List IOper} {s:Nat} {want:Bool} {_k} {_x}:qaa P E X (⟨d,.cvi _k _x,some (s,want)⟩ :: is) fr L K=GdK P E X true (Zg fr s want) (Ze fr L (.cvi _k _x)) d is fr L K:=qcc rfl
theorem qC7 {d:Option Nat} {is:List IOper} {_x}:qaa P E X (⟨d,.cvs _x,none⟩ :: is) fr L K=qeA P E X (Ze fr L (.cvs _x)) d is fr L K:=by rw [qaO rfl];exact qaF rfl
theorem qDE {d:Option Nat} {is:List IOper} {s:Nat} {want:Bool} {_x}:qaa P E X (⟨d,.cvs _x,some (s,want)⟩ :: is) fr L K=GdK P E X true (Zg fr s want) (Ze fr L (.cvs _x)) d is fr L K:=qcc rfl
theorem qDf {d:Option Nat} {is:List IOper} {_x}:qaa P E X (⟨d,.b2s _x,none⟩ :: is) fr L K=qeA P E X (Ze fr L (.b2s _x)) d is fr L K:=by rw [qaO rfl];exact qaF rfl
theorem qDK {d:Option Nat} {is:List IOper} {s:Nat} {want:Bool} {_x}:qaa P E X (⟨d,.b2s _x,some (s,want)⟩ :: is) fr L K=GdK P E X true (Zg fr s want) (Ze fr L (.b2s _x)) d is fr L K:=qcc rfl
theorem qDa {d:Option Nat} {is:List IOper} {_z} {_p}:qaa P E X (⟨d,.bsl _z _p,none⟩ :: is) fr L K=qeA P E X (Ze fr L (.bsl _z _p)) d is fr L K:=by rw [qaO rfl];exact qaF rfl
theorem qDG {d:Option Nat} {is:List IOper} {s:Nat} {want:Bool} {_z} {_p}:qaa P E X (⟨d,.bsl _z _p,some (s,want)⟩ :: is) fr L K=GdK P E X true (Zg fr s want) (Ze fr L (.bsl _z _p)) d is fr L K:=qcc rfl
theorem qCQ {d:Option Nat} {is:List IOper} {_x}:qaa P E X (⟨d,.nck _x,none⟩ :: is) fr L K=qeA P E X (Ze fr L (.nck _x)) d is fr L K:=by rw [qaO rfl];exact qaF rfl
theorem qDr {d:Option Nat} {is:List IOper} {s:Nat} {want:Bool} {_x}:qaa P E X (⟨d,.nck _x,some (s,want)⟩ :: is) fr L K=GdK P E X true (Zg fr s want) (Ze fr L (.nck _x)) d is fr L K:=qcc rfl
theorem qCY {d:Option Nat} {is:List IOper} {_f} {_c}:qaa P E X (⟨d,.mkf _f _c,none⟩ :: is) fr L K=qeA P E X (Ze fr L (.mkf _f _c)) d is fr L K:=by rw [qaO rfl];exact qaF rfl
theorem qDv {d:Option Nat} {is:List IOper} {s:Nat} {want:Bool} {_f} {_c}:qaa P E X (⟨d,.mkf _f _c,some (s,want)⟩ :: is) fr L K=GdK P E X true (Zg fr s want) (Ze fr L (.mkf _f _c)) d is fr L K:=qcc rfl
theorem qCT {d:Option Nat} {is:List IOper} {_o} {_z} {_x} {_h}:qaa P E X (⟨d,.mpl _o _z _x _h,none⟩ :: is) fr L K=qeA P E X (Ze fr L (.mpl _o _z _x _h)) d is fr L K:=by rw [qaO rfl];exact qaF rfl
theorem qDt {d:Option Nat} {is:List IOper} {s:Nat} {want:Bool} {_o} {_z} {_x} {_h}:qaa P E X (⟨d,.mpl _o _z _x _h,some (s,want)⟩ :: is) fr L K=GdK P E X true (Zg fr s want) (Ze fr L (.mpl _o _z _x _h)) d is fr L K:=qcc rfl
theorem qCS {d:Option Nat} {is:List IOper} {_x}:qaa P E X (⟨d,.mpn _x,none⟩ :: is) fr L K=qeA P E X (Ze fr L (.mpn _x)) d is fr L K:=by rw [qaO rfl];exact qaF rfl
theorem qDs {d:Option Nat} {is:List IOper} {s:Nat} {want:Bool} {_x}:qaa P E X (⟨d,.mpn _x,some (s,want)⟩ :: is) fr L K=GdK P E X true (Zg fr s want) (Ze fr L (.mpn _x)) d is fr L K:=qcc rfl
theorem qB0 {d:Option Nat} {is:List IOper} {_z} {_p}:qaa P E X (⟨d,.bldg _z _p,none⟩ :: is) fr L K=qeA P E X (Ze fr L (.bldg _z _p)) d is fr L K:=by rw [qaO rfl];exact qaF rfl
theorem qCi {d:Option Nat} {is:List IOper} {s:Nat} {want:Bool} {_z} {_p}:qaa P E X (⟨d,.bldg _z _p,some (s,want)⟩ :: is) fr L K=GdK P E X true (Zg fr s want) (Ze fr L (.bldg _z _p)) d is fr L K:=qcc rfl
theorem qCL {d:Option Nat} {is:List IOper} {_s} {_p} {_x}:qaa P E X (⟨d,.stg _s _p _x,none⟩ :: is) fr L K=OpsK P E X (Zd d fr L (.stg _s _p _x)) is K:=qaO rfl
theorem qB1 {d:Option Nat} {is:List IOper} {_t} {_z}:qaa P E X (⟨d,.alcd _t _z,none⟩ :: is) fr L K=OpsK P E X (Zd d fr L (.alcd _t _z)) is K:=qaO rfl
theorem qBZ {d:Option Nat} {is:List IOper} {_e} {_z} {_p}:qaa P E X (⟨d,.bsrd _e _z _p,none⟩ :: is) fr L K=OpsK P E X (Zd d fr L (.bsrd _e _z _p)) is K:=qaO rfl
def IsnK (P:Program) (E:Envt) (X:List PV) (c:Prop) (q:Option (Nat×List (List PV))) (d:Option Nat) (is:List IOper) (fr:List AV) (L:Objs) (K:List AV→Objs→Prop):Prop:=
 match q with
 |some (_,es)=>c∧∀ b:Bool,(b=true→es=[])→qaa P E X is (Zf fr d (.p (.bool b))) L K
 |none=>False
theorem qwW {c:Prop} {z:Nat} {es:List (List PV)} {d:Option Nat} {is:List IOper}:IsnK P E X c (some (z,es)) d is fr L K=(c∧∀ b:Bool,(b=true→es=[])→qaa P E X is (Zf fr d (.p (.bool b))) L K):=rfl
theorem qAp {x:Opd} {d:Option Nat} {is:List IOper}:qaa P E X (⟨d,.isn x,none⟩ :: is) fr L K=IsnK P E X (rd fr x).un.1 (Zv L (rd fr x).un.2) d is fr L K:=rfl
def ReC (P:Program) (E:Envt) (X:List PV) (is:List IOper) (fr:List AV) (L:Objs) (K:List AV→Objs→Prop):Prop:=∃ fr' L',ReOk E fr L fr' L'∧qaa P E X is fr' L' K
theorem qa6 {is:List IOper}:qaa P E X (⟨none,.re,none⟩ :: is) fr L K=ReC P E X is fr L K:=rfl
theorem qxH {x:Nat} {is:List IOper}:qaa P E X (⟨none,.hole x,none⟩ :: is) fr L K=qaa P E X is ((fr.map (·.kill (.l x))).set x .any) (Zau L (.l x) Zam) K:=rfl
theorem qCX {d:Option Nat} {is:List IOper} {_t} {_z}:qaa P E X (⟨d,.mkm _t _z,none⟩ :: is) fr L K=OpsK P E X (Zd d fr L (.mkm _t _z)) is K:=qaO rfl
theorem qCR {d:Option Nat} {is:List IOper} {_m} {_k} {_v}:qaa P E X (⟨d,.mpu _m _k _v,none⟩ :: is) fr L K=OpsK P E X (Zd d fr L (.mpu _m _k _v)) is K:=qaO rfl
theorem qCW {d:Option Nat} {is:List IOper} {_e} {_z} {_b} {_o} {_x} {_y}:qaa P E X (⟨d,.mks _e _z _b _o _x _y,none⟩ :: is) fr L K=OpsK P E X (Zd d fr L (.mks _e _z _b _o _x _y)) is K:=qaO rfl
theorem qBY {d:Option Nat} {is:List IOper} {_e} {_z}:qaa P E X (⟨d,.nilr _e _z,none⟩ :: is) fr L K=OpsK P E X (Zd d fr L (.nilr _e _z)) is K:=qaO rfl
theorem qDh {d:Option Nat} {is:List IOper} {_t} {_z}:qaa P E X (⟨d,.alc _t _z,none⟩ :: is) fr L K=OpsK P E X (Zd d fr L (.alc _t _z)) is K:=qaO rfl
theorem qDb {d:Option Nat} {is:List IOper} {_t} {_x}:qaa P E X (⟨d,.box _t _x,none⟩ :: is) fr L K=OpsK P E X (Zd d fr L (.box _t _x)) is K:=qaO rfl
theorem qCK {d:Option Nat} {is:List IOper} {_n} {_s} {_p} {_x}:qaa P E X (⟨d,.stk _n _s _p _x,none⟩ :: is) fr L K=OpsK P E X (Zd d fr L (.stk _n _s _p _x)) is K:=qaO rfl
theorem qCU {d:Option Nat} {is:List IOper} {_n} {_m} {_k} {_v}:qaa P E X (⟨d,.mpk _n _m _k _v,none⟩ :: is) fr L K=OpsK P E X (Zd d fr L (.mpk _n _m _k _v)) is K:=qaO rfl
theorem o_st {d:Option Nat} {is:List IOper} {_s} {_p} {_x}:qaa P E X (⟨d,.st _s _p _x,none⟩ :: is) fr L K=OpsK P E X (Zd d fr L (.st _s _p _x)) is K:=qaO rfl
theorem qDg {d:Option Nat} {is:List IOper} {_e} {_z} {_b} {_x} {_y}:qaa P E X (⟨d,.app _e _z _b _x _y,none⟩ :: is) fr L K=OpsK P E X (Zd d fr L (.app _e _z _b _x _y)) is K:=qaO rfl
theorem qC9 {d:Option Nat} {is:List IOper} {_e} {_z} {_p}:qaa P E X (⟨d,.bsr _e _z _p,none⟩ :: is) fr L K=OpsK P E X (Zd d fr L (.bsr _e _z _p)) is K:=qaO rfl
theorem qCO {d:Option Nat} {is:List IOper} {_e} {_x}:qaa P E X (⟨d,.s2b _e _x,none⟩ :: is) fr L K=OpsK P E X (Zd d fr L (.s2b _e _x)) is K:=qaO rfl
theorem qxI {d:Option Nat} {f:FuncId} {args:List Opd} {is:List IOper}:qaa P E X (⟨d,.call f args,none⟩ :: is) fr L K=(Zl fr args∧qeg P E f (Zm fr args) L d fr (qjc P E X is K)):=rfl
def FnK (P:Program) (E:Envt) (X:List PV) (o:Option (FuncId×List AV)) (c:Prop) (d:Option Nat) (args:List Opd) (is:List IOper) (fr:List AV) (L:Objs) (K:List AV→Objs→Prop):Prop:=
 match o with
 |some (f,ks)=>c∧fnB P f=true∧Zk L ks=true∧Zl fr args∧qeg P E f (Zm fr args++ks) L d fr (qjc P E X is K)
 |none=>False
theorem qyO {f:FuncId} {ks:List AV} {c:Prop} {d:Option Nat} {args:List Opd} {is:List IOper}:FnK P E X (some (f,ks)) c d args is fr L K=(c∧fnB P f=true∧Zk L ks=true∧Zl fr args∧qeg P E f (Zm fr args++ks) L d fr (qjc P E X is K)):=rfl
theorem qvK {d:Option Nat} {g:Opd} {args:List Opd} {is:List IOper}:qaa P E X (⟨d,.callv g args,none⟩ :: is) fr L K=FnK P E X (Zaq fr g) (rd fr g).un.1 d args is fr L K:=by
 cases h:Zaq fr g with
 |none=>simp only [qaa,FnK,h]
 |some q=>obtain ⟨f,ks⟩:=q;simp only [qaa,FnK,h];rfl
def FnG (P:Program) (E:Envt) (X:List PV) (o:Option (FuncId×List AV)) (c0:Bool) (c:Prop) (d:Option Nat) (args:List Opd) (is:List IOper) (fr:List AV) (L:Objs) (K:List AV→Objs→Prop):Prop:=
 match o with
 |some (f,ks)=>(fnB P f=true∧Zk L ks=true)∧(c0=true→c∧Zl fr args)∧qta c0 P E f (Zm fr args++ks) L d fr (qjc P E X is K)
 |none=>c0=false∧qaa P E X is (Zf fr d (.g c0 .any)) L K
theorem qyP {f:FuncId} {ks:List AV} {c0:Bool} {c:Prop} {d:Option Nat} {args:List Opd} {is:List IOper}:FnG P E X (some (f,ks)) c0 c d args is fr L K=((fnB P f=true∧Zk L ks=true)∧(c0=true→c∧Zl fr args)∧qta c0 P E f (Zm fr args++ks) L d fr (qjc P E X is K)):=rfl
theorem qut {d:Option Nat} {g:Opd} {args:List Opd} {is:List IOper} {s:Nat} {want:Bool}:qaa P E X (⟨d,.callv g args,some (s,want)⟩ :: is) fr L K=(match Zg fr s want with|some c0=>FnG P E X (Zaq fr g) c0 (rd fr g).un.1 d args is fr L K|none=>False):=by
 simp only [qaa]
 cases Zg fr s want with
 |none=>rfl
 |some c0=>cases h:Zaq fr g with
  |none=>rfl
  |some q=>obtain ⟨f,ks⟩:=q;rfl
theorem qvJ {b:Bool} {d:Option Nat} {f:FuncId} {args:List Opd} {is:List IOper}:qaa P E X (⟨d,.dcall b f args,none⟩ :: is) fr L K=(Zl fr args∧DCallOp b P E f (Zm fr args) L d fr (qjc P E X is K)):=rfl
def PcK (P:Program) (E:Envt) (f:FuncId) (as:List AV) (L:Objs) (x:PV):Prop:=qnt P E f as L (·=x)
def FclK (P:Program) (E:Envt) (X:List PV) (f:FuncId) (e z:Nat) (K:List AV→Objs→Prop) (is:List IOper) (fr:List AV) (L:Objs) (d:Nat) (c:Prop):Option (List PV)→PV→Prop
 |some ps,.sl z' es=>((Zal d fr L∧Zar L (.l d)=some Zam)∧c∧z'=z∧FrC P E f ps e z es)∧qaa P E X is (fr.set d (.row (.l d))) (Zas L (.l d) (.row es e z true)) K
 |_,_=>False
theorem qAq {d:Nat} {n:Nat} {f:FuncId} {args:List Opd} {e z:Nat} {is:List IOper}:qaa P E X (⟨some d,.fcl n f args e z,none⟩ :: is) fr L K=FclK P E X f e z K is fr L d (Zl fr args) (qiC (Zm fr args)) (X.getD n (.bool false)):=by
 simp only [qaa]
 unfold FclK
 cases qiC (Zm fr args) with
 |none=>rfl
 |some ps=>cases X.getD n (.bool false)<;>rfl
theorem qwM:qiC []=some []:=rfl
theorem qBg {x:PV} {r:List AV}:qiC (.p x :: r)=(qiC r).map (x :: ·):=rfl
theorem qwZ {f:FuncId} {e z z':Nat} {is:List IOper} {d:Nat} {c:Prop} {ps:List PV} {es:List (List PV)}:FclK P E X f e z K is fr L d c (some ps) (.sl z' es)=(((Zal d fr L∧Zar L (.l d)=some Zam)∧c∧z'=z∧FrC P E f ps e z es)∧qaa P E X is (fr.set d (.row (.l d))) (Zas L (.l d) (.row es e z true)) K):=rfl
theorem qvI {d:Option Nat} {n:Nat} {f:FuncId} {args:List Opd} {is:List IOper}:qaa P E X (⟨d,.pcall n f args,none⟩ :: is) fr L K=((Zl fr args∧PcK P E f (Zm fr args) L (X.getD n (.bool false)))∧qaa P E X is (Zf fr d (.p (X.getD n (.bool false)))) L K):=rfl
theorem qus {d:Option Nat} {n:Nat} {f:FuncId} {args:List Opd} {is:List IOper} {s:Nat} {want:Bool}:qaa P E X (⟨d,.pcall n f args,some (s,want)⟩ :: is) fr L K=(match Zg fr s want with|some c0=>(c0=true→Zl fr args∧PcK P E f (Zm fr args) L (X.getD n (.bool false)))∧qaa P E X is (Zf fr d (.g c0 (.p (X.getD n (.bool false))))) L K|none=>False):=rfl
def PvK (P:Program) (E:Envt) (X:List PV) (o:Option (FuncId×List AV)) (c:Prop) (n:Nat) (d:Option Nat) (args:List Opd) (is:List IOper) (fr:List AV) (L:Objs) (K:List AV→Objs→Prop):Prop:=
 match o with
 |some (f,ks)=>(c∧fnB P f=true∧Zk L ks=true∧Zl fr args∧PcK P E f (Zm fr args++ks) L (X.getD n (.bool false)))∧qaa P E X is (Zf fr d (.p (X.getD n (.bool false)))) L K
 |none=>False
theorem qxG {f:FuncId} {ks:List AV} {c:Prop} {n:Nat} {d:Option Nat} {args:List Opd} {is:List IOper}:PvK P E X (some (f,ks)) c n d args is fr L K=((c∧fnB P f=true∧Zk L ks=true∧Zl fr args∧PcK P E f (Zm fr args++ks) L (X.getD n (.bool false)))∧qaa P E X is (Zf fr d (.p (X.getD n (.bool false)))) L K):=rfl
theorem qAn {d:Option Nat} {n:Nat} {g:Opd} {args:List Opd} {is:List IOper}:qaa P E X (⟨d,.pcv n g args,none⟩ :: is) fr L K=PvK P E X (Zaq fr g) (rd fr g).un.1 n d args is fr L K:=by
 cases h:Zaq fr g with
 |none=>simp only [qaa,PvK,h]
 |some q=>obtain ⟨f,ks⟩:=q;simp only [qaa,PvK,h];rfl
theorem qvL {d:Option Nat} {f:FuncId} {args:List Opd} {is:List IOper} {s:Nat} {want:Bool}:qaa P E X (⟨d,.call f args,some (s,want)⟩ :: is) fr L K=(match Zg fr s want with|some c0=>(c0=true→Zl fr args)∧qta c0 P E f (Zm fr args) L d fr (qjc P E X is K)|none=>False):=rfl
def FzK (P:Program) (E:Envt) (X:List PV) (q:Option (Key×PV)) (is:List IOper) (fr:List AV) (L:Objs) (K:List AV→Objs→Prop):Prop:=
 match q with
 |some (k,y)=>qaa P E X is (fr.map (·.thaw k y)) (Zav k y L) K
 |none=>qaa P E X is fr L K
theorem qyM {k:Key} {y:PV} {is:List IOper}:FzK P E X (some (k,y)) is fr L K=qaa P E X is (fr.map (·.thaw k y)) (Zav k y L) K:=rfl
theorem qyN {is:List IOper}:FzK P E X none is fr L K=qaa P E X is fr L K:=rfl
theorem qBW {x:Opd} {is:List IOper}:qaa P E X (⟨none,.fz x,none⟩ :: is) fr L K=FzK P E X (Zap fr L x) is fr L K:=rfl
def Zi (L:Objs) (k:Key):Option (List PV):=
 match Zar L k with
 |some (.box cs _)=>Zw cs
 |_=>none
def Zj (L:Objs):List Key→Option (List PV)
 |[]=>some []
 |k :: r=>match Zi L k,Zj L r with
  |some cs,some l=>some (.ptr cs :: l)
  |_,_=>none
def Zbh (L:Objs):AV→Option PV
 |.p x=>some (wk x)
 |.row k=>match Zar L k with
  |some (.row es _ z _)=>some (.sl z es)
  |_=>none
 |.mp k=>match Zar L k with
  |some (.map kv _ _)=>some (.mpv (kv.map (·.1)) (kv.map (·.2)))
  |_=>none
 |.fn f ks=>(Zj L ks).map (.clo f)
 |.adr k o=>if o=0 then (Zi L k).map .ptr else none
 |_=>none
def Zbg (L:Objs):List AV→Option (List PV)
 |[]=>some []
 |x :: r=>match Zbh L x,Zbg L r with
  |some y,some l=>some (y :: l)
  |_,_=>none
def Zbi:List AV→Bool
 |[]=>true
 |.row _ :: _=>false
 |.mp _ :: _=>false
 |.adr _ _ :: _=>false
 |.fn _ ks :: r=>ks.isEmpty && Zbi r
 |_ :: r=>Zbi r
def Zbj:PV→Bool
 |.int ..|.bool ..|.str ..=>true
 |.agg cs=>cs.all fun|.int ..|.bool ..|.str ..=>true|_=>false
 |.tup cs=>cs.all fun|.int ..|.bool ..|.str ..=>true|_=>false
 |_=>false
theorem qqm (b:Bool):(b == true)=b:=by cases b<;>rfl
theorem qoJ (b:Bool):(b == false)=!b:=by cases b<;>rfl
theorem PRep.flat {w:World} {U U':Nat→Prop} {x:PV} {v:Value} (hf:Zbj x=true) (h:PRep w U x v):PRep w U' x v:=by
 have one:∀ (y:PV) (u:Value),(match y with|.int ..|.bool ..|.str ..=>true|_=>false)=true→PRep w U y u→PRep w U' y u:=by
  intro y u hy hr
  cases y<;>simp_all [PRep]
 have lst:∀ (cs:List PV) (vs:List Value),(cs.all fun|.int ..|.bool ..|.str ..=>true|_=>false)=true→PRepL w U cs vs→PRepL w U' cs vs:=by
  intro cs
  induction cs with
  |nil=>intro vs _ h;exact h
  |cons c cs ih=>
   intro vs hc hr
   simp only [List.all_cons,zq] at hc
   simp only [PRepL] at hr ⊢
   obtain ⟨v,r,rfl,h1,h2⟩:=hr
   exact ⟨v,r,rfl,one c v hc.1 h1,ih r hc.2 h2⟩
 cases x with
 |agg cs=>simp only [Zbj] at hf;simp only [PRep] at h ⊢;obtain ⟨vs,e,hl⟩:=h;exact ⟨vs,e,lst cs vs hf hl⟩
 |tup cs=>simp only [Zbj] at hf;simp only [PRep] at h ⊢;obtain ⟨vs,e,hl⟩:=h;exact ⟨vs,e,lst cs vs hf hl⟩
 |int k n=>exact h
 |bool b=>exact h
 |str s=>exact h
 |raw v=>simp [Zbj] at hf
 |nl z=>simp [Zbj] at hf
 |sl z es=>simp [Zbj] at hf
 |ptr cs=>simp [Zbj] at hf
 |clo f ps=>simp [Zbj] at hf
 |mpv ks vs=>simp [Zbj] at hf
theorem qCk {w:World} {U U':Nat→Prop} {ι:Key→Value} {f:FuncId} {v:Value} (h:ARep w U ι (.fn f []) v):PRep w U' (.clo f []) v:=by
 exact ⟨[],by simpa [ARep] using h,by simp [PRepL]⟩
theorem qyC {as:List AV} {l:List PV} (h:Zw as=some l):as=l.map .p:=by
 induction as generalizing l with
 |nil=>simp only [Zw,zn] at h;subst h;rfl
 |cons q as ih=>
  cases q with
  |p x=>
   simp only [Zw,zp] at h
   obtain ⟨m,h1,rfl⟩:=h
   rw [ih h1]
   rfl
  |_=>simp [Zw] at h
theorem qt6 {w:World} {B:Nat→Prop} {ι:Key→Value} (hs:Sim w B L ι) (hX:∀ b,B b→¬ Own L ι b) {k:Key} {cs:List PV} (h:Zi L k=some cs):PRep w B (.ptr cs) (ι k):=by
 have hk:=qv4 w L ι B
 unfold Zi at h
 split at h
 ·rename_i as t hl
  have e:=qyC h
  subst e
  obtain ⟨b,vs,e1,e2,e3,e4,e5⟩:=hs.obj k _ hl
  have hO:Own L ι b:=⟨k,_,hl,by rw [e1];rfl⟩
  have hr:PRepL w (fun b=>Own L ι b∨B b) cs vs:=PRepL.of_get (by simpa using e3) (fun j x u hx hu=>by
   obtain ⟨u',hu',hr'⟩:=e5 j (.p x) (by rw [zz,hx];rfl)
   rw [hu'] at hu
   cases hu
   exact hr')
  refine ⟨b,e1,qbX hs hO,fun hb=>hX b hb hO,PRepC.of (PRepL.mono hk _ _ hr) e4 (fun j v hv=>?_)⟩
  rw [Nat.zero_add,cell_of_row w b j _ t (0,0) e2]
  simpa using hv
 ·cases h
theorem qwz {w:World} {B:Nat→Prop} {ι:Key→Value} (hs:Sim w B L ι) (hX:∀ b,B b→¬ Own L ι b):∀ {ks:List Key} {ps:List PV},Zj L ks=some ps→PRepL w B ps (ks.map ι):=by
 intro ks
 induction ks with
 |nil=>intro ps h;simp only [Zj,zn] at h;subst h;simp [PRepL]
 |cons k ks ih=>
  intro ps h
  simp only [Zj] at h
  split at h
  ·rename_i cs l e1 e2
   cases h
   exact ⟨_,_,rfl,qt6 hs hX e1,ih e2⟩
  ·cases h
theorem qjo {w:World} {U:Nat→Prop} {ι:Key→Value}:∀ {as:List AV} {ps:List PV} {vs:List Value},Zbi as=true→Zbg L as=some ps→ARepL w U ι as vs→PRepL w U ps vs:=by
 intro as
 induction as with
 |nil=>intro ps vs _ h hr;simp only [Zbg,zn] at h;subst h;exact hr
 |cons a as ih=>
  intro ps vs hn h hr
  simp only [Zbg] at h
  split at h
  ·rename_i y l e1 e2
   cases h
   simp only [ARepL] at hr
   obtain ⟨v,r,rfl,h1,h2⟩:=hr
   simp only [PRepL]
   cases a with
   |p x=>simp only [Zbh,zn] at e1;subst e1;exact ⟨v,r,rfl,PRep.wk h1,ih (by simpa [Zbi] using hn) e2 h2⟩
   |row k=>simp [Zbi] at hn
   |mp k=>simp [Zbi] at hn
   |adr k o=>simp [Zbi] at hn
   |fn f ks=>
    cases ks with
    |nil=>simp only [Zbh,Zj,zL,zn] at e1;subst e1;exact ⟨v,r,rfl,qCk h1,ih (by simpa [Zbi] using hn) e2 h2⟩
    |cons k ks=>simp [Zbi] at hn
   |_=>simp [Zbh] at e1
  ·cases h
theorem quH {w:World} {B:Nat→Prop} {ι:Key→Value} (hs:Sim w B L ι) (hX:∀ b,B b→¬ Own L ι b):∀ {as:List AV} {ps:List PV} {vs:List Value},Zbg L as=some ps→ARepL w (fun b=>Own L ι b∨B b) ι as vs→PRepL w B ps vs:=by
 have hk:=qv4 w L ι B
 intro as
 induction as with
 |nil=>intro ps vs h hr;simp only [Zbg,zn] at h;subst h;exact hr
 |cons a as ih=>
  intro ps vs h hr
  simp only [Zbg] at h
  split at h
  ·rename_i y l e1 e2
   cases h
   simp only [ARepL] at hr
   obtain ⟨v,r,rfl,h1,h2⟩:=hr
   simp only [PRepL]
   refine ⟨v,r,rfl,?_,ih e2 h2⟩
   cases a with
   |p x=>simp only [Zbh,zn] at e1;subst e1;exact (PRep.mono hk _ _ h1).wk
   |row k=>
    simp only [Zbh] at e1
    split at e1
    ·rename_i es e' z ap hl
     cases e1
     obtain ⟨vs',hrow,e4,e5,e6⟩:=hs.obj k _ hl
     rcases hrow.2 with ⟨g1,g2⟩|⟨g,cap,cur,fz,g1,_,g3,_⟩
     ·rw [h1.1,g1]
      exact ⟨none,0,by rw [g2],by omega,fun hne=>absurd (zA g2) hne⟩
     ·rw [h1.1,g1]
      have hE:=qj0 hs hl g1
      have hO:Own L ι g:=⟨k,_,hl,by rw [g1];rfl⟩
      refine ⟨_,cap,rfl,g3,fun _=>⟨g,0,rfl,qbX hs hO,fun hx=>hX g hx hO,?_⟩⟩
      have key:∀ (es':List (List PV)) (off:Nat),PRepE w (fun b=>Own L ι b∨B b) g z off es'→PRepE w B g z off es':=by
       intro es'
       induction es' with
       |nil=>intro off _;simp [PRepE]
       |cons x r ih=>
        intro off hh
        simp only [PRepE] at hh ⊢
        refine ⟨hh.1,?_,ih _ hh.2.2⟩
        obtain ⟨us,a1,a2,a3⟩:=hh.2.1.vals
        exact PRepC.of (PRepL.mono hk _ _ a1) a2 a3
      exact key es 0 hE
    ·cases e1
   |mp k=>
    simp only [Zbh] at e1
    split at e1
    ·rename_i kv kt et hl
     cases e1
     obtain ⟨r,ents,cl,q1,q2,q3,q4⟩:=hs.obj k _ hl
     have hO:Own L ι r:=⟨k,_,hl,by rw [q1];rfl⟩
     rw [h1.1,q1]
     exact ⟨r,rfl,qbX hs hO,fun hx=>hX r hx hO,ents,cl,q2,⟨by rw [q3.1,z7];rfl,q4⟩,PRepL.mono hk _ _ q3.2⟩
    ·cases e1
   |fn f ks=>
    simp only [Zbh,zp] at e1
    obtain ⟨ps',h3,rfl⟩:=e1
    exact ⟨ks.map ι,h1,qwz hs hX h3⟩
   |adr k o=>
    simp only [Zbh] at e1
    split at e1
    ·rename_i ho
     subst ho
     simp only [zp] at e1
     obtain ⟨cs,h3,rfl⟩:=e1
     obtain ⟨b,e4,e5⟩:=h1
     rw [e5,← e4]
     exact qt6 hs hX h3
    ·cases e1
   |_=>simp [Zbh] at e1
  ·cases h
theorem qpE {f:FuncId} {as:List AV} {ps:List PV} {φ:PV→Prop} (h:PCall P E f ps φ) (ha:Zbg L as=some ps) (hn:Zbi as=true∨∀ x,φ x→Zbj x=true):qnt P E f as L φ:=by
 intro w X ι vs hs hX hE hEb hA
 rcases hn with hn|hn
 ·exact h w (fun b=>Own L ι b∨X b) vs (fun b hb=>hb.elim (fun h=>qbX hs h) (fun h=>(hX b h).1)) hE (fun b hb=>(hEb b hb).1) (qjo hn ha hA)
 ·refine (h w X vs (fun b hb=>(hX b hb).1) hE (fun b hb=>(hEb b hb).1) (quH hs (fun b hb=>(hX b hb).2) ha hA)).mono ?_
  rintro e w' ⟨v,x,rfl,hx,hr,hG⟩
  exact ⟨v,x,rfl,hx,hr.flat (hn x hx),hG⟩
theorem use {f:FuncId} {as:List AV} {ps:List PV} {φ:PV→Prop} {d:Option Nat} {is:List IOper} (h:PCall P E f ps φ) (ha:Zbg L as=some ps) (hn:Zbi as=true∨∀ x,φ x→Zbj x=true) (hk:∀ x,φ x→qaa P E X is (Zf fr d (.p x)) L K):qeg P E f as L d fr (qjc P E X is K):=
 .inl ⟨φ,qpE h ha hn,hk⟩
theorem use1 {f:FuncId} {as:List AV} {ps:List PV} {r:PV} {d:Option Nat} {is:List IOper} (h:PCall P E f ps (·=r)) (ha:Zbg L as=some ps) (hn:Zbi as=true∨Zbj r=true) (hk:qaa P E X is (Zf fr d (.p r)) L K):qeg P E f as L d fr (qjc P E X is K):=
 .inl ⟨(·=r),qpE h ha (hn.imp id (fun h x e=>by rw [e];exact h)),fun x e=>by rw [e];exact hk⟩
theorem useG {c0:Bool} {f:FuncId} {as:List AV} {ps:List PV} {r:PV} {d:Option Nat} {is:List IOper} (h:c0=true→PCall P E f ps (·=r)) (ha:Zbg L as=some ps) (hn:Zbi as=true∨Zbj r=true) (hk:qaa P E X is (Zf fr d (.g c0 (.p r))) L K):qta c0 P E f as L d fr (qjc P E X is K):=
 .inl ⟨r,fun hc=>qpE (h hc) ha (hn.imp id fun h x e=>by rw [e];exact h),hk⟩
theorem qsb {c0:Bool} {f:FuncId} {as:List AV} {d:Option Nat} {is:List IOper} (h:c0=true→qeg P E f as L d fr (qjc P E X is K)) (hk:c0=false→qaa P E X is (Zf fr d (.g c0 .any)) L K):qta c0 P E f as L d fr (qjc P E X is K):=.inr ⟨h,hk⟩
theorem usep {f:FuncId} {as:List AV} {ps:List PV} {r:PV} (h:PCall P E f ps (·=r)) (ha:Zbg L as=some ps) (hn:Zbi as=true∨Zbj r=true):PcK P E f as L r:=
 qpE h ha (hn.imp id (fun h x e=>by rw [e];exact h))
end
end Go.Proofs.YtehfjlpenlffmaaGreatDoor
