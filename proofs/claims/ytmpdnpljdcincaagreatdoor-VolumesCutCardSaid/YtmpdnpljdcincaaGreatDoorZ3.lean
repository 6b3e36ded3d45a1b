import Derived.Test.YtmpdnpljdcincaaGreatDoorZ2
import Derived.Orders
set_option linter.unusedVariables false
set_option linter.unusedSimpArgs false
set_option linter.defProp false
namespace Go.Proofs.YtmpdnpljdcincaaGreatDoor
open Option.some renaming injEq→zh
open Prod.mk renaming injEq→zl
open Nat renaming le_refl→zD
open List renaming all_eq_true→yo,cons_append→yi,eq_nil_of_length_eq_zero→zr,getD→zu,getElem?_eq_getElem→zg,getElem?_eq_none→zO,getElem?_eq_some_iff→zk,getElem?_map→zt,getElem?_of_mem→zQ,getElem?_range→zX,getElem?_set_ne→yp,length_append→zp,length_cons→zK,length_map→zw,map_append→zF,map_congr_left→zP,map_cons→zx,map_map→ya,mem_append→zz,mem_cons→zC,mem_filter→ye,mem_map→zG,mem_of_getElem?→zm,mem_or_eq_of_mem_set→yf,mem_range→yA,mem_singleton→zy,nil_append→yg,range→zA
open Bool renaming and_eq_true→zj,false_eq_true→z7,not_eq_true'→zW,or_eq_true→zU
open Option renaming isSome_iff_exists→zT,map_eq_some_iff→zi,map_some→zN
open _root_.Array renaming getD_eq_getD_getElem?→zB,getElem?_eq_some_iff→zH,getElem?_setIfInBounds_ne→zR
section
variable {fr:List AV} {L:Objs} {K:Key}
theorem AV.kill_comm (k j:Key) (x:AV):(x.kill k).kill j=(x.kill j).kill k:=by
 induction x with
 |g c a ih=>simp only [AV.kill,ih]
 |p|ipt|any=>rfl
 |_=>simp only [AV.kill];split<;>split<;>simp_all [AV.kill]
theorem AV.kill_idem (k:Key) (x:AV):(x.kill k).kill k=x.kill k:=by
 induction x with
 |g c a ih=>simp only [AV.kill,ih]
 |p|ipt|any=>rfl
 |_=>simp only [AV.kill];split<;>simp_all [AV.kill]
theorem AO.kill_comm (k j:Key) (x:AO):(x.kill k).kill j=(x.kill j).kill k:=by
 cases x<;>simp [AO.kill,AV.kill_comm k j]
theorem AO.kill_idem (k:Key) (x:AO):(x.kill k).kill k=x.kill k:=by
 cases x<;>simp [AO.kill,AV.kill_idem]
theorem qjI (k j:Key):∀ L:Objs,Zat k (Zat j L)=Zat j (Zat k L)
 |[]=>rfl
 |(k',a) :: r=>by simp only [Zat,qjI k j r,AO.kill_comm j k]
theorem qmn (k:Key):∀ L:Objs,Zat k (Zat k L)=Zat k L
 |[]=>rfl
 |(k',a) :: r=>by simp only [Zat,qmn k r,AO.kill_idem]
theorem qft (K k:Key) (a:AO):∀ L:Objs,Zat K (Zas L k a)=Zas (Zat K L) k (a.kill K)
 |[]=>rfl
 |(k',a') :: r=>by
  simp only [Zas,Zat]
  split
  ·simp only [Zat]
  ·simp only [Zat,qft K k a r]
theorem qeE {k j:Key} (a b:AO) (hne:k≠j):∀ {L:Objs},(Zar L k).isSome=true→(Zar L j).isSome=true→Zas (Zas L k a) j b=Zas (Zas L j b) k a
 |[],h,_=>by simp [Zar] at h
 |(k',a') :: r,h1,h2=>by
  simp only [Zas]
  by_cases e1:k'=k
  ·have e2:¬ k'=j:=fun e=>hne (e1.symm.trans e)
   simp only [if_pos e1,if_neg e2,Zas]
  ·by_cases e2:k'=j
   ·simp only [if_neg e1,if_pos e2,Zas]
   ·simp only [Zar,if_neg e1,if_neg e2] at h1 h2
    simp only [if_neg e1,if_neg e2,Zas,qeE a b hne h1 h2]
theorem qn0 {K:Key} {fr:List AV} (h:fr.map (·.kill K)=fr) (e:Nat):(fr.set e .any).map (·.kill K)=fr.set e .any:=by
 rw [List.map_set,h]
 rfl
theorem Zal.hole_self (d:Nat) (fr:List AV) (L:Objs):Zal d ((fr.map (·.kill (.l d))).set d .any) (Zau L (.l d) Zam):=by
 refine ⟨qn0 (by simp [Function.comp_def,AV.kill_idem]) d,?_⟩
 unfold Zau
 rw [qft,qmn]
 rfl
theorem Zal.hole {d:Nat} (h:Zal d fr L) (e:Nat):Zal d ((fr.map (·.kill (.l e))).set e .any) (Zau L (.l e) Zam):=by
 refine ⟨qn0 ?_ e,?_⟩
 ·have:=h.1
  rw [ya]
  conv=>rhs;rw [← this]
  rw [ya]
  exact zP fun x _=>AV.kill_comm _ _ x
 ·unfold Zau
  rw [qft,qjI,h.2]
  rfl
theorem qni {cs:List AV} (h:cs.map (·.kill K)=cs):∀ x∈cs,x.kill K=x:=
 List.map_inj_left.1 (h.trans (List.map_id cs).symm)
theorem quL {cs:List AV} (h:∀ x∈cs,x.kill K=x):cs.map (·.kill K)=cs:=
 (zP h).trans (List.map_id cs)
theorem qa1 (h:Zat K L=L) {k:Key} {a:AO} (hl:Zar L k=some a):a.kill K=a:=by
 have:=qar K L k
 rw [h,hl] at this
 simpa using this.symm
theorem box_fix {cs:List AV} {t:TypeId}:(AO.box cs t).kill K=.box cs t↔∀ x∈cs,x.kill K=x:=by
 simp only [AO.kill,AO.box.injEq,and_true]
 exact ⟨qni,quL⟩
theorem qkJ {α:Type} (f:α→α):∀ (l:List α),l.map f=l→∀ x∈l,f x=x
 |[],_,x,hx=>by cases hx
 |q :: r,h,x,hx=>by
  simp only [zx,List.cons.injEq] at h
  rcases zC.1 hx with rfl|hx
  ·exact h.1
  ·exact qkJ f r h.2 x hx
theorem rowv_fix {es:List (List AV)} {e z:Nat}:(AO.rowv es e z).kill K=.rowv es e z↔∀ x∈es,∀ y∈x,y.kill K=y:=by
 simp only [AO.kill,AO.rowv.injEq,and_true]
 constructor
 ·intro h x hx
  exact qkJ _ _ (qkJ _ _ h x hx)
 ·intro h
  exact (zP fun x hx=>(zP (h x hx)).trans (List.map_id x)).trans (List.map_id es)
theorem mapv_fix {kv:List (List UInt8×AV)} {kt et:Nat}:(AO.mapv kv kt et).kill K=.mapv kv kt et↔∀ x∈kv,x.2.kill K=x.2:=by
 simp only [AO.kill,AO.mapv.injEq,and_true]
 constructor
 ·intro h x hx
  have:=qkJ _ _ h x hx
  exact congrArg Prod.snd this
 ·intro h
  conv=>rhs;rw [← List.map_id kv]
  exact zP fun x hx=>by rw [h x hx];rfl
theorem qd9 (h:Zat K L=L) {k:Key} {a:AO} (ha:a.kill K=a):Zat K (Zas L k a)=Zas L k a:=by rw [qft,h,ha]
theorem qoy (h:fr.map (·.kill K)=fr) (x:Opd):(rd fr x).kill K=rd fr x:=by
 cases x with
 |t i=>
  simp only [rd,zu]
  cases hq:fr[i]? with
  |none=>rfl
  |some y=>exact qni h y (zm hq)
 |f n=>simp [rd,AV.kill]
 |_=>rfl
theorem qq7 {x:AV} (h:x.kill K=x):x.un.2.kill K=x.un.2:=by
 induction x with
 |g c a ih=>
  simp only [AV.kill,AV.g.injEq,true_and] at h
  exact ih h
 |_=>exact h
theorem qBx {x:AV} (h:x.kill K=x):x.ad.kill K=x.ad:=by
 unfold AV.ad
 split
 ·rfl
 ·exact h
theorem qdC (h:fr.map (·.kill K)=fr) {x:Opd} {c:Prop} {q:AV} (e:(rd fr x).un=(c,q)):q.kill K=q:=by
 have:=qq7 (qoy h x)
 rw [e] at this
 exact this
theorem qe7 (h:fr.map (·.kill K)=fr) {x:Opd} {c:Prop} {q:AV} (e:(rd fr x).unA=(c,q)):q.kill K=q:=by
 have:=qBx (qq7 (qoy h x))
 have e2:(rd fr x).un.2.ad=q:=by rw [show (rd fr x).un.2.ad=(rd fr x).unA.2 from rfl,e]
 rw [e2] at this
 exact this
theorem qnB {cs:List AV} {o:Nat} (h:∀ x∈cs,x.kill K=x):(cs.getD o .any).kill K=cs.getD o .any:=by
 simp only [zu]
 cases hq:cs[o]? with
 |none=>rfl
 |some y=>exact h y (zm hq)
theorem qhY {k:Key} (h:(AV.row k).kill K=.row k):k≠K:=by
 intro e;simp [AV.kill,e] at h
theorem qpF {k:Key} {o:Nat} (h:(AV.adr k o).kill K=.adr k o):k≠K:=by
 intro e;simp [AV.kill,e] at h
theorem qoz {k:Key} {z i o:Nat} (h:(AV.rad k z i o).kill K=.rad k z i o):k≠K:=by
 intro e;simp [AV.kill,e] at h
theorem qAY {k:Key} (h:(AV.mp k).kill K=.mp k):k≠K:=by
 intro e;simp [AV.kill,e] at h
theorem qBM {k:Key} {ps:List PV} (h:(AV.tr k ps).kill K=.tr k ps):k≠K:=by
 intro e;simp [AV.kill,e] at h
theorem qk9 {k:Key} (h:k≠K):(AV.row k).kill K=.row k:=by simp [AV.kill,h]
theorem qqM {k:Key} {o:Nat} (h:k≠K):(AV.adr k o).kill K=.adr k o:=by simp [AV.kill,h]
theorem qmZ {k:Key} {z i o:Nat} (h:k≠K):(AV.rad k z i o).kill K=.rad k z i o:=by simp [AV.kill,h]
theorem anyK_false {cs:List CV}:Zah K cs=false↔∀ x∈cs,Zai K x=false:=by
 induction cs with
 |nil=>simp [Zah]
 |cons x r ih=>simp only [Zah,Bool.or_eq_false_iff,ih,zC,forall_eq_or_imp]
theorem qn1 {cs:List CV} {i:Nat} {x:CV} (h:Zah K cs=false) (hx:Zai K x=false):Zah K (cs.set i x)=false:=by
 rw [anyK_false] at h ⊢
 intro y hy
 rcases yf hy with hy|rfl
 ·exact h y hy
 ·exact hx
theorem ag_fix {cs:List CV}:(AV.ag cs).kill K=.ag cs↔Zah K cs=false:=by
 simp only [AV.kill]
 split<;>simp_all
theorem qs9 {y:PV} {z i o:Nat}:(Zaw y z i o).kill K=Zaw y z i o:=by
 unfold Zaw
 split
 ·split<;>rfl
 ·rfl
theorem qq8 {k:Key} {y:PV} {x:AV} (h:x.kill K=x):(x.thaw k y).kill K=x.thaw k y:=by
 induction x with
 |g c a ih=>
  simp only [AV.kill,AV.g.injEq,true_and] at h
  simp only [AV.thaw,AV.kill,ih h]
 |p|ipt|any=>rfl
 |row k'=>simp only [AV.thaw];split;rfl;exact h
 |adr k' o=>
  simp only [AV.thaw];split
  ·unfold thaw_P
   split
   ·split<;>rfl
   ·rfl
  ·exact h
 |rad k' z' i o=>
  simp only [AV.thaw];split
  ·exact qs9
  ·exact h
 |mp k'=>simp only [AV.thaw];split;rfl;exact h
 |tr k' ps=>simp only [AV.thaw];split;rfl;exact h
 |fn f ks=>simp only [AV.thaw];split;rfl;exact h
 |ag cs=>
  rw [ag_fix,anyK_false] at h
  simp only [AV.thaw]
  rw [ag_fix,anyK_false]
  intro x hm
  obtain ⟨q,hq,rfl⟩:=zG.1 hm
  cases q with
  |p p=>rfl
  |row k'=>
   simp only [Zaj];split
   ·rfl
   ·exact h _ hq
  |mp k'=>
   simp only [Zaj];split
   ·rfl
   ·exact h _ hq
theorem qwr {f:AV→AV} (hf:∀ x:AV,x.kill K=x→(f x).kill K=f x) {a:AO} (h:a.kill K=a):(a.mapA f).kill K=a.mapA f:=by
 cases a with
 |box cs t=>
  simp only [AO.mapA]
  rw [box_fix] at h ⊢
  intro x hx
  obtain ⟨y,hy,rfl⟩:=zG.1 hx
  exact hf y (h y hy)
 |rowv es e z=>
  simp only [AO.mapA]
  rw [rowv_fix] at h ⊢
  intro x hx y hy
  obtain ⟨x',hx',rfl⟩:=zG.1 hx
  obtain ⟨y',hy',rfl⟩:=zG.1 hy
  exact hf y' (h x' hx' y' hy')
 |mapv kv a b=>
  simp only [AO.mapA]
  rw [mapv_fix] at h ⊢
  intro x hx
  obtain ⟨y,hy,rfl⟩:=zG.1 hx
  exact hf y.2 (h y hy)
 |_=>rfl
theorem qmo {k':Key} {a:AO} {r:Objs}:Zat K ((k',a) :: r)=(k',a) :: r↔a.kill K=a∧Zat K r=r:=by
 simp [Zat]
theorem Zal.thaw {d:Nat} {k:Key} {y:PV} (h:Zal d fr L):Zal d (fr.map (·.thaw k y)) (Zav k y L):=by
 refine ⟨?_,?_⟩
 ·refine quL fun x hx=>?_
  obtain ⟨y,hy,rfl⟩:=zG.1 hx
  exact qq8 (qni h.1 y hy)
 ·have:=h.2
  clear h
  induction L with
  |nil=>rfl
  |cons q r ih=>
   obtain ⟨k',a⟩:=q
   rw [qmo] at this
   simp only [Zav]
   split
   ·exact ih this.2
   ·rw [qmo]
    refine ⟨?_,ih this.2⟩
    rw [AO.thaw_mapA]
    exact qwr (fun x hx=>qq8 hx) this.1
theorem qrm:∀ {us:List PV} {cs:List CV} {o:Nat},Zah K cs=false→Zah K (Zae cs o us)=false
 |[],cs,o,h=>by simpa [Zae] using h
 |x :: r,cs,o,h=>by
  simp only [Zae]
  exact qrm (qn1 h rfl)
theorem qkP (hF:fr.map (·.kill K)=fr):∀ {ps:List (Nat×Nat×Opd)} {cs:List CV} {q:Prop×List CV},Zad fr cs ps=some q→Zah K cs=false→Zah K q.2=false
 |[],cs,q,h,hc=>by simp only [Zad,zh] at h;subst h;exact hc
 |(o,s,x) :: r,cs,q,h,hc=>by
  simp only [Zad] at h
  split at h
  ·split at h
   ·obtain ⟨q',h1,rfl⟩:=zi.1 h
    have:=qkP hF h1 (qrm hc)
    exact this
   ·cases h
  ·rename_i c k e
   split at h
   ·obtain ⟨q',h1,rfl⟩:=zi.1 h
    have:=qkP hF h1 (qn1 hc (by simp only [Zai,decide_eq_false_iff_not];exact qhY (qdC hF e)))
    exact this
   ·cases h
  ·rename_i c k e
   split at h
   ·obtain ⟨q',h1,rfl⟩:=zi.1 h
    have:=qkP hF h1 (qn1 hc (by simp only [Zai,decide_eq_false_iff_not];exact qAY (qdC hF e)))
    exact this
   ·cases h
  ·cases h
theorem qc4:∀ {us cs:List AV} {o:Nat},(∀ x∈cs,x.kill K=x)→(∀ x∈us,x.kill K=x)→∀ x∈Zab cs o us,x.kill K=x
 |[],cs,o,h,_=>by simpa [Zab] using h
 |u :: r,cs,o,h,hu=>by
  simp only [Zab]
  refine qc4 (fun x hx=>?_) (fun x hx=>hu x (by simp [hx]))
  rcases yf hx with h'|h'
  ·exact h x h'
  ·subst h';exact hu _ (by simp)
end
def qaS:Opd→List Nat
 |.t i=>[i]
 |_=>[]
def optS:Option Opd→List Nat
 |none=>[]
 |some x=>qaS x
def qb8:List Opd→List Nat
 |[]=>[]
 |x :: r=>qaS x++qb8 r
def ql8:List (Nat×Nat×Opd)→List Nat
 |[]=>[]
 |(_,_,x) :: r=>qaS x++ql8 r
def qcq:IOp→Option (List Nat)
 |.mov x|.not x|.len x|.sln x|.fla _ x|.fld _ _ _ x|.ld _ _ x|.ldl _ _ x|.ldn _ _ _ x|.ext _ x|.cvi _ x|.cvs x|.b2s x|.nck x=>some (qaS x)
 |.pick c a b=>some (qaS c++qaS a++qaS b)
 |.bin _ x y|.bnb _ x y|.eqa _ _ x y|.mx x y|.idx x y|.ixa _ x y|.mpl _ _ x y=>some (qaS x++qaS y)
 |.ssl x lo hi|.vsl _ x lo hi=>some (qaS x++optS lo++optS hi)
 |.bld _ parts|.bldg _ parts=>some (ql8 parts)
 |.bsl _ parts=>some (qb8 parts)
 |.pcall _ _ args=>some (qb8 args)
 |.pcv _ g args=>some (qaS g++qb8 args)
 |_=>none
def qaK (i:IOper):Option (List Nat):=
 (qcq i.op).map fun l=>l++(match i.guard with|some (s,_)=>[s]|none=>[])
def isD:IOper→Option (Bool×List Nat)
 |⟨_,.dcall b _ args,none⟩=>some (b,qb8 args)
 |_=>none
def isN:IOper→Option (Nat×List Nat)
 |⟨some d,.alcd _ _,none⟩=>some (d,[])
 |⟨some d,.bsrd _ _ parts,none⟩=>some (d,qb8 parts)
 |⟨some d,.fcl _ _ args _ _,none⟩=>some (d,qb8 args)
 |_=>none
def qkm:IOp→Bool
 |.pcall ..=>false
 |.pcv ..=>false
 |_=>true
def qko (b:Bool):IOp→Bool
 |.ld ..=>false
 |.ldn ..=>false
 |.pcall ..=>false
 |.pcv ..=>false
 |.mpl ..=>false
 |.ldl ..=>b
 |_=>true
def isSr:IOper→Option (List Nat)
 |⟨none,.st _ p x,none⟩=>some (qaS p++qaS x)
 |_=>none
def nol:IOp→Bool
 |.mov ..|.pick ..|.bin ..|.bnb ..|.eqa ..|.not ..|.sln ..|.mx ..|.idx ..|.ssl ..|.vsl ..|.fla ..|.fld ..|.ext ..|.bld ..|.bldg ..|.cvi ..|.cvs ..|.bsl ..|.nck ..=>true
 |_=>false
def isAp:IOper→Option (Nat×List Nat)
 |⟨some d,.app _ _ _ x y,none⟩=>some (d,qaS x++qaS y)
 |_=>none
def isSk:IOper→Option (Nat×List Nat)
 |⟨none,.stk n _ p x,none⟩=>some (n,qaS p++qaS x)
 |⟨none,.mpk n m k v,none⟩=>some (n,qaS m++qaS k++qaS v)
 |_=>none
def nolN (n:Nat):IOp→Bool
 |.ldn m ..=>m == n
 |.ixa ..=>true
 |op=>nol op
def qww:IOp→Bool
 |.mov ..|.bin ..|.sln ..|.len ..|.ssl ..|.fla ..|.nck ..|.ld ..|.ldl ..|.ixa ..=>true
 |_=>false
def sepI (x i:IOper) (rx ri:List Nat):Bool:=
 (match x.dst with|some d=>!ri.contains d|none=>true) && (match i.dst with|some d=>!rx.contains d|none=>true) && (match x.dst,i.dst with|some d,some e=>d != e|_,_=>true)
def qhu (x i:IOper):Bool:=
 match qaK x,qaK i with
 |some rx,some ri=>sepI x i rx ri
 |some rx,none=>match isD i with
  |some (b,ri)=>qko b x.op && sepI x i rx ri
  |none=>match isN i with
   |some (_,ri)=>qkm x.op && sepI x i rx ri
   |none=>match isSr i with
    |some ri=>nol x.op && sepI x i rx ri
    |none=>match isSk i with
     |some (n,ri)=>nolN n x.op && sepI x i rx ri
     |none=>false
 |none,some ri=>match isD x with
  |some (b,rx)=>qko b i.op && sepI x i rx ri
  |none=>match isN x with
   |some (_,rx)=>qkm i.op && sepI x i rx ri
   |none=>match isSr x with
    |some rx=>nol i.op && sepI x i rx ri
    |none=>match isAp x with
     |some (_,rx)=>qww i.op && (i.guard.isNone && sepI x i rx ri)
     |none=>false
 |none,none=>match isN x,isN i with
  |some (_,rx),some (_,ri)=>sepI x i rx ri
  |some (_,rx),none=>match isD i with
   |some (b,ri)=>b && sepI x i rx ri
   |none=>false
  |none,some (_,ri)=>match isD x with
   |some (b,rx)=>b && sepI x i rx ri
   |none=>false
  |none,none=>false
section
variable {P:Program} {E:Envt} {Y:List PV} {fr:List AV} {L:Objs}
theorem qau {d:Nat} {r:AV} {x:Opd} (h:d∉qaS x):rd (fr.set d r) x=rd fr x:=by
 cases x with
 |t i=>
  simp only [qaS,zy] at h
  simp only [rd,zu]
  rw [yp h]
 |_=>rfl
theorem qmX {d:Nat} {r:AV} {x:Option Opd} (h:d∉optS x):x.map (rd (fr.set d r))=x.map (rd fr):=by
 cases x with
 |none=>rfl
 |some y=>simp only [zN];rw [qau h]
theorem qw8 {d:Nat} {r:AV}:∀ {ps:List (Nat×Nat×Opd)} {cs:List PV},d∉ql8 ps→Zac (fr.set d r) cs ps=Zac fr cs ps:=by
 intro ps
 induction ps with
 |nil=>intros;rfl
 |cons p ps ih=>
  intro cs h
  obtain ⟨o,s,x⟩:=p
  simp only [ql8,zz,not_or] at h
  simp only [Zac]
  rw [qau h.1]
  split
  ·rw [ih h.2]
  ·rfl
theorem qw9 {d:Nat} {r:AV}:∀ {ps:List (Nat×Nat×Opd)} {cs:List CV},d∉ql8 ps→Zad (fr.set d r) cs ps=Zad fr cs ps:=by
 intro ps
 induction ps with
 |nil=>intros;rfl
 |cons p ps ih=>
  intro cs h
  obtain ⟨o,s,x⟩:=p
  simp only [ql8,zz,not_or] at h
  simp only [Zad]
  rw [qau h.1]
  split
  ·rw [ih h.2]
  ·rw [ih h.2]
  ·rw [ih h.2]
  ·rfl
theorem qr1 {d z:Nat} {r:AV}:∀ {ps:List Opd},d∉qb8 ps→Zan (fr.set d r) z ps=Zan fr z ps:=by
 intro ps
 induction ps with
 |nil=>intros;rfl
 |cons x ps ih=>
  intro h
  simp only [qb8,zz,not_or] at h
  simp only [Zan]
  rw [qau h.1]
  split
  ·rw [ih h.2]
  ·rfl
theorem qkS {d:Nat} {r:AV}:∀ {ps:List Opd},d∉qb8 ps→Zl (fr.set d r) ps=Zl fr ps:=by
 intro ps
 induction ps with
 |nil=>intros;rfl
 |cons x ps ih=>
  intro h
  simp only [qb8,zz,not_or] at h
  simp only [Zl]
  rw [qau h.1,ih h.2]
theorem qkR {d:Nat} {r:AV}:∀ {ps:List Opd},d∉qb8 ps→Zm (fr.set d r) ps=Zm fr ps:=by
 intro ps
 induction ps with
 |nil=>intros;rfl
 |cons x ps ih=>
  intro h
  simp only [qb8,zz,not_or] at h
  have:=ih h.2
  simp only [Zm,zx] at this ⊢
  rw [qau h.1,this]
def core (P:Program) (E:Envt) (Y:List PV) (fr:List AV) (L:Objs):IOp→Option (Prop×AV)
 |.pcall n f args=>some (Zl fr args∧qkA P E f (Zm fr args) L (·=Y.getD n (.bool false)),.p (Y.getD n (.bool false)))
 |.pcv n g args=>match Zaq fr g with
  |some (f,ks)=>some ((rd fr g).un.1∧fnB P f=true∧Zk L ks=true∧Zl fr args∧qkA P E f (Zm fr args++ks) L (·=Y.getD n (.bool false)),.p (Y.getD n (.bool false)))
  |none=>none
 |op=>Ze fr L op
theorem qrU {d:Nat} {r:AV} {op:IOp} {l:List Nat} (h:qcq op=some l) (hd:d∉l):core P E Y (fr.set d r) L op=core P E Y fr L op:=by
 cases op<;>simp only [qcq,zh,reduceCtorEq] at h<;>subst h<;>(try simp only [zz,not_or] at hd)
 case mov x=>simp only [core,Ze,qau hd]
 case pick c a b=>simp only [core,Ze,qau hd.1.1,qau hd.1.2,qau hd.2]
 case bin op x y=>simp only [core,Ze,qau hd.1,qau hd.2]
 case bnb op x y=>simp only [core,Ze,qau hd.1,qau hd.2]
 case eqa n k x y=>simp only [core,Ze,qau hd.1,qau hd.2]
 case not x=>simp only [core,Ze,qau hd]
 case len x=>simp only [core,Ze,qau hd]
 case sln x=>simp only [core,Ze,qau hd]
 case mx x y=>simp only [core,Ze,qau hd.1,qau hd.2]
 case idx x y=>simp only [core,Ze,qau hd.1,qau hd.2]
 case ssl x lo hi=>simp only [core,Ze,qau hd.1.1,qmX hd.1.2,qmX hd.2]
 case vsl z x lo hi=>simp only [core,Ze,qau hd.1.1,qmX hd.1.2,qmX hd.2]
 case ixa z x y=>simp only [core,Ze,qau hd.1,qau hd.2]
 case fla o x=>simp only [core,Ze,qau hd]
 case fld o s a x=>simp only [core,Ze,qau hd]
 case ld s a x=>simp only [core,Ze,qau hd]
 case ldl s a x=>simp only [core,Ze,qau hd]
 case ldn n s a x=>simp only [core,Ze,qau hd]
 case ext i x=>simp only [core,Ze,qau hd]
 case bld z ps=>simp only [core,Ze,qw8 hd]
 case bldg z ps=>simp only [core,Ze,qw9 hd]
 case cvi k x=>simp only [core,Ze,qau hd]
 case cvs x=>simp only [core,Ze,qau hd]
 case b2s x=>simp only [core,Ze,qau hd]
 case bsl z ps=>simp only [core,Ze,qr1 hd]
 case nck x=>simp only [core,Ze,qau hd]
 case mpl o z x y=>simp only [core,Ze,qau hd.1,qau hd.2]
 case pcall n f args=>simp only [core,qkS hd,qkR hd]
 case pcv n g args=>simp only [core,Zaq,qau hd.1,qkS hd.2,qkR hd.2]
def sx (P:Program) (E:Envt) (Y:List PV) (fr:List AV) (L:Objs) (i:IOper):Option (Prop×AV):=
 match i.guard with
 |none=>core P E Y fr L i.op
 |some (s,w)=>match Zg fr s w with
  |some c0=>(match core P E Y fr L i.op with|some q=>some (c0=true→q.1,.g c0 q.2)|none=>if qcF i.op=true then some (c0=false,.g c0 .any) else none)
  |none=>none
theorem qfO {d:Option Nat} {r:AV} {i:IOper} {l:List Nat} (h:qaK i=some l) (hd:∀ e,d=some e→e∉l):sx P E Y (Zf fr d r) L i=sx P E Y fr L i:=by
 cases d with
 |none=>rfl
 |some d=>
  have hd:=hd d rfl
  obtain ⟨l0,h1,rfl⟩:=zi.1 h
  simp only [zz,not_or] at hd
  unfold sx
  simp only [Zf]
  cases hg:i.guard with
  |none=>simp only;exact qrU h1 hd.1
  |some q=>
   obtain ⟨s,w⟩:=q
   rw [hg] at hd
   simp only
   have:Zg (fr.set d r) s w=Zg fr s w:=by
    unfold Zg
    rw [show (fr.set d r).getD s .any=fr.getD s .any from by simp only [zu];rw [yp (by simpa using hd.2)]]
   rw [this,qrU h1 hd.1]
theorem qaq {i:IOper} {is:List IOper} {K:List AV→Objs→Prop} (hr:(qaK i).isSome=true):qaa P E Y (i :: is) fr L K↔∃ c r,sx P E Y fr L i=some (c,r)∧c∧qaa P E Y is (Zf fr i.dst r) L K:=by
 obtain ⟨d,op,gd⟩:=i
 have hA:(qcq op).isSome=true:=by simpa [qaK] using hr
 cases gd with
 |none=>
  have key:∀ q:Option (Prop×AV),(∃ c r,q=some (c,r)∧c∧qaa P E Y is (Zf fr d r) L K)↔(match q with|some (c,r)=>c∧qaa P E Y is (Zf fr d r) L K|none=>False):=by
   intro q
   cases q with
   |none=>simp
   |some q=>
    obtain ⟨c,r⟩:=q
    simp only [zh,zl]
    exact ⟨fun ⟨_,_,⟨rfl,rfl⟩,h1,h2⟩=>⟨h1,h2⟩,fun ⟨h1,h2⟩=>⟨_,_,⟨rfl,rfl⟩,h1,h2⟩⟩
  have gen:∀ op:IOp,qaa P E Y (⟨d,op,none⟩ :: is) fr L K=(match Zd d fr L op with|some (c,fr',L')=>c∧qaa P E Y is fr' L' K|none=>False)→Zd d fr L op=(Ze fr L op).map (fun q=>(q.1,Zf fr d q.2,L))→core P E Y fr L op=Ze fr L op→(qaa P E Y (⟨d,op,none⟩ :: is) fr L K↔∃ c r,sx P E Y fr L ⟨d,op,none⟩=some (c,r)∧c∧qaa P E Y is (Zf fr d r) L K):=by
   intro op h1 h2 h3
   rw [h1,h2]
   simp only [sx,h3]
   rw [key]
   cases Ze fr L op with
   |none=>rfl
   |some q=>rfl
  cases op<;>simp only [qcq,Option.isSome_some,Option.isSome_none,z7] at hA
  case pcall n f args=>
   simp only [qaa,sx,core]
   rw [key]
  case pcv n g args=>
   simp only [qaa,sx,core]
   rw [key]
   cases Zaq fr g with
   |none=>rfl
   |some q=>rfl
  all_goals exact gen _ rfl rfl rfl
 |some sw=>
  obtain ⟨s,want⟩:=sw
  have gen:∀ op:IOp,qaa P E Y (⟨d,op,some (s,want)⟩ :: is) fr L K=(match Zg fr s want with|some c0=>(match Ze fr L op with|some (c,r)=>(c0=true→c)∧qaa P E Y is (Zf fr d (.g c0 r)) L K|none=>qcF op=true∧c0=false∧qaa P E Y is (Zf fr d (.g c0 .any)) L K)|none=>False)→core P E Y fr L op=Ze fr L op→(qaa P E Y (⟨d,op,some (s,want)⟩ :: is) fr L K↔∃ c r,sx P E Y fr L ⟨d,op,some (s,want)⟩=some (c,r)∧c∧qaa P E Y is (Zf fr d r) L K):=by
   intro op h1 h3
   rw [h1]
   simp only [sx,h3]
   cases Zg fr s want with
   |none=>simp
   |some c0=>
    cases Ze fr L op with
    |none=>
     cases hp:qcF op with
     |false=>simp
     |true=>
      simp only [if_true,zh,zl,true_and]
      exact ⟨fun ⟨h1,h2⟩=>⟨_,_,⟨rfl,rfl⟩,h1,h2⟩,fun ⟨_,_,⟨rfl,rfl⟩,h1,h2⟩=>⟨h1,h2⟩⟩
    |some q=>
     obtain ⟨c,r⟩:=q
     simp only [zh,zl]
     exact ⟨fun ⟨h1,h2⟩=>⟨_,_,⟨rfl,rfl⟩,h1,h2⟩,fun ⟨_,_,⟨rfl,rfl⟩,h1,h2⟩=>⟨h1,h2⟩⟩
  cases op<;>simp only [qcq,Option.isSome_some,Option.isSome_none,z7] at hA
  case pcall n f args=>
   simp only [qaa,sx,core]
   cases Zg fr s want with
   |none=>simp
   |some c0=>
    simp only [zN,zh,zl]
    exact ⟨fun ⟨h1,h2⟩=>⟨_,_,⟨rfl,rfl⟩,h1,h2⟩,fun ⟨_,_,⟨rfl,rfl⟩,h1,h2⟩=>⟨h1,h2⟩⟩
  case pcv n g args=>
   simp only [qaa,sx,core]
   cases Zg fr s want with
   |none=>simp
   |some c0=>
    cases Zaq fr g with
    |none=>simp [qcF]
    |some q=>
     simp only [zh,zl]
     exact ⟨fun ⟨h1,h2⟩=>⟨_,_,⟨rfl,rfl⟩,h1,h2⟩,fun ⟨_,_,⟨rfl,rfl⟩,h1,h2⟩=>⟨h1,h2⟩⟩
  all_goals exact gen _ rfl rfl
theorem qbx {x i:IOper} {rx ri:List Nat} (h:sepI x i rx ri=true):(∀ d,x.dst=some d→d∉ri)∧(∀ d,i.dst=some d→d∉rx)∧(∀ d e,x.dst=some d→i.dst=some e→d≠e):=by
 simp only [sepI,zj] at h
 refine ⟨fun d hd=>?_,fun d hd=>?_,fun d e hd he=>?_⟩
 ·have:=h.1.1;rw [hd] at this;simpa using this
 ·have:=h.1.2;rw [hd] at this;simpa using this
 ·have:=h.2;rw [hd,he] at this;simpa using this
theorem qo0 {i:IOper} {b:Bool} {l:List Nat} (h:isD i=some (b,l)):∃ d f args,i=⟨d,.dcall b f args,none⟩∧l=qb8 args:=by
 unfold isD at h
 split at h
 ·simp only [zh,zl] at h
  obtain ⟨rfl,rfl⟩:=h
  exact ⟨_,_,_,rfl,rfl⟩
 ·cases h
theorem quq {i:IOper} {l:List Nat} (h:isSr i=some l):∃ sz p y,i=⟨none,.st sz p y,none⟩∧l=qaS p++qaS y:=by
 unfold isSr at h
 split at h
 ·cases h;exact ⟨_,_,_,rfl,rfl⟩
 ·cases h
theorem qzo {i:IOper} {q:Nat} {l:List Nat} (h:isAp i=some (q,l)):∃ d e z b u v,i=⟨some d,.app e z b u v,none⟩∧l=qaS u++qaS v∧q=d:=by
 unfold isAp at h
 split at h
 ·cases h;exact ⟨_,_,_,_,_,_,rfl,rfl,rfl⟩
 ·cases h
theorem qlF {x i:IOper} (h:qhu x i=true) :
  (∃ rx ri,qaK x=some rx∧qaK i=some ri∧sepI x i rx ri=true)∨
  (∃ rx b d f args,qaK x=some rx∧i=⟨d,.dcall b f args,none⟩∧qko b x.op=true∧sepI x i rx (qb8 args)=true)∨
  (∃ ri b d f args,qaK i=some ri∧x=⟨d,.dcall b f args,none⟩∧qko b i.op=true∧sepI x i (qb8 args) ri=true)∨
  (∃ rx d ri,qaK x=some rx∧isN i=some (d,ri)∧qkm x.op=true∧sepI x i rx ri=true)∨
  (∃ d rx ri,isN x=some (d,rx)∧qaK i=some ri∧qkm i.op=true∧sepI x i rx ri=true)∨
  (∃ d rx e ri,isN x=some (d,rx)∧isN i=some (e,ri)∧sepI x i rx ri=true)∨
  (∃ d rx e f args,isN x=some (d,rx)∧i=⟨e,.dcall true f args,none⟩∧sepI x i rx (qb8 args)=true)∨
  (∃ d f args e ri,x=⟨d,.dcall true f args,none⟩∧isN i=some (e,ri)∧sepI x i (qb8 args) ri=true)∨
  (∃ rx sz p y,qaK x=some rx∧i=⟨none,.st sz p y,none⟩∧nol x.op=true∧sepI x i rx (qaS p++qaS y)=true)∨
  (∃ ri sz p y,qaK i=some ri∧x=⟨none,.st sz p y,none⟩∧nol i.op=true∧sepI x i (qaS p++qaS y) ri=true)∨
  (∃ ri d e z b u v,qaK i=some ri∧x=⟨some d,.app e z b u v,none⟩∧qww i.op=true∧i.guard=none∧sepI x i (qaS u++qaS v) ri=true)∨
  (∃ rx n ri,qaK x=some rx∧isSk i=some (n,ri)∧nolN n x.op=true∧sepI x i rx ri=true):=by
 unfold qhu at h
 split at h
 ·rename_i rx ri h1 h2;exact .inl ⟨rx,ri,h1,h2,h⟩
 ·rename_i rx h1 h2
  split at h
  ·rename_i b l e
   obtain ⟨d,f,args,rfl,rfl⟩:=qo0 e
   simp only [zj] at h
   exact .inr (.inl ⟨rx,b,d,f,args,h1,rfl,h.1,h.2⟩)
  ·split at h
   ·rename_i q ri e
    simp only [zj] at h
    exact .inr (.inr (.inr (.inl ⟨rx,_,ri,h1,e,h.1,h.2⟩)))
   ·split at h
    ·rename_i ri e
     obtain ⟨sz,p,y,rfl,rfl⟩:=quq e
     simp only [zj] at h
     exact .inr (.inr (.inr (.inr (.inr (.inr (.inr (.inr (.inl ⟨rx,_,_,_,h1,rfl,h.1,h.2⟩))))))))
    ·split at h
     ·rename_i n ri e
      simp only [zj] at h
      exact .inr (.inr (.inr (.inr (.inr (.inr (.inr (.inr (.inr (.inr (.inr ⟨rx,_,_,h1,e,h.1,h.2⟩))))))))))
     ·cases h
 ·rename_i ri h1 h2
  split at h
  ·rename_i b l e
   obtain ⟨d,f,args,rfl,rfl⟩:=qo0 e
   simp only [zj] at h
   exact .inr (.inr (.inl ⟨ri,b,d,f,args,h2,rfl,h.1,h.2⟩))
  ·split at h
   ·rename_i q rx e
    simp only [zj] at h
    exact .inr (.inr (.inr (.inr (.inl ⟨_,rx,ri,e,h2,h.1,h.2⟩))))
   ·split at h
    ·rename_i rx e
     obtain ⟨sz,p,y,rfl,rfl⟩:=quq e
     simp only [zj] at h
     exact .inr (.inr (.inr (.inr (.inr (.inr (.inr (.inr (.inr (.inl ⟨ri,_,_,_,h2,rfl,h.1,h.2⟩)))))))))
    ·split at h
     ·rename_i q rx e
      obtain ⟨d,e',z,b,u,v,rfl,rfl,rfl⟩:=qzo e
      simp only [zj,Option.isNone_iff_eq_none] at h
      exact .inr (.inr (.inr (.inr (.inr (.inr (.inr (.inr (.inr (.inr (.inl ⟨ri,_,_,_,_,_,_,h2,rfl,h.1,h.2.1,h.2.2⟩))))))))))
     ·cases h
 ·split at h
  ·rename_i d rx e ri e1 e2
   exact .inr (.inr (.inr (.inr (.inr (.inl ⟨_,_,_,_,e1,e2,h⟩)))))
  ·rename_i d rx e1 e2
   split at h
   ·rename_i b ri e3
    obtain ⟨d,f,args,rfl,rfl⟩:=qo0 e3
    simp only [zj] at h
    obtain ⟨rfl,h⟩:=h
    exact .inr (.inr (.inr (.inr (.inr (.inr (.inl ⟨_,_,_,_,_,e1,rfl,h⟩))))))
   ·cases h
  ·rename_i d ri e1 e2
   split at h
   ·rename_i b rx e3
    obtain ⟨d,f,args,rfl,rfl⟩:=qo0 e3
    simp only [zj] at h
    obtain ⟨rfl,h⟩:=h
    exact .inr (.inr (.inr (.inr (.inr (.inr (.inr (.inl ⟨_,_,_,_,_,rfl,e2,h⟩)))))))
   ·cases h
  ·cases h
theorem qvV {k:Key} {cs cs':List AV} {t:TypeId} (hl:Zar L k=some (.box cs t)) (v:AV):Zv (Zas L k (.box cs' t)) v=Zv L v:=by
 cases v with
 |row k'=>
  simp only [Zv,qad]
  by_cases h:k'=k
  ·subst h;simp [hl]
  ·simp [h]
 |p x=>cases x<;>rfl
 |_=>rfl
theorem qwt {k:Key} {cs cs':List AV} {t:TypeId} (hl:Zar L k=some (.box cs t)) (v:AV):Zax (Zas L k (.box cs' t)) v=Zax L v:=by
 cases v with
 |row k'=>
  simp only [Zax,qad]
  by_cases h:k'=k
  ·subst h;simp [hl]
  ·simp [h]
 |p x=>cases x<;>rfl
 |_=>rfl
theorem qrV {b:Bool} {op:IOp} {k:Key} {cs cs':List AV} {t:TypeId} (hf:qko b op=true) (hr:(qcq op).isSome=true) (hl:Zar L k=some (.box cs t)) (hb:b=true→∃ j,k=.b j):core P E Y fr (Zas L k (.box cs' t)) op=core P E Y fr L op:=by
 cases op<;>simp only [qcq,Option.isSome_some,Option.isSome_none,z7] at hr
 case ld=>simp [qko] at hf
 case ldn=>simp [qko] at hf
 case pcall=>simp [qko] at hf
 case pcv=>simp [qko] at hf
 case mpl=>simp [qko] at hf
 case len x=>simp only [core,Ze,qwt hl]
 case b2s x=>simp only [core,Ze,qvV hl]
 case ixa z x y=>
  simp only [core,Ze]
  split
  ·rfl
  ·rename_i k' _ _ _ _ _
   rw [qad]
   by_cases h:k'=k
   ·subst h;simp [hl]
   ·simp [h]
  ·rfl
 case ldl s a x=>
  simp only [qko] at hf
  obtain ⟨j,rfl⟩:=hb hf
  simp only [core,Ze]
  split
  ·rfl
  ·rw [qad,if_neg (by simp)]
  ·rw [qad,if_neg (by simp)]
  ·rfl
 all_goals rfl
theorem qtf {b:Bool} {i:IOper} {k:Key} {cs cs':List AV} {t:TypeId} (hf:qko b i.op=true) (hr:(qaK i).isSome=true) (hl:Zar L k=some (.box cs t)) (hb:b=true→∃ j,k=.b j):sx P E Y fr (Zas L k (.box cs' t)) i=sx P E Y fr L i:=by
 have hA:(qcq i.op).isSome=true:=by simpa [qaK] using hr
 unfold sx
 split
 ·exact qrV hf hA hl hb
 ·rw [qrV hf hA hl hb]
theorem qju {d:Option Nat} {r:AV} {ps:List Opd} (h:∀ e,d=some e→e∉qb8 ps):Zl (Zf fr d r) ps=Zl fr ps:=by
 cases d with
 |none=>rfl
 |some e=>exact qkS (h e rfl)
theorem qjs {d:Option Nat} {r:AV} {ps:List Opd} (h:∀ e,d=some e→e∉qb8 ps):Zm (Zf fr d r) ps=Zm fr ps:=by
 cases d with
 |none=>rfl
 |some e=>exact qkR (h e rfl)
theorem qdQ {d e:Option Nat} {r q:AV} (h:∀ a b,d=some a→e=some b→a≠b):Zf (Zf fr d r) e q=Zf (Zf fr e q) d r:=by
 cases d with
 |none=>rfl
 |some d=>cases e with
  |none=>rfl
  |some e=>simp only [Zf];rw [List.set_comm _ _ (h d e rfl rfl)]
theorem qk8 {K:Key} {es:List (List AV)} (h:∀ x∈es,∀ y∈x,y.kill K=y) (i o:Nat):((es.getD i []).getD o .any).kill K=(es.getD i []).getD o .any:=by
 rw [zu,zu]
 cases hq:es[i]? with
 |none=>simp [AV.kill]
 |some q=>
  simp only [Option.getD_some]
  cases hx:q[o]? with
  |none=>simp [AV.kill]
  |some y=>simpa using h q (zm hq) y (zm hx)
theorem qzk {K:Key} {kv:List (List UInt8×AV)} {s:List UInt8} {z:AV} (h:∀ x∈kv,x.2.kill K=x.2) (hz:z.kill K=z):((mpF kv s).getD z).kill K=(mpF kv s).getD z:=by
 induction kv with
 |nil=>simpa [mpF] using hz
 |cons p r ih=>
  simp only [mpF]
  split
  ·simpa using h p (by simp)
  ·exact ih fun x hx=>h x (by simp [hx])
theorem qrW {K:Key} {op:IOp} {c:Prop} {r:AV} (hr:(qcq op).isSome=true) (hF:fr.map (·.kill K)=fr) (hL:Zat K L=L) (h:core P E Y fr L op=some (c,r)):r.kill K=r:=by
 cases op<;>simp only [qcq,Option.isSome_some,Option.isSome_none,z7] at hr<;>simp only [core,Ze] at h
 case mov x=>cases h;exact qoy hF x
 case ixa z x y=>
  split at h
  ·split at h
   ·cases h;rfl
   ·cases h
  ·rename_i c1 k c2 y1 n e1 e2
   split at h
   ·split at h
    ·cases h;exact qmZ (qhY (qdC hF e1))
    ·cases h
   ·split at h
    ·cases h;exact qmZ (qhY (qdC hF e1))
    ·cases h
   ·cases h
  ·cases h
 case fla o x=>
  split at h
  ·rename_i e;cases h;exact qqM (qpF (qe7 hF e))
  ·rename_i e;cases h;exact qmZ (qoz (qe7 hF e))
  ·cases h;rfl
  ·cases h
 case nck x=>
  split at h
  ·rename_i e;cases h;exact qqM (qpF (qe7 hF e))
  ·rename_i e;cases h;exact qmZ (qoz (qe7 hF e))
  ·cases h;rfl
  ·cases h
 case ld sz ag x=>
  split at h
  ·split at h
   ·cases h;rfl
   ·cases h
  ·split at h
   ·split at h
    ·cases h;rfl
    ·cases h
   ·rename_i es t z' hl
    split at h
    ·cases h
     have hh:=rowv_fix.1 (qa1 hL hl)
     exact qk8 hh _ _
    ·cases h
   ·cases h
  ·split at h
   ·rename_i cs t hl
    split at h
    ·split at h
     ·obtain ⟨q,_,e⟩:=zi.1 h;cases e;rfl
     ·cases h
      exact qnB (box_fix.1 (qa1 hL hl))
    ·cases h
   ·cases h
  ·cases h
 case ldl sz ag x=>
  split at h
  ·split at h
   ·cases h;rfl
   ·cases h
  ·split at h
   ·split at h
    ·cases h;rfl
    ·cases h
   ·rename_i es t z' hl
    split at h
    ·cases h
     have hh:=rowv_fix.1 (qa1 hL hl)
     exact qk8 hh _ _
    ·cases h
   ·cases h
  ·split at h
   ·rename_i cs t hl
    split at h
    ·split at h
     ·obtain ⟨q,_,e⟩:=zi.1 h;cases e;rfl
     ·cases h
      exact qnB (box_fix.1 (qa1 hL hl))
    ·cases h
   ·cases h
  ·cases h
 case ldn n sz ag x=>
  split at h
  ·split at h
   ·cases h;rfl
   ·cases h
  ·split at h
   ·cases h
   ·split at h
    ·split at h
     ·cases h;rfl
     ·cases h
    ·rename_i es t z' hl
     split at h
     ·cases h
      have hh:=rowv_fix.1 (qa1 hL hl)
      exact qk8 hh _ _
     ·cases h
    ·cases h
  ·split at h
   ·cases h
   ·split at h
    ·rename_i cs t hl
     split at h
     ·split at h
      ·obtain ⟨q,_,e⟩:=zi.1 h;cases e;rfl
      ·cases h
       exact qnB (box_fix.1 (qa1 hL hl))
     ·cases h
    ·cases h
  ·cases h
 case bldg zero ps=>
  obtain ⟨q,e1,e⟩:=zi.1 h
  cases e
  exact ag_fix.2 (qkP hF e1 (anyK_false.2 fun x hx=>by obtain ⟨y,_,rfl⟩:=zG.1 hx;rfl))
 case mpl ok zero m k=>
  split at h
  ·split at h
   ·cases h;rfl
   ·rename_i hl
    split at h
    ·cases h
     exact qzk (mapv_fix.1 (qa1 hL hl)) rfl
    ·cases h
   ·cases h
  ·cases h;rfl
  ·cases h
 case ext i x=>
  split at h
  ·split at h
   ·cases h;rfl
   ·cases h
  ·rename_i e
   split at h
   ·cases h
    exact qk9 (qBM (qdC hF e))
   ·obtain ⟨q,_,e⟩:=zi.1 h;cases e;rfl
  ·cases h
 all_goals first
  |(cases h;rfl)
  |(obtain ⟨q,_,e⟩:=zi.1 h;cases e;rfl)
  |((repeat' split at h)<;>first|(cases h;rfl)|(cases h;done)|(obtain ⟨q,_,e⟩:=zi.1 h;cases e;rfl))
theorem qtg {K:Key} {i:IOper} {c:Prop} {r:AV} (hr:(qaK i).isSome=true) (hF:fr.map (·.kill K)=fr) (hL:Zat K L=L) (h:sx P E Y fr L i=some (c,r)):r.kill K=r:=by
 have hA:(qcq i.op).isSome=true:=by simpa [qaK] using hr
 unfold sx at h
 split at h
 ·exact qrW hA hF hL h
 ·split at h
  ·split at h
   ·rename_i q e
    cases h
    have:=qrW (P:=P) (E:=E) (Y:=Y) (c:=q.1) (r:=q.2) hA hF hL e
    simp only [AV.kill,this]
   ·split at h
    ·cases h;rfl
    ·cases h
  ·cases h
theorem qtp {K:Key} {a:AO} {v:AV} (h:v.kill K=v):Zv (Zas L K a) v=Zv L v:=by
 cases v with
 |row k'=>simp only [Zv,qad,if_neg (qhY h)]
 |p x=>cases x<;>rfl
 |_=>rfl
theorem qub {K:Key} {a:AO} {v:AV} (h:v.kill K=v):Zax (Zas L K a) v=Zax L v:=by
 cases v with
 |row k'=>simp only [Zax,qad,if_neg (qhY h)]
 |p x=>cases x<;>rfl
 |_=>rfl
theorem qpk {K:Key} {a:AO} {op:IOp} (hf:qkm op=true) (hr:(qcq op).isSome=true) (hF:fr.map (·.kill K)=fr):core P E Y fr (Zas L K a) op=core P E Y fr L op:=by
 cases op<;>simp only [qcq,Option.isSome_some,Option.isSome_none,z7] at hr
 case pcall=>simp [qkm] at hf
 case pcv=>simp [qkm] at hf
 case len x=>simp only [core,Ze,qub (qq7 (qoy hF x))]
 case b2s x=>simp only [core,Ze,qtp (qq7 (qoy hF x))]
 case ixa z x y=>
  simp only [core,Ze]
  split
  ·rfl
  ·rename_i e1 e2
   rw [qad,if_neg (qhY (qdC hF e1))]
  ·rfl
 case ld s ag x=>
  simp only [core,Ze]
  split
  ·rfl
  ·rename_i e
   rw [qad,if_neg (qoz (qe7 hF e))]
  ·rename_i e
   rw [qad,if_neg (qpF (qe7 hF e))]
  ·rfl
 case ldl s ag x=>
  simp only [core,Ze]
  split
  ·rfl
  ·rename_i e
   rw [qad,if_neg (qoz (qe7 hF e))]
  ·rename_i e
   rw [qad,if_neg (qpF (qe7 hF e))]
  ·rfl
 case ldn n s ag x=>
  simp only [core,Ze]
  split
  ·rfl
  ·rename_i e
   rw [qad,if_neg (qoz (qe7 hF e))]
  ·rename_i e
   rw [qad,if_neg (qpF (qe7 hF e))]
  ·rfl
 case mpl o z x y=>
  simp only [core,Ze]
  split
  ·rename_i e1 e2
   rw [qad,if_neg (qAY (qdC hF e1))]
  ·rfl
  ·rfl
 all_goals rfl
theorem qp2 {K:Key} {a:AO} {i:IOper} (hf:qkm i.op=true) (hr:(qaK i).isSome=true) (hF:fr.map (·.kill K)=fr):sx P E Y fr (Zas L K a) i=sx P E Y fr L i:=by
 have hA:(qcq i.op).isSome=true:=by simpa [qaK] using hr
 unfold sx
 split
 ·exact qpk hf hA hF
 ·rw [qpk hf hA hF]
def nx (P:Program) (E:Envt) (Y:List PV) (fr:List AV):IOper→Option (Prop×AV×AO)
 |⟨some d,.alcd t zero,none⟩=>some (True,.adr (.l d) 0,.box (zero.map .p) t)
 |⟨some d,.bsrd e z parts,none⟩=>if qmf parts=true then none else (Zan fr z parts).map fun q=>(q.1,.row (.l d),.row q.2 e z true)
 |⟨some d,.fcl n f args e z,none⟩=>match qeU (Zm fr args),Y.getD n (.bool false) with
  |some ps,.sl z' es=>some (Zl fr args∧z'=z∧FrC P E f ps e z es,.row (.l d),.row es e z true)
  |_,_=>none
 |_=>none
theorem qmp {i:IOper} {d:Nat} {l:List Nat} (h:isN i=some (d,l)):(∃ t zero,i=⟨some d,.alcd t zero,none⟩∧l=[])∨(∃ e z parts,i=⟨some d,.bsrd e z parts,none⟩∧l=qb8 parts)∨∃ n f args e z,i=⟨some d,.fcl n f args e z,none⟩∧l=qb8 args:=by
 unfold isN at h
 split at h
 ·cases h;exact .inl ⟨_,_,rfl,rfl⟩
 ·cases h;exact .inr (.inl ⟨_,_,_,rfl,rfl⟩)
 ·cases h;exact .inr (.inr ⟨_,_,_,_,_,rfl,rfl⟩)
 ·cases h
theorem qg2 {i:IOper} {d:Nat} {l:List Nat} (h:isN i=some (d,l)):i.dst=some d:=by
 rcases qmp h with ⟨t,zero,rfl,_⟩|⟨e,z,parts,rfl,_⟩|⟨n,f,args,e,z,rfl,_⟩<;>rfl
theorem qaB {i:IOper} {is:List IOper} {K:List AV→Objs→Prop} {d:Nat} {l:List Nat} (hi:isN i=some (d,l)):qaa P E Y (i :: is) fr L K↔(Zal d fr L∧Zar L (.l d)=some Zam)∧∃ c r ao,nx P E Y fr i=some (c,r,ao)∧c∧qaa P E Y is (fr.set d r) (Zas L (.l d) ao) K:=by
 rcases qmp hi with ⟨t,zero,rfl,_⟩|⟨e,z,parts,rfl,_⟩|⟨n,f,args,e,z,rfl,_⟩
 ·simp only [qaa,Zd,nx,zh,zl]
  exact ⟨fun ⟨h1,h2⟩=>⟨h1,_,_,_,⟨rfl,rfl,rfl⟩,trivial,h2⟩,fun ⟨h1,_,_,_,⟨rfl,rfl,rfl⟩,_,h2⟩=>⟨h1,h2⟩⟩
 ·simp only [qaa,Zd,nx]
  cases Zan fr z parts with
  |none=>simp
  |some q=>
   obtain ⟨c,es⟩:=q
   cases qmf parts
   rotate_left
   ·simp
   simp only [zN,zh,zl,z7,if_false]
   exact ⟨fun ⟨⟨h1,hc⟩,h2⟩=>⟨h1,_,_,_,⟨rfl,rfl,rfl⟩,hc,h2⟩,fun ⟨h1,_,_,_,⟨rfl,rfl,rfl⟩,hc,h2⟩=>⟨⟨h1,hc⟩,h2⟩⟩
 ·simp only [qaa,nx]
  cases qeU (Zm fr args) with
  |none=>simp
  |some ps=>
   cases Y.getD n (.bool false) with
   |sl z' es=>
    simp only [zh,zl]
    exact ⟨fun ⟨⟨h1,hc⟩,h2⟩=>⟨h1,_,_,_,⟨rfl,rfl,rfl⟩,hc,h2⟩,fun ⟨h1,_,_,_,⟨rfl,rfl,rfl⟩,hc,h2⟩=>⟨⟨h1,hc⟩,h2⟩⟩
   |_=>simp
theorem qib {i:IOper} {d:Nat} {l:List Nat} {e:Option Nat} {q:AV} (hi:isN i=some (d,l)) (he:∀ x,e=some x→x∉l):nx P E Y (Zf fr e q) i=nx P E Y fr i:=by
 cases e with
 |none=>rfl
 |some e=>
  have he:=he e rfl
  rcases qmp hi with ⟨t,zero,rfl,_⟩|⟨e',z,parts,rfl,rfl⟩|⟨n,f,args,e',z,rfl,rfl⟩
  ·rfl
  ·simp only [nx,Zf]
   rw [qr1 he]
  ·simp only [nx,Zf]
   rw [qkS he,qkR he]
theorem qxN {i:IOper} {d e:Nat} {l:List Nat} {c:Prop} {r:AV} {ao:AO} (hi:isN i=some (d,l)) (hne:d≠e) (h:nx P E Y fr i=some (c,r,ao)):r.kill (.l e)=r∧ao.kill (.l e)=ao:=by
 rcases qmp hi with ⟨t,zero,rfl,_⟩|⟨e',z,parts,rfl,rfl⟩|⟨n,f,args,e',z,rfl,rfl⟩
 rotate_right
 ·simp only [nx] at h
  split at h
  ·simp only [zh,zl] at h
   obtain ⟨_,rfl,rfl⟩:=h
   exact ⟨qk9 (by simpa using hne),rfl⟩
  ·cases h
 ·simp only [nx,zh,zl] at h
  obtain ⟨_,rfl,rfl⟩:=h
  exact ⟨qqM (by simpa using hne),box_fix.2 (fun x hx=>by obtain ⟨y,_,rfl⟩:=zG.1 hx;rfl)⟩
 ·simp only [nx] at h
  split at h
  ·cases h
  simp only [zi,zl] at h
  obtain ⟨q,_,_,rfl,rfl⟩:=h
  exact ⟨qk9 (by simpa using hne),rfl⟩
theorem qp5 {K:Key} {d:Option Nat} {r:AV} (hF:fr.map (·.kill K)=fr) (hr:r.kill K=r):(Zf fr d r).map (·.kill K)=Zf fr d r:=by
 cases d with
 |none=>exact hF
 |some d=>simp only [Zf,List.map_set,hF,hr]
theorem Zal.put {d:Nat} {e:Option Nat} {r:AV} {k:Key} {a:AO} (h:Zal d fr L) (hr:r.kill (.l d)=r) (ha:a.kill (.l d)=a):Zal d (Zf fr e r) (Zas L k a):=⟨qp5 h.1 hr,qd9 h.2 ha⟩
theorem Zal.set {d:Nat} {e:Option Nat} {r:AV} (h:Zal d fr L) (hr:r.kill (.l d)=r):Zal d (Zf fr e r) L:=⟨qp5 h.1 hr,h.2⟩
theorem qjr {K:Key} {cs:List PV} {t:TypeId}:(AO.box (cs.map .p) t).kill K=.box (cs.map .p) t:=box_fix.2 (fun x hx=>by obtain ⟨y,_,rfl⟩:=zG.1 hx;rfl)
def stx (fr:List AV) (L:Objs) (sz:Nat) (p x:Opd):Option (Prop×Objs):=(Zd none fr L (.st sz p x)).map fun q=>(q.1,q.2.2)
theorem qj5 {K:Key} {es:List (List AV)} {e z z0 i o:Nat} {ds:List AV} (h:(AO.rowv es e z0).kill K=.rowv es e z0) (hd:∀ x∈ds,x.kill K=x):(AO.rowv (es.set i (Zab (es.getD i []) o ds)) e z).kill K=.rowv (es.set i (Zab (es.getD i []) o ds)) e z:=by
 rw [rowv_fix] at h ⊢
 intro x hx
 rcases yf hx with hx|rfl
 ·exact h x hx
 ·refine qc4 (fun y hy=>?_) hd
  rw [zu] at hy
  cases hg:es[i]? with
  |none=>rw [hg] at hy;cases hy
  |some q=>rw [hg] at hy;exact h q (zm hg) y hy
theorem qxJ {d:Option Nat} {sz:Nat} {p x:Opd} {c:Prop} {fr':List AV} {L':Objs} (h:Zd d fr L (.st sz p x)=some (c,fr',L')):fr'=fr∧∀ K:Key,fr.map (·.kill K)=fr→Zat K L=L→Zat K L'=L':=by
 simp only [Zd] at h
 split at h
 ·split at h
  ·rename_i hl
   split at h
   ·cases h
    exact ⟨rfl,fun K hF hL=>qd9 hL (box_fix.2 (qc4 (box_fix.1 (qa1 hL hl)) (fun x hx=>by obtain ⟨y,_,rfl⟩:=zG.1 hx;rfl)))⟩
   ·cases h
  ·cases h
 ·rename_i e1 e2
  split at h
  ·rename_i hl
   split at h
   ·cases h
    exact ⟨rfl,fun K hF hL=>qd9 hL (box_fix.2 (qc4 (box_fix.1 (qa1 hL hl)) (fun x hx=>by simp only [zy] at hx;subst hx;exact qdC hF e2)))⟩
   ·cases h
  ·cases h
 ·rename_i e1 e2
  split at h
  ·rename_i hl hl2
   split at h
   ·cases h
    exact ⟨rfl,fun K hF hL=>qd9 hL (box_fix.2 (qc4 (box_fix.1 (qa1 hL hl)) (fun x hx=>by simp only [zy] at hx;subst hx;exact qdC hF e2)))⟩
   ·cases h
  ·cases h
 ·rename_i e1 e2
  split at h
  ·rename_i hl
   split at h
   ·cases h
    exact ⟨rfl,fun K hF hL=>qd9 hL (box_fix.2 (qc4 (box_fix.1 (qa1 hL hl)) (fun x hx=>by simp only [zy] at hx;subst hx;rfl)))⟩
   ·cases h
  ·cases h
 ·split at h
  ·split at h
   ·cases h
    exact ⟨rfl,fun K hF hL=>qd9 hL rfl⟩
   ·cases h
  ·rename_i hl
   split at h
   ·cases h
    exact ⟨rfl,fun K hF hL=>qd9 hL (qj5 (z0:=_) (qa1 hL hl) (fun x hx=>by obtain ⟨y,_,rfl⟩:=zG.1 hx;rfl))⟩
   ·cases h
  ·cases h
 ·rename_i e1 e2
  split at h
  ·rename_i hl
   split at h
   ·cases h
    exact ⟨rfl,fun K hF hL=>qd9 hL (qj5 (z0:=_) (qa1 hL hl) (fun x hx=>by simp only [zy] at hx;subst hx;exact qdC hF e2))⟩
   ·cases h
  ·cases h
 ·cases h
theorem qaM {sz:Nat} {p x:Opd} {is:List IOper} {K:List AV→Objs→Prop}:qaa P E Y (⟨none,.st sz p x,none⟩ :: is) fr L K↔∃ c L',stx fr L sz p x=some (c,L')∧c∧qaa P E Y is fr L' K:=by
 simp only [qaa,stx]
 cases hq:Zd none fr L (.st sz p x) with
 |none=>simp
 |some q=>
  obtain ⟨c,fr',L'⟩:=q
  obtain ⟨rfl,_⟩:=qxJ hq
  simp only [zN,zh,zl]
  exact ⟨fun ⟨h1,h2⟩=>⟨c,L',⟨rfl,rfl⟩,h1,h2⟩,fun ⟨_,_,⟨rfl,rfl⟩,h1,h2⟩=>⟨h1,h2⟩⟩
theorem qiN {sz:Nat} {p x:Opd} {d:Option Nat} {r:AV} (h:∀ e,d=some e→e∉qaS p++qaS x):stx (Zf fr d r) L sz p x=stx fr L sz p x:=by
 cases d with
 |none=>rfl
 |some e=>
  have:=h e rfl
  simp only [zz,not_or] at this
  simp only [stx,Zf,Zd,qau this.1,qau this.2]
  split
  ·split
   ·split<;>rfl
   ·rfl
  ·split
   ·split<;>rfl
   ·rfl
  ·split
   ·split<;>rfl
   ·rfl
  ·split
   ·split<;>rfl
   ·rfl
  ·split
   ·split<;>rfl
   ·split<;>rfl
   ·rfl
  ·split
   ·split<;>rfl
   ·rfl
  ·rfl
theorem qxI {L':Objs} {i:IOper} (hf:nol i.op=true):sx P E Y fr L' i=sx P E Y fr L i:=by
 have e:core P E Y fr L' i.op=core P E Y fr L i.op:=by
  cases hq:i.op<;>rw [hq] at hf<;>simp only [nol,z7] at hf<;>rfl
 unfold sx
 rw [e]
theorem qno (a:AV) (K:Key):(a.kill K).un=(a.un.1,a.un.2.kill K):=by
 induction a with
 |g c a ih=>simp only [AV.kill,AV.un,ih]
 |p x=>rfl
 |row k=>simp only [AV.kill];split<;>simp [AV.un,AV.kill, *]
 |adr k o=>simp only [AV.kill];split<;>simp [AV.un,AV.kill, *]
 |rad k z i o=>simp only [AV.kill];split<;>simp [AV.un,AV.kill, *]
 |ipt z es i o=>rfl
 |mp k=>simp only [AV.kill];split<;>simp [AV.un,AV.kill, *]
 |fn f ks=>simp only [AV.kill];split<;>simp [AV.un,AV.kill, *]
 |ag cs=>simp only [AV.kill];split<;>simp [AV.un,AV.kill, *]
 |tr k ps=>simp only [AV.kill];split<;>simp [AV.un,AV.kill, *]
 |any=>rfl
theorem qrH (a:AV) (K:Key):(a.kill K).un.1=a.un.1:=by rw [qno]
theorem qrG (a:AV) (K:Key):(a.kill K).un.2=a.un.2.kill K:=by rw [qno]
theorem qBa {a:AV} {K:Key} {x:PV} (h:a.kill K=.p x):a=.p x:=by
 cases a<;>simp only [AV.kill,reduceCtorEq] at h
 case p=>exact h
 all_goals (split at h<;>cases h)
theorem qc5 (K:Key) (x:Opd):rd (fr.map (·.kill K)) x=(rd fr x).kill K:=by
 cases x with
 |t i=>
  simp only [rd,zu,zt]
  cases fr[i]?<;>rfl
 |c x=>rfl
 |f n=>simp [rd,AV.kill]
 |gl g=>rfl
theorem qgP {a:AV} {K:Key} {c:Prop} {x:PV} (h:(a.kill K).un=(c,.p x)):a.un=(c,.p x):=by
 rw [qno,zl] at h
 exact Prod.ext h.1 (qBa h.2)
theorem qp0 {a:AV} {K k:Key} {c:Prop} (h:(a.kill K).un=(c,.row k)):a.un=(c,.row k)∧k≠K:=by
 rw [qno,zl] at h
 obtain ⟨h1,h2⟩:=h
 generalize a.un=q at h1 h2 ⊢
 obtain ⟨q1,v⟩:=q
 simp only at h1 h2
 subst h1
 cases v<;>simp only [AV.kill,reduceCtorEq] at h2
 case row k'=>
  split at h2
  ·cases h2
  ·rename_i hk;cases h2;exact ⟨rfl,hk⟩
 all_goals (split at h2<;>cases h2)
theorem qr3 {n dflt:Nat} {K:Key} {h:Option Opd} {q:Prop×Nat} (hq:Zu n (h.map (rd (fr.map (·.kill K)))) dflt=some q):Zu n (h.map (rd fr)) dflt=some q:=by
 cases h with
 |none=>exact hq
 |some x=>
  simp only [zN,qc5] at hq ⊢
  simp only [Zu] at hq ⊢
  split at hq
  ·rename_i e1
   rw [qgP e1]
   exact hq
  ·cases hq
theorem qgn {v:AV} {K k:Key} {o:Nat} (h:(v.kill K).ad=.adr k o):v.ad=.adr k o∧k≠K:=by
 cases v with
 |adr k' o'=>
  simp only [AV.kill] at h
  split at h
  ·cases h
  ·rename_i hk
   simp only [AV.ad,AV.adr.injEq] at h
   obtain ⟨rfl,rfl⟩:=h
   exact ⟨rfl,hk⟩
 |p x=>cases x<;>simp [AV.kill,AV.ad] at h
 |ipt z es i o'=>simp [AV.kill,AV.ad] at h
 |any=>simp [AV.kill,AV.ad] at h
 |g c a=>simp [AV.kill,AV.ad] at h
 |_=>simp only [AV.kill] at h;split at h<;>simp [AV.ad] at h
theorem qgl {v:AV} {K k:Key} {z i o:Nat} (h:(v.kill K).ad=.rad k z i o):v.ad=.rad k z i o∧k≠K:=by
 cases v with
 |rad k' z' i' o'=>
  simp only [AV.kill] at h
  split at h
  ·cases h
  ·rename_i hk
   simp only [AV.ad,AV.rad.injEq] at h
   obtain ⟨rfl,rfl,rfl,rfl⟩:=h
   exact ⟨rfl,hk⟩
 |p x=>cases x<;>simp [AV.kill,AV.ad] at h
 |ipt z es i o'=>simp [AV.kill,AV.ad] at h
 |any=>simp [AV.kill,AV.ad] at h
 |g c a=>simp [AV.kill,AV.ad] at h
 |_=>simp only [AV.kill] at h;split at h<;>simp [AV.ad] at h
theorem qgm {v:AV} {K:Key} {z i o:Nat} {es:List (List PV)} (h:(v.kill K).ad=.ipt z es i o):v.ad=.ipt z es i o:=by
 cases v with
 |p x=>exact h
 |ipt z' es' i' o'=>exact h
 |any=>simp [AV.kill,AV.ad] at h
 |g c a=>simp [AV.kill,AV.ad] at h
 |_=>simp only [AV.kill] at h;split at h<;>simp [AV.ad] at h
theorem qkF {a:AV} {K:Key}:(a.kill K).unA=(a.un.1,(a.un.2.kill K).ad):=by simp only [AV.unA,qrH,qrG]
theorem qlG {K:Key}:∀ {l:List AV} {ps:List PV},Zw (l.map (·.kill K))=some ps→Zw l=some ps
 |[],_,h=>h
 |a :: r,ps,h=>by
  cases a with
  |p x=>
   simp only [zx,AV.kill,Zw] at h ⊢
   obtain ⟨q,h1,h2⟩:=zi.1 h
   rw [qlG h1,zN,h2]
  |ipt z es i o=>simp [AV.kill,Zw] at h
  |any=>simp [AV.kill,Zw] at h
  |g c a=>simp [AV.kill,Zw] at h
  |_=>simp only [zx,AV.kill] at h;split at h<;>simp [Zw] at h
theorem qhG {K:Key} (cs:List AV) (o:Nat):(cs.map (·.kill K)).getD o .any=(cs.getD o .any).kill K:=by
 simp only [zu,zt]
 cases cs[o]?<;>rfl
theorem qmq {K:Key} (es:List (List AV)) (i:Nat):(es.map (fun x=>x.map (·.kill K))).getD i []=(es.getD i []).map (·.kill K):=by
 simp only [zu,zt]
 cases es[i]?<;>rfl
theorem qdR {K q:Key} {L L':Objs} {ao:AO} (hL:∀ q,q≠K→Zar L' q=(Zar L q).map (AO.kill K)) (hq:q≠K) (h:Zar L' q=some ao):∃ ao',Zar L q=some ao'∧ao=ao'.kill K:=by
 rw [hL q hq,zi] at h
 obtain ⟨x,h1,h2⟩:=h
 exact ⟨x,h1,h2.symm⟩
theorem quc {K:Key} {L L':Objs} (hL:∀ q,q≠K→Zar L' q=(Zar L q).map (AO.kill K)) {v:AV} {n:Nat} (h:Zax L' (v.kill K)=some n):Zax L v=some n:=by
 cases v with
 |p x=>cases x<;>exact h
 |row k=>
  simp only [AV.kill] at h
  split at h
  ·simp [Zax] at h
  ·rename_i hk
   simp only [Zax] at h ⊢
   rw [hL k hk] at h
   cases hl:Zar L k with
   |none=>rw [hl] at h;simp at h
   |some ao=>
    rw [hl] at h
    cases ao<;>simp only [zN,AO.kill,zw,reduceCtorEq] at h ⊢<;>exact h
 |g c a=>simp [AV.kill,Zax] at h
 |any=>simp [AV.kill,Zax] at h
 |ipt z es i o=>simp [AV.kill,Zax] at h
 |_=>simp only [AV.kill] at h;split at h<;>simp [Zax] at h
theorem quU {K:Key} {op:IOp} {c:Prop} {r:AV} {L':Objs} (hL:∀ q,q≠K→Zar L' q=(Zar L q).map (AO.kill K)) (hf:qww op=true) (h:core P E Y (fr.map (·.kill K)) L' op=some (c,r)):∃ r',core P E Y fr L op=some (c,r')∧r'.kill K=r:=by
 cases op<;>simp only [qww,z7] at hf
 case mov x=>
  simp only [core,Ze,qc5,zh,zl] at h ⊢
  exact ⟨_,⟨h.1,rfl⟩,h.2⟩
 case bin op x y=>
  simp only [core,Ze,qc5] at h ⊢
  split at h
  ·rename_i e1 e2
   rw [qgP e1,qgP e2]
   obtain ⟨q,h1,h2⟩:=zi.1 h
   simp only [zl] at h2
   obtain ⟨rfl,rfl⟩:=h2
   exact ⟨.p q.2,by simp only [h1,zN],rfl⟩
  ·cases h
 case sln x=>
  simp only [core,Ze,qc5] at h ⊢
  split at h
  ·rename_i e1
   rw [qgP e1]
   cases h
   exact ⟨_,rfl,rfl⟩
  ·cases h
 case len x=>
  simp only [core,Ze,qc5,qrH,qrG] at h ⊢
  obtain ⟨n,h1,h2⟩:=zi.1 h
  rw [quc hL h1]
  simp only [zl] at h2
  obtain ⟨rfl,rfl⟩:=h2
  exact ⟨_,rfl,rfl⟩
 case ssl x lo hi=>
  simp only [core,Ze] at h ⊢
  rw [qc5] at h
  split at h
  ·rename_i e1
   rw [qgP e1]
   simp only
   split at h
   ·rename_i e2
    rw [qr3 e2]
    simp only
    obtain ⟨q,h1,h2⟩:=zi.1 h
    rw [qr3 h1]
    cases h2
    exact ⟨_,rfl,rfl⟩
   ·cases h
  ·cases h
 case fla off x=>
  simp only [core,Ze] at h ⊢
  rw [qc5,qkF] at h
  simp only [AV.unA]
  generalize (rd fr x).un.1=c0 at h ⊢
  generalize (rd fr x).un.2=v at h ⊢
  split at h
  ·rename_i e1
   obtain ⟨rfl,e2⟩:=Prod.mk.inj e1
   obtain ⟨e3,hk⟩:=qgn e2
   cases h
   rw [e3]
   exact ⟨_,rfl,by simp only [AV.kill,if_neg hk]⟩
  ·rename_i e1
   obtain ⟨rfl,e2⟩:=Prod.mk.inj e1
   obtain ⟨e3,hk⟩:=qgl e2
   cases h
   rw [e3]
   exact ⟨_,rfl,by simp only [AV.kill,if_neg hk]⟩
  ·rename_i e1
   obtain ⟨rfl,e2⟩:=Prod.mk.inj e1
   cases h
   rw [qgm e2]
   exact ⟨_,rfl,rfl⟩
  ·cases h
 case ixa z x y=>
  simp only [core,Ze,qc5] at h ⊢
  split at h
  ·rename_i e1 e2
   rw [qgP e1,qgP e2]
   simp only
   split at h
   ·rename_i hz
    cases h
    exact ⟨_,by rw [if_pos hz],rfl⟩
   ·cases h
  ·rename_i e1 e2
   obtain ⟨e3,hk⟩:=qp0 e1
   rw [e3,qgP e2]
   simp only
   split at h
   ·rename_i hl
    obtain ⟨ao,h1,h2⟩:=qdR hL hk hl
    cases ao<;>simp only [AO.kill,reduceCtorEq,AO.row.injEq] at h2
    obtain ⟨rfl,rfl,rfl,rfl⟩:=h2
    rw [h1]
    simp only
    split at h
    ·rename_i hz
     cases h
     exact ⟨_,by rw [if_pos hz],by simp only [AV.kill,if_neg hk]⟩
    ·cases h
   ·rename_i hl
    obtain ⟨ao,h1,h2⟩:=qdR hL hk hl
    cases ao<;>simp only [AO.kill,reduceCtorEq,AO.rowv.injEq] at h2
    obtain ⟨rfl,rfl,rfl⟩:=h2
    rw [h1]
    simp only
    split at h
    ·rename_i hz
     cases h
     exact ⟨_,by rw [if_pos hz,zw],by simp only [AV.kill,if_neg hk]⟩
    ·cases h
   ·cases h
  ·cases h
 case nck x=>
  simp only [core,Ze] at h ⊢
  rw [qc5,qkF] at h
  simp only [AV.unA]
  generalize (rd fr x).un.1=c0 at h ⊢
  generalize (rd fr x).un.2=v at h ⊢
  split at h
  ·rename_i e1
   obtain ⟨rfl,e2⟩:=Prod.mk.inj e1
   obtain ⟨e3,hk⟩:=qgn e2
   cases h
   rw [e3]
   exact ⟨_,rfl,by simp only [AV.kill,if_neg hk]⟩
  ·rename_i e1
   obtain ⟨rfl,e2⟩:=Prod.mk.inj e1
   obtain ⟨e3,hk⟩:=qgl e2
   cases h
   rw [e3]
   exact ⟨_,rfl,by simp only [AV.kill,if_neg hk]⟩
  ·rename_i e1
   obtain ⟨rfl,e2⟩:=Prod.mk.inj e1
   cases h
   rw [qgm e2]
   exact ⟨_,rfl,rfl⟩
  ·cases h
 case ld sz ag x=>
  simp only [core,Ze] at h ⊢
  rw [qc5,qkF] at h
  simp only [AV.unA]
  generalize (rd fr x).un.1=c0 at h ⊢
  generalize (rd fr x).un.2=v at h ⊢
  split at h
  ·rename_i e1
   obtain ⟨rfl,e2⟩:=Prod.mk.inj e1
   rw [qgm e2]
   simp only
   split at h
   ·rename_i hc
    cases h
    exact ⟨_,by rw [if_pos hc],rfl⟩
   ·cases h
  ·rename_i e1
   obtain ⟨rfl,e2⟩:=Prod.mk.inj e1
   obtain ⟨e3,hk⟩:=qgl e2
   rw [e3]
   simp only
   split at h
   ·rename_i hl
    obtain ⟨ao,h1,h2⟩:=qdR hL hk hl
    cases ao<;>simp only [AO.kill,reduceCtorEq,AO.row.injEq] at h2
    obtain ⟨rfl,rfl,rfl,rfl⟩:=h2
    rw [h1]
    simp only
    split at h
    ·rename_i hc
     cases h
     exact ⟨_,by rw [if_pos hc],rfl⟩
    ·cases h
   ·rename_i hl
    obtain ⟨ao,h1,h2⟩:=qdR hL hk hl
    cases ao<;>simp only [AO.kill,reduceCtorEq,AO.rowv.injEq] at h2
    obtain ⟨rfl,rfl,rfl⟩:=h2
    rw [h1]
    simp only
    split at h
    ·rename_i hc
     cases h
     refine ⟨_,by rw [if_pos hc,zw],?_⟩
     rw [qmq,qhG]
    ·cases h
   ·cases h
  ·rename_i e1
   obtain ⟨rfl,e2⟩:=Prod.mk.inj e1
   obtain ⟨e3,hk⟩:=qgn e2
   rw [e3]
   simp only
   split at h
   ·rename_i hl
    obtain ⟨ao,h1,h2⟩:=qdR hL hk hl
    cases ao<;>simp only [AO.kill,reduceCtorEq,AO.box.injEq] at h2
    obtain ⟨rfl,rfl⟩:=h2
    rw [h1]
    simp only
    rw [zw] at h
    split at h
    ·rename_i hc
     rw [if_pos hc]
     split at h
     ·rename_i ha
      rw [if_pos ha]
      obtain ⟨q,h3,h4⟩:=zi.1 h
      cases h4
      rw [← List.map_drop,← List.map_take] at h3
      rw [qlG h3]
      exact ⟨_,rfl,rfl⟩
     ·rename_i ha
      rw [if_neg ha]
      cases h
      exact ⟨_,rfl,(qhG _ _).symm⟩
    ·cases h
   ·cases h
  ·cases h
 case ldl sz ag x=>
  simp only [core,Ze] at h ⊢
  rw [qc5,qkF] at h
  simp only [AV.unA]
  generalize (rd fr x).un.1=c0 at h ⊢
  generalize (rd fr x).un.2=v at h ⊢
  split at h
  ·rename_i e1
   obtain ⟨rfl,e2⟩:=Prod.mk.inj e1
   rw [qgm e2]
   simp only
   split at h
   ·rename_i hc
    cases h
    exact ⟨_,by rw [if_pos hc],rfl⟩
   ·cases h
  ·rename_i e1
   obtain ⟨rfl,e2⟩:=Prod.mk.inj e1
   obtain ⟨e3,hk⟩:=qgl e2
   rw [e3]
   simp only
   split at h
   ·rename_i hl
    obtain ⟨ao,h1,h2⟩:=qdR hL hk hl
    cases ao<;>simp only [AO.kill,reduceCtorEq,AO.row.injEq] at h2
    obtain ⟨rfl,rfl,rfl,rfl⟩:=h2
    rw [h1]
    simp only
    split at h
    ·rename_i hc
     cases h
     exact ⟨_,by rw [if_pos hc],rfl⟩
    ·cases h
   ·rename_i hl
    obtain ⟨ao,h1,h2⟩:=qdR hL hk hl
    cases ao<;>simp only [AO.kill,reduceCtorEq,AO.rowv.injEq] at h2
    obtain ⟨rfl,rfl,rfl⟩:=h2
    rw [h1]
    simp only
    split at h
    ·rename_i hc
     cases h
     refine ⟨_,by rw [if_pos hc,zw],?_⟩
     rw [qmq,qhG]
    ·cases h
   ·cases h
  ·rename_i e1
   obtain ⟨rfl,e2⟩:=Prod.mk.inj e1
   obtain ⟨e3,hk⟩:=qgn e2
   rw [e3]
   simp only
   split at h
   ·rename_i hl
    obtain ⟨ao,h1,h2⟩:=qdR hL hk hl
    cases ao<;>simp only [AO.kill,reduceCtorEq,AO.box.injEq] at h2
    obtain ⟨rfl,rfl⟩:=h2
    rw [h1]
    simp only
    rw [zw] at h
    split at h
    ·rename_i hc
     rw [if_pos hc]
     split at h
     ·rename_i ha
      rw [if_pos ha]
      obtain ⟨q,h3,h4⟩:=zi.1 h
      cases h4
      rw [← List.map_drop,← List.map_take] at h3
      rw [qlG h3]
      exact ⟨_,rfl,rfl⟩
     ·rename_i ha
      rw [if_neg ha]
      cases h
      exact ⟨_,rfl,(qhG _ _).symm⟩
    ·cases h
   ·cases h
  ·cases h
theorem qBv {d:Nat} {e z b:Nat} {u v:Opd} {c:Prop} {fr':List AV} {L':Objs} (h:Zd (some d) fr L (.app e z b u v)=some (c,fr',L')) :
  ∃ K,fr'=(fr.map (·.kill K)).set d (.row K)∧(∀ q,q≠K→Zar L' q=(Zar L q).map (AO.kill K))∧∀ fr2:List AV,rd fr2 u=rd fr u→rd fr2 v=rd fr v→Zd (some d) fr2 L (.app e z b u v)=some (c,(fr2.map (·.kill K)).set d (.row K),L'):=by
 simp only [Zd] at h
 split at h
 ·rename_i e1 e2 e3
  cases e1
  split at h
  ·rename_i hl
   split at h
   ·rename_i hc
    cases h
    refine ⟨_,rfl,fun q hq=>by rw [qap,if_neg hq],fun fr2 h1 h2=>?_⟩
    simp only [Zd,h1,h2,e2,e3,hl,if_pos hc]
   ·cases h
  ·rename_i hl
   split at h
   ·rename_i hc
    cases h
    refine ⟨_,rfl,fun q hq=>by rw [qap,if_neg hq],fun fr2 h1 h2=>?_⟩
    simp only [Zd,h1,h2,e2,e3,hl,if_pos hc]
   ·cases h
  ·cases h
 ·rename_i e1 e2 e3
  cases e1
  split at h
  ·rename_i hl hl2
   split at h
   ·rename_i hl3
    split at h
    ·rename_i hc
     cases h
     refine ⟨_,rfl,fun q hq=>by rw [qap,if_neg hq],fun fr2 h1 h2=>?_⟩
     simp only [Zd,h1,h2,e2,e3,hl]
     simp only [hl2,hl3,if_pos hc]
    ·cases h
   ·cases h
  ·cases h
 ·rename_i e1 e2 e3
  cases e1
  split at h
  ·rename_i hc
   cases h
   refine ⟨_,rfl,fun q hq=>by rw [qap,if_neg hq],fun fr2 h1 h2=>?_⟩
   simp only [Zd,h1,h2,e2,e3,if_pos hc]
  ·cases h
 ·cases h
theorem qhs {d:Nat} {e z b:Nat} {u v:Opd} {is:List IOper} {K:List AV→Objs→Prop}:qaa P E Y (⟨some d,.app e z b u v,none⟩ :: is) fr L K↔∃ c fr' L',Zd (some d) fr L (.app e z b u v)=some (c,fr',L')∧c∧qaa P E Y is fr' L' K:=by
 simp only [qaa]
 cases hq:Zd (some d) fr L (.app e z b u v) with
 |none=>simp
 |some q=>
  obtain ⟨c,fr',L'⟩:=q
  simp only [zh,zl]
  exact ⟨fun ⟨h1,h2⟩=>⟨c,fr',L',⟨rfl,rfl,rfl⟩,h1,h2⟩,fun ⟨_,_,_,⟨rfl,rfl,rfl⟩,h1,h2⟩=>⟨h1,h2⟩⟩
theorem qpA {i:IOper} {n:Nat} {l:List Nat} {is:List IOper} {K:List AV→Objs→Prop} (h:isSk i=some (n,l)):qaa P E Y (i :: is) fr L K↔∃ c ao,Zd none fr L i.op=some (c,fr,Zas L (.l n) ao)∧c∧qaa P E Y is fr (Zas L (.l n) ao) K:=by
 have key:∀ q:Option (Prop×List AV×Objs),(∀ c fr' L',q=some (c,fr',L')→fr'=fr∧∃ ao,L'=Zas L (.l n) ao)→((match q with|some (c,fr',L')=>c∧qaa P E Y is fr' L' K|none=>False)↔∃ c ao,q=some (c,fr,Zas L (.l n) ao)∧c∧qaa P E Y is fr (Zas L (.l n) ao) K):=by
  intro q hq
  cases q with
  |none=>simp
  |some q=>
   obtain ⟨c,fr',L'⟩:=q
   obtain ⟨rfl,ao,rfl⟩:=hq _ _ _ rfl
   constructor
   ·exact fun h=>⟨c,ao,rfl,h.1,h.2⟩
   ·rintro ⟨c2,ao2,e,h1,h2⟩
    simp only [zh,zl,true_and] at e
    obtain ⟨rfl,e⟩:=e
    exact ⟨h1,by rw [e];exact h2⟩
 unfold isSk at h
 split at h
 ·cases h
  refine key _ ?_
  intro c fr' L' e
  simp only [Zd] at e
  split at e
  ·split at e
   ·split at e
    ·split at e
     ·cases e;exact ⟨rfl,_,rfl⟩
     ·cases e
    ·cases e
   ·cases e
  ·split at e
   ·split at e
    ·split at e
     ·cases e;exact ⟨rfl,_,rfl⟩
     ·cases e
    ·cases e
   ·cases e
  ·cases e
 ·cases h
  refine key _ ?_
  intro c fr' L' e
  simp only [Zd] at e
  split at e
  ·split at e
   ·split at e
    ·cases e;exact ⟨rfl,_,rfl⟩
    ·cases e
   ·cases e
  ·cases e
 ·cases h
theorem qvX {i:IOper} {n:Nat} {l:List Nat} {d:Option Nat} {r:AV} {c:Prop} {ao:AO} (h:isSk i=some (n,l)) (hd:∀ e,d=some e→e∉l):Zd none (Zf fr d r) L i.op=some (c,Zf fr d r,Zas L (.l n) ao)↔Zd none fr L i.op=some (c,fr,Zas L (.l n) ao):=by
 cases d with
 |none=>exact Iff.rfl
 |some d=>
  have hd:=hd d rfl
  simp only [Zf]
  unfold isSk at h
  split at h
  ·cases h
   simp only [zz,not_or] at hd
   simp only [Zd,qau hd.1,qau hd.2]
   constructor <;>
   ·intro e
    split at e
    ·split at e
     ·split at e
      ·split at e
       ·rename_i hc
        rw [if_pos hc]
        simp only [zh,zl] at e ⊢
        (first|exact ⟨e.1,trivial,e.2.2⟩|(rw [if_pos (by assumption)];simp only [zh,zl];exact ⟨e.1,trivial,e.2.2⟩))
       ·cases e
      ·cases e
     ·cases e
    ·split at e
     ·split at e
      ·split at e
       ·rename_i hc
        rw [if_pos hc]
        simp only [zh,zl] at e ⊢
        (first|exact ⟨e.1,trivial,e.2.2⟩|(rw [if_pos (by assumption)];simp only [zh,zl];exact ⟨e.1,trivial,e.2.2⟩))
       ·cases e
      ·cases e
     ·cases e
    ·cases e
  ·cases h
   simp only [zz,not_or] at hd
   simp only [Zd,qau hd.1.1,qau hd.1.2,qau hd.2]
   constructor <;>
   ·intro e
    split at e
    ·split at e
     ·split at e
      ·simp only [zh,zl] at e ⊢
       (first|exact ⟨e.1,trivial,e.2.2⟩|(rw [if_pos (by assumption)];simp only [zh,zl];exact ⟨e.1,trivial,e.2.2⟩))
      ·cases e
     ·cases e
    ·cases e
  ·cases h
def nrO:AO→Bool
 |.row ..=>false
 |.rowv ..=>false
 |_=>true
theorem quT {n:Nat} {op:IOp} {a:AO} (ha:nrO a=true) (hl:∀ b,Zar L (.l n)=some b→nrO b=true) (hf:nolN n op=true):core P E Y fr (Zas L (.l n) a) op=core P E Y fr L op:=by
 cases hq:op<;>rw [hq] at hf<;>simp only [nolN,nol,z7,beq_iff_eq] at hf
 case ixa z x y=>
  simp only [core,Ze]
  split
  ·rfl
  ·rename_i cx k ci kk nn e1 e2
   by_cases hk:k=.l n
   ·subst hk
    rw [qad,if_pos rfl]
    cases hq2:Zar L (.l n) with
    |none=>cases a<;>first|rfl|(simp [nrO] at ha;done)
    |some b=>
     have hb:=hl b hq2
     cases a<;>cases b<;>first|rfl|(simp [nrO] at ha;done)|(simp [nrO] at hb;done)
   ·rw [qad,if_neg hk]
  ·rfl
 case ldn m sz ag x=>
  subst hf
  simp only [core,Ze]
  split
  ·rfl
  ·split
   ·rfl
   ·rename_i hk;rw [qad,if_neg hk]
  ·split
   ·rfl
   ·rename_i hk;rw [qad,if_neg hk]
  ·rfl
 all_goals rfl
theorem qyj {n:Nat} {i:IOper} {a:AO} (ha:nrO a=true) (hl:∀ b,Zar L (.l n)=some b→nrO b=true) (hf:nolN n i.op=true):sx P E Y fr (Zas L (.l n) a) i=sx P E Y fr L i:=by
 unfold sx
 rw [quT ha hl hf]
theorem qBO {i:IOper} {n:Nat} {l:List Nat} {c:Prop} {ao:AO} (h:isSk i=some (n,l)) (e:Zd none fr L i.op=some (c,fr,Zas L (.l n) ao)):nrO ao=true∧∀ b,Zar L (.l n)=some b→nrO b=true:=by
 have hao:Zar (Zas L (.l n) ao) (.l n)=some ao:=by rw [qad,if_pos rfl]
 unfold isSk at h
 split at h
 ·cases h
  simp only [Zd] at e
  split at e
  ·split at e
   ·split at e
    ·rename_i hl
     split at e
     ·simp only [zh,zl] at e
      rw [← e.2.2,qad,if_pos rfl] at hao
      cases hao
      exact ⟨rfl,fun b hb=>by rw [hl] at hb;cases hb;rfl⟩
     ·cases e
    ·cases e
   ·cases e
  ·split at e
   ·split at e
    ·rename_i hl
     split at e
     ·simp only [zh,zl] at e
      rw [← e.2.2,qad,if_pos rfl] at hao
      cases hao
      exact ⟨rfl,fun b hb=>by rw [hl] at hb;cases hb;rfl⟩
     ·cases e
    ·cases e
   ·cases e
  ·cases e
 ·cases h
  simp only [Zd] at e
  split at e
  ·split at e
   ·split at e
    ·rename_i hl
     simp only [zh,zl] at e
     rw [← e.2.2,qad,if_pos rfl] at hao
     cases hao
     exact ⟨rfl,fun b hb=>by rw [hl] at hb;cases hb;rfl⟩
    ·cases e
   ·cases e
  ·cases e
 ·cases h
theorem qnI {x i:IOper} {is:List IOper} {K:List AV→Objs→Prop} (ha:qhu x i=true) (hN:∀ d l,isN i=some (d,l)→Zal d fr L) (h:qaa P E Y (x :: i :: is) fr L K):qaa P E Y (i :: x :: is) fr L K:=by
 rcases qlF ha with ⟨rx,ri,h1,h2,hs⟩|⟨rx,b,d,f,args,h1,rfl,hf,hs⟩|⟨ri,b,d,f,args,h2,rfl,hf,hs⟩|⟨rx,d,ri,h1,h2,hf,hs⟩|⟨d,rx,ri,h1,h2,hf,hs⟩|⟨d,rx,e,ri,h1,h2,hs⟩|⟨d,rx,e,f,args,h1,rfl,hs⟩|⟨d,f,args,e,ri,rfl,h2,hs⟩|⟨rx,sz,p,y,h1,rfl,hf,hs⟩|⟨ri,sz,p,y,h2,rfl,hf,hs⟩|⟨ri,d,e,z,b,u,v,h2,rfl,hf,hg,hs⟩|⟨rx,n,ri,h1,h2,hf,hs⟩
 ·obtain ⟨h3,h4,h5⟩:=qbx hs
  rw [qaq (by rw [h1];rfl)] at h
  obtain ⟨c,r,e1,hc,h⟩:=h
  rw [qaq (by rw [h2];rfl)] at h
  obtain ⟨c2,r2,e2,hc2,h⟩:=h
  rw [qfO h2 h3] at e2
  rw [qaq (by rw [h2];rfl)]
  refine ⟨c2,r2,e2,hc2,?_⟩
  rw [qaq (by rw [h1];rfl)]
  refine ⟨c,r,by rw [qfO h1 h4];exact e1,hc,?_⟩
  rwa [qdQ (fun a b ha hb=>Ne.symm (h5 b a hb ha))]
 ·obtain ⟨h3,h4,h5⟩:=qbx hs
  rw [qaq (by rw [h1];rfl)] at h
  obtain ⟨c,r,e1,hc,h⟩:=h
  simp only [qaa] at h
  obtain ⟨hA,k,t,cs,post,g1,g2,g3,g4,g5,g6⟩:=h
  rw [qju h3] at hA
  rw [qjs h3] at g1
  simp only [qaa]
  refine ⟨hA,k,t,cs,post,g1,g2,g3,g4,g5,fun y cs' hp=>?_⟩
  show qaa P E Y (x :: is) _ _ K
  rw [qaq (by rw [h1];rfl)]
  refine ⟨c,r,?_,hc,?_⟩
  ·rw [qtf hf (by rw [h1];rfl) g2 g4,qfO h1 h4];exact e1
  ·rw [qdQ (fun a b ha hb=>Ne.symm (h5 b a hb ha))]
   exact g6 y cs' hp
 ·obtain ⟨h3,h4,h5⟩:=qbx hs
  simp only [qaa] at h
  obtain ⟨hA,k,t,cs,post,g1,g2,g3,g4,⟨y0,cs0,hp0⟩,g6⟩:=h
  have hn:=g6 y0 cs0 hp0
  change qaa P E Y (i :: is) _ _ K at hn
  rw [qaq (by rw [h2];rfl)] at hn
  obtain ⟨c,r,e1,hc,_⟩:=hn
  rw [qtf hf (by rw [h2];rfl) g2 g4,qfO h2 h3] at e1
  rw [qaq (by rw [h2];rfl)]
  refine ⟨c,r,e1,hc,?_⟩
  simp only [qaa]
  refine ⟨by rw [qju h4];exact hA,k,t,cs,post,by rw [qjs h4];exact g1,g2,g3,g4,⟨y0,cs0,hp0⟩,fun y cs' hp=>?_⟩
  have hn:=g6 y cs' hp
  change qaa P E Y (i :: is) _ _ K at hn
  rw [qaq (by rw [h2];rfl)] at hn
  obtain ⟨c',r',e',_,hk⟩:=hn
  rw [qtf hf (by rw [h2];rfl) g2 g4,qfO h2 h3,e1] at e'
  cases e'
  rw [qdQ (fun a b ha hb=>Ne.symm (h5 b a hb ha))]
  exact hk
 ·obtain ⟨h3,h4,h5⟩:=qbx hs
  have hd:=qg2 h2
  have hF:=hN d ri h2
  rw [qaq (by rw [h1];rfl)] at h
  obtain ⟨c,r,e1,hc,h⟩:=h
  rw [qaB h2] at h
  obtain ⟨⟨_,g2⟩,c2,r2,ao,g3,hc2,h⟩:=h
  rw [qib h2 h3] at g3
  rw [qaB h2]
  refine ⟨⟨hF,g2⟩,c2,r2,ao,g3,hc2,?_⟩
  rw [qaq (by rw [h1];rfl)]
  refine ⟨c,r,?_,hc,?_⟩
  ·rw [show fr.set d r2=Zf fr (some d) r2 from rfl,qfO h1 (fun a ha=>h4 a (hd.trans ha)),qp2 hf (by rw [h1];rfl) hF.1];exact e1
  ·have:=qdQ (fr:=fr) (r:=r2) (q:=r) (d:=some d) (e:=x.dst) (fun a b ha hb=>Ne.symm (h5 b a hb (hd.trans ha)))
   simp only [Zf] at this h ⊢
   rw [this]
   exact h
 ·obtain ⟨h3,h4,h5⟩:=qbx hs
  have hd:=qg2 h1
  rw [qaB h1] at h
  obtain ⟨⟨hF,g2⟩,c,r,ao,g3,hc,h⟩:=h
  rw [qaq (by rw [h2];rfl)] at h
  obtain ⟨c2,r2,e2,hc2,h⟩:=h
  rw [show fr.set d r=Zf fr (some d) r from rfl,qfO h2 (fun a ha=>h3 a (hd.trans ha)),qp2 hf (by rw [h2];rfl) hF.1] at e2
  rw [qaq (by rw [h2];rfl)]
  refine ⟨c2,r2,e2,hc2,?_⟩
  rw [qaB h1]
  refine ⟨⟨hF.set (qtg (by rw [h2];rfl) hF.1 hF.2 e2),g2⟩,c,r,ao,by rw [qib h1 h4];exact g3,hc,?_⟩
  have:=qdQ (fr:=fr) (r:=r) (q:=r2) (d:=some d) (e:=i.dst) (fun a b ha hb=>h5 a b (hd.trans ha) hb)
  simp only [Zf] at this h ⊢
  rw [← this]
  exact h
 ·obtain ⟨h3,h4,h5⟩:=qbx hs
  have hd:=qg2 h1
  have he:=qg2 h2
  have hne:d≠e:=h5 d e hd he
  have hF2:=hN e ri h2
  rw [qaB h1] at h
  obtain ⟨⟨hF,g2⟩,c,r,ao,g3,hc,h⟩:=h
  rw [qaB h2] at h
  obtain ⟨⟨_,k2⟩,c2,r2,ao2,k3,hc2,h⟩:=h
  rw [show fr.set d r=Zf fr (some d) r from rfl,qib h2 (fun a ha=>h3 a (hd.trans ha))] at k3
  rw [qad,if_neg (by simpa using Ne.symm hne)] at k2
  rw [qaB h2]
  refine ⟨⟨hF2,k2⟩,c2,r2,ao2,k3,hc2,?_⟩
  rw [qaB h1]
  obtain ⟨f1,f2⟩:=qxN h2 (Ne.symm hne) k3
  refine ⟨⟨hF.put (e:=some e) f1 f2,by rw [qad,if_neg (by simpa using hne)];exact g2⟩,c,r,ao,by rw [show fr.set e r2=Zf fr (some e) r2 from rfl,qib h1 (fun a ha=>h4 a (he.trans ha))];exact g3,hc,?_⟩
  rw [List.set_comm _ _ (Ne.symm hne),qeE ao2 ao (by simpa using Ne.symm hne) (by rw [k2];rfl) (by rw [g2];rfl)]
  exact h
 ·obtain ⟨h3,h4,h5⟩:=qbx hs
  have hd:=qg2 h1
  rw [qaB h1] at h
  obtain ⟨⟨hF,g2⟩,c,r,ao,g3,hc,h⟩:=h
  simp only [qaa] at h
  obtain ⟨hA,k,t,cs,post,k1,k2,k3,k4,k5,k6⟩:=h
  rw [show fr.set d r=Zf fr (some d) r from rfl,qju (fun a ha=>h3 a (hd.trans ha))] at hA
  rw [show fr.set d r=Zf fr (some d) r from rfl,qjs (fun a ha=>h3 a (hd.trans ha))] at k1
  obtain ⟨j,rfl⟩:=k4 rfl
  rw [qad,if_neg (by simp)] at k2
  simp only [qaa]
  refine ⟨hA,.b j,t,cs,post,k1,k2,k3,k4,k5,fun y cs' hp=>?_⟩
  show qaa P E Y (x :: is) _ _ K
  rw [qaB h1]
  refine ⟨⟨hF.put rfl qjr,by rw [qad,if_neg (by simp)];exact g2⟩,c,r,ao,by rw [qib h1 h4];exact g3,hc,?_⟩
  have:=qdQ (fr:=fr) (r:=r) (q:=.p y) (d:=some d) (e:=e) (fun a b ha hb=>h5 a b (hd.trans ha) hb)
  have h:=k6 y cs' hp
  rw [qeE ao _ (by simp) (by rw [g2];rfl) (by rw [k2];rfl)] at h
  simp only [Zf] at this h ⊢
  rw [← this]
  exact h
 ·obtain ⟨h3,h4,h5⟩:=qbx hs
  have he:=qg2 h2
  have hF:=hN e ri h2
  simp only [qaa] at h
  obtain ⟨hA,k,t,cs,post,k1,k2,k3,k4,⟨y0,cs0,hp0⟩,k6⟩:=h
  obtain ⟨j,rfl⟩:=k4 rfl
  have hn:=k6 y0 cs0 hp0
  change qaa P E Y (i :: is) _ _ K at hn
  rw [qaB h2] at hn
  obtain ⟨⟨_,g2⟩,c,r,ao,g3,hc,_⟩:=hn
  rw [qad,if_neg (by simp)] at g2
  rw [qib h2 h3] at g3
  rw [qaB h2]
  refine ⟨⟨hF,g2⟩,c,r,ao,g3,hc,?_⟩
  simp only [qaa]
  refine ⟨by rw [show fr.set e r=Zf fr (some e) r from rfl,qju (fun a ha=>h4 a (he.trans ha))];exact hA,.b j,t,cs,post,by rw [show fr.set e r=Zf fr (some e) r from rfl,qjs (fun a ha=>h4 a (he.trans ha))];exact k1,by rw [qad,if_neg (by simp)];exact k2,k3,k4,⟨y0,cs0,hp0⟩,fun y cs' hp=>?_⟩
  have hn:=k6 y cs' hp
  change qaa P E Y (i :: is) _ _ K at hn
  rw [qaB h2] at hn
  obtain ⟨_,c',r',ao',e',_,hk⟩:=hn
  rw [qib h2 h3,g3] at e'
  cases e'
  show qaa P E Y is _ _ K
  rw [qeE ao _ (by simp) (by rw [g2];rfl) (by rw [k2];rfl)]
  have:=qdQ (fr:=fr) (r:=r) (q:=.p y) (d:=some e) (e:=d) (fun a b ha hb=>Ne.symm (h5 b a hb (he.trans ha)))
  simp only [Zf] at this hk ⊢
  rw [this]
  exact hk
 ·obtain ⟨h3,h4,h5⟩:=qbx hs
  rw [qaq (by rw [h1];rfl)] at h
  obtain ⟨c,r,e1,hc,h⟩:=h
  rw [qaM] at h
  obtain ⟨c2,L',g1,hc2,h⟩:=h
  rw [qiN h3] at g1
  rw [qaM]
  refine ⟨c2,L',g1,hc2,?_⟩
  rw [qaq (by rw [h1];rfl)]
  exact ⟨c,r,by rw [qxI hf];exact e1,hc,h⟩
 ·obtain ⟨h3,h4,h5⟩:=qbx hs
  rw [qaM] at h
  obtain ⟨c,L',g1,hc,h⟩:=h
  rw [qaq (by rw [h2];rfl)] at h
  obtain ⟨c2,r2,e2,hc2,h⟩:=h
  rw [qaq (by rw [h2];rfl)]
  refine ⟨c2,r2,by rw [qxI (L':=L) hf];exact e2,hc2,?_⟩
  rw [qaM]
  exact ⟨c,L',by rw [qiN h4];exact g1,hc,h⟩
 ·obtain ⟨h3,h4,h5⟩:=qbx hs
  rw [qhs] at h
  obtain ⟨c,fr',L',e1,hc,h⟩:=h
  obtain ⟨Kq,rfl,hLq,hap⟩:=qBv e1
  rw [qaq (by rw [h2];rfl)] at h
  obtain ⟨c2,r2,e2,hc2,h⟩:=h
  rw [show (fr.map (·.kill Kq)).set d (.row Kq)=Zf (fr.map (·.kill Kq)) (some d) (.row Kq) from rfl,qfO h2 (fun a ha=>h3 a ha)] at e2
  simp only [sx,hg] at e2
  obtain ⟨r3,e3,rfl⟩:=quU hLq hf e2
  rw [qaq (by rw [h2];rfl)]
  refine ⟨c2,r3,by simp only [sx,hg];exact e3,hc2,?_⟩
  have hu:∀ q:Opd,(∀ a,i.dst=some a→a∉qaS q)→rd (Zf fr i.dst r3) q=rd fr q:=by
   intro q hq
   cases hd:i.dst with
   |none=>rfl
   |some a=>exact qau (hq a hd)
  have hap2:=hap (Zf fr i.dst r3) (hu u fun a ha hm=>h4 a ha (List.mem_append_left _ hm)) (hu v fun a ha hm=>h4 a ha (List.mem_append_right _ hm))
  rw [qhs]
  refine ⟨_,_,_,hap2,hc,?_⟩
  have hcm:=qdQ (fr:=fr.map (·.kill Kq)) (r:=.row Kq) (q:=r3.kill Kq) (d:=some d) (e:=i.dst) (fun a b ha hb=>h5 a b ha hb)
  have hmp:(Zf fr i.dst r3).map (·.kill Kq)=Zf (fr.map (·.kill Kq)) i.dst (r3.kill Kq):=by
   cases i.dst with
   |none=>rfl
   |some a=>simp only [Zf,List.map_set]
  rw [hmp]
  simp only [Zf] at hcm h ⊢
  rw [← hcm]
  exact h
 ·obtain ⟨h3,h4,h5⟩:=qbx hs
  rw [qaq (by rw [h1];rfl)] at h
  obtain ⟨c,r,e1,hc,h⟩:=h
  rw [qpA h2] at h
  obtain ⟨c2,ao,e2,hc2,h⟩:=h
  rw [qpA h2]
  have e3:=(qvX h2 h3).1 e2
  obtain ⟨n1,n2⟩:=qBO h2 e3
  refine ⟨c2,ao,e3,hc2,?_⟩
  rw [qaq (by rw [h1];rfl)]
  exact ⟨c,r,by rw [qyj n1 n2 hf];exact e1,hc,h⟩
def isS:IOper→Bool
 |⟨_,.st ..,none⟩=>true
 |⟨_,.stg ..,none⟩=>true
 |_=>false
def okIn (i:IOper):Bool:=(qaK i).isSome || (isD i).isSome || (isN i).isSome || isS i
def qb6 (ds:List Nat) (fr:List AV) (L:Objs):Prop:=∀ d∈ds,Zal d fr L
theorem qyk {d:Option Nat} {sz:Nat} {p x:Opd} {c:Prop} {fr':List AV} {L':Objs} (h:Zd d fr L (.stg sz p x)=some (c,fr',L')):fr'=fr∧∀ K:Key,fr.map (·.kill K)=fr→Zat K L=L→Zat K L'=L':=by
 simp only [Zd] at h
 split at h
 ·rename_i e1 e2
  split at h
  ·rename_i hl
   split at h
   ·cases h
    refine ⟨rfl,fun K hF hL=>qd9 hL (box_fix.2 (qc4 (box_fix.1 (qa1 hL hl)) (fun x hx=>?_)))⟩
    obtain ⟨y,hy,rfl⟩:=zG.1 hx
    have:=anyK_false.1 (ag_fix.1 (qdC hF e2)) y hy
    cases y with
    |p p=>rfl
    |row k=>exact qk9 (by simpa [Zai] using this)
    |mp k=>simpa [Zag,AV.kill,Zai] using this
   ·cases h
  ·cases h
 ·cases h
theorem qhr {i:IOper} {is js:List IOper} {K K':List AV→Objs→Prop} {ds:List Nat} (hi:okIn i=true) (hN:∀ d l,isN i=some (d,l)→d∉ds) (hF:qb6 ds fr L) (h:qaa P E Y (i :: is) fr L K) (hk:∀ fr L,qb6 ds fr L→qaa P E Y is fr L K→qaa P E Y js fr L K'):qaa P E Y (i :: js) fr L K':=by
 simp only [okIn,zU] at hi
 rcases hi with ((hr|hr)|hr)|hr
 ·rw [qaq hr] at h ⊢
  obtain ⟨c,r,e1,hc,h⟩:=h
  exact ⟨c,r,e1,hc,hk _ _ (fun d hd=>(hF d hd).set (qtg hr (hF d hd).1 (hF d hd).2 e1)) h⟩
 ·obtain ⟨⟨b,l⟩,hq⟩:=zT.1 hr
  obtain ⟨d,f,args,rfl,rfl⟩:=qo0 hq
  simp only [qaa] at h ⊢
  obtain ⟨hA,k,t,cs,post,g1,g2,g3,g4,g5,g6⟩:=h
  exact ⟨hA,k,t,cs,post,g1,g2,g3,g4,g5,fun y cs' hp=>hk _ _ (fun d hd=>(hF d hd).put rfl qjr) (g6 y cs' hp)⟩
 ·obtain ⟨⟨d,l⟩,hq⟩:=zT.1 hr
  rw [qaB hq] at h ⊢
  obtain ⟨g,c,r,ao,e1,hc,h⟩:=h
  refine ⟨g,c,r,ao,e1,hc,hk _ _ (fun e he=>?_) h⟩
  obtain ⟨f1,f2⟩:=qxN hq (fun e'=>hN d l hq (e' ▸ he)) e1
  exact (hF e he).put (e:=some d) f1 f2
 ·obtain ⟨d,op,gd⟩:=i
  cases gd with
  |some q=>cases op<;>simp [isS] at hr
  |none=>
   cases op<;>simp only [isS,z7] at hr
   all_goals
    simp only [qaa] at h ⊢
    split at h
    ·rename_i c fr' L' e1
     refine ⟨h.1,hk _ _ (fun e he=>?_) h.2⟩
     first
      |(obtain ⟨rfl,h2⟩:=qxJ e1;exact ⟨(hF e he).1,h2 _ (hF e he).1 (hF e he).2⟩)
      |(obtain ⟨rfl,h2⟩:=qyk e1;exact ⟨(hF e he).1,h2 _ (hF e he).1 (hF e he).2⟩)
    ·exact h.elim
def qus:IOper→Option Nat
 |⟨some d,.app ..,none⟩=>some d
 |_=>none
theorem qwA {i:IOper} {d:Nat} (h:qus i=some d):∃ e z b u v,i=⟨some d,.app e z b u v,none⟩:=by
 unfold qus at h
 split at h
 ·cases h;exact ⟨_,_,_,_,_,rfl⟩
 ·cases h
theorem Zal.upd {q j:Nat} {d:Nat} {a:AO} (h:Zal q fr L) (hj:j≠q) (ha:(a.kill (.l q))=a):Zal q ((fr.map (·.kill (.l j))).set d (.row (.l j))) (Zau L (.l j) a):=by
 refine ⟨?_,?_⟩
 ·rw [List.map_set,qk9 (by simpa using hj)]
  have:=h.1
  congr 1
  conv=>rhs;rw [← this]
  rw [ya,ya]
  exact zP fun x _=>AV.kill_comm _ _ x
 ·unfold Zau
  rw [qft,qjI,h.2,ha]
theorem qp9 {K j:Key} {es:List (List AV)} {e z:Nat} (h:(AO.rowv es e z).kill K=.rowv es e z):∀ x∈es.map (·.map (·.kill j)),∀ y∈x,y.kill K=y:=by
 rw [rowv_fix] at h
 intro x hx y hy
 obtain ⟨x',hx',rfl⟩:=zG.1 hx
 obtain ⟨y',hy',rfl⟩:=zG.1 hy
 rw [AV.kill_comm,h x' hx' y' hy']
theorem qxi {q d:Nat} {e z b:Nat} {u v:Opd} {c:Prop} {fr':List AV} {L':Objs} (hF:Zal q fr L) (hd:d≠q) (h:Zd (some d) fr L (.app e z b u v)=some (c,fr',L')):Zal q fr' L':=by
 have qhY:∀ {x:Opd} {c:Prop} {i:Nat},(rd fr x).un=(c,.row (.l i))→i≠q:=fun e2 hi=>by
  subst hi
  have:=qdC hF.1 e2
  simp [AV.kill] at this
 simp only [Zd] at h
 split at h
 ·rename_i e1 e2 e3
  cases e1
  split at h
  ·split at h
   ·cases h
    exact hF.upd (qhY e2) rfl
   ·cases h
  ·rename_i hl
   split at h
   ·cases h
    refine hF.upd (qhY e2) ?_
    rw [rowv_fix]
    intro x hx
    rcases zz.1 hx with hx|hx
    ·exact qp9 (qa1 hF.2 hl) x hx
    ·obtain ⟨y,_,rfl⟩:=zG.1 hx
     intro w hw
     obtain ⟨y',_,rfl⟩:=zG.1 hw
     rfl
   ·cases h
  ·cases h
 ·rename_i e1 e2 e3
  cases e1
  split at h
  ·rename_i hl hx
   split at h
   ·rename_i hl2
    split at h
    ·cases h
     refine hF.upd (qhY e2) ?_
     rw [rowv_fix]
     intro x hx
     rcases zz.1 hx with hx|hx
     ·exact qp9 (qa1 hF.2 hl) x hx
     ·exact qp9 (qa1 hF.2 hl2) x hx
    ·cases h
   ·cases h
  ·cases h
 ·rename_i e1 e2 e3
  cases e1
  split at h
  ·cases h
   exact hF.upd hd rfl
  ·cases h
 ·cases h
theorem qr5 {x i:IOper} (h:qhu x i=true):(okIn x=true∨isN i=none∧∃ d e z b u v,x=⟨some d,.app e z b u v,none⟩)∧∀ d l,isN x=some (d,l)→∀ e l',isN i=some (e,l')→d≠e:=by
 have pure:∀ {q:IOper} {l},qaK q=some l→isN q=none:=by
  intro q l hq
  cases hn:isN q with
  |none=>rfl
  |some p=>
   obtain ⟨d,l'⟩:=p
   rcases qmp hn with ⟨t,zero,rfl,_⟩|⟨e,z,parts,rfl,_⟩|⟨n,f,args,e,z,rfl,_⟩<;>simp [qaK,qcq] at hq
 have sep:∀ {rx ri},sepI x i rx ri=true→∀ d l,isN x=some (d,l)→∀ e l',isN i=some (e,l')→d≠e:=fun hs d l h1 e l' h2=>(qbx hs).2.2 d e (qg2 h1) (qg2 h2)
 rcases qlF h with ⟨rx,ri,h1,h2,hs⟩|⟨rx,b,d,f,args,h1,rfl,hf,hs⟩|⟨ri,b,d,f,args,h2,rfl,hf,hs⟩|⟨rx,d,ri,h1,h2,hf,hs⟩|⟨d,rx,ri,h1,h2,hf,hs⟩|⟨d,rx,e,ri,h1,h2,hs⟩|⟨d,rx,e,f,args,h1,rfl,hs⟩|⟨d,f,args,e,ri,rfl,h2,hs⟩|⟨rx,sz,p,y,h1,rfl,hf,hs⟩|⟨ri,sz,p,y,h2,rfl,hf,hs⟩|⟨ri,d,e,z,b,u,v,h2,rfl,hf,hg,hs⟩|⟨rx,n,ri,h1,h2,hf,hs⟩
 ·exact ⟨.inl (by simp [okIn,h1]),sep hs⟩
 ·exact ⟨.inl (by simp [okIn,h1]),sep hs⟩
 ·exact ⟨.inl (by simp [okIn,isD]),sep hs⟩
 ·exact ⟨.inl (by simp [okIn,h1]),sep hs⟩
 ·exact ⟨.inl (by simp [okIn,h1]),sep hs⟩
 ·exact ⟨.inl (by simp [okIn,h1]),sep hs⟩
 ·exact ⟨.inl (by simp [okIn,h1]),sep hs⟩
 ·exact ⟨.inl (by simp [okIn,isD]),sep hs⟩
 ·exact ⟨.inl (by simp [okIn,h1]),sep hs⟩
 ·exact ⟨.inl (by simp [okIn,isS]),sep hs⟩
 ·exact ⟨.inr ⟨pure h2,_,_,_,_,_,_,rfl⟩,sep hs⟩
 ·exact ⟨.inl (by simp [okIn,h1]),sep hs⟩
def qas (is:List IOper):List Nat:=is.filterMap fun i=>(isN i).map (·.1)
def okBy (ns:List Nat) (i:IOper):Bool:=okIn i || (match qus i with|some d=>!ns.contains d|none=>false)
theorem qoM {ns:List Nat} {i:IOper} (h:okBy ns i=true):okIn i=true∨∃ d,qus i=some d∧d∉ns:=by
 unfold okBy at h
 rcases Bool.or_eq_true_iff.1 h with h|h
 ·exact .inl h
 ·split at h
  ·rename_i d e
   exact .inr ⟨d,e,by simpa using h⟩
  ·cases h
theorem qkg {i:IOper} {is js:List IOper} {K K':List AV→Objs→Prop} {d:Nat} {ds:List Nat} (hi:qus i=some d) (hN:d∉ds) (hF:qb6 ds fr L) (h:qaa P E Y (i :: is) fr L K) (hk:∀ fr L,qb6 ds fr L→qaa P E Y is fr L K→qaa P E Y js fr L K'):qaa P E Y (i :: js) fr L K':=by
 obtain ⟨e,z,b,u,v,rfl⟩:=qwA hi
 rw [qhs] at h ⊢
 obtain ⟨c,fr',L',e1,hc,h⟩:=h
 exact ⟨c,fr',L',e1,hc,hk _ _ (fun q hq=>qxi (hF q hq) (fun e'=>hN (by rw [e'];exact hq)) e1) h⟩
theorem qoN {i:IOper} {post:List IOper} {K:List AV→Objs→Prop}:∀ (pre:List IOper) (fr:List AV) (L:Objs),(∀ x∈pre,qhu x i=true)→qb6 (qas [i]) fr L→qaa P E Y (pre++i :: post) fr L K→qaa P E Y (i :: (pre++post)) fr L K:=by
 intro pre
 induction pre with
 |nil=>intro fr L _ _ h;exact h
 |cons x pre ih=>
  intro fr L ha hF h
  have hx:=ha x (by simp)
  obtain ⟨h1,h2⟩:=qr5 hx
  have hN:∀ d l,isN i=some (d,l)→Zal d fr L:=fun d l hd=>hF d (by simp [qas,hd])
  rcases h1 with h1|⟨hni,d,e,z,b,u,v,rfl⟩
  rotate_left
  ·refine qnI hx hN ?_
   rw [yi,qhs] at h
   obtain ⟨c,fr',L',e1,hc,h⟩:=h
   rw [qhs]
   exact ⟨c,fr',L',e1,hc,ih _ _ (fun y hy=>ha y (by simp [hy])) (fun d hd=>by simp [qas,hni] at hd) h⟩
  have h':qaa P E Y (x :: i :: (pre++post)) fr L K:=qhr h1 (fun d l hd hm=>by
   cases hq:isN i with
   |none=>simp [qas,hq] at hm
   |some q=>obtain ⟨e,l'⟩:=q;simp [qas,hq] at hm;exact h2 d l hd e l' hq hm) hF h (fun fr L hF h=>ih fr L (fun y hy=>ha y (by simp [hy])) hF h)
  exact qnI hx hN h'
def qgv (o:Oper):List Nat:=(o.after.toList.filter fun e=>Region.binds .any e).map (·.on)
def ancB (ops:Array Oper):Nat→Nat→Nat→Bool
 |0,_,_=>false
 |n+1,i,j=>match ops[i]? with
  |some o=>(qgv o).any fun e=>e == j || ancB ops n e j
  |none=>false
def qna (ops:Array Oper) (n:Nat) (i:Nat) (ii:IOper):List (Nat×IOper)→Bool
 |[]=>true
 |(j,jj) :: r=>(qhu jj ii || ancB ops n i j) && qna ops n i ii r
def qqL (ops:Array Oper) (n:Nat):List (Nat×IOper)→List (Nat×IOper)→Bool
 |_,[]=>true
 |seen,(i,ii) :: r=>qna ops n i ii seen && qqL ops n (seen++[(i,ii)]) r
def qbO:List IOper→List Nat
 |[]=>[]
 |i :: is=>if isFz i then (match i.op with|.hole d=>d :: qbO is|_=>qbO is) else []
def qmg (hs:List Nat) (js:List IOper):Bool:=
 (qas js).isEmpty || (js.all (okBy (qas js)) && decide (qas js).Nodup && (qas js).all fun d=>hs.contains d)
def qqj (ops:Array Oper) (pm:List Nat) (is:List IOper):Bool:=
 let js:=qfH is
 is.all (fun i=>!isRe i) && qmg (qbO is) js && decide pm.Nodup && pm.length == ops.size && (zA ops.size).all (fun k=>pm.contains k) && qqL ops ops.size [] (pm.zip js) &&
 (zA pm.length).all fun k=>match ops[pm.getD k 0]? with|some o=>(qgv o).all fun e=>(pm.take k).contains e|none=>false
def okT (ts:List Nat) (i:IOper):Bool:=
 match i with
 |⟨some d,.alcd _ _,none⟩=>ts.contains d
 |⟨none,.st _ (.t d) x,none⟩=>ts.contains d && (qaS x).all fun s=>!ts.contains s
 |i=>match qaK i with
  |some l=>qkm i.op && l.all (fun s=>!ts.contains s) && (match i.dst with|some d=>!ts.contains d|none=>true)
  |none=>false
def qwQ (s y:IOper):Bool:=
 match s with
 |⟨none,.st _ (.t d) v,none⟩=>match y with
  |⟨none,.st _ (.t e) _,none⟩=>d != e
  |y=>match y.dst with|some q=>q != d && !(qaS v).contains q|none=>true
 |_=>false
def qlE (x i:IOper):Bool:=qhu x i || qwQ x i || qwQ i x
def qrA (ops:Array Oper) (n:Nat) (i:Nat) (ii:IOper):List (Nat×IOper)→Bool
 |[]=>true
 |(j,jj) :: r=>(qlE jj ii || ancB ops n i j) && qrA ops n i ii r
def allT (ops:Array Oper) (n:Nat):List (Nat×IOper)→List (Nat×IOper)→Bool
 |_,[]=>true
 |seen,(i,ii) :: r=>qrA ops n i ii seen && allT ops n (seen++[(i,ii)]) r
def qqi (ops:Array Oper) (is:List IOper):Bool:=
 let js:=qfH is
 is.all (fun i=>!isRe i) && (qas js).all (fun d=>(qbO is).contains d) && js.all (okT (qas js)) &&
 js.all (fun i=>!isFz i) && js.length == ops.size && allT ops ops.size [] ((zA js.length).zip js) &&
 (zA ops.size).all fun i=>match ops[i]? with|some o=>(qgv o).all fun e=>decide (e < i)|none=>true
def qt3 (ops:Array Oper) (is:List IOper):Bool:=
 let js:=qfH is
 is.all (fun i=>!isRe i) && qmg (qbO is) js &&
 js.all (fun i=>!isFz i) && js.length == ops.size && qqL ops ops.size [] ((zA js.length).zip js) &&
 (zA ops.size).all fun i=>match ops[i]? with|some o=>(qgv o).all fun e=>decide (e < i)|none=>true
def qoL (ops:Array Oper) (pm:Option (List Nat)) (is:List IOper):Bool:=
 match pm with
 |none=>qt3 ops is || qqi ops is
 |some pm=>qqj ops pm is
end
section
variable {P:Program} {E:Envt} {Y:List PV} {fr:List AV} {L:Objs}
def InvT (d:Nat) (fr:List AV) (L:Objs):Prop:=(fr.set d .any).map (·.kill (.l d))=fr.set d .any∧Zat (.l d) L=L∧(fr.getD d .any=.any∨fr.getD d .any=.adr (.l d) 0)
def InvA (ts:List Nat) (fr:List AV) (L:Objs):Prop:=∀ d∈ts,InvT d fr L
theorem qeF {ts:List Nat} {i:IOper} (h:okT ts i=true):(∃ d t z,i=⟨some d,.alcd t z,none⟩∧d∈ts)∨(∃ sz d x,i=⟨none,.st sz (.t d) x,none⟩∧d∈ts∧∀ s∈qaS x,s∉ts)∨(∃ l,qaK i=some l∧qkm i.op=true∧(∀ s∈l,s∉ts)∧∀ d,i.dst=some d→d∉ts):=by
 unfold okT at h
 split at h
 ·exact .inl ⟨_,_,_,rfl,by simpa using h⟩
 ·rw [zj,yo] at h
  exact .inr (.inl ⟨_,_,_,rfl,by simpa using h.1,fun s hs=>by simpa using h.2 s hs⟩)
 ·split at h
  ·rename_i l hl
   rw [zj,zj,yo] at h
   refine .inr (.inr ⟨l,hl,h.1.1,fun s hs=>by simpa using h.1.2 s hs,fun d hd=>?_⟩)
   have:=h.2
   rw [hd] at this
   simpa using this
  ·cases h
theorem qth {i:IOper} {l:List Nat} {d:Nat} (h:qaK i=some l) (hd:d∉l):sx P E Y (fr.set d .any) L i=sx P E Y fr L i:=qfO (d:=some d) h fun e he=>by cases he;exact hd
theorem qte {i:IOper} {l:List Nat} {d:Nat} {a:AO} (h:qaK i=some l) (hf:qkm i.op=true) (hd:d∉l) (hI:InvT d fr L):sx P E Y fr (Zas L (.l d) a) i=sx P E Y fr L i:=by
 rw [← qth h hd,qp2 hf (by rw [h];rfl) hI.1,qth h hd]
theorem qlq {d:Nat} {e:Option Nat} {r:AV} (h:∀ q,e=some q→q≠d):(Zf fr e r).getD d .any=fr.getD d .any:=by
 cases e with
 |none=>rfl
 |some q=>simp only [Zf,zu];rw [yp (h q rfl)]
theorem qv1 {d:Nat} {e:Option Nat} {r q:AV} (h:∀ q,e=some q→q≠d):(Zf fr e r).set d q=Zf (fr.set d q) e r:=by
 cases e with
 |none=>rfl
 |some k=>simp only [Zf];exact List.set_comm _ _ (h k rfl)
theorem InvT.setD {d:Nat} {e:Option Nat} {r:AV} (hI:InvT d fr L) (he:∀ q,e=some q→q≠d) (hr:r.kill (.l d)=r):InvT d (Zf fr e r) L:=
 ⟨by rw [qv1 he];exact qp5 hI.1 hr,hI.2.1,by rw [qlq he];exact hI.2.2⟩
theorem qBc {ts:List Nat} {i:IOper} {l:List Nat} {c:Prop} {r:AV} (h:qaK i=some l) (hl:∀ s∈l,s∉ts) (hd:∀ d,i.dst=some d→d∉ts) (hI:InvA ts fr L) (hs:sx P E Y fr L i=some (c,r)):InvA ts (Zf fr i.dst r) L:=fun d hm=>
 (hI d hm).setD (fun q hq e=>hd q hq (e ▸ hm)) (qtg (by rw [h];rfl) (hI d hm).1 (hI d hm).2.1 (by rw [qth h (fun hc=>hl d hc hm)];exact hs))
theorem InvT.put {d:Nat} {k:Key} {a:AO} (hI:InvT d fr L) (ha:a.kill (.l d)=a):InvT d fr (Zas L k a):=⟨hI.1,qd9 hI.2.1 ha,hI.2.2⟩
theorem qwB {ts:List Nat} {e:Nat} {t:TypeId} {zero:List PV} (hI:InvA ts fr L):InvA ts (fr.set e (.adr (.l e) 0)) (Zas L (.l e) (.box (zero.map .p) t)):=by
 intro d hm
 by_cases he:e=d
 ·subst he
  refine ⟨by rw [List.set_set];exact (hI e hm).1,qd9 (hI e hm).2.1 qjr,?_⟩
  by_cases hl:e < fr.length
  ·right;simp [zu,hl]
  ·left;simp [zu,zO,hl]
 ·have:=((hI d hm).put (k:=.l e) (a:=.box (zero.map .p) t) qjr).setD (e:=some e) (r:=.adr (.l e) 0) (fun q hq=>by cases hq;exact he) (by simp [AV.kill,he])
  exact this
theorem st_t {sz e:Nat} {x:Opd} {c:Prop} {L':Objs} (hI:InvT e fr L) (hx:e∉qaS x) (h:stx fr L sz (.t e) x=some (c,L')) :
  ∃ cs bt vals,Zar L (.l e)=some (.box cs bt)∧L'=Zas L (.l e) (.box (Zab cs 0 vals) bt)∧(∀ d,(fr.set d .any).map (·.kill (.l d))=fr.set d .any→d∉qaS x→∀ v∈vals,v.kill (.l d)=v)∧
   ∀ L2,Zar L2 (.l e)=Zar L (.l e)→(∀ k kv a b,Zar L k=some (.map kv a b)→Zar L2 k=some (.map kv a b))→stx fr L2 sz (.t e) x=some (c,Zas L2 (.l e) (.box (Zab cs 0 vals) bt)):=by
 rcases hI.2.2 with h0|h0
 ·have hp:(rd fr (.t e)).un=(True,.any):=by simp only [rd,h0];rfl
  simp [stx,Zd,hp] at h
 have hp:(rd fr (.t e)).un=(True,.adr (.l e) 0):=by simp only [rd,h0];rfl
 simp only [stx,Zd,hp] at h ⊢
 have hk:∀ d,(fr.set d .any).map (·.kill (.l d))=fr.set d .any→d∉qaS x→(rd fr x).un.2.kill (.l d)=(rd fr x).un.2:=by
  intro d h1 h2
  rw [← qau (r:=.any) h2]
  exact qdC h1 (c:=(rd (fr.set d .any) x).un.1) rfl
 generalize hv:(rd fr x).un=q at h hk ⊢
 obtain ⟨cx,v⟩:=q
 simp only at hk
 cases v with
 |p v=>
  simp only at h ⊢
  split at h
  ·rename_i cs bt hl
   split at h
   ·rename_i hc
    simp only [zN,zh,zl] at h
    obtain ⟨rfl,rfl⟩:=h
    refine ⟨cs,bt,(Zy v).map .p,hl,rfl,fun d _ _ y hy=>by obtain ⟨z,_,rfl⟩:=zG.1 hy;rfl,fun L2 h2 _=>?_⟩
    rw [h2,hl]
    simp only [if_pos hc,zN]
   ·cases h
  ·cases h
 |row k=>
  simp only at h ⊢
  split at h
  ·rename_i cs bt hl
   split at h
   ·rename_i hc
    simp only [zN,zh,zl] at h
    obtain ⟨rfl,rfl⟩:=h
    refine ⟨cs,bt,[.row k],hl,rfl,fun d h1 h2 y hy=>by rw [zy] at hy;subst hy;exact hk d h1 h2,fun L2 h2 _=>?_⟩
    rw [h2,hl]
    simp only [if_pos hc,zN]
   ·cases h
  ·cases h
 |mp k=>
  simp only at h ⊢
  split at h
  ·rename_i cs bt kv ta tb hl hm
   split at h
   ·rename_i hc
    simp only [zN,zh,zl] at h
    obtain ⟨rfl,rfl⟩:=h
    refine ⟨cs,bt,[.mp k],hl,rfl,fun d h1 h2 y hy=>by rw [zy] at hy;subst hy;exact hk d h1 h2,fun L2 h2 h3=>?_⟩
    rw [h2,hl,h3 k _ _ _ hm]
    simp only [if_pos hc,zN]
   ·cases h
  ·cases h
 |fn f ks=>
  cases ks with
  |cons _ _=>simp at h
  |nil=>
   simp only at h ⊢
   split at h
   ·rename_i cs bt hl
    split at h
    ·rename_i hc
     simp only [zN,zh,zl] at h
     obtain ⟨rfl,rfl⟩:=h
     refine ⟨cs,bt,[.p (.clo f [])],hl,rfl,fun d _ _ y hy=>by rw [zy] at hy;subst hy;rfl,fun L2 h2 _=>?_⟩
     rw [h2,hl]
     simp only [if_pos hc,zN]
    ·cases h
   ·cases h
 |_=>simp at h
theorem qxU {ts:List Nat} {sz e:Nat} {x:Opd} {c:Prop} {L':Objs} (hI:InvA ts fr L) (he:e∈ts) (hx:∀ s∈qaS x,s∉ts) (h:stx fr L sz (.t e) x=some (c,L')):InvA ts fr L':=by
 intro d hm
 obtain ⟨cs,bt,vals,h1,rfl,h3,_⟩:=st_t (hI e he) (fun hc=>hx e hc he) h
 refine (hI d hm).put (box_fix.2 (qc4 (box_fix.1 (qa1 (hI d hm).2.1 h1)) ?_))
 exact h3 d (hI d hm).1 fun hc=>hx d hc hm
theorem qt6 {k:Key} {a:AO} (hk:∀ kv x y,Zar L k≠some (.map kv x y)):∀ k' kv x y,Zar L k'=some (.map kv x y)→Zar (Zas L k a) k'=some (.map kv x y):=by
 intro k' kv x y h
 by_cases e:k'=k
 ·subst e
  exact absurd h (hk kv x y)
 ·rw [qad,if_neg e]
  exact h
theorem qoO {k:Key} {a:AO} (hk:∀ kv x y,a≠.map kv x y):∀ k' kv x y,Zar (Zas L k a) k'=some (.map kv x y)→Zar L k'=some (.map kv x y):=by
 intro k' kv x y h
 rw [qad] at h
 split at h
 ·exact absurd (Option.some.inj h) (hk kv x y)
 ·exact h
theorem qqx {d:Nat} {fr':List AV} {L':Objs} (hI:InvT d fr L) (hg:fr'.getD d .any=fr.getD d .any) (hF:Zal d fr' L'):Zal d fr L:=by
 refine ⟨?_,hI.2.1⟩
 rcases hI.2.2 with h|h
 ·have:fr.set d .any=fr:=by
   apply List.ext_getElem
   ·simp
   ·intro i h1 h2
    rw [List.getElem_set]
    split
    ·rename_i e
     subst e
     simpa [zu,zg h2] using h.symm
    ·rfl
  rw [← this]
  exact hI.1
 ·exfalso
  rw [h] at hg
  have hl:d < fr'.length:=by
   by_cases hl:d < fr'.length
   ·exact hl
   ·rw [zu,zO (by omega)] at hg
    cases hg
  have hm:AV.adr (.l d) 0∈fr':=by
   rw [zu,zg hl] at hg
   simp only [Option.getD_some] at hg
   rw [← hg]
   exact List.getElem_mem hl
  have:=qni hF.1 _ hm
  simp [AV.kill] at this
theorem qwp {ts:List Nat} {i:IOper} {d:Nat} {l:List Nat} (h:okT ts i=true) (hn:isN i=some (d,l)):d∈ts∧l=[]∧∃ t z,i=⟨some d,.alcd t z,none⟩:=by
 rcases qeF h with ⟨d',t,z,rfl,hm⟩|⟨sz,d',x,rfl,_,_⟩|⟨l',hl,_⟩
 ·simp only [isN,zh,zl] at hn
  obtain ⟨rfl,rfl⟩:=hn
  exact ⟨hm,rfl,t,z,rfl⟩
 ·simp [isN] at hn
 ·exfalso
  rcases qmp hn with ⟨t,zero,rfl,_⟩|⟨e,z,parts,rfl,_⟩|⟨n,f,args,e,z,rfl,_⟩<;>simp [qaK,qcq] at hl
variable {is:List IOper} {K:List AV→Objs→Prop}
theorem qkc {ts:List Nat} {sz d:Nat} {v:Opd} {y:IOper} {l:List Nat} (hI:InvA ts fr L) (hd:d∈ts) (hv:∀ s∈qaS v,s∉ts) (hl:qaK y=some l) (hf:qkm y.op=true) (hr:∀ s∈l,s∉ts) (hy:∀ q,y.dst=some q→q≠d∧q∉qaS v) :
  qaa P E Y (⟨none,.st sz (.t d) v,none⟩ :: y :: is) fr L K↔qaa P E Y (y :: ⟨none,.st sz (.t d) v,none⟩ :: is) fr L K:=by
 have hs:∀ r,stx (Zf fr y.dst r) L sz (.t d) v=stx fr L sz (.t d) v:=fun r=>qiN fun e he=>by
  obtain ⟨h1,h2⟩:=hy e he
  simp only [qaS,zz,zy,not_or]
  exact ⟨h1,h2⟩
 have hsx:(qaK y).isSome=true:=by rw [hl];rfl
 constructor
 ·intro h
  rw [qaM] at h
  obtain ⟨c,L',e1,hc,h⟩:=h
  rw [qaq hsx] at h
  obtain ⟨c2,r,e2,hc2,h⟩:=h
  obtain ⟨cs,bt,vals,h1,rfl,_,_⟩:=st_t (hI d hd) (fun q=>hv d q hd) e1
  rw [qte hl hf (fun q=>hr d q hd) (hI d hd)] at e2
  rw [qaq hsx]
  refine ⟨c2,r,e2,hc2,?_⟩
  rw [qaM]
  exact ⟨c,_,by rw [hs];exact e1,hc,h⟩
 ·intro h
  rw [qaq hsx] at h
  obtain ⟨c2,r,e2,hc2,h⟩:=h
  rw [qaM] at h
  obtain ⟨c,L',e1,hc,h⟩:=h
  rw [hs] at e1
  rw [qaM]
  refine ⟨c,L',e1,hc,?_⟩
  obtain ⟨cs,bt,vals,h1,rfl,_,_⟩:=st_t (hI d hd) (fun q=>hv d q hd) e1
  rw [qaq hsx]
  exact ⟨c2,r,by rw [qte hl hf (fun q=>hr d q hd) (hI d hd)];exact e2,hc2,h⟩
theorem qkd {ts:List Nat} {sz d:Nat} {v:Opd} {sz2 e:Nat} {u:Opd} (hI:InvA ts fr L) (hd:d∈ts) (he:e∈ts) (hde:d≠e) (hv:∀ s∈qaS v,s∉ts) (hu:∀ s∈qaS u,s∉ts) (h:qaa P E Y (⟨none,.st sz (.t d) v,none⟩ :: ⟨none,.st sz2 (.t e) u,none⟩ :: is) fr L K) :
  qaa P E Y (⟨none,.st sz2 (.t e) u,none⟩ :: ⟨none,.st sz (.t d) v,none⟩ :: is) fr L K:=by
 have hk:Key.l d≠Key.l e:=by simpa using hde
 rw [qaM] at h
 obtain ⟨c,L1,e1,hc,h⟩:=h
 have hI1:=qxU hI hd hv e1
 obtain ⟨cs,bt,vals,h1,rfl,_,h4⟩:=st_t (hI d hd) (fun q=>hv d q hd) e1
 rw [qaM] at h
 obtain ⟨c2,L2,e2,hc2,h⟩:=h
 obtain ⟨cs2,bt2,vals2,g1,rfl,_,g4⟩:=st_t (hI1 e he) (fun q=>hu e q he) e2
 have hle:Zar L (.l e)=Zar (Zas L (.l d) (.box (Zab cs 0 vals) bt)) (.l e):=by rw [qad,if_neg (Ne.symm hk)]
 have hle2:Zar L (.l e)=some (.box cs2 bt2):=by rw [hle];exact g1
 rw [qaM]
 refine ⟨c2,_,g4 L hle (qoO (fun _ _ _=>by simp)),hc2,?_⟩
 rw [qaM]
 refine ⟨c,_,h4 _ (by rw [qad,if_neg hk]) (qt6 (fun kv x y q=>by rw [hle2] at q;cases q)),hc,?_⟩
 rw [qeE _ _ (Ne.symm hk) (by rw [hle2];rfl) (by rw [h1];rfl)]
 exact h
theorem qpm {ts:List Nat} {sz d e:Nat} {v:Opd} {t:TypeId} {z:List PV} (hI:InvA ts fr L) (hd:d∈ts) (he:e∈ts) (hde:e≠d) (hv:∀ s∈qaS v,s∉ts) (h:qaa P E Y (⟨some e,.alcd t z,none⟩ :: ⟨none,.st sz (.t d) v,none⟩ :: is) fr L K) :
  qaa P E Y (⟨none,.st sz (.t d) v,none⟩ :: ⟨some e,.alcd t z,none⟩ :: is) fr L K:=by
 have hk:Key.l e≠Key.l d:=by simpa using hde
 have hn:isN ⟨some e,.alcd t z,none⟩=some (e,[]):=rfl
 rw [qaB hn] at h
 obtain ⟨⟨hF,hh⟩,c1,r,ao,e1,hc1,h⟩:=h
 have e1':=e1
 simp only [nx,zh,zl] at e1
 obtain ⟨rfl,rfl,rfl⟩:=e1
 rw [qaM] at h
 obtain ⟨c,L',e2,hc,h⟩:=h
 have hs:stx (fr.set e (.adr (.l e) 0)) (Zas L (.l e) (.box (z.map .p) t)) sz (.t d) v=stx fr (Zas L (.l e) (.box (z.map .p) t)) sz (.t d) v:=qiN (d:=some e) fun q hq=>by
  cases hq
  simp only [qaS,zz,zy,not_or]
  exact ⟨hde,fun q=>hv e q he⟩
 rw [hs] at e2
 have hI1:InvT d fr (Zas L (.l e) (.box (z.map .p) t)):=(hI d hd).put qjr
 obtain ⟨cs,bt,vals,h1,rfl,h3,h4⟩:=st_t hI1 (fun q=>hv d q hd) e2
 have hld:Zar L (.l d)=some (.box cs bt):=by rw [qad,if_neg (Ne.symm hk)] at h1;exact h1
 rw [qaM]
 refine ⟨c,_,h4 L (by rw [hld,h1]) (qoO (fun _ _ _=>by simp)),hc,?_⟩
 rw [qaB hn]
 refine ⟨⟨⟨hF.1,qd9 hF.2 (box_fix.2 (qc4 (box_fix.1 (qa1 hF.2 hld)) (h3 e (qn0 hF.1 e) (fun q=>hv e q he))))⟩,by rw [qad,if_neg hk];exact hh⟩,_,_,_,e1',trivial,?_⟩
 rw [qeE _ _ (Ne.symm hk) (by rw [hld];rfl) (by rw [hh];rfl)]
 exact h
theorem qpl {ts:List Nat} {sz d e:Nat} {v:Opd} {t:TypeId} {z:List PV} (hI:InvA ts fr L) (hd:d∈ts) (he:e∈ts) (hde:e≠d) (hv:∀ s∈qaS v,s∉ts) (h:qaa P E Y (⟨none,.st sz (.t d) v,none⟩ :: ⟨some e,.alcd t z,none⟩ :: is) fr L K) :
  qaa P E Y (⟨some e,.alcd t z,none⟩ :: ⟨none,.st sz (.t d) v,none⟩ :: is) fr L K:=by
 have hk:Key.l e≠Key.l d:=by simpa using hde
 have hn:isN ⟨some e,.alcd t z,none⟩=some (e,[]):=rfl
 rw [qaM] at h
 obtain ⟨c,L',e2,hc,h⟩:=h
 obtain ⟨cs,bt,vals,h1,rfl,h3,h4⟩:=st_t (hI d hd) (fun q=>hv d q hd) e2
 rw [qaB hn] at h
 obtain ⟨⟨hF,hh⟩,c1,r,ao,e1,hc1,h⟩:=h
 have e1':=e1
 simp only [nx,zh,zl] at e1
 obtain ⟨rfl,rfl,rfl⟩:=e1
 have hhL:Zar L (.l e)=some Zam:=by rw [qad,if_neg hk] at hh;exact hh
 rw [qaB hn]
 refine ⟨⟨⟨hF.1,(hI e he).2.1⟩,hhL⟩,_,_,_,e1',trivial,?_⟩
 rw [qaM]
 have hs:stx (fr.set e (.adr (.l e) 0)) (Zas L (.l e) (.box (z.map .p) t)) sz (.t d) v=stx fr (Zas L (.l e) (.box (z.map .p) t)) sz (.t d) v:=qiN (d:=some e) fun q hq=>by
  cases hq
  simp only [qaS,zz,zy,not_or]
  exact ⟨hde,fun q=>hv e q he⟩
 refine ⟨c,_,by rw [hs];exact h4 _ (by rw [qad,if_neg (Ne.symm hk)]) (qt6 (fun kv x y q=>by rw [hhL] at q;cases q)),hc,?_⟩
 rw [qeE _ _ hk (by rw [hhL];rfl) (by rw [h1];rfl)]
 exact h
theorem qBm {ts:List Nat} {i:IOper} {js:List IOper} {K':List AV→Objs→Prop} (hi:okT ts i=true) (hI:InvA ts fr L) (h:qaa P E Y (i :: is) fr L K) (hk:∀ fr L,InvA ts fr L→qaa P E Y is fr L K→qaa P E Y js fr L K'):qaa P E Y (i :: js) fr L K':=by
 rcases qeF hi with ⟨d,t,z,rfl,hm⟩|⟨sz,d,x,rfl,hd,hv⟩|⟨l,hl,hf,hr,hy⟩
 ·have hn:isN ⟨some d,.alcd t z,none⟩=some (d,[]):=rfl
  rw [qaB hn] at h ⊢
  obtain ⟨h1,c1,r,ao,e1,hc1,h⟩:=h
  have e1':=e1
  simp only [nx,zh,zl] at e1
  obtain ⟨rfl,rfl,rfl⟩:=e1
  exact ⟨h1,_,_,_,e1',trivial,hk _ _ (qwB hI) h⟩
 ·rw [qaM] at h ⊢
  obtain ⟨c,L',e2,hc,h⟩:=h
  exact ⟨c,L',e2,hc,hk _ _ (qxU hI hd hv e2) h⟩
 ·have hsx:(qaK i).isSome=true:=by rw [hl];rfl
  rw [qaq hsx] at h ⊢
  obtain ⟨c,r,e1,hc,h⟩:=h
  exact ⟨c,r,e1,hc,hk _ _ (qBc hl hr hy hI e1) h⟩
theorem qmt {s y:IOper} (h:qwQ s y=true):∃ sz d v,s=⟨none,.st sz (.t d) v,none⟩∧((∃ sz2 e u,y=⟨none,.st sz2 (.t e) u,none⟩∧d≠e)∨((∀ sz2 e u,y≠⟨none,.st sz2 (.t e) u,none⟩)∧∀ q,y.dst=some q→q≠d∧q∉qaS v)):=by
 unfold qwQ at h
 split at h
 ·refine ⟨_,_,_,rfl,?_⟩
  split at h
  ·exact .inl ⟨_,_,_,rfl,by simpa using h⟩
  ·rename_i hne
   refine .inr ⟨fun sz2 e u q=>hne sz2 e u q,fun q hq=>?_⟩
   rw [hq] at h
   simpa using h
 ·cases h
theorem qw0 {ts:List Nat} {x i:IOper} (hx:okT ts x=true) (hi:okT ts i=true) (ha:qlE x i=true) (hI:InvA ts fr L) (h:qaa P E Y (x :: i :: is) fr L K):qaa P E Y (i :: x :: is) fr L K:=by
 unfold qlE at ha
 rw [zU,zU] at ha
 rcases ha with (ha|ha)|ha
 ·refine qnI ha (fun d l hn=>?_) h
  obtain ⟨hm,rfl,t,z,rfl⟩:=qwp hi hn
  have hsep:=(qr5 ha).2
  rcases qeF hx with ⟨d',t',z',rfl,hm'⟩|⟨sz,d',v,rfl,_,_⟩|⟨l',hl,hf,hr,hy⟩
  ·have hne:=hsep d' [] rfl d [] hn
   rw [qaB (d:=d') (l:=[]) rfl] at h
   obtain ⟨_,c1,r,ao,_,_,h⟩:=h
   rw [qaB hn] at h
   exact qqx (hI d hm) (qlq (e:=some d') (fun q hq=>by cases hq;exact hne)) h.1.1
  ·rw [qaM] at h
   obtain ⟨c,L',_,_,h⟩:=h
   rw [qaB hn] at h
   exact qqx (hI d hm) rfl h.1.1
  ·rw [qaq (by rw [hl];rfl)] at h
   obtain ⟨c,r,_,_,h⟩:=h
   rw [qaB hn] at h
   exact qqx (hI d hm) (qlq (fun q hq e=>hy q hq (e ▸ hm))) h.1.1
 ·obtain ⟨sz,d,v,rfl,h2⟩:=qmt ha
  rcases qeF hx with ⟨_,_,_,e,_⟩|⟨_,_,_,e,hd,hv⟩|⟨l',hl,_⟩
  ·cases e
  ·cases e
   rcases qeF hi with ⟨e',t',z',rfl,hm'⟩|⟨sz2,e',u,rfl,he,hu⟩|⟨l,hl,hf,hr,hy⟩
   ·rcases h2 with ⟨_,_,_,q,_⟩|⟨_,h2⟩
    ·cases q
    ·exact qpl hI hd hm' (h2 e' rfl).1 hv h
   ·rcases h2 with ⟨_,_,_,q,hne⟩|⟨hn,_⟩
    ·cases q
     exact qkd hI hd he hne hv hu h
    ·exact absurd rfl (hn _ _ _)
   ·rcases h2 with ⟨_,_,_,rfl,_⟩|⟨_,h2⟩
    ·simp [qaK,qcq] at hl
    ·exact (qkc hI hd hv hl hf hr h2).1 h
  ·simp [qaK,qcq] at hl
 ·obtain ⟨sz,d,v,rfl,h2⟩:=qmt ha
  rcases qeF hi with ⟨_,_,_,e,_⟩|⟨_,_,_,e,hd,hv⟩|⟨l',hl,_⟩
  ·cases e
  ·cases e
   rcases qeF hx with ⟨e',t',z',rfl,hm'⟩|⟨sz2,e',u,rfl,he,hu⟩|⟨l,hl,hf,hr,hy⟩
   ·rcases h2 with ⟨_,_,_,q,_⟩|⟨_,h2⟩
    ·cases q
    ·exact qpm hI hd hm' (h2 e' rfl).1 hv h
   ·rcases h2 with ⟨_,_,_,q,hne⟩|⟨hn,_⟩
    ·cases q
     exact qkd hI he hd (Ne.symm hne) hu hv h
    ·exact absurd rfl (hn _ _ _)
   ·rcases h2 with ⟨_,_,_,rfl,_⟩|⟨_,h2⟩
    ·simp [qaK,qcq] at hl
    ·exact (qkc hI hd hv hl hf hr h2).2 h
  ·simp [qaK,qcq] at hl
theorem qsu {ts:List Nat} {i:IOper} {post:List IOper} (hi:okT ts i=true):∀ (pre:List IOper) (fr:List AV) (L:Objs),(∀ x∈pre,okT ts x=true∧qlE x i=true)→InvA ts fr L→qaa P E Y (pre++i :: post) fr L K→qaa P E Y (i :: (pre++post)) fr L K:=by
 intro pre
 induction pre with
 |nil=>intro fr L _ _ h;exact h
 |cons x pre ih=>
  intro fr L ha hI h
  obtain ⟨h1,h2⟩:=ha x (by simp)
  exact qw0 h1 hi h2 hI (qBm h1 hI h fun fr L hI h=>ih fr L (fun y hy=>ha y (by simp [hy])) hI h)
end
section
variable {P:Program} {E:Envt} {Y:List PV} {B:Base}
theorem qmv {ops:Array Oper}:∀ {js:List IOper} {os:List Oper},qeL P ops os js=true→(∀ i∈js,isFz i=false)→js.length=os.length∧∀ (k:Nat) (i:IOper),js[k]?=some i→∃ o,os[k]?=some o∧qgi P ops o i=true:=by
 intro js
 induction js with
 |nil=>intro os h _;simp only [qeL,List.isEmpty_iff] at h;subst h;simp
 |cons i js ih=>
  intro os h hf
  simp only [qeL] at h
  rw [if_neg (by simp [hf i (by simp)])] at h
  split at h
  ·rename_i o os'
   simp only [zj] at h
   obtain ⟨h1,h2⟩:=ih h.2 (fun j hj=>hf j (by simp [hj]))
   refine ⟨by simp [h1],fun k x hx=>?_⟩
   cases k with
   |zero=>simp at hx;subst hx;exact ⟨o,rfl,h.1⟩
   |succ k=>simp at hx;simpa using h2 k x hx
  ·cases h
theorem qqf {ops:Array Oper} {n i:Nat} {ii:IOper}:∀ {l:List (Nat×IOper)},qna ops n i ii l=true→∀ y∈l,qhu y.2 ii=true∨ancB ops n i y.1=true:=by
 intro l
 induction l with
 |nil=>intro _ y hy;cases hy
 |cons q l ih=>
  intro h y hy
  obtain ⟨j,jj⟩:=q
  simp only [qna,zj,zU] at h
  simp only [zC] at hy
  rcases hy with rfl|hy
  ·exact h.1
  ·exact ih h.2 y hy
theorem qpE {ops:Array Oper} {n:Nat}:∀ {l seen:List (Nat×IOper)},qqL ops n seen l=true→∀ (pre:List (Nat×IOper)) (x:Nat×IOper) (post:List (Nat×IOper)),l=pre++x :: post→∀ y∈seen++pre,qhu y.2 x.2=true∨ancB ops n x.1 y.1=true:=by
 intro l
 induction l with
 |nil=>intro seen _ pre x post h;cases pre<;>cases h
 |cons q l ih=>
  intro seen h pre x post e y hy
  obtain ⟨i,ii⟩:=q
  simp only [qqL,zj] at h
  cases pre with
  |nil=>
   simp only [yg,List.cons.injEq] at e
   obtain ⟨rfl,rfl⟩:=e
   exact qqf h.1 y (by simpa using hy)
  |cons p pre=>
   simp only [yi,List.cons.injEq] at e
   obtain ⟨rfl,rfl⟩:=e
   exact ih h.2 pre x post rfl y (by simpa using hy)
def qoa (ops:Array Oper) (listed:Array Bool):Prop:=∀ (i:Nat) (o:Oper),ops[i]?=some o→listed.getD i false=true→∀ e∈qgv o,listed.getD e false=true
theorem qjX {ops:Array Oper} {listed:Array Bool} (hc:qoa ops listed):∀ (n i j:Nat) (o:Oper),ops[i]?=some o→(∀ e∈qgv o,listed.getD e false=true)→ancB ops n i j=true→listed.getD j false=true:=by
 intro n
 induction n with
 |zero=>intro i j o _ _ h;simp [ancB] at h
 |succ n ih=>
  intro i j o ho he h
  simp only [ancB,ho,List.any_eq_true,zU,beq_iff_eq] at h
  obtain ⟨e,h1,h2⟩:=h
  rcases h2 with rfl|h2
  ·exact he e h1
  ·cases hoe:ops[e]? with
   |none=>cases n<;>simp [ancB,hoe] at h2
   |some oe=>exact ih e j oe hoe (hc e oe hoe (he e h1)) h2
theorem mem_ready {ops:Array Oper} {listed:Array Bool} {i:Nat}:i∈Region.ready .any ops listed↔∃ o,ops[i]?=some o∧listed.getD i true=false∧∀ e∈qgv o,listed.getD e false=true:=by
 simp only [Region.ready,ye,yA,zj,zW]
 constructor
 ·rintro ⟨h1,h2,h3⟩
  obtain ⟨o,ho⟩:∃ o,ops[i]?=some o:=⟨_,Array.getElem?_eq_getElem h1⟩
  refine ⟨o,ho,h2,fun e he=>?_⟩
  rw [ho] at h3
  simp only [zN,Option.getD_some,Array.all_eq_true'] at h3
  simp only [qgv,zG,ye] at he
  obtain ⟨ed,⟨h4,h5⟩,rfl⟩:=he
  have:=h3 ed (by simpa using h4)
  simpa [h5] using this
 ·rintro ⟨o,ho,h2,h3⟩
  refine ⟨(zH.1 ho).1,h2,?_⟩
  rw [ho]
  simp only [zN,Option.getD_some,Array.all_eq_true']
  intro ed hed
  cases hb:Region.binds .any ed with
  |false=>simp
  |true=>simp only [Bool.not_true,Bool.false_or];exact h3 _ (by simp only [qgv,zG,ye];exact ⟨ed,⟨by simpa using hed,hb⟩,rfl⟩)
def unl (listed:Array Bool) (p:Nat×IOper):Bool:=!listed.getD p.1 true
theorem newsOf_mem {l:List IOper} {d:Nat}:d∈qas l↔∃ i∈l,∃ r,isN i=some (d,r):=by
 simp only [qas,List.mem_filterMap,zi]
 constructor
 ·rintro ⟨i,hi,⟨e,r⟩,h1,rfl⟩;exact ⟨i,hi,r,h1⟩
 ·rintro ⟨i,hi,r,h1⟩;exact ⟨i,hi,(d,r),h1,rfl⟩
theorem qBw {ops:Array Oper} {js:List IOper} {K:List AV→Objs→Prop} {Q:Exit→Act→World→Prop} (hK:∀ fr L ι a w,K fr L→StF E B w L ι fr a→Q .normal a w) (hjs:js.length=ops.size)
  (hget:∀ (k:Nat) (i:IOper),js[k]?=some i→∃ o,ops[k]?=some o∧qgi P ops o i=true) (hfz:∀ i∈js,isFz i=false) (hall:qqL ops ops.size [] ((zA js.length).zip js)=true)
  (hedge:∀ (i:Nat) (o:Oper),ops[i]?=some o→∀ e∈qgv o,e < i) (hnews:qas js=[]∨(∀ i∈js,okBy (qas js) i=true)∧(qas js).Nodup) :
  ∀ (fuel:Nat) (listed:Array Bool) (fr:List AV) (L:Objs) (ι:Key→Value) (a:Act) (w:World),listed.size=ops.size→qoa ops listed→fuel=(((zA js.length).zip js).filter (unl listed)).length→
   qb6 (qas ((((zA js.length).zip js).filter (unl listed)).map (·.2))) fr L→
   qaa P E Y ((((zA js.length).zip js).filter (unl listed)).map (·.2)) fr L K→StF E B w L ι fr a→wpAny P .any ops Q fuel listed a w:=by
 intro fuel
 have zget:∀ (k:Nat) (x:IOper),js[k]?=some x→((zA js.length).zip js)[k]?=some (k,x):=by
  intro k x hk
  rw [List.getElem?_zip_eq_some]
  exact ⟨by rw [zX (zk.1 hk).1],hk⟩
 have zmem:∀ (p:Nat×IOper),p∈(zA js.length).zip js→p.1 < js.length∧js[p.1]?=some p.2:=by
  intro p hp
  obtain ⟨k,hk⟩:=zQ hp
  rw [List.getElem?_zip_eq_some] at hk
  obtain ⟨h1,h2⟩:=hk
  rw [zX (by have:=(zk.1 h2).1;exact this)] at h1
  cases h1
  exact ⟨(zk.1 h2).1,h2⟩
 induction fuel with
 |zero=>
  intro listed fr L ι a w hsz hcl hf hFr h hs
  have hnil:((zA js.length).zip js).filter (unl listed)=[]:=zr hf.symm
  rw [hnil] at h
  refine ⟨?_,hK fr L ι a w h hs⟩
  refine List.eq_nil_iff_forall_not_mem.2 fun i hi=>?_
  obtain ⟨o,ho,h2,_⟩:=mem_ready.1 hi
  have hlt:i < js.length:=by rw [hjs];exact (zH.1 ho).1
  have:(i,js[i])∈((zA js.length).zip js).filter (unl listed):=by
   simp only [ye]
   exact ⟨zm (zget i _ (zg hlt)),by simp [unl,h2]⟩
  rw [hnil] at this
  cases this
 |succ fuel ih=>
  intro listed fr L ι a w hsz hcl hf hFr h hs
  have hready:Region.ready .any ops listed≠[]:=by
   intro hnil
   cases hrem:((zA js.length).zip js).filter (unl listed) with
   |nil=>rw [hrem] at hf;simp at hf
   |cons p rest=>
    have hp:p∈((zA js.length).zip js).filter (unl listed):=by rw [hrem];simp
    have hex:∃ i,i < js.length∧listed.getD i true=false∧∀ j,j < i→listed.getD j true=true:=by
     obtain ⟨h1,h2⟩:=ye.1 hp
     have hp1:=(zmem p h1).1
     have hpu:listed.getD p.1 true=false:=by simpa [unl] using h2
     have:∀ m i,i≤m→i < js.length→listed.getD i true=false→∃ i,i < js.length∧listed.getD i true=false∧∀ j,j < i→listed.getD j true=true:=by
      intro m
      induction m with
      |zero=>intro i hi h1 h2;exact ⟨i,h1,h2,fun j hj=>by omega⟩
      |succ m ihm=>
       intro i hi h1 h2
       by_cases hex:∃ j,j < i∧listed.getD j true=false
       ·obtain ⟨j,hj1,hj2⟩:=hex
        exact ihm j (by omega) (by omega) hj2
       ·refine ⟨i,h1,h2,fun j hj=>?_⟩
        cases hq:listed.getD j true with
        |true=>rfl
        |false=>exact absurd ⟨j,hj,hq⟩ hex
     exact this p.1 p.1 (zD _) hp1 hpu
    obtain ⟨i,hi1,hi2,hi3⟩:=hex
    obtain ⟨o,ho,_⟩:=hget i _ (zg hi1)
    have:i∈Region.ready .any ops listed:=mem_ready.2 ⟨o,ho,hi2,fun e he=>by
     have hlt:=hedge i o ho e he
     have:=hi3 e hlt
     have hes:e < listed.size:=by rw [hsz,← hjs];omega
     simp only [Array.getD,hes,dite_true] at this ⊢
     exact this⟩
    rw [hnil] at this
    cases this
  refine ⟨fun hn=>absurd hn hready,fun i hi=>?_⟩
  obtain ⟨o,ho,hun,hed⟩:=mem_ready.1 hi
  have hlt:i < js.length:=by rw [hjs];exact (zH.1 ho).1
  have hil:i < listed.size:=by rw [hsz,← hjs];exact hlt
  obtain ⟨ii,hii⟩:∃ ii,js[i]?=some ii:=⟨_,zg hlt⟩
  have hsplit:(zA js.length).zip js=((zA js.length).zip js).take i++(i,ii) :: ((zA js.length).zip js).drop (i+1):=by
   have hzl:((zA js.length).zip js).length=js.length:=by simp
   have e:((zA js.length).zip js)[i]?=some (i,ii):=by
    rw [List.getElem?_zip_eq_some]
    exact ⟨by rw [zX hlt],hii⟩
   rw [zk] at e
   obtain ⟨h1,h2⟩:=e
   rw [← h2,← List.drop_eq_getElem_cons h1,List.take_append_drop]
  have hpre:∀ p∈((zA js.length).zip js).take i,p.1 < i:=by
   intro p hp
   obtain ⟨k,hk⟩:=zQ hp
   rw [List.getElem?_take] at hk
   split at hk
   ·rename_i hki
    rw [List.getElem?_zip_eq_some] at hk
    rw [zX (by omega)] at hk
    cases hk.1
    exact hki
   ·cases hk
  have hpost:∀ p∈((zA js.length).zip js).drop (i+1),i < p.1:=by
   intro p hp
   obtain ⟨k,hk⟩:=zQ hp
   rw [List.getElem?_drop,List.getElem?_zip_eq_some] at hk
   have hkl:=(zk.1 hk.2).1
   rw [zX hkl] at hk
   have:=Option.some.inj hk.1
   omega
  have hunl:unl listed (i,ii)=true:=by simp [unl,hun]
  have hfil:((zA js.length).zip js).filter (unl listed)=(((zA js.length).zip js).take i).filter (unl listed)++(i,ii) :: (((zA js.length).zip js).drop (i+1)).filter (unl listed):=by
   conv=>lhs;rw [hsplit]
   rw [List.filter_append,List.filter_cons_of_pos hunl]
  have hgd:∀ j,j≠i→(listed.setIfInBounds i true).getD j true=listed.getD j true:=by
   intro j hj
   rw [zB,zB,zR (Ne.symm hj)]
  have hself:∀ b,(listed.setIfInBounds i true).getD i b=true:=by
   intro b
   rw [zB,Array.getElem?_setIfInBounds_self_of_lt hil]
   rfl
  have hfil':((zA js.length).zip js).filter (unl (listed.setIfInBounds i true))=(((zA js.length).zip js).take i).filter (unl listed)++(((zA js.length).zip js).drop (i+1)).filter (unl listed):=by
   conv=>lhs;rw [hsplit]
   rw [List.filter_append,List.filter_cons_of_neg (by simp [unl,hself])]
   congr 1
   ·refine List.filter_congr fun p hp=>?_
    have:=hpre p hp
    simp only [unl,hgd p.1 (by omega)]
   ·refine List.filter_congr fun p hp=>?_
    have:=hpost p hp
    simp only [unl,hgd p.1 (by omega)]
  have hap:∀ x∈((((zA js.length).zip js).take i).filter (unl listed)).map (·.2),qhu x ii=true:=by
   intro x hx
   obtain ⟨p,hp,rfl⟩:=zG.1 hx
   obtain ⟨hp1,hp2⟩:=ye.1 hp
   rcases qpE hall _ _ _ hsplit p (by simpa using hp1) with h'|h'
   ·exact h'
   ·have:=qjX hcl _ i p.1 o ho hed h'
    have hpl:p.1 < listed.size:=by have:=hpre p hp1;omega
    simp only [unl,Array.getD,hpl,dite_true] at hp2 this
    rw [this] at hp2
    cases hp2
  have hsub:((((zA js.length).zip js).filter (unl listed)).map (·.2)).Sublist js:=by
   have e:((zA js.length).zip js).map (·.2)=js:=by rw [← List.unzip_snd,List.unzip_zip (by simp)]
   have:=(List.filter_sublist (p:=unl listed) (l:=(zA js.length).zip js)).map (·.2)
   rwa [e] at this
  rw [hfil] at h hf hFr hsub
  simp only [zF,zx] at h hFr hsub
  generalize hA:((((zA js.length).zip js).take i).filter (unl listed)).map (·.2)=A at *
  generalize hC:((((zA js.length).zip js).drop (i+1)).filter (unl listed)).map (·.2)=C at *
  have hfront:=qoN _ fr L hap (fun d hd=>hFr d (by
   obtain ⟨q,hq,r,hr⟩:=newsOf_mem.1 hd
   simp only [zy] at hq
   exact newsOf_mem.2 ⟨q,by simp [hq],r,hr⟩)) h
  have hrest:qb6 (qas (A++C)) fr L:=fun d hd=>hFr d (by
   obtain ⟨q,hq,r,hr⟩:=newsOf_mem.1 hd
   refine newsOf_mem.2 ⟨q,?_,r,hr⟩
   simp only [zz,zC] at hq ⊢
   rcases hq with hq|hq
   ·exact .inl hq
   ·exact .inr (.inr hq))
  have hfront:qaa P E Y (ii :: []) fr L (fun fr L=>qb6 (qas (A++C)) fr L∧qaa P E Y (A++C) fr L K)∨(qaa P E Y (ii :: (A++C)) fr L K∧qas js=[]):=by
   rcases hnews with hn|⟨h1,h2⟩
   ·exact .inr ⟨hfront,hn⟩
   ·rcases qoM (h1 ii (zm hii)) with hok|⟨d0,hd0,hn0⟩
    rotate_left
    ·refine .inl (qkg hd0 (fun hm=>hn0 ?_) hrest hfront (fun fr L hF h=>⟨hF,h⟩))
     obtain ⟨q,hq,r,hr⟩:=newsOf_mem.1 hm
     refine newsOf_mem.2 ⟨q,hsub.subset ?_,r,hr⟩
     simp only [zz,zC] at hq ⊢
     rcases hq with hq|hq
     ·exact .inl hq
     ·exact .inr (.inr hq)
    refine .inl (qhr hok ?_ hrest hfront (fun fr L hF h=>⟨hF,h⟩))
    intro d l hd hm
    have hnd:(qas (A++ii :: C)).Nodup:=(hsub.filterMap _).nodup h2
    have hp:(qas (A++ii :: C)).Perm (qas (ii :: (A++C))):=List.Perm.filterMap _ List.perm_middle
    have hnd2:=hp.nodup_iff.1 hnd
    have e:qas (ii :: (A++C))=d :: qas (A++C):=by simp [qas,hd]
    rw [e] at hnd2
    exact (List.nodup_cons.1 hnd2).1 hm
  have hemp:qas js=[]→qas (A++C)=[]:=by
   intro hn
   refine List.eq_nil_iff_forall_not_mem.2 fun d hd=>?_
   obtain ⟨q,hq,r,hr⟩:=newsOf_mem.1 hd
   have:d∈qas js:=newsOf_mem.2 ⟨q,hsub.subset (by
    simp only [zz,zC] at hq ⊢
    rcases hq with hq|hq
    ·exact .inl hq
    ·exact .inr (.inr hq)),r,hr⟩
   rw [hn] at this
   cases this
  have hfi:isFz ii=false:=hfz ii (zm hii)
  obtain ⟨o',ho',hchk⟩:=hget i ii hii
  rw [ho] at ho'
  cases ho'
  have cont:∀ fr' L' ι' a' w',qb6 (qas (A++C)) fr' L'→qaa P E Y (A++C) fr' L' K→StF E B w' L' ι' fr' a'→wpAny P .any ops Q fuel (listed.setIfInBounds i true) a' w':=by
   intro fr' L' ι' a' w' hF' h' hs'
   refine ih (listed.setIfInBounds i true) fr' L' ι' a' w' (by simpa using hsz) ?_ ?_ ?_ ?_ hs'
   ·intro k q hq hk e he
    by_cases hki:k=i
    ·subst hki
     rw [ho] at hq
     cases hq
     by_cases hei:e=k
     ·subst hei;exact hself _
     ·have:=hed e he
      rw [zB,zR (Ne.symm hei),← zB]
      exact this
    ·rw [zB,zR (Ne.symm hki),← zB] at hk
     have:=hcl k q hq hk e he
     by_cases hei:e=i
     ·subst hei;exact hself _
     ·rw [zB,zR (Ne.symm hei),← zB]
      exact this
   ·rw [hfil']
    simp only [zp,zK] at hf ⊢
    omega
   ·rw [hfil',zF,hA,hC]
    exact hF'
   ·rw [hfil',zF,hA,hC]
    exact h'
  have hstep:if Region.wanted o (yielded ops a.tmps) then o.wp P a w (wpAny P .any ops Q fuel (listed.setIfInBounds i true)) Q else wpAny P .any ops Q fuel (listed.setIfInBounds i true) (a.put o.dst undef) w:=by
   rcases hfront with hfront|⟨hfront,hn⟩
   ·exact qeB hchk hfi hfront hs (fun fr' L' ι' a' w' h' hs'=>by
     simp only [qaa] at h'
     exact cont fr' L' ι' a' w' h'.1 h'.2 hs')
   ·exact qeB hchk hfi hfront hs (fun fr' L' ι' a' w' h' hs'=>cont fr' L' ι' a' w' (by rw [hemp hn];intro d hd;cases hd) h' hs')
  unfold wpOp
  rw [ho]
  simp only
  by_cases hw:Region.wanted o (yielded ops a.tmps)=true
  ·rw [if_pos hw] at hstep ⊢
   exact .inl hstep
  ·rw [if_neg hw] at hstep ⊢
   exact hstep
theorem qlC {ops:Array Oper} {K:List AV→Objs→Prop}:∀ (is:List IOper) (ds:List Nat) (fr:List AV) (L:Objs) (ι:Key→Value) (a:Act) (w:World) (os:List Oper),(∀ i∈is,isRe i=false)→qeL P ops os is=true→qb6 ds fr L→(∀ d∈ds,fr.getD d .any=.any)→qaa P E Y is fr L K→StF E B w L ι fr a→qeL P ops os (qfH is)=true∧∃ fr' L' ι',qb6 (ds++qbO is) fr' L'∧(∀ d∈ds++qbO is,fr'.getD d .any=.any)∧qaa P E Y (qfH is) fr' L' K∧StF E B w L' ι' fr' a:=by
 intro is
 induction is with
 |nil=>intro ds fr L ι a w os _ hc hF hA h hs;exact ⟨hc,fr,L,ι,by simpa [qbO] using hF,by simpa [qbO] using hA,h,hs⟩
 |cons i is ih=>
  intro ds fr L ι a w os hre hc hF hA h hs
  have hre':∀ i∈is,isRe i=false:=fun j hj=>hre j (by simp [hj])
  simp only [qfH,qbO]
  by_cases hf:isFz i=true
  ·rw [if_pos hf,if_pos hf]
   simp only [qeL] at hc
   rw [if_pos hf] at hc
   rcases qqn hf with ⟨x,rfl⟩|⟨x,rfl⟩|rfl
   ·simp only [qaa] at h
    split at h
    ·rename_i k y hk
     exact ih ds _ _ ι a w os hre' hc (fun d hd=>(hF d hd).thaw) (fun d hd=>by have:=hA d hd;rw [zu,zt];rw [zu] at this;cases hq:fr[d]? with|none=>rfl|some q=>rw [hq] at this;simp only [Option.getD_some] at this;subst this;rfl) h (qzs hs hk)
    ·exact ih ds _ _ ι a w os hre' hc hF hA h hs
   ·simp only [qaa] at h
    obtain ⟨h1,fr',L',ι',h2,h2a,h3⟩:=ih (ds++[x]) _ _ _ a w os hre' hc (fun d hd=>by
     rcases zz.1 hd with hd|hd
     ·exact (hF d hd).hole x
     ·simp only [zy] at hd
      subst hd
      exact Zal.hole_self d fr L) (fun d hd=>by
     by_cases hx:x=d
     ·subst hx
      by_cases hl:x < fr.length
      ·simp [zu,hl]
      ·simp [zu,zO,hl]
     ·have hd':d∈ds:=(zz.1 hd).resolve_right (fun q=>hx (zy.1 q).symm)
      have:=hA d hd'
      rw [zu,yp hx,zt]
      rw [zu] at this
      cases hq:fr[d]? with
      |none=>rfl
      |some q=>rw [hq] at this;simp only [Option.getD_some] at this;subst this;rfl) h (qqq hs x)
    exact ⟨h1,fr',L',ι',by simpa using h2,by simpa using h2a,h3⟩
   ·have:=hre _ (List.mem_cons_self ..)
    cases this
  ·rw [if_neg hf,if_neg hf]
   exact ⟨hc,fr,L,ι,by simpa using hF,by simpa using hA,h,hs⟩
theorem qpB {K:List AV→Objs→Prop}:∀ (is:List IOper) (ds:List Nat) (fr:List AV) (L:Objs) (ι:Key→Value) (a:Act) (w:World),(∀ i∈is,isRe i=false)→qb6 ds fr L→(∀ d∈ds,fr.getD d .any=.any)→qaa P E Y is fr L K→StF E B w L ι fr a→∃ fr' L' ι',qb6 (ds++qbO is) fr' L'∧(∀ d∈ds++qbO is,fr'.getD d .any=.any)∧qaa P E Y (qfH is) fr' L' K∧StF E B w L' ι' fr' a:=by
 intro is
 induction is with
 |nil=>intro ds fr L ι a w _ hF hA h hs;exact ⟨fr,L,ι,by simpa [qbO] using hF,by simpa [qbO] using hA,h,hs⟩
 |cons i is ih=>
  intro ds fr L ι a w hre hF hA h hs
  have hre':∀ i∈is,isRe i=false:=fun j hj=>hre j (by simp [hj])
  simp only [qfH,qbO]
  by_cases hf:isFz i=true
  ·rw [if_pos hf,if_pos hf]
   rcases qqn hf with ⟨x,rfl⟩|⟨x,rfl⟩|rfl
   ·simp only [qaa] at h
    split at h
    ·rename_i k y hk
     exact ih ds _ _ ι a w hre' (fun d hd=>(hF d hd).thaw) (fun d hd=>by have:=hA d hd;rw [zu,zt];rw [zu] at this;cases hq:fr[d]? with|none=>rfl|some q=>rw [hq] at this;simp only [Option.getD_some] at this;subst this;rfl) h (qzs hs hk)
    ·exact ih ds _ _ ι a w hre' hF hA h hs
   ·simp only [qaa] at h
    obtain ⟨fr',L',ι',h2,h2a,h3⟩:=ih (ds++[x]) _ _ _ a w hre' (fun d hd=>by
     rcases zz.1 hd with hd|hd
     ·exact (hF d hd).hole x
     ·simp only [zy] at hd
      subst hd
      exact Zal.hole_self d fr L) (fun d hd=>by
     by_cases hx:x=d
     ·subst hx
      by_cases hl:x < fr.length
      ·simp [zu,hl]
      ·simp [zu,zO,hl]
     ·have hd':d∈ds:=(zz.1 hd).resolve_right (fun q=>hx (zy.1 q).symm)
      have:=hA d hd'
      rw [zu,yp hx,zt]
      rw [zu] at this
      cases hq:fr[d]? with
      |none=>rfl
      |some q=>rw [hq] at this;simp only [Option.getD_some] at this;subst this;rfl) h (qqq hs x)
    exact ⟨fr',L',ι',by simpa using h2,by simpa using h2a,h3⟩
   ·have:=hre _ (List.mem_cons_self ..)
    cases this
  ·rw [if_neg hf,if_neg hf]
   exact ⟨fr,L,ι,by simpa using hF,by simpa using hA,h,hs⟩
theorem qz9 {ops:Array Oper} {ps:List (Nat×IOper)} {K:List AV→Objs→Prop} {Q:Exit→Act→World→Prop} (hK:∀ fr L ι a w,K fr L→StF E B w L ι fr a→Q .normal a w) (hnd:(ps.map (·.1)).Nodup) (hcov:∀ i,i < ops.size→i∈ps.map (·.1))
  (hget:∀ p∈ps,∃ o,ops[p.1]?=some o∧qgi P ops o p.2=true) (hfz:∀ p∈ps,isFz p.2=false) (hall:qqL ops ops.size [] ps=true)
  (hedge:∀ A p C,ps=A++p :: C→∀ o,ops[p.1]?=some o→∀ e∈qgv o,e∈A.map (·.1)) (hnews:qas (ps.map (·.2))=[]∨(∀ i∈ps.map (·.2),okBy (qas (ps.map (·.2))) i=true)∧(qas (ps.map (·.2))).Nodup) :
  ∀ (fuel:Nat) (listed:Array Bool) (fr:List AV) (L:Objs) (ι:Key→Value) (a:Act) (w:World),listed.size=ops.size→qoa ops listed→fuel=(ps.filter (unl listed)).length→qb6 (qas ((ps.filter (unl listed)).map (·.2))) fr L→
   qaa P E Y ((ps.filter (unl listed)).map (·.2)) fr L K→StF E B w L ι fr a→wpAny P .any ops Q fuel listed a w:=by
 intro fuel
 induction fuel with
 |zero=>
  intro listed fr L ι a w hsz hcl hf hFr h hs
  have hnil:ps.filter (unl listed)=[]:=zr hf.symm
  rw [hnil] at h
  refine ⟨?_,hK fr L ι a w h hs⟩
  refine List.eq_nil_iff_forall_not_mem.2 fun i hi=>?_
  obtain ⟨o,ho,h2,_⟩:=mem_ready.1 hi
  obtain ⟨p,hp,rfl⟩:=zG.1 (hcov i (zH.1 ho).1)
  have:p∈ps.filter (unl listed):=ye.2 ⟨hp,by simp [unl,h2]⟩
  rw [hnil] at this
  cases this
 |succ fuel ih=>
  intro listed fr L ι a w hsz hcl hf hFr h hs
  have hready:Region.ready .any ops listed≠[]:=by
   intro hnil
   have hex:∃ A p C,ps=A++p :: C∧unl listed p=true∧∀ x∈A,unl listed x=false:=by
    cases hrem:ps.filter (unl listed) with
    |nil=>rw [hrem] at hf;simp at hf
    |cons p rest=>
     obtain ⟨A,C,e,h1,h2,_⟩:=List.filter_eq_cons_iff.1 hrem
     exact ⟨A,p,C,e,h2,fun x hx=>by simpa using h1 x hx⟩
   obtain ⟨A,p,C,e,hp,hA⟩:=hex
   obtain ⟨o,ho,_⟩:=hget p (by rw [e];simp)
   have hpu:listed.getD p.1 true=false:=by simpa [unl] using hp
   have:p.1∈Region.ready .any ops listed:=mem_ready.2 ⟨o,ho,hpu,fun e' he=>by
    obtain ⟨x,hx,rfl⟩:=zG.1 (hedge A p C e o ho e' he)
    have h1:=hA x hx
    simp only [unl,Bool.not_eq_false'] at h1
    obtain ⟨ox,hox,_⟩:=hget x (by rw [e];simp [hx])
    have hes:x.1 < listed.size:=by rw [hsz];exact (zH.1 hox).1
    simp only [Array.getD,hes,dite_true] at h1 ⊢
    exact h1⟩
   rw [hnil] at this
   cases this
  refine ⟨fun hn=>absurd hn hready,fun i hi=>?_⟩
  obtain ⟨o,ho,hun,hed⟩:=mem_ready.1 hi
  have hilt:=(zH.1 ho).1
  have hil:i < listed.size:=by rw [hsz];exact hilt
  obtain ⟨q,hq,hqi⟩:=zG.1 (hcov i hilt)
  obtain ⟨A,C,hsplit⟩:=List.append_of_mem hq
  obtain ⟨i',ii⟩:=q
  simp only at hqi
  subst hqi
  have hne:∀ p∈A++C,p.1≠i':=by
   intro p hp he
   have h1:((i' :: (A++C).map (·.1))).Nodup:=by
    have hp2:(ps.map (·.1)).Perm (i' :: (A++C).map (·.1)):=by
     rw [hsplit,zF,zF,zx]
     exact List.perm_middle
    exact hp2.nodup_iff.1 hnd
   rw [List.nodup_cons] at h1
   exact h1.1 (he ▸ List.mem_map_of_mem hp)
  have hunl:unl listed (i',ii)=true:=by simp [unl,hun]
  have hfil:ps.filter (unl listed)=A.filter (unl listed)++(i',ii) :: C.filter (unl listed):=by
   rw [hsplit,List.filter_append,List.filter_cons_of_pos hunl]
  have hgd:∀ j,j≠i'→(listed.setIfInBounds i' true).getD j true=listed.getD j true:=by
   intro j hj
   rw [zB,zB,zR (Ne.symm hj)]
  have hself:∀ b,(listed.setIfInBounds i' true).getD i' b=true:=by
   intro b
   rw [zB,Array.getElem?_setIfInBounds_self_of_lt hil]
   rfl
  have hfil':ps.filter (unl (listed.setIfInBounds i' true))=A.filter (unl listed)++C.filter (unl listed):=by
   rw [hsplit,List.filter_append,List.filter_cons_of_neg (by simp [unl,hself])]
   congr 1
   ·refine List.filter_congr fun p hp=>?_
    simp only [unl,hgd p.1 (hne p (by simp [hp]))]
   ·refine List.filter_congr fun p hp=>?_
    simp only [unl,hgd p.1 (hne p (by simp [hp]))]
  have hap:∀ x∈(A.filter (unl listed)).map (·.2),qhu x ii=true:=by
   intro x hx
   obtain ⟨p,hp,rfl⟩:=zG.1 hx
   obtain ⟨hp1,hp2⟩:=ye.1 hp
   rcases qpE hall A (i',ii) C hsplit p (by simpa using hp1) with h'|h'
   ·exact h'
   ·have:=qjX hcl _ i' p.1 o ho hed h'
    obtain ⟨ox,hox,_⟩:=hget p (by rw [hsplit];simp [hp1])
    have hpl:p.1 < listed.size:=by rw [hsz];exact (zH.1 hox).1
    simp only [unl,Array.getD,hpl,dite_true] at hp2 this
    rw [this] at hp2
    cases hp2
  have hsub:((ps.filter (unl listed)).map (·.2)).Sublist (ps.map (·.2)):=(List.filter_sublist (p:=unl listed) (l:=ps)).map (·.2)
  rw [hfil] at h hf hFr hsub
  simp only [zF,zx] at h hFr hsub
  have hcont:∀ {A2 C2:List IOper} {d:Nat},d∈qas (A2++C2)→d∈qas (A2++ii :: C2):=by
   intro A2 C2 d hd
   obtain ⟨q,hq,r,hr⟩:=newsOf_mem.1 hd
   refine newsOf_mem.2 ⟨q,?_,r,hr⟩
   simp only [zz,zC] at hq ⊢
   rcases hq with hq|hq
   ·exact .inl hq
   ·exact .inr (.inr hq)
  have hfront:=qoN _ fr L hap (fun d hd=>hFr d (by
   obtain ⟨q,hq,r,hr⟩:=newsOf_mem.1 hd
   simp only [zy] at hq
   exact newsOf_mem.2 ⟨q,by simp [hq],r,hr⟩)) h
  have hii:ii∈ps.map (·.2):=by rw [hsplit];simp
  generalize hA2:(A.filter (unl listed)).map (·.2)=A2 at *
  generalize hC2:(C.filter (unl listed)).map (·.2)=C2 at *
  have hrest:qb6 (qas (A2++C2)) fr L:=fun d hd=>hFr d (hcont hd)
  have hsubm:∀ d,d∈qas (A2++C2)→d∈qas (ps.map (·.2)):=fun d hd=>by
   obtain ⟨q,hq,r,hr⟩:=newsOf_mem.1 (hcont hd)
   exact newsOf_mem.2 ⟨q,hsub.subset hq,r,hr⟩
  have hfront:qaa P E Y (ii :: []) fr L (fun fr L=>qb6 (qas (A2++C2)) fr L∧qaa P E Y (A2++C2) fr L K)∨(qaa P E Y (ii :: (A2++C2)) fr L K∧qas (ps.map (·.2))=[]):=by
   rcases hnews with hn|⟨h1,h2⟩
   ·exact .inr ⟨hfront,hn⟩
   ·rcases qoM (h1 ii hii) with hok|⟨d0,hd0,hn0⟩
    rotate_left
    ·exact .inl (qkg hd0 (fun hm=>hn0 (hsubm d0 hm)) hrest hfront (fun fr L hF h=>⟨hF,h⟩))
    refine .inl (qhr hok ?_ hrest hfront (fun fr L hF h=>⟨hF,h⟩))
    intro d l hd hm
    have hnd:(qas (A2++ii :: C2)).Nodup:=(hsub.filterMap _).nodup h2
    have hp:(qas (A2++ii :: C2)).Perm (qas (ii :: (A2++C2))):=List.Perm.filterMap _ List.perm_middle
    have hnd2:=hp.nodup_iff.1 hnd
    have e:qas (ii :: (A2++C2))=d :: qas (A2++C2):=by simp [qas,hd]
    rw [e] at hnd2
    exact (List.nodup_cons.1 hnd2).1 hm
  have hemp:qas (ps.map (·.2))=[]→qas (A2++C2)=[]:=by
   intro hn
   refine List.eq_nil_iff_forall_not_mem.2 fun d hd=>?_
   have:=hsubm d hd
   rw [hn] at this
   cases this
  obtain ⟨o',ho',hchk⟩:=hget (i',ii) hq
  rw [ho] at ho'
  cases ho'
  have hfi:isFz ii=false:=hfz (i',ii) hq
  have cont:∀ fr' L' ι' a' w',qb6 (qas (A2++C2)) fr' L'→qaa P E Y (A2++C2) fr' L' K→StF E B w' L' ι' fr' a'→wpAny P .any ops Q fuel (listed.setIfInBounds i' true) a' w':=by
   intro fr' L' ι' a' w' hF' h' hs'
   refine ih (listed.setIfInBounds i' true) fr' L' ι' a' w' (by simpa using hsz) ?_ ?_ ?_ ?_ hs'
   ·intro k q hq2 hk e he
    by_cases hki:k=i'
    ·subst hki
     rw [ho] at hq2
     cases hq2
     by_cases hei:e=k
     ·subst hei;exact hself _
     ·have:=hed e he
      rw [zB,zR (Ne.symm hei),← zB]
      exact this
    ·rw [zB,zR (Ne.symm hki),← zB] at hk
     have:=hcl k q hq2 hk e he
     by_cases hei:e=i'
     ·subst hei;exact hself _
     ·rw [zB,zR (Ne.symm hei),← zB]
      exact this
   ·rw [hfil']
    simp only [zp,zK] at hf ⊢
    omega
   ·rw [hfil',zF,hA2,hC2]
    exact hF'
   ·rw [hfil',zF,hA2,hC2]
    exact h'
  have hstep:if Region.wanted o (yielded ops a.tmps) then o.wp P a w (wpAny P .any ops Q fuel (listed.setIfInBounds i' true)) Q else wpAny P .any ops Q fuel (listed.setIfInBounds i' true) (a.put o.dst undef) w:=by
   rcases hfront with hfront|⟨hfront,hn⟩
   ·exact qeB hchk hfi hfront hs (fun fr' L' ι' a' w' h' hs'=>by
     simp only [qaa] at h'
     exact cont fr' L' ι' a' w' h'.1 h'.2 hs')
   ·exact qeB hchk hfi hfront hs (fun fr' L' ι' a' w' h' hs'=>cont fr' L' ι' a' w' (by rw [hemp hn];intro d hd;cases hd) h' hs')
  unfold wpOp
  rw [ho]
  simp only
  by_cases hw:Region.wanted o (yielded ops a.tmps)=true
  ·rw [if_pos hw] at hstep ⊢
   exact .inl hstep
  ·rw [if_neg hw] at hstep ⊢
   exact hstep
theorem qsq {ops:Array Oper} {n i:Nat} {ii:IOper}:∀ {l:List (Nat×IOper)},qrA ops n i ii l=true→∀ y∈l,qlE y.2 ii=true∨ancB ops n i y.1=true:=by
 intro l
 induction l with
 |nil=>intro _ y hy;cases hy
 |cons q l ih=>
  intro h y hy
  obtain ⟨j,jj⟩:=q
  simp only [qrA,zj,zU] at h
  simp only [zC] at hy
  rcases hy with rfl|hy
  ·exact h.1
  ·exact ih h.2 y hy
theorem qxm {ops:Array Oper} {n:Nat}:∀ {l seen:List (Nat×IOper)},allT ops n seen l=true→∀ (pre:List (Nat×IOper)) (x:Nat×IOper) (post:List (Nat×IOper)),l=pre++x :: post→∀ y∈seen++pre,qlE y.2 x.2=true∨ancB ops n x.1 y.1=true:=by
 intro l
 induction l with
 |nil=>intro seen _ pre x post h;cases pre<;>cases h
 |cons q l ih=>
  intro seen h pre x post e y hy
  obtain ⟨i,ii⟩:=q
  simp only [allT,zj] at h
  cases pre with
  |nil=>
   simp only [yg,List.cons.injEq] at e
   obtain ⟨rfl,rfl⟩:=e
   exact qsq h.1 y (by simpa using hy)
  |cons p pre=>
   simp only [yi,List.cons.injEq] at e
   obtain ⟨rfl,rfl⟩:=e
   exact ih h.2 pre x post rfl y (by simpa using hy)
theorem qz8 {ops:Array Oper} {ps:List (Nat×IOper)} {K:List AV→Objs→Prop} {Q:Exit→Act→World→Prop} (hK:∀ fr L ι a w,K fr L→StF E B w L ι fr a→Q .normal a w) (hnd:(ps.map (·.1)).Nodup) (hcov:∀ i,i < ops.size→i∈ps.map (·.1))
  (hget:∀ p∈ps,∃ o,ops[p.1]?=some o∧qgi P ops o p.2=true) (hfz:∀ p∈ps,isFz p.2=false) (hall:allT ops ops.size [] ps=true) {ts:List Nat} (hokT:∀ p∈ps,okT ts p.2=true)
  (hedge:∀ A p C,ps=A++p :: C→∀ o,ops[p.1]?=some o→∀ e∈qgv o,e∈A.map (·.1)) :
  ∀ (fuel:Nat) (listed:Array Bool) (fr:List AV) (L:Objs) (ι:Key→Value) (a:Act) (w:World),listed.size=ops.size→qoa ops listed→fuel=(ps.filter (unl listed)).length→InvA ts fr L→
   qaa P E Y ((ps.filter (unl listed)).map (·.2)) fr L K→StF E B w L ι fr a→wpAny P .any ops Q fuel listed a w:=by
 intro fuel
 induction fuel with
 |zero=>
  intro listed fr L ι a w hsz hcl hf hI h hs
  have hnil:ps.filter (unl listed)=[]:=zr hf.symm
  rw [hnil] at h
  refine ⟨?_,hK fr L ι a w h hs⟩
  refine List.eq_nil_iff_forall_not_mem.2 fun i hi=>?_
  obtain ⟨o,ho,h2,_⟩:=mem_ready.1 hi
  obtain ⟨p,hp,rfl⟩:=zG.1 (hcov i (zH.1 ho).1)
  have:p∈ps.filter (unl listed):=ye.2 ⟨hp,by simp [unl,h2]⟩
  rw [hnil] at this
  cases this
 |succ fuel ih=>
  intro listed fr L ι a w hsz hcl hf hI h hs
  have hready:Region.ready .any ops listed≠[]:=by
   intro hnil
   have hex:∃ A p C,ps=A++p :: C∧unl listed p=true∧∀ x∈A,unl listed x=false:=by
    cases hrem:ps.filter (unl listed) with
    |nil=>rw [hrem] at hf;simp at hf
    |cons p rest=>
     obtain ⟨A,C,e,h1,h2,_⟩:=List.filter_eq_cons_iff.1 hrem
     exact ⟨A,p,C,e,h2,fun x hx=>by simpa using h1 x hx⟩
   obtain ⟨A,p,C,e,hp,hA⟩:=hex
   obtain ⟨o,ho,_⟩:=hget p (by rw [e];simp)
   have hpu:listed.getD p.1 true=false:=by simpa [unl] using hp
   have:p.1∈Region.ready .any ops listed:=mem_ready.2 ⟨o,ho,hpu,fun e' he=>by
    obtain ⟨x,hx,rfl⟩:=zG.1 (hedge A p C e o ho e' he)
    have h1:=hA x hx
    simp only [unl,Bool.not_eq_false'] at h1
    obtain ⟨ox,hox,_⟩:=hget x (by rw [e];simp [hx])
    have hes:x.1 < listed.size:=by rw [hsz];exact (zH.1 hox).1
    simp only [Array.getD,hes,dite_true] at h1 ⊢
    exact h1⟩
   rw [hnil] at this
   cases this
  refine ⟨fun hn=>absurd hn hready,fun i hi=>?_⟩
  obtain ⟨o,ho,hun,hed⟩:=mem_ready.1 hi
  have hilt:=(zH.1 ho).1
  have hil:i < listed.size:=by rw [hsz];exact hilt
  obtain ⟨q,hq,hqi⟩:=zG.1 (hcov i hilt)
  obtain ⟨A,C,hsplit⟩:=List.append_of_mem hq
  obtain ⟨i',ii⟩:=q
  simp only at hqi
  subst hqi
  have hne:∀ p∈A++C,p.1≠i':=by
   intro p hp he
   have h1:((i' :: (A++C).map (·.1))).Nodup:=by
    have hp2:(ps.map (·.1)).Perm (i' :: (A++C).map (·.1)):=by
     rw [hsplit,zF,zF,zx]
     exact List.perm_middle
    exact hp2.nodup_iff.1 hnd
   rw [List.nodup_cons] at h1
   exact h1.1 (he ▸ List.mem_map_of_mem hp)
  have hunl:unl listed (i',ii)=true:=by simp [unl,hun]
  have hfil:ps.filter (unl listed)=A.filter (unl listed)++(i',ii) :: C.filter (unl listed):=by
   rw [hsplit,List.filter_append,List.filter_cons_of_pos hunl]
  have hgd:∀ j,j≠i'→(listed.setIfInBounds i' true).getD j true=listed.getD j true:=by
   intro j hj
   rw [zB,zB,zR (Ne.symm hj)]
  have hself:∀ b,(listed.setIfInBounds i' true).getD i' b=true:=by
   intro b
   rw [zB,Array.getElem?_setIfInBounds_self_of_lt hil]
   rfl
  have hfil':ps.filter (unl (listed.setIfInBounds i' true))=A.filter (unl listed)++C.filter (unl listed):=by
   rw [hsplit,List.filter_append,List.filter_cons_of_neg (by simp [unl,hself])]
   congr 1
   ·refine List.filter_congr fun p hp=>?_
    simp only [unl,hgd p.1 (hne p (by simp [hp]))]
   ·refine List.filter_congr fun p hp=>?_
    simp only [unl,hgd p.1 (hne p (by simp [hp]))]
  have hap:∀ x∈(A.filter (unl listed)).map (·.2),okT ts x=true∧qlE x ii=true:=by
   intro x hx
   obtain ⟨p,hp,rfl⟩:=zG.1 hx
   obtain ⟨hp1,hp2⟩:=ye.1 hp
   refine ⟨hokT p (by rw [hsplit];simp [hp1]),?_⟩
   rcases qxm hall A (i',ii) C hsplit p (by simpa using hp1) with h'|h'
   ·exact h'
   ·have:=qjX hcl _ i' p.1 o ho hed h'
    obtain ⟨ox,hox,_⟩:=hget p (by rw [hsplit];simp [hp1])
    have hpl:p.1 < listed.size:=by rw [hsz];exact (zH.1 hox).1
    simp only [unl,Array.getD,hpl,dite_true] at hp2 this
    rw [this] at hp2
    cases hp2
  rw [hfil] at h hf
  simp only [zF,zx] at h
  have hfront:=qBm (hokT (i',ii) hq) hI (qsu (hokT (i',ii) hq) _ fr L hap hI h) (js:=[]) (K':=fun fr L=>InvA ts fr L∧qaa P E Y ((A.filter (unl listed)).map (·.2)++(C.filter (unl listed)).map (·.2)) fr L K) (fun fr L hI h=>⟨hI,h⟩)
  obtain ⟨o',ho',hchk⟩:=hget (i',ii) hq
  rw [ho] at ho'
  cases ho'
  have hfi:isFz ii=false:=hfz (i',ii) hq
  have cont:∀ fr' L' ι' a' w',InvA ts fr' L'→qaa P E Y ((A.filter (unl listed)).map (·.2)++(C.filter (unl listed)).map (·.2)) fr' L' K→StF E B w' L' ι' fr' a'→wpAny P .any ops Q fuel (listed.setIfInBounds i' true) a' w':=by
   intro fr' L' ι' a' w' hI' h' hs'
   refine ih (listed.setIfInBounds i' true) fr' L' ι' a' w' (by simpa using hsz) ?_ ?_ hI' ?_ hs'
   ·intro k q hq2 hk e he
    by_cases hki:k=i'
    ·subst hki
     rw [ho] at hq2
     cases hq2
     by_cases hei:e=k
     ·subst hei;exact hself _
     ·have:=hed e he
      rw [zB,zR (Ne.symm hei),← zB]
      exact this
    ·rw [zB,zR (Ne.symm hki),← zB] at hk
     have:=hcl k q hq2 hk e he
     by_cases hei:e=i'
     ·subst hei;exact hself _
     ·rw [zB,zR (Ne.symm hei),← zB]
      exact this
   ·rw [hfil']
    simp only [zp,zK] at hf ⊢
    omega
   ·rw [hfil',zF]
    exact h'
  have hstep:if Region.wanted o (yielded ops a.tmps) then o.wp P a w (wpAny P .any ops Q fuel (listed.setIfInBounds i' true)) Q else wpAny P .any ops Q fuel (listed.setIfInBounds i' true) (a.put o.dst undef) w:=
   qeB hchk hfi hfront hs (fun fr' L' ι' a' w' h' hs'=>cont fr' L' ι' a' w' h'.1 h'.2 hs')
  unfold wpOp
  rw [ho]
  simp only
  by_cases hw:Region.wanted o (yielded ops a.tmps)=true
  ·rw [if_pos hw] at hstep ⊢
   exact .inl hstep
  ·rw [if_neg hw] at hstep ⊢
   exact hstep
theorem qkU {α β:Type}:∀ {l:List α} {m:List β} {A:List (α×β)} {p:α×β} {C:List (α×β)},l.length=m.length→l.zip m=A++p :: C→A.map (·.1)=l.take A.length∧l[A.length]?=some p.1
 |[],m,A,p,C,_,h=>by cases A<;>simp at h
 |a :: l,[],A,p,C,hl,h=>by simp at hl
 |a :: l,b :: m,[],p,C,hl,h=>by
  simp only [List.zip_cons_cons,yg,List.cons.injEq] at h
  rw [← h.1]
  exact ⟨rfl,rfl⟩
 |a :: l,b :: m,x :: A,p,C,hl,h=>by
  simp only [List.zip_cons_cons,yi,List.cons.injEq] at h
  obtain ⟨h1,h2⟩:=qkU (by simpa using hl) h.2
  rw [← h.1]
  exact ⟨by simp [h1],by simpa using h2⟩
theorem qzK (hm:P.follows .mixedOrders=true) (E:Envt) (B:Base) (Y:List PV) (ops:Array Oper) (pm:List Nat) (is:List IOper) (id:Nat) (fr:List AV) (L:Objs) (ι:Key→Value) (a:Act) (w:World) (K:List AV→Objs→Prop) (Q:Exit→Act→World→Prop)
  (hK:∀ fr L ι a w,K fr L→StF E B w L ι fr a→Q .normal a w) (hc:qw2 P ops pm is=true) (hD:qqj ops pm is=true) (h:qaa P E Y is fr L K) (hs:StF E B w L ι fr a):(Code.region id ops true).wp P Q a w:=by
 simp only [qqj,zj,beq_iff_eq,decide_eq_true_eq,yo,zW] at hD
 obtain ⟨⟨⟨⟨⟨⟨hre,h0⟩,hnd⟩,hlen⟩,hlt⟩,hall⟩,hedge⟩:=hD
 obtain ⟨fr',L',ι',hF',_,h',hs'⟩:=qpB is [] fr L ι a w hre (fun d hd=>by cases hd) (fun d hd=>by cases hd) h hs
 rw [yg] at hF'
 simp only [qw2,zj,beq_iff_eq] at hc
 obtain ⟨hl2,hc⟩:=hc
 rw [yo] at hc
 generalize qbO is=hls at *
 generalize qfH is=js at *
 have hm1:(pm.zip js).map (·.1)=pm:=by
  have:=List.unzip_zip hl2
  rw [← List.unzip_fst,this]
 have hm2:(pm.zip js).map (·.2)=js:=by
  have:=List.unzip_zip hl2
  rw [← List.unzip_snd,this]
 have hchk:∀ p∈pm.zip js,isFz p.2=false∧∃ o,ops[p.1]?=some o∧qgi P ops o p.2=true:=by
  intro p hp
  have:=hc p hp
  rw [zj,zW] at this
  refine ⟨this.1,?_⟩
  have h2:=this.2
  split at h2
  ·rename_i o ho;exact ⟨o,ho,h2⟩
  ·cases h2
 have hcov:∀ i,i < ops.size→i∈pm:=by
  intro i hi
  simpa using hlt i (yA.2 hi)
 refine wp_region_any hm ?_
 have hs'':StF E B { w with drawn:=w.drawn+1 } L' ι' fr' a:=hs'.grown ⟨rfl,rfl,rfl,zD _,fun _ _ _=>rfl⟩
 have hrep:∀ j,j < ops.size→(Array.replicate ops.size false).getD j true=false:=by
  intro j hj
  simp [Array.getD,hj]
 have hfil:(pm.zip js).filter (unl (Array.replicate ops.size false))=pm.zip js:=by
  refine List.filter_eq_self.2 fun p hp=>?_
  obtain ⟨_,o,ho,_⟩:=hchk p hp
  simp only [unl,hrep p.1 (zH.1 ho).1,Bool.not_false]
 refine qz9 (Y:=Y) (ps:=pm.zip js) hK (by rw [hm1];exact hnd) (fun i hi=>by rw [hm1];exact hcov i hi) (fun p hp=>(hchk p hp).2) (fun p hp=>(hchk p hp).1) hall (fun A p C e o ho q hq=>?_) ?_ ops.size (Array.replicate ops.size false) fr' L' ι' a _ (by simp) ?_ ?_ ?_ ?_ hs''
 ·obtain ⟨h1,h2⟩:=qkU hl2 e
  have hk:A.length < pm.length:=(zk.1 h2).1
  have:=hedge A.length (yA.2 hk)
  have hg:pm.getD A.length 0=p.1:=by simp [zu,h2]
  rw [hg,ho] at this
  simp only [yo] at this
  have:=this q hq
  rw [h1]
  simpa using this
 ·rw [hm2]
  simp only [qmg,zU,zj,List.isEmpty_iff,yo,decide_eq_true_eq] at h0
  rcases h0 with h0|h0
  ·exact .inl h0
  ·exact .inr h0.1
 ·intro k q hq hk
  by_cases hj:k < ops.size<;>simp [Array.getD,hj] at hk
 ·rw [hfil]
  have:=congrArg List.length hm1
  rw [zw] at this
  omega
 ·rw [hfil,hm2]
  simp only [qmg,zU,zj,List.isEmpty_iff,yo,decide_eq_true_eq] at h0
  rcases h0 with h0|h0
  ·rw [h0];intro d hd;cases hd
  ·intro d hd
   exact hF' d (by simpa using h0.2 d hd)
 ·rw [hfil,hm2]
  exact h'
theorem qzJ (hm:P.follows .mixedOrders=true) (E:Envt) (B:Base) (Y:List PV) (ops:Array Oper) (is:List IOper) (id:Nat) (fr:List AV) (L:Objs) (ι:Key→Value) (a:Act) (w:World) (K:List AV→Objs→Prop) (Q:Exit→Act→World→Prop)
  (hK:∀ fr L ι a w,K fr L→StF E B w L ι fr a→Q .normal a w) (hc:qeL P ops ops.toList is=true) (hD:qqi ops is=true) (h:qaa P E Y is fr L K) (hs:StF E B w L ι fr a):(Code.region id ops true).wp P Q a w:=by
 simp only [qqi,zj,beq_iff_eq,yo,zW] at hD
 obtain ⟨⟨⟨⟨⟨⟨hre,h0⟩,hok⟩,h1⟩,h2⟩,h3⟩,h4⟩:=hD
 obtain ⟨hc',fr',L',ι',hF',hA',h',hs'⟩:=qlC is [] fr L ι a w ops.toList hre hc (fun d hd=>by cases hd) (fun d hd=>by cases hd) h hs
 rw [yg] at hF' hA'
 generalize qbO is=hls at *
 generalize qfH is=js at *
 obtain ⟨g1,g2⟩:=qmv hc' (fun i hi=>h1 i hi)
 have hI:InvA (qas js) fr' L':=fun d hd=>by
  have hm:=h0 d hd
  have hm:d∈hls:=by simpa using hm
  exact ⟨qn0 (hF' d hm).1 d,(hF' d hm).2,.inl (hA' d hm)⟩
 refine wp_region_any hm ?_
 have hs'':StF E B { w with drawn:=w.drawn+1 } L' ι' fr' a:=hs'.grown ⟨rfl,rfl,rfl,zD _,fun _ _ _=>rfl⟩
 have hl:(zA js.length).length=js.length:=by simp
 have hz1:((zA js.length).zip js).map (·.1)=zA js.length:=by rw [← List.unzip_fst,List.unzip_zip hl]
 have hz2:((zA js.length).zip js).map (·.2)=js:=by rw [← List.unzip_snd,List.unzip_zip hl]
 have zmem:∀ (p:Nat×IOper),p∈(zA js.length).zip js→p.1 < js.length∧js[p.1]?=some p.2:=by
  intro p hp
  obtain ⟨k,hk⟩:=zQ hp
  rw [List.getElem?_zip_eq_some] at hk
  obtain ⟨h1,h2⟩:=hk
  rw [zX (by have:=(zk.1 h2).1;exact this)] at h1
  cases h1
  exact ⟨(zk.1 h2).1,h2⟩
 have hrep:∀ j,j < ops.size→(Array.replicate ops.size false).getD j true=false:=by
  intro j hj
  simp [Array.getD,hj]
 have hfil:((zA js.length).zip js).filter (unl (Array.replicate ops.size false))=(zA js.length).zip js:=by
  refine List.filter_eq_self.2 fun p hp=>?_
  simp only [unl,hrep p.1 (by rw [← h2];exact (zmem p hp).1),Bool.not_false]
 refine qz8 (Y:=Y) (ps:=(zA js.length).zip js) hK (by rw [hz1];exact List.nodup_range) (fun i hi=>by rw [hz1,yA,h2];exact hi) (fun p hp=>?_) (fun p hp=>h1 _ (zm (zmem p hp).2)) h3 (ts:=qas js) (fun p hp=>hok _ (zm (zmem p hp).2)) (fun A p C e o ho q hq=>?_) ops.size (Array.replicate ops.size false) fr' L' ι' a _ (by simp) ?_ ?_ hI ?_ hs''
 ·obtain ⟨o,ho,hh⟩:=g2 p.1 p.2 (zmem p hp).2
  exact ⟨o,by simpa using ho,hh⟩
 ·obtain ⟨k1,k2⟩:=qkU hl e
  have hAl:A.length < js.length:=by
   have:=(zk.1 k2).1
   simpa using this
  rw [zX hAl] at k2
  have hp1:=Option.some.inj k2
  have hlt:p.1 < ops.size:=(zH.1 ho).1
  have:=h4 p.1 (by simpa using hlt)
  rw [ho] at this
  simp only [yo,decide_eq_true_eq] at this
  have hqlt:=this q hq
  rw [k1,List.mem_take_iff_getElem]
  refine ⟨q,by simp;omega,by simp⟩
 ·intro k q hq hk
  by_cases hj:k < ops.size<;>simp [Array.getD,hj] at hk
 ·rw [hfil];simp [h2]
 ·rw [hfil,hz2]
  exact h'
theorem qxZ (hm:P.follows .mixedOrders=true):qvx P qoL:=by
 refine ⟨?_,fun E B Y ops pm is id fr L ι a w K Q hK hc hD h hs=>qzK hm E B Y ops pm is id fr L ι a w K Q hK hc hD h hs⟩
 intro E B Y ops is id fr L ι a w K Q hK hc hD h hs
 simp only [qoL,zU] at hD
 rcases hD with hD|hD
 rotate_left
 ·exact qzJ hm E B Y ops is id fr L ι a w K Q hK hc hD h hs
 simp only [qt3,zj,beq_iff_eq,yo,zW] at hD
 obtain ⟨⟨⟨⟨⟨hre,h0⟩,h1⟩,h2⟩,h3⟩,h4⟩:=hD
 obtain ⟨hc',fr',L',ι',hF',_,h',hs'⟩:=qlC is [] fr L ι a w ops.toList hre hc (fun d hd=>by cases hd) (fun d hd=>by cases hd) h hs
 rw [yg] at hF'
 generalize qbO is=hls at *
 generalize qfH is=js at *
 obtain ⟨g1,g2⟩:=qmv hc' (fun i hi=>h1 i hi)
 refine wp_region_any hm ?_
 have hs'':StF E B { w with drawn:=w.drawn+1 } L' ι' fr' a:=hs'.grown ⟨rfl,rfl,rfl,zD _,fun _ _ _=>rfl⟩
 have hrep:∀ j,(Array.replicate ops.size false).getD j true=false↔j < ops.size:=by
  intro j
  by_cases hj:j < ops.size<;>simp [Array.getD,hj]
 have hfil:((zA js.length).zip js).filter (unl (Array.replicate ops.size false))=(zA js.length).zip js:=by
  refine List.filter_eq_self.2 fun p hp=>?_
  obtain ⟨k,hk⟩:=zQ hp
  rw [List.getElem?_zip_eq_some] at hk
  have hkl:=(zk.1 hk.2).1
  rw [zX hkl] at hk
  cases hk.1
  simp only [unl,(hrep p.1).2 (by rw [← h2];exact hkl),Bool.not_false]
 refine qBw (Y:=Y) (js:=js) hK h2 (fun k i hk=>?_) (fun i hi=>h1 i hi) h3 (fun i o ho e he=>?_) ?_ ops.size (Array.replicate ops.size false) fr' L' ι' a _ (by simp) ?_ ?_ ?_ ?_ hs''
 ·obtain ⟨o,ho,hh⟩:=g2 k i hk
  exact ⟨o,by simpa using ho,hh⟩
 ·have hlt:i < ops.size:=(zH.1 ho).1
  have:=h4 i (by simpa using hlt)
  rw [ho] at this
  simp only [yo,decide_eq_true_eq] at this
  exact this e he
 ·simp only [qmg,zU,zj,List.isEmpty_iff,yo,decide_eq_true_eq] at h0
  rcases h0 with h0|h0
  ·exact .inl h0
  ·exact .inr h0.1
 ·intro k q hq hk
  by_cases hj:k < ops.size<;>simp [Array.getD,hj] at hk
 ·rw [hfil];simp [h2]
 ·rw [hfil]
  have e:((zA js.length).zip js).map (·.2)=js:=by
   rw [← List.unzip_snd,List.unzip_zip (by simp)]
  rw [e]
  simp only [qmg,zU,zj,List.isEmpty_iff,yo,decide_eq_true_eq] at h0
  rcases h0 with h0|h0
  ·rw [h0];intro d hd;cases hd
  ·exact fun d hd=>hF' d (by simpa using h0.2 d hd)
 ·rw [hfil]
  have:((zA js.length).zip js).map (·.2)=js:=by
   rw [← List.unzip_snd,List.unzip_zip (by simp)]
  rw [this]
  exact h'
end
end Go.Proofs.YtmpdnpljdcincaaGreatDoor
