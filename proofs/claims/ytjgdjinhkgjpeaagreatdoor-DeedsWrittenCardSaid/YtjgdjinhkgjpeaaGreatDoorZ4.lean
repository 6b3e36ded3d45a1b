import Derived.Test.YtjgdjinhkgjpeaaGreatDoorZ3
import Derived.Test.YtjgdjinhkgjpeaaGreatDoorZ1
set_option linter.unusedVariables false
set_option linter.unusedSimpArgs false
set_option linter.defProp false
namespace Go.Proofs.YtjgdjinhkgjpeaaGreatDoor
open Option.some renaming injEq→zg
open Prod.mk renaming injEq→zn
open Nat renaming le_refl→zT
open List renaming all_eq_true→yb,cons_append→zo,eq_nil_of_length_eq_zero→zy,getD→zO,getD_eq_getElem?_getD→zG,getElem?_eq_getElem→zr,getElem?_eq_none→yo,getElem?_eq_some_iff→zw,getElem?_map→zB,getElem?_of_mem→yq,length_append→zx,length_cons→zk,length_nil→zp,map_append→yh,map_cons→zl,mem_append→zC,mem_cons→zI,mem_map→zK,mem_of_getElem?→zD,mem_singleton→zL,nil_append→zq,range→zM,replicate→zJ,take_succ_eq_append_getElem→zX
open Bool renaming and_eq_true→zh,not_eq_false'→yp,not_eq_true'→zW,or_eq_true→yd
open Option renaming map_eq_some_iff→zi,map_some→zF
open _root_.Array renaming getD_eq_getD_getElem?→zA,getElem?_eq_some_iff→zz,getElem?_setIfInBounds_ne→zN
section
variable {P:Program} {E:Envt} {Y:List PV} {fr:List AV} {L:Objs}
def InvT (d:Nat) (fr:List AV) (L:Objs):Prop:=(fr.set d .any).map (·.kill (.l d))=fr.set d .any∧Zau (.l d) L=L∧(fr.getD d .any=.any∨fr.getD d .any=.adr (.l d) 0)
def InvA (ts:List Nat) (fr:List AV) (L:Objs):Prop:=∀ d∈ts,InvT d fr L
theorem qeE {ts:List Nat} {i:IOper} (h:okT ts i=true):(∃ d t z,i=⟨some d,.alcd t z,none⟩∧d∈ts)∨(∃ sz d x,i=⟨none,.st sz (.t d) x,none⟩∧d∈ts∧∀ s∈qaM x,s∉ts)∨(∃ l,qaG i=some l∧qjE i.op=true∧(∀ s∈l,s∉ts)∧∀ d,i.dst=some d→d∉ts):=by
 unfold okT at h
 split at h
 ·exact .inl ⟨_,_,_,rfl,by simpa using h⟩
 ·rw [zh,yb] at h
  exact .inr (.inl ⟨_,_,_,rfl,by simpa using h.1,fun s hs=>by simpa using h.2 s hs⟩)
 ·split at h
  ·rename_i l hl
   rw [zh,zh,yb] at h
   refine .inr (.inr ⟨l,hl,h.1.1,fun s hs=>by simpa using h.1.2 s hs,fun d hd=>?_⟩)
   have:=h.2
   rw [hd] at this
   simpa using this
  ·cases h
theorem qq2 {i:IOper} {l:List Nat} {d:Nat} (h:qaG i=some l) (hd:d∉l):sx P E Y (fr.set d .any) L i=sx P E Y fr L i:=qfQ (d:=some d) h fun e he=>by cases he;exact hd
theorem qqZ {i:IOper} {l:List Nat} {d:Nat} {a:AO} (h:qaG i=some l) (hf:qjE i.op=true) (hd:d∉l) (hI:InvT d fr L):sx P E Y fr (Zat L (.l d) a) i=sx P E Y fr L i:=by
 rw [← qq2 h hd,qoi hf (by rw [h];rfl) hI.1,qq2 h hd]
theorem qkp {d:Nat} {e:Option Nat} {r:AV} (h:∀ q,e=some q→q≠d):(Zg fr e r).getD d .any=fr.getD d .any:=by
 cases e with
 |none=>rfl
 |some q=>simp only [Zg,zO];rw [List.getElem?_set_ne (h q rfl)]
theorem qsX {d:Nat} {e:Option Nat} {r q:AV} (h:∀ q,e=some q→q≠d):(Zg fr e r).set d q=Zg (fr.set d q) e r:=by
 cases e with
 |none=>rfl
 |some k=>simp only [Zg];exact List.set_comm _ _ (h k rfl)
theorem InvT.setD {d:Nat} {e:Option Nat} {r:AV} (hI:InvT d fr L) (he:∀ q,e=some q→q≠d) (hr:r.kill (.l d)=r):InvT d (Zg fr e r) L:=
 ⟨by rw [qsX he];exact qon hI.1 hr,hI.2.1,by rw [qkp he];exact hI.2.2⟩
theorem qxE {ts:List Nat} {i:IOper} {l:List Nat} {c:Prop} {r:AV} (h:qaG i=some l) (hl:∀ s∈l,s∉ts) (hd:∀ d,i.dst=some d→d∉ts) (hI:InvA ts fr L) (hs:sx P E Y fr L i=some (c,r)):InvA ts (Zg fr i.dst r) L:=fun d hm=>
 (hI d hm).setD (fun q hq e=>hd q hq (e ▸ hm)) (qq1 (by rw [h];rfl) (hI d hm).1 (hI d hm).2.1 (by rw [qq2 h (fun hc=>hl d hc hm)];exact hs))
theorem InvT.put {d:Nat} {k:Key} {a:AO} (hI:InvT d fr L) (ha:a.kill (.l d)=a):InvT d fr (Zat L k a):=⟨hI.1,qdZ hI.2.1 ha,hI.2.2⟩
theorem qtm {ts:List Nat} {e:Nat} {t:TypeId} {zero:List PV} (hI:InvA ts fr L):InvA ts (fr.set e (.adr (.l e) 0)) (Zat L (.l e) (.box (zero.map .p) t)):=by
 intro d hm
 by_cases he:e=d
 ·subst he
  refine ⟨by rw [List.set_set];exact (hI e hm).1,qdZ (hI e hm).2.1 qiO,?_⟩
  by_cases hl:e < fr.length
  ·right;simp [zO,hl]
  ·left;simp [zO,yo,hl]
 ·have:=((hI d hm).put (k:=.l e) (a:=.box (zero.map .p) t) qiO).setD (e:=some e) (r:=.adr (.l e) 0) (fun q hq=>by cases hq;exact he) (by simp [AV.kill,he])
  exact this
theorem st_t {sz e:Nat} {x:Opd} {c:Prop} {L':Objs} (hI:InvT e fr L) (hx:e∉qaM x) (h:stx fr L sz (.t e) x=some (c,L')) :
  ∃ cs bt vals,Zas L (.l e)=some (.box cs bt)∧L'=Zat L (.l e) (.box (Zac cs 0 vals) bt)∧(∀ d,(fr.set d .any).map (·.kill (.l d))=fr.set d .any→d∉qaM x→∀ v∈vals,v.kill (.l d)=v)∧
   ∀ L2,Zas L2 (.l e)=Zas L (.l e)→(∀ k kv a b,Zas L k=some (.map kv a b)→Zas L2 k=some (.map kv a b))→stx fr L2 sz (.t e) x=some (c,Zat L2 (.l e) (.box (Zac cs 0 vals) bt)):=by
 rcases hI.2.2 with h0|h0
 ·have hp:(rd fr (.t e)).un=(True,.any):=by simp only [rd,h0];rfl
  simp [stx,Ze,hp] at h
 have hp:(rd fr (.t e)).un=(True,.adr (.l e) 0):=by simp only [rd,h0];rfl
 simp only [stx,Ze,hp] at h ⊢
 have hk:∀ d,(fr.set d .any).map (·.kill (.l d))=fr.set d .any→d∉qaM x→(rd fr x).un.2.kill (.l d)=(rd fr x).un.2:=by
  intro d h1 h2
  rw [← qap (r:=.any) h2]
  exact qcy h1 (c:=(rd (fr.set d .any) x).un.1) rfl
 generalize hv:(rd fr x).un=q at h hk ⊢
 obtain ⟨cx,v⟩:=q
 simp only at hk
 cases v with
 |p v=>
  simp only at h ⊢
  split at h
  ·rename_i cs bt hl
   split at h
   ·rename_i hc
    simp only [zF,zg,zn] at h
    obtain ⟨rfl,rfl⟩:=h
    refine ⟨cs,bt,(Zz v).map .p,hl,rfl,fun d _ _ y hy=>by obtain ⟨z,_,rfl⟩:=zK.1 hy;rfl,fun L2 h2 _=>?_⟩
    rw [h2,hl]
    simp only [if_pos hc,zF]
   ·cases h
  ·cases h
 |row k=>
  simp only at h ⊢
  split at h
  ·rename_i cs bt hl
   split at h
   ·rename_i hc
    simp only [zF,zg,zn] at h
    obtain ⟨rfl,rfl⟩:=h
    refine ⟨cs,bt,[.row k],hl,rfl,fun d h1 h2 y hy=>by rw [zL] at hy;subst hy;exact hk d h1 h2,fun L2 h2 _=>?_⟩
    rw [h2,hl]
    simp only [if_pos hc,zF]
   ·cases h
  ·cases h
 |mp k=>
  simp only at h ⊢
  split at h
  ·rename_i cs bt kv ta tb hl hm
   split at h
   ·rename_i hc
    simp only [zF,zg,zn] at h
    obtain ⟨rfl,rfl⟩:=h
    refine ⟨cs,bt,[.mp k],hl,rfl,fun d h1 h2 y hy=>by rw [zL] at hy;subst hy;exact hk d h1 h2,fun L2 h2 h3=>?_⟩
    rw [h2,hl,h3 k _ _ _ hm]
    simp only [if_pos hc,zF]
   ·cases h
  ·cases h
 |fn f ks=>
  cases ks with
  |cons _ _=>simp at h
  |nil=>
   simp only at h ⊢
   split at h
   ·rename_i cs bt hl
    split at h
    ·rename_i hc
     simp only [zF,zg,zn] at h
     obtain ⟨rfl,rfl⟩:=h
     refine ⟨cs,bt,[.p (.clo f [])],hl,rfl,fun d _ _ y hy=>by rw [zL] at hy;subst hy;rfl,fun L2 h2 _=>?_⟩
     rw [h2,hl]
     simp only [if_pos hc,zF]
    ·cases h
   ·cases h
 |_=>simp at h
theorem quu {ts:List Nat} {sz e:Nat} {x:Opd} {c:Prop} {L':Objs} (hI:InvA ts fr L) (he:e∈ts) (hx:∀ s∈qaM x,s∉ts) (h:stx fr L sz (.t e) x=some (c,L')):InvA ts fr L':=by
 intro d hm
 obtain ⟨cs,bt,vals,h1,rfl,h3,_⟩:=st_t (hI e he) (fun hc=>hx e hc he) h
 refine (hI d hm).put (box_fix.2 (qcQ (box_fix.1 (qaN (hI d hm).2.1 h1)) ?_))
 exact h3 d (hI d hm).1 fun hc=>hx d hc hm
theorem qrx {k:Key} {a:AO} (hk:∀ kv x y,Zas L k≠some (.map kv x y)):∀ k' kv x y,Zas L k'=some (.map kv x y)→Zas (Zat L k a) k'=some (.map kv x y):=by
 intro k' kv x y h
 by_cases e:k'=k
 ·subst e
  exact absurd h (hk kv x y)
 ·rw [qad,if_neg e]
  exact h
theorem qnr {k:Key} {a:AO} (hk:∀ kv x y,a≠.map kv x y):∀ k' kv x y,Zas (Zat L k a) k'=some (.map kv x y)→Zas L k'=some (.map kv x y):=by
 intro k' kv x y h
 rw [qad] at h
 split at h
 ·exact absurd (Option.some.inj h) (hk kv x y)
 ·exact h
theorem qoP {d:Nat} {fr':List AV} {L':Objs} (hI:InvT d fr L) (hg:fr'.getD d .any=fr.getD d .any) (hF:Zam d fr' L'):Zam d fr L:=by
 refine ⟨?_,hI.2.1⟩
 rcases hI.2.2 with h|h
 ·have:fr.set d .any=fr:=by
   apply List.ext_getElem
   ·simp
   ·intro i h1 h2
    rw [List.getElem_set]
    split
    ·rename_i e
     subst e
     simpa [zO,zr h2] using h.symm
    ·rfl
  rw [← this]
  exact hI.1
 ·exfalso
  rw [h] at hg
  have hl:d < fr'.length:=by
   by_cases hl:d < fr'.length
   ·exact hl
   ·rw [zO,yo (by omega)] at hg
    cases hg
  have hm:AV.adr (.l d) 0∈fr':=by
   rw [zO,zr hl] at hg
   simp only [Option.getD_some] at hg
   rw [← hg]
   exact List.getElem_mem hl
  have:=qmc hF.1 _ hm
  simp [AV.kill] at this
theorem qtc {ts:List Nat} {i:IOper} {d:Nat} {l:List Nat} (h:okT ts i=true) (hn:isN i=some (d,l)):d∈ts∧l=[]∧∃ t z,i=⟨some d,.alcd t z,none⟩:=by
 rcases qeE h with ⟨d',t,z,rfl,hm⟩|⟨sz,d',x,rfl,_,_⟩|⟨l',hl,_⟩
 ·simp only [isN,zg,zn] at hn
  obtain ⟨rfl,rfl⟩:=hn
  exact ⟨hm,rfl,t,z,rfl⟩
 ·simp [isN] at hn
 ·exfalso
  rcases qlr hn with ⟨t,zero,rfl,_⟩|⟨e,z,parts,rfl,_⟩|⟨n,f,args,e,z,rfl,_⟩<;>simp [qaG,qcl] at hl
variable {is:List IOper} {K:List AV→Objs→Prop}
theorem qjv {ts:List Nat} {sz d:Nat} {v:Opd} {y:IOper} {l:List Nat} (hI:InvA ts fr L) (hd:d∈ts) (hv:∀ s∈qaM v,s∉ts) (hl:qaG y=some l) (hf:qjE y.op=true) (hr:∀ s∈l,s∉ts) (hy:∀ q,y.dst=some q→q≠d∧q∉qaM v) :
  qaa P E Y (⟨none,.st sz (.t d) v,none⟩ :: y :: is) fr L K↔qaa P E Y (y :: ⟨none,.st sz (.t d) v,none⟩ :: is) fr L K:=by
 have hs:∀ r,stx (Zg fr y.dst r) L sz (.t d) v=stx fr L sz (.t d) v:=fun r=>qh3 fun e he=>by
  obtain ⟨h1,h2⟩:=hy e he
  simp only [qaM,zC,zL,not_or]
  exact ⟨h1,h2⟩
 have hsx:(qaG y).isSome=true:=by rw [hl];rfl
 constructor
 ·intro h
  rw [qaH] at h
  obtain ⟨c,L',e1,hc,h⟩:=h
  rw [qar hsx] at h
  obtain ⟨c2,r,e2,hc2,h⟩:=h
  obtain ⟨cs,bt,vals,h1,rfl,_,_⟩:=st_t (hI d hd) (fun q=>hv d q hd) e1
  rw [qqZ hl hf (fun q=>hr d q hd) (hI d hd)] at e2
  rw [qar hsx]
  refine ⟨c2,r,e2,hc2,?_⟩
  rw [qaH]
  exact ⟨c,_,by rw [hs];exact e1,hc,h⟩
 ·intro h
  rw [qar hsx] at h
  obtain ⟨c2,r,e2,hc2,h⟩:=h
  rw [qaH] at h
  obtain ⟨c,L',e1,hc,h⟩:=h
  rw [hs] at e1
  rw [qaH]
  refine ⟨c,L',e1,hc,?_⟩
  obtain ⟨cs,bt,vals,h1,rfl,_,_⟩:=st_t (hI d hd) (fun q=>hv d q hd) e1
  rw [qar hsx]
  exact ⟨c2,r,by rw [qqZ hl hf (fun q=>hr d q hd) (hI d hd)];exact e2,hc2,h⟩
theorem qjw {ts:List Nat} {sz d:Nat} {v:Opd} {sz2 e:Nat} {u:Opd} (hI:InvA ts fr L) (hd:d∈ts) (he:e∈ts) (hde:d≠e) (hv:∀ s∈qaM v,s∉ts) (hu:∀ s∈qaM u,s∉ts) (h:qaa P E Y (⟨none,.st sz (.t d) v,none⟩ :: ⟨none,.st sz2 (.t e) u,none⟩ :: is) fr L K) :
  qaa P E Y (⟨none,.st sz2 (.t e) u,none⟩ :: ⟨none,.st sz (.t d) v,none⟩ :: is) fr L K:=by
 have hk:Key.l d≠Key.l e:=by simpa using hde
 rw [qaH] at h
 obtain ⟨c,L1,e1,hc,h⟩:=h
 have hI1:=quu hI hd hv e1
 obtain ⟨cs,bt,vals,h1,rfl,_,h4⟩:=st_t (hI d hd) (fun q=>hv d q hd) e1
 rw [qaH] at h
 obtain ⟨c2,L2,e2,hc2,h⟩:=h
 obtain ⟨cs2,bt2,vals2,g1,rfl,_,g4⟩:=st_t (hI1 e he) (fun q=>hu e q he) e2
 have hle:Zas L (.l e)=Zas (Zat L (.l d) (.box (Zac cs 0 vals) bt)) (.l e):=by rw [qad,if_neg (Ne.symm hk)]
 have hle2:Zas L (.l e)=some (.box cs2 bt2):=by rw [hle];exact g1
 rw [qaH]
 refine ⟨c2,_,g4 L hle (qnr (fun _ _ _=>by simp)),hc2,?_⟩
 rw [qaH]
 refine ⟨c,_,h4 _ (by rw [qad,if_neg hk]) (qrx (fun kv x y q=>by rw [hle2] at q;cases q)),hc,?_⟩
 rw [qeD _ _ (Ne.symm hk) (by rw [hle2];rfl) (by rw [h1];rfl)]
 exact h
theorem qnJ {ts:List Nat} {sz d e:Nat} {v:Opd} {t:TypeId} {z:List PV} (hI:InvA ts fr L) (hd:d∈ts) (he:e∈ts) (hde:e≠d) (hv:∀ s∈qaM v,s∉ts) (h:qaa P E Y (⟨some e,.alcd t z,none⟩ :: ⟨none,.st sz (.t d) v,none⟩ :: is) fr L K) :
  qaa P E Y (⟨none,.st sz (.t d) v,none⟩ :: ⟨some e,.alcd t z,none⟩ :: is) fr L K:=by
 have hk:Key.l e≠Key.l d:=by simpa using hde
 have hn:isN ⟨some e,.alcd t z,none⟩=some (e,[]):=rfl
 rw [qay hn] at h
 obtain ⟨⟨hF,hh⟩,c1,r,ao,e1,hc1,h⟩:=h
 have e1':=e1
 simp only [nx,zg,zn] at e1
 obtain ⟨rfl,rfl,rfl⟩:=e1
 rw [qaH] at h
 obtain ⟨c,L',e2,hc,h⟩:=h
 have hs:stx (fr.set e (.adr (.l e) 0)) (Zat L (.l e) (.box (z.map .p) t)) sz (.t d) v=stx fr (Zat L (.l e) (.box (z.map .p) t)) sz (.t d) v:=qh3 (d:=some e) fun q hq=>by
  cases hq
  simp only [qaM,zC,zL,not_or]
  exact ⟨hde,fun q=>hv e q he⟩
 rw [hs] at e2
 have hI1:InvT d fr (Zat L (.l e) (.box (z.map .p) t)):=(hI d hd).put qiO
 obtain ⟨cs,bt,vals,h1,rfl,h3,h4⟩:=st_t hI1 (fun q=>hv d q hd) e2
 have hld:Zas L (.l d)=some (.box cs bt):=by rw [qad,if_neg (Ne.symm hk)] at h1;exact h1
 rw [qaH]
 refine ⟨c,_,h4 L (by rw [hld,h1]) (qnr (fun _ _ _=>by simp)),hc,?_⟩
 rw [qay hn]
 refine ⟨⟨⟨hF.1,qdZ hF.2 (box_fix.2 (qcQ (box_fix.1 (qaN hF.2 hld)) (h3 e (qmD hF.1 e) (fun q=>hv e q he))))⟩,by rw [qad,if_neg hk];exact hh⟩,_,_,_,e1',trivial,?_⟩
 rw [qeD _ _ (Ne.symm hk) (by rw [hld];rfl) (by rw [hh];rfl)]
 exact h
theorem qnI {ts:List Nat} {sz d e:Nat} {v:Opd} {t:TypeId} {z:List PV} (hI:InvA ts fr L) (hd:d∈ts) (he:e∈ts) (hde:e≠d) (hv:∀ s∈qaM v,s∉ts) (h:qaa P E Y (⟨none,.st sz (.t d) v,none⟩ :: ⟨some e,.alcd t z,none⟩ :: is) fr L K) :
  qaa P E Y (⟨some e,.alcd t z,none⟩ :: ⟨none,.st sz (.t d) v,none⟩ :: is) fr L K:=by
 have hk:Key.l e≠Key.l d:=by simpa using hde
 have hn:isN ⟨some e,.alcd t z,none⟩=some (e,[]):=rfl
 rw [qaH] at h
 obtain ⟨c,L',e2,hc,h⟩:=h
 obtain ⟨cs,bt,vals,h1,rfl,h3,h4⟩:=st_t (hI d hd) (fun q=>hv d q hd) e2
 rw [qay hn] at h
 obtain ⟨⟨hF,hh⟩,c1,r,ao,e1,hc1,h⟩:=h
 have e1':=e1
 simp only [nx,zg,zn] at e1
 obtain ⟨rfl,rfl,rfl⟩:=e1
 have hhL:Zas L (.l e)=some Zan:=by rw [qad,if_neg hk] at hh;exact hh
 rw [qay hn]
 refine ⟨⟨⟨hF.1,(hI e he).2.1⟩,hhL⟩,_,_,_,e1',trivial,?_⟩
 rw [qaH]
 have hs:stx (fr.set e (.adr (.l e) 0)) (Zat L (.l e) (.box (z.map .p) t)) sz (.t d) v=stx fr (Zat L (.l e) (.box (z.map .p) t)) sz (.t d) v:=qh3 (d:=some e) fun q hq=>by
  cases hq
  simp only [qaM,zC,zL,not_or]
  exact ⟨hde,fun q=>hv e q he⟩
 refine ⟨c,_,by rw [hs];exact h4 _ (by rw [qad,if_neg (Ne.symm hk)]) (qrx (fun kv x y q=>by rw [hhL] at q;cases q)),hc,?_⟩
 rw [qeD _ _ hk (by rw [hhL];rfl) (by rw [h1];rfl)]
 exact h
theorem qxU {ts:List Nat} {i:IOper} {js:List IOper} {K':List AV→Objs→Prop} (hi:okT ts i=true) (hI:InvA ts fr L) (h:qaa P E Y (i :: is) fr L K) (hk:∀ fr L,InvA ts fr L→qaa P E Y is fr L K→qaa P E Y js fr L K'):qaa P E Y (i :: js) fr L K':=by
 rcases qeE hi with ⟨d,t,z,rfl,hm⟩|⟨sz,d,x,rfl,hd,hv⟩|⟨l,hl,hf,hr,hy⟩
 ·have hn:isN ⟨some d,.alcd t z,none⟩=some (d,[]):=rfl
  rw [qay hn] at h ⊢
  obtain ⟨h1,c1,r,ao,e1,hc1,h⟩:=h
  have e1':=e1
  simp only [nx,zg,zn] at e1
  obtain ⟨rfl,rfl,rfl⟩:=e1
  exact ⟨h1,_,_,_,e1',trivial,hk _ _ (qtm hI) h⟩
 ·rw [qaH] at h ⊢
  obtain ⟨c,L',e2,hc,h⟩:=h
  exact ⟨c,L',e2,hc,hk _ _ (quu hI hd hv e2) h⟩
 ·have hsx:(qaG i).isSome=true:=by rw [hl];rfl
  rw [qar hsx] at h ⊢
  obtain ⟨c,r,e1,hc,h⟩:=h
  exact ⟨c,r,e1,hc,hk _ _ (qxE hl hr hy hI e1) h⟩
theorem qlv {s y:IOper} (h:qtC s y=true):∃ sz d v,s=⟨none,.st sz (.t d) v,none⟩∧((∃ sz2 e u,y=⟨none,.st sz2 (.t e) u,none⟩∧d≠e)∨((∀ sz2 e u,y≠⟨none,.st sz2 (.t e) u,none⟩)∧∀ q,y.dst=some q→q≠d∧q∉qaM v)):=by
 unfold qtC at h
 split at h
 ·refine ⟨_,_,_,rfl,?_⟩
  split at h
  ·exact .inl ⟨_,_,_,rfl,by simpa using h⟩
  ·rename_i hne
   refine .inr ⟨fun sz2 e u q=>hne sz2 e u q,fun q hq=>?_⟩
   rw [hq] at h
   simpa using h
 ·cases h
theorem qtK {ts:List Nat} {x i:IOper} (hx:okT ts x=true) (hi:okT ts i=true) (ha:qkG x i=true) (hI:InvA ts fr L) (h:qaa P E Y (x :: i :: is) fr L K):qaa P E Y (i :: x :: is) fr L K:=by
 unfold qkG at ha
 rw [yd,yd] at ha
 rcases ha with (ha|ha)|ha
 ·refine qmn ha (fun d l hn=>?_) h
  obtain ⟨hm,rfl,t,z,rfl⟩:=qtc hi hn
  have hsep:=(qp8 ha).2
  rcases qeE hx with ⟨d',t',z',rfl,hm'⟩|⟨sz,d',v,rfl,_,_⟩|⟨l',hl,hf,hr,hy⟩
  ·have hne:=hsep d' [] rfl d [] hn
   rw [qay (d:=d') (l:=[]) rfl] at h
   obtain ⟨_,c1,r,ao,_,_,h⟩:=h
   rw [qay hn] at h
   exact qoP (hI d hm) (qkp (e:=some d') (fun q hq=>by cases hq;exact hne)) h.1.1
  ·rw [qaH] at h
   obtain ⟨c,L',_,_,h⟩:=h
   rw [qay hn] at h
   exact qoP (hI d hm) rfl h.1.1
  ·rw [qar (by rw [hl];rfl)] at h
   obtain ⟨c,r,_,_,h⟩:=h
   rw [qay hn] at h
   exact qoP (hI d hm) (qkp (fun q hq e=>hy q hq (e ▸ hm))) h.1.1
 ·obtain ⟨sz,d,v,rfl,h2⟩:=qlv ha
  rcases qeE hx with ⟨_,_,_,e,_⟩|⟨_,_,_,e,hd,hv⟩|⟨l',hl,_⟩
  ·cases e
  ·cases e
   rcases qeE hi with ⟨e',t',z',rfl,hm'⟩|⟨sz2,e',u,rfl,he,hu⟩|⟨l,hl,hf,hr,hy⟩
   ·rcases h2 with ⟨_,_,_,q,_⟩|⟨_,h2⟩
    ·cases q
    ·exact qnI hI hd hm' (h2 e' rfl).1 hv h
   ·rcases h2 with ⟨_,_,_,q,hne⟩|⟨hn,_⟩
    ·cases q
     exact qjw hI hd he hne hv hu h
    ·exact absurd rfl (hn _ _ _)
   ·rcases h2 with ⟨_,_,_,rfl,_⟩|⟨_,h2⟩
    ·simp [qaG,qcl] at hl
    ·exact (qjv hI hd hv hl hf hr h2).1 h
  ·simp [qaG,qcl] at hl
 ·obtain ⟨sz,d,v,rfl,h2⟩:=qlv ha
  rcases qeE hi with ⟨_,_,_,e,_⟩|⟨_,_,_,e,hd,hv⟩|⟨l',hl,_⟩
  ·cases e
  ·cases e
   rcases qeE hx with ⟨e',t',z',rfl,hm'⟩|⟨sz2,e',u,rfl,he,hu⟩|⟨l,hl,hf,hr,hy⟩
   ·rcases h2 with ⟨_,_,_,q,_⟩|⟨_,h2⟩
    ·cases q
    ·exact qnJ hI hd hm' (h2 e' rfl).1 hv h
   ·rcases h2 with ⟨_,_,_,q,hne⟩|⟨hn,_⟩
    ·cases q
     exact qjw hI he hd (Ne.symm hne) hu hv h
    ·exact absurd rfl (hn _ _ _)
   ·rcases h2 with ⟨_,_,_,rfl,_⟩|⟨_,h2⟩
    ·simp [qaG,qcl] at hl
    ·exact (qjv hI hd hv hl hf hr h2).2 h
  ·simp [qaG,qcl] at hl
theorem qqs {ts:List Nat} {i:IOper} {post:List IOper} (hi:okT ts i=true):∀ (pre:List IOper) (fr:List AV) (L:Objs),(∀ x∈pre,okT ts x=true∧qkG x i=true)→InvA ts fr L→qaa P E Y (pre++i :: post) fr L K→qaa P E Y (i :: (pre++post)) fr L K:=by
 intro pre
 induction pre with
 |nil=>intro fr L _ _ h;exact h
 |cons x pre ih=>
  intro fr L ha hI h
  obtain ⟨h1,h2⟩:=ha x (by simp)
  exact qtK h1 hi h2 hI (qxU h1 hI h fun fr L hI h=>ih fr L (fun y hy=>ha y (by simp [hy])) hI h)
end
section
variable {P:Program} {E:Envt} {Y:List PV} {B:Base}
theorem qly {ops:Array Oper}:∀ {js:List IOper} {os:List Oper},qeT P ops os js=true→(∀ i∈js,isFz i=false)→js.length=os.length∧∀ (k:Nat) (i:IOper),js[k]?=some i→∃ o,os[k]?=some o∧qf0 P ops o i=true:=by
 intro js
 induction js with
 |nil=>intro os h _;simp only [qeT,List.isEmpty_iff] at h;subst h;simp
 |cons i js ih=>
  intro os h hf
  simp only [qeT] at h
  rw [if_neg (by simp [hf i (by simp)])] at h
  split at h
  ·rename_i o os'
   simp only [zh] at h
   obtain ⟨h1,h2⟩:=ih h.2 (fun j hj=>hf j (by simp [hj]))
   refine ⟨by simp [h1],fun k x hx=>?_⟩
   cases k with
   |zero=>simp at hx;subst hx;exact ⟨o,rfl,h.1⟩
   |succ k=>simp at hx;simpa using h2 k x hx
  ·cases h
theorem qox {ops:Array Oper} {n i:Nat} {ii:IOper}:∀ {l:List (Nat×IOper)},ql4 ops n i ii l=true→∀ y∈l,qg3 y.2 ii=true∨ancB ops n i y.1=true:=by
 intro l
 induction l with
 |nil=>intro _ y hy;cases hy
 |cons q l ih=>
  intro h y hy
  obtain ⟨j,jj⟩:=q
  simp only [ql4,zh,yd] at h
  simp only [zI] at hy
  rcases hy with rfl|hy
  ·exact h.1
  ·exact ih h.2 y hy
theorem qn4 {ops:Array Oper} {n:Nat}:∀ {l seen:List (Nat×IOper)},qo7 ops n seen l=true→∀ (pre:List (Nat×IOper)) (x:Nat×IOper) (post:List (Nat×IOper)),l=pre++x :: post→∀ y∈seen++pre,qg3 y.2 x.2=true∨ancB ops n x.1 y.1=true:=by
 intro l
 induction l with
 |nil=>intro seen _ pre x post h;cases pre<;>cases h
 |cons q l ih=>
  intro seen h pre x post e y hy
  obtain ⟨i,ii⟩:=q
  simp only [qo7,zh] at h
  cases pre with
  |nil=>
   simp only [zq,List.cons.injEq] at e
   obtain ⟨rfl,rfl⟩:=e
   exact qox h.1 y (by simpa using hy)
  |cons p pre=>
   simp only [zo,List.cons.injEq] at e
   obtain ⟨rfl,rfl⟩:=e
   exact ih h.2 pre x post rfl y (by simpa using hy)
def qmS (ops:Array Oper) (listed:Array Bool):Prop:=∀ (i:Nat) (o:Oper),ops[i]?=some o→listed.getD i false=true→∀ e∈qgm o,listed.getD e false=true
theorem qhi {ops:Array Oper} {listed:Array Bool} (hc:qmS ops listed):∀ (n i j:Nat) (o:Oper),ops[i]?=some o→(∀ e∈qgm o,listed.getD e false=true)→ancB ops n i j=true→listed.getD j false=true:=by
 intro n
 induction n with
 |zero=>intro i j o _ _ h;simp [ancB] at h
 |succ n ih=>
  intro i j o ho he h
  simp only [ancB,ho,List.any_eq_true,yd,beq_iff_eq] at h
  obtain ⟨e,h1,h2⟩:=h
  rcases h2 with rfl|h2
  ·exact he e h1
  ·cases hoe:ops[e]? with
   |none=>cases n<;>simp [ancB,hoe] at h2
   |some oe=>exact ih e j oe hoe (hc e oe hoe (he e h1)) h2
theorem mem_ready {ops:Array Oper} {listed:Array Bool} {i:Nat}:i∈Region.ready .any ops listed↔∃ o,ops[i]?=some o∧listed.getD i true=false∧∀ e∈qgm o,listed.getD e false=true:=by
 simp only [Region.ready,List.mem_filter,List.mem_range,zh,zW]
 constructor
 ·rintro ⟨h1,h2,h3⟩
  obtain ⟨o,ho⟩:∃ o,ops[i]?=some o:=⟨_,Array.getElem?_eq_getElem h1⟩
  refine ⟨o,ho,h2,fun e he=>?_⟩
  rw [ho] at h3
  simp only [zF,Option.getD_some,Array.all_eq_true'] at h3
  simp only [qgm,zK,List.mem_filter] at he
  obtain ⟨ed,⟨h4,h5⟩,rfl⟩:=he
  have:=h3 ed (by simpa using h4)
  simpa [h5] using this
 ·rintro ⟨o,ho,h2,h3⟩
  refine ⟨(zz.1 ho).1,h2,?_⟩
  rw [ho]
  simp only [zF,Option.getD_some,Array.all_eq_true']
  intro ed hed
  cases hb:Region.binds .any ed with
  |false=>simp
  |true=>simp only [Bool.not_true,Bool.false_or];exact h3 _ (by simp only [qgm,zK,List.mem_filter];exact ⟨ed,⟨by simpa using hed,hb⟩,rfl⟩)
def unl (listed:Array Bool) (p:Nat×IOper):Bool:=!listed.getD p.1 true
theorem newsOf_mem {l:List IOper} {d:Nat}:d∈qaq l↔∃ i∈l,∃ r,isN i=some (d,r):=by
 simp only [qaq,List.mem_filterMap,zi]
 constructor
 ·rintro ⟨i,hi,⟨e,r⟩,h1,rfl⟩;exact ⟨i,hi,r,h1⟩
 ·rintro ⟨i,hi,r,h1⟩;exact ⟨i,hi,(d,r),h1,rfl⟩
theorem qx5 {ops:Array Oper} {js:List IOper} {K:List AV→Objs→Prop} {Q:Exit→Act→World→Prop} (hK:∀ fr L ι a w,K fr L→StF E B w L ι fr a→Q .normal a w) (hjs:js.length=ops.size)
  (hget:∀ (k:Nat) (i:IOper),js[k]?=some i→∃ o,ops[k]?=some o∧qf0 P ops o i=true) (hfz:∀ i∈js,isFz i=false) (hall:qo7 ops ops.size [] ((zM js.length).zip js)=true)
  (hedge:∀ (i:Nat) (o:Oper),ops[i]?=some o→∀ e∈qgm o,e < i) (hnews:qaq js=[]∨(∀ p∈(zM js.length).zip js,okBy (qaq js) p.2=true∨qrr ops js p.1=true)∧(qaq js).Nodup) :
  ∀ (fuel:Nat) (listed:Array Bool) (fr:List AV) (L:Objs) (ι:Key→Value) (a:Act) (w:World),listed.size=ops.size→qmS ops listed→fuel=(((zM js.length).zip js).filter (unl listed)).length→
   qb6 (qaq ((((zM js.length).zip js).filter (unl listed)).map (·.2))) fr L→
   qaa P E Y ((((zM js.length).zip js).filter (unl listed)).map (·.2)) fr L K→StF E B w L ι fr a→wpAny P .any ops Q fuel listed a w:=by
 intro fuel
 have zget:∀ (k:Nat) (x:IOper),js[k]?=some x→((zM js.length).zip js)[k]?=some (k,x):=by
  intro k x hk
  rw [List.getElem?_zip_eq_some]
  exact ⟨by rw [List.getElem?_range (zw.1 hk).1],hk⟩
 have zmem:∀ (p:Nat×IOper),p∈(zM js.length).zip js→p.1 < js.length∧js[p.1]?=some p.2:=by
  intro p hp
  obtain ⟨k,hk⟩:=yq hp
  rw [List.getElem?_zip_eq_some] at hk
  obtain ⟨h1,h2⟩:=hk
  rw [List.getElem?_range (by have:=(zw.1 h2).1;exact this)] at h1
  cases h1
  exact ⟨(zw.1 h2).1,h2⟩
 induction fuel with
 |zero=>
  intro listed fr L ι a w hsz hcl hf hFr h hs
  have hnil:((zM js.length).zip js).filter (unl listed)=[]:=zy hf.symm
  rw [hnil] at h
  refine ⟨?_,hK fr L ι a w h hs⟩
  refine List.eq_nil_iff_forall_not_mem.2 fun i hi=>?_
  obtain ⟨o,ho,h2,_⟩:=mem_ready.1 hi
  have hlt:i < js.length:=by rw [hjs];exact (zz.1 ho).1
  have:(i,js[i])∈((zM js.length).zip js).filter (unl listed):=by
   simp only [List.mem_filter]
   exact ⟨zD (zget i _ (zr hlt)),by simp [unl,h2]⟩
  rw [hnil] at this
  cases this
 |succ fuel ih=>
  intro listed fr L ι a w hsz hcl hf hFr h hs
  have hready:Region.ready .any ops listed≠[]:=by
   intro hnil
   cases hrem:((zM js.length).zip js).filter (unl listed) with
   |nil=>rw [hrem] at hf;simp at hf
   |cons p rest=>
    have hp:p∈((zM js.length).zip js).filter (unl listed):=by rw [hrem];simp
    have hex:∃ i,i < js.length∧listed.getD i true=false∧∀ j,j < i→listed.getD j true=true:=by
     obtain ⟨h1,h2⟩:=List.mem_filter.1 hp
     have hp1:=(zmem p h1).1
     have hpu:listed.getD p.1 true=false:=by simpa [unl] using h2
     have:∀ m i,i≤m→i < js.length→listed.getD i true=false→∃ i,i < js.length∧listed.getD i true=false∧∀ j,j < i→listed.getD j true=true:=by
      intro m
      induction m with
      |zero=>intro i hi h1 h2;exact ⟨i,h1,h2,fun j hj=>by omega⟩
      |succ m ihm=>
       intro i hi h1 h2
       by_cases hex:∃ j,j < i∧listed.getD j true=false
       ·obtain ⟨j,hj1,hj2⟩:=hex
        exact ihm j (by omega) (by omega) hj2
       ·refine ⟨i,h1,h2,fun j hj=>?_⟩
        cases hq:listed.getD j true with
        |true=>rfl
        |false=>exact absurd ⟨j,hj,hq⟩ hex
     exact this p.1 p.1 (zT _) hp1 hpu
    obtain ⟨i,hi1,hi2,hi3⟩:=hex
    obtain ⟨o,ho,_⟩:=hget i _ (zr hi1)
    have:i∈Region.ready .any ops listed:=mem_ready.2 ⟨o,ho,hi2,fun e he=>by
     have hlt:=hedge i o ho e he
     have:=hi3 e hlt
     have hes:e < listed.size:=by rw [hsz,← hjs];omega
     simp only [Array.getD,hes,dite_true] at this ⊢
     exact this⟩
    rw [hnil] at this
    cases this
  refine ⟨fun hn=>absurd hn hready,fun i hi=>?_⟩
  obtain ⟨o,ho,hun,hed⟩:=mem_ready.1 hi
  have hlt:i < js.length:=by rw [hjs];exact (zz.1 ho).1
  have hil:i < listed.size:=by rw [hsz,← hjs];exact hlt
  obtain ⟨ii,hii⟩:∃ ii,js[i]?=some ii:=⟨_,zr hlt⟩
  have hsplit:(zM js.length).zip js=((zM js.length).zip js).take i++(i,ii) :: ((zM js.length).zip js).drop (i+1):=by
   have hzl:((zM js.length).zip js).length=js.length:=by simp
   have e:((zM js.length).zip js)[i]?=some (i,ii):=by
    rw [List.getElem?_zip_eq_some]
    exact ⟨by rw [List.getElem?_range hlt],hii⟩
   rw [zw] at e
   obtain ⟨h1,h2⟩:=e
   rw [← h2,← List.drop_eq_getElem_cons h1,List.take_append_drop]
  have hpre:∀ p∈((zM js.length).zip js).take i,p.1 < i:=by
   intro p hp
   obtain ⟨k,hk⟩:=yq hp
   rw [List.getElem?_take] at hk
   split at hk
   ·rename_i hki
    rw [List.getElem?_zip_eq_some] at hk
    rw [List.getElem?_range (by omega)] at hk
    cases hk.1
    exact hki
   ·cases hk
  have hpost:∀ p∈((zM js.length).zip js).drop (i+1),i < p.1:=by
   intro p hp
   obtain ⟨k,hk⟩:=yq hp
   rw [List.getElem?_drop,List.getElem?_zip_eq_some] at hk
   have hkl:=(zw.1 hk.2).1
   rw [List.getElem?_range hkl] at hk
   have:=Option.some.inj hk.1
   omega
  have hunl:unl listed (i,ii)=true:=by simp [unl,hun]
  have hfil:((zM js.length).zip js).filter (unl listed)=(((zM js.length).zip js).take i).filter (unl listed)++(i,ii) :: (((zM js.length).zip js).drop (i+1)).filter (unl listed):=by
   conv=>lhs;rw [hsplit]
   rw [List.filter_append,List.filter_cons_of_pos hunl]
  have hgd:∀ j,j≠i→(listed.setIfInBounds i true).getD j true=listed.getD j true:=by
   intro j hj
   rw [zA,zA,zN (Ne.symm hj)]
  have hself:∀ b,(listed.setIfInBounds i true).getD i b=true:=by
   intro b
   rw [zA,Array.getElem?_setIfInBounds_self_of_lt hil]
   rfl
  have hfil':((zM js.length).zip js).filter (unl (listed.setIfInBounds i true))=(((zM js.length).zip js).take i).filter (unl listed)++(((zM js.length).zip js).drop (i+1)).filter (unl listed):=by
   conv=>lhs;rw [hsplit]
   rw [List.filter_append,List.filter_cons_of_neg (by simp [unl,hself])]
   congr 1
   ·refine List.filter_congr fun p hp=>?_
    have:=hpre p hp
    simp only [unl,hgd p.1 (by omega)]
   ·refine List.filter_congr fun p hp=>?_
    have:=hpost p hp
    simp only [unl,hgd p.1 (by omega)]
  have hap:∀ x∈((((zM js.length).zip js).take i).filter (unl listed)).map (·.2),qg3 x ii=true:=by
   intro x hx
   obtain ⟨p,hp,rfl⟩:=zK.1 hx
   obtain ⟨hp1,hp2⟩:=List.mem_filter.1 hp
   rcases qn4 hall _ _ _ hsplit p (by simpa using hp1) with h'|h'
   ·exact h'
   ·have:=qhi hcl _ i p.1 o ho hed h'
    have hpl:p.1 < listed.size:=by have:=hpre p hp1;omega
    simp only [unl,Array.getD,hpl,dite_true] at hp2 this
    rw [this] at hp2
    cases hp2
  have hsub:((((zM js.length).zip js).filter (unl listed)).map (·.2)).Sublist js:=by
   have e:((zM js.length).zip js).map (·.2)=js:=by rw [← List.unzip_snd,List.unzip_zip (by simp)]
   have:=(List.filter_sublist (p:=unl listed) (l:=(zM js.length).zip js)).map (·.2)
   rwa [e] at this
  rw [hfil] at h hf hFr hsub
  simp only [yh,zl] at h hFr hsub
  generalize hA:((((zM js.length).zip js).take i).filter (unl listed)).map (·.2)=A at *
  generalize hC:((((zM js.length).zip js).drop (i+1)).filter (unl listed)).map (·.2)=C at *
  have hfront:=qnq _ fr L hap (fun d hd=>hFr d (by
   obtain ⟨q,hq,r,hr⟩:=newsOf_mem.1 hd
   simp only [zL] at hq
   exact newsOf_mem.2 ⟨q,by simp [hq],r,hr⟩)) h
  have hrest:qb6 (qaq (A++C)) fr L:=fun d hd=>hFr d (by
   obtain ⟨q,hq,r,hr⟩:=newsOf_mem.1 hd
   refine newsOf_mem.2 ⟨q,?_,r,hr⟩
   simp only [zC,zI] at hq ⊢
   rcases hq with hq|hq
   ·exact .inl hq
   ·exact .inr (.inr hq))
  have hemp:qaq js=[]→qaq (A++C)=[]:=by
   intro hn
   refine List.eq_nil_iff_forall_not_mem.2 fun d hd=>?_
   obtain ⟨q,hq,r,hr⟩:=newsOf_mem.1 hd
   have:d∈qaq js:=newsOf_mem.2 ⟨q,hsub.subset (by
    simp only [zC,zI] at hq ⊢
    rcases hq with hq|hq
    ·exact .inl hq
    ·exact .inr (.inr hq)),r,hr⟩
   rw [hn] at this
   cases this
  have hlate:qrr ops js i=true→qaq (A++C)=[]:=by
   intro hl
   refine List.eq_nil_iff_forall_not_mem.2 fun d hd=>?_
   obtain ⟨q,hq,r,hr⟩:=newsOf_mem.1 hd
   obtain ⟨p,hp1,hp2,rfl⟩:∃ p,p∈(zM js.length).zip js∧unl listed p=true∧p.2=q:=by
    rcases zC.1 hq with hq|hq
    ·rw [← hA] at hq
     obtain ⟨p,hp,rfl⟩:=zK.1 hq
     obtain ⟨hp1,hp2⟩:=List.mem_filter.1 hp
     exact ⟨p,List.mem_of_mem_take hp1,hp2,rfl⟩
    ·rw [← hC] at hq
     obtain ⟨p,hp,rfl⟩:=zK.1 hq
     obtain ⟨hp1,hp2⟩:=List.mem_filter.1 hp
     exact ⟨p,List.mem_of_mem_drop hp1,hp2,rfl⟩
   have h':=yb.1 hl p hp1
   simp only [hr,Option.isNone_some,Bool.false_or] at h'
   have:=qhi hcl _ i p.1 o ho hed h'
   have hpl:p.1 < listed.size:=by have:=(zmem p hp1).1;omega
   simp only [unl,Array.getD,hpl,dite_true] at hp2 this
   rw [this] at hp2
   cases hp2
  have hfront:qaa P E Y (ii :: []) fr L (fun fr L=>qb6 (qaq (A++C)) fr L∧qaa P E Y (A++C) fr L K)∨(qaa P E Y (ii :: (A++C)) fr L K∧qaq (A++C)=[]):=by
   rcases hnews with hn|⟨h1,h2⟩
   ·exact .inr ⟨hfront,hemp hn⟩
   ·rcases h1 (i,ii) (zD (zget i ii hii)) with h1|h1
    rotate_left
    ·exact .inr ⟨hfront,hlate h1⟩
    rcases qnp h1 with hok|⟨d0,hd0,hn0⟩
    rotate_left
    ·refine .inl (qjx hd0 (fun hm=>hn0 ?_) hrest hfront (fun fr L hF h=>⟨hF,h⟩))
     obtain ⟨q,hq,r,hr⟩:=newsOf_mem.1 hm
     refine newsOf_mem.2 ⟨q,hsub.subset ?_,r,hr⟩
     simp only [zC,zI] at hq ⊢
     rcases hq with hq|hq
     ·exact .inl hq
     ·exact .inr (.inr hq)
    refine .inl (qg1 hok ?_ hrest hfront (fun fr L hF h=>⟨hF,h⟩))
    intro d l hd hm
    have hnd:(qaq (A++ii :: C)).Nodup:=(hsub.filterMap _).nodup h2
    have hp:(qaq (A++ii :: C)).Perm (qaq (ii :: (A++C))):=List.Perm.filterMap _ List.perm_middle
    have hnd2:=hp.nodup_iff.1 hnd
    have e:qaq (ii :: (A++C))=d :: qaq (A++C):=by simp [qaq,hd]
    rw [e] at hnd2
    exact (List.nodup_cons.1 hnd2).1 hm
  have hfi:isFz ii=false:=hfz ii (zD hii)
  obtain ⟨o',ho',hchk⟩:=hget i ii hii
  rw [ho] at ho'
  cases ho'
  have cont:∀ fr' L' ι' a' w',qb6 (qaq (A++C)) fr' L'→qaa P E Y (A++C) fr' L' K→StF E B w' L' ι' fr' a'→wpAny P .any ops Q fuel (listed.setIfInBounds i true) a' w':=by
   intro fr' L' ι' a' w' hF' h' hs'
   refine ih (listed.setIfInBounds i true) fr' L' ι' a' w' (by simpa using hsz) ?_ ?_ ?_ ?_ hs'
   ·intro k q hq hk e he
    by_cases hki:k=i
    ·subst hki
     rw [ho] at hq
     cases hq
     by_cases hei:e=k
     ·subst hei;exact hself _
     ·have:=hed e he
      rw [zA,zN (Ne.symm hei),← zA]
      exact this
    ·rw [zA,zN (Ne.symm hki),← zA] at hk
     have:=hcl k q hq hk e he
     by_cases hei:e=i
     ·subst hei;exact hself _
     ·rw [zA,zN (Ne.symm hei),← zA]
      exact this
   ·rw [hfil']
    simp only [zx,zk] at hf ⊢
    omega
   ·rw [hfil',yh,hA,hC]
    exact hF'
   ·rw [hfil',yh,hA,hC]
    exact h'
  have hstep:if Region.wanted o (yielded ops a.tmps) then o.wp P a w (wpAny P .any ops Q fuel (listed.setIfInBounds i true)) Q else wpAny P .any ops Q fuel (listed.setIfInBounds i true) (a.put o.dst undef) w:=by
   rcases hfront with hfront|⟨hfront,hn⟩
   ·exact qes hchk hfi hfront hs (fun fr' L' ι' a' w' h' hs'=>by
     simp only [qaa] at h'
     exact cont fr' L' ι' a' w' h'.1 h'.2 hs')
   ·exact qes hchk hfi hfront hs (fun fr' L' ι' a' w' h' hs'=>cont fr' L' ι' a' w' (by rw [hn];intro d hd;cases hd) h' hs')
  unfold wpOp
  rw [ho]
  simp only
  by_cases hw:Region.wanted o (yielded ops a.tmps)=true
  ·rw [if_pos hw] at hstep ⊢
   exact .inl hstep
  ·rw [if_neg hw] at hstep ⊢
   exact hstep
theorem qkF {ops:Array Oper} {K:List AV→Objs→Prop}:∀ (is:List IOper) (ds:List Nat) (fr:List AV) (L:Objs) (ι:Key→Value) (a:Act) (w:World) (os:List Oper),(∀ i∈is,isRe i=false)→qeT P ops os is=true→qb6 ds fr L→(∀ d∈ds,fr.getD d .any=.any)→qaa P E Y is fr L K→StF E B w L ι fr a→qeT P ops os (qfK is)=true∧∃ fr' L' ι',qb6 (ds++qbS is) fr' L'∧(∀ d∈ds++qbS is,fr'.getD d .any=.any)∧qaa P E Y (qfK is) fr' L' K∧StF E B w L' ι' fr' a:=by
 intro is
 induction is with
 |nil=>intro ds fr L ι a w os _ hc hF hA h hs;exact ⟨hc,fr,L,ι,by simpa [qbS] using hF,by simpa [qbS] using hA,h,hs⟩
 |cons i is ih=>
  intro ds fr L ι a w os hre hc hF hA h hs
  have hre':∀ i∈is,isRe i=false:=fun j hj=>hre j (by simp [hj])
  simp only [qfK,qbS]
  by_cases hf:isFz i=true
  ·rw [if_pos hf,if_pos hf]
   simp only [qeT] at hc
   rw [if_pos hf] at hc
   rcases qoK hf with ⟨x,rfl⟩|⟨x,rfl⟩|rfl
   ·simp only [qaa] at h
    split at h
    ·rename_i k y hk
     exact ih ds _ _ ι a w os hre' hc (fun d hd=>(hF d hd).thaw) (fun d hd=>by have:=hA d hd;rw [zO,zB];rw [zO] at this;cases hq:fr[d]? with|none=>rfl|some q=>rw [hq] at this;simp only [Option.getD_some] at this;subst this;rfl) h (qvX hs hk)
    ·exact ih ds _ _ ι a w os hre' hc hF hA h hs
   ·simp only [qaa] at h
    obtain ⟨h1,fr',L',ι',h2,h2a,h3⟩:=ih (ds++[x]) _ _ _ a w os hre' hc (fun d hd=>by
     rcases zC.1 hd with hd|hd
     ·exact (hF d hd).hole x
     ·simp only [zL] at hd
      subst hd
      exact Zam.hole_self d fr L) (fun d hd=>by
     by_cases hx:x=d
     ·subst hx
      by_cases hl:x < fr.length
      ·simp [zO,hl]
      ·simp [zO,yo,hl]
     ·have hd':d∈ds:=(zC.1 hd).resolve_right (fun q=>hx (zL.1 q).symm)
      have:=hA d hd'
      rw [zO,List.getElem?_set_ne hx,zB]
      rw [zO] at this
      cases hq:fr[d]? with
      |none=>rfl
      |some q=>rw [hq] at this;simp only [Option.getD_some] at this;subst this;rfl) h (qoM hs x)
    exact ⟨h1,fr',L',ι',by simpa using h2,by simpa using h2a,h3⟩
   ·have:=hre _ (List.mem_cons_self ..)
    cases this
  ·rw [if_neg hf,if_neg hf]
   exact ⟨hc,fr,L,ι,by simpa using hF,by simpa using hA,h,hs⟩
theorem qnY {K:List AV→Objs→Prop}:∀ (is:List IOper) (ds:List Nat) (fr:List AV) (L:Objs) (ι:Key→Value) (a:Act) (w:World),(∀ i∈is,isRe i=false)→qb6 ds fr L→(∀ d∈ds,fr.getD d .any=.any)→qaa P E Y is fr L K→StF E B w L ι fr a→∃ fr' L' ι',qb6 (ds++qbS is) fr' L'∧(∀ d∈ds++qbS is,fr'.getD d .any=.any)∧qaa P E Y (qfK is) fr' L' K∧StF E B w L' ι' fr' a:=by
 intro is
 induction is with
 |nil=>intro ds fr L ι a w _ hF hA h hs;exact ⟨fr,L,ι,by simpa [qbS] using hF,by simpa [qbS] using hA,h,hs⟩
 |cons i is ih=>
  intro ds fr L ι a w hre hF hA h hs
  have hre':∀ i∈is,isRe i=false:=fun j hj=>hre j (by simp [hj])
  simp only [qfK,qbS]
  by_cases hf:isFz i=true
  ·rw [if_pos hf,if_pos hf]
   rcases qoK hf with ⟨x,rfl⟩|⟨x,rfl⟩|rfl
   ·simp only [qaa] at h
    split at h
    ·rename_i k y hk
     exact ih ds _ _ ι a w hre' (fun d hd=>(hF d hd).thaw) (fun d hd=>by have:=hA d hd;rw [zO,zB];rw [zO] at this;cases hq:fr[d]? with|none=>rfl|some q=>rw [hq] at this;simp only [Option.getD_some] at this;subst this;rfl) h (qvX hs hk)
    ·exact ih ds _ _ ι a w hre' hF hA h hs
   ·simp only [qaa] at h
    obtain ⟨fr',L',ι',h2,h2a,h3⟩:=ih (ds++[x]) _ _ _ a w hre' (fun d hd=>by
     rcases zC.1 hd with hd|hd
     ·exact (hF d hd).hole x
     ·simp only [zL] at hd
      subst hd
      exact Zam.hole_self d fr L) (fun d hd=>by
     by_cases hx:x=d
     ·subst hx
      by_cases hl:x < fr.length
      ·simp [zO,hl]
      ·simp [zO,yo,hl]
     ·have hd':d∈ds:=(zC.1 hd).resolve_right (fun q=>hx (zL.1 q).symm)
      have:=hA d hd'
      rw [zO,List.getElem?_set_ne hx,zB]
      rw [zO] at this
      cases hq:fr[d]? with
      |none=>rfl
      |some q=>rw [hq] at this;simp only [Option.getD_some] at this;subst this;rfl) h (qoM hs x)
    exact ⟨fr',L',ι',by simpa using h2,by simpa using h2a,h3⟩
   ·have:=hre _ (List.mem_cons_self ..)
    cases this
  ·rw [if_neg hf,if_neg hf]
   exact ⟨fr,L,ι,by simpa using hF,by simpa using hA,h,hs⟩
theorem qwI {ops:Array Oper} {ps:List (Nat×IOper)} {K:List AV→Objs→Prop} {Q:Exit→Act→World→Prop} (hK:∀ fr L ι a w,K fr L→StF E B w L ι fr a→Q .normal a w) (hnd:(ps.map (·.1)).Nodup) (hcov:∀ i,i < ops.size→i∈ps.map (·.1))
  (hget:∀ p∈ps,∃ o,ops[p.1]?=some o∧qf0 P ops o p.2=true) (hfz:∀ p∈ps,isFz p.2=false) (hall:qo7 ops ops.size [] ps=true)
  (hedge:∀ A p C,ps=A++p :: C→∀ o,ops[p.1]?=some o→∀ e∈qgm o,e∈A.map (·.1)) (hnews:qaq (ps.map (·.2))=[]∨(∀ i∈ps.map (·.2),okBy (qaq (ps.map (·.2))) i=true)∧(qaq (ps.map (·.2))).Nodup) :
  ∀ (fuel:Nat) (listed:Array Bool) (fr:List AV) (L:Objs) (ι:Key→Value) (a:Act) (w:World),listed.size=ops.size→qmS ops listed→fuel=(ps.filter (unl listed)).length→qb6 (qaq ((ps.filter (unl listed)).map (·.2))) fr L→
   qaa P E Y ((ps.filter (unl listed)).map (·.2)) fr L K→StF E B w L ι fr a→wpAny P .any ops Q fuel listed a w:=by
 intro fuel
 induction fuel with
 |zero=>
  intro listed fr L ι a w hsz hcl hf hFr h hs
  have hnil:ps.filter (unl listed)=[]:=zy hf.symm
  rw [hnil] at h
  refine ⟨?_,hK fr L ι a w h hs⟩
  refine List.eq_nil_iff_forall_not_mem.2 fun i hi=>?_
  obtain ⟨o,ho,h2,_⟩:=mem_ready.1 hi
  obtain ⟨p,hp,rfl⟩:=zK.1 (hcov i (zz.1 ho).1)
  have:p∈ps.filter (unl listed):=List.mem_filter.2 ⟨hp,by simp [unl,h2]⟩
  rw [hnil] at this
  cases this
 |succ fuel ih=>
  intro listed fr L ι a w hsz hcl hf hFr h hs
  have hready:Region.ready .any ops listed≠[]:=by
   intro hnil
   have hex:∃ A p C,ps=A++p :: C∧unl listed p=true∧∀ x∈A,unl listed x=false:=by
    cases hrem:ps.filter (unl listed) with
    |nil=>rw [hrem] at hf;simp at hf
    |cons p rest=>
     obtain ⟨A,C,e,h1,h2,_⟩:=List.filter_eq_cons_iff.1 hrem
     exact ⟨A,p,C,e,h2,fun x hx=>by simpa using h1 x hx⟩
   obtain ⟨A,p,C,e,hp,hA⟩:=hex
   obtain ⟨o,ho,_⟩:=hget p (by rw [e];simp)
   have hpu:listed.getD p.1 true=false:=by simpa [unl] using hp
   have:p.1∈Region.ready .any ops listed:=mem_ready.2 ⟨o,ho,hpu,fun e' he=>by
    obtain ⟨x,hx,rfl⟩:=zK.1 (hedge A p C e o ho e' he)
    have h1:=hA x hx
    simp only [unl,yp] at h1
    obtain ⟨ox,hox,_⟩:=hget x (by rw [e];simp [hx])
    have hes:x.1 < listed.size:=by rw [hsz];exact (zz.1 hox).1
    simp only [Array.getD,hes,dite_true] at h1 ⊢
    exact h1⟩
   rw [hnil] at this
   cases this
  refine ⟨fun hn=>absurd hn hready,fun i hi=>?_⟩
  obtain ⟨o,ho,hun,hed⟩:=mem_ready.1 hi
  have hilt:=(zz.1 ho).1
  have hil:i < listed.size:=by rw [hsz];exact hilt
  obtain ⟨q,hq,hqi⟩:=zK.1 (hcov i hilt)
  obtain ⟨A,C,hsplit⟩:=List.append_of_mem hq
  obtain ⟨i',ii⟩:=q
  simp only at hqi
  subst hqi
  have hne:∀ p∈A++C,p.1≠i':=by
   intro p hp he
   have h1:((i' :: (A++C).map (·.1))).Nodup:=by
    have hp2:(ps.map (·.1)).Perm (i' :: (A++C).map (·.1)):=by
     rw [hsplit,yh,yh,zl]
     exact List.perm_middle
    exact hp2.nodup_iff.1 hnd
   rw [List.nodup_cons] at h1
   exact h1.1 (he ▸ List.mem_map_of_mem hp)
  have hunl:unl listed (i',ii)=true:=by simp [unl,hun]
  have hfil:ps.filter (unl listed)=A.filter (unl listed)++(i',ii) :: C.filter (unl listed):=by
   rw [hsplit,List.filter_append,List.filter_cons_of_pos hunl]
  have hgd:∀ j,j≠i'→(listed.setIfInBounds i' true).getD j true=listed.getD j true:=by
   intro j hj
   rw [zA,zA,zN (Ne.symm hj)]
  have hself:∀ b,(listed.setIfInBounds i' true).getD i' b=true:=by
   intro b
   rw [zA,Array.getElem?_setIfInBounds_self_of_lt hil]
   rfl
  have hfil':ps.filter (unl (listed.setIfInBounds i' true))=A.filter (unl listed)++C.filter (unl listed):=by
   rw [hsplit,List.filter_append,List.filter_cons_of_neg (by simp [unl,hself])]
   congr 1
   ·refine List.filter_congr fun p hp=>?_
    simp only [unl,hgd p.1 (hne p (by simp [hp]))]
   ·refine List.filter_congr fun p hp=>?_
    simp only [unl,hgd p.1 (hne p (by simp [hp]))]
  have hap:∀ x∈(A.filter (unl listed)).map (·.2),qg3 x ii=true:=by
   intro x hx
   obtain ⟨p,hp,rfl⟩:=zK.1 hx
   obtain ⟨hp1,hp2⟩:=List.mem_filter.1 hp
   rcases qn4 hall A (i',ii) C hsplit p (by simpa using hp1) with h'|h'
   ·exact h'
   ·have:=qhi hcl _ i' p.1 o ho hed h'
    obtain ⟨ox,hox,_⟩:=hget p (by rw [hsplit];simp [hp1])
    have hpl:p.1 < listed.size:=by rw [hsz];exact (zz.1 hox).1
    simp only [unl,Array.getD,hpl,dite_true] at hp2 this
    rw [this] at hp2
    cases hp2
  have hsub:((ps.filter (unl listed)).map (·.2)).Sublist (ps.map (·.2)):=(List.filter_sublist (p:=unl listed) (l:=ps)).map (·.2)
  rw [hfil] at h hf hFr hsub
  simp only [yh,zl] at h hFr hsub
  have hcont:∀ {A2 C2:List IOper} {d:Nat},d∈qaq (A2++C2)→d∈qaq (A2++ii :: C2):=by
   intro A2 C2 d hd
   obtain ⟨q,hq,r,hr⟩:=newsOf_mem.1 hd
   refine newsOf_mem.2 ⟨q,?_,r,hr⟩
   simp only [zC,zI] at hq ⊢
   rcases hq with hq|hq
   ·exact .inl hq
   ·exact .inr (.inr hq)
  have hfront:=qnq _ fr L hap (fun d hd=>hFr d (by
   obtain ⟨q,hq,r,hr⟩:=newsOf_mem.1 hd
   simp only [zL] at hq
   exact newsOf_mem.2 ⟨q,by simp [hq],r,hr⟩)) h
  have hii:ii∈ps.map (·.2):=by rw [hsplit];simp
  generalize hA2:(A.filter (unl listed)).map (·.2)=A2 at *
  generalize hC2:(C.filter (unl listed)).map (·.2)=C2 at *
  have hrest:qb6 (qaq (A2++C2)) fr L:=fun d hd=>hFr d (hcont hd)
  have hsubm:∀ d,d∈qaq (A2++C2)→d∈qaq (ps.map (·.2)):=fun d hd=>by
   obtain ⟨q,hq,r,hr⟩:=newsOf_mem.1 (hcont hd)
   exact newsOf_mem.2 ⟨q,hsub.subset hq,r,hr⟩
  have hfront:qaa P E Y (ii :: []) fr L (fun fr L=>qb6 (qaq (A2++C2)) fr L∧qaa P E Y (A2++C2) fr L K)∨(qaa P E Y (ii :: (A2++C2)) fr L K∧qaq (ps.map (·.2))=[]):=by
   rcases hnews with hn|⟨h1,h2⟩
   ·exact .inr ⟨hfront,hn⟩
   ·rcases qnp (h1 ii hii) with hok|⟨d0,hd0,hn0⟩
    rotate_left
    ·exact .inl (qjx hd0 (fun hm=>hn0 (hsubm d0 hm)) hrest hfront (fun fr L hF h=>⟨hF,h⟩))
    refine .inl (qg1 hok ?_ hrest hfront (fun fr L hF h=>⟨hF,h⟩))
    intro d l hd hm
    have hnd:(qaq (A2++ii :: C2)).Nodup:=(hsub.filterMap _).nodup h2
    have hp:(qaq (A2++ii :: C2)).Perm (qaq (ii :: (A2++C2))):=List.Perm.filterMap _ List.perm_middle
    have hnd2:=hp.nodup_iff.1 hnd
    have e:qaq (ii :: (A2++C2))=d :: qaq (A2++C2):=by simp [qaq,hd]
    rw [e] at hnd2
    exact (List.nodup_cons.1 hnd2).1 hm
  have hemp:qaq (ps.map (·.2))=[]→qaq (A2++C2)=[]:=by
   intro hn
   refine List.eq_nil_iff_forall_not_mem.2 fun d hd=>?_
   have:=hsubm d hd
   rw [hn] at this
   cases this
  obtain ⟨o',ho',hchk⟩:=hget (i',ii) hq
  rw [ho] at ho'
  cases ho'
  have hfi:isFz ii=false:=hfz (i',ii) hq
  have cont:∀ fr' L' ι' a' w',qb6 (qaq (A2++C2)) fr' L'→qaa P E Y (A2++C2) fr' L' K→StF E B w' L' ι' fr' a'→wpAny P .any ops Q fuel (listed.setIfInBounds i' true) a' w':=by
   intro fr' L' ι' a' w' hF' h' hs'
   refine ih (listed.setIfInBounds i' true) fr' L' ι' a' w' (by simpa using hsz) ?_ ?_ ?_ ?_ hs'
   ·intro k q hq2 hk e he
    by_cases hki:k=i'
    ·subst hki
     rw [ho] at hq2
     cases hq2
     by_cases hei:e=k
     ·subst hei;exact hself _
     ·have:=hed e he
      rw [zA,zN (Ne.symm hei),← zA]
      exact this
    ·rw [zA,zN (Ne.symm hki),← zA] at hk
     have:=hcl k q hq2 hk e he
     by_cases hei:e=i'
     ·subst hei;exact hself _
     ·rw [zA,zN (Ne.symm hei),← zA]
      exact this
   ·rw [hfil']
    simp only [zx,zk] at hf ⊢
    omega
   ·rw [hfil',yh,hA2,hC2]
    exact hF'
   ·rw [hfil',yh,hA2,hC2]
    exact h'
  have hstep:if Region.wanted o (yielded ops a.tmps) then o.wp P a w (wpAny P .any ops Q fuel (listed.setIfInBounds i' true)) Q else wpAny P .any ops Q fuel (listed.setIfInBounds i' true) (a.put o.dst undef) w:=by
   rcases hfront with hfront|⟨hfront,hn⟩
   ·exact qes hchk hfi hfront hs (fun fr' L' ι' a' w' h' hs'=>by
     simp only [qaa] at h'
     exact cont fr' L' ι' a' w' h'.1 h'.2 hs')
   ·exact qes hchk hfi hfront hs (fun fr' L' ι' a' w' h' hs'=>cont fr' L' ι' a' w' (by rw [hemp hn];intro d hd;cases hd) h' hs')
  unfold wpOp
  rw [ho]
  simp only
  by_cases hw:Region.wanted o (yielded ops a.tmps)=true
  ·rw [if_pos hw] at hstep ⊢
   exact .inl hstep
  ·rw [if_neg hw] at hstep ⊢
   exact hstep
theorem qqo {ops:Array Oper} {n i:Nat} {ii:IOper}:∀ {l:List (Nat×IOper)},qpF ops n i ii l=true→∀ y∈l,qkG y.2 ii=true∨ancB ops n i y.1=true:=by
 intro l
 induction l with
 |nil=>intro _ y hy;cases hy
 |cons q l ih=>
  intro h y hy
  obtain ⟨j,jj⟩:=q
  simp only [qpF,zh,yd] at h
  simp only [zI] at hy
  rcases hy with rfl|hy
  ·exact h.1
  ·exact ih h.2 y hy
theorem qt1 {ops:Array Oper} {n:Nat}:∀ {l seen:List (Nat×IOper)},allT ops n seen l=true→∀ (pre:List (Nat×IOper)) (x:Nat×IOper) (post:List (Nat×IOper)),l=pre++x :: post→∀ y∈seen++pre,qkG y.2 x.2=true∨ancB ops n x.1 y.1=true:=by
 intro l
 induction l with
 |nil=>intro seen _ pre x post h;cases pre<;>cases h
 |cons q l ih=>
  intro seen h pre x post e y hy
  obtain ⟨i,ii⟩:=q
  simp only [allT,zh] at h
  cases pre with
  |nil=>
   simp only [zq,List.cons.injEq] at e
   obtain ⟨rfl,rfl⟩:=e
   exact qqo h.1 y (by simpa using hy)
  |cons p pre=>
   simp only [zo,List.cons.injEq] at e
   obtain ⟨rfl,rfl⟩:=e
   exact ih h.2 pre x post rfl y (by simpa using hy)
theorem qwH {ops:Array Oper} {ps:List (Nat×IOper)} {K:List AV→Objs→Prop} {Q:Exit→Act→World→Prop} (hK:∀ fr L ι a w,K fr L→StF E B w L ι fr a→Q .normal a w) (hnd:(ps.map (·.1)).Nodup) (hcov:∀ i,i < ops.size→i∈ps.map (·.1))
  (hget:∀ p∈ps,∃ o,ops[p.1]?=some o∧qf0 P ops o p.2=true) (hfz:∀ p∈ps,isFz p.2=false) (hall:allT ops ops.size [] ps=true) {ts:List Nat} (hokT:∀ p∈ps,okT ts p.2=true)
  (hedge:∀ A p C,ps=A++p :: C→∀ o,ops[p.1]?=some o→∀ e∈qgm o,e∈A.map (·.1)) :
  ∀ (fuel:Nat) (listed:Array Bool) (fr:List AV) (L:Objs) (ι:Key→Value) (a:Act) (w:World),listed.size=ops.size→qmS ops listed→fuel=(ps.filter (unl listed)).length→InvA ts fr L→
   qaa P E Y ((ps.filter (unl listed)).map (·.2)) fr L K→StF E B w L ι fr a→wpAny P .any ops Q fuel listed a w:=by
 intro fuel
 induction fuel with
 |zero=>
  intro listed fr L ι a w hsz hcl hf hI h hs
  have hnil:ps.filter (unl listed)=[]:=zy hf.symm
  rw [hnil] at h
  refine ⟨?_,hK fr L ι a w h hs⟩
  refine List.eq_nil_iff_forall_not_mem.2 fun i hi=>?_
  obtain ⟨o,ho,h2,_⟩:=mem_ready.1 hi
  obtain ⟨p,hp,rfl⟩:=zK.1 (hcov i (zz.1 ho).1)
  have:p∈ps.filter (unl listed):=List.mem_filter.2 ⟨hp,by simp [unl,h2]⟩
  rw [hnil] at this
  cases this
 |succ fuel ih=>
  intro listed fr L ι a w hsz hcl hf hI h hs
  have hready:Region.ready .any ops listed≠[]:=by
   intro hnil
   have hex:∃ A p C,ps=A++p :: C∧unl listed p=true∧∀ x∈A,unl listed x=false:=by
    cases hrem:ps.filter (unl listed) with
    |nil=>rw [hrem] at hf;simp at hf
    |cons p rest=>
     obtain ⟨A,C,e,h1,h2,_⟩:=List.filter_eq_cons_iff.1 hrem
     exact ⟨A,p,C,e,h2,fun x hx=>by simpa using h1 x hx⟩
   obtain ⟨A,p,C,e,hp,hA⟩:=hex
   obtain ⟨o,ho,_⟩:=hget p (by rw [e];simp)
   have hpu:listed.getD p.1 true=false:=by simpa [unl] using hp
   have:p.1∈Region.ready .any ops listed:=mem_ready.2 ⟨o,ho,hpu,fun e' he=>by
    obtain ⟨x,hx,rfl⟩:=zK.1 (hedge A p C e o ho e' he)
    have h1:=hA x hx
    simp only [unl,yp] at h1
    obtain ⟨ox,hox,_⟩:=hget x (by rw [e];simp [hx])
    have hes:x.1 < listed.size:=by rw [hsz];exact (zz.1 hox).1
    simp only [Array.getD,hes,dite_true] at h1 ⊢
    exact h1⟩
   rw [hnil] at this
   cases this
  refine ⟨fun hn=>absurd hn hready,fun i hi=>?_⟩
  obtain ⟨o,ho,hun,hed⟩:=mem_ready.1 hi
  have hilt:=(zz.1 ho).1
  have hil:i < listed.size:=by rw [hsz];exact hilt
  obtain ⟨q,hq,hqi⟩:=zK.1 (hcov i hilt)
  obtain ⟨A,C,hsplit⟩:=List.append_of_mem hq
  obtain ⟨i',ii⟩:=q
  simp only at hqi
  subst hqi
  have hne:∀ p∈A++C,p.1≠i':=by
   intro p hp he
   have h1:((i' :: (A++C).map (·.1))).Nodup:=by
    have hp2:(ps.map (·.1)).Perm (i' :: (A++C).map (·.1)):=by
     rw [hsplit,yh,yh,zl]
     exact List.perm_middle
    exact hp2.nodup_iff.1 hnd
   rw [List.nodup_cons] at h1
   exact h1.1 (he ▸ List.mem_map_of_mem hp)
  have hunl:unl listed (i',ii)=true:=by simp [unl,hun]
  have hfil:ps.filter (unl listed)=A.filter (unl listed)++(i',ii) :: C.filter (unl listed):=by
   rw [hsplit,List.filter_append,List.filter_cons_of_pos hunl]
  have hgd:∀ j,j≠i'→(listed.setIfInBounds i' true).getD j true=listed.getD j true:=by
   intro j hj
   rw [zA,zA,zN (Ne.symm hj)]
  have hself:∀ b,(listed.setIfInBounds i' true).getD i' b=true:=by
   intro b
   rw [zA,Array.getElem?_setIfInBounds_self_of_lt hil]
   rfl
  have hfil':ps.filter (unl (listed.setIfInBounds i' true))=A.filter (unl listed)++C.filter (unl listed):=by
   rw [hsplit,List.filter_append,List.filter_cons_of_neg (by simp [unl,hself])]
   congr 1
   ·refine List.filter_congr fun p hp=>?_
    simp only [unl,hgd p.1 (hne p (by simp [hp]))]
   ·refine List.filter_congr fun p hp=>?_
    simp only [unl,hgd p.1 (hne p (by simp [hp]))]
  have hap:∀ x∈(A.filter (unl listed)).map (·.2),okT ts x=true∧qkG x ii=true:=by
   intro x hx
   obtain ⟨p,hp,rfl⟩:=zK.1 hx
   obtain ⟨hp1,hp2⟩:=List.mem_filter.1 hp
   refine ⟨hokT p (by rw [hsplit];simp [hp1]),?_⟩
   rcases qt1 hall A (i',ii) C hsplit p (by simpa using hp1) with h'|h'
   ·exact h'
   ·have:=qhi hcl _ i' p.1 o ho hed h'
    obtain ⟨ox,hox,_⟩:=hget p (by rw [hsplit];simp [hp1])
    have hpl:p.1 < listed.size:=by rw [hsz];exact (zz.1 hox).1
    simp only [unl,Array.getD,hpl,dite_true] at hp2 this
    rw [this] at hp2
    cases hp2
  rw [hfil] at h hf
  simp only [yh,zl] at h
  have hfront:=qxU (hokT (i',ii) hq) hI (qqs (hokT (i',ii) hq) _ fr L hap hI h) (js:=[]) (K':=fun fr L=>InvA ts fr L∧qaa P E Y ((A.filter (unl listed)).map (·.2)++(C.filter (unl listed)).map (·.2)) fr L K) (fun fr L hI h=>⟨hI,h⟩)
  obtain ⟨o',ho',hchk⟩:=hget (i',ii) hq
  rw [ho] at ho'
  cases ho'
  have hfi:isFz ii=false:=hfz (i',ii) hq
  have cont:∀ fr' L' ι' a' w',InvA ts fr' L'→qaa P E Y ((A.filter (unl listed)).map (·.2)++(C.filter (unl listed)).map (·.2)) fr' L' K→StF E B w' L' ι' fr' a'→wpAny P .any ops Q fuel (listed.setIfInBounds i' true) a' w':=by
   intro fr' L' ι' a' w' hI' h' hs'
   refine ih (listed.setIfInBounds i' true) fr' L' ι' a' w' (by simpa using hsz) ?_ ?_ hI' ?_ hs'
   ·intro k q hq2 hk e he
    by_cases hki:k=i'
    ·subst hki
     rw [ho] at hq2
     cases hq2
     by_cases hei:e=k
     ·subst hei;exact hself _
     ·have:=hed e he
      rw [zA,zN (Ne.symm hei),← zA]
      exact this
    ·rw [zA,zN (Ne.symm hki),← zA] at hk
     have:=hcl k q hq2 hk e he
     by_cases hei:e=i'
     ·subst hei;exact hself _
     ·rw [zA,zN (Ne.symm hei),← zA]
      exact this
   ·rw [hfil']
    simp only [zx,zk] at hf ⊢
    omega
   ·rw [hfil',yh]
    exact h'
  have hstep:if Region.wanted o (yielded ops a.tmps) then o.wp P a w (wpAny P .any ops Q fuel (listed.setIfInBounds i' true)) Q else wpAny P .any ops Q fuel (listed.setIfInBounds i' true) (a.put o.dst undef) w:=
   qes hchk hfi hfront hs (fun fr' L' ι' a' w' h' hs'=>cont fr' L' ι' a' w' h'.1 h'.2 hs')
  unfold wpOp
  rw [ho]
  simp only
  by_cases hw:Region.wanted o (yielded ops a.tmps)=true
  ·rw [if_pos hw] at hstep ⊢
   exact .inl hstep
  ·rw [if_neg hw] at hstep ⊢
   exact hstep
theorem qj3 {α β:Type}:∀ {l:List α} {m:List β} {A:List (α×β)} {p:α×β} {C:List (α×β)},l.length=m.length→l.zip m=A++p :: C→A.map (·.1)=l.take A.length∧l[A.length]?=some p.1
 |[],m,A,p,C,_,h=>by cases A<;>simp at h
 |a :: l,[],A,p,C,hl,h=>by simp at hl
 |a :: l,b :: m,[],p,C,hl,h=>by
  simp only [List.zip_cons_cons,zq,List.cons.injEq] at h
  rw [← h.1]
  exact ⟨rfl,rfl⟩
 |a :: l,b :: m,x :: A,p,C,hl,h=>by
  simp only [List.zip_cons_cons,zo,List.cons.injEq] at h
  obtain ⟨h1,h2⟩:=qj3 (by simpa using hl) h.2
  rw [← h.1]
  exact ⟨by simp [h1],by simpa using h2⟩
theorem qwm (hm:P.follows .mixedOrders=true) (E:Envt) (B:Base) (Y:List PV) (ops:Array Oper) (pm:List Nat) (is:List IOper) (id:Nat) (fr:List AV) (L:Objs) (ι:Key→Value) (a:Act) (w:World) (K:List AV→Objs→Prop) (Q:Exit→Act→World→Prop)
  (hK:∀ fr L ι a w,K fr L→StF E B w L ι fr a→Q .normal a w) (hc:qtN P ops pm is=true) (hD:qoC ops pm is=true) (h:qaa P E Y is fr L K) (hs:StF E B w L ι fr a):(Code.region id ops true).wp P Q a w:=by
 simp only [qoC,zh,beq_iff_eq,decide_eq_true_eq,yb,zW] at hD
 obtain ⟨⟨⟨⟨⟨⟨hre,h0⟩,hnd⟩,hlen⟩,hlt⟩,hall⟩,hedge⟩:=hD
 obtain ⟨fr',L',ι',hF',_,h',hs'⟩:=qnY is [] fr L ι a w hre (fun d hd=>by cases hd) (fun d hd=>by cases hd) h hs
 rw [zq] at hF'
 simp only [qtN,zh,beq_iff_eq] at hc
 obtain ⟨hl2,hc⟩:=hc
 rw [yb] at hc
 generalize qbS is=hls at *
 generalize qfK is=js at *
 have hm1:(pm.zip js).map (·.1)=pm:=by
  have:=List.unzip_zip hl2
  rw [← List.unzip_fst,this]
 have hm2:(pm.zip js).map (·.2)=js:=by
  have:=List.unzip_zip hl2
  rw [← List.unzip_snd,this]
 have hchk:∀ p∈pm.zip js,isFz p.2=false∧∃ o,ops[p.1]?=some o∧qf0 P ops o p.2=true:=by
  intro p hp
  have:=hc p hp
  rw [zh,zW] at this
  refine ⟨this.1,?_⟩
  have h2:=this.2
  split at h2
  ·rename_i o ho;exact ⟨o,ho,h2⟩
  ·cases h2
 have hcov:∀ i,i < ops.size→i∈pm:=by
  intro i hi
  simpa using hlt i (List.mem_range.2 hi)
 refine wp_region_any hm ?_
 have hs'':StF E B { w with drawn:=w.drawn+1 } L' ι' fr' a:=hs'.grown ⟨rfl,rfl,rfl,zT _,fun _ _ _=>rfl⟩
 have hrep:∀ j,j < ops.size→(Array.replicate ops.size false).getD j true=false:=by
  intro j hj
  simp [Array.getD,hj]
 have hfil:(pm.zip js).filter (unl (Array.replicate ops.size false))=pm.zip js:=by
  refine List.filter_eq_self.2 fun p hp=>?_
  obtain ⟨_,o,ho,_⟩:=hchk p hp
  simp only [unl,hrep p.1 (zz.1 ho).1,Bool.not_false]
 refine qwI (Y:=Y) (ps:=pm.zip js) hK (by rw [hm1];exact hnd) (fun i hi=>by rw [hm1];exact hcov i hi) (fun p hp=>(hchk p hp).2) (fun p hp=>(hchk p hp).1) hall (fun A p C e o ho q hq=>?_) ?_ ops.size (Array.replicate ops.size false) fr' L' ι' a _ (by simp) ?_ ?_ ?_ ?_ hs''
 ·obtain ⟨h1,h2⟩:=qj3 hl2 e
  have hk:A.length < pm.length:=(zw.1 h2).1
  have:=hedge A.length (List.mem_range.2 hk)
  have hg:pm.getD A.length 0=p.1:=by simp [zO,h2]
  rw [hg,ho] at this
  simp only [yb] at this
  have:=this q hq
  rw [h1]
  simpa using this
 ·rw [hm2]
  simp only [qrq,yd,zh,List.isEmpty_iff,yb,decide_eq_true_eq] at h0
  rcases h0 with h0|h0
  ·exact .inl h0
  ·exact .inr h0.1
 ·intro k q hq hk
  by_cases hj:k < ops.size<;>simp [Array.getD,hj] at hk
 ·rw [hfil]
  have:=congrArg List.length hm1
  rw [List.length_map] at this
  omega
 ·rw [hfil,hm2]
  simp only [qrq,yd,zh,List.isEmpty_iff,yb,decide_eq_true_eq] at h0
  rcases h0 with h0|h0
  ·rw [h0];intro d hd;cases hd
  ·intro d hd
   exact hF' d (by simpa using h0.2 d hd)
 ·rw [hfil,hm2]
  exact h'
theorem qwl (hm:P.follows .mixedOrders=true) (E:Envt) (B:Base) (Y:List PV) (ops:Array Oper) (is:List IOper) (id:Nat) (fr:List AV) (L:Objs) (ι:Key→Value) (a:Act) (w:World) (K:List AV→Objs→Prop) (Q:Exit→Act→World→Prop)
  (hK:∀ fr L ι a w,K fr L→StF E B w L ι fr a→Q .normal a w) (hc:qeT P ops ops.toList is=true) (hD:qoB ops is=true) (h:qaa P E Y is fr L K) (hs:StF E B w L ι fr a):(Code.region id ops true).wp P Q a w:=by
 simp only [qoB,zh,beq_iff_eq,yb,zW] at hD
 obtain ⟨⟨⟨⟨⟨⟨hre,h0⟩,hok⟩,h1⟩,h2⟩,h3⟩,h4⟩:=hD
 obtain ⟨hc',fr',L',ι',hF',hA',h',hs'⟩:=qkF is [] fr L ι a w ops.toList hre hc (fun d hd=>by cases hd) (fun d hd=>by cases hd) h hs
 rw [zq] at hF' hA'
 generalize qbS is=hls at *
 generalize qfK is=js at *
 obtain ⟨g1,g2⟩:=qly hc' (fun i hi=>h1 i hi)
 have hI:InvA (qaq js) fr' L':=fun d hd=>by
  have hm:=h0 d hd
  have hm:d∈hls:=by simpa using hm
  exact ⟨qmD (hF' d hm).1 d,(hF' d hm).2,.inl (hA' d hm)⟩
 refine wp_region_any hm ?_
 have hs'':StF E B { w with drawn:=w.drawn+1 } L' ι' fr' a:=hs'.grown ⟨rfl,rfl,rfl,zT _,fun _ _ _=>rfl⟩
 have hl:(zM js.length).length=js.length:=by simp
 have hz1:((zM js.length).zip js).map (·.1)=zM js.length:=by rw [← List.unzip_fst,List.unzip_zip hl]
 have hz2:((zM js.length).zip js).map (·.2)=js:=by rw [← List.unzip_snd,List.unzip_zip hl]
 have zmem:∀ (p:Nat×IOper),p∈(zM js.length).zip js→p.1 < js.length∧js[p.1]?=some p.2:=by
  intro p hp
  obtain ⟨k,hk⟩:=yq hp
  rw [List.getElem?_zip_eq_some] at hk
  obtain ⟨h1,h2⟩:=hk
  rw [List.getElem?_range (by have:=(zw.1 h2).1;exact this)] at h1
  cases h1
  exact ⟨(zw.1 h2).1,h2⟩
 have hrep:∀ j,j < ops.size→(Array.replicate ops.size false).getD j true=false:=by
  intro j hj
  simp [Array.getD,hj]
 have hfil:((zM js.length).zip js).filter (unl (Array.replicate ops.size false))=(zM js.length).zip js:=by
  refine List.filter_eq_self.2 fun p hp=>?_
  simp only [unl,hrep p.1 (by rw [← h2];exact (zmem p hp).1),Bool.not_false]
 refine qwH (Y:=Y) (ps:=(zM js.length).zip js) hK (by rw [hz1];exact List.nodup_range) (fun i hi=>by rw [hz1,List.mem_range,h2];exact hi) (fun p hp=>?_) (fun p hp=>h1 _ (zD (zmem p hp).2)) h3 (ts:=qaq js) (fun p hp=>hok _ (zD (zmem p hp).2)) (fun A p C e o ho q hq=>?_) ops.size (Array.replicate ops.size false) fr' L' ι' a _ (by simp) ?_ ?_ hI ?_ hs''
 ·obtain ⟨o,ho,hh⟩:=g2 p.1 p.2 (zmem p hp).2
  exact ⟨o,by simpa using ho,hh⟩
 ·obtain ⟨k1,k2⟩:=qj3 hl e
  have hAl:A.length < js.length:=by
   have:=(zw.1 k2).1
   simpa using this
  rw [List.getElem?_range hAl] at k2
  have hp1:=Option.some.inj k2
  have hlt:p.1 < ops.size:=(zz.1 ho).1
  have:=h4 p.1 (by simpa using hlt)
  rw [ho] at this
  simp only [yb,decide_eq_true_eq] at this
  have hqlt:=this q hq
  rw [k1,List.mem_take_iff_getElem]
  refine ⟨q,by simp;omega,by simp⟩
 ·intro k q hq hk
  by_cases hj:k < ops.size<;>simp [Array.getD,hj] at hk
 ·rw [hfil];simp [h2]
 ·rw [hfil,hz2]
  exact h'
theorem quy (hm:P.follows .mixedOrders=true):qsF P qno:=by
 refine ⟨?_,fun E B Y ops pm is id fr L ι a w K Q hK hc hD h hs=>qwm hm E B Y ops pm is id fr L ι a w K Q hK hc hD h hs⟩
 intro E B Y ops is id fr L ι a w K Q hK hc hD h hs
 simp only [qno,yd] at hD
 rcases hD with hD|hD
 rotate_left
 ·exact qwl hm E B Y ops is id fr L ι a w K Q hK hc hD h hs
 simp only [qrs,zh,beq_iff_eq,yb,zW] at hD
 obtain ⟨⟨⟨⟨⟨hre,h0⟩,h1⟩,h2⟩,h3⟩,h4⟩:=hD
 obtain ⟨hc',fr',L',ι',hF',_,h',hs'⟩:=qkF is [] fr L ι a w ops.toList hre hc (fun d hd=>by cases hd) (fun d hd=>by cases hd) h hs
 rw [zq] at hF'
 generalize qbS is=hls at *
 generalize qfK is=js at *
 obtain ⟨g1,g2⟩:=qly hc' (fun i hi=>h1 i hi)
 refine wp_region_any hm ?_
 have hs'':StF E B { w with drawn:=w.drawn+1 } L' ι' fr' a:=hs'.grown ⟨rfl,rfl,rfl,zT _,fun _ _ _=>rfl⟩
 have hrep:∀ j,(Array.replicate ops.size false).getD j true=false↔j < ops.size:=by
  intro j
  by_cases hj:j < ops.size<;>simp [Array.getD,hj]
 have hfil:((zM js.length).zip js).filter (unl (Array.replicate ops.size false))=(zM js.length).zip js:=by
  refine List.filter_eq_self.2 fun p hp=>?_
  obtain ⟨k,hk⟩:=yq hp
  rw [List.getElem?_zip_eq_some] at hk
  have hkl:=(zw.1 hk.2).1
  rw [List.getElem?_range hkl] at hk
  cases hk.1
  simp only [unl,(hrep p.1).2 (by rw [← h2];exact hkl),Bool.not_false]
 refine qx5 (Y:=Y) (js:=js) hK h2 (fun k i hk=>?_) (fun i hi=>h1 i hi) h3 (fun i o ho e he=>?_) ?_ ops.size (Array.replicate ops.size false) fr' L' ι' a _ (by simp) ?_ ?_ ?_ ?_ hs''
 ·obtain ⟨o,ho,hh⟩:=g2 k i hk
  exact ⟨o,by simpa using ho,hh⟩
 ·have hlt:i < ops.size:=(zz.1 ho).1
  have:=h4 i (by simpa using hlt)
  rw [ho] at this
  simp only [yb,decide_eq_true_eq] at this
  exact this e he
 ·simp only [qoA,yd,zh,List.isEmpty_iff,yb,decide_eq_true_eq] at h0
  rcases h0 with h0|h0
  ·exact .inl h0
  ·exact .inr h0.1
 ·intro k q hq hk
  by_cases hj:k < ops.size<;>simp [Array.getD,hj] at hk
 ·rw [hfil];simp [h2]
 ·rw [hfil]
  have e:((zM js.length).zip js).map (·.2)=js:=by
   rw [← List.unzip_snd,List.unzip_zip (by simp)]
  rw [e]
  simp only [qoA,yd,zh,List.isEmpty_iff,yb,decide_eq_true_eq] at h0
  rcases h0 with h0|h0
  ·rw [h0];intro d hd;cases hd
  ·exact fun d hd=>hF' d (by simpa using h0.2 d hd)
 ·rw [hfil]
  have:((zM js.length).zip js).map (·.2)=js:=by
   rw [← List.unzip_snd,List.unzip_zip (by simp)]
  rw [this]
  exact h'
end
def chkF (P:Program) (fn:Func) (ic:IC) (rs:List IRes) (n:Nat):Bool:=
 match fn.body with
 |some c=>chkC P qno ic c && qgd P fn.results.toList rs && fn.ntmps == n
 |none=>false
section
variable {P:Program} {E:Envt}
theorem qaf (hm:P.follows .mixedOrders=true) {f:FuncId} {fn:Func} {ic:IC} {rs:List IRes} {args:List PV} {n:Nat} {φ:PV→Prop} (hf:P.funcs[f]?=some fn) (hc:chkF P fn ic rs n=true)
  (h:awp P E ic (args.map .p++zJ (n - args.length) .any) [] (retQ rs fun x _=>φ x)):PCall P E f args φ:=by
 unfold chkF at hc
 split at hc
 ·rename_i c hb
  simp only [zh,beq_iff_eq] at hc
  exact qnm (quy hm) hf hb hc.2 hc.1.1 hc.1.2 h
 ·cases hc
def qj4 (P:Program) (E:Envt) (y:IC) (Q:AQ):AQ:=qoh (fun fr L=>awp P E y fr L Q) Q
def BrC (P:Program) (E:Envt) (b:Bool) (x y:IC) (fr:List AV) (L:Objs) (Q:AQ):Prop:=BrQ b (awp P E x fr L Q) (awp P E y fr L Q)
def qwN (P:Program) (E:Envt) (x:IC) (fr:List AV) (L:Objs) (Q:AQ):Prop:=awp P E (.loop x) fr L Q
def DrgC (P:Program) (E:Envt) (ops:List IOper) (fr:List AV) (L:Objs) (K:List AV→Objs→Prop):Prop:=∃ X,qaa P E X ops fr L K
def qc8 (P:Program) (E:Envt) (X:List PV) (is:List IOper) (K:List AV→Objs→Prop):List AV→Objs→Prop:=fun fr L=>qaa P E X is fr L K
theorem ReOk.refl {fr:List AV} {L:Objs}:ReOk E fr L fr L:=fun B w ι a hs=>⟨ι,hs⟩
theorem ReOk.trans {fr fr1 fr2:List AV} {L L1 L2:Objs} (h:ReOk E fr L fr1 L1) (k:ReOk E fr1 L1 fr2 L2):ReOk E fr L fr2 L2:=fun B w ι a hs=>by
 obtain ⟨ι1,hs1⟩:=h B w ι a hs
 exact k B w ι1 a hs1
theorem qlU {fr fr':List AV} {L L':Objs} (h1:Zb fr fr') (h2:Zd L' L):ReOk E fr L fr' L':=fun B w ι a hs=>⟨ι,hs.weak h1 h2⟩
def EndR (E:Envt) (I:Nat→List AV→Objs→Prop) (n:Nat) (fr:List AV) (L:Objs):Prop:=∃ m fr' L',m < n∧ReOk E fr L fr' L'∧I m fr' L'
def qna (E:Envt) (I:Nat→List AV→Objs→Prop) (n:Nat) (Q:AQ):AQ:=qoh (EndR E I n) Q
def CutC (P:Program) (E:Envt) (x:IC) (fr:List AV) (L:Objs) (Q:AQ):Prop:=∃ fr' L',ReOk E fr L fr' L'∧awp P E x fr' L' Q
def MidK (E:Envt) (M:List AV→Objs→Prop) (fr:List AV) (L:Objs):Prop:=∃ fr' L',ReOk E fr L fr' L'∧M fr' L'
def midQ (E:Envt) (M:List AV→Objs→Prop) (Q:AQ):AQ:=qoh (MidK E M) Q
variable {fr:List AV} {L:Objs} {Q:AQ} {X:List PV} {K:List AV→Objs→Prop}
theorem qtW:awp P E .skip fr L Q=Q .normal fr L:=rfl
theorem qtY {i:Nat}:awp P E (.exit i) fr L Q=Q (.exit i) fr L:=rfl
theorem qwA:awp P E .ret fr L Q=Q .ret fr L:=rfl
theorem qwz {x y:IC}:awp P E (.seq x y) fr L Q=awp P E x fr L (qj4 P E y Q):=rfl
theorem qsk {i:Nat} {x:IC}:awp P E (.block i x) fr L Q=awp P E x fr L (qb3 i Q):=rfl
theorem qwB {ops:List IOper}:awp P E (.reg ops) fr L Q=qaa P E [] ops fr L (Q .normal):=rfl
theorem qwD {ops:List IOper}:awp P E (.drg ops) fr L Q=DrgC P E ops fr L (Q .normal):=rfl
theorem qwC {pm:List Nat} {ops:List IOper}:awp P E (.drp pm ops) fr L Q=DrgC P E ops fr L (Q .normal):=rfl
theorem qtX {x:IC}:awp P E (.loop x) fr L Q=qwN P E x fr L Q:=rfl
theorem qtZ {c:Opd} {x y:IC}:awp P E (.cond c x y) fr L Q=(match rd fr c with|.p (.bool b)=>BrC P E b x y fr L Q|_=>False):=rfl
theorem quL {y:IC}:qj4 P E y Q .normal fr L=awp P E y fr L Q:=rfl
theorem quK {y:IC}:qj4 P E y Q .ret fr L=Q .ret fr L:=rfl
theorem quM {y:IC} {i:Nat}:qj4 P E y Q (.exit i) fr L=Q (.exit i) fr L:=rfl
theorem qtQ {i:Nat}:qb3 i Q .normal fr L=Q .normal fr L:=rfl
theorem qtP {i:Nat}:qb3 i Q .ret fr L=Q .ret fr L:=rfl
theorem qtR {i j:Nat}:qb3 i Q (.exit j) fr L=if j=i then Q .normal fr L else Q (.exit j) fr L:=rfl
theorem qs2 {I:Nat→List AV→Objs→Prop} {n:Nat}:qna E I n Q .normal fr L=EndR E I n fr L:=rfl
theorem qwE {x:IC}:awp P E (.cut x) fr L Q=CutC P E x fr L Q:=rfl
theorem qxA {M:List AV→Objs→Prop}:midQ E M Q .normal fr L=MidK E M fr L:=rfl
theorem qxz {M:List AV→Objs→Prop}:midQ E M Q .ret fr L=Q .ret fr L:=rfl
theorem qxB {M:List AV→Objs→Prop} {i:Nat}:midQ E M Q (.exit i) fr L=Q (.exit i) fr L:=rfl
theorem qs1 {I:Nat→List AV→Objs→Prop} {n:Nat}:qna E I n Q .ret fr L=Q .ret fr L:=rfl
theorem qs3 {I:Nat→List AV→Objs→Prop} {n i:Nat}:qna E I n Q (.exit i) fr L=Q (.exit i) fr L:=rfl
theorem qw6 {rs:List IRes} {φ:PV→Objs→Prop}:retQ rs φ .ret fr L=RetK (Zbd fr L rs) φ L:=rfl
theorem qw7 {rs:List IRes} {φ:PV→Objs→Prop}:retQ rs φ .normal fr L=RetK (Zbd fr L rs) φ L:=rfl
theorem qug {x y:IC}:BrC P E true x y fr L Q=awp P E x fr L Q:=by simp [BrC,BrQ]
theorem qsI {x y:IC}:BrC P E false x y fr L Q=awp P E y fr L Q:=by simp [BrC,BrQ]
theorem br {b:Bool} {x y:IC} (h1:b=true→awp P E x fr L Q) (h2:b=false→awp P E y fr L Q):BrC P E b x y fr L Q:=⟨h1,h2⟩
theorem qag {x:IC} (I:Nat→List AV→Objs→Prop) (n:Nat) (fr':List AV) (L':Objs) (h1:Zb fr fr') (h2:Zd L' L) (h0:I n fr' L') (hr:∀ n fr L,I n fr L→awp P E x fr L (qna E I n Q)):qwN P E x fr L Q:=⟨I,⟨n,fr',L',qlU h1 h2,h0⟩,hr⟩
theorem qrz {x:IC} (I:Nat→List AV→Objs→Prop) (n:Nat) (fr':List AV) (L':Objs) (h1:ReOk E fr L fr' L') (h0:I n fr' L') (hr:∀ n fr L,I n fr L→awp P E x fr L (qna E I n Q)):qwN P E x fr L Q:=⟨I,⟨n,fr',L',h1,h0⟩,hr⟩
theorem qae {I:Nat→List AV→Objs→Prop} {n:Nat} (m:Nat) (fr':List AV) (L':Objs) (hm:m < n) (h1:Zb fr fr') (h2:Zd L' L) (h0:I m fr' L'):EndR E I n fr L:=⟨m,fr',L',hm,qlU h1 h2,h0⟩
theorem qao {M:List AV→Objs→Prop} (fr':List AV) (L':Objs) (h1:Zb fr fr') (h2:Zd L' L) (h0:M fr' L'):MidK E M fr L:=⟨fr',L',qlU h1 h2,h0⟩
theorem qqv (k:Key) (cs:List PV):(cs.map AV.p).map (fun x=>AV.kill k x)=cs.map AV.p:=by
 rw [List.map_map];exact List.map_congr_left fun x _=>rfl
theorem qqu (k:Key) (y:PV) (cs:List PV):(cs.map AV.p).map (fun x=>AV.thaw k y x)=cs.map AV.p:=by
 rw [List.map_map];exact List.map_congr_left fun x _=>rfl
theorem quz {x:IC} {fr':List AV} {L':Objs} (h:awp P E x fr' L' Q) (h1:Zb fr fr') (h2:Zd L' L):CutC P E x fr L Q:=⟨fr',L',qlU h1 h2,h⟩
theorem qai {x:IC} (h2:Zd L L) (h:awp P E x fr L Q):CutC P E x fr L Q:=⟨fr,L,ReOk.refl,h⟩
theorem qhW {K':List AV→Objs→Prop} (hk:∀ fr L,K fr L→K' fr L):∀ (is:List IOper) (fr:List AV) (L:Objs),qaa P E X is fr L K→qaa P E X is fr L K':=by
 intro is
 induction is with
 |nil=>intro fr L h;exact hk fr L h
 |cons i is ih=>
  obtain ⟨d,op,gd⟩:=i
  intro fr L h
  have hcall:∀ f as d fr,qa0 P E f as L d fr (fun fr L=>qaa P E X is fr L K)→qa0 P E f as L d fr (fun fr L=>qaa P E X is fr L K'):=by
   intro f as d fr h
   rcases h with ⟨φ,h1,h2⟩|⟨bk,post,h1,h2,h3,h4⟩|⟨i0,h⟩
   ·exact .inl ⟨φ,h1,fun x hx=>ih _ _ (h2 x hx)⟩
   ·refine .inr (.inl ⟨bk,post,h1,h2,h3,fun r os' hp=>?_⟩)
    have:=h4 r os' hp
    cases r with
    |p x=>exact ih _ _ this
    |fr es e z=>cases d with
     |none=>exact ih _ _ this
     |some d=>exact ih _ _ this
    |ft es e z ps=>cases d with
     |none=>exact ih _ _ this
     |some d=>exact ih _ _ this
   ·refine .inr (.inr ⟨i0,fun w X' ι vs a1 a2 a3 a4 a5=>(h w X' ι vs a1 a2 a3 a4 a5).mono ?_⟩)
    rintro e w' ⟨v,r,L',ι',b1,b2,b3⟩
    exact ⟨v,r,L',ι',b1,ih _ _ b2,b3⟩
  cases gd with
  |none=>
   cases op with
   |call f args=>exact ⟨h.1,hcall _ _ _ _ h.2⟩
   |pcall n f args=>exact ⟨h.1,ih _ _ h.2⟩
   |dcall b f args=>
    obtain ⟨h0,k,t,cs,post,h1,h2,h3,h4,h5,h6⟩:=h
    exact ⟨h0,k,t,cs,post,h1,h2,h3,h4,h5,fun x cs' hp=>ih _ _ (h6 x cs' hp)⟩
   |callv g args=>
    simp only [qaa] at h ⊢
    split at h
    ·exact ⟨h.1,h.2.1,h.2.2.1,h.2.2.2.1,hcall _ _ _ _ h.2.2.2.2⟩
    ·exact h.elim
   |pcv n g args=>
    simp only [qaa] at h ⊢
    split at h
    ·exact ⟨h.1,ih _ _ h.2⟩
    ·exact h.elim
   |fz x=>
    simp only [qaa] at h ⊢
    split at h
    ·exact ih _ _ h
    ·exact ih _ _ h
   |hole x=>exact ih _ _ h
   |pcl n f args=>
    simp only [qaa] at h ⊢
    split at h
    ·exact ⟨h.1,ih _ _ h.2⟩
    ·exact h.elim
   |fcl n f args e z=>
    simp only [qaa] at h ⊢
    split at h
    ·exact ⟨h.1,ih _ _ h.2⟩
    ·exact h.elim
   |re=>obtain ⟨fr',L',h1,h2⟩:=h;exact ⟨fr',L',h1,ih _ _ h2⟩
   |nxt x=>
    simp only [qaa] at h ⊢
    split at h
    ·exact ⟨h.1,fun e=>ih _ _ (h.2.1 e),fun i p e=>ih _ _ (h.2.2 i p e)⟩
    ·exact h.elim
   |isn x=>
    simp only [qaa] at h ⊢
    split at h
    ·exact ⟨h.1,fun b hb=>ih _ _ (h.2 b hb)⟩
    ·exact h.elim
   |_=>
    simp only [qaa] at h ⊢
    split at h
    ·exact ⟨h.1,ih _ _ h.2⟩
    ·exact h.elim
  |some q=>
   obtain ⟨s,want⟩:=q
   simp only [qaa] at h ⊢
   split at h
   ·cases op with
    |call f args=>
     simp only at h ⊢
     rcases h with ⟨h1,⟨x,h2,h3⟩|⟨h2,h3⟩⟩
     ·exact ⟨h1,.inl ⟨x,h2,ih _ _ h3⟩⟩
     ·exact ⟨h1,.inr ⟨fun e=>hcall _ _ _ _ (h2 e),fun e=>ih _ _ (h3 e)⟩⟩
    |pcall n f args=>simp only at h ⊢;exact ⟨h.1,ih _ _ h.2⟩
    |callv g args=>
     simp only at h ⊢
     split at h
     ·rcases h with ⟨h0,h1,⟨x,h2,h3⟩|⟨h2,h3⟩⟩
      ·exact ⟨h0,h1,.inl ⟨x,h2,ih _ _ h3⟩⟩
      ·exact ⟨h0,h1,.inr ⟨fun e=>hcall _ _ _ _ (h2 e),fun e=>ih _ _ (h3 e)⟩⟩
     ·exact ⟨h.1,ih _ _ h.2⟩
    |pcl n f args=>
     simp only at h ⊢
     split at h
     ·exact ⟨h.1,ih _ _ h.2⟩
     ·exact h.elim
    |pcv n g args=>
     simp only at h ⊢
     split at h
     ·exact ⟨h.1,ih _ _ h.2⟩
     ·exact h.elim
    |_=>
     simp only at h ⊢
     split at h
     ·exact ⟨h.1,ih _ _ h.2⟩
     ·exact ⟨h.1,h.2.1,ih _ _ h.2.2⟩
   ·exact h.elim
theorem qhh:∀ (x:IC) (fr:List AV) (L:Objs) (Q Q':AQ),(∀ e fr L,Q e fr L→Q' e fr L)→awp P E x fr L Q→awp P E x fr L Q':=by
 intro x
 induction x with
 |skip=>intro fr L Q Q' hq h;exact hq _ _ _ h
 |reg ops=>intro fr L Q Q' hq h;exact qhW (hq .normal) ops fr L h
 |drg ops=>intro fr L Q Q' hq h;obtain ⟨Y,h⟩:=h;exact ⟨Y,qhW (hq .normal) ops fr L h⟩
 |drp pm ops=>intro fr L Q Q' hq h;obtain ⟨Y,h⟩:=h;exact ⟨Y,qhW (hq .normal) ops fr L h⟩
 |seq x y ihx ihy=>
  intro fr L Q Q' hq h
  refine ihx fr L _ _ (fun e fr L h=>?_) h
  cases e<;>first|exact ihy fr L Q Q' hq h|exact hq _ _ _ h
 |cond c x y ihx ihy=>
  intro fr L Q Q' hq h
  simp only [awp] at h ⊢
  split at h
  ·exact ⟨fun e=>ihx fr L Q Q' hq (h.1 e),fun e=>ihy fr L Q Q' hq (h.2 e)⟩
  ·exact h.elim
 |block i x ih=>
  intro fr L Q Q' hq h
  refine ih fr L _ _ (fun e fr L h=>?_) h
  cases e with
  |exit j=>
   simp only [qb3] at h ⊢
   split at h
   ·rename_i hj;rw [if_pos hj];exact hq _ _ _ h
   ·rename_i hj;rw [if_neg hj];exact hq _ _ _ h
  |_=>exact hq _ _ _ h
 |loop x ih=>
  intro fr L Q Q' hq h
  obtain ⟨I,h0,hr⟩:=h
  refine ⟨I,h0,fun n fr L hi=>ih fr L _ _ (fun e fr L h=>?_) (hr n fr L hi)⟩
  cases e with
  |normal=>exact h
  |_=>exact hq _ _ _ h
 |exit i=>intro fr L Q Q' hq h;exact hq _ _ _ h
 |ret=>intro fr L Q Q' hq h;exact hq _ _ _ h
 |dead=>intro fr L Q Q' hq h;exact h.elim
 |cut x ih=>intro fr L Q Q' hq h;obtain ⟨fr',L',h1,h⟩:=h;exact ⟨fr',L',h1,ih fr' L' Q Q' hq h⟩
theorem qeU {b:Bool} {x y r:IC} (M:List AV→Objs→Prop) (h1:b=true→awp P E x fr L (midQ E M Q)) (h2:b=false→awp P E y fr L (midQ E M Q)) (hM:∀ fr L,M fr L→awp P E r fr L Q):BrC P E b x y fr L (qj4 P E (.cut r) Q):=by
 have hq:∀ e fr L,midQ E M Q e fr L→qj4 P E (.cut r) Q e fr L:=by
  intro e fr L h
  cases e with
  |normal=>obtain ⟨fr',L',a1,a3⟩:=h;exact ⟨fr',L',a1,hM fr' L' a3⟩
  |_=>exact h
 exact ⟨fun e=>qhh x fr L _ _ hq (h1 e),fun e=>qhh y fr L _ _ hq (h2 e)⟩
theorem drg0 {ops:List IOper} (h:qaa P E [] ops fr L K):DrgC P E ops fr L K:=⟨_,h⟩
theorem drg1 {ops:List IOper} {x1:PV} (h:qaa P E [x1] ops fr L K):DrgC P E ops fr L K:=⟨_,h⟩
theorem drg2 {ops:List IOper} {x1 x2:PV} (h:qaa P E [x1,x2] ops fr L K):DrgC P E ops fr L K:=⟨_,h⟩
theorem drg3 {ops:List IOper} {x1 x2 x3:PV} (h:qaa P E [x1,x2,x3] ops fr L K):DrgC P E ops fr L K:=⟨_,h⟩
theorem drg4 {ops:List IOper} {x1 x2 x3 x4:PV} (h:qaa P E [x1,x2,x3,x4] ops fr L K):DrgC P E ops fr L K:=⟨_,h⟩
def isOp:IOp→Bool
 |.call ..|.pcall ..|.dcall ..|.callv ..|.pcv ..|.fz ..|.hole ..|.isn ..|.re|.nxt ..|.fcl ..|.pcl ..=>false
 |_=>true
def OpsK (P:Program) (E:Envt) (X:List PV) (q:Option (Prop×List AV×Objs)) (is:List IOper) (K:List AV→Objs→Prop):Prop:=
 match q with
 |some (c,fr',L')=>c∧qaa P E X is fr' L' K
 |none=>False
def GdK (P:Program) (E:Envt) (X:List PV) (pl:Bool) (g:Option Bool) (q:Option (Prop×AV)) (d:Option Nat) (is:List IOper) (fr:List AV) (L:Objs) (K:List AV→Objs→Prop):Prop:=
 match g with
 |some c0=>match q with
  |some (c,r)=>(c0=true→c)∧qaa P E X is (Zg fr d (.g c0 r)) L K
  |none=>pl=true∧c0=false∧qaa P E X is (Zg fr d (.g c0 .any)) L K
 |none=>False
theorem qsy {c:Prop} {fr':List AV} {L':Objs} {is:List IOper}:OpsK P E X (some (c,fr',L')) is K=(c∧qaa P E X is fr' L' K):=rfl
theorem qua {c0:Bool} {d:Option Nat} {is:List IOper}:GdK P E X true (some c0) none d is fr L K=(c0=false∧qaa P E X is (Zg fr d (.g c0 .any)) L K):=by simp [GdK]
theorem qt9 {pl c0:Bool} {c:Prop} {r:AV} {d:Option Nat} {is:List IOper}:GdK P E X pl (some c0) (some (c,r)) d is fr L K=((c0=true→c)∧qaa P E X is (Zg fr d (.g c0 r)) L K):=rfl
theorem qvF:qaa P E X [] fr L K=K fr L:=rfl
theorem qan {d:Option Nat} {op:IOp} {is:List IOper} (h:isOp op=true):qaa P E X (⟨d,op,none⟩ :: is) fr L K=OpsK P E X (Ze d fr L op) is K:=by
 cases op<;>first|rfl|(simp [isOp] at h)
theorem qaE {d:Option Nat} {op:IOp} {is:List IOper} {s:Nat} {want:Bool} (h:isOp op=true):qaa P E X (⟨d,op,some (s,want)⟩ :: is) fr L K=GdK P E X (qce op) (Zh fr s want) (Zf fr L op) d is fr L K:=by
 cases op<;>first|rfl|(simp [isOp] at h)
def qbD (P:Program) (E:Envt) (X:List PV) (q:Option (Prop×AV)) (d:Option Nat) (is:List IOper) (fr:List AV) (L:Objs) (K:List AV→Objs→Prop):Prop:=
 match q with
 |some (c,r)=>c∧qaa P E X is (Zg fr d r) L K
 |none=>False
theorem qqM {c:Prop} {r:AV} {d:Option Nat} {is:List IOper}:qbD P E X (some (c,r)) d is fr L K=(c∧qaa P E X is (Zg fr d r) L K):=rfl
theorem qal {op:IOp} {d:Option Nat} {is:List IOper} (h:Ze d fr L op=(Zf fr L op).map (fun q=>(q.1,Zg fr d q.2,L))):OpsK P E X (Ze d fr L op) is K=qbD P E X (Zf fr L op) d is fr L K:=by
 rw [h]
 cases Zf fr L op<;>rfl
theorem qyJ {d:Option Nat} {is:List IOper} {_x}:qaa P E X (⟨d,.mov _x,none⟩ :: is) fr L K=qbD P E X (Zf fr L (.mov _x)) d is fr L K:=by rw [qan rfl];exact qal rfl
theorem qzu {d:Option Nat} {is:List IOper} {s:Nat} {want:Bool} {_x}:qaa P E X (⟨d,.mov _x,some (s,want)⟩ :: is) fr L K=GdK P E X true (Zh fr s want) (Zf fr L (.mov _x)) d is fr L K:=qaE rfl
theorem qxk {d:Option Nat} {is:List IOper} {_c} {_a} {_b}:qaa P E X (⟨d,.pick _c _a _b,none⟩ :: is) fr L K=qbD P E X (Zf fr L (.pick _c _a _b)) d is fr L K:=by rw [qan rfl];exact qal rfl
theorem qxJ {d:Option Nat} {is:List IOper} {s:Nat} {want:Bool} {_c} {_a} {_b}:qaa P E X (⟨d,.pick _c _a _b,some (s,want)⟩ :: is) fr L K=GdK P E X true (Zh fr s want) (Zf fr L (.pick _c _a _b)) d is fr L K:=qaE rfl
theorem qy9 {d:Option Nat} {is:List IOper} {_b} {_x} {_y}:qaa P E X (⟨d,.bin _b _x _y,none⟩ :: is) fr L K=qbD P E X (Zf fr L (.bin _b _x _y)) d is fr L K:=by rw [qan rfl];exact qal rfl
theorem qzN {d:Option Nat} {is:List IOper} {s:Nat} {want:Bool} {_b} {_x} {_y}:qaa P E X (⟨d,.bin _b _x _y,some (s,want)⟩ :: is) fr L K=GdK P E X true (Zh fr s want) (Zf fr L (.bin _b _x _y)) d is fr L K:=qaE rfl
theorem qy7 {d:Option Nat} {is:List IOper} {_b} {_x} {_y}:qaa P E X (⟨d,.bnb _b _x _y,none⟩ :: is) fr L K=qbD P E X (Zf fr L (.bnb _b _x _y)) d is fr L K:=by rw [qan rfl];exact qal rfl
theorem qzL {d:Option Nat} {is:List IOper} {s:Nat} {want:Bool} {_b} {_x} {_y}:qaa P E X (⟨d,.bnb _b _x _y,some (s,want)⟩ :: is) fr L K=GdK P E X true (Zh fr s want) (Zf fr L (.bnb _b _x _y)) d is fr L K:=qaE rfl
theorem qyZ {d:Option Nat} {is:List IOper} {_n} {_k} {_x} {_y}:qaa P E X (⟨d,.eqa _n _k _x _y,none⟩ :: is) fr L K=qbD P E X (Zf fr L (.eqa _n _k _x _y)) d is fr L K:=by rw [qan rfl];exact qal rfl
theorem qzH {d:Option Nat} {is:List IOper} {s:Nat} {want:Bool} {_n} {_k} {_x} {_y}:qaa P E X (⟨d,.eqa _n _k _x _y,some (s,want)⟩ :: is) fr L K=GdK P E X true (Zh fr s want) (Zf fr L (.eqa _n _k _x _y)) d is fr L K:=qaE rfl
theorem qyA {d:Option Nat} {is:List IOper} {_x}:qaa P E X (⟨d,.not _x,none⟩ :: is) fr L K=qbD P E X (Zf fr L (.not _x)) d is fr L K:=by rw [qan rfl];exact qal rfl
theorem qzo {d:Option Nat} {is:List IOper} {s:Nat} {want:Bool} {_x}:qaa P E X (⟨d,.not _x,some (s,want)⟩ :: is) fr L K=GdK P E X true (Zh fr s want) (Zf fr L (.not _x)) d is fr L K:=qaE rfl
theorem qyC {d:Option Nat} {is:List IOper} {_x}:qaa P E X (⟨d,.neg _x,none⟩ :: is) fr L K=qbD P E X (Zf fr L (.neg _x)) d is fr L K:=by rw [qan rfl];exact qal rfl
theorem qzq {d:Option Nat} {is:List IOper} {s:Nat} {want:Bool} {_x}:qaa P E X (⟨d,.neg _x,some (s,want)⟩ :: is) fr L K=GdK P E X true (Zh fr s want) (Zf fr L (.neg _x)) d is fr L K:=qaE rfl
theorem qyP {d:Option Nat} {is:List IOper} {_x}:qaa P E X (⟨d,.len _x,none⟩ :: is) fr L K=qbD P E X (Zf fr L (.len _x)) d is fr L K:=by rw [qan rfl];exact qal rfl
theorem qzx {d:Option Nat} {is:List IOper} {s:Nat} {want:Bool} {_x}:qaa P E X (⟨d,.len _x,some (s,want)⟩ :: is) fr L K=GdK P E X true (Zh fr s want) (Zf fr L (.len _x)) d is fr L K:=qaE rfl
theorem qyx {d:Option Nat} {is:List IOper} {_x}:qaa P E X (⟨d,.sln _x,none⟩ :: is) fr L K=qbD P E X (Zf fr L (.sln _x)) d is fr L K:=by rw [qan rfl];exact qal rfl
theorem qzn {d:Option Nat} {is:List IOper} {s:Nat} {want:Bool} {_x}:qaa P E X (⟨d,.sln _x,some (s,want)⟩ :: is) fr L K=GdK P E X true (Zh fr s want) (Zf fr L (.sln _x)) d is fr L K:=qaE rfl
theorem o_mx {d:Option Nat} {is:List IOper} {_x} {_y}:qaa P E X (⟨d,.mx _x _y,none⟩ :: is) fr L K=qbD P E X (Zf fr L (.mx _x _y)) d is fr L K:=by rw [qan rfl];exact qal rfl
theorem g_mx {d:Option Nat} {is:List IOper} {s:Nat} {want:Bool} {_x} {_y}:qaa P E X (⟨d,.mx _x _y,some (s,want)⟩ :: is) fr L K=GdK P E X true (Zh fr s want) (Zf fr L (.mx _x _y)) d is fr L K:=qaE rfl
theorem o_mn {d:Option Nat} {is:List IOper} {_x} {_y}:qaa P E X (⟨d,.mn _x _y,none⟩ :: is) fr L K=qbD P E X (Zf fr L (.mn _x _y)) d is fr L K:=by rw [qan rfl];exact qal rfl
theorem g_mn {d:Option Nat} {is:List IOper} {s:Nat} {want:Bool} {_x} {_y}:qaa P E X (⟨d,.mn _x _y,some (s,want)⟩ :: is) fr L K=GdK P E X true (Zh fr s want) (Zf fr L (.mn _x _y)) d is fr L K:=qaE rfl
theorem qyV {d:Option Nat} {is:List IOper} {_x} {_y}:qaa P E X (⟨d,.idx _x _y,none⟩ :: is) fr L K=qbD P E X (Zf fr L (.idx _x _y)) d is fr L K:=by rw [qan rfl];exact qal rfl
theorem qzD {d:Option Nat} {is:List IOper} {s:Nat} {want:Bool} {_x} {_y}:qaa P E X (⟨d,.idx _x _y,some (s,want)⟩ :: is) fr L K=GdK P E X true (Zh fr s want) (Zf fr L (.idx _x _y)) d is fr L K:=qaE rfl
theorem qyw {d:Option Nat} {is:List IOper} {_x} {_l} {_h}:qaa P E X (⟨d,.ssl _x _l _h,none⟩ :: is) fr L K=qbD P E X (Zf fr L (.ssl _x _l _h)) d is fr L K:=by rw [qan rfl];exact qal rfl
theorem qzm {d:Option Nat} {is:List IOper} {s:Nat} {want:Bool} {_x} {_l} {_h}:qaa P E X (⟨d,.ssl _x _l _h,some (s,want)⟩ :: is) fr L K=GdK P E X true (Zh fr s want) (Zf fr L (.ssl _x _l _h)) d is fr L K:=qaE rfl
theorem qys {d:Option Nat} {is:List IOper} {_z} {_x} {_l} {_h}:qaa P E X (⟨d,.vsl _z _x _l _h,none⟩ :: is) fr L K=qbD P E X (Zf fr L (.vsl _z _x _l _h)) d is fr L K:=by rw [qan rfl];exact qal rfl
theorem qzl {d:Option Nat} {is:List IOper} {s:Nat} {want:Bool} {_z} {_x} {_l} {_h}:qaa P E X (⟨d,.vsl _z _x _l _h,some (s,want)⟩ :: is) fr L K=GdK P E X true (Zh fr s want) (Zf fr L (.vsl _z _x _l _h)) d is fr L K:=qaE rfl
theorem qyU {d:Option Nat} {is:List IOper} {_z} {_x} {_y}:qaa P E X (⟨d,.ixa _z _x _y,none⟩ :: is) fr L K=qbD P E X (Zf fr L (.ixa _z _x _y)) d is fr L K:=by rw [qan rfl];exact qal rfl
theorem qzC {d:Option Nat} {is:List IOper} {s:Nat} {want:Bool} {_z} {_x} {_y}:qaa P E X (⟨d,.ixa _z _x _y,some (s,want)⟩ :: is) fr L K=GdK P E X true (Zh fr s want) (Zf fr L (.ixa _z _x _y)) d is fr L K:=qaE rfl
theorem qyX {d:Option Nat} {is:List IOper} {_o} {_x}:qaa P E X (⟨d,.fla _o _x,none⟩ :: is) fr L K=qbD P E X (Zf fr L (.fla _o _x)) d is fr L K:=by rw [qan rfl];exact qal rfl
theorem qzF {d:Option Nat} {is:List IOper} {s:Nat} {want:Bool} {_o} {_x}:qaa P E X (⟨d,.fla _o _x,some (s,want)⟩ :: is) fr L K=GdK P E X true (Zh fr s want) (Zf fr L (.fla _o _x)) d is fr L K:=qaE rfl
theorem qyW {d:Option Nat} {is:List IOper} {_o} {_s} {_a} {_x}:qaa P E X (⟨d,.fld _o _s _a _x,none⟩ :: is) fr L K=qbD P E X (Zf fr L (.fld _o _s _a _x)) d is fr L K:=by rw [qan rfl];exact qal rfl
theorem qzE {d:Option Nat} {is:List IOper} {s:Nat} {want:Bool} {_o} {_s} {_a} {_x}:qaa P E X (⟨d,.fld _o _s _a _x,some (s,want)⟩ :: is) fr L K=GdK P E X true (Zh fr s want) (Zf fr L (.fld _o _s _a _x)) d is fr L K:=qaE rfl
theorem o_ld {d:Option Nat} {is:List IOper} {_s} {_a} {_x}:qaa P E X (⟨d,.ld _s _a _x,none⟩ :: is) fr L K=qbD P E X (Zf fr L (.ld _s _a _x)) d is fr L K:=by rw [qan rfl];exact qal rfl
theorem g_ld {d:Option Nat} {is:List IOper} {s:Nat} {want:Bool} {_s} {_a} {_x}:qaa P E X (⟨d,.ld _s _a _x,some (s,want)⟩ :: is) fr L K=GdK P E X true (Zh fr s want) (Zf fr L (.ld _s _a _x)) d is fr L K:=qaE rfl
theorem qyQ {d:Option Nat} {is:List IOper} {_n} {_s} {_a} {_x}:qaa P E X (⟨d,.ldn _n _s _a _x,none⟩ :: is) fr L K=qbD P E X (Zf fr L (.ldn _n _s _a _x)) d is fr L K:=by rw [qan rfl];exact qal rfl
theorem qzy {d:Option Nat} {is:List IOper} {s:Nat} {want:Bool} {_n} {_s} {_a} {_x}:qaa P E X (⟨d,.ldn _n _s _a _x,some (s,want)⟩ :: is) fr L K=GdK P E X false (Zh fr s want) (Zf fr L (.ldn _n _s _a _x)) d is fr L K:=qaE rfl
theorem qyR {d:Option Nat} {is:List IOper} {_s} {_a} {_x}:qaa P E X (⟨d,.ldl _s _a _x,none⟩ :: is) fr L K=qbD P E X (Zf fr L (.ldl _s _a _x)) d is fr L K:=by rw [qan rfl];exact qal rfl
theorem qzz {d:Option Nat} {is:List IOper} {s:Nat} {want:Bool} {_s} {_a} {_x}:qaa P E X (⟨d,.ldl _s _a _x,some (s,want)⟩ :: is) fr L K=GdK P E X false (Zh fr s want) (Zf fr L (.ldl _s _a _x)) d is fr L K:=qaE rfl
theorem qyY {d:Option Nat} {is:List IOper} {_i} {_x}:qaa P E X (⟨d,.ext _i _x,none⟩ :: is) fr L K=qbD P E X (Zf fr L (.ext _i _x)) d is fr L K:=by rw [qan rfl];exact qal rfl
theorem qzG {d:Option Nat} {is:List IOper} {s:Nat} {want:Bool} {_i} {_x}:qaa P E X (⟨d,.ext _i _x,some (s,want)⟩ :: is) fr L K=GdK P E X true (Zh fr s want) (Zf fr L (.ext _i _x)) d is fr L K:=qaE rfl
theorem qy8 {d:Option Nat} {is:List IOper} {_z} {_p}:qaa P E X (⟨d,.bld _z _p,none⟩ :: is) fr L K=qbD P E X (Zf fr L (.bld _z _p)) d is fr L K:=by rw [qan rfl];exact qal rfl
theorem qzM {d:Option Nat} {is:List IOper} {s:Nat} {want:Bool} {_z} {_p}:qaa P E X (⟨d,.bld _z _p,some (s,want)⟩ :: is) fr L K=GdK P E X true (Zh fr s want) (Zf fr L (.bld _z _p)) d is fr L K:=qaE rfl
theorem qy2 {d:Option Nat} {is:List IOper} {_k} {_x}:qaa P E X (⟨d,.cvi _k _x,none⟩ :: is) fr L K=qbD P E X (Zf fr L (.cvi _k _x)) d is fr L K:=by rw [qan rfl];exact qal rfl
theorem qzJ {d:Option Nat} {is:List IOper} {s:Nat} {want:Bool} {_k} {_x}:qaa P E X (⟨d,.cvi _k _x,some (s,want)⟩ :: is) fr L K=GdK P E X true (Zh fr s want) (Zf fr L (.cvi _k _x)) d is fr L K:=qaE rfl
theorem qy1 {d:Option Nat} {is:List IOper} {_x}:qaa P E X (⟨d,.cvs _x,none⟩ :: is) fr L K=qbD P E X (Zf fr L (.cvs _x)) d is fr L K:=by rw [qan rfl];exact qal rfl
theorem qzI {d:Option Nat} {is:List IOper} {s:Nat} {want:Bool} {_x}:qaa P E X (⟨d,.cvs _x,some (s,want)⟩ :: is) fr L K=GdK P E X true (Zh fr s want) (Zf fr L (.cvs _x)) d is fr L K:=qaE rfl
theorem qza {d:Option Nat} {is:List IOper} {_x}:qaa P E X (⟨d,.b2s _x,none⟩ :: is) fr L K=qbD P E X (Zf fr L (.b2s _x)) d is fr L K:=by rw [qan rfl];exact qal rfl
theorem qzO {d:Option Nat} {is:List IOper} {s:Nat} {want:Bool} {_x}:qaa P E X (⟨d,.b2s _x,some (s,want)⟩ :: is) fr L K=GdK P E X true (Zh fr s want) (Zf fr L (.b2s _x)) d is fr L K:=qaE rfl
theorem qy5 {d:Option Nat} {is:List IOper} {_z} {_p}:qaa P E X (⟨d,.bsl _z _p,none⟩ :: is) fr L K=qbD P E X (Zf fr L (.bsl _z _p)) d is fr L K:=by rw [qan rfl];exact qal rfl
theorem qzK {d:Option Nat} {is:List IOper} {s:Nat} {want:Bool} {_z} {_p}:qaa P E X (⟨d,.bsl _z _p,some (s,want)⟩ :: is) fr L K=GdK P E X true (Zh fr s want) (Zf fr L (.bsl _z _p)) d is fr L K:=qaE rfl
theorem qyD {d:Option Nat} {is:List IOper} {_x}:qaa P E X (⟨d,.nck _x,none⟩ :: is) fr L K=qbD P E X (Zf fr L (.nck _x)) d is fr L K:=by rw [qan rfl];exact qal rfl
theorem qzr {d:Option Nat} {is:List IOper} {s:Nat} {want:Bool} {_x}:qaa P E X (⟨d,.nck _x,some (s,want)⟩ :: is) fr L K=GdK P E X true (Zh fr s want) (Zf fr L (.nck _x)) d is fr L K:=qaE rfl
theorem qyB {d:Option Nat} {is:List IOper} {_n} {_x}:qaa P E X (⟨d,.nli _n _x,none⟩ :: is) fr L K=qbD P E X (Zf fr L (.nli _n _x)) d is fr L K:=by rw [qan rfl];exact qal rfl
theorem qyN {d:Option Nat} {is:List IOper} {_n} {_x}:qaa P E X (⟨d,.mki _n _x,none⟩ :: is) fr L K=qbD P E X (Zf fr L (.mki _n _x)) d is fr L K:=by rw [qan rfl];exact qal rfl
theorem qzp {d:Option Nat} {is:List IOper} {s:Nat} {want:Bool} {_n} {_x}:qaa P E X (⟨d,.nli _n _x,some (s,want)⟩ :: is) fr L K=GdK P E X true (Zh fr s want) (Zf fr L (.nli _n _x)) d is fr L K:=qaE rfl
theorem qzv {d:Option Nat} {is:List IOper} {s:Nat} {want:Bool} {_n} {_x}:qaa P E X (⟨d,.mki _n _x,some (s,want)⟩ :: is) fr L K=GdK P E X true (Zh fr s want) (Zf fr L (.mki _n _x)) d is fr L K:=qaE rfl
theorem qyO {d:Option Nat} {is:List IOper} {_f} {_c}:qaa P E X (⟨d,.mkf _f _c,none⟩ :: is) fr L K=qbD P E X (Zf fr L (.mkf _f _c)) d is fr L K:=by rw [qan rfl];exact qal rfl
theorem qzw {d:Option Nat} {is:List IOper} {s:Nat} {want:Bool} {_f} {_c}:qaa P E X (⟨d,.mkf _f _c,some (s,want)⟩ :: is) fr L K=GdK P E X true (Zh fr s want) (Zf fr L (.mkf _f _c)) d is fr L K:=qaE rfl
theorem qxo {d:Option Nat} {is:List IOper} {_x}:qaa P E X (⟨d,.cap0 _x,none⟩ :: is) fr L K=qbD P E X (Zf fr L (.cap0 _x)) d is fr L K:=by rw [qan rfl];exact qal rfl
theorem qxL {d:Option Nat} {is:List IOper} {s:Nat} {want:Bool} {_x}:qaa P E X (⟨d,.cap0 _x,some (s,want)⟩ :: is) fr L K=GdK P E X true (Zh fr s want) (Zf fr L (.cap0 _x)) d is fr L K:=qaE rfl
theorem qyr {d:Option Nat} {is:List IOper} {_x} {_h}:qaa P E X (⟨d,.vsn _x _h,none⟩ :: is) fr L K=qbD P E X (Zf fr L (.vsn _x _h)) d is fr L K:=by rw [qan rfl];exact qal rfl
theorem qzk {d:Option Nat} {is:List IOper} {s:Nat} {want:Bool} {_x} {_h}:qaa P E X (⟨d,.vsn _x _h,some (s,want)⟩ :: is) fr L K=GdK P E X true (Zh fr s want) (Zf fr L (.vsn _x _h)) d is fr L K:=qaE rfl
theorem qyG {d:Option Nat} {is:List IOper} {_o} {_z} {_x} {_h}:qaa P E X (⟨d,.mpl _o _z _x _h,none⟩ :: is) fr L K=qbD P E X (Zf fr L (.mpl _o _z _x _h)) d is fr L K:=by rw [qan rfl];exact qal rfl
theorem qzt {d:Option Nat} {is:List IOper} {s:Nat} {want:Bool} {_o} {_z} {_x} {_h}:qaa P E X (⟨d,.mpl _o _z _x _h,some (s,want)⟩ :: is) fr L K=GdK P E X true (Zh fr s want) (Zf fr L (.mpl _o _z _x _h)) d is fr L K:=qaE rfl
theorem qyT {d:Option Nat} {is:List IOper} {_z} {_m} {_x} {_h}:qaa P E X (⟨d,.ixv _z _m _x _h,none⟩ :: is) fr L K=qbD P E X (Zf fr L (.ixv _z _m _x _h)) d is fr L K:=by rw [qan rfl];exact qal rfl
theorem qzB {d:Option Nat} {is:List IOper} {s:Nat} {want:Bool} {_z} {_m} {_x} {_h}:qaa P E X (⟨d,.ixv _z _m _x _h,some (s,want)⟩ :: is) fr L K=GdK P E X true (Zh fr s want) (Zf fr L (.ixv _z _m _x _h)) d is fr L K:=qaE rfl
theorem qzb {d:Option Nat} {is:List IOper} {_m} {_x} {_h}:qaa P E X (⟨d,.asl _m _x _h,none⟩ :: is) fr L K=qbD P E X (Zf fr L (.asl _m _x _h)) d is fr L K:=by rw [qan rfl];exact qal rfl
theorem qzP {d:Option Nat} {is:List IOper} {s:Nat} {want:Bool} {_m} {_x} {_h}:qaa P E X (⟨d,.asl _m _x _h,some (s,want)⟩ :: is) fr L K=GdK P E X true (Zh fr s want) (Zf fr L (.asl _m _x _h)) d is fr L K:=qaE rfl
theorem qxn {d:Option Nat} {is:List IOper} {_o} {_k} {_z} {_x} {_h}:qaa P E X (⟨d,.mplk _o _k _z _x _h,none⟩ :: is) fr L K=qbD P E X (Zf fr L (.mplk _o _k _z _x _h)) d is fr L K:=by rw [qan rfl];exact qal rfl
theorem qxK {d:Option Nat} {is:List IOper} {s:Nat} {want:Bool} {_o} {_k} {_z} {_x} {_h}:qaa P E X (⟨d,.mplk _o _k _z _x _h,some (s,want)⟩ :: is) fr L K=GdK P E X true (Zh fr s want) (Zf fr L (.mplk _o _k _z _x _h)) d is fr L K:=qaE rfl
theorem qyF {d:Option Nat} {is:List IOper} {_x}:qaa P E X (⟨d,.mpn _x,none⟩ :: is) fr L K=qbD P E X (Zf fr L (.mpn _x)) d is fr L K:=by rw [qan rfl];exact qal rfl
theorem qzs {d:Option Nat} {is:List IOper} {s:Nat} {want:Bool} {_x}:qaa P E X (⟨d,.mpn _x,some (s,want)⟩ :: is) fr L K=GdK P E X true (Zh fr s want) (Zf fr L (.mpn _x)) d is fr L K:=qaE rfl
theorem qxq {d:Option Nat} {is:List IOper} {_z} {_p}:qaa P E X (⟨d,.bldg _z _p,none⟩ :: is) fr L K=qbD P E X (Zf fr L (.bldg _z _p)) d is fr L K:=by rw [qan rfl];exact qal rfl
theorem qxM {d:Option Nat} {is:List IOper} {s:Nat} {want:Bool} {_z} {_p}:qaa P E X (⟨d,.bldg _z _p,some (s,want)⟩ :: is) fr L K=GdK P E X true (Zh fr s want) (Zf fr L (.bldg _z _p)) d is fr L K:=qaE rfl
theorem qyS {d:Option Nat} {is:List IOper} {_s} {_x}:qaa P E X (⟨d,.ldg _s _x,none⟩ :: is) fr L K=qbD P E X (Zf fr L (.ldg _s _x)) d is fr L K:=by rw [qan rfl];exact qal rfl
theorem qzA {d:Option Nat} {is:List IOper} {s:Nat} {want:Bool} {_s} {_x}:qaa P E X (⟨d,.ldg _s _x,some (s,want)⟩ :: is) fr L K=GdK P E X true (Zh fr s want) (Zf fr L (.ldg _s _x)) d is fr L K:=qaE rfl
theorem qyv {d:Option Nat} {is:List IOper} {_s} {_p} {_x}:qaa P E X (⟨d,.stg _s _p _x,none⟩ :: is) fr L K=OpsK P E X (Ze d fr L (.stg _s _p _x)) is K:=qan rfl
theorem qxr {d:Option Nat} {is:List IOper} {_t} {_z}:qaa P E X (⟨d,.alcd _t _z,none⟩ :: is) fr L K=OpsK P E X (Ze d fr L (.alcd _t _z)) is K:=qan rfl
theorem qxp {d:Option Nat} {is:List IOper} {_e} {_z} {_p}:qaa P E X (⟨d,.bsrd _e _z _p,none⟩ :: is) fr L K=OpsK P E X (Ze d fr L (.bsrd _e _z _p)) is K:=qan rfl
def IsnK (P:Program) (E:Envt) (X:List PV) (c:Prop) (q:Option (Nat×List (List PV))) (d:Option Nat) (is:List IOper) (fr:List AV) (L:Objs) (K:List AV→Objs→Prop):Prop:=
 match q with
 |some (_,es)=>c∧∀ b:Bool,(b=true→es=[])→qaa P E X is (Zg fr d (.p (.bool b))) L K
 |none=>False
theorem qsA {c:Prop} {z:Nat} {es:List (List PV)} {d:Option Nat} {is:List IOper}:IsnK P E X c (some (z,es)) d is fr L K=(c∧∀ b:Bool,(b=true→es=[])→qaa P E X is (Zg fr d (.p (.bool b))) L K):=rfl
theorem qvG {x:Opd} {d:Option Nat} {is:List IOper}:qaa P E X (⟨d,.isn x,none⟩ :: is) fr L K=IsnK P E X (rd fr x).un.1 (Zw L (rd fr x).un.2) d is fr L K:=rfl
def NxtK (P:Program) (E:Envt) (X:List PV) (c:Prop) (q:Option (Key×List (List UInt8×PV))) (d:Option Nat) (is:List IOper) (fr:List AV) (L:Objs) (K:List AV→Objs→Prop):Prop:=
 match q with
 |some (k,kv)=>c∧(kv=[]→qaa P E X is (Zg fr d (.p (.tup [.bool false]))) L K)∧∀ (i:Nat) (p:List UInt8×PV),kv[i]?=some p→qaa P E X is (Zg fr d (.p (.tup [.bool true,.str p.1,p.2]))) (Zat L k (.mit (some p) (kv.eraseIdx i))) K
 |none=>False
theorem qvE {x:Opd} {d:Option Nat} {is:List IOper}:qaa P E X (⟨d,.nxt x,none⟩ :: is) fr L K=NxtK P E X (rd fr x).un.1 (Za fr L x) d is fr L K:=rfl
def ReC (P:Program) (E:Envt) (X:List PV) (is:List IOper) (fr:List AV) (L:Objs) (K:List AV→Objs→Prop):Prop:=∃ fr' L',ReOk E fr L fr' L'∧qaa P E X is fr' L' K
theorem qxh {is:List IOper}:qaa P E X (⟨none,.re,none⟩ :: is) fr L K=ReC P E X is fr L K:=rfl
theorem qs9 {x:Nat} {is:List IOper}:qaa P E X (⟨none,.hole x,none⟩ :: is) fr L K=qaa P E X is ((fr.map (·.kill (.l x))).set x .any) (Zav L (.l x) Zan) K:=rfl
theorem qyL {d:Option Nat} {is:List IOper} {_t} {_z}:qaa P E X (⟨d,.mkm _t _z,none⟩ :: is) fr L K=OpsK P E X (Ze d fr L (.mkm _t _z)) is K:=qan rfl
theorem qyz {d:Option Nat} {is:List IOper} {_x}:qaa P E X (⟨d,.rng _x,none⟩ :: is) fr L K=OpsK P E X (Ze d fr L (.rng _x)) is K:=qan rfl
theorem qy0 {d:Option Nat} {is:List IOper} {_x}:qaa P E X (⟨d,.ent _x,none⟩ :: is) fr L K=OpsK P E X (Ze d fr L (.ent _x)) is K:=qan rfl
theorem qyI {d:Option Nat} {is:List IOper} {_m} {_k}:qaa P E X (⟨d,.mpd _m _k,none⟩ :: is) fr L K=OpsK P E X (Ze d fr L (.mpd _m _k)) is K:=qan rfl
theorem qy3 {d:Option Nat} {is:List IOper} {_z} {_x} {_y}:qaa P E X (⟨d,.cpy _z _x _y,none⟩ :: is) fr L K=OpsK P E X (Ze d fr L (.cpy _z _x _y)) is K:=qan rfl
theorem qyE {d:Option Nat} {is:List IOper} {_m} {_k} {_v}:qaa P E X (⟨d,.mpu _m _k _v,none⟩ :: is) fr L K=OpsK P E X (Ze d fr L (.mpu _m _k _v)) is K:=qan rfl
theorem qyM {d:Option Nat} {is:List IOper} {_k} {_t} {_z}:qaa P E X (⟨d,.mkk _k _t _z,none⟩ :: is) fr L K=OpsK P E X (Ze d fr L (.mkk _k _t _z)) is K:=qan rfl
theorem qxm {d:Option Nat} {is:List IOper} {_q} {_m} {_k} {_v}:qaa P E X (⟨d,.mpuk _q _m _k _v,none⟩ :: is) fr L K=OpsK P E X (Ze d fr L (.mpuk _q _m _k _v)) is K:=qan rfl
theorem qzd {d:Option Nat} {is:List IOper} {_e} {_x} {_y}:qaa P E X (⟨d,.aps _e _x _y,none⟩ :: is) fr L K=OpsK P E X (Ze d fr L (.aps _e _x _y)) is K:=qan rfl
theorem qzc {d:Option Nat} {is:List IOper} {_e} {_z} {_b} {_o} {_x} {_y}:qaa P E X (⟨d,.apz _e _z _b _o _x _y,none⟩ :: is) fr L K=OpsK P E X (Ze d fr L (.apz _e _z _b _o _x _y)) is K:=qan rfl
theorem qyt {d:Option Nat} {is:List IOper} {_z} {_x} {_y}:qaa P E X (⟨d,.trn _z _x _y,none⟩ :: is) fr L K=OpsK P E X (Ze d fr L (.trn _z _x _y)) is K:=qan rfl
theorem qyK {d:Option Nat} {is:List IOper} {_e} {_z} {_b} {_o} {_x} {_y}:qaa P E X (⟨d,.mks _e _z _b _o _x _y,none⟩ :: is) fr L K=OpsK P E X (Ze d fr L (.mks _e _z _b _o _x _y)) is K:=qan rfl
theorem qxl {d:Option Nat} {is:List IOper} {_e} {_z}:qaa P E X (⟨d,.nilr _e _z,none⟩ :: is) fr L K=OpsK P E X (Ze d fr L (.nilr _e _z)) is K:=qan rfl
theorem qzf {d:Option Nat} {is:List IOper} {_t} {_z}:qaa P E X (⟨d,.alc _t _z,none⟩ :: is) fr L K=OpsK P E X (Ze d fr L (.alc _t _z)) is K:=qan rfl
theorem qy6 {d:Option Nat} {is:List IOper} {_t} {_x}:qaa P E X (⟨d,.box _t _x,none⟩ :: is) fr L K=OpsK P E X (Ze d fr L (.box _t _x)) is K:=qan rfl
theorem qyu {d:Option Nat} {is:List IOper} {_n} {_s} {_p} {_x}:qaa P E X (⟨d,.stk _n _s _p _x,none⟩ :: is) fr L K=OpsK P E X (Ze d fr L (.stk _n _s _p _x)) is K:=qan rfl
theorem qyH {d:Option Nat} {is:List IOper} {_n} {_m} {_k} {_v}:qaa P E X (⟨d,.mpk _n _m _k _v,none⟩ :: is) fr L K=OpsK P E X (Ze d fr L (.mpk _n _m _k _v)) is K:=qan rfl
theorem o_st {d:Option Nat} {is:List IOper} {_s} {_p} {_x}:qaa P E X (⟨d,.st _s _p _x,none⟩ :: is) fr L K=OpsK P E X (Ze d fr L (.st _s _p _x)) is K:=qan rfl
theorem qze {d:Option Nat} {is:List IOper} {_e} {_z} {_b} {_x} {_y}:qaa P E X (⟨d,.app _e _z _b _x _y,none⟩ :: is) fr L K=OpsK P E X (Ze d fr L (.app _e _z _b _x _y)) is K:=qan rfl
theorem qy4 {d:Option Nat} {is:List IOper} {_e} {_z} {_p}:qaa P E X (⟨d,.bsr _e _z _p,none⟩ :: is) fr L K=OpsK P E X (Ze d fr L (.bsr _e _z _p)) is K:=qan rfl
theorem qyy {d:Option Nat} {is:List IOper} {_e} {_x}:qaa P E X (⟨d,.s2b _e _x,none⟩ :: is) fr L K=OpsK P E X (Ze d fr L (.s2b _e _x)) is K:=qan rfl
theorem qta {d:Option Nat} {f:FuncId} {args:List Opd} {is:List IOper}:qaa P E X (⟨d,.call f args,none⟩ :: is) fr L K=(Zm fr args∧qa0 P E f (Zn fr args) L d fr (qc8 P E X is K)):=rfl
def FnK (P:Program) (E:Envt) (X:List PV) (o:Option (FuncId×List AV)) (c:Prop) (d:Option Nat) (args:List Opd) (is:List IOper) (fr:List AV) (L:Objs) (K:List AV→Objs→Prop):Prop:=
 match o with
 |some (f,ks)=>c∧fnB P f=true∧Zl L ks=true∧Zm fr args∧qa0 P E f (Zn fr args++ks) L d fr (qc8 P E X is K)
 |none=>False
theorem qud {f:FuncId} {ks:List AV} {c:Prop} {d:Option Nat} {args:List Opd} {is:List IOper}:FnK P E X (some (f,ks)) c d args is fr L K=(c∧fnB P f=true∧Zl L ks=true∧Zm fr args∧qa0 P E f (Zn fr args++ks) L d fr (qc8 P E X is K)):=rfl
theorem qro {d:Option Nat} {g:Opd} {args:List Opd} {is:List IOper}:qaa P E X (⟨d,.callv g args,none⟩ :: is) fr L K=FnK P E X (Zar fr g) (rd fr g).un.1 d args is fr L K:=by
 cases h:Zar fr g with
 |none=>simp only [qaa,FnK,h]
 |some q=>obtain ⟨f,ks⟩:=q;simp only [qaa,FnK,h];rfl
def FnG (P:Program) (E:Envt) (X:List PV) (o:Option (FuncId×List AV)) (c0:Bool) (c:Prop) (d:Option Nat) (args:List Opd) (is:List IOper) (fr:List AV) (L:Objs) (K:List AV→Objs→Prop):Prop:=
 match o with
 |some (f,ks)=>(fnB P f=true∧Zl L ks=true)∧(c0=true→c∧Zm fr args)∧qpf c0 P E f (Zn fr args++ks) L d fr (qc8 P E X is K)
 |none=>c0=false∧qaa P E X is (Zg fr d (.g c0 .any)) L K
theorem que {f:FuncId} {ks:List AV} {c0:Bool} {c:Prop} {d:Option Nat} {args:List Opd} {is:List IOper}:FnG P E X (some (f,ks)) c0 c d args is fr L K=((fnB P f=true∧Zl L ks=true)∧(c0=true→c∧Zm fr args)∧qpf c0 P E f (Zn fr args++ks) L d fr (qc8 P E X is K)):=rfl
theorem qqq {d:Option Nat} {g:Opd} {args:List Opd} {is:List IOper} {s:Nat} {want:Bool}:qaa P E X (⟨d,.callv g args,some (s,want)⟩ :: is) fr L K=(match Zh fr s want with|some c0=>FnG P E X (Zar fr g) c0 (rd fr g).un.1 d args is fr L K|none=>False):=by
 simp only [qaa]
 cases Zh fr s want with
 |none=>rfl
 |some c0=>cases h:Zar fr g with
  |none=>rfl
  |some q=>obtain ⟨f,ks⟩:=q;rfl
theorem qrn {b:Bool} {d:Option Nat} {f:FuncId} {args:List Opd} {is:List IOper}:qaa P E X (⟨d,.dcall b f args,none⟩ :: is) fr L K=(Zm fr args∧DCallOp b P E f (Zn fr args) L d fr (qc8 P E X is K)):=rfl
def PcK (P:Program) (E:Envt) (f:FuncId) (as:List AV) (L:Objs) (x:PV):Prop:=qg4 P E f as L (·=x)
def FclK (P:Program) (E:Envt) (X:List PV) (f:FuncId) (e z:Nat) (K:List AV→Objs→Prop) (is:List IOper) (fr:List AV) (L:Objs) (d:Nat) (c:Prop):Option (List PV)→PV→Prop
 |some ps,.sl z' es=>((Zam d fr L∧Zas L (.l d)=some Zan)∧c∧z'=z∧FrC P E f ps e z es)∧qaa P E X is (fr.set d (.row (.l d))) (Zat L (.l d) (.row es e z true)) K
 |_,_=>False
theorem qvH {d:Nat} {n:Nat} {f:FuncId} {args:List Opd} {e z:Nat} {is:List IOper}:qaa P E X (⟨some d,.fcl n f args e z,none⟩ :: is) fr L K=FclK P E X f e z K is fr L d (Zm fr args) (qdk (Zn fr args)) (X.getD n (.bool false)):=by
 simp only [qaa]
 unfold FclK
 cases qdk (Zn fr args) with
 |none=>rfl
 |some ps=>cases X.getD n (.bool false)<;>rfl
theorem qso:qdk []=some []:=rfl
theorem qwF {x:PV} {r:List AV}:qdk (.p x :: r)=(qdk r).map (x :: ·):=rfl
theorem qsE {f:FuncId} {e z z':Nat} {is:List IOper} {d:Nat} {c:Prop} {ps:List PV} {es:List (List PV)}:FclK P E X f e z K is fr L d c (some ps) (.sl z' es)=(((Zam d fr L∧Zas L (.l d)=some Zan)∧c∧z'=z∧FrC P E f ps e z es)∧qaa P E X is (fr.set d (.row (.l d))) (Zat L (.l d) (.row es e z true)) K):=rfl
theorem qrm {d:Option Nat} {n:Nat} {f:FuncId} {args:List Opd} {is:List IOper}:qaa P E X (⟨d,.pcall n f args,none⟩ :: is) fr L K=((Zm fr args∧PcK P E f (Zn fr args) L (X.getD n (.bool false)))∧qaa P E X is (Zg fr d (.p (X.getD n (.bool false)))) L K):=rfl
theorem qqp {d:Option Nat} {n:Nat} {f:FuncId} {args:List Opd} {is:List IOper} {s:Nat} {want:Bool}:qaa P E X (⟨d,.pcall n f args,some (s,want)⟩ :: is) fr L K=(match Zh fr s want with|some c0=>(c0=true→Zm fr args∧PcK P E f (Zn fr args) L (X.getD n (.bool false)))∧qaa P E X is (Zg fr d (.g c0 (.p (X.getD n (.bool false))))) L K|none=>False):=rfl
def PclK (P:Program) (E:Envt) (X:List PV) (f:FuncId) (c:Prop) (o:Option (List PV)) (r:PV) (d:Option Nat) (is:List IOper) (fr:List AV) (L:Objs) (K:List AV→Objs→Prop):Prop:=
 match o with
 |some ps=>(c∧∀ L',PcK P E f (ps.map .p) L' r)∧qaa P E X is (Zg fr d (.p r)) L K
 |none=>False
theorem qsx {f:FuncId} {c:Prop} {ps:List PV} {r:PV} {d:Option Nat} {is:List IOper}:PclK P E X f c (some ps) r d is fr L K=((c∧∀ L',PcK P E f (ps.map .p) L' r)∧qaa P E X is (Zg fr d (.p r)) L K):=rfl
theorem qvD {d:Option Nat} {n:Nat} {f:FuncId} {args:List Opd} {is:List IOper}:qaa P E X (⟨d,.pcl n f args,none⟩ :: is) fr L K=PclK P E X f (Zm fr args) (qdk (Zn fr args)) (X.getD n (.bool false)) d is fr L K:=by
 cases h:qdk (Zn fr args) with
 |none=>simp only [qaa,PclK,h]
 |some q=>simp only [qaa,PclK,h];rfl
def PvK (P:Program) (E:Envt) (X:List PV) (o:Option (FuncId×List AV)) (c:Prop) (n:Nat) (d:Option Nat) (args:List Opd) (is:List IOper) (fr:List AV) (L:Objs) (K:List AV→Objs→Prop):Prop:=
 match o with
 |some (f,ks)=>(c∧fnB P f=true∧Zl L ks=true∧Zm fr args∧PcK P E f (Zn fr args++ks) L (X.getD n (.bool false)))∧qaa P E X is (Zg fr d (.p (X.getD n (.bool false)))) L K
 |none=>False
theorem qs8 {f:FuncId} {ks:List AV} {c:Prop} {n:Nat} {d:Option Nat} {args:List Opd} {is:List IOper}:PvK P E X (some (f,ks)) c n d args is fr L K=((c∧fnB P f=true∧Zl L ks=true∧Zm fr args∧PcK P E f (Zn fr args++ks) L (X.getD n (.bool false)))∧qaa P E X is (Zg fr d (.p (X.getD n (.bool false)))) L K):=rfl
theorem qvC {d:Option Nat} {n:Nat} {g:Opd} {args:List Opd} {is:List IOper}:qaa P E X (⟨d,.pcv n g args,none⟩ :: is) fr L K=PvK P E X (Zar fr g) (rd fr g).un.1 n d args is fr L K:=by
 cases h:Zar fr g with
 |none=>simp only [qaa,PvK,h]
 |some q=>obtain ⟨f,ks⟩:=q;simp only [qaa,PvK,h];rfl
theorem qrp {d:Option Nat} {f:FuncId} {args:List Opd} {is:List IOper} {s:Nat} {want:Bool}:qaa P E X (⟨d,.call f args,some (s,want)⟩ :: is) fr L K=(match Zh fr s want with|some c0=>(c0=true→Zm fr args)∧qpf c0 P E f (Zn fr args) L d fr (qc8 P E X is K)|none=>False):=rfl
def FzK (P:Program) (E:Envt) (X:List PV) (q:Option (Key×PV)) (is:List IOper) (fr:List AV) (L:Objs) (K:List AV→Objs→Prop):Prop:=
 match q with
 |some (k,y)=>qaa P E X is (fr.map (·.thaw k y)) (Zaw k y L) K
 |none=>qaa P E X is fr L K
theorem qub {k:Key} {y:PV} {is:List IOper}:FzK P E X (some (k,y)) is fr L K=qaa P E X is (fr.map (·.thaw k y)) (Zaw k y L) K:=rfl
theorem quc {is:List IOper}:FzK P E X none is fr L K=qaa P E X is fr L K:=rfl
theorem qxi {x:Opd} {is:List IOper}:qaa P E X (⟨none,.fz x,none⟩ :: is) fr L K=FzK P E X (Zaq fr L x) is fr L K:=rfl
def Zj (L:Objs) (k:Key):Option (List PV):=
 match Zas L k with
 |some (.box cs _)=>Zx cs
 |_=>none
def Zk (L:Objs):List Key→Option (List PV)
 |[]=>some []
 |k :: r=>match Zj L k,Zk L r with
  |some cs,some l=>some (.ptr cs :: l)
  |_,_=>none
def Zbi (L:Objs):AV→Option PV
 |.p x=>some (wk x)
 |.row k=>match Zas L k with
  |some (.row es _ z _)=>some (.sl z es)
  |_=>none
 |.mp k=>match Zas L k with
  |some (.mapg κ kv _ _)=>some (.mpg κ (kv.map (·.1)) (kv.map (·.2)))
  |_=>none
 |.fn f ks=>(Zk L ks).map (.clo f)
 |.adr k o=>if o=0 then (Zj L k).map .ptr else none
 |_=>none
def Zbh (L:Objs):List AV→Option (List PV)
 |[]=>some []
 |x :: r=>match Zbi L x,Zbh L r with
  |some y,some l=>some (y :: l)
  |_,_=>none
def Zbj:List AV→Bool
 |[]=>true
 |.row _ :: _=>false
 |.mp _ :: _=>false
 |.adr _ _ :: _=>false
 |.fn _ ks :: r=>ks.isEmpty && Zbj r
 |_ :: r=>Zbj r
def Zbk:PV→Bool
 |.int ..|.bool ..|.str ..=>true
 |.agg cs=>cs.all fun|.int ..|.bool ..|.str ..=>true|_=>false
 |.tup cs=>cs.all fun|.int ..|.bool ..|.str ..=>true|_=>false
 |_=>false
theorem qmy (b:Bool):(b == true)=b:=by cases b<;>rfl
theorem qk5 (b:Bool):(b == false)=!b:=by cases b<;>rfl
theorem PRep.flat {w:World} {U U':Nat→Prop} {x:PV} {v:Value} (hf:Zbk x=true) (h:PRep w U x v):PRep w U' x v:=by
 have one:∀ (y:PV) (u:Value),(match y with|.int ..|.bool ..|.str ..=>true|_=>false)=true→PRep w U y u→PRep w U' y u:=by
  intro y u hy hr
  cases y<;>simp_all [PRep]
 have lst:∀ (cs:List PV) (vs:List Value),(cs.all fun|.int ..|.bool ..|.str ..=>true|_=>false)=true→PRepL w U cs vs→PRepL w U' cs vs:=by
  intro cs
  induction cs with
  |nil=>intro vs _ h;exact h
  |cons c cs ih=>
   intro vs hc hr
   simp only [List.all_cons,zh] at hc
   simp only [PRepL] at hr ⊢
   obtain ⟨v,r,rfl,h1,h2⟩:=hr
   exact ⟨v,r,rfl,one c v hc.1 h1,ih r hc.2 h2⟩
 cases x with
 |agg cs=>simp only [Zbk] at hf;simp only [PRep] at h ⊢;obtain ⟨vs,e,hl⟩:=h;exact ⟨vs,e,lst cs vs hf hl⟩
 |tup cs=>simp only [Zbk] at hf;simp only [PRep] at h ⊢;obtain ⟨vs,e,hl⟩:=h;exact ⟨vs,e,lst cs vs hf hl⟩
 |int k n=>exact h
 |bool b=>exact h
 |str s=>exact h
 |raw v=>simp [Zbk] at hf
 |nl z=>simp [Zbk] at hf
 |sl z es=>simp [Zbk] at hf
 |ptr cs=>simp [Zbk] at hf
 |clo f ps=>simp [Zbk] at hf
 |mpg κ ks vs=>simp [Zbk] at hf
theorem qxO {w:World} {U U':Nat→Prop} {ι:Key→Value} {f:FuncId} {v:Value} (h:ARep w U ι (.fn f []) v):PRep w U' (.clo f []) v:=by
 exact ⟨[],by simpa [ARep] using h,by simp [PRepL]⟩
theorem qt2 {as:List AV} {l:List PV} (h:Zx as=some l):as=l.map .p:=by
 induction as generalizing l with
 |nil=>simp only [Zx,zg] at h;subst h;rfl
 |cons q as ih=>
  cases q with
  |p x=>
   simp only [Zx,zi] at h
   obtain ⟨m,h1,rfl⟩:=h
   rw [ih h1]
   rfl
  |_=>simp [Zx] at h
theorem qp6 {w:World} {B:Nat→Prop} {ι:Key→Value} (hs:Sim w B L ι) (hX:∀ b,B b→¬ Own L ι b) {k:Key} {cs:List PV} (h:Zj L k=some cs):PRep w B (.ptr cs) (ι k):=by
 have hk:=qrF w L ι B
 unfold Zj at h
 split at h
 ·rename_i as t hl
  have e:=qt2 h
  subst e
  obtain ⟨b,vs,e1,e2,e3,e4,e5⟩:=hs.obj k _ hl
  have hO:Own L ι b:=⟨k,_,hl,by rw [e1];rfl⟩
  have hr:PRepL w (fun b=>Own L ι b∨B b) cs vs:=PRepL.of_get (by simpa using e3) (fun j x u hx hu=>by
   obtain ⟨u',hu',hr'⟩:=e5 j (.p x) (by rw [zB,hx];rfl)
   rw [hu'] at hu
   cases hu
   exact hr')
  refine ⟨b,e1,qa6 hs hO,fun hb=>hX b hb hO,PRepC.of (PRepL.mono hk _ _ hr) e4 (fun j v hv=>?_)⟩
  rw [Nat.zero_add,cell_of_row w b j _ t (0,0) e2]
  simpa using hv
 ·cases h
theorem qsf {w:World} {B:Nat→Prop} {ι:Key→Value} (hs:Sim w B L ι) (hX:∀ b,B b→¬ Own L ι b):∀ {ks:List Key} {ps:List PV},Zk L ks=some ps→PRepL w B ps (ks.map ι):=by
 intro ks
 induction ks with
 |nil=>intro ps h;simp only [Zk,zg] at h;subst h;simp [PRepL]
 |cons k ks ih=>
  intro ps h
  simp only [Zk] at h
  split at h
  ·rename_i cs l e1 e2
   cases h
   exact ⟨_,_,rfl,qp6 hs hX e1,ih e2⟩
  ·cases h
theorem qhX {w:World} {U:Nat→Prop} {ι:Key→Value}:∀ {as:List AV} {ps:List PV} {vs:List Value},Zbj as=true→Zbh L as=some ps→ARepL w U ι as vs→PRepL w U ps vs:=by
 intro as
 induction as with
 |nil=>intro ps vs _ h hr;simp only [Zbh,zg] at h;subst h;exact hr
 |cons a as ih=>
  intro ps vs hn h hr
  simp only [Zbh] at h
  split at h
  ·rename_i y l e1 e2
   cases h
   simp only [ARepL] at hr
   obtain ⟨v,r,rfl,h1,h2⟩:=hr
   simp only [PRepL]
   cases a with
   |p x=>simp only [Zbi,zg] at e1;subst e1;exact ⟨v,r,rfl,PRep.wk h1,ih (by simpa [Zbj] using hn) e2 h2⟩
   |row k=>simp [Zbj] at hn
   |mp k=>simp [Zbj] at hn
   |adr k o=>simp [Zbj] at hn
   |fn f ks=>
    cases ks with
    |nil=>simp only [Zbi,Zk,zF,zg] at e1;subst e1;exact ⟨v,r,rfl,qxO h1,ih (by simpa [Zbj] using hn) e2 h2⟩
    |cons k ks=>simp [Zbj] at hn
   |_=>simp [Zbi] at e1
  ·cases h
theorem qlA {w:World} {B:Nat→Prop} {ι:Key→Value} (hs:Sim w B L ι) (hX:∀ b,B b→¬ Own L ι b):∀ {as:List AV} {ps:List PV} {vs:List Value},Zbh L as=some ps→ARepL w (fun b=>Own L ι b∨B b) ι as vs→PRepL w B ps vs:=by
 have hk:=qrF w L ι B
 intro as
 induction as with
 |nil=>intro ps vs h hr;simp only [Zbh,zg] at h;subst h;exact hr
 |cons a as ih=>
  intro ps vs h hr
  simp only [Zbh] at h
  split at h
  ·rename_i y l e1 e2
   cases h
   simp only [ARepL] at hr
   obtain ⟨v,r,rfl,h1,h2⟩:=hr
   simp only [PRepL]
   refine ⟨v,r,rfl,?_,ih e2 h2⟩
   cases a with
   |p x=>simp only [Zbi,zg] at e1;subst e1;exact (PRep.mono hk _ _ h1).wk
   |row k=>
    simp only [Zbi] at e1
    split at e1
    ·rename_i es e' z ap hl
     cases e1
     obtain ⟨vs',hrow,e4,e5,e6⟩:=hs.obj k _ hl
     rcases hrow.2 with ⟨g1,g2⟩|⟨g,cap,cur,fz,g1,_,g3,_⟩
     ·rw [h1.1,g1]
      exact ⟨none,0,by rw [g2],by omega,fun hne=>absurd (zy g2) hne⟩
     ·rw [h1.1,g1]
      have hE:=qgF hs hl g1
      have hO:Own L ι g:=⟨k,_,hl,by rw [g1];rfl⟩
      refine ⟨_,cap,rfl,g3,fun _=>⟨g,0,rfl,qa6 hs hO,fun hx=>hX g hx hO,?_⟩⟩
      have key:∀ (es':List (List PV)) (off:Nat),PRepE w (fun b=>Own L ι b∨B b) g z off es'→PRepE w B g z off es':=by
       intro es'
       induction es' with
       |nil=>intro off _;simp [PRepE]
       |cons x r ih=>
        intro off hh
        simp only [PRepE] at hh ⊢
        refine ⟨hh.1,?_,ih _ hh.2.2⟩
        obtain ⟨us,a1,a2,a3⟩:=hh.2.1.vals
        exact PRepC.of (PRepL.mono hk _ _ a1) a2 a3
      exact key es 0 hE
    ·cases e1
   |mp k=>
    simp only [Zbi] at e1
    split at e1
    ·rename_i κ kv kt et hl
     cases e1
     obtain ⟨r,ents,cl,q1,q2,q3,q4⟩:=hs.obj k _ hl
     have hO:Own L ι r:=⟨k,_,hl,by rw [q1];rfl⟩
     rw [h1.1,q1]
     exact ⟨r,rfl,qa6 hs hO,fun hx=>hX r hx hO,ents,cl,q2,⟨by rw [q3.1,List.map_map];rfl,q4,fun s hs=>by obtain ⟨p,hp,rfl⟩:=zK.1 hs;exact q3.2.2 p hp⟩,PRepL.mono hk _ _ q3.2.1⟩
    ·cases e1
   |fn f ks=>
    simp only [Zbi,zi] at e1
    obtain ⟨ps',h3,rfl⟩:=e1
    exact ⟨ks.map ι,h1,qsf hs hX h3⟩
   |adr k o=>
    simp only [Zbi] at e1
    split at e1
    ·rename_i ho
     subst ho
     simp only [zi] at e1
     obtain ⟨cs,h3,rfl⟩:=e1
     obtain ⟨b,e4,e5⟩:=h1
     rw [e5,← e4]
     exact qp6 hs hX h3
    ·cases e1
   |_=>simp [Zbi] at e1
  ·cases h
theorem ql3 {f:FuncId} {as:List AV} {ps:List PV} {φ:PV→Prop} (h:PCall P E f ps φ) (ha:Zbh L as=some ps) (hn:Zbj as=true∨∀ x,φ x→Zbk x=true):qg4 P E f as L φ:=by
 intro w X ι vs hs hX hE hEb hA
 rcases hn with hn|hn
 ·exact h w (fun b=>Own L ι b∨X b) vs (fun b hb=>hb.elim (fun h=>qa6 hs h) (fun h=>(hX b h).1)) hE (fun b hb=>(hEb b hb).1) (qhX hn ha hA)
 ·refine (h w X vs (fun b hb=>(hX b hb).1) hE (fun b hb=>(hEb b hb).1) (qlA hs (fun b hb=>(hX b hb).2) ha hA)).mono ?_
  rintro e w' ⟨v,x,rfl,hx,hr,hG⟩
  exact ⟨v,x,rfl,hx,hr.flat (hn x hx),hG⟩
theorem use {f:FuncId} {as:List AV} {ps:List PV} {φ:PV→Prop} {d:Option Nat} {is:List IOper} (h:PCall P E f ps φ) (ha:Zbh L as=some ps) (hn:Zbj as=true∨∀ x,φ x→Zbk x=true) (hk:∀ x,φ x→qaa P E X is (Zg fr d (.p x)) L K):qa0 P E f as L d fr (qc8 P E X is K):=
 .inl ⟨φ,ql3 h ha hn,hk⟩
theorem use1 {f:FuncId} {as:List AV} {ps:List PV} {r:PV} {d:Option Nat} {is:List IOper} (h:PCall P E f ps (·=r)) (ha:Zbh L as=some ps) (hn:Zbj as=true∨Zbk r=true) (hk:qaa P E X is (Zg fr d (.p r)) L K):qa0 P E f as L d fr (qc8 P E X is K):=
 .inl ⟨(·=r),ql3 h ha (hn.imp id (fun h x e=>by rw [e];exact h)),fun x e=>by rw [e];exact hk⟩
theorem useG {c0:Bool} {f:FuncId} {as:List AV} {ps:List PV} {r:PV} {d:Option Nat} {is:List IOper} (h:c0=true→PCall P E f ps (·=r)) (ha:Zbh L as=some ps) (hn:Zbj as=true∨Zbk r=true) (hk:qaa P E X is (Zg fr d (.g c0 (.p r))) L K):qpf c0 P E f as L d fr (qc8 P E X is K):=
 .inl ⟨r,fun hc=>ql3 (h hc) ha (hn.imp id fun h x e=>by rw [e];exact h),hk⟩
theorem qye {c0:Bool} {f:FuncId} {as:List AV} {d:Option Nat} {is:List IOper} (h:c0=true→qa0 P E f as L d fr (qc8 P E X is K)) (hk:c0=false→qaa P E X is (Zg fr d (.g c0 .any)) L K):qpf c0 P E f as L d fr (qc8 P E X is K):=.inr ⟨h,hk⟩
theorem usep {f:FuncId} {as:List AV} {ps:List PV} {r:PV} (h:PCall P E f ps (·=r)) (ha:Zbh L as=some ps) (hn:Zbj as=true∨Zbk r=true):PcK P E f as L r:=
 ql3 h ha (hn.imp id (fun h x e=>by rw [e];exact h))
end
def GCall (P:Program) (E:Envt) (f:FuncId) (bx:Option OS) (args:List PV) (post:RV→OS→Prop):Prop:=
 ∀ (w:World) (U:Nat→Prop) (vs:List Value) (v0:Value),(∀ c,U c→c < w.heap.size)→E.ok w→(∀ c,E.bl c→c < w.heap.size∧(bx.isSome=true→blk v0≠some c))→PRepL w U args vs→
  (match bx with|none=>True|some os=>(∀ c,blk v0=some c→U c)∧ObjAt w U v0 os)→
  Calls P f ((match bx with|none=>vs|some _=>v0 :: vs)).toArray w fun e w'=>∃ v r os',e=.returned v∧post r os'∧RVok w' U w.heap.size r v∧
   (match bx with
    |none=>Grow w w' (fun _=>False)
    |some _=>Grow w w' (fun c=>blk v0=some c)∧ObjAt w' (fun c=>U c∨r.own v c) v0 os')
def noOS:OS:=.box 0 []
def finP (bx:Option OS) (post:RV→OS→Prop) (x:PV) (L:Objs):Prop:=
 match bx with
 |none=>post (.p x) noOS
 |some _=>∃ os',Zas L (.b 0)=some os'.ao∧post (.p x) os'
def finF (bx:Option OS) (post:RV→OS→Prop) (i:Nat) (fr:List AV) (L:Objs):Prop:=
 (∃ j es e z,fr.getD i .any=.row (.l j)∧Zas L (.l j)=some (.row es e z true)∧
  match bx with
  |none=>post (.fr es e z) noOS
  |some _=>∃ os',Zas L (.b 0)=some os'.ao∧post (.fr es e z) os')∨
 ∃ e z z0,fr.getD i .any=.p (.nl z0)∧
  match bx with
  |none=>post (.fr [] e z) noOS
  |some _=>∃ os',Zas L (.b 0)=some os'.ao∧post (.fr [] e z) os'
def retF (i:Nat) (bx:Option OS) (post:RV→OS→Prop):AQ
 |.normal,fr,L=>finF bx post i fr L
 |.ret,fr,L=>finF bx post i fr L
 |_,_,_=>False
def qwJ (fr:List AV):List Nat→Option (List PV)
 |[]=>some []
 |i :: r=>match fr.getD i .any with
  |.p x=>(qwJ fr r).map (x :: ·)
  |_=>none
def finT (bx:Option OS) (post:RV→OS→Prop) (i:Nat) (is:List Nat) (fr:List AV) (L:Objs):Prop:=
 (∃ j es e z ps,fr.getD i .any=.row (.l j)∧Zas L (.l j)=some (.row es e z true)∧qwJ fr is=some ps∧
  match bx with
  |none=>post (.ft es e z ps) noOS
  |some _=>∃ os',Zas L (.b 0)=some os'.ao∧post (.ft es e z ps) os')∨
 ∃ e z z0 ps,fr.getD i .any=.p (.nl z0)∧qwJ fr is=some ps∧
  match bx with
  |none=>post (.ft [] e z ps) noOS
  |some _=>∃ os',Zas L (.b 0)=some os'.ao∧post (.ft [] e z ps) os'
def retT (i:Nat) (is:List Nat) (bx:Option OS) (post:RV→OS→Prop):AQ
 |.normal,fr,L=>finT bx post i is fr L
 |.ret,fr,L=>finT bx post i is fr L
 |_,_,_=>False
theorem qw4 {i:Nat} {is:List Nat} {bx:Option OS} {post:RV→OS→Prop} {fr:List AV} {L:Objs}:retT i is bx post .ret fr L=finT bx post i is fr L:=rfl
theorem qw5 {i:Nat} {is:List Nat} {bx:Option OS} {post:RV→OS→Prop} {fr:List AV} {L:Objs}:retT i is bx post .normal fr L=finT bx post i is fr L:=rfl
theorem qw8 {i:Nat} {bx:Option OS} {post:RV→OS→Prop} {fr:List AV} {L:Objs}:retF i bx post .ret fr L=finF bx post i fr L:=rfl
theorem qw9 {i:Nat} {bx:Option OS} {post:RV→OS→Prop} {fr:List AV} {L:Objs}:retF i bx post .normal fr L=finF bx post i fr L:=rfl
def l0 (bx:Option OS):Objs:=
 match bx with
 |none=>[]
 |some os=>[(.b 0,os.ao)]
def a0 (bx:Option OS) (args:List PV):List AV:=
 match bx with
 |none=>args.map .p
 |some (.box _ _)=>.adr (.b 0) 0 :: args.map .p
 |some (.row _ _ _)=>.row (.b 0) :: args.map .p
def GCallP (P:Program) (E:Envt) (f:FuncId) (pre:List PV) (bx:Option OS) (args:List PV) (post:RV→OS→Prop):Prop:=
 ∀ (w:World) (U:Nat→Prop) (us vs:List Value) (v0:Value),(∀ c,U c→c < w.heap.size)→E.ok w→(∀ c,E.bl c→c < w.heap.size∧(bx.isSome=true→blk v0≠some c))→PRepL w U pre us→PRepL w U args vs→
  (match bx with|none=>True|some os=>(∀ c,blk v0=some c→U c)∧ObjAt w U v0 os)→
  Calls P f (us++(match bx with|none=>vs|some _=>v0 :: vs)).toArray w fun e w'=>∃ v r os',e=.returned v∧post r os'∧RVok w' U w.heap.size r v∧
   (match bx with
    |none=>Grow w w' (fun _=>False)
    |some _=>Grow w w' (fun c=>blk v0=some c)∧ObjAt w' (fun c=>U c∨r.own v c) v0 os')
def a0P (pre:List PV) (bx:Option OS) (args:List PV):List AV:=pre.map .p++a0 bx args
section
variable {P:Program} {E:Envt}
theorem GCallP.nil {f:FuncId} {bx:Option OS} {args:List PV} {post:RV→OS→Prop} (h:GCallP P E f [] bx args post):GCall P E f bx args post:=fun w U vs v0 hU hE hEb hA hB=>h w U [] vs v0 hU hE hEb (by simp [PRepL]) hA hB
theorem qiF (hm:P.follows .mixedOrders=true) {f:FuncId} {fn:Func} {c:Code} {ic:IC} {pre:List PV} {bx:Option OS} {args:List PV} {post:RV→OS→Prop} {Q:AQ} (hf:P.funcs[f]?=some fn) (hb:fn.body=some c) (hchk:chkC P qno ic c=true)
  (h:awp P E ic (a0P pre bx args++zJ (fn.ntmps - (a0P pre bx args).length) .any) (l0 bx) Q)
  (hQ:∀ (B:Base) (w':World) (L:Objs) (ι:Key→Value) (fr:List AV) (a:Act) (e:Exit),Q e fr L→StF E B w' L ι fr a→B.L0=l0 bx→(e=.normal∨e=.ret)∧∃ v r os',(results fn a.tmps).run P w'=.ok v w'∧post r os'∧RVok w' (ZB L ι B.X) B.w0.heap.size r v∧(bx.isSome=true→Zas L (.b 0)=some os'.ao)∧(∀ b,r.own v b→Own L ι b)):GCallP P E f pre bx args post:=by
 intro w U us vs v0 hU hE hEb hPre hA hB
 refine calls_of_wp hf hb ?_
 let ι:Key→Value:=fun _=>v0
 let B:Base:={ w0:=w,X:=fun c=>U c∧(bx.isSome=true→blk v0≠some c),L0:=l0 bx,i0:=ι }
 have hlk:∀ k q,Zas (l0 bx) k=some q→k=.b 0∧∃ os,bx=some os∧q=os.ao:=by
  intro k q hq
  cases hbx:bx with
  |none=>rw [hbx] at hq;simp [l0,Zas] at hq
  |some os=>
   rw [hbx] at hq
   simp only [l0,Zas] at hq
   split at hq
   ·rename_i e;cases hq;exact ⟨e.symm,os,rfl,rfl⟩
   ·cases hq
 have hO:∀ c,Own (l0 bx) ι c→blk v0=some c∧bx.isSome=true:=by
  rintro c ⟨k,q,h1,h2⟩
  obtain ⟨_,os,e,_⟩:=hlk k q h1
  exact ⟨h2,by rw [e];rfl⟩
 have hUb:∀ c,(Own (l0 bx) ι c∨B.X c)→U c:=by
  rintro c (h'|h')
  ·obtain ⟨h1,hs⟩:=hO c h'
   cases hbx:bx with
   |none=>rw [hbx] at hs;cases hs
   |some p=>rw [hbx] at hB;exact hB.1 c h1
  ·exact h'.1
 have hkeep:Keeps w w U (fun c=>Own (l0 bx) ι c∨B.X c):=fun c _ hu=>⟨rfl,fun h=>hu (hUb c h)⟩
 have hsim:Sim w B.X (l0 bx) ι:=by
  constructor
  ·intro k q hq
   obtain ⟨rfl,os,e,rfl⟩:=hlk k q hq
   rw [e] at hB
   exact ObjAt.ok (hB.2.mono hkeep (fun _ _=>rfl))
  ·intro k k' q q' c h1 h2 _ _
   rw [(hlk k q h1).1,(hlk k' q' h2).1]
 have hst:St E B w (l0 bx) ι:=⟨Grow.refl _ _,hsim,fun c hc=>.inl hc,fun c hc=>hU c hc.1,fun k _ _=>rfl,hE,fun c hc=>⟨(hEb c hc).1,fun ho=>by obtain ⟨e1,e2⟩:=hO c ho;exact (hEb c hc).2 e2 e1⟩,(fun i=>by
  show Zas (l0 bx) (.l i)=none
  cases hq:Zas (l0 bx) (.l i) with
  |none=>rfl
  |some q=>have:=(hlk _ _ hq).1;cases this),(fun c hc ho=>by obtain ⟨e1,e2⟩:=hO c ho;exact hc.2 e2 e1)⟩
 have hlen:=hA.length
 have hfr:∀ as:List Value,ARepL w (fun c=>Own (l0 bx) ι c∨B.X c) ι (a0P pre bx args) as→StF E B w (l0 bx) ι (a0P pre bx args++zJ (fn.ntmps - (a0P pre bx args).length) .any) { tmps:=as.toArray++Array.replicate (fn.ntmps - as.toArray.size) undef,defers:=[] }:=by
  intro as has
  have hl:∀ (xs:List AV) (ys:List Value),ARepL w (fun c=>Own (l0 bx) ι c∨B.X c) ι xs ys→ys.length=xs.length∧∀ (i:Nat) (x:AV),xs[i]?=some x→∃ v,ys[i]?=some v∧ARep w (fun c=>Own (l0 bx) ι c∨B.X c) ι x v:=by
   intro xs
   induction xs with
   |nil=>intro ys h;simp only [ARepL] at h;subst h;simp
   |cons x xs ih=>
    intro ys h
    simp only [ARepL] at h
    obtain ⟨v,r,rfl,h1,h2⟩:=h
    obtain ⟨g1,g2⟩:=ih r h2
    refine ⟨by simp [g1],fun i y hy=>?_⟩
    cases i with
    |zero=>simp at hy;subst hy;exact ⟨v,rfl,h1⟩
    |succ i=>simp at hy;simpa using g2 i y hy
  obtain ⟨g1,g2⟩:=hl _ _ has
  refine ⟨hst,⟨by simp [g1],fun i x hx=>?_⟩,rfl⟩
  rw [List.getElem?_append] at hx
  split at hx
  ·rename_i hi
   obtain ⟨v,hv,hrep⟩:=g2 i x hx
   refine ⟨v,?_,hrep⟩
   rw [Array.getElem?_append_left (by simp;omega)]
   simpa using hv
  ·rename_i hi
   rw [List.getElem?_replicate] at hx
   split at hx
   ·rename_i hlt
    cases hx
    refine ⟨undef,?_,trivial⟩
    rw [Array.getElem?_append_right (by simp;omega)]
    simp only [List.size_toArray]
    rw [Array.getElem?_replicate,if_pos (by rw [g1];omega)]
   ·cases hx
 have hargs:ARepL w (fun c=>Own (l0 bx) ι c∨B.X c) ι (a0P pre bx args) (us++(match bx with|none=>vs|some _=>v0 :: vs)):=by
  have hp:∀ (xs:List PV) (ys:List Value),PRepL w U xs ys→ARepL w (fun c=>Own (l0 bx) ι c∨B.X c) ι (xs.map .p) ys:=by
   intro xs
   induction xs with
   |nil=>intro ys h;simp only [PRepL] at h;subst h;simp [ARepL]
   |cons x xs ih=>
    intro ys h
    simp only [PRepL] at h
    obtain ⟨v,r,rfl,h1,h2⟩:=h
    simp only [zl,ARepL]
    exact ⟨v,r,rfl,PRep.mono hkeep _ _ h1,ih r h2⟩
  refine ARepL.append (hp pre us hPre) ?_
  have hpv:=hp args vs hA
  cases hbx:bx with
  |none=>rw [hbx] at hpv;exact hpv
  |some os=>
   rw [hbx] at hpv hB
   cases os with
   |box t cs=>
    obtain ⟨b,vs',e1,_⟩:=hB.2
    simp only [a0,ARepL]
    exact ⟨_,_,rfl,⟨b,e1,e1⟩,hpv⟩
   |row e z es=>
    obtain ⟨vs',h1,_⟩:=hB.2
    simp only [a0,ARepL]
    refine ⟨_,_,rfl,⟨rfl,?_⟩,hpv⟩
    rcases h1.2 with ⟨q1,_⟩|⟨g,cap,cur,fz,q1,_⟩
    ·exact ⟨none,0,0,q1⟩
    ·exact ⟨_,_,_,q1⟩
 refine wp_mono (qnV (quy hm) ic c _ _ _ hchk h B w ι _ (hfr _ hargs)) ?_
 rintro e a' w' ⟨fr',L',ι',q,hs'⟩
 obtain ⟨he,v,r,os',hv,hp,hr,hbox,hown⟩:=hQ B w' L' ι' fr' a' e q hs' rfl
 have hkey:bx.isSome=true→ι' (.b 0)=v0:=by
  intro e
  refine hs'.1.keep (.b 0) ?_ (by rw [hbox e];rfl)
  show (Zas (l0 bx) (.b 0)).isSome=true
  obtain ⟨os,e⟩:=Option.isSome_iff_exists.1 e
  rw [e];simp [l0,Zas]
 have hZ:∀ c,U c→ZB L' ι' B.X c:=by
  intro c hc
  by_cases hcb:bx.isSome=true∧blk v0=some c
  ·exact .inr ⟨0,_,hbox hcb.1,by rw [hkey hcb.1];exact hcb.2⟩
  ·exact .inl ⟨hc,fun h1 h2=>hcb ⟨h1,h2⟩⟩
 have hkz:Keeps w' w' (ZB L' ι' B.X) U:=fun c _ hz=>⟨rfl,fun hu=>hz (hZ c hu)⟩
 have hres:RVok w' U w.heap.size r v:=by
  cases r with
  |p x=>exact PRep.mono hkz _ _ hr
  |fr es e z=>
   obtain ⟨vs',r1,r2,r3,r4,r5⟩:=hr
   exact ⟨vs',r1,r2,PRepL.mono (fun c _ hz=>⟨rfl,fun hu=>hz (hu.imp (hZ c) id)⟩) _ _ r3,r4,r5⟩
  |ft es e z ps=>
   obtain ⟨u,us,hv,⟨vs',r1,r2,r3,r4,r5⟩,rp⟩:=hr
   exact ⟨u,us,hv,⟨vs',r1,r2,PRepL.mono (fun c _ hz=>⟨rfl,fun hu=>hz (hu.imp (hZ c) id)⟩) _ _ r3,r4,r5⟩,PRepL.mono (fun c _ hz=>⟨rfl,fun hu=>hz (hu.imp (hZ c) id)⟩) _ _ rp⟩
 have hg:=hs'.1.grow
 have fin:∃ v_1 r os',Ending.returned v=.returned v_1∧post r os'∧RVok w' U w.heap.size r v_1∧(match bx with|none=>Grow w w' (fun _=>False)|some _=>Grow w w' (fun c=>blk v0=some c)∧ObjAt w' (fun c=>U c∨r.own v_1 c) v0 os'):=by
  refine ⟨v,r,os',rfl,hp,hres,?_⟩
  cases hbx:bx with
  |none=>exact ⟨hg.os,hg.tape,hg.output,hg.size,fun c hc _=>hg.block c hc (fun ho=>by have:=(hO c ho).2;rw [hbx] at this;cases this)⟩
  |some os=>
   have hbs:bx.isSome=true:=by rw [hbx];rfl
   refine ⟨⟨hg.os,hg.tape,hg.output,hg.size,fun c hc hn=>hg.block c hc (fun ho=>hn (hO c ho).1)⟩,?_⟩
   have hat:=ObjAt.of (hs'.1.sim.obj (.b 0) _ (hbox hbs))
   rw [hkey hbs] at hat
   refine hat.mono (fun c _ hz=>⟨rfl,fun hu=>hz ?_⟩) (fun _ _=>rfl)
   rcases hu with hu|hu
   ·rcases hZ c hu with h1|⟨i,q,h1,h2⟩
    ·exact .inr h1
    ·exact .inl ⟨_,q,h1,h2⟩
   ·exact .inl (hown c hu)
 rcases he with rfl|rfl
 ·exact ⟨hs'.2.2,v,hv,fin⟩
 ·exact ⟨hs'.2.2,v,hv,fin⟩
theorem qnB (hm:P.follows .mixedOrders=true) {f:FuncId} {fn:Func} {c:Code} {ic:IC} {bx:Option OS} {args:List PV} {post:RV→OS→Prop} {Q:AQ} (hf:P.funcs[f]?=some fn) (hb:fn.body=some c) (hchk:chkC P qno ic c=true)
  (h:awp P E ic (a0 bx args++zJ (fn.ntmps - (a0 bx args).length) .any) (l0 bx) Q)
  (hQ:∀ (B:Base) (w':World) (L:Objs) (ι:Key→Value) (fr:List AV) (a:Act) (e:Exit),Q e fr L→StF E B w' L ι fr a→B.L0=l0 bx→(e=.normal∨e=.ret)∧∃ v r os',(results fn a.tmps).run P w'=.ok v w'∧post r os'∧RVok w' (ZB L ι B.X) B.w0.heap.size r v∧(bx.isSome=true→Zas L (.b 0)=some os'.ao)∧(∀ b,r.own v b→Own L ι b)):GCall P E f bx args post:=
 GCallP.nil (qiF (pre:=[]) hm hf hb hchk h hQ)
theorem qvV (hm:P.follows .mixedOrders=true) {f:FuncId} {fn:Func} {ic:IC} {rs:List IRes} {n:Nat} {pre:List PV} {bx:Option OS} {args:List PV} {post:RV→OS→Prop} (hf:P.funcs[f]?=some fn) (hc:chkF P fn ic rs n=true)
  (h:awp P E ic (a0P pre bx args++zJ (n - (a0P pre bx args).length) .any) (l0 bx) (retQ rs (finP bx post))):GCallP P E f pre bx args post:=by
 unfold chkF at hc
 split at hc
 ·rename_i c hb
  simp only [zh,beq_iff_eq] at hc
  obtain ⟨⟨h1,h2⟩,rfl⟩:=hc
  refine qiF hm hf hb h1 h ?_
  intro B w' L ι fr a e q hs hb0
  have key:RetK (Zbd fr L rs) (finP bx post) L→∃ v r os',(results fn a.tmps).run P w'=.ok v w'∧post r os'∧RVok w' (ZB L ι B.X) B.w0.heap.size r v∧(bx.isSome=true→Zas L (.b 0)=some os'.ao)∧(∀ b,r.own v b→Own L ι b):=by
   intro q
   obtain ⟨l,e1,e2⟩:=qpa q
   obtain ⟨v,hv,hr⟩:=qlh hs h2 e1
   cases hbx:bx with
   |none=>rw [hbx] at e2;exact ⟨v,.p (qjF l),noOS,hv,e2,hr,(fun h=>by cases h),fun _ h=>h.elim⟩
   |some p=>
    rw [hbx] at e2
    obtain ⟨cs',g1,g2⟩:=e2
    exact ⟨v,.p (qjF l),cs',hv,g2,hr,(fun _=>g1),fun _ h=>h.elim⟩
  cases e with
  |normal=>exact ⟨.inl rfl,key q⟩
  |ret=>exact ⟨.inr rfl,key q⟩
  |_=>exact q.elim
 ·cases hc
theorem qgl (hm:P.follows .mixedOrders=true) {f:FuncId} {fn:Func} {ic:IC} {rs:List IRes} {n:Nat} {bx:Option OS} {args:List PV} {post:RV→OS→Prop} (hf:P.funcs[f]?=some fn) (hc:chkF P fn ic rs n=true)
  (h:awp P E ic (a0 bx args++zJ (n - (a0 bx args).length) .any) (l0 bx) (retQ rs (finP bx post))):GCall P E f bx args post:=GCallP.nil (qvV (pre:=[]) hm hf hc h)
theorem qpQ (hm:P.follows .mixedOrders=true) {f:FuncId} {fn:Func} {ic:IC} {i n:Nat} {bx:Option OS} {args:List PV} {post:RV→OS→Prop} (hf:P.funcs[f]?=some fn) (hc:chkF P fn ic [.t i] n=true)
  (h:awp P E ic (a0 bx args++zJ (n - (a0 bx args).length) .any) (l0 bx) (retF i bx post)):GCall P E f bx args post:=by
 unfold chkF at hc
 split at hc
 ·rename_i c hb
  simp only [zh,beq_iff_eq] at hc
  obtain ⟨⟨h1,h2⟩,rfl⟩:=hc
  refine qnB hm hf hb h1 h ?_
  intro B w' L ι fr a e q hs hb0
  have key:finF bx post i fr L→∃ v r os',(results fn a.tmps).run P w'=.ok v w'∧post r os'∧RVok w' (ZB L ι B.X) B.w0.heap.size r v∧(bx.isSome=true→Zas L (.b 0)=some os'.ao)∧(∀ b,r.own v b→Own L ι b):=by
   intro hfin
   have hres:(results fn a.tmps).run P w'=.ok (a.tmps.getD i undef) w':=by
    have hq:fn.results=#[.tmp i]:=by
     have:∀ (l:List ResultVar),qgd P l [.t i]=true→l=[.tmp i]:=by
      intro l hl
      cases l with
      |nil=>simp [qgd] at hl
      |cons x l=>
       cases l with
       |nil=>cases x<;>simp [qgd,qoz] at hl;subst hl;rfl
       |cons y l=>cases x<;>simp [qgd] at hl
     apply Array.ext'
     exact this _ h2
    exact results_tmp hq _ P w'
   rcases hfin with ⟨j,es,et,z,e1,e2,e3⟩|⟨et,z,z0,e1,e3⟩
   rotate_left
   ·have hsl:=hs.2.1.getD i
    rw [e1] at hsl
    have hv:a.tmps.getD i undef=.slice none 0 0:=hsl
    have hrv:RVok w' (ZB L ι B.X) B.w0.heap.size (.fr [] et z) (a.tmps.getD i undef):=by
     rw [hv]
     exact ⟨[],⟨by simp,.inl ⟨rfl,rfl⟩⟩,by simp,by simp [PRepL],by simp,fun b hb=>by simp [blk] at hb⟩
    have hno:∀ b,RV.own (.fr [] et z) (a.tmps.getD i undef) b→Own L ι b:=fun b hb=>by rw [hv] at hb;simp [RV.own,blk] at hb
    cases hbx:bx with
    |none=>rw [hbx] at e3;exact ⟨_,.fr [] et z,noOS,hres,e3,hrv,(fun h=>by cases h),hno⟩
    |some p=>
     rw [hbx] at e3
     obtain ⟨cs',g1,g2⟩:=e3
     exact ⟨_,.fr [] et z,cs',hres,g2,hrv,(fun _=>g1),hno⟩
   have hsl:=hs.2.1.getD i
   rw [e1] at hsl
   obtain ⟨hv,A,m,cp,hvs⟩:=hsl
   obtain ⟨vs,hrow,g2,g3,g4⟩:=hs.1.sim.obj _ _ e2
   have hblkO:∀ b,blk (a.tmps.getD i undef)=some b→Own L ι b:=fun b hb'=>⟨_,_,e2,by rw [← hv];exact hb'⟩
   have hrow':RowOk w' et z true (a.tmps.getD i undef) es.length vs:=by rw [hv];exact hrow
   have hZ0:bx.isSome=true→∃ q,Zas L (.b 0)=some q:=by
    intro hbs
    cases hbx:bx with
    |none=>rw [hbx] at hbs;cases hbs
    |some p=>rw [hbx] at e3;obtain ⟨cs',g1,_⟩:=e3;exact ⟨_,g1⟩
   have hrv:RVok w' (ZB L ι B.X) B.w0.heap.size (.fr es et z) (a.tmps.getD i undef):=by
    refine ⟨vs,hrow',g2,PRepL.mono (fun c _ hu=>⟨rfl,?_⟩) _ _ g3,g4,fun b hb'=>?_⟩
    ·rintro ((hx|⟨i',q',h1,h2⟩)|hx)
     ·exact hu (.inr hx)
     ·exact hu (.inl ⟨_,q',h1,h2⟩)
     ·exact hu (.inl (hblkO c hx))
    ·rcases hs.1.own b (hblkO b hb') with h'|h'
     ·obtain ⟨k0,q0,h5,h6⟩:=h'
      rw [hb0] at h5
      cases hbx:bx with
      |none=>rw [hbx] at h5;simp [l0,Zas] at h5
      |some p=>
       obtain ⟨q1,hq1⟩:=hZ0 (by rw [hbx];rfl)
       rw [hbx] at h5
       simp only [l0,Zas] at h5
       split at h5
       ·rename_i ek
        subst ek
        have hk0:ι (.b 0)=B.i0 (.b 0):=hs.1.keep (.b 0) (by rw [hb0,hbx];simp [l0,Zas]) (by rw [hq1];rfl)
        have:=hs.1.sim.inj (.b 0) (.l j) q1 _ b hq1 e2 (by rw [hk0];exact h6) (by rw [← hv];exact hb')
        cases this
       ·cases h5
     ·exact h'
   cases hbx:bx with
   |none=>rw [hbx] at e3;exact ⟨_,.fr es et z,noOS,hres,e3,hrv,(fun h=>by cases h),hblkO⟩
   |some p=>
    rw [hbx] at e3
    obtain ⟨cs',g1,g2⟩:=e3
    exact ⟨_,.fr es et z,cs',hres,g2,hrv,(fun _=>g1),hblkO⟩
  cases e with
  |normal=>exact ⟨.inl rfl,key q⟩
  |ret=>exact ⟨.inr rfl,key q⟩
  |_=>exact q.elim
 ·cases hc
def qdl (P:Program) (E:Envt) (f:FuncId) (t:TypeId) (cs args:List PV) (ψ:PV→List PV→Prop):Prop:=GCall P E f (some (.box t cs)) args fun r os=>∃ x cs',r=.p x∧os=.box t cs'∧ψ x cs'
def qsu (P:Program) (E:Envt) (f:FuncId) (t:TypeId) (cs args:List PV) (e z:Nat) (ψ:List (List PV)→List PV→Prop):Prop:=GCall P E f (some (.box t cs)) args fun r os=>∃ es cs',r=.fr es e z∧os=.box t cs'∧ψ es cs'
def FCall (P:Program) (E:Envt) (f:FuncId) (args:List PV) (e z:Nat) (φ:List (List PV)→Prop):Prop:=GCall P E f none args fun r _=>∃ es,r=.fr es e z∧φ es
def RCall (P:Program) (E:Envt) (f:FuncId) (e z:Nat) (es:List (List PV)) (args:List PV) (ψ:PV→List (List PV)→Prop):Prop:=GCall P E f (some (.row e z es)) args fun r os=>∃ x es',r=.p x∧os=.row e z es'∧ψ x es'
variable {L:Objs} {fr:List AV} {X:List PV} {K:List AV→Objs→Prop}
theorem qvW {f:FuncId} {as:List AV} {ps:List PV} {post:RV→OS→Prop} (h:GCall P E f none ps post) (ha:Zbh L as=some ps) (hn:Zbj as=true):GC P E f as L none post:=by
 intro w X ι vs hs hX hE hEb hA
 exact h w (fun b=>Own L ι b∨X b) vs undef (fun b hb=>hb.elim (fun h=>qa6 hs h) (fun h=>(hX b h).1)) hE (fun b hb=>⟨(hEb b hb).1,fun h=>by cases h⟩) (qhX hn ha hA) trivial
def AV.key1 (k:Key):OS→AV
 |.box _ _=>.adr k 0
 |.row _ _ _=>.row k
theorem qpR {f:FuncId} {as:List AV} {ps:List PV} {os:OS} {k:Key} {post:RV→OS→Prop} (h:GCall P E f (some os) ps post) (hl:Zas L k=some os.ao) (ha:Zbh L as=some ps) (hn:Zbj as=true):GC P E f (AV.key1 k os :: as) L (some (k,os)) post:=by
 intro w X ι vs hs hX hE hEb hA
 simp only [ARepL] at hA
 obtain ⟨v0,vr,rfl,hv0,hA⟩:=hA
 have hv0:v0=ι k:=by
  cases os with
  |box t cs=>obtain ⟨b,e1,e2⟩:=hv0;rw [e1,e2]
  |row e z es=>exact hv0.1
 subst hv0
 have hOb:∀ c,blk (ι k)=some c→Own L ι c:=fun c hc=>⟨k,_,hl,hc⟩
 refine (h w (fun b=>Own L ι b∨X b) vr (ι k) (fun b hb=>hb.elim (fun h=>qa6 hs h) (fun h=>(hX b h).1)) hE (fun c hc=>⟨(hEb c hc).1,fun _ e=>(hEb c hc).2 (hOb c e)⟩) (qhX hn ha hA) ⟨fun c hc=>.inl (hOb c hc),ObjAt.of (hs.obj k _ hl)⟩).mono ?_
 rintro e w' ⟨v,r,os',rfl,hp,hr,hG,hB⟩
 exact ⟨v,r,os',rfl,hp,hr,⟨hG.os,hG.tape,hG.output,hG.size,fun c hc hn=>hG.block c hc (fun ec=>hn ⟨_,hl,ec⟩)⟩,hB⟩
theorem qn2 {w:World} {U:Nat→Prop} {ι:Key→Value}:∀ {as:List AV} {ps:List PV} {vs:List Value},qdk as=some ps→ARepL w U ι as vs→PRepL w U ps vs:=by
 intro as
 induction as with
 |nil=>intro ps vs h hr;simp only [qdk,zg] at h;subst h;exact hr
 |cons a as ih=>
  intro ps vs h hr
  cases a with
  |p x=>
   simp only [qdk,zi] at h
   obtain ⟨l,e2,rfl⟩:=h
   simp only [ARepL] at hr
   obtain ⟨v,r,rfl,h1,h2⟩:=hr
   simp only [PRepL]
   exact ⟨v,r,rfl,h1,ih e2 h2⟩
  |_=>simp [qdk] at h
theorem ARepL.split {w:World} {U:Nat→Prop} {ι:Key→Value}:∀ {as bs:List AV} {vs:List Value},ARepL w U ι (as++bs) vs→∃ us ws,vs=us++ws∧ARepL w U ι as us∧ARepL w U ι bs ws
 |[],bs,vs,h=>⟨[],vs,rfl,by simp [ARepL],h⟩
 |a :: as,bs,vs,h=>by
  simp only [zo,ARepL] at h
  obtain ⟨v,r,rfl,h1,h2⟩:=h
  obtain ⟨us,ws,rfl,h3,h4⟩:=ARepL.split h2
  exact ⟨v :: us,ws,rfl,by simp only [ARepL];exact ⟨v,us,rfl,h1,h3⟩,h4⟩
theorem useS {f:FuncId} {as:List AV} {ps cs:List PV} {t:TypeId} {k:Key} {ψ:PV→List PV→Prop} {d:Option Nat} {is:List IOper} (h:qdl P E f t cs ps ψ) (hl:Zas L k=some (.box (cs.map .p) t)) (ha:Zbh L as=some ps) (hn:Zbj as=true) (hs:Zbl d (some (k,.box t cs)))
  (hk:∀ x cs',ψ x cs'→qaa P E X is (Zg fr d (.p x)) (Zat L k (.box (cs'.map .p) t)) K):qa0 P E f (.adr k 0 :: as) L d fr (qc8 P E X is K):=
 .inr (.inl ⟨some (k,.box t cs),_,qpR h hl ha hn,hl,hs,fun r os' hp=>by obtain ⟨x,cs',rfl,rfl,hx⟩:=hp;exact hk x cs' hx⟩)
theorem qn1 {L L':Objs}:∀ {as:List AV},Zbj as=true→Zbh L as=Zbh L' as
 |[],_=>rfl
 |a :: r,h=>by
  have e:Zbi L a=Zbi L' a∧Zbj r=true:=by
   cases a<;>simp only [Zbj,Bool.false_eq_true,zh,List.isEmpty_iff] at h
   case fn f ks=>obtain ⟨rfl,h⟩:=h;exact ⟨rfl,h⟩
   all_goals exact ⟨rfl,h⟩
  simp only [Zbh]
  rw [e.1,qn1 (L:=L) (L':=L') e.2]
theorem useD {b:Bool} {f:FuncId} {as:List AV} {ps cs:List PV} {t:TypeId} {k:Key} {ψ:PV→List PV→Prop} {d:Option Nat} {is:List IOper} (h:qdl P E f t cs ps ψ) (hne:∃ x cs',ψ x cs') (hl:Zas L k=some (.box (cs.map .p) t)) (ha:Zbh L as=some ps) (hn:Zbj as=true) (hs:Zbl d (some (k,.box t cs))) (hb:b=true→∃ j,k=.b j)
  (hk:∀ x cs',ψ x cs'→qaa P E X is (Zg fr d (.p x)) (Zat L k (.box (cs'.map .p) t)) K):DCallOp b P E f (.adr k 0 :: as) L d fr (qc8 P E X is K):=
 ⟨k,t,cs,ψ,fun L' hl'=>qpR h hl' ((qn1 hn).symm.trans ha) hn,hl,(fun e he=>by subst he;exact hs),hb,hne,hk⟩
theorem qyd {f:FuncId} {as:List AV} {ps cs:List PV} {t:TypeId} {k:Key} {e z:Nat} {ψ:List (List PV)→List PV→Prop} {d:Nat} {is:List IOper} (h:qsu P E f t cs ps e z ψ) (hl:Zas L k=some (.box (cs.map .p) t)) (ha:Zbh L as=some ps) (hn:Zbj as=true) (hs:Zbl (some d) (some (k,.box t cs)))
  (hk:∀ es cs',ψ es cs'→qaa P E X is ((fr.map (·.kill (.l d))).set d (.row (.l d))) (Zav (Zat L k (.box (cs'.map .p) t)) (.l d) (.row es e z true)) K):qa0 P E f (.adr k 0 :: as) L (some d) fr (qc8 P E X is K):=
 .inr (.inl ⟨some (k,.box t cs),_,qpR h hl ha hn,hl,hs,fun r os' hp=>by obtain ⟨es,cs',rfl,rfl,hx⟩:=hp;exact hk es cs' hx⟩)
theorem useF {f:FuncId} {as:List AV} {ps:List PV} {e z:Nat} {φ:List (List PV)→Prop} {d:Nat} {is:List IOper} (h:FCall P E f ps e z φ) (ha:Zbh L as=some ps) (hn:Zbj as=true)
  (hk:∀ es,φ es→qaa P E X is ((fr.map (·.kill (.l d))).set d (.row (.l d))) (Zav L (.l d) (.row es e z true)) K):qa0 P E f as L (some d) fr (qc8 P E X is K):=
 .inr (.inl ⟨none,_,qvW h ha hn,trivial,trivial,fun r cs' hp=>by obtain ⟨es,rfl,hx⟩:=hp;exact hk es hx⟩)
theorem qn3:∀ ps:List PV,qdk (ps.map .p)=some ps
 |[]=>rfl
 |x :: r=>by simp only [zl,qdk,qn3 r,zF]
theorem qyf {f:FuncId} {as:List AV} {ps:List PV} {e z:Nat} {φ:List (List PV)→Prop} {d:Nat} {is:List IOper} (h:FCall P E f ps e z φ) (ha:qdk as=some ps)
  (hk:∀ es,φ es→qaa P E X is ((fr.map (·.kill (.l d))).set d (.row (.l d))) (Zav L (.l d) (.row es e z true)) K):qa0 P E f as L (some d) fr (qc8 P E X is K):=
 .inr (.inl ⟨none,_,(fun w X ι vs hs hX hE hEb hA=>h w (fun b=>Own L ι b∨X b) vs undef (fun b hb=>hb.elim (fun h=>qa6 hs h) (fun h=>(hX b h).1)) hE (fun b hb=>⟨(hEb b hb).1,fun h=>by cases h⟩) (qn2 ha hA) trivial),trivial,trivial,fun r cs' hp=>by obtain ⟨es,rfl,hx⟩:=hp;exact hk es hx⟩)
theorem qwR {f:FuncId} {ps:List PV} {e z:Nat} {es:List (List PV)} (h:FCall P E f ps e z (·=es)):FrC P E f ps e z es:=fun L w X ι vs hs hX hE hEb hA=>
 (h w (fun b=>Own L ι b∨X b) vs undef (fun b hb=>hb.elim (fun h=>qa6 hs h) (fun h=>(hX b h).1)) hE (fun b hb=>⟨(hEb b hb).1,fun h=>by cases h⟩) (qn2 (qn3 ps) hA) trivial).mono (by
  rintro en w' ⟨v,r,cs',rfl,⟨es',rfl,rfl⟩,h2⟩
  exact ⟨v,_,cs',rfl,rfl,h2⟩)
theorem useR {f:FuncId} {as:List AV} {ps:List PV} {e z:Nat} {es:List (List PV)} {k:Key} {ψ:PV→List (List PV)→Prop} {d:Option Nat} {is:List IOper} (h:RCall P E f e z es ps ψ) (hl:Zas L k=some (.row es e z true)) (ha:Zbh L as=some ps) (hn:Zbj as=true) (hs:Zbl d (some (k,.row e z es)))
  (hk:∀ x es',ψ x es'→qaa P E X is (Zg fr d (.p x)) (Zat L k (.row es' e z true)) K):qa0 P E f (.row k :: as) L d fr (qc8 P E X is K):=
 .inr (.inl ⟨some (k,.row e z es),_,qpR h hl ha hn,hl,hs,fun r os' hp=>by obtain ⟨x,es',rfl,rfl,hx⟩:=hp;exact hk x es' hx⟩)
theorem GCall.mono {f:FuncId} {bx:Option OS} {args:List PV} {post post':RV→OS→Prop} (h:GCall P E f bx args post) (hp:∀ r os,post r os→post' r os):GCall P E f bx args post':=by
 intro w U vs v0 hU hE hEb hA hB
 refine (h w U vs v0 hU hE hEb hA hB).mono ?_
 rintro e w' ⟨v,r,os',h1,h2,h3⟩
 exact ⟨v,r,os',h1,hp r os' h2,h3⟩
theorem RCall.mono {f:FuncId} {e z:Nat} {es:List (List PV)} {args:List PV} {ψ ψ':PV→List (List PV)→Prop} (h:RCall P E f e z es args ψ) (hp:∀ x es,ψ x es→ψ' x es):RCall P E f e z es args ψ':=
 GCall.mono h fun r os ⟨x,es',h1,h2,h3⟩=>⟨x,es',h1,h2,hp x es' h3⟩
theorem FCall.mono {f:FuncId} {e z:Nat} {args:List PV} {φ φ':List (List PV)→Prop} (h:FCall P E f args e z φ) (hp:∀ es,φ es→φ' es):FCall P E f args e z φ':=
 GCall.mono h fun r os ⟨es,h1,h2⟩=>⟨es,h1,hp es h2⟩
theorem PCall.mono {f:FuncId} {args:List PV} {φ φ':PV→Prop} (h:PCall P E f args φ) (hp:∀ x,φ x→φ' x):PCall P E f args φ':=by
 intro w U vs hU hE hEb hA
 refine (h w U vs hU hE hEb hA).mono ?_
 rintro e w' ⟨v,x,h1,h2,h3⟩
 exact ⟨v,x,h1,hp x h2,h3⟩
theorem qfU {t:TypeId} {cs:List PV} {ψ:PV→List PV→Prop} {x:PV} (cs':List PV) (h1:Zas L (.b 0)=some (.box (cs'.map .p) t)) (h2:ψ x cs'):finP (some (.box t cs)) (fun r os=>∃ x cs',r=.p x∧os=.box t cs'∧ψ x cs') x L:=⟨.box t cs',h1,x,cs',rfl,rfl,h2⟩
theorem qtA {i e z:Nat} {φ:List (List PV)→Prop} (j:Nat) (es:List (List PV)) (h0:fr.getD i .any=.row (.l j)) (h1:Zas L (.l j)=some (.row es e z true)) (h2:φ es):finF none (fun r _=>∃ es,r=.fr es e z∧φ es) i fr L:=.inl ⟨j,es,e,z,h0,h1,es,rfl,h2⟩
theorem qxQ {i e z z0:Nat} {φ:List (List PV)→Prop} (h0:fr.getD i .any=.p (.nl z0)) (h2:φ []):finF none (fun r _=>∃ es,r=.fr es e z∧φ es) i fr L:=.inr ⟨e,z,z0,h0,[],rfl,h2⟩
theorem qxP {i e z:Nat} {t:TypeId} {cs:List PV} {ψ:List (List PV)→List PV→Prop} (j:Nat) (es:List (List PV)) (cs':List PV) (h0:fr.getD i .any=.row (.l j)) (h1:Zas L (.l j)=some (.row es e z true)) (h3:Zas L (.b 0)=some (.box (cs'.map .p) t)) (h2:ψ es cs'):finF (some (.box t cs)) (fun r os=>∃ es cs',r=.fr es e z∧os=.box t cs'∧ψ es cs') i fr L:=.inl ⟨j,es,e,z,h0,h1,.box t cs',h3,es,cs',rfl,rfl,h2⟩
end
def qff (s:List UInt8):List UInt8:=if s=[] then [45] else s
def hxD:List UInt8:=[48,49,50,51,52,53,54,55,56,57,97,98,99,100,101,102]
def hxB (n:Nat):UInt8:=hxD.getD n 0
def quB (c:UInt8):List UInt8:=
 if c=34∨c=92 then [92,c] else if c=10 then [92,110] else if c < 33∨126 < c then [92,120,hxB (c.toNat / 16),hxB (c.toNat % 16)] else [c]
def quoF (s:List UInt8):List UInt8:=34 :: (s.flatMap quB++[34])
theorem qou (c:UInt8):(quB c).length≤4:=by
 unfold quB
 split
 ·simp
 split
 ·simp
 split<;>simp
theorem qot (s:List UInt8):(s.flatMap quB).length≤4 * s.length:=by
 induction s with
 |nil=>simp
 |cons c s ih=>
  have:=qou c
  simp only [List.flatMap_cons,zx,zk]
  omega
theorem qpz (s:List UInt8):(quoF s).length≤4 * s.length+2:=by
 have:=qot s
 simp only [quoF,zk,zx,zp]
 omega
theorem qpy {s:List UInt8} {k:Nat} (h:k < s.length):(s.take (k+1)).flatMap quB=(s.take k).flatMap quB++quB (s.getD k 0):=by
 rw [zX h,List.flatMap_append]
 simp [zG,zr h]
def hexF (n:Nat):List UInt8:=if h:n < 16 then [hxB n] else hexF (n / 16)++[hxB (n % 16)]
termination_by n
decreasing_by omega
theorem qfH {n:Nat} (h:n < 16):hexF n=[hxB n]:=by rw [hexF,dif_pos h]
theorem qjU {n:Nat} (h:¬ n < 16):hexF n=hexF (n / 16)++[hxB (n % 16)]:=by rw [hexF,dif_neg h]
def hexK:Nat→Nat→List UInt8
 |0,_=>[]
 |k+1,n=>hexK k (n / 16)++[hxB (n % 16)]
theorem qmg:∀ (k n:Nat),(hexK k n).length=k
 |0,_=>rfl
 |k+1,n=>by simp [hexK,qmg k]
theorem qnz:∀ (k:Nat),hexK k 0=zJ k 48
 |0=>rfl
 |k+1=>by
  rw [hexK,qnz k,List.replicate_succ']
  rfl
theorem qmh:∀ (k n:Nat),n < 16 ^ (k+1)→(hexF n).length≤k+1
 |0,n,h=>by rw [qfH (by simpa using h)];simp
 |k+1,n,h=>by
  by_cases hs:n < 16
  ·rw [qfH hs];simp
  ·rw [qjU hs]
   have:=qmh k (n / 16) (by rw [Nat.pow_succ] at h;omega)
   simp only [zx,zk,zp]
   omega
theorem qvT (n:Nat):1≤(hexF n).length:=by
 by_cases hs:n < 16
 ·rw [qfH hs];simp
 ·rw [qjU hs];simp
theorem qrN:∀ (k n:Nat),n < 16 ^ (k+1)→zJ (k+1 - (hexF n).length) 48++hexF n=hexK (k+1) n
 |k,n,h=>by
  by_cases hs:n < 16
  ·rw [qfH hs]
   have h0:n / 16=0:=by omega
   have h1:n % 16=n:=by omega
   rw [hexK,h0,h1,qnz]
   simp
  ·rw [qjU hs]
   cases k with
   |zero=>exact absurd (by simpa using h) hs
   |succ k=>
    have hk:n / 16 < 16 ^ (k+1):=by rw [Nat.pow_succ] at h;omega
    have ih:=qrN k (n / 16) hk
    have hl:=qmh k (n / 16) hk
    rw [hexK,← ih]
    simp only [zx,zk,zp]
    rw [show k+1+1 - ((hexF (n / 16)).length+(0+1))=k+1 - (hexF (n / 16)).length from by omega,List.append_assoc]
def fnvS (h:Int) (c:UInt8):Int:=IntKind.u64.wrap (bitX .u64 h c.toNat * 1099511628211)
def fnvF (s:List UInt8):Int:=s.foldl fnvS 14695981039346656037
theorem qwP (x:Int):0≤IntKind.u64.wrap x∧IntKind.u64.wrap x < 18446744073709551616:=by
 rw [IntKind.wrap_u64];omega
theorem qlG {x:Int} (h0:0≤x) (h1:x < 18446744073709551616):IntKind.u64.wrap x=x:=by
 rw [IntKind.wrap_u64];omega
theorem qoR (s:List UInt8):0≤fnvF s∧fnvF s < 18446744073709551616:=by
 have:∀ (l:List UInt8) (x:Int),(0≤x∧x < 18446744073709551616)→0≤l.foldl fnvS x∧l.foldl fnvS x < 18446744073709551616:=by
  intro l
  induction l with
  |nil=>intro x h;exact h
  |cons c l ih=>intro x _;exact ih _ (qwP _)
 exact this s _ (by omega)
theorem qpS {s:List UInt8} {k:Nat} (h:k < s.length):fnvF (s.take (k+1))=fnvS (fnvF (s.take k)) (s.getD k 0):=by
 have hg:s.getD k 0=s[k]:=by simp [zG,zr h]
 rw [zX h,fnvF,List.foldl_append,hg]
 rfl
theorem qqz (x:Int) :
  IntKind.u64.wrap (IntKind.u64.wrap (IntKind.u64.wrap (IntKind.u64.wrap (IntKind.u64.wrap (IntKind.u64.wrap (IntKind.u64.wrap (x * 1099511627776)+IntKind.u64.wrap (x * 256))+IntKind.u64.wrap (x * 128))+IntKind.u64.wrap (x * 32))+IntKind.u64.wrap (x * 16))+IntKind.u64.wrap (x * 2))+x)=IntKind.u64.wrap (x * 1099511628211):=by
 simp only [IntKind.wrap_u64]
 omega
def digF (s:List UInt8):List UInt8:=hexK 16 (fnvF s).toNat
theorem qpY (s:List UInt8):(digF s).length=16:=qmg _ _
theorem qwn (s:List UInt8):zJ (16 - (hexF (fnvF s).toNat).length) 48++hexF (fnvF s).toNat=digF s:=by
 have:=qoR s
 exact qrN 15 _ (by omega)
theorem qxZ {u:Int} (h0:0≤u) (h1:u < 18446744073709551616):bitA .u64 u 15=u % 16:=by
 obtain ⟨n,rfl⟩:=Int.eq_ofNat_of_zero_le h0
 have:(BitVec.ofInt 64 (n:Int) &&& BitVec.ofInt 64 15).toNat=n % 16:=by
  rw [BitVec.toNat_and]
  have e1:(BitVec.ofInt 64 (n:Int)).toNat=n:=by
   simp
   omega
  have e2:(BitVec.ofInt 64 15).toNat=2 ^ 4 - 1:=by decide
  rw [e1,e2,Nat.and_two_pow_sub_one_eq_mod]
 show IntKind.u64.wrap ((BitVec.ofInt 64 (n:Int) &&& BitVec.ofInt 64 15).toNat:Nat)=_
 rw [this,qlG (by omega) (by omega)]
 omega
theorem quv (n:Nat) (h:n < 16):([48,49,50,51,52,53,54,55,56,57,97,98,99,100,101,102,103,104,105,106,107,108,109,110,111,112,113,114,115,116,117,118,119,120,121,122]:List UInt8).getD n 0=hxB n:=by
 have:∀ n:Fin 16,([48,49,50,51,52,53,54,55,56,57,97,98,99,100,101,102,103,104,105,106,107,108,109,110,111,112,113,114,115,116,117,118,119,120,121,122]:List UInt8).getD n.val 0=hxB n.val:=by decide
 exact this ⟨n,h⟩
theorem qxG (n:Nat) (h:n < 16):(([48,49,50,51,52,53,54,55,56,57,97,98,99,100,101,102]:List UInt8).take (n+1)).drop n=[hxB n]:=by
 have:∀ n:Fin 16,(([48,49,50,51,52,53,54,55,56,57,97,98,99,100,101,102]:List UInt8).take (n.val+1)).drop n.val=[hxB n.val]:=by decide
 exact this ⟨n,h⟩
end Go.Proofs.YtjgdjinhkgjpeaaGreatDoor
namespace Go.Proofs.YtjgdjinhkgjpeaaGreatDoor
open Go.RowKit
def qkZ:PV→Bool
 |.int ..|.bool _|.str _=>true
 |_=>false
def valD:PV→Value
 |.int k n=>.int k n
 |.bool b=>.bool b
 |.str s=>.string ⟨s.toArray⟩
 |_=>undef
theorem PRep.valD {w:World} {U:Nat→Prop} {x:PV} {v:Value} (hf:qkZ x=true):PRep w U x v↔v=valD x:=by
 cases x<;>simp_all [qkZ,PRep,Go.Proofs.YtjgdjinhkgjpeaaGreatDoor.valD]
theorem PRepL.valD {w:World} {U:Nat→Prop}:∀ {xs:List PV} {vs:List Value},(xs.all qkZ)=true→(PRepL w U xs vs↔vs=xs.map Go.Proofs.YtjgdjinhkgjpeaaGreatDoor.valD):=by
 intro xs
 induction xs with
 |nil=>intro vs _;simp [PRepL]
 |cons x r ih=>
  intro vs h
  simp only [List.all_cons,Bool.and_eq_true] at h
  simp only [PRepL,List.map_cons]
  constructor
  ·rintro ⟨v,s,rfl,h1,h2⟩
   rw [PRep.valD h.1] at h1
   rw [ih h.2] at h2
   rw [h1,h2]
  ·rintro rfl
   exact ⟨_,_,rfl,(PRep.valD h.1).2 rfl,(ih h.2).2 rfl⟩
theorem qpk {x:PV} (hf:qkZ x=true):(valD x).oneCell'=true:=by
 cases x<;>first|rfl|cases hf
section
variable {P:Program} {E:Envt}
theorem qcL {w w':World} {O:Nat→Prop} (h:Below w.heap.size w w'):Grow w w' O:=⟨h.os,h.tape,h.output,h.size,fun b hb _=>h.block b hb⟩
def qty:PV→Bool
 |.tup cs=>cs.all qkZ
 |x=>qkZ x
def valX:PV→Value
 |.tup cs=>.tuple (cs.map valD).toArray
 |x=>valD x
theorem PRep.valX {w:World} {U:Nat→Prop} {x:PV} (hf:qty x=true):PRep w U x (valX x):=by
 cases x with
 |tup cs=>exact ⟨_,rfl,(PRepL.valD (by simpa [qty] using hf)).2 rfl⟩
 |int k n=>rfl
 |bool b=>rfl
 |str s=>rfl
 |_=>simp [qty,qkZ] at hf
theorem qbz {f:FuncId} {args:List PV} {r:PV} (ha:args.all qkZ=true) (hr:qty r=true) (h:∀ w,E.ok w→Calls P f (args.map valD).toArray w fun e w'=>e=.returned (valX r)∧Grow w w' (fun _=>False)):PCall P E f args (·=r):=by
 intro w U vs hU hE hEb hA
 rw [PRepL.valD ha] at hA
 subst hA
 refine (h w hE).mono ?_
 rintro e w' ⟨rfl,hg⟩
 exact ⟨_,r,rfl,rfl,PRep.valX hr,hg⟩
end
end Go.Proofs.YtjgdjinhkgjpeaaGreatDoor
namespace Go.Proofs.YtjgdjinhkgjpeaaGreatDoor
section
variable {w w':World} {U:Nat→Prop} {ι ι':Key→Value} {f:Key→Option Key}
theorem ObjOk.keeps {U':Nat→Prop} (hk:Keeps w w U U') {k:Key} {a:AO} (h:ObjOk w U ι k a):ObjOk w U' ι k a:=h.mono hk (fun _ _=>rfl)
end
section
variable {P:Program} {E:Envt}
variable {L:Objs} {fr:List AV} {d:Option Nat} {is:List IOper} {Y:List PV} {K:List AV→Objs→Prop}
end
end Go.Proofs.YtjgdjinhkgjpeaaGreatDoor
