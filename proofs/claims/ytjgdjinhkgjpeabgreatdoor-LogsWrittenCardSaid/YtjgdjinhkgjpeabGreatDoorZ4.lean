import Derived.Test.YtjgdjinhkgjpeabGreatDoorZ3
import Derived.Lib.Builder
import Derived.Lib.UnsafeStr
set_option linter.unusedVariables false
set_option linter.unusedSimpArgs false
set_option linter.defProp false
namespace Go.Proofs.YtjgdjinhkgjpeabGreatDoor
open Option.some renaming injEq→zg
open Prod.mk renaming injEq→zj
open Nat renaming le_refl→zL
open List renaming all_eq_true→yf,cons_append→zT,eq_nil_of_length_eq_zero→zq,getD→zC,getElem?_eq_getElem→zk,getElem?_eq_none→zR,getElem?_eq_some_iff→zo,getElem?_map→zy,getElem?_of_mem→yg,getElem?_range→yc,length_append→zm,length_cons→zl,map_append→zF,map_cons→zx,mem_append→zp,mem_cons→zG,mem_map→zE,mem_of_getElem?→zn,mem_singleton→zu,nil_append→zU,range→zB,replicate→zD
open Bool renaming and_eq_true→zi,not_eq_false'→z6,not_eq_true'→zQ,or_eq_true→yh
open Option renaming map_eq_some_iff→zh,map_some→zA
open _root_.Array renaming getD_eq_getD_getElem?→zz,getElem?_eq_some_iff→zw,getElem?_setIfInBounds_ne→zO
section
variable {P:Program} {E:Envt} {Y:List PV} {fr:List AV} {L:Objs}
def InvT (d:Nat) (fr:List AV) (L:Objs):Prop:=(fr.set d .any).map (·.kill (.l d))=fr.set d .any∧Zau (.l d) L=L∧(fr.getD d .any=.any∨fr.getD d .any=.adr (.l d) 0)
def InvA (ts:List Nat) (fr:List AV) (L:Objs):Prop:=∀ d∈ts,InvT d fr L
theorem qdH {ts:List Nat} {i:IOper} (h:okT ts i=true):(∃ d t z,i=⟨some d,.alcd t z,none⟩∧d∈ts)∨(∃ sz d x,i=⟨none,.st sz (.t d) x,none⟩∧d∈ts∧∀ s∈qaT x,s∉ts)∨(∃ l,qaP i=some l∧qiY i.op=true∧(∀ s∈l,s∉ts)∧∀ d,i.dst=some d→d∉ts):=by
 unfold okT at h
 split at h
 ·exact .inl ⟨_,_,_,rfl,by simpa using h⟩
 ·rw [zi,yf] at h
  exact .inr (.inl ⟨_,_,_,rfl,by simpa using h.1,fun s hs=>by simpa using h.2 s hs⟩)
 ·split at h
  ·rename_i l hl
   rw [zi,zi,yf] at h
   refine .inr (.inr ⟨l,hl,h.1.1,fun s hs=>by simpa using h.1.2 s hs,fun d hd=>?_⟩)
   have:=h.2
   rw [hd] at this
   simpa using this
  ·cases h
theorem qqQ {i:IOper} {l:List Nat} {d:Nat} (h:qaP i=some l) (hd:d∉l):sx P E Y (fr.set d .any) L i=sx P E Y fr L i:=qeI (d:=some d) h fun e he=>by cases he;exact hd
theorem qqN {i:IOper} {l:List Nat} {d:Nat} {a:AO} (h:qaP i=some l) (hf:qiY i.op=true) (hd:d∉l) (hI:InvT d fr L):sx P E Y fr (Zat L (.l d) a) i=sx P E Y fr L i:=by
 rw [← qqQ h hd,qnW hf (by rw [h];rfl) hI.1,qqQ h hd]
theorem qjO {d:Nat} {e:Option Nat} {r:AV} (h:∀ q,e=some q→q≠d):(Zg fr e r).getD d .any=fr.getD d .any:=by
 cases e with
 |none=>rfl
 |some q=>simp only [Zg,zC];rw [List.getElem?_set_ne (h q rfl)]
theorem qsV {d:Nat} {e:Option Nat} {r q:AV} (h:∀ q,e=some q→q≠d):(Zg fr e r).set d q=Zg (fr.set d q) e r:=by
 cases e with
 |none=>rfl
 |some k=>simp only [Zg];exact List.set_comm _ _ (h k rfl)
theorem InvT.setD {d:Nat} {e:Option Nat} {r:AV} (hI:InvT d fr L) (he:∀ q,e=some q→q≠d) (hr:r.kill (.l d)=r):InvT d (Zg fr e r) L:=
 ⟨by rw [qsV he];exact qn1 hI.1 hr,hI.2.1,by rw [qjO he];exact hI.2.2⟩
theorem qxV {ts:List Nat} {i:IOper} {l:List Nat} {c:Prop} {r:AV} (h:qaP i=some l) (hl:∀ s∈l,s∉ts) (hd:∀ d,i.dst=some d→d∉ts) (hI:InvA ts fr L) (hs:sx P E Y fr L i=some (c,r)):InvA ts (Zg fr i.dst r) L:=fun d hm=>
 (hI d hm).setD (fun q hq e=>hd q hq (e ▸ hm)) (qqP (by rw [h];rfl) (hI d hm).1 (hI d hm).2.1 (by rw [qqQ h (fun hc=>hl d hc hm)];exact hs))
theorem InvT.put {d:Nat} {k:Key} {a:AO} (hI:InvT d fr L) (ha:a.kill (.l d)=a):InvT d fr (Zat L k a):=⟨hI.1,qdq hI.2.1 ha,hI.2.2⟩
theorem qtI {ts:List Nat} {e:Nat} {t:TypeId} {zero:List PV} (hI:InvA ts fr L):InvA ts (fr.set e (.adr (.l e) 0)) (Zat L (.l e) (.box (zero.map .p) t)):=by
 intro d hm
 by_cases he:e=d
 ·subst he
  refine ⟨by rw [List.set_set];exact (hI e hm).1,qdq (hI e hm).2.1 qia,?_⟩
  by_cases hl:e < fr.length
  ·right;simp [zC,hl]
  ·left;simp [zC,zR,hl]
 ·have:=((hI d hm).put (k:=.l e) (a:=.box (zero.map .p) t) qia).setD (e:=some e) (r:=.adr (.l e) 0) (fun q hq=>by cases hq;exact he) (by simp [AV.kill,he])
  exact this
set_option maxHeartbeats 2000000 in
theorem st_t {sz e:Nat} {x:Opd} {c:Prop} {L':Objs} (hI:InvT e fr L) (hx:e∉qaT x) (h:stx fr L sz (.t e) x=some (c,L')) :
  ∃ cs bt vals,Zas L (.l e)=some (.box cs bt)∧L'=Zat L (.l e) (.box (Zac cs 0 vals) bt)∧(∀ d,(fr.set d .any).map (·.kill (.l d))=fr.set d .any→d∉qaT x→∀ v∈vals,v.kill (.l d)=v)∧
   ∀ L2,Zas L2 (.l e)=Zas L (.l e)→(∀ k kv a b,Zas L k=some (.map kv a b)→Zas L2 k=some (.map kv a b))→stx fr L2 sz (.t e) x=some (c,Zat L2 (.l e) (.box (Zac cs 0 vals) bt)):=by
 rcases hI.2.2 with h0|h0
 ·have hp:(rd fr (.t e)).un=(True,.any):=by simp only [rd,h0];rfl
  simp [stx,Ze,hp] at h
 have hp:(rd fr (.t e)).un=(True,.adr (.l e) 0):=by simp only [rd,h0];rfl
 simp only [stx,Ze,hp] at h ⊢
 have hk:∀ d,(fr.set d .any).map (·.kill (.l d))=fr.set d .any→d∉qaT x→(rd fr x).un.2.kill (.l d)=(rd fr x).un.2:=by
  intro d h1 h2
  rw [← qap (r:=.any) h2]
  exact qcd h1 (c:=(rd (fr.set d .any) x).un.1) rfl
 generalize hv:(rd fr x).un=q at h hk ⊢
 obtain ⟨cx,v⟩:=q
 simp only at hk
 cases v with
 |p v=>
  simp only at h ⊢
  split at h
  ·rename_i cs bt hl
   split at h
   ·rename_i hc
    simp only [zA,zg,zj] at h
    obtain ⟨rfl,rfl⟩:=h
    refine ⟨cs,bt,(Zz v).map .p,hl,rfl,fun d _ _ y hy=>by obtain ⟨z,_,rfl⟩:=zE.1 hy;rfl,fun L2 h2 _=>?_⟩
    rw [h2,hl]
    simp only [if_pos hc,zA]
   ·cases h
  ·cases h
 |row k=>
  simp only at h ⊢
  split at h
  ·rename_i cs bt hl
   split at h
   ·rename_i hc
    simp only [zA,zg,zj] at h
    obtain ⟨rfl,rfl⟩:=h
    refine ⟨cs,bt,[.row k],hl,rfl,fun d h1 h2 y hy=>by rw [zu] at hy;subst hy;exact hk d h1 h2,fun L2 h2 _=>?_⟩
    rw [h2,hl]
    simp only [if_pos hc,zA]
   ·cases h
  ·cases h
 |mp k=>
  simp only at h ⊢
  split at h
  ·rename_i cs bt kv ta tb hl hm
   split at h
   ·rename_i hc
    simp only [zA,zg,zj] at h
    obtain ⟨rfl,rfl⟩:=h
    refine ⟨cs,bt,[.mp k],hl,rfl,fun d h1 h2 y hy=>by rw [zu] at hy;subst hy;exact hk d h1 h2,fun L2 h2 h3=>?_⟩
    rw [h2,hl,h3 k _ _ _ hm]
    simp only [if_pos hc,zA]
   ·cases h
  ·cases h
 |fn f ks=>
  cases ks with
  |cons _ _=>simp at h
  |nil=>
   simp only at h ⊢
   split at h
   ·rename_i cs bt hl
    split at h
    ·rename_i hc
     simp only [zA,zg,zj] at h
     obtain ⟨rfl,rfl⟩:=h
     refine ⟨cs,bt,[.p (.clo f [])],hl,rfl,fun d _ _ y hy=>by rw [zu] at hy;subst hy;rfl,fun L2 h2 _=>?_⟩
     rw [h2,hl]
     simp only [if_pos hc,zA]
    ·cases h
   ·cases h
 |_=>simp at h
theorem quP {ts:List Nat} {sz e:Nat} {x:Opd} {c:Prop} {L':Objs} (hI:InvA ts fr L) (he:e∈ts) (hx:∀ s∈qaT x,s∉ts) (h:stx fr L sz (.t e) x=some (c,L')):InvA ts fr L':=by
 intro d hm
 obtain ⟨cs,bt,vals,h1,rfl,h3,_⟩:=st_t (hI e he) (fun hc=>hx e hc he) h
 refine (hI d hm).put (box_fix.2 (qcw (box_fix.1 (qaV (hI d hm).2.1 h1)) ?_))
 exact h3 d (hI d hm).1 fun hc=>hx d hc hm
theorem qrv {k:Key} {a:AO} (hk:∀ kv x y,Zas L k≠some (.map kv x y)):∀ k' kv x y,Zas L k'=some (.map kv x y)→Zas (Zat L k a) k'=some (.map kv x y):=by
 intro k' kv x y h
 by_cases e:k'=k
 ·subst e
  exact absurd h (hk kv x y)
 ·rw [qag,if_neg e]
  exact h
theorem qm4 {k:Key} {a:AO} (hk:∀ kv x y,a≠.map kv x y):∀ k' kv x y,Zas (Zat L k a) k'=some (.map kv x y)→Zas L k'=some (.map kv x y):=by
 intro k' kv x y h
 rw [qag] at h
 split at h
 ·exact absurd (Option.some.inj h) (hk kv x y)
 ·exact h
theorem qoz {d:Nat} {fr':List AV} {L':Objs} (hI:InvT d fr L) (hg:fr'.getD d .any=fr.getD d .any) (hF:Zam d fr' L'):Zam d fr L:=by
 refine ⟨?_,hI.2.1⟩
 rcases hI.2.2 with h|h
 ·have:fr.set d .any=fr:=by
   apply List.ext_getElem
   ·simp
   ·intro i h1 h2
    rw [List.getElem_set]
    split
    ·rename_i e
     subst e
     simpa [zC,zk h2] using h.symm
    ·rfl
  rw [← this]
  exact hI.1
 ·exfalso
  rw [h] at hg
  have hl:d < fr'.length:=by
   by_cases hl:d < fr'.length
   ·exact hl
   ·rw [zC,zR (by omega)] at hg
    cases hg
  have hm:AV.adr (.l d) 0∈fr':=by
   rw [zC,zk hl] at hg
   simp only [Option.getD_some] at hg
   rw [← hg]
   exact List.getElem_mem hl
  have:=qlA hF.1 _ hm
  simp [AV.kill] at this
theorem qtq {ts:List Nat} {i:IOper} {d:Nat} {l:List Nat} (h:okT ts i=true) (hn:isN i=some (d,l)):d∈ts∧l=[]∧∃ t z,i=⟨some d,.alcd t z,none⟩:=by
 rcases qdH h with ⟨d',t,z,rfl,hm⟩|⟨sz,d',x,rfl,_,_⟩|⟨l',hl,_⟩
 ·simp only [isN,zg,zj] at hn
  obtain ⟨rfl,rfl⟩:=hn
  exact ⟨hm,rfl,t,z,rfl⟩
 ·simp [isN] at hn
 ·exfalso
  rcases qkI hn with ⟨t,zero,rfl,_⟩|⟨e,z,parts,rfl,_⟩|⟨n,f,args,e,z,rfl,_⟩<;>simp [qaP,qbY] at hl
variable {is:List IOper} {K:List AV→Objs→Prop}
theorem qiL {ts:List Nat} {sz d:Nat} {v:Opd} {y:IOper} {l:List Nat} (hI:InvA ts fr L) (hd:d∈ts) (hv:∀ s∈qaT v,s∉ts) (hl:qaP y=some l) (hf:qiY y.op=true) (hr:∀ s∈l,s∉ts) (hy:∀ q,y.dst=some q→q≠d∧q∉qaT v) :
  qaa P E Y (⟨none,.st sz (.t d) v,none⟩ :: y :: is) fr L K↔qaa P E Y (y :: ⟨none,.st sz (.t d) v,none⟩ :: is) fr L K:=by
 have hs:∀ r,stx (Zg fr y.dst r) L sz (.t d) v=stx fr L sz (.t d) v:=fun r=>qhH fun e he=>by
  obtain ⟨h1,h2⟩:=hy e he
  simp only [qaT,zp,zu,not_or]
  exact ⟨h1,h2⟩
 have hsx:(qaP y).isSome=true:=by rw [hl];rfl
 constructor
 ·intro h
  rw [qaQ] at h
  obtain ⟨c,L',e1,hc,h⟩:=h
  rw [qas hsx] at h
  obtain ⟨c2,r,e2,hc2,h⟩:=h
  obtain ⟨cs,bt,vals,h1,rfl,_,_⟩:=st_t (hI d hd) (fun q=>hv d q hd) e1
  rw [qqN hl hf (fun q=>hr d q hd) (hI d hd)] at e2
  rw [qas hsx]
  refine ⟨c2,r,e2,hc2,?_⟩
  rw [qaQ]
  exact ⟨c,_,by rw [hs];exact e1,hc,h⟩
 ·intro h
  rw [qas hsx] at h
  obtain ⟨c2,r,e2,hc2,h⟩:=h
  rw [qaQ] at h
  obtain ⟨c,L',e1,hc,h⟩:=h
  rw [hs] at e1
  rw [qaQ]
  refine ⟨c,L',e1,hc,?_⟩
  obtain ⟨cs,bt,vals,h1,rfl,_,_⟩:=st_t (hI d hd) (fun q=>hv d q hd) e1
  rw [qas hsx]
  exact ⟨c2,r,by rw [qqN hl hf (fun q=>hr d q hd) (hI d hd)];exact e2,hc2,h⟩
theorem qiM {ts:List Nat} {sz d:Nat} {v:Opd} {sz2 e:Nat} {u:Opd} (hI:InvA ts fr L) (hd:d∈ts) (he:e∈ts) (hde:d≠e) (hv:∀ s∈qaT v,s∉ts) (hu:∀ s∈qaT u,s∉ts) (h:qaa P E Y (⟨none,.st sz (.t d) v,none⟩ :: ⟨none,.st sz2 (.t e) u,none⟩ :: is) fr L K) :
  qaa P E Y (⟨none,.st sz2 (.t e) u,none⟩ :: ⟨none,.st sz (.t d) v,none⟩ :: is) fr L K:=by
 have hk:Key.l d≠Key.l e:=by simpa using hde
 rw [qaQ] at h
 obtain ⟨c,L1,e1,hc,h⟩:=h
 have hI1:=quP hI hd hv e1
 obtain ⟨cs,bt,vals,h1,rfl,_,h4⟩:=st_t (hI d hd) (fun q=>hv d q hd) e1
 rw [qaQ] at h
 obtain ⟨c2,L2,e2,hc2,h⟩:=h
 obtain ⟨cs2,bt2,vals2,g1,rfl,_,g4⟩:=st_t (hI1 e he) (fun q=>hu e q he) e2
 have hle:Zas L (.l e)=Zas (Zat L (.l d) (.box (Zac cs 0 vals) bt)) (.l e):=by rw [qag,if_neg (Ne.symm hk)]
 have hle2:Zas L (.l e)=some (.box cs2 bt2):=by rw [hle];exact g1
 rw [qaQ]
 refine ⟨c2,_,g4 L hle (qm4 (fun _ _ _=>by simp)),hc2,?_⟩
 rw [qaQ]
 refine ⟨c,_,h4 _ (by rw [qag,if_neg hk]) (qrv (fun kv x y q=>by rw [hle2] at q;cases q)),hc,?_⟩
 rw [qdF _ _ (Ne.symm hk) (by rw [hle2];rfl) (by rw [h1];rfl)]
 exact h
theorem qno {ts:List Nat} {sz d e:Nat} {v:Opd} {t:TypeId} {z:List PV} (hI:InvA ts fr L) (hd:d∈ts) (he:e∈ts) (hde:e≠d) (hv:∀ s∈qaT v,s∉ts) (h:qaa P E Y (⟨some e,.alcd t z,none⟩ :: ⟨none,.st sz (.t d) v,none⟩ :: is) fr L K) :
  qaa P E Y (⟨none,.st sz (.t d) v,none⟩ :: ⟨some e,.alcd t z,none⟩ :: is) fr L K:=by
 have hk:Key.l e≠Key.l d:=by simpa using hde
 have hn:isN ⟨some e,.alcd t z,none⟩=some (e,[]):=rfl
 rw [qaA hn] at h
 obtain ⟨⟨hF,hh⟩,c1,r,ao,e1,hc1,h⟩:=h
 have e1':=e1
 simp only [nx,zg,zj] at e1
 obtain ⟨rfl,rfl,rfl⟩:=e1
 rw [qaQ] at h
 obtain ⟨c,L',e2,hc,h⟩:=h
 have hs:stx (fr.set e (.adr (.l e) 0)) (Zat L (.l e) (.box (z.map .p) t)) sz (.t d) v=stx fr (Zat L (.l e) (.box (z.map .p) t)) sz (.t d) v:=qhH (d:=some e) fun q hq=>by
  cases hq
  simp only [qaT,zp,zu,not_or]
  exact ⟨hde,fun q=>hv e q he⟩
 rw [hs] at e2
 have hI1:InvT d fr (Zat L (.l e) (.box (z.map .p) t)):=(hI d hd).put qia
 obtain ⟨cs,bt,vals,h1,rfl,h3,h4⟩:=st_t hI1 (fun q=>hv d q hd) e2
 have hld:Zas L (.l d)=some (.box cs bt):=by rw [qag,if_neg (Ne.symm hk)] at h1;exact h1
 rw [qaQ]
 refine ⟨c,_,h4 L (by rw [hld,h1]) (qm4 (fun _ _ _=>by simp)),hc,?_⟩
 rw [qaA hn]
 refine ⟨⟨⟨hF.1,qdq hF.2 (box_fix.2 (qcw (box_fix.1 (qaV hF.2 hld)) (h3 e (qma hF.1 e) (fun q=>hv e q he))))⟩,by rw [qag,if_neg hk];exact hh⟩,_,_,_,e1',trivial,?_⟩
 rw [qdF _ _ (Ne.symm hk) (by rw [hld];rfl) (by rw [hh];rfl)]
 exact h
theorem qnn {ts:List Nat} {sz d e:Nat} {v:Opd} {t:TypeId} {z:List PV} (hI:InvA ts fr L) (hd:d∈ts) (he:e∈ts) (hde:e≠d) (hv:∀ s∈qaT v,s∉ts) (h:qaa P E Y (⟨none,.st sz (.t d) v,none⟩ :: ⟨some e,.alcd t z,none⟩ :: is) fr L K) :
  qaa P E Y (⟨some e,.alcd t z,none⟩ :: ⟨none,.st sz (.t d) v,none⟩ :: is) fr L K:=by
 have hk:Key.l e≠Key.l d:=by simpa using hde
 have hn:isN ⟨some e,.alcd t z,none⟩=some (e,[]):=rfl
 rw [qaQ] at h
 obtain ⟨c,L',e2,hc,h⟩:=h
 obtain ⟨cs,bt,vals,h1,rfl,h3,h4⟩:=st_t (hI d hd) (fun q=>hv d q hd) e2
 rw [qaA hn] at h
 obtain ⟨⟨hF,hh⟩,c1,r,ao,e1,hc1,h⟩:=h
 have e1':=e1
 simp only [nx,zg,zj] at e1
 obtain ⟨rfl,rfl,rfl⟩:=e1
 have hhL:Zas L (.l e)=some Zan:=by rw [qag,if_neg hk] at hh;exact hh
 rw [qaA hn]
 refine ⟨⟨⟨hF.1,(hI e he).2.1⟩,hhL⟩,_,_,_,e1',trivial,?_⟩
 rw [qaQ]
 have hs:stx (fr.set e (.adr (.l e) 0)) (Zat L (.l e) (.box (z.map .p) t)) sz (.t d) v=stx fr (Zat L (.l e) (.box (z.map .p) t)) sz (.t d) v:=qhH (d:=some e) fun q hq=>by
  cases hq
  simp only [qaT,zp,zu,not_or]
  exact ⟨hde,fun q=>hv e q he⟩
 refine ⟨c,_,by rw [hs];exact h4 _ (by rw [qag,if_neg (Ne.symm hk)]) (qrv (fun kv x y q=>by rw [hhL] at q;cases q)),hc,?_⟩
 rw [qdF _ _ hk (by rw [hhL];rfl) (by rw [h1];rfl)]
 exact h
theorem qx5 {ts:List Nat} {i:IOper} {js:List IOper} {K':List AV→Objs→Prop} (hi:okT ts i=true) (hI:InvA ts fr L) (h:qaa P E Y (i :: is) fr L K) (hk:∀ fr L,InvA ts fr L→qaa P E Y is fr L K→qaa P E Y js fr L K'):qaa P E Y (i :: js) fr L K':=by
 rcases qdH hi with ⟨d,t,z,rfl,hm⟩|⟨sz,d,x,rfl,hd,hv⟩|⟨l,hl,hf,hr,hy⟩
 ·have hn:isN ⟨some d,.alcd t z,none⟩=some (d,[]):=rfl
  rw [qaA hn] at h ⊢
  obtain ⟨h1,c1,r,ao,e1,hc1,h⟩:=h
  have e1':=e1
  simp only [nx,zg,zj] at e1
  obtain ⟨rfl,rfl,rfl⟩:=e1
  exact ⟨h1,_,_,_,e1',trivial,hk _ _ (qtI hI) h⟩
 ·rw [qaQ] at h ⊢
  obtain ⟨c,L',e2,hc,h⟩:=h
  exact ⟨c,L',e2,hc,hk _ _ (quP hI hd hv e2) h⟩
 ·have hsx:(qaP i).isSome=true:=by rw [hl];rfl
  rw [qas hsx] at h ⊢
  obtain ⟨c,r,e1,hc,h⟩:=h
  exact ⟨c,r,e1,hc,hk _ _ (qxV hl hr hy hI e1) h⟩
theorem qkO {s y:IOper} (h:qtT s y=true):∃ sz d v,s=⟨none,.st sz (.t d) v,none⟩∧((∃ sz2 e u,y=⟨none,.st sz2 (.t e) u,none⟩∧d≠e)∨((∀ sz2 e u,y≠⟨none,.st sz2 (.t e) u,none⟩)∧∀ q,y.dst=some q→q≠d∧q∉qaT v)):=by
 unfold qtT at h
 split at h
 ·refine ⟨_,_,_,rfl,?_⟩
  split at h
  ·exact .inl ⟨_,_,_,rfl,by simpa using h⟩
  ·rename_i hne
   refine .inr ⟨fun sz2 e u q=>hne sz2 e u q,fun q hq=>?_⟩
   rw [hq] at h
   simpa using h
 ·cases h
set_option maxHeartbeats 2000000 in
theorem qt1 {ts:List Nat} {x i:IOper} (hx:okT ts x=true) (hi:okT ts i=true) (ha:qjY x i=true) (hI:InvA ts fr L) (h:qaa P E Y (x :: i :: is) fr L K):qaa P E Y (i :: x :: is) fr L K:=by
 unfold qjY at ha
 rw [yh,yh] at ha
 rcases ha with (ha|ha)|ha
 ·refine qlS ha (fun d l hn=>?_) h
  obtain ⟨hm,rfl,t,z,rfl⟩:=qtq hi hn
  have hsep:=(qpM ha).2
  rcases qdH hx with ⟨d',t',z',rfl,hm'⟩|⟨sz,d',v,rfl,_,_⟩|⟨l',hl,hf,hr,hy⟩
  ·have hne:=hsep d' [] rfl d [] hn
   rw [qaA (d:=d') (l:=[]) rfl] at h
   obtain ⟨_,c1,r,ao,_,_,h⟩:=h
   rw [qaA hn] at h
   exact qoz (hI d hm) (qjO (e:=some d') (fun q hq=>by cases hq;exact hne)) h.1.1
  ·rw [qaQ] at h
   obtain ⟨c,L',_,_,h⟩:=h
   rw [qaA hn] at h
   exact qoz (hI d hm) rfl h.1.1
  ·rw [qas (by rw [hl];rfl)] at h
   obtain ⟨c,r,_,_,h⟩:=h
   rw [qaA hn] at h
   exact qoz (hI d hm) (qjO (fun q hq e=>hy q hq (e ▸ hm))) h.1.1
 ·obtain ⟨sz,d,v,rfl,h2⟩:=qkO ha
  rcases qdH hx with ⟨_,_,_,e,_⟩|⟨_,_,_,e,hd,hv⟩|⟨l',hl,_⟩
  ·cases e
  ·cases e
   rcases qdH hi with ⟨e',t',z',rfl,hm'⟩|⟨sz2,e',u,rfl,he,hu⟩|⟨l,hl,hf,hr,hy⟩
   ·rcases h2 with ⟨_,_,_,q,_⟩|⟨_,h2⟩
    ·cases q
    ·exact qnn hI hd hm' (h2 e' rfl).1 hv h
   ·rcases h2 with ⟨_,_,_,q,hne⟩|⟨hn,_⟩
    ·cases q
     exact qiM hI hd he hne hv hu h
    ·exact absurd rfl (hn _ _ _)
   ·rcases h2 with ⟨_,_,_,rfl,_⟩|⟨_,h2⟩
    ·simp [qaP,qbY] at hl
    ·exact (qiL hI hd hv hl hf hr h2).1 h
  ·simp [qaP,qbY] at hl
 ·obtain ⟨sz,d,v,rfl,h2⟩:=qkO ha
  rcases qdH hi with ⟨_,_,_,e,_⟩|⟨_,_,_,e,hd,hv⟩|⟨l',hl,_⟩
  ·cases e
  ·cases e
   rcases qdH hx with ⟨e',t',z',rfl,hm'⟩|⟨sz2,e',u,rfl,he,hu⟩|⟨l,hl,hf,hr,hy⟩
   ·rcases h2 with ⟨_,_,_,q,_⟩|⟨_,h2⟩
    ·cases q
    ·exact qno hI hd hm' (h2 e' rfl).1 hv h
   ·rcases h2 with ⟨_,_,_,q,hne⟩|⟨hn,_⟩
    ·cases q
     exact qiM hI he hd (Ne.symm hne) hu hv h
    ·exact absurd rfl (hn _ _ _)
   ·rcases h2 with ⟨_,_,_,rfl,_⟩|⟨_,h2⟩
    ·simp [qaP,qbY] at hl
    ·exact (qiL hI hd hv hl hf hr h2).2 h
  ·simp [qaP,qbY] at hl
theorem qp7 {ts:List Nat} {i:IOper} {post:List IOper} (hi:okT ts i=true):∀ (pre:List IOper) (fr:List AV) (L:Objs),(∀ x∈pre,okT ts x=true∧qjY x i=true)→InvA ts fr L→qaa P E Y (pre++i :: post) fr L K→qaa P E Y (i :: (pre++post)) fr L K:=by
 intro pre
 induction pre with
 |nil=>intro fr L _ _ h;exact h
 |cons x pre ih=>
  intro fr L ha hI h
  obtain ⟨h1,h2⟩:=ha x (by simp)
  exact qt1 h1 hi h2 hI (qx5 h1 hI h fun fr L hI h=>ih fr L (fun y hy=>ha y (by simp [hy])) hI h)
end
section
variable {P:Program} {E:Envt} {Y:List PV} {B:Base}
theorem qkT {ops:Array Oper}:∀ {js:List IOper} {os:List Oper},qdP P ops os js=true→(∀ i∈js,isFz i=false)→js.length=os.length∧∀ (k:Nat) (i:IOper),js[k]?=some i→∃ o,os[k]?=some o∧qe2 P ops o i=true:=by
 intro js
 induction js with
 |nil=>intro os h _;simp only [qdP,List.isEmpty_iff] at h;subst h;simp
 |cons i js ih=>
  intro os h hf
  simp only [qdP] at h
  rw [if_neg (by simp [hf i (by simp)])] at h
  split at h
  ·rename_i o os'
   simp only [zi] at h
   obtain ⟨h1,h2⟩:=ih h.2 (fun j hj=>hf j (by simp [hj]))
   refine ⟨by simp [h1],fun k x hx=>?_⟩
   cases k with
   |zero=>simp at hx;subst hx;exact ⟨o,rfl,h.1⟩
   |succ k=>simp at hx;simpa using h2 k x hx
  ·cases h
theorem qof {ops:Array Oper} {n i:Nat} {ii:IOper}:∀ {l:List (Nat×IOper)},qls ops n i ii l=true→∀ y∈l,qgh y.2 ii=true∨ancB ops n i y.1=true:=by
 intro l
 induction l with
 |nil=>intro _ y hy;cases hy
 |cons q l ih=>
  intro h y hy
  obtain ⟨j,jj⟩:=q
  simp only [qls,zi,yh] at h
  simp only [zG] at hy
  rcases hy with rfl|hy
  ·exact h.1
  ·exact ih h.2 y hy
theorem qnI {ops:Array Oper} {n:Nat}:∀ {l seen:List (Nat×IOper)},qoM ops n seen l=true→∀ (pre:List (Nat×IOper)) (x:Nat×IOper) (post:List (Nat×IOper)),l=pre++x :: post→∀ y∈seen++pre,qgh y.2 x.2=true∨ancB ops n x.1 y.1=true:=by
 intro l
 induction l with
 |nil=>intro seen _ pre x post h;cases pre<;>cases h
 |cons q l ih=>
  intro seen h pre x post e y hy
  obtain ⟨i,ii⟩:=q
  simp only [qoM,zi] at h
  cases pre with
  |nil=>
   simp only [zU,List.cons.injEq] at e
   obtain ⟨rfl,rfl⟩:=e
   exact qof h.1 y (by simpa using hy)
  |cons p pre=>
   simp only [zT,List.cons.injEq] at e
   obtain ⟨rfl,rfl⟩:=e
   exact ih h.2 pre x post rfl y (by simpa using hy)
def qms (ops:Array Oper) (listed:Array Bool):Prop:=∀ (i:Nat) (o:Oper),ops[i]?=some o→listed.getD i false=true→∀ e∈qfg o,listed.getD e false=true
theorem qgB {ops:Array Oper} {listed:Array Bool} (hc:qms ops listed):∀ (n i j:Nat) (o:Oper),ops[i]?=some o→(∀ e∈qfg o,listed.getD e false=true)→ancB ops n i j=true→listed.getD j false=true:=by
 intro n
 induction n with
 |zero=>intro i j o _ _ h;simp [ancB] at h
 |succ n ih=>
  intro i j o ho he h
  simp only [ancB,ho,List.any_eq_true,yh,beq_iff_eq] at h
  obtain ⟨e,h1,h2⟩:=h
  rcases h2 with rfl|h2
  ·exact he e h1
  ·cases hoe:ops[e]? with
   |none=>cases n<;>simp [ancB,hoe] at h2
   |some oe=>exact ih e j oe hoe (hc e oe hoe (he e h1)) h2
theorem mem_ready {ops:Array Oper} {listed:Array Bool} {i:Nat}:i∈Region.ready .any ops listed↔∃ o,ops[i]?=some o∧listed.getD i true=false∧∀ e∈qfg o,listed.getD e false=true:=by
 simp only [Region.ready,List.mem_filter,List.mem_range,zi,zQ]
 constructor
 ·rintro ⟨h1,h2,h3⟩
  obtain ⟨o,ho⟩:∃ o,ops[i]?=some o:=⟨_,Array.getElem?_eq_getElem h1⟩
  refine ⟨o,ho,h2,fun e he=>?_⟩
  rw [ho] at h3
  simp only [zA,Option.getD_some,Array.all_eq_true'] at h3
  simp only [qfg,zE,List.mem_filter] at he
  obtain ⟨ed,⟨h4,h5⟩,rfl⟩:=he
  have:=h3 ed (by simpa using h4)
  simpa [h5] using this
 ·rintro ⟨o,ho,h2,h3⟩
  refine ⟨(zw.1 ho).1,h2,?_⟩
  rw [ho]
  simp only [zA,Option.getD_some,Array.all_eq_true']
  intro ed hed
  cases hb:Region.binds .any ed with
  |false=>simp
  |true=>simp only [Bool.not_true,Bool.false_or];exact h3 _ (by simp only [qfg,zE,List.mem_filter];exact ⟨ed,⟨by simpa using hed,hb⟩,rfl⟩)
def unl (listed:Array Bool) (p:Nat×IOper):Bool:=!listed.getD p.1 true
theorem newsOf_mem {l:List IOper} {d:Nat}:d∈qaq l↔∃ i∈l,∃ r,isN i=some (d,r):=by
 simp only [qaq,List.mem_filterMap,zh]
 constructor
 ·rintro ⟨i,hi,⟨e,r⟩,h1,rfl⟩;exact ⟨i,hi,r,h1⟩
 ·rintro ⟨i,hi,r,h1⟩;exact ⟨i,hi,(d,r),h1,rfl⟩
set_option maxHeartbeats 2000000 in
theorem qyl {ops:Array Oper} {js:List IOper} {K:List AV→Objs→Prop} {Q:Exit→Act→World→Prop} (hK:∀ fr L ι a w,K fr L→StF E B w L ι fr a→Q .normal a w) (hjs:js.length=ops.size)
  (hget:∀ (k:Nat) (i:IOper),js[k]?=some i→∃ o,ops[k]?=some o∧qe2 P ops o i=true) (hfz:∀ i∈js,isFz i=false) (hall:qoM ops ops.size [] ((zB js.length).zip js)=true)
  (hedge:∀ (i:Nat) (o:Oper),ops[i]?=some o→∀ e∈qfg o,e < i) (hnews:qaq js=[]∨(∀ p∈(zB js.length).zip js,okBy (qaq js) p.2=true∨qrq ops js p.1=true)∧(qaq js).Nodup) :
  ∀ (fuel:Nat) (listed:Array Bool) (fr:List AV) (L:Objs) (ι:Key→Value) (a:Act) (w:World),listed.size=ops.size→qms ops listed→fuel=(((zB js.length).zip js).filter (unl listed)).length→
   qbI (qaq ((((zB js.length).zip js).filter (unl listed)).map (·.2))) fr L→
   qaa P E Y ((((zB js.length).zip js).filter (unl listed)).map (·.2)) fr L K→StF E B w L ι fr a→wpAny P .any ops Q fuel listed a w:=by
 intro fuel
 have zget:∀ (k:Nat) (x:IOper),js[k]?=some x→((zB js.length).zip js)[k]?=some (k,x):=by
  intro k x hk
  rw [List.getElem?_zip_eq_some]
  exact ⟨by rw [yc (zo.1 hk).1],hk⟩
 have zmem:∀ (p:Nat×IOper),p∈(zB js.length).zip js→p.1 < js.length∧js[p.1]?=some p.2:=by
  intro p hp
  obtain ⟨k,hk⟩:=yg hp
  rw [List.getElem?_zip_eq_some] at hk
  obtain ⟨h1,h2⟩:=hk
  rw [yc (by have:=(zo.1 h2).1;exact this)] at h1
  cases h1
  exact ⟨(zo.1 h2).1,h2⟩
 induction fuel with
 |zero=>
  intro listed fr L ι a w hsz hcl hf hFr h hs
  have hnil:((zB js.length).zip js).filter (unl listed)=[]:=zq hf.symm
  rw [hnil] at h
  refine ⟨?_,hK fr L ι a w h hs⟩
  refine List.eq_nil_iff_forall_not_mem.2 fun i hi=>?_
  obtain ⟨o,ho,h2,_⟩:=mem_ready.1 hi
  have hlt:i < js.length:=by rw [hjs];exact (zw.1 ho).1
  have:(i,js[i])∈((zB js.length).zip js).filter (unl listed):=by
   simp only [List.mem_filter]
   exact ⟨zn (zget i _ (zk hlt)),by simp [unl,h2]⟩
  rw [hnil] at this
  cases this
 |succ fuel ih=>
  intro listed fr L ι a w hsz hcl hf hFr h hs
  have hready:Region.ready .any ops listed≠[]:=by
   intro hnil
   cases hrem:((zB js.length).zip js).filter (unl listed) with
   |nil=>rw [hrem] at hf;simp at hf
   |cons p rest=>
    have hp:p∈((zB js.length).zip js).filter (unl listed):=by rw [hrem];simp
    have hex:∃ i,i < js.length∧listed.getD i true=false∧∀ j,j < i→listed.getD j true=true:=by
     obtain ⟨h1,h2⟩:=List.mem_filter.1 hp
     have hp1:=(zmem p h1).1
     have hpu:listed.getD p.1 true=false:=by simpa [unl] using h2
     have:∀ m i,i≤m→i < js.length→listed.getD i true=false→∃ i,i < js.length∧listed.getD i true=false∧∀ j,j < i→listed.getD j true=true:=by
      intro m
      induction m with
      |zero=>intro i hi h1 h2;exact ⟨i,h1,h2,fun j hj=>by omega⟩
      |succ m ihm=>
       intro i hi h1 h2
       by_cases hex:∃ j,j < i∧listed.getD j true=false
       ·obtain ⟨j,hj1,hj2⟩:=hex
        exact ihm j (by omega) (by omega) hj2
       ·refine ⟨i,h1,h2,fun j hj=>?_⟩
        cases hq:listed.getD j true with
        |true=>rfl
        |false=>exact absurd ⟨j,hj,hq⟩ hex
     exact this p.1 p.1 (zL _) hp1 hpu
    obtain ⟨i,hi1,hi2,hi3⟩:=hex
    obtain ⟨o,ho,_⟩:=hget i _ (zk hi1)
    have:i∈Region.ready .any ops listed:=mem_ready.2 ⟨o,ho,hi2,fun e he=>by
     have hlt:=hedge i o ho e he
     have:=hi3 e hlt
     have hes:e < listed.size:=by rw [hsz,← hjs];omega
     simp only [Array.getD,hes,dite_true] at this ⊢
     exact this⟩
    rw [hnil] at this
    cases this
  refine ⟨fun hn=>absurd hn hready,fun i hi=>?_⟩
  obtain ⟨o,ho,hun,hed⟩:=mem_ready.1 hi
  have hlt:i < js.length:=by rw [hjs];exact (zw.1 ho).1
  have hil:i < listed.size:=by rw [hsz,← hjs];exact hlt
  obtain ⟨ii,hii⟩:∃ ii,js[i]?=some ii:=⟨_,zk hlt⟩
  have hsplit:(zB js.length).zip js=((zB js.length).zip js).take i++(i,ii) :: ((zB js.length).zip js).drop (i+1):=by
   have hzl:((zB js.length).zip js).length=js.length:=by simp
   have e:((zB js.length).zip js)[i]?=some (i,ii):=by
    rw [List.getElem?_zip_eq_some]
    exact ⟨by rw [yc hlt],hii⟩
   rw [zo] at e
   obtain ⟨h1,h2⟩:=e
   rw [← h2,← List.drop_eq_getElem_cons h1,List.take_append_drop]
  have hpre:∀ p∈((zB js.length).zip js).take i,p.1 < i:=by
   intro p hp
   obtain ⟨k,hk⟩:=yg hp
   rw [List.getElem?_take] at hk
   split at hk
   ·rename_i hki
    rw [List.getElem?_zip_eq_some] at hk
    rw [yc (by omega)] at hk
    cases hk.1
    exact hki
   ·cases hk
  have hpost:∀ p∈((zB js.length).zip js).drop (i+1),i < p.1:=by
   intro p hp
   obtain ⟨k,hk⟩:=yg hp
   rw [List.getElem?_drop,List.getElem?_zip_eq_some] at hk
   have hkl:=(zo.1 hk.2).1
   rw [yc hkl] at hk
   have:=Option.some.inj hk.1
   omega
  have hunl:unl listed (i,ii)=true:=by simp [unl,hun]
  have hfil:((zB js.length).zip js).filter (unl listed)=(((zB js.length).zip js).take i).filter (unl listed)++(i,ii) :: (((zB js.length).zip js).drop (i+1)).filter (unl listed):=by
   conv=>lhs;rw [hsplit]
   rw [List.filter_append,List.filter_cons_of_pos hunl]
  have hgd:∀ j,j≠i→(listed.setIfInBounds i true).getD j true=listed.getD j true:=by
   intro j hj
   rw [zz,zz,zO (Ne.symm hj)]
  have hself:∀ b,(listed.setIfInBounds i true).getD i b=true:=by
   intro b
   rw [zz,Array.getElem?_setIfInBounds_self_of_lt hil]
   rfl
  have hfil':((zB js.length).zip js).filter (unl (listed.setIfInBounds i true))=(((zB js.length).zip js).take i).filter (unl listed)++(((zB js.length).zip js).drop (i+1)).filter (unl listed):=by
   conv=>lhs;rw [hsplit]
   rw [List.filter_append,List.filter_cons_of_neg (by simp [unl,hself])]
   congr 1
   ·refine List.filter_congr fun p hp=>?_
    have:=hpre p hp
    simp only [unl,hgd p.1 (by omega)]
   ·refine List.filter_congr fun p hp=>?_
    have:=hpost p hp
    simp only [unl,hgd p.1 (by omega)]
  have hap:∀ x∈((((zB js.length).zip js).take i).filter (unl listed)).map (·.2),qgh x ii=true:=by
   intro x hx
   obtain ⟨p,hp,rfl⟩:=zE.1 hx
   obtain ⟨hp1,hp2⟩:=List.mem_filter.1 hp
   rcases qnI hall _ _ _ hsplit p (by simpa using hp1) with h'|h'
   ·exact h'
   ·have:=qgB hcl _ i p.1 o ho hed h'
    have hpl:p.1 < listed.size:=by have:=hpre p hp1;omega
    simp only [unl,Array.getD,hpl,dite_true] at hp2 this
    rw [this] at hp2
    cases hp2
  have hsub:((((zB js.length).zip js).filter (unl listed)).map (·.2)).Sublist js:=by
   have e:((zB js.length).zip js).map (·.2)=js:=by rw [← List.unzip_snd,List.unzip_zip (by simp)]
   have:=(List.filter_sublist (p:=unl listed) (l:=(zB js.length).zip js)).map (·.2)
   rwa [e] at this
  rw [hfil] at h hf hFr hsub
  simp only [zF,zx] at h hFr hsub
  generalize hA:((((zB js.length).zip js).take i).filter (unl listed)).map (·.2)=A at *
  generalize hC:((((zB js.length).zip js).drop (i+1)).filter (unl listed)).map (·.2)=C at *
  have hfront:=qm1 _ fr L hap (fun d hd=>hFr d (by
   obtain ⟨q,hq,r,hr⟩:=newsOf_mem.1 hd
   simp only [zu] at hq
   exact newsOf_mem.2 ⟨q,by simp [hq],r,hr⟩)) h
  have hrest:qbI (qaq (A++C)) fr L:=fun d hd=>hFr d (by
   obtain ⟨q,hq,r,hr⟩:=newsOf_mem.1 hd
   refine newsOf_mem.2 ⟨q,?_,r,hr⟩
   simp only [zp,zG] at hq ⊢
   rcases hq with hq|hq
   ·exact .inl hq
   ·exact .inr (.inr hq))
  have hemp:qaq js=[]→qaq (A++C)=[]:=by
   intro hn
   refine List.eq_nil_iff_forall_not_mem.2 fun d hd=>?_
   obtain ⟨q,hq,r,hr⟩:=newsOf_mem.1 hd
   have:d∈qaq js:=newsOf_mem.2 ⟨q,hsub.subset (by
    simp only [zp,zG] at hq ⊢
    rcases hq with hq|hq
    ·exact .inl hq
    ·exact .inr (.inr hq)),r,hr⟩
   rw [hn] at this
   cases this
  have hlate:qrq ops js i=true→qaq (A++C)=[]:=by
   intro hl
   refine List.eq_nil_iff_forall_not_mem.2 fun d hd=>?_
   obtain ⟨q,hq,r,hr⟩:=newsOf_mem.1 hd
   obtain ⟨p,hp1,hp2,rfl⟩:∃ p,p∈(zB js.length).zip js∧unl listed p=true∧p.2=q:=by
    rcases zp.1 hq with hq|hq
    ·rw [← hA] at hq
     obtain ⟨p,hp,rfl⟩:=zE.1 hq
     obtain ⟨hp1,hp2⟩:=List.mem_filter.1 hp
     exact ⟨p,List.mem_of_mem_take hp1,hp2,rfl⟩
    ·rw [← hC] at hq
     obtain ⟨p,hp,rfl⟩:=zE.1 hq
     obtain ⟨hp1,hp2⟩:=List.mem_filter.1 hp
     exact ⟨p,List.mem_of_mem_drop hp1,hp2,rfl⟩
   have h':=yf.1 hl p hp1
   simp only [hr,Option.isNone_some,Bool.false_or] at h'
   have:=qgB hcl _ i p.1 o ho hed h'
   have hpl:p.1 < listed.size:=by have:=(zmem p hp1).1;omega
   simp only [unl,Array.getD,hpl,dite_true] at hp2 this
   rw [this] at hp2
   cases hp2
  have hfront:qaa P E Y (ii :: []) fr L (fun fr L=>qbI (qaq (A++C)) fr L∧qaa P E Y (A++C) fr L K)∨(qaa P E Y (ii :: (A++C)) fr L K∧qaq (A++C)=[]):=by
   rcases hnews with hn|⟨h1,h2⟩
   ·exact .inr ⟨hfront,hemp hn⟩
   ·rcases h1 (i,ii) (zn (zget i ii hii)) with h1|h1
    rotate_left
    ·exact .inr ⟨hfront,hlate h1⟩
    rcases qm0 h1 with hok|⟨d0,hd0,hn0⟩
    rotate_left
    ·refine .inl (qiP hd0 (fun hm=>hn0 ?_) hrest hfront (fun fr L hF h=>⟨hF,h⟩))
     obtain ⟨q,hq,r,hr⟩:=newsOf_mem.1 hm
     refine newsOf_mem.2 ⟨q,hsub.subset ?_,r,hr⟩
     simp only [zp,zG] at hq ⊢
     rcases hq with hq|hq
     ·exact .inl hq
     ·exact .inr (.inr hq)
    refine .inl (qge hok ?_ hrest hfront (fun fr L hF h=>⟨hF,h⟩))
    intro d l hd hm
    have hnd:(qaq (A++ii :: C)).Nodup:=(hsub.filterMap _).nodup h2
    have hp:(qaq (A++ii :: C)).Perm (qaq (ii :: (A++C))):=List.Perm.filterMap _ List.perm_middle
    have hnd2:=hp.nodup_iff.1 hnd
    have e:qaq (ii :: (A++C))=d :: qaq (A++C):=by simp [qaq,hd]
    rw [e] at hnd2
    exact (List.nodup_cons.1 hnd2).1 hm
  have hfi:isFz ii=false:=hfz ii (zn hii)
  obtain ⟨o',ho',hchk⟩:=hget i ii hii
  rw [ho] at ho'
  cases ho'
  have cont:∀ fr' L' ι' a' w',qbI (qaq (A++C)) fr' L'→qaa P E Y (A++C) fr' L' K→StF E B w' L' ι' fr' a'→wpAny P .any ops Q fuel (listed.setIfInBounds i true) a' w':=by
   intro fr' L' ι' a' w' hF' h' hs'
   refine ih (listed.setIfInBounds i true) fr' L' ι' a' w' (by simpa using hsz) ?_ ?_ ?_ ?_ hs'
   ·intro k q hq hk e he
    by_cases hki:k=i
    ·subst hki
     rw [ho] at hq
     cases hq
     by_cases hei:e=k
     ·subst hei;exact hself _
     ·have:=hed e he
      rw [zz,zO (Ne.symm hei),← zz]
      exact this
    ·rw [zz,zO (Ne.symm hki),← zz] at hk
     have:=hcl k q hq hk e he
     by_cases hei:e=i
     ·subst hei;exact hself _
     ·rw [zz,zO (Ne.symm hei),← zz]
      exact this
   ·rw [hfil']
    simp only [zm,zl] at hf ⊢
    omega
   ·rw [hfil',zF,hA,hC]
    exact hF'
   ·rw [hfil',zF,hA,hC]
    exact h'
  have hstep:if Region.wanted o (yielded ops a.tmps) then o.wp P a w (wpAny P .any ops Q fuel (listed.setIfInBounds i true)) Q else wpAny P .any ops Q fuel (listed.setIfInBounds i true) (a.put o.dst undef) w:=by
   rcases hfront with hfront|⟨hfront,hn⟩
   ·exact qdC hchk hfi hfront hs (fun fr' L' ι' a' w' h' hs'=>by
     simp only [qaa] at h'
     exact cont fr' L' ι' a' w' h'.1 h'.2 hs')
   ·exact qdC hchk hfi hfront hs (fun fr' L' ι' a' w' h' hs'=>cont fr' L' ι' a' w' (by rw [hn];intro d hd;cases hd) h' hs')
  unfold wpOp
  rw [ho]
  simp only
  by_cases hw:Region.wanted o (yielded ops a.tmps)=true
  ·rw [if_pos hw] at hstep ⊢
   exact .inl hstep
  ·rw [if_neg hw] at hstep ⊢
   exact hstep
set_option maxHeartbeats 2000000 in
theorem qjW {ops:Array Oper} {K:List AV→Objs→Prop}:∀ (is:List IOper) (ds:List Nat) (fr:List AV) (L:Objs) (ι:Key→Value) (a:Act) (w:World) (os:List Oper),(∀ i∈is,isRe i=false)→qdP P ops os is=true→qbI ds fr L→(∀ d∈ds,fr.getD d .any=.any)→qaa P E Y is fr L K→StF E B w L ι fr a→qdP P ops os (qev is)=true∧∃ fr' L' ι',qbI (ds++qbs is) fr' L'∧(∀ d∈ds++qbs is,fr'.getD d .any=.any)∧qaa P E Y (qev is) fr' L' K∧StF E B w L' ι' fr' a:=by
 intro is
 induction is with
 |nil=>intro ds fr L ι a w os _ hc hF hA h hs;exact ⟨hc,fr,L,ι,by simpa [qbs] using hF,by simpa [qbs] using hA,h,hs⟩
 |cons i is ih=>
  intro ds fr L ι a w os hre hc hF hA h hs
  have hre':∀ i∈is,isRe i=false:=fun j hj=>hre j (by simp [hj])
  simp only [qev,qbs]
  by_cases hf:isFz i=true
  ·rw [if_pos hf,if_pos hf]
   simp only [qdP] at hc
   rw [if_pos hf] at hc
   rcases qou hf with ⟨x,rfl⟩|⟨x,rfl⟩|rfl
   ·simp only [qaa] at h
    split at h
    ·rename_i k y hk
     exact ih ds _ _ ι a w os hre' hc (fun d hd=>(hF d hd).thaw) (fun d hd=>by have:=hA d hd;rw [zC,zy];rw [zC] at this;cases hq:fr[d]? with|none=>rfl|some q=>rw [hq] at this;simp only [Option.getD_some] at this;subst this;rfl) h (qwh hs hk)
    ·exact ih ds _ _ ι a w os hre' hc hF hA h hs
   ·simp only [qaa] at h
    obtain ⟨h1,fr',L',ι',h2,h2a,h3⟩:=ih (ds++[x]) _ _ _ a w os hre' hc (fun d hd=>by
     rcases zp.1 hd with hd|hd
     ·exact (hF d hd).hole x
     ·simp only [zu] at hd
      subst hd
      exact Zam.hole_self d fr L) (fun d hd=>by
     by_cases hx:x=d
     ·subst hx
      by_cases hl:x < fr.length
      ·simp [zC,hl]
      ·simp [zC,zR,hl]
     ·have hd':d∈ds:=(zp.1 hd).resolve_right (fun q=>hx (zu.1 q).symm)
      have:=hA d hd'
      rw [zC,List.getElem?_set_ne hx,zy]
      rw [zC] at this
      cases hq:fr[d]? with
      |none=>rfl
      |some q=>rw [hq] at this;simp only [Option.getD_some] at this;subst this;rfl) h (qov hs x)
    exact ⟨h1,fr',L',ι',by simpa using h2,by simpa using h2a,h3⟩
   ·have:=hre _ (List.mem_cons_self ..)
    cases this
  ·rw [if_neg hf,if_neg hf]
   exact ⟨hc,fr,L,ι,by simpa using hF,by simpa using hA,h,hs⟩
set_option maxHeartbeats 2000000 in
theorem qnF {K:List AV→Objs→Prop}:∀ (is:List IOper) (ds:List Nat) (fr:List AV) (L:Objs) (ι:Key→Value) (a:Act) (w:World),(∀ i∈is,isRe i=false)→qbI ds fr L→(∀ d∈ds,fr.getD d .any=.any)→qaa P E Y is fr L K→StF E B w L ι fr a→∃ fr' L' ι',qbI (ds++qbs is) fr' L'∧(∀ d∈ds++qbs is,fr'.getD d .any=.any)∧qaa P E Y (qev is) fr' L' K∧StF E B w L' ι' fr' a:=by
 intro is
 induction is with
 |nil=>intro ds fr L ι a w _ hF hA h hs;exact ⟨fr,L,ι,by simpa [qbs] using hF,by simpa [qbs] using hA,h,hs⟩
 |cons i is ih=>
  intro ds fr L ι a w hre hF hA h hs
  have hre':∀ i∈is,isRe i=false:=fun j hj=>hre j (by simp [hj])
  simp only [qev,qbs]
  by_cases hf:isFz i=true
  ·rw [if_pos hf,if_pos hf]
   rcases qou hf with ⟨x,rfl⟩|⟨x,rfl⟩|rfl
   ·simp only [qaa] at h
    split at h
    ·rename_i k y hk
     exact ih ds _ _ ι a w hre' (fun d hd=>(hF d hd).thaw) (fun d hd=>by have:=hA d hd;rw [zC,zy];rw [zC] at this;cases hq:fr[d]? with|none=>rfl|some q=>rw [hq] at this;simp only [Option.getD_some] at this;subst this;rfl) h (qwh hs hk)
    ·exact ih ds _ _ ι a w hre' hF hA h hs
   ·simp only [qaa] at h
    obtain ⟨fr',L',ι',h2,h2a,h3⟩:=ih (ds++[x]) _ _ _ a w hre' (fun d hd=>by
     rcases zp.1 hd with hd|hd
     ·exact (hF d hd).hole x
     ·simp only [zu] at hd
      subst hd
      exact Zam.hole_self d fr L) (fun d hd=>by
     by_cases hx:x=d
     ·subst hx
      by_cases hl:x < fr.length
      ·simp [zC,hl]
      ·simp [zC,zR,hl]
     ·have hd':d∈ds:=(zp.1 hd).resolve_right (fun q=>hx (zu.1 q).symm)
      have:=hA d hd'
      rw [zC,List.getElem?_set_ne hx,zy]
      rw [zC] at this
      cases hq:fr[d]? with
      |none=>rfl
      |some q=>rw [hq] at this;simp only [Option.getD_some] at this;subst this;rfl) h (qov hs x)
    exact ⟨fr',L',ι',by simpa using h2,by simpa using h2a,h3⟩
   ·have:=hre _ (List.mem_cons_self ..)
    cases this
  ·rw [if_neg hf,if_neg hf]
   exact ⟨fr,L,ι,by simpa using hF,by simpa using hA,h,hs⟩
set_option maxHeartbeats 2000000 in
theorem qw1 {ops:Array Oper} {ps:List (Nat×IOper)} {K:List AV→Objs→Prop} {Q:Exit→Act→World→Prop} (hK:∀ fr L ι a w,K fr L→StF E B w L ι fr a→Q .normal a w) (hnd:(ps.map (·.1)).Nodup) (hcov:∀ i,i < ops.size→i∈ps.map (·.1))
  (hget:∀ p∈ps,∃ o,ops[p.1]?=some o∧qe2 P ops o p.2=true) (hfz:∀ p∈ps,isFz p.2=false) (hall:qoM ops ops.size [] ps=true)
  (hedge:∀ A p C,ps=A++p :: C→∀ o,ops[p.1]?=some o→∀ e∈qfg o,e∈A.map (·.1)) (hnews:qaq (ps.map (·.2))=[]∨(∀ i∈ps.map (·.2),okBy (qaq (ps.map (·.2))) i=true)∧(qaq (ps.map (·.2))).Nodup) :
  ∀ (fuel:Nat) (listed:Array Bool) (fr:List AV) (L:Objs) (ι:Key→Value) (a:Act) (w:World),listed.size=ops.size→qms ops listed→fuel=(ps.filter (unl listed)).length→qbI (qaq ((ps.filter (unl listed)).map (·.2))) fr L→
   qaa P E Y ((ps.filter (unl listed)).map (·.2)) fr L K→StF E B w L ι fr a→wpAny P .any ops Q fuel listed a w:=by
 intro fuel
 induction fuel with
 |zero=>
  intro listed fr L ι a w hsz hcl hf hFr h hs
  have hnil:ps.filter (unl listed)=[]:=zq hf.symm
  rw [hnil] at h
  refine ⟨?_,hK fr L ι a w h hs⟩
  refine List.eq_nil_iff_forall_not_mem.2 fun i hi=>?_
  obtain ⟨o,ho,h2,_⟩:=mem_ready.1 hi
  obtain ⟨p,hp,rfl⟩:=zE.1 (hcov i (zw.1 ho).1)
  have:p∈ps.filter (unl listed):=List.mem_filter.2 ⟨hp,by simp [unl,h2]⟩
  rw [hnil] at this
  cases this
 |succ fuel ih=>
  intro listed fr L ι a w hsz hcl hf hFr h hs
  have hready:Region.ready .any ops listed≠[]:=by
   intro hnil
   have hex:∃ A p C,ps=A++p :: C∧unl listed p=true∧∀ x∈A,unl listed x=false:=by
    cases hrem:ps.filter (unl listed) with
    |nil=>rw [hrem] at hf;simp at hf
    |cons p rest=>
     obtain ⟨A,C,e,h1,h2,_⟩:=List.filter_eq_cons_iff.1 hrem
     exact ⟨A,p,C,e,h2,fun x hx=>by simpa using h1 x hx⟩
   obtain ⟨A,p,C,e,hp,hA⟩:=hex
   obtain ⟨o,ho,_⟩:=hget p (by rw [e];simp)
   have hpu:listed.getD p.1 true=false:=by simpa [unl] using hp
   have:p.1∈Region.ready .any ops listed:=mem_ready.2 ⟨o,ho,hpu,fun e' he=>by
    obtain ⟨x,hx,rfl⟩:=zE.1 (hedge A p C e o ho e' he)
    have h1:=hA x hx
    simp only [unl,z6] at h1
    obtain ⟨ox,hox,_⟩:=hget x (by rw [e];simp [hx])
    have hes:x.1 < listed.size:=by rw [hsz];exact (zw.1 hox).1
    simp only [Array.getD,hes,dite_true] at h1 ⊢
    exact h1⟩
   rw [hnil] at this
   cases this
  refine ⟨fun hn=>absurd hn hready,fun i hi=>?_⟩
  obtain ⟨o,ho,hun,hed⟩:=mem_ready.1 hi
  have hilt:=(zw.1 ho).1
  have hil:i < listed.size:=by rw [hsz];exact hilt
  obtain ⟨q,hq,hqi⟩:=zE.1 (hcov i hilt)
  obtain ⟨A,C,hsplit⟩:=List.append_of_mem hq
  obtain ⟨i',ii⟩:=q
  simp only at hqi
  subst hqi
  have hne:∀ p∈A++C,p.1≠i':=by
   intro p hp he
   have h1:((i' :: (A++C).map (·.1))).Nodup:=by
    have hp2:(ps.map (·.1)).Perm (i' :: (A++C).map (·.1)):=by
     rw [hsplit,zF,zF,zx]
     exact List.perm_middle
    exact hp2.nodup_iff.1 hnd
   rw [List.nodup_cons] at h1
   exact h1.1 (he ▸ List.mem_map_of_mem hp)
  have hunl:unl listed (i',ii)=true:=by simp [unl,hun]
  have hfil:ps.filter (unl listed)=A.filter (unl listed)++(i',ii) :: C.filter (unl listed):=by
   rw [hsplit,List.filter_append,List.filter_cons_of_pos hunl]
  have hgd:∀ j,j≠i'→(listed.setIfInBounds i' true).getD j true=listed.getD j true:=by
   intro j hj
   rw [zz,zz,zO (Ne.symm hj)]
  have hself:∀ b,(listed.setIfInBounds i' true).getD i' b=true:=by
   intro b
   rw [zz,Array.getElem?_setIfInBounds_self_of_lt hil]
   rfl
  have hfil':ps.filter (unl (listed.setIfInBounds i' true))=A.filter (unl listed)++C.filter (unl listed):=by
   rw [hsplit,List.filter_append,List.filter_cons_of_neg (by simp [unl,hself])]
   congr 1
   ·refine List.filter_congr fun p hp=>?_
    simp only [unl,hgd p.1 (hne p (by simp [hp]))]
   ·refine List.filter_congr fun p hp=>?_
    simp only [unl,hgd p.1 (hne p (by simp [hp]))]
  have hap:∀ x∈(A.filter (unl listed)).map (·.2),qgh x ii=true:=by
   intro x hx
   obtain ⟨p,hp,rfl⟩:=zE.1 hx
   obtain ⟨hp1,hp2⟩:=List.mem_filter.1 hp
   rcases qnI hall A (i',ii) C hsplit p (by simpa using hp1) with h'|h'
   ·exact h'
   ·have:=qgB hcl _ i' p.1 o ho hed h'
    obtain ⟨ox,hox,_⟩:=hget p (by rw [hsplit];simp [hp1])
    have hpl:p.1 < listed.size:=by rw [hsz];exact (zw.1 hox).1
    simp only [unl,Array.getD,hpl,dite_true] at hp2 this
    rw [this] at hp2
    cases hp2
  have hsub:((ps.filter (unl listed)).map (·.2)).Sublist (ps.map (·.2)):=(List.filter_sublist (p:=unl listed) (l:=ps)).map (·.2)
  rw [hfil] at h hf hFr hsub
  simp only [zF,zx] at h hFr hsub
  have hcont:∀ {A2 C2:List IOper} {d:Nat},d∈qaq (A2++C2)→d∈qaq (A2++ii :: C2):=by
   intro A2 C2 d hd
   obtain ⟨q,hq,r,hr⟩:=newsOf_mem.1 hd
   refine newsOf_mem.2 ⟨q,?_,r,hr⟩
   simp only [zp,zG] at hq ⊢
   rcases hq with hq|hq
   ·exact .inl hq
   ·exact .inr (.inr hq)
  have hfront:=qm1 _ fr L hap (fun d hd=>hFr d (by
   obtain ⟨q,hq,r,hr⟩:=newsOf_mem.1 hd
   simp only [zu] at hq
   exact newsOf_mem.2 ⟨q,by simp [hq],r,hr⟩)) h
  have hii:ii∈ps.map (·.2):=by rw [hsplit];simp
  generalize hA2:(A.filter (unl listed)).map (·.2)=A2 at *
  generalize hC2:(C.filter (unl listed)).map (·.2)=C2 at *
  have hrest:qbI (qaq (A2++C2)) fr L:=fun d hd=>hFr d (hcont hd)
  have hsubm:∀ d,d∈qaq (A2++C2)→d∈qaq (ps.map (·.2)):=fun d hd=>by
   obtain ⟨q,hq,r,hr⟩:=newsOf_mem.1 (hcont hd)
   exact newsOf_mem.2 ⟨q,hsub.subset hq,r,hr⟩
  have hfront:qaa P E Y (ii :: []) fr L (fun fr L=>qbI (qaq (A2++C2)) fr L∧qaa P E Y (A2++C2) fr L K)∨(qaa P E Y (ii :: (A2++C2)) fr L K∧qaq (ps.map (·.2))=[]):=by
   rcases hnews with hn|⟨h1,h2⟩
   ·exact .inr ⟨hfront,hn⟩
   ·rcases qm0 (h1 ii hii) with hok|⟨d0,hd0,hn0⟩
    rotate_left
    ·exact .inl (qiP hd0 (fun hm=>hn0 (hsubm d0 hm)) hrest hfront (fun fr L hF h=>⟨hF,h⟩))
    refine .inl (qge hok ?_ hrest hfront (fun fr L hF h=>⟨hF,h⟩))
    intro d l hd hm
    have hnd:(qaq (A2++ii :: C2)).Nodup:=(hsub.filterMap _).nodup h2
    have hp:(qaq (A2++ii :: C2)).Perm (qaq (ii :: (A2++C2))):=List.Perm.filterMap _ List.perm_middle
    have hnd2:=hp.nodup_iff.1 hnd
    have e:qaq (ii :: (A2++C2))=d :: qaq (A2++C2):=by simp [qaq,hd]
    rw [e] at hnd2
    exact (List.nodup_cons.1 hnd2).1 hm
  have hemp:qaq (ps.map (·.2))=[]→qaq (A2++C2)=[]:=by
   intro hn
   refine List.eq_nil_iff_forall_not_mem.2 fun d hd=>?_
   have:=hsubm d hd
   rw [hn] at this
   cases this
  obtain ⟨o',ho',hchk⟩:=hget (i',ii) hq
  rw [ho] at ho'
  cases ho'
  have hfi:isFz ii=false:=hfz (i',ii) hq
  have cont:∀ fr' L' ι' a' w',qbI (qaq (A2++C2)) fr' L'→qaa P E Y (A2++C2) fr' L' K→StF E B w' L' ι' fr' a'→wpAny P .any ops Q fuel (listed.setIfInBounds i' true) a' w':=by
   intro fr' L' ι' a' w' hF' h' hs'
   refine ih (listed.setIfInBounds i' true) fr' L' ι' a' w' (by simpa using hsz) ?_ ?_ ?_ ?_ hs'
   ·intro k q hq2 hk e he
    by_cases hki:k=i'
    ·subst hki
     rw [ho] at hq2
     cases hq2
     by_cases hei:e=k
     ·subst hei;exact hself _
     ·have:=hed e he
      rw [zz,zO (Ne.symm hei),← zz]
      exact this
    ·rw [zz,zO (Ne.symm hki),← zz] at hk
     have:=hcl k q hq2 hk e he
     by_cases hei:e=i'
     ·subst hei;exact hself _
     ·rw [zz,zO (Ne.symm hei),← zz]
      exact this
   ·rw [hfil']
    simp only [zm,zl] at hf ⊢
    omega
   ·rw [hfil',zF,hA2,hC2]
    exact hF'
   ·rw [hfil',zF,hA2,hC2]
    exact h'
  have hstep:if Region.wanted o (yielded ops a.tmps) then o.wp P a w (wpAny P .any ops Q fuel (listed.setIfInBounds i' true)) Q else wpAny P .any ops Q fuel (listed.setIfInBounds i' true) (a.put o.dst undef) w:=by
   rcases hfront with hfront|⟨hfront,hn⟩
   ·exact qdC hchk hfi hfront hs (fun fr' L' ι' a' w' h' hs'=>by
     simp only [qaa] at h'
     exact cont fr' L' ι' a' w' h'.1 h'.2 hs')
   ·exact qdC hchk hfi hfront hs (fun fr' L' ι' a' w' h' hs'=>cont fr' L' ι' a' w' (by rw [hemp hn];intro d hd;cases hd) h' hs')
  unfold wpOp
  rw [ho]
  simp only
  by_cases hw:Region.wanted o (yielded ops a.tmps)=true
  ·rw [if_pos hw] at hstep ⊢
   exact .inl hstep
  ·rw [if_neg hw] at hstep ⊢
   exact hstep
theorem qp3 {ops:Array Oper} {n i:Nat} {ii:IOper}:∀ {l:List (Nat×IOper)},qpf ops n i ii l=true→∀ y∈l,qjY y.2 ii=true∨ancB ops n i y.1=true:=by
 intro l
 induction l with
 |nil=>intro _ y hy;cases hy
 |cons q l ih=>
  intro h y hy
  obtain ⟨j,jj⟩:=q
  simp only [qpf,zi,yh] at h
  simp only [zG] at hy
  rcases hy with rfl|hy
  ·exact h.1
  ·exact ih h.2 y hy
theorem qum {ops:Array Oper} {n:Nat}:∀ {l seen:List (Nat×IOper)},allT ops n seen l=true→∀ (pre:List (Nat×IOper)) (x:Nat×IOper) (post:List (Nat×IOper)),l=pre++x :: post→∀ y∈seen++pre,qjY y.2 x.2=true∨ancB ops n x.1 y.1=true:=by
 intro l
 induction l with
 |nil=>intro seen _ pre x post h;cases pre<;>cases h
 |cons q l ih=>
  intro seen h pre x post e y hy
  obtain ⟨i,ii⟩:=q
  simp only [allT,zi] at h
  cases pre with
  |nil=>
   simp only [zU,List.cons.injEq] at e
   obtain ⟨rfl,rfl⟩:=e
   exact qp3 h.1 y (by simpa using hy)
  |cons p pre=>
   simp only [zT,List.cons.injEq] at e
   obtain ⟨rfl,rfl⟩:=e
   exact ih h.2 pre x post rfl y (by simpa using hy)
set_option maxHeartbeats 2000000 in
theorem qw0 {ops:Array Oper} {ps:List (Nat×IOper)} {K:List AV→Objs→Prop} {Q:Exit→Act→World→Prop} (hK:∀ fr L ι a w,K fr L→StF E B w L ι fr a→Q .normal a w) (hnd:(ps.map (·.1)).Nodup) (hcov:∀ i,i < ops.size→i∈ps.map (·.1))
  (hget:∀ p∈ps,∃ o,ops[p.1]?=some o∧qe2 P ops o p.2=true) (hfz:∀ p∈ps,isFz p.2=false) (hall:allT ops ops.size [] ps=true) {ts:List Nat} (hokT:∀ p∈ps,okT ts p.2=true)
  (hedge:∀ A p C,ps=A++p :: C→∀ o,ops[p.1]?=some o→∀ e∈qfg o,e∈A.map (·.1)) :
  ∀ (fuel:Nat) (listed:Array Bool) (fr:List AV) (L:Objs) (ι:Key→Value) (a:Act) (w:World),listed.size=ops.size→qms ops listed→fuel=(ps.filter (unl listed)).length→InvA ts fr L→
   qaa P E Y ((ps.filter (unl listed)).map (·.2)) fr L K→StF E B w L ι fr a→wpAny P .any ops Q fuel listed a w:=by
 intro fuel
 induction fuel with
 |zero=>
  intro listed fr L ι a w hsz hcl hf hI h hs
  have hnil:ps.filter (unl listed)=[]:=zq hf.symm
  rw [hnil] at h
  refine ⟨?_,hK fr L ι a w h hs⟩
  refine List.eq_nil_iff_forall_not_mem.2 fun i hi=>?_
  obtain ⟨o,ho,h2,_⟩:=mem_ready.1 hi
  obtain ⟨p,hp,rfl⟩:=zE.1 (hcov i (zw.1 ho).1)
  have:p∈ps.filter (unl listed):=List.mem_filter.2 ⟨hp,by simp [unl,h2]⟩
  rw [hnil] at this
  cases this
 |succ fuel ih=>
  intro listed fr L ι a w hsz hcl hf hI h hs
  have hready:Region.ready .any ops listed≠[]:=by
   intro hnil
   have hex:∃ A p C,ps=A++p :: C∧unl listed p=true∧∀ x∈A,unl listed x=false:=by
    cases hrem:ps.filter (unl listed) with
    |nil=>rw [hrem] at hf;simp at hf
    |cons p rest=>
     obtain ⟨A,C,e,h1,h2,_⟩:=List.filter_eq_cons_iff.1 hrem
     exact ⟨A,p,C,e,h2,fun x hx=>by simpa using h1 x hx⟩
   obtain ⟨A,p,C,e,hp,hA⟩:=hex
   obtain ⟨o,ho,_⟩:=hget p (by rw [e];simp)
   have hpu:listed.getD p.1 true=false:=by simpa [unl] using hp
   have:p.1∈Region.ready .any ops listed:=mem_ready.2 ⟨o,ho,hpu,fun e' he=>by
    obtain ⟨x,hx,rfl⟩:=zE.1 (hedge A p C e o ho e' he)
    have h1:=hA x hx
    simp only [unl,z6] at h1
    obtain ⟨ox,hox,_⟩:=hget x (by rw [e];simp [hx])
    have hes:x.1 < listed.size:=by rw [hsz];exact (zw.1 hox).1
    simp only [Array.getD,hes,dite_true] at h1 ⊢
    exact h1⟩
   rw [hnil] at this
   cases this
  refine ⟨fun hn=>absurd hn hready,fun i hi=>?_⟩
  obtain ⟨o,ho,hun,hed⟩:=mem_ready.1 hi
  have hilt:=(zw.1 ho).1
  have hil:i < listed.size:=by rw [hsz];exact hilt
  obtain ⟨q,hq,hqi⟩:=zE.1 (hcov i hilt)
  obtain ⟨A,C,hsplit⟩:=List.append_of_mem hq
  obtain ⟨i',ii⟩:=q
  simp only at hqi
  subst hqi
  have hne:∀ p∈A++C,p.1≠i':=by
   intro p hp he
   have h1:((i' :: (A++C).map (·.1))).Nodup:=by
    have hp2:(ps.map (·.1)).Perm (i' :: (A++C).map (·.1)):=by
     rw [hsplit,zF,zF,zx]
     exact List.perm_middle
    exact hp2.nodup_iff.1 hnd
   rw [List.nodup_cons] at h1
   exact h1.1 (he ▸ List.mem_map_of_mem hp)
  have hunl:unl listed (i',ii)=true:=by simp [unl,hun]
  have hfil:ps.filter (unl listed)=A.filter (unl listed)++(i',ii) :: C.filter (unl listed):=by
   rw [hsplit,List.filter_append,List.filter_cons_of_pos hunl]
  have hgd:∀ j,j≠i'→(listed.setIfInBounds i' true).getD j true=listed.getD j true:=by
   intro j hj
   rw [zz,zz,zO (Ne.symm hj)]
  have hself:∀ b,(listed.setIfInBounds i' true).getD i' b=true:=by
   intro b
   rw [zz,Array.getElem?_setIfInBounds_self_of_lt hil]
   rfl
  have hfil':ps.filter (unl (listed.setIfInBounds i' true))=A.filter (unl listed)++C.filter (unl listed):=by
   rw [hsplit,List.filter_append,List.filter_cons_of_neg (by simp [unl,hself])]
   congr 1
   ·refine List.filter_congr fun p hp=>?_
    simp only [unl,hgd p.1 (hne p (by simp [hp]))]
   ·refine List.filter_congr fun p hp=>?_
    simp only [unl,hgd p.1 (hne p (by simp [hp]))]
  have hap:∀ x∈(A.filter (unl listed)).map (·.2),okT ts x=true∧qjY x ii=true:=by
   intro x hx
   obtain ⟨p,hp,rfl⟩:=zE.1 hx
   obtain ⟨hp1,hp2⟩:=List.mem_filter.1 hp
   refine ⟨hokT p (by rw [hsplit];simp [hp1]),?_⟩
   rcases qum hall A (i',ii) C hsplit p (by simpa using hp1) with h'|h'
   ·exact h'
   ·have:=qgB hcl _ i' p.1 o ho hed h'
    obtain ⟨ox,hox,_⟩:=hget p (by rw [hsplit];simp [hp1])
    have hpl:p.1 < listed.size:=by rw [hsz];exact (zw.1 hox).1
    simp only [unl,Array.getD,hpl,dite_true] at hp2 this
    rw [this] at hp2
    cases hp2
  rw [hfil] at h hf
  simp only [zF,zx] at h
  have hfront:=qx5 (hokT (i',ii) hq) hI (qp7 (hokT (i',ii) hq) _ fr L hap hI h) (js:=[]) (K':=fun fr L=>InvA ts fr L∧qaa P E Y ((A.filter (unl listed)).map (·.2)++(C.filter (unl listed)).map (·.2)) fr L K) (fun fr L hI h=>⟨hI,h⟩)
  obtain ⟨o',ho',hchk⟩:=hget (i',ii) hq
  rw [ho] at ho'
  cases ho'
  have hfi:isFz ii=false:=hfz (i',ii) hq
  have cont:∀ fr' L' ι' a' w',InvA ts fr' L'→qaa P E Y ((A.filter (unl listed)).map (·.2)++(C.filter (unl listed)).map (·.2)) fr' L' K→StF E B w' L' ι' fr' a'→wpAny P .any ops Q fuel (listed.setIfInBounds i' true) a' w':=by
   intro fr' L' ι' a' w' hI' h' hs'
   refine ih (listed.setIfInBounds i' true) fr' L' ι' a' w' (by simpa using hsz) ?_ ?_ hI' ?_ hs'
   ·intro k q hq2 hk e he
    by_cases hki:k=i'
    ·subst hki
     rw [ho] at hq2
     cases hq2
     by_cases hei:e=k
     ·subst hei;exact hself _
     ·have:=hed e he
      rw [zz,zO (Ne.symm hei),← zz]
      exact this
    ·rw [zz,zO (Ne.symm hki),← zz] at hk
     have:=hcl k q hq2 hk e he
     by_cases hei:e=i'
     ·subst hei;exact hself _
     ·rw [zz,zO (Ne.symm hei),← zz]
      exact this
   ·rw [hfil']
    simp only [zm,zl] at hf ⊢
    omega
   ·rw [hfil',zF]
    exact h'
  have hstep:if Region.wanted o (yielded ops a.tmps) then o.wp P a w (wpAny P .any ops Q fuel (listed.setIfInBounds i' true)) Q else wpAny P .any ops Q fuel (listed.setIfInBounds i' true) (a.put o.dst undef) w:=
   qdC hchk hfi hfront hs (fun fr' L' ι' a' w' h' hs'=>cont fr' L' ι' a' w' h'.1 h'.2 hs')
  unfold wpOp
  rw [ho]
  simp only
  by_cases hw:Region.wanted o (yielded ops a.tmps)=true
  ·rw [if_pos hw] at hstep ⊢
   exact .inl hstep
  ·rw [if_neg hw] at hstep ⊢
   exact hstep
theorem qjp {α β:Type}:∀ {l:List α} {m:List β} {A:List (α×β)} {p:α×β} {C:List (α×β)},l.length=m.length→l.zip m=A++p :: C→A.map (·.1)=l.take A.length∧l[A.length]?=some p.1
 |[],m,A,p,C,_,h=>by cases A<;>simp at h
 |a :: l,[],A,p,C,hl,h=>by simp at hl
 |a :: l,b :: m,[],p,C,hl,h=>by
  simp only [List.zip_cons_cons,zU,List.cons.injEq] at h
  rw [← h.1]
  exact ⟨rfl,rfl⟩
 |a :: l,b :: m,x :: A,p,C,hl,h=>by
  simp only [List.zip_cons_cons,zT,List.cons.injEq] at h
  obtain ⟨h1,h2⟩:=qjp (by simpa using hl) h.2
  rw [← h.1]
  exact ⟨by simp [h1],by simpa using h2⟩
set_option maxHeartbeats 2000000 in
theorem qwG (hm:P.follows .mixedOrders=true) (E:Envt) (B:Base) (Y:List PV) (ops:Array Oper) (pm:List Nat) (is:List IOper) (id:Nat) (fr:List AV) (L:Objs) (ι:Key→Value) (a:Act) (w:World) (K:List AV→Objs→Prop) (Q:Exit→Act→World→Prop)
  (hK:∀ fr L ι a w,K fr L→StF E B w L ι fr a→Q .normal a w) (hc:qt4 P ops pm is=true) (hD:qok ops pm is=true) (h:qaa P E Y is fr L K) (hs:StF E B w L ι fr a):(Code.region id ops true).wp P Q a w:=by
 simp only [qok,zi,beq_iff_eq,decide_eq_true_eq,yf,zQ] at hD
 obtain ⟨⟨⟨⟨⟨⟨hre,h0⟩,hnd⟩,hlen⟩,hlt⟩,hall⟩,hedge⟩:=hD
 obtain ⟨fr',L',ι',hF',_,h',hs'⟩:=qnF is [] fr L ι a w hre (fun d hd=>by cases hd) (fun d hd=>by cases hd) h hs
 rw [zU] at hF'
 simp only [qt4,zi,beq_iff_eq] at hc
 obtain ⟨hl2,hc⟩:=hc
 rw [yf] at hc
 generalize qbs is=hls at *
 generalize qev is=js at *
 have hm1:(pm.zip js).map (·.1)=pm:=by
  have:=List.unzip_zip hl2
  rw [← List.unzip_fst,this]
 have hm2:(pm.zip js).map (·.2)=js:=by
  have:=List.unzip_zip hl2
  rw [← List.unzip_snd,this]
 have hchk:∀ p∈pm.zip js,isFz p.2=false∧∃ o,ops[p.1]?=some o∧qe2 P ops o p.2=true:=by
  intro p hp
  have:=hc p hp
  rw [zi,zQ] at this
  refine ⟨this.1,?_⟩
  have h2:=this.2
  split at h2
  ·rename_i o ho;exact ⟨o,ho,h2⟩
  ·cases h2
 have hcov:∀ i,i < ops.size→i∈pm:=by
  intro i hi
  simpa using hlt i (List.mem_range.2 hi)
 refine wp_region_any hm ?_
 have hs'':StF E B { w with drawn:=w.drawn+1 } L' ι' fr' a:=hs'.grown ⟨rfl,rfl,rfl,zL _,fun _ _ _=>rfl⟩
 have hrep:∀ j,j < ops.size→(Array.replicate ops.size false).getD j true=false:=by
  intro j hj
  simp [Array.getD,hj]
 have hfil:(pm.zip js).filter (unl (Array.replicate ops.size false))=pm.zip js:=by
  refine List.filter_eq_self.2 fun p hp=>?_
  obtain ⟨_,o,ho,_⟩:=hchk p hp
  simp only [unl,hrep p.1 (zw.1 ho).1,Bool.not_false]
 refine qw1 (Y:=Y) (ps:=pm.zip js) hK (by rw [hm1];exact hnd) (fun i hi=>by rw [hm1];exact hcov i hi) (fun p hp=>(hchk p hp).2) (fun p hp=>(hchk p hp).1) hall (fun A p C e o ho q hq=>?_) ?_ ops.size (Array.replicate ops.size false) fr' L' ι' a _ (by simp) ?_ ?_ ?_ ?_ hs''
 ·obtain ⟨h1,h2⟩:=qjp hl2 e
  have hk:A.length < pm.length:=(zo.1 h2).1
  have:=hedge A.length (List.mem_range.2 hk)
  have hg:pm.getD A.length 0=p.1:=by simp [zC,h2]
  rw [hg,ho] at this
  simp only [yf] at this
  have:=this q hq
  rw [h1]
  simpa using this
 ·rw [hm2]
  simp only [qrp,yh,zi,List.isEmpty_iff,yf,decide_eq_true_eq] at h0
  rcases h0 with h0|h0
  ·exact .inl h0
  ·exact .inr h0.1
 ·intro k q hq hk
  by_cases hj:k < ops.size<;>simp [Array.getD,hj] at hk
 ·rw [hfil]
  have:=congrArg List.length hm1
  rw [List.length_map] at this
  omega
 ·rw [hfil,hm2]
  simp only [qrp,yh,zi,List.isEmpty_iff,yf,decide_eq_true_eq] at h0
  rcases h0 with h0|h0
  ·rw [h0];intro d hd;cases hd
  ·intro d hd
   exact hF' d (by simpa using h0.2 d hd)
 ·rw [hfil,hm2]
  exact h'
set_option maxHeartbeats 2000000 in
theorem qwF (hm:P.follows .mixedOrders=true) (E:Envt) (B:Base) (Y:List PV) (ops:Array Oper) (is:List IOper) (id:Nat) (fr:List AV) (L:Objs) (ι:Key→Value) (a:Act) (w:World) (K:List AV→Objs→Prop) (Q:Exit→Act→World→Prop)
  (hK:∀ fr L ι a w,K fr L→StF E B w L ι fr a→Q .normal a w) (hc:qdP P ops ops.toList is=true) (hD:qoj ops is=true) (h:qaa P E Y is fr L K) (hs:StF E B w L ι fr a):(Code.region id ops true).wp P Q a w:=by
 simp only [qoj,zi,beq_iff_eq,yf,zQ] at hD
 obtain ⟨⟨⟨⟨⟨⟨hre,h0⟩,hok⟩,h1⟩,h2⟩,h3⟩,h4⟩:=hD
 obtain ⟨hc',fr',L',ι',hF',hA',h',hs'⟩:=qjW is [] fr L ι a w ops.toList hre hc (fun d hd=>by cases hd) (fun d hd=>by cases hd) h hs
 rw [zU] at hF' hA'
 generalize qbs is=hls at *
 generalize qev is=js at *
 obtain ⟨g1,g2⟩:=qkT hc' (fun i hi=>h1 i hi)
 have hI:InvA (qaq js) fr' L':=fun d hd=>by
  have hm:=h0 d hd
  have hm:d∈hls:=by simpa using hm
  exact ⟨qma (hF' d hm).1 d,(hF' d hm).2,.inl (hA' d hm)⟩
 refine wp_region_any hm ?_
 have hs'':StF E B { w with drawn:=w.drawn+1 } L' ι' fr' a:=hs'.grown ⟨rfl,rfl,rfl,zL _,fun _ _ _=>rfl⟩
 have hl:(zB js.length).length=js.length:=by simp
 have hz1:((zB js.length).zip js).map (·.1)=zB js.length:=by rw [← List.unzip_fst,List.unzip_zip hl]
 have hz2:((zB js.length).zip js).map (·.2)=js:=by rw [← List.unzip_snd,List.unzip_zip hl]
 have zmem:∀ (p:Nat×IOper),p∈(zB js.length).zip js→p.1 < js.length∧js[p.1]?=some p.2:=by
  intro p hp
  obtain ⟨k,hk⟩:=yg hp
  rw [List.getElem?_zip_eq_some] at hk
  obtain ⟨h1,h2⟩:=hk
  rw [yc (by have:=(zo.1 h2).1;exact this)] at h1
  cases h1
  exact ⟨(zo.1 h2).1,h2⟩
 have hrep:∀ j,j < ops.size→(Array.replicate ops.size false).getD j true=false:=by
  intro j hj
  simp [Array.getD,hj]
 have hfil:((zB js.length).zip js).filter (unl (Array.replicate ops.size false))=(zB js.length).zip js:=by
  refine List.filter_eq_self.2 fun p hp=>?_
  simp only [unl,hrep p.1 (by rw [← h2];exact (zmem p hp).1),Bool.not_false]
 refine qw0 (Y:=Y) (ps:=(zB js.length).zip js) hK (by rw [hz1];exact List.nodup_range) (fun i hi=>by rw [hz1,List.mem_range,h2];exact hi) (fun p hp=>?_) (fun p hp=>h1 _ (zn (zmem p hp).2)) h3 (ts:=qaq js) (fun p hp=>hok _ (zn (zmem p hp).2)) (fun A p C e o ho q hq=>?_) ops.size (Array.replicate ops.size false) fr' L' ι' a _ (by simp) ?_ ?_ hI ?_ hs''
 ·obtain ⟨o,ho,hh⟩:=g2 p.1 p.2 (zmem p hp).2
  exact ⟨o,by simpa using ho,hh⟩
 ·obtain ⟨k1,k2⟩:=qjp hl e
  have hAl:A.length < js.length:=by
   have:=(zo.1 k2).1
   simpa using this
  rw [yc hAl] at k2
  have hp1:=Option.some.inj k2
  have hlt:p.1 < ops.size:=(zw.1 ho).1
  have:=h4 p.1 (by simpa using hlt)
  rw [ho] at this
  simp only [yf,decide_eq_true_eq] at this
  have hqlt:=this q hq
  rw [k1,List.mem_take_iff_getElem]
  refine ⟨q,by simp;omega,by simp⟩
 ·intro k q hq hk
  by_cases hj:k < ops.size<;>simp [Array.getD,hj] at hk
 ·rw [hfil];simp [h2]
 ·rw [hfil,hz2]
  exact h'
set_option maxHeartbeats 2000000 in
theorem qrY (hm:P.follows .mixedOrders=true):qsB P qmZ:=by
 refine ⟨?_,fun E B Y ops pm is id fr L ι a w K Q hK hc hD h hs=>qwG hm E B Y ops pm is id fr L ι a w K Q hK hc hD h hs⟩
 intro E B Y ops is id fr L ι a w K Q hK hc hD h hs
 simp only [qmZ,yh] at hD
 rcases hD with hD|hD
 rotate_left
 ·exact qwF hm E B Y ops is id fr L ι a w K Q hK hc hD h hs
 simp only [qrr,zi,beq_iff_eq,yf,zQ] at hD
 obtain ⟨⟨⟨⟨⟨hre,h0⟩,h1⟩,h2⟩,h3⟩,h4⟩:=hD
 obtain ⟨hc',fr',L',ι',hF',_,h',hs'⟩:=qjW is [] fr L ι a w ops.toList hre hc (fun d hd=>by cases hd) (fun d hd=>by cases hd) h hs
 rw [zU] at hF'
 generalize qbs is=hls at *
 generalize qev is=js at *
 obtain ⟨g1,g2⟩:=qkT hc' (fun i hi=>h1 i hi)
 refine wp_region_any hm ?_
 have hs'':StF E B { w with drawn:=w.drawn+1 } L' ι' fr' a:=hs'.grown ⟨rfl,rfl,rfl,zL _,fun _ _ _=>rfl⟩
 have hrep:∀ j,(Array.replicate ops.size false).getD j true=false↔j < ops.size:=by
  intro j
  by_cases hj:j < ops.size<;>simp [Array.getD,hj]
 have hfil:((zB js.length).zip js).filter (unl (Array.replicate ops.size false))=(zB js.length).zip js:=by
  refine List.filter_eq_self.2 fun p hp=>?_
  obtain ⟨k,hk⟩:=yg hp
  rw [List.getElem?_zip_eq_some] at hk
  have hkl:=(zo.1 hk.2).1
  rw [yc hkl] at hk
  cases hk.1
  simp only [unl,(hrep p.1).2 (by rw [← h2];exact hkl),Bool.not_false]
 refine qyl (Y:=Y) (js:=js) hK h2 (fun k i hk=>?_) (fun i hi=>h1 i hi) h3 (fun i o ho e he=>?_) ?_ ops.size (Array.replicate ops.size false) fr' L' ι' a _ (by simp) ?_ ?_ ?_ ?_ hs''
 ·obtain ⟨o,ho,hh⟩:=g2 k i hk
  exact ⟨o,by simpa using ho,hh⟩
 ·have hlt:i < ops.size:=(zw.1 ho).1
  have:=h4 i (by simpa using hlt)
  rw [ho] at this
  simp only [yf,decide_eq_true_eq] at this
  exact this e he
 ·simp only [qoi,yh,zi,List.isEmpty_iff,yf,decide_eq_true_eq] at h0
  rcases h0 with h0|h0
  ·exact .inl h0
  ·exact .inr h0.1
 ·intro k q hq hk
  by_cases hj:k < ops.size<;>simp [Array.getD,hj] at hk
 ·rw [hfil];simp [h2]
 ·rw [hfil]
  have e:((zB js.length).zip js).map (·.2)=js:=by
   rw [← List.unzip_snd,List.unzip_zip (by simp)]
  rw [e]
  simp only [qoi,yh,zi,List.isEmpty_iff,yf,decide_eq_true_eq] at h0
  rcases h0 with h0|h0
  ·rw [h0];intro d hd;cases hd
  ·exact fun d hd=>hF' d (by simpa using h0.2 d hd)
 ·rw [hfil]
  have:((zB js.length).zip js).map (·.2)=js:=by
   rw [← List.unzip_snd,List.unzip_zip (by simp)]
  rw [this]
  exact h'
end
def chkF (P:Program) (fn:Func) (ic:IC) (rs:List IRes) (n:Nat):Bool:=
 match fn.body with
 |some c=>chkC P qmZ ic c && qfb P fn.results.toList rs && fn.ntmps == n
 |none=>false
section
variable {P:Program} {E:Envt}
theorem qah (hm:P.follows .mixedOrders=true) {f:FuncId} {fn:Func} {ic:IC} {rs:List IRes} {args:List PV} {n:Nat} {φ:PV→Prop} (hf:P.funcs[f]?=some fn) (hc:chkF P fn ic rs n=true)
  (h:awp P E ic (args.map .p++zD (n - args.length) .any) [] (retQ rs fun x _=>φ x)):PCall P E f args φ:=by
 unfold chkF at hc
 split at hc
 ·rename_i c hb
  simp only [zi,beq_iff_eq] at hc
  exact qmW (qrY hm) hf hb hc.2 hc.1.1 hc.1.2 h
 ·cases hc
def qpX (P:Program) (E:Envt) (y:IC) (Q:AQ):AQ:=qfh (fun fr L=>awp P E y fr L Q) Q
def BrC (P:Program) (E:Envt) (b:Bool) (x y:IC) (fr:List AV) (L:Objs) (Q:AQ):Prop:=BrQ b (awp P E x fr L Q) (awp P E y fr L Q)
def qw6 (P:Program) (E:Envt) (x:IC) (fr:List AV) (L:Objs) (Q:AQ):Prop:=awp P E (.loop x) fr L Q
def DrgC (P:Program) (E:Envt) (ops:List IOper) (fr:List AV) (L:Objs) (K:List AV→Objs→Prop):Prop:=∃ X,qaa P E X ops fr L K
def qcV (P:Program) (E:Envt) (X:List PV) (is:List IOper) (K:List AV→Objs→Prop):List AV→Objs→Prop:=fun fr L=>qaa P E X is fr L K
theorem ReOk.refl {fr:List AV} {L:Objs}:ReOk E fr L fr L:=fun B w ι a hs=>⟨ι,hs⟩
theorem ReOk.trans {fr fr1 fr2:List AV} {L L1 L2:Objs} (h:ReOk E fr L fr1 L1) (k:ReOk E fr1 L1 fr2 L2):ReOk E fr L fr2 L2:=fun B w ι a hs=>by
 obtain ⟨ι1,hs1⟩:=h B w ι a hs
 exact k B w ι1 a hs1
theorem qbq {fr fr':List AV} {L L':Objs} (h1:Zb fr fr') (h2:Zd L' L):ReOk E fr L fr' L':=fun B w ι a hs=>⟨ι,hs.weak h1 h2⟩
def EndR (E:Envt) (I:Nat→List AV→Objs→Prop) (n:Nat) (fr:List AV) (L:Objs):Prop:=∃ m fr' L',m < n∧ReOk E fr L fr' L'∧I m fr' L'
def qmK (E:Envt) (I:Nat→List AV→Objs→Prop) (n:Nat) (Q:AQ):AQ:=qfh (EndR E I n) Q
def CutC (P:Program) (E:Envt) (x:IC) (fr:List AV) (L:Objs) (Q:AQ):Prop:=∃ fr' L',ReOk E fr L fr' L'∧awp P E x fr' L' Q
def MidK (E:Envt) (M:List AV→Objs→Prop) (fr:List AV) (L:Objs):Prop:=∃ fr' L',ReOk E fr L fr' L'∧M fr' L'
def midQ (E:Envt) (M:List AV→Objs→Prop) (Q:AQ):AQ:=qfh (MidK E M) Q
variable {fr:List AV} {L:Objs} {Q:AQ} {X:List PV} {K:List AV→Objs→Prop}
theorem qug:awp P E .skip fr L Q=Q .normal fr L:=rfl
theorem qui {i:Nat}:awp P E (.exit i) fr L Q=Q (.exit i) fr L:=rfl
theorem qwS:awp P E .ret fr L Q=Q .ret fr L:=rfl
theorem qwR {x y:IC}:awp P E (.seq x y) fr L Q=awp P E x fr L (qpX P E y Q):=rfl
theorem qsh {i:Nat} {x:IC}:awp P E (.block i x) fr L Q=awp P E x fr L (qiN i Q):=rfl
theorem qwT {ops:List IOper}:awp P E (.reg ops) fr L Q=qaa P E [] ops fr L (Q .normal):=rfl
theorem qwV {ops:List IOper}:awp P E (.drg ops) fr L Q=DrgC P E ops fr L (Q .normal):=rfl
theorem qwU {pm:List Nat} {ops:List IOper}:awp P E (.drp pm ops) fr L Q=DrgC P E ops fr L (Q .normal):=rfl
theorem quh {x:IC}:awp P E (.loop x) fr L Q=qw6 P E x fr L Q:=rfl
theorem quj {c:Opd} {x y:IC}:awp P E (.cond c x y) fr L Q=(match rd fr c with|.p (.bool b)=>BrC P E b x y fr L Q|_=>False):=rfl
theorem qu3 {y:IC}:qpX P E y Q .normal fr L=awp P E y fr L Q:=rfl
theorem qu2 {y:IC}:qpX P E y Q .ret fr L=Q .ret fr L:=rfl
theorem qu4 {y:IC} {i:Nat}:qpX P E y Q (.exit i) fr L=Q (.exit i) fr L:=rfl
theorem qt8 {i:Nat}:qiN i Q .normal fr L=Q .normal fr L:=rfl
theorem qt7 {i:Nat}:qiN i Q .ret fr L=Q .ret fr L:=rfl
theorem qt9 {i j:Nat}:qiN i Q (.exit j) fr L=if j=i then Q .normal fr L else Q (.exit j) fr L:=rfl
theorem qs7 {I:Nat→List AV→Objs→Prop} {n:Nat}:qmK E I n Q .normal fr L=EndR E I n fr L:=rfl
theorem qwW {x:IC}:awp P E (.cut x) fr L Q=CutC P E x fr L Q:=rfl
theorem qxQ {M:List AV→Objs→Prop}:midQ E M Q .normal fr L=MidK E M fr L:=rfl
theorem qxP {M:List AV→Objs→Prop}:midQ E M Q .ret fr L=Q .ret fr L:=rfl
theorem qxR {M:List AV→Objs→Prop} {i:Nat}:midQ E M Q (.exit i) fr L=Q (.exit i) fr L:=rfl
theorem qs6 {I:Nat→List AV→Objs→Prop} {n:Nat}:qmK E I n Q .ret fr L=Q .ret fr L:=rfl
theorem qs8 {I:Nat→List AV→Objs→Prop} {n i:Nat}:qmK E I n Q (.exit i) fr L=Q (.exit i) fr L:=rfl
theorem qxr {rs:List IRes} {φ:PV→Objs→Prop}:retQ rs φ .ret fr L=RetK (Zbd fr L rs) φ L:=rfl
theorem qxs {rs:List IRes} {φ:PV→Objs→Prop}:retQ rs φ .normal fr L=RetK (Zbd fr L rs) φ L:=rfl
theorem quC {x y:IC}:BrC P E true x y fr L Q=awp P E x fr L Q:=by simp [BrC,BrQ]
theorem qsD {x y:IC}:BrC P E false x y fr L Q=awp P E y fr L Q:=by simp [BrC,BrQ]
theorem br {b:Bool} {x y:IC} (h1:b=true→awp P E x fr L Q) (h2:b=false→awp P E y fr L Q):BrC P E b x y fr L Q:=⟨h1,h2⟩
theorem qad {x:IC} (I:Nat→List AV→Objs→Prop) (n:Nat) (fr':List AV) (L':Objs) (h1:Zb fr fr') (h2:Zd L' L) (h0:I n fr' L') (hr:∀ n fr L,I n fr L→awp P E x fr L (qmK E I n Q)):qw6 P E x fr L Q:=⟨I,⟨n,fr',L',qbq h1 h2,h0⟩,hr⟩
theorem qis {x:IC} (I:Nat→List AV→Objs→Prop) (n:Nat) (fr':List AV) (L':Objs) (h1:ReOk E fr L fr' L') (h0:I n fr' L') (hr:∀ n fr L,I n fr L→awp P E x fr L (qmK E I n Q)):qw6 P E x fr L Q:=⟨I,⟨n,fr',L',h1,h0⟩,hr⟩
theorem qab {I:Nat→List AV→Objs→Prop} {n:Nat} (m:Nat) (fr':List AV) (L':Objs) (hm:m < n) (h1:Zb fr fr') (h2:Zd L' L) (h0:I m fr' L'):EndR E I n fr L:=⟨m,fr',L',hm,qbq h1 h2,h0⟩
theorem qc9 {M:List AV→Objs→Prop} (fr':List AV) (L':Objs) (h1:Zb fr fr') (h2:Zd L' L) (h0:M fr' L'):MidK E M fr L:=⟨fr',L',qbq h1 h2,h0⟩
theorem qp9 (k:Key) (cs:List PV):(cs.map AV.p).map (fun x=>AV.kill k x)=cs.map AV.p:=by
 rw [List.map_map];exact List.map_congr_left fun x _=>rfl
theorem qp8 (k:Key) (y:PV) (cs:List PV):(cs.map AV.p).map (fun x=>AV.thaw k y x)=cs.map AV.p:=by
 rw [List.map_map];exact List.map_congr_left fun x _=>rfl
theorem qae {x:IC} (h2:Zd L L) (h:awp P E x fr L Q):CutC P E x fr L Q:=⟨fr,L,ReOk.refl,h⟩
set_option maxHeartbeats 2000000 in
theorem qhB {K':List AV→Objs→Prop} (hk:∀ fr L,K fr L→K' fr L):∀ (is:List IOper) (fr:List AV) (L:Objs),qaa P E X is fr L K→qaa P E X is fr L K':=by
 intro is
 induction is with
 |nil=>intro fr L h;exact hk fr L h
 |cons i is ih=>
  obtain ⟨d,op,gd⟩:=i
  intro fr L h
  have hcall:∀ f as d fr,qa5 P E f as L d fr (fun fr L=>qaa P E X is fr L K)→qa5 P E f as L d fr (fun fr L=>qaa P E X is fr L K'):=by
   intro f as d fr h
   rcases h with ⟨φ,h1,h2⟩|⟨bk,post,h1,h2,h3,h4⟩|⟨i0,h⟩
   ·exact .inl ⟨φ,h1,fun x hx=>ih _ _ (h2 x hx)⟩
   ·refine .inr (.inl ⟨bk,post,h1,h2,h3,fun r os' hp=>?_⟩)
    have:=h4 r os' hp
    cases r with
    |p x=>exact ih _ _ this
    |fr es e z=>cases d with
     |none=>exact ih _ _ this
     |some d=>exact ih _ _ this
    |ft es e z ps=>cases d with
     |none=>exact ih _ _ this
     |some d=>exact ih _ _ this
   ·refine .inr (.inr ⟨i0,fun w X' ι vs a1 a2 a3 a4 a5=>(h w X' ι vs a1 a2 a3 a4 a5).mono ?_⟩)
    rintro e w' ⟨v,r,L',ι',b1,b2,b3⟩
    exact ⟨v,r,L',ι',b1,ih _ _ b2,b3⟩
  cases gd with
  |none=>
   cases op with
   |call f args=>exact ⟨h.1,hcall _ _ _ _ h.2⟩
   |pcall n f args=>exact ⟨h.1,ih _ _ h.2⟩
   |dcall b f args=>
    obtain ⟨h0,k,t,cs,post,h1,h2,h3,h4,h5,h6⟩:=h
    exact ⟨h0,k,t,cs,post,h1,h2,h3,h4,h5,fun x cs' hp=>ih _ _ (h6 x cs' hp)⟩
   |callv g args=>
    simp only [qaa] at h ⊢
    split at h
    ·exact ⟨h.1,h.2.1,h.2.2.1,h.2.2.2.1,hcall _ _ _ _ h.2.2.2.2⟩
    ·exact h.elim
   |pcv n g args=>
    simp only [qaa] at h ⊢
    split at h
    ·exact ⟨h.1,ih _ _ h.2⟩
    ·exact h.elim
   |fz x=>
    simp only [qaa] at h ⊢
    split at h
    ·exact ih _ _ h
    ·exact ih _ _ h
   |hole x=>exact ih _ _ h
   |pcl n f args=>
    simp only [qaa] at h ⊢
    split at h
    ·exact ⟨h.1,ih _ _ h.2⟩
    ·exact h.elim
   |fcl n f args e z=>
    simp only [qaa] at h ⊢
    split at h
    ·exact ⟨h.1,ih _ _ h.2⟩
    ·exact h.elim
   |re=>obtain ⟨fr',L',h1,h2⟩:=h;exact ⟨fr',L',h1,ih _ _ h2⟩
   |nxt x=>
    simp only [qaa] at h ⊢
    split at h
    ·exact ⟨h.1,fun e=>ih _ _ (h.2.1 e),fun i p e=>ih _ _ (h.2.2 i p e)⟩
    ·exact h.elim
   |isn x=>
    simp only [qaa] at h ⊢
    split at h
    ·exact ⟨h.1,fun b hb=>ih _ _ (h.2 b hb)⟩
    ·exact h.elim
   |_=>
    simp only [qaa] at h ⊢
    split at h
    ·exact ⟨h.1,ih _ _ h.2⟩
    ·exact h.elim
  |some q=>
   obtain ⟨s,want⟩:=q
   simp only [qaa] at h ⊢
   split at h
   ·cases op with
    |call f args=>
     simp only at h ⊢
     rcases h with ⟨h1,⟨x,h2,h3⟩|⟨h2,h3⟩⟩
     ·exact ⟨h1,.inl ⟨x,h2,ih _ _ h3⟩⟩
     ·exact ⟨h1,.inr ⟨fun e=>hcall _ _ _ _ (h2 e),fun e=>ih _ _ (h3 e)⟩⟩
    |pcall n f args=>simp only at h ⊢;exact ⟨h.1,ih _ _ h.2⟩
    |callv g args=>
     simp only at h ⊢
     split at h
     ·rcases h with ⟨h0,h1,⟨x,h2,h3⟩|⟨h2,h3⟩⟩
      ·exact ⟨h0,h1,.inl ⟨x,h2,ih _ _ h3⟩⟩
      ·exact ⟨h0,h1,.inr ⟨fun e=>hcall _ _ _ _ (h2 e),fun e=>ih _ _ (h3 e)⟩⟩
     ·exact ⟨h.1,ih _ _ h.2⟩
    |pcl n f args=>
     simp only at h ⊢
     split at h
     ·exact ⟨h.1,ih _ _ h.2⟩
     ·exact h.elim
    |pcv n g args=>
     simp only at h ⊢
     split at h
     ·exact ⟨h.1,ih _ _ h.2⟩
     ·exact h.elim
    |_=>
     simp only at h ⊢
     split at h
     ·exact ⟨h.1,ih _ _ h.2⟩
     ·exact ⟨h.1,h.2.1,ih _ _ h.2.2⟩
   ·exact h.elim
theorem qpL:∀ (x:IC) (fr:List AV) (L:Objs) (Q Q':AQ),(∀ e fr L,Q e fr L→Q' e fr L)→awp P E x fr L Q→awp P E x fr L Q':=by
 intro x
 induction x with
 |skip=>intro fr L Q Q' hq h;exact hq _ _ _ h
 |reg ops=>intro fr L Q Q' hq h;exact qhB (hq .normal) ops fr L h
 |drg ops=>intro fr L Q Q' hq h;obtain ⟨Y,h⟩:=h;exact ⟨Y,qhB (hq .normal) ops fr L h⟩
 |drp pm ops=>intro fr L Q Q' hq h;obtain ⟨Y,h⟩:=h;exact ⟨Y,qhB (hq .normal) ops fr L h⟩
 |seq x y ihx ihy=>
  intro fr L Q Q' hq h
  refine ihx fr L _ _ (fun e fr L h=>?_) h
  cases e<;>first|exact ihy fr L Q Q' hq h|exact hq _ _ _ h
 |cond c x y ihx ihy=>
  intro fr L Q Q' hq h
  simp only [awp] at h ⊢
  split at h
  ·exact ⟨fun e=>ihx fr L Q Q' hq (h.1 e),fun e=>ihy fr L Q Q' hq (h.2 e)⟩
  ·exact h.elim
 |block i x ih=>
  intro fr L Q Q' hq h
  refine ih fr L _ _ (fun e fr L h=>?_) h
  cases e with
  |exit j=>
   simp only [qiN] at h ⊢
   split at h
   ·rename_i hj;rw [if_pos hj];exact hq _ _ _ h
   ·rename_i hj;rw [if_neg hj];exact hq _ _ _ h
  |_=>exact hq _ _ _ h
 |loop x ih=>
  intro fr L Q Q' hq h
  obtain ⟨I,h0,hr⟩:=h
  refine ⟨I,h0,fun n fr L hi=>ih fr L _ _ (fun e fr L h=>?_) (hr n fr L hi)⟩
  cases e with
  |normal=>exact h
  |_=>exact hq _ _ _ h
 |exit i=>intro fr L Q Q' hq h;exact hq _ _ _ h
 |ret=>intro fr L Q Q' hq h;exact hq _ _ _ h
 |dead=>intro fr L Q Q' hq h;exact h.elim
 |cut x ih=>intro fr L Q Q' hq h;obtain ⟨fr',L',h1,h⟩:=h;exact ⟨fr',L',h1,ih fr' L' Q Q' hq h⟩
theorem qe3 {b:Bool} {x y r:IC} (M:List AV→Objs→Prop) (h1:b=true→awp P E x fr L (midQ E M Q)) (h2:b=false→awp P E y fr L (midQ E M Q)) (hM:∀ fr L,M fr L→awp P E r fr L Q):BrC P E b x y fr L (qpX P E (.cut r) Q):=by
 have hq:∀ e fr L,midQ E M Q e fr L→qpX P E (.cut r) Q e fr L:=by
  intro e fr L h
  cases e with
  |normal=>obtain ⟨fr',L',a1,a3⟩:=h;exact ⟨fr',L',a1,hM fr' L' a3⟩
  |_=>exact h
 exact ⟨fun e=>qpL x fr L _ _ hq (h1 e),fun e=>qpL y fr L _ _ hq (h2 e)⟩
theorem drg0 {ops:List IOper} (h:qaa P E [] ops fr L K):DrgC P E ops fr L K:=⟨_,h⟩
theorem drg1 {ops:List IOper} {x1:PV} (h:qaa P E [x1] ops fr L K):DrgC P E ops fr L K:=⟨_,h⟩
theorem drg2 {ops:List IOper} {x1 x2:PV} (h:qaa P E [x1,x2] ops fr L K):DrgC P E ops fr L K:=⟨_,h⟩
theorem drg3 {ops:List IOper} {x1 x2 x3:PV} (h:qaa P E [x1,x2,x3] ops fr L K):DrgC P E ops fr L K:=⟨_,h⟩
theorem drg5 {ops:List IOper} {x1 x2 x3 x4 x5:PV} (h:qaa P E [x1,x2,x3,x4,x5] ops fr L K):DrgC P E ops fr L K:=⟨_,h⟩
def isOp:IOp→Bool
 |.call ..|.pcall ..|.dcall ..|.callv ..|.pcv ..|.fz ..|.hole ..|.isn ..|.re|.nxt ..|.fcl ..|.pcl ..=>false
 |_=>true
def OpsK (P:Program) (E:Envt) (X:List PV) (q:Option (Prop×List AV×Objs)) (is:List IOper) (K:List AV→Objs→Prop):Prop:=
 match q with
 |some (c,fr',L')=>c∧qaa P E X is fr' L' K
 |none=>False
def GdK (P:Program) (E:Envt) (X:List PV) (pl:Bool) (g:Option Bool) (q:Option (Prop×AV)) (d:Option Nat) (is:List IOper) (fr:List AV) (L:Objs) (K:List AV→Objs→Prop):Prop:=
 match g with
 |some c0=>match q with
  |some (c,r)=>(c0=true→c)∧qaa P E X is (Zg fr d (.g c0 r)) L K
  |none=>pl=true∧c0=false∧qaa P E X is (Zg fr d (.g c0 .any)) L K
 |none=>False
theorem qst {c:Prop} {fr':List AV} {L':Objs} {is:List IOper}:OpsK P E X (some (c,fr',L')) is K=(c∧qaa P E X is fr' L' K):=rfl
theorem qux {c0:Bool} {d:Option Nat} {is:List IOper}:GdK P E X true (some c0) none d is fr L K=(c0=false∧qaa P E X is (Zg fr d (.g c0 .any)) L K):=by simp [GdK]
theorem quw {pl c0:Bool} {c:Prop} {r:AV} {d:Option Nat} {is:List IOper}:GdK P E X pl (some c0) (some (c,r)) d is fr L K=((c0=true→c)∧qaa P E X is (Zg fr d (.g c0 r)) L K):=rfl
theorem qvZ:qaa P E X [] fr L K=K fr L:=rfl
theorem qan {d:Option Nat} {op:IOp} {is:List IOper} (h:isOp op=true):qaa P E X (⟨d,op,none⟩ :: is) fr L K=OpsK P E X (Ze d fr L op) is K:=by
 cases op<;>first|rfl|(simp [isOp] at h)
theorem qaF {d:Option Nat} {op:IOp} {is:List IOper} {s:Nat} {want:Bool} (h:isOp op=true):qaa P E X (⟨d,op,some (s,want)⟩ :: is) fr L K=GdK P E X (qbW op) (Zh fr s want) (Zf fr L op) d is fr L K:=by
 cases op<;>first|rfl|(simp [isOp] at h)
def qbf (P:Program) (E:Envt) (X:List PV) (q:Option (Prop×AV)) (d:Option Nat) (is:List IOper) (fr:List AV) (L:Objs) (K:List AV→Objs→Prop):Prop:=
 match q with
 |some (c,r)=>c∧qaa P E X is (Zg fr d r) L K
 |none=>False
theorem qqp {c:Prop} {r:AV} {d:Option Nat} {is:List IOper}:qbf P E X (some (c,r)) d is fr L K=(c∧qaa P E X is (Zg fr d r) L K):=rfl
theorem qak {op:IOp} {d:Option Nat} {is:List IOper} (h:Ze d fr L op=(Zf fr L op).map (fun q=>(q.1,Zg fr d q.2,L))):OpsK P E X (Ze d fr L op) is K=qbf P E X (Zf fr L op) d is fr L K:=by
 rw [h]
 cases Zf fr L op<;>rfl
theorem qyP {d:Option Nat} {is:List IOper} {_x}:qaa P E X (⟨d,.mov _x,none⟩ :: is) fr L K=qbf P E X (Zf fr L (.mov _x)) d is fr L K:=by rw [qan rfl];exact qak rfl
theorem qzy {d:Option Nat} {is:List IOper} {s:Nat} {want:Bool} {_x}:qaa P E X (⟨d,.mov _x,some (s,want)⟩ :: is) fr L K=GdK P E X true (Zh fr s want) (Zf fr L (.mov _x)) d is fr L K:=qaF rfl
theorem qxC {d:Option Nat} {is:List IOper} {_c} {_a} {_b}:qaa P E X (⟨d,.pick _c _a _b,none⟩ :: is) fr L K=qbf P E X (Zf fr L (.pick _c _a _b)) d is fr L K:=by rw [qan rfl];exact qak rfl
theorem qxW {d:Option Nat} {is:List IOper} {s:Nat} {want:Bool} {_c} {_a} {_b}:qaa P E X (⟨d,.pick _c _a _b,some (s,want)⟩ :: is) fr L K=GdK P E X true (Zh fr s want) (Zf fr L (.pick _c _a _b)) d is fr L K:=qaF rfl
theorem qzf {d:Option Nat} {is:List IOper} {_b} {_x} {_y}:qaa P E X (⟨d,.bin _b _x _y,none⟩ :: is) fr L K=qbf P E X (Zf fr L (.bin _b _x _y)) d is fr L K:=by rw [qan rfl];exact qak rfl
theorem qzR {d:Option Nat} {is:List IOper} {s:Nat} {want:Bool} {_b} {_x} {_y}:qaa P E X (⟨d,.bin _b _x _y,some (s,want)⟩ :: is) fr L K=GdK P E X true (Zh fr s want) (Zf fr L (.bin _b _x _y)) d is fr L K:=qaF rfl
theorem qzd {d:Option Nat} {is:List IOper} {_b} {_x} {_y}:qaa P E X (⟨d,.bnb _b _x _y,none⟩ :: is) fr L K=qbf P E X (Zf fr L (.bnb _b _x _y)) d is fr L K:=by rw [qan rfl];exact qak rfl
theorem qzP {d:Option Nat} {is:List IOper} {s:Nat} {want:Bool} {_b} {_x} {_y}:qaa P E X (⟨d,.bnb _b _x _y,some (s,want)⟩ :: is) fr L K=GdK P E X true (Zh fr s want) (Zf fr L (.bnb _b _x _y)) d is fr L K:=qaF rfl
theorem qy5 {d:Option Nat} {is:List IOper} {_n} {_k} {_x} {_y}:qaa P E X (⟨d,.eqa _n _k _x _y,none⟩ :: is) fr L K=qbf P E X (Zf fr L (.eqa _n _k _x _y)) d is fr L K:=by rw [qan rfl];exact qak rfl
theorem qzL {d:Option Nat} {is:List IOper} {s:Nat} {want:Bool} {_n} {_k} {_x} {_y}:qaa P E X (⟨d,.eqa _n _k _x _y,some (s,want)⟩ :: is) fr L K=GdK P E X true (Zh fr s want) (Zf fr L (.eqa _n _k _x _y)) d is fr L K:=qaF rfl
theorem qyG {d:Option Nat} {is:List IOper} {_x}:qaa P E X (⟨d,.not _x,none⟩ :: is) fr L K=qbf P E X (Zf fr L (.not _x)) d is fr L K:=by rw [qan rfl];exact qak rfl
theorem qzs {d:Option Nat} {is:List IOper} {s:Nat} {want:Bool} {_x}:qaa P E X (⟨d,.not _x,some (s,want)⟩ :: is) fr L K=GdK P E X true (Zh fr s want) (Zf fr L (.not _x)) d is fr L K:=qaF rfl
theorem qyI {d:Option Nat} {is:List IOper} {_x}:qaa P E X (⟨d,.neg _x,none⟩ :: is) fr L K=qbf P E X (Zf fr L (.neg _x)) d is fr L K:=by rw [qan rfl];exact qak rfl
theorem qzu {d:Option Nat} {is:List IOper} {s:Nat} {want:Bool} {_x}:qaa P E X (⟨d,.neg _x,some (s,want)⟩ :: is) fr L K=GdK P E X true (Zh fr s want) (Zf fr L (.neg _x)) d is fr L K:=qaF rfl
theorem qyV {d:Option Nat} {is:List IOper} {_x}:qaa P E X (⟨d,.len _x,none⟩ :: is) fr L K=qbf P E X (Zf fr L (.len _x)) d is fr L K:=by rw [qan rfl];exact qak rfl
theorem qzB {d:Option Nat} {is:List IOper} {s:Nat} {want:Bool} {_x}:qaa P E X (⟨d,.len _x,some (s,want)⟩ :: is) fr L K=GdK P E X true (Zh fr s want) (Zf fr L (.len _x)) d is fr L K:=qaF rfl
theorem qyD {d:Option Nat} {is:List IOper} {_x}:qaa P E X (⟨d,.sln _x,none⟩ :: is) fr L K=qbf P E X (Zf fr L (.sln _x)) d is fr L K:=by rw [qan rfl];exact qak rfl
theorem qzr {d:Option Nat} {is:List IOper} {s:Nat} {want:Bool} {_x}:qaa P E X (⟨d,.sln _x,some (s,want)⟩ :: is) fr L K=GdK P E X true (Zh fr s want) (Zf fr L (.sln _x)) d is fr L K:=qaF rfl
theorem o_mx {d:Option Nat} {is:List IOper} {_x} {_y}:qaa P E X (⟨d,.mx _x _y,none⟩ :: is) fr L K=qbf P E X (Zf fr L (.mx _x _y)) d is fr L K:=by rw [qan rfl];exact qak rfl
theorem g_mx {d:Option Nat} {is:List IOper} {s:Nat} {want:Bool} {_x} {_y}:qaa P E X (⟨d,.mx _x _y,some (s,want)⟩ :: is) fr L K=GdK P E X true (Zh fr s want) (Zf fr L (.mx _x _y)) d is fr L K:=qaF rfl
theorem o_mn {d:Option Nat} {is:List IOper} {_x} {_y}:qaa P E X (⟨d,.mn _x _y,none⟩ :: is) fr L K=qbf P E X (Zf fr L (.mn _x _y)) d is fr L K:=by rw [qan rfl];exact qak rfl
theorem g_mn {d:Option Nat} {is:List IOper} {s:Nat} {want:Bool} {_x} {_y}:qaa P E X (⟨d,.mn _x _y,some (s,want)⟩ :: is) fr L K=GdK P E X true (Zh fr s want) (Zf fr L (.mn _x _y)) d is fr L K:=qaF rfl
theorem qy1 {d:Option Nat} {is:List IOper} {_x} {_y}:qaa P E X (⟨d,.idx _x _y,none⟩ :: is) fr L K=qbf P E X (Zf fr L (.idx _x _y)) d is fr L K:=by rw [qan rfl];exact qak rfl
theorem qzH {d:Option Nat} {is:List IOper} {s:Nat} {want:Bool} {_x} {_y}:qaa P E X (⟨d,.idx _x _y,some (s,want)⟩ :: is) fr L K=GdK P E X true (Zh fr s want) (Zf fr L (.idx _x _y)) d is fr L K:=qaF rfl
theorem qyC {d:Option Nat} {is:List IOper} {_x} {_l} {_h}:qaa P E X (⟨d,.ssl _x _l _h,none⟩ :: is) fr L K=qbf P E X (Zf fr L (.ssl _x _l _h)) d is fr L K:=by rw [qan rfl];exact qak rfl
theorem qzq {d:Option Nat} {is:List IOper} {s:Nat} {want:Bool} {_x} {_l} {_h}:qaa P E X (⟨d,.ssl _x _l _h,some (s,want)⟩ :: is) fr L K=GdK P E X true (Zh fr s want) (Zf fr L (.ssl _x _l _h)) d is fr L K:=qaF rfl
theorem qyy {d:Option Nat} {is:List IOper} {_z} {_x} {_l} {_h}:qaa P E X (⟨d,.vsl _z _x _l _h,none⟩ :: is) fr L K=qbf P E X (Zf fr L (.vsl _z _x _l _h)) d is fr L K:=by rw [qan rfl];exact qak rfl
theorem qzp {d:Option Nat} {is:List IOper} {s:Nat} {want:Bool} {_z} {_x} {_l} {_h}:qaa P E X (⟨d,.vsl _z _x _l _h,some (s,want)⟩ :: is) fr L K=GdK P E X true (Zh fr s want) (Zf fr L (.vsl _z _x _l _h)) d is fr L K:=qaF rfl
theorem qy0 {d:Option Nat} {is:List IOper} {_z} {_x} {_y}:qaa P E X (⟨d,.ixa _z _x _y,none⟩ :: is) fr L K=qbf P E X (Zf fr L (.ixa _z _x _y)) d is fr L K:=by rw [qan rfl];exact qak rfl
theorem qzG {d:Option Nat} {is:List IOper} {s:Nat} {want:Bool} {_z} {_x} {_y}:qaa P E X (⟨d,.ixa _z _x _y,some (s,want)⟩ :: is) fr L K=GdK P E X true (Zh fr s want) (Zf fr L (.ixa _z _x _y)) d is fr L K:=qaF rfl
theorem qy3 {d:Option Nat} {is:List IOper} {_o} {_x}:qaa P E X (⟨d,.fla _o _x,none⟩ :: is) fr L K=qbf P E X (Zf fr L (.fla _o _x)) d is fr L K:=by rw [qan rfl];exact qak rfl
theorem qzJ {d:Option Nat} {is:List IOper} {s:Nat} {want:Bool} {_o} {_x}:qaa P E X (⟨d,.fla _o _x,some (s,want)⟩ :: is) fr L K=GdK P E X true (Zh fr s want) (Zf fr L (.fla _o _x)) d is fr L K:=qaF rfl
theorem qy2 {d:Option Nat} {is:List IOper} {_o} {_s} {_a} {_x}:qaa P E X (⟨d,.fld _o _s _a _x,none⟩ :: is) fr L K=qbf P E X (Zf fr L (.fld _o _s _a _x)) d is fr L K:=by rw [qan rfl];exact qak rfl
theorem qzI {d:Option Nat} {is:List IOper} {s:Nat} {want:Bool} {_o} {_s} {_a} {_x}:qaa P E X (⟨d,.fld _o _s _a _x,some (s,want)⟩ :: is) fr L K=GdK P E X true (Zh fr s want) (Zf fr L (.fld _o _s _a _x)) d is fr L K:=qaF rfl
theorem o_ld {d:Option Nat} {is:List IOper} {_s} {_a} {_x}:qaa P E X (⟨d,.ld _s _a _x,none⟩ :: is) fr L K=qbf P E X (Zf fr L (.ld _s _a _x)) d is fr L K:=by rw [qan rfl];exact qak rfl
theorem g_ld {d:Option Nat} {is:List IOper} {s:Nat} {want:Bool} {_s} {_a} {_x}:qaa P E X (⟨d,.ld _s _a _x,some (s,want)⟩ :: is) fr L K=GdK P E X true (Zh fr s want) (Zf fr L (.ld _s _a _x)) d is fr L K:=qaF rfl
theorem qyW {d:Option Nat} {is:List IOper} {_n} {_s} {_a} {_x}:qaa P E X (⟨d,.ldn _n _s _a _x,none⟩ :: is) fr L K=qbf P E X (Zf fr L (.ldn _n _s _a _x)) d is fr L K:=by rw [qan rfl];exact qak rfl
theorem qzC {d:Option Nat} {is:List IOper} {s:Nat} {want:Bool} {_n} {_s} {_a} {_x}:qaa P E X (⟨d,.ldn _n _s _a _x,some (s,want)⟩ :: is) fr L K=GdK P E X false (Zh fr s want) (Zf fr L (.ldn _n _s _a _x)) d is fr L K:=qaF rfl
theorem qyX {d:Option Nat} {is:List IOper} {_s} {_a} {_x}:qaa P E X (⟨d,.ldl _s _a _x,none⟩ :: is) fr L K=qbf P E X (Zf fr L (.ldl _s _a _x)) d is fr L K:=by rw [qan rfl];exact qak rfl
theorem qzD {d:Option Nat} {is:List IOper} {s:Nat} {want:Bool} {_s} {_a} {_x}:qaa P E X (⟨d,.ldl _s _a _x,some (s,want)⟩ :: is) fr L K=GdK P E X false (Zh fr s want) (Zf fr L (.ldl _s _a _x)) d is fr L K:=qaF rfl
theorem qy4 {d:Option Nat} {is:List IOper} {_i} {_x}:qaa P E X (⟨d,.ext _i _x,none⟩ :: is) fr L K=qbf P E X (Zf fr L (.ext _i _x)) d is fr L K:=by rw [qan rfl];exact qak rfl
theorem qzK {d:Option Nat} {is:List IOper} {s:Nat} {want:Bool} {_i} {_x}:qaa P E X (⟨d,.ext _i _x,some (s,want)⟩ :: is) fr L K=GdK P E X true (Zh fr s want) (Zf fr L (.ext _i _x)) d is fr L K:=qaF rfl
theorem qze {d:Option Nat} {is:List IOper} {_z} {_p}:qaa P E X (⟨d,.bld _z _p,none⟩ :: is) fr L K=qbf P E X (Zf fr L (.bld _z _p)) d is fr L K:=by rw [qan rfl];exact qak rfl
theorem qzQ {d:Option Nat} {is:List IOper} {s:Nat} {want:Bool} {_z} {_p}:qaa P E X (⟨d,.bld _z _p,some (s,want)⟩ :: is) fr L K=GdK P E X true (Zh fr s want) (Zf fr L (.bld _z _p)) d is fr L K:=qaF rfl
theorem qy8 {d:Option Nat} {is:List IOper} {_k} {_x}:qaa P E X (⟨d,.cvi _k _x,none⟩ :: is) fr L K=qbf P E X (Zf fr L (.cvi _k _x)) d is fr L K:=by rw [qan rfl];exact qak rfl
theorem qzN {d:Option Nat} {is:List IOper} {s:Nat} {want:Bool} {_k} {_x}:qaa P E X (⟨d,.cvi _k _x,some (s,want)⟩ :: is) fr L K=GdK P E X true (Zh fr s want) (Zf fr L (.cvi _k _x)) d is fr L K:=qaF rfl
theorem qy7 {d:Option Nat} {is:List IOper} {_x}:qaa P E X (⟨d,.cvs _x,none⟩ :: is) fr L K=qbf P E X (Zf fr L (.cvs _x)) d is fr L K:=by rw [qan rfl];exact qak rfl
theorem qzM {d:Option Nat} {is:List IOper} {s:Nat} {want:Bool} {_x}:qaa P E X (⟨d,.cvs _x,some (s,want)⟩ :: is) fr L K=GdK P E X true (Zh fr s want) (Zf fr L (.cvs _x)) d is fr L K:=qaF rfl
theorem qzg {d:Option Nat} {is:List IOper} {_x}:qaa P E X (⟨d,.b2s _x,none⟩ :: is) fr L K=qbf P E X (Zf fr L (.b2s _x)) d is fr L K:=by rw [qan rfl];exact qak rfl
theorem qzS {d:Option Nat} {is:List IOper} {s:Nat} {want:Bool} {_x}:qaa P E X (⟨d,.b2s _x,some (s,want)⟩ :: is) fr L K=GdK P E X true (Zh fr s want) (Zf fr L (.b2s _x)) d is fr L K:=qaF rfl
theorem qzb {d:Option Nat} {is:List IOper} {_z} {_p}:qaa P E X (⟨d,.bsl _z _p,none⟩ :: is) fr L K=qbf P E X (Zf fr L (.bsl _z _p)) d is fr L K:=by rw [qan rfl];exact qak rfl
theorem qzO {d:Option Nat} {is:List IOper} {s:Nat} {want:Bool} {_z} {_p}:qaa P E X (⟨d,.bsl _z _p,some (s,want)⟩ :: is) fr L K=GdK P E X true (Zh fr s want) (Zf fr L (.bsl _z _p)) d is fr L K:=qaF rfl
theorem qyJ {d:Option Nat} {is:List IOper} {_x}:qaa P E X (⟨d,.nck _x,none⟩ :: is) fr L K=qbf P E X (Zf fr L (.nck _x)) d is fr L K:=by rw [qan rfl];exact qak rfl
theorem qzv {d:Option Nat} {is:List IOper} {s:Nat} {want:Bool} {_x}:qaa P E X (⟨d,.nck _x,some (s,want)⟩ :: is) fr L K=GdK P E X true (Zh fr s want) (Zf fr L (.nck _x)) d is fr L K:=qaF rfl
theorem qyH {d:Option Nat} {is:List IOper} {_n} {_x}:qaa P E X (⟨d,.nli _n _x,none⟩ :: is) fr L K=qbf P E X (Zf fr L (.nli _n _x)) d is fr L K:=by rw [qan rfl];exact qak rfl
theorem qyT {d:Option Nat} {is:List IOper} {_n} {_x}:qaa P E X (⟨d,.mki _n _x,none⟩ :: is) fr L K=qbf P E X (Zf fr L (.mki _n _x)) d is fr L K:=by rw [qan rfl];exact qak rfl
theorem qzt {d:Option Nat} {is:List IOper} {s:Nat} {want:Bool} {_n} {_x}:qaa P E X (⟨d,.nli _n _x,some (s,want)⟩ :: is) fr L K=GdK P E X true (Zh fr s want) (Zf fr L (.nli _n _x)) d is fr L K:=qaF rfl
theorem qzz {d:Option Nat} {is:List IOper} {s:Nat} {want:Bool} {_n} {_x}:qaa P E X (⟨d,.mki _n _x,some (s,want)⟩ :: is) fr L K=GdK P E X true (Zh fr s want) (Zf fr L (.mki _n _x)) d is fr L K:=qaF rfl
theorem qyU {d:Option Nat} {is:List IOper} {_f} {_c}:qaa P E X (⟨d,.mkf _f _c,none⟩ :: is) fr L K=qbf P E X (Zf fr L (.mkf _f _c)) d is fr L K:=by rw [qan rfl];exact qak rfl
theorem qzA {d:Option Nat} {is:List IOper} {s:Nat} {want:Bool} {_f} {_c}:qaa P E X (⟨d,.mkf _f _c,some (s,want)⟩ :: is) fr L K=GdK P E X true (Zh fr s want) (Zf fr L (.mkf _f _c)) d is fr L K:=qaF rfl
theorem qxG {d:Option Nat} {is:List IOper} {_x}:qaa P E X (⟨d,.cap0 _x,none⟩ :: is) fr L K=qbf P E X (Zf fr L (.cap0 _x)) d is fr L K:=by rw [qan rfl];exact qak rfl
theorem qxY {d:Option Nat} {is:List IOper} {s:Nat} {want:Bool} {_x}:qaa P E X (⟨d,.cap0 _x,some (s,want)⟩ :: is) fr L K=GdK P E X true (Zh fr s want) (Zf fr L (.cap0 _x)) d is fr L K:=qaF rfl
theorem qyx {d:Option Nat} {is:List IOper} {_x} {_h}:qaa P E X (⟨d,.vsn _x _h,none⟩ :: is) fr L K=qbf P E X (Zf fr L (.vsn _x _h)) d is fr L K:=by rw [qan rfl];exact qak rfl
theorem qzo {d:Option Nat} {is:List IOper} {s:Nat} {want:Bool} {_x} {_h}:qaa P E X (⟨d,.vsn _x _h,some (s,want)⟩ :: is) fr L K=GdK P E X true (Zh fr s want) (Zf fr L (.vsn _x _h)) d is fr L K:=qaF rfl
theorem qyM {d:Option Nat} {is:List IOper} {_o} {_z} {_x} {_h}:qaa P E X (⟨d,.mpl _o _z _x _h,none⟩ :: is) fr L K=qbf P E X (Zf fr L (.mpl _o _z _x _h)) d is fr L K:=by rw [qan rfl];exact qak rfl
theorem qzx {d:Option Nat} {is:List IOper} {s:Nat} {want:Bool} {_o} {_z} {_x} {_h}:qaa P E X (⟨d,.mpl _o _z _x _h,some (s,want)⟩ :: is) fr L K=GdK P E X true (Zh fr s want) (Zf fr L (.mpl _o _z _x _h)) d is fr L K:=qaF rfl
theorem qyZ {d:Option Nat} {is:List IOper} {_z} {_m} {_x} {_h}:qaa P E X (⟨d,.ixv _z _m _x _h,none⟩ :: is) fr L K=qbf P E X (Zf fr L (.ixv _z _m _x _h)) d is fr L K:=by rw [qan rfl];exact qak rfl
theorem qzF {d:Option Nat} {is:List IOper} {s:Nat} {want:Bool} {_z} {_m} {_x} {_h}:qaa P E X (⟨d,.ixv _z _m _x _h,some (s,want)⟩ :: is) fr L K=GdK P E X true (Zh fr s want) (Zf fr L (.ixv _z _m _x _h)) d is fr L K:=qaF rfl
theorem qzh {d:Option Nat} {is:List IOper} {_m} {_x} {_h}:qaa P E X (⟨d,.asl _m _x _h,none⟩ :: is) fr L K=qbf P E X (Zf fr L (.asl _m _x _h)) d is fr L K:=by rw [qan rfl];exact qak rfl
theorem qzT {d:Option Nat} {is:List IOper} {s:Nat} {want:Bool} {_m} {_x} {_h}:qaa P E X (⟨d,.asl _m _x _h,some (s,want)⟩ :: is) fr L K=GdK P E X true (Zh fr s want) (Zf fr L (.asl _m _x _h)) d is fr L K:=qaF rfl
theorem qxF {d:Option Nat} {is:List IOper} {_o} {_k} {_z} {_x} {_h}:qaa P E X (⟨d,.mplk _o _k _z _x _h,none⟩ :: is) fr L K=qbf P E X (Zf fr L (.mplk _o _k _z _x _h)) d is fr L K:=by rw [qan rfl];exact qak rfl
theorem qxX {d:Option Nat} {is:List IOper} {s:Nat} {want:Bool} {_o} {_k} {_z} {_x} {_h}:qaa P E X (⟨d,.mplk _o _k _z _x _h,some (s,want)⟩ :: is) fr L K=GdK P E X true (Zh fr s want) (Zf fr L (.mplk _o _k _z _x _h)) d is fr L K:=qaF rfl
theorem qyL {d:Option Nat} {is:List IOper} {_x}:qaa P E X (⟨d,.mpn _x,none⟩ :: is) fr L K=qbf P E X (Zf fr L (.mpn _x)) d is fr L K:=by rw [qan rfl];exact qak rfl
theorem qzw {d:Option Nat} {is:List IOper} {s:Nat} {want:Bool} {_x}:qaa P E X (⟨d,.mpn _x,some (s,want)⟩ :: is) fr L K=GdK P E X true (Zh fr s want) (Zf fr L (.mpn _x)) d is fr L K:=qaF rfl
theorem qxI {d:Option Nat} {is:List IOper} {_z} {_p}:qaa P E X (⟨d,.bldg _z _p,none⟩ :: is) fr L K=qbf P E X (Zf fr L (.bldg _z _p)) d is fr L K:=by rw [qan rfl];exact qak rfl
theorem qxZ {d:Option Nat} {is:List IOper} {s:Nat} {want:Bool} {_z} {_p}:qaa P E X (⟨d,.bldg _z _p,some (s,want)⟩ :: is) fr L K=GdK P E X true (Zh fr s want) (Zf fr L (.bldg _z _p)) d is fr L K:=qaF rfl
theorem qyY {d:Option Nat} {is:List IOper} {_s} {_x}:qaa P E X (⟨d,.ldg _s _x,none⟩ :: is) fr L K=qbf P E X (Zf fr L (.ldg _s _x)) d is fr L K:=by rw [qan rfl];exact qak rfl
theorem qzE {d:Option Nat} {is:List IOper} {s:Nat} {want:Bool} {_s} {_x}:qaa P E X (⟨d,.ldg _s _x,some (s,want)⟩ :: is) fr L K=GdK P E X true (Zh fr s want) (Zf fr L (.ldg _s _x)) d is fr L K:=qaF rfl
theorem qyB {d:Option Nat} {is:List IOper} {_s} {_p} {_x}:qaa P E X (⟨d,.stg _s _p _x,none⟩ :: is) fr L K=OpsK P E X (Ze d fr L (.stg _s _p _x)) is K:=qan rfl
theorem qxJ {d:Option Nat} {is:List IOper} {_t} {_z}:qaa P E X (⟨d,.alcd _t _z,none⟩ :: is) fr L K=OpsK P E X (Ze d fr L (.alcd _t _z)) is K:=qan rfl
theorem qxH {d:Option Nat} {is:List IOper} {_e} {_z} {_p}:qaa P E X (⟨d,.bsrd _e _z _p,none⟩ :: is) fr L K=OpsK P E X (Ze d fr L (.bsrd _e _z _p)) is K:=qan rfl
def IsnK (P:Program) (E:Envt) (X:List PV) (c:Prop) (q:Option (Nat×List (List PV))) (d:Option Nat) (is:List IOper) (fr:List AV) (L:Objs) (K:List AV→Objs→Prop):Prop:=
 match q with
 |some (_,es)=>c∧∀ b:Bool,(b=true→es=[])→qaa P E X is (Zg fr d (.p (.bool b))) L K
 |none=>False
theorem qsw {c:Prop} {z:Nat} {es:List (List PV)} {d:Option Nat} {is:List IOper}:IsnK P E X c (some (z,es)) d is fr L K=(c∧∀ b:Bool,(b=true→es=[])→qaa P E X is (Zg fr d (.p (.bool b))) L K):=rfl
theorem qv0 {x:Opd} {d:Option Nat} {is:List IOper}:qaa P E X (⟨d,.isn x,none⟩ :: is) fr L K=IsnK P E X (rd fr x).un.1 (Zw L (rd fr x).un.2) d is fr L K:=rfl
def NxtK (P:Program) (E:Envt) (X:List PV) (c:Prop) (q:Option (Key×List (List UInt8×PV))) (d:Option Nat) (is:List IOper) (fr:List AV) (L:Objs) (K:List AV→Objs→Prop):Prop:=
 match q with
 |some (k,kv)=>c∧(kv=[]→qaa P E X is (Zg fr d (.p (.tup [.bool false]))) L K)∧∀ (i:Nat) (p:List UInt8×PV),kv[i]?=some p→qaa P E X is (Zg fr d (.p (.tup [.bool true,.str p.1,p.2]))) (Zat L k (.mit (some p) (kv.eraseIdx i))) K
 |none=>False
theorem qvY {x:Opd} {d:Option Nat} {is:List IOper}:qaa P E X (⟨d,.nxt x,none⟩ :: is) fr L K=NxtK P E X (rd fr x).un.1 (Za fr L x) d is fr L K:=rfl
def ReC (P:Program) (E:Envt) (X:List PV) (is:List IOper) (fr:List AV) (L:Objs) (K:List AV→Objs→Prop):Prop:=∃ fr' L',ReOk E fr L fr' L'∧qaa P E X is fr' L' K
theorem qky {is:List IOper}:qaa P E X (⟨none,.re,none⟩ :: is) fr L K=ReC P E X is fr L K:=rfl
theorem qtn {x:Nat} {is:List IOper}:qaa P E X (⟨none,.hole x,none⟩ :: is) fr L K=qaa P E X is ((fr.map (·.kill (.l x))).set x .any) (Zav L (.l x) Zan) K:=rfl
theorem qyR {d:Option Nat} {is:List IOper} {_t} {_z}:qaa P E X (⟨d,.mkm _t _z,none⟩ :: is) fr L K=OpsK P E X (Ze d fr L (.mkm _t _z)) is K:=qan rfl
theorem qyF {d:Option Nat} {is:List IOper} {_x}:qaa P E X (⟨d,.rng _x,none⟩ :: is) fr L K=OpsK P E X (Ze d fr L (.rng _x)) is K:=qan rfl
theorem qy6 {d:Option Nat} {is:List IOper} {_x}:qaa P E X (⟨d,.ent _x,none⟩ :: is) fr L K=OpsK P E X (Ze d fr L (.ent _x)) is K:=qan rfl
theorem qyO {d:Option Nat} {is:List IOper} {_m} {_k}:qaa P E X (⟨d,.mpd _m _k,none⟩ :: is) fr L K=OpsK P E X (Ze d fr L (.mpd _m _k)) is K:=qan rfl
theorem qy9 {d:Option Nat} {is:List IOper} {_z} {_x} {_y}:qaa P E X (⟨d,.cpy _z _x _y,none⟩ :: is) fr L K=OpsK P E X (Ze d fr L (.cpy _z _x _y)) is K:=qan rfl
theorem qyK {d:Option Nat} {is:List IOper} {_m} {_k} {_v}:qaa P E X (⟨d,.mpu _m _k _v,none⟩ :: is) fr L K=OpsK P E X (Ze d fr L (.mpu _m _k _v)) is K:=qan rfl
theorem qyS {d:Option Nat} {is:List IOper} {_k} {_t} {_z}:qaa P E X (⟨d,.mkk _k _t _z,none⟩ :: is) fr L K=OpsK P E X (Ze d fr L (.mkk _k _t _z)) is K:=qan rfl
theorem qxE {d:Option Nat} {is:List IOper} {_q} {_m} {_k} {_v}:qaa P E X (⟨d,.mpuk _q _m _k _v,none⟩ :: is) fr L K=OpsK P E X (Ze d fr L (.mpuk _q _m _k _v)) is K:=qan rfl
theorem qzj {d:Option Nat} {is:List IOper} {_e} {_x} {_y}:qaa P E X (⟨d,.aps _e _x _y,none⟩ :: is) fr L K=OpsK P E X (Ze d fr L (.aps _e _x _y)) is K:=qan rfl
theorem qzi {d:Option Nat} {is:List IOper} {_e} {_z} {_b} {_o} {_x} {_y}:qaa P E X (⟨d,.apz _e _z _b _o _x _y,none⟩ :: is) fr L K=OpsK P E X (Ze d fr L (.apz _e _z _b _o _x _y)) is K:=qan rfl
theorem qyz {d:Option Nat} {is:List IOper} {_z} {_x} {_y}:qaa P E X (⟨d,.trn _z _x _y,none⟩ :: is) fr L K=OpsK P E X (Ze d fr L (.trn _z _x _y)) is K:=qan rfl
theorem qyQ {d:Option Nat} {is:List IOper} {_e} {_z} {_b} {_o} {_x} {_y}:qaa P E X (⟨d,.mks _e _z _b _o _x _y,none⟩ :: is) fr L K=OpsK P E X (Ze d fr L (.mks _e _z _b _o _x _y)) is K:=qan rfl
theorem qxD {d:Option Nat} {is:List IOper} {_e} {_z}:qaa P E X (⟨d,.nilr _e _z,none⟩ :: is) fr L K=OpsK P E X (Ze d fr L (.nilr _e _z)) is K:=qan rfl
theorem qzl {d:Option Nat} {is:List IOper} {_t} {_z}:qaa P E X (⟨d,.alc _t _z,none⟩ :: is) fr L K=OpsK P E X (Ze d fr L (.alc _t _z)) is K:=qan rfl
theorem qzc {d:Option Nat} {is:List IOper} {_t} {_x}:qaa P E X (⟨d,.box _t _x,none⟩ :: is) fr L K=OpsK P E X (Ze d fr L (.box _t _x)) is K:=qan rfl
theorem qyA {d:Option Nat} {is:List IOper} {_n} {_s} {_p} {_x}:qaa P E X (⟨d,.stk _n _s _p _x,none⟩ :: is) fr L K=OpsK P E X (Ze d fr L (.stk _n _s _p _x)) is K:=qan rfl
theorem qyN {d:Option Nat} {is:List IOper} {_n} {_m} {_k} {_v}:qaa P E X (⟨d,.mpk _n _m _k _v,none⟩ :: is) fr L K=OpsK P E X (Ze d fr L (.mpk _n _m _k _v)) is K:=qan rfl
theorem o_st {d:Option Nat} {is:List IOper} {_s} {_p} {_x}:qaa P E X (⟨d,.st _s _p _x,none⟩ :: is) fr L K=OpsK P E X (Ze d fr L (.st _s _p _x)) is K:=qan rfl
theorem qzk {d:Option Nat} {is:List IOper} {_e} {_z} {_b} {_x} {_y}:qaa P E X (⟨d,.app _e _z _b _x _y,none⟩ :: is) fr L K=OpsK P E X (Ze d fr L (.app _e _z _b _x _y)) is K:=qan rfl
theorem qza {d:Option Nat} {is:List IOper} {_e} {_z} {_p}:qaa P E X (⟨d,.bsr _e _z _p,none⟩ :: is) fr L K=OpsK P E X (Ze d fr L (.bsr _e _z _p)) is K:=qan rfl
theorem qyE {d:Option Nat} {is:List IOper} {_e} {_x}:qaa P E X (⟨d,.s2b _e _x,none⟩ :: is) fr L K=OpsK P E X (Ze d fr L (.s2b _e _x)) is K:=qan rfl
theorem qto {d:Option Nat} {f:FuncId} {args:List Opd} {is:List IOper}:qaa P E X (⟨d,.call f args,none⟩ :: is) fr L K=(Zm fr args∧qa5 P E f (Zn fr args) L d fr (qcV P E X is K)):=rfl
def FnK (P:Program) (E:Envt) (X:List PV) (o:Option (FuncId×List AV)) (c:Prop) (d:Option Nat) (args:List Opd) (is:List IOper) (fr:List AV) (L:Objs) (K:List AV→Objs→Prop):Prop:=
 match o with
 |some (f,ks)=>c∧fnB P f=true∧Zl L ks=true∧Zm fr args∧qa5 P E f (Zn fr args++ks) L d fr (qcV P E X is K)
 |none=>False
theorem quA {f:FuncId} {ks:List AV} {c:Prop} {d:Option Nat} {args:List Opd} {is:List IOper}:FnK P E X (some (f,ks)) c d args is fr L K=(c∧fnB P f=true∧Zl L ks=true∧Zm fr args∧qa5 P E f (Zn fr args++ks) L d fr (qcV P E X is K)):=rfl
theorem qrn {d:Option Nat} {g:Opd} {args:List Opd} {is:List IOper}:qaa P E X (⟨d,.callv g args,none⟩ :: is) fr L K=FnK P E X (Zar fr g) (rd fr g).un.1 d args is fr L K:=by
 cases h:Zar fr g with
 |none=>simp only [qaa,FnK,h]
 |some q=>obtain ⟨f,ks⟩:=q;simp only [qaa,FnK,h];rfl
def FnG (P:Program) (E:Envt) (X:List PV) (o:Option (FuncId×List AV)) (c0:Bool) (c:Prop) (d:Option Nat) (args:List Opd) (is:List IOper) (fr:List AV) (L:Objs) (K:List AV→Objs→Prop):Prop:=
 match o with
 |some (f,ks)=>(fnB P f=true∧Zl L ks=true)∧(c0=true→c∧Zm fr args)∧qoY c0 P E f (Zn fr args++ks) L d fr (qcV P E X is K)
 |none=>c0=false∧qaa P E X is (Zg fr d (.g c0 .any)) L K
theorem quB {f:FuncId} {ks:List AV} {c0:Bool} {c:Prop} {d:Option Nat} {args:List Opd} {is:List IOper}:FnG P E X (some (f,ks)) c0 c d args is fr L K=((fnB P f=true∧Zl L ks=true)∧(c0=true→c∧Zm fr args)∧qoY c0 P E f (Zn fr args++ks) L d fr (qcV P E X is K)):=rfl
theorem qp6 {d:Option Nat} {g:Opd} {args:List Opd} {is:List IOper} {s:Nat} {want:Bool}:qaa P E X (⟨d,.callv g args,some (s,want)⟩ :: is) fr L K=(match Zh fr s want with|some c0=>FnG P E X (Zar fr g) c0 (rd fr g).un.1 d args is fr L K|none=>False):=by
 simp only [qaa]
 cases Zh fr s want with
 |none=>rfl
 |some c0=>cases h:Zar fr g with
  |none=>rfl
  |some q=>obtain ⟨f,ks⟩:=q;rfl
theorem qrm {b:Bool} {d:Option Nat} {f:FuncId} {args:List Opd} {is:List IOper}:qaa P E X (⟨d,.dcall b f args,none⟩ :: is) fr L K=(Zm fr args∧DCallOp b P E f (Zn fr args) L d fr (qcV P E X is K)):=rfl
def PcK (P:Program) (E:Envt) (f:FuncId) (as:List AV) (L:Objs) (x:PV):Prop:=qg5 P E f as L (·=x)
def FclK (P:Program) (E:Envt) (X:List PV) (f:FuncId) (e z:Nat) (K:List AV→Objs→Prop) (is:List IOper) (fr:List AV) (L:Objs) (d:Nat) (c:Prop):Option (List PV)→PV→Prop
 |some ps,.sl z' es=>((Zam d fr L∧Zas L (.l d)=some Zan)∧c∧z'=z∧FrC P E f ps e z es)∧qaa P E X is (fr.set d (.row (.l d))) (Zat L (.l d) (.row es e z true)) K
 |_,_=>False
theorem qv1 {d:Nat} {n:Nat} {f:FuncId} {args:List Opd} {e z:Nat} {is:List IOper}:qaa P E X (⟨some d,.fcl n f args e z,none⟩ :: is) fr L K=FclK P E X f e z K is fr L d (Zm fr args) (qdn (Zn fr args)) (X.getD n (.bool false)):=by
 simp only [qaa]
 unfold FclK
 cases qdn (Zn fr args) with
 |none=>rfl
 |some ps=>cases X.getD n (.bool false)<;>rfl
theorem qsl:qdn []=some []:=rfl
theorem qwY {x:PV} {r:List AV}:qdn (.p x :: r)=(qdn r).map (x :: ·):=rfl
theorem qsz {f:FuncId} {e z z':Nat} {is:List IOper} {d:Nat} {c:Prop} {ps:List PV} {es:List (List PV)}:FclK P E X f e z K is fr L d c (some ps) (.sl z' es)=(((Zam d fr L∧Zas L (.l d)=some Zan)∧c∧z'=z∧FrC P E f ps e z es)∧qaa P E X is (fr.set d (.row (.l d))) (Zat L (.l d) (.row es e z true)) K):=rfl
theorem qrl {d:Option Nat} {n:Nat} {f:FuncId} {args:List Opd} {is:List IOper}:qaa P E X (⟨d,.pcall n f args,none⟩ :: is) fr L K=((Zm fr args∧PcK P E f (Zn fr args) L (X.getD n (.bool false)))∧qaa P E X is (Zg fr d (.p (X.getD n (.bool false)))) L K):=rfl
theorem qp5 {d:Option Nat} {n:Nat} {f:FuncId} {args:List Opd} {is:List IOper} {s:Nat} {want:Bool}:qaa P E X (⟨d,.pcall n f args,some (s,want)⟩ :: is) fr L K=(match Zh fr s want with|some c0=>(c0=true→Zm fr args∧PcK P E f (Zn fr args) L (X.getD n (.bool false)))∧qaa P E X is (Zg fr d (.g c0 (.p (X.getD n (.bool false))))) L K|none=>False):=rfl
def PclK (P:Program) (E:Envt) (X:List PV) (f:FuncId) (c:Prop) (o:Option (List PV)) (r:PV) (d:Option Nat) (is:List IOper) (fr:List AV) (L:Objs) (K:List AV→Objs→Prop):Prop:=
 match o with
 |some ps=>(c∧∀ L',PcK P E f (ps.map .p) L' r)∧qaa P E X is (Zg fr d (.p r)) L K
 |none=>False
theorem qss {f:FuncId} {c:Prop} {ps:List PV} {r:PV} {d:Option Nat} {is:List IOper}:PclK P E X f c (some ps) r d is fr L K=((c∧∀ L',PcK P E f (ps.map .p) L' r)∧qaa P E X is (Zg fr d (.p r)) L K):=rfl
theorem qvX {d:Option Nat} {n:Nat} {f:FuncId} {args:List Opd} {is:List IOper}:qaa P E X (⟨d,.pcl n f args,none⟩ :: is) fr L K=PclK P E X f (Zm fr args) (qdn (Zn fr args)) (X.getD n (.bool false)) d is fr L K:=by
 cases h:qdn (Zn fr args) with
 |none=>simp only [qaa,PclK,h]
 |some q=>simp only [qaa,PclK,h];rfl
def PvK (P:Program) (E:Envt) (X:List PV) (o:Option (FuncId×List AV)) (c:Prop) (n:Nat) (d:Option Nat) (args:List Opd) (is:List IOper) (fr:List AV) (L:Objs) (K:List AV→Objs→Prop):Prop:=
 match o with
 |some (f,ks)=>(c∧fnB P f=true∧Zl L ks=true∧Zm fr args∧PcK P E f (Zn fr args++ks) L (X.getD n (.bool false)))∧qaa P E X is (Zg fr d (.p (X.getD n (.bool false)))) L K
 |none=>False
theorem qtm {f:FuncId} {ks:List AV} {c:Prop} {n:Nat} {d:Option Nat} {args:List Opd} {is:List IOper}:PvK P E X (some (f,ks)) c n d args is fr L K=((c∧fnB P f=true∧Zl L ks=true∧Zm fr args∧PcK P E f (Zn fr args++ks) L (X.getD n (.bool false)))∧qaa P E X is (Zg fr d (.p (X.getD n (.bool false)))) L K):=rfl
theorem qvW {d:Option Nat} {n:Nat} {g:Opd} {args:List Opd} {is:List IOper}:qaa P E X (⟨d,.pcv n g args,none⟩ :: is) fr L K=PvK P E X (Zar fr g) (rd fr g).un.1 n d args is fr L K:=by
 cases h:Zar fr g with
 |none=>simp only [qaa,PvK,h]
 |some q=>obtain ⟨f,ks⟩:=q;simp only [qaa,PvK,h];rfl
theorem qro {d:Option Nat} {f:FuncId} {args:List Opd} {is:List IOper} {s:Nat} {want:Bool}:qaa P E X (⟨d,.call f args,some (s,want)⟩ :: is) fr L K=(match Zh fr s want with|some c0=>(c0=true→Zm fr args)∧qoY c0 P E f (Zn fr args) L d fr (qcV P E X is K)|none=>False):=rfl
def FzK (P:Program) (E:Envt) (X:List PV) (q:Option (Key×PV)) (is:List IOper) (fr:List AV) (L:Objs) (K:List AV→Objs→Prop):Prop:=
 match q with
 |some (k,y)=>qaa P E X is (fr.map (·.thaw k y)) (Zaw k y L) K
 |none=>qaa P E X is fr L K
theorem quy {k:Key} {y:PV} {is:List IOper}:FzK P E X (some (k,y)) is fr L K=qaa P E X is (fr.map (·.thaw k y)) (Zaw k y L) K:=rfl
theorem quz {is:List IOper}:FzK P E X none is fr L K=qaa P E X is fr L K:=rfl
theorem qxB {x:Opd} {is:List IOper}:qaa P E X (⟨none,.fz x,none⟩ :: is) fr L K=FzK P E X (Zaq fr L x) is fr L K:=rfl
def Zj (L:Objs) (k:Key):Option (List PV):=
 match Zas L k with
 |some (.box cs _)=>Zx cs
 |_=>none
def Zk (L:Objs):List Key→Option (List PV)
 |[]=>some []
 |k :: r=>match Zj L k,Zk L r with
  |some cs,some l=>some (.ptr cs :: l)
  |_,_=>none
def Zbi (L:Objs):AV→Option PV
 |.p x=>some (wk x)
 |.row k=>match Zas L k with
  |some (.row es _ z _)=>some (.sl z es)
  |_=>none
 |.mp k=>match Zas L k with
  |some (.mapg κ kv _ _)=>some (.mpg κ (kv.map (·.1)) (kv.map (·.2)))
  |_=>none
 |.fn f ks=>(Zk L ks).map (.clo f)
 |.adr k o=>if o=0 then (Zj L k).map .ptr else none
 |_=>none
def Zbh (L:Objs):List AV→Option (List PV)
 |[]=>some []
 |x :: r=>match Zbi L x,Zbh L r with
  |some y,some l=>some (y :: l)
  |_,_=>none
def Zbj:List AV→Bool
 |[]=>true
 |.row _ :: _=>false
 |.mp _ :: _=>false
 |.adr _ _ :: _=>false
 |.fn _ ks :: r=>ks.isEmpty && Zbj r
 |_ :: r=>Zbj r
def Zbk:PV→Bool
 |.int ..|.bool ..|.str ..=>true
 |.agg cs=>cs.all fun|.int ..|.bool ..|.str ..=>true|_=>false
 |.tup cs=>cs.all fun|.int ..|.bool ..|.str ..=>true|_=>false
 |_=>false
theorem ql3 (b:Bool):(b == true)=b:=by cases b<;>rfl
theorem qkh (b:Bool):(b == false)=!b:=by cases b<;>rfl
theorem PRep.flat {w:World} {U U':Nat→Prop} {x:PV} {v:Value} (hf:Zbk x=true) (h:PRep w U x v):PRep w U' x v:=by
 have one:∀ (y:PV) (u:Value),(match y with|.int ..|.bool ..|.str ..=>true|_=>false)=true→PRep w U y u→PRep w U' y u:=by
  intro y u hy hr
  cases y<;>simp_all [PRep]
 have lst:∀ (cs:List PV) (vs:List Value),(cs.all fun|.int ..|.bool ..|.str ..=>true|_=>false)=true→PRepL w U cs vs→PRepL w U' cs vs:=by
  intro cs
  induction cs with
  |nil=>intro vs _ h;exact h
  |cons c cs ih=>
   intro vs hc hr
   simp only [List.all_cons,zi] at hc
   simp only [PRepL] at hr ⊢
   obtain ⟨v,r,rfl,h1,h2⟩:=hr
   exact ⟨v,r,rfl,one c v hc.1 h1,ih r hc.2 h2⟩
 cases x with
 |agg cs=>simp only [Zbk] at hf;simp only [PRep] at h ⊢;obtain ⟨vs,e,hl⟩:=h;exact ⟨vs,e,lst cs vs hf hl⟩
 |tup cs=>simp only [Zbk] at hf;simp only [PRep] at h ⊢;obtain ⟨vs,e,hl⟩:=h;exact ⟨vs,e,lst cs vs hf hl⟩
 |int k n=>exact h
 |bool b=>exact h
 |str s=>exact h
 |raw v=>simp [Zbk] at hf
 |nl z=>simp [Zbk] at hf
 |sl z es=>simp [Zbk] at hf
 |ptr cs=>simp [Zbk] at hf
 |clo f ps=>simp [Zbk] at hf
 |mpg κ ks vs=>simp [Zbk] at hf
theorem qx1 {w:World} {U U':Nat→Prop} {ι:Key→Value} {f:FuncId} {v:Value} (h:ARep w U ι (.fn f []) v):PRep w U' (.clo f []) v:=by
 exact ⟨[],by simpa [ARep] using h,by simp [PRepL]⟩
theorem qun {as:List AV} {l:List PV} (h:Zx as=some l):as=l.map .p:=by
 induction as generalizing l with
 |nil=>simp only [Zx,zg] at h;subst h;rfl
 |cons q as ih=>
  cases q with
  |p x=>
   simp only [Zx,zh] at h
   obtain ⟨m,h1,rfl⟩:=h
   rw [ih h1]
   rfl
  |_=>simp [Zx] at h
theorem qpI {w:World} {B:Nat→Prop} {ι:Key→Value} (hs:Sim w B L ι) (hX:∀ b,B b→¬ Own L ι b) {k:Key} {cs:List PV} (h:Zj L k=some cs):PRep w B (.ptr cs) (ι k):=by
 have hk:=qrE w L ι B
 unfold Zj at h
 split at h
 ·rename_i as t hl
  have e:=qun h
  subst e
  obtain ⟨b,vs,e1,e2,e3,e4,e5⟩:=hs.obj k _ hl
  have hO:Own L ι b:=⟨k,_,hl,by rw [e1];rfl⟩
  have hr:PRepL w (fun b=>Own L ι b∨B b) cs vs:=PRepL.of_get (by simpa using e3) (fun j x u hx hu=>by
   obtain ⟨u',hu',hr'⟩:=e5 j (.p x) (by rw [zy,hx];rfl)
   rw [hu'] at hu
   cases hu
   exact hr')
  refine ⟨b,e1,qbb hs hO,fun hb=>hX b hb hO,PRepC.of (PRepL.mono hk _ _ hr) e4 (fun j v hv=>?_)⟩
  rw [Nat.zero_add,cell_of_row w b j _ t (0,0) e2]
  simpa using hv
 ·cases h
theorem qr9 {w:World} {B:Nat→Prop} {ι:Key→Value} (hs:Sim w B L ι) (hX:∀ b,B b→¬ Own L ι b):∀ {ks:List Key} {ps:List PV},Zk L ks=some ps→PRepL w B ps (ks.map ι):=by
 intro ks
 induction ks with
 |nil=>intro ps h;simp only [Zk,zg] at h;subst h;simp [PRepL]
 |cons k ks ih=>
  intro ps h
  simp only [Zk] at h
  split at h
  ·rename_i cs l e1 e2
   cases h
   exact ⟨_,_,rfl,qpI hs hX e1,ih e2⟩
  ·cases h
theorem qhC {w:World} {U:Nat→Prop} {ι:Key→Value}:∀ {as:List AV} {ps:List PV} {vs:List Value},Zbj as=true→Zbh L as=some ps→ARepL w U ι as vs→PRepL w U ps vs:=by
 intro as
 induction as with
 |nil=>intro ps vs _ h hr;simp only [Zbh,zg] at h;subst h;exact hr
 |cons a as ih=>
  intro ps vs hn h hr
  simp only [Zbh] at h
  split at h
  ·rename_i y l e1 e2
   cases h
   simp only [ARepL] at hr
   obtain ⟨v,r,rfl,h1,h2⟩:=hr
   simp only [PRepL]
   cases a with
   |p x=>simp only [Zbi,zg] at e1;subst e1;exact ⟨v,r,rfl,PRep.wk h1,ih (by simpa [Zbj] using hn) e2 h2⟩
   |row k=>simp [Zbj] at hn
   |mp k=>simp [Zbj] at hn
   |adr k o=>simp [Zbj] at hn
   |fn f ks=>
    cases ks with
    |nil=>simp only [Zbi,Zk,zA,zg] at e1;subst e1;exact ⟨v,r,rfl,qx1 h1,ih (by simpa [Zbj] using hn) e2 h2⟩
    |cons k ks=>simp [Zbj] at hn
   |_=>simp [Zbi] at e1
  ·cases h
set_option maxHeartbeats 2000000 in
theorem qqn {w:World} {B:Nat→Prop} {ι:Key→Value} (hs:Sim w B L ι) (hX:∀ b,B b→¬ Own L ι b):∀ {as:List AV} {ps:List PV} {vs:List Value},Zbh L as=some ps→ARepL w (fun b=>Own L ι b∨B b) ι as vs→PRepL w B ps vs:=by
 have hk:=qrE w L ι B
 intro as
 induction as with
 |nil=>intro ps vs h hr;simp only [Zbh,zg] at h;subst h;exact hr
 |cons a as ih=>
  intro ps vs h hr
  simp only [Zbh] at h
  split at h
  ·rename_i y l e1 e2
   cases h
   simp only [ARepL] at hr
   obtain ⟨v,r,rfl,h1,h2⟩:=hr
   simp only [PRepL]
   refine ⟨v,r,rfl,?_,ih e2 h2⟩
   cases a with
   |p x=>simp only [Zbi,zg] at e1;subst e1;exact (PRep.mono hk _ _ h1).wk
   |row k=>
    simp only [Zbi] at e1
    split at e1
    ·rename_i es e' z ap hl
     cases e1
     obtain ⟨vs',hrow,e4,e5,e6⟩:=hs.obj k _ hl
     rcases hrow.2 with ⟨g1,g2⟩|⟨g,cap,cur,fz,g1,_,g3,_⟩
     ·rw [h1.1,g1]
      exact ⟨none,0,by rw [g2],by omega,fun hne=>absurd (zq g2) hne⟩
     ·rw [h1.1,g1]
      have hE:=qfC hs hl g1
      have hO:Own L ι g:=⟨k,_,hl,by rw [g1];rfl⟩
      refine ⟨_,cap,rfl,g3,fun _=>⟨g,0,rfl,qbb hs hO,fun hx=>hX g hx hO,?_⟩⟩
      have key:∀ (es':List (List PV)) (off:Nat),PRepE w (fun b=>Own L ι b∨B b) g z off es'→PRepE w B g z off es':=by
       intro es'
       induction es' with
       |nil=>intro off _;simp [PRepE]
       |cons x r ih=>
        intro off hh
        simp only [PRepE] at hh ⊢
        refine ⟨hh.1,?_,ih _ hh.2.2⟩
        obtain ⟨us,a1,a2,a3⟩:=hh.2.1.vals
        exact PRepC.of (PRepL.mono hk _ _ a1) a2 a3
      exact key es 0 hE
    ·cases e1
   |mp k=>
    simp only [Zbi] at e1
    split at e1
    ·rename_i κ kv kt et hl
     cases e1
     obtain ⟨r,ents,cl,q1,q2,q3,q4⟩:=hs.obj k _ hl
     have hO:Own L ι r:=⟨k,_,hl,by rw [q1];rfl⟩
     rw [h1.1,q1]
     exact ⟨r,rfl,qbb hs hO,fun hx=>hX r hx hO,ents,cl,q2,⟨by rw [q3.1,List.map_map];rfl,q4,fun s hs=>by obtain ⟨p,hp,rfl⟩:=zE.1 hs;exact q3.2.2 p hp⟩,PRepL.mono hk _ _ q3.2.1⟩
    ·cases e1
   |fn f ks=>
    simp only [Zbi,zh] at e1
    obtain ⟨ps',h3,rfl⟩:=e1
    exact ⟨ks.map ι,h1,qr9 hs hX h3⟩
   |adr k o=>
    simp only [Zbi] at e1
    split at e1
    ·rename_i ho
     subst ho
     simp only [zh] at e1
     obtain ⟨cs,h3,rfl⟩:=e1
     obtain ⟨b,e4,e5⟩:=h1
     rw [e5,← e4]
     exact qpI hs hX h3
    ·cases e1
   |_=>simp [Zbi] at e1
  ·cases h
theorem qlq {f:FuncId} {as:List AV} {ps:List PV} {φ:PV→Prop} (h:PCall P E f ps φ) (ha:Zbh L as=some ps) (hn:Zbj as=true∨∀ x,φ x→Zbk x=true):qg5 P E f as L φ:=by
 intro w X ι vs hs hX hE hEb hA
 rcases hn with hn|hn
 ·exact h w (fun b=>Own L ι b∨X b) vs (fun b hb=>hb.elim (fun h=>qbb hs h) (fun h=>(hX b h).1)) hE (fun b hb=>(hEb b hb).1) (qhC hn ha hA)
 ·refine (h w X vs (fun b hb=>(hX b hb).1) hE (fun b hb=>(hEb b hb).1) (qqn hs (fun b hb=>(hX b hb).2) ha hA)).mono ?_
  rintro e w' ⟨v,x,rfl,hx,hr,hG⟩
  exact ⟨v,x,rfl,hx,hr.flat (hn x hx),hG⟩
theorem use {f:FuncId} {as:List AV} {ps:List PV} {φ:PV→Prop} {d:Option Nat} {is:List IOper} (h:PCall P E f ps φ) (ha:Zbh L as=some ps) (hn:Zbj as=true∨∀ x,φ x→Zbk x=true) (hk:∀ x,φ x→qaa P E X is (Zg fr d (.p x)) L K):qa5 P E f as L d fr (qcV P E X is K):=
 .inl ⟨φ,qlq h ha hn,hk⟩
theorem use1 {f:FuncId} {as:List AV} {ps:List PV} {r:PV} {d:Option Nat} {is:List IOper} (h:PCall P E f ps (·=r)) (ha:Zbh L as=some ps) (hn:Zbj as=true∨Zbk r=true) (hk:qaa P E X is (Zg fr d (.p r)) L K):qa5 P E f as L d fr (qcV P E X is K):=
 .inl ⟨(·=r),qlq h ha (hn.imp id (fun h x e=>by rw [e];exact h)),fun x e=>by rw [e];exact hk⟩
theorem useG {c0:Bool} {f:FuncId} {as:List AV} {ps:List PV} {r:PV} {d:Option Nat} {is:List IOper} (h:c0=true→PCall P E f ps (·=r)) (ha:Zbh L as=some ps) (hn:Zbj as=true∨Zbk r=true) (hk:qaa P E X is (Zg fr d (.g c0 (.p r))) L K):qoY c0 P E f as L d fr (qcV P E X is K):=
 .inl ⟨r,fun hc=>qlq (h hc) ha (hn.imp id fun h x e=>by rw [e];exact h),hk⟩
theorem quY {c0:Bool} {f:FuncId} {as:List AV} {d:Option Nat} {is:List IOper} (h:c0=true→qa5 P E f as L d fr (qcV P E X is K)) (hk:c0=false→qaa P E X is (Zg fr d (.g c0 .any)) L K):qoY c0 P E f as L d fr (qcV P E X is K):=.inr ⟨h,hk⟩
theorem usep {f:FuncId} {as:List AV} {ps:List PV} {r:PV} (h:PCall P E f ps (·=r)) (ha:Zbh L as=some ps) (hn:Zbj as=true∨Zbk r=true):PcK P E f as L r:=
 qlq h ha (hn.imp id (fun h x e=>by rw [e];exact h))
end
def GCall (P:Program) (E:Envt) (f:FuncId) (bx:Option OS) (args:List PV) (post:RV→OS→Prop):Prop:=
 ∀ (w:World) (U:Nat→Prop) (vs:List Value) (v0:Value),(∀ c,U c→c < w.heap.size)→E.ok w→(∀ c,E.bl c→c < w.heap.size∧(bx.isSome=true→blk v0≠some c))→PRepL w U args vs→
  (match bx with|none=>True|some os=>(∀ c,blk v0=some c→U c)∧ObjAt w U v0 os)→
  Calls P f ((match bx with|none=>vs|some _=>v0 :: vs)).toArray w fun e w'=>∃ v r os',e=.returned v∧post r os'∧RVok w' U w.heap.size r v∧
   (match bx with
    |none=>Grow w w' (fun _=>False)
    |some _=>Grow w w' (fun c=>blk v0=some c)∧ObjAt w' (fun c=>U c∨r.own v c) v0 os')
def noOS:OS:=.box 0 []
def finP (bx:Option OS) (post:RV→OS→Prop) (x:PV) (L:Objs):Prop:=
 match bx with
 |none=>post (.p x) noOS
 |some _=>∃ os',Zas L (.b 0)=some os'.ao∧post (.p x) os'
def finF (bx:Option OS) (post:RV→OS→Prop) (i:Nat) (fr:List AV) (L:Objs):Prop:=
 (∃ j es e z,fr.getD i .any=.row (.l j)∧Zas L (.l j)=some (.row es e z true)∧
  match bx with
  |none=>post (.fr es e z) noOS
  |some _=>∃ os',Zas L (.b 0)=some os'.ao∧post (.fr es e z) os')∨
 ∃ e z z0,fr.getD i .any=.p (.nl z0)∧
  match bx with
  |none=>post (.fr [] e z) noOS
  |some _=>∃ os',Zas L (.b 0)=some os'.ao∧post (.fr [] e z) os'
def retF (i:Nat) (bx:Option OS) (post:RV→OS→Prop):AQ
 |.normal,fr,L=>finF bx post i fr L
 |.ret,fr,L=>finF bx post i fr L
 |_,_,_=>False
def qw4 (fr:List AV):List Nat→Option (List PV)
 |[]=>some []
 |i :: r=>match fr.getD i .any with
  |.p x=>(qw4 fr r).map (x :: ·)
  |_=>none
def finT (bx:Option OS) (post:RV→OS→Prop) (i:Nat) (is:List Nat) (fr:List AV) (L:Objs):Prop:=
 (∃ j es e z ps,fr.getD i .any=.row (.l j)∧Zas L (.l j)=some (.row es e z true)∧qw4 fr is=some ps∧
  match bx with
  |none=>post (.ft es e z ps) noOS
  |some _=>∃ os',Zas L (.b 0)=some os'.ao∧post (.ft es e z ps) os')∨
 ∃ e z z0 ps,fr.getD i .any=.p (.nl z0)∧qw4 fr is=some ps∧
  match bx with
  |none=>post (.ft [] e z ps) noOS
  |some _=>∃ os',Zas L (.b 0)=some os'.ao∧post (.ft [] e z ps) os'
def retT (i:Nat) (is:List Nat) (bx:Option OS) (post:RV→OS→Prop):AQ
 |.normal,fr,L=>finT bx post i is fr L
 |.ret,fr,L=>finT bx post i is fr L
 |_,_,_=>False
theorem qxp {i:Nat} {is:List Nat} {bx:Option OS} {post:RV→OS→Prop} {fr:List AV} {L:Objs}:retT i is bx post .ret fr L=finT bx post i is fr L:=rfl
theorem qxq {i:Nat} {is:List Nat} {bx:Option OS} {post:RV→OS→Prop} {fr:List AV} {L:Objs}:retT i is bx post .normal fr L=finT bx post i is fr L:=rfl
theorem qxt {i:Nat} {bx:Option OS} {post:RV→OS→Prop} {fr:List AV} {L:Objs}:retF i bx post .ret fr L=finF bx post i fr L:=rfl
theorem qxu {i:Nat} {bx:Option OS} {post:RV→OS→Prop} {fr:List AV} {L:Objs}:retF i bx post .normal fr L=finF bx post i fr L:=rfl
def l0 (bx:Option OS):Objs:=
 match bx with
 |none=>[]
 |some os=>[(.b 0,os.ao)]
def a0 (bx:Option OS) (args:List PV):List AV:=
 match bx with
 |none=>args.map .p
 |some (.box _ _)=>.adr (.b 0) 0 :: args.map .p
 |some (.row _ _ _)=>.row (.b 0) :: args.map .p
def GCallP (P:Program) (E:Envt) (f:FuncId) (pre:List PV) (bx:Option OS) (args:List PV) (post:RV→OS→Prop):Prop:=
 ∀ (w:World) (U:Nat→Prop) (us vs:List Value) (v0:Value),(∀ c,U c→c < w.heap.size)→E.ok w→(∀ c,E.bl c→c < w.heap.size∧(bx.isSome=true→blk v0≠some c))→PRepL w U pre us→PRepL w U args vs→
  (match bx with|none=>True|some os=>(∀ c,blk v0=some c→U c)∧ObjAt w U v0 os)→
  Calls P f (us++(match bx with|none=>vs|some _=>v0 :: vs)).toArray w fun e w'=>∃ v r os',e=.returned v∧post r os'∧RVok w' U w.heap.size r v∧
   (match bx with
    |none=>Grow w w' (fun _=>False)
    |some _=>Grow w w' (fun c=>blk v0=some c)∧ObjAt w' (fun c=>U c∨r.own v c) v0 os')
def a0P (pre:List PV) (bx:Option OS) (args:List PV):List AV:=pre.map .p++a0 bx args
section
variable {P:Program} {E:Envt}
theorem GCallP.nil {f:FuncId} {bx:Option OS} {args:List PV} {post:RV→OS→Prop} (h:GCallP P E f [] bx args post):GCall P E f bx args post:=fun w U vs v0 hU hE hEb hA hB=>h w U [] vs v0 hU hE hEb (by simp [PRepL]) hA hB
set_option maxHeartbeats 2000000 in
theorem qh0 (hm:P.follows .mixedOrders=true) {f:FuncId} {fn:Func} {c:Code} {ic:IC} {pre:List PV} {bx:Option OS} {args:List PV} {post:RV→OS→Prop} {Q:AQ} (hf:P.funcs[f]?=some fn) (hb:fn.body=some c) (hchk:chkC P qmZ ic c=true)
  (h:awp P E ic (a0P pre bx args++zD (fn.ntmps - (a0P pre bx args).length) .any) (l0 bx) Q)
  (hQ:∀ (B:Base) (w':World) (L:Objs) (ι:Key→Value) (fr:List AV) (a:Act) (e:Exit),Q e fr L→StF E B w' L ι fr a→B.L0=l0 bx→(e=.normal∨e=.ret)∧∃ v r os',(results fn a.tmps).run P w'=.ok v w'∧post r os'∧RVok w' (ZB L ι B.X) B.w0.heap.size r v∧(bx.isSome=true→Zas L (.b 0)=some os'.ao)∧(∀ b,r.own v b→Own L ι b)):GCallP P E f pre bx args post:=by
 intro w U us vs v0 hU hE hEb hPre hA hB
 refine calls_of_wp hf hb ?_
 let ι:Key→Value:=fun _=>v0
 let B:Base:={ w0:=w,X:=fun c=>U c∧(bx.isSome=true→blk v0≠some c),L0:=l0 bx,i0:=ι }
 have hlk:∀ k q,Zas (l0 bx) k=some q→k=.b 0∧∃ os,bx=some os∧q=os.ao:=by
  intro k q hq
  cases hbx:bx with
  |none=>rw [hbx] at hq;simp [l0,Zas] at hq
  |some os=>
   rw [hbx] at hq
   simp only [l0,Zas] at hq
   split at hq
   ·rename_i e;cases hq;exact ⟨e.symm,os,rfl,rfl⟩
   ·cases hq
 have hO:∀ c,Own (l0 bx) ι c→blk v0=some c∧bx.isSome=true:=by
  rintro c ⟨k,q,h1,h2⟩
  obtain ⟨_,os,e,_⟩:=hlk k q h1
  exact ⟨h2,by rw [e];rfl⟩
 have hUb:∀ c,(Own (l0 bx) ι c∨B.X c)→U c:=by
  rintro c (h'|h')
  ·obtain ⟨h1,hs⟩:=hO c h'
   cases hbx:bx with
   |none=>rw [hbx] at hs;cases hs
   |some p=>rw [hbx] at hB;exact hB.1 c h1
  ·exact h'.1
 have hkeep:Keeps w w U (fun c=>Own (l0 bx) ι c∨B.X c):=fun c _ hu=>⟨rfl,fun h=>hu (hUb c h)⟩
 have hsim:Sim w B.X (l0 bx) ι:=by
  constructor
  ·intro k q hq
   obtain ⟨rfl,os,e,rfl⟩:=hlk k q hq
   rw [e] at hB
   exact ObjAt.ok (hB.2.mono hkeep (fun _ _=>rfl))
  ·intro k k' q q' c h1 h2 _ _
   rw [(hlk k q h1).1,(hlk k' q' h2).1]
 have hst:St E B w (l0 bx) ι:=⟨Grow.refl _ _,hsim,fun c hc=>.inl hc,fun c hc=>hU c hc.1,fun k _ _=>rfl,hE,fun c hc=>⟨(hEb c hc).1,fun ho=>by obtain ⟨e1,e2⟩:=hO c ho;exact (hEb c hc).2 e2 e1⟩,(fun i=>by
  show Zas (l0 bx) (.l i)=none
  cases hq:Zas (l0 bx) (.l i) with
  |none=>rfl
  |some q=>have:=(hlk _ _ hq).1;cases this),(fun c hc ho=>by obtain ⟨e1,e2⟩:=hO c ho;exact hc.2 e2 e1)⟩
 have hlen:=hA.length
 have hfr:∀ as:List Value,ARepL w (fun c=>Own (l0 bx) ι c∨B.X c) ι (a0P pre bx args) as→StF E B w (l0 bx) ι (a0P pre bx args++zD (fn.ntmps - (a0P pre bx args).length) .any) { tmps:=as.toArray++Array.replicate (fn.ntmps - as.toArray.size) undef,defers:=[] }:=by
  intro as has
  have hl:∀ (xs:List AV) (ys:List Value),ARepL w (fun c=>Own (l0 bx) ι c∨B.X c) ι xs ys→ys.length=xs.length∧∀ (i:Nat) (x:AV),xs[i]?=some x→∃ v,ys[i]?=some v∧ARep w (fun c=>Own (l0 bx) ι c∨B.X c) ι x v:=by
   intro xs
   induction xs with
   |nil=>intro ys h;simp only [ARepL] at h;subst h;simp
   |cons x xs ih=>
    intro ys h
    simp only [ARepL] at h
    obtain ⟨v,r,rfl,h1,h2⟩:=h
    obtain ⟨g1,g2⟩:=ih r h2
    refine ⟨by simp [g1],fun i y hy=>?_⟩
    cases i with
    |zero=>simp at hy;subst hy;exact ⟨v,rfl,h1⟩
    |succ i=>simp at hy;simpa using g2 i y hy
  obtain ⟨g1,g2⟩:=hl _ _ has
  refine ⟨hst,⟨by simp [g1],fun i x hx=>?_⟩,rfl⟩
  rw [List.getElem?_append] at hx
  split at hx
  ·rename_i hi
   obtain ⟨v,hv,hrep⟩:=g2 i x hx
   refine ⟨v,?_,hrep⟩
   rw [Array.getElem?_append_left (by simp;omega)]
   simpa using hv
  ·rename_i hi
   rw [List.getElem?_replicate] at hx
   split at hx
   ·rename_i hlt
    cases hx
    refine ⟨undef,?_,trivial⟩
    rw [Array.getElem?_append_right (by simp;omega)]
    simp only [List.size_toArray]
    rw [Array.getElem?_replicate,if_pos (by rw [g1];omega)]
   ·cases hx
 have hargs:ARepL w (fun c=>Own (l0 bx) ι c∨B.X c) ι (a0P pre bx args) (us++(match bx with|none=>vs|some _=>v0 :: vs)):=by
  have hp:∀ (xs:List PV) (ys:List Value),PRepL w U xs ys→ARepL w (fun c=>Own (l0 bx) ι c∨B.X c) ι (xs.map .p) ys:=by
   intro xs
   induction xs with
   |nil=>intro ys h;simp only [PRepL] at h;subst h;simp [ARepL]
   |cons x xs ih=>
    intro ys h
    simp only [PRepL] at h
    obtain ⟨v,r,rfl,h1,h2⟩:=h
    simp only [zx,ARepL]
    exact ⟨v,r,rfl,PRep.mono hkeep _ _ h1,ih r h2⟩
  refine ARepL.append (hp pre us hPre) ?_
  have hpv:=hp args vs hA
  cases hbx:bx with
  |none=>rw [hbx] at hpv;exact hpv
  |some os=>
   rw [hbx] at hpv hB
   cases os with
   |box t cs=>
    obtain ⟨b,vs',e1,_⟩:=hB.2
    simp only [a0,ARepL]
    exact ⟨_,_,rfl,⟨b,e1,e1⟩,hpv⟩
   |row e z es=>
    obtain ⟨vs',h1,_⟩:=hB.2
    simp only [a0,ARepL]
    refine ⟨_,_,rfl,⟨rfl,?_⟩,hpv⟩
    rcases h1.2 with ⟨q1,_⟩|⟨g,cap,cur,fz,q1,_⟩
    ·exact ⟨none,0,0,q1⟩
    ·exact ⟨_,_,_,q1⟩
 refine wp_mono (qjV (qrY hm) ic c _ _ _ hchk h B w ι _ (hfr _ hargs)) ?_
 rintro e a' w' ⟨fr',L',ι',q,hs'⟩
 obtain ⟨he,v,r,os',hv,hp,hr,hbox,hown⟩:=hQ B w' L' ι' fr' a' e q hs' rfl
 have hkey:bx.isSome=true→ι' (.b 0)=v0:=by
  intro e
  refine hs'.1.keep (.b 0) ?_ (by rw [hbox e];rfl)
  show (Zas (l0 bx) (.b 0)).isSome=true
  obtain ⟨os,e⟩:=Option.isSome_iff_exists.1 e
  rw [e];simp [l0,Zas]
 have hZ:∀ c,U c→ZB L' ι' B.X c:=by
  intro c hc
  by_cases hcb:bx.isSome=true∧blk v0=some c
  ·exact .inr ⟨0,_,hbox hcb.1,by rw [hkey hcb.1];exact hcb.2⟩
  ·exact .inl ⟨hc,fun h1 h2=>hcb ⟨h1,h2⟩⟩
 have hkz:Keeps w' w' (ZB L' ι' B.X) U:=fun c _ hz=>⟨rfl,fun hu=>hz (hZ c hu)⟩
 have hres:RVok w' U w.heap.size r v:=by
  cases r with
  |p x=>exact PRep.mono hkz _ _ hr
  |fr es e z=>
   obtain ⟨vs',r1,r2,r3,r4,r5⟩:=hr
   exact ⟨vs',r1,r2,PRepL.mono (fun c _ hz=>⟨rfl,fun hu=>hz (hu.imp (hZ c) id)⟩) _ _ r3,r4,r5⟩
  |ft es e z ps=>
   obtain ⟨u,us,hv,⟨vs',r1,r2,r3,r4,r5⟩,rp⟩:=hr
   exact ⟨u,us,hv,⟨vs',r1,r2,PRepL.mono (fun c _ hz=>⟨rfl,fun hu=>hz (hu.imp (hZ c) id)⟩) _ _ r3,r4,r5⟩,PRepL.mono (fun c _ hz=>⟨rfl,fun hu=>hz (hu.imp (hZ c) id)⟩) _ _ rp⟩
 have hg:=hs'.1.grow
 have fin:∃ v_1 r os',Ending.returned v=.returned v_1∧post r os'∧RVok w' U w.heap.size r v_1∧(match bx with|none=>Grow w w' (fun _=>False)|some _=>Grow w w' (fun c=>blk v0=some c)∧ObjAt w' (fun c=>U c∨r.own v_1 c) v0 os'):=by
  refine ⟨v,r,os',rfl,hp,hres,?_⟩
  cases hbx:bx with
  |none=>exact ⟨hg.os,hg.tape,hg.output,hg.size,fun c hc _=>hg.block c hc (fun ho=>by have:=(hO c ho).2;rw [hbx] at this;cases this)⟩
  |some os=>
   have hbs:bx.isSome=true:=by rw [hbx];rfl
   refine ⟨⟨hg.os,hg.tape,hg.output,hg.size,fun c hc hn=>hg.block c hc (fun ho=>hn (hO c ho).1)⟩,?_⟩
   have hat:=ObjAt.of (hs'.1.sim.obj (.b 0) _ (hbox hbs))
   rw [hkey hbs] at hat
   refine hat.mono (fun c _ hz=>⟨rfl,fun hu=>hz ?_⟩) (fun _ _=>rfl)
   rcases hu with hu|hu
   ·rcases hZ c hu with h1|⟨i,q,h1,h2⟩
    ·exact .inr h1
    ·exact .inl ⟨_,q,h1,h2⟩
   ·exact .inl (hown c hu)
 rcases he with rfl|rfl
 ·exact ⟨hs'.2.2,v,hv,fin⟩
 ·exact ⟨hs'.2.2,v,hv,fin⟩
theorem qne (hm:P.follows .mixedOrders=true) {f:FuncId} {fn:Func} {c:Code} {ic:IC} {bx:Option OS} {args:List PV} {post:RV→OS→Prop} {Q:AQ} (hf:P.funcs[f]?=some fn) (hb:fn.body=some c) (hchk:chkC P qmZ ic c=true)
  (h:awp P E ic (a0 bx args++zD (fn.ntmps - (a0 bx args).length) .any) (l0 bx) Q)
  (hQ:∀ (B:Base) (w':World) (L:Objs) (ι:Key→Value) (fr:List AV) (a:Act) (e:Exit),Q e fr L→StF E B w' L ι fr a→B.L0=l0 bx→(e=.normal∨e=.ret)∧∃ v r os',(results fn a.tmps).run P w'=.ok v w'∧post r os'∧RVok w' (ZB L ι B.X) B.w0.heap.size r v∧(bx.isSome=true→Zas L (.b 0)=some os'.ao)∧(∀ b,r.own v b→Own L ι b)):GCall P E f bx args post:=
 GCallP.nil (qh0 (pre:=[]) hm hf hb hchk h hQ)
theorem qwf (hm:P.follows .mixedOrders=true) {f:FuncId} {fn:Func} {ic:IC} {rs:List IRes} {n:Nat} {pre:List PV} {bx:Option OS} {args:List PV} {post:RV→OS→Prop} (hf:P.funcs[f]?=some fn) (hc:chkF P fn ic rs n=true)
  (h:awp P E ic (a0P pre bx args++zD (n - (a0P pre bx args).length) .any) (l0 bx) (retQ rs (finP bx post))):GCallP P E f pre bx args post:=by
 unfold chkF at hc
 split at hc
 ·rename_i c hb
  simp only [zi,beq_iff_eq] at hc
  obtain ⟨⟨h1,h2⟩,rfl⟩:=hc
  refine qh0 hm hf hb h1 h ?_
  intro B w' L ι fr a e q hs hb0
  have key:RetK (Zbd fr L rs) (finP bx post) L→∃ v r os',(results fn a.tmps).run P w'=.ok v w'∧post r os'∧RVok w' (ZB L ι B.X) B.w0.heap.size r v∧(bx.isSome=true→Zas L (.b 0)=some os'.ao)∧(∀ b,r.own v b→Own L ι b):=by
   intro q
   obtain ⟨l,e1,e2⟩:=qj1 q
   obtain ⟨v,hv,hr⟩:=qil hs h2 e1
   cases hbx:bx with
   |none=>rw [hbx] at e2;exact ⟨v,.p (qhb l),noOS,hv,e2,hr,(fun h=>by cases h),fun _ h=>h.elim⟩
   |some p=>
    rw [hbx] at e2
    obtain ⟨cs',g1,g2⟩:=e2
    exact ⟨v,.p (qhb l),cs',hv,g2,hr,(fun _=>g1),fun _ h=>h.elim⟩
  cases e with
  |normal=>exact ⟨.inl rfl,key q⟩
  |ret=>exact ⟨.inr rfl,key q⟩
  |_=>exact q.elim
 ·cases hc
theorem qff (hm:P.follows .mixedOrders=true) {f:FuncId} {fn:Func} {ic:IC} {rs:List IRes} {n:Nat} {bx:Option OS} {args:List PV} {post:RV→OS→Prop} (hf:P.funcs[f]?=some fn) (hc:chkF P fn ic rs n=true)
  (h:awp P E ic (a0 bx args++zD (n - (a0 bx args).length) .any) (l0 bx) (retQ rs (finP bx post))):GCall P E f bx args post:=GCallP.nil (qwf (pre:=[]) hm hf hc h)
set_option maxHeartbeats 2000000 in
theorem qf0 (hm:P.follows .mixedOrders=true) {f:FuncId} {fn:Func} {ic:IC} {i n:Nat} {bx:Option OS} {args:List PV} {post:RV→OS→Prop} (hf:P.funcs[f]?=some fn) (hc:chkF P fn ic [.t i] n=true)
  (h:awp P E ic (a0 bx args++zD (n - (a0 bx args).length) .any) (l0 bx) (retF i bx post)):GCall P E f bx args post:=by
 unfold chkF at hc
 split at hc
 ·rename_i c hb
  simp only [zi,beq_iff_eq] at hc
  obtain ⟨⟨h1,h2⟩,rfl⟩:=hc
  refine qne hm hf hb h1 h ?_
  intro B w' L ι fr a e q hs hb0
  have key:finF bx post i fr L→∃ v r os',(results fn a.tmps).run P w'=.ok v w'∧post r os'∧RVok w' (ZB L ι B.X) B.w0.heap.size r v∧(bx.isSome=true→Zas L (.b 0)=some os'.ao)∧(∀ b,r.own v b→Own L ι b):=by
   intro hfin
   have hres:(results fn a.tmps).run P w'=.ok (a.tmps.getD i undef) w':=by
    have hq:fn.results=#[.tmp i]:=by
     have:∀ (l:List ResultVar),qfb P l [.t i]=true→l=[.tmp i]:=by
      intro l hl
      cases l with
      |nil=>simp [qfb] at hl
      |cons x l=>
       cases l with
       |nil=>cases x<;>simp [qfb,qoh] at hl;subst hl;rfl
       |cons y l=>cases x<;>simp [qfb] at hl
     apply Array.ext'
     exact this _ h2
    exact results_tmp hq _ P w'
   rcases hfin with ⟨j,es,et,z,e1,e2,e3⟩|⟨et,z,z0,e1,e3⟩
   rotate_left
   ·have hsl:=hs.2.1.getD i
    rw [e1] at hsl
    have hv:a.tmps.getD i undef=.slice none 0 0:=hsl
    have hrv:RVok w' (ZB L ι B.X) B.w0.heap.size (.fr [] et z) (a.tmps.getD i undef):=by
     rw [hv]
     exact ⟨[],⟨by simp,.inl ⟨rfl,rfl⟩⟩,by simp,by simp [PRepL],by simp,fun b hb=>by simp [blk] at hb⟩
    have hno:∀ b,RV.own (.fr [] et z) (a.tmps.getD i undef) b→Own L ι b:=fun b hb=>by rw [hv] at hb;simp [RV.own,blk] at hb
    cases hbx:bx with
    |none=>rw [hbx] at e3;exact ⟨_,.fr [] et z,noOS,hres,e3,hrv,(fun h=>by cases h),hno⟩
    |some p=>
     rw [hbx] at e3
     obtain ⟨cs',g1,g2⟩:=e3
     exact ⟨_,.fr [] et z,cs',hres,g2,hrv,(fun _=>g1),hno⟩
   have hsl:=hs.2.1.getD i
   rw [e1] at hsl
   obtain ⟨hv,A,m,cp,hvs⟩:=hsl
   obtain ⟨vs,hrow,g2,g3,g4⟩:=hs.1.sim.obj _ _ e2
   have hblkO:∀ b,blk (a.tmps.getD i undef)=some b→Own L ι b:=fun b hb'=>⟨_,_,e2,by rw [← hv];exact hb'⟩
   have hrow':RowOk w' et z true (a.tmps.getD i undef) es.length vs:=by rw [hv];exact hrow
   have hZ0:bx.isSome=true→∃ q,Zas L (.b 0)=some q:=by
    intro hbs
    cases hbx:bx with
    |none=>rw [hbx] at hbs;cases hbs
    |some p=>rw [hbx] at e3;obtain ⟨cs',g1,_⟩:=e3;exact ⟨_,g1⟩
   have hrv:RVok w' (ZB L ι B.X) B.w0.heap.size (.fr es et z) (a.tmps.getD i undef):=by
    refine ⟨vs,hrow',g2,PRepL.mono (fun c _ hu=>⟨rfl,?_⟩) _ _ g3,g4,fun b hb'=>?_⟩
    ·rintro ((hx|⟨i',q',h1,h2⟩)|hx)
     ·exact hu (.inr hx)
     ·exact hu (.inl ⟨_,q',h1,h2⟩)
     ·exact hu (.inl (hblkO c hx))
    ·rcases hs.1.own b (hblkO b hb') with h'|h'
     ·obtain ⟨k0,q0,h5,h6⟩:=h'
      rw [hb0] at h5
      cases hbx:bx with
      |none=>rw [hbx] at h5;simp [l0,Zas] at h5
      |some p=>
       obtain ⟨q1,hq1⟩:=hZ0 (by rw [hbx];rfl)
       rw [hbx] at h5
       simp only [l0,Zas] at h5
       split at h5
       ·rename_i ek
        subst ek
        have hk0:ι (.b 0)=B.i0 (.b 0):=hs.1.keep (.b 0) (by rw [hb0,hbx];simp [l0,Zas]) (by rw [hq1];rfl)
        have:=hs.1.sim.inj (.b 0) (.l j) q1 _ b hq1 e2 (by rw [hk0];exact h6) (by rw [← hv];exact hb')
        cases this
       ·cases h5
     ·exact h'
   cases hbx:bx with
   |none=>rw [hbx] at e3;exact ⟨_,.fr es et z,noOS,hres,e3,hrv,(fun h=>by cases h),hblkO⟩
   |some p=>
    rw [hbx] at e3
    obtain ⟨cs',g1,g2⟩:=e3
    exact ⟨_,.fr es et z,cs',hres,g2,hrv,(fun _=>g1),hblkO⟩
  cases e with
  |normal=>exact ⟨.inl rfl,key q⟩
  |ret=>exact ⟨.inr rfl,key q⟩
  |_=>exact q.elim
 ·cases hc
def qeG (P:Program) (E:Envt) (f:FuncId) (t:TypeId) (cs args:List PV) (ψ:PV→List PV→Prop):Prop:=GCall P E f (some (.box t cs)) args fun r os=>∃ x cs',r=.p x∧os=.box t cs'∧ψ x cs'
def qih (P:Program) (E:Envt) (f:FuncId) (t:TypeId) (cs args:List PV) (e z:Nat) (ψ:List (List PV)→List PV→Prop):Prop:=GCall P E f (some (.box t cs)) args fun r os=>∃ es cs',r=.fr es e z∧os=.box t cs'∧ψ es cs'
def FCall (P:Program) (E:Envt) (f:FuncId) (args:List PV) (e z:Nat) (φ:List (List PV)→Prop):Prop:=GCall P E f none args fun r _=>∃ es,r=.fr es e z∧φ es
def RCall (P:Program) (E:Envt) (f:FuncId) (e z:Nat) (es:List (List PV)) (args:List PV) (ψ:PV→List (List PV)→Prop):Prop:=GCall P E f (some (.row e z es)) args fun r os=>∃ x es',r=.p x∧os=.row e z es'∧ψ x es'
variable {L:Objs} {fr:List AV} {X:List PV} {K:List AV→Objs→Prop}
theorem qwg {f:FuncId} {as:List AV} {ps:List PV} {post:RV→OS→Prop} (h:GCall P E f none ps post) (ha:Zbh L as=some ps) (hn:Zbj as=true):GC P E f as L none post:=by
 intro w X ι vs hs hX hE hEb hA
 exact h w (fun b=>Own L ι b∨X b) vs undef (fun b hb=>hb.elim (fun h=>qbb hs h) (fun h=>(hX b h).1)) hE (fun b hb=>⟨(hEb b hb).1,fun h=>by cases h⟩) (qhC hn ha hA) trivial
def AV.key1 (k:Key):OS→AV
 |.box _ _=>.adr k 0
 |.row _ _ _=>.row k
theorem qps {f:FuncId} {as:List AV} {ps:List PV} {os:OS} {k:Key} {post:RV→OS→Prop} (h:GCall P E f (some os) ps post) (hl:Zas L k=some os.ao) (ha:Zbh L as=some ps) (hn:Zbj as=true):GC P E f (AV.key1 k os :: as) L (some (k,os)) post:=by
 intro w X ι vs hs hX hE hEb hA
 simp only [ARepL] at hA
 obtain ⟨v0,vr,rfl,hv0,hA⟩:=hA
 have hv0:v0=ι k:=by
  cases os with
  |box t cs=>obtain ⟨b,e1,e2⟩:=hv0;rw [e1,e2]
  |row e z es=>exact hv0.1
 subst hv0
 have hOb:∀ c,blk (ι k)=some c→Own L ι c:=fun c hc=>⟨k,_,hl,hc⟩
 refine (h w (fun b=>Own L ι b∨X b) vr (ι k) (fun b hb=>hb.elim (fun h=>qbb hs h) (fun h=>(hX b h).1)) hE (fun c hc=>⟨(hEb c hc).1,fun _ e=>(hEb c hc).2 (hOb c e)⟩) (qhC hn ha hA) ⟨fun c hc=>.inl (hOb c hc),ObjAt.of (hs.obj k _ hl)⟩).mono ?_
 rintro e w' ⟨v,r,os',rfl,hp,hr,hG,hB⟩
 exact ⟨v,r,os',rfl,hp,hr,⟨hG.os,hG.tape,hG.output,hG.size,fun c hc hn=>hG.block c hc (fun ec=>hn ⟨_,hl,ec⟩)⟩,hB⟩
theorem qsk {w:World} {U:Nat→Prop} {ι:Key→Value}:∀ {as:List AV} {ps:List PV} {vs:List Value},qdn as=some ps→ARepL w U ι as vs→PRepL w U ps vs:=by
 intro as
 induction as with
 |nil=>intro ps vs h hr;simp only [qdn,zg] at h;subst h;exact hr
 |cons a as ih=>
  intro ps vs h hr
  cases a with
  |p x=>
   simp only [qdn,zh] at h
   obtain ⟨l,e2,rfl⟩:=h
   simp only [ARepL] at hr
   obtain ⟨v,r,rfl,h1,h2⟩:=hr
   simp only [PRepL]
   exact ⟨v,r,rfl,h1,ih e2 h2⟩
  |_=>simp [qdn] at h
theorem ARepL.split {w:World} {U:Nat→Prop} {ι:Key→Value}:∀ {as bs:List AV} {vs:List Value},ARepL w U ι (as++bs) vs→∃ us ws,vs=us++ws∧ARepL w U ι as us∧ARepL w U ι bs ws
 |[],bs,vs,h=>⟨[],vs,rfl,by simp [ARepL],h⟩
 |a :: as,bs,vs,h=>by
  simp only [zT,ARepL] at h
  obtain ⟨v,r,rfl,h1,h2⟩:=h
  obtain ⟨us,ws,rfl,h3,h4⟩:=ARepL.split h2
  exact ⟨v :: us,ws,rfl,by simp only [ARepL];exact ⟨v,us,rfl,h1,h3⟩,h4⟩
theorem useS {f:FuncId} {as:List AV} {ps cs:List PV} {t:TypeId} {k:Key} {ψ:PV→List PV→Prop} {d:Option Nat} {is:List IOper} (h:qeG P E f t cs ps ψ) (hl:Zas L k=some (.box (cs.map .p) t)) (ha:Zbh L as=some ps) (hn:Zbj as=true) (hs:Zbl d (some (k,.box t cs)))
  (hk:∀ x cs',ψ x cs'→qaa P E X is (Zg fr d (.p x)) (Zat L k (.box (cs'.map .p) t)) K):qa5 P E f (.adr k 0 :: as) L d fr (qcV P E X is K):=
 .inr (.inl ⟨some (k,.box t cs),_,qps h hl ha hn,hl,hs,fun r os' hp=>by obtain ⟨x,cs',rfl,rfl,hx⟩:=hp;exact hk x cs' hx⟩)
theorem qjX {L L':Objs}:∀ {as:List AV},Zbj as=true→Zbh L as=Zbh L' as
 |[],_=>rfl
 |a :: r,h=>by
  have e:Zbi L a=Zbi L' a∧Zbj r=true:=by
   cases a<;>simp only [Zbj,Bool.false_eq_true,zi,List.isEmpty_iff] at h
   case fn f ks=>obtain ⟨rfl,h⟩:=h;exact ⟨rfl,h⟩
   all_goals exact ⟨rfl,h⟩
  simp only [Zbh]
  rw [e.1,qjX (L:=L) (L':=L') e.2]
theorem useD {b:Bool} {f:FuncId} {as:List AV} {ps cs:List PV} {t:TypeId} {k:Key} {ψ:PV→List PV→Prop} {d:Option Nat} {is:List IOper} (h:qeG P E f t cs ps ψ) (hne:∃ x cs',ψ x cs') (hl:Zas L k=some (.box (cs.map .p) t)) (ha:Zbh L as=some ps) (hn:Zbj as=true) (hs:Zbl d (some (k,.box t cs))) (hb:b=true→∃ j,k=.b j)
  (hk:∀ x cs',ψ x cs'→qaa P E X is (Zg fr d (.p x)) (Zat L k (.box (cs'.map .p) t)) K):DCallOp b P E f (.adr k 0 :: as) L d fr (qcV P E X is K):=
 ⟨k,t,cs,ψ,fun L' hl'=>qps h hl' ((qjX hn).symm.trans ha) hn,hl,(fun e he=>by subst he;exact hs),hb,hne,hk⟩
theorem qqE {f:FuncId} {as:List AV} {ps cs:List PV} {t:TypeId} {k:Key} {e z:Nat} {ψ:List (List PV)→List PV→Prop} {d:Nat} {is:List IOper} (h:qih P E f t cs ps e z ψ) (hl:Zas L k=some (.box (cs.map .p) t)) (ha:Zbh L as=some ps) (hn:Zbj as=true) (hs:Zbl (some d) (some (k,.box t cs)))
  (hk:∀ es cs',ψ es cs'→qaa P E X is ((fr.map (·.kill (.l d))).set d (.row (.l d))) (Zav (Zat L k (.box (cs'.map .p) t)) (.l d) (.row es e z true)) K):qa5 P E f (.adr k 0 :: as) L (some d) fr (qcV P E X is K):=
 .inr (.inl ⟨some (k,.box t cs),_,qps h hl ha hn,hl,hs,fun r os' hp=>by obtain ⟨es,cs',rfl,rfl,hx⟩:=hp;exact hk es cs' hx⟩)
theorem useF {f:FuncId} {as:List AV} {ps:List PV} {e z:Nat} {φ:List (List PV)→Prop} {d:Nat} {is:List IOper} (h:FCall P E f ps e z φ) (ha:Zbh L as=some ps) (hn:Zbj as=true)
  (hk:∀ es,φ es→qaa P E X is ((fr.map (·.kill (.l d))).set d (.row (.l d))) (Zav L (.l d) (.row es e z true)) K):qa5 P E f as L (some d) fr (qcV P E X is K):=
 .inr (.inl ⟨none,_,qwg h ha hn,trivial,trivial,fun r cs' hp=>by obtain ⟨es,rfl,hx⟩:=hp;exact hk es hx⟩)
theorem qyr {f:FuncId} {as:List AV} {ps:List PV} {e z:Nat} {φ:List (List PV)→Prop} {d:Nat} {is:List IOper} (h:FCall P E f ps e z φ) (ha:qdn as=some ps)
  (hk:∀ es,φ es→qaa P E X is ((fr.map (·.kill (.l d))).set d (.row (.l d))) (Zav L (.l d) (.row es e z true)) K):qa5 P E f as L (some d) fr (qcV P E X is K):=
 .inr (.inl ⟨none,_,(fun w X ι vs hs hX hE hEb hA=>h w (fun b=>Own L ι b∨X b) vs undef (fun b hb=>hb.elim (fun h=>qbb hs h) (fun h=>(hX b h).1)) hE (fun b hb=>⟨(hEb b hb).1,fun h=>by cases h⟩) (qsk ha hA) trivial),trivial,trivial,fun r cs' hp=>by obtain ⟨es,rfl,hx⟩:=hp;exact hk es hx⟩)
theorem useR {f:FuncId} {as:List AV} {ps:List PV} {e z:Nat} {es:List (List PV)} {k:Key} {ψ:PV→List (List PV)→Prop} {d:Option Nat} {is:List IOper} (h:RCall P E f e z es ps ψ) (hl:Zas L k=some (.row es e z true)) (ha:Zbh L as=some ps) (hn:Zbj as=true) (hs:Zbl d (some (k,.row e z es)))
  (hk:∀ x es',ψ x es'→qaa P E X is (Zg fr d (.p x)) (Zat L k (.row es' e z true)) K):qa5 P E f (.row k :: as) L d fr (qcV P E X is K):=
 .inr (.inl ⟨some (k,.row e z es),_,qps h hl ha hn,hl,hs,fun r os' hp=>by obtain ⟨x,es',rfl,rfl,hx⟩:=hp;exact hk x es' hx⟩)
theorem GCall.mono {f:FuncId} {bx:Option OS} {args:List PV} {post post':RV→OS→Prop} (h:GCall P E f bx args post) (hp:∀ r os,post r os→post' r os):GCall P E f bx args post':=by
 intro w U vs v0 hU hE hEb hA hB
 refine (h w U vs v0 hU hE hEb hA hB).mono ?_
 rintro e w' ⟨v,r,os',h1,h2,h3⟩
 exact ⟨v,r,os',h1,hp r os' h2,h3⟩
theorem RCall.mono {f:FuncId} {e z:Nat} {es:List (List PV)} {args:List PV} {ψ ψ':PV→List (List PV)→Prop} (h:RCall P E f e z es args ψ) (hp:∀ x es,ψ x es→ψ' x es):RCall P E f e z es args ψ':=
 GCall.mono h fun r os ⟨x,es',h1,h2,h3⟩=>⟨x,es',h1,h2,hp x es' h3⟩
theorem FCall.mono {f:FuncId} {e z:Nat} {args:List PV} {φ φ':List (List PV)→Prop} (h:FCall P E f args e z φ) (hp:∀ es,φ es→φ' es):FCall P E f args e z φ':=
 GCall.mono h fun r os ⟨es,h1,h2⟩=>⟨es,h1,hp es h2⟩
theorem PCall.mono {f:FuncId} {args:List PV} {φ φ':PV→Prop} (h:PCall P E f args φ) (hp:∀ x,φ x→φ' x):PCall P E f args φ':=by
 intro w U vs hU hE hEb hA
 refine (h w U vs hU hE hEb hA).mono ?_
 rintro e w' ⟨v,x,h1,h2,h3⟩
 exact ⟨v,x,h1,hp x h2,h3⟩
theorem qet {t:TypeId} {cs:List PV} {ψ:PV→List PV→Prop} {x:PV} (cs':List PV) (h1:Zas L (.b 0)=some (.box (cs'.map .p) t)) (h2:ψ x cs'):finP (some (.box t cs)) (fun r os=>∃ x cs',r=.p x∧os=.box t cs'∧ψ x cs') x L:=⟨.box t cs',h1,x,cs',rfl,rfl,h2⟩
theorem qwk {e z:Nat} {es:List (List PV)} {ψ:PV→List (List PV)→Prop} {x:PV} (es':List (List PV)) (h1:Zas L (.b 0)=some (.row es' e z true)) (h2:ψ x es'):finP (some (.row e z es)) (fun r os=>∃ x es',r=.p x∧os=.row e z es'∧ψ x es') x L:=⟨.row e z es',h1,x,es',rfl,rfl,h2⟩
theorem qke {i e z:Nat} {φ:List (List PV)→Prop} (j:Nat) (es:List (List PV)) (h0:fr.getD i .any=.row (.l j)) (h1:Zas L (.l j)=some (.row es e z true)) (h2:φ es):finF none (fun r _=>∃ es,r=.fr es e z∧φ es) i fr L:=.inl ⟨j,es,e,z,h0,h1,es,rfl,h2⟩
theorem qx2 {i e z z0:Nat} {φ:List (List PV)→Prop} (h0:fr.getD i .any=.p (.nl z0)) (h2:φ []):finF none (fun r _=>∃ es,r=.fr es e z∧φ es) i fr L:=.inr ⟨e,z,z0,h0,[],rfl,h2⟩
theorem qf2 {i e z:Nat} {t:TypeId} {cs:List PV} {ψ:List (List PV)→List PV→Prop} (j:Nat) (es:List (List PV)) (cs':List PV) (h0:fr.getD i .any=.row (.l j)) (h1:Zas L (.l j)=some (.row es e z true)) (h3:Zas L (.b 0)=some (.box (cs'.map .p) t)) (h2:ψ es cs'):finF (some (.box t cs)) (fun r os=>∃ es cs',r=.fr es e z∧os=.box t cs'∧ψ es cs') i fr L:=.inl ⟨j,es,e,z,h0,h1,.box t cs',h3,es,cs',rfl,rfl,h2⟩
end
end Go.Proofs.YtjgdjinhkgjpeabGreatDoor
namespace Go.Proofs.YtjgdjinhkgjpeabGreatDoor
open Go.RowKit
def qoB:PV→Bool
 |.int ..|.bool _|.str _=>true
 |_=>false
def valD:PV→Value
 |.int k n=>.int k n
 |.bool b=>.bool b
 |.str s=>.string ⟨s.toArray⟩
 |_=>undef
theorem PRep.valD {w:World} {U:Nat→Prop} {x:PV} {v:Value} (hf:qoB x=true):PRep w U x v↔v=valD x:=by
 cases x<;>simp_all [qoB,PRep,Go.Proofs.YtjgdjinhkgjpeabGreatDoor.valD]
theorem PRepL.valD {w:World} {U:Nat→Prop}:∀ {xs:List PV} {vs:List Value},(xs.all qoB)=true→(PRepL w U xs vs↔vs=xs.map Go.Proofs.YtjgdjinhkgjpeabGreatDoor.valD):=by
 intro xs
 induction xs with
 |nil=>intro vs _;simp [PRepL]
 |cons x r ih=>
  intro vs h
  simp only [List.all_cons,Bool.and_eq_true] at h
  simp only [PRepL,List.map_cons]
  constructor
  ·rintro ⟨v,s,rfl,h1,h2⟩
   rw [PRep.valD h.1] at h1
   rw [ih h.2] at h2
   rw [h1,h2]
  ·rintro rfl
   exact ⟨_,_,rfl,(PRep.valD h.1).2 rfl,(ih h.2).2 rfl⟩
section
variable {P:Program} {E:Envt}
theorem qdD {w w':World} {O:Nat→Prop} (h:Below w.heap.size w w'):Grow w w' O:=⟨h.os,h.tape,h.output,h.size,fun b hb _=>h.block b hb⟩
def qtR:PV→Bool
 |.tup cs=>cs.all qoB
 |x=>qoB x
def valX:PV→Value
 |.tup cs=>.tuple (cs.map valD).toArray
 |x=>valD x
theorem PRep.valX {w:World} {U:Nat→Prop} {x:PV} (hf:qtR x=true):PRep w U x (valX x):=by
 cases x with
 |tup cs=>exact ⟨_,rfl,(PRepL.valD (by simpa [qtR] using hf)).2 rfl⟩
 |int k n=>rfl
 |bool b=>rfl
 |str s=>rfl
 |_=>simp [qtR,qoB] at hf
theorem qbK {f:FuncId} {args:List PV} {r:PV} (ha:args.all qoB=true) (hr:qtR r=true) (h:∀ w,E.ok w→Calls P f (args.map valD).toArray w fun e w'=>e=.returned (valX r)∧Grow w w' (fun _=>False)):PCall P E f args (·=r):=by
 intro w U vs hU hE hEb hA
 rw [PRepL.valD ha] at hA
 subst hA
 refine (h w hE).mono ?_
 rintro e w' ⟨rfl,hg⟩
 exact ⟨_,r,rfl,rfl,PRep.valX hr,hg⟩
end
end Go.Proofs.YtjgdjinhkgjpeabGreatDoor
namespace Go.Proofs.YtjgdjinhkgjpeabGreatDoor
open Nat renaming le_trans→zt
open List renaming length_append→zm,map_cons→zx
open Option renaming map_eq_some_iff→zh
set_option maxHeartbeats 2000000 in
theorem qn4 {P:Program} (w:World) (base:Nat) (t u ty e:TypeId) (i:TypeInfo) (ht:P.underlying t=some (.slice e)) (hu:P.underlying u=some .string) (hi:P.info? e=some i) (hz:i.zero=some (.int .u8 0))
  (hsize:i.size=1) (hby:i.bytes=1) (v:Value) (n:Nat) (xs:List Value) (hown:w.ownsRow base e 1 v n xs) (s:ByteArray)
  (h63:n+s.size≤maxLen) (hbytes:n+s.size≤140737488355328) (hbase:base≤w.heap.size) :
  ∃ v' w',(Builtin.append_ #[t,u] ty #[v,.string s]).run P w=.ok v' w'∧w'.ownsRow base e 1 v' (n+s.size) (xs++Lib.strCells s)∧w.grownBy w' v.ownBlock∧
   ∀ x,v'.ownBlock=some x→v.ownBlock=some x∨w.heap.size≤x:=by
 have hxl:xs.length=n:=by simpa using hown.1
 have hlen:(xs++Lib.strCells s).length=(n+s.size) * 1:=by rw [zm,hxl,Lib.strCells_length,Nat.mul_one]
 rcases hown.2 with ⟨rfl,rfl⟩|⟨g,cap,cur,rfl,hbg,hg,hnc,hcm,hcs,htake⟩
 ·have h0:w.ownsRow w.heap.size e 1 (.slice none 0 0) 0 xs:=⟨hown.1,.inl ⟨rfl,rfl⟩⟩
  obtain ⟨v',w',h1,h2,h3,h4⟩:=Lib.run_append_own_string (P:=P) w w.heap.size t u ty e i ht hu hi hz hsize hby _ 0 xs h0 s h63 hbytes (Nat.le_refl _)
  refine ⟨v',w',h1,⟨h2.1,?_⟩,h3,fun x hx=>?_⟩
  ·rcases h2.2 with g1|⟨g,cap,cur,g1,g2,g3⟩
   ·exact .inl g1
   ·exact .inr ⟨g,cap,cur,g1,zt hbase g2,g3⟩
  ·rcases h2.2 with ⟨g1,_⟩|⟨g,cap,cur,g1,g2,g3⟩
   ·rw [g1] at hx;cases hx
   ·rw [g1] at hx;cases hx;exact .inr g2
 ·have hsmall:n+s.size≤9223372036854775807:=by simp only [maxLen] at h63;omega
  by_cases hroom:n+s.size≤cap
  ·have hcs':cur.size=cap:=by simpa using hcs
   have hr:=Lib.run_append_room_string (P:=P) w t u ty e i ht hu hi hsize g n cap cur hg s hroom (by omega)
   refine ⟨_,_,hr,⟨hlen,.inr ⟨g,cap,_,rfl,hbg,setRow_heap w g cur _ e _ hg,hroom,hcm,?_,?_⟩⟩,⟨rfl,rfl,rfl,by simp,fun k _ hk=>setRow_other w g k _ (fun e=>hk (by simp [Value.ownBlock,e]))⟩,fun x hx=>.inl hx⟩
   ·simp only [List.size_toArray,zm,List.length_take,List.length_drop,Array.length_toList,Lib.strCells_length]
    omega
   ·have ht':cur.toList.take n=xs:=by simpa using htake
    rw [ht',← hlen]
    exact List.take_left
  ·have holds:∀ j u,xs[j]?=some u→w.cell? ((⟨g,0,none⟩:Addr).add j)=some u:=hown.cells (g:=g) rfl
   have hr:=Lib.run_append_grow_string (P:=P) w t u ty e i (.int .u8 0) ht hu hi hz ⟨g,0,none⟩ n cap xs (by rw [hsize];simpa using hxl) holds s (by omega) (by omega) (by rw [hby];exact growslice_fits (by omega) (by omega))
   have hge:=grownCap_ge w (n+s.size) cap e
   have hcm2:grownCap w (n+s.size) cap e≤maxLen:=grownCap_le_maxLen w (n+s.size) cap e h63
   refine ⟨_,_,hr,⟨hlen,.inr ⟨w.heap.size,_,_,rfl,hbase,heap_alloc_new w.drew _,hge,hcm2,?_,?_⟩⟩,⟨rfl,rfl,rfl,by simp,fun k hk _=>Lib.alloc_old w.drew _ k hk⟩,fun x hx=>?_⟩
   ·have hz1:(Value.int IntKind.u8 0).cells.size=1:=rfl
    simp only [Array.size_append,List.size_toArray,size_zeroCells,hz1,hxl,Lib.strCells_length]
    omega
   ·simp only [Array.toList_append,List.append_assoc]
    rw [← List.append_assoc,← hlen]
    exact List.take_left
   ·simp [Value.ownBlock] at hx
    omega
theorem qj3 {P:Program} {w:World} {ops:Array Oper} {rest:List Oper} {o:Oper} {a:Act} {Q:Exit→Act→World→Prop} (hgd:o.guard=none) (sl x:Operand) (t u:TypeId)
  (ho:o.op=.call { callee:=.builtin .append,args:=#[sl,x],argTypes:=#[t,u] })
  (base:Nat) (e:TypeId) (i:TypeInfo) (ht:P.underlying t=some (.slice e)) (hu:P.underlying u=some .string) (hi:P.info? e=some i) (hz:i.zero=some (.int .u8 0))
  (hsize:i.size=1) (hby:i.bytes=1)
  (v:Value) (n:Nat) (xs:List Value) (hs:a.eval sl=v) (hown:w.ownsRow base e 1 v n xs) (s:ByteArray) (hx:a.eval x=.string s)
  (h63:n+s.size≤maxLen) (hbytes:n+s.size≤140737488355328) (hbase:base≤w.heap.size)
  (h:∀ v' w',w'.ownsRow base e 1 v' (n+s.size) (xs++Lib.strCells s)→w.grownBy w' v.ownBlock→(∀ x,v'.ownBlock=some x→v.ownBlock=some x∨w.heap.size≤x)→wpList P ops Q rest (a.put o.dst v') w'):wpList P ops Q (o :: rest) a w:=by
 refine wpList_plain hgd fun K hK=>?_
 obtain ⟨v',w',hr,h2,h3,h4⟩:=qn4 (P:=P) w base t u o.type e i ht hu hi hz hsize hby v n xs hown s h63 hbytes hbase
 unfold Oper.wp execOp
 simp only [ho,resolve,invoke,builtin,Sem.run_bind,Sem.run_pure,Result.andThen_ok,List.map_toArray,zx,List.map_nil,hs,hx,hr]
 exact hK _ _ (h v' w' h2 h3 h4)
def nilP:PV:=.raw (.pointer none)
def bytC (s:List UInt8):List (List PV):=s.map fun c=>[.int .u8 c.toNat]
def qed (w:World) (T:TypeId) (b x:Nat):Prop:=∃ p u,w.heap[b]?=some (.cells #[p,u] T (0,0))∧u.ownBlock=some x
def SbPost (T e:TypeId) (b:Nat) (bs:List UInt8) (w w':World):Prop:=
 (∃ v,w'.heap[b]?=some (.cells #[.pointer (some ⟨b,0,none⟩),v] T (0,0))∧w'.ownsRow 0 e 1 v bs.length (Lib.byteCells bs)∧v.ownBlock≠some b∧∀ x,v.ownBlock=some x→qed w T b x∨w.heap.size≤x)∧Grow w w' (fun x=>x=b∨qed w T b x)
def SbAt (L:Objs) (k:Key) (i:Nat) (T e:TypeId) (s:List UInt8):Prop:=
 (Zas L k=some (.box [.p nilP,.p (.nl 1)] T)∧s=[])∨(Zas L k=some (.box [.adr k 0,.row (.l i)] T)∧Zas L (.l i)=some (.row (bytC s) e 1 true))
def qgC (L:Objs) (k:Key) (i:Nat) (T e:TypeId) (s:List UInt8):Objs:=Zat (Zav L (.l i) (.row (bytC s) e 1 true)) k (.box [.adr k 0,.row (.l i)] T)
section
variable {w w1 w2:World} {T e:TypeId} {b:Nat} {v v':Value} {bs:List UInt8} {p:Value}
theorem qkA {o:Obj} (h:w.heap[b]?=some o):b < w.heap.size:=by
 rcases Nat.lt_or_ge b w.heap.size with h'|h'
 ·exact h'
 ·simp [Array.getElem?_eq_none h'] at h
theorem qh9 (h:w.heap[b]?=some (.cells #[p,v] T (0,0))) {x:Nat}:qed w T b x↔v.ownBlock=some x:=by
 constructor
 ·rintro ⟨q,u,h1,h2⟩
  rw [h] at h1
  simp at h1
  rw [h1.2];exact h2
 ·intro h2;exact ⟨_,_,h,h2⟩
theorem qrL (h:w.heap[b]?=some (.cells #[p,v] T (0,0))):(w.setCell ⟨b,1,none⟩ v').heap[b]?=some (.cells #[p,v'] T (0,0)):=by
 simp [World.setCell,Array.getElem?_modify,h]
theorem qhY {q:Value} (h:w.heap[b]?=some (.cells #[p,v] T (0,0))):(w.setCell ⟨b,0,none⟩ q).heap[b]?=some (.cells #[q,v] T (0,0)):=by
 simp [World.setCell,Array.getElem?_modify,h]
theorem qfZ {O:Nat→Prop} (off:Nat) (q:Value) (hO:O b):Grow w (w.setCell ⟨b,off,none⟩ q) O:=
 ⟨rfl,rfl,rfl,by simp [World.setCell],fun c _ hn=>heap_setCell_other _ _ _ _ (fun e=>hn (by subst e;exact hO))⟩
theorem qmJ (hTe:T≠e) (h1:Grow w w1 (·=b)) (hb1:∀ x,qed w1 T b x→qed w T b x) (hk1:w1.heap[b]?=some (.cells #[.pointer (some ⟨b,0,none⟩),v] T (0,0))) (hg:w1.grownBy w2 v.ownBlock) (hne:v.ownBlock≠some b)
  (hloc:∀ x,v'.ownBlock=some x→v.ownBlock=some x∨w1.heap.size≤x) (hown:w2.ownsRow 0 e 1 v' bs.length (Lib.byteCells bs)):SbPost T e b bs w (w2.setCell ⟨b,1,none⟩ v'):=by
 have hk2:w2.heap[b]?=some (.cells #[.pointer (some ⟨b,0,none⟩),v] T (0,0)):=by rw [hg.block b (qkA hk1) (fun e=>hne e.symm)];exact hk1
 have hne':=Lib.ownBlock_ne hown hk2 hTe
 refine ⟨⟨v',qrL hk2,?_,hne',fun x hx=>?_⟩,?_⟩
 ·exact hown.kept (row:=some b) ⟨rfl,rfl,rfl,by simp [World.setCell],fun k _ hk=>heap_setCell_other _ _ _ _ (fun e=>hk (by simp [e]))⟩ (Or.inr hne')
 ·rcases hloc x hx with h|h
  ·exact .inl (hb1 x ((qh9 hk1).2 h))
  ·exact .inr (zt h1.size h)
 ·refine ⟨hg.os.trans h1.os,hg.tape.trans h1.tape,hg.output.trans h1.output,zt h1.size (zt hg.size (by simp [World.setCell])),fun c hc hn=>?_⟩
  have e1:=h1.block c hc (fun e=>hn (.inl e))
  have e2:=hg.block c (Nat.lt_of_lt_of_le hc h1.size) (fun e=>hn (.inr (hb1 c ((qh9 hk1).2 e.symm))))
  rw [heap_setCell_other _ _ _ _ (fun e=>hn (.inl (by simpa using e))),e2,e1]
def qsC (T e:TypeId) (b:Nat) (bs:List Value) (w w1:World):Prop:=
 ∃ v,w1.heap[b]?=some (.cells #[.pointer (some ⟨b,0,none⟩),v] T (0,0))∧w1.ownsRow 0 e 1 v bs.length bs∧v.ownBlock≠some b∧Grow w w1 (·=b)∧∀ x,qed w1 T b x→qed w T b x
theorem qoH {bs:List Value} (h:Lib.BuilderAt T e 0 b (.pointer (some ⟨b,0,none⟩)) bs w):qsC T e b bs w w:=by
 obtain ⟨_,v,h1,h2,h3⟩:=h
 exact ⟨v,h1,h2,h3,Grow.refl _ _,fun _ h=>h⟩
theorem qnt {bs:List Value} (h:Lib.BuilderAt T e 0 b (.pointer none) bs w):qsC T e b bs w (w.setCell ⟨b,0,none⟩ (.pointer (some ⟨b,0,none⟩))):=by
 obtain ⟨_,v,h1,h2,h3⟩:=h
 refine ⟨v,qhY h1,?_,h3,qfZ 0 _ rfl,fun x hx=>?_⟩
 ·exact h2.kept (row:=some b) ⟨rfl,rfl,rfl,by simp [World.setCell],fun k _ hk=>heap_setCell_other _ _ _ _ (fun e=>hk (by simp [e]))⟩ (Or.inr h3)
 ·exact (qh9 h1).2 ((qh9 (qhY h1)).1 hx)
theorem qow {g n:Nat} {O:Nat→Prop} (hg:O g):Grow w (w.drew.freeze ⟨g,0,none⟩ n) O:=by
 unfold World.freeze
 split
 ·exact (Grow.refl w O).drew
 ·exact ⟨rfl,rfl,rfl,by simp,fun k hk hn=>by
   simp only [Array.getElem?_modify]
   rw [if_neg (fun e=>hn (by subst e;exact hg))]
   rfl⟩
theorem qox {o:Obj} {O:Nat→Prop}:Grow w (w.drew.alloc o) O:=⟨rfl,rfl,rfl,by simp,fun k hk _=>Lib.alloc_old w.drew _ k hk⟩
theorem SbPost.of_grown (hTe:T≠e) {cs:Array Value} (hbk:w.heap[b]?=some (.cells #[.pointer (some ⟨b,0,none⟩),.slice none 0 0] T (0,0))) (hm:cs.size≤maxLen) :
  SbPost T e b [] w ((w.alloc (.cells cs e)).setCell ⟨b,1,none⟩ (.slice (some ⟨w.heap.size,0,none⟩) 0 cs.size)).drew.drew.drew:=by
 have h:SbPost T e b [] w ((w.alloc (.cells cs e)).setCell ⟨b,1,none⟩ (.slice (some ⟨w.heap.size,0,none⟩) 0 cs.size)):=by
  refine qmJ (w1:=w) hTe (Grow.refl _ _) (fun _ h=>h) hbk (w2:=w.alloc (.cells cs e)) ⟨rfl,rfl,rfl,by simp,fun k hk _=>Lib.alloc_old w _ k hk⟩ (by simp [Value.ownBlock]) (fun x hx=>?_) ?_
  ·simp [Value.ownBlock] at hx;omega
  ·exact ⟨rfl,.inr ⟨w.heap.size,cs.size,cs,rfl,Nat.zero_le _,heap_alloc_new w _,Nat.zero_le _,hm,by simp,by simp [Lib.byteCells]⟩⟩
 obtain ⟨⟨u,h1,h2,h3,h4⟩,hG⟩:=h
 exact ⟨⟨u,h1,h2,h3,h4⟩,hG.drew.drew.drew⟩
theorem SbPost.behind {q:Value} (hbk:w.heap[b]?=some (.cells #[q,.slice none 0 0] T (0,0))) (h:SbPost T e b bs (w.setCell ⟨b,0,none⟩ (.pointer (some ⟨b,0,none⟩))).drew w2):SbPost T e b bs w w2:=by
 obtain ⟨⟨u,h1,h2,h3,h4⟩,hG⟩:=h
 have hk:=qhY (q:=.pointer (some ⟨b,0,none⟩)) hbk
 have hno:∀ x,¬ qed (w.setCell ⟨b,0,none⟩ (.pointer (some ⟨b,0,none⟩))).drew T b x:=fun x hx=>by
  have:=(qh9 (w:=(w.setCell ⟨b,0,none⟩ (.pointer (some ⟨b,0,none⟩))).drew) hk).1 hx
  simp [Value.ownBlock] at this
 refine ⟨⟨u,h1,h2,h3,fun x hx=>?_⟩,?_⟩
 ·rcases h4 x hx with h|h
  ·exact (hno x h).elim
  ·exact .inr (by simpa [World.setCell] using h)
 ·refine (qfZ (w:=w) 0 (.pointer (some ⟨b,0,none⟩)) (O:=fun x=>x=b∨qed w T b x) (.inl rfl)).drew.trans hG (fun c hc=>?_)
  rcases hc with h|h
  ·exact .inl (.inl h)
  ·exact (hno c h).elim
theorem SbPost.of_used {q:Value} (hbk:w.heap[b]?=some (.cells #[q,.slice none 0 0] T (0,0))):SbPost T e b [] w (w.setCell ⟨b,0,none⟩ (.pointer (some ⟨b,0,none⟩))).drew:=by
 refine ⟨⟨.slice none 0 0,qhY hbk,World.ownsRow_nil _ _ _ _,by simp [Value.ownBlock],fun x hx=>by simp [Value.ownBlock] at hx⟩,?_⟩
 exact (qfZ (w:=w) 0 (.pointer (some ⟨b,0,none⟩)) (O:=fun x=>x=b∨qed w T b x) (.inl rfl)).drew
end
section
variable {P:Program} {E:Envt} {w w':World} {X:Nat→Prop} {U:Nat→Prop} {L:Objs} {ι:Key→Value} {k:Key} {i:Nat} {T e:TypeId} {s s':List UInt8}
theorem qpG:(bytC s).length=s.length:=by simp [bytC]
theorem bytC_rep:∀ {s:List UInt8} {vs:List Value},PRepL w U (bytC s).flatten vs↔vs=Lib.byteCells s
 |[],vs=>by simp [bytC,PRepL,Lib.byteCells]
 |c :: r,vs=>by
  have ih:∀ vs,PRepL w U (bytC r).flatten vs↔vs=Lib.byteCells r:=fun vs=>bytC_rep
  simp only [bytC,zx,List.flatten_cons,List.cons_append,List.nil_append,PRepL,PRep,Lib.byteCells] at ih ⊢
  constructor
  ·rintro ⟨v,r',rfl,rfl,h⟩
   rw [(ih r').1 h]
  ·rintro rfl
   exact ⟨_,_,rfl,rfl,(ih _).2 rfl⟩
theorem qkx (hs:Sim w X L ι) {k j:Key} {a q:AO} (h1:Zas L k=some a) (h2:Zas L j=some q) (hne:k≠j) {b:Nat} (hb:blk (ι k)=some b):blk (ι j)≠some b:=fun h=>hne (hs.inj k j a q b h1 h2 hb h)
set_option maxHeartbeats 2000000 in
theorem qk8 (hs:Sim w X L ι) (hki:k≠.l i) (h:SbAt L k i T e s):∃ b,ι k=.pointer (some ⟨b,0,none⟩)∧(∃ a,Zas L k=some a)∧Lib.IsBuilder T e 0 b (Lib.byteCells s) w∧(∀ x,qed w T b x→Old L ι (.l i) x)∧(Zas L k=some (.box [.p nilP,.p (.nl 1)] T)→w.heap[b]?=some (.cells #[.pointer none,.slice none 0 0] T (0,0))):=by
 rcases h with ⟨h1,rfl⟩|⟨h1,h2⟩
 ·obtain ⟨b,vs,e1,e2,e3,e4,e5⟩:=hs.obj k _ h1
  obtain ⟨v0,f0,r0⟩:=e5 0 _ rfl
  obtain ⟨v1,f1,r1⟩:=e5 1 _ rfl
  simp only [ARep,PRep,nilP] at r0 r1
  have hvs:vs=[.pointer none,.slice none 0 0]:=by
   match vs,e3,f0,f1 with
   |[x,y],_,f0,f1=>
    simp at f0 f1
    rw [f0,f1,r0.1,r1]
  subst hvs
  refine ⟨b,e1,⟨_,h1⟩,.inl ⟨Nat.zero_le _,.slice none 0 0,e2,World.ownsRow_nil _ _ _ _,by simp [Value.ownBlock]⟩,?_,fun _=>e2⟩
  rintro x ⟨p,u,g1,g2⟩
  rw [g1] at e2
  simp at e2
  rw [e2.2] at g2
  simp [Value.ownBlock] at g2
 ·obtain ⟨b,vs,e1,e2,e3,e4,e5⟩:=hs.obj k _ h1
  obtain ⟨v0,f0,r0⟩:=e5 0 _ rfl
  obtain ⟨v1,f1,r1⟩:=e5 1 _ rfl
  obtain ⟨b',q1,q2⟩:=r0
  obtain ⟨q3,q4⟩:=r1
  have hbb:b'=b:=by rw [e1] at q1;cases q1;rfl
  subst hbb
  have hvs:vs=[.pointer (some ⟨b',0,none⟩),ι (.l i)]:=by
   match vs,e3,f0,f1 with
   |[x,y],_,f0,f1=>
    simp at f0 f1
    rw [f0,f1,q2,q3]
  subst hvs
  obtain ⟨us,u1,u2,u3,u4⟩:=hs.obj (.l i) _ h2
  rw [bytC_rep] at u3
  subst u3
  have hsl:∃ A n c,ι (.l i)=.slice A n c:=by rw [← q3];exact q4
  have hbk:blk (ι (.l i))=(ι (.l i)).ownBlock:=qbu (b:=0) hsl
  refine ⟨b',e1,⟨_,h1⟩,.inr ⟨Nat.zero_le _,ι (.l i),e2,?_,?_⟩,?_,fun hf=>by rw [h1] at hf;cases hf⟩
  ·have:=u1.owns
   rw [qpG] at this
   simpa [Lib.byteCells] using this
  ·rw [← hbk]
   exact qkx hs h1 h2 hki (by rw [e1];rfl)
  ·rintro x ⟨p,u,g1,g2⟩
   rw [g1] at e2
   simp at e2
   rw [e2.2,← hbk] at g2
   exact ⟨_,h2,g2⟩
theorem qgy (j:Key):Zas (qgC L k i T e s) j=if j=k then some (.box [.adr k 0,.row (.l i)] T) else if j=.l i then some (.row (bytC s) e 1 true) else (Zas L j).map (AO.kill (.l i)):=by
 unfold qgC
 rw [qag,qb0]
set_option maxHeartbeats 2000000 in
theorem qvH {f:FuncId} {as:List AV} {vr:List Value} {x:PV} {v:Value} (hki:k≠.l i) (hat:SbAt L k i T e s) (ha:∀ w U ι vs,ARepL w U ι as vs→vs=vr) (hx:∀ w U,PRep w U x v)
  (hc:∀ b w,Lib.IsBuilder T e 0 b (Lib.byteCells s) w→(Zas L k=some (.box [.p nilP,.p (.nl 1)] T)→w.heap[b]?=some (.cells #[.pointer none,.slice none 0 0] T (0,0)))→Calls P f (.pointer (some ⟨b,0,none⟩) :: vr).toArray w fun ev w'=>ev=.returned v∧SbPost T e b s' w w')
  {K:AV→Objs→Prop} (hK:K (.p x) (qgC L k i T e s')):Call P E f (.adr k 0 :: as) L i K:=by
 intro w X ι vs hs hX hE hEb hA
 simp only [ARepL] at hA
 obtain ⟨v0,vr',rfl,⟨b0,hv1,hv2⟩,hA⟩:=hA
 have:=ha _ _ _ _ hA
 subst this
 obtain ⟨b,hb1,⟨ak,hak⟩,hib,hbuf,hfr⟩:=qk8 hs hki hat
 have hbb:b0=b:=by rw [hb1] at hv1;cases hv1;rfl
 subst hbb
 subst hv2
 refine (hc b0 w hib hfr).mono ?_
 rintro ev w' ⟨rfl,⟨u,p1,p2,p3,p4⟩,hG⟩
 have hOk:Own L ι b0:=⟨k,ak,hak,by rw [hb1];rfl⟩
 have hGo:∀ c,(c=b0∨qed w T b0 c)→Own L ι c:=by
  rintro c (rfl|h)
  ·exact hOk
  ·obtain ⟨q,h1,h2⟩:=hbuf c h;exact ⟨_,q,h1,h2⟩
 have husl:=qau p2
 have hubk:blk u=u.ownBlock:=qbu (b:=0) husl
 have hik:updI ι (.l i) u k=ι k:=by simp [updI,hki]
 have hii:updI ι (.l i) u (.l i)=u:=by simp [updI]
 have hown:∀ c,Own (qgC L k i T e s') (updI ι (.l i) u) c→Own L ι c∨w.heap.size≤c:=by
  rintro c ⟨j,q,h1,h2⟩
  by_cases e1:j=k
  ·subst e1;rw [hik] at h2;exact .inl ⟨j,ak,hak,h2⟩
  ·by_cases e2:j=.l i
   ·subst e2
    rw [hii,hubk] at h2
    rcases p4 c h2 with h|h
    ·exact .inl (hGo c (.inr h))
    ·exact .inr h
   ·rw [qgy,if_neg e1,if_neg e2] at h1
    obtain ⟨q',h3,_⟩:=zh.1 h1
    refine .inl ⟨j,q',h3,?_⟩
    simpa [updI,e2] using h2
 have hgrow:Grow w w' (Own L ι):=⟨hG.os,hG.tape,hG.output,hG.size,fun c hc hn=>hG.block c hc (fun h=>hn (hGo c h))⟩
 have hk:Keeps w w' (fun c=>Own L ι c∨X c) (fun c=>Own (qgC L k i T e s') (updI ι (.l i) u) c∨X c):=by
  intro c hlt hu
  refine ⟨hgrow.block c hlt (fun h=>hu (.inl h)),?_⟩
  rintro (h|h)
  ·rcases hown c h with h'|h'
   ·exact hu (.inl h')
   ·omega
  ·exact hu (.inr h)
 refine ⟨v,.p x,_,updI ι (.l i) u,rfl,hK,hx _ _,⟨⟨?_,?_⟩,hgrow,hown,fun j hj=>by simp [updI,hj],?_⟩⟩
 ·intro j q hj
  rw [qgy] at hj
  by_cases e1:j=k
  ·subst e1
   rw [if_pos rfl] at hj
   cases hj
   refine ⟨b0,[.pointer (some ⟨b0,0,none⟩),u],by rw [hik];exact hb1,p1,rfl,?_,?_⟩
   ·intro y hy
    simp only [List.mem_cons,List.not_mem_nil,or_false] at hy
    rcases hy with rfl|rfl
    ·rfl
    ·obtain ⟨A,n,c,rfl⟩:=husl;rfl
   ·intro m a hm
    match m,hm with
    |0,hm=>simp at hm;subst hm;exact ⟨_,rfl,b0,by rw [hik];exact hb1,rfl⟩
    |1,hm=>simp at hm;subst hm;exact ⟨_,rfl,by rw [hii],husl⟩
  ·rw [if_neg e1] at hj
   by_cases e2:j=.l i
   ·subst e2
    rw [if_pos rfl] at hj
    cases hj
    refine ⟨Lib.byteCells s',?_,?_,bytC_rep.2 rfl,?_⟩
    ·rw [hii,qpG];exact RowOk.of_owns p2
    ·intro y hy
     simp only [Lib.byteCells,List.mem_map] at hy
     obtain ⟨c,_,rfl⟩:=hy
     rfl
    ·intro y hy
     simp only [bytC,List.mem_map] at hy
     obtain ⟨c,_,rfl⟩:=hy
     rfl
   ·rw [if_neg e2] at hj
    obtain ⟨q',h1,rfl⟩:=zh.1 hj
    have ho:=hs.obj j q' h1
    refine ObjOk.other e2 hk (fun c hcj=>hG.block c (ho.blk_lt hcj) ?_) ho
    rintro (rfl|h)
    ·exact qkx hs hak h1 (fun e=>e1 e.symm) (by rw [hb1];rfl) hcj
    ·obtain ⟨q2,h2,h3⟩:=hbuf c h
     exact qkx hs h2 h1 (fun e=>e2 e.symm) h3 hcj
 ·have hin:∀ j q c,Zas (qgC L k i T e s') j=some q→blk (updI ι (.l i) u j)=some c→(j=.l i∧u.ownBlock=some c)∨(j≠.l i∧∃ q',Zas L j=some q'∧blk (ι j)=some c):=by
   intro j q c hj hc
   by_cases e2:j=.l i
   ·subst e2;rw [hii,hubk] at hc;exact .inl ⟨rfl,hc⟩
   ·refine .inr ⟨e2,?_⟩
    rw [qgy] at hj
    have hc':blk (ι j)=some c:=by simpa [updI,e2] using hc
    by_cases e1:j=k
    ·subst e1;exact ⟨ak,hak,hc'⟩
    ·rw [if_neg e1,if_neg e2] at hj
     obtain ⟨q',h1,_⟩:=zh.1 hj
     exact ⟨q',h1,hc'⟩
  have hclash:∀ j c,u.ownBlock=some c→j≠.l i→(∃ q',Zas L j=some q'∧blk (ι j)=some c)→False:=by
   rintro j c h1 h2 ⟨q',h3,h4⟩
   rcases p4 c h1 with h|h
   ·obtain ⟨q2,h5,h6⟩:=hbuf c h
    exact qkx hs h5 h3 (fun e=>h2 e.symm) h6 h4
   ·have:=(hs.obj j q' h3).blk_lt h4
    omega
  intro j j' q q' c hj hj' hc hc'
  rcases hin j q c hj hc with ⟨rfl,h1⟩|⟨h1,h2⟩<;>rcases hin j' q' c hj' hc' with ⟨rfl,h3⟩|⟨h3,h4⟩
  ·rfl
  ·exact (hclash _ c h1 h3 h4).elim
  ·exact (hclash _ c h3 h1 h2).elim
  ·obtain ⟨q1,g1,g2⟩:=h2
   obtain ⟨q2,g3,g4⟩:=h4
   exact hs.inj j j' q1 q2 c g1 g3 g2 g4
 ·intro j hj
  rw [qgy] at hj
  by_cases e1:j=k
  ·subst e1;exact .inl (by rw [hak];rfl)
  ·by_cases e2:j=.l i
   ·exact .inr e2
   ·rw [if_neg e1,if_neg e2] at hj
    exact .inl (by simpa using hj)
theorem qxk {f:FuncId} {x:PV} {v:Value} (hki:k≠.l i) (hat:SbAt L k i T e s) (hx:∀ w U,PRep w U x v)
  (hc:∀ b w,Lib.IsBuilder T e 0 b (Lib.byteCells s) w→Calls P f #[.pointer (some ⟨b,0,none⟩)] w fun ev w'=>ev=.returned v∧w'=w):qg5 P E f [.adr k 0] L (·=x):=by
 intro w X ι vs hs hX hE hEb hA
 simp only [ARepL] at hA
 obtain ⟨v0,vr',rfl,⟨b0,hv1,hv2⟩,hA⟩:=hA
 subst hA
 obtain ⟨b,hb1,_,hib,hbuf,hfr⟩:=qk8 hs hki hat
 have hbb:b0=b:=by rw [hb1] at hv1;cases hv1;rfl
 subst hbb
 subst hv2
 refine (hc b0 w hib).mono ?_
 rintro ev w' ⟨rfl,rfl⟩
 exact ⟨v,x,rfl,rfl,hx _ _,Grow.refl _ _⟩
def qnj (L:Objs) (k:Key) (i:Nat):Objs:=delO (delO L k) (.l i)
theorem qqb (j:Key):Zas (qnj L k i) j=if j=.l i∨j=k then none else Zas L j:=by
 unfold qnj
 rw [qfL,qfL]
 by_cases h1:j=.l i<;>by_cases h2:j=k<;>simp [h1,h2]
set_option maxHeartbeats 2000000 in
theorem qq5 {f:FuncId} (hki:k≠.l i) (hat:SbAt L k i T e s)
  (hc:∀ b w,Lib.IsBuilder T e 0 b (Lib.byteCells s) w→Calls P f #[.pointer (some ⟨b,0,none⟩)] w fun ev w'=>ev=.returned (.string ⟨s.toArray⟩)∧Grow w w' (fun x=>x=b∨qed w T b x))
  {K:AV→Objs→Prop} (hK:K (.p (.str s)) (qnj L k i)):Call P E f [.adr k 0] L i K:=by
 intro w X ι vs hs hX hE hEb hA
 simp only [ARepL] at hA
 obtain ⟨v0,vr',rfl,⟨b0,hv1,hv2⟩,hA⟩:=hA
 subst hA
 obtain ⟨b,hb1,⟨ak,hak⟩,hib,hbuf,hfr⟩:=qk8 hs hki hat
 have hbb:b0=b:=by rw [hb1] at hv1;cases hv1;rfl
 subst hbb
 subst hv2
 refine (hc b0 w hib).mono ?_
 rintro ev w' ⟨rfl,hG⟩
 have hGo:∀ c,(c=b0∨qed w T b0 c)→Own L ι c:=by
  rintro c (rfl|h)
  ·exact ⟨k,ak,hak,by rw [hb1];rfl⟩
  ·obtain ⟨q,h1,h2⟩:=hbuf c h;exact ⟨_,q,h1,h2⟩
 have hsub:∀ j q,Zas (qnj L k i) j=some q→j≠.l i∧j≠k∧Zas L j=some q:=by
  intro j q hj
  rw [qqb] at hj
  by_cases h:j=.l i∨j=k
  ·rw [if_pos h] at hj;cases hj
  ·rw [if_neg h] at hj;exact ⟨fun e=>h (.inl e),fun e=>h (.inr e),hj⟩
 have hown:∀ c,Own (qnj L k i) ι c→Own L ι c:=by
  rintro c ⟨j,q,h1,h2⟩
  exact ⟨j,q,(hsub j q h1).2.2,h2⟩
 have hgrow:Grow w w' (Own L ι):=⟨hG.os,hG.tape,hG.output,hG.size,fun c hc hn=>hG.block c hc (fun h=>hn (hGo c h))⟩
 have hk:Keeps w w' (fun c=>Own L ι c∨X c) (fun c=>Own (qnj L k i) ι c∨X c):=fun c hlt hu=>⟨hgrow.block c hlt (fun h=>hu (.inl h)),fun h=>hu (h.imp (hown c) id)⟩
 refine ⟨_,.p (.str s),_,ι,rfl,hK,rfl,⟨⟨fun j q hj=>?_,fun j j' q q' c hj hj' h1 h2=>hs.inj j j' q q' c (hsub j q hj).2.2 (hsub j' q' hj').2.2 h1 h2⟩,hgrow,fun c h=>.inl (hown c h),fun j hj=>rfl,fun j hj=>?_⟩⟩
 ·obtain ⟨e2,e1,h1⟩:=hsub j q hj
  have ho:=hs.obj j q h1
  have hne:∀ c,blk (ι j)=some c→w'.heap[c]?=w.heap[c]?:=by
   intro c hcj
   refine hG.block c (ho.blk_lt hcj) ?_
   rintro (rfl|h)
   ·exact qkx hs hak h1 (fun e=>e1 e.symm) (by rw [hb1];rfl) hcj
   ·obtain ⟨q2,h2,h3⟩:=hbuf c h
    exact qkx hs h2 h1 (fun e=>e2 e.symm) h3 hcj
  exact ObjOk.mono hk hne ho
 ·obtain ⟨q,hq⟩:=Option.isSome_iff_exists.1 hj
  exact .inl (by rw [(hsub j q hq).2.2];rfl)
variable {fr:List AV} {d:Option Nat} {is:List IOper} {Y:List PV} {K:List AV→Objs→Prop}
theorem useW {f:FuncId} {as:List AV} {vr:List Value} {x:PV} {v:Value} (i:Nat) (T e:TypeId) (s s':List UInt8) (hat:SbAt L k i T e s) (hki:k≠.l i) (ha:∀ w U ι vs,ARepL w U ι as vs→vs=vr) (hx:∀ w U,PRep w U x v)
  (hc:∀ b w,Lib.IsBuilder T e 0 b (Lib.byteCells s) w→(Zas L k=some (.box [.p nilP,.p (.nl 1)] T)→w.heap[b]?=some (.cells #[.pointer none,.slice none 0 0] T (0,0)))→Calls P f (.pointer (some ⟨b,0,none⟩) :: vr).toArray w fun ev w'=>ev=.returned v∧SbPost T e b s' w w')
  (hk:qaa P E Y is (Zg (fr.map (·.kill (.l i))) d (.p x)) (qgC L k i T e s') K):qa5 P E f (.adr k 0 :: as) L d fr (qcV P E Y is K):=
 .inr (.inr ⟨i,qvH hki hat ha hx hc hk⟩)
theorem qyp {f:FuncId} (i:Nat) (T e:TypeId) (s:List UInt8) (hat:SbAt L k i T e s) (hki:k≠.l i)
  (hc:∀ b w,Lib.IsBuilder T e 0 b (Lib.byteCells s) w→Calls P f #[.pointer (some ⟨b,0,none⟩)] w fun ev w'=>ev=.returned (.string ⟨s.toArray⟩)∧Grow w w' (fun x=>x=b∨qed w T b x))
  (hk:qaa P E Y is (Zg (fr.map (·.kill (.l i))) d (.p (.str s))) (qnj L k i) K):qa5 P E f [.adr k 0] L d fr (qcV P E Y is K):=
 .inr (.inr ⟨i,qq5 hki hat hc hk⟩)
theorem qyq {f:FuncId} {x:PV} {v:Value} (i:Nat) (T e:TypeId) (s:List UInt8) (hat:SbAt L k i T e s) (hki:k≠.l i) (hx:∀ w U,PRep w U x v)
  (hc:∀ b w,Lib.IsBuilder T e 0 b (Lib.byteCells s) w→Calls P f #[.pointer (some ⟨b,0,none⟩)] w fun ev w'=>ev=.returned v∧w'=w)
  (hk:qaa P E Y is (Zg fr d (.p x)) L K):qa5 P E f [.adr k 0] L d fr (qcV P E Y is K):=
 .inl ⟨(·=x),qxk hki hat hx hc,fun y hy=>by rw [hy];exact hk⟩
end
end Go.Proofs.YtjgdjinhkgjpeabGreatDoor
