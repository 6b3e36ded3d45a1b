import Derived.Test.YtinffddgojhdfaaGreatDoorZ3
import Derived.Test.YtinffddgojhdfaaGreatDoorZ1
set_option linter.unusedVariables false
set_option linter.unusedSimpArgs false
set_option linter.defProp false
namespace Go.Proofs.YtinffddgojhdfaaGreatDoor
section
variable {P:Program} {E:Envt} {Y:List PV} {fr:List AV} {L:Objs}
def InvT (d:Nat) (fr:List AV) (L:Objs):Prop:=(fr.set d .any).map (·.kill (.l d))=fr.set d .any∧Zau (.l d) L=L∧(fr.getD d .any=.any∨fr.getD d .any=.adr (.l d) 0)
def InvA (ts:List Nat) (fr:List AV) (L:Objs):Prop:=∀ d∈ts,InvT d fr L
theorem okT_cases {ts:List Nat} {i:IOper} (h:okT ts i=true):(∃ d t z,i=⟨some d,.alcd t z,none⟩∧d∈ts)∨(∃ sz d x,i=⟨none,.st sz (.t d) x,none⟩∧d∈ts∧∀ s∈slots x,s∉ts)∨(∃ l,readsI i=some l∧nfree i.op=true∧(∀ s∈l,s∉ts)∧∀ d,i.dst=some d→d∉ts):=by
 unfold okT at h
 split at h
 ·exact .inl ⟨_,_,_,rfl,by simpa using h⟩
 ·rw [Bool.and_eq_true,List.all_eq_true] at h
  exact .inr (.inl ⟨_,_,_,rfl,by simpa using h.1,fun s hs=>by simpa using h.2 s hs⟩)
 ·split at h
  ·rename_i l hl
   rw [Bool.and_eq_true,Bool.and_eq_true,List.all_eq_true] at h
   refine .inr (.inr ⟨l,hl,h.1.1,fun s hs=>by simpa using h.1.2 s hs,fun d hd=>?_⟩)
   have:=h.2
   rw [hd] at this
   simpa using this
  ·cases h
theorem sx_any {i:IOper} {l:List Nat} {d:Nat} (h:readsI i=some l) (hd:d∉l):sx P E Y (fr.set d .any) L i=sx P E Y fr L i:=sx_setD (d:=some d) h fun e he=>by cases he;exact hd
theorem sx_putT {i:IOper} {l:List Nat} {d:Nat} {a:AO} (h:readsI i=some l) (hf:nfree i.op=true) (hd:d∉l) (hI:InvT d fr L):sx P E Y fr (Zat L (.l d) a) i=sx P E Y fr L i:=by
 rw [← sx_any h hd,sx_putN hf (by rw [h];rfl) hI.1,sx_any h hd]
theorem getD_setD {d:Nat} {e:Option Nat} {r:AV} (h:∀ q,e=some q→q≠d):(Zg fr e r).getD d .any=fr.getD d .any:=by
 cases e with
 |none=>rfl
 |some q=>simp only [Zg,List.getD];rw [List.getElem?_set_ne (h q rfl)]
theorem setD_set {d:Nat} {e:Option Nat} {r q:AV} (h:∀ q,e=some q→q≠d):(Zg fr e r).set d q=Zg (fr.set d q) e r:=by
 cases e with
 |none=>rfl
 |some k=>simp only [Zg];exact List.set_comm _ _ (h k rfl)
theorem InvT.setD {d:Nat} {e:Option Nat} {r:AV} (hI:InvT d fr L) (he:∀ q,e=some q→q≠d) (hr:r.kill (.l d)=r):InvT d (Zg fr e r) L:=
 ⟨by rw [setD_set he];exact set_fix hI.1 hr,hI.2.1,by rw [getD_setD he];exact hI.2.2⟩
theorem inv_sx {ts:List Nat} {i:IOper} {l:List Nat} {c:Prop} {r:AV} (h:readsI i=some l) (hl:∀ s∈l,s∉ts) (hd:∀ d,i.dst=some d→d∉ts) (hI:InvA ts fr L) (hs:sx P E Y fr L i=some (c,r)):InvA ts (Zg fr i.dst r) L:=fun d hm=>
 (hI d hm).setD (fun q hq e=>hd q hq (e ▸ hm)) (sx_fix (by rw [h];rfl) (hI d hm).1 (hI d hm).2.1 (by rw [sx_any h (fun hc=>hl d hc hm)];exact hs))
theorem InvT.put {d:Nat} {k:Key} {a:AO} (hI:InvT d fr L) (ha:a.kill (.l d)=a):InvT d fr (Zat L k a):=⟨hI.1,put_fix hI.2.1 ha,hI.2.2⟩
theorem inv_alcd {ts:List Nat} {e:Nat} {t:TypeId} {zero:List PV} (hI:InvA ts fr L):InvA ts (fr.set e (.adr (.l e) 0)) (Zat L (.l e) (.box (zero.map .p) t)):=by
 intro d hm
 by_cases he:e=d
 ·subst he
  refine ⟨by rw [List.set_set];exact (hI e hm).1,put_fix (hI e hm).2.1 boxp_fix,?_⟩
  by_cases hl:e < fr.length
  ·right;simp [List.getD,hl]
  ·left;simp [List.getD,List.getElem?_eq_none,hl]
 ·have:=((hI d hm).put (k:=.l e) (a:=.box (zero.map .p) t) boxp_fix).setD (e:=some e) (r:=.adr (.l e) 0) (fun q hq=>by cases hq;exact he) (by simp [AV.kill,he])
  exact this
theorem st_t {sz e:Nat} {x:Opd} {c:Prop} {L':Objs} (hI:InvT e fr L) (hx:e∉slots x) (h:stx fr L sz (.t e) x=some (c,L')) :
  ∃ cs bt vals,Zas L (.l e)=some (.box cs bt)∧L'=Zat L (.l e) (.box (Zac cs 0 vals) bt)∧(∀ d,(fr.set d .any).map (·.kill (.l d))=fr.set d .any→d∉slots x→∀ v∈vals,v.kill (.l d)=v)∧
   ∀ L2,Zas L2 (.l e)=Zas L (.l e)→(∀ k kv a b,Zas L k=some (.map kv a b)→Zas L2 k=some (.map kv a b))→stx fr L2 sz (.t e) x=some (c,Zat L2 (.l e) (.box (Zac cs 0 vals) bt)):=by
 rcases hI.2.2 with h0|h0
 ·have hp:(rd fr (.t e)).un=(True,.any):=by simp only [rd,h0];rfl
  simp [stx,Ze,hp] at h
 have hp:(rd fr (.t e)).un=(True,.adr (.l e) 0):=by simp only [rd,h0];rfl
 simp only [stx,Ze,hp] at h ⊢
 have hk:∀ d,(fr.set d .any).map (·.kill (.l d))=fr.set d .any→d∉slots x→(rd fr x).un.2.kill (.l d)=(rd fr x).un.2:=by
  intro d h1 h2
  rw [← rd_set (r:=.any) h2]
  exact rdu_fix h1 (c:=(rd (fr.set d .any) x).un.1) rfl
 generalize hv:(rd fr x).un=q at h hk ⊢
 obtain ⟨cx,v⟩:=q
 simp only at hk
 cases v with
 |p v=>
  simp only at h ⊢
  split at h
  ·rename_i cs bt hl
   split at h
   ·rename_i hc
    simp only [Option.map_some,Option.some.injEq,Prod.mk.injEq] at h
    obtain ⟨rfl,rfl⟩:=h
    refine ⟨cs,bt,(Zz v).map .p,hl,rfl,fun d _ _ y hy=>by obtain ⟨z,_,rfl⟩:=List.mem_map.1 hy;rfl,fun L2 h2 _=>?_⟩
    rw [h2,hl]
    simp only [if_pos hc,Option.map_some]
   ·cases h
  ·cases h
 |row k=>
  simp only at h ⊢
  split at h
  ·rename_i cs bt hl
   split at h
   ·rename_i hc
    simp only [Option.map_some,Option.some.injEq,Prod.mk.injEq] at h
    obtain ⟨rfl,rfl⟩:=h
    refine ⟨cs,bt,[.row k],hl,rfl,fun d h1 h2 y hy=>by rw [List.mem_singleton] at hy;subst hy;exact hk d h1 h2,fun L2 h2 _=>?_⟩
    rw [h2,hl]
    simp only [if_pos hc,Option.map_some]
   ·cases h
  ·cases h
 |mp k=>
  simp only at h ⊢
  split at h
  ·rename_i cs bt kv ta tb hl hm
   split at h
   ·rename_i hc
    simp only [Option.map_some,Option.some.injEq,Prod.mk.injEq] at h
    obtain ⟨rfl,rfl⟩:=h
    refine ⟨cs,bt,[.mp k],hl,rfl,fun d h1 h2 y hy=>by rw [List.mem_singleton] at hy;subst hy;exact hk d h1 h2,fun L2 h2 h3=>?_⟩
    rw [h2,hl,h3 k _ _ _ hm]
    simp only [if_pos hc,Option.map_some]
   ·cases h
  ·cases h
 |fn f ks=>
  cases ks with
  |cons _ _=>simp at h
  |nil=>
   simp only at h ⊢
   split at h
   ·rename_i cs bt hl
    split at h
    ·rename_i hc
     simp only [Option.map_some,Option.some.injEq,Prod.mk.injEq] at h
     obtain ⟨rfl,rfl⟩:=h
     refine ⟨cs,bt,[.p (.clo f [])],hl,rfl,fun d _ _ y hy=>by rw [List.mem_singleton] at hy;subst hy;rfl,fun L2 h2 _=>?_⟩
     rw [h2,hl]
     simp only [if_pos hc,Option.map_some]
    ·cases h
   ·cases h
 |_=>simp at h
theorem inv_st {ts:List Nat} {sz e:Nat} {x:Opd} {c:Prop} {L':Objs} (hI:InvA ts fr L) (he:e∈ts) (hx:∀ s∈slots x,s∉ts) (h:stx fr L sz (.t e) x=some (c,L')):InvA ts fr L':=by
 intro d hm
 obtain ⟨cs,bt,vals,h1,rfl,h3,_⟩:=st_t (hI e he) (fun hc=>hx e hc he) h
 refine (hI d hm).put (box_fix.2 (setAV_fix (box_fix.1 (look_fix (hI d hm).2.1 h1)) ?_))
 exact h3 d (hI d hm).1 fun hc=>hx d hc hm
theorem map_put {k:Key} {a:AO} (hk:∀ kv x y,Zas L k≠some (.map kv x y)):∀ k' kv x y,Zas L k'=some (.map kv x y)→Zas (Zat L k a) k'=some (.map kv x y):=by
 intro k' kv x y h
 by_cases e:k'=k
 ·subst e
  exact absurd h (hk kv x y)
 ·rw [look_putO,if_neg e]
  exact h
theorem map_unput {k:Key} {a:AO} (hk:∀ kv x y,a≠.map kv x y):∀ k' kv x y,Zas (Zat L k a) k'=some (.map kv x y)→Zas L k'=some (.map kv x y):=by
 intro k' kv x y h
 rw [look_putO] at h
 split at h
 ·exact absurd (Option.some.inj h) (hk kv x y)
 ·exact h
theorem free_of {d:Nat} {fr':List AV} {L':Objs} (hI:InvT d fr L) (hg:fr'.getD d .any=fr.getD d .any) (hF:Zam d fr' L'):Zam d fr L:=by
 refine ⟨?_,hI.2.1⟩
 rcases hI.2.2 with h|h
 ·have:fr.set d .any=fr:=by
   apply List.ext_getElem
   ·simp
   ·intro i h1 h2
    rw [List.getElem_set]
    split
    ·rename_i e
     subst e
     simpa [List.getD,List.getElem?_eq_getElem h2] using h.symm
    ·rfl
  rw [← this]
  exact hI.1
 ·exfalso
  rw [h] at hg
  have hl:d < fr'.length:=by
   by_cases hl:d < fr'.length
   ·exact hl
   ·rw [List.getD,List.getElem?_eq_none (by omega)] at hg
    cases hg
  have hm:AV.adr (.l d) 0∈fr':=by
   rw [List.getD,List.getElem?_eq_getElem hl] at hg
   simp only [Option.getD_some] at hg
   rw [← hg]
   exact List.getElem_mem hl
  have:=mem_fix hF.1 _ hm
  simp [AV.kill] at this
theorem okT_news {ts:List Nat} {i:IOper} {d:Nat} {l:List Nat} (h:okT ts i=true) (hn:isN i=some (d,l)):d∈ts∧l=[]∧∃ t z,i=⟨some d,.alcd t z,none⟩:=by
 rcases okT_cases h with ⟨d',t,z,rfl,hm⟩|⟨sz,d',x,rfl,_,_⟩|⟨l',hl,_⟩
 ·simp only [isN,Option.some.injEq,Prod.mk.injEq] at hn
  obtain ⟨rfl,rfl⟩:=hn
  exact ⟨hm,rfl,t,z,rfl⟩
 ·simp [isN] at hn
 ·exfalso
  rcases isN_eq hn with ⟨t,zero,rfl,_⟩|⟨e,z,parts,rfl,_⟩|⟨n,f,args,e,z,rfl,_⟩<;>simp [readsI,readsA] at hl
variable {is:List IOper} {K:List AV→Objs→Prop}
theorem commute_stsx {ts:List Nat} {sz d:Nat} {v:Opd} {y:IOper} {l:List Nat} (hI:InvA ts fr L) (hd:d∈ts) (hv:∀ s∈slots v,s∉ts) (hl:readsI y=some l) (hf:nfree y.op=true) (hr:∀ s∈l,s∉ts) (hy:∀ q,y.dst=some q→q≠d∧q∉slots v) :
  awpOps P E Y (⟨none,.st sz (.t d) v,none⟩ :: y :: is) fr L K↔awpOps P E Y (y :: ⟨none,.st sz (.t d) v,none⟩ :: is) fr L K:=by
 have hs:∀ r,stx (Zg fr y.dst r) L sz (.t d) v=stx fr L sz (.t d) v:=fun r=>stx_setD fun e he=>by
  obtain ⟨h1,h2⟩:=hy e he
  simp only [slots,List.mem_append,List.mem_singleton,not_or]
  exact ⟨h1,h2⟩
 have hsx:(readsI y).isSome=true:=by rw [hl];rfl
 constructor
 ·intro h
  rw [awpOps_st] at h
  obtain ⟨c,L',e1,hc,h⟩:=h
  rw [awpOps_sx hsx] at h
  obtain ⟨c2,r,e2,hc2,h⟩:=h
  obtain ⟨cs,bt,vals,h1,rfl,_,_⟩:=st_t (hI d hd) (fun q=>hv d q hd) e1
  rw [sx_putT hl hf (fun q=>hr d q hd) (hI d hd)] at e2
  rw [awpOps_sx hsx]
  refine ⟨c2,r,e2,hc2,?_⟩
  rw [awpOps_st]
  exact ⟨c,_,by rw [hs];exact e1,hc,h⟩
 ·intro h
  rw [awpOps_sx hsx] at h
  obtain ⟨c2,r,e2,hc2,h⟩:=h
  rw [awpOps_st] at h
  obtain ⟨c,L',e1,hc,h⟩:=h
  rw [hs] at e1
  rw [awpOps_st]
  refine ⟨c,L',e1,hc,?_⟩
  obtain ⟨cs,bt,vals,h1,rfl,_,_⟩:=st_t (hI d hd) (fun q=>hv d q hd) e1
  rw [awpOps_sx hsx]
  exact ⟨c2,r,by rw [sx_putT hl hf (fun q=>hr d q hd) (hI d hd)];exact e2,hc2,h⟩
theorem commute_stst {ts:List Nat} {sz d:Nat} {v:Opd} {sz2 e:Nat} {u:Opd} (hI:InvA ts fr L) (hd:d∈ts) (he:e∈ts) (hde:d≠e) (hv:∀ s∈slots v,s∉ts) (hu:∀ s∈slots u,s∉ts) (h:awpOps P E Y (⟨none,.st sz (.t d) v,none⟩ :: ⟨none,.st sz2 (.t e) u,none⟩ :: is) fr L K) :
  awpOps P E Y (⟨none,.st sz2 (.t e) u,none⟩ :: ⟨none,.st sz (.t d) v,none⟩ :: is) fr L K:=by
 have hk:Key.l d≠Key.l e:=by simpa using hde
 rw [awpOps_st] at h
 obtain ⟨c,L1,e1,hc,h⟩:=h
 have hI1:=inv_st hI hd hv e1
 obtain ⟨cs,bt,vals,h1,rfl,_,h4⟩:=st_t (hI d hd) (fun q=>hv d q hd) e1
 rw [awpOps_st] at h
 obtain ⟨c2,L2,e2,hc2,h⟩:=h
 obtain ⟨cs2,bt2,vals2,g1,rfl,_,g4⟩:=st_t (hI1 e he) (fun q=>hu e q he) e2
 have hle:Zas L (.l e)=Zas (Zat L (.l d) (.box (Zac cs 0 vals) bt)) (.l e):=by rw [look_putO,if_neg (Ne.symm hk)]
 have hle2:Zas L (.l e)=some (.box cs2 bt2):=by rw [hle];exact g1
 rw [awpOps_st]
 refine ⟨c2,_,g4 L hle (map_unput (fun _ _ _=>by simp)),hc2,?_⟩
 rw [awpOps_st]
 refine ⟨c,_,h4 _ (by rw [look_putO,if_neg hk]) (map_put (fun kv x y q=>by rw [hle2] at q;cases q)),hc,?_⟩
 rw [putO_comm _ _ (Ne.symm hk) (by rw [hle2];rfl) (by rw [h1];rfl)]
 exact h
theorem commute_alst {ts:List Nat} {sz d e:Nat} {v:Opd} {t:TypeId} {z:List PV} (hI:InvA ts fr L) (hd:d∈ts) (he:e∈ts) (hde:e≠d) (hv:∀ s∈slots v,s∉ts) (h:awpOps P E Y (⟨some e,.alcd t z,none⟩ :: ⟨none,.st sz (.t d) v,none⟩ :: is) fr L K) :
  awpOps P E Y (⟨none,.st sz (.t d) v,none⟩ :: ⟨some e,.alcd t z,none⟩ :: is) fr L K:=by
 have hk:Key.l e≠Key.l d:=by simpa using hde
 have hn:isN ⟨some e,.alcd t z,none⟩=some (e,[]):=rfl
 rw [awpOps_nx hn] at h
 obtain ⟨⟨hF,hh⟩,c1,r,ao,e1,hc1,h⟩:=h
 have e1':=e1
 simp only [nx,Option.some.injEq,Prod.mk.injEq] at e1
 obtain ⟨rfl,rfl,rfl⟩:=e1
 rw [awpOps_st] at h
 obtain ⟨c,L',e2,hc,h⟩:=h
 have hs:stx (fr.set e (.adr (.l e) 0)) (Zat L (.l e) (.box (z.map .p) t)) sz (.t d) v=stx fr (Zat L (.l e) (.box (z.map .p) t)) sz (.t d) v:=stx_setD (d:=some e) fun q hq=>by
  cases hq
  simp only [slots,List.mem_append,List.mem_singleton,not_or]
  exact ⟨hde,fun q=>hv e q he⟩
 rw [hs] at e2
 have hI1:InvT d fr (Zat L (.l e) (.box (z.map .p) t)):=(hI d hd).put boxp_fix
 obtain ⟨cs,bt,vals,h1,rfl,h3,h4⟩:=st_t hI1 (fun q=>hv d q hd) e2
 have hld:Zas L (.l d)=some (.box cs bt):=by rw [look_putO,if_neg (Ne.symm hk)] at h1;exact h1
 rw [awpOps_st]
 refine ⟨c,_,h4 L (by rw [hld,h1]) (map_unput (fun _ _ _=>by simp)),hc,?_⟩
 rw [awpOps_nx hn]
 refine ⟨⟨⟨hF.1,put_fix hF.2 (box_fix.2 (setAV_fix (box_fix.1 (look_fix hF.2 hld)) (h3 e (any_fix hF.1 e) (fun q=>hv e q he))))⟩,by rw [look_putO,if_neg hk];exact hh⟩,_,_,_,e1',trivial,?_⟩
 rw [putO_comm _ _ (Ne.symm hk) (by rw [hld];rfl) (by rw [hh];rfl)]
 exact h
theorem commute_stal {ts:List Nat} {sz d e:Nat} {v:Opd} {t:TypeId} {z:List PV} (hI:InvA ts fr L) (hd:d∈ts) (he:e∈ts) (hde:e≠d) (hv:∀ s∈slots v,s∉ts) (h:awpOps P E Y (⟨none,.st sz (.t d) v,none⟩ :: ⟨some e,.alcd t z,none⟩ :: is) fr L K) :
  awpOps P E Y (⟨some e,.alcd t z,none⟩ :: ⟨none,.st sz (.t d) v,none⟩ :: is) fr L K:=by
 have hk:Key.l e≠Key.l d:=by simpa using hde
 have hn:isN ⟨some e,.alcd t z,none⟩=some (e,[]):=rfl
 rw [awpOps_st] at h
 obtain ⟨c,L',e2,hc,h⟩:=h
 obtain ⟨cs,bt,vals,h1,rfl,h3,h4⟩:=st_t (hI d hd) (fun q=>hv d q hd) e2
 rw [awpOps_nx hn] at h
 obtain ⟨⟨hF,hh⟩,c1,r,ao,e1,hc1,h⟩:=h
 have e1':=e1
 simp only [nx,Option.some.injEq,Prod.mk.injEq] at e1
 obtain ⟨rfl,rfl,rfl⟩:=e1
 have hhL:Zas L (.l e)=some Zan:=by rw [look_putO,if_neg hk] at hh;exact hh
 rw [awpOps_nx hn]
 refine ⟨⟨⟨hF.1,(hI e he).2.1⟩,hhL⟩,_,_,_,e1',trivial,?_⟩
 rw [awpOps_st]
 have hs:stx (fr.set e (.adr (.l e) 0)) (Zat L (.l e) (.box (z.map .p) t)) sz (.t d) v=stx fr (Zat L (.l e) (.box (z.map .p) t)) sz (.t d) v:=stx_setD (d:=some e) fun q hq=>by
  cases hq
  simp only [slots,List.mem_append,List.mem_singleton,not_or]
  exact ⟨hde,fun q=>hv e q he⟩
 refine ⟨c,_,by rw [hs];exact h4 _ (by rw [look_putO,if_neg (Ne.symm hk)]) (map_put (fun kv x y q=>by rw [hhL] at q;cases q)),hc,?_⟩
 rw [putO_comm _ _ hk (by rw [hhL];rfl) (by rw [h1];rfl)]
 exact h
theorem consT {ts:List Nat} {i:IOper} {js:List IOper} {K':List AV→Objs→Prop} (hi:okT ts i=true) (hI:InvA ts fr L) (h:awpOps P E Y (i :: is) fr L K) (hk:∀ fr L,InvA ts fr L→awpOps P E Y is fr L K→awpOps P E Y js fr L K'):awpOps P E Y (i :: js) fr L K':=by
 rcases okT_cases hi with ⟨d,t,z,rfl,hm⟩|⟨sz,d,x,rfl,hd,hv⟩|⟨l,hl,hf,hr,hy⟩
 ·have hn:isN ⟨some d,.alcd t z,none⟩=some (d,[]):=rfl
  rw [awpOps_nx hn] at h ⊢
  obtain ⟨h1,c1,r,ao,e1,hc1,h⟩:=h
  have e1':=e1
  simp only [nx,Option.some.injEq,Prod.mk.injEq] at e1
  obtain ⟨rfl,rfl,rfl⟩:=e1
  exact ⟨h1,_,_,_,e1',trivial,hk _ _ (inv_alcd hI) h⟩
 ·rw [awpOps_st] at h ⊢
  obtain ⟨c,L',e2,hc,h⟩:=h
  exact ⟨c,L',e2,hc,hk _ _ (inv_st hI hd hv e2) h⟩
 ·have hsx:(readsI i).isSome=true:=by rw [hl];rfl
  rw [awpOps_sx hsx] at h ⊢
  obtain ⟨c,r,e1,hc,h⟩:=h
  exact ⟨c,r,e1,hc,hk _ _ (inv_sx hl hr hy hI e1) h⟩
theorem fillB_spec {s y:IOper} (h:fillB s y=true):∃ sz d v,s=⟨none,.st sz (.t d) v,none⟩∧((∃ sz2 e u,y=⟨none,.st sz2 (.t e) u,none⟩∧d≠e)∨((∀ sz2 e u,y≠⟨none,.st sz2 (.t e) u,none⟩)∧∀ q,y.dst=some q→q≠d∧q∉slots v)):=by
 unfold fillB at h
 split at h
 ·refine ⟨_,_,_,rfl,?_⟩
  split at h
  ·exact .inl ⟨_,_,_,rfl,by simpa using h⟩
  ·rename_i hne
   refine .inr ⟨fun sz2 e u q=>hne sz2 e u q,fun q hq=>?_⟩
   rw [hq] at h
   simpa using h
 ·cases h
theorem commuteT {ts:List Nat} {x i:IOper} (hx:okT ts x=true) (hi:okT ts i=true) (ha:apartT x i=true) (hI:InvA ts fr L) (h:awpOps P E Y (x :: i :: is) fr L K):awpOps P E Y (i :: x :: is) fr L K:=by
 unfold apartT at ha
 rw [Bool.or_eq_true,Bool.or_eq_true] at ha
 rcases ha with (ha|ha)|ha
 ·refine commute1 ha (fun d l hn=>?_) h
  obtain ⟨hm,rfl,t,z,rfl⟩:=okT_news hi hn
  have hsep:=(apart_in ha).2
  rcases okT_cases hx with ⟨d',t',z',rfl,hm'⟩|⟨sz,d',v,rfl,_,_⟩|⟨l',hl,hf,hr,hy⟩
  ·have hne:=hsep d' [] rfl d [] hn
   rw [awpOps_nx (d:=d') (l:=[]) rfl] at h
   obtain ⟨_,c1,r,ao,_,_,h⟩:=h
   rw [awpOps_nx hn] at h
   exact free_of (hI d hm) (getD_setD (e:=some d') (fun q hq=>by cases hq;exact hne)) h.1.1
  ·rw [awpOps_st] at h
   obtain ⟨c,L',_,_,h⟩:=h
   rw [awpOps_nx hn] at h
   exact free_of (hI d hm) rfl h.1.1
  ·rw [awpOps_sx (by rw [hl];rfl)] at h
   obtain ⟨c,r,_,_,h⟩:=h
   rw [awpOps_nx hn] at h
   exact free_of (hI d hm) (getD_setD (fun q hq e=>hy q hq (e ▸ hm))) h.1.1
 ·obtain ⟨sz,d,v,rfl,h2⟩:=fillB_spec ha
  rcases okT_cases hx with ⟨_,_,_,e,_⟩|⟨_,_,_,e,hd,hv⟩|⟨l',hl,_⟩
  ·cases e
  ·cases e
   rcases okT_cases hi with ⟨e',t',z',rfl,hm'⟩|⟨sz2,e',u,rfl,he,hu⟩|⟨l,hl,hf,hr,hy⟩
   ·rcases h2 with ⟨_,_,_,q,_⟩|⟨_,h2⟩
    ·cases q
    ·exact commute_stal hI hd hm' (h2 e' rfl).1 hv h
   ·rcases h2 with ⟨_,_,_,q,hne⟩|⟨hn,_⟩
    ·cases q
     exact commute_stst hI hd he hne hv hu h
    ·exact absurd rfl (hn _ _ _)
   ·rcases h2 with ⟨_,_,_,rfl,_⟩|⟨_,h2⟩
    ·simp [readsI,readsA] at hl
    ·exact (commute_stsx hI hd hv hl hf hr h2).1 h
  ·simp [readsI,readsA] at hl
 ·obtain ⟨sz,d,v,rfl,h2⟩:=fillB_spec ha
  rcases okT_cases hi with ⟨_,_,_,e,_⟩|⟨_,_,_,e,hd,hv⟩|⟨l',hl,_⟩
  ·cases e
  ·cases e
   rcases okT_cases hx with ⟨e',t',z',rfl,hm'⟩|⟨sz2,e',u,rfl,he,hu⟩|⟨l,hl,hf,hr,hy⟩
   ·rcases h2 with ⟨_,_,_,q,_⟩|⟨_,h2⟩
    ·cases q
    ·exact commute_alst hI hd hm' (h2 e' rfl).1 hv h
   ·rcases h2 with ⟨_,_,_,q,hne⟩|⟨hn,_⟩
    ·cases q
     exact commute_stst hI he hd (Ne.symm hne) hu hv h
    ·exact absurd rfl (hn _ _ _)
   ·rcases h2 with ⟨_,_,_,rfl,_⟩|⟨_,h2⟩
    ·simp [readsI,readsA] at hl
    ·exact (commute_stsx hI hd hv hl hf hr h2).2 h
  ·simp [readsI,readsA] at hl
theorem moveFrontT {ts:List Nat} {i:IOper} {post:List IOper} (hi:okT ts i=true):∀ (pre:List IOper) (fr:List AV) (L:Objs),(∀ x∈pre,okT ts x=true∧apartT x i=true)→InvA ts fr L→awpOps P E Y (pre++i :: post) fr L K→awpOps P E Y (i :: (pre++post)) fr L K:=by
 intro pre
 induction pre with
 |nil=>intro fr L _ _ h;exact h
 |cons x pre ih=>
  intro fr L ha hI h
  obtain ⟨h1,h2⟩:=ha x (by simp)
  exact commuteT h1 hi h2 hI (consT h1 hI h fun fr L hI h=>ih fr L (fun y hy=>ha y (by simp [hy])) hI h)
end
section
variable {P:Program} {E:Envt} {Y:List PV} {B:Base}
theorem chkOps_get {ops:Array Oper}:∀ {js:List IOper} {os:List Oper},chkOps P ops os js=true→(∀ i∈js,isFz i=false)→js.length=os.length∧∀ (k:Nat) (i:IOper),js[k]?=some i→∃ o,os[k]?=some o∧chkOper P ops o i=true:=by
 intro js
 induction js with
 |nil=>intro os h _;simp only [chkOps,List.isEmpty_iff] at h;subst h;simp
 |cons i js ih=>
  intro os h hf
  simp only [chkOps] at h
  rw [if_neg (by simp [hf i (by simp)])] at h
  split at h
  ·rename_i o os'
   simp only [Bool.and_eq_true] at h
   obtain ⟨h1,h2⟩:=ih h.2 (fun j hj=>hf j (by simp [hj]))
   refine ⟨by simp [h1],fun k x hx=>?_⟩
   cases k with
   |zero=>simp at hx;subst hx;exact ⟨o,rfl,h.1⟩
   |succ k=>simp at hx;simpa using h2 k x hx
  ·cases h
theorem pairsOk_mem {ops:Array Oper} {n i:Nat} {ii:IOper}:∀ {l:List (Nat×IOper)},pairsOk ops n i ii l=true→∀ y∈l,apartI y.2 ii=true∨ancB ops n i y.1=true:=by
 intro l
 induction l with
 |nil=>intro _ y hy;cases hy
 |cons q l ih=>
  intro h y hy
  obtain ⟨j,jj⟩:=q
  simp only [pairsOk,Bool.and_eq_true,Bool.or_eq_true] at h
  simp only [List.mem_cons] at hy
  rcases hy with rfl|hy
  ·exact h.1
  ·exact ih h.2 y hy
theorem allOk_get {ops:Array Oper} {n:Nat}:∀ {l seen:List (Nat×IOper)},allOk ops n seen l=true→∀ (pre:List (Nat×IOper)) (x:Nat×IOper) (post:List (Nat×IOper)),l=pre++x :: post→∀ y∈seen++pre,apartI y.2 x.2=true∨ancB ops n x.1 y.1=true:=by
 intro l
 induction l with
 |nil=>intro seen _ pre x post h;cases pre<;>cases h
 |cons q l ih=>
  intro seen h pre x post e y hy
  obtain ⟨i,ii⟩:=q
  simp only [allOk,Bool.and_eq_true] at h
  cases pre with
  |nil=>
   simp only [List.nil_append,List.cons.injEq] at e
   obtain ⟨rfl,rfl⟩:=e
   exact pairsOk_mem h.1 y (by simpa using hy)
  |cons p pre=>
   simp only [List.cons_append,List.cons.injEq] at e
   obtain ⟨rfl,rfl⟩:=e
   exact ih h.2 pre x post rfl y (by simpa using hy)
def ClosedL (ops:Array Oper) (listed:Array Bool):Prop:=∀ (i:Nat) (o:Oper),ops[i]?=some o→listed.getD i false=true→∀ e∈edgesB o,listed.getD e false=true
theorem anc_listed {ops:Array Oper} {listed:Array Bool} (hc:ClosedL ops listed):∀ (n i j:Nat) (o:Oper),ops[i]?=some o→(∀ e∈edgesB o,listed.getD e false=true)→ancB ops n i j=true→listed.getD j false=true:=by
 intro n
 induction n with
 |zero=>intro i j o _ _ h;simp [ancB] at h
 |succ n ih=>
  intro i j o ho he h
  simp only [ancB,ho,List.any_eq_true,Bool.or_eq_true,beq_iff_eq] at h
  obtain ⟨e,h1,h2⟩:=h
  rcases h2 with rfl|h2
  ·exact he e h1
  ·cases hoe:ops[e]? with
   |none=>cases n<;>simp [ancB,hoe] at h2
   |some oe=>exact ih e j oe hoe (hc e oe hoe (he e h1)) h2
theorem mem_ready {ops:Array Oper} {listed:Array Bool} {i:Nat}:i∈Region.ready .any ops listed↔∃ o,ops[i]?=some o∧listed.getD i true=false∧∀ e∈edgesB o,listed.getD e false=true:=by
 simp only [Region.ready,List.mem_filter,List.mem_range,Bool.and_eq_true,Bool.not_eq_true']
 constructor
 ·rintro ⟨h1,h2,h3⟩
  obtain ⟨o,ho⟩:∃ o,ops[i]?=some o:=⟨_,Array.getElem?_eq_getElem h1⟩
  refine ⟨o,ho,h2,fun e he=>?_⟩
  rw [ho] at h3
  simp only [Option.map_some,Option.getD_some,Array.all_eq_true'] at h3
  simp only [edgesB,List.mem_map,List.mem_filter] at he
  obtain ⟨ed,⟨h4,h5⟩,rfl⟩:=he
  have:=h3 ed (by simpa using h4)
  simpa [h5] using this
 ·rintro ⟨o,ho,h2,h3⟩
  refine ⟨(Array.getElem?_eq_some_iff.1 ho).1,h2,?_⟩
  rw [ho]
  simp only [Option.map_some,Option.getD_some,Array.all_eq_true']
  intro ed hed
  cases hb:Region.binds .any ed with
  |false=>simp
  |true=>simp only [Bool.not_true,Bool.false_or];exact h3 _ (by simp only [edgesB,List.mem_map,List.mem_filter];exact ⟨ed,⟨by simpa using hed,hb⟩,rfl⟩)
def unl (listed:Array Bool) (p:Nat×IOper):Bool:=!listed.getD p.1 true
theorem newsOf_mem {l:List IOper} {d:Nat}:d∈newsOf l↔∃ i∈l,∃ r,isN i=some (d,r):=by
 simp only [newsOf,List.mem_filterMap,Option.map_eq_some_iff]
 constructor
 ·rintro ⟨i,hi,⟨e,r⟩,h1,rfl⟩;exact ⟨i,hi,r,h1⟩
 ·rintro ⟨i,hi,r,h1⟩;exact ⟨i,hi,(d,r),h1,rfl⟩
theorem any_ok {ops:Array Oper} {js:List IOper} {K:List AV→Objs→Prop} {Q:Exit→Act→World→Prop} (hK:∀ fr L ι a w,K fr L→StF E B w L ι fr a→Q .normal a w) (hjs:js.length=ops.size)
  (hget:∀ (k:Nat) (i:IOper),js[k]?=some i→∃ o,ops[k]?=some o∧chkOper P ops o i=true) (hfz:∀ i∈js,isFz i=false) (hall:allOk ops ops.size [] ((List.range js.length).zip js)=true)
  (hedge:∀ (i:Nat) (o:Oper),ops[i]?=some o→∀ e∈edgesB o,e < i) (hnews:newsOf js=[]∨(∀ p∈(List.range js.length).zip js,okBy (newsOf js) p.2=true∨okLate ops js p.1=true)∧(newsOf js).Nodup) :
  ∀ (fuel:Nat) (listed:Array Bool) (fr:List AV) (L:Objs) (ι:Key→Value) (a:Act) (w:World),listed.size=ops.size→ClosedL ops listed→fuel=(((List.range js.length).zip js).filter (unl listed)).length→
   FreeAll (newsOf ((((List.range js.length).zip js).filter (unl listed)).map (·.2))) fr L→
   awpOps P E Y ((((List.range js.length).zip js).filter (unl listed)).map (·.2)) fr L K→StF E B w L ι fr a→wpAny P .any ops Q fuel listed a w:=by
 intro fuel
 have zget:∀ (k:Nat) (x:IOper),js[k]?=some x→((List.range js.length).zip js)[k]?=some (k,x):=by
  intro k x hk
  rw [List.getElem?_zip_eq_some]
  exact ⟨by rw [List.getElem?_range (List.getElem?_eq_some_iff.1 hk).1],hk⟩
 have zmem:∀ (p:Nat×IOper),p∈(List.range js.length).zip js→p.1 < js.length∧js[p.1]?=some p.2:=by
  intro p hp
  obtain ⟨k,hk⟩:=List.getElem?_of_mem hp
  rw [List.getElem?_zip_eq_some] at hk
  obtain ⟨h1,h2⟩:=hk
  rw [List.getElem?_range (by have:=(List.getElem?_eq_some_iff.1 h2).1;exact this)] at h1
  cases h1
  exact ⟨(List.getElem?_eq_some_iff.1 h2).1,h2⟩
 induction fuel with
 |zero=>
  intro listed fr L ι a w hsz hcl hf hFr h hs
  have hnil:((List.range js.length).zip js).filter (unl listed)=[]:=List.eq_nil_of_length_eq_zero hf.symm
  rw [hnil] at h
  refine ⟨?_,hK fr L ι a w h hs⟩
  refine List.eq_nil_iff_forall_not_mem.2 fun i hi=>?_
  obtain ⟨o,ho,h2,_⟩:=mem_ready.1 hi
  have hlt:i < js.length:=by rw [hjs];exact (Array.getElem?_eq_some_iff.1 ho).1
  have:(i,js[i])∈((List.range js.length).zip js).filter (unl listed):=by
   simp only [List.mem_filter]
   exact ⟨List.mem_of_getElem? (zget i _ (List.getElem?_eq_getElem hlt)),by simp [unl,h2]⟩
  rw [hnil] at this
  cases this
 |succ fuel ih=>
  intro listed fr L ι a w hsz hcl hf hFr h hs
  have hready:Region.ready .any ops listed≠[]:=by
   intro hnil
   cases hrem:((List.range js.length).zip js).filter (unl listed) with
   |nil=>rw [hrem] at hf;simp at hf
   |cons p rest=>
    have hp:p∈((List.range js.length).zip js).filter (unl listed):=by rw [hrem];simp
    have hex:∃ i,i < js.length∧listed.getD i true=false∧∀ j,j < i→listed.getD j true=true:=by
     obtain ⟨h1,h2⟩:=List.mem_filter.1 hp
     have hp1:=(zmem p h1).1
     have hpu:listed.getD p.1 true=false:=by simpa [unl] using h2
     have:∀ m i,i≤m→i < js.length→listed.getD i true=false→∃ i,i < js.length∧listed.getD i true=false∧∀ j,j < i→listed.getD j true=true:=by
      intro m
      induction m with
      |zero=>intro i hi h1 h2;exact ⟨i,h1,h2,fun j hj=>by omega⟩
      |succ m ihm=>
       intro i hi h1 h2
       by_cases hex:∃ j,j < i∧listed.getD j true=false
       ·obtain ⟨j,hj1,hj2⟩:=hex
        exact ihm j (by omega) (by omega) hj2
       ·refine ⟨i,h1,h2,fun j hj=>?_⟩
        cases hq:listed.getD j true with
        |true=>rfl
        |false=>exact absurd ⟨j,hj,hq⟩ hex
     exact this p.1 p.1 (Nat.le_refl _) hp1 hpu
    obtain ⟨i,hi1,hi2,hi3⟩:=hex
    obtain ⟨o,ho,_⟩:=hget i _ (List.getElem?_eq_getElem hi1)
    have:i∈Region.ready .any ops listed:=mem_ready.2 ⟨o,ho,hi2,fun e he=>by
     have hlt:=hedge i o ho e he
     have:=hi3 e hlt
     have hes:e < listed.size:=by rw [hsz,← hjs];omega
     simp only [Array.getD,hes,dite_true] at this ⊢
     exact this⟩
    rw [hnil] at this
    cases this
  refine ⟨fun hn=>absurd hn hready,fun i hi=>?_⟩
  obtain ⟨o,ho,hun,hed⟩:=mem_ready.1 hi
  have hlt:i < js.length:=by rw [hjs];exact (Array.getElem?_eq_some_iff.1 ho).1
  have hil:i < listed.size:=by rw [hsz,← hjs];exact hlt
  obtain ⟨ii,hii⟩:∃ ii,js[i]?=some ii:=⟨_,List.getElem?_eq_getElem hlt⟩
  have hsplit:(List.range js.length).zip js=((List.range js.length).zip js).take i++(i,ii) :: ((List.range js.length).zip js).drop (i+1):=by
   have hzl:((List.range js.length).zip js).length=js.length:=by simp
   have e:((List.range js.length).zip js)[i]?=some (i,ii):=by
    rw [List.getElem?_zip_eq_some]
    exact ⟨by rw [List.getElem?_range hlt],hii⟩
   rw [List.getElem?_eq_some_iff] at e
   obtain ⟨h1,h2⟩:=e
   rw [← h2,← List.drop_eq_getElem_cons h1,List.take_append_drop]
  have hpre:∀ p∈((List.range js.length).zip js).take i,p.1 < i:=by
   intro p hp
   obtain ⟨k,hk⟩:=List.getElem?_of_mem hp
   rw [List.getElem?_take] at hk
   split at hk
   ·rename_i hki
    rw [List.getElem?_zip_eq_some] at hk
    rw [List.getElem?_range (by omega)] at hk
    cases hk.1
    exact hki
   ·cases hk
  have hpost:∀ p∈((List.range js.length).zip js).drop (i+1),i < p.1:=by
   intro p hp
   obtain ⟨k,hk⟩:=List.getElem?_of_mem hp
   rw [List.getElem?_drop,List.getElem?_zip_eq_some] at hk
   have hkl:=(List.getElem?_eq_some_iff.1 hk.2).1
   rw [List.getElem?_range hkl] at hk
   have:=Option.some.inj hk.1
   omega
  have hunl:unl listed (i,ii)=true:=by simp [unl,hun]
  have hfil:((List.range js.length).zip js).filter (unl listed)=(((List.range js.length).zip js).take i).filter (unl listed)++(i,ii) :: (((List.range js.length).zip js).drop (i+1)).filter (unl listed):=by
   conv=>lhs;rw [hsplit]
   rw [List.filter_append,List.filter_cons_of_pos hunl]
  have hgd:∀ j,j≠i→(listed.setIfInBounds i true).getD j true=listed.getD j true:=by
   intro j hj
   rw [Array.getD_eq_getD_getElem?,Array.getD_eq_getD_getElem?,Array.getElem?_setIfInBounds_ne (Ne.symm hj)]
  have hself:∀ b,(listed.setIfInBounds i true).getD i b=true:=by
   intro b
   rw [Array.getD_eq_getD_getElem?,Array.getElem?_setIfInBounds_self_of_lt hil]
   rfl
  have hfil':((List.range js.length).zip js).filter (unl (listed.setIfInBounds i true))=(((List.range js.length).zip js).take i).filter (unl listed)++(((List.range js.length).zip js).drop (i+1)).filter (unl listed):=by
   conv=>lhs;rw [hsplit]
   rw [List.filter_append,List.filter_cons_of_neg (by simp [unl,hself])]
   congr 1
   ·refine List.filter_congr fun p hp=>?_
    have:=hpre p hp
    simp only [unl,hgd p.1 (by omega)]
   ·refine List.filter_congr fun p hp=>?_
    have:=hpost p hp
    simp only [unl,hgd p.1 (by omega)]
  have hap:∀ x∈((((List.range js.length).zip js).take i).filter (unl listed)).map (·.2),apartI x ii=true:=by
   intro x hx
   obtain ⟨p,hp,rfl⟩:=List.mem_map.1 hx
   obtain ⟨hp1,hp2⟩:=List.mem_filter.1 hp
   rcases allOk_get hall _ _ _ hsplit p (by simpa using hp1) with h'|h'
   ·exact h'
   ·have:=anc_listed hcl _ i p.1 o ho hed h'
    have hpl:p.1 < listed.size:=by have:=hpre p hp1;omega
    simp only [unl,Array.getD,hpl,dite_true] at hp2 this
    rw [this] at hp2
    cases hp2
  have hsub:((((List.range js.length).zip js).filter (unl listed)).map (·.2)).Sublist js:=by
   have e:((List.range js.length).zip js).map (·.2)=js:=by rw [← List.unzip_snd,List.unzip_zip (by simp)]
   have:=(List.filter_sublist (p:=unl listed) (l:=(List.range js.length).zip js)).map (·.2)
   rwa [e] at this
  rw [hfil] at h hf hFr hsub
  simp only [List.map_append,List.map_cons] at h hFr hsub
  generalize hA:((((List.range js.length).zip js).take i).filter (unl listed)).map (·.2)=A at *
  generalize hC:((((List.range js.length).zip js).drop (i+1)).filter (unl listed)).map (·.2)=C at *
  have hfront:=moveFront _ fr L hap (fun d hd=>hFr d (by
   obtain ⟨q,hq,r,hr⟩:=newsOf_mem.1 hd
   simp only [List.mem_singleton] at hq
   exact newsOf_mem.2 ⟨q,by simp [hq],r,hr⟩)) h
  have hrest:FreeAll (newsOf (A++C)) fr L:=fun d hd=>hFr d (by
   obtain ⟨q,hq,r,hr⟩:=newsOf_mem.1 hd
   refine newsOf_mem.2 ⟨q,?_,r,hr⟩
   simp only [List.mem_append,List.mem_cons] at hq ⊢
   rcases hq with hq|hq
   ·exact .inl hq
   ·exact .inr (.inr hq))
  have hemp:newsOf js=[]→newsOf (A++C)=[]:=by
   intro hn
   refine List.eq_nil_iff_forall_not_mem.2 fun d hd=>?_
   obtain ⟨q,hq,r,hr⟩:=newsOf_mem.1 hd
   have:d∈newsOf js:=newsOf_mem.2 ⟨q,hsub.subset (by
    simp only [List.mem_append,List.mem_cons] at hq ⊢
    rcases hq with hq|hq
    ·exact .inl hq
    ·exact .inr (.inr hq)),r,hr⟩
   rw [hn] at this
   cases this
  have hlate:okLate ops js i=true→newsOf (A++C)=[]:=by
   intro hl
   refine List.eq_nil_iff_forall_not_mem.2 fun d hd=>?_
   obtain ⟨q,hq,r,hr⟩:=newsOf_mem.1 hd
   obtain ⟨p,hp1,hp2,rfl⟩:∃ p,p∈(List.range js.length).zip js∧unl listed p=true∧p.2=q:=by
    rcases List.mem_append.1 hq with hq|hq
    ·rw [← hA] at hq
     obtain ⟨p,hp,rfl⟩:=List.mem_map.1 hq
     obtain ⟨hp1,hp2⟩:=List.mem_filter.1 hp
     exact ⟨p,List.mem_of_mem_take hp1,hp2,rfl⟩
    ·rw [← hC] at hq
     obtain ⟨p,hp,rfl⟩:=List.mem_map.1 hq
     obtain ⟨hp1,hp2⟩:=List.mem_filter.1 hp
     exact ⟨p,List.mem_of_mem_drop hp1,hp2,rfl⟩
   have h':=List.all_eq_true.1 hl p hp1
   simp only [hr,Option.isNone_some,Bool.false_or] at h'
   have:=anc_listed hcl _ i p.1 o ho hed h'
   have hpl:p.1 < listed.size:=by have:=(zmem p hp1).1;omega
   simp only [unl,Array.getD,hpl,dite_true] at hp2 this
   rw [this] at hp2
   cases hp2
  have hfront:awpOps P E Y (ii :: []) fr L (fun fr L=>FreeAll (newsOf (A++C)) fr L∧awpOps P E Y (A++C) fr L K)∨(awpOps P E Y (ii :: (A++C)) fr L K∧newsOf (A++C)=[]):=by
   rcases hnews with hn|⟨h1,h2⟩
   ·exact .inr ⟨hfront,hemp hn⟩
   ·rcases h1 (i,ii) (List.mem_of_getElem? (zget i ii hii)) with h1|h1
    rotate_left
    ·exact .inr ⟨hfront,hlate h1⟩
    rcases okBy_spec h1 with hok|⟨d0,hd0,hn0⟩
    rotate_left
    ·refine .inl (awpOps_consA hd0 (fun hm=>hn0 ?_) hrest hfront (fun fr L hF h=>⟨hF,h⟩))
     obtain ⟨q,hq,r,hr⟩:=newsOf_mem.1 hm
     refine newsOf_mem.2 ⟨q,hsub.subset ?_,r,hr⟩
     simp only [List.mem_append,List.mem_cons] at hq ⊢
     rcases hq with hq|hq
     ·exact .inl hq
     ·exact .inr (.inr hq)
    refine .inl (awpOps_consF hok ?_ hrest hfront (fun fr L hF h=>⟨hF,h⟩))
    intro d l hd hm
    have hnd:(newsOf (A++ii :: C)).Nodup:=(hsub.filterMap _).nodup h2
    have hp:(newsOf (A++ii :: C)).Perm (newsOf (ii :: (A++C))):=List.Perm.filterMap _ List.perm_middle
    have hnd2:=hp.nodup_iff.1 hnd
    have e:newsOf (ii :: (A++C))=d :: newsOf (A++C):=by simp [newsOf,hd]
    rw [e] at hnd2
    exact (List.nodup_cons.1 hnd2).1 hm
  have hfi:isFz ii=false:=hfz ii (List.mem_of_getElem? hii)
  obtain ⟨o',ho',hchk⟩:=hget i ii hii
  rw [ho] at ho'
  cases ho'
  have cont:∀ fr' L' ι' a' w',FreeAll (newsOf (A++C)) fr' L'→awpOps P E Y (A++C) fr' L' K→StF E B w' L' ι' fr' a'→wpAny P .any ops Q fuel (listed.setIfInBounds i true) a' w':=by
   intro fr' L' ι' a' w' hF' h' hs'
   refine ih (listed.setIfInBounds i true) fr' L' ι' a' w' (by simpa using hsz) ?_ ?_ ?_ ?_ hs'
   ·intro k q hq hk e he
    by_cases hki:k=i
    ·subst hki
     rw [ho] at hq
     cases hq
     by_cases hei:e=k
     ·subst hei;exact hself _
     ·have:=hed e he
      rw [Array.getD_eq_getD_getElem?,Array.getElem?_setIfInBounds_ne (Ne.symm hei),← Array.getD_eq_getD_getElem?]
      exact this
    ·rw [Array.getD_eq_getD_getElem?,Array.getElem?_setIfInBounds_ne (Ne.symm hki),← Array.getD_eq_getD_getElem?] at hk
     have:=hcl k q hq hk e he
     by_cases hei:e=i
     ·subst hei;exact hself _
     ·rw [Array.getD_eq_getD_getElem?,Array.getElem?_setIfInBounds_ne (Ne.symm hei),← Array.getD_eq_getD_getElem?]
      exact this
   ·rw [hfil']
    simp only [List.length_append,List.length_cons] at hf ⊢
    omega
   ·rw [hfil',List.map_append,hA,hC]
    exact hF'
   ·rw [hfil',List.map_append,hA,hC]
    exact h'
  have hstep:if Region.wanted o (yielded ops a.tmps) then o.wp P a w (wpAny P .any ops Q fuel (listed.setIfInBounds i true)) Q else wpAny P .any ops Q fuel (listed.setIfInBounds i true) (a.put o.dst undef) w:=by
   rcases hfront with hfront|⟨hfront,hn⟩
   ·exact oper_sound hchk hfi hfront hs (fun fr' L' ι' a' w' h' hs'=>by
     simp only [awpOps] at h'
     exact cont fr' L' ι' a' w' h'.1 h'.2 hs')
   ·exact oper_sound hchk hfi hfront hs (fun fr' L' ι' a' w' h' hs'=>cont fr' L' ι' a' w' (by rw [hn];intro d hd;cases hd) h' hs')
  unfold wpOp
  rw [ho]
  simp only
  by_cases hw:Region.wanted o (yielded ops a.tmps)=true
  ·rw [if_pos hw] at hstep ⊢
   exact .inl hstep
  ·rw [if_neg hw] at hstep ⊢
   exact hstep
theorem awpOps_drop {ops:Array Oper} {K:List AV→Objs→Prop}:∀ (is:List IOper) (ds:List Nat) (fr:List AV) (L:Objs) (ι:Key→Value) (a:Act) (w:World) (os:List Oper),(∀ i∈is,isRe i=false)→chkOps P ops os is=true→FreeAll ds fr L→(∀ d∈ds,fr.getD d .any=.any)→awpOps P E Y is fr L K→StF E B w L ι fr a→chkOps P ops os (dropFz is)=true∧∃ fr' L' ι',FreeAll (ds++holesOf is) fr' L'∧(∀ d∈ds++holesOf is,fr'.getD d .any=.any)∧awpOps P E Y (dropFz is) fr' L' K∧StF E B w L' ι' fr' a:=by
 intro is
 induction is with
 |nil=>intro ds fr L ι a w os _ hc hF hA h hs;exact ⟨hc,fr,L,ι,by simpa [holesOf] using hF,by simpa [holesOf] using hA,h,hs⟩
 |cons i is ih=>
  intro ds fr L ι a w os hre hc hF hA h hs
  have hre':∀ i∈is,isRe i=false:=fun j hj=>hre j (by simp [hj])
  simp only [dropFz,holesOf]
  by_cases hf:isFz i=true
  ·rw [if_pos hf,if_pos hf]
   simp only [chkOps] at hc
   rw [if_pos hf] at hc
   rcases isFz_eq hf with ⟨x,rfl⟩|⟨x,rfl⟩|rfl
   ·simp only [awpOps] at h
    split at h
    ·rename_i k y hk
     exact ih ds _ _ ι a w os hre' hc (fun d hd=>(hF d hd).thaw) (fun d hd=>by have:=hA d hd;rw [List.getD,List.getElem?_map];rw [List.getD] at this;cases hq:fr[d]? with|none=>rfl|some q=>rw [hq] at this;simp only [Option.getD_some] at this;subst this;rfl) h (fz_ok hs hk)
    ·exact ih ds _ _ ι a w os hre' hc hF hA h hs
   ·simp only [awpOps] at h
    obtain ⟨h1,fr',L',ι',h2,h2a,h3⟩:=ih (ds++[x]) _ _ _ a w os hre' hc (fun d hd=>by
     rcases List.mem_append.1 hd with hd|hd
     ·exact (hF d hd).hole x
     ·simp only [List.mem_singleton] at hd
      subst hd
      exact Zam.hole_self d fr L) (fun d hd=>by
     by_cases hx:x=d
     ·subst hx
      by_cases hl:x < fr.length
      ·simp [List.getD,hl]
      ·simp [List.getD,List.getElem?_eq_none,hl]
     ·have hd':d∈ds:=(List.mem_append.1 hd).resolve_right (fun q=>hx (List.mem_singleton.1 q).symm)
      have:=hA d hd'
      rw [List.getD,List.getElem?_set_ne hx,List.getElem?_map]
      rw [List.getD] at this
      cases hq:fr[d]? with
      |none=>rfl
      |some q=>rw [hq] at this;simp only [Option.getD_some] at this;subst this;rfl) h (hole_ok hs x)
    exact ⟨h1,fr',L',ι',by simpa using h2,by simpa using h2a,h3⟩
   ·have:=hre _ (List.mem_cons_self ..)
    cases this
  ·rw [if_neg hf,if_neg hf]
   exact ⟨hc,fr,L,ι,by simpa using hF,by simpa using hA,h,hs⟩
theorem awpOps_drop0 {K:List AV→Objs→Prop}:∀ (is:List IOper) (ds:List Nat) (fr:List AV) (L:Objs) (ι:Key→Value) (a:Act) (w:World),(∀ i∈is,isRe i=false)→FreeAll ds fr L→(∀ d∈ds,fr.getD d .any=.any)→awpOps P E Y is fr L K→StF E B w L ι fr a→∃ fr' L' ι',FreeAll (ds++holesOf is) fr' L'∧(∀ d∈ds++holesOf is,fr'.getD d .any=.any)∧awpOps P E Y (dropFz is) fr' L' K∧StF E B w L' ι' fr' a:=by
 intro is
 induction is with
 |nil=>intro ds fr L ι a w _ hF hA h hs;exact ⟨fr,L,ι,by simpa [holesOf] using hF,by simpa [holesOf] using hA,h,hs⟩
 |cons i is ih=>
  intro ds fr L ι a w hre hF hA h hs
  have hre':∀ i∈is,isRe i=false:=fun j hj=>hre j (by simp [hj])
  simp only [dropFz,holesOf]
  by_cases hf:isFz i=true
  ·rw [if_pos hf,if_pos hf]
   rcases isFz_eq hf with ⟨x,rfl⟩|⟨x,rfl⟩|rfl
   ·simp only [awpOps] at h
    split at h
    ·rename_i k y hk
     exact ih ds _ _ ι a w hre' (fun d hd=>(hF d hd).thaw) (fun d hd=>by have:=hA d hd;rw [List.getD,List.getElem?_map];rw [List.getD] at this;cases hq:fr[d]? with|none=>rfl|some q=>rw [hq] at this;simp only [Option.getD_some] at this;subst this;rfl) h (fz_ok hs hk)
    ·exact ih ds _ _ ι a w hre' hF hA h hs
   ·simp only [awpOps] at h
    obtain ⟨fr',L',ι',h2,h2a,h3⟩:=ih (ds++[x]) _ _ _ a w hre' (fun d hd=>by
     rcases List.mem_append.1 hd with hd|hd
     ·exact (hF d hd).hole x
     ·simp only [List.mem_singleton] at hd
      subst hd
      exact Zam.hole_self d fr L) (fun d hd=>by
     by_cases hx:x=d
     ·subst hx
      by_cases hl:x < fr.length
      ·simp [List.getD,hl]
      ·simp [List.getD,List.getElem?_eq_none,hl]
     ·have hd':d∈ds:=(List.mem_append.1 hd).resolve_right (fun q=>hx (List.mem_singleton.1 q).symm)
      have:=hA d hd'
      rw [List.getD,List.getElem?_set_ne hx,List.getElem?_map]
      rw [List.getD] at this
      cases hq:fr[d]? with
      |none=>rfl
      |some q=>rw [hq] at this;simp only [Option.getD_some] at this;subst this;rfl) h (hole_ok hs x)
    exact ⟨fr',L',ι',by simpa using h2,by simpa using h2a,h3⟩
   ·have:=hre _ (List.mem_cons_self ..)
    cases this
  ·rw [if_neg hf,if_neg hf]
   exact ⟨fr,L,ι,by simpa using hF,by simpa using hA,h,hs⟩
theorem any_okP {ops:Array Oper} {ps:List (Nat×IOper)} {K:List AV→Objs→Prop} {Q:Exit→Act→World→Prop} (hK:∀ fr L ι a w,K fr L→StF E B w L ι fr a→Q .normal a w) (hnd:(ps.map (·.1)).Nodup) (hcov:∀ i,i < ops.size→i∈ps.map (·.1))
  (hget:∀ p∈ps,∃ o,ops[p.1]?=some o∧chkOper P ops o p.2=true) (hfz:∀ p∈ps,isFz p.2=false) (hall:allOk ops ops.size [] ps=true)
  (hedge:∀ A p C,ps=A++p :: C→∀ o,ops[p.1]?=some o→∀ e∈edgesB o,e∈A.map (·.1)) (hnews:newsOf (ps.map (·.2))=[]∨(∀ i∈ps.map (·.2),okBy (newsOf (ps.map (·.2))) i=true)∧(newsOf (ps.map (·.2))).Nodup) :
  ∀ (fuel:Nat) (listed:Array Bool) (fr:List AV) (L:Objs) (ι:Key→Value) (a:Act) (w:World),listed.size=ops.size→ClosedL ops listed→fuel=(ps.filter (unl listed)).length→FreeAll (newsOf ((ps.filter (unl listed)).map (·.2))) fr L→
   awpOps P E Y ((ps.filter (unl listed)).map (·.2)) fr L K→StF E B w L ι fr a→wpAny P .any ops Q fuel listed a w:=by
 intro fuel
 induction fuel with
 |zero=>
  intro listed fr L ι a w hsz hcl hf hFr h hs
  have hnil:ps.filter (unl listed)=[]:=List.eq_nil_of_length_eq_zero hf.symm
  rw [hnil] at h
  refine ⟨?_,hK fr L ι a w h hs⟩
  refine List.eq_nil_iff_forall_not_mem.2 fun i hi=>?_
  obtain ⟨o,ho,h2,_⟩:=mem_ready.1 hi
  obtain ⟨p,hp,rfl⟩:=List.mem_map.1 (hcov i (Array.getElem?_eq_some_iff.1 ho).1)
  have:p∈ps.filter (unl listed):=List.mem_filter.2 ⟨hp,by simp [unl,h2]⟩
  rw [hnil] at this
  cases this
 |succ fuel ih=>
  intro listed fr L ι a w hsz hcl hf hFr h hs
  have hready:Region.ready .any ops listed≠[]:=by
   intro hnil
   have hex:∃ A p C,ps=A++p :: C∧unl listed p=true∧∀ x∈A,unl listed x=false:=by
    cases hrem:ps.filter (unl listed) with
    |nil=>rw [hrem] at hf;simp at hf
    |cons p rest=>
     obtain ⟨A,C,e,h1,h2,_⟩:=List.filter_eq_cons_iff.1 hrem
     exact ⟨A,p,C,e,h2,fun x hx=>by simpa using h1 x hx⟩
   obtain ⟨A,p,C,e,hp,hA⟩:=hex
   obtain ⟨o,ho,_⟩:=hget p (by rw [e];simp)
   have hpu:listed.getD p.1 true=false:=by simpa [unl] using hp
   have:p.1∈Region.ready .any ops listed:=mem_ready.2 ⟨o,ho,hpu,fun e' he=>by
    obtain ⟨x,hx,rfl⟩:=List.mem_map.1 (hedge A p C e o ho e' he)
    have h1:=hA x hx
    simp only [unl,Bool.not_eq_false'] at h1
    obtain ⟨ox,hox,_⟩:=hget x (by rw [e];simp [hx])
    have hes:x.1 < listed.size:=by rw [hsz];exact (Array.getElem?_eq_some_iff.1 hox).1
    simp only [Array.getD,hes,dite_true] at h1 ⊢
    exact h1⟩
   rw [hnil] at this
   cases this
  refine ⟨fun hn=>absurd hn hready,fun i hi=>?_⟩
  obtain ⟨o,ho,hun,hed⟩:=mem_ready.1 hi
  have hilt:=(Array.getElem?_eq_some_iff.1 ho).1
  have hil:i < listed.size:=by rw [hsz];exact hilt
  obtain ⟨q,hq,hqi⟩:=List.mem_map.1 (hcov i hilt)
  obtain ⟨A,C,hsplit⟩:=List.append_of_mem hq
  obtain ⟨i',ii⟩:=q
  simp only at hqi
  subst hqi
  have hne:∀ p∈A++C,p.1≠i':=by
   intro p hp he
   have h1:((i' :: (A++C).map (·.1))).Nodup:=by
    have hp2:(ps.map (·.1)).Perm (i' :: (A++C).map (·.1)):=by
     rw [hsplit,List.map_append,List.map_append,List.map_cons]
     exact List.perm_middle
    exact hp2.nodup_iff.1 hnd
   rw [List.nodup_cons] at h1
   exact h1.1 (he ▸ List.mem_map_of_mem hp)
  have hunl:unl listed (i',ii)=true:=by simp [unl,hun]
  have hfil:ps.filter (unl listed)=A.filter (unl listed)++(i',ii) :: C.filter (unl listed):=by
   rw [hsplit,List.filter_append,List.filter_cons_of_pos hunl]
  have hgd:∀ j,j≠i'→(listed.setIfInBounds i' true).getD j true=listed.getD j true:=by
   intro j hj
   rw [Array.getD_eq_getD_getElem?,Array.getD_eq_getD_getElem?,Array.getElem?_setIfInBounds_ne (Ne.symm hj)]
  have hself:∀ b,(listed.setIfInBounds i' true).getD i' b=true:=by
   intro b
   rw [Array.getD_eq_getD_getElem?,Array.getElem?_setIfInBounds_self_of_lt hil]
   rfl
  have hfil':ps.filter (unl (listed.setIfInBounds i' true))=A.filter (unl listed)++C.filter (unl listed):=by
   rw [hsplit,List.filter_append,List.filter_cons_of_neg (by simp [unl,hself])]
   congr 1
   ·refine List.filter_congr fun p hp=>?_
    simp only [unl,hgd p.1 (hne p (by simp [hp]))]
   ·refine List.filter_congr fun p hp=>?_
    simp only [unl,hgd p.1 (hne p (by simp [hp]))]
  have hap:∀ x∈(A.filter (unl listed)).map (·.2),apartI x ii=true:=by
   intro x hx
   obtain ⟨p,hp,rfl⟩:=List.mem_map.1 hx
   obtain ⟨hp1,hp2⟩:=List.mem_filter.1 hp
   rcases allOk_get hall A (i',ii) C hsplit p (by simpa using hp1) with h'|h'
   ·exact h'
   ·have:=anc_listed hcl _ i' p.1 o ho hed h'
    obtain ⟨ox,hox,_⟩:=hget p (by rw [hsplit];simp [hp1])
    have hpl:p.1 < listed.size:=by rw [hsz];exact (Array.getElem?_eq_some_iff.1 hox).1
    simp only [unl,Array.getD,hpl,dite_true] at hp2 this
    rw [this] at hp2
    cases hp2
  have hsub:((ps.filter (unl listed)).map (·.2)).Sublist (ps.map (·.2)):=(List.filter_sublist (p:=unl listed) (l:=ps)).map (·.2)
  rw [hfil] at h hf hFr hsub
  simp only [List.map_append,List.map_cons] at h hFr hsub
  have hcont:∀ {A2 C2:List IOper} {d:Nat},d∈newsOf (A2++C2)→d∈newsOf (A2++ii :: C2):=by
   intro A2 C2 d hd
   obtain ⟨q,hq,r,hr⟩:=newsOf_mem.1 hd
   refine newsOf_mem.2 ⟨q,?_,r,hr⟩
   simp only [List.mem_append,List.mem_cons] at hq ⊢
   rcases hq with hq|hq
   ·exact .inl hq
   ·exact .inr (.inr hq)
  have hfront:=moveFront _ fr L hap (fun d hd=>hFr d (by
   obtain ⟨q,hq,r,hr⟩:=newsOf_mem.1 hd
   simp only [List.mem_singleton] at hq
   exact newsOf_mem.2 ⟨q,by simp [hq],r,hr⟩)) h
  have hii:ii∈ps.map (·.2):=by rw [hsplit];simp
  generalize hA2:(A.filter (unl listed)).map (·.2)=A2 at *
  generalize hC2:(C.filter (unl listed)).map (·.2)=C2 at *
  have hrest:FreeAll (newsOf (A2++C2)) fr L:=fun d hd=>hFr d (hcont hd)
  have hsubm:∀ d,d∈newsOf (A2++C2)→d∈newsOf (ps.map (·.2)):=fun d hd=>by
   obtain ⟨q,hq,r,hr⟩:=newsOf_mem.1 (hcont hd)
   exact newsOf_mem.2 ⟨q,hsub.subset hq,r,hr⟩
  have hfront:awpOps P E Y (ii :: []) fr L (fun fr L=>FreeAll (newsOf (A2++C2)) fr L∧awpOps P E Y (A2++C2) fr L K)∨(awpOps P E Y (ii :: (A2++C2)) fr L K∧newsOf (ps.map (·.2))=[]):=by
   rcases hnews with hn|⟨h1,h2⟩
   ·exact .inr ⟨hfront,hn⟩
   ·rcases okBy_spec (h1 ii hii) with hok|⟨d0,hd0,hn0⟩
    rotate_left
    ·exact .inl (awpOps_consA hd0 (fun hm=>hn0 (hsubm d0 hm)) hrest hfront (fun fr L hF h=>⟨hF,h⟩))
    refine .inl (awpOps_consF hok ?_ hrest hfront (fun fr L hF h=>⟨hF,h⟩))
    intro d l hd hm
    have hnd:(newsOf (A2++ii :: C2)).Nodup:=(hsub.filterMap _).nodup h2
    have hp:(newsOf (A2++ii :: C2)).Perm (newsOf (ii :: (A2++C2))):=List.Perm.filterMap _ List.perm_middle
    have hnd2:=hp.nodup_iff.1 hnd
    have e:newsOf (ii :: (A2++C2))=d :: newsOf (A2++C2):=by simp [newsOf,hd]
    rw [e] at hnd2
    exact (List.nodup_cons.1 hnd2).1 hm
  have hemp:newsOf (ps.map (·.2))=[]→newsOf (A2++C2)=[]:=by
   intro hn
   refine List.eq_nil_iff_forall_not_mem.2 fun d hd=>?_
   have:=hsubm d hd
   rw [hn] at this
   cases this
  obtain ⟨o',ho',hchk⟩:=hget (i',ii) hq
  rw [ho] at ho'
  cases ho'
  have hfi:isFz ii=false:=hfz (i',ii) hq
  have cont:∀ fr' L' ι' a' w',FreeAll (newsOf (A2++C2)) fr' L'→awpOps P E Y (A2++C2) fr' L' K→StF E B w' L' ι' fr' a'→wpAny P .any ops Q fuel (listed.setIfInBounds i' true) a' w':=by
   intro fr' L' ι' a' w' hF' h' hs'
   refine ih (listed.setIfInBounds i' true) fr' L' ι' a' w' (by simpa using hsz) ?_ ?_ ?_ ?_ hs'
   ·intro k q hq2 hk e he
    by_cases hki:k=i'
    ·subst hki
     rw [ho] at hq2
     cases hq2
     by_cases hei:e=k
     ·subst hei;exact hself _
     ·have:=hed e he
      rw [Array.getD_eq_getD_getElem?,Array.getElem?_setIfInBounds_ne (Ne.symm hei),← Array.getD_eq_getD_getElem?]
      exact this
    ·rw [Array.getD_eq_getD_getElem?,Array.getElem?_setIfInBounds_ne (Ne.symm hki),← Array.getD_eq_getD_getElem?] at hk
     have:=hcl k q hq2 hk e he
     by_cases hei:e=i'
     ·subst hei;exact hself _
     ·rw [Array.getD_eq_getD_getElem?,Array.getElem?_setIfInBounds_ne (Ne.symm hei),← Array.getD_eq_getD_getElem?]
      exact this
   ·rw [hfil']
    simp only [List.length_append,List.length_cons] at hf ⊢
    omega
   ·rw [hfil',List.map_append,hA2,hC2]
    exact hF'
   ·rw [hfil',List.map_append,hA2,hC2]
    exact h'
  have hstep:if Region.wanted o (yielded ops a.tmps) then o.wp P a w (wpAny P .any ops Q fuel (listed.setIfInBounds i' true)) Q else wpAny P .any ops Q fuel (listed.setIfInBounds i' true) (a.put o.dst undef) w:=by
   rcases hfront with hfront|⟨hfront,hn⟩
   ·exact oper_sound hchk hfi hfront hs (fun fr' L' ι' a' w' h' hs'=>by
     simp only [awpOps] at h'
     exact cont fr' L' ι' a' w' h'.1 h'.2 hs')
   ·exact oper_sound hchk hfi hfront hs (fun fr' L' ι' a' w' h' hs'=>cont fr' L' ι' a' w' (by rw [hemp hn];intro d hd;cases hd) h' hs')
  unfold wpOp
  rw [ho]
  simp only
  by_cases hw:Region.wanted o (yielded ops a.tmps)=true
  ·rw [if_pos hw] at hstep ⊢
   exact .inl hstep
  ·rw [if_neg hw] at hstep ⊢
   exact hstep
theorem pairsT_mem {ops:Array Oper} {n i:Nat} {ii:IOper}:∀ {l:List (Nat×IOper)},pairsT ops n i ii l=true→∀ y∈l,apartT y.2 ii=true∨ancB ops n i y.1=true:=by
 intro l
 induction l with
 |nil=>intro _ y hy;cases hy
 |cons q l ih=>
  intro h y hy
  obtain ⟨j,jj⟩:=q
  simp only [pairsT,Bool.and_eq_true,Bool.or_eq_true] at h
  simp only [List.mem_cons] at hy
  rcases hy with rfl|hy
  ·exact h.1
  ·exact ih h.2 y hy
theorem allT_get {ops:Array Oper} {n:Nat}:∀ {l seen:List (Nat×IOper)},allT ops n seen l=true→∀ (pre:List (Nat×IOper)) (x:Nat×IOper) (post:List (Nat×IOper)),l=pre++x :: post→∀ y∈seen++pre,apartT y.2 x.2=true∨ancB ops n x.1 y.1=true:=by
 intro l
 induction l with
 |nil=>intro seen _ pre x post h;cases pre<;>cases h
 |cons q l ih=>
  intro seen h pre x post e y hy
  obtain ⟨i,ii⟩:=q
  simp only [allT,Bool.and_eq_true] at h
  cases pre with
  |nil=>
   simp only [List.nil_append,List.cons.injEq] at e
   obtain ⟨rfl,rfl⟩:=e
   exact pairsT_mem h.1 y (by simpa using hy)
  |cons p pre=>
   simp only [List.cons_append,List.cons.injEq] at e
   obtain ⟨rfl,rfl⟩:=e
   exact ih h.2 pre x post rfl y (by simpa using hy)
theorem any_okT {ops:Array Oper} {ps:List (Nat×IOper)} {K:List AV→Objs→Prop} {Q:Exit→Act→World→Prop} (hK:∀ fr L ι a w,K fr L→StF E B w L ι fr a→Q .normal a w) (hnd:(ps.map (·.1)).Nodup) (hcov:∀ i,i < ops.size→i∈ps.map (·.1))
  (hget:∀ p∈ps,∃ o,ops[p.1]?=some o∧chkOper P ops o p.2=true) (hfz:∀ p∈ps,isFz p.2=false) (hall:allT ops ops.size [] ps=true) {ts:List Nat} (hokT:∀ p∈ps,okT ts p.2=true)
  (hedge:∀ A p C,ps=A++p :: C→∀ o,ops[p.1]?=some o→∀ e∈edgesB o,e∈A.map (·.1)) :
  ∀ (fuel:Nat) (listed:Array Bool) (fr:List AV) (L:Objs) (ι:Key→Value) (a:Act) (w:World),listed.size=ops.size→ClosedL ops listed→fuel=(ps.filter (unl listed)).length→InvA ts fr L→
   awpOps P E Y ((ps.filter (unl listed)).map (·.2)) fr L K→StF E B w L ι fr a→wpAny P .any ops Q fuel listed a w:=by
 intro fuel
 induction fuel with
 |zero=>
  intro listed fr L ι a w hsz hcl hf hI h hs
  have hnil:ps.filter (unl listed)=[]:=List.eq_nil_of_length_eq_zero hf.symm
  rw [hnil] at h
  refine ⟨?_,hK fr L ι a w h hs⟩
  refine List.eq_nil_iff_forall_not_mem.2 fun i hi=>?_
  obtain ⟨o,ho,h2,_⟩:=mem_ready.1 hi
  obtain ⟨p,hp,rfl⟩:=List.mem_map.1 (hcov i (Array.getElem?_eq_some_iff.1 ho).1)
  have:p∈ps.filter (unl listed):=List.mem_filter.2 ⟨hp,by simp [unl,h2]⟩
  rw [hnil] at this
  cases this
 |succ fuel ih=>
  intro listed fr L ι a w hsz hcl hf hI h hs
  have hready:Region.ready .any ops listed≠[]:=by
   intro hnil
   have hex:∃ A p C,ps=A++p :: C∧unl listed p=true∧∀ x∈A,unl listed x=false:=by
    cases hrem:ps.filter (unl listed) with
    |nil=>rw [hrem] at hf;simp at hf
    |cons p rest=>
     obtain ⟨A,C,e,h1,h2,_⟩:=List.filter_eq_cons_iff.1 hrem
     exact ⟨A,p,C,e,h2,fun x hx=>by simpa using h1 x hx⟩
   obtain ⟨A,p,C,e,hp,hA⟩:=hex
   obtain ⟨o,ho,_⟩:=hget p (by rw [e];simp)
   have hpu:listed.getD p.1 true=false:=by simpa [unl] using hp
   have:p.1∈Region.ready .any ops listed:=mem_ready.2 ⟨o,ho,hpu,fun e' he=>by
    obtain ⟨x,hx,rfl⟩:=List.mem_map.1 (hedge A p C e o ho e' he)
    have h1:=hA x hx
    simp only [unl,Bool.not_eq_false'] at h1
    obtain ⟨ox,hox,_⟩:=hget x (by rw [e];simp [hx])
    have hes:x.1 < listed.size:=by rw [hsz];exact (Array.getElem?_eq_some_iff.1 hox).1
    simp only [Array.getD,hes,dite_true] at h1 ⊢
    exact h1⟩
   rw [hnil] at this
   cases this
  refine ⟨fun hn=>absurd hn hready,fun i hi=>?_⟩
  obtain ⟨o,ho,hun,hed⟩:=mem_ready.1 hi
  have hilt:=(Array.getElem?_eq_some_iff.1 ho).1
  have hil:i < listed.size:=by rw [hsz];exact hilt
  obtain ⟨q,hq,hqi⟩:=List.mem_map.1 (hcov i hilt)
  obtain ⟨A,C,hsplit⟩:=List.append_of_mem hq
  obtain ⟨i',ii⟩:=q
  simp only at hqi
  subst hqi
  have hne:∀ p∈A++C,p.1≠i':=by
   intro p hp he
   have h1:((i' :: (A++C).map (·.1))).Nodup:=by
    have hp2:(ps.map (·.1)).Perm (i' :: (A++C).map (·.1)):=by
     rw [hsplit,List.map_append,List.map_append,List.map_cons]
     exact List.perm_middle
    exact hp2.nodup_iff.1 hnd
   rw [List.nodup_cons] at h1
   exact h1.1 (he ▸ List.mem_map_of_mem hp)
  have hunl:unl listed (i',ii)=true:=by simp [unl,hun]
  have hfil:ps.filter (unl listed)=A.filter (unl listed)++(i',ii) :: C.filter (unl listed):=by
   rw [hsplit,List.filter_append,List.filter_cons_of_pos hunl]
  have hgd:∀ j,j≠i'→(listed.setIfInBounds i' true).getD j true=listed.getD j true:=by
   intro j hj
   rw [Array.getD_eq_getD_getElem?,Array.getD_eq_getD_getElem?,Array.getElem?_setIfInBounds_ne (Ne.symm hj)]
  have hself:∀ b,(listed.setIfInBounds i' true).getD i' b=true:=by
   intro b
   rw [Array.getD_eq_getD_getElem?,Array.getElem?_setIfInBounds_self_of_lt hil]
   rfl
  have hfil':ps.filter (unl (listed.setIfInBounds i' true))=A.filter (unl listed)++C.filter (unl listed):=by
   rw [hsplit,List.filter_append,List.filter_cons_of_neg (by simp [unl,hself])]
   congr 1
   ·refine List.filter_congr fun p hp=>?_
    simp only [unl,hgd p.1 (hne p (by simp [hp]))]
   ·refine List.filter_congr fun p hp=>?_
    simp only [unl,hgd p.1 (hne p (by simp [hp]))]
  have hap:∀ x∈(A.filter (unl listed)).map (·.2),okT ts x=true∧apartT x ii=true:=by
   intro x hx
   obtain ⟨p,hp,rfl⟩:=List.mem_map.1 hx
   obtain ⟨hp1,hp2⟩:=List.mem_filter.1 hp
   refine ⟨hokT p (by rw [hsplit];simp [hp1]),?_⟩
   rcases allT_get hall A (i',ii) C hsplit p (by simpa using hp1) with h'|h'
   ·exact h'
   ·have:=anc_listed hcl _ i' p.1 o ho hed h'
    obtain ⟨ox,hox,_⟩:=hget p (by rw [hsplit];simp [hp1])
    have hpl:p.1 < listed.size:=by rw [hsz];exact (Array.getElem?_eq_some_iff.1 hox).1
    simp only [unl,Array.getD,hpl,dite_true] at hp2 this
    rw [this] at hp2
    cases hp2
  rw [hfil] at h hf
  simp only [List.map_append,List.map_cons] at h
  have hfront:=consT (hokT (i',ii) hq) hI (moveFrontT (hokT (i',ii) hq) _ fr L hap hI h) (js:=[]) (K':=fun fr L=>InvA ts fr L∧awpOps P E Y ((A.filter (unl listed)).map (·.2)++(C.filter (unl listed)).map (·.2)) fr L K) (fun fr L hI h=>⟨hI,h⟩)
  obtain ⟨o',ho',hchk⟩:=hget (i',ii) hq
  rw [ho] at ho'
  cases ho'
  have hfi:isFz ii=false:=hfz (i',ii) hq
  have cont:∀ fr' L' ι' a' w',InvA ts fr' L'→awpOps P E Y ((A.filter (unl listed)).map (·.2)++(C.filter (unl listed)).map (·.2)) fr' L' K→StF E B w' L' ι' fr' a'→wpAny P .any ops Q fuel (listed.setIfInBounds i' true) a' w':=by
   intro fr' L' ι' a' w' hI' h' hs'
   refine ih (listed.setIfInBounds i' true) fr' L' ι' a' w' (by simpa using hsz) ?_ ?_ hI' ?_ hs'
   ·intro k q hq2 hk e he
    by_cases hki:k=i'
    ·subst hki
     rw [ho] at hq2
     cases hq2
     by_cases hei:e=k
     ·subst hei;exact hself _
     ·have:=hed e he
      rw [Array.getD_eq_getD_getElem?,Array.getElem?_setIfInBounds_ne (Ne.symm hei),← Array.getD_eq_getD_getElem?]
      exact this
    ·rw [Array.getD_eq_getD_getElem?,Array.getElem?_setIfInBounds_ne (Ne.symm hki),← Array.getD_eq_getD_getElem?] at hk
     have:=hcl k q hq2 hk e he
     by_cases hei:e=i'
     ·subst hei;exact hself _
     ·rw [Array.getD_eq_getD_getElem?,Array.getElem?_setIfInBounds_ne (Ne.symm hei),← Array.getD_eq_getD_getElem?]
      exact this
   ·rw [hfil']
    simp only [List.length_append,List.length_cons] at hf ⊢
    omega
   ·rw [hfil',List.map_append]
    exact h'
  have hstep:if Region.wanted o (yielded ops a.tmps) then o.wp P a w (wpAny P .any ops Q fuel (listed.setIfInBounds i' true)) Q else wpAny P .any ops Q fuel (listed.setIfInBounds i' true) (a.put o.dst undef) w:=
   oper_sound hchk hfi hfront hs (fun fr' L' ι' a' w' h' hs'=>cont fr' L' ι' a' w' h'.1 h'.2 hs')
  unfold wpOp
  rw [ho]
  simp only
  by_cases hw:Region.wanted o (yielded ops a.tmps)=true
  ·rw [if_pos hw] at hstep ⊢
   exact .inl hstep
  ·rw [if_neg hw] at hstep ⊢
   exact hstep
theorem zip_split {α β:Type}:∀ {l:List α} {m:List β} {A:List (α×β)} {p:α×β} {C:List (α×β)},l.length=m.length→l.zip m=A++p :: C→A.map (·.1)=l.take A.length∧l[A.length]?=some p.1
 |[],m,A,p,C,_,h=>by cases A<;>simp at h
 |a :: l,[],A,p,C,hl,h=>by simp at hl
 |a :: l,b :: m,[],p,C,hl,h=>by
  simp only [List.zip_cons_cons,List.nil_append,List.cons.injEq] at h
  rw [← h.1]
  exact ⟨rfl,rfl⟩
 |a :: l,b :: m,x :: A,p,C,hl,h=>by
  simp only [List.zip_cons_cons,List.cons_append,List.cons.injEq] at h
  obtain ⟨h1,h2⟩:=zip_split (by simpa using hl) h.2
  rw [← h.1]
  exact ⟨by simp [h1],by simpa using h2⟩
theorem drawOkP (hm:P.follows .mixedOrders=true) (E:Envt) (B:Base) (Y:List PV) (ops:Array Oper) (pm:List Nat) (is:List IOper) (id:Nat) (fr:List AV) (L:Objs) (ι:Key→Value) (a:Act) (w:World) (K:List AV→Objs→Prop) (Q:Exit→Act→World→Prop)
  (hK:∀ fr L ι a w,K fr L→StF E B w L ι fr a→Q .normal a w) (hc:chkPm P ops pm is=true) (hD:okDrawP ops pm is=true) (h:awpOps P E Y is fr L K) (hs:StF E B w L ι fr a):(Code.region id ops true).wp P Q a w:=by
 simp only [okDrawP,Bool.and_eq_true,beq_iff_eq,decide_eq_true_eq,List.all_eq_true,Bool.not_eq_true'] at hD
 obtain ⟨⟨⟨⟨⟨⟨hre,h0⟩,hnd⟩,hlen⟩,hlt⟩,hall⟩,hedge⟩:=hD
 obtain ⟨fr',L',ι',hF',_,h',hs'⟩:=awpOps_drop0 is [] fr L ι a w hre (fun d hd=>by cases hd) (fun d hd=>by cases hd) h hs
 rw [List.nil_append] at hF'
 simp only [chkPm,Bool.and_eq_true,beq_iff_eq] at hc
 obtain ⟨hl2,hc⟩:=hc
 rw [List.all_eq_true] at hc
 generalize holesOf is=hls at *
 generalize dropFz is=js at *
 have hm1:(pm.zip js).map (·.1)=pm:=by
  have:=List.unzip_zip hl2
  rw [← List.unzip_fst,this]
 have hm2:(pm.zip js).map (·.2)=js:=by
  have:=List.unzip_zip hl2
  rw [← List.unzip_snd,this]
 have hchk:∀ p∈pm.zip js,isFz p.2=false∧∃ o,ops[p.1]?=some o∧chkOper P ops o p.2=true:=by
  intro p hp
  have:=hc p hp
  rw [Bool.and_eq_true,Bool.not_eq_true'] at this
  refine ⟨this.1,?_⟩
  have h2:=this.2
  split at h2
  ·rename_i o ho;exact ⟨o,ho,h2⟩
  ·cases h2
 have hcov:∀ i,i < ops.size→i∈pm:=by
  intro i hi
  simpa using hlt i (List.mem_range.2 hi)
 refine wp_region_any hm ?_
 have hs'':StF E B { w with drawn:=w.drawn+1 } L' ι' fr' a:=hs'.grown ⟨rfl,rfl,rfl,Nat.le_refl _,fun _ _ _=>rfl⟩
 have hrep:∀ j,j < ops.size→(Array.replicate ops.size false).getD j true=false:=by
  intro j hj
  simp [Array.getD,hj]
 have hfil:(pm.zip js).filter (unl (Array.replicate ops.size false))=pm.zip js:=by
  refine List.filter_eq_self.2 fun p hp=>?_
  obtain ⟨_,o,ho,_⟩:=hchk p hp
  simp only [unl,hrep p.1 (Array.getElem?_eq_some_iff.1 ho).1,Bool.not_false]
 refine any_okP (Y:=Y) (ps:=pm.zip js) hK (by rw [hm1];exact hnd) (fun i hi=>by rw [hm1];exact hcov i hi) (fun p hp=>(hchk p hp).2) (fun p hp=>(hchk p hp).1) hall (fun A p C e o ho q hq=>?_) ?_ ops.size (Array.replicate ops.size false) fr' L' ι' a _ (by simp) ?_ ?_ ?_ ?_ hs''
 ·obtain ⟨h1,h2⟩:=zip_split hl2 e
  have hk:A.length < pm.length:=(List.getElem?_eq_some_iff.1 h2).1
  have:=hedge A.length (List.mem_range.2 hk)
  have hg:pm.getD A.length 0=p.1:=by simp [List.getD,h2]
  rw [hg,ho] at this
  simp only [List.all_eq_true] at this
  have:=this q hq
  rw [h1]
  simpa using this
 ·rw [hm2]
  simp only [okNews,Bool.or_eq_true,Bool.and_eq_true,List.isEmpty_iff,List.all_eq_true,decide_eq_true_eq] at h0
  rcases h0 with h0|h0
  ·exact .inl h0
  ·exact .inr h0.1
 ·intro k q hq hk
  by_cases hj:k < ops.size<;>simp [Array.getD,hj] at hk
 ·rw [hfil]
  have:=congrArg List.length hm1
  rw [List.length_map] at this
  omega
 ·rw [hfil,hm2]
  simp only [okNews,Bool.or_eq_true,Bool.and_eq_true,List.isEmpty_iff,List.all_eq_true,decide_eq_true_eq] at h0
  rcases h0 with h0|h0
  ·rw [h0];intro d hd;cases hd
  ·intro d hd
   exact hF' d (by simpa using h0.2 d hd)
 ·rw [hfil,hm2]
  exact h'
theorem drawOkT (hm:P.follows .mixedOrders=true) (E:Envt) (B:Base) (Y:List PV) (ops:Array Oper) (is:List IOper) (id:Nat) (fr:List AV) (L:Objs) (ι:Key→Value) (a:Act) (w:World) (K:List AV→Objs→Prop) (Q:Exit→Act→World→Prop)
  (hK:∀ fr L ι a w,K fr L→StF E B w L ι fr a→Q .normal a w) (hc:chkOps P ops ops.toList is=true) (hD:okDrawT ops is=true) (h:awpOps P E Y is fr L K) (hs:StF E B w L ι fr a):(Code.region id ops true).wp P Q a w:=by
 simp only [okDrawT,Bool.and_eq_true,beq_iff_eq,List.all_eq_true,Bool.not_eq_true'] at hD
 obtain ⟨⟨⟨⟨⟨⟨hre,h0⟩,hok⟩,h1⟩,h2⟩,h3⟩,h4⟩:=hD
 obtain ⟨hc',fr',L',ι',hF',hA',h',hs'⟩:=awpOps_drop is [] fr L ι a w ops.toList hre hc (fun d hd=>by cases hd) (fun d hd=>by cases hd) h hs
 rw [List.nil_append] at hF' hA'
 generalize holesOf is=hls at *
 generalize dropFz is=js at *
 obtain ⟨g1,g2⟩:=chkOps_get hc' (fun i hi=>h1 i hi)
 have hI:InvA (newsOf js) fr' L':=fun d hd=>by
  have hm:=h0 d hd
  have hm:d∈hls:=by simpa using hm
  exact ⟨any_fix (hF' d hm).1 d,(hF' d hm).2,.inl (hA' d hm)⟩
 refine wp_region_any hm ?_
 have hs'':StF E B { w with drawn:=w.drawn+1 } L' ι' fr' a:=hs'.grown ⟨rfl,rfl,rfl,Nat.le_refl _,fun _ _ _=>rfl⟩
 have hl:(List.range js.length).length=js.length:=by simp
 have hz1:((List.range js.length).zip js).map (·.1)=List.range js.length:=by rw [← List.unzip_fst,List.unzip_zip hl]
 have hz2:((List.range js.length).zip js).map (·.2)=js:=by rw [← List.unzip_snd,List.unzip_zip hl]
 have zmem:∀ (p:Nat×IOper),p∈(List.range js.length).zip js→p.1 < js.length∧js[p.1]?=some p.2:=by
  intro p hp
  obtain ⟨k,hk⟩:=List.getElem?_of_mem hp
  rw [List.getElem?_zip_eq_some] at hk
  obtain ⟨h1,h2⟩:=hk
  rw [List.getElem?_range (by have:=(List.getElem?_eq_some_iff.1 h2).1;exact this)] at h1
  cases h1
  exact ⟨(List.getElem?_eq_some_iff.1 h2).1,h2⟩
 have hrep:∀ j,j < ops.size→(Array.replicate ops.size false).getD j true=false:=by
  intro j hj
  simp [Array.getD,hj]
 have hfil:((List.range js.length).zip js).filter (unl (Array.replicate ops.size false))=(List.range js.length).zip js:=by
  refine List.filter_eq_self.2 fun p hp=>?_
  simp only [unl,hrep p.1 (by rw [← h2];exact (zmem p hp).1),Bool.not_false]
 refine any_okT (Y:=Y) (ps:=(List.range js.length).zip js) hK (by rw [hz1];exact List.nodup_range) (fun i hi=>by rw [hz1,List.mem_range,h2];exact hi) (fun p hp=>?_) (fun p hp=>h1 _ (List.mem_of_getElem? (zmem p hp).2)) h3 (ts:=newsOf js) (fun p hp=>hok _ (List.mem_of_getElem? (zmem p hp).2)) (fun A p C e o ho q hq=>?_) ops.size (Array.replicate ops.size false) fr' L' ι' a _ (by simp) ?_ ?_ hI ?_ hs''
 ·obtain ⟨o,ho,hh⟩:=g2 p.1 p.2 (zmem p hp).2
  exact ⟨o,by simpa using ho,hh⟩
 ·obtain ⟨k1,k2⟩:=zip_split hl e
  have hAl:A.length < js.length:=by
   have:=(List.getElem?_eq_some_iff.1 k2).1
   simpa using this
  rw [List.getElem?_range hAl] at k2
  have hp1:=Option.some.inj k2
  have hlt:p.1 < ops.size:=(Array.getElem?_eq_some_iff.1 ho).1
  have:=h4 p.1 (by simpa using hlt)
  rw [ho] at this
  simp only [List.all_eq_true,decide_eq_true_eq] at this
  have hqlt:=this q hq
  rw [k1,List.mem_take_iff_getElem]
  refine ⟨q,by simp;omega,by simp⟩
 ·intro k q hq hk
  by_cases hj:k < ops.size<;>simp [Array.getD,hj] at hk
 ·rw [hfil];simp [h2]
 ·rw [hfil,hz2]
  exact h'
theorem drawOk (hm:P.follows .mixedOrders=true):DrawOk P okDraw:=by
 refine ⟨?_,fun E B Y ops pm is id fr L ι a w K Q hK hc hD h hs=>drawOkP hm E B Y ops pm is id fr L ι a w K Q hK hc hD h hs⟩
 intro E B Y ops is id fr L ι a w K Q hK hc hD h hs
 simp only [okDraw,Bool.or_eq_true] at hD
 rcases hD with hD|hD
 rotate_left
 ·exact drawOkT hm E B Y ops is id fr L ι a w K Q hK hc hD h hs
 simp only [okDraw0,Bool.and_eq_true,beq_iff_eq,List.all_eq_true,Bool.not_eq_true'] at hD
 obtain ⟨⟨⟨⟨⟨hre,h0⟩,h1⟩,h2⟩,h3⟩,h4⟩:=hD
 obtain ⟨hc',fr',L',ι',hF',_,h',hs'⟩:=awpOps_drop is [] fr L ι a w ops.toList hre hc (fun d hd=>by cases hd) (fun d hd=>by cases hd) h hs
 rw [List.nil_append] at hF'
 generalize holesOf is=hls at *
 generalize dropFz is=js at *
 obtain ⟨g1,g2⟩:=chkOps_get hc' (fun i hi=>h1 i hi)
 refine wp_region_any hm ?_
 have hs'':StF E B { w with drawn:=w.drawn+1 } L' ι' fr' a:=hs'.grown ⟨rfl,rfl,rfl,Nat.le_refl _,fun _ _ _=>rfl⟩
 have hrep:∀ j,(Array.replicate ops.size false).getD j true=false↔j < ops.size:=by
  intro j
  by_cases hj:j < ops.size<;>simp [Array.getD,hj]
 have hfil:((List.range js.length).zip js).filter (unl (Array.replicate ops.size false))=(List.range js.length).zip js:=by
  refine List.filter_eq_self.2 fun p hp=>?_
  obtain ⟨k,hk⟩:=List.getElem?_of_mem hp
  rw [List.getElem?_zip_eq_some] at hk
  have hkl:=(List.getElem?_eq_some_iff.1 hk.2).1
  rw [List.getElem?_range hkl] at hk
  cases hk.1
  simp only [unl,(hrep p.1).2 (by rw [← h2];exact hkl),Bool.not_false]
 refine any_ok (Y:=Y) (js:=js) hK h2 (fun k i hk=>?_) (fun i hi=>h1 i hi) h3 (fun i o ho e he=>?_) ?_ ops.size (Array.replicate ops.size false) fr' L' ι' a _ (by simp) ?_ ?_ ?_ ?_ hs''
 ·obtain ⟨o,ho,hh⟩:=g2 k i hk
  exact ⟨o,by simpa using ho,hh⟩
 ·have hlt:i < ops.size:=(Array.getElem?_eq_some_iff.1 ho).1
  have:=h4 i (by simpa using hlt)
  rw [ho] at this
  simp only [List.all_eq_true,decide_eq_true_eq] at this
  exact this e he
 ·simp only [okNewsL,Bool.or_eq_true,Bool.and_eq_true,List.isEmpty_iff,List.all_eq_true,decide_eq_true_eq] at h0
  rcases h0 with h0|h0
  ·exact .inl h0
  ·exact .inr h0.1
 ·intro k q hq hk
  by_cases hj:k < ops.size<;>simp [Array.getD,hj] at hk
 ·rw [hfil];simp [h2]
 ·rw [hfil]
  have e:((List.range js.length).zip js).map (·.2)=js:=by
   rw [← List.unzip_snd,List.unzip_zip (by simp)]
  rw [e]
  simp only [okNewsL,Bool.or_eq_true,Bool.and_eq_true,List.isEmpty_iff,List.all_eq_true,decide_eq_true_eq] at h0
  rcases h0 with h0|h0
  ·rw [h0];intro d hd;cases hd
  ·exact fun d hd=>hF' d (by simpa using h0.2 d hd)
 ·rw [hfil]
  have:((List.range js.length).zip js).map (·.2)=js:=by
   rw [← List.unzip_snd,List.unzip_zip (by simp)]
  rw [this]
  exact h'
end
def chkF (P:Program) (fn:Func) (ic:IC) (rs:List IRes) (n:Nat):Bool:=
 match fn.body with
 |some c=>chkC P okDraw ic c && okResL P fn.results.toList rs && fn.ntmps == n
 |none=>false
section
variable {P:Program} {E:Envt}
theorem pcallF (hm:P.follows .mixedOrders=true) {f:FuncId} {fn:Func} {ic:IC} {rs:List IRes} {args:List PV} {n:Nat} {φ:PV→Prop} (hf:P.funcs[f]?=some fn) (hc:chkF P fn ic rs n=true)
  (h:awp P E ic (args.map .p++List.replicate (n - args.length) .any) [] (retQ rs fun x _=>φ x)):PCall P E f args φ:=by
 unfold chkF at hc
 split at hc
 ·rename_i c hb
  simp only [Bool.and_eq_true,beq_iff_eq] at hc
  exact pcall_of_awp (drawOk hm) hf hb hc.2 hc.1.1 hc.1.2 h
 ·cases hc
def thenC (P:Program) (E:Envt) (y:IC) (Q:AQ):AQ:=thenQ (fun fr L=>awp P E y fr L Q) Q
def BrC (P:Program) (E:Envt) (b:Bool) (x y:IC) (fr:List AV) (L:Objs) (Q:AQ):Prop:=BrQ b (awp P E x fr L Q) (awp P E y fr L Q)
def LoopC (P:Program) (E:Envt) (x:IC) (fr:List AV) (L:Objs) (Q:AQ):Prop:=awp P E (.loop x) fr L Q
def DrgC (P:Program) (E:Envt) (ops:List IOper) (fr:List AV) (L:Objs) (K:List AV→Objs→Prop):Prop:=∃ X,awpOps P E X ops fr L K
def contO (P:Program) (E:Envt) (X:List PV) (is:List IOper) (K:List AV→Objs→Prop):List AV→Objs→Prop:=fun fr L=>awpOps P E X is fr L K
theorem ReOk.refl {fr:List AV} {L:Objs}:ReOk E fr L fr L:=fun B w ι a hs=>⟨ι,hs⟩
theorem ReOk.trans {fr fr1 fr2:List AV} {L L1 L2:Objs} (h:ReOk E fr L fr1 L1) (k:ReOk E fr1 L1 fr2 L2):ReOk E fr L fr2 L2:=fun B w ι a hs=>by
 obtain ⟨ι1,hs1⟩:=h B w ι a hs
 exact k B w ι1 a hs1
theorem re_weak {fr fr':List AV} {L L':Objs} (h1:Zb fr fr') (h2:Zd L' L):ReOk E fr L fr' L':=fun B w ι a hs=>⟨ι,hs.weak h1 h2⟩
def EndR (E:Envt) (I:Nat→List AV→Objs→Prop) (n:Nat) (fr:List AV) (L:Objs):Prop:=∃ m fr' L',m < n∧ReOk E fr L fr' L'∧I m fr' L'
def roundQ (E:Envt) (I:Nat→List AV→Objs→Prop) (n:Nat) (Q:AQ):AQ:=thenQ (EndR E I n) Q
def CutC (P:Program) (E:Envt) (x:IC) (fr:List AV) (L:Objs) (Q:AQ):Prop:=∃ fr' L',ReOk E fr L fr' L'∧awp P E x fr' L' Q
def MidK (E:Envt) (M:List AV→Objs→Prop) (fr:List AV) (L:Objs):Prop:=∃ fr' L',ReOk E fr L fr' L'∧M fr' L'
def midQ (E:Envt) (M:List AV→Objs→Prop) (Q:AQ):AQ:=thenQ (MidK E M) Q
variable {fr:List AV} {L:Objs} {Q:AQ} {X:List PV} {K:List AV→Objs→Prop}
theorem awp_skip:awp P E .skip fr L Q=Q .normal fr L:=rfl
theorem awp_exit {i:Nat}:awp P E (.exit i) fr L Q=Q (.exit i) fr L:=rfl
theorem awp_ret:awp P E .ret fr L Q=Q .ret fr L:=rfl
theorem awp_seq {x y:IC}:awp P E (.seq x y) fr L Q=awp P E x fr L (thenC P E y Q):=rfl
theorem awp_block {i:Nat} {x:IC}:awp P E (.block i x) fr L Q=awp P E x fr L (blockQ i Q):=rfl
theorem awp_reg {ops:List IOper}:awp P E (.reg ops) fr L Q=awpOps P E [] ops fr L (Q .normal):=rfl
theorem awp_drg {ops:List IOper}:awp P E (.drg ops) fr L Q=DrgC P E ops fr L (Q .normal):=rfl
theorem awp_drp {pm:List Nat} {ops:List IOper}:awp P E (.drp pm ops) fr L Q=DrgC P E ops fr L (Q .normal):=rfl
theorem awp_loop {x:IC}:awp P E (.loop x) fr L Q=LoopC P E x fr L Q:=rfl
theorem awp_cond {c:Opd} {x y:IC}:awp P E (.cond c x y) fr L Q=(match rd fr c with|.p (.bool b)=>BrC P E b x y fr L Q|_=>False):=rfl
theorem thenC_n {y:IC}:thenC P E y Q .normal fr L=awp P E y fr L Q:=rfl
theorem thenC_r {y:IC}:thenC P E y Q .ret fr L=Q .ret fr L:=rfl
theorem thenC_e {y:IC} {i:Nat}:thenC P E y Q (.exit i) fr L=Q (.exit i) fr L:=rfl
theorem blockQ_n {i:Nat}:blockQ i Q .normal fr L=Q .normal fr L:=rfl
theorem blockQ_r {i:Nat}:blockQ i Q .ret fr L=Q .ret fr L:=rfl
theorem blockQ_e {i j:Nat}:blockQ i Q (.exit j) fr L=if j=i then Q .normal fr L else Q (.exit j) fr L:=rfl
theorem roundQ_n {I:Nat→List AV→Objs→Prop} {n:Nat}:roundQ E I n Q .normal fr L=EndR E I n fr L:=rfl
theorem awp_cut {x:IC}:awp P E (.cut x) fr L Q=CutC P E x fr L Q:=rfl
theorem midQ_n {M:List AV→Objs→Prop}:midQ E M Q .normal fr L=MidK E M fr L:=rfl
theorem midQ_r {M:List AV→Objs→Prop}:midQ E M Q .ret fr L=Q .ret fr L:=rfl
theorem midQ_e {M:List AV→Objs→Prop} {i:Nat}:midQ E M Q (.exit i) fr L=Q (.exit i) fr L:=rfl
theorem roundQ_r {I:Nat→List AV→Objs→Prop} {n:Nat}:roundQ E I n Q .ret fr L=Q .ret fr L:=rfl
theorem roundQ_e {I:Nat→List AV→Objs→Prop} {n i:Nat}:roundQ E I n Q (.exit i) fr L=Q (.exit i) fr L:=rfl
theorem retQ_r {rs:List IRes} {φ:PV→Objs→Prop}:retQ rs φ .ret fr L=RetK (Zbd fr L rs) φ L:=rfl
theorem retQ_n {rs:List IRes} {φ:PV→Objs→Prop}:retQ rs φ .normal fr L=RetK (Zbd fr L rs) φ L:=rfl
theorem BrC_true {x y:IC}:BrC P E true x y fr L Q=awp P E x fr L Q:=by simp [BrC,BrQ]
theorem BrC_false {x y:IC}:BrC P E false x y fr L Q=awp P E y fr L Q:=by simp [BrC,BrQ]
theorem br {b:Bool} {x y:IC} (h1:b=true→awp P E x fr L Q) (h2:b=false→awp P E y fr L Q):BrC P E b x y fr L Q:=⟨h1,h2⟩
theorem loop_intro {x:IC} (I:Nat→List AV→Objs→Prop) (n:Nat) (fr':List AV) (L':Objs) (h1:Zb fr fr') (h2:Zd L' L) (h0:I n fr' L') (hr:∀ n fr L,I n fr L→awp P E x fr L (roundQ E I n Q)):LoopC P E x fr L Q:=⟨I,⟨n,fr',L',re_weak h1 h2,h0⟩,hr⟩
theorem end_round {I:Nat→List AV→Objs→Prop} {n:Nat} (m:Nat) (fr':List AV) (L':Objs) (hm:m < n) (h1:Zb fr fr') (h2:Zd L' L) (h0:I m fr' L'):EndR E I n fr L:=⟨m,fr',L',hm,re_weak h1 h2,h0⟩
theorem to_mid {M:List AV→Objs→Prop} (fr':List AV) (L':Objs) (h1:Zb fr fr') (h2:Zd L' L) (h0:M fr' L'):MidK E M fr L:=⟨fr',L',re_weak h1 h2,h0⟩
theorem map_kill_p (k:Key) (cs:List PV):(cs.map AV.p).map (fun x=>AV.kill k x)=cs.map AV.p:=by
 rw [List.map_map];exact List.map_congr_left fun x _=>rfl
theorem map_thaw_p (k:Key) (y:PV) (cs:List PV):(cs.map AV.p).map (fun x=>AV.thaw k y x)=cs.map AV.p:=by
 rw [List.map_map];exact List.map_congr_left fun x _=>rfl
theorem cut_same {x:IC} (h2:Zd L L) (h:awp P E x fr L Q):CutC P E x fr L Q:=⟨fr,L,ReOk.refl,h⟩
theorem awpOps_mono {K':List AV→Objs→Prop} (hk:∀ fr L,K fr L→K' fr L):∀ (is:List IOper) (fr:List AV) (L:Objs),awpOps P E X is fr L K→awpOps P E X is fr L K':=by
 intro is
 induction is with
 |nil=>intro fr L h;exact hk fr L h
 |cons i is ih=>
  obtain ⟨d,op,gd⟩:=i
  intro fr L h
  have hcall:∀ f as d fr,CallOp P E f as L d fr (fun fr L=>awpOps P E X is fr L K)→CallOp P E f as L d fr (fun fr L=>awpOps P E X is fr L K'):=by
   intro f as d fr h
   rcases h with ⟨φ,h1,h2⟩|⟨bk,post,h1,h2,h3,h4⟩|⟨i0,h⟩
   ·exact .inl ⟨φ,h1,fun x hx=>ih _ _ (h2 x hx)⟩
   ·refine .inr (.inl ⟨bk,post,h1,h2,h3,fun r os' hp=>?_⟩)
    have:=h4 r os' hp
    cases r with
    |p x=>exact ih _ _ this
    |fr es e z=>cases d with
     |none=>exact ih _ _ this
     |some d=>exact ih _ _ this
    |ft es e z ps=>cases d with
     |none=>exact ih _ _ this
     |some d=>exact ih _ _ this
   ·refine .inr (.inr ⟨i0,fun w X' ι vs a1 a2 a3 a4 a5=>(h w X' ι vs a1 a2 a3 a4 a5).mono ?_⟩)
    rintro e w' ⟨v,r,L',ι',b1,b2,b3⟩
    exact ⟨v,r,L',ι',b1,ih _ _ b2,b3⟩
  cases gd with
  |none=>
   cases op with
   |call f args=>exact ⟨h.1,hcall _ _ _ _ h.2⟩
   |pcall n f args=>exact ⟨h.1,ih _ _ h.2⟩
   |dcall b f args=>
    obtain ⟨h0,k,t,cs,post,h1,h2,h3,h4,h5,h6⟩:=h
    exact ⟨h0,k,t,cs,post,h1,h2,h3,h4,h5,fun x cs' hp=>ih _ _ (h6 x cs' hp)⟩
   |callv g args=>
    simp only [awpOps] at h ⊢
    split at h
    ·exact ⟨h.1,h.2.1,h.2.2.1,h.2.2.2.1,hcall _ _ _ _ h.2.2.2.2⟩
    ·exact h.elim
   |pcv n g args=>
    simp only [awpOps] at h ⊢
    split at h
    ·exact ⟨h.1,ih _ _ h.2⟩
    ·exact h.elim
   |fz x=>
    simp only [awpOps] at h ⊢
    split at h
    ·exact ih _ _ h
    ·exact ih _ _ h
   |hole x=>exact ih _ _ h
   |fcl n f args e z=>
    simp only [awpOps] at h ⊢
    split at h
    ·exact ⟨h.1,ih _ _ h.2⟩
    ·exact h.elim
   |re=>obtain ⟨fr',L',h1,h2⟩:=h;exact ⟨fr',L',h1,ih _ _ h2⟩
   |nxt x=>
    simp only [awpOps] at h ⊢
    split at h
    ·exact ⟨h.1,fun e=>ih _ _ (h.2.1 e),fun i p e=>ih _ _ (h.2.2 i p e)⟩
    ·exact h.elim
   |isn x=>
    simp only [awpOps] at h ⊢
    split at h
    ·exact ⟨h.1,fun b hb=>ih _ _ (h.2 b hb)⟩
    ·exact h.elim
   |_=>
    simp only [awpOps] at h ⊢
    split at h
    ·exact ⟨h.1,ih _ _ h.2⟩
    ·exact h.elim
  |some q=>
   obtain ⟨s,want⟩:=q
   simp only [awpOps] at h ⊢
   split at h
   ·cases op with
    |call f args=>
     simp only at h ⊢
     rcases h with ⟨h1,⟨x,h2,h3⟩|⟨h2,h3⟩⟩
     ·exact ⟨h1,.inl ⟨x,h2,ih _ _ h3⟩⟩
     ·exact ⟨h1,.inr ⟨fun e=>hcall _ _ _ _ (h2 e),fun e=>ih _ _ (h3 e)⟩⟩
    |pcall n f args=>simp only at h ⊢;exact ⟨h.1,ih _ _ h.2⟩
    |callv g args=>
     simp only at h ⊢
     split at h
     ·rcases h with ⟨h0,h1,⟨x,h2,h3⟩|⟨h2,h3⟩⟩
      ·exact ⟨h0,h1,.inl ⟨x,h2,ih _ _ h3⟩⟩
      ·exact ⟨h0,h1,.inr ⟨fun e=>hcall _ _ _ _ (h2 e),fun e=>ih _ _ (h3 e)⟩⟩
     ·exact ⟨h.1,ih _ _ h.2⟩
    |pcv n g args=>
     simp only at h ⊢
     split at h
     ·exact ⟨h.1,ih _ _ h.2⟩
     ·exact h.elim
    |_=>
     simp only at h ⊢
     split at h
     ·exact ⟨h.1,ih _ _ h.2⟩
     ·exact ⟨h.1,h.2.1,ih _ _ h.2.2⟩
   ·exact h.elim
theorem awp_mono:∀ (x:IC) (fr:List AV) (L:Objs) (Q Q':AQ),(∀ e fr L,Q e fr L→Q' e fr L)→awp P E x fr L Q→awp P E x fr L Q':=by
 intro x
 induction x with
 |skip=>intro fr L Q Q' hq h;exact hq _ _ _ h
 |reg ops=>intro fr L Q Q' hq h;exact awpOps_mono (hq .normal) ops fr L h
 |drg ops=>intro fr L Q Q' hq h;obtain ⟨Y,h⟩:=h;exact ⟨Y,awpOps_mono (hq .normal) ops fr L h⟩
 |drp pm ops=>intro fr L Q Q' hq h;obtain ⟨Y,h⟩:=h;exact ⟨Y,awpOps_mono (hq .normal) ops fr L h⟩
 |seq x y ihx ihy=>
  intro fr L Q Q' hq h
  refine ihx fr L _ _ (fun e fr L h=>?_) h
  cases e<;>first|exact ihy fr L Q Q' hq h|exact hq _ _ _ h
 |cond c x y ihx ihy=>
  intro fr L Q Q' hq h
  simp only [awp] at h ⊢
  split at h
  ·exact ⟨fun e=>ihx fr L Q Q' hq (h.1 e),fun e=>ihy fr L Q Q' hq (h.2 e)⟩
  ·exact h.elim
 |block i x ih=>
  intro fr L Q Q' hq h
  refine ih fr L _ _ (fun e fr L h=>?_) h
  cases e with
  |exit j=>
   simp only [blockQ] at h ⊢
   split at h
   ·rename_i hj;rw [if_pos hj];exact hq _ _ _ h
   ·rename_i hj;rw [if_neg hj];exact hq _ _ _ h
  |_=>exact hq _ _ _ h
 |loop x ih=>
  intro fr L Q Q' hq h
  obtain ⟨I,h0,hr⟩:=h
  refine ⟨I,h0,fun n fr L hi=>ih fr L _ _ (fun e fr L h=>?_) (hr n fr L hi)⟩
  cases e with
  |normal=>exact h
  |_=>exact hq _ _ _ h
 |exit i=>intro fr L Q Q' hq h;exact hq _ _ _ h
 |ret=>intro fr L Q Q' hq h;exact hq _ _ _ h
 |dead=>intro fr L Q Q' hq h;exact h.elim
 |cut x ih=>intro fr L Q Q' hq h;obtain ⟨fr',L',h1,h⟩:=h;exact ⟨fr',L',h1,ih fr' L' Q Q' hq h⟩
theorem br_join {b:Bool} {x y r:IC} (M:List AV→Objs→Prop) (h1:b=true→awp P E x fr L (midQ E M Q)) (h2:b=false→awp P E y fr L (midQ E M Q)) (hM:∀ fr L,M fr L→awp P E r fr L Q):BrC P E b x y fr L (thenC P E (.cut r) Q):=by
 have hq:∀ e fr L,midQ E M Q e fr L→thenC P E (.cut r) Q e fr L:=by
  intro e fr L h
  cases e with
  |normal=>obtain ⟨fr',L',a1,a3⟩:=h;exact ⟨fr',L',a1,hM fr' L' a3⟩
  |_=>exact h
 exact ⟨fun e=>awp_mono x fr L _ _ hq (h1 e),fun e=>awp_mono y fr L _ _ hq (h2 e)⟩
theorem drg0 {ops:List IOper} (h:awpOps P E [] ops fr L K):DrgC P E ops fr L K:=⟨_,h⟩
theorem drg1 {ops:List IOper} {x1:PV} (h:awpOps P E [x1] ops fr L K):DrgC P E ops fr L K:=⟨_,h⟩
theorem drg3 {ops:List IOper} {x1 x2 x3:PV} (h:awpOps P E [x1,x2,x3] ops fr L K):DrgC P E ops fr L K:=⟨_,h⟩
theorem drg4 {ops:List IOper} {x1 x2 x3 x4:PV} (h:awpOps P E [x1,x2,x3,x4] ops fr L K):DrgC P E ops fr L K:=⟨_,h⟩
def isOp:IOp→Bool
 |.call ..|.pcall ..|.dcall ..|.callv ..|.pcv ..|.fz ..|.hole ..|.isn ..|.re|.nxt ..|.fcl ..=>false
 |_=>true
def OpsK (P:Program) (E:Envt) (X:List PV) (q:Option (Prop×List AV×Objs)) (is:List IOper) (K:List AV→Objs→Prop):Prop:=
 match q with
 |some (c,fr',L')=>c∧awpOps P E X is fr' L' K
 |none=>False
def GdK (P:Program) (E:Envt) (X:List PV) (pl:Bool) (g:Option Bool) (q:Option (Prop×AV)) (d:Option Nat) (is:List IOper) (fr:List AV) (L:Objs) (K:List AV→Objs→Prop):Prop:=
 match g with
 |some c0=>match q with
  |some (c,r)=>(c0=true→c)∧awpOps P E X is (Zg fr d (.g c0 r)) L K
  |none=>pl=true∧c0=false∧awpOps P E X is (Zg fr d (.g c0 .any)) L K
 |none=>False
theorem OpsK_some {c:Prop} {fr':List AV} {L':Objs} {is:List IOper}:OpsK P E X (some (c,fr',L')) is K=(c∧awpOps P E X is fr' L' K):=rfl
theorem GdK_none {c0:Bool} {d:Option Nat} {is:List IOper}:GdK P E X true (some c0) none d is fr L K=(c0=false∧awpOps P E X is (Zg fr d (.g c0 .any)) L K):=by simp [GdK]
theorem GdK_some {pl c0:Bool} {c:Prop} {r:AV} {d:Option Nat} {is:List IOper}:GdK P E X pl (some c0) (some (c,r)) d is fr L K=((c0=true→c)∧awpOps P E X is (Zg fr d (.g c0 r)) L K):=rfl
theorem ops_nil:awpOps P E X [] fr L K=K fr L:=rfl
theorem ops_op {d:Option Nat} {op:IOp} {is:List IOper} (h:isOp op=true):awpOps P E X (⟨d,op,none⟩ :: is) fr L K=OpsK P E X (Ze d fr L op) is K:=by
 cases op<;>first|rfl|(simp [isOp] at h)
theorem ops_gd {d:Option Nat} {op:IOp} {is:List IOper} {s:Nat} {want:Bool} (h:isOp op=true):awpOps P E X (⟨d,op,some (s,want)⟩ :: is) fr L K=GdK P E X (plainOp op) (Zh fr s want) (Zf fr L op) d is fr L K:=by
 cases op<;>first|rfl|(simp [isOp] at h)
def StepK (P:Program) (E:Envt) (X:List PV) (q:Option (Prop×AV)) (d:Option Nat) (is:List IOper) (fr:List AV) (L:Objs) (K:List AV→Objs→Prop):Prop:=
 match q with
 |some (c,r)=>c∧awpOps P E X is (Zg fr d r) L K
 |none=>False
theorem StepK_some {c:Prop} {r:AV} {d:Option Nat} {is:List IOper}:StepK P E X (some (c,r)) d is fr L K=(c∧awpOps P E X is (Zg fr d r) L K):=rfl
theorem StepK_eq {op:IOp} {d:Option Nat} {is:List IOper} (h:Ze d fr L op=(Zf fr L op).map (fun q=>(q.1,Zg fr d q.2,L))):OpsK P E X (Ze d fr L op) is K=StepK P E X (Zf fr L op) d is fr L K:=by
 rw [h]
 cases Zf fr L op<;>rfl
theorem o_mov {d:Option Nat} {is:List IOper} {_x}:awpOps P E X (⟨d,.mov _x,none⟩ :: is) fr L K=StepK P E X (Zf fr L (.mov _x)) d is fr L K:=by rw [ops_op rfl];exact StepK_eq rfl
theorem g_mov {d:Option Nat} {is:List IOper} {s:Nat} {want:Bool} {_x}:awpOps P E X (⟨d,.mov _x,some (s,want)⟩ :: is) fr L K=GdK P E X true (Zh fr s want) (Zf fr L (.mov _x)) d is fr L K:=ops_gd rfl
theorem o_pick {d:Option Nat} {is:List IOper} {_c} {_a} {_b}:awpOps P E X (⟨d,.pick _c _a _b,none⟩ :: is) fr L K=StepK P E X (Zf fr L (.pick _c _a _b)) d is fr L K:=by rw [ops_op rfl];exact StepK_eq rfl
theorem g_pick {d:Option Nat} {is:List IOper} {s:Nat} {want:Bool} {_c} {_a} {_b}:awpOps P E X (⟨d,.pick _c _a _b,some (s,want)⟩ :: is) fr L K=GdK P E X true (Zh fr s want) (Zf fr L (.pick _c _a _b)) d is fr L K:=ops_gd rfl
theorem o_bin {d:Option Nat} {is:List IOper} {_b} {_x} {_y}:awpOps P E X (⟨d,.bin _b _x _y,none⟩ :: is) fr L K=StepK P E X (Zf fr L (.bin _b _x _y)) d is fr L K:=by rw [ops_op rfl];exact StepK_eq rfl
theorem g_bin {d:Option Nat} {is:List IOper} {s:Nat} {want:Bool} {_b} {_x} {_y}:awpOps P E X (⟨d,.bin _b _x _y,some (s,want)⟩ :: is) fr L K=GdK P E X true (Zh fr s want) (Zf fr L (.bin _b _x _y)) d is fr L K:=ops_gd rfl
theorem o_bnb {d:Option Nat} {is:List IOper} {_b} {_x} {_y}:awpOps P E X (⟨d,.bnb _b _x _y,none⟩ :: is) fr L K=StepK P E X (Zf fr L (.bnb _b _x _y)) d is fr L K:=by rw [ops_op rfl];exact StepK_eq rfl
theorem g_bnb {d:Option Nat} {is:List IOper} {s:Nat} {want:Bool} {_b} {_x} {_y}:awpOps P E X (⟨d,.bnb _b _x _y,some (s,want)⟩ :: is) fr L K=GdK P E X true (Zh fr s want) (Zf fr L (.bnb _b _x _y)) d is fr L K:=ops_gd rfl
theorem o_eqa {d:Option Nat} {is:List IOper} {_n} {_k} {_x} {_y}:awpOps P E X (⟨d,.eqa _n _k _x _y,none⟩ :: is) fr L K=StepK P E X (Zf fr L (.eqa _n _k _x _y)) d is fr L K:=by rw [ops_op rfl];exact StepK_eq rfl
theorem g_eqa {d:Option Nat} {is:List IOper} {s:Nat} {want:Bool} {_n} {_k} {_x} {_y}:awpOps P E X (⟨d,.eqa _n _k _x _y,some (s,want)⟩ :: is) fr L K=GdK P E X true (Zh fr s want) (Zf fr L (.eqa _n _k _x _y)) d is fr L K:=ops_gd rfl
theorem o_not {d:Option Nat} {is:List IOper} {_x}:awpOps P E X (⟨d,.not _x,none⟩ :: is) fr L K=StepK P E X (Zf fr L (.not _x)) d is fr L K:=by rw [ops_op rfl];exact StepK_eq rfl
theorem g_not {d:Option Nat} {is:List IOper} {s:Nat} {want:Bool} {_x}:awpOps P E X (⟨d,.not _x,some (s,want)⟩ :: is) fr L K=GdK P E X true (Zh fr s want) (Zf fr L (.not _x)) d is fr L K:=ops_gd rfl
theorem o_neg {d:Option Nat} {is:List IOper} {_x}:awpOps P E X (⟨d,.neg _x,none⟩ :: is) fr L K=StepK P E X (Zf fr L (.neg _x)) d is fr L K:=by rw [ops_op rfl];exact StepK_eq rfl
theorem g_neg {d:Option Nat} {is:List IOper} {s:Nat} {want:Bool} {_x}:awpOps P E X (⟨d,.neg _x,some (s,want)⟩ :: is) fr L K=GdK P E X true (Zh fr s want) (Zf fr L (.neg _x)) d is fr L K:=ops_gd rfl
theorem o_len {d:Option Nat} {is:List IOper} {_x}:awpOps P E X (⟨d,.len _x,none⟩ :: is) fr L K=StepK P E X (Zf fr L (.len _x)) d is fr L K:=by rw [ops_op rfl];exact StepK_eq rfl
theorem g_len {d:Option Nat} {is:List IOper} {s:Nat} {want:Bool} {_x}:awpOps P E X (⟨d,.len _x,some (s,want)⟩ :: is) fr L K=GdK P E X true (Zh fr s want) (Zf fr L (.len _x)) d is fr L K:=ops_gd rfl
theorem o_sln {d:Option Nat} {is:List IOper} {_x}:awpOps P E X (⟨d,.sln _x,none⟩ :: is) fr L K=StepK P E X (Zf fr L (.sln _x)) d is fr L K:=by rw [ops_op rfl];exact StepK_eq rfl
theorem g_sln {d:Option Nat} {is:List IOper} {s:Nat} {want:Bool} {_x}:awpOps P E X (⟨d,.sln _x,some (s,want)⟩ :: is) fr L K=GdK P E X true (Zh fr s want) (Zf fr L (.sln _x)) d is fr L K:=ops_gd rfl
theorem o_mx {d:Option Nat} {is:List IOper} {_x} {_y}:awpOps P E X (⟨d,.mx _x _y,none⟩ :: is) fr L K=StepK P E X (Zf fr L (.mx _x _y)) d is fr L K:=by rw [ops_op rfl];exact StepK_eq rfl
theorem g_mx {d:Option Nat} {is:List IOper} {s:Nat} {want:Bool} {_x} {_y}:awpOps P E X (⟨d,.mx _x _y,some (s,want)⟩ :: is) fr L K=GdK P E X true (Zh fr s want) (Zf fr L (.mx _x _y)) d is fr L K:=ops_gd rfl
theorem o_mn {d:Option Nat} {is:List IOper} {_x} {_y}:awpOps P E X (⟨d,.mn _x _y,none⟩ :: is) fr L K=StepK P E X (Zf fr L (.mn _x _y)) d is fr L K:=by rw [ops_op rfl];exact StepK_eq rfl
theorem g_mn {d:Option Nat} {is:List IOper} {s:Nat} {want:Bool} {_x} {_y}:awpOps P E X (⟨d,.mn _x _y,some (s,want)⟩ :: is) fr L K=GdK P E X true (Zh fr s want) (Zf fr L (.mn _x _y)) d is fr L K:=ops_gd rfl
theorem o_idx {d:Option Nat} {is:List IOper} {_x} {_y}:awpOps P E X (⟨d,.idx _x _y,none⟩ :: is) fr L K=StepK P E X (Zf fr L (.idx _x _y)) d is fr L K:=by rw [ops_op rfl];exact StepK_eq rfl
theorem g_idx {d:Option Nat} {is:List IOper} {s:Nat} {want:Bool} {_x} {_y}:awpOps P E X (⟨d,.idx _x _y,some (s,want)⟩ :: is) fr L K=GdK P E X true (Zh fr s want) (Zf fr L (.idx _x _y)) d is fr L K:=ops_gd rfl
theorem o_ssl {d:Option Nat} {is:List IOper} {_x} {_l} {_h}:awpOps P E X (⟨d,.ssl _x _l _h,none⟩ :: is) fr L K=StepK P E X (Zf fr L (.ssl _x _l _h)) d is fr L K:=by rw [ops_op rfl];exact StepK_eq rfl
theorem g_ssl {d:Option Nat} {is:List IOper} {s:Nat} {want:Bool} {_x} {_l} {_h}:awpOps P E X (⟨d,.ssl _x _l _h,some (s,want)⟩ :: is) fr L K=GdK P E X true (Zh fr s want) (Zf fr L (.ssl _x _l _h)) d is fr L K:=ops_gd rfl
theorem o_vsl {d:Option Nat} {is:List IOper} {_z} {_x} {_l} {_h}:awpOps P E X (⟨d,.vsl _z _x _l _h,none⟩ :: is) fr L K=StepK P E X (Zf fr L (.vsl _z _x _l _h)) d is fr L K:=by rw [ops_op rfl];exact StepK_eq rfl
theorem g_vsl {d:Option Nat} {is:List IOper} {s:Nat} {want:Bool} {_z} {_x} {_l} {_h}:awpOps P E X (⟨d,.vsl _z _x _l _h,some (s,want)⟩ :: is) fr L K=GdK P E X true (Zh fr s want) (Zf fr L (.vsl _z _x _l _h)) d is fr L K:=ops_gd rfl
theorem o_ixa {d:Option Nat} {is:List IOper} {_z} {_x} {_y}:awpOps P E X (⟨d,.ixa _z _x _y,none⟩ :: is) fr L K=StepK P E X (Zf fr L (.ixa _z _x _y)) d is fr L K:=by rw [ops_op rfl];exact StepK_eq rfl
theorem g_ixa {d:Option Nat} {is:List IOper} {s:Nat} {want:Bool} {_z} {_x} {_y}:awpOps P E X (⟨d,.ixa _z _x _y,some (s,want)⟩ :: is) fr L K=GdK P E X true (Zh fr s want) (Zf fr L (.ixa _z _x _y)) d is fr L K:=ops_gd rfl
theorem o_fla {d:Option Nat} {is:List IOper} {_o} {_x}:awpOps P E X (⟨d,.fla _o _x,none⟩ :: is) fr L K=StepK P E X (Zf fr L (.fla _o _x)) d is fr L K:=by rw [ops_op rfl];exact StepK_eq rfl
theorem g_fla {d:Option Nat} {is:List IOper} {s:Nat} {want:Bool} {_o} {_x}:awpOps P E X (⟨d,.fla _o _x,some (s,want)⟩ :: is) fr L K=GdK P E X true (Zh fr s want) (Zf fr L (.fla _o _x)) d is fr L K:=ops_gd rfl
theorem o_fld {d:Option Nat} {is:List IOper} {_o} {_s} {_a} {_x}:awpOps P E X (⟨d,.fld _o _s _a _x,none⟩ :: is) fr L K=StepK P E X (Zf fr L (.fld _o _s _a _x)) d is fr L K:=by rw [ops_op rfl];exact StepK_eq rfl
theorem g_fld {d:Option Nat} {is:List IOper} {s:Nat} {want:Bool} {_o} {_s} {_a} {_x}:awpOps P E X (⟨d,.fld _o _s _a _x,some (s,want)⟩ :: is) fr L K=GdK P E X true (Zh fr s want) (Zf fr L (.fld _o _s _a _x)) d is fr L K:=ops_gd rfl
theorem o_ld {d:Option Nat} {is:List IOper} {_s} {_a} {_x}:awpOps P E X (⟨d,.ld _s _a _x,none⟩ :: is) fr L K=StepK P E X (Zf fr L (.ld _s _a _x)) d is fr L K:=by rw [ops_op rfl];exact StepK_eq rfl
theorem g_ld {d:Option Nat} {is:List IOper} {s:Nat} {want:Bool} {_s} {_a} {_x}:awpOps P E X (⟨d,.ld _s _a _x,some (s,want)⟩ :: is) fr L K=GdK P E X true (Zh fr s want) (Zf fr L (.ld _s _a _x)) d is fr L K:=ops_gd rfl
theorem o_ldn {d:Option Nat} {is:List IOper} {_n} {_s} {_a} {_x}:awpOps P E X (⟨d,.ldn _n _s _a _x,none⟩ :: is) fr L K=StepK P E X (Zf fr L (.ldn _n _s _a _x)) d is fr L K:=by rw [ops_op rfl];exact StepK_eq rfl
theorem g_ldn {d:Option Nat} {is:List IOper} {s:Nat} {want:Bool} {_n} {_s} {_a} {_x}:awpOps P E X (⟨d,.ldn _n _s _a _x,some (s,want)⟩ :: is) fr L K=GdK P E X false (Zh fr s want) (Zf fr L (.ldn _n _s _a _x)) d is fr L K:=ops_gd rfl
theorem o_ldl {d:Option Nat} {is:List IOper} {_s} {_a} {_x}:awpOps P E X (⟨d,.ldl _s _a _x,none⟩ :: is) fr L K=StepK P E X (Zf fr L (.ldl _s _a _x)) d is fr L K:=by rw [ops_op rfl];exact StepK_eq rfl
theorem g_ldl {d:Option Nat} {is:List IOper} {s:Nat} {want:Bool} {_s} {_a} {_x}:awpOps P E X (⟨d,.ldl _s _a _x,some (s,want)⟩ :: is) fr L K=GdK P E X false (Zh fr s want) (Zf fr L (.ldl _s _a _x)) d is fr L K:=ops_gd rfl
theorem o_ext {d:Option Nat} {is:List IOper} {_i} {_x}:awpOps P E X (⟨d,.ext _i _x,none⟩ :: is) fr L K=StepK P E X (Zf fr L (.ext _i _x)) d is fr L K:=by rw [ops_op rfl];exact StepK_eq rfl
theorem g_ext {d:Option Nat} {is:List IOper} {s:Nat} {want:Bool} {_i} {_x}:awpOps P E X (⟨d,.ext _i _x,some (s,want)⟩ :: is) fr L K=GdK P E X true (Zh fr s want) (Zf fr L (.ext _i _x)) d is fr L K:=ops_gd rfl
theorem o_bld {d:Option Nat} {is:List IOper} {_z} {_p}:awpOps P E X (⟨d,.bld _z _p,none⟩ :: is) fr L K=StepK P E X (Zf fr L (.bld _z _p)) d is fr L K:=by rw [ops_op rfl];exact StepK_eq rfl
theorem g_bld {d:Option Nat} {is:List IOper} {s:Nat} {want:Bool} {_z} {_p}:awpOps P E X (⟨d,.bld _z _p,some (s,want)⟩ :: is) fr L K=GdK P E X true (Zh fr s want) (Zf fr L (.bld _z _p)) d is fr L K:=ops_gd rfl
theorem o_cvi {d:Option Nat} {is:List IOper} {_k} {_x}:awpOps P E X (⟨d,.cvi _k _x,none⟩ :: is) fr L K=StepK P E X (Zf fr L (.cvi _k _x)) d is fr L K:=by rw [ops_op rfl];exact StepK_eq rfl
theorem g_cvi {d:Option Nat} {is:List IOper} {s:Nat} {want:Bool} {_k} {_x}:awpOps P E X (⟨d,.cvi _k _x,some (s,want)⟩ :: is) fr L K=GdK P E X true (Zh fr s want) (Zf fr L (.cvi _k _x)) d is fr L K:=ops_gd rfl
theorem o_cvs {d:Option Nat} {is:List IOper} {_x}:awpOps P E X (⟨d,.cvs _x,none⟩ :: is) fr L K=StepK P E X (Zf fr L (.cvs _x)) d is fr L K:=by rw [ops_op rfl];exact StepK_eq rfl
theorem g_cvs {d:Option Nat} {is:List IOper} {s:Nat} {want:Bool} {_x}:awpOps P E X (⟨d,.cvs _x,some (s,want)⟩ :: is) fr L K=GdK P E X true (Zh fr s want) (Zf fr L (.cvs _x)) d is fr L K:=ops_gd rfl
theorem o_b2s {d:Option Nat} {is:List IOper} {_x}:awpOps P E X (⟨d,.b2s _x,none⟩ :: is) fr L K=StepK P E X (Zf fr L (.b2s _x)) d is fr L K:=by rw [ops_op rfl];exact StepK_eq rfl
theorem g_b2s {d:Option Nat} {is:List IOper} {s:Nat} {want:Bool} {_x}:awpOps P E X (⟨d,.b2s _x,some (s,want)⟩ :: is) fr L K=GdK P E X true (Zh fr s want) (Zf fr L (.b2s _x)) d is fr L K:=ops_gd rfl
theorem o_bsl {d:Option Nat} {is:List IOper} {_z} {_p}:awpOps P E X (⟨d,.bsl _z _p,none⟩ :: is) fr L K=StepK P E X (Zf fr L (.bsl _z _p)) d is fr L K:=by rw [ops_op rfl];exact StepK_eq rfl
theorem g_bsl {d:Option Nat} {is:List IOper} {s:Nat} {want:Bool} {_z} {_p}:awpOps P E X (⟨d,.bsl _z _p,some (s,want)⟩ :: is) fr L K=GdK P E X true (Zh fr s want) (Zf fr L (.bsl _z _p)) d is fr L K:=ops_gd rfl
theorem o_nck {d:Option Nat} {is:List IOper} {_x}:awpOps P E X (⟨d,.nck _x,none⟩ :: is) fr L K=StepK P E X (Zf fr L (.nck _x)) d is fr L K:=by rw [ops_op rfl];exact StepK_eq rfl
theorem g_nck {d:Option Nat} {is:List IOper} {s:Nat} {want:Bool} {_x}:awpOps P E X (⟨d,.nck _x,some (s,want)⟩ :: is) fr L K=GdK P E X true (Zh fr s want) (Zf fr L (.nck _x)) d is fr L K:=ops_gd rfl
theorem o_nli {d:Option Nat} {is:List IOper} {_n} {_x}:awpOps P E X (⟨d,.nli _n _x,none⟩ :: is) fr L K=StepK P E X (Zf fr L (.nli _n _x)) d is fr L K:=by rw [ops_op rfl];exact StepK_eq rfl
theorem g_nli {d:Option Nat} {is:List IOper} {s:Nat} {want:Bool} {_n} {_x}:awpOps P E X (⟨d,.nli _n _x,some (s,want)⟩ :: is) fr L K=GdK P E X true (Zh fr s want) (Zf fr L (.nli _n _x)) d is fr L K:=ops_gd rfl
theorem o_mkf {d:Option Nat} {is:List IOper} {_f} {_c}:awpOps P E X (⟨d,.mkf _f _c,none⟩ :: is) fr L K=StepK P E X (Zf fr L (.mkf _f _c)) d is fr L K:=by rw [ops_op rfl];exact StepK_eq rfl
theorem g_mkf {d:Option Nat} {is:List IOper} {s:Nat} {want:Bool} {_f} {_c}:awpOps P E X (⟨d,.mkf _f _c,some (s,want)⟩ :: is) fr L K=GdK P E X true (Zh fr s want) (Zf fr L (.mkf _f _c)) d is fr L K:=ops_gd rfl
theorem o_cap0 {d:Option Nat} {is:List IOper} {_x}:awpOps P E X (⟨d,.cap0 _x,none⟩ :: is) fr L K=StepK P E X (Zf fr L (.cap0 _x)) d is fr L K:=by rw [ops_op rfl];exact StepK_eq rfl
theorem g_cap0 {d:Option Nat} {is:List IOper} {s:Nat} {want:Bool} {_x}:awpOps P E X (⟨d,.cap0 _x,some (s,want)⟩ :: is) fr L K=GdK P E X true (Zh fr s want) (Zf fr L (.cap0 _x)) d is fr L K:=ops_gd rfl
theorem o_vsn {d:Option Nat} {is:List IOper} {_x} {_h}:awpOps P E X (⟨d,.vsn _x _h,none⟩ :: is) fr L K=StepK P E X (Zf fr L (.vsn _x _h)) d is fr L K:=by rw [ops_op rfl];exact StepK_eq rfl
theorem g_vsn {d:Option Nat} {is:List IOper} {s:Nat} {want:Bool} {_x} {_h}:awpOps P E X (⟨d,.vsn _x _h,some (s,want)⟩ :: is) fr L K=GdK P E X true (Zh fr s want) (Zf fr L (.vsn _x _h)) d is fr L K:=ops_gd rfl
theorem o_mpl {d:Option Nat} {is:List IOper} {_o} {_z} {_x} {_h}:awpOps P E X (⟨d,.mpl _o _z _x _h,none⟩ :: is) fr L K=StepK P E X (Zf fr L (.mpl _o _z _x _h)) d is fr L K:=by rw [ops_op rfl];exact StepK_eq rfl
theorem g_mpl {d:Option Nat} {is:List IOper} {s:Nat} {want:Bool} {_o} {_z} {_x} {_h}:awpOps P E X (⟨d,.mpl _o _z _x _h,some (s,want)⟩ :: is) fr L K=GdK P E X true (Zh fr s want) (Zf fr L (.mpl _o _z _x _h)) d is fr L K:=ops_gd rfl
theorem o_ixv {d:Option Nat} {is:List IOper} {_z} {_m} {_x} {_h}:awpOps P E X (⟨d,.ixv _z _m _x _h,none⟩ :: is) fr L K=StepK P E X (Zf fr L (.ixv _z _m _x _h)) d is fr L K:=by rw [ops_op rfl];exact StepK_eq rfl
theorem g_ixv {d:Option Nat} {is:List IOper} {s:Nat} {want:Bool} {_z} {_m} {_x} {_h}:awpOps P E X (⟨d,.ixv _z _m _x _h,some (s,want)⟩ :: is) fr L K=GdK P E X true (Zh fr s want) (Zf fr L (.ixv _z _m _x _h)) d is fr L K:=ops_gd rfl
theorem o_asl {d:Option Nat} {is:List IOper} {_m} {_x} {_h}:awpOps P E X (⟨d,.asl _m _x _h,none⟩ :: is) fr L K=StepK P E X (Zf fr L (.asl _m _x _h)) d is fr L K:=by rw [ops_op rfl];exact StepK_eq rfl
theorem g_asl {d:Option Nat} {is:List IOper} {s:Nat} {want:Bool} {_m} {_x} {_h}:awpOps P E X (⟨d,.asl _m _x _h,some (s,want)⟩ :: is) fr L K=GdK P E X true (Zh fr s want) (Zf fr L (.asl _m _x _h)) d is fr L K:=ops_gd rfl
theorem o_mplk {d:Option Nat} {is:List IOper} {_o} {_k} {_z} {_x} {_h}:awpOps P E X (⟨d,.mplk _o _k _z _x _h,none⟩ :: is) fr L K=StepK P E X (Zf fr L (.mplk _o _k _z _x _h)) d is fr L K:=by rw [ops_op rfl];exact StepK_eq rfl
theorem g_mplk {d:Option Nat} {is:List IOper} {s:Nat} {want:Bool} {_o} {_k} {_z} {_x} {_h}:awpOps P E X (⟨d,.mplk _o _k _z _x _h,some (s,want)⟩ :: is) fr L K=GdK P E X true (Zh fr s want) (Zf fr L (.mplk _o _k _z _x _h)) d is fr L K:=ops_gd rfl
theorem o_mpn {d:Option Nat} {is:List IOper} {_x}:awpOps P E X (⟨d,.mpn _x,none⟩ :: is) fr L K=StepK P E X (Zf fr L (.mpn _x)) d is fr L K:=by rw [ops_op rfl];exact StepK_eq rfl
theorem g_mpn {d:Option Nat} {is:List IOper} {s:Nat} {want:Bool} {_x}:awpOps P E X (⟨d,.mpn _x,some (s,want)⟩ :: is) fr L K=GdK P E X true (Zh fr s want) (Zf fr L (.mpn _x)) d is fr L K:=ops_gd rfl
theorem o_bldg {d:Option Nat} {is:List IOper} {_z} {_p}:awpOps P E X (⟨d,.bldg _z _p,none⟩ :: is) fr L K=StepK P E X (Zf fr L (.bldg _z _p)) d is fr L K:=by rw [ops_op rfl];exact StepK_eq rfl
theorem g_bldg {d:Option Nat} {is:List IOper} {s:Nat} {want:Bool} {_z} {_p}:awpOps P E X (⟨d,.bldg _z _p,some (s,want)⟩ :: is) fr L K=GdK P E X true (Zh fr s want) (Zf fr L (.bldg _z _p)) d is fr L K:=ops_gd rfl
theorem o_ldg {d:Option Nat} {is:List IOper} {_s} {_x}:awpOps P E X (⟨d,.ldg _s _x,none⟩ :: is) fr L K=StepK P E X (Zf fr L (.ldg _s _x)) d is fr L K:=by rw [ops_op rfl];exact StepK_eq rfl
theorem g_ldg {d:Option Nat} {is:List IOper} {s:Nat} {want:Bool} {_s} {_x}:awpOps P E X (⟨d,.ldg _s _x,some (s,want)⟩ :: is) fr L K=GdK P E X true (Zh fr s want) (Zf fr L (.ldg _s _x)) d is fr L K:=ops_gd rfl
theorem o_stg {d:Option Nat} {is:List IOper} {_s} {_p} {_x}:awpOps P E X (⟨d,.stg _s _p _x,none⟩ :: is) fr L K=OpsK P E X (Ze d fr L (.stg _s _p _x)) is K:=ops_op rfl
theorem o_alcd {d:Option Nat} {is:List IOper} {_t} {_z}:awpOps P E X (⟨d,.alcd _t _z,none⟩ :: is) fr L K=OpsK P E X (Ze d fr L (.alcd _t _z)) is K:=ops_op rfl
theorem o_bsrd {d:Option Nat} {is:List IOper} {_e} {_z} {_p}:awpOps P E X (⟨d,.bsrd _e _z _p,none⟩ :: is) fr L K=OpsK P E X (Ze d fr L (.bsrd _e _z _p)) is K:=ops_op rfl
def IsnK (P:Program) (E:Envt) (X:List PV) (c:Prop) (q:Option (Nat×List (List PV))) (d:Option Nat) (is:List IOper) (fr:List AV) (L:Objs) (K:List AV→Objs→Prop):Prop:=
 match q with
 |some (_,es)=>c∧∀ b:Bool,(b=true→es=[])→awpOps P E X is (Zg fr d (.p (.bool b))) L K
 |none=>False
theorem IsnK_some {c:Prop} {z:Nat} {es:List (List PV)} {d:Option Nat} {is:List IOper}:IsnK P E X c (some (z,es)) d is fr L K=(c∧∀ b:Bool,(b=true→es=[])→awpOps P E X is (Zg fr d (.p (.bool b))) L K):=rfl
theorem ops_isn {x:Opd} {d:Option Nat} {is:List IOper}:awpOps P E X (⟨d,.isn x,none⟩ :: is) fr L K=IsnK P E X (rd fr x).un.1 (Zw L (rd fr x).un.2) d is fr L K:=rfl
def NxtK (P:Program) (E:Envt) (X:List PV) (c:Prop) (q:Option (Key×List (List UInt8×PV))) (d:Option Nat) (is:List IOper) (fr:List AV) (L:Objs) (K:List AV→Objs→Prop):Prop:=
 match q with
 |some (k,kv)=>c∧(kv=[]→awpOps P E X is (Zg fr d (.p (.tup [.bool false]))) L K)∧∀ (i:Nat) (p:List UInt8×PV),kv[i]?=some p→awpOps P E X is (Zg fr d (.p (.tup [.bool true,.str p.1,p.2]))) (Zat L k (.mit (some p) (kv.eraseIdx i))) K
 |none=>False
theorem ops_nxt {x:Opd} {d:Option Nat} {is:List IOper}:awpOps P E X (⟨d,.nxt x,none⟩ :: is) fr L K=NxtK P E X (rd fr x).un.1 (Za fr L x) d is fr L K:=rfl
def ReC (P:Program) (E:Envt) (X:List PV) (is:List IOper) (fr:List AV) (L:Objs) (K:List AV→Objs→Prop):Prop:=∃ fr' L',ReOk E fr L fr' L'∧awpOps P E X is fr' L' K
theorem ops_re {is:List IOper}:awpOps P E X (⟨none,.re,none⟩ :: is) fr L K=ReC P E X is fr L K:=rfl
theorem ops_hole {x:Nat} {is:List IOper}:awpOps P E X (⟨none,.hole x,none⟩ :: is) fr L K=awpOps P E X is ((fr.map (·.kill (.l x))).set x .any) (Zav L (.l x) Zan) K:=rfl
theorem o_mkm {d:Option Nat} {is:List IOper} {_t} {_z}:awpOps P E X (⟨d,.mkm _t _z,none⟩ :: is) fr L K=OpsK P E X (Ze d fr L (.mkm _t _z)) is K:=ops_op rfl
theorem o_rng {d:Option Nat} {is:List IOper} {_x}:awpOps P E X (⟨d,.rng _x,none⟩ :: is) fr L K=OpsK P E X (Ze d fr L (.rng _x)) is K:=ops_op rfl
theorem o_ent {d:Option Nat} {is:List IOper} {_x}:awpOps P E X (⟨d,.ent _x,none⟩ :: is) fr L K=OpsK P E X (Ze d fr L (.ent _x)) is K:=ops_op rfl
theorem o_mpd {d:Option Nat} {is:List IOper} {_m} {_k}:awpOps P E X (⟨d,.mpd _m _k,none⟩ :: is) fr L K=OpsK P E X (Ze d fr L (.mpd _m _k)) is K:=ops_op rfl
theorem o_cpy {d:Option Nat} {is:List IOper} {_z} {_x} {_y}:awpOps P E X (⟨d,.cpy _z _x _y,none⟩ :: is) fr L K=OpsK P E X (Ze d fr L (.cpy _z _x _y)) is K:=ops_op rfl
theorem o_mpu {d:Option Nat} {is:List IOper} {_m} {_k} {_v}:awpOps P E X (⟨d,.mpu _m _k _v,none⟩ :: is) fr L K=OpsK P E X (Ze d fr L (.mpu _m _k _v)) is K:=ops_op rfl
theorem o_mkk {d:Option Nat} {is:List IOper} {_k} {_t} {_z}:awpOps P E X (⟨d,.mkk _k _t _z,none⟩ :: is) fr L K=OpsK P E X (Ze d fr L (.mkk _k _t _z)) is K:=ops_op rfl
theorem o_mpuk {d:Option Nat} {is:List IOper} {_q} {_m} {_k} {_v}:awpOps P E X (⟨d,.mpuk _q _m _k _v,none⟩ :: is) fr L K=OpsK P E X (Ze d fr L (.mpuk _q _m _k _v)) is K:=ops_op rfl
theorem o_aps {d:Option Nat} {is:List IOper} {_e} {_x} {_y}:awpOps P E X (⟨d,.aps _e _x _y,none⟩ :: is) fr L K=OpsK P E X (Ze d fr L (.aps _e _x _y)) is K:=ops_op rfl
theorem o_apz {d:Option Nat} {is:List IOper} {_e} {_z} {_b} {_o} {_x} {_y}:awpOps P E X (⟨d,.apz _e _z _b _o _x _y,none⟩ :: is) fr L K=OpsK P E X (Ze d fr L (.apz _e _z _b _o _x _y)) is K:=ops_op rfl
theorem o_trn {d:Option Nat} {is:List IOper} {_z} {_x} {_y}:awpOps P E X (⟨d,.trn _z _x _y,none⟩ :: is) fr L K=OpsK P E X (Ze d fr L (.trn _z _x _y)) is K:=ops_op rfl
theorem o_mks {d:Option Nat} {is:List IOper} {_e} {_z} {_b} {_o} {_x} {_y}:awpOps P E X (⟨d,.mks _e _z _b _o _x _y,none⟩ :: is) fr L K=OpsK P E X (Ze d fr L (.mks _e _z _b _o _x _y)) is K:=ops_op rfl
theorem o_nilr {d:Option Nat} {is:List IOper} {_e} {_z}:awpOps P E X (⟨d,.nilr _e _z,none⟩ :: is) fr L K=OpsK P E X (Ze d fr L (.nilr _e _z)) is K:=ops_op rfl
theorem o_alc {d:Option Nat} {is:List IOper} {_t} {_z}:awpOps P E X (⟨d,.alc _t _z,none⟩ :: is) fr L K=OpsK P E X (Ze d fr L (.alc _t _z)) is K:=ops_op rfl
theorem o_box {d:Option Nat} {is:List IOper} {_t} {_x}:awpOps P E X (⟨d,.box _t _x,none⟩ :: is) fr L K=OpsK P E X (Ze d fr L (.box _t _x)) is K:=ops_op rfl
theorem o_stk {d:Option Nat} {is:List IOper} {_n} {_s} {_p} {_x}:awpOps P E X (⟨d,.stk _n _s _p _x,none⟩ :: is) fr L K=OpsK P E X (Ze d fr L (.stk _n _s _p _x)) is K:=ops_op rfl
theorem o_mpk {d:Option Nat} {is:List IOper} {_n} {_m} {_k} {_v}:awpOps P E X (⟨d,.mpk _n _m _k _v,none⟩ :: is) fr L K=OpsK P E X (Ze d fr L (.mpk _n _m _k _v)) is K:=ops_op rfl
theorem o_st {d:Option Nat} {is:List IOper} {_s} {_p} {_x}:awpOps P E X (⟨d,.st _s _p _x,none⟩ :: is) fr L K=OpsK P E X (Ze d fr L (.st _s _p _x)) is K:=ops_op rfl
theorem o_app {d:Option Nat} {is:List IOper} {_e} {_z} {_b} {_x} {_y}:awpOps P E X (⟨d,.app _e _z _b _x _y,none⟩ :: is) fr L K=OpsK P E X (Ze d fr L (.app _e _z _b _x _y)) is K:=ops_op rfl
theorem o_bsr {d:Option Nat} {is:List IOper} {_e} {_z} {_p}:awpOps P E X (⟨d,.bsr _e _z _p,none⟩ :: is) fr L K=OpsK P E X (Ze d fr L (.bsr _e _z _p)) is K:=ops_op rfl
theorem o_s2b {d:Option Nat} {is:List IOper} {_e} {_x}:awpOps P E X (⟨d,.s2b _e _x,none⟩ :: is) fr L K=OpsK P E X (Ze d fr L (.s2b _e _x)) is K:=ops_op rfl
theorem ops_call {d:Option Nat} {f:FuncId} {args:List Opd} {is:List IOper}:awpOps P E X (⟨d,.call f args,none⟩ :: is) fr L K=(Zm fr args∧CallOp P E f (Zn fr args) L d fr (contO P E X is K)):=rfl
def FnK (P:Program) (E:Envt) (X:List PV) (o:Option (FuncId×List AV)) (c:Prop) (d:Option Nat) (args:List Opd) (is:List IOper) (fr:List AV) (L:Objs) (K:List AV→Objs→Prop):Prop:=
 match o with
 |some (f,ks)=>c∧fnB P f=true∧Zl L ks=true∧Zm fr args∧CallOp P E f (Zn fr args++ks) L d fr (contO P E X is K)
 |none=>False
theorem FnK_some {f:FuncId} {ks:List AV} {c:Prop} {d:Option Nat} {args:List Opd} {is:List IOper}:FnK P E X (some (f,ks)) c d args is fr L K=(c∧fnB P f=true∧Zl L ks=true∧Zm fr args∧CallOp P E f (Zn fr args++ks) L d fr (contO P E X is K)):=rfl
theorem ops_callv {d:Option Nat} {g:Opd} {args:List Opd} {is:List IOper}:awpOps P E X (⟨d,.callv g args,none⟩ :: is) fr L K=FnK P E X (Zar fr g) (rd fr g).un.1 d args is fr L K:=by
 cases h:Zar fr g with
 |none=>simp only [awpOps,FnK,h]
 |some q=>obtain ⟨f,ks⟩:=q;simp only [awpOps,FnK,h];rfl
def FnG (P:Program) (E:Envt) (X:List PV) (o:Option (FuncId×List AV)) (c0:Bool) (c:Prop) (d:Option Nat) (args:List Opd) (is:List IOper) (fr:List AV) (L:Objs) (K:List AV→Objs→Prop):Prop:=
 match o with
 |some (f,ks)=>(fnB P f=true∧Zl L ks=true)∧(c0=true→c∧Zm fr args)∧CallG c0 P E f (Zn fr args++ks) L d fr (contO P E X is K)
 |none=>c0=false∧awpOps P E X is (Zg fr d (.g c0 .any)) L K
theorem FnG_some {f:FuncId} {ks:List AV} {c0:Bool} {c:Prop} {d:Option Nat} {args:List Opd} {is:List IOper}:FnG P E X (some (f,ks)) c0 c d args is fr L K=((fnB P f=true∧Zl L ks=true)∧(c0=true→c∧Zm fr args)∧CallG c0 P E f (Zn fr args++ks) L d fr (contO P E X is K)):=rfl
theorem ops_callvg {d:Option Nat} {g:Opd} {args:List Opd} {is:List IOper} {s:Nat} {want:Bool}:awpOps P E X (⟨d,.callv g args,some (s,want)⟩ :: is) fr L K=(match Zh fr s want with|some c0=>FnG P E X (Zar fr g) c0 (rd fr g).un.1 d args is fr L K|none=>False):=by
 simp only [awpOps]
 cases Zh fr s want with
 |none=>rfl
 |some c0=>cases h:Zar fr g with
  |none=>rfl
  |some q=>obtain ⟨f,ks⟩:=q;rfl
theorem ops_dcall {b:Bool} {d:Option Nat} {f:FuncId} {args:List Opd} {is:List IOper}:awpOps P E X (⟨d,.dcall b f args,none⟩ :: is) fr L K=(Zm fr args∧DCallOp b P E f (Zn fr args) L d fr (contO P E X is K)):=rfl
def PcK (P:Program) (E:Envt) (f:FuncId) (as:List AV) (L:Objs) (x:PV):Prop:=PureC P E f as L (·=x)
def FclK (P:Program) (E:Envt) (X:List PV) (f:FuncId) (e z:Nat) (K:List AV→Objs→Prop) (is:List IOper) (fr:List AV) (L:Objs) (d:Nat) (c:Prop):Option (List PV)→PV→Prop
 |some ps,.sl z' es=>((Zam d fr L∧Zas L (.l d)=some Zan)∧c∧z'=z∧FrC P E f ps e z es)∧awpOps P E X is (fr.set d (.row (.l d))) (Zat L (.l d) (.row es e z true)) K
 |_,_=>False
theorem ops_fcl {d:Nat} {n:Nat} {f:FuncId} {args:List Opd} {e z:Nat} {is:List IOper}:awpOps P E X (⟨some d,.fcl n f args e z,none⟩ :: is) fr L K=FclK P E X f e z K is fr L d (Zm fr args) (argP0 (Zn fr args)) (X.getD n (.bool false)):=by
 simp only [awpOps]
 unfold FclK
 cases argP0 (Zn fr args) with
 |none=>rfl
 |some ps=>cases X.getD n (.bool false)<;>rfl
theorem argP0_nil:argP0 []=some []:=rfl
theorem argP0_p {x:PV} {r:List AV}:argP0 (.p x :: r)=(argP0 r).map (x :: ·):=rfl
theorem FclK_some {f:FuncId} {e z z':Nat} {is:List IOper} {d:Nat} {c:Prop} {ps:List PV} {es:List (List PV)}:FclK P E X f e z K is fr L d c (some ps) (.sl z' es)=(((Zam d fr L∧Zas L (.l d)=some Zan)∧c∧z'=z∧FrC P E f ps e z es)∧awpOps P E X is (fr.set d (.row (.l d))) (Zat L (.l d) (.row es e z true)) K):=rfl
theorem ops_pcall {d:Option Nat} {n:Nat} {f:FuncId} {args:List Opd} {is:List IOper}:awpOps P E X (⟨d,.pcall n f args,none⟩ :: is) fr L K=((Zm fr args∧PcK P E f (Zn fr args) L (X.getD n (.bool false)))∧awpOps P E X is (Zg fr d (.p (X.getD n (.bool false)))) L K):=rfl
theorem ops_pcallg {d:Option Nat} {n:Nat} {f:FuncId} {args:List Opd} {is:List IOper} {s:Nat} {want:Bool}:awpOps P E X (⟨d,.pcall n f args,some (s,want)⟩ :: is) fr L K=(match Zh fr s want with|some c0=>(c0=true→Zm fr args∧PcK P E f (Zn fr args) L (X.getD n (.bool false)))∧awpOps P E X is (Zg fr d (.g c0 (.p (X.getD n (.bool false))))) L K|none=>False):=rfl
def PvK (P:Program) (E:Envt) (X:List PV) (o:Option (FuncId×List AV)) (c:Prop) (n:Nat) (d:Option Nat) (args:List Opd) (is:List IOper) (fr:List AV) (L:Objs) (K:List AV→Objs→Prop):Prop:=
 match o with
 |some (f,ks)=>(c∧fnB P f=true∧Zl L ks=true∧Zm fr args∧PcK P E f (Zn fr args++ks) L (X.getD n (.bool false)))∧awpOps P E X is (Zg fr d (.p (X.getD n (.bool false)))) L K
 |none=>False
theorem ops_pvks {f:FuncId} {ks:List AV} {c:Prop} {n:Nat} {d:Option Nat} {args:List Opd} {is:List IOper}:PvK P E X (some (f,ks)) c n d args is fr L K=((c∧fnB P f=true∧Zl L ks=true∧Zm fr args∧PcK P E f (Zn fr args++ks) L (X.getD n (.bool false)))∧awpOps P E X is (Zg fr d (.p (X.getD n (.bool false)))) L K):=rfl
theorem ops_pcv {d:Option Nat} {n:Nat} {g:Opd} {args:List Opd} {is:List IOper}:awpOps P E X (⟨d,.pcv n g args,none⟩ :: is) fr L K=PvK P E X (Zar fr g) (rd fr g).un.1 n d args is fr L K:=by
 cases h:Zar fr g with
 |none=>simp only [awpOps,PvK,h]
 |some q=>obtain ⟨f,ks⟩:=q;simp only [awpOps,PvK,h];rfl
theorem ops_callg {d:Option Nat} {f:FuncId} {args:List Opd} {is:List IOper} {s:Nat} {want:Bool}:awpOps P E X (⟨d,.call f args,some (s,want)⟩ :: is) fr L K=(match Zh fr s want with|some c0=>(c0=true→Zm fr args)∧CallG c0 P E f (Zn fr args) L d fr (contO P E X is K)|none=>False):=rfl
def FzK (P:Program) (E:Envt) (X:List PV) (q:Option (Key×PV)) (is:List IOper) (fr:List AV) (L:Objs) (K:List AV→Objs→Prop):Prop:=
 match q with
 |some (k,y)=>awpOps P E X is (fr.map (·.thaw k y)) (Zaw k y L) K
 |none=>awpOps P E X is fr L K
theorem FzK_some {k:Key} {y:PV} {is:List IOper}:FzK P E X (some (k,y)) is fr L K=awpOps P E X is (fr.map (·.thaw k y)) (Zaw k y L) K:=rfl
theorem FzK_none {is:List IOper}:FzK P E X none is fr L K=awpOps P E X is fr L K:=rfl
theorem ops_fz {x:Opd} {is:List IOper}:awpOps P E X (⟨none,.fz x,none⟩ :: is) fr L K=FzK P E X (Zaq fr L x) is fr L K:=rfl
def Zj (L:Objs) (k:Key):Option (List PV):=
 match Zas L k with
 |some (.box cs _)=>Zx cs
 |_=>none
def Zk (L:Objs):List Key→Option (List PV)
 |[]=>some []
 |k :: r=>match Zj L k,Zk L r with
  |some cs,some l=>some (.ptr cs :: l)
  |_,_=>none
def Zbi (L:Objs):AV→Option PV
 |.p x=>some (wk x)
 |.row k=>match Zas L k with
  |some (.row es _ z _)=>some (.sl z es)
  |_=>none
 |.mp k=>match Zas L k with
  |some (.mapg κ kv _ _)=>some (.mpg κ (kv.map (·.1)) (kv.map (·.2)))
  |_=>none
 |.fn f ks=>(Zk L ks).map (.clo f)
 |.adr k o=>if o=0 then (Zj L k).map .ptr else none
 |_=>none
def Zbh (L:Objs):List AV→Option (List PV)
 |[]=>some []
 |x :: r=>match Zbi L x,Zbh L r with
  |some y,some l=>some (y :: l)
  |_,_=>none
def Zbj:List AV→Bool
 |[]=>true
 |.row _ :: _=>false
 |.mp _ :: _=>false
 |.adr _ _ :: _=>false
 |.fn _ ks :: r=>ks.isEmpty && Zbj r
 |_ :: r=>Zbj r
def Zbk:PV→Bool
 |.int ..|.bool ..|.str ..=>true
 |.agg cs=>cs.all fun|.int ..|.bool ..|.str ..=>true|_=>false
 |.tup cs=>cs.all fun|.int ..|.bool ..|.str ..=>true|_=>false
 |_=>false
theorem bool_beq_true (b:Bool):(b == true)=b:=by cases b<;>rfl
theorem bool_beq_false (b:Bool):(b == false)=!b:=by cases b<;>rfl
theorem PRep.flat {w:World} {U U':Nat→Prop} {x:PV} {v:Value} (hf:Zbk x=true) (h:PRep w U x v):PRep w U' x v:=by
 have one:∀ (y:PV) (u:Value),(match y with|.int ..|.bool ..|.str ..=>true|_=>false)=true→PRep w U y u→PRep w U' y u:=by
  intro y u hy hr
  cases y<;>simp_all [PRep]
 have lst:∀ (cs:List PV) (vs:List Value),(cs.all fun|.int ..|.bool ..|.str ..=>true|_=>false)=true→PRepL w U cs vs→PRepL w U' cs vs:=by
  intro cs
  induction cs with
  |nil=>intro vs _ h;exact h
  |cons c cs ih=>
   intro vs hc hr
   simp only [List.all_cons,Bool.and_eq_true] at hc
   simp only [PRepL] at hr ⊢
   obtain ⟨v,r,rfl,h1,h2⟩:=hr
   exact ⟨v,r,rfl,one c v hc.1 h1,ih r hc.2 h2⟩
 cases x with
 |agg cs=>simp only [Zbk] at hf;simp only [PRep] at h ⊢;obtain ⟨vs,e,hl⟩:=h;exact ⟨vs,e,lst cs vs hf hl⟩
 |tup cs=>simp only [Zbk] at hf;simp only [PRep] at h ⊢;obtain ⟨vs,e,hl⟩:=h;exact ⟨vs,e,lst cs vs hf hl⟩
 |int k n=>exact h
 |bool b=>exact h
 |str s=>exact h
 |raw v=>simp [Zbk] at hf
 |nl z=>simp [Zbk] at hf
 |sl z es=>simp [Zbk] at hf
 |ptr cs=>simp [Zbk] at hf
 |clo f ps=>simp [Zbk] at hf
 |mpg κ ks vs=>simp [Zbk] at hf
theorem fn_raw {w:World} {U U':Nat→Prop} {ι:Key→Value} {f:FuncId} {v:Value} (h:ARep w U ι (.fn f []) v):PRep w U' (.clo f []) v:=by
 exact ⟨[],by simpa [ARep] using h,by simp [PRepL]⟩
theorem allP_map {as:List AV} {l:List PV} (h:Zx as=some l):as=l.map .p:=by
 induction as generalizing l with
 |nil=>simp only [Zx,Option.some.injEq] at h;subst h;rfl
 |cons q as ih=>
  cases q with
  |p x=>
   simp only [Zx,Option.map_eq_some_iff] at h
   obtain ⟨m,h1,rfl⟩:=h
   rw [ih h1]
   rfl
  |_=>simp [Zx] at h
theorem boxP_rep {w:World} {B:Nat→Prop} {ι:Key→Value} (hs:Sim w B L ι) (hX:∀ b,B b→¬ Own L ι b) {k:Key} {cs:List PV} (h:Zj L k=some cs):PRep w B (.ptr cs) (ι k):=by
 have hk:=keeps_x w L ι B
 unfold Zj at h
 split at h
 ·rename_i as t hl
  have e:=allP_map h
  subst e
  obtain ⟨b,vs,e1,e2,e3,e4,e5⟩:=hs.obj k _ hl
  have hO:Own L ι b:=⟨k,_,hl,by rw [e1];rfl⟩
  have hr:PRepL w (fun b=>Own L ι b∨B b) cs vs:=PRepL.of_get (by simpa using e3) (fun j x u hx hu=>by
   obtain ⟨u',hu',hr'⟩:=e5 j (.p x) (by rw [List.getElem?_map,hx];rfl)
   rw [hu'] at hu
   cases hu
   exact hr')
  refine ⟨b,e1,sim_own_lt hs hO,fun hb=>hX b hb hO,PRepC.of (PRepL.mono hk _ _ hr) e4 (fun j v hv=>?_)⟩
  rw [Nat.zero_add,cell_of_row w b j _ t (0,0) e2]
  simpa using hv
 ·cases h
theorem capPs_rep {w:World} {B:Nat→Prop} {ι:Key→Value} (hs:Sim w B L ι) (hX:∀ b,B b→¬ Own L ι b):∀ {ks:List Key} {ps:List PV},Zk L ks=some ps→PRepL w B ps (ks.map ι):=by
 intro ks
 induction ks with
 |nil=>intro ps h;simp only [Zk,Option.some.injEq] at h;subst h;simp [PRepL]
 |cons k ks ih=>
  intro ps h
  simp only [Zk] at h
  split at h
  ·rename_i cs l e1 e2
   cases h
   exact ⟨_,_,rfl,boxP_rep hs hX e1,ih e2⟩
  ·cases h
theorem argPs_norow {w:World} {U:Nat→Prop} {ι:Key→Value}:∀ {as:List AV} {ps:List PV} {vs:List Value},Zbj as=true→Zbh L as=some ps→ARepL w U ι as vs→PRepL w U ps vs:=by
 intro as
 induction as with
 |nil=>intro ps vs _ h hr;simp only [Zbh,Option.some.injEq] at h;subst h;exact hr
 |cons a as ih=>
  intro ps vs hn h hr
  simp only [Zbh] at h
  split at h
  ·rename_i y l e1 e2
   cases h
   simp only [ARepL] at hr
   obtain ⟨v,r,rfl,h1,h2⟩:=hr
   simp only [PRepL]
   cases a with
   |p x=>simp only [Zbi,Option.some.injEq] at e1;subst e1;exact ⟨v,r,rfl,PRep.wk h1,ih (by simpa [Zbj] using hn) e2 h2⟩
   |row k=>simp [Zbj] at hn
   |mp k=>simp [Zbj] at hn
   |adr k o=>simp [Zbj] at hn
   |fn f ks=>
    cases ks with
    |nil=>simp only [Zbi,Zk,Option.map_some,Option.some.injEq] at e1;subst e1;exact ⟨v,r,rfl,fn_raw h1,ih (by simpa [Zbj] using hn) e2 h2⟩
    |cons k ks=>simp [Zbj] at hn
   |_=>simp [Zbi] at e1
  ·cases h
theorem argPs_rows {w:World} {B:Nat→Prop} {ι:Key→Value} (hs:Sim w B L ι) (hX:∀ b,B b→¬ Own L ι b):∀ {as:List AV} {ps:List PV} {vs:List Value},Zbh L as=some ps→ARepL w (fun b=>Own L ι b∨B b) ι as vs→PRepL w B ps vs:=by
 have hk:=keeps_x w L ι B
 intro as
 induction as with
 |nil=>intro ps vs h hr;simp only [Zbh,Option.some.injEq] at h;subst h;exact hr
 |cons a as ih=>
  intro ps vs h hr
  simp only [Zbh] at h
  split at h
  ·rename_i y l e1 e2
   cases h
   simp only [ARepL] at hr
   obtain ⟨v,r,rfl,h1,h2⟩:=hr
   simp only [PRepL]
   refine ⟨v,r,rfl,?_,ih e2 h2⟩
   cases a with
   |p x=>simp only [Zbi,Option.some.injEq] at e1;subst e1;exact (PRep.mono hk _ _ h1).wk
   |row k=>
    simp only [Zbi] at e1
    split at e1
    ·rename_i es e' z ap hl
     cases e1
     obtain ⟨vs',hrow,e4,e5,e6⟩:=hs.obj k _ hl
     rcases hrow.2 with ⟨g1,g2⟩|⟨g,cap,cur,fz,g1,_,g3,_⟩
     ·rw [h1.1,g1]
      exact ⟨none,0,by rw [g2],by omega,fun hne=>absurd (List.eq_nil_of_length_eq_zero g2) hne⟩
     ·rw [h1.1,g1]
      have hE:=row_cells hs hl g1
      have hO:Own L ι g:=⟨k,_,hl,by rw [g1];rfl⟩
      refine ⟨_,cap,rfl,g3,fun _=>⟨g,0,rfl,sim_own_lt hs hO,fun hx=>hX g hx hO,?_⟩⟩
      have key:∀ (es':List (List PV)) (off:Nat),PRepE w (fun b=>Own L ι b∨B b) g z off es'→PRepE w B g z off es':=by
       intro es'
       induction es' with
       |nil=>intro off _;simp [PRepE]
       |cons x r ih=>
        intro off hh
        simp only [PRepE] at hh ⊢
        refine ⟨hh.1,?_,ih _ hh.2.2⟩
        obtain ⟨us,a1,a2,a3⟩:=hh.2.1.vals
        exact PRepC.of (PRepL.mono hk _ _ a1) a2 a3
      exact key es 0 hE
    ·cases e1
   |mp k=>
    simp only [Zbi] at e1
    split at e1
    ·rename_i κ kv kt et hl
     cases e1
     obtain ⟨r,ents,cl,q1,q2,q3,q4⟩:=hs.obj k _ hl
     have hO:Own L ι r:=⟨k,_,hl,by rw [q1];rfl⟩
     rw [h1.1,q1]
     exact ⟨r,rfl,sim_own_lt hs hO,fun hx=>hX r hx hO,ents,cl,q2,⟨by rw [q3.1,List.map_map];rfl,q4,fun s hs=>by obtain ⟨p,hp,rfl⟩:=List.mem_map.1 hs;exact q3.2.2 p hp⟩,PRepL.mono hk _ _ q3.2.1⟩
    ·cases e1
   |fn f ks=>
    simp only [Zbi,Option.map_eq_some_iff] at e1
    obtain ⟨ps',h3,rfl⟩:=e1
    exact ⟨ks.map ι,h1,capPs_rep hs hX h3⟩
   |adr k o=>
    simp only [Zbi] at e1
    split at e1
    ·rename_i ho
     subst ho
     simp only [Option.map_eq_some_iff] at e1
     obtain ⟨cs,h3,rfl⟩:=e1
     obtain ⟨b,e4,e5⟩:=h1
     rw [e5,← e4]
     exact boxP_rep hs hX h3
    ·cases e1
   |_=>simp [Zbi] at e1
  ·cases h
theorem pure_of {f:FuncId} {as:List AV} {ps:List PV} {φ:PV→Prop} (h:PCall P E f ps φ) (ha:Zbh L as=some ps) (hn:Zbj as=true∨∀ x,φ x→Zbk x=true):PureC P E f as L φ:=by
 intro w X ι vs hs hX hE hEb hA
 rcases hn with hn|hn
 ·exact h w (fun b=>Own L ι b∨X b) vs (fun b hb=>hb.elim (fun h=>sim_own_lt hs h) (fun h=>(hX b h).1)) hE (fun b hb=>(hEb b hb).1) (argPs_norow hn ha hA)
 ·refine (h w X vs (fun b hb=>(hX b hb).1) hE (fun b hb=>(hEb b hb).1) (argPs_rows hs (fun b hb=>(hX b hb).2) ha hA)).mono ?_
  rintro e w' ⟨v,x,rfl,hx,hr,hG⟩
  exact ⟨v,x,rfl,hx,hr.flat (hn x hx),hG⟩
theorem use {f:FuncId} {as:List AV} {ps:List PV} {φ:PV→Prop} {d:Option Nat} {is:List IOper} (h:PCall P E f ps φ) (ha:Zbh L as=some ps) (hn:Zbj as=true∨∀ x,φ x→Zbk x=true) (hk:∀ x,φ x→awpOps P E X is (Zg fr d (.p x)) L K):CallOp P E f as L d fr (contO P E X is K):=
 .inl ⟨φ,pure_of h ha hn,hk⟩
theorem use1 {f:FuncId} {as:List AV} {ps:List PV} {r:PV} {d:Option Nat} {is:List IOper} (h:PCall P E f ps (·=r)) (ha:Zbh L as=some ps) (hn:Zbj as=true∨Zbk r=true) (hk:awpOps P E X is (Zg fr d (.p r)) L K):CallOp P E f as L d fr (contO P E X is K):=
 .inl ⟨(·=r),pure_of h ha (hn.imp id (fun h x e=>by rw [e];exact h)),fun x e=>by rw [e];exact hk⟩
theorem useG {c0:Bool} {f:FuncId} {as:List AV} {ps:List PV} {r:PV} {d:Option Nat} {is:List IOper} (h:c0=true→PCall P E f ps (·=r)) (ha:Zbh L as=some ps) (hn:Zbj as=true∨Zbk r=true) (hk:awpOps P E X is (Zg fr d (.g c0 (.p r))) L K):CallG c0 P E f as L d fr (contO P E X is K):=
 .inl ⟨r,fun hc=>pure_of (h hc) ha (hn.imp id fun h x e=>by rw [e];exact h),hk⟩
theorem useGC {c0:Bool} {f:FuncId} {as:List AV} {d:Option Nat} {is:List IOper} (h:c0=true→CallOp P E f as L d fr (contO P E X is K)) (hk:c0=false→awpOps P E X is (Zg fr d (.g c0 .any)) L K):CallG c0 P E f as L d fr (contO P E X is K):=.inr ⟨h,hk⟩
theorem usep {f:FuncId} {as:List AV} {ps:List PV} {r:PV} (h:PCall P E f ps (·=r)) (ha:Zbh L as=some ps) (hn:Zbj as=true∨Zbk r=true):PcK P E f as L r:=
 pure_of h ha (hn.imp id (fun h x e=>by rw [e];exact h))
end
def GCall (P:Program) (E:Envt) (f:FuncId) (bx:Option OS) (args:List PV) (post:RV→OS→Prop):Prop:=
 ∀ (w:World) (U:Nat→Prop) (vs:List Value) (v0:Value),(∀ c,U c→c < w.heap.size)→E.ok w→(∀ c,E.bl c→c < w.heap.size∧(bx.isSome=true→blk v0≠some c))→PRepL w U args vs→
  (match bx with|none=>True|some os=>(∀ c,blk v0=some c→U c)∧ObjAt w U v0 os)→
  Calls P f ((match bx with|none=>vs|some _=>v0 :: vs)).toArray w fun e w'=>∃ v r os',e=.returned v∧post r os'∧RVok w' U w.heap.size r v∧
   (match bx with
    |none=>Grow w w' (fun _=>False)
    |some _=>Grow w w' (fun c=>blk v0=some c)∧ObjAt w' (fun c=>U c∨r.own v c) v0 os')
def noOS:OS:=.box 0 []
def finP (bx:Option OS) (post:RV→OS→Prop) (x:PV) (L:Objs):Prop:=
 match bx with
 |none=>post (.p x) noOS
 |some _=>∃ os',Zas L (.b 0)=some os'.ao∧post (.p x) os'
def finF (bx:Option OS) (post:RV→OS→Prop) (i:Nat) (fr:List AV) (L:Objs):Prop:=
 (∃ j es e z,fr.getD i .any=.row (.l j)∧Zas L (.l j)=some (.row es e z true)∧
  match bx with
  |none=>post (.fr es e z) noOS
  |some _=>∃ os',Zas L (.b 0)=some os'.ao∧post (.fr es e z) os')∨
 ∃ e z z0,fr.getD i .any=.p (.nl z0)∧
  match bx with
  |none=>post (.fr [] e z) noOS
  |some _=>∃ os',Zas L (.b 0)=some os'.ao∧post (.fr [] e z) os'
def retF (i:Nat) (bx:Option OS) (post:RV→OS→Prop):AQ
 |.normal,fr,L=>finF bx post i fr L
 |.ret,fr,L=>finF bx post i fr L
 |_,_,_=>False
def all_S (fr:List AV):List Nat→Option (List PV)
 |[]=>some []
 |i :: r=>match fr.getD i .any with
  |.p x=>(all_S fr r).map (x :: ·)
  |_=>none
def finT (bx:Option OS) (post:RV→OS→Prop) (i:Nat) (is:List Nat) (fr:List AV) (L:Objs):Prop:=
 (∃ j es e z ps,fr.getD i .any=.row (.l j)∧Zas L (.l j)=some (.row es e z true)∧all_S fr is=some ps∧
  match bx with
  |none=>post (.ft es e z ps) noOS
  |some _=>∃ os',Zas L (.b 0)=some os'.ao∧post (.ft es e z ps) os')∨
 ∃ e z z0 ps,fr.getD i .any=.p (.nl z0)∧all_S fr is=some ps∧
  match bx with
  |none=>post (.ft [] e z ps) noOS
  |some _=>∃ os',Zas L (.b 0)=some os'.ao∧post (.ft [] e z ps) os'
def retT (i:Nat) (is:List Nat) (bx:Option OS) (post:RV→OS→Prop):AQ
 |.normal,fr,L=>finT bx post i is fr L
 |.ret,fr,L=>finT bx post i is fr L
 |_,_,_=>False
theorem retT_r {i:Nat} {is:List Nat} {bx:Option OS} {post:RV→OS→Prop} {fr:List AV} {L:Objs}:retT i is bx post .ret fr L=finT bx post i is fr L:=rfl
theorem retT_n {i:Nat} {is:List Nat} {bx:Option OS} {post:RV→OS→Prop} {fr:List AV} {L:Objs}:retT i is bx post .normal fr L=finT bx post i is fr L:=rfl
theorem retF_r {i:Nat} {bx:Option OS} {post:RV→OS→Prop} {fr:List AV} {L:Objs}:retF i bx post .ret fr L=finF bx post i fr L:=rfl
theorem retF_n {i:Nat} {bx:Option OS} {post:RV→OS→Prop} {fr:List AV} {L:Objs}:retF i bx post .normal fr L=finF bx post i fr L:=rfl
def l0 (bx:Option OS):Objs:=
 match bx with
 |none=>[]
 |some os=>[(.b 0,os.ao)]
def a0 (bx:Option OS) (args:List PV):List AV:=
 match bx with
 |none=>args.map .p
 |some (.box _ _)=>.adr (.b 0) 0 :: args.map .p
 |some (.row _ _ _)=>.row (.b 0) :: args.map .p
def GCallP (P:Program) (E:Envt) (f:FuncId) (pre:List PV) (bx:Option OS) (args:List PV) (post:RV→OS→Prop):Prop:=
 ∀ (w:World) (U:Nat→Prop) (us vs:List Value) (v0:Value),(∀ c,U c→c < w.heap.size)→E.ok w→(∀ c,E.bl c→c < w.heap.size∧(bx.isSome=true→blk v0≠some c))→PRepL w U pre us→PRepL w U args vs→
  (match bx with|none=>True|some os=>(∀ c,blk v0=some c→U c)∧ObjAt w U v0 os)→
  Calls P f (us++(match bx with|none=>vs|some _=>v0 :: vs)).toArray w fun e w'=>∃ v r os',e=.returned v∧post r os'∧RVok w' U w.heap.size r v∧
   (match bx with
    |none=>Grow w w' (fun _=>False)
    |some _=>Grow w w' (fun c=>blk v0=some c)∧ObjAt w' (fun c=>U c∨r.own v c) v0 os')
def a0P (pre:List PV) (bx:Option OS) (args:List PV):List AV:=pre.map .p++a0 bx args
section
variable {P:Program} {E:Envt}
theorem GCallP.nil {f:FuncId} {bx:Option OS} {args:List PV} {post:RV→OS→Prop} (h:GCallP P E f [] bx args post):GCall P E f bx args post:=fun w U vs v0 hU hE hEb hA hB=>h w U [] vs v0 hU hE hEb (by simp [PRepL]) hA hB
theorem gcallP_of_awp (hm:P.follows .mixedOrders=true) {f:FuncId} {fn:Func} {c:Code} {ic:IC} {pre:List PV} {bx:Option OS} {args:List PV} {post:RV→OS→Prop} {Q:AQ} (hf:P.funcs[f]?=some fn) (hb:fn.body=some c) (hchk:chkC P okDraw ic c=true)
  (h:awp P E ic (a0P pre bx args++List.replicate (fn.ntmps - (a0P pre bx args).length) .any) (l0 bx) Q)
  (hQ:∀ (B:Base) (w':World) (L:Objs) (ι:Key→Value) (fr:List AV) (a:Act) (e:Exit),Q e fr L→StF E B w' L ι fr a→B.L0=l0 bx→(e=.normal∨e=.ret)∧∃ v r os',(results fn a.tmps).run P w'=.ok v w'∧post r os'∧RVok w' (ZB L ι B.X) B.w0.heap.size r v∧(bx.isSome=true→Zas L (.b 0)=some os'.ao)∧(∀ b,r.own v b→Own L ι b)):GCallP P E f pre bx args post:=by
 intro w U us vs v0 hU hE hEb hPre hA hB
 refine calls_of_wp hf hb ?_
 let ι:Key→Value:=fun _=>v0
 let B:Base:={ w0:=w,X:=fun c=>U c∧(bx.isSome=true→blk v0≠some c),L0:=l0 bx,i0:=ι }
 have hlk:∀ k q,Zas (l0 bx) k=some q→k=.b 0∧∃ os,bx=some os∧q=os.ao:=by
  intro k q hq
  cases hbx:bx with
  |none=>rw [hbx] at hq;simp [l0,Zas] at hq
  |some os=>
   rw [hbx] at hq
   simp only [l0,Zas] at hq
   split at hq
   ·rename_i e;cases hq;exact ⟨e.symm,os,rfl,rfl⟩
   ·cases hq
 have hO:∀ c,Own (l0 bx) ι c→blk v0=some c∧bx.isSome=true:=by
  rintro c ⟨k,q,h1,h2⟩
  obtain ⟨_,os,e,_⟩:=hlk k q h1
  exact ⟨h2,by rw [e];rfl⟩
 have hUb:∀ c,(Own (l0 bx) ι c∨B.X c)→U c:=by
  rintro c (h'|h')
  ·obtain ⟨h1,hs⟩:=hO c h'
   cases hbx:bx with
   |none=>rw [hbx] at hs;cases hs
   |some p=>rw [hbx] at hB;exact hB.1 c h1
  ·exact h'.1
 have hkeep:Keeps w w U (fun c=>Own (l0 bx) ι c∨B.X c):=fun c _ hu=>⟨rfl,fun h=>hu (hUb c h)⟩
 have hsim:Sim w B.X (l0 bx) ι:=by
  constructor
  ·intro k q hq
   obtain ⟨rfl,os,e,rfl⟩:=hlk k q hq
   rw [e] at hB
   exact ObjAt.ok (hB.2.mono hkeep (fun _ _=>rfl))
  ·intro k k' q q' c h1 h2 _ _
   rw [(hlk k q h1).1,(hlk k' q' h2).1]
 have hst:St E B w (l0 bx) ι:=⟨Grow.refl _ _,hsim,fun c hc=>.inl hc,fun c hc=>hU c hc.1,fun k _ _=>rfl,hE,fun c hc=>⟨(hEb c hc).1,fun ho=>by obtain ⟨e1,e2⟩:=hO c ho;exact (hEb c hc).2 e2 e1⟩,(fun i=>by
  show Zas (l0 bx) (.l i)=none
  cases hq:Zas (l0 bx) (.l i) with
  |none=>rfl
  |some q=>have:=(hlk _ _ hq).1;cases this),(fun c hc ho=>by obtain ⟨e1,e2⟩:=hO c ho;exact hc.2 e2 e1)⟩
 have hlen:=hA.length
 have hfr:∀ as:List Value,ARepL w (fun c=>Own (l0 bx) ι c∨B.X c) ι (a0P pre bx args) as→StF E B w (l0 bx) ι (a0P pre bx args++List.replicate (fn.ntmps - (a0P pre bx args).length) .any) { tmps:=as.toArray++Array.replicate (fn.ntmps - as.toArray.size) undef,defers:=[] }:=by
  intro as has
  have hl:∀ (xs:List AV) (ys:List Value),ARepL w (fun c=>Own (l0 bx) ι c∨B.X c) ι xs ys→ys.length=xs.length∧∀ (i:Nat) (x:AV),xs[i]?=some x→∃ v,ys[i]?=some v∧ARep w (fun c=>Own (l0 bx) ι c∨B.X c) ι x v:=by
   intro xs
   induction xs with
   |nil=>intro ys h;simp only [ARepL] at h;subst h;simp
   |cons x xs ih=>
    intro ys h
    simp only [ARepL] at h
    obtain ⟨v,r,rfl,h1,h2⟩:=h
    obtain ⟨g1,g2⟩:=ih r h2
    refine ⟨by simp [g1],fun i y hy=>?_⟩
    cases i with
    |zero=>simp at hy;subst hy;exact ⟨v,rfl,h1⟩
    |succ i=>simp at hy;simpa using g2 i y hy
  obtain ⟨g1,g2⟩:=hl _ _ has
  refine ⟨hst,⟨by simp [g1],fun i x hx=>?_⟩,rfl⟩
  rw [List.getElem?_append] at hx
  split at hx
  ·rename_i hi
   obtain ⟨v,hv,hrep⟩:=g2 i x hx
   refine ⟨v,?_,hrep⟩
   rw [Array.getElem?_append_left (by simp;omega)]
   simpa using hv
  ·rename_i hi
   rw [List.getElem?_replicate] at hx
   split at hx
   ·rename_i hlt
    cases hx
    refine ⟨undef,?_,trivial⟩
    rw [Array.getElem?_append_right (by simp;omega)]
    simp only [List.size_toArray]
    rw [Array.getElem?_replicate,if_pos (by rw [g1];omega)]
   ·cases hx
 have hargs:ARepL w (fun c=>Own (l0 bx) ι c∨B.X c) ι (a0P pre bx args) (us++(match bx with|none=>vs|some _=>v0 :: vs)):=by
  have hp:∀ (xs:List PV) (ys:List Value),PRepL w U xs ys→ARepL w (fun c=>Own (l0 bx) ι c∨B.X c) ι (xs.map .p) ys:=by
   intro xs
   induction xs with
   |nil=>intro ys h;simp only [PRepL] at h;subst h;simp [ARepL]
   |cons x xs ih=>
    intro ys h
    simp only [PRepL] at h
    obtain ⟨v,r,rfl,h1,h2⟩:=h
    simp only [List.map_cons,ARepL]
    exact ⟨v,r,rfl,PRep.mono hkeep _ _ h1,ih r h2⟩
  refine ARepL.append (hp pre us hPre) ?_
  have hpv:=hp args vs hA
  cases hbx:bx with
  |none=>rw [hbx] at hpv;exact hpv
  |some os=>
   rw [hbx] at hpv hB
   cases os with
   |box t cs=>
    obtain ⟨b,vs',e1,_⟩:=hB.2
    simp only [a0,ARepL]
    exact ⟨_,_,rfl,⟨b,e1,e1⟩,hpv⟩
   |row e z es=>
    obtain ⟨vs',h1,_⟩:=hB.2
    simp only [a0,ARepL]
    refine ⟨_,_,rfl,⟨rfl,?_⟩,hpv⟩
    rcases h1.2 with ⟨q1,_⟩|⟨g,cap,cur,fz,q1,_⟩
    ·exact ⟨none,0,0,q1⟩
    ·exact ⟨_,_,_,q1⟩
 refine wp_mono (awp_sound (drawOk hm) ic c _ _ _ hchk h B w ι _ (hfr _ hargs)) ?_
 rintro e a' w' ⟨fr',L',ι',q,hs'⟩
 obtain ⟨he,v,r,os',hv,hp,hr,hbox,hown⟩:=hQ B w' L' ι' fr' a' e q hs' rfl
 have hkey:bx.isSome=true→ι' (.b 0)=v0:=by
  intro e
  refine hs'.1.keep (.b 0) ?_ (by rw [hbox e];rfl)
  show (Zas (l0 bx) (.b 0)).isSome=true
  obtain ⟨os,e⟩:=Option.isSome_iff_exists.1 e
  rw [e];simp [l0,Zas]
 have hZ:∀ c,U c→ZB L' ι' B.X c:=by
  intro c hc
  by_cases hcb:bx.isSome=true∧blk v0=some c
  ·exact .inr ⟨0,_,hbox hcb.1,by rw [hkey hcb.1];exact hcb.2⟩
  ·exact .inl ⟨hc,fun h1 h2=>hcb ⟨h1,h2⟩⟩
 have hkz:Keeps w' w' (ZB L' ι' B.X) U:=fun c _ hz=>⟨rfl,fun hu=>hz (hZ c hu)⟩
 have hres:RVok w' U w.heap.size r v:=by
  cases r with
  |p x=>exact PRep.mono hkz _ _ hr
  |fr es e z=>
   obtain ⟨vs',r1,r2,r3,r4,r5⟩:=hr
   exact ⟨vs',r1,r2,PRepL.mono (fun c _ hz=>⟨rfl,fun hu=>hz (hu.imp (hZ c) id)⟩) _ _ r3,r4,r5⟩
  |ft es e z ps=>
   obtain ⟨u,us,hv,⟨vs',r1,r2,r3,r4,r5⟩,rp⟩:=hr
   exact ⟨u,us,hv,⟨vs',r1,r2,PRepL.mono (fun c _ hz=>⟨rfl,fun hu=>hz (hu.imp (hZ c) id)⟩) _ _ r3,r4,r5⟩,PRepL.mono (fun c _ hz=>⟨rfl,fun hu=>hz (hu.imp (hZ c) id)⟩) _ _ rp⟩
 have hg:=hs'.1.grow
 have fin:∃ v_1 r os',Ending.returned v=.returned v_1∧post r os'∧RVok w' U w.heap.size r v_1∧(match bx with|none=>Grow w w' (fun _=>False)|some _=>Grow w w' (fun c=>blk v0=some c)∧ObjAt w' (fun c=>U c∨r.own v_1 c) v0 os'):=by
  refine ⟨v,r,os',rfl,hp,hres,?_⟩
  cases hbx:bx with
  |none=>exact ⟨hg.os,hg.tape,hg.output,hg.size,fun c hc _=>hg.block c hc (fun ho=>by have:=(hO c ho).2;rw [hbx] at this;cases this)⟩
  |some os=>
   have hbs:bx.isSome=true:=by rw [hbx];rfl
   refine ⟨⟨hg.os,hg.tape,hg.output,hg.size,fun c hc hn=>hg.block c hc (fun ho=>hn (hO c ho).1)⟩,?_⟩
   have hat:=ObjAt.of (hs'.1.sim.obj (.b 0) _ (hbox hbs))
   rw [hkey hbs] at hat
   refine hat.mono (fun c _ hz=>⟨rfl,fun hu=>hz ?_⟩) (fun _ _=>rfl)
   rcases hu with hu|hu
   ·rcases hZ c hu with h1|⟨i,q,h1,h2⟩
    ·exact .inr h1
    ·exact .inl ⟨_,q,h1,h2⟩
   ·exact .inl (hown c hu)
 rcases he with rfl|rfl
 ·exact ⟨hs'.2.2,v,hv,fin⟩
 ·exact ⟨hs'.2.2,v,hv,fin⟩
theorem gcall_of_awp (hm:P.follows .mixedOrders=true) {f:FuncId} {fn:Func} {c:Code} {ic:IC} {bx:Option OS} {args:List PV} {post:RV→OS→Prop} {Q:AQ} (hf:P.funcs[f]?=some fn) (hb:fn.body=some c) (hchk:chkC P okDraw ic c=true)
  (h:awp P E ic (a0 bx args++List.replicate (fn.ntmps - (a0 bx args).length) .any) (l0 bx) Q)
  (hQ:∀ (B:Base) (w':World) (L:Objs) (ι:Key→Value) (fr:List AV) (a:Act) (e:Exit),Q e fr L→StF E B w' L ι fr a→B.L0=l0 bx→(e=.normal∨e=.ret)∧∃ v r os',(results fn a.tmps).run P w'=.ok v w'∧post r os'∧RVok w' (ZB L ι B.X) B.w0.heap.size r v∧(bx.isSome=true→Zas L (.b 0)=some os'.ao)∧(∀ b,r.own v b→Own L ι b)):GCall P E f bx args post:=
 GCallP.nil (gcallP_of_awp (pre:=[]) hm hf hb hchk h hQ)
theorem gcallPP (hm:P.follows .mixedOrders=true) {f:FuncId} {fn:Func} {ic:IC} {rs:List IRes} {n:Nat} {pre:List PV} {bx:Option OS} {args:List PV} {post:RV→OS→Prop} (hf:P.funcs[f]?=some fn) (hc:chkF P fn ic rs n=true)
  (h:awp P E ic (a0P pre bx args++List.replicate (n - (a0P pre bx args).length) .any) (l0 bx) (retQ rs (finP bx post))):GCallP P E f pre bx args post:=by
 unfold chkF at hc
 split at hc
 ·rename_i c hb
  simp only [Bool.and_eq_true,beq_iff_eq] at hc
  obtain ⟨⟨h1,h2⟩,rfl⟩:=hc
  refine gcallP_of_awp hm hf hb h1 h ?_
  intro B w' L ι fr a e q hs hb0
  have key:RetK (Zbd fr L rs) (finP bx post) L→∃ v r os',(results fn a.tmps).run P w'=.ok v w'∧post r os'∧RVok w' (ZB L ι B.X) B.w0.heap.size r v∧(bx.isSome=true→Zas L (.b 0)=some os'.ao)∧(∀ b,r.own v b→Own L ι b):=by
   intro q
   obtain ⟨l,e1,e2⟩:=RetK_ex q
   obtain ⟨v,hv,hr⟩:=results_ok hs h2 e1
   cases hbx:bx with
   |none=>rw [hbx] at e2;exact ⟨v,.p (mkRes l),noOS,hv,e2,hr,(fun h=>by cases h),fun _ h=>h.elim⟩
   |some p=>
    rw [hbx] at e2
    obtain ⟨cs',g1,g2⟩:=e2
    exact ⟨v,.p (mkRes l),cs',hv,g2,hr,(fun _=>g1),fun _ h=>h.elim⟩
  cases e with
  |normal=>exact ⟨.inl rfl,key q⟩
  |ret=>exact ⟨.inr rfl,key q⟩
  |_=>exact q.elim
 ·cases hc
theorem gcallP (hm:P.follows .mixedOrders=true) {f:FuncId} {fn:Func} {ic:IC} {rs:List IRes} {n:Nat} {bx:Option OS} {args:List PV} {post:RV→OS→Prop} (hf:P.funcs[f]?=some fn) (hc:chkF P fn ic rs n=true)
  (h:awp P E ic (a0 bx args++List.replicate (n - (a0 bx args).length) .any) (l0 bx) (retQ rs (finP bx post))):GCall P E f bx args post:=GCallP.nil (gcallPP (pre:=[]) hm hf hc h)
theorem gcallR (hm:P.follows .mixedOrders=true) {f:FuncId} {fn:Func} {ic:IC} {i n:Nat} {bx:Option OS} {args:List PV} {post:RV→OS→Prop} (hf:P.funcs[f]?=some fn) (hc:chkF P fn ic [.t i] n=true)
  (h:awp P E ic (a0 bx args++List.replicate (n - (a0 bx args).length) .any) (l0 bx) (retF i bx post)):GCall P E f bx args post:=by
 unfold chkF at hc
 split at hc
 ·rename_i c hb
  simp only [Bool.and_eq_true,beq_iff_eq] at hc
  obtain ⟨⟨h1,h2⟩,rfl⟩:=hc
  refine gcall_of_awp hm hf hb h1 h ?_
  intro B w' L ι fr a e q hs hb0
  have key:finF bx post i fr L→∃ v r os',(results fn a.tmps).run P w'=.ok v w'∧post r os'∧RVok w' (ZB L ι B.X) B.w0.heap.size r v∧(bx.isSome=true→Zas L (.b 0)=some os'.ao)∧(∀ b,r.own v b→Own L ι b):=by
   intro hfin
   have hres:(results fn a.tmps).run P w'=.ok (a.tmps.getD i undef) w':=by
    have hq:fn.results=#[.tmp i]:=by
     have:∀ (l:List ResultVar),okResL P l [.t i]=true→l=[.tmp i]:=by
      intro l hl
      cases l with
      |nil=>simp [okResL] at hl
      |cons x l=>
       cases l with
       |nil=>cases x<;>simp [okResL,okRes] at hl;subst hl;rfl
       |cons y l=>cases x<;>simp [okResL] at hl
     apply Array.ext'
     exact this _ h2
    exact results_tmp hq _ P w'
   rcases hfin with ⟨j,es,et,z,e1,e2,e3⟩|⟨et,z,z0,e1,e3⟩
   rotate_left
   ·have hsl:=hs.2.1.getD i
    rw [e1] at hsl
    have hv:a.tmps.getD i undef=.slice none 0 0:=hsl
    have hrv:RVok w' (ZB L ι B.X) B.w0.heap.size (.fr [] et z) (a.tmps.getD i undef):=by
     rw [hv]
     exact ⟨[],⟨by simp,.inl ⟨rfl,rfl⟩⟩,by simp,by simp [PRepL],by simp,fun b hb=>by simp [blk] at hb⟩
    have hno:∀ b,RV.own (.fr [] et z) (a.tmps.getD i undef) b→Own L ι b:=fun b hb=>by rw [hv] at hb;simp [RV.own,blk] at hb
    cases hbx:bx with
    |none=>rw [hbx] at e3;exact ⟨_,.fr [] et z,noOS,hres,e3,hrv,(fun h=>by cases h),hno⟩
    |some p=>
     rw [hbx] at e3
     obtain ⟨cs',g1,g2⟩:=e3
     exact ⟨_,.fr [] et z,cs',hres,g2,hrv,(fun _=>g1),hno⟩
   have hsl:=hs.2.1.getD i
   rw [e1] at hsl
   obtain ⟨hv,A,m,cp,hvs⟩:=hsl
   obtain ⟨vs,hrow,g2,g3,g4⟩:=hs.1.sim.obj _ _ e2
   have hblkO:∀ b,blk (a.tmps.getD i undef)=some b→Own L ι b:=fun b hb'=>⟨_,_,e2,by rw [← hv];exact hb'⟩
   have hrow':RowOk w' et z true (a.tmps.getD i undef) es.length vs:=by rw [hv];exact hrow
   have hZ0:bx.isSome=true→∃ q,Zas L (.b 0)=some q:=by
    intro hbs
    cases hbx:bx with
    |none=>rw [hbx] at hbs;cases hbs
    |some p=>rw [hbx] at e3;obtain ⟨cs',g1,_⟩:=e3;exact ⟨_,g1⟩
   have hrv:RVok w' (ZB L ι B.X) B.w0.heap.size (.fr es et z) (a.tmps.getD i undef):=by
    refine ⟨vs,hrow',g2,PRepL.mono (fun c _ hu=>⟨rfl,?_⟩) _ _ g3,g4,fun b hb'=>?_⟩
    ·rintro ((hx|⟨i',q',h1,h2⟩)|hx)
     ·exact hu (.inr hx)
     ·exact hu (.inl ⟨_,q',h1,h2⟩)
     ·exact hu (.inl (hblkO c hx))
    ·rcases hs.1.own b (hblkO b hb') with h'|h'
     ·obtain ⟨k0,q0,h5,h6⟩:=h'
      rw [hb0] at h5
      cases hbx:bx with
      |none=>rw [hbx] at h5;simp [l0,Zas] at h5
      |some p=>
       obtain ⟨q1,hq1⟩:=hZ0 (by rw [hbx];rfl)
       rw [hbx] at h5
       simp only [l0,Zas] at h5
       split at h5
       ·rename_i ek
        subst ek
        have hk0:ι (.b 0)=B.i0 (.b 0):=hs.1.keep (.b 0) (by rw [hb0,hbx];simp [l0,Zas]) (by rw [hq1];rfl)
        have:=hs.1.sim.inj (.b 0) (.l j) q1 _ b hq1 e2 (by rw [hk0];exact h6) (by rw [← hv];exact hb')
        cases this
       ·cases h5
     ·exact h'
   cases hbx:bx with
   |none=>rw [hbx] at e3;exact ⟨_,.fr es et z,noOS,hres,e3,hrv,(fun h=>by cases h),hblkO⟩
   |some p=>
    rw [hbx] at e3
    obtain ⟨cs',g1,g2⟩:=e3
    exact ⟨_,.fr es et z,cs',hres,g2,hrv,(fun _=>g1),hblkO⟩
  cases e with
  |normal=>exact ⟨.inl rfl,key q⟩
  |ret=>exact ⟨.inr rfl,key q⟩
  |_=>exact q.elim
 ·cases hc
def SCall (P:Program) (E:Envt) (f:FuncId) (t:TypeId) (cs args:List PV) (ψ:PV→List PV→Prop):Prop:=GCall P E f (some (.box t cs)) args fun r os=>∃ x cs',r=.p x∧os=.box t cs'∧ψ x cs'
def SFresh (P:Program) (E:Envt) (f:FuncId) (t:TypeId) (cs args:List PV) (e z:Nat) (ψ:List (List PV)→List PV→Prop):Prop:=GCall P E f (some (.box t cs)) args fun r os=>∃ es cs',r=.fr es e z∧os=.box t cs'∧ψ es cs'
def FCall (P:Program) (E:Envt) (f:FuncId) (args:List PV) (e z:Nat) (φ:List (List PV)→Prop):Prop:=GCall P E f none args fun r _=>∃ es,r=.fr es e z∧φ es
def RCall (P:Program) (E:Envt) (f:FuncId) (e z:Nat) (es:List (List PV)) (args:List PV) (ψ:PV→List (List PV)→Prop):Prop:=GCall P E f (some (.row e z es)) args fun r os=>∃ x es',r=.p x∧os=.row e z es'∧ψ x es'
variable {L:Objs} {fr:List AV} {X:List PV} {K:List AV→Objs→Prop}
theorem gc_none {f:FuncId} {as:List AV} {ps:List PV} {post:RV→OS→Prop} (h:GCall P E f none ps post) (ha:Zbh L as=some ps) (hn:Zbj as=true):GC P E f as L none post:=by
 intro w X ι vs hs hX hE hEb hA
 exact h w (fun b=>Own L ι b∨X b) vs undef (fun b hb=>hb.elim (fun h=>sim_own_lt hs h) (fun h=>(hX b h).1)) hE (fun b hb=>⟨(hEb b hb).1,fun h=>by cases h⟩) (argPs_norow hn ha hA) trivial
def AV.key1 (k:Key):OS→AV
 |.box _ _=>.adr k 0
 |.row _ _ _=>.row k
theorem gc_obj {f:FuncId} {as:List AV} {ps:List PV} {os:OS} {k:Key} {post:RV→OS→Prop} (h:GCall P E f (some os) ps post) (hl:Zas L k=some os.ao) (ha:Zbh L as=some ps) (hn:Zbj as=true):GC P E f (AV.key1 k os :: as) L (some (k,os)) post:=by
 intro w X ι vs hs hX hE hEb hA
 simp only [ARepL] at hA
 obtain ⟨v0,vr,rfl,hv0,hA⟩:=hA
 have hv0:v0=ι k:=by
  cases os with
  |box t cs=>obtain ⟨b,e1,e2⟩:=hv0;rw [e1,e2]
  |row e z es=>exact hv0.1
 subst hv0
 have hOb:∀ c,blk (ι k)=some c→Own L ι c:=fun c hc=>⟨k,_,hl,hc⟩
 refine (h w (fun b=>Own L ι b∨X b) vr (ι k) (fun b hb=>hb.elim (fun h=>sim_own_lt hs h) (fun h=>(hX b h).1)) hE (fun c hc=>⟨(hEb c hc).1,fun _ e=>(hEb c hc).2 (hOb c e)⟩) (argPs_norow hn ha hA) ⟨fun c hc=>.inl (hOb c hc),ObjAt.of (hs.obj k _ hl)⟩).mono ?_
 rintro e w' ⟨v,r,os',rfl,hp,hr,hG,hB⟩
 exact ⟨v,r,os',rfl,hp,hr,⟨hG.os,hG.tape,hG.output,hG.size,fun c hc hn=>hG.block c hc (fun ec=>hn ⟨_,hl,ec⟩)⟩,hB⟩
theorem argP0_rep {w:World} {U:Nat→Prop} {ι:Key→Value}:∀ {as:List AV} {ps:List PV} {vs:List Value},argP0 as=some ps→ARepL w U ι as vs→PRepL w U ps vs:=by
 intro as
 induction as with
 |nil=>intro ps vs h hr;simp only [argP0,Option.some.injEq] at h;subst h;exact hr
 |cons a as ih=>
  intro ps vs h hr
  cases a with
  |p x=>
   simp only [argP0,Option.map_eq_some_iff] at h
   obtain ⟨l,e2,rfl⟩:=h
   simp only [ARepL] at hr
   obtain ⟨v,r,rfl,h1,h2⟩:=hr
   simp only [PRepL]
   exact ⟨v,r,rfl,h1,ih e2 h2⟩
  |_=>simp [argP0] at h
theorem ARepL.split {w:World} {U:Nat→Prop} {ι:Key→Value}:∀ {as bs:List AV} {vs:List Value},ARepL w U ι (as++bs) vs→∃ us ws,vs=us++ws∧ARepL w U ι as us∧ARepL w U ι bs ws
 |[],bs,vs,h=>⟨[],vs,rfl,by simp [ARepL],h⟩
 |a :: as,bs,vs,h=>by
  simp only [List.cons_append,ARepL] at h
  obtain ⟨v,r,rfl,h1,h2⟩:=h
  obtain ⟨us,ws,rfl,h3,h4⟩:=ARepL.split h2
  exact ⟨v :: us,ws,rfl,by simp only [ARepL];exact ⟨v,us,rfl,h1,h3⟩,h4⟩
theorem useS {f:FuncId} {as:List AV} {ps cs:List PV} {t:TypeId} {k:Key} {ψ:PV→List PV→Prop} {d:Option Nat} {is:List IOper} (h:SCall P E f t cs ps ψ) (hl:Zas L k=some (.box (cs.map .p) t)) (ha:Zbh L as=some ps) (hn:Zbj as=true) (hs:Zbl d (some (k,.box t cs)))
  (hk:∀ x cs',ψ x cs'→awpOps P E X is (Zg fr d (.p x)) (Zat L k (.box (cs'.map .p) t)) K):CallOp P E f (.adr k 0 :: as) L d fr (contO P E X is K):=
 .inr (.inl ⟨some (k,.box t cs),_,gc_obj h hl ha hn,hl,hs,fun r os' hp=>by obtain ⟨x,cs',rfl,rfl,hx⟩:=hp;exact hk x cs' hx⟩)
theorem argPs_any {L L':Objs}:∀ {as:List AV},Zbj as=true→Zbh L as=Zbh L' as
 |[],_=>rfl
 |a :: r,h=>by
  have e:Zbi L a=Zbi L' a∧Zbj r=true:=by
   cases a<;>simp only [Zbj,Bool.false_eq_true,Bool.and_eq_true,List.isEmpty_iff] at h
   case fn f ks=>obtain ⟨rfl,h⟩:=h;exact ⟨rfl,h⟩
   all_goals exact ⟨rfl,h⟩
  simp only [Zbh]
  rw [e.1,argPs_any (L:=L) (L':=L') e.2]
theorem useD {b:Bool} {f:FuncId} {as:List AV} {ps cs:List PV} {t:TypeId} {k:Key} {ψ:PV→List PV→Prop} {d:Option Nat} {is:List IOper} (h:SCall P E f t cs ps ψ) (hne:∃ x cs',ψ x cs') (hl:Zas L k=some (.box (cs.map .p) t)) (ha:Zbh L as=some ps) (hn:Zbj as=true) (hs:Zbl d (some (k,.box t cs))) (hb:b=true→∃ j,k=.b j)
  (hk:∀ x cs',ψ x cs'→awpOps P E X is (Zg fr d (.p x)) (Zat L k (.box (cs'.map .p) t)) K):DCallOp b P E f (.adr k 0 :: as) L d fr (contO P E X is K):=
 ⟨k,t,cs,ψ,fun L' hl'=>gc_obj h hl' ((argPs_any hn).symm.trans ha) hn,hl,(fun e he=>by subst he;exact hs),hb,hne,hk⟩
theorem useSF {f:FuncId} {as:List AV} {ps cs:List PV} {t:TypeId} {k:Key} {e z:Nat} {ψ:List (List PV)→List PV→Prop} {d:Nat} {is:List IOper} (h:SFresh P E f t cs ps e z ψ) (hl:Zas L k=some (.box (cs.map .p) t)) (ha:Zbh L as=some ps) (hn:Zbj as=true) (hs:Zbl (some d) (some (k,.box t cs)))
  (hk:∀ es cs',ψ es cs'→awpOps P E X is ((fr.map (·.kill (.l d))).set d (.row (.l d))) (Zav (Zat L k (.box (cs'.map .p) t)) (.l d) (.row es e z true)) K):CallOp P E f (.adr k 0 :: as) L (some d) fr (contO P E X is K):=
 .inr (.inl ⟨some (k,.box t cs),_,gc_obj h hl ha hn,hl,hs,fun r os' hp=>by obtain ⟨es,cs',rfl,rfl,hx⟩:=hp;exact hk es cs' hx⟩)
theorem useF {f:FuncId} {as:List AV} {ps:List PV} {e z:Nat} {φ:List (List PV)→Prop} {d:Nat} {is:List IOper} (h:FCall P E f ps e z φ) (ha:Zbh L as=some ps) (hn:Zbj as=true)
  (hk:∀ es,φ es→awpOps P E X is ((fr.map (·.kill (.l d))).set d (.row (.l d))) (Zav L (.l d) (.row es e z true)) K):CallOp P E f as L (some d) fr (contO P E X is K):=
 .inr (.inl ⟨none,_,gc_none h ha hn,trivial,trivial,fun r cs' hp=>by obtain ⟨es,rfl,hx⟩:=hp;exact hk es hx⟩)
theorem argP0_map:∀ ps:List PV,argP0 (ps.map .p)=some ps
 |[]=>rfl
 |x :: r=>by simp only [List.map_cons,argP0,argP0_map r,Option.map_some]
theorem useF0 {f:FuncId} {as:List AV} {ps:List PV} {e z:Nat} {φ:List (List PV)→Prop} {d:Nat} {is:List IOper} (h:FCall P E f ps e z φ) (ha:argP0 as=some ps)
  (hk:∀ es,φ es→awpOps P E X is ((fr.map (·.kill (.l d))).set d (.row (.l d))) (Zav L (.l d) (.row es e z true)) K):CallOp P E f as L (some d) fr (contO P E X is K):=
 .inr (.inl ⟨none,_,(fun w X ι vs hs hX hE hEb hA=>h w (fun b=>Own L ι b∨X b) vs undef (fun b hb=>hb.elim (fun h=>sim_own_lt hs h) (fun h=>(hX b h).1)) hE (fun b hb=>⟨(hEb b hb).1,fun h=>by cases h⟩) (argP0_rep ha hA) trivial),trivial,trivial,fun r cs' hp=>by obtain ⟨es,rfl,hx⟩:=hp;exact hk es hx⟩)
theorem useFD {f:FuncId} {ps:List PV} {e z:Nat} {es:List (List PV)} (h:FCall P E f ps e z (·=es)):FrC P E f ps e z es:=fun L w X ι vs hs hX hE hEb hA=>
 (h w (fun b=>Own L ι b∨X b) vs undef (fun b hb=>hb.elim (fun h=>sim_own_lt hs h) (fun h=>(hX b h).1)) hE (fun b hb=>⟨(hEb b hb).1,fun h=>by cases h⟩) (argP0_rep (argP0_map ps) hA) trivial).mono (by
  rintro en w' ⟨v,r,cs',rfl,⟨es',rfl,rfl⟩,h2⟩
  exact ⟨v,_,cs',rfl,rfl,h2⟩)
theorem useR {f:FuncId} {as:List AV} {ps:List PV} {e z:Nat} {es:List (List PV)} {k:Key} {ψ:PV→List (List PV)→Prop} {d:Option Nat} {is:List IOper} (h:RCall P E f e z es ps ψ) (hl:Zas L k=some (.row es e z true)) (ha:Zbh L as=some ps) (hn:Zbj as=true) (hs:Zbl d (some (k,.row e z es)))
  (hk:∀ x es',ψ x es'→awpOps P E X is (Zg fr d (.p x)) (Zat L k (.row es' e z true)) K):CallOp P E f (.row k :: as) L d fr (contO P E X is K):=
 .inr (.inl ⟨some (k,.row e z es),_,gc_obj h hl ha hn,hl,hs,fun r os' hp=>by obtain ⟨x,es',rfl,rfl,hx⟩:=hp;exact hk x es' hx⟩)
theorem GCall.mono {f:FuncId} {bx:Option OS} {args:List PV} {post post':RV→OS→Prop} (h:GCall P E f bx args post) (hp:∀ r os,post r os→post' r os):GCall P E f bx args post':=by
 intro w U vs v0 hU hE hEb hA hB
 refine (h w U vs v0 hU hE hEb hA hB).mono ?_
 rintro e w' ⟨v,r,os',h1,h2,h3⟩
 exact ⟨v,r,os',h1,hp r os' h2,h3⟩
theorem RCall.mono {f:FuncId} {e z:Nat} {es:List (List PV)} {args:List PV} {ψ ψ':PV→List (List PV)→Prop} (h:RCall P E f e z es args ψ) (hp:∀ x es,ψ x es→ψ' x es):RCall P E f e z es args ψ':=
 GCall.mono h fun r os ⟨x,es',h1,h2,h3⟩=>⟨x,es',h1,h2,hp x es' h3⟩
theorem FCall.mono {f:FuncId} {e z:Nat} {args:List PV} {φ φ':List (List PV)→Prop} (h:FCall P E f args e z φ) (hp:∀ es,φ es→φ' es):FCall P E f args e z φ':=
 GCall.mono h fun r os ⟨es,h1,h2⟩=>⟨es,h1,hp es h2⟩
theorem PCall.mono {f:FuncId} {args:List PV} {φ φ':PV→Prop} (h:PCall P E f args φ) (hp:∀ x,φ x→φ' x):PCall P E f args φ':=by
 intro w U vs hU hE hEb hA
 refine (h w U vs hU hE hEb hA).mono ?_
 rintro e w' ⟨v,x,h1,h2,h3⟩
 exact ⟨v,x,h1,hp x h2,h3⟩
theorem fin_S {t:TypeId} {cs:List PV} {ψ:PV→List PV→Prop} {x:PV} (cs':List PV) (h1:Zas L (.b 0)=some (.box (cs'.map .p) t)) (h2:ψ x cs'):finP (some (.box t cs)) (fun r os=>∃ x cs',r=.p x∧os=.box t cs'∧ψ x cs') x L:=⟨.box t cs',h1,x,cs',rfl,rfl,h2⟩
theorem fin_F {i e z:Nat} {φ:List (List PV)→Prop} (j:Nat) (es:List (List PV)) (h0:fr.getD i .any=.row (.l j)) (h1:Zas L (.l j)=some (.row es e z true)) (h2:φ es):finF none (fun r _=>∃ es,r=.fr es e z∧φ es) i fr L:=.inl ⟨j,es,e,z,h0,h1,es,rfl,h2⟩
theorem fin_Fn {i e z z0:Nat} {φ:List (List PV)→Prop} (h0:fr.getD i .any=.p (.nl z0)) (h2:φ []):finF none (fun r _=>∃ es,r=.fr es e z∧φ es) i fr L:=.inr ⟨e,z,z0,h0,[],rfl,h2⟩
theorem fin_SF {i e z:Nat} {t:TypeId} {cs:List PV} {ψ:List (List PV)→List PV→Prop} (j:Nat) (es:List (List PV)) (cs':List PV) (h0:fr.getD i .any=.row (.l j)) (h1:Zas L (.l j)=some (.row es e z true)) (h3:Zas L (.b 0)=some (.box (cs'.map .p) t)) (h2:ψ es cs'):finF (some (.box t cs)) (fun r os=>∃ es cs',r=.fr es e z∧os=.box t cs'∧ψ es cs') i fr L:=.inl ⟨j,es,e,z,h0,h1,.box t cs',h3,es,cs',rfl,rfl,h2⟩
end
def dashF (s:List UInt8):List UInt8:=if s=[] then [45] else s
def hxD:List UInt8:=[48,49,50,51,52,53,54,55,56,57,97,98,99,100,101,102]
def hxB (n:Nat):UInt8:=hxD.getD n 0
def quB (c:UInt8):List UInt8:=
 if c=34∨c=92 then [92,c] else if c=10 then [92,110] else if c < 33∨126 < c then [92,120,hxB (c.toNat / 16),hxB (c.toNat % 16)] else [c]
def quoF (s:List UInt8):List UInt8:=34 :: (s.flatMap quB++[34])
theorem quB_len (c:UInt8):(quB c).length≤4:=by
 unfold quB
 split
 ·simp
 split
 ·simp
 split<;>simp
theorem quo_len (s:List UInt8):(s.flatMap quB).length≤4 * s.length:=by
 induction s with
 |nil=>simp
 |cons c s ih=>
  have:=quB_len c
  simp only [List.flatMap_cons,List.length_append,List.length_cons]
  omega
theorem quoF_len (s:List UInt8):(quoF s).length≤4 * s.length+2:=by
 have:=quo_len s
 simp only [quoF,List.length_cons,List.length_append,List.length_nil]
 omega
theorem quo_next {s:List UInt8} {k:Nat} (h:k < s.length):(s.take (k+1)).flatMap quB=(s.take k).flatMap quB++quB (s.getD k 0):=by
 rw [List.take_succ_eq_append_getElem h,List.flatMap_append]
 simp [List.getD_eq_getElem?_getD,List.getElem?_eq_getElem h]
def hexF (n:Nat):List UInt8:=if h:n < 16 then [hxB n] else hexF (n / 16)++[hxB (n % 16)]
termination_by n
decreasing_by omega
theorem hexF_small {n:Nat} (h:n < 16):hexF n=[hxB n]:=by rw [hexF,dif_pos h]
theorem hexF_big {n:Nat} (h:¬ n < 16):hexF n=hexF (n / 16)++[hxB (n % 16)]:=by rw [hexF,dif_neg h]
def hexK:Nat→Nat→List UInt8
 |0,_=>[]
 |k+1,n=>hexK k (n / 16)++[hxB (n % 16)]
theorem hexK_len:∀ (k n:Nat),(hexK k n).length=k
 |0,_=>rfl
 |k+1,n=>by simp [hexK,hexK_len k]
theorem hexK_zero:∀ (k:Nat),hexK k 0=List.replicate k 48
 |0=>rfl
 |k+1=>by
  rw [hexK,hexK_zero k,List.replicate_succ']
  rfl
theorem hexF_len:∀ (k n:Nat),n < 16 ^ (k+1)→(hexF n).length≤k+1
 |0,n,h=>by rw [hexF_small (by simpa using h)];simp
 |k+1,n,h=>by
  by_cases hs:n < 16
  ·rw [hexF_small hs];simp
  ·rw [hexF_big hs]
   have:=hexF_len k (n / 16) (by rw [Nat.pow_succ] at h;omega)
   simp only [List.length_append,List.length_cons,List.length_nil]
   omega
theorem hexF_ne (n:Nat):1≤(hexF n).length:=by
 by_cases hs:n < 16
 ·rw [hexF_small hs];simp
 ·rw [hexF_big hs];simp
theorem hex_pad:∀ (k n:Nat),n < 16 ^ (k+1)→List.replicate (k+1 - (hexF n).length) 48++hexF n=hexK (k+1) n
 |k,n,h=>by
  by_cases hs:n < 16
  ·rw [hexF_small hs]
   have h0:n / 16=0:=by omega
   have h1:n % 16=n:=by omega
   rw [hexK,h0,h1,hexK_zero]
   simp
  ·rw [hexF_big hs]
   cases k with
   |zero=>exact absurd (by simpa using h) hs
   |succ k=>
    have hk:n / 16 < 16 ^ (k+1):=by rw [Nat.pow_succ] at h;omega
    have ih:=hex_pad k (n / 16) hk
    have hl:=hexF_len k (n / 16) hk
    rw [hexK,← ih]
    simp only [List.length_append,List.length_cons,List.length_nil]
    rw [show k+1+1 - ((hexF (n / 16)).length+(0+1))=k+1 - (hexF (n / 16)).length from by omega,List.append_assoc]
def fnvS (h:Int) (c:UInt8):Int:=IntKind.u64.wrap (bitX .u64 h c.toNat * 1099511628211)
def fnvF (s:List UInt8):Int:=s.foldl fnvS 14695981039346656037
theorem wrap_u (x:Int):0≤IntKind.u64.wrap x∧IntKind.u64.wrap x < 18446744073709551616:=by
 rw [IntKind.wrap_u64];omega
theorem wrap_id {x:Int} (h0:0≤x) (h1:x < 18446744073709551616):IntKind.u64.wrap x=x:=by
 rw [IntKind.wrap_u64];omega
theorem fnvF_bd (s:List UInt8):0≤fnvF s∧fnvF s < 18446744073709551616:=by
 have:∀ (l:List UInt8) (x:Int),(0≤x∧x < 18446744073709551616)→0≤l.foldl fnvS x∧l.foldl fnvS x < 18446744073709551616:=by
  intro l
  induction l with
  |nil=>intro x h;exact h
  |cons c l ih=>intro x _;exact ih _ (wrap_u _)
 exact this s _ (by omega)
theorem fnv_next {s:List UInt8} {k:Nat} (h:k < s.length):fnvF (s.take (k+1))=fnvS (fnvF (s.take k)) (s.getD k 0):=by
 have hg:s.getD k 0=s[k]:=by simp [List.getD_eq_getElem?_getD,List.getElem?_eq_getElem h]
 rw [List.take_succ_eq_append_getElem h,fnvF,List.foldl_append,hg]
 rfl
theorem fnv_shifts (x:Int) :
  IntKind.u64.wrap (IntKind.u64.wrap (IntKind.u64.wrap (IntKind.u64.wrap (IntKind.u64.wrap (IntKind.u64.wrap (IntKind.u64.wrap (x * 1099511627776)+IntKind.u64.wrap (x * 256))+IntKind.u64.wrap (x * 128))+IntKind.u64.wrap (x * 32))+IntKind.u64.wrap (x * 16))+IntKind.u64.wrap (x * 2))+x)=IntKind.u64.wrap (x * 1099511628211):=by
 simp only [IntKind.wrap_u64]
 omega
def digF (s:List UInt8):List UInt8:=hexK 16 (fnvF s).toNat
theorem digF_len (s:List UInt8):(digF s).length=16:=hexK_len _ _
theorem dig_pad (s:List UInt8):List.replicate (16 - (hexF (fnvF s).toNat).length) 48++hexF (fnvF s).toNat=digF s:=by
 have:=fnvF_bd s
 exact hex_pad 15 _ (by omega)
theorem bitA15 {u:Int} (h0:0≤u) (h1:u < 18446744073709551616):bitA .u64 u 15=u % 16:=by
 obtain ⟨n,rfl⟩:=Int.eq_ofNat_of_zero_le h0
 have:(BitVec.ofInt 64 (n:Int) &&& BitVec.ofInt 64 15).toNat=n % 16:=by
  rw [BitVec.toNat_and]
  have e1:(BitVec.ofInt 64 (n:Int)).toNat=n:=by
   simp
   omega
  have e2:(BitVec.ofInt 64 15).toNat=2 ^ 4 - 1:=by decide
  rw [e1,e2,Nat.and_two_pow_sub_one_eq_mod]
 show IntKind.u64.wrap ((BitVec.ofInt 64 (n:Int) &&& BitVec.ofInt 64 15).toNat:Nat)=_
 rw [this,wrap_id (by omega) (by omega)]
 omega
theorem hx_get (n:Nat) (h:n < 16):([48,49,50,51,52,53,54,55,56,57,97,98,99,100,101,102,103,104,105,106,107,108,109,110,111,112,113,114,115,116,117,118,119,120,121,122]:List UInt8).getD n 0=hxB n:=by
 have:∀ n:Fin 16,([48,49,50,51,52,53,54,55,56,57,97,98,99,100,101,102,103,104,105,106,107,108,109,110,111,112,113,114,115,116,117,118,119,120,121,122]:List UInt8).getD n.val 0=hxB n.val:=by decide
 exact this ⟨n,h⟩
theorem hx_cut (n:Nat) (h:n < 16):(([48,49,50,51,52,53,54,55,56,57,97,98,99,100,101,102]:List UInt8).take (n+1)).drop n=[hxB n]:=by
 have:∀ n:Fin 16,(([48,49,50,51,52,53,54,55,56,57,97,98,99,100,101,102]:List UInt8).take (n.val+1)).drop n.val=[hxB n.val]:=by decide
 exact this ⟨n,h⟩
end Go.Proofs.YtinffddgojhdfaaGreatDoor
namespace Go.Proofs.YtinffddgojhdfaaGreatDoor
open Go.RowKit
def flatD:PV→Bool
 |.int ..|.bool _|.str _=>true
 |_=>false
def valD:PV→Value
 |.int k n=>.int k n
 |.bool b=>.bool b
 |.str s=>.string ⟨s.toArray⟩
 |_=>undef
theorem PRep.valD {w:World} {U:Nat→Prop} {x:PV} {v:Value} (hf:flatD x=true):PRep w U x v↔v=valD x:=by
 cases x<;>simp_all [flatD,PRep,Go.Proofs.YtinffddgojhdfaaGreatDoor.valD]
theorem PRepL.valD {w:World} {U:Nat→Prop}:∀ {xs:List PV} {vs:List Value},(xs.all flatD)=true→(PRepL w U xs vs↔vs=xs.map Go.Proofs.YtinffddgojhdfaaGreatDoor.valD):=by
 intro xs
 induction xs with
 |nil=>intro vs _;simp [PRepL]
 |cons x r ih=>
  intro vs h
  simp only [List.all_cons,Bool.and_eq_true] at h
  simp only [PRepL,List.map_cons]
  constructor
  ·rintro ⟨v,s,rfl,h1,h2⟩
   rw [PRep.valD h.1] at h1
   rw [ih h.2] at h2
   rw [h1,h2]
  ·rintro rfl
   exact ⟨_,_,rfl,(PRep.valD h.1).2 rfl,(ih h.2).2 rfl⟩
theorem valD_one {x:PV} (hf:flatD x=true):(valD x).oneCell'=true:=by
 cases x<;>first|rfl|cases hf
section
variable {P:Program} {E:Envt}
theorem grow_below {w w':World} {O:Nat→Prop} (h:Below w.heap.size w w'):Grow w w' O:=⟨h.os,h.tape,h.output,h.size,fun b hb _=>h.block b hb⟩
def flatX:PV→Bool
 |.tup cs=>cs.all flatD
 |x=>flatD x
def valX:PV→Value
 |.tup cs=>.tuple (cs.map valD).toArray
 |x=>valD x
theorem PRep.valX {w:World} {U:Nat→Prop} {x:PV} (hf:flatX x=true):PRep w U x (valX x):=by
 cases x with
 |tup cs=>exact ⟨_,rfl,(PRepL.valD (by simpa [flatX] using hf)).2 rfl⟩
 |int k n=>rfl
 |bool b=>rfl
 |str s=>rfl
 |_=>simp [flatX,flatD] at hf
theorem pcall_flat {f:FuncId} {args:List PV} {r:PV} (ha:args.all flatD=true) (hr:flatX r=true) (h:∀ w,E.ok w→Calls P f (args.map valD).toArray w fun e w'=>e=.returned (valX r)∧Grow w w' (fun _=>False)):PCall P E f args (·=r):=by
 intro w U vs hU hE hEb hA
 rw [PRepL.valD ha] at hA
 subst hA
 refine (h w hE).mono ?_
 rintro e w' ⟨rfl,hg⟩
 exact ⟨_,r,rfl,rfl,PRep.valX hr,hg⟩
end
end Go.Proofs.YtinffddgojhdfaaGreatDoor
namespace Go.Proofs.YtinffddgojhdfaaGreatDoor
section
variable {w w':World} {U:Nat→Prop} {ι ι':Key→Value} {f:Key→Option Key}
theorem ObjOk.keeps {U':Nat→Prop} (hk:Keeps w w U U') {k:Key} {a:AO} (h:ObjOk w U ι k a):ObjOk w U' ι k a:=h.mono hk (fun _ _=>rfl)
end
section
variable {P:Program} {E:Envt}
variable {L:Objs} {fr:List AV} {d:Option Nat} {is:List IOper} {Y:List PV} {K:List AV→Objs→Prop}
end
def r1 (d q:Nat) (k:Key):Option Key:=if k=.l d then some (.l q) else if k=.l q then none else some k
section
variable {E:Envt} {B:Base} {w:World} {L:Objs} {ι:Key→Value} {fr:List AV} {a:Act}
theorem re_box {k:Key} {cs:List PV} {t:TypeId} (hl:Zas L k=some (.box (cs.map .p) t)):ReOk E fr L (fr.map (·.thaw k (.ptr cs))) (Zaw k (.ptr cs) L):=fun B w ι a hs=>⟨ι,hs.thawB hl⟩
end
end Go.Proofs.YtinffddgojhdfaaGreatDoor
