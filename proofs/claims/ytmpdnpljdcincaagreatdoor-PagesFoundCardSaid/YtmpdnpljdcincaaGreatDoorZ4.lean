import Derived.Test.YtmpdnpljdcincaaGreatDoorZ3
import Derived.Lib.Builder
import Derived.Lib.UnsafeStr
import Derived.Lib.AppendStr
set_option linter.unusedVariables false
set_option linter.unusedSimpArgs false
set_option linter.defProp false
namespace Go.Proofs.YtmpdnpljdcincaaGreatDoor
open Option.some renaming injEq→zg
open Nat renaming le_refl→zM
open List renaming all_eq_true→yv,cons_append→zp,eq_nil_of_length_eq_zero→zz,getD→zD,getElem?_drop→z7,getElem?_eq_getElem→zh,getElem?_eq_none→ya,getElem?_eq_some_iff→zt,getElem?_map→zA,getElem?_of_mem→zW,getElem?_range→yd,getElem?_set_ne→yp,getElem?_take→yg,length_append→zC,length_cons→zj,map_append→zT,map_congr_left→zX,map_cons→zo,map_map→ye,mem_append→zI,mem_cons→zL,mem_filter→yr,mem_map→zP,mem_of_getElem?→zy,mem_singleton→zH,nil_append→zq,range→zJ,replicate→zR
open Bool renaming and_eq_true→zl,not_eq_true'→z6,or_eq_true→zY
open Option renaming map_eq_some_iff→zk,map_some→zQ
open _root_.Array renaming getD_eq_getD_getElem?→zK,getElem?_eq_some_iff→zF,getElem?_setIfInBounds_ne→zU
section
variable {P:Program} {E:Envt} {Y:List PV} {B:Base}
theorem qn4 {ops:Array Oper}:∀ {js:List IOper} {os:List Oper},qg0 P ops os js=true→(∀ i∈js,isFz i=false)→js.length=os.length∧∀ (k:Nat) (i:IOper),js[k]?=some i→∃ o,os[k]?=some o∧qix P ops o i=true:=by
 intro js
 induction js with
 |nil=>intro os h _;simp only [qg0,List.isEmpty_iff] at h;subst h;simp
 |cons i js ih=>
  intro os h hf
  simp only [qg0] at h
  rw [if_neg (by simp [hf i (by simp)])] at h
  split at h
  ·rename_i o os'
   simp only [zl] at h
   obtain ⟨h1,h2⟩:=ih h.2 (fun j hj=>hf j (by simp [hj]))
   refine ⟨by simp [h1],fun k x hx=>?_⟩
   cases k with
   |zero=>simp at hx;subst hx;exact ⟨o,rfl,h.1⟩
   |succ k=>simp at hx;simpa using h2 k x hx
  ·cases h
theorem qri {ops:Array Oper} {n i:Nat} {ii:IOper}:∀ {l:List (Nat×IOper)},qoC ops n i ii l=true→∀ y∈l,qjJ y.2 ii=true∨ancB ops n i y.1=true:=by
 intro l
 induction l with
 |nil=>intro _ y hy;cases hy
 |cons q l ih=>
  intro h y hy
  obtain ⟨j,jj⟩:=q
  simp only [qoC,zl,zY] at h
  simp only [zL] at hy
  rcases hy with rfl|hy
  ·exact h.1
  ·exact ih h.2 y hy
theorem qqL {ops:Array Oper} {n:Nat}:∀ {l seen:List (Nat×IOper)},qrQ ops n seen l=true→∀ (pre:List (Nat×IOper)) (x:Nat×IOper) (post:List (Nat×IOper)),l=pre++x :: post→∀ y∈seen++pre,qjJ y.2 x.2=true∨ancB ops n x.1 y.1=true:=by
 intro l
 induction l with
 |nil=>intro seen _ pre x post h;cases pre<;>cases h
 |cons q l ih=>
  intro seen h pre x post e y hy
  obtain ⟨i,ii⟩:=q
  simp only [qrQ,zl] at h
  cases pre with
  |nil=>
   simp only [zq,List.cons.injEq] at e
   obtain ⟨rfl,rfl⟩:=e
   exact qri h.1 y (by simpa using hy)
  |cons p pre=>
   simp only [zp,List.cons.injEq] at e
   obtain ⟨rfl,rfl⟩:=e
   exact ih h.2 pre x post rfl y (by simpa using hy)
def qpB (ops:Array Oper) (listed:Array Bool):Prop:=∀ (i:Nat) (o:Oper),ops[i]?=some o→listed.getD i false=true→∀ e∈qiX o,listed.getD e false=true
theorem qlJ {ops:Array Oper} {listed:Array Bool} (hc:qpB ops listed):∀ (n i j:Nat) (o:Oper),ops[i]?=some o→(∀ e∈qiX o,listed.getD e false=true)→ancB ops n i j=true→listed.getD j false=true:=by
 intro n
 induction n with
 |zero=>intro i j o _ _ h;simp [ancB] at h
 |succ n ih=>
  intro i j o ho he h
  simp only [ancB,ho,List.any_eq_true,zY,beq_iff_eq] at h
  obtain ⟨e,h1,h2⟩:=h
  rcases h2 with rfl|h2
  ·exact he e h1
  ·cases hoe:ops[e]? with
   |none=>cases n<;>simp [ancB,hoe] at h2
   |some oe=>exact ih e j oe hoe (hc e oe hoe (he e h1)) h2
theorem mem_ready {ops:Array Oper} {listed:Array Bool} {i:Nat}:i∈Region.ready .any ops listed↔∃ o,ops[i]?=some o∧listed.getD i true=false∧∀ e∈qiX o,listed.getD e false=true:=by
 simp only [Region.ready,yr,List.mem_range,zl,z6]
 constructor
 ·rintro ⟨h1,h2,h3⟩
  obtain ⟨o,ho⟩:∃ o,ops[i]?=some o:=⟨_,Array.getElem?_eq_getElem h1⟩
  refine ⟨o,ho,h2,fun e he=>?_⟩
  rw [ho] at h3
  simp only [zQ,Option.getD_some,Array.all_eq_true'] at h3
  simp only [qiX,zP,yr] at he
  obtain ⟨ed,⟨h4,h5⟩,rfl⟩:=he
  have:=h3 ed (by simpa using h4)
  simpa [h5] using this
 ·rintro ⟨o,ho,h2,h3⟩
  refine ⟨(zF.1 ho).1,h2,?_⟩
  rw [ho]
  simp only [zQ,Option.getD_some,Array.all_eq_true']
  intro ed hed
  cases hb:Region.binds .any ed with
  |false=>simp
  |true=>simp only [Bool.not_true,Bool.false_or];exact h3 _ (by simp only [qiX,zP,yr];exact ⟨ed,⟨by simpa using hed,hb⟩,rfl⟩)
def unl (listed:Array Bool) (p:Nat×IOper):Bool:=!listed.getD p.1 true
theorem newsOf_mem {l:List IOper} {d:Nat}:d∈qaw l↔∃ i∈l,∃ r,isN i=some (d,r):=by
 simp only [qaw,List.mem_filterMap,zk]
 constructor
 ·rintro ⟨i,hi,⟨e,r⟩,h1,rfl⟩;exact ⟨i,hi,r,h1⟩
 ·rintro ⟨i,hi,r,h1⟩;exact ⟨i,hi,(d,r),h1,rfl⟩
theorem qBM {ops:Array Oper} {js:List IOper} {K:List AV→Objs→Prop} {Q:Exit→Act→World→Prop} (hK:∀ fr L ι a w,K fr L→StF E B w L ι fr a→Q .normal a w) (hjs:js.length=ops.size)
  (hget:∀ (k:Nat) (i:IOper),js[k]?=some i→∃ o,ops[k]?=some o∧qix P ops o i=true) (hfz:∀ i∈js,isFz i=false) (hall:qrQ ops ops.size [] ((zJ js.length).zip js)=true)
  (hedge:∀ (i:Nat) (o:Oper),ops[i]?=some o→∀ e∈qiX o,e < i) (hnews:qaw js=[]∨(∀ i∈js,okBy (qaw js) i=true)∧(qaw js).Nodup) :
  ∀ (fuel:Nat) (listed:Array Bool) (fr:List AV) (L:Objs) (ι:Key→Value) (a:Act) (w:World),listed.size=ops.size→qpB ops listed→fuel=(((zJ js.length).zip js).filter (unl listed)).length→
   qcZ (qaw ((((zJ js.length).zip js).filter (unl listed)).map (·.2))) fr L→
   qaa P E Y ((((zJ js.length).zip js).filter (unl listed)).map (·.2)) fr L K→StF E B w L ι fr a→wpAny P .any ops Q fuel listed a w:=by
 intro fuel
 have zget:∀ (k:Nat) (x:IOper),js[k]?=some x→((zJ js.length).zip js)[k]?=some (k,x):=by
  intro k x hk
  rw [List.getElem?_zip_eq_some]
  exact ⟨by rw [yd (zt.1 hk).1],hk⟩
 have zmem:∀ (p:Nat×IOper),p∈(zJ js.length).zip js→p.1 < js.length∧js[p.1]?=some p.2:=by
  intro p hp
  obtain ⟨k,hk⟩:=zW hp
  rw [List.getElem?_zip_eq_some] at hk
  obtain ⟨h1,h2⟩:=hk
  rw [yd (by have:=(zt.1 h2).1;exact this)] at h1
  cases h1
  exact ⟨(zt.1 h2).1,h2⟩
 induction fuel with
 |zero=>
  intro listed fr L ι a w hsz hcl hf hFr h hs
  have hnil:((zJ js.length).zip js).filter (unl listed)=[]:=zz hf.symm
  rw [hnil] at h
  refine ⟨?_,hK fr L ι a w h hs⟩
  refine List.eq_nil_iff_forall_not_mem.2 fun i hi=>?_
  obtain ⟨o,ho,h2,_⟩:=mem_ready.1 hi
  have hlt:i < js.length:=by rw [hjs];exact (zF.1 ho).1
  have:(i,js[i])∈((zJ js.length).zip js).filter (unl listed):=by
   simp only [yr]
   exact ⟨zy (zget i _ (zh hlt)),by simp [unl,h2]⟩
  rw [hnil] at this
  cases this
 |succ fuel ih=>
  intro listed fr L ι a w hsz hcl hf hFr h hs
  have hready:Region.ready .any ops listed≠[]:=by
   intro hnil
   cases hrem:((zJ js.length).zip js).filter (unl listed) with
   |nil=>rw [hrem] at hf;simp at hf
   |cons p rest=>
    have hp:p∈((zJ js.length).zip js).filter (unl listed):=by rw [hrem];simp
    have hex:∃ i,i < js.length∧listed.getD i true=false∧∀ j,j < i→listed.getD j true=true:=by
     obtain ⟨h1,h2⟩:=yr.1 hp
     have hp1:=(zmem p h1).1
     have hpu:listed.getD p.1 true=false:=by simpa [unl] using h2
     have:∀ m i,i≤m→i < js.length→listed.getD i true=false→∃ i,i < js.length∧listed.getD i true=false∧∀ j,j < i→listed.getD j true=true:=by
      intro m
      induction m with
      |zero=>intro i hi h1 h2;exact ⟨i,h1,h2,fun j hj=>by omega⟩
      |succ m ihm=>
       intro i hi h1 h2
       by_cases hex:∃ j,j < i∧listed.getD j true=false
       ·obtain ⟨j,hj1,hj2⟩:=hex
        exact ihm j (by omega) (by omega) hj2
       ·refine ⟨i,h1,h2,fun j hj=>?_⟩
        cases hq:listed.getD j true with
        |true=>rfl
        |false=>exact absurd ⟨j,hj,hq⟩ hex
     exact this p.1 p.1 (zM _) hp1 hpu
    obtain ⟨i,hi1,hi2,hi3⟩:=hex
    obtain ⟨o,ho,_⟩:=hget i _ (zh hi1)
    have:i∈Region.ready .any ops listed:=mem_ready.2 ⟨o,ho,hi2,fun e he=>by
     have hlt:=hedge i o ho e he
     have:=hi3 e hlt
     have hes:e < listed.size:=by rw [hsz,← hjs];omega
     simp only [Array.getD,hes,dite_true] at this ⊢
     exact this⟩
    rw [hnil] at this
    cases this
  refine ⟨fun hn=>absurd hn hready,fun i hi=>?_⟩
  obtain ⟨o,ho,hun,hed⟩:=mem_ready.1 hi
  have hlt:i < js.length:=by rw [hjs];exact (zF.1 ho).1
  have hil:i < listed.size:=by rw [hsz,← hjs];exact hlt
  obtain ⟨ii,hii⟩:∃ ii,js[i]?=some ii:=⟨_,zh hlt⟩
  have hsplit:(zJ js.length).zip js=((zJ js.length).zip js).take i++(i,ii) :: ((zJ js.length).zip js).drop (i+1):=by
   have hzl:((zJ js.length).zip js).length=js.length:=by simp
   have e:((zJ js.length).zip js)[i]?=some (i,ii):=by
    rw [List.getElem?_zip_eq_some]
    exact ⟨by rw [yd hlt],hii⟩
   rw [zt] at e
   obtain ⟨h1,h2⟩:=e
   rw [← h2,← List.drop_eq_getElem_cons h1,List.take_append_drop]
  have hpre:∀ p∈((zJ js.length).zip js).take i,p.1 < i:=by
   intro p hp
   obtain ⟨k,hk⟩:=zW hp
   rw [yg] at hk
   split at hk
   ·rename_i hki
    rw [List.getElem?_zip_eq_some] at hk
    rw [yd (by omega)] at hk
    cases hk.1
    exact hki
   ·cases hk
  have hpost:∀ p∈((zJ js.length).zip js).drop (i+1),i < p.1:=by
   intro p hp
   obtain ⟨k,hk⟩:=zW hp
   rw [z7,List.getElem?_zip_eq_some] at hk
   have hkl:=(zt.1 hk.2).1
   rw [yd hkl] at hk
   have:=Option.some.inj hk.1
   omega
  have hunl:unl listed (i,ii)=true:=by simp [unl,hun]
  have hfil:((zJ js.length).zip js).filter (unl listed)=(((zJ js.length).zip js).take i).filter (unl listed)++(i,ii) :: (((zJ js.length).zip js).drop (i+1)).filter (unl listed):=by
   conv=>lhs;rw [hsplit]
   rw [List.filter_append,List.filter_cons_of_pos hunl]
  have hgd:∀ j,j≠i→(listed.setIfInBounds i true).getD j true=listed.getD j true:=by
   intro j hj
   rw [zK,zK,zU (Ne.symm hj)]
  have hself:∀ b,(listed.setIfInBounds i true).getD i b=true:=by
   intro b
   rw [zK,Array.getElem?_setIfInBounds_self_of_lt hil]
   rfl
  have hfil':((zJ js.length).zip js).filter (unl (listed.setIfInBounds i true))=(((zJ js.length).zip js).take i).filter (unl listed)++(((zJ js.length).zip js).drop (i+1)).filter (unl listed):=by
   conv=>lhs;rw [hsplit]
   rw [List.filter_append,List.filter_cons_of_neg (by simp [unl,hself])]
   congr 1
   ·refine List.filter_congr fun p hp=>?_
    have:=hpre p hp
    simp only [unl,hgd p.1 (by omega)]
   ·refine List.filter_congr fun p hp=>?_
    have:=hpost p hp
    simp only [unl,hgd p.1 (by omega)]
  have hap:∀ x∈((((zJ js.length).zip js).take i).filter (unl listed)).map (·.2),qjJ x ii=true:=by
   intro x hx
   obtain ⟨p,hp,rfl⟩:=zP.1 hx
   obtain ⟨hp1,hp2⟩:=yr.1 hp
   rcases qqL hall _ _ _ hsplit p (by simpa using hp1) with h'|h'
   ·exact h'
   ·have:=qlJ hcl _ i p.1 o ho hed h'
    have hpl:p.1 < listed.size:=by have:=hpre p hp1;omega
    simp only [unl,Array.getD,hpl,dite_true] at hp2 this
    rw [this] at hp2
    cases hp2
  have hsub:((((zJ js.length).zip js).filter (unl listed)).map (·.2)).Sublist js:=by
   have e:((zJ js.length).zip js).map (·.2)=js:=by rw [← List.unzip_snd,List.unzip_zip (by simp)]
   have:=(List.filter_sublist (p:=unl listed) (l:=(zJ js.length).zip js)).map (·.2)
   rwa [e] at this
  rw [hfil] at h hf hFr hsub
  simp only [zT,zo] at h hFr hsub
  generalize hA:((((zJ js.length).zip js).take i).filter (unl listed)).map (·.2)=A at *
  generalize hC:((((zJ js.length).zip js).drop (i+1)).filter (unl listed)).map (·.2)=C at *
  have hfront:=qp7 _ fr L hap (fun d hd=>hFr d (by
   obtain ⟨q,hq,r,hr⟩:=newsOf_mem.1 hd
   simp only [zH] at hq
   exact newsOf_mem.2 ⟨q,by simp [hq],r,hr⟩)) h
  have hrest:qcZ (qaw (A++C)) fr L:=fun d hd=>hFr d (by
   obtain ⟨q,hq,r,hr⟩:=newsOf_mem.1 hd
   refine newsOf_mem.2 ⟨q,?_,r,hr⟩
   simp only [zI,zL] at hq ⊢
   rcases hq with hq|hq
   ·exact .inl hq
   ·exact .inr (.inr hq))
  have hfront:qaa P E Y (ii :: []) fr L (fun fr L=>qcZ (qaw (A++C)) fr L∧qaa P E Y (A++C) fr L K)∨(qaa P E Y (ii :: (A++C)) fr L K∧qaw js=[]):=by
   rcases hnews with hn|⟨h1,h2⟩
   ·exact .inr ⟨hfront,hn⟩
   ·rcases qp6 (h1 ii (zy hii)) with hok|⟨d0,hd0,hn0⟩
    rotate_left
    ·refine .inl (qlZ hd0 (fun hm=>hn0 ?_) hrest hfront (fun fr L hF h=>⟨hF,h⟩))
     obtain ⟨q,hq,r,hr⟩:=newsOf_mem.1 hm
     refine newsOf_mem.2 ⟨q,hsub.subset ?_,r,hr⟩
     simp only [zI,zL] at hq ⊢
     rcases hq with hq|hq
     ·exact .inl hq
     ·exact .inr (.inr hq)
    refine .inl (qjG hok ?_ hrest hfront (fun fr L hF h=>⟨hF,h⟩))
    intro d l hd hm
    have hnd:(qaw (A++ii :: C)).Nodup:=(hsub.filterMap _).nodup h2
    have hp:(qaw (A++ii :: C)).Perm (qaw (ii :: (A++C))):=List.Perm.filterMap _ List.perm_middle
    have hnd2:=hp.nodup_iff.1 hnd
    have e:qaw (ii :: (A++C))=d :: qaw (A++C):=by simp [qaw,hd]
    rw [e] at hnd2
    exact (List.nodup_cons.1 hnd2).1 hm
  have hemp:qaw js=[]→qaw (A++C)=[]:=by
   intro hn
   refine List.eq_nil_iff_forall_not_mem.2 fun d hd=>?_
   obtain ⟨q,hq,r,hr⟩:=newsOf_mem.1 hd
   have:d∈qaw js:=newsOf_mem.2 ⟨q,hsub.subset (by
    simp only [zI,zL] at hq ⊢
    rcases hq with hq|hq
    ·exact .inl hq
    ·exact .inr (.inr hq)),r,hr⟩
   rw [hn] at this
   cases this
  have hfi:isFz ii=false:=hfz ii (zy hii)
  obtain ⟨o',ho',hchk⟩:=hget i ii hii
  rw [ho] at ho'
  cases ho'
  have cont:∀ fr' L' ι' a' w',qcZ (qaw (A++C)) fr' L'→qaa P E Y (A++C) fr' L' K→StF E B w' L' ι' fr' a'→wpAny P .any ops Q fuel (listed.setIfInBounds i true) a' w':=by
   intro fr' L' ι' a' w' hF' h' hs'
   refine ih (listed.setIfInBounds i true) fr' L' ι' a' w' (by simpa using hsz) ?_ ?_ ?_ ?_ hs'
   ·intro k q hq hk e he
    by_cases hki:k=i
    ·subst hki
     rw [ho] at hq
     cases hq
     by_cases hei:e=k
     ·subst hei;exact hself _
     ·have:=hed e he
      rw [zK,zU (Ne.symm hei),← zK]
      exact this
    ·rw [zK,zU (Ne.symm hki),← zK] at hk
     have:=hcl k q hq hk e he
     by_cases hei:e=i
     ·subst hei;exact hself _
     ·rw [zK,zU (Ne.symm hei),← zK]
      exact this
   ·rw [hfil']
    simp only [zC,zj] at hf ⊢
    omega
   ·rw [hfil',zT,hA,hC]
    exact hF'
   ·rw [hfil',zT,hA,hC]
    exact h'
  have hstep:if Region.wanted o (yielded ops a.tmps) then o.wp P a w (wpAny P .any ops Q fuel (listed.setIfInBounds i true)) Q else wpAny P .any ops Q fuel (listed.setIfInBounds i true) (a.put o.dst undef) w:=by
   rcases hfront with hfront|⟨hfront,hn⟩
   ·exact qgq hchk hfi hfront hs (fun fr' L' ι' a' w' h' hs'=>by
     simp only [qaa] at h'
     exact cont fr' L' ι' a' w' h'.1 h'.2 hs')
   ·exact qgq hchk hfi hfront hs (fun fr' L' ι' a' w' h' hs'=>cont fr' L' ι' a' w' (by rw [hemp hn];intro d hd;cases hd) h' hs')
  unfold wpOp
  rw [ho]
  simp only
  by_cases hw:Region.wanted o (yielded ops a.tmps)=true
  ·rw [if_pos hw] at hstep ⊢
   exact .inl hstep
  ·rw [if_neg hw] at hstep ⊢
   exact hstep
theorem qni {ops:Array Oper} {K:List AV→Objs→Prop}:∀ (is:List IOper) (ds:List Nat) (fr:List AV) (L:Objs) (ι:Key→Value) (a:Act) (w:World) (os:List Oper),(∀ i∈is,isRe i=false)→qg0 P ops os is=true→qcZ ds fr L→(∀ d∈ds,fr.getD d .any=.any)→qaa P E Y is fr L K→StF E B w L ι fr a→qg0 P ops os (qh8 is)=true∧∃ fr' L' ι',qcZ (ds++qcy is) fr' L'∧(∀ d∈ds++qcy is,fr'.getD d .any=.any)∧qaa P E Y (qh8 is) fr' L' K∧StF E B w L' ι' fr' a:=by
 intro is
 induction is with
 |nil=>intro ds fr L ι a w os _ hc hF hA h hs;exact ⟨hc,fr,L,ι,by simpa [qcy] using hF,by simpa [qcy] using hA,h,hs⟩
 |cons i is ih=>
  intro ds fr L ι a w os hre hc hF hA h hs
  have hre':∀ i∈is,isRe i=false:=fun j hj=>hre j (by simp [hj])
  simp only [qh8,qcy]
  by_cases hf:isFz i=true
  ·rw [if_pos hf,if_pos hf]
   simp only [qg0] at hc
   rw [if_pos hf] at hc
   rcases qru hf with ⟨x,rfl⟩|⟨x,rfl⟩|rfl
   ·simp only [qaa] at h
    split at h
    ·rename_i k y hk
     exact ih ds _ _ ι a w os hre' hc (fun d hd=>(hF d hd).thaw) (fun d hd=>by have:=hA d hd;rw [zD,zA];rw [zD] at this;cases hq:fr[d]? with|none=>rfl|some q=>rw [hq] at this;simp only [Option.getD_some] at this;subst this;rfl) h (qzN hs hk)
    ·exact ih ds _ _ ι a w os hre' hc hF hA h hs
   ·simp only [qaa] at h
    obtain ⟨h1,fr',L',ι',h2,h2a,h3⟩:=ih (ds++[x]) _ _ _ a w os hre' hc (fun d hd=>by
     rcases zI.1 hd with hd|hd
     ·exact (hF d hd).hole x
     ·simp only [zH] at hd
      subst hd
      exact Zam.hole_self d fr L) (fun d hd=>by
     by_cases hx:x=d
     ·subst hx
      by_cases hl:x < fr.length
      ·simp [zD,hl]
      ·simp [zD,ya,hl]
     ·have hd':d∈ds:=(zI.1 hd).resolve_right (fun q=>hx (zH.1 q).symm)
      have:=hA d hd'
      rw [zD,yp hx,zA]
      rw [zD] at this
      cases hq:fr[d]? with
      |none=>rfl
      |some q=>rw [hq] at this;simp only [Option.getD_some] at this;subst this;rfl) h (qrw hs x)
    exact ⟨h1,fr',L',ι',by simpa using h2,by simpa using h2a,h3⟩
   ·have:=hre _ (List.mem_cons_self ..)
    cases this
  ·rw [if_neg hf,if_neg hf]
   exact ⟨hc,fr,L,ι,by simpa using hF,by simpa using hA,h,hs⟩
theorem qqH {K:List AV→Objs→Prop}:∀ (is:List IOper) (ds:List Nat) (fr:List AV) (L:Objs) (ι:Key→Value) (a:Act) (w:World),(∀ i∈is,isRe i=false)→qcZ ds fr L→(∀ d∈ds,fr.getD d .any=.any)→qaa P E Y is fr L K→StF E B w L ι fr a→∃ fr' L' ι',qcZ (ds++qcy is) fr' L'∧(∀ d∈ds++qcy is,fr'.getD d .any=.any)∧qaa P E Y (qh8 is) fr' L' K∧StF E B w L' ι' fr' a:=by
 intro is
 induction is with
 |nil=>intro ds fr L ι a w _ hF hA h hs;exact ⟨fr,L,ι,by simpa [qcy] using hF,by simpa [qcy] using hA,h,hs⟩
 |cons i is ih=>
  intro ds fr L ι a w hre hF hA h hs
  have hre':∀ i∈is,isRe i=false:=fun j hj=>hre j (by simp [hj])
  simp only [qh8,qcy]
  by_cases hf:isFz i=true
  ·rw [if_pos hf,if_pos hf]
   rcases qru hf with ⟨x,rfl⟩|⟨x,rfl⟩|rfl
   ·simp only [qaa] at h
    split at h
    ·rename_i k y hk
     exact ih ds _ _ ι a w hre' (fun d hd=>(hF d hd).thaw) (fun d hd=>by have:=hA d hd;rw [zD,zA];rw [zD] at this;cases hq:fr[d]? with|none=>rfl|some q=>rw [hq] at this;simp only [Option.getD_some] at this;subst this;rfl) h (qzN hs hk)
    ·exact ih ds _ _ ι a w hre' hF hA h hs
   ·simp only [qaa] at h
    obtain ⟨fr',L',ι',h2,h2a,h3⟩:=ih (ds++[x]) _ _ _ a w hre' (fun d hd=>by
     rcases zI.1 hd with hd|hd
     ·exact (hF d hd).hole x
     ·simp only [zH] at hd
      subst hd
      exact Zam.hole_self d fr L) (fun d hd=>by
     by_cases hx:x=d
     ·subst hx
      by_cases hl:x < fr.length
      ·simp [zD,hl]
      ·simp [zD,ya,hl]
     ·have hd':d∈ds:=(zI.1 hd).resolve_right (fun q=>hx (zH.1 q).symm)
      have:=hA d hd'
      rw [zD,yp hx,zA]
      rw [zD] at this
      cases hq:fr[d]? with
      |none=>rfl
      |some q=>rw [hq] at this;simp only [Option.getD_some] at this;subst this;rfl) h (qrw hs x)
    exact ⟨fr',L',ι',by simpa using h2,by simpa using h2a,h3⟩
   ·have:=hre _ (List.mem_cons_self ..)
    cases this
  ·rw [if_neg hf,if_neg hf]
   exact ⟨fr,L,ι,by simpa using hF,by simpa using hA,h,hs⟩
theorem qAv {ops:Array Oper} {ps:List (Nat×IOper)} {K:List AV→Objs→Prop} {Q:Exit→Act→World→Prop} (hK:∀ fr L ι a w,K fr L→StF E B w L ι fr a→Q .normal a w) (hnd:(ps.map (·.1)).Nodup) (hcov:∀ i,i < ops.size→i∈ps.map (·.1))
  (hget:∀ p∈ps,∃ o,ops[p.1]?=some o∧qix P ops o p.2=true) (hfz:∀ p∈ps,isFz p.2=false) (hall:qrQ ops ops.size [] ps=true)
  (hedge:∀ A p C,ps=A++p :: C→∀ o,ops[p.1]?=some o→∀ e∈qiX o,e∈A.map (·.1)) (hnews:qaw (ps.map (·.2))=[]∨(∀ i∈ps.map (·.2),okBy (qaw (ps.map (·.2))) i=true)∧(qaw (ps.map (·.2))).Nodup) :
  ∀ (fuel:Nat) (listed:Array Bool) (fr:List AV) (L:Objs) (ι:Key→Value) (a:Act) (w:World),listed.size=ops.size→qpB ops listed→fuel=(ps.filter (unl listed)).length→qcZ (qaw ((ps.filter (unl listed)).map (·.2))) fr L→
   qaa P E Y ((ps.filter (unl listed)).map (·.2)) fr L K→StF E B w L ι fr a→wpAny P .any ops Q fuel listed a w:=by
 intro fuel
 induction fuel with
 |zero=>
  intro listed fr L ι a w hsz hcl hf hFr h hs
  have hnil:ps.filter (unl listed)=[]:=zz hf.symm
  rw [hnil] at h
  refine ⟨?_,hK fr L ι a w h hs⟩
  refine List.eq_nil_iff_forall_not_mem.2 fun i hi=>?_
  obtain ⟨o,ho,h2,_⟩:=mem_ready.1 hi
  obtain ⟨p,hp,rfl⟩:=zP.1 (hcov i (zF.1 ho).1)
  have:p∈ps.filter (unl listed):=yr.2 ⟨hp,by simp [unl,h2]⟩
  rw [hnil] at this
  cases this
 |succ fuel ih=>
  intro listed fr L ι a w hsz hcl hf hFr h hs
  have hready:Region.ready .any ops listed≠[]:=by
   intro hnil
   have hex:∃ A p C,ps=A++p :: C∧unl listed p=true∧∀ x∈A,unl listed x=false:=by
    cases hrem:ps.filter (unl listed) with
    |nil=>rw [hrem] at hf;simp at hf
    |cons p rest=>
     obtain ⟨A,C,e,h1,h2,_⟩:=List.filter_eq_cons_iff.1 hrem
     exact ⟨A,p,C,e,h2,fun x hx=>by simpa using h1 x hx⟩
   obtain ⟨A,p,C,e,hp,hA⟩:=hex
   obtain ⟨o,ho,_⟩:=hget p (by rw [e];simp)
   have hpu:listed.getD p.1 true=false:=by simpa [unl] using hp
   have:p.1∈Region.ready .any ops listed:=mem_ready.2 ⟨o,ho,hpu,fun e' he=>by
    obtain ⟨x,hx,rfl⟩:=zP.1 (hedge A p C e o ho e' he)
    have h1:=hA x hx
    simp only [unl,Bool.not_eq_false'] at h1
    obtain ⟨ox,hox,_⟩:=hget x (by rw [e];simp [hx])
    have hes:x.1 < listed.size:=by rw [hsz];exact (zF.1 hox).1
    simp only [Array.getD,hes,dite_true] at h1 ⊢
    exact h1⟩
   rw [hnil] at this
   cases this
  refine ⟨fun hn=>absurd hn hready,fun i hi=>?_⟩
  obtain ⟨o,ho,hun,hed⟩:=mem_ready.1 hi
  have hilt:=(zF.1 ho).1
  have hil:i < listed.size:=by rw [hsz];exact hilt
  obtain ⟨q,hq,hqi⟩:=zP.1 (hcov i hilt)
  obtain ⟨A,C,hsplit⟩:=List.append_of_mem hq
  obtain ⟨i',ii⟩:=q
  simp only at hqi
  subst hqi
  have hne:∀ p∈A++C,p.1≠i':=by
   intro p hp he
   have h1:((i' :: (A++C).map (·.1))).Nodup:=by
    have hp2:(ps.map (·.1)).Perm (i' :: (A++C).map (·.1)):=by
     rw [hsplit,zT,zT,zo]
     exact List.perm_middle
    exact hp2.nodup_iff.1 hnd
   rw [List.nodup_cons] at h1
   exact h1.1 (he ▸ List.mem_map_of_mem hp)
  have hunl:unl listed (i',ii)=true:=by simp [unl,hun]
  have hfil:ps.filter (unl listed)=A.filter (unl listed)++(i',ii) :: C.filter (unl listed):=by
   rw [hsplit,List.filter_append,List.filter_cons_of_pos hunl]
  have hgd:∀ j,j≠i'→(listed.setIfInBounds i' true).getD j true=listed.getD j true:=by
   intro j hj
   rw [zK,zK,zU (Ne.symm hj)]
  have hself:∀ b,(listed.setIfInBounds i' true).getD i' b=true:=by
   intro b
   rw [zK,Array.getElem?_setIfInBounds_self_of_lt hil]
   rfl
  have hfil':ps.filter (unl (listed.setIfInBounds i' true))=A.filter (unl listed)++C.filter (unl listed):=by
   rw [hsplit,List.filter_append,List.filter_cons_of_neg (by simp [unl,hself])]
   congr 1
   ·refine List.filter_congr fun p hp=>?_
    simp only [unl,hgd p.1 (hne p (by simp [hp]))]
   ·refine List.filter_congr fun p hp=>?_
    simp only [unl,hgd p.1 (hne p (by simp [hp]))]
  have hap:∀ x∈(A.filter (unl listed)).map (·.2),qjJ x ii=true:=by
   intro x hx
   obtain ⟨p,hp,rfl⟩:=zP.1 hx
   obtain ⟨hp1,hp2⟩:=yr.1 hp
   rcases qqL hall A (i',ii) C hsplit p (by simpa using hp1) with h'|h'
   ·exact h'
   ·have:=qlJ hcl _ i' p.1 o ho hed h'
    obtain ⟨ox,hox,_⟩:=hget p (by rw [hsplit];simp [hp1])
    have hpl:p.1 < listed.size:=by rw [hsz];exact (zF.1 hox).1
    simp only [unl,Array.getD,hpl,dite_true] at hp2 this
    rw [this] at hp2
    cases hp2
  have hsub:((ps.filter (unl listed)).map (·.2)).Sublist (ps.map (·.2)):=(List.filter_sublist (p:=unl listed) (l:=ps)).map (·.2)
  rw [hfil] at h hf hFr hsub
  simp only [zT,zo] at h hFr hsub
  have hcont:∀ {A2 C2:List IOper} {d:Nat},d∈qaw (A2++C2)→d∈qaw (A2++ii :: C2):=by
   intro A2 C2 d hd
   obtain ⟨q,hq,r,hr⟩:=newsOf_mem.1 hd
   refine newsOf_mem.2 ⟨q,?_,r,hr⟩
   simp only [zI,zL] at hq ⊢
   rcases hq with hq|hq
   ·exact .inl hq
   ·exact .inr (.inr hq)
  have hfront:=qp7 _ fr L hap (fun d hd=>hFr d (by
   obtain ⟨q,hq,r,hr⟩:=newsOf_mem.1 hd
   simp only [zH] at hq
   exact newsOf_mem.2 ⟨q,by simp [hq],r,hr⟩)) h
  have hii:ii∈ps.map (·.2):=by rw [hsplit];simp
  generalize hA2:(A.filter (unl listed)).map (·.2)=A2 at *
  generalize hC2:(C.filter (unl listed)).map (·.2)=C2 at *
  have hrest:qcZ (qaw (A2++C2)) fr L:=fun d hd=>hFr d (hcont hd)
  have hsubm:∀ d,d∈qaw (A2++C2)→d∈qaw (ps.map (·.2)):=fun d hd=>by
   obtain ⟨q,hq,r,hr⟩:=newsOf_mem.1 (hcont hd)
   exact newsOf_mem.2 ⟨q,hsub.subset hq,r,hr⟩
  have hfront:qaa P E Y (ii :: []) fr L (fun fr L=>qcZ (qaw (A2++C2)) fr L∧qaa P E Y (A2++C2) fr L K)∨(qaa P E Y (ii :: (A2++C2)) fr L K∧qaw (ps.map (·.2))=[]):=by
   rcases hnews with hn|⟨h1,h2⟩
   ·exact .inr ⟨hfront,hn⟩
   ·rcases qp6 (h1 ii hii) with hok|⟨d0,hd0,hn0⟩
    rotate_left
    ·exact .inl (qlZ hd0 (fun hm=>hn0 (hsubm d0 hm)) hrest hfront (fun fr L hF h=>⟨hF,h⟩))
    refine .inl (qjG hok ?_ hrest hfront (fun fr L hF h=>⟨hF,h⟩))
    intro d l hd hm
    have hnd:(qaw (A2++ii :: C2)).Nodup:=(hsub.filterMap _).nodup h2
    have hp:(qaw (A2++ii :: C2)).Perm (qaw (ii :: (A2++C2))):=List.Perm.filterMap _ List.perm_middle
    have hnd2:=hp.nodup_iff.1 hnd
    have e:qaw (ii :: (A2++C2))=d :: qaw (A2++C2):=by simp [qaw,hd]
    rw [e] at hnd2
    exact (List.nodup_cons.1 hnd2).1 hm
  have hemp:qaw (ps.map (·.2))=[]→qaw (A2++C2)=[]:=by
   intro hn
   refine List.eq_nil_iff_forall_not_mem.2 fun d hd=>?_
   have:=hsubm d hd
   rw [hn] at this
   cases this
  obtain ⟨o',ho',hchk⟩:=hget (i',ii) hq
  rw [ho] at ho'
  cases ho'
  have hfi:isFz ii=false:=hfz (i',ii) hq
  have cont:∀ fr' L' ι' a' w',qcZ (qaw (A2++C2)) fr' L'→qaa P E Y (A2++C2) fr' L' K→StF E B w' L' ι' fr' a'→wpAny P .any ops Q fuel (listed.setIfInBounds i' true) a' w':=by
   intro fr' L' ι' a' w' hF' h' hs'
   refine ih (listed.setIfInBounds i' true) fr' L' ι' a' w' (by simpa using hsz) ?_ ?_ ?_ ?_ hs'
   ·intro k q hq2 hk e he
    by_cases hki:k=i'
    ·subst hki
     rw [ho] at hq2
     cases hq2
     by_cases hei:e=k
     ·subst hei;exact hself _
     ·have:=hed e he
      rw [zK,zU (Ne.symm hei),← zK]
      exact this
    ·rw [zK,zU (Ne.symm hki),← zK] at hk
     have:=hcl k q hq2 hk e he
     by_cases hei:e=i'
     ·subst hei;exact hself _
     ·rw [zK,zU (Ne.symm hei),← zK]
      exact this
   ·rw [hfil']
    simp only [zC,zj] at hf ⊢
    omega
   ·rw [hfil',zT,hA2,hC2]
    exact hF'
   ·rw [hfil',zT,hA2,hC2]
    exact h'
  have hstep:if Region.wanted o (yielded ops a.tmps) then o.wp P a w (wpAny P .any ops Q fuel (listed.setIfInBounds i' true)) Q else wpAny P .any ops Q fuel (listed.setIfInBounds i' true) (a.put o.dst undef) w:=by
   rcases hfront with hfront|⟨hfront,hn⟩
   ·exact qgq hchk hfi hfront hs (fun fr' L' ι' a' w' h' hs'=>by
     simp only [qaa] at h'
     exact cont fr' L' ι' a' w' h'.1 h'.2 hs')
   ·exact qgq hchk hfi hfront hs (fun fr' L' ι' a' w' h' hs'=>cont fr' L' ι' a' w' (by rw [hemp hn];intro d hd;cases hd) h' hs')
  unfold wpOp
  rw [ho]
  simp only
  by_cases hw:Region.wanted o (yielded ops a.tmps)=true
  ·rw [if_pos hw] at hstep ⊢
   exact .inl hstep
  ·rw [if_neg hw] at hstep ⊢
   exact hstep
theorem qtl {ops:Array Oper} {n i:Nat} {ii:IOper}:∀ {l:List (Nat×IOper)},qsC ops n i ii l=true→∀ y∈l,qnj y.2 ii=true∨ancB ops n i y.1=true:=by
 intro l
 induction l with
 |nil=>intro _ y hy;cases hy
 |cons q l ih=>
  intro h y hy
  obtain ⟨j,jj⟩:=q
  simp only [qsC,zl,zY] at h
  simp only [zL] at hy
  rcases hy with rfl|hy
  ·exact h.1
  ·exact ih h.2 y hy
theorem qxL {ops:Array Oper} {n:Nat}:∀ {l seen:List (Nat×IOper)},allT ops n seen l=true→∀ (pre:List (Nat×IOper)) (x:Nat×IOper) (post:List (Nat×IOper)),l=pre++x :: post→∀ y∈seen++pre,qnj y.2 x.2=true∨ancB ops n x.1 y.1=true:=by
 intro l
 induction l with
 |nil=>intro seen _ pre x post h;cases pre<;>cases h
 |cons q l ih=>
  intro seen h pre x post e y hy
  obtain ⟨i,ii⟩:=q
  simp only [allT,zl] at h
  cases pre with
  |nil=>
   simp only [zq,List.cons.injEq] at e
   obtain ⟨rfl,rfl⟩:=e
   exact qtl h.1 y (by simpa using hy)
  |cons p pre=>
   simp only [zp,List.cons.injEq] at e
   obtain ⟨rfl,rfl⟩:=e
   exact ih h.2 pre x post rfl y (by simpa using hy)
theorem qAu {ops:Array Oper} {ps:List (Nat×IOper)} {K:List AV→Objs→Prop} {Q:Exit→Act→World→Prop} (hK:∀ fr L ι a w,K fr L→StF E B w L ι fr a→Q .normal a w) (hnd:(ps.map (·.1)).Nodup) (hcov:∀ i,i < ops.size→i∈ps.map (·.1))
  (hget:∀ p∈ps,∃ o,ops[p.1]?=some o∧qix P ops o p.2=true) (hfz:∀ p∈ps,isFz p.2=false) (hall:allT ops ops.size [] ps=true) {ts:List Nat} (hokT:∀ p∈ps,okT ts p.2=true)
  (hedge:∀ A p C,ps=A++p :: C→∀ o,ops[p.1]?=some o→∀ e∈qiX o,e∈A.map (·.1)) :
  ∀ (fuel:Nat) (listed:Array Bool) (fr:List AV) (L:Objs) (ι:Key→Value) (a:Act) (w:World),listed.size=ops.size→qpB ops listed→fuel=(ps.filter (unl listed)).length→InvA ts fr L→
   qaa P E Y ((ps.filter (unl listed)).map (·.2)) fr L K→StF E B w L ι fr a→wpAny P .any ops Q fuel listed a w:=by
 intro fuel
 induction fuel with
 |zero=>
  intro listed fr L ι a w hsz hcl hf hI h hs
  have hnil:ps.filter (unl listed)=[]:=zz hf.symm
  rw [hnil] at h
  refine ⟨?_,hK fr L ι a w h hs⟩
  refine List.eq_nil_iff_forall_not_mem.2 fun i hi=>?_
  obtain ⟨o,ho,h2,_⟩:=mem_ready.1 hi
  obtain ⟨p,hp,rfl⟩:=zP.1 (hcov i (zF.1 ho).1)
  have:p∈ps.filter (unl listed):=yr.2 ⟨hp,by simp [unl,h2]⟩
  rw [hnil] at this
  cases this
 |succ fuel ih=>
  intro listed fr L ι a w hsz hcl hf hI h hs
  have hready:Region.ready .any ops listed≠[]:=by
   intro hnil
   have hex:∃ A p C,ps=A++p :: C∧unl listed p=true∧∀ x∈A,unl listed x=false:=by
    cases hrem:ps.filter (unl listed) with
    |nil=>rw [hrem] at hf;simp at hf
    |cons p rest=>
     obtain ⟨A,C,e,h1,h2,_⟩:=List.filter_eq_cons_iff.1 hrem
     exact ⟨A,p,C,e,h2,fun x hx=>by simpa using h1 x hx⟩
   obtain ⟨A,p,C,e,hp,hA⟩:=hex
   obtain ⟨o,ho,_⟩:=hget p (by rw [e];simp)
   have hpu:listed.getD p.1 true=false:=by simpa [unl] using hp
   have:p.1∈Region.ready .any ops listed:=mem_ready.2 ⟨o,ho,hpu,fun e' he=>by
    obtain ⟨x,hx,rfl⟩:=zP.1 (hedge A p C e o ho e' he)
    have h1:=hA x hx
    simp only [unl,Bool.not_eq_false'] at h1
    obtain ⟨ox,hox,_⟩:=hget x (by rw [e];simp [hx])
    have hes:x.1 < listed.size:=by rw [hsz];exact (zF.1 hox).1
    simp only [Array.getD,hes,dite_true] at h1 ⊢
    exact h1⟩
   rw [hnil] at this
   cases this
  refine ⟨fun hn=>absurd hn hready,fun i hi=>?_⟩
  obtain ⟨o,ho,hun,hed⟩:=mem_ready.1 hi
  have hilt:=(zF.1 ho).1
  have hil:i < listed.size:=by rw [hsz];exact hilt
  obtain ⟨q,hq,hqi⟩:=zP.1 (hcov i hilt)
  obtain ⟨A,C,hsplit⟩:=List.append_of_mem hq
  obtain ⟨i',ii⟩:=q
  simp only at hqi
  subst hqi
  have hne:∀ p∈A++C,p.1≠i':=by
   intro p hp he
   have h1:((i' :: (A++C).map (·.1))).Nodup:=by
    have hp2:(ps.map (·.1)).Perm (i' :: (A++C).map (·.1)):=by
     rw [hsplit,zT,zT,zo]
     exact List.perm_middle
    exact hp2.nodup_iff.1 hnd
   rw [List.nodup_cons] at h1
   exact h1.1 (he ▸ List.mem_map_of_mem hp)
  have hunl:unl listed (i',ii)=true:=by simp [unl,hun]
  have hfil:ps.filter (unl listed)=A.filter (unl listed)++(i',ii) :: C.filter (unl listed):=by
   rw [hsplit,List.filter_append,List.filter_cons_of_pos hunl]
  have hgd:∀ j,j≠i'→(listed.setIfInBounds i' true).getD j true=listed.getD j true:=by
   intro j hj
   rw [zK,zK,zU (Ne.symm hj)]
  have hself:∀ b,(listed.setIfInBounds i' true).getD i' b=true:=by
   intro b
   rw [zK,Array.getElem?_setIfInBounds_self_of_lt hil]
   rfl
  have hfil':ps.filter (unl (listed.setIfInBounds i' true))=A.filter (unl listed)++C.filter (unl listed):=by
   rw [hsplit,List.filter_append,List.filter_cons_of_neg (by simp [unl,hself])]
   congr 1
   ·refine List.filter_congr fun p hp=>?_
    simp only [unl,hgd p.1 (hne p (by simp [hp]))]
   ·refine List.filter_congr fun p hp=>?_
    simp only [unl,hgd p.1 (hne p (by simp [hp]))]
  have hap:∀ x∈(A.filter (unl listed)).map (·.2),okT ts x=true∧qnj x ii=true:=by
   intro x hx
   obtain ⟨p,hp,rfl⟩:=zP.1 hx
   obtain ⟨hp1,hp2⟩:=yr.1 hp
   refine ⟨hokT p (by rw [hsplit];simp [hp1]),?_⟩
   rcases qxL hall A (i',ii) C hsplit p (by simpa using hp1) with h'|h'
   ·exact h'
   ·have:=qlJ hcl _ i' p.1 o ho hed h'
    obtain ⟨ox,hox,_⟩:=hget p (by rw [hsplit];simp [hp1])
    have hpl:p.1 < listed.size:=by rw [hsz];exact (zF.1 hox).1
    simp only [unl,Array.getD,hpl,dite_true] at hp2 this
    rw [this] at hp2
    cases hp2
  rw [hfil] at h hf
  simp only [zT,zo] at h
  have hfront:=qBC (hokT (i',ii) hq) hI (qtr (hokT (i',ii) hq) _ fr L hap hI h) (js:=[]) (K':=fun fr L=>InvA ts fr L∧qaa P E Y ((A.filter (unl listed)).map (·.2)++(C.filter (unl listed)).map (·.2)) fr L K) (fun fr L hI h=>⟨hI,h⟩)
  obtain ⟨o',ho',hchk⟩:=hget (i',ii) hq
  rw [ho] at ho'
  cases ho'
  have hfi:isFz ii=false:=hfz (i',ii) hq
  have cont:∀ fr' L' ι' a' w',InvA ts fr' L'→qaa P E Y ((A.filter (unl listed)).map (·.2)++(C.filter (unl listed)).map (·.2)) fr' L' K→StF E B w' L' ι' fr' a'→wpAny P .any ops Q fuel (listed.setIfInBounds i' true) a' w':=by
   intro fr' L' ι' a' w' hI' h' hs'
   refine ih (listed.setIfInBounds i' true) fr' L' ι' a' w' (by simpa using hsz) ?_ ?_ hI' ?_ hs'
   ·intro k q hq2 hk e he
    by_cases hki:k=i'
    ·subst hki
     rw [ho] at hq2
     cases hq2
     by_cases hei:e=k
     ·subst hei;exact hself _
     ·have:=hed e he
      rw [zK,zU (Ne.symm hei),← zK]
      exact this
    ·rw [zK,zU (Ne.symm hki),← zK] at hk
     have:=hcl k q hq2 hk e he
     by_cases hei:e=i'
     ·subst hei;exact hself _
     ·rw [zK,zU (Ne.symm hei),← zK]
      exact this
   ·rw [hfil']
    simp only [zC,zj] at hf ⊢
    omega
   ·rw [hfil',zT]
    exact h'
  have hstep:if Region.wanted o (yielded ops a.tmps) then o.wp P a w (wpAny P .any ops Q fuel (listed.setIfInBounds i' true)) Q else wpAny P .any ops Q fuel (listed.setIfInBounds i' true) (a.put o.dst undef) w:=
   qgq hchk hfi hfront hs (fun fr' L' ι' a' w' h' hs'=>cont fr' L' ι' a' w' h'.1 h'.2 hs')
  unfold wpOp
  rw [ho]
  simp only
  by_cases hw:Region.wanted o (yielded ops a.tmps)=true
  ·rw [if_pos hw] at hstep ⊢
   exact .inl hstep
  ·rw [if_neg hw] at hstep ⊢
   exact hstep
theorem qmA {α β:Type}:∀ {l:List α} {m:List β} {A:List (α×β)} {p:α×β} {C:List (α×β)},l.length=m.length→l.zip m=A++p :: C→A.map (·.1)=l.take A.length∧l[A.length]?=some p.1
 |[],m,A,p,C,_,h=>by cases A<;>simp at h
 |a :: l,[],A,p,C,hl,h=>by simp at hl
 |a :: l,b :: m,[],p,C,hl,h=>by
  simp only [List.zip_cons_cons,zq,List.cons.injEq] at h
  rw [← h.1]
  exact ⟨rfl,rfl⟩
 |a :: l,b :: m,x :: A,p,C,hl,h=>by
  simp only [List.zip_cons_cons,zp,List.cons.injEq] at h
  obtain ⟨h1,h2⟩:=qmA (by simpa using hl) h.2
  rw [← h.1]
  exact ⟨by simp [h1],by simpa using h2⟩
theorem qz9 (hm:P.follows .mixedOrders=true) (E:Envt) (B:Base) (Y:List PV) (ops:Array Oper) (pm:List Nat) (is:List IOper) (id:Nat) (fr:List AV) (L:Objs) (ι:Key→Value) (a:Act) (w:World) (K:List AV→Objs→Prop) (Q:Exit→Act→World→Prop)
  (hK:∀ fr L ι a w,K fr L→StF E B w L ι fr a→Q .normal a w) (hc:qxs P ops pm is=true) (hD:qrn ops pm is=true) (h:qaa P E Y is fr L K) (hs:StF E B w L ι fr a):(Code.region id ops true).wp P Q a w:=by
 simp only [qrn,zl,beq_iff_eq,decide_eq_true_eq,yv,z6] at hD
 obtain ⟨⟨⟨⟨⟨⟨hre,h0⟩,hnd⟩,hlen⟩,hlt⟩,hall⟩,hedge⟩:=hD
 obtain ⟨fr',L',ι',hF',_,h',hs'⟩:=qqH is [] fr L ι a w hre (fun d hd=>by cases hd) (fun d hd=>by cases hd) h hs
 rw [zq] at hF'
 simp only [qxs,zl,beq_iff_eq] at hc
 obtain ⟨hl2,hc⟩:=hc
 rw [yv] at hc
 generalize qcy is=hls at *
 generalize qh8 is=js at *
 have hm1:(pm.zip js).map (·.1)=pm:=by
  have:=List.unzip_zip hl2
  rw [← List.unzip_fst,this]
 have hm2:(pm.zip js).map (·.2)=js:=by
  have:=List.unzip_zip hl2
  rw [← List.unzip_snd,this]
 have hchk:∀ p∈pm.zip js,isFz p.2=false∧∃ o,ops[p.1]?=some o∧qix P ops o p.2=true:=by
  intro p hp
  have:=hc p hp
  rw [zl,z6] at this
  refine ⟨this.1,?_⟩
  have h2:=this.2
  split at h2
  ·rename_i o ho;exact ⟨o,ho,h2⟩
  ·cases h2
 have hcov:∀ i,i < ops.size→i∈pm:=by
  intro i hi
  simpa using hlt i (List.mem_range.2 hi)
 refine wp_region_any hm ?_
 have hs'':StF E B { w with drawn:=w.drawn+1 } L' ι' fr' a:=hs'.grown ⟨rfl,rfl,rfl,zM _,fun _ _ _=>rfl⟩
 have hrep:∀ j,j < ops.size→(Array.replicate ops.size false).getD j true=false:=by
  intro j hj
  simp [Array.getD,hj]
 have hfil:(pm.zip js).filter (unl (Array.replicate ops.size false))=pm.zip js:=by
  refine List.filter_eq_self.2 fun p hp=>?_
  obtain ⟨_,o,ho,_⟩:=hchk p hp
  simp only [unl,hrep p.1 (zF.1 ho).1,Bool.not_false]
 refine qAv (Y:=Y) (ps:=pm.zip js) hK (by rw [hm1];exact hnd) (fun i hi=>by rw [hm1];exact hcov i hi) (fun p hp=>(hchk p hp).2) (fun p hp=>(hchk p hp).1) hall (fun A p C e o ho q hq=>?_) ?_ ops.size (Array.replicate ops.size false) fr' L' ι' a _ (by simp) ?_ ?_ ?_ ?_ hs''
 ·obtain ⟨h1,h2⟩:=qmA hl2 e
  have hk:A.length < pm.length:=(zt.1 h2).1
  have:=hedge A.length (List.mem_range.2 hk)
  have hg:pm.getD A.length 0=p.1:=by simp [zD,h2]
  rw [hg,ho] at this
  simp only [yv] at this
  have:=this q hq
  rw [h1]
  simpa using this
 ·rw [hm2]
  simp only [qnS,zY,zl,List.isEmpty_iff,yv,decide_eq_true_eq] at h0
  rcases h0 with h0|h0
  ·exact .inl h0
  ·exact .inr h0.1
 ·intro k q hq hk
  by_cases hj:k < ops.size<;>simp [Array.getD,hj] at hk
 ·rw [hfil]
  have:=congrArg List.length hm1
  rw [List.length_map] at this
  omega
 ·rw [hfil,hm2]
  simp only [qnS,zY,zl,List.isEmpty_iff,yv,decide_eq_true_eq] at h0
  rcases h0 with h0|h0
  ·rw [h0];intro d hd;cases hd
  ·intro d hd
   exact hF' d (by simpa using h0.2 d hd)
 ·rw [hfil,hm2]
  exact h'
theorem qz8 (hm:P.follows .mixedOrders=true) (E:Envt) (B:Base) (Y:List PV) (ops:Array Oper) (is:List IOper) (id:Nat) (fr:List AV) (L:Objs) (ι:Key→Value) (a:Act) (w:World) (K:List AV→Objs→Prop) (Q:Exit→Act→World→Prop)
  (hK:∀ fr L ι a w,K fr L→StF E B w L ι fr a→Q .normal a w) (hc:qg0 P ops ops.toList is=true) (hD:qrm ops is=true) (h:qaa P E Y is fr L K) (hs:StF E B w L ι fr a):(Code.region id ops true).wp P Q a w:=by
 simp only [qrm,zl,beq_iff_eq,yv,z6] at hD
 obtain ⟨⟨⟨⟨⟨⟨hre,h0⟩,hok⟩,h1⟩,h2⟩,h3⟩,h4⟩:=hD
 obtain ⟨hc',fr',L',ι',hF',hA',h',hs'⟩:=qni is [] fr L ι a w ops.toList hre hc (fun d hd=>by cases hd) (fun d hd=>by cases hd) h hs
 rw [zq] at hF' hA'
 generalize qcy is=hls at *
 generalize qh8 is=js at *
 obtain ⟨g1,g2⟩:=qn4 hc' (fun i hi=>h1 i hi)
 have hI:InvA (qaw js) fr' L':=fun d hd=>by
  have hm:=h0 d hd
  have hm:d∈hls:=by simpa using hm
  exact ⟨qpi (hF' d hm).1 d,(hF' d hm).2,.inl (hA' d hm)⟩
 refine wp_region_any hm ?_
 have hs'':StF E B { w with drawn:=w.drawn+1 } L' ι' fr' a:=hs'.grown ⟨rfl,rfl,rfl,zM _,fun _ _ _=>rfl⟩
 have hl:(zJ js.length).length=js.length:=by simp
 have hz1:((zJ js.length).zip js).map (·.1)=zJ js.length:=by rw [← List.unzip_fst,List.unzip_zip hl]
 have hz2:((zJ js.length).zip js).map (·.2)=js:=by rw [← List.unzip_snd,List.unzip_zip hl]
 have zmem:∀ (p:Nat×IOper),p∈(zJ js.length).zip js→p.1 < js.length∧js[p.1]?=some p.2:=by
  intro p hp
  obtain ⟨k,hk⟩:=zW hp
  rw [List.getElem?_zip_eq_some] at hk
  obtain ⟨h1,h2⟩:=hk
  rw [yd (by have:=(zt.1 h2).1;exact this)] at h1
  cases h1
  exact ⟨(zt.1 h2).1,h2⟩
 have hrep:∀ j,j < ops.size→(Array.replicate ops.size false).getD j true=false:=by
  intro j hj
  simp [Array.getD,hj]
 have hfil:((zJ js.length).zip js).filter (unl (Array.replicate ops.size false))=(zJ js.length).zip js:=by
  refine List.filter_eq_self.2 fun p hp=>?_
  simp only [unl,hrep p.1 (by rw [← h2];exact (zmem p hp).1),Bool.not_false]
 refine qAu (Y:=Y) (ps:=(zJ js.length).zip js) hK (by rw [hz1];exact List.nodup_range) (fun i hi=>by rw [hz1,List.mem_range,h2];exact hi) (fun p hp=>?_) (fun p hp=>h1 _ (zy (zmem p hp).2)) h3 (ts:=qaw js) (fun p hp=>hok _ (zy (zmem p hp).2)) (fun A p C e o ho q hq=>?_) ops.size (Array.replicate ops.size false) fr' L' ι' a _ (by simp) ?_ ?_ hI ?_ hs''
 ·obtain ⟨o,ho,hh⟩:=g2 p.1 p.2 (zmem p hp).2
  exact ⟨o,by simpa using ho,hh⟩
 ·obtain ⟨k1,k2⟩:=qmA hl e
  have hAl:A.length < js.length:=by
   have:=(zt.1 k2).1
   simpa using this
  rw [yd hAl] at k2
  have hp1:=Option.some.inj k2
  have hlt:p.1 < ops.size:=(zF.1 ho).1
  have:=h4 p.1 (by simpa using hlt)
  rw [ho] at this
  simp only [yv,decide_eq_true_eq] at this
  have hqlt:=this q hq
  rw [k1,List.mem_take_iff_getElem]
  refine ⟨q,by simp;omega,by simp⟩
 ·intro k q hq hk
  by_cases hj:k < ops.size<;>simp [Array.getD,hj] at hk
 ·rw [hfil];simp [h2]
 ·rw [hfil,hz2]
  exact h'
theorem qyi (hm:P.follows .mixedOrders=true):qv6 P qp5:=by
 refine ⟨?_,fun E B Y ops pm is id fr L ι a w K Q hK hc hD h hs=>qz9 hm E B Y ops pm is id fr L ι a w K Q hK hc hD h hs⟩
 intro E B Y ops is id fr L ι a w K Q hK hc hD h hs
 simp only [qp5,zY] at hD
 rcases hD with hD|hD
 rotate_left
 ·exact qz8 hm E B Y ops is id fr L ι a w K Q hK hc hD h hs
 simp only [quS,zl,beq_iff_eq,yv,z6] at hD
 obtain ⟨⟨⟨⟨⟨hre,h0⟩,h1⟩,h2⟩,h3⟩,h4⟩:=hD
 obtain ⟨hc',fr',L',ι',hF',_,h',hs'⟩:=qni is [] fr L ι a w ops.toList hre hc (fun d hd=>by cases hd) (fun d hd=>by cases hd) h hs
 rw [zq] at hF'
 generalize qcy is=hls at *
 generalize qh8 is=js at *
 obtain ⟨g1,g2⟩:=qn4 hc' (fun i hi=>h1 i hi)
 refine wp_region_any hm ?_
 have hs'':StF E B { w with drawn:=w.drawn+1 } L' ι' fr' a:=hs'.grown ⟨rfl,rfl,rfl,zM _,fun _ _ _=>rfl⟩
 have hrep:∀ j,(Array.replicate ops.size false).getD j true=false↔j < ops.size:=by
  intro j
  by_cases hj:j < ops.size<;>simp [Array.getD,hj]
 have hfil:((zJ js.length).zip js).filter (unl (Array.replicate ops.size false))=(zJ js.length).zip js:=by
  refine List.filter_eq_self.2 fun p hp=>?_
  obtain ⟨k,hk⟩:=zW hp
  rw [List.getElem?_zip_eq_some] at hk
  have hkl:=(zt.1 hk.2).1
  rw [yd hkl] at hk
  cases hk.1
  simp only [unl,(hrep p.1).2 (by rw [← h2];exact hkl),Bool.not_false]
 refine qBM (Y:=Y) (js:=js) hK h2 (fun k i hk=>?_) (fun i hi=>h1 i hi) h3 (fun i o ho e he=>?_) ?_ ops.size (Array.replicate ops.size false) fr' L' ι' a _ (by simp) ?_ ?_ ?_ ?_ hs''
 ·obtain ⟨o,ho,hh⟩:=g2 k i hk
  exact ⟨o,by simpa using ho,hh⟩
 ·have hlt:i < ops.size:=(zF.1 ho).1
  have:=h4 i (by simpa using hlt)
  rw [ho] at this
  simp only [yv,decide_eq_true_eq] at this
  exact this e he
 ·simp only [qnS,zY,zl,List.isEmpty_iff,yv,decide_eq_true_eq] at h0
  rcases h0 with h0|h0
  ·exact .inl h0
  ·exact .inr h0.1
 ·intro k q hq hk
  by_cases hj:k < ops.size<;>simp [Array.getD,hj] at hk
 ·rw [hfil];simp [h2]
 ·rw [hfil]
  have e:((zJ js.length).zip js).map (·.2)=js:=by
   rw [← List.unzip_snd,List.unzip_zip (by simp)]
  rw [e]
  simp only [qnS,zY,zl,List.isEmpty_iff,yv,decide_eq_true_eq] at h0
  rcases h0 with h0|h0
  ·rw [h0];intro d hd;cases hd
  ·exact fun d hd=>hF' d (by simpa using h0.2 d hd)
 ·rw [hfil]
  have:((zJ js.length).zip js).map (·.2)=js:=by
   rw [← List.unzip_snd,List.unzip_zip (by simp)]
  rw [this]
  exact h'
end
def chkF (P:Program) (fn:Func) (ic:IC) (rs:List IRes) (n:Nat):Bool:=
 match fn.body with
 |some c=>chkC P qp5 ic c && qgb P fn.results.toList rs && fn.ntmps == n
 |none=>false
section
variable {P:Program} {E:Envt}
theorem qag (hm:P.follows .mixedOrders=true) {f:FuncId} {fn:Func} {ic:IC} {rs:List IRes} {args:List PV} {n:Nat} {φ:PV→Prop} (hf:P.funcs[f]?=some fn) (hc:chkF P fn ic rs n=true)
  (h:awp P E ic (args.map .p++zR (n - args.length) .any) [] (retQ rs fun x _=>φ x)):PCall P E f args φ:=by
 unfold chkF at hc
 split at hc
 ·rename_i c hb
  simp only [zl,beq_iff_eq] at hc
  exact qp0 (qyi hm) hf hb hc.2 hc.1.1 hc.1.2 h
 ·cases hc
def qq3 (P:Program) (E:Envt) (y:IC) (Q:AQ):AQ:=qob (fun fr L=>awp P E y fr L Q) Q
def BrC (P:Program) (E:Envt) (b:Bool) (x y:IC) (fr:List AV) (L:Objs) (Q:AQ):Prop:=BrQ b (awp P E x fr L Q) (awp P E y fr L Q)
def qAw (P:Program) (E:Envt) (x:IC) (fr:List AV) (L:Objs) (Q:AQ):Prop:=awp P E (.loop x) fr L Q
def DrgC (P:Program) (E:Envt) (ops:List IOper) (fr:List AV) (L:Objs) (K:List AV→Objs→Prop):Prop:=∃ X,qaa P E X ops fr L K
def qim (P:Program) (E:Envt) (X:List PV) (is:List IOper) (K:List AV→Objs→Prop):List AV→Objs→Prop:=fun fr L=>qaa P E X is fr L K
theorem ReOk.refl {fr:List AV} {L:Objs}:ReOk E fr L fr L:=fun B w ι a hs=>⟨ι,hs⟩
theorem ReOk.trans {fr fr1 fr2:List AV} {L L1 L2:Objs} (h:ReOk E fr L fr1 L1) (k:ReOk E fr1 L1 fr2 L2):ReOk E fr L fr2 L2:=fun B w ι a hs=>by
 obtain ⟨ι1,hs1⟩:=h B w ι a hs
 exact k B w ι1 a hs1
theorem qbN {fr fr':List AV} {L L':Objs} (h1:Zb fr fr') (h2:Zd L' L):ReOk E fr L fr' L':=fun B w ι a hs=>⟨ι,hs.weak h1 h2⟩
def EndR (E:Envt) (I:Nat→List AV→Objs→Prop) (n:Nat) (fr:List AV) (L:Objs):Prop:=∃ m fr' L',m < n∧ReOk E fr L fr' L'∧I m fr' L'
def qpP (E:Envt) (I:Nat→List AV→Objs→Prop) (n:Nat) (Q:AQ):AQ:=qob (EndR E I n) Q
def CutC (P:Program) (E:Envt) (x:IC) (fr:List AV) (L:Objs) (Q:AQ):Prop:=∃ fr' L',ReOk E fr L fr' L'∧awp P E x fr' L' Q
def MidK (E:Envt) (M:List AV→Objs→Prop) (fr:List AV) (L:Objs):Prop:=∃ fr' L',ReOk E fr L fr' L'∧M fr' L'
def midQ (E:Envt) (M:List AV→Objs→Prop) (Q:AQ):AQ:=qob (MidK E M) Q
variable {fr:List AV} {L:Objs} {Q:AQ} {X:List PV} {K:List AV→Objs→Prop}
theorem qxD:awp P E .skip fr L Q=Q .normal fr L:=rfl
theorem qxF {i:Nat}:awp P E (.exit i) fr L Q=Q (.exit i) fr L:=rfl
theorem qAn:awp P E .ret fr L Q=Q .ret fr L:=rfl
theorem qAm {x y:IC}:awp P E (.seq x y) fr L Q=awp P E x fr L (qq3 P E y Q):=rfl
theorem qvL {i:Nat} {x:IC}:awp P E (.block i x) fr L Q=awp P E x fr L (qlX i Q):=rfl
theorem qAo {ops:List IOper}:awp P E (.reg ops) fr L Q=qaa P E [] ops fr L (Q .normal):=rfl
theorem qAq {ops:List IOper}:awp P E (.drg ops) fr L Q=DrgC P E ops fr L (Q .normal):=rfl
theorem qAp {pm:List Nat} {ops:List IOper}:awp P E (.drp pm ops) fr L Q=DrgC P E ops fr L (Q .normal):=rfl
theorem qxE {x:IC}:awp P E (.loop x) fr L Q=qAw P E x fr L Q:=rfl
theorem qxG {c:Opd} {x y:IC}:awp P E (.cond c x y) fr L Q=(match rd fr c with|.p (.bool b)=>BrC P E b x y fr L Q|_=>False):=rfl
theorem qys {y:IC}:qq3 P E y Q .normal fr L=awp P E y fr L Q:=rfl
theorem qyr {y:IC}:qq3 P E y Q .ret fr L=Q .ret fr L:=rfl
theorem qyt {y:IC} {i:Nat}:qq3 P E y Q (.exit i) fr L=Q (.exit i) fr L:=rfl
theorem qxy {i:Nat}:qlX i Q .normal fr L=Q .normal fr L:=rfl
theorem qxx {i:Nat}:qlX i Q .ret fr L=Q .ret fr L:=rfl
theorem qxz {i j:Nat}:qlX i Q (.exit j) fr L=if j=i then Q .normal fr L else Q (.exit j) fr L:=rfl
theorem qwx {I:Nat→List AV→Objs→Prop} {n:Nat}:qpP E I n Q .normal fr L=EndR E I n fr L:=rfl
theorem qAr {x:IC}:awp P E (.cut x) fr L Q=CutC P E x fr L Q:=rfl
theorem qBl {M:List AV→Objs→Prop}:midQ E M Q .normal fr L=MidK E M fr L:=rfl
theorem qBk {M:List AV→Objs→Prop}:midQ E M Q .ret fr L=Q .ret fr L:=rfl
theorem qBm {M:List AV→Objs→Prop} {i:Nat}:midQ E M Q (.exit i) fr L=Q (.exit i) fr L:=rfl
theorem qww {I:Nat→List AV→Objs→Prop} {n:Nat}:qpP E I n Q .ret fr L=Q .ret fr L:=rfl
theorem qwy {I:Nat→List AV→Objs→Prop} {n i:Nat}:qpP E I n Q (.exit i) fr L=Q (.exit i) fr L:=rfl
theorem qAU {rs:List IRes} {φ:PV→Objs→Prop}:retQ rs φ .ret fr L=RetK (Zbd fr L rs) φ L:=rfl
theorem qAV {rs:List IRes} {φ:PV→Objs→Prop}:retQ rs φ .normal fr L=RetK (Zbd fr L rs) φ L:=rfl
theorem qx0 {x y:IC}:BrC P E true x y fr L Q=awp P E x fr L Q:=by simp [BrC,BrQ]
theorem qv8 {x y:IC}:BrC P E false x y fr L Q=awp P E y fr L Q:=by simp [BrC,BrQ]
theorem br {b:Bool} {x y:IC} (h1:b=true→awp P E x fr L Q) (h2:b=false→awp P E y fr L Q):BrC P E b x y fr L Q:=⟨h1,h2⟩
theorem qad {x:IC} (I:Nat→List AV→Objs→Prop) (n:Nat) (fr':List AV) (L':Objs) (h1:Zb fr fr') (h2:Zd L' L) (h0:I n fr' L') (hr:∀ n fr L,I n fr L→awp P E x fr L (qpP E I n Q)):qAw P E x fr L Q:=⟨I,⟨n,fr',L',qbN h1 h2,h0⟩,hr⟩
theorem qoP {x:IC} (I:Nat→List AV→Objs→Prop) (n:Nat) (fr':List AV) (L':Objs) (h1:ReOk E fr L fr' L') (h0:I n fr' L') (hr:∀ n fr L,I n fr L→awp P E x fr L (qpP E I n Q)):qAw P E x fr L Q:=⟨I,⟨n,fr',L',h1,h0⟩,hr⟩
theorem qkh {I:Nat→List AV→Objs→Prop} {n:Nat} (m:Nat) (fr':List AV) (L':Objs) (hm:m < n) (h1:ReOk E fr L fr' L') (h0:I m fr' L'):EndR E I n fr L:=⟨m,fr',L',hm,h1,h0⟩
theorem qbh {x:IC} (fr':List AV) (L':Objs) (h1:ReOk E fr L fr' L') (h:awp P E x fr' L' Q):CutC P E x fr L Q:=⟨fr',L',h1,h⟩
theorem qac {I:Nat→List AV→Objs→Prop} {n:Nat} (m:Nat) (fr':List AV) (L':Objs) (hm:m < n) (h1:Zb fr fr') (h2:Zd L' L) (h0:I m fr' L'):EndR E I n fr L:=⟨m,fr',L',hm,qbN h1 h2,h0⟩
theorem qkH {M:List AV→Objs→Prop} (fr':List AV) (L':Objs) (h1:Zb fr fr') (h2:Zd L' L) (h0:M fr' L'):MidK E M fr L:=⟨fr',L',qbN h1 h2,h0⟩
theorem qnU (k:Key) (cs:List PV):(cs.map AV.p).map (fun x=>AV.kill k x)=cs.map AV.p:=by
 rw [ye];exact zX fun x _=>rfl
theorem qts (k:Key) (y:PV) (cs:List PV):(cs.map AV.p).map (fun x=>AV.thaw k y x)=cs.map AV.p:=by
 rw [ye];exact zX fun x _=>rfl
theorem qaq {x:IC} (h2:Zd L L) (h:awp P E x fr L Q):CutC P E x fr L Q:=⟨fr,L,ReOk.refl,h⟩
theorem qkC {K':List AV→Objs→Prop} (hk:∀ fr L,K fr L→K' fr L):∀ (is:List IOper) (fr:List AV) (L:Objs),qaa P E X is fr L K→qaa P E X is fr L K':=by
 intro is
 induction is with
 |nil=>intro fr L h;exact hk fr L h
 |cons i is ih=>
  obtain ⟨d,op,gd⟩:=i
  intro fr L h
  have hcall:∀ f as d fr,qdN P E f as L d fr (fun fr L=>qaa P E X is fr L K)→qdN P E f as L d fr (fun fr L=>qaa P E X is fr L K'):=by
   intro f as d fr h
   rcases h with ⟨φ,h1,h2⟩|⟨bk,post,h1,h2,h3,h4⟩|⟨i0,h⟩
   ·exact .inl ⟨φ,h1,fun x hx=>ih _ _ (h2 x hx)⟩
   ·refine .inr (.inl ⟨bk,post,h1,h2,h3,fun r os' hp=>?_⟩)
    have:=h4 r os' hp
    cases r with
    |p x=>exact ih _ _ this
    |fr es e z=>cases d with
     |none=>exact ih _ _ this
     |some d=>exact ih _ _ this
    |ft es e z ps=>cases d with
     |none=>exact ih _ _ this
     |some d=>exact ih _ _ this
   ·refine .inr (.inr ⟨i0,fun w X' ι vs a1 a2 a3 a4 a5=>(h w X' ι vs a1 a2 a3 a4 a5).mono ?_⟩)
    rintro e w' ⟨v,r,L',ι',b1,b2,b3⟩
    exact ⟨v,r,L',ι',b1,ih _ _ b2,b3⟩
  cases gd with
  |none=>
   cases op with
   |call f args=>exact ⟨h.1,hcall _ _ _ _ h.2⟩
   |pcall n f args=>exact ⟨h.1,ih _ _ h.2⟩
   |dcall b f args=>
    obtain ⟨h0,k,t,cs,post,h1,h2,h3,h4,h5,h6⟩:=h
    exact ⟨h0,k,t,cs,post,h1,h2,h3,h4,h5,fun x cs' hp=>ih _ _ (h6 x cs' hp)⟩
   |callv g args=>
    simp only [qaa] at h ⊢
    split at h
    ·exact ⟨h.1,h.2.1,h.2.2.1,h.2.2.2.1,hcall _ _ _ _ h.2.2.2.2⟩
    ·exact h.elim
   |pcv n g args=>
    simp only [qaa] at h ⊢
    split at h
    ·exact ⟨h.1,ih _ _ h.2⟩
    ·exact h.elim
   |fz x=>
    simp only [qaa] at h ⊢
    split at h
    ·exact ih _ _ h
    ·exact ih _ _ h
   |hole x=>exact ih _ _ h
   |fcl n f args e z=>
    simp only [qaa] at h ⊢
    split at h
    ·exact ⟨h.1,ih _ _ h.2⟩
    ·exact h.elim
   |re=>obtain ⟨fr',L',h1,h2⟩:=h;exact ⟨fr',L',h1,ih _ _ h2⟩
   |nxt x=>
    simp only [qaa] at h ⊢
    split at h
    ·exact ⟨h.1,fun e=>ih _ _ (h.2.1 e),fun i p e=>ih _ _ (h.2.2 i p e)⟩
    ·exact h.elim
   |isn x=>
    simp only [qaa] at h ⊢
    split at h
    ·exact ⟨h.1,fun b hb=>ih _ _ (h.2 b hb)⟩
    ·exact h.elim
   |_=>
    simp only [qaa] at h ⊢
    split at h
    ·exact ⟨h.1,ih _ _ h.2⟩
    ·exact h.elim
  |some q=>
   obtain ⟨s,want⟩:=q
   simp only [qaa] at h ⊢
   split at h
   ·cases op with
    |call f args=>
     simp only at h ⊢
     rcases h with ⟨h1,⟨x,h2,h3⟩|⟨h2,h3⟩⟩
     ·exact ⟨h1,.inl ⟨x,h2,ih _ _ h3⟩⟩
     ·exact ⟨h1,.inr ⟨fun e=>hcall _ _ _ _ (h2 e),fun e=>ih _ _ (h3 e)⟩⟩
    |pcall n f args=>simp only at h ⊢;exact ⟨h.1,ih _ _ h.2⟩
    |callv g args=>
     simp only at h ⊢
     split at h
     ·rcases h with ⟨h0,h1,⟨x,h2,h3⟩|⟨h2,h3⟩⟩
      ·exact ⟨h0,h1,.inl ⟨x,h2,ih _ _ h3⟩⟩
      ·exact ⟨h0,h1,.inr ⟨fun e=>hcall _ _ _ _ (h2 e),fun e=>ih _ _ (h3 e)⟩⟩
     ·exact ⟨h.1,ih _ _ h.2⟩
    |pcv n g args=>
     simp only at h ⊢
     split at h
     ·exact ⟨h.1,ih _ _ h.2⟩
     ·exact h.elim
    |_=>
     simp only at h ⊢
     split at h
     ·exact ⟨h.1,ih _ _ h.2⟩
     ·exact ⟨h.1,h.2.1,ih _ _ h.2.2⟩
   ·exact h.elim
theorem qs4:∀ (x:IC) (fr:List AV) (L:Objs) (Q Q':AQ),(∀ e fr L,Q e fr L→Q' e fr L)→awp P E x fr L Q→awp P E x fr L Q':=by
 intro x
 induction x with
 |skip=>intro fr L Q Q' hq h;exact hq _ _ _ h
 |reg ops=>intro fr L Q Q' hq h;exact qkC (hq .normal) ops fr L h
 |drg ops=>intro fr L Q Q' hq h;obtain ⟨Y,h⟩:=h;exact ⟨Y,qkC (hq .normal) ops fr L h⟩
 |drp pm ops=>intro fr L Q Q' hq h;obtain ⟨Y,h⟩:=h;exact ⟨Y,qkC (hq .normal) ops fr L h⟩
 |seq x y ihx ihy=>
  intro fr L Q Q' hq h
  refine ihx fr L _ _ (fun e fr L h=>?_) h
  cases e<;>first|exact ihy fr L Q Q' hq h|exact hq _ _ _ h
 |cond c x y ihx ihy=>
  intro fr L Q Q' hq h
  simp only [awp] at h ⊢
  split at h
  ·exact ⟨fun e=>ihx fr L Q Q' hq (h.1 e),fun e=>ihy fr L Q Q' hq (h.2 e)⟩
  ·exact h.elim
 |block i x ih=>
  intro fr L Q Q' hq h
  refine ih fr L _ _ (fun e fr L h=>?_) h
  cases e with
  |exit j=>
   simp only [qlX] at h ⊢
   split at h
   ·rename_i hj;rw [if_pos hj];exact hq _ _ _ h
   ·rename_i hj;rw [if_neg hj];exact hq _ _ _ h
  |_=>exact hq _ _ _ h
 |loop x ih=>
  intro fr L Q Q' hq h
  obtain ⟨I,h0,hr⟩:=h
  refine ⟨I,h0,fun n fr L hi=>ih fr L _ _ (fun e fr L h=>?_) (hr n fr L hi)⟩
  cases e with
  |normal=>exact h
  |_=>exact hq _ _ _ h
 |exit i=>intro fr L Q Q' hq h;exact hq _ _ _ h
 |ret=>intro fr L Q Q' hq h;exact hq _ _ _ h
 |dead=>intro fr L Q Q' hq h;exact h.elim
 |cut x ih=>intro fr L Q Q' hq h;obtain ⟨fr',L',h1,h⟩:=h;exact ⟨fr',L',h1,ih fr' L' Q Q' hq h⟩
theorem qpa {b:Bool} {x y r:IC} (M:List AV→Objs→Prop) (h1:b=true→awp P E x fr L (midQ E M Q)) (h2:b=false→awp P E y fr L (midQ E M Q)) (hM:∀ fr L,M fr L→awp P E r fr L Q):BrC P E b x y fr L (qq3 P E (.cut r) Q):=by
 have hq:∀ e fr L,midQ E M Q e fr L→qq3 P E (.cut r) Q e fr L:=by
  intro e fr L h
  cases e with
  |normal=>obtain ⟨fr',L',a1,a3⟩:=h;exact ⟨fr',L',a1,hM fr' L' a3⟩
  |_=>exact h
 exact ⟨fun e=>qs4 x fr L _ _ hq (h1 e),fun e=>qs4 y fr L _ _ hq (h2 e)⟩
theorem drg0 {ops:List IOper} (h:qaa P E [] ops fr L K):DrgC P E ops fr L K:=⟨_,h⟩
theorem drg1 {ops:List IOper} {x1:PV} (h:qaa P E [x1] ops fr L K):DrgC P E ops fr L K:=⟨_,h⟩
theorem drg2 {ops:List IOper} {x1 x2:PV} (h:qaa P E [x1,x2] ops fr L K):DrgC P E ops fr L K:=⟨_,h⟩
def isOp:IOp→Bool
 |.call ..|.pcall ..|.dcall ..|.callv ..|.pcv ..|.fz ..|.hole ..|.isn ..|.re|.nxt ..|.fcl ..=>false
 |_=>true
def OpsK (P:Program) (E:Envt) (X:List PV) (q:Option (Prop×List AV×Objs)) (is:List IOper) (K:List AV→Objs→Prop):Prop:=
 match q with
 |some (c,fr',L')=>c∧qaa P E X is fr' L' K
 |none=>False
def GdK (P:Program) (E:Envt) (X:List PV) (pl:Bool) (g:Option Bool) (q:Option (Prop×AV)) (d:Option Nat) (is:List IOper) (fr:List AV) (L:Objs) (K:List AV→Objs→Prop):Prop:=
 match g with
 |some c0=>match q with
  |some (c,r)=>(c0=true→c)∧qaa P E X is (Zg fr d (.g c0 r)) L K
  |none=>pl=true∧c0=false∧qaa P E X is (Zg fr d (.g c0 .any)) L K
 |none=>False
theorem qvY {c:Prop} {fr':List AV} {L':Objs} {is:List IOper}:OpsK P E X (some (c,fr',L')) is K=(c∧qaa P E X is fr' L' K):=rfl
theorem qxV {c0:Bool} {d:Option Nat} {is:List IOper}:GdK P E X true (some c0) none d is fr L K=(c0=false∧qaa P E X is (Zg fr d (.g c0 .any)) L K):=by simp [GdK]
theorem qxU {pl c0:Bool} {c:Prop} {r:AV} {d:Option Nat} {is:List IOper}:GdK P E X pl (some c0) (some (c,r)) d is fr L K=((c0=true→c)∧qaa P E X is (Zg fr d (.g c0 r)) L K):=rfl
theorem qzy:qaa P E X [] fr L K=K fr L:=rfl
theorem qap {d:Option Nat} {op:IOp} {is:List IOper} (h:isOp op=true):qaa P E X (⟨d,op,none⟩ :: is) fr L K=OpsK P E X (Ze d fr L op) is K:=by
 cases op<;>first|rfl|(simp [isOp] at h)
theorem qa3 {d:Option Nat} {op:IOp} {is:List IOper} {s:Nat} {want:Bool} (h:isOp op=true):qaa P E X (⟨d,op,some (s,want)⟩ :: is) fr L K=GdK P E X (qdO op) (Zh fr s want) (Zf fr L op) d is fr L K:=by
 cases op<;>first|rfl|(simp [isOp] at h)
def qcA (P:Program) (E:Envt) (X:List PV) (q:Option (Prop×AV)) (d:Option Nat) (is:List IOper) (fr:List AV) (L:Objs) (K:List AV→Objs→Prop):Prop:=
 match q with
 |some (c,r)=>c∧qaa P E X is (Zg fr d r) L K
 |none=>False
theorem qtG {c:Prop} {r:AV} {d:Option Nat} {is:List IOper}:qcA P E X (some (c,r)) d is fr L K=(c∧qaa P E X is (Zg fr d r) L K):=rfl
theorem qam {op:IOp} {d:Option Nat} {is:List IOper} (h:Ze d fr L op=(Zf fr L op).map (fun q=>(q.1,Zg fr d q.2,L))):OpsK P E X (Ze d fr L op) is K=qcA P E X (Zf fr L op) d is fr L K:=by
 rw [h]
 cases Zf fr L op<;>rfl
theorem qCj {d:Option Nat} {is:List IOper} {_x}:qaa P E X (⟨d,.mov _x,none⟩ :: is) fr L K=qcA P E X (Zf fr L (.mov _x)) d is fr L K:=by rw [qap rfl];exact qam rfl
theorem qCZ {d:Option Nat} {is:List IOper} {s:Nat} {want:Bool} {_x}:qaa P E X (⟨d,.mov _x,some (s,want)⟩ :: is) fr L K=GdK P E X true (Zh fr s want) (Zf fr L (.mov _x)) d is fr L K:=qa3 rfl
theorem qBa {d:Option Nat} {is:List IOper} {_c} {_a} {_b}:qaa P E X (⟨d,.pick _c _a _b,none⟩ :: is) fr L K=qcA P E X (Zf fr L (.pick _c _a _b)) d is fr L K:=by rw [qap rfl];exact qam rfl
theorem qBw {d:Option Nat} {is:List IOper} {s:Nat} {want:Bool} {_c} {_a} {_b}:qaa P E X (⟨d,.pick _c _a _b,some (s,want)⟩ :: is) fr L K=GdK P E X true (Zh fr s want) (Zf fr L (.pick _c _a _b)) d is fr L K:=qa3 rfl
theorem qCG {d:Option Nat} {is:List IOper} {_b} {_x} {_y}:qaa P E X (⟨d,.bin _b _x _y,none⟩ :: is) fr L K=qcA P E X (Zf fr L (.bin _b _x _y)) d is fr L K:=by rw [qap rfl];exact qam rfl
theorem qDg {d:Option Nat} {is:List IOper} {s:Nat} {want:Bool} {_b} {_x} {_y}:qaa P E X (⟨d,.bin _b _x _y,some (s,want)⟩ :: is) fr L K=GdK P E X true (Zh fr s want) (Zf fr L (.bin _b _x _y)) d is fr L K:=qa3 rfl
theorem qCE {d:Option Nat} {is:List IOper} {_b} {_x} {_y}:qaa P E X (⟨d,.bnb _b _x _y,none⟩ :: is) fr L K=qcA P E X (Zf fr L (.bnb _b _x _y)) d is fr L K:=by rw [qap rfl];exact qam rfl
theorem qDe {d:Option Nat} {is:List IOper} {s:Nat} {want:Bool} {_b} {_x} {_y}:qaa P E X (⟨d,.bnb _b _x _y,some (s,want)⟩ :: is) fr L K=GdK P E X true (Zh fr s want) (Zf fr L (.bnb _b _x _y)) d is fr L K:=qa3 rfl
theorem qCw {d:Option Nat} {is:List IOper} {_n} {_k} {_x} {_y}:qaa P E X (⟨d,.eqa _n _k _x _y,none⟩ :: is) fr L K=qcA P E X (Zf fr L (.eqa _n _k _x _y)) d is fr L K:=by rw [qap rfl];exact qam rfl
theorem qDa {d:Option Nat} {is:List IOper} {s:Nat} {want:Bool} {_n} {_k} {_x} {_y}:qaa P E X (⟨d,.eqa _n _k _x _y,some (s,want)⟩ :: is) fr L K=GdK P E X true (Zh fr s want) (Zf fr L (.eqa _n _k _x _y)) d is fr L K:=qa3 rfl
theorem qCa {d:Option Nat} {is:List IOper} {_x}:qaa P E X (⟨d,.not _x,none⟩ :: is) fr L K=qcA P E X (Zf fr L (.not _x)) d is fr L K:=by rw [qap rfl];exact qam rfl
theorem qCT {d:Option Nat} {is:List IOper} {s:Nat} {want:Bool} {_x}:qaa P E X (⟨d,.not _x,some (s,want)⟩ :: is) fr L K=GdK P E X true (Zh fr s want) (Zf fr L (.not _x)) d is fr L K:=qa3 rfl
theorem qCc {d:Option Nat} {is:List IOper} {_x}:qaa P E X (⟨d,.neg _x,none⟩ :: is) fr L K=qcA P E X (Zf fr L (.neg _x)) d is fr L K:=by rw [qap rfl];exact qam rfl
theorem qCV {d:Option Nat} {is:List IOper} {s:Nat} {want:Bool} {_x}:qaa P E X (⟨d,.neg _x,some (s,want)⟩ :: is) fr L K=GdK P E X true (Zh fr s want) (Zf fr L (.neg _x)) d is fr L K:=qa3 rfl
theorem qCn {d:Option Nat} {is:List IOper} {_x}:qaa P E X (⟨d,.len _x,none⟩ :: is) fr L K=qcA P E X (Zf fr L (.len _x)) d is fr L K:=by rw [qap rfl];exact qam rfl
theorem qC1 {d:Option Nat} {is:List IOper} {s:Nat} {want:Bool} {_x}:qaa P E X (⟨d,.len _x,some (s,want)⟩ :: is) fr L K=GdK P E X true (Zh fr s want) (Zf fr L (.len _x)) d is fr L K:=qa3 rfl
theorem qB7 {d:Option Nat} {is:List IOper} {_x}:qaa P E X (⟨d,.sln _x,none⟩ :: is) fr L K=qcA P E X (Zf fr L (.sln _x)) d is fr L K:=by rw [qap rfl];exact qam rfl
theorem qCS {d:Option Nat} {is:List IOper} {s:Nat} {want:Bool} {_x}:qaa P E X (⟨d,.sln _x,some (s,want)⟩ :: is) fr L K=GdK P E X true (Zh fr s want) (Zf fr L (.sln _x)) d is fr L K:=qa3 rfl
theorem o_mx {d:Option Nat} {is:List IOper} {_x} {_y}:qaa P E X (⟨d,.mx _x _y,none⟩ :: is) fr L K=qcA P E X (Zf fr L (.mx _x _y)) d is fr L K:=by rw [qap rfl];exact qam rfl
theorem g_mx {d:Option Nat} {is:List IOper} {s:Nat} {want:Bool} {_x} {_y}:qaa P E X (⟨d,.mx _x _y,some (s,want)⟩ :: is) fr L K=GdK P E X true (Zh fr s want) (Zf fr L (.mx _x _y)) d is fr L K:=qa3 rfl
theorem o_mn {d:Option Nat} {is:List IOper} {_x} {_y}:qaa P E X (⟨d,.mn _x _y,none⟩ :: is) fr L K=qcA P E X (Zf fr L (.mn _x _y)) d is fr L K:=by rw [qap rfl];exact qam rfl
theorem g_mn {d:Option Nat} {is:List IOper} {s:Nat} {want:Bool} {_x} {_y}:qaa P E X (⟨d,.mn _x _y,some (s,want)⟩ :: is) fr L K=GdK P E X true (Zh fr s want) (Zf fr L (.mn _x _y)) d is fr L K:=qa3 rfl
theorem qCs {d:Option Nat} {is:List IOper} {_x} {_y}:qaa P E X (⟨d,.idx _x _y,none⟩ :: is) fr L K=qcA P E X (Zf fr L (.idx _x _y)) d is fr L K:=by rw [qap rfl];exact qam rfl
theorem qC6 {d:Option Nat} {is:List IOper} {s:Nat} {want:Bool} {_x} {_y}:qaa P E X (⟨d,.idx _x _y,some (s,want)⟩ :: is) fr L K=GdK P E X true (Zh fr s want) (Zf fr L (.idx _x _y)) d is fr L K:=qa3 rfl
theorem qB6 {d:Option Nat} {is:List IOper} {_x} {_l} {_h}:qaa P E X (⟨d,.ssl _x _l _h,none⟩ :: is) fr L K=qcA P E X (Zf fr L (.ssl _x _l _h)) d is fr L K:=by rw [qap rfl];exact qam rfl
theorem qCR {d:Option Nat} {is:List IOper} {s:Nat} {want:Bool} {_x} {_l} {_h}:qaa P E X (⟨d,.ssl _x _l _h,some (s,want)⟩ :: is) fr L K=GdK P E X true (Zh fr s want) (Zf fr L (.ssl _x _l _h)) d is fr L K:=qa3 rfl
theorem qB2 {d:Option Nat} {is:List IOper} {_z} {_x} {_l} {_h}:qaa P E X (⟨d,.vsl _z _x _l _h,none⟩ :: is) fr L K=qcA P E X (Zf fr L (.vsl _z _x _l _h)) d is fr L K:=by rw [qap rfl];exact qam rfl
theorem qCQ {d:Option Nat} {is:List IOper} {s:Nat} {want:Bool} {_z} {_x} {_l} {_h}:qaa P E X (⟨d,.vsl _z _x _l _h,some (s,want)⟩ :: is) fr L K=GdK P E X true (Zh fr s want) (Zf fr L (.vsl _z _x _l _h)) d is fr L K:=qa3 rfl
theorem qCr {d:Option Nat} {is:List IOper} {_z} {_x} {_y}:qaa P E X (⟨d,.ixa _z _x _y,none⟩ :: is) fr L K=qcA P E X (Zf fr L (.ixa _z _x _y)) d is fr L K:=by rw [qap rfl];exact qam rfl
theorem qC5 {d:Option Nat} {is:List IOper} {s:Nat} {want:Bool} {_z} {_x} {_y}:qaa P E X (⟨d,.ixa _z _x _y,some (s,want)⟩ :: is) fr L K=GdK P E X true (Zh fr s want) (Zf fr L (.ixa _z _x _y)) d is fr L K:=qa3 rfl
theorem qCu {d:Option Nat} {is:List IOper} {_o} {_x}:qaa P E X (⟨d,.fla _o _x,none⟩ :: is) fr L K=qcA P E X (Zf fr L (.fla _o _x)) d is fr L K:=by rw [qap rfl];exact qam rfl
theorem qC8 {d:Option Nat} {is:List IOper} {s:Nat} {want:Bool} {_o} {_x}:qaa P E X (⟨d,.fla _o _x,some (s,want)⟩ :: is) fr L K=GdK P E X true (Zh fr s want) (Zf fr L (.fla _o _x)) d is fr L K:=qa3 rfl
theorem qCt {d:Option Nat} {is:List IOper} {_o} {_s} {_a} {_x}:qaa P E X (⟨d,.fld _o _s _a _x,none⟩ :: is) fr L K=qcA P E X (Zf fr L (.fld _o _s _a _x)) d is fr L K:=by rw [qap rfl];exact qam rfl
theorem qC7 {d:Option Nat} {is:List IOper} {s:Nat} {want:Bool} {_o} {_s} {_a} {_x}:qaa P E X (⟨d,.fld _o _s _a _x,some (s,want)⟩ :: is) fr L K=GdK P E X true (Zh fr s want) (Zf fr L (.fld _o _s _a _x)) d is fr L K:=qa3 rfl
theorem o_ld {d:Option Nat} {is:List IOper} {_s} {_a} {_x}:qaa P E X (⟨d,.ld _s _a _x,none⟩ :: is) fr L K=qcA P E X (Zf fr L (.ld _s _a _x)) d is fr L K:=by rw [qap rfl];exact qam rfl
theorem g_ld {d:Option Nat} {is:List IOper} {s:Nat} {want:Bool} {_s} {_a} {_x}:qaa P E X (⟨d,.ld _s _a _x,some (s,want)⟩ :: is) fr L K=GdK P E X true (Zh fr s want) (Zf fr L (.ld _s _a _x)) d is fr L K:=qa3 rfl
theorem qCo {d:Option Nat} {is:List IOper} {_n} {_s} {_a} {_x}:qaa P E X (⟨d,.ldn _n _s _a _x,none⟩ :: is) fr L K=qcA P E X (Zf fr L (.ldn _n _s _a _x)) d is fr L K:=by rw [qap rfl];exact qam rfl
theorem qC2 {d:Option Nat} {is:List IOper} {s:Nat} {want:Bool} {_n} {_s} {_a} {_x}:qaa P E X (⟨d,.ldn _n _s _a _x,some (s,want)⟩ :: is) fr L K=GdK P E X false (Zh fr s want) (Zf fr L (.ldn _n _s _a _x)) d is fr L K:=qa3 rfl
theorem qCp {d:Option Nat} {is:List IOper} {_s} {_a} {_x}:qaa P E X (⟨d,.ldl _s _a _x,none⟩ :: is) fr L K=qcA P E X (Zf fr L (.ldl _s _a _x)) d is fr L K:=by rw [qap rfl];exact qam rfl
theorem qC3 {d:Option Nat} {is:List IOper} {s:Nat} {want:Bool} {_s} {_a} {_x}:qaa P E X (⟨d,.ldl _s _a _x,some (s,want)⟩ :: is) fr L K=GdK P E X false (Zh fr s want) (Zf fr L (.ldl _s _a _x)) d is fr L K:=qa3 rfl
theorem qCv {d:Option Nat} {is:List IOper} {_i} {_x}:qaa P E X (⟨d,.ext _i _x,none⟩ :: is) fr L K=qcA P E X (Zf fr L (.ext _i _x)) d is fr L K:=by rw [qap rfl];exact qam rfl
theorem qC9 {d:Option Nat} {is:List IOper} {s:Nat} {want:Bool} {_i} {_x}:qaa P E X (⟨d,.ext _i _x,some (s,want)⟩ :: is) fr L K=GdK P E X true (Zh fr s want) (Zf fr L (.ext _i _x)) d is fr L K:=qa3 rfl
theorem qCF {d:Option Nat} {is:List IOper} {_z} {_p}:qaa P E X (⟨d,.bld _z _p,none⟩ :: is) fr L K=qcA P E X (Zf fr L (.bld _z _p)) d is fr L K:=by rw [qap rfl];exact qam rfl
theorem qDf {d:Option Nat} {is:List IOper} {s:Nat} {want:Bool} {_z} {_p}:qaa P E X (⟨d,.bld _z _p,some (s,want)⟩ :: is) fr L K=GdK P E X true (Zh fr s want) (Zf fr L (.bld _z _p)) d is fr L K:=qa3 rfl
theorem qCz {d:Option Nat} {is:List IOper} {_k} {_x}:qaa P E X (⟨d,.cvi _k _x,none⟩ :: is) fr L K=qcA P E X (Zf fr L (.cvi _k _x)) d is fr L K:=by rw [qap rfl];exact qam rfl
theorem qDc {d:Option Nat} {is:List IOper} {s:Nat} {want:Bool} {_k} {_x}:qaa P E X (⟨d,.cvi _k _x,some (s,want)⟩ :: is) fr L K=GdK P E X true (Zh fr s want) (Zf fr L (.cvi _k _x)) d is fr L K:=qa3 rfl
theorem qCy {d:Option Nat} {is:List IOper} {_x}:qaa P E X (⟨d,.cvs _x,none⟩ :: is) fr L K=qcA P E X (Zf fr L (.cvs _x)) d is fr L K:=by rw [qap rfl];exact qam rfl
theorem qDb {d:Option Nat} {is:List IOper} {s:Nat} {want:Bool} {_x}:qaa P E X (⟨d,.cvs _x,some (s,want)⟩ :: is) fr L K=GdK P E X true (Zh fr s want) (Zf fr L (.cvs _x)) d is fr L K:=qa3 rfl
theorem qCH {d:Option Nat} {is:List IOper} {_x}:qaa P E X (⟨d,.b2s _x,none⟩ :: is) fr L K=qcA P E X (Zf fr L (.b2s _x)) d is fr L K:=by rw [qap rfl];exact qam rfl
theorem qDh {d:Option Nat} {is:List IOper} {s:Nat} {want:Bool} {_x}:qaa P E X (⟨d,.b2s _x,some (s,want)⟩ :: is) fr L K=GdK P E X true (Zh fr s want) (Zf fr L (.b2s _x)) d is fr L K:=qa3 rfl
theorem qCC {d:Option Nat} {is:List IOper} {_z} {_p}:qaa P E X (⟨d,.bsl _z _p,none⟩ :: is) fr L K=qcA P E X (Zf fr L (.bsl _z _p)) d is fr L K:=by rw [qap rfl];exact qam rfl
theorem qDd {d:Option Nat} {is:List IOper} {s:Nat} {want:Bool} {_z} {_p}:qaa P E X (⟨d,.bsl _z _p,some (s,want)⟩ :: is) fr L K=GdK P E X true (Zh fr s want) (Zf fr L (.bsl _z _p)) d is fr L K:=qa3 rfl
theorem qCd {d:Option Nat} {is:List IOper} {_x}:qaa P E X (⟨d,.nck _x,none⟩ :: is) fr L K=qcA P E X (Zf fr L (.nck _x)) d is fr L K:=by rw [qap rfl];exact qam rfl
theorem qCW {d:Option Nat} {is:List IOper} {s:Nat} {want:Bool} {_x}:qaa P E X (⟨d,.nck _x,some (s,want)⟩ :: is) fr L K=GdK P E X true (Zh fr s want) (Zf fr L (.nck _x)) d is fr L K:=qa3 rfl
theorem qCb {d:Option Nat} {is:List IOper} {_n} {_x}:qaa P E X (⟨d,.nli _n _x,none⟩ :: is) fr L K=qcA P E X (Zf fr L (.nli _n _x)) d is fr L K:=by rw [qap rfl];exact qam rfl
theorem qCU {d:Option Nat} {is:List IOper} {s:Nat} {want:Bool} {_n} {_x}:qaa P E X (⟨d,.nli _n _x,some (s,want)⟩ :: is) fr L K=GdK P E X true (Zh fr s want) (Zf fr L (.nli _n _x)) d is fr L K:=qa3 rfl
theorem qCm {d:Option Nat} {is:List IOper} {_f} {_c}:qaa P E X (⟨d,.mkf _f _c,none⟩ :: is) fr L K=qcA P E X (Zf fr L (.mkf _f _c)) d is fr L K:=by rw [qap rfl];exact qam rfl
theorem qC0 {d:Option Nat} {is:List IOper} {s:Nat} {want:Bool} {_f} {_c}:qaa P E X (⟨d,.mkf _f _c,some (s,want)⟩ :: is) fr L K=GdK P E X true (Zh fr s want) (Zf fr L (.mkf _f _c)) d is fr L K:=qa3 rfl
theorem qBc {d:Option Nat} {is:List IOper} {_x}:qaa P E X (⟨d,.cap0 _x,none⟩ :: is) fr L K=qcA P E X (Zf fr L (.cap0 _x)) d is fr L K:=by rw [qap rfl];exact qam rfl
theorem qBx {d:Option Nat} {is:List IOper} {s:Nat} {want:Bool} {_x}:qaa P E X (⟨d,.cap0 _x,some (s,want)⟩ :: is) fr L K=GdK P E X true (Zh fr s want) (Zf fr L (.cap0 _x)) d is fr L K:=qa3 rfl
theorem qB1 {d:Option Nat} {is:List IOper} {_x} {_h}:qaa P E X (⟨d,.vsn _x _h,none⟩ :: is) fr L K=qcA P E X (Zf fr L (.vsn _x _h)) d is fr L K:=by rw [qap rfl];exact qam rfl
theorem qCP {d:Option Nat} {is:List IOper} {s:Nat} {want:Bool} {_x} {_h}:qaa P E X (⟨d,.vsn _x _h,some (s,want)⟩ :: is) fr L K=GdK P E X true (Zh fr s want) (Zf fr L (.vsn _x _h)) d is fr L K:=qa3 rfl
theorem qCg {d:Option Nat} {is:List IOper} {_o} {_z} {_x} {_h}:qaa P E X (⟨d,.mpl _o _z _x _h,none⟩ :: is) fr L K=qcA P E X (Zf fr L (.mpl _o _z _x _h)) d is fr L K:=by rw [qap rfl];exact qam rfl
theorem qCY {d:Option Nat} {is:List IOper} {s:Nat} {want:Bool} {_o} {_z} {_x} {_h}:qaa P E X (⟨d,.mpl _o _z _x _h,some (s,want)⟩ :: is) fr L K=GdK P E X true (Zh fr s want) (Zf fr L (.mpl _o _z _x _h)) d is fr L K:=qa3 rfl
theorem qCf {d:Option Nat} {is:List IOper} {_x}:qaa P E X (⟨d,.mpn _x,none⟩ :: is) fr L K=qcA P E X (Zf fr L (.mpn _x)) d is fr L K:=by rw [qap rfl];exact qam rfl
theorem qCX {d:Option Nat} {is:List IOper} {s:Nat} {want:Bool} {_x}:qaa P E X (⟨d,.mpn _x,some (s,want)⟩ :: is) fr L K=GdK P E X true (Zh fr s want) (Zf fr L (.mpn _x)) d is fr L K:=qa3 rfl
theorem qBe {d:Option Nat} {is:List IOper} {_z} {_p}:qaa P E X (⟨d,.bldg _z _p,none⟩ :: is) fr L K=qcA P E X (Zf fr L (.bldg _z _p)) d is fr L K:=by rw [qap rfl];exact qam rfl
theorem qBy {d:Option Nat} {is:List IOper} {s:Nat} {want:Bool} {_z} {_p}:qaa P E X (⟨d,.bldg _z _p,some (s,want)⟩ :: is) fr L K=GdK P E X true (Zh fr s want) (Zf fr L (.bldg _z _p)) d is fr L K:=qa3 rfl
theorem qCq {d:Option Nat} {is:List IOper} {_s} {_x}:qaa P E X (⟨d,.ldg _s _x,none⟩ :: is) fr L K=qcA P E X (Zf fr L (.ldg _s _x)) d is fr L K:=by rw [qap rfl];exact qam rfl
theorem qC4 {d:Option Nat} {is:List IOper} {s:Nat} {want:Bool} {_s} {_x}:qaa P E X (⟨d,.ldg _s _x,some (s,want)⟩ :: is) fr L K=GdK P E X true (Zh fr s want) (Zf fr L (.ldg _s _x)) d is fr L K:=qa3 rfl
theorem qB5 {d:Option Nat} {is:List IOper} {_s} {_p} {_x}:qaa P E X (⟨d,.stg _s _p _x,none⟩ :: is) fr L K=OpsK P E X (Ze d fr L (.stg _s _p _x)) is K:=qap rfl
theorem qBf {d:Option Nat} {is:List IOper} {_t} {_z}:qaa P E X (⟨d,.alcd _t _z,none⟩ :: is) fr L K=OpsK P E X (Ze d fr L (.alcd _t _z)) is K:=qap rfl
theorem qBd {d:Option Nat} {is:List IOper} {_e} {_z} {_p}:qaa P E X (⟨d,.bsrd _e _z _p,none⟩ :: is) fr L K=OpsK P E X (Ze d fr L (.bsrd _e _z _p)) is K:=qap rfl
def IsnK (P:Program) (E:Envt) (X:List PV) (c:Prop) (q:Option (Nat×List (List PV))) (d:Option Nat) (is:List IOper) (fr:List AV) (L:Objs) (K:List AV→Objs→Prop):Prop:=
 match q with
 |some (_,es)=>c∧∀ b:Bool,(b=true→es=[])→qaa P E X is (Zg fr d (.p (.bool b))) L K
 |none=>False
theorem qv2 {c:Prop} {z:Nat} {es:List (List PV)} {d:Option Nat} {is:List IOper}:IsnK P E X c (some (z,es)) d is fr L K=(c∧∀ b:Bool,(b=true→es=[])→qaa P E X is (Zg fr d (.p (.bool b))) L K):=rfl
theorem qzz {x:Opd} {d:Option Nat} {is:List IOper}:qaa P E X (⟨d,.isn x,none⟩ :: is) fr L K=IsnK P E X (rd fr x).un.1 (Zw L (rd fr x).un.2) d is fr L K:=rfl
def NxtK (P:Program) (E:Envt) (X:List PV) (c:Prop) (q:Option (Key×List (List UInt8×PV))) (d:Option Nat) (is:List IOper) (fr:List AV) (L:Objs) (K:List AV→Objs→Prop):Prop:=
 match q with
 |some (k,kv)=>c∧(kv=[]→qaa P E X is (Zg fr d (.p (.tup [.bool false]))) L K)∧∀ (i:Nat) (p:List UInt8×PV),kv[i]?=some p→qaa P E X is (Zg fr d (.p (.tup [.bool true,.str p.1,p.2]))) (Zat L k (.mit (some p) (kv.eraseIdx i))) K
 |none=>False
theorem qzx {x:Opd} {d:Option Nat} {is:List IOper}:qaa P E X (⟨d,.nxt x,none⟩ :: is) fr L K=NxtK P E X (rd fr x).un.1 (Za fr L x) d is fr L K:=rfl
def ReC (P:Program) (E:Envt) (X:List PV) (is:List IOper) (fr:List AV) (L:Objs) (K:List AV→Objs→Prop):Prop:=∃ fr' L',ReOk E fr L fr' L'∧qaa P E X is fr' L' K
theorem qbc {is:List IOper}:qaa P E X (⟨none,.re,none⟩ :: is) fr L K=ReC P E X is fr L K:=rfl
theorem qwM {x:Nat} {is:List IOper}:qaa P E X (⟨none,.hole x,none⟩ :: is) fr L K=qaa P E X is ((fr.map (·.kill (.l x))).set x .any) (Zav L (.l x) Zan) K:=rfl
theorem qCl {d:Option Nat} {is:List IOper} {_t} {_z}:qaa P E X (⟨d,.mkm _t _z,none⟩ :: is) fr L K=OpsK P E X (Ze d fr L (.mkm _t _z)) is K:=qap rfl
theorem qB9 {d:Option Nat} {is:List IOper} {_x}:qaa P E X (⟨d,.rng _x,none⟩ :: is) fr L K=OpsK P E X (Ze d fr L (.rng _x)) is K:=qap rfl
theorem qCx {d:Option Nat} {is:List IOper} {_x}:qaa P E X (⟨d,.ent _x,none⟩ :: is) fr L K=OpsK P E X (Ze d fr L (.ent _x)) is K:=qap rfl
theorem qCi {d:Option Nat} {is:List IOper} {_m} {_k}:qaa P E X (⟨d,.mpd _m _k,none⟩ :: is) fr L K=OpsK P E X (Ze d fr L (.mpd _m _k)) is K:=qap rfl
theorem qCA {d:Option Nat} {is:List IOper} {_z} {_x} {_y}:qaa P E X (⟨d,.cpy _z _x _y,none⟩ :: is) fr L K=OpsK P E X (Ze d fr L (.cpy _z _x _y)) is K:=qap rfl
theorem qCe {d:Option Nat} {is:List IOper} {_m} {_k} {_v}:qaa P E X (⟨d,.mpu _m _k _v,none⟩ :: is) fr L K=OpsK P E X (Ze d fr L (.mpu _m _k _v)) is K:=qap rfl
theorem qCI {d:Option Nat} {is:List IOper} {_e} {_z} {_b} {_o} {_x} {_y}:qaa P E X (⟨d,.apz _e _z _b _o _x _y,none⟩ :: is) fr L K=OpsK P E X (Ze d fr L (.apz _e _z _b _o _x _y)) is K:=qap rfl
theorem qB3 {d:Option Nat} {is:List IOper} {_z} {_x} {_y}:qaa P E X (⟨d,.trn _z _x _y,none⟩ :: is) fr L K=OpsK P E X (Ze d fr L (.trn _z _x _y)) is K:=qap rfl
theorem qCk {d:Option Nat} {is:List IOper} {_e} {_z} {_b} {_o} {_x} {_y}:qaa P E X (⟨d,.mks _e _z _b _o _x _y,none⟩ :: is) fr L K=OpsK P E X (Ze d fr L (.mks _e _z _b _o _x _y)) is K:=qap rfl
theorem qBb {d:Option Nat} {is:List IOper} {_e} {_z}:qaa P E X (⟨d,.nilr _e _z,none⟩ :: is) fr L K=OpsK P E X (Ze d fr L (.nilr _e _z)) is K:=qap rfl
theorem qCK {d:Option Nat} {is:List IOper} {_t} {_z}:qaa P E X (⟨d,.alc _t _z,none⟩ :: is) fr L K=OpsK P E X (Ze d fr L (.alc _t _z)) is K:=qap rfl
theorem qCD {d:Option Nat} {is:List IOper} {_t} {_x}:qaa P E X (⟨d,.box _t _x,none⟩ :: is) fr L K=OpsK P E X (Ze d fr L (.box _t _x)) is K:=qap rfl
theorem qB4 {d:Option Nat} {is:List IOper} {_n} {_s} {_p} {_x}:qaa P E X (⟨d,.stk _n _s _p _x,none⟩ :: is) fr L K=OpsK P E X (Ze d fr L (.stk _n _s _p _x)) is K:=qap rfl
theorem qCh {d:Option Nat} {is:List IOper} {_n} {_m} {_k} {_v}:qaa P E X (⟨d,.mpk _n _m _k _v,none⟩ :: is) fr L K=OpsK P E X (Ze d fr L (.mpk _n _m _k _v)) is K:=qap rfl
theorem o_st {d:Option Nat} {is:List IOper} {_s} {_p} {_x}:qaa P E X (⟨d,.st _s _p _x,none⟩ :: is) fr L K=OpsK P E X (Ze d fr L (.st _s _p _x)) is K:=qap rfl
theorem qCJ {d:Option Nat} {is:List IOper} {_e} {_z} {_b} {_x} {_y}:qaa P E X (⟨d,.app _e _z _b _x _y,none⟩ :: is) fr L K=OpsK P E X (Ze d fr L (.app _e _z _b _x _y)) is K:=qap rfl
theorem qCB {d:Option Nat} {is:List IOper} {_e} {_z} {_p}:qaa P E X (⟨d,.bsr _e _z _p,none⟩ :: is) fr L K=OpsK P E X (Ze d fr L (.bsr _e _z _p)) is K:=qap rfl
theorem qB8 {d:Option Nat} {is:List IOper} {_e} {_x}:qaa P E X (⟨d,.s2b _e _x,none⟩ :: is) fr L K=OpsK P E X (Ze d fr L (.s2b _e _x)) is K:=qap rfl
theorem qwN {d:Option Nat} {f:FuncId} {args:List Opd} {is:List IOper}:qaa P E X (⟨d,.call f args,none⟩ :: is) fr L K=(Zm fr args∧qdN P E f (Zn fr args) L d fr (qim P E X is K)):=rfl
def FnK (P:Program) (E:Envt) (X:List PV) (o:Option (FuncId×List AV)) (c:Prop) (d:Option Nat) (args:List Opd) (is:List IOper) (fr:List AV) (L:Objs) (K:List AV→Objs→Prop):Prop:=
 match o with
 |some (f,ks)=>c∧fnB P f=true∧Zl L ks=true∧Zm fr args∧qdN P E f (Zn fr args++ks) L d fr (qim P E X is K)
 |none=>False
theorem qxY {f:FuncId} {ks:List AV} {c:Prop} {d:Option Nat} {args:List Opd} {is:List IOper}:FnK P E X (some (f,ks)) c d args is fr L K=(c∧fnB P f=true∧Zl L ks=true∧Zm fr args∧qdN P E f (Zn fr args++ks) L d fr (qim P E X is K)):=rfl
theorem quO {d:Option Nat} {g:Opd} {args:List Opd} {is:List IOper}:qaa P E X (⟨d,.callv g args,none⟩ :: is) fr L K=FnK P E X (Zar fr g) (rd fr g).un.1 d args is fr L K:=by
 cases h:Zar fr g with
 |none=>simp only [qaa,FnK,h]
 |some q=>obtain ⟨f,ks⟩:=q;simp only [qaa,FnK,h];rfl
def FnG (P:Program) (E:Envt) (X:List PV) (o:Option (FuncId×List AV)) (c0:Bool) (c:Prop) (d:Option Nat) (args:List Opd) (is:List IOper) (fr:List AV) (L:Objs) (K:List AV→Objs→Prop):Prop:=
 match o with
 |some (f,ks)=>(fnB P f=true∧Zl L ks=true)∧(c0=true→c∧Zm fr args)∧qr5 c0 P E f (Zn fr args++ks) L d fr (qim P E X is K)
 |none=>c0=false∧qaa P E X is (Zg fr d (.g c0 .any)) L K
theorem qxZ {f:FuncId} {ks:List AV} {c0:Bool} {c:Prop} {d:Option Nat} {args:List Opd} {is:List IOper}:FnG P E X (some (f,ks)) c0 c d args is fr L K=((fnB P f=true∧Zl L ks=true)∧(c0=true→c∧Zm fr args)∧qr5 c0 P E f (Zn fr args++ks) L d fr (qim P E X is K)):=rfl
theorem qto {d:Option Nat} {g:Opd} {args:List Opd} {is:List IOper} {s:Nat} {want:Bool}:qaa P E X (⟨d,.callv g args,some (s,want)⟩ :: is) fr L K=(match Zh fr s want with|some c0=>FnG P E X (Zar fr g) c0 (rd fr g).un.1 d args is fr L K|none=>False):=by
 simp only [qaa]
 cases Zh fr s want with
 |none=>rfl
 |some c0=>cases h:Zar fr g with
  |none=>rfl
  |some q=>obtain ⟨f,ks⟩:=q;rfl
theorem quN {b:Bool} {d:Option Nat} {f:FuncId} {args:List Opd} {is:List IOper}:qaa P E X (⟨d,.dcall b f args,none⟩ :: is) fr L K=(Zm fr args∧DCallOp b P E f (Zn fr args) L d fr (qim P E X is K)):=rfl
def PcK (P:Program) (E:Envt) (f:FuncId) (as:List AV) (L:Objs) (x:PV):Prop:=qmg P E f as L (·=x)
def FclK (P:Program) (E:Envt) (X:List PV) (f:FuncId) (e z:Nat) (K:List AV→Objs→Prop) (is:List IOper) (fr:List AV) (L:Objs) (d:Nat) (c:Prop):Option (List PV)→PV→Prop
 |some ps,.sl z' es=>((Zam d fr L∧Zas L (.l d)=some Zan)∧c∧z'=z∧FrC P E f ps e z es)∧qaa P E X is (fr.set d (.row (.l d))) (Zat L (.l d) (.row es e z true)) K
 |_,_=>False
theorem qzA {d:Nat} {n:Nat} {f:FuncId} {args:List Opd} {e z:Nat} {is:List IOper}:qaa P E X (⟨some d,.fcl n f args e z,none⟩ :: is) fr L K=FclK P E X f e z K is fr L d (Zm fr args) (qhG (Zn fr args)) (X.getD n (.bool false)):=by
 simp only [qaa]
 unfold FclK
 cases qhG (Zn fr args) with
 |none=>rfl
 |some ps=>cases X.getD n (.bool false)<;>rfl
theorem qvP:qhG []=some []:=rfl
theorem qAs {x:PV} {r:List AV}:qhG (.p x :: r)=(qhG r).map (x :: ·):=rfl
theorem qv5 {f:FuncId} {e z z':Nat} {is:List IOper} {d:Nat} {c:Prop} {ps:List PV} {es:List (List PV)}:FclK P E X f e z K is fr L d c (some ps) (.sl z' es)=(((Zam d fr L∧Zas L (.l d)=some Zan)∧c∧z'=z∧FrC P E f ps e z es)∧qaa P E X is (fr.set d (.row (.l d))) (Zat L (.l d) (.row es e z true)) K):=rfl
theorem quM {d:Option Nat} {n:Nat} {f:FuncId} {args:List Opd} {is:List IOper}:qaa P E X (⟨d,.pcall n f args,none⟩ :: is) fr L K=((Zm fr args∧PcK P E f (Zn fr args) L (X.getD n (.bool false)))∧qaa P E X is (Zg fr d (.p (X.getD n (.bool false)))) L K):=rfl
theorem qtn {d:Option Nat} {n:Nat} {f:FuncId} {args:List Opd} {is:List IOper} {s:Nat} {want:Bool}:qaa P E X (⟨d,.pcall n f args,some (s,want)⟩ :: is) fr L K=(match Zh fr s want with|some c0=>(c0=true→Zm fr args∧PcK P E f (Zn fr args) L (X.getD n (.bool false)))∧qaa P E X is (Zg fr d (.g c0 (.p (X.getD n (.bool false))))) L K|none=>False):=rfl
def PvK (P:Program) (E:Envt) (X:List PV) (o:Option (FuncId×List AV)) (c:Prop) (n:Nat) (d:Option Nat) (args:List Opd) (is:List IOper) (fr:List AV) (L:Objs) (K:List AV→Objs→Prop):Prop:=
 match o with
 |some (f,ks)=>(c∧fnB P f=true∧Zl L ks=true∧Zm fr args∧PcK P E f (Zn fr args++ks) L (X.getD n (.bool false)))∧qaa P E X is (Zg fr d (.p (X.getD n (.bool false)))) L K
 |none=>False
theorem qwL {f:FuncId} {ks:List AV} {c:Prop} {n:Nat} {d:Option Nat} {args:List Opd} {is:List IOper}:PvK P E X (some (f,ks)) c n d args is fr L K=((c∧fnB P f=true∧Zl L ks=true∧Zm fr args∧PcK P E f (Zn fr args++ks) L (X.getD n (.bool false)))∧qaa P E X is (Zg fr d (.p (X.getD n (.bool false)))) L K):=rfl
theorem qzw {d:Option Nat} {n:Nat} {g:Opd} {args:List Opd} {is:List IOper}:qaa P E X (⟨d,.pcv n g args,none⟩ :: is) fr L K=PvK P E X (Zar fr g) (rd fr g).un.1 n d args is fr L K:=by
 cases h:Zar fr g with
 |none=>simp only [qaa,PvK,h]
 |some q=>obtain ⟨f,ks⟩:=q;simp only [qaa,PvK,h];rfl
theorem quP {d:Option Nat} {f:FuncId} {args:List Opd} {is:List IOper} {s:Nat} {want:Bool}:qaa P E X (⟨d,.call f args,some (s,want)⟩ :: is) fr L K=(match Zh fr s want with|some c0=>(c0=true→Zm fr args)∧qr5 c0 P E f (Zn fr args) L d fr (qim P E X is K)|none=>False):=rfl
def FzK (P:Program) (E:Envt) (X:List PV) (q:Option (Key×PV)) (is:List IOper) (fr:List AV) (L:Objs) (K:List AV→Objs→Prop):Prop:=
 match q with
 |some (k,y)=>qaa P E X is (fr.map (·.thaw k y)) (Zaw k y L) K
 |none=>qaa P E X is fr L K
theorem qxW {k:Key} {y:PV} {is:List IOper}:FzK P E X (some (k,y)) is fr L K=qaa P E X is (fr.map (·.thaw k y)) (Zaw k y L) K:=rfl
theorem qxX {is:List IOper}:FzK P E X none is fr L K=qaa P E X is fr L K:=rfl
theorem qA9 {x:Opd} {is:List IOper}:qaa P E X (⟨none,.fz x,none⟩ :: is) fr L K=FzK P E X (Zaq fr L x) is fr L K:=rfl
def Zj (L:Objs) (k:Key):Option (List PV):=
 match Zas L k with
 |some (.box cs _)=>Zx cs
 |_=>none
def Zk (L:Objs):List Key→Option (List PV)
 |[]=>some []
 |k :: r=>match Zj L k,Zk L r with
  |some cs,some l=>some (.ptr cs :: l)
  |_,_=>none
def Zbi (L:Objs):AV→Option PV
 |.p x=>some (wk x)
 |.row k=>match Zas L k with
  |some (.row es _ z _)=>some (.sl z es)
  |_=>none
 |.mp k=>match Zas L k with
  |some (.map kv _ _)=>some (.mpv (kv.map (·.1)) (kv.map (·.2)))
  |_=>none
 |.fn f ks=>(Zk L ks).map (.clo f)
 |.adr k o=>if o=0 then (Zj L k).map .ptr else none
 |_=>none
def Zbh (L:Objs):List AV→Option (List PV)
 |[]=>some []
 |x :: r=>match Zbi L x,Zbh L r with
  |some y,some l=>some (y :: l)
  |_,_=>none
def Zbj:List AV→Bool
 |[]=>true
 |.row _ :: _=>false
 |.mp _ :: _=>false
 |.adr _ _ :: _=>false
 |.fn _ ks :: r=>ks.isEmpty && Zbj r
 |_ :: r=>Zbj r
def Zbk:PV→Bool
 |.int ..|.bool ..|.str ..=>true
 |.agg cs=>cs.all fun|.int ..|.bool ..|.str ..=>true|_=>false
 |.tup cs=>cs.all fun|.int ..|.bool ..|.str ..=>true|_=>false
 |_=>false
theorem qpb (b:Bool):(b == true)=b:=by cases b<;>rfl
theorem qnv (b:Bool):(b == false)=!b:=by cases b<;>rfl
theorem PRep.flat {w:World} {U U':Nat→Prop} {x:PV} {v:Value} (hf:Zbk x=true) (h:PRep w U x v):PRep w U' x v:=by
 have one:∀ (y:PV) (u:Value),(match y with|.int ..|.bool ..|.str ..=>true|_=>false)=true→PRep w U y u→PRep w U' y u:=by
  intro y u hy hr
  cases y<;>simp_all [PRep]
 have lst:∀ (cs:List PV) (vs:List Value),(cs.all fun|.int ..|.bool ..|.str ..=>true|_=>false)=true→PRepL w U cs vs→PRepL w U' cs vs:=by
  intro cs
  induction cs with
  |nil=>intro vs _ h;exact h
  |cons c cs ih=>
   intro vs hc hr
   simp only [List.all_cons,zl] at hc
   simp only [PRepL] at hr ⊢
   obtain ⟨v,r,rfl,h1,h2⟩:=hr
   exact ⟨v,r,rfl,one c v hc.1 h1,ih r hc.2 h2⟩
 cases x with
 |agg cs=>simp only [Zbk] at hf;simp only [PRep] at h ⊢;obtain ⟨vs,e,hl⟩:=h;exact ⟨vs,e,lst cs vs hf hl⟩
 |tup cs=>simp only [Zbk] at hf;simp only [PRep] at h ⊢;obtain ⟨vs,e,hl⟩:=h;exact ⟨vs,e,lst cs vs hf hl⟩
 |int k n=>exact h
 |bool b=>exact h
 |str s=>exact h
 |raw v=>simp [Zbk] at hf
 |nl z=>simp [Zbk] at hf
 |sl z es=>simp [Zbk] at hf
 |ptr cs=>simp [Zbk] at hf
 |clo f ps=>simp [Zbk] at hf
 |mpv ks vs=>simp [Zbk] at hf
theorem qBA {w:World} {U U':Nat→Prop} {ι:Key→Value} {f:FuncId} {v:Value} (h:ARep w U ι (.fn f []) v):PRep w U' (.clo f []) v:=by
 exact ⟨[],by simpa [ARep] using h,by simp [PRepL]⟩
theorem qxM {as:List AV} {l:List PV} (h:Zx as=some l):as=l.map .p:=by
 induction as generalizing l with
 |nil=>simp only [Zx,zg] at h;subst h;rfl
 |cons q as ih=>
  cases q with
  |p x=>
   simp only [Zx,zk] at h
   obtain ⟨m,h1,rfl⟩:=h
   rw [ih h1]
   rfl
  |_=>simp [Zx] at h
theorem qs2 {w:World} {B:Nat→Prop} {ι:Key→Value} (hs:Sim w B L ι) (hX:∀ b,B b→¬ Own L ι b) {k:Key} {cs:List PV} (h:Zj L k=some cs):PRep w B (.ptr cs) (ι k):=by
 have hk:=qu4 w L ι B
 unfold Zj at h
 split at h
 ·rename_i as t hl
  have e:=qxM h
  subst e
  obtain ⟨b,vs,e1,e2,e3,e4,e5⟩:=hs.obj k _ hl
  have hO:Own L ι b:=⟨k,_,hl,by rw [e1];rfl⟩
  have hr:PRepL w (fun b=>Own L ι b∨B b) cs vs:=PRepL.of_get (by simpa using e3) (fun j x u hx hu=>by
   obtain ⟨u',hu',hr'⟩:=e5 j (.p x) (by rw [zA,hx];rfl)
   rw [hu'] at hu
   cases hu
   exact hr')
  refine ⟨b,e1,qbJ hs hO,fun hb=>hX b hb hO,PRepC.of (PRepL.mono hk _ _ hr) e4 (fun j v hv=>?_)⟩
  rw [Nat.zero_add,cell_of_row w b j _ t (0,0) e2]
  simpa using hv
 ·cases h
theorem qvD {w:World} {B:Nat→Prop} {ι:Key→Value} (hs:Sim w B L ι) (hX:∀ b,B b→¬ Own L ι b):∀ {ks:List Key} {ps:List PV},Zk L ks=some ps→PRepL w B ps (ks.map ι):=by
 intro ks
 induction ks with
 |nil=>intro ps h;simp only [Zk,zg] at h;subst h;simp [PRepL]
 |cons k ks ih=>
  intro ps h
  simp only [Zk] at h
  split at h
  ·rename_i cs l e1 e2
   cases h
   exact ⟨_,_,rfl,qs2 hs hX e1,ih e2⟩
  ·cases h
theorem qiy {w:World} {U:Nat→Prop} {ι:Key→Value}:∀ {as:List AV} {ps:List PV} {vs:List Value},Zbj as=true→Zbh L as=some ps→ARepL w U ι as vs→PRepL w U ps vs:=by
 intro as
 induction as with
 |nil=>intro ps vs _ h hr;simp only [Zbh,zg] at h;subst h;exact hr
 |cons a as ih=>
  intro ps vs hn h hr
  simp only [Zbh] at h
  split at h
  ·rename_i y l e1 e2
   cases h
   simp only [ARepL] at hr
   obtain ⟨v,r,rfl,h1,h2⟩:=hr
   simp only [PRepL]
   cases a with
   |p x=>simp only [Zbi,zg] at e1;subst e1;exact ⟨v,r,rfl,PRep.wk h1,ih (by simpa [Zbj] using hn) e2 h2⟩
   |row k=>simp [Zbj] at hn
   |mp k=>simp [Zbj] at hn
   |adr k o=>simp [Zbj] at hn
   |fn f ks=>
    cases ks with
    |nil=>simp only [Zbi,Zk,zQ,zg] at e1;subst e1;exact ⟨v,r,rfl,qBA h1,ih (by simpa [Zbj] using hn) e2 h2⟩
    |cons k ks=>simp [Zbj] at hn
   |_=>simp [Zbi] at e1
  ·cases h
theorem qtE {w:World} {B:Nat→Prop} {ι:Key→Value} (hs:Sim w B L ι) (hX:∀ b,B b→¬ Own L ι b):∀ {as:List AV} {ps:List PV} {vs:List Value},Zbh L as=some ps→ARepL w (fun b=>Own L ι b∨B b) ι as vs→PRepL w B ps vs:=by
 have hk:=qu4 w L ι B
 intro as
 induction as with
 |nil=>intro ps vs h hr;simp only [Zbh,zg] at h;subst h;exact hr
 |cons a as ih=>
  intro ps vs h hr
  simp only [Zbh] at h
  split at h
  ·rename_i y l e1 e2
   cases h
   simp only [ARepL] at hr
   obtain ⟨v,r,rfl,h1,h2⟩:=hr
   simp only [PRepL]
   refine ⟨v,r,rfl,?_,ih e2 h2⟩
   cases a with
   |p x=>simp only [Zbi,zg] at e1;subst e1;exact (PRep.mono hk _ _ h1).wk
   |row k=>
    simp only [Zbi] at e1
    split at e1
    ·rename_i es e' z ap hl
     cases e1
     obtain ⟨vs',hrow,e4,e5,e6⟩:=hs.obj k _ hl
     rcases hrow.2 with ⟨g1,g2⟩|⟨g,cap,cur,fz,g1,_,g3,_⟩
     ·rw [h1.1,g1]
      exact ⟨none,0,by rw [g2],by omega,fun hne=>absurd (zz g2) hne⟩
     ·rw [h1.1,g1]
      have hE:=qjg hs hl g1
      have hO:Own L ι g:=⟨k,_,hl,by rw [g1];rfl⟩
      refine ⟨_,cap,rfl,g3,fun _=>⟨g,0,rfl,qbJ hs hO,fun hx=>hX g hx hO,?_⟩⟩
      have key:∀ (es':List (List PV)) (off:Nat),PRepE w (fun b=>Own L ι b∨B b) g z off es'→PRepE w B g z off es':=by
       intro es'
       induction es' with
       |nil=>intro off _;simp [PRepE]
       |cons x r ih=>
        intro off hh
        simp only [PRepE] at hh ⊢
        refine ⟨hh.1,?_,ih _ hh.2.2⟩
        obtain ⟨us,a1,a2,a3⟩:=hh.2.1.vals
        exact PRepC.of (PRepL.mono hk _ _ a1) a2 a3
      exact key es 0 hE
    ·cases e1
   |mp k=>
    simp only [Zbi] at e1
    split at e1
    ·rename_i kv kt et hl
     cases e1
     obtain ⟨r,ents,cl,q1,q2,q3,q4⟩:=hs.obj k _ hl
     have hO:Own L ι r:=⟨k,_,hl,by rw [q1];rfl⟩
     rw [h1.1,q1]
     exact ⟨r,rfl,qbJ hs hO,fun hx=>hX r hx hO,ents,cl,q2,⟨by rw [q3.1,ye];rfl,q4⟩,PRepL.mono hk _ _ q3.2⟩
    ·cases e1
   |fn f ks=>
    simp only [Zbi,zk] at e1
    obtain ⟨ps',h3,rfl⟩:=e1
    exact ⟨ks.map ι,h1,qvD hs hX h3⟩
   |adr k o=>
    simp only [Zbi] at e1
    split at e1
    ·rename_i ho
     subst ho
     simp only [zk] at e1
     obtain ⟨cs,h3,rfl⟩:=e1
     obtain ⟨b,e4,e5⟩:=h1
     rw [e5,← e4]
     exact qs2 hs hX h3
    ·cases e1
   |_=>simp [Zbi] at e1
  ·cases h
theorem qoy {f:FuncId} {as:List AV} {ps:List PV} {φ:PV→Prop} (h:PCall P E f ps φ) (ha:Zbh L as=some ps) (hn:Zbj as=true∨∀ x,φ x→Zbk x=true):qmg P E f as L φ:=by
 intro w X ι vs hs hX hE hEb hA
 rcases hn with hn|hn
 ·exact h w (fun b=>Own L ι b∨X b) vs (fun b hb=>hb.elim (fun h=>qbJ hs h) (fun h=>(hX b h).1)) hE (fun b hb=>(hEb b hb).1) (qiy hn ha hA)
 ·refine (h w X vs (fun b hb=>(hX b hb).1) hE (fun b hb=>(hEb b hb).1) (qtE hs (fun b hb=>(hX b hb).2) ha hA)).mono ?_
  rintro e w' ⟨v,x,rfl,hx,hr,hG⟩
  exact ⟨v,x,rfl,hx,hr.flat (hn x hx),hG⟩
theorem use {f:FuncId} {as:List AV} {ps:List PV} {φ:PV→Prop} {d:Option Nat} {is:List IOper} (h:PCall P E f ps φ) (ha:Zbh L as=some ps) (hn:Zbj as=true∨∀ x,φ x→Zbk x=true) (hk:∀ x,φ x→qaa P E X is (Zg fr d (.p x)) L K):qdN P E f as L d fr (qim P E X is K):=
 .inl ⟨φ,qoy h ha hn,hk⟩
theorem use1 {f:FuncId} {as:List AV} {ps:List PV} {r:PV} {d:Option Nat} {is:List IOper} (h:PCall P E f ps (·=r)) (ha:Zbh L as=some ps) (hn:Zbj as=true∨Zbk r=true) (hk:qaa P E X is (Zg fr d (.p r)) L K):qdN P E f as L d fr (qim P E X is K):=
 .inl ⟨(·=r),qoy h ha (hn.imp id (fun h x e=>by rw [e];exact h)),fun x e=>by rw [e];exact hk⟩
theorem useG {c0:Bool} {f:FuncId} {as:List AV} {ps:List PV} {r:PV} {d:Option Nat} {is:List IOper} (h:c0=true→PCall P E f ps (·=r)) (ha:Zbh L as=some ps) (hn:Zbj as=true∨Zbk r=true) (hk:qaa P E X is (Zg fr d (.g c0 (.p r))) L K):qr5 c0 P E f as L d fr (qim P E X is K):=
 .inl ⟨r,fun hc=>qoy (h hc) ha (hn.imp id fun h x e=>by rw [e];exact h),hk⟩
theorem qpD {c0:Bool} {f:FuncId} {as:List AV} {d:Option Nat} {is:List IOper} (h:c0=true→qdN P E f as L d fr (qim P E X is K)) (hk:c0=false→qaa P E X is (Zg fr d (.g c0 .any)) L K):qr5 c0 P E f as L d fr (qim P E X is K):=.inr ⟨h,hk⟩
theorem usep {f:FuncId} {as:List AV} {ps:List PV} {r:PV} (h:PCall P E f ps (·=r)) (ha:Zbh L as=some ps) (hn:Zbj as=true∨Zbk r=true):PcK P E f as L r:=
 qoy h ha (hn.imp id (fun h x e=>by rw [e];exact h))
end
def GCall (P:Program) (E:Envt) (f:FuncId) (bx:Option OS) (args:List PV) (post:RV→OS→Prop):Prop:=
 ∀ (w:World) (U:Nat→Prop) (vs:List Value) (v0:Value),(∀ c,U c→c < w.heap.size)→E.ok w→(∀ c,E.bl c→c < w.heap.size∧(bx.isSome=true→blk v0≠some c))→PRepL w U args vs→
  (match bx with|none=>True|some os=>(∀ c,blk v0=some c→U c)∧ObjAt w U v0 os)→
  Calls P f ((match bx with|none=>vs|some _=>v0 :: vs)).toArray w fun e w'=>∃ v r os',e=.returned v∧post r os'∧RVok w' U w.heap.size r v∧
   (match bx with
    |none=>Grow w w' (fun _=>False)
    |some _=>Grow w w' (fun c=>blk v0=some c)∧ObjAt w' (fun c=>U c∨r.own v c) v0 os')
def noOS:OS:=.box 0 []
def finP (bx:Option OS) (post:RV→OS→Prop) (x:PV) (L:Objs):Prop:=
 match bx with
 |none=>post (.p x) noOS
 |some _=>∃ os',Zas L (.b 0)=some os'.ao∧post (.p x) os'
def finF (bx:Option OS) (post:RV→OS→Prop) (i:Nat) (fr:List AV) (L:Objs):Prop:=
 (∃ j es e z,fr.getD i .any=.row (.l j)∧Zas L (.l j)=some (.row es e z true)∧
  match bx with
  |none=>post (.fr es e z) noOS
  |some _=>∃ os',Zas L (.b 0)=some os'.ao∧post (.fr es e z) os')∨
 ∃ e z z0,fr.getD i .any=.p (.nl z0)∧
  match bx with
  |none=>post (.fr [] e z) noOS
  |some _=>∃ os',Zas L (.b 0)=some os'.ao∧post (.fr [] e z) os'
def retF (i:Nat) (bx:Option OS) (post:RV→OS→Prop):AQ
 |.normal,fr,L=>finF bx post i fr L
 |.ret,fr,L=>finF bx post i fr L
 |_,_,_=>False
def qrP (fr:List AV):List Nat→Option (List PV)
 |[]=>some []
 |i :: r=>match fr.getD i .any with
  |.p x=>(qrP fr r).map (x :: ·)
  |_=>none
def finT (bx:Option OS) (post:RV→OS→Prop) (i:Nat) (is:List Nat) (fr:List AV) (L:Objs):Prop:=
 (∃ j es e z ps,fr.getD i .any=.row (.l j)∧Zas L (.l j)=some (.row es e z true)∧qrP fr is=some ps∧
  match bx with
  |none=>post (.ft es e z ps) noOS
  |some _=>∃ os',Zas L (.b 0)=some os'.ao∧post (.ft es e z ps) os')∨
 ∃ e z z0 ps,fr.getD i .any=.p (.nl z0)∧qrP fr is=some ps∧
  match bx with
  |none=>post (.ft [] e z ps) noOS
  |some _=>∃ os',Zas L (.b 0)=some os'.ao∧post (.ft [] e z ps) os'
def retT (i:Nat) (is:List Nat) (bx:Option OS) (post:RV→OS→Prop):AQ
 |.normal,fr,L=>finT bx post i is fr L
 |.ret,fr,L=>finT bx post i is fr L
 |_,_,_=>False
theorem qAS {i:Nat} {is:List Nat} {bx:Option OS} {post:RV→OS→Prop} {fr:List AV} {L:Objs}:retT i is bx post .ret fr L=finT bx post i is fr L:=rfl
theorem qAT {i:Nat} {is:List Nat} {bx:Option OS} {post:RV→OS→Prop} {fr:List AV} {L:Objs}:retT i is bx post .normal fr L=finT bx post i is fr L:=rfl
theorem qAW {i:Nat} {bx:Option OS} {post:RV→OS→Prop} {fr:List AV} {L:Objs}:retF i bx post .ret fr L=finF bx post i fr L:=rfl
theorem qAX {i:Nat} {bx:Option OS} {post:RV→OS→Prop} {fr:List AV} {L:Objs}:retF i bx post .normal fr L=finF bx post i fr L:=rfl
def l0 (bx:Option OS):Objs:=
 match bx with
 |none=>[]
 |some os=>[(.b 0,os.ao)]
def a0 (bx:Option OS) (args:List PV):List AV:=
 match bx with
 |none=>args.map .p
 |some (.box _ _)=>.adr (.b 0) 0 :: args.map .p
 |some (.row _ _ _)=>.row (.b 0) :: args.map .p
def GCallP (P:Program) (E:Envt) (f:FuncId) (pre:List PV) (bx:Option OS) (args:List PV) (post:RV→OS→Prop):Prop:=
 ∀ (w:World) (U:Nat→Prop) (us vs:List Value) (v0:Value),(∀ c,U c→c < w.heap.size)→E.ok w→(∀ c,E.bl c→c < w.heap.size∧(bx.isSome=true→blk v0≠some c))→PRepL w U pre us→PRepL w U args vs→
  (match bx with|none=>True|some os=>(∀ c,blk v0=some c→U c)∧ObjAt w U v0 os)→
  Calls P f (us++(match bx with|none=>vs|some _=>v0 :: vs)).toArray w fun e w'=>∃ v r os',e=.returned v∧post r os'∧RVok w' U w.heap.size r v∧
   (match bx with
    |none=>Grow w w' (fun _=>False)
    |some _=>Grow w w' (fun c=>blk v0=some c)∧ObjAt w' (fun c=>U c∨r.own v c) v0 os')
def a0P (pre:List PV) (bx:Option OS) (args:List PV):List AV:=pre.map .p++a0 bx args
section
variable {P:Program} {E:Envt}
theorem GCallP.nil {f:FuncId} {bx:Option OS} {args:List PV} {post:RV→OS→Prop} (h:GCallP P E f [] bx args post):GCall P E f bx args post:=fun w U vs v0 hU hE hEb hA hB=>h w U [] vs v0 hU hE hEb (by simp [PRepL]) hA hB
theorem qk4 (hm:P.follows .mixedOrders=true) {f:FuncId} {fn:Func} {c:Code} {ic:IC} {pre:List PV} {bx:Option OS} {args:List PV} {post:RV→OS→Prop} {Q:AQ} (hf:P.funcs[f]?=some fn) (hb:fn.body=some c) (hchk:chkC P qp5 ic c=true)
  (h:awp P E ic (a0P pre bx args++zR (fn.ntmps - (a0P pre bx args).length) .any) (l0 bx) Q)
  (hQ:∀ (B:Base) (w':World) (L:Objs) (ι:Key→Value) (fr:List AV) (a:Act) (e:Exit),Q e fr L→StF E B w' L ι fr a→B.L0=l0 bx→(e=.normal∨e=.ret)∧∃ v r os',(results fn a.tmps).run P w'=.ok v w'∧post r os'∧RVok w' (ZB L ι B.X) B.w0.heap.size r v∧(bx.isSome=true→Zas L (.b 0)=some os'.ao)∧(∀ b,r.own v b→Own L ι b)):GCallP P E f pre bx args post:=by
 intro w U us vs v0 hU hE hEb hPre hA hB
 refine calls_of_wp hf hb ?_
 let ι:Key→Value:=fun _=>v0
 let B:Base:={ w0:=w,X:=fun c=>U c∧(bx.isSome=true→blk v0≠some c),L0:=l0 bx,i0:=ι }
 have hlk:∀ k q,Zas (l0 bx) k=some q→k=.b 0∧∃ os,bx=some os∧q=os.ao:=by
  intro k q hq
  cases hbx:bx with
  |none=>rw [hbx] at hq;simp [l0,Zas] at hq
  |some os=>
   rw [hbx] at hq
   simp only [l0,Zas] at hq
   split at hq
   ·rename_i e;cases hq;exact ⟨e.symm,os,rfl,rfl⟩
   ·cases hq
 have hO:∀ c,Own (l0 bx) ι c→blk v0=some c∧bx.isSome=true:=by
  rintro c ⟨k,q,h1,h2⟩
  obtain ⟨_,os,e,_⟩:=hlk k q h1
  exact ⟨h2,by rw [e];rfl⟩
 have hUb:∀ c,(Own (l0 bx) ι c∨B.X c)→U c:=by
  rintro c (h'|h')
  ·obtain ⟨h1,hs⟩:=hO c h'
   cases hbx:bx with
   |none=>rw [hbx] at hs;cases hs
   |some p=>rw [hbx] at hB;exact hB.1 c h1
  ·exact h'.1
 have hkeep:Keeps w w U (fun c=>Own (l0 bx) ι c∨B.X c):=fun c _ hu=>⟨rfl,fun h=>hu (hUb c h)⟩
 have hsim:Sim w B.X (l0 bx) ι:=by
  constructor
  ·intro k q hq
   obtain ⟨rfl,os,e,rfl⟩:=hlk k q hq
   rw [e] at hB
   exact ObjAt.ok (hB.2.mono hkeep (fun _ _=>rfl))
  ·intro k k' q q' c h1 h2 _ _
   rw [(hlk k q h1).1,(hlk k' q' h2).1]
 have hst:St E B w (l0 bx) ι:=⟨Grow.refl _ _,hsim,fun c hc=>.inl hc,fun c hc=>hU c hc.1,fun k _ _=>rfl,hE,fun c hc=>⟨(hEb c hc).1,fun ho=>by obtain ⟨e1,e2⟩:=hO c ho;exact (hEb c hc).2 e2 e1⟩,(fun i=>by
  show Zas (l0 bx) (.l i)=none
  cases hq:Zas (l0 bx) (.l i) with
  |none=>rfl
  |some q=>have:=(hlk _ _ hq).1;cases this),(fun c hc ho=>by obtain ⟨e1,e2⟩:=hO c ho;exact hc.2 e2 e1)⟩
 have hlen:=hA.length
 have hfr:∀ as:List Value,ARepL w (fun c=>Own (l0 bx) ι c∨B.X c) ι (a0P pre bx args) as→StF E B w (l0 bx) ι (a0P pre bx args++zR (fn.ntmps - (a0P pre bx args).length) .any) { tmps:=as.toArray++Array.replicate (fn.ntmps - as.toArray.size) undef,defers:=[] }:=by
  intro as has
  have hl:∀ (xs:List AV) (ys:List Value),ARepL w (fun c=>Own (l0 bx) ι c∨B.X c) ι xs ys→ys.length=xs.length∧∀ (i:Nat) (x:AV),xs[i]?=some x→∃ v,ys[i]?=some v∧ARep w (fun c=>Own (l0 bx) ι c∨B.X c) ι x v:=by
   intro xs
   induction xs with
   |nil=>intro ys h;simp only [ARepL] at h;subst h;simp
   |cons x xs ih=>
    intro ys h
    simp only [ARepL] at h
    obtain ⟨v,r,rfl,h1,h2⟩:=h
    obtain ⟨g1,g2⟩:=ih r h2
    refine ⟨by simp [g1],fun i y hy=>?_⟩
    cases i with
    |zero=>simp at hy;subst hy;exact ⟨v,rfl,h1⟩
    |succ i=>simp at hy;simpa using g2 i y hy
  obtain ⟨g1,g2⟩:=hl _ _ has
  refine ⟨hst,⟨by simp [g1],fun i x hx=>?_⟩,rfl⟩
  rw [List.getElem?_append] at hx
  split at hx
  ·rename_i hi
   obtain ⟨v,hv,hrep⟩:=g2 i x hx
   refine ⟨v,?_,hrep⟩
   rw [Array.getElem?_append_left (by simp;omega)]
   simpa using hv
  ·rename_i hi
   rw [List.getElem?_replicate] at hx
   split at hx
   ·rename_i hlt
    cases hx
    refine ⟨undef,?_,trivial⟩
    rw [Array.getElem?_append_right (by simp;omega)]
    simp only [List.size_toArray]
    rw [Array.getElem?_replicate,if_pos (by rw [g1];omega)]
   ·cases hx
 have hargs:ARepL w (fun c=>Own (l0 bx) ι c∨B.X c) ι (a0P pre bx args) (us++(match bx with|none=>vs|some _=>v0 :: vs)):=by
  have hp:∀ (xs:List PV) (ys:List Value),PRepL w U xs ys→ARepL w (fun c=>Own (l0 bx) ι c∨B.X c) ι (xs.map .p) ys:=by
   intro xs
   induction xs with
   |nil=>intro ys h;simp only [PRepL] at h;subst h;simp [ARepL]
   |cons x xs ih=>
    intro ys h
    simp only [PRepL] at h
    obtain ⟨v,r,rfl,h1,h2⟩:=h
    simp only [zo,ARepL]
    exact ⟨v,r,rfl,PRep.mono hkeep _ _ h1,ih r h2⟩
  refine ARepL.append (hp pre us hPre) ?_
  have hpv:=hp args vs hA
  cases hbx:bx with
  |none=>rw [hbx] at hpv;exact hpv
  |some os=>
   rw [hbx] at hpv hB
   cases os with
   |box t cs=>
    obtain ⟨b,vs',e1,_⟩:=hB.2
    simp only [a0,ARepL]
    exact ⟨_,_,rfl,⟨b,e1,e1⟩,hpv⟩
   |row e z es=>
    obtain ⟨vs',h1,_⟩:=hB.2
    simp only [a0,ARepL]
    refine ⟨_,_,rfl,⟨rfl,?_⟩,hpv⟩
    rcases h1.2 with ⟨q1,_⟩|⟨g,cap,cur,fz,q1,_⟩
    ·exact ⟨none,0,0,q1⟩
    ·exact ⟨_,_,_,q1⟩
 refine wp_mono (qqE (qyi hm) ic c _ _ _ hchk h B w ι _ (hfr _ hargs)) ?_
 rintro e a' w' ⟨fr',L',ι',q,hs'⟩
 obtain ⟨he,v,r,os',hv,hp,hr,hbox,hown⟩:=hQ B w' L' ι' fr' a' e q hs' rfl
 have hkey:bx.isSome=true→ι' (.b 0)=v0:=by
  intro e
  refine hs'.1.keep (.b 0) ?_ (by rw [hbox e];rfl)
  show (Zas (l0 bx) (.b 0)).isSome=true
  obtain ⟨os,e⟩:=Option.isSome_iff_exists.1 e
  rw [e];simp [l0,Zas]
 have hZ:∀ c,U c→ZB L' ι' B.X c:=by
  intro c hc
  by_cases hcb:bx.isSome=true∧blk v0=some c
  ·exact .inr ⟨0,_,hbox hcb.1,by rw [hkey hcb.1];exact hcb.2⟩
  ·exact .inl ⟨hc,fun h1 h2=>hcb ⟨h1,h2⟩⟩
 have hkz:Keeps w' w' (ZB L' ι' B.X) U:=fun c _ hz=>⟨rfl,fun hu=>hz (hZ c hu)⟩
 have hres:RVok w' U w.heap.size r v:=by
  cases r with
  |p x=>exact PRep.mono hkz _ _ hr
  |fr es e z=>
   obtain ⟨vs',r1,r2,r3,r4,r5⟩:=hr
   exact ⟨vs',r1,r2,PRepL.mono (fun c _ hz=>⟨rfl,fun hu=>hz (hu.imp (hZ c) id)⟩) _ _ r3,r4,r5⟩
  |ft es e z ps=>
   obtain ⟨u,us,hv,⟨vs',r1,r2,r3,r4,r5⟩,rp⟩:=hr
   exact ⟨u,us,hv,⟨vs',r1,r2,PRepL.mono (fun c _ hz=>⟨rfl,fun hu=>hz (hu.imp (hZ c) id)⟩) _ _ r3,r4,r5⟩,PRepL.mono (fun c _ hz=>⟨rfl,fun hu=>hz (hu.imp (hZ c) id)⟩) _ _ rp⟩
 have hg:=hs'.1.grow
 have fin:∃ v_1 r os',Ending.returned v=.returned v_1∧post r os'∧RVok w' U w.heap.size r v_1∧(match bx with|none=>Grow w w' (fun _=>False)|some _=>Grow w w' (fun c=>blk v0=some c)∧ObjAt w' (fun c=>U c∨r.own v_1 c) v0 os'):=by
  refine ⟨v,r,os',rfl,hp,hres,?_⟩
  cases hbx:bx with
  |none=>exact ⟨hg.os,hg.tape,hg.output,hg.size,fun c hc _=>hg.block c hc (fun ho=>by have:=(hO c ho).2;rw [hbx] at this;cases this)⟩
  |some os=>
   have hbs:bx.isSome=true:=by rw [hbx];rfl
   refine ⟨⟨hg.os,hg.tape,hg.output,hg.size,fun c hc hn=>hg.block c hc (fun ho=>hn (hO c ho).1)⟩,?_⟩
   have hat:=ObjAt.of (hs'.1.sim.obj (.b 0) _ (hbox hbs))
   rw [hkey hbs] at hat
   refine hat.mono (fun c _ hz=>⟨rfl,fun hu=>hz ?_⟩) (fun _ _=>rfl)
   rcases hu with hu|hu
   ·rcases hZ c hu with h1|⟨i,q,h1,h2⟩
    ·exact .inr h1
    ·exact .inl ⟨_,q,h1,h2⟩
   ·exact .inl (hown c hu)
 rcases he with rfl|rfl
 ·exact ⟨hs'.2.2,v,hv,fin⟩
 ·exact ⟨hs'.2.2,v,hv,fin⟩
theorem qlT (hm:P.follows .mixedOrders=true) {f:FuncId} {fn:Func} {c:Code} {ic:IC} {bx:Option OS} {args:List PV} {post:RV→OS→Prop} {Q:AQ} (hf:P.funcs[f]?=some fn) (hb:fn.body=some c) (hchk:chkC P qp5 ic c=true)
  (h:awp P E ic (a0 bx args++zR (fn.ntmps - (a0 bx args).length) .any) (l0 bx) Q)
  (hQ:∀ (B:Base) (w':World) (L:Objs) (ι:Key→Value) (fr:List AV) (a:Act) (e:Exit),Q e fr L→StF E B w' L ι fr a→B.L0=l0 bx→(e=.normal∨e=.ret)∧∃ v r os',(results fn a.tmps).run P w'=.ok v w'∧post r os'∧RVok w' (ZB L ι B.X) B.w0.heap.size r v∧(bx.isSome=true→Zas L (.b 0)=some os'.ao)∧(∀ b,r.own v b→Own L ι b)):GCall P E f bx args post:=
 GCallP.nil (qk4 (pre:=[]) hm hf hb hchk h hQ)
theorem qvh (hm:P.follows .mixedOrders=true) {f:FuncId} {fn:Func} {ic:IC} {rs:List IRes} {n:Nat} {pre:List PV} {bx:Option OS} {args:List PV} {post:RV→OS→Prop} (hf:P.funcs[f]?=some fn) (hc:chkF P fn ic rs n=true)
  (h:awp P E ic (a0P pre bx args++zR (n - (a0P pre bx args).length) .any) (l0 bx) (retQ rs (finP bx post))):GCallP P E f pre bx args post:=by
 unfold chkF at hc
 split at hc
 ·rename_i c hb
  simp only [zl,beq_iff_eq] at hc
  obtain ⟨⟨h1,h2⟩,rfl⟩:=hc
  refine qk4 hm hf hb h1 h ?_
  intro B w' L ι fr a e q hs hb0
  have key:RetK (Zbd fr L rs) (finP bx post) L→∃ v r os',(results fn a.tmps).run P w'=.ok v w'∧post r os'∧RVok w' (ZB L ι B.X) B.w0.heap.size r v∧(bx.isSome=true→Zas L (.b 0)=some os'.ao)∧(∀ b,r.own v b→Own L ι b):=by
   intro q
   obtain ⟨l,e1,e2⟩:=qrV q
   obtain ⟨v,hv,hr⟩:=qnL hs h2 e1
   cases hbx:bx with
   |none=>rw [hbx] at e2;exact ⟨v,.p (ql5 l),noOS,hv,e2,hr,(fun h=>by cases h),fun _ h=>h.elim⟩
   |some p=>
    rw [hbx] at e2
    obtain ⟨cs',g1,g2⟩:=e2
    exact ⟨v,.p (ql5 l),cs',hv,g2,hr,(fun _=>g1),fun _ h=>h.elim⟩
  cases e with
  |normal=>exact ⟨.inl rfl,key q⟩
  |ret=>exact ⟨.inr rfl,key q⟩
  |_=>exact q.elim
 ·cases hc
theorem qfP (hm:P.follows .mixedOrders=true) {f:FuncId} {fn:Func} {ic:IC} {rs:List IRes} {n:Nat} {bx:Option OS} {args:List PV} {post:RV→OS→Prop} (hf:P.funcs[f]?=some fn) (hc:chkF P fn ic rs n=true)
  (h:awp P E ic (a0 bx args++zR (n - (a0 bx args).length) .any) (l0 bx) (retQ rs (finP bx post))):GCall P E f bx args post:=GCallP.nil (qvh (pre:=[]) hm hf hc h)
theorem qjt (hm:P.follows .mixedOrders=true) {f:FuncId} {fn:Func} {ic:IC} {i n:Nat} {bx:Option OS} {args:List PV} {post:RV→OS→Prop} (hf:P.funcs[f]?=some fn) (hc:chkF P fn ic [.t i] n=true)
  (h:awp P E ic (a0 bx args++zR (n - (a0 bx args).length) .any) (l0 bx) (retF i bx post)):GCall P E f bx args post:=by
 unfold chkF at hc
 split at hc
 ·rename_i c hb
  simp only [zl,beq_iff_eq] at hc
  obtain ⟨⟨h1,h2⟩,rfl⟩:=hc
  refine qlT hm hf hb h1 h ?_
  intro B w' L ι fr a e q hs hb0
  have key:finF bx post i fr L→∃ v r os',(results fn a.tmps).run P w'=.ok v w'∧post r os'∧RVok w' (ZB L ι B.X) B.w0.heap.size r v∧(bx.isSome=true→Zas L (.b 0)=some os'.ao)∧(∀ b,r.own v b→Own L ι b):=by
   intro hfin
   have hres:(results fn a.tmps).run P w'=.ok (a.tmps.getD i undef) w':=by
    have hq:fn.results=#[.tmp i]:=by
     have:∀ (l:List ResultVar),qgb P l [.t i]=true→l=[.tmp i]:=by
      intro l hl
      cases l with
      |nil=>simp [qgb] at hl
      |cons x l=>
       cases l with
       |nil=>cases x<;>simp [qgb,qoK] at hl;subst hl;rfl
       |cons y l=>cases x<;>simp [qgb] at hl
     apply Array.ext'
     exact this _ h2
    exact results_tmp hq _ P w'
   rcases hfin with ⟨j,es,et,z,e1,e2,e3⟩|⟨et,z,z0,e1,e3⟩
   rotate_left
   ·have hsl:=hs.2.1.getD i
    rw [e1] at hsl
    have hv:a.tmps.getD i undef=.slice none 0 0:=hsl
    have hrv:RVok w' (ZB L ι B.X) B.w0.heap.size (.fr [] et z) (a.tmps.getD i undef):=by
     rw [hv]
     exact ⟨[],⟨by simp,.inl ⟨rfl,rfl⟩⟩,by simp,by simp [PRepL],by simp,fun b hb=>by simp [blk] at hb⟩
    have hno:∀ b,RV.own (.fr [] et z) (a.tmps.getD i undef) b→Own L ι b:=fun b hb=>by rw [hv] at hb;simp [RV.own,blk] at hb
    cases hbx:bx with
    |none=>rw [hbx] at e3;exact ⟨_,.fr [] et z,noOS,hres,e3,hrv,(fun h=>by cases h),hno⟩
    |some p=>
     rw [hbx] at e3
     obtain ⟨cs',g1,g2⟩:=e3
     exact ⟨_,.fr [] et z,cs',hres,g2,hrv,(fun _=>g1),hno⟩
   have hsl:=hs.2.1.getD i
   rw [e1] at hsl
   obtain ⟨hv,A,m,cp,hvs⟩:=hsl
   obtain ⟨vs,hrow,g2,g3,g4⟩:=hs.1.sim.obj _ _ e2
   have hblkO:∀ b,blk (a.tmps.getD i undef)=some b→Own L ι b:=fun b hb'=>⟨_,_,e2,by rw [← hv];exact hb'⟩
   have hrow':RowOk w' et z true (a.tmps.getD i undef) es.length vs:=by rw [hv];exact hrow
   have hZ0:bx.isSome=true→∃ q,Zas L (.b 0)=some q:=by
    intro hbs
    cases hbx:bx with
    |none=>rw [hbx] at hbs;cases hbs
    |some p=>rw [hbx] at e3;obtain ⟨cs',g1,_⟩:=e3;exact ⟨_,g1⟩
   have hrv:RVok w' (ZB L ι B.X) B.w0.heap.size (.fr es et z) (a.tmps.getD i undef):=by
    refine ⟨vs,hrow',g2,PRepL.mono (fun c _ hu=>⟨rfl,?_⟩) _ _ g3,g4,fun b hb'=>?_⟩
    ·rintro ((hx|⟨i',q',h1,h2⟩)|hx)
     ·exact hu (.inr hx)
     ·exact hu (.inl ⟨_,q',h1,h2⟩)
     ·exact hu (.inl (hblkO c hx))
    ·rcases hs.1.own b (hblkO b hb') with h'|h'
     ·obtain ⟨k0,q0,h5,h6⟩:=h'
      rw [hb0] at h5
      cases hbx:bx with
      |none=>rw [hbx] at h5;simp [l0,Zas] at h5
      |some p=>
       obtain ⟨q1,hq1⟩:=hZ0 (by rw [hbx];rfl)
       rw [hbx] at h5
       simp only [l0,Zas] at h5
       split at h5
       ·rename_i ek
        subst ek
        have hk0:ι (.b 0)=B.i0 (.b 0):=hs.1.keep (.b 0) (by rw [hb0,hbx];simp [l0,Zas]) (by rw [hq1];rfl)
        have:=hs.1.sim.inj (.b 0) (.l j) q1 _ b hq1 e2 (by rw [hk0];exact h6) (by rw [← hv];exact hb')
        cases this
       ·cases h5
     ·exact h'
   cases hbx:bx with
   |none=>rw [hbx] at e3;exact ⟨_,.fr es et z,noOS,hres,e3,hrv,(fun h=>by cases h),hblkO⟩
   |some p=>
    rw [hbx] at e3
    obtain ⟨cs',g1,g2⟩:=e3
    exact ⟨_,.fr es et z,cs',hres,g2,hrv,(fun _=>g1),hblkO⟩
  cases e with
  |normal=>exact ⟨.inl rfl,key q⟩
  |ret=>exact ⟨.inr rfl,key q⟩
  |_=>exact q.elim
 ·cases hc
theorem qpl {B:Base} {w:World} {L:Objs} {ι:Key→Value} {fr:List AV} {a:Act} (hs:StF E B w L ι fr a):∀ {is:List Nat} {ps:List PV},qrP fr is=some ps→PRepL w (fun b=>Own L ι b∨B.X b) ps (is.map fun i=>a.tmps.getD i undef)
 |[],ps,h=>by simp only [qrP,zg] at h;subst h;simp [PRepL]
 |i :: r,ps,h=>by
  simp only [qrP] at h
  split at h
  ·rename_i x e
   obtain ⟨l,hl,rfl⟩:=zk.1 h
   have hr:=hs.2.1.getD i
   rw [e] at hr
   simp only [zo,PRepL]
   exact ⟨_,_,rfl,hr,qpl hs hl⟩
  ·cases h
theorem qm0 {P:Program}:∀ {l:List ResultVar} {is:List Nat},qgb P l (is.map .t)=true→l=is.map .tmp
 |[],[],_=>rfl
 |[],_ :: _,h=>by simp [qgb] at h
 |_ :: _,[],h=>by simp [qgb] at h
 |x :: l,i :: is,h=>by
  simp only [zo,qgb,zl] at h
  cases x with
  |tmp t=>simp only [qoK,beq_iff_eq] at h;rw [h.1,qm0 h.2];rfl
  |cell t ty=>simp [qoK] at h
theorem qyg (hm:P.follows .mixedOrders=true) {f:FuncId} {fn:Func} {ic:IC} {i i2 n:Nat} {is:List Nat} {bx:Option OS} {args:List PV} {post:RV→OS→Prop} (hf:P.funcs[f]?=some fn) (hc:chkF P fn ic ((i :: i2 :: is).map .t) n=true)
  (h:awp P E ic (a0 bx args++zR (n - (a0 bx args).length) .any) (l0 bx) (retT i (i2 :: is) bx post)):GCall P E f bx args post:=by
 unfold chkF at hc
 split at hc
 ·rename_i c hb
  simp only [zl,beq_iff_eq] at hc
  obtain ⟨⟨h1,h2⟩,rfl⟩:=hc
  refine qlT hm hf hb h1 h ?_
  intro B w' L ι fr a e q hs hb0
  have key:finT bx post i (i2 :: is) fr L→∃ v r os',(results fn a.tmps).run P w'=.ok v w'∧post r os'∧RVok w' (ZB L ι B.X) B.w0.heap.size r v∧(bx.isSome=true→Zas L (.b 0)=some os'.ao)∧(∀ b,r.own v b→Own L ι b):=by
   intro hfin
   have hres:(results fn a.tmps).run P w'=.ok (.tuple ((i :: i2 :: is).map fun j=>a.tmps.getD j undef).toArray) w':=by
    have hq:fn.results=((i :: i2 :: is).map ResultVar.tmp).toArray:=by
     apply Array.ext'
     rw [qm0 h2]
    have hm1:∀ js:List Nat,((js.map ResultVar.tmp).mapM (res1 a.tmps)).run P w'=.ok (js.map fun j=>a.tmps.getD j undef) w':=by
     intro js
     induction js with
     |nil=>rfl
     |cons j js ih=>
      have h1:(res1 a.tmps (.tmp j)).run P w'=.ok (a.tmps.getD j undef) w':=rfl
      simp only [zo,List.mapM_cons,Sem.run_bind,h1,Result.andThen_ok,ih]
      rfl
    have e0:results fn a.tmps=(do let vs ← fn.results.mapM (res1 a.tmps);pure (if h:vs.size=1 then vs[0] else .tuple vs)):=by
     unfold results
     congr 1
    rw [e0,hq,Array.mapM_eq_mapM_toList]
    simp only [← bind_pure_comp,Sem.run_bind,bind_assoc]
    rw [hm1]
    simp
   rcases hfin with ⟨j,es,et,z,ps,e1,e2,e4,e3⟩|⟨et,z,z0,ps,e1,e4,e3⟩
   rotate_left
   ·have hsl:=hs.2.1.getD i
    rw [e1] at hsl
    have hv:a.tmps.getD i undef=.slice none 0 0:=hsl
    have hps:=qpl hs e4
    have hrv:RVok w' (ZB L ι B.X) B.w0.heap.size (.ft [] et z ps) (.tuple ((i :: i2 :: is).map fun j=>a.tmps.getD j undef).toArray):=by
     refine ⟨_,_,rfl,?_,PRepL.mono (fun c _ hu=>⟨rfl,?_⟩) _ _ hps⟩
     ·show FrOk w' (ZB L ι B.X) B.w0.heap.size [] et z (a.tmps.getD i undef)
      rw [hv]
      exact ⟨[],⟨by simp,.inl ⟨rfl,rfl⟩⟩,by simp,by simp [PRepL],by simp,fun b hb=>by simp [blk] at hb⟩
     ·rintro ((hx|⟨i',q',h1,h2⟩)|hx)
      ·exact hu (.inr hx)
      ·exact hu (.inl ⟨_,q',h1,h2⟩)
      ·have hx:blk (a.tmps.getD i undef)=some c:=hx
       rw [hv] at hx;simp [blk] at hx
    have hno:∀ b,RV.own (.ft [] et z ps) (.tuple ((i :: i2 :: is).map fun j=>a.tmps.getD j undef).toArray) b→Own L ι b:=fun b hb=>by
     have hb:blk (a.tmps.getD i undef)=some b:=hb
     rw [hv] at hb;simp [blk] at hb
    cases hbx:bx with
    |none=>rw [hbx] at e3;exact ⟨_,.ft [] et z ps,noOS,hres,e3,hrv,(fun h=>by cases h),hno⟩
    |some p=>
     rw [hbx] at e3
     obtain ⟨cs',g1,g2⟩:=e3
     exact ⟨_,.ft [] et z ps,cs',hres,g2,hrv,(fun _=>g1),hno⟩
   have hsl:=hs.2.1.getD i
   rw [e1] at hsl
   obtain ⟨hv,A,m,cp,hvs⟩:=hsl
   obtain ⟨vs,hrow,g2,g3,g4⟩:=hs.1.sim.obj _ _ e2
   have hblkO:∀ b,blk (a.tmps.getD i undef)=some b→Own L ι b:=fun b hb'=>⟨_,_,e2,by rw [← hv];exact hb'⟩
   have hrow':RowOk w' et z true (a.tmps.getD i undef) es.length vs:=by rw [hv];exact hrow
   have hZ0:bx.isSome=true→∃ q,Zas L (.b 0)=some q:=by
    intro hbs
    cases hbx:bx with
    |none=>rw [hbx] at hbs;cases hbs
    |some p=>rw [hbx] at e3;obtain ⟨cs',g1,_⟩:=e3;exact ⟨_,g1⟩
   have hkz:Keeps w' w' (fun b=>Own L ι b∨B.X b) (fun b=>ZB L ι B.X b∨blk (a.tmps.getD i undef)=some b):=by
    refine fun c _ hu=>⟨rfl,?_⟩
    rintro ((hx|⟨i',q',h1,h2⟩)|hx)
    ·exact hu (.inr hx)
    ·exact hu (.inl ⟨_,q',h1,h2⟩)
    ·exact hu (.inl (hblkO c hx))
   have hrv:RVok w' (ZB L ι B.X) B.w0.heap.size (.ft es et z ps) (.tuple ((i :: i2 :: is).map fun j=>a.tmps.getD j undef).toArray):=by
    refine ⟨_,_,rfl,⟨vs,hrow',g2,PRepL.mono hkz _ _ g3,g4,fun b hb'=>?_⟩,PRepL.mono hkz _ _ (qpl hs e4)⟩
    rcases hs.1.own b (hblkO b hb') with h'|h'
    ·obtain ⟨k0,q0,h5,h6⟩:=h'
     rw [hb0] at h5
     cases hbx:bx with
     |none=>rw [hbx] at h5;simp [l0,Zas] at h5
     |some p=>
      obtain ⟨q1,hq1⟩:=hZ0 (by rw [hbx];rfl)
      rw [hbx] at h5
      simp only [l0,Zas] at h5
      split at h5
      ·rename_i ek
       subst ek
       have hk0:ι (.b 0)=B.i0 (.b 0):=hs.1.keep (.b 0) (by rw [hb0,hbx];simp [l0,Zas]) (by rw [hq1];rfl)
       have:=hs.1.sim.inj (.b 0) (.l j) q1 _ b hq1 e2 (by rw [hk0];exact h6) (by rw [← hv];exact hb')
       cases this
      ·cases h5
    ·exact h'
   have hown2:∀ b,RV.own (.ft es et z ps) (.tuple ((i :: i2 :: is).map fun j=>a.tmps.getD j undef).toArray) b→Own L ι b:=fun b hb=>hblkO b hb
   cases hbx:bx with
   |none=>rw [hbx] at e3;exact ⟨_,.ft es et z ps,noOS,hres,e3,hrv,(fun h=>by cases h),hown2⟩
   |some p=>
    rw [hbx] at e3
    obtain ⟨cs',g1,g2⟩:=e3
    exact ⟨_,.ft es et z ps,cs',hres,g2,hrv,(fun _=>g1),hown2⟩
  cases e with
  |normal=>exact ⟨.inl rfl,key q⟩
  |ret=>exact ⟨.inr rfl,key q⟩
  |_=>exact q.elim
 ·cases hc
def qfU (P:Program) (E:Envt) (f:FuncId) (t:TypeId) (cs args:List PV) (ψ:PV→List PV→Prop):Prop:=GCall P E f (some (.box t cs)) args fun r os=>∃ x cs',r=.p x∧os=.box t cs'∧ψ x cs'
def qqO (P:Program) (E:Envt) (f:FuncId) (t:TypeId) (cs args:List PV) (e z:Nat) (ψ:List (List PV)→List PV→Prop):Prop:=GCall P E f (some (.box t cs)) args fun r os=>∃ es cs',r=.fr es e z∧os=.box t cs'∧ψ es cs'
def FCall (P:Program) (E:Envt) (f:FuncId) (args:List PV) (e z:Nat) (φ:List (List PV)→Prop):Prop:=GCall P E f none args fun r _=>∃ es,r=.fr es e z∧φ es
def RCall (P:Program) (E:Envt) (f:FuncId) (e z:Nat) (es:List (List PV)) (args:List PV) (ψ:PV→List (List PV)→Prop):Prop:=GCall P E f (some (.row e z es)) args fun r os=>∃ x es',r=.p x∧os=.row e z es'∧ψ x es'
def qvU (P:Program) (E:Envt) (f:FuncId) (pre:List PV) (e z:Nat) (es:List (List PV)) (args:List PV) (ψ:PV→List (List PV)→Prop):Prop:=GCallP P E f pre (some (.row e z es)) args fun r os=>∃ x es',r=.p x∧os=.row e z es'∧ψ x es'
def STup (P:Program) (E:Envt) (f:FuncId) (t:TypeId) (cs args:List PV) (e z:Nat) (ψ:List (List PV)→List PV→List PV→Prop):Prop:=GCall P E f (some (.box t cs)) args fun r os=>∃ es ps cs',r=.ft es e z ps∧os=.box t cs'∧ψ es ps cs'
theorem qnu {f:FuncId} {args:List PV} {e z:Nat} {φ:List (List PV)→Prop} (h:FCall P E f args e z φ):PCall P E f args (fun x=>∃ es,x=.sl z es∧φ es):=by
 intro w U vs hU hE hEb hA
 refine (h w U vs undef hU hE (fun c hc=>⟨hEb c hc,fun h=>by cases h⟩) hA trivial).mono ?_
 rintro en w' ⟨v,r,cs',rfl,⟨es,rfl,hφ⟩,⟨vs',r1,r2,r3,r4,r5⟩,hG⟩
 refine ⟨v,.sl z es,rfl,⟨es,rfl,hφ⟩,?_,hG⟩
 rcases r1.2 with ⟨g1,g2⟩|⟨g,cap,cur,fz,g1,g2,g3,_⟩
 ·exact ⟨none,0,by rw [g1,g2],by omega,fun hne=>absurd (zz g2) hne⟩
 ·have hgl:g < w'.heap.size:=(zF.1 g2).1
  refine ⟨_,cap,g1,g3,fun _=>⟨g,0,rfl,hgl,fun hu=>?_,?_⟩⟩
  ·have:=hU g hu
   have:=r5 g (by rw [g1];rfl)
   omega
  ·have hc:=r1.cells g1
   have key:∀ (es:List (List PV)) (vs:List Value) (off:Nat),(∀ x∈es,x.length=z)→PRepL w' (fun b=>U b∨blk v=some b) es.flatten vs→(∀ v∈vs,v.oneCell'=true)→(∀ j u,vs[j]?=some u→w'.cell? ⟨g,off+j,none⟩=some u)→PRepE w' U g z off es:=by
    intro es
    induction es with
    |nil=>intros;simp [PRepE]
    |cons x r ih=>
     intro vs off hz hv h1 hc
     simp only [PRepE]
     have hx:=hz x (by simp)
     simp only [List.flatten_cons] at hv
     have ha:=hv.take x.length
     have hb:=hv.drop x.length
     rw [List.take_left] at ha
     rw [List.drop_left] at hb
     refine ⟨hx,PRepC.of (PRepL.mono (fun c _ hu=>⟨rfl,fun h=>hu (.inl h)⟩) _ _ ha) (fun v hv=>h1 v (List.mem_of_mem_take hv)) (fun j u hu=>hc j u (by rw [yg] at hu;split at hu;exact hu;cases hu)),ih _ (off+z) (fun y hy=>hz y (by simp [hy])) hb (fun v hv=>h1 v (List.mem_of_mem_drop hv)) (fun j u hu=>?_)⟩
     rw [z7] at hu
     have:=hc _ u hu
     rwa [hx,← Nat.add_assoc] at this
   exact key es vs' 0 r4 r3 r2 (fun j u hu=>by rw [Nat.zero_add];exact hc j u hu)
variable {L:Objs} {fr:List AV} {X:List PV} {K:List AV→Objs→Prop}
theorem qzM {f:FuncId} {as:List AV} {ps:List PV} {post:RV→OS→Prop} (h:GCall P E f none ps post) (ha:Zbh L as=some ps) (hn:Zbj as=true):GC P E f as L none post:=by
 intro w X ι vs hs hX hE hEb hA
 exact h w (fun b=>Own L ι b∨X b) vs undef (fun b hb=>hb.elim (fun h=>qbJ hs h) (fun h=>(hX b h).1)) hE (fun b hb=>⟨(hEb b hb).1,fun h=>by cases h⟩) (qiy hn ha hA) trivial
def AV.key1 (k:Key):OS→AV
 |.box _ _=>.adr k 0
 |.row _ _ _=>.row k
theorem qqo {f:FuncId} {as:List AV} {ps:List PV} {os:OS} {k:Key} {post:RV→OS→Prop} (h:GCall P E f (some os) ps post) (hl:Zas L k=some os.ao) (ha:Zbh L as=some ps) (hn:Zbj as=true):GC P E f (AV.key1 k os :: as) L (some (k,os)) post:=by
 intro w X ι vs hs hX hE hEb hA
 simp only [ARepL] at hA
 obtain ⟨v0,vr,rfl,hv0,hA⟩:=hA
 have hv0:v0=ι k:=by
  cases os with
  |box t cs=>obtain ⟨b,e1,e2⟩:=hv0;rw [e1,e2]
  |row e z es=>exact hv0.1
 subst hv0
 have hOb:∀ c,blk (ι k)=some c→Own L ι c:=fun c hc=>⟨k,_,hl,hc⟩
 refine (h w (fun b=>Own L ι b∨X b) vr (ι k) (fun b hb=>hb.elim (fun h=>qbJ hs h) (fun h=>(hX b h).1)) hE (fun c hc=>⟨(hEb c hc).1,fun _ e=>(hEb c hc).2 (hOb c e)⟩) (qiy hn ha hA) ⟨fun c hc=>.inl (hOb c hc),ObjAt.of (hs.obj k _ hl)⟩).mono ?_
 rintro e w' ⟨v,r,os',rfl,hp,hr,hG,hB⟩
 exact ⟨v,r,os',rfl,hp,hr,⟨hG.os,hG.tape,hG.output,hG.size,fun c hc hn=>hG.block c hc (fun ec=>hn ⟨_,hl,ec⟩)⟩,hB⟩
theorem qqJ {w:World} {U:Nat→Prop} {ι:Key→Value}:∀ {as:List AV} {ps:List PV} {vs:List Value},qhG as=some ps→ARepL w U ι as vs→PRepL w U ps vs:=by
 intro as
 induction as with
 |nil=>intro ps vs h hr;simp only [qhG,zg] at h;subst h;exact hr
 |cons a as ih=>
  intro ps vs h hr
  cases a with
  |p x=>
   simp only [qhG,zk] at h
   obtain ⟨l,e2,rfl⟩:=h
   simp only [ARepL] at hr
   obtain ⟨v,r,rfl,h1,h2⟩:=hr
   simp only [PRepL]
   exact ⟨v,r,rfl,h1,ih e2 h2⟩
  |_=>simp [qhG] at h
theorem ARepL.split {w:World} {U:Nat→Prop} {ι:Key→Value}:∀ {as bs:List AV} {vs:List Value},ARepL w U ι (as++bs) vs→∃ us ws,vs=us++ws∧ARepL w U ι as us∧ARepL w U ι bs ws
 |[],bs,vs,h=>⟨[],vs,rfl,by simp [ARepL],h⟩
 |a :: as,bs,vs,h=>by
  simp only [zp,ARepL] at h
  obtain ⟨v,r,rfl,h1,h2⟩:=h
  obtain ⟨us,ws,rfl,h3,h4⟩:=ARepL.split h2
  exact ⟨v :: us,ws,rfl,by simp only [ARepL];exact ⟨v,us,rfl,h1,h3⟩,h4⟩
theorem qzL {f:FuncId} {as0 as:List AV} {pre ps:List PV} {os:OS} {k:Key} {post:RV→OS→Prop} (h:GCallP P E f pre (some os) ps post) (hl:Zas L k=some os.ao) (ha0:qhG as0=some pre) (ha:Zbh L as=some ps) (hn:Zbj as=true):GC P E f (as0++AV.key1 k os :: as) L (some (k,os)) post:=by
 intro w X ι vs hs hX hE hEb hA
 obtain ⟨us,ws,hvs,hA0,hA1⟩:=ARepL.split hA
 clear hA
 subst hvs
 simp only [ARepL] at hA1
 obtain ⟨v0,vr,hws,hv0,hA2⟩:=hA1
 subst hws
 have hv0:v0=ι k:=by
  cases os with
  |box t cs=>obtain ⟨b,e1,e2⟩:=hv0;rw [e1,e2]
  |row e z es=>exact hv0.1
 subst hv0
 have hOb:∀ c,blk (ι k)=some c→Own L ι c:=fun c hc=>⟨k,_,hl,hc⟩
 refine (h w (fun b=>Own L ι b∨X b) us vr (ι k) (fun b hb=>hb.elim (fun h=>qbJ hs h) (fun h=>(hX b h).1)) hE (fun c hc=>⟨(hEb c hc).1,fun _ e=>(hEb c hc).2 (hOb c e)⟩) (qqJ ha0 hA0) (qiy hn ha hA2) ⟨fun c hc=>.inl (hOb c hc),ObjAt.of (hs.obj k _ hl)⟩).mono ?_
 rintro e w' ⟨v,r,os',rfl,hp,hr,hG,hB⟩
 exact ⟨v,r,os',rfl,hp,hr,⟨hG.os,hG.tape,hG.output,hG.size,fun c hc hn=>hG.block c hc (fun ec=>hn ⟨_,hl,ec⟩)⟩,hB⟩
theorem useS {f:FuncId} {as:List AV} {ps cs:List PV} {t:TypeId} {k:Key} {ψ:PV→List PV→Prop} {d:Option Nat} {is:List IOper} (h:qfU P E f t cs ps ψ) (hl:Zas L k=some (.box (cs.map .p) t)) (ha:Zbh L as=some ps) (hn:Zbj as=true) (hs:Zbl d (some (k,.box t cs)))
  (hk:∀ x cs',ψ x cs'→qaa P E X is (Zg fr d (.p x)) (Zat L k (.box (cs'.map .p) t)) K):qdN P E f (.adr k 0 :: as) L d fr (qim P E X is K):=
 .inr (.inl ⟨some (k,.box t cs),_,qqo h hl ha hn,hl,hs,fun r os' hp=>by obtain ⟨x,cs',rfl,rfl,hx⟩:=hp;exact hk x cs' hx⟩)
theorem qll {L L':Objs}:∀ {as:List AV},Zbj as=true→Zbh L as=Zbh L' as
 |[],_=>rfl
 |a :: r,h=>by
  have e:Zbi L a=Zbi L' a∧Zbj r=true:=by
   cases a<;>simp only [Zbj,Bool.false_eq_true,zl,List.isEmpty_iff] at h
   case fn f ks=>obtain ⟨rfl,h⟩:=h;exact ⟨rfl,h⟩
   all_goals exact ⟨rfl,h⟩
  simp only [Zbh]
  rw [e.1,qll (L:=L) (L':=L') e.2]
theorem useD {b:Bool} {f:FuncId} {as:List AV} {ps cs:List PV} {t:TypeId} {k:Key} {ψ:PV→List PV→Prop} {d:Option Nat} {is:List IOper} (h:qfU P E f t cs ps ψ) (hne:∃ x cs',ψ x cs') (hl:Zas L k=some (.box (cs.map .p) t)) (ha:Zbh L as=some ps) (hn:Zbj as=true) (hs:Zbl d (some (k,.box t cs))) (hb:b=true→∃ j,k=.b j)
  (hk:∀ x cs',ψ x cs'→qaa P E X is (Zg fr d (.p x)) (Zat L k (.box (cs'.map .p) t)) K):DCallOp b P E f (.adr k 0 :: as) L d fr (qim P E X is K):=
 ⟨k,t,cs,ψ,fun L' hl'=>qqo h hl' ((qll hn).symm.trans ha) hn,hl,(fun e he=>by subst he;exact hs),hb,hne,hk⟩
theorem qAC {f:FuncId} {as:List AV} {ps cs:List PV} {t:TypeId} {k:Key} {e z:Nat} {ψ:List (List PV)→List PV→Prop} {d:Nat} {is:List IOper} (h:qqO P E f t cs ps e z ψ) (hl:Zas L k=some (.box (cs.map .p) t)) (ha:Zbh L as=some ps) (hn:Zbj as=true) (hs:Zbl (some d) (some (k,.box t cs)))
  (hk:∀ es cs',ψ es cs'→qaa P E X is ((fr.map (·.kill (.l d))).set d (.row (.l d))) (Zav (Zat L k (.box (cs'.map .p) t)) (.l d) (.row es e z true)) K):qdN P E f (.adr k 0 :: as) L (some d) fr (qim P E X is K):=
 .inr (.inl ⟨some (k,.box t cs),_,qqo h hl ha hn,hl,hs,fun r os' hp=>by obtain ⟨es,cs',rfl,rfl,hx⟩:=hp;exact hk es cs' hx⟩)
theorem qAB {f:FuncId} {as:List AV} {ps cs:List PV} {t:TypeId} {k:Key} {e z:Nat} {ψ:List (List PV)→List PV→List PV→Prop} {d:Nat} {is:List IOper} (h:STup P E f t cs ps e z ψ) (hl:Zas L k=some (.box (cs.map .p) t)) (ha:Zbh L as=some ps) (hn:Zbj as=true) (hs:Zbl (some d) (some (k,.box t cs)))
  (hk:∀ es xs cs',ψ es xs cs'→qaa P E X is ((fr.map (·.kill (.l d))).set d (.tr (.l d) xs)) (Zav (Zat L k (.box (cs'.map .p) t)) (.l d) (.row es e z true)) K):qdN P E f (.adr k 0 :: as) L (some d) fr (qim P E X is K):=
 .inr (.inl ⟨some (k,.box t cs),_,qqo h hl ha hn,hl,hs,fun r os' hp=>by obtain ⟨es,xs,cs',rfl,rfl,hx⟩:=hp;exact hk es xs cs' hx⟩)
theorem useF {f:FuncId} {as:List AV} {ps:List PV} {e z:Nat} {φ:List (List PV)→Prop} {d:Nat} {is:List IOper} (h:FCall P E f ps e z φ) (ha:Zbh L as=some ps) (hn:Zbj as=true)
  (hk:∀ es,φ es→qaa P E X is ((fr.map (·.kill (.l d))).set d (.row (.l d))) (Zav L (.l d) (.row es e z true)) K):qdN P E f as L (some d) fr (qim P E X is K):=
 .inr (.inl ⟨none,_,qzM h ha hn,trivial,trivial,fun r cs' hp=>by obtain ⟨es,rfl,hx⟩:=hp;exact hk es hx⟩)
theorem qqK:∀ ps:List PV,qhG (ps.map .p)=some ps
 |[]=>rfl
 |x :: r=>by simp only [zo,qhG,qqK r,zQ]
theorem qBS {f:FuncId} {ps:List PV} {e z:Nat} {es:List (List PV)} (h:FCall P E f ps e z (·=es)):FrC P E f ps e z es:=fun L w X ι vs hs hX hE hEb hA=>
 (h w (fun b=>Own L ι b∨X b) vs undef (fun b hb=>hb.elim (fun h=>qbJ hs h) (fun h=>(hX b h).1)) hE (fun b hb=>⟨(hEb b hb).1,fun h=>by cases h⟩) (qqJ (qqK ps) hA) trivial).mono (by
  rintro en w' ⟨v,r,cs',rfl,⟨es',rfl,rfl⟩,h2⟩
  exact ⟨v,_,cs',rfl,rfl,h2⟩)
theorem useR {f:FuncId} {as:List AV} {ps:List PV} {e z:Nat} {es:List (List PV)} {k:Key} {ψ:PV→List (List PV)→Prop} {d:Option Nat} {is:List IOper} (h:RCall P E f e z es ps ψ) (hl:Zas L k=some (.row es e z true)) (ha:Zbh L as=some ps) (hn:Zbj as=true) (hs:Zbl d (some (k,.row e z es)))
  (hk:∀ x es',ψ x es'→qaa P E X is (Zg fr d (.p x)) (Zat L k (.row es' e z true)) K):qdN P E f (.row k :: as) L d fr (qim P E X is K):=
 .inr (.inl ⟨some (k,.row e z es),_,qqo h hl ha hn,hl,hs,fun r os' hp=>by obtain ⟨x,es',rfl,rfl,hx⟩:=hp;exact hk x es' hx⟩)
theorem qBR {f:FuncId} {as as0 as1:List AV} {pre ps:List PV} {e z:Nat} {es:List (List PV)} {k:Key} {ψ:PV→List (List PV)→Prop} {d:Option Nat} {is:List IOper} (h:qvU P E f pre e z es ps ψ) (he:as=as0++.row k :: as1) (hl:Zas L k=some (.row es e z true)) (ha0:qhG as0=some pre) (ha:Zbh L as1=some ps) (hn:Zbj as1=true) (hs:Zbl d (some (k,.row e z es)))
  (hk:∀ x es',ψ x es'→qaa P E X is (Zg fr d (.p x)) (Zat L k (.row es' e z true)) K):qdN P E f as L d fr (qim P E X is K):=by
 subst he
 exact .inr (.inl ⟨some (k,.row e z es),_,qzL h hl ha0 ha hn,hl,hs,fun r os' hp=>by obtain ⟨x,es',rfl,rfl,hx⟩:=hp;exact hk x es' hx⟩)
theorem GCall.mono {f:FuncId} {bx:Option OS} {args:List PV} {post post':RV→OS→Prop} (h:GCall P E f bx args post) (hp:∀ r os,post r os→post' r os):GCall P E f bx args post':=by
 intro w U vs v0 hU hE hEb hA hB
 refine (h w U vs v0 hU hE hEb hA hB).mono ?_
 rintro e w' ⟨v,r,os',h1,h2,h3⟩
 exact ⟨v,r,os',h1,hp r os' h2,h3⟩
theorem RCall.mono {f:FuncId} {e z:Nat} {es:List (List PV)} {args:List PV} {ψ ψ':PV→List (List PV)→Prop} (h:RCall P E f e z es args ψ) (hp:∀ x es,ψ x es→ψ' x es):RCall P E f e z es args ψ':=
 GCall.mono h fun r os ⟨x,es',h1,h2,h3⟩=>⟨x,es',h1,h2,hp x es' h3⟩
theorem FCall.mono {f:FuncId} {e z:Nat} {args:List PV} {φ φ':List (List PV)→Prop} (h:FCall P E f args e z φ) (hp:∀ es,φ es→φ' es):FCall P E f args e z φ':=
 GCall.mono h fun r os ⟨es,h1,h2⟩=>⟨es,h1,hp es h2⟩
theorem PCall.mono {f:FuncId} {args:List PV} {φ φ':PV→Prop} (h:PCall P E f args φ) (hp:∀ x,φ x→φ' x):PCall P E f args φ':=by
 intro w U vs hU hE hEb hA
 refine (h w U vs hU hE hEb hA).mono ?_
 rintro e w' ⟨v,x,h1,h2,h3⟩
 exact ⟨v,x,h1,hp x h2,h3⟩
theorem qeF {t:TypeId} {cs:List PV} {ψ:PV→List PV→Prop} {x:PV} (cs':List PV) (h1:Zas L (.b 0)=some (.box (cs'.map .p) t)) (h2:ψ x cs'):finP (some (.box t cs)) (fun r os=>∃ x cs',r=.p x∧os=.box t cs'∧ψ x cs') x L:=⟨.box t cs',h1,x,cs',rfl,rfl,h2⟩
theorem qlE {e z:Nat} {es:List (List PV)} {ψ:PV→List (List PV)→Prop} {x:PV} (es':List (List PV)) (h1:Zas L (.b 0)=some (.row es' e z true)) (h2:ψ x es'):finP (some (.row e z es)) (fun r os=>∃ x es',r=.p x∧os=.row e z es'∧ψ x es') x L:=⟨.row e z es',h1,x,es',rfl,rfl,h2⟩
theorem ql7 {i e z:Nat} {φ:List (List PV)→Prop} (j:Nat) (es:List (List PV)) (h0:fr.getD i .any=.row (.l j)) (h1:Zas L (.l j)=some (.row es e z true)) (h2:φ es):finF none (fun r _=>∃ es,r=.fr es e z∧φ es) i fr L:=.inl ⟨j,es,e,z,h0,h1,es,rfl,h2⟩
theorem qvn {i e z:Nat} {t:TypeId} {cs:List PV} {ψ:List (List PV)→List PV→Prop} (j:Nat) (es:List (List PV)) (cs':List PV) (h0:fr.getD i .any=.row (.l j)) (h1:Zas L (.l j)=some (.row es e z true)) (h3:Zas L (.b 0)=some (.box (cs'.map .p) t)) (h2:ψ es cs'):finF (some (.box t cs)) (fun r os=>∃ es cs',r=.fr es e z∧os=.box t cs'∧ψ es cs') i fr L:=.inl ⟨j,es,e,z,h0,h1,.box t cs',h3,es,cs',rfl,rfl,h2⟩
theorem qvm {i e z:Nat} {is:List Nat} {t:TypeId} {cs:List PV} {ψ:List (List PV)→List PV→List PV→Prop} (j:Nat) (es:List (List PV)) (ps cs':List PV) (h0:fr.getD i .any=.row (.l j)) (h1:Zas L (.l j)=some (.row es e z true)) (h4:qrP fr is=some ps) (h3:Zas L (.b 0)=some (.box (cs'.map .p) t)) (h2:ψ es ps cs'):finT (some (.box t cs)) (fun r os=>∃ es ps cs',r=.ft es e z ps∧os=.box t cs'∧ψ es ps cs') i is fr L:=.inl ⟨j,es,e,z,ps,h0,h1,h4,.box t cs',h3,es,ps,cs',rfl,rfl,h2⟩
end
end Go.Proofs.YtmpdnpljdcincaaGreatDoor
namespace Go.Proofs.YtmpdnpljdcincaaGreatDoor
open Go.RowKit
def qrE:PV→Bool
 |.int ..|.bool _|.str _=>true
 |_=>false
def valD:PV→Value
 |.int k n=>.int k n
 |.bool b=>.bool b
 |.str s=>.string ⟨s.toArray⟩
 |_=>undef
theorem PRep.valD {w:World} {U:Nat→Prop} {x:PV} {v:Value} (hf:qrE x=true):PRep w U x v↔v=valD x:=by
 cases x<;>simp_all [qrE,PRep,Go.Proofs.YtmpdnpljdcincaaGreatDoor.valD]
theorem PRepL.valD {w:World} {U:Nat→Prop}:∀ {xs:List PV} {vs:List Value},(xs.all qrE)=true→(PRepL w U xs vs↔vs=xs.map Go.Proofs.YtmpdnpljdcincaaGreatDoor.valD):=by
 intro xs
 induction xs with
 |nil=>intro vs _;simp [PRepL]
 |cons x r ih=>
  intro vs h
  simp only [List.all_cons,Bool.and_eq_true] at h
  simp only [PRepL,List.map_cons]
  constructor
  ·rintro ⟨v,s,rfl,h1,h2⟩
   rw [PRep.valD h.1] at h1
   rw [ih h.2] at h2
   rw [h1,h2]
  ·rintro rfl
   exact ⟨_,_,rfl,(PRep.valD h.1).2 rfl,(ih h.2).2 rfl⟩
section
variable {P:Program} {E:Envt}
theorem qc0 {w w':World} {O:Nat→Prop} (h:Below w.heap.size w w'):Grow w w' O:=⟨h.os,h.tape,h.output,h.size,fun b hb _=>h.block b hb⟩
def qxd:PV→Bool
 |.tup cs=>cs.all qrE
 |x=>qrE x
def valX:PV→Value
 |.tup cs=>.tuple (cs.map valD).toArray
 |x=>valD x
theorem PRep.valX {w:World} {U:Nat→Prop} {x:PV} (hf:qxd x=true):PRep w U x (valX x):=by
 cases x with
 |tup cs=>exact ⟨_,rfl,(PRepL.valD (by simpa [qxd] using hf)).2 rfl⟩
 |int k n=>rfl
 |bool b=>rfl
 |str s=>rfl
 |_=>simp [qxd,qrE] at hf
theorem qbp {f:FuncId} {args:List PV} {r:PV} (ha:args.all qrE=true) (hr:qxd r=true) (h:∀ w,E.ok w→Calls P f (args.map valD).toArray w fun e w'=>e=.returned (valX r)∧Grow w w' (fun _=>False)):PCall P E f args (·=r):=by
 intro w U vs hU hE hEb hA
 rw [PRepL.valD ha] at hA
 subst hA
 refine (h w hE).mono ?_
 rintro e w' ⟨rfl,hg⟩
 exact ⟨_,r,rfl,rfl,PRep.valX hr,hg⟩
end
end Go.Proofs.YtmpdnpljdcincaaGreatDoor
namespace Go.Proofs.YtmpdnpljdcincaaGreatDoor
open Option.some renaming injEq→zg
open List renaming getElem?_map→zA
open Option renaming map_eq_some_iff→zk
def qvF (w:World) (T:TypeId) (b x:Nat):Prop:=∃ p u,w.heap[b]?=some (.cells #[p,u] T (0,0))∧u.ownBlock=some x
def SbPost (T e:TypeId) (b:Nat) (bs:List UInt8) (w w':World):Prop:=
 (∃ v,w'.heap[b]?=some (.cells #[.pointer (some ⟨b,0,none⟩),v] T (0,0))∧w'.ownsRow 0 e 1 v bs.length (Lib.byteCells bs)∧v.ownBlock≠some b∧∀ x,v.ownBlock=some x→qvF w T b x∨w.heap.size≤x)∧Grow w w' (fun x=>x=b∨qvF w T b x)
section
variable {w w1 w2:World} {T e:TypeId} {b:Nat} {v v':Value} {bs:List UInt8} {p:Value}
theorem qxv (h:w.heap[b]?=some (.cells #[p,v] T (0,0))) {x:Nat}:qvF w T b x↔v.ownBlock=some x:=by
 constructor
 ·rintro ⟨q,u,h1,h2⟩
  rw [h] at h1
  simp at h1
  rw [h1.2];exact h2
 ·intro h2;exact ⟨_,_,h,h2⟩
theorem qvd {q:Value} (h:w.heap[b]?=some (.cells #[p,v] T (0,0))):(w.setCell ⟨b,0,none⟩ q).heap[b]?=some (.cells #[q,v] T (0,0)):=by
 simp [World.setCell,Array.getElem?_modify,h]
theorem qql {O:Nat→Prop} (off:Nat) (q:Value) (hO:O b):Grow w (w.setCell ⟨b,off,none⟩ q) O:=
 ⟨rfl,rfl,rfl,by simp [World.setCell],fun c _ hn=>heap_setCell_other _ _ _ _ (fun e=>hn (by subst e;exact hO))⟩
theorem SbPost.behind {q:Value} (hbk:w.heap[b]?=some (.cells #[q,.slice none 0 0] T (0,0))) (h:SbPost T e b bs (w.setCell ⟨b,0,none⟩ (.pointer (some ⟨b,0,none⟩))).drew w2):SbPost T e b bs w w2:=by
 obtain ⟨⟨u,h1,h2,h3,h4⟩,hG⟩:=h
 have hk:=qvd (q:=.pointer (some ⟨b,0,none⟩)) hbk
 have hno:∀ x,¬ qvF (w.setCell ⟨b,0,none⟩ (.pointer (some ⟨b,0,none⟩))).drew T b x:=fun x hx=>by
  have:=(qxv (w:=(w.setCell ⟨b,0,none⟩ (.pointer (some ⟨b,0,none⟩))).drew) hk).1 hx
  simp [Value.ownBlock] at this
 refine ⟨⟨u,h1,h2,h3,fun x hx=>?_⟩,?_⟩
 ·rcases h4 x hx with h|h
  ·exact (hno x h).elim
  ·exact .inr (by simpa [World.setCell] using h)
 ·refine (qql (w:=w) 0 (.pointer (some ⟨b,0,none⟩)) (O:=fun x=>x=b∨qvF w T b x) (.inl rfl)).drew.trans hG (fun c hc=>?_)
  rcases hc with h|h
  ·exact .inl (.inl h)
  ·exact (hno c h).elim
end
section
variable {P:Program} {E:Envt} {w w':World} {X:Nat→Prop} {U:Nat→Prop} {L:Objs} {ι:Key→Value} {k:Key} {i:Nat} {T e:TypeId} {s s':List UInt8}
variable {fr:List AV} {d:Option Nat} {is:List IOper} {Y:List PV} {K:List AV→Objs→Prop}
end
def qum (f:Key→Option Key):List Key→Option (List Key)
 |[]=>some []
 |k :: r=>match f k with
  |some k'=>(qum f r).map (k' :: ·)
  |none=>none
def qoo (f:Key→Option Key):List CV→Option (List CV)
 |[]=>some []
 |.p p :: r=>(qoo f r).map (.p p :: ·)
 |.row k :: r=>match f k with
  |some k'=>(qoo f r).map (.row k' :: ·)
  |none=>none
 |.mp k :: r=>match f k with
  |some k'=>(qoo f r).map (.mp k' :: ·)
  |none=>none
def AV.ren (f:Key→Option Key):AV→AV
 |.p x=>.p x
 |.row k=>match f k with|some k'=>.row k'|none=>.any
 |.adr k o=>match f k with|some k'=>.adr k' o|none=>.any
 |.rad k z i o=>match f k with|some k'=>.rad k' z i o|none=>.any
 |.ipt z es i o=>.ipt z es i o
 |.mp k=>match f k with|some k'=>.mp k'|none=>.any
 |.fn fi ks=>match qum f ks with|some ks'=>.fn fi ks'|none=>.any
 |.g c a=>.g c (a.ren f)
 |.ag cs=>match qoo f cs with|some cs'=>.ag cs'|none=>.any
 |.tr k ps=>match f k with|some k'=>.tr k' ps|none=>.any
 |.any=>.any
def AO.ren (f:Key→Option Key):AO→AO
 |.box cs t=>.box (cs.map (·.ren f)) t
 |.row es e z ap=>.row es e z ap
 |.map kv a b=>.map kv a b
 |.rowv es e z=>.rowv (es.map (·.map (·.ren f))) e z
 |.mapv kv a b=>.mapv (kv.map fun p=>(p.1,p.2.ren f)) a b
 |.mit last kv=>.mit last kv
def mapO (f:Key→Option Key):Objs→Objs
 |[]=>[]
 |(k,a) :: r=>match f k with
  |some k'=>(k',a.ren f) :: mapO f r
  |none=>mapO f r
section
variable {w w':World} {U:Nat→Prop} {ι ι':Key→Value} {f:Key→Option Key}
theorem qpS (hf:∀ k k',f k=some k'→ι' k'=ι k):∀ {ks ks':List Key},qum f ks=some ks'→ks'.map ι'=ks.map ι
 |[],ks',h=>by simp only [qum,zg] at h;subst h;rfl
 |k :: r,ks',h=>by
  simp only [qum] at h
  split at h
  ·rename_i k' e
   obtain ⟨r',h1,rfl⟩:=zk.1 h
   simp only [List.map_cons,qpS hf h1,hf k k' e]
  ·cases h
theorem qkS (hf:∀ k k',f k=some k'→ι' k'=ι k):∀ {cs cs':List CV},qoo f cs=some cs'→cs'.length=cs.length∧∀ (j:Nat) (x':CV),cs'[j]?=some x'→∃ x,cs[j]?=some x∧∀ w U v,CRep w U ι x v→CRep w U ι' x' v
 |[],cs',h=>by simp only [qoo,zg] at h;subst h;simp
 |.p p :: r,cs',h=>by
  simp only [qoo] at h
  obtain ⟨r',h1,rfl⟩:=zk.1 h
  obtain ⟨g1,g2⟩:=qkS hf h1
  refine ⟨by simp [g1],fun j x' hx=>?_⟩
  cases j with
  |zero=>simp at hx;subst hx;exact ⟨_,rfl,fun w U v h=>h⟩
  |succ j=>simp at hx;simpa using g2 j x' hx
 |.row k :: r,cs',h=>by
  simp only [qoo] at h
  split at h
  ·rename_i k' e
   obtain ⟨r',h1,rfl⟩:=zk.1 h
   obtain ⟨g1,g2⟩:=qkS hf h1
   refine ⟨by simp [g1],fun j x' hx=>?_⟩
   cases j with
   |zero=>simp at hx;subst hx;exact ⟨_,rfl,fun w U v h=>by simp only [CRep] at h ⊢;rw [hf k k' e];exact h⟩
   |succ j=>simp at hx;simpa using g2 j x' hx
  ·cases h
 |.mp k :: r,cs',h=>by
  simp only [qoo] at h
  split at h
  ·rename_i k' e
   obtain ⟨r',h1,rfl⟩:=zk.1 h
   obtain ⟨g1,g2⟩:=qkS hf h1
   refine ⟨by simp [g1],fun j x' hx=>?_⟩
   cases j with
   |zero=>simp at hx;subst hx;exact ⟨_,rfl,fun w U v h=>by simp only [CRep] at h ⊢;rw [hf k k' e];exact h⟩
   |succ j=>simp at hx;simpa using g2 j x' hx
  ·cases h
theorem ARep.ren (hf:∀ k k',f k=some k'→ι' k'=ι k):∀ {a:AV} {u:Value},ARep w U ι a u→ARep w U ι' (a.ren f) u
 |.p x,u,h=>h
 |.row k,u,h=>by
  simp only [AV.ren];split
  ·rename_i k' e;simpa [ARep,hf k k' e] using h
  ·trivial
 |.adr k o,u,h=>by
  simp only [AV.ren];split
  ·rename_i k' e;simpa [ARep,hf k k' e] using h
  ·trivial
 |.rad k z i o,u,h=>by
  simp only [AV.ren];split
  ·rename_i k' e;simpa [ARep,hf k k' e] using h
  ·trivial
 |.ipt z es i o,u,h=>h
 |.mp k,u,h=>by
  simp only [AV.ren];split
  ·rename_i k' e;simpa [ARep,hf k k' e] using h
  ·trivial
 |.fn fi ks,u,h=>by
  simp only [AV.ren];split
  ·rename_i ks' e
   simp only [ARep] at h ⊢
   rw [h,qpS hf e]
  ·trivial
 |.g c a,u,h=>⟨fun hc=>ARep.ren hf (a:=a) (h.1 hc),h.2⟩
 |.ag cs,u,h=>by
  simp only [AV.ren];split
  ·rename_i cs' e
   obtain ⟨vs,e0,hl,hr⟩:=h
   obtain ⟨g1,g2⟩:=qkS hf e
   refine ⟨vs,e0,by rw [hl,g1],fun j x' hx=>?_⟩
   obtain ⟨x,hx1,hx2⟩:=g2 j x' hx
   obtain ⟨v,h1,h2,h3⟩:=hr j x hx1
   exact ⟨v,h1,h2,hx2 _ _ _ h3⟩
  ·trivial
 |.tr k ps,u,h=>by
  simp only [AV.ren];split
  ·rename_i k' e
   obtain ⟨vs,e0,hs,hr⟩:=h
   exact ⟨vs,by rw [hf k k' e];exact e0,by rw [hf k k' e];exact hs,hr⟩
  ·trivial
 |.any,u,h=>trivial
theorem AO.ren_mapA (a:AO):a.ren f=a.mapA (AV.ren f):=by cases a<;>rfl
theorem ObjOk.ren (hf:∀ k k',f k=some k'→ι' k'=ι k) {k k':Key} (hk:ι' k'=ι k) {a:AO} (h:ObjOk w U ι k a):ObjOk w U ι' k' (a.ren f):=by
 rw [AO.ren_mapA]
 exact h.conv _ hk (fun _ _=>rfl) (fun b _ hu=>⟨rfl,hu⟩) (fun hr=>hr.ren hf)
theorem ObjOk.keeps {U':Nat→Prop} (hk:Keeps w w U U') {k:Key} {a:AO} (h:ObjOk w U ι k a):ObjOk w U' ι k a:=h.mono hk (fun _ _=>rfl)
theorem qm1 (hi:∀ k1 k2 k,f k1=some k→f k2=some k→k1=k2) {k:Key} {a:AO}:∀ {L:Objs},Zas (mapO f L) k=some a→∃ k' a',Zas L k'=some a'∧f k'=some k∧a=a'.ren f
 |[],h=>by simp [mapO,Zas] at h
 |(k1,a1) :: r,h=>by
  simp only [mapO] at h
  split at h
  ·rename_i q e
   simp only [Zas] at h
   split at h
   ·rename_i hq
    cases h
    exact ⟨k1,a1,by simp [Zas],by rw [e,hq],rfl⟩
   ·rename_i hq
    obtain ⟨k',a',h1,h2,h3⟩:=qm1 hi h
    refine ⟨k',a',?_,h2,h3⟩
    simp only [Zas]
    rw [if_neg (fun ek=>hq (by rw [ek] at e;rw [h2] at e;cases e;rfl))]
    exact h1
  ·rename_i e
   obtain ⟨k',a',h1,h2,h3⟩:=qm1 hi h
   refine ⟨k',a',?_,h2,h3⟩
   simp only [Zas]
   rw [if_neg (fun ek=>by rw [ek,h2] at e;cases e)]
   exact h1
end
section
variable {P:Program} {E:Envt}
variable {L:Objs} {fr:List AV} {d:Option Nat} {is:List IOper} {Y:List PV} {K:List AV→Objs→Prop}
end
def r1 (d q:Nat) (k:Key):Option Key:=if k=.l d then some (.l q) else if k=.l q then none else some k
theorem qA2 {d q:Nat}:∀ k1 k2 k,r1 d q k1=some k→r1 d q k2=some k→k1=k2:=by
 intro k1 k2 k h1 h2
 unfold r1 at h1 h2
 split at h1
 ·cases h1
  split at h2
  ·rename_i e1 e2;rw [e1,e2]
  ·split at h2
   ·cases h2
   ·cases h2;rename_i e1 e2 e3;exact absurd rfl e3
 ·split at h1
  ·cases h1
  ·cases h1
   split at h2
   ·cases h2;exact absurd rfl ‹¬ Key.l q=Key.l q›
   ·split at h2
    ·cases h2
    ·cases h2;rfl
section
variable {E:Envt} {B:Base} {w:World} {L:Objs} {ι:Key→Value} {fr:List AV} {a:Act}
theorem qcQ (d q:Nat):∀ {L:Objs} (k:Key),Zas (mapO (r1 d q) L) k=if k=.l q then (Zas L (.l d)).map (AO.ren (r1 d q)) else if k=.l d then none else (Zas L k).map (AO.ren (r1 d q))
 |[],k=>by simp [mapO,Zas]
 |(k1,a1) :: r,k=>by
  have ih:=qcQ d q (L:=r) k
  by_cases hdq:d=q
  ·subst hdq
   simp only [mapO,r1]
   by_cases h1:k1=.l d
   ·subst h1
    simp only [if_true,Zas]
    by_cases h2:k=.l d
    ·subst h2;simp
    ·rw [if_neg (Ne.symm h2),ih,if_neg h2,if_neg h2,if_neg h2,if_neg h2,if_neg (Ne.symm h2)]
   ·simp only [if_neg h1,Zas]
    by_cases h2:k1=k
    ·subst h2;simp [h1]
    ·rw [if_neg h2,ih,if_neg h2]
  have hne:¬ Key.l d=Key.l q:=fun e=>hdq (by cases e;rfl)
  simp only [mapO,r1]
  by_cases h1:k1=.l d
  ·subst h1
   simp only [if_true,Zas]
   by_cases h2:k=.l q
   ·subst h2;simp
   ·rw [if_neg (Ne.symm h2),ih,if_neg h2,if_neg h2]
    by_cases h3:k=.l d
    ·simp [h3]
    ·rw [if_neg h3,if_neg h3,if_neg (Ne.symm h3)]
  ·by_cases h2:k1=.l q
   ·subst h2
    simp only [if_neg h1,if_true]
    rw [ih]
    simp only [Zas]
    by_cases h3:k=.l q
    ·subst h3;simp [Ne.symm hne]
    ·rw [if_neg h3,if_neg h3,if_neg (Ne.symm h3)]
   ·simp only [if_neg h1,if_neg h2,Zas]
    by_cases h3:k1=k
    ·subst h3;simp [h1,h2]
    ·rw [if_neg h3,ih,if_neg h3]
theorem StF.ren1 (hs:StF E B w L ι fr a) (d q:Nat):∃ ι',StF E B w (mapO (r1 d q) L) ι' (fr.map (·.ren (r1 d q))) a:=by
 obtain ⟨h,hf,hd⟩:=hs
 let ι':Key→Value:=fun k=>if k=.l q then ι (.l d) else ι k
 have hi:∀ k k',r1 d q k=some k'→ι' k'=ι k:=by
  intro k k' hk
  unfold r1 at hk
  split at hk
  ·rename_i e;cases hk;subst e;simp [ι']
  ·split at hk
   ·cases hk
   ·rename_i e1 e2;cases hk;simp [ι',e2]
 have hlk:∀ {k:Key} {ao:AO},Zas (mapO (r1 d q) L) k=some ao→∃ k' ao',Zas L k'=some ao'∧r1 d q k'=some k∧ao=ao'.ren (r1 d q):=fun hl=>qm1 qA2 hl
 have hO:∀ b,Own (mapO (r1 d q) L) ι' b→Own L ι b:=by
  rintro b ⟨k,ao,h1,h2⟩
  obtain ⟨k',ao',g1,g2,_⟩:=hlk h1
  exact ⟨k',ao',g1,by rw [← hi k' k g2];exact h2⟩
 have hk:Keeps w w (fun b=>Own L ι b∨B.X b) (fun b=>Own (mapO (r1 d q) L) ι' b∨B.X b):=fun b _ hu=>⟨rfl,fun h=>hu (h.imp (hO b) id)⟩
 refine ⟨ι',⟨h.grow,⟨fun k ao hl=>?_,fun k k' ao ao' b h1 h2 h3 h4=>?_⟩,fun b hb=>h.own b (hO b hb),h.xlt,fun k h0 h1=>?_,h.env,h.envb,h.loc,h.xdis⟩,⟨by simpa using hf.1,fun i x hx=>?_⟩,hd⟩
 ·obtain ⟨k',ao',g1,g2,rfl⟩:=hlk hl
  exact ((h.sim.obj k' ao' g1).ren hi (hi k' k g2)).keeps hk
 ·obtain ⟨j,_,g1,g2,_⟩:=hlk h1
  obtain ⟨j',_,g3,g4,_⟩:=hlk h2
  have:=h.sim.inj j j' _ _ b g1 g3 (by rw [← hi j k g2];exact h3) (by rw [← hi j' k' g4];exact h4)
  subst this
  rw [g2] at g4
  cases g4
  rfl
 ·obtain ⟨ao,hao⟩:=Option.isSome_iff_exists.1 h1
  obtain ⟨k',ao',g1,g2,_⟩:=hlk hao
  have:k'=k:=by
   unfold r1 at g2
   split at g2
   ·cases g2;rw [h.loc q] at h0;cases h0
   ·split at g2
    ·cases g2
    ·cases g2;rfl
  subst this
  rw [hi k' k' g2]
  exact h.keep k' h0 (by rw [g1];rfl)
 ·rw [zA,zk] at hx
  obtain ⟨y,hy,rfl⟩:=hx
  obtain ⟨u,hu,hr⟩:=hf.2 i y hy
  exact ⟨u,hu,(hr.ren hi).mono hk⟩
theorem qmV {fr':List AV} (h:Zb fr fr'):ReOk E fr L fr' L:=fun B w ι a hs=>by
 obtain ⟨g1,g2⟩:=h.get
 refine ⟨ι,hs.1,⟨by rw [hs.2.1.1,g1],fun i y hy=>?_⟩,hs.2.2⟩
 obtain ⟨x,hx,hxy⟩:=g2 i y hy
 obtain ⟨v,hv,hr⟩:=hs.2.1.2 i x hx
 exact ⟨v,hv,hxy.rep hr⟩
theorem qss (d q:Nat):ReOk E fr L (fr.map (·.ren (r1 d q))) (mapO (r1 d q) L):=fun B w ι a hs=>hs.ren1 d q
theorem qmU {k:Key} {es:List (List PV)} {e z:Nat} (hl:Zas L k=some (.row es e z true)):ReOk E fr L fr (Zat L k (.rowv (es.map (·.map .p)) e z)):=fun B w ι a hs=>⟨ι,hs.retell k _ _ hl fun U h=>by
 obtain ⟨vs,h1,h2,h3,h4⟩:=h
 refine ⟨vs,by simpa using h1,h2,fun x hx=>?_,fun j x hx=>?_⟩
 ·obtain ⟨y,hy,rfl⟩:=List.mem_map.1 hx
  simpa using h4 y hy
 ·rw [← List.map_flatten,zA,zk] at hx
  obtain ⟨y,hy,rfl⟩:=hx
  exact h3.get hy⟩
theorem qhh {k:Key} {es:List (List AV)} {es':List (List PV)} {e z:Nat} (hl:Zas L k=some (.rowv es e z)) (hp:Zbb es=some es'):ReOk E fr L fr (Zat L k (.row es' e z true)):=fun B w ι a hs=>⟨ι,hs.retell k _ _ hl fun U h=>h.plain hp⟩
theorem qbA {k:Key} {es:List (List PV)} {e z:Nat} {ap:Bool} (hl:Zas L k=some (.row es e z ap)):ReOk E fr L (fr.map (·.thaw k (.sl z es))) (Zaw k (.sl z es) L):=fun B w ι a hs=>⟨ι,hs.thaw hl⟩
theorem qkc {k:Key} {cs:List PV} {t:TypeId} (hl:Zas L k=some (.box (cs.map .p) t)):ReOk E fr L (fr.map (·.thaw k (.ptr cs))) (Zaw k (.ptr cs) L):=fun B w ι a hs=>⟨ι,hs.thawB hl⟩
theorem qus {k:Key} {cs:List AV} {t:TypeId} (o d e z z0:Nat) (hk:k≠.l d) (hl:Zas L k=some (.box cs t)) (ho:cs[o]?=some (.p (.nl z0))) :
  ReOk E fr L (fr.map (·.kill (.l d))) (Zat (Zav L (.l d) (.row [] e z true)) k (.box ((cs.map (·.kill (.l d))).set o (.row (.l d))) t)):=fun B w ι a hs=>by
 have h1:StF E B w (Zav L (.l d) (.row [] e z true)) (updI ι (.l d) (.slice none 0 0)) (fr.map (·.kill (.l d))) a:=
  hs.upd d (.slice none 0 0) (.row [] e z true) (Grow.refl _ _) (fun b hb=>by simp [blk] at hb) ⟨[],by simp only [updI,if_true];exact ⟨by simp,.inl ⟨rfl,rfl⟩⟩,by simp,by simp [PRepL],by simp⟩
 refine ⟨_,h1.retell k (.box (cs.map (·.kill (.l d))) t) _ (by rw [qas,if_neg hk,hl];rfl) fun U h=>?_⟩
 obtain ⟨b,vs,e1,e2,e3,e4,e5⟩:=h
 refine ⟨b,vs,e1,e2,by simpa using e3,e4,fun j x hx=>?_⟩
 by_cases hj:o=j
 ·subst hj
  have hlt:o < (cs.map (·.kill (.l d))).length:=by
   rw [List.length_map]
   exact (List.getElem?_eq_some_iff.1 ho).1
  rw [List.getElem?_set_self hlt] at hx
  cases hx
  obtain ⟨u,hu,hr⟩:=e5 o (.p (.nl z0)) (by rw [zA,ho];rfl)
  have hr:u=.slice none 0 0:=hr
  subst hr
  exact ⟨_,hu,by simp [updI],none,0,0,rfl⟩
 ·rw [List.getElem?_set_ne hj] at hx
  exact e5 j x hx
end
theorem qqx {P:Program} {E:Envt} {ops:List IOper} {fr:List AV} {L:Objs} {y:IC} {Q:AQ} (fr':List AV) (L':Objs) (h:∀ K:List AV→Objs→Prop,(∀ fr1 L1,ReOk E fr1 L1 fr' L'→K fr1 L1)→DrgC P E ops fr L K) (hK:awp P E y fr' L' Q):DrgC P E ops fr L (qq3 P E (.cut y) Q .normal):=
 h _ fun fr1 L1 hr=>⟨fr',L',hr,hK⟩
theorem qsw {P:Program} {E:Envt} {f:FuncId} {args:List PV} {e z:Nat} {es:List (List PV)} (h:FCall P E f args e z (·=es)):PCall P E f args (·=.sl z es):=by
 intro w U vs hU hE hEb hA
 refine (qnu h w U vs hU hE hEb hA).mono ?_
 rintro e' w' ⟨v,x,h1,⟨es',rfl,rfl⟩,h2⟩
 exact ⟨v,_,h1,rfl,h2⟩
end Go.Proofs.YtmpdnpljdcincaaGreatDoor
