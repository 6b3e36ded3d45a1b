import Derived.Test.YtjgdjinhkgjpeabGreatDoorLaySort
import Derived.Test.YtjgdjinhkgjpeabGreatDoorLayCompact
import Derived.Lib.OwnBridge
import Derived.Test.YtjgdjinhkgjpeabGreatDoorZ9
import Derived.Test.YtjgdjinhkgjpeabGreatDoorLayDelStr
import Derived.Test.YtjgdjinhkgjpeabGreatDoorLaySplitN
set_option linter.unusedVariables false
set_option linter.unusedSimpArgs false
set_option linter.defProp false
namespace Go.Proofs.YtjgdjinhkgjpeabGreatDoor
open Nat renaming le_refl→zL
open List renaming eq_nil_of_length_eq_zero→zq,getElem?_eq_none→zR,mem_map→zE,replicate→zD
open Option renaming isSome_iff_exists→zM
open Go.Lib Go.RowKit Go.Shelf Go.Sort
def sE (l:List UInt8):Value:=.string ⟨l.toArray⟩
theorem strE_vals {w:World} {U:Nat→Prop}:∀ {l:List (List UInt8)} {vs:List Value},PRepL w U (strE l).flatten vs↔vs=l.map sE
 |[],vs=>by simp [strE,PRepL]
 |c :: r,vs=>by
  have ih:∀ vs,PRepL w U (strE r).flatten vs↔vs=r.map sE:=fun vs=>strE_vals
  simp only [strE,List.map_cons,List.flatten_cons,List.cons_append,List.nil_append,PRepL,PRep] at ih ⊢
  constructor
  ·rintro ⟨v,r',rfl,rfl,h⟩
   rw [(ih r').1 h]
   rfl
  ·rintro rfl
   exact ⟨_,_,rfl,rfl,(ih _).2 rfl⟩
theorem qn9 {w:World} {U:Nat→Prop} {b:Nat}:∀ (l:List (List UInt8)) (off:Nat),(∀ i u,(l.map sE)[i]?=some u→w.cell? ⟨b,off+i,none⟩=some u)→PRepE w U b 1 off (strE l)
 |[],off,h=>trivial
 |x :: r,off,h=>by
  refine ⟨rfl,⟨⟨.string ⟨x.toArray⟩,by simpa [sE] using h 0 _ rfl,rfl,rfl⟩,trivial⟩,qn9 r (off+1) fun i u hu=>?_⟩
  have:=h (i+1) u (by simpa using hu)
  rwa [show off+(i+1)=off+1+i from by omega] at this
set_option maxHeartbeats 2000000 in
theorem qqY {E:Envt} (et:Nat) (l:List (List UInt8)) (hl:l.length≤1000000000000):RCall Tryz.prog E 100 et 1 (strE l) [] (fun x es'=>x=.tup []∧es'=strE (l.mergeSort fun x y=>decide (x≤y))):=by
 intro w U vs v0 hU hE hEb hA hB
 obtain ⟨hB1,us,hrow,h1,hrep,hz⟩:=hB
 simp only [PRepL] at hA
 subst hA
 rw [strE_vals] at hrep
 subst hrep
 rw [qac] at hrow
 have hml:(l.mergeSort fun x y=>decide (x≤y)).length=l.length:=List.length_mergeSort _
 rcases hrow.2 with ⟨rfl,hn⟩|⟨b,cap,cur,fz,rfl,hg,hn,hcap,hcs,htk,hfz⟩
 ·have hl0:l=[]:=zq hn
  subst hl0
  refine (AnyM.slices_Sort_string_none Tryz.laySort none 0 w).mono ?_
  rintro e w' ⟨rfl,rfl⟩
  exact ⟨_,.p (.tup []),.row et 1 [],rfl,⟨_,_,rfl,rfl,rfl,by simp [strE]⟩,⟨[],rfl,by simp [PRepL]⟩,Grow.refl _ _,⟨[],⟨by simp,.inl ⟨rfl,rfl⟩⟩,by simp,by simp [PRepL],by simp⟩⟩
 ·have hf0:fz=(0,0):=by rcases hfz with h|h;exact h;exact absurd h.1 (by simp)
  subst hf0
  have hb:b < w.heap.size:=by
   rcases Nat.lt_or_ge b w.heap.size with h|h
   ·exact h
   ·rw [Array.getElem?_eq_none h] at hg;cases hg
  simp only [Nat.mul_one] at htk hcs
  have hH:Holds encStr w b 0 l.toArray:=by
   intro j hj
   have hj':j < l.length:=by simpa using hj
   have e1:cur[j]?=some (encStr l.toArray[j]!):=by
    rw [← Array.getElem?_toList,← List.getElem?_take_of_lt hj',htk,List.getElem?_map,List.getElem?_eq_getElem hj',getElem!_pos l.toArray j hj]
    rfl
   refine ⟨?_,?_⟩
   ·simp only [World.cell?,hg]
    simpa using e1
   ·simp [World.frozen?,hg]
  refine (AnyM.slices_Sort_string Tryz.laySort b 0 cap l w hH hb (by omega)).mono ?_
  rintro e w' ⟨rfl,n,os,rfl⟩
  generalize (l.mergeSort fun x y=>decide (x≤y))=m at *
  have hblk:∀ c,c≠b→c < w.heap.size→(grow (putRow encStr (Sort.ahead w n) b 0 m.toArray) os).heap[c]?=w.heap[c]?:=by
   intro c hc hlt
   simp only [grow,putRow,mapBlock]
   rw [Array.getElem?_append_left (by simpa using hlt),Array.getElem?_modify,if_neg (fun e=>hc e.symm)]
   rfl
  have hnew:(grow (putRow encStr (Sort.ahead w n) b 0 m.toArray) os).heap[b]?=some (.cells (putCells encStr 0 m.toArray cur) et (0,0)):=by
   simp only [grow,putRow,mapBlock]
   rw [Array.getElem?_append_left (by simpa using hb),Array.getElem?_modify,if_pos rfl]
   show Option.map _ w.heap[b]?=_
   rw [hg]
   rfl
  have hGr:Grow w (grow (putRow encStr (Sort.ahead w n) b 0 m.toArray) os) (fun c=>blk (.slice (some ⟨b,0,none⟩) l.length cap)=some c):=by
   refine ⟨rfl,rfl,rfl,?_,fun c hc hne=>hblk c (fun e=>hne (by rw [e];rfl)) hc⟩
   simp [grow,putRow,mapBlock,Sort.ahead]
  refine ⟨_,.p (.tup []),.row et 1 (strE m),rfl,⟨_,_,rfl,rfl,rfl,rfl⟩,⟨[],rfl,by simp [PRepL]⟩,hGr,?_⟩
  refine ⟨m.map sE,⟨by rw [qac];simp,.inr ⟨b,cap,_,(0,0),by rw [qac,hml],hnew,by rw [qac,hml];exact hn,hcap,by simp [putCells,hcs],?_,.inl rfl⟩⟩,?_,strE_vals.2 rfl,?_⟩
  ·rw [qac]
   apply List.ext_getElem?
   intro j
   by_cases hj:j < m.length
   ·rw [List.getElem?_take_of_lt (by simpa using hj),Array.getElem?_toList]
    simp only [putCells,Array.getElem?_mapIdx]
    rw [Array.getElem?_eq_getElem (by omega),Option.map_some,if_pos ⟨Nat.zero_le _,by simpa using hj⟩,Nat.sub_zero,getElem!_pos _ j (by simpa using hj)]
    simp [hj,sE]
   ·rw [zR (by rw [List.length_take];omega),zR (by simp;omega)]
  ·intro u hu
   obtain ⟨x,_,rfl⟩:=zE.1 hu
   rfl
  ·intro x hx
   simp only [strE,zE] at hx
   obtain ⟨y,_,rfl⟩:=hx
   rfl
theorem qkS (l:List (List UInt8)):(Lib.compact l).length≤l.length:=by
 unfold Lib.compact Lib.compactUpTo
 rw [List.length_map]
 exact Nat.le_trans (List.length_filter_le _ _) (by simp)
section
variable {E:Envt} {L:Objs} {k:Key} {fr:List AV} {d:Option Nat} {is:List IOper} {Y:List PV} {K:List AV→Objs→Prop}
set_option maxHeartbeats 2000000 in
theorem quZ (i:Nat) (l:List (List UInt8)) (hlen:l.length≤1000000000) (hlk:Zas L k=some (.row (strE l) 9 1 true))
  (hk:qaa Tryz.prog E Y is (Zg (fr.map (·.kill (.l i))) d (.p (.sl 1 (strE (Lib.compact l))))) (delO L k) K):qa5 Tryz.prog E 101 [.row k] L d fr (qcV Tryz.prog E Y is K):=by
 refine .inr (.inr ⟨i,?_⟩)
 intro w X ι vs hs hX hE hEb hA
 simp only [ARepL,ARep] at hA
 obtain ⟨v1,r1,rfl,⟨rfl,A,n,c,hv⟩,rfl⟩:=hA
 obtain ⟨us,u1,u2,u3,u4⟩:=hs.obj k _ hlk
 rw [strE_vals] at u3
 subst u3
 have hown:=u1.owns
 rw [qac] at hown
 by_cases hne:ι k=.slice none 0 0
 ·have hl0:l=[]:=by
   rcases hown.2 with ⟨_,h0⟩|⟨q,cap,cur,h1,_⟩
   ·exact zq h0
   ·rw [hne] at h1;cases h1
  subst hl0
  rw [hne]
  refine (Any.slices_Compact_string_empty Tryz.layCompact none 0 w).mono ?_
  rintro e w' ⟨rfl,rfl⟩
  have hsub:∀ j a,Zas (delO L k) j=some a→Zas L j=some a:=by
   intro j a hj
   rw [qfL] at hj
   by_cases e:j=k
   ·rw [if_pos e] at hj;cases hj
   ·rwa [if_neg e] at hj
  have hown3:∀ x,Own (delO L k) ι x→Own L ι x:=fun x ⟨j,a,h1,h2⟩=>⟨j,a,hsub j a h1,h2⟩
  have hkp:Keeps w' w' (fun x=>Own L ι x∨X x) (fun x=>Own (delO L k) ι x∨X x):=fun x hx hu=>⟨rfl,fun h=>hu (h.imp (hown3 x) id)⟩
  refine ⟨_,.p (.sl 1 (strE (Lib.compact []))),delO L k,ι,rfl,hk,?_,⟨⟨?_,fun j j' a a' x h1 h2 h3 h4=>hs.inj j j' a a' x (hsub j a h1) (hsub j' a' h2) h3 h4⟩,Grow.refl _ _,fun x h=>.inl (hown3 x h),fun j _=>rfl,fun j hj=>?_⟩⟩
  ·show PRep w' _ (.sl 1 (strE (Lib.compact []))) _
   exact ⟨none,0,rfl,by simp [strE,Lib.compact,Lib.compactUpTo],fun h=>absurd rfl h⟩
  ·intro j a h1
   exact ObjOk.mono hkp (fun x hx=>rfl) (hs.obj j a (hsub j a h1))
  ·obtain ⟨a,ha⟩:=zM.1 hj
   exact .inl (by rw [hsub j a ha];rfl)
 obtain ⟨b,cap,hvb,_,hlt,hnc,hcm,_,hH⟩:=Lib.holds_of_ownsRow (enc:=encStr) hown hne
 rw [hvb] at hown
 have hOb:Own L ι b:=⟨k,_,hlk,by rw [hvb];rfl⟩
 have hcall:=Any.slices_Compact_string Tryz.layCompact b 0 cap l w hH (by omega) (by simpa using hnc)
 rw [hvb]
 refine hcall.mono ?_
 rintro e w' ⟨rfl,q,rfl⟩
 have hle:(Lib.compact l).length≤l.length:=qkS l
 have hown2:=Lib.ownsRow_putRow (enc:=encStr) (q:=q) (k:=(Lib.compact l).length) (ys:=(Lib.compact l)++zD (l.length - (Lib.compact l).length) []) hown (by simp;omega) hle
 rw [List.take_left' rfl] at hown2
 generalize hW:putRow encStr (Sort.ahead w q) b 0 ((Lib.compact l)++zD (l.length - (Lib.compact l).length) []).toArray=w1 at hown2 ⊢
 have hG:Grow w w1 (fun x=>x=b):=by
  rw [← hW]
  refine ⟨rfl,rfl,rfl,by simp [putRow,mapBlock,Sort.ahead],fun x hx hn=>?_⟩
  simp [putRow,mapBlock,Sort.ahead,Array.getElem?_modify,show b≠x from fun e=>hn e.symm]
 have hsub:∀ j a,Zas (delO L k) j=some a→j≠k∧Zas L j=some a:=by
  intro j a hj
  rw [qfL] at hj
  by_cases e:j=k
  ·rw [if_pos e] at hj;cases hj
  ·rw [if_neg e] at hj;exact ⟨e,hj⟩
 have hown3:∀ x,Own (delO L k) ι x→Own L ι x:=fun x ⟨j,a,h1,h2⟩=>⟨j,a,(hsub j a h1).2,h2⟩
 have hnb:¬ (Own (delO L k) ι b∨X b):=by
  rintro (⟨j,a,h1,h2⟩|h)
  ·obtain ⟨e,h3⟩:=hsub j a h1
   exact e (hs.inj j k a _ b h3 hlk h2 (by rw [hvb];rfl))
  ·exact (hX b h).2 hOb
 have hgrow:Grow w w1 (Own L ι):=⟨hG.os,hG.tape,hG.output,hG.size,fun x hx hn=>hG.block x hx (fun e=>hn (by rw [e];exact hOb))⟩
 have hkp:Keeps w w1 (fun x=>Own L ι x∨X x) (fun x=>Own (delO L k) ι x∨X x):=fun x hx hu=>⟨hgrow.block x hx (fun h=>hu (.inl h)),fun h=>hu (h.imp (hown3 x) id)⟩
 refine ⟨_,.p (.sl 1 (strE (Lib.compact l))),delO L k,ι,rfl,hk,?_,⟨⟨?_,fun j j' a a' x h1 h2 h3 h4=>hs.inj j j' a a' x (hsub j a h1).2 (hsub j' a' h2).2 h3 h4⟩,hgrow,fun x h=>.inl (hown3 x h),fun j _=>rfl,fun j hj=>?_⟩⟩
 ·show PRep w1 _ (.sl 1 (strE _)) _
  refine ⟨some ⟨b,0,none⟩,cap,by rw [qac],by rw [qac];omega,fun _=>⟨b,0,rfl,Nat.lt_of_lt_of_le hlt hG.size,hnb,qn9 _ 0 fun j u hu=>?_⟩⟩
  rw [Nat.zero_add]
  have:=hown2.cells (g:=b) rfl j u hu
  rw [show ({ block:=b,off:=0 }:Addr).add j=⟨b,j,none⟩ from by cases j<;>simp [Addr.add]] at this
  exact this
 ·intro j a h1
  obtain ⟨e,h2⟩:=hsub j a h1
  refine ObjOk.mono hkp (fun x hx=>hG.block x ((hs.obj j a h2).blk_lt hx) (fun ex=>?_)) (hs.obj j a h2)
  subst ex
  exact e (hs.inj j k a _ x h2 hlk hx (by rw [hvb];rfl))
 ·obtain ⟨a,ha⟩:=zM.1 hj
  exact .inl (by rw [(hsub j a ha).2];rfl)
end
theorem qxm:OneCell sE:=fun _=>rfl
theorem qso (s:List UInt8) (c:UInt8) (hs:s.length≤1000000000):FCall Tryz.prog E0 41 [.str s,.str [c]] tStr 1 (·=strE (splF s c)):=by
 intro w U vs v0 hU hE hEb hA _
 obtain ⟨_,m,hm⟩:=hE
 simp only [PRepL,PRep] at hA
 obtain ⟨v,r,rfl,rfl,v2,r2,rfl,rfl,rfl⟩:=hA
 refine (Any.strings_Split Tryz.laySplit qnY ⟨s.toArray⟩ ⟨#[c]⟩ m w (by rw [qc5];omega) hm (zL 1)).mono ?_
 rintro e w' ⟨rfl,rfl⟩
 have hl:=Lib.splitB_all ⟨#[c]⟩ (zL 1) 0 _ (⟨s.toArray⟩:ByteArray) rfl
 have hle:=Lib.countB_le ⟨#[c]⟩ (zL 1) (⟨s.toArray⟩:ByteArray).size ⟨s.toArray⟩ (zL _)
 rw [qc5] at hle
 have hln:(strE (splF s c)).length=Lib.countB ⟨s.toArray⟩ ⟨#[c]⟩+1:=by simp [splF,hl,strE]
 have hv:((Lib.splitB ⟨#[c]⟩ 0 (Lib.countB ⟨s.toArray⟩ ⟨#[c]⟩) ⟨s.toArray⟩).map Value.string)=(splF s c).map sE:=by simp [splF,sE,Function.comp_def]
 refine ⟨_,.fr (strE (splF s c)) tStr 1,noOS,rfl,⟨_,rfl,rfl⟩,⟨(splF s c).map sE,⟨by rw [hln];simp [splF,hl],.inr ⟨w.heap.size,Lib.countB ⟨s.toArray⟩ ⟨#[c]⟩+1,_,(0,0),by rw [hln],heap_alloc_new w _,by omega,?_,?_,?_,.inl rfl⟩⟩,?_,strE_vals.2 rfl,?_,?_⟩,⟨rfl,rfl,rfl,by simp,fun k hk _=>Lib.alloc_old w _ k hk⟩⟩
 ·unfold maxLen;omega
 ·simp [hl]
 ·rw [hv]
  simp only [Nat.mul_one]
  exact List.take_of_length_le (by simp [strE])
 ·intro u hu
  simp only [zE] at hu
  obtain ⟨x,_,rfl⟩:=hu
  rfl
 ·intro x hx
  simp only [strE,zE] at hx
  obtain ⟨y,_,rfl⟩:=hx
  rfl
 ·intro b hb
  simp [blk] at hb
  omega
theorem qva (x:List UInt8) (w:World):Calls Tryz.prog 188 #[sE x] w fun e w'=>e=.returned (.bool x.isEmpty)∧w'=w:=by
 unfold sE
 go_enter Tryz.func188,Tryz.ntmps188
 go_wp2
 go_ret
 exact ⟨rfl,rfl⟩
theorem qsI:(Tryz.prog.info? 9).map (fun i=>(i.zero,i.size))=some (some (.string ByteArray.empty),1):=by kernel_rfl
section
variable {E:Envt} {L:Objs} {k:Key} {fr:List AV} {d:Option Nat} {is:List IOper} {Y:List PV} {K:List AV→Objs→Prop}
set_option maxHeartbeats 2000000 in
theorem qw8 (i:Nat) (l:List (List UInt8)) (g:FuncId) (p:List UInt8→Bool) (hl:l≠[]) (hlen:l.length≤1000000000) (hlk:Zas L k=some (.row (strE l) tStr 1 true)) (hfn:fnB Tryz.prog g=true) (hg:∀ x w,Calls Tryz.prog g #[sE x] w fun e w'=>e=.returned (.bool (p x))∧w'=w)
  (hk:qaa Tryz.prog E Y is (Zg (fr.map (·.kill (.l i))) d (.p (strs (l.filter fun x=>!p x)))) (delO L k) K):qa5 Tryz.prog E 187 [.row k,.fn g []] L d fr (qcV Tryz.prog E Y is K):=by
 refine .inr (.inr ⟨i,?_⟩)
 intro w X ι vs hs hX hE hEb hA
 simp only [ARepL,ARep] at hA
 obtain ⟨v1,r1,rfl,⟨rfl,A,n,c,hv⟩,v2,r2,rfl,rfl,rfl⟩:=hA
 obtain ⟨us,u1,u2,u3,u4⟩:=hs.obj k _ hlk
 rw [strE_vals] at u3
 subst u3
 have hown:=u1.owns
 rw [qac] at hown
 have hne:ι k≠.slice none 0 0:=by
  intro e
  rcases hown.2 with ⟨_,h0⟩|⟨q,cap,cur,h1,_⟩
  ·exact hl (zq h0)
  ·rw [e] at h1;cases h1
 obtain ⟨b,cap,hvb,_,hlt,hnc,hcm,_,hH⟩:=Lib.holds_of_ownsRow (enc:=sE) hown hne
 rw [hvb] at hown
 have hOb:Own L ι b:=⟨k,_,hlk,by rw [hvb];rfl⟩
 have hgv:∀ (W:World) (x:List UInt8),FnGives Tryz.prog g #[] #[sE x] (.bool (p x)) W:=fun W x=>(hg x W).mono fun e w' ⟨h1,h2⟩=>⟨h1,0,by rw [h2];rfl⟩
 have hcall:=AnyE.slices_DeleteFunc Tryz.layDelStr sE qxm p g #[] (fun args w=>qhN hfn args w) [] (zero_of_info qsI).1 b 0 cap l.toArray w (fun W x _=>hgv W x) (fun _ _ _ x _=>hgv _ x) hH (by simp;omega) (by simpa using hnc)
 simp only [List.size_toArray,List.toList_toArray] at hcall
 rw [hvb]
 refine hcall.mono ?_
 rintro e w' ⟨rfl,q,rfl⟩
 have hle:(l.filter fun x=>!p x).length≤l.length:=List.length_filter_le _ _
 have hown2:=Lib.ownsRow_putRow (q:=q) (k:=(l.filter fun x=>!p x).length) (ys:=(l.filter fun x=>!p x)++zD (l.length - (l.filter fun x=>!p x).length) []) hown (by simp;omega) hle
 rw [List.take_left' rfl] at hown2
 generalize hW:putRow sE (Sort.ahead w q) b 0 ((l.filter fun x=>!p x)++zD (l.length - (l.filter fun x=>!p x).length) []).toArray=w1 at hown2 ⊢
 have hG:Grow w w1 (fun x=>x=b):=by
  rw [← hW]
  refine ⟨rfl,rfl,rfl,by simp [putRow,mapBlock,Sort.ahead],fun x hx hn=>?_⟩
  simp [putRow,mapBlock,Sort.ahead,Array.getElem?_modify,show b≠x from fun e=>hn e.symm]
 have hsub:∀ j a,Zas (delO L k) j=some a→j≠k∧Zas L j=some a:=by
  intro j a hj
  rw [qfL] at hj
  by_cases e:j=k
  ·rw [if_pos e] at hj;cases hj
  ·rw [if_neg e] at hj;exact ⟨e,hj⟩
 have hown3:∀ x,Own (delO L k) ι x→Own L ι x:=fun x ⟨j,a,h1,h2⟩=>⟨j,a,(hsub j a h1).2,h2⟩
 have hnb:¬ (Own (delO L k) ι b∨X b):=by
  rintro (⟨j,a,h1,h2⟩|h)
  ·obtain ⟨e,h3⟩:=hsub j a h1
   exact e (hs.inj j k a _ b h3 hlk h2 (by rw [hvb];rfl))
  ·exact (hX b h).2 hOb
 have hgrow:Grow w w1 (Own L ι):=⟨hG.os,hG.tape,hG.output,hG.size,fun x hx hn=>hG.block x hx (fun e=>hn (by rw [e];exact hOb))⟩
 have hkp:Keeps w w1 (fun x=>Own L ι x∨X x) (fun x=>Own (delO L k) ι x∨X x):=fun x hx hu=>⟨hgrow.block x hx (fun h=>hu (.inl h)),fun h=>hu (h.imp (hown3 x) id)⟩
 refine ⟨_,.p (strs (l.filter fun x=>!p x)),delO L k,ι,rfl,hk,?_,⟨⟨?_,fun j j' a a' x h1 h2 h3 h4=>hs.inj j j' a a' x (hsub j a h1).2 (hsub j' a' h2).2 h3 h4⟩,hgrow,fun x h=>.inl (hown3 x h),fun j _=>rfl,fun j hj=>?_⟩⟩
 ·rw [qbU]
  show PRep w1 _ (.sl 1 (strE _)) _
  refine ⟨some ⟨b,0,none⟩,cap,by rw [qac],by rw [qac];omega,fun _=>⟨b,0,rfl,Nat.lt_of_lt_of_le hlt hG.size,hnb,qn9 _ 0 fun j u hu=>?_⟩⟩
  rw [Nat.zero_add]
  have:=hown2.cells (g:=b) rfl j u hu
  rw [show ({ block:=b,off:=0 }:Addr).add j=⟨b,j,none⟩ from by cases j<;>simp [Addr.add]] at this
  exact this
 ·intro j a h1
  obtain ⟨e,h2⟩:=hsub j a h1
  refine ObjOk.mono hkp (fun x hx=>hG.block x ((hs.obj j a h2).blk_lt hx) (fun ex=>?_)) (hs.obj j a h2)
  subst ex
  exact e (hs.inj j k a _ x h2 hlk hx (by rw [hvb];rfl))
 ·obtain ⟨a,ha⟩:=zM.1 hj
  exact .inl (by rw [(hsub j a ha).2];rfl)
end
abbrev qfU:IC:=(sR [qO 2 (.mov (.c (.str [])))] (sR [qM 3 0,jC 4 41 [.t 3,.c (.str [32])],jC 5 187 [.t 4,.f 188],jC 6 33 [.t 5,.c (.str [32])],qM 2 6] .ret))
theorem qf8:chkF Tryz.prog Tryz.f152 qfU [.t 2] 7=true:=by kernel_rfl
def bits (s:List UInt8):List (List UInt8):=(splF s 32).filter fun x=>!x.isEmpty
def sqF (s:List UInt8):List UInt8:=qdI (bits s)
theorem qqS (s:List UInt8) (c:UInt8):splF s c≠[]:=by
 have hl:=Lib.splitB_all ⟨#[c]⟩ (zL 1) 0 _ (⟨s.toArray⟩:ByteArray) rfl
 intro h
 have:=congrArg List.length h
 simp [splF,hl] at this
theorem qse (s:List UInt8) (hs:s.length≤100000000):(bits s).length≤100000001∧(qdI (bits s)).length≤900000000:=by
 have h1:wgt (bits s)≤s.length+1:=by rw [← qqV 32 s,← qbV];exact qkn _ _
 have h2:=qjL (bits s)
 have h3:=quW (bits s)
 omega
theorem qbl (s:List UInt8) (hs:s.length≤100000000):PCall Tryz.prog E0 152 [.str s] (·=.str (sqF s)):=by
 refine qah mixed Tryz.func152 qf8 ?_
 refine zV ?_
 refine useF (qso s 32 (by omega)) rfl rfl ?_
 rintro es rfl
 refine zS ?_
 refine qw8 1000 (splF s 32) 188 List.isEmpty (qqS s 32) (by have:=qdW s 32;omega) rfl (by kernel_rfl) qva ?_
 rw [qbU]
 refine zS ?_
 refine use1 (qpQ (bits s) (by have:=qse s hs;omega) (by have:=qse s hs;omega)) rfl (.inl rfl) ?_
 refine zS ?_
 rfl
end Go.Proofs.YtjgdjinhkgjpeabGreatDoor
namespace Go.Proofs.YtjgdjinhkgjpeabGreatDoor
open Nat renaming reduceAdd→zd,reduceEqDiff→zb,reduceLT→zf,reduceLeDiff→za,reduceMul→ze
open List renaming getElem?_eq_getElem→zk,length_append→zm,mem_of_getElem?→zn
open Go.RowKit
abbrev qlI:IC:=(sR [qO 2 (.mov (.c (.nl 1))),qO 3 (.mov (.c (.bool false)))] (.seq (sR [qM 6 0,qB 7 .eql 6 (.c (.str []))] (jW 7 (sR [qO 2 (.mov (.c (.nl 1))),qO 3 (.mov (.c (.bool true)))] .ret))) (sR [qM 9 0,jC 10 77 [.t 9,.c (.str [10])],qM 8 10,qO 11 (.ext 0 (.t 8)),qO 12 (.ext 1 (.t 8)),qM 4 11,qM 5 12] (sR [qM 13 4,jC 14 41 [.t 13,.c (.str [10])],qM 15 5,qM 2 14,qM 3 15] .ret))))
theorem qlW:chkF Tryz.prog Tryz.f39 qlI [.t 2,.t 3] 16=true:=by kernel_rfl
abbrev qgK:IC:=(sR [qO 2 (.mov (.c (.nl 1)))] (sR [qM 4 0,jC 5 41 [.t 4,.c (.str [10])],qM 3 5] (sR [qM 6 3,qM 7 3,qN 8 7,qB 9 .sub 8 (cI 1),qO 10 (.vsl 1 (.t 6) none (some (.t 9))),qM 2 10] .ret)))
theorem qgX:chkF Tryz.prog Tryz.f184 qgK [.t 2] 11=true:=by kernel_rfl
def qbC:IC:=(sR [qT 12 .lss 11 10] (.seq (jE 12) (.seq (.block 1 (sR [qX 13 1 9 11,qL 14 13,qM 4 14] (sR [qM 16 0,qM 17 4,jC 18 77 [.t 16,.t 17],qM 15 18,qO 19 (.ext 0 (.t 15)),qO 20 (.ext 1 (.t 15)),qM 5 19,qM 6 20] (sR [qM 21 6,qM 22 21,⟨some 23,.mov (.t 5),(some (22,true))⟩,⟨some 24,.call 152 [.t 23],(some (22,true))⟩,⟨some 25,.bin .neq (.t 24) (.c (.str [])),(some (22,true))⟩,qO 26 (.pick (.t 22) (.t 25) (.c (.bool false)))] (jW 26 (sR [qO 2 (.mov (.c (.bool true)))] .ret)))))) (.reg [qB 27 .add 11 (cI 1),qM 11 27]))))
abbrev qel:IC:=(sR [qO 2 (.mov (.c (.bool false)))] (.seq (sR [qM 7 0,qB 8 .eql 7 (.c (.str [45,45,45,45,45,79,114,105,103,105,110,97,108,32,77,101,115,115,97,103,101,45,45,45,45,45]))] (jW 8 (sR [qO 2 (.mov (.c (.bool true)))] .ret))) (.seq (sR [qO 9 (.bsl 1 [.c (.str [119,114,111,116,101,58]),.c (.str [115,99,104,114,105,101,98,58])]),qN 10 9,jI 11 0] (.block 0 (.loop qbC))) (sR [qO 2 (.mov (.c (.bool false)))] .ret))))
theorem qew:chkF Tryz.prog Tryz.f185 qel [.t 2] 28=true:=by kernel_rfl
def qfM (s:List UInt8):List (List UInt8)×Bool:=if s=[] then ([],true) else (splF (qbX s [10]).1 10,(qbX s [10]).2)
theorem qkQ (s p:List UInt8):(qbX s p).1.length≤s.length:=by
 unfold qbX
 split<;>simp
theorem qus (s:List UInt8) (hs:s.length≤1000000000):PCall Tryz.prog E0 39 [.str s] (·=.tup [strs (qfM s).1,.bool (qfM s).2]):=by
 refine qah mixed Tryz.func39 qlW ?_
 refine zV ?_
 refine br ?_ ?_
 ·intro h
  have h:s=[]:=by simpa using h
  refine zS ?_
  rw [qfM,if_pos h]
  rfl
 ·intro h
  have h:¬ s=[]:=by simpa using h
  refine zS ?_
  refine use1 (qiS s [10] hs (by decide)) rfl (.inl rfl) ?_
  refine zS ?_
  refine use1 (qe8 (qbX s [10]).1 10 (by have:=qkQ s [10];omega)) rfl (.inl rfl) ?_
  refine zS ?_
  rw [qfM,if_neg h]
  rfl
section
variable {E:Envt}
def qiO (s:List UInt8):Bool:=decide (Lib.trimS s [32]=[])
abbrev qtl:List UInt8:=[45,45,45,45,45,79,114,105,103,105,110,97,108,32,77,101,115,115,97,103,101,45,45,45,45,45]
def wsQ:List (List UInt8):=[[119,114,111,116,101,58],[115,99,104,114,105,101,98,58]]
def hitF (s w:List UInt8):Bool:=(qbX s w).2 && !qiO (qbX s w).1
def qq6 (s:List UInt8):Bool:=(wsQ.any (hitF s)) || decide (s=qtl)
theorem qw7:∀ w∈wsQ,w.length≤10:=by decide
theorem quU:wsQ.length=2:=rfl
end
def qal (s:List UInt8):List (List UInt8):=(splF s 10).take ((splF s 10).length - 1)
theorem qkC (s:List UInt8) (hs:s.length≤1000000000):PCall Tryz.prog E0 184 [.str s] (·=strs (qal s)):=by
 refine qah mixed Tryz.func184 qgX ?_
 refine zV ?_
 refine use1 (qe8 s 10 hs) rfl (.inl rfl) ?_
 rw [qbU]
 have h1:=qdW s 10
 have h2:=qqS s 10
 have h3:0 < (splF s 10).length:=List.length_pos_iff.2 h2
 have h4:(((splF s 10).length:Int) - 1).toNat=(splF s 10).length - 1:=by omega
 have h5:strs (qal s)=.sl 1 ((strE (splF s 10)).take ((splF s 10).length - 1)):=by rw [qbU,qal,strE,List.map_take];rfl
 rw [h5]
 simp only [ZZ,WW,Ze,reduceCtorEq,zd,ze,za,zf,zb,qac,h4]
 exact ⟨qai (by omega) (by omega),by omega,by omega⟩
def qj7 (s w:List UInt8):Bool:=(qbX s w).2 && !decide (sqF (qbX s w).1=[])
def qqm (s:List UInt8):Bool:=decide (s=qtl) || (wsQ.any (qj7 s))
set_option maxHeartbeats 2000000 in
theorem qkj (s:List UInt8) (hs:s.length≤25000):PCall Tryz.prog E0 185 [.str s] (·=.bool (qqm s)):=by
 refine qah mixed Tryz.func185 qew ?_
 refine zV ?_
 refine br ?_ ?_
 ·intro h
  have h:s=qtl:=by simpa using h
  refine zS ?_
  simp [qqm,h]
 intro h
 have h:¬ s=qtl:=by simpa using h
 have hF:qqm s=wsQ.any (qj7 s):=by simp [qqm,h]
 rw [hF]
 refine zS ?_
 rw [show ([[PV.str [119,114,111,116,101,58]],[PV.str [115,99,104,114,105,101,98,58]]]:List (List PV))=strE wsQ from rfl]
 rw [show ((2:Nat):Int)=(wsQ.length:Nat) from rfl]
 have hbd:=qw7
 have hwl:=quU
 clear hF h
 generalize wsQ=ws at *
 refine qad (fun n fr L=>∃ (k:Nat),k≤ws.length∧n=ws.length - k∧((ws.take k).any (qj7 s)=false)∧fr=(.p (.str s)::oD (.p (.sl 1 (strE ws))::.p (int (ws.length:Nat))::.p (int (k:Nat))::oE []))∧L=[]) (ws.length) (.p (.str s)::oD (.p (.sl 1 (strE ws))::.p (int (ws.length:Nat))::.p (int (0:Nat))::oE [])) [] (by simp only [ZZ,WW,Ze,reduceCtorEq,zd,ze,za,zf,zb,qac];try trivial) zF_ ⟨0,by omega,by omega,by simp,rfl,rfl⟩ ?_
 rintro n fr L ⟨k,hk,rfl,hno,rfl,rfl⟩
 simp only [qbC,ZZ,WW,Ze,reduceCtorEq,zd,ze,za,zf,zb]
 refine br ?_ ?_
 ·intro h
  have hlt:k < ws.length:=by have:=of_decide_eq_true h;omega
  obtain ⟨x,hx⟩:∃ x,ws[k]?=some x:=⟨_,zk hlt⟩
  have hg:=qaU hx
  have hxb:=hbd x (zn hx)
  have hnx:(ws.take (k+1)).any (qj7 s)=qj7 s x:=by
   rw [List.take_succ_eq_append_getElem hlt,List.any_append,hno,(List.getElem?_eq_some_iff.1 hx).2]
   simp
  simp only [ZZ,WW,Ze,reduceCtorEq,zd,ze,za,zf,zb,hg,qac]
  ((with_reducible and_intros)<;>try exact sc_)
  refine use1 (qiS s x (by omega) (by omega)) rfl (.inl rfl) ?_
  refine zS ?_
  refine useG (fun _=>qbl (qbX s x).1 (by have:=qkQ s x;omega)) rfl (.inl rfl) ?_
  refine zS ?_
  refine br ?_ ?_
  ·intro hm
   have hm:qj7 s x=true:=hm
   have ha:ws.any (qj7 s)=true:=List.any_eq_true.2 ⟨x,zn hx,hm⟩
   refine zS ?_
   simp [ha]
  ·intro hm
   have hm:qj7 s x=false:=hm
   refine zS ?_
   refine ⟨qai (by omega) (by omega),?_⟩
   refine qab (ws.length - (k+1)) (.p (.str s)::oD (.p (.sl 1 (strE ws))::.p (int (ws.length:Nat))::.p (int ((k+1):Nat))::oE [])) [] (by omega) zF_ zF_ ⟨k+1,by omega,rfl,by rw [hnx,hm],rfl,rfl⟩
 ·intro h
  have hge:ws.length≤k:=by have:=of_decide_eq_false h;omega
  rw [List.take_of_length_le hge] at hno
  refine zS ?_
  rw [hno]
theorem qqW (c:UInt8):∀ s:List UInt8,s≠[]→s.getLast?≠some c→(sp c s).getLastD []≠[]
 |[],h,_=>absurd rfl h
 |[x],_,h=>by
  have hx:¬ x=c:=fun e=>h (by rw [e];rfl)
  rw [sp,if_neg hx]
  simp [sp]
 |x :: y :: s,_,h=>by
  have ih:=qqW c (y :: s) (by simp) (by rwa [List.getLast?_cons_cons] at h)
  have hne:=qp0 c (y :: s)
  rw [sp]
  cases hsp:sp c (y :: s) with
  |nil=>exact absurd hsp hne
  |cons a t=>
   rw [hsp] at ih
   split
   ·simpa using ih
   ·cases t with
    |nil=>simp
    |cons b t=>simpa using ih
theorem qmB (s t:List UInt8):sufE s t=true↔∃ x,s=x++t:=by
 unfold sufE
 simp only [Bool.and_eq_true,decide_eq_true_eq]
 constructor
 ·rintro ⟨_,h⟩
  exact ⟨s.take (s.length - t.length),by conv=>lhs;rw [← List.take_append_drop (s.length - t.length) s,h]⟩
 ·rintro ⟨x,rfl⟩
  refine ⟨by rw [zm];omega,?_⟩
  rw [zm,Nat.add_sub_cancel,List.drop_left]
theorem qrB (s:List UInt8):((qfM s).2=true→(qfM s).1=(splF s 10).dropLast∧(splF s 10).getLastD []=[])∧((qfM s).2=false→(qfM s).1=splF s 10∧(splF s 10).getLastD []≠[]):=by
 unfold qfM
 split
 ·rename_i h
  subst h
  rw [qbV]
  exact ⟨fun _=>⟨rfl,rfl⟩,fun h=>by cases h⟩
 ·rename_i h
  unfold qbX
  split
  ·rename_i h2
   refine ⟨fun _=>?_,fun h=>by cases h⟩
   rw [qmB] at h2
   obtain ⟨t,rfl⟩:=h2
   rw [qbV,qbV,quI]
   simp [sp]
  ·rename_i h2
   refine ⟨(fun h=>by cases h),fun _=>⟨rfl,?_⟩⟩
   rw [qbV]
   refine qqW 10 s h fun h3=>h2 ?_
   rw [qmB]
   have h4:=List.dropLast_concat_getLast h
   rw [List.getLast?_eq_some_getLast h,Option.some.injEq] at h3
   rw [h3] at h4
   exact ⟨_,h4.symm⟩
theorem qv2 {s:List UInt8} (h:nuF s):-1000000000≤atV s∧atV s≤1000000000:=by
 have h2:=((qly s).1 h).2
 obtain ⟨hb,ha⟩:=h
 rcases qnl s with hc|⟨d,rfl⟩
 ·have h1:=(qhz s s false hc).1 hb
  rw [hc] at ha
  have hne:s≠[]:=by rintro rfl;simp at h1
  obtain ⟨a1,_⟩:=qsj hne ha (by omega)
  have hp:(10:Nat) ^ s.length≤10 ^ 9:=Nat.pow_le_pow_right (by decide) h1.1.2
  have:=qhF s ha
  rw [a1]
  omega
 ·have h1:=(qhz (45 :: d) d true (qdm d)).1 hb
  rw [qdm] at ha
  have hne:d≠[]:=by rintro rfl;simp at h1
  obtain ⟨a1,_⟩:=qnG hne ha (by omega)
  have hp:(10:Nat) ^ d.length≤10 ^ 9:=Nat.pow_le_pow_right (by decide) h1.1.2
  have:=qhF d ha
  rw [a1]
  omega
theorem qbp {w:List (List UInt8)} {j:Nat} (h:j < w.length):(strE w).getD j []=[.str (w.getD j [])]:=by
 have hx:w[j]?=some w[j]:=zk h
 rw [qaU hx,List.getD_eq_getElem?_getD,hx]
 rfl
theorem qu5 (S:List (List UInt8)):(strE S).take (S.length - 1)=strE S.dropLast:=by
 rw [strE,strE,List.dropLast_eq_take,List.map_take]
end Go.Proofs.YtjgdjinhkgjpeabGreatDoor
namespace Go.Proofs.YtjgdjinhkgjpeabGreatDoor
def spN (s:List UInt8):List (List UInt8):=(Lib.splitB ⟨#[32]⟩ 0 (min 8 ((⟨s.toArray⟩:ByteArray).size+1) - 1) ⟨s.toArray⟩).map (·.data.toList)
theorem qqX (s:List UInt8):(spN s).length≤8:=by
 have h1:=(qdb ⟨#[32]⟩ (min 8 ((⟨s.toArray⟩:ByteArray).size+1) - 1) ⟨s.toArray⟩).1
 simp only [spN,List.length_map]
 omega
theorem qnZ (s:List UInt8):∀ x∈spN s,x.length≤s.length:=by
 intro x hx
 simp only [spN,List.mem_map] at hx
 obtain ⟨y,hy,rfl⟩:=hx
 have:=(qdb ⟨#[32]⟩ (min 8 ((⟨s.toArray⟩:ByteArray).size+1) - 1) ⟨s.toArray⟩).2 y hy
 rw [qc5] at this
 rw [Array.length_toList]
 exact this
def fulW:List UInt8:=[102,117,108,108]
def parW:List UInt8:=[112,97,114,116]
def mkRw (w:List (List UInt8)):Lr:=
 { no:=atV (w.getD 0 []),id:=w.getD 1 [],at_:=atV (w.getD 2 []),fr:=w.getD 5 [],tos:=if w.getD 6 []=[45] then [] else splF (w.getD 6 []) 59,kind:=if w.getD 3 []=parW then 2 else 3,about:=w.getD 7 [],spans:=atV (w.getD 4 []) }
def nuR (w:List (List UInt8)):Prop:=nuF (w.getD 0 [])∧nuF (w.getD 2 [])∧nuF (w.getD 4 [])
def knR (w:List (List UInt8)):Prop:=w.getD 3 []=fulW∨w.getD 3 []=parW
open Classical in
noncomputable def prL (w:List (List UInt8)):Option Lr:=if w.length=8∧¬ []∈w.take 7∧knR w∧nuR w then some (mkRw w) else none
theorem qrf {w:List (List UInt8)} (h:w.length=8∧¬ []∈w.take 7∧knR w∧nuR w):prL w=some (mkRw w):=by unfold prL;rw [if_pos h]
theorem qmU {w:List (List UInt8)} (h:¬ (w.length=8∧¬ []∈w.take 7∧knR w∧nuR w)):prL w=none:=by unfold prL;rw [if_neg h]
noncomputable def gorF:List (List UInt8)→Nat→List Lr→Except Nat (List Lr)
 |[],_,q=>.ok q
 |s :: r,i,q=>match prL (spN s) with|none=>.error i|some d=>gorF r (i+1) (q++[d])
def perE (S:List (List UInt8)):Except Nat (List Lr)→List Lr×Int×Int
 |.error i=>([],(i:Int),9)
 |.ok q=>if S.getLastD []≠[] then ([],(S.length:Int) - 1,9) else if ¬ qdd q=0 then ([],0,qdd q) else (q,0,0)
noncomputable def perF (s:List UInt8):List Lr×Int×Int:=if 200000 < s.length then ([],0,2) else perE (splF s 10) (gorF (splF s 10).dropLast 0 [])
theorem qjE {S:List (List UInt8)} {q:List Lr} (h:S.getLastD []≠[]):perE S (.ok q)=([],(S.length:Int) - 1,9):=by
 show (if _ then _ else _)=_
 rw [if_pos h]
theorem qoe {S:List (List UInt8)} {q:List Lr} (h:S.getLastD []=[]):perE S (.ok q)=if ¬ qdd q=0 then ([],0,qdd q) else (q,0,0):=by
 show (if _ then _ else _)=_
 rw [if_neg (fun e=>e h)]
theorem qrg {w:List (List UInt8)} {d:Lr} (h:prL w=some d) (hw:∀ x∈w,x.length≤200000):LrB d:=by
 unfold prL at h
 split at h
 ·rename_i hc
  cases h
  obtain ⟨_,_,_,hn⟩:=hc
  have hg:∀ j,(w.getD j []).length≤200000:=by
   intro j
   rw [List.getD_eq_getElem?_getD]
   cases hj:w[j]? with
   |none=>simp
   |some x=>exact hw x (List.mem_of_getElem? hj)
  have b0:=qv2 hn.1
  have b2:=qv2 hn.2.1
  have b4:=qv2 hn.2.2
  have g1:=hg 1
  have g5:=hg 5
  have g6:=hg 6
  have g7:=hg 7
  have s1:=qdW (w.getD 6 []) 59
  have s2:=qgr (w.getD 6 []) 59
  refine ⟨by show (w.getD 1 []).length≤_;omega,by show (w.getD 5 []).length≤_;omega,?_,?_,by show (w.getD 7 []).length≤_;omega,by show _≤atV _∧atV _≤_;omega,by show _≤atV _∧atV _≤_;omega,by show _≤atV _∧atV _≤_;omega,?_⟩
  ·show (if w.getD 6 []=[45] then [] else splF (w.getD 6 []) 59).length≤_
   split
   ·simp
   ·omega
  ·show ∀ s∈(if w.getD 6 []=[45] then [] else splF (w.getD 6 []) 59),_
   split
   ·intro s hs;cases hs
   ·intro s hs;have:=s2 s hs;omega
  ·show _≤(if w.getD 3 []=parW then (2:Int) else 3)∧(if w.getD 3 []=parW then (2:Int) else 3)≤_
   split<;>omega
 ·cases h
theorem qvU (s:List UInt8):(perF s).1.length≤2000∧∀ r∈(perF s).1,r.tos.length≤100:=by
 unfold perF
 split
 ·exact ⟨by simp,fun r hr=>by cases hr⟩
 ·cases gorF (splF s 10).dropLast 0 [] with
  |error i=>exact ⟨by simp [perE],fun r hr=>by cases hr⟩
  |ok q=>
   by_cases h:(splF s 10).getLastD []=[]
   ·rw [qoe h]
    by_cases h2:qdd q=0
    ·rw [if_neg (fun e=>e h2)]
     exact ⟨(qik h2).1,fun r hr=>(qo8 ((qik h2).2 r hr)).1⟩
    ·rw [if_pos h2]
     exact ⟨by simp,fun r hr=>by cases hr⟩
   ·rw [qjE h]
    exact ⟨by simp,fun r hr=>by cases hr⟩
end Go.Proofs.YtjgdjinhkgjpeabGreatDoor
namespace Go.Proofs.YtjgdjinhkgjpeabGreatDoor
open Nat renaming le_trans→zt,reduceAdd→zd,reduceEqDiff→zb,reduceLT→zf,reduceLeDiff→za,reduceMul→ze
open List renaming drop_eq_nil_of_le→zX,getD_eq_getElem?_getD→yj,getElem?_eq_getElem→zk,getElem?_eq_some_iff→zo,length_map→zN,map_append→zF,mem_of_getElem?→zn,take_length→z7,take_succ_eq_append_getElem→zI
open Bool renaming and_eq_true→zi,not_eq_false'→z6,not_eq_true'→zQ
open Go.RowKit
theorem qkY (s:List UInt8) (hs:s.length≤1000000000):PCall Tryz.prog E0 42 [.str s,.str [32],int 8] (·=.sl 1 (strE (spN s))):=by
 intro w U vs hU hE hEb hA
 obtain ⟨_,m,hm⟩:=hE
 simp only [PRepL,PRep,int] at hA
 obtain ⟨v,r,rfl,rfl,v2,r2,rfl,rfl,v3,r3,rfl,rfl,rfl⟩:=hA
 refine (Any.strings_SplitN Tryz.laySplitN qnY ⟨s.toArray⟩ ⟨#[32]⟩ 8 m w (by rw [qc5];omega) hm (Nat.le_refl 1) (by omega) (by omega)).mono ?_
 rintro e w' ⟨rfl,rfl⟩
 have hk:=(qdb ⟨#[32]⟩ (min 8 ((⟨s.toArray⟩:ByteArray).size+1) - 1) ⟨s.toArray⟩).1
 refine ⟨_,_,rfl,rfl,?_,⟨rfl,rfl,rfl,by simp,fun k hk _=>Lib.alloc_old w _ k hk⟩⟩
 have hln:(strE (spN s)).length=(Lib.splitB ⟨#[32]⟩ 0 (min 8 ((⟨s.toArray⟩:ByteArray).size+1) - 1) ⟨s.toArray⟩).length:=by simp [spN,strE]
 refine ⟨some ⟨w.heap.size,0,none⟩,_,by rw [hln],by rw [hln];omega,fun _=>⟨w.heap.size,0,rfl,by simp,fun h=>by have:=hU _ h;omega,?_⟩⟩
 refine qim _ 0 fun i x hx=>?_
 rw [Lib.cell_of_heap (heap_alloc_new w _)]
 have hi:=(zo.1 hx).1
 have hx2:=(zo.1 hx).2
 simp [Lib.cellsOf,List.getElem?_append_left,hi]
 exact hx2
abbrev qi1:IC:=(sR [qO 2 (.alc 54 [.int .i64 0,.str [],.int .i64 0,.str [],.nl 1,.int .i64 0,.str [],.int .i64 0]),qO 3 (.mov (.c (.bool false)))] (sR [qM 12 0,jC 13 42 [.t 12,.c (.str [32]),.c (.int .i64 8)],qM 4 13] (.seq (sR [qM 14 4,qN 15 14,qB 16 .neq 15 (cI 8),qM 17 16,⟨some 18,.mov (.t 4),(some (17,false))⟩,⟨some 19,.vsl 1 (.t 18) none (some (cI 7)),(some (17,false))⟩,⟨some 20,.call 43 [.t 19,.c (.str [])],(some (17,false))⟩,qO 21 (.pick (.t 17) (.c (.bool true)) (.t 20)),qM 22 21,⟨some 23,.mov (.t 4),(some (22,false))⟩,⟨some 24,.ixa 1 (.t 23) (cI 3),(some (22,false))⟩,⟨some 25,.ld 1 false (.t 24),(some (22,false))⟩,⟨some 26,.bin .neq (.t 25) (.c (.str [102,117,108,108])),(some (22,false))⟩,⟨some 27,.mov (.t 26),(some (22,false))⟩,⟨some 28,.mov (.t 4),(some (27,true))⟩,⟨some 29,.ixa 1 (.t 28) (cI 3),(some (27,true))⟩,⟨some 30,.ld 1 false (.t 29),(some (27,true))⟩,⟨some 31,.bin .neq (.t 30) (.c (.str [112,97,114,116])),(some (27,true))⟩,⟨some 32,.pick (.t 27) (.t 31) (.c (.bool false)),(some (22,false))⟩,qO 33 (.pick (.t 22) (.c (.bool true)) (.t 32))] (jW 33 (sR [qO 34 (.bld [.int .i64 0,.str [],.int .i64 0,.str [],.nl 1,.int .i64 0,.str [],.int .i64 0] []),qS 8 2 34,qO 3 (.mov (.c (.bool false)))] .ret))) (sR [qM 36 4,qO 37 (.ixa 1 (.t 36) (cI 0)),qL 38 37,jC 39 78 [.t 38,.c (.int .i64 9)],qM 35 39,qO 40 (.ext 0 (.t 35)),qO 41 (.ext 1 (.t 35)),qM 5 40,qM 6 41] (sR [qM 43 4,qO 44 (.ixa 1 (.t 43) (cI 2)),qL 45 44,jC 46 78 [.t 45,.c (.int .i64 9)],qM 42 46,qO 47 (.ext 0 (.t 42)),qO 48 (.ext 1 (.t 42)),qM 7 47,qM 8 48] (sR [qM 50 4,qO 51 (.ixa 1 (.t 50) (cI 4)),qL 52 51,jC 53 78 [.t 52,.c (.int .i64 9)],qM 49 53,qO 54 (.ext 0 (.t 49)),qO 55 (.ext 1 (.t 49)),qM 9 54,qM 10 55] (.seq (.drg [⟨none,.hole 11,none⟩,qM 56 5,qM 57 4,qO 58 (.ixa 1 (.t 57) (cI 1)),qL 59 58,qM 60 7,qM 61 9,qM 62 4,qO 63 (.ixa 1 (.t 62) (cI 5)),qL 64 63,qM 65 4,qO 66 (.ixa 1 (.t 65) (cI 7)),qL 67 66,qO 68 (.bld [.int .i64 0,.str [],.int .i64 0,.str [],.nl 1,.int .i64 0,.str [],.int .i64 0] [(0,1,.t 56),(1,1,.t 59),(2,1,.t 60),(5,1,.c (.int .i64 3)),(7,1,.t 61),(3,1,.t 64),(6,1,.t 67)]),qO 11 (.alcd 54 [.int .i64 0,.str [],.int .i64 0,.str [],.nl 1,.int .i64 0,.str [],.int .i64 0]),qS 8 11 68]) (.seq (sR [qM 69 4,qO 70 (.ixa 1 (.t 69) (cI 3)),qL 71 70,qB 72 .eql 71 (.c (.str [112,97,114,116]))] (jW 72 (.reg [wF 73 5 11,⟨none,.st 1 (.t 73) (cI 2),none⟩]))) (.cut (.seq (sR [qM 74 4,qO 75 (.ixa 1 (.t 74) (cI 6)),qL 76 75,qB 77 .neq 76 (.c (.str [45]))] (jW 77 (.reg [qM 78 4,qO 79 (.ixa 1 (.t 78) (cI 6)),qL 80 79,jC 81 41 [.t 80,.c (.str [59])],wF 82 4 11,qS 1 82 81]))) (.cut (sR [qO 83 (.ld 8 true (.t 11)),qM 84 6,qM 85 84,⟨some 86,.mov (.t 8),(some (85,true))⟩,qO 87 (.pick (.t 85) (.t 86) (.c (.bool false))),qM 88 87,⟨some 89,.mov (.t 10),(some (88,true))⟩,qO 90 (.pick (.t 88) (.t 89) (.c (.bool false))),qS 8 2 83,qM 3 90] .ret))))))))))))
theorem qi5:chkF Tryz.prog Tryz.f40 qi1 [.c 2 8 true,.t 3] 91=true:=by kernel_rfl
open Classical in
theorem num9 (s:List UInt8) (hs:s.length≤1000000):∃ (v:Int) (b:Bool),PCall Tryz.prog E5 78 [.str s,int 9] (·=.tup [int v,.bool b])∧(b=true↔nuF s)∧(nuF s→v=atV s):=by
 have hN:=qqs s 9 hs
 by_cases hnf:nuF s
 ·rw [if_pos (show badN s 9=false∧(qat s [45]).1.all digB=true from hnf),((qly _).1 hnf).1] at hN
  exact ⟨_,_,hN,⟨fun _=>hnf,fun _=>rfl⟩,fun _=>rfl⟩
 ·rw [if_neg (show ¬ (badN s 9=false∧(qat s [45]).1.all digB=true) from hnf)] at hN
  exact ⟨_,_,hN,⟨fun h=>(by cases h),fun h=>absurd h hnf⟩,fun h=>absurd h hnf⟩
set_option maxRecDepth 100000 in
set_option maxHeartbeats 4000000 in
theorem qxo (s:List UInt8) (hs:s.length≤200000):PCall Tryz.prog E5 40 [.str s] (fun x=>∃ r,x=.tup [.agg (lrV r),.bool (prL (spN s)).isSome]∧∀ r',prL (spN s)=some r'→r=r'):=by
 refine qah mixed Tryz.func40 qi5 ?_
 refine zV ?_
 have hln:=qqX s
 have hmm:=qnZ s
 refine use1 (up5 (qkY s (by omega))) rfl (.inl rfl) ?_
 generalize spN s=w at *
 have e7:Int.toNat 7=7:=rfl
 have e3:Int.toNat 3=3:=rfl
 have e0:Int.toNat 0=0:=rfl
 have e2:Int.toNat 2=2:=rfl
 have e4:Int.toNat 4=4:=rfl
 have e1:Int.toNat 1=1:=rfl
 have e5:Int.toNat 5=5:=rfl
 have e6:Int.toNat 6=6:=rfl
 have ht7:List.take 7 (strE w)=strE (w.take 7):=by simp [strE,List.map_take]
 have e1':∀ b:Bool,b=false→(!b)=true:=by decide
 by_cases h8:w.length=8
 ·have e8:decide ((w.length:Int)=8)=true:=by rw [decide_eq_true_eq];omega
  have g0:=qbp (w:=w) (j:=0) (by omega)
  have g1:=qbp (w:=w) (j:=1) (by omega)
  have g2:=qbp (w:=w) (j:=2) (by omega)
  have g3:=qbp (w:=w) (j:=3) (by omega)
  have g4:=qbp (w:=w) (j:=4) (by omega)
  have g5:=qbp (w:=w) (j:=5) (by omega)
  have g6:=qbp (w:=w) (j:=6) (by omega)
  have g7:=qbp (w:=w) (j:=7) (by omega)
  have hgl:∀ j,(w.getD j []).length≤200000:=by
   intro j
   rw [yj]
   cases hj:w[j]? with
   |none=>simp
   |some x=>exact zt (hmm x (zn hj)) hs
  simp only [ZZ,WW,Ze,reduceCtorEq,zd,ze,za,zf,zb,qac,e7,e8,ht7,Bool.not_true,Bool.not_false]
  refine ⟨by omega,?_⟩
  refine useG (fun _=>up5 (qa2 (w.take 7) [] (by simp;omega))) rfl (.inl rfl) ?_
  simp only [ZZ,WW,Ze,reduceCtorEq,zd,ze,za,zf,zb,qac,e3,g3]
  refine ⟨fun h=>⟨h,by omega,by omega⟩,fun h=>⟨h,by omega⟩,fun h=>⟨h,by omega,by omega⟩,fun h=>⟨h,by omega⟩,fun h=>⟨h,fun h2=>by rw [h,h2];rfl⟩,e1' _,?_⟩
  refine br ?_ ?_
  ·intro h
   have hp:prL w=none:=by
    refine qmU fun hc=>?_
    rw [Bool.or_eq_true,decide_eq_true_eq,zi,zQ,zQ,decide_eq_false_iff_not,decide_eq_false_iff_not] at h
    rcases h with h|h
    ·exact hc.2.1 h
    ·exact hc.2.2.1.elim h.1 h.2
   rw [hp]
   refine zS ?_
   exact ⟨lr0,rfl,fun d' h=>by cases h⟩
  intro h
  have hk:¬ []∈w.take 7∧knR w:=by
   rw [Bool.or_eq_false_iff,decide_eq_false_iff_not,Bool.and_eq_false_iff,z6,z6,decide_eq_true_eq,decide_eq_true_eq] at h
   exact ⟨h.1,h.2⟩
  simp only [ZZ,WW,Ze,reduceCtorEq,zd,ze,za,zf,zb,qac,e0,g0]
  refine ⟨⟨by omega,by omega⟩,by omega,?_⟩
  obtain ⟨v0,b0,N0,n0,m0⟩:=num9 (w.getD 0 []) (by have:=hgl 0;omega)
  obtain ⟨v2,b2,N2,n2,m2⟩:=num9 (w.getD 2 []) (by have:=hgl 2;omega)
  obtain ⟨v4,b4,N4,n4,m4⟩:=num9 (w.getD 4 []) (by have:=hgl 4;omega)
  refine use1 N0 rfl (.inl rfl) ?_
  simp only [ZZ,WW,Ze,reduceCtorEq,zd,ze,za,zf,zb,qac,e2,g2]
  refine ⟨⟨by omega,by omega⟩,by omega,?_⟩
  refine use1 N2 rfl (.inl rfl) ?_
  simp only [ZZ,WW,Ze,reduceCtorEq,zd,ze,za,zf,zb,qac,e4,g4]
  refine ⟨⟨by omega,by omega⟩,by omega,?_⟩
  refine use1 N4 rfl (.inl rfl) ?_
  refine zS ?_
  refine drg0 ?_
  simp only [ZZ,WW,Ze,reduceCtorEq,zd,ze,za,zf,zb,qac,e1,g1,e5,g5,e7,g7]
  refine ⟨⟨by omega,by omega⟩,by omega,⟨by omega,by omega⟩,by omega,⟨by omega,by omega⟩,by omega,?_⟩
  simp only [ZZ,WW,Ze,reduceCtorEq,zd,ze,za,zf,zb,qac,e3,g3]
  refine ⟨⟨by omega,by omega⟩,by omega,?_⟩
  have hfin:∀ (tt:List (List UInt8)) (kk:Int),tt=(if w.getD 6 []=[45] then [] else splF (w.getD 6 []) 59)→kk=(if w.getD 3 []=parW then 2 else 3)→∃ r,PV.tup [.agg [int v0,.str (w.getD 1 []),int v2,.str (w.getD 5 []),.sl 1 (strE tt),int kk,.str (w.getD 7 []),int v4],.bool ((b0 && b2) && b4)]=.tup [.agg (lrV r),.bool (prL w).isSome]∧∀ r',prL w=some r'→r=r':=by
   rintro tt kk rfl rfl
   by_cases hn:nuR w
   ·have hp:=qrf (w:=w) ⟨h8,hk.1,hk.2,hn⟩
    rw [hp,n0.2 hn.1,n2.2 hn.2.1,n4.2 hn.2.2,m0 hn.1,m2 hn.2.1,m4 hn.2.2]
    exact ⟨mkRw w,rfl,fun r' h=>by cases h;rfl⟩
   ·have hp:prL w=none:=qmU (fun hc=>hn hc.2.2.2)
    have hb:((b0 && b2) && b4)=false:=by
     cases hx:((b0 && b2) && b4)
     ·rfl
     ·rw [zi,zi] at hx
      exact absurd ⟨n0.1 hx.1.1,n2.1 hx.1.2,n4.1 hx.2⟩ hn
    rw [hp,hb]
    exact ⟨⟨v0,w.getD 1 [],v2,w.getD 5 [],_,_,w.getD 7 [],v4⟩,rfl,fun r' h=>by cases h⟩
  refine br (fun h3=>?_) (fun h3=>?_)
  all_goals
   simp only [ZZ,WW,Ze,reduceCtorEq,zd,ze,za,zf,zb,qac,e3,g3]
   refine qae zE_ ?_
   simp only [ZZ,WW,Ze,reduceCtorEq,zd,ze,za,zf,zb,qac,e6,g6]
   refine ⟨⟨by omega,by omega⟩,by omega,?_⟩
   refine br (fun h6=>?_) (fun h6=>?_)
   ·have t6:splF (w.getD 6 []) 59=if w.getD 6 []=[45] then [] else splF (w.getD 6 []) 59:=by rw [if_neg (by rw [zQ,decide_eq_false_iff_not] at h6;exact h6)]
    simp only [ZZ,WW,Ze,reduceCtorEq,zd,ze,za,zf,zb,qac,e6,g6]
    refine ⟨⟨by omega,by omega⟩,by omega,?_⟩
    refine use1 (up5 (qe8 (w.getD 6 []) 59 (by have:=hgl 6;omega))) rfl (.inl rfl) ?_
    rw [qbU]
    refine zS ?_
    refine qae zE_ ?_
    refine zS ?_
    first
     |exact hfin _ 2 t6 (by rw [if_pos (show w.getD 3 []=parW from of_decide_eq_true h3)])
     |exact hfin _ 3 t6 (by rw [if_neg (show ¬ w.getD 3 []=parW from of_decide_eq_false h3)])
   ·have t6:([]:List (List UInt8))=if w.getD 6 []=[45] then [] else splF (w.getD 6 []) 59:=by rw [if_pos (by rw [z6,decide_eq_true_eq] at h6;exact h6)]
    simp only [ZZ,WW,Ze,reduceCtorEq,zd,ze,za,zf,zb,qac,e6,g6]
    refine qae zE_ ?_
    refine zS ?_
    first
     |exact hfin _ 2 t6 (by rw [if_pos (show w.getD 3 []=parW from of_decide_eq_true h3)])
     |exact hfin _ 3 t6 (by rw [if_neg (show ¬ w.getD 3 []=parW from of_decide_eq_false h3)])
 ·have e8:decide ((w.length:Int)=8)=false:=by rw [decide_eq_false_iff_not];omega
  simp only [ZZ,WW,Ze,reduceCtorEq,zd,ze,za,zf,zb,qac,e7,e8,ht7,Bool.not_true,Bool.not_false]
  refine ⟨False.elim,?_⟩
  refine quY (fun hc=>by cases hc) (fun hc=>?_)
  have hp:prL w=none:=qmU (fun h=>h8 h.1)
  rw [hp]
  rcases Nat.lt_or_ge 3 w.length with h3|h3
  ·have g3:=qbp (w:=w) (j:=3) h3
   simp only [ZZ,WW,Ze,reduceCtorEq,zd,ze,za,zf,zb,Bool.not_true,Bool.not_false,Bool.true_or,e3,g3,qac]
   exact ⟨by simp,by simp,by simp,by simp,by simp,lr0,rfl,fun d' h=>by cases h⟩
  ·have g3:(strE w).getD 3 []=[]:=by rw [yj,List.getElem?_eq_none (by rw [qac];exact h3)];rfl
   simp only [ZZ,WW,Ze,reduceCtorEq,zd,ze,za,zf,zb,Bool.not_true,Bool.not_false,Bool.true_or,e3,g3,qac]
   exact ⟨by simp,by simp,by simp,by simp,rfl,lr0,rfl,fun d' h=>by cases h⟩
abbrev qbL:IC:=(sR [qO 4 (.mov (.c (.nl 2)))] (.seq (sR [qM 5 1,qB 6 .lss 5 (cI 0)] (jW 6 (.reg [qO 7 (.dead),⟨none,.dead,none⟩]))) (.cut (.seq (sR [qM 8 1,qM 9 0,qO 10 (.cap0 (.t 9)),qM 11 0,qN 12 11,qT 13 .sub 10 12,qT 14 .sub 8 13,qM 1 14] (sR [qM 15 1,qB 16 .gtr 15 (cI 0)] (jW 16 (.reg [qM 17 0,qM 18 0,qO 19 (.cap0 (.t 18)),qO 20 (.vsn (.t 17) (.t 19)),qM 21 1,qO 22 (.apz 100 2 32 [.str [],.str []] (.t 20) (.t 21)),qM 23 0,qN 24 23,qO 25 (.trn 2 (.t 22) (.t 24)),qM 0 25])))) (.cut (sR [qM 26 0,qM 4 26] .ret))))))
theorem qbM:chkF Tryz.prog Tryz.f99 qbL [.t 4] 27=true:=by kernel_rfl
def qaH:IC:=(sR [qT 28 .lss 27 26] (.seq (.cond (.t 28) .skip (.exit 2)) (.seq (.block 3 (sR [qX 29 1 25 27,qL 30 29,qM 8 30] (.reg [qM 31 6,qM 32 8,qO 33 (.app 100 2 32 (.t 31) (.t 32)),qM 6 33]))) (.reg [qB 34 .add 27 (cI 1),qM 27 34]))))
def qaI:IC:=(sR [qT 12 .lss 11 10] (.seq (jE 12) (.seq (.block 1 (sR [qX 13 1 9 11,qL 14 13,qM 5 14] (sR [qM 15 3,qM 16 5,qN 17 16,qT 18 .add 15 17,qM 3 18] (sR [qM 19 3,qB 20 .lss 19 (cI 0)] (jW 20 (.reg [qO 21 (.dead),⟨none,.dead,none⟩])))))) (.cut (.reg [qB 22 .add 11 (cI 1),qM 11 22])))))
abbrev qbx:IC:=(sR [qO 2 (.mov (.c (.nl 2)))] (sR [jI 3 0] (.seq (sR [qM 9 0,qN 10 9,jI 11 0] (.block 0 (.loop qaI))) (sR [qM 23 3,jC 24 99 [.c (.nl 2),.t 23],qM 6 24] (.seq (sR [qM 25 0,qN 26 25,jI 27 0] (.block 2 (.loop qaH))) (sR [qM 35 6,qM 2 35] .ret))))))
theorem qby:chkF Tryz.prog Tryz.f57 qbx [.t 2] 36=true:=by kernel_rfl
abbrev tAdr:Nat:=100
section
variable {E:Envt}
theorem quv (n:Nat) (hn:n≤1000000000):FCall Tryz.prog E 99 [.nl 2,int n] tAdr 2 (·=[]):=by
 unfold FCall
 refine qf0 mixed Tryz.func99 qbM ?_
 refine zV ?_
 refine br ?_ ?_
 ·intro h
  have:=of_decide_eq_true h
  omega
 ·intro h
  refine zS ?_
  refine qae zE_ ?_
  refine zS ?_
  ((with_reducible and_intros)<;>try exact sc_)
  refine br ?_ ?_
  ·intro h2
   have h2:=of_decide_eq_true h2
   refine zS ?_
   ((with_reducible and_intros)<;>try exact sc_)
   refine qae zE_ ?_
   refine zS ?_
   exact qke 22 [] rfl rfl rfl
  ·intro h2
   refine zS ?_
   refine qae zE_ ?_
   refine zS ?_
   exact qx2 rfl rfl
def qgE (ls:List (List AdT)):Nat:=(ls.map List.length).sum
theorem qkD {ls:List (List AdT)} {k:Nat} {x:List AdT} (h:ls[k]?=some x):qgE (ls.take (k+1))=qgE (ls.take k)+x.length:=by
 obtain ⟨hk,hx⟩:=zo.1 h
 unfold qgE
 rw [zI hk,zF,List.sum_append,hx]
 simp
theorem qqe {ls:List (List AdT)} {k:Nat} {x:List AdT} (h:ls[k]?=some x):(ls.take (k+1)).flatten=(ls.take k).flatten++x:=by
 obtain ⟨hk,hx⟩:=zo.1 h
 rw [zI hk,List.flatten_append,hx]
 simp
theorem qjh (ls:List (List AdT)) (k:Nat):qgE (ls.take k)≤qgE ls:=by
 unfold qgE
 conv=>rhs;rw [← List.take_append_drop k ls,zF,List.sum_append]
 omega
theorem qrQ (ls:List (List AdT)):ls.flatten.length=qgE ls:=by simp [qgE,List.length_flatten]
set_option maxHeartbeats 2000000 in
theorem qiE (ls:List (List AdT)) (hn:ls.length≤1000000) (hs:qgE ls≤1000000000):FCall Tryz.prog E 57 [.sl 1 (ls.map fun l=>[PV.sl 2 (adrE l)])] tAdr 2 (·=ls.flatten.map adC):=by
 unfold FCall
 refine qf0 mixed Tryz.func57 qby ?_
 refine zV ?_
 have hln:(ls.map fun l=>[PV.sl 2 (adrE l)]).length=ls.length:=by simp
 have hget:∀ k s,ls[k]?=some s→(ls.map fun l=>[PV.sl 2 (adrE l)]).getD k []=[.sl 2 (adrE s)]:=fun k s hs=>qaR hs
 generalize (ls.map fun l=>[PV.sl 2 (adrE l)])=es at hln hget ⊢
 simp only [hln]
 refine qad (fun n fr L=>∃ (k:Nat),k≤ls.length∧n=ls.length - k∧fr=(.p (.sl 1 es)::oo::.p (.nl 2)::.p (int (qgE (ls.take k):Nat))::oC (oo::(.p (.sl 1 es)::.p (int (ls.length:Nat))::.p (int (k:Nat))::oE (oD []))))∧L=[]) ls.length (.p (.sl 1 es)::oo::.p (.nl 2)::.p (int (0:Nat))::oC (oo::(.p (.sl 1 es)::.p (int (ls.length:Nat))::.p (int (0:Nat))::oE (oD [])))) [] zF_ zE_ ⟨0,by omega,by omega,rfl,rfl⟩ ?_
 rintro n fr L ⟨k,hk,rfl,rfl,rfl⟩
 simp only [qaI,ZZ,WW,Ze,reduceCtorEq,zd,ze,za,zf,zb]
 have hle:=qjh ls k
 refine br ?_ ?_
 ·intro h
  have hlt:k < ls.length:=by have:=of_decide_eq_true h;omega
  obtain ⟨s,hs⟩:∃ x,ls[k]?=some x:=⟨_,zk hlt⟩
  have hg:=hget k s hs
  have hnx:=qkD hs
  have hle':=qjh ls (k+1)
  simp only [ZZ,WW,Ze,reduceCtorEq,zd,ze,za,zf,zb,hg,qaY,hln]
  ((with_reducible and_intros)<;>try exact sc_)
  refine br ?_ ?_
  ·intro h2
   have:=of_decide_eq_true h2
   omega
  ·intro h2
   refine zS ?_
   refine qae zE_ ?_
   refine zS ?_
   refine ⟨qai (by omega) (by omega),?_⟩
   refine qab (ls.length - (k+1)) (.p (.sl 1 es)::oo::.p (.nl 2)::.p (int (qgE (ls.take (k+1)):Nat))::oC (oo::(.p (.sl 1 es)::.p (int (ls.length:Nat))::.p (int ((k+1:Nat):Nat))::oE (oD [])))) [] (by omega) (by rw [hnx];simp only [Int.natCast_add,ZZ,WW,Ze,reduceCtorEq,zd,ze,za,zf,zb];try trivial) zE_ ⟨k+1,by omega,rfl,rfl,rfl⟩
 ·intro h
  have hge:k=ls.length:=by have:=of_decide_eq_false h;omega
  subst hge
  rw [z7]
  refine zS ?_
  refine qyr (quv (qgE ls) hs) rfl ?_
  rintro es' rfl
  simp only [ZZ,WW,Ze,reduceCtorEq,zd,ze,za,zf,zb,hln]
  refine qad (fun n fr L=>∃ (k:Nat),k≤ls.length∧n=ls.length - k∧fr=(.p (.sl 1 es)::oo::.p (.nl 2)::oo::oo::oo::.row (.l 24)::oE (oB (.p (.sl 1 es)::.p (int (ls.length:Nat))::.p (int (k:Nat))::oD [])))∧L=[(.l 24,.row ((ls.take k).flatten.map adC) tAdr 2 true)]) ls.length (.p (.sl 1 es)::oo::.p (.nl 2)::oo::oo::oo::.row (.l 24)::oE (oB (.p (.sl 1 es)::.p (int (ls.length:Nat))::.p (int (0:Nat))::oD []))) [(.l 24,.row [] tAdr 2 true)] zF_ zE_ ⟨0,by omega,by omega,rfl,rfl⟩ ?_
  rintro n fr L ⟨k,hk,rfl,rfl,rfl⟩
  simp only [qaH,ZZ,WW,Ze,reduceCtorEq,zd,ze,za,zf,zb]
  have hle:=qjh ls k
  refine br ?_ ?_
  ·intro h
   have hlt:k < ls.length:=by have:=of_decide_eq_true h;omega
   obtain ⟨s,hs⟩:∃ x,ls[k]?=some x:=⟨_,zk hlt⟩
   have hg:=hget k s hs
   have hnx:=qkD hs
   have hfx:=qqe hs
   have hle':=qjh ls (k+1)
   have hfl:((ls.take k).flatten.map adC).length=qgE (ls.take k):=by rw [zN,qrQ]
   simp only [ZZ,WW,Ze,reduceCtorEq,zd,ze,za,zf,zb,hg,hln,qaY]
   simp only [hfl,zN]
   ((with_reducible and_intros)<;>try exact sc_)
   refine qab (ls.length - (k+1)) (.p (.sl 1 es)::oo::.p (.nl 2)::oo::oo::oo::.row (.l 24)::oE (oB (.p (.sl 1 es)::.p (int (ls.length:Nat))::.p (int ((k+1:Nat):Nat))::oD []))) [(.l 24,.row ((ls.take (k+1)).flatten.map adC) tAdr 2 true)] (by omega) zF_ (by rw [hfx,zF];simp only [ZZ,WW,Ze,reduceCtorEq,zd,ze,za,zf,zb,adrE]) ⟨k+1,by omega,rfl,rfl,rfl⟩
  ·intro h
   have hge:k=ls.length:=by have:=of_decide_eq_false h;omega
   subst hge
   rw [z7]
   refine zS ?_
   exact qke 24 _ rfl rfl rfl
end
abbrev qax:Nat:=103
theorem cat2 (a b:List AdT):[a,b].flatten.map adC=adrE (a++b):=by simp [adrE]
section
variable {E:Envt}
end
def lt0:Ltr:=⟨[],0,([],[]),[],[],[],[],[]⟩
def qci:IC:=(sR [qT 31 .lss 30 29] (.seq (jE 31) (.seq (.block 1 (sR [qM 32 30,qX 33 1 28 30,qL 34 33,qM 4 32,qM 5 34] (sR [qM 35 5,jC 36 73 [.t 35],qM 37 4,qB 38 .gtr 37 (cI 0),qM 39 38,⟨some 40,.mov (.t 5),(some (39,true))⟩,⟨some 41,.fla 4 (.t 1),(some (39,true))⟩,⟨some 42,.ld 1 false (.t 41),(some (39,true))⟩,⟨some 43,.mov (.t 4),(some (39,true))⟩,⟨some 44,.mx (.t 43) (cI 1),(some (39,true))⟩,⟨some 45,.bin .sub (.t 44) (cI 1),(some (39,true))⟩,⟨some 46,.ixa 1 (.t 42) (.t 45),(some (39,true))⟩,⟨some 47,.ld 1 false (.t 46),(some (39,true))⟩,⟨some 48,.bin .leq (.t 40) (.t 47),(some (39,true))⟩,qO 49 (.pick (.t 39) (.t 48) (.c (.bool false))),jC 50 30 [.t 49,.c (.int .i64 7)],qO 51 (.bsl 1 [.t 36,.t 50]),jC 52 29 [.t 51],qM 6 52] (sR [qM 53 6,qB 54 .neq 53 (cI 0)] (jW 54 (sR [qM 55 6,qM 2 55] .ret)))))) (.reg [qB 56 .add 30 (cI 1),qM 30 56]))))
abbrev qfQ:IC:=(sR [qO 1 (.box 54 (.t 0)),jI 2 0] (.seq (.seq (.drg [wF 9 2 1,qL 10 9,qO 11 (.pcall 0 72 [.t 10]),qO 12 (.not (.t 11)),qO 13 (.pcall 1 30 [.t 12,.c (.int .i64 1)]),wF 14 3 1,qL 15 14,qO 16 (.pcall 2 73 [.t 15]),wF 17 4 1,qL 18 17,qN 19 18,qB 20 .gtr 19 (cI 100),qO 21 (.pcall 3 30 [.t 20,.c (.int .i64 2)]),qO 22 (.bsl 1 [.t 13,.t 16,.t 21]),qO 23 (.pcall 4 29 [.t 22]),qM 3 23]) (sR [qM 24 3,qB 25 .neq 24 (cI 0)] (jW 25 (sR [qM 26 3,qM 2 26] .ret)))) (.seq (sR [wF 27 4 1,qL 28 27,qN 29 28,jI 30 0] (.block 0 (.loop qci))) (.seq (.drg [wF 57 5 1,qL 58 57,qB 59 .eql 58 (cI 3),wF 60 5 1,qL 61 60,qB 62 .eql 61 (cI 2),qM 7 59,qM 8 62]) (.seq (.drg [qM 63 7,qO 64 (.not (.t 63)),qM 65 64,⟨some 66,.mov (.t 8),(some (65,true))⟩,⟨some 67,.not (.t 66),(some (65,true))⟩,qO 68 (.pick (.t 65) (.t 67) (.c (.bool false))),qO 69 (.pcall 0 30 [.t 68,.c (.int .i64 4)]),wF 70 6 1,qL 71 70,qO 72 (.sln (.t 71)),qO 73 (.pcall 1 71 [.t 72,.c (.int .i64 1),.c (.int .i64 300)]),qO 74 (.not (.t 73)),qM 75 74,⟨some 76,.fla 6 (.t 1),(some (75,false))⟩,⟨some 77,.ld 1 false (.t 76),(some (75,false))⟩,⟨some 78,.pcall 2 74 [.t 77],(some (75,false))⟩,⟨some 79,.not (.t 78),(some (75,false))⟩,qO 80 (.pick (.t 75) (.c (.bool true)) (.t 79)),qO 81 (.pcall 3 30 [.t 80,.c (.int .i64 3)]),qM 82 7,qM 83 82,⟨some 84,.fla 7 (.t 1),(some (83,true))⟩,⟨some 85,.ld 1 false (.t 84),(some (83,true))⟩,⟨some 86,.bin .neq (.t 85) (cI 0),(some (83,true))⟩,qO 87 (.pick (.t 83) (.t 86) (.c (.bool false))),qM 88 87,⟨some 89,.mov (.t 8),(some (88,false))⟩,⟨some 90,.mov (.t 89),(some (88,false))⟩,⟨some 91,.fla 7 (.t 1),(some (90,true))⟩,⟨some 92,.ld 1 false (.t 91),(some (90,true))⟩,⟨some 93,.pcall 4 71 [.t 92,.c (.int .i64 1),.c (.int .i64 1000)],(some (90,true))⟩,⟨some 94,.not (.t 93),(some (90,true))⟩,⟨some 95,.pick (.t 90) (.t 94) (.c (.bool false)),(some (88,false))⟩,qO 96 (.pick (.t 88) (.c (.bool true)) (.t 95)),qO 97 (.pcall 5 30 [.t 96,.c (.int .i64 1)]),qO 98 (.bsl 1 [.t 69,.t 81,.t 97]),qO 99 (.pcall 6 29 [.t 98]),qM 2 99]) .ret)))))
theorem qf4:chkF Tryz.prog Tryz.f32 qfQ [.t 2] 100=true:=by kernel_rfl
def qb2:IC:=(sR [qT 14 .lss 13 12] (.seq (jE 14) (.seq (.block 1 (sR [qM 15 13,qX 16 8 11 13,qO 17 (.ld 8 true (.t 16)),qO 5 (.alc 54 [.int .i64 0,.str [],.int .i64 0,.str [],.nl 1,.int .i64 0,.str [],.int .i64 0]),qM 4 15,qS 8 5 17] (.seq (.drg [wF 18 0 5,qL 19 18,qM 20 4,qB 21 .add 20 (cI 1),qT 22 .neq 19 21,qO 23 (.pcall 0 30 [.t 22,.c (.int .i64 1)]),wF 24 1 5,qL 25 24,qO 26 (.pcall 1 31 [.t 25]),qO 27 (.not (.t 26)),qO 28 (.pcall 2 30 [.t 27,.c (.int .i64 3)]),qM 29 3,wF 30 1 5,qL 31 30,qO 32 (.mpl false (.bool false) (.t 29) (.t 31)),qO 33 (.pcall 3 30 [.t 32,.c (.int .i64 6)]),qO 34 (.ld 8 true (.t 5)),qO 35 (.pcall 4 32 [.t 34]),qO 36 (.bsl 1 [.t 23,.t 28,.t 33,.t 35]),qO 37 (.pcall 5 29 [.t 36]),qM 6 37]) (.seq (sR [qM 38 6,qB 39 .neq 38 (cI 0)] (jW 39 (sR [qM 40 6,qM 2 40] .ret))) (.reg [qM 41 3,wF 42 1 5,qL 43 42,⟨none,.mpu (.t 41) (.t 43) (.c (.bool true)),none⟩]))))) (.reg [qB 44 .add 13 (cI 1),qM 13 44]))))
abbrev qfk:IC:=(sR [jI 2 0] (.seq (sR [qM 7 0,qN 8 7,qB 9 .gtr 8 (cI 2000)] (jW 9 (sR [jI 2 2] .ret))) (sR [qO 10 (.mkm 9 4),qM 3 10] (.seq (sR [qM 11 0,qN 12 11,jI 13 0] (.block 0 (.loop qb2))) (sR [jI 2 0] .ret)))))
theorem qfr:chkF Tryz.prog Tryz.f6 qfk [.t 2] 45=true:=by kernel_rfl
set_option maxHeartbeats 4000000 in
theorem qn7 (r:Lr) (hB:LrB r):PCall Tryz.prog E0 32 [.agg (lrV r)] (·=int (rwE r)):=by
 refine qah mixed Tryz.func32 qf4 ?_
 refine zV ?_
 simp only [lrV,ZZ,WW,Ze,reduceCtorEq,zd,ze,za,zf,zb]
 have b2:=hB.b2
 have b3:=hB.b3
 have b5:=hB.b5
 refine drg5 (x1:=.bool (inE r.at_ 0 5761439)) (x2:=int (qaO (!inE r.at_ 0 5761439) 1)) (x3:=int (qaO (!qhc r.fr) 3)) (x4:=int (qaO (decide (100 < (r.tos.length:Int))) 2)) (x5:=int (rh3 r)) ?_
 simp only [ZZ,WW,Ze,reduceCtorEq,zd,ze,za,zf,zb,qac]
 ((repeat' (with_reducible apply And.intro))<;>try (first|exact usep (qsu _) rfl (.inl rfl)|exact usep (qiI r.fr (by omega)) rfl (.inl rfl)|exact usep (qee _ _) rfl (.inl rfl)|exact usep (qe9 [_,_,_] (by simp)) rfl (.inl rfl)|(exact sc_)))
 refine br ?_ ?_
 ·intro h
  have h:¬ rh3 r=0:=by simpa using h
  refine zS ?_
  rw [rwE,qdM,if_neg h]
 intro h
 have h0:rh3 r=0:=by simpa using h
 have hW:rwE r=qar [toF r,rt3 r]:=by rw [rwE,qdM,if_pos h0]
 rw [hW]
 clear hW h
 simp only [ZZ,WW,Ze,reduceCtorEq,zd,ze,za,zf,zb,qac]
 unfold toF
 have hget:=fun {k:Nat} (h:k < r.tos.length)=>qcf _ k _ (qo3 (pubE r.tos) h)
 generalize hG:(List.range r.tos.length).map (pubE r.tos)=G at *
 have hGl:G.length=r.tos.length:=by rw [← hG];simp
 refine qad (fun n fr L=>∃ (k:Nat),k≤r.tos.length∧n=r.tos.length - k∧(qar G=qar (G.drop k))∧fr=(oo::.adr (.l 1) 0::oE (oD (oB (.p (.sl 1 (strE r.tos))::.p (int (r.tos.length:Nat))::.p (int (k:Nat))::oG (oC (oo::[]))))))∧L=[(.l 1,.box [.p (int r.no),.p (.str r.id),.p (int r.at_),.p (.str r.fr),.p (.sl 1 (strE r.tos)),.p (int r.kind),.p (.str r.about),.p (int r.spans)] tRow)]) (r.tos.length) (oo::.adr (.l 1) 0::oE (oD (oB (.p (.sl 1 (strE r.tos))::.p (int (r.tos.length:Nat))::.p (int (0:Nat))::oG (oC (oo::[])))))) [(.l 1,.box [.p (int r.no),.p (.str r.id),.p (int r.at_),.p (.str r.fr),.p (.sl 1 (strE r.tos)),.p (int r.kind),.p (.str r.about),.p (int r.spans)] tRow)] (by simp only [ZZ,WW,Ze,reduceCtorEq,zd,ze,za,zf,zb,qac];try trivial) zF_ ⟨0,by omega,by omega,by simp,rfl,rfl⟩ ?_
 rintro n fr L ⟨k,hk,rfl,hf,rfl,rfl⟩
 simp only [qci,ZZ,WW,Ze,reduceCtorEq,zd,ze,za,zf,zb]
 refine br ?_ ?_
 ·intro h
  have hlt:k < r.tos.length:=by have:=of_decide_eq_true h;omega
  obtain ⟨x,hx⟩:∃ x,r.tos[k]?=some x:=⟨_,zk hlt⟩
  obtain ⟨y,hy⟩:∃ y,r.tos[k - 1]?=some y:=⟨_,zk (by omega)⟩
  have hg:=qaU hx
  have hg2:=qaU hy
  have hxd:r.tos.getD k []=x:=by simp [List.getD,hx]
  have hyd:r.tos.getD (k - 1) []=y:=by simp [List.getD,hy]
  have hbx:=hB.b4 x (zn hx)
  have hd:=hget hlt
  have hn1:(max (k:Int) 1 - 1).toNat=k - 1:=by omega
  have he:qar [qaO (!qhc x) 3,qaO (decide (0 < (k:Int)) && (bytesLess x y || decide (x=y))) 7]=pubE r.tos k:=by
   rw [pubE,hxd,hyd,leS]
   have:decide (0 < (k:Int))=decide (0 < k):=by simp
   rw [this]
  simp only [ZZ,WW,Ze,reduceCtorEq,zd,ze,za,zf,zb,hg,qac]
  ((with_reducible and_intros)<;>try exact sc_)
  refine use1 (qiI x (by omega)) rfl (.inl rfl) ?_
  simp only [ZZ,WW,Ze,reduceCtorEq,zd,ze,za,zf,zb,hn1,hg2,qac]
  ((with_reducible and_intros)<;>try exact sc_)
  refine use1 (qee _ _) rfl (.inl rfl) ?_
  refine zS ?_
  refine use1 (qe9 [_,_] (by simp)) rfl (.inl rfl) ?_
  rw [he]
  refine zS ?_
  refine br ?_ ?_
  ·intro h7
   have:¬ pubE r.tos k=0:=by simpa using h7
   refine zS ?_
   rw [qdM,hf,hd,if_neg this,if_neg this]
  intro h7
  have:pubE r.tos k=0:=by simpa using h7
  refine zS ?_
  refine ⟨qai (by omega) (by omega),?_⟩
  refine qab (r.tos.length - (k+1)) (oo::.adr (.l 1) 0::oE (oD (oB (.p (.sl 1 (strE r.tos))::.p (int (r.tos.length:Nat))::.p (int ((k+1):Nat))::oG (oC (oo::[])))))) [(.l 1,.box [.p (int r.no),.p (.str r.id),.p (int r.at_),.p (.str r.fr),.p (.sl 1 (strE r.tos)),.p (int r.kind),.p (.str r.about),.p (int r.spans)] tRow)] (by omega) zF_ zF_ ⟨k+1,by omega,rfl,by rw [hf,hd,if_pos this],rfl,rfl⟩
 ·intro h
  have hge:r.tos.length≤k:=by have:=of_decide_eq_false h;omega
  have hz:qar [qar G,rt3 r]=rt3 r:=by rw [qdM,hf,zX (by omega),qkM,if_pos rfl,qdM,qkM];split<;>rename_i h<;>simp [h]
  rw [hz]
  refine zS ?_
  refine drg0 ?_
  refine zS ?_
  refine ⟨[int (qaO (!decide (r.kind=3) && !decide (r.kind=2)) 4),.bool (inE r.about.length 1 300),.bool (qiH r.about),int (qaO (!inE r.about.length 1 300 || !qiH r.about) 3),.bool (inE r.spans 1 1000),int (qaO (decide (r.kind=3) && !decide (r.spans=0) || decide (r.kind=2) && !inE r.spans 1 1000) 1),int (rt3 r)],?_⟩
  refine zS ?_
  have e1:∀ b:Bool,b=false→(!b)=true:=by decide
  ((repeat' (with_reducible apply And.intro))<;>try (first|exact usep (qee _ _) rfl (.inl rfl)|exact usep (qoW _ _ _) rfl (.inl rfl)|exact fun h=>⟨h,usep (up0 (qpO r.about (by omega))) rfl (.inl rfl)⟩|exact fun h=>⟨h,usep (qpO r.about (by omega)) rfl (.inl rfl)⟩|exact fun h=>⟨h,usep (qoW _ _ _) rfl (.inl rfl)⟩|exact usep (qe9 [_,_,_] (by simp)) rfl (.inl rfl)|exact e1 _|exact fun h=>⟨h,fun h2=>by rw [h,h2];rfl⟩|(exact sc_)))
set_option maxHeartbeats 4000000 in
set_option maxRecDepth 100000 in
theorem qgn (l:List Lr) (hB:∀ r∈l,LrB r):PCall Tryz.prog E0 6 [.sl 8 (lrE l)] (·=int (qdd l)):=by
 refine qah mixed Tryz.func6 qfr ?_
 refine zV ?_
 simp only [ZZ,WW,Ze,reduceCtorEq,zd,ze,za,zf,zb,qav]
 refine br ?_ ?_
 ·intro h
  have h1:=of_decide_eq_true h
  refine zS ?_
  rw [qdd,if_pos h1]
 intro h
 have h1:=of_decide_eq_false h
 have hle:l.length≤2000:=by omega
 rw [qo9 l h1]
 clear h
 simp only [ZZ,WW,Ze,reduceCtorEq,zd,ze,za,zf,zb,qav]
 have hget:=fun {k:Nat} (h:k < l.length)=>qcf _ k _ (qo2 (qdp l) h)
 generalize hG:(List.range l.length).map (qdp l)=G at *
 have hGl:G.length=l.length:=by rw [← hG];simp
 refine qad (fun n fr L=>∃ (k:Nat) (kv:List (List UInt8×PV)),k≤l.length∧n=l.length - k∧(qar G=qar (G.drop k))∧(qq4 kv ((l.take k).map (·.id)))∧fr=(oo::oo::oo::.mp (.l 10)::oC (oB (oo::(.p (.sl 8 (lrE l))::.p (int (l.length:Nat))::.p (int (k:Nat))::oE (oD (oC (oB (oo::[]))))))))∧L=[(.l 10,.map kv 9 4)]) (l.length) (oo::oo::oo::.mp (.l 10)::oC (oB (oo::(.p (.sl 8 (lrE l))::.p (int (l.length:Nat))::.p (int (0:Nat))::oE (oD (oC (oB (oo::[])))))))) [(.l 10,.map [] 9 4)] (by simp only [ZZ,WW,Ze,reduceCtorEq,zd,ze,za,zf,zb,qav,List.take_zero];try trivial) zF_ ⟨0,[],by omega,by omega,by simp,qmG,rfl,rfl⟩ ?_
 rintro n fr L ⟨k,kv,hk,rfl,hf,hkv,rfl,rfl⟩
 simp only [qb2,ZZ,WW,Ze,reduceCtorEq,zd,ze,za,zf,zb]
 refine br ?_ ?_
 ·intro h
  have hlt:k < l.length:=by have:=of_decide_eq_true h;omega
  obtain ⟨r,hx⟩:∃ r,l[k]?=some r:=⟨_,zk hlt⟩
  have hg:=qhd hx
  simp only [lrV] at hg
  have hbx:=hB r (zn hx)
  have c1:=hbx.b1
  have hd:=hget hlt
  have he:=qlf hx
  have hsn:mpD kv r.id (.bool false)=.bool ((l.take k).any (fun p=>decide (p.id=r.id))):=by rw [hkv r.id,qw2]
  have hre:=qn7 r hbx
  simp only [lrV] at hre
  simp only [ZZ,WW,Ze,reduceCtorEq,zd,ze,za,zf,zb,hg,qav]
  ((with_reducible and_intros)<;>try exact sc_)
  refine ⟨[int (qaO (!decide (r.no=(k:Int)+1)) 1),.bool (idB r.id),int (qaO (!idB r.id) 3),int (qaO ((l.take k).any (fun p=>decide (p.id=r.id))) 6),int (rwE r),int (qdp l k)],?_⟩
  simp only [ZZ,WW,Ze,reduceCtorEq,zd,ze,za,zf,zb,hsn]
  ((repeat' (with_reducible apply And.intro))<;>try (first|exact usep (qee _ _) rfl (.inl rfl)|exact usep (qnL r.id (by omega)) rfl (.inl rfl)|exact usep hre rfl (.inl rfl)|(rw [he];exact usep (qe9 [_,_,_,_] (by simp)) rfl (.inl rfl))|(exact sc_)))
  refine br ?_ ?_
  ·intro h7
   have:¬ qdp l k=0:=by simpa using h7
   refine zS ?_
   rw [hf,hd,if_neg this]
  intro h7
  have:qdp l k=0:=by simpa using h7
  refine zS ?_
  ((with_reducible and_intros)<;>try exact sc_)
  refine qab (l.length - (k+1)) (oo::oo::oo::.mp (.l 10)::oC (oB (oo::(.p (.sl 8 (lrE l))::.p (int (l.length:Nat))::.p (int ((k+1):Nat))::oE (oD (oC (oB (oo::[])))))))) [(.l 10,.map (mpS kv r.id (.bool true)) 9 4)] (by omega) zF_ zF_ ⟨k+1,mpS kv r.id (.bool true),by omega,rfl,by rw [hf,hd,if_pos this],by rw [qeO _ hx];exact qcv hkv r.id,rfl,rfl⟩
 ·intro h
  have hge:l.length≤k:=by have:=of_decide_eq_false h;omega
  refine zS ?_
  rw [hf,zX (by omega)]
  rfl
def qck:IC:=(sR [qT 24 .lss 23 22] (.seq (jE 24) (.seq (.block 1 (sR [qM 25 23,qX 26 1 21 23,qL 27 26,qM 8 25,qM 9 27] (sR [qM 29 9,jC 30 40 [.t 29],qM 28 30,qO 31 (.ext 0 (.t 28)),qO 32 (.ext 1 (.t 28)),qO 10 (.alc 54 [.int .i64 0,.str [],.int .i64 0,.str [],.nl 1,.int .i64 0,.str [],.int .i64 0]),qS 8 10 31,qM 11 32] (.seq (sR [qM 33 11,qO 34 (.not (.t 33)),qM 35 34,⟨some 36,.mov (.t 6),(some (35,false))⟩,⟨some 37,.not (.t 36),(some (35,false))⟩,⟨some 38,.mov (.t 37),(some (35,false))⟩,⟨some 39,.mov (.t 8),(some (38,true))⟩,⟨some 40,.mov (.t 5),(some (38,true))⟩,⟨some 41,.len (.t 40),(some (38,true))⟩,⟨some 42,.bin .sub (.t 41) (cI 1),(some (38,true))⟩,⟨some 43,.bin .eql (.t 39) (.t 42),(some (38,true))⟩,⟨some 44,.pick (.t 38) (.t 43) (.c (.bool false)),(some (35,false))⟩,qO 45 (.pick (.t 35) (.c (.bool true)) (.t 44))] (jW 45 (sR [qM 46 8,qO 2 (.mov (.c (.nl 8))),qM 3 46,jI 4 9] .ret))) (.reg [qM 47 7,qO 48 (.ld 8 true (.t 10)),qO 49 (.bsl 8 [.t 48]),qO 50 (.app 54 8 104 (.t 47) (.t 49)),qM 7 50]))))) (.reg [qB 51 .add 23 (cI 1),qM 23 51]))))
abbrev qfS:IC:=(sR [qO 2 (.mov (.c (.nl 8))),jI 3 0,jI 4 0] (.seq (sR [qM 13 0,qO 14 (.sln (.t 13)),qB 15 .gtr 14 (cI 200000)] (jW 15 (sR [qO 2 (.mov (.c (.nl 8))),jI 3 0,jI 4 2] .ret))) (sR [qM 17 0,jC 18 39 [.t 17],qM 16 18,qO 19 (.ext 0 (.t 16)),qO 20 (.ext 1 (.t 16)),qM 5 19,qM 6 20] (sR [qO 7 (.nilr 54 8)] (.seq (sR [qM 21 5,qN 22 21,jI 23 0] (.block 0 (.loop qck))) (.seq (sR [qM 52 7,jC 53 6 [.t 52],qM 12 53] (sR [qM 54 12,qB 55 .neq 54 (cI 0)] (jW 55 (sR [qM 56 12,qO 2 (.mov (.c (.nl 8))),jI 3 0,qM 4 56] .ret)))) (sR [qM 57 7,qM 2 57,jI 3 0,jI 4 0] .ret)))))))
theorem qf6:chkF Tryz.prog Tryz.f10 qfS [.t 2,.t 3,.t 4] 58=true:=by kernel_rfl
def perR (o:List Lr×Int×Int):PV:=.tup [.sl 8 (lrE o.1),int o.2.1,int o.2.2]
set_option maxRecDepth 100000 in
set_option maxHeartbeats 2000000 in
theorem qoU (s:List UInt8) (hs:s.length≤100000000000):PCall Tryz.prog E5 10 [.str s] (·=perR (perF s)):=by
 refine qah mixed Tryz.func10 qf6 ?_
 refine zV ?_
 unfold perF
 ((with_reducible and_intros)<;>try exact sc_)
 refine br ?_ ?_
 ·intro h
  have h:200000 < s.length:=by have:=of_decide_eq_true h;omega
  rw [if_pos h]
  refine zS ?_
  rfl
 intro h
 have h:s.length≤200000:=by have:=of_decide_eq_false h;omega
 rw [if_neg (by omega)]
 refine zS ?_
 refine use1 (up5 (qus s (by omega))) rfl (.inl rfl) ?_
 obtain ⟨hf1,hf2⟩:=qrB s
 rw [qbU]
 generalize (qfM s).1=W at *
 generalize (qfM s).2=b at *
 obtain ⟨R,hR⟩:∃ R,gorF (splF s 10).dropLast 0 []=R:=⟨_,rfl⟩
 rw [hR]
 have hsl:=qdW s 10
 have hsm:=qgr s 10
 have hS0:0 < (splF s 10).length:=List.length_pos_iff.2 (by rw [qbV];exact qp0 10 s)
 generalize splF s 10=S at *
 have hWl:W.length≤S.length:=by
  cases b
  ·rw [(hf2 rfl).1];omega
  ·rw [(hf1 rfl).1];simp
 simp only [ZZ,WW,Ze,reduceCtorEq,zd,ze,za,zf,zb,qac]
 refine qad (fun n fr L=>∃ (k:Nat) (q:List Lr),k≤W.length∧n=W.length - k∧(gorF (S.dropLast.drop k) k q=R)∧(b=false→k < W.length)∧(∀ y∈q,LrB y)∧(q.length≤k)∧fr=(oC (oo::(.p (.sl 1 (strE W))::.p (.bool b)::.row (.l 7)::oD (oC (oo::(.p (.sl 1 (strE W))::.p (int (W.length:Nat))::.p (int (k:Nat))::oF (oB [])))))))∧L=[(.l 7,.row (lrE q) tRow 8 true)]) (W.length) (oC (oo::(.p (.sl 1 (strE W))::.p (.bool b)::.row (.l 7)::oD (oC (oo::(.p (.sl 1 (strE W))::.p (int (W.length:Nat))::.p (int (0:Nat))::oF (oB []))))))) [(.l 7,.row (lrE []) tRow 8 true)] (by simp only [qac,ZZ,WW,Ze,reduceCtorEq,zd,ze,za,zf,zb];try trivial) zF_ ⟨0,[],by omega,by omega,hR,fun hb=>by rw [(hf2 hb).1];exact hS0,(fun y hy=>by cases hy),by simp,rfl,rfl⟩ ?_
 rintro n fr L ⟨k,q,hk,rfl,hg,hbk,hqB,hql,rfl,rfl⟩
 simp only [qck,ZZ,WW,Ze,reduceCtorEq,zd,ze,za,zf,zb]
 refine br ?_ ?_
 ·intro h1
  have hlt:k < W.length:=by have:=of_decide_eq_true h1;omega
  obtain ⟨x,hx⟩:∃ x,W[k]?=some x:=⟨_,zk hlt⟩
  have hgx:(strE W).getD k []=[.str x]:=qaU hx
  have hxl:x.length≤200000:=by
   have hm:x∈S:=by
    have:=zn hx
    cases b
    ·rwa [(hf2 rfl).1] at this
    ·rw [(hf1 rfl).1] at this
     exact (List.dropLast_sublist S).subset this
   exact zt (hsm x hm) h
  have hxw:∀ y∈spN x,y.length≤200000:=fun y hy=>zt (qnZ x y hy) hxl
  have hlast:b=false∧k+1=W.length→R=.ok q∧k+1=S.length:=by
   rintro ⟨hb,hk1⟩
   have hWS:=(hf2 hb).1
   rw [hWS] at hk1
   rw [zX (by simp;omega)] at hg
   exact ⟨hg.symm,hk1⟩
  have hnext:¬ (b=false∧k+1=W.length)→gorF (S.dropLast.drop k) k q=match prL (spN x) with|none=>.error k|some d=>gorF (S.dropLast.drop (k+1)) (k+1) (q++[d]):=by
   intro hn
   have hxd:S.dropLast[k]?=some x:=by
    cases b
    ·have hWS:=(hf2 rfl).1
     have hk1:k+1 < S.length:=by rw [← hWS];rcases Nat.lt_or_ge (k+1) W.length with h6|h6;exact h6;exact absurd ⟨rfl,by omega⟩ hn
     rw [List.getElem?_dropLast,if_pos (by omega),← hWS,hx]
    ·rw [← (hf1 rfl).1,hx]
   obtain ⟨hlk,he⟩:=zo.1 hxd
   rw [List.drop_eq_getElem_cons hlk,he]
   rfl
  simp only [ZZ,WW,Ze,reduceCtorEq,zd,ze,za,zf,zb,hgx,qac]
  refine ⟨⟨by omega,by omega⟩,hlt,?_⟩
  refine use (qxo x hxl) rfl (.inl rfl) ?_
  rintro y ⟨d,rfl,hd⟩
  have hfin:b=false∧k+1=W.length→PV.tup [.sl 8 [],int (k:Nat),int 9]=perR (perE S R):=by
   intro hb
   obtain ⟨h6,h7⟩:=hlast hb
   rw [h6,qjE (hf2 hb.1).2,← h7]
   simp [perR,lrE]
  cases hp:prL (spN x) with
  |none=>
   rw [hp] at hnext
   simp only [ZZ,WW,Ze,reduceCtorEq,zd,ze,za,zf,zb,lrV,qac,Option.isSome_none,Bool.not_false,Bool.not_true,Bool.false_and,Bool.true_or]
   refine ⟨False.elim,False.elim,?_⟩
   by_cases hl:b=false∧k+1=W.length
   ·exact hfin hl
   ·rw [← hg,hnext hl]
    rfl
  |some d'=>
   obtain rfl:=hd d' hp
   rw [hp] at hnext
   simp only [ZZ,WW,Ze,reduceCtorEq,zd,ze,za,zf,zb,lrV,qac,Option.isSome_some,Bool.not_false,Bool.not_true,Bool.true_and,Bool.false_or]
   refine ⟨fun h=>⟨h,qai (by omega) (by omega)⟩,?_⟩
   have dB:LrB d:=qrg hp hxw
   refine br ?_ ?_
   ·intro h2
    rw [zi,zQ,decide_eq_true_eq] at h2
    refine zS ?_
    exact hfin ⟨h2.1,by omega⟩
   intro h2
   have hl:¬ (b=false∧k+1=W.length):=by
    rintro ⟨hb,hk1⟩
    rw [Bool.and_eq_false_iff,z6,decide_eq_false_iff_not] at h2
    rcases h2 with h2|h2
    ·rw [hb] at h2;cases h2
    ·omega
   have hn:=hnext hl
   rw [hg] at hn
   have hn:R=gorF (S.dropLast.drop (k+1)) (k+1) (q++[d]):=hn
   have happ:=qjg q d
   have hbk':b=false→k+1 < W.length:=fun hb=>by
    rcases Nat.lt_or_ge (k+1) W.length with h6|h6
    ·exact h6
    ·exact absurd ⟨hb,by omega⟩ hl
   simp only [ZZ,WW,Ze,reduceCtorEq,zd,ze,za,zf,zb,happ]
   refine ⟨by rw [qav];omega,qai (by omega) (by omega),?_⟩
   refine qab (W.length - (k+1)) (oC (oo::(.p (.sl 1 (strE W))::.p (.bool b)::.row (.l 7)::oD (oC (oo::(.p (.sl 1 (strE W))::.p (int (W.length:Nat))::.p (int ((k+1):Nat))::oF (oB []))))))) [(.l 7,.row (lrE (q++[d])) tRow 8 true)] (by omega) zF_ zF_ ⟨k+1,q++[d],by omega,rfl,hn.symm,hbk',(fun y hy=>by rcases List.mem_append.1 hy with hy|hy;exact hqB y hy;rw [List.mem_singleton] at hy;rw [hy];exact dB),by rw [List.length_append];simp only [List.length_cons,List.length_nil];omega,rfl,rfl⟩
 ·intro h1
  have hge:k=W.length:=by have:=of_decide_eq_false h1;omega
  have hb:b=true:=by
   cases b
   ·have:=hbk rfl;omega
   ·rfl
  obtain ⟨hW,hS⟩:=hf1 hb
  rw [hge,hW,zX (Nat.le_refl _)] at hg
  have hg:Except.ok q=R:=hg
  rw [← hg,qoe hS]
  refine zS ?_
  refine use1 (up5 (qgn q hqB)) rfl (.inr rfl) ?_
  refine zS ?_
  refine br ?_ ?_
  ·intro h2
   have h2:¬ qdd q=0:=by simpa using h2
   rw [if_pos h2]
   refine zS ?_
   rfl
  ·intro h2
   have h2:qdd q=0:=by simpa using h2
   rw [if_neg (fun e=>e h2)]
   refine zS ?_
   rfl
end Go.Proofs.YtjgdjinhkgjpeabGreatDoor
