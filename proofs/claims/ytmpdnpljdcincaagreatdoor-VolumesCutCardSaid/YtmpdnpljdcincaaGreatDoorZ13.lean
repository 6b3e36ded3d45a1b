import Derived.Test.YtmpdnpljdcincaaGreatDoorZ12
import Derived.Lib.Bytealg
set_option linter.unusedVariables false
set_option linter.unusedSimpArgs false
set_option linter.defProp false
namespace Go.Proofs.YtmpdnpljdcincaaGreatDoor
open Nat renaming reduceAdd→zd,reduceEqDiff→za,reduceLT→zf,reduceLeDiff→zb,reduceMul→ze
open List renaming append_assoc→yh,getD→zu,length_append→zp,length_cons→zK,length_drop→zY,map_cons→zx,mem_cons→zC,not_mem_nil→yj
open Go.RowKit
theorem qiM (a:List UInt8):sufE (a++[10]) [10]=true:=by
 unfold sufE
 have e3:(a++[10]).drop ((a++[10]).length - ([10]:List UInt8).length)=[10]:=by simp
 rw [e3]
 simp
 omega
theorem qrc {b:List UInt8} (h:sufE b [10]=true):∃ t,b=t++[10]:=by
 unfold sufE at h
 rw [Bool.and_eq_true,decide_eq_true_eq,decide_eq_true_eq] at h
 exact ⟨b.take (b.length - ([10]:List UInt8).length),by conv=>lhs;rw [← List.take_append_drop (b.length - ([10]:List UInt8).length) b,h.2]⟩
theorem qtz (s:List UInt8):∀ n,Lib.repeatL (s++[10]) n=[]∨sufE (Lib.repeatL (s++[10]) n) [10]=true
 |0=>.inl rfl
 |n+1=>by
  rcases qtz s n with h|h
  ·refine .inr ?_
   show sufE ((s++[10])++Lib.repeatL (s++[10]) n) [10]=true
   rw [h,List.append_nil]
   exact qiM s
  ·obtain ⟨t,ht⟩:=qrc h
   refine .inr ?_
   show sufE ((s++[10])++Lib.repeatL (s++[10]) n) [10]=true
   rw [ht,← yh]
   exact qiM _
theorem Pap.more {il:List Itm} {i:Nat} {x z:Itm} (h:Pap il i x):Pap (il++[z]) i x:=by
 obtain ⟨b1,b2,b3,b4,b5,b6,b7⟩:=h
 refine ⟨b1,b2,b3,b4,b5,?_,b7⟩
 rcases b6 with h|⟨j,y,hj,hy,h1,h2,h3⟩
 ·exact .inl h
 ·exact .inr ⟨j,y,hj,by rw [List.getElem?_append_left (List.getElem?_eq_some_iff.1 hy).1];exact hy,h1,h2,h3⟩
theorem qxL {il:List Itm} {z:Itm} (h:∀ j x,il[j]?=some x→Pap il j x) (hz:Pap il il.length z):∀ j x,(il++[z])[j]?=some x→Pap (il++[z]) j x:=by
 intro j x hx
 by_cases hj:j < il.length
 ·rw [List.getElem?_append_left hj] at hx
  exact (h j x hx).more
 ·rw [List.getElem?_append_right (by omega)] at hx
  have h0:j - il.length=0:=by
   cases hq:j - il.length with
   |zero=>rfl
   |succ q=>rw [hq] at hx;simp at hx
  rw [h0] at hx
  have hj2:j=il.length:=by omega
  subst hj2
  simp only [List.getElem?_cons_zero,Option.some.injEq] at hx
  subst hx
  exact hz.more
section
variable {E:Envt}
set_option maxHeartbeats 8000000 in
set_option maxRecDepth 100000 in
theorem qsP (l:List Int) (k:Nat) (n:Nat) (hk:k≤900000) (hl:l.length≤9223372036854775807) (hn:n≤20) :
  qeV Tryz.prog E 7 T (stm l k) [int (n:Nat)] (fun x cs'=>∃ il k',x=.sl 7 (itE il)∧il.length≤n∧qbl il∧cs'=stm l k'∧k'≤k+1+20 * n):=by
 unfold qeV
 refine qep mixed Tryz.func7 qeT ?_
 refine zV ?_
 ((with_reducible and_intros)<;>try exact sc_)
 refine useS (qco l k _ (by omega) hl (by omega)) rfl rfl rfl zE_ ?_
 rintro x cs' ⟨y,rfl,rfl⟩
 have b1:=qdd y ((n:Nat)+1)
 have b2:=qde y ((n:Nat)+1) (by omega)
 obtain ⟨m,hm⟩:∃ m:Nat,qc2 y ((n:Nat)+1)=(m:Nat):=⟨(qc2 y ((n:Nat)+1)).toNat,by omega⟩
 rw [hm] at b1 b2 ⊢
 clear hm
 refine zS ?_
 have hR0:([]:List (List PV))=itE []:=rfl
 rw [hR0]
 refine qac (fun n fr L=>∃ (i:Nat) (k':Nat) (il:List Itm),i≤m∧n=m - i∧(k'≤k+1+20 * i)∧(il.length=i)∧(∀ j x,il[j]?=some x→Pap il j x)∧fr=(.adr (.b 0) 0::oo::oo::oo::oo::.row (.l 5)::oC (oB (.p (int (m:Nat))::.p (int (i:Nat))::oG (oE []))))∧L=[(.b 0,.box ((stm l k').map .p) T),(.l 5,.row (itE il) qfN 7 true)]) (m) _ _ zF_ zF_ ⟨0,k+1,[],by omega,by omega,by omega,rfl,(fun j x h=>by simp at h),rfl,rfl⟩ ?_
 rintro n fr L ⟨i,k',il,hi,rfl,hk',hil,hib,rfl,rfl⟩
 simp only [qbK,ZZ,WW,Zd,reduceCtorEq,zd,ze,zb,zf,za]
 refine br ?_ ?_
 ·intro h
  have hlt:i < m:=by have:=of_decide_eq_true h;omega
  have hE4:=qzv (IntKind.i32.wrap (97+((i:Nat):Int)))
  have hEp:=qy4 ⟨i,by omega⟩
  simp only at hEp
  obtain ⟨id,hid,hidl⟩:∃ id,id=105 :: (Utf8.encode (IntKind.i32.wrap (97+((i:Nat):Int)))).data.toList∧id=pid i:=⟨_,rfl,hEp⟩
  refine zS ?_
  ((with_reducible and_intros)<;>try exact sc_)
  rw [← hid]
  clear hid hE4 hEp
  refine useS (qgX l k' [[97,110,110],[98,111]] (by omega) hl (by simp) (by simp)) rfl rfl rfl zE_ ?_
  rintro x cs' ⟨cu,rfl,hcu,rfl⟩
  have hcu2:cu=[97,110,110]∨cu=[98,111]:=by simpa using hcu
  refine zS ?_
  refine useS (qcM l (k'+1) [1,3,2,4] (by omega) hl (by simp) (by simp)) rfl rfl rfl zE_ ?_
  rintro x cs' ⟨kd,rfl,hkd,rfl⟩
  have hkd2:1≤kd∧kd≤4:=by simp at hkd;omega
  refine zS ?_
  refine useS (qcM l (k'+1+1) [0,5,5,40,1440] (by omega) hl (by simp) (by simp)) rfl rfl rfl zE_ ?_
  rintro x cs' ⟨at_,rfl,hat,rfl⟩
  have hat2:0≤at_∧at_≤1440:=by simp at hat;omega
  refine zS ?_
  refine useS (qgX l (k'+1+1+1) [[],[120]] (by omega) hl (by simp) (by simp)) rfl rfl rfl zE_ ?_
  rintro x cs' ⟨nm,rfl,hnm,rfl⟩
  have hnm2:nm=[]∨nm=[120]:=by simpa using hnm
  clear hcu hkd hat hnm
  refine zS ?_
  refine useS (qco l (k'+1+1+1+1) 6 (by omega) hl (by omega)) rfl rfl rfl zE_ ?_
  rintro x cs' ⟨y,rfl,rfl⟩
  obtain ⟨c,hc,hcy⟩:=qhq y 6 (by omega)
  have hcy:qc2 y 6=(c:Nat):=hcy
  rw [hcy]
  clear hcy
  refine zS ?_
  refine qac (fun n fr L=>∃ (j:Nat) (k2:Nat) (t:List UInt8),j≤c∧n=c - j∧(k2≤k'+5+2 * j)∧(t.length≤100 * j)∧(okTx t=true)∧(t=[]∨sufE t [10]=true)∧fr=(.adr (.b 0) 0::oo::oo::oo::oo::.row (.l 5)::.p (int (i:Nat))::.adr (.l 7) 0::oo::oo::oo::oo::.p (int (m:Nat))::.p (int (i:Nat))::oE (oC (oo::(.p (int (c:Nat))::.p (int (j:Nat))::oF (oE (oD (oo::[])))))))∧L=[(.b 0,.box ((stm l k2).map .p) T),(.l 5,.row (itE il) qfN 7 true),(.l 7,.box [.p (.str id),.p (.str cu),.p (int kd),.p (.str nm),.p (int at_),.p (.str []),.p (.str t)] qfN)]) (c) _ _ zF_ zF_ ⟨0,k'+1+1+1+1+1,[],by omega,by omega,by omega,by simp,rfl,.inl rfl,rfl,rfl⟩ ?_
  rintro n fr L ⟨j,k2,t,hj,rfl,hk2,ht,hto,hts,rfl,rfl⟩
  simp only [qbJ,ZZ,WW,Zd,reduceCtorEq,zd,ze,zb,zf,za]
  refine br ?_ ?_
  ·intro h
   have hjt:j < c:=by have:=of_decide_eq_true h;omega
   obtain ⟨p0,hp,hpick⟩:=qxq (E:=E) l k2 [79,80,81] (by omega) hl (by simp) (by simp)
   obtain ⟨p,rfl,hp2⟩:∃ p:Nat,p0=(p:Nat)∧p≤81:=by
    simp at hp
    exact ⟨p0.toNat,by omega,by omega⟩
   refine zS ?_
   refine drg2 (x1:=.str (Lib.repeatL [119] p)) (x2:=.str (Lib.repeatL [97,98,32] 30)) ?_
   refine zS ?_
   refine useD hpick ⟨_,_,rfl,rfl⟩ rfl rfl rfl zE_ (fun _=>⟨0,rfl⟩) ?_
   rintro x cs' ⟨rfl,rfl⟩
   refine zS ?_
   refine ⟨usep (qeC [119] p (by omega) (by simp)) rfl (.inl rfl),usep (qeC [97,98,32] 30 (by omega) (by simp)) rfl (.inl rfl),?_⟩
   have h1:(Lib.repeatL [119] p).length≤90:=by rw [Lib.repeatL_length];simp;omega
   have h2:(Lib.repeatL [97,98,32] 30).length≤90:=Nat.le_of_eq (Lib.repeatL_length _ _)
   have o1:okTx (Lib.repeatL [119] p)=true:=qkI (by decide) p
   have o2:okTx (Lib.repeatL [97,98,32] 30)=true:=qkI (by decide) 30
   generalize Lib.repeatL [119] p=w1 at *
   generalize Lib.repeatL [97,98,32] 30=w2 at *
   refine useD (qgX l (k2+1) [[111,110,101],[115,101,99,114,101,116,32,119,111,114,100,115],[],[195,169,116,195,169,32,120],w1,w2] (by omega) hl (by simp) (by simp)) ⟨_,_,[],rfl,by simp,rfl⟩ rfl rfl rfl zE_ (fun _=>⟨0,rfl⟩) ?_
   rintro x cs' ⟨u,rfl,hu,rfl⟩
   have hu2:u.length≤90:=by
    simp only [zC,yj,or_false] at hu
    rcases hu with rfl|rfl|rfl|rfl|rfl|rfl
    all_goals first|exact h1|exact h2|decide
   have hu3:okTx u=true:=by
    simp only [zC,yj,or_false] at hu
    rcases hu with rfl|rfl|rfl|rfl|rfl|rfl
    all_goals first|exact o1|exact o2|decide
   clear hu
   simp only [ZZ,WW,Zd,reduceCtorEq,zd,ze,zb,zf,za,zp,zK,List.length_nil]
   refine ⟨by omega,by omega,qal (by omega) (by omega),?_⟩
   refine qab (c - (j+1)) (.adr (.b 0) 0::oo::oo::oo::oo::.row (.l 5)::.p (int (i:Nat))::.adr (.l 7) 0::oo::oo::oo::oo::.p (int (m:Nat))::.p (int (i:Nat))::oE (oC (oo::(.p (int (c:Nat))::.p (int ((j+1):Nat))::oF (oE (oD (oo::[]))))))) [(.b 0,.box ((stm l (k2+1+1)).map .p) T),(.l 5,.row (itE il) qfN 7 true),(.l 7,.box [.p (.str id),.p (.str cu),.p (int kd),.p (.str nm),.p (int at_),.p (.str []),.p (.str (t++(u++[10])))] qfN)] (by omega) zF_ zF_ ⟨j+1,k2+1+1,t++(u++[10]),by omega,rfl,by omega,by simp only [zp,zK,List.length_nil];omega,qnf hto (qnf hu3 (by decide)),.inr (by rw [← yh];exact qiM _),rfl,rfl⟩
  intro h
  clear h
  refine zS ?_
  refine useS (qgo l k2 8 (by omega) hl (by omega)) rfl rfl rfl zE_ ?_
  rintro x cs' ⟨f,rfl,rfl⟩
  refine zS ?_
  refine qgj (fun fr L=>∃ (t:List UInt8) (k3:Nat),(t.length≤600∧okTx t=true∧(t=[]∨sufE t [10]=true))∧k3≤k'+17∧fr=(.adr (.b 0) 0::oo::oo::oo::oo::.row (.l 5)::.p (int (i:Nat))::.adr (.l 7) 0::oo::oo::oo::oo::.p (int (m:Nat))::.p (int (i:Nat))::oG (oE []))∧L=[(.b 0,.box ((stm l (k3)).map .p) T),(.l 5,.row (itE il) qfN 7 true),(.l 7,.box [.p (.str id),.p (.str cu),.p (int kd),.p (.str nm),.p (int at_),.p (.str ([])),.p (.str (t))] qfN)]) ?_ ?_ ?_
  ·intro _
   refine zS ?_
   refine useS (qcM l (k2+1) [49,50,51,101] (by omega) hl (by simp) (by simp)) rfl rfl rfl zE_ ?_
   rintro x cs' ⟨q0,rfl,hq0,rfl⟩
   obtain ⟨q,rfl,hq⟩:∃ q:Nat,q0=(q:Nat)∧q≤101:=by
    simp at hq0
    exact ⟨q0.toNat,by omega,by omega⟩
   refine zS ?_
   refine use1 (qeC [108,105,110,101,10] q (by omega) (by simp)) rfl (.inl rfl) ?_
   have h1:(Lib.repeatL [108,105,110,101,10] q).length≤600:=by rw [Lib.repeatL_length];simp;omega
   have h2:okTx (Lib.repeatL [108,105,110,101,10] q)=true:=qkI (by decide) q
   have h3:=qtz [108,105,110,101] q
   simp only [List.cons_append,List.nil_append] at h3
   generalize Lib.repeatL [108,105,110,101,10] q=w1 at *
   refine zS ?_
   ((with_reducible and_intros)<;>try exact sc_)
   exact qdP (.adr (.b 0) 0::oo::oo::oo::oo::.row (.l 5)::.p (int (i:Nat))::.adr (.l 7) 0::oo::oo::oo::oo::.p (int (m:Nat))::.p (int (i:Nat))::oG (oE [])) [(.b 0,.box ((stm l (k2+1+1)).map .p) T),(.l 5,.row (itE il) qfN 7 true),(.l 7,.box [.p (.str id),.p (.str cu),.p (int kd),.p (.str nm),.p (int at_),.p (.str ([])),.p (.str (w1))] qfN)] zF_ zE_ ⟨_,_,⟨h1,h2,h3⟩,by omega,rfl,rfl⟩
  ·intro _
   refine zS ?_
   exact qdP (.adr (.b 0) 0::oo::oo::oo::oo::.row (.l 5)::.p (int (i:Nat))::.adr (.l 7) 0::oo::oo::oo::oo::.p (int (m:Nat))::.p (int (i:Nat))::oG (oE [])) [(.b 0,.box ((stm l (k2+1)).map .p) T),(.l 5,.row (itE il) qfN 7 true),(.l 7,.box [.p (.str id),.p (.str cu),.p (int kd),.p (.str nm),.p (int at_),.p (.str ([])),.p (.str (t))] qfN)] zF_ zE_ ⟨_,_,⟨by omega,hto,hts⟩,by omega,rfl,rfl⟩
  clear ht hk2 hto hts
  rintro fr L ⟨t,k3,ht,hk3,rfl,rfl⟩
  refine zS ?_
  refine qpZ (fun hc=>?_) (fun hc=>?_)
  ·have hi0:0 < i:=by have:=of_decide_eq_true hc;omega
   refine useS (qgo l k3 3 (by omega) hl (by omega)) rfl rfl rfl zE_ ?_
   rintro x cs' ⟨f2,rfl,rfl⟩
   simp only [ZZ,WW,Zd,reduceCtorEq,zd,ze,zb,zf,za,hc]
   refine qgj (fun fr L=>∃ (p:List UInt8) (k4:Nat),(p=[]∨∃ j y,j < i∧il[j]?=some y∧y.2.2.2.2.2.1=[]∧(y.2.2.1=1∨y.2.2.1=3)∧p=pid j)∧k4≤k'+19∧fr=(.adr (.b 0) 0::oo::oo::oo::oo::.row (.l 5)::.p (int (i:Nat))::.adr (.l 7) 0::oo::oo::oo::oo::.p (int (m:Nat))::.p (int (i:Nat))::oG (oE []))∧L=[(.b 0,.box ((stm l (k4)).map .p) T),(.l 5,.row (itE il) qfN 7 true),(.l 7,.box [.p (.str id),.p (.str cu),.p (int kd),.p (.str nm),.p (int at_),.p (.str (p)),.p (.str (t))] qfN)]) ?_ ?_ ?_
   ·intro _
    simp only [ZZ,WW,Zd,reduceCtorEq,zd,ze,zb,zf,za,qan]
    refine useS (qco l (k3+1) il.length (by omega) hl (by omega)) rfl rfl rfl zE_ ?_
    rintro x cs' ⟨y,rfl,rfl⟩
    obtain ⟨q,hq,hy⟩:=qhq y il.length (by omega)
    rw [hy]
    obtain ⟨b,hb⟩:∃ b,il[q]?=some b:=⟨_,List.getElem?_eq_getElem hq⟩
    have hg:=qc6 hb
    have hbp:=(hib q b hb).b1
    obtain ⟨a1,a2,a3,a4,a5,a6,a7⟩:=b
    simp only [itC] at hg
    simp only at hbp
    simp only [ZZ,WW,Zd,reduceCtorEq,zd,ze,zb,zf,za,qan,hg]
    ((with_reducible and_intros)<;>try exact sc_)
    refine br ?_ ?_
    ·intro hcd
     have hpp:a6=[]∧(a3=1∨a3=3):=by simpa using hcd
     refine zS ?_
     exact qdP (.adr (.b 0) 0::oo::oo::oo::oo::.row (.l 5)::.p (int (i:Nat))::.adr (.l 7) 0::oo::oo::oo::oo::.p (int (m:Nat))::.p (int (i:Nat))::oG (oE [])) [(.b 0,.box ((stm l (k3+1+1)).map .p) T),(.l 5,.row (itE il) qfN 7 true),(.l 7,.box [.p (.str id),.p (.str cu),.p (int kd),.p (.str nm),.p (int at_),.p (.str (a1)),.p (.str (t))] qfN)] zF_ zE_ ⟨_,_,.inr ⟨q,_,by omega,hb,hpp.1,hpp.2,hbp⟩,by omega,rfl,rfl⟩
    ·intro _
     refine zS ?_
     exact qdP (.adr (.b 0) 0::oo::oo::oo::oo::.row (.l 5)::.p (int (i:Nat))::.adr (.l 7) 0::oo::oo::oo::oo::.p (int (m:Nat))::.p (int (i:Nat))::oG (oE [])) [(.b 0,.box ((stm l (k3+1+1)).map .p) T),(.l 5,.row (itE il) qfN 7 true),(.l 7,.box [.p (.str id),.p (.str cu),.p (int kd),.p (.str nm),.p (int at_),.p (.str ([])),.p (.str (t))] qfN)] zF_ zE_ ⟨_,_,.inl rfl,by omega,rfl,rfl⟩
   ·intro _
    refine zS ?_
    exact qdP (.adr (.b 0) 0::oo::oo::oo::oo::.row (.l 5)::.p (int (i:Nat))::.adr (.l 7) 0::oo::oo::oo::oo::.p (int (m:Nat))::.p (int (i:Nat))::oG (oE [])) [(.b 0,.box ((stm l (k3+1)).map .p) T),(.l 5,.row (itE il) qfN 7 true),(.l 7,.box [.p (.str id),.p (.str cu),.p (int kd),.p (.str nm),.p (int at_),.p (.str ([])),.p (.str (t))] qfN)] zF_ zE_ ⟨_,_,.inl rfl,by omega,rfl,rfl⟩
   rintro fr L ⟨p,k4,hp,hk4,rfl,rfl⟩
   have hx1:(il++[(id,cu,kd,nm,at_,p,t)]).length=i+1:=by rw [zp,hil];rfl
   have hx2:∀ j x,(il++[(id,cu,kd,nm,at_,p,t)])[j]?=some x→Pap (il++[(id,cu,kd,nm,at_,p,t)]) j x:=qxL hib (by rw [hil];exact ⟨hidl,hcu2,hkd2,hnm2,hat2,hp,ht⟩)
   simp only [ZZ,WW,Zd,reduceCtorEq,zd,ze,zb,zf,za,qan,qup]
   ((with_reducible and_intros)<;>try exact sc_)
   refine qab (m - (i+1)) _ _ (by omega) zF_ zF_ ⟨i+1,k4,il++[(id,cu,kd,nm,at_,p,t)],by omega,rfl,by omega,hx1,hx2,rfl,rfl⟩
  ·simp only [ZZ,WW,Zd,reduceCtorEq,zd,ze,zb,zf,za,hc]
   refine qaj zE_ ?_
   have hx1:(il++[(id,cu,kd,nm,at_,[],t)]).length=i+1:=by rw [zp,hil];rfl
   have hx2:∀ j x,(il++[(id,cu,kd,nm,at_,[],t)])[j]?=some x→Pap (il++[(id,cu,kd,nm,at_,[],t)]) j x:=qxL hib (by rw [hil];exact ⟨hidl,hcu2,hkd2,hnm2,hat2,.inl rfl,ht⟩)
   simp only [ZZ,WW,Zd,reduceCtorEq,zd,ze,zb,zf,za,qan,qup]
   ((with_reducible and_intros)<;>try exact sc_)
   refine qab (m - (i+1)) _ _ (by omega) zF_ zF_ ⟨i+1,k3,il++[(id,cu,kd,nm,at_,[],t)],by omega,rfl,by omega,hx1,hx2,rfl,rfl⟩
 intro h
 clear h
 refine zS ?_
 exact qdH (stm l k') rfl ⟨il,k',rfl,by omega,⟨by omega,hib⟩,rfl,by omega⟩
end
theorem qu9 {s:List UInt8} {j:Nat} (h:inP s (j+1)):∀ f,qbk s f≠j+1
 |0=>by simp [qbk]
 |f+1=>by
  unfold qbk
  split
  ·exact qu9 h f
  ·rename_i hn
   intro e
   rw [e] at hn
   exact hn ((qhD s (j+1)).2 h)
theorem qxY {s:List UInt8} {j:Nat} (h:inP s (j+1)):∀ d n,s.length≤n+d→fwdN s d n≠j+1
 |0,n,hd=>by
  have:=h.1
  unfold fwdN
  omega
 |d+1,n,hd=>by
  unfold fwdN
  split
  ·exact qxY h d (n+1) (by omega)
  ·rename_i hn
   intro e
   rw [e] at hn
   exact hn ((qhD s (j+1)).2 h)
theorem qwZ {s:List UInt8} (l:List (Int×Int)) {j:Nat} (h:inP s (j+1)):cov (qea s l) (j+1)=cov (qea s l) j:=by
 unfold cov qea
 rw [List.any_map,List.any_map]
 congr 1
 funext p
 have h1:=qu9 h p.1.toNat
 have h2:=qxY h (s.length - p.2.toNat) p.2.toNat (by omega)
 have e1:(pntF s p).1=(qbk s p.1.toNat:Nat):=rfl
 have e2:(pntF s p).2=(fwdN s (s.length - p.2.toNat) p.2.toNat:Nat):=rfl
 simp only [Function.comp_apply]
 generalize (pntF s p)=q at e1 e2 ⊢
 have k1:decide (q.1≤((j+1:Nat):Int))=decide (q.1≤(j:Int)):=decide_eq_decide.2 (by omega)
 have k2:decide (((j+1:Nat):Int) < q.2)=decide ((j:Int) < q.2):=decide_eq_decide.2 (by omega)
 rw [k1,k2]
theorem qAF {s:List UInt8} {C:Nat→Bool} (hC:∀ j,inP s (j+1)→C (j+1)=C j):∀ (n k:Nat),s.length≤k+n→k≤s.length→okTx (s.drop k)=true→okTx ((List.range' k (s.length - k)).map (redG s C))=true:=by
 intro n
 induction n using Nat.strongRecOn with
 |_ n ih=>
  intro k hn hk h
  rcases qjF h with h0|⟨r,h0,hr⟩|⟨c,r,h0,hc,hb,hr⟩
  ·have:s.length - k=0:=by
    have:=congrArg List.length h0
    simpa using this
   rw [this]
   rfl
  ·have hl:=congrArg List.length h0
   simp only [zY,zK] at hl
   have g1:s.getD k 0=195:=by
    have:=congrArg (fun l=>l.getD 0 0) h0
    simpa [zu] using this
   have g2:s.getD (k+1) 0=169:=by
    have:=congrArg (fun l=>l.getD 1 0) h0
    simpa [zu] using this
   have g3:s.drop (k+2)=r:=by
    have:=congrArg (List.drop 2) h0
    simpa [List.drop_drop] using this
   have hp:=hC k ⟨by omega,by rw [g2];decide⟩
   have e:s.length - k=(s.length - (k+2))+2:=by omega
   rw [e,List.range'_succ,List.range'_succ,zx,zx]
   have hi:=ih (n - 2) (by omega) (k+2) (by omega) (by omega) (by rw [g3];exact hr)
   unfold redG at hi ⊢
   rw [g1,g2,hp]
   cases C k
   ·simp only [Bool.false_and,Bool.false_eq_true,if_false]
    rw [qxM]
    exact hi
   ·have b1:qgw 195=false:=by decide
    have b2:qgw 169=false:=by decide
    rw [b1,b2]
    simp only [Bool.not_false,Bool.and_true,if_true]
    rw [qoK _ _ (by decide),qoK _ _ (by decide)]
    have b3:badB true 35=false:=by decide
    rw [b3]
    exact hi
  ·have hl:=congrArg List.length h0
   simp only [zY,zK] at hl
   have g1:s.getD k 0=c:=by
    have:=congrArg (fun l=>l.getD 0 0) h0
    simpa [zu] using this
   have g3:s.drop (k+1)=r:=by
    have:=congrArg (List.drop 1) h0
    simpa [List.drop_drop] using this
   have e:s.length - k=(s.length - (k+1))+1:=by omega
   rw [e,List.range'_succ,zx]
   have hi:=ih (n - 1) (by omega) (k+1) (by omega) (by omega) (by rw [g3];exact hr)
   have b3:badB true 35=false:=by decide
   unfold redG at hi ⊢
   rw [g1]
   split
   ·rw [qoK _ _ (by decide),b3]
    exact hi
   ·rw [qoK _ _ hc,hb]
    exact hi
theorem qtB {s:List UInt8} {l:List (Int×Int)} (h:okTx s=true):okTx (qci s l)=true:=by
 have:=qAF (s:=s) (C:=cov (qea s l)) (fun j hj=>qwZ l hj) s.length 0 (by omega) (by omega) (by simpa using h)
 rw [qci,List.range_eq_range']
 simpa using this
theorem qsm (s:List UInt8) (l:List (Int×Int)):(qci s l).length=s.length:=by simp [qci]
theorem qsl {s:List UInt8} {l:List (Int×Int)} (h:s=[]∨sufE s [10]=true):qci s l=[]∨sufE (qci s l) [10]=true:=by
 rcases h with rfl|h
 ·exact .inl rfl
 ·obtain ⟨t,rfl⟩:=qrc h
  right
  rw [qci,zp,List.length_singleton,List.range_succ,List.map_append]
  have e:redG (t++[10]) (cov (qea (t++[10]) l)) t.length=10:=by
   unfold redG
   have:(t++[10]).getD t.length 0=(10:UInt8):=by simp [zu]
   rw [this]
   have b:qgw 10=true:=by decide
   rw [b]
   simp
  simp only [zx,List.map_nil,e]
  exact qiM _
def MapIs (kv:List (List UInt8×PV)) (il:List Itm):Prop:=∀ s,mpF kv s=(il.reverse.find? (fun x=>decide (x.1=s))).map (fun x=>PV.agg (itC x))
theorem MapIs.nil:MapIs [] []:=fun s=>rfl
theorem MapIs.put {kv:List (List UInt8×PV)} {il:List Itm} (h:MapIs kv il) (x:Itm):MapIs (mpS kv x.1 (.agg (itC x))) (il++[x]):=fun s=>by
 rw [qg0,List.reverse_append,List.reverse_singleton,List.singleton_append,List.find?_cons]
 by_cases hs:x.1=s
 ·rw [if_pos hs]
  simp [hs]
 ·rw [if_neg hs,h s]
  simp [hs]
section
variable {E:Envt}
end
end Go.Proofs.YtmpdnpljdcincaaGreatDoor
namespace Go.Proofs.YtmpdnpljdcincaaGreatDoor
open List renaming mem_cons→zC
structure OrdP {α:Type} (lt:α→α→Bool):Prop where
 asym:∀ x y,lt x y=true→lt y x=false
 ntr:∀ x y z,lt x y=false→lt y z=false→lt x z=false
def SrtP {α:Type} (lt:α→α→Bool) (l:List α):Prop:=l.Pairwise fun u v=>lt v u=false
section
variable {α:Type} {lt:α→α→Bool}
theorem qkK {A B:List α} {x:α} (hO:OrdP lt) (h1:SrtP lt (A++B)) (h2:∀ b∈B,lt x b=true) (h3:A=[]∨∃ A' y,A=A'++[y]∧lt x y=false):SrtP lt (A++x :: B):=by
 unfold SrtP at *
 rw [List.pairwise_append] at h1 ⊢
 obtain ⟨hA,hB,hAB⟩:=h1
 refine ⟨hA,List.pairwise_cons.2 ⟨fun b hb=>hO.asym _ _ (h2 b hb),hB⟩,fun u hu v hv=>?_⟩
 rcases zC.1 hv with rfl|hv
 ·rcases h3 with rfl|⟨A',y,rfl,hy⟩
  ·cases hu
  ·rcases List.mem_append.1 hu with hu|hu
   ·exact hO.ntr _ y _ hy ((List.pairwise_append.1 hA).2.2 u hu y (by simp))
   ·rw [List.mem_singleton] at hu
    subst hu
    exact hy
 ·exact hAB u hu v hv
theorem qra {β:Type} (f:α→β) (A R:List α) (x y:α):(((A++y :: x :: R).map f).set (A.length+1) (f y)).set A.length (f x)=(A++x :: y :: R).map f:=by
 simp [List.set_append]
theorem qrb {β:Type} (f:α→β) (A R:List α) (x y:α) (d:β):((A++y :: x :: R).map f).getD (A.length+1) d=f x∧((A++y :: x :: R).map f).getD A.length d=f y:=by
 constructor<;>simp [List.getD]
theorem qrI {A B:List α} {x y:α} (h1:SrtP lt ((A++[y])++B)) (h2:∀ b∈B,lt x b=true) (h:lt x y=true):SrtP lt (A++(y :: B))∧∀ b∈y :: B,lt x b=true:=by
 refine ⟨by simpa using h1,fun b hb=>?_⟩
 rcases zC.1 hb with rfl|hb
 ·exact h
 ·exact h2 b hb
theorem qre (hT:∀ x y,lt x y=false→lt y x=false→x=y):∀ {a b:List α},a.Perm b→SrtP lt a→SrtP lt b→a=b
 |[],b,hp,_,_=>by rw [List.nil_perm.1 hp]
 |x :: r,b,hp,ha,hb=>by
  cases b with
  |nil=>exact absurd (hp.length_eq) (by simp)
  |cons y s=>
   unfold SrtP at ha hb
   rw [List.pairwise_cons] at ha hb
   have hxy:x=y:=by
    have h1:x∈y :: s:=hp.mem_iff.1 (by simp)
    have h2:y∈x :: r:=hp.mem_iff.2 (by simp)
    rcases zC.1 h1 with h|h1
    ·exact h
    rcases zC.1 h2 with h|h2
    ·exact h.symm
    exact hT _ _ (hb.1 x h1) (ha.1 y h2)
   subst hxy
   rw [qre hT hp.cons_inv ha.2 hb.2]
end
end Go.Proofs.YtmpdnpljdcincaaGreatDoor
namespace Go.Proofs.YtmpdnpljdcincaaGreatDoor
open Nat renaming reduceAdd→zd,reduceEqDiff→za,reduceLT→zf,reduceLeDiff→zb,reduceMul→ze
open List renaming getElem?_eq_getElem→zg,mem_append→zz,mem_cons→zC,mem_filter→ye,mem_range→yA,mem_singleton→zy,range→zA
open Go.RowKit
abbrev Fam:=List UInt8×List (List UInt8)
def it0:Itm:=([],[],0,[],0,[],[])
def upOf (x:Itm):List UInt8:=x.2.2.2.2.2.1
def qfS (il:List Itm) (s:List UInt8):List (List UInt8):=(il.filter fun z=>decide (upOf z=s)).map (·.1)
def qfq (il:List Itm):List (List UInt8):=(il.filter fun z=>decide (upOf z=[])).map (·.1)
def famF (il:List Itm):List Fam:=(qfq il).map fun s=>(s,s :: qfS il s)
theorem qfu (il:List Itm) (s:List UInt8):(qfS il s).length≤il.length:=by
 unfold qfS
 rw [List.length_map]
 exact List.length_filter_le _ _
def atI (il:List Itm) (i:Nat):Itm:=il.getD i it0
theorem qmw {il:List Itm} {i:Nat} {x:Itm} (h:il[i]?=some x):atI il i=x:=by simp [atI,List.getD,h]
def kidI (il:List Itm) (t:Nat):List Nat:=(zA il.length).filter fun i=>decide (upOf (atI il i)=pid t)
def topI (il:List Itm):List Nat:=(zA il.length).filter fun i=>decide (upOf (atI il i)=[])
def ordX (il:List Itm):List Nat:=(topI il).flatMap fun t=>t :: kidI il t
def idN (s:List UInt8):Nat:=(s.getD 1 0).toNat - 97
theorem qqp:∀ j:Fin 26,idN (pid j.val)=j.val:=by decide +kernel
def kyF (il:List Itm) (i:Nat):Nat:=if upOf (atI il i)=[] then 100 * i else 100 * idN (upOf (atI il i))+(i+1)
theorem qkE {il:List Itm} (h:qbl il) {i:Nat} (hi:i < il.length):i < 20∧(upOf (atI il i)=[]∨∃ j,j < i∧upOf (atI il i)=pid j∧upOf (atI il j)=[]):=by
 have h20:=h.1
 obtain ⟨x,hx⟩:∃ x,il[i]?=some x:=⟨_,zg hi⟩
 have hp:=(h.2 i x hx).b6
 rw [qmw hx]
 refine ⟨by omega,?_⟩
 rcases hp with hp|⟨j,y,hj,hy,h1,h2,h3⟩
 ·exact .inl hp
 ·exact .inr ⟨j,hj,h3,by rw [qmw hy];exact h1⟩
theorem qmd (j:Nat):pid j≠[]:=by simp [pid]
theorem qug {il:List Itm} (h:qbl il) {i:Nat} (hi:i < il.length):i < 20∧∃ a,(kyF il i=100 * a∧a=i)∨kyF il i=100 * a+(i+1):=by
 obtain ⟨h20,h1|⟨j,hj,h1,h2⟩⟩:=qkE h hi
 ·exact ⟨h20,i,.inl ⟨by rw [kyF,if_pos h1],rfl⟩⟩
 ·refine ⟨h20,j,.inr ?_⟩
  have:=qqp ⟨j,by omega⟩
  simp only at this
  rw [kyF,if_neg (by rw [h1];exact qmd j),h1,this]
theorem qA9 {il:List Itm} (h:qbl il) {i j:Nat} (hi:i < il.length) (hj:j < il.length) (e:kyF il i=kyF il j):i=j:=by
 obtain ⟨h1,a,h2⟩:=qug h hi
 obtain ⟨h3,b,h4⟩:=qug h hj
 omega
theorem qli {il:List Itm} {t:Nat} (h:t∈topI il):t < il.length∧kyF il t=100 * t∧upOf (atI il t)=[]:=by
 unfold topI at h
 rw [ye,yA,decide_eq_true_eq] at h
 exact ⟨h.1,by rw [kyF,if_pos h.2],h.2⟩
theorem qlj {il:List Itm} (hP:qbl il) {t i:Nat} (ht:t < 20) (h:i∈kidI il t):i < il.length∧i < 20∧kyF il i=100 * t+(i+1)∧upOf (atI il i)=pid t:=by
 have h20:=hP.1
 unfold kidI at h
 rw [ye,yA,decide_eq_true_eq] at h
 have:=qqp ⟨t,by omega⟩
 simp only at this
 exact ⟨h.1,by omega,by rw [kyF,if_neg (by rw [h.2];exact qmd t),h.2,this],h.2⟩
theorem qtW {il:List Itm} (h:qbl il):(ordX il).Pairwise fun i j=>kyF il i < kyF il j:=by
 have h20:=h.1
 unfold ordX
 rw [List.pairwise_flatMap]
 refine ⟨fun t ht=>?_,?_⟩
 ·obtain ⟨h1,h2,h3⟩:=qli ht
  rw [List.pairwise_cons]
  refine ⟨fun i hi=>?_,?_⟩
  ·obtain ⟨_,_,h4,_⟩:=qlj h (by omega) hi
   omega
  ·have hr:(kidI il t).Pairwise (fun i j=>i < j):=List.pairwise_lt_range.sublist List.filter_sublist
   refine hr.imp_of_mem fun {i j} hi hj hij=>?_
   obtain ⟨_,_,h4,_⟩:=qlj h (by omega) hi
   obtain ⟨_,_,h5,_⟩:=qlj h (by omega) hj
   omega
 ·have hr:(topI il).Pairwise (fun i j=>i < j):=List.pairwise_lt_range.sublist List.filter_sublist
  refine hr.imp_of_mem fun {s t} hs ht hst x hx y hy=>?_
  obtain ⟨a1,a2,_⟩:=qli hs
  obtain ⟨b1,b2,_⟩:=qli ht
  have hx':kyF il x≤100 * s+21:=by
   rcases zC.1 hx with rfl|hx
   ·omega
   ·obtain ⟨_,_,h4,_⟩:=qlj h (by omega) hx
    omega
  have hy':100 * t≤kyF il y:=by
   rcases zC.1 hy with rfl|hy
   ·omega
   ·obtain ⟨_,_,h4,_⟩:=qlj h (by omega) hy
    omega
  omega
theorem qqg {il:List Itm} (h:qbl il) (i:Nat):i∈ordX il↔i < il.length:=by
 have h20:=h.1
 unfold ordX
 rw [List.mem_flatMap]
 constructor
 ·rintro ⟨t,ht,hi⟩
  obtain ⟨h1,_,_⟩:=qli ht
  rcases zC.1 hi with rfl|hi
  ·exact h1
  ·exact (qlj h (by omega) hi).1
 ·intro hi
  obtain ⟨_,h1|⟨j,hj,h1,h2⟩⟩:=qkE h hi
  ·exact ⟨i,by unfold topI;rw [ye,yA,decide_eq_true_eq];exact ⟨hi,h1⟩,by simp⟩
  ·refine ⟨j,by unfold topI;rw [ye,yA,decide_eq_true_eq];exact ⟨by omega,h2⟩,List.mem_cons_of_mem _ ?_⟩
   unfold kidI
   rw [ye,yA,decide_eq_true_eq]
   exact ⟨hi,h1⟩
theorem qwi {il:List Itm} (h:qbl il) {o:List Nat} (hp:o.Perm (zA il.length)) (hs:o.Pairwise fun i j=>kyF il i≤kyF il j):o=ordX il:=by
 have hn:(ordX il).Nodup:=by
  rw [List.nodup_iff_pairwise_ne]
  exact (qtW h).imp fun h e=>by rw [e] at h;omega
 have hp2:o.Perm (ordX il):=hp.trans ((List.perm_ext_iff_of_nodup List.nodup_range hn).2 fun i=>by rw [yA,qqg h])
 exact List.Perm.eq_of_pairwise (le:=fun i j=>kyF il i≤kyF il j) (fun i j hi hj h1 h2=>qA9 h (by have:=hp.mem_iff.1 hi;simpa using this) ((qqg h j).1 hj) (by omega)) hs ((qtW h).imp fun h=>by omega) hp2
def stpG (il:List Itm) (s:Option (List Fam×Fam)) (i:Nat):Option (List Fam×Fam):=
 if upOf (atI il i)=[] then some (match s with|none=>[]|some (I,c)=>I++[c],((atI il i).1,[(atI il i).1])) else s.map fun s=>(s.1,(s.2.1,s.2.2++[(atI il i).1]))
def clG:Option (List Fam×Fam)→List Fam
 |none=>[]
 |some (I,c)=>I++[c]
def stG (il:List Itm) (l:List Nat):Option (List Fam×Fam):=l.foldl (stpG il) none
theorem qvK (il:List Itm) (l:List Nat) (i:Nat):stG il (l++[i])=stpG il (stG il l) i:=by rw [stG,List.foldl_append];rfl
theorem qpc (il:List Itm) (I:List Fam):∀ (ks:List Nat) (c:Fam),(∀ i∈ks,upOf (atI il i)≠[])→ks.foldl (stpG il) (some (I,c))=some (I,(c.1,c.2++ks.map fun i=>(atI il i).1))
 |[],c,_=>by simp
 |i :: r,c,h=>by
  have e:stpG il (some (I,c)) i=some (I,(c.1,c.2++[(atI il i).1])):=by
   unfold stpG
   rw [if_neg (h i (by simp))]
   rfl
  rw [List.foldl_cons,e,qpc il I r _ (fun j hj=>h j (by simp [hj]))]
  simp
theorem qpb {il:List Itm} (hP:qbl il):∀ (T:List Nat) (s:Option (List Fam×Fam)),(∀ t∈T,t∈topI il)→clG ((T.flatMap fun t=>t :: kidI il t).foldl (stpG il) s)=clG s++T.map fun t=>((atI il t).1,(atI il t).1 :: (kidI il t).map fun i=>(atI il i).1)
 |[],s,_=>by simp
 |t :: r,s,h=>by
  have h20:=hP.1
  obtain ⟨h1,_,h2⟩:=qli (h t (by simp))
  have e1:stpG il s t=some (clG s,((atI il t).1,[(atI il t).1])):=by
   unfold stpG
   rw [if_pos h2]
   cases s<;>rfl
  rw [List.flatMap_cons,List.foldl_append,List.foldl_cons,e1,qpc il _ _ _ (fun i hi=>by rw [(qlj hP (by omega) hi).2.2.2];exact qmd t),qpb hP r _ (fun x hx=>h x (by simp [hx]))]
  simp [clG]
theorem qwa (il:List Itm):(zA il.length).map (atI il)=il:=by
 apply List.ext_getElem
 ·simp
 ·intro i h1 h2
  simp [atI,List.getD,zg h2]
theorem qpf (il:List Itm) (p:Itm→Bool):((zA il.length).filter fun i=>p (atI il i)).map (fun i=>(atI il i).1)=(il.filter p).map (·.1):=by
 conv=>rhs;rw [← qwa il]
 rw [List.filter_map,List.map_map]
 rfl
theorem qBb (il:List Itm) (t:Nat):(kidI il t).map (fun i=>(atI il i).1)=qfS il (pid t):=qpf il fun z=>decide (upOf z=pid t)
theorem qAn (il:List Itm):(topI il).map (fun i=>(atI il i).1)=qfq il:=qpf il fun z=>decide (upOf z=[])
theorem qwF {il:List Itm} (hP:qbl il) {i:Nat} (hi:i < il.length):(atI il i).1=pid i:=by
 obtain ⟨x,hx⟩:∃ x,il[i]?=some x:=⟨_,zg hi⟩
 rw [qmw hx]
 exact (hP.2 i x hx).b1
theorem qza {il:List Itm} (hP:qbl il):clG (stG il (ordX il))=famF il:=by
 rw [stG,ordX,qpb hP _ none (fun _ h=>h),famF,← qAn,List.map_map]
 show []++_=_
 rw [List.nil_append]
 refine List.map_congr_left fun t ht=>?_
 simp only [Function.comp_apply]
 rw [qBb,qwF hP (qli ht).1]
theorem qyl {il:List Itm} (hP:qbl il) {k:Nat} (h0:0 < k) (hk:k≤(ordX il).length):∃ I c,stG il ((ordX il).take k)=some (I,c):=by
 have hm:∀ (l:List Nat) (s:Option (List Fam×Fam)),s.isSome=true→(l.foldl (stpG il) s).isSome=true:=by
  intro l
  induction l with
  |nil=>intro s h;exact h
  |cons i r ih=>
   intro s h
   rw [List.foldl_cons]
   refine ih _ ?_
   unfold stpG
   split
   ·rfl
   ·simpa using h
 have hh:∀ t r,ordX il=t :: r→upOf (atI il t)=[]:=by
  intro t r e
  unfold ordX at e
  cases hT:topI il with
  |nil=>rw [hT] at e;simp at e
  |cons t' r'=>
   rw [hT,List.flatMap_cons,List.cons_append,List.cons.injEq] at e
   rw [← e.1]
   exact (qli (by rw [hT];simp)).2.2
 have:(stG il ((ordX il).take k)).isSome=true:=by
  cases hO:ordX il with
  |nil=>rw [hO] at hk;simp at hk;omega
  |cons t r=>
   have ht:=hh t r hO
   obtain ⟨k',rfl⟩:∃ k',k=k'+1:=⟨k - 1,by omega⟩
   rw [List.take_succ_cons,stG,List.foldl_cons]
   refine hm _ _ ?_
   unfold stpG
   rw [if_pos ht]
   rfl
 obtain ⟨⟨I,c⟩,h⟩:=Option.isSome_iff_exists.1 this
 exact ⟨I,c,h⟩
section
variable {E:Envt}
end
def qa9:IC:=(sR [qT 12 .lss 11 10] (.seq (jE 12) (.seq (.block 1 (sR [qX 13 7 9 11,qO 14 (.ld 7 true (.t 13)),qO 7 (.alc 79 [.str [],.str [],.int .i64 0,.str [],.int .i64 0,.str [],.str []]),qS 7 7 14] (.seq (.drg [⟨none,.fz (.t 19),none⟩,⟨none,.hole 8,none⟩,qF 15 0 7,qO 16 (.ldl 1 false (.t 15)),qM 17 0,qO 18 (.bsl 1 [.c (.int .i64 1),.c (.int .i64 1),.c (.int .i64 2),.c (.int .i64 3)]),qO 19 (.dcall true 19 [.t 17,.t 18]),qO 20 (.bld [.str [],.int .i64 0,.nl 2] [(0,1,.t 16),(1,1,.t 19)]),qO 8 (.alcd 130 [.str [],.int .i64 0,.nl 2]),qS 3 8 20]) (.seq (sR [qF 21 1 8,qL 22 21,qB 23 .eql 22 (cI 1),qM 24 23,⟨some 25,.mov (.t 0),(some (24,true))⟩,⟨some 26,.call 43 [.t 25,.c (.int .i64 2)],(some (24,true))⟩,qO 27 (.pick (.t 24) (.t 26) (.c (.bool false)))] (jW 27 (.reg [qM 28 0,qF 29 6 7,qL 30 29,qO 31 (.sln (.t 30)),jC 32 146 [.t 28,.t 31],qF 33 2 8,qS 1 33 32]))) (.cut (sR [qM 34 0,jC 35 43 [.t 34,.c (.int .i64 4)],qO 36 (.not (.t 35))] (jW 36 (.reg [qM 37 5,qO 38 (.ld 3 true (.t 8)),qO 39 (.bsl 3 [.t 38]),qO 40 (.app 130 3 48 (.t 37) (.t 39)),qM 5 40])))))))) (.cut (.reg [qB 41 .add 11 (cI 1),qM 11 41])))))
abbrev qdh:IC:=(sR [qO 4 (.mov (.c (.nl 3)))] (sR [qO 5 (.nilr 130 3)] (.seq (sR [qM 9 1,qN 10 9,jI 11 0] (.block 0 (.loop qa9))) (sR [qM 42 5,qM 4 42] .ret))))
theorem qdk:chkF Tryz.prog Tryz.f104 qdh [.t 4] 43=true:=by kernel_rfl
abbrev tRul:Nat:=130
structure Rul where
 id:List UInt8
 what:Int
 spans:List (Int×Int)
def rlV (r:Rul):List PV:=[.str r.id,int r.what,.sl 2 (r.spans.map spn)]
def rlE (l:List Rul):List (List PV):=l.map rlV
theorem qbN (l:List Rul):(rlE l).length=l.length:=by simp [rlE]
theorem qla {l:List Rul} {k:Nat} {x:Rul} (h:l[k]?=some x):(rlE l).getD k []=[.str x.id,int x.what,.sl 2 (x.spans.map spn)]:=qao h
theorem qmU (l:List Rul) (i:List UInt8) (w:Int) (s:List (Int×Int)):rlE l++[[.str i,int w,.sl 2 (s.map spn)]]=rlE (l++[⟨i,w,s⟩]):=by simp [rlE,rlV]
theorem qov (l:List Rul) (i:List UInt8) (w:Int):rlE l++[[.str i,int w,.sl 2 []]]=rlE (l++[⟨i,w,[]⟩]):=qmU l i w []
structure RlM (N:Nat) (r:Rul):Prop where
 b1:r.id.length≤100
 b2:r.spans.length≤N
section
variable {E:Envt}
theorem qlI (l:List Int) (k:Nat) (il:List Itm) (hil:il.length≤20) (hib:ItB il) (hk:k≤700000) (hl:l.length≤9223372036854775807) :
  qpK Tryz.prog E 104 T (stm l k) [.sl 7 (itE il)] tRul 3 (fun es cs'=>∃ (o:List Rul) (k':Nat),es=rlE o∧o.length≤il.length∧(∀ r∈o,RlM 5 r)∧cs'=stm l k'∧k'≤k+1000):=by
 unfold qpK
 refine qfF mixed Tryz.func104 qdk ?_
 refine zV ?_
 have hR0:([]:List (List PV))=rlE []:=rfl
 rw [hR0]
 simp only [ZZ,WW,Zd,reduceCtorEq,zd,ze,zb,zf,za,qan]
 refine qac (fun n fr L=>∃ (i:Nat) (k':Nat) (o:List Rul),i≤il.length∧n=il.length - i∧(k'≤k+40 * i)∧(o.length≤i)∧(∀ r∈o,RlM 5 r)∧fr=(.adr (.b 0) 0::oo::oo::oo::oo::.row (.l 5)::oo::oo::oo::.p (.sl 7 (itE il))::.p (int (il.length:Nat))::.p (int (i:Nat))::oE (oD (oC (oB (oo::[])))))∧L=[(.b 0,.box ((stm l k').map .p) T),(.l 5,.row (rlE o) tRul 3 true)]) (il.length) (.adr (.b 0) 0::oo::oo::oo::oo::.row (.l 5)::oo::oo::oo::.p (.sl 7 (itE il))::.p (int (il.length:Nat))::.p (int (0:Nat))::oE (oD (oC (oB (oo::[]))))) [(.b 0,.box ((stm l k).map .p) T),(.l 5,.row (rlE []) tRul 3 true)] (by simp only [ZZ,WW,Zd,reduceCtorEq,zd,ze,zb,zf,za,qan];try trivial) zF_ ⟨0,k,[],by omega,by omega,by omega,Nat.le_refl _,(fun r hr=>by cases hr),rfl,rfl⟩ ?_
 rintro n fr L ⟨i,k',o,hi,rfl,hk',hol,hob,rfl,rfl⟩
 simp only [qa9,ZZ,WW,Zd,reduceCtorEq,zd,ze,zb,zf,za]
 refine br ?_ ?_
 rotate_left
 ·intro h
  refine zS ?_
  exact quN 5 _ (stm l k') rfl rfl rfl ⟨o,k',rfl,by omega,hob,rfl,by omega⟩
 intro h
 have hlt:i < il.length:=by have:=of_decide_eq_true h;omega
 obtain ⟨x,hx⟩:∃ x,il[i]?=some x:=⟨_,zg hlt⟩
 have hg:=qc6 hx
 obtain ⟨c1,c2,c3,c4,c5,c6,c7⟩:=hib x (List.mem_of_getElem? hx)
 obtain ⟨a1,a2,a3,a4,a5,a6,a7⟩:=x
 simp only [itC] at hg
 simp only at c1 c7
 clear c2 c3 c4 c5 c6
 simp only [ZZ,WW,Zd,reduceCtorEq,zd,ze,zb,zf,za,hg,qan]
 ((with_reducible and_intros)<;>try exact sc_)
 refine drg0 ?_
 refine zS ?_
 refine useD (qcM l k' [1,1,2,3] (by omega) hl (by simp) (by simp)) ⟨_,_,1,rfl,by simp,rfl⟩ rfl rfl rfl zE_ (fun _=>⟨0,rfl⟩) ?_
 rintro x cs' ⟨w,rfl,hw,rfl⟩
 refine zS ?_
 refine qpZ (fun hc=>?_) (fun hc=>?_)
 ·refine useS (qgo l (k'+1) 2 (by omega) hl (by decide)) rfl rfl rfl zE_ ?_
  rintro x cs' ⟨f2,rfl,rfl⟩
  simp only [ZZ,WW,Zd,reduceCtorEq,zd,ze,zb,zf,za,hc]
  refine br ?_ ?_
  ·intro _
   refine zS ?_
   refine qAl (qqP l (k'+1+1) a7.length (by omega) hl) rfl rfl rfl zE_ ?_
   rintro es cs' ⟨sp,k2,rfl,hsp,rfl,hk2⟩
   refine zS ?_
   refine qaF _ _ (qaN (k:=.l 32) rfl) ?_
   refine zS ?_
   refine useS (qgo l (k2) 4 (by omega) hl (by decide)) rfl rfl rfl zE_ ?_
   rintro x cs' ⟨b9,rfl,rfl⟩
   refine zS ?_
   refine br ?_ ?_
   ·intro _
    simp only [ZZ,WW,Zd,reduceCtorEq,zd,ze,zb,zf,za,qbN]
    ((with_reducible and_intros)<;>try exact sc_)
    refine qaj zE_ ?_
    refine zS ?_
    ((with_reducible and_intros)<;>try exact sc_)
    rw [qmU o a1 w sp]
    refine qab (il.length - (i+1)) _ _ (by omega) zF_ zF_ ⟨i+1,k2+1,o++[⟨a1,w,sp⟩],by omega,rfl,by omega,by simp;omega,by intro r hr;rcases zz.1 hr with hr|hr;exact hob r hr;rw [zy] at hr;subst hr;exact ⟨c1,hsp⟩,rfl,rfl⟩
   ·intro _
    refine zS ?_
    refine qaj zE_ ?_
    refine zS ?_
    ((with_reducible and_intros)<;>try exact sc_)
    refine qab (il.length - (i+1)) _ _ (by omega) zF_ zF_ ⟨i+1,k2+1,o,by omega,rfl,by omega,by omega,hob,rfl,rfl⟩
  ·intro _
   refine zS ?_
   refine qaj zE_ ?_
   refine zS ?_
   refine useS (qgo l (k'+1+1) 4 (by omega) hl (by decide)) rfl rfl rfl zE_ ?_
   rintro x cs' ⟨b9,rfl,rfl⟩
   refine zS ?_
   refine br ?_ ?_
   ·intro _
    simp only [ZZ,WW,Zd,reduceCtorEq,zd,ze,zb,zf,za,qbN]
    ((with_reducible and_intros)<;>try exact sc_)
    refine qaj zE_ ?_
    refine zS ?_
    ((with_reducible and_intros)<;>try exact sc_)
    rw [qov o a1 w]
    refine qab (il.length - (i+1)) _ _ (by omega) zF_ zF_ ⟨i+1,k'+1+1+1,o++[⟨a1,w,[]⟩],by omega,rfl,by omega,by simp;omega,by intro r hr;rcases zz.1 hr with hr|hr;exact hob r hr;rw [zy] at hr;subst hr;exact ⟨c1,by simp⟩,rfl,rfl⟩
   ·intro _
    refine zS ?_
    refine qaj zE_ ?_
    refine zS ?_
    ((with_reducible and_intros)<;>try exact sc_)
    refine qab (il.length - (i+1)) _ _ (by omega) zF_ zF_ ⟨i+1,k'+1+1+1,o,by omega,rfl,by omega,by omega,hob,rfl,rfl⟩
 ·simp only [ZZ,WW,Zd,reduceCtorEq,zd,ze,zb,zf,za,hc]
  refine qaj zE_ ?_
  refine zS ?_
  refine useS (qgo l (k'+1) 4 (by omega) hl (by decide)) rfl rfl rfl zE_ ?_
  rintro x cs' ⟨b9,rfl,rfl⟩
  refine zS ?_
  refine br ?_ ?_
  ·intro _
   simp only [ZZ,WW,Zd,reduceCtorEq,zd,ze,zb,zf,za,qbN]
   ((with_reducible and_intros)<;>try exact sc_)
   refine qaj zE_ ?_
   refine zS ?_
   ((with_reducible and_intros)<;>try exact sc_)
   rw [qov o a1 w]
   refine qab (il.length - (i+1)) _ _ (by omega) zF_ zF_ ⟨i+1,k'+1+1,o++[⟨a1,w,[]⟩],by omega,rfl,by omega,by simp;omega,by intro r hr;rcases zz.1 hr with hr|hr;exact hob r hr;rw [zy] at hr;subst hr;exact ⟨c1,by simp⟩,rfl,rfl⟩
  ·intro _
   refine zS ?_
   refine qaj zE_ ?_
   refine zS ?_
   ((with_reducible and_intros)<;>try exact sc_)
   refine qab (il.length - (i+1)) _ _ (by omega) zF_ zF_ ⟨i+1,k'+1+1,o,by omega,rfl,by omega,by omega,hob,rfl,rfl⟩
end
end Go.Proofs.YtmpdnpljdcincaaGreatDoor
namespace Go.Proofs.YtmpdnpljdcincaaGreatDoor
structure CmpP {α:Type} (c:α→α→Int):Prop where
 anti:∀ x y,c x y < 0↔0 < c y x
 tr:∀ x y z,c x y≤0→c y z≤0→c x z≤0
def ltC {α:Type} (c:α→α→Int) (x y:α):Bool:=decide (c x y < 0)
def orC {α:Type} (c d:α→α→Int) (x y:α):Int:=if c x y=0 then d x y else c x y
section
variable {α β:Type} {c d:α→α→Int}
theorem CmpP.ord (h:CmpP c):OrdP (ltC c) where
 asym x y h1:=by
  simp only [ltC,decide_eq_true_eq,decide_eq_false_iff_not] at *
  have:=h.anti x y
  omega
 ntr x y z h1 h2:=by
  simp only [ltC,decide_eq_false_iff_not] at *
  have a1:=h.anti x y
  have a2:=h.anti y z
  have a3:=h.anti x z
  have a4:=h.anti y x
  have a5:=h.anti z y
  have:=h.tr z y x
  omega
theorem CmpP.or (h:CmpP c) (k:CmpP d):CmpP (orC c d) where
 anti x y:=by
  have a1:=h.anti x y
  have a2:=h.anti y x
  have a3:=k.anti x y
  unfold orC
  split<;>split<;>omega
 tr x y z:=by
  have a1:=h.anti x y
  have a2:=h.anti y x
  have a3:=h.anti y z
  have a4:=h.anti z y
  have a5:=h.anti x z
  have a6:=h.anti z x
  have t1:=h.tr x y z
  have t2:=h.tr y z x
  have t3:=h.tr z x y
  have t4:=h.tr z y x
  have t5:=k.tr x y z
  unfold orC
  intro h1 h2
  split at h1<;>split at h2<;>split<;>omega
theorem CmpP.zero:CmpP (fun (_ _:α)=>(0:Int)):=⟨fun _ _=>by omega,fun _ _ _ _ _=>by omega⟩
theorem CmpP.on (f:β→α) (h:CmpP c):CmpP (fun x y=>c (f x) (f y)):=⟨fun _ _=>h.anti _ _,fun _ _ _=>h.tr _ _ _⟩
theorem CmpP.sub:CmpP (fun (x y:Int)=>x - y):=⟨fun _ _=>by omega,fun _ _ _ _ _=>by omega⟩
end
theorem qu2:∀ a b:List UInt8,Lib.compareBytes a b=- Lib.compareBytes b a
 |[],[]=>rfl
 |[],_ :: _=>rfl
 |_ :: _,[]=>rfl
 |a :: r,b :: s=>by
  have ih:=qu2 r s
  simp only [Lib.compareBytes,UInt8.lt_iff_toNat_lt]
  by_cases p1:a.toNat < b.toNat<;>by_cases p2:b.toNat < a.toNat<;>simp only [p1,p2,if_true,if_false]<;>omega
theorem qu0:∀ {a b:List UInt8},Lib.compareBytes a b=0→a=b
 |[],[],_=>rfl
 |[],_ :: _,h=>by cases h
 |_ :: _,[],h=>by cases h
 |a :: r,b :: s,h=>by
  simp only [Lib.compareBytes,UInt8.lt_iff_toNat_lt] at h
  by_cases p1:a.toNat < b.toNat
  ·rw [if_pos p1] at h;cases h
  by_cases p2:b.toNat < a.toNat
  ·rw [if_neg p1,if_pos p2] at h;cases h
  rw [if_neg p1,if_neg p2] at h
  rw [qu0 h,UInt8.toNat_inj.1 (show a.toNat=b.toNat by omega)]
theorem qBp:∀ a b c:List UInt8,Lib.compareBytes a b≤0→Lib.compareBytes b c≤0→Lib.compareBytes a c≤0
 |[],_,[],_,_=>by decide
 |[],_,_ :: _,_,_=>by simp [Lib.compareBytes]
 |_ :: _,[],_,h,_=>by simp [Lib.compareBytes] at h
 |_ :: _,_ :: _,[],_,h=>by simp [Lib.compareBytes] at h
 |a :: r,b :: s,c :: t,h1,h2=>by
  have ih:=qBp r s t
  simp only [Lib.compareBytes,UInt8.lt_iff_toNat_lt] at h1 h2 ⊢
  by_cases p1:a.toNat < b.toNat<;>by_cases p2:b.toNat < a.toNat<;>by_cases q1:b.toNat < c.toNat<;>by_cases q2:c.toNat < b.toNat<;>by_cases r1:a.toNat < c.toNat<;>by_cases r2:c.toNat < a.toNat<;>simp only [p1,p2,q1,q2,r1,r2,if_true,if_false] at h1 h2 ⊢<;>first|omega|exact ih h1 h2
theorem CmpP.cb:CmpP Lib.compareBytes:=⟨fun x y=>by have:=qu2 x y;omega,qBp⟩
end Go.Proofs.YtmpdnpljdcincaaGreatDoor
namespace Go.Proofs.YtmpdnpljdcincaaGreatDoor
open Nat renaming reduceAdd→zd,reduceEqDiff→za,reduceLT→zf,reduceLeDiff→zb,reduceMul→ze
open List renaming drop_eq_nil_of_le→zL
open Bool renaming not_eq_true'→zW
open Go.RowKit
def getI (il:List Itm) (s:List UInt8):Option Itm:=il.find? fun x=>decide (x.1=s)
def rl0:Rul:=⟨[],0,[]⟩
def ruE (il:List Itm) (l:List Rul) (k:Nat):Int:=
 let r:=l.getD k rl0
 qai [qak (getI il r.id).isNone 8,qak (decide (0 < k) && (bytesLess r.id (l.getD (k - 1) rl0).id || decide (r.id=(l.getD (k - 1) rl0).id))) 7,qak (!inE r.what 1 3) 4,qak (decide (0 < r.spans.length) && !decide (r.what=1)) 3,qfs r.spans (((getI il r.id).getD it0).2.2.2.2.2.2.length:Nat)]
def rulF (il:List Itm) (l:List Rul):Int:=if 2000 < l.length then 2 else qai ((List.range l.length).map (ruE il l))
theorem qyN (il:List Itm) (l:List Rul) {k:Nat} (h:k < l.length):((List.range l.length).map (ruE il l))[k]?=some (ruE il l k):=by
 rw [List.getElem?_map,List.getElem?_range h];rfl
def rlOf (l:List Rul) (s:List UInt8):Rul:=(l.find? fun r=>decide (r.id=s)).getD ⟨s,3,[]⟩
def qmQ (l:List Rul) (s:List UInt8):Bool:=decide ((rlOf l s).what=1)
def chT (il:List Itm) (l:List Rul):List (List UInt8):=(qfq il).filter fun s=>(s :: qfS il s).any (qmQ l)
def encF (il:List Itm) (s:List UInt8):List PV:=[.str s,.sl 1 (strE (s :: qfS il s))]
theorem qwR (il:List Itm):(famF il).map (fun f=>[PV.str f.1,.sl 1 (strE f.2)])=(qfq il).map (encF il):=by
 unfold famF
 rw [List.map_map]
 rfl
def itOf (il:List Itm) (s:List UInt8):Itm:=(getI il s).getD it0
def whoC (il:List Itm) (order:Int) (s t:List UInt8):Int:=if order=3 then Lib.compareBytes (itOf il s).2.1 (itOf il t).2.1 else 0
def qsd (il:List Itm) (order:Int) (s t:List UInt8):Int:=if order=1 then 0 else (itOf il s).2.2.2.2.1 - (itOf il t).2.2.2.2.1
def sgnI (a b:Int):Int:=if a < b then -1 else if b < a then 1 else 0
def qx6 (il:List Itm) (order:Int) (s t:List UInt8):Int:=if order=1 then 0 else sgnI (itOf il s).2.2.2.2.1 (itOf il t).2.2.2.2.1
def cfP (il:List Itm) (order:Int):List UInt8→List UInt8→Int:=orC (whoC il order) (orC (qsd il order) Lib.compareBytes)
def cfR (il:List Itm) (order:Int):List UInt8→List UInt8→Int:=orC (whoC il order) (orC (qx6 il order) Lib.compareBytes)
theorem quY (il:List Itm) (order:Int):ltC (cfP il order)=ltC (cfR il order):=by
 funext s t
 unfold ltC cfP cfR orC qsd qx6 sgnI
 rw [decide_eq_decide]
 by_cases h1:whoC il order s t=0
 ·rw [if_pos h1,if_pos h1]
  by_cases h2:order=1
  ·rw [if_pos h2,if_pos h2]
  ·rw [if_neg h2,if_neg h2]
   generalize (itOf il s).2.2.2.2.1=a
   generalize (itOf il t).2.2.2.2.1=b
   by_cases p1:a < b
   ·rw [if_pos p1,if_neg (by omega),if_neg (by omega)]
    omega
   ·rw [if_neg p1]
    by_cases p2:b < a
    ·rw [if_pos p2,if_neg (by omega),if_neg (by omega)]
     omega
    ·rw [if_neg p2,if_pos (by omega),if_pos rfl]
 ·rw [if_neg h1,if_neg h1]
theorem qnQ (il:List Itm) (order:Int):CmpP (cfP il order):=by
 refine CmpP.or ?_ (CmpP.or ?_ CmpP.cb)
 ·by_cases h:order=3
  ·have:whoC il order=fun s t=>Lib.compareBytes (itOf il s).2.1 (itOf il t).2.1:=by funext s t;rw [whoC,if_pos h]
   rw [this]
   exact CmpP.cb.on fun s=>(itOf il s).2.1
  ·have:whoC il order=fun s t=>0:=by funext s t;rw [whoC,if_neg h]
   rw [this]
   exact CmpP.zero
 ·by_cases h:order=1
  ·have:qsd il order=fun s t=>0:=by funext s t;rw [qsd,if_pos h]
   rw [this]
   exact CmpP.zero
  ·have:qsd il order=fun s t=>(itOf il s).2.2.2.2.1 - (itOf il t).2.2.2.2.1:=by funext s t;rw [qsd,if_neg h]
   rw [this]
   exact CmpP.sub.on fun s=>(itOf il s).2.2.2.2.1
theorem qzQ (il:List Itm) (order:Int) (s t:List UInt8) (h1:ltC (cfP il order) s t=false) (h2:ltC (cfP il order) t s=false):s=t:=by
 have a1:=(qnQ il order).anti s t
 have a2:=(qnQ il order).anti t s
 simp only [ltC,decide_eq_false_iff_not] at h1 h2
 have h0:cfP il order s t=0:=by omega
 unfold cfP orC at h0
 split at h0
 ·split at h0
  ·exact qu0 h0
  ·rename_i h;exact absurd h0 h
 ·rename_i h;exact absurd h0 h
def chS (il:List Itm) (l:List Rul) (order:Int):List (List UInt8):=(chT il l).mergeSort fun s t=>!ltC (cfP il order) t s
theorem qsg {α:Type} {lt:α→α→Bool} (hO:OrdP lt) (l:List α):SrtP lt (l.mergeSort fun s t=>!lt t s):=by
 have:=List.pairwise_mergeSort (le:=fun s t=>!lt t s) (fun a b c h1 h2=>by
  simp only [zW] at *
  exact hO.ntr _ _ _ h2 h1) (fun a b=>by
  simp only [Bool.or_eq_true,zW]
  cases h:lt b a with
  |false=>exact .inl rfl
  |true=>exact .inr (hO.asym _ _ h)) l
 exact this.imp fun h=>by simpa using h
theorem qw3 {il:List Itm} {l:List Rul} {order:Int} {o:List (List UInt8)} (hp:o.Perm (chT il l)) (hs:SrtP (ltC (cfP il order)) o):o=chS il l order:=
 qre (qzQ il order) (hp.trans (List.mergeSort_perm _ _).symm) hs (qsg (qnQ il order).ord _)
theorem qo4 {il:List Itm} (h:qbl il) {s:List UInt8} {y:Itm} (hf:getI il s=some y):∃ j,il[j]?=some y∧s=pid j:=by
 have h1:=List.find?_some hf
 have h2:=List.mem_of_find?_eq_some hf
 obtain ⟨j,hj⟩:=List.getElem?_of_mem h2
 rw [decide_eq_true_eq,(h.2 j y hj).b1] at h1
 exact ⟨j,hj,h1.symm⟩
theorem quy {il:List Itm} {s:List UInt8} (hf:getI il s=none):∀ x∈il,decide (x.1=s)=false:=by
 unfold getI at hf
 rw [List.find?_eq_none] at hf
 intro x hx
 simpa using hf x hx
section
variable {E:Envt}
end
section
variable {E:Envt}
end
def qca:IC:=(sR [qT 9 .lss 8 7] (.seq (jE 9) (.seq (.block 1 (sR [qM 10 8,qM 5 10] (sR [qM 11 1,qM 12 0,qM 13 5,qX 14 1 12 13,qL 15 14,qT 16 .eql 11 15] (jW 16 (sR [qM 17 5,qM 4 17] .ret))))) (.reg [qB 18 .add 8 (cI 1),qM 8 18]))))
abbrev qfU:IC:=(sR [jI 4 0] (.seq (sR [qM 6 0,qN 7 6,jI 8 0] (.block 0 (.loop qca))) (sR [jI 4 (-1)] .ret)))
theorem qf7:chkF Tryz.prog Tryz.f306 qfU [.t 4] 19=true:=by kernel_rfl
abbrev qeN:IC:=(sR [qO 4 (.mov (.c (.bool false)))] (sR [qM 5 0,qM 6 1,jC 7 306 [.t 5,.t 6],qB 8 .geq 7 (cI 0),qM 4 8] .ret))
theorem qeR:chkF Tryz.prog Tryz.f290 qeN [.t 4] 9=true:=by kernel_rfl
section
variable {E:Envt}
def ixE (l:List Int):List (List PV):=l.map fun x=>[PV.int .i64 x]
theorem qfT (l:List Int):(ixE l).length=l.length:=by simp [ixE]
theorem qun {l:List Int} {k:Nat} {x:Int} (h:l[k]?=some x):(ixE l).getD k []=[.int .i64 x]:=qao h
def idxI (l:List Int) (x:Int) (k:Nat):Int:=if h:k < l.length then (if x=l[k] then k else idxI l x (k+1)) else -1
termination_by l.length - k
theorem qvs (l:List Int) (x:Int) (hl:l.length≤1000000000):PCall Tryz.prog E 306 [.sl 1 (ixE l),.int .i64 x] (·=int (idxI l x 0)):=by
 refine qag mixed Tryz.func306 qf7 ?_
 refine zV ?_
 simp only [ZZ,WW,Zd,reduceCtorEq,zd,ze,zb,zf,za,qfT]
 refine qac (fun n fr L=>∃ (k:Nat),k≤l.length∧n=l.length - k∧(idxI l x 0=idxI l x k)∧fr=(.p (.sl 1 (ixE l))::.p (.int .i64 x)::oC (oo::(.p (int (l.length:Nat))::.p (int (k:Nat))::oD (oB []))))∧L=[]) (l.length) _ [] (by simp only [ZZ,WW,Zd,reduceCtorEq,zd,ze,zb,zf,za,qfT];try trivial) zF_ ⟨0,by omega,by omega,rfl,rfl,rfl⟩ ?_
 rintro n fr L ⟨k,hk,rfl,hf,rfl,rfl⟩
 simp only [qca,ZZ,WW,Zd,reduceCtorEq,zd,ze,zb,zf,za]
 refine br ?_ ?_
 ·intro h
  have hlt:k < l.length:=by have:=of_decide_eq_true h;omega
  have hg:=qun (List.getElem?_eq_getElem hlt)
  simp only [ZZ,WW,Zd,reduceCtorEq,zd,ze,zb,zf,za,hg,qfT]
  ((with_reducible and_intros)<;>try exact sc_)
  refine br ?_ ?_
  ·intro h2
   have h2:x=l[k]:=of_decide_eq_true h2
   refine zS ?_
   rw [hf,idxI,dif_pos hlt,if_pos h2]
  ·intro h2
   have h2:¬ x=l[k]:=of_decide_eq_false h2
   refine zS ?_
   ((with_reducible and_intros)<;>try exact sc_)
   refine qab (l.length - (k+1)) _ [] (by omega) zF_ zF_ ⟨k+1,by omega,rfl,by rw [hf,idxI,dif_pos hlt,if_neg h2],rfl,rfl⟩
 ·intro h
  have hge:¬ k < l.length:=by have:=of_decide_eq_false h;omega
  refine zS ?_
  rw [hf,idxI,dif_neg hge]
theorem qwD (l:List Int) (x:Int):∀ (n k:Nat),l.length - k≤n→(0≤idxI l x k↔x∈l.drop k):=by
 intro n
 induction n with
 |zero=>
  intro k hk
  rw [idxI,dif_neg (by omega),zL (by omega)]
  simp
 |succ n ih=>
  intro k hk
  rw [idxI]
  split
  ·rename_i h
   rw [List.drop_eq_getElem_cons h,List.mem_cons]
   split
   ·rename_i e;simp [e]
   ·rename_i e
    rw [ih (k+1) (by omega)]
    simp [e]
  ·rename_i h
   rw [zL (by omega)]
   simp
theorem qpQ (l:List Int) (x:Int) (hl:l.length≤1000000000):PCall Tryz.prog E 290 [.sl 1 (ixE l),.int .i64 x] (·=.bool (decide (x∈l))):=by
 refine qag mixed Tryz.func290 qeR ?_
 refine zV ?_
 refine use1 (qvs l x hl) rfl (.inl rfl) ?_
 refine zS ?_
 have:=qwD l x _ 0 (Nat.le_refl _)
 rw [List.drop_zero] at this
 simp only [this]
end
end Go.Proofs.YtmpdnpljdcincaaGreatDoor
