import Derived.Test.YtehfjlpenlffmaaGreatDoorZ18
import Derived.Test.YtehfjlpenlffmaaGreatDoorZ16
import Derived.Test.YtehfjlpenlffmaaGreatDoorZ10
import Derived.Test.YtehfjlpenlffmaaGreatDoorZ4
set_option linter.unusedVariables false
set_option linter.unusedSimpArgs false
set_option linter.defProp false
namespace Go.Proofs.YtehfjlpenlffmaaGreatDoor
open Nat renaming le_refl→zM,le_trans→zT,reduceAdd→zd,reduceEqDiff→za,reduceLT→zf,reduceLeDiff→zb,reduceMul→ze,reduceSub→zu
open List renaming append_assoc→ym,append_nil→yo,cons_append→zl,getElem?_eq_getElem→zg,getElem?_eq_some_iff→zt,length_append→zK,length_cons→zi,length_drop→z8,length_map→zB,length_nil→zo,length_take→zP,map_append→zO,map_congr_left→zQ,map_cons→zk,map_nil→zr,nil_append→zm,range→zE,replicate_succ→zh,replicate_zero→zj,take_of_length_le→zC,take_succ_eq_append_getElem→zy
open Option renaming map_some→zL
open Go.RowKit
abbrev tFm:Nat:=119
abbrev fWay:Nat:=164
abbrev tStF:Nat:=9
def fmC (f:Fam):List PV:=[.str f.1,.sl 1 (strE f.2)]
def fmA (I:List Fam):List (List AV):=I.map fun f=>[.p (.str f.1),.p (.sl 1 (strE f.2))]
theorem qod:∀ I:List Fam,Zba (fmA I)=some (I.map fmC)
 |[]=>rfl
 |f :: r=>by
  have ih:=qod r
  simp only [fmA,zk] at ih ⊢
  rw [Zba,ih]
  rfl
theorem qp7 (I:List Fam) (k:Key):(fmA I).map (fun x=>x.map fun y=>AV.kill k y)=fmA I:=by
 unfold fmA
 rw [List.map_map]
 exact zQ fun _ _=>rfl
theorem qwi (I:List Fam) (s:List UInt8):(fmA I++[[.p (.str s),AV.row (.l 64)]]).map (fun x=>x.map fun y=>AV.ren (r1 64 1000) y)=fmA I++[[.p (.str s),AV.row (.l 1000)]]:=by
 rw [zO]
 congr 1
 unfold fmA
 rw [List.map_map]
 exact zQ fun _ _=>rfl
theorem qmH (I:List Fam):(fmA I).length=I.length:=by simp [fmA]
theorem ql4 (I:List Fam) (x:List AV):(fmA I++[x]).length=I.length+1:=by rw [zK,qmH];rfl
theorem qnG (I:List Fam) (x:List AV):(fmA I++[x]).getD I.length []=x:=by
 rw [List.getD,List.getElem?_append_right (by rw [qmH];exact zM _),qmH,Nat.sub_self]
 rfl
theorem qp6 (I:List Fam) (x y:List AV):(fmA I++[x]).set I.length y=fmA I++[y]:=by
 rw [List.set_append_right _ _ (by rw [qmH];exact zM _),qmH,Nat.sub_self]
 rfl
theorem qrw (I:List Fam) (k:Key) (s:List UInt8) (c:AV):(fmA I++[[.p (.str s),c]]).map (fun x=>x.map fun y=>AV.kill k y)=fmA I++[[.p (.str s),c.kill k]]:=by
 rw [zO,qp7];rfl
def FmJ (L:Objs) (k:Nat):Option (List Fam×Fam)→Prop
 |none=>Zar L (.l 6)=some (.rowv (fmA []) tFm 2)
 |some (I,c)=>I.length≤k∧c.2.length≤k∧Zar L (.l 6)=some (.rowv (fmA I++[[.p (.str c.1),.row (.l 1000)]]) tFm 2)∧Zar L (.l 1000)=some (.row (strE c.2) tStF 1 true)
theorem qtS {E:Envt} {fr:List AV} {L:Objs} {I:List Fam} {c:Fam} {x:List (List AV)} (hfr:∀ y,fr.map (·.thaw (.l 1000) y)=fr) (hx:∀ y,x.map (fun c=>c.map (AV.thaw (.l 1000) y))=x) (h1:Zar L (.l 6)=some (.rowv (fmA I++[[.p (.str c.1),.row (.l 1000)]]++x) tFm 2)) (h2:Zar L (.l 1000)=some (.row (strE c.2) tStF 1 true)) {es:List (List PV)} {e z:Nat} {ap:Bool} (h3:Zar L (.l 13)=some (.row es e z ap)) :
  ∃ L',ReOk E fr L fr L'∧Zar L' (.l 6)=some (.rowv (fmA (I++[c])++x) tFm 2)∧Zar L' (.l 13)=some (.row es e z ap):=by
 have hr:=qbO (E:=E) (fr:=fr) h2
 rw [hfr] at hr
 refine ⟨_,hr,?_,?_⟩
 ·rw [qbY,if_neg (by simp),h1,zL,AO.thaw]
  congr 2
  rw [zO,zO,hx]
  simp [fmA,AV.thaw]
 ·rw [qbY,if_neg (by simp),h3];rfl
def ixK (n k:Nat):List (List PV):=(zE n).map fun i=>[int ((if i < k then i else 0:Nat):Nat)]
theorem qv6 (n k:Nat):(ixK n k).length=n:=by simp [ixK]
theorem qAy {n k:Nat} (h:k < n):(ixK n k).set k [int (k:Nat)]=ixK n (k+1):=by
 apply List.ext_getElem
 ·simp [ixK]
 ·intro i h1 h2
  simp only [ixK,zB,List.length_range,List.length_set] at h1 h2
  rw [List.getElem_set]
  simp only [ixK,List.getElem_map,List.getElem_range]
  by_cases e:k=i
  ·subst e
   rw [if_pos rfl,if_pos (by omega)]
  ·rw [if_neg e]
   by_cases e2:i < k
   ·rw [if_pos e2,if_pos (by omega)]
   ·rw [if_neg e2,if_neg (by omega)]
theorem qxV (n:Nat):List.replicate n [int 0]=ixK n 0:=by simp [ixK,List.map_const']
theorem qAz (n:Nat):ixK n n=(zE n).map fun i=>[int ((i:Nat):Int)]:=by
 unfold ixK
 refine zQ fun i hi=>?_
 rw [List.mem_range] at hi
 rw [if_pos hi]
section
variable {E:Envt}
set_option maxHeartbeats 4000000 in
theorem qqA (il:List Itm) (hP:qaP il) (h12:il.length≤12):PCall Tryz.prog E 83 [.sl 7 (itE il)] (·=.sl 2 ((famF il).map fmC)):=by
 refine qae mixed Tryz.func83 qji ?_
 simp only [a0,l0,OS.ao,zk,zr,zi,zo,zl,zm,zu,zd,zh,zj,qeT,qeI,ZZ,WW,Zd,reduceCtorEq,zd,ze,zb,zf,za]
 rw [qa6]
 refine ⟨_,_,qiM (k:=.l 1) (cs:=[.sl 7 (itE il)]) rfl,?_⟩
 simp only [ZZ,WW,Zd,reduceCtorEq,zd,ze,zb,zf,za,qai]
 ((with_reducible and_intros)<;>try exact sc_)
 rw [qa6]
 refine ⟨_,_,qiM (k:=.l 3) (cs:=[.clo 164 [.ptr [.sl 7 (itE il)]]]) rfl,?_⟩
 simp only [ZZ,WW,Zd,reduceCtorEq,zd,ze,zb,zf,za,qai]
 refine ⟨by omega,?_⟩
 rw [qxV,qv6]
 refine qad (fun n fr L=>∃ (k:Nat),k≤il.length∧n=il.length - k∧fr=(oo::.p (.ptr [.sl 7 (itE il)])::oo::.p (.ptr [.clo fWay [.ptr [.sl 7 (itE il)]]])::.row (.l 13)::oD (oB (.p (int (il.length:Nat))::.p (int (k:Nat))::oF (oE (oC [])))))∧L=[(.l 13,.row (ixK il.length k) 3 1 true)]) (il.length) _ _ zF_ (by (simp only [ZZ,WW,Zd,reduceCtorEq,zd,ze,zb,zf,za];try trivial)) ⟨0,by omega,by omega,rfl,rfl⟩ ?_
 rintro n fr L ⟨k,hk,rfl,rfl,rfl⟩
 simp only [qdE,ZZ,WW,Zd,reduceCtorEq,zd,ze,zb,zf,za]
 refine br ?_ ?_
 ·intro h
  have hlt:k < il.length:=by have:=of_decide_eq_true h;omega
  have hst:=qAy hlt
  have hgk:(ixK il.length k).getD k []=[int 0]:=by rw [ixK,qas (List.getElem?_range hlt)];simp
  simp only [ZZ,WW,Zd,reduceCtorEq,zd,ze,zb,zf,za,qv6,hst,hgk]
  ((with_reducible and_intros)<;>try exact sc_)
  refine qac (il.length - (k+1)) _ _ (by omega) (by (simp only [ZZ,WW,Zd,reduceCtorEq,zd,ze,zb,zf,za];try trivial)) (by (simp only [ZZ,WW,Zd,reduceCtorEq,zd,ze,zb,zf,za];try trivial)) ⟨k+1,by omega,rfl,rfl,rfl⟩
 intro h
 have hge:k=il.length:=by have:=of_decide_eq_false h;omega
 subst hge
 rw [qAz]
 refine zS ?_
 refine useR (qs1 (fun i:Nat=>(i:Int)) (cfW il) (qA2 hP) 167 [.ptr [.clo 164 [.ptr [.sl 7 (itE il)]]]] (fun _=>by kernel_rfl) (zE il.length) (by rw [List.length_range];exact h12) (fun i hi j hj=>qzn il hP i j (by simpa using hi) (by simpa using hj)) (fun _ _=>rfl) (fun _ _=>rfl)) rfl rfl rfl zE_ ?_
 rintro _ _ ⟨rfl,o,rfl,hp,hs⟩
 have ho:=qA1 hP hp hs
 subst ho
 have hol:(ordX il).length=il.length:=by rw [hp.length_eq,List.length_range]
 simp only [ZZ,WW,Zd,reduceCtorEq,zd,ze,zb,zf,za,zB,hol]
 obtain ⟨OC,hOC⟩:∃ OC:List (List PV),OC=(ordX il).map fun x=>[int ((x:Nat):Int)]:=⟨_,rfl⟩
 rw [← hOC]
 have hOl:OC.length=il.length:=by rw [hOC,zB,hol]
 obtain ⟨J,hJ⟩:∃ J:Nat→Objs→Prop,J=fun k L=>(k < il.length∧FmJ L k (stG il ((ordX il).take k))∧Zar L (.l 13)=some (.row OC qiE 1 true))∨(k=il.length∧Zar L (.l 6)=some (.row ((famF il).map fmC) tFm 2 true)):=⟨_,rfl⟩
 have hfr:∀ (q:Nat) (y:PV),List.map (fun x:AV=>x.thaw (.l 1000) y) (oo::.p (.ptr [.sl 7 (itE il)])::oo::oo::oo::oo::.row (.l 6)::oE (oC (.row (.l 13)::.p (int (il.length:Nat))::.p (int (q:Nat))::oF (oC (oB (oo::[]))))))=(oo::.p (.ptr [.sl 7 (itE il)])::oo::oo::oo::oo::.row (.l 6)::oE (oC (.row (.l 13)::.p (int (il.length:Nat))::.p (int (q:Nat))::oF (oC (oB (oo::[])))))):=by
  intro q y
  have e1:(Key.l 6=.l 1000)=False:=by simp
  have e2:(Key.l 13=.l 1000)=False:=by simp
  simp only [zk,zr,AV.thaw,e1,e2,if_false]
 have hnx:∀ k L,k≤il.length→FmJ L k (stG il ((ordX il).take k))→Zar L (.l 13)=some (.row OC qiE 1 true)→∃ L',ReOk E (oo::.p (.ptr [.sl 7 (itE il)])::oo::oo::oo::oo::.row (.l 6)::oE (oC (.row (.l 13)::.p (int (il.length:Nat))::.p (int (k:Nat))::oF (oC (oB (oo::[])))))) L (oo::.p (.ptr [.sl 7 (itE il)])::oo::oo::oo::oo::.row (.l 6)::oE (oC (.row (.l 13)::.p (int (il.length:Nat))::.p (int (k:Nat))::oF (oC (oB (oo::[])))))) L'∧J k L':=by
  intro k L hk h h13
  by_cases hkl:k < il.length
  ·exact ⟨L,ReOk.refl,by rw [hJ];exact .inl ⟨hkl,h,h13⟩⟩
  ·have hke:k=il.length:=by omega
   have hG:=qAm hP
   rw [zC (by omega)] at h
   generalize stG il (ordX il)=G at *
   cases G with
   |none=>
    refine ⟨_,qkF h (qod []),?_⟩
    rw [hJ,← hG]
    refine .inr ⟨hke,?_⟩
    rw [qab,if_pos rfl]
    rfl
   |some G=>
    obtain ⟨I,c⟩:=G
    obtain ⟨_,_,h1,h2⟩:=h
    obtain ⟨L1,r1,h3,_⟩:=qtS (E:=E) (fr:=(oo::.p (.ptr [.sl 7 (itE il)])::oo::oo::oo::oo::.row (.l 6)::oE (oC (.row (.l 13)::.p (int (il.length:Nat))::.p (int (k:Nat))::oF (oC (oB (oo::[]))))))) (x:=[]) (hfr k) (fun _=>rfl) (by rw [yo];exact h1) h2 h13
    rw [yo] at h3
    refine ⟨_,ReOk.trans r1 (qkF h3 (qod _)),?_⟩
    rw [hJ,← hG]
    refine .inr ⟨hke,?_⟩
    rw [qab,if_pos rfl]
    rfl
 obtain ⟨L1,q1,q2⟩:=hnx 0 [(.l 13,.row OC qiE 1 true),(.l 6,.rowv (fmA []) tFm 2)] (by omega) rfl rfl
 refine qsz (fun m fr L=>∃ k,k≤il.length∧m=il.length - k∧fr=(oo::.p (.ptr [.sl 7 (itE il)])::oo::oo::oo::oo::.row (.l 6)::oE (oC (.row (.l 13)::.p (int (il.length:Nat))::.p (int (k:Nat))::oF (oC (oB (oo::[]))))))∧J k L) il.length _ L1 (ReOk.trans (qkK zF_) (ReOk.trans (qso (k:=.l 6) rfl) q1)) ⟨0,by omega,by omega,rfl,q2⟩ ?_
 clear q1 q2 L1
 rintro m fr L ⟨k,hk,rfl,rfl,hj⟩
 simp only [qdD,ZZ,WW,Zd,reduceCtorEq,zd,ze,zb,zf,za]
 rw [hJ] at hj
 refine br ?_ ?_
 ·intro h
  have hlt:k < il.length:=by have:=of_decide_eq_true h;omega
  rcases hj with ⟨_,hj,h13⟩|⟨e,_⟩
  rotate_left
  ·omega
  obtain ⟨i,hi⟩:∃ i,(ordX il)[k]?=some i:=⟨_,zg (by omega)⟩
  have hgo:OC.getD k []=[int ((i:Nat):Int)]:=by rw [hOC];exact qas hi
  have hil:i < il.length:=(qsu hP i).1 (List.mem_of_getElem? hi)
  obtain ⟨x,hx⟩:∃ x,il[i]?=some x:=⟨_,zg hil⟩
  have hg:=qbG hx
  have hax:=qpg hx
  simp only [itC] at hg
  have hnx1:=fun L=>hnx (k+1) L (by omega)
  have hsn:stG il ((ordX il).take (k+1))=stpG il (stG il ((ordX il).take k)) i:=by rw [← qxc,zy (by omega),(zt.1 hi).2]
  have hps:=qzy hP (k:=k+1) (by omega) (by omega)
  rw [hsn] at hnx1 hps
  generalize stG il ((ordX il).take k)=G at *
  unfold stpG at hnx1 hps
  rw [hax] at hnx1 hps
  by_cases hup:upOf x=[]
  ·rw [if_pos hup] at hnx1
   unfold upOf at hup
   cases G with
   |none=>
    have hj:Zar L (.l 6)=some (.rowv (fmA []) tFm 2):=hj
    have hk0:(fmA []).map (fun x=>x.map fun y=>AV.kill (.l 6) y)=fmA []:=qp7 [] _
    obtain ⟨I,hI⟩:∃ I:List Fam,I=[]:=⟨_,rfl⟩
    rw [← hI] at hj hk0
    have hIl:I.length≤20:=by rw [hI];simp
    have hk46:(fmA I).map (fun x=>x.map fun y=>AV.kill (.l 46) y)=fmA I:=qp7 I _
    have hix:((I.length+1:Nat):Int) - 1=(I.length:Nat):=by omega
    simp only [ZZ,WW,Zd,reduceCtorEq,zd,ze,zb,zf,za,hgo,hg,qai,hOl,hj,h13,hup,hk0,hk46,qmH,qao,qab,qam,decide_true]
    ((with_reducible and_intros)<;>try exact sc_)
    generalize hLL:Zas (Zat (Key.l 6) _) (Key.l 6) _=LL
    have q6:Zar LL (.l 6)=some (.rowv (fmA I++[[.p (.str x.1),.p (.nl 1)]]) tFm 2):=by rw [← hLL,qab,if_pos rfl]
    have q13:Zar LL (.l 13)=some (.row OC qiE 1 true):=by
     rw [← hLL]
     simp only [qao,qab,qam,h13,ZZ,WW,Zd,reduceCtorEq,zd,ze,zb,zf,za]
    refine qa1 (oo::.p (.ptr [.sl 7 (itE il)])::oo::oo::oo::oo::.row (.l 6)::oo::.p (int (i:Nat))::oE (oB (.row (.l 13)::.p (int (il.length:Nat))::.p (int (k:Nat))::oF (oC (oB (oo::[])))))) LL (qkK zF_) ?_
    clear hLL hj h13
    have hln:=ql4 I [.p (.str x.1),.p (.nl 1)]
    have hix:((I.length+1:Nat):Int) - 1=(I.length:Nat):=by omega
    have hla:=qnG I [.p (.str x.1),.p (.nl 1)]
    have hk64:=qrw I (.l 64) x.1 (.p (.nl 1))
    simp only [AV.kill] at hk64
    simp only [ZZ,WW,Zd,reduceCtorEq,zd,ze,zb,zf,za,hg,qai,q6,hln,hix,hla,qao,qab,qam]
    ((with_reducible and_intros)<;>try exact sc_)
    refine ⟨[],?_⟩
    simp only [ZZ,WW,Zd,reduceCtorEq,zd,ze,zb,zf,za,hg,qai,q6,hln,hix,hla,hk64,qp6,qao,qab,qam]
    refine ⟨by omega,⟨by omega,by omega⟩,by omega,by omega,qan (by omega) (by omega),?_⟩
    generalize hLM:Zas (Zas (Zat (Key.l 64) LL) (Key.l 64) _) (Key.l 6) _=LM
    have w6:Zar (mapO (r1 64 1000) LM) (.l 6)=some (.rowv (fmA I++[[.p (.str x.1),.row (.l 1000)]]) tFm 2):=by
     rw [qaK,if_neg (by simp),if_neg (by simp),← hLM,qab,if_pos rfl]
     simp only [zL,AO.ren]
     exact congrArg (fun c=>some (AO.rowv c tFm 2)) (qwi _ _)
    have w1:Zar (mapO (r1 64 1000) LM) (.l 1000)=some (.row (strE [x.1]) tStF 1 true):=by
     rw [qaK,if_pos rfl,← hLM,qab,if_neg (by simp),qab,if_pos rfl]
     rfl
    have w13:Zar (mapO (r1 64 1000) LM) (.l 13)=some (.row OC qiE 1 true):=by
     rw [qaK,if_neg (by simp),if_neg (by simp),← hLM,qab,if_neg (by simp),qab,if_neg (by simp),qam,q13]
     rfl
    rw [hI] at w6
    obtain ⟨L2,r2,h2⟩:=hnx1 (mapO (r1 64 1000) LM) ⟨by show ([]:List Fam).length≤k+1;simp,by show [x.1].length≤k+1;simp,w6,w1⟩ w13
    refine qk5 (il.length - (k+1)) _ L2 (by omega) (ReOk.trans (qoZ 64 1000) (ReOk.trans (qkK (by simp only [AV.ren,r1,ZZ,WW,Zd,reduceCtorEq,zd,ze,zb,zf,za];try trivial)) r2)) ⟨k+1,by omega,rfl,rfl,h2⟩
   |some G=>
    obtain ⟨I,c⟩:=G
    obtain ⟨hI,hc,h6,h1⟩:=hj
    have hI:I.length≤k:=hI
    have hc:c.2.length≤k:=hc
    have hln:=ql4 I [.p (.str c.1),.row (.l 1000)]
    have hk1:=qrw I (.l 6) c.1 (.row (.l 1000))
    have hk46:=qrw I (.l 46) c.1 (.row (.l 1000))
    simp only [AV.kill,Key.l.injEq,za,if_false] at hk1 hk46
    simp only [ZZ,WW,Zd,reduceCtorEq,zd,ze,zb,zf,za,hgo,hg,qai,hOl,h6,h13,hup,hln,hk1,hk46,qao,qab,qam,decide_true]
    ((with_reducible and_intros)<;>try exact sc_)
    generalize hLL:Zas (Zat (Key.l 6) _) (Key.l 6) _=LL
    have q6:Zar LL (.l 6)=some (.rowv (fmA I++[[.p (.str c.1),.row (.l 1000)]]++[[.p (.str x.1),.p (.nl 1)]]) tFm 2):=by rw [← hLL,qab,if_pos rfl]
    have q13:Zar LL (.l 13)=some (.row OC qiE 1 true):=by
     rw [← hLL]
     simp only [qao,qab,qam,h13,ZZ,WW,Zd,reduceCtorEq,zd,ze,zb,zf,za]
    have q1:Zar LL (.l 1000)=some (.row (strE c.2) tStF 1 true):=by
     rw [← hLL]
     simp only [qao,qab,qam,h1,ZZ,WW,Zd,reduceCtorEq,zd,ze,zb,zf,za]
    obtain ⟨L3,r3,q6,q13⟩:=qtS (E:=E) (fr:=(oo::.p (.ptr [.sl 7 (itE il)])::oo::oo::oo::oo::.row (.l 6)::oo::.p (int (i:Nat))::oE (oB (.row (.l 13)::.p (int (il.length:Nat))::.p (int (k:Nat))::oF (oC (oB (oo::[]))))))) (x:=[[.p (.str x.1),.p (.nl 1)]]) (by
     intro y
     have e1:(Key.l 6=.l 1000)=False:=by simp
     have e2:(Key.l 13=.l 1000)=False:=by simp
     simp only [zk,zr,AV.thaw,e1,e2,if_false]) (fun _=>rfl) q6 q1 q13
    refine qa1 (oo::.p (.ptr [.sl 7 (itE il)])::oo::oo::oo::oo::.row (.l 6)::oo::.p (int (i:Nat))::oE (oB (.row (.l 13)::.p (int (il.length:Nat))::.p (int (k:Nat))::oF (oC (oB (oo::[])))))) L3 (ReOk.trans (qkK zF_) r3) ?_
    clear r3 hLL h6 h13 h1 q1
    have hIl:(I++[c]).length≤20:=by simp;omega
    generalize hI2:I++[c]=I2 at *
    have hln:=ql4 I2 [.p (.str x.1),.p (.nl 1)]
    have hix:((I2.length+1:Nat):Int) - 1=(I2.length:Nat):=by omega
    have hla:=qnG I2 [.p (.str x.1),.p (.nl 1)]
    have hk64:=qrw I2 (.l 64) x.1 (.p (.nl 1))
    simp only [AV.kill] at hk64
    simp only [ZZ,WW,Zd,reduceCtorEq,zd,ze,zb,zf,za,hg,qai,q6,hln,hix,hla,qao,qab,qam]
    ((with_reducible and_intros)<;>try exact sc_)
    refine ⟨[],?_⟩
    simp only [ZZ,WW,Zd,reduceCtorEq,zd,ze,zb,zf,za,hg,qai,q6,hln,hix,hla,hk64,qp6,qao,qab,qam]
    refine ⟨by omega,⟨by omega,by omega⟩,by omega,by omega,qan (by omega) (by omega),?_⟩
    generalize hLM:Zas (Zas (Zat (Key.l 64) L3) (Key.l 64) _) (Key.l 6) _=LM
    have w6:Zar (mapO (r1 64 1000) LM) (.l 6)=some (.rowv (fmA I2++[[.p (.str x.1),.row (.l 1000)]]) tFm 2):=by
     rw [qaK,if_neg (by simp),if_neg (by simp),← hLM,qab,if_pos rfl]
     simp only [zL,AO.ren]
     exact congrArg (fun c=>some (AO.rowv c tFm 2)) (qwi _ _)
    have w1:Zar (mapO (r1 64 1000) LM) (.l 1000)=some (.row (strE [x.1]) tStF 1 true):=by
     rw [qaK,if_pos rfl,← hLM,qab,if_neg (by simp),qab,if_pos rfl]
     rfl
    have w13:Zar (mapO (r1 64 1000) LM) (.l 13)=some (.row OC qiE 1 true):=by
     rw [qaK,if_neg (by simp),if_neg (by simp),← hLM,qab,if_neg (by simp),qab,if_neg (by simp),qam,q13]
     rfl
    have hI3:I2.length≤k+1:=by rw [← hI2,zK];simp;omega
    rw [← hI2] at w6 hI3
    obtain ⟨L2,r2,h2⟩:=hnx1 (mapO (r1 64 1000) LM) ⟨hI3,by show [x.1].length≤k+1;simp,w6,w1⟩ w13
    refine qk5 (il.length - (k+1)) _ L2 (by omega) (ReOk.trans (qoZ 64 1000) (ReOk.trans (qkK (by simp only [AV.ren,r1,ZZ,WW,Zd,reduceCtorEq,zd,ze,zb,zf,za];try trivial)) r2)) ⟨k+1,by omega,rfl,rfl,h2⟩
  ·rw [if_neg hup] at hnx1 hps
   unfold upOf at hup
   cases G with
   |none=>obtain ⟨I,c,e⟩:=hps;cases e
   |some G=>
    obtain ⟨I,c⟩:=G
    obtain ⟨hI,hc,h6,h1⟩:=hj
    have hI:I.length≤k:=hI
    have hc:c.2.length≤k:=hc
    have hln:=ql4 I [.p (.str c.1),.row (.l 1000)]
    have hix:((I.length+1:Nat):Int) - 1=(I.length:Nat):=by omega
    have hla:=qnG I [.p (.str c.1),.row (.l 1000)]
    simp only [ZZ,WW,Zd,reduceCtorEq,zd,ze,zb,zf,za,hgo,hg,qai,hOl,h6,h13,h1,hup,hln,qao,qab,qam,decide_false]
    ((with_reducible and_intros)<;>try exact sc_)
    refine qa1 _ _ ReOk.refl ?_
    simp only [ZZ,WW,Zd,reduceCtorEq,zd,ze,zb,zf,za,hgo,hg,qai,hOl,h6,h13,h1,hup,hln,hix,hla,qag,qao,qab,qam]
    ((with_reducible and_intros)<;>try exact sc_)
    refine ⟨[],?_⟩
    have hk2:=qrw I (.l 1000) c.1 (.row (.l 1000))
    simp only [AV.kill,if_true] at hk2
    have hln2:=ql4 I [.p (.str c.1),oo]
    have hla2:=qnG I [.p (.str c.1),oo]
    simp only [ZZ,WW,Zd,reduceCtorEq,zd,ze,zb,zf,za,hg,qai,h6,h13,h1,hln,hix,hla,hk2,hln2,hla2,qp6,qag,qao,qab,qam]
    refine ⟨by omega,⟨by omega,by omega⟩,by omega,by omega,by omega,qan (by omega) (by omega),?_⟩
    generalize hLL:Zas (Zas (Zat (Key.l 1000) L) (Key.l 1000) _) (Key.l 6) _=LL
    obtain ⟨L2,r2,h2⟩:=hnx1 LL ⟨by show I.length≤k+1;omega,by show (c.2++[x.1]).length≤k+1;simp only [zK,List.length_singleton];omega,by rw [← hLL,qab,if_pos rfl],by rw [← hLL,qab,if_neg (by simp),qab,if_pos rfl,qlE];rfl⟩ (by rw [← hLL,qab,if_neg (by simp),qab,if_neg (by simp),qam,h13];rfl)
    refine qk5 (il.length - (k+1)) _ L2 (by omega) (ReOk.trans (qkK zF_) r2) ⟨k+1,by omega,rfl,rfl,h2⟩
 ·intro h
  have hge:k=il.length:=by have:=of_decide_eq_false h;omega
  rcases hj with ⟨e,_⟩|⟨_,hO⟩
  ·omega
  subst hge
  refine zS ?_
  rw [qa6]
  refine ⟨_,_,qbO (k:=.l 6) hO,?_⟩
  refine zS ?_
  trivial
end
def qes:IC:=(sR [qT 14 .lss 13 12] (.seq (.cond (.t 14) .skip (.exit 0)) (.seq (.block 1 (sR [qX 15 2 11 13,qO 16 (.ld 2 true (.t 15)),qO 9 (.alc 119 [.str [],.nl 1]),qS 2 9 16] (sR [qF 17 1 9,qL 18 17,qO 19 (.mkf 85 [.t 4]),qO 20 (.call 84 [.t 18,.t 19])] (.cond (.t 20) (.reg [qM 21 7,qO 22 (.ld 2 true (.t 9)),qO 23 (.bsl 2 [.t 22]),qO 24 (.app 119 2 40 (.t 21) (.t 23)),qM 7 24]) .skip)))) (.cut (.reg [qB 25 .add 13 (cI 1),qM 13 25])))))
def qgb:IC:=(sR [qO 3 (.box 30 (.t 0)),qO 4 (.box 27 (.t 1)),qO 5 (.box 3 (.t 2)),qO 6 (.mov (.c (.nl 2))),⟨none,.re,none⟩] (sR [qO 7 (.nilr 119 2)] (.seq (sR [qL 10 3,qO 11 (.call 83 [.t 10]),qN 12 11,qO 13 (.mov (cI 0))] (.block 0 (.loop qes))) (sR [qM 26 7,qO 27 (.mkf 88 [.t 3,.t 5]),qO 28 (.call 87 [.t 26,.t 27])] (sR [qM 29 7,qM 6 29,⟨none,.re,none⟩] .ret)))))
def qfT:List IRes:=[.t 6]
theorem qkq:chkF Tryz.prog Tryz.f26 qgb qfT 30=true:=by kernel_rfl
def qe0:IC:=(sR [qO 3 (.mov (.c (.bool false)))] (sR [qL 4 1,qM 5 0,qO 6 (.call 86 [.t 4,.t 5]),qO 7 (.fld 1 1 false (.t 6)),qB 8 .eql 7 (cI 1),qM 3 8] .ret))
def qeM:List IRes:=[.t 3]
theorem qjm:chkF Tryz.prog Tryz.f85 qe0 qeM 9=true:=by kernel_rfl
def qbt:IC:=(sR [qO 4 (.box 119 (.t 0)),qO 5 (.box 119 (.t 1)),qO 6 (.mov (cI 0))] (sR [qL 14 2,qF 15 0 4,qL 16 15,qO 17 (.call 72 [.t 14,.t 16]),qM 13 17,qO 18 (.ext 0 (.t 13)),qO 19 (.ext 1 (.t 13)),qO 7 (.alc 80 [.str [],.str [],.int .i64 0,.str [],.int .i64 0,.str [],.str []]),qS 7 7 18,qM 8 19] (sR [qL 21 2,qF 22 0 5,qL 23 22,qO 24 (.call 72 [.t 21,.t 23]),qM 20 24,qO 25 (.ext 0 (.t 20)),qO 26 (.ext 1 (.t 20)),qO 9 (.alc 80 [.str [],.str [],.int .i64 0,.str [],.int .i64 0,.str [],.str []]),qS 7 9 25,qM 10 26] (.seq (.drg [qF 27 1 7,qL 28 27,qF 29 1 9,qL 30 29,qO 31 (.pcall 0 89 [.t 28,.t 30]),qF 32 4 7,qL 33 32,qF 34 4 9,qL 35 34,qO 36 (.pcall 1 90 [.t 33,.t 35]),qM 11 31,qM 12 36]) (.seq (sR [qL 37 3] (.block 0 (sR [qB 39 .eql 37 (cI 1),qM 38 39] (.cond (.t 38) (.reg [qO 11 (.mov (cI 0)),qO 12 (.mov (cI 0))]) (sR [qB 41 .eql 37 (cI 2),qM 40 41] (.cond (.t 40) (.reg [qO 11 (.mov (cI 0))]) .skip)))))) (.cut (sR [qM 42 11,qM 43 12,qF 44 0 4,qL 45 44,qF 46 0 5,qL 47 46,qO 48 (.call 89 [.t 45,.t 47]),qO 49 (.bsl 1 [.t 42,.t 43,.t 48]),qO 50 (.call 91 [.t 49]),qM 6 50] .ret)))))))
def qbr:List IRes:=[.t 6]
theorem qcJ:chkF Tryz.prog Tryz.f88 qbt qbr 51=true:=by kernel_rfl
section
variable {E:Envt}
theorem qsl (l:List Rul) (hl:l.length≤1000000) (s:List UInt8):PCall Tryz.prog E 86 [.sl 3 (rlE l),.str s] (fun x=>∃ i w v,x=.agg [i,int w,v]∧decide (w=1)=qnf l s):=by
 refine qae mixed Tryz.func86 qgf ?_
 simp only [a0,l0,OS.ao,zk,zr,zi,zo,zl,zm,zu,zd,zh,zj,qdi,qde,ZZ,WW,Zd,reduceCtorEq,zd,ze,zb,zf,za]
 simp only [ZZ,WW,Zd,reduceCtorEq,zd,ze,zb,zf,za,qay]
 refine qad (fun n fr L=>∃ (k:Nat),k≤l.length∧n=l.length - k∧(l.find? (fun r=>decide (r.id=s))=(l.drop k).find? (fun r=>decide (r.id=s)))∧fr=(oo::.p (.str s)::oo::oo::.adr (.l 4) 0::oo::oo::.p (.sl 3 (rlE l))::.p (int (l.length:Nat))::.p (int (k:Nat))::oD (oB (oo::[])))∧L=[(.l 4,.box [.p (.str []),.p (int 0),.p (.nl 2)] 76)]) (l.length) _ _ (by simp only [ZZ,WW,Zd,reduceCtorEq,zd,ze,zb,zf,za,qay];try trivial) (by (simp only [ZZ,WW,Zd,reduceCtorEq,zd,ze,zb,zf,za];try trivial)) ⟨0,by omega,by omega,rfl,rfl,rfl⟩ ?_
 rintro n fr L ⟨k,hk,rfl,hF,rfl,rfl⟩
 simp only [qct,ZZ,WW,Zd,reduceCtorEq,zd,ze,zb,zf,za]
 refine br ?_ ?_
 ·intro h
  have hlt:k < l.length:=by have:=of_decide_eq_true h;omega
  obtain ⟨r,hr⟩:∃ r,l[k]?=some r:=⟨_,zg hlt⟩
  have hg:=qgj hr
  have hd:l.drop k=r :: l.drop (k+1):=by rw [List.drop_eq_getElem_cons hlt,(zt.1 hr).2]
  rw [hd,List.find?_cons] at hF
  simp only [ZZ,WW,Zd,reduceCtorEq,zd,ze,zb,zf,za,hg,qay]
  ((with_reducible and_intros)<;>try exact sc_)
  refine br ?_ ?_
  ·intro h2
   have h3:r.id=s:=by simpa using h2
   rw [decide_eq_true h3] at hF
   refine zS ?_
   refine ⟨_,_,_,rfl,?_⟩
   unfold qnf rlOf
   rw [hF]
   rfl
  ·intro h2
   have h3:¬ r.id=s:=by simpa using h2
   rw [decide_eq_false h3] at hF
   refine zS ?_
   ((with_reducible and_intros)<;>try exact sc_)
   refine qac (l.length - (k+1)) _ _ (by omega) (by (simp only [ZZ,WW,Zd,reduceCtorEq,zd,ze,zb,zf,za];try trivial)) (by (simp only [ZZ,WW,Zd,reduceCtorEq,zd,ze,zb,zf,za];try trivial)) ⟨k+1,by omega,rfl,hF,rfl,rfl⟩
 intro h
 have hge:l.length≤k:=by have:=of_decide_eq_false h;omega
 rw [List.drop_eq_nil_of_le hge] at hF
 refine zS ?_
 refine ⟨_,_,_,rfl,?_⟩
 unfold qnf rlOf
 rw [hF]
 rfl
theorem qxn (l:List Rul) (hl:l.length≤1000000) (s:List UInt8):PCall Tryz.prog E 85 [.str s,.ptr [.sl 3 (rlE l)]] (·=.bool (qnf l s)):=by
 refine qae mixed Tryz.func85 qjm ?_
 simp only [a0,l0,OS.ao,zk,zr,zi,zo,zl,zm,zu,zd,zh,zj,qe0,qeM,ZZ,WW,Zd,reduceCtorEq,zd,ze,zb,zf,za]
 refine use (qsl l hl s) rfl (.inl rfl) ?_
 rintro _ ⟨i,w,v,rfl,h⟩
 refine zS ?_
 exact congrArg PV.bool h
theorem qAX {il:List Itm} (hP:qaP il) {order:Int} (ho:order=1∨order=2∨order=3) (s t:List UInt8) (a b:List (List PV)):PCall Tryz.prog E 88 [.agg [.str s,.sl 1 a],.agg [.str t,.sl 1 b],.ptr [.sl 7 (itE il)],.ptr [int order]] (·=int (cfR il order s t)):=by
 rw [cfR,cf3]
 unfold whoC qzk
 have i1:=qlV (E:=E) il hP s
 have i2:=qlV (E:=E) il hP t
 simp only [itC] at i1 i2
 generalize itOf il s=x at *
 generalize itOf il t=y at *
 generalize (getI il s).isSome=b1 at *
 generalize (getI il t).isSome=b2 at *
 have e12:decide ((1:Int)=2)=false:=rfl
 have e21:decide ((2:Int)=1)=false:=rfl
 have e31:decide ((3:Int)=1)=false:=rfl
 have e32:decide ((3:Int)=2)=false:=rfl
 rcases ho with rfl|rfl|rfl
 ·skip
  refine qae mixed Tryz.func88 qcJ ?_
  simp only [a0,l0,OS.ao,zk,zr,zi,zo,zl,zm,zu,zd,zh,zj,qbt,qbr,ZZ,WW,Zd,reduceCtorEq,zd,ze,zb,zf,za]
  refine use1 i1 rfl (.inl rfl) ?_
  refine zS ?_
  refine use1 i2 rfl (.inl rfl) ?_
  refine zS ?_
  refine ⟨[int (Lib.compareBytes x.2.1 y.2.1),int (sgnC x.2.2.2.2.1 y.2.2.2.2.1)],?_⟩
  refine zS ?_
  refine ⟨usep (qa9 x.2.1 y.2.1) rfl (.inl rfl),usep (qlw x.2.2.2.2.1 y.2.2.2.2.1) rfl (.inl rfl),?_⟩
  simp only [ZZ,WW,Zd,reduceCtorEq,zd,ze,zb,zf,za,e12,e21,e31,e32,decide_true,decide_false]
  refine qa1 _ _ ReOk.refl ?_
  refine zS ?_
  refine use1 (qa9 s t) rfl (.inl rfl) ?_
  refine zS ?_
  refine use1 (qph [0,0,Lib.compareBytes s t] (by simp)) rfl (.inl rfl) ?_
  refine zS ?_
  rfl
 ·skip
  refine qae mixed Tryz.func88 qcJ ?_
  simp only [a0,l0,OS.ao,zk,zr,zi,zo,zl,zm,zu,zd,zh,zj,qbt,qbr,ZZ,WW,Zd,reduceCtorEq,zd,ze,zb,zf,za]
  refine use1 i1 rfl (.inl rfl) ?_
  refine zS ?_
  refine use1 i2 rfl (.inl rfl) ?_
  refine zS ?_
  refine ⟨[int (Lib.compareBytes x.2.1 y.2.1),int (sgnC x.2.2.2.2.1 y.2.2.2.2.1)],?_⟩
  refine zS ?_
  refine ⟨usep (qa9 x.2.1 y.2.1) rfl (.inl rfl),usep (qlw x.2.2.2.2.1 y.2.2.2.2.1) rfl (.inl rfl),?_⟩
  simp only [ZZ,WW,Zd,reduceCtorEq,zd,ze,zb,zf,za,e12,e21,e31,e32,decide_true,decide_false]
  refine qa1 _ _ ReOk.refl ?_
  refine zS ?_
  refine use1 (qa9 s t) rfl (.inl rfl) ?_
  refine zS ?_
  refine use1 (qph [0,sgnC x.2.2.2.2.1 y.2.2.2.2.1,Lib.compareBytes s t] (by simp)) rfl (.inl rfl) ?_
  refine zS ?_
  rfl
 ·skip
  refine qae mixed Tryz.func88 qcJ ?_
  simp only [a0,l0,OS.ao,zk,zr,zi,zo,zl,zm,zu,zd,zh,zj,qbt,qbr,ZZ,WW,Zd,reduceCtorEq,zd,ze,zb,zf,za]
  refine use1 i1 rfl (.inl rfl) ?_
  refine zS ?_
  refine use1 i2 rfl (.inl rfl) ?_
  refine zS ?_
  refine ⟨[int (Lib.compareBytes x.2.1 y.2.1),int (sgnC x.2.2.2.2.1 y.2.2.2.2.1)],?_⟩
  refine zS ?_
  refine ⟨usep (qa9 x.2.1 y.2.1) rfl (.inl rfl),usep (qlw x.2.2.2.2.1 y.2.2.2.2.1) rfl (.inl rfl),?_⟩
  simp only [ZZ,WW,Zd,reduceCtorEq,zd,ze,zb,zf,za,e12,e21,e31,e32,decide_true,decide_false]
  refine qa1 _ _ ReOk.refl ?_
  refine zS ?_
  refine use1 (qa9 s t) rfl (.inl rfl) ?_
  refine zS ?_
  refine use1 (qph [Lib.compareBytes x.2.1 y.2.1,sgnC x.2.2.2.2.1 y.2.2.2.2.1,Lib.compareBytes s t] (by simp)) rfl (.inl rfl) ?_
  refine zS ?_
  rfl
set_option maxHeartbeats 4000000 in
theorem qs8 (il:List Itm) (hP:qaP il) (h12:il.length≤12) (l:List Rul) (hl:l.length≤1000000) (order:Int) (ho:order=1∨order=2∨order=3):PCall Tryz.prog E 26 [.sl 7 (itE il),.sl 3 (rlE l),int order] (·=.sl 2 ((chS il l order).map (encF il))):=by
 have hFO:=qqA (E:=E) il hP h12
 have hfe:(famF il).map fmC=(topsF il).map (encF il):=qx8 il
 rw [hfe] at hFO
 have hTl:(topsF il).length≤12:=zT (qbF il []) h12
 refine qae mixed Tryz.func26 qkq ?_
 simp only [a0,l0,OS.ao,zk,zr,zi,zo,zl,zm,zu,zd,zh,zj,qgb,qfT,ZZ,WW,Zd,reduceCtorEq,zd,ze,zb,zf,za]
 rw [qa6]
 refine ⟨_,_,ReOk.trans (qiM (k:=.l 3) (cs:=[.sl 7 (itE il)]) rfl) (ReOk.trans (qiM (k:=.l 4) (cs:=[.sl 3 (rlE l)]) rfl) (qiM (k:=.l 5) (cs:=[int order]) rfl)),?_⟩
 refine zS ?_
 refine use1 hFO rfl (.inl rfl) ?_
 simp only [ZZ,WW,Zd,reduceCtorEq,zd,ze,zb,zf,za,zB]
 refine qad (fun n fr L=>∃ (k:Nat) (w:List (List PV)),k≤(topsF il).length∧n=(topsF il).length - k∧(w=(((topsF il).take k).filter (fun s=>(s :: kidsF il s).any (qnf l))).map (encF il))∧fr=(oo::oo::oo::.p (.ptr [.sl 7 (itE il)])::.p (.ptr [.sl 3 (rlE l)])::.p (.ptr [int order])::oo::.row (.l 7)::oo::oo::oo::.p (.sl 2 ((topsF il).map (encF il)))::.p (int ((topsF il).length:Nat))::.p (int (k:Nat))::oE [])∧L=[(.l 7,.row w 119 2 true)]) ((topsF il).length) _ _ (by simp only [ZZ,WW,Zd,reduceCtorEq,zd,ze,zb,zf,za,zB];try trivial) (by (simp only [ZZ,WW,Zd,reduceCtorEq,zd,ze,zb,zf,za];try trivial)) ⟨0,[],by omega,by omega,rfl,rfl,rfl⟩ ?_
 rintro n fr L ⟨k,w,hk,rfl,hw,rfl,rfl⟩
 simp only [qes,ZZ,WW,Zd,reduceCtorEq,zd,ze,zb,zf,za]
 refine br ?_ ?_
 ·intro h
  have hlt:k < (topsF il).length:=by have:=of_decide_eq_true h;omega
  obtain ⟨x,hx⟩:∃ x,(topsF il)[k]?=some x:=⟨_,zg hlt⟩
  have hg:((topsF il).map (encF il)).getD k []=[.str x,.sl 1 (strE (x :: kidsF il x))]:=qas hx
  have htk:(topsF il).take (k+1)=(topsF il).take k++[x]:=by rw [zy hlt,(zt.1 hx).2]
  have hwl:w.length≤12:=by
   rw [hw,zB]
   refine zT (List.length_filter_le _ _) ?_
   rw [zP]
   omega
  have hkl:(kidsF il x).length≤12:=zT (qbF il x) h12
  have hc:=qeh (E:=E) (x :: kidsF il x) 85 [.ptr [.sl 3 (rlE l)]] (qnf l) (by simp;omega) (fun _=>by kernel_rfl) rfl (fun y _=>qxn l hl y) (fun _=>rfl) (fun _=>rfl)
  simp only [ZZ,WW,Zd,reduceCtorEq,zd,ze,zb,zf,za,hg,zB]
  ((with_reducible and_intros)<;>try exact sc_)
  refine use1 hc rfl (.inr rfl) ?_
  refine zS ?_
  refine br ?_ ?_
  ·intro h2
   refine zS ?_
   ((with_reducible and_intros)<;>try exact sc_)
   refine qa1 _ _ ReOk.refl ?_
   refine zS ?_
   ((with_reducible and_intros)<;>try exact sc_)
   refine qac ((topsF il).length - (k+1)) _ _ (by omega) (by (simp only [ZZ,WW,Zd,reduceCtorEq,zd,ze,zb,zf,za];try trivial)) (by (simp only [ZZ,WW,Zd,reduceCtorEq,zd,ze,zb,zf,za];try trivial)) ⟨k+1,w++[[.str x,.sl 1 (strE (x :: kidsF il x))]],by omega,rfl,by rw [htk,List.filter_append,zO,← hw,List.filter_cons,if_pos h2];rfl,rfl,rfl⟩
  ·intro h2
   refine zS ?_
   ((with_reducible and_intros)<;>try exact sc_)
   refine qa1 _ _ ReOk.refl ?_
   refine zS ?_
   ((with_reducible and_intros)<;>try exact sc_)
   refine qac ((topsF il).length - (k+1)) _ _ (by omega) (by (simp only [ZZ,WW,Zd,reduceCtorEq,zd,ze,zb,zf,za];try trivial)) (by (simp only [ZZ,WW,Zd,reduceCtorEq,zd,ze,zb,zf,za];try trivial)) ⟨k+1,w,by omega,rfl,by rw [htk,List.filter_append,zO,← hw,List.filter_cons,if_neg (by rw [h2];simp)];simp,rfl,rfl⟩
 intro h
 have hge:(topsF il).length≤k:=by have:=of_decide_eq_false h;omega
 rw [zC hge] at hw
 have hw:w=(chT il l).map fun s=>[PV.str s,.sl 1 (strE (s :: kidsF il s))]:=hw
 subst hw
 refine zS ?_
 refine useR (qow (fun s=>s) (fun s=>strE (s :: kidsF il s)) (cfR il order) (by rw [← qwx];exact (qom il order).ord) 88 [.ptr [.sl 7 (itE il)],.ptr [int order]] (fun _=>by kernel_rfl) (chT il l) (zT (zT (List.length_filter_le _ _) (qbF il [])) h12) (fun s _ t _=>qAX hP ho s t _ _) (fun _ _=>rfl) (fun _ _=>rfl)) rfl rfl rfl zE_ ?_
 rintro _ _ ⟨rfl,o,rfl,hp,hs⟩
 rw [← qwx] at hs
 have hoe:=qt3 hp hs
 subst hoe
 refine zS ?_
 rw [qa6]
 refine ⟨_,_,ReOk.refl,?_⟩
 refine zS ?_
 rfl
end
def qer:IC:=(sR [qT 15 .lss 14 13] (.seq (.cond (.t 15) .skip (.exit 0)) (.seq (.block 1 (sR [qM 16 14,qX 17 1 12 14,qL 18 17,qM 6 16,qM 7 18] (sR [qM 19 7,qM 20 19,⟨some 21,.mov (.t 5),(some (20,true))⟩,⟨some 22,.mov (.t 6),(some (20,true))⟩,⟨some 23,.ixa 1 (.t 21) (.t 22),(some (20,true))⟩,⟨some 24,.ld 1 false (.t 23),(some (20,true))⟩,⟨some 25,.bin .neq (.t 24) (.c (.int .u8 32)),(some (20,true))⟩,qO 26 (.pick (.t 20) (.t 25) (.c (.bool false))),qM 27 26,⟨some 28,.mov (.t 5),(some (27,true))⟩,⟨some 29,.mov (.t 6),(some (27,true))⟩,⟨some 30,.ixa 1 (.t 28) (.t 29),(some (27,true))⟩,⟨some 31,.ld 1 false (.t 30),(some (27,true))⟩,⟨some 32,.bin .neq (.t 31) (.c (.int .u8 10)),(some (27,true))⟩,qO 33 (.pick (.t 27) (.t 32) (.c (.bool false)))] (.cond (.t 33) (.reg [qM 34 5,qM 35 6,qX 36 1 34 35,⟨none,.st 1 (.t 36) (.c (.int .u8 35)),none⟩]) .skip)))) (.cut (.reg [qB 37 .add 14 (cI 1),qM 14 37])))))
def qga:IC:=(sR [qO 4 (.mov (.c (.str [])))] (sR [qM 8 0,qO 9 (.s2b 5 (.t 8)),qM 5 9] (.seq (sR [qM 10 0,qM 11 1,qO 12 (.call 202 [.t 10,.t 11]),qN 13 12,qO 14 (.mov (cI 0))] (.block 0 (.loop qer))) (sR [qM 38 5,qO 39 (.b2s (.t 38)),qM 4 39] .ret))))
def qfS:List IRes:=[.t 4]
theorem qkp:chkF Tryz.prog Tryz.f126 qga qfS 40=true:=by kernel_rfl
section
theorem qs4 (s:List UInt8) (l:List (Int×Int)) (hs:s.length≤1000000) (hl:l.length≤1000000) (hv:Lib.validD s=true) (hb:∀ p∈l,0≤p.1∧p.1 < p.2∧p.2≤s.length) :
  PCall Tryz.prog E0 126 [.str s,sps l] (·=.str (qbU s l)):=by
 refine qae mixed Tryz.func126 qkp ?_
 simp only [a0,l0,OS.ao,zk,zr,zi,zo,zl,zm,zu,zd,zh,zj,qga,qfS,ZZ,WW,Zd,reduceCtorEq,zd,ze,zb,zf,za]
 ((with_reducible and_intros)<;>try exact sc_)
 refine useF (qrA s l hs hl hv hb) rfl rfl ?_
 rintro es rfl
 have hrf:qbU s l=(zE s.length).map (redG s fun j=>decide (j < s.length) && cov (qbV s l) j):=zQ fun j hj=>by
  simp only [List.mem_range] at hj
  simp [redG,hj]
 rw [hrf]
 generalize cov (qbV s l)=C at *
 rw [qCt]
 simp only [ZZ,WW,Zd,reduceCtorEq,zd,ze,zb,zf,za,qm9,qi3]
 refine qad (fun n fr L=>∃ (k:Nat) (g:Nat→UInt8),k≤s.length∧n=s.length - k∧(g=redG s (fun j=>decide (j < k) && C j))∧fr=(oC (oo::(.row (.l 9)::oC (oB (.row (.l 12)::.p (int (s.length:Nat))::.p (int (k:Nat))::oE (oD (oo::[])))))))∧L=[(.l 9,.row (bU s.length g) 5 1 false),(.l 12,.row (bl (tab s.length C)) 4 1 true)]) (s.length) _ _ (by (simp only [ZZ,WW,Zd,reduceCtorEq,zd,ze,zb,zf,za];try trivial)) (by (simp only [ZZ,WW,Zd,reduceCtorEq,zd,ze,zb,zf,za];try trivial)) ⟨0,fun j=>s.getD j 0,by omega,by omega,by funext j;simp [redG],rfl,rfl⟩ ?_
 rintro n fr L ⟨k,g,hk,rfl,hg,rfl,rfl⟩
 simp only [qer,ZZ,WW,Zd,reduceCtorEq,zd,ze,zb,zf,za]
 refine br ?_ ?_
 ·intro h
  have hlt:k < s.length:=by have:=of_decide_eq_true h;omega
  have hgi:(bU s.length g).getD k []=[.int .u8 ((g k).toNat:Nat)]:=qzi hlt
  have hbl:=qzh s.length g
  have hset:(bU s.length g).set k [.int .u8 35]=bU s.length (fun j=>if j=k then 35 else g j):=qzg (35:UInt8)
  simp only [ZZ,WW,Zd,reduceCtorEq,zd,ze,zb,zf,za,qm9,qi3,qwE hlt,hgi,hbl]
  ((with_reducible and_intros)<;>try exact sc_)
  refine br ?_ ?_
  ·intro hc
   simp only [Bool.and_eq_true,Bool.not_eq_true'] at hc
   have hb:qgQ (g k)=false:=by simp [qgQ,hc.1.2,hc.2]
   have hnx:=qvn (s:=s) (i:=k) (by rw [← hg];exact hb)
   have hm:(fun j=>decide (j < k) && C j || decide (j=k))=(fun j=>decide (j < k+1) && C j):=by
    funext j
    by_cases hj:j=k
    ·subst hj;simp [hc.1.1]
    ·simp only [hj,decide_false,Bool.or_false]
     congr 1
     simp only [decide_eq_decide]
     omega
   rw [← hg,hm] at hnx
   simp only [ZZ,WW,Zd,reduceCtorEq,zd,ze,zb,zf,za,hgi,hbl,hset,hnx]
   ((with_reducible and_intros)<;>try exact sc_)
   refine qal zE_ ?_
   refine zS ?_
   ((with_reducible and_intros)<;>try exact sc_)
   refine qac (s.length - (k+1)) _ _ (by omega) (by (simp only [ZZ,WW,Zd,reduceCtorEq,zd,ze,zb,zf,za];try trivial)) (by (simp only [ZZ,WW,Zd,reduceCtorEq,zd,ze,zb,zf,za];try trivial)) ⟨k+1,redG s (fun j=>decide (j < k+1) && C j),by omega,rfl,rfl,rfl,rfl⟩
  ·intro hc
   have hnx:g=redG s (fun j=>decide (j < k+1) && C j):=by
    cases hck:C k with
    |false=>
     rw [hg]
     congr 1
     funext j
     by_cases hj:j=k
     ·subst hj;simp [hck]
     ·congr 1
      simp only [decide_eq_decide]
      omega
    |true=>
     rw [hck] at hc
     have hb:qgQ (g k)=true:=by
      simp only [Bool.true_and,Bool.and_eq_false_iff,Bool.not_eq_false'] at hc
      rcases hc with hc|hc<;>simp [qgQ,hc]
     have hnx:=qtw (s:=s) (i:=k) (by rw [← hg];exact hb)
     have hm:(fun j=>decide (j < k) && C j || decide (j=k))=(fun j=>decide (j < k+1) && C j):=by
      funext j
      by_cases hj:j=k
      ·subst hj;simp [hck]
      ·simp only [hj,decide_false,Bool.or_false]
       congr 1
       simp only [decide_eq_decide]
       omega
     rw [hm] at hnx
     rw [hg]
     exact hnx
   refine zS ?_
   refine qal zE_ ?_
   refine zS ?_
   ((with_reducible and_intros)<;>try exact sc_)
   refine qac (s.length - (k+1)) _ _ (by omega) (by (simp only [ZZ,WW,Zd,reduceCtorEq,zd,ze,zb,zf,za];try trivial)) (by (simp only [ZZ,WW,Zd,reduceCtorEq,zd,ze,zb,zf,za];try trivial)) ⟨k+1,g,by omega,rfl,hnx,rfl,rfl⟩
 ·intro h
  have hge:k=s.length:=by have:=of_decide_eq_false h;omega
  subst hge
  simp only [ZZ,WW,Zd,reduceCtorEq,zd,ze,zb,zf,za,qt4]
  rw [hg]
end
def qfW:IC:=(.seq (sR [qM 30 0,qM 31 4,qO 32 (.idx (.t 30) (.t 31)),qB 33 .shr 32 (.c (.int .u64 6)),qB 34 .eql 33 (.c (.int .u8 2))] (.cond (.t 34) .skip (.exit 2))) (.block 3 (.reg [qM 35 4,qB 36 .sub 35 (cI 1),qM 4 36])))
def qfX:IC:=(.seq (sR [qM 5 0,qO 6 (.sln (.t 5)),qB 7 .gtr 6 (cI 80)] (.cond (.t 7) .skip (.exit 0))) (.block 1 (sR [qM 8 0,qO 9 (.ssl (.t 8) none (some (cI 81))),qO 10 (.call 337 [.t 9,.c (.int .u8 32)]),qM 4 10] (.seq (sR [qM 11 4,qB 12 .gtr 11 (cI 0),qM 13 12,⟨some 14,.mov (.t 0),(some (13,true))⟩,⟨some 15,.mov (.t 4),(some (13,true))⟩,⟨some 16,.ssl (.t 14) none (some (.t 15)),(some (13,true))⟩,⟨some 17,.call 155 [.t 16,.c (.str [32])],(some (13,true))⟩,⟨some 18,.bin .neq (.t 17) (.c (.str [])),(some (13,true))⟩,qO 19 (.pick (.t 13) (.t 18) (.c (.bool false)))] (.cond (.t 19) (.seq (.drg [qM 20 3,qM 21 0,qM 22 4,qO 23 (.ssl (.t 21) none (some (.t 22))),qO 24 (.bsl 1 [.t 23]),qO 25 (.app 9 1 16 (.t 20) (.t 24)),qM 26 0,qM 27 4,qB 28 .add 27 (cI 1),qO 29 (.ssl (.t 26) (some (.t 28)) none),qM 3 25,qM 0 29]) (.exit 1)) .skip)) (sR [qO 4 (.mov (cI 80))] (.seq (.block 2 (.loop qfW)) (.drg [qM 37 3,qM 38 0,qM 39 4,qO 40 (.ssl (.t 38) none (some (.t 39))),qO 41 (.bsl 1 [.t 40]),qO 42 (.app 9 1 16 (.t 37) (.t 41)),qM 43 0,qM 44 4,qO 45 (.ssl (.t 43) (some (.t 44)) none),qM 3 42,qM 0 45])))))))
def qh0:IC:=(sR [qO 2 (.mov (.c (.nl 1)))] (sR [qO 3 (.nilr 9 1)] (.seq (.block 0 (.loop qfX)) (sR [qM 46 3,qM 47 0,qO 48 (.bsl 1 [.t 47]),qO 49 (.app 9 1 16 (.t 46) (.t 48)),qM 2 49] .ret))))
def qhL:List IRes:=[.t 2]
theorem ql8:chkF Tryz.prog Tryz.f311 qh0 qhL 50=true:=by kernel_rfl
def wr (l:List UInt8):SRow:=wrF l.length l
theorem quR:∀ (n:Nat) (l:List UInt8),NcP l→l.length≤n→wrF n l=wr l:=by
 have key:∀ (N n m:Nat) (l:List UInt8),NcP l→l.length≤N→l.length≤n→l.length≤m→wrF n l=wrF m l:=by
  intro N
  induction N with
  |zero=>
   intro n m l _ h _ _
   rw [qjR (by omega),qjR (by omega)]
  |succ N ih=>
   intro n m l hn h h1 h2
   by_cases h80:80 < l.length
   ·obtain ⟨a,rfl⟩:∃ a,n=a+1:=⟨n - 1,by omega⟩
    obtain ⟨b,rfl⟩:∃ b,m=b+1:=⟨m - 1,by omega⟩
    have g:=qnJ hn h80
    have e1:=ih a b (l.drop ((liW l).toNat+1)) (qi8 hn _) (by rw [z8];omega) (by rw [z8];omega) (by rw [z8];omega)
    have e2:=ih a b (l.drop (qaM l 80)) (qi8 hn _) (by rw [z8];omega) (by rw [z8];omega) (by rw [z8];omega)
    rw [wrF,wrF,e1,e2]
   ·rw [qjR (by omega),qjR (by omega)]
 intro n l h0 h
 exact key l.length n l.length l h0 (zM _) h (zM _)
theorem qtd {l:List UInt8} (h:l.length≤80):wr l=[l]:=qjR h
theorem qyU {l:List UInt8} (hn:NcP l) (h:80 < l.length) (hb:brkB l=true):wr l=l.take (liW l).toNat :: wr (l.drop ((liW l).toNat+1)):=by
 obtain ⟨a,ha⟩:∃ a,l.length=a+1:=⟨l.length - 1,by omega⟩
 have:wr l=wrF (a+1) l:=by rw [wr,ha]
 rw [this,wrF,if_pos h,if_pos hb,quR a _ (qi8 hn _) (by rw [z8];omega)]
theorem qyT {l:List UInt8} (hn:NcP l) (h:80 < l.length) (hb:brkB l=false):wr l=l.take (qaM l 80) :: wr (l.drop (qaM l 80)):=by
 obtain ⟨a,ha⟩:∃ a,l.length=a+1:=⟨l.length - 1,by omega⟩
 have:wr l=wrF (a+1) l:=by rw [wr,ha]
 have g:=qnJ hn h
 rw [this,wrF,if_pos h,if_neg (by rw [hb];simp),quR a _ (qi8 hn _) (by rw [z8];omega)]
theorem qBm (l:List UInt8):(wr l).length≤l.length+1:=qpj _ _
theorem qvX (l:List UInt8):liW l=liF (l.take 81) 32:=rfl
theorem qy5 {l:List UInt8} (h:80 < l.length):-1≤liW l∧liW l < 81:=by
 rw [qvX]
 have hl:(l.take 81).length=81:=by rw [zP];omega
 rcases qB9 (l.take 81) 32 with ⟨h1,h2⟩|⟨h1,h2⟩
 ·rw [hl] at h2;exact ⟨h1,h2⟩
 ·rw [h2];omega
theorem shr6:∀ n:Fin 256,decide ((((UInt8.ofNat n.val).toNat:Nat):Int).fdiv (2 ^ min (Int.toNat 6) IntKind.u8.bits)=2)=ctB (UInt8.ofNat n.val):=by decide +kernel
theorem qCG (c:UInt8):decide (((c.toNat:Nat):Int).fdiv (2 ^ min (Int.toNat 6) IntKind.u8.bits)=2)=ctB c:=by
 have:=shr6 ⟨c.toNat,c.toNat_lt⟩
 simp only [UInt8.ofNat_toNat] at this
 exact this
theorem qrH {s:List UInt8} {k:Nat} (hk:qaM s k=qaM s 80) (hl:k < s.length) (h0:0 < k) (h:ctB (s.getD k 0)=false):k=qaM s 80:=by
 obtain ⟨g,rfl⟩:∃ g,k=g+1:=⟨k - 1,by omega⟩
 rw [← hk,qaM,if_neg (by rw [qp4 hl,h];simp)]
theorem qwJ {s:List UInt8} {k:Nat} (hk:qaM s (k+1)=qaM s 80) (hl:k+1 < s.length) (h:ctB (s.getD (k+1) 0)=true):qaM s k=qaM s 80:=by
 rw [← hk,qaM,if_pos (by rw [qp4 hl,h])]
set_option maxHeartbeats 4000000 in
theorem que (s0:List UInt8) (hs:s0.length≤1000000) (hn:NcP s0):FCall Tryz.prog E0 311 [.str s0] tStr 1 (·=strE (wr s0)):=by
 unfold FCall
 refine qio mixed Tryz.func311 ql8 ?_
 simp only [a0,l0,OS.ao,zk,zr,zi,zo,zl,zm,zu,zd,zh,zj,qh0,qhL,ZZ,WW,Zd,reduceCtorEq,zd,ze,zb,zf,za]
 have hR0:([]:List (List PV))=strE []:=rfl
 rw [hR0]
 refine qad (fun n fr L=>∃ (R:SRow) (s:List UInt8),s.length=n∧(R++wr s=wr s0)∧(s.length≤s0.length)∧(NcP s)∧fr=(.p (.str s)::oo::oo::.row (.l 3)::oF (oD (oC (oB []))))∧L=[(.l 3,.row (strE R) tStr 1 true)]) (s0.length) (.p (.str s0)::oo::oo::.row (.l 3)::oF (oD (oC (oB [])))) [(.l 3,.row (strE []) tStr 1 true)] (by (simp only [ZZ,WW,Zd,reduceCtorEq,zd,ze,zb,zf,za];try trivial)) (by (simp only [ZZ,WW,Zd,reduceCtorEq,zd,ze,zb,zf,za];try trivial)) ⟨[],s0,rfl,rfl,zM _,hn,rfl,rfl⟩ ?_
 rintro n fr L ⟨R,s,rfl,hR,hsl,hns,rfl,rfl⟩
 simp only [qfX,ZZ,WW,Zd,reduceCtorEq,zd,ze,zb,zf,za]
 have hRl:R.length≤2000000:=by
  have h1:=congrArg List.length hR
  have h2:=qBm s0
  rw [zK] at h1
  omega
 refine br ?_ ?_
 ·intro h
  have h80:80 < s.length:=by have:=of_decide_eq_true h;omega
  have hlw:=qy5 h80
  have e81:(81:Int).toNat=81:=rfl
  simp only [ZZ,WW,Zd,reduceCtorEq,zd,ze,zb,zf,za,e81]
  ((with_reducible and_intros)<;>try exact sc_)
  refine use1 (qnu (s.take 81) 32 (by rw [zP];omega)) rfl (.inl rfl) ?_
  rw [← qvX]
  refine zS ?_
  ((with_reducible and_intros)<;>try exact sc_)
  refine useG (fun hg=>qgZ (s.take (liW s).toNat) [32] (by rw [zP];omega) (by simp) rfl) rfl (.inl rfl) ?_
  refine zS ?_
  ((with_reducible and_intros)<;>try exact sc_)
  refine br ?_ ?_
  ·intro hb
   have hbk:brkB s=true:=hb
   have h0:0 < liW s:=of_decide_eq_true (Bool.and_eq_true_iff.1 hb).1
   rw [qyU hns h80 hbk] at hR
   refine zS ?_
   refine drg0 ?_
   have e1:(liW s+1).toNat=(liW s).toNat+1:=by omega
   have hdl:(s.drop ((liW s).toNat+1)).length < s.length:=by rw [z8];omega
   have hst:strE R++[[PV.str (s.take (liW s).toNat)]]=strE (R++[s.take (liW s).toNat]):=by simp [strE]
   simp only [ZZ,WW,Zd,reduceCtorEq,zd,ze,zb,zf,za,qag,List.take_length,e1]
   ((with_reducible and_intros)<;>try exact sc_)
   rw [hst]
   refine qac ((s.drop ((liW s).toNat+1)).length) (.p (.str (s.drop ((liW s).toNat+1)))::oo::oo::.row (.l 3)::oF (oD (oC (oB [])))) [(.l 3,.row (strE (R++[s.take (liW s).toNat])) tStr 1 true)] (by omega) (by (simp only [ZZ,WW,Zd,reduceCtorEq,zd,ze,zb,zf,za];try trivial)) (by (simp only [ZZ,WW,Zd,reduceCtorEq,zd,ze,zb,zf,za];try trivial)) ⟨R++[s.take (liW s).toNat],s.drop ((liW s).toNat+1),rfl,by rw [ym];exact hR,by omega,qi8 hns _,rfl,rfl⟩
  ·intro hb
   have hbk:brkB s=false:=hb
   rw [qyT hns h80 hbk] at hR
   obtain ⟨g1,g2⟩:=qnJ hns h80
   refine zS ?_
   refine qad (fun n fr L=>∃ (k:Nat),k=n∧(qaM s k=qaM s 80)∧(qaM s 80≤k)∧(k≤80)∧fr=(.p (.str s)::oo::oo::.row (.l 3)::.p (int (k:Nat))::oF (oD (oC (oo::[]))))∧L=[(.l 3,.row (strE R) tStr 1 true)]) (80) (.p (.str s)::oo::oo::.row (.l 3)::.p (int (80:Nat))::oF (oD (oC (oo::[])))) [(.l 3,.row (strE R) tStr 1 true)] (by (simp only [ZZ,WW,Zd,reduceCtorEq,zd,ze,zb,zf,za];try trivial)) (by (simp only [ZZ,WW,Zd,reduceCtorEq,zd,ze,zb,zf,za];try trivial)) ⟨80,rfl,rfl,qmn s 80,zM _,rfl,rfl⟩ ?_
   rintro n fr L ⟨k,rfl,hk,hk2,hk3,rfl,rfl⟩
   simp only [qfW,ZZ,WW,Zd,reduceCtorEq,zd,ze,zb,zf,za]
   rw [qCG]
   refine ⟨⟨by omega,by omega⟩,by omega,?_⟩
   refine br ?_ ?_
   ·intro hc
    have hkb:qaM s 80 < k:=by
     rcases Nat.lt_or_eq_of_le hk2 with h1|h1
     ·exact h1
     ·rw [← h1,g2] at hc;cases hc
    obtain ⟨g,rfl⟩:∃ g,k=g+1:=⟨k - 1,by omega⟩
    have hgg:((g+1:Nat):Int) - 1=(g:Nat):=by omega
    simp only [ZZ,WW,Zd,reduceCtorEq,zd,ze,zb,zf,za,hgg]
    ((with_reducible and_intros)<;>try exact sc_)
    refine qac ((g)) _ _ (by omega) (by (simp only [ZZ,WW,Zd,reduceCtorEq,zd,ze,zb,zf,za];try trivial)) (by (simp only [ZZ,WW,Zd,reduceCtorEq,zd,ze,zb,zf,za];try trivial)) ⟨g,rfl,qwJ hk (by omega) hc,by omega,by omega,rfl,rfl⟩
   ·intro hc
    have hkn:=qrH hk (by omega) (by omega) hc
    subst hkn
    have hdl:(s.drop (qaM s 80)).length < s.length:=by rw [z8];omega
    have hst:strE R++[[PV.str (s.take (qaM s 80))]]=strE (R++[s.take (qaM s 80)]):=by simp [strE]
    have e1:((qaM s 80:Nat):Int).toNat=qaM s 80:=by omega
    refine zS ?_
    refine drg0 ?_
    simp only [ZZ,WW,Zd,reduceCtorEq,zd,ze,zb,zf,za,qag,List.take_length,e1]
    ((with_reducible and_intros)<;>try exact sc_)
    rw [hst]
    refine qac ((s.drop (qaM s 80)).length) (.p (.str (s.drop (qaM s 80)))::oo::oo::.row (.l 3)::oF (oD (oC (oB [])))) [(.l 3,.row (strE (R++[s.take (qaM s 80)])) tStr 1 true)] (by omega) (by (simp only [ZZ,WW,Zd,reduceCtorEq,zd,ze,zb,zf,za];try trivial)) (by (simp only [ZZ,WW,Zd,reduceCtorEq,zd,ze,zb,zf,za];try trivial)) ⟨R++[s.take (qaM s 80)],s.drop (qaM s 80),rfl,by rw [ym];exact hR,by omega,qi8 hns _,rfl,rfl⟩
 ·intro h
  have h80:s.length≤80:=by have:=of_decide_eq_false h;omega
  rw [qtd h80] at hR
  have hst:strE R++[[PV.str s]]=strE (R++[s]):=by simp [strE]
  simp only [ZZ,WW,Zd,reduceCtorEq,zd,ze,zb,zf,za,qag]
  ((with_reducible and_intros)<;>try exact sc_)
  exact qle 3 _ rfl rfl (by rw [hst,hR])
end Go.Proofs.YtehfjlpenlffmaaGreatDoor
