import Derived.Test.YtehfjlpenlffmaaGreatDoorZ20
import Derived.Test.YtehfjlpenlffmaaGreatDoorZ18
import Derived.Test.YtehfjlpenlffmaaGreatDoorZ11
import Derived.Test.YtehfjlpenlffmaaGreatDoorZ4
set_option linter.unusedVariables false
set_option linter.unusedSimpArgs false
set_option linter.defProp false
namespace Go.Proofs.YtehfjlpenlffmaaGreatDoor
open Nat renaming reduceSub→zp,reduceAdd→zd,reduceMul→ze,reduceLeDiff→zb,reduceLT→zf,reduceEqDiff→za
open List renaming map_cons→zj,map_nil→zo,length_cons→zi,length_nil→zn,cons_append→zl,nil_append→zm,replicate_succ→zh,replicate_zero→zk
open Go.RowKit
abbrev tFm:Nat:=119
abbrev fWay:Nat:=164
abbrev tStF:Nat:=9
def fmC (f:Fam):List PV:=[.str f.1,.sl 1 (strE f.2)]
def fmA (I:List Fam):List (List AV):=I.map fun f=>[.p (.str f.1),.p (.sl 1 (strE f.2))]
theorem qk2:∀ I:List Fam,Zbb (fmA I)=some (I.map fmC)
 |[]=>rfl
 |f :: r=>by
  have ih:=qk2 r
  simp only [fmA,zj] at ih ⊢
  rw [Zbb,ih]
  rfl
theorem qmI (I:List Fam) (k:Key):(fmA I).map (fun x=>x.map fun y=>AV.kill k y)=fmA I:=by
 unfold fmA
 rw [List.map_map]
 exact List.map_congr_left fun _ _=>rfl
theorem qr6 (I:List Fam) (s:List UInt8):(fmA I++[[.p (.str s),AV.row (.l 64)]]).map (fun x=>x.map fun y=>AV.ren (r1 64 1000) y)=fmA I++[[.p (.str s),AV.row (.l 1000)]]:=by
 rw [List.map_append]
 congr 1
 unfold fmA
 rw [List.map_map]
 exact List.map_congr_left fun _ _=>rfl
theorem qjI (I:List Fam):(fmA I).length=I.length:=by simp [fmA]
theorem qjg (I:List Fam) (x:List AV):(fmA I++[x]).length=I.length+1:=by rw [List.length_append,qjI];rfl
theorem qkn (I:List Fam) (x:List AV):(fmA I++[x]).getD I.length []=x:=by
 rw [List.getD,List.getElem?_append_right (by rw [qjI];exact Nat.le_refl _),qjI,Nat.sub_self]
 rfl
theorem qmH (I:List Fam) (x y:List AV):(fmA I++[x]).set I.length y=fmA I++[y]:=by
 rw [List.set_append_right _ _ (by rw [qjI];exact Nat.le_refl _),qjI,Nat.sub_self]
 rfl
theorem qnU (I:List Fam) (k:Key) (s:List UInt8) (c:AV):(fmA I++[[.p (.str s),c]]).map (fun x=>x.map fun y=>AV.kill k y)=fmA I++[[.p (.str s),c.kill k]]:=by
 rw [List.map_append,qmI];rfl
def FmJ (L:Objs) (k:Nat):Option (List Fam×Fam)→Prop
 |none=>Zas L (.l 6)=some (.rowv (fmA []) tFm 2)
 |some (I,c)=>I.length≤k∧c.2.length≤k∧Zas L (.l 6)=some (.rowv (fmA I++[[.p (.str c.1),.row (.l 1000)]]) tFm 2)∧Zas L (.l 1000)=some (.row (strE c.2) tStF 1 true)
theorem qpR {E:Envt} {fr:List AV} {L:Objs} {I:List Fam} {c:Fam} {x:List (List AV)} (hfr:∀ y,fr.map (·.thaw (.l 1000) y)=fr) (hx:∀ y,x.map (fun c=>c.map (AV.thaw (.l 1000) y))=x) (h1:Zas L (.l 6)=some (.rowv (fmA I++[[.p (.str c.1),.row (.l 1000)]]++x) tFm 2)) (h2:Zas L (.l 1000)=some (.row (strE c.2) tStF 1 true)) {es:List (List PV)} {e z:Nat} {ap:Bool} (h3:Zas L (.l 13)=some (.row es e z ap)) :
  ∃ L',ReOk E fr L fr L'∧Zas L' (.l 6)=some (.rowv (fmA (I++[c])++x) tFm 2)∧Zas L' (.l 13)=some (.row es e z ap):=by
 have hr:=qbV (E:=E) (fr:=fr) h2
 rw [hfr] at hr
 refine ⟨_,hr,?_,?_⟩
 ·rw [qeB,if_neg (by simp),h1,Option.map_some,AO.thaw]
  congr 2
  rw [List.map_append,List.map_append,hx]
  simp [fmA,AV.thaw]
 ·rw [qeB,if_neg (by simp),h3];rfl
def ixK (n k:Nat):List (List PV):=(List.range n).map fun i=>[int ((if i < k then i else 0:Nat):Nat)]
theorem qrU (n k:Nat):(ixK n k).length=n:=by simp [ixK]
theorem qwj {n k:Nat} (h:k < n):(ixK n k).set k [int (k:Nat)]=ixK n (k+1):=by
 apply List.ext_getElem
 ·simp [ixK]
 ·intro i h1 h2
  simp only [ixK,List.length_map,List.length_range,List.length_set] at h1 h2
  rw [List.getElem_set]
  simp only [ixK,List.getElem_map,List.getElem_range]
  by_cases e:k=i
  ·subst e
   rw [if_pos rfl,if_pos (by omega)]
  ·rw [if_neg e]
   by_cases e2:i < k
   ·rw [if_pos e2,if_pos (by omega)]
   ·rw [if_neg e2,if_neg (by omega)]
theorem qtD (n:Nat):List.replicate n [int 0]=ixK n 0:=by simp [ixK,List.map_const']
theorem qwk (n:Nat):ixK n n=(List.range n).map fun i=>[int ((i:Nat):Int)]:=by
 unfold ixK
 refine List.map_congr_left fun i hi=>?_
 rw [List.mem_range] at hi
 rw [if_pos hi]
section
variable {E:Envt}
set_option maxHeartbeats 4000000 in
theorem qna (il:List Itm) (hP:qbE il) (h12:il.length≤12):PCall Tryz.prog E 83 [.sl 7 (itE il)] (·=.sl 2 ((famF il).map fmC)):=by
 refine qag mixed Tryz.func83 qg8 ?_
 simp only [a0,l0,OS.ao,zj,zo,zi,zn,zl,zm,zp,zd,zh,zk,qd2,qdS,ZZ,WW,Ze,reduceCtorEq,zd,ze,zb,zf,za]
 rw [qa9]
 refine ⟨_,_,qit (k:=.l 1) (cs:=[.sl 7 (itE il)]) rfl,?_⟩
 simp only [ZZ,WW,Ze,reduceCtorEq,zd,ze,zb,zf,za,qan]
 ((repeat' (with_reducible apply And.intro))<;>try ((exact sc_)))
 rw [qa9]
 refine ⟨_,_,qit (k:=.l 3) (cs:=[.clo 164 [.ptr [.sl 7 (itE il)]]]) rfl,?_⟩
 simp only [ZZ,WW,Ze,reduceCtorEq,zd,ze,zb,zf,za,qan]
 refine ⟨by omega,?_⟩
 rw [qtD,qrU]
 refine qad (fun n fr L=>∃ (k:Nat),k≤il.length∧n=il.length - k∧fr=[oo,.p (.ptr [.sl 7 (itE il)]),oo,.p (.ptr [.clo fWay [.ptr [.sl 7 (itE il)]]]),.row (.l 13),oo,oo,oo,oo,oo,oo,oo,oo,oo,oo,.p (int (il.length:Nat)),.p (int (k:Nat)),oo,oo,oo,oo,oo,oo,oo,oo,oo,oo,oo,oo,oo,oo,oo,oo,oo,oo,oo,oo,oo,oo,oo,oo,oo,oo,oo,oo,oo,oo,oo,oo,oo,oo,oo,oo,oo,oo,oo,oo,oo,oo,oo,oo,oo,oo,oo,oo,oo,oo,oo,oo]∧L=[(.l 13,.row (ixK il.length k) 3 1 true)]) (il.length) [oo,.p (.ptr [.sl 7 (itE il)]),oo,.p (.ptr [.clo fWay [.ptr [.sl 7 (itE il)]]]),.row (.l 13),oo,oo,oo,oo,oo,oo,oo,oo,oo,oo,.p (int (il.length:Nat)),.p (int (0:Nat)),oo,oo,oo,oo,oo,oo,oo,oo,oo,oo,oo,oo,oo,oo,oo,oo,oo,oo,oo,oo,oo,oo,oo,oo,oo,oo,oo,oo,oo,oo,oo,oo,oo,oo,oo,oo,oo,oo,oo,oo,oo,oo,oo,oo,oo,oo,oo,oo,oo,oo,oo,oo] [(.l 13,.row (ixK il.length 0) 3 1 true)] zF_ (by (simp only [ZZ,WW,Ze,reduceCtorEq,zd,ze,zb,zf,za];try trivial)) ⟨0,by omega,by omega,rfl,rfl⟩ ?_
 rintro n fr L ⟨k,hk,rfl,rfl,rfl⟩
 simp only [qcY,ZZ,WW,Ze,reduceCtorEq,zd,ze,zb,zf,za]
 refine br ?_ ?_
 ·intro h
  have hlt:k < il.length:=by have:=of_decide_eq_true h;omega
  have hst:=qwj hlt
  have hgk:(ixK il.length k).getD k []=[int 0]:=by rw [ixK,qaH (List.getElem?_range hlt)];simp
  simp only [ZZ,WW,Ze,reduceCtorEq,zd,ze,zb,zf,za,qrU,hst,hgk]
  ((repeat' (with_reducible apply And.intro))<;>try ((exact sc_)))
  refine qac (il.length - (k+1)) [oo,.p (.ptr [.sl 7 (itE il)]),oo,.p (.ptr [.clo fWay [.ptr [.sl 7 (itE il)]]]),.row (.l 13),oo,oo,oo,oo,oo,oo,oo,oo,oo,oo,.p (int (il.length:Nat)),.p (int ((k+1):Nat)),oo,oo,oo,oo,oo,oo,oo,oo,oo,oo,oo,oo,oo,oo,oo,oo,oo,oo,oo,oo,oo,oo,oo,oo,oo,oo,oo,oo,oo,oo,oo,oo,oo,oo,oo,oo,oo,oo,oo,oo,oo,oo,oo,oo,oo,oo,oo,oo,oo,oo,oo,oo] [(.l 13,.row (ixK il.length (k+1)) 3 1 true)] (by omega) (by (simp only [ZZ,WW,Ze,reduceCtorEq,zd,ze,zb,zf,za];try trivial)) (by (simp only [ZZ,WW,Ze,reduceCtorEq,zd,ze,zb,zf,za];try trivial)) ⟨k+1,by omega,rfl,rfl,rfl⟩
 intro h
 have hge:k=il.length:=by have:=of_decide_eq_false h;omega
 subst hge
 rw [qwk]
 simp only [ZZ,WW,Ze,reduceCtorEq,zd,ze,zb,zf,za]
 refine useR (qpa (fun i:Nat=>(i:Int)) (cfW il) (qwQ hP) 167 [.ptr [.clo 164 [.ptr [.sl 7 (itE il)]]]] (fun _=>by kernel_rfl) (List.range il.length) (by rw [List.length_range];exact h12) (fun i hi j hj=>qu2 il hP i j (by simpa using hi) (by simpa using hj)) (fun _ _=>rfl) (fun _ _=>rfl)) rfl rfl rfl zE_ ?_
 rintro _ _ ⟨rfl,o,rfl,hp,hs⟩
 have ho:=qwP hP hp hs
 subst ho
 have hol:(ordX il).length=il.length:=by rw [hp.length_eq,List.length_range]
 simp only [ZZ,WW,Ze,reduceCtorEq,zd,ze,zb,zf,za,List.length_map,hol]
 obtain ⟨OC,hOC⟩:∃ OC:List (List PV),OC=(ordX il).map fun x=>[int ((x:Nat):Int)]:=⟨_,rfl⟩
 rw [← hOC]
 have hOl:OC.length=il.length:=by rw [hOC,List.length_map,hol]
 obtain ⟨J,hJ⟩:∃ J:Nat→Objs→Prop,J=fun k L=>(k < il.length∧FmJ L k (stG il ((ordX il).take k))∧Zas L (.l 13)=some (.row OC qdN 1 true))∨(k=il.length∧Zas L (.l 6)=some (.row ((famF il).map fmC) tFm 2 true)):=⟨_,rfl⟩
 have hfr:∀ (q:Nat) (y:PV),List.map (fun x:AV=>x.thaw (.l 1000) y) [oo,.p (.ptr [.sl 7 (itE il)]),oo,oo,oo,oo,.row (.l 6),oo,oo,oo,oo,oo,oo,oo,oo,oo,oo,oo,oo,oo,oo,oo,oo,oo,oo,oo,oo,.row (.l 13),.p (int (il.length:Nat)),.p (int (q:Nat)),oo,oo,oo,oo,oo,oo,oo,oo,oo,oo,oo,oo,oo,oo,oo,oo,oo,oo,oo,oo,oo,oo,oo,oo,oo,oo,oo,oo,oo,oo,oo,oo,oo,oo,oo,oo,oo,oo,oo]=[oo,.p (.ptr [.sl 7 (itE il)]),oo,oo,oo,oo,.row (.l 6),oo,oo,oo,oo,oo,oo,oo,oo,oo,oo,oo,oo,oo,oo,oo,oo,oo,oo,oo,oo,.row (.l 13),.p (int (il.length:Nat)),.p (int (q:Nat)),oo,oo,oo,oo,oo,oo,oo,oo,oo,oo,oo,oo,oo,oo,oo,oo,oo,oo,oo,oo,oo,oo,oo,oo,oo,oo,oo,oo,oo,oo,oo,oo,oo,oo,oo,oo,oo,oo,oo]:=by
  intro q y
  have e1:(Key.l 6=.l 1000)=False:=by simp
  have e2:(Key.l 13=.l 1000)=False:=by simp
  simp only [zj,zo,AV.thaw,e1,e2,if_false]
 have hnx:∀ k L,k≤il.length→FmJ L k (stG il ((ordX il).take k))→Zas L (.l 13)=some (.row OC qdN 1 true)→∃ L',ReOk E [oo,.p (.ptr [.sl 7 (itE il)]),oo,oo,oo,oo,.row (.l 6),oo,oo,oo,oo,oo,oo,oo,oo,oo,oo,oo,oo,oo,oo,oo,oo,oo,oo,oo,oo,.row (.l 13),.p (int (il.length:Nat)),.p (int (k:Nat)),oo,oo,oo,oo,oo,oo,oo,oo,oo,oo,oo,oo,oo,oo,oo,oo,oo,oo,oo,oo,oo,oo,oo,oo,oo,oo,oo,oo,oo,oo,oo,oo,oo,oo,oo,oo,oo,oo,oo] L [oo,.p (.ptr [.sl 7 (itE il)]),oo,oo,oo,oo,.row (.l 6),oo,oo,oo,oo,oo,oo,oo,oo,oo,oo,oo,oo,oo,oo,oo,oo,oo,oo,oo,oo,.row (.l 13),.p (int (il.length:Nat)),.p (int (k:Nat)),oo,oo,oo,oo,oo,oo,oo,oo,oo,oo,oo,oo,oo,oo,oo,oo,oo,oo,oo,oo,oo,oo,oo,oo,oo,oo,oo,oo,oo,oo,oo,oo,oo,oo,oo,oo,oo,oo,oo] L'∧J k L':=by
  intro k L hk h h13
  by_cases hkl:k < il.length
  ·exact ⟨L,ReOk.refl,by rw [hJ];exact .inl ⟨hkl,h,h13⟩⟩
  ·have hke:k=il.length:=by omega
   have hG:=qv8 hP
   rw [List.take_of_length_le (by omega)] at h
   generalize stG il (ordX il)=G at *
   cases G with
   |none=>
    refine ⟨_,qig h (qk2 []),?_⟩
    rw [hJ,← hG]
    refine .inr ⟨hke,?_⟩
    rw [qab,if_pos rfl]
    rfl
   |some G=>
    obtain ⟨I,c⟩:=G
    obtain ⟨_,_,h1,h2⟩:=h
    obtain ⟨L1,r1,h3,_⟩:=qpR (E:=E) (fr:=[oo,.p (.ptr [.sl 7 (itE il)]),oo,oo,oo,oo,.row (.l 6),oo,oo,oo,oo,oo,oo,oo,oo,oo,oo,oo,oo,oo,oo,oo,oo,oo,oo,oo,oo,.row (.l 13),.p (int (il.length:Nat)),.p (int (k:Nat)),oo,oo,oo,oo,oo,oo,oo,oo,oo,oo,oo,oo,oo,oo,oo,oo,oo,oo,oo,oo,oo,oo,oo,oo,oo,oo,oo,oo,oo,oo,oo,oo,oo,oo,oo,oo,oo,oo,oo]) (x:=[]) (hfr k) (fun _=>rfl) (by rw [List.append_nil];exact h1) h2 h13
    rw [List.append_nil] at h3
    refine ⟨_,ReOk.trans r1 (qig h3 (qk2 _)),?_⟩
    rw [hJ,← hG]
    refine .inr ⟨hke,?_⟩
    rw [qab,if_pos rfl]
    rfl
 obtain ⟨L1,q1,q2⟩:=hnx 0 [(.l 13,.row OC qdN 1 true),(.l 6,.rowv (fmA []) tFm 2)] (by omega) rfl rfl
 refine qrN (fun m fr L=>∃ k,k≤il.length∧m=il.length - k∧fr=[oo,.p (.ptr [.sl 7 (itE il)]),oo,oo,oo,oo,.row (.l 6),oo,oo,oo,oo,oo,oo,oo,oo,oo,oo,oo,oo,oo,oo,oo,oo,oo,oo,oo,oo,.row (.l 13),.p (int (il.length:Nat)),.p (int (k:Nat)),oo,oo,oo,oo,oo,oo,oo,oo,oo,oo,oo,oo,oo,oo,oo,oo,oo,oo,oo,oo,oo,oo,oo,oo,oo,oo,oo,oo,oo,oo,oo,oo,oo,oo,oo,oo,oo,oo,oo]∧J k L) il.length [oo,.p (.ptr [.sl 7 (itE il)]),oo,oo,oo,oo,.row (.l 6),oo,oo,oo,oo,oo,oo,oo,oo,oo,oo,oo,oo,oo,oo,oo,oo,oo,oo,oo,oo,.row (.l 13),.p (int (il.length:Nat)),.p (int (0:Nat)),oo,oo,oo,oo,oo,oo,oo,oo,oo,oo,oo,oo,oo,oo,oo,oo,oo,oo,oo,oo,oo,oo,oo,oo,oo,oo,oo,oo,oo,oo,oo,oo,oo,oo,oo,oo,oo,oo,oo] L1 (ReOk.trans (qkP zF_) (ReOk.trans (qoB (k:=.l 6) rfl) q1)) ⟨0,by omega,by omega,rfl,q2⟩ ?_
 clear q1 q2 L1
 rintro m fr L ⟨k,hk,rfl,rfl,hj⟩
 simp only [qcX,ZZ,WW,Ze,reduceCtorEq,zd,ze,zb,zf,za]
 rw [hJ] at hj
 refine br ?_ ?_
 ·intro h
  have hlt:k < il.length:=by have:=of_decide_eq_true h;omega
  rcases hj with ⟨_,hj,h13⟩|⟨e,_⟩
  rotate_left
  ·omega
  obtain ⟨i,hi⟩:∃ i,(ordX il)[k]?=some i:=⟨_,List.getElem?_eq_getElem (by omega)⟩
  have hgo:OC.getD k []=[int ((i:Nat):Int)]:=by rw [hOC];exact qaH hi
  have hil:i < il.length:=(qoH hP i).1 (List.mem_of_getElem? hi)
  obtain ⟨x,hx⟩:∃ x,il[i]?=some x:=⟨_,List.getElem?_eq_getElem hil⟩
  have hg:=qdY hx
  have hax:=qlQ hx
  simp only [itC] at hg
  have hnx1:=fun L=>hnx (k+1) L (by omega)
  have hsn:stG il ((ordX il).take (k+1))=stpG il (stG il ((ordX il).take k)) i:=by rw [← qsV,List.take_succ_eq_append_getElem (by omega),(List.getElem?_eq_some_iff.1 hi).2]
  have hps:=qvc hP (k:=k+1) (by omega) (by omega)
  rw [hsn] at hnx1 hps
  generalize stG il ((ordX il).take k)=G at *
  unfold stpG at hnx1 hps
  rw [hax] at hnx1 hps
  by_cases hup:upOf x=[]
  ·rw [if_pos hup] at hnx1
   unfold upOf at hup
   cases G with
   |none=>
    have hj:Zas L (.l 6)=some (.rowv (fmA []) tFm 2):=hj
    have hk0:(fmA []).map (fun x=>x.map fun y=>AV.kill (.l 6) y)=fmA []:=qmI [] _
    obtain ⟨I,hI⟩:∃ I:List Fam,I=[]:=⟨_,rfl⟩
    rw [← hI] at hj hk0
    have hIl:I.length≤20:=by rw [hI];simp
    have hk46:(fmA I).map (fun x=>x.map fun y=>AV.kill (.l 46) y)=fmA I:=qmI I _
    have hix:((I.length+1:Nat):Int) - 1=(I.length:Nat):=by omega
    simp only [ZZ,WW,Ze,reduceCtorEq,zd,ze,zb,zf,za,hgo,hg,qan,hOl,hj,h13,hup,hk0,hk46,qjI,qas,qab,qat,decide_true]
    ((repeat' (with_reducible apply And.intro))<;>try ((exact sc_)))
    generalize hLL:Zat (Zau (Key.l 6) _) (Key.l 6) _=LL
    have q6:Zas LL (.l 6)=some (.rowv (fmA I++[[.p (.str x.1),.p (.nl 1)]]) tFm 2):=by rw [← hLL,qab,if_pos rfl]
    have q13:Zas LL (.l 13)=some (.row OC qdN 1 true):=by
     rw [← hLL]
     simp only [qas,qab,qat,h13,ZZ,WW,Ze,reduceCtorEq,zd,ze,zb,zf,za]
    refine qc4 [oo,.p (.ptr [.sl 7 (itE il)]),oo,oo,oo,oo,.row (.l 6),oo,.p (int (i:Nat)),oo,oo,oo,oo,oo,oo,oo,oo,oo,oo,oo,oo,oo,oo,oo,oo,oo,oo,.row (.l 13),.p (int (il.length:Nat)),.p (int (k:Nat)),oo,oo,oo,oo,oo,oo,oo,oo,oo,oo,oo,oo,oo,oo,oo,oo,oo,oo,oo,oo,oo,oo,oo,oo,oo,oo,oo,oo,oo,oo,oo,oo,oo,oo,oo,oo,oo,oo,oo] LL (qkP zF_) ?_
    clear hLL hj h13
    have hln:=qjg I [.p (.str x.1),.p (.nl 1)]
    have hix:((I.length+1:Nat):Int) - 1=(I.length:Nat):=by omega
    have hla:=qkn I [.p (.str x.1),.p (.nl 1)]
    have hk64:=qnU I (.l 64) x.1 (.p (.nl 1))
    simp only [AV.kill] at hk64
    simp only [ZZ,WW,Ze,reduceCtorEq,zd,ze,zb,zf,za,hg,qan,q6,hln,hix,hla,qas,qab,qat]
    ((repeat' (with_reducible apply And.intro))<;>try ((exact sc_)))
    refine ⟨[],?_⟩
    simp only [ZZ,WW,Ze,reduceCtorEq,zd,ze,zb,zf,za,hg,qan,q6,hln,hix,hla,hk64,qmH,qas,qab,qat]
    refine ⟨by omega,⟨by omega,by omega⟩,by omega,by omega,qar (by omega) (by omega),?_⟩
    generalize hLM:Zat (Zat (Zau (Key.l 64) LL) (Key.l 64) _) (Key.l 6) _=LM
    have w6:Zas (mapO (r1 64 1000) LM) (.l 6)=some (.rowv (fmA I++[[.p (.str x.1),.row (.l 1000)]]) tFm 2):=by
     rw [qcC,if_neg (by simp),if_neg (by simp),← hLM,qab,if_pos rfl]
     simp only [Option.map_some,AO.ren]
     exact congrArg (fun c=>some (AO.rowv c tFm 2)) (qr6 _ _)
    have w1:Zas (mapO (r1 64 1000) LM) (.l 1000)=some (.row (strE [x.1]) tStF 1 true):=by
     rw [qcC,if_pos rfl,← hLM,qab,if_neg (by simp),qab,if_pos rfl]
     rfl
    have w13:Zas (mapO (r1 64 1000) LM) (.l 13)=some (.row OC qdN 1 true):=by
     rw [qcC,if_neg (by simp),if_neg (by simp),← hLM,qab,if_neg (by simp),qab,if_neg (by simp),qat,q13]
     rfl
    rw [hI] at w6
    obtain ⟨L2,r2,h2⟩:=hnx1 (mapO (r1 64 1000) LM) ⟨by show ([]:List Fam).length≤k+1;simp,by show [x.1].length≤k+1;simp,w6,w1⟩ w13
    refine qlO (il.length - (k+1)) [oo,.p (.ptr [.sl 7 (itE il)]),oo,oo,oo,oo,.row (.l 6),oo,oo,oo,oo,oo,oo,oo,oo,oo,oo,oo,oo,oo,oo,oo,oo,oo,oo,oo,oo,.row (.l 13),.p (int (il.length:Nat)),.p (int (k+1:Nat)),oo,oo,oo,oo,oo,oo,oo,oo,oo,oo,oo,oo,oo,oo,oo,oo,oo,oo,oo,oo,oo,oo,oo,oo,oo,oo,oo,oo,oo,oo,oo,oo,oo,oo,oo,oo,oo,oo,oo] L2 (by omega) (ReOk.trans (qpB 64 1000) (ReOk.trans (qkP (by simp only [AV.ren,r1,ZZ,WW,Ze,reduceCtorEq,zd,ze,zb,zf,za];try trivial)) r2)) ⟨k+1,by omega,rfl,rfl,h2⟩
   |some G=>
    obtain ⟨I,c⟩:=G
    obtain ⟨hI,hc,h6,h1⟩:=hj
    have hI:I.length≤k:=hI
    have hc:c.2.length≤k:=hc
    have hln:=qjg I [.p (.str c.1),.row (.l 1000)]
    have hk1:=qnU I (.l 6) c.1 (.row (.l 1000))
    have hk46:=qnU I (.l 46) c.1 (.row (.l 1000))
    simp only [AV.kill,Key.l.injEq,za,if_false] at hk1 hk46
    simp only [ZZ,WW,Ze,reduceCtorEq,zd,ze,zb,zf,za,hgo,hg,qan,hOl,h6,h13,hup,hln,hk1,hk46,qas,qab,qat,decide_true]
    ((repeat' (with_reducible apply And.intro))<;>try ((exact sc_)))
    generalize hLL:Zat (Zau (Key.l 6) _) (Key.l 6) _=LL
    have q6:Zas LL (.l 6)=some (.rowv (fmA I++[[.p (.str c.1),.row (.l 1000)]]++[[.p (.str x.1),.p (.nl 1)]]) tFm 2):=by rw [← hLL,qab,if_pos rfl]
    have q13:Zas LL (.l 13)=some (.row OC qdN 1 true):=by
     rw [← hLL]
     simp only [qas,qab,qat,h13,ZZ,WW,Ze,reduceCtorEq,zd,ze,zb,zf,za]
    have q1:Zas LL (.l 1000)=some (.row (strE c.2) tStF 1 true):=by
     rw [← hLL]
     simp only [qas,qab,qat,h1,ZZ,WW,Ze,reduceCtorEq,zd,ze,zb,zf,za]
    obtain ⟨L3,r3,q6,q13⟩:=qpR (E:=E) (fr:=[oo,.p (.ptr [.sl 7 (itE il)]),oo,oo,oo,oo,.row (.l 6),oo,.p (int (i:Nat)),oo,oo,oo,oo,oo,oo,oo,oo,oo,oo,oo,oo,oo,oo,oo,oo,oo,oo,.row (.l 13),.p (int (il.length:Nat)),.p (int (k:Nat)),oo,oo,oo,oo,oo,oo,oo,oo,oo,oo,oo,oo,oo,oo,oo,oo,oo,oo,oo,oo,oo,oo,oo,oo,oo,oo,oo,oo,oo,oo,oo,oo,oo,oo,oo,oo,oo,oo,oo]) (x:=[[.p (.str x.1),.p (.nl 1)]]) (by
     intro y
     have e1:(Key.l 6=.l 1000)=False:=by simp
     have e2:(Key.l 13=.l 1000)=False:=by simp
     simp only [zj,zo,AV.thaw,e1,e2,if_false]) (fun _=>rfl) q6 q1 q13
    refine qc4 [oo,.p (.ptr [.sl 7 (itE il)]),oo,oo,oo,oo,.row (.l 6),oo,.p (int (i:Nat)),oo,oo,oo,oo,oo,oo,oo,oo,oo,oo,oo,oo,oo,oo,oo,oo,oo,oo,.row (.l 13),.p (int (il.length:Nat)),.p (int (k:Nat)),oo,oo,oo,oo,oo,oo,oo,oo,oo,oo,oo,oo,oo,oo,oo,oo,oo,oo,oo,oo,oo,oo,oo,oo,oo,oo,oo,oo,oo,oo,oo,oo,oo,oo,oo,oo,oo,oo,oo] L3 (ReOk.trans (qkP zF_) r3) ?_
    clear r3 hLL h6 h13 h1 q1
    have hIl:(I++[c]).length≤20:=by simp;omega
    generalize hI2:I++[c]=I2 at *
    have hln:=qjg I2 [.p (.str x.1),.p (.nl 1)]
    have hix:((I2.length+1:Nat):Int) - 1=(I2.length:Nat):=by omega
    have hla:=qkn I2 [.p (.str x.1),.p (.nl 1)]
    have hk64:=qnU I2 (.l 64) x.1 (.p (.nl 1))
    simp only [AV.kill] at hk64
    simp only [ZZ,WW,Ze,reduceCtorEq,zd,ze,zb,zf,za,hg,qan,q6,hln,hix,hla,qas,qab,qat]
    ((repeat' (with_reducible apply And.intro))<;>try ((exact sc_)))
    refine ⟨[],?_⟩
    simp only [ZZ,WW,Ze,reduceCtorEq,zd,ze,zb,zf,za,hg,qan,q6,hln,hix,hla,hk64,qmH,qas,qab,qat]
    refine ⟨by omega,⟨by omega,by omega⟩,by omega,by omega,qar (by omega) (by omega),?_⟩
    generalize hLM:Zat (Zat (Zau (Key.l 64) L3) (Key.l 64) _) (Key.l 6) _=LM
    have w6:Zas (mapO (r1 64 1000) LM) (.l 6)=some (.rowv (fmA I2++[[.p (.str x.1),.row (.l 1000)]]) tFm 2):=by
     rw [qcC,if_neg (by simp),if_neg (by simp),← hLM,qab,if_pos rfl]
     simp only [Option.map_some,AO.ren]
     exact congrArg (fun c=>some (AO.rowv c tFm 2)) (qr6 _ _)
    have w1:Zas (mapO (r1 64 1000) LM) (.l 1000)=some (.row (strE [x.1]) tStF 1 true):=by
     rw [qcC,if_pos rfl,← hLM,qab,if_neg (by simp),qab,if_pos rfl]
     rfl
    have w13:Zas (mapO (r1 64 1000) LM) (.l 13)=some (.row OC qdN 1 true):=by
     rw [qcC,if_neg (by simp),if_neg (by simp),← hLM,qab,if_neg (by simp),qab,if_neg (by simp),qat,q13]
     rfl
    have hI3:I2.length≤k+1:=by rw [← hI2,List.length_append];simp;omega
    rw [← hI2] at w6 hI3
    obtain ⟨L2,r2,h2⟩:=hnx1 (mapO (r1 64 1000) LM) ⟨hI3,by show [x.1].length≤k+1;simp,w6,w1⟩ w13
    refine qlO (il.length - (k+1)) [oo,.p (.ptr [.sl 7 (itE il)]),oo,oo,oo,oo,.row (.l 6),oo,oo,oo,oo,oo,oo,oo,oo,oo,oo,oo,oo,oo,oo,oo,oo,oo,oo,oo,oo,.row (.l 13),.p (int (il.length:Nat)),.p (int (k+1:Nat)),oo,oo,oo,oo,oo,oo,oo,oo,oo,oo,oo,oo,oo,oo,oo,oo,oo,oo,oo,oo,oo,oo,oo,oo,oo,oo,oo,oo,oo,oo,oo,oo,oo,oo,oo,oo,oo,oo,oo] L2 (by omega) (ReOk.trans (qpB 64 1000) (ReOk.trans (qkP (by simp only [AV.ren,r1,ZZ,WW,Ze,reduceCtorEq,zd,ze,zb,zf,za];try trivial)) r2)) ⟨k+1,by omega,rfl,rfl,h2⟩
  ·rw [if_neg hup] at hnx1 hps
   unfold upOf at hup
   cases G with
   |none=>obtain ⟨I,c,e⟩:=hps;cases e
   |some G=>
    obtain ⟨I,c⟩:=G
    obtain ⟨hI,hc,h6,h1⟩:=hj
    have hI:I.length≤k:=hI
    have hc:c.2.length≤k:=hc
    have hln:=qjg I [.p (.str c.1),.row (.l 1000)]
    have hix:((I.length+1:Nat):Int) - 1=(I.length:Nat):=by omega
    have hla:=qkn I [.p (.str c.1),.row (.l 1000)]
    simp only [ZZ,WW,Ze,reduceCtorEq,zd,ze,zb,zf,za,hgo,hg,qan,hOl,h6,h13,h1,hup,hln,qas,qab,qat,decide_false]
    ((repeat' (with_reducible apply And.intro))<;>try ((exact sc_)))
    refine qc4 _ _ ReOk.refl ?_
    simp only [ZZ,WW,Ze,reduceCtorEq,zd,ze,zb,zf,za,hgo,hg,qan,hOl,h6,h13,h1,hup,hln,hix,hla,qal,qas,qab,qat]
    ((repeat' (with_reducible apply And.intro))<;>try ((exact sc_)))
    refine ⟨[],?_⟩
    have hk2:=qnU I (.l 1000) c.1 (.row (.l 1000))
    simp only [AV.kill,if_true] at hk2
    have hln2:=qjg I [.p (.str c.1),oo]
    have hla2:=qkn I [.p (.str c.1),oo]
    simp only [ZZ,WW,Ze,reduceCtorEq,zd,ze,zb,zf,za,hg,qan,h6,h13,h1,hln,hix,hla,hk2,hln2,hla2,qmH,qal,qas,qab,qat]
    refine ⟨by omega,⟨by omega,by omega⟩,by omega,by omega,by omega,qar (by omega) (by omega),?_⟩
    generalize hLL:Zat (Zat (Zau (Key.l 1000) L) (Key.l 1000) _) (Key.l 6) _=LL
    obtain ⟨L2,r2,h2⟩:=hnx1 LL ⟨by show I.length≤k+1;omega,by show (c.2++[x.1]).length≤k+1;simp only [List.length_append,List.length_singleton];omega,by rw [← hLL,qab,if_pos rfl],by rw [← hLL,qab,if_neg (by simp),qab,if_pos rfl,qpr];rfl⟩ (by rw [← hLL,qab,if_neg (by simp),qab,if_neg (by simp),qat,h13];rfl)
    refine qlO (il.length - (k+1)) [oo,.p (.ptr [.sl 7 (itE il)]),oo,oo,oo,oo,.row (.l 6),oo,oo,oo,oo,oo,oo,oo,oo,oo,oo,oo,oo,oo,oo,oo,oo,oo,oo,oo,oo,.row (.l 13),.p (int (il.length:Nat)),.p (int (k+1:Nat)),oo,oo,oo,oo,oo,oo,oo,oo,oo,oo,oo,oo,oo,oo,oo,oo,oo,oo,oo,oo,oo,oo,oo,oo,oo,oo,oo,oo,oo,oo,oo,oo,oo,oo,oo,oo,oo,oo,oo] L2 (by omega) (ReOk.trans (qkP zF_) r2) ⟨k+1,by omega,rfl,rfl,h2⟩
 ·intro h
  have hge:k=il.length:=by have:=of_decide_eq_false h;omega
  rcases hj with ⟨e,_⟩|⟨_,hO⟩
  ·omega
  subst hge
  simp only [ZZ,WW,Ze,reduceCtorEq,zd,ze,zb,zf,za]
  rw [qa9]
  refine ⟨_,_,qbV (k:=.l 6) hO,?_⟩
  simp only [ZZ,WW,Ze,reduceCtorEq,zd,ze,zb,zf,za]
  done
end
def qdI:IC:=(.seq (.reg [qO 14 (.bin .lss (.t 13) (.t 12))]) (.seq (.cond (.t 14) .skip (.exit 0)) (.seq (.block 1 (.seq (.reg [qO 15 (.ixa 2 (.t 11) (.t 13)),qO 16 (.ld 2 true (.t 15)),qO 9 (.alc 119 [.str [],.nl 1]),⟨none,.st 2 (.t 9) (.t 16),none⟩]) (.seq (.reg [qO 17 (.fla 1 (.t 9)),qO 18 (.ld 1 false (.t 17)),qO 19 (.mkf 85 [.t 4]),qO 20 (.call 84 [.t 18,.t 19])]) (.cond (.t 20) (.reg [qM 21 7,qO 22 (.ld 2 true (.t 9)),qO 23 (.bsl 2 [.t 22]),qO 24 (.app 119 2 40 (.t 21) (.t 23)),qM 7 24]) .skip)))) (.cut (.reg [qO 25 (.bin .add (.t 13) (.c (.int .i64 1))),qM 13 25])))))
def qe3:IC:=(.seq (.reg [qO 3 (.box 30 (.t 0)),qO 4 (.box 27 (.t 1)),qO 5 (.box 3 (.t 2)),qO 6 (.mov (.c (.nl 2))),⟨none,.re,none⟩]) (.seq (.reg [qO 7 (.nilr 119 2)]) (.seq (.seq (.reg [qO 10 (.ld 1 false (.t 3)),qO 11 (.call 83 [.t 10]),qO 12 (.len (.t 11)),qO 13 (.mov (.c (.int .i64 0)))]) (.block 0 (.loop qdI))) (.seq (.reg [qM 26 7,qO 27 (.mkf 88 [.t 3,.t 5]),qO 28 (.call 87 [.t 26,.t 27])]) (.seq (.reg [qM 29 7,qM 6 29,⟨none,.re,none⟩]) .ret)))))
def qeS:List IRes:=[.t 6]
theorem qh0:chkF Tryz.prog Tryz.f26 qe3 qeS 30=true:=by kernel_rfl
def qd9:IC:=(.seq (.reg [qO 3 (.mov (.c (.bool false)))]) (.seq (.reg [qO 4 (.ld 1 false (.t 1)),qM 5 0,qO 6 (.call 86 [.t 4,.t 5]),qO 7 (.fld 1 1 false (.t 6)),qO 8 (.bin .eql (.t 7) (.c (.int .i64 1))),qM 3 8]) .ret))
def qdW:List IRes:=[.t 3]
theorem qhc:chkF Tryz.prog Tryz.f85 qd9 qdW 9=true:=by kernel_rfl
def qbf:IC:=(.seq (.reg [qO 4 (.box 119 (.t 0)),qO 5 (.box 119 (.t 1)),qO 6 (.mov (.c (.int .i64 0)))]) (.seq (.reg [qO 14 (.ld 1 false (.t 2)),qO 15 (.fla 0 (.t 4)),qO 16 (.ld 1 false (.t 15)),qO 17 (.call 72 [.t 14,.t 16]),qM 13 17,qO 18 (.ext 0 (.t 13)),qO 19 (.ext 1 (.t 13)),qO 7 (.alc 80 [.str [],.str [],.int .i64 0,.str [],.int .i64 0,.str [],.str []]),⟨none,.st 7 (.t 7) (.t 18),none⟩,qM 8 19]) (.seq (.reg [qO 21 (.ld 1 false (.t 2)),qO 22 (.fla 0 (.t 5)),qO 23 (.ld 1 false (.t 22)),qO 24 (.call 72 [.t 21,.t 23]),qM 20 24,qO 25 (.ext 0 (.t 20)),qO 26 (.ext 1 (.t 20)),qO 9 (.alc 80 [.str [],.str [],.int .i64 0,.str [],.int .i64 0,.str [],.str []]),⟨none,.st 7 (.t 9) (.t 25),none⟩,qM 10 26]) (.seq (.drg [qO 27 (.fla 1 (.t 7)),qO 28 (.ld 1 false (.t 27)),qO 29 (.fla 1 (.t 9)),qO 30 (.ld 1 false (.t 29)),qO 31 (.pcall 0 89 [.t 28,.t 30]),qO 32 (.fla 4 (.t 7)),qO 33 (.ld 1 false (.t 32)),qO 34 (.fla 4 (.t 9)),qO 35 (.ld 1 false (.t 34)),qO 36 (.pcall 1 90 [.t 33,.t 35]),qM 11 31,qM 12 36]) (.seq (.seq (.reg [qO 37 (.ld 1 false (.t 3))]) (.block 0 (.seq (.reg [qO 39 (.bin .eql (.t 37) (.c (.int .i64 1))),qM 38 39]) (.cond (.t 38) (.reg [qO 11 (.mov (.c (.int .i64 0))),qO 12 (.mov (.c (.int .i64 0)))]) (.seq (.reg [qO 41 (.bin .eql (.t 37) (.c (.int .i64 2))),qM 40 41]) (.cond (.t 40) (.reg [qO 11 (.mov (.c (.int .i64 0)))]) .skip)))))) (.cut (.seq (.reg [qM 42 11,qM 43 12,qO 44 (.fla 0 (.t 4)),qO 45 (.ld 1 false (.t 44)),qO 46 (.fla 0 (.t 5)),qO 47 (.ld 1 false (.t 46)),qO 48 (.call 89 [.t 45,.t 47]),qO 49 (.bsl 1 [.t 42,.t 43,.t 48]),qO 50 (.call 91 [.t 49]),qM 6 50]) .ret)))))))
def qbe:List IRes:=[.t 6]
theorem qcd:chkF Tryz.prog Tryz.f88 qbf qbe 51=true:=by kernel_rfl
section
variable {E:Envt}
theorem qoz (l:List Rul) (hl:l.length≤1000000) (s:List UInt8):PCall Tryz.prog E 86 [.sl 3 (rlE l),.str s] (fun x=>∃ i w v,x=.agg [i,int w,v]∧decide (w=1)=ql2 l s):=by
 refine qag mixed Tryz.func86 qe8 ?_
 simp only [a0,l0,OS.ao,zj,zo,zi,zn,zl,zm,zp,zd,zh,zk,qcE,qcB,ZZ,WW,Ze,reduceCtorEq,zd,ze,zb,zf,za]
 simp only [ZZ,WW,Ze,reduceCtorEq,zd,ze,zb,zf,za,qcl]
 refine qad (fun n fr L=>∃ (k:Nat),k≤l.length∧n=l.length - k∧(l.find? (fun r=>decide (r.id=s))=(l.drop k).find? (fun r=>decide (r.id=s)))∧fr=[oo,.p (.str s),oo,oo,.adr (.l 4) 0,oo,oo,.p (.sl 3 (rlE l)),.p (int (l.length:Nat)),.p (int (k:Nat)),oo,oo,oo,oo,oo,oo,oo,oo,oo,oo,oo]∧L=[(.l 4,.box [.p (.str []),.p (int 0),.p (.nl 2)] 76)]) (l.length) [oo,.p (.str s),oo,oo,.adr (.l 4) 0,oo,oo,.p (.sl 3 (rlE l)),.p (int (l.length:Nat)),.p (int (0:Nat)),oo,oo,oo,oo,oo,oo,oo,oo,oo,oo,oo] [(.l 4,.box [.p (.str []),.p (int 0),.p (.nl 2)] 76)] (by simp only [ZZ,WW,Ze,reduceCtorEq,zd,ze,zb,zf,za,qcl];try trivial) (by (simp only [ZZ,WW,Ze,reduceCtorEq,zd,ze,zb,zf,za];try trivial)) ⟨0,by omega,by omega,rfl,rfl,rfl⟩ ?_
 rintro n fr L ⟨k,hk,rfl,hF,rfl,rfl⟩
 simp only [qb0,ZZ,WW,Ze,reduceCtorEq,zd,ze,zb,zf,za]
 refine br ?_ ?_
 ·intro h
  have hlt:k < l.length:=by have:=of_decide_eq_true h;omega
  obtain ⟨r,hr⟩:∃ r,l[k]?=some r:=⟨_,List.getElem?_eq_getElem hlt⟩
  have hg:=qkO hr
  have hd:l.drop k=r :: l.drop (k+1):=by rw [List.drop_eq_getElem_cons hlt,(List.getElem?_eq_some_iff.1 hr).2]
  rw [hd,List.find?_cons] at hF
  simp only [ZZ,WW,Ze,reduceCtorEq,zd,ze,zb,zf,za,hg,qcl]
  ((repeat' (with_reducible apply And.intro))<;>try ((exact sc_)))
  refine br ?_ ?_
  ·intro h2
   have h3:r.id=s:=by simpa using h2
   rw [decide_eq_true h3] at hF
   simp only [ZZ,WW,Ze,reduceCtorEq,zd,ze,zb,zf,za]
   refine ⟨_,_,_,rfl,?_⟩
   unfold ql2 rlOf
   rw [hF]
   rfl
  ·intro h2
   have h3:¬ r.id=s:=by simpa using h2
   rw [decide_eq_false h3] at hF
   simp only [ZZ,WW,Ze,reduceCtorEq,zd,ze,zb,zf,za]
   ((repeat' (with_reducible apply And.intro))<;>try ((exact sc_)))
   refine qac (l.length - (k+1)) [oo,.p (.str s),oo,oo,.adr (.l 4) 0,oo,oo,.p (.sl 3 (rlE l)),.p (int (l.length:Nat)),.p (int ((k+1):Nat)),oo,oo,oo,oo,oo,oo,oo,oo,oo,oo,oo] [(.l 4,.box [.p (.str []),.p (int 0),.p (.nl 2)] 76)] (by omega) (by (simp only [ZZ,WW,Ze,reduceCtorEq,zd,ze,zb,zf,za];try trivial)) (by (simp only [ZZ,WW,Ze,reduceCtorEq,zd,ze,zb,zf,za];try trivial)) ⟨k+1,by omega,rfl,hF,rfl,rfl⟩
 intro h
 have hge:l.length≤k:=by have:=of_decide_eq_false h;omega
 rw [List.drop_eq_nil_of_le hge] at hF
 simp only [ZZ,WW,Ze,reduceCtorEq,zd,ze,zb,zf,za]
 refine ⟨_,_,_,rfl,?_⟩
 unfold ql2 rlOf
 rw [hF]
 rfl
theorem qs6 (l:List Rul) (hl:l.length≤1000000) (s:List UInt8):PCall Tryz.prog E 85 [.str s,.ptr [.sl 3 (rlE l)]] (·=.bool (ql2 l s)):=by
 refine qag mixed Tryz.func85 qhc ?_
 simp only [a0,l0,OS.ao,zj,zo,zi,zn,zl,zm,zp,zd,zh,zk,qd9,qdW,ZZ,WW,Ze,reduceCtorEq,zd,ze,zb,zf,za]
 refine use (qoz l hl s) rfl (.inl rfl) ?_
 rintro _ ⟨i,w,v,rfl,h⟩
 simp only [ZZ,WW,Ze,reduceCtorEq,zd,ze,zb,zf,za]
 exact congrArg PV.bool h
theorem qwM {il:List Itm} (hP:qbE il) {order:Int} (ho:order=1∨order=2∨order=3) (s t:List UInt8) (a b:List (List PV)):PCall Tryz.prog E 88 [.agg [.str s,.sl 1 a],.agg [.str t,.sl 1 b],.ptr [.sl 7 (itE il)],.ptr [int order]] (·=int (cfR il order s t)):=by
 rw [cfR,cf3]
 unfold whoC quZ
 have i1:=qi8 (E:=E) il hP s
 have i2:=qi8 (E:=E) il hP t
 simp only [itC] at i1 i2
 generalize itOf il s=x at *
 generalize itOf il t=y at *
 generalize (getI il s).isSome=b1 at *
 generalize (getI il t).isSome=b2 at *
 have e12:decide ((1:Int)=2)=false:=rfl
 have e21:decide ((2:Int)=1)=false:=rfl
 have e31:decide ((3:Int)=1)=false:=rfl
 have e32:decide ((3:Int)=2)=false:=rfl
 rcases ho with rfl|rfl|rfl
 ·skip
  refine qag mixed Tryz.func88 qcd ?_
  simp only [a0,l0,OS.ao,zj,zo,zi,zn,zl,zm,zp,zd,zh,zk,qbf,qbe,ZZ,WW,Ze,reduceCtorEq,zd,ze,zb,zf,za]
  refine use1 i1 rfl (.inl rfl) ?_
  simp only [ZZ,WW,Ze,reduceCtorEq,zd,ze,zb,zf,za]
  refine use1 i2 rfl (.inl rfl) ?_
  simp only [ZZ,WW,Ze,reduceCtorEq,zd,ze,zb,zf,za]
  refine ⟨[int (Lib.compareBytes x.2.1 y.2.1),int (sgnC x.2.2.2.2.1 y.2.2.2.2.1)],?_⟩
  simp only [ZZ,WW,Ze,reduceCtorEq,zd,ze,zb,zf,za]
  refine ⟨usep (qcL x.2.1 y.2.1) rfl (.inl rfl),usep (qiS x.2.2.2.2.1 y.2.2.2.2.1) rfl (.inl rfl),?_⟩
  simp only [ZZ,WW,Ze,reduceCtorEq,zd,ze,zb,zf,za,e12,e21,e31,e32,decide_true,decide_false]
  refine qc4 _ _ ReOk.refl ?_
  simp only [ZZ,WW,Ze,reduceCtorEq,zd,ze,zb,zf,za]
  refine use1 (qcL s t) rfl (.inl rfl) ?_
  simp only [ZZ,WW,Ze,reduceCtorEq,zd,ze,zb,zf,za]
  refine use1 (qsF [0,0,Lib.compareBytes s t] (by simp)) rfl (.inl rfl) ?_
  simp only [ZZ,WW,Ze,reduceCtorEq,zd,ze,zb,zf,za]
  rfl
 ·skip
  refine qag mixed Tryz.func88 qcd ?_
  simp only [a0,l0,OS.ao,zj,zo,zi,zn,zl,zm,zp,zd,zh,zk,qbf,qbe,ZZ,WW,Ze,reduceCtorEq,zd,ze,zb,zf,za]
  refine use1 i1 rfl (.inl rfl) ?_
  simp only [ZZ,WW,Ze,reduceCtorEq,zd,ze,zb,zf,za]
  refine use1 i2 rfl (.inl rfl) ?_
  simp only [ZZ,WW,Ze,reduceCtorEq,zd,ze,zb,zf,za]
  refine ⟨[int (Lib.compareBytes x.2.1 y.2.1),int (sgnC x.2.2.2.2.1 y.2.2.2.2.1)],?_⟩
  simp only [ZZ,WW,Ze,reduceCtorEq,zd,ze,zb,zf,za]
  refine ⟨usep (qcL x.2.1 y.2.1) rfl (.inl rfl),usep (qiS x.2.2.2.2.1 y.2.2.2.2.1) rfl (.inl rfl),?_⟩
  simp only [ZZ,WW,Ze,reduceCtorEq,zd,ze,zb,zf,za,e12,e21,e31,e32,decide_true,decide_false]
  refine qc4 _ _ ReOk.refl ?_
  simp only [ZZ,WW,Ze,reduceCtorEq,zd,ze,zb,zf,za]
  refine use1 (qcL s t) rfl (.inl rfl) ?_
  simp only [ZZ,WW,Ze,reduceCtorEq,zd,ze,zb,zf,za]
  refine use1 (qsF [0,sgnC x.2.2.2.2.1 y.2.2.2.2.1,Lib.compareBytes s t] (by simp)) rfl (.inl rfl) ?_
  simp only [ZZ,WW,Ze,reduceCtorEq,zd,ze,zb,zf,za]
  rfl
 ·skip
  refine qag mixed Tryz.func88 qcd ?_
  simp only [a0,l0,OS.ao,zj,zo,zi,zn,zl,zm,zp,zd,zh,zk,qbf,qbe,ZZ,WW,Ze,reduceCtorEq,zd,ze,zb,zf,za]
  refine use1 i1 rfl (.inl rfl) ?_
  simp only [ZZ,WW,Ze,reduceCtorEq,zd,ze,zb,zf,za]
  refine use1 i2 rfl (.inl rfl) ?_
  simp only [ZZ,WW,Ze,reduceCtorEq,zd,ze,zb,zf,za]
  refine ⟨[int (Lib.compareBytes x.2.1 y.2.1),int (sgnC x.2.2.2.2.1 y.2.2.2.2.1)],?_⟩
  simp only [ZZ,WW,Ze,reduceCtorEq,zd,ze,zb,zf,za]
  refine ⟨usep (qcL x.2.1 y.2.1) rfl (.inl rfl),usep (qiS x.2.2.2.2.1 y.2.2.2.2.1) rfl (.inl rfl),?_⟩
  simp only [ZZ,WW,Ze,reduceCtorEq,zd,ze,zb,zf,za,e12,e21,e31,e32,decide_true,decide_false]
  refine qc4 _ _ ReOk.refl ?_
  simp only [ZZ,WW,Ze,reduceCtorEq,zd,ze,zb,zf,za]
  refine use1 (qcL s t) rfl (.inl rfl) ?_
  simp only [ZZ,WW,Ze,reduceCtorEq,zd,ze,zb,zf,za]
  refine use1 (qsF [Lib.compareBytes x.2.1 y.2.1,sgnC x.2.2.2.2.1 y.2.2.2.2.1,Lib.compareBytes s t] (by simp)) rfl (.inl rfl) ?_
  simp only [ZZ,WW,Ze,reduceCtorEq,zd,ze,zb,zf,za]
  rfl
set_option maxHeartbeats 4000000 in
theorem qpg (il:List Itm) (hP:qbE il) (h12:il.length≤12) (l:List Rul) (hl:l.length≤1000000) (order:Int) (ho:order=1∨order=2∨order=3):PCall Tryz.prog E 26 [.sl 7 (itE il),.sl 3 (rlE l),int order] (·=.sl 2 ((chS il l order).map (encF il))):=by
 have hFO:=qna (E:=E) il hP h12
 have hfe:(famF il).map fmC=(topsF il).map (encF il):=qtT il
 rw [hfe] at hFO
 have hTl:(topsF il).length≤12:=Nat.le_trans (qgL il []) h12
 refine qag mixed Tryz.func26 qh0 ?_
 simp only [a0,l0,OS.ao,zj,zo,zi,zn,zl,zm,zp,zd,zh,zk,qe3,qeS,ZZ,WW,Ze,reduceCtorEq,zd,ze,zb,zf,za]
 rw [qa9]
 refine ⟨_,_,ReOk.trans (qit (k:=.l 3) (cs:=[.sl 7 (itE il)]) rfl) (ReOk.trans (qit (k:=.l 4) (cs:=[.sl 3 (rlE l)]) rfl) (qit (k:=.l 5) (cs:=[int order]) rfl)),?_⟩
 simp only [ZZ,WW,Ze,reduceCtorEq,zd,ze,zb,zf,za]
 refine use1 hFO rfl (.inl rfl) ?_
 simp only [ZZ,WW,Ze,reduceCtorEq,zd,ze,zb,zf,za,List.length_map]
 refine qad (fun n fr L=>∃ (k:Nat) (w:List (List PV)),k≤(topsF il).length∧n=(topsF il).length - k∧(w=(((topsF il).take k).filter (fun s=>(s :: kidsF il s).any (ql2 l))).map (encF il))∧fr=[oo,oo,oo,.p (.ptr [.sl 7 (itE il)]),.p (.ptr [.sl 3 (rlE l)]),.p (.ptr [int order]),oo,.row (.l 7),oo,oo,oo,.p (.sl 2 ((topsF il).map (encF il))),.p (int ((topsF il).length:Nat)),.p (int (k:Nat)),oo,oo,oo,oo,oo,oo,oo,oo,oo,oo,oo,oo,oo,oo,oo,oo]∧L=[(.l 7,.row w 119 2 true)]) ((topsF il).length) [oo,oo,oo,.p (.ptr [.sl 7 (itE il)]),.p (.ptr [.sl 3 (rlE l)]),.p (.ptr [int order]),oo,.row (.l 7),oo,oo,oo,.p (.sl 2 ((topsF il).map (encF il))),.p (int ((topsF il).length:Nat)),.p (int (0:Nat)),oo,oo,oo,oo,oo,oo,oo,oo,oo,oo,oo,oo,oo,oo,oo,oo] [(.l 7,.row [] 119 2 true)] (by simp only [ZZ,WW,Ze,reduceCtorEq,zd,ze,zb,zf,za,List.length_map];try trivial) (by (simp only [ZZ,WW,Ze,reduceCtorEq,zd,ze,zb,zf,za];try trivial)) ⟨0,[],by omega,by omega,rfl,rfl,rfl⟩ ?_
 rintro n fr L ⟨k,w,hk,rfl,hw,rfl,rfl⟩
 simp only [qdI,ZZ,WW,Ze,reduceCtorEq,zd,ze,zb,zf,za]
 refine br ?_ ?_
 ·intro h
  have hlt:k < (topsF il).length:=by have:=of_decide_eq_true h;omega
  obtain ⟨x,hx⟩:∃ x,(topsF il)[k]?=some x:=⟨_,List.getElem?_eq_getElem hlt⟩
  have hg:((topsF il).map (encF il)).getD k []=[.str x,.sl 1 (strE (x :: kidsF il x))]:=qaH hx
  have htk:(topsF il).take (k+1)=(topsF il).take k++[x]:=by rw [List.take_succ_eq_append_getElem hlt,(List.getElem?_eq_some_iff.1 hx).2]
  have hwl:w.length≤12:=by
   rw [hw,List.length_map]
   refine Nat.le_trans (List.length_filter_le _ _) ?_
   rw [List.length_take]
   omega
  have hkl:(kidsF il x).length≤12:=Nat.le_trans (qgL il x) h12
  have hc:=qfi (E:=E) (x :: kidsF il x) 85 [.ptr [.sl 3 (rlE l)]] (ql2 l) (by simp;omega) (fun _=>by kernel_rfl) rfl (fun y _=>qs6 l hl y) (fun _=>rfl) (fun _=>rfl)
  simp only [ZZ,WW,Ze,reduceCtorEq,zd,ze,zb,zf,za,hg,List.length_map]
  ((repeat' (with_reducible apply And.intro))<;>try ((exact sc_)))
  refine use1 hc rfl (.inr rfl) ?_
  simp only [ZZ,WW,Ze,reduceCtorEq,zd,ze,zb,zf,za]
  refine br ?_ ?_
  ·intro h2
   simp only [ZZ,WW,Ze,reduceCtorEq,zd,ze,zb,zf,za]
   ((repeat' (with_reducible apply And.intro))<;>try ((exact sc_)))
   refine qc4 _ _ ReOk.refl ?_
   simp only [ZZ,WW,Ze,reduceCtorEq,zd,ze,zb,zf,za]
   ((repeat' (with_reducible apply And.intro))<;>try ((exact sc_)))
   refine qac ((topsF il).length - (k+1)) [oo,oo,oo,.p (.ptr [.sl 7 (itE il)]),.p (.ptr [.sl 3 (rlE l)]),.p (.ptr [int order]),oo,.row (.l 7),oo,oo,oo,.p (.sl 2 ((topsF il).map (encF il))),.p (int ((topsF il).length:Nat)),.p (int ((k+1):Nat)),oo,oo,oo,oo,oo,oo,oo,oo,oo,oo,oo,oo,oo,oo,oo,oo] [(.l 7,.row (w++[[.str x,.sl 1 (strE (x :: kidsF il x))]]) 119 2 true)] (by omega) (by (simp only [ZZ,WW,Ze,reduceCtorEq,zd,ze,zb,zf,za];try trivial)) (by (simp only [ZZ,WW,Ze,reduceCtorEq,zd,ze,zb,zf,za];try trivial)) ⟨k+1,w++[[.str x,.sl 1 (strE (x :: kidsF il x))]],by omega,rfl,by rw [htk,List.filter_append,List.map_append,← hw,List.filter_cons,if_pos h2];rfl,rfl,rfl⟩
  ·intro h2
   simp only [ZZ,WW,Ze,reduceCtorEq,zd,ze,zb,zf,za]
   ((repeat' (with_reducible apply And.intro))<;>try ((exact sc_)))
   refine qc4 _ _ ReOk.refl ?_
   simp only [ZZ,WW,Ze,reduceCtorEq,zd,ze,zb,zf,za]
   ((repeat' (with_reducible apply And.intro))<;>try ((exact sc_)))
   refine qac ((topsF il).length - (k+1)) [oo,oo,oo,.p (.ptr [.sl 7 (itE il)]),.p (.ptr [.sl 3 (rlE l)]),.p (.ptr [int order]),oo,.row (.l 7),oo,oo,oo,.p (.sl 2 ((topsF il).map (encF il))),.p (int ((topsF il).length:Nat)),.p (int ((k+1):Nat)),oo,oo,oo,oo,oo,oo,oo,oo,oo,oo,oo,oo,oo,oo,oo,oo] [(.l 7,.row w 119 2 true)] (by omega) (by (simp only [ZZ,WW,Ze,reduceCtorEq,zd,ze,zb,zf,za];try trivial)) (by (simp only [ZZ,WW,Ze,reduceCtorEq,zd,ze,zb,zf,za];try trivial)) ⟨k+1,w,by omega,rfl,by rw [htk,List.filter_append,List.map_append,← hw,List.filter_cons,if_neg (by rw [h2];simp)];simp,rfl,rfl⟩
 intro h
 have hge:(topsF il).length≤k:=by have:=of_decide_eq_false h;omega
 rw [List.take_of_length_le hge] at hw
 have hw:w=(chT il l).map fun s=>[PV.str s,.sl 1 (strE (s :: kidsF il s))]:=hw
 subst hw
 simp only [ZZ,WW,Ze,reduceCtorEq,zd,ze,zb,zf,za]
 refine useR (qpb (fun s=>s) (fun s=>strE (s :: kidsF il s)) (cfR il order) (by rw [← qsj];exact (qmS il order).ord) 88 [.ptr [.sl 7 (itE il)],.ptr [int order]] (fun _=>by kernel_rfl) (chT il l) (Nat.le_trans (Nat.le_trans (List.length_filter_le _ _) (qgL il [])) h12) (fun s _ t _=>qwM hP ho s t _ _) (fun _ _=>rfl) (fun _ _=>rfl)) rfl rfl rfl zE_ ?_
 rintro _ _ ⟨rfl,o,rfl,hp,hs⟩
 rw [← qsj] at hs
 have hoe:=qt5 hp hs
 subst hoe
 simp only [ZZ,WW,Ze,reduceCtorEq,zd,ze,zb,zf,za]
 rw [qa9]
 refine ⟨_,_,ReOk.refl,?_⟩
 simp only [ZZ,WW,Ze,reduceCtorEq,zd,ze,zb,zf,za]
 rfl
end
def qdH:IC:=(.seq (.reg [qO 15 (.bin .lss (.t 14) (.t 13))]) (.seq (.cond (.t 15) .skip (.exit 0)) (.seq (.block 1 (.seq (.reg [qM 16 14,qO 17 (.ixa 1 (.t 12) (.t 14)),qO 18 (.ld 1 false (.t 17)),qM 6 16,qM 7 18]) (.seq (.reg [qM 19 7,qM 20 19,⟨some 21,.mov (.t 5),(some (20,true))⟩,⟨some 22,.mov (.t 6),(some (20,true))⟩,⟨some 23,.ixa 1 (.t 21) (.t 22),(some (20,true))⟩,⟨some 24,.ld 1 false (.t 23),(some (20,true))⟩,⟨some 25,.bin .neq (.t 24) (.c (.int .u8 32)),(some (20,true))⟩,qO 26 (.pick (.t 20) (.t 25) (.c (.bool false))),qM 27 26,⟨some 28,.mov (.t 5),(some (27,true))⟩,⟨some 29,.mov (.t 6),(some (27,true))⟩,⟨some 30,.ixa 1 (.t 28) (.t 29),(some (27,true))⟩,⟨some 31,.ld 1 false (.t 30),(some (27,true))⟩,⟨some 32,.bin .neq (.t 31) (.c (.int .u8 10)),(some (27,true))⟩,qO 33 (.pick (.t 27) (.t 32) (.c (.bool false)))]) (.cond (.t 33) (.reg [qM 34 5,qM 35 6,qO 36 (.ixa 1 (.t 34) (.t 35)),⟨none,.st 1 (.t 36) (.c (.int .u8 35)),none⟩]) .skip)))) (.cut (.reg [qO 37 (.bin .add (.t 14) (.c (.int .i64 1))),qM 14 37])))))
def qe2:IC:=(.seq (.reg [qO 4 (.mov (.c (.str [])))]) (.seq (.reg [qM 8 0,qO 9 (.s2b 5 (.t 8)),qM 5 9]) (.seq (.seq (.reg [qM 10 0,qM 11 1,qO 12 (.call 202 [.t 10,.t 11]),qO 13 (.len (.t 12)),qO 14 (.mov (.c (.int .i64 0)))]) (.block 0 (.loop qdH))) (.seq (.reg [qM 38 5,qO 39 (.b2s (.t 38)),qM 4 39]) .ret))))
def qeR:List IRes:=[.t 4]
theorem qhZ:chkF Tryz.prog Tryz.f126 qe2 qeR 40=true:=by kernel_rfl
section
theorem qpd (s:List UInt8) (l:List (Int×Int)) (hs:s.length≤1000000) (hl:l.length≤1000000) (hv:Lib.validD s=true) (hb:∀ p∈l,0≤p.1∧p.1 < p.2∧p.2≤s.length) :
  PCall Tryz.prog E0 126 [.str s,sps l] (·=.str (qc5 s l)):=by
 refine qag mixed Tryz.func126 qhZ ?_
 simp only [a0,l0,OS.ao,zj,zo,zi,zn,zl,zm,zp,zd,zh,zk,qe2,qeR,ZZ,WW,Ze,reduceCtorEq,zd,ze,zb,zf,za]
 ((repeat' (with_reducible apply And.intro))<;>try ((exact sc_)))
 refine useF (qnZ s l hs hl hv hb) rfl rfl ?_
 rintro es rfl
 have hrf:qc5 s l=(List.range s.length).map (redG s fun j=>decide (j < s.length) && cov (qfd s l) j):=List.map_congr_left fun j hj=>by
  simp only [List.mem_range] at hj
  simp [redG,hj]
 rw [hrf]
 generalize cov (qfd s l)=C at *
 rw [qzW]
 simp only [ZZ,WW,Ze,reduceCtorEq,zd,ze,zb,zf,za,qj2,qgW]
 refine qad (fun n fr L=>∃ (k:Nat) (g:Nat→UInt8),k≤s.length∧n=s.length - k∧(g=redG s (fun j=>decide (j < k) && C j))∧fr=[oo,oo,oo,oo,oo,.row (.l 9),oo,oo,oo,oo,oo,oo,.row (.l 12),.p (int (s.length:Nat)),.p (int (k:Nat)),oo,oo,oo,oo,oo,oo,oo,oo,oo,oo,oo,oo,oo,oo,oo,oo,oo,oo,oo,oo,oo,oo,oo,oo,oo]∧L=[(.l 9,.row (bU s.length g) 5 1 false),(.l 12,.row (bl (tab s.length C)) 4 1 true)]) (s.length) [oo,oo,oo,oo,oo,.row (.l 9),oo,oo,oo,oo,oo,oo,.row (.l 12),.p (int (s.length:Nat)),.p (int (0:Nat)),oo,oo,oo,oo,oo,oo,oo,oo,oo,oo,oo,oo,oo,oo,oo,oo,oo,oo,oo,oo,oo,oo,oo,oo,oo] [(.l 9,.row (bU s.length (fun j=>s.getD j 0)) 5 1 false),(.l 12,.row (bl (tab s.length C)) 4 1 true)] (by (simp only [ZZ,WW,Ze,reduceCtorEq,zd,ze,zb,zf,za];try trivial)) (by (simp only [ZZ,WW,Ze,reduceCtorEq,zd,ze,zb,zf,za];try trivial)) ⟨0,fun j=>s.getD j 0,by omega,by omega,by funext j;simp [redG],rfl,rfl⟩ ?_
 rintro n fr L ⟨k,g,hk,rfl,hg,rfl,rfl⟩
 simp only [qdH,ZZ,WW,Ze,reduceCtorEq,zd,ze,zb,zf,za]
 refine br ?_ ?_
 ·intro h
  have hlt:k < s.length:=by have:=of_decide_eq_true h;omega
  have hgi:(bU s.length g).getD k []=[.int .u8 ((g k).toNat:Nat)]:=qyl hlt
  have hbl:=qyk s.length g
  have hset:(bU s.length g).set k [.int .u8 35]=bU s.length (fun j=>if j=k then 35 else g j):=qyj (35:UInt8)
  simp only [ZZ,WW,Ze,reduceCtorEq,zd,ze,zb,zf,za,qj2,qgW,qsr hlt,hgi,hbl]
  ((repeat' (with_reducible apply And.intro))<;>try ((exact sc_)))
  refine br ?_ ?_
  ·intro hc
   simp only [Bool.and_eq_true,Bool.not_eq_true'] at hc
   have hb:qhx (g k)=false:=by simp [qhx,hc.1.2,hc.2]
   have hnx:=qvP (s:=s) (i:=k) (by rw [← hg];exact hb)
   have hm:(fun j=>decide (j < k) && C j || decide (j=k))=(fun j=>decide (j < k+1) && C j):=by
    funext j
    by_cases hj:j=k
    ·subst hj;simp [hc.1.1]
    ·simp only [hj,decide_false,Bool.or_false]
     congr 1
     simp only [decide_eq_decide]
     omega
   rw [← hg,hm] at hnx
   simp only [ZZ,WW,Ze,reduceCtorEq,zd,ze,zb,zf,za,hgi,hbl,hset,hnx]
   ((repeat' (with_reducible apply And.intro))<;>try ((exact sc_)))
   refine qau zE_ ?_
   simp only [ZZ,WW,Ze,reduceCtorEq,zd,ze,zb,zf,za]
   ((repeat' (with_reducible apply And.intro))<;>try ((exact sc_)))
   refine qac (s.length - (k+1)) [oo,oo,oo,oo,oo,.row (.l 9),oo,oo,oo,oo,oo,oo,.row (.l 12),.p (int (s.length:Nat)),.p (int ((k+1):Nat)),oo,oo,oo,oo,oo,oo,oo,oo,oo,oo,oo,oo,oo,oo,oo,oo,oo,oo,oo,oo,oo,oo,oo,oo,oo] [(.l 9,.row (bU s.length (redG s (fun j=>decide (j < k+1) && C j))) 5 1 false),(.l 12,.row (bl (tab s.length C)) 4 1 true)] (by omega) (by (simp only [ZZ,WW,Ze,reduceCtorEq,zd,ze,zb,zf,za];try trivial)) (by (simp only [ZZ,WW,Ze,reduceCtorEq,zd,ze,zb,zf,za];try trivial)) ⟨k+1,redG s (fun j=>decide (j < k+1) && C j),by omega,rfl,rfl,rfl,rfl⟩
  ·intro hc
   have hnx:g=redG s (fun j=>decide (j < k+1) && C j):=by
    cases hck:C k with
    |false=>
     rw [hg]
     congr 1
     funext j
     by_cases hj:j=k
     ·subst hj;simp [hck]
     ·congr 1
      simp only [decide_eq_decide]
      omega
    |true=>
     rw [hck] at hc
     have hb:qhx (g k)=true:=by
      simp only [Bool.true_and,Bool.and_eq_false_iff,Bool.not_eq_false'] at hc
      rcases hc with hc|hc<;>simp [qhx,hc]
     have hnx:=qth (s:=s) (i:=k) (by rw [← hg];exact hb)
     have hm:(fun j=>decide (j < k) && C j || decide (j=k))=(fun j=>decide (j < k+1) && C j):=by
      funext j
      by_cases hj:j=k
      ·subst hj;simp [hck]
      ·simp only [hj,decide_false,Bool.or_false]
       congr 1
       simp only [decide_eq_decide]
       omega
     rw [hm] at hnx
     rw [hg]
     exact hnx
   simp only [ZZ,WW,Ze,reduceCtorEq,zd,ze,zb,zf,za]
   refine qau zE_ ?_
   simp only [ZZ,WW,Ze,reduceCtorEq,zd,ze,zb,zf,za]
   ((repeat' (with_reducible apply And.intro))<;>try ((exact sc_)))
   refine qac (s.length - (k+1)) [oo,oo,oo,oo,oo,.row (.l 9),oo,oo,oo,oo,oo,oo,.row (.l 12),.p (int (s.length:Nat)),.p (int ((k+1):Nat)),oo,oo,oo,oo,oo,oo,oo,oo,oo,oo,oo,oo,oo,oo,oo,oo,oo,oo,oo,oo,oo,oo,oo,oo,oo] [(.l 9,.row (bU s.length g) 5 1 false),(.l 12,.row (bl (tab s.length C)) 4 1 true)] (by omega) (by (simp only [ZZ,WW,Ze,reduceCtorEq,zd,ze,zb,zf,za];try trivial)) (by (simp only [ZZ,WW,Ze,reduceCtorEq,zd,ze,zb,zf,za];try trivial)) ⟨k+1,g,by omega,rfl,hnx,rfl,rfl⟩
 ·intro h
  have hge:k=s.length:=by have:=of_decide_eq_false h;omega
  subst hge
  simp only [ZZ,WW,Ze,reduceCtorEq,zd,ze,zb,zf,za,qt6]
  rw [hg]
end
def wr (l:List UInt8):SRow:=wrF l.length l
theorem qqN:∀ (n:Nat) (l:List UInt8),NcP l→l.length≤n→wrF n l=wr l:=by
 have key:∀ (N n m:Nat) (l:List UInt8),NcP l→l.length≤N→l.length≤n→l.length≤m→wrF n l=wrF m l:=by
  intro N
  induction N with
  |zero=>
   intro n m l _ h _ _
   rw [qhD (by omega),qhD (by omega)]
  |succ N ih=>
   intro n m l hn h h1 h2
   by_cases h80:80 < l.length
   ·obtain ⟨a,rfl⟩:∃ a,n=a+1:=⟨n - 1,by omega⟩
    obtain ⟨b,rfl⟩:∃ b,m=b+1:=⟨m - 1,by omega⟩
    have g:=qmZ hn h80
    have e1:=ih a b (l.drop ((liW l).toNat+1)) (qiF hn _) (by rw [List.length_drop];omega) (by rw [List.length_drop];omega) (by rw [List.length_drop];omega)
    have e2:=ih a b (l.drop (qby l 80)) (qiF hn _) (by rw [List.length_drop];omega) (by rw [List.length_drop];omega) (by rw [List.length_drop];omega)
    rw [wrF,wrF,e1,e2]
   ·rw [qhD (by omega),qhD (by omega)]
 intro n l h0 h
 exact key l.length n l.length l h0 (Nat.le_refl _) h (Nat.le_refl _)
theorem qsR {l:List UInt8} (h:l.length≤80):wr l=[l]:=qhD h
theorem qw9 {l:List UInt8} (hn:NcP l) (h:80 < l.length) (hb:brkB l=true):wr l=l.take (liW l).toNat :: wr (l.drop ((liW l).toNat+1)):=by
 obtain ⟨a,ha⟩:∃ a,l.length=a+1:=⟨l.length - 1,by omega⟩
 have:wr l=wrF (a+1) l:=by rw [wr,ha]
 rw [this,wrF,if_pos h,if_pos hb,qqN a _ (qiF hn _) (by rw [List.length_drop];omega)]
theorem qw8 {l:List UInt8} (hn:NcP l) (h:80 < l.length) (hb:brkB l=false):wr l=l.take (qby l 80) :: wr (l.drop (qby l 80)):=by
 obtain ⟨a,ha⟩:∃ a,l.length=a+1:=⟨l.length - 1,by omega⟩
 have:wr l=wrF (a+1) l:=by rw [wr,ha]
 have g:=qmZ hn h
 rw [this,wrF,if_pos h,if_neg (by rw [hb];simp),qqN a _ (qiF hn _) (by rw [List.length_drop];omega)]
theorem quO (l:List UInt8):liW l=liF (l.take 81) 32:=rfl
theorem qxX {l:List UInt8} (h:80 < l.length):-1≤liW l∧liW l < 81:=by
 rw [quO]
 have hl:(l.take 81).length=81:=by rw [List.length_take];omega
 rcases qxY (l.take 81) 32 with ⟨h1,h2⟩|⟨h1,h2⟩
 ·rw [hl] at h2;exact ⟨h1,h2⟩
 ·rw [h2];omega
theorem qsu {s:List UInt8} {k:Nat} (hk:qby s k=qby s 80) (hl:k < s.length) (h0:0 < k) (h:ctB (s.getD k 0)=false):k=qby s 80:=by
 obtain ⟨g,rfl⟩:∃ g,k=g+1:=⟨k - 1,by omega⟩
 rw [← hk,qby,if_neg (by rw [qmF hl,h];simp)]
theorem qwW {s:List UInt8} {k:Nat} (hk:qby s (k+1)=qby s 80) (hl:k+1 < s.length) (h:ctB (s.getD (k+1) 0)=true):qby s k=qby s 80:=by
 rw [← hk,qby,if_pos (by rw [qmF hl,h])]
end Go.Proofs.YtehfjlpenlffmaaGreatDoor
