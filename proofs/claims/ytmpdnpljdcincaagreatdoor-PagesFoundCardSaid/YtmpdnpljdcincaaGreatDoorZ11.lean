import Derived.Test.YtmpdnpljdcincaaGreatDoorZ10
import Derived.Test.YtmpdnpljdcincaaGreatDoorZ9
import Derived.Lib.Join
import Derived.Test.YtmpdnpljdcincaaGreatDoorZ8
import Derived.Lib.IndexMore
import Derived.Lib.ValidLaws
import Derived.Test.YtmpdnpljdcincaaGreatDoorLayDecode
import Derived.Lib.LastIndexByte
import Derived.Test.YtmpdnpljdcincaaGreatDoorLayLastIndex
import Derived.Test.YtmpdnpljdcincaaGreatDoorZ4
import Derived.Lib.OwnBridge
import Derived.WalkKit
set_option linter.unusedVariables false
set_option linter.unusedSimpArgs false
set_option linter.defProp false
namespace Go.Proofs.YtmpdnpljdcincaaGreatDoor
open Go.RowKit
section
variable {E:Envt} {L:Objs} {k:Key} {i:Nat} {fr:List AV} {d:Option Nat} {is:List IOper} {Y:List PV} {K:List AV→Objs→Prop}
end
end Go.Proofs.YtmpdnpljdcincaaGreatDoor
namespace Go.Proofs.YtmpdnpljdcincaaGreatDoor
end Go.Proofs.YtmpdnpljdcincaaGreatDoor
namespace Go.Proofs.YtmpdnpljdcincaaGreatDoor
open List renaming getElem?_eq_none→ya
open Go.RowKit
def qbm:IC:=(sR [qT 9 .lss 8 7] (.seq (.cond (.t 9) .skip (.exit 0)) (.seq (.block 1 (sR [qM 10 8,qM 5 10] (sR [qM 11 1,qM 12 0,qM 13 5,qX 14 1 12 13,qL 15 14,qO 16 (.callv (.t 11) [.t 15])] (.cond (.t 16) (sR [qM 17 5,qM 4 17] .ret) .skip)))) (.reg [qB 18 .add 8 (cI 1),qM 8 18]))))
def qbL:IC:=(sR [qO 4 (.mov (cI 0))] (.seq (sR [qM 6 0,qN 7 6,qO 8 (.mov (cI 0))] (.block 0 (.loop qbm))) (sR [qO 4 (.mov (cI (-1)))] .ret)))
def qbK:List IRes:=[.t 4]
theorem qeG:chkF Tryz.prog Tryz.f138 qbL qbK 19=true:=by kernel_rfl
def qbo:IC:=(sR [qO 4 (.mov (.c (.bool false)))] (sR [qM 5 0,qM 6 1,qO 7 (.call 138 [.t 5,.t 6]),qB 8 .geq 7 (cI 0),qM 4 8] .ret))
def qbl:List IRes:=[.t 4]
theorem qdM:chkF Tryz.prog Tryz.f92 qbo qbl 9=true:=by kernel_rfl
section
variable {E:Envt}
def idxF {α:Type} (q:α→Bool) (l:List α):Int:=match l.findIdx? q with|some i=>(i:Int)|none=>-1
theorem qhv {α:Type} {q:α→Bool} {l:List α} {k:Nat} {x:α} (h:l[k]?=some x) (hx:q x=true) (hno:∀ y∈l.take k,q y=false):idxF q l=k:=by
 obtain ⟨hk,hxk⟩:=List.getElem?_eq_some_iff.1 h
 have:l.findIdx? q=some k:=by
  rw [List.findIdx?_eq_some_iff_getElem]
  refine ⟨hk,by rw [hxk];exact hx,fun j hj=>?_⟩
  have:=hno l[j] (by rw [List.mem_take_iff_getElem];exact ⟨j,by omega,rfl⟩)
  simp [this]
 simp [idxF,this]
theorem qfO {α:Type} {q:α→Bool} {l:List α} (hno:∀ y∈l,q y=false):idxF q l=-1:=by
 have:l.findIdx? q=none:=by rw [List.findIdx?_eq_none_iff];exact hno
 simp [idxF,this]
theorem qk3 {α:Type} (q:α→Bool) (l:List α):decide ((0:Int)≤idxF q l)=l.any q:=by
 rw [← List.findIdx?_isSome]
 unfold idxF
 cases l.findIdx? q<;>simp
end
section
variable {E:Envt}
end
theorem qza (n:Nat):List.replicate n [PV.bool false]=bl (tab n fun _=>false):=by
 unfold bl tab
 rw [List.map_map]
 refine List.ext_getElem? fun j=>?_
 by_cases hj:j < n
 ·simp [hj]
 ·rw [ya (by simpa using hj),ya (by simpa using hj)]
end Go.Proofs.YtmpdnpljdcincaaGreatDoor
namespace Go.Proofs.YtmpdnpljdcincaaGreatDoor
open List renaming length_drop→z8
open Bool renaming and_eq_true→zl
theorem qrI (n b0 b1 b2 b3:Nat) (hn:1≤n) (h:¬ ((Lib.decodeN n b0 b1 b2 b3).1=65533∧(Lib.decodeN n b0 b1 b2 b3).2=1)) :
  (Lib.decodeN n b0 b1 b2 b3).2≤n∧b0 / 64≠2∧(1 < (Lib.decodeN n b0 b1 b2 b3).2→b1 / 64=2)∧(2 < (Lib.decodeN n b0 b1 b2 b3).2→b2 / 64=2)∧(3 < (Lib.decodeN n b0 b1 b2 b3).2→b3 / 64=2)∧(Lib.decodeN n b0 b1 b2 b3).2≤4∧1≤(Lib.decodeN n b0 b1 b2 b3).2:=by
 revert h
 unfold Lib.decodeN
 repeat' split
 all_goals simp only [not_true,not_false_eq_true,and_self,false_imp_iff,true_imp_iff]
 all_goals (try (intro h))
 all_goals (try simp at h)
 all_goals (refine ⟨?_,?_,?_,?_,?_,?_,?_⟩)
 all_goals omega
def inP (s:List UInt8) (i:Nat):Prop:=i < s.length∧(s.getD i 0).toNat / 64=2
theorem qjW (s:List UInt8) (i:Nat):insE s (i:Int)=true↔inP s i:=by
 simp only [insE,zl,decide_eq_true_eq,inP,Int.toNat_natCast]
 omega
theorem qpC {s:List UInt8} {i:Nat} (h:Lib.validD (s.drop i)=true) (hi:i < s.length) :
  ¬ inP s i∧1≤(Lib.decodeL (s.drop i)).2∧i+(Lib.decodeL (s.drop i)).2≤s.length∧(∀ j,i < j→j < i+(Lib.decodeL (s.drop i)).2→inP s j)∧Lib.validD (s.drop (i+(Lib.decodeL (s.drop i)).2))=true:=by
 have hne:s.drop i≠[]:=by
  intro e
  have:=congrArg List.length e
  rw [z8] at this
  simp at this
  omega
 rw [Lib.validD_step _ hne] at h
 split at h
 ·cases h
 rename_i hc
 have hl:(s.drop i).length=s.length - i:=z8
 have hg:∀ k,(s.drop i).getD k 0=s.getD (i+k) 0:=fun k=>by simp [List.getD,List.getElem?_drop]
 rw [List.drop_drop] at h
 rw [Lib.decodeL_N] at hc h ⊢
 rw [hl,hg,hg,hg,hg] at hc h ⊢
 obtain ⟨h1,h2,h3,h4,h5,h6,h7⟩:=qrI _ _ _ _ _ (by omega) hc
 generalize Lib.decodeN (s.length - i) (s.getD (i+0) 0).toNat (s.getD (i+1) 0).toNat (s.getD (i+2) 0).toNat (s.getD (i+3) 0).toNat=d at *
 refine ⟨fun hp=>h2 hp.2,h7,by omega,fun j hj1 hj2=>⟨by omega,?_⟩,h⟩
 rcases (by omega:j=i+1∨j=i+2∨j=i+3) with rfl|rfl|rfl
 ·exact h3 (by omega)
 ·exact h4 (by omega)
 ·exact h5 (by omega)
def qAR (s:List UInt8) (a b:Nat):Prop:=∀ i,(a < i∧i≤b)∨(b < i∧i≤a)→inP s i
theorem qpg (s:List UInt8):∀ (f j:Nat),j≤f→(qbH s f≤j↔∀ i,j < i→i≤f→inP s i)
 |0,j,h=>by
  constructor
  ·intro _ i h1 h2;omega
  ·intro _;simp [qbH]
 |f+1,j,h=>by
  unfold qbH
  split
  ·rename_i hin
   rw [qjW] at hin
   by_cases hj:j=f+1
   ·subst hj
    constructor
    ·intro _ i h1 h2;omega
    ·intro _;have:=qmw s f;omega
   ·rw [qpg s f j (by omega)]
    constructor
    ·intro h1 i h2 h3
     by_cases hi:i=f+1
     ·subst hi;exact hin
     ·exact h1 i h2 (by omega)
    ·intro h1 i h2 h3
     exact h1 i h2 (by omega)
  ·rename_i hin
   rw [qjW] at hin
   constructor
   ·intro h1 i h2 h3;omega
   ·intro h1
    by_cases hj:j=f+1
    ·omega
    ·exact absurd (h1 (f+1) (by omega) (by omega)) hin
theorem qrz (s:List UInt8):∀ (d t j:Nat),s.length≤t+d→t≤j→(j < fwdN s d t↔∀ i,t≤i→i≤j→inP s i)
 |0,t,j,h,hj=>by
  unfold fwdN
  constructor
  ·intro h1;omega
  ·intro h1
   have:=(h1 t (Nat.le_refl _) hj).1
   omega
 |d+1,t,j,h,hj=>by
  unfold fwdN
  split
  ·rename_i hin
   rw [qjW] at hin
   by_cases hjt:j=t
   ·subst hjt
    constructor
    ·intro _ i h1 h2
     have:i=j:=by omega
     subst this;exact hin
    ·intro _;have:=qrA s d (j+1);omega
   ·rw [qrz s d (t+1) j (by omega) (by omega)]
    constructor
    ·intro h1 i h2 h3
     by_cases hi:i=t
     ·subst hi;exact hin
     ·exact h1 i (by omega) h3
    ·intro h1 i h2 h3
     exact h1 i (by omega) h3
  ·rename_i hin
   rw [qjW] at hin
   constructor
   ·intro h1;omega
   ·intro h1
    exact absurd (h1 t (Nat.le_refl _) hj) hin
theorem qtB {s:List UInt8} {l:List (Int×Int)} (hl:∀ p∈l,0≤p.1∧p.1 < p.2∧p.2≤s.length) (j:Nat):cov (qfW s l) j=true↔∃ j':Nat,cov l j'=true∧qAR s j j':=by
 simp only [cov,List.any_eq_true,zl,decide_eq_true_eq,qfW,List.mem_map]
 constructor
 ·rintro ⟨_,⟨p,hp,rfl⟩,h1,h2⟩
  obtain ⟨b1,b2,b3⟩:=hl p hp
  simp only [pntF] at h1 h2
  by_cases c1:(j:Int) < p.1
  ·refine ⟨p.1.toNat,⟨p,hp,by omega,by omega⟩,?_⟩
   have:=(qpg s p.1.toNat j (by omega)).1 (by omega)
   rintro i (⟨g1,g2⟩|⟨g1,g2⟩)
   ·exact this i g1 g2
   ·omega
  ·by_cases c2:(j:Int) < p.2
   ·refine ⟨j,⟨p,hp,by omega,c2⟩,?_⟩
    rintro i (⟨g1,g2⟩|⟨g1,g2⟩)<;>omega
   ·refine ⟨(p.2 - 1).toNat,⟨p,hp,by omega,by omega⟩,?_⟩
    have:=(qrz s (s.length - p.2.toNat) p.2.toNat j (by omega) (by omega)).1 (by omega)
    rintro i (⟨g1,g2⟩|⟨g1,g2⟩)
    ·omega
    ·exact this i (by omega) g2
 ·rintro ⟨j',⟨p,hp,h1,h2⟩,hs⟩
  obtain ⟨b1,b2,b3⟩:=hl p hp
  refine ⟨_,⟨p,hp,rfl⟩,?_,?_⟩
  ·simp only [pntF]
   have hbl:=qmw s p.1.toNat
   by_cases c1:(j:Int) < p.1
   ·have:=(qpg s p.1.toNat j (by omega)).2 (fun i g1 g2=>hs i (.inl ⟨g1,by omega⟩))
    omega
   ·omega
  ·simp only [pntF]
   have hfl:=qrA s (s.length - p.2.toNat) p.2.toNat
   by_cases c2:(j:Int) < p.2
   ·omega
   ·have:=(qrz s (s.length - p.2.toNat) p.2.toNat j (by omega) (by omega)).2 (fun i g1 g2=>hs i (.inr ⟨by omega,g2⟩))
    omega
theorem qtd {s:List UInt8} {i n j j':Nat} (h0:¬ inP s i) (h1:∀ k,i < k→k < i+n→inP s k) (h2:¬ inP s (i+n)) (hj:i≤j∧j < i+n):qAR s j j'↔i≤j'∧j' < i+n:=by
 constructor
 ·intro h
  constructor
  ·rcases Nat.lt_or_ge j' i with h'|h'
   ·exact absurd (h i (.inr ⟨h',hj.1⟩)) h0
   ·exact h'
  ·rcases Nat.lt_or_ge j' (i+n) with h'|h'
   ·exact h'
   ·exact absurd (h (i+n) (.inl ⟨hj.2,h'⟩)) h2
 ·rintro ⟨g1,g2⟩ k (⟨k1,k2⟩|⟨k1,k2⟩)
  ·exact h1 k (by omega) (by omega)
  ·exact h1 k (by omega) (by omega)
theorem qtQ {s:List UInt8} {i:Nat} (h:Lib.validD (s.drop i)=true):¬ inP s i:=by
 intro hp
 exact (qpC h hp.1).1 hp
theorem qko:∀ (kv:List (List UInt8×PV)) (s t:List UInt8) (v:PV),mpF (mpS kv s v) t=if s=t then some v else mpF kv t
 |[],s,t,v=>by simp [mpS,mpF]
 |p :: r,s,t,v=>by
  simp only [mpS]
  split
  ·rename_i h
   by_cases hs:s=t
   ·simp [mpF,hs]
   ·simp [mpF,hs,h]
  ·rename_i h
   simp only [mpF,qko r s t v]
   by_cases hp:p.1=t
   ·have:¬ s=t:=fun e=>h (hp.trans e.symm)
    simp [hp,this]
   ·simp [hp]
def qui (kv:List (List UInt8×PV)) (W:List (List UInt8)):Prop:=∀ w,mpD kv w (.bool false)=.bool (decide (w∈W))
theorem quh:qui [] []:=fun w=>by simp [mpD,mpF]
theorem qug {kv:List (List UInt8×PV)} {W:List (List UInt8)} (h:qui kv W) (s:List UInt8):qui (mpS kv s (.bool true)) (W++[s]):=fun w=>by
 have h:=h w
 unfold mpD at h ⊢
 rw [qko]
 by_cases hs:s=w
 ·simp [hs]
 ·have hw:¬ w=s:=fun e=>hs e.symm
  rw [if_neg hs,h]
  simp [hw]
end Go.Proofs.YtmpdnpljdcincaaGreatDoor
namespace Go.Proofs.YtmpdnpljdcincaaGreatDoor
open Nat renaming reduceAdd→zd,reduceEqDiff→za,reduceLT→zf,reduceLeDiff→zb,reduceMul→ze,reduceSub→zx
open List renaming cons_append→zp,eq_nil_of_length_eq_zero→zz,getElem?_drop→z7,getElem?_eq_some_iff→zt,getElem?_take→yg,length_cons→zj,length_nil→zr,map_cons→zo,map_nil→zw,nil_append→zq,replicate_succ→zi,replicate_zero→zm
open Go.RowKit
section
variable {P:Program} {E:Envt} {w:World} {U:Nat→Prop}
theorem qvz {z b:Nat}:∀ (es:List (List PV)) (vs:List Value) (off:Nat),(∀ x∈es,x.length=z)→PRepL w U es.flatten vs→(∀ v∈vs,v.oneCell'=true)→(∀ j u,vs[j]?=some u→w.cell? ⟨b,off+j,none⟩=some u)→PRepE w U b z off es:=by
 intro es
 induction es with
 |nil=>intros;simp [PRepE]
 |cons x r ih=>
  intro vs off hz hv h1 hc
  simp only [PRepE]
  have hx:=hz x (by simp)
  simp only [List.flatten_cons] at hv
  have ha:=hv.take x.length
  have hb:=hv.drop x.length
  rw [List.take_left] at ha
  rw [List.drop_left] at hb
  refine ⟨hx,PRepC.of ha (fun v hv=>h1 v (List.mem_of_mem_take hv)) (fun j u hu=>hc j u (by rw [yg] at hu;split at hu;exact hu;cases hu)),ih _ (off+z) (fun y hy=>hz y (by simp [hy])) hb (fun v hv=>h1 v (List.mem_of_mem_drop hv)) (fun j u hu=>?_)⟩
  rw [z7] at hu
  have:=hc _ u hu
  rwa [hx,← Nat.add_assoc] at this
theorem qA5 {f:FuncId} {args:List PV} {e z:Nat} {φ:List (List PV)→Prop} (h:FCall P E f args e z φ):PCall P E f args (fun x=>∃ es,x=.sl z es∧φ es):=by
 intro w U vs hU hE hEb hA
 refine (h w U vs undef hU hE (fun c hc=>⟨hEb c hc,fun h=>by cases h⟩) hA trivial).mono ?_
 rintro e' w' ⟨v,r,os',rfl,⟨es,rfl,hφ⟩,⟨us,hrow,h1,hl,hz,hb⟩,hg⟩
 refine ⟨v,.sl z es,rfl,⟨es,rfl,hφ⟩,?_,hg⟩
 have hcl:=fun g m c hv=>hrow.cells (g:=g) (m:=m) (c:=c) hv
 rcases hrow.2 with ⟨rfl,g2⟩|⟨g,cap,cur,fz,rfl,k2,k3,_⟩
 ·exact ⟨none,0,by rw [g2],by omega,fun hne=>absurd (zz g2) hne⟩
 ·refine ⟨_,cap,rfl,k3,fun _=>⟨g,0,rfl,(Array.getElem?_eq_some_iff.1 k2).1,fun hu=>?_,?_⟩⟩
  ·have h1:=hU g hu
   have h2:=hb g rfl
   omega
  ·refine qvz es us 0 hz (PRepL.mono (fun c _ hu=>⟨rfl,fun h=>hu (.inl h)⟩) _ _ hl) h1 (fun j u hu=>?_)
   rw [Nat.zero_add]
   exact hcl g _ _ rfl j u hu
theorem qzl {f:FuncId} {args:List PV} {e z:Nat} {es:List (List PV)} (h:FCall P E f args e z (·=es)):PCall P E f args (·=.sl z es):=by
 intro w U vs hU hE hEb hA
 refine (qA5 h w U vs hU hE hEb hA).mono ?_
 rintro e' w' ⟨v,x,h1,⟨es',rfl,rfl⟩,h2⟩
 exact ⟨v,_,h1,rfl,h2⟩
end
def qcG:IC:=(sR [qT 9 .lss 8 7] (.seq (.cond (.t 9) .skip (.exit 0)) (.seq (.block 1 (sR [qM 10 8,qM 5 10] (sR [qM 11 1,qM 12 0,qM 13 5,qX 14 1 12 13,qL 15 14,qO 16 (.bnb .eql (.t 11) (.t 15))] (.cond (.t 16) (sR [qM 17 5,qM 4 17] .ret) .skip)))) (.reg [qB 18 .add 8 (cI 1),qM 8 18]))))
def qdz:IC:=(sR [qO 4 (.mov (cI 0))] (.seq (sR [qM 6 0,qN 7 6,qO 8 (.mov (cI 0))] (.block 0 (.loop qcG))) (sR [qO 4 (.mov (cI (-1)))] .ret)))
def qdp:List IRes:=[.t 4]
theorem qhz:chkF Tryz.prog Tryz.f282 qdz qdp 19=true:=by kernel_rfl
def qcH:IC:=(sR [qO 4 (.mov (.c (.bool false)))] (sR [qM 5 0,qM 6 1,qO 7 (.call 282 [.t 5,.t 6]),qB 8 .geq 7 (cI 0),qM 4 8] .ret))
def qcC:List IRes:=[.t 4]
theorem qgn:chkF Tryz.prog Tryz.f249 qcH qcC 9=true:=by kernel_rfl
def qdF:IC:=(sR [qT 39 .lss 38 37] (.seq (.cond (.t 39) .skip (.exit 2)) (.seq (.block 3 (sR [qM 40 38,qM 11 40] (.reg [qM 41 6,qM 42 7,qM 43 11,qT 44 .add 42 43,qM 45 10,qX 46 1 41 44,qS 1 46 45]))) (.reg [qB 47 .add 38 (cI 1),qM 38 47]))))
def qdG:IC:=(.seq (sR [qM 19 7,qM 20 0,qO 21 (.sln (.t 20)),qT 22 .lss 19 21] (.cond (.t 22) .skip (.exit 0))) (.block 1 (sR [qM 24 0,qM 25 7,qO 26 (.ssl (.t 24) (some (.t 25)) none),qO 27 (.call 230 [.t 26]),qM 23 27,qO 28 (.ext 0 (.t 23)),qO 29 (.ext 1 (.t 23)),qM 8 28,qM 9 29] (sR [qM 30 5,qM 31 7,qM 32 7,qM 33 9,qT 34 .add 32 33,qO 35 (.vsl 1 (.t 30) (some (.t 31)) (some (.t 34))),qO 36 (.call 249 [.t 35,.c (.bool true)]),qM 10 36] (.seq (sR [qM 37 9,qO 38 (.mov (cI 0))] (.block 2 (.loop qdF))) (.reg [qM 48 7,qM 49 9,qT 50 .add 48 49,qM 7 50]))))))
def qe3:IC:=(sR [qO 4 (.mov (.c (.nl 1)))] (sR [qM 12 1,qM 13 0,qO 14 (.sln (.t 13)),qO 15 (.call 248 [.t 12,.t 14]),qM 5 15] (sR [qM 16 0,qO 17 (.sln (.t 16)),qO 18 (.mks 4 1 1 [.bool false] (.t 17) (.t 17)),qM 6 18] (.seq (sR [qO 7 (.mov (cI 0))] (.block 0 (.loop qdG))) (sR [qM 51 6,qM 4 51] .ret)))))
def qeP:List IRes:=[.t 4]
theorem qi2:chkF Tryz.prog Tryz.f204 qe3 qeP 52=true:=by kernel_rfl
section
variable {E:Envt}
theorem qv4 (l:List Bool) (b:Bool) (hl:l.length≤1000000000):PCall Tryz.prog E 282 [.sl 1 (bl l),.bool b] (·=int (idxF (· == b) l)):=by
 refine qag mixed Tryz.func282 qhz ?_
 simp only [a0,l0,OS.ao,zo,zw,zj,zr,zp,zq,zx,zd,zi,zm,qdz,qdp,ZZ,WW,Ze,reduceCtorEq,zd,ze,zb,zf,za]
 have hln:=qlY l
 have hget:∀ k x,l[k]?=some x→(bl l).getD k []=[.bool x]:=fun k p hp=>qaC hp
 generalize bl l=es at hln hget ⊢
 simp only [ZZ,WW,Ze,reduceCtorEq,zd,ze,zb,zf,za,hln]
 refine qad (fun n fr L=>∃ (k:Nat),k≤l.length∧n=l.length - k∧(∀ x∈l.take k,(x == b)=false)∧fr=(.p (.sl 1 es)::.p (.bool b)::oC (oo::(.p (int (l.length:Nat))::.p (int (k:Nat))::oD (oB []))))∧L=[]) (l.length) _ [] (by (simp only [ZZ,WW,Ze,reduceCtorEq,zd,ze,zb,zf,za];try trivial)) (by (simp only [ZZ,WW,Ze,reduceCtorEq,zd,ze,zb,zf,za];try trivial)) ⟨0,by omega,by omega,by simp,rfl,rfl⟩ ?_
 rintro n fr L ⟨k,hk,rfl,hno,rfl,rfl⟩
 simp only [qcG,ZZ,WW,Ze,reduceCtorEq,zd,ze,zb,zf,za]
 refine br ?_ ?_
 ·intro h
  have hlt:k < l.length:=by have:=of_decide_eq_true h;omega
  obtain ⟨x,hx⟩:∃ x,l[k]?=some x:=⟨_,List.getElem?_eq_getElem hlt⟩
  have hg:=hget k x hx
  simp only [ZZ,WW,Ze,reduceCtorEq,zd,ze,zb,zf,za,hg,hln]
  ((with_reducible and_intros)<;>try exact sc_)
  refine br ?_ ?_
  ·intro hq
   refine zS ?_
   rw [qhv hx (by rw [Bool.beq_comm];exact hq) hno]
  ·intro hq
   refine zS ?_
   ((with_reducible and_intros)<;>try exact sc_)
   refine qac (l.length - (k+1)) _ [] (by omega) (by (simp only [ZZ,WW,Ze,reduceCtorEq,zd,ze,zb,zf,za];try trivial)) (by (simp only [ZZ,WW,Ze,reduceCtorEq,zd,ze,zb,zf,za];try trivial)) ⟨k+1,by omega,rfl,by rw [List.take_succ_eq_append_getElem hlt];intro y hy;rcases List.mem_append.1 hy with hy|hy;exact hno y hy;rw [List.mem_singleton] at hy;rw [hy,(zt.1 hx).2,Bool.beq_comm];exact hq,rfl,rfl⟩
 ·intro h
  have hge:l.length≤k:=by have:=of_decide_eq_false h;omega
  rw [List.take_of_length_le hge] at hno
  refine zS ?_
  rw [qfO hno]
theorem qqX (l:List Bool) (b:Bool) (hl:l.length≤1000000000):PCall Tryz.prog E 249 [.sl 1 (bl l),.bool b] (·=.bool (l.any (· == b))):=by
 refine qag mixed Tryz.func249 qgn ?_
 simp only [a0,l0,OS.ao,zo,zw,zj,zr,zp,zq,zx,zd,zi,zm,qcH,qcC,ZZ,WW,Ze,reduceCtorEq,zd,ze,zb,zf,za]
 refine use1 (qv4 l b hl) rfl (.inl rfl) ?_
 refine zS ?_
 rw [qk3]
theorem qxK {N a b:Nat} {c:Nat→Bool}:(((tab N c).take b).drop a).any (· == true)=true↔∃ j,a≤j∧j < b∧j < N∧c j=true:=by
 rw [List.any_eq_true]
 constructor
 ·rintro ⟨x,hx,h⟩
  obtain ⟨i,hi⟩:=List.getElem?_of_mem hx
  rw [z7,yg] at hi
  split at hi
  ·rename_i hlt
   have hN:a+i < N:=by have:=(zt.1 hi).1;rw [qid] at this;exact this
   rw [qof hN] at hi
   cases hi
   exact ⟨a+i,by omega,hlt,hN,by simpa using h⟩
  ·cases hi
 ·rintro ⟨j,h1,h2,h3,h4⟩
  refine ⟨true,?_,rfl⟩
  refine List.mem_of_getElem? (i:=j - a) ?_
  rw [z7,yg,if_pos (by omega),show a+(j - a)=j from by omega,qof h3,h4]
theorem qAk {l:List Bool} {a b:Nat}:((bl l).take b).drop a=bl ((l.take b).drop a):=by simp [bl,List.map_drop,List.map_take]
theorem qv7 (t:List UInt8) (ht:t≠[]):PCall Tryz.prog E0 230 [.str t] (·=.tup [.int .i32 (Lib.decodeL t).1,int (Lib.decodeL t).2]):=
 qbp rfl rfl fun w hE=>(Any.utf8_DecodeRuneInString Tryz.layDecode ⟨t.toArray⟩ w hE.1).mono fun e w' h=>⟨by
  have hd:Lib.decodeGo ⟨t.toArray⟩=Lib.decodeL t:=by
   unfold Lib.decodeGo
   rw [if_neg (by rw [qeH];exact fun e=>ht (zz e))]
   rfl
  rw [h.1,hd];rfl,qc0 h.2⟩
theorem qqy (s:List UInt8) (l:List (Int×Int)) (hs:s.length≤1000000) (hl:l.length≤1000000) (hv:Lib.validD s=true) (hb:∀ p∈l,0≤p.1∧p.1 < p.2∧p.2≤s.length) :
  FCall Tryz.prog E0 204 [.str s,sps l] 4 1 (·=bl (tab s.length (cov (qfW s l)))):=by
 unfold FCall
 refine qjt mixed Tryz.func204 qi2 ?_
 simp only [a0,l0,OS.ao,zo,zw,zj,zr,zp,zq,zx,zd,zi,zm,qe3,qeP,ZZ,WW,Ze,reduceCtorEq,zd,ze,zb,zf,za]
 refine use1 (qzl (qtm l s.length hl hs (fun p hp=>by have:=hb p hp;omega))) rfl (.inl rfl) ?_
 refine zS ?_
 ((with_reducible and_intros)<;>try exact sc_)
 rw [qza]
 have hcp:=fun j=>qtB hb j
 have hpl:=qlY (tab s.length (cov l))
 rw [qid] at hpl
 have hpart:=fun a b=>@qAk (tab s.length (cov l)) a b
 generalize cov (qfW s l)=C at *
 have hany:=fun a b=>@qxK s.length a b (cov l)
 refine qad (fun n fr L=>∃ (i:Nat) (g:Nat→Bool),s.length - i=n∧(i≤s.length)∧(Lib.validD (s.drop i)=true)∧(∀ j,j < s.length→g j=(decide (j < i) && C j))∧fr=(.p (.str s)::oo::oo::oo::oo::.p (.sl 1 (bl (tab s.length (cov l))))::.row (.l 18)::.p (int (i:Nat))::oF (oD (oC [])))∧L=[(.l 18,.row (bl (tab s.length g)) 4 1 true)]) (s.length - 0) (.p (.str s)::oo::oo::oo::oo::.p (.sl 1 (bl (tab s.length (cov l))))::.row (.l 18)::.p (int (0:Nat))::oF (oD (oC []))) [(.l 18,.row (bl (tab s.length (fun _=>false))) 4 1 true)] (by (simp only [ZZ,WW,Ze,reduceCtorEq,zd,ze,zb,zf,za];try trivial)) (by (simp only [ZZ,WW,Ze,reduceCtorEq,zd,ze,zb,zf,za];try trivial)) ⟨0,fun _=>false,rfl,by omega,hv,by intro j _;simp,rfl,rfl⟩ ?_
 rintro n fr L ⟨i,g,rfl,hi,hvi,hg,rfl,rfl⟩
 simp only [qdG,ZZ,WW,Ze,reduceCtorEq,zd,ze,zb,zf,za]
 refine br ?_ ?_
 ·intro h
  have hlt:i < s.length:=by have:=of_decide_eq_true h;omega
  obtain ⟨c1,c2,c3,c4,c5⟩:=qpC hvi hlt
  have hne:s.drop i≠[]:=by intro e;have:=congrArg List.length e;rw [List.length_drop] at this;simp at this;omega
  refine zS ?_
  ((with_reducible and_intros)<;>try exact sc_)
  rw [List.take_length]
  refine use1 (qv7 (s.drop i) hne) rfl (.inl rfl) ?_
  generalize (Lib.decodeL (s.drop i)).1=r at *
  generalize (Lib.decodeL (s.drop i)).2=m at *
  have e1:((i:Nat):Int)+((m:Nat):Int)=((i+m:Nat):Int):=by omega
  simp only [ZZ,WW,Ze,reduceCtorEq,zd,ze,zb,zf,za,hpl,e1]
  ((with_reducible and_intros)<;>try exact sc_)
  rw [hpart]
  refine use1 (qqX _ true (by simp [qid];omega)) rfl (.inl rfl) ?_
  have hon:∀ j,i≤j→j < i+m→(((tab s.length (cov l)).take (i+m)).drop i).any (· == true)=C j:=by
   intro j h1 h2
   rw [Bool.eq_iff_iff,hany,hcp]
   have hbk:=fun j'=>qtd (j':=j') c1 c4 (qtQ c5) ⟨h1,h2⟩
   constructor
   ·rintro ⟨k,k1,k2,k3,k4⟩
    exact ⟨k,k4,(hbk k).2 ⟨k1,k2⟩⟩
   ·rintro ⟨k,k4,k5⟩
    obtain ⟨k1,k2⟩:=(hbk k).1 k5
    exact ⟨k,k1,k2,by omega,k4⟩
  generalize (((tab s.length (cov l)).take (i+m)).drop i).any (· == true)=on at *
  refine zS ?_
  refine qad (fun n fr L=>∃ (k:Nat) (g':Nat→Bool),k≤m∧n=m - k∧(∀ j,j < s.length→g' j=(decide (j < i+k) && C j))∧fr=(.p (.str s)::oo::oo::oo::oo::.p (.sl 1 (bl (tab s.length (cov l))))::.row (.l 18)::.p (int (i:Nat))::oo::.p (int (m:Nat))::.p (.bool on)::oE (oD (oB (.p (int (m:Nat))::.p (int (k:Nat))::oD (oC (oo::[]))))))∧L=[(.l 18,.row (bl (tab s.length g')) 4 1 true)]) (m) _ _ (by (simp only [ZZ,WW,Ze,reduceCtorEq,zd,ze,zb,zf,za];try trivial)) (by (simp only [ZZ,WW,Ze,reduceCtorEq,zd,ze,zb,zf,za];try trivial)) ⟨0,g,by omega,by omega,by intro j hj;rw [hg j hj];rfl,rfl,rfl⟩ ?_
  rintro n fr L ⟨k,g',hk,rfl,hg',rfl,rfl⟩
  simp only [qdF,ZZ,WW,Ze,reduceCtorEq,zd,ze,zb,zf,za]
  refine br ?_ ?_
  ·intro h2
   have hkn:k < m:=by have:=of_decide_eq_true h2;omega
   have hin:i+k < s.length:=by omega
   have e2:((i:Nat):Int)+((k:Nat):Int)=((i+k:Nat):Int):=by omega
   have hnx:∀ j,j < s.length→((fun j=>if j=i+k then on else g' j) j=(decide (j < i+(k+1)) && C j)):=by
    intro j hj
    simp only
    by_cases hji:j=i+k
    ·rw [if_pos hji,hon j (by omega) (by omega)]
     simp;omega
    ·rw [if_neg hji,hg' j hj]
     congr 1
     simp only [decide_eq_decide]
     omega
   simp only [ZZ,WW,Ze,reduceCtorEq,zd,ze,zb,zf,za,e2,qlY,qid,qvG hin]
   simp only [Zab,List.set_cons_zero,qyk]
   ((with_reducible and_intros)<;>try exact sc_)
   refine qac (m - (k+1)) _ _ (by omega) (by (simp only [ZZ,WW,Ze,reduceCtorEq,zd,ze,zb,zf,za];try trivial)) (by (simp only [ZZ,WW,Ze,reduceCtorEq,zd,ze,zb,zf,za];try trivial)) ⟨k+1,fun j=>if j=i+k then on else g' j,by omega,rfl,hnx,rfl,rfl⟩
  ·intro h2
   have hkn:k=m:=by have:=of_decide_eq_false h2;omega
   subst hkn
   simp only [ZZ,WW,Ze,reduceCtorEq,zd,ze,zb,zf,za,e1]
   ((with_reducible and_intros)<;>try exact sc_)
   refine qac (s.length - (i+k)) _ _ (by omega) (by (simp only [ZZ,WW,Ze,reduceCtorEq,zd,ze,zb,zf,za];try trivial)) (by (simp only [ZZ,WW,Ze,reduceCtorEq,zd,ze,zb,zf,za];try trivial)) ⟨i+k,g',rfl,by omega,c5,hg',rfl,rfl⟩
 ·intro h
  have hge:i=s.length:=by have:=of_decide_eq_false h;omega
  have htab:tab s.length g=tab s.length C:=qkJ fun j hj=>by rw [hg j hj];simp;omega
  refine zS ?_
  exact ql7 18 _ rfl rfl (by rw [htab])
end
end Go.Proofs.YtmpdnpljdcincaaGreatDoor
namespace Go.Proofs.YtmpdnpljdcincaaGreatDoor
open Nat renaming reduceAdd→zd,reduceEqDiff→za,reduceLT→zf,reduceLeDiff→zb,reduceMul→ze
open List renaming getElem?_eq_getElem→zh,take_of_length_le→zG
def qbQ:IC:=(sR [qT 14 .lss 13 12] (.seq (.cond (.t 14) .skip (.exit 0)) (.seq (.block 1 (sR [qM 15 13,qM 5 15] (.seq (.drg [qM 16 0,qM 17 5,qX 18 1 16 17,qL 19 18,qM 20 1,qM 21 5,qX 22 1 20 21,qL 23 22,qT 24 .neq 19 23]) (.cond (.t 24) (sR [qO 4 (.mov (.c (.bool false)))] .ret) .skip)))) (.reg [qB 25 .add 13 (cI 1),qM 13 25]))))
def qcr:IC:=(sR [qO 4 (.mov (.c (.bool false)))] (.seq (sR [qM 6 0,qN 7 6,qM 8 1,qN 9 8,qT 10 .neq 7 9] (.cond (.t 10) (sR [qO 4 (.mov (.c (.bool false)))] .ret) .skip)) (.seq (sR [qM 11 0,qN 12 11,qO 13 (.mov (cI 0))] (.block 0 (.loop qbQ))) (sR [qO 4 (.mov (.c (.bool true)))] .ret))))
def qco:List IRes:=[.t 4]
theorem qfY:chkF Tryz.prog Tryz.f18 qcr qco 26=true:=by kernel_rfl
section
variable {E:Envt}
theorem qqV (l m:List (List UInt8)) (hl:l.length≤1000000000):PCall Tryz.prog E 18 [strs l,strs m] (·=.bool (decide (l=m))):=by
 refine qag mixed Tryz.func18 qfY ?_
 simp only [a0,l0,OS.ao,List.map_cons,List.map_nil,List.length_cons,List.length_nil,List.cons_append,List.nil_append,Nat.reduceSub,zd,List.replicate_succ,List.replicate_zero,qcr,qco,ZZ,WW,Ze,reduceCtorEq,zd,ze,zb,zf,za]
 simp only [strs,ZZ,WW,Ze,reduceCtorEq,zd,ze,zb,zf,za]
 have hln:(l.map fun x=>[PV.str x]).length=l.length:=by simp
 have hlm:(m.map fun x=>[PV.str x]).length=m.length:=by simp
 have hget:∀ k x,l[k]?=some x→(l.map fun x=>[PV.str x]).getD k []=[.str x]:=fun k p hp=>qaC hp
 have hgem:∀ k x,m[k]?=some x→(m.map fun x=>[PV.str x]).getD k []=[.str x]:=fun k p hp=>qaC hp
 generalize (l.map fun x=>[PV.str x])=es at *
 generalize (m.map fun x=>[PV.str x])=fs at *
 simp only [ZZ,WW,Ze,reduceCtorEq,zd,ze,zb,zf,za,hln,hlm]
 refine br ?_ ?_
 ·intro h
  have:¬ l=m:=by rintro rfl;simp at h
  refine zS ?_
  simp [this]
 intro h
 have hlen:l.length=m.length:=by have:(l.length:Int)=m.length:=by simpa using h
                                 omega
 refine zS ?_
 refine qad (fun n fr L=>∃ (k:Nat),k≤l.length∧n=l.length - k∧(l.take k=m.take k)∧fr=(.p (.sl 1 es)::.p (.sl 1 fs)::oD (oB (.p (int (l.length:Nat))::.p (int (k:Nat))::oD (oC []))))∧L=[]) (l.length) _ [] (by simp only [hln,ZZ,WW,Ze,reduceCtorEq,zd,ze,zb,zf,za];try trivial) (by (simp only [ZZ,WW,Ze,reduceCtorEq,zd,ze,zb,zf,za];try trivial)) ⟨0,by omega,by omega,by simp,rfl,rfl⟩ ?_
 rintro n fr L ⟨k,hk,rfl,hf,rfl,rfl⟩
 simp only [qbQ,ZZ,WW,Ze,reduceCtorEq,zd,ze,zb,zf,za]
 refine br ?_ ?_
 ·intro h
  have hlt:k < l.length:=by have:=of_decide_eq_true h;omega
  obtain ⟨x,hx⟩:∃ x,l[k]?=some x:=⟨_,zh hlt⟩
  obtain ⟨y,hy⟩:∃ y,m[k]?=some y:=⟨_,zh (by omega)⟩
  have hg:=hget k x hx
  have hg2:=hgem k y hy
  refine zS ?_
  refine drg0 ?_
  simp only [ZZ,WW,Ze,reduceCtorEq,zd,ze,zb,zf,za,hg,hg2,hln,hlm]
  ((with_reducible and_intros)<;>try exact sc_)
  refine br ?_ ?_
  ·intro h2
   have:¬ l=m:=by
    rintro rfl
    rw [hx] at hy
    cases hy
    simp at h2
   refine zS ?_
   simp [this]
  ·intro h2
   have hxy:x=y:=by simpa using h2
   refine zS ?_
   ((with_reducible and_intros)<;>try exact sc_)
   refine qac (l.length - (k+1)) _ [] (by omega) (by (simp only [ZZ,WW,Ze,reduceCtorEq,zd,ze,zb,zf,za];try trivial)) (by (simp only [ZZ,WW,Ze,reduceCtorEq,zd,ze,zb,zf,za];try trivial)) ⟨k+1,by omega,rfl,by rw [List.take_add_one,List.take_add_one,hf,hx,hy,hxy],rfl,rfl⟩
 ·intro h
  have hge:l.length≤k:=by have:=of_decide_eq_false h;omega
  refine zS ?_
  rw [zG hge,zG (by omega)] at hf
  simp [hf]
end
end Go.Proofs.YtmpdnpljdcincaaGreatDoor
namespace Go.Proofs.YtmpdnpljdcincaaGreatDoor
open Nat renaming reduceAdd→zd,reduceEqDiff→za,reduceLT→zf,reduceLeDiff→zb,reduceMul→ze,reduceSub→zx
open List renaming cons_append→zp,length_cons→zj,length_nil→zr,map_cons→zo,nil_append→zq,replicate_succ→zi,replicate_zero→zm
open Bool renaming eq_iff_iff→yx,not_eq_true'→z6,or_eq_true→zY
open Go.RowKit
section
end
def sp (c:UInt8):List UInt8→List (List UInt8)
 |[]=>[[]]
 |x :: s=>if x=c then [] :: sp c s else (x :: (sp c s).headD []) :: (sp c s).tail
theorem qAI (c:UInt8) (s:List UInt8):sp c s≠[]:=by
 cases s with
 |nil=>simp [sp]
 |cons x s=>unfold sp;split<;>simp
theorem qlr {s:List UInt8} {c:UInt8} (h:Lib.index s [c]=-1):Lib.split s [c]=[s]:=by
 unfold Lib.split
 rw [Lib.count_miss h]
 rfl
theorem qmG {s:List UInt8} {c:UInt8} {i:Nat} (h:Lib.index s [c]=i):Lib.split s [c]=s.take i :: Lib.split (s.drop (i+1)) [c]:=by
 unfold Lib.split
 rw [Lib.count_hit (by simp) h,Nat.add_comm,Lib.splitK,if_neg (by rw [h];simp),h]
 simp
theorem qwf (c:UInt8):∀ s:List UInt8,Lib.split s [c]=sp c s:=by
 intro s
 induction s with
 |nil=>rw [qlr (by rfl)];rfl
 |cons x s ih=>
  by_cases hx:x=c
  ·subst hx
   have h0:Lib.index (x :: s) [x]=((0:Nat):Int):=by rw [Lib.index_one];simp [Lib.indexByte]
   rw [qmG h0,sp,if_pos rfl,← ih]
   simp
  ·have hi:Lib.index (x :: s) [c]=if Lib.index s [c]=-1 then -1 else Lib.index s [c]+1:=by
    rw [Lib.index_one,Lib.index_one,Lib.indexByte]
    simp [hx]
   rw [sp,if_neg hx,← ih]
   by_cases hm:Lib.index s [c]=-1
   ·rw [if_pos hm] at hi
    rw [qlr hi,qlr hm]
    rfl
   ·rw [if_neg hm] at hi
    have hge:=Lib.indexByte_ge s c
    rw [← Lib.index_one] at hge
    obtain ⟨i,hi2⟩:∃ i:Nat,Lib.index s [c]=i:=⟨(Lib.index s [c]).toNat,by omega⟩
    rw [hi2] at hi
    rw [qmG (i:=i+1) (by rw [hi];simp),qmG hi2]
    simp
theorem qmH (s:List UInt8) (c:UInt8):splF s c=sp c s:=by
 rw [← qwf]
 unfold splF Lib.split
 rw [Lib.splitB_data]
theorem qAJ (c:UInt8) (b:List UInt8):∀ a:List UInt8,sp c (a++c :: b)=sp c a++sp c b:=by
 intro a
 induction a with
 |nil=>simp [sp]
 |cons x a ih=>
  rw [zp,sp,sp,ih]
  split
  ·simp
  ·have:=qAI c a
   cases h:sp c a with
   |nil=>exact absurd h this
   |cons y r=>simp
def wgt:List (List UInt8)→Nat
 |[]=>0
 |x :: r=>x.length+1+wgt r
theorem qyn (a b:List (List UInt8)):wgt (a++b)=wgt a+wgt b:=by
 induction a with
 |nil=>simp [wgt]
 |cons x a ih=>simp only [zp,wgt,ih];omega
theorem qym (a:List (List UInt8)):a.length≤wgt a:=by
 induction a with
 |nil=>simp
 |cons x a ih=>simp only [wgt,zj];omega
theorem qAH (c:UInt8):∀ s:List UInt8,wgt (sp c s)=s.length+1:=by
 intro s
 induction s with
 |nil=>simp [sp,wgt]
 |cons y s ih=>
  rw [sp]
  split
  ·simp only [wgt,ih,zj,zr];omega
  ·cases h:sp c s with
   |nil=>exact absurd h (qAI c s)
   |cons z r=>
    rw [h] at ih
    simp only [wgt,List.headD_cons,List.tail_cons,zj] at ih ⊢
    omega
def liF (s:List UInt8) (c:UInt8):Int:=Lib.lastIndexByte ⟨s.toArray⟩ (c.toNat:Nat)
theorem suf1 (s:List UInt8) (c:UInt8):sufE s [c]=true↔∃ t,s=t++[c]:=by
 unfold sufE
 simp only [Bool.and_eq_true,decide_eq_true_eq,zj,zr,Nat.zero_add]
 constructor
 ·rintro ⟨_,h⟩
  exact ⟨s.take (s.length - 1),by rw [← h,List.take_append_drop]⟩
 ·rintro ⟨t,rfl⟩
  simp
  omega
theorem qqR {E:Envt} (s:List UInt8) (c:UInt8) (hs:s.length≤1000000000):PCall Tryz.prog E 166 [.str s,.str [c]] (·=int (liF s c)):=
 qbp rfl rfl fun w _=>(Any.strings_LastIndex_one Tryz.layLastIndex ⟨s.toArray⟩ ⟨#[c]⟩ rfl (by rw [qeH];omega) w).mono fun e w' h=>⟨h.1,by rw [h.2];exact Grow.refl _ _⟩
theorem qtV (s:List UInt8) (cs:List UInt8):(Lib.trimRightS s cs).length≤s.length:=by
 unfold Lib.trimRightS
 have:=(List.dropWhile_suffix (l:=s.reverse) (fun x=>cs.contains x)).length_le
 simpa using this
theorem qtT (s:List UInt8) (cs:List UInt8):(Lib.trimS s cs).length≤s.length:=by
 unfold Lib.trimS Lib.trimLeftS
 exact Nat.le_trans (List.dropWhile_suffix _).length_le (qtV s cs)
theorem qtU (s:List UInt8) (cs:List UInt8):Lib.trimRightS s cs <+: s:=by
 unfold Lib.trimRightS
 have:=List.reverse_prefix.2 (List.dropWhile_suffix (l:=s.reverse) (fun x=>cs.contains x))
 rwa [List.reverse_reverse] at this
theorem qtS (s:List UInt8):decide (Lib.trimS s [32]=s)=(!Lib.hasPrefix s [32] && !sufE s [32]):=by
 by_cases h1:Lib.hasPrefix s [32]=true
 ·obtain ⟨t,rfl⟩:=(hp1 _ _).1 h1
  rw [h1,decide_eq_false]
  ·rfl
  ·intro h
   have hl:=congrArg List.length h
   have hp:=qtU (32 :: t) [32]
   unfold Lib.trimS Lib.trimLeftS at hl
   cases hu:Lib.trimRightS (32 :: t) [32] with
   |nil=>rw [hu] at hl;simp at hl
   |cons y u=>
    rw [hu] at hl hp
    have hy:y=32:=by obtain ⟨r,hr⟩:=hp;simp at hr;exact hr.1
    subst hy
    have h2:=hp.length_le
    have h3:=(List.dropWhile_suffix (l:=u) (fun x=>[(32:UInt8)].contains x)).length_le
    simp [List.dropWhile_cons] at hl h2 h3
    omega
 ·have h1':Lib.hasPrefix s [32]=false:=Bool.eq_false_iff.2 h1
  rw [h1']
  by_cases h2:sufE s [32]=true
  ·rw [h2,decide_eq_false]
   ·rfl
   ·intro h
    obtain ⟨t,rfl⟩:=(suf1 _ _).1 h2
    have hl:=congrArg List.length h
    have h3:=qtT t [32]
    have e:Lib.trimS (t++[32]) [32]=Lib.trimS t [32]:=by
     unfold Lib.trimS Lib.trimRightS
     simp [List.dropWhile_cons]
    rw [e] at hl
    simp at hl
    omega
  ·have h2':sufE s [32]=false:=Bool.eq_false_iff.2 h2
   rw [h2',decide_eq_true]
   ·rfl
   ·have hr:Lib.trimRightS s [32]=s:=by
     unfold Lib.trimRightS
     cases hs:s.reverse with
     |nil=>simp at hs;subst hs;rfl
     |cons y r=>
      have hy:y≠32:=by
       rintro rfl
       apply h2
       refine (suf1 _ _).2 ⟨r.reverse,?_⟩
       have:=congrArg List.reverse hs
       simpa using this
      rw [List.dropWhile_cons,if_neg (by simp [hy]),← hs,List.reverse_reverse]
    unfold Lib.trimS
    rw [hr]
    unfold Lib.trimLeftS
    cases s with
    |nil=>rfl
    |cons y r=>
     have hy:y≠32:=by
      rintro rfl
      exact h1 ((hp1 _ _).2 ⟨r,rfl⟩)
     rw [List.dropWhile_cons,if_neg (by simp [hy])]
def qgk:IC:=(sR [qO 2 (.mov (.c (.bool false)))] (sR [qM 3 0,qO 4 (.call 131 [.t 3,.c (.bool false)]),qM 5 4,⟨some 6,.mov (.t 0),(some (5,true))⟩,⟨some 7,.call 167 [.t 6,.c (.str [32])],(some (5,true))⟩,⟨some 8,.mov (.t 0),(some (5,true))⟩,⟨some 9,.bin .eql (.t 7) (.t 8),(some (5,true))⟩,qO 10 (.pick (.t 5) (.t 9) (.c (.bool false))),qM 11 10,⟨some 12,.mov (.t 0),(some (11,true))⟩,⟨some 13,.call 240 [.t 12,.c (.str [32,32])],(some (11,true))⟩,⟨some 14,.not (.t 13),(some (11,true))⟩,qO 15 (.pick (.t 11) (.t 14) (.c (.bool false))),qM 2 15] .ret))
def qf9:List IRes:=[.t 2]
theorem qj9:chkF Tryz.prog Tryz.f195 qgk qf9 16=true:=by kernel_rfl
theorem qtH (s:List UInt8) (hs:s.length≤1000000000):PCall Tryz.prog E0 195 [.str s] (·=.bool (qkd s)):=by
 refine qag mixed Tryz.func195 qj9 ?_
 simp only [a0,l0,OS.ao,zo,List.map_nil,zj,zr,zp,zq,zx,zd,zi,zm,qgk,qf9,ZZ,WW,Ze,reduceCtorEq,zd,ze,zb,zf,za]
 refine use1 (qkG s false hs) rfl (.inl rfl) ?_
 refine zS ?_
 refine useG (fun _=>qic s [32] hs (by decide) (by decide)) rfl (.inl rfl) ?_
 refine zS ?_
 refine useG (fun _=>qnp s [32,32] hs) rfl (.inl rfl) ?_
 refine zS ?_
 rw [qkd,qtS]
 cases visE s false<;>cases Lib.hasPrefix s [32]<;>cases sufE s [32]<;>rfl
def qdi:IC:=(sR [qT 29 .lss 28 27] (.seq (.cond (.t 29) .skip (.exit 0)) (.seq (.block 1 (sR [qX 30 1 26 28,qL 31 30,qM 5 31] (sR [qM 32 5,qO 33 (.call 195 [.t 32]),qO 34 (.not (.t 33)),qM 35 34,⟨some 36,.mov (.t 5),(some (35,false))⟩,⟨some 37,.sln (.t 36),(some (35,false))⟩,⟨some 38,.bin .lss (.t 37) (cI 1),(some (35,false))⟩,qO 39 (.pick (.t 35) (.c (.bool true)) (.t 38)),qM 40 39,⟨some 41,.mov (.t 5),(some (40,false))⟩,⟨some 42,.sln (.t 41),(some (40,false))⟩,⟨some 43,.bin .gtr (.t 42) (cI 80),(some (40,false))⟩,qO 44 (.pick (.t 40) (.c (.bool true)) (.t 43))] (.cond (.t 44) (sR [qO 2 (.mov (cI 3))] .ret) .skip)))) (.reg [qB 45 .add 28 (cI 1),qM 28 45]))))
def qey:IC:=(sR [qO 1 (.box 132 (.t 0)),qO 2 (.mov (cI 0))] (.seq (sR [qF 6 0 1,qL 7 6,qF 8 1 1,qL 9 8,qO 10 (.call 73 [.t 7,.t 9]),qM 3 10] (sR [qM 11 3,qB 12 .neq 11 (cI 0)] (.cond (.t 12) (sR [qM 13 3,qM 2 13] .ret) .skip))) (.seq (sR [qF 14 2 1,qL 15 14,qB 16 .lss 15 (cI 1),qM 17 16,⟨some 18,.fla 2 (.t 1),(some (17,false))⟩,⟨some 19,.ld 1 false (.t 18),(some (17,false))⟩,⟨some 20,.bin .gtr (.t 19) (cI 3),(some (17,false))⟩,qO 21 (.pick (.t 17) (.c (.bool true)) (.t 20))] (.cond (.t 21) (sR [qO 2 (.mov (cI 4))] .ret) .skip)) (.seq (sR [qF 22 3 1,qL 23 22,qF 24 4 1,qL 25 24,qO 26 (.bsl 1 [.t 23,.t 25]),qN 27 26,qO 28 (.mov (cI 0))] (.block 0 (.loop qdi))) (.seq (sR [qF 46 5 1,qL 47 46,qB 48 .lss 47 (cI 1),qM 49 48,⟨some 50,.fla 5 (.t 1),(some (49,false))⟩,⟨some 51,.ld 1 false (.t 50),(some (49,false))⟩,⟨some 52,.bin .gtr (.t 51) (cI 100000),(some (49,false))⟩,qO 53 (.pick (.t 49) (.c (.bool true)) (.t 52))] (.cond (.t 53) (sR [qO 2 (.mov (cI 1))] .ret) .skip)) (sR [qO 2 (.mov (cI 0))] .ret))))))
def qei:List IRes:=[.t 2]
theorem qit:chkF Tryz.prog Tryz.f149 qey qei 54=true:=by kernel_rfl
structure Stp where
 pre:List UInt8
 dig:Int
 ord:Int
 slip:List UInt8
 skip:List UInt8
 most:Int
def stV (x:Stp):List PV:=[.str x.pre,int x.dig,int x.ord,.str x.slip,.str x.skip,int x.most]
theorem qdK (e:Int) (r:List Int):qah (e :: r)=if e=0 then qah r else e:=rfl
structure StB (x:Stp):Prop where
 b1:x.pre.length≤1000
 b2:x.slip.length≤1000
 b3:x.skip.length≤1000
def qkU (s:List UInt8):Bool:=inE s.length 1 80 && qkd s
def ordF (n:Int):Int:=qak (!inE n 1 3) 4
def setF (x:Stp):Int:=qah [qd8 x.pre x.dig,ordF x.ord,qak (!qkU x.slip || !qkU x.skip) 3,qak (!inE x.most 1 100000) 1]
theorem qBH (c:UInt8):capL.contains c=!qlR c:=qln (p:=fun c=>capL.contains c=!qlR c) (by decide +kernel) c
theorem qwF (s:List UInt8):quv s=qke s:=by
 unfold quv qke
 rw [qjm,Bool.and_comm]
 congr 1
 induction s with
 |nil=>rfl
 |cons c r ih=>simp only [List.all_cons,qBH,ih]
theorem qro (p:List UInt8) (d:Int):nfF p d=qd8 p d:=by
 unfold nfF qd8
 rw [qwF]
 cases qke p with
 |false=>rfl
 |true=>
  rw [if_pos rfl]
  have:(decide (d < 4) || decide (9 < d))=!inE d 4 9:=by
   unfold inE
   rw [yx]
   simp only [zY,decide_eq_true_eq,z6,Bool.and_eq_false_iff,decide_eq_false_iff_not]
   omega
  rw [this]
  cases inE d 4 9<;>rfl
section
theorem qpp (x:Stp) (hx:StB x):PCall Tryz.prog E0 149 [.agg (stV x)] (·=int (setF x)):=by
 obtain ⟨b1,b2,b3⟩:=hx
 refine qag mixed Tryz.func149 qit ?_
 simp only [a0,l0,OS.ao,zo,List.map_nil,zj,zr,zp,zq,zx,zd,zi,zm,qey,qei,ZZ,WW,Ze,reduceCtorEq,zd,ze,zb,zf,za]
 simp only [stV,ZZ,WW,Ze,reduceCtorEq,zd,ze,zb,zf,za]
 refine use1 (qgJ x.pre x.dig (by omega)) rfl (.inl rfl) ?_
 rw [qro]
 refine zS ?_
 refine br ?_ ?_
 ·intro h
  have h1:¬ qd8 x.pre x.dig=0:=by simpa using h
  refine zS ?_
  rw [setF,qdK,if_neg h1]
 intro h
 have h1:qd8 x.pre x.dig=0:=by simpa using h
 have hs:setF x=qah [ordF x.ord,qak (!qkU x.slip || !qkU x.skip) 3,qak (!inE x.most 1 100000) 1]:=by rw [setF,qdK,if_pos h1]
 rw [hs]
 clear h hs
 have ho:(decide (x.ord < 1) || decide (3 < x.ord))=!inE x.ord 1 3:=by
  unfold inE
  rw [yx]
  simp only [zY,decide_eq_true_eq,z6,Bool.and_eq_false_iff,decide_eq_false_iff_not]
  omega
 have hm:(decide (x.most < 1) || decide (100000 < x.most))=!inE x.most 1 100000:=by
  unfold inE
  rw [yx]
  simp only [zY,decide_eq_true_eq,z6,Bool.and_eq_false_iff,decide_eq_false_iff_not]
  omega
 refine zS ?_
 rw [ho]
 refine ⟨fun h=>by rw [h];rfl,?_⟩
 refine br ?_ ?_
 ·intro h
  refine zS ?_
  rw [qdK,ordF,qak,if_pos h]
  rfl
 intro h
 have h2:ordF x.ord=0:=by rw [ordF,qak,if_neg (by rw [h];decide)]
 rw [qdK,if_pos h2]
 clear h
 refine zS ?_
 refine qad (fun n fr L=>∃ (j:Nat),j≤2∧n=2 - j∧(1≤j→qkU x.slip=true)∧(2≤j→qkU x.skip=true)∧fr=(oo::.adr (.l 1) 0::oE (oD (.p (.sl 1 [[.str x.slip],[.str x.skip]])::.p (int 2)::.p (int (j:Nat))::oE (oD (oo::[])))))∧L=[(.l 1,.box [.p (.str x.pre),.p (int x.dig),.p (int x.ord),.p (.str x.slip),.p (.str x.skip),.p (int x.most)] 132)]) (2) _ _ (by (simp only [ZZ,WW,Ze,reduceCtorEq,zd,ze,zb,zf,za];try trivial)) (by (simp only [ZZ,WW,Ze,reduceCtorEq,zd,ze,zb,zf,za];try trivial)) ⟨0,by omega,by omega,(fun h=>by omega),(fun h=>by omega),rfl,rfl⟩ ?_
 rintro n fr L ⟨j,hj,rfl,hj1,hj2,rfl,rfl⟩
 simp only [qdi,ZZ,WW,Ze,reduceCtorEq,zd,ze,zb,zf,za]
 refine br ?_ ?_
 ·intro h
  have hlt:j < 2:=by have:=of_decide_eq_true h;omega
  obtain ⟨s,hs,hsl,hb⟩:∃ s,([[PV.str x.slip],[PV.str x.skip]]:List (List PV)).getD j []=[.str s]∧s.length≤1000∧(qkU s=false→(!qkU x.slip || !qkU x.skip)=true)∧(qkU s=true→(1≤j+1→qkU x.slip=true)∧(2≤j+1→qkU x.skip=true)):=by
   match j,hlt with
   |0,_=>exact ⟨x.slip,rfl,b2,fun h=>by rw [h];rfl,fun h=>⟨fun _=>h,fun h=>by omega⟩⟩
   |1,_=>exact ⟨x.skip,rfl,b3,fun h=>by rw [h];simp,fun h=>⟨fun _=>hj1 (by omega),fun _=>h⟩⟩
  obtain ⟨hb1,hb2⟩:=hb
  have hn:((!qkd s || decide ((s.length:Int) < 1)) || decide (80 < (s.length:Int)))=!qkU s:=by
   unfold qkU inE
   cases qkd s with
   |false=>simp
   |true=>
    rw [yx]
    simp only [zY,decide_eq_true_eq,z6,Bool.and_eq_false_iff,decide_eq_false_iff_not,Bool.not_true,Bool.false_eq_true,false_or,or_false,Bool.and_true,reduceCtorEq]
    omega
  simp only [ZZ,WW,Ze,reduceCtorEq,zd,ze,zb,zf,za,hs]
  ((with_reducible and_intros)<;>try exact sc_)
  refine use1 (qtH s (by omega)) rfl (.inl rfl) ?_
  refine zS ?_
  rw [hn]
  refine ⟨fun h=>by rw [h];rfl,fun h=>by rw [h];rfl,?_⟩
  refine br ?_ ?_
  ·intro h
   have h3:=hb1 (by simpa using h)
   refine zS ?_
   rw [qdK,qak,if_pos h3]
   rfl
  ·intro h
   obtain ⟨c1,c2⟩:=hb2 (by simpa using h)
   refine zS ?_
   ((with_reducible and_intros)<;>try exact sc_)
   refine qac (2 - (j+1)) _ _ (by omega) (by (simp only [ZZ,WW,Ze,reduceCtorEq,zd,ze,zb,zf,za];try trivial)) (by (simp only [ZZ,WW,Ze,reduceCtorEq,zd,ze,zb,zf,za];try trivial)) ⟨j+1,by omega,rfl,c1,c2,rfl,rfl⟩
 intro h
 have hge:2≤j:=by have:=of_decide_eq_false h;omega
 refine zS ?_
 rw [hm]
 rw [hj1 (by omega),hj2 hge]
 refine ⟨fun h=>by rw [h];rfl,?_⟩
 refine br ?_ ?_
 ·intro h
  refine zS ?_
  rw [h]
  rfl
 intro h
 refine zS ?_
 rw [h]
 rfl
end
end Go.Proofs.YtmpdnpljdcincaaGreatDoor
namespace Go.Proofs.YtmpdnpljdcincaaGreatDoor
open Go.Lib Go.RowKit Go.Shelf Go.Sort
section
variable {E:Envt} {L:Objs} {k:Key} {fr:List AV} {d:Option Nat} {is:List IOper} {Y:List PV} {K:List AV→Objs→Prop}
end
end Go.Proofs.YtmpdnpljdcincaaGreatDoor
namespace Go.Proofs.YtmpdnpljdcincaaGreatDoor
open Go.RowKit
abbrev SRow:=List (List UInt8)
abbrev Tab:=List SRow
def tbE (t:Tab):List (List PV):=t.map fun r=>[PV.sl 1 (strE r)]
theorem qax (t:Tab):(tbE t).length=t.length:=by simp [tbE]
theorem qi7 {t:Tab} {k:Nat} {r:SRow} (h:t[k]?=some r):(tbE t).getD k []=[.sl 1 (strE r)]:=qaC h
end Go.Proofs.YtmpdnpljdcincaaGreatDoor
