import Derived.Test.YtehfjlpenlffmaaGreatDoorZ10
import Derived.WalkKit
import Derived.OwnWalk
import Derived.Lib.Builder
import Derived.Laws.Externs
import Derived.Maps.AppendAt
import Derived.Shelf.RegionOpenPlain
import Derived.Lib.Strings
import Derived.Lib.Slices
import Derived.Lib.Walk
import Derived.Lib.MakeNoZero
import Derived.Laws.IdiomCopy
import Derived.Laws.BitsLemmas
import Derived.KernelRfl
import Derived.Test.YtehfjlpenlffmaaGreatDoorZ9
import Derived.Lib.Join
import Derived.Lib.IndexMore
import Derived.Lib.ValidLaws
import Derived.Test.YtehfjlpenlffmaaGreatDoorLayDecode
import Derived.Lib.LastIndexByte
import Derived.Test.YtehfjlpenlffmaaGreatDoorLayLastIndex
set_option linter.unusedVariables false
set_option linter.unusedSimpArgs false
set_option linter.defProp false
namespace Go.Proofs.YtehfjlpenlffmaaGreatDoor
open Go.RowKit
section
variable {E:Envt} {L:Objs} {k:Key} {i:Nat} {fr:List AV} {d:Option Nat} {is:List IOper} {Y:List PV} {K:List AV→Objs→Prop}
end
end Go.Proofs.YtehfjlpenlffmaaGreatDoor
namespace Go.Proofs.YtehfjlpenlffmaaGreatDoor
end Go.Proofs.YtehfjlpenlffmaaGreatDoor
namespace Go.Proofs.YtehfjlpenlffmaaGreatDoor
open Go.RowKit
def qbi:IC:=(.seq (.reg [qO 9 (.bin .lss (.t 8) (.t 7))]) (.seq (.cond (.t 9) .skip (.exit 0)) (.seq (.block 1 (.seq (.reg [qM 10 8,qM 5 10]) (.seq (.reg [qM 11 1,qM 12 0,qM 13 5,qO 14 (.ixa 1 (.t 12) (.t 13)),qO 15 (.ld 1 false (.t 14)),qO 16 (.callv (.t 11) [.t 15])]) (.cond (.t 16) (.seq (.reg [qM 17 5,qM 4 17]) .ret) .skip)))) (.reg [qO 18 (.bin .add (.t 8) (.c (.int .i64 1))),qM 8 18]))))
def qbC:IC:=(.seq (.reg [qO 4 (.mov (.c (.int .i64 0)))]) (.seq (.seq (.reg [qM 6 0,qO 7 (.len (.t 6)),qO 8 (.mov (.c (.int .i64 0)))]) (.block 0 (.loop qbi))) (.seq (.reg [qO 4 (.mov (.c (.int .i64 (-1))))]) .ret)))
def qbB:List IRes:=[.t 4]
theorem qea:chkF Tryz.prog Tryz.f169 qbC qbB 19=true:=by kernel_rfl
def qbk:IC:=(.seq (.reg [qO 4 (.mov (.c (.bool false)))]) (.seq (.reg [qM 5 0,qM 6 1,qO 7 (.call 169 [.t 5,.t 6]),qO 8 (.bin .geq (.t 7) (.c (.int .i64 0))),qM 4 8]) .ret))
def qbh:List IRes:=[.t 4]
theorem qdu:chkF Tryz.prog Tryz.f84 qbk qbh 9=true:=by kernel_rfl
section
variable {E:Envt}
def idxF {α:Type} (q:α→Bool) (l:List α):Int:=match l.findIdx? q with|some i=>(i:Int)|none=>-1
theorem qg2 {α:Type} {q:α→Bool} {l:List α} {k:Nat} {x:α} (h:l[k]?=some x) (hx:q x=true) (hno:∀ y∈l.take k,q y=false):idxF q l=k:=by
 obtain ⟨hk,hxk⟩:=List.getElem?_eq_some_iff.1 h
 have:l.findIdx? q=some k:=by
  rw [List.findIdx?_eq_some_iff_getElem]
  refine ⟨hk,by rw [hxk];exact hx,fun j hj=>?_⟩
  have:=hno l[j] (by rw [List.mem_take_iff_getElem];exact ⟨j,by omega,rfl⟩)
  simp [this]
 simp [idxF,this]
theorem qe5 {α:Type} {q:α→Bool} {l:List α} (hno:∀ y∈l,q y=false):idxF q l=-1:=by
 have:l.findIdx? q=none:=by rw [List.findIdx?_eq_none_iff];exact hno
 simp [idxF,this]
theorem qjd {α:Type} (q:α→Bool) (l:List α):decide ((0:Int)≤idxF q l)=l.any q:=by
 rw [← List.findIdx?_isSome]
 unfold idxF
 cases l.findIdx? q<;>simp
end
section
variable {E:Envt}
end
theorem qvO (n:Nat):List.replicate n [PV.bool false]=bl (tab n fun _=>false):=by
 unfold bl tab
 rw [List.map_map]
 refine List.ext_getElem? fun j=>?_
 by_cases hj:j < n
 ·simp [hj]
 ·rw [List.getElem?_eq_none (by simpa using hj),List.getElem?_eq_none (by simpa using hj)]
end Go.Proofs.YtehfjlpenlffmaaGreatDoor
namespace Go.Proofs.YtehfjlpenlffmaaGreatDoor
open Bool renaming and_eq_true→zg
theorem qo0 (n b0 b1 b2 b3:Nat) (hn:1≤n) (h:¬ ((Lib.decodeN n b0 b1 b2 b3).1=65533∧(Lib.decodeN n b0 b1 b2 b3).2=1)) :
  (Lib.decodeN n b0 b1 b2 b3).2≤n∧b0 / 64≠2∧(1 < (Lib.decodeN n b0 b1 b2 b3).2→b1 / 64=2)∧(2 < (Lib.decodeN n b0 b1 b2 b3).2→b2 / 64=2)∧(3 < (Lib.decodeN n b0 b1 b2 b3).2→b3 / 64=2)∧(Lib.decodeN n b0 b1 b2 b3).2≤4∧1≤(Lib.decodeN n b0 b1 b2 b3).2:=by
 revert h
 unfold Lib.decodeN
 repeat' split
 all_goals simp only [not_true,not_false_eq_true,and_self,false_imp_iff,true_imp_iff]
 all_goals (try (intro h))
 all_goals (try simp at h)
 all_goals (refine ⟨?_,?_,?_,?_,?_,?_,?_⟩)
 all_goals omega
def inP (s:List UInt8) (i:Nat):Prop:=i < s.length∧(s.getD i 0).toNat / 64=2
theorem qih (s:List UInt8) (i:Nat):insE s (i:Int)=true↔inP s i:=by
 simp only [insE,zg,decide_eq_true_eq,inP,Int.toNat_natCast]
 omega
theorem qnc {s:List UInt8} {i:Nat} (h:Lib.validD (s.drop i)=true) (hi:i < s.length) :
  ¬ inP s i∧1≤(Lib.decodeL (s.drop i)).2∧i+(Lib.decodeL (s.drop i)).2≤s.length∧(∀ j,i < j→j < i+(Lib.decodeL (s.drop i)).2→inP s j)∧Lib.validD (s.drop (i+(Lib.decodeL (s.drop i)).2))=true:=by
 have hne:s.drop i≠[]:=by
  intro e
  have:=congrArg List.length e
  rw [List.length_drop] at this
  simp at this
  omega
 rw [Lib.validD_step _ hne] at h
 split at h
 ·cases h
 rename_i hc
 have hl:(s.drop i).length=s.length - i:=List.length_drop
 have hg:∀ k,(s.drop i).getD k 0=s.getD (i+k) 0:=fun k=>by simp [List.getD,List.getElem?_drop]
 rw [List.drop_drop] at h
 rw [Lib.decodeL_N] at hc h ⊢
 rw [hl,hg,hg,hg,hg] at hc h ⊢
 obtain ⟨h1,h2,h3,h4,h5,h6,h7⟩:=qo0 _ _ _ _ _ (by omega) hc
 generalize Lib.decodeN (s.length - i) (s.getD (i+0) 0).toNat (s.getD (i+1) 0).toNat (s.getD (i+2) 0).toNat (s.getD (i+3) 0).toNat=d at *
 refine ⟨fun hp=>h2 hp.2,h7,by omega,fun j hj1 hj2=>⟨by omega,?_⟩,h⟩
 rcases (by omega:j=i+1∨j=i+2∨j=i+3) with rfl|rfl|rfl
 ·exact h3 (by omega)
 ·exact h4 (by omega)
 ·exact h5 (by omega)
def qxs (s:List UInt8) (a b:Nat):Prop:=∀ i,(a < i∧i≤b)∨(b < i∧i≤a)→inP s i
theorem qmY (s:List UInt8):∀ (f j:Nat),j≤f→(qby s f≤j↔∀ i,j < i→i≤f→inP s i)
 |0,j,h=>by
  constructor
  ·intro _ i h1 h2;omega
  ·intro _;simp [qby]
 |f+1,j,h=>by
  unfold qby
  split
  ·rename_i hin
   rw [qih] at hin
   by_cases hj:j=f+1
   ·subst hj
    constructor
    ·intro _ i h1 h2;omega
    ·intro _;have:=qks s f;omega
   ·rw [qmY s f j (by omega)]
    constructor
    ·intro h1 i h2 h3
     by_cases hi:i=f+1
     ·subst hi;exact hin
     ·exact h1 i h2 (by omega)
    ·intro h1 i h2 h3
     exact h1 i h2 (by omega)
  ·rename_i hin
   rw [qih] at hin
   constructor
   ·intro h1 i h2 h3;omega
   ·intro h1
    by_cases hj:j=f+1
    ·omega
    ·exact absurd (h1 (f+1) (by omega) (by omega)) hin
theorem qoT (s:List UInt8):∀ (d t j:Nat),s.length≤t+d→t≤j→(j < fwdN s d t↔∀ i,t≤i→i≤j→inP s i)
 |0,t,j,h,hj=>by
  unfold fwdN
  constructor
  ·intro h1;omega
  ·intro h1
   have:=(h1 t (Nat.le_refl _) hj).1
   omega
 |d+1,t,j,h,hj=>by
  unfold fwdN
  split
  ·rename_i hin
   rw [qih] at hin
   by_cases hjt:j=t
   ·subst hjt
    constructor
    ·intro _ i h1 h2
     have:i=j:=by omega
     subst this;exact hin
    ·intro _;have:=qoU s d (j+1);omega
   ·rw [qoT s d (t+1) j (by omega) (by omega)]
    constructor
    ·intro h1 i h2 h3
     by_cases hi:i=t
     ·subst hi;exact hin
     ·exact h1 i (by omega) h3
    ·intro h1 i h2 h3
     exact h1 i (by omega) h3
  ·rename_i hin
   rw [qih] at hin
   constructor
   ·intro h1;omega
   ·intro h1
    exact absurd (h1 t (Nat.le_refl _) hj) hin
theorem qqz {s:List UInt8} {l:List (Int×Int)} (hl:∀ p∈l,0≤p.1∧p.1 < p.2∧p.2≤s.length) (j:Nat):cov (qfd s l) j=true↔∃ j':Nat,cov l j'=true∧qxs s j j':=by
 simp only [cov,List.any_eq_true,zg,decide_eq_true_eq,qfd,List.mem_map]
 constructor
 ·rintro ⟨_,⟨p,hp,rfl⟩,h1,h2⟩
  obtain ⟨b1,b2,b3⟩:=hl p hp
  simp only [pntF] at h1 h2
  by_cases c1:(j:Int) < p.1
  ·refine ⟨p.1.toNat,⟨p,hp,by omega,by omega⟩,?_⟩
   have:=(qmY s p.1.toNat j (by omega)).1 (by omega)
   rintro i (⟨g1,g2⟩|⟨g1,g2⟩)
   ·exact this i g1 g2
   ·omega
  ·by_cases c2:(j:Int) < p.2
   ·refine ⟨j,⟨p,hp,by omega,c2⟩,?_⟩
    rintro i (⟨g1,g2⟩|⟨g1,g2⟩)<;>omega
   ·refine ⟨(p.2 - 1).toNat,⟨p,hp,by omega,by omega⟩,?_⟩
    have:=(qoT s (s.length - p.2.toNat) p.2.toNat j (by omega) (by omega)).1 (by omega)
    rintro i (⟨g1,g2⟩|⟨g1,g2⟩)
    ·omega
    ·exact this i (by omega) g2
 ·rintro ⟨j',⟨p,hp,h1,h2⟩,hs⟩
  obtain ⟨b1,b2,b3⟩:=hl p hp
  refine ⟨_,⟨p,hp,rfl⟩,?_,?_⟩
  ·simp only [pntF]
   have hbl:=qks s p.1.toNat
   by_cases c1:(j:Int) < p.1
   ·have:=(qmY s p.1.toNat j (by omega)).2 (fun i g1 g2=>hs i (.inl ⟨g1,by omega⟩))
    omega
   ·omega
  ·simp only [pntF]
   have hfl:=qoU s (s.length - p.2.toNat) p.2.toNat
   by_cases c2:(j:Int) < p.2
   ·omega
   ·have:=(qoT s (s.length - p.2.toNat) p.2.toNat j (by omega) (by omega)).2 (fun i g1 g2=>hs i (.inr ⟨by omega,g2⟩))
    omega
theorem qqf {s:List UInt8} {i n j j':Nat} (h0:¬ inP s i) (h1:∀ k,i < k→k < i+n→inP s k) (h2:¬ inP s (i+n)) (hj:i≤j∧j < i+n):qxs s j j'↔i≤j'∧j' < i+n:=by
 constructor
 ·intro h
  constructor
  ·rcases Nat.lt_or_ge j' i with h'|h'
   ·exact absurd (h i (.inr ⟨h',hj.1⟩)) h0
   ·exact h'
  ·rcases Nat.lt_or_ge j' (i+n) with h'|h'
   ·exact h'
   ·exact absurd (h (i+n) (.inl ⟨hj.2,h'⟩)) h2
 ·rintro ⟨g1,g2⟩ k (⟨k1,k2⟩|⟨k1,k2⟩)
  ·exact h1 k (by omega) (by omega)
  ·exact h1 k (by omega) (by omega)
theorem qqP {s:List UInt8} {i:Nat} (h:Lib.validD (s.drop i)=true):¬ inP s i:=by
 intro hp
 exact (qnc h hp.1).1 hp
theorem qiG:∀ (kv:List (List UInt8×PV)) (s t:List UInt8) (v:PV),mpF (mpS kv s v) t=if s=t then some v else mpF kv t
 |[],s,t,v=>by simp [mpS,mpF]
 |p :: r,s,t,v=>by
  simp only [mpS]
  split
  ·rename_i h
   by_cases hs:s=t
   ·simp [mpF,hs]
   ·simp [mpF,hs,h]
  ·rename_i h
   simp only [mpF,qiG r s t v]
   by_cases hp:p.1=t
   ·have:¬ s=t:=fun e=>h (hp.trans e.symm)
    simp [hp,this]
   ·simp [hp]
def qrf (kv:List (List UInt8×PV)) (W:List (List UInt8)):Prop:=∀ w,mpD kv w (.bool false)=.bool (decide (w∈W))
theorem qre:qrf [] []:=fun w=>by simp [mpD,mpF]
theorem qrd {kv:List (List UInt8×PV)} {W:List (List UInt8)} (h:qrf kv W) (s:List UInt8):qrf (mpS kv s (.bool true)) (W++[s]):=fun w=>by
 have h:=h w
 unfold mpD at h ⊢
 rw [qiG]
 by_cases hs:s=w
 ·simp [hs]
 ·have hw:¬ w=s:=fun e=>hs e.symm
  rw [if_neg hs,h]
  simp [hw]
end Go.Proofs.YtehfjlpenlffmaaGreatDoor
namespace Go.Proofs.YtehfjlpenlffmaaGreatDoor
open Nat renaming reduceSub→zp,reduceAdd→zd,reduceMul→ze,reduceLeDiff→zb,reduceLT→zf,reduceEqDiff→za
open List renaming eq_nil_of_length_eq_zero→zq,map_cons→zj,map_nil→zo,length_cons→zi,length_nil→zn,cons_append→zl,nil_append→zm,replicate_succ→zh,replicate_zero→zk
open Go.RowKit
section
variable {P:Program} {E:Envt} {w:World} {U:Nat→Prop}
theorem qsk {z b:Nat}:∀ (es:List (List PV)) (vs:List Value) (off:Nat),(∀ x∈es,x.length=z)→PRepL w U es.flatten vs→(∀ v∈vs,v.oneCell'=true)→(∀ j u,vs[j]?=some u→w.cell? ⟨b,off+j,none⟩=some u)→PRepE w U b z off es:=by
 intro es
 induction es with
 |nil=>intros;simp [PRepE]
 |cons x r ih=>
  intro vs off hz hv h1 hc
  simp only [PRepE]
  have hx:=hz x (by simp)
  simp only [List.flatten_cons] at hv
  have ha:=hv.take x.length
  have hb:=hv.drop x.length
  rw [List.take_left] at ha
  rw [List.drop_left] at hb
  refine ⟨hx,PRepC.of ha (fun v hv=>h1 v (List.mem_of_mem_take hv)) (fun j u hu=>hc j u (by rw [List.getElem?_take] at hu;split at hu;exact hu;cases hu)),ih _ (off+z) (fun y hy=>hz y (by simp [hy])) hb (fun v hv=>h1 v (List.mem_of_mem_drop hv)) (fun j u hu=>?_)⟩
  rw [List.getElem?_drop] at hu
  have:=hc _ u hu
  rwa [hx,← Nat.add_assoc] at this
theorem qxF {f:FuncId} {args:List PV} {e z:Nat} {φ:List (List PV)→Prop} (h:FCall P E f args e z φ):PCall P E f args (fun x=>∃ es,x=.sl z es∧φ es):=by
 intro w U vs hU hE hEb hA
 refine (h w U vs undef hU hE (fun c hc=>⟨hEb c hc,fun h=>by cases h⟩) hA trivial).mono ?_
 rintro e' w' ⟨v,r,os',rfl,⟨es,rfl,hφ⟩,⟨us,hrow,h1,hl,hz,hb⟩,hg⟩
 refine ⟨v,.sl z es,rfl,⟨es,rfl,hφ⟩,?_,hg⟩
 have hcl:=fun g m c hv=>hrow.cells (g:=g) (m:=m) (c:=c) hv
 rcases hrow.2 with ⟨rfl,g2⟩|⟨g,cap,cur,fz,rfl,k2,k3,_⟩
 ·exact ⟨none,0,by rw [g2],by omega,fun hne=>absurd (zq g2) hne⟩
 ·refine ⟨_,cap,rfl,k3,fun _=>⟨g,0,rfl,(Array.getElem?_eq_some_iff.1 k2).1,fun hu=>?_,?_⟩⟩
  ·have h1:=hU g hu
   have h2:=hb g rfl
   omega
  ·refine qsk es us 0 hz (PRepL.mono (fun c _ hu=>⟨rfl,fun h=>hu (.inl h)⟩) _ _ hl) h1 (fun j u hu=>?_)
   rw [Nat.zero_add]
   exact hcl g _ _ rfl j u hu
theorem qvY {f:FuncId} {args:List PV} {e z:Nat} {es:List (List PV)} (h:FCall P E f args e z (·=es)):PCall P E f args (·=.sl z es):=by
 intro w U vs hU hE hEb hA
 refine (qxF h w U vs hU hE hEb hA).mono ?_
 rintro e' w' ⟨v,x,h1,⟨es',rfl,rfl⟩,h2⟩
 exact ⟨v,_,h1,rfl,h2⟩
end
def qcu:IC:=(.seq (.reg [qO 9 (.bin .lss (.t 8) (.t 7))]) (.seq (.cond (.t 9) .skip (.exit 0)) (.seq (.block 1 (.seq (.reg [qM 10 8,qM 5 10]) (.seq (.reg [qM 11 1,qM 12 0,qM 13 5,qO 14 (.ixa 1 (.t 12) (.t 13)),qO 15 (.ld 1 false (.t 14)),qO 16 (.bnb .eql (.t 11) (.t 15))]) (.cond (.t 16) (.seq (.reg [qM 17 5,qM 4 17]) .ret) .skip)))) (.reg [qO 18 (.bin .add (.t 8) (.c (.int .i64 1))),qM 8 18]))))
def qdi:IC:=(.seq (.reg [qO 4 (.mov (.c (.int .i64 0)))]) (.seq (.seq (.reg [qM 6 0,qO 7 (.len (.t 6)),qO 8 (.mov (.c (.int .i64 0)))]) (.block 0 (.loop qcu))) (.seq (.reg [qO 4 (.mov (.c (.int .i64 (-1))))]) .ret)))
def qc9:List IRes:=[.t 4]
theorem qgv:chkF Tryz.prog Tryz.f316 qdi qc9 19=true:=by kernel_rfl
def qcv:IC:=(.seq (.reg [qO 4 (.mov (.c (.bool false)))]) (.seq (.reg [qM 5 0,qM 6 1,qO 7 (.call 316 [.t 5,.t 6]),qO 8 (.bin .geq (.t 7) (.c (.int .i64 0))),qM 4 8]) .ret))
def qcq:List IRes:=[.t 4]
theorem qfB:chkF Tryz.prog Tryz.f266 qcv qcq 9=true:=by kernel_rfl
def qdo:IC:=(.seq (.reg [qO 39 (.bin .lss (.t 38) (.t 37))]) (.seq (.cond (.t 39) .skip (.exit 2)) (.seq (.block 3 (.seq (.reg [qM 40 38,qM 11 40]) (.reg [qM 41 6,qM 42 7,qM 43 11,qO 44 (.bin .add (.t 42) (.t 43)),qM 45 10,qO 46 (.ixa 1 (.t 41) (.t 44)),⟨none,.st 1 (.t 46) (.t 45),none⟩]))) (.reg [qO 47 (.bin .add (.t 38) (.c (.int .i64 1))),qM 38 47]))))
def qdp:IC:=(.seq (.seq (.reg [qM 19 7,qM 20 0,qO 21 (.sln (.t 20)),qO 22 (.bin .lss (.t 19) (.t 21))]) (.cond (.t 22) .skip (.exit 0))) (.block 1 (.seq (.reg [qM 24 0,qM 25 7,qO 26 (.ssl (.t 24) (some (.t 25)) none),qO 27 (.call 265 [.t 26]),qM 23 27,qO 28 (.ext 0 (.t 23)),qO 29 (.ext 1 (.t 23)),qM 8 28,qM 9 29]) (.seq (.reg [qM 30 5,qM 31 7,qM 32 7,qM 33 9,qO 34 (.bin .add (.t 32) (.t 33)),qO 35 (.vsl 1 (.t 30) (some (.t 31)) (some (.t 34))),qO 36 (.call 266 [.t 35,.c (.bool true)]),qM 10 36]) (.seq (.seq (.reg [qM 37 9,qO 38 (.mov (.c (.int .i64 0)))]) (.block 2 (.loop qdo))) (.reg [qM 48 7,qM 49 9,qO 50 (.bin .add (.t 48) (.t 49)),qM 7 50]))))))
def qes:IC:=(.seq (.reg [qO 4 (.mov (.c (.nl 1)))]) (.seq (.reg [qM 12 1,qM 13 0,qO 14 (.sln (.t 13)),qO 15 (.call 264 [.t 12,.t 14]),qM 5 15]) (.seq (.reg [qM 16 0,qO 17 (.sln (.t 16)),qO 18 (.mks 4 1 1 [.bool false] (.t 17) (.t 17)),qM 6 18]) (.seq (.seq (.reg [qO 7 (.mov (.c (.int .i64 0)))]) (.block 0 (.loop qdp))) (.seq (.reg [qM 51 6,qM 4 51]) .ret)))))
def qei:List IRes:=[.t 4]
theorem qhB:chkF Tryz.prog Tryz.f202 qes qei 52=true:=by kernel_rfl
section
variable {E:Envt}
theorem qsK (l:List Bool) (b:Bool) (hl:l.length≤1000000000):PCall Tryz.prog E 316 [.sl 1 (bl l),.bool b] (·=int (idxF (· == b) l)):=by
 refine qag mixed Tryz.func316 qgv ?_
 simp only [a0,l0,OS.ao,zj,zo,zi,zn,zl,zm,zp,zd,zh,zk,qdi,qc9,ZZ,WW,Ze,reduceCtorEq,zd,ze,zb,zf,za]
 have hln:=qj2 l
 have hget:∀ k x,l[k]?=some x→(bl l).getD k []=[.bool x]:=fun k p hp=>qaH hp
 generalize bl l=es at hln hget ⊢
 simp only [ZZ,WW,Ze,reduceCtorEq,zd,ze,zb,zf,za,hln]
 refine qad (fun n fr L=>∃ (k:Nat),k≤l.length∧n=l.length - k∧(∀ x∈l.take k,(x == b)=false)∧fr=[.p (.sl 1 es),.p (.bool b),oo,oo,oo,oo,oo,.p (int (l.length:Nat)),.p (int (k:Nat)),oo,oo,oo,oo,oo,oo,oo,oo,oo,oo]∧L=[]) (l.length) [.p (.sl 1 es),.p (.bool b),oo,oo,oo,oo,oo,.p (int (l.length:Nat)),.p (int (0:Nat)),oo,oo,oo,oo,oo,oo,oo,oo,oo,oo] [] (by (simp only [ZZ,WW,Ze,reduceCtorEq,zd,ze,zb,zf,za];try trivial)) (by (simp only [ZZ,WW,Ze,reduceCtorEq,zd,ze,zb,zf,za];try trivial)) ⟨0,by omega,by omega,by simp,rfl,rfl⟩ ?_
 rintro n fr L ⟨k,hk,rfl,hno,rfl,rfl⟩
 simp only [qcu,ZZ,WW,Ze,reduceCtorEq,zd,ze,zb,zf,za]
 refine br ?_ ?_
 ·intro h
  have hlt:k < l.length:=by have:=of_decide_eq_true h;omega
  obtain ⟨x,hx⟩:∃ x,l[k]?=some x:=⟨_,List.getElem?_eq_getElem hlt⟩
  have hg:=hget k x hx
  simp only [ZZ,WW,Ze,reduceCtorEq,zd,ze,zb,zf,za,hg,hln]
  ((repeat' (with_reducible apply And.intro))<;>try ((exact sc_)))
  refine br ?_ ?_
  ·intro hq
   simp only [ZZ,WW,Ze,reduceCtorEq,zd,ze,zb,zf,za]
   rw [qg2 hx (by rw [Bool.beq_comm];exact hq) hno]
  ·intro hq
   simp only [ZZ,WW,Ze,reduceCtorEq,zd,ze,zb,zf,za]
   ((repeat' (with_reducible apply And.intro))<;>try ((exact sc_)))
   refine qac (l.length - (k+1)) [.p (.sl 1 es),.p (.bool b),oo,oo,oo,oo,oo,.p (int (l.length:Nat)),.p (int ((k+1):Nat)),oo,oo,oo,oo,oo,oo,oo,oo,oo,oo] [] (by omega) (by (simp only [ZZ,WW,Ze,reduceCtorEq,zd,ze,zb,zf,za];try trivial)) (by (simp only [ZZ,WW,Ze,reduceCtorEq,zd,ze,zb,zf,za];try trivial)) ⟨k+1,by omega,rfl,by rw [List.take_succ_eq_append_getElem hlt];intro y hy;rcases List.mem_append.1 hy with hy|hy;exact hno y hy;rw [List.mem_singleton] at hy;rw [hy,(List.getElem?_eq_some_iff.1 hx).2,Bool.beq_comm];exact hq,rfl,rfl⟩
 ·intro h
  have hge:l.length≤k:=by have:=of_decide_eq_false h;omega
  rw [List.take_of_length_le hge] at hno
  simp only [ZZ,WW,Ze,reduceCtorEq,zd,ze,zb,zf,za]
  rw [qe5 hno]
theorem qok (l:List Bool) (b:Bool) (hl:l.length≤1000000000):PCall Tryz.prog E 266 [.sl 1 (bl l),.bool b] (·=.bool (l.any (· == b))):=by
 refine qag mixed Tryz.func266 qfB ?_
 simp only [a0,l0,OS.ao,zj,zo,zi,zn,zl,zm,zp,zd,zh,zk,qcv,qcq,ZZ,WW,Ze,reduceCtorEq,zd,ze,zb,zf,za]
 refine use1 (qsK l b hl) rfl (.inl rfl) ?_
 simp only [ZZ,WW,Ze,reduceCtorEq,zd,ze,zb,zf,za]
 rw [qjd]
theorem qum {N a b:Nat} {c:Nat→Bool}:(((tab N c).take b).drop a).any (· == true)=true↔∃ j,a≤j∧j < b∧j < N∧c j=true:=by
 rw [List.any_eq_true]
 constructor
 ·rintro ⟨x,hx,h⟩
  obtain ⟨i,hi⟩:=List.getElem?_of_mem hx
  rw [List.getElem?_drop,List.getElem?_take] at hi
  split at hi
  ·rename_i hlt
   have hN:a+i < N:=by have:=(List.getElem?_eq_some_iff.1 hi).1;rw [qgW] at this;exact this
   rw [ql1 hN] at hi
   cases hi
   exact ⟨a+i,by omega,hlt,hN,by simpa using h⟩
  ·cases hi
 ·rintro ⟨j,h1,h2,h3,h4⟩
  refine ⟨true,?_,rfl⟩
  refine List.mem_of_getElem? (i:=j - a) ?_
  rw [List.getElem?_drop,List.getElem?_take,if_pos (by omega),show a+(j - a)=j from by omega,ql1 h3,h4]
theorem qwV {l:List Bool} {a b:Nat}:((bl l).take b).drop a=bl ((l.take b).drop a):=by simp [bl,List.map_drop,List.map_take]
theorem qsN (t:List UInt8) (ht:t≠[]):PCall Tryz.prog E0 265 [.str t] (·=.tup [.int .i32 (Lib.decodeL t).1,int (Lib.decodeL t).2]):=
 qbW rfl rfl fun w hE=>(Any.utf8_DecodeRuneInString Tryz.layDecode ⟨t.toArray⟩ w hE.1).mono fun e w' h=>⟨by
  have hd:Lib.decodeGo ⟨t.toArray⟩=Lib.decodeL t:=by
   unfold Lib.decodeGo
   rw [if_neg (by rw [qgB];exact fun e=>ht (zq e))]
   rfl
  rw [h.1,hd];rfl,qgP h.2⟩
theorem qnZ (s:List UInt8) (l:List (Int×Int)) (hs:s.length≤1000000) (hl:l.length≤1000000) (hv:Lib.validD s=true) (hb:∀ p∈l,0≤p.1∧p.1 < p.2∧p.2≤s.length) :
  FCall Tryz.prog E0 202 [.str s,sps l] 4 1 (·=bl (tab s.length (cov (qfd s l)))):=by
 unfold FCall
 refine qje mixed Tryz.func202 qhB ?_
 simp only [a0,l0,OS.ao,zj,zo,zi,zn,zl,zm,zp,zd,zh,zk,qes,qei,ZZ,WW,Ze,reduceCtorEq,zd,ze,zb,zf,za]
 refine use1 (qvY (qqn l s.length hl hs (fun p hp=>by have:=hb p hp;omega))) rfl (.inl rfl) ?_
 simp only [ZZ,WW,Ze,reduceCtorEq,zd,ze,zb,zf,za]
 ((repeat' (with_reducible apply And.intro))<;>try ((exact sc_)))
 rw [qvO]
 have hcp:=fun j=>qqz hb j
 have hpl:=qj2 (tab s.length (cov l))
 rw [qgW] at hpl
 have hpart:=fun a b=>@qwV (tab s.length (cov l)) a b
 generalize cov (qfd s l)=C at *
 have hany:=fun a b=>@qum s.length a b (cov l)
 refine qad (fun n fr L=>∃ (i:Nat) (g:Nat→Bool),s.length - i=n∧(i≤s.length)∧(Lib.validD (s.drop i)=true)∧(∀ j,j < s.length→g j=(decide (j < i) && C j))∧fr=[.p (.str s),oo,oo,oo,oo,.p (.sl 1 (bl (tab s.length (cov l)))),.row (.l 18),.p (int (i:Nat)),oo,oo,oo,oo,oo,oo,oo,oo,oo,oo,oo,oo,oo,oo,oo,oo,oo,oo,oo,oo,oo,oo,oo,oo,oo,oo,oo,oo,oo,oo,oo,oo,oo,oo,oo,oo,oo,oo,oo,oo,oo,oo,oo,oo]∧L=[(.l 18,.row (bl (tab s.length g)) 4 1 true)]) (s.length - 0) [.p (.str s),oo,oo,oo,oo,.p (.sl 1 (bl (tab s.length (cov l)))),.row (.l 18),.p (int (0:Nat)),oo,oo,oo,oo,oo,oo,oo,oo,oo,oo,oo,oo,oo,oo,oo,oo,oo,oo,oo,oo,oo,oo,oo,oo,oo,oo,oo,oo,oo,oo,oo,oo,oo,oo,oo,oo,oo,oo,oo,oo,oo,oo,oo,oo] [(.l 18,.row (bl (tab s.length (fun _=>false))) 4 1 true)] (by (simp only [ZZ,WW,Ze,reduceCtorEq,zd,ze,zb,zf,za];try trivial)) (by (simp only [ZZ,WW,Ze,reduceCtorEq,zd,ze,zb,zf,za];try trivial)) ⟨0,fun _=>false,rfl,by omega,hv,by intro j _;simp,rfl,rfl⟩ ?_
 rintro n fr L ⟨i,g,rfl,hi,hvi,hg,rfl,rfl⟩
 simp only [qdp,ZZ,WW,Ze,reduceCtorEq,zd,ze,zb,zf,za]
 refine br ?_ ?_
 ·intro h
  have hlt:i < s.length:=by have:=of_decide_eq_true h;omega
  obtain ⟨c1,c2,c3,c4,c5⟩:=qnc hvi hlt
  have hne:s.drop i≠[]:=by intro e;have:=congrArg List.length e;rw [List.length_drop] at this;simp at this;omega
  simp only [ZZ,WW,Ze,reduceCtorEq,zd,ze,zb,zf,za]
  ((repeat' (with_reducible apply And.intro))<;>try ((exact sc_)))
  rw [List.take_length]
  refine use1 (qsN (s.drop i) hne) rfl (.inl rfl) ?_
  generalize (Lib.decodeL (s.drop i)).1=r at *
  generalize (Lib.decodeL (s.drop i)).2=m at *
  have e1:((i:Nat):Int)+((m:Nat):Int)=((i+m:Nat):Int):=by omega
  simp only [ZZ,WW,Ze,reduceCtorEq,zd,ze,zb,zf,za,hpl,e1]
  ((repeat' (with_reducible apply And.intro))<;>try ((exact sc_)))
  rw [hpart]
  refine use1 (qok _ true (by simp [qgW];omega)) rfl (.inl rfl) ?_
  have hon:∀ j,i≤j→j < i+m→(((tab s.length (cov l)).take (i+m)).drop i).any (· == true)=C j:=by
   intro j h1 h2
   rw [Bool.eq_iff_iff,hany,hcp]
   have hbk:=fun j'=>qqf (j':=j') c1 c4 (qqP c5) ⟨h1,h2⟩
   constructor
   ·rintro ⟨k,k1,k2,k3,k4⟩
    exact ⟨k,k4,(hbk k).2 ⟨k1,k2⟩⟩
   ·rintro ⟨k,k4,k5⟩
    obtain ⟨k1,k2⟩:=(hbk k).1 k5
    exact ⟨k,k1,k2,by omega,k4⟩
  generalize (((tab s.length (cov l)).take (i+m)).drop i).any (· == true)=on at *
  simp only [ZZ,WW,Ze,reduceCtorEq,zd,ze,zb,zf,za]
  refine qad (fun n fr L=>∃ (k:Nat) (g':Nat→Bool),k≤m∧n=m - k∧(∀ j,j < s.length→g' j=(decide (j < i+k) && C j))∧fr=[.p (.str s),oo,oo,oo,oo,.p (.sl 1 (bl (tab s.length (cov l)))),.row (.l 18),.p (int (i:Nat)),oo,.p (int (m:Nat)),.p (.bool on),oo,oo,oo,oo,oo,oo,oo,oo,oo,oo,oo,oo,oo,oo,oo,oo,oo,oo,oo,oo,oo,oo,oo,oo,oo,oo,.p (int (m:Nat)),.p (int (k:Nat)),oo,oo,oo,oo,oo,oo,oo,oo,oo,oo,oo,oo,oo]∧L=[(.l 18,.row (bl (tab s.length g')) 4 1 true)]) (m) [.p (.str s),oo,oo,oo,oo,.p (.sl 1 (bl (tab s.length (cov l)))),.row (.l 18),.p (int (i:Nat)),oo,.p (int (m:Nat)),.p (.bool on),oo,oo,oo,oo,oo,oo,oo,oo,oo,oo,oo,oo,oo,oo,oo,oo,oo,oo,oo,oo,oo,oo,oo,oo,oo,oo,.p (int (m:Nat)),.p (int (0:Nat)),oo,oo,oo,oo,oo,oo,oo,oo,oo,oo,oo,oo,oo] [(.l 18,.row (bl (tab s.length g)) 4 1 true)] (by (simp only [ZZ,WW,Ze,reduceCtorEq,zd,ze,zb,zf,za];try trivial)) (by (simp only [ZZ,WW,Ze,reduceCtorEq,zd,ze,zb,zf,za];try trivial)) ⟨0,g,by omega,by omega,by intro j hj;rw [hg j hj];rfl,rfl,rfl⟩ ?_
  rintro n fr L ⟨k,g',hk,rfl,hg',rfl,rfl⟩
  simp only [qdo,ZZ,WW,Ze,reduceCtorEq,zd,ze,zb,zf,za]
  refine br ?_ ?_
  ·intro h2
   have hkn:k < m:=by have:=of_decide_eq_true h2;omega
   have hin:i+k < s.length:=by omega
   have e2:((i:Nat):Int)+((k:Nat):Int)=((i+k:Nat):Int):=by omega
   have hnx:∀ j,j < s.length→((fun j=>if j=i+k then on else g' j) j=(decide (j < i+(k+1)) && C j)):=by
    intro j hj
    simp only
    by_cases hji:j=i+k
    ·rw [if_pos hji,hon j (by omega) (by omega)]
     simp;omega
    ·rw [if_neg hji,hg' j hj]
     congr 1
     simp only [decide_eq_decide]
     omega
   simp only [ZZ,WW,Ze,reduceCtorEq,zd,ze,zb,zf,za,e2,qj2,qgW,qsr hin]
   simp only [Zab,List.set_cons_zero,quX]
   ((repeat' (with_reducible apply And.intro))<;>try ((exact sc_)))
   refine qac (m - (k+1)) [.p (.str s),oo,oo,oo,oo,.p (.sl 1 (bl (tab s.length (cov l)))),.row (.l 18),.p (int (i:Nat)),oo,.p (int (m:Nat)),.p (.bool on),oo,oo,oo,oo,oo,oo,oo,oo,oo,oo,oo,oo,oo,oo,oo,oo,oo,oo,oo,oo,oo,oo,oo,oo,oo,oo,.p (int (m:Nat)),.p (int ((k+1):Nat)),oo,oo,oo,oo,oo,oo,oo,oo,oo,oo,oo,oo,oo] [(.l 18,.row (bl (tab s.length (fun j=>if j=i+k then on else g' j))) 4 1 true)] (by omega) (by (simp only [ZZ,WW,Ze,reduceCtorEq,zd,ze,zb,zf,za];try trivial)) (by (simp only [ZZ,WW,Ze,reduceCtorEq,zd,ze,zb,zf,za];try trivial)) ⟨k+1,fun j=>if j=i+k then on else g' j,by omega,rfl,hnx,rfl,rfl⟩
  ·intro h2
   have hkn:k=m:=by have:=of_decide_eq_false h2;omega
   subst hkn
   simp only [ZZ,WW,Ze,reduceCtorEq,zd,ze,zb,zf,za,e1]
   ((repeat' (with_reducible apply And.intro))<;>try ((exact sc_)))
   refine qac (s.length - (i+k)) [.p (.str s),oo,oo,oo,oo,.p (.sl 1 (bl (tab s.length (cov l)))),.row (.l 18),.p (int ((i+k):Nat)),oo,oo,oo,oo,oo,oo,oo,oo,oo,oo,oo,oo,oo,oo,oo,oo,oo,oo,oo,oo,oo,oo,oo,oo,oo,oo,oo,oo,oo,oo,oo,oo,oo,oo,oo,oo,oo,oo,oo,oo,oo,oo,oo,oo] [(.l 18,.row (bl (tab s.length (g'))) 4 1 true)] (by omega) (by (simp only [ZZ,WW,Ze,reduceCtorEq,zd,ze,zb,zf,za];try trivial)) (by (simp only [ZZ,WW,Ze,reduceCtorEq,zd,ze,zb,zf,za];try trivial)) ⟨i+k,g',rfl,by omega,c5,hg',rfl,rfl⟩
 ·intro h
  have hge:i=s.length:=by have:=of_decide_eq_false h;omega
  have htab:tab s.length g=tab s.length C:=qiW fun j hj=>by rw [hg j hj];simp;omega
  simp only [ZZ,WW,Ze,reduceCtorEq,zd,ze,zb,zf,za]
  exact qln 18 _ rfl rfl (by rw [htab])
end
end Go.Proofs.YtehfjlpenlffmaaGreatDoor
namespace Go.Proofs.YtehfjlpenlffmaaGreatDoor
section
variable {E:Envt}
end
end Go.Proofs.YtehfjlpenlffmaaGreatDoor
namespace Go.Proofs.YtehfjlpenlffmaaGreatDoor
open List renaming cons_append→zl,length_cons→zi,length_nil→zn
open Go.RowKit
section
end
def sp (c:UInt8):List UInt8→List (List UInt8)
 |[]=>[[]]
 |x :: s=>if x=c then [] :: sp c s else (x :: (sp c s).headD []) :: (sp c s).tail
theorem qxj (c:UInt8) (s:List UInt8):sp c s≠[]:=by
 cases s with
 |nil=>simp [sp]
 |cons x s=>unfold sp;split<;>simp
theorem qjz {s:List UInt8} {c:UInt8} (h:Lib.index s [c]=-1):Lib.split s [c]=[s]:=by
 unfold Lib.split
 rw [Lib.count_miss h]
 rfl
theorem qkB {s:List UInt8} {c:UInt8} {i:Nat} (h:Lib.index s [c]=i):Lib.split s [c]=s.take i :: Lib.split (s.drop (i+1)) [c]:=by
 unfold Lib.split
 rw [Lib.count_hit (by simp) h,Nat.add_comm,Lib.splitK,if_neg (by rw [h];simp),h]
 simp
theorem qsW (c:UInt8):∀ s:List UInt8,Lib.split s [c]=sp c s:=by
 intro s
 induction s with
 |nil=>rw [qjz (by rfl)];rfl
 |cons x s ih=>
  by_cases hx:x=c
  ·subst hx
   have h0:Lib.index (x :: s) [x]=((0:Nat):Int):=by rw [Lib.index_one];simp [Lib.indexByte]
   rw [qkB h0,sp,if_pos rfl,← ih]
   simp
  ·have hi:Lib.index (x :: s) [c]=if Lib.index s [c]=-1 then -1 else Lib.index s [c]+1:=by
    rw [Lib.index_one,Lib.index_one,Lib.indexByte]
    simp [hx]
   rw [sp,if_neg hx,← ih]
   by_cases hm:Lib.index s [c]=-1
   ·rw [if_pos hm] at hi
    rw [qjz hi,qjz hm]
    rfl
   ·rw [if_neg hm] at hi
    have hge:=Lib.indexByte_ge s c
    rw [← Lib.index_one] at hge
    obtain ⟨i,hi2⟩:∃ i:Nat,Lib.index s [c]=i:=⟨(Lib.index s [c]).toNat,by omega⟩
    rw [hi2] at hi
    rw [qkB (i:=i+1) (by rw [hi];simp),qkB hi2]
    simp
theorem qkC (s:List UInt8) (c:UInt8):splF s c=sp c s:=by
 rw [← qsW]
 unfold splF Lib.split
 rw [Lib.splitB_data]
theorem qxk (c:UInt8) (b:List UInt8):∀ a:List UInt8,sp c (a++c :: b)=sp c a++sp c b:=by
 intro a
 induction a with
 |nil=>simp [sp]
 |cons x a ih=>
  rw [zl,sp,sp,ih]
  split
  ·simp
  ·have:=qxj c a
   cases h:sp c a with
   |nil=>exact absurd h this
   |cons y r=>simp
def wgt:List (List UInt8)→Nat
 |[]=>0
 |x :: r=>x.length+1+wgt r
theorem qu1 (a b:List (List UInt8)):wgt (a++b)=wgt a+wgt b:=by
 induction a with
 |nil=>simp [wgt]
 |cons x a ih=>simp only [zl,wgt,ih];omega
theorem qu0 (a:List (List UInt8)):a.length≤wgt a:=by
 induction a with
 |nil=>simp
 |cons x a ih=>simp only [wgt,zi];omega
theorem qxi (c:UInt8):∀ s:List UInt8,wgt (sp c s)=s.length+1:=by
 intro s
 induction s with
 |nil=>simp [sp,wgt]
 |cons y s ih=>
  rw [sp]
  split
  ·simp only [wgt,ih,zi,zn];omega
  ·cases h:sp c s with
   |nil=>exact absurd h (qxj c s)
   |cons z r=>
    rw [h] at ih
    simp only [wgt,List.headD_cons,List.tail_cons,zi] at ih ⊢
    omega
def liF (s:List UInt8) (c:UInt8):Int:=Lib.lastIndexByte ⟨s.toArray⟩ (c.toNat:Nat)
theorem suf1 (s:List UInt8) (c:UInt8):sufE s [c]=true↔∃ t,s=t++[c]:=by
 unfold sufE
 simp only [Bool.and_eq_true,decide_eq_true_eq,zi,zn,Nat.zero_add]
 constructor
 ·rintro ⟨_,h⟩
  exact ⟨s.take (s.length - 1),by rw [← h,List.take_append_drop]⟩
 ·rintro ⟨t,rfl⟩
  simp
  omega
theorem qoh {E:Envt} (s:List UInt8) (c:UInt8) (hs:s.length≤1000000000):PCall Tryz.prog E 262 [.str s,.str [c]] (·=int (liF s c)):=
 qbW rfl rfl fun w _=>(Any.strings_LastIndex_one Tryz.layLastIndex ⟨s.toArray⟩ ⟨#[c]⟩ rfl (by rw [qgB];omega) w).mono fun e w' h=>⟨h.1,by rw [h.2];exact Grow.refl _ _⟩
theorem qqU (s:List UInt8) (cs:List UInt8):(Lib.trimRightS s cs).length≤s.length:=by
 unfold Lib.trimRightS
 have:=(List.dropWhile_suffix (l:=s.reverse) (fun x=>cs.contains x)).length_le
 simpa using this
theorem qqS (s:List UInt8) (cs:List UInt8):(Lib.trimS s cs).length≤s.length:=by
 unfold Lib.trimS Lib.trimLeftS
 exact Nat.le_trans (List.dropWhile_suffix _).length_le (qqU s cs)
end Go.Proofs.YtehfjlpenlffmaaGreatDoor
