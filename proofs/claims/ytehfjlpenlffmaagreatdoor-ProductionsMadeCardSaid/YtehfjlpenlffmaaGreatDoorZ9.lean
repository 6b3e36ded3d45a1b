import Derived.Test.YtehfjlpenlffmaaGreatDoorZ8
import Derived.Test.YtehfjlpenlffmaaGreatDoorLayTrimRight
import Derived.Test.YtehfjlpenlffmaaGreatDoorZ4
import Derived.Test.YtehfjlpenlffmaaGreatDoorZ5
import Derived.WalkKit
import Derived.OwnWalk
import Derived.Lib.Builder
import Derived.Laws.Externs
import Derived.Maps.AppendAt
import Derived.Shelf.RegionOpenPlain
import Derived.Lib.Strings
import Derived.Lib.Slices
import Derived.Lib.Walk
import Derived.Lib.MakeNoZero
import Derived.Laws.IdiomCopy
import Derived.Laws.BitsLemmas
import Derived.KernelRfl
import Derived.Lib.Join
import Derived.Lib.IndexMore
import Derived.Lib.ValidLaws
set_option linter.unusedVariables false
set_option linter.unusedSimpArgs false
set_option linter.defProp false
namespace Go.Proofs.YtehfjlpenlffmaaGreatDoor
open Nat renaming reduceAdd→zd,reduceEqDiff→za,reduceLeDiff→zb,reduceMul→ze
section
variable {E:Envt}
end
section
variable {E:Envt}
end
def qhj:IC:=(sR [qO 4 (.mov (.c (.bool false)))] (sR [qM 5 0,qM 6 1,qO 7 (.call 222 [.t 5,.t 6]),qB 8 .geq 7 (cI 0),qM 4 8] .ret))
def qg2:List IRes:=[.t 4]
theorem qlf:chkF Tryz.prog Tryz.f156 qhj qg2 9=true:=by kernel_rfl
section
theorem qlv (s t:List UInt8) (hs:s.length≤1000000000):PCall Tryz.prog E0 156 [.str s,.str t] (·=.bool (decide (0≤Lib.index s t))):=by
 refine qae mixed Tryz.func156 qlf ?_
 simp only [a0,l0,OS.ao,List.map_cons,List.map_nil,List.length_cons,List.length_nil,List.cons_append,List.nil_append,Nat.reduceSub,zd,List.replicate_succ,List.replicate_zero,qhj,qg2,ZZ,WW,Zd,reduceCtorEq,zd,ze,zb,Nat.reduceLT,za]
 refine use1 (qyJ s t hs) rfl (.inl rfl) ?_
 simp only [ZZ,WW,Zd,reduceCtorEq,zd,ze,zb,Nat.reduceLT,za]
end
end Go.Proofs.YtehfjlpenlffmaaGreatDoor
namespace Go.Proofs.YtehfjlpenlffmaaGreatDoor
open Nat renaming reduceAdd→zd,reduceEqDiff→za,reduceLT→zf,reduceLeDiff→zb,reduceMul→ze,reduceSub→zu
open List renaming cons_append→zl,length_cons→zi,length_nil→zo,map_cons→zk,map_nil→zr,nil_append→zm,replicate_succ→zh,replicate_zero→zj
open Go.RowKit
def qb6:IC:=(sR [qO 4 (.mov (.c (.str []))),qO 5 (.mov (.c (.bool false)))] (.seq (sR [qM 6 0,qM 7 1,qO 8 (.call 245 [.t 6,.t 7]),qO 9 (.not (.t 8))] (.cond (.t 9) (sR [qM 10 0,qM 4 10,qO 5 (.mov (.c (.bool false)))] .ret) .skip)) (sR [qM 11 0,qM 12 0,qO 13 (.sln (.t 12)),qM 14 1,qO 15 (.sln (.t 14)),qT 16 .sub 13 15,qO 17 (.ssl (.t 11) none (some (.t 16))),qM 4 17,qO 5 (.mov (.c (.bool true)))] .ret)))
def qb2:List IRes:=[.t 4,.t 5]
theorem qe5:chkF Tryz.prog Tryz.f306 qb6 qb2 18=true:=by kernel_rfl
def qgD:IC:=(sR [qO 4 (.mov (.c (.str []))),qO 5 (.mov (.c (.bool false)))] (sR [qM 6 0,qM 7 1,qO 8 (.call 306 [.t 6,.t 7]),qO 9 (.ext 0 (.t 8)),qO 10 (.ext 1 (.t 8)),qM 4 9,qM 5 10] .ret))
def qgs:List IRes:=[.t 4,.t 5]
theorem qkN:chkF Tryz.prog Tryz.f252 qgD qgs 11=true:=by kernel_rfl
def qlY:IC:=(sR [qO 2 (.mov (.c (.bool false)))] (sR [qM 3 0,qO 4 (.call 141 [.t 3,.c (.bool false)]),qM 5 4,⟨some 6,.mov (.t 0),(some (5,true))⟩,⟨some 7,.call 132 [.t 6,.c (.str [32])],(some (5,true))⟩,⟨some 8,.not (.t 7),(some (5,true))⟩,qO 9 (.pick (.t 5) (.t 8) (.c (.bool false))),qM 10 9,⟨some 11,.mov (.t 0),(some (10,true))⟩,⟨some 12,.call 185 [.t 11,.c (.str [32])],(some (10,true))⟩,⟨some 13,.not (.t 12),(some (10,true))⟩,qO 14 (.pick (.t 10) (.t 13) (.c (.bool false))),qM 15 14,⟨some 16,.mov (.t 0),(some (15,true))⟩,⟨some 17,.call 156 [.t 16,.c (.str [32,32])],(some (15,true))⟩,⟨some 18,.not (.t 17),(some (15,true))⟩,qO 19 (.pick (.t 15) (.t 18) (.c (.bool false))),qM 2 19] .ret))
def qlK:List IRes:=[.t 2]
theorem qqe:chkF Tryz.prog Tryz.f108 qlY qlK 20=true:=by kernel_rfl
section
variable {E:Envt}
def qhz (s p:List UInt8):List UInt8×Bool:=if sufE s p=true then (s.take (s.length - p.length),true) else (s,false)
theorem qqD (s p:List UInt8) (hs:s.length≤1000000000) (hp:p.length≤1000000000):PCall Tryz.prog E 306 [.str s,.str p] (·=.tup [.str (qhz s p).1,.bool (qhz s p).2]):=by
 refine qae mixed Tryz.func306 qe5 ?_
 simp only [a0,l0,OS.ao,zk,zr,zi,zo,zl,zm,zu,zd,zh,zj,qb6,qb2,ZZ,WW,Zd,reduceCtorEq,zd,ze,zb,zf,za]
 refine use1 (qlF s p (by omega)) rfl (.inl rfl) ?_
 refine zS ?_
 unfold qhz
 refine br ?_ ?_
 ·intro h
  have h:sufE s p=false:=by rwa [Bool.not_eq_true'] at h
  refine zS ?_
  rw [if_neg (by simp [h])]
 ·intro h
  have h:sufE s p=true:=by rwa [Bool.not_eq_false'] at h
  have hb:p.length≤s.length:=by
   have:=of_decide_eq_true (Bool.and_eq_true_iff.1 h).1
   omega
  have e:((s.length:Int) - p.length).toNat=s.length - p.length:=by omega
  simp only [ZZ,WW,Zd,reduceCtorEq,zd,ze,zb,zf,za,e]
  refine ⟨qan (by omega) (by omega),⟨by omega,by omega⟩,?_⟩
  rw [if_pos h]
theorem qr1 (s p:List UInt8) (hs:s.length≤1000000000) (hp:p.length≤1000000000):PCall Tryz.prog E 252 [.str s,.str p] (·=.tup [.str (qhz s p).1,.bool (qhz s p).2]):=by
 refine qae mixed Tryz.func252 qkN ?_
 simp only [a0,l0,OS.ao,zk,zr,zi,zo,zl,zm,zu,zd,zh,zj,qgD,qgs,ZZ,WW,Zd,reduceCtorEq,zd,ze,zb,zf,za]
 refine use1 (qqD s p hs hp) rfl (.inl rfl) ?_
 simp only [ZZ,WW,Zd,reduceCtorEq,zd,ze,zb,zf,za]
end
def qj4 (s:List UInt8):Bool:=((visE s false && !Lib.hasPrefix s [32]) && !sufE s [32]) && !decide (0≤Lib.index s [32,32])
theorem quc (s:List UInt8) (hs:s.length≤1000000000):PCall Tryz.prog E0 108 [.str s] (·=.bool (qj4 s)):=by
 refine qae mixed Tryz.func108 qqe ?_
 simp only [a0,l0,OS.ao,zk,zr,zi,zo,zl,zm,zu,zd,zh,zj,qlY,qlK,ZZ,WW,Zd,reduceCtorEq,zd,ze,zb,zf,za]
 refine use1 (qmQ s false hs) rfl (.inl rfl) ?_
 refine zS ?_
 refine useG (fun _=>qr0 s [32]) rfl (.inl rfl) ?_
 refine zS ?_
 refine useG (fun _=>qnd s [32] (by omega)) rfl (.inl rfl) ?_
 refine zS ?_
 refine useG (fun _=>qlv s [32,32] hs) rfl (.inl rfl) ?_
 refine zS ?_
 ((with_reducible and_intros)<;>try exact sc_)
theorem qtU {c:UInt8} {a b a' b':List UInt8} (h:a++c :: b=a'++c :: b') (h1:c∉a) (h2:c∉a'):a=a'∧b=b':=by
 induction a generalizing a' with
 |nil=>
  cases a' with
  |nil=>simpa using h
  |cons x a'=>simp only [zm,zl,List.cons.injEq] at h;exact absurd (by rw [h.1];simp) h2
 |cons y a ih=>
  cases a' with
  |nil=>simp only [zm,zl,List.cons.injEq] at h;exact absurd (by rw [← h.1];simp) h1
  |cons x a'=>
   simp only [zl,List.cons.injEq] at h
   obtain ⟨e1,e2⟩:=ih h.2 (fun hm=>h1 (by simp [hm])) (fun hm=>h2 (by simp [hm]))
   exact ⟨by rw [h.1,e1],e2⟩
theorem hp1 (c:UInt8) (r:List UInt8):Lib.hasPrefix r [c]=true↔∃ t,r=c :: t:=by
 unfold Lib.hasPrefix
 rw [List.isPrefixOf_iff_prefix]
 constructor
 ·rintro ⟨t,rfl⟩;exact ⟨t,rfl⟩
 ·rintro ⟨t,rfl⟩;exact ⟨t,rfl⟩
section
variable {E:Envt} {L:Objs} {k:Key} {i:Nat} {fr:List AV} {d:Option Nat} {is:List IOper} {Y:List PV} {K:List AV→Objs→Prop}
end
end Go.Proofs.YtehfjlpenlffmaaGreatDoor
namespace Go.Proofs.YtehfjlpenlffmaaGreatDoor
end Go.Proofs.YtehfjlpenlffmaaGreatDoor
namespace Go.Proofs.YtehfjlpenlffmaaGreatDoor
open List renaming getElem?_eq_none→zY
open Go.RowKit
def qbx:IC:=(sR [qT 9 .lss 8 7] (.seq (.cond (.t 9) .skip (.exit 0)) (.seq (.block 1 (sR [qM 10 8,qM 5 10] (sR [qM 11 1,qM 12 0,qM 13 5,qX 14 1 12 13,qL 15 14,qO 16 (.callv (.t 11) [.t 15])] (.cond (.t 16) (sR [qM 17 5,qM 4 17] .ret) .skip)))) (.reg [qB 18 .add 8 (cI 1),qM 8 18]))))
def qb3:IC:=(sR [qO 4 (.mov (cI 0))] (.seq (sR [qM 6 0,qN 7 6,qO 8 (.mov (cI 0))] (.block 0 (.loop qbx))) (sR [qO 4 (.mov (cI (-1)))] .ret)))
def qbZ:List IRes:=[.t 4]
theorem qe2:chkF Tryz.prog Tryz.f169 qb3 qbZ 19=true:=by kernel_rfl
def qbz:IC:=(sR [qO 4 (.mov (.c (.bool false)))] (sR [qM 5 0,qM 6 1,qO 7 (.call 169 [.t 5,.t 6]),qB 8 .geq 7 (cI 0),qM 4 8] .ret))
def qbw:List IRes:=[.t 4]
theorem qee:chkF Tryz.prog Tryz.f84 qbz qbw 9=true:=by kernel_rfl
section
variable {E:Envt}
def idxF {α:Type} (q:α→Bool) (l:List α):Int:=match l.findIdx? q with|some i=>(i:Int)|none=>-1
theorem qja {α:Type} {q:α→Bool} {l:List α} {k:Nat} {x:α} (h:l[k]?=some x) (hx:q x=true) (hno:∀ y∈l.take k,q y=false):idxF q l=k:=by
 obtain ⟨hk,hxk⟩:=List.getElem?_eq_some_iff.1 h
 have:l.findIdx? q=some k:=by
  rw [List.findIdx?_eq_some_iff_getElem]
  refine ⟨hk,by rw [hxk];exact hx,fun j hj=>?_⟩
  have:=hno l[j] (by rw [List.mem_take_iff_getElem];exact ⟨j,by omega,rfl⟩)
  simp [this]
 simp [idxF,this]
theorem qgd {α:Type} {q:α→Bool} {l:List α} (hno:∀ y∈l,q y=false):idxF q l=-1:=by
 have:l.findIdx? q=none:=by rw [List.findIdx?_eq_none_iff];exact hno
 simp [idxF,this]
theorem ql2 {α:Type} (q:α→Bool) (l:List α):decide ((0:Int)≤idxF q l)=l.any q:=by
 rw [← List.findIdx?_isSome]
 unfold idxF
 cases l.findIdx? q<;>simp
end
section
variable {E:Envt}
end
theorem qz2 (n:Nat):List.replicate n [PV.bool false]=bl (tab n fun _=>false):=by
 unfold bl tab
 rw [List.map_map]
 refine List.ext_getElem? fun j=>?_
 by_cases hj:j < n
 ·simp [hj]
 ·rw [zY (by simpa using hj),zY (by simpa using hj)]
end Go.Proofs.YtehfjlpenlffmaaGreatDoor
namespace Go.Proofs.YtehfjlpenlffmaaGreatDoor
open List renaming length_drop→z8
open Bool renaming and_eq_true→zq
theorem qsO (n b0 b1 b2 b3:Nat) (hn:1≤n) (h:¬ ((Lib.decodeN n b0 b1 b2 b3).1=65533∧(Lib.decodeN n b0 b1 b2 b3).2=1)) :
  (Lib.decodeN n b0 b1 b2 b3).2≤n∧b0 / 64≠2∧(1 < (Lib.decodeN n b0 b1 b2 b3).2→b1 / 64=2)∧(2 < (Lib.decodeN n b0 b1 b2 b3).2→b2 / 64=2)∧(3 < (Lib.decodeN n b0 b1 b2 b3).2→b3 / 64=2)∧(Lib.decodeN n b0 b1 b2 b3).2≤4∧1≤(Lib.decodeN n b0 b1 b2 b3).2:=by
 revert h
 unfold Lib.decodeN
 repeat' split
 all_goals simp only [not_true,not_false_eq_true,and_self,false_imp_iff,true_imp_iff]
 all_goals (try (intro h))
 all_goals (try simp at h)
 all_goals (refine ⟨?_,?_,?_,?_,?_,?_,?_⟩)
 all_goals omega
def inP (s:List UInt8) (i:Nat):Prop:=i < s.length∧(s.getD i 0).toNat / 64=2
theorem qkH (s:List UInt8) (i:Nat):insE s (i:Int)=true↔inP s i:=by
 simp only [insE,zq,decide_eq_true_eq,inP,Int.toNat_natCast]
 omega
theorem qqG {s:List UInt8} {i:Nat} (h:Lib.validD (s.drop i)=true) (hi:i < s.length) :
  ¬ inP s i∧1≤(Lib.decodeL (s.drop i)).2∧i+(Lib.decodeL (s.drop i)).2≤s.length∧(∀ j,i < j→j < i+(Lib.decodeL (s.drop i)).2→inP s j)∧Lib.validD (s.drop (i+(Lib.decodeL (s.drop i)).2))=true:=by
 have hne:s.drop i≠[]:=by
  intro e
  have:=congrArg List.length e
  rw [z8] at this
  simp at this
  omega
 rw [Lib.validD_step _ hne] at h
 split at h
 ·cases h
 rename_i hc
 have hl:(s.drop i).length=s.length - i:=z8
 have hg:∀ k,(s.drop i).getD k 0=s.getD (i+k) 0:=fun k=>by simp [List.getD,List.getElem?_drop]
 rw [List.drop_drop] at h
 rw [Lib.decodeL_N] at hc h ⊢
 rw [hl,hg,hg,hg,hg] at hc h ⊢
 obtain ⟨h1,h2,h3,h4,h5,h6,h7⟩:=qsO _ _ _ _ _ (by omega) hc
 generalize Lib.decodeN (s.length - i) (s.getD (i+0) 0).toNat (s.getD (i+1) 0).toNat (s.getD (i+2) 0).toNat (s.getD (i+3) 0).toNat=d at *
 refine ⟨fun hp=>h2 hp.2,h7,by omega,fun j hj1 hj2=>⟨by omega,?_⟩,h⟩
 rcases (by omega:j=i+1∨j=i+2∨j=i+3) with rfl|rfl|rfl
 ·exact h3 (by omega)
 ·exact h4 (by omega)
 ·exact h5 (by omega)
def qBD (s:List UInt8) (a b:Nat):Prop:=∀ i,(a < i∧i≤b)∨(b < i∧i≤a)→inP s i
theorem qqr (s:List UInt8):∀ (f j:Nat),j≤f→(qaM s f≤j↔∀ i,j < i→i≤f→inP s i)
 |0,j,h=>by
  constructor
  ·intro _ i h1 h2;omega
  ·intro _;simp [qaM]
 |f+1,j,h=>by
  unfold qaM
  split
  ·rename_i hin
   rw [qkH] at hin
   by_cases hj:j=f+1
   ·subst hj
    constructor
    ·intro _ i h1 h2;omega
    ·intro _;have:=qmn s f;omega
   ·rw [qqr s f j (by omega)]
    constructor
    ·intro h1 i h2 h3
     by_cases hi:i=f+1
     ·subst hi;exact hin
     ·exact h1 i h2 (by omega)
    ·intro h1 i h2 h3
     exact h1 i h2 (by omega)
  ·rename_i hin
   rw [qkH] at hin
   constructor
   ·intro h1 i h2 h3;omega
   ·intro h1
    by_cases hj:j=f+1
    ·omega
    ·exact absurd (h1 (f+1) (by omega) (by omega)) hin
theorem qsH (s:List UInt8):∀ (d t j:Nat),s.length≤t+d→t≤j→(j < fwdN s d t↔∀ i,t≤i→i≤j→inP s i)
 |0,t,j,h,hj=>by
  unfold fwdN
  constructor
  ·intro h1;omega
  ·intro h1
   have:=(h1 t (Nat.le_refl _) hj).1
   omega
 |d+1,t,j,h,hj=>by
  unfold fwdN
  split
  ·rename_i hin
   rw [qkH] at hin
   by_cases hjt:j=t
   ·subst hjt
    constructor
    ·intro _ i h1 h2
     have:i=j:=by omega
     subst this;exact hin
    ·intro _;have:=qsI s d (j+1);omega
   ·rw [qsH s d (t+1) j (by omega) (by omega)]
    constructor
    ·intro h1 i h2 h3
     by_cases hi:i=t
     ·subst hi;exact hin
     ·exact h1 i (by omega) h3
    ·intro h1 i h2 h3
     exact h1 i (by omega) h3
  ·rename_i hin
   rw [qkH] at hin
   constructor
   ·intro h1;omega
   ·intro h1
    exact absurd (h1 t (Nat.le_refl _) hj) hin
theorem quE {s:List UInt8} {l:List (Int×Int)} (hl:∀ p∈l,0≤p.1∧p.1 < p.2∧p.2≤s.length) (j:Nat):cov (qbV s l) j=true↔∃ j':Nat,cov l j'=true∧qBD s j j':=by
 simp only [cov,List.any_eq_true,zq,decide_eq_true_eq,qbV,List.mem_map]
 constructor
 ·rintro ⟨_,⟨p,hp,rfl⟩,h1,h2⟩
  obtain ⟨b1,b2,b3⟩:=hl p hp
  simp only [pntF] at h1 h2
  by_cases c1:(j:Int) < p.1
  ·refine ⟨p.1.toNat,⟨p,hp,by omega,by omega⟩,?_⟩
   have:=(qqr s p.1.toNat j (by omega)).1 (by omega)
   rintro i (⟨g1,g2⟩|⟨g1,g2⟩)
   ·exact this i g1 g2
   ·omega
  ·by_cases c2:(j:Int) < p.2
   ·refine ⟨j,⟨p,hp,by omega,c2⟩,?_⟩
    rintro i (⟨g1,g2⟩|⟨g1,g2⟩)<;>omega
   ·refine ⟨(p.2 - 1).toNat,⟨p,hp,by omega,by omega⟩,?_⟩
    have:=(qsH s (s.length - p.2.toNat) p.2.toNat j (by omega) (by omega)).1 (by omega)
    rintro i (⟨g1,g2⟩|⟨g1,g2⟩)
    ·omega
    ·exact this i (by omega) g2
 ·rintro ⟨j',⟨p,hp,h1,h2⟩,hs⟩
  obtain ⟨b1,b2,b3⟩:=hl p hp
  refine ⟨_,⟨p,hp,rfl⟩,?_,?_⟩
  ·simp only [pntF]
   have hbl:=qmn s p.1.toNat
   by_cases c1:(j:Int) < p.1
   ·have:=(qqr s p.1.toNat j (by omega)).2 (fun i g1 g2=>hs i (.inl ⟨g1,by omega⟩))
    omega
   ·omega
  ·simp only [pntF]
   have hfl:=qsI s (s.length - p.2.toNat) p.2.toNat
   by_cases c2:(j:Int) < p.2
   ·omega
   ·have:=(qsH s (s.length - p.2.toNat) p.2.toNat j (by omega) (by omega)).2 (fun i g1 g2=>hs i (.inr ⟨by omega,g2⟩))
    omega
theorem qui {s:List UInt8} {i n j j':Nat} (h0:¬ inP s i) (h1:∀ k,i < k→k < i+n→inP s k) (h2:¬ inP s (i+n)) (hj:i≤j∧j < i+n):qBD s j j'↔i≤j'∧j' < i+n:=by
 constructor
 ·intro h
  constructor
  ·rcases Nat.lt_or_ge j' i with h'|h'
   ·exact absurd (h i (.inr ⟨h',hj.1⟩)) h0
   ·exact h'
  ·rcases Nat.lt_or_ge j' (i+n) with h'|h'
   ·exact h'
   ·exact absurd (h (i+n) (.inl ⟨hj.2,h'⟩)) h2
 ·rintro ⟨g1,g2⟩ k (⟨k1,k2⟩|⟨k1,k2⟩)
  ·exact h1 k (by omega) (by omega)
  ·exact h1 k (by omega) (by omega)
theorem quT {s:List UInt8} {i:Nat} (h:Lib.validD (s.drop i)=true):¬ inP s i:=by
 intro hp
 exact (qqG h hp.1).1 hp
theorem qlc:∀ (kv:List (List UInt8×PV)) (s t:List UInt8) (v:PV),mpF (mpS kv s v) t=if s=t then some v else mpF kv t
 |[],s,t,v=>by simp [mpS,mpF]
 |p :: r,s,t,v=>by
  simp only [mpS]
  split
  ·rename_i h
   by_cases hs:s=t
   ·simp [mpF,hs]
   ·simp [mpF,hs,h]
  ·rename_i h
   simp only [mpF,qlc r s t v]
   by_cases hp:p.1=t
   ·have:¬ s=t:=fun e=>h (hp.trans e.symm)
    simp [hp,this]
   ·simp [hp]
def qsj (kv:List (List UInt8×PV)) (W:List (List UInt8)):Prop:=∀ w,mpD kv w (.bool false)=.bool (decide (w∈W))
theorem qqM:qsj [] []:=fun w=>by simp [mpD,mpF]
theorem qqL {kv:List (List UInt8×PV)} {W:List (List UInt8)} (h:qsj kv W) (s:List UInt8):qsj (mpS kv s (.bool true)) (W++[s]):=fun w=>by
 have h:=h w
 unfold mpD at h ⊢
 rw [qlc]
 by_cases hs:s=w
 ·simp [hs]
 ·have hw:¬ w=s:=fun e=>hs e.symm
  rw [if_neg hs,h]
  simp [hw]
end Go.Proofs.YtehfjlpenlffmaaGreatDoor
