import Derived.Test.YtekhobchfhhofaaGreatDoorLayTrimRight
import Derived.Test.YtekhobchfhhofaaGreatDoorZ11
import Derived.Test.YtekhobchfhhofaaGreatDoorLayDelStr
set_option linter.unusedVariables false
set_option linter.unusedSimpArgs false
set_option linter.defProp false
namespace Go.Proofs.YtekhobchfhhofaaGreatDoor
open Nat renaming reduceAdd→zd,reduceEqDiff→zb,reduceLT→zf,reduceLeDiff→za,reduceMul→ze
open List renaming cons_append→zH,length_cons→zn,mem_cons→zo
open Go.RowKit
abbrev qdo:IC:=(sR [qO 4 (.mov (.c (.bool false)))] (sR [qM 5 0,qO 6 (.sln (.t 5)),qM 7 1,qO 8 (.sln (.t 7)),qT 9 .geq 6 8,qM 10 9,⟨some 11,.mov (.t 0),(some (10,true))⟩,⟨some 12,.mov (.t 1),(some (10,true))⟩,⟨some 13,.sln (.t 12),(some (10,true))⟩,⟨some 14,.ssl (.t 11) none (some (.t 13)),(some (10,true))⟩,⟨some 15,.mov (.t 1),(some (10,true))⟩,⟨some 16,.bin .eql (.t 14) (.t 15),(some (10,true))⟩,qO 17 (.pick (.t 10) (.t 16) (.c (.bool false))),qM 4 17] .ret))
theorem qdz:chkF Tryz.prog Tryz.f157 qdo [.t 4] 18=true:=by kernel_rfl
abbrev qdp:IC:=(sR [qO 4 (.mov (.c (.str []))),qO 5 (.mov (.c (.bool false)))] (.seq (sR [qM 6 0,qM 7 1,jC 8 182 [.t 6,.t 7],qO 9 (.not (.t 8))] (jW 9 (sR [qM 10 0,qM 4 10,qO 5 (.mov (.c (.bool false)))] .ret))) (sR [qM 11 0,qM 12 0,qO 13 (.sln (.t 12)),qM 14 1,qO 15 (.sln (.t 14)),qT 16 .sub 13 15,qO 17 (.ssl (.t 11) none (some (.t 16))),qM 4 17,qO 5 (.mov (.c (.bool true)))] .ret)))
theorem qdA:chkF Tryz.prog Tryz.f252 qdp [.t 4,.t 5] 18=true:=by kernel_rfl
abbrev qh0:IC:=(sR [qO 4 (.mov (.c (.str []))),qO 5 (.mov (.c (.bool false)))] (sR [qM 6 0,qM 7 1,jC 8 252 [.t 6,.t 7],qO 9 (.ext 0 (.t 8)),qO 10 (.ext 1 (.t 8)),qM 4 9,qM 5 10] .ret))
theorem qic:chkF Tryz.prog Tryz.f207 qh0 [.t 4,.t 5] 11=true:=by kernel_rfl
abbrev qdd:IC:=(sR [qO 4 (.mov (.c (.str [])))] (.seq (sR [qM 5 0,qM 6 1,jC 7 157 [.t 5,.t 6]] (jW 7 (sR [qM 8 0,qM 9 1,qO 10 (.sln (.t 9)),qO 11 (.ssl (.t 8) (some (.t 10)) none),qM 4 11] .ret))) (sR [qM 12 0,qM 4 12] .ret)))
theorem qde:chkF Tryz.prog Tryz.f241 qdd [.t 4] 13=true:=by kernel_rfl
abbrev qhh:IC:=(sR [qO 4 (.mov (.c (.str [])))] (sR [qM 5 0,qM 6 1,jC 7 241 [.t 5,.t 6],qM 4 7] .ret))
theorem qho:chkF Tryz.prog Tryz.f194 qhh [.t 4] 8=true:=by kernel_rfl
abbrev qob:IC:=(sR [qO 2 (.mov (.c (.bool false)))] (sR [qM 3 0,jC 4 177 [.t 3,.c (.bool false)],qM 5 4,⟨some 6,.mov (.t 0),(some (5,true))⟩,⟨some 7,.call 88 [.t 6,.c (.str [32])],(some (5,true))⟩,⟨some 8,.not (.t 7),(some (5,true))⟩,qO 9 (.pick (.t 5) (.t 8) (.c (.bool false))),qM 10 9,⟨some 11,.mov (.t 0),(some (10,true))⟩,⟨some 12,.call 123 [.t 11,.c (.str [32])],(some (10,true))⟩,⟨some 13,.not (.t 12),(some (10,true))⟩,qO 14 (.pick (.t 10) (.t 13) (.c (.bool false))),qM 15 14,⟨some 16,.mov (.t 0),(some (15,true))⟩,⟨some 17,.call 131 [.t 16,.c (.str [32,32])],(some (15,true))⟩,⟨some 18,.not (.t 17),(some (15,true))⟩,qO 19 (.pick (.t 15) (.t 18) (.c (.bool false))),qM 2 19] .ret))
theorem qoo:chkF Tryz.prog Tryz.f118 qob [.t 2] 20=true:=by kernel_rfl
abbrev qgF:IC:=(sR [qO 4 (.mov (.c (.bool false)))] (sR [qM 5 0,qM 6 1,jC 7 236 [.t 5,.t 6],qB 8 .geq 7 (cI 0),qM 4 8] .ret))
theorem qgP:chkF Tryz.prog Tryz.f184 qgF [.t 4] 9=true:=by kernel_rfl
abbrev qkR:IC:=(sR [qO 2 (.mov (.c (.bool false)))] (sR [qM 3 0,qO 4 (.sln (.t 3)),qB 5 .leq 4 (cI 60),qM 6 5,⟨some 7,.mov (.t 0),(some (6,true))⟩,⟨some 8,.call 118 [.t 7],(some (6,true))⟩,qO 9 (.pick (.t 6) (.t 8) (.c (.bool false))),qM 10 9,⟨some 11,.mov (.t 0),(some (10,true))⟩,⟨some 12,.call 184 [.t 11,.c (.str [34,60,62,44,59])],(some (10,true))⟩,⟨some 13,.not (.t 12),(some (10,true))⟩,qO 14 (.pick (.t 10) (.t 13) (.c (.bool false))),qM 2 14] .ret))
theorem qkU:chkF Tryz.prog Tryz.f176 qkR [.t 2] 15=true:=by kernel_rfl
abbrev qlN:IC:=(sR [qO 1 (.box 42 (.t 0)),qO 2 (.mov (.c (.bool false)))] (sR [wF 3 0 1,qL 4 3,jC 5 176 [.t 4],qM 6 5,⟨some 7,.fla 1 (.t 1),(some (6,true))⟩,⟨some 8,.ld 1 false (.t 7),(some (6,true))⟩,⟨some 9,.call 163 [.t 8],(some (6,true))⟩,qO 10 (.pick (.t 6) (.t 9) (.c (.bool false))),qM 2 10] .ret))
theorem qlZ:chkF Tryz.prog Tryz.f117 qlN [.t 2] 11=true:=by kernel_rfl
section
variable {E:Envt}
def qbB (s p:List UInt8):List UInt8×Bool:=if sufE s p=true then (s.take (s.length - p.length),true) else (s,false)
def qcp (s p:List UInt8):List UInt8×Bool:=if Lib.hasPrefix s p=true then (s.drop p.length,true) else (s,false)
theorem qoT (s p:List UInt8) (hs:s.length≤1000000000) (hp:p.length≤1000000000):PCall Tryz.prog E 252 [.str s,.str p] (·=.tup [.str (qbB s p).1,.bool (qbB s p).2]):=by
 refine qag mixed Tryz.func252 qdA ?_
 refine zV ?_
 refine use1 (qje s p (by omega)) rfl (.inl rfl) ?_
 refine zS ?_
 unfold qbB
 refine br ?_ ?_
 ·intro h
  have h:sufE s p=false:=by rwa [Bool.not_eq_true'] at h
  refine zS ?_
  rw [if_neg (by simp [h])]
 ·intro h
  have h:sufE s p=true:=by rwa [Bool.not_eq_false'] at h
  have hb:p.length≤s.length:=by
   have:=of_decide_eq_true (Bool.and_eq_true_iff.1 h).1
   omega
  have e:((s.length:Int) - p.length).toNat=s.length - p.length:=by omega
  simp only [ZZ,WW,Ze,reduceCtorEq,zd,ze,za,zf,zb,e]
  refine ⟨qam (by omega) (by omega),⟨by omega,by omega⟩,?_⟩
  rw [if_pos h]
theorem qhD (s p:List UInt8) (hs:s.length≤1000000000) (hp:p.length≤1000000000):PCall Tryz.prog E 207 [.str s,.str p] (·=.tup [.str (qbB s p).1,.bool (qbB s p).2]):=by
 refine qag mixed Tryz.func207 qic ?_
 refine zV ?_
 refine use1 (qoT s p hs hp) rfl (.inl rfl) ?_
 simp only [ZZ,WW,Ze,reduceCtorEq,zd,ze,za,zf,zb]
theorem qdw {s p:List UInt8} (h:Lib.hasPrefix s p=true):p.length≤s.length:=by
 unfold Lib.hasPrefix at h
 simp at h
 first|exact (List.IsPrefix.length_le (List.isPrefixOf_iff_prefix.1 h))|exact h.length_le|omega
theorem qyi (s p:List UInt8):(decide ((p.length:Int)≤s.length) && decide (s.take p.length=p))=Lib.hasPrefix s p:=by
 rw [Bool.eq_iff_iff]
 unfold Lib.hasPrefix
 rw [List.isPrefixOf_iff_prefix,List.prefix_iff_eq_take]
 simp only [Bool.and_eq_true,decide_eq_true_eq]
 constructor
 ·rintro ⟨_,h⟩;exact h.symm
 ·intro h
  have:=congrArg List.length h
  simp at this
  exact ⟨by omega,h.symm⟩
theorem qnB (s p:List UInt8) (hs:s.length≤1000000000):PCall Tryz.prog E 157 [.str s,.str p] (·=.bool (Lib.hasPrefix s p)):=by
 rw [← qyi]
 refine qag mixed Tryz.func157 qdz ?_
 refine zV ?_
 ((with_reducible and_intros)<;>try exact sc_)
theorem qmM (s p:List UInt8) (hs:s.length≤1000000000) (hp:p.length≤1000000000):PCall Tryz.prog E 241 [.str s,.str p] (·=.str (qcp s p).1):=by
 refine qag mixed Tryz.func241 qde ?_
 refine zV ?_
 refine use1 (qnB s p hs) rfl (.inl rfl) ?_
 refine zS ?_
 unfold qcp
 refine br ?_ ?_
 ·intro h
  have hb:=qdw h
  refine zS ?_
  refine ⟨⟨by omega,by omega⟩,?_⟩
  rw [if_pos h]
  try simp
 ·intro h
  refine zS ?_
  rw [if_neg (by simp [h])]
theorem qgq (s p:List UInt8) (hs:s.length≤1000000000) (hp:p.length≤1000000000):PCall Tryz.prog E 194 [.str s,.str p] (·=.str (qcp s p).1):=by
 refine qag mixed Tryz.func194 qho ?_
 refine zV ?_
 refine use1 (qmM s p hs hp) rfl (.inl rfl) ?_
 simp only [ZZ,WW,Ze,reduceCtorEq,zd,ze,za,zf,zb]
theorem qip (s cs:List UInt8) (hs:s.length≤1000000000) (hcs:cs.length≤1000000) (h2:asc cs=true):PCall Tryz.prog E 184 [.str s,.str cs] (·=.bool (decide (0≤Lib.indexAny s cs))):=by
 refine qag mixed Tryz.func184 qgP ?_
 refine zV ?_
 refine use1 (qq7 s cs hs hcs h2) rfl (.inl rfl) ?_
 simp only [ZZ,WW,Ze,reduceCtorEq,zd,ze,za,zf,zb]
end
def qm2 (s:List UInt8):Bool:=((visE s false && !Lib.hasPrefix s [32]) && !sufE s [32]) && !decide (0≤Lib.index s [32,32])
theorem qr6 (s:List UInt8) (hs:s.length≤1000000000):PCall Tryz.prog E0 118 [.str s] (·=.bool (qm2 s)):=by
 refine qag mixed Tryz.func118 qoo ?_
 refine zV ?_
 refine use1 (qnt s false hs) rfl (.inl rfl) ?_
 refine zS ?_
 refine useG (fun _=>qe3 s [32]) rfl (.inl rfl) ?_
 refine zS ?_
 refine useG (fun _=>qe2 s [32] (by omega)) rfl (.inl rfl) ?_
 refine zS ?_
 refine useG (fun _=>qgt s [32,32] hs) rfl (.inl rfl) ?_
 refine zS ?_
 ((with_reducible and_intros)<;>try exact sc_)
def qys:List UInt8:=[34,60,62,44,59]
def qn1 (s:List UInt8):Bool:=(decide ((s.length:Int)≤60) && qm2 s) && !decide (0≤Lib.indexAny s qys)
theorem qt4 (s:List UInt8) (hs:s.length≤1000000000):PCall Tryz.prog E0 176 [.str s] (·=.bool (qn1 s)):=by
 refine qag mixed Tryz.func176 qkU ?_
 refine zV ?_
 refine useG (fun _=>qr6 s (by omega)) rfl (.inl rfl) ?_
 refine zS ?_
 refine useG (fun _=>qip s qys hs (by decide) (by decide)) rfl (.inl rfl) ?_
 refine zS ?_
 ((with_reducible and_intros)<;>try exact sc_)
theorem qrr (n m:List UInt8) (hn:n.length≤1000000000) (hm:m.length≤1000000000):PCall Tryz.prog E0 117 [.agg [.str n,.str m]] (·=.bool (qn1 n && qcN m)):=by
 refine qag mixed Tryz.func117 qlZ ?_
 refine zV ?_
 refine use1 (qt4 n hn) rfl (.inl rfl) ?_
 refine zS ?_
 refine useG (fun _=>qml m (by omega)) rfl (.inl rfl) ?_
 simp only [ZZ,WW,Ze,reduceCtorEq,zd,ze,za,zf,zb]
abbrev qiv:IC:=(sR [jI 2 0] (sR [qM 3 0,qO 4 (.sln (.t 3)),qB 5 .gtr 4 (cI 20000),jC 6 99 [.t 5,.c (.int .i64 2)],qM 7 0,jC 8 178 [.t 7],qO 9 (.not (.t 8)),jC 10 99 [.t 9,.c (.int .i64 3)],qO 11 (.bsl 1 [.t 6,.t 10]),jC 12 38 [.t 11],qM 2 12] .ret))
theorem qiN:chkF Tryz.prog Tryz.f119 qiv [.t 2] 13=true:=by kernel_rfl
theorem qht (s:List UInt8) (hs:s.length≤1000000000):PCall Tryz.prog E0 119 [.str s] (·=int (qel s)):=by
 refine qag mixed Tryz.func119 qiN ?_
 refine zV ?_
 refine use1 (qbC _ 2) rfl (.inl rfl) ?_
 refine zS ?_
 refine use1 (quK s hs) rfl (.inl rfl) ?_
 refine zS ?_
 refine use1 (qbC _ 3) rfl (.inl rfl) ?_
 refine zS ?_
 refine use1 (qbv [qlL s,qap (!qkK s) 3] (by simp)) rfl (.inl rfl) ?_
 refine zS ?_
 unfold qel qlL qap
 by_cases h1:20000 < s.length
 ·simp [qaf,h1,show (20000:Int) < s.length by omega]
 ·by_cases h2:qkK s=true
  ·simp [qaf,h1,h2,show ¬ (20000:Int) < s.length by omega]
  ·simp [qaf,h1,h2,show ¬ (20000:Int) < s.length by omega]
def sp (c:UInt8):List UInt8→List (List UInt8)
 |[]=>[[]]
 |x :: s=>if x=c then [] :: sp c s else (x :: (sp c s).headD []) :: (sp c s).tail
theorem qvb (c:UInt8) (s:List UInt8):sp c s≠[]:=by
 cases s with
 |nil=>simp [sp]
 |cons x s=>unfold sp;split<;>simp
theorem qjY {s:List UInt8} {c:UInt8} (h:Lib.index s [c]=-1):Lib.split s [c]=[s]:=by
 unfold Lib.split
 rw [Lib.count_miss h]
 rfl
theorem qlq {s:List UInt8} {c:UInt8} {i:Nat} (h:Lib.index s [c]=i):Lib.split s [c]=s.take i :: Lib.split (s.drop (i+1)) [c]:=by
 unfold Lib.split
 rw [Lib.count_hit (by simp) h,Nat.add_comm,Lib.splitK,if_neg (by rw [h];simp),h]
 simp
theorem qu8 (c:UInt8):∀ s:List UInt8,Lib.split s [c]=sp c s:=by
 intro s
 induction s with
 |nil=>rw [qjY (by rfl)];rfl
 |cons x s ih=>
  by_cases hx:x=c
  ·subst hx
   have h0:Lib.index (x :: s) [x]=((0:Nat):Int):=by rw [Lib.index_one];simp [Lib.indexByte]
   rw [qlq h0,sp,if_pos rfl,← ih]
   simp
  ·have hi:Lib.index (x :: s) [c]=if Lib.index s [c]=-1 then -1 else Lib.index s [c]+1:=by
    rw [Lib.index_one,Lib.index_one,Lib.indexByte]
    simp [hx]
   rw [sp,if_neg hx,← ih]
   by_cases hm:Lib.index s [c]=-1
   ·rw [if_pos hm] at hi
    rw [qjY hi,qjY hm]
    rfl
   ·rw [if_neg hm] at hi
    have hge:=Lib.indexByte_ge s c
    rw [← Lib.index_one] at hge
    obtain ⟨i,hi2⟩:∃ i:Nat,Lib.index s [c]=i:=⟨(Lib.index s [c]).toNat,by omega⟩
    rw [hi2] at hi
    rw [qlq (i:=i+1) (by rw [hi];simp),qlq hi2]
    simp
theorem qcG (s:List UInt8) (c:UInt8):splF s c=sp c s:=by
 rw [← qu8]
 unfold splF Lib.split
 rw [Lib.splitB_data]
theorem qw9 (c:UInt8) (b:List UInt8):∀ a:List UInt8,sp c (a++c :: b)=sp c a++sp c b:=by
 intro a
 induction a with
 |nil=>simp [sp]
 |cons x a ih=>
  rw [zH,sp,sp,ih]
  split
  ·simp
  ·have:=qvb c a
   cases h:sp c a with
   |nil=>exact absurd h this
   |cons y r=>simp
theorem qxz (c:UInt8):∀ s:List UInt8,∀ x∈sp c s,c∉x:=by
 intro s
 induction s with
 |nil=>simp [sp]
 |cons y s ih=>
  intro x hx
  rw [sp] at hx
  split at hx
  ·rcases zo.1 hx with rfl|hx
   ·simp
   ·exact ih x hx
  ·rename_i hy
   cases h:sp c s with
   |nil=>exact absurd h (qvb c s)
   |cons z r=>
    rw [h] at hx ih
    rcases zo.1 hx with rfl|hx
    ·have:=ih z (by simp)
     simp only [List.headD_cons,zo,not_or]
     exact ⟨fun e=>hy e.symm,this⟩
    ·exact ih x (by simp only [List.tail_cons] at hx;exact List.mem_cons_of_mem _ hx)
theorem qzA {c:UInt8}:∀ {s:List UInt8},c∉s→sp c s=[s]:=by
 intro s
 induction s with
 |nil=>intro _;rfl
 |cons y s ih=>
  intro h
  simp only [zo,not_or] at h
  rw [sp,if_neg (fun e=>h.1 e.symm),ih h.2]
  rfl
def wgt:List (List UInt8)→Nat
 |[]=>0
 |x :: r=>x.length+1+wgt r
theorem qqm (a b:List (List UInt8)):wgt (a++b)=wgt a+wgt b:=by
 induction a with
 |nil=>simp [wgt]
 |cons x a ih=>simp only [zH,wgt,ih];omega
theorem qmU (p:List UInt8→Bool) (a:List (List UInt8)):wgt (a.filter p)≤wgt a:=by
 induction a with
 |nil=>simp [wgt]
 |cons x a ih=>
  rw [List.filter_cons]
  split
  ·simp only [wgt];omega
  ·simp only [wgt];omega
theorem qsW (a:List (List UInt8)):a.length≤wgt a:=by
 induction a with
 |nil=>simp
 |cons x a ih=>simp only [wgt,zn];omega
theorem qrh (c:UInt8):∀ s:List UInt8,wgt (sp c s)=s.length+1:=by
 intro s
 induction s with
 |nil=>simp [sp,wgt]
 |cons y s ih=>
  rw [sp]
  split
  ·simp only [wgt,ih,zn,List.length_nil];omega
  ·cases h:sp c s with
   |nil=>exact absurd h (qvb c s)
   |cons z r=>
    rw [h] at ih
    simp only [wgt,List.headD_cons,List.tail_cons,zn] at ih ⊢
    omega
theorem qhO (x y:List UInt8) (r:List (List UInt8)):qaV (x :: y :: r)=x++32 :: qaV (y :: r):=by
 unfold qaV
 rw [Lib.join_cons,Lib.join_cons]
 simp [Lib.joinTail]
theorem qjm:∀ (l:List (List UInt8)),(qaV l).length≤wgt l - 1
 |[]=>by simp [qaV,Lib.join_nil]
 |[x]=>by simp [qaV,Lib.join_one,wgt]
 |x :: y :: r=>by
  have:=qjm (y :: r)
  rw [qhO]
  simp only [wgt,List.length_append,zn] at this ⊢
  omega
end Go.Proofs.YtekhobchfhhofaaGreatDoor
namespace Go.Proofs.YtekhobchfhhofaaGreatDoor
open Nat renaming le_refl→zO,reduceAdd→zd,reduceEqDiff→zb,reduceLT→zf,reduceLeDiff→za,reduceMul→ze
open List renaming replicate→zL
open Go.Lib Go.RowKit Go.Shelf Go.Sort
theorem qzG:OneCell sE:=fun _=>rfl
theorem quM (s:List UInt8) (c:UInt8) (hs:s.length≤1000000000):FCall Tryz.prog E0 113 [.str s,.str [c]] tStr 1 (·=strE (splF s c)):=by
 intro w U vs v0 hU hE hEb hA _
 obtain ⟨_,m,hm⟩:=hE
 simp only [PRepL,PRep] at hA
 obtain ⟨v,r,rfl,rfl,v2,r2,rfl,rfl,rfl⟩:=hA
 refine (Any.strings_Split Tryz.laySplit qta ⟨s.toArray⟩ ⟨#[c]⟩ m w (by rw [qee];omega) hm (zO 1)).mono ?_
 rintro e w' ⟨rfl,rfl⟩
 have hl:=Lib.splitB_all ⟨#[c]⟩ (zO 1) 0 _ (⟨s.toArray⟩:ByteArray) rfl
 have hle:=Lib.countB_le ⟨#[c]⟩ (zO 1) (⟨s.toArray⟩:ByteArray).size ⟨s.toArray⟩ (zO _)
 rw [qee] at hle
 have hln:(strE (splF s c)).length=Lib.countB ⟨s.toArray⟩ ⟨#[c]⟩+1:=by simp [splF,hl,strE]
 have hv:((Lib.splitB ⟨#[c]⟩ 0 (Lib.countB ⟨s.toArray⟩ ⟨#[c]⟩) ⟨s.toArray⟩).map Value.string)=(splF s c).map sE:=by simp [splF,sE,Function.comp_def]
 refine ⟨_,.fr (strE (splF s c)) tStr 1,noOS,rfl,⟨_,rfl,rfl⟩,⟨(splF s c).map sE,⟨by rw [hln];simp [splF,hl],.inr ⟨w.heap.size,Lib.countB ⟨s.toArray⟩ ⟨#[c]⟩+1,_,(0,0),by rw [hln],heap_alloc_new w _,by omega,?_,?_,?_,.inl rfl⟩⟩,?_,strE_vals.2 rfl,?_,?_⟩,⟨rfl,rfl,rfl,by simp,fun k hk _=>Lib.alloc_old w _ k hk⟩⟩
 ·unfold maxLen;omega
 ·simp [hl]
 ·rw [hv]
  simp only [Nat.mul_one]
  exact List.take_of_length_le (by simp [strE])
 ·intro u hu
  simp only [List.mem_map] at hu
  obtain ⟨x,_,rfl⟩:=hu
  rfl
 ·intro x hx
  simp only [strE,List.mem_map] at hx
  obtain ⟨y,_,rfl⟩:=hx
  rfl
 ·intro b hb
  simp [blk] at hb
  omega
theorem qxy (x:List UInt8) (w:World):Calls Tryz.prog 198 #[sE x] w fun e w'=>e=.returned (.bool x.isEmpty)∧w'=w:=by
 unfold sE
 go_enter Tryz.func198,Tryz.ntmps198
 go_wp2
 go_ret
 exact ⟨rfl,rfl⟩
theorem qu6:(Tryz.prog.info? 9).map (fun i=>(i.zero,i.size))=some (some (.string ByteArray.empty),1):=by kernel_rfl
section
variable {E:Envt} {L:Objs} {k:Key} {fr:List AV} {d:Option Nat} {is:List IOper} {Y:List PV} {K:List AV→Objs→Prop}
theorem qzt (i:Nat) (l:List (List UInt8)) (g:FuncId) (p:List UInt8→Bool) (hl:l≠[]) (hlen:l.length≤1000000000) (hlk:Zas L k=some (.row (strE l) tStr 1 true)) (hfn:fnB Tryz.prog g=true) (hg:∀ x w,Calls Tryz.prog g #[sE x] w fun e w'=>e=.returned (.bool (p x))∧w'=w)
  (hk:qaa Tryz.prog E Y is (Zg (fr.map (·.kill (.l i))) d (.p (strs (l.filter fun x=>!p x)))) (delO L k) K):qbr Tryz.prog E 197 [.row k,.fn g []] L d fr (qd1 Tryz.prog E Y is K):=by
 refine .inr (.inr ⟨i,?_⟩)
 intro w X ι vs hs hX hE hEb hA
 simp only [ARepL,ARep] at hA
 obtain ⟨v1,r1,rfl,⟨rfl,A,n,c,hv⟩,v2,r2,rfl,rfl,rfl⟩:=hA
 obtain ⟨us,u1,u2,u3,u4⟩:=hs.obj k _ hlk
 rw [strE_vals] at u3
 subst u3
 have hown:=u1.owns
 rw [qac] at hown
 have hne:ι k≠.slice none 0 0:=by
  intro e
  rcases hown.2 with ⟨_,h0⟩|⟨q,cap,cur,h1,_⟩
  ·exact hl (List.eq_nil_of_length_eq_zero h0)
  ·rw [e] at h1;cases h1
 obtain ⟨b,cap,hvb,_,hlt,hnc,hcm,_,hH⟩:=Lib.holds_of_ownsRow (enc:=sE) hown hne
 rw [hvb] at hown
 have hOb:Own L ι b:=⟨k,_,hlk,by rw [hvb];rfl⟩
 have hgv:∀ (W:World) (x:List UInt8),FnGives Tryz.prog g #[] #[sE x] (.bool (p x)) W:=fun W x=>(hg x W).mono fun e w' ⟨h1,h2⟩=>⟨h1,0,by rw [h2];rfl⟩
 have hcall:=AnyE.slices_DeleteFunc Tryz.layDelStr sE qzG p g #[] (fun args w=>qfr hfn args w) [] (zero_of_info qu6).1 b 0 cap l.toArray w (fun W x _=>hgv W x) (fun _ _ _ x _=>hgv _ x) hH (by simp;omega) (by simpa using hnc)
 simp only [List.size_toArray,List.toList_toArray] at hcall
 rw [hvb]
 refine hcall.mono ?_
 rintro e w' ⟨rfl,q,rfl⟩
 have hle:(l.filter fun x=>!p x).length≤l.length:=List.length_filter_le _ _
 have hown2:=Lib.ownsRow_putRow (q:=q) (k:=(l.filter fun x=>!p x).length) (ys:=(l.filter fun x=>!p x)++zL (l.length - (l.filter fun x=>!p x).length) []) hown (by simp;omega) hle
 rw [List.take_left' rfl] at hown2
 generalize hW:putRow sE (Sort.ahead w q) b 0 ((l.filter fun x=>!p x)++zL (l.length - (l.filter fun x=>!p x).length) []).toArray=w1 at hown2 ⊢
 have hG:Grow w w1 (fun x=>x=b):=by
  rw [← hW]
  refine ⟨rfl,rfl,rfl,by simp [putRow,mapBlock,Sort.ahead],fun x hx hn=>?_⟩
  simp [putRow,mapBlock,Sort.ahead,Array.getElem?_modify,show b≠x from fun e=>hn e.symm]
 have hsub:∀ j a,Zas (delO L k) j=some a→j≠k∧Zas L j=some a:=by
  intro j a hj
  rw [qhf] at hj
  by_cases e:j=k
  ·rw [if_pos e] at hj;cases hj
  ·rw [if_neg e] at hj;exact ⟨e,hj⟩
 have hown3:∀ x,Own (delO L k) ι x→Own L ι x:=fun x ⟨j,a,h1,h2⟩=>⟨j,a,(hsub j a h1).2,h2⟩
 have hnb:¬ (Own (delO L k) ι b∨X b):=by
  rintro (⟨j,a,h1,h2⟩|h)
  ·obtain ⟨e,h3⟩:=hsub j a h1
   exact e (hs.inj j k a _ b h3 hlk h2 (by rw [hvb];rfl))
  ·exact (hX b h).2 hOb
 have hgrow:Grow w w1 (Own L ι):=⟨hG.os,hG.tape,hG.output,hG.size,fun x hx hn=>hG.block x hx (fun e=>hn (by rw [e];exact hOb))⟩
 have hkp:Keeps w w1 (fun x=>Own L ι x∨X x) (fun x=>Own (delO L k) ι x∨X x):=fun x hx hu=>⟨hgrow.block x hx (fun h=>hu (.inl h)),fun h=>hu (h.imp (hown3 x) id)⟩
 refine ⟨_,.p (strs (l.filter fun x=>!p x)),delO L k,ι,rfl,hk,?_,⟨⟨?_,fun j j' a a' x h1 h2 h3 h4=>hs.inj j j' a a' x (hsub j a h1).2 (hsub j' a' h2).2 h3 h4⟩,hgrow,fun x h=>.inl (hown3 x h),fun j _=>rfl,fun j hj=>?_⟩⟩
 ·rw [qbh]
  show PRep w1 _ (.sl 1 (strE _)) _
  refine ⟨some ⟨b,0,none⟩,cap,by rw [qac],by rw [qac];omega,fun _=>⟨b,0,rfl,Nat.lt_of_lt_of_le hlt hG.size,hnb,qnJ _ 0 fun j u hu=>?_⟩⟩
  rw [Nat.zero_add]
  have:=hown2.cells (g:=b) rfl j u hu
  rw [show ({ block:=b,off:=0 }:Addr).add j=⟨b,j,none⟩ from by cases j<;>simp [Addr.add]] at this
  exact this
 ·intro j a h1
  obtain ⟨e,h2⟩:=hsub j a h1
  refine ObjOk.mono hkp (fun x hx=>hG.block x ((hs.obj j a h2).blk_lt hx) (fun ex=>?_)) (hs.obj j a h2)
  subst ex
  exact e (hs.inj j k a _ x h2 hlk hx (by rw [hvb];rfl))
 ·obtain ⟨a,ha⟩:=Option.isSome_iff_exists.1 hj
  exact .inl (by rw [(hsub j a ha).2];rfl)
end
abbrev qhj:IC:=(sR [qO 2 (.mov (.c (.str [])))] (sR [qM 3 0,jC 4 113 [.t 3,.c (.str [32])],jC 5 197 [.t 4,.f 198],jC 6 109 [.t 5,.c (.str [32])],qM 2 6] .ret))
theorem qhq:chkF Tryz.prog Tryz.f139 qhj [.t 2] 7=true:=by kernel_rfl
def qfH:IC:=(sR [qT 10 .lss 9 8] (.seq (jE 10) (.seq (.block 1 (sR [qX 11 1 7 9,qL 12 11,qM 5 12] (sR [qM 13 5,qB 14 .neq 13 (.c (.str []))] (jW 14 (.reg [qM 15 3,qM 16 5,qO 17 (.bsl 1 [.t 16]),qO 18 (.app 9 1 16 (.t 15) (.t 17)),qM 3 18]))))) (.cut (.reg [qB 19 .add 9 (cI 1),qM 9 19])))))
abbrev qmz:IC:=(sR [qO 2 (.mov (.c (.str [])))] (sR [qO 3 (.nilr 9 1)] (.seq (sR [qM 6 0,jC 7 113 [.t 6,.c (.str [32])],qN 8 7,jI 9 0] (.block 0 (.loop qfH))) (sR [qM 20 3,jC 21 109 [.t 20,.c (.str [32])],qM 2 21] .ret))))
theorem qmE:chkF Tryz.prog Tryz.f231 qmz [.t 2] 22=true:=by kernel_rfl
def bits (s:List UInt8):List (List UInt8):=(splF s 32).filter fun x=>!x.isEmpty
def sqF (s:List UInt8):List UInt8:=qaV (bits s)
theorem qtb (s:List UInt8) (c:UInt8):splF s c≠[]:=by
 have hl:=Lib.splitB_all ⟨#[c]⟩ (zO 1) 0 _ (⟨s.toArray⟩:ByteArray) rfl
 intro h
 have:=congrArg List.length h
 simp [splF,hl] at this
theorem qqX (s:List UInt8) (hs:s.length≤100000000):(bits s).length≤100000001∧(qaV (bits s)).length≤900000000:=by
 have h1:wgt (bits s)≤s.length+1:=by rw [← qrh 32 s,← qcG];exact qmU _ _
 have h2:=qjm (bits s)
 have h3:=qsW (bits s)
 omega
theorem qbK (s:List UInt8) (hs:s.length≤100000000):PCall Tryz.prog E0 139 [.str s] (·=.str (sqF s)):=by
 refine qag mixed Tryz.func139 qhq ?_
 refine zV ?_
 refine useF (quM s 32 (by omega)) rfl rfl ?_
 rintro es rfl
 refine zS ?_
 refine qzt 1000 (splF s 32) 198 List.isEmpty (qtb s 32) (by have:=qf1 s 32;omega) rfl (by kernel_rfl) qxy ?_
 rw [qbh]
 refine zS ?_
 refine use1 (qb3 (bits s) (by have:=qqX s hs;omega) (by have:=qqX s hs;omega)) rfl (.inl rfl) ?_
 refine zS ?_
 rfl
theorem qd3 (s:List UInt8) (hs:s.length≤100000000):PCall Tryz.prog E0 231 [.str s] (·=.str (sqF s)):=by
 refine qag mixed Tryz.func231 qmE ?_
 refine zV ?_
 refine use1 (qjT s 32 (by omega)) rfl (.inl rfl) ?_
 rw [qbh]
 have hlen:=qf1 s 32
 have hB:sqF s=qaV ((splF s 32).filter fun x=>!x.isEmpty):=rfl
 have hbd:=qqX s hs
 unfold bits at hbd
 rw [hB]
 generalize splF s 32=ls at *
 simp only [ZZ,WW,Ze,reduceCtorEq,zd,ze,za,zf,zb,qac]
 refine qae (fun n fr L=>∃ (k:Nat) (l:List (List UInt8)),k≤ls.length∧n=ls.length - k∧(l=(ls.take k).filter (fun x=>!x.isEmpty))∧fr=(oo::oo::oo::.row (.l 3)::oo::oo::oo::.p (.sl 1 (strE ls))::.p (int (ls.length:Nat))::.p (int (k:Nat))::oD (oC []))∧L=[(.l 3,.row (strE l) tStr 1 true)]) (ls.length) _ _ (by simp only [ZZ,WW,Ze,reduceCtorEq,zd,ze,za,zf,zb,qac];try trivial) zF_ ⟨0,[],by omega,by omega,by simp,rfl,rfl⟩ ?_
 rintro n fr L ⟨k,l,hk,rfl,hl2,rfl,rfl⟩
 simp only [qfH,ZZ,WW,Ze,reduceCtorEq,zd,ze,za,zf,zb]
 refine br ?_ ?_
 ·intro h
  have hlt:k < ls.length:=by have:=of_decide_eq_true h;omega
  obtain ⟨x,hx⟩:∃ x,ls[k]?=some x:=⟨_,List.getElem?_eq_getElem hlt⟩
  have hg:=qaD hx
  have hlk:l.length≤ls.length:=by rw [hl2];exact Nat.le_trans (List.length_filter_le _ _) (by simp;omega)
  have hnx:(ls.take (k+1)).filter (fun x=>!x.isEmpty)=if x=[] then l else l++[x]:=by
   rw [List.take_succ_eq_append_getElem hlt,List.filter_append,← hl2,(List.getElem?_eq_some_iff.1 hx).2]
   cases x<;>simp
  simp only [ZZ,WW,Ze,reduceCtorEq,zd,ze,za,zf,zb,hg,qac]
  ((with_reducible and_intros)<;>try exact sc_)
  refine br ?_ ?_
  ·intro hm
   have hm:¬ x=[]:=by simpa using hm
   simp only [ZZ,WW,Ze,reduceCtorEq,zd,ze,za,zf,zb,qac]
   refine ⟨by omega,?_⟩
   refine qad zE_ ?_
   refine zS ?_
   refine ⟨qam (by omega) (by omega),?_⟩
   rw [qal,← qdO]
   refine qab (ls.length - (k+1)) _ _ (by omega) zF_ zF_ ⟨k+1,l++[x],by omega,rfl,by rw [hnx,if_neg hm],rfl,rfl⟩
  ·intro hm
   have hm:x=[]:=by simpa using hm
   refine zS ?_
   refine qad zE_ ?_
   refine zS ?_
   refine ⟨qam (by omega) (by omega),?_⟩
   refine qab (ls.length - (k+1)) _ _ (by omega) zF_ zF_ ⟨k+1,l,by omega,rfl,by rw [hnx,if_pos hm],rfl,rfl⟩
 ·intro h
  have hge:k=ls.length:=by have:=of_decide_eq_false h;omega
  subst hge
  rw [List.take_length] at hl2
  subst hl2
  refine zS ?_
  refine use1 (qb3 (ls.filter fun x=>!x.isEmpty) (by omega) (by omega)) rfl (.inr rfl) ?_
  simp only [ZZ,WW,Ze,reduceCtorEq,zd,ze,za,zf,zb]
end Go.Proofs.YtekhobchfhhofaaGreatDoor
namespace Go.Proofs.YtekhobchfhhofaaGreatDoor
open Nat renaming le_refl→zO,reduceAdd→zd,reduceEqDiff→zb,reduceLT→zf,reduceLeDiff→za,reduceMul→ze
open List renaming getD→zy,getElem?_eq_getElem→zh,getElem?_eq_some_iff→zm,length_cons→zn,length_nil→zx,mem_of_getElem?→zl,replicate→zL,take_of_length_le→zN,take_succ_eq_append_getElem→zI
open Go.RowKit
abbrev qod:IC:=(sR [qO 2 (.mov (.c (.nl 1))),qO 3 (.mov (.c (.bool false)))] (.seq (sR [qM 6 0,qB 7 .eql 6 (.c (.str []))] (jW 7 (sR [qO 2 (.mov (.c (.nl 1))),qO 3 (.mov (.c (.bool true)))] .ret))) (sR [qM 9 0,jC 10 207 [.t 9,.c (.str [10])],qM 8 10,qO 11 (.ext 0 (.t 8)),qO 12 (.ext 1 (.t 8)),qM 4 11,qM 5 12] (sR [qM 13 4,jC 14 113 [.t 13,.c (.str [10])],qM 15 5,qM 2 14,qM 3 15] .ret))))
theorem qoq:chkF Tryz.prog Tryz.f228 qod [.t 2,.t 3] 16=true:=by kernel_rfl
abbrev qlO:IC:=(sR [qO 2 (.mov (.c (.bool false)))] (sR [qM 3 0,jC 4 130 [.t 3,.c (.str [32])],qB 5 .eql 4 (.c (.str [])),qM 2 5] .ret))
theorem ql0:chkF Tryz.prog Tryz.f168 qlO [.t 2] 6=true:=by kernel_rfl
def qfw:IC:=(sR [qT 10 .lss 9 8] (.seq (jE 10) (.seq (.block 1 (sR [qX 11 1 7 9,qL 12 11,qM 4 12] (sR [qM 14 0,qM 15 4,jC 16 207 [.t 14,.t 15],qM 13 16,qO 17 (.ext 0 (.t 13)),qO 18 (.ext 1 (.t 13)),qM 5 17,qM 6 18] (sR [qM 19 6,qM 20 19,⟨some 21,.mov (.t 5),(some (20,true))⟩,⟨some 22,.call 168 [.t 21],(some (20,true))⟩,⟨some 23,.not (.t 22),(some (20,true))⟩,qO 24 (.pick (.t 20) (.t 23) (.c (.bool false)))] (jW 24 (sR [qO 2 (.mov (.c (.bool true)))] .ret)))))) (.reg [qB 25 .add 9 (cI 1),qM 9 25]))))
abbrev qmw:IC:=(sR [qO 2 (.mov (.c (.bool false)))] (.seq (sR [qO 7 (.bsl 1 [.c (.str [119,114,111,116,101,58]),.c (.str [115,99,104,114,105,101,98,58])]),qN 8 7,jI 9 0] (.block 0 (.loop qfw))) (sR [qM 26 0,qB 27 .eql 26 (.c (.str [45,45,45,45,45,79,114,105,103,105,110,97,108,32,77,101,115,115,97,103,101,45,45,45,45,45])),qM 2 27] .ret)))
theorem qmB:chkF Tryz.prog Tryz.f229 qmw [.t 2] 28=true:=by kernel_rfl
abbrev qh3:IC:=(sR [qO 2 (.mov (.c (.nl 1)))] (sR [qM 4 0,jC 5 113 [.t 4,.c (.str [10])],qM 3 5] (sR [qM 6 3,qM 7 3,qN 8 7,qB 9 .sub 8 (cI 1),qO 10 (.vsl 1 (.t 6) none (some (.t 9))),qM 2 10] .ret)))
theorem qif:chkF Tryz.prog Tryz.f193 qh3 [.t 2] 11=true:=by kernel_rfl
def qce:IC:=(sR [qT 12 .lss 11 10] (.seq (jE 12) (.seq (.block 1 (sR [qX 13 1 9 11,qL 14 13,qM 4 14] (sR [qM 16 0,qM 17 4,jC 18 207 [.t 16,.t 17],qM 15 18,qO 19 (.ext 0 (.t 15)),qO 20 (.ext 1 (.t 15)),qM 5 19,qM 6 20] (sR [qM 21 6,qM 22 21,⟨some 23,.mov (.t 5),(some (22,true))⟩,⟨some 24,.call 139 [.t 23],(some (22,true))⟩,⟨some 25,.bin .neq (.t 24) (.c (.str [])),(some (22,true))⟩,qO 26 (.pick (.t 22) (.t 25) (.c (.bool false)))] (jW 26 (sR [qO 2 (.mov (.c (.bool true)))] .ret)))))) (.reg [qB 27 .add 11 (cI 1),qM 11 27]))))
abbrev qfz:IC:=(sR [qO 2 (.mov (.c (.bool false)))] (.seq (sR [qM 7 0,qB 8 .eql 7 (.c (.str [45,45,45,45,45,79,114,105,103,105,110,97,108,32,77,101,115,115,97,103,101,45,45,45,45,45]))] (jW 8 (sR [qO 2 (.mov (.c (.bool true)))] .ret))) (.seq (sR [qO 9 (.bsl 1 [.c (.str [119,114,111,116,101,58]),.c (.str [115,99,104,114,105,101,98,58])]),qN 10 9,jI 11 0] (.block 0 (.loop qce))) (sR [qO 2 (.mov (.c (.bool false)))] .ret))))
theorem qfO:chkF Tryz.prog Tryz.f195 qfz [.t 2] 28=true:=by kernel_rfl
def qbA (s:List UInt8):List (List UInt8)×Bool:=if s=[] then ([],true) else (splF (qbB s [10]).1 10,(qbB s [10]).2)
theorem qfL (s p:List UInt8):(qbB s p).1.length≤s.length:=by
 unfold qbB
 split<;>simp
theorem qwQ (s:List UInt8) (hs:s.length≤1000000000):PCall Tryz.prog E0 228 [.str s] (·=.tup [strs (qbA s).1,.bool (qbA s).2]):=by
 refine qag mixed Tryz.func228 qoq ?_
 refine zV ?_
 refine br ?_ ?_
 ·intro h
  have h:s=[]:=by simpa using h
  refine zS ?_
  rw [qbA,if_pos h]
  rfl
 ·intro h
  have h:¬ s=[]:=by simpa using h
  refine zS ?_
  refine use1 (qhD s [10] hs (by decide)) rfl (.inl rfl) ?_
  refine zS ?_
  refine use1 (qjT (qbB s [10]).1 10 (by have:=qfL s [10];omega)) rfl (.inl rfl) ?_
  refine zS ?_
  rw [qbA,if_neg h]
  rfl
section
variable {E:Envt}
def qcY (s:List UInt8):Bool:=decide (Lib.trimS s [32]=[])
theorem qgk (s:List UInt8) (hs:s.length≤1000000000):PCall Tryz.prog E 168 [.str s] (·=.bool (qcY s)):=by
 refine qag mixed Tryz.func168 ql0 ?_
 refine zV ?_
 refine use1 (qkt s [32] hs (by decide) (by decide)) rfl (.inl rfl) ?_
 refine zS ?_
 rfl
abbrev qvG:List UInt8:=[45,45,45,45,45,79,114,105,103,105,110,97,108,32,77,101,115,115,97,103,101,45,45,45,45,45]
def wsQ:List (List UInt8):=[[119,114,111,116,101,58],[115,99,104,114,105,101,98,58]]
def hitF (s w:List UInt8):Bool:=(qbB s w).2 && !qcY (qbB s w).1
def qnA (s:List UInt8):Bool:=(wsQ.any (hitF s)) || decide (s=qvG)
theorem qw4:∀ w∈wsQ,w.length≤10:=by decide
theorem qsS:wsQ.length=2:=rfl
theorem qx4 (s:List UInt8) (hs:s.length≤1000000000):PCall Tryz.prog E 229 [.str s] (·=.bool (qnA s)):=by
 refine qag mixed Tryz.func229 qmB ?_
 refine zV ?_
 rw [show ([[PV.str [119,114,111,116,101,58]],[PV.str [115,99,104,114,105,101,98,58]]]:List (List PV))=strE wsQ from rfl]
 rw [show ((2:Nat):Int)=(wsQ.length:Nat) from rfl]
 have hbd:=qw4
 have hwl:=qsS
 unfold qnA
 generalize wsQ=ws at *
 refine qae (fun n fr L=>∃ (k:Nat),k≤ws.length∧n=ws.length - k∧((ws.take k).any (hitF s)=false)∧fr=(.p (.str s)::oC (oB (.p (.sl 1 (strE ws))::.p (int (ws.length:Nat))::.p (int (k:Nat))::oE (oB []))))∧L=[]) (ws.length) _ [] (by simp only [ZZ,WW,Ze,reduceCtorEq,zd,ze,za,zf,zb,qac];try trivial) zF_ ⟨0,by omega,by omega,by simp,rfl,rfl⟩ ?_
 rintro n fr L ⟨k,hk,rfl,hno,rfl,rfl⟩
 simp only [qfw,ZZ,WW,Ze,reduceCtorEq,zd,ze,za,zf,zb]
 refine br ?_ ?_
 ·intro h
  have hlt:k < ws.length:=by have:=of_decide_eq_true h;omega
  obtain ⟨x,hx⟩:∃ x,ws[k]?=some x:=⟨_,zh hlt⟩
  have hg:=qaD hx
  have hxb:=hbd x (zl hx)
  have hnx:(ws.take (k+1)).any (hitF s)=hitF s x:=by
   rw [zI hlt,List.any_append,hno,(zm.1 hx).2]
   simp
  simp only [ZZ,WW,Ze,reduceCtorEq,zd,ze,za,zf,zb,hg,qac]
  ((with_reducible and_intros)<;>try exact sc_)
  refine use1 (qhD s x hs (by omega)) rfl (.inl rfl) ?_
  refine zS ?_
  refine useG (fun _=>qgk (qbB s x).1 (by have:=qfL s x;omega)) rfl (.inl rfl) ?_
  refine zS ?_
  refine br ?_ ?_
  ·intro hm
   have hm:hitF s x=true:=hm
   have ha:ws.any (hitF s)=true:=List.any_eq_true.2 ⟨x,zl hx,hm⟩
   refine zS ?_
   simp [ha]
  ·intro hm
   have hm:hitF s x=false:=hm
   refine zS ?_
   refine ⟨qam (by omega) (by omega),?_⟩
   refine qab (ws.length - (k+1)) _ [] (by omega) zF_ zF_ ⟨k+1,by omega,rfl,by rw [hnx,hm],rfl,rfl⟩
 ·intro h
  have hge:ws.length≤k:=by have:=of_decide_eq_false h;omega
  rw [zN hge] at hno
  refine zS ?_
  rw [hno]
  rfl
end
def qao (s:List UInt8):List (List UInt8):=(splF s 10).take ((splF s 10).length - 1)
theorem qne (s:List UInt8) (hs:s.length≤1000000000):PCall Tryz.prog E0 193 [.str s] (·=strs (qao s)):=by
 refine qag mixed Tryz.func193 qif ?_
 refine zV ?_
 refine use1 (qjT s 10 hs) rfl (.inl rfl) ?_
 rw [qbh]
 have h1:=qf1 s 10
 have h2:=qtb s 10
 have h3:0 < (splF s 10).length:=List.length_pos_iff.2 h2
 have h4:(((splF s 10).length:Int) - 1).toNat=(splF s 10).length - 1:=by omega
 have h5:strs (qao s)=.sl 1 ((strE (splF s 10)).take ((splF s 10).length - 1)):=by rw [qbh,qao,strE,List.map_take];rfl
 rw [h5]
 simp only [ZZ,WW,Ze,reduceCtorEq,zd,ze,za,zf,zb,qac,h4]
 exact ⟨qam (by omega) (by omega),by omega,by omega⟩
def qms (s w:List UInt8):Bool:=(qbB s w).2 && !decide (sqF (qbB s w).1=[])
def qsH (s:List UInt8):Bool:=decide (s=qvG) || (wsQ.any (qms s))
theorem qmK (s:List UInt8) (hs:s.length≤25000):PCall Tryz.prog E0 195 [.str s] (·=.bool (qsH s)):=by
 refine qag mixed Tryz.func195 qfO ?_
 refine zV ?_
 refine br ?_ ?_
 ·intro h
  have h:s=qvG:=by simpa using h
  refine zS ?_
  simp [qsH,h]
 intro h
 have h:¬ s=qvG:=by simpa using h
 have hF:qsH s=wsQ.any (qms s):=by simp [qsH,h]
 rw [hF]
 refine zS ?_
 rw [show ([[PV.str [119,114,111,116,101,58]],[PV.str [115,99,104,114,105,101,98,58]]]:List (List PV))=strE wsQ from rfl]
 rw [show ((2:Nat):Int)=(wsQ.length:Nat) from rfl]
 have hbd:=qw4
 have hwl:=qsS
 clear hF h
 generalize wsQ=ws at *
 refine qae (fun n fr L=>∃ (k:Nat),k≤ws.length∧n=ws.length - k∧((ws.take k).any (qms s)=false)∧fr=(.p (.str s)::oD (.p (.sl 1 (strE ws))::.p (int (ws.length:Nat))::.p (int (k:Nat))::oE []))∧L=[]) (ws.length) _ [] (by simp only [ZZ,WW,Ze,reduceCtorEq,zd,ze,za,zf,zb,qac];try trivial) zF_ ⟨0,by omega,by omega,by simp,rfl,rfl⟩ ?_
 rintro n fr L ⟨k,hk,rfl,hno,rfl,rfl⟩
 simp only [qce,ZZ,WW,Ze,reduceCtorEq,zd,ze,za,zf,zb]
 refine br ?_ ?_
 ·intro h
  have hlt:k < ws.length:=by have:=of_decide_eq_true h;omega
  obtain ⟨x,hx⟩:∃ x,ws[k]?=some x:=⟨_,zh hlt⟩
  have hg:=qaD hx
  have hxb:=hbd x (zl hx)
  have hnx:(ws.take (k+1)).any (qms s)=qms s x:=by
   rw [zI hlt,List.any_append,hno,(zm.1 hx).2]
   simp
  simp only [ZZ,WW,Ze,reduceCtorEq,zd,ze,za,zf,zb,hg,qac]
  ((with_reducible and_intros)<;>try exact sc_)
  refine use1 (qhD s x (by omega) (by omega)) rfl (.inl rfl) ?_
  refine zS ?_
  refine useG (fun _=>qbK (qbB s x).1 (by have:=qfL s x;omega)) rfl (.inl rfl) ?_
  refine zS ?_
  refine br ?_ ?_
  ·intro hm
   have hm:qms s x=true:=hm
   have ha:ws.any (qms s)=true:=List.any_eq_true.2 ⟨x,zl hx,hm⟩
   refine zS ?_
   simp [ha]
  ·intro hm
   have hm:qms s x=false:=hm
   refine zS ?_
   refine ⟨qam (by omega) (by omega),?_⟩
   refine qab (ws.length - (k+1)) _ [] (by omega) zF_ zF_ ⟨k+1,by omega,rfl,by rw [hnx,hm],rfl,rfl⟩
 ·intro h
  have hge:ws.length≤k:=by have:=of_decide_eq_false h;omega
  rw [zN hge] at hno
  refine zS ?_
  rw [hno]
def qeQ:IC:=(.seq (sR [qM 82 11,qM 83 5,qN 84 83,qT 85 .lss 82 84] (.cond (.t 85) .skip (.exit 8))) (.seq (.block 9 (.seq (.seq (.drg [qM 88 8,qM 89 11,qX 90 1 88 89,qL 91 90,qM 92 8,qM 93 10,qX 94 1 92 93,qL 95 94,qT 96 .gtr 91 95]) (jW 96 (sR [qM 97 5,qM 98 10,qM 99 5,qM 100 10,qM 101 8,qM 102 11,qX 103 1 101 102,qL 104 103,qX 105 3 97 98,wF 106 0 105,wF 107 0 106,qS 1 107 104,qX 108 3 99 100,wF 109 2 108,⟨none,.st 1 (.t 109) (.c (.bool true)),none⟩] (.exit 8)))) (sR [qM 110 5,qM 111 11,qX 112 3 110 111,wF 113 0 112,wF 114 1 113,qL 115 114,jC 116 168 [.t 115],qO 117 (.not (.t 116))] (jW 117 (.exit 8))))) (.reg [qM 86 11,qB 87 .add 86 (cI 1),qM 11 87])))
def qeR:IC:=(sR [qT 70 .lss 69 68] (.seq (.cond (.t 70) .skip (.exit 6)) (.seq (.block 7 (sR [qM 71 69,qM 10 71] (.seq (sR [qM 72 5,qM 73 10,qX 74 3 72 73,wF 75 0 74,wF 76 1 75,qL 77 76,jC 78 229 [.t 77],qO 79 (.not (.t 78))] (jW 79 (.exit 7))) (sR [qM 80 10,qB 81 .add 80 (cI 1),qM 11 81] (.block 8 (.loop qeQ)))))) (.cut (.reg [qB 118 .add 69 (cI 1),qM 69 118])))))
def qeS:IC:=(sR [qT 55 .lss 54 53] (.seq (.cond (.t 55) .skip (.exit 4)) (.seq (.block 5 (sR [qM 56 54,qM 9 56] (.reg [qM 57 8,qM 58 9,qM 59 5,qM 60 9,qX 61 3 59 60,wF 62 0 61,wF 63 0 62,qL 64 63,qX 65 1 57 58,qS 1 65 64]))) (.reg [qB 66 .add 54 (cI 1),qM 54 66]))))
def qeT:IC:=(.seq (sR [qM 27 7,jC 28 88 [.t 27,.c (.str [62])]] (.cond (.t 28) .skip (.exit 2))) (.block 3 (sR [qM 29 7,qO 30 (.ssl (.t 29) (some (cI 1)) none),jC 31 194 [.t 30,.c (.str [32])],qM 7 31] (.reg [qM 32 5,qM 33 6,qX 34 3 32 33,wF 35 0 34,wF 36 0 35,qL 37 36,qB 38 .add 37 (cI 1),qX 39 3 32 33,wF 40 0 39,wF 41 0 40,qS 1 41 38]))))
def qeU:IC:=(sR [qT 23 .lss 22 21] (.seq (jE 23) (.seq (.block 1 (sR [qM 24 22,qX 25 1 20 22,qL 26 25,qM 6 24,qM 7 26] (.seq (.block 2 (.loop qeT)) (.reg [qM 42 5,qM 43 6,qM 44 7,qX 45 3 42 43,wF 46 0 45,wF 47 1 46,qS 1 47 44])))) (.reg [qB 48 .add 22 (cI 1),qM 22 48]))))
abbrev qlP:IC:=(sR [qO 2 (.mov (.c (.nl 3)))] (sR [qM 13 0,jC 14 228 [.t 13],qM 12 14,qO 15 (.ext 0 (.t 12)),qO 16 (.ext 1 (.t 12)),qM 3 15,qM 4 16] (sR [qM 17 3,qN 18 17,qO 19 (.mks 200 3 32 [.int .i64 0,.str [],.bool false] (.t 18) (.t 18)),qM 5 19] (.seq (sR [qM 20 3,qN 21 20,jI 22 0] (.block 0 (.loop qeU))) (sR [qM 49 5,qN 50 49,qO 51 (.mks 3 1 8 [.int .i64 0] (.t 50) (.t 50)),qM 8 51] (.seq (sR [qM 52 5,qN 53 52,jI 54 0] (.block 4 (.loop qeS))) (.seq (sR [qM 67 5,qN 68 67,jI 69 0] (.block 6 (.loop qeR))) (sR [qM 119 5,qM 2 119] .ret))))))))
theorem ql1:chkF Tryz.prog Tryz.f167 qlP [.t 2] 120=true:=by kernel_rfl
theorem qsA (s p:List UInt8):(qcp s p).1.length≤s.length:=by
 unfold qcp
 split<;>simp
theorem qfp {s:List UInt8} (h:Lib.hasPrefix s [62]=true):(qcp (s.drop 1) [32]).1.length < s.length:=by
 have h1:=qdw h
 have h2:=qsA (s.drop 1) [32]
 rw [List.length_drop] at h2
 simp only [zn,zx] at h1
 omega
def qej (s:List UInt8):Nat×List UInt8:=if h:Lib.hasPrefix s [62]=true then ((qej (qcp (s.drop 1) [32]).1).1+1,(qej (qcp (s.drop 1) [32]).1).2) else (0,s)
termination_by s.length
decreasing_by all_goals exact qfp h
theorem qjc {s:List UInt8} (h:Lib.hasPrefix s [62]=true):qej s=((qej (qcp (s.drop 1) [32]).1).1+1,(qej (qcp (s.drop 1) [32]).1).2):=by
 rw [qej,dif_pos h]
theorem qjd {s:List UInt8} (h:Lib.hasPrefix s [62]=false):qej s=(0,s):=by
 rw [qej,dif_neg (by rw [h];simp)]
theorem qrf:∀ (n:Nat) (s:List UInt8),s.length≤n→(qej s).1+(qej s).2.length≤s.length:=by
 intro n
 induction n with
 |zero=>
  intro s hs
  cases h:Lib.hasPrefix s [62] with
  |true=>have:=qfp h;omega
  |false=>rw [qjd h];simp
 |succ n ih=>
  intro s hs
  cases h:Lib.hasPrefix s [62] with
  |true=>
   have h1:=qfp h
   have:=ih (qcp (s.drop 1) [32]).1 (by omega)
   rw [qjc h]
   simp only
   omega
  |false=>rw [qjd h];simp
def tb (n:Nat) (f:Nat→List PV):List (List PV):=(List.range n).map f
theorem qja (n:Nat) (f:Nat→List PV):(tb n f).length=n:=by simp [tb]
theorem qg1 {n k:Nat} {f:Nat→List PV} (h:k < n):(tb n f).getD k []=f k:=by simp [tb,zy,h]
theorem qeN {n:Nat} {f g:Nat→List PV} (h:∀ j,j < n→f j=g j):tb n f=tb n g:=by
 unfold tb
 exact List.map_congr_left fun j hj=>h j (List.mem_range.1 hj)
theorem qre (n k:Nat) (f:Nat→List PV) (x:List PV):(tb n f).set k x=tb n fun j=>if j=k then x else f j:=by
 refine List.ext_getElem? fun j=>?_
 unfold tb
 rw [List.getElem?_set]
 by_cases hj:j < n
 ·by_cases e:k=j
  ·subst e;simp [hj]
  ·simp [hj,e,show ¬ j=k from fun h=>e h.symm]
 ·by_cases e:k=j
  ·subst e;simp [hj]
  ·simp [hj,e]
theorem qw6 (n:Nat) (x:List PV):zL n x=tb n fun _=>x:=by
 refine List.ext_getElem? fun j=>?_
 by_cases hj:j < n
 ·simp [tb,hj]
 ·simp [tb,hj]
theorem qx2 {es:List (List PV)} {k:Nat} {x:List PV} (h:k < es.length):(es.set k x).getD k []=x:=by simp [zy,h]
def q3 (d:Int) (t:List UInt8) (b:Bool):List PV:=[int d,.str t,.bool b]
def sgF (l:List (List UInt8)) (j:Nat):Nat:=(qej (l.getD j [])).1
def txF (l:List (List UInt8)) (j:Nat):List UInt8:=(qej (l.getD j [])).2
def rowA (l:List (List UInt8)) (k:Nat):List (List PV):=tb l.length fun j=>if j < k then q3 (sgF l j) (txF l j) false else q3 0 [] false
def rowB (l:List (List UInt8)) (k:Nat) (d:Int) (t:List UInt8):List (List PV):=tb l.length fun j=>if j=k then q3 d t false else if j < k then q3 (sgF l j) (txF l j) false else q3 0 [] false
theorem qtq (l:List (List UInt8)):zL l.length [int 0,.str [],.bool false]=rowA l 0:=by
 rw [qw6]
 exact qeN fun j _=>by simp [q3]
theorem qzI (l:List (List UInt8)) (k:Nat):rowA l k=rowB l k 0 []:=qeN fun j _=>by
 by_cases e:j=k
 ·simp [e]
 ·simp [e]
theorem qro {l:List (List UInt8)} {k:Nat} (h:k < l.length) (d:Int) (t:List UInt8):(rowB l k d t).getD k []=[int d,.str t,.bool false]:=by
 rw [rowB,qg1 h];simp [q3]
theorem qrm (l:List (List UInt8)) (k:Nat) (d d':Int) (t t':List UInt8):(rowB l k d t).set k [int d',.str t',.bool false]=rowB l k d' t':=by
 rw [rowB,qre]
 exact qeN fun j _=>by by_cases e:j=k<;>simp [e,q3]
theorem qzH {l:List (List UInt8)} {k:Nat} {x:List UInt8} (h:l[k]?=some x):rowB l k (qej x).1 (qej x).2=rowA l (k+1):=qeN fun j _=>by
 by_cases e:j=k
 ·subst e;simp [sgF,txF,zy,h]
 ·simp only [if_neg e,show (j < k+1)=(j < k) from by simp;omega]
theorem qrp (l:List (List UInt8)) (k:Nat):(rowA l k).length=l.length:=qja _ _
theorem qrn (l:List (List UInt8)) (k:Nat) (d:Int) (t:List UInt8):(rowB l k d t).length=l.length:=qja _ _
def rowS (l:List (List UInt8)) (k:Nat):List (List PV):=tb l.length fun j=>if j < k then [int (sgF l j)] else [int 0]
theorem qpf (l:List (List UInt8)):zL l.length [int 0]=rowS l 0:=by
 rw [qw6]
 exact qeN fun j _=>by simp
theorem qdP (l:List (List UInt8)) (k:Nat):(rowS l k).length=l.length:=qja _ _
theorem qrl (l:List (List UInt8)) (k:Nat):(rowS l k).set k [int (sgF l k)]=rowS l (k+1):=by
 rw [rowS,qre]
 refine qeN fun j _=>?_
 by_cases e:j=k
 ·simp [e]
 ·simp only [if_neg e,show (j < k+1)=(j < k) from by simp;omega]
theorem qhI {l:List (List UInt8)} {k:Nat} (h:k < l.length):(rowS l l.length).getD k []=[int (sgF l k)]:=by rw [rowS,qg1 h];simp [h]
def atF (l:List (List UInt8)) (i k:Nat):Option Nat:=if h:k < l.length then (if sgF l i < sgF l k then some (sgF l k) else if qcY (txF l k)=true then atF l i (k+1) else none) else none
termination_by l.length - k
def qF (l:List (List UInt8)) (j:Nat):Nat×Bool:=if qnA (txF l j)=true then (match atF l j (j+1) with|some d=>(d,true)|none=>(sgF l j,false)) else (sgF l j,false)
def rowC (l:List (List UInt8)) (i:Nat):List (List PV):=tb l.length fun j=>if j < i then q3 (qF l j).1 (txF l j) (qF l j).2 else q3 (sgF l j) (txF l j) false
theorem qtp (l:List (List UInt8)):rowA l l.length=rowC l 0:=qeN fun j hj=>by simp [hj]
theorem qhK (l:List (List UInt8)) (k:Nat):(rowC l k).length=l.length:=qja _ _
theorem qnI {l:List (List UInt8)} {i k:Nat} (h:k < l.length) (hik:i≤k):(rowC l i).getD k []=[int (sgF l k),.str (txF l k),.bool false]:=by
 rw [rowC,qg1 h,if_neg (by omega)];rfl
theorem qvt {l:List (List UInt8)} {i d:Nat} (h:qF l i=(d,true)):(rowC l i).set i [int d,.str (txF l i),.bool true]=rowC l (i+1):=by
 rw [rowC,qre]
 refine qeN fun j _=>?_
 by_cases e:j=i
 ·subst e;simp [h,q3]
 ·simp only [if_neg e,show (j < i+1)=(j < i) from by simp;omega]
theorem qlA {l:List (List UInt8)} {i:Nat} (h:qF l i=(sgF l i,false)):rowC l i=rowC l (i+1):=by
 refine qeN fun j _=>?_
 by_cases e:j=i
 ·subst e;simp [h]
 ·simp only [show (j < i+1)=(j < i) from by simp;omega]
theorem qo9 {l:List (List UInt8)} {m:Nat} (hb:∀ x∈l,x.length≤m) (j:Nat):sgF l j+(txF l j).length≤m:=by
 have:=qrf _ (l.getD j []) (zO _)
 unfold sgF txF
 by_cases hj:j < l.length
 ·have h2:=hb (l.getD j []) (by simp [zy,hj])
  omega
 ·have e:l.getD j []=[]:=by simp [zy,hj]
  rw [e] at this ⊢
  simp only [zx] at this
  omega
theorem qlK (s:List UInt8):(qbA s).1.length≤s.length+1∧∀ x∈(qbA s).1,x.length≤s.length:=by
 unfold qbA
 split
 ·simp
 ·have h1:=qfL s [10]
  have h2:=qf1 (qbB s [10]).1 10
  have h3:=qk6 (qbB s [10]).1 10
  exact ⟨by simp only;omega,fun x hx=>by have:=h3 x hx;omega⟩
abbrev tQ3:Nat:=200
abbrev tInt:Nat:=3
def apF (l:List (List UInt8)):List (List PV):=tb l.length fun j=>q3 (qF l j).1 (txF l j) (qF l j).2
theorem qvu (l:List (List UInt8)):rowC l l.length=apF l:=qeN fun j hj=>by simp [hj]
set_option maxHeartbeats 4000000 in
theorem qwJ (s:List UInt8) (hs:s.length≤25000):FCall Tryz.prog E0 167 [.str s] tQ3 3 (·=apF (qbA s).1):=by
 unfold FCall
 refine qe1 mixed Tryz.func167 ql1 ?_
 refine zV ?_
 refine use1 (qwQ s (by omega)) rfl (.inl rfl) ?_
 rw [qbh]
 obtain ⟨hll,hlb⟩:=qlK s
 generalize (qbA s).1=l at *
 simp only [ZZ,WW,Ze,reduceCtorEq,zd,ze,za,zf,zb,qac]
 refine ⟨⟨by omega,by omega,by omega⟩,?_⟩
 rw [qtq]
 refine qae (fun n fr L=>∃ (k:Nat),k≤l.length∧n=l.length - k∧fr=(.p (.str s)::oo::oo::oo::oo::.row (.l 19)::oD (oC (oB (.p (.sl 1 (strE l))::.p (int (l.length:Nat))::.p (int (k:Nat))::oG (oF (oo::[]))))))∧L=[(.l 19,.row (rowA l k) tQ3 3 true)]) (l.length) _ _ (by simp only [ZZ,WW,Ze,reduceCtorEq,zd,ze,za,zf,zb,qac];try trivial) zF_ ⟨0,by omega,by omega,rfl,rfl⟩ ?_
 rintro n fr L ⟨k,hk,rfl,rfl,rfl⟩
 simp only [qeU,ZZ,WW,Ze,reduceCtorEq,zd,ze,za,zf,zb]
 refine br ?_ ?_
 ·intro h
  have hlt:k < l.length:=by have:=of_decide_eq_true h;omega
  obtain ⟨x,hx⟩:∃ x,l[k]?=some x:=⟨_,zh hlt⟩
  have hg:=qaD hx
  have hxb:=hlb x (zl hx)
  simp only [ZZ,WW,Ze,reduceCtorEq,zd,ze,za,zf,zb,hg,qac]
  ((with_reducible and_intros)<;>try exact sc_)
  rw [qzI]
  refine qae (fun n fr L=>∃ (d:Nat) (u:List UInt8),u.length=n∧(qej x=(d+(qej u).1,(qej u).2))∧(d+u.length≤x.length)∧fr=(.p (.str s)::oo::oo::oo::oo::.row (.l 19)::.p (int (k:Nat))::.p (.str u)::oD (oC (.p (.sl 1 (strE l))::.p (int (l.length:Nat))::.p (int (k:Nat))::oG (oF (oo::[])))))∧L=[(.l 19,.row (rowB l k (d:Nat) []) tQ3 3 true)]) (x.length) _ _ zF_ zF_ ⟨0,x,rfl,by simp,by omega,rfl,rfl⟩ ?_
  rintro n fr L ⟨d,u,rfl,hst,hdb,rfl,rfl⟩
  simp only [qeT,ZZ,WW,Ze,reduceCtorEq,zd,ze,za,zf,zb]
  refine use1 (qe3 u [62]) rfl (.inl rfl) ?_
  refine zS ?_
  refine br ?_ ?_
  ·intro h2
   have hlen:=qdw h2
   simp only [zn,zx] at hlen
   have hdec:=qfp h2
   have hy:=qjc h2
   refine zS ?_
   ((with_reducible and_intros)<;>try exact sc_)
   rw [List.take_length,show Int.toNat 1=1 from rfl]
   refine use1 (qgq (u.drop 1) [32] (by simp;omega) (by decide)) rfl (.inl rfl) ?_
   simp only [ZZ,WW,Ze,reduceCtorEq,zd,ze,za,zf,zb,qrn,qro hlt]
   simp only [Zab,List.set_cons_zero,List.set_cons_succ,qrm]
   ((with_reducible and_intros)<;>try exact sc_)
   refine qab (((qcp (u.drop 1) [32]).1).length) _ _ (by omega) zF_ zF_ ⟨d+1,(qcp (u.drop 1) [32]).1,rfl,by rw [hst,hy];simp only;congr 1;omega,by omega,rfl,rfl⟩
  ·intro h2
   have hn:=qjd h2
   rw [hn] at hst
   simp only [Nat.add_zero] at hst
   simp only [ZZ,WW,Ze,reduceCtorEq,zd,ze,za,zf,zb,qrn,qro hlt]
   simp only [Zab,List.set_cons_zero,List.set_cons_succ,qrm]
   ((with_reducible and_intros)<;>try exact sc_)
   have hR:=qzH hx
   rw [hst] at hR
   simp only at hR
   rw [hR]
   refine qab (l.length - (k+1)) _ _ (by omega) zF_ zF_ ⟨k+1,by omega,rfl,rfl,rfl⟩
 ·intro h
  have hge:k=l.length:=by have:=of_decide_eq_false h;omega
  subst hge
  simp only [ZZ,WW,Ze,reduceCtorEq,zd,ze,za,zf,zb,qrp]
  refine ⟨⟨by omega,by omega,by omega⟩,?_⟩
  rw [qpf]
  refine qae (fun n fr L=>∃ (k:Nat),k≤l.length∧n=l.length - k∧fr=(.p (.str s)::oo::oo::oo::oo::.row (.l 19)::oo::oo::.row (.l 51)::oF (oD (oC (.p (int (l.length:Nat))::.p (int (k:Nat))::oG (oo::[])))))∧L=[(.l 19,.row (rowA l l.length) tQ3 3 true),(.l 51,.row (rowS l k) tInt 1 true)]) (l.length) _ _ (by simp only [ZZ,WW,Ze,reduceCtorEq,zd,ze,za,zf,zb,qac];try trivial) zF_ ⟨0,by omega,by omega,rfl,rfl⟩ ?_
  rintro n fr L ⟨k,hk,rfl,rfl,rfl⟩
  simp only [qeS,ZZ,WW,Ze,reduceCtorEq,zd,ze,za,zf,zb]
  have hgA:∀ k,k < l.length→(rowA l l.length).getD k []=[int (sgF l k),.str (txF l k),.bool false]:=fun k h=>by rw [rowA,qg1 h,if_pos h];rfl
  refine br ?_ ?_
  ·intro h
   have hlt:k < l.length:=by have:=of_decide_eq_true h;omega
   have hgS:(rowS l k).getD k []=[int 0]:=by rw [rowS,qg1 hlt];simp
   simp only [ZZ,WW,Ze,reduceCtorEq,zd,ze,za,zf,zb,qrp,qdP,hgA k hlt,hgS]
   ((with_reducible and_intros)<;>try exact sc_)
   rw [qrl]
   refine qab (l.length - (k+1)) _ _ (by omega) zF_ zF_ ⟨k+1,by omega,rfl,rfl,rfl⟩
  ·intro h
   have hge:k=l.length:=by have:=of_decide_eq_false h;omega
   subst hge
   rw [qtp]
   simp only [ZZ,WW,Ze,reduceCtorEq,zd,ze,za,zf,zb,qhK]
   refine qae (fun n fr L=>∃ (i:Nat),i≤l.length∧n=l.length - i∧fr=(.p (.str s)::oo::oo::oo::oo::.row (.l 19)::oo::oo::.row (.l 51)::oF (oE (oD (oB (oo::(.p (int (l.length:Nat))::.p (int (i:Nat))::oF (oE (oB []))))))))∧L=[(.l 19,.row (rowC l i) tQ3 3 true),(.l 51,.row (rowS l l.length) tInt 1 true)]) (l.length) _ _ (by simp only [ZZ,WW,Ze,reduceCtorEq,zd,ze,za,zf,zb,qac];try trivial) zF_ ⟨0,by omega,by omega,rfl,rfl⟩ ?_
   rintro n fr L ⟨i,hi,rfl,rfl,rfl⟩
   simp only [qeR,ZZ,WW,Ze,reduceCtorEq,zd,ze,za,zf,zb]
   refine br ?_ ?_
   ·intro h
    have hlt:i < l.length:=by have:=of_decide_eq_true h;omega
    have hsb:=qo9 hlb i
    simp only [ZZ,WW,Ze,reduceCtorEq,zd,ze,za,zf,zb,qhK,qnI hlt (zO i)]
    ((with_reducible and_intros)<;>try exact sc_)
    refine use1 (qx4 (txF l i) (by omega)) rfl (.inl rfl) ?_
    refine zS ?_
    refine br ?_ ?_
    ·intro hn
     have hn:qnA (txF l i)=false:=by simpa using hn
     have hq:qF l i=(sgF l i,false):=by simp [qF,hn]
     have hR:=qlA hq
     refine zS ?_
     refine qad zE_ ?_
     refine zS ?_
     ((with_reducible and_intros)<;>try exact sc_)
     rw [hR]
     refine qab (l.length - (i+1)) _ _ (by omega) zF_ zF_ ⟨i+1,by omega,rfl,rfl,rfl⟩
    ·intro hy
     have hy:qnA (txF l i)=true:=by simpa using hy
     refine zS ?_
     ((with_reducible and_intros)<;>try exact sc_)
     refine qae (fun n fr L=>∃ (k:Nat),l.length - k=n∧(atF l i (i+1)=atF l i k)∧(i < k∧k≤l.length)∧fr=(.p (.str s)::oo::oo::oo::oo::.row (.l 19)::oo::oo::.row (.l 51)::oo::.p (int (i:Nat))::.p (int (k:Nat))::oF (oE (oD (.p (int (l.length:Nat))::.p (int (i:Nat))::oF (oE (oB []))))))∧L=[(.l 19,.row (rowC l i) tQ3 3 true),(.l 51,.row (rowS l l.length) tInt 1 true)]) (l.length - (i+1)) _ _ zF_ zF_ ⟨i+1,rfl,rfl,by omega,rfl,rfl⟩ ?_
     rintro n fr L ⟨k,rfl,hat,hki,rfl,rfl⟩
     simp only [qeQ,ZZ,WW,Ze,reduceCtorEq,zd,ze,za,zf,zb]
     simp only [ZZ,WW,Ze,reduceCtorEq,zd,ze,za,zf,zb,qhK]
     refine br ?_ ?_
     ·intro h2
      have hlt2:k < l.length:=by have:=of_decide_eq_true h2;omega
      refine drg0 ?_
      simp only [ZZ,WW,Ze,reduceCtorEq,zd,ze,za,zf,zb,qdP,qhI hlt2,qhI hlt]
      ((with_reducible and_intros)<;>try exact sc_)
      refine br ?_ ?_
      ·intro h3
       have h3:sgF l i < sgF l k:=by have:=of_decide_eq_true h3;omega
       have hq:qF l i=(sgF l k,true):=by
        have:atF l i k=some (sgF l k):=by rw [atF,dif_pos hlt2,if_pos h3]
        simp [qF,hy,hat,this]
       have hR:=qvt hq
       simp only [ZZ,WW,Ze,reduceCtorEq,zd,ze,za,zf,zb,qhK,qnI hlt (zO i),qdP,qhI hlt2,qd4,qx2 (show i < (rowC l i).length by rw [qhK];exact hlt),List.length_set,List.set_set]
       rw [hR]
       ((with_reducible and_intros)<;>try exact sc_)
       refine qad zE_ ?_
       refine zS ?_
       ((with_reducible and_intros)<;>try exact sc_)
       refine qab (l.length - (i+1)) _ _ (by omega) zF_ zF_ ⟨i+1,by omega,rfl,rfl,rfl⟩
      ·intro h3
       have h3:¬ sgF l i < sgF l k:=by have:=of_decide_eq_false h3;omega
       simp only [ZZ,WW,Ze,reduceCtorEq,zd,ze,za,zf,zb,qhK,qnI hlt2 (by omega:i≤k),qd4]
       ((with_reducible and_intros)<;>try exact sc_)
       have hsb2:=qo9 hlb k
       refine use1 (qgk (txF l k) (by omega)) rfl (.inl rfl) ?_
       refine zS ?_
       refine br ?_ ?_
       ·intro h4
        have h4:qcY (txF l k)=false:=by simpa using h4
        have hq:qF l i=(sgF l i,false):=by
         have:atF l i k=none:=by rw [atF,dif_pos hlt2,if_neg h3,if_neg (by rw [h4];simp)]
         simp [qF,hy,hat,this]
        have hR:=qlA hq
        refine zS ?_
        refine qad zE_ ?_
        refine zS ?_
        ((with_reducible and_intros)<;>try exact sc_)
        rw [hR]
        refine qab (l.length - (i+1)) _ _ (by omega) zF_ zF_ ⟨i+1,by omega,rfl,rfl,rfl⟩
       ·intro h4
        have h4:qcY (txF l k)=true:=by simpa using h4
        have hn4:atF l i k=atF l i (k+1):=by rw [atF,dif_pos hlt2,if_neg h3,if_pos h4]
        simp only [ZZ,WW,Ze,reduceCtorEq,zd,ze,za,zf,zb,qd4]
        ((with_reducible and_intros)<;>try exact sc_)
        refine qab (l.length - (k+1)) _ _ (by omega) zF_ zF_ ⟨k+1,rfl,by rw [hat,hn4],by omega,rfl,rfl⟩
     ·intro h2
      have hge2:l.length≤k:=by have:=of_decide_eq_false h2;omega
      have hq:qF l i=(sgF l i,false):=by simp [qF,hy,hat];rw [atF,dif_neg (by omega)]
      have hR:=qlA hq
      refine zS ?_
      refine qad zE_ ?_
      refine zS ?_
      ((with_reducible and_intros)<;>try exact sc_)
      rw [hR]
      refine qab (l.length - (i+1)) _ _ (by omega) zF_ zF_ ⟨i+1,by omega,rfl,rfl,rfl⟩
   ·intro h
    have hge:i=l.length:=by have:=of_decide_eq_false h;omega
    subst hge
    rw [qvu]
    refine zS ?_
    exact qiM 19 _ rfl rfl rfl
end Go.Proofs.YtekhobchfhhofaaGreatDoor
