import Derived.Test.YtjgdjinhkgjpeabGreatDoorZ8
import Derived.Lib.LastIndexByte
import Derived.Lib.ItoaLen
import Derived.Test.YtjgdjinhkgjpeabGreatDoorLayItoa
import Derived.Test.YtjgdjinhkgjpeabGreatDoorLayAtoi
import Derived.Lib.AtoiErrMem
import Derived.Shelf.Strconv.Atoi
import Derived.Test.YtjgdjinhkgjpeabGreatDoorLayFields
import Derived.Shelf.Strconv.AtoiAll
import Derived.Shelf.Strconv.ErrVarAll
import Derived.Lib.AtoiAllCases
import Derived.Lib.AtoiTie
import Derived.Lib.ItoaMem
set_option linter.unusedVariables false
set_option linter.unusedSimpArgs false
set_option linter.defProp false
namespace Go.Proofs.YtjgdjinhkgjpeabGreatDoor
open Nat renaming le_trans→zt,mul_le_mul_right→zP,reduceAdd→zd,reduceEqDiff→zb,reduceLT→zf,reduceLeDiff→za,reduceMul→ze
open List renaming cons_append→zT,drop_eq_nil_of_le→zX,getD→zC,getElem?_eq_getElem→zk,getElem?_eq_some_iff→zo,getElem?_of_mem→yg,length_append→zm,length_cons→zl,length_nil→zr,map_cons→zx,mem_cons→zG,mem_map→zE,nil_append→zU,range→zB,take_length→z7,take_succ_eq_append_getElem→zI
open Bool renaming and_eq_true→zi,not_eq_false'→z6,not_eq_true'→zQ
open Go.RowKit
abbrev qcC:IC:=(sR [qO 4 (.mov (.c (.bool false)))] (sR [qM 5 0,qO 6 (.sln (.t 5)),qM 7 1,qO 8 (.sln (.t 7)),qT 9 .geq 6 8,qM 10 9,⟨some 11,.mov (.t 0),(some (10,true))⟩,⟨some 12,.mov (.t 1),(some (10,true))⟩,⟨some 13,.sln (.t 12),(some (10,true))⟩,⟨some 14,.ssl (.t 11) none (some (.t 13)),(some (10,true))⟩,⟨some 15,.mov (.t 1),(some (10,true))⟩,⟨some 16,.bin .eql (.t 14) (.t 15),(some (10,true))⟩,qO 17 (.pick (.t 10) (.t 16) (.c (.bool false))),qM 4 17] .ret))
theorem qcR:chkF Tryz.prog Tryz.f107 qcC [.t 4] 18=true:=by kernel_rfl
abbrev qcD:IC:=(sR [qO 4 (.mov (.c (.str []))),qO 5 (.mov (.c (.bool false)))] (.seq (sR [qM 6 0,qM 7 1,jC 8 166 [.t 6,.t 7],qO 9 (.not (.t 8))] (jW 9 (sR [qM 10 0,qM 4 10,qO 5 (.mov (.c (.bool false)))] .ret))) (sR [qM 11 0,qM 12 0,qO 13 (.sln (.t 12)),qM 14 1,qO 15 (.sln (.t 14)),qT 16 .sub 13 15,qO 17 (.ssl (.t 11) none (some (.t 16))),qM 4 17,qO 5 (.mov (.c (.bool true)))] .ret)))
theorem qcS:chkF Tryz.prog Tryz.f124 qcD [.t 4,.t 5] 18=true:=by kernel_rfl
abbrev qgG:IC:=(sR [qO 4 (.mov (.c (.str []))),qO 5 (.mov (.c (.bool false)))] (sR [qM 6 0,qM 7 1,jC 8 124 [.t 6,.t 7],qO 9 (.ext 0 (.t 8)),qO 10 (.ext 1 (.t 8)),qM 4 9,qM 5 10] .ret))
theorem qgT:chkF Tryz.prog Tryz.f77 qgG [.t 4,.t 5] 11=true:=by kernel_rfl
abbrev qcE:IC:=(sR [qO 4 (.mov (.c (.str []))),qO 5 (.mov (.c (.bool false)))] (.seq (sR [qM 6 0,qM 7 1,jC 8 107 [.t 6,.t 7],qO 9 (.not (.t 8))] (jW 9 (sR [qM 10 0,qM 4 10,qO 5 (.mov (.c (.bool false)))] .ret))) (sR [qM 11 0,qM 12 1,qO 13 (.sln (.t 12)),qO 14 (.ssl (.t 11) (some (.t 13)) none),qM 4 14,qO 5 (.mov (.c (.bool true)))] .ret)))
theorem qcT:chkF Tryz.prog Tryz.f171 qcE [.t 4,.t 5] 15=true:=by kernel_rfl
abbrev qgH:IC:=(sR [qO 4 (.mov (.c (.str []))),qO 5 (.mov (.c (.bool false)))] (sR [qM 6 0,qM 7 1,jC 8 171 [.t 6,.t 7],qO 9 (.ext 0 (.t 8)),qO 10 (.ext 1 (.t 8)),qM 4 9,qM 5 10] .ret))
theorem qgU:chkF Tryz.prog Tryz.f125 qgH [.t 4,.t 5] 11=true:=by kernel_rfl
abbrev qcs:IC:=(sR [qO 4 (.mov (.c (.str [])))] (.seq (sR [qM 5 0,qM 6 1,jC 7 107 [.t 5,.t 6]] (jW 7 (sR [qM 8 0,qM 9 1,qO 10 (.sln (.t 9)),qO 11 (.ssl (.t 8) (some (.t 10)) none),qM 4 11] .ret))) (sR [qM 12 0,qM 4 12] .ret)))
theorem qct:chkF Tryz.prog Tryz.f131 qcs [.t 4] 13=true:=by kernel_rfl
abbrev qfP:IC:=(sR [qO 4 (.mov (.c (.str [])))] (sR [qM 5 0,qM 6 1,jC 7 131 [.t 5,.t 6],qM 4 7] .ret))
theorem qf3:chkF Tryz.prog Tryz.f82 qfP [.t 4] 8=true:=by kernel_rfl
abbrev qlH:IC:=(sR [qO 2 (.mov (.c (.bool false)))] (sR [qM 3 0,jC 4 120 [.t 3,.c (.bool false)],qM 5 4,⟨some 6,.mov (.t 0),(some (5,true))⟩,⟨some 7,.call 63 [.t 6,.c (.str [32])],(some (5,true))⟩,⟨some 8,.not (.t 7),(some (5,true))⟩,qO 9 (.pick (.t 5) (.t 8) (.c (.bool false))),qM 10 9,⟨some 11,.mov (.t 0),(some (10,true))⟩,⟨some 12,.call 121 [.t 11,.c (.str [32])],(some (10,true))⟩,⟨some 13,.not (.t 12),(some (10,true))⟩,qO 14 (.pick (.t 10) (.t 13) (.c (.bool false))),qM 15 14,⟨some 16,.mov (.t 0),(some (15,true))⟩,⟨some 17,.call 70 [.t 16,.c (.str [32,32])],(some (15,true))⟩,⟨some 18,.not (.t 17),(some (15,true))⟩,qO 19 (.pick (.t 15) (.t 18) (.c (.bool false))),qM 2 19] .ret))
theorem qlV:chkF Tryz.prog Tryz.f74 qlH [.t 2] 20=true:=by kernel_rfl
section
variable {E:Envt}
def qbX (s p:List UInt8):List UInt8×Bool:=if sufE s p=true then (s.take (s.length - p.length),true) else (s,false)
def qat (s p:List UInt8):List UInt8×Bool:=if Lib.hasPrefix s p=true then (s.drop p.length,true) else (s,false)
theorem qmq (s p:List UInt8) (hs:s.length≤1000000000) (hp:p.length≤1000000000):PCall Tryz.prog E 124 [.str s,.str p] (·=.tup [.str (qbX s p).1,.bool (qbX s p).2]):=by
 refine qah mixed Tryz.func124 qcS ?_
 refine zV ?_
 refine use1 (qhJ s p (by omega)) rfl (.inl rfl) ?_
 refine zS ?_
 unfold qbX
 refine br ?_ ?_
 ·intro h
  have h:sufE s p=false:=by rwa [zQ] at h
  refine zS ?_
  rw [if_neg (by simp [h])]
 ·intro h
  have h:sufE s p=true:=by rwa [z6] at h
  have hb:p.length≤s.length:=by
   have:=of_decide_eq_true (Bool.and_eq_true_iff.1 h).1
   omega
  have e:((s.length:Int) - p.length).toNat=s.length - p.length:=by omega
  simp only [ZZ,WW,Ze,reduceCtorEq,zd,ze,za,zf,zb,e]
  refine ⟨qai (by omega) (by omega),⟨by omega,by omega⟩,?_⟩
  rw [if_pos h]
theorem qiS (s p:List UInt8) (hs:s.length≤1000000000) (hp:p.length≤1000000000):PCall Tryz.prog E 77 [.str s,.str p] (·=.tup [.str (qbX s p).1,.bool (qbX s p).2]):=by
 refine qah mixed Tryz.func77 qgT ?_
 refine zV ?_
 refine use1 (qmq s p hs hp) rfl (.inl rfl) ?_
 simp only [ZZ,WW,Ze,reduceCtorEq,zd,ze,za,zf,zb]
theorem qcM {s p:List UInt8} (h:Lib.hasPrefix s p=true):p.length≤s.length:=by
 unfold Lib.hasPrefix at h
 simp at h
 first|exact (List.IsPrefix.length_le (List.isPrefixOf_iff_prefix.1 h))|exact h.length_le|omega
theorem qvT (s p:List UInt8):(decide ((p.length:Int)≤s.length) && decide (s.take p.length=p))=Lib.hasPrefix s p:=by
 rw [Bool.eq_iff_iff]
 unfold Lib.hasPrefix
 rw [List.isPrefixOf_iff_prefix,List.prefix_iff_eq_take]
 simp only [zi,decide_eq_true_eq]
 constructor
 ·rintro ⟨_,h⟩;exact h.symm
 ·intro h
  have:=congrArg List.length h
  simp at this
  exact ⟨by omega,h.symm⟩
theorem qhK (s p:List UInt8) (hs:s.length≤1000000000):PCall Tryz.prog E 107 [.str s,.str p] (·=.bool (Lib.hasPrefix s p)):=by
 rw [← qvT]
 refine qah mixed Tryz.func107 qcR ?_
 refine zV ?_
 ((with_reducible and_intros)<;>try exact sc_)
theorem qmr (s p:List UInt8) (hs:s.length≤1000000000) (hp:p.length≤1000000000):PCall Tryz.prog E 171 [.str s,.str p] (·=.tup [.str (qat s p).1,.bool (qat s p).2]):=by
 refine qah mixed Tryz.func171 qcT ?_
 refine zV ?_
 refine use1 (qhK s p hs) rfl (.inl rfl) ?_
 refine zS ?_
 unfold qat
 refine br ?_ ?_
 ·intro h
  have h:Lib.hasPrefix s p=false:=by rwa [zQ] at h
  refine zS ?_
  rw [if_neg (by simp [h])]
 ·intro h
  have h:Lib.hasPrefix s p=true:=by rwa [z6] at h
  have hb:=qcM h
  refine zS ?_
  refine ⟨⟨by omega,by omega⟩,?_⟩
  rw [if_pos h]
  try simp
theorem qnN (s p:List UInt8) (hs:s.length≤1000000000) (hp:p.length≤1000000000):PCall Tryz.prog E 125 [.str s,.str p] (·=.tup [.str (qat s p).1,.bool (qat s p).2]):=by
 refine qah mixed Tryz.func125 qgU ?_
 refine zV ?_
 refine use1 (qmr s p hs hp) rfl (.inl rfl) ?_
 simp only [ZZ,WW,Ze,reduceCtorEq,zd,ze,za,zf,zb]
theorem qkk (s p:List UInt8) (hs:s.length≤1000000000) (hp:p.length≤1000000000):PCall Tryz.prog E 131 [.str s,.str p] (·=.str (qat s p).1):=by
 refine qah mixed Tryz.func131 qct ?_
 refine zV ?_
 refine use1 (qhK s p hs) rfl (.inl rfl) ?_
 refine zS ?_
 unfold qat
 refine br ?_ ?_
 ·intro h
  have hb:=qcM h
  refine zS ?_
  refine ⟨⟨by omega,by omega⟩,?_⟩
  rw [if_pos h]
  try simp
 ·intro h
  refine zS ?_
  rw [if_neg (by simp [h])]
theorem qe7 (s p:List UInt8) (hs:s.length≤1000000000) (hp:p.length≤1000000000):PCall Tryz.prog E 82 [.str s,.str p] (·=.str (qat s p).1):=by
 refine qah mixed Tryz.func82 qf3 ?_
 refine zV ?_
 refine use1 (qkk s p hs hp) rfl (.inl rfl) ?_
 simp only [ZZ,WW,Ze,reduceCtorEq,zd,ze,za,zf,zb]
end
def qiH (s:List UInt8):Bool:=((visE s false && !Lib.hasPrefix s [32]) && !sufE s [32]) && !decide (0≤Lib.index s [32,32])
theorem qpO (s:List UInt8) (hs:s.length≤1000000000):PCall Tryz.prog E0 74 [.str s] (·=.bool (qiH s)):=by
 refine qah mixed Tryz.func74 qlV ?_
 refine zV ?_
 refine use1 (qkW s false hs) rfl (.inl rfl) ?_
 refine zS ?_
 refine useG (fun _=>qgl s [32]) rfl (.inl rfl) ?_
 refine zS ?_
 refine useG (fun _=>qiR s [32] (by omega)) rfl (.inl rfl) ?_
 refine zS ?_
 refine useG (fun _=>qhD s [32,32] hs) rfl (.inl rfl) ?_
 refine zS ?_
 ((with_reducible and_intros)<;>try exact sc_)
theorem qpu {c:UInt8} {a b a' b':List UInt8} (h:a++c :: b=a'++c :: b') (h1:c∉a) (h2:c∉a'):a=a'∧b=b':=by
 induction a generalizing a' with
 |nil=>
  cases a' with
  |nil=>simpa using h
  |cons x a'=>simp only [zU,zT,List.cons.injEq] at h;exact absurd (by rw [h.1];simp) h2
 |cons y a ih=>
  cases a' with
  |nil=>simp only [zU,zT,List.cons.injEq] at h;exact absurd (by rw [← h.1];simp) h1
  |cons x a'=>
   simp only [zT,List.cons.injEq] at h
   obtain ⟨e1,e2⟩:=ih h.2 (fun hm=>h1 (by simp [hm])) (fun hm=>h2 (by simp [hm]))
   exact ⟨by rw [h.1,e1],e2⟩
theorem hp1 (c:UInt8) (r:List UInt8):Lib.hasPrefix r [c]=true↔∃ t,r=c :: t:=by
 unfold Lib.hasPrefix
 rw [List.isPrefixOf_iff_prefix]
 constructor
 ·rintro ⟨t,rfl⟩;exact ⟨t,rfl⟩
 ·rintro ⟨t,rfl⟩;exact ⟨t,rfl⟩
def sp (c:UInt8):List UInt8→List (List UInt8)
 |[]=>[[]]
 |x :: s=>if x=c then [] :: sp c s else (x :: (sp c s).headD []) :: (sp c s).tail
theorem qp0 (c:UInt8) (s:List UInt8):sp c s≠[]:=by
 cases s with
 |nil=>simp [sp]
 |cons x s=>unfold sp;split<;>simp
theorem qij {s:List UInt8} {c:UInt8} (h:Lib.index s [c]=-1):Lib.split s [c]=[s]:=by
 unfold Lib.split
 rw [Lib.count_miss h]
 rfl
theorem qjs {s:List UInt8} {c:UInt8} {i:Nat} (h:Lib.index s [c]=i):Lib.split s [c]=s.take i :: Lib.split (s.drop (i+1)) [c]:=by
 unfold Lib.split
 rw [Lib.count_hit (by simp) h,Nat.add_comm,Lib.splitK,if_neg (by rw [h];simp),h]
 simp
theorem qsK (c:UInt8):∀ s:List UInt8,Lib.split s [c]=sp c s:=by
 intro s
 induction s with
 |nil=>rw [qij (by rfl)];rfl
 |cons x s ih=>
  by_cases hx:x=c
  ·subst hx
   have h0:Lib.index (x :: s) [x]=((0:Nat):Int):=by rw [Lib.index_one];simp [Lib.indexByte]
   rw [qjs h0,sp,if_pos rfl,← ih]
   simp
  ·have hi:Lib.index (x :: s) [c]=if Lib.index s [c]=-1 then -1 else Lib.index s [c]+1:=by
    rw [Lib.index_one,Lib.index_one,Lib.indexByte]
    simp [hx]
   rw [sp,if_neg hx,← ih]
   by_cases hm:Lib.index s [c]=-1
   ·rw [if_pos hm] at hi
    rw [qij hi,qij hm]
    rfl
   ·rw [if_neg hm] at hi
    have hge:=Lib.indexByte_ge s c
    rw [← Lib.index_one] at hge
    obtain ⟨i,hi2⟩:∃ i:Nat,Lib.index s [c]=i:=⟨(Lib.index s [c]).toNat,by omega⟩
    rw [hi2] at hi
    rw [qjs (i:=i+1) (by rw [hi];simp),qjs hi2]
    simp
theorem qbV (s:List UInt8) (c:UInt8):splF s c=sp c s:=by
 rw [← qsK]
 unfold splF Lib.split
 rw [Lib.splitB_data]
theorem quI (c:UInt8) (b:List UInt8):∀ a:List UInt8,sp c (a++c :: b)=sp c a++sp c b:=by
 intro a
 induction a with
 |nil=>simp [sp]
 |cons x a ih=>
  rw [zT,sp,sp,ih]
  split
  ·simp
  ·have:=qp0 c a
   cases h:sp c a with
   |nil=>exact absurd h this
   |cons y r=>simp
theorem qvb (c:UInt8):∀ s:List UInt8,∀ x∈sp c s,c∉x:=by
 intro s
 induction s with
 |nil=>simp [sp]
 |cons y s ih=>
  intro x hx
  rw [sp] at hx
  split at hx
  ·rcases zG.1 hx with rfl|hx
   ·simp
   ·exact ih x hx
  ·rename_i hy
   cases h:sp c s with
   |nil=>exact absurd h (qp0 c s)
   |cons z r=>
    rw [h] at hx ih
    rcases zG.1 hx with rfl|hx
    ·have:=ih z (by simp)
     simp only [List.headD_cons,zG,not_or]
     exact ⟨fun e=>hy e.symm,this⟩
    ·exact ih x (by simp only [List.tail_cons] at hx;exact List.mem_cons_of_mem _ hx)
theorem qxf {c:UInt8}:∀ {s:List UInt8},c∉s→sp c s=[s]:=by
 intro s
 induction s with
 |nil=>intro _;rfl
 |cons y s ih=>
  intro h
  simp only [zG,not_or] at h
  rw [sp,if_neg (fun e=>h.1 e.symm),ih h.2]
  rfl
def wgt:List (List UInt8)→Nat
 |[]=>0
 |x :: r=>x.length+1+wgt r
theorem qqD (a b:List (List UInt8)):wgt (a++b)=wgt a+wgt b:=by
 induction a with
 |nil=>simp [wgt]
 |cons x a ih=>simp only [zT,wgt,ih];omega
theorem qkn (p:List UInt8→Bool) (a:List (List UInt8)):wgt (a.filter p)≤wgt a:=by
 induction a with
 |nil=>simp [wgt]
 |cons x a ih=>
  rw [List.filter_cons]
  split
  ·simp only [wgt];omega
  ·simp only [wgt];omega
theorem quW (a:List (List UInt8)):a.length≤wgt a:=by
 induction a with
 |nil=>simp
 |cons x a ih=>simp only [wgt,zl];omega
theorem qqV (c:UInt8):∀ s:List UInt8,wgt (sp c s)=s.length+1:=by
 intro s
 induction s with
 |nil=>simp [sp,wgt]
 |cons y s ih=>
  rw [sp]
  split
  ·simp only [wgt,ih,zl,zr];omega
  ·cases h:sp c s with
   |nil=>exact absurd h (qp0 c s)
   |cons z r=>
    rw [h] at ih
    simp only [wgt,List.headD_cons,List.tail_cons,zl] at ih ⊢
    omega
theorem qkH (x y:List UInt8) (r:List (List UInt8)):qdI (x :: y :: r)=x++32 :: qdI (y :: r):=by
 unfold qdI
 rw [Lib.join_cons,Lib.join_cons]
 simp [Lib.joinTail]
theorem qjL:∀ (l:List (List UInt8)),(qdI l).length≤wgt l - 1
 |[]=>by simp [qdI,Lib.join_nil]
 |[x]=>by simp [qdI,Lib.join_one,wgt]
 |x :: y :: r=>by
  have:=qjL (y :: r)
  rw [qkH]
  simp only [wgt,zm,zl] at this ⊢
  omega
theorem suf1 (s:List UInt8) (c:UInt8):sufE s [c]=true↔∃ t,s=t++[c]:=by
 unfold sufE
 simp only [zi,decide_eq_true_eq,zl,zr,Nat.zero_add]
 constructor
 ·rintro ⟨_,h⟩
  exact ⟨s.take (s.length - 1),by rw [← h,List.take_append_drop]⟩
 ·rintro ⟨t,rfl⟩
  simp
  omega
theorem qqI (s:List UInt8) (cs:List UInt8):(Lib.trimRightS s cs).length≤s.length:=by
 unfold Lib.trimRightS
 have:=(List.dropWhile_suffix (l:=s.reverse) (fun x=>cs.contains x)).length_le
 simpa using this
theorem qqG (s:List UInt8) (cs:List UInt8):(Lib.trimS s cs).length≤s.length:=by
 unfold Lib.trimS Lib.trimLeftS
 exact zt (List.dropWhile_suffix _).length_le (qqI s cs)
theorem qqH (s:List UInt8) (cs:List UInt8):Lib.trimRightS s cs <+: s:=by
 unfold Lib.trimRightS
 have:=List.reverse_prefix.2 (List.dropWhile_suffix (l:=s.reverse) (fun x=>cs.contains x))
 rwa [List.reverse_reverse] at this
set_option maxHeartbeats 2000000 in
theorem qu0 (s:List UInt8):decide (Lib.trimS s [32]=s)=(!Lib.hasPrefix s [32] && !sufE s [32]):=by
 by_cases h1:Lib.hasPrefix s [32]=true
 ·obtain ⟨t,rfl⟩:=(hp1 _ _).1 h1
  rw [h1,decide_eq_false]
  ·rfl
  ·intro h
   have hl:=congrArg List.length h
   have hp:=qqH (32 :: t) [32]
   unfold Lib.trimS Lib.trimLeftS at hl
   cases hu:Lib.trimRightS (32 :: t) [32] with
   |nil=>rw [hu] at hl;simp at hl
   |cons y u=>
    rw [hu] at hl hp
    have hy:y=32:=by obtain ⟨r,hr⟩:=hp;simp at hr;exact hr.1
    subst hy
    have h2:=hp.length_le
    have h3:=(List.dropWhile_suffix (l:=u) (fun x=>[(32:UInt8)].contains x)).length_le
    simp [List.dropWhile_cons] at hl h2 h3
    omega
 ·have h1':Lib.hasPrefix s [32]=false:=Bool.eq_false_iff.2 h1
  rw [h1']
  by_cases h2:sufE s [32]=true
  ·rw [h2,decide_eq_false]
   ·rfl
   ·intro h
    obtain ⟨t,rfl⟩:=(suf1 _ _).1 h2
    have hl:=congrArg List.length h
    have h3:=qqG t [32]
    have e:Lib.trimS (t++[32]) [32]=Lib.trimS t [32]:=by
     unfold Lib.trimS Lib.trimRightS
     simp [List.dropWhile_cons]
    rw [e] at hl
    simp at hl
    omega
  ·have h2':sufE s [32]=false:=Bool.eq_false_iff.2 h2
   rw [h2',decide_eq_true]
   ·rfl
   ·have hr:Lib.trimRightS s [32]=s:=by
     unfold Lib.trimRightS
     cases hs:s.reverse with
     |nil=>simp at hs;subst hs;rfl
     |cons y r=>
      have hy:y≠32:=by
       rintro rfl
       apply h2
       refine (suf1 _ _).2 ⟨r.reverse,?_⟩
       have:=congrArg List.reverse hs
       simpa using this
      rw [List.dropWhile_cons,if_neg (by simp [hy]),← hs,List.reverse_reverse]
    unfold Lib.trimS
    rw [hr]
    unfold Lib.trimLeftS
    cases s with
    |nil=>rfl
    |cons y r=>
     have hy:y≠32:=by
      rintro rfl
      exact h1 ((hp1 _ _).2 ⟨r,rfl⟩)
     rw [List.dropWhile_cons,if_neg (by simp [hy])]
abbrev qgN:IC:=(sR [qO 2 (.mov (.c (.bool false)))] (sR [qM 3 0,jC 4 68 [.t 3,.c (.bool false)],qM 5 4,⟨some 6,.mov (.t 0),(some (5,true))⟩,⟨some 7,.call 69 [.t 6,.c (.str [32])],(some (5,true))⟩,⟨some 8,.mov (.t 0),(some (5,true))⟩,⟨some 9,.bin .eql (.t 7) (.t 8),(some (5,true))⟩,qO 10 (.pick (.t 5) (.t 9) (.c (.bool false))),qM 11 10,⟨some 12,.mov (.t 0),(some (11,true))⟩,⟨some 13,.call 70 [.t 12,.c (.str [32,32])],(some (11,true))⟩,⟨some 14,.not (.t 13),(some (11,true))⟩,qO 15 (.pick (.t 11) (.t 14) (.c (.bool false))),qM 2 15] .ret))
theorem qg0:chkF Tryz.prog Tryz.f28 qgN [.t 2] 16=true:=by kernel_rfl
theorem qqr (s:List UInt8) (hs:s.length≤1000000000):PCall Tryz.prog E0 28 [.str s] (·=.bool (qiH s)):=by
 refine qah mixed Tryz.func28 qg0 ?_
 refine zV ?_
 refine use1 (qk1 s false hs) rfl (.inl rfl) ?_
 refine zS ?_
 refine useG (fun _=>qkX s [32] hs (by decide) (by decide)) rfl (.inl rfl) ?_
 refine zS ?_
 refine useG (fun _=>qhD s [32,32] hs) rfl (.inl rfl) ?_
 refine zS ?_
 rw [qiH,qu0]
 cases visE s false<;>cases Lib.hasPrefix s [32]<;>cases sufE s [32]<;>rfl
def qdy:IC:=(sR [qT 8 .lss 7 6] (.seq (jE 8) (.seq (.block 1 (sR [qM 9 7,qM 3 9] (sR [qM 10 0,qM 11 3,qO 12 (.idx (.t 10) (.t 11)),qM 4 12] (sR [qM 13 4,qB 14 .lss 13 (.c (.int .u8 33)),qM 15 14,⟨some 16,.mov (.t 4),(some (15,false))⟩,⟨some 17,.bin .gtr (.t 16) (.c (.int .u8 126)),(some (15,false))⟩,qO 18 (.pick (.t 15) (.c (.bool true)) (.t 17)),qM 19 18,⟨some 20,.mov (.t 4),(some (19,false))⟩,⟨some 21,.bin .eql (.t 20) (.c (.int .u8 60)),(some (19,false))⟩,qO 22 (.pick (.t 19) (.c (.bool true)) (.t 21)),qM 23 22,⟨some 24,.mov (.t 4),(some (23,false))⟩,⟨some 25,.bin .eql (.t 24) (.c (.int .u8 62)),(some (23,false))⟩,qO 26 (.pick (.t 23) (.c (.bool true)) (.t 25))] (jW 26 (sR [qO 2 (.mov (.c (.bool false)))] .ret)))))) (.reg [qB 27 .add 7 (cI 1),qM 7 27]))))
abbrev qiw:IC:=(sR [qO 2 (.mov (.c (.bool false)))] (.seq (sR [qM 5 0,qO 6 (.sln (.t 5)),jI 7 0] (.block 0 (.loop qdy))) (sR [qM 28 0,qO 29 (.sln (.t 28)),jC 30 71 [.t 29,.c (.int .i64 1),.c (.int .i64 80)],qM 2 30] .ret)))
theorem qiC:chkF Tryz.prog Tryz.f31 qiw [.t 2] 31=true:=by kernel_rfl
def qb5:IC:=(.seq (sR [qM 4 3,qM 5 0,qO 6 (.sln (.t 5)),qT 7 .lss 4 6] (jE 7)) (.seq (.block 1 (sR [qM 10 0,qM 11 3,qO 12 (.idx (.t 10) (.t 11)),qB 13 .lss 12 (.c (.int .u8 33)),qM 14 13,⟨some 15,.mov (.t 0),(some (14,false))⟩,⟨some 16,.mov (.t 3),(some (14,false))⟩,⟨some 17,.idx (.t 15) (.t 16),(some (14,false))⟩,⟨some 18,.bin .gtr (.t 17) (.c (.int .u8 126)),(some (14,false))⟩,qO 19 (.pick (.t 14) (.c (.bool true)) (.t 18)),qM 20 19,⟨some 21,.mov (.t 0),(some (20,false))⟩,⟨some 22,.mov (.t 3),(some (20,false))⟩,⟨some 23,.idx (.t 21) (.t 22),(some (20,false))⟩,⟨some 24,.bin .eql (.t 23) (.c (.int .u8 60)),(some (20,false))⟩,qO 25 (.pick (.t 20) (.c (.bool true)) (.t 24)),qM 26 25,⟨some 27,.mov (.t 0),(some (26,false))⟩,⟨some 28,.mov (.t 3),(some (26,false))⟩,⟨some 29,.idx (.t 27) (.t 28),(some (26,false))⟩,⟨some 30,.bin .eql (.t 29) (.c (.int .u8 62)),(some (26,false))⟩,qO 31 (.pick (.t 26) (.c (.bool true)) (.t 30))] (jW 31 (sR [qO 2 (.mov (.c (.bool false)))] .ret)))) (.reg [qM 8 3,qB 9 .add 8 (cI 1),qM 3 9])))
abbrev qfm:IC:=(sR [qO 2 (.mov (.c (.bool false)))] (.seq (sR [jI 3 0] (.block 0 (.loop qb5))) (sR [qM 32 0,qO 33 (.sln (.t 32)),qB 34 .geq 33 (cI 1),qM 35 34,⟨some 36,.mov (.t 0),(some (35,true))⟩,⟨some 37,.sln (.t 36),(some (35,true))⟩,⟨some 38,.bin .leq (.t 37) (cI 80),(some (35,true))⟩,qO 39 (.pick (.t 35) (.t 38) (.c (.bool false))),qM 2 39] .ret)))
theorem qft:chkF Tryz.prog Tryz.f23 qfm [.t 2] 40=true:=by kernel_rfl
def idC (c:UInt8):Bool:=!(((decide ((c.toNat:Int) < 33) || decide (126 < (c.toNat:Int))) || decide ((c.toNat:Int)=60)) || decide ((c.toNat:Int)=62))
def idB (s:List UInt8):Bool:=s.all idC && inE s.length 1 80
section
variable {E:Envt}
theorem qnL (s:List UInt8) (hs:s.length≤1000000000):PCall Tryz.prog E 31 [.str s] (·=.bool (idB s)):=by
 refine qah mixed Tryz.func31 qiC ?_
 refine zV ?_
 refine qad (fun n fr L=>∃ (k:Nat),k≤s.length∧n=s.length - k∧((s.take k).all idC=true)∧fr=(.p (.str s)::oC (oo::(.p (int (s.length:Nat))::.p (int (k:Nat))::oE (oC (oB (oo::[]))))))∧L=[]) (s.length) (.p (.str s)::oC (oo::(.p (int (s.length:Nat))::.p (int (0:Nat))::oE (oC (oB (oo::[])))))) [] zF_ zF_ ⟨0,by omega,by omega,by simp,rfl,rfl⟩ ?_
 rintro n fr L ⟨k,hk,rfl,ha,rfl,rfl⟩
 simp only [qdy,ZZ,WW,Ze,reduceCtorEq,zd,ze,za,zf,zb]
 refine br ?_ ?_
 ·intro h
  have hlt:k < s.length:=by have:=of_decide_eq_true h;omega
  obtain ⟨c,hc⟩:∃ c,s[k]?=some c:=⟨_,zk hlt⟩
  have hg:s.getD k 0=c:=by simp [zC,hc]
  simp only [ZZ,WW,Ze,reduceCtorEq,zd,ze,za,zf,zb,hg]
  ((with_reducible and_intros)<;>try exact sc_)
  refine br ?_ ?_
  ·intro hx
   have hf:idC c=false:=by unfold idC;rw [hx];rfl
   refine zS ?_
   rw [idB,qgi hc hf]
   rfl
  ·intro hx
   have hf:idC c=true:=by unfold idC;rw [hx];rfl
   refine zS ?_
   refine ⟨qai (by omega) (by omega),?_⟩
   refine qab (s.length - (k+1)) (.p (.str s)::oC (oo::(.p (int (s.length:Nat))::.p (int ((k+1):Nat))::oE (oC (oB (oo::[])))))) [] (by omega) zF_ zF_ ⟨k+1,by omega,rfl,by rw [qme hc,ha,hf];rfl,rfl,rfl⟩
 ·intro h
  have hge:k=s.length:=by have:=of_decide_eq_false h;omega
  subst hge
  rw [z7] at ha
  refine zS ?_
  refine use1 (qoW _ _ _) rfl (.inl rfl) ?_
  refine zS ?_
  rw [idB,ha]
  rfl
theorem qlz (s:List UInt8) (hs:s.length≤1000000000):PCall Tryz.prog E 23 [.str s] (·=.bool (idB s)):=by
 refine qah mixed Tryz.func23 qft ?_
 refine zV ?_
 refine qad (fun n fr L=>∃ (k:Nat),k≤s.length∧n=s.length - k∧((s.take k).all idC=true)∧fr=(.p (.str s)::oo::oo::.p (int (k:Nat))::oF (oC []))∧L=[]) (s.length) (.p (.str s)::oo::oo::.p (int (0:Nat))::oF (oC [])) [] zF_ zF_ ⟨0,by omega,by omega,by simp,rfl,rfl⟩ ?_
 rintro n fr L ⟨k,hk,rfl,ha,rfl,rfl⟩
 simp only [qb5,ZZ,WW,Ze,reduceCtorEq,zd,ze,za,zf,zb]
 refine br ?_ ?_
 ·intro h
  have hlt:k < s.length:=by have:=of_decide_eq_true h;omega
  obtain ⟨c,hc⟩:∃ c,s[k]?=some c:=⟨_,zk hlt⟩
  have hg:s.getD k 0=c:=by simp [zC,hc]
  simp only [ZZ,WW,Ze,reduceCtorEq,zd,ze,za,zf,zb,hg]
  ((with_reducible and_intros)<;>try exact sc_)
  refine br ?_ ?_
  ·intro hx
   have hf:idC c=false:=by unfold idC;rw [hx];rfl
   refine zS ?_
   rw [idB,qgi hc hf]
   rfl
  ·intro hx
   have hf:idC c=true:=by unfold idC;rw [hx];rfl
   refine zS ?_
   refine ⟨qai (by omega) (by omega),?_⟩
   refine qab (s.length - (k+1)) (.p (.str s)::oo::oo::.p (int ((k+1):Nat))::oF (oC [])) [] (by omega) zF_ zF_ ⟨k+1,by omega,rfl,by rw [qme hc,ha,hf];rfl,rfl,rfl⟩
 ·intro h
  have hge:k=s.length:=by have:=of_decide_eq_false h;omega
  subst hge
  rw [z7] at ha
  refine zS ?_
  rw [idB,ha]
  rfl
end
structure Ltr where
 id:List UInt8
 at_:Int
 fr:AdT
 tos:List AdT
 ccs:List AdT
 refs:List (List UInt8)
 sub:List UInt8
 body:List UInt8
def ltV (m:Ltr):List PV:=[.str m.id,int m.at_,.str m.fr.1,.str m.fr.2,.sl 2 (adrE m.tos),.sl 2 (adrE m.ccs),.sl 1 (strE m.refs),.str m.sub,.str m.body]
def LtB (m:Ltr):Prop:=m.id.length≤1000000∧m.fr.1.length≤1000000∧m.fr.2.length≤1000000∧m.tos.length≤100000∧(∀ a∈m.tos,a.1.length≤1000000∧a.2.length≤1000000)∧m.ccs.length≤100000∧(∀ a∈m.ccs,a.1.length≤1000000∧a.2.length≤1000000)∧m.refs.length≤1000000∧(∀ r∈m.refs,r.length≤1000000)∧m.sub.length≤1000000∧m.body.length≤1000000
theorem qdM (e:Int) (r:List Int):qar (e :: r)=if e=0 then qar r else e:=rfl
theorem qkM:qar []=0:=rfl
def ltE (l:List Ltr):List (List PV):=l.map ltV
theorem qfI (l:List Ltr):(ltE l).length=l.length:=by simp [ltE]
theorem qrx {l:List Ltr} {k:Nat} {x:Ltr} (h:l[k]?=some x):(ltE l).getD k []=ltV x:=qaR h
def qoc (m:Ltr):List (List UInt8):=m.fr.2 :: (m.tos++m.ccs).map (·.2)
theorem qw2 {α:Type} (l:List α) (f:α→List UInt8) (s:List UInt8):decide (s∈l.map f)=l.any (fun p=>decide (f p=s)):=by
 rw [Bool.eq_iff_iff,decide_eq_true_iff,List.any_eq_true,zE]
 simp
theorem qo2 {n:Nat} (f:Nat→Int) {k:Nat} (h:k < n):((zB n).map f)[k]?=some (f k):=by simp [h]
theorem qeO {α β:Type} {l:List α} {k:Nat} {x:α} (f:α→β) (h:l[k]?=some x):(l.take (k+1)).map f=(l.take k).map f++[f x]:=by
 obtain ⟨hk,hx⟩:=zo.1 h
 rw [zI hk,List.map_append,hx]
 rfl
structure Lr where
 no:Int
 id:List UInt8
 at_:Int
 fr:List UInt8
 tos:List (List UInt8)
 kind:Int
 about:List UInt8
 spans:Int
def lrV (r:Lr):List PV:=[int r.no,.str r.id,int r.at_,.str r.fr,.sl 1 (strE r.tos),int r.kind,.str r.about,int r.spans]
def lrE (l:List Lr):List (List PV):=l.map lrV
theorem qav (l:List Lr):(lrE l).length=l.length:=by simp [lrE]
theorem qhd {l:List Lr} {k:Nat} {x:Lr} (h:l[k]?=some x):(lrE l).getD k []=lrV x:=qaR h
theorem qtu (l:List Lr) (k:Nat):(lrE l).take k=lrE (l.take k):=by simp [lrE,List.map_take]
theorem qjg (l:List Lr) (r:Lr):lrE l++[[int r.no,.str r.id,int r.at_,.str r.fr,.sl 1 (strE r.tos),int r.kind,.str r.about,int r.spans]]=lrE (l++[r]):=by simp [lrE,lrV]
abbrev tRow:Nat:=54
def lr0:Lr:=⟨0,[],0,[],[],0,[],0⟩
structure LrB (r:Lr):Prop where
 b1:r.id.length≤1000000
 b2:r.fr.length≤1000000
 b3:r.tos.length≤1000000
 b4:∀ s∈r.tos,s.length≤1000000
 b5:r.about.length≤1000000
 b6:-1000000000≤r.no∧r.no≤1000000000
 b7:-1000000000≤r.at_∧r.at_≤1000000000
 b8:-1000000000≤r.spans∧r.spans≤1000000000
 b9:-1000000000≤r.kind∧r.kind≤1000000000
def rh3 (r:Lr):Int:=qar [qaO (!inE r.at_ 0 5761439) 1,qaO (!qhc r.fr) 3,qaO (decide (100 < (r.tos.length:Int))) 2]
def rt3 (r:Lr):Int:=qar [qaO (!decide (r.kind=3) && !decide (r.kind=2)) 4,qaO (!inE r.about.length 1 300 || !qiH r.about) 3,qaO (decide (r.kind=3) && !decide (r.spans=0) || decide (r.kind=2) && !inE r.spans 1 1000) 1]
def toF (r:Lr):Int:=qar ((zB r.tos.length).map (pubE r.tos))
def rwE (r:Lr):Int:=qar [rh3 r,toF r,rt3 r]
def qdp (l:List Lr) (k:Nat):Int:=qar [qaO (!decide ((l.getD k lr0).no=(k:Int)+1)) 1,qaO (!idB (l.getD k lr0).id) 3,qaO ((l.take k).any (fun p=>decide (p.id=(l.getD k lr0).id))) 6,rwE (l.getD k lr0)]
def qdd (l:List Lr):Int:=if 2000 < (l.length:Int) then 2 else qar ((zB l.length).map (qdp l))
theorem qo9 (l:List Lr) (h:¬ 2000 < (l.length:Int)):qdd l=qar ((zB l.length).map (qdp l)):=by rw [qdd,if_neg h]
theorem qlf {l:List Lr} {k:Nat} {r:Lr} (hx:l[k]?=some r):qdp l k=qar [qaO (!decide (r.no=(k:Int)+1)) 1,qaO (!idB r.id) 3,qaO ((l.take k).any (fun p=>decide (p.id=r.id))) 6,rwE r]:=by rw [qdp,show l.getD k lr0=r from by simp [zC,hx]]
theorem qkL (e:Int):qar [e]=e:=by
 show (if e=0 then 0 else e)=e
 split
 ·omega
 ·rfl
theorem qxn {r:Lr} (h4:(!inE r.at_ 0 5761439)=false) (h5:(!qhc r.fr)=false) (h6:decide (100 < (r.tos.length:Int))=false):rwE r=if toF r=0 then rt3 r else toF r:=by
 rw [rwE,rh3,h4,h5,h6]
 show (if toF r=0 then qar [rt3 r] else toF r)=_
 rw [qkL]
theorem qs5 {l:List Lr} {k:Nat} {r:Lr} (hx:l[k]?=some r) (h1:(!decide (r.no=(k:Int)+1))=false) (h2:(!idB r.id)=false) (h3:(l.take k).any (fun p=>decide (p.id=r.id))=false):qdp l k=rwE r:=by
 rw [qlf hx,h1,h2,h3]
 exact qkL _
theorem abE (n:Int) (p:Bool):((!p || decide (n < 1)) || decide (300 < n))=(!inE n 1 300 || !p):=by
 unfold inE
 by_cases h1:n < 1<;>by_cases h2:300 < n<;>cases p<;>simp [h1,h2]<;>omega
theorem spE (n:Int):(decide (n < 1) || decide (1000 < n))=!inE n 1 1000:=by
 unfold inE
 by_cases h1:n < 1<;>by_cases h2:1000 < n<;>simp [h1,h2]<;>omega
def kdF (r:Lr):List UInt8:=if r.kind=2 then [112,97,114,116] else [102,117,108,108]
def tjF (r:Lr):List UInt8:=Lib.join r.tos [59]
def wdF (r:Lr) (tw:List UInt8):List (List UInt8):=[Lib.itoa r.no,r.id,Lib.itoa r.at_,kdF r,Lib.itoa r.spans,r.fr,tw,r.about]
def toW (r:Lr):List UInt8:=if tjF r=[] then [45] else tjF r
def lgL (r:Lr):List UInt8:=Lib.join (wdF r (toW r)) [32]++[10]
def lgT (l:List Lr):List UInt8:=l.flatMap lgL
structure LrT (r:Lr):Prop where
 b1:r.id.length≤200000
 b2:r.fr.length≤200000
 b3:r.tos.length≤1000
 b4:∀ s∈r.tos,s.length≤200000
 b5:r.about.length≤500000
 b6:-1000000000≤r.no∧r.no≤1000000000
 b7:-1000000000≤r.at_∧r.at_≤1000000000
 b8:-1000000000≤r.spans∧r.spans≤1000000000
 b9:-1000000000≤r.kind∧r.kind≤1000000000
theorem LrT.B {r:Lr} (h:LrT r):LrB r:=
 ⟨by have:=h.b1;omega,by have:=h.b2;omega,by have:=h.b3;omega,fun s hs=>by have:=h.b4 s hs;omega,by have:=h.b5;omega,h.b6,h.b7,h.b8,h.b9⟩
theorem qik {l:List Lr} (h:qdd l=0):l.length≤2000∧∀ r∈l,rwE r=0:=by
 unfold qdd at h
 split at h
 ·omega
 ·refine ⟨by omega,fun r hr=>?_⟩
  obtain ⟨k,hk⟩:=yg hr
  have hkl:=(zo.1 hk).1
  have h1:=qbF h (qdp l k) (zE.2 ⟨k,by simpa using hkl,rfl⟩)
  unfold qdp at h1
  rw [show l.getD k lr0=r from by simp [zC,hk]] at h1
  exact qbF h1 (rwE r) (by simp)
theorem qv6 {s:List UInt8} (h:qhc s=true):s≠[]:=by
 rintro rfl
 revert h
 decide
theorem qo8 {r:Lr} (h:rwE r=0):r.tos.length≤100∧∀ s∈r.tos,qhc s=true:=by
 unfold rwE at h
 have h1:=qbF h (rh3 r) (by simp)
 have h2:=qbF h (toF r) (by simp)
 refine ⟨?_,fun s hs=>?_⟩
 ·have h3:=qkm (by decide) (qbF h1 (qaO (decide (100 < (r.tos.length:Int))) 2) (by simp))
  have:=of_decide_eq_false h3
  omega
 ·obtain ⟨k,hk⟩:=yg hs
  have hkl:=(zo.1 hk).1
  have h4:=qbF h2 (pubE r.tos k) (zE.2 ⟨k,by simpa using hkl,rfl⟩)
  unfold pubE at h4
  rw [show r.tos.getD k []=s from by simp [zC,hk]] at h4
  simpa using qkm (by decide) (qbF h4 (qaO (!qhc s) 3) (by simp))
theorem qxc {r:Lr} (h:rwE r=0):toW r=if 0 < (r.tos.length:Int) then tjF r else [45]:=by
 have hm:=(qo8 h).2
 unfold toW tjF
 cases ht:r.tos with
 |nil=>rfl
 |cons x t=>
  rw [ht] at hm
  have hx:=qv6 (hm x (.head _))
  rw [if_neg,if_pos (by simp)]
  intro e
  have e2:=congrArg List.length e
  rw [Lib.join_length] at e2
  have hl:=List.length_pos_iff.2 hx
  simp only [Lib.lens,zx,List.sum_cons,zr] at e2
  omega
theorem qwc {n:Int} (h:-1000000000≤n∧n≤1000000000):(Lib.itoa n).length≤21:=Lib.itoa_length_le n (by omega) (by omega)
theorem qwb (m:Nat) (l:List (List UInt8)) (c:UInt8) (h:∀ x∈l,x.length≤m):(Lib.join l [c]).length≤l.length * (m+1):=by
 have h1:=qlB m l h
 cases l with
 |nil=>simp [Lib.join]
 |cons x r=>
  rw [Lib.join_length]
  simp only [zl,zr] at *
  have:(r.length+1) * (m+1)=(r.length+1) * m+(r.length+1):=Nat.mul_succ _ _
  omega
theorem qnU {r:Lr} (h:LrT r):(tjF r).length≤200001000:=by
 have h1:=qwb 200000 r.tos 59 h.b4
 have h3:=h.b3
 have:r.tos.length * (200000+1)≤1000 * (200000+1):=zP _ h3
 unfold tjF
 omega
theorem qwa (r:Lr):(kdF r).length=4:=by unfold kdF;split<;>rfl
theorem qop {r:Lr} (h:LrT r) {tw:List UInt8} (ht:tw.length≤200001000):(Lib.join (wdF r tw) [32]).length≤210000000:=by
 have i1:=qwc h.b6
 have i2:=qwc h.b7
 have i3:=qwc h.b8
 have k1:=qwa r
 have b1:=h.b1
 have b2:=h.b2
 have b5:=h.b5
 simp only [wdF,Lib.join_length,Lib.lens,zx,List.map_nil,List.sum_cons,List.sum_nil,zl,zr]
 omega
theorem qnT {r:Lr} (h:LrT r):(toW r).length≤200001000:=by
 have:=qnU h
 unfold toW
 split
 ·decide
 ·exact this
theorem qoo {r:Lr} (h:LrT r):(lgL r).length≤210000001:=by
 have:=qop h (qnT h)
 simp only [lgL,zm,zl,zr]
 omega
theorem qpj {l:List Lr} {k:Nat} {d:Lr} (h:l[k]?=some d):lgT (l.take (k+1))=lgT (l.take k)++lgL d:=by
 obtain ⟨hk,e⟩:=zo.1 h
 rw [zI hk,lgT,List.flatMap_append,e]
 simp [lgT]
theorem qon:∀ {l:List Lr},(∀ r∈l,LrT r)→(lgT l).length≤210000001 * l.length
 |[],_=>by simp [lgT]
 |d :: l,h=>by
  have h1:=qoo (h d (.head _))
  have h2:=qon (l:=l) fun x hx=>h x (.tail _ hx)
  have e:lgT (d :: l)=lgL d++lgT l:=rfl
  rw [e,zm,zl]
  omega
theorem qtA (l:List Lr) (j:Nat):(lgT (l.take j)).length≤(lgT l).length:=by
 have e:lgT l=lgT (l.take j)++lgT (l.drop j):=by
  unfold lgT
  rw [← List.flatMap_append,List.take_append_drop]
 rw [e,zm]
 omega
abbrev qeS:IC:=(sR [qO 2 (.box 54 (.t 0)),qO 3 (.box 54 (.t 1)),qO 4 (.mov (.c (.bool false)))] (sR [wF 5 0 2,qL 6 5,wF 7 0 3,qL 8 7,qT 9 .eql 6 8,qM 10 9,⟨some 11,.fla 1 (.t 2),(some (10,true))⟩,⟨some 12,.ld 1 false (.t 11),(some (10,true))⟩,⟨some 13,.fla 1 (.t 3),(some (10,true))⟩,⟨some 14,.ld 1 false (.t 13),(some (10,true))⟩,⟨some 15,.bin .eql (.t 12) (.t 14),(some (10,true))⟩,qO 16 (.pick (.t 10) (.t 15) (.c (.bool false))),qM 17 16,⟨some 18,.fla 2 (.t 2),(some (17,true))⟩,⟨some 19,.ld 1 false (.t 18),(some (17,true))⟩,⟨some 20,.fla 2 (.t 3),(some (17,true))⟩,⟨some 21,.ld 1 false (.t 20),(some (17,true))⟩,⟨some 22,.bin .eql (.t 19) (.t 21),(some (17,true))⟩,qO 23 (.pick (.t 17) (.t 22) (.c (.bool false))),qM 24 23,⟨some 25,.fla 3 (.t 2),(some (24,true))⟩,⟨some 26,.ld 1 false (.t 25),(some (24,true))⟩,⟨some 27,.fla 3 (.t 3),(some (24,true))⟩,⟨some 28,.ld 1 false (.t 27),(some (24,true))⟩,⟨some 29,.bin .eql (.t 26) (.t 28),(some (24,true))⟩,qO 30 (.pick (.t 24) (.t 29) (.c (.bool false))),qM 31 30,⟨some 32,.fla 4 (.t 2),(some (31,true))⟩,⟨some 33,.ld 1 false (.t 32),(some (31,true))⟩,⟨some 34,.fla 4 (.t 3),(some (31,true))⟩,⟨some 35,.ld 1 false (.t 34),(some (31,true))⟩,⟨some 36,.call 48 [.t 33,.t 35],(some (31,true))⟩,qO 37 (.pick (.t 31) (.t 36) (.c (.bool false))),qM 38 37,⟨some 39,.fla 5 (.t 2),(some (38,true))⟩,⟨some 40,.ld 1 false (.t 39),(some (38,true))⟩,⟨some 41,.fla 5 (.t 3),(some (38,true))⟩,⟨some 42,.ld 1 false (.t 41),(some (38,true))⟩,⟨some 43,.bin .eql (.t 40) (.t 42),(some (38,true))⟩,qO 44 (.pick (.t 38) (.t 43) (.c (.bool false))),qM 45 44,⟨some 46,.fla 6 (.t 2),(some (45,true))⟩,⟨some 47,.ld 1 false (.t 46),(some (45,true))⟩,⟨some 48,.fla 6 (.t 3),(some (45,true))⟩,⟨some 49,.ld 1 false (.t 48),(some (45,true))⟩,⟨some 50,.bin .eql (.t 47) (.t 49),(some (45,true))⟩,qO 51 (.pick (.t 45) (.t 50) (.c (.bool false))),qM 52 51,⟨some 53,.fla 7 (.t 2),(some (52,true))⟩,⟨some 54,.ld 1 false (.t 53),(some (52,true))⟩,⟨some 55,.fla 7 (.t 3),(some (52,true))⟩,⟨some 56,.ld 1 false (.t 55),(some (52,true))⟩,⟨some 57,.bin .eql (.t 54) (.t 56),(some (52,true))⟩,qO 58 (.pick (.t 52) (.t 57) (.c (.bool false))),qM 4 58] .ret))
theorem qeZ:chkF Tryz.prog Tryz.f47 qeS [.t 4] 59=true:=by kernel_rfl
abbrev qfW:IC:=(sR [qO 4 (.mov (.c (.bool false)))] (sR [qM 5 0,qM 6 1,jC 7 46 [.t 5,.t 6,.f 47],qM 4 7] .ret))
theorem qga:chkF Tryz.prog Tryz.f13 qfW [.t 4] 8=true:=by kernel_rfl
def qao:IC:=(sR [qT 18 .lss 17 16] (.seq (jE 18) (.seq (.block 1 (sR [qM 19 17,qX 20 8 15 17,qO 21 (.ld 8 true (.t 20)),qO 8 (.alc 54 [.int .i64 0,.str [],.int .i64 0,.str [],.nl 1,.int .i64 0,.str [],.int .i64 0]),qM 7 19,qS 8 8 21] (sR [qM 22 1,qM 23 7,qX 24 8 22 23,qO 25 (.ld 8 true (.t 24)),qO 9 (.alc 54 [.int .i64 0,.str [],.int .i64 0,.str [],.nl 1,.int .i64 0,.str [],.int .i64 0]),qS 8 9 25] (sR [qM 26 2,qO 27 (.ld 8 true (.t 8)),qO 28 (.ld 8 true (.t 9)),qO 29 (.callv (.t 26) [.t 27,.t 28]),qO 30 (.not (.t 29))] (jW 30 (sR [qO 6 (.mov (.c (.bool false)))] .ret)))))) (.reg [qB 31 .add 17 (cI 1),qM 17 31]))))
abbrev qaG:IC:=(sR [qO 6 (.mov (.c (.bool false)))] (.seq (sR [qM 10 0,qN 11 10,qM 12 1,qN 13 12,qT 14 .neq 11 13] (jW 14 (sR [qO 6 (.mov (.c (.bool false)))] .ret))) (.seq (sR [qM 15 0,qN 16 15,jI 17 0] (.block 0 (.loop qao))) (sR [qO 6 (.mov (.c (.bool true)))] .ret))))
theorem qaJ:chkF Tryz.prog Tryz.f46 qaG [.t 6] 32=true:=by kernel_rfl
set_option maxRecDepth 100000 in
theorem qoP {E:Envt} (r:Lr) (h1:r.tos.length≤1000000000):PCall Tryz.prog E 47 [.agg (lrV r),.agg (lrV r)] (·=.bool true):=by
 have hq:∀ l:List (List UInt8),decide (l=l)=true:=fun l=>decide_eq_true rfl
 simp only [lrV]
 refine qah mixed Tryz.func47 qeZ ?_
 refine zV ?_
 refine useG (fun _=>qsA r.tos r.tos h1) rfl (.inl rfl) ?_
 simp only [ZZ,WW,Ze,reduceCtorEq,zd,ze,za,zf,zb,hq]
 simp
set_option maxHeartbeats 2000000 in
set_option maxRecDepth 100000 in
theorem qmo {E:Envt} (l:List Lr) (f:FuncId) (hl:l.length≤1000000000) (hfn:fnB Tryz.prog f=true) (hf:∀ c∈l,PCall Tryz.prog E f [.agg (lrV c),.agg (lrV c)] (·=.bool true)):PCall Tryz.prog E 46 [.sl 8 (lrE l),.sl 8 (lrE l),.clo f []] (·=.bool true):=by
 refine qah mixed Tryz.func46 qaJ ?_
 refine zV ?_
 simp only [ZZ,WW,Ze,reduceCtorEq,zd,ze,za,zf,zb,qav,decide_true,Bool.not_true]
 refine qad (fun n fr L=>∃ (k:Nat),k≤l.length∧n=l.length - k∧fr=(.p (.sl 8 (lrE l))::.p (.sl 8 (lrE l))::.p (.clo f [])::oD (oC (.p (.sl 8 (lrE l))::.p (int (l.length:Nat))::.p (int (k:Nat))::oD (oC (oB [])))))∧L=[]) (l.length) (.p (.sl 8 (lrE l))::.p (.sl 8 (lrE l))::.p (.clo f [])::oD (oC (.p (.sl 8 (lrE l))::.p (int (l.length:Nat))::.p (int (0:Nat))::oD (oC (oB []))))) [] (by simp only [ZZ,WW,Ze,reduceCtorEq,zd,ze,za,zf,zb,qav];try trivial) zF_ ⟨0,by omega,by omega,rfl,rfl⟩ ?_
 rintro n fr L ⟨k,hk,rfl,rfl,rfl⟩
 simp only [qao,ZZ,WW,Ze,reduceCtorEq,zd,ze,za,zf,zb]
 refine br ?_ ?_
 ·intro h
  have hlt:k < l.length:=by have:=of_decide_eq_true h;omega
  obtain ⟨c,hx⟩:∃ c,l[k]?=some c:=⟨_,zk hlt⟩
  have hg:=qhd hx
  simp only [lrV] at hg
  simp only [ZZ,WW,Ze,reduceCtorEq,zd,ze,za,zf,zb,hg,qav,hfn]
  ((with_reducible and_intros)<;>try exact sc_)
  refine use1 (hf c (List.mem_of_getElem? hx)) rfl (.inl rfl) ?_
  refine zS ?_
  ((with_reducible and_intros)<;>try exact sc_)
  refine qab (l.length - (k+1)) (.p (.sl 8 (lrE l))::.p (.sl 8 (lrE l))::.p (.clo f [])::oD (oC (.p (.sl 8 (lrE l))::.p (int (l.length:Nat))::.p (int ((k+1):Nat))::oD (oC (oB []))))) [] (by omega) zF_ zF_ ⟨k+1,by omega,rfl,rfl,rfl⟩
 ·intro h
  have hge:l.length≤k:=by have:=of_decide_eq_false h;omega
  simp only [ZZ,WW,Ze,reduceCtorEq,zd,ze,za,zf,zb]
theorem qoO {E:Envt} (l:List Lr) (hl:l.length≤1000000000) (hb:∀ c∈l,c.tos.length≤1000000000):PCall Tryz.prog E 13 [.sl 8 (lrE l),.sl 8 (lrE l)] (·=.bool true):=by
 refine qah mixed Tryz.func13 qga ?_
 refine zV ?_
 refine use1 (qmo l _ hl (by kernel_rfl) (fun c hc=>qoP c (hb c hc))) rfl (.inl rfl) ?_
 simp only [ZZ,WW,Ze,reduceCtorEq,zd,ze,za,zf,zb]
def qa9:IC:=(sR [qT 9 .lss 8 7] (.seq (jE 9) (.seq (.block 1 (sR [qM 10 8,qM 5 10] (sR [qM 11 1,qM 12 0,qM 13 5,qX 14 1 12 13,qL 15 14,qT 16 .eql 11 15] (jW 16 (sR [qM 17 5,qM 4 17] .ret))))) (.reg [qB 18 .add 8 (cI 1),qM 8 18]))))
abbrev qdr:IC:=(sR [jI 4 0] (.seq (sR [qM 6 0,qN 7 6,jI 8 0] (.block 0 (.loop qa9))) (sR [jI 4 (-1)] .ret)))
theorem qdu:chkF Tryz.prog Tryz.f80 qdr [.t 4] 19=true:=by kernel_rfl
abbrev qcU:IC:=(sR [qO 4 (.mov (.c (.bool false)))] (sR [qM 5 0,qM 6 1,jC 7 80 [.t 5,.t 6],qB 8 .geq 7 (cI 0),qM 4 8] .ret))
theorem qcW:chkF Tryz.prog Tryz.f43 qcU [.t 4] 9=true:=by kernel_rfl
def idxS (l:List (List UInt8)) (x:List UInt8) (k:Nat):Int:=if h:k < l.length then (if x=l[k] then k else idxS l x (k+1)) else -1
termination_by l.length - k
set_option maxHeartbeats 2000000 in
theorem qsy (l:List (List UInt8)) (x:List UInt8) (hl:l.length≤1000000000):PCall Tryz.prog E0 80 [.sl 1 (strE l),.str x] (·=int (idxS l x 0)):=by
 refine qah mixed Tryz.func80 qdu ?_
 refine zV ?_
 simp only [ZZ,WW,Ze,reduceCtorEq,zd,ze,za,zf,zb,qac]
 refine qad (fun n fr L=>∃ (k:Nat),k≤l.length∧n=l.length - k∧(idxS l x 0=idxS l x k)∧fr=(.p (.sl 1 (strE l))::.p (.str x)::oC (oo::(.p (int (l.length:Nat))::.p (int (k:Nat))::oD (oB []))))∧L=[]) (l.length) (.p (.sl 1 (strE l))::.p (.str x)::oC (oo::(.p (int (l.length:Nat))::.p (int (0:Nat))::oD (oB [])))) [] (by simp only [ZZ,WW,Ze,reduceCtorEq,zd,ze,za,zf,zb,qac];try trivial) zF_ ⟨0,by omega,by omega,rfl,rfl,rfl⟩ ?_
 rintro n fr L ⟨k,hk,rfl,hf,rfl,rfl⟩
 simp only [qa9,ZZ,WW,Ze,reduceCtorEq,zd,ze,za,zf,zb]
 refine br ?_ ?_
 ·intro h
  have hlt:k < l.length:=by have:=of_decide_eq_true h;omega
  have hg:=qaU (zk hlt)
  simp only [ZZ,WW,Ze,reduceCtorEq,zd,ze,za,zf,zb,hg,qac]
  ((with_reducible and_intros)<;>try exact sc_)
  refine br ?_ ?_
  ·intro h2
   have h2:x=l[k]:=of_decide_eq_true h2
   refine zS ?_
   rw [hf,idxS,dif_pos hlt,if_pos h2]
  ·intro h2
   have h2:¬ x=l[k]:=of_decide_eq_false h2
   refine zS ?_
   ((with_reducible and_intros)<;>try exact sc_)
   refine qab (l.length - (k+1)) (.p (.sl 1 (strE l))::.p (.str x)::oC (oo::(.p (int (l.length:Nat))::.p (int ((k+1):Nat))::oD (oB [])))) [] (by omega) zF_ zF_ ⟨k+1,by omega,rfl,by rw [hf,idxS,dif_pos hlt,if_neg h2],rfl,rfl⟩
 ·intro h
  have hge:¬ k < l.length:=by have:=of_decide_eq_false h;omega
  refine zS ?_
  rw [hf,idxS,dif_neg hge]
theorem qtM (l:List (List UInt8)) (x:List UInt8):∀ (n k:Nat),l.length - k≤n→(0≤idxS l x k↔x∈l.drop k):=by
 intro n
 induction n with
 |zero=>
  intro k hk
  rw [idxS,dif_neg (by omega),zX (by omega)]
  simp
 |succ n ih=>
  intro k hk
  rw [idxS]
  split
  ·rename_i h
   rw [List.drop_eq_getElem_cons h,zG]
   split
   ·rename_i e;simp [e]
   ·rename_i e
    rw [ih (k+1) (by omega)]
    simp [e]
  ·rename_i h
   rw [zX (by omega)]
   simp
theorem qa2 (l:List (List UInt8)) (x:List UInt8) (hl:l.length≤1000000000):PCall Tryz.prog E0 43 [.sl 1 (strE l),.str x] (·=.bool (decide (x∈l))):=by
 refine qah mixed Tryz.func43 qcW ?_
 refine zV ?_
 refine use1 (qsy l x hl) rfl (.inl rfl) ?_
 refine zS ?_
 have:=qtM l x _ 0 (Nat.le_refl _)
 rw [List.drop_zero] at this
 simp only [this]
section
variable {E:Envt}
end
def qes (l:List UInt8):Nat:=l.foldl (fun n c=>10 * n+(c.toNat - 48)) 0
def dd:Nat→Nat→List UInt8
 |0,_=>[]
 |f+1,u=>if u < 10 then [UInt8.ofNat (48+u)] else dd f (u / 10)++[UInt8.ofNat (48+u % 10)]
def N7:List Int:=[1,7,9999,10000,999999999,0,-1]
theorem qgp {P:Program} {w w':World} {n:String} {g:Nat} (hg:P.globalNamed n=some g) (hb:w'.heap[g]?=w.heap[g]?):w'.var? P n=w.var? P n:=by
 simp only [World.var?,hg,Option.bind_some,hb]
def E5:Envt where
 ok w:=E0.ok w∧Lib.TabIs Tryz.prog w "internal/strconv.uint64pow10" .u64 Lib.pow10Tab∧(∃ tp p,w.var? Tryz.prog "strconv.ErrSyntax" = some #[.iface tp p])∧(∃ tp p,w.var? Tryz.prog "strconv.ErrRange" = some #[.iface tp p])∧Lib.TabIs Tryz.prog w "strings.asciiSpace" .u8 Lib.asciiSpaceTab
 bl b:=E0.bl b∨b=5∨b=6∨b=7∨b=1
 mono w w' hb h:=⟨E0.mono w w' (fun b hbb=>hb b (.inl hbb)) h.1,(qgp (by kernel_rfl) (hb _ (.inr (.inl rfl)))).trans h.2.1,by rw [qgp (by kernel_rfl) (hb _ (.inr (.inr (.inl rfl))))];exact h.2.2.1,by rw [qgp (by kernel_rfl) (hb _ (.inr (.inr (.inr (.inl rfl)))))];exact h.2.2.2.1,(qgp (by kernel_rfl) (hb _ (.inr (.inr (.inr (.inr rfl)))))).trans h.2.2.2.2⟩
theorem up5 {f:FuncId} {args:List PV} {φ:PV→Prop} (h:PCall Tryz.prog E0 f args φ):PCall Tryz.prog E5 f args φ:=fun w U vs hU hE hEb hA=>h w U vs hU hE.1 (fun c hc=>hEb c (.inl hc)) hA
theorem qrM (w:World) (k:Nat) (os:Array Obj):Grow w (Sort.grow (w.drewN k) os) (fun _=>False):=⟨rfl,rfl,rfl,by simp [Sort.grow,World.drewN],fun b hb _=>by simp [Sort.grow,World.drewN,Array.getElem?_append_left hb]⟩
theorem qc8 (n:Int) (h0:-9223372036854775808≤n) (h1:n≤9223372036854775807):PCall Tryz.prog E5 35 [int n] (·=.str (Lib.itoa n)):=
 qbK rfl rfl fun w hE=>(Any.strconv_Itoa Tryz.layItoa n h0 h1 w hE.2.1).mono fun e w' h=>⟨h.1,by obtain ⟨k,os,rfl⟩:=h.2;exact qrM w k os⟩
def atB (s:List UInt8):Bool:=match Lib.atoiAll s with|.ok _=>true|_=>false
def atV (s:List UInt8):Int:=match Lib.atoiAll s with|.ok v=>v|.range=>Lib.atoiSat s|_=>0
theorem qpT (s:List UInt8) (hs:s.length≤1000000):PCall Tryz.prog E5 81 [.str s] (fun x=>∃ v,x=.tup [int (atV s),.raw v]∧nilI v=some (atB s)):=by
 intro w U vs hU hE hEb hA
 have:vs=[.string ⟨s.toArray⟩]:=(PRepL.valD rfl).1 hA
 subst this
 have hsz:(⟨s.toArray⟩:ByteArray).size≤1000000:=by rw [qc5];exact hs
 have hdt:(⟨s.toArray⟩:ByteArray).data.toList=s:=by simp
 unfold atV atB
 cases ha:Lib.atoiAll s with
 |ok n=>
  refine (Any.strconv_Atoi_ok Tryz.layAtoi ⟨s.toArray⟩ (by omega) n (by rw [hdt];exact ha) w).mono ?_
  rintro e w' ⟨rfl,hw⟩
  refine ⟨_,_,rfl,⟨.nilIface,rfl,rfl⟩,⟨[_,_],rfl,_,_,rfl,rfl,_,_,rfl,⟨rfl,rfl⟩,rfl⟩,?_⟩
  rcases hw with rfl|⟨t,rfl⟩
  ·exact Grow.refl _ _
  ·exact qdD (Lib.bytesWorld_below _ _ _)
 |range=>
  obtain ⟨tp,p,hv⟩:=hE.2.2.2.1
  refine (Any.strconv_Atoi_range_var Tryz.layAtoi ⟨s.toArray⟩ (by omega) (by rw [hdt];exact ha) tp p w hv).mono ?_
  rintro e w' ⟨N,rfl,_,_,hb⟩
  rw [hdt]
  exact ⟨_,_,rfl,⟨.iface _ _,rfl,rfl⟩,⟨[_,_],rfl,_,_,rfl,rfl,_,_,rfl,⟨rfl,rfl⟩,rfl⟩,qdD hb⟩
 |_=>
  obtain ⟨tp,p,hv⟩:=hE.2.2.1
  refine (Any.strconv_Atoi_syntax_var Tryz.layAtoi ⟨s.toArray⟩ (by omega) (by rw [hdt];exact ha) tp p w hv).mono ?_
  rintro e w' ⟨N,rfl,_,_,hb⟩
  exact ⟨_,_,rfl,⟨.iface _ _,rfl,rfl⟩,⟨[_,_],rfl,_,_,rfl,rfl,_,_,rfl,⟨rfl,rfl⟩,rfl⟩,qdD hb⟩
section
variable {E:Envt}
end
theorem qhF:∀ u:List UInt8,u.all digB=true→qes u < 10 ^ u.length:=by
 have key:∀ (u:List UInt8) (a:Nat),u.all digB=true→u.foldl (fun n c=>10 * n+(c.toNat - 48)) a < (a+1) * 10 ^ u.length:=by
  intro u
  induction u with
  |nil=>intro a _;simp
  |cons c r ih=>
   intro a h
   simp only [List.all_cons,zi] at h
   have hc:=h.1
   simp only [digB,zi,decide_eq_true_eq] at hc
   simp only [List.foldl_cons]
   refine Nat.lt_of_lt_of_le (ih _ h.2) ?_
   rw [zl,Nat.pow_succ,Nat.mul_comm (10 ^ r.length) 10,← Nat.mul_assoc]
   exact zP _ (by omega)
 intro u h
 have:=key u 0 h
 simpa [qes] using this
section
variable {E:Envt}
theorem qsm {p:UInt8→Bool} {s:List UInt8} {j:Nat} (h:j < s.length):(s.take (j+1)).all p=((s.take j).all p && p (s.getD j 0)):=by
 rw [zI h,List.all_append]
 simp [zC,h]
end
def qer:IC:=(sR [qT 41 .lss 40 39] (.seq (jE 41) (.seq (.block 1 (sR [qM 42 40,qM 8 42] (sR [qM 43 6,qM 44 8,qO 45 (.idx (.t 43) (.t 44)),jC 46 126 [.t 45],qO 47 (.not (.t 46))] (jW 47 (sR [jI 4 0,qO 5 (.mov (.c (.bool false)))] .ret))))) (.reg [qB 48 .add 40 (cI 1),qM 40 48]))))
abbrev qkc:IC:=(sR [jI 4 0,qO 5 (.mov (.c (.bool false)))] (sR [qM 12 0,jC 13 125 [.t 12,.c (.str [45])],qM 11 13,qO 14 (.ext 0 (.t 11)),qO 15 (.ext 1 (.t 11)),qM 6 14,qM 7 15] (.seq (sR [qM 16 6,qO 17 (.sln (.t 16)),qM 18 1,jC 19 71 [.t 17,.c (.int .i64 1),.t 18],qO 20 (.not (.t 19)),qM 21 20,⟨some 22,.mov (.t 6),(some (21,false))⟩,⟨some 23,.sln (.t 22),(some (21,false))⟩,⟨some 24,.bin .gtr (.t 23) (cI 1),(some (21,false))⟩,⟨some 25,.mov (.t 24),(some (21,false))⟩,⟨some 26,.mov (.t 6),(some (25,true))⟩,⟨some 27,.idx (.t 26) (cI 0),(some (25,true))⟩,⟨some 28,.bin .eql (.t 27) (.c (.int .u8 48)),(some (25,true))⟩,⟨some 29,.pick (.t 25) (.t 28) (.c (.bool false)),(some (21,false))⟩,qO 30 (.pick (.t 21) (.c (.bool true)) (.t 29)),qM 31 30,⟨some 32,.mov (.t 7),(some (31,false))⟩,⟨some 33,.mov (.t 32),(some (31,false))⟩,⟨some 34,.mov (.t 6),(some (33,true))⟩,⟨some 35,.bin .eql (.t 34) (.c (.str [48])),(some (33,true))⟩,⟨some 36,.pick (.t 33) (.t 35) (.c (.bool false)),(some (31,false))⟩,qO 37 (.pick (.t 31) (.c (.bool true)) (.t 36))] (jW 37 (sR [jI 4 0,qO 5 (.mov (.c (.bool false)))] .ret))) (.seq (sR [qM 38 6,qO 39 (.sln (.t 38)),jI 40 0] (.block 0 (.loop qer))) (sR [qM 50 0,jC 51 81 [.t 50],qM 49 51,qO 52 (.ext 0 (.t 49)),qO 53 (.ext 1 (.t 49)),qM 9 52,qM 10 53] (.seq (.drg [qM 54 9,qM 55 10,qO 56 (.nli false (.t 55)),qM 4 54,qM 5 56]) .ret))))))
theorem qkf:chkF Tryz.prog Tryz.f78 qkc [.t 4,.t 5] 57=true:=by kernel_rfl
abbrev qhk:IC:=(sR [jI 4 0,qO 5 (.mov (.c (.bool false)))] (sR [qM 9 0,jC 10 81 [.t 9],qM 8 10,qO 11 (.ext 0 (.t 8)),qO 12 (.ext 1 (.t 8)),qM 6 11,qM 7 12] (sR [qM 13 6,qM 14 7,qO 15 (.nli false (.t 14)),qM 16 15,⟨some 17,.mov (.t 6),(some (16,true))⟩,⟨some 18,.call 35 [.t 17],(some (16,true))⟩,⟨some 19,.mov (.t 0),(some (16,true))⟩,⟨some 20,.bin .eql (.t 18) (.t 19),(some (16,true))⟩,qO 21 (.pick (.t 16) (.t 20) (.c (.bool false))),qM 22 21,⟨some 23,.mov (.t 0),(some (22,true))⟩,⟨some 24,.call 82 [.t 23,.c (.str [45])],(some (22,true))⟩,⟨some 25,.sln (.t 24),(some (22,true))⟩,⟨some 26,.mov (.t 1),(some (22,true))⟩,⟨some 27,.bin .leq (.t 25) (.t 26),(some (22,true))⟩,qO 28 (.pick (.t 22) (.t 27) (.c (.bool false))),qM 4 13,qM 5 28] .ret)))
theorem qhu:chkF Tryz.prog Tryz.f44 qhk [.t 4,.t 5] 29=true:=by kernel_rfl
theorem qyh (s:List UInt8):-9223372036854775808≤atV s∧atV s≤9223372036854775807:=by
 unfold atV
 cases h:Lib.atoiAll s with
 |ok v=>exact Lib.atoiAll_bounds h
 |range=>simp only [Lib.atoiSat];split<;>omega
 |_=>
  show (-9223372036854775808:Int)≤0∧(0:Int)≤9223372036854775807
  decide
def qgD (s:List UInt8) (n:Int):Bool:=atB s && decide (Lib.itoa (atV s)=s) && decide (((qat s [45]).1.length:Int)≤n)
theorem qqg (s p:List UInt8):(qat s p).1.length≤s.length:=by
 unfold qat
 split<;>simp
theorem qjH (s:List UInt8) (n:Int) (hs:s.length≤1000000):PCall Tryz.prog E5 44 [.str s,int n] (·=.tup [int (atV s),.bool (qgD s n)]):=by
 refine qah mixed Tryz.func44 qhu ?_
 refine zV ?_
 refine use (qpT s hs) rfl (.inl rfl) ?_
 rintro y ⟨v,rfl,hv⟩
 have hb:=qyh s
 simp only [ZZ,WW,Ze,reduceCtorEq,zd,ze,za,zf,zb,hv]
 refine useG (fun _=>qc8 (atV s) hb.1 hb.2) rfl (.inl rfl) ?_
 refine zS ?_
 refine useG (fun _=>qe7 s [45] (by omega) (by decide)) rfl (.inl rfl) ?_
 refine zS ?_
 rfl
def badN (s:List UInt8) (dg:Int):Bool:=(!inE (qat s [45]).1.length 1 dg || decide ((1:Int) < ((qat s [45]).1.length:Nat)) && decide ((((qat s [45]).1.getD 0 0).toNat:Int)=48)) || (qat s [45]).2 && decide ((qat s [45]).1=[48])
set_option maxHeartbeats 2000000 in
theorem qqs (s:List UInt8) (dg:Int) (hs:s.length≤1000000):PCall Tryz.prog E5 78 [.str s,int dg] (·=if badN s dg=false∧(qat s [45]).1.all digB=true then .tup [int (atV s),.bool (atB s)] else .tup [int 0,.bool false]):=by
 refine qah mixed Tryz.func78 qkf ?_
 refine zV ?_
 refine use1 (qnN s [45] (by omega) (by decide)) rfl (.inl rfl) ?_
 have hcl:=qqg s [45]
 unfold badN
 generalize qat s [45]=q at *
 obtain ⟨d,m⟩:=q
 simp only at hcl ⊢
 refine zS ?_
 refine use1 (qoW (d.length:Nat) 1 dg) rfl (.inl rfl) ?_
 have hx:decide ((1:Int) < (d.length:Nat))=true→(0:Int) < (d.length:Nat):=by
  intro h
  have:=of_decide_eq_true h
  omega
 have e0:Int.toNat 0=0:=rfl
 simp only [ZZ,WW,Ze,reduceCtorEq,zd,ze,za,zf,zb,e0]
 refine ⟨fun h=>⟨h,by omega,hx (by simp only [zi] at h;exact h.2.2)⟩,fun h=>⟨h,fun h2=>by rw [h,h2];rfl⟩,fun h=>by rw [h];rfl,fun h=>⟨h,fun h2=>by rw [h,h2];rfl⟩,fun h=>by rw [h];rfl,?_⟩
 refine br ?_ ?_
 ·intro h
  refine zS ?_
  rw [if_neg (by rw [h];simp)]
 ·intro h
  refine zS ?_
  refine qad (fun n fr L=>∃ (j:Nat),j≤d.length∧n=d.length - j∧((d.take j).all digB=true)∧fr=(.p (.str s)::oC (oo::(.p (.str d)::oF (.p (int (d.length:Nat))::.p (int (j:Nat))::oE []))))∧L=[]) (d.length) (.p (.str s)::oC (oo::(.p (.str d)::oF (.p (int (d.length:Nat))::.p (int (0:Nat))::oE [])))) [] zF_ zF_ ⟨0,by omega,by omega,by simp,rfl,rfl⟩ ?_
  rintro n fr L ⟨j,hj,rfl,hall,rfl,rfl⟩
  simp only [qer,ZZ,WW,Ze,reduceCtorEq,zd,ze,za,zf,zb]
  refine br ?_ ?_
  ·intro h2
   have hju:j < d.length:=by have:=of_decide_eq_true h2;omega
   have hnx:=qsm (p:=digB) hju
   refine zS ?_
   ((with_reducible and_intros)<;>try exact sc_)
   refine use1 (qpR (d.getD j 0)) rfl (.inl rfl) ?_
   refine zS ?_
   refine br ?_ ?_
   ·intro hd2
    have hd2:digB (d.getD j 0)=false:=by simpa using hd2
    refine zS ?_
    rw [if_neg]
    rintro ⟨_,h3⟩
    rw [List.all_eq_true] at h3
    have:=h3 (d.getD j 0) (by simp [zC,hju])
    rw [hd2] at this
    cases this
   ·intro hd2
    have hd2:digB (d.getD j 0)=true:=by simpa using hd2
    refine zS ?_
    ((with_reducible and_intros)<;>try exact sc_)
    refine qab (d.length - (j+1)) (.p (.str s)::oC (oo::(.p (.str d)::oF (.p (int (d.length:Nat))::.p (int ((j+1):Nat))::oE [])))) [] (by omega) zF_ zF_ ⟨j+1,by omega,rfl,by rw [hnx,hall,hd2];rfl,rfl,rfl⟩
  ·intro h2
   have hju:j=d.length:=by have:=of_decide_eq_false h2;omega
   subst hju
   rw [z7] at hall
   rw [if_pos ⟨h,hall⟩]
   refine zS ?_
   refine use (qpT s hs) rfl (.inl rfl) ?_
   rintro y ⟨v,rfl,hv⟩
   refine zS ?_
   refine drg0 ?_
   simp only [ZZ,WW,Ze,reduceCtorEq,zd,ze,za,zf,zb,hv]
theorem qjG:∀ (s:List UInt8) (acc:Nat),s.all digB=true→(acc+1) * 10 ^ s.length≤1000000000000000000→Lib.parseUint10 acc s=.ok (s.foldl (fun n c=>10 * n+(c.toNat - 48)) acc)
 |[],acc,_,_=>rfl
 |c :: r,acc,h,hb=>by
  simp only [List.all_cons,zi] at h
  have hc:=h.1
  simp only [digB,zi,decide_eq_true_eq] at hc
  have hp:1≤10 ^ r.length:=Nat.pow_pos (by decide)
  have hq:(acc+1) * 10≤1000000000000000000:=by
   rw [zl,Nat.pow_succ,Nat.mul_comm (10 ^ r.length) 10,← Nat.mul_assoc] at hb
   exact zt (Nat.le_mul_of_pos_right _ hp) hb
  rw [Lib.parseUint10,if_pos ⟨by omega,by omega⟩,if_neg (by omega),if_neg (by omega),qjG r _ h.2 ?_,List.foldl_cons,Nat.mul_comm acc 10]
  rw [zl,Nat.pow_succ,Nat.mul_comm (10 ^ r.length) 10,← Nat.mul_assoc] at hb
  exact zt (zP _ (by omega)) hb
theorem qsj {s:List UInt8} (hne:s≠[]) (h:s.all digB=true) (hl:s.length≤18):atV s=(qes s:Nat)∧atB s=true:=by
 cases s with
 |nil=>exact absurd rfl hne
 |cons c r=>
  have hc:=h
  simp only [List.all_cons,zi] at hc
  have hc:=hc.1
  simp only [digB,zi,decide_eq_true_eq] at hc
  have hp:(10:Nat) ^ (c :: r).length≤10 ^ 18:=Nat.pow_le_pow_right (by decide) hl
  have e:=qjG (c :: r) 0 h (by omega)
  have hb:=qhF (c :: r) h
  have e2:Lib.atoiAll (c :: r)=.ok ((qes (c :: r):Nat):Int):=by
   rw [Lib.atoiAll_plain c r (by omega) (by omega),Lib.parseMag,if_neg (by simp),e]
   rw [show (c :: r).foldl (fun n c=>10 * n+(c.toNat - 48)) 0=qes (c :: r) from rfl]
   rw [Lib.signless,if_neg (by omega)]
  unfold atV atB
  rw [e2]
  exact ⟨rfl,rfl⟩
end Go.Proofs.YtjgdjinhkgjpeabGreatDoor
namespace Go.Proofs.YtjgdjinhkgjpeabGreatDoor
open Bool renaming and_eq_true→zi
def canD (s:List UInt8):Prop:=s≠[]∧s.all digB=true∧¬ (1 < s.length∧s.getD 0 0=48)
theorem qrZ {u:Nat} (h:u < 10):digB (UInt8.ofNat (48+u))=true∧(UInt8.ofNat (48+u)).toNat=48+u:=by
 have e:(UInt8.ofNat (48+u)).toNat=48+u:=by rw [UInt8.toNat_ofNat'];omega
 refine ⟨?_,e⟩
 simp only [digB,zi,decide_eq_true_eq]
 rw [e]
 omega
theorem qnk {u:Nat} (h:¬ u < 10):Lib.decDigits u=Lib.decDigits (u / 10)++[UInt8.ofNat (48+u % 10)]:=by
 rw [Lib.decDigits,dif_neg h]
theorem qjl:∀ (n u:Nat),u < n→canD (Lib.decDigits u)∧(1≤u→(Lib.decDigits u).getD 0 0≠48)
 |0,u,h=>by omega
 |n+1,u,h=>by
  by_cases h1:u < 10
  ·rw [Lib.decDigits_one h1]
   refine ⟨⟨by simp,by simpa using (qrZ h1).1,by simp⟩,fun h2 e=>?_⟩
   have e:UInt8.ofNat (48+u)=48:=e
   have:=congrArg UInt8.toNat e
   rw [(qrZ h1).2] at this
   have h48:(48:UInt8).toNat=48:=rfl
   omega
  ·obtain ⟨⟨a1,a2,a3⟩,a4⟩:=qjl n (u / 10) (by omega)
   have a4:=a4 (by omega)
   rw [qnk h1]
   have hg:(Lib.decDigits (u / 10)++[UInt8.ofNat (48+u % 10)]).getD 0 0=(Lib.decDigits (u / 10)).getD 0 0:=by
    cases hd:Lib.decDigits (u / 10) with
    |nil=>exact absurd hd a1
    |cons c r=>rfl
   refine ⟨⟨by simp,?_,?_⟩,fun _=>by rw [hg];exact a4⟩
   ·rw [List.all_append,a2]
    simpa using (qrZ (u:=u % 10) (by omega)).1
   ·rintro ⟨_,e⟩
    rw [hg] at e
    exact a4 e
theorem qtQ (t:List UInt8) (c:UInt8):qes (t++[c])=10 * qes t+(c.toNat - 48):=by
 unfold qes
 rw [List.foldl_append]
 rfl
theorem qoI:∀ (n:Nat) (s:List UInt8),s.length=n→canD s→Lib.decDigits (qes s)=s
 |0,s,h,hc=>absurd (List.length_eq_zero_iff.1 h) hc.1
 |n+1,s,h,hc=>by
  obtain ⟨t,c,rfl⟩:∃ t c,s=t++[c]:=⟨s.dropLast,s.getLast hc.1,(List.dropLast_concat_getLast hc.1).symm⟩
  obtain ⟨h1,h2,h3⟩:=hc
  rw [List.all_append,zi] at h2
  have hcd:digB c=true:=by simpa using h2.2
  simp only [digB,zi,decide_eq_true_eq] at hcd
  rw [qtQ]
  have hcc:UInt8.ofNat c.toNat=c:=UInt8.ofNat_toNat
  by_cases ht:t=[]
  ·subst ht
   rw [show qes ([]:List UInt8)=0 from rfl,Lib.decDigits_one (by omega),show 48+(10 * 0+(c.toNat - 48))=c.toNat from by omega,hcc]
   rfl
  ·have hg:(t++[c]).getD 0 0=t.getD 0 0:=by
    cases t with
    |nil=>exact absurd rfl ht
    |cons d r=>rfl
   have hl:1≤t.length:=List.length_pos_iff.2 ht
   have hg0:t.getD 0 0≠48:=fun e=>h3 ⟨by simp;omega,by rw [hg,e]⟩
   have ih:=qoI n t (by simpa using h) ⟨ht,h2.1,fun e=>hg0 e.2⟩
   have h0:1≤qes t:=by
    rcases Nat.eq_zero_or_pos (qes t) with e|e
    ·rw [e,Lib.decDigits_one (by omega)] at ih
     rw [← ih] at hg0
     exact absurd rfl hg0
    ·exact e
   rw [qnk (by omega),show (10 * qes t+(c.toNat - 48)) / 10=qes t from by omega,show (10 * qes t+(c.toNat - 48)) % 10=c.toNat - 48 from by omega,ih,show 48+(c.toNat - 48)=c.toNat from by omega,hcc]
theorem qpE {s:List UInt8} (h:canD s):qat s [45]=(s,false):=by
 obtain ⟨h1,h2,_⟩:=h
 cases s with
 |nil=>exact absurd rfl h1
 |cons c r=>
  simp only [List.all_cons,zi] at h2
  have hc:c≠45:=by rintro rfl;exact absurd h2.1 (by decide)
  unfold qat
  rw [if_neg (by simp [Lib.hasPrefix,List.isPrefixOf,Ne.symm hc])]
theorem qdm (d:List UInt8):qat (45 :: d) [45]=(d,true):=by
 unfold qat
 rw [if_pos (by simp [Lib.hasPrefix,List.isPrefixOf])]
 rfl
theorem qnl (s:List UInt8):qat s [45]=(s,false)∨∃ d,s=45 :: d:=by
 cases s with
 |nil=>exact .inl rfl
 |cons c r=>
  by_cases hc:c=45
  ·exact .inr ⟨r,by rw [hc]⟩
  ·refine .inl ?_
   unfold qat
   rw [if_neg (by simp [Lib.hasPrefix,List.isPrefixOf,Ne.symm hc])]
theorem qnG {d:List UInt8} (hne:d≠[]) (h:d.all digB=true) (hl:d.length≤9):atV (45 :: d)=-((qes d:Nat):Int)∧atB (45 :: d)=true:=by
 have hp:(10:Nat) ^ d.length≤10 ^ 9:=Nat.pow_le_pow_right (by decide) hl
 have e:=qjG d 0 h (by omega)
 have hb:=qhF d h
 have e2:Lib.atoiAll (45 :: d)=.ok (-((qes d:Nat):Int)):=by
  rw [Lib.atoiAll_minus,Lib.parseMag,if_neg hne,e]
  rw [show d.foldl (fun n c=>10 * n+(c.toNat - 48)) 0=qes d from rfl]
  rw [Lib.signed,if_neg (by omega)]
 unfold atV atB
 rw [e2]
 exact ⟨rfl,rfl⟩
def nuF (s:List UInt8):Prop:=badN s 9=false∧(qat s [45]).1.all digB=true
theorem qhz (s d:List UInt8) (m:Bool) (h:qat s [45]=(d,m)):badN s 9=false↔(1≤d.length∧d.length≤9)∧¬ (1 < d.length∧d.getD 0 0=48)∧¬ (m=true∧d=[48]):=by
 have h48:((((d.getD 0 0).toNat:Nat):Int)=48)↔d.getD 0 0=48:=by
  constructor
  ·intro e
   apply UInt8.toNat_inj.1
   rw [show (48:UInt8).toNat=48 from rfl]
   omega
  ·intro e
   rw [e]
   rfl
 unfold badN inE
 rw [h]
 simp only [Bool.or_eq_false_iff,Bool.not_eq_false',zi,decide_eq_true_eq,Bool.and_eq_false_iff,decide_eq_false_iff_not,h48]
 constructor
 ·rintro ⟨⟨h1,h2⟩,h3⟩
  refine ⟨by omega,?_,?_⟩
  ·rintro ⟨h4,h5⟩
   rcases h2 with h2|h2
   ·omega
   ·exact h2 h5
  ·rintro ⟨rfl,h5⟩
   rcases h3 with h3|h3
   ·cases h3
   ·exact h3 h5
 ·rintro ⟨h1,h2,h3⟩
  refine ⟨⟨by omega,?_⟩,?_⟩
  ·by_cases h4:d.getD 0 0=48
   ·refine .inl fun h5=>h2 ⟨by omega,h4⟩
   ·exact .inr h4
  ·cases m
   ·exact .inl rfl
   ·exact .inr fun h5=>h3 ⟨rfl,h5⟩
set_option maxHeartbeats 2000000 in
theorem qly (s:List UInt8):(nuF s→atB s=true∧qgD s 9=true)∧(qgD s 9=true→nuF s):=by
 constructor
 ·rintro ⟨hb,ha⟩
  rcases qnl s with hc|⟨d,rfl⟩
  ·have h1:=(qhz s s false hc).1 hb
   rw [hc] at ha
   have hne:s≠[]:=by rintro rfl;simp at h1
   obtain ⟨a1,a2⟩:=qsj hne ha (by omega)
   refine ⟨a2,?_⟩
   unfold qgD
   rw [a2,a1,hc,Lib.itoa_nonneg,qoI _ s rfl ⟨hne,ha,h1.2.1⟩]
   simp only [decide_true,Bool.true_and,decide_eq_true_eq]
   omega
  ·have h1:=(qhz (45 :: d) d true (qdm d)).1 hb
   rw [qdm] at ha
   have hne:d≠[]:=by rintro rfl;simp at h1
   obtain ⟨a1,a2⟩:=qnG hne ha (by omega)
   have hd:=qoI _ d rfl ⟨hne,ha,h1.2.1⟩
   have h0:1≤qes d:=by
    rcases Nat.eq_zero_or_pos (qes d) with e|e
    ·rw [e,Lib.decDigits_one (by omega)] at hd
     exact absurd ⟨rfl,hd.symm⟩ h1.2.2
    ·exact e
   refine ⟨a2,?_⟩
   unfold qgD
   rw [a2,a1,qdm,Lib.itoa_neg _ h0,hd]
   simp only [decide_true,Bool.true_and,decide_eq_true_eq]
   omega
 ·intro h
  unfold qgD at h
  simp only [zi,decide_eq_true_eq] at h
  obtain ⟨⟨h1,h2⟩,h3⟩:=h
  generalize atV s=v at h2
  rcases Int.le_total 0 v with hv|hv
  ·obtain ⟨u,rfl⟩:∃ u:Nat,v=u:=⟨v.toNat,by omega⟩
   rw [Lib.itoa_nonneg] at h2
   obtain ⟨hc,_⟩:=qjl (u+1) u (by omega)
   rw [h2] at hc
   have hm:=qpE hc
   rw [hm] at h3
   simp only at h3
   refine ⟨(qhz s s false hm).2 ⟨⟨List.length_pos_iff.2 hc.1,by omega⟩,hc.2.2,fun e=>by cases e.1⟩,by rw [hm];exact hc.2.1⟩
  ·rcases Int.lt_or_eq_of_le hv with hv|rfl
   ·obtain ⟨u,rfl,hu⟩:∃ u:Nat,v=-(u:Int)∧1≤u:=⟨(-v).toNat,by omega,by omega⟩
    rw [Lib.itoa_neg u hu] at h2
    obtain ⟨hc,hh⟩:=qjl (u+1) u (by omega)
    rw [← h2] at h3 ⊢
    rw [qdm] at h3
    simp only at h3
    refine ⟨(qhz _ _ true (qdm _)).2 ⟨⟨List.length_pos_iff.2 hc.1,by omega⟩,hc.2.2,fun e=>hh hu (by rw [e.2];rfl)⟩,by rw [qdm];exact hc.2.1⟩
   ·have h2:Lib.itoa ((0:Nat):Int)=s:=h2
    rw [Lib.itoa_nonneg] at h2
    obtain ⟨hc,_⟩:=qjl 1 0 (by omega)
    rw [h2] at hc
    have hm:=qpE hc
    rw [hm] at h3
    simp only at h3
    refine ⟨(qhz s s false hm).2 ⟨⟨List.length_pos_iff.2 hc.1,by omega⟩,hc.2.2,fun e=>by cases e.1⟩,by rw [hm];exact hc.2.1⟩
end Go.Proofs.YtjgdjinhkgjpeabGreatDoor
namespace Go.Proofs.YtjgdjinhkgjpeabGreatDoor
open Go.RowKit
end Go.Proofs.YtjgdjinhkgjpeabGreatDoor
