import Derived.Test.YtehfjlpenlffmaaGreatDoorZ12
import Derived.Test.YtehfjlpenlffmaaGreatDoorZ14
import Derived.Test.YtehfjlpenlffmaaGreatDoorZ8
import Derived.Test.YtehfjlpenlffmaaGreatDoorZ15
import Derived.Lib.Bytealg
set_option linter.unusedVariables false
set_option linter.unusedSimpArgs false
set_option linter.defProp false
namespace Go.Proofs.YtehfjlpenlffmaaGreatDoor
open Nat renaming reduceAdd→zd,reduceMul→ze,reduceLeDiff→zb,reduceLT→zf,reduceEqDiff→za
open Go.RowKit
section
variable {E:Envt}
end
def qbq:IC:=(.seq (.reg [qO 12 (.bin .lss (.t 11) (.t 10))]) (.seq (.cond (.t 12) .skip (.exit 0)) (.seq (.block 1 (.seq (.reg [qO 13 (.ixa 7 (.t 9) (.t 11)),qO 14 (.ld 7 true (.t 13)),qO 7 (.alc 80 [.str [],.str [],.int .i64 0,.str [],.int .i64 0,.str [],.str []]),⟨none,.st 7 (.t 7) (.t 14),none⟩]) (.seq (.drg [⟨none,.fz (.t 19),none⟩,⟨none,.hole 8,none⟩,qO 15 (.fla 0 (.t 7)),qO 16 (.ldl 1 false (.t 15)),qM 17 0,qO 18 (.bsl 1 [.c (.int .i64 1),.c (.int .i64 1),.c (.int .i64 2),.c (.int .i64 3)]),qO 19 (.dcall true 43 [.t 17,.t 18]),qO 20 (.bld [.str [],.int .i64 0,.nl 2] [(0,1,.t 16),(1,1,.t 19)]),qO 8 (.alcd 76 [.str [],.int .i64 0,.nl 2]),⟨none,.st 3 (.t 8) (.t 20),none⟩]) (.seq (.seq (.reg [qO 21 (.fla 1 (.t 8)),qO 22 (.ld 1 false (.t 21)),qO 23 (.bin .eql (.t 22) (.c (.int .i64 1))),qM 24 23,⟨some 25,.mov (.t 0),(some (24,true))⟩,⟨some 26,.call 9 [.t 25,.c (.int .i64 2)],(some (24,true))⟩,qO 27 (.pick (.t 24) (.t 26) (.c (.bool false)))]) (.cond (.t 27) (.reg [qM 28 0,qO 29 (.fla 6 (.t 7)),qO 30 (.ld 1 false (.t 29)),qO 31 (.sln (.t 30)),qO 32 (.call 130 [.t 28,.t 31]),qO 33 (.fla 2 (.t 8)),⟨none,.st 1 (.t 33) (.t 32),none⟩]) .skip)) (.cut (.seq (.reg [qM 34 0,qO 35 (.call 9 [.t 34,.c (.int .i64 4)]),qO 36 (.not (.t 35))]) (.cond (.t 36) (.reg [qM 37 5,qO 38 (.ld 3 true (.t 8)),qO 39 (.bsl 3 [.t 38]),qO 40 (.app 76 3 48 (.t 37) (.t 39)),qM 5 40]) .skip))))))) (.cut (.reg [qO 41 (.bin .add (.t 11) (.c (.int .i64 1))),qM 11 41])))))
def qbM:IC:=(.seq (.reg [qO 4 (.mov (.c (.nl 3)))]) (.seq (.reg [qO 5 (.nilr 76 3)]) (.seq (.seq (.reg [qM 9 1,qO 10 (.len (.t 9)),qO 11 (.mov (.c (.int .i64 0)))]) (.block 0 (.loop qbq))) (.seq (.reg [qM 42 5,qM 4 42]) .ret))))
def qbG:List IRes:=[.t 4]
theorem qed:chkF Tryz.prog Tryz.f41 qbM qbG 43=true:=by kernel_rfl
abbrev tRul:Nat:=76
structure Rul where
 id:List UInt8
 what:Int
 spans:List (Int×Int)
def rlV (r:Rul):List PV:=[.str r.id,int r.what,.sl 2 (r.spans.map spn)]
def rlE (l:List Rul):List (List PV):=l.map rlV
theorem qcl (l:List Rul):(rlE l).length=l.length:=by simp [rlE]
theorem qkO {l:List Rul} {k:Nat} {x:Rul} (h:l[k]?=some x):(rlE l).getD k []=[.str x.id,int x.what,.sl 2 (x.spans.map spn)]:=qaH h
theorem ql9 (l:List Rul) (i:List UInt8) (w:Int) (s:List (Int×Int)):rlE l++[[.str i,int w,.sl 2 (s.map spn)]]=rlE (l++[⟨i,w,s⟩]):=by simp [rlE,rlV]
theorem qnn (l:List Rul) (i:List UInt8) (w:Int):rlE l++[[.str i,int w,.sl 2 []]]=rlE (l++[⟨i,w,[]⟩]):=ql9 l i w []
structure RlM (N:Nat) (r:Rul):Prop where
 b1:r.id.length≤100
 b2:r.spans.length≤N
section
variable {E:Envt}
theorem qlf (l:List Int) (k:Nat) (il:List Itm) (hil:il.length≤20) (hib:ItB il) (hk:k≤700000) (hl:l.length≤9223372036854775807) :
  qoe Tryz.prog E 41 T (stm l k) [.sl 7 (itE il)] tRul 3 (fun es cs'=>∃ (o:List Rul) (k':Nat),es=rlE o∧o.length≤il.length∧(∀ r∈o,RlM 5 r)∧cs'=stm l k'∧k'≤k+1000):=by
 unfold qoe
 refine qje mixed Tryz.func41 qed ?_
 simp only [a0,l0,OS.ao,List.map_cons,List.map_nil,List.length_cons,List.length_nil,List.cons_append,List.nil_append,Nat.reduceSub,zd,List.replicate_succ,List.replicate_zero,qbM,qbG,ZZ,WW,Ze,reduceCtorEq,zd,ze,zb,zf,za]
 have hR0:([]:List (List PV))=rlE []:=rfl
 rw [hR0]
 simp only [ZZ,WW,Ze,reduceCtorEq,zd,ze,zb,zf,za,qan]
 refine qad (fun n fr L=>∃ (i:Nat) (k':Nat) (o:List Rul),i≤il.length∧n=il.length - i∧(k'≤k+40 * i)∧(o.length≤i)∧(∀ r∈o,RlM 5 r)∧fr=[.adr (.b 0) 0,oo,oo,oo,oo,.row (.l 5),oo,oo,oo,.p (.sl 7 (itE il)),.p (int (il.length:Nat)),.p (int (i:Nat)),oo,oo,oo,oo,oo,oo,oo,oo,oo,oo,oo,oo,oo,oo,oo,oo,oo,oo,oo,oo,oo,oo,oo,oo,oo,oo,oo,oo,oo,oo,oo]∧L=[(.b 0,.box ((stm l k').map .p) T),(.l 5,.row (rlE o) tRul 3 true)]) (il.length) [.adr (.b 0) 0,oo,oo,oo,oo,.row (.l 5),oo,oo,oo,.p (.sl 7 (itE il)),.p (int (il.length:Nat)),.p (int (0:Nat)),oo,oo,oo,oo,oo,oo,oo,oo,oo,oo,oo,oo,oo,oo,oo,oo,oo,oo,oo,oo,oo,oo,oo,oo,oo,oo,oo,oo,oo,oo,oo] [(.b 0,.box ((stm l k).map .p) T),(.l 5,.row (rlE []) tRul 3 true)] (by simp only [ZZ,WW,Ze,reduceCtorEq,zd,ze,zb,zf,za,qan];try trivial) (by (simp only [ZZ,WW,Ze,reduceCtorEq,zd,ze,zb,zf,za];try trivial)) ⟨0,k,[],by omega,by omega,by omega,Nat.le_refl _,(fun r hr=>by cases hr),rfl,rfl⟩ ?_
 rintro n fr L ⟨i,k',o,hi,rfl,hk',hol,hob,rfl,rfl⟩
 simp only [qbq,ZZ,WW,Ze,reduceCtorEq,zd,ze,zb,zf,za]
 refine br ?_ ?_
 rotate_left
 ·intro h
  simp only [ZZ,WW,Ze,reduceCtorEq,zd,ze,zb,zf,za]
  exact qr8 5 _ (stm l k') rfl rfl rfl ⟨o,k',rfl,by omega,hob,rfl,by omega⟩
 intro h
 have hlt:i < il.length:=by have:=of_decide_eq_true h;omega
 obtain ⟨x,hx⟩:∃ x,il[i]?=some x:=⟨_,List.getElem?_eq_getElem hlt⟩
 have hg:=qdY hx
 obtain ⟨c1,c2,c3,c4,c5,c6,c7⟩:=hib x (List.mem_of_getElem? hx)
 obtain ⟨a1,a2,a3,a4,a5,a6,a7⟩:=x
 simp only [itC] at hg
 simp only at c1 c7
 clear c2 c3 c4 c5 c6
 simp only [ZZ,WW,Ze,reduceCtorEq,zd,ze,zb,zf,za,hg,qan]
 ((repeat' (with_reducible apply And.intro))<;>try ((exact sc_)))
 refine drg0 ?_
 simp only [ZZ,WW,Ze,reduceCtorEq,zd,ze,zb,zf,za]
 refine useD (qeb l k' [1,1,2,3] (by omega) hl (by simp) (by simp)) ⟨_,_,1,rfl,by simp,rfl⟩ rfl rfl rfl zE_ (fun _=>⟨0,rfl⟩) ?_
 rintro x cs' ⟨w,rfl,hw,rfl⟩
 simp only [ZZ,WW,Ze,reduceCtorEq,zd,ze,zb,zf,za]
 refine qlU (fun hc=>?_) (fun hc=>?_)
 ·refine useS (qhi l (k'+1) 2 (by omega) hl (by decide)) rfl rfl rfl zE_ ?_
  rintro x cs' ⟨f2,rfl,rfl⟩
  simp only [ZZ,WW,Ze,reduceCtorEq,zd,ze,zb,zf,za,hc]
  refine br ?_ ?_
  ·intro _
   simp only [ZZ,WW,Ze,reduceCtorEq,zd,ze,zb,zf,za]
   refine qxb (qo9 l (k'+1+1) a7.length (by omega) hl) rfl rfl rfl zE_ ?_
   rintro es cs' ⟨sp,k2,rfl,hsp,rfl,hk2⟩
   simp only [ZZ,WW,Ze,reduceCtorEq,zd,ze,zb,zf,za]
   refine qc4 _ _ (qbV (k:=.l 32) rfl) ?_
   simp only [ZZ,WW,Ze,reduceCtorEq,zd,ze,zb,zf,za]
   refine useS (qhi l (k2) 4 (by omega) hl (by decide)) rfl rfl rfl zE_ ?_
   rintro x cs' ⟨b9,rfl,rfl⟩
   simp only [ZZ,WW,Ze,reduceCtorEq,zd,ze,zb,zf,za]
   refine br ?_ ?_
   ·intro _
    simp only [ZZ,WW,Ze,reduceCtorEq,zd,ze,zb,zf,za,qcl]
    ((repeat' (with_reducible apply And.intro))<;>try ((exact sc_)))
    refine qau zE_ ?_
    simp only [ZZ,WW,Ze,reduceCtorEq,zd,ze,zb,zf,za]
    ((repeat' (with_reducible apply And.intro))<;>try ((exact sc_)))
    rw [ql9 o a1 w sp]
    refine qac (il.length - (i+1)) [.adr (.b 0) 0,oo,oo,oo,oo,.row (.l 5),oo,oo,oo,.p (.sl 7 (itE il)),.p (int (il.length:Nat)),.p (int ((i+1):Nat)),oo,oo,oo,oo,oo,oo,oo,oo,oo,oo,oo,oo,oo,oo,oo,oo,oo,oo,oo,oo,oo,oo,oo,oo,oo,oo,oo,oo,oo,oo,oo] [(.b 0,.box ((stm l (k2+1)).map .p) T),(.l 5,.row (rlE (o++[⟨a1,w,sp⟩])) tRul 3 true)] (by omega) (by (simp only [ZZ,WW,Ze,reduceCtorEq,zd,ze,zb,zf,za];try trivial)) (by (simp only [ZZ,WW,Ze,reduceCtorEq,zd,ze,zb,zf,za];try trivial)) ⟨i+1,k2+1,o++[⟨a1,w,sp⟩],by omega,rfl,by omega,by simp;omega,by intro r hr;rcases List.mem_append.1 hr with hr|hr;exact hob r hr;rw [List.mem_singleton] at hr;subst hr;exact ⟨c1,hsp⟩,rfl,rfl⟩
   ·intro _
    simp only [ZZ,WW,Ze,reduceCtorEq,zd,ze,zb,zf,za]
    refine qau zE_ ?_
    simp only [ZZ,WW,Ze,reduceCtorEq,zd,ze,zb,zf,za]
    ((repeat' (with_reducible apply And.intro))<;>try ((exact sc_)))
    refine qac (il.length - (i+1)) [.adr (.b 0) 0,oo,oo,oo,oo,.row (.l 5),oo,oo,oo,.p (.sl 7 (itE il)),.p (int (il.length:Nat)),.p (int ((i+1):Nat)),oo,oo,oo,oo,oo,oo,oo,oo,oo,oo,oo,oo,oo,oo,oo,oo,oo,oo,oo,oo,oo,oo,oo,oo,oo,oo,oo,oo,oo,oo,oo] [(.b 0,.box ((stm l (k2+1)).map .p) T),(.l 5,.row (rlE o) tRul 3 true)] (by omega) (by (simp only [ZZ,WW,Ze,reduceCtorEq,zd,ze,zb,zf,za];try trivial)) (by (simp only [ZZ,WW,Ze,reduceCtorEq,zd,ze,zb,zf,za];try trivial)) ⟨i+1,k2+1,o,by omega,rfl,by omega,by omega,hob,rfl,rfl⟩
  ·intro _
   simp only [ZZ,WW,Ze,reduceCtorEq,zd,ze,zb,zf,za]
   refine qau zE_ ?_
   simp only [ZZ,WW,Ze,reduceCtorEq,zd,ze,zb,zf,za]
   refine useS (qhi l (k'+1+1) 4 (by omega) hl (by decide)) rfl rfl rfl zE_ ?_
   rintro x cs' ⟨b9,rfl,rfl⟩
   simp only [ZZ,WW,Ze,reduceCtorEq,zd,ze,zb,zf,za]
   refine br ?_ ?_
   ·intro _
    simp only [ZZ,WW,Ze,reduceCtorEq,zd,ze,zb,zf,za,qcl]
    ((repeat' (with_reducible apply And.intro))<;>try ((exact sc_)))
    refine qau zE_ ?_
    simp only [ZZ,WW,Ze,reduceCtorEq,zd,ze,zb,zf,za]
    ((repeat' (with_reducible apply And.intro))<;>try ((exact sc_)))
    rw [qnn o a1 w]
    refine qac (il.length - (i+1)) [.adr (.b 0) 0,oo,oo,oo,oo,.row (.l 5),oo,oo,oo,.p (.sl 7 (itE il)),.p (int (il.length:Nat)),.p (int ((i+1):Nat)),oo,oo,oo,oo,oo,oo,oo,oo,oo,oo,oo,oo,oo,oo,oo,oo,oo,oo,oo,oo,oo,oo,oo,oo,oo,oo,oo,oo,oo,oo,oo] [(.b 0,.box ((stm l (k'+1+1+1)).map .p) T),(.l 5,.row (rlE (o++[⟨a1,w,[]⟩])) tRul 3 true)] (by omega) (by (simp only [ZZ,WW,Ze,reduceCtorEq,zd,ze,zb,zf,za];try trivial)) (by (simp only [ZZ,WW,Ze,reduceCtorEq,zd,ze,zb,zf,za];try trivial)) ⟨i+1,k'+1+1+1,o++[⟨a1,w,[]⟩],by omega,rfl,by omega,by simp;omega,by intro r hr;rcases List.mem_append.1 hr with hr|hr;exact hob r hr;rw [List.mem_singleton] at hr;subst hr;exact ⟨c1,by simp⟩,rfl,rfl⟩
   ·intro _
    simp only [ZZ,WW,Ze,reduceCtorEq,zd,ze,zb,zf,za]
    refine qau zE_ ?_
    simp only [ZZ,WW,Ze,reduceCtorEq,zd,ze,zb,zf,za]
    ((repeat' (with_reducible apply And.intro))<;>try ((exact sc_)))
    refine qac (il.length - (i+1)) [.adr (.b 0) 0,oo,oo,oo,oo,.row (.l 5),oo,oo,oo,.p (.sl 7 (itE il)),.p (int (il.length:Nat)),.p (int ((i+1):Nat)),oo,oo,oo,oo,oo,oo,oo,oo,oo,oo,oo,oo,oo,oo,oo,oo,oo,oo,oo,oo,oo,oo,oo,oo,oo,oo,oo,oo,oo,oo,oo] [(.b 0,.box ((stm l (k'+1+1+1)).map .p) T),(.l 5,.row (rlE o) tRul 3 true)] (by omega) (by (simp only [ZZ,WW,Ze,reduceCtorEq,zd,ze,zb,zf,za];try trivial)) (by (simp only [ZZ,WW,Ze,reduceCtorEq,zd,ze,zb,zf,za];try trivial)) ⟨i+1,k'+1+1+1,o,by omega,rfl,by omega,by omega,hob,rfl,rfl⟩
 ·simp only [ZZ,WW,Ze,reduceCtorEq,zd,ze,zb,zf,za,hc]
  refine qau zE_ ?_
  simp only [ZZ,WW,Ze,reduceCtorEq,zd,ze,zb,zf,za]
  refine useS (qhi l (k'+1) 4 (by omega) hl (by decide)) rfl rfl rfl zE_ ?_
  rintro x cs' ⟨b9,rfl,rfl⟩
  simp only [ZZ,WW,Ze,reduceCtorEq,zd,ze,zb,zf,za]
  refine br ?_ ?_
  ·intro _
   simp only [ZZ,WW,Ze,reduceCtorEq,zd,ze,zb,zf,za,qcl]
   ((repeat' (with_reducible apply And.intro))<;>try ((exact sc_)))
   refine qau zE_ ?_
   simp only [ZZ,WW,Ze,reduceCtorEq,zd,ze,zb,zf,za]
   ((repeat' (with_reducible apply And.intro))<;>try ((exact sc_)))
   rw [qnn o a1 w]
   refine qac (il.length - (i+1)) [.adr (.b 0) 0,oo,oo,oo,oo,.row (.l 5),oo,oo,oo,.p (.sl 7 (itE il)),.p (int (il.length:Nat)),.p (int ((i+1):Nat)),oo,oo,oo,oo,oo,oo,oo,oo,oo,oo,oo,oo,oo,oo,oo,oo,oo,oo,oo,oo,oo,oo,oo,oo,oo,oo,oo,oo,oo,oo,oo] [(.b 0,.box ((stm l (k'+1+1)).map .p) T),(.l 5,.row (rlE (o++[⟨a1,w,[]⟩])) tRul 3 true)] (by omega) (by (simp only [ZZ,WW,Ze,reduceCtorEq,zd,ze,zb,zf,za];try trivial)) (by (simp only [ZZ,WW,Ze,reduceCtorEq,zd,ze,zb,zf,za];try trivial)) ⟨i+1,k'+1+1,o++[⟨a1,w,[]⟩],by omega,rfl,by omega,by simp;omega,by intro r hr;rcases List.mem_append.1 hr with hr|hr;exact hob r hr;rw [List.mem_singleton] at hr;subst hr;exact ⟨c1,by simp⟩,rfl,rfl⟩
  ·intro _
   simp only [ZZ,WW,Ze,reduceCtorEq,zd,ze,zb,zf,za]
   refine qau zE_ ?_
   simp only [ZZ,WW,Ze,reduceCtorEq,zd,ze,zb,zf,za]
   ((repeat' (with_reducible apply And.intro))<;>try ((exact sc_)))
   refine qac (il.length - (i+1)) [.adr (.b 0) 0,oo,oo,oo,oo,.row (.l 5),oo,oo,oo,.p (.sl 7 (itE il)),.p (int (il.length:Nat)),.p (int ((i+1):Nat)),oo,oo,oo,oo,oo,oo,oo,oo,oo,oo,oo,oo,oo,oo,oo,oo,oo,oo,oo,oo,oo,oo,oo,oo,oo,oo,oo,oo,oo,oo,oo] [(.b 0,.box ((stm l (k'+1+1)).map .p) T),(.l 5,.row (rlE o) tRul 3 true)] (by omega) (by (simp only [ZZ,WW,Ze,reduceCtorEq,zd,ze,zb,zf,za];try trivial)) (by (simp only [ZZ,WW,Ze,reduceCtorEq,zd,ze,zb,zf,za];try trivial)) ⟨i+1,k'+1+1,o,by omega,rfl,by omega,by omega,hob,rfl,rfl⟩
end
end Go.Proofs.YtehfjlpenlffmaaGreatDoor
namespace Go.Proofs.YtehfjlpenlffmaaGreatDoor
structure CmpP {α:Type} (c:α→α→Int):Prop where
 anti:∀ x y,c x y < 0↔0 < c y x
 tr:∀ x y z,c x y≤0→c y z≤0→c x z≤0
def ltC {α:Type} (c:α→α→Int) (x y:α):Bool:=decide (c x y < 0)
def orC {α:Type} (c d:α→α→Int) (x y:α):Int:=if c x y=0 then d x y else c x y
section
variable {α β:Type} {c d:α→α→Int}
theorem CmpP.ord (h:CmpP c):OrdP (ltC c) where
 asym x y h1:=by
  simp only [ltC,decide_eq_true_eq,decide_eq_false_iff_not] at *
  have:=h.anti x y
  omega
 ntr x y z h1 h2:=by
  simp only [ltC,decide_eq_false_iff_not] at *
  have a1:=h.anti x y
  have a2:=h.anti y z
  have a3:=h.anti x z
  have a4:=h.anti y x
  have a5:=h.anti z y
  have:=h.tr z y x
  omega
theorem CmpP.or (h:CmpP c) (k:CmpP d):CmpP (orC c d) where
 anti x y:=by
  have a1:=h.anti x y
  have a2:=h.anti y x
  have a3:=k.anti x y
  unfold orC
  split<;>split<;>omega
 tr x y z:=by
  have a1:=h.anti x y
  have a2:=h.anti y x
  have a3:=h.anti y z
  have a4:=h.anti z y
  have a5:=h.anti x z
  have a6:=h.anti z x
  have t1:=h.tr x y z
  have t2:=h.tr y z x
  have t3:=h.tr z x y
  have t4:=h.tr z y x
  have t5:=k.tr x y z
  unfold orC
  intro h1 h2
  split at h1<;>split at h2<;>split<;>omega
theorem CmpP.zero:CmpP (fun (_ _:α)=>(0:Int)):=⟨fun _ _=>by omega,fun _ _ _ _ _=>by omega⟩
theorem CmpP.on (f:β→α) (h:CmpP c):CmpP (fun x y=>c (f x) (f y)):=⟨fun _ _=>h.anti _ _,fun _ _ _=>h.tr _ _ _⟩
theorem CmpP.sub:CmpP (fun (x y:Int)=>x - y):=⟨fun _ _=>by omega,fun _ _ _ _ _=>by omega⟩
end
theorem qsn:∀ a b:List UInt8,Lib.compareBytes a b=- Lib.compareBytes b a
 |[],[]=>rfl
 |[],_ :: _=>rfl
 |_ :: _,[]=>rfl
 |a :: r,b :: s=>by
  have ih:=qsn r s
  simp only [Lib.compareBytes,UInt8.lt_iff_toNat_lt]
  by_cases p1:a.toNat < b.toNat<;>by_cases p2:b.toNat < a.toNat<;>simp only [p1,p2,if_true,if_false]<;>omega
theorem qsl:∀ {a b:List UInt8},Lib.compareBytes a b=0→a=b
 |[],[],_=>rfl
 |[],_ :: _,h=>by cases h
 |_ :: _,[],h=>by cases h
 |a :: r,b :: s,h=>by
  simp only [Lib.compareBytes,UInt8.lt_iff_toNat_lt] at h
  by_cases p1:a.toNat < b.toNat
  ·rw [if_pos p1] at h;cases h
  by_cases p2:b.toNat < a.toNat
  ·rw [if_neg p1,if_pos p2] at h;cases h
  rw [if_neg p1,if_neg p2] at h
  rw [qsl h,UInt8.toNat_inj.1 (show a.toNat=b.toNat by omega)]
theorem qyg:∀ a b c:List UInt8,Lib.compareBytes a b≤0→Lib.compareBytes b c≤0→Lib.compareBytes a c≤0
 |[],_,[],_,_=>by decide
 |[],_,_ :: _,_,_=>by simp [Lib.compareBytes]
 |_ :: _,[],_,h,_=>by simp [Lib.compareBytes] at h
 |_ :: _,_ :: _,[],_,h=>by simp [Lib.compareBytes] at h
 |a :: r,b :: s,c :: t,h1,h2=>by
  have ih:=qyg r s t
  simp only [Lib.compareBytes,UInt8.lt_iff_toNat_lt] at h1 h2 ⊢
  by_cases p1:a.toNat < b.toNat<;>by_cases p2:b.toNat < a.toNat<;>by_cases q1:b.toNat < c.toNat<;>by_cases q2:c.toNat < b.toNat<;>by_cases r1:a.toNat < c.toNat<;>by_cases r2:c.toNat < a.toNat<;>simp only [p1,p2,q1,q2,r1,r2,if_true,if_false] at h1 h2 ⊢<;>first|omega|exact ih h1 h2
theorem CmpP.cb:CmpP Lib.compareBytes:=⟨fun x y=>by have:=qsn x y;omega,qyg⟩
end Go.Proofs.YtehfjlpenlffmaaGreatDoor
namespace Go.Proofs.YtehfjlpenlffmaaGreatDoor
open Go.RowKit
def getI (il:List Itm) (s:List UInt8):Option Itm:=il.find? fun x=>decide (x.1=s)
def rl0:Rul:=⟨[],0,[]⟩
def ruE (il:List Itm) (l:List Rul) (k:Nat):Int:=
 let r:=l.getD k rl0
 qaf [qaj (getI il r.id).isNone 8,qaj (decide (0 < k) && (bytesLess r.id (l.getD (k - 1) rl0).id || decide (r.id=(l.getD (k - 1) rl0).id))) 7,qaj (!inE r.what 1 3) 4,qaj (decide (0 < r.spans.length) && !decide (r.what=1)) 3,qgE r.spans (((getI il r.id).getD it0).2.2.2.2.2.2.length:Nat)]
def rulF (il:List Itm) (l:List Rul):Int:=if 2000 < l.length then 2 else qaf ((List.range l.length).map (ruE il l))
theorem qvJ (il:List Itm) (l:List Rul) {k:Nat} (h:k < l.length):((List.range l.length).map (ruE il l))[k]?=some (ruE il l k):=by
 rw [List.getElem?_map,List.getElem?_range h];rfl
def rlOf (l:List Rul) (s:List UInt8):Rul:=(l.find? fun r=>decide (r.id=s)).getD ⟨s,3,[]⟩
def ql2 (l:List Rul) (s:List UInt8):Bool:=decide ((rlOf l s).what=1)
def chT (il:List Itm) (l:List Rul):List (List UInt8):=(topsF il).filter fun s=>(s :: kidsF il s).any (ql2 l)
def encF (il:List Itm) (s:List UInt8):List PV:=[.str s,.sl 1 (strE (s :: kidsF il s))]
theorem qtT (il:List Itm):(famF il).map (fun f=>[PV.str f.1,.sl 1 (strE f.2)])=(topsF il).map (encF il):=by
 unfold famF
 rw [List.map_map]
 rfl
def itOf (il:List Itm) (s:List UInt8):Itm:=(getI il s).getD it0
def whoC (il:List Itm) (order:Int) (s t:List UInt8):Int:=if order=3 then Lib.compareBytes (itOf il s).2.1 (itOf il t).2.1 else 0
def qqb (il:List Itm) (order:Int) (s t:List UInt8):Int:=if order=1 then 0 else (itOf il s).2.2.2.2.1 - (itOf il t).2.2.2.2.1
def sgnI (a b:Int):Int:=if a < b then -1 else if b < a then 1 else 0
def quZ (il:List Itm) (order:Int) (s t:List UInt8):Int:=if order=1 then 0 else sgnI (itOf il s).2.2.2.2.1 (itOf il t).2.2.2.2.1
def cfP (il:List Itm) (order:Int):List UInt8→List UInt8→Int:=orC (whoC il order) (orC (qqb il order) Lib.compareBytes)
def cfR (il:List Itm) (order:Int):List UInt8→List UInt8→Int:=orC (whoC il order) (orC (quZ il order) Lib.compareBytes)
theorem qsj (il:List Itm) (order:Int):ltC (cfP il order)=ltC (cfR il order):=by
 funext s t
 unfold ltC cfP cfR orC qqb quZ sgnI
 rw [decide_eq_decide]
 by_cases h1:whoC il order s t=0
 ·rw [if_pos h1,if_pos h1]
  by_cases h2:order=1
  ·rw [if_pos h2,if_pos h2]
  ·rw [if_neg h2,if_neg h2]
   generalize (itOf il s).2.2.2.2.1=a
   generalize (itOf il t).2.2.2.2.1=b
   by_cases p1:a < b
   ·rw [if_pos p1,if_neg (by omega),if_neg (by omega)]
    omega
   ·rw [if_neg p1]
    by_cases p2:b < a
    ·rw [if_pos p2,if_neg (by omega),if_neg (by omega)]
     omega
    ·rw [if_neg p2,if_pos (by omega),if_pos rfl]
 ·rw [if_neg h1,if_neg h1]
theorem qmS (il:List Itm) (order:Int):CmpP (cfP il order):=by
 refine CmpP.or ?_ (CmpP.or ?_ CmpP.cb)
 ·by_cases h:order=3
  ·have:whoC il order=fun s t=>Lib.compareBytes (itOf il s).2.1 (itOf il t).2.1:=by funext s t;rw [whoC,if_pos h]
   rw [this]
   exact CmpP.cb.on fun s=>(itOf il s).2.1
  ·have:whoC il order=fun s t=>0:=by funext s t;rw [whoC,if_neg h]
   rw [this]
   exact CmpP.zero
 ·by_cases h:order=1
  ·have:qqb il order=fun s t=>0:=by funext s t;rw [qqb,if_pos h]
   rw [this]
   exact CmpP.zero
  ·have:qqb il order=fun s t=>(itOf il s).2.2.2.2.1 - (itOf il t).2.2.2.2.1:=by funext s t;rw [qqb,if_neg h]
   rw [this]
   exact CmpP.sub.on fun s=>(itOf il s).2.2.2.2.1
theorem qwR (il:List Itm) (order:Int) (s t:List UInt8) (h1:ltC (cfP il order) s t=false) (h2:ltC (cfP il order) t s=false):s=t:=by
 have a1:=(qmS il order).anti s t
 have a2:=(qmS il order).anti t s
 simp only [ltC,decide_eq_false_iff_not] at h1 h2
 have h0:cfP il order s t=0:=by omega
 unfold cfP orC at h0
 split at h0
 ·split at h0
  ·exact qsl h0
  ·rename_i h;exact absurd h0 h
 ·rename_i h;exact absurd h0 h
def chS (il:List Itm) (l:List Rul) (order:Int):List (List UInt8):=(chT il l).mergeSort fun s t=>!ltC (cfP il order) t s
theorem qqe {α:Type} {lt:α→α→Bool} (hO:OrdP lt) (l:List α):SrtP lt (l.mergeSort fun s t=>!lt t s):=by
 have:=List.pairwise_mergeSort (le:=fun s t=>!lt t s) (fun a b c h1 h2=>by
  simp only [Bool.not_eq_true'] at *
  exact hO.ntr _ _ _ h2 h1) (fun a b=>by
  simp only [Bool.or_eq_true,Bool.not_eq_true']
  cases h:lt b a with
  |false=>exact .inl rfl
  |true=>exact .inr (hO.asym _ _ h)) l
 exact this.imp fun h=>by simpa using h
theorem qt5 {il:List Itm} {l:List Rul} {order:Int} {o:List (List UInt8)} (hp:o.Perm (chT il l)) (hs:SrtP (ltC (cfP il order)) o):o=chS il l order:=
 qps (qwR il order) (hp.trans (List.mergeSort_perm _ _).symm) hs (qqe (qmS il order).ord _)
theorem qnP {il:List Itm} (h:qbE il) {s:List UInt8} {y:Itm} (hf:getI il s=some y):∃ j,il[j]?=some y∧s=pid j:=by
 have h1:=List.find?_some hf
 have h2:=List.mem_of_find?_eq_some hf
 obtain ⟨j,hj⟩:=List.getElem?_of_mem h2
 rw [decide_eq_true_eq,(h.2 j y hj).b1] at h1
 exact ⟨j,hj,h1.symm⟩
theorem qr2 {il:List Itm} {s:List UInt8} (hf:getI il s=none):∀ x∈il,decide (x.1=s)=false:=by
 unfold getI at hf
 rw [List.find?_eq_none] at hf
 intro x hx
 simpa using hf x hx
abbrev qxg:Nat:=229
abbrev tSS:Nat:=58
abbrev tSt5:Nat:=9
def kidR (ts:List Nat):List (List UInt8×AV):=ts.map fun t=>(pid t,AV.row (.l (1000+t)))
def kidP (il:List Itm) (ts:List Nat):List (List UInt8×PV):=ts.map fun t=>(pid t,PV.sl 1 (strE (kidsF il (pid t))))
def trB (kv:List (List UInt8×PV)) (a b:AV):AO:=.box [.p (.mpv (kv.map (·.1)) (kv.map (·.2))),a,b] qxg
def trZ:AO:=.box [.p (.raw (.map none)),.p (.raw (.map none)),.p (.nl 1)] qxg
def tpD (il:List Itm):AV:=if topsF il=[] then .p (.nl 1) else .p (.sl 1 (strE (topsF il)))
def tpA (il:List Itm):AV:=if topsF il=[] then .p (.nl 1) else .row (.l 900)
structure TrJ (kv:List (List UInt8×PV)) (il:List Itm) (ts:List Nat) (L:Objs):Prop where
 h2:Zas L (.l 2)=some trZ
 h3:Zas L (.l 3)=some (trB kv (.mp (.l 8)) (tpA il))
 ht:topsF il≠[]→Zas L (.l 900)=some (.row (strE (topsF il)) tSt5 1 true)
 hm:Zas L (.l 8)=some (.mapv (kidR ts) tSt5 tSS)
 hl:∀ t∈ts,t < 20
 hd:ts.Nodup
 hk:∀ t,t < 20→(t∈ts↔kidsF il (pid t)≠[])
 hr:∀ t∈ts,Zas L (.l (1000+t))=some (.row (strE (kidsF il (pid t))) tSt5 1 true)
structure TrD (kv:List (List UInt8×PV)) (il:List Itm) (ts:List Nat) (L:Objs):Prop where
 h2:Zas L (.l 2)=some trZ
 h3:Zas L (.l 3)=some (trB kv (.p (.mpv ((kidP il ts).map (·.1)) ((kidP il ts).map (·.2)))) (tpD il))
 hl:∀ t∈ts,t < 20
 hd:ts.Nodup
 hk:∀ t,t < 20→(t∈ts↔kidsF il (pid t)≠[])
section
variable {E:Envt}
end
end Go.Proofs.YtehfjlpenlffmaaGreatDoor
