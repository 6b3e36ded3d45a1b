import Derived.Test.YtehfjlpenlffmaaGreatDoorZ10
import Derived.Test.YtehfjlpenlffmaaGreatDoorZ12
import Derived.Test.YtehfjlpenlffmaaGreatDoorZ7
import Derived.Test.YtehfjlpenlffmaaGreatDoorZ13
import Derived.Lib.Bytealg
set_option linter.unusedVariables false
set_option linter.unusedSimpArgs false
set_option linter.defProp false
namespace Go.Proofs.YtehfjlpenlffmaaGreatDoor
open Nat renaming reduceAdd→zd,reduceEqDiff→za,reduceLT→zf,reduceLeDiff→zb,reduceMul→ze
open List renaming mem_append→zJ,mem_singleton→zF
open Go.RowKit
section
variable {E:Envt}
end
def qaV:IC:=(.seq (sR [qM 7 2,qM 8 3,qT 9 .lss 7 8] (.cond (.t 9) .skip (.exit 0))) (.seq (.block 1 (.drg [qM 14 0,qM 15 2,qM 16 0,qM 17 3,qM 18 0,qM 19 3,qX 20 3 18 19,qO 21 (.ld 3 true (.t 20)),qM 22 0,qM 23 2,qX 24 3 22 23,qO 25 (.ld 3 true (.t 24)),qX 26 3 14 15,qS 3 26 21,qX 27 3 16 17,qS 3 27 25])) (.reg [qM 10 2,qB 11 .add 10 (cI 1),qM 12 3,qB 13 .sub 12 (cI 1),qM 2 11,qM 3 13])))
def qbd:IC:=(sR [qM 4 0,qN 5 4,qB 6 .sub 5 (cI 1),qO 2 (.mov (cI 0)),qM 3 6] (.block 0 (.loop qaV)))
def qba:List IRes:=[]
theorem qdm:chkF Tryz.prog Tryz.f70 qbd qba 28=true:=by kernel_rfl
def qbJ:IC:=(sR [qT 12 .lss 11 10] (.seq (.cond (.t 12) .skip (.exit 0)) (.seq (.block 1 (sR [qX 13 7 9 11,qO 14 (.ld 7 true (.t 13)),qO 7 (.alc 80 [.str [],.str [],.int .i64 0,.str [],.int .i64 0,.str [],.str []]),qS 7 7 14] (.seq (.drg [⟨none,.fz (.t 19),none⟩,⟨none,.hole 8,none⟩,qF 15 0 7,qO 16 (.ldl 1 false (.t 15)),qM 17 0,qO 18 (.bsl 1 [.c (.int .i64 1),.c (.int .i64 1),.c (.int .i64 2),.c (.int .i64 3)]),qO 19 (.dcall true 43 [.t 17,.t 18]),qO 20 (.bld [.str [],.int .i64 0,.nl 2] [(0,1,.t 16),(1,1,.t 19)]),qO 8 (.alcd 76 [.str [],.int .i64 0,.nl 2]),qS 3 8 20]) (.seq (sR [qF 21 1 8,qL 22 21,qB 23 .eql 22 (cI 1),qM 24 23,⟨some 25,.mov (.t 0),(some (24,true))⟩,⟨some 26,.call 9 [.t 25,.c (.int .i64 2)],(some (24,true))⟩,qO 27 (.pick (.t 24) (.t 26) (.c (.bool false)))] (.cond (.t 27) (.reg [qM 28 0,qF 29 6 7,qL 30 29,qO 31 (.sln (.t 30)),qO 32 (.call 130 [.t 28,.t 31]),qF 33 2 8,qS 1 33 32]) .skip)) (.cut (sR [qM 34 0,qO 35 (.call 9 [.t 34,.c (.int .i64 4)]),qO 36 (.not (.t 35))] (.cond (.t 36) (.reg [qM 37 5,qO 38 (.ld 3 true (.t 8)),qO 39 (.bsl 3 [.t 38]),qO 40 (.app 76 3 48 (.t 37) (.t 39)),qM 5 40]) .skip))))))) (.cut (.reg [qB 41 .add 11 (cI 1),qM 11 41])))))
def qcj:IC:=(sR [qO 4 (.mov (.c (.nl 3)))] (sR [qO 5 (.nilr 76 3)] (.seq (sR [qM 9 1,qN 10 9,qO 11 (.mov (cI 0))] (.block 0 (.loop qbJ))) (sR [qM 42 5,qM 4 42] .ret))))
def qcb:List IRes:=[.t 4]
theorem qe9:chkF Tryz.prog Tryz.f41 qcj qcb 43=true:=by kernel_rfl
abbrev tRul:Nat:=76
structure Rul where
 id:List UInt8
 what:Int
 spans:List (Int×Int)
def rlV (r:Rul):List PV:=[.str r.id,int r.what,.sl 2 (r.spans.map spn)]
def rlE (l:List Rul):List (List PV):=l.map rlV
theorem qay (l:List Rul):(rlE l).length=l.length:=by simp [rlE]
theorem qgj {l:List Rul} {k:Nat} {x:Rul} (h:l[k]?=some x):(rlE l).getD k []=[.str x.id,int x.what,.sl 2 (x.spans.map spn)]:=qas h
theorem qpt (l:List Rul) (i:List UInt8) (w:Int) (s:List (Int×Int)):rlE l++[[.str i,int w,.sl 2 (s.map spn)]]=rlE (l++[⟨i,w,s⟩]):=by simp [rlE,rlV]
theorem qqS (l:List Rul) (i:List UInt8) (w:Int):rlE l++[[.str i,int w,.sl 2 []]]=rlE (l++[⟨i,w,[]⟩]):=qpt l i w []
theorem qn4 (l:List Rul) (q:Nat) (i:List UInt8) (w:Int) (s:List (Int×Int)):(rlE l).set q [.str i,int w,.sl 2 (s.map spn)]=rlE (l.set q ⟨i,w,s⟩):=by
 show (rlE l).set q (rlV ⟨i,w,s⟩)=_
 simp [rlE]
structure RlM (N:Nat) (r:Rul):Prop where
 b1:r.id.length≤100
 b2:r.spans.length≤N
section
variable {E:Envt}
theorem qky (l:List Int) (k:Nat) (il:List Itm) (hil:il.length≤20) (hib:ItB il) (hk:k≤700000) (hl:l.length≤9223372036854775807) :
  qox Tryz.prog E 41 T (stm l k) [.sl 7 (itE il)] tRul 3 (fun es cs'=>∃ (o:List Rul) (k':Nat),es=rlE o∧o.length≤il.length∧(∀ r∈o,RlM 5 r)∧cs'=stm l k'∧k'≤k+1000):=by
 unfold qox
 refine qio mixed Tryz.func41 qe9 ?_
 simp only [a0,l0,OS.ao,List.map_cons,List.map_nil,List.length_cons,List.length_nil,List.cons_append,List.nil_append,Nat.reduceSub,zd,List.replicate_succ,List.replicate_zero,qcj,qcb,ZZ,WW,Zd,reduceCtorEq,zd,ze,zb,zf,za]
 have hR0:([]:List (List PV))=rlE []:=rfl
 rw [hR0]
 simp only [ZZ,WW,Zd,reduceCtorEq,zd,ze,zb,zf,za,qai]
 refine qad (fun n fr L=>∃ (i:Nat) (k':Nat) (o:List Rul),i≤il.length∧n=il.length - i∧(k'≤k+40 * i)∧(o.length≤i)∧(∀ r∈o,RlM 5 r)∧fr=(.adr (.b 0) 0::oo::oo::oo::oo::.row (.l 5)::oo::oo::oo::.p (.sl 7 (itE il))::.p (int (il.length:Nat))::.p (int (i:Nat))::oE (oD (oC (oB (oo::[])))))∧L=[(.b 0,.box ((stm l k').map .p) T),(.l 5,.row (rlE o) tRul 3 true)]) (il.length) (.adr (.b 0) 0::oo::oo::oo::oo::.row (.l 5)::oo::oo::oo::.p (.sl 7 (itE il))::.p (int (il.length:Nat))::.p (int (0:Nat))::oE (oD (oC (oB (oo::[]))))) [(.b 0,.box ((stm l k).map .p) T),(.l 5,.row (rlE []) tRul 3 true)] (by simp only [ZZ,WW,Zd,reduceCtorEq,zd,ze,zb,zf,za,qai];try trivial) (by (simp only [ZZ,WW,Zd,reduceCtorEq,zd,ze,zb,zf,za];try trivial)) ⟨0,k,[],by omega,by omega,by omega,Nat.le_refl _,(fun r hr=>by cases hr),rfl,rfl⟩ ?_
 rintro n fr L ⟨i,k',o,hi,rfl,hk',hol,hob,rfl,rfl⟩
 simp only [qbJ,ZZ,WW,Zd,reduceCtorEq,zd,ze,zb,zf,za]
 refine br ?_ ?_
 rotate_left
 ·intro h
  refine zS ?_
  exact qm5 5 _ (stm l k') rfl rfl rfl ⟨o,k',rfl,by omega,hob,rfl,by omega⟩
 intro h
 have hlt:i < il.length:=by have:=of_decide_eq_true h;omega
 obtain ⟨x,hx⟩:∃ x,il[i]?=some x:=⟨_,List.getElem?_eq_getElem hlt⟩
 have hg:=qbG hx
 obtain ⟨c1,c2,c3,c4,c5,c6,c7⟩:=hib x (List.mem_of_getElem? hx)
 obtain ⟨a1,a2,a3,a4,a5,a6,a7⟩:=x
 simp only [itC] at hg
 simp only at c1 c7
 clear c2 c3 c4 c5 c6
 simp only [ZZ,WW,Zd,reduceCtorEq,zd,ze,zb,zf,za,hg,qai]
 ((with_reducible and_intros)<;>try exact sc_)
 refine drg0 ?_
 refine zS ?_
 refine useD (qb8 l k' [1,1,2,3] (by omega) hl (by simp) (by simp)) ⟨_,_,1,rfl,by simp,rfl⟩ rfl rfl rfl zE_ (fun _=>⟨0,rfl⟩) ?_
 rintro x cs' ⟨w,rfl,hw,rfl⟩
 refine zS ?_
 refine qsb (fun hc=>?_) (fun hc=>?_)
 ·refine useS (qgp l (k'+1) 2 (by omega) hl (by decide)) rfl rfl rfl zE_ ?_
  rintro x cs' ⟨f2,rfl,rfl⟩
  simp only [ZZ,WW,Zd,reduceCtorEq,zd,ze,zb,zf,za,hc]
  refine br ?_ ?_
  ·intro _
   refine zS ?_
   refine qw6 (qs0 l (k'+1+1) a7.length (by omega) hl) rfl rfl rfl zE_ ?_
   rintro es cs' ⟨sp,k2,rfl,hsp,rfl,hk2⟩
   refine zS ?_
   refine qa1 _ _ (qbO (k:=.l 32) rfl) ?_
   refine zS ?_
   refine useS (qgp l (k2) 4 (by omega) hl (by decide)) rfl rfl rfl zE_ ?_
   rintro x cs' ⟨b9,rfl,rfl⟩
   refine zS ?_
   refine br ?_ ?_
   ·intro _
    simp only [ZZ,WW,Zd,reduceCtorEq,zd,ze,zb,zf,za,qay]
    ((with_reducible and_intros)<;>try exact sc_)
    refine qal zE_ ?_
    refine zS ?_
    ((with_reducible and_intros)<;>try exact sc_)
    rw [qpt o a1 w sp]
    refine qac (il.length - (i+1)) _ _ (by omega) (by (simp only [ZZ,WW,Zd,reduceCtorEq,zd,ze,zb,zf,za];try trivial)) (by (simp only [ZZ,WW,Zd,reduceCtorEq,zd,ze,zb,zf,za];try trivial)) ⟨i+1,k2+1,o++[⟨a1,w,sp⟩],by omega,rfl,by omega,by simp;omega,by intro r hr;rcases zJ.1 hr with hr|hr;exact hob r hr;rw [zF] at hr;subst hr;exact ⟨c1,hsp⟩,rfl,rfl⟩
   ·intro _
    refine zS ?_
    refine qal zE_ ?_
    refine zS ?_
    ((with_reducible and_intros)<;>try exact sc_)
    refine qac (il.length - (i+1)) _ _ (by omega) (by (simp only [ZZ,WW,Zd,reduceCtorEq,zd,ze,zb,zf,za];try trivial)) (by (simp only [ZZ,WW,Zd,reduceCtorEq,zd,ze,zb,zf,za];try trivial)) ⟨i+1,k2+1,o,by omega,rfl,by omega,by omega,hob,rfl,rfl⟩
  ·intro _
   refine zS ?_
   refine qal zE_ ?_
   refine zS ?_
   refine useS (qgp l (k'+1+1) 4 (by omega) hl (by decide)) rfl rfl rfl zE_ ?_
   rintro x cs' ⟨b9,rfl,rfl⟩
   refine zS ?_
   refine br ?_ ?_
   ·intro _
    simp only [ZZ,WW,Zd,reduceCtorEq,zd,ze,zb,zf,za,qay]
    ((with_reducible and_intros)<;>try exact sc_)
    refine qal zE_ ?_
    refine zS ?_
    ((with_reducible and_intros)<;>try exact sc_)
    rw [qqS o a1 w]
    refine qac (il.length - (i+1)) _ _ (by omega) (by (simp only [ZZ,WW,Zd,reduceCtorEq,zd,ze,zb,zf,za];try trivial)) (by (simp only [ZZ,WW,Zd,reduceCtorEq,zd,ze,zb,zf,za];try trivial)) ⟨i+1,k'+1+1+1,o++[⟨a1,w,[]⟩],by omega,rfl,by omega,by simp;omega,by intro r hr;rcases zJ.1 hr with hr|hr;exact hob r hr;rw [zF] at hr;subst hr;exact ⟨c1,by simp⟩,rfl,rfl⟩
   ·intro _
    refine zS ?_
    refine qal zE_ ?_
    refine zS ?_
    ((with_reducible and_intros)<;>try exact sc_)
    refine qac (il.length - (i+1)) _ _ (by omega) (by (simp only [ZZ,WW,Zd,reduceCtorEq,zd,ze,zb,zf,za];try trivial)) (by (simp only [ZZ,WW,Zd,reduceCtorEq,zd,ze,zb,zf,za];try trivial)) ⟨i+1,k'+1+1+1,o,by omega,rfl,by omega,by omega,hob,rfl,rfl⟩
 ·simp only [ZZ,WW,Zd,reduceCtorEq,zd,ze,zb,zf,za,hc]
  refine qal zE_ ?_
  refine zS ?_
  refine useS (qgp l (k'+1) 4 (by omega) hl (by decide)) rfl rfl rfl zE_ ?_
  rintro x cs' ⟨b9,rfl,rfl⟩
  refine zS ?_
  refine br ?_ ?_
  ·intro _
   simp only [ZZ,WW,Zd,reduceCtorEq,zd,ze,zb,zf,za,qay]
   ((with_reducible and_intros)<;>try exact sc_)
   refine qal zE_ ?_
   refine zS ?_
   ((with_reducible and_intros)<;>try exact sc_)
   rw [qqS o a1 w]
   refine qac (il.length - (i+1)) _ _ (by omega) (by (simp only [ZZ,WW,Zd,reduceCtorEq,zd,ze,zb,zf,za];try trivial)) (by (simp only [ZZ,WW,Zd,reduceCtorEq,zd,ze,zb,zf,za];try trivial)) ⟨i+1,k'+1+1,o++[⟨a1,w,[]⟩],by omega,rfl,by omega,by simp;omega,by intro r hr;rcases zJ.1 hr with hr|hr;exact hob r hr;rw [zF] at hr;subst hr;exact ⟨c1,by simp⟩,rfl,rfl⟩
  ·intro _
   refine zS ?_
   refine qal zE_ ?_
   refine zS ?_
   ((with_reducible and_intros)<;>try exact sc_)
   refine qac (il.length - (i+1)) _ _ (by omega) (by (simp only [ZZ,WW,Zd,reduceCtorEq,zd,ze,zb,zf,za];try trivial)) (by (simp only [ZZ,WW,Zd,reduceCtorEq,zd,ze,zb,zf,za];try trivial)) ⟨i+1,k'+1+1,o,by omega,rfl,by omega,by omega,hob,rfl,rfl⟩
end
end Go.Proofs.YtehfjlpenlffmaaGreatDoor
namespace Go.Proofs.YtehfjlpenlffmaaGreatDoor
structure CmpP {α:Type} (c:α→α→Int):Prop where
 anti:∀ x y,c x y < 0↔0 < c y x
 tr:∀ x y z,c x y≤0→c y z≤0→c x z≤0
def ltC {α:Type} (c:α→α→Int) (x y:α):Bool:=decide (c x y < 0)
def orC {α:Type} (c d:α→α→Int) (x y:α):Int:=if c x y=0 then d x y else c x y
section
variable {α β:Type} {c d:α→α→Int}
theorem CmpP.ord (h:CmpP c):OrdP (ltC c) where
 asym x y h1:=by
  simp only [ltC,decide_eq_true_eq,decide_eq_false_iff_not] at *
  have:=h.anti x y
  omega
 ntr x y z h1 h2:=by
  simp only [ltC,decide_eq_false_iff_not] at *
  have a1:=h.anti x y
  have a2:=h.anti y z
  have a3:=h.anti x z
  have a4:=h.anti y x
  have a5:=h.anti z y
  have:=h.tr z y x
  omega
theorem CmpP.or (h:CmpP c) (k:CmpP d):CmpP (orC c d) where
 anti x y:=by
  have a1:=h.anti x y
  have a2:=h.anti y x
  have a3:=k.anti x y
  unfold orC
  split<;>split<;>omega
 tr x y z:=by
  have a1:=h.anti x y
  have a2:=h.anti y x
  have a3:=h.anti y z
  have a4:=h.anti z y
  have a5:=h.anti x z
  have a6:=h.anti z x
  have t1:=h.tr x y z
  have t2:=h.tr y z x
  have t3:=h.tr z x y
  have t4:=h.tr z y x
  have t5:=k.tr x y z
  unfold orC
  intro h1 h2
  split at h1<;>split at h2<;>split<;>omega
theorem CmpP.zero:CmpP (fun (_ _:α)=>(0:Int)):=⟨fun _ _=>by omega,fun _ _ _ _ _=>by omega⟩
theorem CmpP.on (f:β→α) (h:CmpP c):CmpP (fun x y=>c (f x) (f y)):=⟨fun _ _=>h.anti _ _,fun _ _ _=>h.tr _ _ _⟩
theorem CmpP.sub:CmpP (fun (x y:Int)=>x - y):=⟨fun _ _=>by omega,fun _ _ _ _ _=>by omega⟩
end
theorem qon:∀ a b:List UInt8,Lib.compareBytes a b=- Lib.compareBytes b a
 |[],[]=>rfl
 |[],_ :: _=>rfl
 |_ :: _,[]=>rfl
 |a :: r,b :: s=>by
  have ih:=qon r s
  simp only [Lib.compareBytes,UInt8.lt_iff_toNat_lt]
  by_cases p1:a.toNat < b.toNat<;>by_cases p2:b.toNat < a.toNat<;>simp only [p1,p2,if_true,if_false]<;>omega
theorem qsR:∀ {a b:List UInt8},Lib.compareBytes a b=0→a=b
 |[],[],_=>rfl
 |[],_ :: _,h=>by cases h
 |_ :: _,[],h=>by cases h
 |a :: r,b :: s,h=>by
  simp only [Lib.compareBytes,UInt8.lt_iff_toNat_lt] at h
  by_cases p1:a.toNat < b.toNat
  ·rw [if_pos p1] at h;cases h
  by_cases p2:b.toNat < a.toNat
  ·rw [if_neg p1,if_pos p2] at h;cases h
  rw [if_neg p1,if_neg p2] at h
  rw [qsR h,UInt8.toNat_inj.1 (show a.toNat=b.toNat by omega)]
theorem qA4:∀ a b c:List UInt8,Lib.compareBytes a b≤0→Lib.compareBytes b c≤0→Lib.compareBytes a c≤0
 |[],_,[],_,_=>by decide
 |[],_,_ :: _,_,_=>by simp [Lib.compareBytes]
 |_ :: _,[],_,h,_=>by simp [Lib.compareBytes] at h
 |_ :: _,_ :: _,[],_,h=>by simp [Lib.compareBytes] at h
 |a :: r,b :: s,c :: t,h1,h2=>by
  have ih:=qA4 r s t
  simp only [Lib.compareBytes,UInt8.lt_iff_toNat_lt] at h1 h2 ⊢
  by_cases p1:a.toNat < b.toNat<;>by_cases p2:b.toNat < a.toNat<;>by_cases q1:b.toNat < c.toNat<;>by_cases q2:c.toNat < b.toNat<;>by_cases r1:a.toNat < c.toNat<;>by_cases r2:c.toNat < a.toNat<;>simp only [p1,p2,q1,q2,r1,r2,if_true,if_false] at h1 h2 ⊢<;>first|omega|exact ih h1 h2
theorem CmpP.cb:CmpP Lib.compareBytes:=⟨fun x y=>by have:=qon x y;omega,qA4⟩
theorem qA5 (a:List UInt8):Lib.compareBytes a a=0:=by have:=qon a a;omega
end Go.Proofs.YtehfjlpenlffmaaGreatDoor
namespace Go.Proofs.YtehfjlpenlffmaaGreatDoor
open Nat renaming reduceAdd→zd,reduceEqDiff→za,reduceLT→zf,reduceLeDiff→zb,reduceMul→ze,reduceSub→zu
open List renaming append_assoc→ym,append_nil→yo,cons_append→zl,getElem?_eq_getElem→zg,getElem?_of_mem→zR,length_cons→zi,length_nil→zo,map_append→zO,map_congr_left→zQ,map_cons→zk,map_map→z7,map_nil→zr,mem_singleton→zF,nil_append→zm,replicate_succ→zh,replicate_zero→zj
open Bool renaming not_eq_true'→zW
open Option renaming getD_some→yt,map_some→zL
open Go.RowKit
def getI (il:List Itm) (s:List UInt8):Option Itm:=il.find? fun x=>decide (x.1=s)
def rl0:Rul:=⟨[],0,[]⟩
def ruE (il:List Itm) (l:List Rul) (k:Nat):Int:=
 let r:=l.getD k rl0
 qaf [qah (getI il r.id).isNone 8,qah (decide (0 < k) && (bytesLess r.id (l.getD (k - 1) rl0).id || decide (r.id=(l.getD (k - 1) rl0).id))) 7,qah (!inE r.what 1 3) 4,qah (decide (0 < r.spans.length) && !decide (r.what=1)) 3,qb9 r.spans (((getI il r.id).getD it0).2.2.2.2.2.2.length:Nat)]
def rulF (il:List Itm) (l:List Rul):Int:=if 2000 < l.length then 2 else qaf ((List.range l.length).map (ruE il l))
theorem qvj (il:List Itm) (l:List Rul) {k:Nat} (h:k < l.length):((List.range l.length).map (ruE il l))[k]?=some (ruE il l k):=by
 rw [List.getElem?_map,List.getElem?_range h];rfl
def rlOf (l:List Rul) (s:List UInt8):Rul:=(l.find? fun r=>decide (r.id=s)).getD ⟨s,3,[]⟩
def qnf (l:List Rul) (s:List UInt8):Bool:=decide ((rlOf l s).what=1)
def chT (il:List Itm) (l:List Rul):List (List UInt8):=(topsF il).filter fun s=>(s :: kidsF il s).any (qnf l)
def encF (il:List Itm) (s:List UInt8):List PV:=[.str s,.sl 1 (strE (s :: kidsF il s))]
theorem qx8 (il:List Itm):(famF il).map (fun f=>[PV.str f.1,.sl 1 (strE f.2)])=(topsF il).map (encF il):=by
 unfold famF
 rw [z7]
 rfl
def itOf (il:List Itm) (s:List UInt8):Itm:=(getI il s).getD it0
def whoC (il:List Itm) (order:Int) (s t:List UInt8):Int:=if order=3 then Lib.compareBytes (itOf il s).2.1 (itOf il t).2.1 else 0
def qsa (il:List Itm) (order:Int) (s t:List UInt8):Int:=if order=1 then 0 else (itOf il s).2.2.2.2.1 - (itOf il t).2.2.2.2.1
def sgnI (a b:Int):Int:=if a < b then -1 else if b < a then 1 else 0
def qzk (il:List Itm) (order:Int) (s t:List UInt8):Int:=if order=1 then 0 else sgnI (itOf il s).2.2.2.2.1 (itOf il t).2.2.2.2.1
def cfP (il:List Itm) (order:Int):List UInt8→List UInt8→Int:=orC (whoC il order) (orC (qsa il order) Lib.compareBytes)
def cfR (il:List Itm) (order:Int):List UInt8→List UInt8→Int:=orC (whoC il order) (orC (qzk il order) Lib.compareBytes)
theorem qwx (il:List Itm) (order:Int):ltC (cfP il order)=ltC (cfR il order):=by
 funext s t
 unfold ltC cfP cfR orC qsa qzk sgnI
 rw [decide_eq_decide]
 by_cases h1:whoC il order s t=0
 ·rw [if_pos h1,if_pos h1]
  by_cases h2:order=1
  ·rw [if_pos h2,if_pos h2]
  ·rw [if_neg h2,if_neg h2]
   generalize (itOf il s).2.2.2.2.1=a
   generalize (itOf il t).2.2.2.2.1=b
   by_cases p1:a < b
   ·rw [if_pos p1,if_neg (by omega),if_neg (by omega)]
    omega
   ·rw [if_neg p1]
    by_cases p2:b < a
    ·rw [if_pos p2,if_neg (by omega),if_neg (by omega)]
     omega
    ·rw [if_neg p2,if_pos (by omega),if_pos rfl]
 ·rw [if_neg h1,if_neg h1]
theorem qom (il:List Itm) (order:Int):CmpP (cfP il order):=by
 refine CmpP.or ?_ (CmpP.or ?_ CmpP.cb)
 ·by_cases h:order=3
  ·have:whoC il order=fun s t=>Lib.compareBytes (itOf il s).2.1 (itOf il t).2.1:=by funext s t;rw [whoC,if_pos h]
   rw [this]
   exact CmpP.cb.on fun s=>(itOf il s).2.1
  ·have:whoC il order=fun s t=>0:=by funext s t;rw [whoC,if_neg h]
   rw [this]
   exact CmpP.zero
 ·by_cases h:order=1
  ·have:qsa il order=fun s t=>0:=by funext s t;rw [qsa,if_pos h]
   rw [this]
   exact CmpP.zero
  ·have:qsa il order=fun s t=>(itOf il s).2.2.2.2.1 - (itOf il t).2.2.2.2.1:=by funext s t;rw [qsa,if_neg h]
   rw [this]
   exact CmpP.sub.on fun s=>(itOf il s).2.2.2.2.1
theorem qA3 (il:List Itm) (order:Int) (s t:List UInt8) (h1:ltC (cfP il order) s t=false) (h2:ltC (cfP il order) t s=false):s=t:=by
 have a1:=(qom il order).anti s t
 have a2:=(qom il order).anti t s
 simp only [ltC,decide_eq_false_iff_not] at h1 h2
 have h0:cfP il order s t=0:=by omega
 unfold cfP orC at h0
 split at h0
 ·split at h0
  ·exact qsR h0
  ·rename_i h;exact absurd h0 h
 ·rename_i h;exact absurd h0 h
def chS (il:List Itm) (l:List Rul) (order:Int):List (List UInt8):=(chT il l).mergeSort fun s t=>!ltC (cfP il order) t s
theorem quh {α:Type} {lt:α→α→Bool} (hO:OrdP lt) (l:List α):SrtP lt (l.mergeSort fun s t=>!lt t s):=by
 have:=List.pairwise_mergeSort (le:=fun s t=>!lt t s) (fun a b c h1 h2=>by
  simp only [zW] at *
  exact hO.ntr _ _ _ h2 h1) (fun a b=>by
  simp only [Bool.or_eq_true,zW]
  cases h:lt b a with
  |false=>exact .inl rfl
  |true=>exact .inr (hO.asym _ _ h)) l
 exact this.imp fun h=>by simpa using h
theorem qt3 {il:List Itm} {l:List Rul} {order:Int} {o:List (List UInt8)} (hp:o.Perm (chT il l)) (hs:SrtP (ltC (cfP il order)) o):o=chS il l order:=
 qtm (qA3 il order) (hp.trans (List.mergeSort_perm _ _).symm) hs (quh (qom il order).ord _)
theorem qx3 {il:List Itm} (h:qaP il) (s:List UInt8):il.reverse.find? (fun x=>decide (x.1=s))=getI il s:=by
 have h20:=h.1
 cases hf:getI il s with
 |none=>
  unfold getI at hf
  rw [List.find?_eq_none] at hf ⊢
  intro x hx
  exact hf x (List.mem_reverse.1 hx)
 |some y=>
  have h1:=List.find?_some hf
  have h2:=List.mem_of_find?_eq_some hf
  obtain ⟨j,hj⟩:=zR h2
  rw [decide_eq_true_eq,(h.2 j y hj).b1] at h1
  rw [← h1]
  exact qnz h hj
theorem qob {il:List Itm} (h:qaP il) {s:List UInt8} {y:Itm} (hf:getI il s=some y):∃ j,il[j]?=some y∧s=pid j:=by
 have h1:=List.find?_some hf
 have h2:=List.mem_of_find?_eq_some hf
 obtain ⟨j,hj⟩:=zR h2
 rw [decide_eq_true_eq,(h.2 j y hj).b1] at h1
 exact ⟨j,hj,h1.symm⟩
theorem qwf {il:List Itm} {s:List UInt8} (hf:getI il s=none):∀ x∈il,decide (x.1=s)=false:=by
 unfold getI at hf
 rw [List.find?_eq_none] at hf
 intro x hx
 simpa using hf x hx
def qic:IC:=(sR [qT 91 .lss 90 89] (.seq (.cond (.t 91) .skip (.exit 6)) (.seq (.block 7 (sR [qX 92 7 88 90,qO 93 (.ld 7 true (.t 92)),qO 16 (.alc 80 [.str [],.str [],.int .i64 0,.str [],.int .i64 0,.str [],.str []]),qS 7 16 93] (sR [qM 94 6,qO 95 (.ld 7 true (.t 16)),qO 96 (.call 160 [.t 94,.t 95]),qM 17 96] (sR [qM 97 17,qB 98 .neq 97 (cI 0)] (.cond (.t 98) (sR [qM 99 17,qM 2 99] .ret) .skip))))) (.reg [qB 100 .add 90 (cI 1),qM 90 100]))))
def qid:IC:=(sR [qT 77 .lss 76 75] (.seq (.cond (.t 77) .skip (.exit 4)) (.seq (.block 5 (sR [qX 78 7 74 76,qO 79 (.ld 7 true (.t 78)),qO 12 (.alc 80 [.str [],.str [],.int .i64 0,.str [],.int .i64 0,.str [],.str []]),qS 7 12 79] (sR [qM 81 6,qO 82 (.ld 7 true (.t 12)),qO 83 (.call 159 [.t 81,.t 82]),qM 80 83,qO 84 (.ext 0 (.t 80)),qO 85 (.ext 1 (.t 80)),qM 13 84,qM 14 85] (sR [qM 86 14] (.cond (.t 86) (sR [qO 2 (.mov (cI 14))] .ret) .skip))))) (.reg [qB 87 .add 76 (cI 1),qM 76 87]))))
def qie:IC:=(sR [qT 56 .lss 55 54] (.seq (.cond (.t 56) .skip (.exit 2)) (.seq (.block 3 (sR [qX 57 7 53 55,qO 58 (.ld 7 true (.t 57)),qO 8 (.alc 80 [.str [],.str [],.int .i64 0,.str [],.int .i64 0,.str [],.str []]),qS 7 8 58] (sR [qM 60 6,qF 61 5 8,qL 62 61,qO 63 (.mpl true (.agg [.str [],.str [],.int .i64 0,.str [],.int .i64 0,.str [],.str []]) (.t 60) (.t 62)),qM 59 63,qO 64 (.ext 0 (.t 59)),qO 65 (.ext 1 (.t 59)),qO 9 (.alc 80 [.str [],.str [],.int .i64 0,.str [],.int .i64 0,.str [],.str []]),qS 7 9 64,qM 10 65] (sR [qF 66 5 8,qL 67 66,qB 68 .neq 67 (.c (.str [])),qM 69 68,⟨some 70,.mov (.t 10),(some (69,true))⟩,⟨some 71,.not (.t 70),(some (69,true))⟩,qO 72 (.pick (.t 69) (.t 71) (.c (.bool false)))] (.cond (.t 72) (sR [qO 2 (.mov (cI 8))] .ret) .skip))))) (.reg [qB 73 .add 55 (cI 1),qM 55 73]))))
def qif:IC:=(sR [qT 24 .lss 23 22] (.seq (.cond (.t 24) .skip (.exit 0)) (.seq (.block 1 (sR [qM 25 23,qX 26 7 21 23,qO 27 (.ld 7 true (.t 26)),qO 4 (.alc 80 [.str [],.str [],.int .i64 0,.str [],.int .i64 0,.str [],.str []]),qM 3 25,qS 7 4 27] (.seq (.drg [qO 28 (.ld 7 true (.t 4)),qO 29 (.pcall 0 157 [.t 28]),qM 30 3,qB 31 .gtr 30 (cI 0),qM 32 31,⟨some 33,.fla 0 (.t 4),(some (32,true))⟩,⟨some 34,.ld 1 false (.t 33),(some (32,true))⟩,⟨some 35,.mov (.t 0),(some (32,true))⟩,⟨some 36,.mov (.t 3),(some (32,true))⟩,⟨some 37,.mx (.t 36) (cI 1),(some (32,true))⟩,⟨some 38,.bin .sub (.t 37) (cI 1),(some (32,true))⟩,⟨some 39,.ixa 7 (.t 35) (.t 38),(some (32,true))⟩,⟨some 40,.fla 0 (.t 39),(some (32,true))⟩,⟨some 41,.ld 1 false (.t 40),(some (32,true))⟩,⟨some 42,.bin .leq (.t 34) (.t 41),(some (32,true))⟩,qO 43 (.pick (.t 32) (.t 42) (.c (.bool false))),qO 44 (.pcall 1 50 [.t 43,.c (.int .i64 7)]),qO 45 (.bsl 1 [.t 29,.t 44]),qO 46 (.pcall 2 49 [.t 45]),qM 5 46]) (sR [qM 47 5,qB 48 .neq 47 (cI 0)] (.cond (.t 48) (sR [qM 49 5,qM 2 49] .ret) .skip))))) (.reg [qB 50 .add 23 (cI 1),qM 23 50]))))
def qkd:IC:=(sR [qO 2 (.mov (cI 0))] (.seq (sR [qM 18 0,qN 19 18,qB 20 .gtr 19 (cI 2000)] (.cond (.t 20) (sR [qO 2 (.mov (cI 2))] .ret) .skip)) (.seq (sR [qM 21 0,qN 22 21,qO 23 (.mov (cI 0))] (.block 0 (.loop qif))) (sR [qM 51 0,qO 52 (.call 158 [.t 51]),qM 6 52] (.seq (sR [qM 53 0,qN 54 53,qO 55 (.mov (cI 0))] (.block 2 (.loop qie))) (.seq (sR [qM 74 0,qN 75 74,qO 76 (.mov (cI 0))] (.block 4 (.loop qid))) (.seq (sR [qM 88 0,qN 89 88,qO 90 (.mov (cI 0))] (.block 6 (.loop qic))) (sR [qO 2 (.mov (cI 0))] .ret))))))))
def qjX:List IRes:=[.t 2]
theorem qoj:chkF Tryz.prog Tryz.f77 qkd qjX 101=true:=by kernel_rfl
theorem qBT:∀ i j:Fin 26,i < j→(bytesLess (pid j.val) (pid i.val) || decide (pid j.val=pid i.val))=false:=by decide +kernel
set_option maxHeartbeats 2000000 in
set_option maxRecDepth 100000 in
theorem qrZ (il:List Itm) (hP:qaP il):PCall Tryz.prog E0 77 [.sl 7 (itE il)] (·=int 0):=by
 have h20:=hP.1
 refine qae mixed Tryz.func77 qoj ?_
 simp only [a0,l0,OS.ao,zk,zr,zi,zo,zl,zm,zu,zd,zh,zj,qkd,qjX,ZZ,WW,Zd,reduceCtorEq,zd,ze,zb,zf,za]
 simp only [ZZ,WW,Zd,reduceCtorEq,zd,ze,zb,zf,za,qai]
 have h2000:decide (2000 < (il.length:Int))=false:=by rw [decide_eq_false_iff_not];omega
 rw [h2000]
 refine br (fun h=>by cases h) ?_
 intro _
 simp only [ZZ,WW,Zd,reduceCtorEq,zd,ze,zb,zf,za,qai]
 refine qad (fun n fr L=>∃ (k:Nat),k≤il.length∧n=il.length - k∧fr=(.p (.sl 7 (itE il))::oE (oC (.p (.sl 7 (itE il))::.p (int (il.length:Nat))::.p (int (k:Nat))::oG (oD (oC (oo::[]))))))∧L=[]) (il.length) _ [] (by simp only [ZZ,WW,Zd,reduceCtorEq,zd,ze,zb,zf,za,qai];try trivial) (by (simp only [ZZ,WW,Zd,reduceCtorEq,zd,ze,zb,zf,za];try trivial)) ⟨0,by omega,by omega,rfl,rfl⟩ ?_
 rintro n fr L ⟨k,hk,rfl,rfl,rfl⟩
 simp only [qif,ZZ,WW,Zd,reduceCtorEq,zd,ze,zb,zf,za]
 refine br ?_ ?_
 ·intro h
  have hlt:k < il.length:=by have:=of_decide_eq_true h;omega
  obtain ⟨x,hx⟩:∃ x,il[k]?=some x:=⟨_,zg hlt⟩
  have hg:=qbG hx
  obtain ⟨hz,hS⟩:=(hP.2 k x hx).right (by omega)
  have hci:=qr5 x hS
  rw [hz] at hci
  simp only [itC] at hg hci
  rcases Nat.eq_zero_or_pos k with hk0|hk0
  ·simp only [ZZ,WW,Zd,reduceCtorEq,zd,ze,zb,zf,za,hg,qai]
   ((with_reducible and_intros)<;>try exact sc_)
   refine drg3 (x1:=int 0) (x2:=int 0) (x3:=int 0) ?_
   have e0:(max (k:Int) 1 - 1)=((0:Nat):Int):=by omega
   have z0:decide ((0:Int) < (k:Int))=false:=by rw [decide_eq_false_iff_not];omega
   have hg0:=hg
   rw [hk0] at hg0
   simp only [ZZ,WW,Zd,reduceCtorEq,zd,ze,zb,zf,za,hg,hg0,qai,e0,z0]
   refine ⟨usep hci rfl (.inl rfl),fun h=>h.elim,fun h=>h.elim,fun h=>h.elim,usep (qav false 7) rfl (.inl rfl),usep (qbK [0,0] (by simp)) rfl (.inl rfl),?_⟩
   refine br (fun h=>by simp at h) ?_
   intro _
   refine zS ?_
   ((with_reducible and_intros)<;>try exact sc_)
   refine qac (il.length - (k+1)) _ [] (by omega) (by (simp only [ZZ,WW,Zd,reduceCtorEq,zd,ze,zb,zf,za];try trivial)) (by (simp only [ZZ,WW,Zd,reduceCtorEq,zd,ze,zb,zf,za];try trivial)) ⟨k+1,by omega,rfl,rfl,rfl⟩
  ·obtain ⟨q,hkq⟩:∃ q,k=q+1:=⟨k - 1,by omega⟩
   obtain ⟨y,hy⟩:∃ y,il[q]?=some y:=⟨_,zg (by omega)⟩
   have hgy:=qbG hy
   simp only [itC] at hgy
   have e1:(max (k:Int) 1 - 1)=((q:Nat):Int):=by omega
   simp only [ZZ,WW,Zd,reduceCtorEq,zd,ze,zb,zf,za,hg,qai]
   ((with_reducible and_intros)<;>try exact sc_)
   refine drg3 (x1:=int 0) (x2:=int 0) (x3:=int 0) ?_
   have z1:decide ((0:Int) < (k:Int))=true:=by rw [decide_eq_true_eq];omega
   have hle:(bytesLess x.1 y.1 || decide (x.1=y.1))=false:=by
    rw [(hP.2 _ x hx).b1,(hP.2 _ y hy).b1]
    exact qBT ⟨q,by omega⟩ ⟨k,by omega⟩ (by simp [Fin.lt_def];omega)
   simp only [ZZ,WW,Zd,reduceCtorEq,zd,ze,zb,zf,za,hg,hgy,qai,e1,z1,hle]
   refine ⟨usep hci rfl (.inl rfl),qan (by omega) (by omega),⟨by omega,by omega⟩,by omega,usep (qav false 7) rfl (.inl rfl),usep (qbK [0,0] (by simp)) rfl (.inl rfl),?_⟩
   refine br (fun h=>by simp at h) ?_
   intro _
   refine zS ?_
   ((with_reducible and_intros)<;>try exact sc_)
   refine qac (il.length - (k+1)) _ [] (by omega) (by (simp only [ZZ,WW,Zd,reduceCtorEq,zd,ze,zb,zf,za];try trivial)) (by (simp only [ZZ,WW,Zd,reduceCtorEq,zd,ze,zb,zf,za];try trivial)) ⟨k+1,by omega,rfl,rfl,rfl⟩
 intro h
 clear h
 refine zS ?_
 refine use (qwB il (by omega)) rfl (.inl rfl) ?_
 rintro _ ⟨kv,rfl,hkv,hkn⟩
 simp only [ZZ,WW,Zd,reduceCtorEq,zd,ze,zb,zf,za,qai]
 refine qad (fun n fr L=>∃ (k:Nat),k≤il.length∧n=il.length - k∧fr=(.p (.sl 7 (itE il))::oC (oo::(.p (.mpv (kv.map (·.1)) (kv.map (·.2)))::oF (oD (oC (oB (.p (.sl 7 (itE il))::.p (int (il.length:Nat))::.p (int (k:Nat))::oF (oD (oC (oo::[]))))))))))∧L=[]) (il.length) _ [] (by simp only [ZZ,WW,Zd,reduceCtorEq,zd,ze,zb,zf,za,qai];try trivial) (by (simp only [ZZ,WW,Zd,reduceCtorEq,zd,ze,zb,zf,za];try trivial)) ⟨0,by omega,by omega,rfl,rfl⟩ ?_
 rintro n fr L ⟨k,hk,rfl,rfl,rfl⟩
 simp only [qie,ZZ,WW,Zd,reduceCtorEq,zd,ze,zb,zf,za]
 refine br ?_ ?_
 ·intro h
  have hlt:k < il.length:=by have:=of_decide_eq_true h;omega
  obtain ⟨x,hx⟩:∃ x,il[k]?=some x:=⟨_,zg hlt⟩
  have hg:=qbG hx
  have hp:=hP.2 k x hx
  simp only [itC] at hg
  by_cases hq:x.2.2.2.2.2.1=[]
  ·have hno2:mpF kv x.2.2.2.2.2.1=none:=by rw [hq,hkv [],qpM hP];rfl
   have hq2:decide (x.2.2.2.2.2.1=[])=true:=by simpa using hq
   simp only [ZZ,WW,Zd,reduceCtorEq,zd,ze,zb,zf,za,hg,qai,qdc,mpD,hno2,Option.getD_none,Option.isSome_none,hq2]
   ((with_reducible and_intros)<;>try exact sc_)
   refine qac (il.length - (k+1)) _ [] (by omega) (by (simp only [ZZ,WW,Zd,reduceCtorEq,zd,ze,zb,zf,za];try trivial)) (by (simp only [ZZ,WW,Zd,reduceCtorEq,zd,ze,zb,zf,za];try trivial)) ⟨k+1,by omega,rfl,rfl,rfl⟩
  ·obtain ⟨j,y,hj,hy,hy1,hy2,hpj⟩:=hp.b6.resolve_left hq
   have hf:mpF kv x.2.2.2.2.2.1=some (.agg (itC y)):=by rw [hpj,hkv,qnz hP hy];rfl
   have hq2:decide (x.2.2.2.2.2.1=[])=false:=by simpa using hq
   simp only [itC] at hf
   simp only [ZZ,WW,Zd,reduceCtorEq,zd,ze,zb,zf,za,hg,qai,qdc,mpD,hf,yt,Option.isSome_some,hq2]
   ((with_reducible and_intros)<;>try exact sc_)
   refine qac (il.length - (k+1)) _ [] (by omega) (by (simp only [ZZ,WW,Zd,reduceCtorEq,zd,ze,zb,zf,za];try trivial)) (by (simp only [ZZ,WW,Zd,reduceCtorEq,zd,ze,zb,zf,za];try trivial)) ⟨k+1,by omega,rfl,rfl,rfl⟩
 intro h
 clear h
 simp only [ZZ,WW,Zd,reduceCtorEq,zd,ze,zb,zf,za,qai]
 refine qad (fun n fr L=>∃ (k:Nat),k≤il.length∧n=il.length - k∧fr=(.p (.sl 7 (itE il))::oC (oo::(.p (.mpv (kv.map (·.1)) (kv.map (·.2)))::oG (oB (oo::(.p (.sl 7 (itE il))::.p (int (il.length:Nat))::.p (int (k:Nat))::oE (oD [])))))))∧L=[]) (il.length) _ [] (by simp only [ZZ,WW,Zd,reduceCtorEq,zd,ze,zb,zf,za,qai];try trivial) (by (simp only [ZZ,WW,Zd,reduceCtorEq,zd,ze,zb,zf,za];try trivial)) ⟨0,by omega,by omega,rfl,rfl⟩ ?_
 rintro n fr L ⟨k,hk,rfl,rfl,rfl⟩
 simp only [qid,ZZ,WW,Zd,reduceCtorEq,zd,ze,zb,zf,za]
 refine br ?_ ?_
 ·intro h
  have hlt:k < il.length:=by have:=of_decide_eq_true h;omega
  obtain ⟨x,hx⟩:∃ x,il[k]?=some x:=⟨_,zg hlt⟩
  have hg:=qbG hx
  have hab:=qua (E:=E0) il hP kv hkv (by omega) k x hx
  simp only [itC] at hg hab
  simp only [ZZ,WW,Zd,reduceCtorEq,zd,ze,zb,zf,za,hg,qai]
  ((with_reducible and_intros)<;>try exact sc_)
  refine use hab rfl (.inl rfl) ?_
  rintro _ ⟨c,hc,rfl⟩
  refine zS ?_
  ((with_reducible and_intros)<;>try exact sc_)
  refine qac (il.length - (k+1)) _ [] (by omega) (by (simp only [ZZ,WW,Zd,reduceCtorEq,zd,ze,zb,zf,za];try trivial)) (by (simp only [ZZ,WW,Zd,reduceCtorEq,zd,ze,zb,zf,za];try trivial)) ⟨k+1,by omega,rfl,rfl,rfl⟩
 intro h
 clear h
 simp only [ZZ,WW,Zd,reduceCtorEq,zd,ze,zb,zf,za,qai]
 refine qad (fun n fr L=>∃ (k:Nat),k≤il.length∧n=il.length - k∧fr=(.p (.sl 7 (itE il))::oC (oo::(.p (.mpv (kv.map (·.1)) (kv.map (·.2)))::oG (oE (oo::(.p (.sl 7 (itE il))::.p (int (il.length:Nat))::.p (int (k:Nat))::oD (oB [])))))))∧L=[]) (il.length) _ [] (by simp only [ZZ,WW,Zd,reduceCtorEq,zd,ze,zb,zf,za,qai];try trivial) (by (simp only [ZZ,WW,Zd,reduceCtorEq,zd,ze,zb,zf,za];try trivial)) ⟨0,by omega,by omega,rfl,rfl⟩ ?_
 rintro n fr L ⟨k,hk,rfl,rfl,rfl⟩
 simp only [qic,ZZ,WW,Zd,reduceCtorEq,zd,ze,zb,zf,za]
 refine br ?_ ?_
 ·intro h
  have hlt:k < il.length:=by have:=of_decide_eq_true h;omega
  obtain ⟨x,hx⟩:∃ x,il[k]?=some x:=⟨_,zg hlt⟩
  have hg:=qbG hx
  have hab:=qvs (E:=E0) il hP kv hkv (by omega) k x hx
  simp only [itC] at hg hab
  simp only [ZZ,WW,Zd,reduceCtorEq,zd,ze,zb,zf,za,hg,qai]
  ((with_reducible and_intros)<;>try exact sc_)
  refine use1 hab rfl (.inl rfl) ?_
  refine zS ?_
  refine br (fun h=>by simp at h) ?_
  intro _
  refine zS ?_
  ((with_reducible and_intros)<;>try exact sc_)
  refine qac (il.length - (k+1)) _ [] (by omega) (by (simp only [ZZ,WW,Zd,reduceCtorEq,zd,ze,zb,zf,za];try trivial)) (by (simp only [ZZ,WW,Zd,reduceCtorEq,zd,ze,zb,zf,za];try trivial)) ⟨k+1,by omega,rfl,rfl,rfl⟩
 intro h
 simp only [ZZ,WW,Zd,reduceCtorEq,zd,ze,zb,zf,za]
def qgI:IC:=(sR [qT 13 .lss 12 11] (.seq (.cond (.t 13) .skip (.exit 0)) (.seq (.block 1 (sR [qX 14 7 10 12,qO 15 (.ld 7 true (.t 14)),qO 5 (.alc 80 [.str [],.str [],.int .i64 0,.str [],.int .i64 0,.str [],.str []]),qS 7 5 15] (sR [qF 16 5 5,qL 17 16,qB 18 .eql 17 (.c (.str []))] (.cond (.t 18) (.reg [qF 19 2 3,qL 20 19,qF 21 0 5,qL 22 21,qO 23 (.bsl 1 [.t 22]),qO 24 (.app 9 1 16 (.t 20) (.t 23)),qF 25 2 3,qS 1 25 24]) (.drp [4,5,6,7,8,9,10,11,12,0,1,2,3,13] [qF 30 1 3,qL 31 30,qF 32 5 5,qL 33 32,qO 34 (.mpl false (.nl 1) (.t 31) (.t 33)),qF 35 0 5,qL 36 35,qO 37 (.bsl 1 [.t 36]),qO 38 (.app 9 1 16 (.t 34) (.t 37)),qF 26 1 3,qL 27 26,qF 28 5 5,qL 29 28,⟨none,.mpu (.t 27) (.t 29) (.t 38),none⟩]))))) (.cut (.reg [qB 39 .add 12 (cI 1),qM 12 39])))))
def qiT:IC:=(sR [qO 2 (.alc 229 [.raw (.map none),.raw (.map none),.nl 1])] (sR [qM 6 0,qO 7 (.call 158 [.t 6]),qO 8 (.mkm 9 58),qO 9 (.bldg [.raw (.map none),.raw (.map none),.nl 1] [(0,1,.t 7),(1,1,.t 8),(2,1,.c (.nl 1))]),qO 3 (.alc 229 [.raw (.map none),.raw (.map none),.nl 1]),⟨none,.stg 3 (.t 3) (.t 9),none⟩] (.seq (sR [qM 10 0,qN 11 10,qO 12 (.mov (cI 0))] (.block 0 (.loop qgI))) (sR [qO 40 (.ld 3 true (.t 3)),qS 3 2 40] .ret))))
def qiJ:List IRes:=[.c 2 3 true]
theorem qmM:chkF Tryz.prog Tryz.f224 qiT qiJ 41=true:=by kernel_rfl
abbrev qBs:Nat:=229
abbrev tSS:Nat:=58
abbrev tSt5:Nat:=9
def kidR (ts:List Nat):List (List UInt8×AV):=ts.map fun t=>(pid t,AV.row (.l (1000+t)))
def kidP (il:List Itm) (ts:List Nat):List (List UInt8×PV):=ts.map fun t=>(pid t,PV.sl 1 (strE (kidsF il (pid t))))
theorem qDj {n j:Nat} (h:n < 1000):(Key.l (1000+j)=Key.l n)=False:=by simp;omega
theorem qtM:∀ {ts:List Nat} {j:Nat},(∀ t∈ts,t < 20)→j < 20→mpF (kidR ts) (pid j)=if j∈ts then some (.row (.l (1000+j))) else none
 |[],j,_,_=>by simp [kidR,mpF]
 |t :: r,j,h,hj=>by
  have ih:=qtM (ts:=r) (fun t ht=>h t (by simp [ht])) hj
  have ht:=h t (by simp)
  simp only [kidR,zk,mpF] at ih ⊢
  by_cases e:t=j
  ·subst e
   simp
  ·have e2:¬ pid t=pid j:=fun q=>e (qir (by omega) (by omega) q)
   rw [if_neg e2,ih]
   have e3:¬ j=t:=fun q=>e q.symm
   simp [e3]
theorem qtL:∀ {ts:List Nat} {j:Nat} (y:AV),(∀ t∈ts,t < 20)→j < 20→j∉ts→mpS (kidR ts) (pid j) y=kidR ts++[(pid j,y)]
 |[],j,y,_,_,_=>rfl
 |t :: r,j,y,h,hj,hn=>by
  have ht:=h t (by simp)
  have e:¬ t=j:=fun q=>hn (by simp [q])
  have e2:¬ pid t=pid j:=fun q=>e (qir (by omega) (by omega) q)
  have ih:=qtL (ts:=r) y (fun t ht=>h t (by simp [ht])) hj (fun q=>hn (by simp [q]))
  simp only [kidR,zk,mpS] at ih ⊢
  rw [if_neg e2,ih]
  rfl
theorem qiO (ts:List Nat) {n:Nat} (h:n < 1000):(kidR ts).map (fun p=>(p.1,p.2.kill (.l n)))=kidR ts:=by
 unfold kidR
 rw [z7]
 refine zQ fun t _=>?_
 simp only [Function.comp_apply,AV.kill,qDj h,if_false]
theorem qo9:∀ {ts:List Nat} {j:Nat},(∀ t∈ts,t < 20)→j < 20→j∈ts→ts.Nodup→mpS ((kidR ts).map (fun p=>(p.1,p.2.kill (.l (1000+j))))) (pid j) (.row (.l (1000+j)))=kidR ts
 |[],j,_,_,hm,_=>by cases hm
 |t :: r,j,h,hj,hm,hd=>by
  have ht:=h t (by simp)
  rw [List.nodup_cons] at hd
  simp only [kidR,zk,mpS]
  by_cases e:t=j
  ·subst e
   rw [if_pos rfl]
   congr 1
   rw [z7]
   refine zQ fun u hu=>?_
   have:¬ u=t:=fun q=>hd.1 (q ▸ hu)
   have e3:¬ Key.l (1000+u)=Key.l (1000+t):=by simp;omega
   simp only [Function.comp_apply,AV.kill,e3,if_false]
  ·have e2:¬ pid t=pid j:=fun q=>e (qir (by omega) (by omega) q)
   have e3:¬ Key.l (1000+t)=Key.l (1000+j):=by simp;omega
   have ih:=qo9 (ts:=r) (fun t ht=>h t (by simp [ht])) hj ((List.mem_cons.1 hm).resolve_left (fun q=>e q.symm)) hd.2
   simp only [kidR] at ih
   rw [if_neg e2,ih]
   simp only [AV.kill,e3,if_false]
theorem qtK (ts:List Nat) {d q:Nat} (hd:d < 1000) (hq:∀ t∈ts,¬ q=1000+t):(kidR ts).map (fun p=>(p.1,p.2.ren (r1 d q)))=kidR ts:=by
 unfold kidR
 rw [z7]
 refine zQ fun t ht=>?_
 have e1:¬ Key.l (1000+t)=Key.l d:=by simp;omega
 have e2:¬ Key.l (1000+t)=Key.l q:=by have:=hq t ht;simp;omega
 simp only [Function.comp_apply,AV.ren,r1,e1,e2,if_false]
def trB (kv:List (List UInt8×PV)) (a b:AV):AO:=.box [.p (.mpv (kv.map (·.1)) (kv.map (·.2))),a,b] qBs
def trZ:AO:=.box [.p (.raw (.map none)),.p (.raw (.map none)),.p (.nl 1)] qBs
def tpD (il:List Itm):AV:=if topsF il=[] then .p (.nl 1) else .p (.sl 1 (strE (topsF il)))
def tpA (il:List Itm):AV:=if topsF il=[] then .p (.nl 1) else .row (.l 900)
structure TrJ (kv:List (List UInt8×PV)) (il:List Itm) (ts:List Nat) (L:Objs):Prop where
 h2:Zar L (.l 2)=some trZ
 h3:Zar L (.l 3)=some (trB kv (.mp (.l 8)) (tpA il))
 ht:topsF il≠[]→Zar L (.l 900)=some (.row (strE (topsF il)) tSt5 1 true)
 hm:Zar L (.l 8)=some (.mapv (kidR ts) tSt5 tSS)
 hl:∀ t∈ts,t < 20
 hd:ts.Nodup
 hk:∀ t,t < 20→(t∈ts↔kidsF il (pid t)≠[])
 hr:∀ t∈ts,Zar L (.l (1000+t))=some (.row (strE (kidsF il (pid t))) tSt5 1 true)
structure TrD (kv:List (List UInt8×PV)) (il:List Itm) (ts:List Nat) (L:Objs):Prop where
 h2:Zar L (.l 2)=some trZ
 h3:Zar L (.l 3)=some (trB kv (.p (.mpv ((kidP il ts).map (·.1)) ((kidP il ts).map (·.2)))) (tpD il))
 hl:∀ t∈ts,t < 20
 hd:ts.Nodup
 hk:∀ t,t < 20→(t∈ts↔kidsF il (pid t)≠[])
def kidX (il:List Itm) (ds ts:List Nat):List (List UInt8×AV):=(kidP il ds).map (fun p=>(p.1,AV.p p.2))++kidR ts
theorem qv2 (il:List Itm) (ds ts:List Nat) (t:Nat) (hn:t∉ts):(kidX il ds (t :: ts)).map (fun p=>(p.1,p.2.thaw (.l (1000+t)) (.sl 1 (strE (kidsF il (pid t))))))=kidX il (ds++[t]) ts:=by
 unfold kidX kidR kidP
 simp only [zO,z7,zk,zr,ym,List.singleton_append]
 congr 1
 congr 1
 ·simp [AV.thaw]
 ·refine zQ fun u hu=>?_
  have:¬ u=t:=fun q=>hn (q ▸ hu)
  have e3:¬ Key.l (1000+u)=Key.l (1000+t):=by simp;omega
  simp only [Function.comp_apply,AV.thaw,e3,if_false]
theorem qtg {E:Envt} {fr:List AV} {kv:List (List UInt8×PV)} {il:List Itm} (hfr:∀ t y,fr.map (·.thaw (.l (1000+t)) y)=fr):∀ (ts ds:List Nat) (L:Objs),ts.Nodup→Zar L (.l 2)=some trZ→Zar L (.l 3)=some (trB kv (.mp (.l 8)) (tpA il))→(topsF il≠[]→Zar L (.l 900)=some (.row (strE (topsF il)) tSt5 1 true))→Zar L (.l 8)=some (.mapv (kidX il ds ts) tSt5 tSS)→(∀ t∈ts,Zar L (.l (1000+t))=some (.row (strE (kidsF il (pid t))) tSt5 1 true))→
  ∃ L',ReOk E fr L fr L'∧Zar L' (.l 2)=some trZ∧Zar L' (.l 3)=some (trB kv (.mp (.l 8)) (tpA il))∧(topsF il≠[]→Zar L' (.l 900)=some (.row (strE (topsF il)) tSt5 1 true))∧Zar L' (.l 8)=some (.mapv (kidX il (ds++ts) []) tSt5 tSS)
 |[],ds,L,_,h2,h3,h9,h8,_=>⟨L,ReOk.refl,h2,h3,h9,by rw [yo];exact h8⟩
 |t :: r,ds,L,hd,h2,h3,h9,h8,hr=>by
  rw [List.nodup_cons] at hd
  have q:=qbO (E:=E) (fr:=fr) (hr t (by simp))
  rw [hfr] at q
  have a1:∀ n,n < 1000→Zar (Zav (.l (1000+t)) (.sl 1 (strE (kidsF il (pid t)))) L) (.l n)=(Zar L (.l n)).map (AO.thaw (.l (1000+t)) (.sl 1 (strE (kidsF il (pid t))))):=by
   intro n hn
   rw [qbY,if_neg (by simp;omega)]
  have e8:¬ Key.l 8=Key.l (1000+t):=by simp;omega
  have e9:¬ Key.l 900=Key.l (1000+t):=by simp;omega
  obtain ⟨L',p1,p2,p3,p4,p5⟩:=qtg (kv:=kv) (il:=il) hfr r (ds++[t]) (Zav (.l (1000+t)) (.sl 1 (strE (kidsF il (pid t)))) L) hd.2 (by rw [a1 2 (by omega),h2];rfl)
   (by
    rw [a1 3 (by omega),h3]
    unfold trB tpA
    by_cases hT:topsF il=[]<;>simp only [hT,zL,AO.thaw,zk,zr,AV.thaw,e8,e9,if_true,if_false])
   (fun h=>by rw [a1 900 (by omega),h9 h];rfl)
   (by
    rw [a1 8 (by omega),h8]
    simp only [zL,AO.thaw]
    rw [qv2 il ds r t hd.1])
   (fun u hu=>by
    have:¬ u=t:=fun q=>hd.1 (q ▸ hu)
    rw [qbY,if_neg (by simp;omega),hr u (by simp [hu])]
    rfl)
  refine ⟨L',ReOk.trans q p1,p2,p3,p4,?_⟩
  rw [p5,ym]
  rfl
theorem qo1 (il:List Itm):∀ ts:List Nat,Zbb ((kidP il ts).map fun p=>(p.1,AV.p p.2))=some (kidP il ts)
 |[]=>rfl
 |t :: r=>by
  have ih:=qo1 il r
  simp only [kidP,zk] at ih ⊢
  rw [Zbb,ih]
  rfl
theorem qw8 {E:Envt} {fr:List AV} {kv:List (List UInt8×PV)} {il:List Itm} {ts:List Nat} {L:Objs} (hfr:∀ k y,3 < k→fr.map (·.thaw (.l k) y)=fr) (hJ:TrJ kv il ts L):∃ L',ReOk E fr L fr L'∧TrD kv il ts L':=by
 obtain ⟨h2,h3,h9,h8,hl,hd,hk,hr⟩:=hJ
 obtain ⟨L1,q1,p2,p3,p4,p5⟩:=qtg (E:=E) (fr:=fr) (kv:=kv) (il:=il) (fun t y=>hfr _ y (by omega)) ts [] L hd h2 h3 h9 (by rw [h8];rfl) hr
 rw [zm,kidX,show kidR []=[] from rfl,yo] at p5
 have q2:=qvo (E:=E) (fr:=fr) p5 (qo1 il _)
 have q3:=qBL (E:=E) (fr:=fr) (L:=Zas L1 (.l 8) (.map (kidP il ts) tSt5 tSS)) (k:=.l 8) (kv:=kidP il ts) (kt:=tSt5) (et:=tSS) (by rw [qab,if_pos rfl])
 rw [hfr 8 _ (by omega)] at q3
 have a1:∀ n,n≠8→Zar (Zav (.l 8) (.mpv ((kidP il ts).map (·.1)) ((kidP il ts).map (·.2))) (Zas L1 (.l 8) (.map (kidP il ts) tSt5 tSS))) (.l n)=(Zar L1 (.l n)).map (AO.thaw (.l 8) (.mpv ((kidP il ts).map (·.1)) ((kidP il ts).map (·.2)))):=by
  intro n hn
  rw [qbY,if_neg (by simp;omega),qab,if_neg (by simp;omega)]
 generalize hL2:Zav (.l 8) _ (Zas L1 _ _)=L2 at q3 a1
 have b2:Zar L2 (.l 2)=some trZ:=by rw [a1 2 (by omega),p2];rfl
 have b3:Zar L2 (.l 3)=some (trB kv (.p (.mpv ((kidP il ts).map (·.1)) ((kidP il ts).map (·.2)))) (tpA il)):=by
  rw [a1 3 (by omega),p3]
  unfold trB tpA
  simp only [zL,AO.thaw,zk,zr,AV.thaw,if_true]
  have e9:¬ Key.l 900=Key.l 8:=by simp
  by_cases hT:topsF il=[]<;>simp only [hT,AV.thaw,e9,if_true,if_false]
 have q4:ReOk E fr L fr L2:=ReOk.trans q1 (ReOk.trans q2 q3)
 by_cases hT:topsF il=[]
 ·refine ⟨L2,q4,b2,?_,hl,hd,hk⟩
  rw [b3]
  unfold tpA tpD
  rw [if_pos hT,if_pos hT]
 ·have b9:Zar L2 (.l 900)=some (.row (strE (topsF il)) tSt5 1 true):=by rw [a1 900 (by omega),p4 hT];rfl
  have q5:=qbO (E:=E) (fr:=fr) b9
  rw [hfr 900 _ (by omega)] at q5
  refine ⟨_,ReOk.trans q4 q5,?_,?_,hl,hd,hk⟩
  ·rw [qbY,if_neg (by simp),b2];rfl
  ·rw [qbY,if_neg (by simp),b3]
   unfold trB tpA tpD
   rw [if_neg hT,if_neg hT]
   simp only [zL,AO.thaw,zk,zr,AV.thaw,if_true]
theorem qyW {kv:List (List UInt8×PV)} {iw:List Itm} {x:Itm} {ts:List Nat} {L LL:Objs} (h:TrJ kv iw ts L) (hup:upOf x=[]) (h2:Zar LL (.l 2)=some trZ) (h3:Zar LL (.l 3)=some (trB kv (.mp (.l 8)) (.row (.l 900)))) (h9:Zar LL (.l 900)=some (.row (strE (topsF iw++[x.1])) tSt5 1 true)) (h8:Zar LL (.l 8)=some (.mapv (kidR ts) tSt5 tSS)) (hr:∀ t∈ts,Zar LL (.l (1000+t))=some (.row (strE (kidsF iw (pid t))) tSt5 1 true)):TrJ kv (iw++[x]) ts LL:=by
 have e1:topsF (iw++[x])=topsF iw++[x.1]:=by rw [qoQ,if_pos hup]
 have e2:∀ t,kidsF (iw++[x]) (pid t)=kidsF iw (pid t):=fun t=>by rw [qkG,if_neg (by rw [hup];exact fun q=>qj5 t q.symm),yo]
 refine ⟨h2,?_,fun _=>by rw [e1];exact h9,h8,h.hl,h.hd,fun t ht=>by rw [e2];exact h.hk t ht,fun t ht=>by rw [e2];exact hr t ht⟩
 rw [h3,tpA,if_neg (by rw [e1];simp)]
theorem qyX {kv:List (List UInt8×PV)} {iw:List Itm} {x:Itm} {ts:List Nat} {L LL:Objs} {j:Nat} (h:TrJ kv iw ts L) (hj:j < 20) (hup:upOf x=pid j) {ts':List Nat} (hts:ts'=if j∈ts then ts else ts++[j]) (h2:Zar LL (.l 2)=some trZ) (h3:Zar LL (.l 3)=some (trB kv (.mp (.l 8)) (tpA iw))) (h9:topsF iw≠[]→Zar LL (.l 900)=some (.row (strE (topsF iw)) tSt5 1 true)) (h8:Zar LL (.l 8)=some (.mapv (kidR ts') tSt5 tSS)) (hrj:Zar LL (.l (1000+j))=some (.row (strE (kidsF iw (pid j)++[x.1])) tSt5 1 true)) (hr:∀ t∈ts,t≠j→Zar LL (.l (1000+t))=some (.row (strE (kidsF iw (pid t))) tSt5 1 true)):TrJ kv (iw++[x]) ts' LL:=by
 have e1:topsF (iw++[x])=topsF iw:=by rw [qoQ,if_neg (by rw [hup];exact qj5 j),yo]
 have e2:∀ t,t < 20→t≠j→kidsF (iw++[x]) (pid t)=kidsF iw (pid t):=fun t ht hn=>by rw [qkG,if_neg (by rw [hup];exact fun q=>hn (qir (by omega) (by omega) q).symm),yo]
 have e3:kidsF (iw++[x]) (pid j)=kidsF iw (pid j)++[x.1]:=by rw [qkG,if_pos hup]
 have hl':∀ t∈ts',t < 20:=by
  intro t ht
  rw [hts] at ht
  split at ht
  ·exact h.hl t ht
  ·rcases List.mem_append.1 ht with q|q
   ·exact h.hl t q
   ·rw [zF] at q;omega
 have hm:∀ t,t∈ts'↔t∈ts∨t=j:=by
  intro t
  rw [hts]
  split
  ·rename_i hjt
   exact ⟨.inl,fun q=>q.elim id fun e=>e ▸ hjt⟩
  ·simp
 refine ⟨h2,?_,fun q=>by rw [e1] at q ⊢;exact h9 q,h8,hl',?_,?_,?_⟩
 ·rw [h3,tpA,tpA,e1]
 ·rw [hts]
  split
  ·exact h.hd
  ·rename_i hjt
   rw [List.nodup_append]
   exact ⟨h.hd,by simp,fun a ha b hb=>by rw [zF] at hb;intro q;exact hjt (by rw [← hb,← q];exact ha)⟩
 ·intro t ht
  rw [hm]
  by_cases e:t=j
  ·subst e
   rw [e3]
   simp
  ·rw [e2 t ht e,← h.hk t ht]
   simp [e]
 ·intro t ht
  by_cases e:t=j
  ·subst e
   rw [e3]
   exact hrj
  ·have:=(hm t).1 ht
   rw [e2 t (hl' t ht) e]
   exact hr t (this.resolve_right e) e
def qcI:IC:=(sR [qT 16 .lss 15 14] (.seq (.cond (.t 16) .skip (.exit 0)) (.seq (.block 1 (sR [qX 17 1 13 15,qL 18 17,qM 7 18] (.reg [qM 19 5,qO 20 (.ld 3 true (.t 2)),qM 21 7,qO 22 (.call 225 [.t 20,.t 21]),qO 23 (.app 9 1 16 (.t 19) (.t 22)),qM 5 23]))) (.reg [qB 24 .add 15 (cI 1),qM 15 24]))))
def qdL:IC:=(sR [qO 2 (.box 229 (.t 0)),qO 4 (.mov (.c (.nl 1)))] (sR [qM 8 1,qO 9 (.bsr 9 1 [.t 8]),qM 5 9] (.seq (sR [qF 10 1 2,qL 11 10,qM 12 1,qO 13 (.mpl false (.nl 1) (.t 11) (.t 12)),qN 14 13,qO 15 (.mov (cI 0))] (.block 0 (.loop qcI))) (sR [qM 25 5,qM 4 25] .ret))))
def qdK:List IRes:=[.t 4]
theorem qgP:chkF Tryz.prog Tryz.f225 qdL qdK 26=true:=by kernel_rfl
def qf4:IC:=(sR [qT 20 .lss 19 18] (.seq (.cond (.t 20) .skip (.exit 0)) (.seq (.block 1 (sR [qX 21 1 17 19,qL 22 21,qM 8 22] (.reg [qM 23 6,qM 24 8,qO 25 (.ld 3 true (.t 5)),qM 26 8,qO 27 (.call 225 [.t 25,.t 26]),qO 28 (.bld [.str [],.nl 1] [(0,1,.t 24),(1,1,.t 27)]),qO 29 (.bsl 2 [.t 28]),qO 30 (.app 119 2 40 (.t 23) (.t 29)),qM 6 30]))) (.reg [qB 31 .add 19 (cI 1),qM 19 31]))))
def qib:IC:=(sR [qO 2 (.mov (.c (.nl 2))),qO 3 (.mov (cI 0))] (.seq (sR [qM 9 0,qO 10 (.call 77 [.t 9]),qM 4 10] (sR [qM 11 4,qB 12 .neq 11 (cI 0)] (.cond (.t 12) (sR [qM 13 4,qO 2 (.mov (.c (.nl 2))),qM 3 13] .ret) .skip))) (sR [qM 14 0,qO 15 (.call 224 [.t 14]),qO 5 (.alc 229 [.raw (.map none),.raw (.map none),.nl 1]),qS 3 5 15] (sR [qO 6 (.nilr 119 2)] (.seq (sR [qF 16 2 5,qL 17 16,qN 18 17,qO 19 (.mov (cI 0))] (.block 0 (.loop qf4))) (sR [qM 32 6,qM 2 32,qO 3 (.mov (cI 0))] .ret))))))
def qhQ:List IRes:=[.t 2,.t 3]
theorem qmd:chkF Tryz.prog Tryz.f161 qib qhQ 33=true:=by kernel_rfl
section
variable {E:Envt}
set_option maxHeartbeats 4000000 in
theorem quv (il:List Itm) (hP:qaP il):PCall Tryz.prog E 224 [.sl 7 (itE il)] (fun x=>∃ kv ts,x=.agg [.mpv (kv.map (·.1)) (kv.map (·.2)),.mpv ((kidP il ts).map (·.1)) ((kidP il ts).map (·.2)),.sl 1 (strE (topsF il))]∧MapIs kv il∧kv.length≤il.length∧(∀ t∈ts,t < 20)∧ts.Nodup∧∀ t,t < 20→(t∈ts↔kidsF il (pid t)≠[])):=by
 have h20:=hP.1
 refine qae mixed Tryz.func224 qmM ?_
 simp only [a0,l0,OS.ao,zk,zr,zi,zo,zl,zm,zu,zd,zh,zj,qiT,qiJ,ZZ,WW,Zd,reduceCtorEq,zd,ze,zb,zf,za]
 refine use (qwB il (by omega)) rfl (.inl rfl) ?_
 rintro _ ⟨kv,rfl,hkv,hkn⟩
 simp only [ZZ,WW,Zd,reduceCtorEq,zd,ze,zb,zf,za,qai,decide_false,Bool.or_self,Bool.false_eq_true]
 obtain ⟨J,hJ⟩:∃ J:Nat→Objs→Prop,J=fun k L=>(k < il.length∧∃ ts,TrJ kv (il.take k) ts L)∨(k=il.length∧∃ ts,TrD kv il ts L):=⟨_,rfl⟩
 have hfr:∀ (q k:Nat) (y:PV),3 < k→List.map (fun x:AV=>x.thaw (.l k) y) (.p (.sl 7 (itE il))::oo::.adr (.l 2) 0::.adr (.l 3) 0::oC (oB (.p (.sl 7 (itE il))::.p (int (il.length:Nat))::.p (int (q:Nat))::oE (oD (oC [])))))=(.p (.sl 7 (itE il))::oo::.adr (.l 2) 0::.adr (.l 3) 0::oC (oB (.p (.sl 7 (itE il))::.p (int (il.length:Nat))::.p (int (q:Nat))::oE (oD (oC []))))):=by
  intro q k y hk
  have e2:(Key.l 2=Key.l k)=False:=by simp;omega
  have e3:(Key.l 3=Key.l k)=False:=by simp;omega
  simp only [zk,zr,AV.thaw,e2,e3,if_false]
 have hnx:∀ k L ts,k≤il.length→TrJ kv (il.take k) ts L→∃ L',ReOk E (.p (.sl 7 (itE il))::oo::.adr (.l 2) 0::.adr (.l 3) 0::oC (oB (.p (.sl 7 (itE il))::.p (int (il.length:Nat))::.p (int (k:Nat))::oE (oD (oC []))))) L (.p (.sl 7 (itE il))::oo::.adr (.l 2) 0::.adr (.l 3) 0::oC (oB (.p (.sl 7 (itE il))::.p (int (il.length:Nat))::.p (int (k:Nat))::oE (oD (oC []))))) L'∧J k L':=by
  intro k L ts hk h
  by_cases hkl:k < il.length
  ·exact ⟨L,ReOk.refl,by rw [hJ];exact .inl ⟨hkl,ts,h⟩⟩
  ·have hke:k=il.length:=by omega
   rw [List.take_of_length_le (by omega)] at h
   obtain ⟨L',r,hd⟩:=qw8 (E:=E) (hfr k) h
   exact ⟨L',r,by rw [hJ];exact .inr ⟨hke,ts,hd⟩⟩
 obtain ⟨L1,q1,q2⟩:=hnx 0 [(.l 2,trZ),(.l 8,.mapv (kidR []) tSt5 tSS),(.l 3,trB kv (.mp (.l 8)) (tpA (il.take 0)))] [] (by omega) ⟨rfl,rfl,fun h=>absurd rfl h,rfl,by simp,List.nodup_nil,fun t _=>by simp [kidsF],by simp⟩
 refine qsz (fun m fr L=>∃ k,k≤il.length∧m=il.length - k∧fr=(.p (.sl 7 (itE il))::oo::.adr (.l 2) 0::.adr (.l 3) 0::oC (oB (.p (.sl 7 (itE il))::.p (int (il.length:Nat))::.p (int (k:Nat))::oE (oD (oC [])))))∧J k L) il.length _ L1 (ReOk.trans (qkK zF_) (ReOk.trans (qz3 (k:=.l 8) rfl) q1)) ⟨0,by omega,by omega,rfl,q2⟩ ?_
 clear q1 q2 L1
 rintro m fr L ⟨k,hk,rfl,rfl,hj⟩
 simp only [qgI,ZZ,WW,Zd,reduceCtorEq,zd,ze,zb,zf,za]
 rw [hJ] at hj
 refine br ?_ ?_
 ·intro h
  have hlt:k < il.length:=by have:=of_decide_eq_true h;omega
  rcases hj with ⟨_,ts,hj⟩|⟨e,_⟩
  rotate_left
  ·omega
  obtain ⟨x,hx⟩:∃ x,il[k]?=some x:=⟨_,zg hlt⟩
  have hg:=qbG hx
  simp only [itC] at hg
  have hnx1:=fun L ts=>hnx (k+1) L ts (by omega)
  have hsn:il.take (k+1)=il.take k++[x]:=by rw [List.take_succ_eq_append_getElem hlt,(List.getElem?_eq_some_iff.1 hx).2]
  have hpx:=hP.2 k x hx
  obtain ⟨h2,h3,h9,h8,hl,hd,hkk,hr⟩:=hj
  rw [hsn] at hnx1
  have hiw:(il.take k).length≤20:=by rw [List.length_take];omega
  generalize il.take k=iw at *
  have hkw:=fun t=>qbF iw (pid t)
  have htw:(topsF iw).length≤20:=Nat.le_trans (qbF iw []) hiw
  simp only [trB] at h3
  rcases hpx.b6 with hup|⟨j,y,hj,hy,hu1,hu2,hup⟩
  ·by_cases hT:topsF iw=[]
   ·rw [tpA,if_pos hT] at h3
    simp only [ZZ,WW,Zd,reduceCtorEq,zd,ze,zb,zf,za,hg,qai,h3,hup,qao,qab,qam,decide_true]
    ((with_reducible and_intros)<;>try exact sc_)
    refine qa1 _ _ ReOk.refl ?_
    refine zS ?_
    ((with_reducible and_intros)<;>try exact sc_)
    generalize hLL:Zas (Zas (Zat (Key.l 24) _) (Key.l 24) _) (Key.l 3) _=LL
    have g:∀ n,n≠24→n≠5→n≠3→Zar LL (.l n)=((Zar L (.l n)).map (AO.kill (.l 5))).map (AO.kill (.l 24)):=by
     intro n a1 a2 a3
     rw [← hLL]
     simp only [qab,qam,Key.l.injEq,a1,a2,a3,Ne.symm a1,Ne.symm a2,Ne.symm a3,if_false]
    obtain ⟨L2,r2,hj2⟩:=hnx1 (mapO (r1 24 900) LL) ts (qyW ⟨h2,by rw [h3,trB,tpA,if_pos hT],h9,h8,hl,hd,hkk,hr⟩ hup
     (by rw [qaK,if_neg (by first|(simp;done)|(simp;omega)),if_neg (by first|(simp;done)|(simp;omega)),g 2 (by omega) (by omega) (by omega),h2];rfl)
     (by rw [qaK,if_neg (by first|(simp;done)|(simp;omega)),if_neg (by first|(simp;done)|(simp;omega)),← hLL,qab,if_pos rfl];rfl)
     (by rw [qaK,if_pos rfl,hT,← hLL];simp only [qab,ZZ,WW,Zd,reduceCtorEq,zd,ze,zb,zf,za];rfl)
     (by rw [qaK,if_neg (by first|(simp;done)|(simp;omega)),if_neg (by first|(simp;done)|(simp;omega)),g 8 (by omega) (by omega) (by omega),h8];simp only [zL,AO.kill,AO.ren];rw [qiO ts (by omega),qiO ts (by omega),qtK ts (by omega) (by intro t _;omega)])
     (fun t ht=>by rw [qaK,if_neg (by first|(simp;done)|(simp;omega)),if_neg (by first|(simp;done)|(simp;omega)),g _ (by omega) (by omega) (by omega),hr t ht];rfl))
    refine qk5 (il.length - (k+1)) _ L2 (by omega) (ReOk.trans (qoZ 24 900) (ReOk.trans (qkK (by simp only [AV.ren,r1,ZZ,WW,Zd,reduceCtorEq,zd,ze,zb,zf,za];try trivial)) r2)) ⟨k+1,by omega,rfl,rfl,hj2⟩
   ·have h9:=h9 hT
    rw [tpA,if_neg hT] at h3
    simp only [ZZ,WW,Zd,reduceCtorEq,zd,ze,zb,zf,za,hg,qai,h3,hup,h9,qag,qao,qab,qam,decide_true]
    ((with_reducible and_intros)<;>try exact sc_)
    refine qa1 _ _ ReOk.refl ?_
    refine zS ?_
    ((with_reducible and_intros)<;>try exact sc_)
    generalize hLL:Zas (Zas (Zat (Key.l 900) _) (Key.l 900) _) (Key.l 3) _=LL
    have g:∀ n,n≠900→n≠5→n≠3→Zar LL (.l n)=((Zar L (.l n)).map (AO.kill (.l 5))).map (AO.kill (.l 900)):=by
     intro n a1 a2 a3
     rw [← hLL]
     simp only [qab,qam,Key.l.injEq,a1,a2,a3,Ne.symm a1,Ne.symm a2,Ne.symm a3,if_false]
    obtain ⟨L2,r2,hj2⟩:=hnx1 LL ts (qyW ⟨h2,by rw [h3,trB,tpA,if_neg hT],fun _=>h9,h8,hl,hd,hkk,hr⟩ hup
     (by rw [g 2 (by omega) (by omega) (by omega),h2];rfl)
     (by rw [← hLL,qab,if_pos rfl];rfl)
     (by rw [← hLL,qab,if_neg (by first|(simp;done)|(simp;omega)),qab,if_pos rfl,qlE];rfl)
     (by rw [g 8 (by omega) (by omega) (by omega),h8];simp only [zL,AO.kill];rw [qiO ts (by omega),qiO ts (by omega)])
     (fun t ht=>by rw [g _ (by omega) (by omega) (by omega),hr t ht];rfl))
    refine qk5 (il.length - (k+1)) _ L2 (by omega) (ReOk.trans (qkK zF_) r2) ⟨k+1,by omega,rfl,rfl,hj2⟩
  ·have hj20:j < 20:=by omega
   have hlm:mpF (kidR ts) (pid j)=if j∈ts then some (.row (.l (1000+j))) else none:=qtM hl hj20
   have hpn:¬ pid j=[]:=qj5 j
   have hk5:=qiO ts (n:=5) (by omega)
   have n2:(2=1000+j)=False:=by simp;omega
   have m2:(1000+j=2)=False:=by simp;omega
   have n3:(3=1000+j)=False:=by simp;omega
   have m3:(1000+j=3)=False:=by simp;omega
   have n5:(5=1000+j)=False:=by simp;omega
   have m5:(1000+j=5)=False:=by simp;omega
   have n9:(900=1000+j)=False:=by simp;omega
   have n8:(8=1000+j)=False:=by simp;omega
   have m8:(1000+j=8)=False:=by simp;omega
   by_cases hjt:j∈ts
   ·rw [if_pos hjt] at hlm
    have hrj:=hr j hjt
    have hkK:=qo9 hl hj20 hjt hd
    have hkj:=hkw j
    simp only [ZZ,WW,Zd,reduceCtorEq,zd,ze,zb,zf,za,hg,qai,h3,hup,h8,hlm,hrj,hpn,qag,qao,qab,qam,decide_false]
    ((with_reducible and_intros)<;>try exact sc_)
    refine ⟨[],?_⟩
    simp only [ZZ,WW,Zd,reduceCtorEq,zd,ze,zb,zf,za,h3,h8,hlm,hrj,qag,qao,qab,qam,hk5,hkK,yt,n2,n3,n5,n8,m2,m3,m5,m8]
    refine ⟨by omega,?_⟩
    refine qa1 _ _ ReOk.refl ?_
    refine zS ?_
    ((with_reducible and_intros)<;>try exact sc_)
    generalize hLL:Zas (Zas (Zat (Key.l (1000+j)) _) (Key.l (1000+j)) _) (Key.l 8) _=LL
    have g:∀ n,n≠1000+j→n≠5→n≠8→Zar LL (.l n)=((Zar L (.l n)).map (AO.kill (.l 5))).map (AO.kill (.l (1000+j))):=by
     intro n a1 a2 a3
     rw [← hLL]
     simp only [qab,qam,Key.l.injEq,a1,a2,a3,Ne.symm a1,Ne.symm a2,Ne.symm a3,if_false]
    have e8:(Key.l 8=Key.l (1000+j))=False:=by simp;omega
    have e9:(Key.l 900=Key.l (1000+j))=False:=by simp;omega
    obtain ⟨L2,r2,hj2⟩:=hnx1 LL ts (qyX ⟨h2,h3,h9,h8,hl,hd,hkk,hr⟩ hj20 hup (by rw [if_pos hjt])
     (by rw [g 2 (by omega) (by omega) (by omega),h2];rfl)
     (by rw [g 3 (by omega) (by omega) (by omega),h3];unfold trB tpA;by_cases hT:topsF iw=[]<;>simp only [hT,zL,AO.kill,zk,zr,AV.kill,e8,e9,if_true,if_false,Key.l.injEq,za])
     (fun q=>by rw [g 900 (by omega) (by omega) (by omega),h9 q];rfl)
     (by rw [← hLL,qab,if_pos rfl])
     (by rw [← hLL,qab,if_neg (by first|(simp;done)|(simp;omega)),qab,if_pos rfl,qlE];rfl)
     (fun t ht hn=>by rw [g _ (by omega) (by omega) (by omega),hr t ht];rfl))
    refine qk5 (il.length - (k+1)) _ L2 (by omega) (ReOk.trans (qkK zF_) r2) ⟨k+1,by omega,rfl,rfl,hj2⟩
   ·rw [if_neg hjt] at hlm
    have hk38:=qiO ts (n:=38) (by omega)
    have hkP:=qtL (.row (.l 38)) hl hj20 hjt
    simp only [ZZ,WW,Zd,reduceCtorEq,zd,ze,zb,zf,za,hg,qai,h3,hup,h8,hlm,hpn,qag,qao,qab,qam,decide_false]
    ((with_reducible and_intros)<;>try exact sc_)
    refine ⟨[],?_⟩
    simp only [ZZ,WW,Zd,reduceCtorEq,zd,ze,zb,zf,za,h3,h8,hlm,qag,qao,qab,qam,hk5,hk38,hkP,Option.getD_none]
    refine qa1 _ _ ReOk.refl ?_
    refine zS ?_
    ((with_reducible and_intros)<;>try exact sc_)
    generalize hLL:Zas (Zas (Zat (Key.l 38) _) (Key.l 38) _) (Key.l 8) _=LL
    have g:∀ n,n≠38→n≠5→n≠8→Zar LL (.l n)=((Zar L (.l n)).map (AO.kill (.l 5))).map (AO.kill (.l 38)):=by
     intro n a1 a2 a3
     rw [← hLL]
     simp only [qab,qam,Key.l.injEq,a1,a2,a3,Ne.symm a1,Ne.symm a2,Ne.symm a3,if_false]
    have hne:∀ t∈ts,¬ t=j:=fun t ht e=>hjt (e ▸ ht)
    have hk0:kidsF iw (pid j)=[]:=Classical.byContradiction fun q=>hjt ((hkk j hj20).2 q)
    obtain ⟨L2,r2,hj2⟩:=hnx1 (mapO (r1 38 (1000+j)) LL) (ts++[j]) (qyX ⟨h2,h3,h9,h8,hl,hd,hkk,hr⟩ hj20 hup (by rw [if_neg hjt])
     (by rw [qaK,if_neg (by first|(simp;done)|(simp;omega)),if_neg (by first|(simp;done)|(simp;omega)),g 2 (by omega) (by omega) (by omega),h2];rfl)
     (by rw [qaK,if_neg (by first|(simp;done)|(simp;omega)),if_neg (by first|(simp;done)|(simp;omega)),g 3 (by omega) (by omega) (by omega),h3];unfold trB tpA;by_cases hT:topsF iw=[]<;>simp only [hT,zL,AO.kill,AO.ren,zk,zr,AV.kill,AV.ren,r1,n8,n9,Key.l.injEq,za,if_true,if_false])
     (fun q=>by rw [qaK,if_neg (by first|(simp;done)|(simp;omega)),if_neg (by first|(simp;done)|(simp;omega)),g 900 (by omega) (by omega) (by omega),h9 q];rfl)
     (by
      rw [qaK,if_neg (by first|(simp;done)|(simp;omega)),if_neg (by first|(simp;done)|(simp;omega)),← hLL,qab,if_pos rfl]
      simp only [zL,AO.ren,zO,zk,zr]
      rw [qtK ts (by omega) (fun t ht e=>hne t ht (by omega))]
      simp only [kidR,zO,zk,zr,AV.ren,r1,if_true])
     (by rw [qaK,if_pos rfl,hk0,← hLL];simp only [qab,ZZ,WW,Zd,reduceCtorEq,zd,ze,zb,zf,za];rfl)
     (fun t ht hn=>by rw [qaK,if_neg (by first|(simp;done)|(simp;omega)),if_neg (by first|(simp;done)|(simp;omega)),g _ (by omega) (by omega) (by omega),hr t ht];rfl))
    refine qk5 (il.length - (k+1)) _ L2 (by omega) (ReOk.trans (qoZ 38 (1000+j)) (ReOk.trans (qkK (by simp only [AV.ren,r1,n2,n3,ZZ,WW,Zd,reduceCtorEq,zd,ze,zb,zf,za];try trivial)) r2)) ⟨k+1,by omega,rfl,rfl,hj2⟩
 ·intro h
  have hge:k=il.length:=by have:=of_decide_eq_false h;omega
  rcases hj with ⟨e,_⟩|⟨_,ts,hj⟩
  ·omega
  subst hge
  obtain ⟨h2,h3,hl,hd,hkk⟩:=hj
  have htl:(topsF il).length≤20:=Nat.le_trans (qbF il []) h20
  by_cases hT:topsF il=[]
  ·simp only [trB,tpD,if_pos hT] at h3
   simp only [ZZ,WW,Zd,reduceCtorEq,zd,ze,zb,zf,za,h3,h2,trZ,qab]
   exact ⟨kv,ts,by rw [hT];rfl,hkv,hkn,hl,hd,hkk⟩
  ·simp only [trB,tpD,if_neg hT] at h3
   simp only [ZZ,WW,Zd,reduceCtorEq,zd,ze,zb,zf,za,h3,h2,trZ,qab]
   exact ⟨kv,ts,rfl,hkv,hkn,hl,hd,hkk⟩
end
end Go.Proofs.YtehfjlpenlffmaaGreatDoor
