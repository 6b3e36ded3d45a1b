import Derived.Test.YtekhobchfhhofaaGreatDoorZ12
import Derived.Lib.LastIndexByte
set_option linter.unusedVariables false
set_option linter.unusedSimpArgs false
set_option linter.defProp false
namespace Go.Proofs.YtekhobchfhhofaaGreatDoor
open Nat renaming reduceAdd→zd,reduceEqDiff→zb,reduceLT→zf,reduceLeDiff→za,reduceMul→ze
open List renaming cons_append→zH,drop_eq_nil_of_le→zU,getD→zy,getElem?_eq_getElem→zh,getElem?_eq_some_iff→zm,length_map→zX,map_append→zG,mem_append→zr,mem_of_getElem?→zl,nil_append→zM,range→zz,take_length→ya,take_succ_eq_append_getElem→zI
open Bool renaming and_eq_true→zj
open Go.RowKit
def qaR:IC:=(sR [qT 9 .lss 8 7] (.seq (jE 9) (.seq (.block 1 (sR [qM 10 8,qM 5 10] (sR [qM 11 1,qM 12 0,qM 13 5,qX 14 2 12 13,qO 15 (.ld 2 true (.t 14)),qO 16 (.callv (.t 11) [.t 15])] (jW 16 (sR [qM 17 5,qM 4 17] .ret))))) (.reg [qB 18 .add 8 (cI 1),qM 8 18]))))
abbrev qbL:IC:=(sR [jI 4 0] (.seq (sR [qM 6 0,qN 7 6,jI 8 0] (.block 0 (.loop qaR))) (sR [jI 4 (-1)] .ret)))
theorem qbM:chkF Tryz.prog Tryz.f128 qbL [.t 4] 19=true:=by kernel_rfl
abbrev qbs:IC:=(sR [qO 4 (.mov (.c (.bool false)))] (sR [qM 5 0,qM 6 1,jC 7 128 [.t 5,.t 6],qB 8 .geq 7 (cI 0),qM 4 8] .ret))
theorem qbt:chkF Tryz.prog Tryz.f56 qbs [.t 4] 9=true:=by kernel_rfl
abbrev AdT:=List UInt8×List UInt8
def adC (q:AdT):List PV:=[.str q.1,.str q.2]
def adrE (l:List AdT):List (List PV):=l.map adC
theorem qaE (l:List AdT):(adrE l).length=l.length:=by simp [adrE]
theorem qjR {l:List AdT} {k:Nat} {x:AdT} (h:l[k]?=some x):(adrE l).getD k []=[.str x.1,.str x.2]:=qa5 h
section
variable {E:Envt}
theorem qoS (l:List AdT) (f:FuncId) (ps:List PV) (q:AdT→Bool) (hl:l.length≤1000000000) (hfn:Unit→fnB Tryz.prog f=true) (hps:Zl [] (ps.map .p)=true) (hf:∀ x∈l,PCall Tryz.prog E f (.agg (adC x) :: ps) (·=.bool (q x))) (hn:∀ x,Zbh [] (.p (.agg (adC x)) :: ps.map .p)=some (.agg (adC x) :: ps)) (hr:∀ x,Zbj (.p (.agg (adC x)) :: ps.map .p)=true):PCall Tryz.prog E 128 [.sl 2 (adrE l),.clo f ps] (·=int (idxF q l)):=by
 refine qag mixed Tryz.func128 qbM ?_
 refine zV ?_
 simp only [ZZ,WW,Ze,reduceCtorEq,zd,ze,za,zf,zb,qaE]
 refine qae (fun n fr L=>∃ (k:Nat),k≤l.length∧n=l.length - k∧(∀ x∈l.take k,q x=false)∧fr=(.p (.sl 2 (adrE l))::.p (.clo f ps)::oC (oo::(.p (int (l.length:Nat))::.p (int (k:Nat))::oD (oB []))))∧L=[]) (l.length) _ [] (by simp only [qaE,ZZ,WW,Ze,reduceCtorEq,zd,ze,za,zf,zb];try trivial) zF_ ⟨0,by omega,by omega,by simp,rfl,rfl⟩ ?_
 rintro n fr L ⟨k,hk,rfl,hno,rfl,rfl⟩
 simp only [qaR,ZZ,WW,Ze,reduceCtorEq,zd,ze,za,zf,zb]
 refine br ?_ ?_
 ·intro h
  have hlt:k < l.length:=by have:=of_decide_eq_true h;omega
  obtain ⟨x,hx⟩:∃ x,l[k]?=some x:=⟨_,zh hlt⟩
  have hg:=qjR hx
  simp only [ZZ,WW,Ze,reduceCtorEq,zd,ze,za,zf,zb,hg,qaE,hfn ()]
  refine ⟨⟨by omega,by omega⟩,by omega,hps,?_⟩
  refine use1 (hf x (zl hx)) (hn x) (.inl (hr x)) ?_
  refine zS ?_
  refine br ?_ ?_
  ·intro hq
   refine zS ?_
   rw [qle hx hq hno]
  ·intro hq
   refine zS ?_
   ((with_reducible and_intros)<;>try exact sc_)
   refine qab (l.length - (k+1)) _ [] (by omega) zF_ zF_ ⟨k+1,by omega,rfl,by rw [zI hlt];intro y hy;rcases zr.1 hy with hy|hy;exact hno y hy;rw [List.mem_singleton] at hy;rw [hy,(zm.1 hx).2];exact hq,rfl,rfl⟩
 ·intro h
  have hge:l.length≤k:=by have:=of_decide_eq_false h;omega
  rw [List.take_of_length_le hge] at hno
  refine zS ?_
  rw [qjx hno]
theorem qk2 (l:List AdT) (f:FuncId) (ps:List PV) (q:AdT→Bool) (hl:l.length≤1000000000) (hfn:Unit→fnB Tryz.prog f=true) (hps:Zl [] (ps.map .p)=true) (hf:∀ x∈l,PCall Tryz.prog E f (.agg (adC x) :: ps) (·=.bool (q x))) (hn:∀ x,Zbh [] (.p (.agg (adC x)) :: ps.map .p)=some (.agg (adC x) :: ps)) (hr:∀ x,Zbj (.p (.agg (adC x)) :: ps.map .p)=true):PCall Tryz.prog E 56 [.sl 2 (adrE l),.clo f ps] (·=.bool (l.any q)):=by
 refine qag mixed Tryz.func56 qbt ?_
 refine zV ?_
 refine use1 (qoS l f ps q hl hfn hps hf hn hr) rfl (.inl rfl) ?_
 refine zS ?_
 rw [qlf]
end
abbrev qmA:IC:=(sR [qO 2 (.mov (.c (.bool false)))] (sR [qM 3 0,jC 4 166 [.t 3,.c (.int .i64 0),.c (.int .i64 5761439)],qM 2 4] .ret))
theorem qmF:chkF Tryz.prog Tryz.f116 qmA [.t 2] 5=true:=by kernel_rfl
abbrev qiI:IC:=(sR [qO 2 (.mov (.c (.bool false)))] (sR [qM 3 0,qB 4 .geq 3 (cI 0),qM 5 4,⟨some 6,.mov (.t 0),(some (5,true))⟩,⟨some 7,.bin .lss (.t 6) (cI 5761440),(some (5,true))⟩,qO 8 (.pick (.t 5) (.t 7) (.c (.bool false))),qM 2 8] .ret))
theorem qi0:chkF Tryz.prog Tryz.f53 qiI [.t 2] 9=true:=by kernel_rfl
section
variable {E:Envt}
theorem quQ (n:Int):PCall Tryz.prog E 116 [int n] (·=.bool (inE n 0 5761439)):=by
 refine qag mixed Tryz.func116 qmF ?_
 refine zV ?_
 refine use1 (qq8 n 0 5761439) rfl (.inl rfl) ?_
 simp only [ZZ,WW,Ze,reduceCtorEq,zd,ze,za,zf,zb]
theorem qsM (n:Int):PCall Tryz.prog E 53 [int n] (·=.bool (inE n 0 5761439)):=by
 refine qag mixed Tryz.func53 qi0 ?_
 refine zV ?_
 have:(decide (0≤n) && decide (n < 5761440))=inE n 0 5761439:=by
  unfold inE
  rw [Bool.eq_iff_iff]
  simp only [zj,decide_eq_true_eq]
  omega
 rw [this]
end
theorem qrQ {c:UInt8} {a b a' b':List UInt8} (h:a++c :: b=a'++c :: b') (h1:c∉a) (h2:c∉a'):a=a'∧b=b':=by
 induction a generalizing a' with
 |nil=>
  cases a' with
  |nil=>simpa using h
  |cons x a'=>simp only [zM,zH,List.cons.injEq] at h;exact absurd (by rw [h.1];simp) h2
 |cons y a ih=>
  cases a' with
  |nil=>simp only [zM,zH,List.cons.injEq] at h;exact absurd (by rw [← h.1];simp) h1
  |cons x a'=>
   simp only [zH,List.cons.injEq] at h
   obtain ⟨e1,e2⟩:=ih h.2 (fun hm=>h1 (by simp [hm])) (fun hm=>h2 (by simp [hm]))
   exact ⟨by rw [h.1,e1],e2⟩
theorem hp1 (c:UInt8) (r:List UInt8):Lib.hasPrefix r [c]=true↔∃ t,r=c :: t:=by
 unfold Lib.hasPrefix
 rw [List.isPrefixOf_iff_prefix]
 constructor
 ·rintro ⟨t,rfl⟩;exact ⟨t,rfl⟩
 ·rintro ⟨t,rfl⟩;exact ⟨t,rfl⟩
theorem suf1 (s:List UInt8) (c:UInt8):sufE s [c]=true↔∃ t,s=t++[c]:=by
 unfold sufE
 simp only [zj,decide_eq_true_eq,List.length_cons,List.length_nil,Nat.zero_add]
 constructor
 ·rintro ⟨_,h⟩
  exact ⟨s.take (s.length - 1),by rw [← h,List.take_append_drop]⟩
 ·rintro ⟨t,rfl⟩
  simp
  omega
abbrev qiG:IC:=(sR [qO 2 (.mov (.c (.bool false)))] (sR [qM 3 0,qO 4 (.sln (.t 3)),qB 5 .leq 4 (cI 60),qM 6 5,⟨some 7,.mov (.t 0),(some (6,true))⟩,⟨some 8,.call 59 [.t 7],(some (6,true))⟩,qO 9 (.pick (.t 6) (.t 8) (.c (.bool false))),qM 10 9,⟨some 11,.mov (.t 0),(some (10,true))⟩,⟨some 12,.call 184 [.t 11,.c (.str [34,60,62,44,59])],(some (10,true))⟩,⟨some 13,.not (.t 12),(some (10,true))⟩,qO 14 (.pick (.t 10) (.t 13) (.c (.bool false))),qM 2 14] .ret))
theorem qiY:chkF Tryz.prog Tryz.f126 qiG [.t 2] 15=true:=by kernel_rfl
abbrev qe8:IC:=(sR [qO 1 (.box 42 (.t 0)),qO 2 (.mov (.c (.bool false)))] (sR [wF 3 0 1,qL 4 3,jC 5 126 [.t 4],qM 6 5,⟨some 7,.fla 1 (.t 1),(some (6,true))⟩,⟨some 8,.ld 1 false (.t 7),(some (6,true))⟩,⟨some 9,.call 45 [.t 8],(some (6,true))⟩,qO 10 (.pick (.t 6) (.t 9) (.c (.bool false))),qM 2 10] .ret))
theorem qfg:chkF Tryz.prog Tryz.f54 qe8 [.t 2] 11=true:=by kernel_rfl
theorem qs0 (s:List UInt8) (cs:List UInt8):(Lib.trimRightS s cs).length≤s.length:=by
 unfold Lib.trimRightS
 have:=(List.dropWhile_suffix (l:=s.reverse) (fun x=>cs.contains x)).length_le
 simpa using this
theorem qsY (s:List UInt8) (cs:List UInt8):(Lib.trimS s cs).length≤s.length:=by
 unfold Lib.trimS Lib.trimLeftS
 exact Nat.le_trans (List.dropWhile_suffix _).length_le (qs0 s cs)
theorem qsZ (s:List UInt8) (cs:List UInt8):Lib.trimRightS s cs <+: s:=by
 unfold Lib.trimRightS
 have:=List.reverse_prefix.2 (List.dropWhile_suffix (l:=s.reverse) (fun x=>cs.contains x))
 rwa [List.reverse_reverse] at this
theorem qxo (s:List UInt8):decide (Lib.trimS s [32]=s)=(!Lib.hasPrefix s [32] && !sufE s [32]):=by
 by_cases h1:Lib.hasPrefix s [32]=true
 ·obtain ⟨t,rfl⟩:=(hp1 _ _).1 h1
  rw [h1,decide_eq_false]
  ·rfl
  ·intro h
   have hl:=congrArg List.length h
   have hp:=qsZ (32 :: t) [32]
   unfold Lib.trimS Lib.trimLeftS at hl
   cases hu:Lib.trimRightS (32 :: t) [32] with
   |nil=>rw [hu] at hl;simp at hl
   |cons y u=>
    rw [hu] at hl hp
    have hy:y=32:=by obtain ⟨r,hr⟩:=hp;simp at hr;exact hr.1
    subst hy
    have h2:=hp.length_le
    have h3:=(List.dropWhile_suffix (l:=u) (fun x=>[(32:UInt8)].contains x)).length_le
    simp [List.dropWhile_cons] at hl h2 h3
    omega
 ·have h1':Lib.hasPrefix s [32]=false:=Bool.eq_false_iff.2 h1
  rw [h1']
  by_cases h2:sufE s [32]=true
  ·rw [h2,decide_eq_false]
   ·rfl
   ·intro h
    obtain ⟨t,rfl⟩:=(suf1 _ _).1 h2
    have hl:=congrArg List.length h
    have h3:=qsY t [32]
    have e:Lib.trimS (t++[32]) [32]=Lib.trimS t [32]:=by
     unfold Lib.trimS Lib.trimRightS
     simp [List.dropWhile_cons]
    rw [e] at hl
    simp at hl
    omega
  ·have h2':sufE s [32]=false:=Bool.eq_false_iff.2 h2
   rw [h2',decide_eq_true]
   ·rfl
   ·have hr:Lib.trimRightS s [32]=s:=by
     unfold Lib.trimRightS
     cases hs:s.reverse with
     |nil=>simp at hs;subst hs;rfl
     |cons y r=>
      have hy:y≠32:=by
       rintro rfl
       apply h2
       refine (suf1 _ _).2 ⟨r.reverse,?_⟩
       have:=congrArg List.reverse hs
       simpa using this
      rw [List.dropWhile_cons,if_neg (by simp [hy]),← hs,List.reverse_reverse]
    unfold Lib.trimS
    rw [hr]
    unfold Lib.trimLeftS
    cases s with
    |nil=>rfl
    |cons y r=>
     have hy:y≠32:=by
      rintro rfl
      exact h1 ((hp1 _ _).2 ⟨r,rfl⟩)
     rw [List.dropWhile_cons,if_neg (by simp [hy])]
abbrev qh6:IC:=(sR [qO 2 (.mov (.c (.bool false)))] (sR [qM 3 0,jC 4 129 [.t 3,.c (.bool false)],qM 5 4,⟨some 6,.mov (.t 0),(some (5,true))⟩,⟨some 7,.call 130 [.t 6,.c (.str [32])],(some (5,true))⟩,⟨some 8,.mov (.t 0),(some (5,true))⟩,⟨some 9,.bin .eql (.t 7) (.t 8),(some (5,true))⟩,qO 10 (.pick (.t 5) (.t 9) (.c (.bool false))),qM 11 10,⟨some 12,.mov (.t 0),(some (11,true))⟩,⟨some 13,.call 131 [.t 12,.c (.str [32,32])],(some (11,true))⟩,⟨some 14,.not (.t 13),(some (11,true))⟩,qO 15 (.pick (.t 11) (.t 14) (.c (.bool false))),qM 2 15] .ret))
theorem qii:chkF Tryz.prog Tryz.f59 qh6 [.t 2] 16=true:=by kernel_rfl
theorem qnv (s:List UInt8) (hs:s.length≤1000000000):PCall Tryz.prog E0 59 [.str s] (·=.bool (qm2 s)):=by
 refine qag mixed Tryz.func59 qii ?_
 refine zV ?_
 refine use1 (qi8 s false hs) rfl (.inl rfl) ?_
 refine zS ?_
 refine useG (fun _=>qkt s [32] hs (by decide) (by decide)) rfl (.inl rfl) ?_
 refine zS ?_
 refine useG (fun _=>qgt s [32,32] hs) rfl (.inl rfl) ?_
 refine zS ?_
 rw [qm2,qxo]
 cases visE s false<;>cases Lib.hasPrefix s [32]<;>cases sufE s [32]<;>rfl
theorem qtI (s:List UInt8) (hs:s.length≤1000000000):PCall Tryz.prog E0 126 [.str s] (·=.bool (qn1 s)):=by
 refine qag mixed Tryz.func126 qiY ?_
 refine zV ?_
 refine useG (fun _=>qnv s (by omega)) rfl (.inl rfl) ?_
 refine zS ?_
 refine useG (fun _=>qip s qys hs (by decide) (by decide)) rfl (.inl rfl) ?_
 refine zS ?_
 ((with_reducible and_intros)<;>try exact sc_)
theorem qhE (n m:List UInt8) (hn:n.length≤1000000000) (hm:m.length≤1000000000):PCall Tryz.prog E0 54 [.agg [.str n,.str m]] (·=.bool (qn1 n && qcN m)):=by
 refine qag mixed Tryz.func54 qfg ?_
 refine zV ?_
 refine use1 (qtI n hn) rfl (.inl rfl) ?_
 refine zS ?_
 refine useG (fun _=>qjV m (by omega)) rfl (.inl rfl) ?_
 simp only [ZZ,WW,Ze,reduceCtorEq,zd,ze,za,zf,zb]
def qeh:IC:=(sR [qT 8 .lss 7 6] (.seq (jE 8) (.seq (.block 1 (sR [qM 9 7,qM 3 9] (sR [qM 10 0,qM 11 3,qO 12 (.idx (.t 10) (.t 11)),qM 4 12] (sR [qM 13 4,qB 14 .lss 13 (.c (.int .u8 33)),qM 15 14,⟨some 16,.mov (.t 4),(some (15,false))⟩,⟨some 17,.bin .gtr (.t 16) (.c (.int .u8 126)),(some (15,false))⟩,qO 18 (.pick (.t 15) (.c (.bool true)) (.t 17)),qM 19 18,⟨some 20,.mov (.t 4),(some (19,false))⟩,⟨some 21,.bin .eql (.t 20) (.c (.int .u8 60)),(some (19,false))⟩,qO 22 (.pick (.t 19) (.c (.bool true)) (.t 21)),qM 23 22,⟨some 24,.mov (.t 4),(some (23,false))⟩,⟨some 25,.bin .eql (.t 24) (.c (.int .u8 62)),(some (23,false))⟩,qO 26 (.pick (.t 23) (.c (.bool true)) (.t 25))] (jW 26 (sR [qO 2 (.mov (.c (.bool false)))] .ret)))))) (.reg [qB 27 .add 7 (cI 1),qM 7 27]))))
abbrev qke:IC:=(sR [qO 2 (.mov (.c (.bool false)))] (.seq (sR [qM 5 0,qO 6 (.sln (.t 5)),jI 7 0] (.block 0 (.loop qeh))) (sR [qM 28 0,qO 29 (.sln (.t 28)),jC 30 166 [.t 29,.c (.int .i64 1),.c (.int .i64 80)],qM 2 30] .ret)))
theorem qko:chkF Tryz.prog Tryz.f175 qke [.t 2] 31=true:=by kernel_rfl
abbrev qmx:IC:=(sR [qO 2 (.mov (.c (.bool false)))] (sR [qM 3 0,jC 4 175 [.t 3],qM 2 4] .ret))
theorem qmC:chkF Tryz.prog Tryz.f115 qmx [.t 2] 5=true:=by kernel_rfl
def qcU:IC:=(.seq (sR [qM 4 3,qM 5 0,qO 6 (.sln (.t 5)),qT 7 .lss 4 6] (jE 7)) (.seq (.block 1 (sR [qM 10 0,qM 11 3,qO 12 (.idx (.t 10) (.t 11)),qB 13 .lss 12 (.c (.int .u8 33)),qM 14 13,⟨some 15,.mov (.t 0),(some (14,false))⟩,⟨some 16,.mov (.t 3),(some (14,false))⟩,⟨some 17,.idx (.t 15) (.t 16),(some (14,false))⟩,⟨some 18,.bin .gtr (.t 17) (.c (.int .u8 126)),(some (14,false))⟩,qO 19 (.pick (.t 14) (.c (.bool true)) (.t 18)),qM 20 19,⟨some 21,.mov (.t 0),(some (20,false))⟩,⟨some 22,.mov (.t 3),(some (20,false))⟩,⟨some 23,.idx (.t 21) (.t 22),(some (20,false))⟩,⟨some 24,.bin .eql (.t 23) (.c (.int .u8 60)),(some (20,false))⟩,qO 25 (.pick (.t 20) (.c (.bool true)) (.t 24)),qM 26 25,⟨some 27,.mov (.t 0),(some (26,false))⟩,⟨some 28,.mov (.t 3),(some (26,false))⟩,⟨some 29,.idx (.t 27) (.t 28),(some (26,false))⟩,⟨some 30,.bin .eql (.t 29) (.c (.int .u8 62)),(some (26,false))⟩,qO 31 (.pick (.t 26) (.c (.bool true)) (.t 30))] (jW 31 (sR [qO 2 (.mov (.c (.bool false)))] .ret)))) (.reg [qM 8 3,qB 9 .add 8 (cI 1),qM 3 9])))
abbrev qgM:IC:=(sR [qO 2 (.mov (.c (.bool false)))] (.seq (sR [jI 3 0] (.block 0 (.loop qcU))) (sR [qM 32 0,qO 33 (.sln (.t 32)),qB 34 .geq 33 (cI 1),qM 35 34,⟨some 36,.mov (.t 0),(some (35,true))⟩,⟨some 37,.sln (.t 36),(some (35,true))⟩,⟨some 38,.bin .leq (.t 37) (cI 80),(some (35,true))⟩,qO 39 (.pick (.t 35) (.t 38) (.c (.bool false))),qM 2 39] .ret)))
theorem qgW:chkF Tryz.prog Tryz.f52 qgM [.t 2] 40=true:=by kernel_rfl
def idC (c:UInt8):Bool:=!(((decide ((c.toNat:Int) < 33) || decide (126 < (c.toNat:Int))) || decide ((c.toNat:Int)=60)) || decide ((c.toNat:Int)=62))
def idB (s:List UInt8):Bool:=s.all idC && inE s.length 1 80
section
variable {E:Envt}
theorem qqf (s:List UInt8) (hs:s.length≤1000000000):PCall Tryz.prog E 175 [.str s] (·=.bool (idB s)):=by
 refine qag mixed Tryz.func175 qko ?_
 refine zV ?_
 refine qae (fun n fr L=>∃ (k:Nat),k≤s.length∧n=s.length - k∧((s.take k).all idC=true)∧fr=(.p (.str s)::oC (oo::(.p (int (s.length:Nat))::.p (int (k:Nat))::oE (oC (oB (oo::[]))))))∧L=[]) (s.length) _ [] zF_ zF_ ⟨0,by omega,by omega,by simp,rfl,rfl⟩ ?_
 rintro n fr L ⟨k,hk,rfl,ha,rfl,rfl⟩
 simp only [qeh,ZZ,WW,Ze,reduceCtorEq,zd,ze,za,zf,zb]
 refine br ?_ ?_
 ·intro h
  have hlt:k < s.length:=by have:=of_decide_eq_true h;omega
  obtain ⟨c,hc⟩:∃ c,s[k]?=some c:=⟨_,zh hlt⟩
  have hg:s.getD k 0=c:=by simp [zy,hc]
  simp only [ZZ,WW,Ze,reduceCtorEq,zd,ze,za,zf,zb,hg]
  ((with_reducible and_intros)<;>try exact sc_)
  refine br ?_ ?_
  ·intro hx
   have hf:idC c=false:=by unfold idC;rw [hx];rfl
   refine zS ?_
   rw [idB,qhB hc hf]
   rfl
  ·intro hx
   have hf:idC c=true:=by unfold idC;rw [hx];rfl
   refine zS ?_
   refine ⟨qam (by omega) (by omega),?_⟩
   refine qab (s.length - (k+1)) _ [] (by omega) zF_ zF_ ⟨k+1,by omega,rfl,by rw [qoH hc,ha,hf];rfl,rfl,rfl⟩
 ·intro h
  have hge:k=s.length:=by have:=of_decide_eq_false h;omega
  subst hge
  rw [ya] at ha
  refine zS ?_
  refine use1 (qq8 _ _ _) rfl (.inl rfl) ?_
  refine zS ?_
  rw [idB,ha]
  rfl
theorem qji (s:List UInt8) (hs:s.length≤1000000000):PCall Tryz.prog E 52 [.str s] (·=.bool (idB s)):=by
 refine qag mixed Tryz.func52 qgW ?_
 refine zV ?_
 refine qae (fun n fr L=>∃ (k:Nat),k≤s.length∧n=s.length - k∧((s.take k).all idC=true)∧fr=(.p (.str s)::oo::oo::.p (int (k:Nat))::oF (oC []))∧L=[]) (s.length) _ [] zF_ zF_ ⟨0,by omega,by omega,by simp,rfl,rfl⟩ ?_
 rintro n fr L ⟨k,hk,rfl,ha,rfl,rfl⟩
 simp only [qcU,ZZ,WW,Ze,reduceCtorEq,zd,ze,za,zf,zb]
 refine br ?_ ?_
 ·intro h
  have hlt:k < s.length:=by have:=of_decide_eq_true h;omega
  obtain ⟨c,hc⟩:∃ c,s[k]?=some c:=⟨_,zh hlt⟩
  have hg:s.getD k 0=c:=by simp [zy,hc]
  simp only [ZZ,WW,Ze,reduceCtorEq,zd,ze,za,zf,zb,hg]
  ((with_reducible and_intros)<;>try exact sc_)
  refine br ?_ ?_
  ·intro hx
   have hf:idC c=false:=by unfold idC;rw [hx];rfl
   refine zS ?_
   rw [idB,qhB hc hf]
   rfl
  ·intro hx
   have hf:idC c=true:=by unfold idC;rw [hx];rfl
   refine zS ?_
   refine ⟨qam (by omega) (by omega),?_⟩
   refine qab (s.length - (k+1)) _ [] (by omega) zF_ zF_ ⟨k+1,by omega,rfl,by rw [qoH hc,ha,hf];rfl,rfl,rfl⟩
 ·intro h
  have hge:k=s.length:=by have:=of_decide_eq_false h;omega
  subst hge
  rw [ya] at ha
  refine zS ?_
  rw [idB,ha]
  rfl
theorem qt5 (s:List UInt8) (hs:s.length≤1000000000):PCall Tryz.prog E 115 [.str s] (·=.bool (idB s)):=by
 refine qag mixed Tryz.func115 qmC ?_
 refine zV ?_
 refine use1 (qqf s hs) rfl (.inl rfl) ?_
 simp only [ZZ,WW,Ze,reduceCtorEq,zd,ze,za,zf,zb]
end
structure Ltr where
 id:List UInt8
 at_:Int
 fr:AdT
 tos:List AdT
 ccs:List AdT
 refs:List (List UInt8)
 sub:List UInt8
 body:List UInt8
def ltV (m:Ltr):List PV:=[.str m.id,int m.at_,.str m.fr.1,.str m.fr.2,.sl 2 (adrE m.tos),.sl 2 (adrE m.ccs),.sl 1 (strE m.refs),.str m.sub,.str m.body]
def adB (a:AdT):Bool:=qn1 a.1 && qcN a.2
def adF1 (l:List AdT) (k:Nat):Int:=qaf [qap (!adB (l.getD k ([],[]))) 3,qap ((l.take k).any (fun p=>decide (p.2=(l.getD k ([],[])).2))) 6]
def qqb (l:List AdT):Int:=qaf ((zz l.length).map (adF1 l))
def qhT (id:List UInt8) (l:List (List UInt8)) (k:Nat):Int:=qaf [qap (!idB (l.getD k [])) 3,qap (decide (l.getD k []∈l.take k)) 6,qap (decide (l.getD k []=id)) 14]
def qqw (id:List UInt8) (l:List (List UInt8)):Int:=qaf ((zz l.length).map (qhT id l))
def qg3 (s:List UInt8):Int:=qap (decide (200 < (s.length:Int)) || !qm2 s) 3
def qjX (m:Ltr):Int:=if 50 < (m.refs.length:Int) then 2 else qaf [qqw m.id m.refs,qg3 m.sub,qel m.body]
def letF (m:Ltr):Int:=
 if idB m.id=false then 3 else if inE m.at_ 0 5761439=false then 1 else if adB m.fr=false then 3 else
 if 100 < (m.tos.length:Int)+m.ccs.length then 2 else qaf [qqb (m.tos++m.ccs),qjX m]
def LtB (m:Ltr):Prop:=m.id.length≤1000000∧m.fr.1.length≤1000000∧m.fr.2.length≤1000000∧m.tos.length≤100000∧(∀ a∈m.tos,a.1.length≤1000000∧a.2.length≤1000000)∧m.ccs.length≤100000∧(∀ a∈m.ccs,a.1.length≤1000000∧a.2.length≤1000000)∧m.refs.length≤1000000∧(∀ r∈m.refs,r.length≤1000000)∧m.sub.length≤1000000∧m.body.length≤1000000
theorem qaq (e:Int) (r:List Int):qaf (e :: r)=if e=0 then qaf r else e:=rfl
theorem qcv:qaf []=0:=rfl
def ltE (l:List Ltr):List (List PV):=l.map ltV
theorem qaS (l:List Ltr):(ltE l).length=l.length:=by simp [ltE]
theorem qf4 {l:List Ltr} {k:Nat} {x:Ltr} (h:l[k]?=some x):(ltE l).getD k []=ltV x:=qa5 h
def qed (l:List Ltr):Nat:=(l.map fun m=>m.body.length).sum
theorem qhv {l:List Ltr} {k:Nat} {x:Ltr} (h:l[k]?=some x):qed (l.take (k+1))=qed (l.take k)+x.body.length:=by
 obtain ⟨hk,hx⟩:=zm.1 h
 unfold qed
 rw [zI hk,zG,List.sum_append,hx]
 simp
theorem qnq (l:List Ltr) (h:∀ m∈l,m.body.length≤1000000):∀ k,k≤l.length→qed (l.take k)≤1000000 * k:=by
 intro k
 induction k with
 |zero=>intro _;simp [qed]
 |succ k ih=>
  intro hk
  have hx:l[k]?=some l[k]:=zh (by omega)
  have:=ih (by omega)
  have hb:=h l[k] (List.getElem_mem (by omega))
  rw [qhv hx]
  omega
def qhd (l:List Ltr) (z:Ltr) (k:Nat):Int:=qaf [letF (l.getD k z),qap ((l.take k).any (fun p=>decide (p.id=(l.getD k z).id))) 6]
def ltsF (l:List Ltr):Int:=if 2000 < (l.length:Int) then 2 else qaf [qaf ((zz l.length).map (qhd l ⟨[],0,([],[]),[],[],[],[],[]⟩)),qap (decide (500000 < (qed l:Int))) 2]
def qj2 (m:Ltr):List (List UInt8):=m.fr.2 :: (m.tos++m.ccs).map (·.2)
theorem quH {α:Type} (l:List α) (f:α→List UInt8) (s:List UInt8):decide (s∈l.map f)=l.any (fun p=>decide (f p=s)):=by
 rw [Bool.eq_iff_iff,decide_eq_true_iff,List.any_eq_true,List.mem_map]
 simp
theorem qhG {n:Nat} (f:Nat→Int) {k:Nat} (h:k < n):((zz n).map f)[k]?=some (f k):=by simp [h]
theorem qdk {α β:Type} {l:List α} {k:Nat} {x:α} (f:α→β) (h:l[k]?=some x):(l.take (k+1)).map f=(l.take k).map f++[f x]:=by
 obtain ⟨hk,hx⟩:=zm.1 h
 rw [zI hk,zG,hx]
 rfl
abbrev qcu:IC:=(sR [qO 4 (.mov (.c (.nl 2)))] (.seq (sR [qM 5 1,qB 6 .lss 5 (cI 0)] (jW 6 (.reg [qO 7 (.dead),⟨none,.dead,none⟩]))) (.cut (.seq (sR [qM 8 1,qM 9 0,qO 10 (.cap0 (.t 9)),qM 11 0,qN 12 11,qT 13 .sub 10 12,qT 14 .sub 8 13,qM 1 14] (sR [qM 15 1,qB 16 .gtr 15 (cI 0)] (jW 16 (.reg [qM 17 0,qM 18 0,qO 19 (.cap0 (.t 18)),qO 20 (.vsn (.t 17) (.t 19)),qM 21 1,qO 22 (.apz 42 2 32 [.str [],.str []] (.t 20) (.t 21)),qM 23 0,qN 24 23,qO 25 (.trn 2 (.t 22) (.t 24)),qM 0 25])))) (.cut (sR [qM 26 0,qM 4 26] .ret))))))
theorem qcw:chkF Tryz.prog Tryz.f127 qcu [.t 4] 27=true:=by kernel_rfl
def qaX:IC:=(sR [qT 28 .lss 27 26] (.seq (.cond (.t 28) .skip (.exit 2)) (.seq (.block 3 (sR [qX 29 1 25 27,qL 30 29,qM 8 30] (.reg [qM 31 6,qM 32 8,qO 33 (.app 42 2 32 (.t 31) (.t 32)),qM 6 33]))) (.reg [qB 34 .add 27 (cI 1),qM 27 34]))))
def qaY:IC:=(sR [qT 12 .lss 11 10] (.seq (jE 12) (.seq (.block 1 (sR [qX 13 1 9 11,qL 14 13,qM 5 14] (sR [qM 15 3,qM 16 5,qN 17 16,qT 18 .add 15 17,qM 3 18] (sR [qM 19 3,qB 20 .lss 19 (cI 0)] (jW 20 (.reg [qO 21 (.dead),⟨none,.dead,none⟩])))))) (.cut (.reg [qB 22 .add 11 (cI 1),qM 11 22])))))
abbrev qb5:IC:=(sR [qO 2 (.mov (.c (.nl 2)))] (sR [jI 3 0] (.seq (sR [qM 9 0,qN 10 9,jI 11 0] (.block 0 (.loop qaY))) (sR [qM 23 3,jC 24 127 [.c (.nl 2),.t 23],qM 6 24] (.seq (sR [qM 25 0,qN 26 25,jI 27 0] (.block 2 (.loop qaX))) (sR [qM 35 6,qM 2 35] .ret))))))
theorem qb7:chkF Tryz.prog Tryz.f55 qb5 [.t 2] 36=true:=by kernel_rfl
abbrev tAdr:Nat:=42
section
variable {E:Envt}
theorem qwV (n:Nat) (hn:n≤1000000000):FCall Tryz.prog E 127 [.nl 2,int n] tAdr 2 (·=[]):=by
 unfold FCall
 refine qe1 mixed Tryz.func127 qcw ?_
 refine zV ?_
 refine br ?_ ?_
 ·intro h
  have:=of_decide_eq_true h
  omega
 ·intro h
  refine zS ?_
  refine qad zE_ ?_
  refine zS ?_
  ((with_reducible and_intros)<;>try exact sc_)
  refine br ?_ ?_
  ·intro h2
   have h2:=of_decide_eq_true h2
   refine zS ?_
   ((with_reducible and_intros)<;>try exact sc_)
   refine qad zE_ ?_
   refine zS ?_
   exact qiM 22 [] rfl rfl rfl
  ·intro h2
   refine zS ?_
   refine qad zE_ ?_
   refine zS ?_
   exact qAj rfl rfl
def qhU (ls:List (List AdT)):Nat:=(ls.map List.length).sum
theorem qnf {ls:List (List AdT)} {k:Nat} {x:List AdT} (h:ls[k]?=some x):qhU (ls.take (k+1))=qhU (ls.take k)+x.length:=by
 obtain ⟨hk,hx⟩:=zm.1 h
 unfold qhU
 rw [zI hk,zG,List.sum_append,hx]
 simp
theorem qsw {ls:List (List AdT)} {k:Nat} {x:List AdT} (h:ls[k]?=some x):(ls.take (k+1)).flatten=(ls.take k).flatten++x:=by
 obtain ⟨hk,hx⟩:=zm.1 h
 rw [zI hk,List.flatten_append,hx]
 simp
theorem qlc (ls:List (List AdT)) (k:Nat):qhU (ls.take k)≤qhU ls:=by
 unfold qhU
 conv=>rhs;rw [← List.take_append_drop k ls,zG,List.sum_append]
 omega
theorem quc (ls:List (List AdT)):ls.flatten.length=qhU ls:=by simp [qhU,List.length_flatten]
theorem qhR (ls:List (List AdT)) (hn:ls.length≤1000000) (hs:qhU ls≤1000000000):FCall Tryz.prog E 55 [.sl 1 (ls.map fun l=>[PV.sl 2 (adrE l)])] tAdr 2 (·=ls.flatten.map adC):=by
 unfold FCall
 refine qe1 mixed Tryz.func55 qb7 ?_
 refine zV ?_
 have hln:(ls.map fun l=>[PV.sl 2 (adrE l)]).length=ls.length:=by simp
 have hget:∀ k s,ls[k]?=some s→(ls.map fun l=>[PV.sl 2 (adrE l)]).getD k []=[.sl 2 (adrE s)]:=fun k s hs=>qa5 hs
 generalize (ls.map fun l=>[PV.sl 2 (adrE l)])=es at hln hget ⊢
 simp only [hln]
 refine qae (fun n fr L=>∃ (k:Nat),k≤ls.length∧n=ls.length - k∧fr=(.p (.sl 1 es)::oo::.p (.nl 2)::.p (int (qhU (ls.take k):Nat))::oC (oo::(.p (.sl 1 es)::.p (int (ls.length:Nat))::.p (int (k:Nat))::oE (oD []))))∧L=[]) ls.length _ [] zF_ zE_ ⟨0,by omega,by omega,rfl,rfl⟩ ?_
 rintro n fr L ⟨k,hk,rfl,rfl,rfl⟩
 simp only [qaY,ZZ,WW,Ze,reduceCtorEq,zd,ze,za,zf,zb]
 have hle:=qlc ls k
 refine br ?_ ?_
 ·intro h
  have hlt:k < ls.length:=by have:=of_decide_eq_true h;omega
  obtain ⟨s,hs⟩:∃ x,ls[k]?=some x:=⟨_,zh hlt⟩
  have hg:=hget k s hs
  have hnx:=qnf hs
  have hle':=qlc ls (k+1)
  simp only [ZZ,WW,Ze,reduceCtorEq,zd,ze,za,zf,zb,hg,qaE,hln]
  ((with_reducible and_intros)<;>try exact sc_)
  refine br ?_ ?_
  ·intro h2
   have:=of_decide_eq_true h2
   omega
  ·intro h2
   refine zS ?_
   refine qad zE_ ?_
   refine zS ?_
   refine ⟨qam (by omega) (by omega),?_⟩
   refine qab (ls.length - (k+1)) _ [] (by omega) (by rw [hnx];simp only [Int.natCast_add,ZZ,WW,Ze,reduceCtorEq,zd,ze,za,zf,zb];try trivial) zE_ ⟨k+1,by omega,rfl,rfl,rfl⟩
 ·intro h
  have hge:k=ls.length:=by have:=of_decide_eq_false h;omega
  subst hge
  rw [ya]
  refine zS ?_
  refine qAA (qwV (qhU ls) hs) rfl ?_
  rintro es' rfl
  simp only [ZZ,WW,Ze,reduceCtorEq,zd,ze,za,zf,zb,hln]
  refine qae (fun n fr L=>∃ (k:Nat),k≤ls.length∧n=ls.length - k∧fr=(.p (.sl 1 es)::oo::.p (.nl 2)::oo::oo::oo::.row (.l 24)::oE (oB (.p (.sl 1 es)::.p (int (ls.length:Nat))::.p (int (k:Nat))::oD [])))∧L=[(.l 24,.row ((ls.take k).flatten.map adC) tAdr 2 true)]) ls.length _ [(.l 24,.row [] tAdr 2 true)] zF_ zE_ ⟨0,by omega,by omega,rfl,rfl⟩ ?_
  rintro n fr L ⟨k,hk,rfl,rfl,rfl⟩
  simp only [qaX,ZZ,WW,Ze,reduceCtorEq,zd,ze,za,zf,zb]
  have hle:=qlc ls k
  refine br ?_ ?_
  ·intro h
   have hlt:k < ls.length:=by have:=of_decide_eq_true h;omega
   obtain ⟨s,hs⟩:∃ x,ls[k]?=some x:=⟨_,zh hlt⟩
   have hg:=hget k s hs
   have hnx:=qnf hs
   have hfx:=qsw hs
   have hle':=qlc ls (k+1)
   have hfl:((ls.take k).flatten.map adC).length=qhU (ls.take k):=by rw [zX,quc]
   simp only [ZZ,WW,Ze,reduceCtorEq,zd,ze,za,zf,zb,hg,hln,qaE]
   simp only [hfl,zX]
   ((with_reducible and_intros)<;>try exact sc_)
   refine qab (ls.length - (k+1)) _ _ (by omega) zF_ (by rw [hfx,zG];simp only [ZZ,WW,Ze,reduceCtorEq,zd,ze,za,zf,zb,adrE]) ⟨k+1,by omega,rfl,rfl,rfl⟩
  ·intro h
   have hge:k=ls.length:=by have:=of_decide_eq_false h;omega
   subst hge
   rw [ya]
   refine zS ?_
   exact qiM 24 _ rfl rfl rfl
end
def qeV:IC:=(sR [qT 72 .lss 71 70] (.seq (.cond (.t 72) .skip (.exit 3)) (.seq (.block 4 (sR [qM 73 71,qX 74 1 69 71,qL 75 74,qM 7 73,qM 8 75] (.seq (.drg [qM 76 8,qO 77 (.pcall 0 115 [.t 76]),qO 78 (.not (.t 77)),qO 79 (.pcall 1 99 [.t 78,.c (.int .i64 3)]),wF 80 6 1,qL 81 80,qM 82 7,qO 83 (.vsl 1 (.t 81) none (some (.t 82))),qM 84 8,qO 85 (.pcall 2 58 [.t 83,.t 84]),qO 86 (.pcall 3 99 [.t 85,.c (.int .i64 6)]),qM 87 8,wF 88 0 1,qL 89 88,qT 90 .eql 87 89,qO 91 (.pcall 4 99 [.t 90,.c (.int .i64 14)]),qO 92 (.bsl 1 [.t 79,.t 86,.t 91]),qO 93 (.pcall 5 38 [.t 92]),qM 9 93]) (sR [qM 94 9,qB 95 .neq 94 (cI 0)] (jW 95 (sR [qM 96 9,qM 2 96] .ret)))))) (.reg [qB 97 .add 71 (cI 1),qM 71 97]))))
def qeW:IC:=(sR [qT 43 .lss 42 41] (.seq (.cond (.t 43) .skip (.exit 1)) (.seq (.block 2 (sR [qX 44 2 40 42,qO 45 (.ld 2 true (.t 44)),qO 5 (.alc 42 [.str [],.str []]),qS 2 5 45] (.seq (.seq (.drg [qO 46 (.ld 2 true (.t 5)),qO 47 (.pcall 0 117 [.t 46]),qO 48 (.not (.t 47)),qO 49 (.pcall 1 99 [.t 48,.c (.int .i64 3)]),qM 50 3,wF 51 1 5,qL 52 51,qO 53 (.mpl false (.bool false) (.t 50) (.t 52)),qO 54 (.pcall 2 99 [.t 53,.c (.int .i64 6)]),qO 55 (.bsl 1 [.t 49,.t 54]),qO 56 (.pcall 3 38 [.t 55]),qM 6 56]) (sR [qM 57 6,qB 58 .neq 57 (cI 0)] (jW 58 (sR [qM 59 6,qM 2 59] .ret)))) (.reg [qM 60 3,wF 61 1 5,qL 62 61,⟨none,.mpu (.t 60) (.t 62) (.c (.bool true)),none⟩])))) (.reg [qB 63 .add 42 (cI 1),qM 42 63]))))
abbrev qlQ:IC:=(sR [qO 1 (.box 45 (.t 0)),jI 2 0] (.seq (.block 0 (sR [wF 11 0 1,qL 12 11,jC 13 115 [.t 12],qO 14 (.not (.t 13)),qM 10 14] (.cond (.t 10) (sR [jI 2 3] .ret) (sR [wF 16 1 1,qL 17 16,jC 18 116 [.t 17],qO 19 (.not (.t 18)),qM 15 19] (.cond (.t 15) (sR [jI 2 1] .ret) (sR [wF 21 2 1,qO 22 (.ld 2 true (.t 21)),jC 23 117 [.t 22],qO 24 (.not (.t 23)),qM 20 24] (.cond (.t 20) (sR [jI 2 3] .ret) (sR [wF 26 4 1,qL 27 26,qN 28 27,wF 29 5 1,qL 30 29,qN 31 30,qT 32 .add 28 31,qB 33 .gtr 32 (cI 100),qM 25 33] (jW 25 (sR [jI 2 2] .ret)))))))))) (sR [qO 34 (.mkm 9 4),qM 3 34] (.seq (sR [wF 35 4 1,qL 36 35,wF 37 5 1,qL 38 37,qO 39 (.bsl 1 [.t 36,.t 38]),jC 40 55 [.t 39],qN 41 40,jI 42 0] (.block 1 (.loop qeW))) (.seq (sR [wF 64 6 1,qL 65 64,qN 66 65,qB 67 .gtr 66 (cI 50)] (jW 67 (sR [jI 2 2] .ret))) (.seq (sR [wF 68 6 1,qL 69 68,qN 70 69,jI 71 0] (.block 3 (.loop qeV))) (.seq (.drg [wF 98 7 1,qL 99 98,qO 100 (.sln (.t 99)),qB 101 .gtr 100 (cI 200),qM 102 101,⟨some 103,.fla 7 (.t 1),(some (102,false))⟩,⟨some 104,.ld 1 false (.t 103),(some (102,false))⟩,⟨some 105,.pcall 0 118 [.t 104],(some (102,false))⟩,⟨some 106,.not (.t 105),(some (102,false))⟩,qO 107 (.pick (.t 102) (.c (.bool true)) (.t 106)),qO 108 (.pcall 1 99 [.t 107,.c (.int .i64 3)]),wF 109 8 1,qL 110 109,qO 111 (.pcall 2 119 [.t 110]),qO 112 (.bsl 1 [.t 108,.t 111]),qO 113 (.pcall 3 38 [.t 112]),qM 2 113]) .ret)))))))
theorem ql2:chkF Tryz.prog Tryz.f48 qlQ [.t 2] 114=true:=by kernel_rfl
abbrev qa4:Nat:=45
theorem cat2 (a b:List AdT):[a,b].flatten.map adC=adrE (a++b):=by simp [adrE]
theorem qo6 (l:List (List UInt8)) (k:Nat):(strE l).take k=strE (l.take k):=by simp [strE,List.map_take]
theorem qjS (m:Ltr) (hm:LtB m):PCall Tryz.prog E0 48 [.agg (ltV m)] (·=int (letF m)):=by
 obtain ⟨b1,b2,b3,b4,b5,b6,b7,b8,b9,b10,b11⟩:=hm
 refine qag mixed Tryz.func48 ql2 ?_
 refine zV ?_
 simp only [ltV,ZZ,WW,Ze,reduceCtorEq,zd,ze,za,zf,zb]
 refine use1 (qt5 m.id (by omega)) rfl (.inl rfl) ?_
 refine zS ?_
 refine br ?_ ?_
 ·intro h
  have h1:idB m.id=false:=by simpa using h
  refine zS ?_
  rw [letF,if_pos h1]
 intro h
 have h1:¬ idB m.id=false:=by simpa using h
 refine zS ?_
 refine use1 (quQ m.at_) rfl (.inl rfl) ?_
 refine zS ?_
 refine br ?_ ?_
 ·intro h
  have h2:inE m.at_ 0 5761439=false:=by simpa using h
  refine zS ?_
  rw [letF,if_neg h1,if_pos h2]
 intro h
 have h2:¬ inE m.at_ 0 5761439=false:=by simpa using h
 refine zS ?_
 refine use1 (qrr m.fr.1 m.fr.2 (by omega) (by omega)) rfl (.inl rfl) ?_
 refine zS ?_
 refine br ?_ ?_
 ·intro h
  have h3:adB m.fr=false:=by unfold adB;rwa [Bool.not_eq_true'] at h
  refine zS ?_
  rw [letF,if_neg h1,if_neg h2,if_pos h3]
 intro h
 have h3:¬ adB m.fr=false:=by unfold adB;rw [Bool.not_eq_false'] at h;rw [h];decide
 simp only [ZZ,WW,Ze,reduceCtorEq,zd,ze,za,zf,zb,qaE]
 ((with_reducible and_intros)<;>try exact sc_)
 refine br ?_ ?_
 ·intro h
  have h4:=of_decide_eq_true h
  refine zS ?_
  rw [letF,if_neg h1,if_neg h2,if_neg h3,if_pos h4]
 intro h
 have h4:=of_decide_eq_false h
 have hL:letF m=qaf [qqb (m.tos++m.ccs),qjX m]:=by rw [letF,if_neg h1,if_neg h2,if_neg h3,if_neg h4]
 rw [hL]
 clear hL h
 refine zS ?_
 refine useF (qhR [m.tos,m.ccs] (by simp) (by simp [qhU];omega)) rfl rfl ?_
 rintro es rfl
 rw [cat2]
 have hb:∀ a∈m.tos++m.ccs,a.1.length≤1000000∧a.2.length≤1000000:=fun a ha=>(zr.1 ha).elim (b5 a) (b7 a)
 have hAl:(m.tos++m.ccs).length≤2000000:=by simp;omega
 generalize m.tos++m.ccs=A at *
 simp only [ZZ,WW,Ze,reduceCtorEq,zd,ze,za,zf,zb,qaE]
 rw [qqb]
 have hget:=fun {k:Nat} (h:k < A.length)=>qaK _ k _ (qhG (adF1 A) h)
 generalize hG:(zz A.length).map (adF1 A)=G at *
 have hGl:G.length=A.length:=by rw [← hG];simp
 refine qae (fun n fr L=>∃ (k:Nat) (kv:List (List UInt8×PV)),k≤A.length∧n=A.length - k∧(qaf G=qaf (G.drop k))∧(qkL kv ((A.take k).map (·.2)))∧fr=(oo::.adr (.l 1) 0::oo::.mp (.l 34)::oF (oC (.row (.l 40)::.p (int (A.length:Nat))::.p (int (k:Nat))::oG (oC (oB (oo::[]))))))∧L=[(.l 1,.box [.p (.str m.id),.p (int m.at_),.p (.str m.fr.1),.p (.str m.fr.2),.p (.sl 2 (adrE m.tos)),.p (.sl 2 (adrE m.ccs)),.p (.sl 1 (strE m.refs)),.p (.str m.sub),.p (.str m.body)] qa4),(.l 34,.map kv 9 4),(.l 40,.row (adrE A) tAdr 2 true)]) (A.length) _ _ (by simp only [ZZ,WW,Ze,reduceCtorEq,zd,ze,za,zf,zb,qaE];try trivial) zF_ ⟨0,[],by omega,by omega,by simp,qg5,rfl,rfl⟩ ?_
 rintro n fr L ⟨k,kv,hk,rfl,hf,hkv,rfl,rfl⟩
 simp only [qeW,ZZ,WW,Ze,reduceCtorEq,zd,ze,za,zf,zb]
 refine br ?_ ?_
 ·intro h
  have hlt:k < A.length:=by have:=of_decide_eq_true h;omega
  obtain ⟨x,hx⟩:∃ x,A[k]?=some x:=⟨_,zh hlt⟩
  have hg:=qjR hx
  have hxd:A.getD k ([],[])=x:=by simp [zy,hx]
  have hbx:=hb x (zl hx)
  have hd:=hget hlt
  have hsn:mpD kv x.2 (.bool false)=.bool ((A.take k).any (fun p=>decide (p.2=x.2))):=by rw [hkv x.2,quH]
  have he:qaf [qap (!(qn1 x.1 && qcN x.2)) 3,qap ((A.take k).any (fun p=>decide (p.2=x.2))) 6]=adF1 A k:=by rw [adF1,hxd];rfl
  simp only [ZZ,WW,Ze,reduceCtorEq,zd,ze,za,zf,zb,hg,qaE]
  ((with_reducible and_intros)<;>try exact sc_)
  refine drg4 (x1:=.bool (qn1 x.1 && qcN x.2)) (x2:=int (qap (!(qn1 x.1 && qcN x.2)) 3)) (x3:=int (qap ((A.take k).any (fun p=>decide (p.2=x.2))) 6)) (x4:=int (adF1 A k)) ?_
  simp only [ZZ,WW,Ze,reduceCtorEq,zd,ze,za,zf,zb,hsn]
  ((repeat' (with_reducible apply And.intro))<;>try (first|exact usep (qrr x.1 x.2 (by omega) (by omega)) rfl (.inl rfl)|exact usep (qbC _ _) rfl (.inl rfl)|(rw [← he];exact usep (qbv [_,_] (by simp)) rfl (.inl rfl))|(exact sc_)))
  refine br ?_ ?_
  ·intro h7
   have:¬ adF1 A k=0:=by simpa using h7
   refine zS ?_
   rw [qaq,hf,hd,if_neg this,if_neg this]
  intro h7
  have:adF1 A k=0:=by simpa using h7
  refine zS ?_
  ((with_reducible and_intros)<;>try exact sc_)
  refine qab (A.length - (k+1)) (oo::.adr (.l 1) 0::oo::.mp (.l 34)::oF (oC (.row (.l 40)::.p (int (A.length:Nat))::.p (int ((k+1):Nat))::oG (oC (oB (oo::[])))))) [(.l 1,.box [.p (.str m.id),.p (int m.at_),.p (.str m.fr.1),.p (.str m.fr.2),.p (.sl 2 (adrE m.tos)),.p (.sl 2 (adrE m.ccs)),.p (.sl 1 (strE m.refs)),.p (.str m.sub),.p (.str m.body)] qa4),(.l 34,.map (mpS kv x.2 (.bool true)) 9 4),(.l 40,.row (adrE A) tAdr 2 true)] (by omega) zF_ zF_ ⟨k+1,mpS kv x.2 (.bool true),by omega,rfl,by rw [hf,hd,if_pos this],by rw [qdk _ hx];exact qbf hkv x.2,rfl,rfl⟩
 intro h
 have hge:A.length≤k:=by have:=of_decide_eq_false h;omega
 rw [show qaf [qaf G,qjX m]=qjX m from by rw [qaq,hf,zU (by omega)];rw [qcv,if_pos rfl,qaq,qcv];split<;>rename_i h<;>simp [h]]
 simp only [ZZ,WW,Ze,reduceCtorEq,zd,ze,za,zf,zb,qac]
 refine br ?_ ?_
 ·intro h
  have h5:=of_decide_eq_true h
  refine zS ?_
  rw [qjX,if_pos h5]
 intro h
 have h5:=of_decide_eq_false h
 rw [qjX,if_neg h5]
 clear h hf hkv hget hG hGl
 simp only [ZZ,WW,Ze,reduceCtorEq,zd,ze,za,zf,zb,qac]
 rw [qqw]
 have hget:=fun {k:Nat} (h:k < m.refs.length)=>qaK _ k _ (qhG (qhT m.id m.refs) h)
 generalize hG:(zz m.refs.length).map (qhT m.id m.refs)=R at *
 have hGl:R.length=m.refs.length:=by rw [← hG];simp
 refine qae (fun n fr L=>∃ (j:Nat),j≤m.refs.length∧n=m.refs.length - j∧(qaf R=qaf (R.drop j))∧fr=(oo::.adr (.l 1) 0::oG (oB (oo::(.p (.sl 1 (strE m.refs))::.p (int (m.refs.length:Nat))::.p (int (j:Nat))::oF (oD (oB []))))))∧L=[(.l 1,.box [.p (.str m.id),.p (int m.at_),.p (.str m.fr.1),.p (.str m.fr.2),.p (.sl 2 (adrE m.tos)),.p (.sl 2 (adrE m.ccs)),.p (.sl 1 (strE m.refs)),.p (.str m.sub),.p (.str m.body)] qa4)]) (m.refs.length) _ _ (by simp only [ZZ,WW,Ze,reduceCtorEq,zd,ze,za,zf,zb,qac];try trivial) zF_ ⟨0,by omega,by omega,by simp,rfl,rfl⟩ ?_
 rintro n fr L ⟨j,hj,rfl,hf,rfl,rfl⟩
 simp only [qeV,ZZ,WW,Ze,reduceCtorEq,zd,ze,za,zf,zb]
 refine br ?_ ?_
 ·intro h
  have hlt:j < m.refs.length:=by have:=of_decide_eq_true h;omega
  obtain ⟨x,hx⟩:∃ x,m.refs[j]?=some x:=⟨_,zh hlt⟩
  have hg:=qaD hx
  have hxd:m.refs.getD j []=x:=by simp [zy,hx]
  have hbx:=b9 x (zl hx)
  have hd:=hget hlt
  have htk:=qo6 m.refs j
  have he:qaf [qap (!idB x) 3,qap (decide (x∈m.refs.take j)) 6,qap (decide (x=m.id)) 14]=qhT m.id m.refs j:=by rw [qhT,hxd]
  simp only [ZZ,WW,Ze,reduceCtorEq,zd,ze,za,zf,zb,hg,qac]
  ((with_reducible and_intros)<;>try exact sc_)
  refine drg6 (x1:=.bool (idB x)) (x2:=int (qap (!idB x) 3)) (x3:=.bool (decide (x∈m.refs.take j))) (x4:=int (qap (decide (x∈m.refs.take j)) 6)) (x5:=int (qap (decide (x=m.id)) 14)) (x6:=int (qhT m.id m.refs j)) ?_
  simp only [ZZ,WW,Ze,reduceCtorEq,zd,ze,za,zf,zb,htk,qac]
  ((repeat' (with_reducible apply And.intro))<;>try (first|exact usep (qt5 x (by omega)) rfl (.inl rfl)|exact usep (qbC _ _) rfl (.inl rfl)|exact usep (qbk _ x (by rw [List.length_take];omega)) rfl (.inl rfl)|(rw [← he];exact usep (qbv [_,_,_] (by simp)) rfl (.inl rfl))|(exact sc_)))
  refine br ?_ ?_
  ·intro h7
   have:¬ qhT m.id m.refs j=0:=by simpa using h7
   refine zS ?_
   rw [qaq,hf,hd,if_neg this,if_neg this]
  intro h7
  have:qhT m.id m.refs j=0:=by simpa using h7
  refine zS ?_
  ((with_reducible and_intros)<;>try exact sc_)
  refine qab (m.refs.length - (j+1)) _ _ (by omega) zF_ zF_ ⟨j+1,by omega,rfl,by rw [hf,hd,if_pos this],rfl,rfl⟩
 intro h
 have hge:m.refs.length≤j:=by have:=of_decide_eq_false h;omega
 have hfin:qaf [qaf R,qg3 m.sub,qel m.body]=qaf [qg3 m.sub,qel m.body]:=by rw [qaq,hf,zU (by omega)];rfl
 rw [hfin]
 refine zS ?_
 refine drg4 (x1:=.bool (qm2 m.sub)) (x2:=int (qg3 m.sub)) (x3:=int (qel m.body)) (x4:=int (qaf [qg3 m.sub,qel m.body])) ?_
 refine zS ?_
 refine ⟨fun h=>⟨h,usep (qr6 m.sub (by omega)) rfl (.inl rfl)⟩,fun h=>by rw [h];rfl,usep (qbC _ _) rfl (.inl rfl),usep (qht m.body (by omega)) rfl (.inl rfl),usep (qbv [_,_] (by simp)) rfl (.inl rfl)⟩
end Go.Proofs.YtekhobchfhhofaaGreatDoor
