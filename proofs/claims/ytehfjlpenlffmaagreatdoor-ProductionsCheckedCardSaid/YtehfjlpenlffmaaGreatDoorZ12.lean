import Derived.Test.YtehfjlpenlffmaaGreatDoorZ11
import Derived.Test.YtehfjlpenlffmaaGreatDoorZ10
import Derived.Test.YtehfjlpenlffmaaGreatDoorZ9
import Derived.Test.YtehfjlpenlffmaaGreatDoorZ4
import Derived.Lib.OwnBridge
import Derived.WalkKit
set_option linter.unusedVariables false
set_option linter.unusedSimpArgs false
set_option linter.defProp false
namespace Go.Proofs.YtehfjlpenlffmaaGreatDoor
open Nat renaming reduceSub→zp,reduceAdd→zd,reduceMul→ze,reduceLeDiff→zb,reduceLT→zf,reduceEqDiff→za
open List renaming map_cons→zj,length_cons→zi,length_nil→zn,cons_append→zl,nil_append→zm,replicate_succ→zh,replicate_zero→zk
open Go.RowKit
theorem qqT (s:List UInt8) (cs:List UInt8):Lib.trimRightS s cs <+: s:=by
 unfold Lib.trimRightS
 have:=List.reverse_prefix.2 (List.dropWhile_suffix (l:=s.reverse) (fun x=>cs.contains x))
 rwa [List.reverse_reverse] at this
theorem qqR (s:List UInt8):decide (Lib.trimS s [32]=s)=(!Lib.hasPrefix s [32] && !sufE s [32]):=by
 by_cases h1:Lib.hasPrefix s [32]=true
 ·obtain ⟨t,rfl⟩:=(hp1 _ _).1 h1
  rw [h1,decide_eq_false]
  ·rfl
  ·intro h
   have hl:=congrArg List.length h
   have hp:=qqT (32 :: t) [32]
   unfold Lib.trimS Lib.trimLeftS at hl
   cases hu:Lib.trimRightS (32 :: t) [32] with
   |nil=>rw [hu] at hl;simp at hl
   |cons y u=>
    rw [hu] at hl hp
    have hy:y=32:=by obtain ⟨r,hr⟩:=hp;simp at hr;exact hr.1
    subst hy
    have h2:=hp.length_le
    have h3:=(List.dropWhile_suffix (l:=u) (fun x=>[(32:UInt8)].contains x)).length_le
    simp [List.dropWhile_cons] at hl h2 h3
    omega
 ·have h1':Lib.hasPrefix s [32]=false:=Bool.eq_false_iff.2 h1
  rw [h1']
  by_cases h2:sufE s [32]=true
  ·rw [h2,decide_eq_false]
   ·rfl
   ·intro h
    obtain ⟨t,rfl⟩:=(suf1 _ _).1 h2
    have hl:=congrArg List.length h
    have h3:=qqS t [32]
    have e:Lib.trimS (t++[32]) [32]=Lib.trimS t [32]:=by
     unfold Lib.trimS Lib.trimRightS
     simp [List.dropWhile_cons]
    rw [e] at hl
    simp at hl
    omega
  ·have h2':sufE s [32]=false:=Bool.eq_false_iff.2 h2
   rw [h2',decide_eq_true]
   ·rfl
   ·have hr:Lib.trimRightS s [32]=s:=by
     unfold Lib.trimRightS
     cases hs:s.reverse with
     |nil=>simp at hs;subst hs;rfl
     |cons y r=>
      have hy:y≠32:=by
       rintro rfl
       apply h2
       refine (suf1 _ _).2 ⟨r.reverse,?_⟩
       have:=congrArg List.reverse hs
       simpa using this
      rw [List.dropWhile_cons,if_neg (by simp [hy]),← hs,List.reverse_reverse]
    unfold Lib.trimS
    rw [hr]
    unfold Lib.trimLeftS
    cases s with
    |nil=>rfl
    |cons y r=>
     have hy:y≠32:=by
      rintro rfl
      exact h1 ((hp1 _ _).2 ⟨r,rfl⟩)
     rw [List.dropWhile_cons,if_neg (by simp [hy])]
def qfx:IC:=(.seq (.reg [qO 2 (.mov (.c (.bool false)))]) (.seq (.reg [qM 3 0,qO 4 (.call 147 [.t 3,.c (.bool false)]),qM 5 4,⟨some 6,.mov (.t 0),(some (5,true))⟩,⟨some 7,.call 155 [.t 6,.c (.str [32])],(some (5,true))⟩,⟨some 8,.mov (.t 0),(some (5,true))⟩,⟨some 9,.bin .eql (.t 7) (.t 8),(some (5,true))⟩,qO 10 (.pick (.t 5) (.t 9) (.c (.bool false))),qM 11 10,⟨some 12,.mov (.t 0),(some (11,true))⟩,⟨some 13,.call 156 [.t 12,.c (.str [32,32])],(some (11,true))⟩,⟨some 14,.not (.t 13),(some (11,true))⟩,qO 15 (.pick (.t 11) (.t 14) (.c (.bool false))),qM 2 15]) .ret))
def qfo:List IRes:=[.t 2]
theorem qiq:chkF Tryz.prog Tryz.f76 qfx qfo 16=true:=by kernel_rfl
theorem qqF (s:List UInt8) (hs:s.length≤1000000000):PCall Tryz.prog E0 76 [.str s] (·=.bool (qiu s)):=by
 refine qag mixed Tryz.func76 qiq ?_
 simp only [a0,l0,OS.ao,zj,List.map_nil,zi,zn,zl,zm,zp,zd,zh,zk,qfx,qfo,ZZ,WW,Ze,reduceCtorEq,zd,ze,zb,zf,za]
 refine use1 (qiU s false hs) rfl (.inl rfl) ?_
 simp only [ZZ,WW,Ze,reduceCtorEq,zd,ze,zb,zf,za]
 refine useG (fun _=>qgU s [32] hs (by decide) (by decide)) rfl (.inl rfl) ?_
 simp only [ZZ,WW,Ze,reduceCtorEq,zd,ze,zb,zf,za]
 refine useG (fun _=>qlg s [32,32] hs) rfl (.inl rfl) ?_
 simp only [ZZ,WW,Ze,reduceCtorEq,zd,ze,zb,zf,za]
 rw [qiu,qqR]
 cases visE s false<;>cases Lib.hasPrefix s [32]<;>cases sufE s [32]<;>rfl
def qc1:IC:=(.seq (.reg [qO 29 (.bin .lss (.t 28) (.t 27))]) (.seq (.cond (.t 29) .skip (.exit 0)) (.seq (.block 1 (.seq (.reg [qO 30 (.ixa 1 (.t 26) (.t 28)),qO 31 (.ld 1 false (.t 30)),qM 5 31]) (.seq (.reg [qM 32 5,qO 33 (.call 76 [.t 32]),qO 34 (.not (.t 33)),qM 35 34,⟨some 36,.mov (.t 5),(some (35,false))⟩,⟨some 37,.sln (.t 36),(some (35,false))⟩,⟨some 38,.bin .lss (.t 37) (.c (.int .i64 1)),(some (35,false))⟩,qO 39 (.pick (.t 35) (.c (.bool true)) (.t 38)),qM 40 39,⟨some 41,.mov (.t 5),(some (40,false))⟩,⟨some 42,.sln (.t 41),(some (40,false))⟩,⟨some 43,.bin .gtr (.t 42) (.c (.int .i64 80)),(some (40,false))⟩,qO 44 (.pick (.t 40) (.c (.bool true)) (.t 43))]) (.cond (.t 44) (.seq (.reg [qO 2 (.mov (.c (.int .i64 3)))]) .ret) .skip)))) (.reg [qO 45 (.bin .add (.t 28) (.c (.int .i64 1))),qM 28 45]))))
def qd7:IC:=(.seq (.reg [qO 1 (.box 45 (.t 0)),qO 2 (.mov (.c (.int .i64 0)))]) (.seq (.seq (.reg [qO 6 (.fla 0 (.t 1)),qO 7 (.ld 1 false (.t 6)),qO 8 (.fla 1 (.t 1)),qO 9 (.ld 1 false (.t 8)),qO 10 (.call 56 [.t 7,.t 9]),qM 3 10]) (.seq (.reg [qM 11 3,qO 12 (.bin .neq (.t 11) (.c (.int .i64 0)))]) (.cond (.t 12) (.seq (.reg [qM 13 3,qM 2 13]) .ret) .skip))) (.seq (.seq (.reg [qO 14 (.fla 2 (.t 1)),qO 15 (.ld 1 false (.t 14)),qO 16 (.bin .lss (.t 15) (.c (.int .i64 1))),qM 17 16,⟨some 18,.fla 2 (.t 1),(some (17,false))⟩,⟨some 19,.ld 1 false (.t 18),(some (17,false))⟩,⟨some 20,.bin .gtr (.t 19) (.c (.int .i64 3)),(some (17,false))⟩,qO 21 (.pick (.t 17) (.c (.bool true)) (.t 20))]) (.cond (.t 21) (.seq (.reg [qO 2 (.mov (.c (.int .i64 4)))]) .ret) .skip)) (.seq (.seq (.reg [qO 22 (.fla 3 (.t 1)),qO 23 (.ld 1 false (.t 22)),qO 24 (.fla 4 (.t 1)),qO 25 (.ld 1 false (.t 24)),qO 26 (.bsl 1 [.t 23,.t 25]),qO 27 (.len (.t 26)),qO 28 (.mov (.c (.int .i64 0)))]) (.block 0 (.loop qc1))) (.seq (.seq (.reg [qO 46 (.fla 5 (.t 1)),qO 47 (.ld 1 false (.t 46)),qO 48 (.bin .lss (.t 47) (.c (.int .i64 1))),qM 49 48,⟨some 50,.fla 5 (.t 1),(some (49,false))⟩,⟨some 51,.ld 1 false (.t 50),(some (49,false))⟩,⟨some 52,.bin .gtr (.t 51) (.c (.int .i64 100000)),(some (49,false))⟩,qO 53 (.pick (.t 49) (.c (.bool true)) (.t 52))]) (.cond (.t 53) (.seq (.reg [qO 2 (.mov (.c (.int .i64 1)))]) .ret) .skip)) (.seq (.reg [qO 2 (.mov (.c (.int .i64 0)))]) .ret))))))
def qdV:List IRes:=[.t 2]
theorem qhb:chkF Tryz.prog Tryz.f22 qd7 qdV 54=true:=by kernel_rfl
structure Stp where
 pre:List UInt8
 dig:Int
 ord:Int
 slip:List UInt8
 skip:List UInt8
 most:Int
def stV (x:Stp):List PV:=[.str x.pre,int x.dig,int x.ord,.str x.slip,.str x.skip,int x.most]
theorem qds (e:Int) (r:List Int):qaf (e :: r)=if e=0 then qaf r else e:=rfl
structure StB (x:Stp):Prop where
 b1:x.pre.length≤1000
 b2:x.slip.length≤1000
 b3:x.skip.length≤1000
def qi5 (s:List UInt8):Bool:=inE s.length 1 80 && qiu s
def ordF (n:Int):Int:=qaj (!inE n 1 3) 4
def setF (x:Stp):Int:=qaf [qe6 x.pre x.dig,ordF x.ord,qaj (!qi5 x.slip || !qi5 x.skip) 3,qaj (!inE x.most 1 100000) 1]
theorem qyi (c:UInt8):capL.contains c=!qjU c:=qj4 (p:=fun c=>capL.contains c=!qjU c) (by decide +kernel) c
theorem qtk (s:List UInt8):qtl s=qiw s:=by
 unfold qtl qiw
 rw [qhQ,Bool.and_comm]
 congr 1
 induction s with
 |nil=>rfl
 |cons c r ih=>simp only [List.all_cons,qyi,ih]
theorem qrH (p:List UInt8) (d:Int):nfF p d=qe6 p d:=by
 unfold nfF qe6
 rw [qtk]
 cases qiw p with
 |false=>rfl
 |true=>
  rw [if_pos rfl]
  have:(decide (d < 4) || decide (9 < d))=!inE d 4 9:=by
   unfold inE
   rw [Bool.eq_iff_iff]
   simp only [Bool.or_eq_true,decide_eq_true_eq,Bool.not_eq_true',Bool.and_eq_false_iff,decide_eq_false_iff_not]
   omega
  rw [this]
  cases inE d 4 9<;>rfl
section
theorem qm7 (x:Stp) (hx:StB x):PCall Tryz.prog E0 22 [.agg (stV x)] (·=int (setF x)):=by
 obtain ⟨b1,b2,b3⟩:=hx
 refine qag mixed Tryz.func22 qhb ?_
 simp only [a0,l0,OS.ao,zj,List.map_nil,zi,zn,zl,zm,zp,zd,zh,zk,qd7,qdV,ZZ,WW,Ze,reduceCtorEq,zd,ze,zb,zf,za]
 simp only [stV,ZZ,WW,Ze,reduceCtorEq,zd,ze,zb,zf,za]
 refine use1 (qhP x.pre x.dig (by omega)) rfl (.inl rfl) ?_
 rw [qrH]
 simp only [ZZ,WW,Ze,reduceCtorEq,zd,ze,zb,zf,za]
 refine br ?_ ?_
 ·intro h
  have h1:¬ qe6 x.pre x.dig=0:=by simpa using h
  simp only [ZZ,WW,Ze,reduceCtorEq,zd,ze,zb,zf,za]
  rw [setF,qds,if_neg h1]
 intro h
 have h1:qe6 x.pre x.dig=0:=by simpa using h
 have hs:setF x=qaf [ordF x.ord,qaj (!qi5 x.slip || !qi5 x.skip) 3,qaj (!inE x.most 1 100000) 1]:=by rw [setF,qds,if_pos h1]
 rw [hs]
 clear h hs
 have ho:(decide (x.ord < 1) || decide (3 < x.ord))=!inE x.ord 1 3:=by
  unfold inE
  rw [Bool.eq_iff_iff]
  simp only [Bool.or_eq_true,decide_eq_true_eq,Bool.not_eq_true',Bool.and_eq_false_iff,decide_eq_false_iff_not]
  omega
 have hm:(decide (x.most < 1) || decide (100000 < x.most))=!inE x.most 1 100000:=by
  unfold inE
  rw [Bool.eq_iff_iff]
  simp only [Bool.or_eq_true,decide_eq_true_eq,Bool.not_eq_true',Bool.and_eq_false_iff,decide_eq_false_iff_not]
  omega
 simp only [ZZ,WW,Ze,reduceCtorEq,zd,ze,zb,zf,za]
 rw [ho]
 refine ⟨fun h=>by rw [h];rfl,?_⟩
 refine br ?_ ?_
 ·intro h
  simp only [ZZ,WW,Ze,reduceCtorEq,zd,ze,zb,zf,za]
  rw [qds,ordF,qaj,if_pos h]
  rfl
 intro h
 have h2:ordF x.ord=0:=by rw [ordF,qaj,if_neg (by rw [h];decide)]
 rw [qds,if_pos h2]
 clear h
 simp only [ZZ,WW,Ze,reduceCtorEq,zd,ze,zb,zf,za]
 refine qad (fun n fr L=>∃ (j:Nat),j≤2∧n=2 - j∧(1≤j→qi5 x.slip=true)∧(2≤j→qi5 x.skip=true)∧fr=[oo,.adr (.l 1) 0,oo,oo,oo,oo,oo,oo,oo,oo,oo,oo,oo,oo,oo,oo,oo,oo,oo,oo,oo,oo,oo,oo,oo,oo,.p (.sl 1 [[.str x.slip],[.str x.skip]]),.p (int 2),.p (int (j:Nat)),oo,oo,oo,oo,oo,oo,oo,oo,oo,oo,oo,oo,oo,oo,oo,oo,oo,oo,oo,oo,oo,oo,oo,oo,oo]∧L=[(.l 1,.box [.p (.str x.pre),.p (int x.dig),.p (int x.ord),.p (.str x.slip),.p (.str x.skip),.p (int x.most)] 45)]) (2) [oo,.adr (.l 1) 0,oo,oo,oo,oo,oo,oo,oo,oo,oo,oo,oo,oo,oo,oo,oo,oo,oo,oo,oo,oo,oo,oo,oo,oo,.p (.sl 1 [[.str x.slip],[.str x.skip]]),.p (int 2),.p (int (0:Nat)),oo,oo,oo,oo,oo,oo,oo,oo,oo,oo,oo,oo,oo,oo,oo,oo,oo,oo,oo,oo,oo,oo,oo,oo,oo] [(.l 1,.box [.p (.str x.pre),.p (int x.dig),.p (int x.ord),.p (.str x.slip),.p (.str x.skip),.p (int x.most)] 45)] (by (simp only [ZZ,WW,Ze,reduceCtorEq,zd,ze,zb,zf,za];try trivial)) (by (simp only [ZZ,WW,Ze,reduceCtorEq,zd,ze,zb,zf,za];try trivial)) ⟨0,by omega,by omega,(fun h=>by omega),(fun h=>by omega),rfl,rfl⟩ ?_
 rintro n fr L ⟨j,hj,rfl,hj1,hj2,rfl,rfl⟩
 simp only [qc1,ZZ,WW,Ze,reduceCtorEq,zd,ze,zb,zf,za]
 refine br ?_ ?_
 ·intro h
  have hlt:j < 2:=by have:=of_decide_eq_true h;omega
  obtain ⟨s,hs,hsl,hb⟩:∃ s,([[PV.str x.slip],[PV.str x.skip]]:List (List PV)).getD j []=[.str s]∧s.length≤1000∧(qi5 s=false→(!qi5 x.slip || !qi5 x.skip)=true)∧(qi5 s=true→(1≤j+1→qi5 x.slip=true)∧(2≤j+1→qi5 x.skip=true)):=by
   match j,hlt with
   |0,_=>exact ⟨x.slip,rfl,b2,fun h=>by rw [h];rfl,fun h=>⟨fun _=>h,fun h=>by omega⟩⟩
   |1,_=>exact ⟨x.skip,rfl,b3,fun h=>by rw [h];simp,fun h=>⟨fun _=>hj1 (by omega),fun _=>h⟩⟩
  obtain ⟨hb1,hb2⟩:=hb
  have hn:((!qiu s || decide ((s.length:Int) < 1)) || decide (80 < (s.length:Int)))=!qi5 s:=by
   unfold qi5 inE
   cases qiu s with
   |false=>simp
   |true=>
    rw [Bool.eq_iff_iff]
    simp only [Bool.or_eq_true,decide_eq_true_eq,Bool.not_eq_true',Bool.and_eq_false_iff,decide_eq_false_iff_not,Bool.not_true,Bool.false_eq_true,false_or,or_false,Bool.and_true,reduceCtorEq]
    omega
  simp only [ZZ,WW,Ze,reduceCtorEq,zd,ze,zb,zf,za,hs]
  ((repeat' (with_reducible apply And.intro))<;>try ((exact sc_)))
  refine use1 (qqF s (by omega)) rfl (.inl rfl) ?_
  simp only [ZZ,WW,Ze,reduceCtorEq,zd,ze,zb,zf,za]
  rw [hn]
  refine ⟨fun h=>by rw [h];rfl,fun h=>by rw [h];rfl,?_⟩
  refine br ?_ ?_
  ·intro h
   have h3:=hb1 (by simpa using h)
   simp only [ZZ,WW,Ze,reduceCtorEq,zd,ze,zb,zf,za]
   rw [qds,qaj,if_pos h3]
   rfl
  ·intro h
   obtain ⟨c1,c2⟩:=hb2 (by simpa using h)
   simp only [ZZ,WW,Ze,reduceCtorEq,zd,ze,zb,zf,za]
   ((repeat' (with_reducible apply And.intro))<;>try ((exact sc_)))
   refine qac (2 - (j+1)) [oo,.adr (.l 1) 0,oo,oo,oo,oo,oo,oo,oo,oo,oo,oo,oo,oo,oo,oo,oo,oo,oo,oo,oo,oo,oo,oo,oo,oo,.p (.sl 1 [[.str x.slip],[.str x.skip]]),.p (int 2),.p (int ((j+1):Nat)),oo,oo,oo,oo,oo,oo,oo,oo,oo,oo,oo,oo,oo,oo,oo,oo,oo,oo,oo,oo,oo,oo,oo,oo,oo] [(.l 1,.box [.p (.str x.pre),.p (int x.dig),.p (int x.ord),.p (.str x.slip),.p (.str x.skip),.p (int x.most)] 45)] (by omega) (by (simp only [ZZ,WW,Ze,reduceCtorEq,zd,ze,zb,zf,za];try trivial)) (by (simp only [ZZ,WW,Ze,reduceCtorEq,zd,ze,zb,zf,za];try trivial)) ⟨j+1,by omega,rfl,c1,c2,rfl,rfl⟩
 intro h
 have hge:2≤j:=by have:=of_decide_eq_false h;omega
 simp only [ZZ,WW,Ze,reduceCtorEq,zd,ze,zb,zf,za]
 rw [hm]
 rw [hj1 (by omega),hj2 hge]
 refine ⟨fun h=>by rw [h];rfl,?_⟩
 refine br ?_ ?_
 ·intro h
  simp only [ZZ,WW,Ze,reduceCtorEq,zd,ze,zb,zf,za]
  rw [h]
  rfl
 intro h
 simp only [ZZ,WW,Ze,reduceCtorEq,zd,ze,zb,zf,za]
 rw [h]
 rfl
end
end Go.Proofs.YtehfjlpenlffmaaGreatDoor
namespace Go.Proofs.YtehfjlpenlffmaaGreatDoor
open Go.Lib Go.RowKit Go.Shelf Go.Sort
section
variable {E:Envt} {L:Objs} {k:Key} {fr:List AV} {d:Option Nat} {is:List IOper} {Y:List PV} {K:List AV→Objs→Prop}
end
end Go.Proofs.YtehfjlpenlffmaaGreatDoor
namespace Go.Proofs.YtehfjlpenlffmaaGreatDoor
open Go.RowKit
abbrev SRow:=List (List UInt8)
abbrev Tab:=List SRow
def tbE (t:Tab):List (List PV):=t.map fun r=>[PV.sl 1 (strE r)]
theorem qaP (t:Tab):(tbE t).length=t.length:=by simp [tbE]
theorem qkz {t:Tab} {k:Nat} {r:SRow} (h:t[k]?=some r):(tbE t).getD k []=[.sl 1 (strE r)]:=qaH h
end Go.Proofs.YtehfjlpenlffmaaGreatDoor
