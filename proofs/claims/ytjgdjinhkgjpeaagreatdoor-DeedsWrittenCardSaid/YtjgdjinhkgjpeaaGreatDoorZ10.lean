import Derived.Test.YtjgdjinhkgjpeaaGreatDoorZ9
import Derived.Test.YtjgdjinhkgjpeaaGreatDoorZ4
import Derived.Shelf.SlSortCmp.NoneTotal
import Derived.Test.YtjgdjinhkgjpeaaGreatDoorZ8
import Derived.Test.YtjgdjinhkgjpeaaGreatDoorLayDeedSort
import Derived.Test.YtjgdjinhkgjpeaaGreatDoorLayCompare
import Derived.Test.YtjgdjinhkgjpeaaGreatDoorLayCmpInt
import Derived.StillTailTactics
import Derived.Handy
import Derived.Maps.AppendAt
import Derived.Lib.AppendZeros
set_option linter.unusedVariables false
set_option linter.unusedSimpArgs false
set_option linter.defProp false
namespace Go.Proofs.YtjgdjinhkgjpeaaGreatDoor
open Nat renaming reduceAdd→zd,reduceEqDiff→zb,reduceLT→zf,reduceLeDiff→za,reduceMul→ze,reduceSub→zu
open List renaming cons_append→zo,getElem?_eq_getElem→zr,length_cons→zk,length_nil→zp,map_cons→zl,map_nil→zt,nil_append→zq,replicate_succ→zj,replicate_zero→zm
open Go.RowKit
def qdO:IC:=(.seq (.reg [qO 10 (.bin .lss (.t 9) (.t 8))]) (.seq (.cond (.t 10) .skip (.exit 0)) (.seq (.block 1 (.seq (.reg [qO 11 (.ixa 12 (.t 7) (.t 9)),qO 12 (.ld 12 true (.t 11)),qO 5 (.alc 44 [.str [],.int .i64 0,.int .i64 0,.int .i64 0,.str [],.str [],.str [],.int .i64 0,.int .i64 0,.str [],.int .i64 0,.str []]),⟨none,.st 12 (.t 5) (.t 12),none⟩]) (.reg [qM 13 3,qO 14 (.fla 0 (.t 5)),qO 15 (.ld 2 true (.t 14)),qO 16 (.ld 12 true (.t 5)),⟨none,.mpuk [.s,.i] (.t 13) (.t 15) (.t 16),none⟩]))) (.reg [qO 17 (.bin .add (.t 9) (.c (.int .i64 1))),qM 9 17]))))
def qe5:IC:=(.seq (.reg [qO 2 (.mov (.c (.raw (.map none))))]) (.seq (.reg [qO 6 (.mkk [.s,.i] 40 44),qM 3 6]) (.seq (.seq (.reg [qM 7 0,qO 8 (.len (.t 7)),qO 9 (.mov (.c (.int .i64 0)))]) (.block 0 (.loop qdO))) (.seq (.reg [qM 18 3,qM 2 18]) .ret))))
def qeX:List IRes:=[.t 2]
theorem qiI:chkF Tryz.prog Tryz.f91 qe5 qeX 19=true:=by kernel_rfl
def qfy:IC:=(.seq (.reg [qO 3 (.box 44 (.t 1)),qO 4 (.mov (.c (.int .i64 0)))]) (.seq (.seq (.reg [qO 8 (.fla 3 (.t 3)),qO 9 (.ld 1 false (.t 8)),qO 10 (.bin .neq (.t 9) (.c (.int .i64 3))),qM 11 10,⟨some 12,.fla 3 (.t 3),(some (11,true))⟩,⟨some 13,.ld 1 false (.t 12),(some (11,true))⟩,⟨some 14,.bin .neq (.t 13) (.c (.int .i64 6)),(some (11,true))⟩,qO 15 (.pick (.t 11) (.t 14) (.c (.bool false)))]) (.cond (.t 15) (.seq (.reg [qO 4 (.mov (.c (.int .i64 0)))]) .ret) .skip)) (.seq (.reg [qM 17 0,qO 18 (.fla 9 (.t 3)),qO 19 (.ld 2 true (.t 18)),qO 20 (.mplk true [.s,.i] (.agg [.str [],.int .i64 0,.int .i64 0,.int .i64 0,.str [],.str [],.str [],.int .i64 0,.int .i64 0,.str [],.int .i64 0,.str []]) (.t 17) (.t 19)),qM 16 20,qO 21 (.ext 0 (.t 16)),qO 22 (.ext 1 (.t 16)),qO 5 (.alc 44 [.str [],.int .i64 0,.int .i64 0,.int .i64 0,.str [],.str [],.str [],.int .i64 0,.int .i64 0,.str [],.int .i64 0,.str []]),⟨none,.st 12 (.t 5) (.t 21),none⟩,qM 6 22]) (.seq (.seq (.reg [qM 23 6,qO 24 (.not (.t 23))]) (.cond (.t 24) (.seq (.reg [qO 4 (.mov (.c (.int .i64 8)))]) .ret) .skip)) (.seq (.reg [qO 25 (.fla 3 (.t 5)),qO 26 (.ld 1 false (.t 25)),qO 27 (.bin .eql (.t 26) (.c (.int .i64 2))),qM 28 27,⟨some 29,.fla 3 (.t 5),(some (28,false))⟩,⟨some 30,.ld 1 false (.t 29),(some (28,false))⟩,⟨some 31,.bin .eql (.t 30) (.c (.int .i64 4)),(some (28,false))⟩,qO 32 (.pick (.t 28) (.c (.bool true)) (.t 31)),qM 7 32]) (.seq (.seq (.reg [qO 33 (.fla 3 (.t 3)),qO 34 (.ld 1 false (.t 33)),qO 35 (.bin .eql (.t 34) (.c (.int .i64 3)))]) (.cond (.t 35) (.seq (.reg [qM 36 7,qO 37 (.not (.t 36)),qO 38 (.call 78 [.t 37,.c (.int .i64 16)]),qM 4 38]) .ret) .skip)) (.seq (.reg [qM 39 7,qM 40 39,⟨some 41,.fla 3 (.t 5),(some (40,false))⟩,⟨some 42,.ld 1 false (.t 41),(some (40,false))⟩,⟨some 43,.bin .eql (.t 42) (.c (.int .i64 6)),(some (40,false))⟩,qO 44 (.pick (.t 40) (.c (.bool true)) (.t 43)),qM 45 44,⟨some 46,.fla 0 (.t 5),(some (45,false))⟩,⟨some 47,.fla 0 (.t 46),(some (45,false))⟩,⟨some 48,.ld 1 false (.t 47),(some (45,false))⟩,⟨some 49,.fla 0 (.t 3),(some (45,false))⟩,⟨some 50,.fla 0 (.t 49),(some (45,false))⟩,⟨some 51,.ld 1 false (.t 50),(some (45,false))⟩,⟨some 52,.bin .neq (.t 48) (.t 51),(some (45,false))⟩,qO 53 (.pick (.t 45) (.c (.bool true)) (.t 52)),qM 54 53,⟨some 55,.fla 0 (.t 5),(some (54,false))⟩,⟨some 56,.fla 1 (.t 55),(some (54,false))⟩,⟨some 57,.ld 1 false (.t 56),(some (54,false))⟩,⟨some 58,.fla 0 (.t 3),(some (54,false))⟩,⟨some 59,.fla 1 (.t 58),(some (54,false))⟩,⟨some 60,.ld 1 false (.t 59),(some (54,false))⟩,⟨some 61,.bin .geq (.t 57) (.t 60),(some (54,false))⟩,qO 62 (.pick (.t 54) (.c (.bool true)) (.t 61)),qO 63 (.call 78 [.t 62,.c (.int .i64 16)]),qM 4 63]) .ret)))))))
def qfp:List IRes:=[.t 4]
theorem qjb:chkF Tryz.prog Tryz.f92 qfy qfp 64=true:=by kernel_rfl
def qcZ:IC:=(.seq (.reg [qO 94 (.bin .lss (.t 93) (.t 92))]) (.seq (.cond (.t 94) .skip (.exit 2)) (.seq (.block 3 (.seq (.reg [qM 95 93,qO 96 (.ixa 12 (.t 91) (.t 93)),qO 97 (.ld 12 true (.t 96)),qO 12 (.alc 44 [.str [],.int .i64 0,.int .i64 0,.int .i64 0,.str [],.str [],.str [],.int .i64 0,.int .i64 0,.str [],.int .i64 0,.str []]),qM 11 95,⟨none,.st 12 (.t 12) (.t 97),none⟩]) (.seq (.reg [qM 98 10,qO 99 (.ld 12 true (.t 12)),qO 100 (.call 92 [.t 98,.t 99]),qM 13 100]) (.seq (.reg [qM 101 13,qO 102 (.bin .neq (.t 101) (.c (.int .i64 0)))]) (.cond (.t 102) (.seq (.reg [qM 103 11,qM 104 13,qM 2 103,qM 3 104]) .ret) .skip))))) (.reg [qO 105 (.bin .add (.t 93) (.c (.int .i64 1))),qM 93 105]))))
def qc0:IC:=(.seq (.reg [qO 21 (.bin .lss (.t 20) (.t 19))]) (.seq (.cond (.t 21) .skip (.exit 0)) (.seq (.block 1 (.seq (.reg [qM 22 20,qO 23 (.ixa 12 (.t 18) (.t 20)),qO 24 (.ld 12 true (.t 23)),qO 8 (.alc 44 [.str [],.int .i64 0,.int .i64 0,.int .i64 0,.str [],.str [],.str [],.int .i64 0,.int .i64 0,.str [],.int .i64 0,.str []]),qM 7 22,⟨none,.st 12 (.t 8) (.t 24),none⟩]) (.seq (.seq (.reg [qO 25 (.fla 0 (.t 8)),qO 26 (.fla 0 (.t 25)),qO 27 (.ld 1 false (.t 26)),qO 28 (.fla 0 (.t 4)),qO 29 (.fla 0 (.t 28)),qO 30 (.ld 1 false (.t 29)),qO 31 (.bin .neq (.t 27) (.t 30))]) (.cond (.t 31) (.reg [qO 5 (.mov (.c (.int .i64 0))),qO 6 (.mov (.c (.str [])))]) .skip)) (.cut (.seq (.drg [qO 32 (.fla 0 (.t 8)),qO 33 (.fla 0 (.t 32)),qO 34 (.ld 1 false (.t 33)),qO 35 (.pcall 0 87 [.t 34]),qO 36 (.not (.t 35)),qO 37 (.pcall 1 78 [.t 36,.c (.int .i64 5)]),qM 38 7,qO 39 (.bin .gtr (.t 38) (.c (.int .i64 0))),qM 40 39,⟨some 41,.fla 0 (.t 8),(some (40,true))⟩,⟨some 42,.ld 2 true (.t 41),(some (40,true))⟩,⟨some 43,.fla 0 (.t 4),(some (40,true))⟩,⟨some 44,.ld 2 true (.t 43),(some (40,true))⟩,⟨some 45,.pcall 2 88 [.t 42,.t 44],(some (40,true))⟩,⟨some 46,.bin .leq (.t 45) (.c (.int .i64 0)),(some (40,true))⟩,qO 47 (.pick (.t 40) (.t 46) (.c (.bool false))),qO 48 (.pcall 3 78 [.t 47,.c (.int .i64 7)]),qO 49 (.fla 0 (.t 8)),qO 50 (.fla 1 (.t 49)),qO 51 (.ld 1 false (.t 50)),qM 52 5,qO 53 (.bin .add (.t 52) (.c (.int .i64 1))),qO 54 (.bin .neq (.t 51) (.t 53)),qM 55 54,⟨some 56,.fla 2 (.t 8),(some (55,false))⟩,⟨some 57,.ld 1 false (.t 56),(some (55,false))⟩,⟨some 58,.pcall 4 89 [.t 57],(some (55,false))⟩,⟨some 59,.not (.t 58),(some (55,false))⟩,qO 60 (.pick (.t 55) (.c (.bool true)) (.t 59)),qO 61 (.pcall 5 78 [.t 60,.c (.int .i64 1)]),qO 62 (.fla 3 (.t 8)),qO 63 (.ld 1 false (.t 62)),qO 64 (.pcall 6 75 [.t 63,.c (.int .i64 1),.c (.int .i64 6)]),qO 65 (.not (.t 64)),qO 66 (.pcall 7 78 [.t 65,.c (.int .i64 4)]),qO 67 (.ld 12 true (.t 8)),qO 68 (.pcall 8 79 [.t 67]),qO 69 (.fla 11 (.t 8)),qO 70 (.ld 1 false (.t 69)),qO 71 (.ld 12 true (.t 8)),qM 72 6,qO 73 (.pcall 9 90 [.t 71,.t 72]),qO 74 (.bin .neq (.t 70) (.t 73)),qO 75 (.pcall 10 78 [.t 74,.c (.int .i64 15)]),qO 76 (.bsl 1 [.t 37,.t 48,.t 61,.t 66,.t 68,.t 75]),qO 77 (.pcall 11 76 [.t 76]),qM 9 77]) (.seq (.seq (.reg [qM 78 9,qO 79 (.bin .neq (.t 78) (.c (.int .i64 0)))]) (.cond (.t 79) (.seq (.reg [qM 80 7,qM 81 9,qM 2 80,qM 3 81]) .ret) .skip)) (.drg [qO 82 (.ldn 4 12 true (.t 8)),qO 83 (.fla 0 (.t 8)),qO 84 (.fla 1 (.t 83)),qO 85 (.ldn 4 1 false (.t 84)),qO 86 (.fla 11 (.t 8)),qO 87 (.ldn 4 1 false (.t 86)),⟨none,.stk 4 12 (.t 4) (.t 82),none⟩,qM 5 85,qM 6 87]))))))) (.reg [qO 88 (.bin .add (.t 20) (.c (.int .i64 1))),qM 20 88]))))
def qel:IC:=(.seq (.reg [qO 2 (.mov (.c (.int .i64 0))),qO 3 (.mov (.c (.int .i64 0)))]) (.seq (.seq (.reg [qM 14 0,qO 15 (.len (.t 14)),qO 16 (.bin .gtr (.t 15) (.c (.int .i64 2000)))]) (.cond (.t 16) (.seq (.reg [qO 2 (.mov (.c (.int .i64 0))),qO 3 (.mov (.c (.int .i64 2)))]) .ret) .skip)) (.seq (.reg [qO 17 (.bld [.str [],.int .i64 0,.int .i64 0,.int .i64 0,.str [],.str [],.str [],.int .i64 0,.int .i64 0,.str [],.int .i64 0,.str []] []),qO 4 (.alc 44 [.str [],.int .i64 0,.int .i64 0,.int .i64 0,.str [],.str [],.str [],.int .i64 0,.int .i64 0,.str [],.int .i64 0,.str []]),⟨none,.st 12 (.t 4) (.t 17),none⟩]) (.seq (.reg [qO 5 (.mov (.c (.int .i64 0))),qO 6 (.mov (.c (.str [])))]) (.seq (.seq (.reg [qM 18 0,qO 19 (.len (.t 18)),qO 20 (.mov (.c (.int .i64 0)))]) (.block 0 (.loop qc0))) (.seq (.reg [qM 89 0,qO 90 (.call 91 [.t 89]),qM 10 90]) (.seq (.seq (.reg [qM 91 0,qO 92 (.len (.t 91)),qO 93 (.mov (.c (.int .i64 0)))]) (.block 2 (.loop qcZ))) (.seq (.reg [qO 2 (.mov (.c (.int .i64 0))),qO 3 (.mov (.c (.int .i64 0)))]) .ret))))))))
def qd9:List IRes:=[.t 2,.t 3]
theorem qhr:chkF Tryz.prog Tryz.f51 qel qd9 106=true:=by kernel_rfl
def qeH:IC:=(.seq (.reg [qO 2 (.mov (.c (.int .i64 0)))]) (.seq (.reg [qM 6 0,qO 7 (.call 51 [.t 6]),qM 5 7,qO 8 (.ext 0 (.t 5)),qO 9 (.ext 1 (.t 5)),qM 3 8,qM 4 9]) (.seq (.reg [qM 10 4,qM 2 10]) .ret)))
def qev:List IRes:=[.t 2]
theorem qhM:chkF Tryz.prog Tryz.f16 qeH qev 11=true:=by kernel_rfl
abbrev tSt:Nat:=40
def stP (l:List Dd):PV:=.mpg (.fl [.s,.i]) ((stM l).map (·.1)) ((stM l).map (·.2))
section
variable {E:Envt}
theorem qo4 (l:List Dd) (hl:l.length≤1000000000):PCall Tryz.prog E 91 [.sl 12 (ddE l)] (·=stP l):=by
 refine qaf mixed Tryz.func91 qiI ?_
 simp only [a0,l0,OS.ao,zl,zt,zk,zp,zo,zq,zu,zd,zj,zm,qe5,qeX,ZZ,WW,Ze,reduceCtorEq,zd,ze,za,zf,zb]
 simp only [ZZ,WW,Ze,reduceCtorEq,zd,ze,za,zf,zb,qac]
 refine qag (fun n fr L=>∃ (k:Nat),k≤l.length∧n=l.length - k∧fr=[oo,oo,oo,.mp (.l 6),oo,oo,oo,.p (.sl 12 (ddE l)),.p (int (l.length:Nat)),.p (int (k:Nat)),oo,oo,oo,oo,oo,oo,oo,oo,oo]∧L=[(.l 6,.mapg (.fl [.s,.i]) (stM (l.take k)) tSt tDd)]) (l.length) _ _ (by simp only [qac,ZZ,WW,Ze,reduceCtorEq,zd,ze,za,zf,zb];try trivial) (by simp only [List.take_zero,stM,List.foldl_nil,ZZ,WW,Ze,reduceCtorEq,zd,ze,za,zf,zb];try trivial) ⟨0,by omega,by omega,rfl,rfl⟩ ?_
 rintro n fr L ⟨k,hk,rfl,rfl,rfl⟩
 simp only [qdO,ZZ,WW,Ze,reduceCtorEq,zd,ze,za,zf,zb]
 refine br ?_ ?_
 ·intro h
  have hlt:k < l.length:=by have:=of_decide_eq_true h;omega
  obtain ⟨d,hd⟩:∃ d,l[k]?=some d:=⟨_,zr hlt⟩
  have hg:=qbC hd
  have hs:=qsL hd
  have hK:qbP [.str d.site,int d.no]=stK d.site d.no:=rfl
  simp only [ZZ,WW,Ze,reduceCtorEq,zd,ze,za,zf,zb,hg,qac,ddC,hK]
  refine ⟨⟨by omega,by omega⟩,by omega,qaj (by omega) (by omega),?_⟩
  refine qae (l.length - (k+1)) _ _ (by omega) (by (simp only [ZZ,WW,Ze,reduceCtorEq,zd,ze,za,zf,zb];try trivial)) (by rw [hs];(simp only [ZZ,WW,Ze,reduceCtorEq,zd,ze,za,zf,zb];try trivial)) ⟨k+1,by omega,rfl,rfl,rfl⟩
 ·intro h
  have hge:l.length≤k:=by have:=of_decide_eq_false h;omega
  rw [List.take_of_length_le hge]
  simp only [ZZ,WW,Ze,reduceCtorEq,zd,ze,za,zf,zb]
  rfl
set_option maxRecDepth 100000 in
set_option maxHeartbeats 4000000 in
theorem qqr (l:List Dd) (d:Dd):PCall Tryz.prog E 92 [stP l,.agg (ddC d)] (·=int (ofE l d)):=by
 refine qaf mixed Tryz.func92 qjb ?_
 simp only [a0,l0,OS.ao,zl,zt,zk,zp,zo,zq,zu,zd,zj,zm,qfy,qfp,ZZ,WW,Ze,reduceCtorEq,zd,ze,za,zf,zb]
 simp only [ddC,stP,ZZ,WW,Ze,reduceCtorEq,zd,ze,za,zf,zb]
 ((repeat' (with_reducible apply And.intro))<;>try ((exact sc_)))
 unfold ofE
 refine br ?_ ?_
 ·intro h1
  have hb:qdA d=false:=by simpa [qdA] using h1
  rw [if_neg (by rw [hb];simp)]
  simp only [ZZ,WW,Ze,reduceCtorEq,zd,ze,za,zf,zb]
 intro h1
 have hb:qdA d=true:=by
  simp only [Bool.and_eq_false_iff,Bool.not_eq_false',decide_eq_true_eq] at h1
  simpa [qdA] using h1
 rw [if_pos hb]
 have hK:qbP [.str d.osite,int d.ono]=stK d.osite d.ono:=rfl
 have hF:=qsM l d.osite d.ono
 cases hx:qjH l d.osite d.ono with
 |none=>
  rw [hx] at hF
  have hF:mpF (stM l) (stK d.osite d.ono)=none:=hF
  simp only [ZZ,WW,Ze,reduceCtorEq,zd,ze,za,zf,zb,hK,qqQ,mpD,hF,Option.getD_none,Option.isSome_none]
  rfl
 |some x=>
  rw [hx] at hF
  have hF:mpF (stM l) (stK d.osite d.ono)=some (.agg (ddC x)):=hF
  simp only [ZZ,WW,Ze,reduceCtorEq,zd,ze,za,zf,zb,hK,qqQ,mpD,hF,Option.getD_some,Option.isSome_some,ddC]
  refine ⟨fun h=>by rw [h];rfl,?_⟩
  have hm:(decide (x.kind=2) || decide (x.kind=4))=mrkB x:=rfl
  rw [hm]
  refine br ?_ ?_
  ·intro h3
   have h3':d.kind=3:=of_decide_eq_true h3
   simp only [ZZ,WW,Ze,reduceCtorEq,zd,ze,za,zf,zb]
   refine use1 (qdB (!mrkB x) 16) rfl (.inl rfl) ?_
   simp only [ZZ,WW,Ze,reduceCtorEq,zd,ze,za,zf,zb]
   rw [ofG,if_pos h3']
  ·intro h3
   have h3':¬ d.kind=3:=of_decide_eq_false h3
   simp only [ZZ,WW,Ze,reduceCtorEq,zd,ze,za,zf,zb]
   refine ⟨fun h=>by rw [h];rfl,fun h=>by rw [h];rfl,fun h=>by rw [h];rfl,?_⟩
   refine use1 (qdB (((mrkB x || decide (x.kind=6)) || !decide (x.site=d.site)) || decide (d.no≤x.no)) 16) rfl (.inl rfl) ?_
   simp only [ZZ,WW,Ze,reduceCtorEq,zd,ze,za,zf,zb]
   rw [ofG,if_neg h3']
end
def befD (l:List Dd) (k:Nat):Dd:=if k=0 then dd0 else (l[k - 1]?).getD dd0
theorem befB {l:List Dd} (h:DdsB l) (k:Nat):DdB (befD l k):=by
 have h0:DdB dd0:=by constructor<;>simp [dd0]
 unfold befD
 split
 ·exact h0
 ·cases hx:l[k - 1]? with
  |none=>exact h0
  |some q=>exact h.get hx
def mnF (q d:Dd):Int:=if d.site=q.site then q.no else 0
def lsF (q d:Dd):List UInt8:=if d.site=q.site then q.sum else []
def cdB (k:Nat) (q d:Dd):Bool:=decide (0 < (k:Int)) && decide (stC d.site d.no q.site q.no≤0)
def cdL (k:Nat) (q d:Dd) (m:Int) (s:List UInt8):List Int:=[qbR (!keyB d.site) 5,qbR (cdB k q d) 7,qbR (!decide (d.no=m+1) || !inE d.tm 0 5761439) 1,qbR (!inE d.kind 1 6) 4,qjJ d,qbR (!decide (d.sum=sumF s d)) 15]
theorem qtz (c:Bool) (m:Int) (s:List UInt8) (d:Dd):qbw [qbR (!keyB d.site) 5,qbR c 7,qbR (!decide (d.no=m+1) || !inE d.tm 0 5761439) 1,qbR (!inE d.kind 1 6) 4,qjJ d,qbR (!decide (d.sum=sumF s d)) 15]
  = if keyB d.site=false then 5 else if c=true then 7 else if ¬ d.no=m+1 then 1 else if ¬ oneF d=0 then oneF d else if d.sum=sumF s d then 0 else 15:=by
 unfold oneF
 generalize keyB d.site=b1
 generalize inE d.tm 0 5761439=b2
 generalize inE d.kind 1 6=b3
 by_cases e1:d.no=m+1<;>by_cases e2:d.sum=sumF s d<;>by_cases e3:qjJ d=0
 all_goals cases b1<;>cases c<;>cases b2<;>cases b3<;>simp [qbw,qbR,e1,e2,e3]
theorem qr8 {l:List Dd} {k:Nat} {d:Dd} (hd:l[k]?=some d):qbw (cdL k (befD l k) d (mnF (befD l k) d) (lsF (befD l k) d))=chkI l k:=by
 have hk:=(List.getElem?_eq_some_iff.1 hd).1
 unfold chkI
 rw [hd]
 show _=atF (qiq l k) d
 unfold cdL
 rw [qtz]
 cases k with
 |zero=>
  have e2:mnF dd0 d=0:=by unfold mnF dd0;simp
  have e3:lsF dd0 d=[]:=by unfold lsF dd0;simp
  show (if keyB d.site=false then 5 else if false=true then 7 else if ¬ d.no=mnF dd0 d+1 then 1 else if ¬ oneF d=0 then oneF d else if d.sum=sumF (lsF dd0 d) d then 0 else 15)=_
  rw [e2,e3]
  rfl
 |succ k=>
  obtain ⟨q,hq⟩:∃ q,l[k]?=some q:=⟨_,zr (by omega)⟩
  have e1:qiq l (k+1)=some q:=by unfold qiq;simpa using hq
  have e2:befD l (k+1)=q:=by unfold befD;simp [hq]
  rw [e1,e2]
  have an:=cmpD_p.anti q d
  have an2:=cmpD_p.anti d q
  have f1:cdB (k+1) q d=decide (0≤stC q.site q.no d.site d.no):=by
   unfold cdB
   rw [show decide (0 < ((k+1:Nat):Int))=true by simp,Bool.true_and]
   show decide (cmpD d q≤0)=decide (0≤cmpD q d)
   rw [decide_eq_decide]
   omega
  have f2:mnF q d+1=if q.site=d.site then q.no+1 else 1:=by
   unfold mnF
   by_cases e:q.site=d.site
   ·rw [if_pos e,if_pos e.symm]
   ·rw [if_neg e,if_neg (fun h=>e h.symm)];rfl
  have f3:lsF q d=if q.site=d.site then q.sum else []:=by
   unfold lsF
   by_cases e:q.site=d.site
   ·rw [if_pos e,if_pos e.symm]
   ·rw [if_neg e,if_neg (fun h=>e h.symm)]
  rw [f1,f2,f3]
  rfl
set_option maxRecDepth 100000 in
set_option maxHeartbeats 4000000 in
theorem qmT (l:List Dd) (hB:DdsB l) (hl:l.length≤1000000000):PCall Tryz.prog ED 51 [.sl 12 (ddE l)] (·=.tup [int (ckdF l).1,int (ckdF l).2]):=by
 refine qaf mixed Tryz.func51 qhr ?_
 simp only [a0,l0,OS.ao,zl,zt,zk,zp,zo,zq,zu,zd,zj,zm,qel,qd9,ZZ,WW,Ze,reduceCtorEq,zd,ze,za,zf,zb]
 simp only [ZZ,WW,Ze,reduceCtorEq,zd,ze,za,zf,zb,qac]
 unfold ckdF
 refine br ?_ ?_
 ·intro h
  have h:2000 < l.length:=by have:=of_decide_eq_true h;omega
  simp only [ZZ,WW,Ze,reduceCtorEq,zd,ze,za,zf,zb]
  rw [if_pos h]
 intro h
 have h2000:l.length≤2000:=by have:=of_decide_eq_false h;omega
 rw [if_neg (by omega)]
 clear h
 simp only [ZZ,WW,Ze,reduceCtorEq,zd,ze,za,zf,zb,qac]
 refine qag (fun n fr L=>∃ (k:Nat),k≤l.length∧n=l.length - k∧(∀ j,j < k→chkI l j=0)∧fr=[.p (.sl 12 (ddE l)),oo,.p (int 0),.p (int 0),.adr (.l 4) 0,.p (int (befD l k).no),.p (.str (befD l k).sum),oo,oo,oo,oo,oo,oo,oo,oo,oo,oo,oo,.p (.sl 12 (ddE l)),.p (int (l.length:Nat)),.p (int (k:Nat)),oo,oo,oo,oo,oo,oo,oo,oo,oo,oo,oo,oo,oo,oo,oo,oo,oo,oo,oo,oo,oo,oo,oo,oo,oo,oo,oo,oo,oo,oo,oo,oo,oo,oo,oo,oo,oo,oo,oo,oo,oo,oo,oo,oo,oo,oo,oo,oo,oo,oo,oo,oo,oo,oo,oo,oo,oo,oo,oo,oo,oo,oo,oo,oo,oo,oo,oo,oo,oo,oo,oo,oo,oo,oo,oo,oo,oo,oo,oo,oo,oo,oo,oo,oo,oo]∧L=[(.l 4,.box [.p (.str (befD l k).site),.p (int (befD l k).no),.p (int (befD l k).tm),.p (int (befD l k).kind),.p (.str (befD l k).id),.p (.str (befD l k).field),.p (.str (befD l k).value),.p (int (befD l k).frm),.p (int (befD l k).upto),.p (.str (befD l k).osite),.p (int (befD l k).ono),.p (.str (befD l k).sum)] tDd)]) (l.length) _ _ (by simp only [qac,befD,dd0,if_true,ZZ,WW,Ze,reduceCtorEq,zd,ze,za,zf,zb];try trivial) (by simp only [befD,dd0,if_true,ZZ,WW,Ze,reduceCtorEq,zd,ze,za,zf,zb];try trivial) ⟨0,by omega,by omega,by omega,rfl,rfl⟩ ?_
 rintro n fr L ⟨k,hk,rfl,hno,rfl,rfl⟩
 simp only [qc0,ZZ,WW,Ze,reduceCtorEq,zd,ze,za,zf,zb]
 refine br ?_ ?_
 ·intro h
  have hlt:k < l.length:=by have:=of_decide_eq_true h;omega
  obtain ⟨d,hd⟩:∃ d,l[k]?=some d:=⟨_,zr hlt⟩
  have hg:=qbC hd
  have hc:=qr8 hd
  have dB:=hB.get hd
  have b1:=dB.b1
  obtain ⟨q,hq⟩:∃ q,befD l k=q:=⟨_,rfl⟩
  rw [hq] at hc ⊢
  simp only [ZZ,WW,Ze,reduceCtorEq,zd,ze,za,zf,zb,hg,qac,ddC]
  refine ⟨⟨by omega,by omega⟩,by omega,?_⟩
  refine qeU (fun fr L=>fr=[.p (.sl 12 (ddE l)),oo,.p (int 0),.p (int 0),.adr (.l 4) 0,.p (int (mnF q d)),.p (.str (lsF q d)),.p (int (k:Nat)),.adr (.l 8) 0,oo,oo,oo,oo,oo,oo,oo,oo,oo,.p (.sl 12 (ddE l)),.p (int (l.length:Nat)),.p (int (k:Nat)),oo,oo,oo,oo,oo,oo,oo,oo,oo,oo,oo,oo,oo,oo,oo,oo,oo,oo,oo,oo,oo,oo,oo,oo,oo,oo,oo,oo,oo,oo,oo,oo,oo,oo,oo,oo,oo,oo,oo,oo,oo,oo,oo,oo,oo,oo,oo,oo,oo,oo,oo,oo,oo,oo,oo,oo,oo,oo,oo,oo,oo,oo,oo,oo,oo,oo,oo,oo,oo,oo,oo,oo,oo,oo,oo,oo,oo,oo,oo,oo,oo,oo,oo,oo,oo]∧L=[(.l 4,.box [.p (.str q.site),.p (int q.no),.p (int q.tm),.p (int q.kind),.p (.str q.id),.p (.str q.field),.p (.str q.value),.p (int q.frm),.p (int q.upto),.p (.str q.osite),.p (int q.ono),.p (.str q.sum)] tDd),(.l 8,.box [.p (.str d.site),.p (int d.no),.p (int d.tm),.p (int d.kind),.p (.str d.id),.p (.str d.field),.p (.str d.value),.p (int d.frm),.p (int d.upto),.p (.str d.osite),.p (int d.ono),.p (.str d.sum)] tDd)]) ?_ ?_ ?_
  ·intro h1
   have h1:¬ d.site=q.site:=by simpa using h1
   have hN:mnF q d=0:=by rw [mnF,if_neg h1]
   have hS:lsF q d=[]:=by rw [lsF,if_neg h1]
   simp only [ZZ,WW,Ze,reduceCtorEq,zd,ze,za,zf,zb]
   exact qao _ _ (by rw [hN,hS];(simp only [ZZ,WW,Ze,reduceCtorEq,zd,ze,za,zf,zb];try trivial)) zE_ ⟨rfl,rfl⟩
  ·intro h1
   have h1:d.site=q.site:=by simpa using h1
   have hN:mnF q d=q.no:=by rw [mnF,if_pos h1]
   have hS:lsF q d=q.sum:=by rw [lsF,if_pos h1]
   simp only [ZZ,WW,Ze,reduceCtorEq,zd,ze,za,zf,zb]
   exact qao _ _ (by rw [hN,hS];(simp only [ZZ,WW,Ze,reduceCtorEq,zd,ze,za,zf,zb];try trivial)) zE_ ⟨rfl,rfl⟩
  rintro fr L ⟨rfl,rfl⟩
  have qB:DdB q:=hq ▸ befB hB k
  have q6:=qB.b6
  have q1:=qB.c1
  have hSl:(lsF q d).length≤200000:=by unfold lsF;split;exact q6;simp
  have hNb:-1000000000000≤mnF q d∧mnF q d≤1000000000000:=by unfold mnF;split<;>omega
  generalize mnF q d=N at *
  generalize lsF q d=S at *
  simp only [ZZ,WW,Ze,reduceCtorEq,zd,ze,za,zf,zb]
  refine ⟨[.bool (keyB d.site),int (qbR (!keyB d.site) 5),int (stC d.site d.no q.site q.no),int (qbR (cdB k q d) 7),.bool (inE d.tm 0 5761439),int (qbR (!decide (d.no=N+1) || !inE d.tm 0 5761439) 1),.bool (inE d.kind 1 6),int (qbR (!inE d.kind 1 6) 4),int (qjJ d),.str (sumF S d),int (qbR (!decide (d.sum=sumF S d)) 15),int (qbw (cdL k q d N S))],?_⟩
  simp only [ZZ,WW,Ze,reduceCtorEq,zd,ze,za,zf,zb]
  refine ⟨usep (qn8 d.site (by omega)) rfl (.inl rfl),usep (qdB (!keyB d.site) 5) rfl (.inl rfl),fun h=>⟨h,usep (qlz d.site d.no q.site q.no) rfl (.inl rfl)⟩,usep (qdB (cdB k q d) 7) rfl (.inl rfl),qaj (by omega) (by omega),fun h=>⟨h,usep (qn7 d.tm) rfl (.inl rfl)⟩,fun h=>by rw [h];rfl,usep (qdB (!decide (d.no=N+1) || !inE d.tm 0 5761439) 1) rfl (.inl rfl),usep (qqO d.kind 1 6) rfl (.inl rfl),usep (qdB (!inE d.kind 1 6) 4) rfl (.inl rfl),usep (upD (qjq d dB)) rfl (.inl rfl),usep (quj d dB S hSl) rfl (.inl rfl),usep (qdB (!decide (d.sum=sumF S d)) 15) rfl (.inl rfl),usep (qj2 (cdL k q d N S) (by simp [cdL])) rfl (.inl rfl),?_⟩
  rw [hc]
  refine br ?_ ?_
  ·intro h6
   have h6:¬ chkI l k=0:=by simpa using h6
   have hs:=qh9 hlt hno h6
   simp only [ZZ,WW,Ze,reduceCtorEq,zd,ze,za,zf,zb]
   rw [hs,if_neg h6]
  ·intro h6
   have h6:chkI l k=0:=by simpa using h6
   have e:befD l (k+1)=d:=by unfold befD;simp [hd]
   simp only [ZZ,WW,Ze,reduceCtorEq,zd,ze,za,zf,zb]
   refine drg0 ?_
   simp only [ZZ,WW,Ze,reduceCtorEq,zd,ze,za,zf,zb]
   refine ⟨qaj (by omega) (by omega),?_⟩
   refine qae (l.length - (k+1)) _ _ (by omega) (by rw [e];(simp only [ZZ,WW,Ze,reduceCtorEq,zd,ze,za,zf,zb];try trivial)) (by rw [e];(simp only [ZZ,WW,Ze,reduceCtorEq,zd,ze,za,zf,zb];try trivial)) ⟨k+1,by omega,rfl,by intro j hj;rcases Nat.lt_or_ge j k with h'|h';exact hno j h';rw [show j=k by omega,h6],rfl,rfl⟩
 ·intro h
  have hge:l.length≤k:=by have:=of_decide_eq_false h;omega
  have hs:=qh8 (g:=chkI l) (N:=l.length) (fun j hj=>hno j (by omega))
  have hz:∀ j,j < l.length→chkI l j=0:=fun j hj=>hno j (by omega)
  rw [hs]
  simp only [if_true]
  generalize befD l k=q
  clear hs hno
  simp only [ZZ,WW,Ze,reduceCtorEq,zd,ze,za,zf,zb,qac]
  refine use1 (qo4 l (by omega)) rfl (.inl rfl) ?_
  simp only [ZZ,WW,Ze,reduceCtorEq,zd,ze,za,zf,zb,qac]
  refine qag (fun n fr L=>∃ (k:Nat),k≤l.length∧n=l.length - k∧(∀ j,j < k→ofI l j=0)∧fr=[oo,oo,.p (int 0),.p (int 0),.adr (.l 4) 0,oo,oo,oo,oo,oo,.p (stP l),oo,oo,oo,oo,oo,oo,oo,oo,oo,oo,oo,oo,oo,oo,oo,oo,oo,oo,oo,oo,oo,oo,oo,oo,oo,oo,oo,oo,oo,oo,oo,oo,oo,oo,oo,oo,oo,oo,oo,oo,oo,oo,oo,oo,oo,oo,oo,oo,oo,oo,oo,oo,oo,oo,oo,oo,oo,oo,oo,oo,oo,oo,oo,oo,oo,oo,oo,oo,oo,oo,oo,oo,oo,oo,oo,oo,oo,oo,oo,oo,.p (.sl 12 (ddE l)),.p (int (l.length:Nat)),.p (int (k:Nat)),oo,oo,oo,oo,oo,oo,oo,oo,oo,oo,oo,oo]∧L=[(.l 4,.box [.p (.str q.site),.p (int q.no),.p (int q.tm),.p (int q.kind),.p (.str q.id),.p (.str q.field),.p (.str q.value),.p (int q.frm),.p (int q.upto),.p (.str q.osite),.p (int q.ono),.p (.str q.sum)] tDd)]) (l.length) _ _ (by simp only [qac,ZZ,WW,Ze,reduceCtorEq,zd,ze,za,zf,zb];try trivial) (by (simp only [ZZ,WW,Ze,reduceCtorEq,zd,ze,za,zf,zb];try trivial)) ⟨0,by omega,by omega,by omega,rfl,rfl⟩ ?_
  rintro n fr L ⟨k,hk,rfl,hno,rfl,rfl⟩
  simp only [qcZ,ZZ,WW,Ze,reduceCtorEq,zd,ze,za,zf,zb]
  refine br ?_ ?_
  ·intro h
   have hlt:k < l.length:=by have:=of_decide_eq_true h;omega
   obtain ⟨d,hd⟩:∃ d,l[k]?=some d:=⟨_,zr hlt⟩
   have hg:=qbC hd
   have hc:ofI l k=ofF l d:=by unfold ofI;rw [hd]
   simp only [ZZ,WW,Ze,reduceCtorEq,zd,ze,za,zf,zb,hg,qac,ddC]
   refine ⟨⟨by omega,by omega⟩,by omega,?_⟩
   refine use1 (qqr l d) rfl (.inl rfl) ?_
   rw [qxj hz]
   simp only [ZZ,WW,Ze,reduceCtorEq,zd,ze,za,zf,zb]
   refine br ?_ ?_
   ·intro h2
    have h2:¬ ofF l d=0:=by simpa using h2
    have hs:=qh9 hlt hno (by rw [hc];exact h2)
    rw [hc] at hs
    simp only [ZZ,WW,Ze,reduceCtorEq,zd,ze,za,zf,zb]
    rw [hs]
   ·intro h2
    have h2:ofF l d=0:=by simpa using h2
    simp only [ZZ,WW,Ze,reduceCtorEq,zd,ze,za,zf,zb]
    ((repeat' (with_reducible apply And.intro))<;>try ((exact sc_)))
    refine qae (l.length - (k+1)) _ _ (by omega) (by (simp only [ZZ,WW,Ze,reduceCtorEq,zd,ze,za,zf,zb];try trivial)) (by (simp only [ZZ,WW,Ze,reduceCtorEq,zd,ze,za,zf,zb];try trivial)) ⟨k+1,by omega,rfl,by intro j hj;rcases Nat.lt_or_ge j k with h'|h';exact hno j h';rw [show j=k by omega,hc,h2],rfl,rfl⟩
  ·intro h
   have hge:l.length≤k:=by have:=of_decide_eq_false h;omega
   have hs:=qh8 (g:=ofI l) (N:=l.length) (fun j hj=>hno j (by omega))
   simp only [ZZ,WW,Ze,reduceCtorEq,zd,ze,za,zf,zb]
   rw [hs]
theorem qgJ (l:List Dd) (hB:DdsB l) (hl:l.length≤1000000000):PCall Tryz.prog ED 16 [.sl 12 (ddE l)] (·=int (ckdF l).2):=by
 refine qaf mixed Tryz.func16 qhM ?_
 simp only [a0,l0,OS.ao,zl,zt,zk,zp,zo,zq,zu,zd,zj,zm,qeH,qev,ZZ,WW,Ze,reduceCtorEq,zd,ze,za,zf,zb]
 refine use1 (qmT l hB hl) rfl (.inl rfl) ?_
 simp only [ZZ,WW,Ze,reduceCtorEq,zd,ze,za,zf,zb]
end Go.Proofs.YtjgdjinhkgjpeaaGreatDoor
namespace Go.Proofs.YtjgdjinhkgjpeaaGreatDoor
open List renaming all_eq_true→yb,flatten_cons→zH,getElem?_eq_getElem→zr,getElem?_eq_none→yo,length_cons→zk,map_cons→zl,mem_map→zK
open _root_.Array renaming getElem?_modify→yr,length_toList→yj
open Go.Lib Go.RowKit Go.Shelf Go.Sort
section
variable {P:Program} {ρ:Ren} {E:Envt} {α:Type} [Inhabited α]
def encD (encP:α→List PV) (x:α):List Value:=(encP x).map valD
theorem qi8 (enc:α→List Value) (k:Nat) (hk:∀ x,(enc x).length=k) (l:List α):(flatK enc k l.toArray).toList=(l.map enc).flatten:=by
 have hlen:∀ l:List α,((l.map enc).flatten).length=l.length * k:=by
  intro l
  induction l with
  |nil=>simp
  |cons x r ih=>rw [zl,zH,List.length_append,ih,hk,zk,Nat.add_mul];omega
 have hget:∀ (l:List α) (t:Nat),t < l.length * k→((l.map enc).flatten)[t]?=some (enc (l.toArray)[t / k]!)[t % k]!:=by
  intro l
  induction l with
  |nil=>intro t h;simp at h
  |cons x r ih=>
   intro t h
   have k0:0 < k:=by rcases Nat.eq_zero_or_pos k with h'|h';· subst h';simp at h
                     ·exact h'
   rw [zl,zH]
   by_cases ht:t < k
   ·rw [List.getElem?_append_left (by rw [hk];exact ht),Nat.div_eq_of_lt ht,Nat.mod_eq_of_lt ht]
    have:((x :: r).toArray)[0]! =x:=rfl
    rw [this,zr (by rw [hk];exact ht),getElem!_pos (enc x) t (by rw [hk];exact ht)]
   ·rw [List.getElem?_append_right (by rw [hk];omega),hk,ih (t - k) (by rw [zk,Nat.add_mul] at h;omega)]
    obtain ⟨u,rfl⟩:∃ u,t=u+k:=⟨t - k,by omega⟩
    rw [Nat.add_sub_cancel,Nat.add_mod_right,Nat.add_div_right _ k0]
    congr 2
    simp
 apply List.ext_getElem?
 intro t
 by_cases ht:t < l.length * k
 ·rw [hget l t ht,Array.getElem?_toList,Array.getElem?_eq_getElem (by rw [size_flatK];simpa using ht)]
  have:=get_flatK enc k l.toArray t (by simpa using ht)
  rw [getElem!_pos _ t (by rw [size_flatK];simpa using ht)] at this
  rw [this]
 ·rw [yo (by rw [yj,size_flatK];simpa using ht),yo (by rw [hlen];omega)]
theorem qj6 (lt:α→α→Bool) (d:Array α) (n:Nat) (hn:d.size=n) (h:SortedIn lt 0 n d):d.toList.Pairwise (fun u v=>lt v u=false):=by
 rw [List.pairwise_iff_getElem]
 intro i j hi hj hij
 have:=h i j (Nat.zero_le _) hij (by simpa [hn] using hj)
 rw [getElem!_pos d i (by simpa using hi),getElem!_pos d j (by simpa using hj)] at this
 simpa using this
theorem qrk (d d':Array α) (h:PermIn 0 d.size d d'):d'.toList.Perm d.toList∧d'.size=d.size:=by
 refine ⟨?_,h.1⟩
 have:=h.2.2
 rw [Array.extract_eq_self_of_le (Nat.le_refl _),Array.extract_eq_self_of_le (by rw [h.1];exact Nat.le_refl _)] at this
 exact this
theorem qm1 (L:SlLaysF0.n6 P ρ) (k:Nat) (aE:∀ w,(isAgg (ρ.t 24)).run P w=.ok true w) (zE:∀ w,(Go.sizeOf (ρ.t 24)).run P w=.ok k w) (et:TypeId) (encP:α→List PV) (hk:∀ x,(encP x).length=k) (hf:∀ x,(encP x).all qkZ=true) (cf:α→α→Int) (hO:SWO (ltOf cf)) (g:Nat) (eg:∀ args w,(callFunc g args).run P w=.ok (.enter g args) w)
  (hcmp:∀ (w:World) (x y:α),Calls P g #[.agg (encD encP x).toArray,.agg (encD encP y).toArray] w fun e w'=>e=.returned (.int .i64 (cf x y))∧∃ q os',w'=grow (w.drewN q) os') (l:List α) (hl:l.length≤1000000000000) :
  RCall P E (ρ.f 6) et k (l.map encP) [.clo g []] (fun x es'=>x=.tup []∧∃ l':List α,es'=l'.map encP∧l'.Perm l∧l'.Pairwise (fun u v=>ltOf cf v u=false)):=by
 intro w U vs v0 hU hE hEb hA hB
 obtain ⟨hB1,us,hrow,h1,hrep,hz⟩:=hB
 have hvs:vs=[.func (.func g) #[] #[]]:=by
  simp only [PRepL,PRep] at hA
  obtain ⟨v,r,rfl,⟨us,h1,rfl⟩,rfl⟩:=hA
  rw [h1]
 subst hvs
 have hall:∀ l:List α,((l.map encP).flatten).all qkZ=true:=by
  intro l
  induction l with
  |nil=>rfl
  |cons x r ih=>rw [zl,zH,List.all_append,hf,ih];rfl
 have hmapf:∀ l:List α,((l.map encP).flatten).map valD=(l.map (encD encP)).flatten:=by
  intro l
  induction l with
  |nil=>rfl
  |cons x r ih=>rw [zl,zH,List.map_append,ih];rfl
 rw [PRepL.valD (hall l),hmapf] at hrep
 subst hrep
 have hke:∀ x,(encD encP x).length=k:=fun x=>by simp [encD,hk]
 rw [List.length_map] at hrow
 rcases hrow.2 with ⟨rfl,hn⟩|⟨b,cap,cur,fz,rfl,hg,hn,hcap,hcs,htk,hfz⟩
 ·have hl0:l=[]:=List.eq_nil_of_length_eq_zero hn
  subst hl0
  refine (AnyF.slices_SortFunc_none L none 0 (.func (.func g) #[] #[]) w).mono ?_
  rintro e w' ⟨rfl,rfl⟩
  exact ⟨_,.p (.tup []),.row et k [],rfl,⟨_,_,rfl,rfl,rfl,[],rfl,.refl _,.nil⟩,⟨[],rfl,by simp [PRepL]⟩,Grow.refl _ _,⟨[],⟨by simp,.inl ⟨rfl,rfl⟩⟩,by simp,by simp [PRepL],by simp⟩⟩
 ·have hf0:fz=(0,0):=by rcases hfz with h|h;exact h;exact absurd h.1 (by simp)
  subst hf0
  have hb:b < w.heap.size:=by
   rcases Nat.lt_or_ge b w.heap.size with h|h
   ·exact h
   ·rw [Array.getElem?_eq_none h] at hg;cases hg
  have hlk:=qi8 (encD encP) k hke l
  have hsz:(flatK (encD encP) k l.toArray).size=l.length * k:=by rw [size_flatK];simp
  have hH:HoldsK (encD encP) k w b 0 l.toArray:=by
   intro j hj
   rw [hsz] at hj
   have e1:cur[j]?=some ((flatK (encD encP) k l.toArray)[j]!):=by
    rw [getElem!_pos _ j (by rw [hsz];exact hj),← Array.getElem_toList,← zr,hlk,← htk,List.getElem?_take_of_lt hj,Array.getElem?_toList]
   refine ⟨?_,?_⟩
   ·simp only [World.cell?,hg]
    simpa using e1
   ·simp [World.frozen?,hg]
  have hcmp':CmpLays P g #[] (encD encP) k cf b 0 l.toArray.size w:=fun m os dk hs x y=>by simpa using hcmp _ x y
  refine (AnyQ.slices_SortFunc L k aE zE (encD encP) hke (fun x v hv=>by
   simp only [encD,zK] at hv
   obtain ⟨q,hq,rfl⟩:=hv
   exact qpk (yb.1 (hf x) q hq)) cf hO g #[] b 0 cap l.toArray w eg hcmp' hH hb (by simp;omega)).mono ?_
  rintro e w' ⟨rfl,d',n,os,hperm,hsort,rfl⟩
  obtain ⟨hp1,hp2⟩:=qrk _ _ hperm
  have hp2':d'.size=l.length:=by simpa using hp2
  have hds:=qj6 (ltOf cf) d' l.toArray.size hp2 hsort
  have hblk:∀ c,c≠b→c < w.heap.size→(sortWorldK (encD encP) k w b 0 n d' os).heap[c]?=w.heap[c]?:=by
   intro c hc hlt
   simp only [sortWorldK,grow,putRowK,putRow,mapBlock]
   rw [Array.getElem?_append_left (by simpa using hlt),yr,if_neg (fun e=>hc e.symm)]
   rfl
  have hnew:(sortWorldK (encD encP) k w b 0 n d' os).heap[b]?=some (.cells (putCells id 0 (flatK (encD encP) k d') cur) et (0,0)):=by
   simp only [sortWorldK,grow,putRowK,putRow,mapBlock]
   rw [Array.getElem?_append_left (by simpa using hb),yr,if_pos rfl]
   show Option.map _ w.heap[b]?=_
   rw [hg]
   rfl
  have hGr:Grow w (sortWorldK (encD encP) k w b 0 n d' os) (fun c=>blk (.slice (some ⟨b,0,none⟩) l.length cap)=some c):=by
   refine ⟨rfl,rfl,rfl,?_,fun c hc hne=>hblk c (fun e=>hne (by rw [e];rfl)) hc⟩
   simp [sortWorldK,grow,putRowK,putRow,mapBlock]
  refine ⟨_,.p (.tup []),.row et k (d'.toList.map encP),rfl,⟨_,_,rfl,rfl,rfl,d'.toList,rfl,by simpa using hp1,hds⟩,⟨[],rfl,by simp [PRepL]⟩,hGr,?_⟩
  have hlen':((d'.toList.map (encD encP)).flatten).length=l.length * k:=by
   rw [← qi8 (encD encP) k hke d'.toList,yj,size_flatK]
   simp [hp2']
  have hdl:(d'.toList.map encP).length=l.length:=by simp [hp2']
  refine ⟨(d'.toList.map (encD encP)).flatten,⟨by rw [hlen',hdl],.inr ⟨b,cap,_,(0,0),by rw [hdl],hnew,by rw [hdl];exact hn,hcap,by simp [putCells,hcs],?_,.inl rfl⟩⟩,?_,?_,?_⟩
  ·rw [hdl]
   have hle:l.length * k≤cur.size:=by rw [hcs];exact Nat.mul_le_mul_right _ hn
   have hfk:=qi8 (encD encP) k hke d'.toList
   apply List.ext_getElem?
   intro j
   by_cases hj:j < l.length * k
   ·rw [List.getElem?_take_of_lt hj,Array.getElem?_toList,← hfk,Array.getElem?_toList]
    have hsz':(flatK (encD encP) k d').size=l.length * k:=by rw [size_flatK,hp2']
    simp only [putCells,Array.getElem?_mapIdx,hsz']
    rw [Array.getElem?_eq_getElem (by omega),Option.map_some,if_pos ⟨Nat.zero_le _,by omega⟩,Nat.sub_zero,getElem!_pos _ j (by rw [hsz'];exact hj)]
    simp
   ·rw [yo (by rw [List.length_take];omega),yo (by rw [hlen'];omega)]
  ·intro u hu
   obtain ⟨q,hq,hu⟩:=List.mem_flatten.1 hu
   obtain ⟨x,hx,rfl⟩:=zK.1 hq
   simp only [encD,zK] at hu
   obtain ⟨q,hq,rfl⟩:=hu
   exact qpk (yb.1 (hf x) q hq)
  ·rw [PRepL.valD (hall d'.toList),hmapf]
  ·intro x hx
   obtain ⟨y,_,rfl⟩:=zK.1 hx
   exact hk y
end
end Go.Proofs.YtjgdjinhkgjpeaaGreatDoor
namespace Go.Proofs.YtjgdjinhkgjpeaaGreatDoor
open Go.RowKit Go.Sort
theorem qvB (x y:Int) (b:Nat) (w:World) (h0:w.cell? ⟨b,0,none⟩=some (.int .i64 x)) (h1:w.cell? ⟨b,1,none⟩=some (.int .i64 y)) :
  Calls Tryz.prog 59 #[.slice (some ⟨b,0,none⟩) 2 2] w fun e w'=>e=.returned (.int .i64 (qbw [x,y]))∧w'=w:=by
 by_cases hx:x=0
 ·by_cases hy:y=0
  ·subst hx hy
   go_enter Tryz.func59,Tryz.ntmps59
   go_wp2_with fail
   go_rounds 3
   go_ret
   exact ⟨rfl,rfl⟩
  ·subst hx
   go_enter Tryz.func59,Tryz.ntmps59
   go_wp2_with fail
   go_rounds 3
   go_ret
   exact ⟨by simp [qbw,hy],rfl⟩
 ·go_enter Tryz.func59,Tryz.ntmps59
  go_wp2_with fail
  go_rounds 3
  go_ret
  exact ⟨by simp [qbw,hx],rfl⟩
theorem qxI (w:World) (a b:Obj):∃ q os',(w.alloc a).alloc b=grow (w.drewN q) os':=
 ⟨0,#[a,b],by cases w;simp only [World.alloc,grow,World.drewN,World.mk.injEq,and_true,Nat.add_zero];apply Array.ext';simp⟩
theorem qrR (w:World) (os:Array Obj) (o:Obj):(grow w os).alloc o=grow w (os.push o):=by
 cases w
 simp only [World.alloc,grow,World.mk.injEq,and_true]
 apply Array.ext'
 simp
theorem qsc (w:World) (c1:Array Value) (e1:TypeId) (i:Nat):(w.alloc (.cells c1 e1)).cell? ⟨w.heap.size,i,none⟩=c1[i]?:=by
 unfold World.cell?
 simp only [heap_alloc_new w (.cells c1 e1)]
 rfl
theorem qsb (w:World) (c1 c2:Array Value) (e1 e2:TypeId) (i:Nat):((w.alloc (.cells c1 e1)).alloc (.cells c2 e2)).cell? ⟨w.heap.size,i,none⟩=c1[i]?:=by
 have h:((w.alloc (.cells c1 e1)).alloc (.cells c2 e2)).heap[w.heap.size]?=some (.cells c1 e1):=(heap_alloc_old (w.alloc (.cells c1 e1)) (.cells c2 e2) (by simp)).trans (heap_alloc_new w (.cells c1 e1))
 unfold World.cell?
 simp only [h]
 rfl
theorem qsa (w:World) (c1 c2:Array Value) (e1 e2:TypeId) (i:Nat):((w.alloc (.cells c1 e1)).alloc (.cells c2 e2)).cell? ⟨w.heap.size+1,i,none⟩=c2[i]?:=by
 have h:((w.alloc (.cells c1 e1)).alloc (.cells c2 e2)).heap[w.heap.size+1]?=some (.cells c2 e2):=by
  have:=heap_alloc_new (w.alloc (.cells c1 e1)) (.cells c2 e2)
  simpa using this
 unfold World.cell?
 simp only [h]
 rfl
def ddV (d:Dd):Array Value:=(encD ddC d).toArray
set_option maxRecDepth 100000 in
set_option maxHeartbeats 2000000 in
theorem qkR (a b:Dd) (w:World):Calls Tryz.prog 25 #[.agg (ddV a),.agg (ddV b)] w fun e w'=>e=.returned (.int .i64 (cmpD a b))∧∃ q os',w'=grow (w.drewN q) os':=by
 have ea:ddV a=#[.string ⟨a.site.toArray⟩,.int .i64 a.no,.int .i64 a.tm,.int .i64 a.kind,.string ⟨a.id.toArray⟩,.string ⟨a.field.toArray⟩,.string ⟨a.value.toArray⟩,.int .i64 a.frm,.int .i64 a.upto,.string ⟨a.osite.toArray⟩,.int .i64 a.ono,.string ⟨a.sum.toArray⟩]:=rfl
 have eb:ddV b=#[.string ⟨b.site.toArray⟩,.int .i64 b.no,.int .i64 b.tm,.int .i64 b.kind,.string ⟨b.id.toArray⟩,.string ⟨b.field.toArray⟩,.string ⟨b.value.toArray⟩,.int .i64 b.frm,.int .i64 b.upto,.string ⟨b.osite.toArray⟩,.int .i64 b.ono,.string ⟨b.sum.toArray⟩]:=rfl
 rw [ea,eb]
 go_enter Tryz.func25,Tryz.ntmps25
 go_wp2_with fail
 generalize hW:World.alloc (World.alloc w _) _=W
 have c0:W.cell? ⟨w.heap.size,0,none⟩=some (.string ⟨a.site.toArray⟩):=by rw [← hW,qsb];rfl
 have c1:W.cell? ⟨w.heap.size,1,none⟩=some (.int .i64 a.no):=by rw [← hW,qsb];rfl
 have c2:W.cell? ⟨w.heap.size+1,0,none⟩=some (.string ⟨b.site.toArray⟩):=by rw [← hW,qsa];rfl
 have c3:W.cell? ⟨w.heap.size+1,1,none⟩=some (.int .i64 b.no):=by rw [← hW,qsa];rfl
 have hG:∃ q os',W=grow (w.drewN q) os':=hW ▸ qxI w _ _
 clear hW ea eb
 generalize w.heap.size=n at *
 refine wp_region_still_tail 14 (by kernel_rfl) (by kernel_rfl) ?_
 simp only [List.take_succ_cons,List.take_zero,List.drop_succ_cons,List.drop_zero]
 have hG2:∃ q os',({ W with drawn:=W.drawn+1 }:World)=grow (w.drewN q) os':=by
  obtain ⟨q,os',rfl⟩:=hG
  exact ⟨q+1,os',rfl⟩
 replace c0:({ W with drawn:=W.drawn+1 }:World).cell? ⟨n,0,none⟩=some (.string ⟨a.site.toArray⟩):=c0
 replace c1:({ W with drawn:=W.drawn+1 }:World).cell? ⟨n,1,none⟩=some (.int .i64 a.no):=c1
 replace c2:({ W with drawn:=W.drawn+1 }:World).cell? ⟨n+1,0,none⟩=some (.string ⟨b.site.toArray⟩):=c2
 replace c3:({ W with drawn:=W.drawn+1 }:World).cell? ⟨n+1,1,none⟩=some (.int .i64 b.no):=c3
 clear hG
 generalize ({ W with drawn:=W.drawn+1 }:World)=V at *
 refine wpStill_step (fun K hK=>?_)
 go_simp
 refine hK _ ?_
 clear hK K
 refine wpStill_step (fun K hK=>?_)
 go_simp
 refine hK _ ?_
 clear hK K
 refine wpStill_step (fun K hK=>?_)
 go_simp
 refine hK _ ?_
 clear hK K
 refine wpStill_step (fun K hK=>?_)
 go_simp
 refine hK _ ?_
 clear hK K
 refine wpStill_step (fun K hK=>?_)
 go_simp
 refine hK _ ?_
 clear hK K
 refine wpStill_step (fun K hK=>?_)
 go_simp
 refine hK _ ?_
 clear hK K
 refine wpStill_step (fun K hK=>?_)
 go_simp
 refine ⟨_,Any.strings_Compare Tryz.layCompare _ _ _,hK _ ?_⟩
 clear hK K
 refine wpStill_step (fun K hK=>?_)
 go_simp
 refine hK _ ?_
 clear hK K
 refine wpStill_step (fun K hK=>?_)
 go_simp
 refine hK _ ?_
 clear hK K
 refine wpStill_step (fun K hK=>?_)
 go_simp
 refine hK _ ?_
 clear hK K
 refine wpStill_step (fun K hK=>?_)
 go_simp
 refine hK _ ?_
 clear hK K
 refine wpStill_step (fun K hK=>?_)
 go_simp
 refine hK _ ?_
 clear hK K
 refine wpStill_step (fun K hK=>?_)
 go_simp
 refine hK _ ?_
 clear hK K
 refine wpStill_step (fun K hK=>?_)
 go_simp
 refine ⟨_,Any.cmp_Compare_int Tryz.layCmpInt _ _ _,hK _ ?_⟩
 clear hK K
 refine wpStill_nil ?_
 clear c0 c1 c2 c3
 have hv:qbw [Lib.compareBytes a.site b.site,Lib.compareInt a.no b.no]=cmpD a b:=by
  have e:Lib.compareInt a.no b.no=sgnC a.no b.no:=by
   unfold Lib.compareInt sgnC
   split
   ·rfl
   ·split<;>rfl
  rw [e]
  rfl
 generalize Lib.compareBytes a.site b.site=x at *
 generalize Lib.compareInt a.no b.no=y at *
 go_wp2_with (refine (qvB x y V.heap.size (V.alloc (.cells #[.int .i64 x,.int .i64 y] 3)) (qsc V _ _ 0) (qsc V _ _ 1)).mono ?_;rintro e w' ⟨rfl,rfl⟩)
 go_ret
 refine ⟨rfl,?_⟩
 obtain ⟨q,os',rfl⟩:=hG2
 exact ⟨q,os'.push _,qrR _ _ _⟩
def qwL (E:Envt) (g:FuncId) (l:List Dd):Prop:=RCall Tryz.prog E 85 tDd 12 (ddE l) [.clo g []] (fun x es'=>x=.tup []∧∃ l':List Dd,es'=ddE l'∧l'.Perm l∧l'.Pairwise (fun u v=>cmpD u v≤0))
theorem qqk (E:Envt) (l:List Dd) (hl:l.length≤1000000000000):qwL E 25 l:=by
 have tr:=cmpD_p.tr
 have an:=cmpD_p.anti
 have h:=qm1 (E:=E) Tryz.layDeedSort 12 (fun w=>Tryz.isAgg44 w) (fun w=>Tryz.sizeOf44 w) tDd ddC (fun x=>rfl) (fun x=>rfl) cmpD
  ⟨fun x=>by have:=an x x;simp [ltOf];omega,fun x y z h1 h2=>by simp only [ltOf,decide_eq_true_eq] at *;have a1:=an x y;have a2:=an y z;have a3:=an x z;have a4:=an z x;have t1:=tr x y z;have t2:=tr z x y;omega,fun x y z h1 h2=>by simp only [ltOf,decide_eq_false_iff_not] at *;have a1:=an x y;have a2:=an y z;have a3:=an x z;have t1:=tr z y x;have a4:=an z y;have a5:=an y x;omega⟩ 25 (fun args w=>qif (by kernel_rfl) args w)
  (fun w x y=>qkR _ _ w) l hl
 refine RCall.mono h ?_
 rintro x es ⟨rfl,l',rfl,hp,hs⟩
 refine ⟨rfl,l',rfl,hp,hs.imp ?_⟩
 intro u v h
 have:=an v u
 simp only [ltOf,decide_eq_false_iff_not] at h
 omega
def srtD (q:List Dd):List Dd:=q.mergeSort fun a b=>decide (cmpD a b≤0)
theorem qg8 (q:List Dd):(srtD q).Perm q:=List.mergeSort_perm _ _
theorem qq5 (q:List Dd):(srtD q).Pairwise fun u v=>cmpD u v≤0:=by
 have tr:=cmpD_p.tr
 have an:=cmpD_p.anti
 have:=List.pairwise_mergeSort (le:=fun a b:Dd=>decide (cmpD a b≤0)) (fun a b c h1 h2=>by simp only [decide_eq_true_eq] at *;exact tr a b c h1 h2) (fun a b=>by simp only [Bool.or_eq_true,decide_eq_true_eq];have:=an a b;have:=an b a;omega) q
 exact this.imp fun h=>by simpa using h
def UnqD (q:List Dd):Prop:=q.Pairwise fun a b=>¬ cmpD a b=0
theorem qwU {q:List Dd} (h:UnqD q) {x y:Dd} (hx:x∈q) (hy:y∈q) (h0:cmpD x y=0):x=y:=by
 have an:=cmpD_p.anti
 obtain ⟨i,hi,rfl⟩:=List.mem_iff_getElem.1 hx
 obtain ⟨j,hj,rfl⟩:=List.mem_iff_getElem.1 hy
 unfold UnqD at h
 rw [List.pairwise_iff_getElem] at h
 rcases Nat.lt_trichotomy i j with h1|h1|h1
 ·exact absurd h0 (h i j hi hj h1)
 ·subst h1;rfl
 ·have h2:=h j i hj hi h1
  have a1:=an q[i] q[j]
  have a2:=an q[j] q[i]
  exact absurd (by omega) h2
theorem qul {q l:List Dd} (hq:UnqD q) (hp:l.Perm q) (hs:l.Pairwise fun u v=>cmpD u v≤0):l=srtD q:=by
 have an:=cmpD_p.anti
 exact List.Perm.eq_of_pairwise (le:=fun u v=>cmpD u v≤0) (fun a b ha hb h1 h2=>qwU hq (hp.mem_iff.1 ha) ((qg8 q).mem_iff.1 hb) (by have:=an a b;have:=an b a;omega)) hs (qq5 q) (hp.trans (qg8 q).symm)
theorem qm0 (E:Envt) (l:List Dd) (hl:l.length≤1000000000000) (hq:UnqD l):RCall Tryz.prog E 85 tDd 12 (ddE l) [.clo 25 []] (fun x es'=>x=.tup []∧es'=ddE (srtD l)):=by
 refine RCall.mono (qqk E l hl) ?_
 rintro x es ⟨rfl,l',rfl,hp,hs⟩
 exact ⟨rfl,by rw [qul hq hp hs]⟩
end Go.Proofs.YtjgdjinhkgjpeaaGreatDoor
namespace Go.Proofs.YtjgdjinhkgjpeaaGreatDoor
open Nat renaming reduceAdd→zd,reduceEqDiff→zb,reduceLT→zf,reduceLeDiff→za,reduceMul→ze,reduceSub→zu
open List renaming cons_append→zo,getElem?_eq_getElem→zr,getElem?_eq_some_iff→zw,length_cons→zk,length_nil→zp,map_cons→zl,map_nil→zt,nil_append→zq,replicate_succ→zj,replicate_zero→zm,reverse_reverse→yw,take_of_length_le→zP
open Go.RowKit
def qbf:IC:=(.seq (.reg [qO 2 (.nilr 44 12)]) (.seq (.seq (.reg [qM 3 0,qO 4 (.isn (.t 3))]) (.cond (.t 4) (.seq (.reg [qO 2 (.nilr 44 12)]) .ret) .skip)) (.seq (.reg [qO 5 (.bsr 44 12 []),qM 6 0,qO 7 (.app 44 12 144 (.t 5) (.t 6)),qM 2 7]) .ret)))
def qa9:List IRes:=[.t 2]
theorem qda:chkF Tryz.prog Tryz.f47 qbf qa9 8=true:=by kernel_rfl
def qc5:IC:=(.seq (.reg [qO 13 (.bin .lss (.t 12) (.t 11))]) (.seq (.cond (.t 13) .skip (.exit 0)) (.seq (.block 1 (.seq (.reg [qO 14 (.ixa 12 (.t 10) (.t 12)),qO 15 (.ld 12 true (.t 14)),qO 9 (.alc 44 [.str [],.int .i64 0,.int .i64 0,.int .i64 0,.str [],.str [],.str [],.int .i64 0,.int .i64 0,.str [],.int .i64 0,.str []]),⟨none,.st 12 (.t 9) (.t 15),none⟩]) (.seq (.reg [qO 16 (.fla 0 (.t 9)),qO 17 (.fla 0 (.t 16)),qO 18 (.ld 1 false (.t 17)),qM 19 1,qO 20 (.bin .eql (.t 18) (.t 19))]) (.cond (.t 20) (.drg [qO 21 (.fla 0 (.t 9)),qO 22 (.fla 1 (.t 21)),qO 23 (.ld 1 false (.t 22)),qO 24 (.fla 11 (.t 9)),qO 25 (.ld 1 false (.t 24)),qM 6 23,qM 7 25]) .skip)))) (.cut (.reg [qO 26 (.bin .add (.t 12) (.c (.int .i64 1))),qM 12 26])))))
def qen:IC:=(.seq (.reg [qO 4 (.mov (.c (.int .i64 0))),qO 5 (.mov (.c (.str [])))]) (.seq (.reg [qO 6 (.mov (.c (.int .i64 0))),qO 7 (.mov (.c (.str [])))]) (.seq (.seq (.reg [qM 10 0,qO 11 (.len (.t 10)),qO 12 (.mov (.c (.int .i64 0)))]) (.block 0 (.loop qc5))) (.seq (.reg [qM 27 6,qM 28 7,qM 4 27,qM 5 28]) .ret))))
def qea:List IRes:=[.t 4,.t 5]
theorem qhs:chkF Tryz.prog Tryz.f164 qen qea 29=true:=by kernel_rfl
def qe8:IC:=(.seq (.reg [qO 3 (.box 44 (.t 1)),qO 4 (.mov (.c (.nl 12)))]) (.seq (.reg [qM 9 0,qO 10 (.fla 0 (.t 3)),qO 11 (.fla 0 (.t 10)),qO 12 (.ld 1 false (.t 11)),qO 13 (.call 164 [.t 9,.t 12]),qM 8 13,qO 14 (.ext 0 (.t 8)),qO 15 (.ext 1 (.t 8)),qM 5 14,qM 6 15]) (.seq (.reg [qM 16 5,qO 17 (.bin .add (.t 16) (.c (.int .i64 1))),qO 18 (.fla 0 (.t 3)),qO 19 (.fla 1 (.t 18)),⟨none,.st 1 (.t 19) (.t 17),none⟩]) (.seq (.reg [qM 20 6,qO 21 (.ld 12 true (.t 3)),qO 22 (.call 27 [.t 20,.t 21]),qO 23 (.fla 11 (.t 3)),⟨none,.st 1 (.t 23) (.t 22),none⟩]) (.seq (.drg [⟨none,.hole 25,none⟩,qM 24 0,qO 25 (.fcl 0 47 [.t 24] 44 12),qO 26 (.ld 12 true (.t 3)),qO 27 (.bsl 12 [.t 26]),qO 28 (.app 44 12 144 (.t 25) (.t 27)),qM 7 28]) (.seq (.reg [qM 29 7,qO 30 (.call 85 [.t 29,.f 25])]) (.seq (.reg [qM 31 7,qM 4 31]) .ret)))))))
def qeZ:List IRes:=[.t 4]
theorem qiK:chkF Tryz.prog Tryz.f124 qe8 qeZ 32=true:=by kernel_rfl
def qdt:IC:=(.seq (.reg [qO 6 (.mov (.c (.int .i64 0)))]) (.seq (.block 0 (.seq (.reg [qM 8 1,qO 9 (.call 24 [.t 8]),qO 10 (.not (.t 9)),qM 7 10]) (.cond (.t 7) (.seq (.reg [qO 6 (.mov (.c (.int .i64 5)))]) .ret) (.seq (.reg [qM 12 0,qO 13 (.len (.t 12)),qO 14 (.bin .eql (.t 13) (.c (.int .i64 2000))),qM 11 14]) (.cond (.t 11) (.seq (.reg [qO 6 (.mov (.c (.int .i64 12)))]) .ret) (.seq (.reg [qM 16 2,qO 17 (.call 62 [.t 16]),qO 18 (.not (.t 17)),qM 15 18]) (.cond (.t 15) (.seq (.reg [qO 6 (.mov (.c (.int .i64 1)))]) .ret) .skip))))))) (.seq (.reg [qO 6 (.mov (.c (.int .i64 0)))]) .ret)))
def qdm:List IRes:=[.t 6]
theorem qgo:chkF Tryz.prog Tryz.f122 qdt qdm 19=true:=by kernel_rfl
def qfa:IC:=(.seq (.reg [qO 15 (.box 42 (.t 7)),qO 16 (.mov (.c (.nl 12))),qO 17 (.mov (.c (.int .i64 0)))]) (.seq (.seq (.reg [qM 21 0,qM 22 1,qM 23 2,qO 24 (.call 122 [.t 21,.t 22,.t 23]),qM 18 24]) (.seq (.reg [qM 25 18,qO 26 (.bin .neq (.t 25) (.c (.int .i64 0)))]) (.cond (.t 26) (.seq (.reg [qM 27 18,qO 16 (.mov (.c (.nl 12))),qM 17 27]) .ret) .skip))) (.seq (.seq (.reg [qM 28 3,qO 29 (.bin .eql (.t 28) (.c (.int .i64 3))),qM 30 29,⟨some 31,.mov (.t 3),(some (30,false))⟩,⟨some 32,.bin .eql (.t 31) (.c (.int .i64 6)),(some (30,false))⟩,qO 33 (.pick (.t 30) (.c (.bool true)) (.t 32))]) (.cond (.t 33) (.seq (.reg [qO 16 (.mov (.c (.nl 12))),qO 17 (.mov (.c (.int .i64 4)))]) .ret) .skip)) (.seq (.reg [qM 34 1,qO 35 (.bld [.str [],.int .i64 0] [(0,1,.t 34)]),qM 36 2,qM 37 3,qM 38 4,qM 39 5,qM 40 6,qO 41 (.ld 2 true (.t 15)),qO 42 (.bld [.str [],.int .i64 0,.int .i64 0,.int .i64 0,.str [],.str [],.str [],.int .i64 0,.int .i64 0,.str [],.int .i64 0,.str []] [(0,2,.t 35),(2,1,.t 36),(3,1,.t 37),(4,1,.t 38),(5,1,.t 39),(6,1,.t 40),(7,2,.t 41)]),qO 19 (.alc 44 [.str [],.int .i64 0,.int .i64 0,.int .i64 0,.str [],.str [],.str [],.int .i64 0,.int .i64 0,.str [],.int .i64 0,.str []]),⟨none,.st 12 (.t 19) (.t 42),none⟩]) (.seq (.seq (.reg [qO 43 (.ld 12 true (.t 19)),qO 44 (.call 26 [.t 43]),qM 20 44]) (.seq (.reg [qM 45 20,qO 46 (.bin .neq (.t 45) (.c (.int .i64 0)))]) (.cond (.t 46) (.seq (.reg [qM 47 20,qO 16 (.mov (.c (.nl 12))),qM 17 47]) .ret) .skip))) (.seq (.reg [qM 48 0,qO 49 (.ld 12 true (.t 19)),qO 50 (.call 124 [.t 48,.t 49]),qM 16 50,qO 17 (.mov (.c (.int .i64 0)))]) .ret))))))
def qe1:List IRes:=[.t 16,.t 17]
theorem qiM:chkF Tryz.prog Tryz.f83 qfa qe1 51=true:=by kernel_rfl
def tipN (s:List UInt8) (p:Int×List UInt8) (d:Dd):Int×List UInt8:=if d.site=s then (d.no,d.sum) else p
def tipF (l:List Dd) (s:List UInt8):Int×List UInt8:=l.foldl (tipN s) (0,[])
theorem qmY {l:List Dd} {k:Nat} {d:Dd} (s:List UInt8) (h:l[k]?=some d):tipF (l.take (k+1)) s=tipN s (tipF (l.take k) s) d:=by
 obtain ⟨hk,he⟩:=zw.1 h
 rw [List.take_succ_eq_append_getElem hk,he,tipF,List.foldl_append]
 rfl
theorem qmX (l:List Dd) (d:Dd) (s:List UInt8):tipF (l++[d]) s=tipN s (tipF l s) d:=by simp [tipF]
def NoB (c:Int) (l:List Dd):Prop:=∀ d∈l,0≤d.no∧d.no≤c
theorem tipR (s:List UInt8) (c:Int) (hc:0≤c):∀ r:List Dd,DdsB r.reverse→NoB c r.reverse→0≤(tipF r.reverse s).1∧(tipF r.reverse s).1≤c∧(tipF r.reverse s).2.length≤200000
 |[],_,_=>⟨Int.le_refl _,hc,by simp [tipF]⟩
 |d :: r,hB,hN=>by
  rw [List.reverse_cons] at *
  rw [qmX]
  unfold tipN
  split
  ·exact ⟨(hN d (by simp)).1,(hN d (by simp)).2,(hB d (by simp)).b6⟩
  ·exact tipR s c hc r (fun x hx=>hB x (by simp [List.mem_reverse.1 hx])) (fun x hx=>hN x (by simp [List.mem_reverse.1 hx]))
theorem quJ {l:List Dd} {c:Int} (hc:0≤c) (hB:DdsB l) (hN:NoB c l) (s:List UInt8):0≤(tipF l s).1∧(tipF l s).1≤c∧(tipF l s).2.length≤200000:=by
 have:=tipR s c hc l.reverse (by rwa [yw]) (by rwa [yw])
 rwa [yw] at this
def addD (l:List Dd) (d:Dd):Dd:={ d with no:=(tipF l d.site).1+1,sum:=sumF (tipF l d.site).2 { d with no:=(tipF l d.site).1+1 } }
section
variable {E:Envt}
theorem qjj (es:List (List PV)) (hn:es.length≤1000000):FCall Tryz.prog E 47 [.sl 12 es] tDd 12 (·=es):=by
 unfold FCall
 refine qpQ mixed Tryz.func47 qda ?_
 simp only [a0,l0,OS.ao,zl,zt,zk,zp,zo,zq,zu,zd,zj,zm,qbf,qa9,ZZ,WW,Ze,reduceCtorEq,zd,ze,za,zf,zb]
 intro b hb
 refine br ?_ ?_
 ·intro h
  have:=hb h
  simp only [ZZ,WW,Ze,reduceCtorEq,zd,ze,za,zf,zb]
  exact qtA 2 [] rfl rfl this.symm
 ·intro h
  simp only [ZZ,WW,Ze,reduceCtorEq,zd,ze,za,zf,zb]
  exact ⟨by omega,qtA 5 es rfl rfl rfl⟩
theorem qqL (l:List Dd) (s:List UInt8) (hl:l.length≤1000000000):PCall Tryz.prog E 164 [.sl 12 (ddE l),.str s] (·=.tup [int (tipF l s).1,.str (tipF l s).2]):=by
 refine qaf mixed Tryz.func164 qhs ?_
 simp only [a0,l0,OS.ao,zl,zt,zk,zp,zo,zq,zu,zd,zj,zm,qen,qea,ZZ,WW,Ze,reduceCtorEq,zd,ze,za,zf,zb]
 simp only [ZZ,WW,Ze,reduceCtorEq,zd,ze,za,zf,zb,qac]
 refine qag (fun n fr L=>∃ (k:Nat),k≤l.length∧n=l.length - k∧fr=[oo,.p (.str s),oo,oo,oo,oo,.p (int (tipF (l.take k) s).1),.p (.str (tipF (l.take k) s).2),oo,oo,.p (.sl 12 (ddE l)),.p (int (l.length:Nat)),.p (int (k:Nat)),oo,oo,oo,oo,oo,oo,oo,oo,oo,oo,oo,oo,oo,oo,oo,oo]∧L=[]) (l.length) _ [] (by simp only [qac,List.take_zero,tipF,List.foldl_nil,ZZ,WW,Ze,reduceCtorEq,zd,ze,za,zf,zb];try trivial) (by (simp only [ZZ,WW,Ze,reduceCtorEq,zd,ze,za,zf,zb];try trivial)) ⟨0,by omega,by omega,rfl,rfl⟩ ?_
 rintro n fr L ⟨k,hk,rfl,rfl,rfl⟩
 simp only [qc5,ZZ,WW,Ze,reduceCtorEq,zd,ze,za,zf,zb]
 refine br ?_ ?_
 ·intro h
  have hlt:k < l.length:=by have:=of_decide_eq_true h;omega
  obtain ⟨d,hd⟩:∃ d,l[k]?=some d:=⟨_,zr hlt⟩
  have hg:=qbC hd
  have hn:=qmY s hd
  simp only [ZZ,WW,Ze,reduceCtorEq,zd,ze,za,zf,zb,hg,qac,ddC]
  refine ⟨⟨by omega,by omega⟩,by omega,?_⟩
  refine br ?_ ?_
  ·intro h1
   have hn:tipF (l.take (k+1)) s=(d.no,d.sum):=by rw [hn,tipN,if_pos (of_decide_eq_true h1)]
   simp only [ZZ,WW,Ze,reduceCtorEq,zd,ze,za,zf,zb]
   refine drg0 ?_
   simp only [ZZ,WW,Ze,reduceCtorEq,zd,ze,za,zf,zb]
   refine qai zE_ ?_
   simp only [ZZ,WW,Ze,reduceCtorEq,zd,ze,za,zf,zb]
   ((repeat' (with_reducible apply And.intro))<;>try ((exact sc_)))
   refine qae (l.length - (k+1)) _ [] (by omega) (by rw [hn];(simp only [ZZ,WW,Ze,reduceCtorEq,zd,ze,za,zf,zb];try trivial)) (by (simp only [ZZ,WW,Ze,reduceCtorEq,zd,ze,za,zf,zb];try trivial)) ⟨k+1,by omega,rfl,rfl,rfl⟩
  ·intro h1
   have hn:tipF (l.take (k+1)) s=tipF (l.take k) s:=by rw [hn,tipN,if_neg (of_decide_eq_false h1)]
   simp only [ZZ,WW,Ze,reduceCtorEq,zd,ze,za,zf,zb]
   refine qai zE_ ?_
   simp only [ZZ,WW,Ze,reduceCtorEq,zd,ze,za,zf,zb]
   ((repeat' (with_reducible apply And.intro))<;>try ((exact sc_)))
   refine qae (l.length - (k+1)) _ [] (by omega) (by rw [hn];(simp only [ZZ,WW,Ze,reduceCtorEq,zd,ze,za,zf,zb];try trivial)) (by (simp only [ZZ,WW,Ze,reduceCtorEq,zd,ze,za,zf,zb];try trivial)) ⟨k+1,by omega,rfl,rfl,rfl⟩
 ·intro h
  have hge:l.length≤k:=by have:=of_decide_eq_false h;omega
  rw [zP hge]
  simp only [ZZ,WW,Ze,reduceCtorEq,zd,ze,za,zf,zb]
def qh7 (n:Nat) (site:List UInt8) (at_:Int):Int:=if keyB site=false then 5 else if n=2000 then 12 else if inE at_ 0 5761439=false then 1 else 0
theorem qjl (l:List Dd) (s:List UInt8) (t:Int) (hs:s.length≤1000000000):PCall Tryz.prog E0 122 [.sl 12 (ddE l),.str s,int t] (·=int (qh7 l.length s t)):=by
 refine qaf mixed Tryz.func122 qgo ?_
 simp only [a0,l0,OS.ao,zl,zt,zk,zp,zo,zq,zu,zd,zj,zm,qdt,qdm,ZZ,WW,Ze,reduceCtorEq,zd,ze,za,zf,zb]
 refine use1 (qiU s (by omega)) rfl (.inl rfl) ?_
 simp only [ZZ,WW,Ze,reduceCtorEq,zd,ze,za,zf,zb,qac]
 unfold qh7
 refine br ?_ ?_
 ·intro h
  have h:keyB s=false:=by simpa using h
  simp only [ZZ,WW,Ze,reduceCtorEq,zd,ze,za,zf,zb]
  rw [if_pos h]
 intro h
 have h:keyB s=true:=by simpa using h
 rw [if_neg (by rw [h];simp)]
 simp only [ZZ,WW,Ze,reduceCtorEq,zd,ze,za,zf,zb,qac]
 refine br ?_ ?_
 ·intro h2
  have h2:l.length=2000:=by have:=of_decide_eq_true h2;omega
  simp only [ZZ,WW,Ze,reduceCtorEq,zd,ze,za,zf,zb]
  rw [if_pos h2]
 intro h2
 have h2:¬ l.length=2000:=by have:=of_decide_eq_false h2;omega
 rw [if_neg h2]
 simp only [ZZ,WW,Ze,reduceCtorEq,zd,ze,za,zf,zb]
 refine use1 (qlF t) rfl (.inl rfl) ?_
 simp only [ZZ,WW,Ze,reduceCtorEq,zd,ze,za,zf,zb]
 refine br ?_ ?_
 ·intro h3
  have h3:inE t 0 5761439=false:=by simpa using h3
  simp only [ZZ,WW,Ze,reduceCtorEq,zd,ze,za,zf,zb]
  rw [if_pos h3]
 ·intro h3
  have h3:inE t 0 5761439=true:=by simpa using h3
  simp only [ZZ,WW,Ze,reduceCtorEq,zd,ze,za,zf,zb]
  rw [if_neg (by rw [h3];simp)]
end
set_option maxRecDepth 100000 in
set_option maxHeartbeats 4000000 in
theorem qmI (l:List Dd) (d:Dd) (hl:l.length≤100000) (hB:DdsB l) (hN:NoB 100000 l) (dB:DdB d) (hq:UnqD (l++[addD l d])):PCall Tryz.prog ED 124 [.sl 12 (ddE l),.agg (ddC d)] (·=.sl 12 (ddE (srtD (l++[addD l d])))):=by
 obtain ⟨t1,t2,t3⟩:=quJ (by omega) hB hN d.site
 refine qaf mixed Tryz.func124 qiK ?_
 simp only [a0,l0,OS.ao,zl,zt,zk,zp,zo,zq,zu,zd,zj,zm,qe8,qeZ,ZZ,WW,Ze,reduceCtorEq,zd,ze,za,zf,zb]
 simp only [ddC,ZZ,WW,Ze,reduceCtorEq,zd,ze,za,zf,zb]
 refine use1 (qqL l d.site (by omega)) rfl (.inl rfl) ?_
 have ha:addD l d={ d with no:=(tipF l d.site).1+1,sum:=sumF (tipF l d.site).2 { d with no:=(tipF l d.site).1+1 } }:=rfl
 generalize (tipF l d.site).1=m at *
 generalize (tipF l d.site).2=s at *
 obtain ⟨e,he⟩:∃ e:Dd,e={ d with no:=m+1 }:=⟨_,rfl⟩
 have eB:DdB e:=by subst he;exact ⟨dB.b1,dB.b2,dB.b3,dB.b4,dB.b5,dB.b6,by show -1000000000000≤m+1∧m+1≤1000000000000;omega,dB.c2,dB.c3,dB.c4,dB.c5,dB.c6⟩
 rw [← he] at ha
 simp only [ZZ,WW,Ze,reduceCtorEq,zd,ze,za,zf,zb]
 refine ⟨qaj (by omega) (by omega),?_⟩
 have hs:=qhY e eB s t3
 rw [he] at hs
 refine use1 hs rfl (.inl rfl) ?_
 rw [← he]
 simp only [ZZ,WW,Ze,reduceCtorEq,zd,ze,za,zf,zb]
 refine drg1 (x1:=.sl 12 (ddE l)) ?_
 simp only [ZZ,WW,Ze,reduceCtorEq,zd,ze,za,zf,zb]
 refine ⟨qwR (qjj (ddE l) (by rw [qac];omega)),by rw [qac];omega,?_⟩
 have hrow:ddE l++[[.str d.site,int (m+1),int d.tm,int d.kind,.str d.id,.str d.field,.str d.value,int d.frm,int d.upto,.str d.osite,int d.ono,.str (sumF s e)]]=ddE (l++[addD l d]):=by
  rw [ha,← qr1,← qwp]
  rfl
 have hlen:(l++[addD l d]).length≤1000000:=by simp;omega
 rw [hrow]
 generalize l++[addD l d]=q at *
 refine useR (qm0 ED q (by omega) hq) rfl rfl rfl zE_ ?_
 rintro x es' ⟨rfl,rfl⟩
 simp only [ZZ,WW,Ze,reduceCtorEq,zd,ze,za,zf,zb]
def newD (site:List UInt8) (t k:Int) (id f v:List UInt8) (a b:Int):Dd:=⟨site,0,t,k,id,f,v,a,b,[],0,[]⟩
def addV (l:List Dd) (site:List UInt8) (t k:Int) (id f v:List UInt8) (a b:Int):List Dd×Int:=
 if ¬ qh7 l.length site t=0 then ([],qh7 l.length site t) else if (decide (k=3) || decide (k=6))=true then ([],4)
 else if ¬ refF (newD site t k id f v a b)=0 then ([],refF (newD site t k id f v a b)) else (srtD (l++[addD l (newD site t k id f v a b)]),0)
set_option maxRecDepth 100000 in
set_option maxHeartbeats 4000000 in
theorem quh (l:List Dd) (site:List UInt8) (t k:Int) (id f v:List UInt8) (a b:Int) (hl:l.length≤100000) (hB:DdsB l) (hN:NoB 100000 l) (dB:DdB (newD site t k id f v a b)) (hq:UnqD (l++[addD l (newD site t k id f v a b)])) :
  PCall Tryz.prog ED 83 [.sl 12 (ddE l),.str site,int t,int k,.str id,.str f,.str v,.agg [int a,int b]] (·=.tup [.sl 12 (ddE (addV l site t k id f v a b).1),int (addV l site t k id f v a b).2]):=by
 unfold addV
 refine qaf mixed Tryz.func83 qiM ?_
 simp only [a0,l0,OS.ao,zl,zt,zk,zp,zo,zq,zu,zd,zj,zm,qfa,qe1,ZZ,WW,Ze,reduceCtorEq,zd,ze,za,zf,zb]
 refine use1 (upD (qjl l site t (by have:=dB.b1;exact Nat.le_trans this (by decide)))) rfl (.inl rfl) ?_
 simp only [ZZ,WW,Ze,reduceCtorEq,zd,ze,za,zf,zb]
 refine br ?_ ?_
 ·intro h
  have h:¬ qh7 l.length site t=0:=by simpa using h
  rw [if_pos h]
  simp only [ZZ,WW,Ze,reduceCtorEq,zd,ze,za,zf,zb]
  rfl
 intro h
 have h:qh7 l.length site t=0:=by simpa using h
 rw [if_neg (fun e=>e h)]
 simp only [ZZ,WW,Ze,reduceCtorEq,zd,ze,za,zf,zb]
 refine ⟨fun h=>by rw [h];rfl,?_⟩
 refine br ?_ ?_
 ·intro h3
  rw [if_pos h3]
  simp only [ZZ,WW,Ze,reduceCtorEq,zd,ze,za,zf,zb]
  rfl
 intro h3
 rw [if_neg (by rw [h3];simp)]
 simp only [ZZ,WW,Ze,reduceCtorEq,zd,ze,za,zf,zb]
 have hd:ddC (newD site t k id f v a b)=[.str site,int 0,int t,int k,.str id,.str f,.str v,int a,int b,.str [],int 0,.str []]:=rfl
 have hf:=upD (qju _ dB)
 have hadd:=qmI l _ hl hB hN dB hq
 rw [hd] at hf hadd
 refine use1 hf rfl (.inl rfl) ?_
 simp only [ZZ,WW,Ze,reduceCtorEq,zd,ze,za,zf,zb]
 refine br ?_ ?_
 ·intro h4
  have h4:¬ refF (newD site t k id f v a b)=0:=by simpa using h4
  rw [if_pos h4]
  simp only [ZZ,WW,Ze,reduceCtorEq,zd,ze,za,zf,zb]
  rfl
 intro h4
 have h4:refF (newD site t k id f v a b)=0:=by simpa using h4
 rw [if_neg (fun e=>e h4)]
 simp only [ZZ,WW,Ze,reduceCtorEq,zd,ze,za,zf,zb]
 refine use1 hadd rfl (.inl rfl) ?_
 simp only [ZZ,WW,Ze,reduceCtorEq,zd,ze,za,zf,zb]
def qas:IC:=(.seq (.seq (.reg [qM 15 9,qM 16 10,qO 17 (.bin .lss (.t 15) (.t 16))]) (.cond (.t 17) .skip (.exit 0))) (.block 1 (.seq (.reg [qM 18 9,qM 19 10,qO 20 (.bin .add (.t 18) (.t 19)),qO 21 (.cvi .u64 (.t 20)),qO 22 (.bin .shr (.t 21) (.c (.int .u64 1))),qO 23 (.cvi .i64 (.t 22)),qM 11 23]) (.seq (.drg [qM 24 2,qM 25 0,qM 26 11,qO 27 (.ixa 12 (.t 25) (.t 26)),qO 28 (.ld 12 true (.t 27)),qO 29 (.ld 2 true (.t 4)),qO 30 (.callv (.t 24) [.t 28,.t 29]),qO 31 (.bin .lss (.t 30) (.c (.int .i64 0)))]) (.cond (.t 31) (.reg [qM 32 11,qO 33 (.bin .add (.t 32) (.c (.int .i64 1))),qM 9 33]) (.reg [qM 34 11,qM 10 34]))))))
def qaw:IC:=(.seq (.reg [qO 4 (.box 40 (.t 1)),qO 6 (.mov (.c (.int .i64 0))),qO 7 (.mov (.c (.bool false)))]) (.seq (.reg [qM 12 0,qO 13 (.len (.t 12)),qM 8 13]) (.seq (.reg [qM 14 8,qO 9 (.mov (.c (.int .i64 0))),qM 10 14]) (.seq (.block 0 (.loop qas)) (.seq (.drg [qM 35 9,qM 36 9,qM 37 8,qO 38 (.bin .lss (.t 36) (.t 37)),qM 39 38,⟨some 40,.mov (.t 2),(some (39,true))⟩,⟨some 41,.mov (.t 0),(some (39,true))⟩,⟨some 42,.mov (.t 9),(some (39,true))⟩,⟨some 43,.ixa 12 (.t 41) (.t 42),(some (39,true))⟩,⟨some 44,.ld 12 true (.t 43),(some (39,true))⟩,⟨some 45,.ld 2 true (.t 4),(some (39,true))⟩,⟨some 46,.pcv 0 (.t 40) [.t 44,.t 45],(some (39,true))⟩,⟨some 47,.bin .eql (.t 46) (.c (.int .i64 0)),(some (39,true))⟩,qO 48 (.pick (.t 39) (.t 47) (.c (.bool false))),qM 6 35,qM 7 48]) .ret)))))
def qav:List IRes:=[.t 6,.t 7]
theorem qaT:chkF Tryz.prog Tryz.f119 qaw qav 49=true:=by kernel_rfl
def qfB:IC:=(.seq (.reg [qO 2 (.box 44 (.t 0)),qO 3 (.box 40 (.t 1)),qO 4 (.mov (.c (.int .i64 0)))]) (.seq (.reg [qO 5 (.fla 0 (.t 2)),qO 6 (.ld 2 true (.t 5)),qO 7 (.ld 2 true (.t 3)),qO 8 (.call 88 [.t 6,.t 7]),qM 4 8]) .ret))
def qfr:List IRes:=[.t 4]
theorem qjd:chkF Tryz.prog Tryz.f120 qfB qfr 9=true:=by kernel_rfl
def qgf:IC:=(.seq (.reg [qO 13 (.bin .lss (.t 12) (.t 11))]) (.seq (.cond (.t 13) .skip (.exit 0)) (.seq (.block 1 (.seq (.reg [qO 14 (.ixa 12 (.t 10) (.t 12)),qO 15 (.ld 12 true (.t 14)),qO 9 (.alc 44 [.str [],.int .i64 0,.int .i64 0,.int .i64 0,.str [],.str [],.str [],.int .i64 0,.int .i64 0,.str [],.int .i64 0,.str []]),⟨none,.st 12 (.t 9) (.t 15),none⟩]) (.seq (.reg [qO 16 (.fla 0 (.t 9)),qO 17 (.fla 0 (.t 16)),qO 18 (.ld 1 false (.t 17)),qM 19 1,qO 20 (.bin .eql (.t 18) (.t 19))]) (.cond (.t 20) (.drg [qO 21 (.fla 0 (.t 9)),qO 22 (.fla 1 (.t 21)),qO 23 (.ld 1 false (.t 22)),qO 24 (.fla 11 (.t 9)),qO 25 (.ld 1 false (.t 24)),qM 6 23,qM 7 25]) .skip)))) (.cut (.reg [qO 26 (.bin .add (.t 12) (.c (.int .i64 1))),qM 12 26])))))
def qit:IC:=(.seq (.reg [qO 4 (.mov (.c (.int .i64 0))),qO 5 (.mov (.c (.str [])))]) (.seq (.reg [qO 6 (.mov (.c (.int .i64 0))),qO 7 (.mov (.c (.str [])))]) (.seq (.seq (.reg [qM 10 0,qO 11 (.len (.t 10)),qO 12 (.mov (.c (.int .i64 0)))]) (.block 0 (.loop qgf))) (.seq (.reg [qM 27 6,qM 28 7,qM 4 27,qM 5 28]) .ret))))
def qih:List IRes:=[.t 4,.t 5]
theorem qmo:chkF Tryz.prog Tryz.f118 qit qih 29=true:=by kernel_rfl
def qeG:IC:=(.seq (.reg [qO 6 (.mov (.c (.int .i64 0)))]) (.seq (.reg [qM 7 0,qO 8 (.call 16 [.t 7]),qM 9 1,qO 10 (.call 87 [.t 9]),qO 11 (.not (.t 10)),qO 12 (.call 78 [.t 11,.c (.int .i64 5)]),qM 13 0,qO 14 (.len (.t 13)),qO 15 (.bin .eql (.t 14) (.c (.int .i64 2000))),qO 16 (.call 78 [.t 15,.c (.int .i64 12)]),qM 17 2,qO 18 (.call 89 [.t 17]),qO 19 (.not (.t 18)),qO 20 (.call 78 [.t 19,.c (.int .i64 1)]),qO 21 (.bsl 1 [.t 8,.t 12,.t 16,.t 20]),qO 22 (.call 76 [.t 21]),qM 6 22]) .ret))
def qeu:List IRes:=[.t 6]
theorem qhL:chkF Tryz.prog Tryz.f77 qeG qeu 23=true:=by kernel_rfl
theorem qpG {P:Program} {E:Envt} {X:List PV} {fr:List AV} {L:Objs} {K:List AV→Objs→Prop} {d:Option Nat} {n:Nat} {g:Opd} {args:List Opd} {is:List IOper} {s:Nat} {want:Bool}:qaa P E X (⟨d,.pcv n g args,some (s,want)⟩ :: is) fr L K=(match Zh fr s want with
  |some c0=>(match Zar fr g with
   |some (f,ks)=>(c0=true→(rd fr g).un.1∧fnB P f=true∧Zl L ks=true∧Zm fr args∧PcK P E f (Zn fr args++ks) L (X.getD n (.bool false)))∧qaa P E X is (Zg fr d (.g c0 (.p (X.getD n (.bool false))))) L K
   |none=>False)
  |none=>False):=by
 simp only [qaa]
 cases Zh fr s want with
 |none=>rfl
 |some c0=>cases h:Zar fr g with
  |none=>rfl
  |some q=>obtain ⟨f,ks⟩:=q;rfl
abbrev fAd1:FuncId:=120
section
variable {E:Envt}
theorem qn5 (x:Dd) (s:List UInt8) (n:Int):PCall Tryz.prog E fAd1 [.agg (ddC x),.agg [.str s,int n]] (·=int (stC x.site x.no s n)):=by
 refine qaf mixed Tryz.func120 qjd ?_
 simp only [a0,l0,OS.ao,zl,zt,zk,zp,zo,zq,zu,zd,zj,zm,qfB,qfr,ZZ,WW,Ze,reduceCtorEq,zd,ze,za,zf,zb]
 simp only [ddC,ZZ,WW,Ze,reduceCtorEq,zd,ze,za,zf,zb]
 refine use1 (qlz x.site x.no s n) rfl (.inl rfl) ?_
 simp only [ZZ,WW,Ze,reduceCtorEq,zd,ze,za,zf,zb]
theorem qwV (l:List Dd) (s:List UInt8) (hl:l.length≤1000000000):PCall Tryz.prog E 118 [.sl 12 (ddE l),.str s] (·=.tup [int (tipF l s).1,.str (tipF l s).2]):=by
 refine qaf mixed Tryz.func118 qmo ?_
 simp only [a0,l0,OS.ao,zl,zt,zk,zp,zo,zq,zu,zd,zj,zm,qit,qih,ZZ,WW,Ze,reduceCtorEq,zd,ze,za,zf,zb]
 simp only [ZZ,WW,Ze,reduceCtorEq,zd,ze,za,zf,zb,qac]
 refine qag (fun n fr L=>∃ (k:Nat),k≤l.length∧n=l.length - k∧fr=[oo,.p (.str s),oo,oo,oo,oo,.p (int (tipF (l.take k) s).1),.p (.str (tipF (l.take k) s).2),oo,oo,.p (.sl 12 (ddE l)),.p (int (l.length:Nat)),.p (int (k:Nat)),oo,oo,oo,oo,oo,oo,oo,oo,oo,oo,oo,oo,oo,oo,oo,oo]∧L=[]) (l.length) _ [] (by simp only [qac,List.take_zero,tipF,List.foldl_nil,ZZ,WW,Ze,reduceCtorEq,zd,ze,za,zf,zb];try trivial) (by (simp only [ZZ,WW,Ze,reduceCtorEq,zd,ze,za,zf,zb];try trivial)) ⟨0,by omega,by omega,rfl,rfl⟩ ?_
 rintro n fr L ⟨k,hk,rfl,rfl,rfl⟩
 simp only [qgf,ZZ,WW,Ze,reduceCtorEq,zd,ze,za,zf,zb]
 refine br ?_ ?_
 ·intro h
  have hlt:k < l.length:=by have:=of_decide_eq_true h;omega
  obtain ⟨d,hd⟩:∃ d,l[k]?=some d:=⟨_,zr hlt⟩
  have hg:=qbC hd
  have hn:=qmY s hd
  simp only [ZZ,WW,Ze,reduceCtorEq,zd,ze,za,zf,zb,hg,qac,ddC]
  refine ⟨⟨by omega,by omega⟩,by omega,?_⟩
  refine br ?_ ?_
  ·intro h1
   have hn:tipF (l.take (k+1)) s=(d.no,d.sum):=by rw [hn,tipN,if_pos (of_decide_eq_true h1)]
   simp only [ZZ,WW,Ze,reduceCtorEq,zd,ze,za,zf,zb]
   refine drg0 ?_
   simp only [ZZ,WW,Ze,reduceCtorEq,zd,ze,za,zf,zb]
   refine qai zE_ ?_
   simp only [ZZ,WW,Ze,reduceCtorEq,zd,ze,za,zf,zb]
   ((repeat' (with_reducible apply And.intro))<;>try ((exact sc_)))
   refine qae (l.length - (k+1)) _ [] (by omega) (by rw [hn];(simp only [ZZ,WW,Ze,reduceCtorEq,zd,ze,za,zf,zb];try trivial)) (by (simp only [ZZ,WW,Ze,reduceCtorEq,zd,ze,za,zf,zb];try trivial)) ⟨k+1,by omega,rfl,rfl,rfl⟩
  ·intro h1
   have hn:tipF (l.take (k+1)) s=tipF (l.take k) s:=by rw [hn,tipN,if_neg (of_decide_eq_false h1)]
   simp only [ZZ,WW,Ze,reduceCtorEq,zd,ze,za,zf,zb]
   refine qai zE_ ?_
   simp only [ZZ,WW,Ze,reduceCtorEq,zd,ze,za,zf,zb]
   ((repeat' (with_reducible apply And.intro))<;>try ((exact sc_)))
   refine qae (l.length - (k+1)) _ [] (by omega) (by rw [hn];(simp only [ZZ,WW,Ze,reduceCtorEq,zd,ze,za,zf,zb];try trivial)) (by (simp only [ZZ,WW,Ze,reduceCtorEq,zd,ze,za,zf,zb];try trivial)) ⟨k+1,by omega,rfl,rfl,rfl⟩
 ·intro h
  have hge:l.length≤k:=by have:=of_decide_eq_false h;omega
  rw [zP hge]
  simp only [ZZ,WW,Ze,reduceCtorEq,zd,ze,za,zf,zb]
set_option maxRecDepth 100000 in
theorem qpg (l:List Dd) (s:List UInt8) (nn:Int) (hl:l.length≤1000000) (hs:OrdD l):PCall Tryz.prog E 119 [.sl 12 (ddE l),.agg [.str s,int nn],.clo fAd1 []] (fun y=>∃ (i:Nat) (b:Bool),y=.tup [int i,.bool b]∧i≤l.length∧(∀ a p,a < i→l[a]?=some p→stC p.site p.no s nn < 0)∧(∀ a p,i≤a→l[a]?=some p→0≤stC p.site p.no s nn)):=by
 have hfn:fnB Tryz.prog fAd1=true:=by kernel_rfl
 have tr:∀ (a p:Dd),cmpD a p < 0→stC p.site p.no s nn < 0→stC a.site a.no s nn < 0:=by
  intro a p h1 h2
  have h2:cmpD p ⟨s,nn,0,0,[],[],[],0,0,[],0,[]⟩ < 0:=h2
  show cmpD a ⟨s,nn,0,0,[],[],[],0,0,[],0,[]⟩ < 0
  generalize (⟨s,nn,0,0,[],[],[],0,0,[],0,[]⟩:Dd)=z at *
  have t:=cmpD_p.tr
  have an:=cmpD_p.anti
  have h3:=t a p z (by omega) (by omega)
  rcases Int.lt_or_eq_of_le h3 with h4|h4
  ·exact h4
  ·exfalso
   obtain ⟨e1,e2⟩:=qgS h4
   have h5:cmpD p z=cmpD p a:=by unfold cmpD;rw [e1,e2]
   have:=an p a
   omega
 have tr2:∀ (a p:Dd),cmpD p a < 0→0≤stC p.site p.no s nn→0≤stC a.site a.no s nn:=by
  intro a p h1 h2
  rcases Int.lt_or_le (stC a.site a.no s nn) 0 with h3|h3
  ·have:=tr p a h1 h3;omega
  ·exact h3
 have hss:∀ (i j:Nat) (p q:Dd),i < j→l[i]?=some p→l[j]?=some q→cmpD p q < 0:=by
  intro i j p q hij hp hq
  unfold OrdD at hs
  rw [List.pairwise_iff_getElem] at hs
  obtain ⟨hi,rfl⟩:=zw.1 hp
  obtain ⟨hj,rfl⟩:=zw.1 hq
  exact hs i j hi hj hij
 refine qaf mixed Tryz.func119 qaT ?_
 simp only [a0,l0,OS.ao,zl,zt,zk,zp,zo,zq,zu,zd,zj,zm,qaw,qav,ZZ,WW,Ze,reduceCtorEq,zd,ze,za,zf,zb]
 simp only [ZZ,WW,Ze,reduceCtorEq,zd,ze,za,zf,zb,qac]
 refine qag (fun n fr L=>∃ (i:Nat) (j:Nat),j - i=n∧(i≤j)∧(j≤l.length)∧(∀ a p,a < i→l[a]?=some p→stC p.site p.no s nn < 0)∧(∀ a p,j≤a→l[a]?=some p→0≤stC p.site p.no s nn)∧fr=[.p (.sl 12 (ddE l)),oo,.p (.clo fAd1 []),oo,.adr (.l 4) 0,oo,oo,oo,.p (int (l.length:Nat)),.p (int (i:Nat)),.p (int (j:Nat)),oo,oo,oo,oo,oo,oo,oo,oo,oo,oo,oo,oo,oo,oo,oo,oo,oo,oo,oo,oo,oo,oo,oo,oo,oo,oo,oo,oo,oo,oo,oo,oo,oo,oo,oo,oo,oo,oo]∧L=[(.l 4,.box [.p (.str s),.p (int nn)] tSt)]) ((l.length) - 0) _ _ (by simp only [ZZ,WW,Ze,reduceCtorEq,zd,ze,za,zf,zb,qac];try trivial) (by (simp only [ZZ,WW,Ze,reduceCtorEq,zd,ze,za,zf,zb];try trivial)) ⟨0,l.length,rfl,by omega,by omega,fun a p h=>absurd h (by omega),fun a p h hp=>absurd (zw.1 hp).1 (by omega),rfl,rfl⟩ ?_
 rintro n fr L ⟨i,j,rfl,hij,hjn,hlo,hhi,rfl,rfl⟩
 simp only [qas,ZZ,WW,Ze,reduceCtorEq,zd,ze,za,zf,zb]
 refine br ?_ ?_
 ·intro h
  have hlt:i < j:=by have:=of_decide_eq_true h;omega
  have hm:((IntKind.u64.wrap ((i:Int)+j)).fdiv (2 ^ min (Int.toNat 1) IntKind.u64.bits))=(((i+j) / 2:Nat):Int):=by
   have e1:IntKind.u64.wrap ((i:Int)+j)=((i+j:Nat):Int):=by simp [IntKind.wrap,IntKind.bits,IntKind.signed];omega
   rw [e1]
   have e2:(2:Int) ^ min (Int.toNat 1) IntKind.u64.bits=2:=by decide
   rw [e2,Int.fdiv_eq_ediv_of_nonneg _ (by omega)]
   omega
  obtain ⟨x,hx⟩:∃ x,l[(i+j) / 2]?=some x:=⟨_,zr (by omega)⟩
  have hg:=qbC hx
  have hmn:(((((i+j) / 2:Nat):Int))).toNat=(i+j) / 2:=by omega
  simp only [ZZ,WW,Ze,reduceCtorEq,zd,ze,za,zf,zb,qac,hm]
  generalize hh:(i+j) / 2=g at *
  have hg1:i≤g:=by omega
  have hg2:g < j:=by omega
  refine ⟨qaj (by omega) (by omega),by omega,qaj (by omega) (by omega),?_⟩
  refine drg0 ?_
  simp only [ZZ,WW,Ze,reduceCtorEq,zd,ze,za,zf,zb,hg,hfn,qac]
  refine ⟨⟨by omega,by omega⟩,by omega,?_⟩
  refine use1 (qn5 x s nn) rfl (.inl rfl) ?_
  simp only [ZZ,WW,Ze,reduceCtorEq,zd,ze,za,zf,zb]
  have hlow:∀ a p,l[a]?=some p→a≤g→stC x.site x.no s nn < 0→stC p.site p.no s nn < 0:=by
   intro a p hp ha hc
   rcases Nat.lt_or_ge a g with h1|h1
   ·exact tr p x (hss a g p x h1 hp hx) hc
   ·have:a=g:=by omega
    subst this
    rw [hx] at hp;cases hp;exact hc
  have hupp:∀ a p,l[a]?=some p→g≤a→0≤stC x.site x.no s nn→0≤stC p.site p.no s nn:=by
   intro a p hp ha hc
   rcases Nat.lt_or_ge g a with h1|h1
   ·exact tr2 p x (hss g a x p h1 hx hp) hc
   ·have:a=g:=by omega
    subst this
    rw [hx] at hp;cases hp;exact hc
  refine br ?_ ?_
  ·intro hc
   have hc:stC x.site x.no s nn < 0:=of_decide_eq_true hc
   simp only [ZZ,WW,Ze,reduceCtorEq,zd,ze,za,zf,zb]
   refine ⟨qaj (by omega) (by omega),?_⟩
   refine qae (j - (g+1)) _ _ (by omega) (by (simp only [ZZ,WW,Ze,reduceCtorEq,zd,ze,za,zf,zb];try trivial)) (by (simp only [ZZ,WW,Ze,reduceCtorEq,zd,ze,za,zf,zb];try trivial)) ⟨g+1,j,rfl,by omega,hjn,fun a p ha hp=>hlow a p hp (by omega) hc,hhi,rfl,rfl⟩
  ·intro hc
   have hc:¬ stC x.site x.no s nn < 0:=of_decide_eq_false hc
   simp only [ZZ,WW,Ze,reduceCtorEq,zd,ze,za,zf,zb]
   refine qae ((g) - i) _ _ (by omega) (by (simp only [ZZ,WW,Ze,reduceCtorEq,zd,ze,za,zf,zb];try trivial)) (by (simp only [ZZ,WW,Ze,reduceCtorEq,zd,ze,za,zf,zb];try trivial)) ⟨i,g,rfl,by omega,by omega,hlo,fun a p ha hp=>hupp a p hp ha (by omega),rfl,rfl⟩
 ·intro h
  have hge:i=j:=by have:=of_decide_eq_false h;omega
  subst hge
  by_cases hin:i < l.length
  ·obtain ⟨x,hx⟩:∃ x,l[i]?=some x:=⟨_,zr hin⟩
   have hg:=qbC hx
   have htl:decide ((i:Int) < l.length)=true:=by simp;omega
   simp only [ZZ,WW,Ze,reduceCtorEq,zd,ze,za,zf,zb,htl]
   refine drg1 (x1:=int (stC x.site x.no s nn)) ?_
   simp only [ZZ,WW,Ze,reduceCtorEq,zd,ze,za,zf,zb,qpG,qac,hg,hfn,htl,ddC]
   exact ⟨⟨by omega,by omega⟩,hin,usep (qn5 x s nn) rfl (.inl rfl),i,_,rfl,hjn,hlo,hhi⟩
  ·have hfl:decide ((i:Int) < l.length)=false:=by simp;omega
   have hgd:(ddE l).getD i []=[]:=by simp [List.getD,ddE];rw [List.getElem?_eq_none (by omega)];rfl
   simp only [ZZ,WW,Ze,reduceCtorEq,zd,ze,za,zf,zb,hfl]
   refine drg1 (x1:=int 0) ?_
   simp only [ZZ,WW,Ze,reduceCtorEq,zd,ze,za,zf,zb,qpG,qac,hgd,hfn,hfl]
   exact ⟨fun h=>h.elim,fun h=>h.elim,fun h=>h.elim,i,_,rfl,hjn,hlo,hhi⟩
end
def qol (l:List Dd) (s:List UInt8) (t:Int):Int:=qbw [(ckdF l).2,qbR (!keyB s) 5,qbR (decide ((l.length:Int)=2000)) 12,qbR (!inE t 0 5761439) 1]
theorem qsW {l:List Dd} (h:(ckdF l).2=0) (s:List UInt8) (t:Int):qol l s t=qh7 l.length s t:=by
 unfold qol qh7
 rw [h]
 have e:decide ((l.length:Int)=2000)=decide (l.length=2000):=by rw [decide_eq_decide];omega
 rw [e]
 by_cases h2:l.length=2000<;>cases keyB s<;>cases inE t 0 5761439<;>simp [qbw,qbR,h2]
theorem qm3 (l:List Dd) (s:List UInt8) (t:Int) (hB:DdsB l) (hl:l.length≤1000000000) (hs:s.length≤1000000000):PCall Tryz.prog ED 77 [.sl 12 (ddE l),.str s,int t] (·=int (qol l s t)):=by
 refine qaf mixed Tryz.func77 qhL ?_
 simp only [a0,l0,OS.ao,zl,zt,zk,zp,zo,zq,zu,zd,zj,zm,qeG,qeu,ZZ,WW,Ze,reduceCtorEq,zd,ze,za,zf,zb]
 refine use1 (qgJ l hB hl) rfl (.inl rfl) ?_
 simp only [ZZ,WW,Ze,reduceCtorEq,zd,ze,za,zf,zb]
 refine use1 (upD (qn8 s (by omega))) rfl (.inl rfl) ?_
 simp only [ZZ,WW,Ze,reduceCtorEq,zd,ze,za,zf,zb]
 refine use1 (qdB (!keyB s) 5) rfl (.inl rfl) ?_
 simp only [ZZ,WW,Ze,reduceCtorEq,zd,ze,za,zf,zb,qac]
 refine use1 (qdB (decide ((l.length:Int)=2000)) 12) rfl (.inl rfl) ?_
 simp only [ZZ,WW,Ze,reduceCtorEq,zd,ze,za,zf,zb]
 refine use1 (upD (qn7 t)) rfl (.inl rfl) ?_
 simp only [ZZ,WW,Ze,reduceCtorEq,zd,ze,za,zf,zb]
 refine use1 (qdB (!inE t 0 5761439) 1) rfl (.inl rfl) ?_
 simp only [ZZ,WW,Ze,reduceCtorEq,zd,ze,za,zf,zb]
 refine use1 (qj2 [(ckdF l).2,qbR (!keyB s) 5,qbR (decide ((l.length:Int)=2000)) 12,qbR (!inE t 0 5761439) 1] (by simp)) rfl (.inl rfl) ?_
 simp only [ZZ,WW,Ze,reduceCtorEq,zd,ze,za,zf,zb]
 rfl
end Go.Proofs.YtjgdjinhkgjpeaaGreatDoor
namespace Go.Proofs.YtjgdjinhkgjpeaaGreatDoor
open List renaming mem_append→zC,mem_of_mem_drop→ym,mem_of_mem_take→ya
open Go.Lib Go.RowKit Go.Shelf Go.Sort
abbrev fIns:FuncId:=121
def qsB (i n:Nat):Prop:=
 ∀ (w:World) (v:Value) (xs news:List Value) (vb voff vc:Nat),w.ownsRow 0 tDd 12 v n xs→(∀ u∈xs,u.oneCell'=true)→news.length=12→(∀ j u,news[j]?=some u→w.cell? ⟨vb,voff+j,none⟩=some u)→(∀ u∈news,u.oneCell'=true)→v.ownBlock≠some vb→n≤1000000→
  Calls Tryz.prog fIns #[v,.int .i64 i,.slice (some ⟨vb,voff,none⟩) 1 vc] w fun e w'=>∃ v',e=.returned v'∧w'.ownsRow 0 tDd 12 v' (n+1) (xs.take (i * 12)++news++xs.drop (i * 12))∧w.grownBy w' v.ownBlock∧(v'.ownBlock=v.ownBlock∨v'.ownBlock=some w.heap.size)
set_option maxHeartbeats 4000000 in
set_option maxRecDepth 1000000 in
theorem qvR (n:Nat):qsB n n:=by
 intro w v xs news vb voff vc hown h1x hnl hnews h1n hne hn
 have hA:appB Tryz.prog tDd 12 144=true:=by kernel_rfl
 obtain ⟨i0,zv,q1,q2,q3,q4,q5,q6,q7⟩:=qdf hA
 have hl:xs.length=n * 12:=hown.1
 have t22:Tryz.prog.underlying 26=some (.slice tDd):=Tryz.underlying26
 obtain ⟨v',w',r1,r2,r3,_,r5⟩:=run_append_own_at (P:=Tryz.prog) w 0 26 26 tDd i0 zv 12 144 t22 q1 q2 q3 q4 q5 (by decide) v n xs hown ⟨vb,voff,none⟩ 1 vc news (by omega) (fun j u hj=>by rw [Addr.add_lit];exact hnews j u hj) h1n (by unfold maxLen;omega) (by omega) (Nat.zero_le _)
 have hfin:xs.take (n * 12)++news++xs.drop (n * 12)=xs++news:=by rw [List.take_of_length_le (by omega),List.drop_eq_nil_of_le (by omega),List.append_nil]
 rw [hfin]
 rcases hown.2 with ⟨rfl,rfl⟩|⟨g,cap,cur,rfl,hbg,hg,hnc,hcm,hcs,htake⟩
 ·go_enter Tryz.func121,Tryz.ntmps121
  go_wp2_with (at_builtin;refine Lib.wpList_append_run _ rfl _ _ _ _ rfl _ _ rfl rfl _ _ r1 ?_)
  go_ret
  exact ⟨v',rfl,r2,r3,r5⟩
 ·go_enter Tryz.func121,Tryz.ntmps121
  go_wp2_with (at_builtin;refine Lib.wpList_append_run _ rfl _ _ _ _ rfl _ _ rfl rfl _ _ r1 ?_)
  all_goals (go_ret;exact ⟨v',rfl,r2,r3,r5⟩)
section
variable {E:Envt} {L:Objs} {fr:List AV} {d:Option Nat} {is:List IOper} {Y:List PV} {K:List AV→Objs→Prop}
theorem qwQ (i:Nat) (es:List (List PV)) (k:Nat) (c:List PV) (hI:qsB k es.length) (hkl:k≤es.length) (hc:c.length=12) (hz:es.length≤1000000) (hlk:Zas L (.l i)=some (.row es tDd 12 true))
  (hk:qaa Tryz.prog E Y is (Zg (fr.map (·.kill (.l i))) d (.row (.l i))) (Zav L (.l i) (.row (es.take k++c :: es.drop k) tDd 12 true)) K):qa0 Tryz.prog E fIns [.row (.l i),.p (int k),.p (.sl 12 [c])] L d fr (qc8 Tryz.prog E Y is K):=by
 refine .inr (.inr ⟨i,?_⟩)
 intro w X ι vs hs hX hE hEb hA
 simp only [ARepL,ARep] at hA
 obtain ⟨v1,r1,rfl,⟨rfl,A,n,c',hv⟩,v2,r2,rfl,h2,v3,r3,rfl,h3,rfl⟩:=hA
 have h2:v2=.int .i64 k:=h2
 subst h2
 simp only [PRep,PRepE] at h3
 obtain ⟨A3,c3,rfl,hc3,h3⟩:=h3
 obtain ⟨b3,off3,rfl,hb3,hu3,hl3,hC3,_⟩:=h3 (by simp)
 obtain ⟨news,g1,g2,g3⟩:=hC3.vals
 obtain ⟨us,u1,u2,u3,u4⟩:=hs.obj _ _ hlk
 have hown:=u1.owns
 refine (hI w (ι (.l i)) us news b3 off3 c3 hown u2 (by rw [g1.length];exact hc) g3 g2 (fun e=>hu3 (.inl ⟨_,_,hlk,by rw [qa5 (b:=b3) (qak hown)];exact e⟩)) hz).mono ?_
 rintro e w' ⟨v',rfl,k2,k3,k4⟩
 have hG:Grow w w' (Old L ι (.l i)):=qaZ k3 (fun b hb=>⟨_,hlk,by rw [qa5 (b:=b) (qak hown)];exact hb⟩)
 have hbk:∀ b',blk v'=some b'→w.heap.size≤b'∨Old L ι (.l i) b':=by
  intro b hb
  rw [qa5 (b:=b) (qak k2)] at hb
  rcases k4 with k4|k4
  ·exact .inr ⟨_,hlk,by rw [qa5 (b:=b) (qak hown),← k4];exact hb⟩
  ·rw [k4] at hb;cases hb;exact .inl (Nat.le_refl _)
 have hkp:=qaO (X:=X) (ao:=.row (es.take k++c :: es.drop k) tDd 12 true) (fun b hb=>(hX b hb).1) hG hbk
 have hlen:(es.take k++c :: es.drop k).length=es.length+1:=by simp;omega
 have hfl:(es.take k++c :: es.drop k).flatten=es.flatten.take (k * 12)++c++es.flatten.drop (k * 12):=by
  rw [List.flatten_append,List.flatten_cons,qh2 es k u4 (by omega),qku es k u4 (by omega),List.append_assoc]
 have hobj:ObjOk w' (fun b'=>Own (Zav L (.l i) (.row (es.take k++c :: es.drop k) tDd 12 true)) (updI ι (.l i) v') b'∨X b') (updI ι (.l i) v') (.l i) (.row (es.take k++c :: es.drop k) tDd 12 true):=by
  refine ⟨us.take (k * 12)++news++us.drop (k * 12),?_,?_,?_,?_⟩
  ·have:=RowOk.of_owns k2
   rw [hlen]
   simpa [updI] using this
  ·intro u hu
   simp only [zC] at hu
   rcases hu with (hu|hu)|hu
   ·exact u2 u (ya hu)
   ·exact g2 u hu
   ·exact u2 u (ym hu)
  ·rw [hfl]
   exact PRepL.mono hkp _ _ (((u3.take _).append g1).append (u3.drop _))
  ·intro x hx
   rcases zC.1 hx with hx|hx
   ·exact u4 x (ya hx)
   ·rcases List.mem_cons.1 hx with rfl|hx
    ·exact hc
    ·exact u4 x (ym hx)
 refine ⟨_,.row (.l i),_,updI ι (.l i) v',rfl,hk,⟨by simp [updI],qak k2⟩,⟨hs.upd (fun b hb=>(hX b hb).1) _ _ _ hG hbk hobj,⟨hG.os,hG.tape,hG.output,hG.size,fun x hx hn=>hG.block x hx (fun e=>hn e.own)⟩,fun x hx=>?_,fun j hj=>by simp [updI,hj],fun j hj=>?_⟩⟩
 ·rcases qir hx with h|⟨j,q',hj,h1,h2⟩
  ·rcases hbk x h with h|h
   ·exact .inr h
   ·exact .inl h.own
  ·exact .inl ⟨j,q',h1,h2⟩
 ·rw [qbL] at hj
  by_cases e:j=.l i
  ·exact .inr e
  ·rw [if_neg e] at hj
   exact .inl (by simpa using hj)
end
end Go.Proofs.YtjgdjinhkgjpeaaGreatDoor
namespace Go.Proofs.YtjgdjinhkgjpeaaGreatDoor
open List renaming mem_append→zC,mem_singleton→zL,reverse_reverse→yw
def RgtD (l:List Dd):Prop:=OrdD l∧∀ d∈l,d.kind=3→∃ y∈l,(y.site=d.osite∧y.no=d.ono)∧(y.kind=2∨y.kind=4)
theorem qs6 {l:List Dd} (h:OrdD l) {x y:Dd} (hx:x∈l) (hy:y∈l) (h1:x.site=y.site) (h2:x.no=y.no):x=y:=by
 have hz:cmpD x y=0:=qiH h1 h2
 have hz2:cmpD y x=0:=qiH h1.symm h2.symm
 obtain ⟨i,hi,rfl⟩:=List.mem_iff_getElem.1 hx
 obtain ⟨j,hj,rfl⟩:=List.mem_iff_getElem.1 hy
 unfold OrdD at h
 rw [List.pairwise_iff_getElem] at h
 rcases Nat.lt_trichotomy i j with h1|h1|h1
 ·have:=h i j hi hj h1;omega
 ·subst h1;rfl
 ·have:=h j i hj hi h1;omega
theorem qvq {l:List Dd} (h:RgtD l) {d z:Dd} (hd:d∈l) (h3:d.kind=3) (hz:z∈l) (h1:z.site=d.osite) (h2:z.no=d.ono):¬ z.kind=3:=by
 obtain ⟨y,hy,⟨e1,e2⟩,e3⟩:=h.2 d hd h3
 have:=qs6 h.1 hz hy (h1.trans e1.symm) (h2.trans e2.symm)
 subst this
 omega
theorem qtL {x y:Dd} (h:x.site=y.site):cmpD x y < 0↔x.no < y.no:=by
 unfold cmpD
 rw [qpr,h,if_pos (qse _)]
 unfold sgnC
 split
 ·omega
 ·split<;>omega
theorem qqX:∀ (r:List Dd) (s:List UInt8),OrdD r.reverse→∀ x∈r.reverse,x.site=s→x.no≤(tipF r.reverse s).1
 |[],s,_,x,hx,_=>by cases hx
 |d :: r,s,h,x,hx,hs=>by
  rw [List.reverse_cons] at *
  rw [qmX]
  unfold OrdD at h
  rw [List.pairwise_append] at h
  obtain ⟨h1,_,h3⟩:=h
  unfold tipN
  rcases zC.1 hx with hx|hx
  ·by_cases hd:d.site=s
   ·rw [if_pos hd]
    have:=h3 x hx d (by simp)
    rw [qtL (hs.trans hd.symm)] at this
    show x.no≤d.no
    omega
   ·rw [if_neg hd]
    exact qqX r s h1 x hx hs
  ·rw [zL] at hx
   subst hx
   rw [if_pos hs]
   exact Int.le_refl _
theorem qmW {l:List Dd} (h:OrdD l) (s:List UInt8) {x:Dd} (hx:x∈l) (hs:x.site=s):x.no≤(tipF l s).1:=by
 have:=qqX l.reverse s (by rwa [yw]) x (by rwa [yw]) hs
 rwa [yw] at this
theorem qs7 {q l:List Dd} (hq:q.Pairwise fun a b=>¬ cmpD a b=0) (hp:l.Perm q) (hs:l.Pairwise fun u v=>cmpD u v≤0):OrdD l:=by
 have an:=cmpD_p.anti
 have h2:l.Pairwise fun a b=>¬ cmpD a b=0:=(List.Perm.pairwise_iff (fun {x y} h e=>h (by have:=an x y;have:=an y x;omega)) hp).2 hq
 exact (hs.and h2).imp fun h=>by omega
theorem qkJ (l:List Dd) (d:Dd):(addD l d).site=d.site∧(addD l d).no=(tipF l d.site).1+1∧(addD l d).kind=d.kind∧(addD l d).osite=d.osite∧(addD l d).ono=d.ono:=⟨rfl,rfl,rfl,rfl,rfl⟩
def TmB (l:List Dd):Prop:=∀ d∈l,-1000000000≤d.tm∧d.tm≤1000000000
structure RD (c:Int) (l:List Dd):Prop where
 len:l.length≤2000
 b:DdsB l
 r:RgtD l
 n:NoB c l
 t:TmB l
 kd:∀ d∈l,1≤d.kind∧d.kind≤6
theorem RD.nil (c:Int):RD c []:=⟨by simp,DdsB.nil,⟨List.Pairwise.nil,fun _ h=>by cases h⟩,(fun _ h=>by cases h),(fun _ h=>by cases h),fun _ h=>by cases h⟩
theorem RD.le {c c':Int} {l:List Dd} (h:RD c l) (hc:c≤c'):RD c' l:=⟨h.len,h.b,h.r,(fun d hd=>by have:=h.n d hd;omega),h.t,h.kd⟩
theorem RD.fresh {c:Int} {l:List Dd} (h:RD c l) (d:Dd):UnqD (l++[addD l d]):=by
 obtain ⟨e1,e2,e3,e4,e5⟩:=qkJ l d
 unfold UnqD
 rw [List.pairwise_append]
 refine ⟨h.r.1.imp fun h=>by omega,by simp,?_⟩
 intro x hx y hy e
 rw [zL] at hy
 subst hy
 obtain ⟨a1,a2⟩:=qgS e
 have:=qmW h.r.1 d.site hx (a1.trans e1)
 omega
theorem qkk {d:Dd} (h:oneF d=0):1≤d.kind∧d.kind≤6:=by
 unfold oneF at h
 split at h
 ·omega
 ·split at h
  ·omega
  ·rename_i h1 h2
   have h2:inE d.kind 1 6=true:=by simpa using h2
   unfold inE at h2
   simpa using h2
theorem qr6 {l:List Dd} (h:(ckdF l).2=0):∀ d∈l,oneF d=0:=by
 unfold ckdF at h
 split at h
 ·exact absurd h (by decide)
 split at h
 ·rename_i h1
  have ha:=qgw h1
  intro d hd
  obtain ⟨k,hk⟩:=List.getElem?_of_mem hd
  have hkl:=(List.getElem?_eq_some_iff.1 hk).1
  have h2:=ha k (by omega) (by omega)
  unfold chkI at h2
  rw [hk] at h2
  have h2:atF (qiq l k) d=0:=h2
  exact qsn h2
 ·rename_i h1
  exact absurd h h1
theorem RD.add {c:Int} {l:List Dd} {d:Dd} (h:RD c l) (hc0:0≤c) (hc:c≤100000) (dB:DdB d) (h3:d.kind=3→∃ y∈l,(y.site=d.osite∧y.no=d.ono)∧(y.kind=2∨y.kind=4)) (hl:¬ l.length=2000) (ht:-1000000000≤d.tm∧d.tm≤1000000000) (hk:1≤d.kind∧d.kind≤6):RD (c+1) (srtD (l++[addD l d])):=by
 obtain ⟨t1,t2,t3⟩:=quJ hc0 h.b h.n d.site
 obtain ⟨e1,e2,e3,e4,e5⟩:=qkJ l d
 have hp:=qg8 (l++[addD l d])
 have hs:=qq5 (l++[addD l d])
 generalize srtD (l++[addD l d])=l' at *
 have hmem:∀ x∈l',x∈l∨x=addD l d:=fun x hx=>by
  have:=hp.mem_iff.1 hx
  simpa using this
 refine ⟨?_,?_,⟨qs7 (q:=l++[addD l d]) (h.fresh d) hp hs,?_⟩,?_,?_,?_⟩
 ·have:=hp.length_eq
  have:=h.len
  simp at *
  omega
 ·intro x hx
  rcases hmem x hx with hx|rfl
  ·exact h.b x hx
  ·exact ⟨dB.b1,dB.b2,dB.b3,dB.b4,dB.b5,by show (digF _).length≤200000;rw [qpY];decide,by rw [e2];omega,dB.c2,dB.c3,dB.c4,dB.c5,dB.c6⟩
 ·intro x hx h3x
  have up:∀ y∈l,y∈l':=fun y hy=>hp.mem_iff.2 (zC.2 (.inl hy))
  rcases hmem x hx with hx|rfl
  ·obtain ⟨y,hy,hh⟩:=h.r.2 x hx h3x
   exact ⟨y,up y hy,hh⟩
  ·obtain ⟨y,hy,hh⟩:=h3 h3x
   exact ⟨y,up y hy,hh⟩
 ·intro x hx
  rcases hmem x hx with hx|rfl
  ·have:=h.n x hx;omega
  ·rw [e2];omega
 ·intro x hx
  rcases hmem x hx with hx|rfl
  ·exact h.t x hx
  ·exact ht
 ·intro x hx
  rcases hmem x hx with hx|rfl
  ·exact h.kd x hx
  ·exact hk
theorem qm2 {n:Nat} {s:List UInt8} {t:Int} (h:qh7 n s t=0):¬ n=2000:=by
 intro e
 unfold qh7 at h
 rw [if_pos e] at h
 split at h<;>omega
theorem RD.addVr {c:Int} {l:List Dd} (h:RD c l) (hc0:0≤c) (hc:c≤100000) {site:List UInt8} {t k:Int} {id f v:List UInt8} {a b:Int} (dB:DdB (newD site t k id f v a b)) (h0:(addV l site t k id f v a b).2=0) (ht:-1000000000≤t∧t≤1000000000):RD (c+1) (addV l site t k id f v a b).1:=by
 unfold addV at *
 split
 ·exact RD.nil _
 ·rename_i h1
  split
  ·exact RD.nil _
  ·rename_i h2
   split
   ·exact RD.nil _
   ·rename_i h3r
    refine h.add hc0 hc dB (fun h3=>?_) (qm2 (by simpa using h1)) ht (qkk (by rw [← qrg];simpa using h3r))
    exfalso
    have h3:k=3:=h3
    simp [h3] at h2
theorem qrf {l:List Dd} (h:(ckdF l).2=0):l.length≤2000∧RgtD l:=by
 unfold ckdF at h
 split at h
 ·exact absurd h (by decide)
 rename_i hl
 split at h
 ·rename_i h1
  have ha:=qgw h1
  have hb:=qgw h
  have ha':∀ j,j < l.length→chkI l j=0:=fun j hj=>ha j (by omega) (by omega)
  refine ⟨by omega,qrl ha',?_⟩
  intro d hd h3
  obtain ⟨k,hk,rfl⟩:=List.mem_iff_getElem.1 hd
  have h2:=hb k (by omega) (by omega)
  unfold ofI at h2
  rw [List.getElem?_eq_getElem hk] at h2
  have h2:ofF l l[k]=0:=h2
  unfold ofF at h2
  rw [if_pos (by simp [qdA,h3])] at h2
  cases hx:qeV l l[k].osite l[k].ono with
  |none=>
   rw [hx] at h2
   have h2:(8:Int)=0:=h2
   omega
  |some x=>
   rw [hx] at h2
   have h2:(if qkX l[k] x=true then (0:Int) else 16)=0:=h2
   unfold qeV at hx
   have h5:=List.find?_some hx
   simp only [Bool.and_eq_true,decide_eq_true_eq] at h5
   refine ⟨x,List.mem_of_find?_eq_some hx,h5,?_⟩
   by_cases hpm:qkX l[k] x=true
   ·unfold qkX at hpm
    rw [if_pos h3] at hpm
    simpa using hpm
   ·rw [if_neg hpm] at h2;exact absurd h2 (by decide)
 ·rename_i h1
  exact absurd h h1
end Go.Proofs.YtjgdjinhkgjpeaaGreatDoor
