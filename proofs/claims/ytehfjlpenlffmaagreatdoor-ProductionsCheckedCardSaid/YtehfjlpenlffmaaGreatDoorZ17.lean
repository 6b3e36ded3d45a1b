import Derived.Test.YtehfjlpenlffmaaGreatDoorZ16
import Derived.Test.YtehfjlpenlffmaaGreatDoorZ9
import Derived.Test.YtehfjlpenlffmaaGreatDoorZ5
import Derived.Test.YtehfjlpenlffmaaGreatDoorZ15
import Derived.Test.YtehfjlpenlffmaaGreatDoorZ11
set_option linter.unusedVariables false
set_option linter.unusedSimpArgs false
set_option linter.defProp false
namespace Go.Proofs.YtehfjlpenlffmaaGreatDoor
open Nat renaming reduceSub→zp,reduceAdd→zd,reduceMul→ze,reduceLeDiff→zb,reduceLT→zf,reduceEqDiff→za
open List renaming map_cons→zj,map_nil→zo,length_cons→zi,length_nil→zn,cons_append→zl,nil_append→zm,replicate_succ→zh,replicate_zero→zk
open Go.RowKit
section
variable {E:Envt}
end
def qcT:IC:=(.seq (.reg [qO 9 (.bin .lss (.t 8) (.t 7))]) (.seq (.cond (.t 9) .skip (.exit 0)) (.seq (.block 1 (.seq (.reg [qM 10 8,qM 5 10]) (.seq (.reg [qM 11 1,qM 12 0,qM 13 5,qO 14 (.ixa 1 (.t 12) (.t 13)),qO 15 (.ld 1 false (.t 14)),qO 16 (.bin .eql (.t 11) (.t 15))]) (.cond (.t 16) (.seq (.reg [qM 17 5,qM 4 17]) .ret) .skip)))) (.reg [qO 18 (.bin .add (.t 8) (.c (.int .i64 1))),qM 8 18]))))
def qdZ:IC:=(.seq (.reg [qO 4 (.mov (.c (.int .i64 0)))]) (.seq (.seq (.reg [qM 6 0,qO 7 (.len (.t 6)),qO 8 (.mov (.c (.int .i64 0)))]) (.block 0 (.loop qcT))) (.seq (.reg [qO 4 (.mov (.c (.int .i64 (-1))))]) .ret)))
def qdP:List IRes:=[.t 4]
theorem qg5:chkF Tryz.prog Tryz.f317 qdZ qdP 19=true:=by kernel_rfl
def qcU:IC:=(.seq (.reg [qO 4 (.mov (.c (.bool false)))]) (.seq (.reg [qM 5 0,qM 6 1,qO 7 (.call 317 [.t 5,.t 6]),qO 8 (.bin .geq (.t 7) (.c (.int .i64 0))),qM 4 8]) .ret))
def qcP:List IRes:=[.t 4]
theorem qf7:chkF Tryz.prog Tryz.f271 qcU qcP 9=true:=by kernel_rfl
section
variable {E:Envt}
def ixE (l:List Int):List (List PV):=l.map fun x=>[PV.int .i64 x]
theorem qg1 (l:List Int):(ixE l).length=l.length:=by simp [ixE]
theorem qrV {l:List Int} {k:Nat} {x:Int} (h:l[k]?=some x):(ixE l).getD k []=[.int .i64 x]:=qaH h
def idxI (l:List Int) (x:Int) (k:Nat):Int:=if h:k < l.length then (if x=l[k] then k else idxI l x (k+1)) else -1
termination_by l.length - k
theorem qsJ (l:List Int) (x:Int) (hl:l.length≤1000000000):PCall Tryz.prog E 317 [.sl 1 (ixE l),.int .i64 x] (·=int (idxI l x 0)):=by
 refine qag mixed Tryz.func317 qg5 ?_
 simp only [a0,l0,OS.ao,zj,zo,zi,zn,zl,zm,zp,zd,zh,zk,qdZ,qdP,ZZ,WW,Ze,reduceCtorEq,zd,ze,zb,zf,za]
 simp only [ZZ,WW,Ze,reduceCtorEq,zd,ze,zb,zf,za,qg1]
 refine qad (fun n fr L=>∃ (k:Nat),k≤l.length∧n=l.length - k∧(idxI l x 0=idxI l x k)∧fr=[.p (.sl 1 (ixE l)),.p (.int .i64 x),oo,oo,oo,oo,oo,.p (int (l.length:Nat)),.p (int (k:Nat)),oo,oo,oo,oo,oo,oo,oo,oo,oo,oo]∧L=[]) (l.length) [.p (.sl 1 (ixE l)),.p (.int .i64 x),oo,oo,oo,oo,oo,.p (int (l.length:Nat)),.p (int (0:Nat)),oo,oo,oo,oo,oo,oo,oo,oo,oo,oo] [] (by simp only [ZZ,WW,Ze,reduceCtorEq,zd,ze,zb,zf,za,qg1];try trivial) (by (simp only [ZZ,WW,Ze,reduceCtorEq,zd,ze,zb,zf,za];try trivial)) ⟨0,by omega,by omega,rfl,rfl,rfl⟩ ?_
 rintro n fr L ⟨k,hk,rfl,hf,rfl,rfl⟩
 simp only [qcT,ZZ,WW,Ze,reduceCtorEq,zd,ze,zb,zf,za]
 refine br ?_ ?_
 ·intro h
  have hlt:k < l.length:=by have:=of_decide_eq_true h;omega
  have hg:=qrV (List.getElem?_eq_getElem hlt)
  simp only [ZZ,WW,Ze,reduceCtorEq,zd,ze,zb,zf,za,hg,qg1]
  ((repeat' (with_reducible apply And.intro))<;>try ((exact sc_)))
  refine br ?_ ?_
  ·intro h2
   have h2:x=l[k]:=of_decide_eq_true h2
   simp only [ZZ,WW,Ze,reduceCtorEq,zd,ze,zb,zf,za]
   rw [hf,idxI,dif_pos hlt,if_pos h2]
  ·intro h2
   have h2:¬ x=l[k]:=of_decide_eq_false h2
   simp only [ZZ,WW,Ze,reduceCtorEq,zd,ze,zb,zf,za]
   ((repeat' (with_reducible apply And.intro))<;>try ((exact sc_)))
   refine qac (l.length - (k+1)) [.p (.sl 1 (ixE l)),.p (.int .i64 x),oo,oo,oo,oo,oo,.p (int (l.length:Nat)),.p (int ((k+1):Nat)),oo,oo,oo,oo,oo,oo,oo,oo,oo,oo] [] (by omega) (by (simp only [ZZ,WW,Ze,reduceCtorEq,zd,ze,zb,zf,za];try trivial)) (by (simp only [ZZ,WW,Ze,reduceCtorEq,zd,ze,zb,zf,za];try trivial)) ⟨k+1,by omega,rfl,by rw [hf,idxI,dif_pos hlt,if_neg h2],rfl,rfl⟩
 ·intro h
  have hge:¬ k < l.length:=by have:=of_decide_eq_false h;omega
  simp only [ZZ,WW,Ze,reduceCtorEq,zd,ze,zb,zf,za]
  rw [hf,idxI,dif_neg hge]
theorem qtI (l:List Int) (x:Int):∀ (n k:Nat),l.length - k≤n→(0≤idxI l x k↔x∈l.drop k):=by
 intro n
 induction n with
 |zero=>
  intro k hk
  rw [idxI,dif_neg (by omega),List.drop_eq_nil_of_le (by omega)]
  simp
 |succ n ih=>
  intro k hk
  rw [idxI]
  split
  ·rename_i h
   rw [List.drop_eq_getElem_cons h,List.mem_cons]
   split
   ·rename_i e;simp [e]
   ·rename_i e
    rw [ih (k+1) (by omega)]
    simp [e]
  ·rename_i h
   rw [List.drop_eq_nil_of_le (by omega)]
   simp
theorem qoj (l:List Int) (x:Int) (hl:l.length≤1000000000):PCall Tryz.prog E 271 [.sl 1 (ixE l),.int .i64 x] (·=.bool (decide (x∈l))):=by
 refine qag mixed Tryz.func271 qf7 ?_
 simp only [a0,l0,OS.ao,zj,zo,zi,zn,zl,zm,zp,zd,zh,zk,qcU,qcP,ZZ,WW,Ze,reduceCtorEq,zd,ze,zb,zf,za]
 refine use1 (qsJ l x hl) rfl (.inl rfl) ?_
 simp only [ZZ,WW,Ze,reduceCtorEq,zd,ze,zb,zf,za]
 have:=qtI l x _ 0 (Nat.le_refl _)
 rw [List.drop_zero] at this
 simp only [this]
end
def qaX:IC:=(.seq (.reg [qO 9 (.bin .lss (.t 8) (.t 7))]) (.seq (.cond (.t 9) .skip (.exit 0)) (.seq (.block 1 (.seq (.reg [qM 10 8,qM 5 10]) (.seq (.reg [qM 11 1,qM 12 0,qM 13 5,qO 14 (.ixa 7 (.t 12) (.t 13)),qO 15 (.ld 7 true (.t 14)),qO 16 (.callv (.t 11) [.t 15])]) (.cond (.t 16) (.seq (.reg [qM 17 5,qM 4 17]) .ret) .skip)))) (.reg [qO 18 (.bin .add (.t 8) (.c (.int .i64 1))),qM 8 18]))))
def qbc:IC:=(.seq (.reg [qO 4 (.mov (.c (.int .i64 0)))]) (.seq (.seq (.reg [qM 6 0,qO 7 (.len (.t 6)),qO 8 (.mov (.c (.int .i64 0)))]) (.block 0 (.loop qaX))) (.seq (.reg [qO 4 (.mov (.c (.int .i64 (-1))))]) .ret)))
def qa7:List IRes:=[.t 4]
theorem qc6:chkF Tryz.prog Tryz.f153 qbc qa7 19=true:=by kernel_rfl
def qgm:IC:=(.seq (.reg [qO 3 (.box 9 (.t 1)),qO 4 (.mov (.c (.int .i64 0)))]) (.seq (.reg [qM 5 0,qO 6 (.mkf 213 [.t 3]),qO 7 (.call 153 [.t 5,.t 6]),qM 4 7]) .ret))
def qgd:List IRes:=[.t 4]
theorem qjl:chkF Tryz.prog Tryz.f151 qgm qgd 8=true:=by kernel_rfl
def qfu:IC:=(.seq (.reg [qO 2 (.box 80 (.t 0)),qO 3 (.mov (.c (.bool false)))]) (.seq (.reg [qO 4 (.fla 0 (.t 2)),qO 5 (.ld 1 false (.t 4)),qO 6 (.ld 1 false (.t 1)),qO 7 (.bin .eql (.t 5) (.t 6)),qM 3 7]) .ret))
def qfl:List IRes:=[.t 3]
theorem qin:chkF Tryz.prog Tryz.f213 qfu qfl 8=true:=by kernel_rfl
def qcD:IC:=(.seq (.seq (.reg [qM 15 7,qO 16 (.bin .geq (.t 15) (.c (.int .i64 0))),qM 17 16,⟨some 18,.mov (.t 0),(some (17,true))⟩,⟨some 19,.mov (.t 1),(some (17,true))⟩,⟨some 20,.ixa 7 (.t 18) (.t 19),(some (17,true))⟩,⟨some 21,.fla 5 (.t 20),(some (17,true))⟩,⟨some 22,.ld 1 false (.t 21),(some (17,true))⟩,⟨some 23,.bin .neq (.t 22) (.c (.str [])),(some (17,true))⟩,qO 24 (.pick (.t 17) (.t 23) (.c (.bool false)))]) (.cond (.t 24) .skip (.exit 0))) (.seq (.block 1 (.seq (.reg [qM 32 6,qM 33 7,qO 34 (.bsl 1 [.t 33]),qO 35 (.app 3 1 8 (.t 32) (.t 34)),qM 6 35]) (.seq (.seq (.reg [qM 36 6,qO 37 (.len (.t 36)),qM 38 0,qO 39 (.len (.t 38)),qO 40 (.bin .gtr (.t 37) (.t 39))]) (.cond (.t 40) (.seq (.reg [qM 41 6,qM 4 41,qO 5 (.mov (.c (.bool false)))]) .ret) .skip)) (.seq (.reg [qM 42 0,qM 43 7,qO 44 (.ixa 7 (.t 42) (.t 43)),qO 45 (.fla 5 (.t 44)),qO 46 (.ld 1 false (.t 45)),qO 47 (.bin .eql (.t 46) (.c (.str [])))]) (.cond (.t 47) (.exit 0) .skip))))) (.reg [qM 25 0,qM 26 0,qM 27 7,qO 28 (.ixa 7 (.t 26) (.t 27)),qO 29 (.fla 5 (.t 28)),qO 30 (.ld 1 false (.t 29)),qO 31 (.call 151 [.t 25,.t 30]),qM 7 31])))
def qgn:IC:=(.seq (.reg [qO 4 (.mov (.c (.nl 1))),qO 5 (.mov (.c (.bool false)))]) (.seq (.reg [qO 6 (.nilr 3 1)]) (.seq (.seq (.reg [qM 8 0,qM 9 0,qM 10 1,qO 11 (.ixa 7 (.t 9) (.t 10)),qO 12 (.fla 5 (.t 11)),qO 13 (.ld 1 false (.t 12)),qO 14 (.call 151 [.t 8,.t 13]),qM 7 14]) (.block 0 (.loop qcD))) (.cut (.seq (.reg [qM 48 6,qM 4 48,qO 5 (.mov (.c (.bool true)))]) .ret)))))
def qge:List IRes:=[.t 4,.t 5]
theorem qjm:chkF Tryz.prog Tryz.f165 qgn qge 49=true:=by kernel_rfl
def qft:IC:=(.seq (.reg [qO 4 (.mov (.c (.bool false)))]) (.seq (.reg [qM 8 0,qM 9 1,qO 10 (.call 165 [.t 8,.t 9]),qM 7 10,qO 11 (.ext 0 (.t 7)),qO 12 (.ext 1 (.t 7)),qM 5 11,qM 6 12]) (.seq (.reg [qM 13 5,qM 14 1,qO 15 (.call 271 [.t 13,.t 14]),qM 4 15]) .ret)))
def qfk:List IRes:=[.t 4]
theorem qim:chkF Tryz.prog Tryz.f214 qft qfk 16=true:=by kernel_rfl
def qdj:IC:=(.seq (.reg [qO 20 (.bin .lss (.t 19) (.t 18))]) (.seq (.cond (.t 20) .skip (.exit 2)) (.seq (.block 3 (.seq (.reg [qM 21 19,qM 4 21]) (.seq (.seq (.reg [qM 22 0,qM 23 0,qM 24 4,qO 25 (.ixa 7 (.t 23) (.t 24)),qO 26 (.fla 5 (.t 25)),qO 27 (.ld 1 false (.t 26)),qO 28 (.call 151 [.t 22,.t 27]),qM 5 28]) (.seq (.reg [qM 29 0,qM 30 4,qO 31 (.ixa 7 (.t 29) (.t 30)),qO 32 (.fla 5 (.t 31)),qO 33 (.ld 1 false (.t 32)),qO 34 (.bin .neq (.t 33) (.c (.str []))),qM 35 34,⟨some 36,.mov (.t 5),(some (35,true))⟩,⟨some 37,.bin .geq (.t 36) (.c (.int .i64 0)),(some (35,true))⟩,qO 38 (.pick (.t 35) (.t 37) (.c (.bool false))),qM 39 38,⟨some 40,.mov (.t 0),(some (39,true))⟩,⟨some 41,.mov (.t 5),(some (39,true))⟩,⟨some 42,.ixa 7 (.t 40) (.t 41),(some (39,true))⟩,⟨some 43,.fla 2 (.t 42),(some (39,true))⟩,⟨some 44,.ld 1 false (.t 43),(some (39,true))⟩,⟨some 45,.bin .neq (.t 44) (.c (.int .i64 1)),(some (39,true))⟩,qO 46 (.pick (.t 39) (.t 45) (.c (.bool false))),qM 47 46,⟨some 48,.mov (.t 0),(some (47,true))⟩,⟨some 49,.mov (.t 5),(some (47,true))⟩,⟨some 50,.ixa 7 (.t 48) (.t 49),(some (47,true))⟩,⟨some 51,.fla 2 (.t 50),(some (47,true))⟩,⟨some 52,.ld 1 false (.t 51),(some (47,true))⟩,⟨some 53,.bin .neq (.t 52) (.c (.int .i64 3)),(some (47,true))⟩,qO 54 (.pick (.t 47) (.t 53) (.c (.bool false)))]) (.cond (.t 54) (.seq (.reg [qO 2 (.mov (.c (.int .i64 16)))]) .ret) .skip))) (.seq (.reg [qM 56 0,qM 57 4,qO 58 (.call 165 [.t 56,.t 57]),qM 55 58,qO 59 (.ext 0 (.t 55)),qO 60 (.ext 1 (.t 55)),qM 6 59,qM 7 60]) (.seq (.reg [qM 61 6,qO 62 (.len (.t 61)),qO 63 (.bin .gtr (.t 62) (.c (.int .i64 4)))]) (.cond (.t 63) (.seq (.reg [qO 2 (.mov (.c (.int .i64 2)))]) .ret) .skip)))))) (.reg [qO 64 (.bin .add (.t 19) (.c (.int .i64 1))),qM 19 64]))))
def qdk:IC:=(.seq (.reg [qO 11 (.bin .lss (.t 10) (.t 9))]) (.seq (.cond (.t 11) .skip (.exit 0)) (.seq (.block 1 (.seq (.reg [qM 12 10,qM 3 12]) (.seq (.reg [qM 13 0,qM 14 3,qO 15 (.call 214 [.t 13,.t 14])]) (.cond (.t 15) (.seq (.reg [qO 2 (.mov (.c (.int .i64 14)))]) .ret) .skip)))) (.reg [qO 16 (.bin .add (.t 10) (.c (.int .i64 1))),qM 10 16]))))
def qeo:IC:=(.seq (.reg [qO 2 (.mov (.c (.int .i64 0)))]) (.seq (.seq (.reg [qM 8 0,qO 9 (.len (.t 8)),qO 10 (.mov (.c (.int .i64 0)))]) (.block 0 (.loop qdk))) (.seq (.seq (.reg [qM 17 0,qO 18 (.len (.t 17)),qO 19 (.mov (.c (.int .i64 0)))]) (.block 2 (.loop qdj))) (.seq (.reg [qO 2 (.mov (.c (.int .i64 0)))]) .ret))))
def qef:List IRes:=[.t 2]
theorem qhy:chkF Tryz.prog Tryz.f152 qeo qef 65=true:=by kernel_rfl
def qcV:IC:=(.seq (.reg [qO 33 (.bin .lss (.t 32) (.t 31))]) (.seq (.cond (.t 33) .skip (.exit 2)) (.seq (.block 3 (.seq (.reg [qO 34 (.ixa 7 (.t 30) (.t 32)),qO 35 (.ld 7 true (.t 34)),qO 8 (.alc 80 [.str [],.str [],.int .i64 0,.str [],.int .i64 0,.str [],.str []]),⟨none,.st 7 (.t 8) (.t 35),none⟩]) (.seq (.reg [qO 36 (.fla 5 (.t 8)),qO 37 (.ld 1 false (.t 36)),qO 38 (.bin .neq (.t 37) (.c (.str []))),qM 39 38,⟨some 40,.mov (.t 0),(some (39,true))⟩,⟨some 41,.fla 5 (.t 8),(some (39,true))⟩,⟨some 42,.ld 1 false (.t 41),(some (39,true))⟩,⟨some 43,.call 151 [.t 40,.t 42],(some (39,true))⟩,⟨some 44,.bin .lss (.t 43) (.c (.int .i64 0)),(some (39,true))⟩,qO 45 (.pick (.t 39) (.t 44) (.c (.bool false)))]) (.cond (.t 45) (.seq (.reg [qO 2 (.mov (.c (.int .i64 8)))]) .ret) .skip)))) (.reg [qO 46 (.bin .add (.t 32) (.c (.int .i64 1))),qM 32 46]))))
def qcW:IC:=(.seq (.reg [qO 15 (.bin .lss (.t 14) (.t 13))]) (.seq (.cond (.t 15) .skip (.exit 0)) (.seq (.block 1 (.seq (.reg [qO 16 (.ixa 7 (.t 12) (.t 14)),qO 17 (.ld 7 true (.t 16)),qO 5 (.alc 80 [.str [],.str [],.int .i64 0,.str [],.int .i64 0,.str [],.str []]),⟨none,.st 7 (.t 5) (.t 17),none⟩]) (.seq (.seq (.reg [qO 18 (.ld 7 true (.t 5)),qO 19 (.call 150 [.t 18]),qM 6 19]) (.seq (.reg [qM 20 6,qO 21 (.bin .neq (.t 20) (.c (.int .i64 0)))]) (.cond (.t 21) (.seq (.reg [qM 22 6,qM 2 22]) .ret) .skip))) (.seq (.seq (.reg [qO 23 (.fla 0 (.t 5)),qO 24 (.ld 1 false (.t 23)),qM 25 3,qO 26 (.bin .leq (.t 24) (.t 25))]) (.cond (.t 26) (.seq (.reg [qO 2 (.mov (.c (.int .i64 7)))]) .ret) .skip)) (.reg [qO 27 (.fla 0 (.t 5)),qO 28 (.ld 1 false (.t 27)),qM 3 28]))))) (.reg [qO 29 (.bin .add (.t 14) (.c (.int .i64 1))),qM 14 29]))))
def qd1:IC:=(.seq (.reg [qO 2 (.mov (.c (.int .i64 0)))]) (.seq (.seq (.reg [qM 9 0,qO 10 (.len (.t 9)),qO 11 (.bin .gtr (.t 10) (.c (.int .i64 2000)))]) (.cond (.t 11) (.seq (.reg [qO 2 (.mov (.c (.int .i64 2)))]) .ret) .skip)) (.seq (.reg [qO 3 (.mov (.c (.str [])))]) (.seq (.seq (.reg [qM 12 0,qO 13 (.len (.t 12)),qO 14 (.mov (.c (.int .i64 0)))]) (.block 0 (.loop qcW))) (.seq (.seq (.reg [qM 30 0,qO 31 (.len (.t 30)),qO 32 (.mov (.c (.int .i64 0)))]) (.block 2 (.loop qcV))) (.seq (.reg [qM 47 0,qO 48 (.call 152 [.t 47]),qM 2 48]) .ret))))))
def qdR:List IRes:=[.t 2]
theorem qg7:chkF Tryz.prog Tryz.f71 qd1 qdR 49=true:=by kernel_rfl
section
variable {E:Envt}
theorem qjw (l:List Itm) (f:FuncId) (ps:List PV) (q:Itm→Bool) (hl:l.length≤1000000000) (hfn:Unit→fnB Tryz.prog f=true) (hps:Zl [] (ps.map .p)=true) (hf:∀ x∈l,PCall Tryz.prog E f (.agg (itC x) :: ps) (·=.bool (q x))) (hn:∀ x,Zbh [] (.p (.agg (itC x)) :: ps.map .p)=some (.agg (itC x) :: ps)) (hr:∀ x,Zbj (.p (.agg (itC x)) :: ps.map .p)=true):PCall Tryz.prog E 153 [.sl 7 (itE l),.clo f ps] (·=int (idxF q l)):=by
 refine qag mixed Tryz.func153 qc6 ?_
 simp only [a0,l0,OS.ao,zj,zo,zi,zn,zl,zm,zp,zd,zh,zk,qbc,qa7,ZZ,WW,Ze,reduceCtorEq,zd,ze,zb,zf,za]
 simp only [ZZ,WW,Ze,reduceCtorEq,zd,ze,zb,zf,za,qan]
 refine qad (fun n fr L=>∃ (k:Nat),k≤l.length∧n=l.length - k∧(∀ x∈l.take k,q x=false)∧fr=[.p (.sl 7 (itE l)),.p (.clo f ps),oo,oo,oo,oo,oo,.p (int (l.length:Nat)),.p (int (k:Nat)),oo,oo,oo,oo,oo,oo,oo,oo,oo,oo]∧L=[]) (l.length) [.p (.sl 7 (itE l)),.p (.clo f ps),oo,oo,oo,oo,oo,.p (int (l.length:Nat)),.p (int (0:Nat)),oo,oo,oo,oo,oo,oo,oo,oo,oo,oo] [] (by simp only [qan,ZZ,WW,Ze,reduceCtorEq,zd,ze,zb,zf,za];try trivial) (by (simp only [ZZ,WW,Ze,reduceCtorEq,zd,ze,zb,zf,za];try trivial)) ⟨0,by omega,by omega,by simp,rfl,rfl⟩ ?_
 rintro n fr L ⟨k,hk,rfl,hno,rfl,rfl⟩
 simp only [qaX,ZZ,WW,Ze,reduceCtorEq,zd,ze,zb,zf,za]
 refine br ?_ ?_
 ·intro h
  have hlt:k < l.length:=by have:=of_decide_eq_true h;omega
  obtain ⟨x,hx⟩:∃ x,l[k]?=some x:=⟨_,List.getElem?_eq_getElem hlt⟩
  have hg:=qdY hx
  simp only [itC] at hg
  simp only [ZZ,WW,Ze,reduceCtorEq,zd,ze,zb,zf,za,hg,qan,hfn ()]
  refine ⟨⟨by omega,by omega⟩,by omega,hps,?_⟩
  refine use1 (hf x (List.mem_of_getElem? hx)) (hn x) (.inl (hr x)) ?_
  simp only [ZZ,WW,Ze,reduceCtorEq,zd,ze,zb,zf,za]
  refine br ?_ ?_
  ·intro hq
   simp only [ZZ,WW,Ze,reduceCtorEq,zd,ze,zb,zf,za]
   rw [qg2 hx hq hno]
  ·intro hq
   simp only [ZZ,WW,Ze,reduceCtorEq,zd,ze,zb,zf,za]
   ((repeat' (with_reducible apply And.intro))<;>try ((exact sc_)))
   refine qac (l.length - (k+1)) [.p (.sl 7 (itE l)),.p (.clo f ps),oo,oo,oo,oo,oo,.p (int (l.length:Nat)),.p (int ((k+1):Nat)),oo,oo,oo,oo,oo,oo,oo,oo,oo,oo] [] (by omega) (by (simp only [ZZ,WW,Ze,reduceCtorEq,zd,ze,zb,zf,za];try trivial)) (by (simp only [ZZ,WW,Ze,reduceCtorEq,zd,ze,zb,zf,za];try trivial)) ⟨k+1,by omega,rfl,by rw [List.take_succ_eq_append_getElem hlt];intro y hy;rcases List.mem_append.1 hy with hy|hy;exact hno y hy;rw [List.mem_singleton] at hy;rw [hy,(List.getElem?_eq_some_iff.1 hx).2];exact hq,rfl,rfl⟩
 ·intro h
  have hge:l.length≤k:=by have:=of_decide_eq_false h;omega
  rw [List.take_of_length_le hge] at hno
  simp only [ZZ,WW,Ze,reduceCtorEq,zd,ze,zb,zf,za]
  rw [qe5 hno]
theorem qro (x:Itm) (s:List UInt8):PCall Tryz.prog E 213 [.agg (itC x),.ptr [.str s]] (·=.bool (decide (x.1=s))):=by
 simp only [itC]
 refine qag mixed Tryz.func213 qin ?_
 simp only [a0,l0,OS.ao,zj,zo,zi,zn,zl,zm,zp,zd,zh,zk,qfu,qfl,ZZ,WW,Ze,reduceCtorEq,zd,ze,zb,zf,za]
def plF (il:List Itm) (s:List UInt8):Int:=idxF (fun x=>decide (x.1=s)) il
theorem qmn (il:List Itm) (s:List UInt8) (hl:il.length≤1000000):PCall Tryz.prog E 151 [.sl 7 (itE il),.str s] (·=int (plF il s)):=by
 refine qag mixed Tryz.func151 qjl ?_
 simp only [a0,l0,OS.ao,zj,zo,zi,zn,zl,zm,zp,zd,zh,zk,qgm,qgd,ZZ,WW,Ze,reduceCtorEq,zd,ze,zb,zf,za]
 refine use1 (qjw il 213 [.ptr [.str s]] (fun x=>decide (x.1=s)) (by omega) (fun _=>by kernel_rfl) rfl (fun y _=>qro y s) (fun _=>rfl) (fun _=>rfl)) rfl (.inr rfl) ?_
 simp only [ZZ,WW,Ze,reduceCtorEq,zd,ze,zb,zf,za]
 rfl
theorem qrq {il:List Itm} (h:qbE il):plF il []=-1:=by
 refine qe5 fun x hx=>?_
 obtain ⟨i,hi⟩:=List.getElem?_of_mem hx
 rw [(h.2 i x hi).b1]
 simp [pid]
theorem qiC {il:List Itm} (h:qbE il) {j:Nat} {y:Itm} (hy:il[j]?=some y):plF il (pid j)=j:=by
 have hjl:=(List.getElem?_eq_some_iff.1 hy).1
 have h20:=h.1
 refine qg2 hy (by rw [(h.2 j y hy).b1];simp) fun z hz=>?_
 obtain ⟨i,hi⟩:=List.getElem?_of_mem hz
 have hlt:i < j:=by have:=(List.getElem?_eq_some_iff.1 hi).1;rw [List.length_take] at this;omega
 rw [List.getElem?_take_of_lt hlt] at hi
 rw [(h.2 i z hi).b1,decide_eq_false_iff_not]
 intro e
 have:=qrt (by omega) (by omega) e
 omega
def upF (il:List Itm) (x:Itm):List Int:=if x.2.2.2.2.2.1=[] then [] else [plF il x.2.2.2.2.2.1]
theorem qh7 (il:List Itm) (hP:qbE il) (i:Nat) (x:Itm) (hx:il[i]?=some x):PCall Tryz.prog E 165 [.sl 7 (itE il),int (i:Nat)] (·=.tup [.sl 1 (ixE (upF il x)),.bool true]):=by
 have hp:=hP.2 i x hx
 have h20:=hP.1
 have hil:=(List.getElem?_eq_some_iff.1 hx).1
 have hg:=qdY hx
 simp only [itC] at hg
 refine qag mixed Tryz.func165 qjm ?_
 simp only [a0,l0,OS.ao,zj,zo,zi,zn,zl,zm,zp,zd,zh,zk,qgn,qge,ZZ,WW,Ze,reduceCtorEq,zd,ze,zb,zf,za]
 simp only [ZZ,WW,Ze,reduceCtorEq,zd,ze,zb,zf,za,hg,qan]
 ((repeat' (with_reducible apply And.intro))<;>try ((exact sc_)))
 refine use1 (qmn il x.2.2.2.2.2.1 (by omega)) rfl (.inl rfl) ?_
 simp only [ZZ,WW,Ze,reduceCtorEq,zd,ze,zb,zf,za]
 by_cases hq:x.2.2.2.2.2.1=[]
 ·have hpl:plF il x.2.2.2.2.2.1=-1:=by rw [hq];exact qrq hP
  rw [upF,if_pos hq,hpl]
  refine qad (fun n fr L=>n=0∧fr=[.p (.sl 7 (itE il)),.p (int (i:Nat)),oo,oo,oo,oo,.row (.l 6),.p (int (-1)),oo,oo,oo,oo,oo,oo,oo,oo,oo,oo,oo,oo,oo,oo,oo,oo,oo,oo,oo,oo,oo,oo,oo,oo,oo,oo,oo,oo,oo,oo,oo,oo,oo,oo,oo,oo,oo,oo,oo,oo,oo]∧L=[(.l 6,.row [] 3 1 true)]) 0 [.p (.sl 7 (itE il)),.p (int (i:Nat)),oo,oo,oo,oo,.row (.l 6),.p (int (-1)),oo,oo,oo,oo,oo,oo,oo,oo,oo,oo,oo,oo,oo,oo,oo,oo,oo,oo,oo,oo,oo,oo,oo,oo,oo,oo,oo,oo,oo,oo,oo,oo,oo,oo,oo,oo,oo,oo,oo,oo,oo] [(.l 6,.row [] 3 1 true)] (by (simp only [ZZ,WW,Ze,reduceCtorEq,zd,ze,zb,zf,za];try trivial)) zE_ ⟨rfl,rfl,rfl⟩ ?_
  rintro n fr L ⟨rfl,rfl,rfl⟩
  have n1:decide ((0:Int)≤-1)=false:=rfl
  simp only [qcD,ZZ,WW,Ze,reduceCtorEq,zd,ze,zb,zf,za]
  simp only [ZZ,WW,Ze,reduceCtorEq,zd,ze,zb,zf,za,hg,qan,n1]
  refine ⟨fun h=>h.elim,fun h=>h.elim,?_⟩
  refine qau zE_ ?_
  simp only [ZZ,WW,Ze,reduceCtorEq,zd,ze,zb,zf,za]
  rfl
 ·obtain ⟨j,y,hj,hy,hy1,hy2,hpj⟩:=hp.b6.resolve_left hq
  have hpl:plF il x.2.2.2.2.2.1=(j:Nat):=by rw [hpj];exact qiC hP hy
  have hjl:=(List.getElem?_eq_some_iff.1 hy).1
  have hgy:=qdY hy
  simp only [itC] at hgy
  have hq2:decide (x.2.2.2.2.2.1=[])=false:=by simpa using hq
  have hy3:decide (y.2.2.2.2.2.1=[])=true:=by simpa using hy1
  rw [upF,if_neg hq,hpl]
  refine qad (fun n fr L=>n=0∧fr=[.p (.sl 7 (itE il)),.p (int (i:Nat)),oo,oo,oo,oo,.row (.l 6),.p (int (j:Nat)),oo,oo,oo,oo,oo,oo,oo,oo,oo,oo,oo,oo,oo,oo,oo,oo,oo,oo,oo,oo,oo,oo,oo,oo,oo,oo,oo,oo,oo,oo,oo,oo,oo,oo,oo,oo,oo,oo,oo,oo,oo]∧L=[(.l 6,.row [] 3 1 true)]) 0 [.p (.sl 7 (itE il)),.p (int (i:Nat)),oo,oo,oo,oo,.row (.l 6),.p (int (j:Nat)),oo,oo,oo,oo,oo,oo,oo,oo,oo,oo,oo,oo,oo,oo,oo,oo,oo,oo,oo,oo,oo,oo,oo,oo,oo,oo,oo,oo,oo,oo,oo,oo,oo,oo,oo,oo,oo,oo,oo,oo,oo] [(.l 6,.row [] 3 1 true)] (by (simp only [ZZ,WW,Ze,reduceCtorEq,zd,ze,zb,zf,za];try trivial)) zE_ ⟨rfl,rfl,rfl⟩ ?_
  rintro n fr L ⟨rfl,rfl,rfl⟩
  have p1:decide ((0:Int)≤((j:Nat):Int))=true:=by rw [decide_eq_true_eq];omega
  simp only [qcD,ZZ,WW,Ze,reduceCtorEq,zd,ze,zb,zf,za]
  simp only [ZZ,WW,Ze,reduceCtorEq,zd,ze,zb,zf,za,hg,hgy,qan,hq2,hy3,p1]
  ((repeat' (with_reducible apply And.intro))<;>try ((exact sc_)))
  refine br (fun h=>by have:=of_decide_eq_true h;omega) ?_
  intro _
  simp only [ZZ,WW,Ze,reduceCtorEq,zd,ze,zb,zf,za,hg,hgy,qan,hq2,hy3,p1]
  ((repeat' (with_reducible apply And.intro))<;>try ((exact sc_)))
  refine qau zE_ ?_
  simp only [ZZ,WW,Ze,reduceCtorEq,zd,ze,zb,zf,za]
  rfl
theorem qqh (il:List Itm) (hP:qbE il) (i:Nat) (x:Itm) (hx:il[i]?=some x):PCall Tryz.prog E 214 [.sl 7 (itE il),int (i:Nat)] (·=.bool false):=by
 have hp:=hP.2 i x hx
 have h20:=hP.1
 refine qag mixed Tryz.func214 qim ?_
 simp only [a0,l0,OS.ao,zj,zo,zi,zn,zl,zm,zp,zd,zh,zk,qft,qfk,ZZ,WW,Ze,reduceCtorEq,zd,ze,zb,zf,za]
 refine use1 (qh7 il hP i x hx) rfl (.inl rfl) ?_
 simp only [ZZ,WW,Ze,reduceCtorEq,zd,ze,zb,zf,za]
 have hul:(upF il x).length≤1:=by unfold upF;split<;>simp
 refine use1 (qoj (upF il x) (i:Nat) (by omega)) rfl (.inl rfl) ?_
 simp only [ZZ,WW,Ze,reduceCtorEq,zd,ze,zb,zf,za]
 have:((i:Nat):Int)∉upF il x:=by
  unfold upF
  split
  ·simp
  ·rename_i hq
   obtain ⟨j,y,hj,hy,hy1,hy2,hpj⟩:=hp.b6.resolve_left hq
   rw [hpj,qiC hP hy,List.mem_singleton]
   omega
 rw [decide_eq_false this]
theorem qnd (il:List Itm) (hP:qbE il):PCall Tryz.prog E 152 [.sl 7 (itE il)] (·=int 0):=by
 have h20:=hP.1
 refine qag mixed Tryz.func152 qhy ?_
 simp only [a0,l0,OS.ao,zj,zo,zi,zn,zl,zm,zp,zd,zh,zk,qeo,qef,ZZ,WW,Ze,reduceCtorEq,zd,ze,zb,zf,za]
 simp only [ZZ,WW,Ze,reduceCtorEq,zd,ze,zb,zf,za,qan]
 refine qad (fun n fr L=>∃ (k:Nat),k≤il.length∧n=il.length - k∧fr=[.p (.sl 7 (itE il)),oo,oo,oo,oo,oo,oo,oo,oo,.p (int (il.length:Nat)),.p (int (k:Nat)),oo,oo,oo,oo,oo,oo,oo,oo,oo,oo,oo,oo,oo,oo,oo,oo,oo,oo,oo,oo,oo,oo,oo,oo,oo,oo,oo,oo,oo,oo,oo,oo,oo,oo,oo,oo,oo,oo,oo,oo,oo,oo,oo,oo,oo,oo,oo,oo,oo,oo,oo,oo,oo,oo]∧L=[]) (il.length) [.p (.sl 7 (itE il)),oo,oo,oo,oo,oo,oo,oo,oo,.p (int (il.length:Nat)),.p (int (0:Nat)),oo,oo,oo,oo,oo,oo,oo,oo,oo,oo,oo,oo,oo,oo,oo,oo,oo,oo,oo,oo,oo,oo,oo,oo,oo,oo,oo,oo,oo,oo,oo,oo,oo,oo,oo,oo,oo,oo,oo,oo,oo,oo,oo,oo,oo,oo,oo,oo,oo,oo,oo,oo,oo,oo] [] (by simp only [ZZ,WW,Ze,reduceCtorEq,zd,ze,zb,zf,za,qan];try trivial) (by (simp only [ZZ,WW,Ze,reduceCtorEq,zd,ze,zb,zf,za];try trivial)) ⟨0,by omega,by omega,rfl,rfl⟩ ?_
 rintro n fr L ⟨k,hk,rfl,rfl,rfl⟩
 simp only [qdk,ZZ,WW,Ze,reduceCtorEq,zd,ze,zb,zf,za]
 refine br ?_ ?_
 ·intro h
  have hlt:k < il.length:=by have:=of_decide_eq_true h;omega
  obtain ⟨x,hx⟩:∃ x,il[k]?=some x:=⟨_,List.getElem?_eq_getElem hlt⟩
  simp only [ZZ,WW,Ze,reduceCtorEq,zd,ze,zb,zf,za]
  refine use1 (qqh il hP k x hx) rfl (.inl rfl) ?_
  simp only [ZZ,WW,Ze,reduceCtorEq,zd,ze,zb,zf,za]
  ((repeat' (with_reducible apply And.intro))<;>try ((exact sc_)))
  refine qac (il.length - (k+1)) [.p (.sl 7 (itE il)),oo,oo,oo,oo,oo,oo,oo,oo,.p (int (il.length:Nat)),.p (int ((k+1):Nat)),oo,oo,oo,oo,oo,oo,oo,oo,oo,oo,oo,oo,oo,oo,oo,oo,oo,oo,oo,oo,oo,oo,oo,oo,oo,oo,oo,oo,oo,oo,oo,oo,oo,oo,oo,oo,oo,oo,oo,oo,oo,oo,oo,oo,oo,oo,oo,oo,oo,oo,oo,oo,oo,oo] [] (by omega) (by (simp only [ZZ,WW,Ze,reduceCtorEq,zd,ze,zb,zf,za];try trivial)) (by (simp only [ZZ,WW,Ze,reduceCtorEq,zd,ze,zb,zf,za];try trivial)) ⟨k+1,by omega,rfl,rfl,rfl⟩
 intro h
 clear h
 simp only [ZZ,WW,Ze,reduceCtorEq,zd,ze,zb,zf,za,qan]
 refine qad (fun n fr L=>∃ (k:Nat),k≤il.length∧n=il.length - k∧fr=[.p (.sl 7 (itE il)),oo,oo,oo,oo,oo,oo,oo,oo,oo,oo,oo,oo,oo,oo,oo,oo,oo,.p (int (il.length:Nat)),.p (int (k:Nat)),oo,oo,oo,oo,oo,oo,oo,oo,oo,oo,oo,oo,oo,oo,oo,oo,oo,oo,oo,oo,oo,oo,oo,oo,oo,oo,oo,oo,oo,oo,oo,oo,oo,oo,oo,oo,oo,oo,oo,oo,oo,oo,oo,oo,oo]∧L=[]) (il.length) [.p (.sl 7 (itE il)),oo,oo,oo,oo,oo,oo,oo,oo,oo,oo,oo,oo,oo,oo,oo,oo,oo,.p (int (il.length:Nat)),.p (int (0:Nat)),oo,oo,oo,oo,oo,oo,oo,oo,oo,oo,oo,oo,oo,oo,oo,oo,oo,oo,oo,oo,oo,oo,oo,oo,oo,oo,oo,oo,oo,oo,oo,oo,oo,oo,oo,oo,oo,oo,oo,oo,oo,oo,oo,oo,oo] [] (by simp only [ZZ,WW,Ze,reduceCtorEq,zd,ze,zb,zf,za,qan];try trivial) (by (simp only [ZZ,WW,Ze,reduceCtorEq,zd,ze,zb,zf,za];try trivial)) ⟨0,by omega,by omega,rfl,rfl⟩ ?_
 rintro n fr L ⟨k,hk,rfl,rfl,rfl⟩
 simp only [qdj,ZZ,WW,Ze,reduceCtorEq,zd,ze,zb,zf,za]
 refine br ?_ ?_
 ·intro h
  have hlt:k < il.length:=by have:=of_decide_eq_true h;omega
  obtain ⟨x,hx⟩:∃ x,il[k]?=some x:=⟨_,List.getElem?_eq_getElem hlt⟩
  have hp:=hP.2 k x hx
  have hg:=qdY hx
  have hul:(upF il x).length≤1:=by unfold upF;split<;>simp
  have hul4:decide ((4:Int) < ((upF il x).length:Nat))=false:=by rw [decide_eq_false_iff_not];omega
  simp only [itC] at hg
  simp only [ZZ,WW,Ze,reduceCtorEq,zd,ze,zb,zf,za,hg,qan]
  ((repeat' (with_reducible apply And.intro))<;>try ((exact sc_)))
  refine use1 (qmn il x.2.2.2.2.2.1 (by omega)) rfl (.inl rfl) ?_
  by_cases hq:x.2.2.2.2.2.1=[]
  ·have hq2:decide (x.2.2.2.2.2.1=[])=true:=by simpa using hq
   have hpl:plF il x.2.2.2.2.2.1=-1:=by rw [hq];exact qrq hP
   have n1:decide ((0:Int)≤-1)=false:=rfl
   rw [hpl]
   have n2:(-1:Int).toNat=0:=rfl
   obtain ⟨x0,hx0⟩:∃ x0,il[0]?=some x0:=⟨_,List.getElem?_eq_getElem (by omega)⟩
   have hg0:=qdY hx0
   simp only [itC] at hg0
   simp only [ZZ,WW,Ze,reduceCtorEq,zd,ze,zb,zf,za,hg,hg0,qan,hq2,n1,n2]
   ((repeat' (with_reducible apply And.intro))<;>try ((exact sc_)))
   refine use1 (qh7 il hP k x hx) rfl (.inl rfl) ?_
   simp only [ZZ,WW,Ze,reduceCtorEq,zd,ze,zb,zf,za,qg1,hul4]
   ((repeat' (with_reducible apply And.intro))<;>try ((exact sc_)))
   refine qac (il.length - (k+1)) [.p (.sl 7 (itE il)),oo,oo,oo,oo,oo,oo,oo,oo,oo,oo,oo,oo,oo,oo,oo,oo,oo,.p (int (il.length:Nat)),.p (int ((k+1):Nat)),oo,oo,oo,oo,oo,oo,oo,oo,oo,oo,oo,oo,oo,oo,oo,oo,oo,oo,oo,oo,oo,oo,oo,oo,oo,oo,oo,oo,oo,oo,oo,oo,oo,oo,oo,oo,oo,oo,oo,oo,oo,oo,oo,oo,oo] [] (by omega) (by (simp only [ZZ,WW,Ze,reduceCtorEq,zd,ze,zb,zf,za];try trivial)) (by (simp only [ZZ,WW,Ze,reduceCtorEq,zd,ze,zb,zf,za];try trivial)) ⟨k+1,by omega,rfl,rfl,rfl⟩
  ·have hq2:decide (x.2.2.2.2.2.1=[])=false:=by simpa using hq
   obtain ⟨j,y,hj,hy,hy1,hy2,hpj⟩:=hp.b6.resolve_left hq
   have hpl:plF il x.2.2.2.2.2.1=(j:Nat):=by rw [hpj];exact qiC hP hy
   have hgy:=qdY hy
   simp only [itC] at hgy
   have p1:decide ((0:Int)≤((j:Nat):Int))=true:=by rw [decide_eq_true_eq];omega
   rw [hpl]
   rcases hy2 with h1|h1
   ·have h2:decide (y.2.2.1=1)=true:=by simpa using h1
    simp only [ZZ,WW,Ze,reduceCtorEq,zd,ze,zb,zf,za,hg,hgy,qan,hq2,p1,h2]
    ((repeat' (with_reducible apply And.intro))<;>try ((exact sc_)))
    refine use1 (qh7 il hP k x hx) rfl (.inl rfl) ?_
    simp only [ZZ,WW,Ze,reduceCtorEq,zd,ze,zb,zf,za,qg1,hul4]
    ((repeat' (with_reducible apply And.intro))<;>try ((exact sc_)))
    refine qac (il.length - (k+1)) [.p (.sl 7 (itE il)),oo,oo,oo,oo,oo,oo,oo,oo,oo,oo,oo,oo,oo,oo,oo,oo,oo,.p (int (il.length:Nat)),.p (int ((k+1):Nat)),oo,oo,oo,oo,oo,oo,oo,oo,oo,oo,oo,oo,oo,oo,oo,oo,oo,oo,oo,oo,oo,oo,oo,oo,oo,oo,oo,oo,oo,oo,oo,oo,oo,oo,oo,oo,oo,oo,oo,oo,oo,oo,oo,oo,oo] [] (by omega) (by (simp only [ZZ,WW,Ze,reduceCtorEq,zd,ze,zb,zf,za];try trivial)) (by (simp only [ZZ,WW,Ze,reduceCtorEq,zd,ze,zb,zf,za];try trivial)) ⟨k+1,by omega,rfl,rfl,rfl⟩
   ·have h2:decide (y.2.2.1=1)=false:=by rw [h1];rfl
    have h3:decide (y.2.2.1=3)=true:=by simpa using h1
    simp only [ZZ,WW,Ze,reduceCtorEq,zd,ze,zb,zf,za,hg,hgy,qan,hq2,p1,h2,h3]
    ((repeat' (with_reducible apply And.intro))<;>try ((exact sc_)))
    refine use1 (qh7 il hP k x hx) rfl (.inl rfl) ?_
    simp only [ZZ,WW,Ze,reduceCtorEq,zd,ze,zb,zf,za,qg1,hul4]
    ((repeat' (with_reducible apply And.intro))<;>try ((exact sc_)))
    refine qac (il.length - (k+1)) [.p (.sl 7 (itE il)),oo,oo,oo,oo,oo,oo,oo,oo,oo,oo,oo,oo,oo,oo,oo,oo,oo,.p (int (il.length:Nat)),.p (int ((k+1):Nat)),oo,oo,oo,oo,oo,oo,oo,oo,oo,oo,oo,oo,oo,oo,oo,oo,oo,oo,oo,oo,oo,oo,oo,oo,oo,oo,oo,oo,oo,oo,oo,oo,oo,oo,oo,oo,oo,oo,oo,oo,oo,oo,oo,oo,oo] [] (by omega) (by (simp only [ZZ,WW,Ze,reduceCtorEq,zd,ze,zb,zf,za];try trivial)) (by (simp only [ZZ,WW,Ze,reduceCtorEq,zd,ze,zb,zf,za];try trivial)) ⟨k+1,by omega,rfl,rfl,rfl⟩
 intro h
 simp only [ZZ,WW,Ze,reduceCtorEq,zd,ze,zb,zf,za]
end
theorem qvZ:∀ i j:Fin 26,i < j→(bytesLess (pid j.val) (pid i.val) || decide (pid j.val=pid i.val))=false:=by decide +kernel
theorem qv0:∀ j:Fin 26,(bytesLess (pid j.val) [] || decide (pid j.val=[]))=false:=by decide +kernel
set_option maxRecDepth 100000 in
theorem qm8 (il:List Itm) (hP:qbE il):PCall Tryz.prog E0 71 [.sl 7 (itE il)] (·=int 0):=by
 have h20:=hP.1
 refine qag mixed Tryz.func71 qg7 ?_
 simp only [a0,l0,OS.ao,zj,zo,zi,zn,zl,zm,zp,zd,zh,zk,qd1,qdR,ZZ,WW,Ze,reduceCtorEq,zd,ze,zb,zf,za]
 have h2000:decide (2000 < (il.length:Int))=false:=by rw [decide_eq_false_iff_not];omega
 simp only [ZZ,WW,Ze,reduceCtorEq,zd,ze,zb,zf,za,qan,h2000]
 refine qad (fun n fr L=>∃ (k:Nat) (s:List UInt8),k≤il.length∧n=il.length - k∧((k=0∧s=[])∨∃ q,k=q+1∧s=pid q)∧fr=[.p (.sl 7 (itE il)),oo,oo,.p (.str s),oo,oo,oo,oo,oo,oo,oo,oo,.p (.sl 7 (itE il)),.p (int (il.length:Nat)),.p (int (k:Nat)),oo,oo,oo,oo,oo,oo,oo,oo,oo,oo,oo,oo,oo,oo,oo,oo,oo,oo,oo,oo,oo,oo,oo,oo,oo,oo,oo,oo,oo,oo,oo,oo,oo,oo]∧L=[]) (il.length) [.p (.sl 7 (itE il)),oo,oo,.p (.str []),oo,oo,oo,oo,oo,oo,oo,oo,.p (.sl 7 (itE il)),.p (int (il.length:Nat)),.p (int (0:Nat)),oo,oo,oo,oo,oo,oo,oo,oo,oo,oo,oo,oo,oo,oo,oo,oo,oo,oo,oo,oo,oo,oo,oo,oo,oo,oo,oo,oo,oo,oo,oo,oo,oo,oo] [] (by simp only [ZZ,WW,Ze,reduceCtorEq,zd,ze,zb,zf,za,qan];try trivial) (by (simp only [ZZ,WW,Ze,reduceCtorEq,zd,ze,zb,zf,za];try trivial)) ⟨0,[],by omega,by omega,.inl ⟨rfl,rfl⟩,rfl,rfl⟩ ?_
 rintro n fr L ⟨k,s,hk,rfl,hs,rfl,rfl⟩
 simp only [qcW,ZZ,WW,Ze,reduceCtorEq,zd,ze,zb,zf,za]
 refine br ?_ ?_
 ·intro h
  have hlt:k < il.length:=by have:=of_decide_eq_true h;omega
  obtain ⟨x,hx⟩:∃ x,il[k]?=some x:=⟨_,List.getElem?_eq_getElem hlt⟩
  have hg:=qdY hx
  obtain ⟨hz,hS⟩:=(hP.2 k x hx).right (by omega)
  have hci:=qoi x hS
  rw [hz] at hci
  have hb1:=(hP.2 k x hx).b1
  have hle:(bytesLess x.1 s || decide (x.1=s))=false:=by
   rw [hb1]
   rcases hs with ⟨_,rfl⟩|⟨q,hq,rfl⟩
   ·exact qv0 ⟨k,by omega⟩
   ·exact qvZ ⟨q,by omega⟩ ⟨k,by omega⟩ (by simp [Fin.lt_def];omega)
  simp only [itC] at hg hci
  simp only [ZZ,WW,Ze,reduceCtorEq,zd,ze,zb,zf,za,hg,qan]
  ((repeat' (with_reducible apply And.intro))<;>try ((exact sc_)))
  refine use1 hci rfl (.inl rfl) ?_
  simp only [ZZ,WW,Ze,reduceCtorEq,zd,ze,zb,zf,za,hle]
  refine br (fun h=>by simp at h) ?_
  intro _
  simp only [ZZ,WW,Ze,reduceCtorEq,zd,ze,zb,zf,za,hle]
  ((repeat' (with_reducible apply And.intro))<;>try ((exact sc_)))
  refine qac (il.length - (k+1)) [.p (.sl 7 (itE il)),oo,oo,.p (.str (x.1)),oo,oo,oo,oo,oo,oo,oo,oo,.p (.sl 7 (itE il)),.p (int (il.length:Nat)),.p (int ((k+1):Nat)),oo,oo,oo,oo,oo,oo,oo,oo,oo,oo,oo,oo,oo,oo,oo,oo,oo,oo,oo,oo,oo,oo,oo,oo,oo,oo,oo,oo,oo,oo,oo,oo,oo,oo] [] (by omega) (by (simp only [ZZ,WW,Ze,reduceCtorEq,zd,ze,zb,zf,za];try trivial)) (by (simp only [ZZ,WW,Ze,reduceCtorEq,zd,ze,zb,zf,za];try trivial)) ⟨k+1,x.1,by omega,rfl,.inr ⟨k,rfl,hb1⟩,rfl,rfl⟩
 intro h
 clear h
 simp only [ZZ,WW,Ze,reduceCtorEq,zd,ze,zb,zf,za,qan]
 refine qad (fun n fr L=>∃ (k:Nat),k≤il.length∧n=il.length - k∧fr=[.p (.sl 7 (itE il)),oo,oo,oo,oo,oo,oo,oo,oo,oo,oo,oo,oo,oo,oo,oo,oo,oo,oo,oo,oo,oo,oo,oo,oo,oo,oo,oo,oo,oo,.p (.sl 7 (itE il)),.p (int (il.length:Nat)),.p (int (k:Nat)),oo,oo,oo,oo,oo,oo,oo,oo,oo,oo,oo,oo,oo,oo,oo,oo]∧L=[]) (il.length) [.p (.sl 7 (itE il)),oo,oo,oo,oo,oo,oo,oo,oo,oo,oo,oo,oo,oo,oo,oo,oo,oo,oo,oo,oo,oo,oo,oo,oo,oo,oo,oo,oo,oo,.p (.sl 7 (itE il)),.p (int (il.length:Nat)),.p (int (0:Nat)),oo,oo,oo,oo,oo,oo,oo,oo,oo,oo,oo,oo,oo,oo,oo,oo] [] (by simp only [ZZ,WW,Ze,reduceCtorEq,zd,ze,zb,zf,za,qan];try trivial) (by (simp only [ZZ,WW,Ze,reduceCtorEq,zd,ze,zb,zf,za];try trivial)) ⟨0,by omega,by omega,rfl,rfl⟩ ?_
 rintro n fr L ⟨k,hk,rfl,rfl,rfl⟩
 simp only [qcV,ZZ,WW,Ze,reduceCtorEq,zd,ze,zb,zf,za]
 refine br ?_ ?_
 ·intro h
  have hlt:k < il.length:=by have:=of_decide_eq_true h;omega
  obtain ⟨x,hx⟩:∃ x,il[k]?=some x:=⟨_,List.getElem?_eq_getElem hlt⟩
  have hp:=hP.2 k x hx
  have hg:=qdY hx
  simp only [itC] at hg
  by_cases hq:x.2.2.2.2.2.1=[]
  ·have hq2:decide (x.2.2.2.2.2.1=[])=true:=by simpa using hq
   simp only [ZZ,WW,Ze,reduceCtorEq,zd,ze,zb,zf,za,hg,qan,hq2]
   ((repeat' (with_reducible apply And.intro))<;>try ((exact sc_)))
   refine useG (r:=int 0) (fun h=>by cases h) rfl (.inl rfl) ?_
   simp only [ZZ,WW,Ze,reduceCtorEq,zd,ze,zb,zf,za]
   ((repeat' (with_reducible apply And.intro))<;>try ((exact sc_)))
   refine qac (il.length - (k+1)) [.p (.sl 7 (itE il)),oo,oo,oo,oo,oo,oo,oo,oo,oo,oo,oo,oo,oo,oo,oo,oo,oo,oo,oo,oo,oo,oo,oo,oo,oo,oo,oo,oo,oo,.p (.sl 7 (itE il)),.p (int (il.length:Nat)),.p (int ((k+1):Nat)),oo,oo,oo,oo,oo,oo,oo,oo,oo,oo,oo,oo,oo,oo,oo,oo] [] (by omega) (by (simp only [ZZ,WW,Ze,reduceCtorEq,zd,ze,zb,zf,za];try trivial)) (by (simp only [ZZ,WW,Ze,reduceCtorEq,zd,ze,zb,zf,za];try trivial)) ⟨k+1,by omega,rfl,rfl,rfl⟩
  ·have hq2:decide (x.2.2.2.2.2.1=[])=false:=by simpa using hq
   obtain ⟨j,y,hj,hy,hy1,hy2,hpj⟩:=hp.b6.resolve_left hq
   have hpl:plF il x.2.2.2.2.2.1=(j:Nat):=by rw [hpj];exact qiC hP hy
   have n1:decide (((j:Nat):Int) < 0)=false:=by rw [decide_eq_false_iff_not];omega
   simp only [ZZ,WW,Ze,reduceCtorEq,zd,ze,zb,zf,za,hg,qan,hq2]
   ((repeat' (with_reducible apply And.intro))<;>try ((exact sc_)))
   refine useG (fun _=>qmn il x.2.2.2.2.2.1 (by omega)) rfl (.inl rfl) ?_
   rw [hpl]
   simp only [ZZ,WW,Ze,reduceCtorEq,zd,ze,zb,zf,za,n1]
   ((repeat' (with_reducible apply And.intro))<;>try ((exact sc_)))
   refine qac (il.length - (k+1)) [.p (.sl 7 (itE il)),oo,oo,oo,oo,oo,oo,oo,oo,oo,oo,oo,oo,oo,oo,oo,oo,oo,oo,oo,oo,oo,oo,oo,oo,oo,oo,oo,oo,oo,.p (.sl 7 (itE il)),.p (int (il.length:Nat)),.p (int ((k+1):Nat)),oo,oo,oo,oo,oo,oo,oo,oo,oo,oo,oo,oo,oo,oo,oo,oo] [] (by omega) (by (simp only [ZZ,WW,Ze,reduceCtorEq,zd,ze,zb,zf,za];try trivial)) (by (simp only [ZZ,WW,Ze,reduceCtorEq,zd,ze,zb,zf,za];try trivial)) ⟨k+1,by omega,rfl,rfl,rfl⟩
 intro h
 clear h
 simp only [ZZ,WW,Ze,reduceCtorEq,zd,ze,zb,zf,za]
 refine use1 (qnd il hP) rfl (.inl rfl) ?_
 simp only [ZZ,WW,Ze,reduceCtorEq,zd,ze,zb,zf,za]
def qf1:IC:=(.seq (.reg [qO 3 (.box 9 (.t 1)),qO 4 (.alc 80 [.str [],.str [],.int .i64 0,.str [],.int .i64 0,.str [],.str []]),qO 5 (.mov (.c (.bool false)))]) (.seq (.reg [qM 7 0,qO 8 (.mkf 154 [.t 3]),qO 9 (.call 153 [.t 7,.t 8]),qM 6 9]) (.seq (.seq (.reg [qM 10 6,qO 11 (.bin .lss (.t 10) (.c (.int .i64 0)))]) (.cond (.t 11) (.seq (.reg [qO 12 (.bld [.str [],.str [],.int .i64 0,.str [],.int .i64 0,.str [],.str []] []),⟨none,.st 7 (.t 4) (.t 12),none⟩,qO 5 (.mov (.c (.bool false)))]) .ret) .skip)) (.seq (.reg [qM 13 0,qM 14 6,qO 15 (.ixa 7 (.t 13) (.t 14)),qO 16 (.ld 7 true (.t 15)),⟨none,.st 7 (.t 4) (.t 16),none⟩,qO 5 (.mov (.c (.bool true)))]) .ret))))
def qfN:List IRes:=[.c 4 7 true,.t 5]
theorem qiO:chkF Tryz.prog Tryz.f72 qf1 qfN 17=true:=by kernel_rfl
def qe1:IC:=(.seq (.reg [qO 2 (.box 80 (.t 0)),qO 3 (.mov (.c (.bool false)))]) (.seq (.reg [qO 4 (.fla 0 (.t 2)),qO 5 (.ld 1 false (.t 4)),qO 6 (.ld 1 false (.t 1)),qO 7 (.bin .eql (.t 5) (.t 6)),qM 3 7]) .ret))
def qeQ:List IRes:=[.t 3]
theorem qhY:chkF Tryz.prog Tryz.f154 qe1 qeQ 8=true:=by kernel_rfl
def qcx:IC:=(.seq (.reg [qO 22 (.bin .lss (.t 21) (.t 20))]) (.seq (.cond (.t 22) .skip (.exit 0)) (.seq (.block 1 (.seq (.reg [qM 23 21,qO 24 (.ixa 3 (.t 19) (.t 21)),qO 25 (.ld 3 true (.t 24)),qO 7 (.alc 76 [.str [],.int .i64 0,.nl 2]),qM 6 23,⟨none,.st 3 (.t 7) (.t 25),none⟩]) (.seq (.reg [qM 27 0,qO 28 (.fla 0 (.t 7)),qO 29 (.ld 1 false (.t 28)),qO 30 (.call 72 [.t 27,.t 29]),qM 26 30,qO 31 (.ext 0 (.t 26)),qO 32 (.ext 1 (.t 26)),qO 8 (.alc 80 [.str [],.str [],.int .i64 0,.str [],.int .i64 0,.str [],.str []]),⟨none,.st 7 (.t 8) (.t 31),none⟩,qM 9 32]) (.seq (.block 2 (.seq (.reg [qM 34 9,qO 35 (.not (.t 34)),qM 33 35]) (.cond (.t 33) (.seq (.reg [qO 4 (.mov (.c (.int .i64 8)))]) .ret) (.seq (.drg [qM 37 6,qO 38 (.bin .gtr (.t 37) (.c (.int .i64 0))),qM 39 38,⟨some 40,.fla 0 (.t 7),(some (39,true))⟩,⟨some 41,.ld 1 false (.t 40),(some (39,true))⟩,⟨some 42,.mov (.t 1),(some (39,true))⟩,⟨some 43,.mov (.t 6),(some (39,true))⟩,⟨some 44,.bin .sub (.t 43) (.c (.int .i64 1)),(some (39,true))⟩,⟨some 45,.ixa 3 (.t 42) (.t 44),(some (39,true))⟩,⟨some 46,.fla 0 (.t 45),(some (39,true))⟩,⟨some 47,.ld 1 false (.t 46),(some (39,true))⟩,⟨some 48,.bin .leq (.t 41) (.t 47),(some (39,true))⟩,qO 49 (.pick (.t 39) (.t 48) (.c (.bool false))),qM 36 49]) (.cond (.t 36) (.seq (.reg [qO 4 (.mov (.c (.int .i64 7)))]) .ret) (.seq (.reg [qO 51 (.fla 1 (.t 7)),qO 52 (.ld 1 false (.t 51)),qO 53 (.bin .lss (.t 52) (.c (.int .i64 1))),qM 54 53,⟨some 55,.fla 1 (.t 7),(some (54,false))⟩,⟨some 56,.ld 1 false (.t 55),(some (54,false))⟩,⟨some 57,.bin .gtr (.t 56) (.c (.int .i64 3)),(some (54,false))⟩,qO 58 (.pick (.t 54) (.c (.bool true)) (.t 57)),qM 50 58]) (.cond (.t 50) (.seq (.reg [qO 4 (.mov (.c (.int .i64 4)))]) .ret) (.seq (.reg [qO 60 (.fla 2 (.t 7)),qO 61 (.ld 1 false (.t 60)),qO 62 (.len (.t 61)),qO 63 (.bin .gtr (.t 62) (.c (.int .i64 0))),qM 64 63,⟨some 65,.fla 1 (.t 7),(some (64,true))⟩,⟨some 66,.ld 1 false (.t 65),(some (64,true))⟩,⟨some 67,.bin .neq (.t 66) (.c (.int .i64 1)),(some (64,true))⟩,qO 68 (.pick (.t 64) (.t 67) (.c (.bool false))),qM 59 68]) (.cond (.t 59) (.seq (.reg [qO 4 (.mov (.c (.int .i64 3)))]) .ret) .skip))))))))) (.seq (.reg [qO 69 (.fla 2 (.t 7)),qO 70 (.ld 1 false (.t 69)),qO 71 (.fla 6 (.t 8)),qO 72 (.ld 1 false (.t 71)),qO 73 (.sln (.t 72)),qO 74 (.call 73 [.t 70,.t 73]),qM 10 74]) (.seq (.reg [qM 75 10,qO 76 (.bin .neq (.t 75) (.c (.int .i64 0)))]) (.cond (.t 76) (.seq (.reg [qM 77 10,qM 4 77]) .ret) .skip))))))) (.reg [qO 78 (.bin .add (.t 21) (.c (.int .i64 1))),qM 21 78]))))
def qdq:IC:=(.seq (.reg [qO 4 (.mov (.c (.int .i64 0)))]) (.seq (.seq (.reg [qM 11 0,qO 12 (.call 71 [.t 11]),qM 5 12]) (.seq (.reg [qM 13 5,qO 14 (.bin .neq (.t 13) (.c (.int .i64 0)))]) (.cond (.t 14) (.seq (.reg [qM 15 5,qM 4 15]) .ret) .skip))) (.seq (.seq (.reg [qM 16 1,qO 17 (.len (.t 16)),qO 18 (.bin .gtr (.t 17) (.c (.int .i64 2000)))]) (.cond (.t 18) (.seq (.reg [qO 4 (.mov (.c (.int .i64 2)))]) .ret) .skip)) (.seq (.seq (.reg [qM 19 1,qO 20 (.len (.t 19)),qO 21 (.mov (.c (.int .i64 0)))]) (.block 0 (.loop qcx))) (.seq (.reg [qO 4 (.mov (.c (.int .i64 0)))]) .ret)))))
def qdd:List IRes:=[.t 4]
theorem qgz:chkF Tryz.prog Tryz.f20 qdq qdd 79=true:=by kernel_rfl
def qb0:IC:=(.seq (.reg [qO 10 (.bin .lss (.t 9) (.t 8))]) (.seq (.cond (.t 10) .skip (.exit 0)) (.seq (.block 1 (.seq (.reg [qO 11 (.ixa 3 (.t 7) (.t 9)),qO 12 (.ld 3 true (.t 11)),qO 6 (.alc 76 [.str [],.int .i64 0,.nl 2]),⟨none,.st 3 (.t 6) (.t 12),none⟩]) (.seq (.reg [qO 13 (.fla 0 (.t 6)),qO 14 (.ld 1 false (.t 13)),qM 15 1,qO 16 (.bin .eql (.t 14) (.t 15))]) (.cond (.t 16) (.seq (.reg [qO 17 (.ld 3 true (.t 6)),⟨none,.st 3 (.t 4) (.t 17),none⟩]) .ret) .skip)))) (.reg [qO 18 (.bin .add (.t 9) (.c (.int .i64 1))),qM 9 18]))))
def qcE:IC:=(.seq (.reg [qO 4 (.alc 76 [.str [],.int .i64 0,.nl 2])]) (.seq (.seq (.reg [qM 7 0,qO 8 (.len (.t 7)),qO 9 (.mov (.c (.int .i64 0)))]) (.block 0 (.loop qb0))) (.seq (.reg [qM 19 1,qO 20 (.bld [.str [],.int .i64 0,.nl 2] [(0,1,.t 19),(1,1,.c (.int .i64 3))]),⟨none,.st 3 (.t 4) (.t 20),none⟩]) .ret)))
def qcB:List IRes:=[.c 4 3 true]
theorem qe8:chkF Tryz.prog Tryz.f86 qcE qcB 21=true:=by kernel_rfl
section
variable {E:Envt}
theorem qtF {il:List Itm} (hP:qbE il) (s:List UInt8):(itOf il s).2.2.2.2.2.2.length≤600:=by
 unfold itOf
 cases hg:getI il s with
 |none=>simp [it0]
 |some y=>
  obtain ⟨j,hj,_⟩:=qnP hP hg
  exact (hP.2 j y hj).b7.1
theorem qqv (x:Itm) (s:List UInt8):PCall Tryz.prog E 154 [.agg (itC x),.ptr [.str s]] (·=.bool (decide (x.1=s))):=by
 simp only [itC]
 refine qag mixed Tryz.func154 qhY ?_
 simp only [a0,l0,OS.ao,zj,zo,zi,zn,zl,zm,zp,zd,zh,zk,qe1,qeQ,ZZ,WW,Ze,reduceCtorEq,zd,ze,zb,zf,za]
theorem qi8 (il:List Itm) (hP:qbE il) (s:List UInt8):PCall Tryz.prog E 72 [.sl 7 (itE il),.str s] (·=.tup [.agg (itC (itOf il s)),.bool (getI il s).isSome]):=by
 have h20:=hP.1
 refine qag mixed Tryz.func72 qiO ?_
 simp only [a0,l0,OS.ao,zj,zo,zi,zn,zl,zm,zp,zd,zh,zk,qf1,qfN,ZZ,WW,Ze,reduceCtorEq,zd,ze,zb,zf,za]
 refine use1 (qjw il 154 [.ptr [.str s]] (fun x=>decide (x.1=s)) (by omega) (fun _=>by kernel_rfl) rfl (fun y _=>qqv y s) (fun _=>rfl) (fun _=>rfl)) rfl (.inr rfl) ?_
 cases hg:getI il s with
 |none=>
  rw [qe5 (qr2 hg)]
  simp only [ZZ,WW,Ze,reduceCtorEq,zd,ze,zb,zf,za]
  refine br ?_ (fun h=>by simp at h)
  intro _
  simp only [ZZ,WW,Ze,reduceCtorEq,zd,ze,zb,zf,za]
  rw [itOf,hg]
  rfl
 |some y=>
  obtain ⟨j,hj,rfl⟩:=qnP hP hg
  have hjl:=(List.getElem?_eq_some_iff.1 hj).1
  have e:idxF (fun x:Itm=>decide (x.1=pid j)) il=(j:Nat):=qiC hP hj
  have n1:decide (((j:Nat):Int) < 0)=false:=by rw [decide_eq_false_iff_not];omega
  have hgy:=qdY hj
  simp only [itC] at hgy
  rw [e]
  simp only [ZZ,WW,Ze,reduceCtorEq,zd,ze,zb,zf,za,n1,hgy,qan]
  ((repeat' (with_reducible apply And.intro))<;>try ((exact sc_)))
  rw [itOf,hg]
  rfl
set_option maxRecDepth 100000 in
theorem qle (il:List Itm) (hP:qbE il) (l:List Rul) (hl:l.length≤1000000) (hb:∀ r∈l,r.spans.length≤1000000):PCall Tryz.prog E0 20 [.sl 7 (itE il),.sl 3 (rlE l)] (·=int (rulF il l)):=by
 have h20:=hP.1
 refine qag mixed Tryz.func20 qgz ?_
 simp only [a0,l0,OS.ao,zj,zo,zi,zn,zl,zm,zp,zd,zh,zk,qdq,qdd,ZZ,WW,Ze,reduceCtorEq,zd,ze,zb,zf,za]
 refine use1 (qm8 il hP) rfl (.inl rfl) ?_
 simp only [ZZ,WW,Ze,reduceCtorEq,zd,ze,zb,zf,za]
 refine br (fun h=>by simp at h) ?_
 intro _
 simp only [ZZ,WW,Ze,reduceCtorEq,zd,ze,zb,zf,za,qcl]
 by_cases hL:2000 < l.length
 ·have h1:decide (2000 < (l.length:Int))=true:=by rw [decide_eq_true_eq];omega
  rw [rulF,if_pos hL,h1]
  refine br ?_ (fun h=>by cases h)
  intro _
  simp only [ZZ,WW,Ze,reduceCtorEq,zd,ze,zb,zf,za]
 have h1:decide (2000 < (l.length:Int))=false:=by rw [decide_eq_false_iff_not];omega
 rw [rulF,if_neg hL,h1]
 refine br (fun h=>by cases h) ?_
 intro _
 have hget:=fun {k:Nat} (h:k < l.length)=>qbr _ k _ (qvJ il l h)
 obtain ⟨G,hG⟩:∃ G,(List.range l.length).map (ruE il l)=G:=⟨_,rfl⟩
 have hGl:G.length=l.length:=by rw [← hG];simp
 rw [hG] at hget ⊢
 simp only [ZZ,WW,Ze,reduceCtorEq,zd,ze,zb,zf,za,qcl]
 refine qad (fun n fr L=>∃ (k:Nat),k≤l.length∧n=l.length - k∧(qaf G=qaf (G.drop k))∧fr=[.p (.sl 7 (itE il)),.p (.sl 3 (rlE l)),oo,oo,oo,oo,oo,oo,oo,oo,oo,oo,oo,oo,oo,oo,oo,oo,oo,.p (.sl 3 (rlE l)),.p (int (l.length:Nat)),.p (int (k:Nat)),oo,oo,oo,oo,oo,oo,oo,oo,oo,oo,oo,oo,oo,oo,oo,oo,oo,oo,oo,oo,oo,oo,oo,oo,oo,oo,oo,oo,oo,oo,oo,oo,oo,oo,oo,oo,oo,oo,oo,oo,oo,oo,oo,oo,oo,oo,oo,oo,oo,oo,oo,oo,oo,oo,oo,oo,oo]∧L=[]) (l.length) [.p (.sl 7 (itE il)),.p (.sl 3 (rlE l)),oo,oo,oo,oo,oo,oo,oo,oo,oo,oo,oo,oo,oo,oo,oo,oo,oo,.p (.sl 3 (rlE l)),.p (int (l.length:Nat)),.p (int (0:Nat)),oo,oo,oo,oo,oo,oo,oo,oo,oo,oo,oo,oo,oo,oo,oo,oo,oo,oo,oo,oo,oo,oo,oo,oo,oo,oo,oo,oo,oo,oo,oo,oo,oo,oo,oo,oo,oo,oo,oo,oo,oo,oo,oo,oo,oo,oo,oo,oo,oo,oo,oo,oo,oo,oo,oo,oo,oo] [] (by simp only [ZZ,WW,Ze,reduceCtorEq,zd,ze,zb,zf,za,qcl];try trivial) (by (simp only [ZZ,WW,Ze,reduceCtorEq,zd,ze,zb,zf,za];try trivial)) ⟨0,by omega,by omega,rfl,rfl,rfl⟩ ?_
 rintro n fr L ⟨k,hk,rfl,hF,rfl,rfl⟩
 simp only [qcx,ZZ,WW,Ze,reduceCtorEq,zd,ze,zb,zf,za]
 refine br ?_ ?_
 rotate_left
 ·intro h
  have hge:l.length≤k:=by have:=of_decide_eq_false h;omega
  simp only [ZZ,WW,Ze,reduceCtorEq,zd,ze,zb,zf,za]
  rw [hF,List.drop_eq_nil_of_le (by omega)]
  rfl
 intro h
 have hlt:k < l.length:=by have:=of_decide_eq_true h;omega
 obtain ⟨r,hr⟩:∃ r,l[k]?=some r:=⟨_,List.getElem?_eq_getElem hlt⟩
 have hg:=qkO hr
 have hrb:=hb r (List.mem_of_getElem? hr)
 have hd:=hget hlt
 have hrd:l.getD k rl0=r:=by simp [List.getD,hr]
 have hy:=qtF hP r.id
 have hio:=qi8 (E:=E0) il hP r.id
 have hnn:(getI il r.id).isNone=!(getI il r.id).isSome:=by cases getI il r.id<;>rfl
 have hru:ruE il l k=qaf [qaj (!(getI il r.id).isSome) 8,qaj (decide (0 < k) && (bytesLess r.id (l.getD (k - 1) rl0).id || decide (r.id=(l.getD (k - 1) rl0).id))) 7,qaj (!inE r.what 1 3) 4,qaj (decide (0 < r.spans.length) && !decide (r.what=1)) 3,qgE r.spans ((itOf il r.id).2.2.2.2.2.2.length:Nat)]:=by
  rw [ruE,hrd,hnn]
  rfl
 simp only [itC] at hio
 generalize itOf il r.id=y at *
 generalize (getI il r.id).isSome=b at *
 simp only [ZZ,WW,Ze,reduceCtorEq,zd,ze,zb,zf,za,hg,qcl]
 ((repeat' (with_reducible apply And.intro))<;>try ((exact sc_)))
 refine use1 hio rfl (.inl rfl) ?_
 simp only [ZZ,WW,Ze,reduceCtorEq,zd,ze,zb,zf,za]
 cases b with
 |false=>
  have hz:ruE il l k=8:=hru
  refine br ?_ (fun h=>by cases h)
  intro _
  simp only [ZZ,WW,Ze,reduceCtorEq,zd,ze,zb,zf,za]
  rw [hF,hd,hz]
  rfl
 |true=>
 refine br (fun h=>by cases h) ?_
 intro _
 obtain ⟨u,hu⟩:∃ u,l[k - 1]?=some u:=⟨_,List.getElem?_eq_getElem (by omega)⟩
 have hgu:=qkO hu
 have hud:l.getD (k - 1) rl0=u:=by simp [List.getD,hu]
 have hk1:((k:Int) - 1).toNat=k - 1:=by omega
 have z1:decide ((0:Int) < (k:Int))=decide (0 < k):=decide_eq_decide.2 (by omega)
 have hls:decide ((0:Int) < (r.spans.length:Int))=decide (0 < r.spans.length):=decide_eq_decide.2 (by omega)
 have hwh:(decide (r.what < 1) || decide (3 < r.what))=!inE r.what 1 3:=by
  unfold inE
  rw [Bool.eq_iff_iff]
  simp only [Bool.or_eq_true,decide_eq_true_eq,Bool.not_eq_true',Bool.and_eq_false_iff,decide_eq_false_iff_not]
  omega
 rw [hud] at hru
 refine drg0 ?_
 simp only [ZZ,WW,Ze,reduceCtorEq,zd,ze,zb,zf,za,hk1,hgu,qcl,z1]
 refine ⟨?_,?_,?_,?_⟩
 iterate 3
  ·intro h
   have hp:=of_decide_eq_true h
   (repeat' (first|exact h|apply And.intro))<;>first|omega|exact qar (by omega) (by omega)
 generalize hc:(decide (0 < k) && (bytesLess r.id u.id || decide (r.id=u.id)))=c7 at *
 refine br ?_ ?_
 ·intro h7
  have hz:ruE il l k=7:=by rw [hru,h7];rfl
  simp only [ZZ,WW,Ze,reduceCtorEq,zd,ze,zb,zf,za]
  rw [hF,hd,hz]
  rfl
 intro h7
 rw [h7] at hru
 simp only [ZZ,WW,Ze,reduceCtorEq,zd,ze,zb,zf,za]
 rw [hwh]
 refine ⟨fun h=>by rw [h];rfl,?_⟩
 generalize hc4:(!inE r.what 1 3)=c4 at *
 refine br ?_ ?_
 ·intro h4
  have hz:ruE il l k=4:=by rw [hru,h4];rfl
  simp only [ZZ,WW,Ze,reduceCtorEq,zd,ze,zb,zf,za]
  rw [hF,hd,hz]
  rfl
 intro h4
 rw [h4] at hru
 simp only [ZZ,WW,Ze,reduceCtorEq,zd,ze,zb,zf,za,List.length_map,hls]
 generalize hc3:(decide (0 < r.spans.length) && !decide (r.what=1))=c3 at *
 refine br ?_ ?_
 ·intro h3
  have hz:ruE il l k=3:=by rw [hru,h3];rfl
  simp only [ZZ,WW,Ze,reduceCtorEq,zd,ze,zb,zf,za]
  rw [hF,hd,hz]
  rfl
 intro h3
 rw [h3] at hru
 have hz:ruE il l k=qgE r.spans (y.2.2.2.2.2.2.length:Nat):=by
  rw [hru]
  simp only [qaf,qaj]
  generalize qgE r.spans _=s
  simp
  intro h
  exact h.symm
 simp only [ZZ,WW,Ze,reduceCtorEq,zd,ze,zb,zf,za]
 refine use1 (qm6 r.spans _ (by omega)) rfl (.inl rfl) ?_
 rw [← hz]
 simp only [ZZ,WW,Ze,reduceCtorEq,zd,ze,zb,zf,za]
 refine br ?_ ?_
 ·intro h2
  have h5:¬ ruE il l k=0:=by simpa using h2
  simp only [ZZ,WW,Ze,reduceCtorEq,zd,ze,zb,zf,za]
  rw [hF,hd,if_neg h5]
 ·intro h2
  have h5:ruE il l k=0:=by simpa using h2
  rw [if_pos h5] at hd
  simp only [ZZ,WW,Ze,reduceCtorEq,zd,ze,zb,zf,za]
  ((repeat' (with_reducible apply And.intro))<;>try ((exact sc_)))
  refine qac (l.length - (k+1)) [.p (.sl 7 (itE il)),.p (.sl 3 (rlE l)),oo,oo,oo,oo,oo,oo,oo,oo,oo,oo,oo,oo,oo,oo,oo,oo,oo,.p (.sl 3 (rlE l)),.p (int (l.length:Nat)),.p (int ((k+1):Nat)),oo,oo,oo,oo,oo,oo,oo,oo,oo,oo,oo,oo,oo,oo,oo,oo,oo,oo,oo,oo,oo,oo,oo,oo,oo,oo,oo,oo,oo,oo,oo,oo,oo,oo,oo,oo,oo,oo,oo,oo,oo,oo,oo,oo,oo,oo,oo,oo,oo,oo,oo,oo,oo,oo,oo,oo,oo] [] (by omega) (by (simp only [ZZ,WW,Ze,reduceCtorEq,zd,ze,zb,zf,za];try trivial)) (by (simp only [ZZ,WW,Ze,reduceCtorEq,zd,ze,zb,zf,za];try trivial)) ⟨k+1,by omega,rfl,by rw [hF,hd],rfl,rfl⟩
end
end Go.Proofs.YtehfjlpenlffmaaGreatDoor
