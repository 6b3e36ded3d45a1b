import Derived.Test.YtehfjlpenlffmaaGreatDoorZ9
import Derived.Test.YtehfjlpenlffmaaGreatDoorZ6
import Derived.Test.YtehfjlpenlffmaaGreatDoorZ4
import Derived.Test.YtehfjlpenlffmaaGreatDoorRep
import Derived.Test.YtehfjlpenlffmaaGreatDoorLayTrimRight
import Derived.WalkKit
import Derived.OwnWalk
import Derived.Lib.Builder
import Derived.Laws.Externs
import Derived.Maps.AppendAt
import Derived.Shelf.RegionOpenPlain
import Derived.Lib.Strings
import Derived.Lib.Slices
import Derived.Lib.Walk
import Derived.Lib.MakeNoZero
import Derived.Laws.IdiomCopy
import Derived.Laws.BitsLemmas
import Derived.KernelRfl
set_option linter.unusedVariables false
set_option linter.unusedSimpArgs false
set_option linter.defProp false
namespace Go.Proofs.YtehfjlpenlffmaaGreatDoor
open Nat renaming reduceSub→zp,reduceAdd→zd,reduceMul→ze,reduceLeDiff→zb,reduceLT→zf,reduceEqDiff→za
open List renaming map_cons→zj,map_nil→zo,length_cons→zi,length_nil→zn,cons_append→zl,nil_append→zm,replicate_succ→zh,replicate_zero→zk
open Go.RowKit
def qfU:IC:=(.seq (.reg [qO 6 (.bin .lss (.t 5) (.t 4))]) (.seq (.cond (.t 6) .skip (.exit 0)) (.seq (.block 1 (.reg [qM 7 3,qO 8 (.bin .mul (.t 7) (.c (.int .i64 10))),qM 3 8])) (.reg [qO 9 (.bin .add (.t 5) (.c (.int .i64 1))),qM 5 9]))))
def qhq:IC:=(.seq (.reg [qO 2 (.mov (.c (.int .i64 0)))]) (.seq (.reg [qO 3 (.mov (.c (.int .i64 1)))]) (.seq (.seq (.reg [qM 4 0,qO 5 (.mov (.c (.int .i64 0)))]) (.block 0 (.loop qfU))) (.seq (.reg [qM 10 3,qM 2 10]) .ret))))
def qhm:List IRes:=[.t 2]
theorem qkc:chkF Tryz.prog Tryz.f54 qhq qhm 11=true:=by kernel_rfl
def qe0:IC:=(.seq (.reg [qO 6 (.bin .lss (.t 5) (.t 4))]) (.seq (.cond (.t 6) .skip (.exit 0)) (.seq (.block 1 (.reg [qM 7 3,qO 8 (.bin .mul (.t 7) (.c (.int .i64 10))),qM 3 8])) (.reg [qO 9 (.bin .add (.t 5) (.c (.int .i64 1))),qM 5 9]))))
def qgp:IC:=(.seq (.reg [qO 2 (.mov (.c (.int .i64 0)))]) (.seq (.reg [qO 3 (.mov (.c (.int .i64 1)))]) (.seq (.seq (.reg [qM 4 0,qO 5 (.mov (.c (.int .i64 0)))]) (.block 0 (.loop qe0))) (.seq (.reg [qM 10 3,qM 2 10]) .ret))))
def qgg:List IRes:=[.t 2]
theorem qjo:chkF Tryz.prog Tryz.f61 qgp qgg 11=true:=by kernel_rfl
def qej:IC:=(.seq (.reg [qO 7 (.bin .lss (.t 6) (.t 5))]) (.seq (.cond (.t 7) .skip (.exit 0)) (.seq (.block 1 (.seq (.reg [qM 8 6,qM 3 8]) (.seq (.reg [qM 9 0,qM 10 3,qO 11 (.idx (.t 9) (.t 10)),qO 12 (.bin .lss (.t 11) (.c (.int .u8 65))),qM 13 12,⟨some 14,.mov (.t 0),(some (13,false))⟩,⟨some 15,.mov (.t 3),(some (13,false))⟩,⟨some 16,.idx (.t 14) (.t 15),(some (13,false))⟩,⟨some 17,.bin .gtr (.t 16) (.c (.int .u8 90)),(some (13,false))⟩,qO 18 (.pick (.t 13) (.c (.bool true)) (.t 17))]) (.cond (.t 18) (.seq (.reg [qO 2 (.mov (.c (.bool false)))]) .ret) .skip)))) (.reg [qO 19 (.bin .add (.t 6) (.c (.int .i64 1))),qM 6 19]))))
def qfV:IC:=(.seq (.reg [qO 2 (.mov (.c (.bool false)))]) (.seq (.seq (.reg [qM 4 0,qO 5 (.sln (.t 4)),qO 6 (.mov (.c (.int .i64 0)))]) (.block 0 (.loop qej))) (.seq (.reg [qM 20 0,qO 21 (.sln (.t 20)),qO 22 (.call 51 [.t 21,.c (.int .i64 1),.c (.int .i64 8)]),qM 2 22]) .ret)))
def qfI:List IRes:=[.t 2]
theorem qiJ:chkF Tryz.prog Tryz.f137 qfV qfI 23=true:=by kernel_rfl
def qfs:IC:=(.seq (.reg [qO 4 (.mov (.c (.int .i64 0)))]) (.seq (.reg [qM 5 0,qO 6 (.call 137 [.t 5]),qO 7 (.not (.t 6)),qO 8 (.call 50 [.t 7,.c (.int .i64 3)]),qM 9 1,qO 10 (.call 51 [.t 9,.c (.int .i64 4),.c (.int .i64 9)]),qO 11 (.not (.t 10)),qO 12 (.call 50 [.t 11,.c (.int .i64 1)]),qO 13 (.bsl 1 [.t 8,.t 12]),qO 14 (.call 49 [.t 13]),qM 4 14]) .ret))
def qfj:List IRes:=[.t 4]
theorem qil:chkF Tryz.prog Tryz.f52 qfs qfj 15=true:=by kernel_rfl
def qgj:IC:=(.seq (.reg [qO 6 (.mov (.c (.str [])))]) (.seq (.reg [qM 8 2,qO 9 (.call 188 [.t 8]),qM 7 9]) (.seq (.reg [qM 10 0,qM 11 1,qM 12 7,qO 13 (.sln (.t 12)),qO 14 (.bin .sub (.t 11) (.t 13)),qO 15 (.mx (.c (.int .i64 0)) (.t 14)),qO 16 (.call 44 [.c (.str [48]),.t 15]),qO 17 (.bin .add (.t 10) (.t 16)),qM 18 7,qO 19 (.bin .add (.t 17) (.t 18)),qM 6 19]) .ret)))
def qga:List IRes:=[.t 6]
theorem qji:chkF Tryz.prog Tryz.f148 qgj qga 20=true:=by kernel_rfl
def qgM:IC:=(.seq (.reg [qO 6 (.mov (.c (.str []))),qO 7 (.mov (.c (.int .i64 0)))]) (.seq (.seq (.reg [qM 9 0,qM 10 1,qO 11 (.call 52 [.t 9,.t 10]),qM 8 11]) (.seq (.reg [qM 12 8,qO 13 (.bin .neq (.t 12) (.c (.int .i64 0)))]) (.cond (.t 13) (.seq (.reg [qM 14 8,qO 6 (.mov (.c (.str []))),qM 7 14]) .ret) .skip))) (.seq (.seq (.reg [qM 15 2,qM 16 1,qO 17 (.call 54 [.t 16]),qO 18 (.bin .sub (.t 17) (.c (.int .i64 1))),qO 19 (.call 51 [.t 15,.c (.int .i64 1),.t 18]),qO 20 (.not (.t 19))]) (.cond (.t 20) (.seq (.reg [qO 6 (.mov (.c (.str []))),qO 7 (.mov (.c (.int .i64 1)))]) .ret) .skip)) (.seq (.reg [qM 21 0,qM 22 1,qM 23 2,qO 24 (.call 148 [.t 21,.t 22,.t 23]),qM 6 24,qO 7 (.mov (.c (.int .i64 0)))]) .ret))))
def qgH:List IRes:=[.t 6,.t 7]
theorem qjK:chkF Tryz.prog Tryz.f64 qgM qgH 25=true:=by kernel_rfl
def qe4:IC:=(.seq (.reg [qO 0 (.mov (.c (.bool false)))]) (.seq (.reg [qO 4 (.call 64 [.c (.str [65,66]),.c (.int .i64 4),.c (.int .i64 7)]),qM 3 4,qO 5 (.ext 0 (.t 3)),qO 6 (.ext 1 (.t 3)),qM 1 5,qM 2 6]) (.seq (.reg [qM 7 2,qO 8 (.bin .eql (.t 7) (.c (.int .i64 0))),qM 9 8,⟨some 10,.mov (.t 1),(some (9,true))⟩,⟨some 11,.bin .eql (.t 10) (.c (.str [65,66,48,48,48,55])),(some (9,true))⟩,qO 12 (.pick (.t 9) (.t 11) (.c (.bool false))),qM 0 12]) .ret)))
def qeT:List IRes:=[.t 0]
theorem qh1:chkF Tryz.prog Tryz.f14 qe4 qeT 13=true:=by kernel_rfl
def qeZ:IC:=(.seq (.reg [qO 2 (.mov (.c (.bool false)))]) (.seq (.reg [qM 3 0,qO 4 (.sln (.t 3)),qO 5 (.bin .geq (.t 4) (.c (.int .i64 1))),qM 6 5,⟨some 7,.mov (.t 0),(some (6,true))⟩,⟨some 8,.sln (.t 7),(some (6,true))⟩,⟨some 9,.bin .leq (.t 8) (.c (.int .i64 8)),(some (6,true))⟩,qO 10 (.pick (.t 6) (.t 9) (.c (.bool false))),qM 11 10,⟨some 12,.mov (.t 0),(some (11,true))⟩,⟨some 13,.call 143 [.t 12,.c (.str [65,66,67,68,69,70,71,72,73,74,75,76,77,78,79,80,81,82,83,84,85,86,87,88,89,90])],(some (11,true))⟩,qO 14 (.pick (.t 11) (.t 13) (.c (.bool false))),qM 2 14]) .ret))
def qeP:List IRes:=[.t 2]
theorem qhX:chkF Tryz.prog Tryz.f142 qeZ qeP 15=true:=by kernel_rfl
def qdn:IC:=(.seq (.reg [qO 4 (.mov (.c (.int .i64 0)))]) (.seq (.seq (.reg [qM 5 0,qO 6 (.call 142 [.t 5]),qO 7 (.not (.t 6))]) (.cond (.t 7) (.seq (.reg [qO 4 (.mov (.c (.int .i64 3)))]) .ret) .skip)) (.seq (.seq (.reg [qM 8 1,qO 9 (.bin .lss (.t 8) (.c (.int .i64 4))),qM 10 9,⟨some 11,.mov (.t 1),(some (10,false))⟩,⟨some 12,.bin .gtr (.t 11) (.c (.int .i64 9)),(some (10,false))⟩,qO 13 (.pick (.t 10) (.c (.bool true)) (.t 12))]) (.cond (.t 13) (.seq (.reg [qO 4 (.mov (.c (.int .i64 1)))]) .ret) .skip)) (.seq (.reg [qO 4 (.mov (.c (.int .i64 0)))]) .ret))))
def qdc:List IRes:=[.t 4]
theorem qgy:chkF Tryz.prog Tryz.f56 qdn qdc 14=true:=by kernel_rfl
section
variable {E:Envt}
theorem quJ {i:Nat} (h:i≤9):1≤(10:Int) ^ i∧(10:Int) ^ i≤1000000000:=by
 have:=qkR (d:=(i:Int)) (by omega)
 simpa [powF] using this
theorem qpD (d:Int) (h0:0≤d) (h:d≤9):PCall Tryz.prog E 54 [int d] (·=int (powF d)):=by
 obtain ⟨m,rfl⟩:=Int.eq_ofNat_of_zero_le h0
 refine qag mixed Tryz.func54 qkc ?_
 simp only [a0,l0,OS.ao,zj,zo,zi,zn,zl,zm,zp,zd,zh,zk,qhq,qhm,ZZ,WW,Ze,reduceCtorEq,zd,ze,zb,zf,za]
 refine qad (fun n fr L=>∃ (k:Nat),k≤m∧n=m - k∧fr=[oo,oo,oo,.p (int ((10:Int) ^ k)),.p (int (m:Nat)),.p (int (k:Nat)),oo,oo,oo,oo,oo]∧L=[]) (m) [oo,oo,oo,.p (int ((10:Int) ^ 0)),.p (int (m:Nat)),.p (int (0:Nat)),oo,oo,oo,oo,oo] [] (by (simp only [ZZ,WW,Ze,reduceCtorEq,zd,ze,zb,zf,za];try trivial)) (by (simp only [ZZ,WW,Ze,reduceCtorEq,zd,ze,zb,zf,za];try trivial)) ⟨0,by omega,by omega,rfl,rfl⟩ ?_
 rintro n fr L ⟨k,hk,rfl,rfl,rfl⟩
 simp only [qfU,ZZ,WW,Ze,reduceCtorEq,zd,ze,zb,zf,za]
 refine br ?_ ?_
 ·intro h2
  have hlt:k < m:=by have:=of_decide_eq_true h2;omega
  have hb:=quJ (i:=k) (by omega)
  have hp:(10:Int) ^ (k+1)=(10:Int) ^ k * 10:=by rw [Int.pow_succ]
  simp only [ZZ,WW,Ze,reduceCtorEq,zd,ze,zb,zf,za]
  ((repeat' (with_reducible apply And.intro))<;>try ((exact sc_)))
  refine qac (m - (k+1)) [oo,oo,oo,.p (int ((10:Int) ^ (k+1))),.p (int (m:Nat)),.p (int ((k+1):Nat)),oo,oo,oo,oo,oo] [] (by omega) (by (simp only [ZZ,WW,Ze,reduceCtorEq,zd,ze,zb,zf,za];try trivial)) zE_ ⟨k+1,by omega,rfl,rfl,rfl⟩
 ·intro h2
  have hge:k=m:=by have:=of_decide_eq_false h2;omega
  subst hge
  simp only [ZZ,WW,Ze,reduceCtorEq,zd,ze,zb,zf,za]
  rfl
theorem qkL (d:Int) (h0:0≤d) (h:d≤9):PCall Tryz.prog E 61 [int d] (·=int (powF d)):=by
 obtain ⟨m,rfl⟩:=Int.eq_ofNat_of_zero_le h0
 refine qag mixed Tryz.func61 qjo ?_
 simp only [a0,l0,OS.ao,zj,zo,zi,zn,zl,zm,zp,zd,zh,zk,qgp,qgg,ZZ,WW,Ze,reduceCtorEq,zd,ze,zb,zf,za]
 refine qad (fun n fr L=>∃ (k:Nat),k≤m∧n=m - k∧fr=[oo,oo,oo,.p (int ((10:Int) ^ k)),.p (int (m:Nat)),.p (int (k:Nat)),oo,oo,oo,oo,oo]∧L=[]) (m) [oo,oo,oo,.p (int ((10:Int) ^ 0)),.p (int (m:Nat)),.p (int (0:Nat)),oo,oo,oo,oo,oo] [] (by (simp only [ZZ,WW,Ze,reduceCtorEq,zd,ze,zb,zf,za];try trivial)) (by (simp only [ZZ,WW,Ze,reduceCtorEq,zd,ze,zb,zf,za];try trivial)) ⟨0,by omega,by omega,rfl,rfl⟩ ?_
 rintro n fr L ⟨k,hk,rfl,rfl,rfl⟩
 simp only [qe0,ZZ,WW,Ze,reduceCtorEq,zd,ze,zb,zf,za]
 refine br ?_ ?_
 ·intro h2
  have hlt:k < m:=by have:=of_decide_eq_true h2;omega
  have hb:=quJ (i:=k) (by omega)
  have hp:(10:Int) ^ (k+1)=(10:Int) ^ k * 10:=by rw [Int.pow_succ]
  simp only [ZZ,WW,Ze,reduceCtorEq,zd,ze,zb,zf,za]
  ((repeat' (with_reducible apply And.intro))<;>try ((exact sc_)))
  refine qac (m - (k+1)) [oo,oo,oo,.p (int ((10:Int) ^ (k+1))),.p (int (m:Nat)),.p (int ((k+1):Nat)),oo,oo,oo,oo,oo] [] (by omega) (by (simp only [ZZ,WW,Ze,reduceCtorEq,zd,ze,zb,zf,za];try trivial)) zE_ ⟨k+1,by omega,rfl,rfl,rfl⟩
 ·intro h2
  have hge:k=m:=by have:=of_decide_eq_false h2;omega
  subst hge
  simp only [ZZ,WW,Ze,reduceCtorEq,zd,ze,zb,zf,za]
  rfl
theorem qoP (s:List UInt8) (hs:s.length≤1000000000):PCall Tryz.prog E 137 [.str s] (·=.bool (qiw s)):=by
 refine qag mixed Tryz.func137 qiJ ?_
 simp only [a0,l0,OS.ao,zj,zo,zi,zn,zl,zm,zp,zd,zh,zk,qfV,qfI,ZZ,WW,Ze,reduceCtorEq,zd,ze,zb,zf,za]
 refine qad (fun n fr L=>∃ (k:Nat),k≤s.length∧n=s.length - k∧((s.take k).all (fun c=>!qjU c)=true)∧fr=[.p (.str s),oo,oo,oo,oo,.p (int (s.length:Nat)),.p (int (k:Nat)),oo,oo,oo,oo,oo,oo,oo,oo,oo,oo,oo,oo,oo,oo,oo,oo]∧L=[]) (s.length) [.p (.str s),oo,oo,oo,oo,.p (int (s.length:Nat)),.p (int (0:Nat)),oo,oo,oo,oo,oo,oo,oo,oo,oo,oo,oo,oo,oo,oo,oo,oo] [] (by (simp only [ZZ,WW,Ze,reduceCtorEq,zd,ze,zb,zf,za];try trivial)) (by (simp only [ZZ,WW,Ze,reduceCtorEq,zd,ze,zb,zf,za];try trivial)) ⟨0,by omega,by omega,by simp,rfl,rfl⟩ ?_
 rintro n fr L ⟨k,hk,rfl,hall,rfl,rfl⟩
 simp only [qej,ZZ,WW,Ze,reduceCtorEq,zd,ze,zb,zf,za]
 refine br ?_ ?_
 ·intro h2
  have hlt:k < s.length:=by have:=of_decide_eq_true h2;omega
  have hx:s[k]?=some (s.getD k 0):=by rw [List.getElem?_eq_getElem hlt];simp [List.getD,hlt]
  have hnx:=qjv (p:=fun c=>!qjU c) hx
  simp only [ZZ,WW,Ze,reduceCtorEq,zd,ze,zb,zf,za]
  ((repeat' (with_reducible apply And.intro))<;>try ((exact sc_)))
  refine br ?_ ?_
  ·intro hb
   have hf:s.all (fun c=>!qjU c)=false:=by
    rw [List.all_eq_false]
    refine ⟨s.getD k 0,List.mem_of_getElem? hx,?_⟩
    rw [show qjU (s.getD k 0)=true from hb]
    simp
   simp only [ZZ,WW,Ze,reduceCtorEq,zd,ze,zb,zf,za]
   rw [qiw,hf,Bool.false_and]
  ·intro hb
   simp only [ZZ,WW,Ze,reduceCtorEq,zd,ze,zb,zf,za]
   ((repeat' (with_reducible apply And.intro))<;>try ((exact sc_)))
   refine qac (s.length - (k+1)) [.p (.str s),oo,oo,oo,oo,.p (int (s.length:Nat)),.p (int ((k+1):Nat)),oo,oo,oo,oo,oo,oo,oo,oo,oo,oo,oo,oo,oo,oo,oo,oo] [] (by omega) (by (simp only [ZZ,WW,Ze,reduceCtorEq,zd,ze,zb,zf,za];try trivial)) (by (simp only [ZZ,WW,Ze,reduceCtorEq,zd,ze,zb,zf,za];try trivial)) ⟨k+1,by omega,rfl,by rw [hnx,hall,show qjU (s.getD k 0)=false from hb];rfl,rfl,rfl⟩
 ·intro h2
  have hge:k=s.length:=by have:=of_decide_eq_false h2;omega
  subst hge
  rw [List.take_length] at hall
  simp only [ZZ,WW,Ze,reduceCtorEq,zd,ze,zb,zf,za]
  refine use1 (qqK s.length 1 8) rfl (.inl rfl) ?_
  simp only [ZZ,WW,Ze,reduceCtorEq,zd,ze,zb,zf,za]
  rw [qiw,hall,Bool.true_and]
theorem qjW (p:List UInt8) (d:Int) (hs:p.length≤1000000000):PCall Tryz.prog E 52 [.str p,int d] (·=int (qe6 p d)):=by
 refine qag mixed Tryz.func52 qil ?_
 simp only [a0,l0,OS.ao,zj,zo,zi,zn,zl,zm,zp,zd,zh,zk,qfs,qfj,ZZ,WW,Ze,reduceCtorEq,zd,ze,zb,zf,za]
 refine use1 (qoP p hs) rfl (.inl rfl) ?_
 simp only [ZZ,WW,Ze,reduceCtorEq,zd,ze,zb,zf,za]
 refine use1 (qfh _ 3) rfl (.inl rfl) ?_
 simp only [ZZ,WW,Ze,reduceCtorEq,zd,ze,zb,zf,za]
 refine use1 (qqK d 4 9) rfl (.inl rfl) ?_
 simp only [ZZ,WW,Ze,reduceCtorEq,zd,ze,zb,zf,za]
 refine use1 (qfh _ 1) rfl (.inl rfl) ?_
 simp only [ZZ,WW,Ze,reduceCtorEq,zd,ze,zb,zf,za]
 refine use1 (qij [qaj (!qiw p) 3,qaj (!inE d 4 9) 1] (by simp)) rfl (.inl rfl) ?_
 simp only [ZZ,WW,Ze,reduceCtorEq,zd,ze,zb,zf,za]
 rfl
end
theorem qtE {n:Int} (h0:0≤n) (h1:n≤100000000000):(Lib.itoa n).length≤20:=by
 rw [quR (by omega) h1]
 have:∀ f u,(dd f u).length≤f:=by
  intro f
  induction f with
  |zero=>intro u;simp [dd]
  |succ f ih=>
   intro u
   rw [dd]
   split
   ·simp
   ·have:=ih (u / 10);simp;omega
 unfold itD
 split
 ·omega
 ·have:=this 12 n.toNat;omega
theorem qoD {E:Envt} (s:List UInt8) (hs:s.length≤1000000000):PCall Tryz.prog E 142 [.str s] (·=.bool (qtl s)):=by
 refine qag mixed Tryz.func142 qhX ?_
 simp only [a0,l0,OS.ao,zj,zo,zi,zn,zl,zm,zp,zd,zh,zk,qeZ,qeP,ZZ,WW,Ze,reduceCtorEq,zd,ze,zb,zf,za]
 ((repeat' (with_reducible apply And.intro))<;>try ((exact sc_)))
 refine useG (fun _=>qoL s capL hs (by decide) (by decide)) rfl (.inl rfl) ?_
 simp only [ZZ,WW,Ze,reduceCtorEq,zd,ze,zb,zf,za]
 ((repeat' (with_reducible apply And.intro))<;>try ((exact sc_)))
theorem qhP {E:Envt} (p:List UInt8) (d:Int) (hs:p.length≤1000000000):PCall Tryz.prog E 56 [.str p,int d] (·=int (nfF p d)):=by
 refine qag mixed Tryz.func56 qgy ?_
 simp only [a0,l0,OS.ao,zj,zo,zi,zn,zl,zm,zp,zd,zh,zk,qdn,qdc,ZZ,WW,Ze,reduceCtorEq,zd,ze,zb,zf,za]
 refine use1 (qoD p hs) rfl (.inl rfl) ?_
 simp only [ZZ,WW,Ze,reduceCtorEq,zd,ze,zb,zf,za]
 unfold nfF
 refine br ?_ ?_
 ·intro h
  simp only [ZZ,WW,Ze,reduceCtorEq,zd,ze,zb,zf,za]
  rw [if_neg (by simpa using h)]
 ·intro h
  simp only [ZZ,WW,Ze,reduceCtorEq,zd,ze,zb,zf,za]
  rw [if_pos (by simpa using h)]
  ((repeat' (with_reducible apply And.intro))<;>try ((exact sc_)))
  refine br ?_ ?_
  ·intro h2
   simp only [ZZ,WW,Ze,reduceCtorEq,zd,ze,zb,zf,za]
   rw [if_pos h2]
  ·intro h2
   simp only [ZZ,WW,Ze,reduceCtorEq,zd,ze,zb,zf,za]
   rw [if_neg (by rw [h2];simp)]
section
variable {E:Envt}
end
def qcg:IC:=(.seq (.reg [qO 2 (.nilr 9 1)]) (.seq (.seq (.reg [qM 3 0,qO 4 (.isn (.t 3))]) (.cond (.t 4) (.seq (.reg [qO 2 (.nilr 9 1)]) .ret) .skip)) (.seq (.reg [qO 5 (.bsr 9 1 []),qM 6 0,qO 7 (.app 9 1 16 (.t 5) (.t 6)),qM 2 7]) .ret)))
def qce:List IRes:=[.t 2]
theorem qff:chkF Tryz.prog Tryz.f48 qcg qce 8=true:=by kernel_rfl
section
variable {E:Envt}
abbrev qyz:Nat:=9
theorem qfF (s:List UInt8) (n:Nat) (hn:n≤1000000) (hs:s.length≤1000000):PCall Tryz.prog E 44 [.str s,int n] (·=.str (Lib.repeatL s n)):=
 qbW rfl rfl fun w _=>(qpC ⟨s.toArray⟩ n w (by omega) (by rw [show (⟨s.toArray⟩:ByteArray).size=s.length from by simp [ByteArray.size]];exact Nat.le_trans (Nat.mul_le_mul hs hn) (by decide))).mono fun e w' h=>⟨h.1,qgP h.2⟩
theorem qsO (es:List (List PV)) (hn:es.length≤1000000):FCall Tryz.prog E 48 [.sl 1 es] qyz 1 (·=es):=by
 unfold FCall
 refine qje mixed Tryz.func48 qff ?_
 simp only [a0,l0,OS.ao,zj,zo,zi,zn,zl,zm,zp,zd,zh,zk,qcg,qce,ZZ,WW,Ze,reduceCtorEq,zd,ze,zb,zf,za]
 intro b hb
 refine br ?_ ?_
 ·intro h
  have:=hb h
  simp only [ZZ,WW,Ze,reduceCtorEq,zd,ze,zb,zf,za]
  exact qln 2 [] rfl rfl this.symm
 ·intro h
  simp only [ZZ,WW,Ze,reduceCtorEq,zd,ze,zb,zf,za]
  exact ⟨by omega,qln 5 es rfl rfl rfl⟩
end
end Go.Proofs.YtehfjlpenlffmaaGreatDoor
namespace Go.Proofs.YtehfjlpenlffmaaGreatDoor
open Nat renaming reduceAdd→zd,reduceMul→ze,reduceLeDiff→zb,reduceEqDiff→za
section
variable {E:Envt}
abbrev Par:=List UInt8×Int×Int
def t1:List UInt8:=[108,101,103,97,108,32,97,100,118,105,99,101]
def t2:List UInt8:=[112,114,105,118,105,108,101,103,101,100,32,97,110,100,32,99,111,110,102,105,100,101,110,116,105,97,108]
def p0:List Par:=[([97,105,100,64,111,117,114,115,46,100,101],1,3),([97,110,110,64,102,105,114,109,46,100,101],1,2),([108,97,119,64,111,117,114,115,46,100,101],1,1)]
def d0 (y:Int):List Par:=[([102,105,114,109,46,100,101],1,4),([120,46,102,105,114,109,46,100,101],y,2),([111,117,114,115,46,100,101],1,4)]
end
section
variable {E:Envt}
end
section
variable {E:Envt}
end
section
variable {E:Envt}
end
def qfT:IC:=(.seq (.reg [qO 4 (.mov (.c (.bool false)))]) (.seq (.reg [qM 5 0,qM 6 1,qO 7 (.call 222 [.t 5,.t 6]),qO 8 (.bin .geq (.t 7) (.c (.int .i64 0))),qM 4 8]) .ret))
def qfH:List IRes:=[.t 4]
theorem qiI:chkF Tryz.prog Tryz.f156 qfT qfH 9=true:=by kernel_rfl
section
theorem qlg (s t:List UInt8) (hs:s.length≤1000000000):PCall Tryz.prog E0 156 [.str s,.str t] (·=.bool (decide (0≤Lib.index s t))):=by
 refine qag mixed Tryz.func156 qiI ?_
 simp only [a0,l0,OS.ao,List.map_cons,List.map_nil,List.length_cons,List.length_nil,List.cons_append,List.nil_append,Nat.reduceSub,zd,List.replicate_succ,List.replicate_zero,qfT,qfH,ZZ,WW,Ze,reduceCtorEq,zd,ze,zb,Nat.reduceLT,za]
 refine use1 (quw s t hs) rfl (.inl rfl) ?_
 simp only [ZZ,WW,Ze,reduceCtorEq,zd,ze,zb,Nat.reduceLT,za]
end
end Go.Proofs.YtehfjlpenlffmaaGreatDoor
namespace Go.Proofs.YtehfjlpenlffmaaGreatDoor
open List renaming nil_append→zm,cons_append→zl
open Go.RowKit
section
variable {E:Envt}
def qo1 (s p:List UInt8):List UInt8×Bool:=if sufE s p=true then (s.take (s.length - p.length),true) else (s,false)
end
def qiu (s:List UInt8):Bool:=((visE s false && !Lib.hasPrefix s [32]) && !sufE s [32]) && !decide (0≤Lib.index s [32,32])
theorem qpS {c:UInt8} {a b a' b':List UInt8} (h:a++c :: b=a'++c :: b') (h1:c∉a) (h2:c∉a'):a=a'∧b=b':=by
 induction a generalizing a' with
 |nil=>
  cases a' with
  |nil=>simpa using h
  |cons x a'=>simp only [zm,zl,List.cons.injEq] at h;exact absurd (by rw [h.1];simp) h2
 |cons y a ih=>
  cases a' with
  |nil=>simp only [zm,zl,List.cons.injEq] at h;exact absurd (by rw [← h.1];simp) h1
  |cons x a'=>
   simp only [zl,List.cons.injEq] at h
   obtain ⟨e1,e2⟩:=ih h.2 (fun hm=>h1 (by simp [hm])) (fun hm=>h2 (by simp [hm]))
   exact ⟨by rw [h.1,e1],e2⟩
theorem hp1 (c:UInt8) (r:List UInt8):Lib.hasPrefix r [c]=true↔∃ t,r=c :: t:=by
 unfold Lib.hasPrefix
 rw [List.isPrefixOf_iff_prefix]
 constructor
 ·rintro ⟨t,rfl⟩;exact ⟨t,rfl⟩
 ·rintro ⟨t,rfl⟩;exact ⟨t,rfl⟩
end Go.Proofs.YtehfjlpenlffmaaGreatDoor
