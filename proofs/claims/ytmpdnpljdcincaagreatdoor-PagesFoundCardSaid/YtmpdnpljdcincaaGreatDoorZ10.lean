import Derived.Test.YtmpdnpljdcincaaGreatDoorZ9
import Derived.Test.YtmpdnpljdcincaaGreatDoorZ6
import Derived.Test.YtmpdnpljdcincaaGreatDoorZ4
import Derived.Test.YtmpdnpljdcincaaGreatDoorRep
import Derived.WalkKit
import Derived.OwnWalk
import Derived.Lib.Builder
import Derived.Laws.Externs
import Derived.Maps.AppendAt
import Derived.Shelf.RegionOpenPlain
import Derived.Lib.Strings
import Derived.Lib.Slices
import Derived.Lib.Walk
import Derived.Lib.MakeNoZero
import Derived.Laws.IdiomCopy
import Derived.Laws.BitsLemmas
import Derived.KernelRfl
set_option linter.unusedVariables false
set_option linter.unusedSimpArgs false
set_option linter.defProp false
namespace Go.Proofs.YtmpdnpljdcincaaGreatDoor
open Nat renaming reduceAdd→zd,reduceEqDiff→za,reduceLT→zf,reduceLeDiff→zb,reduceMul→ze,reduceSub→zx
open List renaming cons_append→zp,getD→zD,getElem?_eq_getElem→zh,length_cons→zj,length_nil→zr,map_cons→zo,map_nil→zw,mem_of_getElem?→zy,nil_append→zq,replicate_succ→zi,replicate_zero→zm
open Bool renaming and_eq_true→zl
open Int renaming eq_ofNat_of_zero_le→yw,toNat_natCast→yf
open Go.RowKit
def qgL:IC:=(sR [qT 6 .lss 5 4] (.seq (.cond (.t 6) .skip (.exit 0)) (.seq (.block 1 (.reg [qM 7 3,qB 8 .mul 7 (cI 10),qM 3 8])) (.reg [qB 9 .add 5 (cI 1),qM 5 9]))))
def qiN:IC:=(sR [qO 2 (.mov (cI 0))] (sR [qO 3 (.mov (cI 1))] (.seq (sR [qM 4 0,qO 5 (.mov (cI 0))] (.block 0 (.loop qgL))) (sR [qM 10 3,qM 2 10] .ret))))
def qiF:List IRes:=[.t 2]
theorem ql8:chkF Tryz.prog Tryz.f115 qiN qiF 11=true:=by kernel_rfl
def qfG:IC:=(sR [qT 6 .lss 5 4] (.seq (.cond (.t 6) .skip (.exit 0)) (.seq (.block 1 (.reg [qM 7 3,qB 8 .mul 7 (cI 10),qM 3 8])) (.reg [qB 9 .add 5 (cI 1),qM 5 9]))))
def qhq:IC:=(sR [qO 2 (.mov (cI 0))] (sR [qO 3 (.mov (cI 1))] (.seq (sR [qM 4 0,qO 5 (.mov (cI 0))] (.block 0 (.loop qfG))) (sR [qM 10 3,qM 2 10] .ret))))
def qhd:List IRes:=[.t 2]
theorem qlf:chkF Tryz.prog Tryz.f77 qhq qhd 11=true:=by kernel_rfl
def qeR:IC:=(sR [qT 7 .lss 6 5] (.seq (.cond (.t 7) .skip (.exit 0)) (.seq (.block 1 (sR [qM 8 6,qM 3 8] (sR [qM 9 0,qM 10 3,qO 11 (.idx (.t 9) (.t 10)),qB 12 .lss 11 (.c (.int .u8 65)),qM 13 12,⟨some 14,.mov (.t 0),(some (13,false))⟩,⟨some 15,.mov (.t 3),(some (13,false))⟩,⟨some 16,.idx (.t 14) (.t 15),(some (13,false))⟩,⟨some 17,.bin .gtr (.t 16) (.c (.int .u8 90)),(some (13,false))⟩,qO 18 (.pick (.t 13) (.c (.bool true)) (.t 17))] (.cond (.t 18) (sR [qO 2 (.mov (.c (.bool false)))] .ret) .skip)))) (.reg [qB 19 .add 6 (cI 1),qM 6 19]))))
def qgN:IC:=(sR [qO 2 (.mov (.c (.bool false)))] (.seq (sR [qM 4 0,qO 5 (.sln (.t 4)),qO 6 (.mov (cI 0))] (.block 0 (.loop qeR))) (sR [qM 20 0,qO 21 (.sln (.t 20)),qO 22 (.call 71 [.t 21,.c (.int .i64 1),.c (.int .i64 8)]),qM 2 22] .ret)))
def qgu:List IRes:=[.t 2]
theorem qkr:chkF Tryz.prog Tryz.f81 qgN qgu 23=true:=by kernel_rfl
def qgd:IC:=(sR [qO 4 (.mov (cI 0))] (sR [qM 5 0,qO 6 (.call 81 [.t 5]),qO 7 (.not (.t 6)),qO 8 (.call 51 [.t 7,.c (.int .i64 3)]),qM 9 1,qO 10 (.call 71 [.t 9,.c (.int .i64 4),.c (.int .i64 9)]),qO 11 (.not (.t 10)),qO 12 (.call 51 [.t 11,.c (.int .i64 1)]),qO 13 (.bsl 1 [.t 8,.t 12]),qO 14 (.call 49 [.t 13]),qM 4 14] .ret))
def qf2:List IRes:=[.t 4]
theorem qj2:chkF Tryz.prog Tryz.f114 qgd qf2 15=true:=by kernel_rfl
def qhi:IC:=(sR [qO 6 (.mov (.c (.str [])))] (sR [qM 8 2,qO 9 (.call 100 [.t 8]),qM 7 9] (sR [qM 10 0,qM 11 1,qM 12 7,qO 13 (.sln (.t 12)),qT 14 .sub 11 13,qO 15 (.mx (cI 0) (.t 14)),qO 16 (.call 46 [.c (.str [48]),.t 15]),qT 17 .add 10 16,qM 18 7,qT 19 .add 17 18,qM 6 19] .ret)))
def qg6:List IRes:=[.t 6]
theorem qk8:chkF Tryz.prog Tryz.f66 qhi qg6 20=true:=by kernel_rfl
def qhY:IC:=(sR [qO 6 (.mov (.c (.str []))),qO 7 (.mov (cI 0))] (.seq (sR [qM 9 0,qM 10 1,qO 11 (.call 114 [.t 9,.t 10]),qM 8 11] (sR [qM 12 8,qB 13 .neq 12 (cI 0)] (.cond (.t 13) (sR [qM 14 8,qO 6 (.mov (.c (.str []))),qM 7 14] .ret) .skip))) (.seq (sR [qM 15 2,qM 16 1,qO 17 (.call 115 [.t 16]),qB 18 .sub 17 (cI 1),qO 19 (.call 71 [.t 15,.c (.int .i64 1),.t 18]),qO 20 (.not (.t 19))] (.cond (.t 20) (sR [qO 6 (.mov (.c (.str []))),qO 7 (.mov (cI 1))] .ret) .skip)) (sR [qM 21 0,qM 22 1,qM 23 2,qO 24 (.call 66 [.t 21,.t 22,.t 23]),qM 6 24,qO 7 (.mov (cI 0))] .ret))))
def qhQ:List IRes:=[.t 6,.t 7]
theorem qlG:chkF Tryz.prog Tryz.f69 qhY qhQ 25=true:=by kernel_rfl
def qdZ:IC:=(.seq (sR [qM 24 7,qM 25 0,qO 26 (.sln (.t 25)),qT 27 .lss 24 26] (.cond (.t 27) .skip (.exit 0))) (.seq (.block 1 (.seq (sR [qM 30 0,qM 31 7,qO 32 (.idx (.t 30) (.t 31)),qO 33 (.call 126 [.t 32]),qO 34 (.not (.t 33))] (.cond (.t 34) (sR [qO 2 (.mov (.c (.str []))),qO 3 (.mov (cI 0)),qO 4 (.mov (cI 0)),qO 5 (.mov (cI 9))] .ret) .skip)) (.reg [qM 35 4,qO 36 (.bin .mul (cI 10) (.t 35)),qM 37 0,qM 38 7,qO 39 (.idx (.t 37) (.t 38)),qB 40 .sub 39 (.c (.int .u8 48)),qO 41 (.cvi .i64 (.t 40)),qT 42 .add 36 41,qM 4 42]))) (.reg [qM 28 7,qB 29 .add 28 (cI 1),qM 7 29])))
def qfB:IC:=(sR [qO 2 (.mov (.c (.str []))),qO 3 (.mov (cI 0)),qO 4 (.mov (cI 0)),qO 5 (.mov (cI 0))] (sR [qM 8 0,qO 9 (.call 141 [.t 8,.c (.str [48,49,50,51,52,53,54,55,56,57])]),qM 6 9] (.seq (sR [qM 10 6,qB 11 .lss 10 (cI 0),qM 12 11,⟨some 13,.mov (.t 0),(some (12,false))⟩,⟨some 14,.mov (.t 6),(some (12,false))⟩,⟨some 15,.ssl (.t 13) none (some (.t 14)),(some (12,false))⟩,⟨some 16,.mov (.t 0),(some (12,false))⟩,⟨some 17,.sln (.t 16),(some (12,false))⟩,⟨some 18,.mov (.t 6),(some (12,false))⟩,⟨some 19,.bin .sub (.t 17) (.t 18),(some (12,false))⟩,⟨some 20,.call 114 [.t 15,.t 19],(some (12,false))⟩,⟨some 21,.bin .neq (.t 20) (cI 0),(some (12,false))⟩,qO 22 (.pick (.t 12) (.c (.bool true)) (.t 21))] (.cond (.t 22) (sR [qO 2 (.mov (.c (.str []))),qO 3 (.mov (cI 0)),qO 4 (.mov (cI 0)),qO 5 (.mov (cI 9))] .ret) .skip)) (.seq (sR [qM 23 6,qM 7 23] (.block 0 (.loop qdZ))) (.seq (sR [qM 43 4,qB 44 .eql 43 (cI 0)] (.cond (.t 44) (sR [qO 2 (.mov (.c (.str []))),qO 3 (.mov (cI 0)),qO 4 (.mov (cI 0)),qO 5 (.mov (cI 9))] .ret) .skip)) (sR [qM 45 0,qM 46 6,qO 47 (.ssl (.t 45) none (some (.t 46))),qM 48 0,qO 49 (.sln (.t 48)),qM 50 6,qT 51 .sub 49 50,qM 52 4,qM 2 47,qM 3 51,qM 4 52,qO 5 (.mov (cI 0))] .ret))))))
def qfp:List IRes:=[.t 2,.t 3,.t 4,.t 5]
theorem qjv:chkF Tryz.prog Tryz.f98 qfB qfp 53=true:=by kernel_rfl
def qfN:IC:=(sR [qO 0 (.mov (.c (.bool false)))] (sR [qO 4 (.call 69 [.c (.str [65,66]),.c (.int .i64 4),.c (.int .i64 7)]),qM 3 4,qO 5 (.ext 0 (.t 3)),qO 6 (.ext 1 (.t 3)),qM 1 5,qM 2 6] (sR [qM 7 2,qB 8 .eql 7 (cI 0),qM 9 8,⟨some 10,.mov (.t 1),(some (9,true))⟩,⟨some 11,.bin .eql (.t 10) (.c (.str [65,66,48,48,48,55])),(some (9,true))⟩,qO 12 (.pick (.t 9) (.t 11) (.c (.bool false))),qM 0 12] .ret)))
def qfy:List IRes:=[.t 0]
theorem qjE:chkF Tryz.prog Tryz.f16 qfN qfy 13=true:=by kernel_rfl
def qfF:IC:=(sR [qO 2 (.mov (.c (.bool false)))] (sR [qM 3 0,qO 4 (.sln (.t 3)),qB 5 .geq 4 (cI 1),qM 6 5,⟨some 7,.mov (.t 0),(some (6,true))⟩,⟨some 8,.sln (.t 7),(some (6,true))⟩,⟨some 9,.bin .leq (.t 8) (cI 8),(some (6,true))⟩,qO 10 (.pick (.t 6) (.t 9) (.c (.bool false))),qM 11 10,⟨some 12,.mov (.t 0),(some (11,true))⟩,⟨some 13,.call 127 [.t 12,.c (.str [65,66,67,68,69,70,71,72,73,74,75,76,77,78,79,80,81,82,83,84,85,86,87,88,89,90])],(some (11,true))⟩,qO 14 (.pick (.t 11) (.t 13) (.c (.bool false))),qM 2 14] .ret))
def qfs:List IRes:=[.t 2]
theorem qjy:chkF Tryz.prog Tryz.f128 qfF qfs 15=true:=by kernel_rfl
def qdE:IC:=(sR [qO 4 (.mov (cI 0))] (.seq (sR [qM 5 0,qO 6 (.call 128 [.t 5]),qO 7 (.not (.t 6))] (.cond (.t 7) (sR [qO 4 (.mov (cI 3))] .ret) .skip)) (.seq (sR [qM 8 1,qB 9 .lss 8 (cI 4),qM 10 9,⟨some 11,.mov (.t 1),(some (10,false))⟩,⟨some 12,.bin .gtr (.t 11) (cI 9),(some (10,false))⟩,qO 13 (.pick (.t 10) (.c (.bool true)) (.t 12))] (.cond (.t 13) (sR [qO 4 (.mov (cI 1))] .ret) .skip)) (sR [qO 4 (.mov (cI 0))] .ret))))
def qds:List IRes:=[.t 4]
theorem qhC:chkF Tryz.prog Tryz.f73 qdE qds 14=true:=by kernel_rfl
def qfL:IC:=(sR [qO 6 (.mov (.c (.str []))),qO 7 (.mov (cI 0))] (.seq (sR [qM 10 0,qM 11 1,qO 12 (.call 73 [.t 10,.t 11]),qM 8 12] (sR [qM 13 8,qB 14 .neq 13 (cI 0)] (.cond (.t 14) (sR [qM 15 8,qO 6 (.mov (.c (.str []))),qM 7 15] .ret) .skip))) (.seq (sR [qM 16 2,qB 17 .lss 16 (cI 1),qM 18 17,⟨some 19,.mov (.t 2),(some (18,false))⟩,⟨some 20,.mov (.t 1),(some (18,false))⟩,⟨some 21,.call 77 [.t 20],(some (18,false))⟩,⟨some 22,.bin .geq (.t 19) (.t 21),(some (18,false))⟩,qO 23 (.pick (.t 18) (.c (.bool true)) (.t 22))] (.cond (.t 23) (sR [qO 6 (.mov (.c (.str []))),qO 7 (.mov (cI 1))] .ret) .skip)) (sR [qM 24 1,qO 25 (.call 77 [.t 24]),qM 26 2,qT 27 .add 25 26,qO 28 (.call 100 [.t 27]),qM 9 28] (sR [qM 29 0,qM 30 9,qO 31 (.ssl (.t 30) (some (cI 1)) none),qT 32 .add 29 31,qM 6 32,qO 7 (.mov (cI 0))] .ret)))))
def qfw:List IRes:=[.t 6,.t 7]
theorem qjC:chkF Tryz.prog Tryz.f68 qfL qfw 33=true:=by kernel_rfl
def qeC:IC:=(sR [qO 2 (.mov (.c (.str []))),qO 3 (.mov (cI 0)),qO 4 (.mov (cI 0)),qO 5 (.mov (cI 0))] (sR [qM 12 0,qO 13 (.call 144 [.t 12,.c (.str [65,66,67,68,69,70,71,72,73,74,75,76,77,78,79,80,81,82,83,84,85,86,87,88,89,90])]),qM 6 13] (sR [qM 14 0,qM 15 0,qO 16 (.sln (.t 15)),qM 17 6,qO 18 (.sln (.t 17)),qT 19 .sub 16 18,qO 20 (.ssl (.t 14) none (some (.t 19))),qM 7 20] (.seq (sR [qM 21 6,qO 22 (.sln (.t 21)),qB 23 .leq 22 (cI 9),qM 24 23,⟨some 25,.mov (.t 6),(some (24,true))⟩,⟨some 26,.call 127 [.t 25,.c (.str [48,49,50,51,52,53,54,55,56,57])],(some (24,true))⟩,qO 27 (.pick (.t 24) (.t 26) (.c (.bool false)))] (.cond (.t 27) (sR [qM 29 6,qO 30 (.call 145 [.t 29]),qM 28 30,qO 31 (.ext 0 (.t 28)),qO 32 (.ext 1 (.t 28)),qM 8 31,qM 9 32] (sR [qM 34 7,qM 35 6,qO 36 (.sln (.t 35)),qM 37 8,qO 38 (.call 68 [.t 34,.t 36,.t 37]),qM 33 38,qO 39 (.ext 0 (.t 33)),qO 40 (.ext 1 (.t 33)),qM 10 39,qM 11 40] (sR [qM 41 11,qB 42 .eql 41 (cI 0),qM 43 42,⟨some 44,.mov (.t 10),(some (43,true))⟩,⟨some 45,.mov (.t 0),(some (43,true))⟩,⟨some 46,.bin .eql (.t 44) (.t 45),(some (43,true))⟩,qO 47 (.pick (.t 43) (.t 46) (.c (.bool false)))] (.cond (.t 47) (sR [qM 48 7,qM 49 6,qO 50 (.sln (.t 49)),qM 51 8,qM 2 48,qM 3 50,qM 4 51,qO 5 (.mov (cI 0))] .ret) .skip)))) .skip)) (.cut (sR [qO 2 (.mov (.c (.str []))),qO 3 (.mov (cI 0)),qO 4 (.mov (cI 0)),qO 5 (.mov (cI 9))] .ret))))))
def qej:List IRes:=[.t 2,.t 3,.t 4,.t 5]
theorem qiu:chkF Tryz.prog Tryz.f102 qeC qej 52=true:=by kernel_rfl
def qcm:IC:=(sR [qO 2 (.mov (.c (.str [])))] (sR [qM 6 0,qO 7 (.bsl 1 [.c (.str [65,66]),.c (.str [65,66]),.c (.str [67,68,69])]),qO 8 (.call 45 [.t 6,.t 7]),qM 9 0,qO 10 (.bsl 1 [.c (.int .i64 4),.c (.int .i64 4),.c (.int .i64 6)]),qO 11 (.call 19 [.t 9,.t 10]),qM 12 0,qO 13 (.call 97 [.t 12,.c (.int .i64 1),.c (.int .i64 8)]),qO 14 (.call 68 [.t 8,.t 11,.t 13]),qM 5 14,qO 15 (.ext 0 (.t 5)),qO 16 (.ext 1 (.t 5)),qM 3 15,qM 4 16] (.seq (sR [qM 17 4,qB 18 .neq 17 (cI 0),qM 19 18,⟨some 20,.mov (.t 0),(some (19,false))⟩,⟨some 21,.call 43 [.t 20,.c (.int .i64 8)],(some (19,false))⟩,qO 22 (.pick (.t 19) (.c (.bool true)) (.t 21))] (.cond (.t 22) (sR [qM 23 0,qO 24 (.bsl 1 [.c (.str []),.c (.str [65,66]),.c (.str [65,66,48,48,49]),.c (.str [65,66,48,48,48,48]),.c (.str [97,98,48,48,48,49]),.c (.str [65,66,48,48,48,48,49]),.c (.str [65,66,48,48,48,49,32]),.c (.str [65,66,67,68,69,70,71,72,73,48,48,48,49]),.c (.str [65,49,66,48,48,48,49]),.c (.str [65,66,48,48,48,48,48,48,48,48,48,49]),.c (.str [48,48,48,49]),.c (.str [65,66,57,57,57,57,57,57,57,57,57,57])]),qO 25 (.call 45 [.t 23,.t 24]),qM 2 25] .ret) .skip)) (sR [qM 26 3,qM 2 26] .ret))))
def qcj:List IRes:=[.t 2]
theorem qfT:chkF Tryz.prog Tryz.f33 qcm qcj 27=true:=by kernel_rfl
section
variable {E:Envt}
theorem qx6 {i:Nat} (h:i≤9):1≤(10:Int) ^ i∧(10:Int) ^ i≤1000000000:=by
 have:=qjk (d:=(i:Int)) (by omega)
 simpa [powF] using this
theorem qsv (d:Int) (h0:0≤d) (h:d≤9):PCall Tryz.prog E 115 [int d] (·=int (powF d)):=by
 obtain ⟨m,rfl⟩:=yw h0
 refine qag mixed Tryz.func115 ql8 ?_
 simp only [a0,l0,OS.ao,zo,zw,zj,zr,zp,zq,zx,zd,zi,zm,qiN,qiF,ZZ,WW,Ze,reduceCtorEq,zd,ze,zb,zf,za]
 refine qad (fun n fr L=>∃ (k:Nat),k≤m∧n=m - k∧fr=[oo,oo,oo,.p (int ((10:Int) ^ k)),.p (int (m:Nat)),.p (int (k:Nat)),oo,oo,oo,oo,oo]∧L=[]) (m) _ [] (by (simp only [ZZ,WW,Ze,reduceCtorEq,zd,ze,zb,zf,za];try trivial)) (by (simp only [ZZ,WW,Ze,reduceCtorEq,zd,ze,zb,zf,za];try trivial)) ⟨0,by omega,by omega,rfl,rfl⟩ ?_
 rintro n fr L ⟨k,hk,rfl,rfl,rfl⟩
 simp only [qgL,ZZ,WW,Ze,reduceCtorEq,zd,ze,zb,zf,za]
 refine br ?_ ?_
 ·intro h2
  have hlt:k < m:=by have:=of_decide_eq_true h2;omega
  have hb:=qx6 (i:=k) (by omega)
  have hp:(10:Int) ^ (k+1)=(10:Int) ^ k * 10:=by rw [Int.pow_succ]
  refine zS ?_
  ((with_reducible and_intros)<;>try exact sc_)
  refine qac (m - (k+1)) _ [] (by omega) (by (simp only [ZZ,WW,Ze,reduceCtorEq,zd,ze,zb,zf,za];try trivial)) zE_ ⟨k+1,by omega,rfl,rfl,rfl⟩
 ·intro h2
  have hge:k=m:=by have:=of_decide_eq_false h2;omega
  subst hge
  refine zS ?_
  rfl
theorem qje (d:Int) (h0:0≤d) (h:d≤9):PCall Tryz.prog E 77 [int d] (·=int (powF d)):=by
 obtain ⟨m,rfl⟩:=yw h0
 refine qag mixed Tryz.func77 qlf ?_
 simp only [a0,l0,OS.ao,zo,zw,zj,zr,zp,zq,zx,zd,zi,zm,qhq,qhd,ZZ,WW,Ze,reduceCtorEq,zd,ze,zb,zf,za]
 refine qad (fun n fr L=>∃ (k:Nat),k≤m∧n=m - k∧fr=[oo,oo,oo,.p (int ((10:Int) ^ k)),.p (int (m:Nat)),.p (int (k:Nat)),oo,oo,oo,oo,oo]∧L=[]) (m) _ [] (by (simp only [ZZ,WW,Ze,reduceCtorEq,zd,ze,zb,zf,za];try trivial)) (by (simp only [ZZ,WW,Ze,reduceCtorEq,zd,ze,zb,zf,za];try trivial)) ⟨0,by omega,by omega,rfl,rfl⟩ ?_
 rintro n fr L ⟨k,hk,rfl,rfl,rfl⟩
 simp only [qfG,ZZ,WW,Ze,reduceCtorEq,zd,ze,zb,zf,za]
 refine br ?_ ?_
 ·intro h2
  have hlt:k < m:=by have:=of_decide_eq_true h2;omega
  have hb:=qx6 (i:=k) (by omega)
  have hp:(10:Int) ^ (k+1)=(10:Int) ^ k * 10:=by rw [Int.pow_succ]
  refine zS ?_
  ((with_reducible and_intros)<;>try exact sc_)
  refine qac (m - (k+1)) _ [] (by omega) (by (simp only [ZZ,WW,Ze,reduceCtorEq,zd,ze,zb,zf,za];try trivial)) zE_ ⟨k+1,by omega,rfl,rfl,rfl⟩
 ·intro h2
  have hge:k=m:=by have:=of_decide_eq_false h2;omega
  subst hge
  refine zS ?_
  rfl
theorem qrt (s:List UInt8) (hs:s.length≤1000000000):PCall Tryz.prog E 81 [.str s] (·=.bool (qke s)):=by
 refine qag mixed Tryz.func81 qkr ?_
 simp only [a0,l0,OS.ao,zo,zw,zj,zr,zp,zq,zx,zd,zi,zm,qgN,qgu,ZZ,WW,Ze,reduceCtorEq,zd,ze,zb,zf,za]
 refine qad (fun n fr L=>∃ (k:Nat),k≤s.length∧n=s.length - k∧((s.take k).all (fun c=>!qlR c)=true)∧fr=(.p (.str s)::oo::oo::oo::oo::.p (int (s.length:Nat))::.p (int (k:Nat))::oE [])∧L=[]) (s.length) _ [] (by (simp only [ZZ,WW,Ze,reduceCtorEq,zd,ze,zb,zf,za];try trivial)) (by (simp only [ZZ,WW,Ze,reduceCtorEq,zd,ze,zb,zf,za];try trivial)) ⟨0,by omega,by omega,by simp,rfl,rfl⟩ ?_
 rintro n fr L ⟨k,hk,rfl,hall,rfl,rfl⟩
 simp only [qeR,ZZ,WW,Ze,reduceCtorEq,zd,ze,zb,zf,za]
 refine br ?_ ?_
 ·intro h2
  have hlt:k < s.length:=by have:=of_decide_eq_true h2;omega
  have hx:s[k]?=some (s.getD k 0):=by rw [zh hlt];simp [zD,hlt]
  have hnx:=qj0 (p:=fun c=>!qlR c) hx
  refine zS ?_
  ((with_reducible and_intros)<;>try exact sc_)
  refine br ?_ ?_
  ·intro hb
   have hf:s.all (fun c=>!qlR c)=false:=by
    rw [List.all_eq_false]
    refine ⟨s.getD k 0,zy hx,?_⟩
    rw [show qlR (s.getD k 0)=true from hb]
    simp
   refine zS ?_
   rw [qke,hf,Bool.false_and]
  ·intro hb
   refine zS ?_
   ((with_reducible and_intros)<;>try exact sc_)
   refine qac (s.length - (k+1)) _ [] (by omega) (by (simp only [ZZ,WW,Ze,reduceCtorEq,zd,ze,zb,zf,za];try trivial)) (by (simp only [ZZ,WW,Ze,reduceCtorEq,zd,ze,zb,zf,za];try trivial)) ⟨k+1,by omega,rfl,by rw [hnx,hall,show qlR (s.getD k 0)=false from hb];rfl,rfl,rfl⟩
 ·intro h2
  have hge:k=s.length:=by have:=of_decide_eq_false h2;omega
  subst hge
  rw [List.take_length] at hall
  refine zS ?_
  refine use1 (qr0 s.length 1 8) rfl (.inl rfl) ?_
  refine zS ?_
  rw [qke,hall,Bool.true_and]
theorem qjs (p:List UInt8) (d:Int) (hs:p.length≤1000000000):PCall Tryz.prog E 114 [.str p,int d] (·=int (qd8 p d)):=by
 refine qag mixed Tryz.func114 qj2 ?_
 simp only [a0,l0,OS.ao,zo,zw,zj,zr,zp,zq,zx,zd,zi,zm,qgd,qf2,ZZ,WW,Ze,reduceCtorEq,zd,ze,zb,zf,za]
 refine use1 (qrt p hs) rfl (.inl rfl) ?_
 refine zS ?_
 refine use1 (qeI _ 3) rfl (.inl rfl) ?_
 refine zS ?_
 refine use1 (qr0 d 4 9) rfl (.inl rfl) ?_
 refine zS ?_
 refine use1 (qeI _ 1) rfl (.inl rfl) ?_
 refine zS ?_
 refine use1 (qiC [qak (!qke p) 3,qak (!inE d 4 9) 1] (by simp)) rfl (.inl rfl) ?_
 refine zS ?_
 rfl
end
theorem qmn {n:Int} (h0:0≤n) (h1:n≤100000000000):(Lib.itoa n).length≤20:=by
 rw [qsJ (by omega) h1]
 have:∀ f u,(dd f u).length≤f:=by
  intro f
  induction f with
  |zero=>intro u;simp [dd]
  |succ f ih=>
   intro u
   rw [dd]
   split
   ·simp
   ·have:=ih (u / 10);simp;omega
 unfold itD
 split
 ·omega
 ·have:=this 12 n.toNat;omega
theorem qnD (p:List UInt8) (d n:Int) (hp:p.length≤8) (hd0:4≤d) (hd:d≤9) (h0:0≤n) (h1:n≤1000000000):PCall Tryz.prog E2 66 [.str p,int d,int n] (·=.str (qmB Lib.itoa p d n)):=by
 refine qag mixed Tryz.func66 qk8 ?_
 simp only [a0,l0,OS.ao,zo,zw,zj,zr,zp,zq,zx,zd,zi,zm,qhi,qg6,ZZ,WW,Ze,reduceCtorEq,zd,ze,zb,zf,za]
 refine use1 (qrY n (by omega) (by omega)) rfl (.inl rfl) ?_
 have hil:=qmn h0 (by omega)
 unfold qmB
 generalize Lib.itoa n=it at *
 obtain ⟨m,hm⟩:=yw (show 0≤max 0 (d - (it.length:Int)) by omega)
 have hm9:m≤9:=by omega
 rw [hm,yf]
 simp only [ZZ,WW,Ze,reduceCtorEq,zd,ze,zb,zf,za,hm]
 ((with_reducible and_intros)<;>try exact sc_)
 refine use1 (qvT [48] m (by omega) (by simp)) rfl (.inl rfl) ?_
 have hrl:(Lib.repeatL [48] m).length≤9:=by rw [Lib.repeatL_length];simp;omega
 refine zS ?_
 ((with_reducible and_intros)<;>try exact sc_)
theorem qvZ (p:List UInt8) (d n:Int) (hp:p.length≤1000):PCall Tryz.prog E2 69 [.str p,int d,int n] (·=.tup [.str (numG Lib.itoa p d n).1,int (numG Lib.itoa p d n).2]):=by
 refine qag mixed Tryz.func69 qlG ?_
 simp only [a0,l0,OS.ao,zo,zw,zj,zr,zp,zq,zx,zd,zi,zm,qhY,qhQ,ZZ,WW,Ze,reduceCtorEq,zd,ze,zb,zf,za]
 refine use1 (qjs p d (by omega)) rfl (.inl rfl) ?_
 refine zS ?_
 unfold numG
 refine br ?_ ?_
 ·intro h
  have h:¬ qd8 p d=0:=by simpa using h
  refine zS ?_
  rw [if_neg h]
 ·intro h
  have h:qd8 p d=0:=by simpa using h
  obtain ⟨g1,g2,g3⟩:=qh1 h
  have hb:=qjk g2
  rw [if_pos h]
  refine zS ?_
  refine use1 (qsv d (by omega) g2) rfl (.inl rfl) ?_
  refine zS ?_
  ((with_reducible and_intros)<;>try exact sc_)
  refine use1 (qr0 n 1 (powF d - 1)) rfl (.inl rfl) ?_
  refine zS ?_
  refine br ?_ ?_
  ·intro h2
   have h2:inE n 1 (powF d - 1)=false:=by simpa using h2
   refine zS ?_
   rw [if_neg (by rw [h2];simp)]
  ·intro h2
   have h2:inE n 1 (powF d - 1)=true:=by simpa using h2
   have h3:=h2
   simp only [inE,zl,decide_eq_true_eq] at h3
   refine zS ?_
   refine use1 (qnD p d n g3 g1 g2 (by omega) (by omega)) rfl (.inl rfl) ?_
   refine zS ?_
   rw [if_pos h2]
theorem qmX:PCall Tryz.prog E2 16 [] (·=.bool true):=by
 refine qag mixed Tryz.func16 qjE ?_
 simp only [a0,l0,OS.ao,zo,zw,zj,zr,zp,zq,zx,zd,zi,zm,qfN,qfy,ZZ,WW,Ze,reduceCtorEq,zd,ze,zb,zf,za]
 refine use1 (qvZ [65,66] 4 7 (by simp)) rfl (.inl rfl) ?_
 rw [qzC (by omega) (by omega),show numG itD [65,66] 4 7=([65,66,48,48,48,55],0) from by decide +kernel]
 refine zS ?_
 rfl
theorem qrd {E:Envt} (s:List UInt8) (hs:s.length≤1000000000):PCall Tryz.prog E 128 [.str s] (·=.bool (quv s)):=by
 refine qag mixed Tryz.func128 qjy ?_
 simp only [a0,l0,OS.ao,zo,zw,zj,zr,zp,zq,zx,zd,zi,zm,qfF,qfs,ZZ,WW,Ze,reduceCtorEq,zd,ze,zb,zf,za]
 ((with_reducible and_intros)<;>try exact sc_)
 refine useG (fun _=>qoN s capL hs (by decide) (by decide)) rfl (.inl rfl) ?_
 refine zS ?_
 ((with_reducible and_intros)<;>try exact sc_)
theorem qgJ {E:Envt} (p:List UInt8) (d:Int) (hs:p.length≤1000000000):PCall Tryz.prog E 73 [.str p,int d] (·=int (nfF p d)):=by
 refine qag mixed Tryz.func73 qhC ?_
 simp only [a0,l0,OS.ao,zo,zw,zj,zr,zp,zq,zx,zd,zi,zm,qdE,qds,ZZ,WW,Ze,reduceCtorEq,zd,ze,zb,zf,za]
 refine use1 (qrd p hs) rfl (.inl rfl) ?_
 refine zS ?_
 unfold nfF
 refine br ?_ ?_
 ·intro h
  refine zS ?_
  rw [if_neg (by simpa using h)]
 ·intro h
  refine zS ?_
  rw [if_pos (by simpa using h)]
  ((with_reducible and_intros)<;>try exact sc_)
  refine br ?_ ?_
  ·intro h2
   refine zS ?_
   rw [if_pos h2]
  ·intro h2
   refine zS ?_
   rw [if_neg (by rw [h2];simp)]
theorem qkD (p:List UInt8) (d n:Int) (hp:p.length≤1000) (hn:-1000000000≤n):PCall Tryz.prog E2 68 [.str p,int d,int n] (·=.tup [.str (nofG Lib.itoa p d n).1,int (nofG Lib.itoa p d n).2]):=by
 refine qag mixed Tryz.func68 qjC ?_
 simp only [a0,l0,OS.ao,zo,zw,zj,zr,zp,zq,zx,zd,zi,zm,qfL,qfw,ZZ,WW,Ze,reduceCtorEq,zd,ze,zb,zf,za]
 refine use1 (qgJ p d (by omega)) rfl (.inl rfl) ?_
 refine zS ?_
 unfold nofG
 refine br ?_ ?_
 ·intro h
  have h:¬ nfF p d=0:=by simpa using h
  refine zS ?_
  rw [if_neg h]
 ·intro h
  have h:nfF p d=0:=by simpa using h
  obtain ⟨g1,g2,g3⟩:=qsE h
  have hb:=qjk g2
  rw [if_pos h]
  refine zS ?_
  ((with_reducible and_intros)<;>try exact sc_)
  refine useG (fun _=>qje d (by omega) g2) rfl (.inl rfl) ?_
  refine zS ?_
  ((with_reducible and_intros)<;>try exact sc_)
  refine br ?_ ?_
  ·intro h2
   refine zS ?_
   rw [if_pos h2]
  ·intro h2
   have h3:=h2
   simp only [Bool.or_eq_false_iff,decide_eq_false_iff_not] at h3
   rw [if_neg (by rw [h2];simp)]
   refine zS ?_
   refine use1 (qje d (by omega) g2) rfl (.inl rfl) ?_
   refine zS ?_
   ((with_reducible and_intros)<;>try exact sc_)
   refine use1 (qrY (powF d+n) (by omega) (by omega)) rfl (.inl rfl) ?_
   have hil:=qmn (n:=powF d+n) (by omega) (by omega)
   have hpos:1≤(Lib.itoa (powF d+n)).length:=by
    rw [qsJ (by omega) (by omega)]
    unfold itD
    rw [if_neg (by omega),dd]
    split<;>simp
   generalize Lib.itoa (powF d+n)=it at *
   refine zS ?_
   ((with_reducible and_intros)<;>try exact sc_)
theorem qqj (cs:List UInt8):∀ l:List UInt8,Lib.indexAny l cs < l.length∨Lib.indexAny l cs=-1
 |[]=>.inr rfl
 |b :: l=>by
  have ih:=qqj cs l
  unfold Lib.indexAny
  split
  ·left;simp
  ·split
   ·right;rfl
   ·rename_i h1 h2
    have h2:¬ Lib.indexAny l cs=-1:=by simpa using h2
    left
    simp only [zj]
    omega
theorem qtx (u:List UInt8) (j:Nat) (h:j < u.length):qlC (u.take (j+1))=10 * qlC (u.take j)+((u.getD j 0).toNat - 48):=by
 unfold qlC
 rw [List.take_add_one,zh h]
 simp only [Option.toList_some,List.foldl_append,List.foldl_cons,List.foldl_nil]
 simp [zD,h]
theorem qsP:∀ u:List UInt8,u.all digB=true→qlC u < 10 ^ u.length:=by
 have key:∀ (u:List UInt8) (a:Nat),u.all digB=true→u.foldl (fun n c=>10 * n+(c.toNat - 48)) a < (a+1) * 10 ^ u.length:=by
  intro u
  induction u with
  |nil=>intro a _;simp
  |cons c r ih=>
   intro a h
   simp only [List.all_cons,zl] at h
   have hc:=h.1
   simp only [digB,zl,decide_eq_true_eq] at hc
   simp only [List.foldl_cons]
   refine Nat.lt_of_lt_of_le (ih _ h.2) ?_
   rw [zj,Nat.pow_succ,Nat.mul_comm (10 ^ r.length) 10,← Nat.mul_assoc]
   exact Nat.mul_le_mul_right _ (by omega)
 intro u h
 have:=key u 0 h
 simpa [qlC] using this
theorem qBX (c:UInt8):digB c=true→IntKind.u8.wrap ((c.toNat:Int) - 48)=((c.toNat - 48:Nat):Int):=qln (p:=fun c=>digB c=true→IntKind.u8.wrap ((c.toNat:Int) - 48)=((c.toNat - 48:Nat):Int)) (by decide +kernel) c
def qk5 (q:Four):PV:=.tup [.str q.1,int q.2.1,int q.2.2.1,int q.2.2.2]
theorem qpq {E:Envt} (t:List UInt8) (ht:t.length≤1000) (ha:asc t=true):PCall Tryz.prog E 98 [.str t] (·=qk5 (qmT t)):=by
 refine qag mixed Tryz.func98 qjv ?_
 simp only [a0,l0,OS.ao,zo,zw,zj,zr,zp,zq,zx,zd,zi,zm,qfB,qfp,ZZ,WW,Ze,reduceCtorEq,zd,ze,zb,zf,za]
 refine use1 (qrZ t figL (by omega) (by decide) (by decide)) rfl (.inl rfl) ?_
 have hge:=Lib.indexAny_ge figL t
 have hle:=qqj figL t
 have hR:qmT t=if Lib.indexAny t figL < 0∨qd8 (t.take (Lib.indexAny t figL).toNat) (t.length - Lib.indexAny t figL)≠0 then badF
   else if (t.drop (Lib.indexAny t figL).toNat).all digB=false then badF
   else if qlC (t.drop (Lib.indexAny t figL).toNat)=0 then badF
   else (t.take (Lib.indexAny t figL).toNat,t.length - Lib.indexAny t figL,qlC (t.drop (Lib.indexAny t figL).toNat),0):=rfl
 rw [hR]
 clear hR
 generalize Lib.indexAny t figL=ki at *
 by_cases hk:ki < 0
 ·have e1:decide (ki < 0)=true:=by simp [hk]
  rw [if_pos (.inl hk)]
  simp only [ZZ,WW,Ze,reduceCtorEq,zd,ze,zb,zf,za,e1]
  ((with_reducible and_intros)<;>try exact sc_)
  refine useG (r:=int 0) (ps:=[.str _,int _]) (fun h=>by cases h) rfl (.inl rfl) ?_
  simp only [ZZ,WW,Ze,reduceCtorEq,zd,ze,zb,zf,za,e1]
  ((with_reducible and_intros)<;>try exact sc_)
 ·obtain ⟨k,rfl⟩:=yw (show 0≤ki by omega)
  have hkl:k < t.length:=by omega
  have e1:decide (((k:Nat):Int) < 0)=false:=by simp
  rw [yf]
  simp only [ZZ,WW,Ze,reduceCtorEq,zd,ze,zb,zf,za,e1]
  ((with_reducible and_intros)<;>try exact sc_)
  refine useG (fun _=>qjs (t.take k) ((t.length:Int) - k) (by simp;omega)) rfl (.inl rfl) ?_
  simp only [ZZ,WW,Ze,reduceCtorEq,zd,ze,zb,zf,za,e1]
  ((with_reducible and_intros)<;>try exact sc_)
  by_cases hh:qd8 (t.take k) ((t.length:Int) - k)=0
  ·obtain ⟨g1,g2,g3⟩:=qh1 hh
   rw [if_neg (by rintro (h|h);omega;exact h hh),hh]
   refine br ?_ ?_
   ·intro h
    simp at h
   ·intro _
    have hul:(t.drop k).length=t.length - k:=by simp
    have hug:∀ j,t.getD (k+j) 0=(t.drop k).getD j 0:=fun j=>by simp [zD,List.getElem?_drop]
    generalize t.drop k=u at *
    refine zS ?_
    refine qad (fun n fr L=>∃ (j:Nat),u.length - j=n∧(j≤u.length)∧((u.take j).all digB=true)∧fr=(.p (.str t)::oo::oo::oo::.p (int (qlC (u.take j):Nat))::oo::.p (int (k:Nat))::.p (int (k+j:Nat))::oF (oD (oC (oo::[]))))∧L=[]) (u.length - 0) _ [] (by (simp only [ZZ,WW,Ze,reduceCtorEq,zd,ze,zb,zf,za];try trivial)) (by (simp only [ZZ,WW,Ze,reduceCtorEq,zd,ze,zb,zf,za];try trivial)) ⟨0,rfl,by omega,by simp,rfl,rfl⟩ ?_
    rintro n fr L ⟨j,rfl,hj,hall,rfl,rfl⟩
    simp only [qdZ,ZZ,WW,Ze,reduceCtorEq,zd,ze,zb,zf,za]
    have hfl:=qsP (u.take j) hall
    have hfb:(10:Nat) ^ (u.take j).length≤10 ^ 9:=Nat.pow_le_pow_right (by decide) (by simp;omega)
    refine br ?_ ?_
    ·intro h2
     have hju:j < u.length:=by have:=of_decide_eq_true h2;omega
     have hx:u[j]?=some (u.getD j 0):=by rw [zh hju];simp [zD,hju]
     have hnx:=qj0 (p:=digB) hx
     have hft:=qtx u j hju
     have hu:=hug j
     refine zS ?_
     ((with_reducible and_intros)<;>try exact sc_)
     rw [hu]
     refine use1 (qs6 (u.getD j 0)) rfl (.inl rfl) ?_
     refine zS ?_
     refine br ?_ ?_
     ·intro hd
      have hd:digB (u.getD j 0)=false:=by simpa using hd
      have hf:u.all digB=false:=by
       rw [List.all_eq_false]
       exact ⟨u.getD j 0,zy hx,by rw [hd];simp⟩
      refine zS ?_
      rw [if_pos hf]
      rfl
     ·intro hd
      have hd:digB (u.getD j 0)=true:=by simpa using hd
      have h48:=qBX _ hd
      have hc8:(u.getD j 0).toNat - 48≤9:=by
       simp only [digB,zl,decide_eq_true_eq] at hd
       omega
      refine zS ?_
      rw [hu]
      simp only [ZZ,WW,Ze,reduceCtorEq,zd,ze,zb,zf,za,h48]
      ((with_reducible and_intros)<;>try exact sc_)
      refine qac (u.length - (j+1)) _ [] (by omega) (by simp only [ZZ,WW,Ze,reduceCtorEq,zd,ze,zb,zf,za];exact ⟨by congr 2;omega,by congr 2⟩) (by (simp only [ZZ,WW,Ze,reduceCtorEq,zd,ze,zb,zf,za];try trivial)) ⟨j+1,rfl,by omega,by rw [hnx,hall,hd];rfl,rfl,rfl⟩
    ·intro h2
     have hju:j=u.length:=by have:=of_decide_eq_false h2;omega
     subst hju
     rw [List.take_length] at hall hfl
     rw [if_neg (by rw [hall];simp)]
     simp only [ZZ,WW,Ze,reduceCtorEq,zd,ze,zb,zf,za,List.take_length]
     refine br ?_ ?_
     ·intro h0
      have h0:qlC u=0:=by simpa using h0
      refine zS ?_
      rw [if_pos h0]
      rfl
     ·intro h0
      have h0:¬ qlC u=0:=by simpa using h0
      refine zS ?_
      ((with_reducible and_intros)<;>try exact sc_)
      rw [if_neg h0]
      rfl
  ·rw [if_pos (.inr hh)]
   refine br ?_ ?_
   ·intro _
    refine zS ?_
    rfl
   ·intro h
    exact absurd (by simpa using h) hh
theorem qpt (t:List UInt8) (ht:t.length≤1000):PCall Tryz.prog E2 102 [.str t] (·=qk5 (qqp Lib.itoa t)):=by
 refine qag mixed Tryz.func102 qiu ?_
 simp only [a0,l0,OS.ao,zo,zw,zj,zr,zp,zq,zx,zd,zi,zm,qeC,qej,ZZ,WW,Ze,reduceCtorEq,zd,ze,zb,zf,za]
 refine use1 (qnw t capL (by decide) (by decide)) rfl (.inl rfl) ?_
 have hdl:(Lib.trimLeftS t capL).length≤t.length:=List.Sublist.length_le (List.dropWhile_sublist _)
 have hR:qqp Lib.itoa t=((if (decide (((Lib.trimLeftS t capL).length:Int)≤9) && qrp (Lib.trimLeftS t capL) figL)=true then
  (if (nofG Lib.itoa (t.take (t.length - (Lib.trimLeftS t capL).length)) (Lib.trimLeftS t capL).length ((Lib.atoi (Lib.trimLeftS t capL)).getD 0)).2=0∧(nofG Lib.itoa (t.take (t.length - (Lib.trimLeftS t capL).length)) (Lib.trimLeftS t capL).length ((Lib.atoi (Lib.trimLeftS t capL)).getD 0)).1=t
   then (t.take (t.length - (Lib.trimLeftS t capL).length),(Lib.trimLeftS t capL).length,(Lib.atoi (Lib.trimLeftS t capL)).getD 0,0) else badF)
 else badF):Four):=rfl
 rw [hR]
 clear hR
 have hat:=qvN (Lib.trimLeftS t capL)
 generalize Lib.trimLeftS t capL=g at *
 have e1:((t.length:Int) - g.length).toNat=t.length - g.length:=by omega
 simp only [ZZ,WW,Ze,reduceCtorEq,zd,ze,zb,zf,za,e1]
 ((with_reducible and_intros)<;>try exact sc_)
 refine useG (fun _=>qoN g figL (by omega) (by decide) (by decide)) rfl (.inl rfl) ?_
 refine zS ?_
 ((with_reducible and_intros)<;>try exact sc_)
 refine br ?_ ?_
 ·intro hc
  rw [if_pos hc]
  simp only [zl,decide_eq_true_eq] at hc
  obtain ⟨b1,b2⟩:=hat (by omega)
  refine zS ?_
  refine use (qAx g (by omega)) rfl (.inl rfl) ?_
  rintro x ⟨v,rfl⟩
  generalize (Lib.atoi g).getD 0=n at *
  refine zS ?_
  refine use1 (qkD (t.take (t.length - g.length)) g.length n (by simp;omega) (by omega)) rfl (.inl rfl) ?_
  generalize nofG Lib.itoa (t.take (t.length - g.length)) g.length n=q at *
  refine zS ?_
  ((with_reducible and_intros)<;>try exact sc_)
  refine br ?_ ?_
  ·intro h2
   simp only [zl,decide_eq_true_eq] at h2
   rw [if_pos h2]
   refine zS ?_
   rfl
  ·intro h2
   have h3:¬ (q.2=0∧q.1=t):=by
    rintro ⟨a,b⟩
    simp [a,b] at h2
   rw [if_neg h3]
   refine zS ?_
   refine qaq zE_ ?_
   refine zS ?_
   rfl
 ·intro hc
  rw [if_neg (by rw [hc];simp)]
  refine zS ?_
  refine qaq zE_ ?_
  refine zS ?_
  rfl
theorem qps (l:List Int) (k:Nat) (hk:k≤900000) (hl:l.length≤9223372036854775807) :
  qfU Tryz.prog E2 33 T (stm l k) [] (fun x cs'=>∃ t k',x=.str t∧qmT t=qqp itD t∧asc t=true∧t.length≤20∧cs'=stm l k'∧k'≤k+5):=by
 unfold qfU
 refine qfP mixed Tryz.func33 qfT ?_
 simp only [a0,l0,OS.ao,zo,zw,zj,zr,zp,zq,zx,zd,zi,zm,qcm,qcj,ZZ,WW,Ze,reduceCtorEq,zd,ze,zb,zf,za]
 refine useS (qhU l k [[65,66],[65,66],[67,68,69]] (by omega) hl (by simp) (by simp)) rfl rfl rfl zE_ ?_
 rintro x cs' ⟨p,rfl,hp,rfl⟩
 have hp:p∈([[65,66],[67,68,69]]:List (List UInt8)):=by simp at hp ⊢;exact hp
 have hpl:p.length≤3:=by simp at hp;rcases hp with rfl|rfl<;>simp
 refine zS ?_
 refine useS (qdS l (k+1) [4,4,6] (by omega) hl (by simp) (by simp)) rfl rfl rfl zE_ ?_
 rintro x cs' ⟨d,rfl,hd,rfl⟩
 have hd:d∈([4,6]:List Int):=by simp at hd ⊢;exact hd
 refine zS ?_
 refine useS (qpr l (k+1+1) 1 8 (by omega) hl (by omega) (by omega) (by omega)) rfl rfl rfl zE_ ?_
 rintro x cs' ⟨n,rfl,hn1,hn8,rfl⟩
 have hn:n∈([1,2,3,4,5,6,7,8]:List Int):=by simp;omega
 obtain ⟨f1,f2,f3,f4⟩:=quq p hp d hd n hn
 refine zS ?_
 refine use1 (qkD p d n (by omega) (by omega)) rfl (.inl rfl) ?_
 rw [quT (by omega)]
 generalize nofG itD p d n=q at *
 rw [f1]
 refine zS ?_
 ((with_reducible and_intros)<;>try exact sc_)
 refine qpD (fun _=>?_) (fun hc=>by simp at hc)
 refine useS (qhI l (k+1+1+1) _ (by omega) hl (by decide)) rfl rfl rfl zE_ ?_
 rintro x cs' ⟨b,rfl,rfl⟩
 refine zS ?_
 ((with_reducible and_intros)<;>try exact sc_)
 refine br ?_ ?_
 ·intro _
  refine zS ?_
  refine useS (qhU l (k+1+1+1+1) T12 (by omega) hl (by decide) (by decide)) rfl rfl rfl zE_ ?_
  rintro x cs' ⟨u,rfl,hu,rfl⟩
  obtain ⟨q1,q2,q3⟩:=qur u hu
  refine zS ?_
  exact qeF (stm l (k+1+1+1+1+1)) rfl ⟨_,_,rfl,q1,q2,q3,rfl,by omega⟩
 ·intro _
  refine zS ?_
  exact qeF (stm l (k+1+1+1+1)) rfl ⟨_,_,rfl,f2,f3,f4,rfl,by omega⟩
section
variable {E:Envt}
end
def qcs:IC:=(sR [qO 2 (.nilr 9 1)] (.seq (sR [qM 3 0,qO 4 (.isn (.t 3))] (.cond (.t 4) (sR [qO 2 (.nilr 9 1)] .ret) .skip)) (sR [qO 5 (.bsr 9 1 []),qM 6 0,qO 7 (.app 9 1 16 (.t 5) (.t 6)),qM 2 7] .ret)))
def qcp:List IRes:=[.t 2]
theorem qfZ:chkF Tryz.prog Tryz.f101 qcs qcp 8=true:=by kernel_rfl
section
variable {E:Envt}
abbrev qBW:Nat:=9
theorem qgr (s:List UInt8) (n:Nat) (hn:n≤1000000) (hs:s.length≤1000000):PCall Tryz.prog E 46 [.str s,int n] (·=.str (Lib.repeatL s n)):=
 qbp rfl rfl fun w _=>(qsu ⟨s.toArray⟩ n w (by omega) (by rw [show (⟨s.toArray⟩:ByteArray).size=s.length from by simp [ByteArray.size]];exact Nat.le_trans (Nat.mul_le_mul hs hn) (by decide))).mono fun e w' h=>⟨h.1,qc0 h.2⟩
theorem qjM (es:List (List PV)) (hn:es.length≤1000000):FCall Tryz.prog E 101 [.sl 1 es] qBW 1 (·=es):=by
 unfold FCall
 refine qjt mixed Tryz.func101 qfZ ?_
 simp only [a0,l0,OS.ao,zo,zw,zj,zr,zp,zq,zx,zd,zi,zm,qcs,qcp,ZZ,WW,Ze,reduceCtorEq,zd,ze,zb,zf,za]
 intro b hb
 refine br ?_ ?_
 ·intro h
  have:=hb h
  refine zS ?_
  exact ql7 2 [] rfl rfl this.symm
 ·intro h
  refine zS ?_
  exact ⟨by omega,ql7 5 es rfl rfl rfl⟩
end
end Go.Proofs.YtmpdnpljdcincaaGreatDoor
namespace Go.Proofs.YtmpdnpljdcincaaGreatDoor
open Nat renaming reduceAdd→zd,reduceEqDiff→za,reduceLeDiff→zb,reduceMul→ze
section
variable {E:Envt}
abbrev Par:=List UInt8×Int×Int
def t1:List UInt8:=[108,101,103,97,108,32,97,100,118,105,99,101]
def t2:List UInt8:=[112,114,105,118,105,108,101,103,101,100,32,97,110,100,32,99,111,110,102,105,100,101,110,116,105,97,108]
def p0:List Par:=[([97,105,100,64,111,117,114,115,46,100,101],1,3),([97,110,110,64,102,105,114,109,46,100,101],1,2),([108,97,119,64,111,117,114,115,46,100,101],1,1)]
def d0 (y:Int):List Par:=[([102,105,114,109,46,100,101],1,4),([120,46,102,105,114,109,46,100,101],y,2),([111,117,114,115,46,100,101],1,4)]
end
section
variable {E:Envt}
end
section
variable {E:Envt}
end
section
variable {E:Envt}
end
def qgK:IC:=(sR [qO 4 (.mov (.c (.bool false)))] (sR [qM 5 0,qM 6 1,qO 7 (.call 270 [.t 5,.t 6]),qB 8 .geq 7 (cI 0),qM 4 8] .ret))
def qgt:List IRes:=[.t 4]
theorem qkq:chkF Tryz.prog Tryz.f240 qgK qgt 9=true:=by kernel_rfl
section
theorem qnp (s t:List UInt8) (hs:s.length≤1000000000):PCall Tryz.prog E0 240 [.str s,.str t] (·=.bool (decide (0≤Lib.index s t))):=by
 refine qag mixed Tryz.func240 qkq ?_
 simp only [a0,l0,OS.ao,List.map_cons,List.map_nil,List.length_cons,List.length_nil,List.cons_append,List.nil_append,Nat.reduceSub,zd,List.replicate_succ,List.replicate_zero,qgK,qgt,ZZ,WW,Ze,reduceCtorEq,zd,ze,zb,Nat.reduceLT,za]
 refine use1 (qxT s t hs) rfl (.inl rfl) ?_
 simp only [ZZ,WW,Ze,reduceCtorEq,zd,ze,zb,Nat.reduceLT,za]
end
end Go.Proofs.YtmpdnpljdcincaaGreatDoor
namespace Go.Proofs.YtmpdnpljdcincaaGreatDoor
open List renaming cons_append→zp,nil_append→zq
open Go.RowKit
section
variable {E:Envt}
def qrJ (s p:List UInt8):List UInt8×Bool:=if sufE s p=true then (s.take (s.length - p.length),true) else (s,false)
end
def qkd (s:List UInt8):Bool:=((visE s false && !Lib.hasPrefix s [32]) && !sufE s [32]) && !decide (0≤Lib.index s [32,32])
theorem qsR {c:UInt8} {a b a' b':List UInt8} (h:a++c :: b=a'++c :: b') (h1:c∉a) (h2:c∉a'):a=a'∧b=b':=by
 induction a generalizing a' with
 |nil=>
  cases a' with
  |nil=>simpa using h
  |cons x a'=>simp only [zq,zp,List.cons.injEq] at h;exact absurd (by rw [h.1];simp) h2
 |cons y a ih=>
  cases a' with
  |nil=>simp only [zq,zp,List.cons.injEq] at h;exact absurd (by rw [← h.1];simp) h1
  |cons x a'=>
   simp only [zp,List.cons.injEq] at h
   obtain ⟨e1,e2⟩:=ih h.2 (fun hm=>h1 (by simp [hm])) (fun hm=>h2 (by simp [hm]))
   exact ⟨by rw [h.1,e1],e2⟩
theorem hp1 (c:UInt8) (r:List UInt8):Lib.hasPrefix r [c]=true↔∃ t,r=c :: t:=by
 unfold Lib.hasPrefix
 rw [List.isPrefixOf_iff_prefix]
 constructor
 ·rintro ⟨t,rfl⟩;exact ⟨t,rfl⟩
 ·rintro ⟨t,rfl⟩;exact ⟨t,rfl⟩
end Go.Proofs.YtmpdnpljdcincaaGreatDoor
